import Derived.Test.YtclpadlpcfnfmaaGreatAmL1
import Derived.WideLaws
import Derived.Laws.BytesString
section
/- Each operation does what the abstract machine says: those that only compute. -/
namespace Go.AM
open Go.RowKit (Below)
set_option linter.unusedSectionVars false
variable [Lay]
def Und (P:Program) (T:TypeId):Ty->Prop
 | .int k=>P.underlying T=some (.int k)
 | .bool=>P.underlying T=some .bool
 | .str=>P.underlying T=some .string
 | .sl e=>∃ ET ie,P.underlying T=some (.slice ET)/\P.info? ET=some ie/\ie.size=e.sz/\ie.zero=some (valOf e e.zcells)/\
   (∀ k,e = .int k->P.underlying ET=some (.int k))/\(e = .int .u8->ie.bytes=1)
 | .lk true=>P.underlying T=some (.interface (P.methodsAt T))
 | .lk false=>∃ U,P.underlying T=some (.pointer U)
 | .wrap _ | .pair _ _ | .arr _ _=>∃ d,P.underlying T=some d/\(match d with | .struct _ | .array _ _=>true | _=>false)=true
structure Fit (P:Program) (T:TypeId) (t:Ty):Prop where
 info:∃ i,P.info? T=some i/\i.size=t.sz/\i.zero=some (valOf t t.zcells)
 und:Und P T t
section
variable {P : Program} {B : Bd} {ok0 : Nat -> Nat -> Prop} {w0 w : World} {g : G} {σ : St} {a : Act} {o : Oper}
def DZ (P:Program) (B:Bd) (ok0:Nat->Nat->Prop) (w0:World) (s:Step) (o:Oper) (a:Act) (w:World):Prop:=
 ∀ (next:Act->World->Prop) (Q:Exit->Act->World->Prop),
  match s with
  | .no=>True
  | .go c σ'=>c=true->(∀ g' a' w',Inv B ok0 w0 g' σ' a' w'->a'.tmps.size=a.tmps.size->next a' w')->o.wp P a w next Q
  | .call _ m f=>∀ x,m=some x->(∀ g' a' w',Inv B ok0 w0 g' (f x) a' w'->a'.tmps.size=a.tmps.size->next a' w')->o.wp P a w next Q
theorem OR (a:Act) (d:Option Nat) (v:Value):(a.put d v).tmps.size=a.tmps.size:=by cases d <;> simp [Act.put]
theorem Js (hI:Inv B ok0 w0 g σ a w) (hd:∀ d,o.dst=some d->d<a.tmps.size) {c:Bool} {av:AV}
  (h:c=true->∃ v,(execOp a.eval o).run P w = .ok (.value v) w/\RepA (okG B ok0 g w) g σ w av v):DZ P B ok0 w0 (Fx o c σ av) o a w:=by
 intro next Q hc hn
 obtain ⟨v,hr,hv⟩:=h hc;unfold Oper.wp;rw [hr];exact hn g _ _ (hI.put hv hd) (OR _ _ _)
theorem Dx (hI:Inv B ok0 w0 g σ a w) (hd:∀ d,o.dst=some d->d<a.tmps.size) {av:AV} {v:Value}
  (hr:(execOp a.eval o).run P w = .ok (.value v) w) (hv:RepA (okG B ok0 g w) g σ w av v):DZ P B ok0 w0 (put o σ av) o a w:=
 Js hI hd (by simp_all)
theorem BF:DZ P B ok0 w0 .no o a w:=λ _ _=>trivial
theorem Rk {t:Ty} {x:t.D} {ok:Nat->Nat->Prop} {cs:List Value} (h:RepD ok w t x cs):RepA ok g σ w (.dat t x []) (valOf t cs):=
 ⟨cs,h,rfl,λ _ ht=>by cases ht⟩
theorem IM {ok:Nat->Nat->Prop} (k:IntKind) (n:Int):RepA ok g σ w (.dat (.int k) n []) (.int k n):=Rk (t:= .int k) (cs:=[.int k n]) rfl
theorem JY {ok:Nat->Nat->Prop} (b:Bool):RepA ok g σ w (.dat .bool b []) (.bool b):=Rk (t:= .bool) (cs:=[.bool b]) rfl
theorem W6 {ok:Nat->Nat->Prop} (s:ByteArray):RepA ok g σ w (.dat .str s []) (.string s):=Rk (t:= .str) (cs:=[.string s]) rfl
theorem of_int {ok:Nat->Nat->Prop} {k:IntKind} {n:Int} {gs:List Tag} {v:Value} (h:RepA ok g σ w (.dat (.int k) n gs) v):v = .int k n:=by
 obtain ⟨cs,h1,h2,_⟩:=h;subst h1;exact h2
theorem of_bool {ok:Nat->Nat->Prop} {b:Bool} {gs:List Tag} {v:Value} (h:RepA ok g σ w (.dat .bool b gs) v):v = .bool b:=by
 obtain ⟨cs,h1,h2,_⟩:=h;subst h1;exact h2
theorem Zlh {ok:Nat->Nat->Prop} {s:ByteArray} {gs:List Tag} {v:Value} (h:RepA ok g σ w (.dat .str s gs) v):v = .string s:=by
 obtain ⟨cs,h1,h2,_⟩:=h;subst h1;exact h2
theorem dG {ok:Nat->Nat->Prop} {e:Ty} {l:List e.D} {gs:List Tag} {v:Value} (h:RepA ok g σ w (.dat (.sl e) l gs) v):
  ∃ p n cap,v = .slice p n cap/\RepD ok w (.sl e) l [v]/\l.length=n/\n<=cap/\cap<=maxLen/\IB g σ.r w gs [v]:=by
 obtain ⟨cs,h1,h2,h3⟩:=h;have hh:=h1;obtain ⟨p,n,cap,rfl,hl,hn,hm,_⟩:=h1;have hv:v = .slice p n cap:=h2
 grind
theorem EM (hI:Inv B ok0 w0 g σ a w) (x:Operand):RepA (okG B ok0 g w) g σ w (Bm σ x) (a.eval x):=by
 cases x with
 | tmp t=>exact hI.slots t
 | func f=>exact ⟨[],rfl,trivial⟩
 | global n=>trivial
 | const v=>
  unfold Bm;split
  ·simp_all
  ·rename_i k n h;cases h;exact IM k n
  ·rename_i b h;cases h;exact JY b
  ·rename_i s h;cases h;exact W6 s
  ·rename_i h;cases h;rfl
  ·rename_i h;cases h;exact Rk (t:= .lk true) (x:=true) (cs:=[.nilIface]) ⟨_,rfl, .inl ⟨rfl,rfl⟩⟩
  ·simp_all
  ·trivial
theorem Yp6 {E:Env} {ok:Nat->Nat->Prop} {T:Nat} {av:AV} {v:Value} (h:RepA ok g σ w av v):RepA ok g σ w (coe E T av) v:=by
 unfold coe;split
 ·split
  ·rename_i e _;have hv:v = .slice none 0 0:=h;subst hv;refine ⟨[.slice none 0 0],⟨none,0,0,rfl,rfl,Au _,Nat.zero_le _,λ i x hi=>by simp at hi⟩,rfl,λ t ht=>?_⟩;have:t=⟨0,0,0,e.sg⟩:=by simp_all
   subst this;exact ⟨λ _=>rfl,λ h0=>absurd rfl h0⟩
  ·trivial
 simp_all
theorem Yqz {E:Env} (hI:Inv B ok0 w0 g σ a w) (hd:∀ d,o.dst=some d->d<a.tmps.size) {x:Operand} (ho:o.op = .move x\/o.op = .assign x):
  DZ P B ok0 w0 (put o σ (coe E o.type (Bm σ x))) o a w:=by
 refine Dx hI hd (v:=a.eval x) ?_ (Yp6 (EM hI x));rcases ho with ho | ho <;> · unfold execOp;simp_all
theorem Kt (hI:Inv B ok0 w0 g σ a w) {x:Operand} {k:IntKind} {n:Int} {gs:List Tag} (h:Bm σ x = .dat (.int k) n gs):a.eval x = .int k n:=
 of_int (by have:=EM hI x;rw [h] at this;exact this)
theorem iM (hI:Inv B ok0 w0 g σ a w) {x:Operand} {b:Bool} {gs:List Tag} (h:Bm σ x = .dat .bool b gs):a.eval x = .bool b:=
 of_bool (by have:=EM hI x;rw [h] at this;exact this)
theorem SC (hI:Inv B ok0 w0 g σ a w) {x:Operand} {s:ByteArray} {gs:List Tag} (h:Bm σ x = .dat .str s gs):a.eval x = .string s:=
 Zlh (by have:=EM hI x;rw [h] at this;exact this)
theorem Zu4 (hI:Inv B ok0 w0 g σ a w) (hd:∀ d,o.dst=some d->d<a.tmps.size) {op:BinOp} {T U:Nat} {x y:Operand} (ho:o.op = .binOp op T x y U)
  {k j:IntKind} {m n:Int} {g1 g2:List Tag} (hx:Bm σ x = .dat (.int k) m g1) (hy:Bm σ y = .dat (.int j) n g2):DZ P B ok0 w0 (OX op o σ k j m n) o a w:=by
 have ex:=Kt hI hx;have ey:=Kt hI hy;have B8:∀ v,(binOp op T (.int k m) (.int j n)).run P w = .ok v w->(execOp a.eval o).run P w = .ok (.value v) w:=by
  unfold execOp;have hg:eqGuard op T x y (.int k m) (.int j n)=pure ():=by unfold eqGuard;simp
  simp_all
 have Cg:∀ c:Int,BK n 0=true->¬ n=0:=λ _ h=>by simpa [BK] using h
 have Hs:BC 0 n=true->¬ n<0:=λ h=>by
  have h1:0<=n:=Az h;omega
 unfold OX;split
 ·exact Js hI hd λ h=>⟨_,B8 _ (by simp [binOp,Op.shift,if_neg (Hs h)];rfl),IM _ _⟩
 ·exact Js hI hd λ h=>⟨_,B8 _ (by simp [binOp,Op.shift,if_neg (Hs h)];rfl),IM _ _⟩
 ·split
  ·rename_i hkj;subst hkj;split
   ·exact Dx hI hd (B8 (.int k (A7 k m n)) (by simp [binOp,Op.intArith,A7])) (IM _ _)
   ·exact Dx hI hd (B8 (.int k (Bt k m n)) (by simp [binOp,Op.intArith,Bt])) (IM _ _)
   ·exact Dx hI hd (B8 (.int k (CI k m n)) (by simp [binOp,Op.intArith,CI])) (IM _ _)
   ·exact Js hI hd λ h=>⟨.int k (GB k m n),B8 _ (by simp [binOp,Op.intDiv,GB,Cg 0 h]),IM _ _⟩
   ·exact Js hI hd λ h=>⟨.int k (Ol m n),B8 _ (by simp [binOp,Op.intDiv,Ol,Cg 0 h]),IM _ _⟩
   ·exact Dx hI hd (B8 (.int k (Cb k m n)) (by simp [binOp,Op.intBits,Cb])) (IM _ _)
   ·exact Dx hI hd (B8 (.int k (Fa k m n)) (by simp [binOp,Op.intBits,Fa])) (IM _ _)
   ·exact Dx hI hd (B8 (.int k (Gd k m n)) (by simp [binOp,Op.intBits,Gd])) (IM _ _)
   ·exact Dx hI hd (B8 (.int k (Pc k m n)) (by simp [binOp,Op.intBits,Pc])) (IM _ _)
   ·exact Dx hI hd (B8 (.bool (A9 m n)) (by simp [binOp,Op.intCmp,A9])) (JY _)
   ·exact Dx hI hd (B8 (.bool (BK m n)) (by simp [binOp,Op.intCmp,BK])) (JY _)
   ·exact Dx hI hd (B8 (.bool (A8 m n)) (by simp [binOp,Op.intCmp,A8])) (JY _)
   ·exact Dx hI hd (B8 (.bool (BC m n)) (by simp [binOp,Op.intCmp,BC])) (JY _)
   ·exact Dx hI hd (B8 (.bool (A8 n m)) (by simp [binOp,Op.intCmp,A8])) (JY _)
   ·exact Dx hI hd (B8 (.bool (BC n m)) (by simp [binOp,Op.intCmp,BC])) (JY _)
   ·exact BF
  ·exact BF
theorem Zv4 (hI:Inv B ok0 w0 g σ a w) (hd:∀ d,o.dst=some d->d<a.tmps.size) {op:BinOp} {T U:Nat} {x y:Operand} (ho:o.op = .binOp op T x y U)
  {m n:ByteArray} {g1 g2:List Tag} (hx:Bm σ x = .dat .str m g1) (hy:Bm σ y = .dat .str n g2):DZ P B ok0 w0 (OY op o σ m n) o a w:=by
 have ex:=SC hI hx;have ey:=SC hI hy;have B8:∀ v,(Op.stringOp op m n).run P w = .ok v w->(execOp a.eval o).run P w = .ok (.value v) w:=by
  unfold execOp;have hg:eqGuard op T x y (.string m) (.string n)=pure ():=by unfold eqGuard;simp
  have hb:binOp op T (.string m) (.string n)=Op.stringOp op m n:=by cases op <;> rfl
  simp_all
 unfold OY;split
 ·refine Js hI hd λ h=>⟨.string (D8 m n),B8 _ ?_,W6 _⟩
  have h0:m.size+n.size<=9223372036854775807:=Az h;have h':(m.size:Int)+n.size<=9223372036854775807:=Ad
  have:¬ (((m.size+n.size:Nat):Int) > IntKind.i64.max):=by
   simp_all
  simp only [Op.stringOp,if_neg this];rfl
 ·exact Dx hI hd (B8 (.bool (Cz m n)) rfl) (JY _)
 ·exact Dx hI hd (B8 (.bool (!Cz m n)) rfl) (JY _)
 ·exact Dx hI hd (B8 (.bool (KK m n)) rfl) (JY _)
 ·exact Dx hI hd (B8 (.bool (KK m n || Cz m n)) rfl) (JY _)
 ·exact Dx hI hd (B8 (.bool (!(KK m n || Cz m n))) rfl) (JY _)
 ·exact Dx hI hd (B8 (.bool (!KK m n)) rfl) (JY _)
 ·exact BF
theorem Ynz (hI:Inv B ok0 w0 g σ a w) (hd:∀ d,o.dst=some d->d<a.tmps.size) {op:UnOp} {T:Nat} {x:Operand} (ho:o.op = .unOp op T x):
  DZ P B ok0 w0 (RC op o σ (Bm σ x)) o a w:=by
 have B8:∀ v,(Op.unary op (a.eval x)).run P w = .ok v w->(execOp a.eval o).run P w = .ok (.value v) w:=by
  unfold execOp;simp_all
 unfold RC;split
 ·rename_i hx;exact Dx hI hd (B8 _ (by rw [Kt hI hx];rfl)) (IM _ _)
 ·rename_i hx;exact Dx hI hd (B8 _ (by rw [Kt hI hx];rfl)) (IM _ _)
 ·rename_i hx;exact Dx hI hd (B8 _ (by rw [iM hI hx];rfl)) (JY _)
 ·exact BF
theorem Fit.size {T:TypeId} {t:Ty} (h:Fit P T t):(sizeOf T).run P w = .ok t.sz w:=by
 obtain ⟨i,hi,hs,_⟩:=h.info;simp [sizeOf,typeInfo,hi,hs]
theorem Fit.agg {T:TypeId} {t:Ty} (h:Fit P T t):(isAgg T).run P w = .ok t.isAgg w:=by
 have hu:=h.und;cases t with
 | int k=>simp [isAgg,run_underlying hu,Ty.isAgg]
 | bool=>simp [isAgg,run_underlying hu,Ty.isAgg]
 | str=>simp [isAgg,run_underlying hu,Ty.isAgg]
 | sl e=>obtain ⟨ET,ie,hu,_⟩:=hu;simp [isAgg,run_underlying hu,Ty.isAgg]
 | wrap a=>obtain ⟨d,hu,hd⟩:=hu;cases d <;> simp_all [isAgg,run_underlying hu,Ty.isAgg]
 | pair a b=>obtain ⟨d,hu,hd⟩:=hu;cases d <;> simp_all [isAgg,run_underlying hu,Ty.isAgg]
 | arr m e=>obtain ⟨d,hu,hd⟩:=hu;cases d <;> simp_all [isAgg,run_underlying hu,Ty.isAgg]
 | lk k=>cases k with
  | true=>simp [isAgg,run_underlying hu,Ty.isAgg]
  | false=>obtain ⟨U,hu⟩:=hu;simp [isAgg,run_underlying hu,Ty.isAgg]
theorem Fit.load {T:TypeId} {t:Ty} (h:Fit P T t) {ok:Nat->Nat->Prop} {x:t.D} {cs:List Value} (hr:RepD ok w t x cs) {b o:Nat}
  (hc:∀ j u,cs[j]? = some u->w.cell? ⟨b,o+j,none⟩=some u):(loadVar T ⟨b,o,none⟩).run P w = .ok (valOf t cs) w:=by
 have hl:=run_loadCells_list (P:=P) w ⟨b,o,none⟩ cs (λ j u hj=>by rw [IN _ rfl];simp_all);unfold loadVar;simp [Sem.run_bind,h.agg];cases ha:t.isAgg with
 | true=>
  simp [h.size,Result.andThen_ok];rw [hr.len] at hl;rw [hl];simp [valOf,ha]
 | false=>
  have h1:=uT hr ha;have h2:=hc 0 (valOf t cs) (by grind);simp [Nat.add_zero] at h2;simp [h2]
structure EnvOk (P:Program) (E:Env):Prop where
 ty:∀ T t,E.ty T=some t->Fit P T t
 fo:∀ S f d u,E.fo S f=some (d,u)->∃ fs fl,P.underlying S=some (.struct fs)/\fs[f]? = some fl/\fl.offset=d/\Fit P fl.type u
 ar:∀ T n e,E.ar T=some (n,e)->∃ ET,P.underlying T=some (.array n ET)/\Fit P ET e/\n<=maxLen/\
  ∃ i,P.info? T=some i/\i.zero=some (.agg (List.replicate n e.zcells).flatten.toArray)
 arMax:∀ T m e,E.ty T=some (.arr m e)->m+1<=maxLen
 by_:∀ T e ET ie,E.ty T=some (.sl e)->P.underlying T=some (.slice ET)->P.info? ET=some ie->ie.bytes=E.by_ T/\0<E.by_ T
 pl:∀ T t,E.ty T=some t->t.isAgg=true->∃ place:Nat->Option (Nat×Nat),(∀ i d u,E.pl T i=some (d,u)->place i=some (d,u.sz))/\
  ∀ (w:World) (parts:Array (Nat×Value)) (cells:Array Value),Instr.fill place t.zcells.toArray parts.toList=some cells->(Instr.build T parts).run P w = .ok (.agg cells) w
 eq:∀ T t,E.eq T=some t->∀ (ok:Nat->Nat->Prop) (w:World) (x y:t.D) (cs ds:List Value) (p q:Operand),RepD ok w t x cs->RepD ok w t y ds->
  (eqGuard .eql T p q (valOf t cs) (valOf t ds)).run P w = .ok () w/\(eqGuard .neq T p q (valOf t cs) (valOf t ds)).run P w = .ok () w/\
  (binOp .eql T (valOf t cs) (valOf t ds)).run P w = .ok (.bool (eqD t x y)) w/\(binOp .neq T (valOf t cs) (valOf t ds)).run P w = .ok (.bool (!eqD t x y)) w
 slf:∀ T t,E.ty T=some t->hasSlf t=true->T=Lay.bld
 byt:∀ T ET,E.ty T=some (.sl (.int .u8))->P.underlying T=some (.slice ET)->ET=Lay.byt
 mixed:P.follows .mixedOrders=true
variable {E : Env}
theorem Ysz {e:Ty} (h:e.sg=0):e = .int .u8:=by
 unfold Ty.sg at h;split at h
 ·rfl
 ·have:=e.Nk;omega
theorem EnvOk.qO (hE:EnvOk P E) {T ET:TypeId} {e:Ty} (hT:E.ty T=some (.sl e)) (hu:P.underlying T=some (.slice ET)) (h:e.sg=0):ET=Lay.byt:=by
 obtain rfl:=Ysz h;exact hE.byt T ET hT hu
theorem Yag (hE:EnvOk P E) (hI:Inv B ok0 w0 g σ a w) (hd:∀ d,o.dst=some d->d<a.tmps.size) {op:BinOp} {T U:Nat} {x y:Operand} (ho:o.op = .binOp op T x y U):
  DZ P B ok0 w0 (Qe E T op o σ (Bm σ x) (Bm σ y)) o a w:=by
 unfold Qe;split
 ·rename_i t m g1 u n g2 hx hy;split
  ·exact Zu4 hI hd ho hx hy
  ·exact Zv4 hI hd ho hx hy
  ·split
   ·rename_i e he;split
    ·rename_i m' n' hm hn;have rx:=EM hI x;rw [hx] at rx;have ry:=EM hI y;rw [hy] at ry;obtain ⟨cs,r1,v1,_⟩:=rx;obtain ⟨ds,r2,v2,_⟩:=ry;obtain ⟨e1,h1⟩:=F6 hm;obtain ⟨e2,h2⟩:=F6 hn;subst e1;subst e2;have Lh:n=n':=h2;obtain ⟨q1,q2,q3,q4⟩:=hE.eq T _ he _ w _ _ cs ds x y r1 r2;split
     ·refine Dx hI hd ?_ (JY _);unfold execOp;simp_all
     ·refine Dx hI hd ?_ (JY _);unfold execOp;simp_all
     ·exact BF
    ·exact BF
   ·exact BF
 ·exact BF
theorem Yzf (hE:EnvOk P E) (hI:Inv B ok0 w0 g σ a w) (hd:∀ d,o.dst=some d->d<a.tmps.size) {op:BinOp} {T U:Nat} {x y:Operand} (ho:o.op = .binOp op T x y U) (hy:UU y=true):
  DZ P B ok0 w0 (Qm E T op o σ (Bm σ x)) o a w:=by
 obtain rfl:y = .const .nilIface:=by
  unfold UU at hy
  grind
 unfold Qm;split
 ·rename_i b gs hT hx;have hu:P.underlying T=some (.interface (P.methodsAt T)):=(hE.ty T _ hT).und;have rx:=EM hI x;rw [hx] at rx;obtain ⟨cs,⟨v,rfl,hv⟩,RN,_⟩:=rx;have Zho:a.eval x=v:=RN;have key:(Op.equal T v .nilIface).run P w = .ok b w:=by
   rcases hv with ⟨rfl,rfl⟩ | ⟨rfl,T',u,rfl⟩
   ·exact run_equal_nil_nil w T hu
   ·exact run_equal_held_nil w T T' u hu
  have hg:∀ op:BinOp,(eqGuard op T x (.const .nilIface) v .nilIface).run P w = .ok () w:=by
   unfold eqGuard;rcases hv with ⟨_,rfl⟩ | ⟨_,T',u,rfl⟩ <;> cases op <;> simp
  have Y8:a.eval (.const .nilIface) = .nilIface:=rfl;split
  ·refine Dx hI hd ?_ (JY _);unfold execOp;rw [ho];have hb:(binOp .eql T v .nilIface).run P w = .ok (.bool b) w:=by
    rcases hv with ⟨_,rfl⟩ | ⟨_,T',u,rfl⟩ <;> simp [binOp,key]
   simp [Zho,Y8,Sem.run_bind,hg,Result.andThen_ok,hb,Sem.run_pure]
  ·refine Dx hI hd ?_ (JY _);unfold execOp;rw [ho];have hb:(binOp .neq T v .nilIface).run P w = .ok (.bool !b) w:=by
    rcases hv with ⟨_,rfl⟩ | ⟨_,T',u,rfl⟩ <;> simp [binOp,key]
   simp [Zho,Y8,Sem.run_bind,hg,Result.andThen_ok,hb,Sem.run_pure]
  ·exact BF
 ·exact BF
theorem Zg0 (hI:Inv B ok0 w0 g σ a w) (hd:∀ d,o.dst=some d->d<a.tmps.size) {i:Nat} {x:Operand} (ho:o.op = .extract x i):
  DZ P B ok0 w0 (Rc i o σ (Bm σ x)) o a w:=by
 unfold Rc;split
 ·rename_i ds hx;have rx:=EM hI x;rw [hx] at rx;obtain ⟨vs,hv,hf⟩:=rx;split
  ·rename_i d QN;obtain ⟨v,hvi,hr⟩:=hf.get QN;refine Dx hI hd (v:=v) ?_ hr;unfold execOp;rw [ho];simp [hv,Instr.extract,List.getElem?_toArray,hvi,Sem.run_bind,Sem.run_pure,Result.andThen_ok]
  ·exact BF
 ·exact BF
theorem Bq {i n:Int} (h:Bf i n=true):0<=i/\i<n:=by
 unfold Bf at h;simp_all
theorem Dg {l h n:Int} (hc:CJ l h n=true):0<=l/\l<=h/\h<=n:=by
 unfold CJ at hc;simp_all
theorem KS (s:ByteArray) (i:Int) (h0:0<=i) (h1:i<s.size):∃ b,s[i.toNat]? = some b/\(b.toNat:Int)=byteAt s i:=by
 have Xxh:i.toNat<s.data.toList.length:=by simp_all
 refine ⟨s[i.toNat],Ah,?_⟩;unfold byteAt;rw [AK,AD Xxh];rfl
theorem Yeg (hE:EnvOk P E) (hI:Inv B ok0 w0 g σ a w) (hd:∀ d,o.dst=some d->d<a.tmps.size) {T:Nat} {x i:Operand} (ho:o.op = .index T x i):
  DZ P B ok0 w0 (Rp E T o σ (Bm σ x) (Bm σ i)) o a w:=by
 unfold Rp;split
 ·rename_i s g1 k n g2 hT hx hi;refine Js hI hd λ hc=>?_
  have VP:0<=n/\n<(s.size:Int):=Bq hc;obtain ⟨b,hb,R3⟩:=KS s n VP.1 VP.2;refine ⟨.int .u8 (byteAt s n),?_,IM _ _⟩;have hu:P.underlying T=some .string:=(hE.ty T _ hT).und;unfold execOp;rw [ho];simp [SC hI hx,Kt hI hi,Instr.index,asIntOf,Sem.run_bind,Sem.run_pure,Result.andThen_ok,run_underlying hu,if_pos VP.1,hb,R3]
 ·exact BF
theorem Zcv (hE:EnvOk P E) (hI:Inv B ok0 w0 g σ a w) (hd:∀ d,o.dst=some d->d<a.tmps.size) {S f:Nat} {x:Operand} (ho:o.op = .fieldAddr S x f):
  DZ P B ok0 w0 (OL E S f o σ (Bm σ x)) o a w:=by
 unfold OL;split
 ·rename_i d u Px;obtain ⟨fs,fl,hu,hf,YM,Ei⟩:=hE.fo S f d u Px;have B8:∀ b o',a.eval x = .pointer (some ⟨b,o',none⟩)->(execOp a.eval o).run P w = .ok (.value (.pointer (some ⟨b,o'+d,none⟩))) w:=by
   intro b o' hx;have BL:¬ u.sz=0:=by have:=u.Nk;omega
   unfold execOp;rw [ho];simp [hx,Instr.fieldAt,Sem.run_bind,run_underlying hu,Result.andThen_ok,hf,Instr.sureAddr,Sem.run_pure,fieldPlace,Ei.size,if_neg BL,IN ⟨b,o',none⟩ rfl,YM]
  have rx:=EM hI x;split
  ·rename_i id ver off hx;rw [hx] at rx;obtain ⟨h1,h2⟩:=rx;split
   ·rename_i hv;obtain ⟨b,ff,hb,hp⟩:=h2 hv;exact Dx hI hd (B8 b off hp) ⟨h1,λ _=>⟨b,ff,hb,rfl⟩⟩
   ·exact BF
  ·rename_i id ver i off hx;rw [hx] at rx;obtain ⟨h1,h2⟩:=rx;split
   ·rename_i hv;obtain ⟨b,ff,e,l,fz,hb,hc,hi,hp⟩:=h2 hv;exact Dx hI hd (B8 b _ hp) ⟨h1,λ _=>⟨b,ff,e,l,fz,hb,hc,hi,by rw [Nat.add_assoc]⟩⟩
   ·exact BF
  ·rename_i t y off hx;rw [hx] at rx;obtain ⟨b,o',ys,hp,hr,hc⟩:=rx;exact Dx hI hd (B8 b _ hp) ⟨b,o',ys,by rw [Nat.add_assoc],hr,hc⟩
  ·exact BF
 ·exact BF
theorem Zax (hI:Inv B ok0 w0 g σ a w) (hd:∀ d,o.dst=some d->d<a.tmps.size) {x:Operand} (ho:o.op = .nilCheck x):
  DZ P B ok0 w0 (EP E σ o) o a w:=by
 have B8:∀ A:Addr,a.eval x = .pointer (some A)->(execOp a.eval o).run P w = .ok (.value (.pointer (some A))) w:=by
  unfold execOp;simp_all
 have rx:=EM hI x;unfold EP;rw [ho];dsimp only;split
 ·rename_i id ver off hx;rw [hx] at rx;split
  ·rename_i hv;obtain ⟨b,ff,hb,hp⟩:=rx.2 hv;exact Dx hI hd (B8 _ hp) (by simp_all)
  ·exact BF
 ·rename_i id ver i off hx;rw [hx] at rx;split
  ·rename_i hv;obtain ⟨b,ff,e,l,fz,hb,hc,hi,hp⟩:=rx.2 hv;exact Dx hI hd (B8 _ hp) (by grind)
  ·exact BF
 ·rename_i t y off hx;rw [hx] at rx;obtain ⟨b,o',ys,hp,hr,hc⟩:=rx;exact Dx hI hd (B8 _ hp) ⟨b,o',ys,rfl,hr,hc⟩
 ·exact BF
theorem jM {gs:List Tag} {cs:List Value} {off sz:Nat} (h:IB g σ.r w gs cs):IB g σ.r w (eb gs off sz) ((cs.drop off).take sz):=by
 intro t ht;obtain ⟨u,hu,he⟩:=List.mem_filterMap.1 ht;split at he
 ·have QL:=Option.some.inj he;subst QL;obtain ⟨h1,h2⟩:=h u hu;have Nw:((cs.drop off).take sz)[u.off-off]? = cs[u.off]?:=by
   grind
  unfold Yi;simp_all
 simp_all
theorem yK {u:Ty} {T:Nat} (Ei:Fit P T u) {ok:Nat->Nat->Prop} {y:u.D} {cs:List Value} {off:Nat} (hs:RepD ok w u y ((cs.drop off).take u.sz)):
  (part T cs.toArray off).run P w = .ok (valOf u ((cs.drop off).take u.sz)) w:=by
 unfold part;simp only [Sem.run_bind,Ei.agg];cases ha:u.isAgg with
 | true=>
  simp only [if_true,Sem.run_bind,Ei.size,Result.andThen_ok,valOf,ha];simp
 | false=>
  have h1:=uT hs ha;have h2:cs[off]? = some (valOf u ((cs.drop off).take u.sz)):=by
   have h3:((cs.drop off).take u.sz)[0]? = some (valOf u ((cs.drop off).take u.sz)):=by
    grind
   grind
  simp [h2]
theorem Ydg (hE:EnvOk P E) (hI:Inv B ok0 w0 g σ a w) (hd:∀ d,o.dst=some d->d<a.tmps.size) {S f:Nat} {x:Operand} (ho:o.op = .field S x f):
  DZ P B ok0 w0 (Ro E S f o σ (Bm σ x)) o a w:=by
 unfold Ro;split
 ·rename_i d u Px;obtain ⟨fs,fl,hu,hf,YM,Ei⟩:=hE.fo S f d u Px;have rx:=EM hI x;split
  ·rename_i t y gs hx;rw [hx] at rx;obtain ⟨cs,hr,hv,ht⟩:=rx;split
   ·rename_i Pn;split
    ·rename_i z hz;obtain ⟨hs,hb⟩:=P2 hz hr;refine Dx hI hd ?_ ⟨_,hs,rfl,jM ht⟩;unfold execOp;rw [ho];simp [hv,Instr.field,Sem.run_bind,run_underlying hu,Result.andThen_ok,hf,YM];rw [show asAgg (valOf t cs)=pure cs.toArray by simp [valOf,Pn,asAgg]];simp [Sem.run_pure,Result.andThen_ok,yK Ei hs]
    ·exact BF
   ·exact BF
  ·exact BF
 ·exact BF
theorem fX {T ET:Nat} {ie:TypeInfo} (hu:P.underlying T=some (.slice ET)) (hi:P.info? ET=some ie) {A:Addr} (hA:A.spot=none) {n cap:Nat} {k:IntKind} {i:Int} (h0:0<=i) (h1:i<n):
  (Instr.indexAt T (.slice (some A) n cap) (.int k i)).run P w = .ok (.pointer (some ⟨A.block,A.off+i.toNat*ie.size,none⟩)) w:=by
 have AY:0<=i/\i<(n:Int):=⟨h0,h1⟩;simp [Instr.indexAt,asIntOf,run_underlying hu,sizeOf,typeInfo,hi,AY,IN A hA]
theorem Zzs {T ET:Nat} {ie:TypeInfo} {n:Nat} (hu:P.underlying T=some (.array n ET)) (hi:P.info? ET=some ie) {A:Addr} (hA:A.spot=none) {k:IntKind} {i:Int} (h0:0<=i) (h1:i<n):
  (Instr.indexAt T (.pointer (some A)) (.int k i)).run P w = .ok (.pointer (some ⟨A.block,A.off+i.toNat*ie.size,none⟩)) w:=by
 have AY:0<=i/\i<(n:Int):=⟨h0,h1⟩;simp [Instr.indexAt,asIntOf,Instr.sureAddr,run_underlying hu,sizeOf,typeInfo,hi,AY,IN A hA]
theorem Yq6 {e:Ty} {l:List e.D} {i:Int} (h0:0<=i) (h1:i<(l.length:Int)):l[i.toNat]? = some (at' l i):=by
 unfold at';simp_all
theorem Zdv (hE:EnvOk P E) (hI:Inv B ok0 w0 g σ a w) (hd:∀ d,o.dst=some d->d<a.tmps.size) {T:Nat} {x i:Operand} (ho:o.op = .indexAddr T x i):
  DZ P B ok0 w0 (OM E T o σ (Bm σ x) (Bm σ i)) o a w:=by
 unfold OM;have B8:∀ u v,a.eval x=u->(Instr.indexAt T u (a.eval i)).run P w = .ok v w->(execOp a.eval o).run P w = .ok (.value v) w:=by
  unfold execOp;simp_all
 split
 ·rename_i k n gi hi;have EX:=Kt hI hi;have rx:=EM hI x;split
  ·rename_i e l gs hx;rw [hx] at rx;split
   ·rename_i e' hT;obtain ⟨ET,ie,hu,Tw,BL,_⟩:=(hE.ty T _ hT).und;split
    ·obtain ⟨p,m,cap,hv,hr,hl,_⟩:=dG rx;refine Js hI hd λ hc=>?_
     obtain ⟨h0,h1⟩:=Bq hc;unfold AZ at h1;obtain ⟨p',m',Dr,IT,Im,_,_,D0⟩:=hr;have hpe:(Value.slice p m cap) = .slice p' m' Dr:=by simp_all
     cases hpe;obtain ⟨A,hA,Fl,ys,hy,CU⟩:=D0 n.toNat (at' l n) (Yq6 h0 h1);subst hA;refine ⟨_,B8 _ _ hv (by rw [EX];exact fX hu Tw Fl h0 Ad),A.block,A.off+n.toNat*e.sz,ys,by simp_all,hy,λ j u hj=>?_⟩
     grind
    ·exact BF
   ·exact BF
  ·rename_i id ver hx;rw [hx] at rx;split
   ·rename_i m e e' l fz hT hc;split
    ·rename_i Ms;obtain ⟨b,f,hb,hp⟩:=rx.2 Ms.1;obtain ⟨ET,hu,Ei,_⟩:=hE.ar T m e hT;obtain ⟨ie,Tw,BL,_⟩:=Ei.info;refine Js hI hd λ IU=>?_
     rw [Bool.and_eq_true] at IU;obtain ⟨h0,h1⟩:=Bq IU.1;have Lg:m=l.length:=by simp_all
     refine ⟨_,B8 _ _ hp (by rw [EX];exact Zzs hu Tw rfl h0 h1),rx.1,λ _=>⟨b,f,e',l,fz,hb,hc,Ad,?_⟩⟩;simp_all
    ·exact BF
   ·exact BF
  ·rename_i id ver hx;rw [hx] at rx;split
   ·rename_i e e' l fz hT hc;split
    ·rename_i Ms;obtain ⟨e2,l2,IG,CB,I0⟩:=rx.2 Ms.1;rw [hc] at CB;cases CB;obtain ⟨ET,ie,hu,Tw,BL,_⟩:=(hE.ty T _ hT).und;refine Js hI hd λ IU=>?_
     obtain ⟨h0,h1⟩:=Bq IU;unfold AZ at h1;obtain ⟨b,f,cap,hb,_,_,hp⟩:=I0.get Ad;refine ⟨_,B8 _ _ hp (by rw [EX];exact fX hu Tw rfl h0 h1),rx.1,λ _=>⟨b,f,e',l,fz,hb,hc,Ad,?_⟩⟩;simp_all
    ·exact BF
   ·exact BF
  ·rename_i id ver lo m hx;rw [hx] at rx;split
   ·rename_i e e' l fz hT hc;split
    ·rename_i Ms;obtain ⟨e2,l2,IG,A,cap,CB,NS,Gf,Ds,hA,Mr,hp⟩:=rx.2 Ms.1;rw [hc] at CB;cases CB;obtain ⟨ET,ie,hu,Tw,BL,_⟩:=(hE.ty T _ hT).und;refine Js hI hd λ IU=>?_
     obtain ⟨h0,h1⟩:=Bq IU;obtain ⟨b,f,hb,ED⟩:=hA Ad;subst ED;refine ⟨_,B8 _ _ hp (by rw [EX];exact fX hu Tw rfl h0 h1),rx.1,λ _=>⟨b,f,e',l,fz,hb,hc,Ad,?_⟩⟩
     grind
    ·exact BF
   ·exact BF
  ·exact BF
 ·exact BF
end
end Go.AM
end

section
/- Operations that read memory: loads, slices, conversions. -/
namespace Go.AM
open Go.RowKit (Below)
set_option linter.unusedSectionVars false
variable [Lay]
section
variable {P : Program} {B : Bd} {ok0 : Nat -> Nat -> Prop} {w0 w : World} {g : G} {σ : St} {a : Act} {o : Oper} {E : Env}
def Jr (ok:Nat->Nat->Prop) (w:World) (e:Ty) (l:List e.D) (cs:List Value):Prop:=
 cs.length=l.length*e.sz/\∀ (i:Nat) (x:e.D),l[i]? = some x->∃ ys,RepD ok w e x ys/\∀ j u,ys[j]? = some u->cs[i*e.sz+j]? = some u
theorem Ue {ok:Nat->Nat->Prop} {e:Ty} {c:Nat->Option Value}:∀ {l:List e.D} {base:Nat},
  (∀ (i:Nat) (x:e.D),l[i]? = some x->∃ ys,RepD ok w e x ys/\∀ j u,ys[j]? = some u->c (base+(i*e.sz+j))=some u)->
  ∃ cs,Jr ok w e l cs/\(∀ j u,cs[j]? = some u->c (base+j)=some u)/\∀ u∈cs,u.oneCell'=true
 | [],base,_=>⟨[],⟨Ah,λ i x h=>by simp at h⟩,λ j u h=>by simp at h,λ u h=>by cases h⟩
 | x :: l,base,h=>by
  obtain ⟨ys,hy,hc⟩:=h 0 x rfl
  obtain ⟨cs,⟨hl,hr⟩,h2,h3⟩:=Ue (l:=l) (base:=base+e.sz) (λ i z hi=>by
   obtain ⟨zs,hz,Jk⟩:=h (i+1) z (by simpa using hi)
   exact ⟨zs,hz,λ j u hj=>by have:=Jk j u hj;rw [show base+e.sz+(i*e.sz+j)=base+((i+1)*e.sz+j) by rw [Nat.add_mul];omega];exact this⟩)
  have Iv:=hy.len;refine ⟨ys++cs,⟨by rw [Ap,Iv,hl,Aw,Nat.add_mul];omega,λ i z hi=>?_⟩,λ j u hj=>?_,λ u hu=>?_⟩
  ·cases i with
   | zero=>
    simp only [List.getElem?_cons_zero,Option.some.injEq] at hi;subst hi;refine ⟨ys,hy,λ j u hj=>?_⟩;have:=(List.getElem?_eq_some_iff.1 hj).1;rw [Nat.zero_mul,AF,AR Ad];exact hj
   | succ i=>
    obtain ⟨zs,hz,Jk⟩:=hr i z (by simpa using hi);refine ⟨zs,hz,λ j u hj=>?_⟩;rw [AJ (by rw [Nat.add_mul];omega),show (i+1)*e.sz+j-ys.length=i*e.sz+j by rw [Nat.add_mul];omega];exact Jk j u hj
  ·by_cases AY:j<ys.length
   ·rw [AR AY] at hj;have:=hc j u hj;rw [Nat.zero_mul,AF] at this;exact this
   ·rw [AJ Ad] at hj;have:=h2 _ _ hj;rw [show base+e.sz+(j-ys.length)=base+j by omega] at this;exact this
  ·rcases List.mem_append.1 hu with hu | hu
   ·exact hy.one u hu
   ·exact h3 u hu
theorem fN {α:Type} {l:List α} {lo n i:Nat} {x:α} (h:((l.drop lo).take n)[i]? = some x):i<n/\l[lo+i]? = some x:=by
 rw [AQ] at h;split at h
 ·rw [List.getElem?_drop] at h;exact ⟨by assumption,h⟩
 ·cases h
theorem Zi0 (hI:Inv B ok0 w0 g σ a w) {e:Ty} {av:AV} {v:Value} {l:List e.D} (h:content σ e av=some l) (hr:RepA (okG B ok0 g w) g σ w av v):
  ∃ p n cap,v = .slice p n cap/\l.length=n/\n<=cap/\cap<=maxLen/\∀ (i:Nat) (x:e.D),l[i]? = some x->∃ A:Addr,p=some A/\A.spot=none/\
   ∃ ys,RepD (okG B ok0 g w) w e x ys/\∀ j u,ys[j]? = some u->w.cell? ⟨A.block,A.off+(i*e.sz+j),none⟩=some u:=by
 unfold content at h;split at h
 ·rename_i t x gs;obtain ⟨ht,hx⟩:=F6 h;subst ht;have D2:x=l:=hx;subst D2;obtain ⟨p,n,cap,hv,FL,hl,hn,hm,_⟩:=dG hr;subst hv;obtain ⟨p',n',Dr,IT,_,_,_,hc⟩:=FL;cases IT;refine ⟨p,n,cap,rfl,hl,hn,hm,λ i x hi=>?_⟩;obtain ⟨A,hA,hs,ys,hy,CU⟩:=hc i x hi;exact ⟨A,hA,hs,ys,hy,λ j u hj=>(CU j u hj).2⟩
 ·have hl:=Option.some.inj h;subst hl;exact ⟨none,0,0,hr,rfl,Au _,Nat.zero_le _,λ i x hi=>by simp at hi⟩
 ·rename_i id ver;split at h
  ·rename_i hv;split at h
   ·rename_i e' l' fz hc;obtain ⟨ht,hx⟩:=F6 h;cases ht;have D2:l'=l:=hx;subst D2;obtain ⟨e2,l2,IG,CB,I0⟩:=hr.2 hv;rw [hc] at CB;cases CB;obtain ⟨p,cap,hp,Gf,Ly,hA,_⟩:=I0.form;refine ⟨_,_,_,hp,rfl,Gf,Ly,λ i x hi=>?_⟩;obtain ⟨b,f,hb,ED⟩:=hA (by have:=(List.getElem?_eq_some_iff.1 hi).1;omega);subst ED;obtain ⟨Km,cur,T,ym,hh,Ji,BL,Ds,Cj⟩:=hI.IE hb hc;obtain ⟨ys,hy,CU⟩:=Cj i x hi;refine ⟨_,rfl,rfl,ys,hy,λ j u hj=>?_⟩;simp only [World.cell?,hh,AF];exact CU j u hj
   ·cases h
  ·cases h
 ·rename_i id ver lo n;split at h
  ·rename_i hv;split at h
   ·rename_i e' l' fz hc;obtain ⟨ht,hx⟩:=F6 h;cases ht;have D2:(l'.drop lo).take n=l:=hx;subst D2;obtain ⟨e2,l2,IG,A,cap,CB,NS,Gf,Ly,hA,Mr,hp⟩:=hr.2 hv;rw [hc] at CB;cases CB;refine ⟨A,n,cap,hp,by rw [Ar,List.length_drop];omega,Gf,Ly,λ i x hi=>?_⟩;obtain ⟨Dc,hi'⟩:=fN hi;obtain ⟨b,f,hb,ED⟩:=hA Ad;obtain ⟨Km,cur,T,ym,hh,Ji,BL,Ds,Cj⟩:=hI.IE hb hc;obtain ⟨ys,hy,CU⟩:=Cj _ x hi';refine ⟨_,ED,rfl,ys,hy,λ j u hj=>?_⟩;simp only [World.cell?,hh];rw [show lo*e.sz+(i*e.sz+j)=(lo+i)*e.sz+j by rw [Nat.add_mul];omega];exact CU j u hj
   ·cases h
  ·cases h
 ·cases h
theorem ZD (hI:Inv B ok0 w0 g σ a w) {e:Ty} {av:AV} {v:Value} {l:List e.D} (h:content σ e av=some l) (hr:RepA (okG B ok0 g w) g σ w av v):
  ∃ p n cap cs,v = .slice p n cap/\l.length=n/\n<=cap/\cap<=maxLen/\Jr (okG B ok0 g w) w e l cs/\(∀ u∈cs,u.oneCell'=true)/\
   (n=0\/∃ A:Addr,p=some A/\A.spot=none/\∀ j u,cs[j]? = some u->w.cell? ⟨A.block,A.off+j,none⟩=some u):=by
 obtain ⟨p,n,cap,hv,hl,hn,hm,hc⟩:=Zi0 hI h hr;cases fy:l with
 | nil=>exact ⟨p,n,cap,[],hv,by rw [fy] at hl;exact hl,hn,hm,⟨Ah,λ i x hi=>by simp at hi⟩,(λ u hu=>by cases hu), .inl (by rw [fy] at hl;exact hl.symm)⟩
 | cons x0 l0=>
  obtain ⟨A,hA,hs,_⟩:=hc 0 x0 (by rw [fy];rfl)
  obtain ⟨cs,h1,h2,h3⟩:=Ue (ok:=okG B ok0 g w) (w:=w) (e:=e) (c:=λ k=>w.cell? ⟨A.block,k,none⟩) (l:=l) (base:=A.off) (λ i x hi=>by
   obtain ⟨A',ED,_,ys,hy,CU⟩:=hc i x hi;rw [hA] at ED;cases ED
   exact ⟨ys,hy,CU⟩)
  rw [fy] at hl h1;exact ⟨p,n,cap,cs,hv,hl,hn,hm,h1,h3, .inr ⟨A,hA,hs,h2⟩⟩
theorem Ymz (hE:EnvOk P E) (hI:Inv B ok0 w0 g σ a w) (hd:∀ d,o.dst=some d->d<a.tmps.size) {T:Nat} {x:Operand} (ho:o.op = .load T x):
  DZ P B ok0 w0 (Pd E T o σ (Bm σ x)) o a w:=by
 have rx:=EM hI x;have B8:∀ b o' v,a.eval x = .pointer (some ⟨b,o',none⟩)->(loadVar T ⟨b,o',none⟩).run P w = .ok v w->(execOp a.eval o).run P w = .ok (.value v) w:=by
  intro b o' v hx hv;unfold execOp;rw [ho];simp only [hx,Instr.loadAt,Instr.sureAddr,Sem.run_bind,Sem.run_pure,Result.andThen_ok,hv]
 unfold Pd;split
 ·rename_i id ver off hx;rw [hx] at rx;split
  ·rename_i hv;obtain ⟨b,f,hb,hp⟩:=rx.2 hv;split
   ·rename_i t z gs hc;obtain ⟨Km,cs,TT,hh,hr,_,ht⟩:=hI.IE hb hc;split
    ·rename_i u hu;split
     ·rename_i y hy;obtain ⟨hs,fh⟩:=P2 hy hr
      have hl:=(hE.ty T u hu).load (b:=b) (o:=off) hs (λ j v hj=>by
       rw [AQ] at hj;split at hj
       ·rw [List.getElem?_drop] at hj;simp only [World.cell?,hh];simpa using hj
       ·cases hj)
      exact Dx hI hd (B8 b off _ hp hl) ⟨_,hs,rfl,jM ht⟩
     ·exact BF
    ·exact BF
   ·rename_i e l fz hc;obtain ⟨Km,cur,TT,ym,hh,Ji,BL,Ds,Cj⟩:=hI.IE hb hc;have one:DZ P B ok0 w0 (Rj E T o σ e l off) o a w:=by
     unfold Rj;split
     ·rename_i z;split
      ·rename_i u hu;split
       ·rename_i y hy;obtain ⟨ys,hr,VE⟩:=Cj 0 z rfl;obtain ⟨hs,fh⟩:=P2 hy hr
        have hl:=(hE.ty T u hu).load (b:=b) (o:=off) hs (λ j v hj=>by
         rw [AQ] at hj;split at hj
         ·rw [List.getElem?_drop] at hj;simp only [World.cell?,hh];simpa using VE (off+j) v hj
         ·cases hj)
        exact Dx hI hd (B8 b off _ hp hl) (Rk hs)
       ·exact BF
      ·exact BF
     ·exact BF
    split
    ·rename_i m e' hT;split
     ·rename_i h0;obtain ⟨rfl,rfl⟩:=h0;unfold UH;split
      ·rename_i l' Im;obtain ⟨_,D2⟩:=F6 Im;have YI:l=l':=D2;subst YI;refine Js hI hd λ IU=>?_
       have hlen:List.length (α:=e'.D) l=m+1:=Az IU
       obtain ⟨cs,Fg,CM,_⟩:=Ue (ok:=okG B ok0 g w) (w:=w) (e:=e') (c:=λ k=>cur[k]?) (l:=l) (base:=0) (λ i x hi=>by
        obtain ⟨ys,hy,CU⟩:=Cj i x hi
        exact ⟨ys,hy,λ j u hj=>by rw [AF];exact CU j u hj⟩)
       have FL:RepD (okG B ok0 g w) w (.arr m e') l cs:=by
        refine ⟨hlen,by rw [Fg.1,hlen],λ i x hi=>?_⟩;obtain ⟨ys,hy,CU⟩:=Fg.2 i x hi;have Iv:=hy.len;have:(cs.drop (i*e'.sz)).take e'.sz=ys:=by
         apply List.ext_getElem?;intro j;rw [AQ];split
         ·rename_i hj;rw [List.getElem?_drop,AD (show j<ys.length by omega)];exact CU j _ (AD Ad)
         ·rw [List.getElem?_eq_none Ad]
        rw [this];exact hy
       refine ⟨_,B8 b 0 _ hp ((hE.ty T _ hT).load (b:=b) (o:=0) FL (λ j v hj=>?_)),⟨cs,FL,rfl,λ t ht=>by cases ht⟩⟩;have:=CM j v hj;simp only [World.cell?,hh];simpa using this
      ·exact BF
     ·exact one
    ·exact one
   ·exact BF
  ·exact BF
 ·rename_i id ver i off hx;rw [hx] at rx;split
  ·rename_i hv;split
   ·rename_i e l fz hc;obtain ⟨b,f,e2,l2,IG,hb,CB,hi,hp⟩:=rx.2 hv;rw [hc] at CB;cases CB;obtain ⟨Km,cur,TT,ym,hh,Ji,BL,Ds,Cj⟩:=hI.IE hb hc;split
    ·rename_i u hu;split
     ·rename_i y hy;have R4:l[i]? = some (l.getD i e.zero):=by rw [AK,AD hi];rfl
      obtain ⟨ys,EV,CU⟩:=Cj i _ R4;obtain ⟨hs,fh⟩:=P2 hy EV
      have hl:=(hE.ty T u hu).load (b:=b) (o:=i*e.sz+off) hs (λ j v hj=>by
       rw [AQ] at hj;split at hj
       ·rw [List.getElem?_drop] at hj;simp only [World.cell?,hh];have:=CU _ _ hj;rw [<- Nat.add_assoc] at this;simpa using this
       ·cases hj)
      exact Dx hI hd (B8 b _ _ hp hl) (Rk hs)
     ·exact BF
    ·exact BF
   ·exact BF
  ·exact BF
 ·rename_i t z off hx;rw [hx] at rx;obtain ⟨b,o',ys,hp,hr,hc⟩:=rx;split
  ·rename_i u hu;split
   ·rename_i y hy;obtain ⟨hs,fh⟩:=P2 hy hr
    have hl:=(hE.ty T u hu).load (b:=b) (o:=o'+off) hs (λ j v hj=>by
     rw [AQ] at hj;split at hj
     ·rw [List.getElem?_drop] at hj;have:=(hc _ _ hj).2;rw [<- Nat.add_assoc] at this;exact this
     ·cases hj)
    exact Dx hI hd (B8 b _ _ hp hl) (Rk hs)
   ·exact BF
  ·exact BF
 ·exact BF
theorem sX:∀ (l:List Int) (r:ByteArray),l.foldl (λ r n=>r.push (UInt8.ofNat n.toNat)) r=⟨r.data++(l.map λ n=>UInt8.ofNat n.toNat).toArray⟩
 | [],r=>by simp
 | n :: l,r=>by
  rw [List.foldl_cons,sX l];simp [ByteArray.push]
theorem Zt4 {ok:Nat->Nat->Prop} {k:IntKind}:∀ {l:List Int} {cs:List Value},Jr ok w (.int k) l cs->cs=l.map (Value.int k):=by
 intro l cs h;obtain ⟨hl,hr⟩:=h;apply List.ext_getElem?;intro i;by_cases hi:i<l.length
 ·obtain ⟨ys,hy,CU⟩:=hr i l[i] (AD hi);simp only [RepD] at hy;subst hy;have:=CU 0 _ rfl;simp only [Ty.sz,Nat.mul_one,Nat.add_zero] at this;rw [this,List.getElem?_map,AD hi];rfl
 ·simp only [Ty.sz,Nat.mul_one] at hl;rw [List.getElem?_eq_none Ad,List.getElem?_eq_none (by rw [Av];omega)]
theorem Ze0 (hE:EnvOk P E) (hI:Inv B ok0 w0 g σ a w) (hd:∀ d,o.dst=some d->d<a.tmps.size) {src dst:Nat} {x:Operand} (ho:o.op = .convert src dst x)
  (hs:¬ (E.ty src=some .str/\E.ty dst=some (.sl (.int .u8)))):
  DZ P B ok0 w0 (MA E src dst o σ (Bm σ x)) o a w:=by
 have B8:∀ v,(convert src dst (a.eval x)).run P w = .ok v w->(execOp a.eval o).run P w = .ok (.value v) w:=by
  intro v hv;unfold execOp;rw [ho];simp only [Sem.run_bind,hv,Result.andThen_ok,Sem.run_pure]
 unfold MA;split
 ·rename_i j k YP Hq;have u1:P.underlying src=some (.int j):=(hE.ty _ _ YP).und;have u2:P.underlying dst=some (.int k):=(hE.ty _ _ Hq).und;split
  ·rename_i n gs hx;refine Dx hI hd (B8 _ ?_) (IM _ _);rw [Kt hI hx];simp [convert,run_underlying u1,run_underlying u2,Conv.intToInt]
  ·exact BF
 ·rename_i YP Hq;have u1:P.underlying src=some .string:=(hE.ty _ _ YP).und;have u2:P.underlying dst=some .string:=(hE.ty _ _ Hq).und;split
  ·rename_i s gs hx;refine Dx hI hd (B8 _ ?_) (W6 _);rw [SC hI hx];simp [convert,run_underlying u1,run_underlying u2]
  ·exact BF
 ·rename_i YP Hq;obtain ⟨ET,ie,u1,EX,BL,hz,hk,_⟩:=(hE.ty _ _ YP).und;have u2:P.underlying dst=some .string:=(hE.ty _ _ Hq).und;have u3:=hk .u8 rfl;split
  ·rename_i l hl;obtain ⟨p,n,cap,cs,hv,DG,_,_,Cj,_,D0⟩:=ZD hI hl (EM hI x);have CM:=Zt4 Cj;refine Dx hI hd (B8 _ ?_) (W6 _);rw [hv,run_convert_bytes_string w src dst ET p n cap u1 u3 u2];cases p with
   | none=>
    have Du:n=0:=by
     rcases D0 with h | ⟨A,hA,_⟩
     ·exact h
     ·cases hA
    subst Du;have:l=[]:=AU DG;subst this;simp [Conv.bytesToString,ofBytes];rfl
   | some A=>
    have VU:(loadCells A n).run P w = .ok (l.map (Value.int .u8)).toArray w:=by
     rw [<- CM];have Mn:cs.length=n:=by rw [CM,Av];exact DG
     rw [<- Mn];refine run_loadCells_list (P:=P) w A cs λ j u hj=>?_
     rcases D0 with h | ⟨A',hA,E3,EH⟩
     ·have:=(List.getElem?_eq_some_iff.1 hj).1;omega
     ·cases hA;rw [IN A E3];exact EH j u hj
    rw [run_bytesToString w A n cap l VU,sX];simp [ofBytes]
  ·exact BF
 ·rename_i h1 h2;exact absurd ⟨h1,h2⟩ hs
 ·exact BF
def NB (d:Int):Option Value->Option Int
 | none=>some d
 | some (.int _ n)=>some n
 | _=>none
theorem O8 (hI:Inv B ok0 w0 g σ a w) {d n:Int} {x:Option Operand} (h:GH σ d x=some n):NB d (x.map a.eval)=some n:=by
 cases x with
 | none=>exact h
 | some x=>
  unfold GH at h;simp only at h;split at h
  ·rename_i k m gs hx;have:=Kt hI hx;simp only [Option.map_some,this,NB];exact h
  ·cases h
theorem hO {isSlice:Bool} {len cap:Nat} {lo hi:Option Value} {l h:Int} (hl:NB 0 lo=some l) (hh:NB len hi=some h) (VU:len<=cap) (hc:CJ l h len=true):
  (Instr.sliceBounds isSlice len cap lo hi none).run P w = .ok (l.toNat,h.toNat,cap) w:=by
 obtain ⟨h0,h1,h2⟩:=Dg hc;have hb:∀ (k:IntKind) (i:Int) (y:Nat) (code:BoundsCode),0<=i->i<=y->(Instr.sliceBound (.int k i) y code).run P w = .ok i.toNat w:=by
  intro k i y code h3 h4;have:0<=i/\i<=(y:Int):=⟨h3,h4⟩;simp [Instr.sliceBound,asIntOf,this]
 unfold Instr.sliceBounds;cases hi with
 | none=>
  simp only [NB,Option.some.injEq] at hh;subst hh;cases lo with
  | none=>
   simp only [NB,Option.some.injEq] at hl;subst hl;simp
  | some lv=>
   cases lv <;> simp only [NB] at hl <;> first | cases hl | skip
   simp [hb _ l len _ h0 h1]
 | some hv=>
  cases hv <;> simp only [NB] at hh <;> first | cases hh | skip
  cases lo with
  | none=>
   simp only [NB,Option.some.injEq] at hl;subst hl;simp [hb _ h cap _ h1 Ad]
  | some lv=>
   cases lv <;> simp only [NB] at hl <;> first | cases hl | skip
   simp [hb _ h cap _ Ad Ad,hb _ l h.toNat _ h0 Ad]
theorem ZF {T ET:Nat} {ie:TypeInfo} (hu:P.underlying T=some (.slice ET)) (hi:P.info? ET=some ie) {p:Option Addr} {n cap:Nat} {lo hi':Option Value} {l h:Int}
  (hl:NB 0 lo=some l) (hh:NB n hi'=some h) (hn:n<=cap) (hc:CJ l h n=true):
  (Instr.sliceAt T (.slice p n cap) lo hi' none).run P w = .ok (.slice (if cap=l.toNat then p else p.map (·.add (l.toNat*ie.size))) (h.toNat-l.toNat) (cap-l.toNat)) w:=by
 simp [Instr.sliceAt,Instr.slice,run_underlying hu,hO hl hh hn hc,sizeOf,typeInfo,hi]
theorem Yrz {ok:Nat->Nat->Prop} {e:Ty} {s:List e.D} {p:Option Addr} {n cap lo hi:Nat} (hr:RepD ok w (.sl e) s [.slice p n cap]) (h1:lo<=hi) (h2:hi<=n):
  RepD ok w (.sl e) ((s.take hi).drop lo) [.slice (if cap=lo then p else p.map (·.add (lo*e.sz))) (hi-lo) (cap-lo)]:=by
 obtain ⟨p',n',Dr,hv,hl,hn,hm,hc⟩:=hr;cases hv;refine ⟨_,_,_,rfl,by rw [List.length_drop,Ar];omega,Ad,Ad,λ i x hi'=>?_⟩;rw [List.getElem?_drop,AQ] at hi';split at hi'
 ·rename_i AY;obtain ⟨A,hA,hs,ys,hy,CU⟩:=hc _ x hi';subst hA;refine ⟨⟨A.block,A.off+lo*e.sz,none⟩,by rw [if_neg Ad];simp [IN A hs],rfl,ys,hy,λ j u hj=>?_⟩;have:=CU j u hj;simp only;rw [show A.off+lo*e.sz+(i*e.sz+j)=A.off+((lo+i)*e.sz+j) by rw [Nat.add_mul];omega];exact this
 ·cases hi'
theorem Ycg (hE:EnvOk P E) (hI:Inv B ok0 w0 g σ a w) (hd:∀ d,o.dst=some d->d<a.tmps.size) {T:Nat} {x:Operand} {lo hi:Option Operand} (ho:o.op = .slice T x lo hi none):
  DZ P B ok0 w0 (Qf E T o σ (Bm σ x) lo hi) o a w:=by
 have B8:∀ u v,a.eval x=u->(Instr.sliceAt T u (lo.map a.eval) (hi.map a.eval) none).run P w = .ok v w->(execOp a.eval o).run P w = .ok (.value v) w:=by
  intro u v hu hv;unfold execOp;rw [ho];subst hu;simp only [Option.map_none,Sem.run_bind,hv,Result.andThen_ok,Sem.run_pure]
 have rx:=EM hI x;unfold Qf;split
 ·rename_i t y gs hx;rw [hx] at rx;split
  ·rename_i s hT;have hu:P.underlying T=some .string:=(hE.ty _ _ hT).und;split
   ·rename_i l h hl hh;refine Js hI hd λ hc=>⟨_,B8 _ _ (Zlh rx) ?_,W6 _⟩
    have hb:=hO (P:=P) (w:=w) (isSlice:=false) (cap:=s.size) (O8 hI hl) (O8 hI hh) (Au _) hc;simp [Instr.sliceAt,Instr.slice,run_underlying hu,hb,cutS]
   ·exact BF
  ·rename_i e s e' hT;obtain ⟨ET,ie,hu,EX,BL,_⟩:=(hE.ty _ _ hT).und;split
   ·rename_i hes;obtain ⟨p,n,cap,hv,hr,DG,hn,hm,ht⟩:=dG rx;rw [hv] at hr ht;have go:∀ (l h:Int) (z:List e.D),GH σ 0 lo=some l->GH σ (n:Int) hi=some h->CJ l h (n:Int)=true->z=(s.take h.toNat).drop l.toNat->
      ∃ v,(execOp a.eval o).run P w = .ok (.value v) w/\RepA (okG B ok0 g w) g σ w (.dat (.sl e) z []) v:=by
     intro l h z hl hh hc hz;obtain ⟨c0,c1,c2⟩:=Dg hc;refine ⟨_,B8 _ _ hv (ZF hu EX (O8 hI hl) (O8 hI hh) hn hc),?_⟩;rw [BL,<- hes,hz];exact Rk (t:= .sl e) (Yrz hr Ad Ad)
    split
    ·-- the whole: nothing is cut off
     rename_i _ _;have qS:=ZF (P:=P) (w:=w) (T:=T) hu EX (p:=p) (n:=n) (cap:=cap) (lo:=none) (hi':=none) (l:=0) (h:=n) rfl rfl hn
      (by unfold CJ;simp)
     refine Dx hI hd (v:= .slice p n cap) (B8 _ _ hv ?_) ⟨_,hr,rfl,ht⟩;rw [show (Option.map a.eval none:Option Value)=none from rfl,qS];cases p with
     | none=>simp
     | some A=>simp [Addr.add]
    ·rename_i lo1;split
     ·rename_i l hl;refine Js hI hd λ hc=>go l (n:Int) _ hl rfl (by unfold AZ at hc;rw [DG] at hc;obtain ⟨c0,c1,c2⟩:=Dg hc;unfold CJ;simp;omega) ?_
      rw [show ((n:Int)).toNat=n from rfl,<- DG,AB]
     ·exact BF
    ·split
     ·rename_i h hh;refine Js hI hd λ hc=>go 0 h _ rfl (by simpa [GH] using hh) (by unfold AZ at hc;rw [DG] at hc;exact hc) rfl
     ·exact BF
    ·split
     ·rename_i l h hl hh;refine Js hI hd λ hc=>go l h _ hl (by simpa [GH] using hh) (by unfold AZ at hc;rw [DG] at hc;exact hc) rfl
     ·exact BF
   ·exact BF
  ·exact BF
 ·rename_i id ver hx;rw [hx] at rx;split
  ·rename_i n e e' s fz hT hc;split
   ·rename_i Ms;obtain ⟨b,f,hb,hp⟩:=rx.2 Ms.1;obtain ⟨ET,hu,Ei,Ds,_⟩:=hE.ar T n e hT;obtain ⟨ie,EX,BL,_⟩:=Ei.info;split
    ·rename_i l h hl hh;refine Js hI hd λ IU=>?_
     rw [Bool.and_eq_true] at IU;have Lg:n=s.length:=Az IU.2;obtain ⟨c0,c1,c2⟩:=Dg IU.1;have FW:=hO (P:=P) (w:=w) (isSlice:=false) (cap:=n) (O8 hI hl) (O8 hI hh) (Au _) IU.1;refine ⟨.slice (some (if n=l.toNat then ⟨b,0,none⟩ else (⟨b,0,none⟩:Addr).add (l.toNat*ie.size))) (h.toNat-l.toNat) (n-l.toNat),B8 _ _ hp ?_,rx.1,λ _=>?_⟩
     ·simp only [Instr.sliceAt,Sem.run_bind,run_underlying hu,Result.andThen_ok,Instr.sureAddr,Sem.run_pure,FW,sizeOf,typeInfo,run_program,EX]
     ·refine ⟨e',s,fz,_,_,hc,Ad,Ad,Ad,λ Cg=>⟨b,f,hb,?_⟩,λ A hA=>?_,rfl⟩
      ·rw [if_neg Ad,IN ⟨b,0,none⟩ rfl,BL,Ms.2];simp
      ·cases hA;split
       ·rfl
       ·rw [IN ⟨b,0,none⟩ rfl]
    ·exact BF
   ·exact BF
  ·exact BF
 ·rename_i id ver lo' n hx;rw [hx] at rx;split
  ·rename_i e e' s fz hT hc;split
   ·rename_i Ms;obtain ⟨e2,s2,IG,A,cap,CB,NS,Gf,Ds,hA,Mr,hp⟩:=rx.2 Ms.1;rw [hc] at CB;cases CB;obtain ⟨ET,ie,hu,EX,BL,_⟩:=(hE.ty _ _ hT).und;split
    ·rename_i l h hl hh;refine Js hI hd λ IU=>?_
     obtain ⟨c0,c1,c2⟩:=Dg IU;refine ⟨_,B8 _ _ hp (ZF hu EX (O8 hI hl) (O8 hI hh) Gf IU),rx.1,λ _=>?_⟩;refine ⟨e',s,fz,_,_,hc,Ad,Ad,Ad,λ Cg=>?_,λ A' ED=>?_,rfl⟩
     ·obtain ⟨b,f,hb,TU⟩:=hA Ad;refine ⟨b,f,hb,?_⟩;rw [if_neg Ad,TU];simp [IN ⟨b,lo'*e'.sz,none⟩ rfl,BL,Ms.2,Nat.add_mul]
     ·split at ED
      ·exact Mr A' ED
      ·cases A with
       | none=>cases ED
       | some A0=>
        simp only [Option.map_some,Option.some.injEq] at ED;rw [<- ED,IN A0 (Mr A0 rfl)]
    ·exact BF
   ·exact BF
  ·exact BF
 ·rename_i id ver hx;rw [hx] at rx;split
  ·rename_i e e' s fz hT hc;split
   ·rename_i Ms;obtain ⟨e2,s2,IG,CB,I0⟩:=rx.2 Ms.1;rw [hc] at CB;cases CB;obtain ⟨A,cap,hp,Gf,Ds,hA,Mr⟩:=I0.form;obtain ⟨ET,ie,hu,EX,BL,_⟩:=(hE.ty _ _ hT).und;split
    ·rename_i l h hl hh;refine Js hI hd λ IU=>?_
     unfold AZ at IU;obtain ⟨c0,c1,c2⟩:=Dg IU;refine ⟨_,B8 _ _ hp (ZF hu EX (O8 hI hl) (O8 hI hh) Gf IU),rx.1,λ _=>?_⟩;refine ⟨e',s,fz,_,_,hc,Ad,Ad,Ad,λ Cg=>?_,λ A' ED=>?_,rfl⟩
     ·obtain ⟨b,f,hb,TU⟩:=hA Ad;refine ⟨b,f,hb,?_⟩;rw [if_neg Ad,TU];simp [IN ⟨b,0,none⟩ rfl,BL,Ms.2]
     ·split at ED
      ·exact Mr A' ED
      ·cases A with
       | none=>cases ED
       | some A0=>
        simp only [Option.map_some,Option.some.injEq] at ED;rw [<- ED,IN A0 (Mr A0 rfl)]
    ·exact BF
   ·exact BF
  ·exact BF
 ·exact BF
theorem Yi6 (hE:EnvOk P E) (hI:Inv B ok0 w0 g σ a w) (hd:∀ d,o.dst=some d->d<a.tmps.size) {x:Operand} {T:Nat} {c:Call} (ho:o.op = .call c)
  (hc:c.callee = .builtin .len) (ha:c.args.toList=[x]) (Il:c.argTypes.toList=[T]):
  DZ P B ok0 w0 (KE (E.ty T) o σ (Bm σ x)) o a w:=by
 have Mo:c.args = #[x]:=by rw [<- Array.toArray_toList (xs:=c.args),ha]
 have QG:c.argTypes = #[T]:=by rw [<- Array.toArray_toList (xs:=c.argTypes),Il]
 have B8:∀ u v,a.eval x=u->(Builtin.len_ #[T] o.type #[u]).run P w = .ok v w->(execOp a.eval o).run P w = .ok (.value v) w:=by
  intro u v hu hv;unfold execOp;rw [ho];subst hu;simp [resolve,hc,Mo,QG,invoke,builtin,hv]
 have rx:=EM hI x;unfold KE;split
 ·rename_i hT;have hu:P.underlying T=some .string:=(hE.ty _ _ hT).und;split
  ·rename_i s gs hx;exact Dx hI hd (B8 _ _ (SC hI hx) (by simp [Builtin.len_,run_underlying hu,goInt];rfl)) (IM _ _)
  ·exact BF
 ·rename_i e hT;obtain ⟨ET,ie,hu,_⟩:=(hE.ty _ _ hT).und;have go:∀ p n cap,a.eval x = .slice p n cap->(execOp a.eval o).run P w = .ok (.value (.int .i64 (n:Int))) w:=
   λ p n cap hx=>B8 _ _ hx (by simp [Builtin.len_,run_underlying hu,goInt])
  split
  ·rename_i e' l gs hx;rw [hx] at rx;obtain ⟨p,n,cap,hv,hr,DG,_⟩:=dG rx;exact Dx hI hd (go p n cap hv) (by unfold AZ;rw [DG];exact IM _ _)
  ·rename_i hx;rw [hx] at rx;exact Dx hI hd (go none 0 0 rx) (IM _ _)
  ·rename_i id ver hx;rw [hx] at rx;split
   ·rename_i hv;split
    ·rename_i e' l fz CN;obtain ⟨e2,l2,IG,CB,I0⟩:=rx.2 hv;rw [CN] at CB;cases CB;obtain ⟨p,cap,hp,_⟩:=I0.form;exact Dx hI hd (go _ _ _ hp) (IM _ _)
    ·exact BF
   ·exact BF
  ·rename_i id ver lo n hx;rw [hx] at rx;split
   ·rename_i hv;obtain ⟨e2,l2,IG,A,cap,CB,_,_,_,_,_,hp⟩:=rx.2 hv;exact Dx hI hd (go _ _ _ hp) (IM _ _)
   ·exact BF
  ·exact BF
 ·exact BF
theorem uS {f:Int->Int->Int} {F:Value->Value->Sem Value} (hF:∀ (k j:IntKind) (x y:Int),F (.int k x) (.int j y)=pure (.int k (f x y))) (hI:Inv B ok0 w0 g σ a w) {k:IntKind}:
  ∀ (xs:List Operand) (m n:Int),XV f k m (xs.map (Bm σ))=some n->((xs.map a.eval).foldlM F (.int k m)).run P w = .ok (.int k n) w
 | [],m,n,h=>by
  simp only [List.map_nil,XV,Option.some.injEq] at h;subst h;rfl
 | x :: xs,m,n,h=>by
  simp only [List.map_cons] at h ⊢;unfold XV at h;split at h
  ·rename_i heq;cases heq
  ·rename_i b hb heq;obtain ⟨h1,h2⟩:=List.cons.inj heq;split at h
   ·rename_i hj;subst hj;rw [<- h2] at h;rw [List.foldlM_cons,Kt hI h1,hF];simp only [Sem.run_bind,Sem.run_pure,Result.andThen_ok];exact uS hF hI xs _ n h
   ·cases h
  ·cases h
theorem uN (hI:Inv B ok0 w0 g σ a w) (hd:∀ d,o.dst=some d->d<a.tmps.size) {f:Int->Int->Int} {F:Value->Value->Sem Value} (hF:∀ (k j:IntKind) (x y:Int),F (.int k x) (.int j y)=pure (.int k (f x y)))
  {xs:List Operand} (B8:∀ v r,xs.map a.eval=v :: r->∀ u,(r.foldlM F v).run P w = .ok u w->(execOp a.eval o).run P w = .ok (.value u) w):
  DZ P B ok0 w0 (N8 f o σ (xs.map (Bm σ))) o a w:=by
 cases xs with
 | nil=>exact BF
 | cons x xs=>
  unfold N8;simp only [List.map_cons];split
  ·rename_i k m gs r heq;obtain ⟨h1,h2⟩:=List.cons.inj heq;split
   ·rename_i n hn;rw [<- h2] at hn;have hx:=Kt hI h1;exact Dx hI hd (B8 (a.eval x) (xs.map a.eval) rfl (.int k n) (by rw [hx];exact uS hF hI xs m n hn)) (IM _ _)
   ·exact BF
  ·exact BF
end
end Go.AM
end

section
/- New boxes, new rows, writes: what the invariant becomes. -/
namespace Go.AM
open Go.RowKit (Below)
set_option linter.unusedSectionVars false
variable [Lay]
section
variable {P : Program} {B : Bd} {ok0 : Nat -> Nat -> Prop} {w0 w w' : World} {g : G} {σ : St} {a : Act} {o : Oper} {E : Env}
theorem M5 (w:World) (ob:Obj):Below w.heap.size w (w.alloc ob):=(Below.refl _ _).alloc (Au _) ob
theorem gZ (w:World):Below w.heap.size w w.drew:=(Below.refl _ _).drew
def G.D1 (g:G) (id b:Nat) (f:Bool):G:={ g with bx:=EO g.bx id (some (b,f)) }
def G.Lt (g:G) (id:Nat) (r:Option (Nat×Nat)):G:={ g with rw:=EO g.rw id r }
theorem Inv.C3 (h:Inv B ok0 w0 g σ a w) {nb id:Nat} (pV:id<pid0) (hb:Below w.heap.size w w') (h1:w.heap.size<=nb) (h2:nb<w'.heap.size) {c:Con}
    (hc:∀ ok g' σ',Ext (okG B ok0 g w) ok g g' σ σ' w w'->ConOk ok g' σ' w' nb false c):
    Inv B ok0 w0 (g.D1 id nb false) (σ.C3 id c) a w':=by
  have FY:∀ id' b f,g.bx id'=some (b,f)->b≠nb:=λ id' b f hh=>by have:=(h.bb id' b f hh).2;omega
  have hnr:∀ id' b u,g.rw id'=some (b,u)->b≠nb:=λ id' b u hh=>by have:=(h.rb id' b u hh).2.1;omega
  have Fb:=Ext.MD h hb;have TX:B.n<=w.heap.size:=by have:=h.below.size;have:=h.hB;omega
  have hx:Ext (okG B ok0 g w) (okG B ok0 (g.D1 id nb false) w') g (g.D1 id nb false) σ (σ.C3 id c) w w':=
    { cell := λ b off hk => by
        refine ⟨?_,(Fb.cell b off hk).2⟩;rcases (Fb.cell b off hk).1 with De | ⟨q1,q2,q3,q4⟩
        · exact .inl De
        · refine .inr ⟨q1,q2,λ id' he=>?_,q4⟩;unfold G.D1 at he;simp only [B5] at he;split at he
          · cases he;have:=h.okB hk;omega
          · exact q3 id' he
      box:=λ id' ver hv=>by
        simp only [St.C3,G.D1,B5];by_cases hid:id'=id
        · subst hid;simp only [if_true];exact ⟨Ad,λ he=>by omega⟩
        · simp only [if_neg hid];exact ⟨hv,λ he=>⟨he,λ b f hh=>⟨f,hh⟩,λ e l fz CN=>⟨l,fz,CN,rfl⟩,λ hn=>hn,λ b f cur T y _ Dk hh=>⟨cur,y,(hb.block b (h.bb id' b f Dk).2).trans hh,rfl⟩⟩⟩
      row:=λ id' ver h0 hv=>Fb.row id' ver h0 hv }
  have hg:=h.grown hb
  exact {
    below:=hg.below,hB:=h.hB,h0:=h.h0,hR:=h.hR,defers:=h.defers,lay:=h.lay,tm:=h.tm
    nm:=λ id' b f hi hh=>by
      simp only [G.D1,B5] at hh;split at hh
      · omega
      · exact h.nm id' b f hi hh
    bb:=λ id' b f hh=>by
      simp only [G.D1,B5] at hh;split at hh
      · cases hh;exact ⟨.inl Ad,h2⟩
      · exact hg.bb id' b f hh
    bi:=λ i1 i2 b f f' e1 e2=>by
      simp only [G.D1,B5] at e1 e2;split at e1 <;> split at e2
      · simp_all
      · cases e1;exact absurd rfl (FY _ _ _ e2)
      · cases e2;exact absurd rfl (FY _ _ _ e1)
      · exact h.bi _ _ _ _ _ e1 e2
    rb:=λ id' b u hh=>by
      obtain ⟨q1,q2,q3⟩:=hg.rb id' b u hh;refine ⟨q1,q2,λ i2 f he=>?_⟩;simp only [G.D1,B5] at he;split at he
      · cases he;exact hnr id' _ u hh rfl
      · exact q3 i2 f he
    ri:=h.ri
    con:=λ id' c' CN=>by
      simp only [St.C3,B5] at CN;split at CN
      · rename_i hid;cases CN;exact .inr ⟨nb,false,by simp [G.D1,B5,hid],hc _ _ _ hx⟩
      · rename_i hid;rcases h.con id' c' CN with ⟨hn,he⟩ | ⟨b,f,Dk,hk⟩
        · exact .inl ⟨by simp [G.D1,B5,hid,hn],he⟩
        exact .inr ⟨b,f,by simp [G.D1,B5,hid,Dk],hk.ext hx (hb.block b (h.bb id' b f Dk).2)⟩
    slots:=λ t=>(h.slots t).ext hx }
theorem Inv.yY (h:Inv B ok0 w0 g σ a w) (hb:Below w.heap.size w w') {ρ:Nat->Option (Option (Nat×Nat))} {σ':St} {g':G}
    (QQ:g' = { g with rw:=λ id=>match ρ id with | some r=>r | none=>g.rw id })
    (hs:σ' = { σ with r:=λ id=>match ρ id with | some _=>σ.r id+1 | none=>σ.r id })
    (h1:∀ id b u,ρ id=some (some (b,u))->w.heap.size<=b/\b<w'.heap.size)
    (h2:∀ id id' b u u',ρ id=some (some (b,u))->ρ id'=some (some (b,u'))->id=id'):
    Inv B ok0 w0 g' σ' a w'/\Ext (okG B ok0 g w) (okG B ok0 g' w') g g' σ σ' w w':=by
  have Fb:=Ext.MD h hb;have hg:=h.grown hb;have TX:B.n<=w.heap.size:=by have:=h.below.size;have:=h.hB;omega
  subst QQ;subst hs;have hx:Ext (okG B ok0 g w) (okG B ok0 { g with rw:=λ id=>match ρ id with | some r=>r | none=>g.rw id } w') g { g with rw:=λ id=>match ρ id with | some r=>r | none=>g.rw id } σ
      { σ with r:=λ id=>match ρ id with | some _=>σ.r id+1 | none=>σ.r id } w w':=
    { cell := λ b off hk => by
        refine ⟨?_,(Fb.cell b off hk).2⟩;rcases (Fb.cell b off hk).1 with De | ⟨q1,q2,q3,q4⟩
        · exact .inl De
        · refine .inr ⟨q1,q2,q3,λ id u he=>?_⟩;simp only at he;split at he
          · rename_i r hr;rw [he] at hr;have:=(h1 id b u hr).1;have:=h.okB hk;omega
          · exact q4 id u he
      box:=λ id ver hv=>⟨hv,λ he=>⟨he,λ b f hh=>⟨f,hh⟩,λ e l fz CN=>⟨l,fz,CN,rfl⟩,λ hn=>hn,λ b f cur T y _ Dk hh=>⟨cur,y,(hb.block b (h.bb id b f Dk).2).trans hh,rfl⟩⟩⟩
      row:=λ id ver h0 hv=>by
        simp only;cases hr:ρ id with
        | some r=>simp only;exact ⟨Ad,λ he=>by omega⟩
        | none=>simp only;exact Fb.row id ver h0 hv }
  refine ⟨?_,hx⟩
  exact {
    below:=hg.below,hB:=h.hB,h0:=h.h0,hR:=h.hR,defers:=h.defers,lay:=h.lay,tm:=h.tm,nm:=h.nm,bb:=hg.bb,bi:=h.bi
    rb:=λ id b u hh=>by
      simp only at hh;split at hh
      · rename_i r hr;rw [hh] at hr;obtain ⟨q1,q2⟩:=h1 id b u hr;exact ⟨Ad,q2,λ id' f he=>by have:=(h.bb id' b f he).2;omega⟩
      · exact hg.rb id b u hh
    ri:=λ id id' b u u' e1 e2=>by
      cases q1:ρ id with
      | some r1=>
        simp only [q1] at e1;subst e1;cases q2:ρ id' with
        | some r2=>simp only [q2] at e2;subst e2;exact h2 _ _ _ _ _ q1 q2
        | none=>simp only [q2] at e2;have:=(h1 _ _ _ q1).1;have:=(h.rb _ _ _ e2).2.1;omega
      | none=>
        simp only [q1] at e1;cases q2:ρ id' with
        | some r2=>simp only [q2] at e2;subst e2;have:=(h1 _ _ _ q2).1;have:=(h.rb _ _ _ e1).2.1;omega
        | none=>simp only [q2] at e2;exact h.ri _ _ _ _ _ e1 e2
    con:=λ id c CN=>by
      rcases h.con id c CN with hn | ⟨b,f,Dk,hk⟩
      · exact .inl hn
      exact .inr ⟨b,f,Dk,hk.ext hx (hb.block b (h.bb id b f Dk).2)⟩
    slots:=λ t=>(h.slots t).ext hx }
theorem rV {b:Nat} {cs:Array Value} (hb:B.n<=b\/b∈B.io\/∃ u,some (b,u)∈B.rows) (hr:∀ u cur T y,some (b,u)∈B.rows->b<B.n->w.heap[b]? = some (.cells cur T y)->cs.size=cur.size/\∀ o,o<u->cs[o]? = cur[o]?)
  (hi:b∈B.io->∀ cur T y,w.heap[b]? = some (.cells cur T y)->cs.size=cur.size) (h:BelowX B w0 w):BelowX B w0 (w.setRow b cs) where
 os:=h.os
 tape:=h.tape
 output:=h.output
 size:=by have:=h.size;simp [World.setRow];exact this
 block:=λ k hk hn hq=>(setRow_other w b k cs (by
  rintro rfl;rcases hb with hb | hb | ⟨u,hb⟩
  ·omega
  ·exact hn hb
  ·exact hq u hb)).trans (h.block k hk hn hq)
 rowc:=λ k u cur T y hk AY hh=>by
  obtain ⟨cur',z,h1,h2,h3⟩:=h.rowc k u cur T y hk AY hh;by_cases T1:k=b
  ·subst T1;obtain ⟨h4,h5⟩:=hr u cur' T z hk AY h1
   exact ⟨cs,z,by
    obtain ⟨z1,z2⟩:=z
    exact setRow_heap w k _ _ _ _ h1,h4.trans h2,λ o ho=>(h5 o ho).trans (h3 o ho)⟩
  ·exact ⟨cur',z,(setRow_other w b k cs T1).trans h1,h2,h3⟩
 ioc:=λ k cur T y hk AY hh=>by
  obtain ⟨cur',z,h1,h2⟩:=h.ioc k cur T y hk AY hh;by_cases T1:k=b
  ·subst T1
   exact ⟨cs,z,by
    obtain ⟨z1,z2⟩:=z
    exact setRow_heap w k _ _ _ _ h1,(hi hk cur' T z h1).trans h2⟩
  ·exact ⟨cur',z,(setRow_other w b k cs T1).trans h1,h2⟩
theorem sk (h:Inv B ok0 w0 g σ a w) {b:Nat} {cs:Array Value} (hb:B.n<=b\/b∈B.io) (CM:∀ cur T y,w.heap[b]? = some (.cells cur T y)->cs.size=cur.size):BelowX B w0 (w.setRow b cs):=
 rV (by rcases hb with hb | hb;exact .inl hb;exact .inr (.inl hb)) (λ u cur T y hq AY _=>by
  rcases hb with hb | hb
  ·omega
  ·exact absurd hb (h.hR b u hq).2.1) (λ _=>CM) h.below
theorem setRow_size (w:World) (b:Nat) (cs:Array Value):(w.setRow b cs).heap.size=w.heap.size:=by simp [World.setRow]
theorem Inv.aG (h:Inv B ok0 w0 g σ a w) {id b:Nat} {c0 c:Con} (IS:σ.c id=some c0) (Er:g.bx id=some (b,false)) {cs:Array Value}
    (pW:∀ e l fz,c0 = .arr e l fz->∃ l' fz',c = .arr e l' fz'/\List.length (α:=e.D) l'=List.length (α:=e.D) l) (CM:∀ cur T y,w.heap[b]? = some (.cells cur T y)->cs.size=cur.size)
    (hc:∀ ok σ',Ext (okG B ok0 g w) ok g g σ σ' w (w.setRow b cs)->ConOk ok g σ' (w.setRow b cs) b false c):
    Inv B ok0 w0 g (σ.Dq id c) a (w.setRow b cs):=by
  have Kn:B.n<=b\/b∈B.io:=by rcases (h.bb id b false Er).1 with h | h;exact .inl h;exact .inr h.1
  have hx:Ext (okG B ok0 g w) (okG B ok0 g (w.setRow b cs)) g g σ (σ.Dq id c) w (w.setRow b cs):=
    { cell := λ b' off hk => by
        have Cg:b'≠b:=by
          rcases hk with hk | ⟨_,_,q3,_⟩
          · have:=h.h0 _ _ hk;rintro rfl;rcases Kn with Kn | Kn
            · omega
            · exact this.2.1 Kn
          · intro e;subst e;exact q3 id Er
        refine ⟨?_,?_⟩
        · rcases hk with hk | ⟨q1,q2,q3,q4⟩
          · exact .inl hk
          · exact .inr ⟨q1,by rw [setRow_size];exact q2,q3,q4⟩
        · exact cell_setRow_other w b cs _ Cg
      box:=λ id' ver hv=>by
        refine ⟨hv,λ he=>⟨he,λ b f hh=>⟨f,hh⟩,λ e l fz CN=>?_,λ hn=>hn,λ b1 f cur T y _ Dk hh=>?_⟩⟩
        · simp only [St.Dq,B5];by_cases hid:id'=id
          · subst hid;rw [IS] at CN;cases CN;obtain ⟨l',fz',e1,e2⟩:=pW e l fz rfl;exact ⟨l',fz',by simp [e1],e2⟩
          · exact ⟨l,fz,by rw [if_neg hid];exact CN,rfl⟩
        · by_cases Ha:b1=b
          · subst Ha;exact ⟨cs,y,setRow_heap w b1 _ _ _ _ hh,CM cur T _ hh⟩
          · exact ⟨cur,y,(setRow_other w b b1 cs Ha).trans hh,rfl⟩
      row:=λ id' ver h0 hv=>⟨hv,λ he=>⟨he,λ b' u hh=>⟨hh,setRow_other w b b' cs (λ e=>by subst e;exact (h.rb id' _ u hh).2.2 id false Er)⟩⟩⟩ }
  exact {
    below:=sk h Kn CM,hB:=h.hB,h0:=h.h0,hR:=h.hR,defers:=h.defers,lay:=h.lay,tm:=h.tm,nm:=h.nm
    bb:=λ id' b' f' hh=>by rw [setRow_size];exact h.bb id' b' f' hh
    bi:=h.bi
    rb:=λ id' b' u hh=>by rw [setRow_size];exact h.rb id' b' u hh
    ri:=h.ri
    con:=λ id' c' CN=>by
      simp only [St.Dq,B5] at CN;split at CN
      · rename_i hid;cases CN;subst hid;exact .inr ⟨b,false,Er,hc _ _ hx⟩
      · rename_i hid;rcases h.con id' c' CN with hn | ⟨b',f',Dk,hk⟩
        · exact .inl hn
        exact .inr ⟨b',f',Dk,hk.ext hx (setRow_other w b b' cs (λ e=>by subst e;exact hid (h.bi _ _ _ _ _ Dk Er)))⟩
    slots:=λ t=>(h.slots t).ext hx }
theorem Inv.xh (h:Inv B ok0 w0 g σ a w) {id b:Nat} {f:Bool} {c0 c1:Con} (IS:σ.c id=some c0) (Dk:g.bx id=some (b,f)) (hid:id<pid0) (pW:∀ e l fz,c0 = .arr e l fz->∃ l' fz',c1 = .arr e l' fz'/\List.length (α:=e.D) l'=List.length (α:=e.D) l)
    (T3:∀ b f ok g' σ',ConOk ok g' σ' w b f c0->ConOk ok g' σ' w b true c1):
    ∃ g',g'.bx id=some (b,true)/\Inv B ok0 w0 g' (σ.Dq id c1) a w/\Ext (okG B ok0 g w) (okG B ok0 g' w) g g' σ (σ.Dq id c1) w w/\
      ∀ o,okG B ok0 g' w b o:=by
  have hk:=h.IE Dk IS;have FW:B.n<=b/\b<w.heap.size:=by
    obtain ⟨h1,h2⟩:=h.bb id b f Dk;rcases h1 with h1 | h1
    · exact ⟨h1,h2⟩
    · omega
  have hx:Ext (okG B ok0 g w) (okG B ok0 (g.D1 id b true) w) g (g.D1 id b true) σ (σ.Dq id c1) w w:=
    { cell := λ b' off De => by
        refine ⟨?_,rfl⟩;rcases De with De | ⟨q1,q2,q3,q4⟩
        · exact .inl De
        · refine .inr ⟨q1,q2,λ id' he=>?_,q4⟩;simp only [G.D1,B5] at he;split at he
          · cases he
          · exact q3 id' he
      box:=λ id' ver hv=>by
        refine ⟨hv,λ he=>⟨he,λ b' f' hh=>?_,λ e' l' fz' CN=>?_,λ hn=>?_,λ b' f' cur T y _ _ hh=>⟨cur,y,hh,rfl⟩⟩⟩
        · simp only [G.D1,B5];by_cases hid:id'=id
          · subst hid;rw [Dk] at hh;cases hh;exact ⟨true,Ah⟩
          · exact ⟨f',by rw [if_neg hid];exact hh⟩
        · simp only [St.Dq,B5];by_cases hid:id'=id
          · subst hid;rw [IS] at CN;cases CN;obtain ⟨l',Xwh,e1,e2⟩:=pW _ _ _ rfl;exact ⟨l',Xwh,by simp [e1],e2⟩
          · exact ⟨l',fz',by rw [if_neg hid];exact CN,rfl⟩
        · simp only [G.D1,B5];by_cases hid:id'=id
          · subst hid;rw [Dk] at hn;cases hn
          · rw [if_neg hid];exact hn
      row:=λ id' ver h0 hv=>⟨hv,λ he=>⟨he,λ b' u hh=>⟨hh,rfl⟩⟩⟩ }
  refine ⟨g.D1 id b true,by simp [G.D1,B5],?_,hx,λ o=> .inr ⟨.inl FW.1,FW.2,λ id' he=>?_,λ id' u he=>?_⟩⟩
  · exact {
      below:=h.below,hB:=h.hB,h0:=h.h0,hR:=h.hR,defers:=h.defers,lay:=h.lay,tm:=h.tm
      nm:=λ id' b' f' hi hh=>by
        simp only [G.D1,B5] at hh;split at hh
        · omega
        · exact h.nm id' b' f' hi hh
      bb:=λ id' b' f' hh=>by
        simp only [G.D1,B5] at hh;split at hh
        · cases hh;exact ⟨.inl FW.1,FW.2⟩
        · exact h.bb id' b' f' hh
      bi:=λ i1 i2 b' f1 f2 e1 e2=>by
        simp only [G.D1,B5] at e1 e2;split at e1 <;> split at e2
        · simp_all
        · cases e1;rename_i q1 q2;rw [q1];exact (h.bi _ _ _ _ _ e2 Dk).symm
        · cases e2;rename_i q1 q2;rw [q2];exact h.bi _ _ _ _ _ e1 Dk
        · exact h.bi _ _ _ _ _ e1 e2
      rb:=λ id' b' u hh=>by
        obtain ⟨q1,q2,q3⟩:=h.rb id' b' u hh;refine ⟨q1,q2,λ i2 f' he=>?_⟩;simp only [G.D1,B5] at he;split at he
        · cases he;exact q3 id f Dk
        · exact q3 i2 f' he
      ri:=h.ri
      con:=λ id' c' CN=>by
        simp only [St.Dq,B5] at CN;split at CN
        · rename_i hid;cases CN;exact .inr ⟨b,true,by simp [G.D1,B5,hid],T3 _ _ _ _ _ (hk.ext hx rfl)⟩
        · rename_i hid;rcases h.con id' c' CN with ⟨hn,he⟩ | ⟨b',f',pX,De⟩
          · exact .inl ⟨by simp [G.D1,B5,hid,hn],he⟩
          exact .inr ⟨b',f',by simp [G.D1,B5,hid,pX],De.ext hx rfl⟩
      slots:=λ t=>(h.slots t).ext hx }
  · simp only [G.D1,B5] at he;split at he
    · cases he
    · rename_i hid;exact hid (h.bi _ _ _ _ _ he Dk)
  · exact absurd Dk ((h.rb id' b u he).2.2 id f)
theorem Inv.freeze (h:Inv B ok0 w0 g σ a w) {id b:Nat} {f:Bool} {e:Ty} {l:List e.D} {fz:Bool} (IS:σ.c id=some (.arr e l fz)) (Dk:g.bx id=some (b,f)) (hid:id<pid0):
  ∃ g',g'.bx id=some (b,true)/\Inv B ok0 w0 g' (σ.Dq id (.arr e l true)) a w/\Ext (okG B ok0 g w) (okG B ok0 g' w) g g' σ (σ.Dq id (.arr e l true)) w w/\
   ∀ o,okG B ok0 g' w b o:=
 h.xh IS Dk hid (λ e' l' fz' he=>by cases he;exact ⟨l,true,rfl,rfl⟩) λ b f ok g' σ' hk=>⟨rfl,hk.2⟩
theorem Inv.iE (h:Inv B ok0 w0 g σ a w) {id:Nat} {e:Ty} {l:List e.D} {fz:Bool} (IS:σ.c id=some (.arr e l fz)) (hn:g.bx id=none):
    Inv B ok0 w0 g (σ.Dq id (.arr e l true)) a w/\Ext (okG B ok0 g w) (okG B ok0 g w) g g σ (σ.Dq id (.arr e l true)) w w:=by
  have hx:Ext (okG B ok0 g w) (okG B ok0 g w) g g σ (σ.Dq id (.arr e l true)) w w:=
    { cell := λ b' off De => ⟨De, rfl⟩
      box:=λ id' ver hv=>by
        refine ⟨hv,λ he=>⟨he,λ b' f' hh=>⟨f',hh⟩,λ e' l' fz' CN=>?_,λ hn=>hn,λ b' f' cur T y _ _ hh=>⟨cur,y,hh,rfl⟩⟩⟩;simp only [St.Dq,B5];by_cases hid:id'=id
        · subst hid;rw [IS] at CN;cases CN;exact ⟨l,true,Ah,rfl⟩
        · exact ⟨l',fz',by rw [if_neg hid];exact CN,rfl⟩
      row:=λ id' ver h0 hv=>⟨hv,λ he=>⟨he,λ b' u hh=>⟨hh,rfl⟩⟩⟩ }
  refine ⟨?_,hx⟩
  exact {
    below:=h.below,hB:=h.hB,h0:=h.h0,hR:=h.hR,defers:=h.defers,lay:=h.lay,tm:=h.tm,nm:=h.nm,bb:=h.bb,bi:=h.bi,rb:=h.rb,ri:=h.ri
    con:=λ id' c' CN=>by
      simp only [St.Dq,B5] at CN;split at CN
      · rename_i hid;cases CN;subst hid;rcases h.con id' _ IS with ⟨_,e',fz',he⟩ | ⟨b,f,hb,_⟩
        · cases he;exact .inl ⟨hn,e,true,rfl⟩
        · rw [hn] at hb;cases hb
      · rcases h.con id' c' CN with hn | ⟨b',f',pX,De⟩
        · exact .inl hn
        · exact .inr ⟨b',f',pX,De.ext hx rfl⟩
    slots:=λ t=>(h.slots t).ext hx }
theorem Inv.capture (h:Inv B ok0 w0 g σ a w) {id b:Nat} {f:Bool} {t:Ty} {x:t.D} {gs:List Tag} (IS:σ.c id=some (.var t x gs)) (Dk:g.bx id=some (b,f)) (hid:id<pid0):
  ∃ g',g'.bx id=some (b,true)/\Inv B ok0 w0 g' (σ.Dq id (.arr t [x] true)) a w/\Ext (okG B ok0 g w) (okG B ok0 g' w) g g' σ (σ.Dq id (.arr t [x] true)) w w/\
   ∀ o,okG B ok0 g' w b o:=
 h.xh IS Dk hid (λ e' l' fz' he=>by cases he) λ b f ok g' σ' hk=>by
  obtain ⟨_,cs,T,h1,h2,_⟩:=hk;refine ⟨rfl,cs.toArray,T,_,h1, .inl rfl,by simp [h2.len],by show 1<=maxLen;unfold maxLen;exact Az rfl,λ i y hi=>?_⟩;cases i with
  | zero=>
   simp at hi;subst hi;exact ⟨cs,h2,λ j u hj=>by simpa using hj⟩
  | succ i=>simp at hi
theorem Inv.Zih (h:Inv B ok0 w0 g σ a w) (id:Nat) (e:Ty):
    Inv B ok0 w0 { g with bx:=EO g.bx id none } (σ.C3 id (.arr e [] false)) a w:=by
  have hx:Ext (okG B ok0 g w) (okG B ok0 { g with bx:=EO g.bx id none } w) g { g with bx:=EO g.bx id none } σ (σ.C3 id (.arr e [] false)) w w:=
    { cell := λ b' off De => by
        refine ⟨?_,rfl⟩;rcases De with De | ⟨q1,q2,q3,q4⟩
        · exact .inl De
        · refine .inr ⟨q1,q2,λ id' he=>?_,q4⟩;simp only [B5] at he;split at he
          · cases he
          · exact q3 id' he
      box:=λ id' ver hv=>by
        simp only [St.C3,B5];by_cases hid:id'=id
        · subst hid;simp only [if_true];exact ⟨Ad,λ he=>by omega⟩
        · simp only [if_neg hid];exact ⟨hv,λ he=>⟨he,λ b f hh=>⟨f,hh⟩,λ e l fz CN=>⟨l,fz,CN,rfl⟩,λ hn=>hn,λ b f cur T y _ Dk hh=>⟨cur,y,hh,rfl⟩⟩⟩
      row:=λ id' ver h0 hv=>⟨hv,λ he=>⟨he,λ b' u hh=>⟨hh,rfl⟩⟩⟩ }
  exact {
    below:=h.below,hB:=h.hB,h0:=h.h0,hR:=h.hR,defers:=h.defers,lay:=h.lay,tm:=h.tm
    nm:=λ id' b f hi hh=>by
      simp only [B5] at hh;split at hh
      · cases hh
      · exact h.nm id' b f hi hh
    bb:=λ id' b f hh=>by
      simp only [B5] at hh;split at hh
      · cases hh
      · exact h.bb id' b f hh
    bi:=λ i1 i2 b f f' e1 e2=>by
      simp only [B5] at e1 e2;split at e1 <;> split at e2 <;> first | cases e1 | cases e2 | exact h.bi _ _ _ _ _ e1 e2
    rb:=λ id' b u hh=>by
      obtain ⟨q1,q2,q3⟩:=h.rb id' b u hh;refine ⟨q1,q2,λ i2 f he=>?_⟩;simp only [B5] at he;split at he
      · cases he
      · exact q3 i2 f he
    ri:=h.ri
    con:=λ id' c' CN=>by
      simp only [St.C3,B5] at CN;split at CN
      · rename_i hid;cases CN;exact .inl ⟨by simp [B5,hid],e,false,rfl⟩
      · rename_i hid;rcases h.con id' c' CN with ⟨hn,he⟩ | ⟨b,f,Dk,hk⟩
        · exact .inl ⟨by simp [B5,hid,hn],he⟩
        · exact .inr ⟨b,f,by simp [B5,hid,Dk],hk.ext hx rfl⟩
    slots:=λ t=>(h.slots t).ext hx }
theorem Inv.Yn6 (h:Inv B ok0 w0 g σ a w) {id b:Nat} {c:Con} (Er:g.bx id=some (b,false)) {cs:Array Value}
    (hc:∀ ok σ',Ext (okG B ok0 g w) ok g g σ σ' w (w.setRow b cs)->ConOk ok g σ' (w.setRow b cs) b false c) (CM:∀ cur T y,w.heap[b]? = some (.cells cur T y)->cs.size=cur.size):
    Inv B ok0 w0 g (σ.C3 id c) a (w.setRow b cs):=by
  have Kn:B.n<=b\/b∈B.io:=by rcases (h.bb id b false Er).1 with h | h;exact .inl h;exact .inr h.1
  have hx:Ext (okG B ok0 g w) (okG B ok0 g (w.setRow b cs)) g g σ (σ.C3 id c) w (w.setRow b cs):=
    { cell := λ b' off hk => by
        have Cg:b'≠b:=by
          rcases hk with hk | ⟨_,_,q3,_⟩
          · have:=h.h0 _ _ hk;rintro rfl;rcases Kn with Kn | Kn
            · omega
            · exact this.2.1 Kn
          · intro e;subst e;exact q3 id Er
        refine ⟨?_,cell_setRow_other w b cs _ Cg⟩;rcases hk with hk | ⟨q1,q2,q3,q4⟩
        · exact .inl hk
        · exact .inr ⟨q1,by rw [setRow_size];exact q2,q3,q4⟩
      box:=λ id' ver hv=>by
        simp only [St.C3,B5];by_cases hid:id'=id
        · subst hid;simp only [if_true];exact ⟨Ad,λ he=>by omega⟩
        · simp only [if_neg hid];refine ⟨hv,λ he=>⟨he,λ b f hh=>⟨f,hh⟩,λ e l fz CN=>⟨l,fz,CN,rfl⟩,λ hn=>hn,λ b1 f cur T y _ Dk hh=>?_⟩⟩;by_cases Ha:b1=b
          · subst Ha;exact ⟨cs,y,setRow_heap w b1 _ _ _ _ hh,CM cur T _ hh⟩
          · exact ⟨cur,y,(setRow_other w b b1 cs Ha).trans hh,rfl⟩
      row:=λ id' ver h0 hv=>⟨hv,λ he=>⟨he,λ b' u hh=>⟨hh,setRow_other w b b' cs (λ e=>by subst e;exact (h.rb id' _ u hh).2.2 id false Er)⟩⟩⟩ }
  exact {
    below:=sk h Kn CM,hB:=h.hB,h0:=h.h0,hR:=h.hR,defers:=h.defers,lay:=h.lay,tm:=h.tm,nm:=h.nm
    bb:=λ id' b' f' hh=>by rw [setRow_size];exact h.bb id' b' f' hh
    bi:=h.bi
    rb:=λ id' b' u hh=>by rw [setRow_size];exact h.rb id' b' u hh
    ri:=h.ri
    con:=λ id' c' CN=>by
      simp only [St.C3,B5] at CN;split at CN
      · rename_i hid;cases CN;subst hid;exact .inr ⟨b,false,Er,hc _ _ hx⟩
      · rename_i hid;rcases h.con id' c' CN with hn | ⟨b',f',Dk,hk⟩
        · exact .inl hn
        exact .inr ⟨b',f',Dk,hk.ext hx (setRow_other w b b' cs (λ e=>by subst e;exact hid (h.bi _ _ _ _ _ Dk Er)))⟩
    slots:=λ t=>(h.slots t).ext hx }
end
end Go.AM
end

section
/- Operations that make memory or write it. -/
namespace Go.AM
open Go.RowKit (Below)
set_option linter.unusedSectionVars false
variable [Lay]
section
variable {P : Program} {B : Bd} {ok0 : Nat -> Nat -> Prop} {w0 w w' : World} {g g' : G} {σ σ1 : St} {a : Act} {o : Oper} {E : Env}
theorem go_ok {c:Bool} {av:AV} (hd:∀ d,o.dst=some d->d<a.tmps.size)
  (h:c=true->∃ g' w' v,(execOp a.eval o).run P w = .ok (.value v) w'/\Inv B ok0 w0 g' σ1 a w'/\RepA (okG B ok0 g' w') g' σ1 w' av v):
  DZ P B ok0 w0 (.go c (σ1.Ce o.dst av)) o a w:=by
 intro next Q hc hn
 obtain ⟨g',w',v,hr,hI,hv⟩:=h hc;unfold Oper.wp;rw [hr];exact hn g' _ _ (hI.put hv hd) (OR _ _ _)
theorem jT (hd:∀ d,o.dst=some d->d<a.tmps.size)
  (h:∃ g' w',(execOp a.eval o).run P w = .ok .skip w'/\Inv B ok0 w0 g' σ1 a w'):
  DZ P B ok0 w0 (.go true (σ1.Ce o.dst .none)) o a w:=by
 intro next Q _ hn
 obtain ⟨g',w',hr,hI⟩:=h;unfold Oper.wp;rw [hr];exact hn g' _ _ (hI.put (av:= .none) rfl hd) (OR _ _ _)
theorem Zkh {c:Bool} {s:Step} (h:c=false->DZ P B ok0 w0 s o a w):DZ P B ok0 w0 (bif c then .no else s) o a w:=by
 cases c
 ·exact h rfl
 ·exact BF
theorem KV (w:World) (ob:Obj):(w.alloc ob).heap[w.heap.size]? = some ob:=heap_alloc_new w ob
theorem WO {r:Nat->Nat}:∀ (t:Ty) (pre:List Value),IB g r w (Oc t pre.length) (pre++t.zcells)
 | .int _,_=>λ _ h=>by cases h
 | .bool,_=>λ _ h=>by cases h
 | .str,_=>λ _ h=>by cases h
 | .sl e,pre=>λ τ h=>by
  have:τ = ⟨pre.length,0,0,e.sg⟩:=by simpa [Oc] using h
  subst this;exact ⟨λ _=>by simp [Ty.zcells],λ h0=>absurd rfl h0⟩
 | .wrap a,pre=>WO a pre
 | .arr _ _,_=>λ _ h=>by cases h
 | .lk _,_=>λ _ h=>by cases h
 | .pair a b,pre=>λ τ h=>by
  rcases List.mem_append.1 h with h | h
  ·have h5:Yi g r w (pre++a.zcells) τ:=WO a pre τ h;obtain ⟨h1,h2⟩:=h5;have hlen:∀ v,(pre++a.zcells)[τ.off]? = some v->(pre++(a.zcells++b.zcells))[τ.off]? = some v:=by
    intro v hv;have:=(List.getElem?_eq_some_iff.1 hv).1;rw [<- AA,AR this];exact hv
   have h0:τ.id=0:=by
    have:∀ (t:Ty) (o:Nat) (τ:Tag),τ∈Oc t o->τ.id=0:=by
     intro t;induction t with
     | int k=>intro o τ h;cases h
     | bool=>intro o τ h;cases h
     | str=>intro o τ h;cases h
     | sl e _=>intro o τ h;simp [Oc] at h;subst h;rfl
     | wrap a ih=>intro o τ h;exact ih o τ h
     | pair a b iha ihb=>intro o τ h;rcases List.mem_append.1 h with h | h;exact iha _ _ h;exact ihb _ _ h
     | arr m e _=>intro o τ h;cases h
     | lk k=>intro o τ h;cases h
    exact this a _ τ h
   exact ⟨λ _=>hlen _ (h1 h0),λ hn=>absurd h0 hn⟩
  ·have hl:(pre++a.zcells).length=pre.length+a.sz:=by rw [Ap,(Iy (λ _ _=>True) w a).len]
   have h5:Yi g r w ((pre++a.zcells)++b.zcells) τ:=WO b (pre++a.zcells) τ (by rw [hl];exact h);rw [AA] at h5;exact h5
theorem jx {ok:Nat->Nat->Prop} {e:Ty}:∀ (n i:Nat) (x:e.D),(List.replicate n e.zero)[i]? = some x->∃ ys,RepD ok w e x ys/\∀ j u,ys[j]? = some u->((List.replicate n e.zcells).flatten)[i*e.sz+j]? = some u:=by
 intro n;have hl:=(Iy ok w e).len;induction n with
 | zero=>intro i x h;simp at h
 | succ n ih=>
  intro i x h;cases i with
  | zero=>
   simp only [List.replicate_succ,List.getElem?_cons_zero,Option.some.injEq] at h;subst h;refine ⟨e.zcells,Iy ok w e,λ j u hj=>?_⟩;have:=(List.getElem?_eq_some_iff.1 hj).1;rw [List.replicate_succ,List.flatten_cons,AR Ad];simpa using hj
  | succ i=>
   obtain ⟨ys,hy,hc⟩:=ih i x (by simpa [List.replicate_succ] using h);refine ⟨ys,hy,λ j u hj=>?_⟩;rw [List.replicate_succ,List.flatten_cons,AJ (by rw [Nat.add_mul];omega),show (i+1)*e.sz+j-e.zcells.length=i*e.sz+j by rw [hl,Nat.add_mul];omega];exact hc j u hj
theorem Rf {e:Ty} (n:Nat):((List.replicate n e.zcells).flatten).length=n*e.sz:=by
 have hl:=(Iy (λ _ _=>True) (default:World) e).len;induction n with
 | zero=>simp
 | succ n ih=>rw [List.replicate_succ,List.flatten_cons,Ap,ih,hl,Nat.add_mul];omega
theorem Ywf (hE:EnvOk P E) (hI:Inv B ok0 w0 g σ a w) (hd:∀ d,o.dst=some d->d<a.tmps.size) {T:Nat} (ho:o.op = .alloc T):
  DZ P B ok0 w0 (Rr E T o σ) o a w:=by
 unfold Rr;have B8:∀ i z,P.info? T=some i->i.zero=some z->(execOp a.eval o).run P w = .ok (.value (.pointer (some ⟨w.heap.size,0,none⟩))) (w.alloc (.cells z.cells T)):=by
  intro i z hi hz;unfold execOp;rw [ho];simp [Instr.alloc,zeroValue,typeInfo,hi,hz,newVar,newRow]
 split
 ·rename_i d Hq;split
  ·rename_i n e hT;obtain ⟨ET,hu,Ei,Ds,i,hi,hz⟩:=hE.ar T n e hT;refine go_ok hd λ _=>⟨g.D1 d w.heap.size false,_,_,B8 i _ hi hz,hI.C3 (Nat.lt_of_lt_of_le (hd _ (by assumption)) hI.tm) (M5 w _) (Au _) Ah (λ ok g' σ' hx=>?_),?_⟩
   ·refine ⟨rfl,_,T,_,KV w _, .inl rfl,?_,by simpa using Ds,λ i x hix=>?_⟩
    ·rw [AO,<- Rf (e:=e) n];simp [Value.cells]
    ·obtain ⟨ys,hy,hc⟩:=jx (ok:=ok) (w:=w.alloc (.cells (Value.agg (List.replicate n e.zcells).flatten.toArray).cells T)) n i x hix;exact ⟨ys,hy,λ j u hj=>by simpa [Value.cells] using hc j u hj⟩
   ·exact ⟨by simp [St.C3,B5],λ _=>⟨w.heap.size,false,by simp [G.D1,B5],rfl⟩⟩
  ·split
   ·rename_i t hT;obtain ⟨i,hi,hs,hz⟩:=(hE.ty T t hT).info;refine go_ok hd λ _=>⟨g.D1 d w.heap.size false,_,_,B8 i _ hi hz,hI.C3 (Nat.lt_of_lt_of_le (hd _ (by assumption)) hI.tm) (M5 w _) (Au _) Ah (λ ok g' σ' hx=>?_),?_⟩
    ·refine ⟨rfl,t.zcells,T,?_,Iy _ _ _,⟨by have:=Fu.zero w.heap.size t [] [];simpa using this,hE.slf T t hT⟩,WO t []⟩;rw [KV,OJ (Iy (λ _ _=>True) w t)]
    ·exact ⟨by simp [St.C3,B5],λ _=>⟨w.heap.size,false,by simp [G.D1,B5],rfl⟩⟩
   ·exact BF
 ·exact BF
theorem Te {ok:Nat->Nat->Prop} {u:Ty} {av:AV} {y:u.D} {v:Value} (h:av.as u=some y) (hr:RepA ok g σ w av v):Rx ok g σ w u y (av.tags u) v:=by
 cases av with
 | dat t x gs=>
  obtain ⟨e,he⟩:=F6 (h:DM (t:=t) u x=some y);subst e;have QL:x=y:=he;subst QL;exact hr
 | nils=>
  cases u with
  | sl e=>
   have hy:=Option.some.inj (h:some ([]:List e.D)=some y);subst hy;have hv:v = .slice none 0 0:=hr;subst hv;refine ⟨[.slice none 0 0],⟨none,0,0,rfl,rfl,Au _,Nat.zero_le _,λ i x hi=>by simp at hi⟩,rfl,λ t ht=>?_⟩;have:t=⟨0,0,0,e.sg⟩:=by simpa [AV.tags] using ht
   subst this;exact ⟨λ _=>rfl,λ h0=>absurd rfl h0⟩
  | _=>cases h
 | _=>cases h
theorem Yk6 (hE:EnvOk P E) (hI:Inv B ok0 w0 g σ a w) (hd:∀ d,o.dst=some d->d<a.tmps.size) {T:Nat} {x:Operand} (ho:o.op = .box T x):
  DZ P B ok0 w0 (RQ E T o σ (Bm σ x)) o a w:=by
 unfold RQ;split
 ·rename_i d Hq;split
  ·rename_i t hT;split
   ·rename_i y hy;obtain ⟨cs,hr,hv,ht⟩:=Te hy (EM hI x);have B8:(execOp a.eval o).run P w = .ok (.value (.pointer (some ⟨w.heap.size,0,none⟩))) (w.alloc (.cells cs.toArray T)):=by
     unfold execOp;rw [ho];simp [Instr.box,newVar,newRow,hv,OJ hr]
    unfold cX;split
    ·rename_i m e l gs;refine go_ok hd λ _=>⟨g.D1 d w.heap.size false,_,_,B8,hI.C3 (Nat.lt_of_lt_of_le (hd _ (by assumption)) hI.tm) (M5 w _) (Au _) Ah (λ ok g' σ' hx=>?_),?_⟩
     ·obtain ⟨h1,h2,h3⟩:=hr.mono hx.cell;have Ds:=hE.arMax T m e hT;refine ⟨rfl,_,T,_,KV w _, .inl rfl,by rw [h1];simp [h2],Ad,λ i x hi=>⟨_,h3 i x hi,λ j u hj=>?_⟩⟩;rw [AQ] at hj;split at hj
      ·rw [List.getElem?_drop] at hj;simpa using hj
      ·cases hj
     ·exact ⟨by simp [St.C3,B5],λ _=>⟨w.heap.size,false,by simp [G.D1,B5],rfl⟩⟩
    ·refine Zkh λ PA=>?_
     ·refine go_ok hd λ _=>⟨g.D1 d w.heap.size false,_,_,B8,hI.C3 (Nat.lt_of_lt_of_le (hd _ (by assumption)) hI.tm) (M5 w _) (Au _) Ah (λ ok g' σ' hx=>?_),?_⟩
      ·exact ⟨rfl,cs,T,KV w _,hr.mono hx.cell,⟨Fu.none _ _ _ PA,λ h=>by rw [PA] at h;cases h⟩,ht.ext hx⟩
      ·exact ⟨by simp [St.C3,B5],λ _=>⟨w.heap.size,false,by simp [G.D1,B5],rfl⟩⟩
   ·exact BF
  ·exact BF
 ·exact BF
theorem sV (off:Nat):∀ (ys:List Value) (k:Nat) (cells:Array Value),off+k+ys.length<=cells.size->
  ((ys.zipIdx k).foldl (λ cs (p:Value×Nat)=>cs.setIfInBounds (off+p.2) p.1) cells).toList=D7 cells.toList (off+k) ys
 | [],k,cells,_=>by simp [D7]
 | y :: ys,k,cells,h=>by
  simp only [Aw] at h;rw [List.zipIdx_cons,List.foldl_cons,sV off ys (k+1) _ Ai];unfold D7;simp only [Array.toList_setIfInBounds,Aw];have hlen:cells.toList.length=cells.size:=Ah
  have h1:(cells.toList.set (off+k) y).take (off+(k+1))=cells.toList.take (off+k)++[y]:=by
   rw [show off+(k+1)=(off+k)+1 by omega,List.take_add_one,List.take_set_of_le Ad,List.getElem?_set_self Ad];rfl
  rw [h1,List.drop_set_of_lt Ad,show off+(k+1)+ys.length=off+k+(ys.length+1) by omega];simp
theorem uR {place:Nat->Option (Nat×Nat)} {cells:Array Value} {f off:Nat} {v:Value} {ys:List Value} {rest:List (Nat×Value)} (hp:place f=some (off,ys.length)) (hv:v.cells=ys.toArray)
  (hle:off+ys.length<=cells.size):Instr.fill place cells ((f,v) :: rest)=Instr.fill place (D7 cells.toList off ys).toArray rest:=by
 have hf:=sV off ys 0 cells Ad;rw [Nat.add_zero] at hf
 conv=>lhs;unfold Instr.fill
 simp only [hp,hv,List.size_toArray];rw [if_neg Ai];congr 1;rw [<- hf];simp [Array.zipIdx_toArray]
theorem Ll {cs ys:List Value} {off:Nat} (h:off+ys.length<=cs.length):(D7 cs off ys).length=cs.length:=by
 unfold D7;simp only [Ap,Ar,List.length_drop];omega
theorem y3 {r:Nat->Nat} {gs hs:List Tag} {cs ys:List Value} {off:Nat} (h:IB g r w gs cs) (h':IB g r w hs ys) (hle:off+ys.length<=cs.length):
  IB g r w (ec gs off ys.length hs) (D7 cs off ys):=by
 intro t ht;unfold ec at ht;rcases List.mem_append.1 ht with ht | ht
 ·obtain ⟨h1,h2⟩:=List.mem_filter.1 ht;obtain ⟨h3,h4⟩:=h t h1;have To:¬ (off<=t.off/\t.off<off+ys.length):=by
   intro Dc;simp [Dc.1,Dc.2] at h2
  have hg:(D7 cs off ys)[t.off]? = cs[t.off]?:=by
   unfold D7;by_cases AY:t.off<off
   ·rw [AA,AR (by rw [Ar];omega),AQ,if_pos AY]
   ·rw [AJ (by rw [Ap,Ar];omega),List.getElem?_drop];congr 1;rw [Ap,Ar];omega
  unfold Yi;rw [hg];exact ⟨h3,h4⟩
 ·obtain ⟨u,hu,he⟩:=List.mem_map.1 ht;subst he;obtain ⟨h3,h4⟩:=h' u hu;have hg:∀ v,ys[u.off]? = some v->(D7 cs off ys)[u.off+off]? = some v:=by
   intro v hv;have:=(List.getElem?_eq_some_iff.1 hv).1;unfold D7;rw [AA,AJ (by rw [Ar];omega),AR (by rw [Ar];omega),<- hv];congr 1;rw [Ar];omega
  refine ⟨λ h0=>hg _ (h3 h0),λ h0=>⟨(h4 h0).1,λ he=>?_⟩⟩;rcases (h4 h0).2 he with hv | ⟨b,n,cap,cur,T,hv,rest⟩
  ·exact .inl (hg _ hv)
  ·exact .inr ⟨b,n,cap,cur,T,hg _ hv,rest⟩
theorem sW (hI:Inv B ok0 w0 g σ a w) {T:Nat} {t:Ty} {place:Nat->Option (Nat×Nat)} (CT:∀ i d u,E.pl T i=some (d,u)->place i=some (d,u.sz)):
  ∀ (ps:List (Nat×Operand)) (z z':t.D) (gs IH:List Tag) (cs:List Value),L0 E T σ t ps z gs=some (z',IH)->RepD (okG B ok0 g w) w t z cs->IB g σ.r w gs cs->
   ∃ Mq,Instr.fill place cs.toArray (ps.map λ p=>(p.1,a.eval p.2))=some Mq.toArray/\RepD (okG B ok0 g w) w t z' Mq/\IB g σ.r w IH Mq
 | [],z,z',gs,IH,cs,h,hr,ht=>by
  simp only [L0,Option.some.injEq,Prod.mk.injEq] at h;obtain ⟨rfl,rfl⟩:=h;exact ⟨cs,rfl,hr,ht⟩
 | (f,x) :: ps,z,z',gs,IH,cs,h,hr,ht=>by
  unfold L0 at h;split at h
  ·rename_i d u Px;split at h
   ·rename_i y hy;split at h
    ·rename_i z1 LN;obtain ⟨ys,EV,QT,fw⟩:=Te hy (EM hI x);obtain ⟨hs,hle⟩:=Uw EV LN hr;have Iv:=EV.len;have Mn:=hr.len;obtain ⟨Mq,h1,h2,h3⟩:=sW hI CT ps z1 z' _ IH (D7 cs d ys) h hs (by rw [<- Iv];exact y3 ht fw Ad);refine ⟨Mq,?_,h2,h3⟩;rw [List.map_cons,uR (ys:=ys) (by rw [Iv];exact CT f d u Px) (by rw [QT,OJ EV]) Ai];exact h1
    ·cases h
   ·cases h
  ·cases h
theorem Yxf (hE:EnvOk P E) (hI:Inv B ok0 w0 g σ a w) (hd:∀ d,o.dst=some d->d<a.tmps.size) {T:Nat} {ps:Array (Nat×Operand)} (ho:o.op = .build T ps)
  {t:Ty} (hT:E.ty T=some t) (Pn:t.isAgg=true) {z:t.D} {gs:List Tag} (h:L0 E T σ t ps.toList t.zero (Oc t 0)=some (z,gs)):
  DZ P B ok0 w0 (put o σ (.dat t z gs)) o a w:=by
 obtain ⟨place,CT,B8⟩:=hE.pl T t hT Pn;obtain ⟨Mq,h1,h2,h3⟩:=sW hI CT ps.toList t.zero z (Oc t 0) gs t.zcells h (Iy _ _ _) (WO t []);refine Dx hI hd (v:=valOf t Mq) ?_ ⟨Mq,h2,rfl,h3⟩;unfold execOp;rw [ho];have:=B8 w (ps.map λ p=>(p.1,a.eval p.2)) Mq.toArray (by simpa using h1);simp [this,valOf,Pn]
theorem y4 (hI:Inv B ok0 w0 g σ a w) {e:Ty}:∀ (ps:List (Nat×Operand)) (i:Nat) (l:List e.D) (pre:List Value),Om σ e i ps=some l->pre.length=i*e.sz->
  ∃ cs,cs.length=l.length*e.sz/\l.length=ps.length/\Jr (okG B ok0 g w) w e l cs/\
   ∀ tail:List Value,(ps.length*e.sz<=tail.length)->Instr.fill (λ i=>some (i*e.sz,e.sz)) (pre++tail).toArray (ps.map λ p=>(p.1,a.eval p.2))=some (pre++cs++tail.drop (ps.length*e.sz)).toArray
 | [],i,l,pre,h,hp=>by
  simp only [Om,Option.some.injEq] at h;subst h;exact ⟨[],Ah,rfl,⟨Ah,λ i x hi=>by simp at hi⟩,λ tail _=>by simp [Instr.fill]⟩
 | (j,x) :: ps,i,l,pre,h,hp=>by
  unfold Om at h;split at h
  ·rename_i Oz;subst Oz;split at h
   ·rename_i y hy;split at h
    ·rename_i l' Im;cases h;obtain ⟨ys,EV,QT,_⟩:=Te hy (EM hI x);have Iv:=EV.len;obtain ⟨cs,h1,h2,⟨h3a,h3b⟩,h4⟩:=y4 hI ps (j+1) l' (pre++ys) Im (by rw [Ap,hp,Iv,Nat.add_mul];omega);refine ⟨ys++cs,by rw [Ap,h1,Iv,Aw,Nat.add_mul];omega,by simp [h2],⟨by rw [Ap,h1,Iv,Aw,Nat.add_mul];omega,λ i x hi=>?_⟩,λ tail ht=>?_⟩
     ·cases i with
      | zero=>
       simp only [List.getElem?_cons_zero,Option.some.injEq] at hi;subst hi;refine ⟨ys,EV,λ k u hk=>?_⟩;have:=(List.getElem?_eq_some_iff.1 hk).1;rw [Nat.zero_mul,AF,AR Ad];exact hk
      | succ i=>
       obtain ⟨zs,hz,Jk⟩:=h3b i x (by simpa using hi);refine ⟨zs,hz,λ k u hk=>?_⟩;rw [AJ (by rw [Nat.add_mul];omega),show (i+1)*e.sz+k-ys.length=i*e.sz+k by rw [Nat.add_mul];omega];exact Jk k u hk
     ·simp only [Aw,Nat.add_mul,Nat.one_mul] at ht;rw [List.map_cons,uR (off:=j*e.sz) (ys:=ys) (by rw [Iv]) (by rw [QT,OJ EV]) (by simp [hp,Iv];omega)];have Fl:D7 (pre++tail) (j*e.sz) ys=pre++ys++tail.drop e.sz:=by
       unfold D7;rw [<- hp,List.take_left,Iv,show pre.length+e.sz=pre.length+e.sz from rfl,List.drop_append,List.drop_eq_nil_of_le Ad,AS,Nat.add_sub_cancel_left]
      have:=h4 (tail.drop e.sz) (by rw [List.length_drop];omega);rw [show (pre++tail).toArray.toList=pre++tail by simp,Fl,this];congr 2;rw [List.drop_drop,Aw,Nat.add_mul,Nat.one_mul];simp [AA,Nat.add_comm]
    ·cases h
   ·cases h
  ·cases h
theorem jS (hI:Inv B ok0 w0 g σ a w) (hb:Below w.heap.size w w') {nb id n cap:Nat} {cur:Array Value} {TT:TypeId} (h1:w.heap.size<=nb) (hh:w'.heap[nb]? = some (.cells cur TT (0,0)))
  {e:Ty} {l:List e.D} {cs:List Value} (hr:Jr (okG B ok0 g w) w e l cs) (hl:l.length=n) (VE:∀ (j:Nat) u,cs[j]? = some u->cur[j]? = some u) (BL:cur.size=cap*e.sz) (hn:n<=cap) (hm:cap<=maxLen) (hid:id≠0) (qL:e.sg=0->TT=Lay.byt):
  ∃ g',Inv B ok0 w0 g' (σ.C8 id) a w'/\RepA (okG B ok0 g' w') g' (σ.C8 id) w' (.dat (.sl e) l [⟨0,id,σ.r id+1,e.sg⟩]) (.slice (some ⟨nb,0,none⟩) n cap):=by
 have h2:nb<w'.heap.size:=(Array.getElem?_eq_some_iff.1 hh).1;have hρ:∀ (i b u:Nat),(if i=id then some (some (nb,n*e.sz)) else none:Option (Option (Nat×Nat)))=some (some (b,u))->i=id/\b=nb/\u=n*e.sz:=by
  intro i b u hi;split at hi
  ·rename_i Pp;cases hi;exact ⟨Pp,rfl,rfl⟩
  ·cases hi
 obtain ⟨CG,hx⟩:=hI.yY hb (ρ:=λ i=>if i=id then some (some (nb,n*e.sz)) else none) (σ':=σ.C8 id) (g':=g.Lt id (some (nb,n*e.sz)))
  (by
   unfold G.Lt;congr 1;funext i;rw [B5]
   by_cases hi:i=id <;> simp [hi])
  (by
   unfold St.C8;congr 1;funext i;rw [B5]
   by_cases hi:i=id <;> simp [hi])
  (λ i b u hi=>by obtain ⟨_,rfl,_⟩:=hρ i b u hi;exact ⟨h1,h2⟩)
  (λ i j b u u' hi hj=>by rw [(hρ i b u hi).1,(hρ j b u' hj).1])
 refine ⟨_,CG,⟨[.slice (some ⟨nb,0,none⟩) n cap],⟨_,_,_,rfl,hl,hn,hm,λ i x hi=>?_⟩,rfl,λ t ht=>?_⟩⟩
 ·obtain ⟨ys,hy,CU⟩:=hr.2 i x hi;refine ⟨_,rfl,rfl,ys,hy.mono hx.cell,λ j u hj=>?_⟩;have R7:=CU j u hj;have AY:=(List.getElem?_eq_some_iff.1 R7).1;rw [hr.1,hl] at AY;have TX:B.n<=w.heap.size:=by have:=hI.below.size;have:=hI.hB;omega
  refine ⟨.inr ⟨.inl (by simp only;omega),h2,λ id' he=>?_,λ id' u' he=>?_⟩,?_⟩
  ·have:=(hI.bb id' nb false he).2;omega
  ·simp only [G.Lt,B5] at he;split at he
   ·cases he;simp only [AF];exact AY
   ·have:=(hI.rb id' nb u' he).2.1;omega
  ·simp only [World.cell?,hh,AF];exact VE _ _ R7
 ·have LM:t=⟨0,id,σ.r id+1,e.sg⟩:=by simpa using ht
  subst LM;refine ⟨λ h0=>absurd h0 hid,λ _=>⟨by simp [St.C8,B5],λ _=> .inr ⟨nb,n,cap,cur,TT,rfl,by simp [G.Lt,B5,W4],hh,by rw [W4];exact BL,hn,hm,qL⟩⟩⟩
theorem Zs4 (hI:Inv B ok0 w0 g σ a w) (hb:Below w.heap.size w w') {nb n cap:Nat} {cur:Array Value} {TT:TypeId} (h1:w.heap.size<=nb) (hh:w'.heap[nb]? = some (.cells cur TT (0,0)))
  {e:Ty} {l:List e.D} {cs:List Value} (hr:Jr (okG B ok0 g w) w e l cs) (hl:l.length=n) (VE:∀ (j:Nat) u,cs[j]? = some u->cur[j]? = some u) (hn:n<=cap) (hm:cap<=maxLen):
  Inv B ok0 w0 g σ a w'/\RepA (okG B ok0 g w') g σ w' (.dat (.sl e) l []) (.slice (some ⟨nb,0,none⟩) n cap):=by
 have h2:nb<w'.heap.size:=(Array.getElem?_eq_some_iff.1 hh).1;have hx:=Ext.MD hI hb;refine ⟨hI.grown hb,[.slice (some ⟨nb,0,none⟩) n cap],⟨_,_,_,rfl,hl,hn,hm,λ i x hi=>?_⟩,rfl,λ t ht=>by cases ht⟩;obtain ⟨ys,hy,CU⟩:=hr.2 i x hi;refine ⟨_,rfl,rfl,ys,hy.mono hx.cell,λ j u hj=>?_⟩;have R7:=CU j u hj;have TX:B.n<=w.heap.size:=by have:=hI.below.size;have:=hI.hB;omega
 refine ⟨.inr ⟨.inl (by simp only;omega),h2,λ id' he=>?_,λ id' u' he=>?_⟩,?_⟩
 ·have:=(hI.bb id' nb false he).2;omega
 ·have:=(hI.rb id' nb u' he).2.1;omega
 ·simp only [World.cell?,hh,AF];exact VE _ _ R7
theorem UY (d j:Nat):CK d j≠0:=by unfold CK;omega
theorem Zxt (hE:EnvOk P E) (hI:Inv B ok0 w0 g σ a w) (hd:∀ d,o.dst=some d->d<a.tmps.size) {T n:Nat} {ps:Array (Nat×Operand)} (ho:o.op = .buildSlice T n ps):
  DZ P B ok0 w0 (Q3 E T n ps o σ) o a w:=by
 unfold Q3;split
 ·rename_i d e Hq hT;obtain ⟨ET,ie,hu,EX,BL,hz,_⟩:=(hE.ty T _ hT).und;split
  ·rename_i l hl;split
   ·rename_i hlen;obtain ⟨cs,h1,h2,h3,h4⟩:=y4 hI ps.toList 0 l [] hl Ah;have Jk:(valOf e e.zcells).cells=e.zcells.toArray:=OJ (Iy (λ _ _=>True) w e);have R6:=(Iy (λ _ _=>True) w e).len;have pQ:n*e.sz<=16777216->n<=maxLen:=λ Gb=>by have:=e.Nk;have:n*1<=n*e.sz:=Nat.mul_le_mul_left n this;unfold maxLen;omega
    have Zgo:n*e.sz<=16777216->(execOp a.eval o).run P w = .ok (.value (.slice (some ⟨w.heap.size,0,none⟩) n n)) (w.alloc (.cells cs.toArray ET)):=by
     intro Gb;unfold execOp;rw [ho];have hf:∀ z:Array Value,z.size=n*e.sz->Instr.fill (λ i=>some (i*e.sz,e.sz)) z (ps.toList.map λ p=>(p.1,a.eval p.2))=some cs.toArray:=by
      intro z eW;have:=h4 z.toList (by rw [hlen];simp [eW]);rw [hlen,List.drop_eq_nil_of_le (by simp [eW])] at this;simpa using this
     have Yo6:¬ (n*e.sz > 2 ^ 24):=by omega
     simp only [Instr.buildSlice,Sem.run_bind,run_underlying hu,Result.andThen_ok,sizeOf,typeInfo,run_program,EX,Sem.run_pure,BL,if_neg Yo6,zeroValue];by_cases h0:n*e.sz=0
     ·simp only [if_pos h0,Sem.run_bind,Sem.run_pure,Result.andThen_ok];rw [show (Array.map (λ x=>match x with | (i,x)=>(i,a.eval x)) ps).toList=ps.toList.map λ p=>(p.1,a.eval p.2) by simp];rw [hf _ (by simp [h0])];simp [newRow]
     ·simp only [if_neg h0,Sem.run_bind,Sem.run_pure,Result.andThen_ok,run_program,EX,hz];rw [show (Array.map (λ x=>match x with | (i,x)=>(i,a.eval x)) ps).toList=ps.toList.map λ p=>(p.1,a.eval p.2) by simp];rw [hf _ Ah];simp [newRow]
    cases Xti:E.lit d with
    | true=>
     refine go_ok hd λ hc=>?_
     rw [Bool.and_eq_true] at hc;have Gb:n*e.sz<=16777216:=Az hc.1;obtain ⟨CG,FL⟩:=Zs4 hI (M5 w (.cells cs.toArray ET)) (n:=n) (cap:=n) (cur:=cs.toArray) (TT:=ET) (Au _) (KV w _) h3 (by rw [h2,hlen]) (λ j u hj=>by simpa using hj) (Au _) (pQ Gb);exact ⟨g,_,_,Zgo Gb,CG,FL⟩
    | false=>
    refine go_ok hd λ hc=>?_
    rw [Bool.and_eq_true] at hc;have Gb:n*e.sz<=16777216:=Az hc.1;have qE:=pQ Gb;have B8:=Zgo Gb;obtain ⟨g',CG,FL⟩:=jS hI (M5 w (.cells cs.toArray ET)) (id:=CK d 0) (n:=n) (cap:=n) (cur:=cs.toArray) (TT:=ET) (Au _) (KV w _) h3 (by rw [h2,hlen]) (λ j u hj=>by simpa using hj)
     (by simp [h1,h2,hlen]) (Au _) qE (UY d 0) (hE.qO (by assumption) hu)
    exact ⟨g',_,_,B8,CG,FL⟩
   ·exact BF
  ·exact BF
 ·exact BF
theorem yZ {e:Ty} {n:Nat}:madeCells e.zcells.toArray (n*e.sz)=((List.replicate n e.zcells).flatten).toArray:=by
 have hl:=(Iy (λ _ _=>True) (default:World) e).len;have hp:=e.Nk;have hz:∀ (n k:Nat),k<n*e.sz->((List.replicate n e.zcells).flatten)[k]? = e.zcells[k % e.sz]?:=by
  intro n;induction n with
  | zero=>intro k hk;simp at hk
  | succ n ih=>
   intro k hk;rw [List.replicate_succ,List.flatten_cons];by_cases AY:k<e.sz
   ·rw [AR Ad,Nat.mod_eq_of_lt AY]
   ·rw [AJ Ad,hl,ih (k-e.sz) (by rw [Nat.add_mul] at hk;omega)];congr 1;exact (Nat.mod_eq_sub_mod Ad).symm
 apply Array.ext
 ·rw [size_madeCells,List.size_toArray,Rf]
 ·intro i h1 h2;rw [size_madeCells] at h1;have Qx:i % e.sz<e.sz:=Nat.mod_lt _ hp;have:=hz n i h1;rw [AD (by rw [Rf];exact h1),AD Ad] at this;simp only [madeCells,Array.getElem_map,Array.getElem_range,List.size_toArray,hl,List.getElem_toArray];rw [Option.some.inj this,getElem!_pos e.zcells.toArray (i % e.sz) Ai];rfl
theorem Zbv (hE:EnvOk P E) (hI:Inv B ok0 w0 g σ a w) (hd:∀ d,o.dst=some d->d<a.tmps.size) {T:Nat} {x y:Operand} (ho:o.op = .makeSlice T x y):
  DZ P B ok0 w0 (Sr E T o σ x y) o a w:=by
 unfold Sr;split
 ·rename_i d e k n g1 j m g2 Hq hT hx hy;obtain ⟨ET,ie,hu,EX,BL,hz,_⟩:=(hE.ty T _ hT).und;obtain ⟨Ii,V0⟩:=hE.by_ T e ET ie hT hu EX;have B8:∀ l c:Int,a.eval x = .int k l->a.eval y = .int j c->0<=l->l<=c->c.toNat*E.by_ T<=140737488355328->
    (execOp a.eval o).run P w = .ok (.value (.slice (some ⟨w.heap.size,0,none⟩) l.toNat c.toNat)) (w.alloc (.cells ((List.replicate c.toNat e.zcells).flatten).toArray ET))/\c.toNat<=140737488355328:=by
   intro l c hl hc h0 VU Gb;have Zmp:c.toNat<=140737488355328:=Nat.le_trans (Nat.le_mul_of_pos_right _ V0) Gb;have R3:(ie.bytes:Int)*c<=281474976710656:=by
    have h1:((c.toNat*E.by_ T:Nat):Int)<=((140737488355328:Nat):Int):=Int.ofNat_le.mpr Gb;rw [Int.natCast_mul,Int.toNat_of_nonneg Ad,Int.mul_comm] at h1;rw [Ii];omega
   have hr:=run_make (P:=P) w T ET ie (valOf e e.zcells) hu EX hz k j l c h0 VU R3 Ad;rw [OJ (Iy (λ _ _=>True) w e),BL,yZ] at hr;refine ⟨?_,Zmp⟩;unfold execOp;rw [ho];simp only [hl,hc,Sem.run_bind,hr,Result.andThen_ok,Sem.run_pure]
  split
  ·rename_i Yj;have hmn:a.eval y = .int j n:=by
    have h1:=Kt hI hx;have h2:=Kt hI hy;have:a.eval x=a.eval y\/(∃ i i' q,a.eval x = .int i q/\a.eval y = .int i' q):=by
     unfold xX at Yj;split at Yj
     ·rw [Nat.eq_of_beq_eq_true Yj];exact .inl rfl
     ·have:=Az Yj;subst this;exact .inr ⟨_,_,_,rfl,rfl⟩
     ·cases Yj
    rcases this with h | ⟨i,i',q,e1,e2⟩
    ·rw [h1,h2] at h;cases h;exact h2
    ·rw [h1] at e1;rw [h2] at e2;cases e1;cases e2;exact h2
   refine go_ok hd λ hc=>?_
   rw [Bool.and_eq_true] at hc;have h0:0<=n:=Az hc.1;obtain ⟨hr,hle⟩:=B8 n n (Kt hI hx) hmn h0 (Int.le_refl _) (Az hc.2);refine ⟨g.D1 d w.heap.size false,_,_,hr,hI.C3 (Nat.lt_of_lt_of_le (hd _ (by assumption)) hI.tm) (M5 w _) (Au _) Ah (λ ok g' σ' hx=>?_),?_⟩
   ·refine ⟨rfl,_,ET,_,KV w _, .inl rfl,?_,?_,λ i z hi=>?_⟩
    ·rw [AO,List.size_toArray,Rf];omega
    ·rw [AO];unfold maxLen;omega
    ·obtain ⟨ys,QU,CN⟩:=jx (ok:=ok) (w:=w.alloc (.cells ((List.replicate n.toNat e.zcells).flatten).toArray ET)) n.toNat i z hi;exact ⟨ys,QU,λ j u hj=>by simpa using CN j u hj⟩
   ·exact ⟨by simp [St.C3,B5],λ _=>⟨e,List.replicate n.toNat e.zero,false,by simp [St.C3,B5], .inr ⟨w.heap.size,false,n.toNat,_,ET,_,by simp [G.D1,B5],KV w _,by rw [List.size_toArray,Rf],by rw [AO];omega,by unfold maxLen;omega,by rw [AO]⟩⟩⟩
  ·split
   ·rename_i Du;subst Du;cases Er:E.bx d with
    | true=>
     dsimp only [cond_true];refine go_ok hd λ hc=>?_
     rw [Bool.and_eq_true] at hc;have h0:0<=m:=Az hc.1;obtain ⟨hr,hle⟩:=B8 0 m (Kt hI hx) (Kt hI hy) (Int.le_refl _) h0 (Az hc.2);refine ⟨g.D1 d w.heap.size false,_,_,hr,hI.C3 (Nat.lt_of_lt_of_le (hd _ (by assumption)) hI.tm) (M5 w _) (Au _) Ah (λ ok g' σ' hx=>?_),?_⟩
     ·exact ⟨rfl,_,ET,_,KV w _, .inl rfl,Ah,Ah,λ i z hi=>by simp at hi⟩
     ·exact ⟨by simp [St.C3,B5],λ _=>⟨e,[],false,by simp [St.C3,B5], .inr ⟨w.heap.size,false,m.toNat,_,ET,_,by simp [G.D1,B5],KV w _,by rw [List.size_toArray,Rf],Nat.zero_le _,by unfold maxLen;omega,rfl⟩⟩⟩
    | false=>
    dsimp only [cond_false];refine go_ok hd λ hc=>?_
    rw [Bool.and_eq_true] at hc;have h0:0<=m:=Az hc.1;obtain ⟨hr,hle⟩:=B8 0 m (Kt hI hx) (Kt hI hy) (Int.le_refl _) h0 (Az hc.2);obtain ⟨g',CG,FL⟩:=jS hI (M5 w (.cells ((List.replicate m.toNat e.zcells).flatten).toArray ET)) (id:=CK d 0) (n:=0) (cap:=m.toNat) (TT:=ET) (Au _) (KV w _) (e:=e) (l:=[]) (cs:=[])
     ⟨Ah,λ i x hi=>by simp at hi⟩ rfl (λ j u hj=>by simp at hj) (by rw [List.size_toArray,Rf]) (Nat.zero_le _) (by unfold maxLen;omega) (UY d 0) (hE.qO (by assumption) hu)
    exact ⟨g',_,_,hr,CG,FL⟩
   ·exact BF
 ·exact BF
theorem Zl (P:Program) (b o:Nat) (t:TypeId) (y:Nat×Nat):∀ (vs:List Value) (i:Nat) (cur:Array Value) (w:World),w.heap[b]? = some (.cells cur t y)->(y=(0,0)\/cur.size<=y.1)->
  o+i+vs.length<=cur.size->(∀ v∈vs,v.oneCell'=true)->(storeCells ⟨b,o,none⟩ vs i).run P w = .ok () (w.setRow b (D7 cur.toList (o+i) vs).toArray)
 | [],i,cur,w,hg,_,_,_=>by
  unfold D7;simp only [storeCells,AE,List.length_nil,Nat.add_zero,List.take_append_drop,Array.toArray_toList];rw [setRow_self w b cur t y hg];rfl
 | v :: vs,i,cur,w,hg,hy,hl,h1=>by
  have Im:o+i+(vs.length+1)<=cur.size:=by simpa using hl
  have hi:o+i<cur.size:=Ad
  have Xuh:w.frozen? ⟨b,o+i,none⟩=false:=by
   rcases hy with rfl | hy
   ·simp [World.frozen?,hg]
   ·obtain ⟨y1,y2⟩:=y;have hy:cur.size<=y1:=hy;have:¬ y1<=o+i:=Ad
    simp [World.frozen?,hg,this]
  have D0:w.cell? ⟨b,o+i,none⟩=some cur[o+i]:=by simp [World.cell?,hg,hi]
  have Fy:(store ((⟨b,o,none⟩:Addr).add i) v).run P w = .ok () (w.setRow b (cur.setIfInBounds (o+i) v)):=by
   rw [IN ⟨b,o,none⟩ rfl,run_store P w _ v _ (h1 v Ah),D0];simp [Xuh,setCell_eq_setRow w b (o+i) cur t y v hg]
  have ih:=Zl P b o t y vs (i+1) (cur.setIfInBounds (o+i) v) (w.setRow b (cur.setIfInBounds (o+i) v)) (setRow_heap w b cur _ t _ hg) (by simpa using hy) Ai λ x hx=>h1 x (by simp [hx])
  have e:=list_seg_step cur.toList (o+i) v vs Ai;simp only [storeCells,Sem.run_bind,Fy,Result.andThen_ok,ih,setRow_setRow];congr 3;unfold D7;simpa [Array.toList_setIfInBounds,Nat.add_assoc] using e
theorem gx {T:Nat} {u:Ty} (Ei:Fit P T u) {ok:Nat->Nat->Prop} {y:u.D} {ys:List Value} (hy:RepD ok w u y ys) {b off:Nat} {cur:Array Value} {TT:TypeId}
  {ym:Nat×Nat} (hh:w.heap[b]? = some (.cells cur TT ym)) (VY:ym=(0,0)\/cur.size<=ym.1) (hle:off+ys.length<=cur.size):
  (storeVar T ⟨b,off,none⟩ (valOf u ys)).run P w = .ok () (w.setRow b (D7 cur.toList off ys).toArray):=by
 have h:=Zl P b off TT ym ys 0 cur w hh VY Ad hy.one;simp only [Nat.add_zero] at h;unfold storeVar;have BL:¬ ys.length≠u.sz:=by rw [hy.len];simp
 simp only [OJ hy,Sem.run_bind,Ei.size,Result.andThen_ok,List.size_toArray,if_neg BL,h]
theorem Yyf (hE:EnvOk P E) (hI:Inv B ok0 w0 g σ a w) (hd:∀ d,o.dst=some d->d<a.tmps.size) {T:Nat} {x y:Operand} (ho:o.op = .store T x y):
  DZ P B ok0 w0 (Rq E T o σ (Bm σ x) (Bm σ y)) o a w:=by
 have rx:=EM hI x;have B8:∀ b o' w',a.eval x = .pointer (some ⟨b,o',none⟩)->(storeVar T ⟨b,o',none⟩ (a.eval y)).run P w = .ok () w'->(execOp a.eval o).run P w = .ok .skip w':=by
  intro b o' w' hx hv;unfold execOp;rw [ho];simp only [hx,Instr.storeAt,Instr.sureAddr,Sem.run_bind,Sem.run_pure,Result.andThen_ok,hv]
 unfold Rq;split
 ·rename_i id ver off hx;rw [hx] at rx;split
  ·rename_i hv;obtain ⟨b,f,hb,hp⟩:=rx.2 hv;split
   ·rename_i t z gs hc;obtain ⟨Km,cs,TT,hh,hr,RJ,ht⟩:=hI.IE hb hc;subst Km;split
    ·rename_i u hu;split
     ·rename_i q hq;split
      ·rename_i z' fx;obtain ⟨ys,EV,QT,fw⟩:=Te hq (EM hI y);obtain ⟨hs,hle⟩:=Uw EV fx hr;have Iv:=EV.len;have Mn:=hr.len;have Fy:=gx (hE.ty T u hu) EV (b:=b) (off:=off) hh (.inl rfl) Ai;rw [<- QT] at Fy;refine Zkh λ PA=>?_
       ·refine jT hd ⟨g,_,B8 b off _ hp Fy,hI.aG hc hb (λ e l fz he=>by cases he) (λ cur T _ Fz=>by rw [hh] at Fz;cases Fz;simp only [List.size_toArray];exact Ll Ad) (λ ok σ' D2=>?_)⟩;refine ⟨rfl,D7 cs off ys,TT,?_,hs.mono D2.cell,?_,?_⟩
        ·rw [setRow_heap w b _ _ _ _ hh]
        ·have:=Fu.G0 PA 0 fx Iv Ad RJ.1;rw [AF] at this;exact ⟨this,RJ.2⟩
        ·have:=y3 (off:=off) (ht.ext D2) (fw.ext D2) Ad;rw [Iv] at this;exact this
      ·exact BF
     ·exact BF
    ·exact BF
   ·rename_i e l hc;obtain ⟨Km,cur,TT,ym,hh,Ji,BL,Ds,Cj⟩:=hI.IE hb hc;have Y5:f=false:=Km;subst Y5;split
    ·rename_i m e' hT;split
     ·rename_i h0;subst h0;split
      ·rename_i q hq;split
       ·rename_i q' Zb;obtain ⟨ee,D2⟩:=F6 Zb;have TP:e'=e:=by cases ee;rfl
        subst TP;have YI:q=q':=D2;subst YI;obtain ⟨ys,EV,QT,_⟩:=Te hq (EM hI y);have Iv:=EV.len;have Xvh:=EV;obtain ⟨r1,r2,r3⟩:=EV;intro next Q IU hn
        have hlm:List.length (α:=e'.D) l=m+1:=Az IU;rw [hlm] at BL;have Ei:0+ys.length<=cur.size:=by rw [r2];omega
        have Fy:=gx (hE.ty T _ hT) Xvh (b:=b) (off:=0) hh Ji.un Ei;rw [<- QT] at Fy
        have de:DZ P B ok0 w0 (.go true ((σ.Dq id (.arr e' q false)).Ce o.dst .none)) o a w:=jT hd ⟨g,_,B8 b 0 _ hp Fy,hI.aG hc hb (λ e'' l'' fz he=>by cases he;exact ⟨q,false,rfl,Ad⟩)
          (λ cur' T' _ Fz=>by rw [hh] at Fz;cases Fz;rw [List.size_toArray,Ll (by rw [Array.length_toList];exact Ei),Array.length_toList]) (λ ok σ' D2=>by
         refine ⟨rfl,_,TT,ym,setRow_heap w b _ _ _ _ hh,Ji.eq (by rw [List.size_toArray,Ll (by rw [Array.length_toList];exact Ei),Array.length_toList]),by rw [r1,List.size_toArray,Ll (by rw [Array.length_toList];exact Ei),Array.length_toList];omega,Ad,λ i x hi=>⟨_,(r3 i x hi).mono D2.cell,λ j u hj=>?_⟩⟩;rw [AQ] at hj;split at hj
         ·rw [List.getElem?_drop] at hj;have AY:=(List.getElem?_eq_some_iff.1 hj).1;rw [List.getElem?_toArray];unfold D7;rw [List.take_zero,AS,AR AY];exact hj
         ·cases hj)⟩
        exact de next Q rfl hn
       ·exact BF
      ·exact BF
     ·exact BF
    ·exact BF
   ·exact BF
  ·exact BF
 ·rename_i id ver i off hx;rw [hx] at rx;split
  ·rename_i hv;split
   ·rename_i e l hc;obtain ⟨b,f,e2,l2,IG,hb,CB,hi,hp⟩:=rx.2 hv;rw [hc] at CB;cases CB;obtain ⟨Km,cur,TT,ym,hh,Ji,BL,Ds,Cj⟩:=hI.IE hb hc;have Y5:f=false:=Km;subst Y5;split
    ·rename_i u hu;split
     ·rename_i q hq;split
      ·rename_i z' fx;obtain ⟨ys,EV,QT,fw⟩:=Te hq (EM hI y);have R4:l[i]? = some (l.getD i e.zero):=by rw [AK,AD hi];rfl
       obtain ⟨zs,OF,Jk⟩:=Cj i _ R4;obtain ⟨hs,hle⟩:=Uw EV fx OF;have Iv:=EV.len;have R6:=OF.len;have Xui:i*e.sz+e.sz<=cur.size:=by rw [<- Nat.succ_mul];exact Nat.le_trans (AT _ hi) BL
       have Fy:=gx (hE.ty T u hu) EV (b:=b) (off:=i*e.sz+off) hh Ji.un Ad;rw [<- QT] at Fy;refine jT hd ⟨g,_,B8 b _ _ hp Fy,hI.aG hc hb (λ e' l' fz he=>by cases he;exact ⟨_,false,rfl,Ah⟩) (λ cur' T' _ Fz=>by rw [hh] at Fz;cases Fz;rw [List.size_toArray,Ll Ai,Array.length_toList]) (λ ok σ' D2=>?_)⟩;refine ⟨rfl,_,TT,ym,setRow_heap w b _ _ _ _ hh,Ji.eq (by rw [List.size_toArray,Ll Ai,Array.length_toList]),?_,by simpa using Ds,λ k x hk=>?_⟩
       ·rw [List.size_toArray,Ll Ai,List.length_set];simpa using BL
       ·by_cases eI:k=i
        ·subst eI;rw [List.getElem?_set_self hi] at hk;cases hk;refine ⟨_,hs.mono D2.cell,λ j v hj=>?_⟩;have Ov:j<e.sz:=by have:=(List.getElem?_eq_some_iff.1 hj).1;rw [Ll Ad,R6] at this;exact this
         rw [List.getElem?_toArray];unfold D7 at hj ⊢;by_cases h1:j<off
         ·rw [AA,AR (by rw [Ar];simp;omega),AQ,if_pos Ad];rw [AA,AR (by rw [Ar];omega),AQ,if_pos h1] at hj;have:=Jk _ _ hj;simpa using this
         ·by_cases h2:j<off+ys.length
          ·rw [AA,AJ (by rw [Ar];simp;omega),AR (by rw [Ar];simp;omega)];rw [AA,AJ (by rw [Ar];omega),AR (by rw [Ar];omega)] at hj;rw [<- hj];congr 1;rw [Ar,Ar];simp;omega
          ·rw [AJ (by rw [Ap,Ar];simp;omega),List.getElem?_drop];rw [AJ (by rw [Ap,Ar];omega),List.getElem?_drop] at hj;have:=Jk _ _ hj;rw [show off+ys.length+(j-(List.take off zs++ys).length)=j by rw [Ap,Ar];omega] at this;rw [show k*e.sz+off+ys.length+(k*e.sz+j-(List.take (k*e.sz+off) cur.toList++ys).length)=k*e.sz+j by rw [Ap,Ar];simp;omega];simpa using this
        ·rw [List.getElem?_set_ne (Ne.symm eI)] at hk;obtain ⟨ks,NL,qq⟩:=Cj k x hk;refine ⟨ks,NL.mono D2.cell,λ j v hj=>?_⟩;have Ov:j<e.sz:=by have:=(List.getElem?_eq_some_iff.1 hj).1;rw [NL.len] at this;exact this
         have:=qq j v hj;rw [List.getElem?_toArray];unfold D7;have Xie:k*e.sz+j<i*e.sz+off\/i*e.sz+off+ys.length<=k*e.sz+j:=by
          rcases Nat.lt_or_gt_of_ne eI with AY | hgt
          ·left;have:(k+1)*e.sz<=i*e.sz:=AT _ AY;rw [Nat.add_mul] at this;omega
          ·right;have:(i+1)*e.sz<=k*e.sz:=AT _ hgt;rw [Nat.add_mul] at this;omega
         rcases Xie with AY | Kf
         ·rw [AA,AR (by rw [Ar];simp;omega),AQ,if_pos AY];simpa using this
         ·rw [AJ (by rw [Ap,Ar];simp;omega),List.getElem?_drop];rw [show i*e.sz+off+ys.length+(k*e.sz+j-(List.take (i*e.sz+off) cur.toList++ys).length)=k*e.sz+j by rw [Ap,Ar];simp;omega];simpa using this
      ·exact BF
     ·exact BF
    ·exact BF
   ·exact BF
  ·exact BF
 ·exact BF
end
end Go.AM
end
