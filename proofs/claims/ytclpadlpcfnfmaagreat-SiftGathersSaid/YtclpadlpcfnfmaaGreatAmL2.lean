import Derived.Test.YtclpadlpcfnfmaaGreatAmL1
import Derived.WideLaws
import Derived.Laws.BytesString
section
/- Each operation does what the abstract machine says: those that only compute. -/
namespace Go.AM
open Go.RowKit (Below)
set_option linter.unusedSectionVars false
variable [Lay]
def Und (P:Program) (T:TypeId):Ty→Prop
 | .int k=>P.underlying T=some (.int k)
 | .bool=>P.underlying T=some .bool
 | .str=>P.underlying T=some .string
 | .sl e=>∃ ET ie,P.underlying T=some (.slice ET)∧P.info? ET=some ie∧ie.size=e.sz∧ie.zero=some (valOf e e.zcells)∧
   (∀ k,e = .int k→P.underlying ET=some (.int k))∧(e = .int .u8→ie.bytes=1)
 | .lk true=>P.underlying T=some (.interface (P.methodsAt T))
 | .lk false=>∃ U,P.underlying T=some (.pointer U)
 | .wrap _ | .pair _ _ | .arr _ _=>∃ d,P.underlying T=some d∧(match d with | .struct _ | .array _ _=>true | _=>false)=true
structure Fit (P:Program) (T:TypeId) (t:Ty):Prop where
 info:∃ i,P.info? T=some i∧i.size=t.sz∧i.zero=some (valOf t t.zcells)
 und:Und P T t
section
variable {P : Program} {B : Bd} {ok0 : Nat → Nat → Prop} {w0 w : World} {g : G} {σ : St} {a : Act} {o : Oper}
def CL (P:Program) (B:Bd) (ok0:Nat→Nat→Prop) (w0:World) (s:Step) (o:Oper) (a:Act) (w:World):Prop:=
 ∀ (next:Act→World→Prop) (Q:Exit→Act→World→Prop),
  match s with
  | .no=>True
  | .go c σ'=>c=true→(∀ g' a' w',Inv B ok0 w0 g' σ' a' w'→a'.tmps.size=a.tmps.size→next a' w')→o.wp P a w next Q
  | .call _ m f=>∀ x,m=some x→(∀ g' a' w',Inv B ok0 w0 g' (f x) a' w'→a'.tmps.size=a.tmps.size→next a' w')→o.wp P a w next Q
theorem Iu (a:Act) (d:Option Nat) (v:Value):(a.put d v).tmps.size=a.tmps.size:=by cases d <;> simp [Act.put]
theorem FW (hI:Inv B ok0 w0 g σ a w) (hd:∀ d,o.dst=some d→d<a.tmps.size) {c:Bool} {av:AV}
  (h:c=true→∃ v,(execOp a.eval o).run P w = .ok (.value v) w∧RepA (okG B ok0 g w) g σ w av v):CL P B ok0 w0 (chk o c σ av) o a w:=by
 intro next Q hc hn
 obtain ⟨v,hr,hv⟩:=h hc
 unfold Oper.wp
 rw [hr]
 exact hn g _ _ (hI.put hv hd) (Iu _ _ _)
theorem Cw (hI:Inv B ok0 w0 g σ a w) (hd:∀ d,o.dst=some d→d<a.tmps.size) {av:AV} {v:Value}
  (hr:(execOp a.eval o).run P w = .ok (.value v) w) (hv:RepA (okG B ok0 g w) g σ w av v):CL P B ok0 w0 (put o σ av) o a w:=
 FW hI hd fun _=>⟨v,hr,hv⟩
theorem AO:CL P B ok0 w0 .no o a w:=fun _ _=>trivial
theorem Ln {t:Ty} {x:t.D} {ok:Nat→Nat→Prop} {cs:List Value} (h:RepD ok w t x cs):RepA ok g σ w (.dat t x []) (valOf t cs):=
 ⟨cs,h,rfl,fun _ ht=>by cases ht⟩
theorem EG {ok:Nat→Nat→Prop} (k:IntKind) (n:Int):RepA ok g σ w (.dat (.int k) n []) (.int k n):=Ln (t:= .int k) (cs:=[.int k n]) rfl
theorem EX {ok:Nat→Nat→Prop} (b:Bool):RepA ok g σ w (.dat .bool b []) (.bool b):=Ln (t:= .bool) (cs:=[.bool b]) rfl
theorem Qu {ok:Nat→Nat→Prop} (s:ByteArray):RepA ok g σ w (.dat .str s []) (.string s):=Ln (t:= .str) (cs:=[.string s]) rfl
theorem of_int {ok:Nat→Nat→Prop} {k:IntKind} {n:Int} {gs:List Tag} {v:Value} (h:RepA ok g σ w (.dat (.int k) n gs) v):v = .int k n:=by
 obtain ⟨cs,h1,h2,_⟩:=h;simp only [RepD] at h1;subst h1;exact h2
theorem of_bool {ok:Nat→Nat→Prop} {b:Bool} {gs:List Tag} {v:Value} (h:RepA ok g σ w (.dat .bool b gs) v):v = .bool b:=by
 obtain ⟨cs,h1,h2,_⟩:=h;simp only [RepD] at h1;subst h1;exact h2
theorem vZ {ok:Nat→Nat→Prop} {s:ByteArray} {gs:List Tag} {v:Value} (h:RepA ok g σ w (.dat .str s gs) v):v = .string s:=by
 obtain ⟨cs,h1,h2,_⟩:=h;simp only [RepD] at h1;subst h1;exact h2
theorem cY {ok:Nat→Nat→Prop} {e:Ty} {l:List e.D} {gs:List Tag} {v:Value} (h:RepA ok g σ w (.dat (.sl e) l gs) v):
  ∃ p n cap,v = .slice p n cap∧RepD ok w (.sl e) l [v]∧l.length=n∧n≤cap∧cap≤maxLen∧Fi g σ.r w gs [v]:=by
 obtain ⟨cs,h1,h2,h3⟩:=h
 have hh:=h1
 obtain ⟨p,n,cap,rfl,hl,hn,hm,_⟩:=h1
 have hv:v = .slice p n cap:=h2
 subst hv
 exact ⟨p,n,cap,rfl,hh,hl,hn,hm,h3⟩
theorem DE (hI:Inv B ok0 w0 g σ a w) (x:Operand):RepA (okG B ok0 g w) g σ w (opd σ x) (a.eval x):=by
 cases x with
 | tmp t=>exact hI.slots t
 | func f=>exact ⟨[],rfl,trivial⟩
 | global n=>trivial
 | const v=>
  unfold opd
  split
  ·rename_i h;cases h
  ·rename_i k n h;cases h;exact EG k n
  ·rename_i b h;cases h;exact EX b
  ·rename_i s h;cases h;exact Qu s
  ·rename_i h;cases h;rfl
  ·rename_i h;cases h;exact Ln (t:= .lk true) (x:=true) (cs:=[.nilIface]) ⟨_,rfl, .inl ⟨rfl,rfl⟩⟩
  ·rename_i h;cases h
  ·trivial
theorem Zi8 {E:Env} {ok:Nat→Nat→Prop} {T:Nat} {av:AV} {v:Value} (h:RepA ok g σ w av v):RepA ok g σ w (coe E T av) v:=by
 unfold coe
 split
 ·split
  ·rename_i e _
   have hv:v = .slice none 0 0:=h
   subst hv
   refine ⟨[.slice none 0 0],⟨none,0,0,rfl,rfl,Nat.le_refl _,Nat.zero_le _,fun i x hi=>by simp at hi⟩,rfl,fun t ht=>?_⟩
   have:t=⟨0,0,0,e.sg⟩:=by simpa using ht
   subst this
   exact ⟨fun _=>rfl,fun h0=>absurd rfl h0⟩
  ·trivial
 ·exact h
theorem Zd1 {E:Env} (hI:Inv B ok0 w0 g σ a w) (hd:∀ d,o.dst=some d→d<a.tmps.size) {x:Operand} (ho:o.op = .move x∨o.op = .assign x):
  CL P B ok0 w0 (put o σ (coe E o.type (opd σ x))) o a w:=by
 refine Cw hI hd (v:=a.eval x) ?_ (Zi8 (DE hI x))
 rcases ho with ho | ho <;> · unfold execOp;rw [ho];rfl
theorem Fh (hI:Inv B ok0 w0 g σ a w) {x:Operand} {k:IntKind} {n:Int} {gs:List Tag} (h:opd σ x = .dat (.int k) n gs):a.eval x = .int k n:=
 of_int (by have:=DE hI x;rw [h] at this;exact this)
theorem SW (hI:Inv B ok0 w0 g σ a w) {x:Operand} {b:Bool} {gs:List Tag} (h:opd σ x = .dat .bool b gs):a.eval x = .bool b:=
 of_bool (by have:=DE hI x;rw [h] at this;exact this)
theorem Lc (hI:Inv B ok0 w0 g σ a w) {x:Operand} {s:ByteArray} {gs:List Tag} (h:opd σ x = .dat .str s gs):a.eval x = .string s:=
 vZ (by have:=DE hI x;rw [h] at this;exact this)
theorem wa (hI:Inv B ok0 w0 g σ a w) (hd:∀ d,o.dst=some d→d<a.tmps.size) {op:BinOp} {T U:Nat} {x y:Operand} (ho:o.op = .binOp op T x y U)
  {k j:IntKind} {m n:Int} {g1 g2:List Tag} (hx:opd σ x = .dat (.int k) m g1) (hy:opd σ y = .dat (.int j) n g2):CL P B ok0 w0 (Kp op o σ k j m n) o a w:=by
 have ex:=Fh hI hx
 have ey:=Fh hI hy
 have hrun:∀ v,(binOp op T (.int k m) (.int j n)).run P w = .ok v w→(execOp a.eval o).run P w = .ok (.value v) w:=by
  intro v hv
  unfold execOp
  rw [ho]
  simp only [ex,ey]
  have hg:eqGuard op T x y (.int k m) (.int j n)=pure ():=by unfold eqGuard;cases op <;> rfl
  rw [hg]
  simp only [Sem.run_bind,Sem.run_pure,Result.andThen_ok,hv]
 have hne:∀ c:Int,neI n 0=true→¬ n=0:=fun _ h=>by simpa [neI] using h
 have hnl:leI 0 n=true→¬ n<0:=fun h=>by
  have h1:0≤n:=of_decide_eq_true h
  omega
 unfold Kp
 split
 ·exact FW hI hd fun h=>⟨_,hrun _ (by simp only [binOp,Op.shift,if_neg (hnl h)];rfl),EG _ _⟩
 ·exact FW hI hd fun h=>⟨_,hrun _ (by simp only [binOp,Op.shift,if_neg (hnl h)];rfl),EG _ _⟩
 ·split
  ·rename_i hkj
   subst hkj
   split
   ·exact Cw hI hd (hrun (.int k (An k m n)) (by simp [binOp,Op.intArith,An])) (EG _ _)
   ·exact Cw hI hd (hrun (.int k (AT k m n)) (by simp [binOp,Op.intArith,AT])) (EG _ _)
   ·exact Cw hI hd (hrun (.int k (Df k m n)) (by simp [binOp,Op.intArith,Df])) (EG _ _)
   ·exact FW hI hd fun h=>⟨.int k (GL k m n),hrun _ (by simp [binOp,Op.intDiv,GL,hne 0 h]),EG _ _⟩
   ·exact FW hI hd fun h=>⟨.int k (NC m n),hrun _ (by simp [binOp,Op.intDiv,NC,hne 0 h]),EG _ _⟩
   ·exact Cw hI hd (hrun (.int k (BF k m n)) (by simp [binOp,Op.intBits,BF])) (EG _ _)
   ·exact Cw hI hd (hrun (.int k (orI k m n)) (by simp [binOp,Op.intBits,orI])) (EG _ _)
   ·exact Cw hI hd (hrun (.int k (FM k m n)) (by simp [binOp,Op.intBits,FM])) (EG _ _)
   ·exact Cw hI hd (hrun (.int k (MK k m n)) (by simp [binOp,Op.intBits,MK])) (EG _ _)
   ·exact Cw hI hd (hrun (.bool (eqI m n)) (by simp [binOp,Op.intCmp,eqI])) (EX _)
   ·exact Cw hI hd (hrun (.bool (neI m n)) (by simp [binOp,Op.intCmp,neI])) (EX _)
   ·exact Cw hI hd (hrun (.bool (ltI m n)) (by simp [binOp,Op.intCmp,ltI])) (EX _)
   ·exact Cw hI hd (hrun (.bool (leI m n)) (by simp [binOp,Op.intCmp,leI])) (EX _)
   ·exact Cw hI hd (hrun (.bool (ltI n m)) (by simp [binOp,Op.intCmp,ltI])) (EX _)
   ·exact Cw hI hd (hrun (.bool (leI n m)) (by simp [binOp,Op.intCmp,leI])) (EX _)
   ·exact AO
  ·exact AO
theorem wc (hI:Inv B ok0 w0 g σ a w) (hd:∀ d,o.dst=some d→d<a.tmps.size) {op:BinOp} {T U:Nat} {x y:Operand} (ho:o.op = .binOp op T x y U)
  {m n:ByteArray} {g1 g2:List Tag} (hx:opd σ x = .dat .str m g1) (hy:opd σ y = .dat .str n g2):CL P B ok0 w0 (Kq op o σ m n) o a w:=by
 have ex:=Lc hI hx
 have ey:=Lc hI hy
 have hrun:∀ v,(Op.stringOp op m n).run P w = .ok v w→(execOp a.eval o).run P w = .ok (.value v) w:=by
  intro v hv
  unfold execOp
  rw [ho]
  simp only [ex,ey]
  have hg:eqGuard op T x y (.string m) (.string n)=pure ():=by unfold eqGuard;cases op <;> rfl
  have hb:binOp op T (.string m) (.string n)=Op.stringOp op m n:=by cases op <;> rfl
  rw [hg,hb]
  simp only [Sem.run_bind,Sem.run_pure,Result.andThen_ok,hv]
 unfold Kq
 split
 ·refine FW hI hd fun h=>⟨.string (Ei m n),hrun _ ?_,Qu _⟩
  have h0:m.size+n.size≤9223372036854775807:=of_decide_eq_true h
  have h':(m.size:Int)+n.size≤9223372036854775807:=by omega
  have:¬ (((m.size+n.size:Nat):Int) > IntKind.i64.max):=by
   have:IntKind.i64.max=9223372036854775807:=rfl
   omega
  simp only [Op.stringOp,if_neg this,Ei]
  rfl
 ·exact Cw hI hd (hrun (.bool (eqS m n)) rfl) (EX _)
 ·exact Cw hI hd (hrun (.bool (!eqS m n)) rfl) (EX _)
 ·exact Cw hI hd (hrun (.bool (ltS m n)) rfl) (EX _)
 ·exact Cw hI hd (hrun (.bool (ltS m n || eqS m n)) rfl) (EX _)
 ·exact Cw hI hd (hrun (.bool (!(ltS m n || eqS m n))) rfl) (EX _)
 ·exact Cw hI hd (hrun (.bool (!ltS m n)) rfl) (EX _)
 ·exact AO
theorem Ze1 (hI:Inv B ok0 w0 g σ a w) (hd:∀ d,o.dst=some d→d<a.tmps.size) {op:UnOp} {T:Nat} {x:Operand} (ho:o.op = .unOp op T x):
  CL P B ok0 w0 (Ph op o σ (opd σ x)) o a w:=by
 have hrun:∀ v,(Op.unary op (a.eval x)).run P w = .ok v w→(execOp a.eval o).run P w = .ok (.value v) w:=by
  intro v hv
  unfold execOp
  rw [ho]
  simp only [Sem.run_bind,Sem.run_pure,Result.andThen_ok,hv]
 unfold Ph
 split
 ·rename_i hx;exact Cw hI hd (hrun _ (by rw [Fh hI hx];rfl)) (EG _ _)
 ·rename_i hx;exact Cw hI hd (hrun _ (by rw [Fh hI hx];rfl)) (EG _ _)
 ·rename_i hx;exact Cw hI hd (hrun _ (by rw [SW hI hx];rfl)) (EX _)
 ·exact AO
theorem Fit.size {T:TypeId} {t:Ty} (h:Fit P T t):(sizeOf T).run P w = .ok t.sz w:=by
 obtain ⟨i,hi,hs,_⟩:=h.info
 simp [sizeOf,typeInfo,hi,hs]
theorem Fit.agg {T:TypeId} {t:Ty} (h:Fit P T t):(isAgg T).run P w = .ok t.isAgg w:=by
 have hu:=h.und
 cases t with
 | int k=>simp only [Und] at hu;simp [isAgg,run_underlying hu,Ty.isAgg]
 | bool=>simp only [Und] at hu;simp [isAgg,run_underlying hu,Ty.isAgg]
 | str=>simp only [Und] at hu;simp [isAgg,run_underlying hu,Ty.isAgg]
 | sl e=>obtain ⟨ET,ie,hu,_⟩:=hu;simp [isAgg,run_underlying hu,Ty.isAgg]
 | wrap a=>obtain ⟨d,hu,hd⟩:=hu;cases d <;> simp_all [isAgg,run_underlying hu,Ty.isAgg]
 | pair a b=>obtain ⟨d,hu,hd⟩:=hu;cases d <;> simp_all [isAgg,run_underlying hu,Ty.isAgg]
 | arr m e=>obtain ⟨d,hu,hd⟩:=hu;cases d <;> simp_all [isAgg,run_underlying hu,Ty.isAgg]
 | lk k=>cases k with
  | true=>simp only [Und] at hu;simp [isAgg,run_underlying hu,Ty.isAgg]
  | false=>obtain ⟨U,hu⟩:=hu;simp [isAgg,run_underlying hu,Ty.isAgg]
theorem Fit.load {T:TypeId} {t:Ty} (h:Fit P T t) {ok:Nat→Nat→Prop} {x:t.D} {cs:List Value} (hr:RepD ok w t x cs) {b o:Nat}
  (hc:∀ j u,cs[j]? = some u→w.cell? ⟨b,o+j,none⟩=some u):(loadVar T ⟨b,o,none⟩).run P w = .ok (valOf t cs) w:=by
 have hl:=run_loadCells_list (P:=P) w ⟨b,o,none⟩ cs (fun j u hj=>by rw [Fv _ rfl];exact hc j u hj)
 unfold loadVar
 simp only [Sem.run_bind,h.agg,Result.andThen_ok]
 cases ha:t.isAgg with
 | true=>
  simp only [if_true,Sem.run_bind,h.size,Result.andThen_ok]
  rw [hr.len] at hl
  rw [hl]
  simp [valOf,ha]
 | false=>
  have h1:=bk hr ha
  have h2:=hc 0 (valOf t cs) (by rw [h1];simp [valOf,ha])
  simp only [Nat.add_zero] at h2
  simp [h2]
structure EnvOk (P:Program) (E:Env):Prop where
 ty:∀ T t,E.ty T=some t→Fit P T t
 fo:∀ S f d u,E.fo S f=some (d,u)→∃ fs fl,P.underlying S=some (.struct fs)∧fs[f]? = some fl∧fl.offset=d∧Fit P fl.type u
 ar:∀ T n e,E.ar T=some (n,e)→∃ ET,P.underlying T=some (.array n ET)∧Fit P ET e∧n≤maxLen∧
  ∃ i,P.info? T=some i∧i.zero=some (.agg (List.replicate n e.zcells).flatten.toArray)
 arMax:∀ T m e,E.ty T=some (.arr m e)→m+1≤maxLen
 by_:∀ T e ET ie,E.ty T=some (.sl e)→P.underlying T=some (.slice ET)→P.info? ET=some ie→ie.bytes=E.by_ T∧0<E.by_ T
 pl:∀ T t,E.ty T=some t→t.isAgg=true→∃ place:Nat→Option (Nat×Nat),(∀ i d u,E.pl T i=some (d,u)→place i=some (d,u.sz))∧
  ∀ (w:World) (parts:Array (Nat×Value)) (cells:Array Value),Instr.fill place t.zcells.toArray parts.toList=some cells→(Instr.build T parts).run P w = .ok (.agg cells) w
 eq:∀ T t,E.eq T=some t→∀ (ok:Nat→Nat→Prop) (w:World) (x y:t.D) (cs ds:List Value) (p q:Operand),RepD ok w t x cs→RepD ok w t y ds→
  (eqGuard .eql T p q (valOf t cs) (valOf t ds)).run P w = .ok () w∧(eqGuard .neq T p q (valOf t cs) (valOf t ds)).run P w = .ok () w∧
  (binOp .eql T (valOf t cs) (valOf t ds)).run P w = .ok (.bool (eqD t x y)) w∧(binOp .neq T (valOf t cs) (valOf t ds)).run P w = .ok (.bool (!eqD t x y)) w
 slf:∀ T t,E.ty T=some t→hasSlf t=true→T=Lay.bld
 byt:∀ T ET,E.ty T=some (.sl (.int .u8))→P.underlying T=some (.slice ET)→ET=Lay.byt
 mixed:P.follows .mixedOrders=true
variable {E : Env}
theorem Zf1 {e:Ty} (h:e.sg=0):e = .int .u8:=by
 unfold Ty.sg at h
 split at h
 ·rfl
 ·have:=e.IE;omega
theorem EnvOk.sg0 (hE:EnvOk P E) {T ET:TypeId} {e:Ty} (hT:E.ty T=some (.sl e)) (hu:P.underlying T=some (.slice ET)) (h:e.sg=0):ET=Lay.byt:=by
 obtain rfl:=Zf1 h
 exact hE.byt T ET hT hu
theorem Zph (hE:EnvOk P E) (hI:Inv B ok0 w0 g σ a w) (hd:∀ d,o.dst=some d→d<a.tmps.size) {op:BinOp} {T U:Nat} {x y:Operand} (ho:o.op = .binOp op T x y U):
  CL P B ok0 w0 (LJ E T op o σ (opd σ x) (opd σ y)) o a w:=by
 unfold LJ
 split
 ·rename_i t m g1 u n g2 hx hy
  split
  ·exact wa hI hd ho hx hy
  ·exact wc hI hd ho hx hy
  ·split
   ·rename_i e he
    split
    ·rename_i m' n' hm hn
     have rx:=DE hI x;rw [hx] at rx
     have ry:=DE hI y;rw [hy] at ry
     obtain ⟨cs,r1,v1,_⟩:=rx
     obtain ⟨ds,r2,v2,_⟩:=ry
     obtain ⟨e1,h1⟩:=CR hm
     obtain ⟨e2,h2⟩:=CR hn
     subst e1;subst h1
     subst e2
     have h2':n=n':=h2
     subst h2'
     obtain ⟨q1,q2,q3,q4⟩:=hE.eq T _ he _ w _ _ cs ds x y r1 r2
     split
     ·refine Cw hI hd ?_ (EX _)
      unfold execOp;rw [ho]
      simp only [v1,v2,Sem.run_bind,q1,Result.andThen_ok,q3,Sem.run_pure]
     ·refine Cw hI hd ?_ (EX _)
      unfold execOp;rw [ho]
      simp only [v1,v2,Sem.run_bind,q2,Result.andThen_ok,q4,Sem.run_pure]
     ·exact AO
    ·exact AO
   ·exact AO
 ·exact AO
theorem Zqh (hE:EnvOk P E) (hI:Inv B ok0 w0 g σ a w) (hd:∀ d,o.dst=some d→d<a.tmps.size) {op:BinOp} {T U:Nat} {x y:Operand} (ho:o.op = .binOp op T x y U) (hy:Qb y=true):
  CL P B ok0 w0 (NV E T op o σ (opd σ x)) o a w:=by
 obtain rfl:y = .const .nilIface:=by
  unfold Qb at hy
  split at hy
  ·rfl
  ·cases hy
 unfold NV
 split
 ·rename_i b gs hT hx
  have hu:P.underlying T=some (.interface (P.methodsAt T)):=(hE.ty T _ hT).und
  have rx:=DE hI x
  rw [hx] at rx
  obtain ⟨cs,⟨v,rfl,hv⟩,hval,_⟩:=rx
  have hval':a.eval x=v:=hval
  have key:(Op.equal T v .nilIface).run P w = .ok b w:=by
   rcases hv with ⟨rfl,rfl⟩ | ⟨rfl,T',u,rfl⟩
   ·exact run_equal_nil_nil w T hu
   ·exact run_equal_held_nil w T T' u hu
  have hg:∀ op:BinOp,(eqGuard op T x (.const .nilIface) v .nilIface).run P w = .ok () w:=by
   intro op
   unfold eqGuard
   rcases hv with ⟨_,rfl⟩ | ⟨_,T',u,rfl⟩ <;> cases op <;> simp
  have hev:a.eval (.const .nilIface) = .nilIface:=rfl
  split
  ·refine Cw hI hd ?_ (EX _)
   unfold execOp;rw [ho]
   have hb:(binOp .eql T v .nilIface).run P w = .ok (.bool b) w:=by
    rcases hv with ⟨_,rfl⟩ | ⟨_,T',u,rfl⟩ <;> simp [binOp,key]
   simp only [hval',hev,Sem.run_bind,hg,Result.andThen_ok,hb,Sem.run_pure]
  ·refine Cw hI hd ?_ (EX _)
   unfold execOp;rw [ho]
   have hb:(binOp .neq T v .nilIface).run P w = .ok (.bool !b) w:=by
    rcases hv with ⟨_,rfl⟩ | ⟨_,T',u,rfl⟩ <;> simp [binOp,key]
   simp only [hval',hev,Sem.run_bind,hg,Result.andThen_ok,hb,Sem.run_pure]
  ·exact AO
 ·exact AO
theorem rP (hI:Inv B ok0 w0 g σ a w) (hd:∀ d,o.dst=some d→d<a.tmps.size) {i:Nat} {x:Operand} (ho:o.op = .extract x i):
  CL P B ok0 w0 (JD i o σ (opd σ x)) o a w:=by
 unfold JD
 split
 ·rename_i ds hx
  have rx:=DE hI x;rw [hx] at rx
  obtain ⟨vs,hv,hf⟩:=rx
  split
  ·rename_i d hdi
   obtain ⟨v,hvi,hr⟩:=hf.get hdi
   refine Cw hI hd (v:=v) ?_ hr
   unfold execOp;rw [ho]
   simp only [hv,Instr.extract,List.getElem?_toArray,hvi,Sem.run_bind,Sem.run_pure,Result.andThen_ok]
  ·exact AO
 ·exact AO
theorem AA {i n:Int} (h:inB i n=true):0≤i∧i<n:=by
 unfold inB at h
 rw [Bool.and_eq_true] at h
 exact ⟨of_decide_eq_true h.1,of_decide_eq_true h.2⟩
theorem DO {l h n:Int} (hc:inC l h n=true):0≤l∧l≤h∧h≤n:=by
 unfold inC at hc
 rw [Bool.and_eq_true,Bool.and_eq_true] at hc
 exact ⟨of_decide_eq_true hc.1,of_decide_eq_true hc.2.1,of_decide_eq_true hc.2.2⟩
theorem Fq (s:ByteArray) (i:Int) (h0:0≤i) (h1:i<s.size):∃ b,s[i.toNat]? = some b∧(b.toNat:Int)=byteAt s i:=by
 have hlt:i.toNat<s.size:=by omega
 have hlt':i.toNat<s.data.toList.length:=by simpa using hlt
 refine ⟨s[i.toNat],by simp [getElem?_pos,hlt],?_⟩
 unfold byteAt
 rw [List.getD_eq_getElem?_getD,List.getElem?_eq_getElem hlt']
 rfl
theorem Zrh (hE:EnvOk P E) (hI:Inv B ok0 w0 g σ a w) (hd:∀ d,o.dst=some d→d<a.tmps.size) {T:Nat} {x i:Operand} (ho:o.op = .index T x i):
  CL P B ok0 w0 (Nd E T o σ (opd σ x) (opd σ i)) o a w:=by
 unfold Nd
 split
 ·rename_i s g1 k n g2 hT hx hi
  refine FW hI hd fun hc=>?_
  have h01:0≤n∧n<(s.size:Int):=AA hc
  obtain ⟨b,hb,hbn⟩:=Fq s n h01.1 h01.2
  refine ⟨.int .u8 (byteAt s n),?_,EG _ _⟩
  have hu:P.underlying T=some .string:=(hE.ty T _ hT).und
  unfold execOp;rw [ho]
  simp only [Lc hI hx,Fh hI hi,Instr.index,asIntOf,Sem.run_bind,Sem.run_pure,Result.andThen_ok,run_underlying hu,if_pos h01.1,hb,hbn]
 ·exact AO
theorem gw (hE:EnvOk P E) (hI:Inv B ok0 w0 g σ a w) (hd:∀ d,o.dst=some d→d<a.tmps.size) {S f:Nat} {x:Operand} (ho:o.op = .fieldAddr S x f):
  CL P B ok0 w0 (Gp E S f o σ (opd σ x)) o a w:=by
 unfold Gp
 split
 ·rename_i d u hfo
  obtain ⟨fs,fl,hu,hf,hoff,hfit⟩:=hE.fo S f d u hfo
  have hrun:∀ b o',a.eval x = .pointer (some ⟨b,o',none⟩)→(execOp a.eval o).run P w = .ok (.value (.pointer (some ⟨b,o'+d,none⟩))) w:=by
   intro b o' hx
   have hsz:¬ u.sz=0:=by have:=u.IE;omega
   unfold execOp;rw [ho]
   simp only [hx,Instr.fieldAt,Sem.run_bind,run_underlying hu,Result.andThen_ok,hf,Instr.sureAddr,Sem.run_pure,fieldPlace,hfit.size,if_neg hsz,Fv ⟨b,o',none⟩ rfl,hoff]
  have rx:=DE hI x
  split
  ·rename_i id ver off hx
   rw [hx] at rx
   obtain ⟨h1,h2⟩:=rx
   split
   ·rename_i hv
    obtain ⟨b,ff,hb,hp⟩:=h2 hv
    exact Cw hI hd (hrun b off hp) ⟨h1,fun _=>⟨b,ff,hb,rfl⟩⟩
   ·exact AO
  ·rename_i id ver i off hx
   rw [hx] at rx
   obtain ⟨h1,h2⟩:=rx
   split
   ·rename_i hv
    obtain ⟨b,ff,e,l,fz,hb,hc,hi,hp⟩:=h2 hv
    exact Cw hI hd (hrun b _ hp) ⟨h1,fun _=>⟨b,ff,e,l,fz,hb,hc,hi,by rw [Nat.add_assoc]⟩⟩
   ·exact AO
  ·rename_i t y off hx
   rw [hx] at rx
   obtain ⟨b,o',ys,hp,hr,hc⟩:=rx
   exact Cw hI hd (hrun b _ hp) ⟨b,o',ys,by rw [Nat.add_assoc],hr,hc⟩
  ·exact AO
 ·exact AO
theorem kA (hI:Inv B ok0 w0 g σ a w) (hd:∀ d,o.dst=some d→d<a.tmps.size) {x:Operand} (ho:o.op = .nilCheck x):
  CL P B ok0 w0 (EM E σ o) o a w:=by
 have hrun:∀ A:Addr,a.eval x = .pointer (some A)→(execOp a.eval o).run P w = .ok (.value (.pointer (some A))) w:=by
  intro A hx
  unfold execOp;rw [ho]
  simp only [hx];rfl
 have rx:=DE hI x
 unfold EM
 rw [ho]
 dsimp only
 split
 ·rename_i id ver off hx
  rw [hx] at rx
  split
  ·rename_i hv
   obtain ⟨b,ff,hb,hp⟩:=rx.2 hv
   exact Cw hI hd (hrun _ hp) ⟨rx.1,fun _=>⟨b,ff,hb,rfl⟩⟩
  ·exact AO
 ·rename_i id ver i off hx
  rw [hx] at rx
  split
  ·rename_i hv
   obtain ⟨b,ff,e,l,fz,hb,hc,hi,hp⟩:=rx.2 hv
   exact Cw hI hd (hrun _ hp) ⟨rx.1,fun _=>⟨b,ff,e,l,fz,hb,hc,hi,rfl⟩⟩
  ·exact AO
 ·rename_i t y off hx
  rw [hx] at rx
  obtain ⟨b,o',ys,hp,hr,hc⟩:=rx
  exact Cw hI hd (hrun _ hp) ⟨b,o',ys,rfl,hr,hc⟩
 ·exact AO
theorem Zg {gs:List Tag} {cs:List Value} {off sz:Nat} (h:Fi g σ.r w gs cs):Fi g σ.r w (dI gs off sz) ((cs.drop off).take sz):=by
 intro t ht
 unfold dI at ht
 obtain ⟨u,hu,he⟩:=List.mem_filterMap.1 ht
 split at he
 ·rename_i hin
  have he':=Option.some.inj he
  subst he'
  obtain ⟨h1,h2⟩:=h u hu
  have hget:((cs.drop off).take sz)[u.off-off]? = cs[u.off]?:=by
   rw [List.getElem?_take,if_pos (by omega),List.getElem?_drop]
   congr 1
   omega
  unfold Xl
  simp only [hget]
  exact ⟨h1,h2⟩
 ·cases he
theorem lQ {u:Ty} {T:Nat} (hfit:Fit P T u) {ok:Nat→Nat→Prop} {y:u.D} {cs:List Value} {off:Nat} (hs:RepD ok w u y ((cs.drop off).take u.sz)):
  (part T cs.toArray off).run P w = .ok (valOf u ((cs.drop off).take u.sz)) w:=by
 unfold part
 simp only [Sem.run_bind,hfit.agg,Result.andThen_ok]
 cases ha:u.isAgg with
 | true=>
  simp only [if_true,Sem.run_bind,hfit.size,Result.andThen_ok,Sem.run_pure,valOf,ha]
  congr 2
  simp [Nat.add_sub_cancel_left]
 | false=>
  have h1:=bk hs ha
  have h2:cs[off]? = some (valOf u ((cs.drop off).take u.sz)):=by
   have h3:((cs.drop off).take u.sz)[0]? = some (valOf u ((cs.drop off).take u.sz)):=by
    generalize hq:(cs.drop off).take u.sz=q at h1 ⊢
    rw [h1];simp [valOf,ha]
   rw [List.getElem?_take,if_pos u.IE,List.getElem?_drop,Nat.add_zero] at h3
   exact h3
  simp [h2]
theorem Zsh (hE:EnvOk P E) (hI:Inv B ok0 w0 g σ a w) (hd:∀ d,o.dst=some d→d<a.tmps.size) {S f:Nat} {x:Operand} (ho:o.op = .field S x f):
  CL P B ok0 w0 (Nc E S f o σ (opd σ x)) o a w:=by
 unfold Nc
 split
 ·rename_i d u hfo
  obtain ⟨fs,fl,hu,hf,hoff,hfit⟩:=hE.fo S f d u hfo
  have rx:=DE hI x
  split
  ·rename_i t y gs hx
   rw [hx] at rx
   obtain ⟨cs,hr,hv,ht⟩:=rx
   split
   ·rename_i hagg
    split
    ·rename_i z hz
     obtain ⟨hs,hb⟩:=Ii hz hr
     refine Cw hI hd ?_ ⟨_,hs,rfl,Zg ht⟩
     unfold execOp;rw [ho]
     simp only [hv,Instr.field,Sem.run_bind,run_underlying hu,Result.andThen_ok,hf,hoff]
     rw [show asAgg (valOf t cs)=pure cs.toArray by simp [valOf,hagg,asAgg]]
     simp only [Sem.run_pure,Result.andThen_ok,lQ hfit hs]
    ·exact AO
   ·exact AO
  ·exact AO
 ·exact AO
theorem MA {T ET:Nat} {ie:TypeInfo} (hu:P.underlying T=some (.slice ET)) (hi:P.info? ET=some ie) {A:Addr} (hA:A.spot=none) {n cap:Nat} {k:IntKind} {i:Int} (h0:0≤i) (h1:i<n):
  (Instr.indexAt T (.slice (some A) n cap) (.int k i)).run P w = .ok (.pointer (some ⟨A.block,A.off+i.toNat*ie.size,none⟩)) w:=by
 have hlt:0≤i∧i<(n:Int):=⟨h0,h1⟩
 simp [Instr.indexAt,asIntOf,run_underlying hu,sizeOf,typeInfo,hi,hlt,Fv A hA]
theorem Zh {T ET:Nat} {ie:TypeInfo} {n:Nat} (hu:P.underlying T=some (.array n ET)) (hi:P.info? ET=some ie) {A:Addr} (hA:A.spot=none) {k:IntKind} {i:Int} (h0:0≤i) (h1:i<n):
  (Instr.indexAt T (.pointer (some A)) (.int k i)).run P w = .ok (.pointer (some ⟨A.block,A.off+i.toNat*ie.size,none⟩)) w:=by
 have hlt:0≤i∧i<(n:Int):=⟨h0,h1⟩
 simp [Instr.indexAt,asIntOf,Instr.sureAddr,run_underlying hu,sizeOf,typeInfo,hi,hlt,Fv A hA]
theorem Zj8 {e:Ty} {l:List e.D} {i:Int} (h0:0≤i) (h1:i<(l.length:Int)):l[i.toNat]? = some (at' l i):=by
 have:i.toNat<l.length:=by omega
 unfold at'
 rw [List.getD_eq_getElem?_getD,List.getElem?_eq_getElem this]
 rfl
theorem gx (hE:EnvOk P E) (hI:Inv B ok0 w0 g σ a w) (hd:∀ d,o.dst=some d→d<a.tmps.size) {T:Nat} {x i:Operand} (ho:o.op = .indexAddr T x i):
  CL P B ok0 w0 (Gq E T o σ (opd σ x) (opd σ i)) o a w:=by
 unfold Gq
 have hrun:∀ u v,a.eval x=u→(Instr.indexAt T u (a.eval i)).run P w = .ok v w→(execOp a.eval o).run P w = .ok (.value v) w:=by
  intro u v hu hv
  unfold execOp;rw [ho]
  subst hu
  simp only [Sem.run_bind,hv,Result.andThen_ok,Sem.run_pure]
 split
 ·rename_i k n gi hi
  have hie:=Fh hI hi
  have rx:=DE hI x
  split
  ·rename_i e l gs hx
   rw [hx] at rx
   split
   ·rename_i e' hT
    obtain ⟨ET,ie,hu,hie2,hsz,_⟩:=(hE.ty T _ hT).und
    split
    ·rename_i hes
     obtain ⟨p,m,cap,hv,hr,hl,_⟩:=cY rx
     refine FW hI hd fun hc=>?_
     obtain ⟨h0,h1⟩:=AA hc
     unfold Ai at h1
     obtain ⟨p',m',DN,hv',hl',_,_,hcell⟩:=hr
     have hpe:(Value.slice p m cap) = .slice p' m' DN:=by rw [← hv];exact (List.cons.inj hv').1
     cases hpe
     obtain ⟨A,hA,hsp,ys,hy,hyc⟩:=hcell n.toNat (at' l n) (Zj8 h0 h1)
     subst hA
     refine ⟨_,hrun _ _ hv (by rw [hie];exact MA hu hie2 hsp h0 (by omega)),A.block,A.off+n.toNat*e.sz,ys,by rw [hsz,← hes];rfl,hy,fun j u hj=>?_⟩
     have:=hyc j u hj
     rw [← Nat.add_assoc] at this
     exact this
    ·exact AO
   ·exact AO
  ·rename_i id ver hx
   rw [hx] at rx
   split
   ·rename_i m e e' l fz hT hc
    split
    ·rename_i hve
     obtain ⟨b,f,hb,hp⟩:=rx.2 hve.1
     obtain ⟨ET,hu,hfit,_⟩:=hE.ar T m e hT
     obtain ⟨ie,hie2,hsz,_⟩:=hfit.info
     refine FW hI hd fun hck=>?_
     rw [Bool.and_eq_true] at hck
     obtain ⟨h0,h1⟩:=AA hck.1
     have hml:m=l.length:=of_decide_eq_true hck.2
     refine ⟨_,hrun _ _ hp (by rw [hie];exact Zh hu hie2 rfl h0 h1),rx.1,fun _=>⟨b,f,e',l,fz,hb,hc,by omega,?_⟩⟩
     simp [hsz,hve.2]
    ·exact AO
   ·exact AO
  ·rename_i id ver hx
   rw [hx] at rx
   split
   ·rename_i e e' l fz hT hc
    split
    ·rename_i hve
     obtain ⟨e2,l2,fz2,hc2,hsw⟩:=rx.2 hve.1
     rw [hc] at hc2
     cases hc2
     obtain ⟨ET,ie,hu,hie2,hsz,_⟩:=(hE.ty T _ hT).und
     refine FW hI hd fun hck=>?_
     obtain ⟨h0,h1⟩:=AA hck
     unfold Ai at h1
     obtain ⟨b,f,cap,hb,_,_,hp⟩:=hsw.get (by omega)
     refine ⟨_,hrun _ _ hp (by rw [hie];exact MA hu hie2 rfl h0 h1),rx.1,fun _=>⟨b,f,e',l,fz,hb,hc,by omega,?_⟩⟩
     simp [hsz,hve.2]
    ·exact AO
   ·exact AO
  ·rename_i id ver lo m hx
   rw [hx] at rx
   split
   ·rename_i e e' l fz hT hc
    split
    ·rename_i hve
     obtain ⟨e2,l2,fz2,A,cap,hc2,hlo,hcap,hmx,hA,hAs,hp⟩:=rx.2 hve.1
     rw [hc] at hc2
     cases hc2
     obtain ⟨ET,ie,hu,hie2,hsz,_⟩:=(hE.ty T _ hT).und
     refine FW hI hd fun hck=>?_
     obtain ⟨h0,h1⟩:=AA hck
     obtain ⟨b,f,hb,hA'⟩:=hA (by omega)
     subst hA'
     refine ⟨_,hrun _ _ hp (by rw [hie];exact MA hu hie2 rfl h0 h1),rx.1,fun _=>⟨b,f,e',l,fz,hb,hc,by omega,?_⟩⟩
     simp [hsz,hve.2,Nat.add_mul]
    ·exact AO
   ·exact AO
  ·exact AO
 ·exact AO
end
end Go.AM
end

section
/- Operations that read memory: loads, slices, conversions. -/
namespace Go.AM
open Go.RowKit (Below)
set_option linter.unusedSectionVars false
variable [Lay]
section
variable {P : Program} {B : Bd} {ok0 : Nat → Nat → Prop} {w0 w : World} {g : G} {σ : St} {a : Act} {o : Oper} {E : Env}
def FV (ok:Nat→Nat→Prop) (w:World) (e:Ty) (l:List e.D) (cs:List Value):Prop:=
 cs.length=l.length*e.sz∧∀ (i:Nat) (x:e.D),l[i]? = some x→∃ ys,RepD ok w e x ys∧∀ j u,ys[j]? = some u→cs[i*e.sz+j]? = some u
theorem Hy {ok:Nat→Nat→Prop} {e:Ty} {c:Nat→Option Value}:∀ {l:List e.D} {base:Nat},
  (∀ (i:Nat) (x:e.D),l[i]? = some x→∃ ys,RepD ok w e x ys∧∀ j u,ys[j]? = some u→c (base+(i*e.sz+j))=some u)→
  ∃ cs,FV ok w e l cs∧(∀ j u,cs[j]? = some u→c (base+j)=some u)∧∀ u∈cs,u.oneCell'=true
 | [],base,_=>⟨[],⟨by simp,fun i x h=>by simp at h⟩,fun j u h=>by simp at h,fun u h=>by cases h⟩
 | x :: l,base,h=>by
  obtain ⟨ys,hy,hc⟩:=h 0 x rfl
  obtain ⟨cs,⟨hl,hr⟩,h2,h3⟩:=Hy (l:=l) (base:=base+e.sz) (fun i z hi=>by
   obtain ⟨zs,hz,hzc⟩:=h (i+1) z (by simpa using hi)
   exact ⟨zs,hz,fun j u hj=>by have:=hzc j u hj;rw [show base+e.sz+(i*e.sz+j)=base+((i+1)*e.sz+j) by rw [Nat.add_mul];omega];exact this⟩)
  have hyl:=hy.len
  refine ⟨ys++cs,⟨by rw [List.length_append,hyl,hl,List.length_cons,Nat.add_mul];omega,fun i z hi=>?_⟩,fun j u hj=>?_,fun u hu=>?_⟩
  ·cases i with
   | zero=>
    simp only [List.getElem?_cons_zero,Option.some.injEq] at hi
    subst hi
    refine ⟨ys,hy,fun j u hj=>?_⟩
    have:=(List.getElem?_eq_some_iff.1 hj).1
    rw [Nat.zero_mul,Nat.zero_add,List.getElem?_append_left (by omega)]
    exact hj
   | succ i=>
    obtain ⟨zs,hz,hzc⟩:=hr i z (by simpa using hi)
    refine ⟨zs,hz,fun j u hj=>?_⟩
    rw [List.getElem?_append_right (by rw [Nat.add_mul];omega),show (i+1)*e.sz+j-ys.length=i*e.sz+j by rw [Nat.add_mul];omega]
    exact hzc j u hj
  ·by_cases hlt:j<ys.length
   ·rw [List.getElem?_append_left hlt] at hj
    have:=hc j u hj
    rw [Nat.zero_mul,Nat.zero_add] at this
    exact this
   ·rw [List.getElem?_append_right (by omega)] at hj
    have:=h2 _ _ hj
    rw [show base+e.sz+(j-ys.length)=base+j by omega] at this
    exact this
  ·rcases List.mem_append.1 hu with hu | hu
   ·exact hy.one u hu
   ·exact h3 u hu
theorem JQ {α:Type} {l:List α} {lo n i:Nat} {x:α} (h:((l.drop lo).take n)[i]? = some x):i<n∧l[lo+i]? = some x:=by
 rw [List.getElem?_take] at h
 split at h
 ·rw [List.getElem?_drop] at h;exact ⟨by assumption,h⟩
 ·cases h
theorem rN (hI:Inv B ok0 w0 g σ a w) {e:Ty} {av:AV} {v:Value} {l:List e.D} (h:content σ e av=some l) (hr:RepA (okG B ok0 g w) g σ w av v):
  ∃ p n cap,v = .slice p n cap∧l.length=n∧n≤cap∧cap≤maxLen∧∀ (i:Nat) (x:e.D),l[i]? = some x→∃ A:Addr,p=some A∧A.spot=none∧
   ∃ ys,RepD (okG B ok0 g w) w e x ys∧∀ j u,ys[j]? = some u→w.cell? ⟨A.block,A.off+(i*e.sz+j),none⟩=some u:=by
 unfold content at h
 split at h
 ·rename_i t x gs
  obtain ⟨ht,hx⟩:=CR h
  subst ht
  have hx':x=l:=hx
  subst hx'
  obtain ⟨p,n,cap,hv,hrep,hl,hn,hm,_⟩:=cY hr
  subst hv
  obtain ⟨p',n',DN,hv',_,_,_,hc⟩:=hrep
  cases hv'
  refine ⟨p,n,cap,rfl,hl,hn,hm,fun i x hi=>?_⟩
  obtain ⟨A,hA,hs,ys,hy,hyc⟩:=hc i x hi
  exact ⟨A,hA,hs,ys,hy,fun j u hj=>(hyc j u hj).2⟩
 ·have hl:=Option.some.inj h
  subst hl
  exact ⟨none,0,0,hr,rfl,Nat.le_refl _,Nat.zero_le _,fun i x hi=>by simp at hi⟩
 ·rename_i id ver
  split at h
  ·rename_i hv
   split at h
   ·rename_i e' l' fz hc
    obtain ⟨ht,hx⟩:=CR h
    cases ht
    have hx':l'=l:=hx
    subst hx'
    obtain ⟨e2,l2,fz2,hc2,hsw⟩:=hr.2 hv
    rw [hc] at hc2
    cases hc2
    obtain ⟨p,cap,hp,hcap,hmx2,hA,_⟩:=hsw.form
    refine ⟨_,_,_,hp,rfl,hcap,hmx2,fun i x hi=>?_⟩
    obtain ⟨b,f,hb,hA'⟩:=hA (by have:=(List.getElem?_eq_some_iff.1 hi).1;omega)
    subst hA'
    obtain ⟨hf',cur,T,ym,hh,hmk,hsz,hmx,hrow⟩:=hI.Hn hb hc
    obtain ⟨ys,hy,hyc⟩:=hrow i x hi
    refine ⟨_,rfl,rfl,ys,hy,fun j u hj=>?_⟩
    simp only [World.cell?,hh,Nat.zero_add]
    exact hyc j u hj
   ·cases h
  ·cases h
 ·rename_i id ver lo n
  split at h
  ·rename_i hv
   split at h
   ·rename_i e' l' fz hc
    obtain ⟨ht,hx⟩:=CR h
    cases ht
    have hx':(l'.drop lo).take n=l:=hx
    subst hx'
    obtain ⟨e2,l2,fz2,A,cap,hc2,hlo,hcap,hmx2,hA,hAs,hp⟩:=hr.2 hv
    rw [hc] at hc2
    cases hc2
    refine ⟨A,n,cap,hp,by rw [List.length_take,List.length_drop];omega,hcap,hmx2,fun i x hi=>?_⟩
    obtain ⟨hin,hi'⟩:=JQ hi
    obtain ⟨b,f,hb,hA'⟩:=hA (by omega)
    obtain ⟨hf',cur,T,ym,hh,hmk,hsz,hmx,hrow⟩:=hI.Hn hb hc
    obtain ⟨ys,hy,hyc⟩:=hrow _ x hi'
    refine ⟨_,hA',rfl,ys,hy,fun j u hj=>?_⟩
    simp only [World.cell?,hh]
    rw [show lo*e.sz+(i*e.sz+j)=(lo+i)*e.sz+j by rw [Nat.add_mul];omega]
    exact hyc j u hj
   ·cases h
  ·cases h
 ·cases h
theorem Mi (hI:Inv B ok0 w0 g σ a w) {e:Ty} {av:AV} {v:Value} {l:List e.D} (h:content σ e av=some l) (hr:RepA (okG B ok0 g w) g σ w av v):
  ∃ p n cap cs,v = .slice p n cap∧l.length=n∧n≤cap∧cap≤maxLen∧FV (okG B ok0 g w) w e l cs∧(∀ u∈cs,u.oneCell'=true)∧
   (n=0∨∃ A:Addr,p=some A∧A.spot=none∧∀ j u,cs[j]? = some u→w.cell? ⟨A.block,A.off+j,none⟩=some u):=by
 obtain ⟨p,n,cap,hv,hl,hn,hm,hc⟩:=rN hI h hr
 cases hlz:l with
 | nil=>exact ⟨p,n,cap,[],hv,by rw [hlz] at hl;exact hl,hn,hm,⟨by simp,fun i x hi=>by simp at hi⟩,(fun u hu=>by cases hu), .inl (by rw [hlz] at hl;exact hl.symm)⟩
 | cons x0 l0=>
  obtain ⟨A,hA,hs,_⟩:=hc 0 x0 (by rw [hlz];rfl)
  obtain ⟨cs,h1,h2,h3⟩:=Hy (ok:=okG B ok0 g w) (w:=w) (e:=e) (c:=fun k=>w.cell? ⟨A.block,k,none⟩) (l:=l) (base:=A.off) (fun i x hi=>by
   obtain ⟨A',hA',_,ys,hy,hyc⟩:=hc i x hi
   rw [hA] at hA';cases hA'
   exact ⟨ys,hy,hyc⟩)
  rw [hlz] at hl h1
  exact ⟨p,n,cap,cs,hv,hl,hn,hm,h1,h3, .inr ⟨A,hA,hs,h2⟩⟩
theorem Zb1 (hE:EnvOk P E) (hI:Inv B ok0 w0 g σ a w) (hd:∀ d,o.dst=some d→d<a.tmps.size) {T:Nat} {x:Operand} (ho:o.op = .load T x):
  CL P B ok0 w0 (ML E T o σ (opd σ x)) o a w:=by
 have rx:=DE hI x
 have hrun:∀ b o' v,a.eval x = .pointer (some ⟨b,o',none⟩)→(loadVar T ⟨b,o',none⟩).run P w = .ok v w→(execOp a.eval o).run P w = .ok (.value v) w:=by
  intro b o' v hx hv
  unfold execOp;rw [ho]
  simp only [hx,Instr.loadAt,Instr.sureAddr,Sem.run_bind,Sem.run_pure,Result.andThen_ok,hv]
 unfold ML
 split
 ·rename_i id ver off hx
  rw [hx] at rx
  split
  ·rename_i hv
   obtain ⟨b,f,hb,hp⟩:=rx.2 hv
   split
   ·rename_i t z gs hc
    obtain ⟨hf',cs,TT,hh,hr,_,ht⟩:=hI.Hn hb hc
    split
    ·rename_i u hu
     split
     ·rename_i y hy
      obtain ⟨hs,hbd⟩:=Ii hy hr
      have hl:=(hE.ty T u hu).load (b:=b) (o:=off) hs (fun j v hj=>by
       rw [List.getElem?_take] at hj
       split at hj
       ·rw [List.getElem?_drop] at hj
        simp only [World.cell?,hh]
        simpa using hj
       ·cases hj)
      exact Cw hI hd (hrun b off _ hp hl) ⟨_,hs,rfl,Zg ht⟩
     ·exact AO
    ·exact AO
   ·rename_i e l fz hc
    obtain ⟨hf',cur,TT,ym,hh,hmk,hsz,hmx,hrow⟩:=hI.Hn hb hc
    have one:CL P B ok0 w0 (Lg E T o σ e l off) o a w:=by
     unfold Lg
     split
     ·rename_i z
      split
      ·rename_i u hu
       split
       ·rename_i y hy
        obtain ⟨ys,hr,hcur⟩:=hrow 0 z rfl
        obtain ⟨hs,hbd⟩:=Ii hy hr
        have hl:=(hE.ty T u hu).load (b:=b) (o:=off) hs (fun j v hj=>by
         rw [List.getElem?_take] at hj
         split at hj
         ·rw [List.getElem?_drop] at hj
          simp only [World.cell?,hh]
          simpa using hcur (off+j) v hj
         ·cases hj)
        exact Cw hI hd (hrun b off _ hp hl) (Ln hs)
       ·exact AO
      ·exact AO
     ·exact AO
    split
    ·rename_i m e' hT
     split
     ·rename_i h0
      obtain ⟨rfl,rfl⟩:=h0
      unfold Oi
      split
      ·rename_i l' hl'
       obtain ⟨_,hx'⟩:=CR hl'
       have hx'':l=l':=hx'
       subst hx''
       refine FW hI hd fun hck=>?_
       have hlen:List.length (α:=e'.D) l=m+1:=of_decide_eq_true hck
       obtain ⟨cs,hrows,hcs,_⟩:=Hy (ok:=okG B ok0 g w) (w:=w) (e:=e') (c:=fun k=>cur[k]?) (l:=l) (base:=0) (fun i x hi=>by
        obtain ⟨ys,hy,hyc⟩:=hrow i x hi
        exact ⟨ys,hy,fun j u hj=>by rw [Nat.zero_add];exact hyc j u hj⟩)
       have hrep:RepD (okG B ok0 g w) w (.arr m e') l cs:=by
        refine ⟨hlen,by rw [hrows.1,hlen],fun i x hi=>?_⟩
        obtain ⟨ys,hy,hyc⟩:=hrows.2 i x hi
        have hyl:=hy.len
        have:(cs.drop (i*e'.sz)).take e'.sz=ys:=by
         apply List.ext_getElem?
         intro j
         rw [List.getElem?_take]
         split
         ·rename_i hj
          rw [List.getElem?_drop,List.getElem?_eq_getElem (show j<ys.length by omega)]
          exact hyc j _ (List.getElem?_eq_getElem (by omega))
         ·rw [List.getElem?_eq_none (by omega)]
        rw [this]
        exact hy
       refine ⟨_,hrun b 0 _ hp ((hE.ty T _ hT).load (b:=b) (o:=0) hrep (fun j v hj=>?_)),⟨cs,hrep,rfl,fun t ht=>by cases ht⟩⟩
       have:=hcs j v hj
       simp only [World.cell?,hh]
       simpa using this
      ·exact AO
     ·exact one
    ·exact one
   ·exact AO
  ·exact AO
 ·rename_i id ver i off hx
  rw [hx] at rx
  split
  ·rename_i hv
   split
   ·rename_i e l fz hc
    obtain ⟨b,f,e2,l2,fz2,hb,hc2,hi,hp⟩:=rx.2 hv
    rw [hc] at hc2;cases hc2
    obtain ⟨hf',cur,TT,ym,hh,hmk,hsz,hmx,hrow⟩:=hI.Hn hb hc
    split
    ·rename_i u hu
     split
     ·rename_i y hy
      have hli:l[i]? = some (l.getD i e.zero):=by rw [List.getD_eq_getElem?_getD,List.getElem?_eq_getElem hi];rfl
      obtain ⟨ys,hyr,hyc⟩:=hrow i _ hli
      obtain ⟨hs,hbd⟩:=Ii hy hyr
      have hl:=(hE.ty T u hu).load (b:=b) (o:=i*e.sz+off) hs (fun j v hj=>by
       rw [List.getElem?_take] at hj
       split at hj
       ·rw [List.getElem?_drop] at hj
        simp only [World.cell?,hh]
        have:=hyc _ _ hj
        rw [← Nat.add_assoc] at this
        simpa using this
       ·cases hj)
      exact Cw hI hd (hrun b _ _ hp hl) (Ln hs)
     ·exact AO
    ·exact AO
   ·exact AO
  ·exact AO
 ·rename_i t z off hx
  rw [hx] at rx
  obtain ⟨b,o',ys,hp,hr,hc⟩:=rx
  split
  ·rename_i u hu
   split
   ·rename_i y hy
    obtain ⟨hs,hbd⟩:=Ii hy hr
    have hl:=(hE.ty T u hu).load (b:=b) (o:=o'+off) hs (fun j v hj=>by
     rw [List.getElem?_take] at hj
     split at hj
     ·rw [List.getElem?_drop] at hj
      have:=(hc _ _ hj).2
      rw [← Nat.add_assoc] at this
      exact this
     ·cases hj)
    exact Cw hI hd (hrun b _ _ hp hl) (Ln hs)
   ·exact AO
  ·exact AO
 ·exact AO
theorem Vc:∀ (l:List Int) (r:ByteArray),l.foldl (fun r n=>r.push (UInt8.ofNat n.toNat)) r=⟨r.data++(l.map fun n=>UInt8.ofNat n.toNat).toArray⟩
 | [],r=>by simp
 | n :: l,r=>by
  rw [List.foldl_cons,Vc l]
  simp [ByteArray.push]
theorem vY {ok:Nat→Nat→Prop} {k:IntKind}:∀ {l:List Int} {cs:List Value},FV ok w (.int k) l cs→cs=l.map (Value.int k):=by
 intro l cs h
 obtain ⟨hl,hr⟩:=h
 apply List.ext_getElem?
 intro i
 by_cases hi:i<l.length
 ·obtain ⟨ys,hy,hyc⟩:=hr i l[i] (List.getElem?_eq_getElem hi)
  simp only [RepD] at hy
  subst hy
  have:=hyc 0 _ rfl
  simp only [Ty.sz,Nat.mul_one,Nat.add_zero] at this
  rw [this,List.getElem?_map,List.getElem?_eq_getElem hi]
  rfl
 ·simp only [Ty.sz,Nat.mul_one] at hl
  rw [List.getElem?_eq_none (by omega),List.getElem?_eq_none (by rw [List.length_map];omega)]
theorem rO (hE:EnvOk P E) (hI:Inv B ok0 w0 g σ a w) (hd:∀ d,o.dst=some d→d<a.tmps.size) {src dst:Nat} {x:Operand} (ho:o.op = .convert src dst x)
  (hs:¬ (E.ty src=some .str∧E.ty dst=some (.sl (.int .u8)))):
  CL P B ok0 w0 (Gh E src dst o σ (opd σ x)) o a w:=by
 have hrun:∀ v,(convert src dst (a.eval x)).run P w = .ok v w→(execOp a.eval o).run P w = .ok (.value v) w:=by
  intro v hv
  unfold execOp;rw [ho]
  simp only [Sem.run_bind,hv,Result.andThen_ok,Sem.run_pure]
 unfold Gh
 split
 ·rename_i j k hsrc hdst
  have u1:P.underlying src=some (.int j):=(hE.ty _ _ hsrc).und
  have u2:P.underlying dst=some (.int k):=(hE.ty _ _ hdst).und
  split
  ·rename_i n gs hx
   refine Cw hI hd (hrun _ ?_) (EG _ _)
   rw [Fh hI hx]
   simp [convert,run_underlying u1,run_underlying u2,Conv.intToInt]
  ·exact AO
 ·rename_i hsrc hdst
  have u1:P.underlying src=some .string:=(hE.ty _ _ hsrc).und
  have u2:P.underlying dst=some .string:=(hE.ty _ _ hdst).und
  split
  ·rename_i s gs hx
   refine Cw hI hd (hrun _ ?_) (Qu _)
   rw [Lc hI hx]
   simp [convert,run_underlying u1,run_underlying u2]
  ·exact AO
 ·rename_i hsrc hdst
  obtain ⟨ET,ie,u1,hie,hsz,hz,hk,_⟩:=(hE.ty _ _ hsrc).und
  have u2:P.underlying dst=some .string:=(hE.ty _ _ hdst).und
  have u3:=hk .u8 rfl
  split
  ·rename_i l hl
   obtain ⟨p,n,cap,cs,hv,hln,_,_,hrow,_,hcell⟩:=Mi hI hl (DE hI x)
   have hcs:=vY hrow
   refine Cw hI hd (hrun _ ?_) (Qu _)
   rw [hv,run_convert_bytes_string w src dst ET p n cap u1 u3 u2]
   cases p with
   | none=>
    have hn0:n=0:=by
     rcases hcell with h | ⟨A,hA,_⟩
     ·exact h
     ·cases hA
    subst hn0
    have:l=[]:=List.eq_nil_of_length_eq_zero hln
    subst this
    simp [Conv.bytesToString,ofBytes]
    rfl
   | some A=>
    have hlc:(loadCells A n).run P w = .ok (l.map (Value.int .u8)).toArray w:=by
     rw [← hcs]
     have hcl:cs.length=n:=by rw [hcs,List.length_map];exact hln
     rw [← hcl]
     refine run_loadCells_list (P:=P) w A cs fun j u hj=>?_
     rcases hcell with h | ⟨A',hA,hs',hc'⟩
     ·have:=(List.getElem?_eq_some_iff.1 hj).1;omega
     ·cases hA;rw [Fv A hs'];exact hc' j u hj
    rw [run_bytesToString w A n cap l hlc,Vc]
    simp [ofBytes]
  ·exact AO
 ·rename_i h1 h2;exact absurd ⟨h1,h2⟩ hs
 ·exact AO
def NL (d:Int):Option Value→Option Int
 | none=>some d
 | some (.int _ n)=>some n
 | _=>none
theorem KG (hI:Inv B ok0 w0 g σ a w) {d n:Int} {x:Option Operand} (h:bnd σ d x=some n):NL d (x.map a.eval)=some n:=by
 cases x with
 | none=>exact h
 | some x=>
  unfold bnd at h
  simp only at h
  split at h
  ·rename_i k m gs hx
   have:=Fh hI hx
   simp only [Option.map_some,this,NL]
   exact h
  ·cases h
theorem Rs {isSlice:Bool} {len cap:Nat} {lo hi:Option Value} {l h:Int} (hl:NL 0 lo=some l) (hh:NL len hi=some h) (hlc:len≤cap) (hc:inC l h len=true):
  (Instr.sliceBounds isSlice len cap lo hi none).run P w = .ok (l.toNat,h.toNat,cap) w:=by
 obtain ⟨h0,h1,h2⟩:=DO hc
 have hb:∀ (k:IntKind) (i:Int) (y:Nat) (code:BoundsCode),0≤i→i≤y→(Instr.sliceBound (.int k i) y code).run P w = .ok i.toNat w:=by
  intro k i y code h3 h4
  have:0≤i∧i≤(y:Int):=⟨h3,h4⟩
  simp [Instr.sliceBound,asIntOf,this]
 unfold Instr.sliceBounds
 cases hi with
 | none=>
  simp only [NL,Option.some.injEq] at hh
  subst hh
  cases lo with
  | none=>
   simp only [NL,Option.some.injEq] at hl
   subst hl
   simp
  | some lv=>
   cases lv <;> simp only [NL] at hl <;> first | cases hl | skip
   simp [hb _ l len _ h0 h1]
 | some hv=>
  cases hv <;> simp only [NL] at hh <;> first | cases hh | skip
  cases lo with
  | none=>
   simp only [NL,Option.some.injEq] at hl
   subst hl
   simp [hb _ h cap _ h1 (by omega)]
  | some lv=>
   cases lv <;> simp only [NL] at hl <;> first | cases hl | skip
   simp [hb _ h cap _ (by omega) (by omega),hb _ l h.toNat _ h0 (by omega)]
theorem Mj {T ET:Nat} {ie:TypeInfo} (hu:P.underlying T=some (.slice ET)) (hi:P.info? ET=some ie) {p:Option Addr} {n cap:Nat} {lo hi':Option Value} {l h:Int}
  (hl:NL 0 lo=some l) (hh:NL n hi'=some h) (hn:n≤cap) (hc:inC l h n=true):
  (Instr.sliceAt T (.slice p n cap) lo hi' none).run P w = .ok (.slice (if cap=l.toNat then p else p.map (·.add (l.toNat*ie.size))) (h.toNat-l.toNat) (cap-l.toNat)) w:=by
 simp [Instr.sliceAt,Instr.slice,run_underlying hu,Rs hl hh hn hc,sizeOf,typeInfo,hi]
theorem Zc1 {ok:Nat→Nat→Prop} {e:Ty} {s:List e.D} {p:Option Addr} {n cap lo hi:Nat} (hr:RepD ok w (.sl e) s [.slice p n cap]) (h1:lo≤hi) (h2:hi≤n):
  RepD ok w (.sl e) ((s.take hi).drop lo) [.slice (if cap=lo then p else p.map (·.add (lo*e.sz))) (hi-lo) (cap-lo)]:=by
 obtain ⟨p',n',DN,hv,hl,hn,hm,hc⟩:=hr
 cases hv
 refine ⟨_,_,_,rfl,by rw [List.length_drop,List.length_take];omega,by omega,by omega,fun i x hi'=>?_⟩
 rw [List.getElem?_drop,List.getElem?_take] at hi'
 split at hi'
 ·rename_i hlt
  obtain ⟨A,hA,hs,ys,hy,hyc⟩:=hc _ x hi'
  subst hA
  refine ⟨⟨A.block,A.off+lo*e.sz,none⟩,by rw [if_neg (by omega)];simp [Fv A hs],rfl,ys,hy,fun j u hj=>?_⟩
  have:=hyc j u hj
  simp only
  rw [show A.off+lo*e.sz+(i*e.sz+j)=A.off+((lo+i)*e.sz+j) by rw [Nat.add_mul];omega]
  exact this
 ·cases hi'
theorem Zoh (hE:EnvOk P E) (hI:Inv B ok0 w0 g σ a w) (hd:∀ d,o.dst=some d→d<a.tmps.size) {T:Nat} {x:Operand} {lo hi:Option Operand} (ho:o.op = .slice T x lo hi none):
  CL P B ok0 w0 (LK E T o σ (opd σ x) lo hi) o a w:=by
 have hrun:∀ u v,a.eval x=u→(Instr.sliceAt T u (lo.map a.eval) (hi.map a.eval) none).run P w = .ok v w→(execOp a.eval o).run P w = .ok (.value v) w:=by
  intro u v hu hv
  unfold execOp;rw [ho]
  subst hu
  simp only [Option.map_none,Sem.run_bind,hv,Result.andThen_ok,Sem.run_pure]
 have rx:=DE hI x
 unfold LK
 split
 ·rename_i t y gs hx
  rw [hx] at rx
  split
  ·rename_i s hT
   have hu:P.underlying T=some .string:=(hE.ty _ _ hT).und
   split
   ·rename_i l h hl hh
    refine FW hI hd fun hc=>⟨_,hrun _ _ (vZ rx) ?_,Qu _⟩
    have hb:=Rs (P:=P) (w:=w) (isSlice:=false) (cap:=s.size) (KG hI hl) (KG hI hh) (Nat.le_refl _) hc
    simp [Instr.sliceAt,Instr.slice,run_underlying hu,hb,cutS]
   ·exact AO
  ·rename_i e s e' hT
   obtain ⟨ET,ie,hu,hie,hsz,_⟩:=(hE.ty _ _ hT).und
   split
   ·rename_i hes
    obtain ⟨p,n,cap,hv,hr,hln,hn,hm,ht⟩:=cY rx
    rw [hv] at hr ht
    have go:∀ (l h:Int) (z:List e.D),bnd σ 0 lo=some l→bnd σ (n:Int) hi=some h→inC l h (n:Int)=true→z=(s.take h.toNat).drop l.toNat→
      ∃ v,(execOp a.eval o).run P w = .ok (.value v) w∧RepA (okG B ok0 g w) g σ w (.dat (.sl e) z []) v:=by
     intro l h z hl hh hc hz
     obtain ⟨c0,c1,c2⟩:=DO hc
     refine ⟨_,hrun _ _ hv (Mj hu hie (KG hI hl) (KG hI hh) hn hc),?_⟩
     rw [hsz,← hes,hz]
     exact Ln (t:= .sl e) (Zc1 hr (by omega) (by omega))
    split
    ·-- the whole: nothing is cut off
     rename_i _ _
     have hr':=Mj (P:=P) (w:=w) (T:=T) hu hie (p:=p) (n:=n) (cap:=cap) (lo:=none) (hi':=none) (l:=0) (h:=n) rfl rfl hn
      (by unfold inC;simp)
     refine Cw hI hd (v:= .slice p n cap) (hrun _ _ hv ?_) ⟨_,hr,rfl,ht⟩
     rw [show (Option.map a.eval none:Option Value)=none from rfl,hr']
     cases p with
     | none=>simp
     | some A=>simp [Addr.add]
    ·rename_i lo1
     split
     ·rename_i l hl
      refine FW hI hd fun hc=>go l (n:Int) _ hl rfl (by unfold Ai at hc;rw [hln] at hc;obtain ⟨c0,c1,c2⟩:=DO hc;unfold inC;simp;omega) ?_
      rw [show ((n:Int)).toNat=n from rfl,← hln,List.take_length]
     ·exact AO
    ·split
     ·rename_i h hh
      refine FW hI hd fun hc=>go 0 h _ rfl (by simpa [bnd] using hh) (by unfold Ai at hc;rw [hln] at hc;exact hc) rfl
     ·exact AO
    ·split
     ·rename_i l h hl hh
      refine FW hI hd fun hc=>go l h _ hl (by simpa [bnd] using hh) (by unfold Ai at hc;rw [hln] at hc;exact hc) rfl
     ·exact AO
   ·exact AO
  ·exact AO
 ·rename_i id ver hx
  rw [hx] at rx
  split
  ·rename_i n e e' s fz hT hc
   split
   ·rename_i hve
    obtain ⟨b,f,hb,hp⟩:=rx.2 hve.1
    obtain ⟨ET,hu,hfit,hmx,_⟩:=hE.ar T n e hT
    obtain ⟨ie,hie,hsz,_⟩:=hfit.info
    split
    ·rename_i l h hl hh
     refine FW hI hd fun hck=>?_
     rw [Bool.and_eq_true] at hck
     have hml:n=s.length:=of_decide_eq_true hck.2
     obtain ⟨c0,c1,c2⟩:=DO hck.1
     have hbb:=Rs (P:=P) (w:=w) (isSlice:=false) (cap:=n) (KG hI hl) (KG hI hh) (Nat.le_refl _) hck.1
     refine ⟨.slice (some (if n=l.toNat then ⟨b,0,none⟩ else (⟨b,0,none⟩:Addr).add (l.toNat*ie.size))) (h.toNat-l.toNat) (n-l.toNat),hrun _ _ hp ?_,rx.1,fun _=>?_⟩
     ·simp only [Instr.sliceAt,Sem.run_bind,run_underlying hu,Result.andThen_ok,Instr.sureAddr,Sem.run_pure,hbb,sizeOf,typeInfo,run_program,hie]
     ·refine ⟨e',s,fz,_,_,hc,by omega,by omega,by omega,fun hne=>⟨b,f,hb,?_⟩,fun A hA=>?_,rfl⟩
      ·rw [if_neg (by omega),Fv ⟨b,0,none⟩ rfl,hsz,hve.2];simp
      ·cases hA;split
       ·rfl
       ·rw [Fv ⟨b,0,none⟩ rfl]
    ·exact AO
   ·exact AO
  ·exact AO
 ·rename_i id ver lo' n hx
  rw [hx] at rx
  split
  ·rename_i e e' s fz hT hc
   split
   ·rename_i hve
    obtain ⟨e2,s2,fz2,A,cap,hc2,hlo,hcap,hmx,hA,hAs,hp⟩:=rx.2 hve.1
    rw [hc] at hc2;cases hc2
    obtain ⟨ET,ie,hu,hie,hsz,_⟩:=(hE.ty _ _ hT).und
    split
    ·rename_i l h hl hh
     refine FW hI hd fun hck=>?_
     obtain ⟨c0,c1,c2⟩:=DO hck
     refine ⟨_,hrun _ _ hp (Mj hu hie (KG hI hl) (KG hI hh) hcap hck),rx.1,fun _=>?_⟩
     refine ⟨e',s,fz,_,_,hc,by omega,by omega,by omega,fun hne=>?_,fun A' hA'=>?_,rfl⟩
     ·obtain ⟨b,f,hb,hA1⟩:=hA (by omega)
      refine ⟨b,f,hb,?_⟩
      rw [if_neg (by omega),hA1]
      simp [Fv ⟨b,lo'*e'.sz,none⟩ rfl,hsz,hve.2,Nat.add_mul]
     ·split at hA'
      ·exact hAs A' hA'
      ·cases A with
       | none=>cases hA'
       | some A0=>
        simp only [Option.map_some,Option.some.injEq] at hA'
        rw [← hA',Fv A0 (hAs A0 rfl)]
    ·exact AO
   ·exact AO
  ·exact AO
 ·rename_i id ver hx
  rw [hx] at rx
  split
  ·rename_i e e' s fz hT hc
   split
   ·rename_i hve
    obtain ⟨e2,s2,fz2,hc2,hsw⟩:=rx.2 hve.1
    rw [hc] at hc2;cases hc2
    obtain ⟨A,cap,hp,hcap,hmx,hA,hAs⟩:=hsw.form
    obtain ⟨ET,ie,hu,hie,hsz,_⟩:=(hE.ty _ _ hT).und
    split
    ·rename_i l h hl hh
     refine FW hI hd fun hck=>?_
     unfold Ai at hck
     obtain ⟨c0,c1,c2⟩:=DO hck
     refine ⟨_,hrun _ _ hp (Mj hu hie (KG hI hl) (KG hI hh) hcap hck),rx.1,fun _=>?_⟩
     refine ⟨e',s,fz,_,_,hc,by omega,by omega,by omega,fun hne=>?_,fun A' hA'=>?_,rfl⟩
     ·obtain ⟨b,f,hb,hA1⟩:=hA (by omega)
      refine ⟨b,f,hb,?_⟩
      rw [if_neg (by omega),hA1]
      simp [Fv ⟨b,0,none⟩ rfl,hsz,hve.2]
     ·split at hA'
      ·exact hAs A' hA'
      ·cases A with
       | none=>cases hA'
       | some A0=>
        simp only [Option.map_some,Option.some.injEq] at hA'
        rw [← hA',Fv A0 (hAs A0 rfl)]
    ·exact AO
   ·exact AO
  ·exact AO
 ·exact AO
theorem Zh8 (hE:EnvOk P E) (hI:Inv B ok0 w0 g σ a w) (hd:∀ d,o.dst=some d→d<a.tmps.size) {x:Operand} {T:Nat} {c:Call} (ho:o.op = .call c)
  (hc:c.callee = .builtin .len) (ha:c.args.toList=[x]) (hat:c.argTypes.toList=[T]):
  CL P B ok0 w0 (Mr (E.ty T) o σ (opd σ x)) o a w:=by
 have ha':c.args = #[x]:=by rw [← Array.toArray_toList (xs:=c.args),ha]
 have hat':c.argTypes = #[T]:=by rw [← Array.toArray_toList (xs:=c.argTypes),hat]
 have hrun:∀ u v,a.eval x=u→(Builtin.len_ #[T] o.type #[u]).run P w = .ok v w→(execOp a.eval o).run P w = .ok (.value v) w:=by
  intro u v hu hv
  unfold execOp;rw [ho]
  subst hu
  simp [resolve,hc,ha',hat',invoke,builtin,hv]
 have rx:=DE hI x
 unfold Mr
 split
 ·rename_i hT
  have hu:P.underlying T=some .string:=(hE.ty _ _ hT).und
  split
  ·rename_i s gs hx
   exact Cw hI hd (hrun _ _ (Lc hI hx) (by simp [Builtin.len_,run_underlying hu,goInt];rfl)) (EG _ _)
  ·exact AO
 ·rename_i e hT
  obtain ⟨ET,ie,hu,_⟩:=(hE.ty _ _ hT).und
  have go:∀ p n cap,a.eval x = .slice p n cap→(execOp a.eval o).run P w = .ok (.value (.int .i64 (n:Int))) w:=
   fun p n cap hx=>hrun _ _ hx (by simp [Builtin.len_,run_underlying hu,goInt])
  split
  ·rename_i e' l gs hx
   rw [hx] at rx
   obtain ⟨p,n,cap,hv,hr,hln,_⟩:=cY rx
   exact Cw hI hd (go p n cap hv) (by unfold Ai;rw [hln];exact EG _ _)
  ·rename_i hx
   rw [hx] at rx
   exact Cw hI hd (go none 0 0 rx) (EG _ _)
  ·rename_i id ver hx
   rw [hx] at rx
   split
   ·rename_i hv
    split
    ·rename_i e' l fz hcc
     obtain ⟨e2,l2,fz2,hc2,hsw⟩:=rx.2 hv
     rw [hcc] at hc2;cases hc2
     obtain ⟨p,cap,hp,_⟩:=hsw.form
     exact Cw hI hd (go _ _ _ hp) (EG _ _)
    ·exact AO
   ·exact AO
  ·rename_i id ver lo n hx
   rw [hx] at rx
   split
   ·rename_i hv
    obtain ⟨e2,l2,fz2,A,cap,hc2,_,_,_,_,_,hp⟩:=rx.2 hv
    exact Cw hI hd (go _ _ _ hp) (EG _ _)
   ·exact AO
  ·exact AO
 ·exact AO
theorem bf {f:Int→Int→Int} {F:Value→Value→Sem Value} (hF:∀ (k j:IntKind) (x y:Int),F (.int k x) (.int j y)=pure (.int k (f x y))) (hI:Inv B ok0 w0 g σ a w) {k:IntKind}:
  ∀ (xs:List Operand) (m n:Int),Wm f k m (xs.map (opd σ))=some n→((xs.map a.eval).foldlM F (.int k m)).run P w = .ok (.int k n) w
 | [],m,n,h=>by
  simp only [List.map_nil,Wm,Option.some.injEq] at h
  subst h
  rfl
 | x :: xs,m,n,h=>by
  simp only [List.map_cons] at h ⊢
  unfold Wm at h
  split at h
  ·rename_i heq;cases heq
  ·rename_i b hb heq
   obtain ⟨h1,h2⟩:=List.cons.inj heq
   split at h
   ·rename_i hj
    subst hj
    rw [← h2] at h
    rw [List.foldlM_cons,Fh hI h1,hF]
    simp only [Sem.run_bind,Sem.run_pure,Result.andThen_ok]
    exact bf hF hI xs _ n h
   ·cases h
  ·cases h
theorem bg (hI:Inv B ok0 w0 g σ a w) (hd:∀ d,o.dst=some d→d<a.tmps.size) {f:Int→Int→Int} {F:Value→Value→Sem Value} (hF:∀ (k j:IntKind) (x y:Int),F (.int k x) (.int j y)=pure (.int k (f x y)))
  {xs:List Operand} (hrun:∀ v r,xs.map a.eval=v :: r→∀ u,(r.foldlM F v).run P w = .ok u w→(execOp a.eval o).run P w = .ok (.value u) w):
  CL P B ok0 w0 (IC f o σ (xs.map (opd σ))) o a w:=by
 cases xs with
 | nil=>exact AO
 | cons x xs=>
  unfold IC
  simp only [List.map_cons]
  split
  ·rename_i k m gs r heq
   obtain ⟨h1,h2⟩:=List.cons.inj heq
   split
   ·rename_i n hn
    rw [← h2] at hn
    have hx:=Fh hI h1
    exact Cw hI hd (hrun (a.eval x) (xs.map a.eval) rfl (.int k n) (by rw [hx];exact bf hF hI xs m n hn)) (EG _ _)
   ·exact AO
  ·exact AO
end
end Go.AM
end

section
/- New boxes, new rows, writes: what the invariant becomes. -/
namespace Go.AM
open Go.RowKit (Below)
set_option linter.unusedSectionVars false
variable [Lay]
section
variable {P : Program} {B : Bd} {ok0 : Nat → Nat → Prop} {w0 w w' : World} {g : G} {σ : St} {a : Act} {o : Oper} {E : Env}
theorem Fl (w:World) (ob:Obj):Below w.heap.size w (w.alloc ob):=(Below.refl _ _).alloc (Nat.le_refl _) ob
theorem Rq (w:World):Below w.heap.size w w.drew:=(Below.refl _ _).drew
def G.DA (g:G) (id b:Nat) (f:Bool):G:={ g with bx:=EK g.bx id (some (b,f)) }
def G.IX (g:G) (id:Nat) (r:Option (Nat×Nat)):G:={ g with rw:=EK g.rw id r }
theorem Inv.BW (h:Inv B ok0 w0 g σ a w) {nb id:Nat} (hidp:id<pid0) (hb:Below w.heap.size w w') (h1:w.heap.size≤nb) (h2:nb<w'.heap.size) {c:Con}
    (hc:∀ ok g' σ',Ext (okG B ok0 g w) ok g g' σ σ' w w'→ConOk ok g' σ' w' nb false c):
    Inv B ok0 w0 (g.DA id nb false) (σ.BW id c) a w':=by
  have hnb:∀ id' b f,g.bx id'=some (b,f)→b≠nb:=fun id' b f hh=>by have:=(h.bb id' b f hh).2;omega
  have hnr:∀ id' b u,g.rw id'=some (b,u)→b≠nb:=fun id' b u hh=>by have:=(h.rb id' b u hh).2.1;omega
  have hx0:=Ext.Gn h hb
  have hBw:B.n≤w.heap.size:=by have:=h.below.size;have:=h.hB;omega
  have hx:Ext (okG B ok0 g w) (okG B ok0 (g.DA id nb false) w') g (g.DA id nb false) σ (σ.BW id c) w w':=
    { cell := fun b off hk => by
        refine ⟨?_,(hx0.cell b off hk).2⟩
        rcases (hx0.cell b off hk).1 with hk' | ⟨q1,q2,q3,q4⟩
        · exact .inl hk'
        · refine .inr ⟨q1,q2,fun id' he=>?_,q4⟩
          unfold G.DA at he
          simp only [AK] at he
          split at he
          · cases he
            have:=h.okB hk
            omega
          · exact q3 id' he
      box:=fun id' ver hv=>by
        simp only [St.BW,G.DA,AK]
        by_cases hid:id'=id
        · subst hid
          simp only [if_true]
          exact ⟨by omega,fun he=>by omega⟩
        · simp only [if_neg hid]
          exact ⟨hv,fun he=>⟨he,fun b f hh=>⟨f,hh⟩,fun e l fz hcc=>⟨l,fz,hcc,rfl⟩,fun hn=>hn,fun b f cur T y _ hbf hh=>⟨cur,y,(hb.block b (h.bb id' b f hbf).2).trans hh,rfl⟩⟩⟩
      row:=fun id' ver h0 hv=>hx0.row id' ver h0 hv }
  have hg:=h.grown hb
  exact {
    below:=hg.below,hB:=h.hB,h0:=h.h0,hR:=h.hR,defers:=h.defers,lay:=h.lay,tm:=h.tm
    nm:=fun id' b f hi hh=>by
      simp only [G.DA,AK] at hh
      split at hh
      · omega
      · exact h.nm id' b f hi hh
    bb:=fun id' b f hh=>by
      simp only [G.DA,AK] at hh
      split at hh
      · cases hh;exact ⟨.inl (by omega),h2⟩
      · exact hg.bb id' b f hh
    bi:=fun i1 i2 b f f' e1 e2=>by
      simp only [G.DA,AK] at e1 e2
      split at e1 <;> split at e2
      · simp_all
      · cases e1;exact absurd rfl (hnb _ _ _ e2)
      · cases e2;exact absurd rfl (hnb _ _ _ e1)
      · exact h.bi _ _ _ _ _ e1 e2
    rb:=fun id' b u hh=>by
      obtain ⟨q1,q2,q3⟩:=hg.rb id' b u hh
      refine ⟨q1,q2,fun i2 f he=>?_⟩
      simp only [G.DA,AK] at he
      split at he
      · cases he;exact hnr id' _ u hh rfl
      · exact q3 i2 f he
    ri:=h.ri
    con:=fun id' c' hcc=>by
      simp only [St.BW,AK] at hcc
      split at hcc
      · rename_i hid
        cases hcc
        exact .inr ⟨nb,false,by simp [G.DA,AK,hid],hc _ _ _ hx⟩
      · rename_i hid
        rcases h.con id' c' hcc with ⟨hn,he⟩ | ⟨b,f,hbf,hk⟩
        · exact .inl ⟨by simp [G.DA,AK,hid,hn],he⟩
        exact .inr ⟨b,f,by simp [G.DA,AK,hid,hbf],hk.ext hx (hb.block b (h.bb id' b f hbf).2)⟩
    slots:=fun t=>(h.slots t).ext hx }
theorem Inv.lP (h:Inv B ok0 w0 g σ a w) (hb:Below w.heap.size w w') {ρ:Nat→Option (Option (Nat×Nat))} {σ':St} {g':G}
    (hg':g' = { g with rw:=fun id=>match ρ id with | some r=>r | none=>g.rw id })
    (hs:σ' = { σ with r:=fun id=>match ρ id with | some _=>σ.r id+1 | none=>σ.r id })
    (h1:∀ id b u,ρ id=some (some (b,u))→w.heap.size≤b∧b<w'.heap.size)
    (h2:∀ id id' b u u',ρ id=some (some (b,u))→ρ id'=some (some (b,u'))→id=id'):
    Inv B ok0 w0 g' σ' a w'∧Ext (okG B ok0 g w) (okG B ok0 g' w') g g' σ σ' w w':=by
  have hx0:=Ext.Gn h hb
  have hg:=h.grown hb
  have hBw:B.n≤w.heap.size:=by have:=h.below.size;have:=h.hB;omega
  subst hg'
  subst hs
  have hx:Ext (okG B ok0 g w) (okG B ok0 { g with rw:=fun id=>match ρ id with | some r=>r | none=>g.rw id } w') g { g with rw:=fun id=>match ρ id with | some r=>r | none=>g.rw id } σ
      { σ with r:=fun id=>match ρ id with | some _=>σ.r id+1 | none=>σ.r id } w w':=
    { cell := fun b off hk => by
        refine ⟨?_,(hx0.cell b off hk).2⟩
        rcases (hx0.cell b off hk).1 with hk' | ⟨q1,q2,q3,q4⟩
        · exact .inl hk'
        · refine .inr ⟨q1,q2,q3,fun id u he=>?_⟩
          simp only at he
          split at he
          · rename_i r hr
            rw [he] at hr
            have:=(h1 id b u hr).1
            have:=h.okB hk
            omega
          · exact q4 id u he
      box:=fun id ver hv=>⟨hv,fun he=>⟨he,fun b f hh=>⟨f,hh⟩,fun e l fz hcc=>⟨l,fz,hcc,rfl⟩,fun hn=>hn,fun b f cur T y _ hbf hh=>⟨cur,y,(hb.block b (h.bb id b f hbf).2).trans hh,rfl⟩⟩⟩
      row:=fun id ver h0 hv=>by
        simp only
        cases hr:ρ id with
        | some r=>simp only;exact ⟨by omega,fun he=>by omega⟩
        | none=>simp only;exact hx0.row id ver h0 hv }
  refine ⟨?_,hx⟩
  exact {
    below:=hg.below,hB:=h.hB,h0:=h.h0,hR:=h.hR,defers:=h.defers,lay:=h.lay,tm:=h.tm,nm:=h.nm,bb:=hg.bb,bi:=h.bi
    rb:=fun id b u hh=>by
      simp only at hh
      split at hh
      · rename_i r hr
        rw [hh] at hr
        obtain ⟨q1,q2⟩:=h1 id b u hr
        exact ⟨by omega,q2,fun id' f he=>by have:=(h.bb id' b f he).2;omega⟩
      · exact hg.rb id b u hh
    ri:=fun id id' b u u' e1 e2=>by
      cases q1:ρ id with
      | some r1=>
        simp only [q1] at e1
        subst e1
        cases q2:ρ id' with
        | some r2=>simp only [q2] at e2;subst e2;exact h2 _ _ _ _ _ q1 q2
        | none=>simp only [q2] at e2;have:=(h1 _ _ _ q1).1;have:=(h.rb _ _ _ e2).2.1;omega
      | none=>
        simp only [q1] at e1
        cases q2:ρ id' with
        | some r2=>simp only [q2] at e2;subst e2;have:=(h1 _ _ _ q2).1;have:=(h.rb _ _ _ e1).2.1;omega
        | none=>simp only [q2] at e2;exact h.ri _ _ _ _ _ e1 e2
    con:=fun id c hcc=>by
      rcases h.con id c hcc with hn | ⟨b,f,hbf,hk⟩
      · exact .inl hn
      exact .inr ⟨b,f,hbf,hk.ext hx (hb.block b (h.bb id b f hbf).2)⟩
    slots:=fun t=>(h.slots t).ext hx }
theorem RR {b:Nat} {cs:Array Value} (hb:B.n≤b∨b∈B.io∨∃ u,some (b,u)∈B.rows) (hr:∀ u cur T y,some (b,u)∈B.rows→b<B.n→w.heap[b]? = some (.cells cur T y)→cs.size=cur.size∧∀ o,o<u→cs[o]? = cur[o]?)
  (hi:b∈B.io→∀ cur T y,w.heap[b]? = some (.cells cur T y)→cs.size=cur.size) (h:BelowX B w0 w):BelowX B w0 (w.setRow b cs) where
 os:=h.os
 tape:=h.tape
 output:=h.output
 size:=by have:=h.size;simp [World.setRow];exact this
 block:=fun k hk hn hq=>(setRow_other w b k cs (by
  rintro rfl
  rcases hb with hb | hb | ⟨u,hb⟩
  ·omega
  ·exact hn hb
  ·exact hq u hb)).trans (h.block k hk hn hq)
 rowc:=fun k u cur T y hk hlt hh=>by
  obtain ⟨cur',z,h1,h2,h3⟩:=h.rowc k u cur T y hk hlt hh
  by_cases hkb:k=b
  ·subst hkb
   obtain ⟨h4,h5⟩:=hr u cur' T z hk hlt h1
   exact ⟨cs,z,by
    obtain ⟨z1,z2⟩:=z
    exact setRow_heap w k _ _ _ _ h1,h4.trans h2,fun o ho=>(h5 o ho).trans (h3 o ho)⟩
  ·exact ⟨cur',z,(setRow_other w b k cs hkb).trans h1,h2,h3⟩
 ioc:=fun k cur T y hk hlt hh=>by
  obtain ⟨cur',z,h1,h2⟩:=h.ioc k cur T y hk hlt hh
  by_cases hkb:k=b
  ·subst hkb
   exact ⟨cs,z,by
    obtain ⟨z1,z2⟩:=z
    exact setRow_heap w k _ _ _ _ h1,(hi hk cur' T z h1).trans h2⟩
  ·exact ⟨cur',z,(setRow_other w b k cs hkb).trans h1,h2⟩
theorem SU (h:Inv B ok0 w0 g σ a w) {b:Nat} {cs:Array Value} (hb:B.n≤b∨b∈B.io) (hcs:∀ cur T y,w.heap[b]? = some (.cells cur T y)→cs.size=cur.size):BelowX B w0 (w.setRow b cs):=
 RR (by rcases hb with hb | hb;exact .inl hb;exact .inr (.inl hb)) (fun u cur T y hq hlt _=>by
  rcases hb with hb | hb
  ·omega
  ·exact absurd hb (h.hR b u hq).2.1) (fun _=>hcs) h.below
theorem setRow_size (w:World) (b:Nat) (cs:Array Value):(w.setRow b cs).heap.size=w.heap.size:=by simp [World.setRow]
theorem Inv.Rr (h:Inv B ok0 w0 g σ a w) {id b:Nat} {c0 c:Con} (hc0:σ.c id=some c0) (hbx:g.bx id=some (b,false)) {cs:Array Value}
    (harr:∀ e l fz,c0 = .arr e l fz→∃ l' fz',c = .arr e l' fz'∧List.length (α:=e.D) l'=List.length (α:=e.D) l) (hcs:∀ cur T y,w.heap[b]? = some (.cells cur T y)→cs.size=cur.size)
    (hc:∀ ok σ',Ext (okG B ok0 g w) ok g g σ σ' w (w.setRow b cs)→ConOk ok g σ' (w.setRow b cs) b false c):
    Inv B ok0 w0 g (σ.Cn id c) a (w.setRow b cs):=by
  have hBb:B.n≤b∨b∈B.io:=by rcases (h.bb id b false hbx).1 with h | h;exact .inl h;exact .inr h.1
  have hx:Ext (okG B ok0 g w) (okG B ok0 g (w.setRow b cs)) g g σ (σ.Cn id c) w (w.setRow b cs):=
    { cell := fun b' off hk => by
        have hne:b'≠b:=by
          rcases hk with hk | ⟨_,_,q3,_⟩
          · have:=h.h0 _ _ hk
            rintro rfl
            rcases hBb with hBb | hBb
            · omega
            · exact this.2.1 hBb
          · intro e;subst e;exact q3 id hbx
        refine ⟨?_,?_⟩
        · rcases hk with hk | ⟨q1,q2,q3,q4⟩
          · exact .inl hk
          · exact .inr ⟨q1,by rw [setRow_size];exact q2,q3,q4⟩
        · exact cell_setRow_other w b cs _ hne
      box:=fun id' ver hv=>by
        refine ⟨hv,fun he=>⟨he,fun b f hh=>⟨f,hh⟩,fun e l fz hcc=>?_,fun hn=>hn,fun b1 f cur T y _ hbf hh=>?_⟩⟩
        · simp only [St.Cn,AK]
          by_cases hid:id'=id
          · subst hid
            rw [hc0] at hcc
            cases hcc
            obtain ⟨l',fz',e1,e2⟩:=harr e l fz rfl
            exact ⟨l',fz',by simp [e1],e2⟩
          · exact ⟨l,fz,by rw [if_neg hid];exact hcc,rfl⟩
        · by_cases hb1:b1=b
          · subst hb1
            exact ⟨cs,y,setRow_heap w b1 _ _ _ _ hh,hcs cur T _ hh⟩
          · exact ⟨cur,y,(setRow_other w b b1 cs hb1).trans hh,rfl⟩
      row:=fun id' ver h0 hv=>⟨hv,fun he=>⟨he,fun b' u hh=>⟨hh,setRow_other w b b' cs (fun e=>by subst e;exact (h.rb id' _ u hh).2.2 id false hbx)⟩⟩⟩ }
  exact {
    below:=SU h hBb hcs,hB:=h.hB,h0:=h.h0,hR:=h.hR,defers:=h.defers,lay:=h.lay,tm:=h.tm,nm:=h.nm
    bb:=fun id' b' f' hh=>by rw [setRow_size];exact h.bb id' b' f' hh
    bi:=h.bi
    rb:=fun id' b' u hh=>by rw [setRow_size];exact h.rb id' b' u hh
    ri:=h.ri
    con:=fun id' c' hcc=>by
      simp only [St.Cn,AK] at hcc
      split at hcc
      · rename_i hid
        cases hcc
        subst hid
        exact .inr ⟨b,false,hbx,hc _ _ hx⟩
      · rename_i hid
        rcases h.con id' c' hcc with hn | ⟨b',f',hbf,hk⟩
        · exact .inl hn
        exact .inr ⟨b',f',hbf,hk.ext hx (setRow_other w b b' cs (fun e=>by subst e;exact hid (h.bi _ _ _ _ _ hbf hbx)))⟩
    slots:=fun t=>(h.slots t).ext hx }
theorem Inv.gv (h:Inv B ok0 w0 g σ a w) {id b:Nat} {f:Bool} {c0 c1:Con} (hc0:σ.c id=some c0) (hbf:g.bx id=some (b,f)) (hid:id<pid0) (harr:∀ e l fz,c0 = .arr e l fz→∃ l' fz',c1 = .arr e l' fz'∧List.length (α:=e.D) l'=List.length (α:=e.D) l)
    (hto:∀ b f ok g' σ',ConOk ok g' σ' w b f c0→ConOk ok g' σ' w b true c1):
    ∃ g',g'.bx id=some (b,true)∧Inv B ok0 w0 g' (σ.Cn id c1) a w∧Ext (okG B ok0 g w) (okG B ok0 g' w) g g' σ (σ.Cn id c1) w w∧
      ∀ o,okG B ok0 g' w b o:=by
  have hk:=h.Hn hbf hc0
  have hbb:B.n≤b∧b<w.heap.size:=by
    obtain ⟨h1,h2⟩:=h.bb id b f hbf
    rcases h1 with h1 | h1
    · exact ⟨h1,h2⟩
    · omega
  have hx:Ext (okG B ok0 g w) (okG B ok0 (g.DA id b true) w) g (g.DA id b true) σ (σ.Cn id c1) w w:=
    { cell := fun b' off hk' => by
        refine ⟨?_,rfl⟩
        rcases hk' with hk' | ⟨q1,q2,q3,q4⟩
        · exact .inl hk'
        · refine .inr ⟨q1,q2,fun id' he=>?_,q4⟩
          simp only [G.DA,AK] at he
          split at he
          · cases he
          · exact q3 id' he
      box:=fun id' ver hv=>by
        refine ⟨hv,fun he=>⟨he,fun b' f' hh=>?_,fun e' l' fz' hcc=>?_,fun hn=>?_,fun b' f' cur T y _ _ hh=>⟨cur,y,hh,rfl⟩⟩⟩
        · simp only [G.DA,AK]
          by_cases hid:id'=id
          · subst hid;rw [hbf] at hh;cases hh;exact ⟨true,by simp⟩
          · exact ⟨f',by rw [if_neg hid];exact hh⟩
        · simp only [St.Cn,AK]
          by_cases hid:id'=id
          · subst hid;rw [hc0] at hcc;cases hcc;obtain ⟨l',fz'',e1,e2⟩:=harr _ _ _ rfl;exact ⟨l',fz'',by simp [e1],e2⟩
          · exact ⟨l',fz',by rw [if_neg hid];exact hcc,rfl⟩
        · simp only [G.DA,AK]
          by_cases hid:id'=id
          · subst hid;rw [hbf] at hn;cases hn
          · rw [if_neg hid];exact hn
      row:=fun id' ver h0 hv=>⟨hv,fun he=>⟨he,fun b' u hh=>⟨hh,rfl⟩⟩⟩ }
  refine ⟨g.DA id b true,by simp [G.DA,AK],?_,hx,fun o=> .inr ⟨.inl hbb.1,hbb.2,fun id' he=>?_,fun id' u he=>?_⟩⟩
  · exact {
      below:=h.below,hB:=h.hB,h0:=h.h0,hR:=h.hR,defers:=h.defers,lay:=h.lay,tm:=h.tm
      nm:=fun id' b' f' hi hh=>by
        simp only [G.DA,AK] at hh
        split at hh
        · omega
        · exact h.nm id' b' f' hi hh
      bb:=fun id' b' f' hh=>by
        simp only [G.DA,AK] at hh
        split at hh
        · cases hh;exact ⟨.inl hbb.1,hbb.2⟩
        · exact h.bb id' b' f' hh
      bi:=fun i1 i2 b' f1 f2 e1 e2=>by
        simp only [G.DA,AK] at e1 e2
        split at e1 <;> split at e2
        · simp_all
        · cases e1;rename_i q1 q2;rw [q1];exact (h.bi _ _ _ _ _ e2 hbf).symm
        · cases e2;rename_i q1 q2;rw [q2];exact h.bi _ _ _ _ _ e1 hbf
        · exact h.bi _ _ _ _ _ e1 e2
      rb:=fun id' b' u hh=>by
        obtain ⟨q1,q2,q3⟩:=h.rb id' b' u hh
        refine ⟨q1,q2,fun i2 f' he=>?_⟩
        simp only [G.DA,AK] at he
        split at he
        · cases he;exact q3 id f hbf
        · exact q3 i2 f' he
      ri:=h.ri
      con:=fun id' c' hcc=>by
        simp only [St.Cn,AK] at hcc
        split at hcc
        · rename_i hid
          cases hcc
          exact .inr ⟨b,true,by simp [G.DA,AK,hid],hto _ _ _ _ _ (hk.ext hx rfl)⟩
        · rename_i hid
          rcases h.con id' c' hcc with ⟨hn,he⟩ | ⟨b',f',hbf',hk'⟩
          · exact .inl ⟨by simp [G.DA,AK,hid,hn],he⟩
          exact .inr ⟨b',f',by simp [G.DA,AK,hid,hbf'],hk'.ext hx rfl⟩
      slots:=fun t=>(h.slots t).ext hx }
  · simp only [G.DA,AK] at he
    split at he
    · cases he
    · rename_i hid;exact hid (h.bi _ _ _ _ _ he hbf)
  · exact absurd hbf ((h.rb id' b u he).2.2 id f)
theorem Inv.freeze (h:Inv B ok0 w0 g σ a w) {id b:Nat} {f:Bool} {e:Ty} {l:List e.D} {fz:Bool} (hc0:σ.c id=some (.arr e l fz)) (hbf:g.bx id=some (b,f)) (hid:id<pid0):
  ∃ g',g'.bx id=some (b,true)∧Inv B ok0 w0 g' (σ.Cn id (.arr e l true)) a w∧Ext (okG B ok0 g w) (okG B ok0 g' w) g g' σ (σ.Cn id (.arr e l true)) w w∧
   ∀ o,okG B ok0 g' w b o:=
 h.gv hc0 hbf hid (fun e' l' fz' he=>by cases he;exact ⟨l,true,rfl,rfl⟩) fun b f ok g' σ' hk=>⟨rfl,hk.2⟩
theorem Inv.SV (h:Inv B ok0 w0 g σ a w) {id:Nat} {e:Ty} {l:List e.D} {fz:Bool} (hc0:σ.c id=some (.arr e l fz)) (hn:g.bx id=none):
    Inv B ok0 w0 g (σ.Cn id (.arr e l true)) a w∧Ext (okG B ok0 g w) (okG B ok0 g w) g g σ (σ.Cn id (.arr e l true)) w w:=by
  have hx:Ext (okG B ok0 g w) (okG B ok0 g w) g g σ (σ.Cn id (.arr e l true)) w w:=
    { cell := fun b' off hk' => ⟨hk', rfl⟩
      box:=fun id' ver hv=>by
        refine ⟨hv,fun he=>⟨he,fun b' f' hh=>⟨f',hh⟩,fun e' l' fz' hcc=>?_,fun hn=>hn,fun b' f' cur T y _ _ hh=>⟨cur,y,hh,rfl⟩⟩⟩
        simp only [St.Cn,AK]
        by_cases hid:id'=id
        · subst hid;rw [hc0] at hcc;cases hcc;exact ⟨l,true,by simp,rfl⟩
        · exact ⟨l',fz',by rw [if_neg hid];exact hcc,rfl⟩
      row:=fun id' ver h0 hv=>⟨hv,fun he=>⟨he,fun b' u hh=>⟨hh,rfl⟩⟩⟩ }
  refine ⟨?_,hx⟩
  exact {
    below:=h.below,hB:=h.hB,h0:=h.h0,hR:=h.hR,defers:=h.defers,lay:=h.lay,tm:=h.tm,nm:=h.nm,bb:=h.bb,bi:=h.bi,rb:=h.rb,ri:=h.ri
    con:=fun id' c' hcc=>by
      simp only [St.Cn,AK] at hcc
      split at hcc
      · rename_i hid
        cases hcc
        subst hid
        rcases h.con id' _ hc0 with ⟨_,e',fz',he⟩ | ⟨b,f,hb,_⟩
        · cases he;exact .inl ⟨hn,e,true,rfl⟩
        · rw [hn] at hb;cases hb
      · rcases h.con id' c' hcc with hn | ⟨b',f',hbf',hk'⟩
        · exact .inl hn
        · exact .inr ⟨b',f',hbf',hk'.ext hx rfl⟩
    slots:=fun t=>(h.slots t).ext hx }
theorem Inv.capture (h:Inv B ok0 w0 g σ a w) {id b:Nat} {f:Bool} {t:Ty} {x:t.D} {gs:List Tag} (hc0:σ.c id=some (.var t x gs)) (hbf:g.bx id=some (b,f)) (hid:id<pid0):
  ∃ g',g'.bx id=some (b,true)∧Inv B ok0 w0 g' (σ.Cn id (.arr t [x] true)) a w∧Ext (okG B ok0 g w) (okG B ok0 g' w) g g' σ (σ.Cn id (.arr t [x] true)) w w∧
   ∀ o,okG B ok0 g' w b o:=
 h.gv hc0 hbf hid (fun e' l' fz' he=>by cases he) fun b f ok g' σ' hk=>by
  obtain ⟨_,cs,T,h1,h2,_⟩:=hk
  refine ⟨rfl,cs.toArray,T,_,h1, .inl rfl,by simp [h2.len],by show 1≤maxLen;unfold maxLen;exact of_decide_eq_true rfl,fun i y hi=>?_⟩
  cases i with
  | zero=>
   simp at hi
   subst hi
   exact ⟨cs,h2,fun j u hj=>by simpa using hj⟩
  | succ i=>simp at hi
theorem Inv.vX (h:Inv B ok0 w0 g σ a w) (id:Nat) (e:Ty):
    Inv B ok0 w0 { g with bx:=EK g.bx id none } (σ.BW id (.arr e [] false)) a w:=by
  have hx:Ext (okG B ok0 g w) (okG B ok0 { g with bx:=EK g.bx id none } w) g { g with bx:=EK g.bx id none } σ (σ.BW id (.arr e [] false)) w w:=
    { cell := fun b' off hk' => by
        refine ⟨?_,rfl⟩
        rcases hk' with hk' | ⟨q1,q2,q3,q4⟩
        · exact .inl hk'
        · refine .inr ⟨q1,q2,fun id' he=>?_,q4⟩
          simp only [AK] at he
          split at he
          · cases he
          · exact q3 id' he
      box:=fun id' ver hv=>by
        simp only [St.BW,AK]
        by_cases hid:id'=id
        · subst hid
          simp only [if_true]
          exact ⟨by omega,fun he=>by omega⟩
        · simp only [if_neg hid]
          exact ⟨hv,fun he=>⟨he,fun b f hh=>⟨f,hh⟩,fun e l fz hcc=>⟨l,fz,hcc,rfl⟩,fun hn=>hn,fun b f cur T y _ hbf hh=>⟨cur,y,hh,rfl⟩⟩⟩
      row:=fun id' ver h0 hv=>⟨hv,fun he=>⟨he,fun b' u hh=>⟨hh,rfl⟩⟩⟩ }
  exact {
    below:=h.below,hB:=h.hB,h0:=h.h0,hR:=h.hR,defers:=h.defers,lay:=h.lay,tm:=h.tm
    nm:=fun id' b f hi hh=>by
      simp only [AK] at hh
      split at hh
      · cases hh
      · exact h.nm id' b f hi hh
    bb:=fun id' b f hh=>by
      simp only [AK] at hh
      split at hh
      · cases hh
      · exact h.bb id' b f hh
    bi:=fun i1 i2 b f f' e1 e2=>by
      simp only [AK] at e1 e2
      split at e1 <;> split at e2 <;> first | cases e1 | cases e2 | exact h.bi _ _ _ _ _ e1 e2
    rb:=fun id' b u hh=>by
      obtain ⟨q1,q2,q3⟩:=h.rb id' b u hh
      refine ⟨q1,q2,fun i2 f he=>?_⟩
      simp only [AK] at he
      split at he
      · cases he
      · exact q3 i2 f he
    ri:=h.ri
    con:=fun id' c' hcc=>by
      simp only [St.BW,AK] at hcc
      split at hcc
      · rename_i hid
        cases hcc
        exact .inl ⟨by simp [AK,hid],e,false,rfl⟩
      · rename_i hid
        rcases h.con id' c' hcc with ⟨hn,he⟩ | ⟨b,f,hbf,hk⟩
        · exact .inl ⟨by simp [AK,hid,hn],he⟩
        · exact .inr ⟨b,f,by simp [AK,hid,hbf],hk.ext hx rfl⟩
    slots:=fun t=>(h.slots t).ext hx }
theorem Inv.Zg8 (h:Inv B ok0 w0 g σ a w) {id b:Nat} {c:Con} (hbx:g.bx id=some (b,false)) {cs:Array Value}
    (hc:∀ ok σ',Ext (okG B ok0 g w) ok g g σ σ' w (w.setRow b cs)→ConOk ok g σ' (w.setRow b cs) b false c) (hcs:∀ cur T y,w.heap[b]? = some (.cells cur T y)→cs.size=cur.size):
    Inv B ok0 w0 g (σ.BW id c) a (w.setRow b cs):=by
  have hBb:B.n≤b∨b∈B.io:=by rcases (h.bb id b false hbx).1 with h | h;exact .inl h;exact .inr h.1
  have hx:Ext (okG B ok0 g w) (okG B ok0 g (w.setRow b cs)) g g σ (σ.BW id c) w (w.setRow b cs):=
    { cell := fun b' off hk => by
        have hne:b'≠b:=by
          rcases hk with hk | ⟨_,_,q3,_⟩
          · have:=h.h0 _ _ hk
            rintro rfl
            rcases hBb with hBb | hBb
            · omega
            · exact this.2.1 hBb
          · intro e;subst e;exact q3 id hbx
        refine ⟨?_,cell_setRow_other w b cs _ hne⟩
        rcases hk with hk | ⟨q1,q2,q3,q4⟩
        · exact .inl hk
        · exact .inr ⟨q1,by rw [setRow_size];exact q2,q3,q4⟩
      box:=fun id' ver hv=>by
        simp only [St.BW,AK]
        by_cases hid:id'=id
        · subst hid
          simp only [if_true]
          exact ⟨by omega,fun he=>by omega⟩
        · simp only [if_neg hid]
          refine ⟨hv,fun he=>⟨he,fun b f hh=>⟨f,hh⟩,fun e l fz hcc=>⟨l,fz,hcc,rfl⟩,fun hn=>hn,fun b1 f cur T y _ hbf hh=>?_⟩⟩
          by_cases hb1:b1=b
          · subst hb1
            exact ⟨cs,y,setRow_heap w b1 _ _ _ _ hh,hcs cur T _ hh⟩
          · exact ⟨cur,y,(setRow_other w b b1 cs hb1).trans hh,rfl⟩
      row:=fun id' ver h0 hv=>⟨hv,fun he=>⟨he,fun b' u hh=>⟨hh,setRow_other w b b' cs (fun e=>by subst e;exact (h.rb id' _ u hh).2.2 id false hbx)⟩⟩⟩ }
  exact {
    below:=SU h hBb hcs,hB:=h.hB,h0:=h.h0,hR:=h.hR,defers:=h.defers,lay:=h.lay,tm:=h.tm,nm:=h.nm
    bb:=fun id' b' f' hh=>by rw [setRow_size];exact h.bb id' b' f' hh
    bi:=h.bi
    rb:=fun id' b' u hh=>by rw [setRow_size];exact h.rb id' b' u hh
    ri:=h.ri
    con:=fun id' c' hcc=>by
      simp only [St.BW,AK] at hcc
      split at hcc
      · rename_i hid
        cases hcc
        subst hid
        exact .inr ⟨b,false,hbx,hc _ _ hx⟩
      · rename_i hid
        rcases h.con id' c' hcc with hn | ⟨b',f',hbf,hk⟩
        · exact .inl hn
        exact .inr ⟨b',f',hbf,hk.ext hx (setRow_other w b b' cs (fun e=>by subst e;exact hid (h.bi _ _ _ _ _ hbf hbx)))⟩
    slots:=fun t=>(h.slots t).ext hx }
end
end Go.AM
end

section
/- Operations that make memory or write it. -/
namespace Go.AM
open Go.RowKit (Below)
set_option linter.unusedSectionVars false
variable [Lay]
section
variable {P : Program} {B : Bd} {ok0 : Nat → Nat → Prop} {w0 w w' : World} {g g' : G} {σ σ1 : St} {a : Act} {o : Oper} {E : Env}
theorem Iy {c:Bool} {av:AV} (hd:∀ d,o.dst=some d→d<a.tmps.size)
  (h:c=true→∃ g' w' v,(execOp a.eval o).run P w = .ok (.value v) w'∧Inv B ok0 w0 g' σ1 a w'∧RepA (okG B ok0 g' w') g' σ1 w' av v):
  CL P B ok0 w0 (.go c (σ1.BO o.dst av)) o a w:=by
 intro next Q hc hn
 obtain ⟨g',w',v,hr,hI,hv⟩:=h hc
 unfold Oper.wp
 rw [hr]
 exact hn g' _ _ (hI.put hv hd) (Iu _ _ _)
theorem Ze (hd:∀ d,o.dst=some d→d<a.tmps.size)
  (h:∃ g' w',(execOp a.eval o).run P w = .ok .skip w'∧Inv B ok0 w0 g' σ1 a w'):
  CL P B ok0 w0 (.go true (σ1.BO o.dst .none)) o a w:=by
 intro next Q _ hn
 obtain ⟨g',w',hr,hI⟩:=h
 unfold Oper.wp
 rw [hr]
 exact hn g' _ _ (hI.put (av:= .none) rfl hd) (Iu _ _ _)
theorem vV {c:Bool} {s:Step} (h:c=false→CL P B ok0 w0 s o a w):CL P B ok0 w0 (bif c then .no else s) o a w:=by
 cases c
 ·exact h rfl
 ·exact AO
theorem EW (w:World) (ob:Obj):(w.alloc ob).heap[w.heap.size]? = some ob:=heap_alloc_new w ob
theorem OP {r:Nat→Nat}:∀ (t:Ty) (pre:List Value),Fi g r w (LF t pre.length) (pre++t.zcells)
 | .int _,_=>fun _ h=>by cases h
 | .bool,_=>fun _ h=>by cases h
 | .str,_=>fun _ h=>by cases h
 | .sl e,pre=>fun τ h=>by
  have:τ = ⟨pre.length,0,0,e.sg⟩:=by simpa [LF] using h
  subst this
  exact ⟨fun _=>by simp [Ty.zcells],fun h0=>absurd rfl h0⟩
 | .wrap a,pre=>OP a pre
 | .arr _ _,_=>fun _ h=>by cases h
 | .lk _,_=>fun _ h=>by cases h
 | .pair a b,pre=>fun τ h=>by
  rcases List.mem_append.1 h with h | h
  ·have h5:Xl g r w (pre++a.zcells) τ:=OP a pre τ h
   obtain ⟨h1,h2⟩:=h5
   have hlen:∀ v,(pre++a.zcells)[τ.off]? = some v→(pre++(a.zcells++b.zcells))[τ.off]? = some v:=by
    intro v hv
    have:=(List.getElem?_eq_some_iff.1 hv).1
    rw [← List.append_assoc,List.getElem?_append_left this]
    exact hv
   have h0:τ.id=0:=by
    have:∀ (t:Ty) (o:Nat) (τ:Tag),τ∈LF t o→τ.id=0:=by
     intro t
     induction t with
     | int k=>intro o τ h;cases h
     | bool=>intro o τ h;cases h
     | str=>intro o τ h;cases h
     | sl e _=>intro o τ h;simp [LF] at h;subst h;rfl
     | wrap a ih=>intro o τ h;exact ih o τ h
     | pair a b iha ihb=>intro o τ h;rcases List.mem_append.1 h with h | h;exact iha _ _ h;exact ihb _ _ h
     | arr m e _=>intro o τ h;cases h
     | lk k=>intro o τ h;cases h
    exact this a _ τ h
   exact ⟨fun _=>hlen _ (h1 h0),fun hn=>absurd h0 hn⟩
  ·have hl:(pre++a.zcells).length=pre.length+a.sz:=by rw [List.length_append,(Eg (fun _ _=>True) w a).len]
   have h5:Xl g r w ((pre++a.zcells)++b.zcells) τ:=OP b (pre++a.zcells) τ (by rw [hl];exact h)
   rw [List.append_assoc] at h5
   exact h5
theorem VS {ok:Nat→Nat→Prop} {e:Ty}:∀ (n i:Nat) (x:e.D),(List.replicate n e.zero)[i]? = some x→∃ ys,RepD ok w e x ys∧∀ j u,ys[j]? = some u→((List.replicate n e.zcells).flatten)[i*e.sz+j]? = some u:=by
 intro n
 have hl:=(Eg ok w e).len
 induction n with
 | zero=>intro i x h;simp at h
 | succ n ih=>
  intro i x h
  cases i with
  | zero=>
   simp only [List.replicate_succ,List.getElem?_cons_zero,Option.some.injEq] at h
   subst h
   refine ⟨e.zcells,Eg ok w e,fun j u hj=>?_⟩
   have:=(List.getElem?_eq_some_iff.1 hj).1
   rw [List.replicate_succ,List.flatten_cons,List.getElem?_append_left (by omega)]
   simpa using hj
  | succ i=>
   obtain ⟨ys,hy,hc⟩:=ih i x (by simpa [List.replicate_succ] using h)
   refine ⟨ys,hy,fun j u hj=>?_⟩
   rw [List.replicate_succ,List.flatten_cons,List.getElem?_append_right (by rw [Nat.add_mul];omega),show (i+1)*e.sz+j-e.zcells.length=i*e.sz+j by rw [hl,Nat.add_mul];omega]
   exact hc j u hj
theorem JP {e:Ty} (n:Nat):((List.replicate n e.zcells).flatten).length=n*e.sz:=by
 have hl:=(Eg (fun _ _=>True) (default:World) e).len
 induction n with
 | zero=>simp
 | succ n ih=>rw [List.replicate_succ,List.flatten_cons,List.length_append,ih,hl,Nat.add_mul];omega
theorem Zlh (hE:EnvOk P E) (hI:Inv B ok0 w0 g σ a w) (hd:∀ d,o.dst=some d→d<a.tmps.size) {T:Nat} (ho:o.op = .alloc T):
  CL P B ok0 w0 (Ng E T o σ) o a w:=by
 unfold Ng
 have hrun:∀ i z,P.info? T=some i→i.zero=some z→(execOp a.eval o).run P w = .ok (.value (.pointer (some ⟨w.heap.size,0,none⟩))) (w.alloc (.cells z.cells T)):=by
  intro i z hi hz
  unfold execOp;rw [ho]
  simp [Instr.alloc,zeroValue,typeInfo,hi,hz,newVar,newRow]
 split
 ·rename_i d hdst
  split
  ·rename_i n e hT
   obtain ⟨ET,hu,hfit,hmx,i,hi,hz⟩:=hE.ar T n e hT
   refine Iy hd fun _=>⟨g.DA d w.heap.size false,_,_,hrun i _ hi hz,hI.BW (Nat.lt_of_lt_of_le (hd _ (by assumption)) hI.tm) (Fl w _) (Nat.le_refl _) (by simp) (fun ok g' σ' hx=>?_),?_⟩
   ·refine ⟨rfl,_,T,_,EW w _, .inl rfl,?_,by simpa using hmx,fun i x hix=>?_⟩
    ·rw [List.length_replicate,← JP (e:=e) n];simp [Value.cells]
    ·obtain ⟨ys,hy,hc⟩:=VS (ok:=ok) (w:=w.alloc (.cells (Value.agg (List.replicate n e.zcells).flatten.toArray).cells T)) n i x hix
     exact ⟨ys,hy,fun j u hj=>by simpa [Value.cells] using hc j u hj⟩
   ·exact ⟨by simp [St.BW,AK],fun _=>⟨w.heap.size,false,by simp [G.DA,AK],rfl⟩⟩
  ·split
   ·rename_i t hT
    obtain ⟨i,hi,hs,hz⟩:=(hE.ty T t hT).info
    refine Iy hd fun _=>⟨g.DA d w.heap.size false,_,_,hrun i _ hi hz,hI.BW (Nat.lt_of_lt_of_le (hd _ (by assumption)) hI.tm) (Fl w _) (Nat.le_refl _) (by simp) (fun ok g' σ' hx=>?_),?_⟩
    ·refine ⟨rfl,t.zcells,T,?_,Eg _ _ _,⟨by have:=DU.zero w.heap.size t [] [];simpa using this,hE.slf T t hT⟩,OP t []⟩
     rw [EW,FO (Eg (fun _ _=>True) w t)]
    ·exact ⟨by simp [St.BW,AK],fun _=>⟨w.heap.size,false,by simp [G.DA,AK],rfl⟩⟩
   ·exact AO
 ·exact AO
theorem Rp {ok:Nat→Nat→Prop} {u:Ty} {av:AV} {y:u.D} {v:Value} (h:av.as u=some y) (hr:RepA ok g σ w av v):Ns ok g σ w u y (av.tags u) v:=by
 cases av with
 | dat t x gs=>
  obtain ⟨e,he⟩:=CR (h:Dl (t:=t) u x=some y)
  subst e
  have he':x=y:=he
  subst he'
  exact hr
 | nils=>
  cases u with
  | sl e=>
   have hy:=Option.some.inj (h:some ([]:List e.D)=some y)
   subst hy
   have hv:v = .slice none 0 0:=hr
   subst hv
   refine ⟨[.slice none 0 0],⟨none,0,0,rfl,rfl,Nat.le_refl _,Nat.zero_le _,fun i x hi=>by simp at hi⟩,rfl,fun t ht=>?_⟩
   have:t=⟨0,0,0,e.sg⟩:=by simpa [AV.tags] using ht
   subst this
   exact ⟨fun _=>rfl,fun h0=>absurd rfl h0⟩
  | _=>cases h
 | _=>cases h
theorem Zf8 (hE:EnvOk P E) (hI:Inv B ok0 w0 g σ a w) (hd:∀ d,o.dst=some d→d<a.tmps.size) {T:Nat} {x:Operand} (ho:o.op = .box T x):
  CL P B ok0 w0 (Sc E T o σ (opd σ x)) o a w:=by
 unfold Sc
 split
 ·rename_i d hdst
  split
  ·rename_i t hT
   split
   ·rename_i y hy
    obtain ⟨cs,hr,hv,ht⟩:=Rp hy (DE hI x)
    have hrun:(execOp a.eval o).run P w = .ok (.value (.pointer (some ⟨w.heap.size,0,none⟩))) (w.alloc (.cells cs.toArray T)):=by
     unfold execOp;rw [ho]
     simp [Instr.box,newVar,newRow,hv,FO hr]
    unfold cA
    split
    ·rename_i m e l gs
     refine Iy hd fun _=>⟨g.DA d w.heap.size false,_,_,hrun,hI.BW (Nat.lt_of_lt_of_le (hd _ (by assumption)) hI.tm) (Fl w _) (Nat.le_refl _) (by simp) (fun ok g' σ' hx=>?_),?_⟩
     ·obtain ⟨h1,h2,h3⟩:=hr.mono hx.cell
      have hmx:=hE.arMax T m e hT
      refine ⟨rfl,_,T,_,EW w _, .inl rfl,by rw [h1];simp [h2],by omega,fun i x hi=>⟨_,h3 i x hi,fun j u hj=>?_⟩⟩
      rw [List.getElem?_take] at hj
      split at hj
      ·rw [List.getElem?_drop] at hj;simpa using hj
      ·cases hj
     ·exact ⟨by simp [St.BW,AK],fun _=>⟨w.heap.size,false,by simp [G.DA,AK],rfl⟩⟩
    ·refine vV fun hsf=>?_
     ·refine Iy hd fun _=>⟨g.DA d w.heap.size false,_,_,hrun,hI.BW (Nat.lt_of_lt_of_le (hd _ (by assumption)) hI.tm) (Fl w _) (Nat.le_refl _) (by simp) (fun ok g' σ' hx=>?_),?_⟩
      ·exact ⟨rfl,cs,T,EW w _,hr.mono hx.cell,⟨DU.none _ _ _ hsf,fun h=>by rw [hsf] at h;cases h⟩,ht.ext hx⟩
      ·exact ⟨by simp [St.BW,AK],fun _=>⟨w.heap.size,false,by simp [G.DA,AK],rfl⟩⟩
   ·exact AO
  ·exact AO
 ·exact AO
theorem Va (off:Nat):∀ (ys:List Value) (k:Nat) (cells:Array Value),off+k+ys.length≤cells.size→
  ((ys.zipIdx k).foldl (fun cs (p:Value×Nat)=>cs.setIfInBounds (off+p.2) p.1) cells).toList=CS cells.toList (off+k) ys
 | [],k,cells,_=>by simp [CS]
 | y :: ys,k,cells,h=>by
  simp only [List.length_cons] at h
  rw [List.zipIdx_cons,List.foldl_cons,Va off ys (k+1) _ (by simp;omega)]
  unfold CS
  simp only [Array.toList_setIfInBounds,List.length_cons]
  have hlen:cells.toList.length=cells.size:=by simp
  have h1:(cells.toList.set (off+k) y).take (off+(k+1))=cells.toList.take (off+k)++[y]:=by
   rw [show off+(k+1)=(off+k)+1 by omega,List.take_add_one,List.take_set_of_le (by omega),List.getElem?_set_self (by omega)]
   rfl
  rw [h1,List.drop_set_of_lt (by omega),show off+(k+1)+ys.length=off+k+(ys.length+1) by omega]
  simp
theorem ba {place:Nat→Option (Nat×Nat)} {cells:Array Value} {f off:Nat} {v:Value} {ys:List Value} {rest:List (Nat×Value)} (hp:place f=some (off,ys.length)) (hv:v.cells=ys.toArray)
  (hle:off+ys.length≤cells.size):Instr.fill place cells ((f,v) :: rest)=Instr.fill place (CS cells.toList off ys).toArray rest:=by
 have hf:=Va off ys 0 cells (by omega)
 rw [Nat.add_zero] at hf
 conv=>lhs;unfold Instr.fill
 simp only [hp,hv,List.size_toArray]
 rw [if_neg (by simp;omega)]
 congr 1
 rw [← hf]
 simp [Array.zipIdx_toArray]
theorem EJ {cs ys:List Value} {off:Nat} (h:off+ys.length≤cs.length):(CS cs off ys).length=cs.length:=by
 unfold CS
 simp only [List.length_append,List.length_take,List.length_drop]
 omega
theorem lM {r:Nat→Nat} {gs hs:List Tag} {cs ys:List Value} {off:Nat} (h:Fi g r w gs cs) (h':Fi g r w hs ys) (hle:off+ys.length≤cs.length):
  Fi g r w (pL gs off ys.length hs) (CS cs off ys):=by
 intro t ht
 unfold pL at ht
 rcases List.mem_append.1 ht with ht | ht
 ·obtain ⟨h1,h2⟩:=List.mem_filter.1 ht
  obtain ⟨h3,h4⟩:=h t h1
  have hout:¬ (off≤t.off∧t.off<off+ys.length):=by
   intro hin
   simp [hin.1,hin.2] at h2
  have hg:(CS cs off ys)[t.off]? = cs[t.off]?:=by
   unfold CS
   by_cases hlt:t.off<off
   ·rw [List.append_assoc,List.getElem?_append_left (by rw [List.length_take];omega),List.getElem?_take,if_pos hlt]
   ·rw [List.getElem?_append_right (by rw [List.length_append,List.length_take];omega),List.getElem?_drop]
    congr 1
    rw [List.length_append,List.length_take]
    omega
  unfold Xl
  rw [hg]
  exact ⟨h3,h4⟩
 ·obtain ⟨u,hu,he⟩:=List.mem_map.1 ht
  subst he
  obtain ⟨h3,h4⟩:=h' u hu
  have hg:∀ v,ys[u.off]? = some v→(CS cs off ys)[u.off+off]? = some v:=by
   intro v hv
   have:=(List.getElem?_eq_some_iff.1 hv).1
   unfold CS
   rw [List.append_assoc,List.getElem?_append_right (by rw [List.length_take];omega),List.getElem?_append_left (by rw [List.length_take];omega),← hv]
   congr 1
   rw [List.length_take]
   omega
  refine ⟨fun h0=>hg _ (h3 h0),fun h0=>⟨(h4 h0).1,fun he=>?_⟩⟩
  rcases (h4 h0).2 he with hv | ⟨b,n,cap,cur,T,hv,rest⟩
  ·exact .inl (hg _ hv)
  ·exact .inr ⟨b,n,cap,cur,T,hg _ hv,rest⟩
theorem Vb (hI:Inv B ok0 w0 g σ a w) {T:Nat} {t:Ty} {place:Nat→Option (Nat×Nat)} (hpl:∀ i d u,E.pl T i=some (d,u)→place i=some (d,u.sz)):
  ∀ (ps:List (Nat×Operand)) (z z':t.D) (gs gs':List Tag) (cs:List Value),HH E T σ t ps z gs=some (z',gs')→RepD (okG B ok0 g w) w t z cs→Fi g σ.r w gs cs→
   ∃ cs',Instr.fill place cs.toArray (ps.map fun p=>(p.1,a.eval p.2))=some cs'.toArray∧RepD (okG B ok0 g w) w t z' cs'∧Fi g σ.r w gs' cs'
 | [],z,z',gs,gs',cs,h,hr,ht=>by
  simp only [HH,Option.some.injEq,Prod.mk.injEq] at h
  obtain ⟨rfl,rfl⟩:=h
  exact ⟨cs,rfl,hr,ht⟩
 | (f,x) :: ps,z,z',gs,gs',cs,h,hr,ht=>by
  unfold HH at h
  split at h
  ·rename_i d u hfo
   split at h
   ·rename_i y hy
    split at h
    ·rename_i z1 hz1
     obtain ⟨ys,hyr,hyv,hyt⟩:=Rp hy (DE hI x)
     obtain ⟨hs,hle⟩:=Lo hyr hz1 hr
     have hyl:=hyr.len
     have hcl:=hr.len
     obtain ⟨cs',h1,h2,h3⟩:=Vb hI hpl ps z1 z' _ gs' (CS cs d ys) h hs (by rw [← hyl];exact lM ht hyt (by omega))
     refine ⟨cs',?_,h2,h3⟩
     rw [List.map_cons,ba (ys:=ys) (by rw [hyl];exact hpl f d u hfo) (by rw [hyv,FO hyr]) (by simp;omega)]
     exact h1
    ·cases h
   ·cases h
  ·cases h
theorem Zmh (hE:EnvOk P E) (hI:Inv B ok0 w0 g σ a w) (hd:∀ d,o.dst=some d→d<a.tmps.size) {T:Nat} {ps:Array (Nat×Operand)} (ho:o.op = .build T ps)
  {t:Ty} (hT:E.ty T=some t) (hagg:t.isAgg=true) {z:t.D} {gs:List Tag} (h:HH E T σ t ps.toList t.zero (LF t 0)=some (z,gs)):
  CL P B ok0 w0 (put o σ (.dat t z gs)) o a w:=by
 obtain ⟨place,hpl,hrun⟩:=hE.pl T t hT hagg
 obtain ⟨cs',h1,h2,h3⟩:=Vb hI hpl ps.toList t.zero z (LF t 0) gs t.zcells h (Eg _ _ _) (OP t [])
 refine Cw hI hd (v:=valOf t cs') ?_ ⟨cs',h2,rfl,h3⟩
 unfold execOp;rw [ho]
 have:=hrun w (ps.map fun p=>(p.1,a.eval p.2)) cs'.toArray (by simpa using h1)
 simp [this,valOf,hagg]
theorem lN (hI:Inv B ok0 w0 g σ a w) {e:Ty}:∀ (ps:List (Nat×Operand)) (i:Nat) (l:List e.D) (pre:List Value),OC σ e i ps=some l→pre.length=i*e.sz→
  ∃ cs,cs.length=l.length*e.sz∧l.length=ps.length∧FV (okG B ok0 g w) w e l cs∧
   ∀ tail:List Value,(ps.length*e.sz≤tail.length)→Instr.fill (fun i=>some (i*e.sz,e.sz)) (pre++tail).toArray (ps.map fun p=>(p.1,a.eval p.2))=some (pre++cs++tail.drop (ps.length*e.sz)).toArray
 | [],i,l,pre,h,hp=>by
  simp only [OC,Option.some.injEq] at h
  subst h
  exact ⟨[],by simp,rfl,⟨by simp,fun i x hi=>by simp at hi⟩,fun tail _=>by simp [Instr.fill]⟩
 | (j,x) :: ps,i,l,pre,h,hp=>by
  unfold OC at h
  split at h
  ·rename_i hji
   subst hji
   split at h
   ·rename_i y hy
    split at h
    ·rename_i l' hl'
     cases h
     obtain ⟨ys,hyr,hyv,_⟩:=Rp hy (DE hI x)
     have hyl:=hyr.len
     obtain ⟨cs,h1,h2,⟨h3a,h3b⟩,h4⟩:=lN hI ps (j+1) l' (pre++ys) hl' (by rw [List.length_append,hp,hyl,Nat.add_mul];omega)
     refine ⟨ys++cs,by rw [List.length_append,h1,hyl,List.length_cons,Nat.add_mul];omega,by simp [h2],⟨by rw [List.length_append,h1,hyl,List.length_cons,Nat.add_mul];omega,fun i x hi=>?_⟩,fun tail ht=>?_⟩
     ·cases i with
      | zero=>
       simp only [List.getElem?_cons_zero,Option.some.injEq] at hi
       subst hi
       refine ⟨ys,hyr,fun k u hk=>?_⟩
       have:=(List.getElem?_eq_some_iff.1 hk).1
       rw [Nat.zero_mul,Nat.zero_add,List.getElem?_append_left (by omega)]
       exact hk
      | succ i=>
       obtain ⟨zs,hz,hzc⟩:=h3b i x (by simpa using hi)
       refine ⟨zs,hz,fun k u hk=>?_⟩
       rw [List.getElem?_append_right (by rw [Nat.add_mul];omega),show (i+1)*e.sz+k-ys.length=i*e.sz+k by rw [Nat.add_mul];omega]
       exact hzc k u hk
     ·simp only [List.length_cons,Nat.add_mul,Nat.one_mul] at ht
      rw [List.map_cons,ba (off:=j*e.sz) (ys:=ys) (by rw [hyl]) (by rw [hyv,FO hyr]) (by simp [hp,hyl];omega)]
      have hsp:CS (pre++tail) (j*e.sz) ys=pre++ys++tail.drop e.sz:=by
       unfold CS
       rw [← hp,List.take_left,hyl,show pre.length+e.sz=pre.length+e.sz from rfl,List.drop_append,List.drop_eq_nil_of_le (by omega),List.nil_append,Nat.add_sub_cancel_left]
      have:=h4 (tail.drop e.sz) (by rw [List.length_drop];omega)
      rw [show (pre++tail).toArray.toList=pre++tail by simp,hsp,this]
      congr 2
      rw [List.drop_drop,List.length_cons,Nat.add_mul,Nat.one_mul]
      simp [List.append_assoc,Nat.add_comm]
    ·cases h
   ·cases h
  ·cases h
theorem Zf (hI:Inv B ok0 w0 g σ a w) (hb:Below w.heap.size w w') {nb id n cap:Nat} {cur:Array Value} {TT:TypeId} (h1:w.heap.size≤nb) (hh:w'.heap[nb]? = some (.cells cur TT (0,0)))
  {e:Ty} {l:List e.D} {cs:List Value} (hr:FV (okG B ok0 g w) w e l cs) (hl:l.length=n) (hcur:∀ (j:Nat) u,cs[j]? = some u→cur[j]? = some u) (hsz:cur.size=cap*e.sz) (hn:n≤cap) (hm:cap≤maxLen) (hid:id≠0) (hTT:e.sg=0→TT=Lay.byt):
  ∃ g',Inv B ok0 w0 g' (σ.Dw id) a w'∧RepA (okG B ok0 g' w') g' (σ.Dw id) w' (.dat (.sl e) l [⟨0,id,σ.r id+1,e.sg⟩]) (.slice (some ⟨nb,0,none⟩) n cap):=by
 have h2:nb<w'.heap.size:=(Array.getElem?_eq_some_iff.1 hh).1
 have hρ:∀ (i b u:Nat),(if i=id then some (some (nb,n*e.sz)) else none:Option (Option (Nat×Nat)))=some (some (b,u))→i=id∧b=nb∧u=n*e.sz:=by
  intro i b u hi
  split at hi
  ·rename_i hid';cases hi;exact ⟨hid',rfl,rfl⟩
  ·cases hi
 obtain ⟨hI',hx⟩:=hI.lP hb (ρ:=fun i=>if i=id then some (some (nb,n*e.sz)) else none) (σ':=σ.Dw id) (g':=g.IX id (some (nb,n*e.sz)))
  (by
   unfold G.IX
   congr 1
   funext i
   rw [AK]
   by_cases hi:i=id <;> simp [hi])
  (by
   unfold St.Dw
   congr 1
   funext i
   rw [AK]
   by_cases hi:i=id <;> simp [hi])
  (fun i b u hi=>by obtain ⟨_,rfl,_⟩:=hρ i b u hi;exact ⟨h1,h2⟩)
  (fun i j b u u' hi hj=>by rw [(hρ i b u hi).1,(hρ j b u' hj).1])
 refine ⟨_,hI',⟨[.slice (some ⟨nb,0,none⟩) n cap],⟨_,_,_,rfl,hl,hn,hm,fun i x hi=>?_⟩,rfl,fun t ht=>?_⟩⟩
 ·obtain ⟨ys,hy,hyc⟩:=hr.2 i x hi
  refine ⟨_,rfl,rfl,ys,hy.mono hx.cell,fun j u hj=>?_⟩
  have hj':=hyc j u hj
  have hlt:=(List.getElem?_eq_some_iff.1 hj').1
  rw [hr.1,hl] at hlt
  have hBw:B.n≤w.heap.size:=by have:=hI.below.size;have:=hI.hB;omega
  refine ⟨.inr ⟨.inl (by simp only;omega),h2,fun id' he=>?_,fun id' u' he=>?_⟩,?_⟩
  ·have:=(hI.bb id' nb false he).2;omega
  ·simp only [G.IX,AK] at he
   split at he
   ·cases he;simp only [Nat.zero_add];exact hlt
   ·have:=(hI.rb id' nb u' he).2.1;omega
  ·simp only [World.cell?,hh,Nat.zero_add]
   exact hcur _ _ hj'
 ·have ht':t=⟨0,id,σ.r id+1,e.sg⟩:=by simpa using ht
  subst ht'
  refine ⟨fun h0=>absurd h0 hid,fun _=>⟨by simp [St.Dw,AK],fun _=> .inr ⟨nb,n,cap,cur,TT,rfl,by simp [G.IX,AK,Qv],hh,by rw [Qv];exact hsz,hn,hm,hTT⟩⟩⟩
theorem vW (hI:Inv B ok0 w0 g σ a w) (hb:Below w.heap.size w w') {nb n cap:Nat} {cur:Array Value} {TT:TypeId} (h1:w.heap.size≤nb) (hh:w'.heap[nb]? = some (.cells cur TT (0,0)))
  {e:Ty} {l:List e.D} {cs:List Value} (hr:FV (okG B ok0 g w) w e l cs) (hl:l.length=n) (hcur:∀ (j:Nat) u,cs[j]? = some u→cur[j]? = some u) (hn:n≤cap) (hm:cap≤maxLen):
  Inv B ok0 w0 g σ a w'∧RepA (okG B ok0 g w') g σ w' (.dat (.sl e) l []) (.slice (some ⟨nb,0,none⟩) n cap):=by
 have h2:nb<w'.heap.size:=(Array.getElem?_eq_some_iff.1 hh).1
 have hx:=Ext.Gn hI hb
 refine ⟨hI.grown hb,[.slice (some ⟨nb,0,none⟩) n cap],⟨_,_,_,rfl,hl,hn,hm,fun i x hi=>?_⟩,rfl,fun t ht=>by cases ht⟩
 obtain ⟨ys,hy,hyc⟩:=hr.2 i x hi
 refine ⟨_,rfl,rfl,ys,hy.mono hx.cell,fun j u hj=>?_⟩
 have hj':=hyc j u hj
 have hBw:B.n≤w.heap.size:=by have:=hI.below.size;have:=hI.hB;omega
 refine ⟨.inr ⟨.inl (by simp only;omega),h2,fun id' he=>?_,fun id' u' he=>?_⟩,?_⟩
 ·have:=(hI.bb id' nb false he).2;omega
 ·have:=(hI.rb id' nb u' he).2.1;omega
 ·simp only [World.cell?,hh,Nat.zero_add]
  exact hcur _ _ hj'
theorem Qt (d j:Nat):rid d j≠0:=by unfold rid;omega
theorem cu (hE:EnvOk P E) (hI:Inv B ok0 w0 g σ a w) (hd:∀ d,o.dst=some d→d<a.tmps.size) {T n:Nat} {ps:Array (Nat×Operand)} (ho:o.op = .buildSlice T n ps):
  CL P B ok0 w0 (GX E T n ps o σ) o a w:=by
 unfold GX
 split
 ·rename_i d e hdst hT
  obtain ⟨ET,ie,hu,hie,hsz,hz,_⟩:=(hE.ty T _ hT).und
  split
  ·rename_i l hl
   split
   ·rename_i hlen
    obtain ⟨cs,h1,h2,h3,h4⟩:=lN hI ps.toList 0 l [] hl (by simp)
    have hzc:(valOf e e.zcells).cells=e.zcells.toArray:=FO (Eg (fun _ _=>True) w e)
    have hzl:=(Eg (fun _ _=>True) w e).len
    -- the model's row of zeros has the length that is asked
    have hnm':n*e.sz≤16777216→n≤maxLen:=fun hroom=>by have:=e.IE;have:n*1≤n*e.sz:=Nat.mul_le_mul_left n this;unfold maxLen;omega
    have hrun':n*e.sz≤16777216→(execOp a.eval o).run P w = .ok (.value (.slice (some ⟨w.heap.size,0,none⟩) n n)) (w.alloc (.cells cs.toArray ET)):=by
     intro hroom
     unfold execOp;rw [ho]
     have hf:∀ z:Array Value,z.size=n*e.sz→Instr.fill (fun i=>some (i*e.sz,e.sz)) z (ps.toList.map fun p=>(p.1,a.eval p.2))=some cs.toArray:=by
      intro z hzz
      have:=h4 z.toList (by rw [hlen];simp [hzz])
      rw [hlen,List.drop_eq_nil_of_le (by simp [hzz])] at this
      simpa using this
     have hroom':¬ (n*e.sz > 2 ^ 24):=by omega
     simp only [Instr.buildSlice,Sem.run_bind,run_underlying hu,Result.andThen_ok,sizeOf,typeInfo,run_program,hie,Sem.run_pure,hsz,if_neg hroom',zeroValue]
     by_cases h0:n*e.sz=0
     ·simp only [if_pos h0,Sem.run_bind,Sem.run_pure,Result.andThen_ok]
      rw [show (Array.map (fun x=>match x with | (i,x)=>(i,a.eval x)) ps).toList=ps.toList.map fun p=>(p.1,a.eval p.2) by simp]
      rw [hf _ (by simp [h0])]
      simp [newRow]
     ·simp only [if_neg h0,Sem.run_bind,Sem.run_pure,Result.andThen_ok,run_program,hie,hz]
      rw [show (Array.map (fun x=>match x with | (i,x)=>(i,a.eval x)) ps).toList=ps.toList.map fun p=>(p.1,a.eval p.2) by simp]
      rw [hf _ (by simp)]
      simp [newRow]
    cases hlit:E.lit d with
    | true=>
     refine Iy hd fun hc=>?_
     rw [Bool.and_eq_true] at hc
     have hroom:n*e.sz≤16777216:=of_decide_eq_true hc.1
     obtain ⟨hI',hrep⟩:=vW hI (Fl w (.cells cs.toArray ET)) (n:=n) (cap:=n) (cur:=cs.toArray) (TT:=ET) (Nat.le_refl _) (EW w _) h3 (by rw [h2,hlen]) (fun j u hj=>by simpa using hj) (Nat.le_refl _) (hnm' hroom)
     exact ⟨g,_,_,hrun' hroom,hI',hrep⟩
    | false=>
    refine Iy hd fun hc=>?_
    rw [Bool.and_eq_true] at hc
    have hroom:n*e.sz≤16777216:=of_decide_eq_true hc.1
    have hnm:=hnm' hroom
    have hrun:=hrun' hroom
    obtain ⟨g',hI',hrep⟩:=Zf hI (Fl w (.cells cs.toArray ET)) (id:=rid d 0) (n:=n) (cap:=n) (cur:=cs.toArray) (TT:=ET) (Nat.le_refl _) (EW w _) h3 (by rw [h2,hlen]) (fun j u hj=>by simpa using hj)
     (by simp [h1,h2,hlen]) (Nat.le_refl _) hnm (Qt d 0) (hE.sg0 (by assumption) hu)
    exact ⟨g',_,_,hrun,hI',hrep⟩
   ·exact AO
  ·exact AO
 ·exact AO
theorem lO {e:Ty} {n:Nat}:madeCells e.zcells.toArray (n*e.sz)=((List.replicate n e.zcells).flatten).toArray:=by
 have hl:=(Eg (fun _ _=>True) (default:World) e).len
 have hp:=e.IE
 have hz:∀ (n k:Nat),k<n*e.sz→((List.replicate n e.zcells).flatten)[k]? = e.zcells[k % e.sz]?:=by
  intro n
  induction n with
  | zero=>intro k hk;simp at hk
  | succ n ih=>
   intro k hk
   rw [List.replicate_succ,List.flatten_cons]
   by_cases hlt:k<e.sz
   ·rw [List.getElem?_append_left (by omega),Nat.mod_eq_of_lt hlt]
   ·rw [List.getElem?_append_right (by omega),hl,ih (k-e.sz) (by rw [Nat.add_mul] at hk;omega)]
    congr 1
    exact (Nat.mod_eq_sub_mod (by omega)).symm
 apply Array.ext
 ·rw [size_madeCells,List.size_toArray,JP]
 ·intro i h1 h2
  rw [size_madeCells] at h1
  have hmod:i % e.sz<e.sz:=Nat.mod_lt _ hp
  have:=hz n i h1
  rw [List.getElem?_eq_getElem (by rw [JP];exact h1),List.getElem?_eq_getElem (by omega)] at this
  simp only [madeCells,Array.getElem_map,Array.getElem_range,List.size_toArray,hl,List.getElem_toArray]
  rw [Option.some.inj this,getElem!_pos e.zcells.toArray (i % e.sz) (by simp;omega)]
  rfl
theorem gr (hE:EnvOk P E) (hI:Inv B ok0 w0 g σ a w) (hd:∀ d,o.dst=some d→d<a.tmps.size) {T:Nat} {x y:Operand} (ho:o.op = .makeSlice T x y):
  CL P B ok0 w0 (IN E T o σ x y) o a w:=by
 unfold IN
 split
 ·rename_i d e k n g1 j m g2 hdst hT hx hy
  obtain ⟨ET,ie,hu,hie,hsz,hz,_⟩:=(hE.ty T _ hT).und
  obtain ⟨hby,hbp⟩:=hE.by_ T e ET ie hT hu hie
  have hrun:∀ l c:Int,a.eval x = .int k l→a.eval y = .int j c→0≤l→l≤c→c.toNat*E.by_ T≤140737488355328→
    (execOp a.eval o).run P w = .ok (.value (.slice (some ⟨w.heap.size,0,none⟩) l.toNat c.toNat)) (w.alloc (.cells ((List.replicate c.toNat e.zcells).flatten).toArray ET))∧c.toNat≤140737488355328:=by
   intro l c hl hc h0 hlc hroom
   have hcle:c.toNat≤140737488355328:=Nat.le_trans (Nat.le_mul_of_pos_right _ hbp) hroom
   have hbn:(ie.bytes:Int)*c≤281474976710656:=by
    have h1:((c.toNat*E.by_ T:Nat):Int)≤((140737488355328:Nat):Int):=Int.ofNat_le.mpr hroom
    rw [Int.natCast_mul,Int.toNat_of_nonneg (by omega),Int.mul_comm] at h1
    rw [hby]
    omega
   have hr:=run_make (P:=P) w T ET ie (valOf e e.zcells) hu hie hz k j l c h0 hlc hbn (by omega)
   rw [FO (Eg (fun _ _=>True) w e),hsz,lO] at hr
   refine ⟨?_,hcle⟩
   unfold execOp;rw [ho]
   simp only [hl,hc,Sem.run_bind,hr,Result.andThen_ok,Sem.run_pure]
  split
  ·rename_i hsame
   have hmn:a.eval y = .int j n:=by
    have h1:=Fh hI hx
    have h2:=Fh hI hy
    have:a.eval x=a.eval y∨(∃ i i' q,a.eval x = .int i q∧a.eval y = .int i' q):=by
     unfold kL at hsame
     split at hsame
     ·rw [Nat.eq_of_beq_eq_true hsame];exact .inl rfl
     ·have:=of_decide_eq_true hsame;subst this;exact .inr ⟨_,_,_,rfl,rfl⟩
     ·cases hsame
    rcases this with h | ⟨i,i',q,e1,e2⟩
    ·rw [h1,h2] at h;cases h;exact h2
    ·rw [h1] at e1;rw [h2] at e2;cases e1;cases e2;exact h2
   refine Iy hd fun hc=>?_
   rw [Bool.and_eq_true] at hc
   have h0:0≤n:=of_decide_eq_true hc.1
   obtain ⟨hr,hle⟩:=hrun n n (Fh hI hx) hmn h0 (Int.le_refl _) (of_decide_eq_true hc.2)
   refine ⟨g.DA d w.heap.size false,_,_,hr,hI.BW (Nat.lt_of_lt_of_le (hd _ (by assumption)) hI.tm) (Fl w _) (Nat.le_refl _) (by simp) (fun ok g' σ' hx=>?_),?_⟩
   ·refine ⟨rfl,_,ET,_,EW w _, .inl rfl,?_,?_,fun i z hi=>?_⟩
    ·rw [List.length_replicate,List.size_toArray,JP];omega
    ·rw [List.length_replicate];unfold maxLen;omega
    ·obtain ⟨ys,hy',hcc⟩:=VS (ok:=ok) (w:=w.alloc (.cells ((List.replicate n.toNat e.zcells).flatten).toArray ET)) n.toNat i z hi
     exact ⟨ys,hy',fun j u hj=>by simpa using hcc j u hj⟩
   ·exact ⟨by simp [St.BW,AK],fun _=>⟨e,List.replicate n.toNat e.zero,false,by simp [St.BW,AK], .inr ⟨w.heap.size,false,n.toNat,_,ET,_,by simp [G.DA,AK],EW w _,by rw [List.size_toArray,JP],by rw [List.length_replicate];omega,by unfold maxLen;omega,by rw [List.length_replicate]⟩⟩⟩
  ·split
   ·rename_i hn0
    subst hn0
    cases hbx:E.bx d with
    | true=>
     dsimp only [cond_true]
     refine Iy hd fun hc=>?_
     rw [Bool.and_eq_true] at hc
     have h0:0≤m:=of_decide_eq_true hc.1
     obtain ⟨hr,hle⟩:=hrun 0 m (Fh hI hx) (Fh hI hy) (Int.le_refl _) h0 (of_decide_eq_true hc.2)
     refine ⟨g.DA d w.heap.size false,_,_,hr,hI.BW (Nat.lt_of_lt_of_le (hd _ (by assumption)) hI.tm) (Fl w _) (Nat.le_refl _) (by simp) (fun ok g' σ' hx=>?_),?_⟩
     ·exact ⟨rfl,_,ET,_,EW w _, .inl rfl,by simp,by simp,fun i z hi=>by simp at hi⟩
     ·exact ⟨by simp [St.BW,AK],fun _=>⟨e,[],false,by simp [St.BW,AK], .inr ⟨w.heap.size,false,m.toNat,_,ET,_,by simp [G.DA,AK],EW w _,by rw [List.size_toArray,JP],Nat.zero_le _,by unfold maxLen;omega,rfl⟩⟩⟩
    | false=>
    dsimp only [cond_false]
    refine Iy hd fun hc=>?_
    rw [Bool.and_eq_true] at hc
    have h0:0≤m:=of_decide_eq_true hc.1
    obtain ⟨hr,hle⟩:=hrun 0 m (Fh hI hx) (Fh hI hy) (Int.le_refl _) h0 (of_decide_eq_true hc.2)
    obtain ⟨g',hI',hrep⟩:=Zf hI (Fl w (.cells ((List.replicate m.toNat e.zcells).flatten).toArray ET)) (id:=rid d 0) (n:=0) (cap:=m.toNat) (TT:=ET) (Nat.le_refl _) (EW w _) (e:=e) (l:=[]) (cs:=[])
     ⟨by simp,fun i x hi=>by simp at hi⟩ rfl (fun j u hj=>by simp at hj) (by rw [List.size_toArray,JP]) (Nat.zero_le _) (by unfold maxLen;omega) (Qt d 0) (hE.sg0 (by assumption) hu)
    exact ⟨g',_,_,hr,hI',hrep⟩
   ·exact AO
 ·exact AO
theorem Iz (P:Program) (b o:Nat) (t:TypeId) (y:Nat×Nat):∀ (vs:List Value) (i:Nat) (cur:Array Value) (w:World),w.heap[b]? = some (.cells cur t y)→(y=(0,0)∨cur.size≤y.1)→
  o+i+vs.length≤cur.size→(∀ v∈vs,v.oneCell'=true)→(storeCells ⟨b,o,none⟩ vs i).run P w = .ok () (w.setRow b (CS cur.toList (o+i) vs).toArray)
 | [],i,cur,w,hg,_,_,_=>by
  unfold CS
  simp only [storeCells,List.append_nil,List.length_nil,Nat.add_zero,List.take_append_drop,Array.toArray_toList]
  rw [setRow_self w b cur t y hg]
  rfl
 | v :: vs,i,cur,w,hg,hy,hl,h1=>by
  have hl':o+i+(vs.length+1)≤cur.size:=by simpa using hl
  have hi:o+i<cur.size:=by omega
  have hfro:w.frozen? ⟨b,o+i,none⟩=false:=by
   rcases hy with rfl | hy
   ·simp [World.frozen?,hg]
   ·obtain ⟨y1,y2⟩:=y
    have hy:cur.size≤y1:=hy
    have:¬ y1≤o+i:=by omega
    simp [World.frozen?,hg,this]
  have hcell:w.cell? ⟨b,o+i,none⟩=some cur[o+i]:=by simp [World.cell?,hg,hi]
  have hst:(store ((⟨b,o,none⟩:Addr).add i) v).run P w = .ok () (w.setRow b (cur.setIfInBounds (o+i) v)):=by
   rw [Fv ⟨b,o,none⟩ rfl,run_store P w _ v _ (h1 v (by simp)),hcell]
   simp [hfro,setCell_eq_setRow w b (o+i) cur t y v hg]
  have ih:=Iz P b o t y vs (i+1) (cur.setIfInBounds (o+i) v) (w.setRow b (cur.setIfInBounds (o+i) v)) (setRow_heap w b cur _ t _ hg) (by simpa using hy) (by simp;omega) fun x hx=>h1 x (by simp [hx])
  have e:=list_seg_step cur.toList (o+i) v vs (by simp;omega)
  simp only [storeCells,Sem.run_bind,hst,Result.andThen_ok,ih,setRow_setRow]
  congr 3
  unfold CS
  simpa [Array.toList_setIfInBounds,Nat.add_assoc] using e
theorem OQ {T:Nat} {u:Ty} (hfit:Fit P T u) {ok:Nat→Nat→Prop} {y:u.D} {ys:List Value} (hy:RepD ok w u y ys) {b off:Nat} {cur:Array Value} {TT:TypeId}
  {ym:Nat×Nat} (hh:w.heap[b]? = some (.cells cur TT ym)) (hun:ym=(0,0)∨cur.size≤ym.1) (hle:off+ys.length≤cur.size):
  (storeVar T ⟨b,off,none⟩ (valOf u ys)).run P w = .ok () (w.setRow b (CS cur.toList off ys).toArray):=by
 have h:=Iz P b off TT ym ys 0 cur w hh hun (by omega) hy.one
 simp only [Nat.add_zero] at h
 unfold storeVar
 have hsz:¬ ys.length≠u.sz:=by rw [hy.len];simp
 simp only [FO hy,Sem.run_bind,hfit.size,Result.andThen_ok,List.size_toArray,if_neg hsz,h]
theorem Znh (hE:EnvOk P E) (hI:Inv B ok0 w0 g σ a w) (hd:∀ d,o.dst=some d→d<a.tmps.size) {T:Nat} {x y:Operand} (ho:o.op = .store T x y):
  CL P B ok0 w0 (Nf E T o σ (opd σ x) (opd σ y)) o a w:=by
 have rx:=DE hI x
 have hrun:∀ b o' w',a.eval x = .pointer (some ⟨b,o',none⟩)→(storeVar T ⟨b,o',none⟩ (a.eval y)).run P w = .ok () w'→(execOp a.eval o).run P w = .ok .skip w':=by
  intro b o' w' hx hv
  unfold execOp;rw [ho]
  simp only [hx,Instr.storeAt,Instr.sureAddr,Sem.run_bind,Sem.run_pure,Result.andThen_ok,hv]
 unfold Nf
 split
 ·rename_i id ver off hx
  rw [hx] at rx
  split
  ·rename_i hv
   obtain ⟨b,f,hb,hp⟩:=rx.2 hv
   split
   ·rename_i t z gs hc
    obtain ⟨hf',cs,TT,hh,hr,hself,ht⟩:=hI.Hn hb hc
    subst hf'
    split
    ·rename_i u hu
     split
     ·rename_i q hq
      split
      ·rename_i z' hz'
       obtain ⟨ys,hyr,hyv,hyt⟩:=Rp hq (DE hI y)
       obtain ⟨hs,hle⟩:=Lo hyr hz' hr
       have hyl:=hyr.len
       have hcl:=hr.len
       have hst:=OQ (hE.ty T u hu) hyr (b:=b) (off:=off) hh (.inl rfl) (by simp;omega)
       rw [← hyv] at hst
       refine vV fun hsf=>?_
       ·refine Ze hd ⟨g,_,hrun b off _ hp hst,hI.Rr hc hb (fun e l fz he=>by cases he) (fun cur T _ hh'=>by rw [hh] at hh';cases hh';simp only [List.size_toArray];exact EJ (by omega)) (fun ok σ' hx'=>?_)⟩
        refine ⟨rfl,CS cs off ys,TT,?_,hs.mono hx'.cell,?_,?_⟩
        ·rw [setRow_heap w b _ _ _ _ hh]
        ·have:=DU.upd hsf 0 hz' hyl (by omega) hself.1
         rw [Nat.zero_add] at this
         exact ⟨this,hself.2⟩
        ·have:=lM (off:=off) (ht.ext hx') (hyt.ext hx') (by omega)
         rw [hyl] at this
         exact this
      ·exact AO
     ·exact AO
    ·exact AO
   ·rename_i e l hc
    obtain ⟨hf',cur,TT,ym,hh,hmk,hsz,hmx,hrow⟩:=hI.Hn hb hc
    have hf0:f=false:=hf'
    subst hf0
    split
    ·rename_i m e' hT
     split
     ·rename_i h0
      subst h0
      split
      ·rename_i q hq
       split
       ·rename_i q' hq'
        obtain ⟨ee,hx'⟩:=CR hq'
        have ee2:e'=e:=by cases ee;rfl
        subst ee2
        have hx'':q=q':=hx'
        subst hx''
        obtain ⟨ys,hyr,hyv,_⟩:=Rp hq (DE hI y)
        have hyl:=hyr.len
        have hyr':=hyr
        obtain ⟨r1,r2,r3⟩:=hyr
        intro next Q hck hn
        have hlm:List.length (α:=e'.D) l=m+1:=of_decide_eq_true hck
        rw [hlm] at hsz
        have hfit:0+ys.length≤cur.size:=by rw [r2];omega
        have hst:=OQ (hE.ty T _ hT) hyr' (b:=b) (off:=0) hh hmk.un hfit
        rw [← hyv] at hst
        have hstep:CL P B ok0 w0 (.go true ((σ.Cn id (.arr e' q false)).BO o.dst .none)) o a w:=Ze hd ⟨g,_,hrun b 0 _ hp hst,hI.Rr hc hb (fun e'' l'' fz he=>by cases he;exact ⟨q,false,rfl,by omega⟩)
          (fun cur' T' _ hh'=>by rw [hh] at hh';cases hh';rw [List.size_toArray,EJ (by rw [Array.length_toList];exact hfit),Array.length_toList]) (fun ok σ' hx'=>by
         refine ⟨rfl,_,TT,ym,setRow_heap w b _ _ _ _ hh,hmk.eq (by rw [List.size_toArray,EJ (by rw [Array.length_toList];exact hfit),Array.length_toList]),by rw [r1,List.size_toArray,EJ (by rw [Array.length_toList];exact hfit),Array.length_toList];omega,by omega,fun i x hi=>⟨_,(r3 i x hi).mono hx'.cell,fun j u hj=>?_⟩⟩
         rw [List.getElem?_take] at hj
         split at hj
         ·rw [List.getElem?_drop] at hj
          have hlt:=(List.getElem?_eq_some_iff.1 hj).1
          rw [List.getElem?_toArray]
          unfold CS
          rw [List.take_zero,List.nil_append,List.getElem?_append_left hlt]
          exact hj
         ·cases hj)⟩
        exact hstep next Q rfl hn
       ·exact AO
      ·exact AO
     ·exact AO
    ·exact AO
   ·exact AO
  ·exact AO
 ·rename_i id ver i off hx
  rw [hx] at rx
  split
  ·rename_i hv
   split
   ·rename_i e l hc
    obtain ⟨b,f,e2,l2,fz2,hb,hc2,hi,hp⟩:=rx.2 hv
    rw [hc] at hc2;cases hc2
    obtain ⟨hf',cur,TT,ym,hh,hmk,hsz,hmx,hrow⟩:=hI.Hn hb hc
    have hf0:f=false:=hf'
    subst hf0
    split
    ·rename_i u hu
     split
     ·rename_i q hq
      split
      ·rename_i z' hz'
       obtain ⟨ys,hyr,hyv,hyt⟩:=Rp hq (DE hI y)
       have hli:l[i]? = some (l.getD i e.zero):=by rw [List.getD_eq_getElem?_getD,List.getElem?_eq_getElem hi];rfl
       obtain ⟨zs,hzr,hzc⟩:=hrow i _ hli
       obtain ⟨hs,hle⟩:=Lo hyr hz' hzr
       have hyl:=hyr.len
       have hzl:=hzr.len
       have hile:i*e.sz+e.sz≤cur.size:=by rw [← Nat.succ_mul];exact Nat.le_trans (Nat.mul_le_mul_right _ hi) hsz
       have hst:=OQ (hE.ty T u hu) hyr (b:=b) (off:=i*e.sz+off) hh hmk.un (by omega)
       rw [← hyv] at hst
       refine Ze hd ⟨g,_,hrun b _ _ hp hst,hI.Rr hc hb (fun e' l' fz he=>by cases he;exact ⟨_,false,rfl,by simp⟩) (fun cur' T' _ hh'=>by rw [hh] at hh';cases hh';rw [List.size_toArray,EJ (by simp;omega),Array.length_toList]) (fun ok σ' hx'=>?_)⟩
       refine ⟨rfl,_,TT,ym,setRow_heap w b _ _ _ _ hh,hmk.eq (by rw [List.size_toArray,EJ (by simp;omega),Array.length_toList]),?_,by simpa using hmx,fun k x hk=>?_⟩
       ·rw [List.size_toArray,EJ (by simp;omega),List.length_set];simpa using hsz
       ·by_cases hki:k=i
        ·subst hki
         rw [List.getElem?_set_self hi] at hk
         cases hk
         refine ⟨_,hs.mono hx'.cell,fun j v hj=>?_⟩
         -- inside the element that was written
         have hjl:j<e.sz:=by have:=(List.getElem?_eq_some_iff.1 hj).1;rw [EJ (by omega),hzl] at this;exact this
         rw [List.getElem?_toArray]
         unfold CS at hj ⊢
         by_cases h1:j<off
         ·rw [List.append_assoc,List.getElem?_append_left (by rw [List.length_take];simp;omega),List.getElem?_take,if_pos (by omega)]
          rw [List.append_assoc,List.getElem?_append_left (by rw [List.length_take];omega),List.getElem?_take,if_pos h1] at hj
          have:=hzc _ _ hj
          simpa using this
         ·by_cases h2:j<off+ys.length
          ·rw [List.append_assoc,List.getElem?_append_right (by rw [List.length_take];simp;omega),List.getElem?_append_left (by rw [List.length_take];simp;omega)]
           rw [List.append_assoc,List.getElem?_append_right (by rw [List.length_take];omega),List.getElem?_append_left (by rw [List.length_take];omega)] at hj
           rw [← hj]
           congr 1
           rw [List.length_take,List.length_take]
           simp
           omega
          ·rw [List.getElem?_append_right (by rw [List.length_append,List.length_take];simp;omega),List.getElem?_drop]
           rw [List.getElem?_append_right (by rw [List.length_append,List.length_take];omega),List.getElem?_drop] at hj
           have:=hzc _ _ hj
           rw [show off+ys.length+(j-(List.take off zs++ys).length)=j by rw [List.length_append,List.length_take];omega] at this
           rw [show k*e.sz+off+ys.length+(k*e.sz+j-(List.take (k*e.sz+off) cur.toList++ys).length)=k*e.sz+j by rw [List.length_append,List.length_take];simp;omega]
           simpa using this
        ·rw [List.getElem?_set_ne (Ne.symm hki)] at hk
         obtain ⟨ks,hkr,hkc⟩:=hrow k x hk
         refine ⟨ks,hkr.mono hx'.cell,fun j v hj=>?_⟩
         have hjl:j<e.sz:=by have:=(List.getElem?_eq_some_iff.1 hj).1;rw [hkr.len] at this;exact this
         have:=hkc j v hj
         rw [List.getElem?_toArray]
         unfold CS
         have hcase:k*e.sz+j<i*e.sz+off∨i*e.sz+off+ys.length≤k*e.sz+j:=by
          rcases Nat.lt_or_gt_of_ne hki with hlt | hgt
          ·left
           have:(k+1)*e.sz≤i*e.sz:=Nat.mul_le_mul_right _ hlt
           rw [Nat.add_mul] at this
           omega
          ·right
           have:(i+1)*e.sz≤k*e.sz:=Nat.mul_le_mul_right _ hgt
           rw [Nat.add_mul] at this
           omega
         rcases hcase with hlt | hge
         ·rw [List.append_assoc,List.getElem?_append_left (by rw [List.length_take];simp;omega),List.getElem?_take,if_pos hlt]
          simpa using this
         ·rw [List.getElem?_append_right (by rw [List.length_append,List.length_take];simp;omega),List.getElem?_drop]
          rw [show i*e.sz+off+ys.length+(k*e.sz+j-(List.take (i*e.sz+off) cur.toList++ys).length)=k*e.sz+j by rw [List.length_append,List.length_take];simp;omega]
          simpa using this
      ·exact AO
     ·exact AO
    ·exact AO
   ·exact AO
  ·exact AO
 ·exact AO
end
end Go.AM
end
