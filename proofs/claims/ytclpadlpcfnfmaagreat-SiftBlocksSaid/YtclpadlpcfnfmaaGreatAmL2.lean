import Derived.Test.YtclpadlpcfnfmaaGreatAmL1
import Derived.WideLaws
import Derived.Laws.BytesString
section
/- Each operation does what the abstract machine says: those that only compute. -/
namespace Go.AM
open Go.RowKit (Below)
set_option linter.unusedSectionVars false
variable [Lay]
def Und (P:Program) (T:TypeId):Ty→Prop
 | .int k=>P.underlying T=some (.int k)
 | .bool=>P.underlying T=some .bool
 | .str=>P.underlying T=some .string
 | .sl e=>∃ ET ie,P.underlying T=some (.slice ET)∧P.info? ET=some ie∧ie.size=e.sz∧ie.zero=some (valOf e e.zcells)∧
   (∀ k,e = .int k→P.underlying ET=some (.int k))∧(e = .int .u8→ie.bytes=1)
 | .lk true=>P.underlying T=some (.interface (P.methodsAt T))
 | .lk false=>∃ U,P.underlying T=some (.pointer U)
 | .wrap _ | .pair _ _ | .arr _ _=>∃ d,P.underlying T=some d∧(match d with | .struct _ | .array _ _=>true | _=>false)=true
structure Fit (P:Program) (T:TypeId) (t:Ty):Prop where
 info:∃ i,P.info? T=some i∧i.size=t.sz∧i.zero=some (valOf t t.zcells)
 und:Und P T t
section
variable {P : Program} {B : Bd} {ok0 : Nat → Nat → Prop} {w0 w : World} {g : G} {σ : St} {a : Act} {o : Oper}
def Dp (P:Program) (B:Bd) (ok0:Nat→Nat→Prop) (w0:World) (s:Step) (o:Oper) (a:Act) (w:World):Prop:=
 ∀ (next:Act→World→Prop) (Q:Exit→Act→World→Prop),
  match s with
  | .no=>True
  | .go c σ'=>c=true→(∀ g' a' w',Inv B ok0 w0 g' σ' a' w'→a'.tmps.size=a.tmps.size→next a' w')→o.wp P a w next Q
  | .call _ m f=>∀ x,m=some x→(∀ g' a' w',Inv B ok0 w0 g' (f x) a' w'→a'.tmps.size=a.tmps.size→next a' w')→o.wp P a w next Q
theorem ND (a:Act) (d:Option Nat) (v:Value):(a.put d v).tmps.size=a.tmps.size:=by cases d <;> simp [Act.put]
theorem IF (hI:Inv B ok0 w0 g σ a w) (hd:∀ d,o.dst=some d→d<a.tmps.size) {c:Bool} {av:AV}
  (h:c=true→∃ v,(execOp a.eval o).run P w = .ok (.value v) w∧RepA (okG B ok0 g w) g σ w av v):Dp P B ok0 w0 (EO o c σ av) o a w:=by
 intro next Q hc hn
 obtain ⟨v,hr,hv⟩:=h hc
 unfold Oper.wp
 rw [hr]
 exact hn g _ _ (hI.put hv hd) (ND _ _ _)
theorem CY (hI:Inv B ok0 w0 g σ a w) (hd:∀ d,o.dst=some d→d<a.tmps.size) {av:AV} {v:Value}
  (hr:(execOp a.eval o).run P w = .ok (.value v) w) (hv:RepA (okG B ok0 g w) g σ w av v):Dp P B ok0 w0 (put o σ av) o a w:=
 IF hI hd fun _=>⟨v,hr,hv⟩
theorem Bp:Dp P B ok0 w0 .no o a w:=fun _ _=>trivial
theorem Qf {t:Ty} {x:t.D} {ok:Nat→Nat→Prop} {cs:List Value} (h:RepD ok w t x cs):RepA ok g σ w (.dat t x []) (valOf t cs):=
 ⟨cs,h,rfl,fun _ ht=>by cases ht⟩
theorem Hw {ok:Nat→Nat→Prop} (k:IntKind) (n:Int):RepA ok g σ w (.dat (.int k) n []) (.int k n):=Qf (t:= .int k) (cs:=[.int k n]) rfl
theorem Je {ok:Nat→Nat→Prop} (b:Bool):RepA ok g σ w (.dat .bool b []) (.bool b):=Qf (t:= .bool) (cs:=[.bool b]) rfl
theorem Vw {ok:Nat→Nat→Prop} (s:ByteArray):RepA ok g σ w (.dat .str s []) (.string s):=Qf (t:= .str) (cs:=[.string s]) rfl
theorem of_int {ok:Nat→Nat→Prop} {k:IntKind} {n:Int} {gs:List Tag} {v:Value} (h:RepA ok g σ w (.dat (.int k) n gs) v):v = .int k n:=by
 obtain ⟨cs,h1,h2,_⟩:=h;simp only [RepD] at h1;subst h1;exact h2
theorem of_bool {ok:Nat→Nat→Prop} {b:Bool} {gs:List Tag} {v:Value} (h:RepA ok g σ w (.dat .bool b gs) v):v = .bool b:=by
 obtain ⟨cs,h1,h2,_⟩:=h;simp only [RepD] at h1;subst h1;exact h2
theorem zQ {ok:Nat→Nat→Prop} {s:ByteArray} {gs:List Tag} {v:Value} (h:RepA ok g σ w (.dat .str s gs) v):v = .string s:=by
 obtain ⟨cs,h1,h2,_⟩:=h;simp only [RepD] at h1;subst h1;exact h2
theorem bC {ok:Nat→Nat→Prop} {e:Ty} {l:List e.D} {gs:List Tag} {v:Value} (h:RepA ok g σ w (.dat (.sl e) l gs) v):
  ∃ p n cap,v = .slice p n cap∧RepD ok w (.sl e) l [v]∧l.length=n∧n≤cap∧cap≤maxLen∧Hg g σ.r w gs [v]:=by
 obtain ⟨cs,h1,h2,h3⟩:=h
 have hh:=h1
 obtain ⟨p,n,cap,rfl,hl,hn,hm,_⟩:=h1
 have hv:v = .slice p n cap:=h2
 subst hv
 exact ⟨p,n,cap,rfl,hh,hl,hn,hm,h3⟩
theorem Ec (hI:Inv B ok0 w0 g σ a w) (x:Operand):RepA (okG B ok0 g w) g σ w (A8 σ x) (a.eval x):=by
 cases x with
 | tmp t=>exact hI.slots t
 | func f=>exact ⟨[],rfl,trivial⟩
 | global n=>trivial
 | const v=>
  unfold A8
  split
  ·rename_i h;cases h
  ·rename_i k n h;cases h;exact Hw k n
  ·rename_i b h;cases h;exact Je b
  ·rename_i s h;cases h;exact Vw s
  ·rename_i h;cases h;rfl
  ·rename_i h;cases h;exact Qf (t:= .lk true) (x:=true) (cs:=[.nilIface]) ⟨_,rfl, .inl ⟨rfl,rfl⟩⟩
  ·rename_i h;cases h
  ·trivial
theorem Ytt {E:Env} {ok:Nat→Nat→Prop} {T:Nat} {av:AV} {v:Value} (h:RepA ok g σ w av v):RepA ok g σ w (coe E T av) v:=by
 unfold coe
 split
 ·split
  ·rename_i e _
   have hv:v = .slice none 0 0:=h
   subst hv
   refine ⟨[.slice none 0 0],⟨none,0,0,rfl,rfl,Ah _,Nat.zero_le _,fun i x hi=>by simp at hi⟩,rfl,fun t ht=>?_⟩
   have:t=⟨0,0,0,e.sg⟩:=by simpa using ht
   subst this
   exact ⟨fun _=>rfl,fun h0=>absurd rfl h0⟩
  ·trivial
 ·exact h
theorem Yon {E:Env} (hI:Inv B ok0 w0 g σ a w) (hd:∀ d,o.dst=some d→d<a.tmps.size) {x:Operand} (ho:o.op = .move x∨o.op = .assign x):
  Dp P B ok0 w0 (put o σ (coe E o.type (A8 σ x))) o a w:=by
 refine CY hI hd (v:=a.eval x) ?_ (Ytt (Ec hI x))
 rcases ho with ho | ho <;> · unfold execOp;rw [ho];rfl
theorem JA (hI:Inv B ok0 w0 g σ a w) {x:Operand} {k:IntKind} {n:Int} {gs:List Tag} (h:A8 σ x = .dat (.int k) n gs):a.eval x = .int k n:=
 of_int (by have:=Ec hI x;rw [h] at this;exact this)
theorem eT (hI:Inv B ok0 w0 g σ a w) {x:Operand} {b:Bool} {gs:List Tag} (h:A8 σ x = .dat .bool b gs):a.eval x = .bool b:=
 of_bool (by have:=Ec hI x;rw [h] at this;exact this)
theorem Ru (hI:Inv B ok0 w0 g σ a w) {x:Operand} {s:ByteArray} {gs:List Tag} (h:A8 σ x = .dat .str s gs):a.eval x = .string s:=
 zQ (by have:=Ec hI x;rw [h] at this;exact this)
theorem Zxu (hI:Inv B ok0 w0 g σ a w) (hd:∀ d,o.dst=some d→d<a.tmps.size) {op:BinOp} {T U:Nat} {x y:Operand} (ho:o.op = .binOp op T x y U)
  {k j:IntKind} {m n:Int} {g1 g2:List Tag} (hx:A8 σ x = .dat (.int k) m g1) (hy:A8 σ y = .dat (.int j) n g2):Dp P B ok0 w0 (NL op o σ k j m n) o a w:=by
 have ex:=JA hI hx
 have ey:=JA hI hy
 have BA:∀ v,(binOp op T (.int k m) (.int j n)).run P w = .ok v w→(execOp a.eval o).run P w = .ok (.value v) w:=by
  intro v hv
  unfold execOp
  rw [ho]
  simp only [ex,ey]
  have hg:eqGuard op T x y (.int k m) (.int j n)=pure ():=by unfold eqGuard;cases op <;> rfl
  rw [hg]
  simp only [Sem.run_bind,Sem.run_pure,Result.andThen_ok,hv]
 have Cb:∀ c:Int,By n 0=true→¬ n=0:=fun _ h=>by simpa [By] using h
 have FP:Bq 0 n=true→¬ n<0:=fun h=>by
  have h1:0≤n:=Ak h
  omega
 unfold NL
 split
 ·exact IF hI hd fun h=>⟨_,BA _ (by simp only [binOp,Op.shift,if_neg (FP h)];rfl),Hw _ _⟩
 ·exact IF hI hd fun h=>⟨_,BA _ (by simp only [binOp,Op.shift,if_neg (FP h)];rfl),Hw _ _⟩
 ·split
  ·rename_i hkj
   subst hkj
   split
   ·exact CY hI hd (BA (.int k (AQ k m n)) (by simp [binOp,Op.intArith,AQ])) (Hw _ _)
   ·exact CY hI hd (BA (.int k (Be k m n)) (by simp [binOp,Op.intArith,Be])) (Hw _ _)
   ·exact CY hI hd (BA (.int k (Cj k m n)) (by simp [binOp,Op.intArith,Cj])) (Hw _ _)
   ·exact IF hI hd fun h=>⟨.int k (FE k m n),BA _ (by simp [binOp,Op.intDiv,FE,Cb 0 h]),Hw _ _⟩
   ·exact IF hI hd fun h=>⟨.int k (Po m n),BA _ (by simp [binOp,Op.intDiv,Po,Cb 0 h]),Hw _ _⟩
   ·exact CY hI hd (BA (.int k (BL k m n)) (by simp [binOp,Op.intBits,BL])) (Hw _ _)
   ·exact CY hI hd (BA (.int k (EI k m n)) (by simp [binOp,Op.intBits,EI])) (Hw _ _)
   ·exact CY hI hd (BA (.int k (Fq k m n)) (by simp [binOp,Op.intBits,Fq])) (Hw _ _)
   ·exact CY hI hd (BA (.int k (NZ k m n)) (by simp [binOp,Op.intBits,NZ])) (Hw _ _)
   ·exact CY hI hd (BA (.bool (AR m n)) (by simp [binOp,Op.intCmp,AR])) (Je _)
   ·exact CY hI hd (BA (.bool (By m n)) (by simp [binOp,Op.intCmp,By])) (Je _)
   ·exact CY hI hd (BA (.bool (AS m n)) (by simp [binOp,Op.intCmp,AS])) (Je _)
   ·exact CY hI hd (BA (.bool (Bq m n)) (by simp [binOp,Op.intCmp,Bq])) (Je _)
   ·exact CY hI hd (BA (.bool (AS n m)) (by simp [binOp,Op.intCmp,AS])) (Je _)
   ·exact CY hI hd (BA (.bool (Bq n m)) (by simp [binOp,Op.intCmp,Bq])) (Je _)
   ·exact Bp
  ·exact Bp
theorem Zyu (hI:Inv B ok0 w0 g σ a w) (hd:∀ d,o.dst=some d→d<a.tmps.size) {op:BinOp} {T U:Nat} {x y:Operand} (ho:o.op = .binOp op T x y U)
  {m n:ByteArray} {g1 g2:List Tag} (hx:A8 σ x = .dat .str m g1) (hy:A8 σ y = .dat .str n g2):Dp P B ok0 w0 (NM op o σ m n) o a w:=by
 have ex:=Ru hI hx
 have ey:=Ru hI hy
 have BA:∀ v,(Op.stringOp op m n).run P w = .ok v w→(execOp a.eval o).run P w = .ok (.value v) w:=by
  intro v hv
  unfold execOp
  rw [ho]
  simp only [ex,ey]
  have hg:eqGuard op T x y (.string m) (.string n)=pure ():=by unfold eqGuard;cases op <;> rfl
  have hb:binOp op T (.string m) (.string n)=Op.stringOp op m n:=by cases op <;> rfl
  rw [hg,hb]
  simp only [Sem.run_bind,Sem.run_pure,Result.andThen_ok,hv]
 unfold NM
 split
 ·refine IF hI hd fun h=>⟨.string (Dr m n),BA _ ?_,Vw _⟩
  have h0:m.size+n.size≤9223372036854775807:=Ak h
  have h':(m.size:Int)+n.size≤9223372036854775807:=by omega
  have:¬ (((m.size+n.size:Nat):Int) > IntKind.i64.max):=by
   have:IntKind.i64.max=9223372036854775807:=rfl
   omega
  simp only [Op.stringOp,if_neg this,Dr]
  rfl
 ·exact CY hI hd (BA (.bool (Cn m n)) rfl) (Je _)
 ·exact CY hI hd (BA (.bool (!Cn m n)) rfl) (Je _)
 ·exact CY hI hd (BA (.bool (IY m n)) rfl) (Je _)
 ·exact CY hI hd (BA (.bool (IY m n || Cn m n)) rfl) (Je _)
 ·exact CY hI hd (BA (.bool (!(IY m n || Cn m n))) rfl) (Je _)
 ·exact CY hI hd (BA (.bool (!IY m n)) rfl) (Je _)
 ·exact Bp
theorem Yln (hI:Inv B ok0 w0 g σ a w) (hd:∀ d,o.dst=some d→d<a.tmps.size) {op:UnOp} {T:Nat} {x:Operand} (ho:o.op = .unOp op T x):
  Dp P B ok0 w0 (Qy op o σ (A8 σ x)) o a w:=by
 have BA:∀ v,(Op.unary op (a.eval x)).run P w = .ok v w→(execOp a.eval o).run P w = .ok (.value v) w:=by
  intro v hv
  unfold execOp
  rw [ho]
  simp only [Sem.run_bind,Sem.run_pure,Result.andThen_ok,hv]
 unfold Qy
 split
 ·rename_i hx;exact CY hI hd (BA _ (by rw [JA hI hx];rfl)) (Hw _ _)
 ·rename_i hx;exact CY hI hd (BA _ (by rw [JA hI hx];rfl)) (Hw _ _)
 ·rename_i hx;exact CY hI hd (BA _ (by rw [eT hI hx];rfl)) (Je _)
 ·exact Bp
theorem Fit.size {T:TypeId} {t:Ty} (h:Fit P T t):(sizeOf T).run P w = .ok t.sz w:=by
 obtain ⟨i,hi,hs,_⟩:=h.info
 simp [sizeOf,typeInfo,hi,hs]
theorem Fit.agg {T:TypeId} {t:Ty} (h:Fit P T t):(isAgg T).run P w = .ok t.isAgg w:=by
 have hu:=h.und
 cases t with
 | int k=>simp only [Und] at hu;simp [isAgg,run_underlying hu,Ty.isAgg]
 | bool=>simp only [Und] at hu;simp [isAgg,run_underlying hu,Ty.isAgg]
 | str=>simp only [Und] at hu;simp [isAgg,run_underlying hu,Ty.isAgg]
 | sl e=>obtain ⟨ET,ie,hu,_⟩:=hu;simp [isAgg,run_underlying hu,Ty.isAgg]
 | wrap a=>obtain ⟨d,hu,hd⟩:=hu;cases d <;> simp_all [isAgg,run_underlying hu,Ty.isAgg]
 | pair a b=>obtain ⟨d,hu,hd⟩:=hu;cases d <;> simp_all [isAgg,run_underlying hu,Ty.isAgg]
 | arr m e=>obtain ⟨d,hu,hd⟩:=hu;cases d <;> simp_all [isAgg,run_underlying hu,Ty.isAgg]
 | lk k=>cases k with
  | true=>simp only [Und] at hu;simp [isAgg,run_underlying hu,Ty.isAgg]
  | false=>obtain ⟨U,hu⟩:=hu;simp [isAgg,run_underlying hu,Ty.isAgg]
theorem Fit.load {T:TypeId} {t:Ty} (h:Fit P T t) {ok:Nat→Nat→Prop} {x:t.D} {cs:List Value} (hr:RepD ok w t x cs) {b o:Nat}
  (hc:∀ j u,cs[j]? = some u→w.cell? ⟨b,o+j,none⟩=some u):(loadVar T ⟨b,o,none⟩).run P w = .ok (valOf t cs) w:=by
 have hl:=run_loadCells_list (P:=P) w ⟨b,o,none⟩ cs (fun j u hj=>by rw [Hx _ rfl];exact hc j u hj)
 unfold loadVar
 simp only [Sem.run_bind,h.agg,Result.andThen_ok]
 cases ha:t.isAgg with
 | true=>
  simp only [if_true,Sem.run_bind,h.size,Result.andThen_ok]
  rw [hr.len] at hl
  rw [hl]
  simp [valOf,ha]
 | false=>
  have h1:=qP hr ha
  have h2:=hc 0 (valOf t cs) (by rw [h1];simp [valOf,ha])
  simp only [Nat.add_zero] at h2
  simp [h2]
structure EnvOk (P:Program) (E:Env):Prop where
 ty:∀ T t,E.ty T=some t→Fit P T t
 fo:∀ S f d u,E.fo S f=some (d,u)→∃ fs fl,P.underlying S=some (.struct fs)∧fs[f]? = some fl∧fl.offset=d∧Fit P fl.type u
 ar:∀ T n e,E.ar T=some (n,e)→∃ ET,P.underlying T=some (.array n ET)∧Fit P ET e∧n≤maxLen∧
  ∃ i,P.info? T=some i∧i.zero=some (.agg (List.replicate n e.zcells).flatten.toArray)
 arMax:∀ T m e,E.ty T=some (.arr m e)→m+1≤maxLen
 by_:∀ T e ET ie,E.ty T=some (.sl e)→P.underlying T=some (.slice ET)→P.info? ET=some ie→ie.bytes=E.by_ T∧0<E.by_ T
 pl:∀ T t,E.ty T=some t→t.isAgg=true→∃ place:Nat→Option (Nat×Nat),(∀ i d u,E.pl T i=some (d,u)→place i=some (d,u.sz))∧
  ∀ (w:World) (parts:Array (Nat×Value)) (cells:Array Value),Instr.fill place t.zcells.toArray parts.toList=some cells→(Instr.build T parts).run P w = .ok (.agg cells) w
 eq:∀ T t,E.eq T=some t→∀ (ok:Nat→Nat→Prop) (w:World) (x y:t.D) (cs ds:List Value) (p q:Operand),RepD ok w t x cs→RepD ok w t y ds→
  (eqGuard .eql T p q (valOf t cs) (valOf t ds)).run P w = .ok () w∧(eqGuard .neq T p q (valOf t cs) (valOf t ds)).run P w = .ok () w∧
  (binOp .eql T (valOf t cs) (valOf t ds)).run P w = .ok (.bool (eqD t x y)) w∧(binOp .neq T (valOf t cs) (valOf t ds)).run P w = .ok (.bool (!eqD t x y)) w
 slf:∀ T t,E.ty T=some t→hasSlf t=true→T=Lay.bld
 byt:∀ T ET,E.ty T=some (.sl (.int .u8))→P.underlying T=some (.slice ET)→ET=Lay.byt
 mixed:P.follows .mixedOrders=true
variable {E : Env}
theorem Yqn {e:Ty} (h:e.sg=0):e = .int .u8:=by
 unfold Ty.sg at h
 split at h
 ·rfl
 ·have:=e.LG;omega
theorem EnvOk.nr (hE:EnvOk P E) {T ET:TypeId} {e:Ty} (hT:E.ty T=some (.sl e)) (hu:P.underlying T=some (.slice ET)) (h:e.sg=0):ET=Lay.byt:=by
 obtain rfl:=Yqn h
 exact hE.byt T ET hT hu
theorem Zz5 (hE:EnvOk P E) (hI:Inv B ok0 w0 g σ a w) (hd:∀ d,o.dst=some d→d<a.tmps.size) {op:BinOp} {T U:Nat} {x y:Operand} (ho:o.op = .binOp op T x y U):
  Dp P B ok0 w0 (O1 E T op o σ (A8 σ x) (A8 σ y)) o a w:=by
 unfold O1
 split
 ·rename_i t m g1 u n g2 hx hy
  split
  ·exact Zxu hI hd ho hx hy
  ·exact Zyu hI hd ho hx hy
  ·split
   ·rename_i e he
    split
    ·rename_i m' n' hm hn
     have rx:=Ec hI x;rw [hx] at rx
     have ry:=Ec hI y;rw [hy] at ry
     obtain ⟨cs,r1,v1,_⟩:=rx
     obtain ⟨ds,r2,v2,_⟩:=ry
     obtain ⟨e1,h1⟩:=Fj hm
     obtain ⟨e2,h2⟩:=Fj hn
     subst e1;subst h1
     subst e2
     have JN:n=n':=h2
     subst JN
     obtain ⟨q1,q2,q3,q4⟩:=hE.eq T _ he _ w _ _ cs ds x y r1 r2
     split
     ·refine CY hI hd ?_ (Je _)
      unfold execOp;rw [ho]
      simp only [v1,v2,Sem.run_bind,q1,Result.andThen_ok,q3,Sem.run_pure]
     ·refine CY hI hd ?_ (Je _)
      unfold execOp;rw [ho]
      simp only [v1,v2,Sem.run_bind,q2,Result.andThen_ok,q4,Sem.run_pure]
     ·exact Bp
    ·exact Bp
   ·exact Bp
 ·exact Bp
theorem Zy5 (hE:EnvOk P E) (hI:Inv B ok0 w0 g σ a w) (hd:∀ d,o.dst=some d→d<a.tmps.size) {op:BinOp} {T U:Nat} {x y:Operand} (ho:o.op = .binOp op T x y U) (hy:TB y=true):
  Dp P B ok0 w0 (O8 E T op o σ (A8 σ x)) o a w:=by
 obtain rfl:y = .const .nilIface:=by
  unfold TB at hy
  split at hy
  ·rfl
  ·cases hy
 unfold O8
 split
 ·rename_i b gs hT hx
  have hu:P.underlying T=some (.interface (P.methodsAt T)):=(hE.ty T _ hT).und
  have rx:=Ec hI x
  rw [hx] at rx
  obtain ⟨cs,⟨v,rfl,hv⟩,QI,_⟩:=rx
  have Znf:a.eval x=v:=QI
  have key:(Op.equal T v .nilIface).run P w = .ok b w:=by
   rcases hv with ⟨rfl,rfl⟩ | ⟨rfl,T',u,rfl⟩
   ·exact run_equal_nil_nil w T hu
   ·exact run_equal_held_nil w T T' u hu
  have hg:∀ op:BinOp,(eqGuard op T x (.const .nilIface) v .nilIface).run P w = .ok () w:=by
   intro op
   unfold eqGuard
   rcases hv with ⟨_,rfl⟩ | ⟨_,T',u,rfl⟩ <;> cases op <;> simp
  have XA:a.eval (.const .nilIface) = .nilIface:=rfl
  split
  ·refine CY hI hd ?_ (Je _)
   unfold execOp;rw [ho]
   have hb:(binOp .eql T v .nilIface).run P w = .ok (.bool b) w:=by
    rcases hv with ⟨_,rfl⟩ | ⟨_,T',u,rfl⟩ <;> simp [binOp,key]
   simp only [Znf,XA,Sem.run_bind,hg,Result.andThen_ok,hb,Sem.run_pure]
  ·refine CY hI hd ?_ (Je _)
   unfold execOp;rw [ho]
   have hb:(binOp .neq T v .nilIface).run P w = .ok (.bool !b) w:=by
    rcases hv with ⟨_,rfl⟩ | ⟨_,T',u,rfl⟩ <;> simp [binOp,key]
   simp only [Znf,XA,Sem.run_bind,hg,Result.andThen_ok,hb,Sem.run_pure]
  ·exact Bp
 ·exact Bp
theorem Zmq (hI:Inv B ok0 w0 g σ a w) (hd:∀ d,o.dst=some d→d<a.tmps.size) {i:Nat} {x:Operand} (ho:o.op = .extract x i):
  Dp P B ok0 w0 (P6 i o σ (A8 σ x)) o a w:=by
 unfold P6
 split
 ·rename_i ds hx
  have rx:=Ec hI x;rw [hx] at rx
  obtain ⟨vs,hv,hf⟩:=rx
  split
  ·rename_i d PF
   obtain ⟨v,hvi,hr⟩:=hf.get PF
   refine CY hI hd (v:=v) ?_ hr
   unfold execOp;rw [ho]
   simp only [hv,Instr.extract,List.getElem?_toArray,hvi,Sem.run_bind,Sem.run_pure,Result.andThen_ok]
  ·exact Bp
 ·exact Bp
theorem Bf {i n:Int} (h:AX i n=true):0≤i∧i<n:=by
 unfold AX at h
 rw [Bool.and_eq_true] at h
 exact ⟨Ak h.1,Ak h.2⟩
theorem Ey {l h n:Int} (hc:CU l h n=true):0≤l∧l≤h∧h≤n:=by
 unfold CU at hc
 rw [Bool.and_eq_true,Bool.and_eq_true] at hc
 exact ⟨Ak hc.1,Ak hc.2.1,Ak hc.2.2⟩
theorem Lw (s:ByteArray) (i:Int) (h0:0≤i) (h1:i<s.size):∃ b,s[i.toNat]? = some b∧(b.toNat:Int)=byteAt s i:=by
 have AO:i.toNat<s.size:=by omega
 have Yx4:i.toNat<s.data.toList.length:=by simpa using AO
 refine ⟨s[i.toNat],by simp [getElem?_pos,AO],?_⟩
 unfold byteAt
 rw [Ax,Ap Yx4]
 rfl
theorem Zd6 (hE:EnvOk P E) (hI:Inv B ok0 w0 g σ a w) (hd:∀ d,o.dst=some d→d<a.tmps.size) {T:Nat} {x i:Operand} (ho:o.op = .index T x i):
  Dp P B ok0 w0 (Qk E T o σ (A8 σ x) (A8 σ i)) o a w:=by
 unfold Qk
 split
 ·rename_i s g1 k n g2 hT hx hi
  refine IF hI hd fun hc=>?_
  have nz:0≤n∧n<(s.size:Int):=Bf hc
  obtain ⟨b,hb,Sm⟩:=Lw s n nz.1 nz.2
  refine ⟨.int .u8 (byteAt s n),?_,Hw _ _⟩
  have hu:P.underlying T=some .string:=(hE.ty T _ hT).und
  unfold execOp;rw [ho]
  simp only [Ru hI hx,JA hI hi,Instr.index,asIntOf,Sem.run_bind,Sem.run_pure,Result.andThen_ok,run_underlying hu,if_pos nz.1,hb,Sm]
 ·exact Bp
theorem Zjm (hE:EnvOk P E) (hI:Inv B ok0 w0 g σ a w) (hd:∀ d,o.dst=some d→d<a.tmps.size) {S f:Nat} {x:Operand} (ho:o.op = .fieldAddr S x f):
  Dp P B ok0 w0 (Nw E S f o σ (A8 σ x)) o a w:=by
 unfold Nw
 split
 ·rename_i d u Om
  obtain ⟨fs,fl,hu,hf,Xb,DY⟩:=hE.fo S f d u Om
  have BA:∀ b o',a.eval x = .pointer (some ⟨b,o',none⟩)→(execOp a.eval o).run P w = .ok (.value (.pointer (some ⟨b,o'+d,none⟩))) w:=by
   intro b o' hx
   have Bu:¬ u.sz=0:=by have:=u.LG;omega
   unfold execOp;rw [ho]
   simp only [hx,Instr.fieldAt,Sem.run_bind,run_underlying hu,Result.andThen_ok,hf,Instr.sureAddr,Sem.run_pure,fieldPlace,DY.size,if_neg Bu,Hx ⟨b,o',none⟩ rfl,Xb]
  have rx:=Ec hI x
  split
  ·rename_i id ver off hx
   rw [hx] at rx
   obtain ⟨h1,h2⟩:=rx
   split
   ·rename_i hv
    obtain ⟨b,ff,hb,hp⟩:=h2 hv
    exact CY hI hd (BA b off hp) ⟨h1,fun _=>⟨b,ff,hb,rfl⟩⟩
   ·exact Bp
  ·rename_i id ver i off hx
   rw [hx] at rx
   obtain ⟨h1,h2⟩:=rx
   split
   ·rename_i hv
    obtain ⟨b,ff,e,l,fz,hb,hc,hi,hp⟩:=h2 hv
    exact CY hI hd (BA b _ hp) ⟨h1,fun _=>⟨b,ff,e,l,fz,hb,hc,hi,by rw [Nat.add_assoc]⟩⟩
   ·exact Bp
  ·rename_i t y off hx
   rw [hx] at rx
   obtain ⟨b,o',ys,hp,hr,hc⟩:=rx
   exact CY hI hd (BA b _ hp) ⟨b,o',ys,by rw [Nat.add_assoc],hr,hc⟩
  ·exact Bp
 ·exact Bp
theorem Zwn (hI:Inv B ok0 w0 g σ a w) (hd:∀ d,o.dst=some d→d<a.tmps.size) {x:Operand} (ho:o.op = .nilCheck x):
  Dp P B ok0 w0 (Ee E σ o) o a w:=by
 have BA:∀ A:Addr,a.eval x = .pointer (some A)→(execOp a.eval o).run P w = .ok (.value (.pointer (some A))) w:=by
  intro A hx
  unfold execOp;rw [ho]
  simp only [hx];rfl
 have rx:=Ec hI x
 unfold Ee
 rw [ho]
 dsimp only
 split
 ·rename_i id ver off hx
  rw [hx] at rx
  split
  ·rename_i hv
   obtain ⟨b,ff,hb,hp⟩:=rx.2 hv
   exact CY hI hd (BA _ hp) ⟨rx.1,fun _=>⟨b,ff,hb,rfl⟩⟩
  ·exact Bp
 ·rename_i id ver i off hx
  rw [hx] at rx
  split
  ·rename_i hv
   obtain ⟨b,ff,e,l,fz,hb,hc,hi,hp⟩:=rx.2 hv
   exact CY hI hd (BA _ hp) ⟨rx.1,fun _=>⟨b,ff,e,l,fz,hb,hc,hi,rfl⟩⟩
  ·exact Bp
 ·rename_i t y off hx
  rw [hx] at rx
  obtain ⟨b,o',ys,hp,hr,hc⟩:=rx
  exact CY hI hd (BA _ hp) ⟨b,o',ys,rfl,hr,hc⟩
 ·exact Bp
theorem gd {gs:List Tag} {cs:List Value} {off sz:Nat} (h:Hg g σ.r w gs cs):Hg g σ.r w (WT gs off sz) ((cs.drop off).take sz):=by
 intro t ht
 unfold WT at ht
 obtain ⟨u,hu,he⟩:=List.mem_filterMap.1 ht
 split at he
 ·rename_i CB
  have PA:=Option.some.inj he
  subst PA
  obtain ⟨h1,h2⟩:=h u hu
  have LO:((cs.drop off).take sz)[u.off-off]? = cs[u.off]?:=by
   rw [AA,if_pos (by omega),List.getElem?_drop]
   congr 1
   omega
  unfold WH
  simp only [LO]
  exact ⟨h1,h2⟩
 ·cases he
theorem uH {u:Ty} {T:Nat} (DY:Fit P T u) {ok:Nat→Nat→Prop} {y:u.D} {cs:List Value} {off:Nat} (hs:RepD ok w u y ((cs.drop off).take u.sz)):
  (part T cs.toArray off).run P w = .ok (valOf u ((cs.drop off).take u.sz)) w:=by
 unfold part
 simp only [Sem.run_bind,DY.agg,Result.andThen_ok]
 cases ha:u.isAgg with
 | true=>
  simp only [if_true,Sem.run_bind,DY.size,Result.andThen_ok,Sem.run_pure,valOf,ha]
  congr 2
  simp [Nat.add_sub_cancel_left]
 | false=>
  have h1:=qP hs ha
  have h2:cs[off]? = some (valOf u ((cs.drop off).take u.sz)):=by
   have h3:((cs.drop off).take u.sz)[0]? = some (valOf u ((cs.drop off).take u.sz)):=by
    generalize hq:(cs.drop off).take u.sz=q at h1 ⊢
    rw [h1];simp [valOf,ha]
   rw [AA,if_pos u.LG,List.getElem?_drop,Nat.add_zero] at h3
   exact h3
  simp [h2]
theorem Zc6 (hE:EnvOk P E) (hI:Inv B ok0 w0 g σ a w) (hd:∀ d,o.dst=some d→d<a.tmps.size) {S f:Nat} {x:Operand} (ho:o.op = .field S x f):
  Dp P B ok0 w0 (Qj E S f o σ (A8 σ x)) o a w:=by
 unfold Qj
 split
 ·rename_i d u Om
  obtain ⟨fs,fl,hu,hf,Xb,DY⟩:=hE.fo S f d u Om
  have rx:=Ec hI x
  split
  ·rename_i t y gs hx
   rw [hx] at rx
   obtain ⟨cs,hr,hv,ht⟩:=rx
   split
   ·rename_i Oa
    split
    ·rename_i z hz
     obtain ⟨hs,hb⟩:=OR hz hr
     refine CY hI hd ?_ ⟨_,hs,rfl,gd ht⟩
     unfold execOp;rw [ho]
     simp only [hv,Instr.field,Sem.run_bind,run_underlying hu,Result.andThen_ok,hf,Xb]
     rw [show asAgg (valOf t cs)=pure cs.toArray by simp [valOf,Oa,asAgg]]
     simp only [Sem.run_pure,Result.andThen_ok,uH DY hs]
    ·exact Bp
   ·exact Bp
  ·exact Bp
 ·exact Bp
theorem dw {T ET:Nat} {ie:TypeInfo} (hu:P.underlying T=some (.slice ET)) (hi:P.info? ET=some ie) {A:Addr} (hA:A.spot=none) {n cap:Nat} {k:IntKind} {i:Int} (h0:0≤i) (h1:i<n):
  (Instr.indexAt T (.slice (some A) n cap) (.int k i)).run P w = .ok (.pointer (some ⟨A.block,A.off+i.toNat*ie.size,none⟩)) w:=by
 have AO:0≤i∧i<(n:Int):=⟨h0,h1⟩
 simp [Instr.indexAt,asIntOf,run_underlying hu,sizeOf,typeInfo,hi,AO,Hx A hA]
theorem Zfk {T ET:Nat} {ie:TypeInfo} {n:Nat} (hu:P.underlying T=some (.array n ET)) (hi:P.info? ET=some ie) {A:Addr} (hA:A.spot=none) {k:IntKind} {i:Int} (h0:0≤i) (h1:i<n):
  (Instr.indexAt T (.pointer (some A)) (.int k i)).run P w = .ok (.pointer (some ⟨A.block,A.off+i.toNat*ie.size,none⟩)) w:=by
 have AO:0≤i∧i<(n:Int):=⟨h0,h1⟩
 simp [Instr.indexAt,asIntOf,Instr.sureAddr,run_underlying hu,sizeOf,typeInfo,hi,AO,Hx A hA]
theorem Yut {e:Ty} {l:List e.D} {i:Int} (h0:0≤i) (h1:i<(l.length:Int)):l[i.toNat]? = some (at' l i):=by
 have:i.toNat<l.length:=by omega
 unfold at'
 rw [Ax,Ap this]
 rfl
theorem Zkm (hE:EnvOk P E) (hI:Inv B ok0 w0 g σ a w) (hd:∀ d,o.dst=some d→d<a.tmps.size) {T:Nat} {x i:Operand} (ho:o.op = .indexAddr T x i):
  Dp P B ok0 w0 (Nx E T o σ (A8 σ x) (A8 σ i)) o a w:=by
 unfold Nx
 have BA:∀ u v,a.eval x=u→(Instr.indexAt T u (a.eval i)).run P w = .ok v w→(execOp a.eval o).run P w = .ok (.value v) w:=by
  intro u v hu hv
  unfold execOp;rw [ho]
  subst hu
  simp only [Sem.run_bind,hv,Result.andThen_ok,Sem.run_pure]
 split
 ·rename_i k n gi hi
  have Em:=JA hI hi
  have rx:=Ec hI x
  split
  ·rename_i e l gs hx
   rw [hx] at rx
   split
   ·rename_i e' hT
    obtain ⟨ET,ie,hu,Sc,Bu,_⟩:=(hE.ty T _ hT).und
    split
    ·rename_i nv
     obtain ⟨p,m,cap,hv,hr,hl,_⟩:=bC rx
     refine IF hI hd fun hc=>?_
     obtain ⟨h0,h1⟩:=Bf hc
     unfold AP at h1
     obtain ⟨p',m',CT,Ho,GS,_,_,C8⟩:=hr
     have hpe:(Value.slice p m cap) = .slice p' m' CT:=by rw [← hv];exact (List.cons.inj Ho).1
     cases hpe
     obtain ⟨A,hA,Hl,ys,hy,B4⟩:=C8 n.toNat (at' l n) (Yut h0 h1)
     subst hA
     refine ⟨_,BA _ _ hv (by rw [Em];exact dw hu Sc Hl h0 (by omega)),A.block,A.off+n.toNat*e.sz,ys,by rw [Bu,← nv];rfl,hy,fun j u hj=>?_⟩
     have:=B4 j u hj
     rw [← Nat.add_assoc] at this
     exact this
    ·exact Bp
   ·exact Bp
  ·rename_i id ver hx
   rw [hx] at rx
   split
   ·rename_i m e e' l fz hT hc
    split
    ·rename_i JW
     obtain ⟨b,f,hb,hp⟩:=rx.2 JW.1
     obtain ⟨ET,hu,DY,_⟩:=hE.ar T m e hT
     obtain ⟨ie,Sc,Bu,_⟩:=DY.info
     refine IF hI hd fun Hs=>?_
     rw [Bool.and_eq_true] at Hs
     obtain ⟨h0,h1⟩:=Bf Hs.1
     have Jq:m=l.length:=Ak Hs.2
     refine ⟨_,BA _ _ hp (by rw [Em];exact Zfk hu Sc rfl h0 h1),rx.1,fun _=>⟨b,f,e',l,fz,hb,hc,by omega,?_⟩⟩
     simp [Bu,JW.2]
    ·exact Bp
   ·exact Bp
  ·rename_i id ver hx
   rw [hx] at rx
   split
   ·rename_i e e' l fz hT hc
    split
    ·rename_i JW
     obtain ⟨e2,l2,Hp,B2,Io⟩:=rx.2 JW.1
     rw [hc] at B2
     cases B2
     obtain ⟨ET,ie,hu,Sc,Bu,_⟩:=(hE.ty T _ hT).und
     refine IF hI hd fun Hs=>?_
     obtain ⟨h0,h1⟩:=Bf Hs
     unfold AP at h1
     obtain ⟨b,f,cap,hb,_,_,hp⟩:=Io.get (by omega)
     refine ⟨_,BA _ _ hp (by rw [Em];exact dw hu Sc rfl h0 h1),rx.1,fun _=>⟨b,f,e',l,fz,hb,hc,by omega,?_⟩⟩
     simp [Bu,JW.2]
    ·exact Bp
   ·exact Bp
  ·rename_i id ver lo m hx
   rw [hx] at rx
   split
   ·rename_i e e' l fz hT hc
    split
    ·rename_i JW
     obtain ⟨e2,l2,Hp,A,cap,B2,MK,Fa,CL,hA,KH,hp⟩:=rx.2 JW.1
     rw [hc] at B2
     cases B2
     obtain ⟨ET,ie,hu,Sc,Bu,_⟩:=(hE.ty T _ hT).und
     refine IF hI hd fun Hs=>?_
     obtain ⟨h0,h1⟩:=Bf Hs
     obtain ⟨b,f,hb,DR⟩:=hA (by omega)
     subst DR
     refine ⟨_,BA _ _ hp (by rw [Em];exact dw hu Sc rfl h0 h1),rx.1,fun _=>⟨b,f,e',l,fz,hb,hc,by omega,?_⟩⟩
     simp [Bu,JW.2,Nat.add_mul]
    ·exact Bp
   ·exact Bp
  ·exact Bp
 ·exact Bp
end
end Go.AM
end

section
/- Operations that read memory: loads, slices, conversions. -/
namespace Go.AM
open Go.RowKit (Below)
set_option linter.unusedSectionVars false
variable [Lay]
section
variable {P : Program} {B : Bd} {ok0 : Nat → Nat → Prop} {w0 w : World} {g : G} {σ : St} {a : Act} {o : Oper} {E : Env}
def IE (ok:Nat→Nat→Prop) (w:World) (e:Ty) (l:List e.D) (cs:List Value):Prop:=
 cs.length=l.length*e.sz∧∀ (i:Nat) (x:e.D),l[i]? = some x→∃ ys,RepD ok w e x ys∧∀ j u,ys[j]? = some u→cs[i*e.sz+j]? = some u
theorem SO {ok:Nat→Nat→Prop} {e:Ty} {c:Nat→Option Value}:∀ {l:List e.D} {base:Nat},
  (∀ (i:Nat) (x:e.D),l[i]? = some x→∃ ys,RepD ok w e x ys∧∀ j u,ys[j]? = some u→c (base+(i*e.sz+j))=some u)→
  ∃ cs,IE ok w e l cs∧(∀ j u,cs[j]? = some u→c (base+j)=some u)∧∀ u∈cs,u.oneCell'=true
 | [],base,_=>⟨[],⟨by simp,fun i x h=>by simp at h⟩,fun j u h=>by simp at h,fun u h=>by cases h⟩
 | x :: l,base,h=>by
  obtain ⟨ys,hy,hc⟩:=h 0 x rfl
  obtain ⟨cs,⟨hl,hr⟩,h2,h3⟩:=SO (l:=l) (base:=base+e.sz) (fun i z hi=>by
   obtain ⟨zs,hz,Ia⟩:=h (i+1) z (by simpa using hi)
   exact ⟨zs,hz,fun j u hj=>by have:=Ia j u hj;rw [show base+e.sz+(i*e.sz+j)=base+((i+1)*e.sz+j) by rw [Nat.add_mul];omega];exact this⟩)
  have Hb:=hy.len
  refine ⟨ys++cs,⟨by rw [Ae,Hb,hl,Aj,Nat.add_mul];omega,fun i z hi=>?_⟩,fun j u hj=>?_,fun u hu=>?_⟩
  ·cases i with
   | zero=>
    simp only [List.getElem?_cons_zero,Option.some.injEq] at hi
    subst hi
    refine ⟨ys,hy,fun j u hj=>?_⟩
    have:=(List.getElem?_eq_some_iff.1 hj).1
    rw [Nat.zero_mul,Au,AD (by omega)]
    exact hj
   | succ i=>
    obtain ⟨zs,hz,Ia⟩:=hr i z (by simpa using hi)
    refine ⟨zs,hz,fun j u hj=>?_⟩
    rw [Aw (by rw [Nat.add_mul];omega),show (i+1)*e.sz+j-ys.length=i*e.sz+j by rw [Nat.add_mul];omega]
    exact Ia j u hj
  ·by_cases AO:j<ys.length
   ·rw [AD AO] at hj
    have:=hc j u hj
    rw [Nat.zero_mul,Au] at this
    exact this
   ·rw [Aw (by omega)] at hj
    have:=h2 _ _ hj
    rw [show base+e.sz+(j-ys.length)=base+j by omega] at this
    exact this
  ·rcases List.mem_append.1 hu with hu | hu
   ·exact hy.one u hu
   ·exact h3 u hu
theorem dh {α:Type} {l:List α} {lo n i:Nat} {x:α} (h:((l.drop lo).take n)[i]? = some x):i<n∧l[lo+i]? = some x:=by
 rw [AA] at h
 split at h
 ·rw [List.getElem?_drop] at h;exact ⟨by assumption,h⟩
 ·cases h
theorem Zoq (hI:Inv B ok0 w0 g σ a w) {e:Ty} {av:AV} {v:Value} {l:List e.D} (h:content σ e av=some l) (hr:RepA (okG B ok0 g w) g σ w av v):
  ∃ p n cap,v = .slice p n cap∧l.length=n∧n≤cap∧cap≤maxLen∧∀ (i:Nat) (x:e.D),l[i]? = some x→∃ A:Addr,p=some A∧A.spot=none∧
   ∃ ys,RepD (okG B ok0 g w) w e x ys∧∀ j u,ys[j]? = some u→w.cell? ⟨A.block,A.off+(i*e.sz+j),none⟩=some u:=by
 unfold content at h
 split at h
 ·rename_i t x gs
  obtain ⟨ht,hx⟩:=Fj h
  subst ht
  have Dt:x=l:=hx
  subst Dt
  obtain ⟨p,n,cap,hv,E0,hl,hn,hm,_⟩:=bC hr
  subst hv
  obtain ⟨p',n',CT,Ho,_,_,_,hc⟩:=E0
  cases Ho
  refine ⟨p,n,cap,rfl,hl,hn,hm,fun i x hi=>?_⟩
  obtain ⟨A,hA,hs,ys,hy,B4⟩:=hc i x hi
  exact ⟨A,hA,hs,ys,hy,fun j u hj=>(B4 j u hj).2⟩
 ·have hl:=Option.some.inj h
  subst hl
  exact ⟨none,0,0,hr,rfl,Ah _,Nat.zero_le _,fun i x hi=>by simp at hi⟩
 ·rename_i id ver
  split at h
  ·rename_i hv
   split at h
   ·rename_i e' l' fz hc
    obtain ⟨ht,hx⟩:=Fj h
    cases ht
    have Dt:l'=l:=hx
    subst Dt
    obtain ⟨e2,l2,Hp,B2,Io⟩:=hr.2 hv
    rw [hc] at B2
    cases B2
    obtain ⟨p,cap,hp,Fa,Kf,hA,_⟩:=Io.form
    refine ⟨_,_,_,hp,rfl,Fa,Kf,fun i x hi=>?_⟩
    obtain ⟨b,f,hb,DR⟩:=hA (by have:=(List.getElem?_eq_some_iff.1 hi).1;omega)
    subst DR
    obtain ⟨Jv,cur,T,ym,hh,Il,Bu,CL,BO⟩:=hI.Hj hb hc
    obtain ⟨ys,hy,B4⟩:=BO i x hi
    refine ⟨_,rfl,rfl,ys,hy,fun j u hj=>?_⟩
    simp only [World.cell?,hh,Au]
    exact B4 j u hj
   ·cases h
  ·cases h
 ·rename_i id ver lo n
  split at h
  ·rename_i hv
   split at h
   ·rename_i e' l' fz hc
    obtain ⟨ht,hx⟩:=Fj h
    cases ht
    have Dt:(l'.drop lo).take n=l:=hx
    subst Dt
    obtain ⟨e2,l2,Hp,A,cap,B2,MK,Fa,Kf,hA,KH,hp⟩:=hr.2 hv
    rw [hc] at B2
    cases B2
    refine ⟨A,n,cap,hp,by rw [Ag,List.length_drop];omega,Fa,Kf,fun i x hi=>?_⟩
    obtain ⟨CB,hi'⟩:=dh hi
    obtain ⟨b,f,hb,DR⟩:=hA (by omega)
    obtain ⟨Jv,cur,T,ym,hh,Il,Bu,CL,BO⟩:=hI.Hj hb hc
    obtain ⟨ys,hy,B4⟩:=BO _ x hi'
    refine ⟨_,DR,rfl,ys,hy,fun j u hj=>?_⟩
    simp only [World.cell?,hh]
    rw [show lo*e.sz+(i*e.sz+j)=(lo+i)*e.sz+j by rw [Nat.add_mul];omega]
    exact B4 j u hj
   ·cases h
  ·cases h
 ·cases h
theorem Yd (hI:Inv B ok0 w0 g σ a w) {e:Ty} {av:AV} {v:Value} {l:List e.D} (h:content σ e av=some l) (hr:RepA (okG B ok0 g w) g σ w av v):
  ∃ p n cap cs,v = .slice p n cap∧l.length=n∧n≤cap∧cap≤maxLen∧IE (okG B ok0 g w) w e l cs∧(∀ u∈cs,u.oneCell'=true)∧
   (n=0∨∃ A:Addr,p=some A∧A.spot=none∧∀ j u,cs[j]? = some u→w.cell? ⟨A.block,A.off+j,none⟩=some u):=by
 obtain ⟨p,n,cap,hv,hl,hn,hm,hc⟩:=Zoq hI h hr
 cases cV:l with
 | nil=>exact ⟨p,n,cap,[],hv,by rw [cV] at hl;exact hl,hn,hm,⟨by simp,fun i x hi=>by simp at hi⟩,(fun u hu=>by cases hu), .inl (by rw [cV] at hl;exact hl.symm)⟩
 | cons x0 l0=>
  obtain ⟨A,hA,hs,_⟩:=hc 0 x0 (by rw [cV];rfl)
  obtain ⟨cs,h1,h2,h3⟩:=SO (ok:=okG B ok0 g w) (w:=w) (e:=e) (c:=fun k=>w.cell? ⟨A.block,k,none⟩) (l:=l) (base:=A.off) (fun i x hi=>by
   obtain ⟨A',DR,_,ys,hy,B4⟩:=hc i x hi
   rw [hA] at DR;cases DR
   exact ⟨ys,hy,B4⟩)
  rw [cV] at hl h1
  exact ⟨p,n,cap,cs,hv,hl,hn,hm,h1,h3, .inr ⟨A,hA,hs,h2⟩⟩
theorem Ykn (hE:EnvOk P E) (hI:Inv B ok0 w0 g σ a w) (hd:∀ d,o.dst=some d→d<a.tmps.size) {T:Nat} {x:Operand} (ho:o.op = .load T x):
  Dp P B ok0 w0 (N0 E T o σ (A8 σ x)) o a w:=by
 have rx:=Ec hI x
 have BA:∀ b o' v,a.eval x = .pointer (some ⟨b,o',none⟩)→(loadVar T ⟨b,o',none⟩).run P w = .ok v w→(execOp a.eval o).run P w = .ok (.value v) w:=by
  intro b o' v hx hv
  unfold execOp;rw [ho]
  simp only [hx,Instr.loadAt,Instr.sureAddr,Sem.run_bind,Sem.run_pure,Result.andThen_ok,hv]
 unfold N0
 split
 ·rename_i id ver off hx
  rw [hx] at rx
  split
  ·rename_i hv
   obtain ⟨b,f,hb,hp⟩:=rx.2 hv
   split
   ·rename_i t z gs hc
    obtain ⟨Jv,cs,TT,hh,hr,_,ht⟩:=hI.Hj hb hc
    split
    ·rename_i u hu
     split
     ·rename_i y hy
      obtain ⟨hs,cI⟩:=OR hy hr
      have hl:=(hE.ty T u hu).load (b:=b) (o:=off) hs (fun j v hj=>by
       rw [AA] at hj
       split at hj
       ·rw [List.getElem?_drop] at hj
        simp only [World.cell?,hh]
        simpa using hj
       ·cases hj)
      exact CY hI hd (BA b off _ hp hl) ⟨_,hs,rfl,gd ht⟩
     ·exact Bp
    ·exact Bp
   ·rename_i e l fz hc
    obtain ⟨Jv,cur,TT,ym,hh,Il,Bu,CL,BO⟩:=hI.Hj hb hc
    have one:Dp P B ok0 w0 (Qd E T o σ e l off) o a w:=by
     unfold Qd
     split
     ·rename_i z
      split
      ·rename_i u hu
       split
       ·rename_i y hy
        obtain ⟨ys,hr,R8⟩:=BO 0 z rfl
        obtain ⟨hs,cI⟩:=OR hy hr
        have hl:=(hE.ty T u hu).load (b:=b) (o:=off) hs (fun j v hj=>by
         rw [AA] at hj
         split at hj
         ·rw [List.getElem?_drop] at hj
          simp only [World.cell?,hh]
          simpa using R8 (off+j) v hj
         ·cases hj)
        exact CY hI hd (BA b off _ hp hl) (Qf hs)
       ·exact Bp
      ·exact Bp
     ·exact Bp
    split
    ·rename_i m e' hT
     split
     ·rename_i h0
      obtain ⟨rfl,rfl⟩:=h0
      unfold Tm
      split
      ·rename_i l' GS
       obtain ⟨_,Dt⟩:=Fj GS
       have W4:l=l':=Dt
       subst W4
       refine IF hI hd fun Hs=>?_
       have hlen:List.length (α:=e'.D) l=m+1:=Ak Hs
       obtain ⟨cs,EG,Co,_⟩:=SO (ok:=okG B ok0 g w) (w:=w) (e:=e') (c:=fun k=>cur[k]?) (l:=l) (base:=0) (fun i x hi=>by
        obtain ⟨ys,hy,B4⟩:=BO i x hi
        exact ⟨ys,hy,fun j u hj=>by rw [Au];exact B4 j u hj⟩)
       have E0:RepD (okG B ok0 g w) w (.arr m e') l cs:=by
        refine ⟨hlen,by rw [EG.1,hlen],fun i x hi=>?_⟩
        obtain ⟨ys,hy,B4⟩:=EG.2 i x hi
        have Hb:=hy.len
        have:(cs.drop (i*e'.sz)).take e'.sz=ys:=by
         apply List.ext_getElem?
         intro j
         rw [AA]
         split
         ·rename_i hj
          rw [List.getElem?_drop,Ap (show j<ys.length by omega)]
          exact B4 j _ (Ap (by omega))
         ·rw [List.getElem?_eq_none (by omega)]
        rw [this]
        exact hy
       refine ⟨_,BA b 0 _ hp ((hE.ty T _ hT).load (b:=b) (o:=0) E0 (fun j v hj=>?_)),⟨cs,E0,rfl,fun t ht=>by cases ht⟩⟩
       have:=Co j v hj
       simp only [World.cell?,hh]
       simpa using this
      ·exact Bp
     ·exact one
    ·exact one
   ·exact Bp
  ·exact Bp
 ·rename_i id ver i off hx
  rw [hx] at rx
  split
  ·rename_i hv
   split
   ·rename_i e l fz hc
    obtain ⟨b,f,e2,l2,Hp,hb,B2,hi,hp⟩:=rx.2 hv
    rw [hc] at B2;cases B2
    obtain ⟨Jv,cur,TT,ym,hh,Il,Bu,CL,BO⟩:=hI.Hj hb hc
    split
    ·rename_i u hu
     split
     ·rename_i y hy
      have XF:l[i]? = some (l.getD i e.zero):=by rw [Ax,Ap hi];rfl
      obtain ⟨ys,Eh,B4⟩:=BO i _ XF
      obtain ⟨hs,cI⟩:=OR hy Eh
      have hl:=(hE.ty T u hu).load (b:=b) (o:=i*e.sz+off) hs (fun j v hj=>by
       rw [AA] at hj
       split at hj
       ·rw [List.getElem?_drop] at hj
        simp only [World.cell?,hh]
        have:=B4 _ _ hj
        rw [← Nat.add_assoc] at this
        simpa using this
       ·cases hj)
      exact CY hI hd (BA b _ _ hp hl) (Qf hs)
     ·exact Bp
    ·exact Bp
   ·exact Bp
  ·exact Bp
 ·rename_i t z off hx
  rw [hx] at rx
  obtain ⟨b,o',ys,hp,hr,hc⟩:=rx
  split
  ·rename_i u hu
   split
   ·rename_i y hy
    obtain ⟨hs,cI⟩:=OR hy hr
    have hl:=(hE.ty T u hu).load (b:=b) (o:=o'+off) hs (fun j v hj=>by
     rw [AA] at hj
     split at hj
     ·rw [List.getElem?_drop] at hj
      have:=(hc _ _ hj).2
      rw [← Nat.add_assoc] at this
      exact this
     ·cases hj)
    exact CY hI hd (BA b _ _ hp hl) (Qf hs)
   ·exact Bp
  ·exact Bp
 ·exact Bp
theorem pj:∀ (l:List Int) (r:ByteArray),l.foldl (fun r n=>r.push (UInt8.ofNat n.toNat)) r=⟨r.data++(l.map fun n=>UInt8.ofNat n.toNat).toArray⟩
 | [],r=>by simp
 | n :: l,r=>by
  rw [List.foldl_cons,pj l]
  simp [ByteArray.push]
theorem Zwu {ok:Nat→Nat→Prop} {k:IntKind}:∀ {l:List Int} {cs:List Value},IE ok w (.int k) l cs→cs=l.map (Value.int k):=by
 intro l cs h
 obtain ⟨hl,hr⟩:=h
 apply List.ext_getElem?
 intro i
 by_cases hi:i<l.length
 ·obtain ⟨ys,hy,B4⟩:=hr i l[i] (Ap hi)
  simp only [RepD] at hy
  subst hy
  have:=B4 0 _ rfl
  simp only [Ty.sz,Nat.mul_one,Nat.add_zero] at this
  rw [this,List.getElem?_map,Ap hi]
  rfl
 ·simp only [Ty.sz,Nat.mul_one] at hl
  rw [List.getElem?_eq_none (by omega),List.getElem?_eq_none (by rw [Ai];omega)]
theorem Zkq (hE:EnvOk P E) (hI:Inv B ok0 w0 g σ a w) (hd:∀ d,o.dst=some d→d<a.tmps.size) {src dst:Nat} {x:Operand} (ho:o.op = .convert src dst x)
  (hs:¬ (E.ty src=some .str∧E.ty dst=some (.sl (.int .u8)))):
  Dp P B ok0 w0 (Ly E src dst o σ (A8 σ x)) o a w:=by
 have BA:∀ v,(convert src dst (a.eval x)).run P w = .ok v w→(execOp a.eval o).run P w = .ok (.value v) w:=by
  intro v hv
  unfold execOp;rw [ho]
  simp only [Sem.run_bind,hv,Result.andThen_ok,Sem.run_pure]
 unfold Ly
 split
 ·rename_i j k Xd Fs
  have u1:P.underlying src=some (.int j):=(hE.ty _ _ Xd).und
  have u2:P.underlying dst=some (.int k):=(hE.ty _ _ Fs).und
  split
  ·rename_i n gs hx
   refine CY hI hd (BA _ ?_) (Hw _ _)
   rw [JA hI hx]
   simp [convert,run_underlying u1,run_underlying u2,Conv.intToInt]
  ·exact Bp
 ·rename_i Xd Fs
  have u1:P.underlying src=some .string:=(hE.ty _ _ Xd).und
  have u2:P.underlying dst=some .string:=(hE.ty _ _ Fs).und
  split
  ·rename_i s gs hx
   refine CY hI hd (BA _ ?_) (Vw _)
   rw [Ru hI hx]
   simp [convert,run_underlying u1,run_underlying u2]
  ·exact Bp
 ·rename_i Xd Fs
  obtain ⟨ET,ie,u1,Em,Bu,hz,hk,_⟩:=(hE.ty _ _ Xd).und
  have u2:P.underlying dst=some .string:=(hE.ty _ _ Fs).und
  have u3:=hk .u8 rfl
  split
  ·rename_i l hl
   obtain ⟨p,n,cap,cs,hv,CM,_,_,BO,_,C8⟩:=Yd hI hl (Ec hI x)
   have Co:=Zwu BO
   refine CY hI hd (BA _ ?_) (Vw _)
   rw [hv,run_convert_bytes_string w src dst ET p n cap u1 u3 u2]
   cases p with
   | none=>
    have Df:n=0:=by
     rcases C8 with h | ⟨A,hA,_⟩
     ·exact h
     ·cases hA
    subst Df
    have:l=[]:=AI CM
    subst this
    simp [Conv.bytesToString,ofBytes]
    rfl
   | some A=>
    have Us:(loadCells A n).run P w = .ok (l.map (Value.int .u8)).toArray w:=by
     rw [← Co]
     have MM:cs.length=n:=by rw [Co,Ai];exact CM
     rw [← MM]
     refine run_loadCells_list (P:=P) w A cs fun j u hj=>?_
     rcases C8 with h | ⟨A',hA,Ev,CP⟩
     ·have:=(List.getElem?_eq_some_iff.1 hj).1;omega
     ·cases hA;rw [Hx A Ev];exact CP j u hj
    rw [run_bytesToString w A n cap l Us,pj]
    simp [ofBytes]
  ·exact Bp
 ·rename_i h1 h2;exact absurd ⟨h1,h2⟩ hs
 ·exact Bp
def My (d:Int):Option Value→Option Int
 | none=>some d
 | some (.int _ n)=>some n
 | _=>none
theorem NW (hI:Inv B ok0 w0 g σ a w) {d n:Int} {x:Option Operand} (h:FQ σ d x=some n):My d (x.map a.eval)=some n:=by
 cases x with
 | none=>exact h
 | some x=>
  unfold FQ at h
  simp only at h
  split at h
  ·rename_i k m gs hx
   have:=JA hI hx
   simp only [Option.map_some,this,My]
   exact h
  ·cases h
theorem eh {isSlice:Bool} {len cap:Nat} {lo hi:Option Value} {l h:Int} (hl:My 0 lo=some l) (hh:My len hi=some h) (Us:len≤cap) (hc:CU l h len=true):
  (Instr.sliceBounds isSlice len cap lo hi none).run P w = .ok (l.toNat,h.toNat,cap) w:=by
 obtain ⟨h0,h1,h2⟩:=Ey hc
 have hb:∀ (k:IntKind) (i:Int) (y:Nat) (code:BoundsCode),0≤i→i≤y→(Instr.sliceBound (.int k i) y code).run P w = .ok i.toNat w:=by
  intro k i y code h3 h4
  have:0≤i∧i≤(y:Int):=⟨h3,h4⟩
  simp [Instr.sliceBound,asIntOf,this]
 unfold Instr.sliceBounds
 cases hi with
 | none=>
  simp only [My,Option.some.injEq] at hh
  subst hh
  cases lo with
  | none=>
   simp only [My,Option.some.injEq] at hl
   subst hl
   simp
  | some lv=>
   cases lv <;> simp only [My] at hl <;> first | cases hl | skip
   simp [hb _ l len _ h0 h1]
 | some hv=>
  cases hv <;> simp only [My] at hh <;> first | cases hh | skip
  cases lo with
  | none=>
   simp only [My,Option.some.injEq] at hl
   subst hl
   simp [hb _ h cap _ h1 (by omega)]
  | some lv=>
   cases lv <;> simp only [My] at hl <;> first | cases hl | skip
   simp [hb _ h cap _ (by omega) (by omega),hb _ l h.toNat _ h0 (by omega)]
theorem Yf {T ET:Nat} {ie:TypeInfo} (hu:P.underlying T=some (.slice ET)) (hi:P.info? ET=some ie) {p:Option Addr} {n cap:Nat} {lo hi':Option Value} {l h:Int}
  (hl:My 0 lo=some l) (hh:My n hi'=some h) (hn:n≤cap) (hc:CU l h n=true):
  (Instr.sliceAt T (.slice p n cap) lo hi' none).run P w = .ok (.slice (if cap=l.toNat then p else p.map (·.add (l.toNat*ie.size))) (h.toNat-l.toNat) (cap-l.toNat)) w:=by
 simp [Instr.sliceAt,Instr.slice,run_underlying hu,eh hl hh hn hc,sizeOf,typeInfo,hi]
theorem Ypn {ok:Nat→Nat→Prop} {e:Ty} {s:List e.D} {p:Option Addr} {n cap lo hi:Nat} (hr:RepD ok w (.sl e) s [.slice p n cap]) (h1:lo≤hi) (h2:hi≤n):
  RepD ok w (.sl e) ((s.take hi).drop lo) [.slice (if cap=lo then p else p.map (·.add (lo*e.sz))) (hi-lo) (cap-lo)]:=by
 obtain ⟨p',n',CT,hv,hl,hn,hm,hc⟩:=hr
 cases hv
 refine ⟨_,_,_,rfl,by rw [List.length_drop,Ag];omega,by omega,by omega,fun i x hi'=>?_⟩
 rw [List.getElem?_drop,AA] at hi'
 split at hi'
 ·rename_i AO
  obtain ⟨A,hA,hs,ys,hy,B4⟩:=hc _ x hi'
  subst hA
  refine ⟨⟨A.block,A.off+lo*e.sz,none⟩,by rw [if_neg (by omega)];simp [Hx A hs],rfl,ys,hy,fun j u hj=>?_⟩
  have:=B4 j u hj
  simp only
  rw [show A.off+lo*e.sz+(i*e.sz+j)=A.off+((lo+i)*e.sz+j) by rw [Nat.add_mul];omega]
  exact this
 ·cases hi'
theorem Zb6 (hE:EnvOk P E) (hI:Inv B ok0 w0 g σ a w) (hd:∀ d,o.dst=some d→d<a.tmps.size) {T:Nat} {x:Operand} {lo hi:Option Operand} (ho:o.op = .slice T x lo hi none):
  Dp P B ok0 w0 (O2 E T o σ (A8 σ x) lo hi) o a w:=by
 have BA:∀ u v,a.eval x=u→(Instr.sliceAt T u (lo.map a.eval) (hi.map a.eval) none).run P w = .ok v w→(execOp a.eval o).run P w = .ok (.value v) w:=by
  intro u v hu hv
  unfold execOp;rw [ho]
  subst hu
  simp only [Option.map_none,Sem.run_bind,hv,Result.andThen_ok,Sem.run_pure]
 have rx:=Ec hI x
 unfold O2
 split
 ·rename_i t y gs hx
  rw [hx] at rx
  split
  ·rename_i s hT
   have hu:P.underlying T=some .string:=(hE.ty _ _ hT).und
   split
   ·rename_i l h hl hh
    refine IF hI hd fun hc=>⟨_,BA _ _ (zQ rx) ?_,Vw _⟩
    have hb:=eh (P:=P) (w:=w) (isSlice:=false) (cap:=s.size) (NW hI hl) (NW hI hh) (Ah _) hc
    simp [Instr.sliceAt,Instr.slice,run_underlying hu,hb,cutS]
   ·exact Bp
  ·rename_i e s e' hT
   obtain ⟨ET,ie,hu,Em,Bu,_⟩:=(hE.ty _ _ hT).und
   split
   ·rename_i nv
    obtain ⟨p,n,cap,hv,hr,CM,hn,hm,ht⟩:=bC rx
    rw [hv] at hr ht
    have go:∀ (l h:Int) (z:List e.D),FQ σ 0 lo=some l→FQ σ (n:Int) hi=some h→CU l h (n:Int)=true→z=(s.take h.toNat).drop l.toNat→
      ∃ v,(execOp a.eval o).run P w = .ok (.value v) w∧RepA (okG B ok0 g w) g σ w (.dat (.sl e) z []) v:=by
     intro l h z hl hh hc hz
     obtain ⟨c0,c1,c2⟩:=Ey hc
     refine ⟨_,BA _ _ hv (Yf hu Em (NW hI hl) (NW hI hh) hn hc),?_⟩
     rw [Bu,← nv,hz]
     exact Qf (t:= .sl e) (Ypn hr (by omega) (by omega))
    split
    ·-- the whole: nothing is cut off
     rename_i _ _
     have ny:=Yf (P:=P) (w:=w) (T:=T) hu Em (p:=p) (n:=n) (cap:=cap) (lo:=none) (hi':=none) (l:=0) (h:=n) rfl rfl hn
      (by unfold CU;simp)
     refine CY hI hd (v:= .slice p n cap) (BA _ _ hv ?_) ⟨_,hr,rfl,ht⟩
     rw [show (Option.map a.eval none:Option Value)=none from rfl,ny]
     cases p with
     | none=>simp
     | some A=>simp [Addr.add]
    ·rename_i lo1
     split
     ·rename_i l hl
      refine IF hI hd fun hc=>go l (n:Int) _ hl rfl (by unfold AP at hc;rw [CM] at hc;obtain ⟨c0,c1,c2⟩:=Ey hc;unfold CU;simp;omega) ?_
      rw [show ((n:Int)).toNat=n from rfl,← CM,Ar]
     ·exact Bp
    ·split
     ·rename_i h hh
      refine IF hI hd fun hc=>go 0 h _ rfl (by simpa [FQ] using hh) (by unfold AP at hc;rw [CM] at hc;exact hc) rfl
     ·exact Bp
    ·split
     ·rename_i l h hl hh
      refine IF hI hd fun hc=>go l h _ hl (by simpa [FQ] using hh) (by unfold AP at hc;rw [CM] at hc;exact hc) rfl
     ·exact Bp
   ·exact Bp
  ·exact Bp
 ·rename_i id ver hx
  rw [hx] at rx
  split
  ·rename_i n e e' s fz hT hc
   split
   ·rename_i JW
    obtain ⟨b,f,hb,hp⟩:=rx.2 JW.1
    obtain ⟨ET,hu,DY,CL,_⟩:=hE.ar T n e hT
    obtain ⟨ie,Em,Bu,_⟩:=DY.info
    split
    ·rename_i l h hl hh
     refine IF hI hd fun Hs=>?_
     rw [Bool.and_eq_true] at Hs
     have Jq:n=s.length:=Ak Hs.2
     obtain ⟨c0,c1,c2⟩:=Ey Hs.1
     have E2:=eh (P:=P) (w:=w) (isSlice:=false) (cap:=n) (NW hI hl) (NW hI hh) (Ah _) Hs.1
     refine ⟨.slice (some (if n=l.toNat then ⟨b,0,none⟩ else (⟨b,0,none⟩:Addr).add (l.toNat*ie.size))) (h.toNat-l.toNat) (n-l.toNat),BA _ _ hp ?_,rx.1,fun _=>?_⟩
     ·simp only [Instr.sliceAt,Sem.run_bind,run_underlying hu,Result.andThen_ok,Instr.sureAddr,Sem.run_pure,E2,sizeOf,typeInfo,run_program,Em]
     ·refine ⟨e',s,fz,_,_,hc,by omega,by omega,by omega,fun Cb=>⟨b,f,hb,?_⟩,fun A hA=>?_,rfl⟩
      ·rw [if_neg (by omega),Hx ⟨b,0,none⟩ rfl,Bu,JW.2];simp
      ·cases hA;split
       ·rfl
       ·rw [Hx ⟨b,0,none⟩ rfl]
    ·exact Bp
   ·exact Bp
  ·exact Bp
 ·rename_i id ver lo' n hx
  rw [hx] at rx
  split
  ·rename_i e e' s fz hT hc
   split
   ·rename_i JW
    obtain ⟨e2,s2,Hp,A,cap,B2,MK,Fa,CL,hA,KH,hp⟩:=rx.2 JW.1
    rw [hc] at B2;cases B2
    obtain ⟨ET,ie,hu,Em,Bu,_⟩:=(hE.ty _ _ hT).und
    split
    ·rename_i l h hl hh
     refine IF hI hd fun Hs=>?_
     obtain ⟨c0,c1,c2⟩:=Ey Hs
     refine ⟨_,BA _ _ hp (Yf hu Em (NW hI hl) (NW hI hh) Fa Hs),rx.1,fun _=>?_⟩
     refine ⟨e',s,fz,_,_,hc,by omega,by omega,by omega,fun Cb=>?_,fun A' DR=>?_,rfl⟩
     ·obtain ⟨b,f,hb,Sy⟩:=hA (by omega)
      refine ⟨b,f,hb,?_⟩
      rw [if_neg (by omega),Sy]
      simp [Hx ⟨b,lo'*e'.sz,none⟩ rfl,Bu,JW.2,Nat.add_mul]
     ·split at DR
      ·exact KH A' DR
      ·cases A with
       | none=>cases DR
       | some A0=>
        simp only [Option.map_some,Option.some.injEq] at DR
        rw [← DR,Hx A0 (KH A0 rfl)]
    ·exact Bp
   ·exact Bp
  ·exact Bp
 ·rename_i id ver hx
  rw [hx] at rx
  split
  ·rename_i e e' s fz hT hc
   split
   ·rename_i JW
    obtain ⟨e2,s2,Hp,B2,Io⟩:=rx.2 JW.1
    rw [hc] at B2;cases B2
    obtain ⟨A,cap,hp,Fa,CL,hA,KH⟩:=Io.form
    obtain ⟨ET,ie,hu,Em,Bu,_⟩:=(hE.ty _ _ hT).und
    split
    ·rename_i l h hl hh
     refine IF hI hd fun Hs=>?_
     unfold AP at Hs
     obtain ⟨c0,c1,c2⟩:=Ey Hs
     refine ⟨_,BA _ _ hp (Yf hu Em (NW hI hl) (NW hI hh) Fa Hs),rx.1,fun _=>?_⟩
     refine ⟨e',s,fz,_,_,hc,by omega,by omega,by omega,fun Cb=>?_,fun A' DR=>?_,rfl⟩
     ·obtain ⟨b,f,hb,Sy⟩:=hA (by omega)
      refine ⟨b,f,hb,?_⟩
      rw [if_neg (by omega),Sy]
      simp [Hx ⟨b,0,none⟩ rfl,Bu,JW.2]
     ·split at DR
      ·exact KH A' DR
      ·cases A with
       | none=>cases DR
       | some A0=>
        simp only [Option.map_some,Option.some.injEq] at DR
        rw [← DR,Hx A0 (KH A0 rfl)]
    ·exact Bp
   ·exact Bp
  ·exact Bp
 ·exact Bp
theorem Ymt (hE:EnvOk P E) (hI:Inv B ok0 w0 g σ a w) (hd:∀ d,o.dst=some d→d<a.tmps.size) {x:Operand} {T:Nat} {c:Call} (ho:o.op = .call c)
  (hc:c.callee = .builtin .len) (ha:c.args.toList=[x]) (FI:c.argTypes.toList=[T]):
  Dp P B ok0 w0 (LN (E.ty T) o σ (A8 σ x)) o a w:=by
 have Ln:c.args = #[x]:=by rw [← Array.toArray_toList (xs:=c.args),ha]
 have Pw:c.argTypes = #[T]:=by rw [← Array.toArray_toList (xs:=c.argTypes),FI]
 have BA:∀ u v,a.eval x=u→(Builtin.len_ #[T] o.type #[u]).run P w = .ok v w→(execOp a.eval o).run P w = .ok (.value v) w:=by
  intro u v hu hv
  unfold execOp;rw [ho]
  subst hu
  simp [resolve,hc,Ln,Pw,invoke,builtin,hv]
 have rx:=Ec hI x
 unfold LN
 split
 ·rename_i hT
  have hu:P.underlying T=some .string:=(hE.ty _ _ hT).und
  split
  ·rename_i s gs hx
   exact CY hI hd (BA _ _ (Ru hI hx) (by simp [Builtin.len_,run_underlying hu,goInt];rfl)) (Hw _ _)
  ·exact Bp
 ·rename_i e hT
  obtain ⟨ET,ie,hu,_⟩:=(hE.ty _ _ hT).und
  have go:∀ p n cap,a.eval x = .slice p n cap→(execOp a.eval o).run P w = .ok (.value (.int .i64 (n:Int))) w:=
   fun p n cap hx=>BA _ _ hx (by simp [Builtin.len_,run_underlying hu,goInt])
  split
  ·rename_i e' l gs hx
   rw [hx] at rx
   obtain ⟨p,n,cap,hv,hr,CM,_⟩:=bC rx
   exact CY hI hd (go p n cap hv) (by unfold AP;rw [CM];exact Hw _ _)
  ·rename_i hx
   rw [hx] at rx
   exact CY hI hd (go none 0 0 rx) (Hw _ _)
  ·rename_i id ver hx
   rw [hx] at rx
   split
   ·rename_i hv
    split
    ·rename_i e' l fz Ct
     obtain ⟨e2,l2,Hp,B2,Io⟩:=rx.2 hv
     rw [Ct] at B2;cases B2
     obtain ⟨p,cap,hp,_⟩:=Io.form
     exact CY hI hd (go _ _ _ hp) (Hw _ _)
    ·exact Bp
   ·exact Bp
  ·rename_i id ver lo n hx
   rw [hx] at rx
   split
   ·rename_i hv
    obtain ⟨e2,l2,Hp,A,cap,B2,_,_,_,_,_,hp⟩:=rx.2 hv
    exact CY hI hd (go _ _ _ hp) (Hw _ _)
   ·exact Bp
  ·exact Bp
 ·exact Bp
theorem qO {f:Int→Int→Int} {F:Value→Value→Sem Value} (hF:∀ (k j:IntKind) (x y:Int),F (.int k x) (.int j y)=pure (.int k (f x y))) (hI:Inv B ok0 w0 g σ a w) {k:IntKind}:
  ∀ (xs:List Operand) (m n:Int),Wj f k m (xs.map (A8 σ))=some n→((xs.map a.eval).foldlM F (.int k m)).run P w = .ok (.int k n) w
 | [],m,n,h=>by
  simp only [List.map_nil,Wj,Option.some.injEq] at h
  subst h
  rfl
 | x :: xs,m,n,h=>by
  simp only [List.map_cons] at h ⊢
  unfold Wj at h
  split at h
  ·rename_i heq;cases heq
  ·rename_i b hb heq
   obtain ⟨h1,h2⟩:=List.cons.inj heq
   split at h
   ·rename_i hj
    subst hj
    rw [← h2] at h
    rw [List.foldlM_cons,JA hI h1,hF]
    simp only [Sem.run_bind,Sem.run_pure,Result.andThen_ok]
    exact qO hF hI xs _ n h
   ·cases h
  ·cases h
theorem qJ (hI:Inv B ok0 w0 g σ a w) (hd:∀ d,o.dst=some d→d<a.tmps.size) {f:Int→Int→Int} {F:Value→Value→Sem Value} (hF:∀ (k j:IntKind) (x y:Int),F (.int k x) (.int j y)=pure (.int k (f x y)))
  {xs:List Operand} (BA:∀ v r,xs.map a.eval=v :: r→∀ u,(r.foldlM F v).run P w = .ok u w→(execOp a.eval o).run P w = .ok (.value u) w):
  Dp P B ok0 w0 (MX f o σ (xs.map (A8 σ))) o a w:=by
 cases xs with
 | nil=>exact Bp
 | cons x xs=>
  unfold MX
  simp only [List.map_cons]
  split
  ·rename_i k m gs r heq
   obtain ⟨h1,h2⟩:=List.cons.inj heq
   split
   ·rename_i n hn
    rw [← h2] at hn
    have hx:=JA hI h1
    exact CY hI hd (BA (a.eval x) (xs.map a.eval) rfl (.int k n) (by rw [hx];exact qO hF hI xs m n hn)) (Hw _ _)
   ·exact Bp
  ·exact Bp
end
end Go.AM
end

section
/- New boxes, new rows, writes: what the invariant becomes. -/
namespace Go.AM
open Go.RowKit (Below)
set_option linter.unusedSectionVars false
variable [Lay]
section
variable {P : Program} {B : Bd} {ok0 : Nat → Nat → Prop} {w0 w w' : World} {g : G} {σ : St} {a : Act} {o : Oper} {E : Env}
theorem L6 (w:World) (ob:Obj):Below w.heap.size w (w.alloc ob):=(Below.refl _ _).alloc (Ah _) ob
theorem eg (w:World):Below w.heap.size w w.drew:=(Below.refl _ _).drew
def G.Dq (g:G) (id b:Nat) (f:Bool):G:={ g with bx:=Ed g.bx id (some (b,f)) }
def G.Kt (g:G) (id:Nat) (r:Option (Nat×Nat)):G:={ g with rw:=Ed g.rw id r }
theorem Inv.Cw (h:Inv B ok0 w0 g σ a w) {nb id:Nat} (mv:id<pid0) (hb:Below w.heap.size w w') (h1:w.heap.size≤nb) (h2:nb<w'.heap.size) {c:Con}
    (hc:∀ ok g' σ',Ext (okG B ok0 g w) ok g g' σ σ' w w'→ConOk ok g' σ' w' nb false c):
    Inv B ok0 w0 (g.Dq id nb false) (σ.Cw id c) a w':=by
  have Gc:∀ id' b f,g.bx id'=some (b,f)→b≠nb:=fun id' b f hh=>by have:=(h.bb id' b f hh).2;omega
  have hnr:∀ id' b u,g.rw id'=some (b,u)→b≠nb:=fun id' b u hh=>by have:=(h.rb id' b u hh).2.1;omega
  have EB:=Ext.LB h hb
  have SC:B.n≤w.heap.size:=by have:=h.below.size;have:=h.hB;omega
  have hx:Ext (okG B ok0 g w) (okG B ok0 (g.Dq id nb false) w') g (g.Dq id nb false) σ (σ.Cw id c) w w':=
    { cell := fun b off hk => by
        refine ⟨?_,(EB.cell b off hk).2⟩
        rcases (EB.cell b off hk).1 with CF | ⟨q1,q2,q3,q4⟩
        · exact .inl CF
        · refine .inr ⟨q1,q2,fun id' he=>?_,q4⟩
          unfold G.Dq at he
          simp only [BD] at he
          split at he
          · cases he
            have:=h.okB hk
            omega
          · exact q3 id' he
      box:=fun id' ver hv=>by
        simp only [St.Cw,G.Dq,BD]
        by_cases hid:id'=id
        · subst hid
          simp only [if_true]
          exact ⟨by omega,fun he=>by omega⟩
        · simp only [if_neg hid]
          exact ⟨hv,fun he=>⟨he,fun b f hh=>⟨f,hh⟩,fun e l fz Ct=>⟨l,fz,Ct,rfl⟩,fun hn=>hn,fun b f cur T y _ CD hh=>⟨cur,y,(hb.block b (h.bb id' b f CD).2).trans hh,rfl⟩⟩⟩
      row:=fun id' ver h0 hv=>EB.row id' ver h0 hv }
  have hg:=h.grown hb
  exact {
    below:=hg.below,hB:=h.hB,h0:=h.h0,hR:=h.hR,defers:=h.defers,lay:=h.lay,tm:=h.tm
    nm:=fun id' b f hi hh=>by
      simp only [G.Dq,BD] at hh
      split at hh
      · omega
      · exact h.nm id' b f hi hh
    bb:=fun id' b f hh=>by
      simp only [G.Dq,BD] at hh
      split at hh
      · cases hh;exact ⟨.inl (by omega),h2⟩
      · exact hg.bb id' b f hh
    bi:=fun i1 i2 b f f' e1 e2=>by
      simp only [G.Dq,BD] at e1 e2
      split at e1 <;> split at e2
      · simp_all
      · cases e1;exact absurd rfl (Gc _ _ _ e2)
      · cases e2;exact absurd rfl (Gc _ _ _ e1)
      · exact h.bi _ _ _ _ _ e1 e2
    rb:=fun id' b u hh=>by
      obtain ⟨q1,q2,q3⟩:=hg.rb id' b u hh
      refine ⟨q1,q2,fun i2 f he=>?_⟩
      simp only [G.Dq,BD] at he
      split at he
      · cases he;exact hnr id' _ u hh rfl
      · exact q3 i2 f he
    ri:=h.ri
    con:=fun id' c' Ct=>by
      simp only [St.Cw,BD] at Ct
      split at Ct
      · rename_i hid
        cases Ct
        exact .inr ⟨nb,false,by simp [G.Dq,BD,hid],hc _ _ _ hx⟩
      · rename_i hid
        rcases h.con id' c' Ct with ⟨hn,he⟩ | ⟨b,f,CD,hk⟩
        · exact .inl ⟨by simp [G.Dq,BD,hid,hn],he⟩
        exact .inr ⟨b,f,by simp [G.Dq,BD,hid,CD],hk.ext hx (hb.block b (h.bb id' b f CD).2)⟩
    slots:=fun t=>(h.slots t).ext hx }
theorem Inv.uU (h:Inv B ok0 w0 g σ a w) (hb:Below w.heap.size w w') {ρ:Nat→Option (Option (Nat×Nat))} {σ':St} {g':G}
    (PJ:g' = { g with rw:=fun id=>match ρ id with | some r=>r | none=>g.rw id })
    (hs:σ' = { σ with r:=fun id=>match ρ id with | some _=>σ.r id+1 | none=>σ.r id })
    (h1:∀ id b u,ρ id=some (some (b,u))→w.heap.size≤b∧b<w'.heap.size)
    (h2:∀ id id' b u u',ρ id=some (some (b,u))→ρ id'=some (some (b,u'))→id=id'):
    Inv B ok0 w0 g' σ' a w'∧Ext (okG B ok0 g w) (okG B ok0 g' w') g g' σ σ' w w':=by
  have EB:=Ext.LB h hb
  have hg:=h.grown hb
  have SC:B.n≤w.heap.size:=by have:=h.below.size;have:=h.hB;omega
  subst PJ
  subst hs
  have hx:Ext (okG B ok0 g w) (okG B ok0 { g with rw:=fun id=>match ρ id with | some r=>r | none=>g.rw id } w') g { g with rw:=fun id=>match ρ id with | some r=>r | none=>g.rw id } σ
      { σ with r:=fun id=>match ρ id with | some _=>σ.r id+1 | none=>σ.r id } w w':=
    { cell := fun b off hk => by
        refine ⟨?_,(EB.cell b off hk).2⟩
        rcases (EB.cell b off hk).1 with CF | ⟨q1,q2,q3,q4⟩
        · exact .inl CF
        · refine .inr ⟨q1,q2,q3,fun id u he=>?_⟩
          simp only at he
          split at he
          · rename_i r hr
            rw [he] at hr
            have:=(h1 id b u hr).1
            have:=h.okB hk
            omega
          · exact q4 id u he
      box:=fun id ver hv=>⟨hv,fun he=>⟨he,fun b f hh=>⟨f,hh⟩,fun e l fz Ct=>⟨l,fz,Ct,rfl⟩,fun hn=>hn,fun b f cur T y _ CD hh=>⟨cur,y,(hb.block b (h.bb id b f CD).2).trans hh,rfl⟩⟩⟩
      row:=fun id ver h0 hv=>by
        simp only
        cases hr:ρ id with
        | some r=>simp only;exact ⟨by omega,fun he=>by omega⟩
        | none=>simp only;exact EB.row id ver h0 hv }
  refine ⟨?_,hx⟩
  exact {
    below:=hg.below,hB:=h.hB,h0:=h.h0,hR:=h.hR,defers:=h.defers,lay:=h.lay,tm:=h.tm,nm:=h.nm,bb:=hg.bb,bi:=h.bi
    rb:=fun id b u hh=>by
      simp only at hh
      split at hh
      · rename_i r hr
        rw [hh] at hr
        obtain ⟨q1,q2⟩:=h1 id b u hr
        exact ⟨by omega,q2,fun id' f he=>by have:=(h.bb id' b f he).2;omega⟩
      · exact hg.rb id b u hh
    ri:=fun id id' b u u' e1 e2=>by
      cases q1:ρ id with
      | some r1=>
        simp only [q1] at e1
        subst e1
        cases q2:ρ id' with
        | some r2=>simp only [q2] at e2;subst e2;exact h2 _ _ _ _ _ q1 q2
        | none=>simp only [q2] at e2;have:=(h1 _ _ _ q1).1;have:=(h.rb _ _ _ e2).2.1;omega
      | none=>
        simp only [q1] at e1
        cases q2:ρ id' with
        | some r2=>simp only [q2] at e2;subst e2;have:=(h1 _ _ _ q2).1;have:=(h.rb _ _ _ e1).2.1;omega
        | none=>simp only [q2] at e2;exact h.ri _ _ _ _ _ e1 e2
    con:=fun id c Ct=>by
      rcases h.con id c Ct with hn | ⟨b,f,CD,hk⟩
      · exact .inl hn
      exact .inr ⟨b,f,CD,hk.ext hx (hb.block b (h.bb id b f CD).2)⟩
    slots:=fun t=>(h.slots t).ext hx }
theorem ou {b:Nat} {cs:Array Value} (hb:B.n≤b∨b∈B.io∨∃ u,some (b,u)∈B.rows) (hr:∀ u cur T y,some (b,u)∈B.rows→b<B.n→w.heap[b]? = some (.cells cur T y)→cs.size=cur.size∧∀ o,o<u→cs[o]? = cur[o]?)
  (hi:b∈B.io→∀ cur T y,w.heap[b]? = some (.cells cur T y)→cs.size=cur.size) (h:BelowX B w0 w):BelowX B w0 (w.setRow b cs) where
 os:=h.os
 tape:=h.tape
 output:=h.output
 size:=by have:=h.size;simp [World.setRow];exact this
 block:=fun k hk hn hq=>(setRow_other w b k cs (by
  rintro rfl
  rcases hb with hb | hb | ⟨u,hb⟩
  ·omega
  ·exact hn hb
  ·exact hq u hb)).trans (h.block k hk hn hq)
 rowc:=fun k u cur T y hk AO hh=>by
  obtain ⟨cur',z,h1,h2,h3⟩:=h.rowc k u cur T y hk AO hh
  by_cases SF:k=b
  ·subst SF
   obtain ⟨h4,h5⟩:=hr u cur' T z hk AO h1
   exact ⟨cs,z,by
    obtain ⟨z1,z2⟩:=z
    exact setRow_heap w k _ _ _ _ h1,h4.trans h2,fun o ho=>(h5 o ho).trans (h3 o ho)⟩
  ·exact ⟨cur',z,(setRow_other w b k cs SF).trans h1,h2,h3⟩
 ioc:=fun k cur T y hk AO hh=>by
  obtain ⟨cur',z,h1,h2⟩:=h.ioc k cur T y hk AO hh
  by_cases SF:k=b
  ·subst SF
   exact ⟨cs,z,by
    obtain ⟨z1,z2⟩:=z
    exact setRow_heap w k _ _ _ _ h1,(hi hk cur' T z h1).trans h2⟩
  ·exact ⟨cur',z,(setRow_other w b k cs SF).trans h1,h2⟩
theorem oJ (h:Inv B ok0 w0 g σ a w) {b:Nat} {cs:Array Value} (hb:B.n≤b∨b∈B.io) (Co:∀ cur T y,w.heap[b]? = some (.cells cur T y)→cs.size=cur.size):BelowX B w0 (w.setRow b cs):=
 ou (by rcases hb with hb | hb;exact .inl hb;exact .inr (.inl hb)) (fun u cur T y hq AO _=>by
  rcases hb with hb | hb
  ·omega
  ·exact absurd hb (h.hR b u hq).2.1) (fun _=>Co) h.below
theorem setRow_size (w:World) (b:Nat) (cs:Array Value):(w.setRow b cs).heap.size=w.heap.size:=by simp [World.setRow]
theorem Inv.Y0 (h:Inv B ok0 w0 g σ a w) {id b:Nat} {c0 c:Con} (Iz:σ.c id=some c0) (Db:g.bx id=some (b,false)) {cs:Array Value}
    (mw:∀ e l fz,c0 = .arr e l fz→∃ l' fz',c = .arr e l' fz'∧List.length (α:=e.D) l'=List.length (α:=e.D) l) (Co:∀ cur T y,w.heap[b]? = some (.cells cur T y)→cs.size=cur.size)
    (hc:∀ ok σ',Ext (okG B ok0 g w) ok g g σ σ' w (w.setRow b cs)→ConOk ok g σ' (w.setRow b cs) b false c):
    Inv B ok0 w0 g (σ.CR id c) a (w.setRow b cs):=by
  have Im:B.n≤b∨b∈B.io:=by rcases (h.bb id b false Db).1 with h | h;exact .inl h;exact .inr h.1
  have hx:Ext (okG B ok0 g w) (okG B ok0 g (w.setRow b cs)) g g σ (σ.CR id c) w (w.setRow b cs):=
    { cell := fun b' off hk => by
        have Cb:b'≠b:=by
          rcases hk with hk | ⟨_,_,q3,_⟩
          · have:=h.h0 _ _ hk
            rintro rfl
            rcases Im with Im | Im
            · omega
            · exact this.2.1 Im
          · intro e;subst e;exact q3 id Db
        refine ⟨?_,?_⟩
        · rcases hk with hk | ⟨q1,q2,q3,q4⟩
          · exact .inl hk
          · exact .inr ⟨q1,by rw [setRow_size];exact q2,q3,q4⟩
        · exact cell_setRow_other w b cs _ Cb
      box:=fun id' ver hv=>by
        refine ⟨hv,fun he=>⟨he,fun b f hh=>⟨f,hh⟩,fun e l fz Ct=>?_,fun hn=>hn,fun b1 f cur T y _ CD hh=>?_⟩⟩
        · simp only [St.CR,BD]
          by_cases hid:id'=id
          · subst hid
            rw [Iz] at Ct
            cases Ct
            obtain ⟨l',fz',e1,e2⟩:=mw e l fz rfl
            exact ⟨l',fz',by simp [e1],e2⟩
          · exact ⟨l,fz,by rw [if_neg hid];exact Ct,rfl⟩
        · by_cases Gd:b1=b
          · subst Gd
            exact ⟨cs,y,setRow_heap w b1 _ _ _ _ hh,Co cur T _ hh⟩
          · exact ⟨cur,y,(setRow_other w b b1 cs Gd).trans hh,rfl⟩
      row:=fun id' ver h0 hv=>⟨hv,fun he=>⟨he,fun b' u hh=>⟨hh,setRow_other w b b' cs (fun e=>by subst e;exact (h.rb id' _ u hh).2.2 id false Db)⟩⟩⟩ }
  exact {
    below:=oJ h Im Co,hB:=h.hB,h0:=h.h0,hR:=h.hR,defers:=h.defers,lay:=h.lay,tm:=h.tm,nm:=h.nm
    bb:=fun id' b' f' hh=>by rw [setRow_size];exact h.bb id' b' f' hh
    bi:=h.bi
    rb:=fun id' b' u hh=>by rw [setRow_size];exact h.rb id' b' u hh
    ri:=h.ri
    con:=fun id' c' Ct=>by
      simp only [St.CR,BD] at Ct
      split at Ct
      · rename_i hid
        cases Ct
        subst hid
        exact .inr ⟨b,false,Db,hc _ _ hx⟩
      · rename_i hid
        rcases h.con id' c' Ct with hn | ⟨b',f',CD,hk⟩
        · exact .inl hn
        exact .inr ⟨b',f',CD,hk.ext hx (setRow_other w b b' cs (fun e=>by subst e;exact hid (h.bi _ _ _ _ _ CD Db)))⟩
    slots:=fun t=>(h.slots t).ext hx }
theorem Inv.s5 (h:Inv B ok0 w0 g σ a w) {id b:Nat} {f:Bool} {c0 c1:Con} (Iz:σ.c id=some c0) (CD:g.bx id=some (b,f)) (hid:id<pid0) (mw:∀ e l fz,c0 = .arr e l fz→∃ l' fz',c1 = .arr e l' fz'∧List.length (α:=e.D) l'=List.length (α:=e.D) l)
    (SG:∀ b f ok g' σ',ConOk ok g' σ' w b f c0→ConOk ok g' σ' w b true c1):
    ∃ g',g'.bx id=some (b,true)∧Inv B ok0 w0 g' (σ.CR id c1) a w∧Ext (okG B ok0 g w) (okG B ok0 g' w) g g' σ (σ.CR id c1) w w∧
      ∀ o,okG B ok0 g' w b o:=by
  have hk:=h.Hj CD Iz
  have E2:B.n≤b∧b<w.heap.size:=by
    obtain ⟨h1,h2⟩:=h.bb id b f CD
    rcases h1 with h1 | h1
    · exact ⟨h1,h2⟩
    · omega
  have hx:Ext (okG B ok0 g w) (okG B ok0 (g.Dq id b true) w) g (g.Dq id b true) σ (σ.CR id c1) w w:=
    { cell := fun b' off CF => by
        refine ⟨?_,rfl⟩
        rcases CF with CF | ⟨q1,q2,q3,q4⟩
        · exact .inl CF
        · refine .inr ⟨q1,q2,fun id' he=>?_,q4⟩
          simp only [G.Dq,BD] at he
          split at he
          · cases he
          · exact q3 id' he
      box:=fun id' ver hv=>by
        refine ⟨hv,fun he=>⟨he,fun b' f' hh=>?_,fun e' l' fz' Ct=>?_,fun hn=>?_,fun b' f' cur T y _ _ hh=>⟨cur,y,hh,rfl⟩⟩⟩
        · simp only [G.Dq,BD]
          by_cases hid:id'=id
          · subst hid;rw [CD] at hh;cases hh;exact ⟨true,by simp⟩
          · exact ⟨f',by rw [if_neg hid];exact hh⟩
        · simp only [St.CR,BD]
          by_cases hid:id'=id
          · subst hid;rw [Iz] at Ct;cases Ct;obtain ⟨l',Yw4,e1,e2⟩:=mw _ _ _ rfl;exact ⟨l',Yw4,by simp [e1],e2⟩
          · exact ⟨l',fz',by rw [if_neg hid];exact Ct,rfl⟩
        · simp only [G.Dq,BD]
          by_cases hid:id'=id
          · subst hid;rw [CD] at hn;cases hn
          · rw [if_neg hid];exact hn
      row:=fun id' ver h0 hv=>⟨hv,fun he=>⟨he,fun b' u hh=>⟨hh,rfl⟩⟩⟩ }
  refine ⟨g.Dq id b true,by simp [G.Dq,BD],?_,hx,fun o=> .inr ⟨.inl E2.1,E2.2,fun id' he=>?_,fun id' u he=>?_⟩⟩
  · exact {
      below:=h.below,hB:=h.hB,h0:=h.h0,hR:=h.hR,defers:=h.defers,lay:=h.lay,tm:=h.tm
      nm:=fun id' b' f' hi hh=>by
        simp only [G.Dq,BD] at hh
        split at hh
        · omega
        · exact h.nm id' b' f' hi hh
      bb:=fun id' b' f' hh=>by
        simp only [G.Dq,BD] at hh
        split at hh
        · cases hh;exact ⟨.inl E2.1,E2.2⟩
        · exact h.bb id' b' f' hh
      bi:=fun i1 i2 b' f1 f2 e1 e2=>by
        simp only [G.Dq,BD] at e1 e2
        split at e1 <;> split at e2
        · simp_all
        · cases e1;rename_i q1 q2;rw [q1];exact (h.bi _ _ _ _ _ e2 CD).symm
        · cases e2;rename_i q1 q2;rw [q2];exact h.bi _ _ _ _ _ e1 CD
        · exact h.bi _ _ _ _ _ e1 e2
      rb:=fun id' b' u hh=>by
        obtain ⟨q1,q2,q3⟩:=h.rb id' b' u hh
        refine ⟨q1,q2,fun i2 f' he=>?_⟩
        simp only [G.Dq,BD] at he
        split at he
        · cases he;exact q3 id f CD
        · exact q3 i2 f' he
      ri:=h.ri
      con:=fun id' c' Ct=>by
        simp only [St.CR,BD] at Ct
        split at Ct
        · rename_i hid
          cases Ct
          exact .inr ⟨b,true,by simp [G.Dq,BD,hid],SG _ _ _ _ _ (hk.ext hx rfl)⟩
        · rename_i hid
          rcases h.con id' c' Ct with ⟨hn,he⟩ | ⟨b',f',my,CF⟩
          · exact .inl ⟨by simp [G.Dq,BD,hid,hn],he⟩
          exact .inr ⟨b',f',by simp [G.Dq,BD,hid,my],CF.ext hx rfl⟩
      slots:=fun t=>(h.slots t).ext hx }
  · simp only [G.Dq,BD] at he
    split at he
    · cases he
    · rename_i hid;exact hid (h.bi _ _ _ _ _ he CD)
  · exact absurd CD ((h.rb id' b u he).2.2 id f)
theorem Inv.freeze (h:Inv B ok0 w0 g σ a w) {id b:Nat} {f:Bool} {e:Ty} {l:List e.D} {fz:Bool} (Iz:σ.c id=some (.arr e l fz)) (CD:g.bx id=some (b,f)) (hid:id<pid0):
  ∃ g',g'.bx id=some (b,true)∧Inv B ok0 w0 g' (σ.CR id (.arr e l true)) a w∧Ext (okG B ok0 g w) (okG B ok0 g' w) g g' σ (σ.CR id (.arr e l true)) w w∧
   ∀ o,okG B ok0 g' w b o:=
 h.s5 Iz CD hid (fun e' l' fz' he=>by cases he;exact ⟨l,true,rfl,rfl⟩) fun b f ok g' σ' hk=>⟨rfl,hk.2⟩
theorem Inv.eL (h:Inv B ok0 w0 g σ a w) {id:Nat} {e:Ty} {l:List e.D} {fz:Bool} (Iz:σ.c id=some (.arr e l fz)) (hn:g.bx id=none):
    Inv B ok0 w0 g (σ.CR id (.arr e l true)) a w∧Ext (okG B ok0 g w) (okG B ok0 g w) g g σ (σ.CR id (.arr e l true)) w w:=by
  have hx:Ext (okG B ok0 g w) (okG B ok0 g w) g g σ (σ.CR id (.arr e l true)) w w:=
    { cell := fun b' off CF => ⟨CF, rfl⟩
      box:=fun id' ver hv=>by
        refine ⟨hv,fun he=>⟨he,fun b' f' hh=>⟨f',hh⟩,fun e' l' fz' Ct=>?_,fun hn=>hn,fun b' f' cur T y _ _ hh=>⟨cur,y,hh,rfl⟩⟩⟩
        simp only [St.CR,BD]
        by_cases hid:id'=id
        · subst hid;rw [Iz] at Ct;cases Ct;exact ⟨l,true,by simp,rfl⟩
        · exact ⟨l',fz',by rw [if_neg hid];exact Ct,rfl⟩
      row:=fun id' ver h0 hv=>⟨hv,fun he=>⟨he,fun b' u hh=>⟨hh,rfl⟩⟩⟩ }
  refine ⟨?_,hx⟩
  exact {
    below:=h.below,hB:=h.hB,h0:=h.h0,hR:=h.hR,defers:=h.defers,lay:=h.lay,tm:=h.tm,nm:=h.nm,bb:=h.bb,bi:=h.bi,rb:=h.rb,ri:=h.ri
    con:=fun id' c' Ct=>by
      simp only [St.CR,BD] at Ct
      split at Ct
      · rename_i hid
        cases Ct
        subst hid
        rcases h.con id' _ Iz with ⟨_,e',fz',he⟩ | ⟨b,f,hb,_⟩
        · cases he;exact .inl ⟨hn,e,true,rfl⟩
        · rw [hn] at hb;cases hb
      · rcases h.con id' c' Ct with hn | ⟨b',f',my,CF⟩
        · exact .inl hn
        · exact .inr ⟨b',f',my,CF.ext hx rfl⟩
    slots:=fun t=>(h.slots t).ext hx }
theorem Inv.capture (h:Inv B ok0 w0 g σ a w) {id b:Nat} {f:Bool} {t:Ty} {x:t.D} {gs:List Tag} (Iz:σ.c id=some (.var t x gs)) (CD:g.bx id=some (b,f)) (hid:id<pid0):
  ∃ g',g'.bx id=some (b,true)∧Inv B ok0 w0 g' (σ.CR id (.arr t [x] true)) a w∧Ext (okG B ok0 g w) (okG B ok0 g' w) g g' σ (σ.CR id (.arr t [x] true)) w w∧
   ∀ o,okG B ok0 g' w b o:=
 h.s5 Iz CD hid (fun e' l' fz' he=>by cases he) fun b f ok g' σ' hk=>by
  obtain ⟨_,cs,T,h1,h2,_⟩:=hk
  refine ⟨rfl,cs.toArray,T,_,h1, .inl rfl,by simp [h2.len],by show 1≤maxLen;unfold maxLen;exact Ak rfl,fun i y hi=>?_⟩
  cases i with
  | zero=>
   simp at hi
   subst hi
   exact ⟨cs,h2,fun j u hj=>by simpa using hj⟩
  | succ i=>simp at hi
theorem Inv.zN (h:Inv B ok0 w0 g σ a w) (id:Nat) (e:Ty):
    Inv B ok0 w0 { g with bx:=Ed g.bx id none } (σ.Cw id (.arr e [] false)) a w:=by
  have hx:Ext (okG B ok0 g w) (okG B ok0 { g with bx:=Ed g.bx id none } w) g { g with bx:=Ed g.bx id none } σ (σ.Cw id (.arr e [] false)) w w:=
    { cell := fun b' off CF => by
        refine ⟨?_,rfl⟩
        rcases CF with CF | ⟨q1,q2,q3,q4⟩
        · exact .inl CF
        · refine .inr ⟨q1,q2,fun id' he=>?_,q4⟩
          simp only [BD] at he
          split at he
          · cases he
          · exact q3 id' he
      box:=fun id' ver hv=>by
        simp only [St.Cw,BD]
        by_cases hid:id'=id
        · subst hid
          simp only [if_true]
          exact ⟨by omega,fun he=>by omega⟩
        · simp only [if_neg hid]
          exact ⟨hv,fun he=>⟨he,fun b f hh=>⟨f,hh⟩,fun e l fz Ct=>⟨l,fz,Ct,rfl⟩,fun hn=>hn,fun b f cur T y _ CD hh=>⟨cur,y,hh,rfl⟩⟩⟩
      row:=fun id' ver h0 hv=>⟨hv,fun he=>⟨he,fun b' u hh=>⟨hh,rfl⟩⟩⟩ }
  exact {
    below:=h.below,hB:=h.hB,h0:=h.h0,hR:=h.hR,defers:=h.defers,lay:=h.lay,tm:=h.tm
    nm:=fun id' b f hi hh=>by
      simp only [BD] at hh
      split at hh
      · cases hh
      · exact h.nm id' b f hi hh
    bb:=fun id' b f hh=>by
      simp only [BD] at hh
      split at hh
      · cases hh
      · exact h.bb id' b f hh
    bi:=fun i1 i2 b f f' e1 e2=>by
      simp only [BD] at e1 e2
      split at e1 <;> split at e2 <;> first | cases e1 | cases e2 | exact h.bi _ _ _ _ _ e1 e2
    rb:=fun id' b u hh=>by
      obtain ⟨q1,q2,q3⟩:=h.rb id' b u hh
      refine ⟨q1,q2,fun i2 f he=>?_⟩
      simp only [BD] at he
      split at he
      · cases he
      · exact q3 i2 f he
    ri:=h.ri
    con:=fun id' c' Ct=>by
      simp only [St.Cw,BD] at Ct
      split at Ct
      · rename_i hid
        cases Ct
        exact .inl ⟨by simp [BD,hid],e,false,rfl⟩
      · rename_i hid
        rcases h.con id' c' Ct with ⟨hn,he⟩ | ⟨b,f,CD,hk⟩
        · exact .inl ⟨by simp [BD,hid,hn],he⟩
        · exact .inr ⟨b,f,by simp [BD,hid,CD],hk.ext hx rfl⟩
    slots:=fun t=>(h.slots t).ext hx }
theorem Inv.Yrt (h:Inv B ok0 w0 g σ a w) {id b:Nat} {c:Con} (Db:g.bx id=some (b,false)) {cs:Array Value}
    (hc:∀ ok σ',Ext (okG B ok0 g w) ok g g σ σ' w (w.setRow b cs)→ConOk ok g σ' (w.setRow b cs) b false c) (Co:∀ cur T y,w.heap[b]? = some (.cells cur T y)→cs.size=cur.size):
    Inv B ok0 w0 g (σ.Cw id c) a (w.setRow b cs):=by
  have Im:B.n≤b∨b∈B.io:=by rcases (h.bb id b false Db).1 with h | h;exact .inl h;exact .inr h.1
  have hx:Ext (okG B ok0 g w) (okG B ok0 g (w.setRow b cs)) g g σ (σ.Cw id c) w (w.setRow b cs):=
    { cell := fun b' off hk => by
        have Cb:b'≠b:=by
          rcases hk with hk | ⟨_,_,q3,_⟩
          · have:=h.h0 _ _ hk
            rintro rfl
            rcases Im with Im | Im
            · omega
            · exact this.2.1 Im
          · intro e;subst e;exact q3 id Db
        refine ⟨?_,cell_setRow_other w b cs _ Cb⟩
        rcases hk with hk | ⟨q1,q2,q3,q4⟩
        · exact .inl hk
        · exact .inr ⟨q1,by rw [setRow_size];exact q2,q3,q4⟩
      box:=fun id' ver hv=>by
        simp only [St.Cw,BD]
        by_cases hid:id'=id
        · subst hid
          simp only [if_true]
          exact ⟨by omega,fun he=>by omega⟩
        · simp only [if_neg hid]
          refine ⟨hv,fun he=>⟨he,fun b f hh=>⟨f,hh⟩,fun e l fz Ct=>⟨l,fz,Ct,rfl⟩,fun hn=>hn,fun b1 f cur T y _ CD hh=>?_⟩⟩
          by_cases Gd:b1=b
          · subst Gd
            exact ⟨cs,y,setRow_heap w b1 _ _ _ _ hh,Co cur T _ hh⟩
          · exact ⟨cur,y,(setRow_other w b b1 cs Gd).trans hh,rfl⟩
      row:=fun id' ver h0 hv=>⟨hv,fun he=>⟨he,fun b' u hh=>⟨hh,setRow_other w b b' cs (fun e=>by subst e;exact (h.rb id' _ u hh).2.2 id false Db)⟩⟩⟩ }
  exact {
    below:=oJ h Im Co,hB:=h.hB,h0:=h.h0,hR:=h.hR,defers:=h.defers,lay:=h.lay,tm:=h.tm,nm:=h.nm
    bb:=fun id' b' f' hh=>by rw [setRow_size];exact h.bb id' b' f' hh
    bi:=h.bi
    rb:=fun id' b' u hh=>by rw [setRow_size];exact h.rb id' b' u hh
    ri:=h.ri
    con:=fun id' c' Ct=>by
      simp only [St.Cw,BD] at Ct
      split at Ct
      · rename_i hid
        cases Ct
        subst hid
        exact .inr ⟨b,false,Db,hc _ _ hx⟩
      · rename_i hid
        rcases h.con id' c' Ct with hn | ⟨b',f',CD,hk⟩
        · exact .inl hn
        exact .inr ⟨b',f',CD,hk.ext hx (setRow_other w b b' cs (fun e=>by subst e;exact hid (h.bi _ _ _ _ _ CD Db)))⟩
    slots:=fun t=>(h.slots t).ext hx }
end
end Go.AM
end

section
/- Operations that make memory or write it. -/
namespace Go.AM
open Go.RowKit (Below)
set_option linter.unusedSectionVars false
variable [Lay]
section
variable {P : Program} {B : Bd} {ok0 : Nat → Nat → Prop} {w0 w w' : World} {g g' : G} {σ σ1 : St} {a : Act} {o : Oper} {E : Env}
theorem go_ok {c:Bool} {av:AV} (hd:∀ d,o.dst=some d→d<a.tmps.size)
  (h:c=true→∃ g' w' v,(execOp a.eval o).run P w = .ok (.value v) w'∧Inv B ok0 w0 g' σ1 a w'∧RepA (okG B ok0 g' w') g' σ1 w' av v):
  Dp P B ok0 w0 (.go c (σ1.BJ o.dst av)) o a w:=by
 intro next Q hc hn
 obtain ⟨g',w',v,hr,hI,hv⟩:=h hc
 unfold Oper.wp
 rw [hr]
 exact hn g' _ _ (hI.put hv hd) (ND _ _ _)
theorem gp (hd:∀ d,o.dst=some d→d<a.tmps.size)
  (h:∃ g' w',(execOp a.eval o).run P w = .ok .skip w'∧Inv B ok0 w0 g' σ1 a w'):
  Dp P B ok0 w0 (.go true (σ1.BJ o.dst .none)) o a w:=by
 intro next Q _ hn
 obtain ⟨g',w',hr,hI⟩:=h
 unfold Oper.wp
 rw [hr]
 exact hn g' _ _ (hI.put (av:= .none) rfl hd) (ND _ _ _)
theorem zP {c:Bool} {s:Step} (h:c=false→Dp P B ok0 w0 s o a w):Dp P B ok0 w0 (bif c then .no else s) o a w:=by
 cases c
 ·exact h rfl
 ·exact Bp
theorem Jd (w:World) (ob:Obj):(w.alloc ob).heap[w.heap.size]? = some ob:=heap_alloc_new w ob
theorem Vj {r:Nat→Nat}:∀ (t:Ty) (pre:List Value),Hg g r w (M5 t pre.length) (pre++t.zcells)
 | .int _,_=>fun _ h=>by cases h
 | .bool,_=>fun _ h=>by cases h
 | .str,_=>fun _ h=>by cases h
 | .sl e,pre=>fun τ h=>by
  have:τ = ⟨pre.length,0,0,e.sg⟩:=by simpa [M5] using h
  subst this
  exact ⟨fun _=>by simp [Ty.zcells],fun h0=>absurd rfl h0⟩
 | .wrap a,pre=>Vj a pre
 | .arr _ _,_=>fun _ h=>by cases h
 | .lk _,_=>fun _ h=>by cases h
 | .pair a b,pre=>fun τ h=>by
  rcases List.mem_append.1 h with h | h
  ·have h5:WH g r w (pre++a.zcells) τ:=Vj a pre τ h
   obtain ⟨h1,h2⟩:=h5
   have hlen:∀ v,(pre++a.zcells)[τ.off]? = some v→(pre++(a.zcells++b.zcells))[τ.off]? = some v:=by
    intro v hv
    have:=(List.getElem?_eq_some_iff.1 hv).1
    rw [← Al,AD this]
    exact hv
   have h0:τ.id=0:=by
    have:∀ (t:Ty) (o:Nat) (τ:Tag),τ∈M5 t o→τ.id=0:=by
     intro t
     induction t with
     | int k=>intro o τ h;cases h
     | bool=>intro o τ h;cases h
     | str=>intro o τ h;cases h
     | sl e _=>intro o τ h;simp [M5] at h;subst h;rfl
     | wrap a ih=>intro o τ h;exact ih o τ h
     | pair a b iha ihb=>intro o τ h;rcases List.mem_append.1 h with h | h;exact iha _ _ h;exact ihb _ _ h
     | arr m e _=>intro o τ h;cases h
     | lk k=>intro o τ h;cases h
    exact this a _ τ h
   exact ⟨fun _=>hlen _ (h1 h0),fun hn=>absurd h0 hn⟩
  ·have hl:(pre++a.zcells).length=pre.length+a.sz:=by rw [Ae,(He (fun _ _=>True) w a).len]
   have h5:WH g r w ((pre++a.zcells)++b.zcells) τ:=Vj b (pre++a.zcells) τ (by rw [hl];exact h)
   rw [Al] at h5
   exact h5
theorem fJ {ok:Nat→Nat→Prop} {e:Ty}:∀ (n i:Nat) (x:e.D),(List.replicate n e.zero)[i]? = some x→∃ ys,RepD ok w e x ys∧∀ j u,ys[j]? = some u→((List.replicate n e.zcells).flatten)[i*e.sz+j]? = some u:=by
 intro n
 have hl:=(He ok w e).len
 induction n with
 | zero=>intro i x h;simp at h
 | succ n ih=>
  intro i x h
  cases i with
  | zero=>
   simp only [List.replicate_succ,List.getElem?_cons_zero,Option.some.injEq] at h
   subst h
   refine ⟨e.zcells,He ok w e,fun j u hj=>?_⟩
   have:=(List.getElem?_eq_some_iff.1 hj).1
   rw [List.replicate_succ,List.flatten_cons,AD (by omega)]
   simpa using hj
  | succ i=>
   obtain ⟨ys,hy,hc⟩:=ih i x (by simpa [List.replicate_succ] using h)
   refine ⟨ys,hy,fun j u hj=>?_⟩
   rw [List.replicate_succ,List.flatten_cons,Aw (by rw [Nat.add_mul];omega),show (i+1)*e.sz+j-e.zcells.length=i*e.sz+j by rw [hl,Nat.add_mul];omega]
   exact hc j u hj
theorem P7 {e:Ty} (n:Nat):((List.replicate n e.zcells).flatten).length=n*e.sz:=by
 have hl:=(He (fun _ _=>True) (default:World) e).len
 induction n with
 | zero=>simp
 | succ n ih=>rw [List.replicate_succ,List.flatten_cons,Ae,ih,hl,Nat.add_mul];omega
theorem Zv5 (hE:EnvOk P E) (hI:Inv B ok0 w0 g σ a w) (hd:∀ d,o.dst=some d→d<a.tmps.size) {T:Nat} (ho:o.op = .alloc T):
  Dp P B ok0 w0 (Qm E T o σ) o a w:=by
 unfold Qm
 have BA:∀ i z,P.info? T=some i→i.zero=some z→(execOp a.eval o).run P w = .ok (.value (.pointer (some ⟨w.heap.size,0,none⟩))) (w.alloc (.cells z.cells T)):=by
  intro i z hi hz
  unfold execOp;rw [ho]
  simp [Instr.alloc,zeroValue,typeInfo,hi,hz,newVar,newRow]
 split
 ·rename_i d Fs
  split
  ·rename_i n e hT
   obtain ⟨ET,hu,DY,CL,i,hi,hz⟩:=hE.ar T n e hT
   refine go_ok hd fun _=>⟨g.Dq d w.heap.size false,_,_,BA i _ hi hz,hI.Cw (Nat.lt_of_lt_of_le (hd _ (by assumption)) hI.tm) (L6 w _) (Ah _) (by simp) (fun ok g' σ' hx=>?_),?_⟩
   ·refine ⟨rfl,_,T,_,Jd w _, .inl rfl,?_,by simpa using CL,fun i x hix=>?_⟩
    ·rw [AK,← P7 (e:=e) n];simp [Value.cells]
    ·obtain ⟨ys,hy,hc⟩:=fJ (ok:=ok) (w:=w.alloc (.cells (Value.agg (List.replicate n e.zcells).flatten.toArray).cells T)) n i x hix
     exact ⟨ys,hy,fun j u hj=>by simpa [Value.cells] using hc j u hj⟩
   ·exact ⟨by simp [St.Cw,BD],fun _=>⟨w.heap.size,false,by simp [G.Dq,BD],rfl⟩⟩
  ·split
   ·rename_i t hT
    obtain ⟨i,hi,hs,hz⟩:=(hE.ty T t hT).info
    refine go_ok hd fun _=>⟨g.Dq d w.heap.size false,_,_,BA i _ hi hz,hI.Cw (Nat.lt_of_lt_of_le (hd _ (by assumption)) hI.tm) (L6 w _) (Ah _) (by simp) (fun ok g' σ' hx=>?_),?_⟩
    ·refine ⟨rfl,t.zcells,T,?_,He _ _ _,⟨by have:=EL.zero w.heap.size t [] [];simpa using this,hE.slf T t hT⟩,Vj t []⟩
     rw [Jd,Nv (He (fun _ _=>True) w t)]
    ·exact ⟨by simp [St.Cw,BD],fun _=>⟨w.heap.size,false,by simp [G.Dq,BD],rfl⟩⟩
   ·exact Bp
 ·exact Bp
theorem RV {ok:Nat→Nat→Prop} {u:Ty} {av:AV} {y:u.D} {v:Value} (h:av.as u=some y) (hr:RepA ok g σ w av v):Qt ok g σ w u y (av.tags u) v:=by
 cases av with
 | dat t x gs=>
  obtain ⟨e,he⟩:=Fj (h:C7 (t:=t) u x=some y)
  subst e
  have PA:x=y:=he
  subst PA
  exact hr
 | nils=>
  cases u with
  | sl e=>
   have hy:=Option.some.inj (h:some ([]:List e.D)=some y)
   subst hy
   have hv:v = .slice none 0 0:=hr
   subst hv
   refine ⟨[.slice none 0 0],⟨none,0,0,rfl,rfl,Ah _,Nat.zero_le _,fun i x hi=>by simp at hi⟩,rfl,fun t ht=>?_⟩
   have:t=⟨0,0,0,e.sg⟩:=by simpa [AV.tags] using ht
   subst this
   exact ⟨fun _=>rfl,fun h0=>absurd rfl h0⟩
  | _=>cases h
 | _=>cases h
theorem Yot (hE:EnvOk P E) (hI:Inv B ok0 w0 g σ a w) (hd:∀ d,o.dst=some d→d<a.tmps.size) {T:Nat} {x:Operand} (ho:o.op = .box T x):
  Dp P B ok0 w0 (QN E T o σ (A8 σ x)) o a w:=by
 unfold QN
 split
 ·rename_i d Fs
  split
  ·rename_i t hT
   split
   ·rename_i y hy
    obtain ⟨cs,hr,hv,ht⟩:=RV hy (Ec hI x)
    have BA:(execOp a.eval o).run P w = .ok (.value (.pointer (some ⟨w.heap.size,0,none⟩))) (w.alloc (.cells cs.toArray T)):=by
     unfold execOp;rw [ho]
     simp [Instr.box,newVar,newRow,hv,Nv hr]
    unfold aM
    split
    ·rename_i m e l gs
     refine go_ok hd fun _=>⟨g.Dq d w.heap.size false,_,_,BA,hI.Cw (Nat.lt_of_lt_of_le (hd _ (by assumption)) hI.tm) (L6 w _) (Ah _) (by simp) (fun ok g' σ' hx=>?_),?_⟩
     ·obtain ⟨h1,h2,h3⟩:=hr.mono hx.cell
      have CL:=hE.arMax T m e hT
      refine ⟨rfl,_,T,_,Jd w _, .inl rfl,by rw [h1];simp [h2],by omega,fun i x hi=>⟨_,h3 i x hi,fun j u hj=>?_⟩⟩
      rw [AA] at hj
      split at hj
      ·rw [List.getElem?_drop] at hj;simpa using hj
      ·cases hj
     ·exact ⟨by simp [St.Cw,BD],fun _=>⟨w.heap.size,false,by simp [G.Dq,BD],rfl⟩⟩
    ·refine zP fun Oo=>?_
     ·refine go_ok hd fun _=>⟨g.Dq d w.heap.size false,_,_,BA,hI.Cw (Nat.lt_of_lt_of_le (hd _ (by assumption)) hI.tm) (L6 w _) (Ah _) (by simp) (fun ok g' σ' hx=>?_),?_⟩
      ·exact ⟨rfl,cs,T,Jd w _,hr.mono hx.cell,⟨EL.none _ _ _ Oo,fun h=>by rw [Oo] at h;cases h⟩,ht.ext hx⟩
      ·exact ⟨by simp [St.Cw,BD],fun _=>⟨w.heap.size,false,by simp [G.Dq,BD],rfl⟩⟩
   ·exact Bp
  ·exact Bp
 ·exact Bp
theorem pg (off:Nat):∀ (ys:List Value) (k:Nat) (cells:Array Value),off+k+ys.length≤cells.size→
  ((ys.zipIdx k).foldl (fun cs (p:Value×Nat)=>cs.setIfInBounds (off+p.2) p.1) cells).toList=Dy cells.toList (off+k) ys
 | [],k,cells,_=>by simp [Dy]
 | y :: ys,k,cells,h=>by
  simp only [Aj] at h
  rw [List.zipIdx_cons,List.foldl_cons,pg off ys (k+1) _ (by simp;omega)]
  unfold Dy
  simp only [Array.toList_setIfInBounds,Aj]
  have hlen:cells.toList.length=cells.size:=by simp
  have h1:(cells.toList.set (off+k) y).take (off+(k+1))=cells.toList.take (off+k)++[y]:=by
   rw [show off+(k+1)=(off+k)+1 by omega,List.take_add_one,List.take_set_of_le (by omega),List.getElem?_set_self (by omega)]
   rfl
  rw [h1,List.drop_set_of_lt (by omega),show off+(k+1)+ys.length=off+k+(ys.length+1) by omega]
  simp
theorem qN {place:Nat→Option (Nat×Nat)} {cells:Array Value} {f off:Nat} {v:Value} {ys:List Value} {rest:List (Nat×Value)} (hp:place f=some (off,ys.length)) (hv:v.cells=ys.toArray)
  (hle:off+ys.length≤cells.size):Instr.fill place cells ((f,v) :: rest)=Instr.fill place (Dy cells.toList off ys).toArray rest:=by
 have hf:=pg off ys 0 cells (by omega)
 rw [Nat.add_zero] at hf
 conv=>lhs;unfold Instr.fill
 simp only [hp,hv,List.size_toArray]
 rw [if_neg (by simp;omega)]
 congr 1
 rw [← hf]
 simp [Array.zipIdx_toArray]
theorem Kk {cs ys:List Value} {off:Nat} (h:off+ys.length≤cs.length):(Dy cs off ys).length=cs.length:=by
 unfold Dy
 simp only [Ae,Ag,List.length_drop]
 omega
theorem uW {r:Nat→Nat} {gs hs:List Tag} {cs ys:List Value} {off:Nat} (h:Hg g r w gs cs) (h':Hg g r w hs ys) (hle:off+ys.length≤cs.length):
  Hg g r w (bU gs off ys.length hs) (Dy cs off ys):=by
 intro t ht
 unfold bU at ht
 rcases List.mem_append.1 ht with ht | ht
 ·obtain ⟨h1,h2⟩:=List.mem_filter.1 ht
  obtain ⟨h3,h4⟩:=h t h1
  have R3:¬ (off≤t.off∧t.off<off+ys.length):=by
   intro CB
   simp [CB.1,CB.2] at h2
  have hg:(Dy cs off ys)[t.off]? = cs[t.off]?:=by
   unfold Dy
   by_cases AO:t.off<off
   ·rw [Al,AD (by rw [Ag];omega),AA,if_pos AO]
   ·rw [Aw (by rw [Ae,Ag];omega),List.getElem?_drop]
    congr 1
    rw [Ae,Ag]
    omega
  unfold WH
  rw [hg]
  exact ⟨h3,h4⟩
 ·obtain ⟨u,hu,he⟩:=List.mem_map.1 ht
  subst he
  obtain ⟨h3,h4⟩:=h' u hu
  have hg:∀ v,ys[u.off]? = some v→(Dy cs off ys)[u.off+off]? = some v:=by
   intro v hv
   have:=(List.getElem?_eq_some_iff.1 hv).1
   unfold Dy
   rw [Al,Aw (by rw [Ag];omega),AD (by rw [Ag];omega),← hv]
   congr 1
   rw [Ag]
   omega
  refine ⟨fun h0=>hg _ (h3 h0),fun h0=>⟨(h4 h0).1,fun he=>?_⟩⟩
  rcases (h4 h0).2 he with hv | ⟨b,n,cap,cur,T,hv,rest⟩
  ·exact .inl (hg _ hv)
  ·exact .inr ⟨b,n,cap,cur,T,hg _ hv,rest⟩
theorem ph (hI:Inv B ok0 w0 g σ a w) {T:Nat} {t:Ty} {place:Nat→Option (Nat×Nat)} (CE:∀ i d u,E.pl T i=some (d,u)→place i=some (d,u.sz)):
  ∀ (ps:List (Nat×Operand)) (z z':t.D) (gs Hr:List Tag) (cs:List Value),KS E T σ t ps z gs=some (z',Hr)→RepD (okG B ok0 g w) w t z cs→Hg g σ.r w gs cs→
   ∃ Lo,Instr.fill place cs.toArray (ps.map fun p=>(p.1,a.eval p.2))=some Lo.toArray∧RepD (okG B ok0 g w) w t z' Lo∧Hg g σ.r w Hr Lo
 | [],z,z',gs,Hr,cs,h,hr,ht=>by
  simp only [KS,Option.some.injEq,Prod.mk.injEq] at h
  obtain ⟨rfl,rfl⟩:=h
  exact ⟨cs,rfl,hr,ht⟩
 | (f,x) :: ps,z,z',gs,Hr,cs,h,hr,ht=>by
  unfold KS at h
  split at h
  ·rename_i d u Om
   split at h
   ·rename_i y hy
    split at h
    ·rename_i z1 KI
     obtain ⟨ys,Eh,PQ,cS⟩:=RV hy (Ec hI x)
     obtain ⟨hs,hle⟩:=S7 Eh KI hr
     have Hb:=Eh.len
     have MM:=hr.len
     obtain ⟨Lo,h1,h2,h3⟩:=ph hI CE ps z1 z' _ Hr (Dy cs d ys) h hs (by rw [← Hb];exact uW ht cS (by omega))
     refine ⟨Lo,?_,h2,h3⟩
     rw [List.map_cons,qN (ys:=ys) (by rw [Hb];exact CE f d u Om) (by rw [PQ,Nv Eh]) (by simp;omega)]
     exact h1
    ·cases h
   ·cases h
  ·cases h
theorem Zw5 (hE:EnvOk P E) (hI:Inv B ok0 w0 g σ a w) (hd:∀ d,o.dst=some d→d<a.tmps.size) {T:Nat} {ps:Array (Nat×Operand)} (ho:o.op = .build T ps)
  {t:Ty} (hT:E.ty T=some t) (Oa:t.isAgg=true) {z:t.D} {gs:List Tag} (h:KS E T σ t ps.toList t.zero (M5 t 0)=some (z,gs)):
  Dp P B ok0 w0 (put o σ (.dat t z gs)) o a w:=by
 obtain ⟨place,CE,BA⟩:=hE.pl T t hT Oa
 obtain ⟨Lo,h1,h2,h3⟩:=ph hI CE ps.toList t.zero z (M5 t 0) gs t.zcells h (He _ _ _) (Vj t [])
 refine CY hI hd (v:=valOf t Lo) ?_ ⟨Lo,h2,rfl,h3⟩
 unfold execOp;rw [ho]
 have:=BA w (ps.map fun p=>(p.1,a.eval p.2)) Lo.toArray (by simpa using h1)
 simp [this,valOf,Oa]
theorem uX (hI:Inv B ok0 w0 g σ a w) {e:Ty}:∀ (ps:List (Nat×Operand)) (i:Nat) (l:List e.D) (pre:List Value),Nc σ e i ps=some l→pre.length=i*e.sz→
  ∃ cs,cs.length=l.length*e.sz∧l.length=ps.length∧IE (okG B ok0 g w) w e l cs∧
   ∀ tail:List Value,(ps.length*e.sz≤tail.length)→Instr.fill (fun i=>some (i*e.sz,e.sz)) (pre++tail).toArray (ps.map fun p=>(p.1,a.eval p.2))=some (pre++cs++tail.drop (ps.length*e.sz)).toArray
 | [],i,l,pre,h,hp=>by
  simp only [Nc,Option.some.injEq] at h
  subst h
  exact ⟨[],by simp,rfl,⟨by simp,fun i x hi=>by simp at hi⟩,fun tail _=>by simp [Instr.fill]⟩
 | (j,x) :: ps,i,l,pre,h,hp=>by
  unfold Nc at h
  split at h
  ·rename_i PB
   subst PB
   split at h
   ·rename_i y hy
    split at h
    ·rename_i l' GS
     cases h
     obtain ⟨ys,Eh,PQ,_⟩:=RV hy (Ec hI x)
     have Hb:=Eh.len
     obtain ⟨cs,h1,h2,⟨h3a,h3b⟩,h4⟩:=uX hI ps (j+1) l' (pre++ys) GS (by rw [Ae,hp,Hb,Nat.add_mul];omega)
     refine ⟨ys++cs,by rw [Ae,h1,Hb,Aj,Nat.add_mul];omega,by simp [h2],⟨by rw [Ae,h1,Hb,Aj,Nat.add_mul];omega,fun i x hi=>?_⟩,fun tail ht=>?_⟩
     ·cases i with
      | zero=>
       simp only [List.getElem?_cons_zero,Option.some.injEq] at hi
       subst hi
       refine ⟨ys,Eh,fun k u hk=>?_⟩
       have:=(List.getElem?_eq_some_iff.1 hk).1
       rw [Nat.zero_mul,Au,AD (by omega)]
       exact hk
      | succ i=>
       obtain ⟨zs,hz,Ia⟩:=h3b i x (by simpa using hi)
       refine ⟨zs,hz,fun k u hk=>?_⟩
       rw [Aw (by rw [Nat.add_mul];omega),show (i+1)*e.sz+k-ys.length=i*e.sz+k by rw [Nat.add_mul];omega]
       exact Ia k u hk
     ·simp only [Aj,Nat.add_mul,Nat.one_mul] at ht
      rw [List.map_cons,qN (off:=j*e.sz) (ys:=ys) (by rw [Hb]) (by rw [PQ,Nv Eh]) (by simp [hp,Hb];omega)]
      have Hl:Dy (pre++tail) (j*e.sz) ys=pre++ys++tail.drop e.sz:=by
       unfold Dy
       rw [← hp,List.take_left,Hb,show pre.length+e.sz=pre.length+e.sz from rfl,List.drop_append,List.drop_eq_nil_of_le (by omega),AH,Nat.add_sub_cancel_left]
      have:=h4 (tail.drop e.sz) (by rw [List.length_drop];omega)
      rw [show (pre++tail).toArray.toList=pre++tail by simp,Hl,this]
      congr 2
      rw [List.drop_drop,Aj,Nat.add_mul,Nat.one_mul]
      simp [Al,Nat.add_comm]
    ·cases h
   ·cases h
  ·cases h
theorem gn (hI:Inv B ok0 w0 g σ a w) (hb:Below w.heap.size w w') {nb id n cap:Nat} {cur:Array Value} {TT:TypeId} (h1:w.heap.size≤nb) (hh:w'.heap[nb]? = some (.cells cur TT (0,0)))
  {e:Ty} {l:List e.D} {cs:List Value} (hr:IE (okG B ok0 g w) w e l cs) (hl:l.length=n) (R8:∀ (j:Nat) u,cs[j]? = some u→cur[j]? = some u) (Bu:cur.size=cap*e.sz) (hn:n≤cap) (hm:cap≤maxLen) (hid:id≠0) (np:e.sg=0→TT=Lay.byt):
  ∃ g',Inv B ok0 w0 g' (σ.Cz id) a w'∧RepA (okG B ok0 g' w') g' (σ.Cz id) w' (.dat (.sl e) l [⟨0,id,σ.r id+1,e.sg⟩]) (.slice (some ⟨nb,0,none⟩) n cap):=by
 have h2:nb<w'.heap.size:=(Array.getElem?_eq_some_iff.1 hh).1
 have hρ:∀ (i b u:Nat),(if i=id then some (some (nb,n*e.sz)) else none:Option (Option (Nat×Nat)))=some (some (b,u))→i=id∧b=nb∧u=n*e.sz:=by
  intro i b u hi
  split at hi
  ·rename_i Nf;cases hi;exact ⟨Nf,rfl,rfl⟩
  ·cases hi
 obtain ⟨B9,hx⟩:=hI.uU hb (ρ:=fun i=>if i=id then some (some (nb,n*e.sz)) else none) (σ':=σ.Cz id) (g':=g.Kt id (some (nb,n*e.sz)))
  (by
   unfold G.Kt
   congr 1
   funext i
   rw [BD]
   by_cases hi:i=id <;> simp [hi])
  (by
   unfold St.Cz
   congr 1
   funext i
   rw [BD]
   by_cases hi:i=id <;> simp [hi])
  (fun i b u hi=>by obtain ⟨_,rfl,_⟩:=hρ i b u hi;exact ⟨h1,h2⟩)
  (fun i j b u u' hi hj=>by rw [(hρ i b u hi).1,(hρ j b u' hj).1])
 refine ⟨_,B9,⟨[.slice (some ⟨nb,0,none⟩) n cap],⟨_,_,_,rfl,hl,hn,hm,fun i x hi=>?_⟩,rfl,fun t ht=>?_⟩⟩
 ·obtain ⟨ys,hy,B4⟩:=hr.2 i x hi
  refine ⟨_,rfl,rfl,ys,hy.mono hx.cell,fun j u hj=>?_⟩
  have cT:=B4 j u hj
  have AO:=(List.getElem?_eq_some_iff.1 cT).1
  rw [hr.1,hl] at AO
  have SC:B.n≤w.heap.size:=by have:=hI.below.size;have:=hI.hB;omega
  refine ⟨.inr ⟨.inl (by simp only;omega),h2,fun id' he=>?_,fun id' u' he=>?_⟩,?_⟩
  ·have:=(hI.bb id' nb false he).2;omega
  ·simp only [G.Kt,BD] at he
   split at he
   ·cases he;simp only [Au];exact AO
   ·have:=(hI.rb id' nb u' he).2.1;omega
  ·simp only [World.cell?,hh,Au]
   exact R8 _ _ cT
 ·have GV:t=⟨0,id,σ.r id+1,e.sg⟩:=by simpa using ht
  subst GV
  refine ⟨fun h0=>absurd h0 hid,fun _=>⟨by simp [St.Cz,BD],fun _=> .inr ⟨nb,n,cap,cur,TT,rfl,by simp [G.Kt,BD,Vv],hh,by rw [Vv];exact Bu,hn,hm,np⟩⟩⟩
theorem Zvu (hI:Inv B ok0 w0 g σ a w) (hb:Below w.heap.size w w') {nb n cap:Nat} {cur:Array Value} {TT:TypeId} (h1:w.heap.size≤nb) (hh:w'.heap[nb]? = some (.cells cur TT (0,0)))
  {e:Ty} {l:List e.D} {cs:List Value} (hr:IE (okG B ok0 g w) w e l cs) (hl:l.length=n) (R8:∀ (j:Nat) u,cs[j]? = some u→cur[j]? = some u) (hn:n≤cap) (hm:cap≤maxLen):
  Inv B ok0 w0 g σ a w'∧RepA (okG B ok0 g w') g σ w' (.dat (.sl e) l []) (.slice (some ⟨nb,0,none⟩) n cap):=by
 have h2:nb<w'.heap.size:=(Array.getElem?_eq_some_iff.1 hh).1
 have hx:=Ext.LB hI hb
 refine ⟨hI.grown hb,[.slice (some ⟨nb,0,none⟩) n cap],⟨_,_,_,rfl,hl,hn,hm,fun i x hi=>?_⟩,rfl,fun t ht=>by cases ht⟩
 obtain ⟨ys,hy,B4⟩:=hr.2 i x hi
 refine ⟨_,rfl,rfl,ys,hy.mono hx.cell,fun j u hj=>?_⟩
 have cT:=B4 j u hj
 have SC:B.n≤w.heap.size:=by have:=hI.below.size;have:=hI.hB;omega
 refine ⟨.inr ⟨.inl (by simp only;omega),h2,fun id' he=>?_,fun id' u' he=>?_⟩,?_⟩
 ·have:=(hI.bb id' nb false he).2;omega
 ·have:=(hI.rb id' nb u' he).2.1;omega
 ·simp only [World.cell?,hh,Au]
  exact R8 _ _ cT
theorem TF (d j:Nat):B3 d j≠0:=by unfold B3;omega
theorem Zel (hE:EnvOk P E) (hI:Inv B ok0 w0 g σ a w) (hd:∀ d,o.dst=some d→d<a.tmps.size) {T n:Nat} {ps:Array (Nat×Operand)} (ho:o.op = .buildSlice T n ps):
  Dp P B ok0 w0 (PZ E T n ps o σ) o a w:=by
 unfold PZ
 split
 ·rename_i d e Fs hT
  obtain ⟨ET,ie,hu,Em,Bu,hz,_⟩:=(hE.ty T _ hT).und
  split
  ·rename_i l hl
   split
   ·rename_i hlen
    obtain ⟨cs,h1,h2,h3,h4⟩:=uX hI ps.toList 0 l [] hl (by simp)
    have Ia:(valOf e e.zcells).cells=e.zcells.toArray:=Nv (He (fun _ _=>True) w e)
    have hzl:=(He (fun _ _=>True) w e).len
    -- the model's row of zeros has the length that is asked
    have W7:n*e.sz≤16777216→n≤maxLen:=fun Fp=>by have:=e.LG;have:n*1≤n*e.sz:=Nat.mul_le_mul_left n this;unfold maxLen;omega
    have Zmf:n*e.sz≤16777216→(execOp a.eval o).run P w = .ok (.value (.slice (some ⟨w.heap.size,0,none⟩) n n)) (w.alloc (.cells cs.toArray ET)):=by
     intro Fp
     unfold execOp;rw [ho]
     have hf:∀ z:Array Value,z.size=n*e.sz→Instr.fill (fun i=>some (i*e.sz,e.sz)) z (ps.toList.map fun p=>(p.1,a.eval p.2))=some cs.toArray:=by
      intro z hzz
      have:=h4 z.toList (by rw [hlen];simp [hzz])
      rw [hlen,List.drop_eq_nil_of_le (by simp [hzz])] at this
      simpa using this
     have Yst:¬ (n*e.sz > 2 ^ 24):=by omega
     simp only [Instr.buildSlice,Sem.run_bind,run_underlying hu,Result.andThen_ok,sizeOf,typeInfo,run_program,Em,Sem.run_pure,Bu,if_neg Yst,zeroValue]
     by_cases h0:n*e.sz=0
     ·simp only [if_pos h0,Sem.run_bind,Sem.run_pure,Result.andThen_ok]
      rw [show (Array.map (fun x=>match x with | (i,x)=>(i,a.eval x)) ps).toList=ps.toList.map fun p=>(p.1,a.eval p.2) by simp]
      rw [hf _ (by simp [h0])]
      simp [newRow]
     ·simp only [if_neg h0,Sem.run_bind,Sem.run_pure,Result.andThen_ok,run_program,Em,hz]
      rw [show (Array.map (fun x=>match x with | (i,x)=>(i,a.eval x)) ps).toList=ps.toList.map fun p=>(p.1,a.eval p.2) by simp]
      rw [hf _ (by simp)]
      simp [newRow]
    cases Yr5:E.lit d with
    | true=>
     refine go_ok hd fun hc=>?_
     rw [Bool.and_eq_true] at hc
     have Fp:n*e.sz≤16777216:=Ak hc.1
     obtain ⟨B9,E0⟩:=Zvu hI (L6 w (.cells cs.toArray ET)) (n:=n) (cap:=n) (cur:=cs.toArray) (TT:=ET) (Ah _) (Jd w _) h3 (by rw [h2,hlen]) (fun j u hj=>by simpa using hj) (Ah _) (W7 Fp)
     exact ⟨g,_,_,Zmf Fp,B9,E0⟩
    | false=>
    refine go_ok hd fun hc=>?_
    rw [Bool.and_eq_true] at hc
    have Fp:n*e.sz≤16777216:=Ak hc.1
    have nh:=W7 Fp
    have BA:=Zmf Fp
    obtain ⟨g',B9,E0⟩:=gn hI (L6 w (.cells cs.toArray ET)) (id:=B3 d 0) (n:=n) (cap:=n) (cur:=cs.toArray) (TT:=ET) (Ah _) (Jd w _) h3 (by rw [h2,hlen]) (fun j u hj=>by simpa using hj)
     (by simp [h1,h2,hlen]) (Ah _) nh (TF d 0) (hE.nr (by assumption) hu)
    exact ⟨g',_,_,BA,B9,E0⟩
   ·exact Bp
  ·exact Bp
 ·exact Bp
theorem uV {e:Ty} {n:Nat}:madeCells e.zcells.toArray (n*e.sz)=((List.replicate n e.zcells).flatten).toArray:=by
 have hl:=(He (fun _ _=>True) (default:World) e).len
 have hp:=e.LG
 have hz:∀ (n k:Nat),k<n*e.sz→((List.replicate n e.zcells).flatten)[k]? = e.zcells[k % e.sz]?:=by
  intro n
  induction n with
  | zero=>intro k hk;simp at hk
  | succ n ih=>
   intro k hk
   rw [List.replicate_succ,List.flatten_cons]
   by_cases AO:k<e.sz
   ·rw [AD (by omega),Nat.mod_eq_of_lt AO]
   ·rw [Aw (by omega),hl,ih (k-e.sz) (by rw [Nat.add_mul] at hk;omega)]
    congr 1
    exact (Nat.mod_eq_sub_mod (by omega)).symm
 apply Array.ext
 ·rw [size_madeCells,List.size_toArray,P7]
 ·intro i h1 h2
  rw [size_madeCells] at h1
  have Pm:i % e.sz<e.sz:=Nat.mod_lt _ hp
  have:=hz n i h1
  rw [Ap (by rw [P7];exact h1),Ap (by omega)] at this
  simp only [madeCells,Array.getElem_map,Array.getElem_range,List.size_toArray,hl,List.getElem_toArray]
  rw [Option.some.inj this,getElem!_pos e.zcells.toArray (i % e.sz) (by simp;omega)]
  rfl
theorem Zim (hE:EnvOk P E) (hI:Inv B ok0 w0 g σ a w) (hd:∀ d,o.dst=some d→d<a.tmps.size) {T:Nat} {x y:Operand} (ho:o.op = .makeSlice T x y):
  Dp P B ok0 w0 (Ri E T o σ x y) o a w:=by
 unfold Ri
 split
 ·rename_i d e k n g1 j m g2 Fs hT hx hy
  obtain ⟨ET,ie,hu,Em,Bu,hz,_⟩:=(hE.ty T _ hT).und
  obtain ⟨Iu,Uz⟩:=hE.by_ T e ET ie hT hu Em
  have BA:∀ l c:Int,a.eval x = .int k l→a.eval y = .int j c→0≤l→l≤c→c.toNat*E.by_ T≤140737488355328→
    (execOp a.eval o).run P w = .ok (.value (.slice (some ⟨w.heap.size,0,none⟩) l.toNat c.toNat)) (w.alloc (.cells ((List.replicate c.toNat e.zcells).flatten).toArray ET))∧c.toNat≤140737488355328:=by
   intro l c hl hc h0 Us Fp
   have Yt4:c.toNat≤140737488355328:=Nat.le_trans (Nat.le_mul_of_pos_right _ Uz) Fp
   have Sm:(ie.bytes:Int)*c≤281474976710656:=by
    have h1:((c.toNat*E.by_ T:Nat):Int)≤((140737488355328:Nat):Int):=Int.ofNat_le.mpr Fp
    rw [Int.natCast_mul,Int.toNat_of_nonneg (by omega),Int.mul_comm] at h1
    rw [Iu]
    omega
   have hr:=run_make (P:=P) w T ET ie (valOf e e.zcells) hu Em hz k j l c h0 Us Sm (by omega)
   rw [Nv (He (fun _ _=>True) w e),Bu,uV] at hr
   refine ⟨?_,Yt4⟩
   unfold execOp;rw [ho]
   simp only [hl,hc,Sem.run_bind,hr,Result.andThen_ok,Sem.run_pure]
  split
  ·rename_i WI
   have hmn:a.eval y = .int j n:=by
    have h1:=JA hI hx
    have h2:=JA hI hy
    have:a.eval x=a.eval y∨(∃ i i' q,a.eval x = .int i q∧a.eval y = .int i' q):=by
     unfold tO at WI
     split at WI
     ·rw [Nat.eq_of_beq_eq_true WI];exact .inl rfl
     ·have:=Ak WI;subst this;exact .inr ⟨_,_,_,rfl,rfl⟩
     ·cases WI
    rcases this with h | ⟨i,i',q,e1,e2⟩
    ·rw [h1,h2] at h;cases h;exact h2
    ·rw [h1] at e1;rw [h2] at e2;cases e1;cases e2;exact h2
   refine go_ok hd fun hc=>?_
   rw [Bool.and_eq_true] at hc
   have h0:0≤n:=Ak hc.1
   obtain ⟨hr,hle⟩:=BA n n (JA hI hx) hmn h0 (Int.le_refl _) (Ak hc.2)
   refine ⟨g.Dq d w.heap.size false,_,_,hr,hI.Cw (Nat.lt_of_lt_of_le (hd _ (by assumption)) hI.tm) (L6 w _) (Ah _) (by simp) (fun ok g' σ' hx=>?_),?_⟩
   ·refine ⟨rfl,_,ET,_,Jd w _, .inl rfl,?_,?_,fun i z hi=>?_⟩
    ·rw [AK,List.size_toArray,P7];omega
    ·rw [AK];unfold maxLen;omega
    ·obtain ⟨ys,PR,Ct⟩:=fJ (ok:=ok) (w:=w.alloc (.cells ((List.replicate n.toNat e.zcells).flatten).toArray ET)) n.toNat i z hi
     exact ⟨ys,PR,fun j u hj=>by simpa using Ct j u hj⟩
   ·exact ⟨by simp [St.Cw,BD],fun _=>⟨e,List.replicate n.toNat e.zero,false,by simp [St.Cw,BD], .inr ⟨w.heap.size,false,n.toNat,_,ET,_,by simp [G.Dq,BD],Jd w _,by rw [List.size_toArray,P7],by rw [AK];omega,by unfold maxLen;omega,by rw [AK]⟩⟩⟩
  ·split
   ·rename_i Df
    subst Df
    cases Db:E.bx d with
    | true=>
     dsimp only [cond_true]
     refine go_ok hd fun hc=>?_
     rw [Bool.and_eq_true] at hc
     have h0:0≤m:=Ak hc.1
     obtain ⟨hr,hle⟩:=BA 0 m (JA hI hx) (JA hI hy) (Int.le_refl _) h0 (Ak hc.2)
     refine ⟨g.Dq d w.heap.size false,_,_,hr,hI.Cw (Nat.lt_of_lt_of_le (hd _ (by assumption)) hI.tm) (L6 w _) (Ah _) (by simp) (fun ok g' σ' hx=>?_),?_⟩
     ·exact ⟨rfl,_,ET,_,Jd w _, .inl rfl,by simp,by simp,fun i z hi=>by simp at hi⟩
     ·exact ⟨by simp [St.Cw,BD],fun _=>⟨e,[],false,by simp [St.Cw,BD], .inr ⟨w.heap.size,false,m.toNat,_,ET,_,by simp [G.Dq,BD],Jd w _,by rw [List.size_toArray,P7],Nat.zero_le _,by unfold maxLen;omega,rfl⟩⟩⟩
    | false=>
    dsimp only [cond_false]
    refine go_ok hd fun hc=>?_
    rw [Bool.and_eq_true] at hc
    have h0:0≤m:=Ak hc.1
    obtain ⟨hr,hle⟩:=BA 0 m (JA hI hx) (JA hI hy) (Int.le_refl _) h0 (Ak hc.2)
    obtain ⟨g',B9,E0⟩:=gn hI (L6 w (.cells ((List.replicate m.toNat e.zcells).flatten).toArray ET)) (id:=B3 d 0) (n:=0) (cap:=m.toNat) (TT:=ET) (Ah _) (Jd w _) (e:=e) (l:=[]) (cs:=[])
     ⟨by simp,fun i x hi=>by simp at hi⟩ rfl (fun j u hj=>by simp at hj) (by rw [List.size_toArray,P7]) (Nat.zero_le _) (by unfold maxLen;omega) (TF d 0) (hE.nr (by assumption) hu)
    exact ⟨g',_,_,hr,B9,E0⟩
   ·exact Bp
 ·exact Bp
theorem XS (P:Program) (b o:Nat) (t:TypeId) (y:Nat×Nat):∀ (vs:List Value) (i:Nat) (cur:Array Value) (w:World),w.heap[b]? = some (.cells cur t y)→(y=(0,0)∨cur.size≤y.1)→
  o+i+vs.length≤cur.size→(∀ v∈vs,v.oneCell'=true)→(storeCells ⟨b,o,none⟩ vs i).run P w = .ok () (w.setRow b (Dy cur.toList (o+i) vs).toArray)
 | [],i,cur,w,hg,_,_,_=>by
  unfold Dy
  simp only [storeCells,Ay,List.length_nil,Nat.add_zero,List.take_append_drop,Array.toArray_toList]
  rw [setRow_self w b cur t y hg]
  rfl
 | v :: vs,i,cur,w,hg,hy,hl,h1=>by
  have GS:o+i+(vs.length+1)≤cur.size:=by simpa using hl
  have hi:o+i<cur.size:=by omega
  have Yu4:w.frozen? ⟨b,o+i,none⟩=false:=by
   rcases hy with rfl | hy
   ·simp [World.frozen?,hg]
   ·obtain ⟨y1,y2⟩:=y
    have hy:cur.size≤y1:=hy
    have:¬ y1≤o+i:=by omega
    simp [World.frozen?,hg,this]
  have C8:w.cell? ⟨b,o+i,none⟩=some cur[o+i]:=by simp [World.cell?,hg,hi]
  have EP:(store ((⟨b,o,none⟩:Addr).add i) v).run P w = .ok () (w.setRow b (cur.setIfInBounds (o+i) v)):=by
   rw [Hx ⟨b,o,none⟩ rfl,run_store P w _ v _ (h1 v (by simp)),C8]
   simp [Yu4,setCell_eq_setRow w b (o+i) cur t y v hg]
  have ih:=XS P b o t y vs (i+1) (cur.setIfInBounds (o+i) v) (w.setRow b (cur.setIfInBounds (o+i) v)) (setRow_heap w b cur _ t _ hg) (by simpa using hy) (by simp;omega) fun x hx=>h1 x (by simp [hx])
  have e:=list_seg_step cur.toList (o+i) v vs (by simp;omega)
  simp only [storeCells,Sem.run_bind,EP,Result.andThen_ok,ih,setRow_setRow]
  congr 3
  unfold Dy
  simpa [Array.toList_setIfInBounds,Nat.add_assoc] using e
theorem dG {T:Nat} {u:Ty} (DY:Fit P T u) {ok:Nat→Nat→Prop} {y:u.D} {ys:List Value} (hy:RepD ok w u y ys) {b off:Nat} {cur:Array Value} {TT:TypeId}
  {ym:Nat×Nat} (hh:w.heap[b]? = some (.cells cur TT ym)) (Uw:ym=(0,0)∨cur.size≤ym.1) (hle:off+ys.length≤cur.size):
  (storeVar T ⟨b,off,none⟩ (valOf u ys)).run P w = .ok () (w.setRow b (Dy cur.toList off ys).toArray):=by
 have h:=XS P b off TT ym ys 0 cur w hh Uw (by omega) hy.one
 simp only [Nat.add_zero] at h
 unfold storeVar
 have Bu:¬ ys.length≠u.sz:=by rw [hy.len];simp
 simp only [Nv hy,Sem.run_bind,DY.size,Result.andThen_ok,List.size_toArray,if_neg Bu,h]
theorem Zx5 (hE:EnvOk P E) (hI:Inv B ok0 w0 g σ a w) (hd:∀ d,o.dst=some d→d<a.tmps.size) {T:Nat} {x y:Operand} (ho:o.op = .store T x y):
  Dp P B ok0 w0 (Ql E T o σ (A8 σ x) (A8 σ y)) o a w:=by
 have rx:=Ec hI x
 have BA:∀ b o' w',a.eval x = .pointer (some ⟨b,o',none⟩)→(storeVar T ⟨b,o',none⟩ (a.eval y)).run P w = .ok () w'→(execOp a.eval o).run P w = .ok .skip w':=by
  intro b o' w' hx hv
  unfold execOp;rw [ho]
  simp only [hx,Instr.storeAt,Instr.sureAddr,Sem.run_bind,Sem.run_pure,Result.andThen_ok,hv]
 unfold Ql
 split
 ·rename_i id ver off hx
  rw [hx] at rx
  split
  ·rename_i hv
   obtain ⟨b,f,hb,hp⟩:=rx.2 hv
   split
   ·rename_i t z gs hc
    obtain ⟨Jv,cs,TT,hh,hr,QG,ht⟩:=hI.Hj hb hc
    subst Jv
    split
    ·rename_i u hu
     split
     ·rename_i q hq
      split
      ·rename_i z' cU
       obtain ⟨ys,Eh,PQ,cS⟩:=RV hq (Ec hI y)
       obtain ⟨hs,hle⟩:=S7 Eh cU hr
       have Hb:=Eh.len
       have MM:=hr.len
       have EP:=dG (hE.ty T u hu) Eh (b:=b) (off:=off) hh (.inl rfl) (by simp;omega)
       rw [← PQ] at EP
       refine zP fun Oo=>?_
       ·refine gp hd ⟨g,_,BA b off _ hp EP,hI.Y0 hc hb (fun e l fz he=>by cases he) (fun cur T _ DS=>by rw [hh] at DS;cases DS;simp only [List.size_toArray];exact Kk (by omega)) (fun ok σ' Dt=>?_)⟩
        refine ⟨rfl,Dy cs off ys,TT,?_,hs.mono Dt.cell,?_,?_⟩
        ·rw [setRow_heap w b _ _ _ _ hh]
        ·have:=EL.Gb Oo 0 cU Hb (by omega) QG.1
         rw [Au] at this
         exact ⟨this,QG.2⟩
        ·have:=uW (off:=off) (ht.ext Dt) (cS.ext Dt) (by omega)
         rw [Hb] at this
         exact this
      ·exact Bp
     ·exact Bp
    ·exact Bp
   ·rename_i e l hc
    obtain ⟨Jv,cur,TT,ym,hh,Il,Bu,CL,BO⟩:=hI.Hj hb hc
    have Xw:f=false:=Jv
    subst Xw
    split
    ·rename_i m e' hT
     split
     ·rename_i h0
      subst h0
      split
      ·rename_i q hq
       split
       ·rename_i q' XE
        obtain ⟨ee,Dt⟩:=Fj XE
        have Ss:e'=e:=by cases ee;rfl
        subst Ss
        have W4:q=q':=Dt
        subst W4
        obtain ⟨ys,Eh,PQ,_⟩:=RV hq (Ec hI y)
        have Hb:=Eh.len
        have Yv4:=Eh
        obtain ⟨r1,r2,r3⟩:=Eh
        intro next Q Hs hn
        have hlm:List.length (α:=e'.D) l=m+1:=Ak Hs
        rw [hlm] at Bu
        have DY:0+ys.length≤cur.size:=by rw [r2];omega
        have EP:=dG (hE.ty T _ hT) Yv4 (b:=b) (off:=0) hh Il.un DY
        rw [← PQ] at EP
        have aT:Dp P B ok0 w0 (.go true ((σ.CR id (.arr e' q false)).BJ o.dst .none)) o a w:=gp hd ⟨g,_,BA b 0 _ hp EP,hI.Y0 hc hb (fun e'' l'' fz he=>by cases he;exact ⟨q,false,rfl,by omega⟩)
          (fun cur' T' _ DS=>by rw [hh] at DS;cases DS;rw [List.size_toArray,Kk (by rw [Array.length_toList];exact DY),Array.length_toList]) (fun ok σ' Dt=>by
         refine ⟨rfl,_,TT,ym,setRow_heap w b _ _ _ _ hh,Il.eq (by rw [List.size_toArray,Kk (by rw [Array.length_toList];exact DY),Array.length_toList]),by rw [r1,List.size_toArray,Kk (by rw [Array.length_toList];exact DY),Array.length_toList];omega,by omega,fun i x hi=>⟨_,(r3 i x hi).mono Dt.cell,fun j u hj=>?_⟩⟩
         rw [AA] at hj
         split at hj
         ·rw [List.getElem?_drop] at hj
          have AO:=(List.getElem?_eq_some_iff.1 hj).1
          rw [List.getElem?_toArray]
          unfold Dy
          rw [List.take_zero,AH,AD AO]
          exact hj
         ·cases hj)⟩
        exact aT next Q rfl hn
       ·exact Bp
      ·exact Bp
     ·exact Bp
    ·exact Bp
   ·exact Bp
  ·exact Bp
 ·rename_i id ver i off hx
  rw [hx] at rx
  split
  ·rename_i hv
   split
   ·rename_i e l hc
    obtain ⟨b,f,e2,l2,Hp,hb,B2,hi,hp⟩:=rx.2 hv
    rw [hc] at B2;cases B2
    obtain ⟨Jv,cur,TT,ym,hh,Il,Bu,CL,BO⟩:=hI.Hj hb hc
    have Xw:f=false:=Jv
    subst Xw
    split
    ·rename_i u hu
     split
     ·rename_i q hq
      split
      ·rename_i z' cU
       obtain ⟨ys,Eh,PQ,cS⟩:=RV hq (Ec hI y)
       have XF:l[i]? = some (l.getD i e.zero):=by rw [Ax,Ap hi];rfl
       obtain ⟨zs,Ns,Ia⟩:=BO i _ XF
       obtain ⟨hs,hle⟩:=S7 Eh cU Ns
       have Hb:=Eh.len
       have hzl:=Ns.len
       have Ys5:i*e.sz+e.sz≤cur.size:=by rw [← Nat.succ_mul];exact Nat.le_trans (AJ _ hi) Bu
       have EP:=dG (hE.ty T u hu) Eh (b:=b) (off:=i*e.sz+off) hh Il.un (by omega)
       rw [← PQ] at EP
       refine gp hd ⟨g,_,BA b _ _ hp EP,hI.Y0 hc hb (fun e' l' fz he=>by cases he;exact ⟨_,false,rfl,by simp⟩) (fun cur' T' _ DS=>by rw [hh] at DS;cases DS;rw [List.size_toArray,Kk (by simp;omega),Array.length_toList]) (fun ok σ' Dt=>?_)⟩
       refine ⟨rfl,_,TT,ym,setRow_heap w b _ _ _ _ hh,Il.eq (by rw [List.size_toArray,Kk (by simp;omega),Array.length_toList]),?_,by simpa using CL,fun k x hk=>?_⟩
       ·rw [List.size_toArray,Kk (by simp;omega),List.length_set];simpa using Bu
       ·by_cases Xf:k=i
        ·subst Xf
         rw [List.getElem?_set_self hi] at hk
         cases hk
         refine ⟨_,hs.mono Dt.cell,fun j v hj=>?_⟩
         -- inside the element that was written
         have Nl:j<e.sz:=by have:=(List.getElem?_eq_some_iff.1 hj).1;rw [Kk (by omega),hzl] at this;exact this
         rw [List.getElem?_toArray]
         unfold Dy at hj ⊢
         by_cases h1:j<off
         ·rw [Al,AD (by rw [Ag];simp;omega),AA,if_pos (by omega)]
          rw [Al,AD (by rw [Ag];omega),AA,if_pos h1] at hj
          have:=Ia _ _ hj
          simpa using this
         ·by_cases h2:j<off+ys.length
          ·rw [Al,Aw (by rw [Ag];simp;omega),AD (by rw [Ag];simp;omega)]
           rw [Al,Aw (by rw [Ag];omega),AD (by rw [Ag];omega)] at hj
           rw [← hj]
           congr 1
           rw [Ag,Ag]
           simp
           omega
          ·rw [Aw (by rw [Ae,Ag];simp;omega),List.getElem?_drop]
           rw [Aw (by rw [Ae,Ag];omega),List.getElem?_drop] at hj
           have:=Ia _ _ hj
           rw [show off+ys.length+(j-(List.take off zs++ys).length)=j by rw [Ae,Ag];omega] at this
           rw [show k*e.sz+off+ys.length+(k*e.sz+j-(List.take (k*e.sz+off) cur.toList++ys).length)=k*e.sz+j by rw [Ae,Ag];simp;omega]
           simpa using this
        ·rw [List.getElem?_set_ne (Ne.symm Xf)] at hk
         obtain ⟨ks,Og,mY⟩:=BO k x hk
         refine ⟨ks,Og.mono Dt.cell,fun j v hj=>?_⟩
         have Nl:j<e.sz:=by have:=(List.getElem?_eq_some_iff.1 hj).1;rw [Og.len] at this;exact this
         have:=mY j v hj
         rw [List.getElem?_toArray]
         unfold Dy
         have Yl1:k*e.sz+j<i*e.sz+off∨i*e.sz+off+ys.length≤k*e.sz+j:=by
          rcases Nat.lt_or_gt_of_ne Xf with AO | hgt
          ·left
           have:(k+1)*e.sz≤i*e.sz:=AJ _ AO
           rw [Nat.add_mul] at this
           omega
          ·right
           have:(i+1)*e.sz≤k*e.sz:=AJ _ hgt
           rw [Nat.add_mul] at this
           omega
         rcases Yl1 with AO | IT
         ·rw [Al,AD (by rw [Ag];simp;omega),AA,if_pos AO]
          simpa using this
         ·rw [Aw (by rw [Ae,Ag];simp;omega),List.getElem?_drop]
          rw [show i*e.sz+off+ys.length+(k*e.sz+j-(List.take (i*e.sz+off) cur.toList++ys).length)=k*e.sz+j by rw [Ae,Ag];simp;omega]
          simpa using this
      ·exact Bp
     ·exact Bp
    ·exact Bp
   ·exact Bp
  ·exact Bp
 ·exact Bp
end
end Go.AM
end
