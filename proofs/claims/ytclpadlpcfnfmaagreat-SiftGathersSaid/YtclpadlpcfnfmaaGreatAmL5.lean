import Derived.Test.YtclpadlpcfnfmaaGreatAmL4
section
/- Operations that only read: what they answer hangs on their operands and on the boxes that these lead to. -/
namespace Go.AM
open Go.RowKit (Below)
set_option linter.unusedSectionVars false
variable [Lay]
def CEq (a b:Option Con):Prop:=a=b∨∃ e l f f',a=some (.arr e l f)∧b=some (.arr e l f')
def FC:AV→List Nat
 | .ptr id _ _ | .aptr id _ _ _ | .slw id _ | .slm id _ _ _=>[id]
 | .clo _ ps=>ps.map (·.1)
 | _=>[]
def It (I:List Nat) (σ ρ:St):Prop:=∀ id∈I,ρ.v id = σ.v id∧CEq (σ.c id) (ρ.c id)
def Step.reM (ρ:St) (d:Option Nat):Step→Step
 | .no=> .no
 | .go c σ=> .go c (ρ.BO d (dv σ d))
 | .call α m f=> .call α m fun x=>ρ.BO d (dv (f x) d)
def KB (E:Env) (o:Oper):Bool:=
 match o.op with
 | .move x | .assign x=>!(Hi E o.dst && Kr x)
 | .buildSlice .. =>match o.dst with
  | some d=>E.lit d
  | none=>false
 | .build .. | .load .. | .nilCheck _ | .binOp .. | .unOp .. | .slice .. | .fieldAddr .. | .field .. | .indexAddr .. | .index .. | .extract .. | .pick .. =>true
 | .convert .. =>!Hi E o.dst
 | .makeFunc _ _ q=>decide (q.size=0)
 | .call c=>match c.callee with
  | .builtin .len | .builtin .min | .builtin .max=>true
  | _=>false
 | _=>false
section
variable {E : Env} {o : Oper} {σ ρ : St}
theorem KC (ρ:St) (d:Option Nat) (a:AV):ρ.BO d (dv (σ.BO d a) d) = ρ.BO d a:=by
 cases d with
 | none=>rfl
 | some d=>show ρ.BO (some d) (EK σ.t d a d)=_;rw [Py]
theorem Cc (a:AV):put o ρ a=(put o σ a).reM ρ o.dst:=by
 unfold put Step.reM;dsimp only;rw [KC]
theorem CH (c:Bool) (a:AV):chk o c ρ a=(chk o c σ a).reM ρ o.dst:=by
 unfold chk Step.reM;dsimp only;rw [KC]
theorem It.head {id:Nat} {I:List Nat} (h:It (id :: I) σ ρ):ρ.v id = σ.v id∧CEq (σ.c id) (ρ.c id):=h id (List.mem_cons_self ..)
theorem US (T:Nat) (e:Ty) (l:List e.D) (off:Nat):Lg E T o ρ e l off=(Lg E T o σ e l off).reM ρ o.dst:=by
 unfold Lg
 ((repeat' split) <;> first | rfl | exact Cc _ | exact CH _ _ | (simp_all;done))
theorem UT (m:Nat) (e' e:Ty) (l:List e.D):Oi o ρ m e' e l=(Oi o σ m e' e l).reM ρ o.dst:=by
 unfold Oi
 ((repeat' split) <;> first | rfl | exact Cc _ | exact CH _ _ | (simp_all;done))
theorem fO {c:Bool} (x:AV) (h:(Hi E o.dst && c)=false):KR E o ρ c x=(KR E o σ c x).reM ρ o.dst:=by
 unfold KR
 split
 ·rename_i d hd
  rw [hd] at h
  simp only [Hi] at h
  rw [h]
  exact Cc _
 ·exact Cc _
theorem Zzg (T:Nat) (a:AV) (h:It (FC a) σ ρ):ML E T o ρ a=(ML E T o σ a).reM ρ o.dst:=by
 unfold ML
 cases a with
 | ptr id ver off=>
  obtain ⟨hv,hc⟩:=h.head
  rcases hc with hc | ⟨e,l,f,f',h1,h2⟩
  ·dsimp only;rw [hv,← hc];((repeat' split) <;> first | rfl | exact Cc _ | exact CH _ _ | exact US _ _ _ _ | exact UT _ _ _ _ | (simp_all;done))
  ·dsimp only;rw [hv,h1,h2];(try dsimp only);((repeat' split) <;> first | rfl | exact Cc _ | exact CH _ _ | exact US _ _ _ _ | exact UT _ _ _ _ | (simp_all;done))
 | aptr id ver i off=>
  obtain ⟨hv,hc⟩:=h.head
  rcases hc with hc | ⟨e,l,f,f',h1,h2⟩
  ·dsimp only;rw [hv,← hc];((repeat' split) <;> first | rfl | exact Cc _ | exact CH _ _ | (simp_all;done))
  ·dsimp only;rw [hv,h1,h2];(try dsimp only);((repeat' split) <;> first | rfl | exact Cc _ | exact CH _ _ | (simp_all;done))
 | ept t x off=>((repeat' split) <;> first | rfl | exact Cc _ | exact CH _ _ | (simp_all;done))
 | _=>rfl
theorem cm (S f:Nat) (x:AV) (h:It (FC x) σ ρ):Gp E S f o ρ x=(Gp E S f o σ x).reM ρ o.dst:=by
 unfold Gp
 split
 ·cases x with
  | ptr id ver off=>obtain ⟨hv,hc⟩:=h.head;dsimp only;rw [hv];((repeat' split) <;> first | rfl | exact Cc _ | exact CH _ _ | (simp_all;done))
  | aptr id ver i off=>obtain ⟨hv,hc⟩:=h.head;dsimp only;rw [hv];((repeat' split) <;> first | rfl | exact Cc _ | exact CH _ _ | (simp_all;done))
  | ept t x off=>((repeat' split) <;> first | rfl | exact Cc _ | exact CH _ _ | (simp_all;done))
  | _=>rfl
 ·rfl
theorem cn (T:Nat) (x i:AV) (h:It (FC x) σ ρ):Gq E T o ρ x i=(Gq E T o σ x i).reM ρ o.dst:=by
 unfold Gq
 split
 ·cases x with
  | ptr id ver off=>
   obtain ⟨hv,hc⟩:=h.head
   cases off with
   | succ n=>rfl
   | zero=>
    show (match E.ar T,ρ.c id with
     | some (n,e),some (.arr e' l _)=>if ρ.v id=ver∧e.sz=e'.sz then chk o (inB _ n && decide (n=List.length (α:=e'.D) l)) ρ (.aptr id ver (Int.toNat _) 0) else .no
     | _,_=> .no)=Step.reM ρ o.dst (match E.ar T,σ.c id with
     | some (n,e),some (.arr e' l _)=>if σ.v id=ver∧e.sz=e'.sz then chk o (inB _ n && decide (n=List.length (α:=e'.D) l)) σ (.aptr id ver (Int.toNat _) 0) else .no
     | _,_=> .no)
    rcases hc with hc | ⟨e,l,f,f',h1,h2⟩
    ·rw [hv,← hc];((repeat' split) <;> first | rfl | exact Cc _ | exact CH _ _ | (simp_all;done))
    ·rw [hv,h1,h2]
     cases E.ar T with
     | none=>rfl
     | some p=>dsimp only;((repeat' split) <;> first | rfl | exact Cc _ | exact CH _ _ | (simp_all;done))
  | slw id ver=>
   obtain ⟨hv,hc⟩:=h.head
   dsimp only
   rcases hc with hc | ⟨e,l,f,f',h1,h2⟩
   ·rw [hv,← hc];((repeat' split) <;> first | rfl | exact Cc _ | exact CH _ _ | (simp_all;done))
   ·rw [hv,h1,h2]
    cases E.ty T with
    | none=>rfl
    | some u=>cases u with
     | sl e'=>dsimp only;((repeat' split) <;> first | rfl | exact Cc _ | exact CH _ _ | (simp_all;done))
     | _=>rfl
  | slm id ver lo n=>
   obtain ⟨hv,hc⟩:=h.head
   dsimp only
   rcases hc with hc | ⟨e,l,f,f',h1,h2⟩
   ·rw [hv,← hc];((repeat' split) <;> first | rfl | exact Cc _ | exact CH _ _ | (simp_all;done))
   ·rw [hv,h1,h2]
    cases E.ty T with
    | none=>rfl
    | some u=>cases u with
     | sl e'=>dsimp only;((repeat' split) <;> first | rfl | exact Cc _ | exact CH _ _ | (simp_all;done))
     | _=>rfl
  | dat t y g=>((repeat' split) <;> first | rfl | exact Cc _ | exact CH _ _ | (simp_all;done))
  | _=>rfl
 ·rfl
theorem fP (e:Ty) (x:AV) (h:It (FC x) σ ρ):content ρ e x=content σ e x:=by
 unfold content
 cases x with
 | slw id ver=>
  obtain ⟨hv,hc⟩:=h.head
  rcases hc with hc | ⟨e,l,f,f',h1,h2⟩
  ·dsimp only;rw [hv,← hc]
  ·dsimp only;rw [hv,h1,h2]
 | slm id ver lo n=>
  obtain ⟨hv,hc⟩:=h.head
  rcases hc with hc | ⟨e,l,f,f',h1,h2⟩
  ·dsimp only;rw [hv,← hc]
  ·dsimp only;rw [hv,h1,h2]
 | _=>rfl
theorem Zq0 (T:Option Ty) (x:AV) (h:It (FC x) σ ρ):Mr T o ρ x=(Mr T o σ x).reM ρ o.dst:=by
 unfold Mr
 cases x with
 | slw id ver=>
  obtain ⟨hv,hc⟩:=h.head
  rcases hc with hc | ⟨e,l,f,f',h1,h2⟩
  ·dsimp only;rw [hv,← hc];((repeat' split) <;> first | rfl | exact Cc _ | exact CH _ _ | (simp_all;done))
  ·dsimp only;rw [hv,h1,h2];(try dsimp only);((repeat' split) <;> first | rfl | exact Cc _ | exact CH _ _ | (simp_all;done))
 | slm id ver lo n=>obtain ⟨hv,hc⟩:=h.head;dsimp only;rw [hv];((repeat' split) <;> first | rfl | exact Cc _ | exact CH _ _ | (simp_all;done))
 | _=>((repeat' split) <;> first | rfl | exact Cc _ | exact CH _ _ | (simp_all;done))
theorem kt (s d:Nat) (x:AV) (h:It (FC x) σ ρ) (hb:Hi E o.dst=false):Gh E s d o ρ x=(Gh E s d o σ x).reM ρ o.dst:=by
 unfold Gh
 rw [fP _ x h,hb]
 ((repeat' split) <;> first | rfl | exact Cc _ | exact CH _ _ | (simp_all;done))
theorem vA (T:Nat) (x:AV) (lo hi:Option Operand) (ht:ρ.t = σ.t) (h:It (FC x) σ ρ):LK E T o ρ x lo hi=(LK E T o σ x lo hi).reM ρ o.dst:=by
 have hb:∀ d x,bnd ρ d x=bnd σ d x:=fun d x=>by
  cases x with
  | none=>rfl
  | some y=>unfold bnd;dsimp only;rw [Fa ht]
 unfold LK
 simp only [hb]
 cases x with
 | dat t y g=>((repeat' split) <;> first | rfl | exact Cc _ | exact CH _ _ | (simp_all;done))
 | ptr id ver off=>
  obtain ⟨hv,hc⟩:=h.head
  cases off with
  | succ n=>rfl
  | zero=>
   show (match E.ar T,ρ.c id with
    | some (n,e),some (.arr e' s _)=>if ρ.v id=ver∧e.sz=e'.sz then
      match bnd σ 0 lo,bnd σ n hi with
      | some l,some h=>chk o (inC l h n && decide (n=List.length (α:=e'.D) s)) ρ (.slm id ver l.toNat (h.toNat-l.toNat))
      | _,_=> .no
     else .no
    | _,_=> .no)=Step.reM ρ o.dst (match E.ar T,σ.c id with
    | some (n,e),some (.arr e' s _)=>if σ.v id=ver∧e.sz=e'.sz then
      match bnd σ 0 lo,bnd σ n hi with
      | some l,some h=>chk o (inC l h n && decide (n=List.length (α:=e'.D) s)) σ (.slm id ver l.toNat (h.toNat-l.toNat))
      | _,_=> .no
     else .no
    | _,_=> .no)
   rcases hc with hc | ⟨e,l,f,f',h1,h2⟩
   ·rw [hv,← hc];((repeat' split) <;> first | rfl | exact Cc _ | exact CH _ _ | (simp_all;done))
   ·rw [hv,h1,h2]
    cases E.ar T with
    | none=>rfl
    | some p=>dsimp only;((repeat' split) <;> first | rfl | exact Cc _ | exact CH _ _ | (simp_all;done))
 | slw id ver=>
  obtain ⟨hv,hc⟩:=h.head
  dsimp only
  rcases hc with hc | ⟨e,l,f,f',h1,h2⟩
  ·rw [hv,← hc];((repeat' split) <;> first | rfl | exact Cc _ | exact CH _ _ | (simp_all;done))
  ·rw [hv,h1,h2]
   cases E.ty T with
   | none=>rfl
   | some u=>cases u with
    | sl e'=>dsimp only;((repeat' split) <;> first | rfl | exact Cc _ | exact CH _ _ | (simp_all;done))
    | _=>rfl
 | slm id ver lo n=>
  obtain ⟨hv,hc⟩:=h.head
  dsimp only
  rcases hc with hc | ⟨e,l,f,f',h1,h2⟩
  ·rw [hv,← hc];((repeat' split) <;> first | rfl | exact Cc _ | exact CH _ _ | (simp_all;done))
  ·rw [hv,h1,h2]
   cases E.ty T with
   | none=>rfl
   | some u=>cases u with
    | sl e'=>dsimp only;((repeat' split) <;> first | rfl | exact Cc _ | exact CH _ _ | (simp_all;done))
    | _=>rfl
 | _=>rfl
theorem rB (op:BinOp) (k j:IntKind) (a b:Int):Kp op o ρ k j a b=(Kp op o σ k j a b).reM ρ o.dst:=by
 unfold Kp;((repeat' split) <;> first | rfl | exact Cc _ | exact CH _ _ | (simp_all;done))
theorem rC (op:BinOp) (a b:ByteArray):Kq op o ρ a b=(Kq op o σ a b).reM ρ o.dst:=by
 unfold Kq;((repeat' split) <;> first | rfl | exact Cc _ | exact CH _ _ | (simp_all;done))
theorem vC (T:Nat) (op:BinOp) (x y:AV):LJ E T op o ρ x y=(LJ E T op o σ x y).reM ρ o.dst:=by
 unfold LJ
 split
 ·split
  ·exact rB _ _ _ _ _
  ·exact rC _ _ _
  ·split
   ·split
    ·split
     ·exact Cc _
     ·exact Cc _
     ·rfl
    ·rfl
   ·rfl
 ·rfl
theorem vD (T:Nat) (op:BinOp) (x:AV):NV E T op o ρ x=(NV E T op o σ x).reM ρ o.dst:=by
 unfold NV
 split
 ·split
  ·exact Cc _
  ·exact Cc _
  ·rfl
 ·rfl
end
end Go.AM
end

section
/- Two operations that do not meddle with one another may change places. -/
namespace Go.AM
open Go.RowKit (Below)
set_option linter.unusedSectionVars false
variable [Lay]
def reads (σ:St) (o:Oper):List Nat:=o.op.operands.toList.flatMap fun x=>FC (opd σ x)
def aT (E:Env) (σ:St) (f:AV) (xs:List Operand):List Nat:=
 match f with
 | .fn f _=>Ej σ (E.inpl f) xs
 | .clo f _=>Ej σ (E.inpl f) xs
 | _=>[]
def Mx (i:Nat):Nat:=2*pid0+i
def Oe:AV→List Nat
 | .dat _ _ g=>g.map fun t=>Mx t.id
 | .slw _ _=>[2*pid0-1]
 | _=>[]
def SN (σ:St) (o:Oper) (s:Operand):List Nat:=FC (opd σ s)++(Oe (opd σ s)++(o.dst.map fun d=>Mx (rid d 0)).toList)
def wr (E:Env) (σ:St) (o:Oper):List Nat:=
 match o.op with
 | .store _ a _=>FC (opd σ a)
 | .move x | .assign x=>bif Hi E o.dst && Kr x then o.dst.toList else []
 | .call c=>match c.callee with
  | .builtin .append=>match c.args.toList with
   | s :: _=>SN σ o s
   | []=>[]
  | .builtin .clear=>match c.args.toList with
   | s :: _=>FC (opd σ s)
   | []=>[]
  | .builtin .copy=>match c.args.toList with
   | s :: _=>FC (opd σ s)
   | []=>[]
  | .value f=>aT E σ (opd σ f) c.args.toList++(FC (opd σ f)++o.dst.toList)
  | _=>[]
 | .alloc _ | .box .. | .makeSlice .. =>o.dst.toList
 | .convert .. =>bif Hi E o.dst then o.dst.toList else []
 | .makeFunc _ _ q=>q.toList.flatMap fun x=>FC (opd σ x)
 | _=>[]
section
variable {E : Env} {o : Oper} {σ ρ σ' : St} {ops : Array Oper}
theorem It.sub {I J:List Nat} (h:It I σ ρ) (hs:∀ x∈J,x∈I):It J σ ρ:=fun id hid=>h id (hs id hid)
theorem Zp0 {x:Operand} (h:It (reads σ o) σ ρ) (hx:x∈o.op.operands):It (FC (opd σ x)) σ ρ:=
 h.sub fun y hy=>List.mem_flatMap.2 ⟨x,by simpa using hx,hy⟩
theorem VL (hp:KB E o=true) (hnp:∀ c x y,o.op≠ .pick c x y) (ht:ρ.t = σ.t) (h:It (reads σ o) σ ρ):EM E ρ o=(EM E σ o).reM ρ o.dst:=by
 have hn:∀ x∈o.op.operands,It (FC (opd σ x)) σ ρ:=fun x hx=>Zp0 h hx
 unfold KB at hp
 unfold EM
 cases ho:o.op <;> rw [ho] at hp hn <;> (try dsimp only)
 case move x=>rw [Fa ht];exact fO _ (Bool.not_eq_true' _ ▸ hp)
 case assign x=>rw [Fa ht];exact fO _ (Bool.not_eq_true' _ ▸ hp)
 case build T ps=>
  split
  ·split
   ·have:HH E T ρ = HH E T σ:=by
     funext t ps z g
     have hb:∀ (ps:List (Nat×Operand)) (z:t.D) (g:List Tag),HH E T ρ t ps z g=HH E T σ t ps z g:=by
      intro ps
      induction ps with
      | nil=>intro z g;rfl
      | cons p ps ih=>intro z g;obtain ⟨f,x⟩:=p;unfold HH;rw [Fa ht];simp only [ih]
     exact hb ps z g
    rw [this]
    split
    ·exact Cc _
    ·rfl
   ·rfl
  ·rfl
 case buildSlice T n ps=>
  unfold GX
  cases hdst:o.dst with
  | none=>rfl
  | some d=>
   rw [hdst] at hp
   have hl:E.lit d=true:=hp
   have hb:∀ (e:Ty) (ps:List (Nat×Operand)) (i:Nat),OC ρ e i ps=OC σ e i ps:=by
    intro e ps
    induction ps with
    | nil=>intro i;rfl
    | cons p ps ih=>intro i;obtain ⟨j,x⟩:=p;unfold OC;rw [Fa ht];simp only [ih]
   cases E.ty T with
   | none=>rfl
   | some t=>
    cases t with
    | sl e=>
     dsimp only
     rw [hb]
     split
     ·rename_i l _
      split
      ·rw [hl]
       have:=CH (o:=o) (σ:=σ) (ρ:=ρ) (decide (n*e.sz≤16777216) && true) (.dat (.sl e) l [])
       unfold chk at this
       rw [hdst] at this
       exact this
      ·rfl
     ·rfl
    | _=>rfl
 case load T x=>rw [Fa ht];exact Zzg T _ (hn x (by simp [Op.operands]))
 case nilCheck x=>
  rw [Fa ht]
  have hx:=hn x (by simp [Op.operands])
  revert hx
  generalize opd σ x=y
  intro hx
  cases y with
  | ptr id ver off=>obtain ⟨hv,hc⟩:=hx.head;dsimp only;rw [hv];((repeat' split) <;> first | rfl | exact Cc _ | exact CH _ _ | (simp_all;done))
  | aptr id ver i off=>obtain ⟨hv,hc⟩:=hx.head;dsimp only;rw [hv];((repeat' split) <;> first | rfl | exact Cc _ | exact CH _ _ | (simp_all;done))
  | ept t x off=>exact Cc _
  | _=>rfl
 case binOp op T x y U=>
  rw [Fa ht,Fa ht]
  cases Qb y with
  | true=>exact vD T op _
  | false=>exact vC T op _ _
 case unOp op T x=>rw [Fa ht];unfold Ph;((repeat' split) <;> first | rfl | exact Cc _ | exact CH _ _ | (simp_all;done))
 case convert s d x=>rw [Fa ht];exact kt s d _ (hn x (by simp [Op.operands])) (Bool.not_eq_true' _ ▸ hp)
 case makeFunc fn p q=>
  have hq:q = #[]:=Array.eq_empty_of_size_eq_zero (of_decide_eq_true hp)
  subst hq
  cases fn with
  | func f=>
   dsimp only
   split
   ·cases Hi E o.dst with
    | true=>exact Cc _
    | false=>exact Cc _
   ·rfl
  | _=>rfl
 case slice T x lo hi mx=>
  cases mx with
  | none=>dsimp only;rw [Fa ht];exact vA T _ lo hi ht (hn x (by simp [Op.operands]))
  | some m=>rfl
 case fieldAddr S x f=>rw [Fa ht];exact cm S f _ (hn x (by simp [Op.operands]))
 case field S x f=>rw [Fa ht];unfold Nc;((repeat' split) <;> first | rfl | exact Cc _ | exact CH _ _ | (simp_all;done))
 case indexAddr T x i=>rw [Fa ht,Fa ht];exact cn T _ _ (hn x (by simp [Op.operands]))
 case index T x i=>rw [Fa ht,Fa ht];unfold Nd;((repeat' split) <;> first | rfl | exact Cc _ | exact CH _ _ | (simp_all;done))
 case extract x i=>rw [Fa ht];unfold JD;((repeat' split) <;> first | rfl | exact Cc _ | exact CH _ _ | (simp_all;done))
 case pick c x y=>exact absurd ho (hnp c x y)
 case call c=>
  unfold KQ
  dsimp only at hp
  have hopd:opd ρ = opd σ:=funext fun x=>Fa ht x
  rw [hopd]
  split
  ·rename_i b hb
   split
   ·rename_i x T ha hat
    exact Zq0 _ _ (hn x (by
     simp only [Op.operands,Call.operands,hb]
     exact Array.mem_append.2 (.inr (by rw [← Array.mem_toList_iff,ha];simp))))
   ·rename_i s x T U ha hat;rw [hb] at hp;cases hp
   ·rw [hb] at hp;cases hp
   ·rw [hb] at hp;cases hp
   ·unfold IC;((repeat' split) <;> first | rfl | exact Cc _ | exact CH _ _ | (simp_all;done))
   ·unfold IC;((repeat' split) <;> first | rfl | exact Cc _ | exact CH _ _ | (simp_all;done))
   ·rfl
  ·rename_i f hf;rw [hf] at hp;cases hp
  ·rfl
 all_goals cases hp
theorem Step.fJ {s:Step} (h:s.to σ'):(s.reM ρ o.dst).to (ρ.BO o.dst (dv σ' o.dst)):=by
 cases s with
 | no=>exact h
 | go c σ1=>obtain ⟨rfl,rfl⟩:=h;exact ⟨rfl,rfl⟩
 | call α m f=>obtain ⟨x,hx,rfl⟩:=h;exact ⟨x,hx,rfl⟩
theorem Step.SO {s:Step} {a b:St} (ha:s.to a) (hb:s.to b):a=b:=by
 cases s with
 | no=>exact ha.elim
 | go c σ1=>exact ha.2.trans hb.2.symm
 | call α m f=>obtain ⟨x,hx,rfl⟩:=ha;obtain ⟨y,hy,rfl⟩:=hb;rw [hx] at hy;cases hy;rfl
theorem aU (I:List Nat) (σ:St):It I σ σ:=fun _ _=>⟨rfl, .inl rfl⟩
theorem fK (hp:KB E o=true) (hg:GQ E σ o σ'):σ' = σ.BO o.dst (dv σ' o.dst)∧∀ ρ,ρ.t = σ.t→It (reads σ o) σ ρ→GQ E ρ o (ρ.BO o.dst (dv σ' o.dst)):=by
 unfold GQ at *
 split at hg
 ·rename_i c x y ho
  obtain ⟨t,gs,hc,rfl⟩:=hg
  refine ⟨(KC _ _ _).symm,fun ρ ht _=>⟨t,gs,(Fa ht c).trans hc,?_⟩⟩
  rw [KC,Fa ht x,Fa ht y]
 ·rename_i hnp
  have h1:=VL (E:=E) hp hnp (ρ:=σ) rfl (aU _ _)
  have h2:=Step.fJ (ρ:=σ) (o:=o) hg
  rw [← h1] at h2
  refine ⟨Step.SO hg h2,fun ρ ht hn=>?_⟩
  rw [VL hp hnp ht hn]
  exact Step.fJ hg
theorem fL (hp:KB E o=true) (hg:GTo E ops o σ σ'):σ' = σ.BO o.dst (dv σ' o.dst)∧∀ ρ,ρ.t = σ.t→It (reads σ o) σ ρ→GTo E ops o ρ (ρ.BO o.dst (dv σ' o.dst)):=by
 unfold GTo at *
 split at hg
 ·exact fK hp hg
 ·split at hg
  ·subst hg;exact ⟨(KC _ _ _).symm,fun ρ ht _=>by rw [KC]⟩
  ·rename_i s hs
   split at hg
   ·rename_i hv
    subst hg
    refine ⟨(KC _ _ _).symm,fun ρ ht _=>?_⟩
    rw [ht,hv,KC]
   ·rename_i b gs hv
    split at hg
    ·rename_i he
     subst he
     obtain ⟨h1,h2⟩:=fK hp hg
     refine ⟨h1,fun ρ ht hn=>?_⟩
     rw [ht,hv]
     dsimp only
     rw [if_pos rfl]
     exact h2 ρ ht hn
    ·rename_i he
     subst hg
     refine ⟨(KC _ _ _).symm,fun ρ ht _=>?_⟩
     rw [ht,hv,KC]
     dsimp only
     rw [if_neg he]
   ·exact hg.elim
def Kept (W:List Nat) (σ σ':St):Prop:=∀ id,id∉W→σ'.v id = σ.v id∧CEq (σ.c id) (σ'.c id)
theorem Kept.set (W:List Nat) (ρ:St) (d:Option Nat) (a:AV) (h:Kept W σ ρ):Kept W σ (ρ.BO d a):=by
 cases d <;> exact h
theorem kept_refl (W:List Nat) (σ:St):Kept W σ σ:=fun _ _=>⟨rfl, .inl rfl⟩
theorem Nr (W:List Nat) (σ:St) (i:Nat):Kept W σ (σ.Dw i):=fun _ _=>⟨rfl, .inl rfl⟩
theorem CEq.trans {a b c:Option Con} (h:CEq a b) (k:CEq b c):CEq a c:=by
 rcases h with rfl | ⟨e,l,f,f',rfl,rfl⟩
 ·exact k
 ·rcases k with rfl | ⟨e,l,f,f',h1,rfl⟩
  ·exact .inr ⟨_,_,_,_,rfl,rfl⟩
  ·cases h1;exact .inr ⟨_,_,_,_,rfl,rfl⟩
theorem CEq.symm {a b:Option Con} (h:CEq a b):CEq b a:=by
 rcases h with rfl | ⟨e,l,f,f',rfl,rfl⟩
 ·exact .inl rfl
 ·exact .inr ⟨_,_,_,_,rfl,rfl⟩
theorem Kept.trans {W:List Nat} {a b c:St} (h:Kept W a b) (k:Kept W b c):Kept W a c:=fun id hid=>
 ⟨(k id hid).1.trans (h id hid).1,(h id hid).2.trans (k id hid).2⟩
theorem Kept.mono {W W':List Nat} {a b:St} (h:Kept W a b) (hw:∀ x∈W,x∈W'):Kept W' a b:=fun id hid=>h id fun hx=>hid (hw id hx)
def Ff (W:List Nat) (σ:St) (s:Step):Prop:=∀ σ',s.to σ'→Kept W σ σ'
theorem My (W:List Nat) (a:AV):Ff W σ (put o σ a):=by
 rintro _ ⟨_,rfl⟩;exact (kept_refl W σ).set _ _ _ _
theorem VM (W:List Nat) (c:Bool) (a:AV):Ff W σ (chk o c σ a):=by
 rintro _ ⟨_,rfl⟩;exact (kept_refl W σ).set _ _ _ _
theorem FB {d:Nat} (k:Con):Kept [d] σ (σ.BW d k):=fun id hid=>by
 have hne:id≠d:=fun e=>hid (by simp [e])
 unfold St.BW
 dsimp only
 rw [AK,if_neg hne,AK,if_neg hne]
 exact ⟨rfl, .inl rfl⟩
theorem Hc {d:Nat} (k:Con):Kept [d] σ (σ.Cn d k):=fun id hid=>by
 have hne:id≠d:=fun e=>hid (by simp [e])
 unfold St.Cn
 dsimp only
 rw [AK,if_neg hne]
 exact ⟨rfl, .inl rfl⟩
theorem UQ {W:List Nat} {id:Nat} {e:Ty} {l:List e.D} {f f':Bool} (h:σ.c id=some (.arr e l f)):Kept W σ (σ.Cn id (.arr e l f')):=fun i _=>by
 unfold St.Cn
 dsimp only
 rw [AK]
 by_cases hi:i=id
 ·subst hi;rw [if_pos rfl,h];exact ⟨rfl, .inr ⟨_,_,_,_,rfl,rfl⟩⟩
 ·rw [if_neg hi];exact ⟨rfl, .inl rfl⟩
theorem Zyg {W:List Nat} {T:Nat} {m:Bool} {x a:AV} {σ1:St} (h:LM E T m σ x=some (a,σ1)):Kept W σ σ1:=by
 unfold LM at h
 split at h
 ·cases h;exact kept_refl _ _
 ·split at h
  ·cases h;exact kept_refl _ _
  ·cases h
 ·cases m with
  | true=>
   simp only [cond_true] at h
   split at h
   ·split at h
    ·split at h
     ·cases h
     ·cases h;exact kept_refl _ _
    ·cases h
   ·cases h
  | false=>
   simp only [cond_false] at h
   split at h
   ·split at h
    ·rename_i hc;cases h;exact UQ hc
    ·cases h
   ·cases h
 ·split at h
  ·split at h
   ·rename_i hc;cases h;exact UQ hc
   ·cases h
  ·cases h
 ·cases h;exact kept_refl _ _
 ·cases h;exact kept_refl _ _
 ·split at h
  ·split at h
   ·cases h;exact kept_refl _ _
   ·cases h
  ·cases h
 ·cases h
theorem UR:∀ (ids:List Nat) (ds:List Con) (σ:St),Kept ids σ (EL ids ds σ)
 | [],_,σ=>kept_refl _ _
 | _ :: _,[],σ=>kept_refl _ _
 | id :: ids,d :: ds,σ=>fun i hi=>by
  have h1:=Hc (σ:=σ) (d:=id) d i (fun hm=>hi (by rw [List.mem_singleton.1 hm];exact List.mem_cons_self ..))
  have h2:=UR ids ds (σ.Cn id d) i (fun hm=>hi (List.mem_cons_of_mem _ hm))
  exact ⟨h2.1.trans h1.1,h1.2.trans h2.2⟩
theorem SP {W:List Nat}:∀ {ms:List Bool} {ps:List (Operand×Nat)} {σ σ1:St} {l:List AV},Hp E ms ps σ = some (l,σ1)→Kept W σ σ1
 | _,[],σ,σ1,l,h=>by unfold Hp at h;cases h;exact kept_refl _ _
 | ms,(x,T) :: ps,σ,σ1,l,h=>by
  unfold Hp at h
  split at h
  ·rename_i a σ2 ha
   split at h
   ·rename_i l2 σ3 hl
    cases h
    exact (Zyg ha).trans (SP hl)
   ·cases h
  ·cases h
theorem Xc (W:List Nat) (hs:List Nat):Kept W σ (DQ hs σ):=by
 obtain ⟨_,h2,h3,_⟩:=Rn hs σ
 intro i _
 rw [h2,h3]
 exact ⟨rfl, .inl rfl⟩
theorem Og (W:List Nat) (d j n:Nat):Kept W σ (El d j n σ):=fun _ _=>⟨rfl, .inl rfl⟩
theorem fM (ids:List Nat) (a:AV) (ios:List Con):Kept (ids++o.dst.toList) σ (imp o ids σ a ios):=by
 have ks:∀ cs τ,Kept (ids++o.dst.toList) τ (EL ids cs τ):=fun cs τ=>(UR _ _ _).mono fun y hy=>List.mem_append_left _ hy
 unfold imp
 split
 ·exact ks _ _
 ·rename_i d hd
  split
  ·simp only [Ot,Mz];exact Kept.set _ _ _ _ ((Og _ _ _ _).trans ((Og _ _ _ _).trans (ks _ _)))
  ·simp only [Zc,Mz];exact Kept.set _ _ _ _ ((Og _ _ _ _).trans ((Og _ _ _ _).trans (ks _ _)))
  ·exact Kept.set _ _ _ _ ((ks _ _).trans ((FB _).mono fun y hy=>List.mem_append_right _ (by rw [hd];exact hy)))
  ·dsimp only
   split
   ·exact Kept.set _ _ _ _ (ks _ _)
   ·exact Kept.set _ _ _ _ (ks _ _)
  ·exact Kept.set _ _ _ _ (ks _ _)
theorem Cl (W:List Nat):Ff W σ .no:=fun _ h=>h.elim
theorem fN {W:List Nat} {c:Bool} {s:Step} (h:Ff W σ s):Ff W σ (bif c then s else .no):=by
 cases c
 ·exact Cl _
 ·exact h
theorem SQ {W:List Nat} {c:Bool} {s:Step} (h:Ff W σ s):Ff W σ (bif c then .no else s):=by
 cases c
 ·exact h
 ·exact Cl _
theorem Ef {W:List Nat} {c:Bool} {ρ:St} {d:Option Nat} {a:AV} (h:Kept W σ ρ):Ff W σ (.go c (ρ.BO d a)):=by
 rintro _ ⟨_,rfl⟩;exact h.set _ _ _ _
end
end Go.AM
end

section
/- Two operations that do not meddle with one another may change places: the law. -/
namespace Go.AM
open Go.RowKit (Below)
set_option linter.unusedSectionVars false
variable [Lay]
section
variable {E : Env} {o : Oper} {σ ρ σ' : St} {ops : Array Oper}
theorem Zvg {x:AV} {d:Dat} {σ σ1:St} (h:DN σ x=some (d,σ1)):Kept (FC x) σ σ1:=by
 unfold DN at h
 split at h
 ·split at h
  ·split at h
   ·cases h;exact Hc _
   ·cases h;exact kept_refl _ _
   ·cases h
  ·cases h
 ·cases h;exact kept_refl _ _
 ·cases h
theorem aP:∀ {xs:List Operand} {σ σ1:St} {ds:List Dat},KP xs σ = some (ds,σ1)→Kept (xs.flatMap fun x=>FC (opd σ x)) σ σ1
 | [],σ,σ1,ds,h=>by cases h;exact kept_refl _ _
 | x :: xs,σ,σ1,ds,h=>by
  unfold KP at h
  split at h
  ·rename_i d σ2 h1
   split at h
   ·rename_i ds2 σ3 h2
    cases h
    have ht:=Zrv h1
    have he:(xs.flatMap fun x=>FC (opd σ2 x))=xs.flatMap fun x=>FC (opd σ x):=by
     have:(fun x=>FC (opd σ2 x))=fun x=>FC (opd σ x):=funext fun x=>by rw [Fa ht]
     rw [this]
    have k1:=(Zvg h1).mono (W':=(x :: xs).flatMap fun x=>FC (opd σ x)) fun y hy=>by rw [List.flatMap_cons];exact List.mem_append_left _ hy
    have k2:=(aP h2).mono (W':=(x :: xs).flatMap fun x=>FC (opd σ x)) fun y hy=>by rw [he] at hy;rw [List.flatMap_cons];exact List.mem_append_right _ hy
    exact k1.trans k2
   ·cases h
  ·cases h
theorem aQ {x:AV} {c:Bool} (h:(Hi E o.dst && c)=true):Ff (bif Hi E o.dst && c then o.dst.toList else []) σ (KR E o σ c x):=by
 unfold KR
 split
 ·rename_i d hd
  rw [hd] at h ⊢
  simp only [Hi] at h ⊢
  rw [h]
  dsimp only [cond]
  split
  ·exact Ef (FB _)
  ·exact Cl _
 ·exact My _ _
theorem aR {W:List Nat} {b:Bool} {σ σ1:St} (h:Kept W σ σ1):Kept W σ (JF b σ σ1):=by
 cases b
 ·exact h
 ·exact kept_refl _ _
theorem vw {c:Call} (ho:o.op = .call c):Ff (wr E σ o) σ (KQ E c o σ):=by
 unfold wr
 rw [ho]
 obtain ⟨cl,as,ats⟩:=c
 cases cl with
 | builtin b=>
  unfold KQ
  have hlen:∀ W T x,Ff W σ (Mr T o σ x):=fun W T x=>by unfold Mr;((repeat' split) <;> first | exact Cl _ | exact Ef (Nr _ _ _) | exact Ef (kept_refl _ _) | exact My _ _ | exact VM _ _ _)
  have happ:∀ W T U s x,Ff W σ (FY E T U o σ s x):=fun W T U s x=>by unfold FY;((repeat' split) <;> first | exact Cl _ | exact Ef (Nr _ _ _) | exact Ef (kept_refl _ _) | exact My _ _ | exact VM _ _ _)
  have happB:∀ T U id ver x,Ff [id] σ (JV E T U o σ id ver x):=fun T U id ver x=>by unfold JV;((repeat' split) <;> first | exact Cl _ | exact Ef (FB _))
  have hprt:∀ s id lo n,partOf σ s=some (id,lo,n)→FC s=[id]:=fun s id lo n h=>by
   obtain ⟨_,_,_,⟨ver,rfl,_⟩ | ⟨ver,rfl,_⟩⟩:=UY h <;> rfl
  have hclr:∀ T s,Ff (FC s) σ (LL E T o σ s):=fun T s=>by
   unfold LL
   split
   ·rename_i id lo n e hp hT
    rw [hprt _ _ _ _ hp]
    ((repeat' split) <;> first | exact Cl _ | exact Ef (Hc _))
   ·exact Cl _
  have hcpy:∀ T U s x,Ff (FC s) σ (NW E T U o σ s x):=fun T U s x=>by
   unfold NW
   split
   ·rename_i id lo n e hp hT
    rw [hprt _ _ _ _ hp]
    ((repeat' split) <;> first | exact Cl _ | exact Ef (Hc _))
   ·exact Cl _
  have hmm:∀ W f xs,Ff W σ (IC f o σ xs):=fun W f xs=>by unfold IC;((repeat' split) <;> first | exact Cl _ | exact Ef (Nr _ _ _) | exact Ef (kept_refl _ _) | exact My _ _ | exact VM _ _ _)
  clear ho
  dsimp only
  generalize as.toList=al
  generalize ats.toList=tl
  cases b <;> dsimp only
  case len=>rcases al with _ | ⟨s,_ | ⟨x,al⟩⟩ <;> rcases tl with _ | ⟨T,_ | ⟨U,tl⟩⟩ <;> first | exact hlen _ _ _ | exact Cl _
  case append=>
   rcases al with _ | ⟨s,_ | ⟨x,_ | ⟨y,al⟩⟩⟩ <;> rcases tl with _ | ⟨T,_ | ⟨U,_ | ⟨V,tl⟩⟩⟩ <;> (try exact Cl _)
   dsimp only
   unfold SN
   cases opd σ s <;> first | exact fun τ hτ=>(happB _ _ _ _ _ τ hτ).mono fun y hy=>List.mem_append_left _ hy | exact happ _ _ _ _ _
  case clear=>rcases al with _ | ⟨s,_ | ⟨x,al⟩⟩ <;> rcases tl with _ | ⟨T,_ | ⟨U,tl⟩⟩ <;> first | exact hclr _ _ | exact Cl _
  case copy=>rcases al with _ | ⟨s,_ | ⟨x,_ | ⟨y,al⟩⟩⟩ <;> rcases tl with _ | ⟨T,_ | ⟨U,_ | ⟨V,tl⟩⟩⟩ <;> first | exact hcpy _ _ _ _ | exact Cl _
  case min=>exact hmm _ _ _
  case max=>exact hmm _ _ _
  all_goals exact Cl _
 | value f=>
  unfold KQ
  dsimp only
  split
  ·rename_i fn ds hfn
   rw [hfn]
   split
   ·split
    ·split
     ·rename_i l σ1 hl
      split
      ·rename_i r hr
       refine fN ?_
       rintro _ ⟨x,_,rfl⟩
       refine ((aR (SP hl)).trans (Xc _ _)).trans ((fM _ _ _).mono fun y hy=>?_)
       rcases List.mem_append.1 hy with hy | hy
       ·exact List.mem_append_left _ hy
       ·exact List.mem_append_right _ (List.mem_append_right _ hy)
      ·exact Cl _
     ·exact Cl _
    ·exact Cl _
   ·exact Cl _
  ·rename_i fn ps hfn
   rw [hfn]
   split
   ·split
    ·split
     ·rename_i l σ1 cs hl hcs
      split
      ·rename_i r hr
       refine fN ?_
       rintro _ ⟨x,_,rfl⟩
       refine ((aR (SP hl)).trans (Xc _ _)).trans ((fM _ _ _).mono fun y hy=>?_)
       rw [List.append_assoc] at hy
       exact hy
      ·exact Cl _
     ·exact Cl _
    ·exact Cl _
   ·exact Cl _
  ·exact Cl _
 | _=>exact Cl _
theorem vx:Ff (wr E σ o) σ (EM E σ o):=by
 by_cases hp:KB E o=true
 ·by_cases hnp:∀ c x y,o.op≠ .pick c x y
  ·have h1:=VL (E:=E) hp hnp (ρ:=σ) rfl (aU _ _)
   intro σ' h
   have h2:=Step.fJ (ρ:=σ) (o:=o) h
   rw [← h1] at h2
   rw [Step.SO h h2]
   exact (kept_refl _ _).set _ _ _ _
  ·have:∃ c x y,o.op = .pick c x y:=by
    by_cases h:∃ c x y,o.op = .pick c x y
    ·exact h
    ·exact absurd (fun c x y he=>h ⟨c,x,y,he⟩) hnp
   obtain ⟨c,x,y,ho⟩:=this
   unfold EM
   rw [ho]
   exact Cl _
 ·unfold KB at hp
  unfold EM wr
  cases ho:o.op <;> rw [ho] at hp <;> (try dsimp only) <;> (try (exact absurd rfl hp)) <;> (try (exact Cl _))
  case move x=>
   refine aQ ?_
   cases hb:(Hi E o.dst && Kr x) with
   | true=>rfl
   | false=>exact absurd (show (!(Hi E o.dst && Kr x))=true by rw [hb];rfl) hp
  case assign x=>
   refine aQ ?_
   cases hb:(Hi E o.dst && Kr x) with
   | true=>rfl
   | false=>exact absurd (show (!(Hi E o.dst && Kr x))=true by rw [hb];rfl) hp
  case alloc T=>
   unfold Ng
   split
   ·rename_i d hd
    split
    ·rw [hd];exact Ef (FB _)
    ·split
     ·rw [hd];exact Ef (FB _)
     ·exact Cl _
   ·exact Cl _
  case box T x=>
   unfold Sc
   split
   ·rename_i d hd
    split
    ·split
     ·unfold cA;rw [hd];split <;> first | exact Ef (FB _) | exact SQ (Ef (FB _))
     ·exact Cl _
    ·exact Cl _
   ·exact Cl _
  case convert s d x=>
   have hb:Hi E o.dst=true:=by
    cases hq:Hi E o.dst with
    | true=>rfl
    | false=>exact absurd (show (!Hi E o.dst)=true by rw [hq];rfl) hp
   rw [hb]
   unfold Gh
   (repeat' split) <;> first | exact Cl _ | exact My _ _ | (rename_i d' _ hd _ ;rw [hd];exact Ef (FB _)) | (rename_i hd _;rw [hd];exact Ef (FB _)) | exact Ef (kept_refl _ _)
  case buildSlice T n ps=>
   unfold GX
   split
   ·rename_i d e _ _
    split
    ·split
     ·cases E.lit d with
      | true=>exact Ef (kept_refl _ _)
      | false=>exact Ef (Nr _ _ _)
     ·exact Cl _
    ·exact Cl _
   ·exact Cl _
  case makeFunc fn p q=>
   cases fn with
   | func f=>
    dsimp only
    split
    ·cases Hi E o.dst with
     | true=>
      dsimp only [cond]
      split
      ·exact My _ _
      ·exact Cl _
     | false=>
      dsimp only [cond]
      split
      ·rename_i ds σ1 hq;exact Ef (aP hq)
      ·exact Cl _
    ·exact Cl _
   | _=>exact Cl _
  case makeSlice T x y=>
   unfold IN
   split
   ·rename_i d e k n g k2 m g2 hd _ _ _
    split
    ·rw [hd];exact Ef (FB _)
    ·split
     ·cases E.bx d with
      | true=>rw [hd];exact Ef (FB _)
      | false=>exact Ef (Nr _ _ _)
     ·exact Cl _
   ·exact Cl _
  case store T a x=>
   unfold Nf
   split
   ·rename_i id ver off ha
    rw [show FC (opd σ a)=[id] by rw [ha];rfl]
    (repeat' split) <;> first | exact Cl _ | exact Ef (Hc _) | exact SQ (Ef (Hc _))
   ·rename_i id ver i off ha
    rw [show FC (opd σ a)=[id] by rw [ha];rfl]
    (repeat' split) <;> first | exact Cl _ | exact Ef (Hc _) | exact SQ (Ef (Hc _))
   ·exact Cl _
  case call c=>
   have:=vw (E:=E) (σ:=σ) ho
   unfold wr at this
   rw [ho] at this
   exact this
theorem fG (h:GTo E ops o σ σ'):Kept (wr E σ o) σ σ':=by
 have hs:∀ a,Kept (wr E σ o) σ (σ.BO o.dst a):=fun a=>(kept_refl _ _).set _ _ _ _
 have h1:GQ E σ o σ'→Kept (wr E σ o) σ σ':=fun h=>by
  unfold GQ at h
  split at h
  ·obtain ⟨t,gs,_,rfl⟩:=h;exact hs _
  ·exact vx _ h
 unfold GTo at h
 split at h
 ·exact h1 h
 ·split at h
  ·subst h;exact hs _
  ·split at h
   ·subst h;exact hs _
   ·split at h
    ·exact h1 h
    ·subst h;exact hs _
   ·exact h.elim
theorem cW (h:GTo E ops o σ σ'):σ'.t=FI σ.t o.dst (dv σ' o.dst):=by
 have hs:∀ a,(σ.BO o.dst a).t=FI σ.t o.dst (dv (σ.BO o.dst a) o.dst):=fun a=>by
  cases o.dst with
  | none=>rfl
  | some d=>show EK σ.t d a=EK σ.t d (EK σ.t d a d);rw [Py]
 have h1:GQ E σ o σ'→σ'.t=FI σ.t o.dst (dv σ' o.dst):=fun h=>by
  unfold GQ at h
  split at h
  ·obtain ⟨t,gs,_,rfl⟩:=h;exact hs _
  ·have h2:=fS (E:=E) (σ:=σ) (o:=o) (t':=σ.t) fun _ _=>rfl
   have h3:=Step.vF (t':=σ.t) (d:=o.dst) h
   rw [← h2] at h3
   have h4:=Step.SO h h3
   exact congrArg St.t h4
 unfold GTo at h
 split at h
 ·exact h1 h
 ·split at h
  ·subst h;exact hs _
  ·split at h
   ·subst h;exact hs _
   ·split at h
    ·exact h1 h
    ·subst h;exact hs _
   ·exact h.elim
theorem Oo {t:Nat→AV} {d:Option Nat} {a:AV} {i:Nat} (h:d≠some i):FI t d a i=t i:=by
 cases d with
 | none=>rfl
 | some d=>show EK t d a i=t i;rw [AK,if_neg fun e=>h (by rw [e])]
theorem SL {t:Nat→AV} {d e:Option Nat} {a b:AV} (h:∀ i,d=some i→e≠some i):FI (FI t d a) e b=FI (FI t e b) d a:=by
 funext i
 cases d with
 | none=>rfl
 | some d=>
  cases e with
  | none=>rfl
  | some e=>
   have hne:d≠e:=fun he=>h d rfl (by rw [he])
   show EK (EK t d a) e b i=EK (EK t e b) d a i
   simp only [AK]
   by_cases h1:i=e
   ·rw [if_pos h1,if_neg (by omega),if_pos h1]
   ·rw [if_neg h1,if_neg h1]
theorem Fk (E:Env) (h:∀ d∈o.looksAt ops,ρ.t d = σ.t d):reads ρ o=reads σ o∧wr E ρ o=wr E σ o:=by
 have hop:∀ x∈o.op.operands,opd ρ x=opd σ x:=fun x hx=>by
  cases x with
  | tmp d=>exact h d (List.mem_append_left _ (List.mem_filterMap.2 ⟨.tmp d,by simpa using hx,rfl⟩))
  | _=>unfold opd;split <;> simp_all
 constructor
 ·unfold reads
  have:∀ (l:List Operand),(∀ x∈l,opd ρ x=opd σ x)→(l.flatMap fun x=>FC (opd ρ x))=l.flatMap fun x=>FC (opd σ x):=fun l=>by
   induction l with
   | nil=>intro _;rfl
   | cons x l ih=>intro hl;rw [List.flatMap_cons,List.flatMap_cons,hl x (List.mem_cons_self ..),ih fun y hy=>hl y (List.mem_cons_of_mem _ hy)]
  exact this o.op.operands.toList fun x hx=>hop x (by simpa using hx)
 ·have hfl:∀ (f:AV→List Nat) (l:List Operand),(∀ x∈l,opd ρ x=opd σ x)→(l.flatMap fun x=>f (opd ρ x))=l.flatMap fun x=>f (opd σ x):=fun f l=>by
   induction l with
   | nil=>intro _;rfl
   | cons x l ih=>intro hl;rw [List.flatMap_cons,List.flatMap_cons,hl x (List.mem_cons_self ..),ih fun y hy=>hl y (List.mem_cons_of_mem _ hy)]
  unfold wr
  cases ho:o.op <;> (try rfl)
  case store T a x=>
   dsimp only
   rw [hop a (by rw [ho];simp [Op.operands])]
  case makeFunc fn p q=>
   dsimp only
   exact hfl FC q.toList fun x hx=>hop x (by rw [ho];simp only [Op.operands];exact Array.mem_append.2 (.inr (Array.mem_toList_iff.1 hx)))
  case call c=>
   have hargs:∀ x∈c.args.toList,opd ρ x=opd σ x:=fun x hx=>hop x (by rw [ho];simp only [Op.operands];unfold Call.operands;exact Array.mem_append.2 (.inr (Array.mem_toList_iff.1 hx)))
   have hfn:∀ f,c.callee = .value f→opd ρ f=opd σ f:=fun f hc=>hop f (by rw [ho];simp only [Op.operands];unfold Call.operands;rw [hc];exact Array.mem_append.2 (.inl (by simp)))
   clear ho
   obtain ⟨cl,as,ats⟩:=c
   cases cl with
   | builtin b=>
    dsimp only at hargs ⊢
    generalize as.toList=al at hargs ⊢
    cases b <;> dsimp only
    all_goals
     cases al with
     | nil=>rfl
     | cons s r=>dsimp only;(try unfold SN);rw [hargs s (List.mem_cons_self ..)]
   | value f=>
    dsimp only
    rw [hfn f rfl]
    congr 1
    have hai:∀ (ms:List Bool) (l:List Operand),(∀ x∈l,opd ρ x=opd σ x)→Ej ρ ms l=Ej σ ms l:=fun ms l=>by
     induction l generalizing ms with
     | nil=>intro _;unfold Ej;rfl
     | cons x l ih=>intro hl;unfold Ej;rw [hl x (List.mem_cons_self ..),ih ms.tail fun y hy=>hl y (List.mem_cons_of_mem _ hy)]
    unfold aT
    split
    ·exact hai _ _ hargs
    ·exact hai _ _ hargs
    ·rfl
   | _=>rfl
theorem Eb (σ:St) (d:Option Nat) (a:AV):σ.BO d a = σ.onT (FI σ.t d a):=by cases d <;> rfl
def Pw (o:Oper):Bool:=
 match o.guard,o.op with
 | none, .call c=>match c.callee with
  | .builtin .append=>true
  | _=>false
 | _,_=>false
def VK (W:List Nat):Bool:=W.all fun y=>!Nat.beq y (2*pid0-1)
theorem fH {σ ρ:St} {d z:Nat}:∀ {g:List Tag},(∀ t∈g,t.id≠0→ρ.r t.id = σ.r t.id)→HM ρ d z g=HM σ d z g
 | [],_=>rfl
 | t :: g,h=>by
  unfold HM
  rw [fH (g:=g) fun t ht=>h t (List.mem_cons_of_mem _ ht)]
  by_cases h0:t.id=0
  ·rw [if_pos h0,if_pos h0]
  ·rw [if_neg h0,if_neg h0,h t (List.mem_cons_self ..) h0]
theorem Xb {σ:St} {d z i:Nat}:∀ {g:List Tag},HM σ d z g=some i→i=rid d 0∨∃ t∈g,t.id≠0∧t.id=i
 | [],h=>by cases h
 | t :: g,h=>by
  unfold HM at h
  split at h
  ·split at h
   ·cases h;exact .inl rfl
   ·rename_i h0
    split at h
    ·cases h;exact .inr ⟨t,List.mem_cons_self ..,h0,rfl⟩
    ·cases h
  ·rcases Xb h with h | ⟨t',ht,he⟩
   ·exact .inl h
   ·exact .inr ⟨t',List.mem_cons_of_mem _ ht,he⟩
theorem aS (h:∀ d∈o.looksAt ops,ρ.t d = σ.t d):∀ x∈o.op.operands,opd ρ x=opd σ x:=fun x hx=>by
 cases x with
 | tmp d=>exact h d (List.mem_append_left _ (List.mem_filterMap.2 ⟨.tmp d,by simpa using hx,rfl⟩))
 | _=>unfold opd;split <;> simp_all
theorem rA {σ ρ:St} (hc:ρ.c = σ.c) (hv:ρ.v = σ.v) (e:Ty) (x:AV):content ρ e x=content σ e x:=by
 cases x <;> first | rfl | (unfold content;rw [hc,hv])
theorem Zwg {e:Ty} {s:AV} {l:List e.D} (_:s.as (.sl e)=some l):∀ t∈s.tags (.sl e),t.id=0∨Mx t.id∈Oe s:=fun t ht=>by
 cases s with
 | dat u x g=>exact .inr (List.mem_map.2 ⟨t,ht,rfl⟩)
 | nils=>
  have:t=⟨0,0,0,e.sg⟩:=by simpa [AV.tags] using ht
  exact .inl (by rw [this])
 | _=>cases ht
theorem vy {E:Env} {T U:Nat} {s x:AV} {σ':St} (h:(FY E T U o σ s x).to σ'):∃ d i v,o.dst=some d∧(i=rid d 0∨Mx i∈Oe s)∧σ'=(σ.Dw i).BO o.dst v∧
  ∀ ρ:St,ρ.c = σ.c→ρ.v = σ.v→(∀ j,j=rid d 0∨Mx j∈Oe s→ρ.r j = σ.r j)→(FY E T U o ρ s x).to ((ρ.Dw i).BO o.dst v):=by
 unfold FY at h
 split at h
 ·rename_i d e hdst hT
  split at h
  ·rename_i l hl
   split at h
   ·rename_i i hi
    have hm:=Zwg hl
    have hmem:i=rid d 0∨Mx i∈Oe s:=by
     rcases Xb hi with h | ⟨t,ht,hne,rfl⟩
     ·exact .inl h
     ·rcases hm t ht with h0 | h0
      ·exact absurd h0 hne
      ·exact .inr h0
    have hrr:∀ ρ:St,(∀ j,j=rid d 0∨Mx j∈Oe s→ρ.r j = σ.r j)→HM ρ d e.sg (s.tags (.sl e))=some i∧ρ.r i = σ.r i:=fun ρ hρ=>
     ⟨(fH fun t ht hne=>by
      rcases hm t ht with h0 | h0
      ·exact absurd h0 hne
      ·exact hρ _ (.inr h0)).trans hi,hρ i hmem⟩
    split at h
    ·rename_i hU
     split at h
     ·rename_i l2 hl2
      split at h
      ·rename_i y gs hx
       obtain ⟨h1,h2⟩:=h
       refine ⟨d,i,_,hdst,hmem,h2,fun ρ hc hv hρ=>?_⟩
       obtain ⟨h3,h4⟩:=hrr ρ hρ
       unfold FY
       rw [hdst,hT]
       dsimp only
       rw [hl]
       dsimp only
       rw [h3]
       dsimp only
       rw [hU]
       dsimp only
       refine ⟨h1,?_⟩
       rw [h4]
      ·exact h.elim
     ·exact h.elim
    ·rename_i e2 hU
     split at h
     ·rename_i y hy
      obtain ⟨h1,h2⟩:=h
      refine ⟨d,i,_,hdst,hmem,h2,fun ρ hc hv hρ=>?_⟩
      obtain ⟨h3,h4⟩:=hrr ρ hρ
      unfold FY
      rw [hdst,hT]
      dsimp only
      rw [hl]
      dsimp only
      rw [h3]
      dsimp only
      rw [hU]
      dsimp only
      rw [rA hc hv,hy]
      refine ⟨h1,?_⟩
      rw [h4]
     ·exact h.elim
    ·exact h.elim
   ·exact h.elim
  ·exact h.elim
 ·exact h.elim
def SM (I W:List Nat):Bool:=I.all fun x=>W.all fun y=>!Nat.beq x y
theorem Px {I W:List Nat} (h:SM I W=true):∀ x∈I,x∉W:=fun x hx hw=>by
 have:=List.all_eq_true.1 (List.all_eq_true.1 h x hx) x hw
 simp at this
theorem YZ (t:Nat→AV) (ρ:St) (d:Option Nat) (a:AV):FI t d (dv (ρ.BO d a) d)=FI t d a:=by
 cases d with
 | none=>rfl
 | some d=>show EK t d (EK ρ.t d a d)=_;rw [Py];rfl
theorem fI {E:Env} {σ':St} (ha:Pw o=true) (h:GTo E ops o σ σ') (hn:VK (wr E σ o)=true):∃ T U s x,wr E σ o=SN σ o s∧s∈o.op.operands∧x∈o.op.operands∧(FY E T U o σ (opd σ s) (opd σ x)).to σ'∧
  ∀ ρ ρ':St,opd ρ s=opd σ s→opd ρ x=opd σ x→(FY E T U o ρ (opd σ s) (opd σ x)).to ρ'→GTo E ops o ρ ρ':=by
 unfold Pw at ha
 split at ha
 ·rename_i c hg ho
  split at ha
  ·rename_i hb
   unfold GTo at h
   rw [hg] at h
   dsimp only at h
   unfold GQ at h
   rw [ho] at h
   dsimp only at h
   unfold EM at h
   rw [ho] at h
   dsimp only at h
   unfold KQ at h
   rw [hb] at h
   dsimp only at h
   split at h <;> (try contradiction)
   all_goals try exact h.elim
   rename_i b s x T U _ hal htl
   have hw:wr E σ o=SN σ o s:=by
    unfold wr
    rw [ho]
    dsimp only
    rw [hb]
    dsimp only
    rw [hal]
   have hsl:∀ id ver,opd σ s≠ .slw id ver:=fun id ver he=>by
    rw [hw] at hn
    unfold SN at hn
    rw [he] at hn
    have:=List.all_eq_true.1 hn (2*pid0-1) (by simp [Oe])
    simp at this
   have hops:s∈o.op.operands∧x∈o.op.operands:=by
    rw [ho]
    simp only [Op.operands,Call.operands,hb]
    exact ⟨Array.mem_append.2 (.inr (by rw [← Array.mem_toList_iff,hal];simp)),Array.mem_append.2 (.inr (by rw [← Array.mem_toList_iff,hal];simp))⟩
   refine ⟨T,U,s,x,hw,hops.1,hops.2,?_,fun ρ ρ' hs hx h'=>?_⟩
   ·split at h
    ·rename_i id ver he;exact absurd he (hsl id ver)
    ·exact h
   ·unfold GTo
    rw [hg]
    dsimp only
    unfold GQ
    rw [ho]
    dsimp only
    unfold EM
    rw [ho]
    dsimp only
    unfold KQ
    rw [hb]
    dsimp only
    rw [hal,htl]
    dsimp only
    split
    ·rename_i id ver he;rw [hs] at he;exact absurd he (hsl id ver)
    ·rw [hs,hx];exact h'
  ·cases ha
 ·cases ha
theorem vz (σ:St) (i j:Nat) (a b:AV) (d e:Option Nat) (h:∀ k,d=some k→e≠some k):(((σ.Dw i).BO d a).Dw j).BO e b=(((σ.Dw j).BO e b).Dw i).BO d a:=by
 rw [Eb,Eb,Eb,Eb]
 show St.mk _ _ _ _=St.mk _ _ _ _
 have h1:FI (FI σ.t d a) e b=FI (FI σ.t e b) d a:=SL h
 have h2:EK (EK σ.r i (σ.r i+1)) j (EK σ.r i (σ.r i+1) j+1)=EK (EK σ.r j (σ.r j+1)) i (EK σ.r j (σ.r j+1) i+1):=by
  funext k
  simp only [AK]
  by_cases hij:i=j
  ·subst hij;rfl
  ·by_cases h1:k=i <;> by_cases h2:k=j <;> simp_all
   all_goals (first | rfl | (intro h;exact absurd h.symm hij) | skip)
 exact congr (congrArg (fun t=>St.mk t σ.c σ.v) h1) h2
theorem Zxg {E:Env} {i j:Oper} {σ σ1 σ2:St} (hap:i.apart ops j=true) (hj:GTo E ops j σ σ1) (hi:GTo E ops i σ1 σ2)
  (h1:Pw i=true) (h2:Pw j=true) (h3:SM (wr E σ1 i) (wr E σ j)=true) (h4:VK (wr E σ1 i)=true) (h5:VK (wr E σ j)=true):
  ∃ ρ,GTo E ops i σ ρ∧GTo E ops j ρ σ2∧reads σ i=reads σ1 i∧wr E σ i=wr E σ1 i∧reads ρ j=reads σ j∧wr E ρ j=wr E σ j:=by
 obtain ⟨a1,a2,a3⟩:=Oper.apart_spec hap
 have htj:=cW hj
 have hti:=cW hi
 have ci:∀ d∈i.looksAt ops,σ.t d = σ1.t d:=fun d hd=>by rw [htj,Oo fun e=>a3 d e hd]
 have key:∀ ρ:St,ρ.t=FI σ.t i.dst (dv σ2 i.dst)→∀ d∈j.looksAt ops,ρ.t d = σ.t d:=fun ρ hρ d hd=>by rw [hρ,Oo fun e=>a1 d e hd]
 obtain ⟨Tj,Uj,sj,xj,wj,osj,oxj,ej,bj⟩:=fI h2 hj h5
 obtain ⟨Ti,Ui,si,xi,wi,osi,oxi,ei,bi⟩:=fI h1 hi h4
 obtain ⟨dj,rj,vj,hdj,mj,rfl,fj⟩:=vy ej
 obtain ⟨di,ri,vi,hdi,mi,rfl,fi⟩:=vy ei
 have inI:∀ k,k=rid di 0∨Mx k∈Oe (opd ((σ.Dw rj).BO j.dst vj) si)→Mx k∈wr E ((σ.Dw rj).BO j.dst vj) i:=fun k hk=>by
  rw [wi]
  unfold SN
  rcases hk with rfl | hk
  ·exact List.mem_append_right _ (List.mem_append_right _ (by rw [hdi];simp))
  ·exact List.mem_append_right _ (List.mem_append_left _ hk)
 have inJ:∀ k,k=rid dj 0∨Mx k∈Oe (opd σ sj)→Mx k∈wr E σ j:=fun k hk=>by
  rw [wj]
  unfold SN
  rcases hk with rfl | hk
  ·exact List.mem_append_right _ (List.mem_append_right _ (by rw [hdj];simp))
  ·exact List.mem_append_right _ (List.mem_append_left _ hk)
 have hne:∀ k l,Mx k∈wr E ((σ.Dw rj).BO j.dst vj) i→Mx l∈wr E σ j→k≠l:=fun k l hk hl he=>by
  subst he
  exact Px h3 _ hk hl
 have rr:∀ (τ:St) (m k:Nat) (d:Option Nat) (a:AV),k≠m→((τ.Dw m).BO d a).r k = τ.r k:=fun τ m k d a hk=>by
  rw [Eb]
  show EK τ.r m _ k=_
  rw [AK,if_neg hk]
 have cc:∀ (τ:St) (m:Nat) (d:Option Nat) (a:AV),((τ.Dw m).BO d a).c = τ.c:=fun τ m d a=>by rw [Eb];rfl
 have vv:∀ (τ:St) (m:Nat) (d:Option Nat) (a:AV),((τ.Dw m).BO d a).v = τ.v:=fun τ m d a=>by rw [Eb];rfl
 have tt:∀ (τ:St) (m:Nat) (d:Option Nat) (a:AV),((τ.Dw m).BO d a).t=FI τ.t d a:=fun τ m d a=>by rw [Eb];rfl
 have g1:=fi σ (cc _ _ _ _).symm (vv _ _ _ _).symm fun k hk=>(rr _ _ _ _ _ (hne k rj (inI k hk) (inJ rj mj))).symm
 have hlook:=aS ci
 have G1:=bi σ _ (hlook _ osi) (hlook _ oxi) g1
 have hρt:((σ.Dw ri).BO i.dst vi).t=FI σ.t i.dst (dv ((((σ.Dw rj).BO j.dst vj).Dw ri).BO i.dst vi) i.dst):=by
  rw [tt,YZ]
 have kl:=key _ hρt
 have hlook2:=aS kl
 have g2:=fj ((σ.Dw ri).BO i.dst vi) (cc _ _ _ _) (vv _ _ _ _) fun k hk=>rr _ _ _ _ _ (Ne.symm (hne ri k (inI ri mi) (inJ k hk)))
 have G2:=bj _ _ (hlook2 _ osj) (hlook2 _ oxj) g2
 rw [vz σ ri rj vi vj i.dst j.dst a2] at G2
 exact ⟨_,G1,G2,(Fk E ci).1,(Fk E ci).2,(Fk E kl).1,(Fk E kl).2⟩
theorem swap {i j:Oper} {σ σ1 σ2:St} (hap:i.apart ops j=true) (hj:GTo E ops j σ σ1) (hi:GTo E ops i σ1 σ2)
  (hind:((KB E i=true∧SM (reads σ1 i) (wr E σ j)=true)∨(KB E j=true∧SM (reads σ j) (wr E σ1 i)=true))∨(Pw i=true∧Pw j=true∧SM (wr E σ1 i) (wr E σ j)=true∧VK (wr E σ1 i)=true∧VK (wr E σ j)=true)):
  ∃ ρ,GTo E ops i σ ρ∧GTo E ops j ρ σ2∧reads σ i=reads σ1 i∧wr E σ i=wr E σ1 i∧reads ρ j=reads σ j∧wr E ρ j=wr E σ j:=by
 obtain ⟨a1,a2,a3⟩:=Oper.apart_spec hap
 have htj:=cW hj
 have hti:=cW hi
 have ci:∀ d∈i.looksAt ops,σ.t d = σ1.t d:=fun d hd=>by rw [htj,Oo fun e=>a3 d e hd]
 have key:∀ ρ:St,ρ.t=FI σ.t i.dst (dv σ2 i.dst)→∀ d∈j.looksAt ops,ρ.t d = σ.t d:=fun ρ hρ d hd=>by rw [hρ,Oo fun e=>a1 d e hd]
 rcases hind with (⟨hp,hdis⟩ | ⟨hp,hdis⟩) | ⟨h1,h2,h3,h4,h5⟩
 ·obtain ⟨e1,st⟩:=fL hp hi
  have hk:=fG hj
  have n1:It (reads σ1 i) σ1 (σ.onT σ1.t):=fun id hid=>
   ⟨(hk id (Px hdis id hid)).1.symm,(hk id (Px hdis id hid)).2.symm⟩
  have g1:=st (σ.onT σ1.t) rfl n1
  have g2:=TY (σ:=σ.onT σ1.t) (t':=σ.t) ci g1
  rw [YZ] at g2
  have e2:(St.BO (σ.onT σ1.t) i.dst (dv σ2 i.dst)).onT (FI σ.t i.dst (dv σ2 i.dst)) = σ.BO i.dst (dv σ2 i.dst):=by
   rw [Eb,Eb];rfl
  rw [e2] at g2
  have hρt:(σ.BO i.dst (dv σ2 i.dst)).t=FI σ.t i.dst (dv σ2 i.dst):=by rw [Eb];rfl
  refine ⟨_,g2,?_,(Fk E ci).1,(Fk E ci).2,(Fk E (key _ hρt)).1,(Fk E (key _ hρt)).2⟩
  have g3:=TY (t':=FI σ.t i.dst (dv σ2 i.dst)) (fun d hd=>Oo fun e=>a1 d e hd) hj
  rw [Eb]
  rw [SL a2,← htj] at g3
  have e7:σ2 = σ1.onT (FI σ1.t i.dst (dv σ2 i.dst)):=e1.trans (Eb _ _ _)
  rw [← e7] at g3
  exact g3
 ·obtain ⟨e1,st⟩:=fL hp hj
  have hk:=fG hi
  have g1:=TY (t':=σ.t) ci hi
  have e3:σ1.onT σ.t = σ:=by rw [e1,Eb];rfl
  rw [e3] at g1
  refine ⟨_,g1,?_,(Fk E ci).1,(Fk E ci).2,(Fk E (key _ rfl)).1,(Fk E (key _ rfl)).2⟩
  have n1:It (reads σ j) σ (σ2.onT σ.t):=fun id hid=>by
   have:=hk id (Px hdis id hid)
   have e4:σ1.v = σ.v:=by rw [e1,Eb];rfl
   have e5:σ1.c = σ.c:=by rw [e1,Eb];rfl
   rw [e4,e5] at this
   exact this
  have g2:=st (σ2.onT σ.t) rfl n1
  have g3:=TY (σ:=σ2.onT σ.t) (t':=FI σ.t i.dst (dv σ2 i.dst)) (fun d hd=>Oo (t:=σ.t) fun e=>a1 d e hd) g2
  rw [YZ] at g3
  rw [SL a2,← htj,← hti] at g3
  have e6:(St.BO (σ2.onT σ.t) j.dst (dv σ1 j.dst)).onT σ2.t = σ2:=by rw [Eb];rfl
  rw [e6] at g3
  exact g3
 ·exact Zxg hap hj hi h1 h2 h3 h4 h5
end
end Go.AM
end

section
/- Regions whose order is drawn. -/
namespace Go.AM
open Go.RowKit (Below)
set_option linter.unusedSectionVars false
variable [Lay]
abbrev Ft:=Nat×List Nat×List Nat
section
variable {R : Type}
def evF (E:Env) (ops:Array Oper):List Oper→Nat→St→List Ft→(List Ft→St→Option R)→Option R
 | [],_,σ,acc,k=>k acc σ
 | o :: r,i,σ,acc,k=>evG E ops o σ fun σ'=>evF E ops r (i+1) σ' ((i,reads σ o,wr E σ o) :: acc) k
def WZ (ops:Array Oper) (l:List Nat) (i:Nat):Nat:=
 match ops[i]? with
 | none=>0
 | some o=>o.after.toList.foldl (fun m e=>bif Region.binds .any e then m ||| (2 ^ e.on ||| l.getD e.on 0) else m) 0
def Mc (ops:Array Oper):Nat→List Nat
 | 0=>[]
 | k+1=>let l:=Mc ops k;l++[WZ ops l k]
def TX (M:List Nat) (j i:Nat):Bool:=(M.getD i 0).testBit j
def YY (E:Env) (ops:Array Oper) (y x:Ft):Bool:=
 match ops[y.1]?,ops[x.1]? with
 | some j,some i=>i.apart ops j && (((KB E i && SM x.2.1 y.2.2) || (KB E j && SM y.2.1 x.2.2)) || (Pw i && (Pw j && (SM x.2.2 y.2.2 && (VK x.2.2 && VK y.2.2)))))
 | _,_=>false
def fC (E:Env) (ops:Array Oper) (M:List Nat):List Ft→Bool
 | []=>true
 | x :: r=>(r.all fun y=>TX M y.1 x.1 || YY E ops y x) && fC E ops M r
def cV (ops:Array Oper):Bool:=(List.range ops.size).all fun i=>match ops[i]? with
 | some o=>o.after.toList.all fun e=>!Region.binds .any e || decide (e.on<i)
 | none=>true
def drE (E:Env) (ops:Array Oper) (σ:St) (k:St→Option R):Option R:=
 bif cV ops then evF E ops ops.toList 0 σ [] fun acc τ=>bif fC E ops (Mc ops ops.size) acc then k τ else none
 else none
end
def KA (E:Env) (ops:Array Oper):List Ft→St→St→Prop
 | [],σ,τ=>τ = σ
 | x :: r,σ,τ=>∃ o σ1,ops[x.1]? = some o∧reads σ o=x.2.1∧wr E σ o=x.2.2∧GTo E ops o σ σ1∧KA E ops r σ1 τ
section
variable {P : Program} {B : Bd} {ok0 : Nat → Nat → Prop} {w0 w w' : World} {g g' : G} {σ σ1 τ : St} {a : Act} {E : Env} {ops : Array Oper} {R : Type}
theorem KA.append {E:Env} {ops:Array Oper}:∀ {l m:List Ft} {σ τ υ:St},KA E ops l σ τ→KA E ops m τ υ→KA E ops (l++m) σ υ
 | [],_,_,_,_,h,k=>by cases h;exact k
 | _ :: _,_,_,_,_,⟨o,σ1,h1,h2,h3,h4,h5⟩,k=>⟨o,σ1,h1,h2,h3,h4,h5.append k⟩
theorem fD:∀ {l:List Oper} {i:Nat} {σ σ0:St} {acc:List Ft} {k:List Ft→St→Option R} {r:R},(∀ j,l[j]? = ops[i+j]?)→KA E ops acc.reverse σ0 σ→acc.reverse.map (·.1)=List.range i→
  evF E ops l i σ acc k=some r→∃ acc' τ,KA E ops acc'.reverse σ0 τ∧acc'.reverse.map (·.1)=List.range (i+l.length)∧k acc' τ = some r
 | [],i,σ,σ0,acc,k,r,_,hc,hr,h=>⟨acc,σ,hc,hr,h⟩
 | o :: l,i,σ,σ0,acc,k,r,hl,hc,hr,h=>by
  obtain ⟨σ1,h1,h2⟩:=fZ (k:=fun σ'=>evF E ops l (i+1) σ' ((i,reads σ o,wr E σ o) :: acc) k) h
  have ho:ops[i]? = some o:=by simpa using (hl 0).symm
  obtain ⟨acc',τ,h3,h4,h5⟩:=fD (l:=l) (fun j=>by have:=hl (j+1);simpa [Nat.add_assoc,Nat.add_comm 1 j] using this)
   (by rw [List.reverse_cons];exact hc.append ⟨o,σ1,ho,rfl,rfl,h1,rfl⟩) (by rw [List.reverse_cons,List.map_append,hr,List.range_succ];rfl) h2
  exact ⟨acc',τ,h3,by rw [h4,List.length_cons];congr 1;omega,h5⟩
theorem Xa:∀ {pre:List Ft} {x:Ft} {post:List Ft} {σ τ:St},(∀ y∈pre,YY E ops y x=true)→KA E ops (pre++x :: post) σ τ→KA E ops (x :: (pre++post)) σ τ
 | [],_,_,_,_,_,h=>h
 | y :: pre,x,post,σ,τ,hi,⟨j,σ1,h1,h2,h3,h4,h5⟩=>by
  obtain ⟨i,σ2,k1,k2,k3,k4,k5⟩:=Xa (fun z hz=>hi z (List.mem_cons_of_mem _ hz)) h5
  have hxy:=hi y (List.mem_cons_self ..)
  unfold YY at hxy
  rw [h1,k1] at hxy
  simp only [Bool.and_eq_true,Bool.or_eq_true] at hxy
  rw [← h2,← h3,← k2,← k3] at hxy
  obtain ⟨ρ,g1,g2,e1,e2,e3,e4⟩:=swap hxy.1 h4 k4 hxy.2
  exact ⟨i,ρ,k1,e1.trans k2,e2.trans k3,g1,j,σ2,h1,e3.trans h2,e4.trans h3,g2,k5⟩
theorem aO (ops:Array Oper):∀ n,(Mc ops n).length=n
 | 0=>rfl
 | n+1=>by unfold Mc;simp [aO ops n]
theorem Pv (ops:Array Oper):∀ n i,i<n→(Mc ops n).getD i 0=WZ ops (Mc ops i) i
 | 0,_,h=>by omega
 | n+1,i,h=>by
  show (Mc ops n++[WZ ops (Mc ops n) n]).getD i 0=_
  have hl:=aO ops n
  by_cases hi:i<n
  ·have:=Pv ops n i hi
   rw [List.getD_eq_getElem?_getD] at this ⊢
   rw [List.getElem?_append_left (by omega)]
   exact this
  ·have:i=n:=by omega
   subst this
   rw [List.getD_eq_getElem?_getD,List.getElem?_append_right (by omega),hl,Nat.sub_self]
   rfl
theorem fE (l:List Nat) (j:Nat):∀ (es:List Edge) (m:Nat),(es.foldl (fun m e=>bif Region.binds .any e then m ||| (2 ^ e.on ||| l.getD e.on 0) else m) m).testBit j=true→
  m.testBit j=true∨∃ e∈es,Region.binds .any e=true∧(e.on=j∨(l.getD e.on 0).testBit j=true)
 | [],m,h=> .inl h
 | e :: es,m,h=>by
  rw [List.foldl_cons] at h
  rcases fE l j es _ h with h | ⟨e',he',h'⟩
  ·cases hb:Region.binds .any e with
   | false=>rw [hb] at h;exact .inl h
   | true=>
    rw [hb] at h
    simp only [cond_true,Nat.testBit_or,Bool.or_eq_true] at h
    rcases h with h | h | h
    ·exact .inl h
    ·rw [Nat.testBit_two_pow] at h
     exact .inr ⟨e,List.mem_cons_self ..,hb, .inl (by simpa using h)⟩
    ·exact .inr ⟨e,List.mem_cons_self ..,hb, .inr h⟩
  ·exact .inr ⟨e',List.mem_cons_of_mem _ he',h'⟩
theorem kr {L:Nat→Bool} {n:Nat} (hb:cV ops=true) (hn:n=ops.size) (hdc:∀ m o,ops[m]? = some o→L m=true→∀ e∈o.after.toList,Region.binds .any e=true→L e.on=true):
  ∀ i o,ops[i]? = some o→(∀ e∈o.after.toList,Region.binds .any e=true→L e.on=true)→∀ j,TX (Mc ops n) j i=true→L j=true:=by
 intro i
 induction i using Nat.strongRecOn with
 | _ i ih=>
  intro o ho hp j hj
  have hi:i<ops.size:=(Array.getElem?_eq_some_iff.1 ho).1
  unfold TX at hj
  rw [Pv ops n i (by omega)] at hj
  unfold WZ at hj
  rw [ho] at hj
  rcases fE _ j _ 0 hj with h | ⟨e,he,hbe,h⟩
  ·simp at h
  ·have hlt:e.on<i:=by
    have:=List.all_eq_true.1 hb i (List.mem_range.2 hi)
    rw [ho] at this
    have:=List.all_eq_true.1 this e he
    rw [hbe] at this
    simpa using this
   rcases h with h | h
   ·subst h;exact hp e he hbe
   ·rw [Pv ops i e.on hlt] at h
    obtain ⟨o',ho'⟩:∃ o',ops[e.on]? = some o':=⟨ops[e.on],Array.getElem?_eq_getElem (by omega)⟩
    exact ih e.on hlt o' ho' (hdc e.on o' ho' (hp e he hbe)) j (by unfold TX;rw [Pv ops n e.on (by omega)];exact h)
theorem Za8 (hE:EnvOk P E) (hC:Em P E) {Q:Exit→Act→World→Prop} (hb:cV ops=true):∀ (fuel:Nat) (l:List Ft) (listed:Array Bool) (σ:St) (g:G) (a:Act) (w:World),
  l.length=fuel→l.Pairwise (fun x y=>x.1<y.1)→(∀ x∈l,x.1<ops.size)→listed.size=ops.size→(∀ i,i<ops.size→(listed.getD i true=false↔∃ x∈l,x.1=i))→
  (∀ m o,ops[m]? = some o→listed.getD m false=true→∀ e∈o.after.toList,Region.binds .any e=true→listed.getD e.on false=true)→
  l.Pairwise (fun y x=>TX (Mc ops ops.size) y.1 x.1=true∨YY E ops y x=true)→
  KA E ops l σ τ→Inv B ok0 w0 g σ a w→Xg a.tmps.size ops=true→
  (∀ g' a' w',Inv B ok0 w0 g' τ a' w'→a'.tmps.size=a.tmps.size→Q .normal a' w')→wpAny P .any ops Q fuel listed a w:=by
 have rd:∀ (listed:Array Bool) i,listed.size=ops.size→i<ops.size→listed.getD i true=listed.getD i false:=fun listed i hs hi=>by
  have hi':i<listed.size:=by omega
  simp [hi']
 intro fuel
 induction fuel with
 | zero=>
  intro l listed σ g a w hlen _ _ hsz hls _ _ hch hI _ hq
  have:l=[]:=List.eq_nil_of_length_eq_zero hlen
  subst this
  cases hch
  refine ⟨?_,hq g a w hI rfl⟩
  unfold Region.ready
  rw [List.filter_eq_nil_iff]
  intro i hi hc
  simp only [Bool.and_eq_true,Bool.not_eq_true'] at hc
  obtain ⟨x,hx,_⟩:=(hls i (List.mem_range.1 hi)).1 hc.1
  cases hx
 | succ fuel ih=>
  intro l listed σ g a w hlen hsort hlt hsz hls hdc hpw hch hI hin hq
  constructor
  ·intro hr
   exfalso
   cases l with
   | nil=>simp at hlen
   | cons x l=>
    have hx:=hlt x (List.mem_cons_self ..)
    have hm:x.1∈Region.ready .any ops listed:=by
     refine mem_ready.2 ⟨(hls x.1 hx).2 ⟨x,List.mem_cons_self ..,rfl⟩,ops[x.1],Array.getElem?_eq_getElem hx,fun e he hbe=>?_⟩
     have he':e.on<x.1:=by
      have:=List.all_eq_true.1 hb x.1 (List.mem_range.2 hx)
      rw [Array.getElem?_eq_getElem hx] at this
      have:=List.all_eq_true.1 this e (by simpa using he)
      rw [hbe] at this
      simpa using this
     rw [← rd listed e.on hsz (by omega)]
     cases hv:listed.getD e.on true with
     | true=>rfl
     | false=>
      obtain ⟨y,hy,hye⟩:=(hls e.on (by omega)).1 hv
      rcases List.mem_cons.1 hy with rfl | hy
      ·omega
      ·have:=List.rel_of_pairwise_cons hsort hy
       omega
    rw [hr] at hm
    cases hm
  ·intro i hi
   obtain ⟨hun,oi,hoi,hall⟩:=mem_ready.1 hi
   have hilt:i<ops.size:=(Array.getElem?_eq_some_iff.1 hoi).1
   obtain ⟨x,hx,hxi⟩:=(hls i hilt).1 hun
   obtain ⟨pre,post,rfl⟩:=List.append_of_mem hx
   subst hxi
   have hind:∀ y∈pre,YY E ops y x=true:=fun y hy=>by
    have:=(List.pairwise_append.1 hpw).2.2 y hy x (List.mem_cons_self ..)
    rcases this with h | h
    ·exfalso
     have hyl:=hlt y (List.mem_append_left _ hy)
     have h1:=kr (L:=fun m=>listed.getD m false) hb rfl hdc x.1 oi hoi (fun e he hbe=>hall e (by simpa using he) hbe) y.1 h
     have h2:=(hls y.1 hyl).2 ⟨y,List.mem_append_left _ hy,rfl⟩
     rw [rd listed y.1 hsz hyl] at h2
     simp only [h2] at h1
     cases h1
    ·exact h
   obtain ⟨o,σ1,k1,_,_,k4,k5⟩:=Xa hind hch
   rw [hoi] at k1
   cases k1
   unfold wpOp
   rw [hoi]
   dsimp only
   have hsub:(pre++post).Sublist (pre++x :: post):=List.Sublist.append_left (List.sublist_cons_self ..) _
   have hnot:∀ y∈pre++post,y.1≠x.1:=fun y hy he=>by
    rw [List.pairwise_append] at hsort
    rcases List.mem_append.1 hy with hy | hy
    ·have:=hsort.2.2 y hy x (List.mem_cons_self ..);omega
    ·have:=List.rel_of_pairwise_cons hsort.2.1 hy;omega
   refine k4.wp hE hC hI (fun d hd=>Xh hin oi (by rw [Array.mem_toList_iff];exact Array.mem_of_getElem? hoi) d hd) fun g' a' w' hI' hs=>?_
   refine ih (pre++post) (listed.setIfInBounds x.1 true) σ1 g' a' w' ?_ (hsort.sublist hsub) (fun y hy=>hlt y (hsub.subset hy)) (by simp [hsz]) ?_ ?_ (hpw.sublist hsub) k5 hI' (by rw [hs];exact hin) fun g2 a2 w2 hI2 hs2=>hq g2 a2 w2 hI2 (hs2.trans hs)
   ·simp only [List.length_append,List.length_cons] at hlen ⊢;omega
   ·intro j hj
    by_cases hjx:j=x.1
    ·subst hjx
     have:(listed.setIfInBounds x.1 true).getD x.1 true=true:=by simp [hsz,hilt]
     rw [this]
     constructor
     ·intro h;cases h
     ·rintro ⟨y,hy,hye⟩;exact absurd hye (hnot y hy)
    ·rw [getD_set_ne true (Ne.symm hjx),hls j hj]
     constructor
     ·rintro ⟨y,hy,rfl⟩
      refine ⟨y,?_,rfl⟩
      rcases List.mem_append.1 hy with hy | hy
      ·exact List.mem_append_left _ hy
      ·rcases List.mem_cons.1 hy with rfl | hy
       ·exact absurd rfl hjx
       ·exact List.mem_append_right _ hy
     ·rintro ⟨y,hy,rfl⟩;exact ⟨y,hsub.subset hy,rfl⟩
   ·intro m o' ho' hm e he hbe
    by_cases hmx:m=x.1
    ·subst hmx
     rw [hoi] at ho'
     cases ho'
     exact getD_set_true (hall e (by simpa using he) hbe)
    ·rw [getD_set_ne false (Ne.symm hmx)] at hm
     exact getD_set_true (hdc m o' ho' hm e he hbe)
theorem fF {l:List Ft} {M:List Nat}:fC E ops M l=true→l.reverse.Pairwise (fun y x=>TX M y.1 x.1=true∨YY E ops y x=true):=by
 induction l with
 | nil=>intro _;exact List.Pairwise.nil
 | cons x l ih=>
  intro h
  unfold fC at h
  rw [Bool.and_eq_true] at h
  rw [List.reverse_cons,List.pairwise_append]
  refine ⟨ih h.2,List.pairwise_singleton _ _,fun y hy z hz=>?_⟩
  cases List.mem_singleton.1 hz
  have:=List.all_eq_true.1 h.1 y (List.mem_reverse.1 hy)
  simpa using this
theorem Zqv (hE:EnvOk P E) (hC:Em P E) (hm:P.follows .mixedOrders=true) (n:Nat):Zeh P B ok0 w0 R n (drE E):=by
 intro ops σ k r id Q g a w hn h hI hs hq
 unfold drE at h
 cases hb:cV ops with
 | false=>rw [hb] at h;cases h
 | true=>
  rw [hb] at h
  obtain ⟨acc,τ,h1,h2,h3⟩:=fD (ops:=ops) (l:=ops.toList) (i:=0) (σ0:=σ) (acc:=[]) (fun j=>by simp) rfl rfl h
  cases ho:fC E ops (Mc ops ops.size) acc with
  | false=>rw [ho] at h3;cases h3
  | true=>
   rw [ho] at h3
   have hI':Inv B ok0 w0 g σ a { w with drawn:=w.drawn+1 }:=hI.grown ⟨rfl,rfl,rfl,Nat.le_refl _,fun _ _=>rfl⟩
   have hmap:acc.reverse.map (·.1)=List.range ops.size:=by rw [h2];simp
   have hmem:∀ i,i<ops.size↔∃ x∈acc.reverse,x.1=i:=fun i=>by
    rw [← List.mem_range,← hmap,List.mem_map]
   refine wp_region_any hm (Za8 hE hC hb ops.size acc.reverse _ σ g a _ ?_ ?_ (fun x hx=>(hmem _).2 ⟨x,hx,rfl⟩) (by simp) (fun i hi=>?_) (fun m o _ hm=>?_) (fF ho) h1 hI' (by rw [hs];exact hn)
    fun g' a' w' hI2 hs2=>hq τ h3 g' a' w' hI2 (hs2.trans hs))
   ·have:=congrArg List.length hmap
    simpa using this
   ·have:(acc.reverse.map (·.1)).Pairwise (· < ·):=by rw [hmap];exact List.pairwise_lt_range
    exact List.pairwise_map.1 this
   ·constructor
    ·intro _;exact (hmem i).1 hi
    ·intro _;simp [hi]
   ·exfalso
    by_cases hms:m<ops.size
    ·simp [hms] at hm
    ·simp [hms] at hm
end
end Go.AM
end
