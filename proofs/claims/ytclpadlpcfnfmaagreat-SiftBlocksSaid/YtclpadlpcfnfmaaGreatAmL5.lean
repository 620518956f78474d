import Derived.Test.YtclpadlpcfnfmaaGreatAmL4
section
/- Operations that only read: what they answer hangs on their operands and on the boxes that these lead to. -/
namespace Go.AM
open Go.RowKit (Below)
set_option linter.unusedSectionVars false
variable [Lay]
def Ou (a b:Option Con):Prop:=a=b∨∃ e l f f',a=some (.arr e l f)∧b=some (.arr e l f')
def E1:AV→List Nat
 | .ptr id _ _ | .aptr id _ _ _ | .slw id _ | .slm id _ _ _=>[id]
 | .clo _ ps=>ps.map (·.1)
 | _=>[]
def Ii (I:List Nat) (σ ρ:St):Prop:=∀ id∈I,ρ.v id = σ.v id∧Ou (σ.c id) (ρ.c id)
def Step.Ip (ρ:St) (d:Option Nat):Step→Step
 | .no=> .no
 | .go c σ=> .go c (ρ.BJ d (dv σ d))
 | .call α m f=> .call α m fun x=>ρ.BJ d (dv (f x) d)
def NT (E:Env) (o:Oper):Bool:=
 match o.op with
 | .move x | .assign x=>!(Hi E o.dst && NN x)
 | .buildSlice .. =>match o.dst with
  | some d=>E.lit d
  | none=>false
 | .build .. | .load .. | .nilCheck _ | .binOp .. | .unOp .. | .slice .. | .fieldAddr .. | .field .. | .indexAddr .. | .index .. | .extract .. | .pick .. =>true
 | .convert .. =>!Hi E o.dst
 | .makeFunc _ _ q=>decide (q.size=0)
 | .call c=>match c.callee with
  | .builtin .len | .builtin .min | .builtin .max=>true
  | _=>false
 | _=>false
section
variable {E : Env} {o : Oper} {σ ρ : St}
theorem NV (ρ:St) (d:Option Nat) (a:AV):ρ.BJ d (dv (σ.BJ d a) d) = ρ.BJ d a:=by
 cases d with
 | none=>rfl
 | some d=>show ρ.BJ (some d) (Ed σ.t d a d)=_;rw [YF]
theorem C5 (a:AV):put o ρ a=(put o σ a).Ip ρ o.dst:=by
 unfold put Step.Ip;dsimp only;rw [NV]
theorem D1 (c:Bool) (a:AV):EO o c ρ a=(EO o c σ a).Ip ρ o.dst:=by
 unfold EO Step.Ip;dsimp only;rw [NV]
theorem Ii.head {id:Nat} {I:List Nat} (h:Ii (id :: I) σ ρ):ρ.v id = σ.v id∧Ou (σ.c id) (ρ.c id):=h id (Av ..)
theorem pa (T:Nat) (e:Ty) (l:List e.D) (off:Nat):Qd E T o ρ e l off=(Qd E T o σ e l off).Ip ρ o.dst:=by
 unfold Qd
 ((repeat' split) <;> first | rfl | exact C5 _ | exact D1 _ _ | (simp_all;done))
theorem pb (m:Nat) (e' e:Ty) (l:List e.D):Tm o ρ m e' e l=(Tm o σ m e' e l).Ip ρ o.dst:=by
 unfold Tm
 ((repeat' split) <;> first | rfl | exact C5 _ | exact D1 _ _ | (simp_all;done))
theorem sL {c:Bool} (x:AV) (h:(Hi E o.dst && c)=false):Mo E o ρ c x=(Mo E o σ c x).Ip ρ o.dst:=by
 unfold Mo
 split
 ·rename_i d hd
  rw [hd] at h
  simp only [Hi] at h
  rw [h]
  exact C5 _
 ·exact C5 _
theorem Zn5 (T:Nat) (a:AV) (h:Ii (E1 a) σ ρ):N0 E T o ρ a=(N0 E T o σ a).Ip ρ o.dst:=by
 unfold N0
 cases a with
 | ptr id ver off=>
  obtain ⟨hv,hc⟩:=h.head
  rcases hc with hc | ⟨e,l,f,f',h1,h2⟩
  ·dsimp only;rw [hv,← hc];((repeat' split) <;> first | rfl | exact C5 _ | exact D1 _ _ | exact pa _ _ _ _ | exact pb _ _ _ _ | (simp_all;done))
  ·dsimp only;rw [hv,h1,h2];(try dsimp only);((repeat' split) <;> first | rfl | exact C5 _ | exact D1 _ _ | exact pa _ _ _ _ | exact pb _ _ _ _ | (simp_all;done))
 | aptr id ver i off=>
  obtain ⟨hv,hc⟩:=h.head
  rcases hc with hc | ⟨e,l,f,f',h1,h2⟩
  ·dsimp only;rw [hv,← hc];((repeat' split) <;> first | rfl | exact C5 _ | exact D1 _ _ | (simp_all;done))
  ·dsimp only;rw [hv,h1,h2];(try dsimp only);((repeat' split) <;> first | rfl | exact C5 _ | exact D1 _ _ | (simp_all;done))
 | ept t x off=>((repeat' split) <;> first | rfl | exact C5 _ | exact D1 _ _ | (simp_all;done))
 | _=>rfl
theorem Zzk (S f:Nat) (x:AV) (h:Ii (E1 x) σ ρ):Nw E S f o ρ x=(Nw E S f o σ x).Ip ρ o.dst:=by
 unfold Nw
 split
 ·cases x with
  | ptr id ver off=>obtain ⟨hv,hc⟩:=h.head;dsimp only;rw [hv];((repeat' split) <;> first | rfl | exact C5 _ | exact D1 _ _ | (simp_all;done))
  | aptr id ver i off=>obtain ⟨hv,hc⟩:=h.head;dsimp only;rw [hv];((repeat' split) <;> first | rfl | exact C5 _ | exact D1 _ _ | (simp_all;done))
  | ept t x off=>((repeat' split) <;> first | rfl | exact C5 _ | exact D1 _ _ | (simp_all;done))
  | _=>rfl
 ·rfl
theorem Zal (T:Nat) (x i:AV) (h:Ii (E1 x) σ ρ):Nx E T o ρ x i=(Nx E T o σ x i).Ip ρ o.dst:=by
 unfold Nx
 split
 ·cases x with
  | ptr id ver off=>
   obtain ⟨hv,hc⟩:=h.head
   cases off with
   | succ n=>rfl
   | zero=>
    show (match E.ar T,ρ.c id with
     | some (n,e),some (.arr e' l _)=>if ρ.v id=ver∧e.sz=e'.sz then EO o (AX _ n && decide (n=List.length (α:=e'.D) l)) ρ (.aptr id ver (Int.toNat _) 0) else .no
     | _,_=> .no)=Step.Ip ρ o.dst (match E.ar T,σ.c id with
     | some (n,e),some (.arr e' l _)=>if σ.v id=ver∧e.sz=e'.sz then EO o (AX _ n && decide (n=List.length (α:=e'.D) l)) σ (.aptr id ver (Int.toNat _) 0) else .no
     | _,_=> .no)
    rcases hc with hc | ⟨e,l,f,f',h1,h2⟩
    ·rw [hv,← hc];((repeat' split) <;> first | rfl | exact C5 _ | exact D1 _ _ | (simp_all;done))
    ·rw [hv,h1,h2]
     cases E.ar T with
     | none=>rfl
     | some p=>dsimp only;((repeat' split) <;> first | rfl | exact C5 _ | exact D1 _ _ | (simp_all;done))
  | slw id ver=>
   obtain ⟨hv,hc⟩:=h.head
   dsimp only
   rcases hc with hc | ⟨e,l,f,f',h1,h2⟩
   ·rw [hv,← hc];((repeat' split) <;> first | rfl | exact C5 _ | exact D1 _ _ | (simp_all;done))
   ·rw [hv,h1,h2]
    cases E.ty T with
    | none=>rfl
    | some u=>cases u with
     | sl e'=>dsimp only;((repeat' split) <;> first | rfl | exact C5 _ | exact D1 _ _ | (simp_all;done))
     | _=>rfl
  | slm id ver lo n=>
   obtain ⟨hv,hc⟩:=h.head
   dsimp only
   rcases hc with hc | ⟨e,l,f,f',h1,h2⟩
   ·rw [hv,← hc];((repeat' split) <;> first | rfl | exact C5 _ | exact D1 _ _ | (simp_all;done))
   ·rw [hv,h1,h2]
    cases E.ty T with
    | none=>rfl
    | some u=>cases u with
     | sl e'=>dsimp only;((repeat' split) <;> first | rfl | exact C5 _ | exact D1 _ _ | (simp_all;done))
     | _=>rfl
  | dat t y g=>((repeat' split) <;> first | rfl | exact C5 _ | exact D1 _ _ | (simp_all;done))
  | _=>rfl
 ·rfl
theorem Zfm (e:Ty) (x:AV) (h:Ii (E1 x) σ ρ):content ρ e x=content σ e x:=by
 unfold content
 cases x with
 | slw id ver=>
  obtain ⟨hv,hc⟩:=h.head
  rcases hc with hc | ⟨e,l,f,f',h1,h2⟩
  ·dsimp only;rw [hv,← hc]
  ·dsimp only;rw [hv,h1,h2]
 | slm id ver lo n=>
  obtain ⟨hv,hc⟩:=h.head
  rcases hc with hc | ⟨e,l,f,f',h1,h2⟩
  ·dsimp only;rw [hv,← hc]
  ·dsimp only;rw [hv,h1,h2]
 | _=>rfl
theorem Ybn (T:Option Ty) (x:AV) (h:Ii (E1 x) σ ρ):LN T o ρ x=(LN T o σ x).Ip ρ o.dst:=by
 unfold LN
 cases x with
 | slw id ver=>
  obtain ⟨hv,hc⟩:=h.head
  rcases hc with hc | ⟨e,l,f,f',h1,h2⟩
  ·dsimp only;rw [hv,← hc];((repeat' split) <;> first | rfl | exact C5 _ | exact D1 _ _ | (simp_all;done))
  ·dsimp only;rw [hv,h1,h2];(try dsimp only);((repeat' split) <;> first | rfl | exact C5 _ | exact D1 _ _ | (simp_all;done))
 | slm id ver lo n=>obtain ⟨hv,hc⟩:=h.head;dsimp only;rw [hv];((repeat' split) <;> first | rfl | exact C5 _ | exact D1 _ _ | (simp_all;done))
 | _=>((repeat' split) <;> first | rfl | exact C5 _ | exact D1 _ _ | (simp_all;done))
theorem Zsn (s d:Nat) (x:AV) (h:Ii (E1 x) σ ρ) (hb:Hi E o.dst=false):Ly E s d o ρ x=(Ly E s d o σ x).Ip ρ o.dst:=by
 unfold Ly
 rw [Zfm _ x h,hb]
 ((repeat' split) <;> first | rfl | exact C5 _ | exact D1 _ _ | (simp_all;done))
theorem Zgu (T:Nat) (x:AV) (lo hi:Option Operand) (ht:ρ.t = σ.t) (h:Ii (E1 x) σ ρ):O2 E T o ρ x lo hi=(O2 E T o σ x lo hi).Ip ρ o.dst:=by
 have hb:∀ d x,FQ ρ d x=FQ σ d x:=fun d x=>by
  cases x with
  | none=>rfl
  | some y=>unfold FQ;dsimp only;rw [FN ht]
 unfold O2
 simp only [hb]
 cases x with
 | dat t y g=>((repeat' split) <;> first | rfl | exact C5 _ | exact D1 _ _ | (simp_all;done))
 | ptr id ver off=>
  obtain ⟨hv,hc⟩:=h.head
  cases off with
  | succ n=>rfl
  | zero=>
   show (match E.ar T,ρ.c id with
    | some (n,e),some (.arr e' s _)=>if ρ.v id=ver∧e.sz=e'.sz then
      match FQ σ 0 lo,FQ σ n hi with
      | some l,some h=>EO o (CU l h n && decide (n=List.length (α:=e'.D) s)) ρ (.slm id ver l.toNat (h.toNat-l.toNat))
      | _,_=> .no
     else .no
    | _,_=> .no)=Step.Ip ρ o.dst (match E.ar T,σ.c id with
    | some (n,e),some (.arr e' s _)=>if σ.v id=ver∧e.sz=e'.sz then
      match FQ σ 0 lo,FQ σ n hi with
      | some l,some h=>EO o (CU l h n && decide (n=List.length (α:=e'.D) s)) σ (.slm id ver l.toNat (h.toNat-l.toNat))
      | _,_=> .no
     else .no
    | _,_=> .no)
   rcases hc with hc | ⟨e,l,f,f',h1,h2⟩
   ·rw [hv,← hc];((repeat' split) <;> first | rfl | exact C5 _ | exact D1 _ _ | (simp_all;done))
   ·rw [hv,h1,h2]
    cases E.ar T with
    | none=>rfl
    | some p=>dsimp only;((repeat' split) <;> first | rfl | exact C5 _ | exact D1 _ _ | (simp_all;done))
 | slw id ver=>
  obtain ⟨hv,hc⟩:=h.head
  dsimp only
  rcases hc with hc | ⟨e,l,f,f',h1,h2⟩
  ·rw [hv,← hc];((repeat' split) <;> first | rfl | exact C5 _ | exact D1 _ _ | (simp_all;done))
  ·rw [hv,h1,h2]
   cases E.ty T with
   | none=>rfl
   | some u=>cases u with
    | sl e'=>dsimp only;((repeat' split) <;> first | rfl | exact C5 _ | exact D1 _ _ | (simp_all;done))
    | _=>rfl
 | slm id ver lo n=>
  obtain ⟨hv,hc⟩:=h.head
  dsimp only
  rcases hc with hc | ⟨e,l,f,f',h1,h2⟩
  ·rw [hv,← hc];((repeat' split) <;> first | rfl | exact C5 _ | exact D1 _ _ | (simp_all;done))
  ·rw [hv,h1,h2]
   cases E.ty T with
   | none=>rfl
   | some u=>cases u with
    | sl e'=>dsimp only;((repeat' split) <;> first | rfl | exact C5 _ | exact D1 _ _ | (simp_all;done))
    | _=>rfl
 | _=>rfl
theorem Zeq (op:BinOp) (k j:IntKind) (a b:Int):NL op o ρ k j a b=(NL op o σ k j a b).Ip ρ o.dst:=by
 unfold NL;((repeat' split) <;> first | rfl | exact C5 _ | exact D1 _ _ | (simp_all;done))
theorem Zfq (op:BinOp) (a b:ByteArray):NM op o ρ a b=(NM op o σ a b).Ip ρ o.dst:=by
 unfold NM;((repeat' split) <;> first | rfl | exact C5 _ | exact D1 _ _ | (simp_all;done))
theorem Zfu (T:Nat) (op:BinOp) (x y:AV):O1 E T op o ρ x y=(O1 E T op o σ x y).Ip ρ o.dst:=by
 unfold O1
 split
 ·split
  ·exact Zeq _ _ _ _ _
  ·exact Zfq _ _ _
  ·split
   ·split
    ·split
     ·exact C5 _
     ·exact C5 _
     ·rfl
    ·rfl
   ·rfl
 ·rfl
theorem Zeu (T:Nat) (op:BinOp) (x:AV):O8 E T op o ρ x=(O8 E T op o σ x).Ip ρ o.dst:=by
 unfold O8
 split
 ·split
  ·exact C5 _
  ·exact C5 _
  ·rfl
 ·rfl
end
end Go.AM
end

section
/- Two operations that do not meddle with one another may change places. -/
namespace Go.AM
open Go.RowKit (Below)
set_option linter.unusedSectionVars false
variable [Lay]
def reads (σ:St) (o:Oper):List Nat:=o.op.operands.toList.flatMap fun x=>E1 (A8 σ x)
def qF (E:Env) (σ:St) (f:AV) (xs:List Operand):List Nat:=
 match f with
 | .fn f _=>Fm σ (E.inpl f) xs
 | .clo f _=>Fm σ (E.inpl f) xs
 | _=>[]
def LS (i:Nat):Nat:=2*pid0+i
def Ph:AV→List Nat
 | .dat _ _ g=>g.map fun t=>LS t.id
 | .slw _ _=>[2*pid0-1]
 | _=>[]
def QR (σ:St) (o:Oper) (s:Operand):List Nat:=E1 (A8 σ s)++(Ph (A8 σ s)++(o.dst.map fun d=>LS (B3 d 0)).toList)
def wr (E:Env) (σ:St) (o:Oper):List Nat:=
 match o.op with
 | .store _ a _=>E1 (A8 σ a)
 | .move x | .assign x=>bif Hi E o.dst && NN x then o.dst.toList else []
 | .call c=>match c.callee with
  | .builtin .append=>match c.args.toList with
   | s :: _=>QR σ o s
   | []=>[]
  | .builtin .clear=>match c.args.toList with
   | s :: _=>E1 (A8 σ s)
   | []=>[]
  | .builtin .copy=>match c.args.toList with
   | s :: _=>E1 (A8 σ s)
   | []=>[]
  | .value f=>qF E σ (A8 σ f) c.args.toList++(E1 (A8 σ f)++o.dst.toList)
  | _=>[]
 | .alloc _ | .box .. | .makeSlice .. =>o.dst.toList
 | .convert .. =>bif Hi E o.dst then o.dst.toList else []
 | .makeFunc _ _ q=>q.toList.flatMap fun x=>E1 (A8 σ x)
 | _=>[]
section
variable {E : Env} {o : Oper} {σ ρ σ' : St} {ops : Array Oper}
theorem Ii.sub {I J:List Nat} (h:Ii I σ ρ) (hs:∀ x∈J,x∈I):Ii J σ ρ:=fun id hid=>h id (hs id hid)
theorem Yan {x:Operand} (h:Ii (reads σ o) σ ρ) (hx:x∈o.op.operands):Ii (E1 (A8 σ x)) σ ρ:=
 h.sub fun y hy=>List.mem_flatMap.2 ⟨x,by simpa using hx,hy⟩
theorem fE (hp:NT E o=true) (SA:∀ c x y,o.op≠ .pick c x y) (ht:ρ.t = σ.t) (h:Ii (reads σ o) σ ρ):Ee E ρ o=(Ee E σ o).Ip ρ o.dst:=by
 have hn:∀ x∈o.op.operands,Ii (E1 (A8 σ x)) σ ρ:=fun x hx=>Yan h hx
 unfold NT at hp
 unfold Ee
 cases ho:o.op <;> rw [ho] at hp hn <;> (try dsimp only)
 case move x=>rw [FN ht];exact sL _ (Bool.not_eq_true' _ ▸ hp)
 case assign x=>rw [FN ht];exact sL _ (Bool.not_eq_true' _ ▸ hp)
 case build T ps=>
  split
  ·split
   ·have:KS E T ρ = KS E T σ:=by
     funext t ps z g
     have hb:∀ (ps:List (Nat×Operand)) (z:t.D) (g:List Tag),KS E T ρ t ps z g=KS E T σ t ps z g:=by
      intro ps
      induction ps with
      | nil=>intro z g;rfl
      | cons p ps ih=>intro z g;obtain ⟨f,x⟩:=p;unfold KS;rw [FN ht];simp only [ih]
     exact hb ps z g
    rw [this]
    split
    ·exact C5 _
    ·rfl
   ·rfl
  ·rfl
 case buildSlice T n ps=>
  unfold PZ
  cases Fs:o.dst with
  | none=>rfl
  | some d=>
   rw [Fs] at hp
   have hl:E.lit d=true:=hp
   have hb:∀ (e:Ty) (ps:List (Nat×Operand)) (i:Nat),Nc ρ e i ps=Nc σ e i ps:=by
    intro e ps
    induction ps with
    | nil=>intro i;rfl
    | cons p ps ih=>intro i;obtain ⟨j,x⟩:=p;unfold Nc;rw [FN ht];simp only [ih]
   cases E.ty T with
   | none=>rfl
   | some t=>
    cases t with
    | sl e=>
     dsimp only
     rw [hb]
     split
     ·rename_i l _
      split
      ·rw [hl]
       have:=D1 (o:=o) (σ:=σ) (ρ:=ρ) (decide (n*e.sz≤16777216) && true) (.dat (.sl e) l [])
       unfold EO at this
       rw [Fs] at this
       exact this
      ·rfl
     ·rfl
    | _=>rfl
 case load T x=>rw [FN ht];exact Zn5 T _ (hn x (by simp [Op.operands]))
 case nilCheck x=>
  rw [FN ht]
  have hx:=hn x (by simp [Op.operands])
  revert hx
  generalize A8 σ x=y
  intro hx
  cases y with
  | ptr id ver off=>obtain ⟨hv,hc⟩:=hx.head;dsimp only;rw [hv];((repeat' split) <;> first | rfl | exact C5 _ | exact D1 _ _ | (simp_all;done))
  | aptr id ver i off=>obtain ⟨hv,hc⟩:=hx.head;dsimp only;rw [hv];((repeat' split) <;> first | rfl | exact C5 _ | exact D1 _ _ | (simp_all;done))
  | ept t x off=>exact C5 _
  | _=>rfl
 case binOp op T x y U=>
  rw [FN ht,FN ht]
  cases TB y with
  | true=>exact Zeu T op _
  | false=>exact Zfu T op _ _
 case unOp op T x=>rw [FN ht];unfold Qy;((repeat' split) <;> first | rfl | exact C5 _ | exact D1 _ _ | (simp_all;done))
 case convert s d x=>rw [FN ht];exact Zsn s d _ (hn x (by simp [Op.operands])) (Bool.not_eq_true' _ ▸ hp)
 case makeFunc fn p q=>
  have hq:q = #[]:=Array.eq_empty_of_size_eq_zero (Ak hp)
  subst hq
  cases fn with
  | func f=>
   dsimp only
   split
   ·cases Hi E o.dst with
    | true=>exact C5 _
    | false=>exact C5 _
   ·rfl
  | _=>rfl
 case slice T x lo hi mx=>
  cases mx with
  | none=>dsimp only;rw [FN ht];exact Zgu T _ lo hi ht (hn x (by simp [Op.operands]))
  | some m=>rfl
 case fieldAddr S x f=>rw [FN ht];exact Zzk S f _ (hn x (by simp [Op.operands]))
 case field S x f=>rw [FN ht];unfold Qj;((repeat' split) <;> first | rfl | exact C5 _ | exact D1 _ _ | (simp_all;done))
 case indexAddr T x i=>rw [FN ht,FN ht];exact Zal T _ _ (hn x (by simp [Op.operands]))
 case index T x i=>rw [FN ht,FN ht];unfold Qk;((repeat' split) <;> first | rfl | exact C5 _ | exact D1 _ _ | (simp_all;done))
 case extract x i=>rw [FN ht];unfold P6;((repeat' split) <;> first | rfl | exact C5 _ | exact D1 _ _ | (simp_all;done))
 case pick c x y=>exact absurd ho (SA c x y)
 case call c=>
  unfold Mn
  dsimp only at hp
  have Ym4:A8 ρ = A8 σ:=funext fun x=>FN ht x
  rw [Ym4]
  split
  ·rename_i b hb
   split
   ·rename_i x T ha FI
    exact Ybn _ _ (hn x (by
     simp only [Op.operands,Call.operands,hb]
     exact Array.mem_append.2 (.inr (by rw [← Array.mem_toList_iff,ha];simp))))
   ·rename_i s x T U ha FI;rw [hb] at hp;cases hp
   ·rw [hb] at hp;cases hp
   ·rw [hb] at hp;cases hp
   ·unfold MX;((repeat' split) <;> first | rfl | exact C5 _ | exact D1 _ _ | (simp_all;done))
   ·unfold MX;((repeat' split) <;> first | rfl | exact C5 _ | exact D1 _ _ | (simp_all;done))
   ·rfl
  ·rename_i f hf;rw [hf] at hp;cases hp
  ·rfl
 all_goals cases hp
theorem Step.iY {s:Step} (h:s.to σ'):(s.Ip ρ o.dst).to (ρ.BJ o.dst (dv σ' o.dst)):=by
 cases s with
 | no=>exact h
 | go c σ1=>obtain ⟨rfl,rfl⟩:=h;exact ⟨rfl,rfl⟩
 | call α m f=>obtain ⟨x,hx,rfl⟩:=h;exact ⟨x,hx,rfl⟩
theorem Step.eP {s:Step} {a b:St} (ha:s.to a) (hb:s.to b):a=b:=by
 cases s with
 | no=>exact ha.elim
 | go c σ1=>exact ha.2.trans hb.2.symm
 | call α m f=>obtain ⟨x,hx,rfl⟩:=ha;obtain ⟨y,hy,rfl⟩:=hb;rw [hx] at hy;cases hy;rfl
theorem qE (I:List Nat) (σ:St):Ii I σ σ:=fun _ _=>⟨rfl, .inl rfl⟩
theorem sM (hp:NT E o=true) (hg:IJ E σ o σ'):σ' = σ.BJ o.dst (dv σ' o.dst)∧∀ ρ,ρ.t = σ.t→Ii (reads σ o) σ ρ→IJ E ρ o (ρ.BJ o.dst (dv σ' o.dst)):=by
 unfold IJ at *
 split at hg
 ·rename_i c x y ho
  obtain ⟨t,gs,hc,rfl⟩:=hg
  refine ⟨(NV _ _ _).symm,fun ρ ht _=>⟨t,gs,(FN ht c).trans hc,?_⟩⟩
  rw [NV,FN ht x,FN ht y]
 ·rename_i SA
  have h1:=fE (E:=E) hp SA (ρ:=σ) rfl (qE _ _)
  have h2:=Step.iY (ρ:=σ) (o:=o) hg
  rw [← h1] at h2
  refine ⟨Step.eP hg h2,fun ρ ht hn=>?_⟩
  rw [fE hp SA ht hn]
  exact Step.iY hg
theorem sK (hp:NT E o=true) (hg:Fg E ops o σ σ'):σ' = σ.BJ o.dst (dv σ' o.dst)∧∀ ρ,ρ.t = σ.t→Ii (reads σ o) σ ρ→Fg E ops o ρ (ρ.BJ o.dst (dv σ' o.dst)):=by
 unfold Fg at *
 split at hg
 ·exact sM hp hg
 ·split at hg
  ·subst hg;exact ⟨(NV _ _ _).symm,fun ρ ht _=>by rw [NV]⟩
  ·rename_i s hs
   split at hg
   ·rename_i hv
    subst hg
    refine ⟨(NV _ _ _).symm,fun ρ ht _=>?_⟩
    rw [ht,hv,NV]
   ·rename_i b gs hv
    split at hg
    ·rename_i he
     subst he
     obtain ⟨h1,h2⟩:=sM hp hg
     refine ⟨h1,fun ρ ht hn=>?_⟩
     rw [ht,hv]
     dsimp only
     rw [if_pos rfl]
     exact h2 ρ ht hn
    ·rename_i he
     subst hg
     refine ⟨(NV _ _ _).symm,fun ρ ht _=>?_⟩
     rw [ht,hv,NV]
     dsimp only
     rw [if_neg he]
   ·exact hg.elim
def Kept (W:List Nat) (σ σ':St):Prop:=∀ id,id∉W→σ'.v id = σ.v id∧Ou (σ.c id) (σ'.c id)
theorem Kept.set (W:List Nat) (ρ:St) (d:Option Nat) (a:AV) (h:Kept W σ ρ):Kept W σ (ρ.BJ d a):=by
 cases d <;> exact h
theorem kept_refl (W:List Nat) (σ:St):Kept W σ σ:=fun _ _=>⟨rfl, .inl rfl⟩
theorem U9 (W:List Nat) (σ:St) (i:Nat):Kept W σ (σ.Cz i):=fun _ _=>⟨rfl, .inl rfl⟩
theorem Ou.trans {a b c:Option Con} (h:Ou a b) (k:Ou b c):Ou a c:=by
 rcases h with rfl | ⟨e,l,f,f',rfl,rfl⟩
 ·exact k
 ·rcases k with rfl | ⟨e,l,f,f',h1,rfl⟩
  ·exact .inr ⟨_,_,_,_,rfl,rfl⟩
  ·cases h1;exact .inr ⟨_,_,_,_,rfl,rfl⟩
theorem Ou.symm {a b:Option Con} (h:Ou a b):Ou b a:=by
 rcases h with rfl | ⟨e,l,f,f',rfl,rfl⟩
 ·exact .inl rfl
 ·exact .inr ⟨_,_,_,_,rfl,rfl⟩
theorem Kept.trans {W:List Nat} {a b c:St} (h:Kept W a b) (k:Kept W b c):Kept W a c:=fun id hid=>
 ⟨(k id hid).1.trans (h id hid).1,(h id hid).2.trans (k id hid).2⟩
theorem Kept.mono {W W':List Nat} {a b:St} (h:Kept W a b) (hw:∀ x∈W,x∈W'):Kept W' a b:=fun id hid=>h id fun hx=>hid (hw id hx)
def Jz (W:List Nat) (σ:St) (s:Step):Prop:=∀ σ',s.to σ'→Kept W σ σ'
theorem Tg (W:List Nat) (a:AV):Jz W σ (put o σ a):=by
 rintro _ ⟨_,rfl⟩;exact (kept_refl W σ).set _ _ _ _
theorem fD (W:List Nat) (c:Bool) (a:AV):Jz W σ (EO o c σ a):=by
 rintro _ ⟨_,rfl⟩;exact (kept_refl W σ).set _ _ _ _
theorem MS {d:Nat} (k:Con):Kept [d] σ (σ.Cw d k):=fun id hid=>by
 have Cb:id≠d:=fun e=>hid (by simp [e])
 unfold St.Cw
 dsimp only
 rw [BD,if_neg Cb,BD,if_neg Cb]
 exact ⟨rfl, .inl rfl⟩
theorem P0 {d:Nat} (k:Con):Kept [d] σ (σ.CR d k):=fun id hid=>by
 have Cb:id≠d:=fun e=>hid (by simp [e])
 unfold St.CR
 dsimp only
 rw [BD,if_neg Cb]
 exact ⟨rfl, .inl rfl⟩
theorem o8 {W:List Nat} {id:Nat} {e:Ty} {l:List e.D} {f f':Bool} (h:σ.c id=some (.arr e l f)):Kept W σ (σ.CR id (.arr e l f')):=fun i _=>by
 unfold St.CR
 dsimp only
 rw [BD]
 by_cases hi:i=id
 ·subst hi;rw [if_pos rfl,h];exact ⟨rfl, .inr ⟨_,_,_,_,rfl,rfl⟩⟩
 ·rw [if_neg hi];exact ⟨rfl, .inl rfl⟩
theorem Zo5 {W:List Nat} {T:Nat} {m:Bool} {x a:AV} {σ1:St} (h:La E T m σ x=some (a,σ1)):Kept W σ σ1:=by
 unfold La at h
 split at h
 ·cases h;exact kept_refl _ _
 ·split at h
  ·cases h;exact kept_refl _ _
  ·cases h
 ·cases m with
  | true=>
   simp only [Aa] at h
   split at h
   ·split at h
    ·split at h
     ·cases h
     ·cases h;exact kept_refl _ _
    ·cases h
   ·cases h
  | false=>
   simp only [Ac] at h
   split at h
   ·split at h
    ·rename_i hc;cases h;exact o8 hc
    ·cases h
   ·cases h
 ·split at h
  ·split at h
   ·rename_i hc;cases h;exact o8 hc
   ·cases h
  ·cases h
 ·cases h;exact kept_refl _ _
 ·cases h;exact kept_refl _ _
 ·split at h
  ·split at h
   ·cases h;exact kept_refl _ _
   ·cases h
  ·cases h
 ·cases h
theorem o9:∀ (ids:List Nat) (ds:List Con) (σ:St),Kept ids σ (GK ids ds σ)
 | [],_,σ=>kept_refl _ _
 | _ :: _,[],σ=>kept_refl _ _
 | id :: ids,d :: ds,σ=>fun i hi=>by
  have h1:=P0 (σ:=σ) (d:=id) d i (fun hm=>hi (by rw [List.mem_singleton.1 hm];exact Av ..))
  have h2:=o9 ids ds (σ.CR id d) i (fun hm=>hi (Az _ hm))
  exact ⟨h2.1.trans h1.1,h1.2.trans h2.2⟩
theorem eO {W:List Nat}:∀ {ms:List Bool} {ps:List (Operand×Nat)} {σ σ1:St} {l:List AV},Jh E ms ps σ = some (l,σ1)→Kept W σ σ1
 | _,[],σ,σ1,l,h=>by unfold Jh at h;cases h;exact kept_refl _ _
 | ms,(x,T) :: ps,σ,σ1,l,h=>by
  unfold Jh at h
  split at h
  ·rename_i a σ2 ha
   split at h
   ·rename_i l2 σ3 hl
    cases h
    exact (Zo5 ha).trans (eO hl)
   ·cases h
  ·cases h
theorem pM (W:List Nat) (hs:List Nat):Kept W σ (DW hs σ):=by
 obtain ⟨_,h2,h3,_⟩:=dY hs σ
 intro i _
 rw [h2,h3]
 exact ⟨rfl, .inl rfl⟩
theorem Ys (W:List Nat) (d j n:Nat):Kept W σ (Ep d j n σ):=fun _ _=>⟨rfl, .inl rfl⟩
theorem sF (ids:List Nat) (a:AV) (D9:List Con):Kept (ids++o.dst.toList) σ (imp o ids σ a D9):=by
 have ks:∀ cs τ,Kept (ids++o.dst.toList) τ (GK ids cs τ):=fun cs τ=>(o9 _ _ _).mono fun y hy=>List.mem_append_left _ hy
 unfold imp
 split
 ·exact ks _ _
 ·rename_i d hd
  split
  ·simp only [Tt,Rw];exact Kept.set _ _ _ _ ((Ys _ _ _ _).trans ((Ys _ _ _ _).trans (ks _ _)))
  ·simp only [gk,Rw];exact Kept.set _ _ _ _ ((Ys _ _ _ _).trans ((Ys _ _ _ _).trans (ks _ _)))
  ·exact Kept.set _ _ _ _ ((ks _ _).trans ((MS _).mono fun y hy=>List.mem_append_right _ (by rw [hd];exact hy)))
  ·dsimp only
   split
   ·exact Kept.set _ _ _ _ (ks _ _)
   ·exact Kept.set _ _ _ _ (ks _ _)
  ·exact Kept.set _ _ _ _ (ks _ _)
theorem Dm (W:List Nat):Jz W σ .no:=fun _ h=>h.elim
theorem sE {W:List Nat} {c:Bool} {s:Step} (h:Jz W σ s):Jz W σ (bif c then s else .no):=by
 cases c
 ·exact Dm _
 ·exact h
theorem eQ {W:List Nat} {c:Bool} {s:Step} (h:Jz W σ s):Jz W σ (bif c then .no else s):=by
 cases c
 ·exact h
 ·exact Dm _
theorem go_kept {W:List Nat} {c:Bool} {ρ:St} {d:Option Nat} {a:AV} (h:Kept W σ ρ):Jz W σ (.go c (ρ.BJ d a)):=by
 rintro _ ⟨_,rfl⟩;exact h.set _ _ _ _
end
end Go.AM
end

section
/- Two operations that do not meddle with one another may change places: the law. -/
namespace Go.AM
open Go.RowKit (Below)
set_option linter.unusedSectionVars false
variable [Lay]
section
variable {E : Env} {o : Oper} {σ ρ σ' : St} {ops : Array Oper}
theorem Zk5 {x:AV} {d:Dat} {σ σ1:St} (h:CT σ x=some (d,σ1)):Kept (E1 x) σ σ1:=by
 unfold CT at h
 split at h
 ·split at h
  ·split at h
   ·cases h;exact P0 _
   ·cases h;exact kept_refl _ _
   ·cases h
  ·cases h
 ·cases h;exact kept_refl _ _
 ·cases h
theorem qB:∀ {xs:List Operand} {σ σ1:St} {ds:List Dat},Mm xs σ = some (ds,σ1)→Kept (xs.flatMap fun x=>E1 (A8 σ x)) σ σ1
 | [],σ,σ1,ds,h=>by cases h;exact kept_refl _ _
 | x :: xs,σ,σ1,ds,h=>by
  unfold Mm at h
  split at h
  ·rename_i d σ2 h1
   split at h
   ·rename_i ds2 σ3 h2
    cases h
    have ht:=Zgf h1
    have he:(xs.flatMap fun x=>E1 (A8 σ2 x))=xs.flatMap fun x=>E1 (A8 σ x):=by
     have:(fun x=>E1 (A8 σ2 x))=fun x=>E1 (A8 σ x):=funext fun x=>by rw [FN ht]
     rw [this]
    have k1:=(Zk5 h1).mono (W':=(x :: xs).flatMap fun x=>E1 (A8 σ x)) fun y hy=>by rw [List.flatMap_cons];exact List.mem_append_left _ hy
    have k2:=(qB h2).mono (W':=(x :: xs).flatMap fun x=>E1 (A8 σ x)) fun y hy=>by rw [he] at hy;rw [List.flatMap_cons];exact List.mem_append_right _ hy
    exact k1.trans k2
   ·cases h
  ·cases h
theorem qC {x:AV} {c:Bool} (h:(Hi E o.dst && c)=true):Jz (bif Hi E o.dst && c then o.dst.toList else []) σ (Mo E o σ c x):=by
 unfold Mo
 split
 ·rename_i d hd
  rw [hd] at h ⊢
  simp only [Hi] at h ⊢
  rw [h]
  dsimp only [cond]
  split
  ·exact go_kept (MS _)
  ·exact Dm _
 ·exact Tg _ _
theorem qD {W:List Nat} {b:Bool} {σ σ1:St} (h:Kept W σ σ1):Kept W σ (JJ b σ σ1):=by
 cases b
 ·exact h
 ·exact kept_refl _ _
theorem Zbu {c:Call} (ho:o.op = .call c):Jz (wr E σ o) σ (Mn E c o σ):=by
 unfold wr
 rw [ho]
 obtain ⟨cl,as,ats⟩:=c
 cases cl with
 | builtin b=>
  unfold Mn
  have hlen:∀ W T x,Jz W σ (LN T o σ x):=fun W T x=>by unfold LN;((repeat' split) <;> first | exact Dm _ | exact go_kept (U9 _ _ _) | exact go_kept (kept_refl _ _) | exact Tg _ _ | exact fD _ _ _)
  have ca:∀ W T U s x,Jz W σ (J2 E T U o σ s x):=fun W T U s x=>by unfold J2;((repeat' split) <;> first | exact Dm _ | exact go_kept (U9 _ _ _) | exact go_kept (kept_refl _ _) | exact Tg _ _ | exact fD _ _ _)
  have Yd1:∀ T U id ver x,Jz [id] σ (OV E T U o σ id ver x):=fun T U id ver x=>by unfold OV;((repeat' split) <;> first | exact Dm _ | exact go_kept (MS _))
  have Zqh:∀ s id lo n,partOf σ s=some (id,lo,n)→E1 s=[id]:=fun s id lo n h=>by
   obtain ⟨_,_,_,⟨ver,rfl,_⟩ | ⟨ver,rfl,_⟩⟩:=o7 h <;> rfl
  have Yk4:∀ T s,Jz (E1 s) σ (O3 E T o σ s):=fun T s=>by
   unfold O3
   split
   ·rename_i id lo n e hp hT
    rw [Zqh _ _ _ _ hp]
    ((repeat' split) <;> first | exact Dm _ | exact go_kept (P0 _))
   ·exact Dm _
  have Yl4:∀ T U s x,Jz (E1 s) σ (O9 E T U o σ s x):=fun T U s x=>by
   unfold O9
   split
   ·rename_i id lo n e hp hT
    rw [Zqh _ _ _ _ hp]
    ((repeat' split) <;> first | exact Dm _ | exact go_kept (P0 _))
   ·exact Dm _
  have cB:∀ W f xs,Jz W σ (MX f o σ xs):=fun W f xs=>by unfold MX;((repeat' split) <;> first | exact Dm _ | exact go_kept (U9 _ _ _) | exact go_kept (kept_refl _ _) | exact Tg _ _ | exact fD _ _ _)
  clear ho
  dsimp only
  generalize as.toList=al
  generalize ats.toList=tl
  cases b <;> dsimp only
  case len=>rcases al with _ | ⟨s,_ | ⟨x,al⟩⟩ <;> rcases tl with _ | ⟨T,_ | ⟨U,tl⟩⟩ <;> first | exact hlen _ _ _ | exact Dm _
  case append=>
   rcases al with _ | ⟨s,_ | ⟨x,_ | ⟨y,al⟩⟩⟩ <;> rcases tl with _ | ⟨T,_ | ⟨U,_ | ⟨V,tl⟩⟩⟩ <;> (try exact Dm _)
   dsimp only
   unfold QR
   cases A8 σ s <;> first | exact fun τ hτ=>(Yd1 _ _ _ _ _ τ hτ).mono fun y hy=>List.mem_append_left _ hy | exact ca _ _ _ _ _
  case clear=>rcases al with _ | ⟨s,_ | ⟨x,al⟩⟩ <;> rcases tl with _ | ⟨T,_ | ⟨U,tl⟩⟩ <;> first | exact Yk4 _ _ | exact Dm _
  case copy=>rcases al with _ | ⟨s,_ | ⟨x,_ | ⟨y,al⟩⟩⟩ <;> rcases tl with _ | ⟨T,_ | ⟨U,_ | ⟨V,tl⟩⟩⟩ <;> first | exact Yl4 _ _ _ _ | exact Dm _
  case min=>exact cB _ _ _
  case max=>exact cB _ _ _
  all_goals exact Dm _
 | value f=>
  unfold Mn
  dsimp only
  split
  ·rename_i fn ds Sz
   rw [Sz]
   split
   ·split
    ·split
     ·rename_i l σ1 hl
      split
      ·rename_i r hr
       refine sE ?_
       rintro _ ⟨x,_,rfl⟩
       refine ((qD (eO hl)).trans (pM _ _)).trans ((sF _ _ _).mono fun y hy=>?_)
       rcases List.mem_append.1 hy with hy | hy
       ·exact List.mem_append_left _ hy
       ·exact List.mem_append_right _ (List.mem_append_right _ hy)
      ·exact Dm _
     ·exact Dm _
    ·exact Dm _
   ·exact Dm _
  ·rename_i fn ps Sz
   rw [Sz]
   split
   ·split
    ·split
     ·rename_i l σ1 cs hl Co
      split
      ·rename_i r hr
       refine sE ?_
       rintro _ ⟨x,_,rfl⟩
       refine ((qD (eO hl)).trans (pM _ _)).trans ((sF _ _ _).mono fun y hy=>?_)
       rw [Al] at hy
       exact hy
      ·exact Dm _
     ·exact Dm _
    ·exact Dm _
   ·exact Dm _
  ·exact Dm _
 | _=>exact Dm _
theorem Zcu:Jz (wr E σ o) σ (Ee E σ o):=by
 by_cases hp:NT E o=true
 ·by_cases SA:∀ c x y,o.op≠ .pick c x y
  ·have h1:=fE (E:=E) hp SA (ρ:=σ) rfl (qE _ _)
   intro σ' h
   have h2:=Step.iY (ρ:=σ) (o:=o) h
   rw [← h1] at h2
   rw [Step.eP h h2]
   exact (kept_refl _ _).set _ _ _ _
  ·have:∃ c x y,o.op = .pick c x y:=by
    by_cases h:∃ c x y,o.op = .pick c x y
    ·exact h
    ·exact absurd (fun c x y he=>h ⟨c,x,y,he⟩) SA
   obtain ⟨c,x,y,ho⟩:=this
   unfold Ee
   rw [ho]
   exact Dm _
 ·unfold NT at hp
  unfold Ee wr
  cases ho:o.op <;> rw [ho] at hp <;> (try dsimp only) <;> (try (exact absurd rfl hp)) <;> (try (exact Dm _))
  case move x=>
   refine qC ?_
   cases hb:(Hi E o.dst && NN x) with
   | true=>rfl
   | false=>exact absurd (show (!(Hi E o.dst && NN x))=true by rw [hb];rfl) hp
  case assign x=>
   refine qC ?_
   cases hb:(Hi E o.dst && NN x) with
   | true=>rfl
   | false=>exact absurd (show (!(Hi E o.dst && NN x))=true by rw [hb];rfl) hp
  case alloc T=>
   unfold Qm
   split
   ·rename_i d hd
    split
    ·rw [hd];exact go_kept (MS _)
    ·split
     ·rw [hd];exact go_kept (MS _)
     ·exact Dm _
   ·exact Dm _
  case box T x=>
   unfold QN
   split
   ·rename_i d hd
    split
    ·split
     ·unfold aM;rw [hd];split <;> first | exact go_kept (MS _) | exact eQ (go_kept (MS _))
     ·exact Dm _
    ·exact Dm _
   ·exact Dm _
  case convert s d x=>
   have hb:Hi E o.dst=true:=by
    cases hq:Hi E o.dst with
    | true=>rfl
    | false=>exact absurd (show (!Hi E o.dst)=true by rw [hq];rfl) hp
   rw [hb]
   unfold Ly
   (repeat' split) <;> first | exact Dm _ | exact Tg _ _ | (rename_i d' _ hd _ ;rw [hd];exact go_kept (MS _)) | (rename_i hd _;rw [hd];exact go_kept (MS _)) | exact go_kept (kept_refl _ _)
  case buildSlice T n ps=>
   unfold PZ
   split
   ·rename_i d e _ _
    split
    ·split
     ·cases E.lit d with
      | true=>exact go_kept (kept_refl _ _)
      | false=>exact go_kept (U9 _ _ _)
     ·exact Dm _
    ·exact Dm _
   ·exact Dm _
  case makeFunc fn p q=>
   cases fn with
   | func f=>
    dsimp only
    split
    ·cases Hi E o.dst with
     | true=>
      dsimp only [cond]
      split
      ·exact Tg _ _
      ·exact Dm _
     | false=>
      dsimp only [cond]
      split
      ·rename_i ds σ1 hq;exact go_kept (qB hq)
      ·exact Dm _
    ·exact Dm _
   | _=>exact Dm _
  case makeSlice T x y=>
   unfold Ri
   split
   ·rename_i d e k n g k2 m g2 hd _ _ _
    split
    ·rw [hd];exact go_kept (MS _)
    ·split
     ·cases E.bx d with
      | true=>rw [hd];exact go_kept (MS _)
      | false=>exact go_kept (U9 _ _ _)
     ·exact Dm _
   ·exact Dm _
  case store T a x=>
   unfold Ql
   split
   ·rename_i id ver off ha
    rw [show E1 (A8 σ a)=[id] by rw [ha];rfl]
    (repeat' split) <;> first | exact Dm _ | exact go_kept (P0 _) | exact eQ (go_kept (P0 _))
   ·rename_i id ver i off ha
    rw [show E1 (A8 σ a)=[id] by rw [ha];rfl]
    (repeat' split) <;> first | exact Dm _ | exact go_kept (P0 _) | exact eQ (go_kept (P0 _))
   ·exact Dm _
  case call c=>
   have:=Zbu (E:=E) (σ:=σ) ho
   unfold wr at this
   rw [ho] at this
   exact this
theorem sG (h:Fg E ops o σ σ'):Kept (wr E σ o) σ σ':=by
 have hs:∀ a,Kept (wr E σ o) σ (σ.BJ o.dst a):=fun a=>(kept_refl _ _).set _ _ _ _
 have h1:IJ E σ o σ'→Kept (wr E σ o) σ σ':=fun h=>by
  unfold IJ at h
  split at h
  ·obtain ⟨t,gs,_,rfl⟩:=h;exact hs _
  ·exact Zcu _ h
 unfold Fg at h
 split at h
 ·exact h1 h
 ·split at h
  ·subst h;exact hs _
  ·split at h
   ·subst h;exact hs _
   ·split at h
    ·exact h1 h
    ·subst h;exact hs _
   ·exact h.elim
theorem bo (h:Fg E ops o σ σ'):σ'.t=Fb σ.t o.dst (dv σ' o.dst):=by
 have hs:∀ a,(σ.BJ o.dst a).t=Fb σ.t o.dst (dv (σ.BJ o.dst a) o.dst):=fun a=>by
  cases o.dst with
  | none=>rfl
  | some d=>show Ed σ.t d a=Ed σ.t d (Ed σ.t d a d);rw [YF]
 have h1:IJ E σ o σ'→σ'.t=Fb σ.t o.dst (dv σ' o.dst):=fun h=>by
  unfold IJ at h
  split at h
  ·obtain ⟨t,gs,_,rfl⟩:=h;exact hs _
  ·have h2:=sH (E:=E) (σ:=σ) (o:=o) (t':=σ.t) fun _ _=>rfl
   have h3:=Step.zK (t':=σ.t) (d:=o.dst) h
   rw [← h2] at h3
   have h4:=Step.eP h h3
   exact congrArg St.t h4
 unfold Fg at h
 split at h
 ·exact h1 h
 ·split at h
  ·subst h;exact hs _
  ·split at h
   ·subst h;exact hs _
   ·split at h
    ·exact h1 h
    ·subst h;exact hs _
   ·exact h.elim
theorem Tr {t:Nat→AV} {d:Option Nat} {a:AV} {i:Nat} (h:d≠some i):Fb t d a i=t i:=by
 cases d with
 | none=>rfl
 | some d=>show Ed t d a i=t i;rw [BD,if_neg fun e=>h (by rw [e])]
theorem eR {t:Nat→AV} {d e:Option Nat} {a b:AV} (h:∀ i,d=some i→e≠some i):Fb (Fb t d a) e b=Fb (Fb t e b) d a:=by
 funext i
 cases d with
 | none=>rfl
 | some d=>
  cases e with
  | none=>rfl
  | some e=>
   have Cb:d≠e:=fun he=>h d rfl (by rw [he])
   show Ed (Ed t d a) e b i=Ed (Ed t e b) d a i
   simp only [BD]
   by_cases h1:i=e
   ·rw [if_pos h1,if_neg (by omega),if_pos h1]
   ·rw [if_neg h1,if_neg h1]
theorem L5 (E:Env) (h:∀ d∈o.looksAt ops,ρ.t d = σ.t d):reads ρ o=reads σ o∧wr E ρ o=wr E σ o:=by
 have L0:∀ x∈o.op.operands,A8 ρ x=A8 σ x:=fun x hx=>by
  cases x with
  | tmp d=>exact h d (List.mem_append_left _ (List.mem_filterMap.2 ⟨.tmp d,by simpa using hx,rfl⟩))
  | _=>unfold A8;split <;> simp_all
 constructor
 ·unfold reads
  have:∀ (l:List Operand),(∀ x∈l,A8 ρ x=A8 σ x)→(l.flatMap fun x=>E1 (A8 ρ x))=l.flatMap fun x=>E1 (A8 σ x):=fun l=>by
   induction l with
   | nil=>intro _;rfl
   | cons x l ih=>intro hl;rw [List.flatMap_cons,List.flatMap_cons,hl x (Av ..),ih fun y hy=>hl y (Az _ hy)]
  exact this o.op.operands.toList fun x hx=>L0 x (by simpa using hx)
 ·have HQ:∀ (f:AV→List Nat) (l:List Operand),(∀ x∈l,A8 ρ x=A8 σ x)→(l.flatMap fun x=>f (A8 ρ x))=l.flatMap fun x=>f (A8 σ x):=fun f l=>by
   induction l with
   | nil=>intro _;rfl
   | cons x l ih=>intro hl;rw [List.flatMap_cons,List.flatMap_cons,hl x (Av ..),ih fun y hy=>hl y (Az _ hy)]
  unfold wr
  cases ho:o.op <;> (try rfl)
  case store T a x=>
   dsimp only
   rw [L0 a (by rw [ho];simp [Op.operands])]
  case makeFunc fn p q=>
   dsimp only
   exact HQ E1 q.toList fun x hx=>L0 x (by rw [ho];simp only [Op.operands];exact Array.mem_append.2 (.inr (Array.mem_toList_iff.1 hx)))
  case call c=>
   have Cy:∀ x∈c.args.toList,A8 ρ x=A8 σ x:=fun x hx=>L0 x (by rw [ho];simp only [Op.operands];unfold Call.operands;exact Array.mem_append.2 (.inr (Array.mem_toList_iff.1 hx)))
   have Sz:∀ f,c.callee = .value f→A8 ρ f=A8 σ f:=fun f hc=>L0 f (by rw [ho];simp only [Op.operands];unfold Call.operands;rw [hc];exact Array.mem_append.2 (.inl (by simp)))
   clear ho
   obtain ⟨cl,as,ats⟩:=c
   cases cl with
   | builtin b=>
    dsimp only at Cy ⊢
    generalize as.toList=al at Cy ⊢
    cases b <;> dsimp only
    all_goals
     cases al with
     | nil=>rfl
     | cons s r=>dsimp only;(try unfold QR);rw [Cy s (List.mem_cons_self ..)]
   | value f=>
    dsimp only
    rw [Sz f rfl]
    congr 1
    have hai:∀ (ms:List Bool) (l:List Operand),(∀ x∈l,A8 ρ x=A8 σ x)→Fm ρ ms l=Fm σ ms l:=fun ms l=>by
     induction l generalizing ms with
     | nil=>intro _;unfold Fm;rfl
     | cons x l ih=>intro hl;unfold Fm;rw [hl x (Av ..),ih ms.tail fun y hy=>hl y (Az _ hy)]
    unfold qF
    split
    ·exact hai _ _ Cy
    ·exact hai _ _ Cy
    ·rfl
   | _=>rfl
theorem Jw (σ:St) (d:Option Nat) (a:AV):σ.BJ d a = σ.Bw (Fb σ.t d a):=by cases d <;> rfl
def QE (o:Oper):Bool:=
 match o.guard,o.op with
 | none, .call c=>match c.callee with
  | .builtin .append=>true
  | _=>false
 | _,_=>false
def R7 (W:List Nat):Bool:=W.all fun y=>!Nat.beq y (2*pid0-1)
theorem sI {σ ρ:St} {d z:Nat}:∀ {g:List Tag},(∀ t∈g,t.id≠0→ρ.r t.id = σ.r t.id)→KT ρ d z g=KT σ d z g
 | [],_=>rfl
 | t :: g,h=>by
  unfold KT
  rw [sI (g:=g) fun t ht=>h t (Az _ ht)]
  by_cases h0:t.id=0
  ·rw [if_pos h0,if_pos h0]
  ·rw [if_neg h0,if_neg h0,h t (Av ..) h0]
theorem pN {σ:St} {d z i:Nat}:∀ {g:List Tag},KT σ d z g=some i→i=B3 d 0∨∃ t∈g,t.id≠0∧t.id=i
 | [],h=>by cases h
 | t :: g,h=>by
  unfold KT at h
  split at h
  ·split at h
   ·cases h;exact .inl rfl
   ·rename_i h0
    split at h
    ·cases h;exact .inr ⟨t,Av ..,h0,rfl⟩
    ·cases h
  ·rcases pN h with h | ⟨t',ht,he⟩
   ·exact .inl h
   ·exact .inr ⟨t',Az _ ht,he⟩
theorem qG (h:∀ d∈o.looksAt ops,ρ.t d = σ.t d):∀ x∈o.op.operands,A8 ρ x=A8 σ x:=fun x hx=>by
 cases x with
 | tmp d=>exact h d (List.mem_append_left _ (List.mem_filterMap.2 ⟨.tmp d,by simpa using hx,rfl⟩))
 | _=>unfold A8;split <;> simp_all
theorem Zdq {σ ρ:St} (hc:ρ.c = σ.c) (hv:ρ.v = σ.v) (e:Ty) (x:AV):content ρ e x=content σ e x:=by
 cases x <;> first | rfl | (unfold content;rw [hc,hv])
theorem Zl5 {e:Ty} {s:AV} {l:List e.D} (_:s.as (.sl e)=some l):∀ t∈s.tags (.sl e),t.id=0∨LS t.id∈Ph s:=fun t ht=>by
 cases s with
 | dat u x g=>exact .inr (List.mem_map.2 ⟨t,ht,rfl⟩)
 | nils=>
  have:t=⟨0,0,0,e.sg⟩:=by simpa [AV.tags] using ht
  exact .inl (by rw [this])
 | _=>cases ht
theorem zL {E:Env} {T U:Nat} {s x:AV} {σ':St} (h:(J2 E T U o σ s x).to σ'):∃ d i v,o.dst=some d∧(i=B3 d 0∨LS i∈Ph s)∧σ'=(σ.Cz i).BJ o.dst v∧
  ∀ ρ:St,ρ.c = σ.c→ρ.v = σ.v→(∀ j,j=B3 d 0∨LS j∈Ph s→ρ.r j = σ.r j)→(J2 E T U o ρ s x).to ((ρ.Cz i).BJ o.dst v):=by
 unfold J2 at h
 split at h
 ·rename_i d e Fs hT
  split at h
  ·rename_i l hl
   split at h
   ·rename_i i hi
    have hm:=Zl5 hl
    have Jm:i=B3 d 0∨LS i∈Ph s:=by
     rcases pN hi with h | ⟨t,ht,Cb,rfl⟩
     ·exact .inl h
     ·rcases hm t ht with h0 | h0
      ·exact absurd h0 Cb
      ·exact .inr h0
    have hrr:∀ ρ:St,(∀ j,j=B3 d 0∨LS j∈Ph s→ρ.r j = σ.r j)→KT ρ d e.sg (s.tags (.sl e))=some i∧ρ.r i = σ.r i:=fun ρ hρ=>
     ⟨(sI fun t ht Cb=>by
      rcases hm t ht with h0 | h0
      ·exact absurd h0 Cb
      ·exact hρ _ (.inr h0)).trans hi,hρ i Jm⟩
    split at h
    ·rename_i hU
     split at h
     ·rename_i l2 Kh
      split at h
      ·rename_i y gs hx
       obtain ⟨h1,h2⟩:=h
       refine ⟨d,i,_,Fs,Jm,h2,fun ρ hc hv hρ=>?_⟩
       obtain ⟨h3,h4⟩:=hrr ρ hρ
       unfold J2
       rw [Fs,hT]
       dsimp only
       rw [hl]
       dsimp only
       rw [h3]
       dsimp only
       rw [hU]
       dsimp only
       refine ⟨h1,?_⟩
       rw [h4]
      ·exact h.elim
     ·exact h.elim
    ·rename_i e2 hU
     split at h
     ·rename_i y hy
      obtain ⟨h1,h2⟩:=h
      refine ⟨d,i,_,Fs,Jm,h2,fun ρ hc hv hρ=>?_⟩
      obtain ⟨h3,h4⟩:=hrr ρ hρ
      unfold J2
      rw [Fs,hT]
      dsimp only
      rw [hl]
      dsimp only
      rw [h3]
      dsimp only
      rw [hU]
      dsimp only
      rw [Zdq hc hv,hy]
      refine ⟨h1,?_⟩
      rw [h4]
     ·exact h.elim
    ·exact h.elim
   ·exact h.elim
  ·exact h.elim
 ·exact h.elim
def QQ (I W:List Nat):Bool:=I.all fun x=>W.all fun y=>!Nat.beq x y
theorem YG {I W:List Nat} (h:QQ I W=true):∀ x∈I,x∉W:=fun x hx hw=>by
 have:=List.all_eq_true.1 (List.all_eq_true.1 h x hx) x hw
 simp at this
theorem gj (t:Nat→AV) (ρ:St) (d:Option Nat) (a:AV):Fb t d (dv (ρ.BJ d a) d)=Fb t d a:=by
 cases d with
 | none=>rfl
 | some d=>show Ed t d (Ed ρ.t d a d)=_;rw [YF];rfl
theorem sJ {E:Env} {σ':St} (ha:QE o=true) (h:Fg E ops o σ σ') (hn:R7 (wr E σ o)=true):∃ T U s x,wr E σ o=QR σ o s∧s∈o.op.operands∧x∈o.op.operands∧(J2 E T U o σ (A8 σ s) (A8 σ x)).to σ'∧
  ∀ ρ ρ':St,A8 ρ s=A8 σ s→A8 ρ x=A8 σ x→(J2 E T U o ρ (A8 σ s) (A8 σ x)).to ρ'→Fg E ops o ρ ρ':=by
 unfold QE at ha
 split at ha
 ·rename_i c hg ho
  split at ha
  ·rename_i hb
   unfold Fg at h
   rw [hg] at h
   dsimp only at h
   unfold IJ at h
   rw [ho] at h
   dsimp only at h
   unfold Ee at h
   rw [ho] at h
   dsimp only at h
   unfold Mn at h
   rw [hb] at h
   dsimp only at h
   split at h <;> (try contradiction)
   all_goals try exact h.elim
   rename_i b s x T U _ Oi Lf
   have hw:wr E σ o=QR σ o s:=by
    unfold wr
    rw [ho]
    dsimp only
    rw [hb]
    dsimp only
    rw [Oi]
   have Js:∀ id ver,A8 σ s≠ .slw id ver:=fun id ver he=>by
    rw [hw] at hn
    unfold QR at hn
    rw [he] at hn
    have:=List.all_eq_true.1 hn (2*pid0-1) (by simp [Ph])
    simp at this
   have Zrh:s∈o.op.operands∧x∈o.op.operands:=by
    rw [ho]
    simp only [Op.operands,Call.operands,hb]
    exact ⟨Array.mem_append.2 (.inr (by rw [← Array.mem_toList_iff,Oi];simp)),Array.mem_append.2 (.inr (by rw [← Array.mem_toList_iff,Oi];simp))⟩
   refine ⟨T,U,s,x,hw,Zrh.1,Zrh.2,?_,fun ρ ρ' hs hx h'=>?_⟩
   ·split at h
    ·rename_i id ver he;exact absurd he (Js id ver)
    ·exact h
   ·unfold Fg
    rw [hg]
    dsimp only
    unfold IJ
    rw [ho]
    dsimp only
    unfold Ee
    rw [ho]
    dsimp only
    unfold Mn
    rw [hb]
    dsimp only
    rw [Oi,Lf]
    dsimp only
    split
    ·rename_i id ver he;rw [hs] at he;exact absurd he (Js id ver)
    ·rw [hs,hx];exact h'
  ·cases ha
 ·cases ha
theorem Zdu (σ:St) (i j:Nat) (a b:AV) (d e:Option Nat) (h:∀ k,d=some k→e≠some k):(((σ.Cz i).BJ d a).Cz j).BJ e b=(((σ.Cz j).BJ e b).Cz i).BJ d a:=by
 rw [Jw,Jw,Jw,Jw]
 show St.mk _ _ _ _=St.mk _ _ _ _
 have h1:Fb (Fb σ.t d a) e b=Fb (Fb σ.t e b) d a:=eR h
 have h2:Ed (Ed σ.r i (σ.r i+1)) j (Ed σ.r i (σ.r i+1) j+1)=Ed (Ed σ.r j (σ.r j+1)) i (Ed σ.r j (σ.r j+1) i+1):=by
  funext k
  simp only [BD]
  by_cases Lg:i=j
  ·subst Lg;rfl
  ·by_cases h1:k=i <;> by_cases h2:k=j <;> simp_all
   all_goals (first | rfl | (intro h;exact absurd h.symm Lg) | skip)
 exact congr (congrArg (fun t=>St.mk t σ.c σ.v) h1) h2
theorem Zm5 {E:Env} {i j:Oper} {σ σ1 σ2:St} (Ni:i.apart ops j=true) (hj:Fg E ops j σ σ1) (hi:Fg E ops i σ1 σ2)
  (h1:QE i=true) (h2:QE j=true) (h3:QQ (wr E σ1 i) (wr E σ j)=true) (h4:R7 (wr E σ1 i)=true) (h5:R7 (wr E σ j)=true):
  ∃ ρ,Fg E ops i σ ρ∧Fg E ops j ρ σ2∧reads σ i=reads σ1 i∧wr E σ i=wr E σ1 i∧reads ρ j=reads σ j∧wr E ρ j=wr E σ j:=by
 obtain ⟨a1,a2,a3⟩:=Oper.apart_spec Ni
 have Sn:=bo hj
 have Gr:=bo hi
 have ci:∀ d∈i.looksAt ops,σ.t d = σ1.t d:=fun d hd=>by rw [Sn,Tr fun e=>a3 d e hd]
 have key:∀ ρ:St,ρ.t=Fb σ.t i.dst (dv σ2 i.dst)→∀ d∈j.looksAt ops,ρ.t d = σ.t d:=fun ρ hρ d hd=>by rw [hρ,Tr fun e=>a1 d e hd]
 obtain ⟨Tj,Uj,sj,xj,wj,osj,oxj,ej,bj⟩:=sJ h2 hj h5
 obtain ⟨Ti,Ui,si,xi,wi,osi,oxi,ei,bi⟩:=sJ h1 hi h4
 obtain ⟨dj,rj,vj,hdj,mj,rfl,fj⟩:=zL ej
 obtain ⟨di,ri,vi,PF,mi,rfl,fi⟩:=zL ei
 have inI:∀ k,k=B3 di 0∨LS k∈Ph (A8 ((σ.Cz rj).BJ j.dst vj) si)→LS k∈wr E ((σ.Cz rj).BJ j.dst vj) i:=fun k hk=>by
  rw [wi]
  unfold QR
  rcases hk with rfl | hk
  ·exact List.mem_append_right _ (List.mem_append_right _ (by rw [PF];simp))
  ·exact List.mem_append_right _ (List.mem_append_left _ hk)
 have inJ:∀ k,k=B3 dj 0∨LS k∈Ph (A8 σ sj)→LS k∈wr E σ j:=fun k hk=>by
  rw [wj]
  unfold QR
  rcases hk with rfl | hk
  ·exact List.mem_append_right _ (List.mem_append_right _ (by rw [hdj];simp))
  ·exact List.mem_append_right _ (List.mem_append_left _ hk)
 have Cb:∀ k l,LS k∈wr E ((σ.Cz rj).BJ j.dst vj) i→LS l∈wr E σ j→k≠l:=fun k l hk hl he=>by
  subst he
  exact YG h3 _ hk hl
 have rr:∀ (τ:St) (m k:Nat) (d:Option Nat) (a:AV),k≠m→((τ.Cz m).BJ d a).r k = τ.r k:=fun τ m k d a hk=>by
  rw [Jw]
  show Ed τ.r m _ k=_
  rw [BD,if_neg hk]
 have cc:∀ (τ:St) (m:Nat) (d:Option Nat) (a:AV),((τ.Cz m).BJ d a).c = τ.c:=fun τ m d a=>by rw [Jw];rfl
 have vv:∀ (τ:St) (m:Nat) (d:Option Nat) (a:AV),((τ.Cz m).BJ d a).v = τ.v:=fun τ m d a=>by rw [Jw];rfl
 have tt:∀ (τ:St) (m:Nat) (d:Option Nat) (a:AV),((τ.Cz m).BJ d a).t=Fb τ.t d a:=fun τ m d a=>by rw [Jw];rfl
 have g1:=fi σ (cc _ _ _ _).symm (vv _ _ _ _).symm fun k hk=>(rr _ _ _ _ _ (Cb k rj (inI k hk) (inJ rj mj))).symm
 have Zhf:=qG ci
 have G1:=bi σ _ (Zhf _ osi) (Zhf _ oxi) g1
 have hρt:((σ.Cz ri).BJ i.dst vi).t=Fb σ.t i.dst (dv ((((σ.Cz rj).BJ j.dst vj).Cz ri).BJ i.dst vi) i.dst):=by
  rw [tt,gj]
 have kl:=key _ hρt
 have zM:=qG kl
 have g2:=fj ((σ.Cz ri).BJ i.dst vi) (cc _ _ _ _) (vv _ _ _ _) fun k hk=>rr _ _ _ _ _ (Ne.symm (Cb ri k (inI ri mi) (inJ k hk)))
 have G2:=bj _ _ (zM _ osj) (zM _ oxj) g2
 rw [Zdu σ ri rj vi vj i.dst j.dst a2] at G2
 exact ⟨_,G1,G2,(L5 E ci).1,(L5 E ci).2,(L5 E kl).1,(L5 E kl).2⟩
theorem swap {i j:Oper} {σ σ1 σ2:St} (Ni:i.apart ops j=true) (hj:Fg E ops j σ σ1) (hi:Fg E ops i σ1 σ2)
  (mm:((NT E i=true∧QQ (reads σ1 i) (wr E σ j)=true)∨(NT E j=true∧QQ (reads σ j) (wr E σ1 i)=true))∨(QE i=true∧QE j=true∧QQ (wr E σ1 i) (wr E σ j)=true∧R7 (wr E σ1 i)=true∧R7 (wr E σ j)=true)):
  ∃ ρ,Fg E ops i σ ρ∧Fg E ops j ρ σ2∧reads σ i=reads σ1 i∧wr E σ i=wr E σ1 i∧reads ρ j=reads σ j∧wr E ρ j=wr E σ j:=by
 obtain ⟨a1,a2,a3⟩:=Oper.apart_spec Ni
 have Sn:=bo hj
 have Gr:=bo hi
 have ci:∀ d∈i.looksAt ops,σ.t d = σ1.t d:=fun d hd=>by rw [Sn,Tr fun e=>a3 d e hd]
 have key:∀ ρ:St,ρ.t=Fb σ.t i.dst (dv σ2 i.dst)→∀ d∈j.looksAt ops,ρ.t d = σ.t d:=fun ρ hρ d hd=>by rw [hρ,Tr fun e=>a1 d e hd]
 rcases mm with (⟨hp,Ue⟩ | ⟨hp,Ue⟩) | ⟨h1,h2,h3,h4,h5⟩
 ·obtain ⟨e1,st⟩:=sK hp hi
  have hk:=sG hj
  have n1:Ii (reads σ1 i) σ1 (σ.Bw σ1.t):=fun id hid=>
   ⟨(hk id (YG Ue id hid)).1.symm,(hk id (YG Ue id hid)).2.symm⟩
  have g1:=st (σ.Bw σ1.t) rfl n1
  have g2:=Zi (σ:=σ.Bw σ1.t) (t':=σ.t) ci g1
  rw [gj] at g2
  have e2:(St.BJ (σ.Bw σ1.t) i.dst (dv σ2 i.dst)).Bw (Fb σ.t i.dst (dv σ2 i.dst)) = σ.BJ i.dst (dv σ2 i.dst):=by
   rw [Jw,Jw];rfl
  rw [e2] at g2
  have hρt:(σ.BJ i.dst (dv σ2 i.dst)).t=Fb σ.t i.dst (dv σ2 i.dst):=by rw [Jw];rfl
  refine ⟨_,g2,?_,(L5 E ci).1,(L5 E ci).2,(L5 E (key _ hρt)).1,(L5 E (key _ hρt)).2⟩
  have g3:=Zi (t':=Fb σ.t i.dst (dv σ2 i.dst)) (fun d hd=>Tr fun e=>a1 d e hd) hj
  rw [Jw]
  rw [eR a2,← Sn] at g3
  have e7:σ2 = σ1.Bw (Fb σ1.t i.dst (dv σ2 i.dst)):=e1.trans (Jw _ _ _)
  rw [← e7] at g3
  exact g3
 ·obtain ⟨e1,st⟩:=sK hp hj
  have hk:=sG hi
  have g1:=Zi (t':=σ.t) ci hi
  have e3:σ1.Bw σ.t = σ:=by rw [e1,Jw];rfl
  rw [e3] at g1
  refine ⟨_,g1,?_,(L5 E ci).1,(L5 E ci).2,(L5 E (key _ rfl)).1,(L5 E (key _ rfl)).2⟩
  have n1:Ii (reads σ j) σ (σ2.Bw σ.t):=fun id hid=>by
   have:=hk id (YG Ue id hid)
   have e4:σ1.v = σ.v:=by rw [e1,Jw];rfl
   have e5:σ1.c = σ.c:=by rw [e1,Jw];rfl
   rw [e4,e5] at this
   exact this
  have g2:=st (σ2.Bw σ.t) rfl n1
  have g3:=Zi (σ:=σ2.Bw σ.t) (t':=Fb σ.t i.dst (dv σ2 i.dst)) (fun d hd=>Tr (t:=σ.t) fun e=>a1 d e hd) g2
  rw [gj] at g3
  rw [eR a2,← Sn,← Gr] at g3
  have e6:(St.BJ (σ2.Bw σ.t) j.dst (dv σ1 j.dst)).Bw σ2.t = σ2:=by rw [Jw];rfl
  rw [e6] at g3
  exact g3
 ·exact Zm5 Ni hj hi h1 h2 h3 h4 h5
end
end Go.AM
end

section
/- Regions whose order is drawn. -/
namespace Go.AM
open Go.RowKit (Below)
set_option linter.unusedSectionVars false
variable [Lay]
abbrev Ft:=Nat×List Nat×List Nat
section
variable {R : Type}
def cK (E:Env) (ops:Array Oper):List Oper→Nat→St→List Ft→(List Ft→St→Option R)→Option R
 | [],_,σ,acc,k=>k acc σ
 | o :: r,i,σ,acc,k=>cp E ops o σ fun σ'=>cK E ops r (i+1) σ' ((i,reads σ o,wr E σ o) :: acc) k
def ZM (ops:Array Oper) (l:List Nat) (i:Nat):Nat:=
 match ops[i]? with
 | none=>0
 | some o=>o.after.toList.foldl (fun m e=>bif Region.binds .any e then m ||| (2 ^ e.on ||| l.getD e.on 0) else m) 0
def M8 (ops:Array Oper):Nat→List Nat
 | 0=>[]
 | k+1=>let l:=M8 ops k;l++[ZM ops l k]
def TY (M:List Nat) (j i:Nat):Bool:=(M.getD i 0).testBit j
def Uc (E:Env) (ops:Array Oper) (y x:Ft):Bool:=
 match ops[y.1]?,ops[x.1]? with
 | some j,some i=>i.apart ops j && (((NT E i && QQ x.2.1 y.2.2) || (NT E j && QQ y.2.1 x.2.2)) || (QE i && (QE j && (QQ x.2.2 y.2.2 && (R7 x.2.2 && R7 y.2.2)))))
 | _,_=>false
def W8 (E:Env) (ops:Array Oper) (M:List Nat):List Ft→Bool
 | []=>true
 | x :: r=>(r.all fun y=>TY M y.1 x.1 || Uc E ops y x) && W8 E ops M r
def bn (ops:Array Oper):Bool:=(List.range ops.size).all fun i=>match ops[i]? with
 | some o=>o.after.toList.all fun e=>!Region.binds .any e || decide (e.on<i)
 | none=>true
def I6 (E:Env) (ops:Array Oper) (σ:St) (k:St→Option R):Option R:=
 bif bn ops then cK E ops ops.toList 0 σ [] fun acc τ=>bif W8 E ops (M8 ops ops.size) acc then k τ else none
 else none
end
def NU (E:Env) (ops:Array Oper):List Ft→St→St→Prop
 | [],σ,τ=>τ = σ
 | x :: r,σ,τ=>∃ o σ1,ops[x.1]? = some o∧reads σ o=x.2.1∧wr E σ o=x.2.2∧Fg E ops o σ σ1∧NU E ops r σ1 τ
section
variable {P : Program} {B : Bd} {ok0 : Nat → Nat → Prop} {w0 w w' : World} {g g' : G} {σ σ1 τ : St} {a : Act} {E : Env} {ops : Array Oper} {R : Type}
theorem NU.append {E:Env} {ops:Array Oper}:∀ {l m:List Ft} {σ τ υ:St},NU E ops l σ τ→NU E ops m τ υ→NU E ops (l++m) σ υ
 | [],_,_,_,_,h,k=>by cases h;exact k
 | _ :: _,_,_,_,_,⟨o,σ1,h1,h2,h3,h4,h5⟩,k=>⟨o,σ1,h1,h2,h3,h4,h5.append k⟩
theorem sB:∀ {l:List Oper} {i:Nat} {σ σ0:St} {acc:List Ft} {k:List Ft→St→Option R} {r:R},(∀ j,l[j]? = ops[i+j]?)→NU E ops acc.reverse σ0 σ→acc.reverse.map (·.1)=List.range i→
  cK E ops l i σ acc k=some r→∃ W9 τ,NU E ops W9.reverse σ0 τ∧W9.reverse.map (·.1)=List.range (i+l.length)∧k W9 τ = some r
 | [],i,σ,σ0,acc,k,r,_,hc,hr,h=>⟨acc,σ,hc,hr,h⟩
 | o :: l,i,σ,σ0,acc,k,r,hl,hc,hr,h=>by
  obtain ⟨σ1,h1,h2⟩:=sC (k:=fun σ'=>cK E ops l (i+1) σ' ((i,reads σ o,wr E σ o) :: acc) k) h
  have ho:ops[i]? = some o:=by simpa using (hl 0).symm
  obtain ⟨W9,τ,h3,h4,h5⟩:=sB (l:=l) (fun j=>by have:=hl (j+1);simpa [Nat.add_assoc,Nat.add_comm 1 j] using this)
   (by rw [List.reverse_cons];exact hc.append ⟨o,σ1,ho,rfl,rfl,h1,rfl⟩) (by rw [List.reverse_cons,AE,hr,List.range_succ];rfl) h2
  exact ⟨W9,τ,h3,by rw [h4,Aj];congr 1;omega,h5⟩
theorem pK:∀ {pre:List Ft} {x:Ft} {post:List Ft} {σ τ:St},(∀ y∈pre,Uc E ops y x=true)→NU E ops (pre++x :: post) σ τ→NU E ops (x :: (pre++post)) σ τ
 | [],_,_,_,_,_,h=>h
 | y :: pre,x,post,σ,τ,hi,⟨j,σ1,h1,h2,h3,h4,h5⟩=>by
  obtain ⟨i,σ2,k1,k2,k3,k4,k5⟩:=pK (fun z hz=>hi z (Az _ hz)) h5
  have Oh:=hi y (Av ..)
  unfold Uc at Oh
  rw [h1,k1] at Oh
  simp only [Bool.and_eq_true,Bool.or_eq_true] at Oh
  rw [← h2,← h3,← k2,← k3] at Oh
  obtain ⟨ρ,g1,g2,e1,e2,e3,e4⟩:=swap Oh.1 h4 k4 Oh.2
  exact ⟨i,ρ,k1,e1.trans k2,e2.trans k3,g1,j,σ2,h1,e3.trans h2,e4.trans h3,g2,k5⟩
theorem qA (ops:Array Oper):∀ n,(M8 ops n).length=n
 | 0=>rfl
 | n+1=>by unfold M8;simp [qA ops n]
theorem YE (ops:Array Oper):∀ n i,i<n→(M8 ops n).getD i 0=ZM ops (M8 ops i) i
 | 0,_,h=>by omega
 | n+1,i,h=>by
  show (M8 ops n++[ZM ops (M8 ops n) n]).getD i 0=_
  have hl:=qA ops n
  by_cases hi:i<n
  ·have:=YE ops n i hi
   rw [Ax] at this ⊢
   rw [AD (by omega)]
   exact this
  ·have:i=n:=by omega
   subst this
   rw [Ax,Aw (by omega),hl,Nat.sub_self]
   rfl
theorem sD (l:List Nat) (j:Nat):∀ (es:List Edge) (m:Nat),(es.foldl (fun m e=>bif Region.binds .any e then m ||| (2 ^ e.on ||| l.getD e.on 0) else m) m).testBit j=true→
  m.testBit j=true∨∃ e∈es,Region.binds .any e=true∧(e.on=j∨(l.getD e.on 0).testBit j=true)
 | [],m,h=> .inl h
 | e :: es,m,h=>by
  rw [List.foldl_cons] at h
  rcases sD l j es _ h with h | ⟨e',PA,h'⟩
  ·cases hb:Region.binds .any e with
   | false=>rw [hb] at h;exact .inl h
   | true=>
    rw [hb] at h
    simp only [Aa,Nat.testBit_or,Bool.or_eq_true] at h
    rcases h with h | h | h
    ·exact .inl h
    ·rw [Nat.testBit_two_pow] at h
     exact .inr ⟨e,Av ..,hb, .inl (by simpa using h)⟩
    ·exact .inr ⟨e,Av ..,hb, .inr h⟩
  ·exact .inr ⟨e',Az _ PA,h'⟩
theorem Zrn {L:Nat→Bool} {n:Nat} (hb:bn ops=true) (hn:n=ops.size) (cL:∀ m o,ops[m]? = some o→L m=true→∀ e∈o.after.toList,Region.binds .any e=true→L e.on=true):
  ∀ i o,ops[i]? = some o→(∀ e∈o.after.toList,Region.binds .any e=true→L e.on=true)→∀ j,TY (M8 ops n) j i=true→L j=true:=by
 intro i
 induction i using Nat.strongRecOn with
 | _ i ih=>
  intro o ho hp j hj
  have hi:i<ops.size:=(Array.getElem?_eq_some_iff.1 ho).1
  unfold TY at hj
  rw [YE ops n i (by omega)] at hj
  unfold ZM at hj
  rw [ho] at hj
  rcases sD _ j _ 0 hj with h | ⟨e,he,Oq,h⟩
  ·simp at h
  ·have AO:e.on<i:=by
    have:=List.all_eq_true.1 hb i (List.mem_range.2 hi)
    rw [ho] at this
    have:=List.all_eq_true.1 this e he
    rw [Oq] at this
    simpa using this
   rcases h with h | h
   ·subst h;exact hp e he Oq
   ·rw [YE ops i e.on AO] at h
    obtain ⟨o',Ot⟩:∃ o',ops[e.on]? = some o':=⟨ops[e.on],Array.getElem?_eq_getElem (by omega)⟩
    exact ih e.on AO o' Ot (cL e.on o' Ot (hp e he Oq)) j (by unfold TY;rw [YE ops n e.on (by omega)];exact h)
theorem Ykt (hE:EnvOk P E) (hC:GJ P E) {Q:Exit→Act→World→Prop} (hb:bn ops=true):∀ (fuel:Nat) (l:List Ft) (listed:Array Bool) (σ:St) (g:G) (a:Act) (w:World),
  l.length=fuel→l.Pairwise (fun x y=>x.1<y.1)→(∀ x∈l,x.1<ops.size)→listed.size=ops.size→(∀ i,i<ops.size→(listed.getD i true=false↔∃ x∈l,x.1=i))→
  (∀ m o,ops[m]? = some o→listed.getD m false=true→∀ e∈o.after.toList,Region.binds .any e=true→listed.getD e.on false=true)→
  l.Pairwise (fun y x=>TY (M8 ops ops.size) y.1 x.1=true∨Uc E ops y x=true)→
  NU E ops l σ τ→Inv B ok0 w0 g σ a w→WC a.tmps.size ops=true→
  (∀ g' a' w',Inv B ok0 w0 g' τ a' w'→a'.tmps.size=a.tmps.size→Q .normal a' w')→wpAny P .any ops Q fuel listed a w:=by
 have rd:∀ (listed:Array Bool) i,listed.size=ops.size→i<ops.size→listed.getD i true=listed.getD i false:=fun listed i hs hi=>by
  have hi':i<listed.size:=by omega
  simp [hi']
 intro fuel
 induction fuel with
 | zero=>
  intro l listed σ g a w hlen _ _ Bu PL _ _ JU hI _ hq
  have:l=[]:=AI hlen
  subst this
  cases JU
  refine ⟨?_,hq g a w hI rfl⟩
  unfold Region.ready
  rw [List.filter_eq_nil_iff]
  intro i hi hc
  simp only [Bool.and_eq_true,Bool.not_eq_true'] at hc
  obtain ⟨x,hx,_⟩:=(PL i (List.mem_range.1 hi)).1 hc.1
  cases hx
 | succ fuel ih=>
  intro l listed σ g a w hlen WD AO Bu PL cL hpw JU hI CB hq
  constructor
  ·intro hr
   exfalso
   cases l with
   | nil=>simp at hlen
   | cons x l=>
    have hx:=AO x (Av ..)
    have hm:x.1∈Region.ready .any ops listed:=by
     refine mem_ready.2 ⟨(PL x.1 hx).2 ⟨x,Av ..,rfl⟩,ops[x.1],Array.getElem?_eq_getElem hx,fun e he Oq=>?_⟩
     have PA:e.on<x.1:=by
      have:=List.all_eq_true.1 hb x.1 (List.mem_range.2 hx)
      rw [Array.getElem?_eq_getElem hx] at this
      have:=List.all_eq_true.1 this e (by simpa using he)
      rw [Oq] at this
      simpa using this
     rw [← rd listed e.on Bu (by omega)]
     cases hv:listed.getD e.on true with
     | true=>rfl
     | false=>
      obtain ⟨y,hy,hye⟩:=(PL e.on (by omega)).1 hv
      rcases List.mem_cons.1 hy with rfl | hy
      ·omega
      ·have:=List.rel_of_pairwise_cons WD hy
       omega
    rw [hr] at hm
    cases hm
  ·intro i hi
   obtain ⟨Uw,oi,Ux,LP⟩:=mem_ready.1 hi
   have Zph:i<ops.size:=(Array.getElem?_eq_some_iff.1 Ux).1
   obtain ⟨x,hx,hxi⟩:=(PL i Zph).1 Uw
   obtain ⟨pre,post,rfl⟩:=List.append_of_mem hx
   subst hxi
   have mm:∀ y∈pre,Uc E ops y x=true:=fun y hy=>by
    have:=(List.pairwise_append.1 hpw).2.2 y hy x (Av ..)
    rcases this with h | h
    ·exfalso
     have Hb:=AO y (List.mem_append_left _ hy)
     have h1:=Zrn (L:=fun m=>listed.getD m false) hb rfl cL x.1 oi Ux (fun e he Oq=>LP e (by simpa using he) Oq) y.1 h
     have h2:=(PL y.1 Hb).2 ⟨y,List.mem_append_left _ hy,rfl⟩
     rw [rd listed y.1 Bu Hb] at h2
     simp only [h2] at h1
     cases h1
    ·exact h
   obtain ⟨o,σ1,k1,_,_,k4,k5⟩:=pK mm JU
   rw [Ux] at k1
   cases k1
   unfold wpOp
   rw [Ux]
   dsimp only
   have Ka:(pre++post).Sublist (pre++x :: post):=List.Sublist.append_left (List.sublist_cons_self ..) _
   have Xa:∀ y∈pre++post,y.1≠x.1:=fun y hy he=>by
    rw [List.pairwise_append] at WD
    rcases List.mem_append.1 hy with hy | hy
    ·have:=WD.2.2 y hy x (Av ..);omega
    ·have:=List.rel_of_pairwise_cons WD.2.1 hy;omega
   refine k4.wp hE hC hI (fun d hd=>pL CB oi (by rw [Array.mem_toList_iff];exact Array.mem_of_getElem? Ux) d hd) fun g' a' w' B9 hs=>?_
   refine ih (pre++post) (listed.setIfInBounds x.1 true) σ1 g' a' w' ?_ (WD.sublist Ka) (fun y hy=>AO y (Ka.subset hy)) (by simp [Bu]) ?_ ?_ (hpw.sublist Ka) k5 B9 (by rw [hs];exact CB) fun g2 a2 w2 Fh PG=>hq g2 a2 w2 Fh (PG.trans hs)
   ·simp only [Ae,Aj] at hlen ⊢;omega
   ·intro j hj
    by_cases ni:j=x.1
    ·subst ni
     have:(listed.setIfInBounds x.1 true).getD x.1 true=true:=by simp [Bu,Zph]
     rw [this]
     constructor
     ·intro h;cases h
     ·rintro ⟨y,hy,hye⟩;exact absurd hye (Xa y hy)
    ·rw [getD_set_ne true (Ne.symm ni),PL j hj]
     constructor
     ·rintro ⟨y,hy,rfl⟩
      refine ⟨y,?_,rfl⟩
      rcases List.mem_append.1 hy with hy | hy
      ·exact List.mem_append_left _ hy
      ·rcases List.mem_cons.1 hy with rfl | hy
       ·exact absurd rfl ni
       ·exact List.mem_append_right _ hy
     ·rintro ⟨y,hy,rfl⟩;exact ⟨y,Ka.subset hy,rfl⟩
   ·intro m o' Ot hm e he Oq
    by_cases CL:m=x.1
    ·subst CL
     rw [Ux] at Ot
     cases Ot
     exact getD_set_true (LP e (by simpa using he) Oq)
    ·rw [getD_set_ne false (Ne.symm CL)] at hm
     exact getD_set_true (cL m o' Ot hm e he Oq)
theorem Zem {l:List Ft} {M:List Nat}:W8 E ops M l=true→l.reverse.Pairwise (fun y x=>TY M y.1 x.1=true∨Uc E ops y x=true):=by
 induction l with
 | nil=>intro _;exact List.Pairwise.nil
 | cons x l ih=>
  intro h
  unfold W8 at h
  rw [Bool.and_eq_true] at h
  rw [List.reverse_cons,List.pairwise_append]
  refine ⟨ih h.2,List.pairwise_singleton _ _,fun y hy z hz=>?_⟩
  cases List.mem_singleton.1 hz
  have:=List.all_eq_true.1 h.1 y (List.mem_reverse.1 hy)
  simpa using this
theorem Zff (hE:EnvOk P E) (hC:GJ P E) (hm:P.follows .mixedOrders=true) (n:Nat):mn P B ok0 w0 R n (I6 E):=by
 intro ops σ k r id Q g a w hn h hI hs hq
 unfold I6 at h
 cases hb:bn ops with
 | false=>rw [hb] at h;cases h
 | true=>
  rw [hb] at h
  obtain ⟨acc,τ,h1,h2,h3⟩:=sB (ops:=ops) (l:=ops.toList) (i:=0) (σ0:=σ) (acc:=[]) (fun j=>by simp) rfl rfl h
  cases ho:W8 E ops (M8 ops ops.size) acc with
  | false=>rw [ho] at h3;cases h3
  | true=>
   rw [ho] at h3
   have B9:Inv B ok0 w0 g σ a { w with drawn:=w.drawn+1 }:=hI.grown ⟨rfl,rfl,rfl,Ah _,fun _ _=>rfl⟩
   have Ud:acc.reverse.map (·.1)=List.range ops.size:=by rw [h2];simp
   have Jm:∀ i,i<ops.size↔∃ x∈acc.reverse,x.1=i:=fun i=>by
    rw [← List.mem_range,← Ud,List.mem_map]
   refine wp_region_any hm (Ykt hE hC hb ops.size acc.reverse _ σ g a _ ?_ ?_ (fun x hx=>(Jm _).2 ⟨x,hx,rfl⟩) (by simp) (fun i hi=>?_) (fun m o _ hm=>?_) (Zem ho) h1 B9 (by rw [hs];exact hn)
    fun g' a' w' Fh PG=>hq τ h3 g' a' w' Fh (PG.trans hs))
   ·have:=congrArg List.length Ud
    simpa using this
   ·have:(acc.reverse.map (·.1)).Pairwise (· < ·):=by rw [Ud];exact List.pairwise_lt_range
    exact List.pairwise_map.1 this
   ·constructor
    ·intro _;exact (Jm i).1 hi
    ·intro _;simp [hi]
   ·exfalso
    by_cases Xq:m<ops.size
    ·simp [Xq] at hm
    ·simp [Xq] at hm
end
end Go.AM
end
