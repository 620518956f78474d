import Derived.Test.YtclpadlpcfnfmaaGreatAmL4
section
/- Operations that only read: what they answer hangs on their operands and on the boxes that these lead to. -/
namespace Go.AM
open Go.RowKit (Below)
set_option linter.unusedSectionVars false
variable [Lay]
def PD (a b:Option Con):Prop:=a=b\/∃ e l f f',a=some (.arr e l f)/\b=some (.arr e l f')
def FM:AV->List Nat
 | .ptr id _ _ | .aptr id _ _ _ | .slw id _ | .slm id _ _ _=>[id]
 | .clo _ ps=>ps.map (·.1)
 | _=>[]
def IX (I:List Nat) (σ ρ:St):Prop:=∀ id∈I,ρ.v id = σ.v id/\PD (σ.c id) (ρ.c id)
def Step.I6 (ρ:St) (d:Option Nat):Step->Step
 | .no=> .no
 | .go c σ=> .go c (ρ.Ce d (dv σ d))
 | .call α m f=> .call α m λ x=>ρ.Ce d (dv (f x) d)
def O5 (E:Env) (o:Oper):Bool:=
 match o.op with
 | .move x | .assign x=>!(IC E o.dst && OZ x)
 | .buildSlice .. =>match o.dst with
  | some d=>E.lit d
  | none=>false
 | .build .. | .load .. | .nilCheck _ | .binOp .. | .unOp .. | .slice .. | .fieldAddr .. | .field .. | .indexAddr .. | .index .. | .extract .. | .pick .. =>true
 | .convert .. =>!IC E o.dst
 | .makeFunc _ _ q=>decide (q.size=0)
 | .call c=>match c.callee with
  | .builtin .len | .builtin .min | .builtin .max=>true
  | _=>false
 | _=>false
section
variable {E : Env} {o : Oper} {σ ρ : St}
theorem O7 (ρ:St) (d:Option Nat) (a:AV):ρ.Ce d (dv (σ.Ce d a) d) = ρ.Ce d a:=by
 cases d with
 | none=>rfl
 | some d=>show ρ.Ce (some d) (EO σ.t d a d)=_;rw [Z5]
theorem DK (a:AV):put o ρ a=(put o σ a).I6 ρ o.dst:=by
 unfold put Step.I6;dsimp only;rw [O7]
theorem EB (c:Bool) (a:AV):Fx o c ρ a=(Fx o c σ a).I6 ρ o.dst:=by
 unfold Fx Step.I6;dsimp only;rw [O7]
theorem IX.head {id:Nat} {I:List Nat} (h:IX (id :: I) σ ρ):ρ.v id = σ.v id/\PD (σ.c id) (ρ.c id):=h id (AI ..)
theorem sP (T:Nat) (e:Ty) (l:List e.D) (off:Nat):Rj E T o ρ e l off=(Rj E T o σ e l off).I6 ρ o.dst:=by
 unfold Rj
 ((repeat' split) <;> first | rfl | exact DK _ | exact EB _ _ | (simp_all;done))
theorem sQ (m:Nat) (e' e:Ty) (l:List e.D):UH o ρ m e' e l=(UH o σ m e' e l).I6 ρ o.dst:=by
 unfold UH
 ((repeat' split) <;> first | rfl | exact DK _ | exact EB _ _ | (simp_all;done))
theorem wQ {c:Bool} (x:AV) (h:(IC E o.dst && c)=false):Nr E o ρ c x=(Nr E o σ c x).I6 ρ o.dst:=by
 unfold Nr;split
 ·rename_i d hd;rw [hd] at h;simp only [IC] at h;rw [h];exact DK _
 ·exact DK _
theorem Yof (T:Nat) (a:AV) (h:IX (FM a) σ ρ):Pd E T o ρ a=(Pd E T o σ a).I6 ρ o.dst:=by
 unfold Pd;cases a with
 | ptr id ver off=>
  obtain ⟨hv,hc⟩:=h.head;rcases hc with hc | ⟨e,l,f,f',h1,h2⟩
  ·dsimp only;rw [hv,<- hc];((repeat' split) <;> first | rfl | exact DK _ | exact EB _ _ | exact sP _ _ _ _ | exact sQ _ _ _ _ | (simp_all;done))
  ·dsimp only;rw [hv,h1,h2];(try dsimp only);((repeat' split) <;> first | rfl | exact DK _ | exact EB _ _ | exact sP _ _ _ _ | exact sQ _ _ _ _ | (simp_all;done))
 | aptr id ver i off=>
  obtain ⟨hv,hc⟩:=h.head;rcases hc with hc | ⟨e,l,f,f',h1,h2⟩
  ·dsimp only;rw [hv,<- hc];((repeat' split) <;> first | rfl | exact DK _ | exact EB _ _ | (simp_all;done))
  ·dsimp only;rw [hv,h1,h2];(try dsimp only);((repeat' split) <;> first | rfl | exact DK _ | exact EB _ _ | (simp_all;done))
 | ept t x off=>((repeat' split) <;> first | rfl | exact DK _ | exact EB _ _ | (simp_all;done))
 | _=>rfl
theorem Zst (S f:Nat) (x:AV) (h:IX (FM x) σ ρ):OL E S f o ρ x=(OL E S f o σ x).I6 ρ o.dst:=by
 unfold OL;split
 ·cases x with
  | ptr id ver off=>obtain ⟨hv,hc⟩:=h.head;dsimp only;rw [hv];((repeat' split) <;> first | rfl | exact DK _ | exact EB _ _ | (simp_all;done))
  | aptr id ver i off=>obtain ⟨hv,hc⟩:=h.head;dsimp only;rw [hv];((repeat' split) <;> first | rfl | exact DK _ | exact EB _ _ | (simp_all;done))
  | ept t x off=>((repeat' split) <;> first | rfl | exact DK _ | exact EB _ _ | (simp_all;done))
  | _=>rfl
 ·rfl
theorem Ztt (T:Nat) (x i:AV) (h:IX (FM x) σ ρ):OM E T o ρ x i=(OM E T o σ x i).I6 ρ o.dst:=by
 unfold OM;split
 ·cases x with
  | ptr id ver off=>
   obtain ⟨hv,hc⟩:=h.head;cases off with
   | succ n=>rfl
   | zero=>
    show (match E.ar T,ρ.c id with
     | some (n,e),some (.arr e' l _)=>if ρ.v id=ver/\e.sz=e'.sz then Fx o (Bf _ n && decide (n=List.length (α:=e'.D) l)) ρ (.aptr id ver (Int.toNat _) 0) else .no
     | _,_=> .no)=Step.I6 ρ o.dst (match E.ar T,σ.c id with
     | some (n,e),some (.arr e' l _)=>if σ.v id=ver/\e.sz=e'.sz then Fx o (Bf _ n && decide (n=List.length (α:=e'.D) l)) σ (.aptr id ver (Int.toNat _) 0) else .no
     | _,_=> .no)
    rcases hc with hc | ⟨e,l,f,f',h1,h2⟩
    ·rw [hv,<- hc];((repeat' split) <;> first | rfl | exact DK _ | exact EB _ _ | (simp_all;done))
    ·rw [hv,h1,h2];cases E.ar T with
     | none=>rfl
     | some p=>dsimp only;((repeat' split) <;> first | rfl | exact DK _ | exact EB _ _ | (simp_all;done))
  | slw id ver=>
   obtain ⟨hv,hc⟩:=h.head;dsimp only;rcases hc with hc | ⟨e,l,f,f',h1,h2⟩
   ·rw [hv,<- hc];((repeat' split) <;> first | rfl | exact DK _ | exact EB _ _ | (simp_all;done))
   ·rw [hv,h1,h2];cases E.ty T with
    | none=>rfl
    | some u=>cases u with
     | sl e'=>dsimp only;((repeat' split) <;> first | rfl | exact DK _ | exact EB _ _ | (simp_all;done))
     | _=>rfl
  | slm id ver lo n=>
   obtain ⟨hv,hc⟩:=h.head;dsimp only;rcases hc with hc | ⟨e,l,f,f',h1,h2⟩
   ·rw [hv,<- hc];((repeat' split) <;> first | rfl | exact DK _ | exact EB _ _ | (simp_all;done))
   ·rw [hv,h1,h2];cases E.ty T with
    | none=>rfl
    | some u=>cases u with
     | sl e'=>dsimp only;((repeat' split) <;> first | rfl | exact DK _ | exact EB _ _ | (simp_all;done))
     | _=>rfl
  | dat t y g=>((repeat' split) <;> first | rfl | exact DK _ | exact EB _ _ | (simp_all;done))
  | _=>rfl
 ·rfl
theorem Zyu (e:Ty) (x:AV) (h:IX (FM x) σ ρ):content ρ e x=content σ e x:=by
 unfold content;cases x with
 | slw id ver=>
  obtain ⟨hv,hc⟩:=h.head;rcases hc with hc | ⟨e,l,f,f',h1,h2⟩
  ·dsimp only;rw [hv,<- hc]
  ·dsimp only;rw [hv,h1,h2]
 | slm id ver lo n=>
  obtain ⟨hv,hc⟩:=h.head;rcases hc with hc | ⟨e,l,f,f',h1,h2⟩
  ·dsimp only;rw [hv,<- hc]
  ·dsimp only;rw [hv,h1,h2]
 | _=>rfl
theorem Ydz (T:Option Ty) (x:AV) (h:IX (FM x) σ ρ):KE T o ρ x=(KE T o σ x).I6 ρ o.dst:=by
 unfold KE;cases x with
 | slw id ver=>
  obtain ⟨hv,hc⟩:=h.head;rcases hc with hc | ⟨e,l,f,f',h1,h2⟩
  ·dsimp only;rw [hv,<- hc];((repeat' split) <;> first | rfl | exact DK _ | exact EB _ _ | (simp_all;done))
  ·dsimp only;rw [hv,h1,h2];(try dsimp only);((repeat' split) <;> first | rfl | exact DK _ | exact EB _ _ | (simp_all;done))
 | slm id ver lo n=>obtain ⟨hv,hc⟩:=h.head;dsimp only;rw [hv];((repeat' split) <;> first | rfl | exact DK _ | exact EB _ _ | (simp_all;done))
 | _=>((repeat' split) <;> first | rfl | exact DK _ | exact EB _ _ | (simp_all;done))
theorem Zww (s d:Nat) (x:AV) (h:IX (FM x) σ ρ) (hb:IC E o.dst=false):MA E s d o ρ x=(MA E s d o σ x).I6 ρ o.dst:=by
 unfold MA;rw [Zyu _ x h,hb]
 ((repeat' split) <;> first | rfl | exact DK _ | exact EB _ _ | (simp_all;done))
theorem Zd4 (T:Nat) (x:AV) (lo hi:Option Operand) (ht:ρ.t = σ.t) (h:IX (FM x) σ ρ):Qf E T o ρ x lo hi=(Qf E T o σ x lo hi).I6 ρ o.dst:=by
 have hb:∀ d x,GH ρ d x=GH σ d x:=λ d x=>by
  cases x with
  | none=>rfl
  | some y=>unfold GH;dsimp only;rw [Gz ht]
 unfold Qf;simp only [hb];cases x with
 | dat t y g=>((repeat' split) <;> first | rfl | exact DK _ | exact EB _ _ | (simp_all;done))
 | ptr id ver off=>
  obtain ⟨hv,hc⟩:=h.head;cases off with
  | succ n=>rfl
  | zero=>
   show (match E.ar T,ρ.c id with
    | some (n,e),some (.arr e' s _)=>if ρ.v id=ver/\e.sz=e'.sz then
      match GH σ 0 lo,GH σ n hi with
      | some l,some h=>Fx o (CJ l h n && decide (n=List.length (α:=e'.D) s)) ρ (.slm id ver l.toNat (h.toNat-l.toNat))
      | _,_=> .no
     else .no
    | _,_=> .no)=Step.I6 ρ o.dst (match E.ar T,σ.c id with
    | some (n,e),some (.arr e' s _)=>if σ.v id=ver/\e.sz=e'.sz then
      match GH σ 0 lo,GH σ n hi with
      | some l,some h=>Fx o (CJ l h n && decide (n=List.length (α:=e'.D) s)) σ (.slm id ver l.toNat (h.toNat-l.toNat))
      | _,_=> .no
     else .no
    | _,_=> .no)
   rcases hc with hc | ⟨e,l,f,f',h1,h2⟩
   ·rw [hv,<- hc];((repeat' split) <;> first | rfl | exact DK _ | exact EB _ _ | (simp_all;done))
   ·rw [hv,h1,h2];cases E.ar T with
    | none=>rfl
    | some p=>dsimp only;((repeat' split) <;> first | rfl | exact DK _ | exact EB _ _ | (simp_all;done))
 | slw id ver=>
  obtain ⟨hv,hc⟩:=h.head;dsimp only;rcases hc with hc | ⟨e,l,f,f',h1,h2⟩
  ·rw [hv,<- hc];((repeat' split) <;> first | rfl | exact DK _ | exact EB _ _ | (simp_all;done))
  ·rw [hv,h1,h2];cases E.ty T with
   | none=>rfl
   | some u=>cases u with
    | sl e'=>dsimp only;((repeat' split) <;> first | rfl | exact DK _ | exact EB _ _ | (simp_all;done))
    | _=>rfl
 | slm id ver lo n=>
  obtain ⟨hv,hc⟩:=h.head;dsimp only;rcases hc with hc | ⟨e,l,f,f',h1,h2⟩
  ·rw [hv,<- hc];((repeat' split) <;> first | rfl | exact DK _ | exact EB _ _ | (simp_all;done))
  ·rw [hv,h1,h2];cases E.ty T with
   | none=>rfl
   | some u=>cases u with
    | sl e'=>dsimp only;((repeat' split) <;> first | rfl | exact DK _ | exact EB _ _ | (simp_all;done))
    | _=>rfl
 | _=>rfl
theorem Zyz (op:BinOp) (k j:IntKind) (a b:Int):OX op o ρ k j a b=(OX op o σ k j a b).I6 ρ o.dst:=by
 unfold OX;((repeat' split) <;> first | rfl | exact DK _ | exact EB _ _ | (simp_all;done))
theorem Zzz (op:BinOp) (a b:ByteArray):OY op o ρ a b=(OY op o σ a b).I6 ρ o.dst:=by
 unfold OY;((repeat' split) <;> first | rfl | exact DK _ | exact EB _ _ | (simp_all;done))
theorem Zc4 (T:Nat) (op:BinOp) (x y:AV):Qe E T op o ρ x y=(Qe E T op o σ x y).I6 ρ o.dst:=by
 unfold Qe;split
 ·split
  ·exact Zyz _ _ _ _ _
  ·exact Zzz _ _ _
  ·split
   ·split
    ·split
     ·exact DK _
     ·exact DK _
     ·rfl
    ·rfl
   ·rfl
 ·rfl
theorem Zb4 (T:Nat) (op:BinOp) (x:AV):Qm E T op o ρ x=(Qm E T op o σ x).I6 ρ o.dst:=by
 unfold Qm;split
 ·split
  ·exact DK _
  ·exact DK _
  ·rfl
 ·rfl
end
end Go.AM
end

section
/- Two operations that do not meddle with one another may change places. -/
namespace Go.AM
open Go.RowKit (Below)
set_option linter.unusedSectionVars false
variable [Lay]
def reads (σ:St) (o:Oper):List Nat:=o.op.operands.toList.flatMap λ x=>FM (Bm σ x)
def uJ (E:Env) (σ:St) (f:AV) (xs:List Operand):List Nat:=
 match f with
 | .fn f _=>Gw σ (E.inpl f) xs
 | .clo f _=>Gw σ (E.inpl f) xs
 | _=>[]
def MQ (i:Nat):Nat:=2*pid0+i
def Qt:AV->List Nat
 | .dat _ _ g=>g.map λ t=>MQ t.id
 | .slw _ _=>[2*pid0-1]
 | _=>[]
def RV (σ:St) (o:Oper) (s:Operand):List Nat:=FM (Bm σ s)++(Qt (Bm σ s)++(o.dst.map λ d=>MQ (CK d 0)).toList)
def wr (E:Env) (σ:St) (o:Oper):List Nat:=
 match o.op with
 | .store _ a _=>FM (Bm σ a)
 | .move x | .assign x=>bif IC E o.dst && OZ x then o.dst.toList else []
 | .call c=>match c.callee with
  | .builtin .append=>match c.args.toList with
   | s :: _=>RV σ o s
   | []=>[]
  | .builtin .clear=>match c.args.toList with
   | s :: _=>FM (Bm σ s)
   | []=>[]
  | .builtin .copy=>match c.args.toList with
   | s :: _=>FM (Bm σ s)
   | []=>[]
  | .value f=>uJ E σ (Bm σ f) c.args.toList++(FM (Bm σ f)++o.dst.toList)
  | _=>[]
 | .alloc _ | .box .. | .makeSlice .. =>o.dst.toList
 | .convert .. =>bif IC E o.dst then o.dst.toList else []
 | .makeFunc _ _ q=>q.toList.flatMap λ x=>FM (Bm σ x)
 | _=>[]
section
variable {E : Env} {o : Oper} {σ ρ σ' : St} {ops : Array Oper}
theorem IX.sub {I J:List Nat} (h:IX I σ ρ) (hs:∀ x∈J,x∈I):IX J σ ρ:=λ id hid=>h id (hs id hid)
theorem Ycz {x:Operand} (h:IX (reads σ o) σ ρ) (hx:x∈o.op.operands):IX (FM (Bm σ x)) σ ρ:=
 h.sub λ y hy=>List.mem_flatMap.2 ⟨x,by simpa using hx,hy⟩
theorem js (hp:O5 E o=true) (TV:∀ c x y,o.op≠ .pick c x y) (ht:ρ.t = σ.t) (h:IX (reads σ o) σ ρ):EP E ρ o=(EP E σ o).I6 ρ o.dst:=by
 have hn:∀ x∈o.op.operands,IX (FM (Bm σ x)) σ ρ:=λ x hx=>Ycz h hx
 unfold O5 at hp;unfold EP;cases ho:o.op <;> rw [ho] at hp hn <;> (try dsimp only)
 case move x=>rw [Gz ht];exact wQ _ (Bool.not_eq_true' _ ▸ hp)
 case assign x=>rw [Gz ht];exact wQ _ (Bool.not_eq_true' _ ▸ hp)
 case build T ps=>
  split
  ·split
   ·have:L0 E T ρ = L0 E T σ:=by
     funext t ps z g;have hb:∀ (ps:List (Nat×Operand)) (z:t.D) (g:List Tag),L0 E T ρ t ps z g=L0 E T σ t ps z g:=by
      intro ps;induction ps with
      | nil=>intro z g;rfl
      | cons p ps ih=>intro z g;obtain ⟨f,x⟩:=p;unfold L0;rw [Gz ht];simp only [ih]
     exact hb ps z g
    rw [this];split
    ·exact DK _
    ·rfl
   ·rfl
  ·rfl
 case buildSlice T n ps=>
  unfold Q3;cases Hq:o.dst with
  | none=>rfl
  | some d=>
   rw [Hq] at hp;have hl:E.lit d=true:=hp;have hb:∀ (e:Ty) (ps:List (Nat×Operand)) (i:Nat),Om ρ e i ps=Om σ e i ps:=by
    intro e ps;induction ps with
    | nil=>intro i;rfl
    | cons p ps ih=>intro i;obtain ⟨j,x⟩:=p;unfold Om;rw [Gz ht];simp only [ih]
   cases E.ty T with
   | none=>rfl
   | some t=>
    cases t with
    | sl e=>
     dsimp only;rw [hb];split
     ·rename_i l _;split
      ·rw [hl];have:=EB (o:=o) (σ:=σ) (ρ:=ρ) (decide (n*e.sz<=16777216) && true) (.dat (.sl e) l []);unfold Fx at this;rw [Hq] at this;exact this
      ·rfl
     ·rfl
    | _=>rfl
 case load T x=>rw [Gz ht];exact Yof T _ (hn x (by simp [Op.operands]))
 case nilCheck x=>
  rw [Gz ht];have hx:=hn x (by simp [Op.operands]);revert hx;generalize Bm σ x=y;intro hx;cases y with
  | ptr id ver off=>obtain ⟨hv,hc⟩:=hx.head;dsimp only;rw [hv];((repeat' split) <;> first | rfl | exact DK _ | exact EB _ _ | (simp_all;done))
  | aptr id ver i off=>obtain ⟨hv,hc⟩:=hx.head;dsimp only;rw [hv];((repeat' split) <;> first | rfl | exact DK _ | exact EB _ _ | (simp_all;done))
  | ept t x off=>exact DK _
  | _=>rfl
 case binOp op T x y U=>
  rw [Gz ht,Gz ht];cases UU y with
  | true=>exact Zb4 T op _
  | false=>exact Zc4 T op _ _
 case unOp op T x=>rw [Gz ht];unfold RC;((repeat' split) <;> first | rfl | exact DK _ | exact EB _ _ | (simp_all;done))
 case convert s d x=>rw [Gz ht];exact Zww s d _ (hn x (by simp [Op.operands])) (Bool.not_eq_true' _ ▸ hp)
 case makeFunc fn p q=>
  have hq:q = #[]:=Array.eq_empty_of_size_eq_zero (Az hp);subst hq;cases fn with
  | func f=>
   dsimp only;split
   ·cases IC E o.dst with
    | true=>exact DK _
    | false=>exact DK _
   ·rfl
  | _=>rfl
 case slice T x lo hi mx=>
  cases mx with
  | none=>dsimp only;rw [Gz ht];exact Zd4 T _ lo hi ht (hn x (by simp [Op.operands]))
  | some m=>rfl
 case fieldAddr S x f=>rw [Gz ht];exact Zst S f _ (hn x (by simp [Op.operands]))
 case field S x f=>rw [Gz ht];unfold Ro;((repeat' split) <;> first | rfl | exact DK _ | exact EB _ _ | (simp_all;done))
 case indexAddr T x i=>rw [Gz ht,Gz ht];exact Ztt T _ _ (hn x (by simp [Op.operands]))
 case index T x i=>rw [Gz ht,Gz ht];unfold Rp;((repeat' split) <;> first | rfl | exact DK _ | exact EB _ _ | (simp_all;done))
 case extract x i=>rw [Gz ht];unfold Rc;((repeat' split) <;> first | rfl | exact DK _ | exact EB _ _ | (simp_all;done))
 case pick c x y=>exact absurd ho (TV c x y)
 case call c=>
  unfold Nq;dsimp only at hp;have Xnh:Bm ρ = Bm σ:=funext λ x=>Gz ht x
  rw [Xnh];split
  ·rename_i b hb;split
   ·rename_i x T ha Il
    exact Ydz _ _ (hn x (by
     simp only [Op.operands,Call.operands,hb]
     exact Array.mem_append.2 (.inr (by rw [<- Array.mem_toList_iff,ha];simp))))
   ·rename_i s x T U ha Il;rw [hb] at hp;cases hp
   ·rw [hb] at hp;cases hp
   ·rw [hb] at hp;cases hp
   ·unfold N8;((repeat' split) <;> first | rfl | exact DK _ | exact EB _ _ | (simp_all;done))
   ·unfold N8;((repeat' split) <;> first | rfl | exact DK _ | exact EB _ _ | (simp_all;done))
   ·rfl
  ·rename_i f hf;rw [hf] at hp;cases hp
  ·rfl
 all_goals cases hp
theorem Step.lX {s:Step} (h:s.to σ'):(s.I6 ρ o.dst).to (ρ.Ce o.dst (dv σ' o.dst)):=by
 cases s with
 | no=>exact h
 | go c σ1=>obtain ⟨rfl,rfl⟩:=h;exact ⟨rfl,rfl⟩
 | call α m f=>obtain ⟨x,hx,rfl⟩:=h;exact ⟨x,hx,rfl⟩
theorem Step.iI {s:Step} {a b:St} (ha:s.to a) (hb:s.to b):a=b:=by
 cases s with
 | no=>exact ha.elim
 | go c σ1=>exact ha.2.trans hb.2.symm
 | call α m f=>obtain ⟨x,hx,rfl⟩:=ha;obtain ⟨y,hy,rfl⟩:=hb;rw [hx] at hy;cases hy;rfl
theorem uI (I:List Nat) (σ:St):IX I σ σ:=λ _ _=>⟨rfl, .inl rfl⟩
theorem wR (hp:O5 E o=true) (hg:Jy E σ o σ'):σ' = σ.Ce o.dst (dv σ' o.dst)/\∀ ρ,ρ.t = σ.t->IX (reads σ o) σ ρ->Jy E ρ o (ρ.Ce o.dst (dv σ' o.dst)):=by
 unfold Jy at *;split at hg
 ·rename_i c x y ho;obtain ⟨t,gs,hc,rfl⟩:=hg;refine ⟨(O7 _ _ _).symm,λ ρ ht _=>⟨t,gs,(Gz ht c).trans hc,?_⟩⟩;rw [O7,Gz ht x,Gz ht y]
 ·rename_i TV;have h1:=js (E:=E) hp TV (ρ:=σ) rfl (uI _ _);have h2:=Step.lX (ρ:=σ) (o:=o) hg;rw [<- h1] at h2;refine ⟨Step.iI hg h2,λ ρ ht hn=>?_⟩;rw [js hp TV ht hn];exact Step.lX hg
theorem wP (hp:O5 E o=true) (hg:F0 E ops o σ σ'):σ' = σ.Ce o.dst (dv σ' o.dst)/\∀ ρ,ρ.t = σ.t->IX (reads σ o) σ ρ->F0 E ops o ρ (ρ.Ce o.dst (dv σ' o.dst)):=by
 unfold F0 at *;split at hg
 ·exact wR hp hg
 ·split at hg
  ·subst hg;exact ⟨(O7 _ _ _).symm,λ ρ ht _=>by rw [O7]⟩
  ·rename_i s hs;split at hg
   ·rename_i hv;subst hg;refine ⟨(O7 _ _ _).symm,λ ρ ht _=>?_⟩;rw [ht,hv,O7]
   ·rename_i b gs hv;split at hg
    ·rename_i he;subst he;obtain ⟨h1,h2⟩:=wR hp hg;refine ⟨h1,λ ρ ht hn=>?_⟩;rw [ht,hv];dsimp only;rw [if_pos rfl];exact h2 ρ ht hn
    ·rename_i he;subst hg;refine ⟨(O7 _ _ _).symm,λ ρ ht _=>?_⟩;rw [ht,hv,O7];dsimp only;rw [if_neg he]
   ·exact hg.elim
def Kept (W:List Nat) (σ σ':St):Prop:=∀ id,id∉W->σ'.v id = σ.v id/\PD (σ.c id) (σ'.c id)
theorem Kept.set (W:List Nat) (ρ:St) (d:Option Nat) (a:AV) (h:Kept W σ ρ):Kept W σ (ρ.Ce d a):=by
 cases d <;> exact h
theorem kept_refl (W:List Nat) (σ:St):Kept W σ σ:=λ _ _=>⟨rfl, .inl rfl⟩
theorem WB (W:List Nat) (σ:St) (i:Nat):Kept W σ (σ.C8 i):=λ _ _=>⟨rfl, .inl rfl⟩
theorem PD.trans {a b c:Option Con} (h:PD a b) (k:PD b c):PD a c:=by
 rcases h with rfl | ⟨e,l,f,f',rfl,rfl⟩
 ·exact k
 ·rcases k with rfl | ⟨e,l,f,f',h1,rfl⟩
  ·exact .inr ⟨_,_,_,_,rfl,rfl⟩
  ·cases h1;exact .inr ⟨_,_,_,_,rfl,rfl⟩
theorem PD.symm {a b:Option Con} (h:PD a b):PD b a:=by
 rcases h with rfl | ⟨e,l,f,f',rfl,rfl⟩
 ·exact .inl rfl
 ·exact .inr ⟨_,_,_,_,rfl,rfl⟩
theorem Kept.trans {W:List Nat} {a b c:St} (h:Kept W a b) (k:Kept W b c):Kept W a c:=λ id hid=>
 ⟨(k id hid).1.trans (h id hid).1,(h id hid).2.trans (k id hid).2⟩
theorem Kept.mono {W W':List Nat} {a b:St} (h:Kept W a b) (hw:∀ x∈W,x∈W'):Kept W' a b:=λ id hid=>h id λ hx=>hid (hw id hx)
def Ks (W:List Nat) (σ:St) (s:Step):Prop:=∀ σ',s.to σ'->Kept W σ σ'
theorem UD (W:List Nat) (a:AV):Ks W σ (put o σ a):=by
 rintro _ ⟨_,rfl⟩;exact (kept_refl W σ).set _ _ _ _
theorem jr (W:List Nat) (c:Bool) (a:AV):Ks W σ (Fx o c σ a):=by
 rintro _ ⟨_,rfl⟩;exact (kept_refl W σ).set _ _ _ _
theorem N0 {d:Nat} (k:Con):Kept [d] σ (σ.C3 d k):=λ id hid=>by
 have Cg:id≠d:=λ e=>hid (by simp [e])
 unfold St.C3;dsimp only;rw [B5,if_neg Cg,B5,if_neg Cg];exact ⟨rfl, .inl rfl⟩
theorem Q5 {d:Nat} (k:Con):Kept [d] σ (σ.Dq d k):=λ id hid=>by
 have Cg:id≠d:=λ e=>hid (by simp [e])
 unfold St.Dq;dsimp only;rw [B5,if_neg Cg];exact ⟨rfl, .inl rfl⟩
theorem sN {W:List Nat} {id:Nat} {e:Ty} {l:List e.D} {f f':Bool} (h:σ.c id=some (.arr e l f)):Kept W σ (σ.Dq id (.arr e l f')):=λ i _=>by
 unfold St.Dq;dsimp only;rw [B5];by_cases hi:i=id
 ·subst hi;rw [if_pos rfl,h];exact ⟨rfl, .inr ⟨_,_,_,_,rfl,rfl⟩⟩
 ·rw [if_neg hi];exact ⟨rfl, .inl rfl⟩
theorem Ypf {W:List Nat} {T:Nat} {m:Bool} {x a:AV} {σ1:St} (h:Mc E T m σ x=some (a,σ1)):Kept W σ σ1:=by
 unfold Mc at h;split at h
 ·cases h;exact kept_refl _ _
 ·split at h
  ·cases h;exact kept_refl _ _
  ·cases h
 ·cases m with
  | true=>
   simp only [Ak] at h;split at h
   ·split at h
    ·split at h
     ·cases h
     ·cases h;exact kept_refl _ _
    ·cases h
   ·cases h
  | false=>
   simp only [Al] at h;split at h
   ·split at h
    ·rename_i hc;cases h;exact sN hc
    ·cases h
   ·cases h
 ·split at h
  ·split at h
   ·rename_i hc;cases h;exact sN hc
   ·cases h
  ·cases h
 ·cases h;exact kept_refl _ _
 ·cases h;exact kept_refl _ _
 ·split at h
  ·split at h
   ·cases h;exact kept_refl _ _
   ·cases h
  ·cases h
 ·cases h
theorem sO:∀ (ids:List Nat) (ds:List Con) (σ:St),Kept ids σ (Ic ids ds σ)
 | [],_,σ=>kept_refl _ _
 | _ :: _,[],σ=>kept_refl _ _
 | id :: ids,d :: ds,σ=>λ i hi=>by
  have h1:=Q5 (σ:=σ) (d:=id) d i (λ hm=>hi (by rw [List.mem_singleton.1 hm];exact AI ..));have h2:=sO ids ds (σ.Dq id d) i (λ hm=>hi (AP _ hm));exact ⟨h2.1.trans h1.1,h1.2.trans h2.2⟩
theorem iH {W:List Nat}:∀ {ms:List Bool} {ps:List (Operand×Nat)} {σ σ1:St} {l:List AV},KA E ms ps σ = some (l,σ1)->Kept W σ σ1
 | _,[],σ,σ1,l,h=>by unfold KA at h;cases h;exact kept_refl _ _
 | ms,(x,T) :: ps,σ,σ1,l,h=>by
  unfold KA at h;split at h
  ·rename_i a σ2 ha;split at h
   ·rename_i l2 σ3 hl;cases h;exact (Ypf ha).trans (iH hl)
   ·cases h
  ·cases h
theorem tE (W:List Nat) (hs:List Nat):Kept W σ (EC hs σ):=by
 obtain ⟨_,h2,h3,_⟩:=gS hs σ;intro i _;rw [h2,h3];exact ⟨rfl, .inl rfl⟩
theorem ZQ (W:List Nat) (d j n:Nat):Kept W σ (E1 d j n σ):=λ _ _=>⟨rfl, .inl rfl⟩
theorem wK (ids:List Nat) (a:AV) (EG:List Con):Kept (ids++o.dst.toList) σ (imp o ids σ a EG):=by
 have ks:∀ cs τ,Kept (ids++o.dst.toList) τ (Ic ids cs τ):=λ cs τ=>(sO _ _ _).mono λ y hy=>List.mem_append_left _ hy
 unfold imp;split
 ·exact ks _ _
 ·rename_i d hd;split
  ·simp only [UM,SF];exact Kept.set _ _ _ _ ((ZQ _ _ _ _).trans ((ZQ _ _ _ _).trans (ks _ _)))
  ·simp only [jP,SF];exact Kept.set _ _ _ _ ((ZQ _ _ _ _).trans ((ZQ _ _ _ _).trans (ks _ _)))
  ·exact Kept.set _ _ _ _ ((ks _ _).trans ((N0 _).mono λ y hy=>List.mem_append_right _ (by rw [hd];exact hy)))
  ·dsimp only;split
   ·exact Kept.set _ _ _ _ (ks _ _)
   ·exact Kept.set _ _ _ _ (ks _ _)
  ·exact Kept.set _ _ _ _ (ks _ _)
theorem DY (W:List Nat):Ks W σ .no:=λ _ h=>h.elim
theorem wJ {W:List Nat} {c:Bool} {s:Step} (h:Ks W σ s):Ks W σ (bif c then s else .no):=by
 cases c
 ·exact DY _
 ·exact h
theorem iJ {W:List Nat} {c:Bool} {s:Step} (h:Ks W σ s):Ks W σ (bif c then .no else s):=by
 cases c
 ·exact h
 ·exact DY _
theorem go_kept {W:List Nat} {c:Bool} {ρ:St} {d:Option Nat} {a:AV} (h:Kept W σ ρ):Ks W σ (.go c (ρ.Ce d a)):=by
 rintro _ ⟨_,rfl⟩;exact h.set _ _ _ _
end
end Go.AM
end

section
/- Two operations that do not meddle with one another may change places: the law. -/
namespace Go.AM
open Go.RowKit (Below)
set_option linter.unusedSectionVars false
variable [Lay]
section
variable {E : Env} {o : Oper} {σ ρ σ' : St} {ops : Array Oper}
theorem Ylf {x:AV} {d:Dat} {σ σ1:St} (h:Dr σ x=some (d,σ1)):Kept (FM x) σ σ1:=by
 unfold Dr at h;split at h
 ·split at h
  ·split at h
   ·cases h;exact Q5 _
   ·cases h;exact kept_refl _ _
   ·cases h
  ·cases h
 ·cases h;exact kept_refl _ _
 ·cases h
theorem uF:∀ {xs:List Operand} {σ σ1:St} {ds:List Dat},Np xs σ = some (ds,σ1)->Kept (xs.flatMap λ x=>FM (Bm σ x)) σ σ1
 | [],σ,σ1,ds,h=>by cases h;exact kept_refl _ _
 | x :: xs,σ,σ1,ds,h=>by
  unfold Np at h;split at h
  ·rename_i d σ2 h1;split at h
   ·rename_i ds2 σ3 h2;cases h;have ht:=Zzn h1;have he:(xs.flatMap λ x=>FM (Bm σ2 x))=xs.flatMap λ x=>FM (Bm σ x):=by
     have:(λ x=>FM (Bm σ2 x))=λ x=>FM (Bm σ x):=funext λ x=>by rw [Gz ht]
     rw [this]
    have k1:=(Ylf h1).mono (W':=(x :: xs).flatMap λ x=>FM (Bm σ x)) λ y hy=>by rw [List.flatMap_cons];exact List.mem_append_left _ hy
    have k2:=(uF h2).mono (W':=(x :: xs).flatMap λ x=>FM (Bm σ x)) λ y hy=>by rw [he] at hy;rw [List.flatMap_cons];exact List.mem_append_right _ hy
    exact k1.trans k2
   ·cases h
  ·cases h
theorem uG {x:AV} {c:Bool} (h:(IC E o.dst && c)=true):Ks (bif IC E o.dst && c then o.dst.toList else []) σ (Nr E o σ c x):=by
 unfold Nr;split
 ·rename_i d hd;rw [hd] at h ⊢;simp only [IC] at h ⊢;rw [h];dsimp only [cond];split
  ·exact go_kept (N0 _)
  ·exact DY _
 ·exact UD _ _
theorem uH {W:List Nat} {b:Bool} {σ σ1:St} (h:Kept W σ σ1):Kept W σ (KF b σ σ1):=by
 cases b
 ·exact h
 ·exact kept_refl _ _
theorem Zy3 {c:Call} (ho:o.op = .call c):Ks (wr E σ o) σ (Nq E c o σ):=by
 unfold wr;rw [ho];obtain ⟨cl,as,ats⟩:=c;cases cl with
 | builtin b=>
  unfold Nq;have hlen:∀ W T x,Ks W σ (KE T o σ x):=λ W T x=>by unfold KE;((repeat' split) <;> first | exact DY _ | exact go_kept (WB _ _ _) | exact go_kept (kept_refl _ _) | exact UD _ _ | exact jr _ _ _)
  have eA:∀ W T U s x,Ks W σ (KX E T U o σ s x):=λ W T U s x=>by unfold KX;((repeat' split) <;> first | exact DY _ | exact go_kept (WB _ _ _) | exact go_kept (kept_refl _ _) | exact UD _ _ | exact jr _ _ _)
  have Xzd:∀ T U id ver x,Ks [id] σ (P7 E T U o σ id ver x):=λ T U id ver x=>by unfold P7;((repeat' split) <;> first | exact DY _ | exact go_kept (N0 _))
  have Zpq:∀ s id lo n,partOf σ s=some (id,lo,n)->FM s=[id]:=λ s id lo n h=>by
   obtain ⟨_,_,_,⟨ver,rfl,_⟩ | ⟨ver,rfl,_⟩⟩:=sM h <;> rfl
  have Xlh:∀ T s,Ks (FM s) σ (Qg E T o σ s):=λ T s=>by
   unfold Qg;split
   ·rename_i id lo n e hp hT;rw [Zpq _ _ _ _ hp]
    ((repeat' split) <;> first | exact DY _ | exact go_kept (Q5 _))
   ·exact DY _
  have Xmh:∀ T U s x,Ks (FM s) σ (Qn E T U o σ s x):=λ T U s x=>by
   unfold Qn;split
   ·rename_i id lo n e hp hT;rw [Zpq _ _ _ _ hp]
    ((repeat' split) <;> first | exact DY _ | exact go_kept (Q5 _))
   ·exact DY _
  have e9:∀ W f xs,Ks W σ (N8 f o σ xs):=λ W f xs=>by unfold N8;((repeat' split) <;> first | exact DY _ | exact go_kept (WB _ _ _) | exact go_kept (kept_refl _ _) | exact UD _ _ | exact jr _ _ _)
  clear ho;dsimp only;generalize as.toList=al;generalize ats.toList=tl;cases b <;> dsimp only
  case len=>rcases al with _ | ⟨s,_ | ⟨x,al⟩⟩ <;> rcases tl with _ | ⟨T,_ | ⟨U,tl⟩⟩ <;> first | exact hlen _ _ _ | exact DY _
  case append=>
   rcases al with _ | ⟨s,_ | ⟨x,_ | ⟨y,al⟩⟩⟩ <;> rcases tl with _ | ⟨T,_ | ⟨U,_ | ⟨V,tl⟩⟩⟩ <;> (try exact DY _)
   dsimp only;unfold RV;cases Bm σ s <;> first | exact λ τ hτ=>(Xzd _ _ _ _ _ τ hτ).mono λ y hy=>List.mem_append_left _ hy | exact eA _ _ _ _ _
  case clear=>rcases al with _ | ⟨s,_ | ⟨x,al⟩⟩ <;> rcases tl with _ | ⟨T,_ | ⟨U,tl⟩⟩ <;> first | exact Xlh _ _ | exact DY _
  case copy=>rcases al with _ | ⟨s,_ | ⟨x,_ | ⟨y,al⟩⟩⟩ <;> rcases tl with _ | ⟨T,_ | ⟨U,_ | ⟨V,tl⟩⟩⟩ <;> first | exact Xmh _ _ _ _ | exact DY _
  case min=>exact e9 _ _ _
  case max=>exact e9 _ _ _
  all_goals exact DY _
 | value f=>
  unfold Nq;dsimp only;split
  ·rename_i fn ds OD;rw [OD];split
   ·split
    ·split
     ·rename_i l σ1 hl;split
      ·rename_i r hr;refine wJ ?_;rintro _ ⟨x,_,rfl⟩;refine ((uH (iH hl)).trans (tE _ _)).trans ((wK _ _ _).mono λ y hy=>?_);rcases List.mem_append.1 hy with hy | hy
       ·exact List.mem_append_left _ hy
       ·exact List.mem_append_right _ (List.mem_append_right _ hy)
      ·exact DY _
     ·exact DY _
    ·exact DY _
   ·exact DY _
  ·rename_i fn ps OD;rw [OD];split
   ·split
    ·split
     ·rename_i l σ1 cs hl CM;split
      ·rename_i r hr;refine wJ ?_;rintro _ ⟨x,_,rfl⟩;refine ((uH (iH hl)).trans (tE _ _)).trans ((wK _ _ _).mono λ y hy=>?_);rw [AA] at hy;exact hy
      ·exact DY _
     ·exact DY _
    ·exact DY _
   ·exact DY _
  ·exact DY _
 | _=>exact DY _
theorem Zz3:Ks (wr E σ o) σ (EP E σ o):=by
 by_cases hp:O5 E o=true
 ·by_cases TV:∀ c x y,o.op≠ .pick c x y
  ·have h1:=js (E:=E) hp TV (ρ:=σ) rfl (uI _ _);intro σ' h;have h2:=Step.lX (ρ:=σ) (o:=o) h;rw [<- h1] at h2;rw [Step.iI h h2];exact (kept_refl _ _).set _ _ _ _
  ·have:∃ c x y,o.op = .pick c x y:=by
    by_cases h:∃ c x y,o.op = .pick c x y
    ·exact h
    ·exact absurd (λ c x y he=>h ⟨c,x,y,he⟩) TV
   obtain ⟨c,x,y,ho⟩:=this;unfold EP;rw [ho];exact DY _
 ·unfold O5 at hp;unfold EP wr;cases ho:o.op <;> rw [ho] at hp <;> (try dsimp only) <;> (try (exact absurd rfl hp)) <;> (try (exact DY _))
  case move x=>
   refine uG ?_;cases hb:(IC E o.dst && OZ x) with
   | true=>rfl
   | false=>exact absurd (show (!(IC E o.dst && OZ x))=true by rw [hb];rfl) hp
  case assign x=>
   refine uG ?_;cases hb:(IC E o.dst && OZ x) with
   | true=>rfl
   | false=>exact absurd (show (!(IC E o.dst && OZ x))=true by rw [hb];rfl) hp
  case alloc T=>
   unfold Rr;split
   ·rename_i d hd;split
    ·rw [hd];exact go_kept (N0 _)
    ·split
     ·rw [hd];exact go_kept (N0 _)
     ·exact DY _
   ·exact DY _
  case box T x=>
   unfold RQ;split
   ·rename_i d hd;split
    ·split
     ·unfold cX;rw [hd];split <;> first | exact go_kept (N0 _) | exact iJ (go_kept (N0 _))
     ·exact DY _
    ·exact DY _
   ·exact DY _
  case convert s d x=>
   have hb:IC E o.dst=true:=by
    cases hq:IC E o.dst with
    | true=>rfl
    | false=>exact absurd (show (!IC E o.dst)=true by rw [hq];rfl) hp
   rw [hb];unfold MA
   (repeat' split) <;> first | exact DY _ | exact UD _ _ | (rename_i d' _ hd _ ;rw [hd];exact go_kept (N0 _)) | (rename_i hd _;rw [hd];exact go_kept (N0 _)) | exact go_kept (kept_refl _ _)
  case buildSlice T n ps=>
   unfold Q3;split
   ·rename_i d e _ _;split
    ·split
     ·cases E.lit d with
      | true=>exact go_kept (kept_refl _ _)
      | false=>exact go_kept (WB _ _ _)
     ·exact DY _
    ·exact DY _
   ·exact DY _
  case makeFunc fn p q=>
   cases fn with
   | func f=>
    dsimp only;split
    ·cases IC E o.dst with
     | true=>
      dsimp only [cond];split
      ·exact UD _ _
      ·exact DY _
     | false=>
      dsimp only [cond];split
      ·rename_i ds σ1 hq;exact go_kept (uF hq)
      ·exact DY _
    ·exact DY _
   | _=>exact DY _
  case makeSlice T x y=>
   unfold Sr;split
   ·rename_i d e k n g k2 m g2 hd _ _ _;split
    ·rw [hd];exact go_kept (N0 _)
    ·split
     ·cases E.bx d with
      | true=>rw [hd];exact go_kept (N0 _)
      | false=>exact go_kept (WB _ _ _)
     ·exact DY _
   ·exact DY _
  case store T a x=>
   unfold Rq;split
   ·rename_i id ver off ha;rw [show FM (Bm σ a)=[id] by rw [ha];rfl]
    (repeat' split) <;> first | exact DY _ | exact go_kept (Q5 _) | exact iJ (go_kept (Q5 _))
   ·rename_i id ver i off ha;rw [show FM (Bm σ a)=[id] by rw [ha];rfl]
    (repeat' split) <;> first | exact DY _ | exact go_kept (Q5 _) | exact iJ (go_kept (Q5 _))
   ·exact DY _
  case call c=>
   have:=Zy3 (E:=E) (σ:=σ) ho;unfold wr at this;rw [ho] at this;exact this
theorem wL (h:F0 E ops o σ σ'):Kept (wr E σ o) σ σ':=by
 have hs:∀ a,Kept (wr E σ o) σ (σ.Ce o.dst a):=λ a=>(kept_refl _ _).set _ _ _ _
 have h1:Jy E σ o σ'->Kept (wr E σ o) σ σ':=λ h=>by
  unfold Jy at h;split at h
  ·obtain ⟨t,gs,_,rfl⟩:=h;exact hs _
  ·exact Zz3 _ h
 unfold F0 at h;split at h
 ·exact h1 h
 ·split at h
  ·subst h;exact hs _
  ·split at h
   ·subst h;exact hs _
   ·split at h
    ·exact h1 h
    ·subst h;exact hs _
   ·exact h.elim
theorem dB (h:F0 E ops o σ σ'):σ'.t=FU σ.t o.dst (dv σ' o.dst):=by
 have hs:∀ a,(σ.Ce o.dst a).t=FU σ.t o.dst (dv (σ.Ce o.dst a) o.dst):=λ a=>by
  cases o.dst with
  | none=>rfl
  | some d=>show EO σ.t d a=EO σ.t d (EO σ.t d a d);rw [Z5]
 have h1:Jy E σ o σ'->σ'.t=FU σ.t o.dst (dv σ' o.dst):=λ h=>by
  unfold Jy at h;split at h
  ·obtain ⟨t,gs,_,rfl⟩:=h;exact hs _
  ·have h2:=wM (E:=E) (σ:=σ) (o:=o) (t':=σ.t) λ _ _=>rfl
   have h3:=Step.Zeh (t':=σ.t) (d:=o.dst) h;rw [<- h2] at h3;have h4:=Step.iI h h3;exact congrArg St.t h4
 unfold F0 at h;split at h
 ·exact h1 h
 ·split at h
  ·subst h;exact hs _
  ·split at h
   ·subst h;exact hs _
   ·split at h
    ·exact h1 h
    ·subst h;exact hs _
   ·exact h.elim
theorem UL {t:Nat->AV} {d:Option Nat} {a:AV} {i:Nat} (h:d≠some i):FU t d a i=t i:=by
 cases d with
 | none=>rfl
 | some d=>show EO t d a i=t i;rw [B5,if_neg λ e=>h (by rw [e])]
theorem iK {t:Nat->AV} {d e:Option Nat} {a b:AV} (h:∀ i,d=some i->e≠some i):FU (FU t d a) e b=FU (FU t e b) d a:=by
 funext i;cases d with
 | none=>rfl
 | some d=>
  cases e with
  | none=>rfl
  | some e=>
   have Cg:d≠e:=λ he=>h d rfl (by rw [he])
   show EO (EO t d a) e b i=EO (EO t e b) d a i;simp only [B5];by_cases h1:i=e
   ·rw [if_pos h1,if_neg Ad,if_pos h1]
   ·rw [if_neg h1,if_neg h1]
theorem M4 (E:Env) (h:∀ d∈o.looksAt ops,ρ.t d = σ.t d):reads ρ o=reads σ o/\wr E ρ o=wr E σ o:=by
 have MZ:∀ x∈o.op.operands,Bm ρ x=Bm σ x:=λ x hx=>by
  cases x with
  | tmp d=>exact h d (List.mem_append_left _ (List.mem_filterMap.2 ⟨.tmp d,by simpa using hx,rfl⟩))
  | _=>unfold Bm;split <;> simp_all
 constructor
 ·unfold reads;have:∀ (l:List Operand),(∀ x∈l,Bm ρ x=Bm σ x)->(l.flatMap λ x=>FM (Bm ρ x))=l.flatMap λ x=>FM (Bm σ x):=λ l=>by
   induction l with
   | nil=>intro _;rfl
   | cons x l ih=>intro hl;rw [List.flatMap_cons,List.flatMap_cons,hl x (AI ..),ih λ y hy=>hl y (AP _ hy)]
  exact this o.op.operands.toList λ x hx=>MZ x (by simpa using hx)
 ·have GD:∀ (f:AV->List Nat) (l:List Operand),(∀ x∈l,Bm ρ x=Bm σ x)->(l.flatMap λ x=>f (Bm ρ x))=l.flatMap λ x=>f (Bm σ x):=λ f l=>by
   induction l with
   | nil=>intro _;rfl
   | cons x l ih=>intro hl;rw [List.flatMap_cons,List.flatMap_cons,hl x (AI ..),ih λ y hy=>hl y (AP _ hy)]
  unfold wr;cases ho:o.op <;> (try rfl)
  case store T a x=>
   dsimp only;rw [MZ a (by rw [ho];simp [Op.operands])]
  case makeFunc fn p q=>
   dsimp only;exact GD FM q.toList λ x hx=>MZ x (by rw [ho];simp only [Op.operands];exact Array.mem_append.2 (.inr (Array.mem_toList_iff.1 hx)))
  case call c=>
   have C7:∀ x∈c.args.toList,Bm ρ x=Bm σ x:=λ x hx=>MZ x (by rw [ho];simp only [Op.operands];unfold Call.operands;exact Array.mem_append.2 (.inr (Array.mem_toList_iff.1 hx)))
   have OD:∀ f,c.callee = .value f->Bm ρ f=Bm σ f:=λ f hc=>MZ f (by rw [ho];simp only [Op.operands];unfold Call.operands;rw [hc];exact Array.mem_append.2 (.inl Ah))
   clear ho;obtain ⟨cl,as,ats⟩:=c;cases cl with
   | builtin b=>
    dsimp only at C7 ⊢;generalize as.toList=al at C7 ⊢;cases b <;> dsimp only
    all_goals
     cases al with
     | nil=>rfl
     | cons s r=>dsimp only;(try unfold RV);rw [C7 s (List.mem_cons_self ..)]
   | value f=>
    dsimp only;rw [OD f rfl];congr 1;have hai:∀ (ms:List Bool) (l:List Operand),(∀ x∈l,Bm ρ x=Bm σ x)->Gw ρ ms l=Gw σ ms l:=λ ms l=>by
     induction l generalizing ms with
     | nil=>intro _;unfold Gw;rfl
     | cons x l ih=>intro hl;unfold Gw;rw [hl x (AI ..),ih ms.tail λ y hy=>hl y (AP _ hy)]
    unfold uJ;split
    ·exact hai _ _ C7
    ·exact hai _ _ C7
    ·rfl
   | _=>rfl
theorem Kq (σ:St) (d:Option Nat) (a:AV):σ.Ce d a = σ.BU (FU σ.t d a):=by cases d <;> rfl
def RH (o:Oper):Bool:=
 match o.guard,o.op with
 | none, .call c=>match c.callee with
  | .builtin .append=>true
  | _=>false
 | _,_=>false
def Tt (W:List Nat):Bool:=W.all λ y=>!Nat.beq y (2*pid0-1)
theorem wN {σ ρ:St} {d z:Nat}:∀ {g:List Tag},(∀ t∈g,t.id≠0->ρ.r t.id = σ.r t.id)->L1 ρ d z g=L1 σ d z g
 | [],_=>rfl
 | t :: g,h=>by
  unfold L1;rw [wN (g:=g) λ t ht=>h t (AP _ ht)];by_cases h0:t.id=0
  ·rw [if_pos h0,if_pos h0]
  ·rw [if_neg h0,if_neg h0,h t (AI ..) h0]
theorem tF {σ:St} {d z i:Nat}:∀ {g:List Tag},L1 σ d z g=some i->i=CK d 0\/∃ t∈g,t.id≠0/\t.id=i
 | [],h=>by cases h
 | t :: g,h=>by
  unfold L1 at h;split at h
  ·split at h
   ·cases h;exact .inl rfl
   ·rename_i h0;split at h
    ·cases h;exact .inr ⟨t,AI ..,h0,rfl⟩
    ·cases h
  ·rcases tF h with h | ⟨t',ht,he⟩
   ·exact .inl h
   ·exact .inr ⟨t',AP _ ht,he⟩
theorem uK (h:∀ d∈o.looksAt ops,ρ.t d = σ.t d):∀ x∈o.op.operands,Bm ρ x=Bm σ x:=λ x hx=>by
 cases x with
 | tmp d=>exact h d (List.mem_append_left _ (List.mem_filterMap.2 ⟨.tmp d,by simpa using hx,rfl⟩))
 | _=>unfold Bm;split <;> simp_all
theorem Zxz {σ ρ:St} (hc:ρ.c = σ.c) (hv:ρ.v = σ.v) (e:Ty) (x:AV):content ρ e x=content σ e x:=by
 cases x <;> first | rfl | (unfold content;rw [hc,hv])
theorem Ymf {e:Ty} {s:AV} {l:List e.D} (_:s.as (.sl e)=some l):∀ t∈s.tags (.sl e),t.id=0\/MQ t.id∈Qt s:=λ t ht=>by
 cases s with
 | dat u x g=>exact .inr (List.mem_map.2 ⟨t,ht,rfl⟩)
 | nils=>
  have:t=⟨0,0,0,e.sg⟩:=by simpa [AV.tags] using ht
  exact .inl (by rw [this])
 | _=>cases ht
theorem Zfh {E:Env} {T U:Nat} {s x:AV} {σ':St} (h:(KX E T U o σ s x).to σ'):∃ d i v,o.dst=some d/\(i=CK d 0\/MQ i∈Qt s)/\σ'=(σ.C8 i).Ce o.dst v/\
  ∀ ρ:St,ρ.c = σ.c->ρ.v = σ.v->(∀ j,j=CK d 0\/MQ j∈Qt s->ρ.r j = σ.r j)->(KX E T U o ρ s x).to ((ρ.C8 i).Ce o.dst v):=by
 unfold KX at h;split at h
 ·rename_i d e Hq hT;split at h
  ·rename_i l hl;split at h
   ·rename_i i hi;have hm:=Ymf hl;have J7:i=CK d 0\/MQ i∈Qt s:=by
     rcases tF hi with h | ⟨t,ht,Cg,rfl⟩
     ·exact .inl h
     ·rcases hm t ht with h0 | h0
      ·exact absurd h0 Cg
      ·exact .inr h0
    have hrr:∀ ρ:St,(∀ j,j=CK d 0\/MQ j∈Qt s->ρ.r j = σ.r j)->L1 ρ d e.sg (s.tags (.sl e))=some i/\ρ.r i = σ.r i:=λ ρ hρ=>
     ⟨(wN λ t ht Cg=>by
      rcases hm t ht with h0 | h0
      ·exact absurd h0 Cg
      ·exact hρ _ (.inr h0)).trans hi,hρ i J7⟩
    split at h
    ·rename_i hU;split at h
     ·rename_i l2 KJ;split at h
      ·rename_i y gs hx;obtain ⟨h1,h2⟩:=h;refine ⟨d,i,_,Hq,J7,h2,λ ρ hc hv hρ=>?_⟩;obtain ⟨h3,h4⟩:=hrr ρ hρ;unfold KX;rw [Hq,hT];dsimp only;rw [hl];dsimp only;rw [h3];dsimp only;rw [hU];dsimp only;refine ⟨h1,?_⟩;rw [h4]
      ·exact h.elim
     ·exact h.elim
    ·rename_i e2 hU;split at h
     ·rename_i y hy;obtain ⟨h1,h2⟩:=h;refine ⟨d,i,_,Hq,J7,h2,λ ρ hc hv hρ=>?_⟩;obtain ⟨h3,h4⟩:=hrr ρ hρ;unfold KX;rw [Hq,hT];dsimp only;rw [hl];dsimp only;rw [h3];dsimp only;rw [hU];dsimp only;rw [Zxz hc hv,hy];refine ⟨h1,?_⟩;rw [h4]
     ·exact h.elim
    ·exact h.elim
   ·exact h.elim
  ·exact h.elim
 ·exact h.elim
def RU (I W:List Nat):Bool:=I.all λ x=>W.all λ y=>!Nat.beq x y
theorem Z6 {I W:List Nat} (h:RU I W=true):∀ x∈I,x∉W:=λ x hx hw=>by
 have:=List.all_eq_true.1 (List.all_eq_true.1 h x hx) x hw;simp at this
theorem jO (t:Nat->AV) (ρ:St) (d:Option Nat) (a:AV):FU t d (dv (ρ.Ce d a) d)=FU t d a:=by
 cases d with
 | none=>rfl
 | some d=>show EO t d (EO ρ.t d a d)=_;rw [Z5];rfl
theorem wO {E:Env} {σ':St} (ha:RH o=true) (h:F0 E ops o σ σ') (hn:Tt (wr E σ o)=true):∃ T U s x,wr E σ o=RV σ o s/\s∈o.op.operands/\x∈o.op.operands/\(KX E T U o σ (Bm σ s) (Bm σ x)).to σ'/\
  ∀ ρ ρ':St,Bm ρ s=Bm σ s->Bm ρ x=Bm σ x->(KX E T U o ρ (Bm σ s) (Bm σ x)).to ρ'->F0 E ops o ρ ρ':=by
 unfold RH at ha;split at ha
 ·rename_i c hg ho;split at ha
  ·rename_i hb;unfold F0 at h;rw [hg] at h;dsimp only at h;unfold Jy at h;rw [ho] at h;dsimp only at h;unfold EP at h;rw [ho] at h;dsimp only at h;unfold Nq at h;rw [hb] at h;dsimp only at h;split at h <;> (try contradiction)
   all_goals try exact h.elim
   rename_i b s x T U _ OB LA;have hw:wr E σ o=RV σ o s:=by
    unfold wr;rw [ho];dsimp only;rw [hb];dsimp only;rw [OB]
   have Jf:∀ id ver,Bm σ s≠ .slw id ver:=λ id ver he=>by
    rw [hw] at hn;unfold RV at hn;rw [he] at hn;have:=List.all_eq_true.1 hn (2*pid0-1) (by simp [Qt]);simp at this
   have Zqq:s∈o.op.operands/\x∈o.op.operands:=by
    rw [ho];simp only [Op.operands,Call.operands,hb];exact ⟨Array.mem_append.2 (.inr (by rw [<- Array.mem_toList_iff,OB];simp)),Array.mem_append.2 (.inr (by rw [<- Array.mem_toList_iff,OB];simp))⟩
   refine ⟨T,U,s,x,hw,Zqq.1,Zqq.2,?_,λ ρ ρ' hs hx h'=>?_⟩
   ·split at h
    ·rename_i id ver he;exact absurd he (Jf id ver)
    ·exact h
   ·unfold F0;rw [hg];dsimp only;unfold Jy;rw [ho];dsimp only;unfold EP;rw [ho];dsimp only;unfold Nq;rw [hb];dsimp only;rw [OB,LA];dsimp only;split
    ·rename_i id ver he;rw [hs] at he;exact absurd he (Jf id ver)
    ·rw [hs,hx];exact h'
  ·cases ha
 ·cases ha
theorem Za4 (σ:St) (i j:Nat) (a b:AV) (d e:Option Nat) (h:∀ k,d=some k->e≠some k):(((σ.C8 i).Ce d a).C8 j).Ce e b=(((σ.C8 j).Ce e b).C8 i).Ce d a:=by
 rw [Kq,Kq,Kq,Kq];show St.mk _ _ _ _=St.mk _ _ _ _;have h1:FU (FU σ.t d a) e b=FU (FU σ.t e b) d a:=iK h;have h2:EO (EO σ.r i (σ.r i+1)) j (EO σ.r i (σ.r i+1) j+1)=EO (EO σ.r j (σ.r j+1)) i (EO σ.r j (σ.r j+1) i+1):=by
  funext k;simp only [B5];by_cases Mh:i=j
  ·subst Mh;rfl
  ·by_cases h1:k=i <;> by_cases h2:k=j <;> simp_all
   all_goals (first | rfl | (intro h;exact absurd h.symm Mh) | skip)
 exact congr (congrArg (λ t=>St.mk t σ.c σ.v) h1) h2
theorem Ynf {E:Env} {i j:Oper} {σ σ1 σ2:St} (fq:i.apart ops j=true) (hj:F0 E ops j σ σ1) (hi:F0 E ops i σ1 σ2)
  (h1:RH i=true) (h2:RH j=true) (h3:RU (wr E σ1 i) (wr E σ j)=true) (h4:Tt (wr E σ1 i)=true) (h5:Tt (wr E σ j)=true):
  ∃ ρ,F0 E ops i σ ρ/\F0 E ops j ρ σ2/\reads σ i=reads σ1 i/\wr E σ i=wr E σ1 i/\reads ρ j=reads σ j/\wr E ρ j=wr E σ j:=by
 obtain ⟨a1,a2,a3⟩:=Oper.apart_spec fq;have TF:=dB hj;have Gs:=dB hi;have ci:∀ d∈i.looksAt ops,σ.t d = σ1.t d:=λ d hd=>by rw [TF,UL λ e=>a3 d e hd]
 have key:∀ ρ:St,ρ.t=FU σ.t i.dst (dv σ2 i.dst)->∀ d∈j.looksAt ops,ρ.t d = σ.t d:=λ ρ hρ d hd=>by rw [hρ,UL λ e=>a1 d e hd]
 obtain ⟨Tj,Uj,sj,xj,wj,osj,oxj,ej,bj⟩:=wO h2 hj h5;obtain ⟨Ti,Ui,si,xi,wi,osi,oxi,ei,bi⟩:=wO h1 hi h4;obtain ⟨dj,rj,vj,hdj,mj,rfl,fj⟩:=Zfh ej;obtain ⟨di,ri,vi,QN,mi,rfl,fi⟩:=Zfh ei;have inI:∀ k,k=CK di 0\/MQ k∈Qt (Bm ((σ.C8 rj).Ce j.dst vj) si)->MQ k∈wr E ((σ.C8 rj).Ce j.dst vj) i:=λ k hk=>by
  rw [wi];unfold RV;rcases hk with rfl | hk
  ·exact List.mem_append_right _ (List.mem_append_right _ (by rw [QN];simp))
  ·exact List.mem_append_right _ (List.mem_append_left _ hk)
 have inJ:∀ k,k=CK dj 0\/MQ k∈Qt (Bm σ sj)->MQ k∈wr E σ j:=λ k hk=>by
  rw [wj];unfold RV;rcases hk with rfl | hk
  ·exact List.mem_append_right _ (List.mem_append_right _ (by rw [hdj];simp))
  ·exact List.mem_append_right _ (List.mem_append_left _ hk)
 have Cg:∀ k l,MQ k∈wr E ((σ.C8 rj).Ce j.dst vj) i->MQ l∈wr E σ j->k≠l:=λ k l hk hl he=>by
  subst he;exact Z6 h3 _ hk hl
 have rr:∀ (τ:St) (m k:Nat) (d:Option Nat) (a:AV),k≠m->((τ.C8 m).Ce d a).r k = τ.r k:=λ τ m k d a hk=>by
  rw [Kq];show EO τ.r m _ k=_;rw [B5,if_neg hk]
 have cc:∀ (τ:St) (m:Nat) (d:Option Nat) (a:AV),((τ.C8 m).Ce d a).c = τ.c:=λ τ m d a=>by rw [Kq];rfl
 have vv:∀ (τ:St) (m:Nat) (d:Option Nat) (a:AV),((τ.C8 m).Ce d a).v = τ.v:=λ τ m d a=>by rw [Kq];rfl
 have tt:∀ (τ:St) (m:Nat) (d:Option Nat) (a:AV),((τ.C8 m).Ce d a).t=FU τ.t d a:=λ τ m d a=>by rw [Kq];rfl
 have g1:=fi σ (cc _ _ _ _).symm (vv _ _ _ _).symm λ k hk=>(rr _ _ _ _ _ (Cg k rj (inI k hk) (inJ rj mj))).symm
 have Zao:=uK ci;have G1:=bi σ _ (Zao _ osi) (Zao _ oxi) g1;have hρt:((σ.C8 ri).Ce i.dst vi).t=FU σ.t i.dst (dv ((((σ.C8 rj).Ce j.dst vj).C8 ri).Ce i.dst vi) i.dst):=by
  rw [tt,jO]
 have kl:=key _ hρt;have Zgh:=uK kl;have g2:=fj ((σ.C8 ri).Ce i.dst vi) (cc _ _ _ _) (vv _ _ _ _) λ k hk=>rr _ _ _ _ _ (Ne.symm (Cg ri k (inI ri mi) (inJ k hk)))
 have G2:=bj _ _ (Zgh _ osj) (Zgh _ oxj) g2;rw [Za4 σ ri rj vi vj i.dst j.dst a2] at G2;exact ⟨_,G1,G2,(M4 E ci).1,(M4 E ci).2,(M4 E kl).1,(M4 E kl).2⟩
theorem swap {i j:Oper} {σ σ1 σ2:St} (fq:i.apart ops j=true) (hj:F0 E ops j σ σ1) (hi:F0 E ops i σ1 σ2)
  (pR:((O5 E i=true/\RU (reads σ1 i) (wr E σ j)=true)\/(O5 E j=true/\RU (reads σ j) (wr E σ1 i)=true))\/(RH i=true/\RH j=true/\RU (wr E σ1 i) (wr E σ j)=true/\Tt (wr E σ1 i)=true/\Tt (wr E σ j)=true)):
  ∃ ρ,F0 E ops i σ ρ/\F0 E ops j ρ σ2/\reads σ i=reads σ1 i/\wr E σ i=wr E σ1 i/\reads ρ j=reads σ j/\wr E ρ j=wr E σ j:=by
 obtain ⟨a1,a2,a3⟩:=Oper.apart_spec fq;have TF:=dB hj;have Gs:=dB hi;have ci:∀ d∈i.looksAt ops,σ.t d = σ1.t d:=λ d hd=>by rw [TF,UL λ e=>a3 d e hd]
 have key:∀ ρ:St,ρ.t=FU σ.t i.dst (dv σ2 i.dst)->∀ d∈j.looksAt ops,ρ.t d = σ.t d:=λ ρ hρ d hd=>by rw [hρ,UL λ e=>a1 d e hd]
 rcases pR with (⟨hp,VD⟩ | ⟨hp,VD⟩) | ⟨h1,h2,h3,h4,h5⟩
 ·obtain ⟨e1,st⟩:=wP hp hi;have hk:=wL hj;have n1:IX (reads σ1 i) σ1 (σ.BU σ1.t):=λ id hid=>
   ⟨(hk id (Z6 VD id hid)).1.symm,(hk id (Z6 VD id hid)).2.symm⟩
  have g1:=st (σ.BU σ1.t) rfl n1;have g2:=aX (σ:=σ.BU σ1.t) (t':=σ.t) ci g1;rw [jO] at g2;have e2:(St.Ce (σ.BU σ1.t) i.dst (dv σ2 i.dst)).BU (FU σ.t i.dst (dv σ2 i.dst)) = σ.Ce i.dst (dv σ2 i.dst):=by
   rw [Kq,Kq];rfl
  rw [e2] at g2;have hρt:(σ.Ce i.dst (dv σ2 i.dst)).t=FU σ.t i.dst (dv σ2 i.dst):=by rw [Kq];rfl
  refine ⟨_,g2,?_,(M4 E ci).1,(M4 E ci).2,(M4 E (key _ hρt)).1,(M4 E (key _ hρt)).2⟩;have g3:=aX (t':=FU σ.t i.dst (dv σ2 i.dst)) (λ d hd=>UL λ e=>a1 d e hd) hj;rw [Kq];rw [iK a2,<- TF] at g3;have e7:σ2 = σ1.BU (FU σ1.t i.dst (dv σ2 i.dst)):=e1.trans (Kq _ _ _);rw [<- e7] at g3;exact g3
 ·obtain ⟨e1,st⟩:=wP hp hj;have hk:=wL hi;have g1:=aX (t':=σ.t) ci hi;have e3:σ1.BU σ.t = σ:=by rw [e1,Kq];rfl
  rw [e3] at g1;refine ⟨_,g1,?_,(M4 E ci).1,(M4 E ci).2,(M4 E (key _ rfl)).1,(M4 E (key _ rfl)).2⟩;have n1:IX (reads σ j) σ (σ2.BU σ.t):=λ id hid=>by
   have:=hk id (Z6 VD id hid);have e4:σ1.v = σ.v:=by rw [e1,Kq];rfl
   have e5:σ1.c = σ.c:=by rw [e1,Kq];rfl
   rw [e4,e5] at this;exact this
  have g2:=st (σ2.BU σ.t) rfl n1;have g3:=aX (σ:=σ2.BU σ.t) (t':=FU σ.t i.dst (dv σ2 i.dst)) (λ d hd=>UL (t:=σ.t) λ e=>a1 d e hd) g2;rw [jO] at g3;rw [iK a2,<- TF,<- Gs] at g3;have e6:(St.Ce (σ2.BU σ.t) j.dst (dv σ1 j.dst)).BU σ2.t = σ2:=by rw [Kq];rfl
  rw [e6] at g3;exact g3
 ·exact Ynf fq hj hi h1 h2 h3 h4 h5
end
end Go.AM
end

section
/- Regions whose order is drawn. -/
namespace Go.AM
open Go.RowKit (Below)
set_option linter.unusedSectionVars false
variable [Lay]
abbrev Ft:=Nat×List Nat×List Nat
section
variable {R : Type}
def fm (E:Env) (ops:Array Oper):List Oper->Nat->St->List Ft->(List Ft->St->Option R)->Option R
 | [],_,σ,acc,k=>k acc σ
 | o :: r,i,σ,acc,k=>eL E ops o σ λ σ'=>fm E ops r (i+1) σ' ((i,reads σ o,wr E σ o) :: acc) k
def bO (ops:Array Oper) (l:List Nat) (i:Nat):Nat:=
 match ops[i]? with
 | none=>0
 | some o=>o.after.toList.foldl (λ m e=>bif Region.binds .any e then m ||| (2 ^ e.on ||| l.getD e.on 0) else m) 0
def Og (ops:Array Oper):Nat->List Nat
 | 0=>[]
 | k+1=>let l:=Og ops k;l++[bO ops l k]
def Vk (M:List Nat) (j i:Nat):Bool:=(M.getD i 0).testBit j
def VB (E:Env) (ops:Array Oper) (y x:Ft):Bool:=
 match ops[y.1]?,ops[x.1]? with
 | some j,some i=>i.apart ops j && (((O5 E i && RU x.2.1 y.2.2) || (O5 E j && RU y.2.1 x.2.2)) || (RH i && (RH j && (RU x.2.2 y.2.2 && (Tt x.2.2 && Tt y.2.2)))))
 | _,_=>false
def YK (E:Env) (ops:Array Oper) (M:List Nat):List Ft->Bool
 | []=>true
 | x :: r=>(r.all λ y=>Vk M y.1 x.1 || VB E ops y x) && YK E ops M r
def dA (ops:Array Oper):Bool:=(List.range ops.size).all λ i=>match ops[i]? with
 | some o=>o.after.toList.all λ e=>!Region.binds .any e || decide (e.on<i)
 | none=>true
def JP (E:Env) (ops:Array Oper) (σ:St) (k:St->Option R):Option R:=
 bif dA ops then fm E ops ops.toList 0 σ [] λ acc τ=>bif YK E ops (Og ops ops.size) acc then k τ else none
 else none
end
def O6 (E:Env) (ops:Array Oper):List Ft->St->St->Prop
 | [],σ,τ=>τ = σ
 | x :: r,σ,τ=>∃ o σ1,ops[x.1]? = some o/\reads σ o=x.2.1/\wr E σ o=x.2.2/\F0 E ops o σ σ1/\O6 E ops r σ1 τ
section
variable {P : Program} {B : Bd} {ok0 : Nat -> Nat -> Prop} {w0 w w' : World} {g g' : G} {σ σ1 τ : St} {a : Act} {E : Env} {ops : Array Oper} {R : Type}
theorem O6.append {E:Env} {ops:Array Oper}:∀ {l m:List Ft} {σ τ υ:St},O6 E ops l σ τ->O6 E ops m τ υ->O6 E ops (l++m) σ υ
 | [],_,_,_,_,h,k=>by cases h;exact k
 | _ :: _,_,_,_,_,⟨o,σ1,h1,h2,h3,h4,h5⟩,k=>⟨o,σ1,h1,h2,h3,h4,h5.append k⟩
theorem wG:∀ {l:List Oper} {i:Nat} {σ σ0:St} {acc:List Ft} {k:List Ft->St->Option R} {r:R},(∀ j,l[j]? = ops[i+j]?)->O6 E ops acc.reverse σ0 σ->acc.reverse.map (·.1)=List.range i->
  fm E ops l i σ acc k=some r->∃ YL τ,O6 E ops YL.reverse σ0 τ/\YL.reverse.map (·.1)=List.range (i+l.length)/\k YL τ = some r
 | [],i,σ,σ0,acc,k,r,_,hc,hr,h=>⟨acc,σ,hc,hr,h⟩
 | o :: l,i,σ,σ0,acc,k,r,hl,hc,hr,h=>by
  obtain ⟨σ1,h1,h2⟩:=wH (k:=λ σ'=>fm E ops l (i+1) σ' ((i,reads σ o,wr E σ o) :: acc) k) h;have ho:ops[i]? = some o:=by simpa using (hl 0).symm
  obtain ⟨YL,τ,h3,h4,h5⟩:=wG (l:=l) (λ j=>by have:=hl (j+1);simpa [Nat.add_assoc,Nat.add_comm 1 j] using this)
   (by rw [List.reverse_cons];exact hc.append ⟨o,σ1,ho,rfl,rfl,h1,rfl⟩) (by rw [List.reverse_cons,AG,hr,List.range_succ];rfl) h2
  exact ⟨YL,τ,h3,by rw [h4,Aw];congr 1;omega,h5⟩
theorem tC:∀ {pre:List Ft} {x:Ft} {post:List Ft} {σ τ:St},(∀ y∈pre,VB E ops y x=true)->O6 E ops (pre++x :: post) σ τ->O6 E ops (x :: (pre++post)) σ τ
 | [],_,_,_,_,_,h=>h
 | y :: pre,x,post,σ,τ,hi,⟨j,σ1,h1,h2,h3,h4,h5⟩=>by
  obtain ⟨i,σ2,k1,k2,k3,k4,k5⟩:=tC (λ z hz=>hi z (AP _ hz)) h5;have Pu:=hi y (AI ..);unfold VB at Pu;rw [h1,k1] at Pu;simp only [Bool.and_eq_true,Bool.or_eq_true] at Pu;rw [<- h2,<- h3,<- k2,<- k3] at Pu;obtain ⟨ρ,g1,g2,e1,e2,e3,e4⟩:=swap Pu.1 h4 k4 Pu.2;exact ⟨i,ρ,k1,e1.trans k2,e2.trans k3,g1,j,σ2,h1,e3.trans h2,e4.trans h3,g2,k5⟩
theorem uE (ops:Array Oper):∀ n,(Og ops n).length=n
 | 0=>rfl
 | n+1=>by unfold Og;simp [uE ops n]
theorem Z4 (ops:Array Oper):∀ n i,i<n->(Og ops n).getD i 0=bO ops (Og ops i) i
 | 0,_,h=>by omega
 | n+1,i,h=>by
  show (Og ops n++[bO ops (Og ops n) n]).getD i 0=_;have hl:=uE ops n;by_cases hi:i<n
  ·have:=Z4 ops n i hi;rw [AK] at this ⊢;rw [AR Ad];exact this
  ·have:i=n:=Ad
   subst this;rw [AK,AJ Ad,hl,Nat.sub_self];rfl
theorem wI (l:List Nat) (j:Nat):∀ (es:List Edge) (m:Nat),(es.foldl (λ m e=>bif Region.binds .any e then m ||| (2 ^ e.on ||| l.getD e.on 0) else m) m).testBit j=true->
  m.testBit j=true\/∃ e∈es,Region.binds .any e=true/\(e.on=j\/(l.getD e.on 0).testBit j=true)
 | [],m,h=> .inl h
 | e :: es,m,h=>by
  rw [List.foldl_cons] at h;rcases wI l j es _ h with h | ⟨e',QL,h'⟩
  ·cases hb:Region.binds .any e with
   | false=>rw [hb] at h;exact .inl h
   | true=>
    rw [hb] at h;simp only [Ak,Nat.testBit_or,Bool.or_eq_true] at h;rcases h with h | h | h
    ·exact .inl h
    ·rw [Nat.testBit_two_pow] at h;exact .inr ⟨e,AI ..,hb, .inl (by simpa using h)⟩
    ·exact .inr ⟨e,AI ..,hb, .inr h⟩
  ·exact .inr ⟨e',AP _ QL,h'⟩
theorem Zvw {L:Nat->Bool} {n:Nat} (hb:dA ops=true) (hn:n=ops.size) (fp:∀ m o,ops[m]? = some o->L m=true->∀ e∈o.after.toList,Region.binds .any e=true->L e.on=true):
  ∀ i o,ops[i]? = some o->(∀ e∈o.after.toList,Region.binds .any e=true->L e.on=true)->∀ j,Vk (Og ops n) j i=true->L j=true:=by
 intro i;induction i using Nat.strongRecOn with
 | _ i ih=>
  intro o ho hp j hj;have hi:i<ops.size:=(Array.getElem?_eq_some_iff.1 ho).1;unfold Vk at hj;rw [Z4 ops n i Ad] at hj;unfold bO at hj;rw [ho] at hj;rcases wI _ j _ 0 hj with h | ⟨e,he,PB,h⟩
  ·simp at h
  ·have AY:e.on<i:=by
    have:=List.all_eq_true.1 hb i (List.mem_range.2 hi);rw [ho] at this;have:=List.all_eq_true.1 this e he;rw [PB] at this;simpa using this
   rcases h with h | h
   ·subst h;exact hp e he PB
   ·rw [Z4 ops i e.on AY] at h;obtain ⟨o',PC⟩:∃ o',ops[e.on]? = some o':=⟨ops[e.on],Array.getElem?_eq_getElem Ad⟩;exact ih e.on AY o' PC (fp e.on o' PC (hp e he PB)) j (by unfold Vk;rw [Z4 ops n e.on Ad];exact h)
theorem Yg6 (hE:EnvOk P E) (hC:Ib P E) {Q:Exit->Act->World->Prop} (hb:dA ops=true):∀ (fuel:Nat) (l:List Ft) (listed:Array Bool) (σ:St) (g:G) (a:Act) (w:World),
  l.length=fuel->l.Pairwise (λ x y=>x.1<y.1)->(∀ x∈l,x.1<ops.size)->listed.size=ops.size->(∀ i,i<ops.size->(listed.getD i true=false↔∃ x∈l,x.1=i))->
  (∀ m o,ops[m]? = some o->listed.getD m false=true->∀ e∈o.after.toList,Region.binds .any e=true->listed.getD e.on false=true)->
  l.Pairwise (λ y x=>Vk (Og ops ops.size) y.1 x.1=true\/VB E ops y x=true)->
  O6 E ops l σ τ->Inv B ok0 w0 g σ a w->Ye a.tmps.size ops=true->
  (∀ g' a' w',Inv B ok0 w0 g' τ a' w'->a'.tmps.size=a.tmps.size->Q .normal a' w')->wpAny P .any ops Q fuel listed a w:=by
 have rd:∀ (listed:Array Bool) i,listed.size=ops.size->i<ops.size->listed.getD i true=listed.getD i false:=λ listed i hs hi=>by
  have hi':i<listed.size:=Ad
  simp [hi']
 intro fuel;induction fuel with
 | zero=>
  intro l listed σ g a w hlen _ _ BL QR _ _ KQ hI _ hq;have:l=[]:=AU hlen;subst this;cases KQ;refine ⟨?_,hq g a w hI rfl⟩;unfold Region.ready;rw [List.filter_eq_nil_iff];intro i hi hc;simp only [Bool.and_eq_true,Bool.not_eq_true'] at hc;obtain ⟨x,hx,_⟩:=(QR i (List.mem_range.1 hi)).1 hc.1;cases hx
 | succ fuel ih=>
  intro l listed σ g a w hlen Yf AY BL QR fp hpw KQ hI Dc hq;constructor
  ·intro hr;exfalso;cases l with
   | nil=>simp at hlen
   | cons x l=>
    have hx:=AY x (AI ..);have hm:x.1∈Region.ready .any ops listed:=by
     refine mem_ready.2 ⟨(QR x.1 hx).2 ⟨x,AI ..,rfl⟩,ops[x.1],Array.getElem?_eq_getElem hx,λ e he PB=>?_⟩;have QL:e.on<x.1:=by
      have:=List.all_eq_true.1 hb x.1 (List.mem_range.2 hx);rw [Array.getElem?_eq_getElem hx] at this;have:=List.all_eq_true.1 this e (by simpa using he);rw [PB] at this;simpa using this
     rw [<- rd listed e.on BL Ad];cases hv:listed.getD e.on true with
     | true=>rfl
     | false=>
      obtain ⟨y,hy,hye⟩:=(QR e.on Ad).1 hv;rcases List.mem_cons.1 hy with rfl | hy
      ·omega
      ·have:=List.rel_of_pairwise_cons Yf hy;omega
    rw [hr] at hm;cases hm
  ·intro i hi;obtain ⟨VY,oi,VZ,ML⟩:=mem_ready.1 hi;have Zoq:i<ops.size:=(Array.getElem?_eq_some_iff.1 VZ).1;obtain ⟨x,hx,hxi⟩:=(QR i Zoq).1 VY;obtain ⟨pre,post,rfl⟩:=List.append_of_mem hx;subst hxi;have pR:∀ y∈pre,VB E ops y x=true:=λ y hy=>by
    have:=(List.pairwise_append.1 hpw).2.2 y hy x (AI ..);rcases this with h | h
    ·exfalso;have Iv:=AY y (List.mem_append_left _ hy);have h1:=Zvw (L:=λ m=>listed.getD m false) hb rfl fp x.1 oi VZ (λ e he PB=>ML e (by simpa using he) PB) y.1 h;have h2:=(QR y.1 Iv).2 ⟨y,List.mem_append_left _ hy,rfl⟩;rw [rd listed y.1 BL Iv] at h2;simp only [h2] at h1;cases h1
    ·exact h
   obtain ⟨o,σ1,k1,_,_,k4,k5⟩:=tC pR KQ;rw [VZ] at k1;cases k1;unfold wpOp;rw [VZ];dsimp only;have J5:(pre++post).Sublist (pre++x :: post):=List.Sublist.append_left (List.sublist_cons_self ..) _;have ez:∀ y∈pre++post,y.1≠x.1:=λ y hy he=>by
    rw [List.pairwise_append] at Yf;rcases List.mem_append.1 hy with hy | hy
    ·have:=Yf.2.2 y hy x (AI ..);omega
    ·have:=List.rel_of_pairwise_cons Yf.2.1 hy;omega
   refine k4.wp hE hC hI (λ d hd=>tD Dc oi (by rw [Array.mem_toList_iff];exact Array.mem_of_getElem? VZ) d hd) λ g' a' w' CG hs=>?_
   refine ih (pre++post) (listed.setIfInBounds x.1 true) σ1 g' a' w' ?_ (Yf.sublist J5) (λ y hy=>AY y (J5.subset hy)) (by simp [BL]) ?_ ?_ (hpw.sublist J5) k5 CG (by rw [hs];exact Dc) λ g2 a2 w2 F4 QO=>hq g2 a2 w2 F4 (QO.trans hs)
   ·simp only [Ap,Aw] at hlen ⊢;omega
   ·intro j hj;by_cases qF:j=x.1
    ·subst qF;have:(listed.setIfInBounds x.1 true).getD x.1 true=true:=by simp [BL,Zoq]
     rw [this];constructor
     ·intro h;cases h
     ·rintro ⟨y,hy,hye⟩;exact absurd hye (ez y hy)
    ·rw [getD_set_ne true (Ne.symm qF),QR j hj];constructor
     ·rintro ⟨y,hy,rfl⟩;refine ⟨y,?_,rfl⟩;rcases List.mem_append.1 hy with hy | hy
      ·exact List.mem_append_left _ hy
      ·rcases List.mem_cons.1 hy with rfl | hy
       ·exact absurd rfl qF
       ·exact List.mem_append_right _ hy
     ·rintro ⟨y,hy,rfl⟩;exact ⟨y,J5.subset hy,rfl⟩
   ·intro m o' PC hm e he PB;by_cases Ds:m=x.1
    ·subst Ds;rw [VZ] at PC;cases PC;exact getD_set_true (ML e (by simpa using he) PB)
    ·rw [getD_set_ne false (Ne.symm Ds)] at hm;exact getD_set_true (fp m o' PC hm e he PB)
theorem Zxu {l:List Ft} {M:List Nat}:YK E ops M l=true->l.reverse.Pairwise (λ y x=>Vk M y.1 x.1=true\/VB E ops y x=true):=by
 induction l with
 | nil=>intro _;exact List.Pairwise.nil
 | cons x l ih=>
  intro h;unfold YK at h;rw [Bool.and_eq_true] at h;rw [List.reverse_cons,List.pairwise_append];refine ⟨ih h.2,List.pairwise_singleton _ _,λ y hy z hz=>?_⟩;cases List.mem_singleton.1 hz;have:=List.all_eq_true.1 h.1 y (List.mem_reverse.1 hy);simpa using this
theorem Zyn (hE:EnvOk P E) (hC:Ib P E) (hm:P.follows .mixedOrders=true) (n:Nat):pS P B ok0 w0 R n (JP E):=by
 intro ops σ k r id Q g a w hn h hI hs hq;unfold JP at h;cases hb:dA ops with
 | false=>rw [hb] at h;cases h
 | true=>
  rw [hb] at h;obtain ⟨acc,τ,h1,h2,h3⟩:=wG (ops:=ops) (l:=ops.toList) (i:=0) (σ0:=σ) (acc:=[]) (λ j=>by simp) rfl rfl h;cases ho:YK E ops (Og ops ops.size) acc with
  | false=>rw [ho] at h3;cases h3
  | true=>
   rw [ho] at h3;have CG:Inv B ok0 w0 g σ a { w with drawn:=w.drawn+1 }:=hI.grown ⟨rfl,rfl,rfl,Au _,λ _ _=>rfl⟩;have VC:acc.reverse.map (·.1)=List.range ops.size:=by rw [h2];simp
   have J7:∀ i,i<ops.size↔∃ x∈acc.reverse,x.1=i:=λ i=>by
    rw [<- List.mem_range,<- VC,List.mem_map]
   refine wp_region_any hm (Yg6 hE hC hb ops.size acc.reverse _ σ g a _ ?_ ?_ (λ x hx=>(J7 _).2 ⟨x,hx,rfl⟩) Ah (λ i hi=>?_) (λ m o _ hm=>?_) (Zxu ho) h1 CG (by rw [hs];exact hn)
    λ g' a' w' F4 QO=>hq τ h3 g' a' w' F4 (QO.trans hs))
   ·have:=congrArg List.length VC;simpa using this
   ·have:(acc.reverse.map (·.1)).Pairwise (· < ·):=by rw [VC];exact List.pairwise_lt_range
    exact List.pairwise_map.1 this
   ·constructor
    ·intro _;exact (J7 i).1 hi
    ·intro _;simp [hi]
   ·exfalso;by_cases YZ:m<ops.size
    ·simp [YZ] at hm
    ·simp [YZ] at hm
end
end Go.AM
end
