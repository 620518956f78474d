import Derived.Test.YtlamhllcnbcbbaaGreatAmL4
section
/- Operations that only read: what they answer hangs on their operands and on the boxes that these lead to. -/
namespace Go.AM
open Go.RowKit (Below)
set_option linter.unusedSectionVars false
variable [Lay]
def CEq (a b:Option Con):Prop:=a=b∨∃ e l f f',a=some (.arr e l f)∧b=some (.arr e l f')
def idsA:AV→List Nat
  | .ptr id _ _ | .aptr id _ _ _ | .slw id _ | .slm id _ _ _=>[id]
  | .clo _ ps=>ps.map (·.1)
  | _=>[]
def Near (I:List Nat) (σ ρ:St):Prop:=∀ id∈I,ρ.v id = σ.v id∧CEq (σ.c id) (ρ.c id)
def Step.reM (ρ:St) (d:Option Nat):Step→Step
  | .no=> .no
  | .go c σ=> .go c (ρ.setT d (dv σ d))
  | .call α m f=> .call α m fun x=>ρ.setT d (dv (f x) d)
def Ztm (E:Env) (o:Oper):Bool:=
  match o.op with
  | .move x | .assign x=>!(bxAt E o.dst && Zmm x)
  | .buildSlice .. =>match o.dst with
    | some d=>E.lit d
    | none=>false
  | .build .. | .load .. | .nilCheck _ | .binOp .. | .unOp .. | .slice .. | .fieldAddr .. | .field .. | .indexAddr .. | .index .. | .extract .. | .pick .. =>true
  | .convert .. =>!bxAt E o.dst
  | .makeFunc _ _ q=>decide (q.size=0)
  | .call c=>match c.callee with
    | .builtin .len | .builtin .min | .builtin .max=>true
    | _=>false
  | _=>false
section
variable {E : Env} {o : Oper} {σ ρ : St}
theorem Zum (ρ:St) (d:Option Nat) (a:AV):ρ.setT d (dv (σ.setT d a) d) = ρ.setT d a:=by
  cases d with
  | none=>rfl
  | some d=>show ρ.setT (some d) (fset σ.t d a d)=_;rw [Zat]
theorem Zyb (a:AV):put o ρ a=(put o σ a).reM ρ o.dst:=by
  unfold put Step.reM;dsimp only;rw [Zum]
theorem Zrc (c:Bool) (a:AV):chk o c ρ a=(chk o c σ a).reM ρ o.dst:=by
  unfold chk Step.reM;dsimp only;rw [Zum]
theorem Near.head {id:Nat} {I:List Nat} (h:Near (id :: I) σ ρ):ρ.v id = σ.v id∧CEq (σ.c id) (ρ.c id):=h id (List.mem_cons_self ..)
theorem Ze6 (T:Nat) (e:Ty) (l:List e.D) (off:Nat):Znn E T o ρ e l off=(Znn E T o σ e l off).reM ρ o.dst:=by
  unfold Znn
  ((repeat' split) <;> first | rfl | exact Zyb _ | exact Zrc _ _ | (simp_all;done))
theorem Zf6 (m:Nat) (e' e:Ty) (l:List e.D):Zzq o ρ m e' e l=(Zzq o σ m e' e l).reM ρ o.dst:=by
  unfold Zzq
  ((repeat' split) <;> first | rfl | exact Zyb _ | exact Zrc _ _ | (simp_all;done))
theorem Zmn1 {c:Bool} (x:AV) (h:(bxAt E o.dst && c)=false):move' E o ρ c x=(move' E o σ c x).reM ρ o.dst:=by
  unfold move'
  split
  · rename_i d hd
    rw [hd] at h
    simp only [bxAt] at h
    rw [h]
    exact Zyb _
  · exact Zyb _
theorem Zqy2 (T:Nat) (a:AV) (h:Near (idsA a) σ ρ):load' E T o ρ a=(load' E T o σ a).reM ρ o.dst:=by
  unfold load'
  cases a with
  | ptr id ver off=>
    obtain ⟨hv,hc⟩:=h.head
    rcases hc with hc | ⟨e,l,f,f',h1,h2⟩
    · dsimp only;rw [hv,← hc];((repeat' split) <;> first | rfl | exact Zyb _ | exact Zrc _ _ | exact Ze6 _ _ _ _ | exact Zf6 _ _ _ _ | (simp_all;done))
    · dsimp only;rw [hv,h1,h2];(try dsimp only);((repeat' split) <;> first | rfl | exact Zyb _ | exact Zrc _ _ | exact Ze6 _ _ _ _ | exact Zf6 _ _ _ _ | (simp_all;done))
  | aptr id ver i off=>
    obtain ⟨hv,hc⟩:=h.head
    rcases hc with hc | ⟨e,l,f,f',h1,h2⟩
    · dsimp only;rw [hv,← hc];((repeat' split) <;> first | rfl | exact Zyb _ | exact Zrc _ _ | (simp_all;done))
    · dsimp only;rw [hv,h1,h2];(try dsimp only);((repeat' split) <;> first | rfl | exact Zyb _ | exact Zrc _ _ | (simp_all;done))
  | ept t x off=>((repeat' split) <;> first | rfl | exact Zyb _ | exact Zrc _ _ | (simp_all;done))
  | _=>rfl
theorem Zig1 (S f:Nat) (x:AV) (h:Near (idsA x) σ ρ):Zih E S f o ρ x=(Zih E S f o σ x).reM ρ o.dst:=by
  unfold Zih
  split
  · cases x with
    | ptr id ver off=>obtain ⟨hv,hc⟩:=h.head;dsimp only;rw [hv];((repeat' split) <;> first | rfl | exact Zyb _ | exact Zrc _ _ | (simp_all;done))
    | aptr id ver i off=>obtain ⟨hv,hc⟩:=h.head;dsimp only;rw [hv];((repeat' split) <;> first | rfl | exact Zyb _ | exact Zrc _ _ | (simp_all;done))
    | ept t x off=>((repeat' split) <;> first | rfl | exact Zyb _ | exact Zrc _ _ | (simp_all;done))
    | _=>rfl
  · rfl
theorem Zjg1 (T:Nat) (x i:AV) (h:Near (idsA x) σ ρ):Zjh E T o ρ x i=(Zjh E T o σ x i).reM ρ o.dst:=by
  unfold Zjh
  split
  · cases x with
    | ptr id ver off=>
      obtain ⟨hv,hc⟩:=h.head
      cases off with
      | succ n=>rfl
      | zero=>
        show (match E.ar T,ρ.c id with
          | some (n,e),some (.arr e' l _)=>if ρ.v id=ver∧e.sz=e'.sz then chk o (inB _ n && decide (n=List.length (α:=e'.D) l)) ρ (.aptr id ver (Int.toNat _) 0) else .no
          | _,_=> .no)=Step.reM ρ o.dst (match E.ar T,σ.c id with
          | some (n,e),some (.arr e' l _)=>if σ.v id=ver∧e.sz=e'.sz then chk o (inB _ n && decide (n=List.length (α:=e'.D) l)) σ (.aptr id ver (Int.toNat _) 0) else .no
          | _,_=> .no)
        rcases hc with hc | ⟨e,l,f,f',h1,h2⟩
        · rw [hv,← hc];((repeat' split) <;> first | rfl | exact Zyb _ | exact Zrc _ _ | (simp_all;done))
        · rw [hv,h1,h2]
          cases E.ar T with
          | none=>rfl
          | some p=>dsimp only;((repeat' split) <;> first | rfl | exact Zyb _ | exact Zrc _ _ | (simp_all;done))
    | slw id ver=>
      obtain ⟨hv,hc⟩:=h.head
      dsimp only
      rcases hc with hc | ⟨e,l,f,f',h1,h2⟩
      · rw [hv,← hc];((repeat' split) <;> first | rfl | exact Zyb _ | exact Zrc _ _ | (simp_all;done))
      · rw [hv,h1,h2]
        cases E.ty T with
        | none=>rfl
        | some u=>cases u with
          | sl e'=>dsimp only;((repeat' split) <;> first | rfl | exact Zyb _ | exact Zrc _ _ | (simp_all;done))
          | _=>rfl
    | slm id ver lo n=>
      obtain ⟨hv,hc⟩:=h.head
      dsimp only
      rcases hc with hc | ⟨e,l,f,f',h1,h2⟩
      · rw [hv,← hc];((repeat' split) <;> first | rfl | exact Zyb _ | exact Zrc _ _ | (simp_all;done))
      · rw [hv,h1,h2]
        cases E.ty T with
        | none=>rfl
        | some u=>cases u with
          | sl e'=>dsimp only;((repeat' split) <;> first | rfl | exact Zyb _ | exact Zrc _ _ | (simp_all;done))
          | _=>rfl
    | dat t y g=>((repeat' split) <;> first | rfl | exact Zyb _ | exact Zrc _ _ | (simp_all;done))
    | _=>rfl
  · rfl
theorem Znn1 (e:Ty) (x:AV) (h:Near (idsA x) σ ρ):content ρ e x=content σ e x:=by
  unfold content
  cases x with
  | slw id ver=>
    obtain ⟨hv,hc⟩:=h.head
    rcases hc with hc | ⟨e,l,f,f',h1,h2⟩
    · dsimp only;rw [hv,← hc]
    · dsimp only;rw [hv,h1,h2]
  | slm id ver lo n=>
    obtain ⟨hv,hc⟩:=h.head
    rcases hc with hc | ⟨e,l,f,f',h1,h2⟩
    · dsimp only;rw [hv,← hc]
    · dsimp only;rw [hv,h1,h2]
  | _=>rfl
theorem Zma2 (T:Option Ty) (x:AV) (h:Near (idsA x) σ ρ):len' T o ρ x=(len' T o σ x).reM ρ o.dst:=by
  unfold len'
  cases x with
  | slw id ver=>
    obtain ⟨hv,hc⟩:=h.head
    rcases hc with hc | ⟨e,l,f,f',h1,h2⟩
    · dsimp only;rw [hv,← hc];((repeat' split) <;> first | rfl | exact Zyb _ | exact Zrc _ _ | (simp_all;done))
    · dsimp only;rw [hv,h1,h2];(try dsimp only);((repeat' split) <;> first | rfl | exact Zyb _ | exact Zrc _ _ | (simp_all;done))
  | slm id ver lo n=>obtain ⟨hv,hc⟩:=h.head;dsimp only;rw [hv];((repeat' split) <;> first | rfl | exact Zyb _ | exact Zrc _ _ | (simp_all;done))
  | _=>((repeat' split) <;> first | rfl | exact Zyb _ | exact Zrc _ _ | (simp_all;done))
theorem Ztp1 (s d:Nat) (x:AV) (h:Near (idsA x) σ ρ) (hb:bxAt E o.dst=false):Zdh E s d o ρ x=(Zdh E s d o σ x).reM ρ o.dst:=by
  unfold Zdh
  rw [Znn1 _ x h,hb]
  ((repeat' split) <;> first | rfl | exact Zyb _ | exact Zrc _ _ | (simp_all;done))
theorem Zki2 (T:Nat) (x:AV) (lo hi:Option Operand) (ht:ρ.t = σ.t) (h:Near (idsA x) σ ρ):Zco E T o ρ x lo hi=(Zco E T o σ x lo hi).reM ρ o.dst:=by
  have hb:∀ d x,bnd ρ d x=bnd σ d x:=fun d x=>by
    cases x with
    | none=>rfl
    | some y=>unfold bnd;dsimp only;rw [opd_t ht]
  unfold Zco
  simp only [hb]
  cases x with
  | dat t y g=>((repeat' split) <;> first | rfl | exact Zyb _ | exact Zrc _ _ | (simp_all;done))
  | ptr id ver off=>
    obtain ⟨hv,hc⟩:=h.head
    cases off with
    | succ n=>rfl
    | zero=>
      show (match E.ar T,ρ.c id with
        | some (n,e),some (.arr e' s _)=>if ρ.v id=ver∧e.sz=e'.sz then
            match bnd σ 0 lo,bnd σ n hi with
            | some l,some h=>chk o (inC l h n && decide (n=List.length (α:=e'.D) s)) ρ (.slm id ver l.toNat (h.toNat-l.toNat))
            | _,_=> .no
          else .no
        | _,_=> .no)=Step.reM ρ o.dst (match E.ar T,σ.c id with
        | some (n,e),some (.arr e' s _)=>if σ.v id=ver∧e.sz=e'.sz then
            match bnd σ 0 lo,bnd σ n hi with
            | some l,some h=>chk o (inC l h n && decide (n=List.length (α:=e'.D) s)) σ (.slm id ver l.toNat (h.toNat-l.toNat))
            | _,_=> .no
          else .no
        | _,_=> .no)
      rcases hc with hc | ⟨e,l,f,f',h1,h2⟩
      · rw [hv,← hc];((repeat' split) <;> first | rfl | exact Zyb _ | exact Zrc _ _ | (simp_all;done))
      · rw [hv,h1,h2]
        cases E.ar T with
        | none=>rfl
        | some p=>dsimp only;((repeat' split) <;> first | rfl | exact Zyb _ | exact Zrc _ _ | (simp_all;done))
  | slw id ver=>
    obtain ⟨hv,hc⟩:=h.head
    dsimp only
    rcases hc with hc | ⟨e,l,f,f',h1,h2⟩
    · rw [hv,← hc];((repeat' split) <;> first | rfl | exact Zyb _ | exact Zrc _ _ | (simp_all;done))
    · rw [hv,h1,h2]
      cases E.ty T with
      | none=>rfl
      | some u=>cases u with
        | sl e'=>dsimp only;((repeat' split) <;> first | rfl | exact Zyb _ | exact Zrc _ _ | (simp_all;done))
        | _=>rfl
  | slm id ver lo n=>
    obtain ⟨hv,hc⟩:=h.head
    dsimp only
    rcases hc with hc | ⟨e,l,f,f',h1,h2⟩
    · rw [hv,← hc];((repeat' split) <;> first | rfl | exact Zyb _ | exact Zrc _ _ | (simp_all;done))
    · rw [hv,h1,h2]
      cases E.ty T with
      | none=>rfl
      | some u=>cases u with
        | sl e'=>dsimp only;((repeat' split) <;> first | rfl | exact Zyb _ | exact Zrc _ _ | (simp_all;done))
        | _=>rfl
  | _=>rfl
theorem Zzy1 (op:BinOp) (k j:IntKind) (a b:Int):Zkm op o ρ k j a b=(Zkm op o σ k j a b).reM ρ o.dst:=by
  unfold Zkm;((repeat' split) <;> first | rfl | exact Zyb _ | exact Zrc _ _ | (simp_all;done))
theorem Zaz1 (op:BinOp) (a b:ByteArray):Zlm op o ρ a b=(Zlm op o σ a b).reM ρ o.dst:=by
  unfold Zlm;((repeat' split) <;> first | rfl | exact Zyb _ | exact Zrc _ _ | (simp_all;done))
theorem Zli2 (T:Nat) (op:BinOp) (x y:AV):Zbo E T op o ρ x y=(Zbo E T op o σ x y).reM ρ o.dst:=by
  unfold Zbo
  split
  · split
    · exact Zzy1 _ _ _ _ _
    · exact Zaz1 _ _ _
    · split
      · split
        · split
          · exact Zyb _
          · exact Zyb _
          · rfl
        · rfl
      · rfl
  · rfl
theorem Zmi2 (T:Nat) (op:BinOp) (x:AV):errOp E T op o ρ x=(errOp E T op o σ x).reM ρ o.dst:=by
  unfold errOp
  split
  · split
    · exact Zyb _
    · exact Zyb _
    · rfl
  · rfl
end
end Go.AM
end

section
/- Two operations that do not meddle with one another may change places. -/
namespace Go.AM
open Go.RowKit (Below)
set_option linter.unusedSectionVars false
variable [Lay]
def reads (σ:St) (o:Oper):List Nat:=o.op.operands.toList.flatMap fun x=>idsA (opd σ x)
def Zdf1 (E:Env) (σ:St) (f:AV) (xs:List Operand):List Nat:=
  match f with
  | .fn f _=>Zse σ (E.inpl f) xs
  | .clo f _=>Zse σ (E.inpl f) xs
  | _=>[]
def encR (i:Nat):Nat:=2*pid0+i
def rowsA:AV→List Nat
  | .dat _ _ g=>g.map fun t=>encR t.id
  | .slw _ _=>[2*pid0-1]
  | _=>[]
def appW (σ:St) (o:Oper) (s:Operand):List Nat:=idsA (opd σ s)++(rowsA (opd σ s)++(o.dst.map fun d=>encR (rid d 0)).toList)
def wr (E:Env) (σ:St) (o:Oper):List Nat:=
  match o.op with
  | .store _ a _=>idsA (opd σ a)
  | .move x | .assign x=>bif bxAt E o.dst && Zmm x then o.dst.toList else []
  | .call c=>match c.callee with
    | .builtin .append=>match c.args.toList with
      | s :: _=>appW σ o s
      | []=>[]
    | .builtin .clear=>match c.args.toList with
      | s :: _=>idsA (opd σ s)
      | []=>[]
    | .builtin .copy=>match c.args.toList with
      | s :: _=>idsA (opd σ s)
      | []=>[]
    | .value f=>Zdf1 E σ (opd σ f) c.args.toList++(idsA (opd σ f)++o.dst.toList)
    | _=>[]
  | .alloc _ | .box .. | .makeSlice .. =>o.dst.toList
  | .convert .. =>bif bxAt E o.dst then o.dst.toList else []
  | .makeFunc _ _ q=>q.toList.flatMap fun x=>idsA (opd σ x)
  | _=>[]
section
variable {E : Env} {o : Oper} {σ ρ σ' : St} {ops : Array Oper}
theorem Near.sub {I J:List Nat} (h:Near I σ ρ) (hs:∀ x∈J,x∈I):Near J σ ρ:=fun id hid=>h id (hs id hid)
theorem Zla2 {x:Operand} (h:Near (reads σ o) σ ρ) (hx:x∈o.op.operands):Near (idsA (opd σ x)) σ ρ:=
  h.sub fun y hy=>List.mem_flatMap.2 ⟨x,by simpa using hx,hy⟩
theorem Zl7 (hp:Ztm E o=true) (hnp:∀ c x y,o.op≠ .pick c x y) (ht:ρ.t = σ.t) (h:Near (reads σ o) σ ρ):evOp E ρ o=(evOp E σ o).reM ρ o.dst:=by
  have hn:∀ x∈o.op.operands,Near (idsA (opd σ x)) σ ρ:=fun x hx=>Zla2 h hx
  unfold Ztm at hp
  unfold evOp
  cases ho:o.op <;> rw [ho] at hp hn <;> (try dsimp only)
  case move x=>rw [opd_t ht];exact Zmn1 _ (Bool.not_eq_true' _ ▸ hp)
  case assign x=>rw [opd_t ht];exact Zmn1 _ (Bool.not_eq_true' _ ▸ hp)
  case build T ps=>
    split
    · split
      · have:Zaj E T ρ = Zaj E T σ:=by
          funext t ps z g
          have hb:∀ (ps:List (Nat×Operand)) (z:t.D) (g:List Tag),Zaj E T ρ t ps z g=Zaj E T σ t ps z g:=by
            intro ps
            induction ps with
            | nil=>intro z g;rfl
            | cons p ps ih=>intro z g;obtain ⟨f,x⟩:=p;unfold Zaj;rw [opd_t ht];simp only [ih]
          exact hb ps z g
        rw [this]
        split
        · exact Zyb _
        · rfl
      · rfl
    · rfl
  case buildSlice T n ps=>
    unfold Zfi
    cases hdst:o.dst with
    | none=>rfl
    | some d=>
      rw [hdst] at hp
      have hl:E.lit d=true:=hp
      have hb:∀ (e:Ty) (ps:List (Nat×Operand)) (i:Nat),lit' ρ e i ps=lit' σ e i ps:=by
        intro e ps
        induction ps with
        | nil=>intro i;rfl
        | cons p ps ih=>intro i;obtain ⟨j,x⟩:=p;unfold lit';rw [opd_t ht];simp only [ih]
      cases E.ty T with
      | none=>rfl
      | some t=>
        cases t with
        | sl e=>
          dsimp only
          rw [hb]
          split
          · rename_i l _
            split
            · rw [hl]
              have:=Zrc (o:=o) (σ:=σ) (ρ:=ρ) (decide (n*e.sz≤16777216) && true) (.dat (.sl e) l [])
              unfold chk at this
              rw [hdst] at this
              exact this
            · rfl
          · rfl
        | _=>rfl
  case load T x=>rw [opd_t ht];exact Zqy2 T _ (hn x (by simp [Op.operands]))
  case nilCheck x=>
    rw [opd_t ht]
    have hx:=hn x (by simp [Op.operands])
    revert hx
    generalize opd σ x=y
    intro hx
    cases y with
    | ptr id ver off=>obtain ⟨hv,hc⟩:=hx.head;dsimp only;rw [hv];((repeat' split) <;> first | rfl | exact Zyb _ | exact Zrc _ _ | (simp_all;done))
    | aptr id ver i off=>obtain ⟨hv,hc⟩:=hx.head;dsimp only;rw [hv];((repeat' split) <;> first | rfl | exact Zyb _ | exact Zrc _ _ | (simp_all;done))
    | ept t x off=>exact Zyb _
    | _=>rfl
  case binOp op T x y U=>
    rw [opd_t ht,opd_t ht]
    cases Zzt y with
    | true=>exact Zmi2 T op _
    | false=>exact Zli2 T op _ _
  case unOp op T x=>rw [opd_t ht];unfold unOp';((repeat' split) <;> first | rfl | exact Zyb _ | exact Zrc _ _ | (simp_all;done))
  case convert s d x=>rw [opd_t ht];exact Ztp1 s d _ (hn x (by simp [Op.operands])) (Bool.not_eq_true' _ ▸ hp)
  case makeFunc fn p q=>
    have hq:q = #[]:=Array.eq_empty_of_size_eq_zero (of_decide_eq_true hp)
    subst hq
    cases fn with
    | func f=>
      dsimp only
      split
      · cases bxAt E o.dst with
        | true=>exact Zyb _
        | false=>exact Zyb _
      · rfl
    | _=>rfl
  case slice T x lo hi mx=>
    cases mx with
    | none=>dsimp only;rw [opd_t ht];exact Zki2 T _ lo hi ht (hn x (by simp [Op.operands]))
    | some m=>rfl
  case fieldAddr S x f=>rw [opd_t ht];exact Zig1 S f _ (hn x (by simp [Op.operands]))
  case field S x f=>rw [opd_t ht];unfold Ztp;((repeat' split) <;> first | rfl | exact Zyb _ | exact Zrc _ _ | (simp_all;done))
  case indexAddr T x i=>rw [opd_t ht,opd_t ht];exact Zjg1 T _ _ (hn x (by simp [Op.operands]))
  case index T x i=>rw [opd_t ht,opd_t ht];unfold Zup;((repeat' split) <;> first | rfl | exact Zyb _ | exact Zrc _ _ | (simp_all;done))
  case extract x i=>rw [opd_t ht];unfold Zbl;((repeat' split) <;> first | rfl | exact Zyb _ | exact Zrc _ _ | (simp_all;done))
  case pick c x y=>exact absurd ho (hnp c x y)
  case call c=>
    unfold call'
    dsimp only at hp
    have hopd:opd ρ = opd σ:=funext fun x=>opd_t ht x
    rw [hopd]
    split
    · rename_i b hb
      split
      · rename_i x T ha hat
        exact Zma2 _ _ (hn x (by
          simp only [Op.operands,Call.operands,hb]
          exact Array.mem_append.2 (.inr (by rw [← Array.mem_toList_iff,ha];simp))))
      · rename_i s x T U ha hat;rw [hb] at hp;cases hp
      · rw [hb] at hp;cases hp
      · rw [hb] at hp;cases hp
      · unfold Zmj;((repeat' split) <;> first | rfl | exact Zyb _ | exact Zrc _ _ | (simp_all;done))
      · unfold Zmj;((repeat' split) <;> first | rfl | exact Zyb _ | exact Zrc _ _ | (simp_all;done))
      · rfl
    · rename_i f hf;rw [hf] at hp;cases hp
    · rfl
  all_goals cases hp
theorem Step.Zhn1 {s:Step} (h:s.to σ'):(s.reM ρ o.dst).to (ρ.setT o.dst (dv σ' o.dst)):=by
  cases s with
  | no=>exact h
  | go c σ1=>obtain ⟨rfl,rfl⟩:=h;exact ⟨rfl,rfl⟩
  | call α m f=>obtain ⟨x,hx,rfl⟩:=h;exact ⟨x,hx,rfl⟩
theorem Step.Zn3 {s:Step} {a b:St} (ha:s.to a) (hb:s.to b):a=b:=by
  cases s with
  | no=>exact ha.elim
  | go c σ1=>exact ha.2.trans hb.2.symm
  | call α m f=>obtain ⟨x,hx,rfl⟩:=ha;obtain ⟨y,hy,rfl⟩:=hb;rw [hx] at hy;cases hy;rfl
theorem Zef1 (I:List Nat) (σ:St):Near I σ σ:=fun _ _=>⟨rfl, .inl rfl⟩
theorem Zin1 (hp:Ztm E o=true) (hg:OneTo E σ o σ'):σ' = σ.setT o.dst (dv σ' o.dst)∧∀ ρ,ρ.t = σ.t→Near (reads σ o) σ ρ→OneTo E ρ o (ρ.setT o.dst (dv σ' o.dst)):=by
  unfold OneTo at *
  split at hg
  · rename_i c x y ho
    obtain ⟨t,gs,hc,rfl⟩:=hg
    refine ⟨(Zum _ _ _).symm,fun ρ ht _=>⟨t,gs,(opd_t ht c).trans hc,?_⟩⟩
    rw [Zum,opd_t ht x,opd_t ht y]
  · rename_i hnp
    have h1:=Zl7 (E:=E) hp hnp (ρ:=σ) rfl (Zef1 _ _)
    have h2:=Step.Zhn1 (ρ:=σ) (o:=o) hg
    rw [← h1] at h2
    refine ⟨Step.Zn3 hg h2,fun ρ ht hn=>?_⟩
    rw [Zl7 hp hnp ht hn]
    exact Step.Zhn1 hg
theorem Zjn1 (hp:Ztm E o=true) (hg:GTo E ops o σ σ'):σ' = σ.setT o.dst (dv σ' o.dst)∧∀ ρ,ρ.t = σ.t→Near (reads σ o) σ ρ→GTo E ops o ρ (ρ.setT o.dst (dv σ' o.dst)):=by
  unfold GTo at *
  split at hg
  · exact Zin1 hp hg
  · split at hg
    · subst hg;exact ⟨(Zum _ _ _).symm,fun ρ ht _=>by rw [Zum]⟩
    · rename_i s hs
      split at hg
      · rename_i hv
        subst hg
        refine ⟨(Zum _ _ _).symm,fun ρ ht _=>?_⟩
        rw [ht,hv,Zum]
      · rename_i b gs hv
        split at hg
        · rename_i he
          subst he
          obtain ⟨h1,h2⟩:=Zin1 hp hg
          refine ⟨h1,fun ρ ht hn=>?_⟩
          rw [ht,hv]
          dsimp only
          rw [if_pos rfl]
          exact h2 ρ ht hn
        · rename_i he
          subst hg
          refine ⟨(Zum _ _ _).symm,fun ρ ht _=>?_⟩
          rw [ht,hv,Zum]
          dsimp only
          rw [if_neg he]
      · exact hg.elim
def Kept (W:List Nat) (σ σ':St):Prop:=∀ id,id∉W→σ'.v id = σ.v id∧CEq (σ.c id) (σ'.c id)
theorem Kept.set (W:List Nat) (ρ:St) (d:Option Nat) (a:AV) (h:Kept W σ ρ):Kept W σ (ρ.setT d a):=by
  cases d <;> exact h
theorem kept_refl (W:List Nat) (σ:St):Kept W σ σ:=fun _ _=>⟨rfl, .inl rfl⟩
theorem Ziq (W:List Nat) (σ:St) (i:Nat):Kept W σ (σ.bump i):=fun _ _=>⟨rfl, .inl rfl⟩
theorem CEq.trans {a b c:Option Con} (h:CEq a b) (k:CEq b c):CEq a c:=by
  rcases h with rfl | ⟨e,l,f,f',rfl,rfl⟩
  · exact k
  · rcases k with rfl | ⟨e,l,f,f',h1,rfl⟩
    · exact .inr ⟨_,_,_,_,rfl,rfl⟩
    · cases h1;exact .inr ⟨_,_,_,_,rfl,rfl⟩
theorem CEq.symm {a b:Option Con} (h:CEq a b):CEq b a:=by
  rcases h with rfl | ⟨e,l,f,f',rfl,rfl⟩
  · exact .inl rfl
  · exact .inr ⟨_,_,_,_,rfl,rfl⟩
theorem Kept.trans {W:List Nat} {a b c:St} (h:Kept W a b) (k:Kept W b c):Kept W a c:=fun id hid=>
  ⟨(k id hid).1.trans (h id hid).1,(h id hid).2.trans (k id hid).2⟩
theorem Kept.mono {W W':List Nat} {a b:St} (h:Kept W a b) (hw:∀ x∈W,x∈W'):Kept W' a b:=fun id hid=>h id fun hx=>hid (hw id hx)
def Ztf (W:List Nat) (σ:St) (s:Step):Prop:=∀ σ',s.to σ'→Kept W σ σ'
theorem Zzo (W:List Nat) (a:AV):Ztf W σ (put o σ a):=by
  rintro _ ⟨_,rfl⟩;exact (kept_refl W σ).set _ _ _ _
theorem Zm7 (W:List Nat) (c:Bool) (a:AV):Ztf W σ (chk o c σ a):=by
  rintro _ ⟨_,rfl⟩;exact (kept_refl W σ).set _ _ _ _
theorem Zeg {d:Nat} (k:Con):Kept [d] σ (σ.Zub d k):=fun id hid=>by
  have hne:id≠d:=fun e=>hid (by simp [e])
  unfold St.Zub
  dsimp only
  rw [Zz,if_neg hne,Zz,if_neg hne]
  exact ⟨rfl, .inl rfl⟩
theorem Zgi {d:Nat} (k:Con):Kept [d] σ (σ.Zdc d k):=fun id hid=>by
  have hne:id≠d:=fun e=>hid (by simp [e])
  unfold St.Zdc
  dsimp only
  rw [Zz,if_neg hne]
  exact ⟨rfl, .inl rfl⟩
theorem Zc6 {W:List Nat} {id:Nat} {e:Ty} {l:List e.D} {f f':Bool} (h:σ.c id=some (.arr e l f)):Kept W σ (σ.Zdc id (.arr e l f')):=fun i _=>by
  unfold St.Zdc
  dsimp only
  rw [Zz]
  by_cases hi:i=id
  · subst hi;rw [if_pos rfl,h];exact ⟨rfl, .inr ⟨_,_,_,_,rfl,rfl⟩⟩
  · rw [if_neg hi];exact ⟨rfl, .inl rfl⟩
theorem Zpy2 {W:List Nat} {T:Nat} {m:Bool} {x a:AV} {σ1:St} (h:arg' E T m σ x=some (a,σ1)):Kept W σ σ1:=by
  unfold arg' at h
  split at h
  · cases h;exact kept_refl _ _
  · split at h
    · cases h;exact kept_refl _ _
    · cases h
  · cases m with
    | true=>
      simp only [cond_true] at h
      split at h
      · split at h
        · split at h
          · cases h
          · cases h;exact kept_refl _ _
        · cases h
      · cases h
    | false=>
      simp only [cond_false] at h
      split at h
      · split at h
        · rename_i hc;cases h;exact Zc6 hc
        · cases h
      · cases h
  · split at h
    · split at h
      · rename_i hc;cases h;exact Zc6 hc
      · cases h
    · cases h
  · cases h;exact kept_refl _ _
  · cases h;exact kept_refl _ _
  · split at h
    · split at h
      · cases h;exact kept_refl _ _
      · cases h
    · cases h
  · cases h
theorem Zd6:∀ (ids:List Nat) (ds:List Con) (σ:St),Kept ids σ (Zlf ids ds σ)
  | [],_,σ=>kept_refl _ _
  | _ :: _,[],σ=>kept_refl _ _
  | id :: ids,d :: ds,σ=>fun i hi=>by
    have h1:=Zgi (σ:=σ) (d:=id) d i (fun hm=>hi (by rw [List.mem_singleton.1 hm];exact List.mem_cons_self ..))
    have h2:=Zd6 ids ds (σ.Zdc id d) i (fun hm=>hi (List.mem_cons_of_mem _ hm))
    exact ⟨h2.1.trans h1.1,h1.2.trans h2.2⟩
theorem Zo3 {W:List Nat}:∀ {ms:List Bool} {ps:List (Operand×Nat)} {σ σ1:St} {l:List AV},args' E ms ps σ = some (l,σ1)→Kept W σ σ1
  | _,[],σ,σ1,l,h=>by unfold args' at h;cases h;exact kept_refl _ _
  | ms,(x,T) :: ps,σ,σ1,l,h=>by
    unfold args' at h
    split at h
    · rename_i a σ2 ha
      split at h
      · rename_i l2 σ3 hl
        cases h
        exact (Zpy2 ha).trans (Zo3 hl)
      · cases h
    · cases h
theorem Znb1 (W:List Nat) (hs:List Nat):Kept W σ (bumpL hs σ):=by
  obtain ⟨_,h2,h3,_⟩:=Zpx hs σ
  intro i _
  rw [h2,h3]
  exact ⟨rfl, .inl rfl⟩
theorem Zvq (W:List Nat) (d j n:Nat):Kept W σ (bumpN d j n σ):=fun _ _=>⟨rfl, .inl rfl⟩
theorem Zkn1 (ids:List Nat) (a:AV) (ios:List Con):Kept (ids++o.dst.toList) σ (imp o ids σ a ios):=by
  have ks:∀ cs τ,Kept (ids++o.dst.toList) τ (Zlf ids cs τ):=fun cs τ=>(Zd6 _ _ _).mono fun y hy=>List.mem_append_left _ hy
  unfold imp
  split
  · exact ks _ _
  · rename_i d hd
    split
    · simp only [Zir,Zap];exact Kept.set _ _ _ _ ((Zvq _ _ _ _).trans ((Zvq _ _ _ _).trans (ks _ _)))
    · simp only [Zfd1,Zap];exact Kept.set _ _ _ _ ((Zvq _ _ _ _).trans ((Zvq _ _ _ _).trans (ks _ _)))
    · exact Kept.set _ _ _ _ ((ks _ _).trans ((Zeg _).mono fun y hy=>List.mem_append_right _ (by rw [hd];exact hy)))
    · dsimp only
      split
      · exact Kept.set _ _ _ _ (ks _ _)
      · exact Kept.set _ _ _ _ (ks _ _)
    · exact Kept.set _ _ _ _ (ks _ _)
theorem Zcc (W:List Nat):Ztf W σ .no:=fun _ h=>h.elim
theorem Zln1 {W:List Nat} {c:Bool} {s:Step} (h:Ztf W σ s):Ztf W σ (bif c then s else .no):=by
  cases c
  · exact Zcc _
  · exact h
theorem Zp3 {W:List Nat} {c:Bool} {s:Step} (h:Ztf W σ s):Ztf W σ (bif c then .no else s):=by
  cases c
  · exact h
  · exact Zcc _
theorem Zne {W:List Nat} {c:Bool} {ρ:St} {d:Option Nat} {a:AV} (h:Kept W σ ρ):Ztf W σ (.go c (ρ.setT d a)):=by
  rintro _ ⟨_,rfl⟩;exact h.set _ _ _ _
end
end Go.AM
end

section
/- Two operations that do not meddle with one another may change places: the law. -/
namespace Go.AM
open Go.RowKit (Below)
set_option linter.unusedSectionVars false
variable [Lay]
section
variable {E : Env} {o : Oper} {σ ρ σ' : St} {ops : Array Oper}
theorem Zmy2 {x:AV} {d:Dat} {σ σ1:St} (h:cap' σ x=some (d,σ1)):Kept (idsA x) σ σ1:=by
  unfold cap' at h
  split at h
  · split at h
    · split at h
      · cases h;exact Zgi _
      · cases h;exact kept_refl _ _
      · cases h
    · cases h
  · cases h;exact kept_refl _ _
  · cases h
theorem Zze1:∀ {xs:List Operand} {σ σ1:St} {ds:List Dat},caps' xs σ = some (ds,σ1)→Kept (xs.flatMap fun x=>idsA (opd σ x)) σ σ1
  | [],σ,σ1,ds,h=>by cases h;exact kept_refl _ _
  | x :: xs,σ,σ1,ds,h=>by
    unfold caps' at h
    split at h
    · rename_i d σ2 h1
      split at h
      · rename_i ds2 σ3 h2
        cases h
        have ht:=cap_t h1
        have he:(xs.flatMap fun x=>idsA (opd σ2 x))=xs.flatMap fun x=>idsA (opd σ x):=by
          have:(fun x=>idsA (opd σ2 x))=fun x=>idsA (opd σ x):=funext fun x=>by rw [opd_t ht]
          rw [this]
        have k1:=(Zmy2 h1).mono (W':=(x :: xs).flatMap fun x=>idsA (opd σ x)) fun y hy=>by rw [List.flatMap_cons];exact List.mem_append_left _ hy
        have k2:=(Zze1 h2).mono (W':=(x :: xs).flatMap fun x=>idsA (opd σ x)) fun y hy=>by rw [he] at hy;rw [List.flatMap_cons];exact List.mem_append_right _ hy
        exact k1.trans k2
      · cases h
    · cases h
theorem Zaf1 {x:AV} {c:Bool} (h:(bxAt E o.dst && c)=true):Ztf (bif bxAt E o.dst && c then o.dst.toList else []) σ (move' E o σ c x):=by
  unfold move'
  split
  · rename_i d hd
    rw [hd] at h ⊢
    simp only [bxAt] at h ⊢
    rw [h]
    dsimp only [cond]
    split
    · exact Zne (Zeg _)
    · exact Zcc _
  · exact Zzo _ _
theorem Zbf1 {W:List Nat} {b:Bool} {σ σ1:St} (h:Kept W σ σ1):Kept W σ (lent b σ σ1):=by
  cases b
  · exact h
  · exact kept_refl _ _
theorem Zgi2 {c:Call} (ho:o.op = .call c):Ztf (wr E σ o) σ (call' E c o σ):=by
  unfold wr
  rw [ho]
  obtain ⟨cl,as,ats⟩:=c
  cases cl with
  | builtin b=>
    unfold call'
    have hlen:∀ W T x,Ztf W σ (len' T o σ x):=fun W T x=>by unfold len';((repeat' split) <;> first | exact Zcc _ | exact Zne (Ziq _ _ _) | exact Zne (kept_refl _ _) | exact Zzo _ _ | exact Zm7 _ _ _)
    have happ:∀ W T U s x,Ztf W σ (Ztg E T U o σ s x):=fun W T U s x=>by unfold Ztg;((repeat' split) <;> first | exact Zcc _ | exact Zne (Ziq _ _ _) | exact Zne (kept_refl _ _) | exact Zzo _ _ | exact Zm7 _ _ _)
    have happB:∀ T U id ver x,Ztf [id] σ (Zsl E T U o σ id ver x):=fun T U id ver x=>by unfold Zsl;((repeat' split) <;> first | exact Zcc _ | exact Zne (Zeg _))
    have hprt:∀ s id lo n,partOf σ s=some (id,lo,n)→idsA s=[id]:=fun s id lo n h=>by
      obtain ⟨_,_,_,⟨ver,rfl,_⟩ | ⟨ver,rfl,_⟩⟩:=Zj6 h <;> rfl
    have hclr:∀ T s,Ztf (idsA s) σ (Zdo E T o σ s):=fun T s=>by
      unfold Zdo
      split
      · rename_i id lo n e hp hT
        rw [hprt _ _ _ _ hp]
        ((repeat' split) <;> first | exact Zcc _ | exact Zne (Zgi _))
      · exact Zcc _
    have hcpy:∀ T U s x,Ztf (idsA s) σ (copy' E T U o σ s x):=fun T U s x=>by
      unfold copy'
      split
      · rename_i id lo n e hp hT
        rw [hprt _ _ _ _ hp]
        ((repeat' split) <;> first | exact Zcc _ | exact Zne (Zgi _))
      · exact Zcc _
    have hmm:∀ W f xs,Ztf W σ (Zmj f o σ xs):=fun W f xs=>by unfold Zmj;((repeat' split) <;> first | exact Zcc _ | exact Zne (Ziq _ _ _) | exact Zne (kept_refl _ _) | exact Zzo _ _ | exact Zm7 _ _ _)
    clear ho
    dsimp only
    generalize as.toList=al
    generalize ats.toList=tl
    cases b <;> dsimp only
    case len=>rcases al with _ | ⟨s,_ | ⟨x,al⟩⟩ <;> rcases tl with _ | ⟨T,_ | ⟨U,tl⟩⟩ <;> first | exact hlen _ _ _ | exact Zcc _
    case append=>
      rcases al with _ | ⟨s,_ | ⟨x,_ | ⟨y,al⟩⟩⟩ <;> rcases tl with _ | ⟨T,_ | ⟨U,_ | ⟨V,tl⟩⟩⟩ <;> (try exact Zcc _)
      dsimp only
      unfold appW
      cases opd σ s <;> first | exact fun τ hτ=>(happB _ _ _ _ _ τ hτ).mono fun y hy=>List.mem_append_left _ hy | exact happ _ _ _ _ _
    case clear=>rcases al with _ | ⟨s,_ | ⟨x,al⟩⟩ <;> rcases tl with _ | ⟨T,_ | ⟨U,tl⟩⟩ <;> first | exact hclr _ _ | exact Zcc _
    case copy=>rcases al with _ | ⟨s,_ | ⟨x,_ | ⟨y,al⟩⟩⟩ <;> rcases tl with _ | ⟨T,_ | ⟨U,_ | ⟨V,tl⟩⟩⟩ <;> first | exact hcpy _ _ _ _ | exact Zcc _
    case min=>exact hmm _ _ _
    case max=>exact hmm _ _ _
    all_goals exact Zcc _
  | value f=>
    unfold call'
    dsimp only
    split
    · rename_i fn ds hfn
      rw [hfn]
      split
      · split
        · split
          · rename_i l σ1 hl
            split
            · rename_i r hr
              refine Zln1 ?_
              rintro _ ⟨x,_,rfl⟩
              refine ((Zbf1 (Zo3 hl)).trans (Znb1 _ _)).trans ((Zkn1 _ _ _).mono fun y hy=>?_)
              rcases List.mem_append.1 hy with hy | hy
              · exact List.mem_append_left _ hy
              · exact List.mem_append_right _ (List.mem_append_right _ hy)
            · exact Zcc _
          · exact Zcc _
        · exact Zcc _
      · exact Zcc _
    · rename_i fn ps hfn
      rw [hfn]
      split
      · split
        · split
          · rename_i l σ1 cs hl hcs
            split
            · rename_i r hr
              refine Zln1 ?_
              rintro _ ⟨x,_,rfl⟩
              refine ((Zbf1 (Zo3 hl)).trans (Znb1 _ _)).trans ((Zkn1 _ _ _).mono fun y hy=>?_)
              rw [List.append_assoc] at hy
              exact hy
            · exact Zcc _
          · exact Zcc _
        · exact Zcc _
      · exact Zcc _
    · exact Zcc _
  | _=>exact Zcc _
theorem Zhi2:Ztf (wr E σ o) σ (evOp E σ o):=by
  by_cases hp:Ztm E o=true
  · by_cases hnp:∀ c x y,o.op≠ .pick c x y
    · have h1:=Zl7 (E:=E) hp hnp (ρ:=σ) rfl (Zef1 _ _)
      intro σ' h
      have h2:=Step.Zhn1 (ρ:=σ) (o:=o) h
      rw [← h1] at h2
      rw [Step.Zn3 h h2]
      exact (kept_refl _ _).set _ _ _ _
    · have:∃ c x y,o.op = .pick c x y:=by
        by_cases h:∃ c x y,o.op = .pick c x y
        · exact h
        · exact absurd (fun c x y he=>h ⟨c,x,y,he⟩) hnp
      obtain ⟨c,x,y,ho⟩:=this
      unfold evOp
      rw [ho]
      exact Zcc _
  · unfold Ztm at hp
    unfold evOp wr
    cases ho:o.op <;> rw [ho] at hp <;> (try dsimp only) <;> (try (exact absurd rfl hp)) <;> (try (exact Zcc _))
    case move x=>
      refine Zaf1 ?_
      cases hb:(bxAt E o.dst && Zmm x) with
      | true=>rfl
      | false=>exact absurd (show (!(bxAt E o.dst && Zmm x))=true by rw [hb];rfl) hp
    case assign x=>
      refine Zaf1 ?_
      cases hb:(bxAt E o.dst && Zmm x) with
      | true=>rfl
      | false=>exact absurd (show (!(bxAt E o.dst && Zmm x))=true by rw [hb];rfl) hp
    case alloc T=>
      unfold Zwp
      split
      · rename_i d hd
        split
        · rw [hd];exact Zne (Zeg _)
        · split
          · rw [hd];exact Zne (Zeg _)
          · exact Zcc _
      · exact Zcc _
    case box T x=>
      unfold box'
      split
      · rename_i d hd
        split
        · split
          · unfold boxTo;rw [hd];split <;> first | exact Zne (Zeg _) | exact Zp3 (Zne (Zeg _))
          · exact Zcc _
        · exact Zcc _
      · exact Zcc _
    case convert s d x=>
      have hb:bxAt E o.dst=true:=by
        cases hq:bxAt E o.dst with
        | true=>rfl
        | false=>exact absurd (show (!bxAt E o.dst)=true by rw [hq];rfl) hp
      rw [hb]
      unfold Zdh
      (repeat' split) <;> first | exact Zcc _ | exact Zzo _ _ | (rename_i d' _ hd _ ;rw [hd];exact Zne (Zeg _)) | (rename_i hd _;rw [hd];exact Zne (Zeg _)) | exact Zne (kept_refl _ _)
    case buildSlice T n ps=>
      unfold Zfi
      split
      · rename_i d e _ _
        split
        · split
          · cases E.lit d with
            | true=>exact Zne (kept_refl _ _)
            | false=>exact Zne (Ziq _ _ _)
          · exact Zcc _
        · exact Zcc _
      · exact Zcc _
    case makeFunc fn p q=>
      cases fn with
      | func f=>
        dsimp only
        split
        · cases bxAt E o.dst with
          | true=>
            dsimp only [cond]
            split
            · exact Zzo _ _
            · exact Zcc _
          | false=>
            dsimp only [cond]
            split
            · rename_i ds σ1 hq;exact Zne (Zze1 hq)
            · exact Zcc _
        · exact Zcc _
      | _=>exact Zcc _
    case makeSlice T x y=>
      unfold Zuj
      split
      · rename_i d e k n g k2 m g2 hd _ _ _
        split
        · rw [hd];exact Zne (Zeg _)
        · split
          · cases E.bx d with
            | true=>rw [hd];exact Zne (Zeg _)
            | false=>exact Zne (Ziq _ _ _)
          · exact Zcc _
      · exact Zcc _
    case store T a x=>
      unfold Zvp
      split
      · rename_i id ver off ha
        rw [show idsA (opd σ a)=[id] by rw [ha];rfl]
        (repeat' split) <;> first | exact Zcc _ | exact Zne (Zgi _) | exact Zp3 (Zne (Zgi _))
      · rename_i id ver i off ha
        rw [show idsA (opd σ a)=[id] by rw [ha];rfl]
        (repeat' split) <;> first | exact Zcc _ | exact Zne (Zgi _) | exact Zp3 (Zne (Zgi _))
      · exact Zcc _
    case call c=>
      have:=Zgi2 (E:=E) (σ:=σ) ho
      unfold wr at this
      rw [ho] at this
      exact this
theorem Zen1 (h:GTo E ops o σ σ'):Kept (wr E σ o) σ σ':=by
  have hs:∀ a,Kept (wr E σ o) σ (σ.setT o.dst a):=fun a=>(kept_refl _ _).set _ _ _ _
  have h1:OneTo E σ o σ'→Kept (wr E σ o) σ σ':=fun h=>by
    unfold OneTo at h
    split at h
    · obtain ⟨t,gs,_,rfl⟩:=h;exact hs _
    · exact Zhi2 _ h
  unfold GTo at h
  split at h
  · exact h1 h
  · split at h
    · subst h;exact hs _
    · split at h
      · subst h;exact hs _
      · split at h
        · exact h1 h
        · subst h;exact hs _
      · exact h.elim
theorem gto_t (h:GTo E ops o σ σ'):σ'.t=tset σ.t o.dst (dv σ' o.dst):=by
  have hs:∀ a,(σ.setT o.dst a).t=tset σ.t o.dst (dv (σ.setT o.dst a) o.dst):=fun a=>by
    cases o.dst with
    | none=>rfl
    | some d=>show fset σ.t d a=fset σ.t d (fset σ.t d a d);rw [Zat]
  have h1:OneTo E σ o σ'→σ'.t=tset σ.t o.dst (dv σ' o.dst):=fun h=>by
    unfold OneTo at h
    split at h
    · obtain ⟨t,gs,_,rfl⟩:=h;exact hs _
    · have h2:=Zqn1 (E:=E) (σ:=σ) (o:=o) (t':=σ.t) fun _ _=>rfl
      have h3:=Step.Zoi2 (t':=σ.t) (d:=o.dst) h
      rw [← h2] at h3
      have h4:=Step.Zn3 h h3
      exact congrArg St.t h4
  unfold GTo at h
  split at h
  · exact h1 h
  · split at h
    · subst h;exact hs _
    · split at h
      · subst h;exact hs _
      · split at h
        · exact h1 h
        · subst h;exact hs _
      · exact h.elim
theorem Zgr {t:Nat→AV} {d:Option Nat} {a:AV} {i:Nat} (h:d≠some i):tset t d a i=t i:=by
  cases d with
  | none=>rfl
  | some d=>show fset t d a i=t i;rw [Zz,if_neg fun e=>h (by rw [e])]
theorem Zm3 {t:Nat→AV} {d e:Option Nat} {a b:AV} (h:∀ i,d=some i→e≠some i):tset (tset t d a) e b=tset (tset t e b) d a:=by
  funext i
  cases d with
  | none=>rfl
  | some d=>
    cases e with
    | none=>rfl
    | some e=>
      have hne:d≠e:=fun he=>h d rfl (by rw [he])
      show fset (fset t d a) e b i=fset (fset t e b) d a i
      simp only [Zz]
      by_cases h1:i=e
      · rw [if_pos h1,if_neg (by omega),if_pos h1]
      · rw [if_neg h1,if_neg h1]
theorem Zwf (E:Env) (h:∀ d∈o.looksAt ops,ρ.t d = σ.t d):reads ρ o=reads σ o∧wr E ρ o=wr E σ o:=by
  have hop:∀ x∈o.op.operands,opd ρ x=opd σ x:=fun x hx=>by
    cases x with
    | tmp d=>exact h d (List.mem_append_left _ (List.mem_filterMap.2 ⟨.tmp d,by simpa using hx,rfl⟩))
    | _=>unfold opd;split <;> simp_all
  constructor
  · unfold reads
    have:∀ (l:List Operand),(∀ x∈l,opd ρ x=opd σ x)→(l.flatMap fun x=>idsA (opd ρ x))=l.flatMap fun x=>idsA (opd σ x):=fun l=>by
      induction l with
      | nil=>intro _;rfl
      | cons x l ih=>intro hl;rw [List.flatMap_cons,List.flatMap_cons,hl x (List.mem_cons_self ..),ih fun y hy=>hl y (List.mem_cons_of_mem _ hy)]
    exact this o.op.operands.toList fun x hx=>hop x (by simpa using hx)
  · have hfl:∀ (f:AV→List Nat) (l:List Operand),(∀ x∈l,opd ρ x=opd σ x)→(l.flatMap fun x=>f (opd ρ x))=l.flatMap fun x=>f (opd σ x):=fun f l=>by
      induction l with
      | nil=>intro _;rfl
      | cons x l ih=>intro hl;rw [List.flatMap_cons,List.flatMap_cons,hl x (List.mem_cons_self ..),ih fun y hy=>hl y (List.mem_cons_of_mem _ hy)]
    unfold wr
    cases ho:o.op <;> (try rfl)
    case store T a x=>
      dsimp only
      rw [hop a (by rw [ho];simp [Op.operands])]
    case makeFunc fn p q=>
      dsimp only
      exact hfl idsA q.toList fun x hx=>hop x (by rw [ho];simp only [Op.operands];exact Array.mem_append.2 (.inr (Array.mem_toList_iff.1 hx)))
    case call c=>
      have hargs:∀ x∈c.args.toList,opd ρ x=opd σ x:=fun x hx=>hop x (by rw [ho];simp only [Op.operands];unfold Call.operands;exact Array.mem_append.2 (.inr (Array.mem_toList_iff.1 hx)))
      have hfn:∀ f,c.callee = .value f→opd ρ f=opd σ f:=fun f hc=>hop f (by rw [ho];simp only [Op.operands];unfold Call.operands;rw [hc];exact Array.mem_append.2 (.inl (by simp)))
      clear ho
      obtain ⟨cl,as,ats⟩:=c
      cases cl with
      | builtin b=>
        dsimp only at hargs ⊢
        generalize as.toList=al at hargs ⊢
        cases b <;> dsimp only
        all_goals
          cases al with
          | nil=>rfl
          | cons s r=>dsimp only;(try unfold appW);rw [hargs s (List.mem_cons_self ..)]
      | value f=>
        dsimp only
        rw [hfn f rfl]
        congr 1
        have hai:∀ (ms:List Bool) (l:List Operand),(∀ x∈l,opd ρ x=opd σ x)→Zse ρ ms l=Zse σ ms l:=fun ms l=>by
          induction l generalizing ms with
          | nil=>intro _;unfold Zse;rfl
          | cons x l ih=>intro hl;unfold Zse;rw [hl x (List.mem_cons_self ..),ih ms.tail fun y hy=>hl y (List.mem_cons_of_mem _ hy)]
        unfold Zdf1
        split
        · exact hai _ _ hargs
        · exact hai _ _ hargs
        · rfl
      | _=>rfl
theorem Zle (σ:St) (d:Option Nat) (a:AV):σ.setT d a = σ.onT (tset σ.t d a):=by cases d <;> rfl
def appOp (o:Oper):Bool:=
  match o.guard,o.op with
  | none, .call c=>match c.callee with
    | .builtin .append=>true
    | _=>false
  | _,_=>false
def noBx (W:List Nat):Bool:=W.all fun y=>!Nat.beq y (2*pid0-1)
theorem Zfn1 {σ ρ:St} {d z:Nat}:∀ {g:List Tag},(∀ t∈g,t.id≠0→ρ.r t.id = σ.r t.id)→Zbj ρ d z g=Zbj σ d z g
  | [],_=>rfl
  | t :: g,h=>by
    unfold Zbj
    rw [Zfn1 (g:=g) fun t ht=>h t (List.mem_cons_of_mem _ ht)]
    by_cases h0:t.id=0
    · rw [if_pos h0,if_pos h0]
    · rw [if_neg h0,if_neg h0,h t (List.mem_cons_self ..) h0]
theorem Zmb1 {σ:St} {d z i:Nat}:∀ {g:List Tag},Zbj σ d z g=some i→i=rid d 0∨∃ t∈g,t.id≠0∧t.id=i
  | [],h=>by cases h
  | t :: g,h=>by
    unfold Zbj at h
    split at h
    · split at h
      · cases h;exact .inl rfl
      · rename_i h0
        split at h
        · cases h;exact .inr ⟨t,List.mem_cons_self ..,h0,rfl⟩
        · cases h
    · rcases Zmb1 h with h | ⟨t',ht,he⟩
      · exact .inl h
      · exact .inr ⟨t',List.mem_cons_of_mem _ ht,he⟩
theorem Zcf1 (h:∀ d∈o.looksAt ops,ρ.t d = σ.t d):∀ x∈o.op.operands,opd ρ x=opd σ x:=fun x hx=>by
  cases x with
  | tmp d=>exact h d (List.mem_append_left _ (List.mem_filterMap.2 ⟨.tmp d,by simpa using hx,rfl⟩))
  | _=>unfold opd;split <;> simp_all
theorem Zyy1 {σ ρ:St} (hc:ρ.c = σ.c) (hv:ρ.v = σ.v) (e:Ty) (x:AV):content ρ e x=content σ e x:=by
  cases x <;> first | rfl | (unfold content;rw [hc,hv])
theorem Zny2 {e:Ty} {s:AV} {l:List e.D} (_:s.as (.sl e)=some l):∀ t∈s.tags (.sl e),t.id=0∨encR t.id∈rowsA s:=fun t ht=>by
  cases s with
  | dat u x g=>exact .inr (List.mem_map.2 ⟨t,ht,rfl⟩)
  | nils=>
    have:t=⟨0,0,0,e.sg⟩:=by simpa [AV.tags] using ht
    exact .inl (by rw [this])
  | _=>cases ht
theorem Zii2 {E:Env} {T U:Nat} {s x:AV} {σ':St} (h:(Ztg E T U o σ s x).to σ'):∃ d i v,o.dst=some d∧(i=rid d 0∨encR i∈rowsA s)∧σ'=(σ.bump i).setT o.dst v∧
    ∀ ρ:St,ρ.c = σ.c→ρ.v = σ.v→(∀ j,j=rid d 0∨encR j∈rowsA s→ρ.r j = σ.r j)→(Ztg E T U o ρ s x).to ((ρ.bump i).setT o.dst v):=by
  unfold Ztg at h
  split at h
  · rename_i d e hdst hT
    split at h
    · rename_i l hl
      split at h
      · rename_i i hi
        have hm:=Zny2 hl
        have hmem:i=rid d 0∨encR i∈rowsA s:=by
          rcases Zmb1 hi with h | ⟨t,ht,hne,rfl⟩
          · exact .inl h
          · rcases hm t ht with h0 | h0
            · exact absurd h0 hne
            · exact .inr h0
        have hrr:∀ ρ:St,(∀ j,j=rid d 0∨encR j∈rowsA s→ρ.r j = σ.r j)→Zbj ρ d e.sg (s.tags (.sl e))=some i∧ρ.r i = σ.r i:=fun ρ hρ=>
          ⟨(Zfn1 fun t ht hne=>by
            rcases hm t ht with h0 | h0
            · exact absurd h0 hne
            · exact hρ _ (.inr h0)).trans hi,hρ i hmem⟩
        split at h
        · rename_i hU
          split at h
          · rename_i l2 hl2
            split at h
            · rename_i y gs hx
              obtain ⟨h1,h2⟩:=h
              refine ⟨d,i,_,hdst,hmem,h2,fun ρ hc hv hρ=>?_⟩
              obtain ⟨h3,h4⟩:=hrr ρ hρ
              unfold Ztg
              rw [hdst,hT]
              dsimp only
              rw [hl]
              dsimp only
              rw [h3]
              dsimp only
              rw [hU]
              dsimp only
              refine ⟨h1,?_⟩
              rw [h4]
            · exact h.elim
          · exact h.elim
        · rename_i e2 hU
          split at h
          · rename_i y hy
            obtain ⟨h1,h2⟩:=h
            refine ⟨d,i,_,hdst,hmem,h2,fun ρ hc hv hρ=>?_⟩
            obtain ⟨h3,h4⟩:=hrr ρ hρ
            unfold Ztg
            rw [hdst,hT]
            dsimp only
            rw [hl]
            dsimp only
            rw [h3]
            dsimp only
            rw [hU]
            dsimp only
            rw [Zyy1 hc hv,hy]
            refine ⟨h1,?_⟩
            rw [h4]
          · exact h.elim
        · exact h.elim
      · exact h.elim
    · exact h.elim
  · exact h.elim
def disj (I W:List Nat):Bool:=I.all fun x=>W.all fun y=>!Nat.beq x y
theorem Zzs {I W:List Nat} (h:disj I W=true):∀ x∈I,x∉W:=fun x hx hw=>by
  have:=List.all_eq_true.1 (List.all_eq_true.1 h x hx) x hw
  simp at this
theorem Zcd1 (t:Nat→AV) (ρ:St) (d:Option Nat) (a:AV):tset t d (dv (ρ.setT d a) d)=tset t d a:=by
  cases d with
  | none=>rfl
  | some d=>show fset t d (fset ρ.t d a d)=_;rw [Zat];rfl
theorem Zgn1 {E:Env} {σ':St} (ha:appOp o=true) (h:GTo E ops o σ σ') (hn:noBx (wr E σ o)=true):∃ T U s x,wr E σ o=appW σ o s∧s∈o.op.operands∧x∈o.op.operands∧(Ztg E T U o σ (opd σ s) (opd σ x)).to σ'∧
    ∀ ρ ρ':St,opd ρ s=opd σ s→opd ρ x=opd σ x→(Ztg E T U o ρ (opd σ s) (opd σ x)).to ρ'→GTo E ops o ρ ρ':=by
  unfold appOp at ha
  split at ha
  · rename_i c hg ho
    split at ha
    · rename_i hb
      unfold GTo at h
      rw [hg] at h
      dsimp only at h
      unfold OneTo at h
      rw [ho] at h
      dsimp only at h
      unfold evOp at h
      rw [ho] at h
      dsimp only at h
      unfold call' at h
      rw [hb] at h
      dsimp only at h
      split at h <;> (try contradiction)
      all_goals try exact h.elim
      rename_i b s x T U _ hal htl
      have hw:wr E σ o=appW σ o s:=by
        unfold wr
        rw [ho]
        dsimp only
        rw [hb]
        dsimp only
        rw [hal]
      have hsl:∀ id ver,opd σ s≠ .slw id ver:=fun id ver he=>by
        rw [hw] at hn
        unfold appW at hn
        rw [he] at hn
        have:=List.all_eq_true.1 hn (2*pid0-1) (by simp [rowsA])
        simp at this
      have hops:s∈o.op.operands∧x∈o.op.operands:=by
        rw [ho]
        simp only [Op.operands,Call.operands,hb]
        exact ⟨Array.mem_append.2 (.inr (by rw [← Array.mem_toList_iff,hal];simp)),Array.mem_append.2 (.inr (by rw [← Array.mem_toList_iff,hal];simp))⟩
      refine ⟨T,U,s,x,hw,hops.1,hops.2,?_,fun ρ ρ' hs hx h'=>?_⟩
      · split at h
        · rename_i id ver he;exact absurd he (hsl id ver)
        · exact h
      · unfold GTo
        rw [hg]
        dsimp only
        unfold OneTo
        rw [ho]
        dsimp only
        unfold evOp
        rw [ho]
        dsimp only
        unfold call'
        rw [hb]
        dsimp only
        rw [hal,htl]
        dsimp only
        split
        · rename_i id ver he;rw [hs] at he;exact absurd he (hsl id ver)
        · rw [hs,hx];exact h'
    · cases ha
  · cases ha
theorem Zji2 (σ:St) (i j:Nat) (a b:AV) (d e:Option Nat) (h:∀ k,d=some k→e≠some k):(((σ.bump i).setT d a).bump j).setT e b=(((σ.bump j).setT e b).bump i).setT d a:=by
  rw [Zle,Zle,Zle,Zle]
  show St.mk _ _ _ _=St.mk _ _ _ _
  have h1:tset (tset σ.t d a) e b=tset (tset σ.t e b) d a:=Zm3 h
  have h2:fset (fset σ.r i (σ.r i+1)) j (fset σ.r i (σ.r i+1) j+1)=fset (fset σ.r j (σ.r j+1)) i (fset σ.r j (σ.r j+1) i+1):=by
    funext k
    simp only [Zz]
    by_cases hij:i=j
    · subst hij;rfl
    · by_cases h1:k=i <;> by_cases h2:k=j <;> simp_all
      all_goals (first | rfl | (intro h;exact absurd h.symm hij) | skip)
  exact congr (congrArg (fun t=>St.mk t σ.c σ.v) h1) h2
theorem Zoy2 {E:Env} {i j:Oper} {σ σ1 σ2:St} (hap:i.apart ops j=true) (hj:GTo E ops j σ σ1) (hi:GTo E ops i σ1 σ2)
    (h1:appOp i=true) (h2:appOp j=true) (h3:disj (wr E σ1 i) (wr E σ j)=true) (h4:noBx (wr E σ1 i)=true) (h5:noBx (wr E σ j)=true):
    ∃ ρ,GTo E ops i σ ρ∧GTo E ops j ρ σ2∧reads σ i=reads σ1 i∧wr E σ i=wr E σ1 i∧reads ρ j=reads σ j∧wr E ρ j=wr E σ j:=by
  obtain ⟨a1,a2,a3⟩:=Oper.apart_spec hap
  have htj:=gto_t hj
  have hti:=gto_t hi
  have ci:∀ d∈i.looksAt ops,σ.t d = σ1.t d:=fun d hd=>by rw [htj,Zgr fun e=>a3 d e hd]
  have key:∀ ρ:St,ρ.t=tset σ.t i.dst (dv σ2 i.dst)→∀ d∈j.looksAt ops,ρ.t d = σ.t d:=fun ρ hρ d hd=>by rw [hρ,Zgr fun e=>a1 d e hd]
  obtain ⟨Tj,Uj,sj,xj,wj,osj,oxj,ej,bj⟩:=Zgn1 h2 hj h5
  obtain ⟨Ti,Ui,si,xi,wi,osi,oxi,ei,bi⟩:=Zgn1 h1 hi h4
  obtain ⟨dj,rj,vj,hdj,mj,rfl,fj⟩:=Zii2 ej
  obtain ⟨di,ri,vi,hdi,mi,rfl,fi⟩:=Zii2 ei
  have inI:∀ k,k=rid di 0∨encR k∈rowsA (opd ((σ.bump rj).setT j.dst vj) si)→encR k∈wr E ((σ.bump rj).setT j.dst vj) i:=fun k hk=>by
    rw [wi]
    unfold appW
    rcases hk with rfl | hk
    · exact List.mem_append_right _ (List.mem_append_right _ (by rw [hdi];simp))
    · exact List.mem_append_right _ (List.mem_append_left _ hk)
  have inJ:∀ k,k=rid dj 0∨encR k∈rowsA (opd σ sj)→encR k∈wr E σ j:=fun k hk=>by
    rw [wj]
    unfold appW
    rcases hk with rfl | hk
    · exact List.mem_append_right _ (List.mem_append_right _ (by rw [hdj];simp))
    · exact List.mem_append_right _ (List.mem_append_left _ hk)
  have hne:∀ k l,encR k∈wr E ((σ.bump rj).setT j.dst vj) i→encR l∈wr E σ j→k≠l:=fun k l hk hl he=>by
    subst he
    exact Zzs h3 _ hk hl
  have rr:∀ (τ:St) (m k:Nat) (d:Option Nat) (a:AV),k≠m→((τ.bump m).setT d a).r k = τ.r k:=fun τ m k d a hk=>by
    rw [Zle]
    show fset τ.r m _ k=_
    rw [Zz,if_neg hk]
  have cc:∀ (τ:St) (m:Nat) (d:Option Nat) (a:AV),((τ.bump m).setT d a).c = τ.c:=fun τ m d a=>by rw [Zle];rfl
  have vv:∀ (τ:St) (m:Nat) (d:Option Nat) (a:AV),((τ.bump m).setT d a).v = τ.v:=fun τ m d a=>by rw [Zle];rfl
  have tt:∀ (τ:St) (m:Nat) (d:Option Nat) (a:AV),((τ.bump m).setT d a).t=tset τ.t d a:=fun τ m d a=>by rw [Zle];rfl
  have g1:=fi σ (cc _ _ _ _).symm (vv _ _ _ _).symm fun k hk=>(rr _ _ _ _ _ (hne k rj (inI k hk) (inJ rj mj))).symm
  have hlook:=Zcf1 ci
  have G1:=bi σ _ (hlook _ osi) (hlook _ oxi) g1
  have hρt:((σ.bump ri).setT i.dst vi).t=tset σ.t i.dst (dv ((((σ.bump rj).setT j.dst vj).bump ri).setT i.dst vi) i.dst):=by
    rw [tt,Zcd1]
  have kl:=key _ hρt
  have hlook2:=Zcf1 kl
  have g2:=fj ((σ.bump ri).setT i.dst vi) (cc _ _ _ _) (vv _ _ _ _) fun k hk=>rr _ _ _ _ _ (Ne.symm (hne ri k (inI ri mi) (inJ k hk)))
  have G2:=bj _ _ (hlook2 _ osj) (hlook2 _ oxj) g2
  rw [Zji2 σ ri rj vi vj i.dst j.dst a2] at G2
  exact ⟨_,G1,G2,(Zwf E ci).1,(Zwf E ci).2,(Zwf E kl).1,(Zwf E kl).2⟩
theorem swap {i j:Oper} {σ σ1 σ2:St} (hap:i.apart ops j=true) (hj:GTo E ops j σ σ1) (hi:GTo E ops i σ1 σ2)
    (hind:((Ztm E i=true∧disj (reads σ1 i) (wr E σ j)=true)∨(Ztm E j=true∧disj (reads σ j) (wr E σ1 i)=true))∨(appOp i=true∧appOp j=true∧disj (wr E σ1 i) (wr E σ j)=true∧noBx (wr E σ1 i)=true∧noBx (wr E σ j)=true)):
    ∃ ρ,GTo E ops i σ ρ∧GTo E ops j ρ σ2∧reads σ i=reads σ1 i∧wr E σ i=wr E σ1 i∧reads ρ j=reads σ j∧wr E ρ j=wr E σ j:=by
  obtain ⟨a1,a2,a3⟩:=Oper.apart_spec hap
  have htj:=gto_t hj
  have hti:=gto_t hi
  have ci:∀ d∈i.looksAt ops,σ.t d = σ1.t d:=fun d hd=>by rw [htj,Zgr fun e=>a3 d e hd]
  have key:∀ ρ:St,ρ.t=tset σ.t i.dst (dv σ2 i.dst)→∀ d∈j.looksAt ops,ρ.t d = σ.t d:=fun ρ hρ d hd=>by rw [hρ,Zgr fun e=>a1 d e hd]
  rcases hind with (⟨hp,hdis⟩ | ⟨hp,hdis⟩) | ⟨h1,h2,h3,h4,h5⟩
  · obtain ⟨e1,st⟩:=Zjn1 hp hi
    have hk:=Zen1 hj
    have n1:Near (reads σ1 i) σ1 (σ.onT σ1.t):=fun id hid=>
      ⟨(hk id (Zzs hdis id hid)).1.symm,(hk id (Zzs hdis id hid)).2.symm⟩
    have g1:=st (σ.onT σ1.t) rfl n1
    have g2:=Zm5 (σ:=σ.onT σ1.t) (t':=σ.t) ci g1
    rw [Zcd1] at g2
    have e2:(St.setT (σ.onT σ1.t) i.dst (dv σ2 i.dst)).onT (tset σ.t i.dst (dv σ2 i.dst)) = σ.setT i.dst (dv σ2 i.dst):=by
      rw [Zle,Zle];rfl
    rw [e2] at g2
    have hρt:(σ.setT i.dst (dv σ2 i.dst)).t=tset σ.t i.dst (dv σ2 i.dst):=by rw [Zle];rfl
    refine ⟨_,g2,?_,(Zwf E ci).1,(Zwf E ci).2,(Zwf E (key _ hρt)).1,(Zwf E (key _ hρt)).2⟩
    have g3:=Zm5 (t':=tset σ.t i.dst (dv σ2 i.dst)) (fun d hd=>Zgr fun e=>a1 d e hd) hj
    rw [Zle]
    rw [Zm3 a2,← htj] at g3
    have e7:σ2 = σ1.onT (tset σ1.t i.dst (dv σ2 i.dst)):=e1.trans (Zle _ _ _)
    rw [← e7] at g3
    exact g3
  · obtain ⟨e1,st⟩:=Zjn1 hp hj
    have hk:=Zen1 hi
    have g1:=Zm5 (t':=σ.t) ci hi
    have e3:σ1.onT σ.t = σ:=by rw [e1,Zle];rfl
    rw [e3] at g1
    refine ⟨_,g1,?_,(Zwf E ci).1,(Zwf E ci).2,(Zwf E (key _ rfl)).1,(Zwf E (key _ rfl)).2⟩
    have n1:Near (reads σ j) σ (σ2.onT σ.t):=fun id hid=>by
      have:=hk id (Zzs hdis id hid)
      have e4:σ1.v = σ.v:=by rw [e1,Zle];rfl
      have e5:σ1.c = σ.c:=by rw [e1,Zle];rfl
      rw [e4,e5] at this
      exact this
    have g2:=st (σ2.onT σ.t) rfl n1
    have g3:=Zm5 (σ:=σ2.onT σ.t) (t':=tset σ.t i.dst (dv σ2 i.dst)) (fun d hd=>Zgr (t:=σ.t) fun e=>a1 d e hd) g2
    rw [Zcd1] at g3
    rw [Zm3 a2,← htj,← hti] at g3
    have e6:(St.setT (σ2.onT σ.t) j.dst (dv σ1 j.dst)).onT σ2.t = σ2:=by rw [Zle];rfl
    rw [e6] at g3
    exact g3
  · exact Zoy2 hap hj hi h1 h2 h3 h4 h5
end
end Go.AM
end

section
/- Regions whose order is drawn. -/
namespace Go.AM
open Go.RowKit (Below)
set_option linter.unusedSectionVars false
variable [Lay]
abbrev Ft:=Nat×List Nat×List Nat
section
variable {R : Type}
def evF (E:Env) (ops:Array Oper):List Oper→Nat→St→List Ft→(List Ft→St→Option R)→Option R
  | [],_,σ,acc,k=>k acc σ
  | o :: r,i,σ,acc,k=>evG E ops o σ fun σ'=>evF E ops r (i+1) σ' ((i,reads σ o,wr E σ o) :: acc) k
def Zkb1 (ops:Array Oper) (l:List Nat) (i:Nat):Nat:=
  match ops[i]? with
  | none=>0
  | some o=>o.after.toList.foldl (fun m e=>bif Region.binds .any e then m ||| (2 ^ e.on ||| l.getD e.on 0) else m) 0
def masks (ops:Array Oper):Nat→List Nat
  | 0=>[]
  | k+1=>let l:=masks ops k;l++[Zkb1 ops l k]
def precB (M:List Nat) (j i:Nat):Bool:=(M.getD i 0).testBit j
def indB (E:Env) (ops:Array Oper) (y x:Ft):Bool:=
  match ops[y.1]?,ops[x.1]? with
  | some j,some i=>i.apart ops j && (((Ztm E i && disj x.2.1 y.2.2) || (Ztm E j && disj y.2.1 x.2.2)) || (appOp i && (appOp j && (disj x.2.2 y.2.2 && (noBx x.2.2 && noBx y.2.2)))))
  | _,_=>false
def ordR (E:Env) (ops:Array Oper) (M:List Nat):List Ft→Bool
  | []=>true
  | x :: r=>(r.all fun y=>precB M y.1 x.1 || indB E ops y x) && ordR E ops M r
def backB (ops:Array Oper):Bool:=(List.range ops.size).all fun i=>match ops[i]? with
  | some o=>o.after.toList.all fun e=>!Region.binds .any e || decide (e.on<i)
  | none=>true
def drE (E:Env) (ops:Array Oper) (σ:St) (k:St→Option R):Option R:=
  bif backB ops then evF E ops ops.toList 0 σ [] fun acc τ=>bif ordR E ops (masks ops ops.size) acc then k τ else none
  else none
end
def Zsm (E:Env) (ops:Array Oper):List Ft→St→St→Prop
  | [],σ,τ=>τ = σ
  | x :: r,σ,τ=>∃ o σ1,ops[x.1]? = some o∧reads σ o=x.2.1∧wr E σ o=x.2.2∧GTo E ops o σ σ1∧Zsm E ops r σ1 τ
section
variable {P : Program} {B : Bd} {ok0 : Nat → Nat → Prop} {w0 w w' : World} {g g' : G} {σ σ1 τ : St} {a : Act} {E : Env} {ops : Array Oper} {R : Type}
theorem Zsm.append {E:Env} {ops:Array Oper}:∀ {l m:List Ft} {σ τ υ:St},Zsm E ops l σ τ→Zsm E ops m τ υ→Zsm E ops (l++m) σ υ
  | [],_,_,_,_,h,k=>by cases h;exact k
  | _ :: _,_,_,_,_,⟨o,σ1,h1,h2,h3,h4,h5⟩,k=>⟨o,σ1,h1,h2,h3,h4,h5.append k⟩
theorem Zbn1:∀ {l:List Oper} {i:Nat} {σ σ0:St} {acc:List Ft} {k:List Ft→St→Option R} {r:R},(∀ j,l[j]? = ops[i+j]?)→Zsm E ops acc.reverse σ0 σ→acc.reverse.map (·.1)=List.range i→
    evF E ops l i σ acc k=some r→∃ acc' τ,Zsm E ops acc'.reverse σ0 τ∧acc'.reverse.map (·.1)=List.range (i+l.length)∧k acc' τ = some r
  | [],i,σ,σ0,acc,k,r,_,hc,hr,h=>⟨acc,σ,hc,hr,h⟩
  | o :: l,i,σ,σ0,acc,k,r,hl,hc,hr,h=>by
    obtain ⟨σ1,h1,h2⟩:=Zxn1 (k:=fun σ'=>evF E ops l (i+1) σ' ((i,reads σ o,wr E σ o) :: acc) k) h
    have ho:ops[i]? = some o:=by simpa using (hl 0).symm
    obtain ⟨acc',τ,h3,h4,h5⟩:=Zbn1 (l:=l) (fun j=>by have:=hl (j+1);simpa [Nat.add_assoc,Nat.add_comm 1 j] using this)
      (by rw [List.reverse_cons];exact hc.append ⟨o,σ1,ho,rfl,rfl,h1,rfl⟩) (by rw [List.reverse_cons,List.map_append,hr,List.range_succ];rfl) h2
    exact ⟨acc',τ,h3,by rw [h4,List.length_cons];congr 1;omega,h5⟩
theorem Zlb1:∀ {pre:List Ft} {x:Ft} {post:List Ft} {σ τ:St},(∀ y∈pre,indB E ops y x=true)→Zsm E ops (pre++x :: post) σ τ→Zsm E ops (x :: (pre++post)) σ τ
  | [],_,_,_,_,_,h=>h
  | y :: pre,x,post,σ,τ,hi,⟨j,σ1,h1,h2,h3,h4,h5⟩=>by
    obtain ⟨i,σ2,k1,k2,k3,k4,k5⟩:=Zlb1 (fun z hz=>hi z (List.mem_cons_of_mem _ hz)) h5
    have hxy:=hi y (List.mem_cons_self ..)
    unfold indB at hxy
    rw [h1,k1] at hxy
    simp only [Bool.and_eq_true,Bool.or_eq_true] at hxy
    rw [← h2,← h3,← k2,← k3] at hxy
    obtain ⟨ρ,g1,g2,e1,e2,e3,e4⟩:=swap hxy.1 h4 k4 hxy.2
    exact ⟨i,ρ,k1,e1.trans k2,e2.trans k3,g1,j,σ2,h1,e3.trans h2,e4.trans h3,g2,k5⟩
theorem Zye1 (ops:Array Oper):∀ n,(masks ops n).length=n
  | 0=>rfl
  | n+1=>by unfold masks;simp [Zye1 ops n]
theorem Zys (ops:Array Oper):∀ n i,i<n→(masks ops n).getD i 0=Zkb1 ops (masks ops i) i
  | 0,_,h=>by omega
  | n+1,i,h=>by
    show (masks ops n++[Zkb1 ops (masks ops n) n]).getD i 0=_
    have hl:=Zye1 ops n
    by_cases hi:i<n
    · have:=Zys ops n i hi
      rw [List.getD_eq_getElem?_getD] at this ⊢
      rw [List.getElem?_append_left (by omega)]
      exact this
    · have:i=n:=by omega
      subst this
      rw [List.getD_eq_getElem?_getD,List.getElem?_append_right (by omega),hl,Nat.sub_self]
      rfl
theorem Zcn1 (l:List Nat) (j:Nat):∀ (es:List Edge) (m:Nat),(es.foldl (fun m e=>bif Region.binds .any e then m ||| (2 ^ e.on ||| l.getD e.on 0) else m) m).testBit j=true→
    m.testBit j=true∨∃ e∈es,Region.binds .any e=true∧(e.on=j∨(l.getD e.on 0).testBit j=true)
  | [],m,h=> .inl h
  | e :: es,m,h=>by
    rw [List.foldl_cons] at h
    rcases Zcn1 l j es _ h with h | ⟨e',he',h'⟩
    · cases hb:Region.binds .any e with
      | false=>rw [hb] at h;exact .inl h
      | true=>
        rw [hb] at h
        simp only [cond_true,Nat.testBit_or,Bool.or_eq_true] at h
        rcases h with h | h | h
        · exact .inl h
        · rw [Nat.testBit_two_pow] at h
          exact .inr ⟨e,List.mem_cons_self ..,hb, .inl (by simpa using h)⟩
        · exact .inr ⟨e,List.mem_cons_self ..,hb, .inr h⟩
    · exact .inr ⟨e',List.mem_cons_of_mem _ he',h'⟩
theorem Zsp1 {L:Nat→Bool} {n:Nat} (hb:backB ops=true) (hn:n=ops.size) (hdc:∀ m o,ops[m]? = some o→L m=true→∀ e∈o.after.toList,Region.binds .any e=true→L e.on=true):
    ∀ i o,ops[i]? = some o→(∀ e∈o.after.toList,Region.binds .any e=true→L e.on=true)→∀ j,precB (masks ops n) j i=true→L j=true:=by
  intro i
  induction i using Nat.strongRecOn with
  | _ i ih=>
    intro o ho hp j hj
    have hi:i<ops.size:=(Array.getElem?_eq_some_iff.1 ho).1
    unfold precB at hj
    rw [Zys ops n i (by omega)] at hj
    unfold Zkb1 at hj
    rw [ho] at hj
    rcases Zcn1 _ j _ 0 hj with h | ⟨e,he,hbe,h⟩
    · simp at h
    · have hlt:e.on<i:=by
        have:=List.all_eq_true.1 hb i (List.mem_range.2 hi)
        rw [ho] at this
        have:=List.all_eq_true.1 this e he
        rw [hbe] at this
        simpa using this
      rcases h with h | h
      · subst h;exact hp e he hbe
      · rw [Zys ops i e.on hlt] at h
        obtain ⟨o',ho'⟩:∃ o',ops[e.on]? = some o':=⟨ops[e.on],Array.getElem?_eq_getElem (by omega)⟩
        exact ih e.on hlt o' ho' (hdc e.on o' ho' (hp e he hbe)) j (by unfold precB;rw [Zys ops n e.on (by omega)];exact h)
theorem Zgl3 (hE:EnvOk P E) (hC:Zgf P E) {Q:Exit→Act→World→Prop} (hb:backB ops=true):∀ (fuel:Nat) (l:List Ft) (listed:Array Bool) (σ:St) (g:G) (a:Act) (w:World),
    l.length=fuel→l.Pairwise (fun x y=>x.1<y.1)→(∀ x∈l,x.1<ops.size)→listed.size=ops.size→(∀ i,i<ops.size→(listed.getD i true=false↔∃ x∈l,x.1=i))→
    (∀ m o,ops[m]? = some o→listed.getD m false=true→∀ e∈o.after.toList,Region.binds .any e=true→listed.getD e.on false=true)→
    l.Pairwise (fun y x=>precB (masks ops ops.size) y.1 x.1=true∨indB E ops y x=true)→
    Zsm E ops l σ τ→Inv B ok0 w0 g σ a w→opsIn a.tmps.size ops=true→
    (∀ g' a' w',Inv B ok0 w0 g' τ a' w'→a'.tmps.size=a.tmps.size→Q .normal a' w')→wpAny P .any ops Q fuel listed a w:=by
  have rd:∀ (listed:Array Bool) i,listed.size=ops.size→i<ops.size→listed.getD i true=listed.getD i false:=fun listed i hs hi=>by
    have hi':i<listed.size:=by omega
    simp [hi']
  intro fuel
  induction fuel with
  | zero=>
    intro l listed σ g a w hlen _ _ hsz hls _ _ hch hI _ hq
    have:l=[]:=List.eq_nil_of_length_eq_zero hlen
    subst this
    cases hch
    refine ⟨?_,hq g a w hI rfl⟩
    unfold Region.ready
    rw [List.filter_eq_nil_iff]
    intro i hi hc
    simp only [Bool.and_eq_true,Bool.not_eq_true'] at hc
    obtain ⟨x,hx,_⟩:=(hls i (List.mem_range.1 hi)).1 hc.1
    cases hx
  | succ fuel ih=>
    intro l listed σ g a w hlen hsort hlt hsz hls hdc hpw hch hI hin hq
    constructor
    · intro hr
      exfalso
      cases l with
      | nil=>simp at hlen
      | cons x l=>
        have hx:=hlt x (List.mem_cons_self ..)
        have hm:x.1∈Region.ready .any ops listed:=by
          refine mem_ready.2 ⟨(hls x.1 hx).2 ⟨x,List.mem_cons_self ..,rfl⟩,ops[x.1],Array.getElem?_eq_getElem hx,fun e he hbe=>?_⟩
          have he':e.on<x.1:=by
            have:=List.all_eq_true.1 hb x.1 (List.mem_range.2 hx)
            rw [Array.getElem?_eq_getElem hx] at this
            have:=List.all_eq_true.1 this e (by simpa using he)
            rw [hbe] at this
            simpa using this
          rw [← rd listed e.on hsz (by omega)]
          cases hv:listed.getD e.on true with
          | true=>rfl
          | false=>
            obtain ⟨y,hy,hye⟩:=(hls e.on (by omega)).1 hv
            rcases List.mem_cons.1 hy with rfl | hy
            · omega
            · have:=List.rel_of_pairwise_cons hsort hy
              omega
        rw [hr] at hm
        cases hm
    · intro i hi
      obtain ⟨hun,oi,hoi,hall⟩:=mem_ready.1 hi
      have hilt:i<ops.size:=(Array.getElem?_eq_some_iff.1 hoi).1
      obtain ⟨x,hx,hxi⟩:=(hls i hilt).1 hun
      obtain ⟨pre,post,rfl⟩:=List.append_of_mem hx
      subst hxi
      have hind:∀ y∈pre,indB E ops y x=true:=fun y hy=>by
        have:=(List.pairwise_append.1 hpw).2.2 y hy x (List.mem_cons_self ..)
        rcases this with h | h
        · exfalso
          have hyl:=hlt y (List.mem_append_left _ hy)
          have h1:=Zsp1 (L:=fun m=>listed.getD m false) hb rfl hdc x.1 oi hoi (fun e he hbe=>hall e (by simpa using he) hbe) y.1 h
          have h2:=(hls y.1 hyl).2 ⟨y,List.mem_append_left _ hy,rfl⟩
          rw [rd listed y.1 hsz hyl] at h2
          simp only [h2] at h1
          cases h1
        · exact h
      obtain ⟨o,σ1,k1,_,_,k4,k5⟩:=Zlb1 hind hch
      rw [hoi] at k1
      cases k1
      unfold wpOp
      rw [hoi]
      dsimp only
      have hsub:(pre++post).Sublist (pre++x :: post):=List.Sublist.append_left (List.sublist_cons_self ..) _
      have hnot:∀ y∈pre++post,y.1≠x.1:=fun y hy he=>by
        rw [List.pairwise_append] at hsort
        rcases List.mem_append.1 hy with hy | hy
        · have:=hsort.2.2 y hy x (List.mem_cons_self ..);omega
        · have:=List.rel_of_pairwise_cons hsort.2.1 hy;omega
      refine k4.wp hE hC hI (fun d hd=>Zqb1 hin oi (by rw [Array.mem_toList_iff];exact Array.mem_of_getElem? hoi) d hd) fun g' a' w' hI' hs=>?_
      refine ih (pre++post) (listed.setIfInBounds x.1 true) σ1 g' a' w' ?_ (hsort.sublist hsub) (fun y hy=>hlt y (hsub.subset hy)) (by simp [hsz]) ?_ ?_ (hpw.sublist hsub) k5 hI' (by rw [hs];exact hin) fun g2 a2 w2 hI2 hs2=>hq g2 a2 w2 hI2 (hs2.trans hs)
      · simp only [List.length_append,List.length_cons] at hlen ⊢;omega
      · intro j hj
        by_cases hjx:j=x.1
        · subst hjx
          have:(listed.setIfInBounds x.1 true).getD x.1 true=true:=by simp [hsz,hilt]
          rw [this]
          constructor
          · intro h;cases h
          · rintro ⟨y,hy,hye⟩;exact absurd hye (hnot y hy)
        · rw [getD_set_ne true (Ne.symm hjx),hls j hj]
          constructor
          · rintro ⟨y,hy,rfl⟩
            refine ⟨y,?_,rfl⟩
            rcases List.mem_append.1 hy with hy | hy
            · exact List.mem_append_left _ hy
            · rcases List.mem_cons.1 hy with rfl | hy
              · exact absurd rfl hjx
              · exact List.mem_append_right _ hy
          · rintro ⟨y,hy,rfl⟩;exact ⟨y,hsub.subset hy,rfl⟩
      · intro m o' ho' hm e he hbe
        by_cases hmx:m=x.1
        · subst hmx
          rw [hoi] at ho'
          cases ho'
          exact getD_set_true (hall e (by simpa using he) hbe)
        · rw [getD_set_ne false (Ne.symm hmx)] at hm
          exact getD_set_true (hdc m o' ho' hm e he hbe)
theorem Zdn1 {l:List Ft} {M:List Nat}:ordR E ops M l=true→l.reverse.Pairwise (fun y x=>precB M y.1 x.1=true∨indB E ops y x=true):=by
  induction l with
  | nil=>intro _;exact List.Pairwise.nil
  | cons x l ih=>
    intro h
    unfold ordR at h
    rw [Bool.and_eq_true] at h
    rw [List.reverse_cons,List.pairwise_append]
    refine ⟨ih h.2,List.pairwise_singleton _ _,fun y hy z hz=>?_⟩
    cases List.mem_singleton.1 hz
    have:=List.all_eq_true.1 h.1 y (List.mem_reverse.1 hy)
    simpa using this
theorem dr_ok (hE:EnvOk P E) (hC:Zgf P E) (hm:P.follows .mixedOrders=true) (n:Nat):DrOk P B ok0 w0 R n (drE E):=by
  intro ops σ k r id Q g a w hn h hI hs hq
  unfold drE at h
  cases hb:backB ops with
  | false=>rw [hb] at h;cases h
  | true=>
    rw [hb] at h
    obtain ⟨acc,τ,h1,h2,h3⟩:=Zbn1 (ops:=ops) (l:=ops.toList) (i:=0) (σ0:=σ) (acc:=[]) (fun j=>by simp) rfl rfl h
    cases ho:ordR E ops (masks ops ops.size) acc with
    | false=>rw [ho] at h3;cases h3
    | true=>
      rw [ho] at h3
      have hI':Inv B ok0 w0 g σ a { w with drawn:=w.drawn+1 }:=hI.grown ⟨rfl,rfl,rfl,Nat.le_refl _,fun _ _=>rfl⟩
      have hmap:acc.reverse.map (·.1)=List.range ops.size:=by rw [h2];simp
      have hmem:∀ i,i<ops.size↔∃ x∈acc.reverse,x.1=i:=fun i=>by
        rw [← List.mem_range,← hmap,List.mem_map]
      refine wp_region_any hm (Zgl3 hE hC hb ops.size acc.reverse _ σ g a _ ?_ ?_ (fun x hx=>(hmem _).2 ⟨x,hx,rfl⟩) (by simp) (fun i hi=>?_) (fun m o _ hm=>?_) (Zdn1 ho) h1 hI' (by rw [hs];exact hn)
        fun g' a' w' hI2 hs2=>hq τ h3 g' a' w' hI2 (hs2.trans hs))
      · have:=congrArg List.length hmap
        simpa using this
      · have:(acc.reverse.map (·.1)).Pairwise (· < ·):=by rw [hmap];exact List.pairwise_lt_range
        exact List.pairwise_map.1 this
      · constructor
        · intro _;exact (hmem i).1 hi
        · intro _;simp [hi]
      · exfalso
        by_cases hms:m<ops.size
        · simp [hms] at hm
        · simp [hms] at hm
end
end Go.AM
end
