/- Two operations that do not meddle with one another may change places. -/
import Derived.Test.YtkfffcnililmkaaDoorAmPure
namespace Go.AM
open Go.RowKit (Below)
set_option linter.unusedSectionVars false
variable [Lay]

def reads (σ : St) (o : Oper) : List Nat := o.op.operands.toList.flatMap fun x => idsA (opd σ x)

def wr (E : Env) (σ : St) (o : Oper) : List Nat :=
  match o.op with
  | .store _ a _ => idsA (opd σ a)
  | .move _ | .assign _ => bif bxAt E o.dst then o.dst.toList else []
  | .call c => match c.callee with
    | .builtin .append => match c.args.toList with
      | s :: _ => idsA (opd σ s)
      | [] => []
    | .value f => argIds σ c.args.toList ++ idsA (opd σ f)
    | _ => []
  | .alloc _ | .box .. | .makeSlice .. => o.dst.toList
  | .makeFunc _ _ q => q.toList.flatMap fun x => idsA (opd σ x)
  | _ => []

section
variable {E : Env} {o : Oper} {σ ρ σ' : St} {ops : Array Oper}

theorem Near.sub {I J : List Nat} (h : Near I σ ρ) (hs : ∀ x ∈ J, x ∈ I) : Near J σ ρ := fun id hid => h id (hs id hid)

theorem near_op {x : Operand} (h : Near (reads σ o) σ ρ) (hx : x ∈ o.op.operands) : Near (idsA (opd σ x)) σ ρ :=
  h.sub fun y hy => List.mem_flatMap.2 ⟨x, by simpa using hx, hy⟩

theorem evOp_reM (hp : pureOp E o = true) (hnp : ∀ c x y, o.op ≠ .pick c x y) (ht : ρ.t = σ.t) (h : Near (reads σ o) σ ρ) : evOp E ρ o = (evOp E σ o).reM ρ o.dst := by
  have hn : ∀ x ∈ o.op.operands, Near (idsA (opd σ x)) σ ρ := fun x hx => near_op h hx
  unfold pureOp at hp
  unfold evOp
  cases ho : o.op <;> rw [ho] at hp hn <;> (try dsimp only)
  case move x => rw [opd_t ht]; exact move_reM _ (by simpa using hp)
  case assign x => rw [opd_t ht]; exact move_reM _ (by simpa using hp)
  case build T ps =>
    split
    · split
      · have : build' E T ρ = build' E T σ := by
          funext t ps z g
          have hb : ∀ (ps : List (Nat × Operand)) (z : t.D) (g : List Tag), build' E T ρ t ps z g = build' E T σ t ps z g := by
            intro ps
            induction ps with
            | nil => intro z g; rfl
            | cons p ps ih => intro z g; obtain ⟨f, x⟩ := p; unfold build'; rw [opd_t ht]; simp only [ih]
          exact hb ps z g
        rw [this]
        split
        · exact put_reM _
        · rfl
      · rfl
    · rfl
  case load T x => rw [opd_t ht]; exact load_reM T _ (hn x (by simp [Op.operands]))
  case nilCheck x =>
    rw [opd_t ht]
    have hx := hn x (by simp [Op.operands])
    revert hx
    generalize opd σ x = y
    intro hx
    cases y with
    | ptr id ver off => obtain ⟨hv, hc⟩ := hx.head; dsimp only; rw [hv]; ((repeat' split) <;> first | rfl | exact put_reM _ | exact chk_reM _ _ | (simp_all; done))
    | aptr id ver i off => obtain ⟨hv, hc⟩ := hx.head; dsimp only; rw [hv]; ((repeat' split) <;> first | rfl | exact put_reM _ | exact chk_reM _ _ | (simp_all; done))
    | ept t x off => exact put_reM _
    | _ => rfl
  case binOp op T x y U => rw [opd_t ht, opd_t ht]; exact binOp_reM T op _ _
  case unOp op T x => rw [opd_t ht]; unfold unOp'; ((repeat' split) <;> first | rfl | exact put_reM _ | exact chk_reM _ _ | (simp_all; done))
  case convert s d x => rw [opd_t ht]; exact convert_reM s d _ (hn x (by simp [Op.operands]))
  case makeFunc fn p q =>
    have hq : q = #[] := Array.eq_empty_of_size_eq_zero (of_decide_eq_true hp)
    subst hq
    cases fn with
    | func f =>
      dsimp only
      split
      · cases bxAt E o.dst with
        | true => exact put_reM _
        | false => exact put_reM _
      · rfl
    | _ => rfl
  case slice T x lo hi mx =>
    cases mx with
    | none => dsimp only; rw [opd_t ht]; exact slice_reM T _ lo hi ht (hn x (by simp [Op.operands]))
    | some m => rfl
  case fieldAddr S x f => rw [opd_t ht]; exact fieldAddr_reM S f _ (hn x (by simp [Op.operands]))
  case field S x f => rw [opd_t ht]; unfold field'; ((repeat' split) <;> first | rfl | exact put_reM _ | exact chk_reM _ _ | (simp_all; done))
  case indexAddr T x i => rw [opd_t ht, opd_t ht]; exact indexAddr_reM T _ _ (hn x (by simp [Op.operands]))
  case index T x i => rw [opd_t ht, opd_t ht]; unfold index'; ((repeat' split) <;> first | rfl | exact put_reM _ | exact chk_reM _ _ | (simp_all; done))
  case extract x i => rw [opd_t ht]; unfold extract'; ((repeat' split) <;> first | rfl | exact put_reM _ | exact chk_reM _ _ | (simp_all; done))
  case pick c x y => exact absurd ho (hnp c x y)
  case call c =>
    unfold call'
    dsimp only at hp
    have hopd : opd ρ = opd σ := funext fun x => opd_t ht x
    rw [hopd]
    split
    · rename_i b hb
      split
      · rename_i x T ha hat
        exact len_reM _ _ (hn x (by
          simp only [Op.operands, Call.operands, hb]
          exact Array.mem_append.2 (.inr (by rw [← Array.mem_toList_iff, ha]; simp))))
      · rename_i s x T U ha hat; rw [hb] at hp; cases hp
      · unfold minmax'; ((repeat' split) <;> first | rfl | exact put_reM _ | exact chk_reM _ _ | (simp_all; done))
      · unfold minmax'; ((repeat' split) <;> first | rfl | exact put_reM _ | exact chk_reM _ _ | (simp_all; done))
      · rfl
    · rename_i f hf; rw [hf] at hp; cases hp
    · rfl
  all_goals cases hp

theorem Step.reM_to {s : Step} (h : s.to σ') : (s.reM ρ o.dst).to (ρ.setT o.dst (dv σ' o.dst)) := by
  cases s with
  | no => exact h
  | go c σ1 => obtain ⟨rfl, rfl⟩ := h; exact ⟨rfl, rfl⟩
  | call α m f => obtain ⟨x, hx, rfl⟩ := h; exact ⟨x, hx, rfl⟩

theorem Step.to_unique {s : Step} {a b : St} (ha : s.to a) (hb : s.to b) : a = b := by
  cases s with
  | no => exact ha.elim
  | go c σ1 => exact ha.2.trans hb.2.symm
  | call α m f => obtain ⟨x, hx, rfl⟩ := ha; obtain ⟨y, hy, rfl⟩ := hb; rw [hx] at hy; cases hy; rfl

theorem near_refl (I : List Nat) (σ : St) : Near I σ σ := fun _ _ => ⟨rfl, .inl rfl⟩

theorem one_pure (hp : pureOp E o = true) (hg : OneTo E σ o σ') : σ' = σ.setT o.dst (dv σ' o.dst) ∧ ∀ ρ, ρ.t = σ.t → Near (reads σ o) σ ρ → OneTo E ρ o (ρ.setT o.dst (dv σ' o.dst)) := by
  unfold OneTo at *
  split at hg
  · rename_i c x y ho
    obtain ⟨t, gs, hc, rfl⟩ := hg
    refine ⟨(set_dv _ _ _).symm, fun ρ ht _ => ⟨t, gs, (opd_t ht c).trans hc, ?_⟩⟩
    rw [set_dv, opd_t ht x, opd_t ht y]
  · rename_i hnp
    have h1 := evOp_reM (E := E) hp hnp (ρ := σ) rfl (near_refl _ _)
    have h2 := Step.reM_to (ρ := σ) (o := o) hg
    rw [← h1] at h2
    refine ⟨Step.to_unique hg h2, fun ρ ht hn => ?_⟩
    rw [evOp_reM hp hnp ht hn]
    exact Step.reM_to hg

theorem gto_pure (hp : pureOp E o = true) (hg : GTo E ops o σ σ') : σ' = σ.setT o.dst (dv σ' o.dst) ∧ ∀ ρ, ρ.t = σ.t → Near (reads σ o) σ ρ → GTo E ops o ρ (ρ.setT o.dst (dv σ' o.dst)) := by
  unfold GTo at *
  split at hg
  · exact one_pure hp hg
  · split at hg
    · subst hg; exact ⟨(set_dv _ _ _).symm, fun ρ ht _ => by rw [set_dv]⟩
    · rename_i s hs
      split at hg
      · rename_i hv
        subst hg
        refine ⟨(set_dv _ _ _).symm, fun ρ ht _ => ?_⟩
        rw [ht, hv, set_dv]
      · rename_i b gs hv
        split at hg
        · rename_i he
          subst he
          obtain ⟨h1, h2⟩ := one_pure hp hg
          refine ⟨h1, fun ρ ht hn => ?_⟩
          rw [ht, hv]
          dsimp only
          rw [if_pos rfl]
          exact h2 ρ ht hn
        · rename_i he
          subst hg
          refine ⟨(set_dv _ _ _).symm, fun ρ ht _ => ?_⟩
          rw [ht, hv, set_dv]
          dsimp only
          rw [if_neg he]
      · exact hg.elim

/-- What is not written is as it was. -/
def Kept (W : List Nat) (σ σ' : St) : Prop := ∀ id, id ∉ W → σ'.v id = σ.v id ∧ CEq (σ.c id) (σ'.c id)

theorem Kept.set (W : List Nat) (ρ : St) (d : Option Nat) (a : AV) (h : Kept W σ ρ) : Kept W σ (ρ.setT d a) := by
  cases d <;> exact h

theorem kept_refl (W : List Nat) (σ : St) : Kept W σ σ := fun _ _ => ⟨rfl, .inl rfl⟩
theorem kept_bump (W : List Nat) (σ : St) (i : Nat) : Kept W σ (σ.bump i) := fun _ _ => ⟨rfl, .inl rfl⟩

theorem CEq.trans {a b c : Option Con} (h : CEq a b) (k : CEq b c) : CEq a c := by
  rcases h with rfl | ⟨e, l, f, f', rfl, rfl⟩
  · exact k
  · rcases k with rfl | ⟨e, l, f, f', h1, rfl⟩
    · exact .inr ⟨_, _, _, _, rfl, rfl⟩
    · cases h1; exact .inr ⟨_, _, _, _, rfl, rfl⟩

theorem CEq.symm {a b : Option Con} (h : CEq a b) : CEq b a := by
  rcases h with rfl | ⟨e, l, f, f', rfl, rfl⟩
  · exact .inl rfl
  · exact .inr ⟨_, _, _, _, rfl, rfl⟩

theorem Kept.trans {W : List Nat} {a b c : St} (h : Kept W a b) (k : Kept W b c) : Kept W a c := fun id hid =>
  ⟨(k id hid).1.trans (h id hid).1, (h id hid).2.trans (k id hid).2⟩

def StepKept (W : List Nat) (σ : St) (s : Step) : Prop := ∀ σ', s.to σ' → Kept W σ σ'

theorem put_kept (W : List Nat) (a : AV) : StepKept W σ (put o σ a) := by
  rintro _ ⟨_, rfl⟩; exact (kept_refl W σ).set _ _ _ _
theorem chk_kept (W : List Nat) (c : Bool) (a : AV) : StepKept W σ (chk o c σ a) := by
  rintro _ ⟨_, rfl⟩; exact (kept_refl W σ).set _ _ _ _

theorem kept_newBox {d : Nat} (k : Con) : Kept [d] σ (σ.newBox d k) := fun id hid => by
  have hne : id ≠ d := fun e => hid (by simp [e])
  unfold St.newBox
  dsimp only
  rw [fset_eq, if_neg hne, fset_eq, if_neg hne]
  exact ⟨rfl, .inl rfl⟩

theorem kept_setBox {d : Nat} (k : Con) : Kept [d] σ (σ.setBox d k) := fun id hid => by
  have hne : id ≠ d := fun e => hid (by simp [e])
  unfold St.setBox
  dsimp only
  rw [fset_eq, if_neg hne]
  exact ⟨rfl, .inl rfl⟩

theorem kept_freeze {W : List Nat} {id : Nat} {e : Ty} {l : List e.D} {f f' : Bool} (h : σ.c id = some (.arr e l f)) : Kept W σ (σ.setBox id (.arr e l f')) := fun i _ => by
  unfold St.setBox
  dsimp only
  rw [fset_eq]
  by_cases hi : i = id
  · subst hi; rw [if_pos rfl, h]; exact ⟨rfl, .inr ⟨_, _, _, _, rfl, rfl⟩⟩
  · rw [if_neg hi]; exact ⟨rfl, .inl rfl⟩

theorem arg_kept {W : List Nat} {T : Nat} {x a : AV} {σ1 : St} (h : arg' E T σ x = some (a, σ1)) : Kept W σ σ1 := by
  unfold arg' at h
  split at h
  · cases h; exact kept_refl _ _
  · split at h
    · cases h; exact kept_refl _ _
    · cases h
  · split at h
    · split at h
      · rename_i hc; cases h; exact kept_freeze hc
      · cases h
    · cases h
  · split at h
    · split at h
      · rename_i hc; cases h; exact kept_freeze hc
      · cases h
    · cases h
  · cases h; exact kept_refl _ _
  · cases h; exact kept_refl _ _
  · split at h
    · split at h
      · cases h; exact kept_refl _ _
      · cases h
    · cases h
  · cases h

theorem kept_setIos : ∀ (ids : List Nat) (ds : List Dat) (σ : St), Kept ids σ (setIos ids ds σ)
  | [], _, σ => kept_refl _ _
  | _ :: _, [], σ => kept_refl _ _
  | id :: ids, d :: ds, σ => fun i hi => by
    have h1 := kept_setBox (σ := σ) (d := id) (.var d.t d.x []) i (fun hm => hi (by rw [List.mem_singleton.1 hm]; exact List.mem_cons_self ..))
    have h2 := kept_setIos ids ds (σ.setBox id (.var d.t d.x [])) i (fun hm => hi (List.mem_cons_of_mem _ hm))
    exact ⟨h2.1.trans h1.1, h1.2.trans h2.2⟩

theorem args_kept {W : List Nat} : ∀ {ps : List (Operand × Nat)} {σ σ1 : St} {l : List AV}, args' E ps σ = some (l, σ1) → Kept W σ σ1
  | [], σ, σ1, l, h => by cases h; exact kept_refl _ _
  | (x, T) :: ps, σ, σ1, l, h => by
    unfold args' at h
    split at h
    · rename_i a σ2 ha
      split at h
      · rename_i l2 σ3 hl
        cases h
        exact (arg_kept ha).trans (args_kept hl)
      · cases h
    · cases h

theorem imp_kept (W : List Nat) (a : AV) : Kept W σ (imp o σ a) := by
  unfold imp
  split
  · exact kept_refl _ _
  · split
    · simp only [impG_eq]; exact Kept.set _ _ _ _ fun _ _ => ⟨rfl, .inl rfl⟩
    · simp only [impD_eq]; exact Kept.set _ _ _ _ fun _ _ => ⟨rfl, .inl rfl⟩
    · exact Kept.set _ _ _ _ (kept_refl _ _)

theorem no_kept (W : List Nat) : StepKept W σ .no := fun _ h => h.elim
theorem go_kept {W : List Nat} {c : Bool} {ρ : St} {d : Option Nat} {a : AV} (h : Kept W σ ρ) : StepKept W σ (.go c (ρ.setT d a)) := by
  rintro _ ⟨_, rfl⟩; exact h.set _ _ _ _

end
end Go.AM
