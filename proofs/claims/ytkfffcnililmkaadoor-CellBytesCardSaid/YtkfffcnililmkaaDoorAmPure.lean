/- Operations that only read: what they answer hangs on their operands and on the boxes that these lead to. -/
import Derived.Test.YtkfffcnililmkaaDoorAmLoc2
namespace Go.AM
open Go.RowKit (Below)
set_option linter.unusedSectionVars false
variable [Lay]

/-- The same, but for the mark that it stays as it is. -/
def CEq (a b : Option Con) : Prop := a = b ∨ ∃ e l f f', a = some (.arr e l f) ∧ b = some (.arr e l f')

def idsA : AV → List Nat
  | .ptr id _ _ | .aptr id _ _ _ | .slw id _ | .slm id _ _ _ => [id]
  | .clo _ ps => ps.map (·.1)
  | _ => []

def Near (I : List Nat) (σ ρ : St) : Prop := ∀ id ∈ I, ρ.v id = σ.v id ∧ CEq (σ.c id) (ρ.c id)

def Step.reM (ρ : St) (d : Option Nat) : Step → Step
  | .no => .no
  | .go c σ => .go c (ρ.setT d (dv σ d))
  | .call α m f => .call α m fun x => ρ.setT d (dv (f x) d)

def pureOp (E : Env) (o : Oper) : Bool :=
  match o.op with
  | .move _ | .assign _ => !bxAt E o.dst
  | .build .. | .load .. | .nilCheck _ | .binOp .. | .unOp .. | .convert .. | .slice .. | .fieldAddr .. | .field .. | .indexAddr .. | .index .. | .extract .. | .pick .. => true
  | .makeFunc _ _ q => decide (q.size = 0)
  | .call c => match c.callee with
    | .builtin .len | .builtin .min | .builtin .max => true
    | _ => false
  | _ => false

section
variable {E : Env} {o : Oper} {σ ρ : St}

theorem set_dv (ρ : St) (d : Option Nat) (a : AV) : ρ.setT d (dv (σ.setT d a) d) = ρ.setT d a := by
  cases d with
  | none => rfl
  | some d => show ρ.setT (some d) (fset σ.t d a d) = _; rw [fset_self]

theorem put_reM (a : AV) : put o ρ a = (put o σ a).reM ρ o.dst := by
  unfold put Step.reM; dsimp only; rw [set_dv]
theorem chk_reM (c : Bool) (a : AV) : chk o c ρ a = (chk o c σ a).reM ρ o.dst := by
  unfold chk Step.reM; dsimp only; rw [set_dv]


theorem Near.head {id : Nat} {I : List Nat} (h : Near (id :: I) σ ρ) : ρ.v id = σ.v id ∧ CEq (σ.c id) (ρ.c id) := h id (List.mem_cons_self ..)

theorem loadOne_reM (T : Nat) (e : Ty) (l : List e.D) (off : Nat) : loadOne E T o ρ e l off = (loadOne E T o σ e l off).reM ρ o.dst := by
  unfold loadOne
  ((repeat' split) <;> first | rfl | exact put_reM _ | exact chk_reM _ _ | (simp_all; done))

theorem loadArr_reM (m : Nat) (e' e : Ty) (l : List e.D) : loadArr o ρ m e' e l = (loadArr o σ m e' e l).reM ρ o.dst := by
  unfold loadArr
  ((repeat' split) <;> first | rfl | exact put_reM _ | exact chk_reM _ _ | (simp_all; done))

theorem move_reM (x : AV) (h : bxAt E o.dst = false) : move' E o ρ x = (move' E o σ x).reM ρ o.dst := by
  unfold move'
  split
  · rename_i d hd
    rw [hd] at h
    simp only [bxAt] at h
    rw [h]
    exact put_reM _
  · exact put_reM _

theorem load_reM (T : Nat) (a : AV) (h : Near (idsA a) σ ρ) : load' E T o ρ a = (load' E T o σ a).reM ρ o.dst := by
  unfold load'
  cases a with
  | ptr id ver off =>
    obtain ⟨hv, hc⟩ := h.head
    rcases hc with hc | ⟨e, l, f, f', h1, h2⟩
    · dsimp only; rw [hv, ← hc]; ((repeat' split) <;> first | rfl | exact put_reM _ | exact chk_reM _ _ | exact loadOne_reM _ _ _ _ | exact loadArr_reM _ _ _ _ | (simp_all; done))
    · dsimp only; rw [hv, h1, h2]; (try dsimp only); ((repeat' split) <;> first | rfl | exact put_reM _ | exact chk_reM _ _ | exact loadOne_reM _ _ _ _ | exact loadArr_reM _ _ _ _ | (simp_all; done))
  | aptr id ver i off =>
    obtain ⟨hv, hc⟩ := h.head
    rcases hc with hc | ⟨e, l, f, f', h1, h2⟩
    · dsimp only; rw [hv, ← hc]; ((repeat' split) <;> first | rfl | exact put_reM _ | exact chk_reM _ _ | (simp_all; done))
    · dsimp only; rw [hv, h1, h2]; (try dsimp only); ((repeat' split) <;> first | rfl | exact put_reM _ | exact chk_reM _ _ | (simp_all; done))
  | ept t x off => ((repeat' split) <;> first | rfl | exact put_reM _ | exact chk_reM _ _ | (simp_all; done))
  | _ => rfl

theorem fieldAddr_reM (S f : Nat) (x : AV) (h : Near (idsA x) σ ρ) : fieldAddr' E S f o ρ x = (fieldAddr' E S f o σ x).reM ρ o.dst := by
  unfold fieldAddr'
  split
  · cases x with
    | ptr id ver off => obtain ⟨hv, hc⟩ := h.head; dsimp only; rw [hv]; ((repeat' split) <;> first | rfl | exact put_reM _ | exact chk_reM _ _ | (simp_all; done))
    | aptr id ver i off => obtain ⟨hv, hc⟩ := h.head; dsimp only; rw [hv]; ((repeat' split) <;> first | rfl | exact put_reM _ | exact chk_reM _ _ | (simp_all; done))
    | ept t x off => ((repeat' split) <;> first | rfl | exact put_reM _ | exact chk_reM _ _ | (simp_all; done))
    | _ => rfl
  · rfl

theorem nil_reM (x : AV) (h : Near (idsA x) σ ρ) : (match x with
    | .ptr id ver off => if ρ.v id = ver then put o ρ (.ptr id ver off) else .no
    | .aptr id ver i off => if ρ.v id = ver then put o ρ (.aptr id ver i off) else .no
    | .ept t x off => put o ρ (.ept t x off)
    | _ => .no) = Step.reM ρ o.dst (match x with
    | .ptr id ver off => if σ.v id = ver then put o σ (.ptr id ver off) else .no
    | .aptr id ver i off => if σ.v id = ver then put o σ (.aptr id ver i off) else .no
    | .ept t x off => put o σ (.ept t x off)
    | _ => .no) := by
  cases x with
  | ptr id ver off => obtain ⟨hv, hc⟩ := h.head; dsimp only; rw [hv]; ((repeat' split) <;> first | rfl | exact put_reM _ | exact chk_reM _ _ | (simp_all; done))
  | aptr id ver i off => obtain ⟨hv, hc⟩ := h.head; dsimp only; rw [hv]; ((repeat' split) <;> first | rfl | exact put_reM _ | exact chk_reM _ _ | (simp_all; done))
  | ept t x off => exact put_reM _
  | _ => rfl

theorem indexAddr_reM (T : Nat) (x i : AV) (h : Near (idsA x) σ ρ) : indexAddr' E T o ρ x i = (indexAddr' E T o σ x i).reM ρ o.dst := by
  unfold indexAddr'
  split
  · cases x with
    | ptr id ver off =>
      obtain ⟨hv, hc⟩ := h.head
      cases off with
      | succ n => rfl
      | zero =>
        show (match E.ar T, ρ.c id with
          | some (n, e), some (.arr e' l _) => if ρ.v id = ver ∧ e.sz = e'.sz then chk o (inB _ n && decide (n = List.length (α := e'.D) l)) ρ (.aptr id ver (Int.toNat _) 0) else .no
          | _, _ => .no) = Step.reM ρ o.dst (match E.ar T, σ.c id with
          | some (n, e), some (.arr e' l _) => if σ.v id = ver ∧ e.sz = e'.sz then chk o (inB _ n && decide (n = List.length (α := e'.D) l)) σ (.aptr id ver (Int.toNat _) 0) else .no
          | _, _ => .no)
        rcases hc with hc | ⟨e, l, f, f', h1, h2⟩
        · rw [hv, ← hc]; ((repeat' split) <;> first | rfl | exact put_reM _ | exact chk_reM _ _ | (simp_all; done))
        · rw [hv, h1, h2]
          cases E.ar T with
          | none => rfl
          | some p => dsimp only; ((repeat' split) <;> first | rfl | exact put_reM _ | exact chk_reM _ _ | (simp_all; done))
    | slw id ver =>
      obtain ⟨hv, hc⟩ := h.head
      dsimp only
      rcases hc with hc | ⟨e, l, f, f', h1, h2⟩
      · rw [hv, ← hc]; ((repeat' split) <;> first | rfl | exact put_reM _ | exact chk_reM _ _ | (simp_all; done))
      · rw [hv, h1, h2]
        cases E.ty T with
        | none => rfl
        | some u => cases u with
          | sl e' => dsimp only; ((repeat' split) <;> first | rfl | exact put_reM _ | exact chk_reM _ _ | (simp_all; done))
          | _ => rfl
    | slm id ver lo n =>
      obtain ⟨hv, hc⟩ := h.head
      dsimp only
      rcases hc with hc | ⟨e, l, f, f', h1, h2⟩
      · rw [hv, ← hc]; ((repeat' split) <;> first | rfl | exact put_reM _ | exact chk_reM _ _ | (simp_all; done))
      · rw [hv, h1, h2]
        cases E.ty T with
        | none => rfl
        | some u => cases u with
          | sl e' => dsimp only; ((repeat' split) <;> first | rfl | exact put_reM _ | exact chk_reM _ _ | (simp_all; done))
          | _ => rfl
    | dat t y g => ((repeat' split) <;> first | rfl | exact put_reM _ | exact chk_reM _ _ | (simp_all; done))
    | _ => rfl
  · rfl

theorem content_near (e : Ty) (x : AV) (h : Near (idsA x) σ ρ) : content ρ e x = content σ e x := by
  unfold content
  cases x with
  | slw id ver =>
    obtain ⟨hv, hc⟩ := h.head
    rcases hc with hc | ⟨e, l, f, f', h1, h2⟩
    · dsimp only; rw [hv, ← hc]
    · dsimp only; rw [hv, h1, h2]
  | slm id ver lo n =>
    obtain ⟨hv, hc⟩ := h.head
    rcases hc with hc | ⟨e, l, f, f', h1, h2⟩
    · dsimp only; rw [hv, ← hc]
    · dsimp only; rw [hv, h1, h2]
  | _ => rfl

theorem len_reM (T : Option Ty) (x : AV) (h : Near (idsA x) σ ρ) : len' T o ρ x = (len' T o σ x).reM ρ o.dst := by
  unfold len'
  cases x with
  | slw id ver =>
    obtain ⟨hv, hc⟩ := h.head
    rcases hc with hc | ⟨e, l, f, f', h1, h2⟩
    · dsimp only; rw [hv, ← hc]; ((repeat' split) <;> first | rfl | exact put_reM _ | exact chk_reM _ _ | (simp_all; done))
    · dsimp only; rw [hv, h1, h2]; (try dsimp only); ((repeat' split) <;> first | rfl | exact put_reM _ | exact chk_reM _ _ | (simp_all; done))
  | slm id ver lo n => obtain ⟨hv, hc⟩ := h.head; dsimp only; rw [hv]; ((repeat' split) <;> first | rfl | exact put_reM _ | exact chk_reM _ _ | (simp_all; done))
  | _ => ((repeat' split) <;> first | rfl | exact put_reM _ | exact chk_reM _ _ | (simp_all; done))

theorem convert_reM (s d : Nat) (x : AV) (h : Near (idsA x) σ ρ) : convert' E s d o ρ x = (convert' E s d o σ x).reM ρ o.dst := by
  unfold convert'
  rw [content_near _ x h]
  ((repeat' split) <;> first | rfl | exact put_reM _ | exact chk_reM _ _ | (simp_all; done))

theorem slice_reM (T : Nat) (x : AV) (lo hi : Option Operand) (ht : ρ.t = σ.t) (h : Near (idsA x) σ ρ) : slice' E T o ρ x lo hi = (slice' E T o σ x lo hi).reM ρ o.dst := by
  have hb : ∀ d x, bnd ρ d x = bnd σ d x := fun d x => by
    cases x with
    | none => rfl
    | some y => unfold bnd; dsimp only; rw [opd_t ht]
  unfold slice'
  simp only [hb]
  cases x with
  | dat t y g => ((repeat' split) <;> first | rfl | exact put_reM _ | exact chk_reM _ _ | (simp_all; done))
  | ptr id ver off =>
    obtain ⟨hv, hc⟩ := h.head
    cases off with
    | succ n => rfl
    | zero =>
      show (match E.ar T, ρ.c id with
        | some (n, e), some (.arr e' s _) => if ρ.v id = ver ∧ e.sz = e'.sz then
            match bnd σ 0 lo, bnd σ n hi with
            | some l, some h => chk o (inC l h n && decide (n = List.length (α := e'.D) s)) ρ (.slm id ver l.toNat (h.toNat - l.toNat))
            | _, _ => .no
          else .no
        | _, _ => .no) = Step.reM ρ o.dst (match E.ar T, σ.c id with
        | some (n, e), some (.arr e' s _) => if σ.v id = ver ∧ e.sz = e'.sz then
            match bnd σ 0 lo, bnd σ n hi with
            | some l, some h => chk o (inC l h n && decide (n = List.length (α := e'.D) s)) σ (.slm id ver l.toNat (h.toNat - l.toNat))
            | _, _ => .no
          else .no
        | _, _ => .no)
      rcases hc with hc | ⟨e, l, f, f', h1, h2⟩
      · rw [hv, ← hc]; ((repeat' split) <;> first | rfl | exact put_reM _ | exact chk_reM _ _ | (simp_all; done))
      · rw [hv, h1, h2]
        cases E.ar T with
        | none => rfl
        | some p => dsimp only; ((repeat' split) <;> first | rfl | exact put_reM _ | exact chk_reM _ _ | (simp_all; done))
  | slw id ver =>
    obtain ⟨hv, hc⟩ := h.head
    dsimp only
    rcases hc with hc | ⟨e, l, f, f', h1, h2⟩
    · rw [hv, ← hc]; ((repeat' split) <;> first | rfl | exact put_reM _ | exact chk_reM _ _ | (simp_all; done))
    · rw [hv, h1, h2]
      cases E.ty T with
      | none => rfl
      | some u => cases u with
        | sl e' => dsimp only; ((repeat' split) <;> first | rfl | exact put_reM _ | exact chk_reM _ _ | (simp_all; done))
        | _ => rfl
  | slm id ver lo n =>
    obtain ⟨hv, hc⟩ := h.head
    dsimp only
    rcases hc with hc | ⟨e, l, f, f', h1, h2⟩
    · rw [hv, ← hc]; ((repeat' split) <;> first | rfl | exact put_reM _ | exact chk_reM _ _ | (simp_all; done))
    · rw [hv, h1, h2]
      cases E.ty T with
      | none => rfl
      | some u => cases u with
        | sl e' => dsimp only; ((repeat' split) <;> first | rfl | exact put_reM _ | exact chk_reM _ _ | (simp_all; done))
        | _ => rfl
  | _ => rfl

theorem binInt_reM (op : BinOp) (k j : IntKind) (a b : Int) : binInt op o ρ k j a b = (binInt op o σ k j a b).reM ρ o.dst := by
  unfold binInt; ((repeat' split) <;> first | rfl | exact put_reM _ | exact chk_reM _ _ | (simp_all; done))
theorem binStr_reM (op : BinOp) (a b : ByteArray) : binStr op o ρ a b = (binStr op o σ a b).reM ρ o.dst := by
  unfold binStr; ((repeat' split) <;> first | rfl | exact put_reM _ | exact chk_reM _ _ | (simp_all; done))
theorem binOp_reM (T : Nat) (op : BinOp) (x y : AV) : binOp' E T op o ρ x y = (binOp' E T op o σ x y).reM ρ o.dst := by
  unfold binOp'
  split
  · split
    · exact binInt_reM _ _ _ _ _
    · exact binStr_reM _ _ _
    · split
      · split
        · split
          · exact put_reM _
          · exact put_reM _
          · rfl
        · rfl
      · rfl
  · rfl

end
end Go.AM
