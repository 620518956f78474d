/- What is known of this seat's package variables. -/
import Derived.Test.YtkfffcnililmkaaDoorAmGen
import Derived.Test.YtkfffcnililmkaaDoorAmPrim
import Derived.Test.YtkfffcnililmkaaDoorProg
import Derived.Shelf.Strconv.Itoa3
import Derived.Shelf.Strings.Replace
import Derived.Test.YtkfffcnililmkaaDoorSLays
import Derived.LaidSub
namespace Go.Proofs.YtkfffcnililmkaaDoor.Am
open Go.AM

def layOk (z : Nat) (w : World) : Prop :=
  z = 6 ∧ 6 ≤ w.heap.size ∧ Lib.TabIs Tryd.prog w "internal/strconv.uint64pow10" .u64 Lib.pow10Tab ∧ ∃ m, w.cell? ⟨0, 0, none⟩ = some (.int .i64 m)

theorem named5 : Tryd.prog.globalNamed "internal/strconv.uint64pow10" = some 5 := by kernel_rfl

noncomputable instance lay : Lay where
  ok := layOk
  lt := fun z w h => by rw [h.1]; exact h.2.1
  keep := fun z w w' h hs hk => by
    obtain ⟨hz, h8, ht, m, hm⟩ := h
    subst hz
    refine ⟨rfl, Nat.le_trans h8 hs, ?_, m, ?_⟩
    · unfold Lib.TabIs World.var? at ht ⊢
      rw [named5] at ht ⊢
      simp only [Option.bind_some] at ht ⊢
      rw [hk 5 (by omega)]
      exact ht
    · unfold World.cell? at hm ⊢
      dsimp only at hm ⊢
      rw [hk 0 (by omega)]
      exact hm

/-- From what a row lists, and the world's shape. -/
theorem layOf {l : List (String × DataW Unit)} {W : World} (hp : (l.all fun x => x.2.handleName?.isNone) = true) (hf : (l.filter fun x => x.1 == "internal/strconv.uint64pow10") = [("internal/strconv.uint64pow10", Lib.tabData .u64 Lib.pow10Tab)])
    (h : laidMetH Tryd.prog l W) (hs : W.ShapedOpen Tryd.prog) : Lay.ok 6 W := by
  have h1 : laidMet Tryd.prog l W := by
    have : (l.filter fun x => x.2.handleName?.isSome) = [] := List.filter_eq_nil_iff.2 fun x hx => by
      have := List.all_eq_true.1 hp x hx
      simpa using this
    unfold laidMetH at h
    rw [this] at h
    exact h
  have h2 := h1.filter fun x => x.1 == "internal/strconv.uint64pow10"
  rw [hf] at h2
  have ht : Lib.TabIs Tryd.prog W "internal/strconv.uint64pow10" .u64 Lib.pow10Tab :=
    Lib.tabIs_of_head (g := 5) (t := 122) (e := 67) (n := 20) named5 (by kernel_rfl) Tryd.underlying122 Tryd.underlying67 (by kernel_rfl) (by kernel_rfl) h2
  refine ⟨rfl, ?_, ht, lays155.s1_3 W hs⟩
  unfold Lib.TabIs World.var? at ht
  rw [named5, Option.bind_some] at ht
  have : 5 < W.heap.size := by
    rcases Nat.lt_or_ge 5 W.heap.size with h5 | h5
    · exact h5
    · rw [Array.getElem?_eq_none h5] at ht; cases ht
  omega

end Go.Proofs.YtkfffcnililmkaaDoor.Am
