import Derived.Test.YtboihdnijlilpaaDoorAmLaid
import Derived.Test.YtboihdnijlilpaaDoorAmPrim
import Derived.Test.YtboihdnijlilpaaDoorProg
import Derived.Test.YtboihdnijlilpaaDoorRows
import Derived.Shelf.Strconv.Itoa3
import Derived.Test.YtboihdnijlilpaaDoorSLays
/- What is known of this seat's package variables. PRINTED by gen/ of this repo. -/
namespace Go.Proofs.YtboihdnijlilpaaDoor.Am
open Go.AM

structure LayOk (z : Nat) (w : World) : Prop where
  z : z = 6
  lt : 6 ≤ w.heap.size
  f_pow10 : Lib.TabIs Tryd.prog w "internal/strconv.uint64pow10" .u64 Lib.pow10Tab
  f_maxlen : ∃ m, w.cell? ⟨0, 0, none⟩ = some (.int .i64 m)
  f_syntax : ∃ t p, w.cell? ⟨3, 0, none⟩ = some (.iface t p)
  f_range : ∃ t p, w.cell? ⟨4, 0, none⟩ = some (.iface t p)

theorem named_pow10 : Tryd.prog.globalNamed "internal/strconv.uint64pow10" = some 5 := by kernel_rfl

noncomputable instance lay : Lay where
  bld := 58
  byt := 5
  ok := LayOk
  lt := fun z w h => by rw [h.z]; exact h.lt
  keep := fun z w w' h hs hk => by
    obtain ⟨hz, h0, h_pow10, h_maxlen, h_syntax, h_range⟩ := h
    subst hz
    have k_pow10 : Lib.TabIs Tryd.prog w' "internal/strconv.uint64pow10" .u64 Lib.pow10Tab := by
      unfold Lib.TabIs World.var? at h_pow10 ⊢
      rw [named_pow10] at h_pow10 ⊢
      simp only [Option.bind_some] at h_pow10 ⊢
      rw [hk 5 (by omega)]
      exact h_pow10
    have k_maxlen : ∃ m, w'.cell? ⟨0, 0, none⟩ = some (.int .i64 m) := by
      rw [cell_keep (z := 6) (by omega) hk]
      exact h_maxlen
    have k_syntax : ∃ t p, w'.cell? ⟨3, 0, none⟩ = some (.iface t p) := by
      rw [cell_keep (z := 6) (by omega) hk]
      exact h_syntax
    have k_range : ∃ t p, w'.cell? ⟨4, 0, none⟩ = some (.iface t p) := by
      rw [cell_keep (z := 6) (by omega) hk]
      exact h_range
    exact ⟨rfl, Nat.le_trans h0 hs, k_pow10, k_maxlen, k_syntax, k_range⟩

/-- From what a row lists, and the world's shape. -/
theorem layOf {l : List (String × DataW Unit)} {W : World} (hp : (l.all fun x => x.2.handleName?.isNone) = true) (hf_pow10 : (l.filter fun x => x.1 == "internal/strconv.uint64pow10") = [("internal/strconv.uint64pow10", Lib.tabData .u64 Lib.pow10Tab)]) (hf_syntax : (l.filter fun x => x.1 == "strconv.ErrSyntax") = [("strconv.ErrSyntax", Rows.laid_strconv_ErrSyntax)]) (hf_range : (l.filter fun x => x.1 == "strconv.ErrRange") = [("strconv.ErrRange", Rows.laid_strconv_ErrRange)])
    (h : laidMetH Tryd.prog l W) (hs : W.ShapedOpen Tryd.prog) : Lay.ok 6 W := by
  have h1 := laidMet_of hp h
  have k_pow10 : Lib.TabIs Tryd.prog W "internal/strconv.uint64pow10" .u64 Lib.pow10Tab := by
    have h2 := h1.filter fun x => x.1 == "internal/strconv.uint64pow10"
    rw [hf_pow10] at h2
    exact Lib.tabIs_of_head (g := 5) (t := 122) (e := 103) (n := 20) named_pow10 (by kernel_rfl) Tryd.underlying122 Tryd.underlying103 (by kernel_rfl) (by kernel_rfl) h2
  have k_maxlen : ∃ m, W.cell? ⟨0, 0, none⟩ = some (.int .i64 m) := lays155.s1_3 W hs
  have k_syntax : ∃ t p, W.cell? ⟨3, 0, none⟩ = some (.iface t p) := by
    have h2 := h1.filter fun x => x.1 == "strconv.ErrSyntax"
    rw [hf_syntax] at h2
    exact laid_iface h2 (by kernel_rfl) (by kernel_rfl) Tryd.underlying61
  have k_range : ∃ t p, W.cell? ⟨4, 0, none⟩ = some (.iface t p) := by
    have h2 := h1.filter fun x => x.1 == "strconv.ErrRange"
    rw [hf_range] at h2
    exact laid_iface h2 (by kernel_rfl) (by kernel_rfl) Tryd.underlying61
  have hlt : 5 < W.heap.size := by
    have ht := k_pow10
    unfold Lib.TabIs World.var? at ht
    rw [named_pow10, Option.bind_some] at ht
    rcases Nat.lt_or_ge 5 W.heap.size with h5 | h5
    · exact h5
    · rw [Array.getElem?_eq_none h5] at ht; cases ht
  exact ⟨rfl, hlt, k_pow10, k_maxlen, k_syntax, k_range⟩

end Go.Proofs.YtboihdnijlilpaaDoor.Am
