import Derived.Test.YtboihdnijlilpaaDoorAmGen
import Derived.LaidSub
/- What a row lists of package variables. -/
namespace Go.AM

/-- A variable of an interface type that is listed as no nil. -/
theorem laid_iface {P : Program} {n nm : String} {d : DataW Unit} {r : List (String × DataW Unit)} {W : World} {g : Nat} {ti : TypeId} {ms : Array (String × TypeId)}
    (h : laidMet P ((n, .iface nm d) :: r) W) (hg : P.globalNamed n = some g) (ht : (P.globals[g]?).map (·.type) = some ti) (hi : P.underlying ti = some (.interface ms)) :
    ∃ t p, W.cell? ⟨g, 0, none⟩ = some (.iface t p) := by
  obtain ⟨ps, ⟨g0, t0, cs0, f0, p0, q0, hg0, ht0, hv0, hd0, _, _⟩, _, _⟩ := h
  obtain rfl := Option.some.inj (hg.symm.trans hg0)
  obtain rfl := Option.some.inj (ht.symm.trans ht0)
  have h0 := World.var?_cell hg0 hv0 0
  rw [h0]
  obtain ⟨l0⟩ := cs0
  cases f0 with
  | zero => cases hd0
  | succ f =>
    unfold DataW.trod at hd0
    rw [hi] at hd0
    split at hd0 <;> first | cases hd0 | (rename_i e1; cases e1) | skip
    all_goals first
      | (rename_i u v e1 e2; cases e1; subst e2; exact ⟨u, v, rfl⟩)
      | (simp_all; done)
      | skip

/-- A cell below z is still what it was. -/
theorem cell_keep {z g : Nat} {w w' : World} (hz : g < z) (hk : ∀ k, k < z → w'.heap[k]? = w.heap[k]?) : w'.cell? ⟨g, 0, none⟩ = w.cell? ⟨g, 0, none⟩ := by
  unfold World.cell?
  dsimp only
  rw [hk g hz]

theorem laidMet_of {P : Program} {l : List (String × DataW Unit)} {W : World} (hp : (l.all fun x => x.2.handleName?.isNone) = true) (h : laidMetH P l W) : laidMet P l W := by
  have : (l.filter fun x => x.2.handleName?.isSome) = [] := List.filter_eq_nil_iff.2 fun x hx => by
    have := List.all_eq_true.1 hp x hx
    simpa using this
  unfold laidMetH at h
  rw [this] at h
  exact h

theorem lt_of_cell {w : World} {g : Nat} {v : Value} (h : w.cell? ⟨g, 0, none⟩ = some v) : g < w.heap.size := by
  rcases Nat.lt_or_ge g w.heap.size with h5 | h5
  · exact h5
  · unfold World.cell? at h
    dsimp only at h
    rw [Array.getElem?_eq_none h5] at h
    cases h

end Go.AM
