/- Layer 17 (test) as plain functions: what tests, zones are. -/
import Derived.Test.YtggioofgjkedpaaAmPCell
namespace Go.AM.Pure
open Go.AM

abbrev Tst := Int × Cell
abbrev Zn := Cell × Cell × Int × Int

theorem eB_size : eB.size = 0 := rfl

theorem cell_Check_eq (c : Cell) : cell_Check c = if ref06_May c = true then 0 else 1 := by
  obtain ⟨k, n, s⟩ := c
  simp only [cell_Check, ref06_May, eqI_d, eqS_d, ltI_d, leI_d, lenS_d, cond_ite, decide_eq_true_eq, decide_true, Bool.true_and, Bool.not_eq_true', Bool.and_true]
  by_cases h0 : k = 0
  · subst h0
    by_cases hn : n = 0
    · by_cases hs : s = eB
      · subst hs; simp [hn, eB_size]
      · simp [hn, hs]
    · simp [hn]
  · by_cases h1 : k = 1
    · subst h1
      by_cases hs : s = eB
      · subst hs; simp [eB_size]
      · simp [hs]
    · by_cases h2 : k = 2
      · subst h2
        by_cases hn : n = 0
        · by_cases hs : (s.size : Int) ≤ 32
          · have : ¬ (32 < (s.size : Int)) := by omega
            simp [hn, hs, this]
          · have : 32 < (s.size : Int) := by omega
            simp [hn, hs, this]
        · simp [hn]
      · simp [h0, h1, h2]

theorem zero_cell (c : Cell) : (eqI c.1 0 && (eqI c.2.1 0 && eqS c.2.2 eB)) = decide (c = (0, 0, eB)) := cell_eq c (0, 0, eB)

def mayT (t : Tst) : Bool := if t.1 = 7 ∨ t.1 = 8 then decide (t.2 = (0, 0, eB)) else decide (1 ≤ t.1 ∧ t.1 ≤ 6) && (ref06_May t.2 && decide (t.2.1 ≠ 0))

theorem op_cases (k : Int) : k = 1 ∨ k = 2 ∨ k = 3 ∨ k = 4 ∨ k = 5 ∨ k = 6 ∨ k = 7 ∨ k = 8 ∨ ((k < 1 ∨ 8 < k) ∧ k ≠ 1 ∧ k ≠ 2 ∧ k ≠ 3 ∧ k ≠ 4 ∧ k ≠ 5 ∧ k ≠ 6 ∧ k ≠ 7 ∧ k ≠ 8) := by omega

theorem test_Check_eq (t : Tst) : test_Check t = if mayT t = true then 0 else 1 := by
  unfold test_Check mayT
  rw [zero_cell, cell_Check_eq]
  obtain ⟨k, c⟩ := t
  simp only [eqI_d, neI_d, cond_ite, decide_eq_true_eq]
  rcases op_cases k with rfl | rfl | rfl | rfl | rfl | rfl | rfl | rfl | ⟨h, h1, h2, h3, h4, h5, h6, h7, h8⟩
  all_goals first
    | (by_cases hz : c = (0, 0, eB)
       · simp [hz]
       · simp [hz]; done)
    | (by_cases hz : c.1 = 0
       · simp [hz]
       · by_cases hm : ref06_May c = true <;> simp [hz, hm])
    | (have : ¬ (1 ≤ k ∧ k ≤ 6) := by omega
       simp [h1, h2, h3, h4, h5, h6, h7, h8, this])

theorem ref17_May_eq (t : Tst) : ref17_May t = mayT t := by
  unfold ref17_May mayT
  rw [zero_cell]
  obtain ⟨k, c⟩ := t
  simp only [eqI_d, neI_d, leI_d, cond_ite, decide_eq_true_eq]
  by_cases h7 : k = 7
  · simp [h7]
  · by_cases h8 : k = 8
    · simp [h8]
    · by_cases h1 : 1 ≤ k
      · by_cases h6 : k ≤ 6
        · by_cases hm : ref06_May c = true <;> simp [h7, h8, h1, h6, hm]
        · simp [h7, h8, h1, h6]
      · simp [h7, h8, h1]

def opOk (op k : Int) : Bool := if op = 1 then decide (k = 0) else if op = 2 then decide (k ≠ 0) else if op = 3 then decide (k < 0) else if op = 4 then decide (k ≤ 0) else if op = 5 then decide (0 < k) else if op = 6 then decide (0 ≤ k) else true

def matchT (t : Tst) (c : Cell) : Bool := mayT t && (if t.1 = 7 then decide (c.1 = 0) else decide (c.1 ≠ 0) && opOk t.1 (cC c t.2))

theorem test_stands_eq (t : Tst) (c : Cell) : test_stands t c = some (opOk t.1 (cC c t.2)) := by
  unfold test_stands opOk
  rw [cell_Compare_eq]
  obtain ⟨k, v⟩ := t
  simp only [Option.bind_some, eqI_d, neI_d, ltI_d, cond_ite, decide_eq_true_eq]
  rcases op_cases k with rfl | rfl | rfl | rfl | rfl | rfl | rfl | rfl | ⟨h, h1, h2, h3, h4, h5, h6, h7, h8⟩
  all_goals first
    | (simp; done)
    | (simp [h1, h2, h3, h4, h5, h6]; done)
    | (rcases ord_cC.rng c v with h | h | h <;> simp [h])

theorem test_Match_eq (t : Tst) (c : Cell) : test_Match t c = some (matchT t c) := by
  unfold test_Match matchT
  rw [test_Check_eq, test_stands_eq]
  by_cases hm : mayT t = true
  · by_cases h7 : t.1 = 7
    · simp [hm, h7]
    · by_cases h0 : c.1 = 0 <;> simp [hm, h7, h0]
  · simp [hm]

theorem ref17_Match_eq (t : Tst) (c : Cell) : ref17_Match t c = matchT t c := by
  unfold ref17_Match matchT opOk
  rw [ref17_May_eq, ref06_Compare_eq]
  by_cases hm : mayT t = true
  · by_cases h7 : t.1 = 7
    · simp [hm, h7]
    · by_cases h0 : c.1 = 0
      · simp [hm, h7, h0]
      · simp [hm, h7, h0]
  · simp [hm]

theorem awake17 : law17_awake = some true := by kernel_rfl

theorem testMatches (t : Tst) (c : Cell) : law17_TestMatches t c = some true := by
  unfold law17_TestMatches
  rw [test_Match_eq, ref17_Match_eq, test_Check_eq, ref17_May_eq, awake17]
  by_cases hm : mayT t = true <;> simp [hm]
end Go.AM.Pure
