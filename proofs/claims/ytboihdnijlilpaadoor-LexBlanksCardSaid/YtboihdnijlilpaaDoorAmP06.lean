import Derived.Test.YtboihdnijlilpaaDoorAmPure06
import Derived.Test.YtboihdnijlilpaaDoorAmPCell
/- Layer 06 (cells): the laws of their order. -/
namespace Go.AM.Pure
open Go.AM

theorem awake06 : law06_awake = some true := by kernel_rfl

theorem cellTotal_law (a b c : Cell) : law06_CellTotal a b c = some true := by
  unfold law06_CellTotal
  rw [awake06]
  simp only [cell_Compare_eq, Option.bind_some, cell_eq]
  have h1 := ord_cC.neg a b
  have h2 : decide (cC a b = 0) = decide (a = b) := decide_eq_decide.2 (ord_cC.eq0 a b)
  have h5 := ord_cC.tr a b c
  have h6 := ord_cC.tr c b a
  have h7 := ord_cC.neg b c
  have h8 := ord_cC.neg a c
  have e0 : cC a b = 0 → cC a c = cC b c := fun h => by rw [(ord_cC.eq0 a b).1 h]
  have e1 : cC b c = 0 → cC a c = cC a b := fun h => by rw [(ord_cC.eq0 b c).1 h]
  rw [h1] at h6 ⊢
  rw [h7, h8] at h6
  simp only [neI_d, ltI_d, leI_d, eqI_d, eqB_d, h2, beq_self_eq_true]
  clear h1 h2 h7 h8
  have h3 := ord_cC.rng a b
  have h4 := ord_cC.rng b c
  have h10 := ord_cC.rng a c
  revert h3 h4 h10 h5 h6 e0 e1
  generalize cC a b = x
  generalize cC b c = y
  generalize cC a c = z
  intro h5 h6 e0 e1 h3 h4 h10
  have hs : subI .i64 0 (-x) = x := by rw [subI_of (by omega) (by omega)]; omega
  rw [hs]
  generalize decide (256 < lenS a.2.2) = d1
  generalize decide (256 < lenS b.2.2) = d2
  generalize decide (256 < lenS c.2.2) = d3
  rcases h3 with rfl | rfl | rfl <;> rcases h4 with rfl | rfl | rfl <;> rcases h10 with rfl | rfl | rfl <;>
    first | (cases d1 <;> cases d2 <;> cases d3 <;> rfl) | (exfalso; omega)


theorem eB_size : eB.size = 0 := rfl

theorem cell_Check_eq (c : Cell) : cell_Check c = if ref06_May c = true then 0 else 1 := by
  obtain ⟨k, n, s⟩ := c
  simp only [cell_Check, ref06_May, eqI_d, eqS_d, ltI_d, leI_d, lenS_d, cond_ite, decide_eq_true_eq, decide_true, Bool.true_and, Bool.not_eq_true', Bool.and_true]
  by_cases h0 : k = 0
  · subst h0
    by_cases hn : n = 0
    · by_cases hs : s = eB
      · subst hs; simp [hn, eB_size]
      · simp [hn, hs]
    · simp [hn]
  · by_cases h1 : k = 1
    · subst h1
      by_cases hs : s = eB
      · subst hs; simp [eB_size]
      · simp [hs]
    · by_cases h2 : k = 2
      · subst h2
        by_cases hn : n = 0
        · by_cases hs : (s.size : Int) ≤ 32
          · have : ¬ (32 < (s.size : Int)) := by omega
            simp [hn, hs, this]
          · have : 32 < (s.size : Int) := by omega
            simp [hn, hs, this]
        · simp [hn]
      · simp [h0, h1, h2]


abbrev Col := ByteArray × Int × Bool

/-- May the cell stand in the column? -/
def fit1 (p : Cell × Col) : Bool := ref06_May p.1 && (if p.1.1 = 0 then p.2.2.2 else decide (p.1.1 = p.2.2.1))

theorem fits_loop (r : List Cell) (cs : List Col) (hl : r.length = cs.length) (hr : r.length < 4611686018427387904) : ∀ (d i n : Nat), d = r.length - i → i ≤ r.length → d < n →
    cell_Fits.l0 n cs r (r.length : Int) (i : Int) = some (if ((r.zip cs).drop i).all fit1 = true then 0 else 1) := by
  intro d
  induction d with
  | zero =>
    intro i n hd hi hn
    obtain ⟨m, rfl⟩ : ∃ m, n = m + 1 := ⟨n - 1, by omega⟩
    show cell_Fits.S0 (cell_Fits.l0 m) cs r (r.length : Int) (i : Int) = _
    unfold cell_Fits.S0
    have hi' : i = r.length := by omega
    subst hi'
    rw [List.drop_eq_nil_of_le (by simp; omega)]
    simp
  | succ d ih =>
    intro i n hd hi hn
    obtain ⟨m, rfl⟩ : ∃ m, n = m + 1 := ⟨n - 1, by omega⟩
    show cell_Fits.S0 (cell_Fits.l0 m) cs r (r.length : Int) (i : Int) = _
    unfold cell_Fits.S0
    have h1 : i < r.length := by omega
    have h1' : i < cs.length := by omega
    have h2 : (i : Int) < (r.length : Int) := by omega
    have h3 : i < (r.zip cs).length := by simp; omega
    have hs := ih (i + 1) m (by omega) (by omega) (by omega)
    rw [show ((i + 1 : Nat) : Int) = (i : Int) + 1 from rfl] at hs
    rw [nth_get h1, nth_get h1', lenL_d, lenL_d, addI_of (by omega) (by omega), hs, cell_Check_eq, List.drop_eq_getElem_cons h3, List.all_cons, List.getElem_zip]
    simp only [ltI_d, inB_nat, neI_d, eqI_d, h1, h1', h2, decide_true, cond_true]
    generalize (List.drop (i + 1) (r.zip cs)).all fit1 = T
    unfold fit1
    dsimp only
    cases hm : ref06_May r[i] with
    | false => simp
    | true =>
      by_cases hz : r[i].1 = 0
      · cases hq : cs[i].2.2 <;> simp [hz]
      · by_cases hk : r[i].1 = cs[i].2.1
        · have hz' : ¬ cs[i].2.1 = 0 := by omega
          simp [hk, hz']
        · simp [hz, hk]

theorem cell_Fits_eq (r : List Cell) (cs : List Col) (hr : r.length < 4611686018427387904) : cell_Fits r cs = some (if decide (r.length = cs.length) && (r.zip cs).all fit1 then 0 else 1) := by
  show cell_Fits.S (cell_Fits.l0 fu) r cs = _
  unfold cell_Fits.S
  rw [lenL_d, lenL_d, neI_d]
  by_cases hl : r.length = cs.length
  · have := fits_loop r cs hl hr (r.length - 0) 0 fu rfl (by omega) (by unfold fu; omega)
    rw [List.drop_zero] at this
    have h0 : ((0 : Nat) : Int) = 0 := rfl
    rw [h0] at this
    rw [this, ← hl]
    simp only [decide_true, Bool.not_true, cond_false, Bool.true_and]
  · have : ¬ ((r.length : Int) = (cs.length : Int)) := by omega
    simp [hl, this]

theorem rfits_loop (r : List Cell) (cs : List Col) (hl : r.length = cs.length) (hr : r.length < 4611686018427387904) : ∀ (d i n : Nat), d = r.length - i → i ≤ r.length → d < n →
    ref06_Fits.l0 n r cs (i : Int) = some (((r.zip cs).drop i).all fit1) := by
  intro d
  induction d with
  | zero =>
    intro i n hd hi hn
    obtain ⟨m, rfl⟩ : ∃ m, n = m + 1 := ⟨n - 1, by omega⟩
    show ref06_Fits.S0 (ref06_Fits.l0 m) r cs (i : Int) = _
    unfold ref06_Fits.S0
    have hi' : i = r.length := by omega
    subst hi'
    rw [List.drop_eq_nil_of_le (by simp; omega), lenL_d]
    simp
  | succ d ih =>
    intro i n hd hi hn
    obtain ⟨m, rfl⟩ : ∃ m, n = m + 1 := ⟨n - 1, by omega⟩
    show ref06_Fits.S0 (ref06_Fits.l0 m) r cs (i : Int) = _
    unfold ref06_Fits.S0
    have h1 : i < r.length := by omega
    have h1' : i < cs.length := by omega
    have h2 : (i : Int) < (r.length : Int) := by omega
    have h2' : (i : Int) < (cs.length : Int) := by omega
    have h3 : i < (r.zip cs).length := by simp; omega
    have hs := ih (i + 1) m (by omega) (by omega) (by omega)
    rw [show ((i + 1 : Nat) : Int) = (i : Int) + 1 from rfl] at hs
    rw [nth_get h1, nth_get h1', lenL_d, lenL_d, addI_of (by omega) (by omega), hs, List.drop_eq_getElem_cons h3, List.all_cons, List.getElem_zip]
    simp only [ltI_d, inB_nat, neI_d, eqI_d, h1, h1', h2, h2', decide_true, cond_true]
    generalize (List.drop (i + 1) (r.zip cs)).all fit1 = T
    unfold fit1
    dsimp only
    cases hm : ref06_May r[i] with
    | false => simp
    | true =>
      by_cases hk : r[i].1 = cs[i].2.1
      · by_cases hz : r[i].1 = 0
        · have hz' : cs[i].2.1 = 0 := by omega
          cases hq : cs[i].2.2 <;> simp [hz, hz']
        · have hz' : ¬ cs[i].2.1 = 0 := by omega
          simp [hk, hz']
      · by_cases hz : r[i].1 = 0
        · have hz' : ¬ 0 = cs[i].2.1 := by omega
          cases hq : cs[i].2.2 <;> simp [hz, hz']
        · simp [hz, hk]

theorem ref06_Fits_eq (r : List Cell) (cs : List Col) (hr : r.length < 4611686018427387904) : ref06_Fits r cs = some (decide (r.length = cs.length) && (r.zip cs).all fit1) := by
  show ref06_Fits.S (ref06_Fits.l0 fu) r cs = _
  unfold ref06_Fits.S
  rw [lenL_d, lenL_d, neI_d]
  by_cases hl : r.length = cs.length
  · have := rfits_loop r cs hl hr (r.length - 0) 0 fu rfl (by omega) (by unfold fu; omega)
    rw [List.drop_zero] at this
    have h0 : ((0 : Nat) : Int) = 0 := rfl
    rw [h0] at this
    rw [this]
    simp [hl]
  · have : ¬ ((r.length : Int) = (cs.length : Int)) := by omega
    simp [hl, this]

theorem light_loop (r : List Cell) : ∀ (d i n : Nat), d = 20 - i → i ≤ 20 → d < n → ∃ b, ref06_Light.l0 n r (i : Int) = some b ∧ (b = true → r.length ≤ 20) := by
  intro d
  induction d with
  | zero =>
    intro i n hd hi hn
    obtain ⟨m, rfl⟩ : ∃ m, n = m + 1 := ⟨n - 1, by omega⟩
    show ∃ b, ref06_Light.S0 (ref06_Light.l0 m) r (i : Int) = some b ∧ _
    unfold ref06_Light.S0
    have hi' : i = 20 := by omega
    subst hi'
    have h20 : ltI ((20 : Nat) : Int) 20 = false := rfl
    rw [h20, lenL_d]
    refine ⟨decide ((r.length : Int) ≤ 20), by cases ltI ((20 : Nat) : Int) (r.length : Int) <;> rfl, fun h => ?_⟩
    have := of_decide_eq_true h
    omega
  | succ d ih =>
    intro i n hd hi hn
    obtain ⟨m, rfl⟩ : ∃ m, n = m + 1 := ⟨n - 1, by omega⟩
    show ∃ b, ref06_Light.S0 (ref06_Light.l0 m) r (i : Int) = some b ∧ _
    unfold ref06_Light.S0
    obtain ⟨b, hs, hb⟩ := ih (i + 1) m (by omega) (by omega) (by omega)
    rw [show ((i + 1 : Nat) : Int) = (i : Int) + 1 from rfl] at hs
    have h3 : (i : Int) < 20 := by omega
    rw [lenL_d, addI_of (by omega) (by omega), hs]
    by_cases h1 : i < r.length
    · have h2 : (i : Int) < (r.length : Int) := by omega
      simp only [ltI_d, inB_nat, h1, h2, h3, decide_true, cond_true]
      cases decide (100 < lenS (nth r (i : Int) (0, 0, eB)).2.2)
      · exact ⟨b, rfl, hb⟩
      · exact ⟨false, rfl, fun h => by cases h⟩
    · have h2 : ¬ (i : Int) < (r.length : Int) := by omega
      simp only [ltI_d, leI_d, h2, decide_false, cond_false]
      exact ⟨_, rfl, fun h => by have := of_decide_eq_true h; omega⟩

theorem ref06_Light_some (r : List Cell) : ∃ b, ref06_Light r = some b ∧ (b = true → r.length ≤ 20) :=
  light_loop r (20 - 0) 0 fu rfl (by omega) (by unfold fu; omega)

theorem cellFits_law (r : List Cell) (cs : List Col) : law06_CellFits r cs = some true := by
  unfold law06_CellFits
  obtain ⟨b, hb, hl⟩ := ref06_Light_some r
  rw [hb, awake06]
  cases b with
  | false => rfl
  | true =>
    have hr : r.length < 4611686018427387904 := by have := hl rfl; omega
    rw [cell_Fits_eq r cs hr, ref06_Fits_eq r cs hr]
    simp only [Option.bind_some, eqI_d, ltI_d, eqB_d]
    cases (decide (r.length = cs.length) && (r.zip cs).all fit1) <;> cases decide ((20 : Int) < lenL cs) <;> rfl

end Go.AM.Pure
