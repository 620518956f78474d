/- Layer 17 (test) as plain functions: what tests, zones are. -/
import Derived.Test.YtggioofgjkedpaaAmPCell
namespace Go.AM.Pure
open Go.AM

abbrev Tst := Int × Cell
abbrev Zn := Cell × Cell × Int × Int

theorem eB_size : eB.size = 0 := rfl

theorem cell_Check_eq (c : Cell) : cell_Check c = if ref06_May c = true then 0 else 1 := by
  obtain ⟨k, n, s⟩ := c
  simp only [cell_Check, ref06_May, eqI_d, eqS_d, ltI_d, leI_d, lenS_d, cond_ite, decide_eq_true_eq, decide_true, Bool.true_and, Bool.not_eq_true', Bool.and_true]
  by_cases h0 : k = 0
  · subst h0
    by_cases hn : n = 0
    · by_cases hs : s = eB
      · subst hs; simp [hn, eB_size]
      · simp [hn, hs]
    · simp [hn]
  · by_cases h1 : k = 1
    · subst h1
      by_cases hs : s = eB
      · subst hs; simp [eB_size]
      · simp [hs]
    · by_cases h2 : k = 2
      · subst h2
        by_cases hn : n = 0
        · by_cases hs : (s.size : Int) ≤ 32
          · have : ¬ (32 < (s.size : Int)) := by omega
            simp [hn, hs, this]
          · have : 32 < (s.size : Int) := by omega
            simp [hn, hs, this]
        · simp [hn]
      · simp [h0, h1, h2]

theorem zero_cell (c : Cell) : (eqI c.1 0 && (eqI c.2.1 0 && eqS c.2.2 eB)) = decide (c = (0, 0, eB)) := cell_eq c (0, 0, eB)

def mayT (t : Tst) : Bool := if t.1 = 7 ∨ t.1 = 8 then decide (t.2 = (0, 0, eB)) else decide (1 ≤ t.1 ∧ t.1 ≤ 6) && (ref06_May t.2 && decide (t.2.1 ≠ 0))

theorem op_cases (k : Int) : k = 1 ∨ k = 2 ∨ k = 3 ∨ k = 4 ∨ k = 5 ∨ k = 6 ∨ k = 7 ∨ k = 8 ∨ ((k < 1 ∨ 8 < k) ∧ k ≠ 1 ∧ k ≠ 2 ∧ k ≠ 3 ∧ k ≠ 4 ∧ k ≠ 5 ∧ k ≠ 6 ∧ k ≠ 7 ∧ k ≠ 8) := by omega

theorem test_Check_eq (t : Tst) : test_Check t = if mayT t = true then 0 else 1 := by
  unfold test_Check mayT
  rw [zero_cell, cell_Check_eq]
  obtain ⟨k, c⟩ := t
  simp only [eqI_d, neI_d, cond_ite, decide_eq_true_eq]
  rcases op_cases k with rfl | rfl | rfl | rfl | rfl | rfl | rfl | rfl | ⟨h, h1, h2, h3, h4, h5, h6, h7, h8⟩
  all_goals first
    | (by_cases hz : c = (0, 0, eB)
       · simp [hz]
       · simp [hz]; done)
    | (by_cases hz : c.1 = 0
       · simp [hz]
       · by_cases hm : ref06_May c = true <;> simp [hz, hm])
    | (have : ¬ (1 ≤ k ∧ k ≤ 6) := by omega
       simp [h1, h2, h3, h4, h5, h6, h7, h8, this])

theorem ref17_May_eq (t : Tst) : ref17_May t = mayT t := by
  unfold ref17_May mayT
  rw [zero_cell]
  obtain ⟨k, c⟩ := t
  simp only [eqI_d, neI_d, leI_d, cond_ite, decide_eq_true_eq]
  by_cases h7 : k = 7
  · simp [h7]
  · by_cases h8 : k = 8
    · simp [h8]
    · by_cases h1 : 1 ≤ k
      · by_cases h6 : k ≤ 6
        · by_cases hm : ref06_May c = true <;> simp [h7, h8, h1, h6, hm]
        · simp [h7, h8, h1, h6]
      · simp [h7, h8, h1]

def opOk (op k : Int) : Bool := if op = 1 then decide (k = 0) else if op = 2 then decide (k ≠ 0) else if op = 3 then decide (k < 0) else if op = 4 then decide (k ≤ 0) else if op = 5 then decide (0 < k) else if op = 6 then decide (0 ≤ k) else true

def matchT (t : Tst) (c : Cell) : Bool := mayT t && (if t.1 = 7 then decide (c.1 = 0) else decide (c.1 ≠ 0) && opOk t.1 (cC c t.2))

theorem test_stands_eq (t : Tst) (c : Cell) : test_stands t c = some (opOk t.1 (cC c t.2)) := by
  unfold test_stands opOk
  rw [cell_Compare_eq]
  obtain ⟨k, v⟩ := t
  simp only [Option.bind_some, eqI_d, neI_d, ltI_d, cond_ite, decide_eq_true_eq]
  rcases op_cases k with rfl | rfl | rfl | rfl | rfl | rfl | rfl | rfl | ⟨h, h1, h2, h3, h4, h5, h6, h7, h8⟩
  all_goals first
    | (simp; done)
    | (simp [h1, h2, h3, h4, h5, h6]; done)
    | (rcases ord_cC.rng c v with h | h | h <;> simp [h])

theorem test_Match_eq (t : Tst) (c : Cell) : test_Match t c = some (matchT t c) := by
  unfold test_Match matchT
  rw [test_Check_eq, test_stands_eq]
  by_cases hm : mayT t = true
  · by_cases h7 : t.1 = 7
    · simp [hm, h7]
    · by_cases h0 : c.1 = 0 <;> simp [hm, h7, h0]
  · simp [hm]

theorem ref17_Match_eq (t : Tst) (c : Cell) : ref17_Match t c = matchT t c := by
  unfold ref17_Match matchT opOk
  rw [ref17_May_eq, ref06_Compare_eq]
  by_cases hm : mayT t = true
  · by_cases h7 : t.1 = 7
    · simp [hm, h7]
    · by_cases h0 : c.1 = 0
      · simp [hm, h7, h0]
      · simp [hm, h7, h0]
  · simp [hm]

theorem awake17 : law17_awake = some true := by kernel_rfl

theorem testMatches (t : Tst) (c : Cell) : law17_TestMatches t c = some true := by
  unfold law17_TestMatches
  rw [test_Match_eq, ref17_Match_eq, test_Check_eq, ref17_May_eq, awake17]
  by_cases hm : mayT t = true <;> simp [hm]
/-! Zones. -/
def loC (a b : Cell) : Cell := if cC b a < 0 then b else a
def hiC (a b : Cell) : Cell := if 0 < cC b a then b else a
def mrg (a b : Zn) : Zn :=
  if b.2.2.2 = b.2.2.1 then (a.1, a.2.1, a.2.2.1 + b.2.2.1, a.2.2.2 + b.2.2.2)
  else if a.2.2.2 = a.2.2.1 then (b.1, b.2.1, a.2.2.1 + b.2.2.1, a.2.2.2 + b.2.2.2)
  else (loC a.1 b.1, hiC a.2.1 b.2.1, a.2.2.1 + b.2.2.1, a.2.2.2 + b.2.2.2)
def zc : Cell := (0, 0, eB)
def z0 : Zn := (zc, zc, 0, 0)
def one (c : Cell) : Zn := if c.1 = 0 then (zc, zc, 1, 1) else (c, c, 0, 1)
def stepZ (z : Zn) (c : Cell) : Zn := mrg z (one c)
def zoneL (l : List Cell) : Zn := l.foldl stepZ z0

/-- Few cells, of which so many are nulls. -/
def okZ (z : Zn) (m : Int) : Prop := 0 ≤ z.2.2.1 ∧ z.2.2.1 ≤ z.2.2.2 ∧ z.2.2.2 ≤ m

theorem test_Merge_eq {a b : Zn} {m : Int} (ha : okZ a m) (hb : okZ b m) (hm : m < 4611686018427387904) : test_Merge a b = some (mrg a b) := by
  obtain ⟨a1, a2, a3⟩ := ha
  obtain ⟨b1, b2, b3⟩ := hb
  unfold test_Merge mrg loC hiC
  rw [cell_Compare_eq, cell_Compare_eq, addI_of (a := a.2.2.1) (by omega) (by omega), addI_of (a := a.2.2.2) (by omega) (by omega)]
  simp only [Option.bind_some, eqI_d, ltI_d, cond_ite, decide_eq_true_eq]
  by_cases h1 : b.2.2.2 = b.2.2.1
  · simp [h1]
  · by_cases h2 : a.2.2.2 = a.2.2.1
    · simp [h1, h2]
    · by_cases h3 : cC b.1 a.1 < 0 <;> by_cases h4 : 0 < cC b.2.1 a.2.1 <;> simp [h1, h2, h3, h4]

theorem mrg_ok {a b : Zn} {m n : Int} (ha : okZ a m) (hb : okZ b n) : okZ (mrg a b) (m + n) := by
  unfold okZ mrg at *
  split
  · dsimp only; omega
  · split <;> (dsimp only; omega)

theorem one_ok (c : Cell) : okZ (one c) 1 := by unfold one okZ; split <;> simp

theorem mrg_nulls (a b : Zn) : (mrg a b).2.2.1 = a.2.2.1 + b.2.2.1 := by unfold mrg; split <;> (try split) <;> rfl
theorem mrg_count (a b : Zn) : (mrg a b).2.2.2 = a.2.2.2 + b.2.2.2 := by unfold mrg; split <;> (try split) <;> rfl
theorem one_count (c : Cell) : (one c).2.2.2 = 1 := by unfold one; split <;> rfl

theorem fold_ok : ∀ (l : List Cell) (z : Zn) (m : Int), okZ z m → okZ (l.foldl stepZ z) (m + l.length)
  | [], z, m, h => by simpa using h
  | c :: l, z, m, h => by
    have := fold_ok l (stepZ z c) (m + 1) (mrg_ok h (one_ok c))
    rw [List.foldl_cons, List.length_cons]
    have e : m + ((l.length + 1 : Nat) : Int) = m + 1 + l.length := by omega
    rw [e]; exact this

theorem fold_count : ∀ (l : List Cell) (z : Zn), (l.foldl stepZ z).2.2.2 = z.2.2.2 + l.length
  | [], z => by simp
  | c :: l, z => by
    rw [List.foldl_cons, fold_count l, stepZ, mrg_count, one_count, List.length_cons]
    omega

theorem zoneL_ok (l : List Cell) : okZ (zoneL l) l.length := by
  have := fold_ok l z0 0 (by unfold okZ z0; simp)
  simpa [zoneL] using this

theorem zone_loop (l : List Cell) (t : Zn) (hl : l.length < 1099511627776) : ∀ (d i n : Nat) (z : Zn), d = l.length - i → i ≤ l.length → d < n → okZ z i →
    test_Zone.l0 n l (l.length : Int) (i : Int) t z = some ((l.drop i).foldl stepZ z) := by
  intro d
  induction d with
  | zero =>
    intro i n z hd hi hn hz
    obtain ⟨m, rfl⟩ : ∃ m, n = m + 1 := ⟨n - 1, by omega⟩
    show test_Zone.S0 (test_Zone.l0 m) l (l.length : Int) (i : Int) t z = _
    unfold test_Zone.S0
    have hi' : i = l.length := by omega
    subst hi'
    simp
  | succ d ih =>
    intro i n z hd hi hn hz
    obtain ⟨m, rfl⟩ : ∃ m, n = m + 1 := ⟨n - 1, by omega⟩
    show test_Zone.S0 (test_Zone.l0 m) l (l.length : Int) (i : Int) t z = _
    unfold test_Zone.S0
    have h1 : i < l.length := by omega
    have h2 : (i : Int) < (l.length : Int) := by omega
    rw [nth_get h1, lenL_d, addI_of (by omega) (by omega), List.drop_eq_getElem_cons h1, List.foldl_cons]
    have hz' : okZ (stepZ z l[i]) ((i + 1 : Nat) : Int) := mrg_ok hz (one_ok _)
    have hm := test_Merge_eq (a := z) (b := one l[i]) (m := (i : Int) + 1) ⟨hz.1, hz.2.1, by have := hz.2.2; omega⟩ ⟨(one_ok _).1, (one_ok _).2.1, by have := (one_ok l[i]).2.2; omega⟩ (by omega)
    have key := ih (i + 1) m (stepZ z l[i]) (by omega) (by omega) (by omega) hz'
    simp only [ltI_d, inB_nat, eqI_d, h1, h2, decide_true, cond_true]
    by_cases h0 : l[i].1 = 0
    · have e : one l[i] = (zc, zc, 1, 1) := if_pos h0
      rw [e] at hm
      simp only [h0, decide_true, cond_true]
      rw [show ((0, 0, eB), (0, 0, eB), 1, 1) = ((zc, zc, 1, 1) : Zn) from rfl, hm, Option.bind_some, ← e]
      exact key
    · have e : one l[i] = (l[i], l[i], 0, 1) := if_neg h0
      rw [e] at hm
      simp only [h0, decide_false, cond_false]
      rw [hm, Option.bind_some, ← e]
      exact key

theorem test_Zone_eq (l : List Cell) (hl : l.length < 1099511627776) : test_Zone l = some (zoneL l) := by
  have := zone_loop l z0 hl (l.length - 0) 0 fu z0 rfl (by omega) (by unfold fu; omega) (by unfold okZ z0; simp)
  rwa [List.drop_zero] at this

/-- The reference's zone while it is made. -/
def rz (z : Zn) (L : Int) : Zn := (z.1, z.2.1, z.2.2.1, L)

theorem ref_zone_loop (l : List Cell) (t : Zn) (hl : l.length < 1099511627776) : ∀ (d i n : Nat) (z : Zn), d = l.length - i → i ≤ l.length → d + 1 < n → okZ z i →
    ref17_Zone.l0 n l (decide (z.2.2.2 ≠ z.2.2.1)) (i : Int) t (rz z l.length) = some (rz ((l.drop i).foldl stepZ z) l.length) := by
  intro d
  induction d with
  | zero =>
    intro i n z hd hi hn hz
    obtain ⟨m, rfl⟩ : ∃ m, n = m + 1 := ⟨n - 1, by omega⟩
    show ref17_Zone.S0 (ref17_Zone.l0 m) (ref17_Zone.t1 (ref17_Zone.l0 m) m) l _ (i : Int) t _ = _
    unfold ref17_Zone.S0
    have hi' : i = l.length := by omega
    subst hi'
    simp [lenL_d]
  | succ d ih =>
    intro i n z hd hi hn hz
    obtain ⟨m, rfl⟩ : ∃ m, n = m + 2 := ⟨n - 2, by omega⟩
    show ref17_Zone.S0 (ref17_Zone.l0 (m + 1)) (ref17_Zone.S1 (ref17_Zone.l0 (m + 1))) l _ (i : Int) t _ = _
    unfold ref17_Zone.S0 ref17_Zone.S1
    have h1 : i < l.length := by omega
    have h2 : (i : Int) < (l.length : Int) := by omega
    obtain ⟨z1, z2, z3⟩ := hz
    rw [nth_get h1, lenL_d, addI_of (a := (i : Int)) (by omega) (by omega), addI_of (a := (rz z l.length).2.2.1) (by show _ ≤ z.2.2.1 + 1; omega) (by show z.2.2.1 + 1 < _; omega), List.drop_eq_getElem_cons h1, List.foldl_cons]
    have hz' : okZ (stepZ z l[i]) ((i + 1 : Nat) : Int) := mrg_ok ⟨z1, z2, z3⟩ (one_ok _)
    have key := ih (i + 1) (m + 1) (stepZ z l[i]) (by omega) (by omega) (by omega) hz'
    rw [ref06_Compare_eq, ref06_Compare_eq]
    simp only [ltI_d, inB_nat, eqI_d, h1, h2, decide_true, cond_true]
    unfold stepZ mrg at key
    by_cases h0 : l[i].1 = 0
    · have e : one l[i] = (zc, zc, 1, 1) := if_pos h0
      rw [e] at key
      simp only [h0, decide_true, cond_true]
      simp only [if_true] at key
      have hb : decide (z.2.2.2 + 1 ≠ z.2.2.1 + 1) = decide (z.2.2.2 ≠ z.2.2.1) := by apply decide_eq_decide.2; omega
      rw [hb] at key
      unfold stepZ mrg
      rw [e]
      simp only [if_true]
      exact key
    · have e : one l[i] = (l[i], l[i], 0, 1) := if_neg h0
      unfold stepZ mrg
      rw [e] at key ⊢
      simp only [h0, decide_false, cond_false]
      have hne : ¬ ((1 : Int) = 0) := by omega
      simp only [hne, if_false] at key ⊢
      by_cases hs : z.2.2.2 = z.2.2.1
      · simp only [hs, if_true, ne_eq, not_true_eq_false, decide_false, Bool.not_false, cond_true] at key ⊢
        have hb : decide (¬ (z.2.2.1 + 1 = z.2.2.1 + 0)) = true := by apply decide_eq_true; omega
        rw [hb] at key
        simpa [rz] using key
      · simp only [hs, if_false, ne_eq, not_false_eq_true, decide_true, Bool.not_true, cond_false] at key ⊢
        have hb : decide (¬ (z.2.2.2 + 1 = z.2.2.1 + 0)) = true := by apply decide_eq_true; omega
        rw [hb] at key
        unfold loC hiC at key ⊢
        by_cases hA : cC l[i] z.1 < 0 <;> by_cases hB : 0 < cC l[i] z.2.1
        all_goals
          simp only [rz, hA, hB, if_true, if_false, decide_true, decide_false, cond_true, cond_false, Int.add_zero] at key ⊢
          exact key

theorem ref17_Zone_eq (l : List Cell) (hl : l.length < 1099511627776) : ref17_Zone l = some (zoneL l) := by
  have h := ref_zone_loop l z0 hl (l.length - 0) 0 fu z0 rfl (by omega) (by unfold fu; omega) (by unfold okZ z0; simp)
  rw [List.drop_zero] at h
  have e : rz (l.foldl stepZ z0) l.length = zoneL l := by
    have := fold_count l z0
    unfold rz zoneL
    have h0 : z0.2.2.2 = 0 := rfl
    rw [h0, Int.zero_add] at this
    rw [← this]
  rw [e] at h
  exact h
theorem Ord3.lt_tr {α : Type} {c : α → α → Int} (h : Ord3 c) {a b d : α} (h1 : c a b < 0) (h2 : c b d < 0) : c a d < 0 := by
  have e1 : c a b = -1 := by rcases h.rng a b with e | e | e <;> omega
  have e2 : c b d = -1 := by rcases h.rng b d with e | e | e <;> omega
  rw [h.tr _ _ _ e1 e2]; omega

theorem Ord3.ge_tr {α : Type} {c : α → α → Int} (h : Ord3 c) {a b d : α} (h1 : 0 ≤ c a b) (h2 : 0 ≤ c b d) : 0 ≤ c a d := by
  by_cases x : c a b = 0
  · rw [(h.eq0 _ _).1 x]; exact h2
  · by_cases y : c b d = 0
    · rw [← (h.eq0 _ _).1 y]; exact h1
    · have e1 : c b a < 0 := by have := h.neg a b; omega
      have e2 : c d b < 0 := by have := h.neg b d; omega
      have := h.lt_tr e2 e1
      have := h.neg d a
      omega

theorem Ord3.le_tr {α : Type} {c : α → α → Int} (h : Ord3 c) {a b d : α} (h1 : c a b ≤ 0) (h2 : c b d ≤ 0) : c a d ≤ 0 := by
  have e1 : 0 ≤ c b a := by have := h.neg a b; omega
  have e2 : 0 ≤ c d b := by have := h.neg b d; omega
  have := h.ge_tr e2 e1
  have := h.neg a d
  omega

theorem Ord3.lt_ge {α : Type} {c : α → α → Int} (h : Ord3 c) {a b d : α} (h1 : c a b ≤ 0) (h2 : c b d < 0) : c a d < 0 := by
  by_cases x : c a b = 0
  · rw [(h.eq0 _ _).1 x]; exact h2
  · exact h.lt_tr (by omega) h2

theorem Ord3.le_lt {α : Type} {c : α → α → Int} (h : Ord3 c) {a b d : α} (h1 : c a b < 0) (h2 : c b d ≤ 0) : c a d < 0 := by
  by_cases x : c b d = 0
  · rw [← (h.eq0 _ _).1 x]; exact h1
  · exact h.lt_tr h1 (by omega)

theorem lo_assoc (a b c : Cell) : loC a (loC b c) = loC (loC a b) c := by
  unfold loC
  by_cases h1 : cC c b < 0 <;> by_cases h2 : cC b a < 0
  · have := ord_cC.lt_tr h1 h2
    simp [h1, h2, this]
  · simp [h1, h2]
  · simp [h1, h2]
  · have : ¬ cC c a < 0 := by have := ord_cC.ge_tr (a := c) (b := b) (d := a) (by omega) (by omega); omega
    simp [h1, h2, this]

theorem hi_assoc (a b c : Cell) : hiC a (hiC b c) = hiC (hiC a b) c := by
  unfold hiC
  by_cases h1 : 0 < cC c b <;> by_cases h2 : 0 < cC b a
  · have : 0 < cC c a := by
      have e1 := ord_cC.neg c b
      have e2 := ord_cC.neg b a
      have e3 := ord_cC.neg c a
      have := ord_cC.lt_tr (a := a) (b := b) (d := c) (by omega) (by omega)
      omega
    simp [h1, h2, this]
  · simp [h1, h2]
  · simp [h1, h2]
  · have : ¬ 0 < cC c a := by have := ord_cC.le_tr (a := c) (b := b) (d := a) (by omega) (by omega); omega
    simp [h1, h2, this]

theorem mrg_step {x y : Zn} {m n : Int} (hx : okZ x m) (hy : okZ y n) (c : Cell) : mrg x (stepZ y c) = stepZ (mrg x y) c := by
  obtain ⟨x1, x2, _⟩ := hx
  obtain ⟨y1, y2, _⟩ := hy
  unfold stepZ
  by_cases h0 : c.1 = 0
  · have e : one c = (zc, zc, 1, 1) := if_pos h0
    rw [e]
    have ey : mrg y (zc, zc, 1, 1) = (y.1, y.2.1, y.2.2.1 + 1, y.2.2.2 + 1) := by unfold mrg; simp
    have ez : mrg (mrg x y) (zc, zc, 1, 1) = ((mrg x y).1, (mrg x y).2.1, (mrg x y).2.2.1 + 1, (mrg x y).2.2.2 + 1) := by generalize mrg x y = w; unfold mrg; simp
    rw [ey, ez]
    unfold mrg
    by_cases h1 : y.2.2.2 = y.2.2.1
    · have : y.2.2.2 + 1 = y.2.2.1 + 1 := by omega
      simp only [h1, if_true]
      simp [Int.add_assoc]
    · have : ¬ (y.2.2.2 + 1 = y.2.2.1 + 1) := by omega
      simp only [h1, this, if_false]
      by_cases h2 : x.2.2.2 = x.2.2.1
      · simp only [h2, if_true]
        simp [Int.add_assoc]
      · simp only [h2, if_false]
        simp [Int.add_assoc]
  · have e : one c = (c, c, 0, 1) := if_neg h0
    rw [e]
    unfold mrg
    have hne : ¬ ((1 : Int) = 0) := by omega
    simp only [hne, if_false]
    by_cases h1 : y.2.2.2 = y.2.2.1
    · have : ¬ (y.2.2.2 + 1 = y.2.2.1) := by omega
      simp only [h1, if_true]
      by_cases h2 : x.2.2.2 = x.2.2.1
      · have hxy : x.2.2.2 + y.2.2.1 = x.2.2.1 + y.2.2.1 := by omega
        have ha : ¬ (y.2.2.1 + 1 = y.2.2.1 + 0) := by omega
        simp only [h2, ha, if_true, if_false]
        simp [Int.add_assoc]
      · have hxy : ¬ (x.2.2.2 + y.2.2.1 = x.2.2.1 + y.2.2.1) := by omega
        have ha : ¬ (y.2.2.1 + 1 = y.2.2.1 + 0) := by omega
        simp only [h2, ha, hxy, if_false]
        simp [Int.add_assoc]
    · simp only [h1, if_false]
      have ha : ¬ (y.2.2.2 + 1 = y.2.2.1 + 0) := by omega
      by_cases h2 : x.2.2.2 = x.2.2.1
      · have hb : ¬ (x.2.2.1 + y.2.2.2 = x.2.2.1 + y.2.2.1) := by omega
        simp only [h2, ha, hb, if_true, if_false]
        simp [Int.add_assoc]
      · have hb : ¬ (x.2.2.2 + y.2.2.2 = x.2.2.1 + y.2.2.1) := by omega
        simp only [h2, ha, hb, if_false]
        simp [Int.add_assoc, lo_assoc, hi_assoc]

theorem mrg_fold {x : Zn} {m : Int} (hx : okZ x m) : ∀ (l : List Cell) (y : Zn) (n : Int), okZ y n → mrg x (l.foldl stepZ y) = l.foldl stepZ (mrg x y)
  | [], _, _, _ => rfl
  | c :: l, y, n, hy => by
    rw [List.foldl_cons, List.foldl_cons, mrg_fold hx l (stepZ y c) (n + 1) (mrg_ok hy (one_ok c)), mrg_step hx hy]

theorem zone_app (a b : List Cell) : mrg (zoneL a) (zoneL b) = zoneL (a ++ b) := by
  have h := mrg_fold (zoneL_ok a) b z0 0 (by unfold okZ z0; simp)
  have e : mrg (zoneL a) z0 = zoneL a := by unfold mrg z0; simp
  rw [e] at h
  show mrg (zoneL a) (b.foldl stepZ z0) = _
  rw [h]
  unfold zoneL
  rw [List.foldl_append]

theorem zone_eqb (a b : Zn) : ((eqI a.1.1 b.1.1 && (eqI a.1.2.1 b.1.2.1 && eqS a.1.2.2 b.1.2.2)) && ((eqI a.2.1.1 b.2.1.1 && (eqI a.2.1.2.1 b.2.1.2.1 && eqS a.2.1.2.2 b.2.1.2.2)) && (eqI a.2.2.1 b.2.2.1 && eqI a.2.2.2 b.2.2.2))) = decide (a = b) := by
  rw [cell_eq a.1 b.1, cell_eq a.2.1 b.2.1, eqI_d, eqI_d, ← Bool.decide_and, ← Bool.decide_and, ← Bool.decide_and]
  apply decide_eq_decide.2
  obtain ⟨a1, a2, a3, a4⟩ := a
  obtain ⟨b1, b2, b3, b4⟩ := b
  simp

/-- Few cells, of few bytes. -/
def lightC (l : List Cell) (most : Int) : Prop := (l.length : Int) ≤ most

theorem light_loop (l : List Cell) (most : Int) (h0 : 0 ≤ most) (hm : most < 1000000) : ∀ (d i n : Nat), d = most.toNat - i → (i : Int) ≤ most → d < n →
    ∃ b, ref12_Light.l0 n l most (i : Int) = some b ∧ (b = true → (l.length : Int) ≤ most) := by
  intro d
  induction d with
  | zero =>
    intro i n hd hi hn
    obtain ⟨m, rfl⟩ : ∃ m, n = m + 1 := ⟨n - 1, by omega⟩
    show ∃ b, ref12_Light.S0 (ref12_Light.l0 m) l most (i : Int) = some b ∧ _
    unfold ref12_Light.S0
    have : ¬ (i : Int) < most := by omega
    simp only [ltI_d, leI_d, lenL_d, this, decide_false, cond_false]
    by_cases h : (i : Int) < l.length
    · exact ⟨decide ((l.length : Int) ≤ most), by simp only [h, decide_true, cond_true], of_decide_eq_true⟩
    · exact ⟨decide ((l.length : Int) ≤ most), by simp only [h, decide_false, cond_false], of_decide_eq_true⟩
  | succ d ih =>
    intro i n hd hi hn
    obtain ⟨m, rfl⟩ : ∃ m, n = m + 1 := ⟨n - 1, by omega⟩
    show ∃ b, ref12_Light.S0 (ref12_Light.l0 m) l most (i : Int) = some b ∧ _
    unfold ref12_Light.S0
    have h2 : (i : Int) < most := by omega
    simp only [ltI_d, leI_d, lenL_d, h2, decide_true, cond_true]
    by_cases h : (i : Int) < l.length
    · have h1 : i < l.length := by omega
      rw [nth_get h1, addI_of (by omega) (by omega)]
      simp only [h, inB_nat, h1, decide_true, cond_true]
      by_cases h3 : 100 < lenS l[i].2.2
      · exact ⟨false, by simp only [h3, decide_true, cond_true], by simp⟩
      · simp only [h3, decide_false, cond_false]
        exact ih (i + 1) m (by omega) (by omega) (by omega)
    · exact ⟨decide ((l.length : Int) ≤ most), by simp only [h, decide_false, cond_false], of_decide_eq_true⟩

theorem ref12_Light_eq (l : List Cell) (most : Int) (h0 : 0 ≤ most) (hm : most < 1000000) : ∃ b, ref12_Light l most = some b ∧ (b = true → (l.length : Int) ≤ most) :=
  light_loop l most h0 hm (most.toNat - 0) 0 fu rfl (by omega) (by unfold fu; omega)

theorem testZones (a b : List Cell) : law17_TestZones a b = some true := by
  unfold law17_TestZones
  obtain ⟨x, hx, hx'⟩ := ref12_Light_eq a 60 (by omega) (by omega)
  obtain ⟨y, hy, hy'⟩ := ref12_Light_eq b 60 (by omega) (by omega)
  rw [hx, hy, awake17]
  simp only [Option.bind_some, cond_ite]
  cases x with
  | false => rfl
  | true =>
    cases y with
    | false => rfl
    | true =>
      have ha := hx' rfl
      have hb := hy' rfl
      have ra : roomB (0 + a.length) 32 = true := by rw [roomB_d]; apply decide_eq_true; omega
      have rb : roomB (a.length + b.length) 32 = true := by rw [roomB_d]; apply decide_eq_true; omega
      have oa := zoneL_ok a
      have ob := zoneL_ok b
      have hm := test_Merge_eq (a := zoneL a) (b := zoneL b) (m := 60) ⟨oa.1, oa.2.1, by have := oa.2.2; omega⟩ ⟨ob.1, ob.2.1, by have := ob.2.2; omega⟩ (by omega)
      rw [test_Zone_eq a (by omega), test_Zone_eq b (by omega), ref17_Zone_eq a (by omega), ref17_Zone_eq (a ++ b) (by rw [List.length_append]; omega)]
      simp only [Option.bind_some, ra, rb, zone_eqb, hm, zone_app]
      simp

/-! What zones tell. -/
theorem test_outside_eq (t : Tst) (z : Zn) : test_outside t z = some (decide (cC t.2 z.1 < 0) || decide (0 < cC t.2 z.2.1)) := by
  unfold test_outside
  rw [cell_Compare_eq, cell_Compare_eq]
  simp only [Option.bind_some, ltI_d]
  cases decide (cC t.2 z.1 < 0) <;> simp

theorem test_alone_eq (t : Tst) (z : Zn) : test_alone t z = (decide (z.1 = t.2) && decide (z.2.1 = t.2)) := by
  unfold test_alone
  rw [cell_eq z.1 t.2, cell_eq z.2.1 t.2]
  cases decide (z.1 = t.2) <;> simp

def noneT (t : Tst) (z : Zn) : Bool :=
  if mayT t = false then false
  else if z.2.2.2 = 0 then true
  else if t.1 = 7 then decide (z.2.2.1 = 0)
  else if z.2.2.1 = z.2.2.2 then true
  else if t.1 = 1 then decide (cC t.2 z.1 < 0) || decide (0 < cC t.2 z.2.1)
  else if t.1 = 2 then decide (z.1 = t.2) && decide (z.2.1 = t.2)
  else if t.1 = 3 ∨ t.1 = 4 then !matchT t z.1
  else if t.1 = 5 ∨ t.1 = 6 then !matchT t z.2.1
  else false

def allT (t : Tst) (z : Zn) : Bool :=
  if mayT t = false then false
  else if z.2.2.2 = 0 then false
  else if t.1 = 7 then decide (z.2.2.1 = z.2.2.2)
  else if 0 < z.2.2.1 then false
  else if t.1 = 1 then decide (z.1 = t.2) && decide (z.2.1 = t.2)
  else if t.1 = 2 then decide (cC t.2 z.1 < 0) || decide (0 < cC t.2 z.2.1)
  else if t.1 = 3 ∨ t.1 = 4 then matchT t z.2.1
  else if t.1 = 5 ∨ t.1 = 6 then matchT t z.1
  else true

theorem test_None_eq (t : Tst) (z : Zn) : test_None t z = some (noneT t z) := by
  unfold test_None noneT
  rw [test_Check_eq, test_outside_eq, test_alone_eq, test_Match_eq, test_Match_eq]
  by_cases hm : mayT t = true
  · simp only [hm, if_true, neI_d, eqI_d, Option.bind_some, decide_true, Bool.not_true, cond_false, Bool.true_eq_false, if_false]
    by_cases h0 : z.2.2.2 = 0
    · simp [h0]
    · by_cases h7 : t.1 = 7
      · simp [h0, h7]
      · by_cases he : z.2.2.1 = z.2.2.2
        · simp [h0, h7, he]
        · simp only [h0, h7, he, decide_false, cond_false, if_false]
          by_cases h1 : t.1 = 1
          · simp [h1]
          · by_cases h2 : t.1 = 2
            · simp [h2]
            · by_cases h3 : t.1 = 3
              · simp [h3]
              · by_cases h4 : t.1 = 4
                · simp [h4]
                · by_cases h5 : t.1 = 5
                  · simp [h5]
                  · by_cases h6 : t.1 = 6
                    · simp [h6]
                    · simp [h1, h2, h3, h4, h5, h6]
  · simp [hm]

theorem test_All_eq (t : Tst) (z : Zn) : test_All t z = some (allT t z) := by
  unfold test_All allT
  rw [test_Check_eq, test_outside_eq, test_alone_eq, test_Match_eq, test_Match_eq]
  by_cases hm : mayT t = true
  · simp only [hm, if_true, neI_d, eqI_d, ltI_d, Option.bind_some, decide_true, Bool.not_true, cond_false, Bool.true_eq_false, if_false]
    by_cases h0 : z.2.2.2 = 0
    · simp [h0]
    · by_cases h7 : t.1 = 7
      · simp [h0, h7]
      · by_cases he : 0 < z.2.2.1
        · simp [h0, h7, he]
        · simp only [h0, h7, he, decide_false, cond_false, if_false]
          by_cases h1 : t.1 = 1
          · simp [h1]
          · by_cases h2 : t.1 = 2
            · simp [h2]
            · by_cases h3 : t.1 = 3
              · simp [h3]
              · by_cases h4 : t.1 = 4
                · simp [h4]
                · by_cases h5 : t.1 = 5
                  · simp [h5]
                  · by_cases h6 : t.1 = 6
                    · simp [h6]
                    · simp [h1, h2, h3, h4, h5, h6]
  · simp [hm]

/-- What a zone says of each of its cells. -/
structure Holds (z : Zn) (c : Cell) : Prop where
  some : c.1 ≠ 0 → z.2.2.1 < z.2.2.2 ∧ cC z.1 c ≤ 0 ∧ cC c z.2.1 ≤ 0
  null : c.1 = 0 → 0 < z.2.2.1

theorem cC_self (a : Cell) : cC a a = 0 := (ord_cC.eq0 a a).2 rfl

theorem step_self {z : Zn} {m : Int} (hz : okZ z m) (c : Cell) : Holds (stepZ z c) c := by
  obtain ⟨z1, z2, _⟩ := hz
  unfold stepZ mrg one
  by_cases h0 : c.1 = 0
  · constructor
    · intro h; exact absurd h0 h
    · intro _; simp only [h0, if_true]; omega
  · have hne : ¬ ((1 : Int) = 0) := by omega
    constructor
    · intro _
      simp only [h0, if_false, hne]
      by_cases h1 : z.2.2.2 = z.2.2.1
      · simp only [h1, if_true, cC_self]; omega
      · simp only [h1, if_false]
        refine ⟨by omega, ?_, ?_⟩
        · unfold loC
          split
          · rw [cC_self]; omega
          · have := ord_cC.neg z.1 c; omega
        · unfold hiC
          split
          · rw [cC_self]; omega
          · omega
    · intro h; exact absurd h h0

theorem step_keep {z : Zn} {m : Int} (hz : okZ z m) {c : Cell} (d : Cell) (h : Holds z c) : Holds (stepZ z d) c := by
  obtain ⟨z1, z2, _⟩ := hz
  obtain ⟨hs, hn⟩ := h
  unfold stepZ mrg one
  by_cases h0 : d.1 = 0
  · constructor
    · intro h; have := hs h; simp only [h0, if_true]; omega
    · intro h; have := hn h; simp only [h0, if_true]; omega
  · have hne : ¬ ((1 : Int) = 0) := by omega
    constructor
    · intro h
      obtain ⟨a1, a2, a3⟩ := hs h
      have h1 : ¬ z.2.2.2 = z.2.2.1 := by omega
      simp only [h0, if_false, hne, h1]
      refine ⟨by omega, ?_, ?_⟩
      · unfold loC
        split
        · rename_i hlt
          have := ord_cC.lt_ge (a := d) (b := z.1) (d := c)
          by_cases hz : cC z.1 c = 0
          · have := (ord_cC.eq0 _ _).1 hz; rw [← this]; omega
          · have := ord_cC.lt_tr hlt (show cC z.1 c < 0 by omega); omega
        · exact a2
      · unfold hiC
        split
        · rename_i hlt
          exact ord_cC.le_tr a3 (by have := ord_cC.neg d z.2.1; omega)
        · exact a3
    · intro h
      have := hn h
      simp only [h0, if_false, hne]
      split <;> (dsimp only; omega)

theorem fold_holds : ∀ (l : List Cell) (z : Zn) (m : Int), okZ z m → (∀ c, Holds z c → Holds (l.foldl stepZ z) c) ∧ ∀ c ∈ l, Holds (l.foldl stepZ z) c
  | [], _, _, _ => ⟨fun _ h => h, fun _ h => by cases h⟩
  | d :: l, z, m, hz => by
    obtain ⟨h1, h2⟩ := fold_holds l (stepZ z d) (m + 1) (mrg_ok hz (one_ok d))
    refine ⟨fun c hc => h1 c (step_keep hz d hc), fun c hc => ?_⟩
    rcases List.mem_cons.1 hc with rfl | hc
    · exact h1 _ (step_self hz _)
    · exact h2 c hc

theorem zone_holds (l : List Cell) (c : Cell) (h : c ∈ l) : Holds (zoneL l) c := (fold_holds l z0 0 (by unfold okZ z0; simp)).2 c h

theorem cC_neg (a b : Cell) : cC b a = -cC a b := ord_cC.neg a b
theorem cC_rng (a b : Cell) : cC a b = -1 ∨ cC a b = 0 ∨ cC a b = 1 := ord_cC.rng a b
theorem cC_eq (a b : Cell) : cC a b = 0 ↔ a = b := ord_cC.eq0 a b

/-- The least and the greatest are no nulls, where there is one that is none. -/
def okE (z : Zn) : Prop := z.2.2.1 < z.2.2.2 → z.1.1 ≠ 0 ∧ z.2.1.1 ≠ 0

theorem step_okE {z : Zn} {m : Int} (hz : okZ z m) (h : okE z) (c : Cell) : okE (stepZ z c) := by
  obtain ⟨z1, z2, _⟩ := hz
  unfold okE stepZ mrg one at *
  by_cases h0 : c.1 = 0
  · simp only [h0, if_true]; intro hlt; exact h (by omega)
  · have hne : ¬ ((1 : Int) = 0) := by omega
    simp only [h0, if_false, hne]
    by_cases h1 : z.2.2.2 = z.2.2.1
    · simp only [h1, if_true]; intro _; exact ⟨h0, h0⟩
    · simp only [h1, if_false]
      have := h (by omega)
      intro _
      unfold loC hiC
      constructor
      · split
        · exact h0
        · exact this.1
      · split
        · exact h0
        · exact this.2

theorem fold_okE : ∀ (l : List Cell) (z : Zn) (m : Int), okZ z m → okE z → okE (l.foldl stepZ z)
  | [], _, _, _, h => h
  | d :: l, z, m, hz, h => fold_okE l (stepZ z d) (m + 1) (mrg_ok hz (one_ok d)) (step_okE hz h d)

theorem zone_okE (l : List Cell) : okE (zoneL l) := fold_okE l z0 0 (by unfold okZ z0; simp) (by unfold okE z0; simp)

theorem none_sound {t : Tst} {l : List Cell} {c : Cell} (h : c ∈ l) (hn : noneT t (zoneL l) = true) : matchT t c = false := by
  have hh := zone_holds l c h
  have ho := zoneL_ok l
  have hE := zone_okE l
  generalize zoneL l = z at hh ho hE hn
  obtain ⟨hs, hnl⟩ := hh
  obtain ⟨o1, o2, _⟩ := ho
  unfold noneT at hn
  cases hx : matchT t c with
  | false => rfl
  | true =>
    exfalso
    unfold matchT at hx
    have hm : mayT t = true := by cases hm : mayT t with | true => rfl | false => rw [hm] at hx; simp at hx
    rw [hm] at hx hn
    simp only [Bool.true_and, Bool.true_eq_false, if_false] at hx hn
    by_cases h7 : t.1 = 7
    · simp only [h7, if_true, decide_eq_true_eq] at hx
      have := hnl hx
      have hz : ¬ z.2.2.2 = 0 := by omega
      simp only [hz, h7, if_false, if_true, decide_eq_true_eq] at hn
      omega
    · simp only [h7, if_false, Bool.and_eq_true, decide_eq_true_eq] at hx hn
      obtain ⟨hc, hop⟩ := hx
      obtain ⟨a1, a2, a3⟩ := hs hc
      have hz : ¬ z.2.2.2 = 0 := by omega
      have hz2 : ¬ z.2.2.1 = z.2.2.2 := by omega
      obtain ⟨e1, e2⟩ := hE a1
      simp only [hz, hz2, if_false] at hn
      have n1 := cC_neg t.2 z.1
      have n2 := cC_neg t.2 z.2.1
      have n3 := cC_neg t.2 c
      unfold matchT at hn
      rw [hm] at hn
      simp only [e1, e2, ne_eq, not_false_eq_true, decide_true, Bool.true_and, h7, if_false] at hn
      rcases op_cases t.1 with k | k | k | k | k | k | k | k | ⟨_, k1, k2, k3, k4, k5, k6, _, k8⟩
      · simp [k, opOk] at hn hop
        rw [(cC_eq _ _).1 hop] at a2 a3
        omega
      · simp [k, opOk] at hn hop
        obtain ⟨p, q⟩ := hn
        rw [p] at a2
        rw [q] at a3
        omega
      · simp [k, opOk] at hn hop
        have := ord_cC.lt_ge a2 hop
        omega
      · simp [k, opOk] at hn hop
        have := ord_cC.le_tr a2 hop
        omega
      · simp [k, opOk] at hn hop
        have := ord_cC.le_lt (a := t.2) (b := c) (d := z.2.1) (by omega) a3
        omega
      · simp [k, opOk] at hn hop
        have := ord_cC.le_tr (a := t.2) (b := c) (d := z.2.1) (by omega) a3
        omega
      · exact h7 k
      · simp [k] at hn
      · simp [k1, k2, k3, k4, k5, k6] at hn

theorem all_sound {t : Tst} {l : List Cell} {c : Cell} (h : c ∈ l) (hn : allT t (zoneL l) = true) : matchT t c = true := by
  have hh := zone_holds l c h
  have ho := zoneL_ok l
  have hE := zone_okE l
  generalize zoneL l = z at hh ho hE hn
  obtain ⟨hs, hnl⟩ := hh
  obtain ⟨o1, o2, _⟩ := ho
  unfold allT at hn
  have hm : mayT t = true := by cases hm : mayT t with | true => rfl | false => rw [hm] at hn; simp at hn
  rw [hm] at hn
  simp only [Bool.true_eq_false, if_false] at hn
  have hz : ¬ z.2.2.2 = 0 := by intro e; rw [if_pos e] at hn; cases hn
  rw [if_neg hz] at hn
  unfold matchT
  rw [hm, Bool.true_and]
  by_cases h7 : t.1 = 7
  · simp only [h7, if_true, decide_eq_true_eq] at hn ⊢
    by_cases hc : c.1 = 0
    · exact hc
    · have := hs hc; omega
  · simp only [h7, if_false] at hn ⊢
    have hp : ¬ 0 < z.2.2.1 := by intro e; rw [if_pos e] at hn; cases hn
    rw [if_neg hp] at hn
    have hc : c.1 ≠ 0 := fun e => hp (hnl e)
    obtain ⟨a1, a2, a3⟩ := hs hc
    obtain ⟨e1, e2⟩ := hE a1
    have n1 := cC_neg t.2 z.1
    have n2 := cC_neg t.2 z.2.1
    have n3 := cC_neg t.2 c
    unfold matchT at hn
    rw [hm] at hn
    simp only [e1, e2, ne_eq, not_false_eq_true, decide_true, Bool.true_and, h7, if_false] at hn
    simp only [hc, ne_eq, not_false_eq_true, decide_true, Bool.true_and]
    rcases op_cases t.1 with k | k | k | k | k | k | k | k | ⟨_, k1, k2, k3, k4, k5, k6, _, k8⟩
    · simp [k, opOk] at hn ⊢
      obtain ⟨p, q⟩ := hn
      rw [p] at a2
      rw [q] at a3
      omega
    · simp [k, opOk] at hn ⊢
      intro he
      rw [(cC_eq _ _).1 he] at a2 a3
      omega
    · simp [k, opOk] at hn ⊢
      exact ord_cC.lt_ge a3 hn
    · simp [k, opOk] at hn ⊢
      exact ord_cC.le_tr a3 hn
    · simp [k, opOk] at hn ⊢
      have := ord_cC.le_lt (a := t.2) (b := z.1) (d := c) (by omega) a2
      omega
    · simp [k, opOk] at hn ⊢
      have := ord_cC.le_tr (a := t.2) (b := z.1) (d := c) (by omega) a2
      omega
    · exact absurd k h7
    · simp [k, opOk]
    · simp [k1, k2, k3, k4, k5, k6, opOk]

/-- The other test. -/
def oppT (t : Tst) : Tst := (nth [0, 2, 1, 6, 5, 4, 3, 8, 7] t.1 0, t.2)

theorem opp_sound {t : Tst} {c : Cell} (hm : mayT t = true) (hc : c.1 ≠ 0) : matchT t c ≠ matchT (oppT t) c := by
  obtain ⟨k, v⟩ := t
  have hr := cC_rng c v
  unfold oppT matchT mayT opOk at *
  have n0 : nth [0, 2, 1, 6, 5, 4, 3, 8, 7] 1 0 = (2 : Int) := rfl
  have n1 : nth [0, 2, 1, 6, 5, 4, 3, 8, 7] 2 0 = (1 : Int) := rfl
  have n2 : nth [0, 2, 1, 6, 5, 4, 3, 8, 7] 3 0 = (6 : Int) := rfl
  have n3 : nth [0, 2, 1, 6, 5, 4, 3, 8, 7] 4 0 = (5 : Int) := rfl
  have n4 : nth [0, 2, 1, 6, 5, 4, 3, 8, 7] 5 0 = (4 : Int) := rfl
  have n5 : nth [0, 2, 1, 6, 5, 4, 3, 8, 7] 6 0 = (3 : Int) := rfl
  have n6 : nth [0, 2, 1, 6, 5, 4, 3, 8, 7] 7 0 = (8 : Int) := rfl
  have n7 : nth [0, 2, 1, 6, 5, 4, 3, 8, 7] 8 0 = (7 : Int) := rfl
  rcases op_cases k with rfl | rfl | rfl | rfl | rfl | rfl | rfl | rfl | ⟨h, _, _, _, _, _, _, h7, h8⟩
  all_goals first
    | (simp only [n0, n1, n2, n3, n4, n5, n6, n7] at *
       simp [hc] at hm ⊢
       simp [hm]; done)
    | (simp only [n0, n1, n2, n3, n4, n5, n6, n7] at *
       simp [hc] at hm ⊢
       rcases hr with hr | hr | hr <;> simp [hm, hr]; done)
    | (have : ¬ (1 ≤ k ∧ k ≤ 6) := by omega
       simp [h7, h8, this] at hm)

theorem sound_loop (l : List Cell) (t u : Tst) (no al : Bool) (hl : l.length < 1099511627776) (h : ∀ c ∈ l, (no = true → matchT t c = false) ∧ (al = true → matchT t c = true) ∧ (c.1 ≠ 0 → matchT t c ≠ matchT u c)) :
    ∀ (d i n : Nat), d = l.length - i → i ≤ l.length → d < n → law17_TestSound.l1 n l no al (i : Int) t u = some true := by
  intro d
  induction d with
  | zero =>
    intro i n hd hi hn
    obtain ⟨m, rfl⟩ : ∃ m, n = m + 1 := ⟨n - 1, by omega⟩
    show law17_TestSound.S1 (law17_TestSound.l1 m) l no al (i : Int) t u = _
    unfold law17_TestSound.S1
    have hi' : i = l.length := by omega
    subst hi'
    rw [awake17]
    simp [lenL_d]
  | succ d ih =>
    intro i n hd hi hn
    obtain ⟨m, rfl⟩ : ∃ m, n = m + 1 := ⟨n - 1, by omega⟩
    show law17_TestSound.S1 (law17_TestSound.l1 m) l no al (i : Int) t u = _
    unfold law17_TestSound.S1
    have h1 : i < l.length := by omega
    have h2 : (i : Int) < (l.length : Int) := by omega
    rw [nth_get h1, lenL_d, addI_of (a := (i : Int)) (by omega) (by omega), awake17, test_Match_eq, test_Match_eq]
    have key := ih (i + 1) m (by omega) (by omega) (by omega)
    obtain ⟨a1, a2, a3⟩ := h l[i] (List.getElem_mem h1)
    have key' : law17_TestSound.l1 m l no al ((i : Int) + 1) t u = some true := key
    simp only [ltI_d, inB_nat, h1, h2, decide_true, cond_true, Option.bind_some, neI_d, eqB_d, key']
    clear h ih key
    generalize matchT t l[i] = x at *
    generalize matchT u l[i] = y at *
    cases ref06_May l[i]
    · rfl
    · by_cases hc : l[i].1 = 0
      · cases no <;> cases al <;> cases x <;> simp_all
      · have := a3 hc
        cases no <;> cases al <;> cases x <;> cases y <;> simp_all

theorem testSound (t : Tst) (l : List Cell) : law17_TestSound t l = some true := by
  unfold law17_TestSound law17_TestSound.S
  obtain ⟨x, hx, hx'⟩ := ref12_Light_eq l 60 (by omega) (by omega)
  rw [hx, awake17, test_Check_eq]
  simp only [Option.bind_some]
  cases x with
  | false => rfl
  | true =>
    have hl := hx' rfl
    by_cases hm : mayT t = true
    · have hop : 1 ≤ t.1 ∧ t.1 ≤ 8 := by
        unfold mayT at hm
        split at hm
        · omega
        · simp only [Bool.and_eq_true, decide_eq_true_eq] at hm; omega
      rw [test_Zone_eq l (by omega)]
      simp only [Option.bind_some, test_None_eq, test_All_eq]
      have hb : inB t.1 9 = true := by rw [inB_d]; apply decide_eq_true; omega
      have key : law17_TestSound.t0 fu l (noneT t (zoneL l)) (allT t (zoneL l)) t (oppT t) = some true :=
        sound_loop l t (oppT t) (noneT t (zoneL l)) (allT t (zoneL l)) (by omega) (fun c hc => ⟨none_sound hc, all_sound hc, opp_sound hm⟩) l.length 0 18446744073709551615 rfl (by omega) (by omega)
      unfold oppT at key
      simp only [hm, if_true, neI_d, leI_d, ltI_d, hop.1, hop.2, hb, decide_true, Bool.not_true, cond_false, cond_true, key]
      cases decide (100 < lenS t.2.2.2) <;> rfl
    · simp [hm]

/-! Bounds. -/
theorem shr1 {a : Int} (h0 : 0 ≤ a) (h1 : a < 9223372036854775808) : IntKind.wrap .i64 (shrI .u64 (IntKind.wrap .u64 a) 1) = a / 2 := by
  have e1 : IntKind.wrap .u64 a = a := by
    unfold IntKind.wrap
    show (if (false && decide (a % (18446744073709551616 : Int) ≥ 9223372036854775808)) = true then a % (18446744073709551616 : Int) - 18446744073709551616 else a % (18446744073709551616 : Int)) = a
    simp only [Bool.false_and, Bool.false_eq_true, if_false]
    omega
  rw [e1]
  have e2 : shrI .u64 a 1 = a / 2 := by
    show a.fdiv (2 ^ (min (Int.toNat 1) 64)) = a / 2
    rw [Int.fdiv_eq_ediv_of_nonneg _ (by decide)]
    rfl
  rw [e2, wrap64_of (by omega) (by omega)]

abbrev numC (n : Int) : Cell := (1, n, eB)

theorem bound_at (k : Nat) (op : Int) (t : Tst) (l : List Int) (h : k < l.length) : test_Bounds_1_1 (k : Int) op t l = some (matchT (op, t.2) (numC l[k])) := by
  unfold test_Bounds_1_1
  rw [nth_get h, lenL_d, inB_nat, test_Match_eq]
  simp [h]

theorem search_loop (op : Int) (t : Tst) (l : List Int) (hl : l.length < 1099511627776) (p : Nat → Bool) (hp : ∀ k (h : k < l.length), matchT (op, t.2) (numC l[k]) = p k)
    (hm : ∀ a b, a ≤ b → b < l.length → p a = true → p b = true) : ∀ (n i j : Nat), i ≤ j → j ≤ l.length → j - i < n → (∀ k, k < i → p k = false) → (∀ k, j ≤ k → k < l.length → p k = true) →
    ∃ r : Nat, sort_Search__test_Bounds_1_1.l0 n op t l (i : Int) (j : Int) = some (r : Int) ∧ r ≤ l.length ∧ (∀ k, k < r → p k = false) ∧ ∀ k, r ≤ k → k < l.length → p k = true := by
  intro n
  induction n with
  | zero => intro i j _ _ h; omega
  | succ n ih =>
    intro i j hij hj hn ha hb
    show ∃ r : Nat, sort_Search__test_Bounds_1_1.S0 (sort_Search__test_Bounds_1_1.l0 n) op t l (i : Int) (j : Int) = some (r : Int) ∧ _
    unfold sort_Search__test_Bounds_1_1.S0
    by_cases h : i < j
    · have h' : (i : Int) < (j : Int) := by omega
      rw [addI_of (a := (i : Int)) (by omega) (by omega), shr1 (by omega) (by omega)]
      have hmid : ((i : Int) + (j : Int)) / 2 = (((i + j) / 2 : Nat) : Int) := by omega
      have hlt : (i + j) / 2 < l.length := by omega
      rw [hmid, bound_at _ _ _ _ hlt, hp _ hlt, addI_of (by omega) (by omega)]
      simp only [ltI_d, h', decide_true, cond_true, Option.bind_some]
      cases hq : p ((i + j) / 2) with
      | false =>
        simp only [Bool.not_false, cond_true]
        refine ih ((i + j) / 2 + 1) j (by omega) hj (by omega) (fun k hk => ?_) hb
        cases hpk : p k with
        | false => rfl
        | true => rw [hm k ((i + j) / 2) (by omega) hlt hpk] at hq; cases hq
      | true =>
        simp only [Bool.not_true, cond_false]
        refine ih i ((i + j) / 2) (by omega) (by omega) (by omega) ha (fun k hk hk2 => hm _ _ hk hk2 hq)
    · have h' : ¬ (i : Int) < (j : Int) := by omega
      have : i = j := by omega
      subst this
      exact ⟨i, by simp [h'], hj, ha, hb⟩

theorem first_eq (op : Int) (t : Tst) (l : List Int) (hl : l.length < 1099511627776) (p : Nat → Bool) (hp : ∀ k (h : k < l.length), matchT (op, t.2) (numC l[k]) = p k)
    (hm : ∀ a b, a ≤ b → b < l.length → p a = true → p b = true) : ∃ r : Nat, test_Bounds_1 op l t = some (r : Int) ∧ r ≤ l.length ∧ (∀ k, k < r → p k = false) ∧ ∀ k, r ≤ k → k < l.length → p k = true := by
  unfold test_Bounds_1
  rw [bind_some']
  exact search_loop op t l hl p hp hm fu 0 l.length (by omega) (by omega) (by unfold fu; omega) (fun k h => by omega) (fun k h h' => by omega)

def Rising (l : List Int) : Prop := ∀ i (h : i + 1 < l.length), l[i]'(by omega) < l[i + 1]

theorem rising_lt {l : List Int} (h : Rising l) : ∀ (d a : Nat) (hb : a + d + 1 < l.length), l[a]'(by omega) < l[a + d + 1]
  | 0, a, hb => h a hb
  | d + 1, a, hb => Int.lt_trans (rising_lt h d a (by omega)) (h (a + d + 1) hb)

theorem num_cC (x y : Int) : cC (numC x) (numC y) = sgn x y := by
  unfold cC lexC
  have h1 : sgn 1 1 = 0 := rfl
  have h2 : cmpS eB eB = 0 := (ord_cmpS.eq0 _ _).2 rfl
  simp only [h1, h2]
  by_cases h : sgn x y = 0 <;> simp [h]

theorem rising_cC {l : List Int} (h : Rising l) {a b : Nat} (hab : a ≤ b) (hb : b < l.length) : cC (numC (l[a]'(by omega))) (numC l[b]) ≤ 0 := by
  rw [num_cC]
  unfold sgn
  by_cases e : a = b
  · subst e; simp
  · have := rising_lt h (b - a - 1) a (by omega)
    have e2 : a + (b - a - 1) + 1 = b := by omega
    simp only [e2] at this
    rw [if_pos this]; omega

def kOf (t : Tst) (l : List Int) (k : Nat) : Int := cC (numC (l.getD k 0)) t.2

theorem kOf_get (t : Tst) (l : List Int) {k : Nat} (h : k < l.length) : kOf t l k = cC (numC l[k]) t.2 := by
  unfold kOf; rw [List.getD_eq_getElem?_getD, List.getElem?_eq_getElem h]; rfl

theorem match_num {t : Tst} (op : Int) (hm : mayT t = true) (h1 : 1 ≤ t.1 ∧ t.1 ≤ 6) (ho : 1 ≤ op ∧ op ≤ 6) (x : Int) : matchT (op, t.2) (numC x) = opOk op (cC (numC x) t.2) := by
  have hm' : mayT (op, t.2) = true := by
    unfold mayT at *
    have a1 : ¬ (t.1 = 7 ∨ t.1 = 8) := by omega
    have a2 : ¬ (op = 7 ∨ op = 8) := by omega
    rw [if_neg a1] at hm
    rw [if_neg a2]
    simp only [Bool.and_eq_true, decide_eq_true_eq] at hm ⊢
    exact ⟨ho, hm.2⟩
  unfold matchT
  rw [hm']
  have : ¬ op = 7 := by omega
  simp [this]

theorem first_ge {t : Tst} {l : List Int} (hl : l.length < 1099511627776) (hr : Rising l) (hm : mayT t = true) (h1 : 1 ≤ t.1 ∧ t.1 ≤ 6) :
    ∃ r : Nat, test_Bounds_1 6 l t = some (r : Int) ∧ r ≤ l.length ∧ ∀ k, k < l.length → (0 ≤ kOf t l k ↔ r ≤ k) := by
  obtain ⟨r, h2, h3, h4, h5⟩ := first_eq 6 t l hl (fun k => decide (0 ≤ kOf t l k)) (fun k h => by
    rw [match_num 6 hm h1 (by omega), kOf_get t l h]; rfl) (fun a b hab hb ha => by
      have ha' := of_decide_eq_true ha
      apply decide_eq_true
      rw [kOf_get t l (by omega)] at ha'
      rw [kOf_get t l hb]
      have := rising_cC hr hab hb
      have := cC_neg (numC (l[a]'(by omega))) (numC l[b])
      exact ord_cC.ge_tr (a := numC l[b]) (b := numC (l[a]'(by omega))) (by omega) ha')
  refine ⟨r, h2, h3, fun k hk => ⟨fun h => ?_, fun h => of_decide_eq_true (h5 k h hk)⟩⟩
  by_cases hc : r ≤ k
  · exact hc
  · have := of_decide_eq_false (h4 k (by omega)); exact absurd h this

theorem first_gt {t : Tst} {l : List Int} (hl : l.length < 1099511627776) (hr : Rising l) (hm : mayT t = true) (h1 : 1 ≤ t.1 ∧ t.1 ≤ 6) :
    ∃ r : Nat, test_Bounds_1 5 l t = some (r : Int) ∧ r ≤ l.length ∧ ∀ k, k < l.length → (0 < kOf t l k ↔ r ≤ k) := by
  obtain ⟨r, h2, h3, h4, h5⟩ := first_eq 5 t l hl (fun k => decide (0 < kOf t l k)) (fun k h => by
    rw [match_num 5 hm h1 (by omega), kOf_get t l h]; rfl) (fun a b hab hb ha => by
      have ha' := of_decide_eq_true ha
      apply decide_eq_true
      rw [kOf_get t l (by omega)] at ha'
      rw [kOf_get t l hb]
      have h6 := rising_cC hr hab hb
      have h7 := cC_neg (numC (l[a]'(by omega))) t.2
      have := ord_cC.le_lt (a := t.2) (b := numC (l[a]'(by omega))) (by omega) h6
      have := cC_neg (numC l[b]) t.2
      omega)
  refine ⟨r, h2, h3, fun k hk => ⟨fun h => ?_, fun h => of_decide_eq_true (h5 k h hk)⟩⟩
  by_cases hc : r ≤ k
  · exact hc
  · have := of_decide_eq_false (h4 k (by omega)); exact absurd h this

/-- What bounds are: what passes lies between. -/
def Between (t : Tst) (l : List Int) (f g : Nat) : Prop := g ≤ l.length ∧ (f < g ∨ f = 0 ∧ g = 0) ∧ ∀ k (h : k < l.length), matchT t (numC l[k]) = decide (f ≤ k ∧ k < g)

theorem bounds_end {t : Tst} {l : List Int} {f g : Nat} (hg : g ≤ l.length) (h : ∀ k (h : k < l.length), matchT t (numC l[k]) = decide (f ≤ k ∧ k < g)) :
    ∃ f' g' : Nat, test_Bounds.t0 fu (f : Int) (g : Int) = some ((f' : Int), (g' : Int)) ∧ Between t l f' g' := by
  show ∃ f' g' : Nat, test_Bounds.S0 (f : Int) (g : Int) = _ ∧ _
  unfold test_Bounds.S0
  by_cases hfg : g ≤ f
  · have : (g : Int) ≤ (f : Int) := by omega
    refine ⟨0, 0, by simp [this], by omega, .inr ⟨rfl, rfl⟩, fun k hk => ?_⟩
    rw [h k hk]
    apply decide_eq_decide.2
    omega
  · have : ¬ (g : Int) ≤ (f : Int) := by omega
    exact ⟨f, g, by simp [this], hg, .inl (by omega), h⟩

theorem bounds_eq {t : Tst} {l : List Int} (hl : l.length < 1099511627776) (hr : Rising l) (hm : mayT t = true) (h2 : t.1 ≠ 2) :
    ∃ f g : Nat, test_Bounds t l = some ((f : Int), (g : Int)) ∧ Between t l f g := by
  unfold test_Bounds test_Bounds.S
  rw [test_Check_eq]
  have hop : 1 ≤ t.1 ∧ t.1 ≤ 8 := by
    unfold mayT at hm
    split at hm
    · omega
    · simp only [Bool.and_eq_true, decide_eq_true_eq] at hm; omega
  by_cases h7 : t.1 = 7
  · refine ⟨0, 0, by simp [h7, hm], by omega, .inr ⟨rfl, rfl⟩, fun k hk => ?_⟩
    unfold matchT
    simp [h7]
  · by_cases h8 : t.1 = 8
    · have key := bounds_end (t := t) (l := l) (f := 0) (g := l.length) (by omega) (fun k hk => by
        unfold matchT opOk
        simp [h8, hm, hk])
      simpa [h8, hm, lenL_d] using key
    · have h16 : 1 ≤ t.1 ∧ t.1 ≤ 6 := by omega
      have hmt : ∀ k (h : k < l.length), matchT t (numC l[k]) = opOk t.1 (kOf t l k) := fun k h => by
        have := match_num t.1 hm h16 h16 l[k]
        rw [kOf_get t l h]
        exact this
      obtain ⟨a, a1, a2, a3⟩ := first_ge hl hr hm h16
      obtain ⟨b, b1, b2, b3⟩ := first_gt hl hr hm h16
      rw [a1, b1]
      rcases op_cases t.1 with k | k | k | k | k | k | k | k | ⟨h, _⟩
      · have key := bounds_end (t := t) (l := l) (f := a) (g := b) b2 (fun i hi => by
          rw [hmt i hi, k]
          have x1 := a3 i hi
          have x2 := b3 i hi
          show decide (kOf t l i = 0) = _
          apply decide_eq_decide.2
          omega)
        simpa [k, hm] using key
      · exact absurd k h2
      · have key := bounds_end (t := t) (l := l) (f := 0) (g := a) a2 (fun i hi => by
          rw [hmt i hi, k]
          have x1 := a3 i hi
          show decide (kOf t l i < 0) = _
          apply decide_eq_decide.2
          omega)
        simpa [k, hm] using key
      · have key := bounds_end (t := t) (l := l) (f := 0) (g := b) b2 (fun i hi => by
          rw [hmt i hi, k]
          have x1 := b3 i hi
          show decide (kOf t l i ≤ 0) = _
          apply decide_eq_decide.2
          omega)
        simpa [k, hm] using key
      · have key := bounds_end (t := t) (l := l) (f := b) (g := l.length) (by omega) (fun i hi => by
          rw [hmt i hi, k]
          have x1 := b3 i hi
          show decide (0 < kOf t l i) = _
          apply decide_eq_decide.2
          omega)
        simpa [k, hm, b1, lenL_d] using key
      · have key := bounds_end (t := t) (l := l) (f := a) (g := l.length) (by omega) (fun i hi => by
          rw [hmt i hi, k]
          have x1 := a3 i hi
          show decide (0 ≤ kOf t l i) = _
          apply decide_eq_decide.2
          omega)
        simpa [k, hm, a1, lenL_d] using key
      · exact absurd k h7
      · exact absurd k h8
      · omega

theorem bounds_none {t : Tst} (l : List Int) (h : t.1 = 2 ∨ mayT t = false) : test_Bounds t l = some (0, 0) := by
  unfold test_Bounds test_Bounds.S
  rw [test_Check_eq]
  rcases h with h | h
  · cases hm : mayT t <;> simp [h]
  · simp [h]

theorem law_num_eq (n : Int) : law17_num n = numC n := rfl

theorem bcheck_loop (l : List Int) (t : Tst) (f g : Nat) (o : Int → Int → Bool → Option Bool) (hl : l.length < 1099511627776) (hb : Between t l f g) (ho : ∀ s : Bool, (s = true ∨ f = 0 ∧ g = 0) → o f g s = some true) :
    ∀ (d i n : Nat) (s : Bool), d = l.length - i → i ≤ l.length → d < n → (f < i → f < g → s = true) →
    law17_TestBounds.l2 o n l (f : Int) (g : Int) s (i : Int) t = some true := by
  obtain ⟨b1, b2, b3⟩ := hb
  intro d
  induction d with
  | zero =>
    intro i n s hd hi hn hs
    obtain ⟨m, rfl⟩ : ∃ m, n = m + 1 := ⟨n - 1, by omega⟩
    show law17_TestBounds.S2 o (law17_TestBounds.l2 o m) l (f : Int) (g : Int) s (i : Int) t = _
    unfold law17_TestBounds.S2
    have hi' : i = l.length := by omega
    subst hi'
    have : ¬ ((l.length : Int) < (l.length : Int)) := by omega
    simp only [ltI_d, lenL_d, this, decide_false, cond_false]
    refine ho s ?_
    rcases b2 with h | h
    · exact .inl (hs (by omega) h)
    · exact .inr h
  | succ d ih =>
    intro i n s hd hi hn hs
    obtain ⟨m, rfl⟩ : ∃ m, n = m + 1 := ⟨n - 1, by omega⟩
    show law17_TestBounds.S2 o (law17_TestBounds.l2 o m) l (f : Int) (g : Int) s (i : Int) t = _
    unfold law17_TestBounds.S2
    have h1 : i < l.length := by omega
    have h2 : (i : Int) < (l.length : Int) := by omega
    rw [nth_get h1, lenL_d, addI_of (a := (i : Int)) (by omega) (by omega), law_num_eq]
    dsimp only
    rw [ref17_Match_eq, b3 i h1]
    have k1 : (f : Int) ≤ (i : Int) ↔ f ≤ i := by omega
    have k2 : (i : Int) < (g : Int) ↔ i < g := by omega
    simp only [ltI_d, leI_d, inB_nat, h1, h2, k1, k2, decide_true, cond_true, eqB_d]
    by_cases hf : f ≤ i
    · simp only [hf, true_and, decide_true, cond_true, beq_self_eq_true, Bool.not_true, cond_false]
      have kt := ih (i + 1) m true (by omega) (by omega) (by omega) (fun _ _ => rfl)
      have kt' : law17_TestBounds.l2 o m l (f : Int) (g : Int) true ((i : Int) + 1) t = some true := kt
      cases s with
      | true => simpa using kt'
      | false =>
        have : law17_TestBounds.l2 o m l (f : Int) (g : Int) (decide (i < g)) ((i : Int) + 1) t = some true := by
          refine ih (i + 1) m _ (by omega) (by omega) (by omega) (fun a b => ?_)
          by_cases e : f = i
          · apply decide_eq_true; omega
          · exact absurd (hs (by omega) b) (by simp)
        simpa using this
    · simp only [hf, false_and, decide_false, cond_false, beq_self_eq_true, Bool.not_true]
      have kf : law17_TestBounds.l2 o m l (f : Int) (g : Int) false ((i : Int) + 1) t = some true := ih (i + 1) m false (by omega) (by omega) (by omega) (fun a b => by omega)
      have kt : law17_TestBounds.l2 o m l (f : Int) (g : Int) true ((i : Int) + 1) t = some true := ih (i + 1) m true (by omega) (by omega) (by omega) (fun _ _ => rfl)
      cases s
      · simpa using kf
      · simpa using kt

theorem rise_loop (l : List Int) (t : Tst) (o : List Int → Tst → Option Bool) (hl : l.length < 1099511627776) (ho : Rising l → o l t = some true) :
    ∀ (d i n : Nat), d = l.length - i → 1 ≤ i → (i ≤ l.length ∨ i = 1) → d < n → (∀ k (h : k + 1 < l.length), k + 1 < i → l[k]'(by omega) < l[k + 1]) → law17_TestBounds.l0 o n l (i : Int) t = some true := by
  intro d
  induction d with
  | zero =>
    intro i n hd h1 hi hn hr
    obtain ⟨m, rfl⟩ : ∃ m, n = m + 1 := ⟨n - 1, by omega⟩
    show law17_TestBounds.S0 o (law17_TestBounds.l0 o m) l (i : Int) t = _
    unfold law17_TestBounds.S0
    have : ¬ ((i : Int) < (l.length : Int)) := by omega
    simp only [ltI_d, lenL_d, this, decide_false, cond_false]
    exact ho fun k hk => hr k hk (by omega)
  | succ d ih =>
    intro i n hd h1 hi hn hr
    obtain ⟨m, rfl⟩ : ∃ m, n = m + 1 := ⟨n - 1, by omega⟩
    show law17_TestBounds.S0 o (law17_TestBounds.l0 o m) l (i : Int) t = _
    unfold law17_TestBounds.S0
    have h2 : i < l.length := by omega
    have h3 : (i : Int) < (l.length : Int) := by omega
    have h4 : subI .i64 (i : Int) 1 = ((i - 1 : Nat) : Int) := by rw [subI_of (by omega) (by omega)]; omega
    rw [h4, nth_get h2, nth_get (show i - 1 < l.length by omega), lenL_d, addI_of (a := (i : Int)) (by omega) (by omega), awake17]
    have h5 : i - 1 < l.length := by omega
    simp only [ltI_d, leI_d, inB_nat, h2, h3, h5, decide_true, cond_true]
    by_cases h : l[i] ≤ l[i - 1]
    · simp [h]
    · simp only [h, decide_false, cond_false]
      refine ih (i + 1) m (by omega) (by omega) (by omega) (by omega) (fun k hk hki => ?_)
      by_cases e : k + 1 = i
      · subst e
        have : k + 1 - 1 = k := by omega
        simp only [this] at h
        omega
      · exact hr k hk (by omega)

theorem testBounds (t : Tst) (l : List Int) : law17_TestBounds t l = some true := by
  unfold law17_TestBounds law17_TestBounds.S
  rw [awake17]
  simp only [ltI_d, lenL_d]
  by_cases h60 : 60 < (l.length : Int)
  · simp [h60]
  · simp only [h60, decide_false, cond_false]
    cases decide (100 < lenS t.2.2.2) with
    | true => rfl
    | false =>
      simp only [cond_false]
      refine rise_loop l t _ (by omega) (fun hr => ?_) (l.length - 1) 1 fu rfl (by omega) (.inr rfl) (by unfold fu; omega) (fun k h h' => by omega)
      show law17_TestBounds.S1 (law17_TestBounds.l2 (law17_TestBounds.t3 18446744073709551615) 18446744073709551615) l t = _
      unfold law17_TestBounds.S1
      rw [awake17, ref17_May_eq]
      by_cases h2 : t.1 = 2
      · rw [bounds_none l (.inl h2)]
        simp [h2]
      · cases hm : mayT t with
        | false =>
          rw [bounds_none l (.inr hm)]
          simp [h2]
        | true =>
          obtain ⟨f, g, e, hb⟩ := bounds_eq (by omega) hr hm h2
          rw [e]
          simp only [Option.bind_some, eqI_d, h2, decide_false, cond_false, Bool.not_true]
          refine bcheck_loop l t f g _ (by omega) hb (fun s hs => ?_) l.length 0 _ false rfl (by omega) (by omega) (fun a _ => by omega)
          show law17_TestBounds.S3 (f : Int) (g : Int) s = _
          unfold law17_TestBounds.S3
          rw [awake17]
          rcases hs with rfl | ⟨rfl, rfl⟩
          · rfl
          · cases s <;> rfl
end Go.AM.Pure
