import Derived.Test.YtboihdnijlilpaaDoorAmPBytes
/- Rows written as bytes: layer 06. -/
namespace Go.AM.Pure
open Go.AM

theorem vbytes_size (x : Int) : (vbytes x).size ≤ 10 := by
  unfold vbytes
  rw [ofBytes_size]
  have hlt : bits_Zig x % 18446744073709551616 < 128 ^ 10 := by
    have : (128 : Int) ^ 10 = 1180591620717411303424 := rfl
    omega
  exact (dig_len 10 _ (by omega) (by omega) hlt).2.1

/-- A cell's bytes. -/
def encC (c : Cell) : List Int :=
  if c.1 = 1 then 1 :: toBytes (vbytes c.2.1) else if c.1 = 2 then 2 :: (c.2.2.size : Int) :: toBytes c.2.2 else [0]

/-- The bytes of cells, if all of them may be. -/
def encL : List Cell → Option (List Int)
  | [] => some []
  | c :: l => if ref06_May c = true then (encL l).map fun t => encC c ++ t else none

theorem may_cases {c : Cell} (h : ref06_May c = true) : c.1 = 0 ∨ c.1 = 1 ∨ (c.1 = 2 ∧ c.2.2.size ≤ 32) := by
  obtain ⟨k, n, s⟩ := c
  simp only [ref06_May, eqI_d, eqS_d, leI_d, lenS_d, cond_ite, decide_eq_true_eq] at h ⊢
  by_cases h0 : k = 0
  · exact .inl h0
  · by_cases h1 : k = 1
    · exact .inr (.inl h1)
    · rw [if_neg h0, if_neg h1] at h
      by_cases h2 : k = 2
      · rw [if_pos h2] at h
        by_cases hn : n = 0
        · rw [if_pos hn] at h
          have := of_decide_eq_true h
          exact .inr (.inr ⟨h2, by omega⟩)
        · rw [if_neg hn] at h; cases h
      · rw [if_neg h2] at h; cases h

theorem encC_len {c : Cell} (h : ref06_May c = true) : (encC c).length ≤ 34 := by
  unfold encC
  have := vbytes_size c.2.1
  rcases may_cases h with h | h | ⟨h, hs⟩
  · rw [if_neg (by omega), if_neg (by omega)]; simp
  · rw [if_pos h, List.length_cons, toBytes_len]; omega
  · rw [if_neg (by omega), if_pos h, List.length_cons, List.length_cons, toBytes_len]; omega

/-- What both say. -/
def putRes (b : List Int) (l : Option (List Int)) : ByteArray × Int :=
  match l with
  | some t => (ofBytes (b ++ t), 0)
  | none => (eB, 1)

theorem put_loop (r : List Cell) (hr : r.length ≤ 255) : ∀ (d i n : Nat) (b : List Int), d = r.length - i → i ≤ r.length → d < n → b.length ≤ 1 + 34 * i →
    cell_Put.l0 n b r (r.length : Int) (i : Int) = some (putRes b (encL (r.drop i))) := by
  intro d
  induction d with
  | zero =>
    intro i n b hd hi hn hb
    obtain ⟨m, rfl⟩ : ∃ m, n = m + 1 := ⟨n - 1, by omega⟩
    show cell_Put.S0 (cell_Put.l0 m) b r (r.length : Int) (i : Int) = _
    unfold cell_Put.S0
    have hi' : i = r.length := by omega
    subst hi'
    rw [nat_int_ge (Nat.le_refl _), List.drop_eq_nil_of_le (Nat.le_refl _)]
    show some (ofBytes b, (0 : Int)) = some (ofBytes (b ++ []), (0 : Int))
    rw [List.append_nil]
  | succ d ih =>
    intro i n b hd hi hn hb
    obtain ⟨m, rfl⟩ : ∃ m, n = m + 1 := ⟨n - 1, by omega⟩
    show cell_Put.S0 (cell_Put.l0 m) b r (r.length : Int) (i : Int) = _
    unfold cell_Put.S0
    have h1 : i < r.length := by omega
    have hroom : ∀ k : Nat, k ≤ 100000 → roomB k 1 = true := fun k hk => decide_eq_true (by omega)
    rw [nat_int_lt h1, nth_get h1, lenL_d, inB_nat, decide_eq_true h1, List.drop_eq_getElem_cons h1, cell_Check_eq, addI_of (by omega) (by omega), hroom _ (by omega)]
    simp only [cond_true]
    generalize r[i] = c
    unfold encL
    by_cases hm : ref06_May c = true
    · rw [if_pos hm, if_pos hm]
      have hne : neI (0 : Int) 0 = false := rfl
      rw [hne]
      simp only [cond_false]
      have hstep := ih (i + 1) m (b ++ encC c) (by omega) (by omega) (by omega) (by have := encC_len hm; rw [List.length_append]; omega)
      rw [show ((i + 1 : Nat) : Int) = (i : Int) + 1 from rfl] at hstep
      have hres : putRes b ((encL (r.drop (i + 1))).map fun t => encC c ++ t) = putRes (b ++ encC c) (encL (r.drop (i + 1))) := by
        cases encL (r.drop (i + 1)) with
        | none => rfl
        | some t =>
          show (ofBytes (b ++ (encC c ++ t)), (0 : Int)) = (ofBytes (b ++ encC c ++ t), (0 : Int))
          rw [List.append_assoc]
      rw [hres, ← hstep]
      have hvs := vbytes_size c.2.1
      rcases may_cases hm with h | h | ⟨h, hs⟩
      · have g1 : eqI c.1 1 = false := decide_eq_false (by omega)
        have g2 : eqI c.1 2 = false := decide_eq_false (by omega)
        rw [g1, g2, h]
        unfold encC
        rw [if_neg (by omega), if_neg (by omega)]
        rfl
      · have g1 : eqI c.1 1 = true := decide_eq_true h
        rw [g1, vint_Put_eq, h]
        simp only [cond_true, Option.bind_some]
        rw [hroom _ (by simp; omega)]
        unfold encC
        rw [if_pos h, List.append_assoc]
        rfl
      · have g1 : eqI c.1 1 = false := decide_eq_false (by omega)
        have g2 : eqI c.1 2 = true := decide_eq_true h
        have hw : IntKind.wrap .u8 (lenS c.2.2) = (c.2.2.size : Int) := by rw [lenS_d, wrapU8]; omega
        rw [g1, g2, hw, h, hroom _ (by simp; omega), hroom _ (by simp; omega)]
        unfold encC
        rw [if_neg (by omega), if_pos h]
        simp only [cond_true, cond_false]
        rw [List.append_assoc, List.append_assoc]
        rfl
    · rw [if_neg hm, if_neg hm]
      have hne : neI (1 : Int) 0 = true := rfl
      rw [hne]
      rfl

theorem addS_of (a b : List Int) : addS (ofBytes a) (ofBytes b) = ofBytes (a ++ b) := (ofBytes_append a b).symm

theorem ref06_bytes_eq {c : Cell} (hm : ref06_May c = true) (hin : in64 c.2.1) : ref06_bytes c = some (ofBytes (encC c)) := by
  unfold ref06_bytes
  have hvs := vbytes_size c.2.1
  have hle : ∀ a b : ByteArray, a.size + b.size ≤ 1000 → roomS a b = true := fun a b h => decide_eq_true (by omega)
  rcases may_cases hm with h | h | ⟨h, hs⟩
  · have g1 : eqI c.1 1 = false := decide_eq_false (by omega)
    have g2 : eqI c.1 2 = false := decide_eq_false (by omega)
    rw [g1, g2, h]
    unfold encC
    rw [if_neg (by omega), if_neg (by omega)]
    rfl
  · have g1 : eqI c.1 1 = true := decide_eq_true h
    rw [g1, ref02_Put_eq hin, h]
    simp only [cond_true, Option.bind_some]
    rw [hle _ _ (by rw [ofBytes_size]; simp only [List.length_cons, List.length_nil]; omega)]
    simp only [cond_true]
    unfold encC
    rw [if_pos h]
    have : vbytes c.2.1 = ofBytes (toBytes (vbytes c.2.1)) := (ofBytes_toBytes _).symm
    rw [this, addS_of, ← this]
    rfl
  · have g1 : eqI c.1 1 = false := decide_eq_false (by omega)
    have g2 : eqI c.1 2 = true := decide_eq_true h
    have hw : IntKind.wrap .u8 (lenS c.2.2) = (c.2.2.size : Int) := by rw [lenS_d, wrapU8]; omega
    rw [g1, g2, hw, h]
    simp only [cond_true, cond_false]
    have e3 : addS (ofBytes [IntKind.wrap .u8 2]) (ofBytes [(c.2.2.size : Int)]) = ofBytes [2, (c.2.2.size : Int)] := addS_of _ _
    rw [hle (ofBytes [IntKind.wrap .u8 2]) _ (by rw [ofBytes_size, ofBytes_size]; simp only [List.length_cons, List.length_nil]; omega), e3,
      hle _ _ (by rw [ofBytes_size]; simp only [List.length_cons, List.length_nil]; omega)]
    simp only [cond_true]
    unfold encC
    rw [if_neg (by omega), if_pos h]
    have : c.2.2 = ofBytes (toBytes c.2.2) := (ofBytes_toBytes _).symm
    rw [show addS (ofBytes [2, (c.2.2.size : Int)]) c.2.2 = addS (ofBytes [2, (c.2.2.size : Int)]) (ofBytes (toBytes c.2.2)) by rw [← this], addS_of]
    rfl

theorem rput06_loop (r : List Cell) (hr : r.length ≤ 255) (hin : ∀ c ∈ r, in64 c.2.1) : ∀ (d i n : Nat) (b : List Int), d = r.length - i → i ≤ r.length → d < n → b.length ≤ 1 + 34 * i →
    ref06_Put.l0 n r (ofBytes b) (i : Int) = some (putRes b (encL (r.drop i))) := by
  intro d
  induction d with
  | zero =>
    intro i n b hd hi hn hb
    obtain ⟨m, rfl⟩ : ∃ m, n = m + 1 := ⟨n - 1, by omega⟩
    show ref06_Put.S0 (ref06_Put.l0 m) r (ofBytes b) (i : Int) = _
    unfold ref06_Put.S0
    have hi' : i = r.length := by omega
    subst hi'
    rw [lenL_d, nat_int_ge (Nat.le_refl _), List.drop_eq_nil_of_le (Nat.le_refl _)]
    show some (ofBytes b, (0 : Int)) = some (ofBytes (b ++ []), (0 : Int))
    rw [List.append_nil]
  | succ d ih =>
    intro i n b hd hi hn hb
    obtain ⟨m, rfl⟩ : ∃ m, n = m + 1 := ⟨n - 1, by omega⟩
    show ref06_Put.S0 (ref06_Put.l0 m) r (ofBytes b) (i : Int) = _
    unfold ref06_Put.S0
    have h1 : i < r.length := by omega
    have hc : in64 r[i].2.1 := hin _ (List.getElem_mem h1)
    rw [lenL_d, nat_int_lt h1, nth_get h1, inB_nat, decide_eq_true h1, List.drop_eq_getElem_cons h1, addI_of (by omega) (by omega)]
    simp only [cond_true]
    revert hc
    generalize r[i] = c
    intro hc
    unfold encL
    by_cases hm : ref06_May c = true
    · have hlen := encC_len hm
      rw [if_pos hm, hm, ref06_bytes_eq hm hc]
      simp only [Bool.not_true, cond_false, Option.bind_some]
      have hle : roomS (ofBytes b) (ofBytes (encC c)) = true := by
        refine decide_eq_true ?_
        rw [ofBytes_size, ofBytes_size]; omega
      have hstep := ih (i + 1) m (b ++ encC c) (by omega) (by omega) (by omega) (by rw [List.length_append]; omega)
      rw [show ((i + 1 : Nat) : Int) = (i : Int) + 1 from rfl] at hstep
      have hres : putRes b ((encL (r.drop (i + 1))).map fun t => encC c ++ t) = putRes (b ++ encC c) (encL (r.drop (i + 1))) := by
        cases encL (r.drop (i + 1)) with
        | none => rfl
        | some t =>
          show (ofBytes (b ++ (encC c ++ t)), (0 : Int)) = (ofBytes (b ++ encC c ++ t), (0 : Int))
          rw [List.append_assoc]
      rw [hres, ← hstep, hle, addS_of]
      rfl
    · have hm' : ref06_May c = false := by cases h : ref06_May c <;> simp_all
      rw [if_neg hm, hm']
      rfl

theorem cell_Put_eq (r : List Cell) (hin : ∀ c ∈ r, in64 c.2.1) (hr : r.length ≤ 255) : cell_Put r = some (putRes [(r.length : Int)] (encL r)) ∧ ref06_Put r = some (putRes [(r.length : Int)] (encL r)) := by
  have hw : IntKind.wrap .u8 (lenL r) = (r.length : Int) := by rw [lenL_d, wrapU8]; omega
  have hlt : ltI 255 (lenL r) = false := by rw [lenL_d]; exact decide_eq_false (by omega)
  have h1 := put_loop r hr (r.length - 0) 0 fu [(r.length : Int)] rfl (by omega) (by unfold fu; omega) (by simp)
  have h2 := rput06_loop r hr hin (r.length - 0) 0 fu [(r.length : Int)] rfl (by omega) (by unfold fu; omega) (by simp)
  rw [List.drop_zero, show ((0 : Nat) : Int) = 0 from rfl] at h1 h2
  constructor
  · show cell_Put.S (cell_Put.l0 fu) r = _
    unfold cell_Put.S
    rw [hlt, hw, lenL_d]
    exact h1
  · show ref06_Put.S (ref06_Put.l0 fu) r = _
    unfold ref06_Put.S
    rw [hlt, hw]
    exact h2

end Go.AM.Pure
