import Derived.Test.YtboihdnijlilpaaDoorAmPVtk2
import Derived.Test.YtboihdnijlilpaaDoorAmP06
/- Rows as bytes: layer 06. -/
namespace Go.AM.Pure
open Go.AM

theorem cutS_size (s : ByteArray) (lo hi : Nat) (h : hi ≤ s.size) : (cutS s (lo : Int) (hi : Int)).size = hi - lo := by
  unfold cutS
  show (s.extract lo hi).size = _
  rw [ByteArray.size_extract]
  omega

theorem cutS_byte (s : ByteArray) (lo : Nat) (h : lo ≤ s.size) (j : Nat) : byteAt (cutS s (lo : Int) (s.size : Int)) (j : Int) = byteAt s ((lo + j : Nat) : Int) := by
  unfold byteAt cutS
  show (((s.extract lo s.size).data.toList.getD j 0).toNat : Int) = ((s.data.toList.getD (lo + j) 0).toNat : Int)
  rw [ByteArray.data_extract, Array.toList_extract, List.getD_eq_getElem?_getD, List.getD_eq_getElem?_getD]
  congr 2
  rw [List.extract_eq_take_drop, List.getElem?_take]
  by_cases hj : j < s.size - lo
  · rw [if_pos hj, List.getElem?_drop]
  · rw [if_neg hj, List.getElem?_eq_none (by rw [Array.length_toList]; show s.size ≤ _; omega)]

theorem cutS_cut (s : ByteArray) (a lo hi : Nat) (h2 : hi ≤ s.size - a) : cutS (cutS s (a : Int) (s.size : Int)) (lo : Int) (hi : Int) = cutS s ((a + lo : Nat) : Int) ((a + hi : Nat) : Int) := by
  apply bytes_ext.1
  unfold cutS
  show ((s.extract a s.size).extract lo hi).data.toList = (s.extract (a + lo) (a + hi)).data.toList
  rw [ByteArray.data_extract, ByteArray.data_extract, ByteArray.data_extract, Array.toList_extract, Array.toList_extract, Array.toList_extract, List.extract_eq_take_drop, List.extract_eq_take_drop, List.extract_eq_take_drop]
  apply List.ext_getElem?
  intro j
  simp only [List.getElem?_take, List.getElem?_drop]
  have hl : s.data.toList.length = s.size := by rw [Array.length_toList]; rfl
  by_cases hj : j < hi - lo
  · rw [if_pos hj, if_pos (by omega), if_pos (by omega)]
    congr 1
    omega
  · rw [if_neg hj, if_neg (by omega)]

theorem wrap_byte (s : ByteArray) (i : Int) : IntKind.wrap .i64 (byteAt s i) = byteAt s i := by
  have := byteAt_rng s i
  exact wrap64_of (by omega) (by omega)

theorem size0 {s : ByteArray} : s = eB ↔ s.size = 0 := by
  constructor
  · rintro rfl; rfl
  · intro h
    apply bytes_ext.1
    have : s.data.toList.length = 0 := by rw [Array.length_toList]; exact h
    rw [List.eq_nil_of_length_eq_zero this]
    rfl

theorem cell_one_eq (s : ByteArray) (hs : s.size < 4611686018427387904) : cell_one s = ref06_one s := by
  unfold cell_one ref06_one
  by_cases h0 : s = eB
  · have : eqS s eB = true := by rw [eqS_d]; exact decide_eq_true h0
    rw [this]; rfl
  · have e0 : eqS s eB = false := by rw [eqS_d]; exact decide_eq_false h0
    have hpos : 0 < s.size := by
      rcases Nat.eq_zero_or_pos s.size with h | h
      · exact absurd (size0.2 h) h0
      · exact h
    have e1 : inB 0 (lenS s) = true := by rw [inB_d, lenS_d]; exact decide_eq_true (by omega)
    have e2 : inC 1 (lenS s) (lenS s) = true := by rw [inC_d, lenS_d]; exact decide_eq_true (by omega)
    rw [e0, e1, e2, wrap_byte]
    simp only [cond_true, cond_false]
    obtain ⟨b0, b1⟩ := byteAt_rng s 0
    by_cases k0 : byteAt s 0 = 0
    · rw [k0]; rfl
    · have f0 : eqI (byteAt s 0) 0 = false := decide_eq_false k0
      rw [f0]
      simp only [cond_false]
      by_cases k1 : byteAt s 0 = 1
      · have f1 : eqI (byteAt s 0) 1 = true := decide_eq_true k1
        rw [f1, vint_Take_eq]
        simp only [cond_true]
        cases ref02_Take (cutS s 1 (lenS s)) with
        | none => rfl
        | some r =>
          simp only [Option.bind_some, neI_d, eqI_d]
          cases decide (r.2.2 = 0) <;> rfl
      · have f1 : eqI (byteAt s 0) 1 = false := decide_eq_false k1
        rw [f1]
        simp only [cond_false]
        cases f2 : eqI (byteAt s 0) 2 with
        | false => rfl
        | true =>
          simp only [cond_true]
          have hlen : lenS (cutS s 1 (lenS s)) = ((s.size - 1 : Nat) : Int) := by rw [lenS_d, lenS_d]; exact congrArg _ (cutS_size s 1 s.size (Nat.le_refl _))
          by_cases h2 : s.size < 2
          · have g1 : eqS (cutS s 1 (lenS s)) eB = true := by
              rw [eqS_d]
              refine decide_eq_true (size0.2 ?_)
              rw [lenS_d] at hlen
              omega
            have g2 : ltI (lenS s) 2 = true := by rw [lenS_d]; exact decide_eq_true (by omega)
            rw [g1, g2]; rfl
          · have g1 : eqS (cutS s 1 (lenS s)) eB = false := by
              rw [eqS_d]
              refine decide_eq_false fun e => ?_
              have := size0.1 e
              rw [lenS_d] at hlen
              omega
            have g2 : ltI (lenS s) 2 = false := by rw [lenS_d]; exact decide_eq_false (by omega)
            have hby : byteAt (cutS s 1 (lenS s)) 0 = byteAt s 1 := cutS_byte s 1 (by omega) 0
            have g3 : inB 0 ((s.size - 1 : Nat) : Int) = true := by rw [inB_d]; exact decide_eq_true (by omega)
            have g4 : inB 1 (lenS s) = true := by rw [inB_d, lenS_d]; exact decide_eq_true (by omega)
            obtain ⟨c0, c1⟩ := byteAt_rng s 1
            rw [g1, g2, hlen, hby, g3, g4, wrap_byte, lenS_d, subI_of (by omega) (by omega)]
            simp only [cond_true, cond_false]
            by_cases h32 : byteAt s 1 ≤ 32
            · have g5 : leI (byteAt s 1) 32 = true := decide_eq_true h32
              have g6 : ltI 32 (byteAt s 1) = false := decide_eq_false (by omega)
              rw [g5, g6]
              simp only [cond_true, cond_false]
              by_cases hfit : byteAt s 1 < ((s.size - 1 : Nat) : Int)
              · have g7 : ltI (byteAt s 1) ((s.size - 1 : Nat) : Int) = true := decide_eq_true hfit
                have g8 : ltI ((s.size : Int) - 2) (byteAt s 1) = false := decide_eq_false (by omega)
                have g9 : inC 1 (1 + byteAt s 1) ((s.size - 1 : Nat) : Int) = true := by rw [inC_d]; exact decide_eq_true (by omega)
                have g10 : inC 2 (2 + byteAt s 1) (s.size : Int) = true := by rw [inC_d]; exact decide_eq_true (by omega)
                rw [g7, g8, addI_of (a := 1) (by omega) (by omega), addI_of (a := 2) (by omega) (by omega), g9, g10]
                simp only [cond_true, cond_false]
                obtain ⟨n, hn⟩ : ∃ n : Nat, byteAt s 1 = (n : Int) := ⟨(byteAt s 1).toNat, by omega⟩
                rw [hn] at hfit ⊢
                have := cutS_cut s 1 1 (1 + n) (by omega)
                rw [show ((1 + n : Nat) : Int) = 1 + (n : Int) by omega, show ((1 + (1 + n) : Nat) : Int) = 2 + (n : Int) by omega] at this
                show some (((byteAt s 0), (0 : Int), cutS (cutS s ((1 : Nat) : Int) (s.size : Int)) ((1 : Nat) : Int) (1 + (n : Int))), 2 + (n : Int)) = _
                rw [this]
                rfl
              · have g7 : ltI (byteAt s 1) ((s.size - 1 : Nat) : Int) = false := decide_eq_false hfit
                have g8 : ltI ((s.size : Int) - 2) (byteAt s 1) = true := decide_eq_true (by omega)
                rw [g7, g8]; rfl
            · have g5 : leI (byteAt s 1) 32 = false := decide_eq_false h32
              have g6 : ltI 32 (byteAt s 1) = true := decide_eq_true (by omega)
              rw [g5, g6]; rfl

theorem cutS_le (s : ByteArray) (lo hi : Int) : (cutS s lo hi).size ≤ s.size := by
  unfold cutS
  rw [ByteArray.size_extract]
  omega

theorem takes_loop (s : ByteArray) (hs : s.size < 4611686018427387904) (h0 : inB 0 (lenS s) = true) : ∀ (n : Nat) (out : List Cell) (k i : Int), cell_Take.l0 n s out k (IntKind.wrap .i64 (byteAt s 0)) i = ref06_Take.l0 n s k out i
  | 0, _, _, _ => rfl
  | n + 1, out, k, i => by
    show cell_Take.S0 (cell_Take.l0 n) s out k (IntKind.wrap .i64 (byteAt s 0)) i = ref06_Take.S0 (ref06_Take.l0 n) s k out i
    unfold cell_Take.S0 ref06_Take.S0
    rw [h0, cell_one_eq _ (by have := cutS_le s k (lenS s); omega)]
    simp only [cond_true]
    have ih := takes_loop s hs h0 n
    simp only [ih]

theorem cell_Take_eq (s : ByteArray) (hs : s.size < 4611686018427387904) : cell_Take s = ref06_Take s := by
  show cell_Take.S (cell_Take.l0 fu) s = ref06_Take.S (ref06_Take.l0 fu) s
  unfold cell_Take.S ref06_Take.S
  by_cases h0 : s = eB
  · have : eqS s eB = true := by rw [eqS_d]; exact decide_eq_true h0
    rw [this]; rfl
  · have e0 : eqS s eB = false := by rw [eqS_d]; exact decide_eq_false h0
    have hpos : 0 < s.size := by
      rcases Nat.eq_zero_or_pos s.size with h | h
      · exact absurd (size0.2 h) h0
      · exact h
    have e1 : inB 0 (lenS s) = true := by rw [inB_d, lenS_d]; exact decide_eq_true (by omega)
    rw [e0, e1]
    exact takes_loop s hs e1 fu [] 1 0

end Go.AM.Pure
