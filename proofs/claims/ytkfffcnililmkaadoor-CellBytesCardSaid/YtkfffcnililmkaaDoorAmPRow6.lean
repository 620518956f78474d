/- Rows written and read again: layer 06. -/
import Derived.Test.YtkfffcnililmkaaDoorAmPTrip
namespace Go.AM.Pure
open Go.AM

theorem toBytes_cut (s : ByteArray) (k : Nat) : toBytes (cutS s (k : Int) (s.size : Int)) = (toBytes s).drop k := by
  unfold toBytes cutS
  show List.map _ (s.extract k s.size).data.toList = _
  rw [ByteArray.data_extract, Array.toList_extract, List.extract_eq_take_drop, ← List.map_drop]
  congr 1
  exact List.take_of_length_le (by rw [List.length_drop, Array.length_toList]; show s.size - k ≤ _; omega)

theorem byteAt_list {s : ByteArray} {l : List Int} (h : toBytes s = l) {i : Nat} {b : Int} (hb : l[i]? = some b) : byteAt s (i : Int) = b := by
  have hi : i < s.size := by
    have := (List.getElem?_eq_some_iff.1 hb).1
    rw [← h, toBytes_len] at this
    exact this
  have := byteAt_get s i hi
  rw [h, hb] at this
  exact (Option.some.inj this).symm

/-- What a cell that may be looks like. -/
theorem may_form {c : Cell} (h : ref06_May c = true) : c = (0, 0, eB) ∨ (∃ n, c = (1, n, eB)) ∨ ∃ t, c = (2, 0, t) ∧ t.size ≤ 32 := by
  obtain ⟨k, n, s⟩ := c
  simp only [ref06_May, eqI_d, eqS_d, leI_d, lenS_d, cond_ite, decide_eq_true_eq] at h
  by_cases h0 : k = 0
  · rw [if_pos h0] at h
    by_cases hn : n = 0
    · rw [if_pos hn] at h
      have := of_decide_eq_true h
      left; rw [h0, hn, this]
    · rw [if_neg hn] at h; cases h
  · rw [if_neg h0] at h
    by_cases h1 : k = 1
    · rw [if_pos h1] at h
      have := of_decide_eq_true h
      right; left; exact ⟨n, by rw [h1, this]⟩
    · rw [if_neg h1] at h
      by_cases h2 : k = 2
      · rw [if_pos h2] at h
        by_cases hn : n = 0
        · rw [if_pos hn] at h
          have := of_decide_eq_true h
          right; right; exact ⟨s, by rw [h2, hn], by omega⟩
        · rw [if_neg hn] at h; cases h
      · rw [if_neg h2] at h; cases h

theorem one_written {c : Cell} (hm : ref06_May c = true) (hin : in64 c.2.1) {t : ByteArray} {rest : List Int} (ht : toBytes t = encC c ++ rest) (hts : t.size < 4611686018427387904) :
    ref06_one t = some (c, ((encC c).length : Int)) := by
  have hsz : t.size = (encC c).length + rest.length := by rw [← toBytes_len, ht, List.length_append]
  have hpos : 0 < (encC c).length := by unfold encC; split <;> (try split) <;> simp
  unfold ref06_one
  have e0 : eqS t eB = false := by
    rw [eqS_d]
    refine decide_eq_false fun e => ?_
    have := size0.1 e
    omega
  have e1 : inB 0 (lenS t) = true := by rw [inB_d, lenS_d]; exact decide_eq_true (by omega)
  rw [e0, e1, wrap_byte]
  simp only [cond_true, cond_false]
  rcases may_form hm with rfl | ⟨n, rfl⟩ | ⟨u, rfl, hu⟩
  · have hb : byteAt t 0 = 0 := byteAt_list ht (i := 0) (by simp [encC])
    rw [hb]
    rfl
  · have henc : encC (1, n, eB) = 1 :: toBytes (vbytes n) := rfl
    have hb : byteAt t 0 = 1 := byteAt_list ht (i := 0) (by rw [henc]; rfl)
    rw [henc] at ht hsz ⊢
    rw [List.length_cons, toBytes_len] at hsz
    have e2 : inC 1 (lenS t) (lenS t) = true := by rw [inC_d, lenS_d]; exact decide_eq_true (by omega)
    rw [hb, e2]
    have hcut : toBytes (cutS t 1 (lenS t)) = toBytes (vbytes n) ++ rest := by
      have := toBytes_cut t 1
      rw [ht] at this
      exact this
    have hvb : toBytes (vbytes n) = dig 10 (bits_Zig n % 18446744073709551616) := by
      unfold vbytes
      apply toBytes_ofBytes
      intro b hb
      obtain ⟨_, _, h3, _⟩ := dig_x n
      obtain ⟨i, hi⟩ := List.mem_iff_getElem?.1 hb
      have := form_init _ h3 i b hi
      have hl := (List.getElem?_eq_some_iff.1 hi).1
      by_cases h : i + 1 < (dig 10 (bits_Zig n % 18446744073709551616)).length
      · have := this.1 h; omega
      · have := this.2 (by omega); omega
    have hcs : (cutS t 1 (lenS t)).size = t.size - 1 := cutS_size t 1 t.size (Nat.le_refl _)
    have htake := take_written (x := n) hin (s := cutS t 1 (lenS t)) (by rw [hcut, ← hvb, List.take_left' (toBytes_len _)]) (by omega)
    rw [htake]
    simp only [Option.bind_some, show eqI (1 : Int) 0 = false from rfl, show eqI (1 : Int) 1 = true from rfl, cond_true, cond_false]
    have hn0 : neI (0 : Int) 0 = false := rfl
    rw [hn0, addI_of (by omega) (by have := vbytes_size n; omega), List.length_cons, toBytes_len]
    simp only [cond_false]
    congr 2
    push_cast
    omega
  · have henc : encC (2, 0, u) = 2 :: (u.size : Int) :: toBytes u := rfl
    have hb : byteAt t 0 = 2 := byteAt_list ht (i := 0) (by rw [henc]; rfl)
    have hb1 : byteAt t 1 = (u.size : Int) := byteAt_list ht (i := 1) (by rw [henc]; rfl)
    rw [henc] at ht hsz ⊢
    rw [List.length_cons, List.length_cons, toBytes_len] at hsz
    have g2 : ltI (lenS t) 2 = false := by rw [lenS_d]; exact decide_eq_false (by omega)
    have g4 : inB 1 (lenS t) = true := by rw [inB_d, lenS_d]; exact decide_eq_true (by omega)
    have g6 : ltI 32 (u.size : Int) = false := decide_eq_false (by omega)
    have g8 : ltI ((t.size : Int) - 2) (u.size : Int) = false := decide_eq_false (by omega)
    have g10 : inC 2 (2 + (u.size : Int)) (t.size : Int) = true := by rw [inC_d]; exact decide_eq_true (by omega)
    have hw : IntKind.wrap .i64 (u.size : Int) = (u.size : Int) := wrap64_of (by omega) (by omega)
    rw [hb, hb1, g2, g4, g6, hw, lenS_d, subI_of (by omega) (by omega), g8, addI_of (by omega) (by omega), g10]
    simp only [cond_true, cond_false, show eqI (2 : Int) 0 = false from rfl, show eqI (2 : Int) 1 = false from rfl, show eqI (2 : Int) 2 = true from rfl]
    have hcut : cutS t 2 (2 + (u.size : Int)) = u := by
      have h1 := cutS_cut t 2 0 u.size (by omega)
      have h2 := cutS_take (cutS t ((2 : Nat) : Int) (t.size : Int)) u.size
      rw [toBytes_cut, ht] at h2
      have h3 : (List.drop 2 (2 :: (u.size : Int) :: toBytes u ++ rest)).take u.size = toBytes u := by
        show (toBytes u ++ rest).take u.size = _
        exact List.take_left' (toBytes_len u)
      rw [h3, ofBytes_toBytes] at h2
      have h4 : ((2 + 0 : Nat) : Int) = 2 := rfl
      have h5 : ((2 + u.size : Nat) : Int) = 2 + (u.size : Int) := by omega
      rw [h4, h5] at h1
      rw [← h1]
      exact h2
    rw [hcut, List.length_cons, List.length_cons, toBytes_len]
    congr 2
    push_cast
    omega

theorem encL_drop : ∀ (r : List Cell) (E : List Int), encL r = some E → ∀ i, i ≤ r.length → ∃ A B, E = A ++ B ∧ encL (r.take i) = some A ∧ encL (r.drop i) = some B
  | [], E, h, i, hi => by
    cases h
    exact ⟨[], [], rfl, by simp [encL], by simp [encL]⟩
  | c :: r, E, h, 0, _ => ⟨[], E, rfl, rfl, h⟩
  | c :: r, E, h, i + 1, hi => by
    unfold encL at h
    by_cases hm : ref06_May c = true
    · rw [if_pos hm] at h
      obtain ⟨E', h1, h2⟩ := Option.map_eq_some_iff.1 h
      obtain ⟨A, B, k1, k2, k3⟩ := encL_drop r E' h1 i (by simpa using hi)
      refine ⟨encC c ++ A, B, by rw [← h2, k1, List.append_assoc], ?_, k3⟩
      rw [List.take_succ_cons]
      unfold encL
      rw [if_pos hm, k2]
      rfl
    · rw [if_neg hm] at h; cases h

theorem encL_may : ∀ (r : List Cell) (E : List Int), encL r = some E → ∀ c ∈ r, ref06_May c = true
  | [], _, _, _, hc => by cases hc
  | a :: r, E, h, c, hc => by
    unfold encL at h
    by_cases hm : ref06_May a = true
    · rw [if_pos hm] at h
      obtain ⟨E', h1, _⟩ := Option.map_eq_some_iff.1 h
      rcases List.mem_cons.1 hc with rfl | hc
      · exact hm
      · exact encL_may r E' h1 c hc
    · rw [if_neg hm] at h; cases h

/-- A row's bytes, whatever stands behind them. -/
theorem rows_loop {r : List Cell} (hr : r.length ≤ 255) (hin : ∀ c ∈ r, in64 c.2.1) {E rest : List Int} (hE : encL r = some E) {s : ByteArray} (hs : toBytes s = (r.length : Int) :: (E ++ rest)) (hsz : s.size < 4611686018427387904) :
    ∀ (d i n : Nat) (A B : List Int), d = r.length - i → i ≤ r.length → d < n → E = A ++ B → encL (r.drop i) = some B →
      ref06_Take.l0 n s ((1 + A.length : Nat) : Int) (r.take i) (i : Int) = some (r, ((1 + E.length : Nat) : Int), 0) := by
  have hsize : s.size = 1 + E.length + rest.length := by rw [← toBytes_len, hs]; simp; omega
  have e1 : inB 0 (lenS s) = true := by rw [inB_d, lenS_d]; exact decide_eq_true (by omega)
  have hb : byteAt s 0 = (r.length : Int) := byteAt_list hs (i := 0) rfl
  have hw : IntKind.wrap .i64 (r.length : Int) = (r.length : Int) := wrap64_of (by omega) (by omega)
  intro d
  induction d with
  | zero =>
    intro i n A B hd hi hn hAB hB
    obtain ⟨n, rfl⟩ : ∃ k, n = k + 1 := ⟨n - 1, by omega⟩
    show ref06_Take.S0 (ref06_Take.l0 n) s _ _ (i : Int) = _
    unfold ref06_Take.S0
    have hi' : i = r.length := by omega
    subst hi'
    rw [List.drop_eq_nil_of_le (Nat.le_refl _)] at hB
    cases hB
    rw [e1, hb, hw, nat_int_ge (Nat.le_refl _), List.take_of_length_le (Nat.le_refl _), hAB, List.append_nil]
    rfl
  | succ d ih =>
    intro i n A B hd hi hn hAB hB
    obtain ⟨n, rfl⟩ : ∃ k, n = k + 1 := ⟨n - 1, by omega⟩
    show ref06_Take.S0 (ref06_Take.l0 n) s _ _ (i : Int) = _
    unfold ref06_Take.S0
    have h1 : i < r.length := by omega
    rw [List.drop_eq_getElem_cons h1] at hB
    unfold encL at hB
    have hm : ref06_May r[i] = true := encL_may r E hE _ (List.getElem_mem h1)
    rw [if_pos hm] at hB
    obtain ⟨B', hB1, hB2⟩ := Option.map_eq_some_iff.1 hB
    have hAle : 1 + A.length ≤ s.size := by rw [hAB, List.length_append] at hsize; omega
    have hinC : inC ((1 + A.length : Nat) : Int) (lenS s) (lenS s) = true := by rw [inC_d, lenS_d]; exact decide_eq_true (by omega)
    have hcut : toBytes (cutS s ((1 + A.length : Nat) : Int) (lenS s)) = encC r[i] ++ (B' ++ rest) := by
      rw [lenS_d, toBytes_cut, hs, hAB, ← hB2, Nat.add_comm, List.drop_succ_cons]
      simp
    have hone := one_written hm (hin _ (List.getElem_mem h1)) hcut (by have := cutS_le s ((1 + A.length : Nat) : Int) (lenS s); omega)
    have hpos : 0 < (encC r[i]).length := by unfold encC; split <;> (try split) <;> simp
    have hne : eqI (((encC r[i]).length : Nat) : Int) 0 = false := decide_eq_false (by omega)
    have hroom : roomB ((r.take i).length + 1) 32 = true := decide_eq_true (by rw [List.length_take]; omega)
    have hlen34 := encC_len hm
    have hadd : addI .i64 ((1 + A.length : Nat) : Int) (((encC r[i]).length : Nat) : Int) = ((1 + (A ++ encC r[i]).length : Nat) : Int) := by
      rw [addI_of (by omega) (by omega), List.length_append]; omega
    rw [e1, hb, hw, nat_int_lt h1, hinC, hone]
    simp only [cond_true, Option.bind_some]
    rw [hne, hroom, hadd, addI_of (by omega) (by omega)]
    simp only [cond_true, cond_false]
    have htk : r.take i ++ [r[i]] = r.take (i + 1) := (List.take_succ_eq_append_getElem h1).symm
    rw [htk]
    exact ih (i + 1) n (A ++ encC r[i]) B' (by omega) (by omega) (by omega) (by rw [hAB, ← hB2, List.append_assoc]) hB1

end Go.AM.Pure
