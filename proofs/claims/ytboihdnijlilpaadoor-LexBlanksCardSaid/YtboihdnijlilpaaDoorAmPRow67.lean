import Derived.Test.YtboihdnijlilpaaDoorAmPTrip
import Derived.Test.YtboihdnijlilpaaDoorAmPVc
section
/- Rows written and read again: layer 06. -/
namespace Go.AM.Pure
open Go.AM

theorem toBytes_cut (s : ByteArray) (k : Nat) : toBytes (cutS s (k : Int) (s.size : Int)) = (toBytes s).drop k := by
  unfold toBytes cutS
  show List.map _ (s.extract k s.size).data.toList = _
  rw [ByteArray.data_extract, Array.toList_extract, List.extract_eq_take_drop, ← List.map_drop]
  congr 1
  exact List.take_of_length_le (by rw [List.length_drop, Array.length_toList]; show s.size - k ≤ _; omega)

theorem byteAt_list {s : ByteArray} {l : List Int} (h : toBytes s = l) {i : Nat} {b : Int} (hb : l[i]? = some b) : byteAt s (i : Int) = b := by
  have hi : i < s.size := by
    have := (List.getElem?_eq_some_iff.1 hb).1
    rw [← h, toBytes_len] at this
    exact this
  have := byteAt_get s i hi
  rw [h, hb] at this
  exact (Option.some.inj this).symm

/-- What a cell that may be looks like. -/
theorem may_form {c : Cell} (h : ref06_May c = true) : c = (0, 0, eB) ∨ (∃ n, c = (1, n, eB)) ∨ ∃ t, c = (2, 0, t) ∧ t.size ≤ 32 := by
  obtain ⟨k, n, s⟩ := c
  simp only [ref06_May, eqI_d, eqS_d, leI_d, lenS_d, cond_ite, decide_eq_true_eq] at h
  by_cases h0 : k = 0
  · rw [if_pos h0] at h
    by_cases hn : n = 0
    · rw [if_pos hn] at h
      have := of_decide_eq_true h
      left; rw [h0, hn, this]
    · rw [if_neg hn] at h; cases h
  · rw [if_neg h0] at h
    by_cases h1 : k = 1
    · rw [if_pos h1] at h
      have := of_decide_eq_true h
      right; left; exact ⟨n, by rw [h1, this]⟩
    · rw [if_neg h1] at h
      by_cases h2 : k = 2
      · rw [if_pos h2] at h
        by_cases hn : n = 0
        · rw [if_pos hn] at h
          have := of_decide_eq_true h
          right; right; exact ⟨s, by rw [h2, hn], by omega⟩
        · rw [if_neg hn] at h; cases h
      · rw [if_neg h2] at h; cases h

theorem one_written {c : Cell} (hm : ref06_May c = true) (hin : in64 c.2.1) {t : ByteArray} {rest : List Int} (ht : toBytes t = encC c ++ rest) (hts : t.size < 4611686018427387904) :
    ref06_one t = some (c, ((encC c).length : Int)) := by
  have hsz : t.size = (encC c).length + rest.length := by rw [← toBytes_len, ht, List.length_append]
  have hpos : 0 < (encC c).length := by unfold encC; split <;> (try split) <;> simp
  unfold ref06_one
  have e0 : eqS t eB = false := by
    rw [eqS_d]
    refine decide_eq_false fun e => ?_
    have := size0.1 e
    omega
  have e1 : inB 0 (lenS t) = true := by rw [inB_d, lenS_d]; exact decide_eq_true (by omega)
  rw [e0, e1, wrap_byte]
  simp only [cond_true, cond_false]
  rcases may_form hm with rfl | ⟨n, rfl⟩ | ⟨u, rfl, hu⟩
  · have hb : byteAt t 0 = 0 := byteAt_list ht (i := 0) (by simp [encC])
    rw [hb]
    rfl
  · have henc : encC (1, n, eB) = 1 :: toBytes (vbytes n) := rfl
    have hb : byteAt t 0 = 1 := byteAt_list ht (i := 0) (by rw [henc]; rfl)
    rw [henc] at ht hsz ⊢
    rw [List.length_cons, toBytes_len] at hsz
    have e2 : inC 1 (lenS t) (lenS t) = true := by rw [inC_d, lenS_d]; exact decide_eq_true (by omega)
    rw [hb, e2]
    have hcut : toBytes (cutS t 1 (lenS t)) = toBytes (vbytes n) ++ rest := by
      have := toBytes_cut t 1
      rw [ht] at this
      exact this
    have hvb : toBytes (vbytes n) = dig 10 (bits_Zig n % 18446744073709551616) := by
      unfold vbytes
      apply toBytes_ofBytes
      intro b hb
      obtain ⟨_, _, h3, _⟩ := dig_x n
      obtain ⟨i, hi⟩ := List.mem_iff_getElem?.1 hb
      have := form_init _ h3 i b hi
      have hl := (List.getElem?_eq_some_iff.1 hi).1
      by_cases h : i + 1 < (dig 10 (bits_Zig n % 18446744073709551616)).length
      · have := this.1 h; omega
      · have := this.2 (by omega); omega
    have hcs : (cutS t 1 (lenS t)).size = t.size - 1 := cutS_size t 1 t.size (Nat.le_refl _)
    have htake := take_written (x := n) hin (s := cutS t 1 (lenS t)) (by rw [hcut, ← hvb, List.take_left' (toBytes_len _)]) (by omega)
    rw [htake]
    simp only [Option.bind_some, show eqI (1 : Int) 0 = false from rfl, show eqI (1 : Int) 1 = true from rfl, cond_true, cond_false]
    have hn0 : neI (0 : Int) 0 = false := rfl
    rw [hn0, addI_of (by omega) (by have := vbytes_size n; omega), List.length_cons, toBytes_len]
    simp only [cond_false]
    congr 2
    push_cast
    omega
  · have henc : encC (2, 0, u) = 2 :: (u.size : Int) :: toBytes u := rfl
    have hb : byteAt t 0 = 2 := byteAt_list ht (i := 0) (by rw [henc]; rfl)
    have hb1 : byteAt t 1 = (u.size : Int) := byteAt_list ht (i := 1) (by rw [henc]; rfl)
    rw [henc] at ht hsz ⊢
    rw [List.length_cons, List.length_cons, toBytes_len] at hsz
    have g2 : ltI (lenS t) 2 = false := by rw [lenS_d]; exact decide_eq_false (by omega)
    have g4 : inB 1 (lenS t) = true := by rw [inB_d, lenS_d]; exact decide_eq_true (by omega)
    have g6 : ltI 32 (u.size : Int) = false := decide_eq_false (by omega)
    have g8 : ltI ((t.size : Int) - 2) (u.size : Int) = false := decide_eq_false (by omega)
    have g10 : inC 2 (2 + (u.size : Int)) (t.size : Int) = true := by rw [inC_d]; exact decide_eq_true (by omega)
    have hw : IntKind.wrap .i64 (u.size : Int) = (u.size : Int) := wrap64_of (by omega) (by omega)
    rw [hb, hb1, g2, g4, g6, hw, lenS_d, subI_of (by omega) (by omega), g8, addI_of (by omega) (by omega), g10]
    simp only [cond_true, cond_false, show eqI (2 : Int) 0 = false from rfl, show eqI (2 : Int) 1 = false from rfl, show eqI (2 : Int) 2 = true from rfl]
    have hcut : cutS t 2 (2 + (u.size : Int)) = u := by
      have h1 := cutS_cut t 2 0 u.size (by omega)
      have h2 := cutS_take (cutS t ((2 : Nat) : Int) (t.size : Int)) u.size
      rw [toBytes_cut, ht] at h2
      have h3 : (List.drop 2 (2 :: (u.size : Int) :: toBytes u ++ rest)).take u.size = toBytes u := by
        show (toBytes u ++ rest).take u.size = _
        exact List.take_left' (toBytes_len u)
      rw [h3, ofBytes_toBytes] at h2
      have h4 : ((2 + 0 : Nat) : Int) = 2 := rfl
      have h5 : ((2 + u.size : Nat) : Int) = 2 + (u.size : Int) := by omega
      rw [h4, h5] at h1
      rw [← h1]
      exact h2
    rw [hcut, List.length_cons, List.length_cons, toBytes_len]
    congr 2
    push_cast
    omega

theorem encL_drop : ∀ (r : List Cell) (E : List Int), encL r = some E → ∀ i, i ≤ r.length → ∃ A B, E = A ++ B ∧ encL (r.take i) = some A ∧ encL (r.drop i) = some B
  | [], E, h, i, hi => by
    cases h
    exact ⟨[], [], rfl, by simp [encL], by simp [encL]⟩
  | c :: r, E, h, 0, _ => ⟨[], E, rfl, rfl, h⟩
  | c :: r, E, h, i + 1, hi => by
    unfold encL at h
    by_cases hm : ref06_May c = true
    · rw [if_pos hm] at h
      obtain ⟨E', h1, h2⟩ := Option.map_eq_some_iff.1 h
      obtain ⟨A, B, k1, k2, k3⟩ := encL_drop r E' h1 i (by simpa using hi)
      refine ⟨encC c ++ A, B, by rw [← h2, k1, List.append_assoc], ?_, k3⟩
      rw [List.take_succ_cons]
      unfold encL
      rw [if_pos hm, k2]
      rfl
    · rw [if_neg hm] at h; cases h

theorem encL_may : ∀ (r : List Cell) (E : List Int), encL r = some E → ∀ c ∈ r, ref06_May c = true
  | [], _, _, _, hc => by cases hc
  | a :: r, E, h, c, hc => by
    unfold encL at h
    by_cases hm : ref06_May a = true
    · rw [if_pos hm] at h
      obtain ⟨E', h1, _⟩ := Option.map_eq_some_iff.1 h
      rcases List.mem_cons.1 hc with rfl | hc
      · exact hm
      · exact encL_may r E' h1 c hc
    · rw [if_neg hm] at h; cases h

/-- A row's bytes, whatever stands behind them. -/
theorem rows_loop {r : List Cell} (hr : r.length ≤ 255) (hin : ∀ c ∈ r, in64 c.2.1) {E rest : List Int} (hE : encL r = some E) {s : ByteArray} (hs : toBytes s = (r.length : Int) :: (E ++ rest)) (hsz : s.size < 4611686018427387904) :
    ∀ (d i n : Nat) (A B : List Int), d = r.length - i → i ≤ r.length → d < n → E = A ++ B → encL (r.drop i) = some B →
      ref06_Take.l0 n s ((1 + A.length : Nat) : Int) (r.take i) (i : Int) = some (r, ((1 + E.length : Nat) : Int), 0) := by
  have hsize : s.size = 1 + E.length + rest.length := by rw [← toBytes_len, hs]; simp; omega
  have e1 : inB 0 (lenS s) = true := by rw [inB_d, lenS_d]; exact decide_eq_true (by omega)
  have hb : byteAt s 0 = (r.length : Int) := byteAt_list hs (i := 0) rfl
  have hw : IntKind.wrap .i64 (r.length : Int) = (r.length : Int) := wrap64_of (by omega) (by omega)
  intro d
  induction d with
  | zero =>
    intro i n A B hd hi hn hAB hB
    obtain ⟨n, rfl⟩ : ∃ k, n = k + 1 := ⟨n - 1, by omega⟩
    show ref06_Take.S0 (ref06_Take.l0 n) s _ _ (i : Int) = _
    unfold ref06_Take.S0
    have hi' : i = r.length := by omega
    subst hi'
    rw [List.drop_eq_nil_of_le (Nat.le_refl _)] at hB
    cases hB
    rw [e1, hb, hw, nat_int_ge (Nat.le_refl _), List.take_of_length_le (Nat.le_refl _), hAB, List.append_nil]
    rfl
  | succ d ih =>
    intro i n A B hd hi hn hAB hB
    obtain ⟨n, rfl⟩ : ∃ k, n = k + 1 := ⟨n - 1, by omega⟩
    show ref06_Take.S0 (ref06_Take.l0 n) s _ _ (i : Int) = _
    unfold ref06_Take.S0
    have h1 : i < r.length := by omega
    rw [List.drop_eq_getElem_cons h1] at hB
    unfold encL at hB
    have hm : ref06_May r[i] = true := encL_may r E hE _ (List.getElem_mem h1)
    rw [if_pos hm] at hB
    obtain ⟨B', hB1, hB2⟩ := Option.map_eq_some_iff.1 hB
    have hAle : 1 + A.length ≤ s.size := by rw [hAB, List.length_append] at hsize; omega
    have hinC : inC ((1 + A.length : Nat) : Int) (lenS s) (lenS s) = true := by rw [inC_d, lenS_d]; exact decide_eq_true (by omega)
    have hcut : toBytes (cutS s ((1 + A.length : Nat) : Int) (lenS s)) = encC r[i] ++ (B' ++ rest) := by
      rw [lenS_d, toBytes_cut, hs, hAB, ← hB2, Nat.add_comm, List.drop_succ_cons]
      simp
    have hone := one_written hm (hin _ (List.getElem_mem h1)) hcut (by have := cutS_le s ((1 + A.length : Nat) : Int) (lenS s); omega)
    have hpos : 0 < (encC r[i]).length := by unfold encC; split <;> (try split) <;> simp
    have hne : eqI (((encC r[i]).length : Nat) : Int) 0 = false := decide_eq_false (by omega)
    have hroom : roomB ((r.take i).length + 1) 32 = true := decide_eq_true (by rw [List.length_take]; omega)
    have hlen34 := encC_len hm
    have hadd : addI .i64 ((1 + A.length : Nat) : Int) (((encC r[i]).length : Nat) : Int) = ((1 + (A ++ encC r[i]).length : Nat) : Int) := by
      rw [addI_of (by omega) (by omega), List.length_append]; omega
    rw [e1, hb, hw, nat_int_lt h1, hinC, hone]
    simp only [cond_true, Option.bind_some]
    rw [hne, hroom, hadd, addI_of (by omega) (by omega)]
    simp only [cond_true, cond_false]
    have htk : r.take i ++ [r[i]] = r.take (i + 1) := (List.take_succ_eq_append_getElem h1).symm
    rw [htk]
    exact ih (i + 1) n (A ++ encC r[i]) B' (by omega) (by omega) (by omega) (by rw [hAB, ← hB2, List.append_assoc]) hB1

end Go.AM.Pure
end

section
/- CellBytes: what is put is taken as it was. -/
namespace Go.AM.Pure
open Go.AM

theorem rtake_loop (s : ByteArray) : ∀ (d i n : Nat) (wr : Int), d = 10 - i → i ≤ 10 → d < n → (i ≤ 9 → wr = valL ((toBytes s).take i)) →
    Ret (ref02_Take.l0 n s wr (i : Int)) fun r => r.2.2 = 0 → 1 ≤ r.2.1 ∧ r.2.1 ≤ (s.size : Int) := by
  intro d
  induction d with
  | zero =>
    intro i n wr hd hi hn hw
    obtain ⟨n, rfl⟩ : ∃ k, n = k + 1 := ⟨n - 1, by omega⟩
    show Ret (ref02_Take.S0 (ref02_Take.l0 n) s wr (i : Int)) _
    unfold ref02_Take.S0
    rw [lenS_d]
    refine ret_lt (fun h1 => ret_lt (fun h2 => ?_) fun h2 => ret_some fun h => ?_) fun h1 => ret_some fun h => ?_
    · omega
    · cases h
    · cases h
  | succ d ih =>
    intro i n wr hd hi hn hw
    obtain ⟨n, rfl⟩ : ∃ k, n = k + 1 := ⟨n - 1, by omega⟩
    show Ret (ref02_Take.S0 (ref02_Take.l0 n) s wr (i : Int)) _
    unfold ref02_Take.S0
    rw [lenS_d]
    refine ret_lt (fun h1 => ret_lt (fun h2 => ?_) fun h2 => ret_some fun h => ?_) fun h1 => ret_some fun h => ?_
    · refine ret_inB (by omega) ?_
      have hlt : i < s.size := by omega
      obtain ⟨b0, b1⟩ := byteAt_rng s (i : Int)
      have a5 : mulI .i64 7 (i : Int) = ((7 * i : Nat) : Int) := by rw [mulI_of (by omega) (by omega)]; omega
      obtain ⟨_, c2⟩ := anot_and (byteAt s (i : Int)) b0 b1
      have hti : ((toBytes s).take i).length = i := by rw [List.length_take, toBytes_len]; omega
      have hV := valL_lt ((toBytes s).take i)
      rw [hti, pow128] at hV
      have hV0 := valL_nonneg ((toBytes s).take i)
      have hw8 : IntKind.wrap .i64 (byteAt s (i : Int) % 128) = byteAt s (i : Int) % 128 := wrap64_of (by omega) (by omega)
      have hwith := with_add (c := byteAt s (i : Int) % 128) hV0 hV (by omega) (by omega) (by omega)
      rw [a5, c2, hw8, hw (by omega), hwith, Option.bind_some]
      refine ret_inB (by omega) (ret_lt (fun h3 => ?_) fun h3 => ?_)
      · rw [ref01_Zag_eq, Option.bind_some, ref02_Put_eq (show in64 (bits_Zag _) from in64_wrap _), Option.bind_some, addI_of (by omega) (by omega)]
        refine ret_inC (by omega) (ret_not (ret_eqS (fun _ => ret_some fun _ => ⟨by show (1 : Int) ≤ (i : Int) + 1; omega, by show (i : Int) + 1 ≤ _; omega⟩) fun _ => ret_some fun h => by cases h))
      · rw [addI_of (by omega) (by omega)]
        refine ih (i + 1) n _ (by omega) (by omega) (by omega) fun h9 => ?_
        have htk : (toBytes s).take (i + 1) = (toBytes s).take i ++ [byteAt s (i : Int)] := by
          rw [List.take_add_one, byteAt_get s i hlt]; rfl
        rw [htk, valL_snoc, hti, pow128]
        have hp9 : (2 : Int) ^ (7 * i) * 128 ≤ 9223372036854775808 := by
          have : (2 : Int) ^ (7 * i) * 2 ^ 7 ≤ 2 ^ 63 := by
            rw [← Int.pow_add]
            exact_mod_cast Nat.pow_le_pow_right (n := 2) (by omega) (show 7 * i + 7 ≤ 63 by omega)
          exact this
        have hpos := pow2_pos (7 * i)
        have hbb : byteAt s (i : Int) % 128 * 2 ^ (7 * i) ≤ 127 * 2 ^ (7 * i) := Int.mul_le_mul_of_nonneg_right (by omega) (by omega)
        have hbn : 0 ≤ byteAt s (i : Int) % 128 * 2 ^ (7 * i) := Int.mul_nonneg (by omega) (by omega)
        exact wrap64_of (by omega) (by omega)
    · cases h
    · cases h

theorem rtake_ret (s : ByteArray) : Ret (ref02_Take s) fun r => r.2.2 = 0 → 1 ≤ r.2.1 ∧ r.2.1 ≤ (s.size : Int) :=
  rtake_loop s (10 - 0) 0 fu 0 rfl (by omega) (by unfold fu; omega) fun _ => rfl

theorem one_ret (t : ByteArray) (ht : t.size < 4611686018427387904) : Ret (ref06_one t) fun r => r.2 = 0 ∨ (1 ≤ r.2 ∧ r.2 ≤ (t.size : Int)) := by
  unfold ref06_one
  rw [wrap_byte, lenS_d]
  obtain ⟨b0, b1⟩ := byteAt_rng t 1
  have hw : IntKind.wrap .i64 (byteAt t 1) = byteAt t 1 := wrap64_of (by omega) (by omega)
  rw [hw]
  refine ret_eqS (fun _ => ret_some (Or.inl rfl)) fun hne => ?_
  have hpos : 0 < t.size := by
    rcases Nat.eq_zero_or_pos t.size with h | h
    · exact absurd (size0.2 h) hne
    · exact h
  refine ret_inB (by omega) (ret_eqI (fun _ => ret_some (Or.inr ⟨Int.le_refl _, by show (1 : Int) ≤ _; omega⟩)) fun _ => ret_eqI (fun _ => ?_) fun _ => ret_eqI (fun _ => ?_) fun _ => ret_some (Or.inl rfl))
  · refine ret_inC (by omega) (ret_bind _ (rtake_ret _) fun r hr => ret_neI (fun _ => ret_some (Or.inl rfl)) fun h0 => ret_some (Or.inr ?_))
    have hcs : (cutS t 1 (t.size : Int)).size = t.size - 1 := cutS_size t 1 t.size (Nat.le_refl _)
    have := hr h0
    show 1 ≤ addI .i64 1 r.2.1 ∧ _
    rw [addI_of (by omega) (by omega)]
    omega
  · refine ret_lt (fun _ => ret_some (Or.inl rfl)) fun h2 => ret_inB (by omega) (ret_lt (fun _ => ret_some (Or.inl rfl)) fun h32 => ret_inB (by omega) ?_)
    rw [subI_of (by omega) (by omega)]
    refine ret_lt (fun _ => ret_some (Or.inl rfl)) fun h3 => ret_inB (by omega) ?_
    rw [addI_of (by omega) (by omega)]
    refine ret_inC (by omega) (ret_inB (by omega) (ret_some (Or.inr ?_)))
    show (1 : Int) ≤ 2 + byteAt t 1 ∧ 2 + byteAt t 1 ≤ _
    omega

theorem take06_loop (s : ByteArray) (hs : s.size < 4611686018427387904) (h0 : 0 < s.size) : ∀ (d i n : Nat) (k : Int) (out : List Cell), d = 256 - i → i ≤ 256 → d < n → 0 ≤ k → k ≤ s.size → out.length = i →
    Ret (ref06_Take.l0 n s k out (i : Int)) fun r => r.1.length ≤ 256 := by
  intro d
  obtain ⟨b0, b1⟩ := byteAt_rng s 0
  have hw : IntKind.wrap .i64 (byteAt s 0) = byteAt s 0 := wrap64_of (by omega) (by omega)
  induction d with
  | zero =>
    intro i n k out hd hi hn hk hks ho
    obtain ⟨n, rfl⟩ : ∃ k, n = k + 1 := ⟨n - 1, by omega⟩
    show Ret (ref06_Take.S0 (ref06_Take.l0 n) s k out (i : Int)) _
    unfold ref06_Take.S0
    rw [hw, lenS_d]
    refine ret_inB (by omega) (ret_lt (fun _ => ?_) fun _ => ret_some (by show out.length ≤ 256; omega))
    omega
  | succ d ih =>
    intro i n k out hd hi hn hk hks ho
    obtain ⟨n, rfl⟩ : ∃ k, n = k + 1 := ⟨n - 1, by omega⟩
    show Ret (ref06_Take.S0 (ref06_Take.l0 n) s k out (i : Int)) _
    unfold ref06_Take.S0
    rw [hw, lenS_d]
    refine ret_inB (by omega) (ret_lt (fun _ => ?_) fun _ => ret_some (by show out.length ≤ 256; omega))
    obtain ⟨k, rfl⟩ : ∃ m : Nat, k = m := ⟨k.toNat, by omega⟩
    have hcs : (cutS s (k : Int) (s.size : Int)).size = s.size - k := cutS_size s k s.size (Nat.le_refl _)
    refine ret_inC (by omega) (ret_bind _ (one_ret _ (by omega)) fun r hr => ret_eqI (fun _ => ret_some (by show 0 ≤ 256; omega)) fun _ => ret_room (by omega) ?_)
    rw [addI_of (a := (k : Int)) (by omega) (by omega), addI_of (by omega) (by omega)]
    exact ih (i + 1) n _ _ (by omega) (by omega) (by omega) (by omega) (by omega) (by rw [List.length_append, ho]; rfl)

theorem take06_ret (s : ByteArray) (hs : s.size < 4611686018427387904) : Ret (ref06_Take s) fun r => r.1.length ≤ 256 := by
  show Ret (ref06_Take.S (ref06_Take.l0 fu) s) _
  unfold ref06_Take.S
  refine ret_eqS (fun _ => ret_some (by show 0 ≤ 256; omega)) fun hne => ?_
  have hpos : 0 < s.size := by
    rcases Nat.eq_zero_or_pos s.size with h | h
    · exact absurd (size0.2 h) hne
    · exact h
  exact take06_loop s hs hpos (256 - 0) 0 fu 1 [] rfl (by omega) (by unfold fu; omega) (by omega) (by omega) rfl

theorem same06_loop (r : List Cell) (hr : r.length < 4611686018427387904) : ∀ (d i n : Nat), d = r.length - i → i ≤ r.length → d < n → ref06_Same.l0 n r r (i : Int) = some true := by
  intro d
  induction d with
  | zero =>
    intro i n hd hi hn
    obtain ⟨n, rfl⟩ : ∃ k, n = k + 1 := ⟨n - 1, by omega⟩
    show ref06_Same.S0 (ref06_Same.l0 n) r r (i : Int) = _
    unfold ref06_Same.S0
    rw [lenL_d, nat_int_ge (by omega)]
    rfl
  | succ d ih =>
    intro i n hd hi hn
    obtain ⟨n, rfl⟩ : ∃ k, n = k + 1 := ⟨n - 1, by omega⟩
    show ref06_Same.S0 (ref06_Same.l0 n) r r (i : Int) = _
    unfold ref06_Same.S0
    simp only [eqI_d, eqS_d, decide_true, Bool.and_self, Bool.not_true, cond_false]
    rw [lenL_d, nat_int_lt (by omega), inB_of (by omega), addI_of (by omega) (by omega)]
    exact ih (i + 1) n (by omega) (by omega) (by omega)

theorem ref06_Same_refl (r : List Cell) (hr : r.length < 4611686018427387904) : ref06_Same r r = some true := by
  show ref06_Same.S (ref06_Same.l0 fu) r r = _
  unfold ref06_Same.S
  rw [ne_f rfl]
  exact same06_loop r hr (r.length - 0) 0 fu rfl (by omega) (by unfold fu; omega)

theorem encL_bytes : ∀ (r : List Cell) (E : List Int), encL r = some E → E.length ≤ 34 * r.length
  | [], E, h => by cases h; simp
  | c :: r, E, h => by
    unfold encL at h
    by_cases hm : ref06_May c = true
    · rw [if_pos hm] at h
      obtain ⟨E', h1, h2⟩ := Option.map_eq_some_iff.1 h
      have := encL_bytes r E' h1
      have := encC_len hm
      rw [← h2, List.length_append, List.length_cons]
      omega
    · rw [if_neg hm] at h; cases h

theorem toBytes_rng (s : ByteArray) : ∀ b ∈ toBytes s, 0 ≤ b ∧ b < 256 := by
  intro b hb
  unfold toBytes at hb
  obtain ⟨u, _, rfl⟩ := List.mem_map.1 hb
  have := UInt8.toNat_lt u
  omega

theorem encC_rng {c : Cell} (hm : ref06_May c = true) : ∀ b ∈ encC c, 0 ≤ b ∧ b < 256 := by
  intro b hb
  unfold encC at hb
  rcases may_cases hm with h | h | ⟨h, hs⟩
  · rw [if_neg (by omega), if_neg (by omega)] at hb
    rw [List.mem_singleton] at hb
    omega
  · rw [if_pos h] at hb
    rcases List.mem_cons.1 hb with rfl | hb
    · omega
    · exact toBytes_rng _ _ hb
  · rw [if_neg (by omega), if_pos h] at hb
    rcases List.mem_cons.1 hb with rfl | hb
    · omega
    · rcases List.mem_cons.1 hb with rfl | hb
      · omega
      · exact toBytes_rng _ _ hb

theorem encL_rng : ∀ (r : List Cell) (E : List Int), encL r = some E → ∀ b ∈ E, 0 ≤ b ∧ b < 256
  | [], E, h, b, hb => by cases h; cases hb
  | c :: r, E, h, b, hb => by
    unfold encL at h
    by_cases hm : ref06_May c = true
    · rw [if_pos hm] at h
      obtain ⟨E', h1, h2⟩ := Option.map_eq_some_iff.1 h
      rw [← h2] at hb
      rcases List.mem_append.1 hb with hb | hb
      · exact encC_rng hm b hb
      · exact encL_rng r E' h1 b hb
    · rw [if_neg hm] at h; cases h

theorem toBytes_append (a b : ByteArray) : toBytes (a ++ b) = toBytes a ++ toBytes b := by
  unfold toBytes
  rw [ByteArray.data_append]
  simp

theorem row_back {r : List Cell} (hr : r.length ≤ 255) (hin : ∀ c ∈ r, in64 c.2.1) {E : List Int} (hE : encL r = some E) (s : ByteArray) (hs : s.size < 2305843009213693952) :
    ref06_Take (ofBytes ((r.length : Int) :: E) ++ s) = some (r, ((1 + E.length : Nat) : Int), 0) := by
  have hlen := encL_bytes r E hE
  have hb : toBytes (ofBytes ((r.length : Int) :: E) ++ s) = (r.length : Int) :: (E ++ toBytes s) := by
    rw [toBytes_append, toBytes_ofBytes]
    · rfl
    · intro b hb
      rcases List.mem_cons.1 hb with rfl | hb
      · omega
      · exact encL_rng r E hE b hb
  have hsz : (ofBytes ((r.length : Int) :: E) ++ s).size = 1 + E.length + s.size := by
    rw [← toBytes_len, hb, List.length_cons, List.length_append, toBytes_len]; omega
  have := rows_loop hr hin hE hb (by omega) (r.length - 0) 0 fu [] E rfl (by omega) (by unfold fu; omega) rfl (by rw [List.drop_zero]; exact hE)
  show ref06_Take.S (ref06_Take.l0 fu) _ = _
  unfold ref06_Take.S
  have hne : eqS (ofBytes ((r.length : Int) :: E) ++ s) eB = false := by
    refine eqS_f fun e => ?_
    have := size0.1 e
    omega
  rw [hne]
  exact this

theorem cellBytes_law (r : List Cell) (s : ByteArray) (hin : ∀ c ∈ r, in64 c.2.1) : law06_CellBytes r s = some true := by
  refine ret_eq ?_
  unfold law06_CellBytes
  obtain ⟨b, hb, hl⟩ := ref06_Light_some r
  rw [hb, awake06]
  simp only [Option.bind_some]
  refine ret_not (ret_bif (fun h => ?_) fun _ => ret_some rfl)
  have hr := hl h
  rw [lenS_d]
  refine ret_lt (fun _ => ret_some rfl) fun hs => ?_
  obtain ⟨h1, h2⟩ := cell_Put_eq r hin (by omega)
  rw [h1, h2, cell_Take_eq s (by omega)]
  simp only [Option.bind_some]
  obtain ⟨y, hy, hyl⟩ := take06_ret s (by omega)
  rw [hy]
  simp only [Option.bind_some]
  rw [ref06_Same_refl y.1 (by omega), eqS_t rfl, ne_f rfl, ne_f rfl, ne_f rfl]
  simp only [Option.bind_some, Bool.not_true, cond_false]
  cases hE : encL r with
  | none =>
    show Ret (bif roomS eB s then (cell_Take (addS eB s)).bind _ else none) _
    have e0 : addS eB s = s := by
      apply bytes_ext.1
      unfold addS
      rw [ByteArray.data_append]
      simp [eB]
    rw [e0, cell_Take_eq s (by omega), hy]
    exact ret_gd (show eB.size + s.size ≤ 9223372036854775807 by rw [eB_size]; omega) (ret_some rfl)
  | some E =>
    have hlen := encL_bytes r E hE
    show Ret (bif roomS (ofBytes ((r.length : Int) :: E)) s then (cell_Take (addS (ofBytes ((r.length : Int) :: E)) s)).bind _ else none) _
    have hsz : (ofBytes ((r.length : Int) :: E) ++ s).size = 1 + E.length + s.size := by
      rw [← toBytes_len, toBytes_append, List.length_append, toBytes_len, toBytes_len, ofBytes_size, List.length_cons]; omega
    have ho : (ofBytes ((r.length : Int) :: E)).size = 1 + E.length := by rw [ofBytes_size, List.length_cons]; omega
    refine ret_gd (show (ofBytes ((r.length : Int) :: E)).size + s.size ≤ 9223372036854775807 by rw [ho]; omega) ?_
    rw [show addS (ofBytes ((r.length : Int) :: E)) s = ofBytes ((r.length : Int) :: E) ++ s from rfl, cell_Take_eq _ (by omega), row_back (by omega) hin hE s (by omega)]
    simp only [Option.bind_some]
    rw [ref06_Same_refl r (by omega)]
    show Ret (bif eqI (((1 + E.length : Nat) : Int)) (lenS (ofBytes ((r.length : Int) :: E))) then some true else some false) _
    rw [lenS_d, ho, eq_t rfl]
    exact ret_some rfl

theorem in64_wf {n : Int} (h : (Lit.int .i64 n).wf = true) : in64 n := by
  have h' : (decide ((-9223372036854775808 : Int) ≤ n) && decide (n ≤ 9223372036854775807)) = true := h
  rw [Bool.and_eq_true] at h'
  have h1 := of_decide_eq_true h'.1
  have h2 := of_decide_eq_true h'.2
  unfold in64
  omega

end Go.AM.Pure
end
