import Derived.Test.YtlamhllcnbcbbaaGreatAmPPut
/- What is written is read again: layers 02, 06. -/
namespace Go.AM.Pure
open Go.AM
theorem zag_zig {x : Int} (h : in64 x) : bits_Zag (bits_Zig x) = x := by
  have hz : in64 (bits_Zag (bits_Zig x)) := in64_wrap _
  have h2 : bits_Zag (bits_Zig x) % 18446744073709551616 = x % 18446744073709551616 := by
    apply mod_of_bits
    intro k hk
    rw [zag_bit _ hk, zig_bit h (show 0 < 64 by omega)]
    by_cases h63 : k < 63
    · rw [zig_bit h (show k + 1 < 64 by omega), decide_eq_true h63, decide_eq_true (show 1 ≤ k + 1 by omega), Nat.add_sub_cancel]
      simp
    · have : k = 63 := by omega
      subst this
      simp
  have e1 := wrap_idem (bits_Zag (bits_Zig x))
  rw [h2, wrap_idem, wrap_in64 h, wrap_in64 hz] at e1
  exact e1.symm
theorem dig_form : ∀ (f : Nat) (u : Int), 0 < f → 0 ≤ u → u < 128 ^ f → Form (dig f u) ∧ valL (dig f u) = u
  | 0, _, h, _, _ => by omega
  | f + 1, u, _, h0, h1 => by
    unfold dig
    by_cases hlt : u < 128
    · rw [if_pos hlt]
      exact ⟨⟨h0, hlt⟩, by unfold valL valL; omega⟩
    · rw [if_neg hlt]
      have h4 : u / 128 < 128 ^ f := by
        rw [Int.pow_succ] at h1
        exact Int.ediv_lt_of_lt_mul (by omega) h1
      have hf : 0 < f := by
        rcases Nat.eq_zero_or_pos f with h | h
        · subst h; simp at h4; omega
        · exact h
      obtain ⟨k1, k2⟩ := dig_form f (u / 128) hf (by omega) h4
      obtain ⟨a1, _⟩ := dig_len f (u / 128) hf (by omega) h4
      refine ⟨?_, ?_⟩
      · cases hd : dig f (u / 128) with
        | nil => rw [hd] at a1; simp at a1
        | cons b l => rw [hd] at k1; exact ⟨by omega, k1⟩
      · unfold valL
        rw [k2]
        omega
theorem form_init : ∀ (l : List Int), Form l → ∀ (i : Nat) (b : Int), l[i]? = some b → (i + 1 < l.length → 128 ≤ b ∧ b < 256) ∧ (i + 1 = l.length → 0 ≤ b ∧ b < 128)
  | [], h, _, _, _ => h.elim
  | [a], h, i, b, hi => by
    cases i with
    | zero => simp at hi; subst hi; exact ⟨fun h' => by simp at h', fun _ => h⟩
    | succ i => simp at hi
  | a :: c :: l, ⟨h1, h2⟩, i, b, hi => by
    cases i with
    | zero => simp at hi; subst hi; exact ⟨fun _ => h1, fun h' => by simp at h'⟩
    | succ i =>
      have := form_init (c :: l) h2 i b (by simpa using hi)
      simp only [List.length_cons] at this ⊢
      exact ⟨fun h' => this.1 (by omega), fun h' => this.2 (by omega)⟩
theorem written_loop {x : Int} (hx : in64 x) {s : ByteArray} {m : Nat} (hm : m ≤ 10) (hms : m ≤ s.size) (hL : Form ((toBytes s).take m)) (hv : valL ((toBytes s).take m) = bits_Zig x % 18446744073709551616)
    (hd10 : (toBytes s).take m = dig 10 (bits_Zig x % 18446744073709551616)) : ∀ (d i n : Nat) (wr : Int), d = m - 1 - i → i < m → d < n → wr = valL ((toBytes s).take i) →
    ref02_Take.l0 n s wr (i : Int) = some (x, (m : Int), 0) := by
  have hlen : ((toBytes s).take m).length = m := by rw [List.length_take, toBytes_len]; omega
  intro d
  induction d with
  | zero =>
    intro i n wr hd hi hn hw
    obtain ⟨n, rfl⟩ : ∃ k, n = k + 1 := ⟨n - 1, by omega⟩
    show ref02_Take.S0 (ref02_Take.l0 n) s wr (i : Int) = _
    unfold ref02_Take.S0
    have hlt : i < s.size := by omega
    have him : i + 1 = m := by omega
    have hget : ((toBytes s).take m)[i]? = some (byteAt s (i : Int)) := by rw [List.getElem?_take, if_pos hi, byteAt_get s i hlt]
    have hb := (form_init _ hL i _ hget).2 (by omega)
    have a2 : ltI (i : Int) 10 = true := decide_eq_true (by omega)
    have a3 : inB (i : Int) (lenS s) = true := by rw [inB_d, lenS_d]; exact decide_eq_true (by omega)
    have a4 : ltI (i : Int) (lenS s) = true := by rw [lenS_d]; exact decide_eq_true (by omega)
    have a5 : mulI .i64 7 (i : Int) = ((7 * i : Nat) : Int) := by rw [mulI_of (by omega) (by omega)]; omega
    obtain ⟨_, c2⟩ := anot_and (byteAt s (i : Int)) hb.1 (by omega)
    have hti : ((toBytes s).take i).length = i := by rw [List.length_take, toBytes_len]; omega
    have hV := valL_lt ((toBytes s).take i)
    rw [hti, pow128] at hV
    have hV0 := valL_nonneg ((toBytes s).take i)
    have hw8 : IntKind.wrap .i64 (byteAt s (i : Int) % 128) = byteAt s (i : Int) % 128 := wrap64_of (by omega) (by omega)
    have hwith := with_add (c := byteAt s (i : Int) % 128) hV0 hV (by omega) (by omega) (by omega)
    have htk : (toBytes s).take m = (toBytes s).take i ++ [byteAt s (i : Int)] := by
      rw [← him, List.take_add_one, byteAt_get s i hlt]; rfl
    have hsum : valL ((toBytes s).take i) + byteAt s (i : Int) % 128 * 2 ^ (7 * i) = bits_Zig x % 18446744073709551616 := by
      rw [← hv, htk, valL_snoc, hti, pow128]
    have e2 : ltI (byteAt s (i : Int)) 128 = true := decide_eq_true hb.2
    rw [a2, a3, a4, a5, c2, hw8, hw, hwith, hsum, e2]
    simp only [cond_true, Option.bind_some]
    have hzag : bits_Zag (IntKind.wrap .i64 (bits_Zig x % 18446744073709551616)) = x := by
      rw [wrap_idem, ← zag_zig hx]
      apply zag_mod
      rw [zag_zig hx, wrapI64]
      split <;> omega
    have hadd : addI .i64 (i : Int) 1 = (m : Int) := by rw [addI_of (by omega) (by omega)]; omega
    have hin : inC 0 (m : Int) (lenS s) = true := by rw [inC_d, lenS_d]; exact decide_eq_true (by omega)
    rw [ref01_Zag_eq, Option.bind_some, hzag, ref02_Put_eq hx, Option.bind_some, hadd, hin, cutS_take s m, hd10]
    have : eqS (vbytes x) (ofBytes (dig 10 (bits_Zig x % 18446744073709551616))) = true := by rw [eqS_d]; exact decide_eq_true rfl
    rw [this]
    rfl
  | succ d ih =>
    intro i n wr hd hi hn hw
    obtain ⟨n, rfl⟩ : ∃ k, n = k + 1 := ⟨n - 1, by omega⟩
    show ref02_Take.S0 (ref02_Take.l0 n) s wr (i : Int) = _
    unfold ref02_Take.S0
    have hlt : i < s.size := by omega
    have hget : ((toBytes s).take m)[i]? = some (byteAt s (i : Int)) := by rw [List.getElem?_take, if_pos hi, byteAt_get s i hlt]
    have hb := (form_init _ hL i _ hget).1 (by omega)
    have a2 : ltI (i : Int) 10 = true := decide_eq_true (by omega)
    have a3 : inB (i : Int) (lenS s) = true := by rw [inB_d, lenS_d]; exact decide_eq_true (by omega)
    have a4 : ltI (i : Int) (lenS s) = true := by rw [lenS_d]; exact decide_eq_true (by omega)
    have a5 : mulI .i64 7 (i : Int) = ((7 * i : Nat) : Int) := by rw [mulI_of (by omega) (by omega)]; omega
    obtain ⟨_, c2⟩ := anot_and (byteAt s (i : Int)) (by omega) hb.2
    have hti : ((toBytes s).take i).length = i := by rw [List.length_take, toBytes_len]; omega
    have hV := valL_lt ((toBytes s).take i)
    rw [hti, pow128] at hV
    have hV0 := valL_nonneg ((toBytes s).take i)
    have hw8 : IntKind.wrap .i64 (byteAt s (i : Int) % 128) = byteAt s (i : Int) % 128 := wrap64_of (by omega) (by omega)
    have hwith := with_add (c := byteAt s (i : Int) % 128) hV0 hV (by omega) (by omega) (by omega)
    have htk : (toBytes s).take (i + 1) = (toBytes s).take i ++ [byteAt s (i : Int)] := by
      rw [List.take_add_one, byteAt_get s i hlt]; rfl
    have e2 : ltI (byteAt s (i : Int)) 128 = false := decide_eq_false (by omega)
    rw [a2, a3, a4, a5, c2, hw8, hw, hwith, e2, addI_of (by omega) (by omega)]
    simp only [cond_true, cond_false, Option.bind_some]
    refine ih (i + 1) n _ (by omega) (by omega) (by omega) ?_
    rw [htk, valL_snoc, hti, pow128]
    have hp9 : (2 : Int) ^ (7 * i) * 128 ≤ 9223372036854775808 := by
      have : (2 : Int) ^ (7 * i) * 2 ^ 7 ≤ 2 ^ 63 := by
        rw [← Int.pow_add]
        exact_mod_cast Nat.pow_le_pow_right (n := 2) (by omega) (show 7 * i + 7 ≤ 63 by omega)
      exact this
    have hpos := pow2_pos (7 * i)
    have hbb : byteAt s (i : Int) % 128 * 2 ^ (7 * i) ≤ 127 * 2 ^ (7 * i) := Int.mul_le_mul_of_nonneg_right (by omega) (by omega)
    have hbn : 0 ≤ byteAt s (i : Int) % 128 * 2 ^ (7 * i) := Int.mul_nonneg (by omega) (by omega)
    exact wrap64_of (by omega) (by omega)
theorem dig_x (x : Int) : 1 ≤ (vbytes x).size ∧ (vbytes x).size ≤ 10 ∧ Form (dig 10 (bits_Zig x % 18446744073709551616)) ∧ valL (dig 10 (bits_Zig x % 18446744073709551616)) = bits_Zig x % 18446744073709551616 := by
  have hlt : bits_Zig x % 18446744073709551616 < 128 ^ 10 := by
    have : (128 : Int) ^ 10 = 1180591620717411303424 := rfl
    omega
  obtain ⟨k1, k2⟩ := dig_form 10 (bits_Zig x % 18446744073709551616) (by omega) (by omega) hlt
  obtain ⟨a1, a2, _⟩ := dig_len 10 (bits_Zig x % 18446744073709551616) (by omega) (by omega) hlt
  unfold vbytes
  rw [ofBytes_size]
  exact ⟨a1, a2, k1, k2⟩
theorem take_written {x : Int} (hx : in64 x) {s : ByteArray} (hs : (toBytes s).take (vbytes x).size = dig 10 (bits_Zig x % 18446744073709551616)) (hle : (vbytes x).size ≤ s.size) :
    ref02_Take s = some (x, ((vbytes x).size : Int), 0) := by
  obtain ⟨h1, h2, h3, h4⟩ := dig_x x
  exact written_loop hx h2 hle (by rw [hs]; exact h3) (by rw [hs]; exact h4) hs ((vbytes x).size - 1 - 0) 0 fu 0 rfl (by omega) (by unfold fu; omega) rfl
end Go.AM.Pure
