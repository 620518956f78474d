import Derived.Test.YtlamhllcnbcbbaaGreatAmPPut
/- What is written is read again: layers 02, 06. -/
namespace Go.AM.Pure
open Go.AM
theorem Zqf1 {x : Int} (h : in64 x) : Zrb (Zib x) = x := by
  have hz : in64 (Zrb (Zib x)) := Zxg _
  have h2 : Zrb (Zib x) % 18446744073709551616 = x % 18446744073709551616 := by
    apply Zei
    intro k hk
    rw [Zio _ hk, Zwx h (show 0 < 64 by omega)]
    by_cases h63 : k < 63
    · rw [Zwx h (show k + 1 < 64 by omega), decide_eq_true h63, decide_eq_true (show 1 ≤ k + 1 by omega), Nat.add_sub_cancel]
      simp
    · have : k = 63 := by omega
      subst this
      simp
  have e1 := Zri (Zrb (Zib x))
  rw [h2, Zri, Zgg h, Zgg hz] at e1
  exact e1.symm
theorem Zx8 : ∀ (f : Nat) (u : Int), 0 < f → 0 ≤ u → u < 128 ^ f → Form (dig f u) ∧ valL (dig f u) = u
  | 0, _, h, _, _ => by omega
  | f + 1, u, _, h0, h1 => by
    unfold dig
    by_cases hlt : u < 128
    · rw [if_pos hlt]
      exact ⟨⟨h0, hlt⟩, by unfold valL valL; omega⟩
    · rw [if_neg hlt]
      have h4 : u / 128 < 128 ^ f := by
        rw [Int.pow_succ] at h1
        exact Int.ediv_lt_of_lt_mul (by omega) h1
      have hf : 0 < f := by
        rcases Nat.eq_zero_or_pos f with h | h
        · subst h; simp at h4; omega
        · exact h
      obtain ⟨k1, k2⟩ := Zx8 f (u / 128) hf (by omega) h4
      obtain ⟨a1, _⟩ := Zsq f (u / 128) hf (by omega) h4
      refine ⟨?_, ?_⟩
      · cases hd : dig f (u / 128) with
        | nil => rw [hd] at a1; simp at a1
        | cons b l => rw [hd] at k1; exact ⟨by omega, k1⟩
      · unfold valL
        rw [k2]
        omega
theorem Zyu : ∀ (l : List Int), Form l → ∀ (i : Nat) (b : Int), l[i]? = some b → (i + 1 < l.length → 128 ≤ b ∧ b < 256) ∧ (i + 1 = l.length → 0 ≤ b ∧ b < 128)
  | [], h, _, _, _ => h.elim
  | [a], h, i, b, hi => by
    cases i with
    | zero => simp at hi; subst hi; exact ⟨fun h' => by simp at h', fun _ => h⟩
    | succ i => simp at hi
  | a :: c :: l, ⟨h1, h2⟩, i, b, hi => by
    cases i with
    | zero => simp at hi; subst hi; exact ⟨fun _ => h1, fun h' => by simp at h'⟩
    | succ i =>
      have := Zyu (c :: l) h2 i b (by simpa using hi)
      simp only [List.length_cons] at this ⊢
      exact ⟨fun h' => this.1 (by omega), fun h' => this.2 (by omega)⟩
theorem Zy8 {x : Int} (hx : in64 x) {s : ByteArray} {m : Nat} (hm : m ≤ 10) (hms : m ≤ s.size) (hL : Form ((Zf s).take m)) (hv : valL ((Zf s).take m) = Zib x % 18446744073709551616)
    (hd10 : (Zf s).take m = dig 10 (Zib x % 18446744073709551616)) : ∀ (d i n : Nat) (wr : Int), d = m - 1 - i → i < m → d < n → wr = valL ((Zf s).take i) →
    Zhc.l0 n s wr (i : Int) = some (x, (m : Int), 0) := by
  have hlen : ((Zf s).take m).length = m := by rw [List.length_take, Zja]; omega
  intro d
  induction d with
  | zero =>
    intro i n wr hd hi hn hw
    obtain ⟨n, rfl⟩ : ∃ k, n = k + 1 := ⟨n - 1, by omega⟩
    show Zhc.S0 (Zhc.l0 n) s wr (i : Int) = _
    unfold Zhc.S0
    have hlt : i < s.size := by omega
    have him : i + 1 = m := by omega
    have hget : ((Zf s).take m)[i]? = some (byteAt s (i : Int)) := by rw [List.getElem?_take, if_pos hi, Zne s i hlt]
    have hb := (Zyu _ hL i _ hget).2 (by omega)
    have a2 : ltI (i : Int) 10 = true := decide_eq_true (by omega)
    have a3 : inB (i : Int) (lenS s) = true := by rw [inB_d, Zcb]; exact decide_eq_true (by omega)
    have a4 : ltI (i : Int) (lenS s) = true := by rw [Zcb]; exact decide_eq_true (by omega)
    have a5 : mulI .i64 7 (i : Int) = ((7 * i : Nat) : Int) := by rw [Zg4 (by omega) (by omega)]; omega
    obtain ⟨_, c2⟩ := Zj0 (byteAt s (i : Int)) hb.1 (by omega)
    have hti : ((Zf s).take i).length = i := by rw [List.length_take, Zja]; omega
    have hV := Zho ((Zf s).take i)
    rw [hti, Zqj] at hV
    have hV0 := Zfh ((Zf s).take i)
    have hw8 : IntKind.wrap .i64 (byteAt s (i : Int) % 128) = byteAt s (i : Int) % 128 := Zrd (by omega) (by omega)
    have hwith := Zi0 (c := byteAt s (i : Int) % 128) hV0 hV (by omega) (by omega) (by omega)
    have htk : (Zf s).take m = (Zf s).take i ++ [byteAt s (i : Int)] := by
      rw [← him, List.take_add_one, Zne s i hlt]; rfl
    have hsum : valL ((Zf s).take i) + byteAt s (i : Int) % 128 * 2 ^ (7 * i) = Zib x % 18446744073709551616 := by
      rw [← hv, htk, Zpi, hti, Zqj]
    have e2 : ltI (byteAt s (i : Int)) 128 = true := decide_eq_true hb.2
    rw [a2, a3, a4, a5, c2, hw8, hw, hwith, hsum, e2]
    simp only [cond_true, Option.bind_some]
    have hzag : Zrb (IntKind.wrap .i64 (Zib x % 18446744073709551616)) = x := by
      rw [Zri, ← Zqf1 hx]
      apply Zrf1
      rw [Zqf1 hx, Zkg]
      split <;> omega
    have hadd : addI .i64 (i : Int) 1 = (m : Int) := by rw [Zse (by omega) (by omega)]; omega
    have hin : inC 0 (m : Int) (lenS s) = true := by rw [inC_d, Zcb]; exact decide_eq_true (by omega)
    rw [Zav, Option.bind_some, hzag, Zue hx, Option.bind_some, hadd, hin, Zrp s m, hd10]
    have : eqS (Zwg x) (ofBytes (dig 10 (Zib x % 18446744073709551616))) = true := by rw [eqS_d]; exact decide_eq_true rfl
    rw [this]
    rfl
  | succ d ih =>
    intro i n wr hd hi hn hw
    obtain ⟨n, rfl⟩ : ∃ k, n = k + 1 := ⟨n - 1, by omega⟩
    show Zhc.S0 (Zhc.l0 n) s wr (i : Int) = _
    unfold Zhc.S0
    have hlt : i < s.size := by omega
    have hget : ((Zf s).take m)[i]? = some (byteAt s (i : Int)) := by rw [List.getElem?_take, if_pos hi, Zne s i hlt]
    have hb := (Zyu _ hL i _ hget).1 (by omega)
    have a2 : ltI (i : Int) 10 = true := decide_eq_true (by omega)
    have a3 : inB (i : Int) (lenS s) = true := by rw [inB_d, Zcb]; exact decide_eq_true (by omega)
    have a4 : ltI (i : Int) (lenS s) = true := by rw [Zcb]; exact decide_eq_true (by omega)
    have a5 : mulI .i64 7 (i : Int) = ((7 * i : Nat) : Int) := by rw [Zg4 (by omega) (by omega)]; omega
    obtain ⟨_, c2⟩ := Zj0 (byteAt s (i : Int)) (by omega) hb.2
    have hti : ((Zf s).take i).length = i := by rw [List.length_take, Zja]; omega
    have hV := Zho ((Zf s).take i)
    rw [hti, Zqj] at hV
    have hV0 := Zfh ((Zf s).take i)
    have hw8 : IntKind.wrap .i64 (byteAt s (i : Int) % 128) = byteAt s (i : Int) % 128 := Zrd (by omega) (by omega)
    have hwith := Zi0 (c := byteAt s (i : Int) % 128) hV0 hV (by omega) (by omega) (by omega)
    have htk : (Zf s).take (i + 1) = (Zf s).take i ++ [byteAt s (i : Int)] := by
      rw [List.take_add_one, Zne s i hlt]; rfl
    have e2 : ltI (byteAt s (i : Int)) 128 = false := decide_eq_false (by omega)
    rw [a2, a3, a4, a5, c2, hw8, hw, hwith, e2, Zse (by omega) (by omega)]
    simp only [cond_true, cond_false, Option.bind_some]
    refine ih (i + 1) n _ (by omega) (by omega) (by omega) ?_
    rw [htk, Zpi, hti, Zqj]
    have hp9 : (2 : Int) ^ (7 * i) * 128 ≤ 9223372036854775808 := by
      have : (2 : Int) ^ (7 * i) * 2 ^ 7 ≤ 2 ^ 63 := by
        rw [← Int.pow_add]
        exact_mod_cast Nat.pow_le_pow_right (n := 2) (by omega) (show 7 * i + 7 ≤ 63 by omega)
      exact this
    have hpos := Zgc (7 * i)
    have hbb : byteAt s (i : Int) % 128 * 2 ^ (7 * i) ≤ 127 * 2 ^ (7 * i) := Int.mul_le_mul_of_nonneg_right (by omega) (by omega)
    have hbn : 0 ≤ byteAt s (i : Int) % 128 * 2 ^ (7 * i) := Int.mul_nonneg (by omega) (by omega)
    exact Zrd (by omega) (by omega)
theorem dig_x (x : Int) : 1 ≤ (Zwg x).size ∧ (Zwg x).size ≤ 10 ∧ Form (dig 10 (Zib x % 18446744073709551616)) ∧ valL (dig 10 (Zib x % 18446744073709551616)) = Zib x % 18446744073709551616 := by
  have hlt : Zib x % 18446744073709551616 < 128 ^ 10 := by
    have : (128 : Int) ^ 10 = 1180591620717411303424 := rfl
    omega
  obtain ⟨k1, k2⟩ := Zx8 10 (Zib x % 18446744073709551616) (by omega) (by omega) hlt
  obtain ⟨a1, a2, _⟩ := Zsq 10 (Zib x % 18446744073709551616) (by omega) (by omega) hlt
  unfold Zwg
  rw [Zo]
  exact ⟨a1, a2, k1, k2⟩
theorem Zz8 {x : Int} (hx : in64 x) {s : ByteArray} (hs : (Zf s).take (Zwg x).size = dig 10 (Zib x % 18446744073709551616)) (hle : (Zwg x).size ≤ s.size) :
    Zhc s = some (x, ((Zwg x).size : Int), 0) := by
  obtain ⟨h1, h2, h3, h4⟩ := dig_x x
  exact Zy8 hx h2 hle (by rw [hs]; exact h3) (by rw [hs]; exact h4) hs ((Zwg x).size - 1 - 0) 0 fu 0 rfl (by omega) (by unfold fu; omega) rfl
end Go.AM.Pure
