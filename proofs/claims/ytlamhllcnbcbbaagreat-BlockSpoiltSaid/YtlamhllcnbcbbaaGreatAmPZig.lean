import Derived.Test.YtlamhllcnbcbbaaGreatAmPBits
/- Zigzag: layer 01's reference and the program's. -/
namespace Go.AM.Pure
open Go.AM
def in64 (x : Int) : Prop := -9223372036854775808 ≤ x ∧ x < 9223372036854775808
theorem Zxg (n : Int) : in64 (IntKind.wrap .i64 n) := by unfold in64; rw [Zkg]; split <;> omega
theorem Zgg {x : Int} (h : in64 x) : IntKind.wrap .i64 x = x := Zrd h.1 h.2
theorem Zb9 {x : Int} (h : in64 x) (k : Nat) : bit (x / 2 ^ 63) k = decide (x < 0) := by
  have hq : x / 2 ^ 63 = if x < 0 then -1 else 0 := by
    obtain ⟨h1, h2⟩ := h
    rw [show (2 : Int) ^ 63 = 9223372036854775808 from rfl]
    split <;> omega
  rw [hq]
  unfold bit
  have hp := Zgc k
  split
  · rename_i hx
    have : (-1 : Int) / 2 ^ k = -1 := by
      have := (Int.ediv_emod_unique (a := -1) hp (r := 2 ^ k - 1) (q := -1)).2 ⟨by omega, by omega, by omega⟩
      exact this.1
    rw [this, decide_eq_true hx]; rfl
  · rename_i hx
    rw [Int.zero_ediv, decide_eq_false hx]; rfl
theorem bit63 {x : Int} (h : in64 x) : bit x 63 = decide (x < 0) := by
  rw [← Zb9 h 0, Zvq]
theorem Zwx {x : Int} (h : in64 x) {k : Nat} (hk : k < 64) : bit (Zib x) k = ((decide (1 ≤ k) && bit x (k - 1)) ^^ bit x 63) := by
  unfold Zib
  rw [Zn0 _ hk, Zd9 _ _ hk, Zzg _ hk, show (63 : Int) = ((63 : Nat) : Int) from rfl, Zqi x 63 (by omega), Zb9 h, ← bit63 h]
  have h1 : shlI .u64 (IntKind.wrap .u64 x) 1 = IntKind.wrap .u64 (IntKind.wrap .u64 x * 2 ^ 1) := rfl
  rw [h1, Zzg _ hk, Ze4]
  by_cases h2 : 1 ≤ k
  · rw [Zzg _ (by omega)]
  · simp [h2]
theorem Zhj {v : Int} {f : Nat → Bool} (h : ∀ k, k < 64 → f k = bit v k) : (List.range 64).map f = bitsOf v := by
  unfold bitsOf
  apply List.map_congr_left
  intro k hk
  exact h k (List.mem_range.1 hk)
theorem Zoh {f : Nat → Bool} {k : Nat} (hk : k < 64) : ((List.range 64).map f)[k]? = some (f k) := by simp [hk]
theorem Zhg (f : Nat → Bool) : ((List.range 64).map f).length = 64 := by simp
theorem Zyg (w : Int) {k : Nat} (hk : k < 64) : List.getD (bitsOf w) k false = bit w k := by
  rw [List.getD_eq_getElem?_getD, Zo1 w hk]; rfl
def zigB (x : Int) (k : Nat) : Bool := (decide (1 ≤ k) && bit x (k - 1)) ^^ bit x 63
theorem Zxx {l : List Bool} {v : Int} (h : l = bitsOf v) : Zkb l = some (IntKind.wrap .i64 v) := by
  subst h
  rw [Zq7 _ (Zbg v), Zmo1]
theorem Ze01 {x : Int} (h : in64 x) : ∀ (d k n : Nat), d = 64 - k → k ≤ 64 → 1 ≤ k → d < n →
    Zkd.l0 n (k : Int) (bitsOf x) (((List.range 64).map (zigB x)).take k ++ List.replicate (64 - k) false) = some (Zib x) := by
  have hlen := Zbg x
  intro d
  induction d with
  | zero =>
    intro k n hd hk h1k hn
    obtain ⟨m, rfl⟩ : ∃ m, n = m + 1 := ⟨n - 1, by omega⟩
    show Zkd.S0 (Zkd.l0 m) (k : Int) (bitsOf x) _ = _
    unfold Zkd.S0
    have hk' : k = 64 := by omega
    subst hk'
    have hz : (List.range 64).map (zigB x) = bitsOf (Zib x) := Zhj fun k hk => (Zwx h hk).symm
    rw [show ltI ((64 : Nat) : Int) 64 = false from rfl, List.take_of_length_le (by simp), Nat.sub_self, List.replicate_zero, List.append_nil, Zxx hz, Zhg]
    have : IntKind.wrap .i64 (Zib x) = Zib x := Zgg (Zxg _)
    rw [this]
    rfl
  | succ d ih =>
    intro k n hd hk h1k hn
    obtain ⟨m, rfl⟩ : ∃ m, n = m + 1 := ⟨n - 1, by omega⟩
    show Zkd.S0 (Zkd.l0 m) (k : Int) (bitsOf x) _ = _
    unfold Zkd.S0
    have h1 : ltI (k : Int) 64 = true := decide_eq_true (by omega)
    have hsub : subI .i64 (k : Int) 1 = ((k - 1 : Nat) : Int) := by rw [Zmo (by omega) (by omega)]; omega
    have h2 : inB ((k - 1 : Nat) : Int) 64 = true := by rw [inB_d]; exact decide_eq_true (by omega)
    have h3 : inB (k : Int) 64 = true := by rw [inB_d]; exact decide_eq_true (by omega)
    have h4 : (((List.range 64).map (zigB x)).take k ++ List.replicate (64 - k) false).length = 64 := by simp; omega
    have hs := ih (k + 1) m (by omega) (by omega) (by omega) (by omega)
    rw [show ((k + 1 : Nat) : Int) = (k : Int) + 1 from rfl] at hs
    have hz : (!(eqB (List.getD (bitsOf x) (k - 1) false) (List.getD (bitsOf x) 63 false))) = zigB x k := by
      rw [Zyg x (by omega), Zyg x (by omega), eqB_d]
      unfold zigB
      rw [decide_eq_true h1k, Bool.true_and]
      cases bit x (k - 1) <;> cases bit x 63 <;> rfl
    rw [h1, hsub, h2, h3, h4, hlen, Zse (by omega) (by omega), show (k : Int).toNat = k from rfl, show ((k - 1 : Nat) : Int).toNat = k - 1 from rfl, hz,
      Zlm _ false 64 k (Zhg _) (by omega) (zigB x k) (Zoh (by omega))]
    exact hs
theorem Zc9 {x : Int} (h : in64 x) : Zkd x = some (Zib x) := by
  show Zkd.S (Zkd.l0 fu) x = _
  unfold Zkd.S
  rw [Zgi]
  simp only [Option.bind_some, Zbg, decide_true, cond_true]
  have h0 := Zlm ((List.range 64).map (zigB x)) false 64 0 (Zhg _) (by omega) (zigB x 0) (Zoh (by omega))
  rw [List.take_zero, List.nil_append, Nat.sub_zero, Nat.zero_add] at h0
  have hz : List.getD (bitsOf x) 63 false = zigB x 0 := by
    rw [Zyg x (by omega)]
    unfold zigB
    simp
  rw [hz, h0]
  exact Ze01 h (64 - 1) 1 fu rfl (by omega) (by omega) (by unfold fu; omega)
theorem Zf01 (k : Nat) : bit (-1) k = true := by
  unfold bit
  have hp := Zgc k
  have : (-1 : Int) / 2 ^ k = -1 := ((Int.ediv_emod_unique (a := -1) hp (r := 2 ^ k - 1) (q := -1)).2 ⟨by omega, by omega, by omega⟩).1
  rw [this]; rfl
theorem Zm0 (k : Nat) : bit 0 k = false := by
  unfold bit
  rw [Int.zero_ediv]; rfl
theorem Zfi {w : Int} (h0 : 0 ≤ w) {k : Nat} (h1 : w < 2 ^ k) : bit w k = false := by
  unfold bit
  rw [Int.ediv_eq_zero_of_lt h0 h1]; rfl
theorem bit0 (w : Int) : bit w 0 = decide (w % 2 = 1) := by
  unfold bit
  rw [Int.pow_zero, Int.ediv_one]
  rcases Int.emod_two_eq w with h | h <;> rw [h] <;> rfl
theorem and1U (a : Int) : andI .u64 a 1 = a % 2 := by
  unfold andI
  show IntKind.wrap .u64 ((BitVec.ofInt 64 a &&& BitVec.ofInt 64 1).toNat : Int) = _
  have h : (BitVec.ofInt 64 a &&& BitVec.ofInt 64 1).toNat = (a % 2).toNat := by
    rw [BitVec.toNat_and, show (BitVec.ofInt 64 1).toNat = 1 from rfl, Nat.and_one_is_mod, BitVec.toNat_ofInt]
    omega
  rw [h, Zqc]
  omega
theorem Zio (w : Int) {k : Nat} (hk : k < 64) : bit (Zrb w) k = ((decide (k < 63) && bit w (k + 1)) ^^ bit w 0) := by
  unfold Zrb
  rw [Zn0 _ hk, Zd9 _ _ hk]
  have h1 : shrI .u64 (IntKind.wrap .u64 w) 1 = IntKind.wrap .u64 w / 2 ^ 1 := by
    unfold shrI
    show (IntKind.wrap .u64 w).fdiv (2 ^ 1) = _
    rw [Int.fdiv_eq_ediv_of_nonneg _ (by omega)]
  have h2 : bit (shrI .u64 (IntKind.wrap .u64 w) 1) k = (decide (k < 63) && bit w (k + 1)) := by
    rw [h1, Zvq]
    by_cases h : k < 63
    · rw [Zzg _ (by omega), decide_eq_true h, Bool.true_and, Nat.add_comm]
    · have hk' : k = 63 := by omega
      subst hk'
      rw [Zfi (k := 1 + 63) (by rw [Zqc]; omega) (by rw [Zqc, show (2 : Int) ^ (1 + 63) = 18446744073709551616 from rfl]; omega)]
      simp
  have h3 : bit (subI .u64 0 (andI .u64 (IntKind.wrap .u64 w) 1)) k = bit w 0 := by
    rw [and1U, Zqc, bit0]
    have : w % 18446744073709551616 % 2 = w % 2 := by omega
    rw [this]
    unfold subI
    rw [Zzg _ hk]
    rcases Int.emod_two_eq w with h | h <;> rw [h]
    · rw [show (0 : Int) - 0 = 0 from rfl, Zm0]; rfl
    · rw [show (0 : Int) - 1 = -1 from rfl, Zf01]; rfl
  rw [h2, h3]
def zagB (w : Int) (k : Nat) : Bool := (decide (k < 63) && bit w (k + 1)) ^^ bit w 0
theorem Zq91 (w : Int) : Zgb.S1 (bitsOf w) (((List.range 64).map (zagB w)).take 63 ++ List.replicate (64 - 63) false) = some (Zrb w) := by
  unfold Zgb.S1
  have h4 : (((List.range 64).map (zagB w)).take 63 ++ List.replicate (64 - 63) false).length = 64 := by simp
  have hz : List.getD (bitsOf w) 0 false = zagB w 63 := by
    rw [Zyg w (by omega)]
    unfold zagB
    simp
  have hs := Zlm ((List.range 64).map (zagB w)) false 64 63 (Zhg _) (by omega) (zagB w 63) (Zoh (by omega))
  rw [Zbg, h4, hz, hs, Nat.sub_self, List.replicate_zero, List.append_nil, List.take_of_length_le (by simp), Zhg,
    Zxx (Zhj fun k hk => (Zio w hk).symm : (List.range 64).map (zagB w) = bitsOf (Zrb w))]
  have : IntKind.wrap .i64 (Zrb w) = Zrb w := Zgg (Zxg _)
  rw [this]
  rfl
theorem Zg01 (w : Int) : ∀ (d k n : Nat), d = 63 - k → k ≤ 63 → d < n →
    Zgb.l0 Zgb.S1 n (k : Int) (bitsOf w) (((List.range 64).map (zagB w)).take k ++ List.replicate (64 - k) false) = some (Zrb w) := by
  have hlen := Zbg w
  intro d
  induction d with
  | zero =>
    intro k n hd hk hn
    obtain ⟨m, rfl⟩ : ∃ m, n = m + 1 := ⟨n - 1, by omega⟩
    show Zgb.S0 Zgb.S1 (Zgb.l0 Zgb.S1 m) (k : Int) (bitsOf w) _ = _
    unfold Zgb.S0
    have hk' : k = 63 := by omega
    subst hk'
    rw [show ltI ((63 : Nat) : Int) 63 = false from rfl]
    exact Zq91 w
  | succ d ih =>
    intro k n hd hk hn
    obtain ⟨m, rfl⟩ : ∃ m, n = m + 1 := ⟨n - 1, by omega⟩
    show Zgb.S0 Zgb.S1 (Zgb.l0 Zgb.S1 m) (k : Int) (bitsOf w) _ = _
    unfold Zgb.S0
    have h1 : ltI (k : Int) 63 = true := decide_eq_true (by omega)
    have hadd : addI .i64 (k : Int) 1 = ((k + 1 : Nat) : Int) := by rw [Zse (by omega) (by omega)]; rfl
    have h2 : inB ((k + 1 : Nat) : Int) 64 = true := by rw [inB_d]; exact decide_eq_true (by omega)
    have h3 : inB (k : Int) 64 = true := by rw [inB_d]; exact decide_eq_true (by omega)
    have h4 : (((List.range 64).map (zagB w)).take k ++ List.replicate (64 - k) false).length = 64 := by simp; omega
    have hs := ih (k + 1) m (by omega) (by omega) (by omega)
    have hz : (!(eqB (List.getD (bitsOf w) (k + 1) false) (List.getD (bitsOf w) 0 false))) = zagB w k := by
      rw [Zyg w (by omega), Zyg w (by omega), eqB_d]
      unfold zagB
      rw [decide_eq_true (show k < 63 by omega), Bool.true_and]
      cases bit w (k + 1) <;> cases bit w 0 <;> rfl
    rw [h1, hadd, h2, h3, h4, hlen, show (k : Int).toNat = k from rfl, show ((k + 1 : Nat) : Int).toNat = k + 1 from rfl, hz,
      Zlm _ false 64 k (Zhg _) (by omega) (zagB w k) (Zoh (by omega))]
    exact hs
theorem zag_t : Zgb.t1 fu = Zgb.S1 := rfl
theorem Zav (w : Int) : Zgb w = some (Zrb w) := by
  have h1 : Zgb.S (Zgb.l0 Zgb.S1 fu) w = some (Zrb w) := by
    have h := Zg01 w (63 - 0) 0 fu rfl (by omega) (by unfold fu; omega)
    rw [List.take_zero, List.nil_append, Nat.sub_zero, show ((0 : Nat) : Int) = 0 from rfl] at h
    unfold Zgb.S
    rw [Zgi, Option.bind_some]
    exact h
  rw [← h1, ← zag_t]
  rfl
def Zmg (word : Int) (a w k : Nat) : Bool := decide (k < w) && (decide (a + k < 64) && bit word (a + k))
theorem Zbv {word v : Int} {a w : Nat} (hv : ∀ k, k < 64 → Zmg word a w k = bit v k) {k : Nat} (hk : k ≤ 64) (hrest : ∀ j, k ≤ j → j < 64 → Zmg word a w j = false) :
    Zkb (((List.range 64).map (Zmg word a w)).take k ++ List.replicate (64 - k) false) = some (IntKind.wrap .i64 v) := by
  apply Zxx
  rw [← Zhj hv]
  apply List.ext_getElem?
  intro j
  by_cases hj : j < k
  · rw [List.getElem?_append_left (by simp; omega), List.getElem?_take, if_pos hj]
  · by_cases hj2 : j < 64
    · rw [List.getElem?_append_right (by simp; omega), List.length_take, Zhg, Nat.min_eq_left hk, List.getElem?_replicate, if_pos (by omega), Zoh hj2, hrest j (by omega) hj2]
    · rw [List.getElem?_eq_none (by simp; omega), List.getElem?_eq_none (by simp; omega)]
theorem Zek1 {word v : Int} {a w : Nat} (ha : a < 64) (hw : w ≤ 64) (hv : ∀ k, k < 64 → Zmg word a w k = bit v k) : ∀ (d k n : Nat), d = 64 - k → k ≤ 64 → d < n →
    Zzb.l0 n (a : Int) (w : Int) (k : Int) (bitsOf word) (((List.range 64).map (Zmg word a w)).take k ++ List.replicate (64 - k) false) = some (IntKind.wrap .i64 v) := by
  have hlen := Zbg word
  intro d
  induction d with
  | zero =>
    intro k n hd hk hn
    obtain ⟨m, rfl⟩ : ∃ m, n = m + 1 := ⟨n - 1, by omega⟩
    show Zzb.S0 (Zzb.l0 m) (a : Int) (w : Int) (k : Int) (bitsOf word) _ = _
    unfold Zzb.S0
    have hk' : k = 64 := by omega
    subst hk'
    have h4 : (((List.range 64).map (Zmg word a w)).take 64 ++ List.replicate (64 - 64) false).length = 64 := by simp
    rw [show ltI ((64 : Nat) : Int) 64 = false from rfl, h4, Zbv hv (Nat.le_refl _) (fun j h1 h2 => by omega)]
    rfl
  | succ d ih =>
    intro k n hd hk hn
    obtain ⟨m, rfl⟩ : ∃ m, n = m + 1 := ⟨n - 1, by omega⟩
    show Zzb.S0 (Zzb.l0 m) (a : Int) (w : Int) (k : Int) (bitsOf word) _ = _
    unfold Zzb.S0
    have h1 : ltI (k : Int) 64 = true := decide_eq_true (by omega)
    have h4 : (((List.range 64).map (Zmg word a w)).take k ++ List.replicate (64 - k) false).length = 64 := by simp; omega
    have h5 : leI 0 (a : Int) = true := decide_eq_true (by omega)
    have h6 : ltI (a : Int) 64 = true := decide_eq_true (by omega)
    rw [h1, h4, h5, h6]
    by_cases hkw : k < w
    · by_cases hka : a + k < 64
      · have h7 : ltI (k : Int) (w : Int) = true := decide_eq_true (by omega)
        have h8 : ltI (k : Int) (subI .i64 64 (a : Int)) = true := by rw [Zmo (by omega) (by omega)]; exact decide_eq_true (by omega)
        have hadd : addI .i64 (a : Int) (k : Int) = ((a + k : Nat) : Int) := by rw [Zse (by omega) (by omega)]; rfl
        have h2 : inB ((a + k : Nat) : Int) 64 = true := by rw [inB_d]; exact decide_eq_true (by omega)
        have h3 : inB (k : Int) 64 = true := by rw [inB_d]; exact decide_eq_true (by omega)
        have hs := ih (k + 1) m (by omega) (by omega) (by omega)
        rw [show ((k + 1 : Nat) : Int) = (k : Int) + 1 from rfl] at hs
        have hz : List.getD (bitsOf word) (a + k) false = Zmg word a w k := by
          rw [Zyg word hka]
          unfold Zmg
          rw [decide_eq_true hkw, decide_eq_true hka]; rfl
        rw [h7, h8, hadd, h2, h3, hlen, Zse (by omega) (by omega), show (k : Int).toNat = k from rfl, show ((a + k : Nat) : Int).toNat = a + k from rfl, hz,
          Zlm _ false 64 k (Zhg _) (by omega) (Zmg word a w k) (Zoh (by omega))]
        exact hs
      · have h7 : ltI (k : Int) (w : Int) = true := decide_eq_true (by omega)
        have h8 : ltI (k : Int) (subI .i64 64 (a : Int)) = false := by rw [Zmo (by omega) (by omega)]; exact decide_eq_false (by omega)
        rw [h7, h8, Zbv hv hk (fun j h1 h2 => by unfold Zmg; rw [decide_eq_false (show ¬ (a + j < 64) by omega)]; simp)]
        rfl
    · have h7 : ltI (k : Int) (w : Int) = false := decide_eq_false (by omega)
      rw [h7, Zbv hv hk (fun j h1 h2 => by unfold Zmg; rw [decide_eq_false (show ¬ (j < w) by omega)]; simp)]
      rfl
theorem Ztq {word v : Int} {a w : Nat} (ha : a < 64) (hw : w ≤ 64) (hv : ∀ k, k < 64 → Zmg word a w k = bit v k) : Zzb word (a : Int) (w : Int) = some (IntKind.wrap .i64 v) := by
  show Zzb.S (Zzb.l0 fu) word (a : Int) (w : Int) = _
  have h := Zek1 ha hw hv (64 - 0) 0 fu rfl (by omega) (by unfold fu; omega)
  rw [List.take_zero, List.nil_append, Nat.sub_zero, show ((0 : Nat) : Int) = 0 from rfl] at h
  unfold Zzb.S
  rw [Zgi, Option.bind_some]
  exact h
theorem Zko1 (word : Int) : Zzb word 0 7 = some (word % 128) := by
  have h := Ztq (word := word) (v := word % 128) (a := 0) (w := 7) (by omega) (by omega) (fun k hk => by
    unfold Zmg
    rw [Nat.zero_add, decide_eq_true hk, Bool.true_and]
    by_cases h7 : k < 7
    · rw [decide_eq_true h7, Bool.true_and]
      have e1 := mod_pow_succ word k
      have e2 := mod_pow_succ (word % 2 ^ 7) k
      have hp := Zgc k
      rw [Int.emod_emod_of_dvd word (Zuq (show k + 1 ≤ 7 by omega)), Int.emod_emod_of_dvd word (Zuq (show k ≤ 7 by omega)), e1] at e2
      show bit word k = bit (word % 2 ^ 7) k
      revert e2
      cases bit (word % 2 ^ 7) k <;> cases bit word k <;> intro e2
      · rfl
      · simp only [if_true, Bool.false_eq_true, if_false] at e2; omega
      · simp only [if_true, Bool.false_eq_true, if_false] at e2; omega
      · rfl
    · rw [decide_eq_false h7, Bool.false_and]
      refine (Zfi (by omega) ?_).symm
      have : (2 : Int) ^ 7 ≤ 2 ^ k := by exact_mod_cast Nat.pow_le_pow_right (n := 2) (by omega) (show 7 ≤ k by omega)
      rw [show (2 : Int) ^ 7 = 128 from rfl] at this
      omega)
  rw [Zgg (x := word % 128) (by unfold in64; omega)] at h
  exact h
theorem Zfk1 (word : Int) : Zzb word 7 64 = some (word % 18446744073709551616 / 128) := by
  have h := Ztq (word := word) (v := word % 18446744073709551616 / 128) (a := 7) (w := 64) (by omega) (by omega) (fun k hk => by
    unfold Zmg
    rw [decide_eq_true hk, Bool.true_and]
    show _ = bit (word % 18446744073709551616 / 2 ^ 7) k
    rw [Zvq]
    by_cases h7 : 7 + k < 64
    · rw [decide_eq_true h7, Bool.true_and, Zrg _ h7]
    · rw [decide_eq_false h7, Bool.false_and]
      refine (Zfi (by omega) ?_).symm
      have : (2 : Int) ^ 64 ≤ 2 ^ (7 + k) := by exact_mod_cast Nat.pow_le_pow_right (n := 2) (by omega) (show 64 ≤ 7 + k by omega)
      rw [← pow64] at this
      omega)
  rw [Zgg (x := word % 18446744073709551616 / 128) (by unfold in64; omega)] at h
  exact h
end Go.AM.Pure
