import Derived.Test.YtlamhllcnbcbbaaGreatAmPRow67
import Derived.Test.YtlamhllcnbcbbaaGreatAmPure13
section
/- Words packed in bits: streams of bits, and what pack.Put writes. -/
namespace Go.AM.Pure
open Go.AM
def wb (x : Int) (w : Nat) : List Bool := (List.range w).map (bit x)
def strm (l : List Int) (w : Nat) : List Bool := l.flatMap fun x => wb x w
def chop : Nat → List Bool → List Int
  | 0, _ => []
  | n + 1, s => numOf (s.take 8) :: chop n (s.drop 8)
def packB (l : List Int) (w : Nat) : List Int := chop ((l.length * w + 7) / 8) (strm l w)
theorem Zte (x : Int) (w : Nat) : (wb x w).length = w := by unfold wb; simp
theorem Zlg (w : Nat) : ∀ l : List Int, (strm l w).length = l.length * w
  | [] => by simp [strm]
  | x :: l => by
    have := Zlg w l
    unfold strm at *
    rw [List.flatMap_cons, List.length_append, this, Zte, List.length_cons, Nat.add_mul]
    omega
theorem Zkm (x : Int) (w : Nat) : numOf (wb x w) = x % 2 ^ w := Zrj x w
theorem Zet (x : Bool) (a : List Bool) : numOf (x :: a) = (if x then 1 else 0) + 2 * numOf a := rfl
theorem Znh (n : Nat) (s : List Bool) : chop (n + 1) s = numOf (s.take 8) :: chop n (s.drop 8) := rfl
theorem Zcn : ∀ (a b : List Bool), numOf (a ++ b) = numOf a + 2 ^ a.length * numOf b
  | [], b => by simp [numOf]
  | x :: a, b => by
    rw [List.cons_append, Zet, Zet, Zcn a b, List.length_cons, Int.pow_succ, Int.mul_add, Int.mul_comm (2 ^ a.length) 2, Int.mul_assoc]
    omega
theorem Zto (x : Int) (k w : Nat) (h : k ≤ w) : wb x w = wb x k ++ wb (x / 2 ^ k) (w - k) := by
  unfold wb
  apply List.ext_getElem?
  intro i
  by_cases h1 : i < w
  · by_cases h2 : i < k
    · rw [List.getElem?_append_left (by simpa using h2)]
      simp [h1, h2]
    · rw [List.getElem?_append_right (by simp; omega)]
      simp only [List.length_map, List.length_range, List.getElem?_map]
      rw [List.getElem?_range h1, List.getElem?_range (show i - k < w - k by omega)]
      simp only [Option.map_some, Zvq]
      congr 2
      omega
  · rw [List.getElem?_eq_none (by simp; omega), List.getElem?_eq_none (by simp; omega)]
theorem Zbo1 (x : Int) {w : Nat} (h : w ≤ 64) : wb (x % 18446744073709551616) w = wb x w := by
  unfold wb
  apply List.map_congr_left
  intro k hk
  exact Zrg x (by have := List.mem_range.1 hk; omega)
theorem Zof1 (x : Int) : wb x 0 = [] := rfl
theorem Zlf : ∀ (n : Nat) (s : List Bool), (chop n s).length = n
  | 0, _ => rfl
  | n + 1, s => by unfold chop; rw [List.length_cons, Zlf]
theorem Zsk : ∀ (n m : Nat) (a b : List Bool), a.length = 8 * n → chop (n + m) (a ++ b) = chop n a ++ chop m b
  | 0, m, a, b, h => by
    have : a = [] := List.eq_nil_of_length_eq_zero (by omega)
    subst this
    simp [chop]
  | n + 1, m, a, b, h => by
    rw [show n + 1 + m = (n + m) + 1 by omega, Znh, Znh, List.take_append_of_le_length (by omega), List.drop_append_of_le_length (by omega), Zsk n m _ _ (by rw [List.length_drop]; omega)]
    rfl
theorem Zu8 : ∀ (n : Nat) (s : List Bool), ∀ b ∈ chop n s, 0 ≤ b ∧ b < 256
  | 0, _, b, h => by cases h
  | n + 1, s, b, h => by
    unfold chop at h
    rcases List.mem_cons.1 h with rfl | h
    · have := Zbe (s.take 8)
      have h2 : (2 : Int) ^ (s.take 8).length ≤ 2 ^ 8 := by
        have : (s.take 8).length ≤ 8 := by rw [List.length_take]; omega
        exact_mod_cast Nat.pow_le_pow_right (n := 2) (by omega) this
      omega
    · exact Zu8 n _ b h
theorem Zxk (l : List Int) (w : Nat) : ∀ b ∈ packB l w, 0 ≤ b ∧ b < 256 := Zu8 _ _
theorem Zsd (l : List Int) (w : Nat) : (packB l w).length = (l.length * w + 7) / 8 := Zlf _ _
theorem Zc4 {V c : Int} {a : Nat} (h0 : 0 ≤ V) (h1 : V < 2 ^ a) (ha : a ≤ 64) : orI .u64 V (shlI .u64 c (a : Int)) = (V + c * 2 ^ a) % 18446744073709551616 := by
  have hr : ∀ x : Int, orI .u64 V x = orI .u64 V x % 18446744073709551616 := fun x => by
    unfold orI
    rw [Zqc]
    omega
  rw [hr]
  apply Zei
  intro k hk
  rw [Zsf1 _ _ hk, Zvx h0 h1]
  have hs : shlI .u64 c (a : Int) = IntKind.wrap .u64 (c * 2 ^ a) := by
    unfold shlI
    have : min (a : Int).toNat (IntKind.bits .u64) = a := by show min a 64 = a; omega
    rw [this]
  rw [hs, Zzg _ hk, Ze4]
  by_cases h : k < a
  · rw [if_pos h, decide_eq_false (by omega)]; simp
  · rw [if_neg h, decide_eq_true (by omega), Bool.true_and]
    have : bit V k = false := Zfi h0 (by
      have : (2 : Int) ^ a ≤ 2 ^ k := by exact_mod_cast Nat.pow_le_pow_right (n := 2) (by omega) (show a ≤ k by omega)
      omega)
    rw [this, Bool.false_or]
theorem Zpf1 {k : Nat} (h : k ≤ 8) : Zkn (k : Int) = some (2 ^ k - 1) := by
  have : ∀ k : Fin 9, Zkn (k.val : Int) = some (2 ^ k.val - 1) := by decide +kernel
  exact this ⟨k, by omega⟩
theorem Zv8 {u : Int} (h0 : 0 ≤ u) (h1 : u < 18446744073709551616) {k : Nat} (h : k ≤ 8) : andI .u64 u (IntKind.wrap .u64 (2 ^ k - 1)) = u % 2 ^ k := by
  obtain ⟨n, rfl⟩ := Int.eq_ofNat_of_zero_le h0
  have hk : (2 : Nat) ^ k ≤ 2 ^ 8 := Nat.pow_le_pow_right (by omega) h
  have hkp : 0 < (2 : Nat) ^ k := Nat.pow_pos (by omega)
  have e : (2 : Int) ^ k - 1 = ((2 ^ k - 1 : Nat) : Int) := by
    rw [Int.ofNat_sub hkp]
    simp
  rw [Zqc, e]
  have e2 : ((2 ^ k - 1 : Nat) : Int) % 18446744073709551616 = ((2 ^ k - 1 : Nat) : Int) := by omega
  rw [e2]
  unfold andI
  rw [BitVec.toNat_and, show (BitVec.ofInt (IntKind.bits .u64) (n : Int)).toNat = n by
      show (BitVec.ofInt 64 (n : Int)).toNat = n
      rw [BitVec.toNat_ofInt]
      omega, show (BitVec.ofInt (IntKind.bits .u64) ((2 ^ k - 1 : Nat) : Int)).toNat = 2 ^ k - 1 by
      show (BitVec.ofInt 64 ((2 ^ k - 1 : Nat) : Int)).toNat = _
      rw [BitVec.toNat_ofInt]
      omega, Nat.and_two_pow_sub_one_eq_mod, Zqc]
  have : n % 2 ^ k < 2 ^ k := Nat.mod_lt _ hkp
  have e3 : ((n % 2 ^ k : Nat) : Int) = (n : Int) % 2 ^ k := by simp
  rw [← e3]
  omega
def Wr (A : List Bool) (out : List Int) (kept n : Int) : Prop :=
  ∃ A' R : List Bool, A = A' ++ R ∧ A'.length = 8 * out.length ∧ out = chop out.length A' ∧ R.length < 8 ∧ n = (R.length : Int) ∧ kept = numOf R
theorem Zco1 {o0 : Int → List Int → Int → Int → List Int → Int → Int → Option (ByteArray × Int)} {width : Int} {l : List Int} {len i : Int} :
    ∀ (left m : Nat) (A : List Bool) (out : List Int) (kept n u : Int), left ≤ 64 → left < m → Wr A out kept n → A.length + left ≤ 100000000000 → 0 ≤ u → u < 18446744073709551616 →
      ∃ out' kept' n', Wr (A ++ wb u left) out' kept' n' ∧ Zfa.l1 o0 m width out kept n u (left : Int) l len i = o0 width out' kept' n' l len (addI .i64 i 1) := by
  intro left
  induction left using Nat.strongRecOn with
  | ind left ih =>
  intro m A out kept n u hl hm hw hA h0 h1
  obtain ⟨m, rfl⟩ : ∃ k, m = k + 1 := ⟨m - 1, by omega⟩
  show ∃ out' kept' n', _ ∧ Zfa.S1 o0 (Zfa.l1 o0 m) width out kept n u (left : Int) l len i = _
  unfold Zfa.S1
  rcases Nat.eq_zero_or_pos left with h00 | hpos
  · subst h00
    exact ⟨out, kept, n, by rw [Zof1, List.append_nil]; exact hw, by rw [lt_f (by omega)]; rfl⟩
  · rw [lt_t (by omega), cond_true]
    obtain ⟨A', R, hAR, hA', hout, hR, rfl, rfl⟩ := hw
    have hks : subI .i64 8 (R.length : Int) = ((8 - R.length : Nat) : Int) := by rw [Zdd (by omega)]; omega
    have hmin : minI (subI .i64 8 (R.length : Int)) (left : Int) = ((min (8 - R.length) left : Nat) : Int) := by
      rw [hks]
      unfold minI
      split <;> omega
    rw [hmin]
    generalize hk : min (8 - R.length) left = k
    have hk8 : k ≤ 8 := by omega
    have hk1 : 1 ≤ k := by omega
    have hkl : k ≤ left := by omega
    rw [Zpf1 hk8, Option.bind_some, le_t (by omega), cond_true, le_t (by omega), cond_true]
    have hb := Zbe R
    have hand := Zv8 h0 h1 hk8
    have hor : orI .u64 (numOf R) (shlI .u64 (andI .u64 u (IntKind.wrap .u64 (2 ^ k - 1))) (R.length : Int)) = numOf (R ++ wb u k) := by
      rw [hand, Zc4 hb.1 hb.2 (by omega), Zcn, Zkm, Int.mul_comm (2 ^ R.length)]
      have h2 := Zbe (R ++ wb u k)
      rw [Zcn, Zkm, Int.mul_comm (2 ^ R.length)] at h2
      have h3 : (2 : Int) ^ (R ++ wb u k).length ≤ 2 ^ 8 := by
        have : (R ++ wb u k).length ≤ 8 := by rw [List.length_append, Zte]; omega
        exact_mod_cast Nat.pow_le_pow_right (n := 2) (by omega) this
      omega
    rw [hor]
    have hshr : shrI .u64 u (k : Int) = u / 2 ^ k := shrU u k (by omega)
    have hsub : subI .i64 (left : Int) (k : Int) = ((left - k : Nat) : Int) := by rw [Zdd (by omega)]; omega
    rw [hshr, hsub, Zv (a := (R.length : Int)) (by omega)]
    have hp := Zgc k
    have hu0 : 0 ≤ u / 2 ^ k := Int.ediv_nonneg h0 (Int.le_of_lt hp)
    have hu1 : u / 2 ^ k < 18446744073709551616 := by
      have := Int.ediv_le_self (2 ^ k) h0
      omega
    have hsplit := Zto u k left hkl
    by_cases h8 : R.length + k = 8
    · rw [eq_t (by omega), cond_true, Zea (by
        have : A.length = A'.length + R.length := by rw [hAR, List.length_append]
        omega), cond_true]
      have hrl : (R ++ wb u k).length = 8 := by rw [List.length_append, Zte]; omega
      have hbb := Zbe (R ++ wb u k)
      rw [hrl] at hbb
      have hwrap : IntKind.wrap .u8 (numOf (R ++ wb u k)) = numOf (R ++ wb u k) := by rw [Zvf]; omega
      rw [hwrap]
      obtain ⟨out', kept', n', h2, h3⟩ := ih (left - k) (by omega) m (A ++ wb u k) (out ++ [numOf (R ++ wb u k)]) 0 0 (u / 2 ^ k) (by omega) (by omega)
        ⟨A' ++ (R ++ wb u k), [], by rw [hAR]; simp, by simp; rw [Zte]; omega, by
          rw [List.length_append, List.length_singleton, Zsk _ 1 _ _ hA', ← hout]
          congr 1
          rw [Znh, List.take_of_length_le (by omega)]
          rfl, by simp, rfl, rfl⟩ (by rw [List.length_append, Zte]; omega) hu0 hu1
      exact ⟨out', kept', n', by rw [hsplit, ← List.append_assoc]; exact h2, h3⟩
    · rw [eq_f (by omega), cond_false]
      have hrl : (R ++ wb u k).length = R.length + k := by rw [List.length_append, Zte]
      obtain ⟨out', kept', n', h2, h3⟩ := ih (left - k) (by omega) m (A ++ wb u k) out (numOf (R ++ wb u k)) ((R.length : Int) + (k : Int)) (u / 2 ^ k) (by omega) (by omega)
        ⟨A', R ++ wb u k, by rw [hAR, List.append_assoc], hA', hout, by omega, by omega, rfl⟩ (by rw [List.length_append, Zte]; omega) hu0 hu1
      exact ⟨out', kept', n', by rw [hsplit, ← List.append_assoc]; exact h2, h3⟩
theorem Zqp (l : List Int) (x : Int) (w : Nat) : strm (l ++ [x]) w = strm l w ++ wb x w := by unfold strm; simp
theorem Zn91 {A : List Bool} {out : List Int} {kept n : Int} (h : Wr A out kept n) (hA : A.length ≤ 100000000000) : Zfa.S2 out kept n = some (ofBytes (chop ((A.length + 7) / 8) A), 0) := by
  obtain ⟨A', R, hAR, hA', hout, hR, rfl, rfl⟩ := h
  unfold Zfa.S2
  have hl : A.length = 8 * out.length + R.length := by rw [hAR, List.length_append, hA']
  rcases Nat.eq_zero_or_pos R.length with h0 | hpos
  · rw [lt_f (by omega), cond_false]
    have : R = [] := List.eq_nil_of_length_eq_zero h0
    subst this
    rw [List.append_nil] at hAR
    subst hAR
    rw [show (A.length + 7) / 8 = out.length by simp at hl; omega, ← hout]
  · rw [lt_t (by omega), cond_true, Zea (by omega), cond_true]
    have hb := Zbe R
    have h3 : (2 : Int) ^ R.length ≤ 2 ^ 8 := by exact_mod_cast Nat.pow_le_pow_right (n := 2) (by omega) (show R.length ≤ 8 by omega)
    have hwrap : IntKind.wrap .u8 (numOf R) = numOf R := by rw [Zvf]; omega
    rw [hwrap, show (A.length + 7) / 8 = out.length + 1 by omega, hAR, Zsk _ 1 _ _ hA', ← hout]
    congr 4
    rw [Znh, List.take_of_length_le (by omega)]
    rfl
theorem Zdo1 (l : List Int) {w : Nat} (hw : w ≤ 64) (hl : l.length ≤ 65536) : ∀ (d i m : Nat) (out : List Int) (kept n : Int), d = l.length - i → i ≤ l.length → d + 1 < m → 70 < m → Wr (strm (l.take i) w) out kept n →
    Zfa.l0 (Zfa.t2 fu) (m + d) (w : Int) out kept n l (l.length : Int) (i : Int) = some (ofBytes (packB l w), 0) := by
  intro d
  induction d with
  | zero =>
    intro i m out kept n hd hi hm hm2 hwr
    have : i = l.length := by omega
    subst this
    obtain ⟨m, rfl⟩ : ∃ k, m = k + 1 := ⟨m - 1, by omega⟩
    show Zfa.S0 Zfa.S2 (Zfa.l1 _ _) (w : Int) out kept n l (l.length : Int) (l.length : Int) = _
    unfold Zfa.S0
    rw [lt_f (by omega), cond_false]
    rw [List.take_length] at hwr
    have hlen := Zlg w l
    have hb : l.length * w ≤ 65536 * 64 := Nat.mul_le_mul hl hw
    rw [Zn91 hwr (by omega), hlen]
    rfl
  | succ d ih =>
    intro i m out kept n hd hi hm hm2 hwr
    have hlt : i < l.length := by omega
    have hb : l.length * w ≤ 65536 * 64 := Nat.mul_le_mul hl hw
    show Zfa.S0 (Zfa.t2 fu) (Zfa.l1 (Zfa.l0 (Zfa.t2 fu) (m + d)) (m + d)) (w : Int) out kept n l (l.length : Int) (i : Int) = _
    unfold Zfa.S0
    rw [lt_t (by omega), cond_true, Zt (by rw [Zd]; omega), cond_true, Zba hlt]
    have hu := Zqc l[i]
    obtain ⟨out', kept', n', h1, h2⟩ := Zco1 (o0 := Zfa.l0 (Zfa.t2 fu) (m + d)) (width := (w : Int)) (l := l) (len := (l.length : Int)) (i := (i : Int)) w (m + d) _ out kept n (IntKind.wrap .u64 l[i]) hw (by omega) hwr
      (by rw [Zlg, List.length_take]; have : min i l.length * w ≤ l.length * w := Nat.mul_le_mul_right _ (Nat.min_le_right _ _); omega) (by omega) (by omega)
    rw [h2, Zv (by omega)]
    have := ih (i + 1) m out' kept' n' (by omega) (by omega) (by omega) hm2 (by
      rw [List.take_add_one, List.getElem?_eq_getElem hlt, Option.toList_some, Zqp]
      rw [hu, Zbo1 _ hw] at h1
      exact h1)
    rw [← this]
    congr 1
theorem Zdu (n w : Nat) (hn : n ≤ 65536) (hw : w ≤ 64) : Zsf (n : Int) (w : Int) = (((n * w + 7) / 8 : Nat) : Int) := by
  unfold Zsf
  have hb : n * w ≤ 65536 * 64 := Nat.mul_le_mul hn hw
  rcases Nat.eq_zero_or_pos n with h | h
  · subst h
    rw [lt_t (by omega)]
    simp
  · rw [lt_f (by omega), cond_false, lt_f (by omega), cond_false]
    rcases Nat.eq_zero_or_pos w with h2 | h2
    · subst h2
      rw [lt_t (by omega)]
      simp
    · rw [lt_f (by omega), cond_false, lt_f (by omega), cond_false]
      have e : (n : Int) * (w : Int) = ((n * w : Nat) : Int) := by simp
      rw [Zxj (by rw [e]; omega), e, Zv (by omega)]
      have := Zqi (((n * w : Nat) : Int) + 7) 3 (by omega)
      rw [show ((3 : Nat) : Int) = 3 from rfl] at this
      rw [this]
      omega
theorem Zpj (l : List Int) {w : Nat} (hw : w ≤ 64) (hl : l.length ≤ 65536) {v : Nat} (hv : Zwa l = some (v : Int)) (hvw : v ≤ w) : Zfa l (w : Int) = some (ofBytes (packB l w), 0) := by
  show Zfa.S (Zfa.l0 (Zfa.t2 fu) fu) l (w : Int) = _
  unfold Zfa.S
  rw [lt_f (by omega), cond_false, lt_f (by omega), cond_false, Zd, lt_f (by omega), cond_false, hv, Option.bind_some, lt_f (by omega), cond_false, Zdu _ _ hl hw]
  have hb : l.length * w ≤ 65536 * 64 := Nat.mul_le_mul hl hw
  dsimp only
  rw [Zv (by omega), le_t (by omega), Zea (by omega)]
  show Zfa.l0 (Zfa.t2 fu) fu (w : Int) [] 0 0 l (l.length : Int) 0 = _
  have := Zdo1 l hw hl l.length 0 (fu - l.length) [] 0 0 (by omega) (by omega) (by unfold fu; omega) (by unfold fu; omega) ⟨[], [], rfl, rfl, rfl, by decide, rfl, rfl⟩
  rw [show fu - l.length + l.length = fu by unfold fu; omega] at this
  exact this
end Go.AM.Pure
end

section
/- pack.Width, pack.word, pack.Take. -/
namespace Go.AM.Pure
open Go.AM
theorem Zr8 (u : Int) (v k : Nat) (_ : 0 ≤ u) : bit (u % 2 ^ v) k = (decide (k < v) && bit u k) := by
  obtain ⟨n, rfl⟩ := Int.eq_ofNat_of_zero_le ‹0 ≤ u›
  have e : ((n : Int) % 2 ^ v) = ((n % 2 ^ v : Nat) : Int) := by simp
  rw [e, Zyk, Zyk, Nat.testBit_mod_two_pow]
theorem Zn1 {u : Int} (h0 : 0 ≤ u) (h1 : u < 18446744073709551616) {v : Nat} (h : ∀ k, v ≤ k → k < 64 → bit u k = false) : u < 2 ^ v := by
  have hp := Zgc v
  have h2 := Int.emod_lt_of_pos u hp
  have h3 := Int.emod_nonneg u (Int.ne_of_gt hp)
  have h4 : u % 18446744073709551616 = (u % 2 ^ v) % 18446744073709551616 := Zei fun k hk => by
    rw [Zr8 u v k h0]
    by_cases hkv : k < v
    · rw [decide_eq_true hkv, Bool.true_and]
    · rw [h k (by omega) hk, decide_eq_false hkv]; rfl
  have h5 : u % 2 ^ v ≤ u := by
    have h6 := Int.mul_ediv_add_emod u (2 ^ v)
    have h7 : 0 ≤ 2 ^ v * (u / 2 ^ v) := Int.mul_nonneg (Int.le_of_lt hp) (Int.ediv_nonneg h0 (Int.le_of_lt hp))
    omega
  omega
def Wd (l : List Int) (v : Nat) : Prop := (∀ x ∈ l, x % 18446744073709551616 < 2 ^ v) ∧ (v = 0 ∨ ∃ x ∈ l, 2 ^ (v - 1) ≤ x % 18446744073709551616)
theorem Wd.unique {l : List Int} {v w : Nat} (h1 : Wd l v) (h2 : Wd l w) : v = w := by
  have key : ∀ {v w : Nat}, Wd l v → Wd l w → v ≤ w := fun {v w} h1 h2 => by
    rcases h1.2 with h | ⟨x, hx, hle⟩
    · omega
    · have := h2.1 x hx
      have h3 : (2 : Int) ^ (v - 1) < 2 ^ w := by omega
      have := Zco h3
      omega
  exact Nat.le_antisymm (key h1 h2) (key h2 h1)
def Zrq (l : List Int) (k : Nat) : Bool := l.any fun x => bit x k
theorem Zd01 (a b : Int) {k : Nat} (hk : k < 64) : bit (orI .i64 a b) k = (bit a k || bit b k) := by
  unfold orI
  rw [Zn0 _ hk]
  show bit ((BitVec.ofInt 64 a ||| BitVec.ofInt 64 b).toNat : Int) k = _
  rw [Zyk, BitVec.toNat_or, Nat.testBit_or, Zjo _ hk, Zjo _ hk]
theorem Zck1 (l : List Int) (hl : l.length < 4611686018427387904) : ∀ (d i n : Nat) (all : Int), d = l.length - i → i ≤ l.length → d < n → (∀ k, k < 64 → bit all k = Zrq (l.take i) k) →
    ∃ all', (∀ k, k < 64 → bit all' k = Zrq l k) ∧ Zwa.l0 n all l (l.length : Int) (i : Int) = (Zob all').bind fun r => some r := by
  intro d
  induction d with
  | zero =>
    intro i n all hd hi hn ha
    have : i = l.length := by omega
    subst this
    obtain ⟨n, rfl⟩ : ∃ k, n = k + 1 := ⟨n - 1, by omega⟩
    refine ⟨all, by rw [List.take_length] at ha; exact ha, ?_⟩
    show Zwa.S0 _ _ _ _ _ = _
    unfold Zwa.S0
    rw [lt_f (by omega)]
    rfl
  | succ d ih =>
    intro i n all hd hi hn ha
    obtain ⟨n, rfl⟩ : ∃ k, n = k + 1 := ⟨n - 1, by omega⟩
    have hlt : i < l.length := by omega
    show ∃ all', _ ∧ Zwa.S0 (Zwa.l0 n) all l (l.length : Int) (i : Int) = _
    unfold Zwa.S0
    rw [lt_t (by omega), cond_true, Zt (by rw [Zd]; omega), cond_true, Zba hlt, Zv (by omega)]
    exact ih (i + 1) n _ (by omega) (by omega) (by omega) fun k hk => by
      rw [Zd01 _ _ hk, ha k hk, List.take_add_one, List.getElem?_eq_getElem hlt, Option.toList_some]
      unfold Zrq
      rw [List.any_append]
      simp
theorem Zkk (l : List Int) (hl : l.length < 4611686018427387904) : ∃ v : Nat, Zwa l = some (v : Int) ∧ v ≤ 64 ∧ Wd l v := by
  obtain ⟨all, hb, he⟩ := Zck1 l hl l.length 0 fu 0 (by omega) (by omega) (by unfold fu; omega) fun k _ => by rw [Zm0]; rfl
  obtain ⟨v, h1, h2, h3⟩ := Zeu (z := all) rfl
  refine ⟨v, ?_, h2, ?_⟩
  · show Zwa.l0 fu 0 l (l.length : Int) 0 = _
    have he' : Zwa.l0 fu 0 l (l.length : Int) ((0 : Nat) : Int) = _ := he
    rw [h1] at he'
    exact he'
  have hab : ∀ k, k < 64 → bit (all % 18446744073709551616) k = Zrq l k := fun k hk => by rw [Zrg _ hk]; exact hb k hk
  constructor
  · intro x hx
    refine Zn1 (by omega) (by omega) fun k h4 h5 => ?_
    rw [Zrg _ h5]
    have h6 : all % 18446744073709551616 < 2 ^ v := by
      rcases h3 with ⟨h3, rfl⟩ | ⟨_, _, h3⟩
      · rw [h3]; decide
      · exact h3
    have h7 : bit (all % 18446744073709551616) k = false := Zfi (by omega) (by
      have : (2 : Int) ^ v ≤ 2 ^ k := by exact_mod_cast Nat.pow_le_pow_right (n := 2) (by omega) h4
      omega)
    rw [hab k h5] at h7
    unfold Zrq at h7
    have := List.any_eq_false.1 h7 x hx
    simpa using this
  · rcases h3 with ⟨_, rfl⟩ | ⟨h4, h5, h6⟩
    · exact .inl rfl
    · right
      -- the highest bit is one of some word's
      have hbit : bit (all % 18446744073709551616) (v - 1) = true := by
        cases hq : bit (all % 18446744073709551616) (v - 1) with
        | true => rfl
        | false =>
          have := Zn1 (u := all % 18446744073709551616) (v := v - 1) (by omega) (by omega) fun k h7 h8 => by
            by_cases hk : k = v - 1
            · rw [hk]; exact hq
            · exact Zfi (by omega) (by
                have : (2 : Int) ^ v ≤ 2 ^ k := by exact_mod_cast Nat.pow_le_pow_right (n := 2) (by omega) (show v ≤ k by omega)
                omega)
          omega
      rw [hab _ (by omega)] at hbit
      unfold Zrq at hbit
      obtain ⟨x, hx, hxb⟩ := List.any_eq_true.1 hbit
      refine ⟨x, hx, ?_⟩
      rcases Int.lt_or_le (x % 18446744073709551616) (2 ^ (v - 1)) with h7 | h7
      · have := Zfi (by omega) h7
        rw [Zrg _ (by omega)] at this
        rw [this] at hxb
        cases hxb
      · exact h7
def sb (s : ByteArray) (p : Nat) : Bool := bit (byteAt s ((p / 8 : Nat) : Int)) (p % 8)
theorem and7 {a : Nat} (h : a < 9223372036854775808) : andI .i64 (a : Int) 7 = ((a % 8 : Nat) : Int) := by
  unfold andI
  show IntKind.wrap .i64 ((BitVec.ofInt 64 (a : Int) &&& BitVec.ofInt 64 7).toNat : Int) = _
  rw [BitVec.toNat_and, show (BitVec.ofInt 64 7).toNat = 2 ^ 3 - 1 from rfl, Nat.and_two_pow_sub_one_eq_mod, show (BitVec.ofInt 64 (a : Int)).toNat = a by rw [BitVec.toNat_ofInt]; omega, Zkg]
  omega
theorem shr3 (a : Nat) : shrI .i64 (a : Int) 3 = ((a / 8 : Nat) : Int) := by
  have := Zqi (a : Int) 3 (by omega)
  rw [show ((3 : Nat) : Int) = 3 from rfl] at this
  rw [this]
  omega
theorem Zr5 {f : Nat → Bool} (a b : Nat) : (List.range (a + b)).map f = (List.range a).map f ++ (List.range b).map fun i => f (a + i) := by
  rw [List.range_add, List.map_append, List.map_map]
  rfl
theorem Zdk1 (s : ByteArray) {w : Nat} (hw : w ≤ 64) (base : Nat) (hb : base < 1000000000000) (hfit : base + w ≤ 8 * s.size) : ∀ (d got n : Nat), d = w - got → got ≤ w → d < n →
    Zgd.l0 n s (w : Int) (numOf ((List.range got).map fun i => sb s (base + i))) ((base + got : Nat) : Int) (got : Int) = some (IntKind.wrap .i64 (numOf ((List.range w).map fun i => sb s (base + i)))) := by
  intro d
  induction d using Nat.strongRecOn with
  | ind d ih =>
  intro got n hd hg hn
  obtain ⟨n, rfl⟩ : ∃ k, n = k + 1 := ⟨n - 1, by omega⟩
  show Zgd.S0 (Zgd.l0 n) s _ _ _ _ = _
  unfold Zgd.S0
  by_cases hgw : got = w
  · subst hgw
    rw [lt_f (by omega)]
    rfl
  · rw [lt_t (by omega), cond_true, shr3, Zt (by rw [Zcb]; omega), cond_true, and7 (by omega), le_t (by omega), cond_true]
    have hsub8 : subI .i64 8 (((base + got) % 8 : Nat) : Int) = ((8 - (base + got) % 8 : Nat) : Int) := by rw [Zdd (by omega)]; omega
    have hsubw : subI .i64 (w : Int) (got : Int) = ((w - got : Nat) : Int) := by rw [Zdd (by omega)]; omega
    have hmin : minI (subI .i64 8 (((base + got) % 8 : Nat) : Int)) (subI .i64 (w : Int) (got : Int)) = ((min (8 - (base + got) % 8) (w - got) : Nat) : Int) := by
      rw [hsub8, hsubw]
      unfold minI
      split <;> omega
    rw [hmin]
    generalize hk : min (8 - (base + got) % 8) (w - got) = k
    have hk8 : k ≤ 8 := by omega
    rw [Zpf1 hk8, Option.bind_some, le_t (by omega), cond_true]
    have hby := Zml s (((base + got) / 8 : Nat) : Int)
    have hwr : IntKind.wrap .u64 (byteAt s (((base + got) / 8 : Nat) : Int)) = byteAt s (((base + got) / 8 : Nat) : Int) := by rw [Zqc]; omega
    have hp := Zgc ((base + got) % 8)
    rw [hwr, shrU _ _ (by omega)]
    have hq0 : 0 ≤ byteAt s (((base + got) / 8 : Nat) : Int) / 2 ^ ((base + got) % 8) := Int.ediv_nonneg hby.1 (Int.le_of_lt hp)
    have hq1 : byteAt s (((base + got) / 8 : Nat) : Int) / 2 ^ ((base + got) % 8) < 18446744073709551616 := by
      have := Int.ediv_le_self (2 ^ ((base + got) % 8)) hby.1
      omega
    have hnb := Zbe ((List.range got).map fun i => sb s (base + i))
    rw [List.length_map, List.length_range] at hnb
    rw [Zv8 hq0 hq1 hk8, Zc4 hnb.1 hnb.2 (by omega), Zv (by omega), Zv (by omega)]
    have hpart : byteAt s (((base + got) / 8 : Nat) : Int) / 2 ^ ((base + got) % 8) % 2 ^ k = numOf ((List.range k).map fun i => sb s (base + (got + i))) := by
      rw [← Zrj]
      congr 1
      apply List.map_congr_left
      intro i hi
      have hi := List.mem_range.1 hi
      rw [Zvq]
      unfold sb
      rw [show (base + (got + i)) / 8 = (base + got) / 8 by omega, show (base + (got + i)) % 8 = (base + got) % 8 + i by omega]
    have hnext : numOf ((List.range (got + k)).map fun i => sb s (base + i)) = numOf ((List.range got).map fun i => sb s (base + i)) + byteAt s (((base + got) / 8 : Nat) : Int) / 2 ^ ((base + got) % 8) % 2 ^ k * 2 ^ got := by
      rw [Zr5, Zcn, List.length_map, List.length_range, hpart, Int.mul_comm (2 ^ got)]
    rw [← hnext]
    have hnb2 := Zbe ((List.range (got + k)).map fun i => sb s (base + i))
    rw [List.length_map, List.length_range] at hnb2
    have h64 : (2 : Int) ^ (got + k) ≤ 2 ^ 64 := by exact_mod_cast Nat.pow_le_pow_right (n := 2) (by omega) (show got + k ≤ 64 by omega)
    rw [← pow64] at h64
    rw [Int.emod_eq_of_lt hnb2.1 (by omega)]
    have := ih (w - (got + k)) (by omega) (got + k) n rfl (by omega) (by omega)
    rw [show ((base + got : Nat) : Int) + (k : Int) = ((base + (got + k) : Nat) : Int) by omega, show (got : Int) + (k : Int) = ((got + k : Nat) : Int) by omega]
    exact this
def wordS (s : ByteArray) (k w : Nat) : Int := IntKind.wrap .i64 (numOf ((List.range w).map fun i => sb s (k * w + i)))
theorem Zs8 (s : ByteArray) {k w : Nat} (hw : w ≤ 64) (hk : k ≤ 65536) (hfit : (k + 1) * w ≤ 8 * s.size) : Zgd s (k : Int) (w : Int) = some (wordS s k w) := by
  show Zgd.S (Zgd.l0 fu) s _ _ = _
  unfold Zgd.S
  have hb : k * w ≤ 65536 * 64 := Nat.mul_le_mul hk hw
  have e : (k : Int) * (w : Int) = ((k * w : Nat) : Int) := by simp
  rw [Zxj (by rw [e]; omega), e]
  rw [Nat.add_mul] at hfit
  exact Zdk1 s hw (k * w) (by omega) (by omega) w 0 fu (by omega) (by omega) (by unfold fu; omega)
theorem Zm91 (s : ByteArray) {w n : Nat} (hw : w ≤ 64) (hn : n ≤ 65536) (hfit : n * w ≤ 8 * s.size) : ∀ (d i m : Nat), d = n - i → i ≤ n → d < m →
    Zva.l1 m s (w : Int) (n : Int) (i : Int) ((List.range i).map (fun k => wordS s k w) ++ List.replicate (n - i) (0 : Int)) = some ((List.range n).map (fun k => wordS s k w), 0) := by
  intro d
  induction d with
  | zero =>
    intro i m hd hi hm
    have : i = n := by omega
    subst this
    obtain ⟨m, rfl⟩ : ∃ k, m = k + 1 := ⟨m - 1, by omega⟩
    show Zva.S1 _ _ _ _ _ _ = _
    unfold Zva.S1
    rw [lt_f (by omega), cond_false, Nat.sub_self, List.replicate_zero, List.append_nil]
  | succ d ih =>
    intro i m hd hi hm
    obtain ⟨m, rfl⟩ : ∃ k, m = k + 1 := ⟨m - 1, by omega⟩
    show Zva.S1 (Zva.l1 m) _ _ _ _ _ = _
    unfold Zva.S1
    have hf : (i + 1) * w ≤ n * w := Nat.mul_le_mul_right _ (by omega)
    rw [lt_t (by omega), cond_true, Zs8 s hw (by omega) (by omega), Option.bind_some, Zt (by rw [Zd]; simp; omega), cond_true, Zv (by omega)]
    have := ih (i + 1) m (by omega) (by omega) (by omega)
    rw [show (i : Int) + 1 = ((i + 1 : Nat) : Int) by omega, ← this]
    congr 1
    rw [show ((i : Int)).toNat = i from rfl, List.set_append_right _ _ (by simp), List.length_map, List.length_range, Nat.sub_self, show n - i = (n - (i + 1)) + 1 by omega, List.replicate_succ, List.set_cons_zero, List.range_succ, List.map_append,
      List.append_assoc]
    rfl
theorem Zt8 (s : ByteArray) {w n : Nat} (hw : w ≤ 64) (hn : n ≤ 65536) : Zva s (n : Int) (w : Int) =
    some (if s.size = (n * w + 7) / 8 then (if n * w % 8 = 0 ∨ byteAt s ((s.size - 1 : Nat) : Int) < 2 ^ (n * w % 8) then ((List.range n).map (fun k => wordS s k w), 0) else ([], 20)) else ([], 20)) := by
  show Zva.S (Zva.t0 fu) s _ _ = _
  unfold Zva.S
  have hb : n * w ≤ 65536 * 64 := Nat.mul_le_mul hn hw
  have e : (n : Int) * (w : Int) = ((n * w : Nat) : Int) := by simp
  rw [lt_f (by omega), cond_false, lt_f (by omega), cond_false, lt_f (by omega), cond_false, lt_f (by omega), cond_false, Zdu _ _ hn hw, Zcb]
  by_cases hs : s.size = (n * w + 7) / 8
  · rw [ne_f (by omega), cond_false, if_pos hs, Zxj (by rw [e]; omega), e, and7 (by omega)]
    have hj : n * w ≤ 8 * s.size → Zva.t0 fu s (n : Int) (w : Int) = some ((List.range n).map (fun k => wordS s k w), 0) := fun hf => by
      show Zva.S0 (Zva.l1 _) s (n : Int) (w : Int) = _
      unfold Zva.S0
      rw [le_t (by omega), Zea (by omega)]
      have := Zm91 s hw hn hf n 0 18446744073709551615 (by omega) (by omega) (by omega)
      rw [Nat.sub_zero] at this
      exact this
    rcases Nat.eq_zero_or_pos (n * w % 8) with h0 | hpos
    · rw [lt_f (by omega), cond_false, if_pos (.inl h0)]
      exact hj (by omega)
    · rw [lt_t (by omega), cond_true, Zdd (by omega), Zt (by omega), cond_true, le_t (by omega), cond_true]
      have hsz : ((s.size : Nat) : Int) - 1 = ((s.size - 1 : Nat) : Int) := by omega
      have hby := Zml s ((s.size - 1 : Nat) : Int)
      have hshr : shrI .u8 (byteAt s ((s.size - 1 : Nat) : Int)) ((n * w % 8 : Nat) : Int) = byteAt s ((s.size - 1 : Nat) : Int) / 2 ^ (n * w % 8) := by
        unfold shrI
        have : min ((n * w % 8 : Nat) : Int).toNat (IntKind.bits .u8) = n * w % 8 := by show min (n * w % 8) 8 = _; omega
        rw [this, Int.fdiv_eq_ediv_of_nonneg]
        exact Int.le_of_lt (Zgc _)
      have hp := Zgc (n * w % 8)
      rw [hsz, hshr]
      by_cases hlt : byteAt s ((s.size - 1 : Nat) : Int) < 2 ^ (n * w % 8)
      · rw [Int.ediv_eq_zero_of_lt hby.1 hlt, lt_f (by omega), cond_false, if_pos (.inr hlt)]
        exact hj (by omega)
      · have h1 : 1 ≤ byteAt s ((s.size - 1 : Nat) : Int) / 2 ^ (n * w % 8) := (Int.le_ediv_iff_mul_le hp).2 (by omega)
        rw [lt_t (by omega), cond_true, if_neg (by omega)]
  · rw [ne_t (by omega), cond_true, if_neg hs]
end Go.AM.Pure
end

section
/- What was packed is taken as it was. -/
namespace Go.AM.Pure
open Go.AM
theorem Zq5 : ∀ (l : List Bool) (k : Nat), bit (numOf l) k = l.getD k false
  | [], k => by show bit 0 k = _; rw [Zm0]; rfl
  | b :: l, k => by
    rw [Zet]
    have h := Zvx (V := if b then 1 else 0) (c := numOf l) (a := 1) (by cases b <;> decide) (by cases b <;> decide) k
    rw [show (2 : Int) * numOf l = numOf l * 2 ^ 1 by rw [Int.pow_succ, Int.pow_zero]; omega, h]
    cases k with
    | zero => cases b <;> rfl
    | succ k => rw [if_neg (by omega), show k + 1 - 1 = k by omega, Zq5 l k]; rfl
theorem Zjm : ∀ (n : Nat) (s : List Bool) (j : Nat), j < n → (chop n s)[j]? = some (numOf ((s.drop (8 * j)).take 8))
  | 0, _, _, h => by omega
  | n + 1, s, 0, _ => by rw [Znh]; rfl
  | n + 1, s, j + 1, h => by
    rw [Znh, List.getElem?_cons_succ, Zjm n _ j (by omega), List.drop_drop]
    congr 4
    omega
theorem Zh0 {w : Nat} : ∀ (l : List Int) (k i : Nat) (h : k < l.length), i < w → (strm l w)[k * w + i]? = some (bit l[k] i)
  | [], _, _, h, _ => by simp at h
  | x :: l, 0, i, _, hi => by
    unfold strm
    rw [List.flatMap_cons, Nat.zero_mul, Nat.zero_add, List.getElem?_append_left (by rw [Zte]; exact hi)]
    unfold wb
    simp [hi]
  | x :: l, k + 1, i, h, hi => by
    have := Zh0 l k i (by simpa using h) hi
    unfold strm at this ⊢
    rw [List.flatMap_cons, List.getElem?_append_right (by rw [Zte, Nat.add_mul]; omega), Zte, show (k + 1) * w + i - w = k * w + i by rw [Nat.add_mul]; omega]
    simpa using this
theorem Zao1 {l : List Int} {w : Nat} {s : ByteArray} (hs : Zf s = packB l w) {p : Nat} (hp : p < l.length * w) : sb s p = (strm l w).getD p false := by
  unfold sb
  have hj : p / 8 < (l.length * w + 7) / 8 := by omega
  have hsz : s.size = (l.length * w + 7) / 8 := by rw [← Zja, hs, Zsd]
  have h1 := Zne s (p / 8) (by omega)
  rw [hs] at h1
  unfold packB at h1
  rw [Zjm _ _ _ hj] at h1
  rw [← Option.some.inj h1, Zq5, List.getD_eq_getElem?_getD, List.getD_eq_getElem?_getD, List.getElem?_take, if_pos (by omega), List.getElem?_drop]
  congr 2
  omega
theorem wrap_small {x : Int} (h : in64 x) {w : Nat} (hw : w ≤ 64) (hx : x % 18446744073709551616 < 2 ^ w) : IntKind.wrap .i64 (x % 2 ^ w) = x := by
  have h1 : x % 2 ^ w = x % 18446744073709551616 := by
    have hd := Int.emod_emod_of_dvd x (Zuq hw)
    rw [← pow64] at hd
    rw [← hd]
    exact Int.emod_eq_of_lt (by omega) hx
  rw [h1, Zri, Zgg h]
theorem Zez {l : List Int} {w : Nat} (hw : w ≤ 64) {s : ByteArray} (hs : Zf s = packB l w) (h64 : ∀ x ∈ l, in64 x) (hv : ∀ x ∈ l, x % 18446744073709551616 < 2 ^ w) {k : Nat} (hk : k < l.length) : wordS s k w = l[k] := by
  unfold wordS
  have hmem : l[k] ∈ l := List.getElem_mem hk
  have : (List.range w).map (fun i => sb s (k * w + i)) = wb l[k] w := by
    unfold wb
    apply List.map_congr_left
    intro i hi
    have hi := List.mem_range.1 hi
    have hle : (k + 1) * w ≤ l.length * w := Nat.mul_le_mul_right _ hk
    rw [Nat.add_mul] at hle
    rw [Zao1 hs (by omega), List.getD_eq_getElem?_getD, Zh0 l k i hk hi]
    rfl
  rw [this, Zkm, wrap_small (h64 _ hmem) hw (hv _ hmem)]
theorem Zbn {l : List Int} {w : Nat} (hw : w ≤ 64) (hl : l.length ≤ 65536) (h64 : ∀ x ∈ l, in64 x) (hv : ∀ x ∈ l, x % 18446744073709551616 < 2 ^ w) {s : ByteArray} (hs : Zf s = packB l w) :
    Zva s (l.length : Int) (w : Int) = some (l, 0) := by
  have hsz : s.size = (l.length * w + 7) / 8 := by rw [← Zja, hs, Zsd]
  have hlast : l.length * w % 8 = 0 ∨ byteAt s ((s.size - 1 : Nat) : Int) < 2 ^ (l.length * w % 8) := by
    rcases Nat.eq_zero_or_pos (l.length * w % 8) with h | h
    · exact .inl h
    · right
      have h1 := Zne s (s.size - 1) (by omega)
      rw [hs] at h1
      unfold packB at h1
      rw [Zjm _ _ _ (by omega)] at h1
      rw [← Option.some.inj h1]
      have hb := Zbe (((strm l w).drop (8 * (s.size - 1))).take 8)
      have hlen : (((strm l w).drop (8 * (s.size - 1))).take 8).length = l.length * w % 8 := by
        rw [List.length_take, List.length_drop, Zlg]
        omega
      rw [hlen] at hb
      exact hb.2
  rw [Zt8 s hw hl, if_pos hsz, if_pos hlast]
  congr 2
  apply List.ext_getElem
  · simp
  · intro i h1 h2
    rw [List.getElem_map, List.getElem_range]
    exact Zez hw hs h64 hv h2
end Go.AM.Pure
end

section
/- nulls: a mask and the other cells; put together again. -/
namespace Go.AM.Pure
open Go.AM
abbrev isN (c : Cell) : Bool := Zcg c
def restC (l : List Cell) : List Cell := l.filter fun c => !isN c
def nbits (l : List Cell) : List Int := l.map fun c => if isN c then 1 else 0
def maskL (l : List Cell) : List Int := if l.any isN then packB (nbits l) 1 else []
theorem Zdi {α : Type} {c : Bool} {m : Option α} {k : α → Bool} {x : α} (hc : c = true) (hm : m = some x) (hk : k x = true) : Zdn c m k = some x := by
  unfold Zdn
  rw [hc, hm]
  show (bif k x then some x else none) = _
  rw [hk]
  rfl
theorem Zq8 {α : Type} {l : List α} {i : Nat} (h : i < l.length) (z : α) : List.getD l ((i : Int)).toNat z = l[i] := by
  rw [show ((i : Int)).toNat = i from rfl, List.getD_eq_getElem?_getD, List.getElem?_eq_getElem h]
  rfl
theorem Zpg2 (l : List Cell) (hl : l.length < 4611686018427387904) (h0 : 0 < l.length) : ∀ (d i n : Nat), d = l.length - i → i ≤ l.length → d < n → (∀ j (h : j < l.length), j < i → isN l[j] = false) →
    ∃ r, Ze.l0 n (l.length : Int) (i : Int) l = some (r, l) ∧
      ((r = -1 ∧ ∀ j (h : j < l.length), isN l[j] = false) ∨ ∃ k : Nat, r = (k : Int) ∧ ∃ h : k < l.length, isN l[k] = true ∧ ∀ j (h : j < l.length), j < k → isN l[j] = false) := by
  intro d
  induction d with
  | zero =>
    intro i n hd hi hn ha
    have : i = l.length := by omega
    subst this
    obtain ⟨n, rfl⟩ : ∃ k, n = k + 1 := ⟨n - 1, by omega⟩
    refine ⟨-1, ?_, .inl ⟨rfl, fun j h => ha j h h⟩⟩
    show Ze.S0 _ _ _ _ = _
    unfold Ze.S0
    rw [lt_f (by omega), cond_false, decide_eq_true h0, cond_true]
  | succ d ih =>
    intro i n hd hi hn ha
    obtain ⟨n, rfl⟩ : ∃ k, n = k + 1 := ⟨n - 1, by omega⟩
    have hlt : i < l.length := by omega
    have hS : Ze.l0 (n + 1) (l.length : Int) (i : Int) l = (bif isN l[i] then some ((i : Int), l) else Ze.l0 n (l.length : Int) ((i + 1 : Nat) : Int) l) := by
      show Ze.S0 _ _ _ _ = _
      unfold Ze.S0
      rw [lt_t (by omega), cond_true, Zt (by rw [Zd]; omega), cond_true, Zq8 hlt, decide_eq_true h0, cond_true, Zv (by omega)]
      rfl
    rw [hS]
    cases hq : isN l[i] with
    | true => exact ⟨(i : Int), rfl, .inr ⟨i, rfl, hlt, hq, ha⟩⟩
    | false =>
      obtain ⟨r, h1, h2⟩ := ih (i + 1) n (by omega) (by omega) (by omega) fun j h hj => by
        by_cases hji : j = i
        · subst hji; exact hq
        · exact ha j h (by omega)
      exact ⟨r, h1, h2⟩
theorem Zdt (l : List Cell) (c : Cell) : restC (l ++ [c]) = restC l ++ (if isN c then [] else [c]) := by
  unfold restC
  rw [List.filter_append]
  cases h : isN c <;> simp [h]
theorem Zkf (l : List Cell) : (restC l).length ≤ l.length := List.length_filter_le _ _
theorem take_one {α : Type} {l : List α} {i : Nat} (h : i < l.length) : l.take (i + 1) = l.take i ++ [l[i]] := by
  rw [List.take_add_one, List.getElem?_eq_getElem h]
  rfl
theorem Zc01 (L : List Cell) (hL : L.length < 4611686018427387904) (h0 : 0 < L.length) : ∀ (d j n : Nat) (t : List Cell), d = L.length - j → j ≤ L.length → d < n → t.length = L.length → t.take (restC (L.take j)).length = restC (L.take j) → t.drop j = L.drop j →
    ∃ t', Zc.l0 (Zc.t1 fu) n ((restC (L.take j)).length : Int) (j : Int) t = some (((restC L).length : Int), t') ∧ t'.length = L.length ∧ t'.take (restC L).length = restC L := by
  intro d
  induction d with
  | zero =>
    intro j n t hd hj hn ht h1 h2
    have : j = L.length := by omega
    subst this
    obtain ⟨n, rfl⟩ : ∃ k, n = k + 1 := ⟨n - 1, by omega⟩
    rw [List.take_length] at h1 ⊢
    have hle := Zkf L
    have hrep : ((Int.toNat (lenL t)) - (Int.toNat ((restC L).length : Int))) = L.length - (restC L).length := by rw [Zd, ht]; rfl
    refine ⟨splA t (restC L).length (List.replicate (L.length - (restC L).length) ((0 : Int), ((0 : Int), eB))), ?_, ?_, ?_⟩
    · show Zc.S0 Zc.S1 _ _ _ _ = _
      unfold Zc.S0
      rw [lt_f (by rw [Zd]; omega), cond_false]
      unfold Zc.S1
      rw [hrep, show Int.toNat ((restC L).length : Int) = (restC L).length from rfl, Zmc (by rw [Zd]; omega), cond_true]
      have hlen : (splA t (restC L).length (List.replicate (L.length - (restC L).length) ((0 : Int), ((0 : Int), eB)))).length = L.length := by
        unfold splA
        simp
        omega
      rw [Zmc (by rw [Zd, hlen]; omega), cond_true, hlen, decide_eq_true h0, cond_true, Nat.sub_zero]
    · unfold splA; simp; omega
    · unfold splA
      rw [List.take_append_of_le_length (by rw [List.length_take]; omega), List.take_take, Nat.min_self, h1]
  | succ d ih =>
    intro j n t hd hj hn ht h1 h2
    obtain ⟨n, rfl⟩ : ∃ k, n = k + 1 := ⟨n - 1, by omega⟩
    have hlt : j < L.length := by omega
    have hle := Zkf (L.take j)
    rw [List.length_take] at hle
    have htj : t[j]'(by omega) = L[j] := by
      have : (t.drop j)[0]? = (L.drop j)[0]? := by rw [h2]
      rw [List.getElem?_drop, List.getElem?_drop, Nat.add_zero, List.getElem?_eq_getElem (show j < t.length by omega), List.getElem?_eq_getElem hlt] at this
      exact Option.some.inj this
    show ∃ t', Zc.S0 _ _ _ _ _ = _ ∧ _
    unfold Zc.S0
    rw [lt_t (by rw [Zd]; omega), cond_true, Zt (by rw [Zd]; omega), cond_true, Zq8 (show j < t.length by omega), htj]
    have hsn := Zdt (L.take j) L[j]
    rw [← take_one hlt] at hsn
    cases hq : isN L[j] with
    | true =>
      rw [show Zai L[j] = true from hq, Bool.not_true, cond_false, Zv (by omega)]
      rw [hq, if_pos rfl, List.append_nil] at hsn
      have := ih (j + 1) n t (by omega) (by omega) (by omega) ht (by rw [hsn]; exact h1) (by rw [← List.drop_drop, ← List.drop_drop, h2])
      rw [hsn] at this
      exact this
    | false =>
      rw [show Zai L[j] = false from hq, Bool.not_false, cond_true, Zt (by rw [Zd]; omega), cond_true, Zv (by omega), Zv (by omega), show Int.toNat ((restC (L.take j)).length : Int) = (restC (L.take j)).length from rfl]
      rw [hq, if_neg (by decide)] at hsn
      have := ih (j + 1) n (t.set (restC (L.take j)).length L[j]) (by omega) (by omega) (by omega) (by rw [List.length_set]; exact ht) (by
        rw [hsn, List.length_append, List.length_singleton, take_one (by rw [List.length_set]; omega), List.take_set_of_le (Nat.le_refl _), h1, List.getElem_set_self])
        (by rw [List.drop_set_of_lt (by omega), ← List.drop_drop, ← List.drop_drop, h2])
      rw [hsn, List.length_append, List.length_singleton] at this
      exact this
theorem del_eq (L : List Cell) (hL : L.length < 4611686018427387904) (h0 : 0 < L.length) :
    ∃ t', Zc L = some (((restC L).length : Int), t') ∧ t'.length = L.length ∧ t'.take (restC L).length = restC L := by
  show ∃ t', Zc.S (Zc.l0 (Zc.t1 fu) fu) L = _ ∧ _
  unfold Zc.S
  obtain ⟨r, h1, h2⟩ := Zpg2 L hL h0 L.length 0 fu (by omega) (by omega) (by unfold fu; omega) fun j h hj => by omega
  have h1' : Ze L = some (r, L) := h1
  rw [Zdi (x := (r, L)) (by rw [decide_eq_true h0]; rfl) h1' (by simp), Option.bind_some]
  dsimp only
  have hall : ∀ k, (∀ j (h : j < L.length), j < k → isN L[j] = false) → restC (L.take k) = L.take k := fun k hk => by
    unfold restC
    rw [List.filter_eq_self]
    intro c hc
    obtain ⟨i, hi, rfl⟩ := List.mem_iff_getElem.1 hc
    rw [List.length_take] at hi
    rw [List.getElem_take, hk i (by omega) (by omega)]
    rfl
  rcases h2 with ⟨rfl, h2⟩ | ⟨k, rfl, hk, hq, h2⟩
  · have : restC L = L := by
      have := hall L.length fun j h _ => h2 j h
      rwa [List.take_length] at this
    rw [eq_t rfl, cond_true, decide_eq_true h0, cond_true]
    exact ⟨L, by rw [this, Zd], rfl, by rw [this, List.take_length]⟩
  · rw [eq_f (by omega), cond_false, Zv (by omega)]
    have hrk := hall k h2
    have hsn := Zdt (L.take k) L[k]
    rw [← take_one hk, hq, if_pos rfl, List.append_nil, hrk] at hsn
    have := Zc01 L hL h0 (L.length - (k + 1)) (k + 1) fu L rfl (by omega) (by unfold fu; omega) rfl (by rw [hsn, List.length_take, Nat.min_eq_left (Nat.le_of_lt hk)]) rfl
    rw [hsn, List.length_take, Nat.min_eq_left (Nat.le_of_lt hk)] at this
    exact this
theorem Zxc (l : List Cell) : (nbits l).length = l.length := by unfold nbits; simp
theorem Zo5 {l : List Cell} {i : Nat} (h : i < l.length) : (nbits l)[i]'(by rw [Zxc]; exact h) = if isN l[i] then 1 else 0 := by unfold nbits; simp
theorem Zan {l : List Cell} : ∀ x ∈ nbits l, x = 0 ∨ x = 1 := fun x hx => by
  unfold nbits at hx
  obtain ⟨c, _, rfl⟩ := List.mem_map.1 hx
  cases isN c
  · exact .inl rfl
  · exact .inr rfl
theorem Zzn1 (l : List Cell) (hl : l.length ≤ 65536) : Zfa (nbits l) 1 = some (ofBytes (packB (nbits l) 1), 0) := by
  obtain ⟨v, h1, h2, h3, h4⟩ := Zkk (nbits l) (by rw [Zxc]; omega)
  refine Zpj (nbits l) (w := 1) (by omega) (by rw [Zxc]; exact hl) h1 ?_
  rcases h4 with h4 | ⟨x, hx, h4⟩
  · omega
  · have h5 : (2 : Int) ^ (v - 1) < 2 ^ 1 := by
      rcases Zan x hx with rfl | rfl
      · omega
      · have e : (1 : Int) % 18446744073709551616 = 1 := rfl
        rw [e] at h4
        omega
    have := Zco h5
    omega
theorem Zbk1 (l : List Cell) (hl : l.length ≤ 65536) (lo n0 : Nat) (t11 : List Cell) : ∀ (d i n : Nat), d = l.length - i → i ≤ l.length → d < n →
    Zma.l0 (Zma.t1 fu) n lo n0 l (l.length : Int) (i : Int) t11 ((nbits l).take i ++ List.replicate (l.length - i) (0 : Int)) = some (ofBytes (packB (nbits l) 1), List.take n0 (List.drop lo t11)) := by
  intro d
  induction d with
  | zero =>
    intro i n hd hi hn
    have : i = l.length := by omega
    subst this
    obtain ⟨n, rfl⟩ : ∃ k, n = k + 1 := ⟨n - 1, by omega⟩
    show Zma.S0 Zma.S1 _ _ _ _ _ _ _ _ = _
    unfold Zma.S0
    rw [lt_f (by omega), cond_false]
    unfold Zma.S1
    rw [Nat.sub_self, List.replicate_zero, List.append_nil, List.take_of_length_le (by rw [Zxc]; exact Nat.le_refl _), Zzn1 l hl, Option.bind_some]
  | succ d ih =>
    intro i n hd hi hn
    obtain ⟨n, rfl⟩ : ∃ k, n = k + 1 := ⟨n - 1, by omega⟩
    have hlt : i < l.length := by omega
    show Zma.S0 _ (Zma.l0 (Zma.t1 fu) n) _ _ _ _ _ _ _ = _
    unfold Zma.S0
    rw [lt_t (by omega), cond_true, Zt (by rw [Zd]; omega), cond_true, Zba hlt]
    have hnext : ∀ b : Int, (nbits l)[i]'(by rw [Zxc]; exact hlt) = b → (nbits l).take i ++ b :: List.replicate (l.length - (i + 1)) (0 : Int) = (nbits l).take (i + 1) ++ List.replicate (l.length - (i + 1)) (0 : Int) := fun b hb => by
      rw [take_one (by rw [Zxc]; exact hlt), hb, List.append_assoc]
      rfl
    have hrep : List.replicate (l.length - i) (0 : Int) = 0 :: List.replicate (l.length - (i + 1)) (0 : Int) := by rw [show l.length - i = (l.length - (i + 1)) + 1 by omega, List.replicate_succ]
    have := ih (i + 1) n (by omega) (by omega) (by omega)
    have hg := Zo5 hlt
    cases hq : isN l[i] with
    | true =>
      rw [hq, if_pos rfl] at hg
      rw [show Zcg l[i] = true from hq, cond_true, Zt (by rw [Zd, List.length_append, List.length_take, Zxc, List.length_replicate]; omega), cond_true, Zv (by omega), hrep, show ((i : Int)).toNat = i from rfl, List.set_append_right _ _ (by rw [List.length_take]; omega),
        List.length_take, Zxc, Nat.min_eq_left (Nat.le_of_lt hlt), Nat.sub_self, List.set_cons_zero, hnext 1 hg]
      exact this
    | false =>
      rw [hq, if_neg (by decide)] at hg
      rw [show Zcg l[i] = false from hq, cond_false, Zv (by omega), hrep, hnext 0 hg]
      exact this
theorem Zp5 {l : List Cell} (h : (restC l).length = l.length) : restC l = l ∧ l.any isN = false := by
  have h1 : ∀ c ∈ l, (!isN c) = true := List.length_filter_eq_length_iff.1 h
  refine ⟨List.filter_eq_self.2 h1, List.any_eq_false.2 fun c hc => ?_⟩
  have := h1 c hc
  simpa using this
theorem Zqq (l : List Cell) (hl : l.length ≤ 65536) (h0 : 0 < l.length) : Zma l = some (ofBytes (maskL l), restC l) := by
  show Zma.S (Zma.l0 (Zma.t1 fu) fu) l = _
  unfold Zma.S
  have hc : Zng 32 l = some l := by
    unfold Zng
    rw [decide_eq_true h0, Zea (by omega)]
    rfl
  obtain ⟨t', h1, h2, h3⟩ := del_eq l (by omega) h0
  rw [hc, Option.bind_some, Zdi (x := (((restC l).length : Int), t')) (by rw [decide_eq_true h0]; rfl) h1 (by simp [h2]), Option.bind_some]
  dsimp only
  rw [show Int.toNat ((restC l).length : Int) = (restC l).length from rfl, List.drop_zero, Zd]
  have hle := Zkf l
  by_cases heq : (restC l).length = l.length
  · obtain ⟨h4, h5⟩ := Zp5 heq
    rw [eq_t (by omega), cond_true, h3]
    unfold maskL
    rw [h5]
    rfl
  · have hany : l.any isN = true := by
      cases hq : l.any isN with
      | true => rfl
      | false =>
        have : restC l = l := List.filter_eq_self.2 fun c hc => by
          have := List.any_eq_false.1 hq c hc
          simpa using this
        rw [this] at heq
        exact absurd rfl heq
    rw [eq_f (by omega), cond_false, le_t (by omega), Zea (by show l.length * 8 ≤ _; omega)]
    have := Zbk1 l hl 0 (restC l).length t' l.length 0 fu (by omega) (by omega) (by unfold fu; omega)
    rw [Nat.sub_zero, List.drop_zero, h3] at this
    unfold maskL
    rw [hany, if_pos rfl]
    exact this
end Go.AM.Pure
end

section
/- nulls: Count and Join of what Split gave. -/
namespace Go.AM.Pure
open Go.AM
theorem Zwn1 (l : List Int) (hl : l.length < 4611686018427387904) (v : Int) : ∀ (d i n : Nat), d = l.length - i → i ≤ l.length → d < n → (∀ j (h : j < l.length), j < i → l[j] ≠ v) →
    ∃ r, Zoa.l0 n l v (l.length : Int) (i : Int) = some r ∧ leI 0 r = l.any (fun x => decide (x = v)) := by
  intro d
  induction d with
  | zero =>
    intro i n hd hi hn ha
    have : i = l.length := by omega
    subst this
    obtain ⟨n, rfl⟩ : ∃ k, n = k + 1 := ⟨n - 1, by omega⟩
    refine ⟨-1, ?_, ?_⟩
    · show Zoa.S0 _ _ _ _ _ = _
      unfold Zoa.S0
      rw [lt_f (by omega), cond_false]
    · rw [show leI 0 (-1) = false from rfl]
      symm
      rw [List.any_eq_false]
      intro x hx
      obtain ⟨j, hj, rfl⟩ := List.mem_iff_getElem.1 hx
      simpa using ha j hj hj
  | succ d ih =>
    intro i n hd hi hn ha
    obtain ⟨n, rfl⟩ : ∃ k, n = k + 1 := ⟨n - 1, by omega⟩
    have hlt : i < l.length := by omega
    show ∃ r, Zoa.S0 (Zoa.l0 n) _ _ _ _ = _ ∧ _
    unfold Zoa.S0
    rw [lt_t (by omega), cond_true, Zt (by rw [Zd]; omega), cond_true, Zba hlt]
    by_cases hq : v = l[i]
    · rw [eq_t hq, cond_true]
      refine ⟨_, rfl, ?_⟩
      rw [le_t (by omega)]
      symm
      rw [List.any_eq_true]
      exact ⟨l[i], List.getElem_mem hlt, by simp [hq]⟩
    · rw [eq_f hq, cond_false, Zv (by omega)]
      exact ih (i + 1) n (by omega) (by omega) (by omega) fun j h hj => by
        by_cases hji : j = i
        · subst hji; exact fun h => hq h.symm
        · exact ha j h (by omega)
theorem Zp8 (l : List Int) (hl : l.length < 4611686018427387904) (v : Int) : Zif l v = some (l.any fun x => decide (x = v)) := by
  unfold Zif
  obtain ⟨r, h1, h2⟩ := Zwn1 l hl v l.length 0 fu (by omega) (by omega) (by unfold fu; omega) fun j h hj => by omega
  have : Zoa l v = some r := h1
  rw [this, Option.bind_some, h2]
theorem Zxj1 (l : List Cell) (hl : l.length < 4611686018427387904) : ∀ (d i n : Nat), d = l.length - i → i ≤ l.length → d < n → (∀ j (h : j < l.length), j < i → isN l[j] = false) →
    ∃ r, Zm.l0 n l (l.length : Int) (i : Int) = some r ∧ leI 0 r = l.any isN := by
  intro d
  induction d with
  | zero =>
    intro i n hd hi hn ha
    have : i = l.length := by omega
    subst this
    obtain ⟨n, rfl⟩ : ∃ k, n = k + 1 := ⟨n - 1, by omega⟩
    refine ⟨-1, ?_, ?_⟩
    · show Zm.S0 _ _ _ _ = _
      unfold Zm.S0
      rw [lt_f (by omega), cond_false]
    · rw [show leI 0 (-1) = false from rfl]
      symm
      rw [List.any_eq_false]
      intro x hx
      obtain ⟨j, hj, rfl⟩ := List.mem_iff_getElem.1 hx
      rw [ha j hj hj]
      decide
  | succ d ih =>
    intro i n hd hi hn ha
    obtain ⟨n, rfl⟩ : ∃ k, n = k + 1 := ⟨n - 1, by omega⟩
    have hlt : i < l.length := by omega
    show ∃ r, Zm.S0 (Zm.l0 n) _ _ _ = _ ∧ _
    unfold Zm.S0
    rw [lt_t (by omega), cond_true, Zt (by rw [Zd]; omega), cond_true, Zba hlt]
    cases hq : isN l[i] with
    | true =>
      rw [show Zcg l[i] = true from hq, cond_true]
      refine ⟨_, rfl, ?_⟩
      rw [le_t (by omega)]
      symm
      rw [List.any_eq_true]
      exact ⟨l[i], List.getElem_mem hlt, hq⟩
    | false =>
      rw [show Zcg l[i] = false from hq, cond_false, Zv (by omega)]
      exact ih (i + 1) n (by omega) (by omega) (by omega) fun j h hj => by
        by_cases hji : j = i
        · subst hji; exact hq
        · exact ha j h (by omega)
theorem Zn7 (l : List Cell) (hl : l.length < 4611686018427387904) : Zec l = some (l.any isN) := by
  unfold Zec
  obtain ⟨r, h1, h2⟩ := Zxj1 l hl l.length 0 fu (by omega) (by omega) (by unfold fu; omega) fun j h hj => by omega
  have : Zm l = some r := h1
  rw [this, Option.bind_some, h2]
theorem Zxn1 (l : List Cell) : (nbits l).any (fun x => decide (x = 1)) = l.any isN := by
  unfold nbits
  rw [List.any_map]
  congr 1
  funext c
  show decide ((if isN c = true then (1 : Int) else 0) = 1) = isN c
  cases isN c <;> rfl
theorem Zyj1 {l : List Cell} (h : l.any isN = false) : nbits l = List.replicate l.length (0 : Int) := by
  rw [List.eq_replicate_iff]
  refine ⟨Zxc l, fun x hx => ?_⟩
  unfold nbits at hx
  obtain ⟨c, hc, rfl⟩ := List.mem_map.1 hx
  have := List.any_eq_false.1 h c hc
  rw [if_neg this]
theorem Zcu (l : List Cell) (hl : l.length ≤ 65536) (h0 : 0 < l.length) {s : ByteArray} (hs : Zf s = maskL l) : Zsl s (l.length : Int) = some (nbits l, 0) := by
  unfold Zsl
  rw [lt_f (by omega), cond_false, lt_f (by omega), cond_false]
  unfold maskL at hs
  cases hany : l.any isN with
  | false =>
    rw [hany, if_neg (by decide)] at hs
    have : s = eB := size0.2 (by rw [← Zja, hs]; rfl)
    rw [eqS_t this, cond_true, le_t (by omega), Zea (by show l.length * 8 ≤ _; omega)]
    show some (List.replicate l.length (0 : Int), (0 : Int)) = _
    rw [Zyj1 hany]
  | true =>
    rw [hany, if_pos rfl] at hs
    have hne : s ≠ eB := fun h => by
      have := size0.1 h
      rw [← Zja, hs, Zsd, Zxc] at this
      omega
    rw [eqS_f hne, cond_false]
    have := Zbn (l := nbits l) (w := 1) (by omega) (by rw [Zxc]; exact hl) (fun x hx => by
      unfold in64
      rcases Zan x hx with rfl | rfl <;> omega) (fun x hx => by
      rcases Zan x hx with rfl | rfl <;> decide) hs
    rw [Zxc] at this
    rw [show (1 : Int) = ((1 : Nat) : Int) from rfl, this, Option.bind_some]
    dsimp only
    rw [ne_f rfl, cond_false, Zp8 _ (by rw [Zxc]; omega), Option.bind_some]
    rw [show ((1 : Nat) : Int) = 1 from rfl, Zxn1, hany]
    rfl
theorem nsum (l : List Cell) : (nbits l).foldr (· + ·) 0 = ((l.length - (restC l).length : Nat) : Int) := by
  induction l with
  | nil => rfl
  | cons c l ih =>
    have hle := Zkf l
    have e1 : nbits (c :: l) = (if isN c then 1 else 0) :: nbits l := rfl
    have e2 : restC (c :: l) = if isN c then restC l else c :: restC l := by
      unfold restC
      cases h : isN c <;> simp [h]
    rw [e1, e2, List.foldr_cons, ih]
    cases isN c
    · rw [if_neg (by decide), if_neg (by decide), List.length_cons, List.length_cons]; omega
    · rw [if_pos rfl, if_pos rfl, List.length_cons]; omega
theorem Zzj1 (b : List Int) (hb : b.length ≤ 65536) (hm : ∀ x ∈ b, x = 0 ∨ x = 1) (e : Int) : ∀ (d i n : Nat) (k : Int), d = b.length - i → i ≤ b.length → d < n → 0 ≤ k → k ≤ i →
    Zwb.l0 n e k b (b.length : Int) (i : Int) = some (k + (b.drop i).foldr (· + ·) 0, e) := by
  intro d
  induction d with
  | zero =>
    intro i n k hd hi hn h1 h2
    have : i = b.length := by omega
    subst this
    obtain ⟨n, rfl⟩ : ∃ k, n = k + 1 := ⟨n - 1, by omega⟩
    show Zwb.S0 _ _ _ _ _ _ = _
    unfold Zwb.S0
    rw [lt_f (by omega), cond_false, List.drop_length]
    simp
  | succ d ih =>
    intro i n k hd hi hn h1 h2
    obtain ⟨n, rfl⟩ : ∃ k, n = k + 1 := ⟨n - 1, by omega⟩
    have hlt : i < b.length := by omega
    show Zwb.S0 (Zwb.l0 n) _ _ _ _ _ = _
    unfold Zwb.S0
    have hx := hm b[i] (List.getElem_mem hlt)
    rw [lt_t (by omega), cond_true, Zt (by rw [Zd]; omega), cond_true, Zba hlt, Zv (by omega), Zv (by omega)]
    have := ih (i + 1) n (k + b[i]) (by omega) (by omega) (by omega) (by omega) (by omega)
    rw [show (i : Int) + 1 = ((i + 1 : Nat) : Int) by omega, this, List.drop_eq_getElem_cons hlt, List.foldr_cons, Int.add_assoc]
theorem Zpq (l : List Cell) (hl : l.length ≤ 65536) (h0 : 0 < l.length) {s : ByteArray} (hs : Zf s = maskL l) : Zwb s (l.length : Int) = some (((l.length - (restC l).length : Nat) : Int), 0) := by
  show Zwb.S (Zwb.l0 fu) s _ = _
  unfold Zwb.S
  rw [Zcu l hl h0 hs, Option.bind_some]
  dsimp only
  have := Zzj1 (nbits l) (by rw [Zxc]; exact hl) Zan 0 (nbits l).length 0 fu 0 (by omega) (by omega) (by unfold fu; rw [Zxc]; omega) (by omega) (by omega)
  rw [List.drop_zero, nsum, Int.zero_add] at this
  exact this
theorem Zyn1 (l : List Cell) (hl : l.length ≤ 65536) (hz : ∀ c ∈ l, isN c = true → c = (0, 0, eB)) : ∀ (d i n : Nat), d = l.length - i → i ≤ l.length → d < n →
    Zlc.l0 n (restC (l.drop i)) (nbits l) (l.length : Int) (i : Int) (l.take i ++ List.replicate (l.length - i) ((0 : Int), ((0 : Int), eB))) = some (l, 0) := by
  intro d
  induction d with
  | zero =>
    intro i n hd hi hn
    have : i = l.length := by omega
    subst this
    obtain ⟨n, rfl⟩ : ∃ k, n = k + 1 := ⟨n - 1, by omega⟩
    show Zlc.S0 _ _ _ _ _ _ = _
    unfold Zlc.S0
    rw [lt_f (by omega), cond_false, Nat.sub_self, List.replicate_zero, List.append_nil, List.take_length]
  | succ d ih =>
    intro i n hd hi hn
    obtain ⟨n, rfl⟩ : ∃ k, n = k + 1 := ⟨n - 1, by omega⟩
    have hlt : i < l.length := by omega
    show Zlc.S0 (Zlc.l0 n) _ _ _ _ _ = _
    unfold Zlc.S0
    have hnl : i < (nbits l).length := by rw [Zxc]; exact hlt
    rw [lt_t (by omega), cond_true, Zt (by rw [Zd, Zxc]; omega), cond_true, Zba hnl, Zo5 hlt]
    have hrep : List.replicate (l.length - i) ((0 : Int), ((0 : Int), eB)) = (0, 0, eB) :: List.replicate (l.length - (i + 1)) ((0 : Int), ((0 : Int), eB)) := by rw [show l.length - i = (l.length - (i + 1)) + 1 by omega, List.replicate_succ]
    have hnext : l.take i ++ l[i] :: List.replicate (l.length - (i + 1)) ((0 : Int), ((0 : Int), eB)) = l.take (i + 1) ++ List.replicate (l.length - (i + 1)) ((0 : Int), ((0 : Int), eB)) := by
      rw [take_one hlt, List.append_assoc]
      rfl
    have hdrop : l.drop i = l[i] :: l.drop (i + 1) := List.drop_eq_getElem_cons hlt
    have := ih (i + 1) n (by omega) (by omega) (by omega)
    cases hq : isN l[i] with
    | true =>
      have h1 : restC (l.drop i) = restC (l.drop (i + 1)) := by
        rw [hdrop]
        unfold restC
        rw [List.filter_cons_of_neg (by rw [hq]; decide)]
      rw [hz l[i] (List.getElem_mem hlt) hq] at hnext
      rw [if_pos rfl, eq_f (by decide), cond_false, Zv (by omega), h1, hrep, hnext]
      exact this
    | false =>
      have h1 : restC (l.drop i) = l[i] :: restC (l.drop (i + 1)) := by
        rw [hdrop]
        unfold restC
        rw [List.filter_cons_of_pos (by rw [hq]; rfl)]
      have hle := Zkf (l.drop (i + 1))
      rw [List.length_drop] at hle
      rw [if_neg (by decide), eq_t rfl, cond_true, h1, Zt (by rw [Zd, List.length_cons]; omega), cond_true, Zmc (by rw [Zd, List.length_cons]; omega), cond_true, Zt (by rw [Zd, List.length_append, List.length_take, List.length_replicate]; omega), cond_true, Zv (by omega), hrep,
        show ((i : Int)).toNat = i from rfl, List.set_append_right _ _ (by rw [List.length_take]; omega), List.length_take, Nat.min_eq_left (Nat.le_of_lt hlt), Nat.sub_self, List.set_cons_zero]
      rw [show nth (l[i] :: restC (l.drop (i + 1))) 0 (0, 0, eB) = l[i] from rfl, hnext]
      exact this
theorem Zak1 (l : List Cell) : (restC l).any isN = false := by
  rw [List.any_eq_false]
  intro c hc
  unfold restC at hc
  have := (List.mem_filter.1 hc).2
  simpa using this
theorem Zo7 (l : List Cell) (hl : l.length ≤ 65536) (h0 : 0 < l.length) (hz : ∀ c ∈ l, isN c = true → c = (0, 0, eB)) {s : ByteArray} (hs : Zf s = maskL l) : Zlc s (l.length : Int) (restC l) = some (l, 0) := by
  show Zlc.S (Zlc.l0 fu) s _ _ = _
  unfold Zlc.S
  have hle := Zkf l
  rw [Zcu l hl h0 hs, Option.bind_some]
  dsimp only
  rw [ne_f rfl, cond_false, Zpq l hl h0 hs, Option.bind_some]
  dsimp only
  rw [Zdd (by omega), ne_f (by rw [Zd]; omega), cond_false, Zn7 _ (by omega), Option.bind_some, Zak1, cond_false, le_t (by omega), Zea (by show l.length * 32 ≤ _; omega)]
  have := Zyn1 l hl hz l.length 0 fu (by omega) (by omega) (by unfold fu; omega)
  rw [List.drop_zero, Nat.sub_zero, List.take_zero, List.nil_append] at this
  have e : lenL (List.replicate (Int.toNat (l.length : Int)) ((0 : Int), ((0 : Int), eB))) = (l.length : Int) := by rw [Zd, List.length_replicate]; rfl
  rw [e]
  exact this
end Go.AM.Pure
end

section
/- check: what is sealed is opened. -/
namespace Go.AM.Pure
open Go.AM
def Zoq (n : Int) : Int := xorI .u32 (shrI .u32 n 1) (andI .u32 2197175160 (subI .u32 0 (andI .u32 n 1)))
def crcN : Nat → Int → Int
  | 0, n => n
  | k + 1, n => crcN k (Zoq n)
def Zgo (n b : Int) : Int := crcN 8 (xorI .u32 n (IntKind.wrap .u32 b))
def crcOf (sum : Int) (l : List Int) : Int := IntKind.wrap .i64 (xorI .u32 4294967295 (l.foldl Zgo (xorI .u32 4294967295 (IntKind.wrap .u32 sum))))
theorem Zm1 {o0 : ByteArray → Int → Int → Int → Option Int} {s : ByteArray} {len i : Int} : ∀ (d k m : Nat) (n : Int), k + d = 8 → d < m →
    Zna.l1 o0 m s n len i (k : Int) = o0 s (crcN d n) len (addI .i64 i 1)
  | 0, k, m, n, h, hm => by
    obtain ⟨m, rfl⟩ : ∃ j, m = j + 1 := ⟨m - 1, by omega⟩
    show Zna.S1 _ _ _ _ _ _ _ = _
    unfold Zna.S1
    rw [lt_f (by omega)]
    rfl
  | d + 1, k, m, n, h, hm => by
    obtain ⟨m, rfl⟩ : ∃ j, m = j + 1 := ⟨m - 1, by omega⟩
    show Zna.S1 o0 (Zna.l1 o0 m) _ _ _ _ _ = _
    unfold Zna.S1
    rw [lt_t (by omega), cond_true, Zv (by omega)]
    exact Zm1 d (k + 1) m (Zoq n) (by omega) (by omega)
theorem Zwj1 (s : ByteArray) (hs : s.size < 4611686018427387904) : ∀ (d i m : Nat) (n : Int), d = s.size - i → i ≤ s.size → 20 < m →
    Zna.l0 (m + d) s n (s.size : Int) (i : Int) = some (IntKind.wrap .i64 (xorI .u32 4294967295 (((Zf s).drop i).foldl Zgo n))) := by
  intro d
  induction d with
  | zero =>
    intro i m n hd hi hm
    have : i = s.size := by omega
    subst this
    obtain ⟨m, rfl⟩ : ∃ j, m = j + 1 := ⟨m - 1, by omega⟩
    show Zna.S0 _ _ _ _ _ = _
    unfold Zna.S0
    rw [lt_f (by omega), cond_false, List.drop_eq_nil_of_le (by rw [Zja]; exact Nat.le_refl _)]
    rfl
  | succ d ih =>
    intro i m n hd hi hm
    have hlt : i < s.size := by omega
    show Zna.S0 (Zna.l1 (Zna.l0 (m + d)) (m + d)) s n (s.size : Int) (i : Int) = _
    unfold Zna.S0
    rw [lt_t (by omega), cond_true, Zt (by rw [Zcb]; omega), cond_true]
    have h1 := Zm1 (o0 := Zna.l0 (m + d)) (s := s) (len := (s.size : Int)) (i := (i : Int)) 8 0 (m + d) (xorI .u32 n (IntKind.wrap .u32 (byteAt s (i : Int)))) rfl (by omega)
    rw [show ((0 : Nat) : Int) = 0 from rfl] at h1
    rw [h1, Zv (by omega)]
    have hg := Zne s i hlt
    have hdr : (Zf s).drop i = byteAt s (i : Int) :: (Zf s).drop (i + 1) := by
      rw [List.drop_eq_getElem_cons (by rw [Zja]; exact hlt)]
      congr 1
      rw [List.getElem?_eq_getElem (by rw [Zja]; exact hlt)] at hg
      exact Option.some.inj hg
    rw [hdr, List.foldl_cons]
    exact ih (i + 1) m _ (by omega) (by omega) hm
theorem Zl7 (sum : Int) (s : ByteArray) (hs : s.size < 4611686018427387904) : Zna sum s = some (crcOf sum (Zf s)) := by
  show Zna.S (Zna.l0 fu) sum s = _
  unfold Zna.S
  have := Zwj1 s hs s.size 0 (fu - s.size) (xorI .u32 4294967295 (IntKind.wrap .u32 sum)) (by omega) (by omega) (by unfold fu; omega)
  rw [show fu - s.size + s.size = fu by unfold fu; omega] at this
  exact this
theorem Zo8 (s : ByteArray) (hs : s.size < 4611686018427387904) : Zsp s = some (crcOf 0 (Zf s)) := by
  unfold Zsp
  rw [Zl7 0 s hs]
  rfl
def sumB (l : List Int) : List Int := [IntKind.wrap .u8 (shrI .u32 (IntKind.wrap .u32 (crcOf 0 l)) 0), IntKind.wrap .u8 (shrI .u32 (IntKind.wrap .u32 (crcOf 0 l)) 8), IntKind.wrap .u8 (shrI .u32 (IntKind.wrap .u32 (crcOf 0 l)) 16), IntKind.wrap .u8 (shrI .u32 (IntKind.wrap .u32 (crcOf 0 l)) 24)]
theorem Zb01 (l : List Int) : ∀ b ∈ sumB l, 0 ≤ b ∧ b < 256 := fun b hb => by
  unfold sumB at hb
  simp only [List.mem_cons, List.not_mem_nil, or_false] at hb
  rcases hb with rfl | rfl | rfl | rfl <;> (rw [Zvf]; omega)
def sealB (l : List Int) : List Int := l ++ sumB l
theorem Zwk (l : List Int) : (sealB l).length = l.length + 4 := by unfold sealB; rw [List.length_append]; rfl
theorem Zxn (s : ByteArray) (hs : s.size < 100000000000) : Ztb s = some (ofBytes (sealB (Zf s))) := by
  show Ztb.S (Ztb.l0 fu) s = _
  unfold Ztb.S
  rw [Zo8 s (by omega), Option.bind_some, Zcb, Zv (by omega), le_t (by omega), Zea (by omega)]
  show (bif roomB (0 + s.size) 1 then Ztb.l0 fu (IntKind.wrap .u32 (crcOf 0 (Zf s))) (Zf s) 0 else none) = _
  rw [Zea (by omega), cond_true]
  have hst : ∀ (m : Nat) (N : Int) (b : List Int) (k : Nat), k < 4 → b.length < 100000000010 → Ztb.l0 (m + 1) N b (k : Int) = Ztb.l0 m N (b ++ [IntKind.wrap .u8 (shrI .u32 N ((8 * k : Nat) : Int))]) ((k + 1 : Nat) : Int) := by
    intro m N b k hk hb
    show Ztb.S0 (Ztb.l0 m) N b (k : Int) = _
    unfold Ztb.S0
    have e : (8 : Int) * (k : Int) = ((8 * k : Nat) : Int) := by simp
    rw [lt_t (by omega), cond_true, Zxj (by omega), e, le_t (by omega), cond_true, Zea (by omega), cond_true, Zv (by omega)]
    rfl
  have hl := Zja s
  have hfu : fu = 18446744073709551611 + 1 + 1 + 1 + 1 + 1 := rfl
  rw [hfu, show (0 : Int) = ((0 : Nat) : Int) from rfl, hst _ _ _ 0 (by omega) (by omega), hst _ _ _ 1 (by omega) (by rw [List.length_append, List.length_singleton]; omega), hst _ _ _ 2 (by omega) (by simp; omega), hst _ _ _ 3 (by omega) (by simp; omega)]
  show Ztb.S0 _ _ _ _ = _
  unfold Ztb.S0
  rw [lt_f (by omega), cond_false]
  unfold sealB sumB
  simp
theorem Zoi {l : List Int} (h : ∀ b ∈ l, 0 ≤ b ∧ b < 256) : ∀ b ∈ sealB l, 0 ≤ b ∧ b < 256 := fun b hb => by
  unfold sealB at hb
  rcases List.mem_append.1 hb with hb | hb
  · exact h b hb
  · exact Zb01 l b hb
theorem Zm7 {l : List Int} (h : ∀ b ∈ l, 0 ≤ b ∧ b < 256) (hl : l.length < 10000000000) : Zsh (ofBytes (sealB l)) = some (ofBytes l, 0) := by
  unfold Zsh
  have hsz : (ofBytes (sealB l)).size = l.length + 4 := by rw [Zo, Zwk]
  have htb := Zpc (Zoi h)
  have hcut : cutS (ofBytes (sealB l)) 0 (((l.length : Nat) : Int)) = ofBytes l := by
    rw [Zrp, htb]
    unfold sealB
    rw [List.take_left]
  rw [Zcb, hsz, Zdd (by omega), show ((l.length + 4 : Nat) : Int) - 4 = (l.length : Int) by omega, lt_f (by omega), cond_false, Zmc (by omega), cond_true, hcut, Zxn _ (by rw [Zo]; omega), Option.bind_some, Zpc h, eqS_t rfl]
  rfl
end Go.AM.Pure
end

section
/- Numbers as they are; numbers out of bytes that begin with them. -/
namespace Go.AM.Pure
open Go.AM
def vB (x : Int) : List Int := dig 10 (Zib x % 18446744073709551616)
theorem Zid (x : Int) : Zwg x = ofBytes (vB x) := rfl
theorem Zmf1 : ∀ (f : Nat) (u : Int), 0 ≤ u → ∀ b ∈ dig f u, 0 ≤ b ∧ b < 256
  | 0, _, _, b, h => by cases h
  | f + 1, u, h0, b, h => by
    unfold dig at h
    split at h
    · rcases List.mem_cons.1 h with rfl | h
      · omega
      · cases h
    · rcases List.mem_cons.1 h with rfl | h
      · omega
      · exact Zmf1 f _ (by omega) b h
theorem Zwh (x : Int) : ∀ b ∈ vB x, 0 ≤ b ∧ b < 256 := Zmf1 10 _ (by omega)
theorem Zjd (x : Int) : 1 ≤ (vB x).length ∧ (vB x).length ≤ 10 := by
  obtain ⟨h1, h2, _⟩ := dig_x x
  rw [Zid, Zo] at h1 h2
  exact ⟨h1, h2⟩
theorem Zvg {x : Int} (hx : in64 x) {s : ByteArray} {rest : List Int} (hs : Zf s = vB x ++ rest) : Zbc s = some (x, ((vB x).length : Int), 0) := by
  have hsz : (Zwg x).size = (vB x).length := by rw [Zid, Zo]
  have hl : s.size = (vB x).length + rest.length := by rw [← Zja, hs, List.length_append]
  rw [Za9, Zz8 hx (by rw [hsz, hs, List.take_left]; rfl) (by omega), hsz]
theorem Zwf {s : ByteArray} {a rest : List Int} (hs : Zf s = a ++ rest) : Zf (cutS s (a.length : Int) (lenS s)) = rest := by
  rw [Zcb, Zfz, hs, List.drop_left]
theorem Za01 (v : Int) (m : Nat) (h : 8 ≤ m) : (wb v m).take 8 = wb v 8 := by
  rw [Zto v 8 m h, List.take_append_of_le_length (by rw [Zte]; exact Nat.le_refl _), List.take_of_length_le (by rw [Zte]; exact Nat.le_refl _)]
theorem Znf1 (u : Int) (k : Nat) (hk : k < 8) : chop (k + 1) (wb u 64) = chop k (wb u 64) ++ [u / 2 ^ (8 * k) % 256] := by
  have h := Zto u (8 * k) 64 (by omega)
  rw [h, Zsk k 1 _ _ (by rw [Zte])]
  congr 1
  · have := Zsk k 0 (wb u (8 * k)) (wb (u / 2 ^ (8 * k)) (64 - 8 * k)) (by rw [Zte])
    rw [Nat.add_zero] at this
    rw [this]
    exact (List.append_nil _).symm
  · rw [Znh, Za01 _ _ (by omega), Zkm]
    rfl
theorem Zl1 {o0 : List Int → List Int → Int → Int → Option ByteArray} {l : List Int} {len i u : Int} (h0 : 0 ≤ u) : ∀ (d k m : Nat) (b : List Int), k + d = 8 → d < m → b.length < 100000000000 →
    Zca.l1 o0 m (b ++ chop k (wb u 64)) (u / 2 ^ (8 * k)) l len i (k : Int) = o0 (b ++ chop 8 (wb u 64)) l len (addI .i64 i 1)
  | 0, k, m, b, h, hm, hb => by
    obtain ⟨m, rfl⟩ : ∃ j, m = j + 1 := ⟨m - 1, by omega⟩
    have : k = 8 := by omega
    subst this
    show Zca.S1 _ _ _ _ _ _ _ _ = _
    unfold Zca.S1
    rw [lt_f (by omega)]
    rfl
  | d + 1, k, m, b, h, hm, hb => by
    obtain ⟨m, rfl⟩ : ∃ j, m = j + 1 := ⟨m - 1, by omega⟩
    show Zca.S1 o0 (Zca.l1 o0 m) _ _ _ _ _ _ = _
    unfold Zca.S1
    have hsh : shrI .u64 (u / 2 ^ (8 * k)) 8 = u / 2 ^ (8 * (k + 1)) := by
      have := shrU (u / 2 ^ (8 * k)) 8 (by omega)
      rw [show ((8 : Nat) : Int) = 8 from rfl] at this
      rw [this, Int.ediv_ediv_of_nonneg (Int.le_of_lt (Zgc _)), ← Int.pow_add]
      rfl
    rw [lt_t (by omega), cond_true, Zea (by rw [List.length_append, Zlf]; omega), cond_true, Zv (by omega), hsh, Zvf, List.append_assoc, ← Znf1 u k (by omega)]
    exact Zl1 h0 d (k + 1) m b (by omega) (by omega) hb
theorem Zuj1 (l : List Int) (hl : l.length < 1000000000) : ∀ (d i m : Nat), d = l.length - i → i ≤ l.length → 20 < m →
    Zca.l0 (m + d) (chop (8 * i) (strm (l.take i) 64)) l (l.length : Int) (i : Int) = some (ofBytes (packB l 64)) := by
  intro d
  induction d with
  | zero =>
    intro i m hd hi hm
    have : i = l.length := by omega
    subst this
    obtain ⟨m, rfl⟩ : ∃ j, m = j + 1 := ⟨m - 1, by omega⟩
    show Zca.S0 _ _ _ _ _ = _
    unfold Zca.S0
    rw [lt_f (by omega), cond_false, List.take_length]
    unfold packB
    rw [show (l.length * 64 + 7) / 8 = 8 * l.length by omega]
  | succ d ih =>
    intro i m hd hi hm
    have hlt : i < l.length := by omega
    show Zca.S0 (Zca.l1 (Zca.l0 (m + d)) (m + d)) _ l (l.length : Int) (i : Int) = _
    unfold Zca.S0
    rw [lt_t (by omega), cond_true, Zt (by rw [Zd]; omega), cond_true, Zba hlt]
    have h1 := Zl1 (o0 := Zca.l0 (m + d)) (l := l) (len := (l.length : Int)) (i := (i : Int)) (u := IntKind.wrap .u64 l[i]) (by rw [Zqc]; omega) 8 0 (m + d) (chop (8 * i) (strm (l.take i) 64)) rfl (by omega) (by rw [Zlf]; omega)
    rw [Nat.mul_zero, Int.pow_zero, Int.ediv_one, show chop 0 (wb (IntKind.wrap .u64 l[i]) 64) = [] from rfl, List.append_nil] at h1
    rw [show (0 : Int) = ((0 : Nat) : Int) from rfl, h1, Zv (by omega)]
    have := ih (i + 1) m (by omega) (by omega) hm
    rw [take_one hlt, Zqp, show 8 * (i + 1) = 8 * i + 8 by omega, Zsk _ 8 _ _ (by rw [Zlg, List.length_take]; omega)] at this
    rw [Zqc, Zbo1 _ (by omega)]
    exact this
theorem Zg0 (l : List Int) (hl : l.length < 1000000000) : Zca l = some (ofBytes (packB l 64)) := by
  show Zca.S (Zca.l0 fu) l = _
  unfold Zca.S
  rw [Zd, Zxj (by omega), le_t (by omega), Zea (by omega)]
  have := Zuj1 l hl l.length 0 (fu - l.length) (by omega) (by omega) (by unfold fu; omega)
  rw [show fu - l.length + l.length = fu by unfold fu; omega] at this
  exact this
theorem Zdz {o0 : ByteArray → Int → Int → List Int → Option (List Int × Int)} {s : ByteArray} {len i : Int} {out : List Int} {k : Nat} (hk : k < 1000000000) (hs : 8 * k + 8 ≤ s.size) (ho : k < out.length) : ∀ (d j m : Nat), j + d = 8 → d < m →
    Zx.l1 o0 m s (k : Int) (numOf ((List.range (8 * j)).map fun i => sb s (k * 64 + i))) len i (j : Int) out = o0 s len (addI .i64 i 1) (List.set out k (wordS s k 64))
  | 0, j, m, h, hm => by
    obtain ⟨m, rfl⟩ : ∃ j, m = j + 1 := ⟨m - 1, by omega⟩
    have : j = 8 := by omega
    subst this
    show Zx.S1 _ _ _ _ _ _ _ _ _ = _
    unfold Zx.S1
    rw [lt_f (by omega), cond_false, Zt (by rw [Zd]; omega)]
    rfl
  | d + 1, j, m, h, hm => by
    obtain ⟨m, rfl⟩ : ∃ j, m = j + 1 := ⟨m - 1, by omega⟩
    show Zx.S1 o0 (Zx.l1 o0 m) _ _ _ _ _ _ _ = _
    unfold Zx.S1
    have e8 : (8 : Int) * (j : Int) = ((8 * j : Nat) : Int) := by simp
    rw [lt_t (by omega), cond_true, Zxj (a := 8) (b := (k : Int)) (by omega), Zv (a := 8 * (k : Int)) (by omega), Zt (by rw [Zcb]; omega), cond_true, Zxj (by omega), e8, le_t (by omega), cond_true, Zv (by omega),
      show 8 * (k : Int) + (j : Int) = ((8 * k + j : Nat) : Int) by omega]
    have hby := Zml s ((8 * k + j : Nat) : Int)
    have hwr : IntKind.wrap .u64 (byteAt s ((8 * k + j : Nat) : Int)) = byteAt s ((8 * k + j : Nat) : Int) := by rw [Zqc]; omega
    have hnb := Zbe ((List.range (8 * j)).map fun i => sb s (k * 64 + i))
    rw [List.length_map, List.length_range] at hnb
    rw [hwr, Zc4 hnb.1 hnb.2 (by omega)]
    have hpart : byteAt s ((8 * k + j : Nat) : Int) = numOf ((List.range 8).map fun i => sb s (k * 64 + (8 * j + i))) := by
      have h1 : byteAt s ((8 * k + j : Nat) : Int) % 2 ^ 8 = byteAt s ((8 * k + j : Nat) : Int) := Int.emod_eq_of_lt hby.1 hby.2
      rw [← h1, ← Zrj]
      congr 1
      apply List.map_congr_left
      intro i hi
      have hi := List.mem_range.1 hi
      unfold sb
      rw [show (k * 64 + (8 * j + i)) / 8 = 8 * k + j by omega, show (k * 64 + (8 * j + i)) % 8 = i by omega]
    have hnext : numOf ((List.range (8 * (j + 1))).map fun i => sb s (k * 64 + i)) = numOf ((List.range (8 * j)).map fun i => sb s (k * 64 + i)) + byteAt s ((8 * k + j : Nat) : Int) * 2 ^ (8 * j) := by
      rw [show 8 * (j + 1) = 8 * j + 8 by omega, Zr5, Zcn, List.length_map, List.length_range, ← hpart, Int.mul_comm (2 ^ (8 * j))]
    rw [← hnext]
    have hnb2 := Zbe ((List.range (8 * (j + 1))).map fun i => sb s (k * 64 + i))
    rw [List.length_map, List.length_range] at hnb2
    have h64 : (2 : Int) ^ (8 * (j + 1)) ≤ 2 ^ 64 := by exact_mod_cast Nat.pow_le_pow_right (n := 2) (by omega) (show 8 * (j + 1) ≤ 64 by omega)
    rw [← pow64] at h64
    rw [Int.emod_eq_of_lt hnb2.1 (by omega)]
    exact Zdz hk hs ho d (j + 1) m (by omega) (by omega)
theorem Zqe1 (s : ByteArray) {n : Nat} (hn : n < 1000000000) (hs : s.size = 8 * n) : ∀ (d i m : Nat), d = n - i → i ≤ n → 20 < m →
    Zx.l0 (m + d) s (n : Int) (i : Int) ((List.range i).map (fun k => wordS s k 64) ++ List.replicate (n - i) (0 : Int)) = some ((List.range n).map (fun k => wordS s k 64), 0) := by
  intro d
  induction d with
  | zero =>
    intro i m hd hi hm
    have : i = n := by omega
    subst this
    obtain ⟨m, rfl⟩ : ∃ j, m = j + 1 := ⟨m - 1, by omega⟩
    show Zx.S0 _ _ _ _ _ = _
    unfold Zx.S0
    rw [lt_f (by omega), cond_false, Nat.sub_self, List.replicate_zero, List.append_nil]
  | succ d ih =>
    intro i m hd hi hm
    show Zx.S0 (Zx.l1 (Zx.l0 (m + d)) (m + d)) s _ _ _ = _
    unfold Zx.S0
    have h1 := Zdz (o0 := Zx.l0 (m + d)) (s := s) (len := (n : Int)) (i := (i : Int)) (out := (List.range i).map (fun k => wordS s k 64) ++ List.replicate (n - i) (0 : Int)) (k := i) (by omega) (by omega) (by simp; omega) 8 0 (m + d) rfl (by omega)
    rw [Nat.mul_zero, List.range_zero, List.map_nil, show numOf [] = 0 from rfl] at h1
    rw [lt_t (by omega), cond_true, show (0 : Int) = ((0 : Nat) : Int) from rfl]
    rw [show ((0 : Nat) : Int) = 0 from rfl] at h1 ⊢
    rw [h1, Zv (by omega)]
    have := ih (i + 1) m (by omega) (by omega) hm
    rw [show (i : Int) + 1 = ((i + 1 : Nat) : Int) by omega, ← this]
    congr 1
    rw [List.set_append_right _ _ (by simp), List.length_map, List.length_range, Nat.sub_self, show n - i = (n - (i + 1)) + 1 by omega, List.replicate_succ, List.set_cons_zero, List.range_succ, List.map_append, List.append_assoc]
    rfl
theorem Zxy (s : ByteArray) {n : Nat} (hn : n < 1000000000) (hs : s.size = 8 * n) : Zx s (n : Int) = some ((List.range n).map (fun k => wordS s k 64), 0) := by
  show Zx.S (Zx.l0 fu) s _ = _
  unfold Zx.S
  have h1 : remI (lenS s) 8 = 0 := by
    rw [Zcb, hs]
    unfold remI
    rw [Int.tmod_eq_emod_of_nonneg (by omega)]
    omega
  have h2 : quoI .i64 (lenS s) 8 = (n : Int) := by
    rw [Zcb, hs]
    unfold quoI
    rw [Int.tdiv_eq_ediv_of_nonneg (by omega), Zud (by omega)]
    omega
  rw [lt_f (by omega), cond_false, h1, ne_f rfl, cond_false, h2, ne_f rfl, cond_false, le_t (by omega), Zea (by show n * 8 ≤ _; omega)]
  have := Zqe1 s hn hs n 0 (fu - n) (by omega) (by omega) (by unfold fu; omega)
  rw [show fu - n + n = fu by unfold fu; omega, Nat.sub_zero] at this
  exact this
theorem Zvj1 {l : List Int} (hl : l.length ≤ 65536) (h64 : ∀ x ∈ l, in64 x) {s : ByteArray} (hs : Zf s = packB l 64) : Zx s (l.length : Int) = some (l, 0) := by
  have hsz : s.size = 8 * l.length := by rw [← Zja, hs, Zsd]; omega
  rw [Zxy s (by omega) hsz]
  congr 2
  apply List.ext_getElem
  · simp
  · intro i h1 h2
    rw [List.getElem_map, List.getElem_range]
    exact Zez (w := 64) (by omega) hs h64 (fun x _ => by have : (2 : Int) ^ 64 = 18446744073709551616 := rfl; omega) h2
end Go.AM.Pure
end

section
/- runs. -/
namespace Go.AM.Pure
open Go.AM
abbrev Run := Int × Int × Int
def flatR (o : List Run) : List Int := o.flatMap fun r => List.replicate r.2.2.toNat r.1
def lastR (p : Option Int) (o : List Run) : Option Int := match o.getLast? with
  | some r => some r.1
  | none => p
def okR (n : Nat) (p : Option Int) : List Run → Prop
  | [] => True
  | r :: o => r.2.1 = (n : Int) ∧ 1 ≤ r.2.2 ∧ p ≠ some r.1 ∧ okR (n + r.2.2.toNat) (some r.1) o
theorem Zuf (a b : List Run) : flatR (a ++ b) = flatR a ++ flatR b := by unfold flatR; rw [List.flatMap_append]
theorem Zfg (r : Run) : flatR [r] = List.replicate r.2.2.toNat r.1 := by unfold flatR; simp
theorem Zag (r : Run) (o : List Run) : flatR (r :: o) = List.replicate r.2.2.toNat r.1 ++ flatR o := rfl
theorem Zvk : ∀ (a b : List Run) (n : Nat) (p : Option Int), okR n p (a ++ b) ↔ okR n p a ∧ okR (n + (flatR a).length) (lastR p a) b
  | [], b, n, p => by simp [okR, flatR, lastR]
  | r :: a, b, n, p => by
    rw [List.cons_append]
    show (r.2.1 = (n : Int) ∧ 1 ≤ r.2.2 ∧ p ≠ some r.1 ∧ okR (n + r.2.2.toNat) (some r.1) (a ++ b)) ↔ (r.2.1 = (n : Int) ∧ 1 ≤ r.2.2 ∧ p ≠ some r.1 ∧ okR (n + r.2.2.toNat) (some r.1) a) ∧ okR (n + (flatR (r :: a)).length) (lastR p (r :: a)) b
    rw [Zvk a b]
    have e1 : n + r.2.2.toNat + (flatR a).length = n + (flatR (r :: a)).length := by rw [Zag, List.length_append, List.length_replicate]; omega
    have e2 : lastR (some r.1) a = lastR p (r :: a) := by
      unfold lastR
      cases a with
      | nil => rfl
      | cons b a =>
        rw [List.getLast?_cons_cons]
        cases h : (b :: a).getLast? with
        | none => simp at h
        | some r => rfl
    rw [e1, e2]
    simp only [and_assoc]
theorem Zug (p : Option Int) (a : List Run) (r : Run) : lastR p (a ++ [r]) = some r.1 := by unfold lastR; simp
theorem Zrn1 (l : List Int) (hl : l.length ≤ 65536) : ∀ (d i n : Nat) (out : List Run), d = l.length - i → i ≤ l.length → d < n → flatR out = l.take i → okR 0 none out → lastR none out = (l.take i).getLast? →
    ∃ o, Zfd.l0 n l l (l.length : Int) (i : Int) out = some o ∧ flatR o = l ∧ okR 0 none o := by
  intro d
  induction d with
  | zero =>
    intro i n out hd hi hn h1 h2 _
    have : i = l.length := by omega
    subst this
    obtain ⟨n, rfl⟩ : ∃ k, n = k + 1 := ⟨n - 1, by omega⟩
    rw [List.take_length] at h1
    refine ⟨out, ?_, h1, h2⟩
    show Zfd.S0 _ _ _ _ _ _ = _
    unfold Zfd.S0
    rw [lt_f (by omega), cond_false]
  | succ d ih =>
    intro i n out hd hi hn h1 h2 h3
    obtain ⟨n, rfl⟩ : ∃ k, n = k + 1 := ⟨n - 1, by omega⟩
    have hlt : i < l.length := by omega
    have hfl : (flatR out).length = i := by rw [h1, List.length_take]; omega
    have hol : out.length ≤ i := by
      have : ∀ (o : List Run) (m : Nat) (p : Option Int), okR m p o → o.length ≤ (flatR o).length := by
        intro o
        induction o with
        | nil => intro _ _ _; exact Nat.zero_le _
        | cons r o ih =>
          intro m p h
          have := ih _ _ h.2.2.2
          rw [Zag, List.length_append, List.length_replicate, List.length_cons]
          have := h.2.1
          omega
      have := this out 0 none h2
      omega
    have hsn : (l.take (i + 1)).getLast? = some l[i] := by rw [take_one hlt, List.getLast?_concat]
    -- a new run
    have hnew : (lastR none out ≠ some l[i]) → ∃ o, Zfd.l0 n l l (l.length : Int) ((i + 1 : Nat) : Int) (out ++ [(l[i], (i : Int), 1)]) = some o ∧ flatR o = l ∧ okR 0 none o := fun hne =>
      ih (i + 1) n _ (by omega) (by omega) (by omega) (by rw [Zuf, Zfg, h1, take_one hlt]; rfl)
        ((Zvk _ _ _ _).2 ⟨h2, by rw [hfl]; exact ⟨by show (i : Int) = _; omega, by show (1 : Int) ≤ 1; omega, hne, trivial⟩⟩) (by rw [Zug, hsn])
    have hset : ∀ (o : List Run) (r r' : Run), List.set (o ++ [r]) (Int.toNat (subI .i64 (lenL (o ++ [r])) 1)) r' = o ++ [r'] ∨ ¬ o.length < 1000000 := fun o r r' => by
      by_cases hb : o.length < 1000000
      · left
        rw [Zd, List.length_append, List.length_singleton, Zdd (by omega), show Int.toNat (((o.length + 1 : Nat) : Int) - 1) = o.length by omega, List.set_append_right _ _ (Nat.le_refl _), Nat.sub_self]
        rfl
      · exact .inr hb
    have hget : ∀ (o : List Run) (r : Run), o.length < 1000000 → List.getD (o ++ [r]) (Int.toNat (subI .i64 (lenL (o ++ [r])) 1)) (0, 0, 0) = r := fun o r hb => by
      rw [Zd, List.length_append, List.length_singleton, Zdd (by omega), show Int.toNat (((o.length + 1 : Nat) : Int) - 1) = o.length by omega, List.getD_eq_getElem?_getD, List.getElem?_append_right (Nat.le_refl _), Nat.sub_self]
      rfl
    have hin : ∀ (o : List Run) (r : Run), o.length < 1000000 → inB (subI .i64 (lenL (o ++ [r])) 1) (lenL (o ++ [r])) = true := fun o r hb => by
      rw [Zd, List.length_append, List.length_singleton, Zdd (by omega), Zt (by omega)]
    have hob : out.length < 1000000 := by omega
    show ∃ o, Zfd.S0 (Zfd.l0 n) _ _ _ _ _ = _ ∧ _
    unfold Zfd.S0
    rw [lt_t (by omega), cond_true, Zt (by rw [Zd]; omega), cond_true, Zba hlt, Zv (by omega)]
    by_cases hi0 : i = 0
    · subst hi0
      rw [eq_t (by omega), cond_true, Zea (by omega), cond_true, hin _ _ hob, cond_true, cond_true, hget _ _ hob, (hset _ _ _).resolve_right (fun h => h hob)]
      have := hnew (by rw [h3, List.take_zero]; simp)
      exact this
    · rw [eq_f (by omega), cond_false, Zdd (by omega), Zt (by rw [Zd]; omega), cond_true]
      have hlt1 : i - 1 < l.length := by omega
      have hlast : (l.take i).getLast? = some l[i - 1] := by
        have : l.take i = l.take (i - 1) ++ [l[i - 1]] := by
          have := take_one hlt1
          rwa [show i - 1 + 1 = i by omega] at this
        rw [this, List.getLast?_concat]
      rw [hlast] at h3
      rw [show (i : Int) - 1 = ((i - 1 : Nat) : Int) by omega, Zba hlt1]
      by_cases hq : l[i] = l[i - 1]
      · rw [ne_f hq, cond_false]
        -- the last run is one longer
        rcases List.eq_nil_or_concat out with h0 | ⟨o, r, h0⟩
        · subst h0; cases h3
        · rw [List.concat_eq_append] at h0
          subst h0
          rw [Zug] at h3
          have hr1 : r.1 = l[i - 1] := Option.some.inj h3
          have hob' : o.length < 1000000 := by rw [List.length_append] at hob; omega
          obtain ⟨k1, k2⟩ := (Zvk _ _ _ _).1 h2
          obtain ⟨k3, k4, k5, _⟩ := k2
          have hrl : r.2.2.toNat ≤ i := by
            rw [Zuf, Zfg, List.length_append, List.length_replicate] at hfl
            omega
          rw [hin _ _ hob', cond_true, cond_true, hget _ _ hob', (hset _ _ _).resolve_right (fun h => h hob'), Zv (by omega)]
          refine ih (i + 1) n _ (by omega) (by omega) (by omega) ?_ ((Zvk _ _ _ _).2 ⟨k1, k3, by show 1 ≤ r.2.2 + 1; omega, k5, trivial⟩) (by rw [Zug, hsn, hq]; exact h3)
          rw [Zuf, Zfg] at h1
          rw [Zuf, Zfg, take_one hlt, ← h1, List.append_assoc]
          congr 1
          show List.replicate (r.2.2 + 1).toNat r.1 = _
          rw [show (r.2.2 + 1).toNat = r.2.2.toNat + 1 by omega, List.replicate_succ', hr1, hq]
      · rw [ne_t hq, cond_true, Zea (by omega), cond_true, hin _ _ hob, cond_true, cond_true, hget _ _ hob, (hset _ _ _).resolve_right (fun h => h hob)]
        have := hnew (by rw [h3]; intro h; exact hq (Option.some.inj h).symm)
        exact this
theorem Zsj1 (l : List Int) (hl : l.length ≤ 65536) : ∃ o, Zfd l = some o ∧ flatR o = l ∧ okR 0 none o := by
  show ∃ o, Zfd.S (Zfd.l0 fu) l = _ ∧ _
  unfold Zfd.S
  rw [Zd, lt_f (by omega), cond_false]
  exact Zrn1 l hl l.length 0 fu [] (by omega) (by omega) (by unfold fu; omega) rfl trivial rfl
theorem Zgf : ∀ (o : List Run) (m : Nat) (p : Option Int), okR m p o → o.length ≤ (flatR o).length
  | [], _, _, _ => Nat.zero_le _
  | r :: o, m, p, h => by
    have := Zgf o _ _ h.2.2.2
    rw [Zag, List.length_append, List.length_replicate, List.length_cons]
    have := h.2.1
    omega
theorem Ztu {o : List Run} (h : okR 0 none o) {i : Nat} (hi : i < o.length) : o[i].2.1 = ((flatR (o.take i)).length : Int) ∧ 1 ≤ o[i].2.2 ∧ lastR none (o.take i) ≠ some o[i].1 ∧ (flatR (o.take (i + 1))).length = (flatR (o.take i)).length + o[i].2.2.toNat ∧ (flatR (o.take (i + 1))).length ≤ (flatR o).length := by
  have e : o = o.take i ++ o[i] :: o.drop (i + 1) := by rw [← List.drop_eq_getElem_cons hi, List.take_append_drop]
  have h' := h
  rw [e, Zvk] at h'
  obtain ⟨_, k1, k2, k3, _⟩ := h'
  refine ⟨by rw [k1]; omega, k2, k3, by rw [take_one hi, Zuf, Zfg, List.length_append, List.length_replicate], ?_⟩
  have h2 : flatR o = flatR (o.take (i + 1)) ++ flatR (o.drop (i + 1)) := by rw [← Zuf, List.take_append_drop]
  rw [h2, List.length_append]
  omega
theorem Zn8 (o : List Run) (ho : okR 0 none o) (hl : (flatR o).length ≤ 65536) : ∀ (d i n : Nat), d = o.length - i → i ≤ o.length → d < n →
    Znc.l0 n o ((flatR (o.take i)).length : Int) o (o.length : Int) (i : Int) = some (((flatR o).length : Int), true) := by
  have hol := Zgf o 0 none ho
  intro d
  induction d with
  | zero =>
    intro i n hd hi hn
    have : i = o.length := by omega
    subst this
    obtain ⟨n, rfl⟩ : ∃ k, n = k + 1 := ⟨n - 1, by omega⟩
    show Znc.S0 _ _ _ _ _ _ = _
    unfold Znc.S0
    rw [lt_f (by omega), cond_false, List.take_length]
  | succ d ih =>
    intro i n hd hi hn
    obtain ⟨n, rfl⟩ : ∃ k, n = k + 1 := ⟨n - 1, by omega⟩
    have hlt : i < o.length := by omega
    obtain ⟨k1, k2, k3, k4, k5⟩ := Ztu ho hlt
    show Znc.S0 (Znc.l0 n) _ _ _ _ _ = _
    unfold Znc.S0
    have hadd : addI .i64 ((flatR (o.take i)).length : Int) o[i].2.2 = ((flatR (o.take (i + 1))).length : Int) := by rw [Zv (by omega), k4]; omega
    have := ih (i + 1) n (by omega) (by omega) (by omega)
    rw [lt_t (by omega), cond_true, Zt (by rw [Zd]; omega), cond_true, Zba hlt, ne_f k1, cond_false, lt_f (by omega), cond_false, Zdd (by omega), lt_f (by omega), cond_false, hadd, Zv (by omega)]
    by_cases hi0 : i = 0
    · rw [lt_f (by omega), cond_false]
      exact this
    · have hlt1 : i - 1 < o.length := by omega
      have hl2 : lastR none (o.take i) = some o[i - 1].1 := by
        have : o.take i = o.take (i - 1) ++ [o[i - 1]] := by
          have := take_one hlt1
          rwa [show i - 1 + 1 = i by omega] at this
        rw [this, Zug]
      rw [hl2] at k3
      rw [lt_t (by omega), cond_true, Zdd (by omega), Zt (by rw [Zd]; omega), cond_true, show (i : Int) - 1 = ((i - 1 : Nat) : Int) by omega, Zba hlt1, eq_f (fun h => k3 (by rw [h])), cond_false]
      exact this
theorem Zwn (o : List Run) (ho : okR 0 none o) (hl : (flatR o).length ≤ 65536) : Znc o = some (((flatR o).length : Int), true) := by
  have hol := Zgf o 0 none ho
  exact Zn8 o ho hl o.length 0 fu (by omega) (by omega) (by unfold fu; omega)
def runB (o : List Run) : List Int := o.flatMap fun r => vB r.1 ++ vB r.2.2
theorem Zuu (r : Run) (o : List Run) : runB (r :: o) = vB r.1 ++ (vB r.2.2 ++ runB o) := by unfold runB; rw [List.flatMap_cons, List.append_assoc]
theorem Zn5 (o : List Run) (r : Run) : runB (o ++ [r]) = runB o ++ (vB r.1 ++ vB r.2.2) := by unfold runB; simp
theorem Zqh : ∀ o : List Run, (runB o).length ≤ 20 * o.length
  | [] => by simp [runB]
  | r :: o => by
    have := Zqh o
    have := Zjd r.1
    have := Zjd r.2.2
    rw [Zuu, List.length_append, List.length_append, List.length_cons]
    omega
theorem Zct : ∀ o : List Run, ∀ b ∈ runB o, 0 ≤ b ∧ b < 256
  | [], b, h => by cases h
  | r :: o, b, h => by
    rw [Zuu] at h
    rcases List.mem_append.1 h with h | h
    · exact Zwh _ b h
    · rcases List.mem_append.1 h with h | h
      · exact Zwh _ b h
      · exact Zct o b h
theorem Zpp (b : Bool × List Int) (s : ByteArray) (h : b.2.length + s.size < 100000000000) : Zic b s = some (lenS s, true, false, b.2 ++ Zf s) := by
  unfold Zic
  show (bif roomB (b.2.length + s.size) 1 then _ else _) = _
  rw [Zea (by omega)]
  rfl
theorem Zvu (f : Bool) (l : List Int) (h : ∀ b ∈ l, 0 ≤ b ∧ b < 256) : Zsi (f, l) = some (ofBytes l, f, l) := by
  unfold Zsi
  have : (l.all isByte) = true := List.all_eq_true.2 fun b hb => by
    have := h b hb
    unfold isByte
    rw [le_t this.1, lt_t this.2]
    rfl
  show (bif l.all isByte then _ else _) = _
  rw [this]
  rfl
theorem Zsn1 (o : List Run) (hl : o.length ≤ 65536) : ∀ (d i n : Nat) (f : Bool), d = o.length - i → i ≤ o.length → d < n →
    ∃ s, Zvc.l0 n o (o.length : Int) (i : Int) (f, runB (o.take i)) = some s ∧ s = (ofBytes (runB o), 0) := by
  intro d
  induction d with
  | zero =>
    intro i n f hd hi hn
    have : i = o.length := by omega
    subst this
    obtain ⟨n, rfl⟩ : ∃ k, n = k + 1 := ⟨n - 1, by omega⟩
    refine ⟨_, ?_, rfl⟩
    show Zvc.S0 _ _ _ _ _ = _
    unfold Zvc.S0
    rw [lt_f (by omega), cond_false, List.take_length, Zvu _ _ (Zct o)]
    rfl
  | succ d ih =>
    intro i n f hd hi hn
    obtain ⟨n, rfl⟩ : ∃ k, n = k + 1 := ⟨n - 1, by omega⟩
    have hlt : i < o.length := by omega
    have h1 := Zqh (o.take i)
    rw [List.length_take] at h1
    have h2 := Zjd o[i].1
    have h3 := Zjd o[i].2.2
    show ∃ s, Zvc.S0 (Zvc.l0 n) _ _ _ _ = _ ∧ _
    unfold Zvc.S0
    rw [lt_t (by omega), cond_true, Zt (by rw [Zd]; omega), cond_true, Zba hlt, Zof, Option.bind_some, Zid, Zpp _ _ (by rw [Zo]; show (runB _).length + _ < _; omega), Option.bind_some, Zof, Option.bind_some, Zid,
      Zpc (Zwh _), Zpp _ _ (by rw [Zo]; show (runB _ ++ vB _).length + _ < _; rw [List.length_append]; omega), Option.bind_some, Zpc (Zwh _), Zv (by omega)]
    have := ih (i + 1) n false (by omega) (by omega) (by omega)
    rw [take_one hlt, Zn5, ← List.append_assoc] at this
    exact this
theorem Zcz (o : List Run) (ho : okR 0 none o) (hl : (flatR o).length ≤ 65536) : Zvc o = some (ofBytes (runB o), 0) := by
  have hol := Zgf o 0 none ho
  show Zvc.S (Zvc.l0 fu) o = _
  unfold Zvc.S
  rw [Zwn o ho hl, Option.bind_some]
  show Zvc.l0 fu o (o.length : Int) 0 (true, []) = _
  obtain ⟨s, h1, rfl⟩ := Zsn1 o (by omega) o.length 0 fu true (by omega) (by omega) (by unfold fu; omega)
  exact h1
theorem Ztj1 (o : List Run) (ho : okR 0 none o) (hl : (flatR o).length ≤ 65536) (h64 : ∀ r ∈ o, in64 r.1) : ∀ (d i n : Nat) (s : ByteArray), d = o.length - i → i ≤ o.length → d < n → Zf s = runB (o.drop i) →
    Zya.l0 (Zya.t1 fu) n s ((flatR o).length : Int) (o.take i) ((flatR (o.take i)).length : Int) = some (o, 0) := by
  have hol := Zgf o 0 none ho
  intro d
  induction d with
  | zero =>
    intro i n s hd hi hn hs
    have : i = o.length := by omega
    subst this
    obtain ⟨n, rfl⟩ : ∃ k, n = k + 1 := ⟨n - 1, by omega⟩
    rw [List.drop_length] at hs
    have he : s = eB := size0.2 (by rw [← Zja, hs]; rfl)
    show Zya.S0 Zya.S1 _ _ _ _ _ = _
    unfold Zya.S0
    rw [eqS_t he, Bool.not_true, cond_false, List.take_length]
    unfold Zya.S1
    rw [Zwn o ho hl, Option.bind_some]
    dsimp only
    rw [Bool.not_true, cond_false, ne_f rfl, cond_false]
  | succ d ih =>
    intro i n s hd hi hn hs
    obtain ⟨n, rfl⟩ : ∃ k, n = k + 1 := ⟨n - 1, by omega⟩
    have hlt : i < o.length := by omega
    obtain ⟨k1, k2, k3, k4, k5⟩ := Ztu ho hlt
    rw [List.drop_eq_getElem_cons hlt, Zuu] at hs
    have h2 := Zjd o[i].1
    have h3 := Zjd o[i].2.2
    have hsz : s.size = (vB o[i].1).length + ((vB o[i].2.2).length + (runB (o.drop (i + 1))).length) := by rw [← Zja, hs, List.length_append, List.length_append]
    have hrl := Zqh (o.drop (i + 1))
    rw [List.length_drop] at hrl
    have hne : s ≠ eB := fun h => by have := size0.1 h; omega
    have hcut := Zwf hs
    have h64' : in64 o[i].1 := h64 _ (List.getElem_mem hlt)
    have hc64 : in64 o[i].2.2 := by unfold in64; omega
    show Zya.S0 _ (Zya.l0 (Zya.t1 fu) n) s _ _ _ = _
    unfold Zya.S0
    rw [eqS_f hne, Bool.not_false, cond_true, Zvg h64' hs, Option.bind_some]
    dsimp only
    rw [ne_f rfl, cond_false, Zmc (by rw [Zcb]; omega), cond_true, Zvg hc64 hcut, Option.bind_some]
    dsimp only
    rw [ne_f rfl, cond_false, lt_f (by omega), cond_false, Zdd (by omega), lt_f (by omega), cond_false, Zea (by rw [List.length_take]; omega), cond_true, Zv (by omega), Zmc (by rw [Zcb]; omega), cond_true]
    have hadd : addI .i64 ((flatR (o.take i)).length : Int) o[i].2.2 = ((flatR (o.take (i + 1))).length : Int) := by rw [Zv (by omega), k4]; omega
    rw [hadd, show (o[i].1, ((flatR (o.take i)).length : Int), o[i].2.2) = o[i] by rw [← k1], ← take_one hlt]
    refine ih (i + 1) n _ (by omega) (by omega) (by omega) ?_
    have : Zf s = (vB o[i].1 ++ vB o[i].2.2) ++ runB (o.drop (i + 1)) := by rw [hs, List.append_assoc]
    have := Zwf this
    rw [List.length_append, Int.natCast_add] at this
    exact this
theorem Zwu (o : List Run) (ho : okR 0 none o) (hl : (flatR o).length ≤ 65536) (h64 : ∀ r ∈ o, in64 r.1) {s : ByteArray} (hs : Zf s = runB o) : Zya s ((flatR o).length : Int) = some (o, 0) := by
  have hol := Zgf o 0 none ho
  show Zya.S (Zya.l0 (Zya.t1 fu) fu) s _ = _
  unfold Zya.S
  rw [lt_f (by omega), cond_false, lt_f (by omega), cond_false]
  exact Ztj1 o ho hl h64 o.length 0 fu s (by omega) (by omega) (by unfold fu; omega) hs
theorem Ztn1 {c : Nat} (h : c ≤ 65536) : Zmk 1 (c : Int) = (0, (c : Int)) := by
  have h1 : shrI .u64 1 32 = 0 := by decide +kernel
  have h2 : andI .u64 1 4294967295 = 1 := by decide +kernel
  have h3 : shrI .u64 (c : Int) 32 = 0 := by
    have := shrU (c : Int) 32 (by omega)
    rw [show ((32 : Nat) : Int) = 32 from rfl] at this
    rw [this]
    exact Int.ediv_eq_zero_of_lt (by omega) (by omega)
  have h4 : andI .u64 (c : Int) 4294967295 = (c : Int) := by
    unfold andI
    show IntKind.wrap .u64 ((BitVec.ofInt 64 (c : Int) &&& BitVec.ofInt 64 4294967295).toNat : Int) = _
    rw [BitVec.toNat_and, show (BitVec.ofInt 64 4294967295).toNat = 2 ^ 32 - 1 from rfl, Nat.and_two_pow_sub_one_eq_mod, show (BitVec.ofInt 64 (c : Int)).toNat = c by rw [BitVec.toNat_ofInt]; omega, Zqc]
    omega
  have h5 : mulI .u64 1 (c : Int) = (c : Int) := by unfold mulI; rw [Zqc]; omega
  have h6 : ∀ x : Int, mulI .u64 0 x = 0 := fun x => by unfold mulI; rw [Int.zero_mul]; rfl
  have h7 : mulI .u64 1 0 = 0 := by decide +kernel
  have h8 : addI .u64 0 0 = 0 := by decide +kernel
  have h9 : shrI .u64 0 32 = 0 := by decide +kernel
  have h10 : andI .u64 0 4294967295 = 0 := by decide +kernel
  unfold Zmk Ztl
  simp only [h1, h2, h3, h4, h5, h6, h7, h8, h9, h10]
theorem Zzz1 (v : Int) (c : Nat) (hc : c ≤ 65536) : ∀ (d k n : Nat) (t : List Int), d = c - k → k ≤ c → 1 ≤ k → d < n → t.length = c → t.take k = List.replicate k v →
    Zp.l2 n (k : Int) t = some (List.replicate c v) := by
  intro d
  induction d using Nat.strongRecOn with
  | ind d ih =>
  intro k n t hd hk h1 hn ht htk
  obtain ⟨n, rfl⟩ : ∃ j, n = j + 1 := ⟨n - 1, by omega⟩
  show Zp.S2 (Zp.l2 n) _ _ = _
  unfold Zp.S2
  by_cases hkc : k = c
  · subst hkc
    rw [lt_f (by rw [Zd]; omega), cond_false, ← htk, List.take_of_length_le (by omega)]
  · rw [lt_t (by rw [Zd]; omega), cond_true, Zmc (by rw [Zd]; omega), cond_true, Zmc (by rw [Zd]; omega), cond_true, Zd, ht, show Int.toNat (c : Int) = c from rfl, show Int.toNat (k : Int) = k from rfl, Nat.sub_zero, List.drop_zero, htk, List.take_replicate, List.length_replicate]
    rw [Zv (by omega)]
    have := ih (c - (k + min (c - k) k)) (by omega) (k + min (c - k) k) n (splA t k (List.replicate (min (c - k) k) v)) rfl (by omega) (by omega) (by omega) (by unfold splA; simp; omega) (by
      unfold splA
      rw [← List.append_assoc, List.take_append_of_le_length (by simp; omega), List.take_of_length_le (by simp; omega), htk, List.replicate_append_replicate])
    rw [← this]
    congr 1
theorem Zun1 (v : Int) {c : Nat} (h1 : 1 ≤ c) (hc : c ≤ 65536) : Zp [v] (c : Int) = some (List.replicate c v) := by
  show Zp.S (Zp.t0 fu) [v] _ = _
  unfold Zp.S
  rw [lt_f (by omega), cond_false]
  show Zp.S0 (Zp.t1 18446744073709551615) [v] (c : Int) = _
  unfold Zp.S0
  have e1 : IntKind.wrap .u64 (lenL [v]) = 1 := by rw [Zd, Zqc]; rfl
  have e2 : IntKind.wrap .u64 (c : Int) = (c : Int) := by rw [Zqc]; omega
  rw [e1, e2, Ztn1 hc]
  dsimp only
  rw [lt_f (by omega), cond_false, lt_f (by omega), cond_false]
  show Zp.S1 (Zp.l2 18446744073709551614) [v] (c : Int) = _
  unfold Zp.S1
  rw [Zud (by omega), le_t (by omega), Zea (by show c * 8 ≤ _; omega), List.length_replicate, show Int.toNat (c : Int) = c from rfl]
  obtain ⟨c', rfl⟩ : ∃ k, c = k + 1 := ⟨c - 1, by omega⟩
  have e3 : List.take (c' + 1) [v] = [v] := by rw [List.take_of_length_le (by simp)]
  rw [e3]
  exact Zzz1 v (c' + 1) hc c' 1 18446744073709551614 _ (by omega) (by omega) (by omega) (by omega) (by unfold splA; simp) (by unfold splA; simp)
theorem Zvn1 (o : List Run) (ho : okR 0 none o) (hl : (flatR o).length ≤ 65536) : ∀ (d i n : Nat), d = o.length - i → i ≤ o.length → d < n →
    Zoc.l0 n (flatR (o.take i)) o (o.length : Int) (i : Int) = some (flatR o, 0) := by
  have hol := Zgf o 0 none ho
  intro d
  induction d with
  | zero =>
    intro i n hd hi hn
    have : i = o.length := by omega
    subst this
    obtain ⟨n, rfl⟩ : ∃ k, n = k + 1 := ⟨n - 1, by omega⟩
    show Zoc.S0 _ _ _ _ _ = _
    unfold Zoc.S0
    rw [lt_f (by omega), cond_false, List.take_length]
  | succ d ih =>
    intro i n hd hi hn
    obtain ⟨n, rfl⟩ : ∃ k, n = k + 1 := ⟨n - 1, by omega⟩
    have hlt : i < o.length := by omega
    obtain ⟨k1, k2, k3, k4, k5⟩ := Ztu ho hlt
    show Zoc.S0 (Zoc.l0 n) _ _ _ _ = _
    unfold Zoc.S0
    have hrep := Zun1 o[i].1 (c := o[i].2.2.toNat) (by omega) (by omega)
    rw [show ((o[i].2.2.toNat : Nat) : Int) = o[i].2.2 by omega] at hrep
    rw [lt_t (by omega), cond_true, Zt (by rw [Zd]; omega), cond_true, Zba hlt, hrep, Option.bind_some, Zea (by rw [List.length_replicate]; omega), cond_true, Zv (by omega)]
    have := ih (i + 1) n (by omega) (by omega) (by omega)
    rw [take_one hlt, Zuf, Zfg] at this
    exact this
theorem Zxu (o : List Run) (ho : okR 0 none o) (hl : (flatR o).length ≤ 65536) : Zoc o = some (flatR o, 0) := by
  have hol := Zgf o 0 none ho
  show Zoc.S (Zoc.l0 fu) o = _
  unfold Zoc.S
  rw [Zwn o ho hl, Option.bind_some]
  dsimp only
  rw [Bool.not_true, cond_false, le_t (by omega), Zea (by show (flatR o).length * 8 ≤ _; omega)]
  exact Zvn1 o ho hl o.length 0 fu (by omega) (by omega) (by unfold fu; omega)
end Go.AM.Pure
end

section
/- frame: numbers by how far each is from the one ahead. -/
namespace Go.AM.Pure
open Go.AM
abbrev W64 (x : Int) : Int := IntKind.wrap .i64 x
theorem Za4 {a b : Int} (h : a % 18446744073709551616 = b % 18446744073709551616) : W64 a = W64 b := by
  show IntKind.wrap .i64 a = IntKind.wrap .i64 b
  rw [Zkg, Zkg, h]
theorem W_mod (a : Int) : W64 a % 18446744073709551616 = a % 18446744073709551616 := by
  show IntKind.wrap .i64 a % _ = _
  rw [Zkg]
  split <;> omega
theorem Zqn1 (a b : Int) : Zln a b = W64 (b - a) := by
  unfold Zln subI
  rw [Zqc, Zqc, Zqc]
  exact Za4 (by omega)
theorem Zm8 (a b : Int) : Zhh a b = W64 (a + b) := by
  unfold Zhh addI
  rw [Zqc, Zqc, Zqc]
  exact Za4 (by omega)
def diffs (l : List Int) : List Int := (List.range (l.length - 1)).map fun i => W64 (l.getD (i + 1) 0 - l.getD i 0)
theorem Zmi (l : List Int) : (diffs l).length = l.length - 1 := by unfold diffs; simp
theorem getD_at {l : List Int} {i : Nat} (h : i < l.length) : l.getD i 0 = l[i] := by rw [List.getD_eq_getElem?_getD, List.getElem?_eq_getElem h]; rfl
theorem Zru {l : List Int} {i : Nat} (h : i + 1 < l.length) (hi : i < (diffs l).length) : (diffs l)[i] = W64 (l[i + 1] - l[i]) := by
  have h2 : (diffs l)[i]? = some (W64 (l[i + 1] - l[i])) := by
    unfold diffs
    rw [List.getElem?_map, List.getElem?_range (show i < l.length - 1 by omega), Option.map_some, getD_at h, getD_at (show i < l.length by omega)]
  rw [List.getElem?_eq_getElem hi] at h2
  exact Option.some.inj h2
theorem Zyz1 (x : List Int) (hx : x.length < 4611686018427387904) : ∀ (d i n : Nat) (m : Int), d = x.length - i → i ≤ x.length → d < n → Zw.l1 n x m (i : Int) = some ((x.drop i).foldl minI m) := by
  intro d
  induction d with
  | zero =>
    intro i n m hd hi hn
    have : i = x.length := by omega
    subst this
    obtain ⟨n, rfl⟩ : ∃ k, n = k + 1 := ⟨n - 1, by omega⟩
    show Zw.S1 _ _ _ _ = _
    unfold Zw.S1
    rw [lt_f (by rw [Zd]; omega), cond_false, List.drop_length]
    rfl
  | succ d ih =>
    intro i n m hd hi hn
    obtain ⟨n, rfl⟩ : ∃ k, n = k + 1 := ⟨n - 1, by omega⟩
    have hlt : i < x.length := by omega
    show Zw.S1 (Zw.l1 n) _ _ _ = _
    unfold Zw.S1
    rw [lt_t (by rw [Zd]; omega), cond_true, Zt (by rw [Zd]; omega), cond_true, Zba hlt, Zv (by omega), List.drop_eq_getElem_cons hlt, List.foldl_cons]
    exact ih (i + 1) n _ (by omega) (by omega) (by omega)
def minF (x : List Int) : Int := (x.drop 1).foldl minI (x.getD 0 0)
theorem min_eq (x : List Int) (hx : x.length < 4611686018427387904) (h0 : 0 < x.length) : Zw x = some (minF x) := by
  show Zw.S (Zw.t0 fu) x = _
  unfold Zw.S
  rw [Zd, lt_f (by omega), cond_false]
  show Zw.S0 (Zw.l1 18446744073709551615) x = _
  unfold Zw.S0
  rw [Zt (by rw [Zd]; omega), cond_true]
  exact Zyz1 x hx (x.length - 1) 1 18446744073709551615 _ rfl (by omega) (by omega)
theorem Zbu : ∀ (l : List Int) (m : Int), l.foldl minI m = m ∨ l.foldl minI m ∈ l
  | [], m => .inl rfl
  | a :: l, m => by
    rw [List.foldl_cons]
    rcases Zbu l (minI m a) with h | h
    · rw [h]
      unfold minI
      split
      · exact .inr (List.mem_cons_self ..)
      · exact .inl rfl
    · exact .inr (List.mem_cons_of_mem _ h)
theorem Zm5 {x : List Int} (h0 : 0 < x.length) (h : ∀ a ∈ x, in64 a) : in64 (minF x) := by
  unfold minF
  rcases Zbu (x.drop 1) (x.getD 0 0) with h1 | h1
  · rw [h1, getD_at h0]; exact h _ (List.getElem_mem h0)
  · exact h _ (List.mem_of_mem_drop h1)
theorem Zng2 (m : Int) (D : List Int) (hD : D.length ≤ 65536) : ∀ (d i n : Nat), d = D.length - i → i ≤ D.length → d < n →
    Zy.l2 n m (D.length : Int) (i : Int) ((D.take i).map (fun x => W64 (x - m)) ++ D.drop i) = some (D.map (fun x => W64 (x - m)), m) := by
  intro d
  induction d with
  | zero =>
    intro i n hd hi hn
    have : i = D.length := by omega
    subst this
    obtain ⟨n, rfl⟩ : ∃ k, n = k + 1 := ⟨n - 1, by omega⟩
    show Zy.S2 _ _ _ _ _ = _
    unfold Zy.S2
    rw [lt_f (by omega), cond_false, List.drop_length, List.append_nil, List.take_length]
  | succ d ih =>
    intro i n hd hi hn
    obtain ⟨n, rfl⟩ : ∃ k, n = k + 1 := ⟨n - 1, by omega⟩
    have hlt : i < D.length := by omega
    show Zy.S2 (Zy.l2 n) _ _ _ _ = _
    unfold Zy.S2
    have hlen : ((D.take i).map (fun x => W64 (x - m)) ++ D.drop i).length = D.length := by rw [List.length_append, List.length_map, List.length_take, List.length_drop]; omega
    have hget : List.getD ((D.take i).map (fun x => W64 (x - m)) ++ D.drop i) (Int.toNat (i : Int)) 0 = D[i] := by
      rw [show Int.toNat (i : Int) = i from rfl, List.getD_eq_getElem?_getD, List.getElem?_append_right (by rw [List.length_map, List.length_take]; omega), List.length_map, List.length_take, Nat.min_eq_left (Nat.le_of_lt hlt), Nat.sub_self, List.getElem?_drop, Nat.add_zero, List.getElem?_eq_getElem hlt]
      rfl
    rw [lt_t (by omega), cond_true, Zt (by rw [Zd, hlen]; omega), cond_true, cond_true, hget, Zqn1, Zv (by omega), show Int.toNat (i : Int) = i from rfl, List.set_append_right _ _ (by rw [List.length_map, List.length_take]; omega), List.length_map, List.length_take, Nat.min_eq_left (Nat.le_of_lt hlt), Nat.sub_self,
      List.drop_eq_getElem_cons hlt, List.set_cons_zero]
    have := ih (i + 1) n (by omega) (by omega) (by omega)
    rw [take_one hlt, List.map_append, List.append_assoc] at this
    exact this
theorem Zog2 (l : List Int) (hl : l.length ≤ 65536) (h2 : 2 ≤ l.length) : ∀ (d i n : Nat), d = l.length - 1 - i → i ≤ l.length - 1 → d < n →
    Zy.l0 (Zy.t1 fu) n l ((i + 1 : Nat) : Int) ((diffs l).take i) = some ((diffs l).map (fun x => W64 (x - minF (diffs l))), minF (diffs l)) := by
  intro d
  induction d with
  | zero =>
    intro i n hd hi hn
    have : i = l.length - 1 := by omega
    subst this
    obtain ⟨n, rfl⟩ : ∃ k, n = k + 1 := ⟨n - 1, by omega⟩
    have hdl := Zmi l
    show Zy.S0 (Zy.S1 (Zy.l2 18446744073709551615)) _ _ _ _ = _
    unfold Zy.S0
    rw [lt_f (by rw [Zd]; omega), cond_false, List.take_of_length_le (by omega)]
    unfold Zy.S1
    rw [min_eq _ (by omega) (by omega), Option.bind_some]
    exact Zng2 (minF (diffs l)) (diffs l) (by omega) (diffs l).length 0 18446744073709551615 (by omega) (by omega) (by omega)
  | succ d ih =>
    intro i n hd hi hn
    obtain ⟨n, rfl⟩ : ∃ k, n = k + 1 := ⟨n - 1, by omega⟩
    have hdl := Zmi l
    have hlt : i + 1 < l.length := by omega
    have hlt0 : i < l.length := by omega
    have hdi : i < (diffs l).length := by omega
    show Zy.S0 _ (Zy.l0 (Zy.t1 fu) n) _ _ _ = _
    unfold Zy.S0
    rw [lt_t (by rw [Zd]; omega), cond_true, Zdd (by omega), show ((i + 1 : Nat) : Int) - 1 = (i : Int) by omega, Zt (by rw [Zd]; omega), cond_true, Zt (by rw [Zd]; omega), cond_true, Zea (by rw [List.length_take]; omega), cond_true, Zba hlt, Zba hlt0, Zqn1, Zv (by omega)]
    have hd1 := Zru hlt hdi
    have := ih (i + 1) n (by omega) (by omega) (by omega)
    rw [take_one hdi, hd1] at this
    exact this
def Zvb (l : List Int) : List Int := (diffs l).map fun x => W64 (x - minF (diffs l))
theorem Zb4 (l : List Int) (hl : l.length ≤ 65536) (h2 : 2 ≤ l.length) : Zy l = some (Zvb l, minF (diffs l)) := by
  show Zy.S (Zy.l0 (Zy.t1 fu) fu) l = _
  unfold Zy.S
  rw [Zd, le_t (by omega), Zea (by show l.length * 8 ≤ _; omega)]
  exact Zog2 l hl h2 (l.length - 1) 0 fu (by omega) (by omega) (by unfold fu; omega)
theorem Zph (l : List Int) : (Zvb l).length = l.length - 1 := by unfold Zvb; rw [List.length_map, Zmi]
theorem Zpe1 (l : List Int) : ∀ x ∈ Zvb l, in64 x := fun x hx => by
  unfold Zvb at hx
  obtain ⟨_, _, rfl⟩ := List.mem_map.1 hx
  exact Zxg _
theorem Zk1 (l : List Int) : ∀ x ∈ diffs l, in64 x := fun x hx => by
  unfold diffs at hx
  obtain ⟨_, _, rfl⟩ := List.mem_map.1 hx
  exact Zxg _
def Zni (l : List Int) (v : Nat) : List Int :=
  if l.length = 0 then [] else if l.length = 1 then vB (l.getD 0 0) else vB (l.getD 0 0) ++ (vB (minF (diffs l)) ++ ((v : Int) :: packB (Zvb l) v))
theorem Zux {v : Nat} (h : v ≤ 64) : IntKind.wrap .u8 (v : Int) = (v : Int) := by rw [Zvf]; omega
theorem Zsu (l : List Int) (hl : l.length ≤ 65536) {v : Nat} (hv : Zwa (Zvb l) = some (v : Int)) (h64 : v ≤ 64) : Zmn l = some (ofBytes (Zni l v), 0) := by
  unfold Zmn Zni
  rw [Zd, lt_f (by omega), cond_false]
  by_cases h0 : l.length = 0
  · rw [eq_t (by omega), cond_true, if_pos h0]
    rfl
  · rw [eq_f (by omega), cond_false, if_neg h0]
    have hl0 : 0 < l.length := by omega
    have hn0 : nth l 0 0 = l.getD 0 0 := rfl
    by_cases h1 : l.length = 1
    · rw [eq_t (by omega), cond_true, if_pos h1, Zt (by omega), cond_true, hn0, Zof, Option.bind_some, Zid]
    · rw [eq_f (by omega), cond_false, if_neg h1, Zb4 l hl (by omega), Option.bind_some]
      dsimp only
      have hfl := Zph l
      have hb : (Zvb l).length * v ≤ 65536 * 64 := Nat.mul_le_mul (by omega) h64
      have hpl := Zsd (Zvb l) v
      have k1 := Zjd (l.getD 0 0)
      have k2 := Zjd (minF (diffs l))
      rw [hv, Option.bind_some, Zpj (Zvb l) h64 (by omega) hv (Nat.le_refl _), Option.bind_some, Zt (by omega), cond_true, hn0, Zof, Option.bind_some, Zof, Option.bind_some, Zid, Zid, Zbd, Zux h64, Zbd]
      have r1 : roomS (ofBytes (vB (l.getD 0 0))) (ofBytes (vB (minF (diffs l)))) = true := decide_eq_true (by rw [Zo, Zo]; omega)
      have r2 : roomS (ofBytes (vB (l.getD 0 0) ++ vB (minF (diffs l)))) (ofBytes [(v : Int)]) = true := decide_eq_true (by rw [Zo, Zo, List.length_append, List.length_singleton]; omega)
      have r3 : roomS (ofBytes (vB (l.getD 0 0) ++ vB (minF (diffs l)) ++ [(v : Int)])) (ofBytes (packB (Zvb l) v)) = true := decide_eq_true (by rw [Zo, Zo, List.length_append, List.length_append, List.length_singleton]; omega)
      dsimp only
      rw [r1, r2, r3, Zbd, cond_true, cond_true, cond_true]
      simp
theorem Zqj1 (l : List Int) {v : Nat} (h : v ≤ 64) : ∀ b ∈ Zni l v, 0 ≤ b ∧ b < 256 := fun b hb => by
  unfold Zni at hb
  split at hb
  · cases hb
  · split at hb
    · exact Zwh _ b hb
    · rcases List.mem_append.1 hb with hb | hb
      · exact Zwh _ b hb
      · rcases List.mem_append.1 hb with hb | hb
        · exact Zwh _ b hb
        · rcases List.mem_cons.1 hb with rfl | hb
          · omega
          · exact Zxk _ _ b hb
theorem Zrj1 (l : List Int) (hl : l.length ≤ 65536) (h2 : 2 ≤ l.length) (h64 : ∀ x ∈ l, in64 x) {o2 : ByteArray → List Int → Bool → Option (List Int × Int)} {s : ByteArray} {bad : Bool} : ∀ (d i n : Nat), d = l.length - 1 - i → i ≤ l.length - 1 → d < n →
    Zz.l1 o2 n s (l.take (i + 1)) (minF (diffs l)) (Zvb l) ((Zvb l).length : Int) (i : Int) bad = o2 s l bad := by
  have hfl := Zph l
  intro d
  induction d with
  | zero =>
    intro i n hd hi hn
    have : i = l.length - 1 := by omega
    subst this
    obtain ⟨n, rfl⟩ : ∃ k, n = k + 1 := ⟨n - 1, by omega⟩
    show Zz.S1 _ _ _ _ _ _ _ _ _ = _
    unfold Zz.S1
    rw [lt_f (by omega), cond_false, List.take_of_length_le (by omega)]
  | succ d ih =>
    intro i n hd hi hn
    obtain ⟨n, rfl⟩ : ∃ k, n = k + 1 := ⟨n - 1, by omega⟩
    have hlt : i + 1 < l.length := by omega
    have hlt0 : i < l.length := by omega
    have hfi : i < (Zvb l).length := by omega
    show Zz.S1 o2 (Zz.l1 o2 n) _ _ _ _ _ _ _ = _
    unfold Zz.S1
    have htl : (l.take (i + 1)).length = i + 1 := by rw [List.length_take]; omega
    have hidx : subI .i64 (lenL (l.take (i + 1))) 1 = (i : Int) := by rw [Zd, htl, Zdd (by omega)]; omega
    have hlast : nth (l.take (i + 1)) (i : Int) 0 = l[i] := by
      rw [Zba (show i < (l.take (i + 1)).length by omega), List.getElem_take]
    have hval : Zhh (Zhh l[i] (minF (diffs l))) (Zvb l)[i] = l[i + 1] := by
      rw [Zm8, Zm8]
      have hf : (Zvb l)[i] = W64 (W64 (l[i + 1] - l[i]) - minF (diffs l)) := by
        have hdl := Zmi l
        have h2 : (Zvb l)[i]? = some (W64 ((diffs l)[i]'(by omega) - minF (diffs l))) := by
          unfold Zvb
          rw [List.getElem?_map, List.getElem?_eq_getElem (show i < (diffs l).length by omega), Option.map_some]
        rw [List.getElem?_eq_getElem hfi] at h2
        rw [Option.some.inj h2, Zru hlt]
      rw [hf]
      have h := h64 l[i + 1] (List.getElem_mem hlt)
      rw [show W64 (W64 (l[i] + minF (diffs l)) + W64 (W64 (l[i + 1] - l[i]) - minF (diffs l))) = W64 l[i + 1] from Za4 (by
        have e1 := W_mod (l[i] + minF (diffs l))
        have e2 := W_mod (W64 (l[i + 1] - l[i]) - minF (diffs l))
        have e3 := W_mod (l[i + 1] - l[i])
        omega)]
      exact Zgg h
    rw [lt_t (by omega), cond_true, Zt (by rw [Zd]; omega), cond_true, hidx, Zt (by rw [Zd]; omega), cond_true, Zea (by omega), cond_true, hlast, Zba hfi, hval, Zv (by omega), ← take_one hlt]
    exact ih (i + 1) n (by omega) (by omega) (by omega)
theorem Zk7 (l : List Int) (hl : l.length ≤ 65536) (h64 : ∀ x ∈ l, in64 x) {v : Nat} (hv : Zwa (Zvb l) = some (v : Int)) (hv64 : v ≤ 64) (hwd : Wd (Zvb l) v) {s : ByteArray} (hs : Zf s = Zni l v) :
    Zz s (l.length : Int) = some (l, 0) := by
  have hse : s = ofBytes (Zni l v) := by rw [← hs, Zcf]
  have hS2 : Zz.S2 s l false = some (l, 0) := by
    unfold Zz.S2
    rw [Zsu l hl hv hv64, Option.bind_some]
    dsimp only
    rw [cond_false, ne_f rfl, cond_false, eqS_t hse.symm]
    rfl
  show Zz.S (Zz.t0 fu) s _ = _
  unfold Zz.S
  rw [lt_f (by omega), cond_false, lt_f (by omega), cond_false]
  by_cases h0 : l.length = 0
  · rw [lt_f (by omega), cond_false]
    have : l = [] := List.eq_nil_of_length_eq_zero h0
    subst this
    show Zz.S0 (Zz.l1 (Zz.t2 _) _) Zz.S2 s _ [] s false = _
    unfold Zz.S0
    rw [lt_f (by simp), cond_false]
    exact hS2
  · have hl0 : 0 < l.length := by omega
    have hx64 : in64 (l.getD 0 0) := by rw [getD_at hl0]; exact h64 _ (List.getElem_mem hl0)
    rw [lt_t (by omega), cond_true]
    unfold Zni at hs
    rw [if_neg h0] at hs
    have htake1 : l.take 1 = [l.getD 0 0] := by
      rw [show (1 : Nat) = 0 + 1 from rfl, take_one hl0, getD_at hl0]; rfl
    by_cases h1 : l.length = 1
    · rw [if_pos h1] at hs
      have hs' : Zf s = vB (l.getD 0 0) ++ [] := by rw [hs, List.append_nil]
      have hsz : s.size = (vB (l.getD 0 0)).length := by rw [← Zja, hs]
      have h1w : Zpe s false = some (l.getD 0 0, cutS s ((vB (l.getD 0 0)).length : Int) (lenS s), false) := by
        unfold Zpe
        rw [Zvg hx64 hs', Option.bind_some]
        dsimp only
        rw [cond_false, Zmc (by rw [Zcb]; omega), cond_true, ne_f rfl]
      rw [h1w, Option.bind_some]
      show Zz.S0 (Zz.l1 (Zz.t2 _) _) Zz.S2 s _ _ _ _ = _
      unfold Zz.S0
      rw [lt_f (by omega), cond_false]
      dsimp only
      have : [l.getD 0 0] = l := by rw [← htake1, List.take_of_length_le (by omega)]
      rw [this]
      exact hS2
    · rw [if_neg h1] at hs
      have hfl := Zph l
      have hdl := Zmi l
      have hm64 : in64 (minF (diffs l)) := Zm5 (by omega) (Zk1 l)
      have hsz : s.size = (vB (l.getD 0 0)).length + ((vB (minF (diffs l))).length + ((packB (Zvb l) v).length + 1)) := by rw [← Zja, hs, List.length_append, List.length_append, List.length_cons]
      have h1w : Zpe s false = some (l.getD 0 0, cutS s ((vB (l.getD 0 0)).length : Int) (lenS s), false) := by
        unfold Zpe
        rw [Zvg hx64 hs, Option.bind_some]
        dsimp only
        rw [cond_false, Zmc (by rw [Zcb]; omega), cond_true, ne_f rfl]
      have hc1 := Zwf hs
      generalize hs1 : cutS s ((vB (l.getD 0 0)).length : Int) (lenS s) = s1 at h1w hc1
      have hsz1 : s1.size = (vB (minF (diffs l))).length + ((packB (Zvb l) v).length + 1) := by rw [← Zja, hc1, List.length_append, List.length_cons]
      have h2w : Zpe s1 false = some (minF (diffs l), cutS s1 ((vB (minF (diffs l))).length : Int) (lenS s1), false) := by
        unfold Zpe
        rw [Zvg hm64 hc1, Option.bind_some]
        dsimp only
        rw [cond_false, Zmc (by rw [Zcb]; omega), cond_true, ne_f rfl]
      have hc2 := Zwf hc1
      generalize hs2 : cutS s1 ((vB (minF (diffs l))).length : Int) (lenS s1) = s2 at h2w hc2
      have hsz2 : s2.size = (packB (Zvb l) v).length + 1 := by rw [← Zja, hc2, List.length_cons]
      have hne : s2 ≠ eB := fun h => by have := size0.1 h; omega
      have hb0 : byteAt s2 0 = (v : Int) := Zeh hc2 (i := 0) rfl
      have hc3 : Zf (cutS s2 1 (lenS s2)) = packB (Zvb l) v := by
        have := Zwf (a := [(v : Int)]) (rest := packB (Zvb l) v) hc2
        exact this
      have hpk := Zbn (l := Zvb l) (w := v) hv64 (by omega) (Zpe1 l) hwd.1 hc3
      rw [h1w, Option.bind_some]
      show Zz.S0 (Zz.l1 (Zz.t2 18446744073709551615) 18446744073709551615) (Zz.t2 18446744073709551615) s _ _ _ _ = _
      unfold Zz.S0
      rw [lt_t (by omega), cond_true]
      dsimp only
      rw [h2w, Option.bind_some]
      dsimp only
      rw [cond_false, eqS_f hne, cond_false, Zmc (by rw [Zcb]; omega), cond_true, Zt (by rw [Zcb]; omega), cond_true, hb0, Zud (by omega), Zdd (by omega), show (l.length : Int) - 1 = ((Zvb l).length : Int) by omega, hpk, Option.bind_some]
      dsimp only
      rw [ne_f rfl, cond_false, ← htake1]
      have := Zrj1 l hl (by omega) h64 (o2 := Zz.t2 18446744073709551615) (s := s) (bad := false) (l.length - 1) 0 18446744073709551615 (by omega) (by omega) (by omega)
      rw [Zd]
      exact this.trans hS2
end Go.AM.Pure
end

section
/- dict: numbers by their places among the distinct ones. -/
namespace Go.AM.Pure
open Go.AM
section
variable {α : Type} [Inhabited α] [DecidableEq α]
omit [DecidableEq α] in
theorem Zfj (z : List α) {i : Nat} (h : i < z.length) : z.toArray[i]! = z[i] := by
  rw [getElem!_pos _ i (by simpa using h), List.getElem_toArray]
theorem Zou {le : α → α → Prop} (hr : ∀ a, le a a) (ht : ∀ a b c, le a b → le b c → le a c) (ha : ∀ a b, le a b → le b a → a = b) {z : List α} (hz : z.Pairwise le) :
    (Lib.compact z).Pairwise (fun a b => le a b ∧ a ≠ b) ∧ ∀ x, x ∈ Lib.compact z ↔ x ∈ z := by
  have hs : ∀ i j, (hij : i ≤ j) → (h : j < z.length) → le (z[i]'(by omega)) z[j] := fun i j hij h => by
    by_cases he : i = j
    · subst he; exact hr _
    · exact (List.pairwise_iff_getElem.1 hz) i j (by omega) h (by omega)
  unfold Lib.compact Lib.compactUpTo
  constructor
  · rw [List.pairwise_map]
    refine List.Pairwise.imp_of_mem ?_ (List.Pairwise.filter _ List.pairwise_lt_range)
    intro a b hma hmb hab
    obtain ⟨h1, _⟩ := List.mem_filter.1 hma
    obtain ⟨h2, h3⟩ := List.mem_filter.1 hmb
    have h1 := List.mem_range.1 h1
    have h2 := List.mem_range.1 h2
    have hne : z.toArray[b]! ≠ z.toArray[b - 1]! := by
      rcases of_decide_eq_true h3 with h | h
      · omega
      · exact h
    rw [Zfj z h2, Zfj z (show b - 1 < z.length by omega)] at hne
    rw [Zfj z h1, Zfj z h2]
    have k1 := hs a (b - 1) (by omega) (by omega)
    have k2 := hs (b - 1) b (by omega) h2
    refine ⟨ht _ _ _ k1 k2, fun he => hne ?_⟩
    rw [he] at k1
    exact ha _ _ k1 k2
  · intro x
    constructor
    · intro hx
      obtain ⟨j, hj, rfl⟩ := List.mem_map.1 hx
      have := List.mem_range.1 (List.mem_filter.1 hj).1
      rw [Zfj z this]
      exact List.getElem_mem this
    · intro hx
      obtain ⟨j, hj, rfl⟩ := List.mem_iff_getElem.1 hx
      clear hx
      induction j with
      | zero => exact List.mem_map.2 ⟨0, List.mem_filter.2 ⟨List.mem_range.2 hj, by simp [Lib.keeps]⟩, Zfj z hj⟩
      | succ j ih =>
        by_cases hq : z[j + 1] = z[j]
        · rw [hq]; exact ih (by omega)
        · refine List.mem_map.2 ⟨j + 1, List.mem_filter.2 ⟨List.mem_range.2 hj, ?_⟩, Zfj z hj⟩
          refine decide_eq_true (.inr ?_)
          rw [Zfj z hj, Nat.add_sub_cancel, Zfj z (show j < z.length by omega)]
          exact hq
end
def dictI (l : List Int) : List Int := Lib.compact (l.mergeSort fun x y => decide (x ≤ y))
def Zpa (l : List Int) : List Int := l.map fun v => ((dictI l).idxOf v : Int)
theorem Zxe (l : List Int) : (dictI l).Pairwise (· < ·) ∧ ∀ x, x ∈ dictI l ↔ x ∈ l := by
  have hs := List.pairwise_mergeSort (le := fun x y : Int => decide (x ≤ y)) (fun a b c h1 h2 => by simp at *; omega) (fun a b => by simp; omega) l
  have h := Zou (le := fun a b : Int => a ≤ b) (fun a => Int.le_refl a) (fun a b c h1 h2 => Int.le_trans h1 h2) (fun a b h1 h2 => Int.le_antisymm h1 h2) (hs.imp fun h => of_decide_eq_true h)
  refine ⟨h.1.imp fun h => by omega, fun x => (h.2 x).trans List.mem_mergeSort⟩
theorem Zmh (l : List Int) : (dictI l).length ≤ l.length := by
  unfold dictI
  have h : ∀ z : List Int, (Lib.compact z).length ≤ z.length := fun z => by
    unfold Lib.compact Lib.compactUpTo
    rw [List.length_map]
    exact Nat.le_trans (List.length_filter_le _ _) (by rw [List.length_range]; exact Nat.le_refl _)
  have := h (l.mergeSort fun x y => decide (x ≤ y))
  rwa [List.length_mergeSort] at this
theorem Zl5 {l : List Int} (h : 0 < l.length) : 0 < (dictI l).length := by
  have : l[0] ∈ dictI l := ((Zxe l).2 _).2 (List.getElem_mem h)
  exact List.length_pos_of_mem this
theorem Zpu {d : List Int} (h : d.Pairwise (· < ·)) {i j : Nat} (hij : i < j) (hj : j < d.length) : d[i]'(by omega) < d[j] := List.pairwise_iff_getElem.1 h i j (by omega) hj hij
theorem Zvz1 (x y : Int) : cmp_Less_int x y = ltI x y := by
  unfold cmp_Less_int
  have : cmp_isNaN_int x = false := by
    show neI x x = false
    exact ne_f rfl
  rw [this]
  rfl
theorem Zk91 (d : List Int) (hl : d.length < 1000000000) (hd : d.Pairwise (· < ·)) {k : Nat} (hk : k < d.length) : ∀ (g i j n : Nat), g = j - i → i ≤ k → k ≤ j → j ≤ d.length → g < n →
    Zr.l0 (Zr.t1 fu) n d d[k] (d.length : Int) (i : Int) (j : Int) = some ((k : Int), true) := by
  intro g
  induction g using Nat.strongRecOn with
  | ind g ih =>
  intro i j n hg hi hj hjl hn
  obtain ⟨n, rfl⟩ : ∃ m, n = m + 1 := ⟨n - 1, by omega⟩
  show Zr.S0 Zr.S1 (Zr.l0 (Zr.t1 fu) n) _ _ _ _ _ = _
  unfold Zr.S0
  by_cases hij : i < j
  · have hh : IntKind.wrap .i64 (shrI .u64 (IntKind.wrap .u64 (addI .i64 (i : Int) (j : Int))) 1) = (((i + j) / 2 : Nat) : Int) := by
      have h1 : IntKind.wrap .u64 ((i : Int) + (j : Int)) = ((i + j : Nat) : Int) := by rw [Zqc]; omega
      have h2 := shrU ((i + j : Nat) : Int) 1 (by omega)
      rw [show ((1 : Nat) : Int) = 1 from rfl, Int.pow_succ, Int.pow_zero, Int.one_mul] at h2
      rw [Zv (by omega), h1, h2, Zud (by omega)]
      omega
    have hm : (i + j) / 2 < d.length := by omega
    rw [lt_t (by omega), cond_true, hh, Zt (by rw [Zd]; omega), cond_true, Zba hm, Zvz1, Zv (by omega)]
    by_cases hlt : (i + j) / 2 < k
    · rw [lt_t (Zpu hd hlt hk), cond_true]
      exact ih (j - ((i + j) / 2 + 1)) (by omega) ((i + j) / 2 + 1) j n rfl (by omega) hj hjl (by omega)
    · have : d[k] ≤ d[(i + j) / 2] := by
        by_cases he : k = (i + j) / 2
        · exact Int.le_of_eq (getElem_congr_idx he)
        · exact Int.le_of_lt (Zpu hd (by omega) hm)
      rw [lt_f this, cond_false]
      exact ih ((i + j) / 2 - i) (by omega) i ((i + j) / 2) n rfl hi (by omega) (by omega) (by omega)
  · have : i = k := by omega
    subst this
    rw [lt_f (by omega), cond_false]
    unfold Zr.S1
    rw [lt_t (by omega), cond_true, Zt (by rw [Zd]; omega), cond_true, Zba hk, eq_t rfl]
    rfl
theorem bs_eq (d : List Int) (hl : d.length < 1000000000) (hd : d.Pairwise (· < ·)) {v : Int} (hv : v ∈ d) : Zr d v = some ((d.idxOf v : Int), true) := by
  have hk : d.idxOf v < d.length := List.idxOf_lt_length_iff.2 hv
  have hg : d[d.idxOf v] = v := List.getElem_idxOf hk
  have := Zk91 d hl hd hk d.length 0 d.length fu (by omega) (by omega) (by omega) (by omega) (by unfold fu; omega)
  rw [hg] at this
  exact this
theorem Zoe1 (l : List Int) (hl : l.length ≤ 65536) (lo : Nat) (t : List Int) (ht : List.take (dictI l).length (List.drop lo t) = dictI l) : ∀ (d i n : Nat), d = l.length - i → i ≤ l.length → d < n →
    Zac.l0 n lo (dictI l).length ((Zpa l).take i) l (l.length : Int) (i : Int) t = some (dictI l, Zpa l) := by
  have hpl : (Zpa l).length = l.length := by unfold Zpa; rw [List.length_map]
  have hdl := Zmh l
  intro d
  induction d with
  | zero =>
    intro i n hd hi hn
    have : i = l.length := by omega
    subst this
    obtain ⟨n, rfl⟩ : ∃ k, n = k + 1 := ⟨n - 1, by omega⟩
    show Zac.S0 _ _ _ _ _ _ _ _ = _
    unfold Zac.S0
    rw [lt_f (by omega), cond_false, ht, List.take_of_length_le (by omega)]
  | succ d ih =>
    intro i n hd hi hn
    obtain ⟨n, rfl⟩ : ∃ k, n = k + 1 := ⟨n - 1, by omega⟩
    have hlt : i < l.length := by omega
    show Zac.S0 (Zac.l0 n) _ _ _ _ _ _ _ = _
    unfold Zac.S0
    rw [lt_t (by omega), cond_true, Zt (by rw [Zd]; omega), cond_true, Zba hlt, ht, bs_eq _ (by omega) (Zxe l).1 (((Zxe l).2 _).2 (List.getElem_mem hlt)), Option.bind_some, Zea (by rw [List.length_take]; omega), cond_true, Zv (by omega)]
    have hp : (Zpa l)[i]'(by omega) = ((dictI l).idxOf l[i] : Int) := by
      have h2 : (Zpa l)[i]? = some ((dictI l).idxOf l[i] : Int) := by
        unfold Zpa
        rw [List.getElem?_map, List.getElem?_eq_getElem hlt, Option.map_some]
      rw [List.getElem?_eq_getElem (by omega)] at h2
      exact Option.some.inj h2
    have := ih (i + 1) n (by omega) (by omega) (by omega)
    rw [take_one (by omega), hp] at this
    exact this
theorem Zz3 (l : List Int) (hl : l.length ≤ 65536) (h0 : 0 < l.length) : Zac l = some (dictI l, Zpa l) := by
  show Zac.S (Zac.l0 fu) l = _
  unfold Zac.S
  have hc : Zng 8 l = some l := by
    unfold Zng
    rw [decide_eq_true h0, Zea (by omega)]
    rfl
  have hs : sortI l = some (l.mergeSort fun x y => decide (x ≤ y)) := by
    unfold sortI
    rw [decide_eq_true (by omega)]
    rfl
  have hml : (l.mergeSort fun x y => decide (x ≤ y)).length = l.length := List.length_mergeSort _
  have hdl := Zmh l
  have hcp : compI (l.mergeSort fun x y => decide (x ≤ y)) = some (((dictI l).length : Int), dictI l ++ List.replicate (l.length - (dictI l).length) 0) := by
    unfold compI
    rw [decide_eq_true (by omega), hml]
    rfl
  rw [hc, Option.bind_some, Zdi (x := l.mergeSort fun x y => decide (x ≤ y)) (by rw [decide_eq_true h0]; rfl) hs (by rw [hml]; simp), Option.bind_some,
    Zdi (by rw [decide_eq_true (by omega)]; rfl) hcp (by
      dsimp only
      rw [List.length_append, List.length_replicate, hml, decide_eq_true (by omega)]
      rfl), Option.bind_some]
  dsimp only
  rw [show Int.toNat ((dictI l).length : Int) = (dictI l).length from rfl, Zd]
  exact Zoe1 l hl 0 _ (by rw [List.drop_zero, List.take_left]) l.length 0 fu (by omega) (by omega) (by unfold fu; omega)
def intsB (d : List Int) : List Int := d.flatMap vB
theorem Zh1 (x : Int) (d : List Int) : intsB (x :: d) = vB x ++ intsB d := rfl
theorem Zbt (d : List Int) (x : Int) : intsB (d ++ [x]) = intsB d ++ vB x := by unfold intsB; simp
theorem Zli : ∀ d : List Int, (intsB d).length ≤ 10 * d.length
  | [] => by simp [intsB]
  | x :: d => by
    have := Zli d
    have := Zjd x
    rw [Zh1, List.length_append, List.length_cons]
    omega
theorem Zqu : ∀ d : List Int, ∀ b ∈ intsB d, 0 ≤ b ∧ b < 256
  | [], b, h => by cases h
  | x :: d, b, h => by
    rw [Zh1] at h
    rcases List.mem_append.1 h with h | h
    · exact Zwh _ b h
    · exact Zqu d b h
theorem Znn1 (o : List Int) (hl : o.length ≤ 65536) : ∀ (d i n : Nat) (f : Bool), d = o.length - i → i ≤ o.length → d < n →
    Zld.l0 n o (o.length : Int) (i : Int) (f, intsB (o.take i)) = some (ofBytes (intsB o), 0) := by
  intro d
  induction d with
  | zero =>
    intro i n f hd hi hn
    have : i = o.length := by omega
    subst this
    obtain ⟨n, rfl⟩ : ∃ k, n = k + 1 := ⟨n - 1, by omega⟩
    show Zld.S0 _ _ _ _ _ = _
    unfold Zld.S0
    rw [lt_f (by omega), cond_false, List.take_length, Zvu _ _ (Zqu o)]
    rfl
  | succ d ih =>
    intro i n f hd hi hn
    obtain ⟨n, rfl⟩ : ∃ k, n = k + 1 := ⟨n - 1, by omega⟩
    have hlt : i < o.length := by omega
    have h1 := Zli (o.take i)
    rw [List.length_take] at h1
    have h2 := Zjd o[i]
    show Zld.S0 (Zld.l0 n) _ _ _ _ = _
    unfold Zld.S0
    rw [lt_t (by omega), cond_true, Zt (by rw [Zd]; omega), cond_true, Zba hlt, Zof, Option.bind_some, Zid, Zpp _ _ (by rw [Zo]; show (intsB _).length + _ < _; omega), Option.bind_some, Zpc (Zwh _), Zv (by omega)]
    have := ih (i + 1) n false (by omega) (by omega) (by omega)
    rw [take_one hlt, Zbt] at this
    exact this
theorem Zj8 (o : List Int) (hl : o.length ≤ 65536) : Zld o = some (ofBytes (intsB o), 0) :=
  Znn1 o hl o.length 0 fu true (by omega) (by omega) (by unfold fu; omega)
theorem Zeg (l : List Int) : (Zpa l).length = l.length := by unfold Zpa; rw [List.length_map]
theorem Ztm {l : List Int} : ∀ x ∈ Zpa l, 0 ≤ x ∧ x < ((dictI l).length : Int) := fun x hx => by
  unfold Zpa at hx
  obtain ⟨v, hv, rfl⟩ := List.mem_map.1 hx
  have := List.idxOf_lt_length_iff.2 (((Zxe l).2 v).2 hv)
  omega
theorem Zbz {l : List Int} {k : Nat} (hk : k < (dictI l).length) : (k : Int) ∈ Zpa l := by
  have hm : (dictI l)[k] ∈ l := ((Zxe l).2 _).1 (List.getElem_mem hk)
  refine List.mem_map.2 ⟨_, hm, ?_⟩
  have h1 : (dictI l).idxOf (dictI l)[k] < (dictI l).length := List.idxOf_lt_length_iff.2 (List.getElem_mem hk)
  have h2 : (dictI l)[(dictI l).idxOf (dictI l)[k]] = (dictI l)[k] := List.getElem_idxOf h1
  have hinc := (Zxe l).1
  rcases Nat.lt_trichotomy ((dictI l).idxOf (dictI l)[k]) k with h | h | h
  · have := Zpu hinc h hk; omega
  · rw [h]
  · have := Zpu hinc h h1; omega
def dictB (l : List Int) (v : Nat) : List Int := if l.length = 0 then [] else vB ((dictI l).length : Int) ++ (intsB (dictI l) ++ packB (Zpa l) v)
theorem Zi1 (l : List Int) (hl : l.length ≤ 65536) {v : Nat} (hv : Zwa (Zpa l) = some (v : Int)) (h64 : v ≤ 64) : Zrl l = some (ofBytes (dictB l v), 0) := by
  unfold Zrl Zqg dictB
  rw [Zd, lt_f (by omega), cond_false]
  by_cases h0 : l.length = 0
  · rw [eq_t (by omega), cond_true, if_pos h0]
    rfl
  · have hdl := Zmh l
    have hpl := Zeg l
    have hb : (Zpa l).length * v ≤ 65536 * 64 := Nat.mul_le_mul (by omega) h64
    have hpb := Zsd (Zpa l) v
    have k1 := Zjd ((dictI l).length : Int)
    have k2 := Zli (dictI l)
    rw [eq_f (by omega), cond_false, if_neg h0, Zz3 l hl (by omega), Option.bind_some]
    dsimp only
    rw [Zj8 _ (by omega), Option.bind_some]
    dsimp only
    rw [ne_f rfl, cond_false, hv, Option.bind_some, Zpj (Zpa l) h64 (by omega) hv (Nat.le_refl _), Option.bind_some, Zd, Zof, Option.bind_some, Zid, Zbd]
    dsimp only
    have r1 : roomS (ofBytes (vB ((dictI l).length : Int))) (ofBytes (intsB (dictI l))) = true := decide_eq_true (by rw [Zo, Zo]; omega)
    have r2 : roomS (ofBytes (vB ((dictI l).length : Int) ++ intsB (dictI l))) (ofBytes (packB (Zpa l) v)) = true := decide_eq_true (by rw [Zo, Zo, List.length_append]; omega)
    rw [r1, r2, Zbd, cond_true, cond_true, List.append_assoc]
    rfl
theorem Zl91 {x : Int} (hx : in64 x) {s : ByteArray} {rest : List Int} (hs : Zf s = vB x ++ rest) : Zki s = some (x, ((vB x).length : Int)) := by
  unfold Zki
  rw [Zvg hx hs, Option.bind_some]
  rfl
theorem Zwz1 {D : List Int} (hD : D.length ≤ 65536) (hinc : D.Pairwise (· < ·)) (h64 : ∀ x ∈ D, in64 x) {s : ByteArray} {pre tail : List Int} (hs : Zf s = pre ++ (intsB D ++ tail)) (hsz : s.size < 100000000) {o1 : ByteArray → Int → Int → Int → List Int → Option (List Int × List Int × Int)} {xn size : Int} :
    ∀ (d i n : Nat), d = D.length - i → i ≤ D.length → d < n →
    Zb.l0 o1 n s xn size ((pre.length + (intsB (D.take i)).length : Nat) : Int) (D.take i) (D.length : Int) (i : Int) = o1 s xn size ((pre.length + (intsB D).length : Nat) : Int) D := by
  have hsl : s.size = pre.length + ((intsB D).length + tail.length) := by rw [← Zja, hs, List.length_append, List.length_append]
  intro d
  induction d with
  | zero =>
    intro i n hd hi hn
    have : i = D.length := by omega
    subst this
    obtain ⟨n, rfl⟩ : ∃ k, n = k + 1 := ⟨n - 1, by omega⟩
    show Zb.S0 _ _ _ _ _ _ _ _ _ = _
    unfold Zb.S0
    rw [lt_f (by omega), cond_false, List.take_length]
  | succ d ih =>
    intro i n hd hi hn
    obtain ⟨n, rfl⟩ : ∃ k, n = k + 1 := ⟨n - 1, by omega⟩
    have hlt : i < D.length := by omega
    show Zb.S0 o1 (Zb.l0 o1 n) _ _ _ _ _ _ _ = _
    unfold Zb.S0
    have hsplit : intsB D = intsB (D.take i) ++ (vB D[i] ++ intsB (D.drop (i + 1))) := by
      have : D = D.take i ++ D[i] :: D.drop (i + 1) := by rw [← List.drop_eq_getElem_cons hlt, List.take_append_drop]
      have h2 : intsB D = intsB (D.take i ++ D[i] :: D.drop (i + 1)) := congrArg intsB this
      rw [h2]
      unfold intsB
      rw [List.flatMap_append, List.flatMap_cons]
    have hil : (intsB (D.take i)).length ≤ (intsB D).length := by rw [hsplit, List.length_append]; omega
    have hcut : Zf (cutS s ((pre.length + (intsB (D.take i)).length : Nat) : Int) (lenS s)) = vB D[i] ++ (intsB (D.drop (i + 1)) ++ tail) := by
      have := Zwf (s := s) (a := pre ++ intsB (D.take i)) (rest := vB D[i] ++ (intsB (D.drop (i + 1)) ++ tail)) (by rw [hs, hsplit]; simp)
      rw [List.length_append] at this
      exact this
    have hv := Zjd D[i]
    have htl : (D.take i).length = i := by rw [List.length_take]; omega
    have hnx : addI .i64 ((pre.length + (intsB (D.take i)).length : Nat) : Int) ((vB D[i]).length : Int) = ((pre.length + (intsB (D.take (i + 1))).length : Nat) : Int) := by
      have : (intsB (D.take (i + 1))).length = (intsB (D.take i)).length + (vB D[i]).length := by rw [take_one hlt, Zbt, List.length_append]
      rw [Zv (by omega), this]
      omega
    rw [lt_t (by omega), cond_true, Zmc (by rw [Zcb]; omega), cond_true, Zl91 (h64 _ (List.getElem_mem hlt)) hcut, Option.bind_some]
    dsimp only
    rw [eq_f (by omega), cond_false, hnx, Zv (by omega), ← take_one hlt]
    have := ih (i + 1) n (by omega) (by omega) (by omega)
    rw [Zea (by omega)]
    by_cases hi0 : i = 0
    · rw [lt_f (by omega), cond_false, cond_true]
      exact this
    · have hlt1 : i - 1 < (D.take i).length := by omega
      rw [lt_t (by omega), cond_true, Zdd (by omega), Zt (by rw [Zd, htl]; omega), cond_true, show (i : Int) - 1 = ((i - 1 : Nat) : Int) by omega, Zba hlt1, List.getElem_take, le_f (Zpu hinc (by omega) hlt), cond_false, cond_true]
      exact this
def seenB (size : Nat) (p : List Int) : List Bool := (List.range size).map fun k : Nat => p.any fun x => decide (x = (k : Int))
theorem Zk8 (size : Nat) (p : List Int) (x : Int) (h0 : 0 ≤ x) : List.set (seenB size p) x.toNat true = seenB size (p ++ [x]) := by
  apply List.ext_getElem
  · unfold seenB; simp
  · intro k h1 h2
    have hk : k < size := by unfold seenB at h2; simpa using h2
    rw [List.getElem_set]
    have e1 : ∀ q : List Int, ∀ h : k < (seenB size q).length, (seenB size q)[k] = q.any fun x => decide (x = (k : Int)) := fun q h => by
      have h2 : (seenB size q)[k]? = some (q.any fun x => decide (x = (k : Int))) := by
        unfold seenB
        rw [List.getElem?_map, List.getElem?_range hk, Option.map_some]
      rw [List.getElem?_eq_getElem h] at h2
      exact Option.some.inj h2
    rw [e1 (p ++ [x]) h2, List.any_append]
    by_cases hx : x.toNat = k
    · rw [if_pos hx]
      have : x = (k : Int) := by omega
      simp [this]
    · rw [if_neg hx, e1]
      have : ¬ x = (k : Int) := by omega
      simp [this]
theorem Zxz1 {D P : List Int} (hP : P.length ≤ 65536) (hPm : ∀ x ∈ P, 0 ≤ x ∧ x < (D.length : Int)) (_hD : D.length ≤ 65536) {o3 : List Int → List Int → List Bool → Option (List Int × List Int × Int)} :
    ∀ (d i n : Nat), d = P.length - i → i ≤ P.length → d < n →
    Zb.l2 o3 n (D.length : Int) D P P (P.length : Int) (i : Int) (seenB D.length (P.take i)) = o3 D P (seenB D.length P) := by
  intro d
  induction d with
  | zero =>
    intro i n hd hi hn
    have : i = P.length := by omega
    subst this
    obtain ⟨n, rfl⟩ : ∃ k, n = k + 1 := ⟨n - 1, by omega⟩
    show Zb.S2 _ _ _ _ _ _ _ _ _ = _
    unfold Zb.S2
    rw [lt_f (by omega), cond_false, List.take_length]
  | succ d ih =>
    intro i n hd hi hn
    obtain ⟨n, rfl⟩ : ∃ k, n = k + 1 := ⟨n - 1, by omega⟩
    have hlt : i < P.length := by omega
    have hx := hPm P[i] (List.getElem_mem hlt)
    have hsl : (seenB D.length (P.take i)).length = D.length := by unfold seenB; simp
    show Zb.S2 o3 (Zb.l2 o3 n) _ _ _ _ _ _ _ = _
    unfold Zb.S2
    rw [lt_t (by omega), cond_true, Zt (by rw [Zd]; omega), cond_true, Zba hlt, lt_f hx.1, cond_false, le_f hx.2, cond_false, Zt (by rw [Zd, hsl]; exact hx), cond_true, Zv (by omega), Zk8 _ _ _ hx.1, ← take_one hlt]
    exact ih (i + 1) n (by omega) (by omega) (by omega)
theorem Zj1 (l : List Bool) (hl : l.length < 4611686018427387904) (hall : ∀ b ∈ l, b = true) : ∀ (d i n : Nat), d = l.length - i → i ≤ l.length → d < n → Zka.l0 n l false (l.length : Int) (i : Int) = some (-1) := by
  intro d
  induction d with
  | zero =>
    intro i n hd hi hn
    have : i = l.length := by omega
    subst this
    obtain ⟨n, rfl⟩ : ∃ k, n = k + 1 := ⟨n - 1, by omega⟩
    show Zka.S0 _ _ _ _ _ = _
    unfold Zka.S0
    rw [lt_f (by omega), cond_false]
  | succ d ih =>
    intro i n hd hi hn
    obtain ⟨n, rfl⟩ : ∃ k, n = k + 1 := ⟨n - 1, by omega⟩
    have hlt : i < l.length := by omega
    show Zka.S0 (Zka.l0 n) _ _ _ _ = _
    unfold Zka.S0
    rw [lt_t (by omega), cond_true, Zt (by rw [Zd]; omega), cond_true, Zba hlt, hall _ (List.getElem_mem hlt), show eqB false true = false from rfl, cond_false, Zv (by omega)]
    exact ih (i + 1) n (by omega) (by omega) (by omega)
theorem Zon1 {l : List Int} (hl : l.length ≤ 65536) (h0 : 0 < l.length) {v : Nat} (h : Wd [((dictI l).length : Int) - 1] v) : Wd (Zpa l) v := by
  have hdl := Zmh l
  have hdp := Zl5 h0
  obtain ⟨h1, h2⟩ := h
  have h1 := h1 _ (List.mem_singleton.2 rfl)
  constructor
  · intro x hx
    have := Ztm x hx
    omega
  · rcases h2 with h2 | ⟨x, hx, h2⟩
    · exact .inl h2
    · have hx := List.mem_singleton.1 hx
      subst hx
      right
      have := Zbz (l := l) (k := (dictI l).length - 1) (by omega)
      refine ⟨_, this, ?_⟩
      rw [show (((dictI l).length - 1 : Nat) : Int) = ((dictI l).length : Int) - 1 by omega]
      exact h2
theorem Zj7 {D P : List Int} (_hD : D.length ≤ 65536) (hP : P.length ≤ 65536) (hPm : ∀ x ∈ P, 0 ≤ x ∧ x < (D.length : Int)) : ∀ (d i n : Nat), d = P.length - i → i ≤ P.length → d < n →
    Zyb.l0 n D ((P.take i).map fun x => D.getD x.toNat 0) P (P.length : Int) (i : Int) = some (P.map fun x => D.getD x.toNat 0) := by
  intro d
  induction d with
  | zero =>
    intro i n hd hi hn
    have : i = P.length := by omega
    subst this
    obtain ⟨n, rfl⟩ : ∃ k, n = k + 1 := ⟨n - 1, by omega⟩
    show Zyb.S0 _ _ _ _ _ _ = _
    unfold Zyb.S0
    rw [lt_f (by omega), cond_false, List.take_length]
  | succ d ih =>
    intro i n hd hi hn
    obtain ⟨n, rfl⟩ : ∃ k, n = k + 1 := ⟨n - 1, by omega⟩
    have hlt : i < P.length := by omega
    have hx := hPm P[i] (List.getElem_mem hlt)
    show Zyb.S0 (Zyb.l0 n) _ _ _ _ _ = _
    unfold Zyb.S0
    rw [lt_t (by omega), cond_true, Zt (by rw [Zd]; omega), cond_true, Zba hlt, Zt (by rw [Zd]; exact hx), cond_true, Zea (by rw [List.length_map, List.length_take]; omega), cond_true, Zv (by omega)]
    have := ih (i + 1) n (by omega) (by omega) (by omega)
    rw [take_one hlt, List.map_append] at this
    exact this
theorem Zpn1 (l : List Int) : (Zpa l).map (fun x => (dictI l).getD x.toNat 0) = l := by
  unfold Zpa
  rw [List.map_map]
  conv => rhs; rw [← List.map_id l]
  apply List.map_congr_left
  intro v hv
  have hk := List.idxOf_lt_length_iff.2 (((Zxe l).2 v).2 hv)
  show (dictI l).getD (((dictI l).idxOf v : Nat) : Int).toNat 0 = v
  rw [show (((dictI l).idxOf v : Nat) : Int).toNat = (dictI l).idxOf v from rfl, getD_at hk, List.getElem_idxOf hk]
theorem Zl8 (l : List Int) (hl : l.length ≤ 65536) (h64 : ∀ x ∈ l, in64 x) {v : Nat} (hv64 : v ≤ 64) (hwd : Wd (Zpa l) v) {s : ByteArray} (hs : Zf s = dictB l v) (h0 : 0 < l.length) :
    Zb s (l.length : Int) = some (dictI l, Zpa l, 0) := by
  have hdl := Zmh l
  have hdp := Zl5 h0
  have hpl := Zeg l
  have hs' : Zf s = vB ((dictI l).length : Int) ++ (intsB (dictI l) ++ packB (Zpa l) v) := by
    unfold dictB at hs
    rwa [if_neg (by omega)] at hs
  have hb : (Zpa l).length * v ≤ 65536 * 64 := Nat.mul_le_mul (by omega) hv64
  have hpb := Zsd (Zpa l) v
  have k1 := Zjd ((dictI l).length : Int)
  have k2 := Zli (dictI l)
  have hsz : s.size = (vB ((dictI l).length : Int)).length + ((intsB (dictI l)).length + (packB (Zpa l) v).length) := by rw [← Zja, hs', List.length_append, List.length_append]
  show Zb.S (Zb.l0 (Zb.t1 fu) fu) s _ = _
  unfold Zb.S
  rw [lt_f (by omega), cond_false, lt_f (by omega), cond_false, eq_f (by omega), cond_false, Zvg (by unfold in64; omega) hs', Option.bind_some]
  dsimp only
  rw [ne_f rfl, cond_false, lt_f (by omega), cond_false, lt_f (by omega), cond_false]
  have hloop := Zwz1 (D := dictI l) (by omega) (Zxe l).1 (fun x hx => h64 x (((Zxe l).2 x).1 hx)) hs' (by omega) (o1 := Zb.t1 fu) (xn := (l.length : Int)) (size := ((dictI l).length : Int)) (dictI l).length 0 fu (by omega) (by omega) (by unfold fu; omega)
  rw [List.take_zero, show intsB [] = [] from rfl, List.length_nil, Nat.add_zero] at hloop
  rw [show (0 : Int) = ((0 : Nat) : Int) from rfl, hloop]
  show Zb.S1 (Zb.l2 (Zb.t3 18446744073709551615) 18446744073709551615) s _ _ _ _ = _
  unfold Zb.S1
  obtain ⟨v', w1, w2, w3⟩ := Zkk [((dictI l).length : Int) - 1] (by simp)
  have hvv : v' = v := (Zon1 hl h0 w3).unique hwd
  subst hvv
  have hcut : Zf (cutS s (((vB ((dictI l).length : Int)).length + (intsB (dictI l)).length : Nat) : Int) (lenS s)) = packB (Zpa l) v' := by
    have := Zwf (s := s) (a := vB ((dictI l).length : Int) ++ intsB (dictI l)) (rest := packB (Zpa l) v') (by rw [hs', List.append_assoc])
    rw [List.length_append] at this
    exact this
  have hpk := Zbn (l := Zpa l) (w := v') hv64 (by omega) (fun x hx => by have := Ztm x hx; unfold in64; omega) hwd.1 hcut
  rw [hpl] at hpk
  rw [Zmc (by rw [Zcb]; omega), cond_true, Zdd (by omega), w1, Option.bind_some, hpk, Option.bind_some]
  dsimp only
  rw [ne_f rfl, cond_false, le_t (by omega), Zea (by show (dictI l).length * 1 ≤ _; omega)]
  have hseen0 : List.replicate (Int.toNat ((dictI l).length : Int)) false = seenB (dictI l).length ((Zpa l).take 0) := by
    unfold seenB
    rw [List.take_zero]
    symm
    rw [List.eq_replicate_iff]
    refine ⟨by simp, fun b hb => ?_⟩
    obtain ⟨k, _, rfl⟩ := List.mem_map.1 hb
    rfl
  have hl2 := Zxz1 (D := dictI l) (P := Zpa l) (by omega) (fun x hx => Ztm x hx) (by omega) (o3 := Zb.t3 18446744073709551615) (Zpa l).length 0 18446744073709551615 (by omega) (by omega) (by omega)
  rw [hseen0, Zd]
  refine Eq.trans hl2 ?_
  show Zb.S3 (dictI l) (Zpa l) (seenB (dictI l).length (Zpa l)) = _
  unfold Zb.S3
  have hsb : ∀ b ∈ seenB (dictI l).length (Zpa l), b = true := fun b hb => by
    unfold seenB at hb
    obtain ⟨k, hk, rfl⟩ := List.mem_map.1 hb
    exact List.any_eq_true.2 ⟨_, Zbz (List.mem_range.1 hk), decide_eq_true rfl⟩
  have hsbl : (seenB (dictI l).length (Zpa l)).length = (dictI l).length := by unfold seenB; simp
  have hcon : Zwc (seenB (dictI l).length (Zpa l)) false = some false := by
    unfold Zwc
    have := Zj1 _ (by omega) hsb (seenB (dictI l).length (Zpa l)).length 0 fu (by omega) (by omega) (by unfold fu; omega)
    have h2 : Zka (seenB (dictI l).length (Zpa l)) false = some (-1) := this
    rw [h2]
    rfl
  rw [hcon]
  rfl
theorem Zf0 (l : List Int) (hl : l.length ≤ 65536) (h64 : ∀ x ∈ l, in64 x) {v : Nat} (hv64 : v ≤ 64) (hwd : Wd (Zpa l) v) {s : ByteArray} (hs : Zf s = dictB l v) :
    Znk s (l.length : Int) = some (l, 0) := by
  unfold Znk
  by_cases h0 : l.length = 0
  · have hse : s = eB := size0.2 (by rw [← Zja, hs]; unfold dictB; rw [if_pos h0]; rfl)
    have : l = [] := List.eq_nil_of_length_eq_zero h0
    subst this
    have h1 : Zb s (([] : List Int).length : Int) = some ([], [], 0) := by
      show Zb.S _ s 0 = _
      unfold Zb.S
      rw [lt_f (by omega), cond_false, lt_f (by omega), cond_false, eq_t rfl, cond_true, eqS_t hse]
      rfl
    rw [h1]
    rfl
  · have hdl := Zmh l
    rw [Zl8 l hl h64 hv64 hwd hs (by omega), Option.bind_some]
    dsimp only
    rw [ne_f rfl, cond_false]
    have := Zj7 (D := dictI l) (P := Zpa l) (by omega) (by rw [Zeg]; exact hl) (fun x hx => Ztm x hx) (Zpa l).length 0 fu (by omega) (by omega) (by rw [Zeg]; unfold fu; omega)
    have h2 : Zyb (dictI l) (Zpa l) = some ((Zpa l).map fun x => (dictI l).getD x.toNat 0) := this
    rw [h2, Zpn1]
    rfl
end Go.AM.Pure
end

section
/- block: Put, and what is read of it. -/
namespace Go.AM.Pure
open Go.AM
theorem Zku (s : ByteArray) (a b : Nat) : Zf (cutS s (a : Int) (b : Int)) = ((Zf s).drop a).take (b - a) := by
  unfold Zf cutS
  show List.map _ (s.extract a b).data.toList = _
  rw [ByteArray.data_extract, Array.toList_extract, List.extract_eq_take_drop, ← List.map_drop, ← List.map_take]
theorem Zjf1 (c : Cell) (kind : Int) : Zod c kind = !(Zyc c && (decide (c.1 = 0) || decide (c.1 = kind))) := by
  unfold Zod
  rw [Zr7]
  cases hm : Zyc c with
  | false => rw [if_neg (by decide)]; rfl
  | true =>
    rw [if_pos rfl, ne_f rfl, cond_false]
    by_cases h0 : c.1 = 0
    · rw [ne_f h0, decide_eq_true h0]; rfl
    · rw [ne_t h0, cond_true, decide_eq_false h0]
      by_cases h1 : c.1 = kind
      · rw [ne_f h1, decide_eq_true h1]; rfl
      · rw [ne_t h1, decide_eq_false h1]; rfl
theorem Zkn1 (l : List Cell) (hl : l.length < 4611686018427387904) (kind : Int) : ∀ (d i n : Nat), d = l.length - i → i ≤ l.length → d < n → (∀ j (h : j < l.length), j < i → Zod l[j] kind = false) →
    ∃ r, Zl.l0 n l kind (l.length : Int) (i : Int) = some r ∧ leI 0 r = l.any (fun c => Zod c kind) := by
  intro d
  induction d with
  | zero =>
    intro i n hd hi hn ha
    have : i = l.length := by omega
    subst this
    obtain ⟨n, rfl⟩ : ∃ k, n = k + 1 := ⟨n - 1, by omega⟩
    refine ⟨-1, ?_, ?_⟩
    · show Zl.S0 _ _ _ _ _ = _
      unfold Zl.S0
      rw [lt_f (by omega), cond_false]
    · rw [show leI 0 (-1) = false from rfl]
      symm
      rw [List.any_eq_false]
      intro x hx
      obtain ⟨j, hj, rfl⟩ := List.mem_iff_getElem.1 hx
      rw [ha j hj hj]
      decide
  | succ d ih =>
    intro i n hd hi hn ha
    obtain ⟨n, rfl⟩ : ∃ k, n = k + 1 := ⟨n - 1, by omega⟩
    have hlt : i < l.length := by omega
    show ∃ r, Zl.S0 (Zl.l0 n) _ _ _ _ = _ ∧ _
    unfold Zl.S0
    rw [lt_t (by omega), cond_true, Zt (by rw [Zd]; omega), cond_true, Zba hlt]
    cases hq : Zod l[i] kind with
    | true =>
      rw [cond_true]
      refine ⟨_, rfl, ?_⟩
      rw [le_t (by omega)]
      symm
      rw [List.any_eq_true]
      exact ⟨l[i], List.getElem_mem hlt, hq⟩
    | false =>
      rw [cond_false, Zv (by omega)]
      exact ih (i + 1) n (by omega) (by omega) (by omega) fun j h hj => by
        by_cases hji : j = i
        · subst hji; exact hq
        · exact ha j h (by omega)
theorem Zlu (l : List Cell) (hl : l.length < 4611686018427387904) (kind : Int) : Zmb l kind = some (l.any fun c => Zod c kind) := by
  unfold Zmb
  obtain ⟨r, h1, h2⟩ := Zkn1 l hl kind l.length 0 fu (by omega) (by omega) (by unfold fu; omega) fun j h hj => by omega
  have : Zl l kind = some r := h1
  rw [this, Option.bind_some, h2]
def MayB (l : List Cell) (kind : Int) : Prop := 1 ≤ l.length ∧ l.length ≤ 64 ∧ (kind = 1 ∨ kind = 2) ∧ ∀ c ∈ l, Zyc c = true ∧ (c.1 = 0 ∨ c.1 = kind)
theorem Zkf1 (l : List Cell) (kind : Int) : (!(l.any fun c => Zod c kind)) = true ↔ ∀ c ∈ l, Zyc c = true ∧ (c.1 = 0 ∨ c.1 = kind) := by
  rw [Bool.not_eq_true', List.any_eq_false]
  constructor
  · intro h c hc
    have h1 := h c hc
    rw [Zjf1, Bool.not_eq_true, Bool.not_eq_false', Bool.and_eq_true, Bool.or_eq_true, decide_eq_true_eq, decide_eq_true_eq] at h1
    exact h1
  · intro h c hc
    rw [Zjf1, Bool.not_eq_true, Bool.not_eq_false', Bool.and_eq_true, Bool.or_eq_true, decide_eq_true_eq, decide_eq_true_eq]
    exact h c hc
theorem Zlf1 {l : List Cell} {kind : Int} (h : MayB l kind) : Zbl l kind = some true := by
  obtain ⟨h1, h2, h3, h4⟩ := h
  unfold Zbl
  have h5 := (Zkf1 l kind).2 h4
  rw [Zd, lt_f (by omega), cond_false, lt_f (by omega), cond_false, Zlu l (by omega), Option.bind_some, h5]
  rcases h3 with rfl | rfl
  · rw [ne_f rfl]; rfl
  · rw [ne_t (by omega), ne_f rfl]; rfl
theorem Zmg2 {l : List Cell} {kind : Int} (hl : l.length < 4611686018427387904) (h : ¬ MayB l kind) : Zbl l kind = some false := by
  unfold Zbl
  rw [Zd]
  by_cases h1 : 1 ≤ l.length
  · by_cases h2 : l.length ≤ 64
    · rw [lt_f (by omega), cond_false, lt_f (by omega), cond_false, Zlu l hl, Option.bind_some]
      have h5 : (kind = 1 ∨ kind = 2) → (!(l.any fun c => Zod c kind)) = false := fun hk => by
        rw [Bool.eq_false_iff]
        intro h6
        exact h ⟨h1, h2, hk, (Zkf1 l kind).1 h6⟩
      by_cases k1 : kind = 1
      · rw [ne_f k1, cond_false, h5 (.inl k1)]
      · rw [ne_t k1, cond_true]
        by_cases k2 : kind = 2
        · rw [ne_f k2, cond_false, h5 (.inr k2)]
        · rw [ne_t k2, cond_true]
    · rw [lt_f (by omega), cond_false, lt_t (by omega), cond_true]
  · rw [lt_t (by omega), cond_true]
abbrev numsC (l : List Cell) : List Int := l.map fun c => c.2.1
abbrev txtsC (l : List Cell) : List ByteArray := l.map fun c => c.2.2
theorem Zne1 (l : List Cell) (hl : l.length ≤ 65536) (kind code : Int) : ∀ (d i n : Nat), d = l.length - i → i ≤ l.length → d < n →
    Zla.l0 (Zla.t1 fu) n kind code (numsC (l.take i)) (txtsC (l.take i)) l (l.length : Int) (i : Int) = (bif eqI kind 1 then Zsg (numsC l) code else Zhi (txtsC l) code) := by
  intro d
  induction d with
  | zero =>
    intro i n hd hi hn
    have : i = l.length := by omega
    subst this
    obtain ⟨n, rfl⟩ : ∃ k, n = k + 1 := ⟨n - 1, by omega⟩
    show Zla.S0 Zla.S1 _ _ _ _ _ _ _ _ = _
    unfold Zla.S0
    rw [lt_f (by omega), cond_false, List.take_length]
    unfold Zla.S1
    rw [Option.bind_fun_some, Option.bind_fun_some]
  | succ d ih =>
    intro i n hd hi hn
    obtain ⟨n, rfl⟩ : ∃ k, n = k + 1 := ⟨n - 1, by omega⟩
    have hlt : i < l.length := by omega
    show Zla.S0 _ (Zla.l0 (Zla.t1 fu) n) _ _ _ _ _ _ _ = _
    unfold Zla.S0
    rw [lt_t (by omega), cond_true, Zt (by rw [Zd]; omega), cond_true, Zea (by rw [List.length_map, List.length_take]; omega), cond_true, Zea (by rw [List.length_map, List.length_take]; omega), cond_true, Zba hlt, Zv (by omega)]
    have := ih (i + 1) n (by omega) (by omega) (by omega)
    rw [take_one hlt] at this
    unfold numsC txtsC at this
    rw [List.map_append, List.map_append] at this
    exact this
theorem Zf1 (l : List Cell) (hl : l.length ≤ 65536) (kind code : Int) : Zla l kind code = (bif eqI kind 1 then Zsg (numsC l) code else Zhi (txtsC l) code) :=
  Zne1 l hl kind code l.length 0 fu (by omega) (by omega) (by unfold fu; omega)
def blkT (l : List Cell) (kind code : Int) (vb : List Int) : List Int := [kind, code, (l.length : Int), ((maskL l).length : Int)] ++ (maskL l ++ vb)
theorem Zzm (l : List Cell) : (maskL l).length ≤ (l.length + 7) / 8 := by
  unfold maskL
  split
  · rw [Zsd, Zxc, Nat.mul_one]; exact Nat.le_refl _
  · exact Nat.zero_le _
theorem Zln1 (l : List Cell) : ∀ b ∈ maskL l, 0 ≤ b ∧ b < 256 := fun b hb => by
  unfold maskL at hb
  split at hb
  · exact Zxk _ _ b hb
  · cases hb
theorem Zzs {l : List Cell} (hl : l.length ≤ 64) {kind code : Int} (hk : 0 ≤ kind ∧ kind < 256) (hc : 0 ≤ code ∧ code < 256) {vb : List Int} (hv : ∀ b ∈ vb, 0 ≤ b ∧ b < 256) : ∀ b ∈ blkT l kind code vb, 0 ≤ b ∧ b < 256 := fun b hb => by
  have hm := Zzm l
  unfold blkT at hb
  rcases List.mem_append.1 hb with hb | hb
  · simp only [List.mem_cons, List.not_mem_nil, or_false] at hb
    rcases hb with rfl | rfl | rfl | rfl <;> omega
  · rcases List.mem_append.1 hb with hb | hb
    · exact Zln1 l b hb
    · exact hv b hb
theorem Zmu {l : List Cell} {kind code : Int} (hm : MayB l kind) (hc : 0 ≤ code ∧ code < 256) {vb : List Int} (hvl : vb.length ≤ 1000000) (hvr : ∀ b ∈ vb, 0 ≤ b ∧ b < 256) (hv : Zla (restC l) kind code = some (ofBytes vb, 0)) :
    Zqe l kind code = some (ofBytes (sealB (blkT l kind code vb)), 0) := by
  obtain ⟨h1, h2, h3, _⟩ := id hm
  have hkr : 0 ≤ kind ∧ kind < 256 := by rcases h3 with rfl | rfl <;> omega
  have hml := Zzm l
  unfold Zqe
  rw [Zlf1 hm, Option.bind_some, Bool.not_true, cond_false, Zqq l (by omega) (by omega), Option.bind_some]
  dsimp only
  rw [hv, Option.bind_some]
  dsimp only
  have w8 : ∀ x : Int, 0 ≤ x ∧ x < 256 → IntKind.wrap .u8 x = x := fun x hx => by rw [Zvf]; omega
  rw [ne_f rfl, cond_false, Zd, Zcb, Zo, w8 kind hkr, w8 code hc, w8 _ (by omega), w8 _ (by omega)]
  have r1 : roomS (ofBytes [kind, code, (l.length : Int), ((maskL l).length : Int)]) (ofBytes (maskL l)) = true := decide_eq_true (by rw [Zo, Zo]; simp; omega)
  rw [r1, cond_true, Zbd]
  have r2 : roomS (ofBytes ([kind, code, (l.length : Int), ((maskL l).length : Int)] ++ maskL l)) (ofBytes vb) = true := decide_eq_true (by rw [Zo, Zo]; simp; omega)
  rw [r2, cond_true, Zbd, List.append_assoc]
  show (Ztb (ofBytes (blkT l kind code vb))).bind _ = _
  rw [Zxn _ (by rw [Zo]; unfold blkT; simp; omega), Option.bind_some, Zpc (Zzs h2 hkr hc hvr)]
theorem Znu {l : List Cell} {kind code : Int} (hl : l.length < 4611686018427387904) (hm : ¬ MayB l kind) : Zqe l kind code = some (eB, 1) := by
  unfold Zqe
  rw [Zmg2 hl hm]
  rfl
theorem Zh7 {l : List Cell} {kind code : Int} (hm : MayB l kind) (hc : 0 ≤ code ∧ code < 256) {vb : List Int} (hvl : vb.length ≤ 1000000) (hvr : ∀ b ∈ vb, 0 ≤ b ∧ b < 256) (hv : Zla (restC l) kind code = some (ofBytes vb, 0))
    (hcells : ∀ s : ByteArray, Zf s = vb → ∀ k : Int, Zha s ((restC l).length : Int) (kind, code, (l.length : Int), k) = some (restC l, 0)) :
    Ztf (ofBytes (sealB (blkT l kind code vb))) = some (((kind, code, (l.length : Int), ((l.length - (restC l).length : Nat) : Int)), ofBytes (maskL l), ofBytes vb, l), true) := by
  have hput := Zmu hm hc hvl hvr hv
  obtain ⟨h1, h2, h3, h4⟩ := hm
  have hkr : 0 ≤ kind ∧ kind < 256 := by rcases h3 with rfl | rfl <;> omega
  have hml := Zzm l
  have hrl := Zkf l
  have hz : ∀ c ∈ l, isN c = true → c = (0, 0, eB) := fun c hc hn => by
    have hn0 : c.1 = 0 := of_decide_eq_true (show decide (c.1 = 0) = true from hn)
    rcases Zw8 (h4 c hc).1 with h | ⟨n, h⟩ | ⟨t, h, _⟩
    · exact h
    · rw [h] at hn0; simp at hn0
    · rw [h] at hn0; simp at hn0
  have hT := Zzs h2 hkr hc hvr
  have htl : (blkT l kind code vb).length = 4 + ((maskL l).length + vb.length) := by unfold blkT; simp; omega
  unfold Ztf
  rw [Zm7 hT (by omega), Option.bind_some]
  dsimp only
  have hsz : (ofBytes (blkT l kind code vb)).size = 4 + ((maskL l).length + vb.length) := by rw [Zo, htl]
  have htb : Zf (ofBytes (blkT l kind code vb)) = blkT l kind code vb := Zpc hT
  generalize ht : ofBytes (blkT l kind code vb) = t at hsz htb
  have b0 : byteAt t 0 = kind := Zeh htb (i := 0) rfl
  have b1 : byteAt t 1 = code := Zeh htb (i := 1) rfl
  have b2 : byteAt t 2 = (l.length : Int) := Zeh htb (i := 2) rfl
  have b3 : byteAt t 3 = ((maskL l).length : Int) := Zeh htb (i := 3) rfl
  have hend : addI .i64 4 ((maskL l).length : Int) = ((4 + (maskL l).length : Nat) : Int) := by rw [Zv (by omega)]; omega
  have hdr : (blkT l kind code vb).drop 4 = maskL l ++ vb := rfl
  have hmask : Zf (cutS t 4 ((4 + (maskL l).length : Nat) : Int)) = maskL l := by
    have := Zku t 4 (4 + (maskL l).length)
    rw [show ((4 : Nat) : Int) = 4 from rfl] at this
    rw [this, htb, hdr, Nat.add_sub_cancel_left, List.take_left]
  have hbody : Zf (cutS t ((4 + (maskL l).length : Nat) : Int) (t.size : Int)) = vb := by
    rw [Zfz, htb, ← List.drop_drop, hdr, List.drop_left]
  have hmaskS : cutS t 4 ((4 + (maskL l).length : Nat) : Int) = ofBytes (maskL l) := (Zcf _).symm.trans (congrArg ofBytes hmask)
  have hbodyS : cutS t ((4 + (maskL l).length : Nat) : Int) (t.size : Int) = ofBytes vb := (Zcf _).symm.trans (congrArg ofBytes hbody)
  rw [ne_f rfl, cond_false, Zcb, lt_f (by omega), cond_false, Zt (by omega), cond_true, b3, b2, b1, b0, Zud (n := ((maskL l).length : Int)) (by omega), Zud (n := (l.length : Int)) (by omega), Zud (n := code) (by omega), Zud (n := kind) (by omega), Zdd (by omega), lt_f (by omega), cond_false, cond_true,
    Zt (by omega), cond_true, Zt (by omega), cond_true, Zt (by omega), cond_true, hend, Zmc (by omega), cond_true, Zmc (by omega), cond_true, Zpq l (by omega) (by omega) hmask, Option.bind_some]
  dsimp only
  have hsub : subI .i64 (l.length : Int) ((l.length - (restC l).length : Nat) : Int) = ((restC l).length : Int) := by rw [Zdd (by omega)]; omega
  rw [ne_f rfl, cond_false, hsub, hcells _ hbody, Option.bind_some]
  dsimp only
  rw [ne_f rfl, cond_false, Zo7 l (by omega) (by omega) hz hmask, Option.bind_some]
  dsimp only
  rw [ne_f rfl, cond_false, hput, Option.bind_some]
  dsimp only
  rw [eq_t rfl, cond_true, eqS_t rfl, hmaskS, hbodyS]
theorem Zmn1 (l : List Int) (hl : l.length ≤ 65536) (h : Int × Int × Int × Int) (e : Int) : ∀ (d i n : Nat), d = l.length - i → i ≤ l.length → d < n →
    Zha.l0 n ((l.take i).map fun x => ((h.1, x, eB) : Cell)) e l (l.length : Int) (i : Int) h = some (l.map fun x => ((h.1, x, eB) : Cell), e) := by
  intro d
  induction d with
  | zero =>
    intro i n hd hi hn
    have : i = l.length := by omega
    subst this
    obtain ⟨n, rfl⟩ : ∃ k, n = k + 1 := ⟨n - 1, by omega⟩
    show Zha.S0 _ _ _ _ _ _ _ = _
    unfold Zha.S0
    rw [lt_f (by omega), cond_false, List.take_length]
  | succ d ih =>
    intro i n hd hi hn
    obtain ⟨n, rfl⟩ : ∃ k, n = k + 1 := ⟨n - 1, by omega⟩
    have hlt : i < l.length := by omega
    show Zha.S0 (Zha.l0 n) _ _ _ _ _ _ = _
    unfold Zha.S0
    rw [lt_t (by omega), cond_true, Zt (by rw [Zd]; omega), cond_true, Zea (by rw [List.length_map, List.length_take]; omega), cond_true, Zba hlt, Zv (by omega)]
    have := ih (i + 1) n (by omega) (by omega) (by omega)
    rw [take_one hlt, List.map_append] at this
    exact this
theorem Zg1 {s : ByteArray} {l : List Int} (hl : l.length ≤ 65536) {code k n : Int} (hs : Zul s n code = some (l, 0)) (m : Int) : Zha s n (1, code, m, k) = some (l.map fun x => ((1, x, eB) : Cell), 0) := by
  show Zha.S (Zha.l0 fu) _ s n _ = _
  unfold Zha.S
  dsimp only
  rw [eq_t rfl, cond_true, hs, Option.bind_some]
  exact Zmn1 l hl (1, code, m, k) 0 l.length 0 fu (by omega) (by omega) (by unfold fu; omega)
def widN (l : List Int) : Nat := ((Zwa l).getD 0).toNat
theorem Zme (l : List Int) (hl : l.length ≤ 65536) : Zwa l = some (widN l : Int) ∧ widN l ≤ 64 ∧ Wd l (widN l) := by
  obtain ⟨v, h1, h2, h3⟩ := Zkk l (by omega)
  have : widN l = v := by unfold widN; rw [h1]; rfl
  rw [this]
  exact ⟨h1, h2, h3⟩
def runO (l : List Int) : List Run := (Zfd l).getD []
theorem Zej (l : List Int) (hl : l.length ≤ 65536) : Zfd l = some (runO l) ∧ flatR (runO l) = l ∧ okR 0 none (runO l) := by
  obtain ⟨o, h1, h2, h3⟩ := Zsj1 l hl
  have : runO l = o := by unfold runO; rw [h1]; rfl
  rw [this]
  exact ⟨h1, h2, h3⟩
def numB (l : List Int) (code : Int) : Option (List Int) :=
  if code = 1 then some (packB l 64)
  else if code = 2 then some (runB (runO l))
  else if code = 3 then some (Zni l (widN (Zvb l)))
  else if code = 4 then some (dictB l (widN (Zpa l)))
  else if code = 5 then some ((widN l : Int) :: packB l (widN l))
  else none
theorem Ze0 (l : List Int) (hl : l.length ≤ 65536) (code : Int) : Zsg l code = some (match numB l code with | some b => (ofBytes b, 0) | none => (eB, 1)) := by
  unfold Zsg numB
  by_cases h1 : code = 1
  · rw [eq_t h1, cond_true, if_pos h1, Zg0 l (by omega)]
    rfl
  · rw [eq_f h1, cond_false, if_neg h1]
    by_cases h2 : code = 2
    · obtain ⟨k1, k2, k3⟩ := Zej l hl
      rw [eq_t h2, cond_true, if_pos h2, k1, Option.bind_some, Zcz _ k3 (by rw [k2]; exact hl)]
      rfl
    · rw [eq_f h2, cond_false, if_neg h2]
      by_cases h3 : code = 3
      · have hfl := Zph l
        obtain ⟨k1, k2, _⟩ := Zme (Zvb l) (by omega)
        rw [eq_t h3, cond_true, if_pos h3, Zsu l hl k1 k2]
        rfl
      · rw [eq_f h3, cond_false, if_neg h3]
        by_cases h4 : code = 4
        · have hpl := Zeg l
          obtain ⟨k1, k2, _⟩ := Zme (Zpa l) (by omega)
          rw [eq_t h4, cond_true, if_pos h4, Zi1 l hl k1 k2]
          rfl
        · rw [eq_f h4, cond_false, if_neg h4]
          by_cases h5 : code = 5
          · obtain ⟨k1, k2, _⟩ := Zme l hl
            have hb : l.length * widN l ≤ 65536 * 64 := Nat.mul_le_mul hl k2
            have hpl := Zsd l (widN l)
            have r1 : roomS (ofBytes [(widN l : Int)]) (ofBytes (packB l (widN l))) = true := decide_eq_true (by rw [Zo, Zo]; simp; omega)
            rw [eq_t h5, cond_true, if_pos h5, k1, Option.bind_some, Zpj l k2 hl k1 (Nat.le_refl _), Option.bind_some, Zux k2]
            dsimp only
            rw [r1, cond_true, Zbd]
            rfl
          · rw [eq_f h5, cond_false, if_neg h5]
theorem Zuz1 {l : List Int} (hl : l.length ≤ 65536) {code : Int} {b : List Int} (h : numB l code = some b) : (∀ x ∈ b, 0 ≤ x ∧ x < 256) ∧ b.length ≤ 20 * l.length + 8 * l.length + 40 := by
  unfold numB at h
  have pw : ∀ (m : List Int) (w : Nat), w ≤ 64 → (packB m w).length ≤ 8 * m.length := fun m w hw => by
    rw [Zsd]
    have : m.length * w ≤ m.length * 64 := Nat.mul_le_mul_left _ hw
    omega
  split at h
  · cases h
    exact ⟨Zxk _ _, by have := pw l 64 (by omega); omega⟩
  · split at h
    · cases h
      obtain ⟨_, k2, k3⟩ := Zej l hl
      have h1 := Zqh (runO l)
      have h2 := Zgf _ _ _ k3
      rw [k2] at h2
      exact ⟨Zct _, by omega⟩
    · split at h
      · cases h
        have hfl := Zph l
        obtain ⟨_, k2, _⟩ := Zme (Zvb l) (by omega)
        refine ⟨Zqj1 l k2, ?_⟩
        have h1 := Zjd (l.getD 0 0)
        have h2 := Zjd (minF (diffs l))
        have h3 := pw (Zvb l) _ k2
        unfold Zni
        split
        · simp
        · split
          · omega
          · rw [List.length_append, List.length_append, List.length_cons]; omega
      · split at h
        · cases h
          have hpl := Zeg l
          have hdl := Zmh l
          obtain ⟨_, k2, _⟩ := Zme (Zpa l) (by omega)
          have h1 := Zjd ((dictI l).length : Int)
          have h2 := Zli (dictI l)
          have h3 := pw (Zpa l) _ k2
          unfold dictB
          split
          · exact ⟨fun x hx => (by cases hx), by simp⟩
          · refine ⟨fun x hx => ?_, by rw [List.length_append, List.length_append]; omega⟩
            rcases List.mem_append.1 hx with hx | hx
            · exact Zwh _ x hx
            · rcases List.mem_append.1 hx with hx | hx
              · exact Zqu _ x hx
              · exact Zxk _ _ x hx
        · split at h
          · cases h
            obtain ⟨_, k2, _⟩ := Zme l hl
            have h3 := pw l _ k2
            refine ⟨fun x hx => ?_, by rw [List.length_cons]; omega⟩
            rcases List.mem_cons.1 hx with rfl | hx
            · omega
            · exact Zxk _ _ x hx
          · cases h
theorem Zat {o : List Run} {n : Nat} {p : Option Int} (h : okR n p o) : ∀ r ∈ o, r.1 ∈ flatR o := by
  induction o generalizing n p with
  | nil => intro r hr; cases hr
  | cons a o ih =>
    intro r hr
    obtain ⟨_, h1, _, h2⟩ := h
    rw [Zag]
    rcases List.mem_cons.1 hr with rfl | hr
    · exact List.mem_append_left _ (List.mem_replicate.2 ⟨by omega, rfl⟩)
    · exact List.mem_append_right _ (ih h2 r hr)
theorem Zi7 {l : List Int} (hl : l.length ≤ 65536) (h64 : ∀ x ∈ l, in64 x) {code : Int} {b : List Int} (h : numB l code = some b) {s : ByteArray} (hs : Zf s = b) : Zul s (l.length : Int) code = some (l, 0) := by
  unfold numB at h
  unfold Zul
  by_cases h1 : code = 1
  · rw [if_pos h1] at h
    cases h
    rw [eq_t h1, cond_true, Zvj1 hl h64 hs]
    rfl
  · rw [if_neg h1] at h
    rw [eq_f h1, cond_false]
    by_cases h2 : code = 2
    · rw [if_pos h2] at h
      cases h
      obtain ⟨_, k2, k3⟩ := Zej l hl
      have := Zwu (runO l) k3 (by rw [k2]; exact hl) (fun r hr => h64 _ (by rw [← k2]; exact Zat k3 r hr)) hs
      rw [k2] at this
      rw [eq_t h2, cond_true, this, Option.bind_some]
      dsimp only
      rw [ne_f rfl, cond_false, Zxu _ k3 (by rw [k2]; exact hl), k2]
      rfl
    · rw [if_neg h2] at h
      rw [eq_f h2, cond_false]
      by_cases h3 : code = 3
      · rw [if_pos h3] at h
        cases h
        have hfl := Zph l
        obtain ⟨k1, k2, k3⟩ := Zme (Zvb l) (by omega)
        rw [eq_t h3, cond_true, Zk7 l hl h64 k1 k2 k3 hs]
        rfl
      · rw [if_neg h3] at h
        rw [eq_f h3, cond_false]
        by_cases h4 : code = 4
        · rw [if_pos h4] at h
          cases h
          have hpl := Zeg l
          obtain ⟨k1, k2, k3⟩ := Zme (Zpa l) (by omega)
          rw [eq_t h4, cond_true, Zf0 l hl h64 k2 k3 hs]
          rfl
        · rw [if_neg h4] at h
          rw [eq_f h4, cond_false]
          by_cases h5 : code = 5
          · rw [if_pos h5] at h
            cases h
            obtain ⟨k1, k2, k3⟩ := Zme l hl
            have hne : s ≠ eB := fun he => by
              have := size0.1 he
              rw [← Zja, hs, List.length_cons] at this
              omega
            have hsz : s.size = (packB l (widN l)).length + 1 := by rw [← Zja, hs, List.length_cons]
            have hcut : Zf (cutS s 1 (lenS s)) = packB l (widN l) := Zwf (a := [(widN l : Int)]) (rest := packB l (widN l)) hs
            have hb0 : byteAt s 0 = (widN l : Int) := Zeh hs (i := 0) rfl
            rw [eq_t h5, cond_true, eqS_f hne, Bool.not_false, cond_true, Zmc (by rw [Zcb]; omega), cond_true, Zt (by rw [Zcb]; omega), cond_true, hb0, Zud (by omega), Zbn k2 hl h64 k3.1 hcut]
            rfl
          · rw [if_neg h5] at h
            cases h
end Go.AM.Pure
end

section
/- BlockSame. -/
namespace Go.AM.Pure
open Go.AM
set_option maxRecDepth 100000 in
theorem Zy3 : Zzj = some true := by kernel_rfl
theorem Zi8 {s : ByteArray} {h : Int × Int × Int × Int} {m b : ByteArray} {l : List Cell} (hr : Ztf s = some ((h, m, b, l), true)) : Zth s = some (l, 0) ∧ Zuh s = some (h, 0) ∧ Zp1 s = some (b, m, 0) := by
  refine ⟨?_, ?_, ?_⟩
  · unfold Zth; rw [hr]; rfl
  · unfold Zuh; rw [hr]; rfl
  · unfold Zp1; rw [hr]; rfl
end Go.AM.Pure
end
