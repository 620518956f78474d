import Derived.Test.YtboihdnijlilpaaDoorAmPRow67
import Derived.Test.YtboihdnijlilpaaDoorAmPrimW
import Derived.Lib.ReplaceLaws
import Derived.Test.YtboihdnijlilpaaDoorAmP06
section
/- Numerals and quotes: what the library's functions come to at the texts that are written. Plain lists. -/
namespace Go.AM.Pure
open Go.AM

/-- Every quote is written twice. -/
def dbl : List UInt8 → List UInt8
  | [] => []
  | b :: l => if b = 39 then 39 :: 39 :: dbl l else b :: dbl l

theorem dbl_len : ∀ l : List UInt8, l.length ≤ (dbl l).length ∧ (dbl l).length ≤ 2 * l.length
  | [] => ⟨Nat.le_refl _, Nat.le_refl _⟩
  | b :: l => by
    have := dbl_len l
    unfold dbl
    split <;> simp only [List.length_cons] <;> omega
theorem dbl_cons (b : UInt8) (l : List UInt8) : dbl (b :: l) = (if b = 39 then [39, 39] else [b]) ++ dbl l := by
  show (if b = 39 then 39 :: 39 :: dbl l else b :: dbl l) = _
  split <;> rfl
theorem dbl_append : ∀ a b : List UInt8, dbl (a ++ b) = dbl a ++ dbl b
  | [], b => rfl
  | x :: a, b => by
    show dbl (x :: (a ++ b)) = _
    rw [dbl_cons, dbl_cons, dbl_append a b, List.append_assoc]

/-- All instances are replaced. -/
def repl (old new s : List UInt8) : List UInt8 := Lib.replaceK old new (Lib.count s old) s

theorem repl_nil {old new : List UInt8} (h : old ≠ []) : repl old new [] = [] := by
  unfold repl
  rw [Lib.count_miss (by cases old with | nil => exact absurd rfl h | cons a l => rfl)]
  rfl
theorem repl_hit {old new s : List UInt8} (h : old ≠ []) (hp : old.isPrefixOf s = true) : repl old new s = new ++ repl old new (s.drop old.length) := by
  have hi : Lib.index s old = ((0 : Nat) : Int) := by
    cases s with
    | nil => cases old with
      | nil => exact absurd rfl h
      | cons a l => exact absurd hp (by simp [List.isPrefixOf])
    | cons b l => rw [Lib.index, if_pos hp]; rfl
  unfold repl
  rw [Lib.count_hit h hi, Nat.add_comm 1, Lib.replaceK_hit _ _ _ _ 0 hi]
  simp
theorem repl_skip {old new : List UInt8} {b : UInt8} {l : List UInt8} (h : old ≠ []) (hp : old.isPrefixOf (b :: l) = false) : repl old new (b :: l) = b :: repl old new l := by
  have hix : Lib.index (b :: l) old = if Lib.index l old == -1 then -1 else Lib.index l old + 1 := by rw [Lib.index, hp]; simp
  unfold repl
  by_cases hm : Lib.index l old = -1
  · rw [Lib.count_miss hm, Lib.count_miss (by rw [hix, if_pos (beq_iff_eq.2 hm)])]
    rfl
  · have hge := Lib.index_ge l old
    obtain ⟨j, hj⟩ : ∃ j : Nat, Lib.index l old = j := ⟨(Lib.index l old).toNat, by omega⟩
    have hix' : Lib.index (b :: l) old = ((j + 1 : Nat) : Int) := by rw [hix, if_neg (fun e => hm (beq_iff_eq.1 e)), hj]; omega
    rw [Lib.count_hit h hj, Lib.count_hit h hix', Nat.add_comm 1, Nat.add_comm 1, Lib.replaceK_hit _ _ _ _ _ hix', Lib.replaceK_hit _ _ _ _ _ hj]
    simp [Nat.add_right_comm]

theorem repl_dbl : ∀ l : List UInt8, repl [39] [39, 39] l = dbl l
  | [] => repl_nil (by simp)
  | b :: l => by
    by_cases h : b = 39
    · subst h
      rw [repl_hit (by simp) (by simp [List.isPrefixOf])]
      simp [dbl, repl_dbl l]
    · rw [repl_skip (by simp) (by simp [List.isPrefixOf]; exact fun e => h e.symm), repl_dbl l]
      simp [dbl, h]
theorem repl_back : ∀ l : List UInt8, repl [39, 39] [39] (dbl l) = l
  | [] => repl_nil (by simp)
  | b :: l => by
    by_cases h : b = 39
    · subst h
      have e : dbl (39 :: l) = 39 :: 39 :: dbl l := by simp [dbl]
      rw [e, repl_hit (by simp) (by simp [List.isPrefixOf])]
      simp [repl_back l]
    · have e : dbl (b :: l) = b :: dbl l := by simp [dbl, h]
      rw [e, repl_skip (by simp) (by simp [List.isPrefixOf]; exact fun e => absurd e.symm h), repl_back l]

theorem replaceAll_repl {old new s : List UInt8} (h : (old == new) = false) : Lib.replaceAll s old new = repl old new s := by
  unfold Lib.replaceAll Lib.replace Lib.replaceNum repl
  rw [h, if_pos (Or.inl (by decide))]
  rfl

/-! ### Numerals -/

theorem dd_head : ∀ u : Nat, ∃ c r, Lib.decDigits u = c :: r ∧ 48 ≤ c.toNat ∧ c.toNat ≤ 57 := by
  intro u
  induction u using Nat.strongRecOn with
  | _ u ih =>
    by_cases h : u < 10
    · rw [Lib.decDigits, dif_pos h]
      refine ⟨_, _, rfl, ?_⟩
      rw [UInt8.toNat_ofNat']
      omega
    · obtain ⟨c, r, e, h1⟩ := ih (u / 10) (by omega)
      rw [Lib.decDigits, dif_neg h, e]
      exact ⟨c, _, rfl, h1⟩
theorem dd_len {u : Nat} (h : u < 10 ^ 20) : (Lib.decDigits u).length ≤ 20 := by
  have : ∀ (k u : Nat), u < 10 ^ (k + 1) → (Lib.decDigits u).length ≤ k + 1 := by
    intro k
    induction k with
    | zero => intro u hu; rw [Lib.decDigits, dif_pos (by omega)]; simp
    | succ k ih =>
      intro u hu
      rw [Lib.decDigits]
      split
      · simp
      · rw [List.length_append]
        have := ih (u / 10) (by rw [Nat.pow_succ] at hu; omega)
        simp only [List.length_cons, List.length_nil]
        omega
  exact this 19 u h

theorem parse_dd : ∀ (u : Nat), u < 18446744073709551616 → ∀ r, Lib.parseUint10 0 (Lib.decDigits u ++ r) = Lib.parseUint10 u r := by
  intro u
  induction u using Nat.strongRecOn with
  | _ u ih =>
    intro hu r
    have hd : ∀ d, d < 10 → (UInt8.ofNat (48 + d)).toNat = 48 + d := fun d h => by rw [UInt8.toNat_ofNat']; omega
    by_cases h : u < 10
    · rw [Lib.decDigits, dif_pos h]
      show Lib.parseUint10 0 (UInt8.ofNat (48 + u) :: r) = _
      rw [Lib.parseUint10, hd u h, if_pos (by omega), if_neg (by omega), if_neg (by omega)]
      congr 1; omega
    · rw [Lib.decDigits, dif_neg h, List.append_assoc, ih (u / 10) (by omega) (by omega)]
      show Lib.parseUint10 (u / 10) (UInt8.ofNat (48 + u % 10) :: r) = _
      rw [Lib.parseUint10, hd (u % 10) (by omega), if_pos (by omega), if_neg (by omega), if_neg (by omega)]
      congr 1; omega
theorem parseMag_dd {u : Nat} (h : u < 18446744073709551616) : Lib.parseMag (Lib.decDigits u) = .ok u := by
  obtain ⟨c, r, e, _⟩ := dd_head u
  unfold Lib.parseMag
  rw [if_neg (by rw [e]; simp)]
  have := parse_dd u h []
  rw [List.append_nil] at this
  rw [this]
  rfl
theorem atoi_itoa {n : Int} (h : in64 n) : Lib.atoiAll (Lib.itoa n) = .ok n := by
  unfold in64 at h
  unfold Lib.itoa
  split
  · rw [Lib.atoiAll_minus, parseMag_dd (by omega)]
    simp only [Lib.signed]
    rw [if_neg (by omega)]
    congr 1; omega
  · obtain ⟨c, r, e, h1, h2⟩ := dd_head n.toNat
    rw [e, Lib.atoiAll_plain c r (by omega) (by omega), ← e, parseMag_dd (by omega)]
    simp only [Lib.signless]
    rw [if_neg (by omega)]
    congr 1; omega
theorem itoa_head (n : Int) : ∃ c r, Lib.itoa n = c :: r ∧ c.toNat ≤ 57 ∧ c.toNat ≠ 39 := by
  unfold Lib.itoa
  split
  · exact ⟨45, _, rfl, by decide, by decide⟩
  · obtain ⟨c, r, e, h1, h2⟩ := dd_head n.toNat
    exact ⟨c, r, e, by omega, by omega⟩
theorem itoa_len {n : Int} (h : in64 n) : (Lib.itoa n).length ≤ 21 := by
  unfold in64 at h
  unfold Lib.itoa
  split
  · have := dd_len (u := n.natAbs) (by omega)
    rw [List.length_cons]; omega
  · have := dd_len (u := n.toNat) (by omega)
    omega

end Go.AM.Pure
end

section
/- cell.Show and the reference's Show write the same text. -/
namespace Go.AM.Pure
open Go.AM

abbrev mkB (l : List UInt8) : ByteArray := ⟨l.toArray⟩
theorem mkB_list (l : List UInt8) : (mkB l).data.toList = l := rfl
theorem mkB_of (s : ByteArray) : mkB s.data.toList = s := by cases s; simp [mkB]
theorem mkB_inj {a b : List UInt8} (h : mkB a = mkB b) : a = b := congrArg (fun s : ByteArray => s.data.toList) h
theorem mkB_size (l : List UInt8) : (mkB l).size = l.length := rfl
theorem lenS_mk (l : List UInt8) : lenS (mkB l) = (l.length : Int) := rfl
theorem addS_mk (a b : List UInt8) : addS (mkB a) (mkB b) = mkB (a ++ b) := by
  apply bytes_ext.1
  show (mkB a ++ mkB b).data.toList = _
  rw [ByteArray.data_append]
  simp
theorem size_list (s : ByteArray) : s.size = s.data.toList.length := by rw [Array.length_toList]; rfl
theorem byteAt_mk (l : List UInt8) (i : Nat) : byteAt (mkB l) (i : Int) = ((l.getD i 0).toNat : Int) := rfl
theorem byteAt_mid {l A B : List UInt8} {c : UInt8} (h : l = A ++ c :: B) : byteAt (mkB l) (A.length : Int) = (c.toNat : Int) := by
  subst h
  rw [byteAt_mk]
  simp [List.getD]

/-- The text of a cell. -/
def sh (c : Cell) : List UInt8 :=
  if c.1 = 0 then [110, 117, 108, 108] else if c.1 = 1 then Lib.itoa c.2.1 else if c.1 = 2 then 39 :: dbl c.2.2.data.toList ++ [39] else [63]

theorem replS_eq {s : ByteArray} {old new : List UInt8} (hs : s.size < 1000000) (h1 : 1 ≤ old.length) (h2 : new.length ≤ 2) (h : (old == new) = false) :
    replS s (mkB old) (mkB new) = some (mkB (repl old new s.data.toList)) := by
  unfold replS
  have hc := Lib.count_le s.data.toList old
  have : Lib.countB s (mkB old) = Lib.count s.data.toList old := rfl
  have hm : Lib.count s.data.toList old * new.length ≤ 1000001 * 2 := Nat.mul_le_mul (by rw [← size_list] at hc; omega) h2
  rw [decide_eq_true (show s.size < 4294967281 by omega), decide_eq_true (show 1 ≤ (mkB old).size from h1),
    decide_eq_true (show s.size + Lib.countB s (mkB old) * (mkB new).size ≤ 140737488355328 by rw [this]; show s.size + Lib.count s.data.toList old * new.length ≤ _; omega)]
  show some _ = some _
  rw [mkB_list, mkB_list, replaceAll_repl h]

theorem itoaS_eq {n : Int} (h : in64 n) : itoaS n = some (mkB (Lib.itoa n)) := by
  unfold in64 at h
  unfold itoaS
  rw [le_t h.1, le_t (show n ≤ 9223372036854775807 by omega)]
  rfl

theorem cell_Show_eq {c : Cell} (hn : in64 c.2.1) (hs : c.2.2.size < 1000000) : cell_Show c = some (mkB (sh c)) := by
  refine ret_eq ?_
  unfold cell_Show
  refine ret_eqI (fun h0 => ?_) (fun h0 => ?_)
  · refine ret_some ?_
    unfold sh
    rw [if_pos h0]; rfl
  refine ret_eqI (fun h1 => ?_) (fun h1 => ?_)
  · refine ret_bind_eq (itoaS_eq hn) (ret_some ?_)
    unfold sh
    rw [if_neg h0, if_pos h1]
  refine ret_eqI (fun h2 => ?_) (fun h2 => ?_)
  · refine ret_bind_eq (replS_eq (old := [39]) (new := [39, 39]) hs (by decide) (by decide) (by decide)) ?_
    rw [repl_dbl]
    have hd := (dbl_len c.2.2.data.toList).2
    rw [← size_list] at hd
    refine ret_gd (show (bs [39]).size + (mkB (dbl c.2.2.data.toList)).size ≤ 9223372036854775807 by show 1 + (dbl c.2.2.data.toList).length ≤ _; omega) ?_
    rw [show bs [39] = mkB [39] from rfl, addS_mk, addS_mk]
    refine ret_gd (show (mkB _).size + (mkB _).size ≤ 9223372036854775807 by rw [mkB_size, mkB_size]; show (dbl c.2.2.data.toList).length + 1 + 1 ≤ _; omega) (ret_some ?_)
    unfold sh
    rw [if_neg h0, if_neg h1, if_pos h2]; rfl
  · refine ret_some ?_
    unfold sh
    rw [if_neg h0, if_neg h1, if_neg h2]; rfl

/-! ### The reference's digits -/

theorem dig_step {u : Nat} (hu : 0 < u) (hu2 : u ≤ 9223372036854775808) (acc : List UInt8) (ha : acc.length < 1000) (n : Nat) (o1 : ByteArray → Option ByteArray) :
    ref06_digits.l0 o1 (n + 1) (-(u : Int)) (mkB acc) = ref06_digits.l0 o1 n (-((u / 10 : Nat) : Int)) (mkB (UInt8.ofNat (48 + u % 10) :: acc)) := by
  show ref06_digits.S0 o1 (ref06_digits.l0 o1 n) (-(u : Int)) (mkB acc) = _
  unfold ref06_digits.S0
  have hr : remI (-(u : Int)) 10 = -((u % 10 : Nat) : Int) := by
    unfold remI
    rw [Int.neg_tmod, Int.ofNat_tmod]; rfl
  have hq : quoI .i64 (-(u : Int)) 10 = -((u / 10 : Nat) : Int) := by
    unfold quoI
    have : (-(u : Int)).tdiv 10 = -((u / 10 : Nat) : Int) := by rw [Int.neg_tdiv, Int.ofNat_tdiv]; rfl
    rw [this]
    exact wrap64_of (by omega) (by omega)
  rw [lt_t (show -(u : Int) < 0 by omega), hr, hq, sub_of (show _ ∧ _ by omega), wrapU8]
  have e1 : ((48 - -((u % 10 : Nat) : Int)) % 256) = ((48 + u % 10 : Nat) : Int) := by omega
  rw [e1]
  have e2 : ofBytes [((48 + u % 10 : Nat) : Int)] = mkB [UInt8.ofNat (48 + u % 10)] := rfl
  rw [e2, show roomS (mkB [UInt8.ofNat (48 + u % 10)]) (mkB acc) = true from decide_eq_true (by rw [mkB_size, mkB_size]; simp only [List.length_cons, List.length_nil]; omega), addS_mk]
  rfl

theorem dig_loop (o1 : ByteArray → Option ByteArray) : ∀ (u : Nat), 0 < u → u ≤ 9223372036854775808 → ∀ (k : Nat), u < 10 ^ k → ∀ (acc : List UInt8) (n : Nat), acc.length + k < 1000 → k < n →
    ref06_digits.l0 o1 n (-(u : Int)) (mkB acc) = o1 (mkB (Lib.decDigits u ++ acc)) := by
  intro u
  induction u using Nat.strongRecOn with
  | _ u ih =>
    intro hu hu2 k hk acc n ha hn
    obtain ⟨n, rfl⟩ : ∃ m, n = m + 1 := ⟨n - 1, by omega⟩
    have hk0 : k ≠ 0 := fun e => by subst e; simp at hk; omega
    obtain ⟨k, rfl⟩ : ∃ m, k = m + 1 := ⟨k - 1, by omega⟩
    rw [dig_step hu hu2 acc (by omega)]
    by_cases h : u < 10
    · rw [show u / 10 = 0 by omega, Lib.decDigits, dif_pos h, show u % 10 = u by omega]
      obtain ⟨n, rfl⟩ : ∃ m, n = m + 1 := ⟨n - 1, by omega⟩
      rfl
    · rw [Nat.pow_succ] at hk
      rw [ih (u / 10) (by omega) (by omega) (by omega) k (by omega) _ n (by simp only [List.length_cons]; omega) (by omega)]
      conv => rhs; rw [Lib.decDigits, dif_neg h]
      rw [List.append_assoc]; rfl

theorem ref06_digits_eq {u : Nat} (hu : u ≤ 9223372036854775808) : ref06_digits (-(u : Int)) = some (mkB (Lib.decDigits u)) := by
  show ref06_digits.l0 (ref06_digits.t1 fu) fu (-(u : Int)) (mkB []) = _
  by_cases h0 : u = 0
  · subst h0
    rw [show Lib.decDigits 0 = [48] from by rw [Lib.decDigits, dif_pos (by decide)]; rfl]
    kernel_rfl
  · rw [dig_loop _ u (by omega) hu 20 (by omega) [] fu (by decide) (by unfold fu; omega), List.append_nil]
    show ref06_digits.S1 (mkB (Lib.decDigits u)) = _
    unfold ref06_digits.S1
    obtain ⟨c, r, e, _⟩ := dd_head u
    rw [eqS_f (show mkB (Lib.decDigits u) ≠ eB by rw [e]; exact fun h => by cases mkB_inj h)]
    rfl

/-! ### The reference's Show -/

theorem ref06_Show_num {c : Cell} (h1 : c.1 = 1) (hn : in64 c.2.1) : ref06_Show c = some (mkB (Lib.itoa c.2.1)) := by
  unfold in64 at hn
  refine ret_eq ?_
  show Ret (ref06_Show.S (ref06_Show.l0 fu) c) _
  unfold ref06_Show.S
  refine ret_eqI (fun h0 => absurd h0 (by omega)) (fun _ => ?_)
  refine ret_eqI (fun _ => ?_) (fun h => absurd h1 h)
  refine ret_lt (fun h => ?_) (fun h => ?_)
  · have e : c.2.1 = -((c.2.1.natAbs : Nat) : Int) := by omega
    rw [e]
    refine ret_bind_eq (ref06_digits_eq (u := c.2.1.natAbs) (by omega)) ?_
    have hl := dd_len (u := c.2.1.natAbs) (by omega)
    rw [show bs [45] = mkB [45] from rfl]
    refine ret_gd (show (mkB [45]).size + (mkB _).size ≤ 9223372036854775807 by rw [mkB_size, mkB_size]; show 1 + _ ≤ _; omega) (ret_some ?_)
    rw [addS_mk, ← e]
    unfold Lib.itoa
    rw [if_pos h]; rfl
  · have e : subI .i64 0 c.2.1 = -((c.2.1.toNat : Nat) : Int) := by rw [sub_of (by omega)]; omega
    rw [e]
    refine ret_bind_eq (ref06_digits_eq (u := c.2.1.toNat) (by omega)) (ret_some ?_)
    unfold Lib.itoa
    rw [if_neg (by omega)]

theorem getD_drop {l : List UInt8} {i : Nat} (h : i < l.length) : l.drop i = l.getD i 0 :: l.drop (i + 1) := by
  rw [List.drop_eq_getElem_cons h]
  simp [List.getD, h]

theorem rshow_loop (c : Cell) (hs : c.2.2.size < 1000000) : ∀ (d i n : Nat) (out : List Int), d = c.2.2.size - i → i ≤ c.2.2.size → d < n → out.length ≤ 1 + 2 * i →
    ref06_Show.l0 n out (i : Int) c = some (mkB ((ofBytes out).data.toList ++ dbl (c.2.2.data.toList.drop i) ++ [39])) := by
  intro d
  induction d with
  | zero =>
    intro i n out hd hi hn ho
    obtain ⟨n, rfl⟩ : ∃ k, n = k + 1 := ⟨n - 1, by omega⟩
    show ref06_Show.S0 (ref06_Show.l0 n) out (i : Int) c = _
    unfold ref06_Show.S0
    rw [lt_f (show lenS c.2.2 ≤ (i : Int) by rw [lenS_d]; omega), roomB_of (by omega), List.drop_of_length_le (by rw [← size_list]; omega)]
    simp only [cond_true, cond_false]
    rw [ofBytes_append, dbl, List.append_nil]
    have : ofBytes [39] = mkB [39] := rfl
    rw [this, ← mkB_of (ofBytes out)]
    show some (addS _ _) = _
    rw [addS_mk]
  | succ d ih =>
    intro i n out hd hi hn ho
    obtain ⟨n, rfl⟩ : ∃ k, n = k + 1 := ⟨n - 1, by omega⟩
    show ref06_Show.S0 (ref06_Show.l0 n) out (i : Int) c = _
    unfold ref06_Show.S0
    have hin : inB (i : Int) (lenS c.2.2) = true := inB_of (by rw [lenS_d]; omega)
    have hstep : addI .i64 (i : Int) 1 = ((i + 1 : Nat) : Int) := by rw [add_of (by omega)]; omega
    have hb : byteAt c.2.2 (i : Int) = ((c.2.2.data.toList.getD i 0).toNat : Int) := rfl
    have hdr : c.2.2.data.toList.drop i = c.2.2.data.toList.getD i 0 :: c.2.2.data.toList.drop (i + 1) := getD_drop (by rw [← size_list]; omega)
    rw [lt_t (show (i : Int) < lenS c.2.2 by rw [lenS_d]; omega), hin, hstep, hb, hdr, dbl_cons]
    simp only [cond_true]
    generalize c.2.2.data.toList.getD i 0 = b
    have one : (ofBytes [(b.toNat : Int)]) = mkB [b] := by
      show mkB [UInt8.ofNat b.toNat] = _
      rw [UInt8.ofNat_toNat]
    have snoc : ∀ o : List Int, (ofBytes (o ++ [(b.toNat : Int)])).data.toList = (ofBytes o).data.toList ++ [b] := fun o => by
      rw [ofBytes_append, one, ByteArray.data_append]
      simp
    by_cases h : b = 39
    · subst h
      rw [eq_t (show (((39 : UInt8).toNat : Nat) : Int) = 39 by decide)]
      simp only [cond_true, if_true]
      rw [roomB_of (by omega), roomB_of (by rw [List.length_append]; simp only [List.length_cons, List.length_nil]; omega)]
      simp only [cond_true]
      rw [ih (i + 1) n _ (by omega) (by omega) (by omega) (by rw [List.length_append, List.length_append]; simp only [List.length_cons, List.length_nil]; omega)]
      have e39 : (39 : Int) = (((39 : UInt8).toNat : Nat) : Int) := by decide
      rw [snoc, e39, snoc]
      simp
    · rw [eq_f (show ¬ ((b.toNat : Nat) : Int) = 39 by
        intro e
        apply h
        apply UInt8.toNat_inj.1
        have : (39 : UInt8).toNat = 39 := by decide
        omega)]
      simp only [cond_false, if_neg h]
      rw [roomB_of (by omega)]
      simp only [cond_true]
      rw [ih (i + 1) n _ (by omega) (by omega) (by omega) (by rw [List.length_append]; simp only [List.length_cons, List.length_nil]; omega), snoc]
      simp

theorem ref06_Show_eq {c : Cell} (hn : in64 c.2.1) (hs : c.2.2.size < 1000000) : ref06_Show c = some (mkB (sh c)) := by
  by_cases h1 : c.1 = 1
  · rw [ref06_Show_num h1 hn]
    unfold sh
    rw [if_neg (by omega), if_pos h1]
  refine ret_eq ?_
  show Ret (ref06_Show.S (ref06_Show.l0 fu) c) _
  unfold ref06_Show.S
  refine ret_eqI (fun h0 => ?_) (fun h0 => ?_)
  · refine ret_some ?_
    unfold sh
    rw [if_pos h0]; rfl
  refine ret_eqI (fun h => absurd h h1) (fun _ => ?_)
  refine ret_eqI (fun h2 => ?_) (fun h2 => ?_)
  · have := rshow_loop c hs c.2.2.size 0 fu [39] (by omega) (by omega) (by unfold fu; omega) (by decide)
    refine ret_of_eq this ?_
    unfold sh
    rw [if_neg h0, if_neg h1, if_pos h2, List.drop_zero]
    rfl
  · refine ret_some ?_
    unfold sh
    rw [if_neg h0, if_neg h1, if_neg h2]; rfl

end Go.AM.Pure
end

section
/- The reference reads what is written. -/
namespace Go.AM.Pure
open Go.AM

abbrev Rd := Cell × Int
abbrev noC : Cell := (0, 0, eB)

/-- What a Read answers: a cell that is written so, or no cell. -/
def Told (s : ByteArray) (r : Rd) : Prop := r = (noC, 20) ∨ ∃ c, ref06_May c = true ∧ in64 c.2.1 ∧ mkB (sh c) = s ∧ r = (c, 0)

theorem fu1 : ref06_number.t0 fu = ref06_number.S0 (ref06_number.l1 (ref06_number.S2 ref06_number.S3) (fu - 1)) := rfl

theorem quo_min {d : Int} (h0 : 0 ≤ d) (h9 : d ≤ 9) : quoI .i64 (addI .i64 (-9223372036854775808) d) 10 = -((9223372036854775808 - d) / 10) := by
  rw [add_of (by omega)]
  unfold quoI
  have e : -9223372036854775808 + d = -(9223372036854775808 - d) := by omega
  rw [e, Int.neg_tdiv, Int.tdiv_eq_ediv_of_nonneg (by omega)]
  exact wrap64_of (by omega) (by omega)

def Num (s : ByteArray) (r : Int × Bool) : Prop := r.2 = true → in64 r.1 ∧ mkB (Lib.itoa r.1) = s

theorem number_end {s : ByteArray} {n : Int} (down : Bool) (hn : in64 n) : Ret (ref06_number.S2 ref06_number.S3 s down n) (Num s) := by
  unfold ref06_number.S2
  have hn' := hn
  unfold in64 at hn'
  cases down with
  | true =>
    show Ret (ref06_number.S3 s true n) _
    show Ret ((ref06_Show (1, n, eB)).bind _) _
    refine ret_bind_eq (ref06_Show_num rfl hn) (ret_some fun h => ⟨hn, ?_⟩)
    rw [eqS_d] at h
    exact of_decide_eq_true h
  | false =>
    refine ret_true ?_
    refine ret_eqI (fun _ => ret_some fun h => nomatch h) (fun hm => ?_)
    show Ret ((ref06_Show (1, subI .i64 0 n, eB)).bind _) _
    have e : subI .i64 0 n = -n := by rw [sub_of (by omega)]; omega
    rw [e]
    have h2 : in64 (-n) := by unfold in64; omega
    refine ret_bind_eq (ref06_Show_num rfl h2) (ret_some fun h => ⟨h2, ?_⟩)
    rw [eqS_d] at h
    exact of_decide_eq_true h

theorem number_ret (s : ByteArray) (hs : s.size < 1000000) : Ret (ref06_number s) (Num s) := by
  have loop : ∀ (d i n : Nat) (m : Int) (down : Bool), d = s.size - i → i ≤ s.size → d < n → in64 m → m ≤ 0 →
      Ret (ref06_number.l1 (ref06_number.S2 ref06_number.S3) n s down m (i : Int)) (Num s) := by
    intro d
    induction d with
    | zero =>
      intro i n m down hd hi hn hm h0
      obtain ⟨n, rfl⟩ : ∃ k, n = k + 1 := ⟨n - 1, by omega⟩
      show Ret (ref06_number.S1 _ (ref06_number.l1 _ n) s down m (i : Int)) _
      unfold ref06_number.S1
      rw [lt_f (show lenS s ≤ (i : Int) by rw [lenS_d]; omega)]
      exact number_end down hm
    | succ d ih =>
      intro i n m down hd hi hn hm h0
      obtain ⟨n, rfl⟩ : ∃ k, n = k + 1 := ⟨n - 1, by omega⟩
      show Ret (ref06_number.S1 _ (ref06_number.l1 _ n) s down m (i : Int)) _
      unfold ref06_number.S1
      unfold in64 at hm
      have hb := byteAt_rng s (i : Int)
      rw [lt_t (show (i : Int) < lenS s by rw [lenS_d]; omega), inB_of (show 0 ≤ (i : Int) ∧ (i : Int) < lenS s by rw [lenS_d]; omega), wrap_byte, sub_of (show _ ∧ byteAt s (i : Int) - 48 < _ by omega), add_of (show _ ∧ (i : Int) + 1 < _ by omega)]
      refine ret_true (ret_true ?_)
      refine ret_lt (fun _ => ret_some fun h => nomatch h) (fun h1 => ?_)
      refine ret_lt (fun _ => ret_some fun h => nomatch h) (fun h2 => ?_)
      rw [quo_min h1 h2]
      refine ret_lt (fun _ => ret_some fun h => nomatch h) (fun h3 => ?_)
      have e1 : mulI .i64 10 m = 10 * m := mul_of (by omega)
      have e2 : subI .i64 (10 * m) (byteAt s (i : Int) - 48) = 10 * m - (byteAt s (i : Int) - 48) := sub_of (by omega)
      rw [e1, e2]
      exact ih (i + 1) n _ down (by omega) (by omega) (by omega) (by unfold in64; omega) (by omega)
  show Ret (ref06_number.S (ref06_number.t0 fu) s) _
  rw [fu1]
  unfold ref06_number.S
  have i0 : in64 0 := by unfold in64; omega
  refine ret_lt (fun h => ?_) (fun _ => ?_)
  · rw [lenS_d] at h
    refine ret_inB (by rw [lenS_d]; omega) (ret_eqI (fun _ => ?_) (fun _ => ?_))
    · exact loop _ 1 (fu - 1) 0 _ rfl (by omega) (by unfold fu; omega) i0 (Int.le_refl _)
    · exact loop _ 0 (fu - 1) 0 _ rfl (by omega) (by unfold fu; omega) i0 (Int.le_refl _)
  · exact loop _ 0 (fu - 1) 0 _ rfl (by omega) (by unfold fu; omega) i0 (Int.le_refl _)

/-- A number's loop goes through the digits of u. -/
theorem number_run (o2 : ByteArray → Bool → Int → Option (Int × Bool)) (down : Bool) (l : List UInt8) (hl : l.length < 1000000) : ∀ (u : Nat), u ≤ 9223372036854775808 → ∀ (A B : List UInt8), l = A ++ Lib.decDigits u ++ B → ∀ f,
    ref06_number.l1 o2 (f + (Lib.decDigits u).length) (mkB l) down 0 (A.length : Int) = ref06_number.l1 o2 f (mkB l) down (-(u : Int)) ((A.length + (Lib.decDigits u).length : Nat) : Int) := by
  have step : ∀ (m d : Nat) (A B : List UInt8) (f : Nat), d < 10 → 10 * m + d ≤ 9223372036854775808 → l = A ++ UInt8.ofNat (48 + d) :: B →
      ref06_number.l1 o2 (f + 1) (mkB l) down (-(m : Int)) (A.length : Int) = ref06_number.l1 o2 f (mkB l) down (-((10 * m + d : Nat) : Int)) ((A.length + 1 : Nat) : Int) := by
    intro m d A B f hd hm e
    show ref06_number.S1 _ (ref06_number.l1 _ f) (mkB l) down _ (A.length : Int) = _
    unfold ref06_number.S1
    have hlen : l.length = A.length + 1 + B.length := by rw [e]; simp; omega
    have hb : byteAt (mkB l) (A.length : Int) = 48 + d := by
      rw [byteAt_mid e, UInt8.toNat_ofNat']; omega
    rw [lt_t (show (A.length : Int) < lenS (mkB l) by rw [lenS_mk]; omega), inB_of (show 0 ≤ (A.length : Int) ∧ (A.length : Int) < lenS (mkB l) by rw [lenS_mk]; omega), hb,
      wrap_of (show _ ∧ (48 + (d : Int)) < _ by omega), sub_of (show _ ∧ (48 + (d : Int)) - 48 < _ by omega), add_of (show _ ∧ (A.length : Int) + 1 < _ by omega)]
    rw [show (48 + (d : Int)) - 48 = d by omega, lt_f (show 0 ≤ (d : Int) by omega), lt_f (show (d : Int) ≤ 9 by omega), quo_min (by omega) (by omega), lt_f (show _ ≤ -(m : Int) by omega),
      mul_of (show _ ∧ 10 * -(m : Int) < _ by omega), sub_of (show _ ∧ 10 * -(m : Int) - d < _ by omega)]
    simp only [cond_true, cond_false]
    congr 1
    · omega
  intro u
  induction u using Nat.strongRecOn with
  | _ u ih =>
    intro hu A B e f
    by_cases h : u < 10
    · have ed : Lib.decDigits u = [UInt8.ofNat (48 + u)] := by rw [Lib.decDigits, dif_pos h]
      rw [ed] at e ⊢
      have := step 0 u A B f h (by omega) (by rw [e]; simp)
      simp only [Nat.mul_zero, Nat.zero_add] at this
      exact this
    · have ed : Lib.decDigits u = Lib.decDigits (u / 10) ++ [UInt8.ofNat (48 + u % 10)] := by rw [Lib.decDigits, dif_neg h]
      rw [ed] at e ⊢
      have h1 := ih (u / 10) (by omega) (by omega) A (UInt8.ofNat (48 + u % 10) :: B) (by rw [e]; simp) (f + 1)
      have h2 := step (u / 10) (u % 10) (A ++ Lib.decDigits (u / 10)) B f (by omega) (by omega) (by rw [e]; simp)
      rw [List.length_append] at h2
      have e3 : 10 * (u / 10) + u % 10 = u := by omega
      rw [e3] at h2
      rw [List.length_append]
      have e4 : f + ((Lib.decDigits (u / 10)).length + [UInt8.ofNat (48 + u % 10)].length) = f + 1 + (Lib.decDigits (u / 10)).length := by simp only [List.length_cons, List.length_nil]; omega
      rw [e4, h1, h2]
      rfl

theorem number_itoa {n : Int} (hn : in64 n) : ref06_number (mkB (Lib.itoa n)) = some (n, true) := by
  have hlen := itoa_len hn
  have hS := ref06_Show_num (c := (1, n, eB)) rfl hn
  have hn' := hn
  unfold in64 at hn'
  show ref06_number.S (ref06_number.t0 fu) _ = _
  rw [fu1]
  unfold ref06_number.S
  obtain ⟨k, hk⟩ : ∃ k, fu - 1 = k + 100 := ⟨fu - 101, by unfold fu; rfl⟩
  by_cases h : n < 0
  · have e : Lib.itoa n = 45 :: Lib.decDigits n.natAbs := by unfold Lib.itoa; rw [if_pos h]
    rw [e] at hlen hS ⊢
    rw [lt_t (show 0 < lenS (mkB _) by rw [lenS_mk, List.length_cons]; omega), inB_of (show 0 ≤ (0 : Int) ∧ 0 < lenS (mkB _) by rw [lenS_mk, List.length_cons]; omega)]
    have hb : byteAt (mkB (45 :: Lib.decDigits n.natAbs)) 0 = 45 := rfl
    rw [hb]
    show ref06_number.l1 _ (fu - 1) _ true 0 1 = _
    have := number_run (ref06_number.S2 ref06_number.S3) true (45 :: Lib.decDigits n.natAbs) (by omega) n.natAbs (by omega) [45] [] (by simp) (k + 100 - (Lib.decDigits n.natAbs).length)
    rw [List.length_cons] at hlen
    rw [show k + 100 - (Lib.decDigits n.natAbs).length + (Lib.decDigits n.natAbs).length = k + 100 by omega, ← hk] at this
    refine this.trans ?_
    obtain ⟨f, hf⟩ : ∃ f, fu - 1 - (Lib.decDigits n.natAbs).length = f + 1 := ⟨k + 100 - (Lib.decDigits n.natAbs).length - 1, by rw [hk]; omega⟩
    rw [hf]
    show ref06_number.S1 _ (ref06_number.l1 _ f) _ true _ _ = _
    unfold ref06_number.S1
    rw [lt_f (show lenS (mkB _) ≤ _ by rw [lenS_mk, List.length_cons, List.length_cons]; simp only [List.length_nil]; omega), show -(n.natAbs : Int) = n by omega]
    show (ref06_Show (1, n, eB)).bind _ = _
    rw [hS, Option.bind_some, eqS_t rfl]
  · have e : Lib.itoa n = Lib.decDigits n.toNat := by unfold Lib.itoa; rw [if_neg h]
    obtain ⟨c, r, ec, h1, h2⟩ := dd_head n.toNat
    rw [e] at hlen hS ⊢
    have hl1 : 0 < (Lib.decDigits n.toNat).length := by rw [ec]; exact Nat.succ_pos _
    rw [lt_t (show 0 < lenS (mkB _) by rw [lenS_mk]; omega), inB_of (show 0 ≤ (0 : Int) ∧ 0 < lenS (mkB _) by rw [lenS_mk]; omega)]
    have hb : byteAt (mkB (Lib.decDigits n.toNat)) 0 = (c.toNat : Int) := by rw [ec]; rfl
    rw [hb, eq_f (show ¬ (c.toNat : Int) = 45 by omega)]
    show ref06_number.l1 _ (fu - 1) _ false 0 0 = _
    have := number_run (ref06_number.S2 ref06_number.S3) false (Lib.decDigits n.toNat) (by omega) n.toNat (by omega) [] [] (by simp) (k + 100 - (Lib.decDigits n.toNat).length)
    rw [show k + 100 - (Lib.decDigits n.toNat).length + (Lib.decDigits n.toNat).length = k + 100 by omega, ← hk] at this
    refine this.trans ?_
    obtain ⟨f, hf⟩ : ∃ f, fu - 1 - (Lib.decDigits n.toNat).length = f + 1 := ⟨k + 100 - (Lib.decDigits n.toNat).length - 1, by rw [hk]; omega⟩
    rw [hf]
    show ref06_number.S1 _ (ref06_number.l1 _ f) _ false _ _ = _
    unfold ref06_number.S1
    rw [lt_f (show lenS (mkB _) ≤ _ by rw [lenS_mk]; simp only [List.length_nil]; omega), show -(n.toNat : Int) = -n by omega]
    show ref06_number.S2 ref06_number.S3 _ false (-n) = _
    unfold ref06_number.S2
    rw [eq_f (show ¬ -n = -9223372036854775808 by omega)]
    show (ref06_Show (1, subI .i64 0 (-n), eB)).bind _ = _
    rw [show subI .i64 0 (-n) = n by rw [sub_of (by omega)]; omega, hS, Option.bind_some, eqS_t rfl]

/-! ### Read -/

theorem fu2 : ref06_Read.t1 fu = ref06_Read.S1 := rfl

theorem rread_end (s : ByteArray) (out : List Int) (ho : out.length < 1000000) : Ret (ref06_Read.S1 s out noC) (Told s) := by
  unfold ref06_Read.S1
  have i0 : in64 0 := by unfold in64; omega
  refine ret_not (ret_bif (fun hm => ?_) (fun _ => ret_some (Or.inl rfl)))
  refine ret_bind_eq (ref06_Show_eq (c := (2, 0, ofBytes out)) i0 (by rw [ofBytes_size]; exact ho)) ?_
  refine ret_not (ret_eqS (fun h => ?_) (fun _ => ret_some (Or.inl rfl)))
  exact ret_some (Or.inr ⟨_, hm, i0, h, rfl⟩)

theorem rread_ret (s : ByteArray) (hs : s.size < 900000) : Ret (ref06_Read s) (Told s) := by
  have loop : ∀ (n i : Nat) (out : List Int), s.size - i < n → i ≤ s.size + 2 → out.length ≤ i → Ret (ref06_Read.l0 ref06_Read.S1 n s out (i : Int) noC) (Told s) := by
    intro n
    induction n with
    | zero => intro i out h; exact absurd h (Nat.not_lt_zero _)
    | succ n ih =>
      intro i out hn hi ho
      show Ret (ref06_Read.S0 _ (ref06_Read.l0 _ n) s out (i : Int) noC) _
      unfold ref06_Read.S0
      refine ret_lt (fun h => ?_) (fun _ => ?_)
      · rw [lenS_d, sub_of (by omega)] at h
        refine ret_inB (by rw [lenS_d]; omega) (ret_room (by omega) (ret_inB (by rw [lenS_d]; omega) ?_))
        rw [add_of (show _ ∧ (i : Int) + 1 < _ by omega), add_of (show _ ∧ (i : Int) + 1 + 1 < _ by omega)]
        refine ret_eqI (fun _ => ?_) (fun _ => ?_)
        · exact ih (i + 2) _ (by omega) (by omega) (by rw [List.length_append]; simp only [List.length_cons, List.length_nil]; omega)
        · exact ih (i + 1) _ (by omega) (by omega) (by rw [List.length_append]; simp only [List.length_cons, List.length_nil]; omega)
      · exact rread_end s out (by omega)
  show Ret (ref06_Read.S (ref06_Read.l0 (ref06_Read.t1 fu) fu) s) _
  rw [fu2]
  unfold ref06_Read.S
  have i0 : in64 0 := by unfold in64; omega
  refine ret_eqS (fun h => ?_) (fun _ => ?_)
  · exact ret_some (Or.inr ⟨noC, by kernel_rfl, i0, h.symm, rfl⟩)
  refine ret_bind _ (number_ret s (by omega)) fun r hr => ?_
  refine ret_bif (fun h => ?_) (fun _ => ?_)
  · obtain ⟨h1, h2⟩ := hr h
    exact ret_some (Or.inr ⟨(1, r.1, eB), by kernel_rfl, h1, h2, rfl⟩)
  refine ret_lt (fun _ => ret_some (Or.inl rfl)) (fun h2 => ?_)
  rw [lenS_d] at h2
  refine ret_inB (by rw [lenS_d]; omega) ?_
  refine ret_neI (fun _ => ret_some (Or.inl rfl)) (fun _ => ?_)
  exact loop fu 1 [] (by unfold fu; omega) (by omega) (by simp)

theorem rread_run (o1 : ByteArray → List Int → Cell → Option Rd) (l : List UInt8) (hl : l.length < 1000000) (z : Cell) : ∀ (t A : List UInt8) (n : Nat) (out : List Int), l = A ++ dbl t ++ [39] → t.length < n → out.length ≤ A.length →
    ref06_Read.l0 o1 n (mkB l) out (A.length : Int) z = o1 (mkB l) (out ++ t.map fun b => (b.toNat : Int)) z := by
  intro t
  induction t with
  | nil =>
    intro A n out e hn ho
    obtain ⟨n, rfl⟩ : ∃ k, n = k + 1 := ⟨n - 1, by omega⟩
    show ref06_Read.S0 _ (ref06_Read.l0 _ n) _ _ _ _ = _
    unfold ref06_Read.S0
    have hlen : l.length = A.length + 1 := by rw [e]; simp [dbl]
    rw [lenS_mk, sub_of (show _ ∧ (l.length : Int) - 1 < _ by omega), lt_f (show _ ≤ (A.length : Int) by omega)]
    simp
  | cons b t ih =>
    intro A n out e hn ho
    rw [List.length_cons] at hn
    obtain ⟨n, rfl⟩ : ∃ k, n = k + 1 := ⟨n - 1, by omega⟩
    show ref06_Read.S0 _ (ref06_Read.l0 _ n) _ _ _ _ = _
    unfold ref06_Read.S0
    obtain ⟨q, hq⟩ : ∃ q, l = A ++ b :: q ∧ 1 ≤ q.length := by
      by_cases h : b = 39
      · exact ⟨39 :: dbl t ++ [39], by rw [e, dbl_cons, if_pos h]; simp [h], by simp⟩
      · exact ⟨dbl t ++ [39], by rw [e, dbl_cons, if_neg h]; simp, by simp⟩
    have hlen : l.length = A.length + 1 + q.length := by rw [hq.1]; simp; omega
    have hin : inB (A.length : Int) (lenS (mkB l)) = true := inB_of (by rw [lenS_mk]; omega)
    rw [hin, byteAt_mid hq.1, lenS_mk, sub_of (show _ ∧ (l.length : Int) - 1 < _ by omega), lt_t (show (A.length : Int) < _ by omega), roomB_of (show (out.length + 1) * 1 ≤ _ by omega),
      add_of (show _ ∧ (A.length : Int) + 1 < _ by omega), add_of (show _ ∧ (A.length : Int) + 1 + 1 < _ by omega)]
    simp only [cond_true]
    by_cases h : b = 39
    · subst h
      rw [eq_t (show (((39 : UInt8).toNat : Nat) : Int) = 39 by decide)]
      have := ih (A ++ [39, 39]) n (out ++ [(((39 : UInt8).toNat : Nat) : Int)]) (by rw [e, dbl_cons, if_pos rfl]; simp) (by omega) (by simp; omega)
      rw [List.length_append] at this
      refine this.trans ?_
      simp
    · rw [eq_f (show ¬ ((b.toNat : Nat) : Int) = 39 by
        intro e
        apply h
        apply UInt8.toNat_inj.1
        have : (39 : UInt8).toNat = 39 := by decide
        omega)]
      have := ih (A ++ [b]) n (out ++ [((b.toNat : Nat) : Int)]) (by rw [e, dbl_cons, if_neg h]; simp) (by omega) (by simp; omega)
      rw [List.length_append] at this
      refine this.trans ?_
      simp

theorem may_sh {c : Cell} (hm : ref06_May c = true) (hn : in64 c.2.1) : (sh c).length < 1000 := by
  rcases may_form hm with rfl | ⟨n, rfl⟩ | ⟨t, rfl, ht⟩
  · decide
  · have : (Lib.itoa n).length ≤ 21 := itoa_len hn
    show (Lib.itoa n).length < _
    omega
  · show (39 :: dbl t.data.toList ++ [39]).length < _
    have := (dbl_len t.data.toList).2
    rw [← size_list] at this
    simp only [List.length_append, List.length_cons, List.length_nil]
    omega

theorem rread_sh {c : Cell} (hm : ref06_May c = true) (hn : in64 c.2.1) : ref06_Read (mkB (sh c)) = some (c, 0) := by
  have hlen := may_sh hm hn
  have i0 : in64 0 := by unfold in64; omega
  refine ret_eq ?_
  show Ret (ref06_Read.S (ref06_Read.l0 (ref06_Read.t1 fu) fu) _) _
  rw [fu2]
  unfold ref06_Read.S
  rcases may_form hm with rfl | ⟨n, rfl⟩ | ⟨t, rfl, ht⟩
  · exact ret_eqS (fun _ => ret_some rfl) (fun h => absurd rfl h)
  · have es : sh (1, n, eB) = Lib.itoa n := rfl
    rw [es]
    refine ret_eqS (fun h => ?_) (fun _ => ?_)
    · obtain ⟨a, r, e, h1, _⟩ := itoa_head n
      rw [e] at h
      cases mkB_inj h
      exact absurd h1 (by decide)
    refine ret_bind_eq (number_itoa hn) (ret_true (ret_some rfl))
  · have es : sh (2, 0, t) = 39 :: dbl t.data.toList ++ [39] := rfl
    rw [es] at hlen ⊢
    refine ret_eqS (fun h => ?_) (fun _ => ?_)
    · have := mkB_inj h
      cases this
    refine ret_bind _ (number_ret _ (by rw [mkB_size]; omega)) fun r hr => ?_
    refine ret_bif (fun h => ?_) (fun _ => ?_)
    · obtain ⟨a, q, e, h1, h2⟩ := itoa_head r.1
      have := mkB_inj (hr h).2
      rw [e] at this
      cases this
      exact absurd rfl h2
    have hl2 : 2 ≤ (39 :: dbl t.data.toList ++ [39]).length := by simp
    refine ret_lt (fun h => absurd h (by rw [lenS_mk]; omega)) (fun _ => ?_)
    refine ret_inB (by rw [lenS_mk]; omega) ?_
    have hb : byteAt (mkB (39 :: dbl t.data.toList ++ [39])) 0 = 39 := rfl
    rw [hb]
    refine ret_neI (fun h => absurd rfl h) (fun _ => ?_)
    have hrun := rread_run ref06_Read.S1 (39 :: dbl t.data.toList ++ [39]) (by omega) noC t.data.toList [39] fu [] rfl (by rw [← size_list]; unfold fu; omega) (by simp)
    refine Ret.mono (ret_of_eq (x := ((2, 0, t), 0)) ?_ rfl) (fun _ h => h.symm)
    refine hrun.trans ?_
    have hot : ofBytes (([] : List Int) ++ t.data.toList.map fun b => (b.toNat : Int)) = t := ofBytes_toBytes t
    unfold ref06_Read.S1
    rw [hot, hm, ref06_Show_eq (c := (2, 0, t)) i0 (by show t.size < _; omega), es, Option.bind_some, eqS_t rfl]
    rfl

end Go.AM.Pure
end

section
/- cell.Read and the reference's Read; the law CellShows. -/
namespace Go.AM.Pure
open Go.AM

theorem cutS_mk (l : List UInt8) (i j : Nat) : cutS (mkB l) (i : Int) (j : Int) = mkB ((l.drop i).take (j - i)) := by
  apply bytes_ext.1
  unfold cutS
  rw [ByteArray.data_extract]
  simp

theorem hasPrefix_ret (s : ByteArray) (c : UInt8) : istringslite_HasPrefix s (mkB [c]) = some (decide (s.data.toList.head? = some c)) := by
  rw [← mkB_of s]
  generalize s.data.toList = l
  refine ret_eq ?_
  unfold istringslite_HasPrefix
  rw [lenS_mk, lenS_mk]
  refine ret_le (fun h => ?_) (fun h => ?_)
  · refine ret_inC (by simp only [List.length_cons, List.length_nil] at h ⊢; omega) (ret_some ?_)
    have := cutS_mk l 0 [c].length
    rw [show ((0 : Nat) : Int) = 0 from rfl] at this
    rw [this, eqS_d]
    cases l with
    | nil => simp at h
    | cons b l =>
      simp only [List.drop_zero, List.length_cons, List.length_nil]
      apply decide_eq_decide.2
      constructor
      · intro h; have := mkB_inj h; simpa using this
      · intro h; simp at h; subst h; rfl
  · cases l with
    | nil => exact ret_some rfl
    | cons b l => simp at h; omega

theorem cutPrefix_eq (s : ByteArray) (hs : s.size < 1000000) (c : UInt8) : strings_CutPrefix s (mkB [c]) = some (if s.data.toList.head? = some c then (mkB s.data.toList.tail, true) else (s, false)) := by
  refine ret_eq ?_
  unfold strings_CutPrefix istringslite_CutPrefix
  rw [hasPrefix_ret, Option.bind_some]
  by_cases h : s.data.toList.head? = some c
  · rw [decide_eq_true h, if_pos h]
    show Ret (Option.bind (bif inC _ _ _ then _ else none) _) _
    have e1 : 1 ≤ s.size := by
      rw [size_list]
      cases hl : s.data.toList with
      | nil => rw [hl] at h; cases h
      | cons b l => simp
    rw [show lenS (mkB [c]) = 1 from rfl, inC_of (show 0 ≤ (1 : Int) ∧ 1 ≤ lenS s ∧ lenS s ≤ lenS s by rw [lenS_d]; omega)]
    refine ret_some ?_
    have := cutS_mk s.data.toList 1 s.data.toList.length
    rw [mkB_of, ← size_list] at this
    rw [lenS_d, show (1 : Int) = ((1 : Nat) : Int) from rfl, this, List.take_of_length_le (by rw [List.length_drop, ← size_list]; omega), List.drop_one]
  · rw [decide_eq_false h, if_neg h]
    exact ret_some rfl

theorem hasSuffix_ret (s : ByteArray) (hs : s.size < 1000000) (c : UInt8) : istringslite_HasSuffix s (mkB [c]) = some (decide (s.data.toList.getLast? = some c)) := by
  rw [size_list] at hs
  rw [← mkB_of s]
  generalize s.data.toList = l at hs
  refine ret_eq ?_
  unfold istringslite_HasSuffix
  rw [show lenS (mkB [c]) = ((1 : Nat) : Int) from rfl, lenS_mk l]
  refine ret_le (fun h => ?_) (fun h => ?_)
  · have e : subI .i64 (l.length : Int) ((1 : Nat) : Int) = ((l.length - 1 : Nat) : Int) := by rw [sub_of (by omega)]; omega
    rw [e]
    refine ret_inC (by omega) (ret_some ?_)
    rw [cutS_mk, eqS_d]
    rcases List.eq_nil_or_concat l with rfl | ⟨q, b, rfl⟩
    · simp at h
    · simp only [List.concat_eq_append, List.length_append, List.length_cons, List.length_nil]
      apply decide_eq_decide.2
      rw [show q.length + (0 + 1) - 1 = q.length by omega, List.drop_left' rfl, show q.length + (0 + 1) - q.length = 1 by omega]
      constructor
      · intro h; have := mkB_inj h; simpa using this
      · intro h; simp at h; subst h; rfl
  · cases l with
    | nil => exact ret_some rfl
    | cons b l => simp at h; omega

theorem cutSuffix_eq (s : ByteArray) (hs : s.size < 1000000) (c : UInt8) : strings_CutSuffix s (mkB [c]) = some (if s.data.toList.getLast? = some c then (mkB s.data.toList.dropLast, true) else (s, false)) := by
  refine ret_eq ?_
  unfold strings_CutSuffix istringslite_CutSuffix
  rw [hasSuffix_ret s hs, Option.bind_some]
  by_cases h : s.data.toList.getLast? = some c
  · rw [decide_eq_true h, if_pos h]
    show Ret (Option.bind (bif inC _ _ _ then _ else none) _) _
    have e1 : 1 ≤ s.size := by
      rw [size_list]
      cases hl : s.data.toList with
      | nil => rw [hl] at h; cases h
      | cons b l => simp
    have e : subI .i64 (lenS s) (lenS (mkB [c])) = ((s.size - 1 : Nat) : Int) := by
      rw [show lenS (mkB [c]) = 1 from rfl, lenS_d, sub_of (by omega)]; omega
    rw [e, inC_of (show 0 ≤ (0 : Int) ∧ 0 ≤ ((s.size - 1 : Nat) : Int) ∧ ((s.size - 1 : Nat) : Int) ≤ lenS s by rw [lenS_d]; omega)]
    refine ret_some ?_
    have := cutS_mk s.data.toList 0 (s.size - 1)
    rw [mkB_of, show ((0 : Nat) : Int) = 0 from rfl] at this
    rw [this, List.drop_zero, List.dropLast_eq_take, ← size_list]
    rfl
  · rw [decide_eq_false h, if_neg h]
    exact ret_some rfl

theorem fu3 : cell_Read.t0 fu = cell_Read.S0 := rfl

theorem read_end (s : ByteArray) {c : Cell} (hn : in64 c.2.1) (hs : c.2.2.size < 1000000) : Ret (cell_Read.S0 s noC c) (Told s) := by
  unfold cell_Read.S0
  rw [cell_Check_eq]
  by_cases hm : ref06_May c = true
  · rw [if_pos hm]
    refine ret_neI (fun h => absurd rfl h) (fun _ => ?_)
    refine ret_bind_eq (cell_Show_eq hn hs) ?_
    exact ret_not (ret_eqS (fun h => ret_some (Or.inr ⟨c, hm, hn, h, rfl⟩)) (fun _ => ret_some (Or.inl rfl)))
  · rw [if_neg hm]
    exact ret_neI (fun _ => ret_some (Or.inl rfl)) (fun h => by omega)

theorem read_back (s : ByteArray) {c : Cell} (hn : in64 c.2.1) (hm : ref06_May c = true) (hs : c.2.2.size < 1000000) (h : s = mkB (sh c)) : cell_Read.S0 s noC c = some (c, 0) := by
  unfold cell_Read.S0
  rw [cell_Check_eq, if_pos hm, ne_f rfl, cond_false, cell_Show_eq hn hs, Option.bind_some, eqS_t h.symm]
  rfl

theorem atoiS_eq (s : ByteArray) (hs : s.size < 1000000) : Ret (atoiS s) fun r => r.2 = true → in64 r.1 ∧ Lib.atoiAll s.data.toList = .ok r.1 := by
  unfold atoiS
  refine ret_gd (show s.size ≤ 281474976710656 by omega) ?_
  cases h : Lib.atoiAll s.data.toList with
  | ok v =>
    have := Lib.atoiAll_bounds h
    exact ret_some fun _ => ⟨by unfold in64; omega, rfl⟩
  | «syntax» => exact ret_some fun h => nomatch h
  | range => exact ret_some fun h => nomatch h

theorem read_num (s : ByteArray) (hs : s.size < 1000000) : Ret ((atoiS s).bind fun r_9 => bif (!r_9.2) then some (noC, 20) else cell_Read.S0 s noC (1, r_9.1, eB)) (Told s) := by
  refine ret_bind _ (atoiS_eq s hs) fun r hr => ret_not (ret_bif (fun h => ?_) (fun _ => ret_some (Or.inl rfl)))
  exact read_end s (hr h).1 (by show eB.size < _; decide)

theorem repl_le {old new : List UInt8} (h : old ≠ []) (hl : new.length ≤ old.length) : ∀ (k : Nat) (l : List UInt8), l.length ≤ k → (repl old new l).length ≤ l.length
  | 0, l, hk => by
    cases l with
    | nil => rw [repl_nil h]; exact Nat.le_refl _
    | cons b l => simp at hk
  | k + 1, l, hk => by
    by_cases hp : old.isPrefixOf l = true
    · have hle : old.length ≤ l.length := (List.isPrefixOf_iff_prefix.1 hp).length_le
      have h0 : 0 < old.length := List.length_pos_iff.2 h
      rw [repl_hit h hp, List.length_append]
      have := repl_le h hl k (l.drop old.length) (by rw [List.length_drop]; omega)
      rw [List.length_drop] at this
      omega
    · cases l with
      | nil => rw [repl_nil h]; exact Nat.le_refl _
      | cons b l =>
        rw [repl_skip h (by rw [Bool.not_eq_true] at hp; exact hp), List.length_cons, List.length_cons]
        rw [List.length_cons] at hk
        have := repl_le h hl k l (by omega)
        omega

theorem read_ret (s : ByteArray) (hs : s.size < 1000000) : Ret (cell_Read s) (Told s) := by
  show Ret (cell_Read.S (cell_Read.t0 fu) s) _
  rw [fu3]
  unfold cell_Read.S
  have i0 : in64 0 := by unfold in64; omega
  refine ret_not (ret_eqS (fun h => read_end s i0 (by decide)) (fun _ => ?_))
  refine ret_bind_eq (cutPrefix_eq s hs 39) ?_
  have hp : (if s.data.toList.head? = some 39 then (mkB s.data.toList.tail, true) else (s, false)).1.size ≤ s.size := by
    split
    · rw [mkB_size, List.length_tail, ← size_list]; omega
    · exact Nat.le_refl _
  generalize (if s.data.toList.head? = some 39 then (mkB s.data.toList.tail, true) else (s, false)) = p at hp
  refine ret_bind_eq (cutSuffix_eq p.1 (by omega) 39) ?_
  have hq : (if p.1.data.toList.getLast? = some 39 then (mkB p.1.data.toList.dropLast, true) else (p.1, false)).1.size ≤ s.size := by
    split
    · rw [mkB_size, List.length_dropLast, ← size_list]; omega
    · exact hp
  generalize (if p.1.data.toList.getLast? = some 39 then (mkB p.1.data.toList.dropLast, true) else (p.1, false)) = q at hq
  refine ret_bif (fun _ => ret_bif (fun _ => ?_) (fun _ => read_num s hs)) (fun _ => read_num s hs)
  refine ret_bind_eq (replS_eq (old := [39, 39]) (new := [39]) (by omega) (by decide) (by decide) (by decide)) ?_
  refine read_end s i0 ?_
  show (mkB _).size < _
  rw [mkB_size]
  have := repl_le (old := [39, 39]) (new := [39]) (by simp) (by decide) _ q.1.data.toList (Nat.le_refl _)
  rw [← size_list] at this
  omega

theorem read_sh {c : Cell} (hm : ref06_May c = true) (hn : in64 c.2.1) : cell_Read (mkB (sh c)) = some (c, 0) := by
  have hlen := may_sh hm hn
  have i0 : in64 0 := by unfold in64; omega
  refine ret_eq ?_
  show Ret (cell_Read.S (cell_Read.t0 fu) _) _
  rw [fu3]
  unfold cell_Read.S
  rcases may_form hm with rfl | ⟨n, rfl⟩ | ⟨t, rfl, ht⟩
  · refine ret_not (ret_eqS (fun _ => ?_) (fun h => absurd rfl h))
    exact ret_of_eq (read_back _ i0 hm (by decide) rfl) rfl
  · have es : sh (1, n, eB) = Lib.itoa n := rfl
    have hb := read_back (mkB (sh (1, n, eB))) hn hm (by show eB.size < _; decide) rfl
    rw [es] at hlen hb ⊢
    obtain ⟨a, r, e, h1, h2⟩ := itoa_head n
    refine ret_not (ret_eqS (fun h => ?_) (fun _ => ?_))
    · rw [e] at h
      cases mkB_inj h
      exact absurd h1 (by decide)
    refine ret_bind_eq (cutPrefix_eq _ (by rw [mkB_size]; omega) 39) ?_
    rw [if_neg (by rw [mkB_list, e]; simp; rintro rfl; exact h2 (by decide))]
    refine ret_bind_eq (cutSuffix_eq _ (by rw [mkB_size]; omega) 39) (ret_false ?_)
    have ha : atoiS (mkB (Lib.itoa n)) = some (n, true) := by
      unfold atoiS
      rw [decide_eq_true (show (mkB (Lib.itoa n)).size ≤ 281474976710656 by rw [mkB_size]; omega), mkB_list, atoi_itoa hn]
      rfl
    exact ret_bind_eq ha (ret_of_eq hb rfl)
  · have es : sh (2, 0, t) = 39 :: dbl t.data.toList ++ [39] := rfl
    have hb := read_back (mkB (sh (2, 0, t))) i0 hm (by show t.size < _; omega) rfl
    rw [es] at hlen hb ⊢
    refine ret_not (ret_eqS (fun h => ?_) (fun _ => ?_))
    · cases mkB_inj h
    have hd : (dbl t.data.toList).length < 1000 := by
      simp only [List.length_append, List.length_cons, List.length_nil] at hlen
      omega
    have hp : strings_CutPrefix (mkB (39 :: dbl t.data.toList ++ [39])) (bs [39]) = some (mkB (dbl t.data.toList ++ [39]), true) := by
      refine (cutPrefix_eq _ (by rw [mkB_size]; omega) 39).trans ?_
      rw [if_pos (show (mkB (39 :: dbl t.data.toList ++ [39])).data.toList.head? = some 39 from rfl)]
      rfl
    have hq : strings_CutSuffix (mkB (dbl t.data.toList ++ [39])) (bs [39]) = some (mkB (dbl t.data.toList), true) := by
      refine (cutSuffix_eq _ (by rw [mkB_size, List.length_append]; simp only [List.length_cons, List.length_nil]; omega) 39).trans ?_
      rw [mkB_list, if_pos (List.getLast?_concat ..), List.dropLast_concat]
    refine ret_bind_eq hp (ret_bind_eq hq ?_)
    refine ret_true (ret_true ?_)
    refine ret_bind_eq (replS_eq (s := mkB (dbl t.data.toList)) (old := [39, 39]) (new := [39]) (by rw [mkB_size]; omega) (by decide) (by decide) (by decide)) ?_
    rw [mkB_list, repl_back, mkB_of]
    exact ret_of_eq hb rfl

theorem read_eq (s : ByteArray) (hs : s.size < 900000) : cell_Read s = ref06_Read s ∧ Ret (cell_Read s) (Told s) := by
  have h1 := read_ret s (by omega)
  refine ⟨?_, h1⟩
  obtain ⟨r, e1, k1⟩ := h1
  obtain ⟨q, e2, k2⟩ := rread_ret s hs
  rcases k1 with rfl | ⟨c, hm, hn, hc, rfl⟩
  · rcases k2 with rfl | ⟨c, hm, hn, hc, rfl⟩
    · rw [e1, e2]
    · have := read_sh hm hn
      rw [hc, e1] at this
      injection this with this
      injection this with _ this
      exact absurd this (by decide)
  · have := rread_sh hm hn
    rw [hc] at this
    rw [e1, this]

theorem cellShows_law (c : Cell) (s : ByteArray) (hin : in64 c.2.1) : law06_CellShows c s = some true := by
  refine ret_eq ?_
  unfold law06_CellShows
  have aw : Ret (law06_awake.bind fun r => some r) fun r => r = true := by rw [awake06]; exact ret_some rfl
  refine ret_lt (fun _ => aw) (fun h1 => ret_lt (fun _ => aw) (fun h2 => ?_))
  rw [lenS_d] at h1 h2
  obtain ⟨he, r, hr, _⟩ := read_eq s (by omega)
  refine ret_bind_eq hr ?_
  rw [← he]
  refine ret_bind_eq hr ?_
  have hS := cell_Show_eq hin (by omega)
  refine ret_bind_eq hS (ret_bind_eq (ref06_Show_eq hin (by omega)) ?_)
  rw [eqS_t rfl, eq_t rfl, eq_t rfl, eqS_t rfl, ne_f rfl]
  refine ret_false (ret_false (ret_false (ret_bind_eq hS ?_)))
  have hl : (mkB (sh c)).size < 900000 := by
    rw [mkB_size]
    unfold sh
    split
    · decide
    split
    · have := itoa_len hin
      omega
    split
    · have := (dbl_len c.2.2.data.toList).2
      rw [← size_list] at this
      simp only [List.length_append, List.length_cons, List.length_nil]
      omega
    · decide
  obtain ⟨_, q, hq, _⟩ := read_eq _ hl
  refine ret_bind_eq hq ?_
  refine ret_not (ret_bif (fun hm => ?_) (fun _ => aw))
  have hb := read_sh hm hin
  rw [hq] at hb
  injection hb with hb
  subst hb
  rw [eq_t rfl, eq_t rfl, eqS_t rfl, eq_t rfl]
  exact aw

end Go.AM.Pure
end
