import Derived.Test.YtboihdnijlilpaaDoorAmPure28
import Derived.Test.YtboihdnijlilpaaDoorAmP29
section
/- Each token begins where it says: the law LexPlaces. -/
namespace Go.AM.Pure
open Go.AM

theorem nth_drop {α : Type} {l : List α} {k : Nat} {t : α} {q : List α} (h : l.drop k = t :: q) (z : α) : k < l.length ∧ nth l (k : Int) z = t ∧ l.drop (k + 1) = q := by
  have hk : k < l.length := by
    rcases Nat.lt_or_ge k l.length with x | x
    · exact x
    · rw [List.drop_of_length_le x] at h; cases h
  rw [List.drop_eq_getElem_cons hk] at h
  injection h with h1 h2
  exact ⟨hk, by rw [nth_get hk]; exact h1, h2⟩

theorem laid_head {s : ByteArray} {i : Nat} {l : List Tok} (h : Laid s i l) : ∃ t q, ∃ a : Nat, l = t :: q ∧ t.2.2.2 = (a : Int) ∧ i ≤ a ∧ a ≤ s.size := by
  cases h with
  | fin _ hi => exact ⟨_, _, s.size, rfl, rfl, hi, Nat.le_refl _⟩
  | tok _ a n t l h1 h2 h3 h4 => exact ⟨t, l, a, rfl, h4, h1, by omega⟩
theorem laid_last {s : ByteArray} {i : Nat} {l : List Tok} (h : Laid s i l) : ∃ q, l = q ++ [(0, eB, 0, (s.size : Int))] := by
  induction h with
  | fin _ hi => exact ⟨[], rfl⟩
  | tok _ a n t l _ _ _ _ _ _ _ ih =>
    obtain ⟨q, hq⟩ := ih
    exact ⟨t :: q, by rw [hq]; rfl⟩

theorem tokIs_kind {t : Tok} (h : TokIs t) : t.1 = 1 ∨ t.1 = 2 ∨ t.1 = 3 ∨ t.1 = 4 := by
  rcases h with ⟨h, _⟩ | ⟨h, _⟩ | ⟨h, _⟩ | ⟨h, _⟩ <;> simp [h]

theorem places_loop (s : ByteArray) (hs : s.size < 1000000) (l : List Tok) (hl : l.length < 1000000) : ∀ (d i k n : Nat), d = l.length - k → d < n → Laid s i (l.drop k) → law29_LexPlaces.l0 n s l (k : Int) = some true := by
  intro d
  induction d with
  | zero =>
    intro i k n hd hn h
    obtain ⟨t, q, a, e, _⟩ := laid_head h
    have := (nth_drop e (0, eB, 0, 0)).1
    omega
  | succ d ih =>
    intro i k n hd hn h
    obtain ⟨n, rfl⟩ : ∃ m, n = m + 1 := ⟨n - 1, by omega⟩
    show law29_LexPlaces.S0 (law29_LexPlaces.l0 n) s l (k : Int) = _
    refine ret_eq ?_
    unfold law29_LexPlaces.S0
    obtain ⟨t, q, a0, e, _⟩ := laid_head h
    obtain ⟨hk, hnt, hdr⟩ := nth_drop e (0, eB, 0, 0)
    rw [e] at h
    rw [add_of (show _ ∧ (k : Int) + 1 < _ by omega), show (k : Int) + 1 = ((k + 1 : Nat) : Int) by omega, hnt]
    cases h with
    | fin _ hi =>
      have : l.length = k + 1 := by
        have := congrArg List.length e
        rw [List.length_drop] at this
        simp only [List.length_cons, List.length_nil] at this
        omega
      rw [lt_f (show lenL l ≤ ((k + 1 : Nat) : Int) by rw [lenL_d]; omega), awake29]
      exact ret_some rfl
    | tok _ a m _ _ h1 h2 h3 h4 h5 h6 h7 =>
      obtain ⟨t2, q2, a2, e2, b1, b2, b3⟩ := laid_head h7
      rw [e2] at hdr
      obtain ⟨hk2, hnt2, _⟩ := nth_drop hdr (0, eB, 0, 0)
      have hself : Ret (law29_LexPlaces.l0 n s l ((k + 1 : Nat) : Int)) fun r => r = true := by
        rw [ih (a + m) (k + 1) n (by omega) (by omega) (by rw [hdr, ← e2]; exact h7)]
        exact ret_some rfl
      have in1 : inB (k : Int) (lenL l) = true := inB_of (by rw [lenL_d]; omega)
      have hcut : t.1 = 1 ∨ t.1 = 4 → Ret (bif (ltI (subI .i64 (a2 : Int) (a : Int)) (lenS t.2.1)) then some false else
          bif (inC (a : Int) (addI .i64 (a : Int) (lenS t.2.1)) (lenS s)) then bif (!(eqS (cutS s (a : Int) (addI .i64 (a : Int) (lenS t.2.1))) t.2.1)) then some false else law29_LexPlaces.l0 n s l ((k + 1 : Nat) : Int) else none) fun r => r = true := by
        intro hkind
        have hc := h6 hkind
        have hsz : lenS t.2.1 = (m : Int) := by
          rw [hc, lenS_d, cutS_size s a (a + m) h3]; omega
        rw [hsz, sub_of (by omega), add_of (by omega), lt_f (by omega), inC_of (by rw [lenS_d]; omega), show (a : Int) + m = ((a + m : Nat) : Int) by omega, eqS_t hc.symm]
        exact hself
      rw [hnt2, h4, b1, lt_t (show ((k + 1 : Nat) : Int) < lenL l by rw [lenL_d]; omega), in1, inB_of (show 0 ≤ ((k + 1 : Nat) : Int) ∧ ((k + 1 : Nat) : Int) < lenL l by rw [lenL_d]; omega),
        lt_f (show 0 ≤ (a : Int) by omega), le_f (show (a : Int) < (a2 : Int) by omega), lt_f (show (a2 : Int) ≤ lenS s by rw [lenS_d]; omega)]
      simp only [cond_true, cond_false]
      rcases tokIs_kind h5 with x | x | x | x
      · rw [x]; exact hcut (Or.inl x)
      · rw [x]; exact hself
      · rw [x]; exact hself
      · rw [x]; exact hcut (Or.inr x)

theorem lexPlaces_law (s : ByteArray) : law29_LexPlaces s = some true := by
  refine ret_eq ?_
  show Ret (law29_LexPlaces.S (law29_LexPlaces.l0 fu) s) _
  unfold law29_LexPlaces.S
  have aw : Ret (law29_awake.bind fun r => some r) fun r => r = true := by rw [awake29]; exact ret_some rfl
  refine ret_lt (fun _ => aw) (fun h => ?_)
  rw [lenS_d] at h
  obtain ⟨x, h1, _, h3, h4⟩ := tokens_eq s (by omega)
  refine ret_bind_eq h1 (ret_neI (fun _ => aw) (fun h0 => ?_))
  have hL := h4 h0
  obtain ⟨q, hq⟩ := laid_last hL
  have hlen : x.1.length = q.length + 1 := by rw [hq]; simp
  have hn : nth x.1 (subI .i64 (lenL x.1) 1) (0, eB, 0, 0) = (0, eB, 0, (s.size : Int)) := by
    have e1 : subI .i64 (lenL x.1) 1 = ((q.length : Nat) : Int) := by rw [lenL_d, sub_of (by omega)]; omega
    rw [e1]
    exact (nth_drop (q := []) (by rw [hq]; exact List.drop_left' rfl) _).2.1
  rw [hn, lenL_d]
  refine ret_eqI (fun h => absurd h (by omega)) (fun _ => ?_)
  refine ret_inB (by rw [sub_of (by omega)]; omega) ?_
  rw [eq_t rfl, eqS_t rfl, eq_t (show ((0, eB, 0, (s.size : Int)) : Tok).2.2.2 = lenS s from rfl)]
  refine ret_of_eq (places_loop s (by omega) x.1 (by omega) x.1.length 0 0 fu (by omega) (by unfold fu; omega) (by rw [List.drop_zero]; exact hL)) rfl

end Go.AM.Pure
end

section
/- What is written of a token is read as that token. -/
namespace Go.AM.Pure
open Go.AM

/-- What is written of a token. -/
def shT (t : Tok) : List UInt8 := if t.1 = 2 then Lib.itoa t.2.2.1 else if t.1 = 3 then 39 :: dbl t.2.1.data.toList ++ [39] else t.2.1.data.toList

theorem drop_at {s : ByteArray} {k : Nat} {x : UInt8} {y : List UInt8} (h : s.data.toList.drop k = x :: y) : k < s.size ∧ byteAt s (k : Int) = (x.toNat : Int) ∧ s.data.toList.drop (k + 1) = y := by
  have hk : k < s.data.toList.length := by
    rcases Nat.lt_or_ge k s.data.toList.length with z | z
    · exact z
    · rw [List.drop_of_length_le z] at h; cases h
  have e := getD_drop hk
  rw [h] at e
  injection e with e1 e2
  exact ⟨by rw [size_list]; exact hk, by rw [e1]; rfl, e2.symm⟩
theorem drop_more {s : ByteArray} {k : Nat} {A B : List UInt8} (h : s.data.toList.drop k = A ++ B) (h0 : A ++ B ≠ []) : k + A.length ≤ s.size ∧ s.data.toList.drop (k + A.length) = B := by
  have hk : k ≤ s.data.toList.length := by
    rcases Nat.lt_or_ge s.data.toList.length k with z | z
    · rw [List.drop_of_length_le (by omega)] at h; exact absurd h.symm h0
    · exact z
  have e := congrArg List.length h
  rw [List.length_drop, List.length_append, ← size_list] at e
  rw [← size_list] at hk
  exact ⟨by omega, by rw [← List.drop_drop, h, List.drop_left' rfl]⟩

/-- The run of what is so. -/
theorem run_of {p : Int → Bool} {s : ByteArray} {k : Nat} {A B : List UInt8} (h : s.data.toList.drop k = A ++ B) (hA : ∀ b ∈ A, p ((b : UInt8).toNat : Int) = true) (hB : ∀ b r, B = b :: r → p ((b : UInt8).toNat : Int) = false) : runN p s k = A.length := by
  unfold runN
  have e : (toBytes s).drop k = A.map (fun b => (b.toNat : Int)) ++ B.map (fun b => (b.toNat : Int)) := by
    unfold toBytes
    rw [← List.map_drop, h, List.map_append]
  rw [e, List.takeWhile_append_of_pos (by
    intro x hx
    obtain ⟨b, hb, rfl⟩ := List.mem_map.1 hx
    exact hA b hb)]
  cases B with
  | nil => simp
  | cons b r => rw [List.map_cons, List.takeWhile_cons, hB b r rfl]; simp

theorem blank_not {b : UInt8} (h : isBlank (b.toNat : Int) = true) : isName (b.toNat : Int) = false ∧ isDig (b.toNat : Int) = false ∧ b ≠ 39 ∧ b ≠ 61 ∧ b ≠ 62 := by
  unfold isBlank at h
  simp only [Bool.or_eq_true, eqI_d, decide_eq_true_eq] at h
  have : b = 32 ∨ b = 9 ∨ b = 10 ∨ b = 13 := by
    rcases h with h | h | h | h
    · exact Or.inl (toNat_is (n := 32) (by omega) h)
    · exact Or.inr (Or.inl (toNat_is (n := 9) (by omega) h))
    · exact Or.inr (Or.inr (Or.inl (toNat_is (n := 10) (by omega) h)))
    · exact Or.inr (Or.inr (Or.inr (toNat_is (n := 13) (by omega) h)))
  rcases this with rfl | rfl | rfl | rfl <;> decide

theorem dd_digits : ∀ u : Nat, ∀ b ∈ Lib.decDigits u, isDig ((b : UInt8).toNat : Int) = true := by
  intro u
  induction u using Nat.strongRecOn with
  | _ u ih =>
    have hd : ∀ d, d < 10 → isDig ((UInt8.ofNat (48 + d)).toNat : Int) = true := by decide
    intro b hb
    by_cases h : u < 10
    · rw [Lib.decDigits, dif_pos h] at hb
      rw [List.mem_singleton.1 hb]
      exact hd u h
    · rw [Lib.decDigits, dif_neg h] at hb
      rcases List.mem_append.1 hb with hb | hb
      · exact ih (u / 10) (by omega) b hb
      · rw [List.mem_singleton.1 hb]
        exact hd _ (by omega)
theorem dd_first : ∀ u : Nat, 1 ≤ u → ∃ c r, Lib.decDigits u = c :: r ∧ c ≠ 48 := by
  intro u
  induction u using Nat.strongRecOn with
  | _ u ih =>
    intro h1
    by_cases h : u < 10
    · rw [Lib.decDigits, dif_pos h]
      refine ⟨_, _, rfl, fun e => ?_⟩
      have := congrArg UInt8.toNat e
      rw [UInt8.toNat_ofNat'] at this
      have e48 : (48 : UInt8).toNat = 48 := by decide
      omega
    · obtain ⟨c, r, e, h2⟩ := ih (u / 10) (by omega) (by omega)
      rw [Lib.decDigits, dif_neg h, e]
      exact ⟨c, _, rfl, h2⟩
theorem dd_zeros (u : Nat) : zeros ((Lib.decDigits u).take ((Lib.decDigits u).length - 1)) = 0 := by
  by_cases h : u < 10
  · rw [Lib.decDigits, dif_pos h]; rfl
  · obtain ⟨c, r, e, h2⟩ := dd_first u (by omega)
    rw [e]
    unfold zeros
    cases r with
    | nil => rfl
    | cons d r =>
      rw [List.length_cons, List.length_cons, Nat.add_sub_cancel, List.take_succ_cons, List.takeWhile_cons, beq_eq_false_iff_ne.2 h2]
      rfl

theorem number_fwd (s : ByteArray) (hs : s.size < 800000) (a : Nat) {N : Int} (hN : in64 N) {b : UInt8} {rest : List UInt8} (h : s.data.toList.drop a = Lib.itoa N ++ b :: rest) (hb : isBlank (b.toNat : Int) = true) :
    ref29_number s (a : Int) = some ((2, eB, N, (a : Int)), ((Lib.itoa N).length : Int)) := by
  have hN' := hN
  unfold in64 at hN'
  -- behind the sign
  have main : ∀ (u fr : Nat), (∀ r, r = b :: rest → s.data.toList.drop fr = Lib.decDigits u ++ r) → a ≤ fr → fr + (Lib.decDigits u).length = a + (Lib.itoa N).length → a < s.size →
      (eqI (byteAt s (a : Int)) 45 = true → Lib.itoa N = 45 :: Lib.decDigits u ∧ 1 ≤ u) → (eqI (byteAt s (a : Int)) 45 = false → Lib.itoa N = Lib.decDigits u) →
      ref29_number.S0 (ref29_number.l1 (ref29_number.S2 ref29_number.S3) (fu - 1)) s (a : Int) (fr : Int) (0, eB, 0, 0) = some ((2, eB, N, (a : Int)), ((Lib.itoa N).length : Int)) := by
    intro u fr hdr haf hlen has hd1 hd0
    have hdr := hdr _ rfl
    obtain ⟨c0, r0, ec, _⟩ := dd_head u
    have hm1 : 1 ≤ (Lib.decDigits u).length := by rw [ec]; exact Nat.succ_pos _
    obtain ⟨hm2, _⟩ := drop_more hdr (by rw [ec]; simp)
    have hrun : runN isDig s fr = (Lib.decDigits u).length := run_of hdr (dd_digits u) (fun x y e => by injection e with e1 e2; subst e1; exact (blank_not hb).2.1)
    unfold ref29_number.S0
    rw [span_eq false s (by omega) fr (by omega)]
    simp only [Option.bind_some, Bool.false_eq_true, if_false]
    rw [hrun]
    have hz := zero_loop (ref29_number.S2 ref29_number.S3) s (by omega) a fr (Lib.decDigits u).length hm1 hm2 (0, eB, 0, 0) ((Lib.decDigits u).length - 1) 0 (fu - 1) (by omega) (by omega) (by unfold fu; omega)
    rw [Nat.add_zero, Nat.sub_zero, hdr, List.take_append_of_le_length (by omega), dd_zeros, Nat.add_zero] at hz
    rw [eq_f (show ¬ ((Lib.decDigits u).length : Int) = 0 by omega), cond_false, hz]
    unfold ref29_number.S2
    have hcut : cutS s (fr : Int) ((fr + (Lib.decDigits u).length : Nat) : Int) = mkB (Lib.decDigits u) := by rw [cutS_list, hdr, Nat.add_sub_cancel_left, List.take_left' rfl]
    rw [add_of (show _ ∧ (fr : Int) + ((Lib.decDigits u).length : Int) < _ by omega), show (fr : Int) + ((Lib.decDigits u).length : Int) = ((fr + (Lib.decDigits u).length : Nat) : Int) by omega,
      inC_of (show 0 ≤ (fr : Int) ∧ (fr : Int) ≤ ((fr + (Lib.decDigits u).length : Nat) : Int) ∧ ((fr + (Lib.decDigits u).length : Nat) : Int) ≤ lenS s by rw [lenS_d]; omega), inB_of (show 0 ≤ (a : Int) ∧ (a : Int) < lenS s by rw [lenS_d]; omega), hcut]
    simp only [cond_true]
    have hRead := rread_sh (c := (1, N, eB)) (by kernel_rfl) hN
    rw [show sh (1, N, eB) = Lib.itoa N from rfl] at hRead
    have fin : ref29_number.S3 (a : Int) (fr : Int) ((Lib.decDigits u).length : Int) (mkB (Lib.itoa N)) (0, eB, 0, 0) = some ((2, eB, N, (a : Int)), ((Lib.itoa N).length : Int)) := by
      unfold ref29_number.S3
      rw [hRead, Option.bind_some, ne_f rfl, cond_false, add_of (by omega), sub_of (by omega)]
      congr 2
      omega
    cases hq : eqI (byteAt s (a : Int)) 45 with
    | false => rw [cond_false, hd0 hq]; rw [hd0 hq] at fin; exact fin
    | true =>
      obtain ⟨e1, e2⟩ := hd1 hq
      have hne : eqS (mkB (Lib.decDigits u)) (bs [48]) = false := eqS_f fun e => by
        obtain ⟨c, r, ec, hc⟩ := dd_first u e2
        have := mkB_inj (show mkB (Lib.decDigits u) = mkB [48] from e)
        rw [ec] at this
        injection this with t1 t2
        exact hc t1
      have hl := dd_len (u := u) (by
        have := itoa_len hN
        have e3 : Lib.itoa N = 45 :: Lib.decDigits N.natAbs ∨ Lib.itoa N = Lib.decDigits N.toNat := by
          unfold Lib.itoa
          split
          · exact Or.inl rfl
          · exact Or.inr rfl
        rcases Nat.lt_or_ge u (10 ^ 20) with z | z
        · exact z
        · exfalso
          have hlt := Lib.decDigits_length u
          have hn := Lib.lt_pow_nDigits u
          have : (Lib.decDigits u).length ≤ 20 := by rw [e1, List.length_cons] at this; omega
          rw [hlt] at this
          have := Nat.pow_le_pow_right (n := 10) (by omega) this
          omega)
      rw [hne, cond_true, Bool.not_false, cond_true, show roomS (bs [45]) (mkB (Lib.decDigits u)) = true from decide_eq_true (by show 1 + (Lib.decDigits u).length ≤ _; omega), cond_true, show bs [45] = mkB [45] from rfl, addS_mk,
        show [45] ++ Lib.decDigits u = Lib.itoa N from e1.symm]
      exact fin
  show ref29_number.S (ref29_number.t0 fu) s (a : Int) = _
  rw [n29b]
  unfold ref29_number.S
  by_cases hneg : N < 0
  · have ei : Lib.itoa N = 45 :: Lib.decDigits N.natAbs := by unfold Lib.itoa; rw [if_pos hneg]
    have h' := h
    rw [ei] at h'
    obtain ⟨ha, hb0, hdr⟩ := drop_at (show s.data.toList.drop a = 45 :: (Lib.decDigits N.natAbs ++ b :: rest) from h')
    have h45 : eqI (byteAt s (a : Int)) 45 = true := by rw [hb0]; rfl
    rw [inB_of (show 0 ≤ (a : Int) ∧ (a : Int) < lenS s by rw [lenS_d]; omega), h45, cond_true, cond_true, add_of (show _ ∧ (a : Int) + 1 < _ by omega), show (a : Int) + 1 = ((a + 1 : Nat) : Int) by omega]
    exact main N.natAbs (a + 1) (fun r hr => by rw [hr]; exact hdr) (by omega) (by rw [ei, List.length_cons]; omega) ha (fun _ => ⟨ei, by omega⟩) (fun x => by rw [h45] at x; cases x)
  · have ei : Lib.itoa N = Lib.decDigits N.toNat := by unfold Lib.itoa; rw [if_neg hneg]
    obtain ⟨c, r, ec, h1, h2⟩ := dd_head N.toNat
    have h' := h
    rw [ei, ec] at h'
    obtain ⟨ha, hb0, _⟩ := drop_at (show s.data.toList.drop a = c :: (r ++ b :: rest) from h')
    have h45 : eqI (byteAt s (a : Int)) 45 = false := by rw [hb0]; exact eq_f (by omega)
    rw [inB_of (show 0 ≤ (a : Int) ∧ (a : Int) < lenS s by rw [lenS_d]; omega), h45, cond_true, cond_false]
    exact main N.toNat a (fun r hr => by rw [hr, ← ei]; exact h) (by omega) (by rw [ei]) ha (fun x => by rw [h45] at x; cases x) (fun _ => ei)

end Go.AM.Pure
end

section
/- What is written of a token is read as that token: any token. -/
namespace Go.AM.Pure
open Go.AM

theorem text_run (o1 : ByteArray → Int → List Int → Int → Tok → Option (Tok × Int)) (s : ByteArray) (hs : s.size < 800000) (a : Nat) (z : Tok) {b : UInt8} {rest : List UInt8} (hb : b ≠ 39) : ∀ (S : List UInt8) (k n : Nat) (out : List Int), s.data.toList.drop k = dbl S ++ 39 :: b :: rest → S.length < n → out.length ≤ k →
    ref29_text.l0 o1 n s (a : Int) out (k : Int) z = o1 s (a : Int) (out ++ S.map fun c => (c.toNat : Int)) ((k + (dbl S).length : Nat) : Int) z := by
  have ne39 : ∀ c : UInt8, c ≠ 39 → ¬ (c.toNat : Int) = 39 := fun c h e => h (toNat_is (n := 39) (by omega) e)
  have e39 : ((39 : UInt8).toNat : Int) = 39 := by decide
  intro S
  induction S with
  | nil =>
    intro k n out h hn ho
    obtain ⟨n, rfl⟩ : ∃ m, n = m + 1 := ⟨n - 1, by simp at hn; omega⟩
    obtain ⟨h1, h2, h3⟩ := drop_at (show s.data.toList.drop k = 39 :: (b :: rest) from h)
    obtain ⟨h4, h5, _⟩ := drop_at h3
    show ref29_text.S0 o1 (ref29_text.l0 o1 n) _ _ _ _ _ = _
    unfold ref29_text.S0
    rw [lt_t (show (k : Int) < lenS s by rw [lenS_d]; omega), inB_of (show 0 ≤ (k : Int) ∧ (k : Int) < lenS s by rw [lenS_d]; omega), h2, e39, eq_t rfl, add_of (show _ ∧ (k : Int) + 1 < _ by omega), show (k : Int) + 1 = ((k + 1 : Nat) : Int) by omega,
      le_f (show ((k + 1 : Nat) : Int) < lenS s by rw [lenS_d]; omega), inB_of (show 0 ≤ ((k + 1 : Nat) : Int) ∧ ((k + 1 : Nat) : Int) < lenS s by rw [lenS_d]; omega), h5, ne_t (ne39 b hb)]
    simp [dbl]
  | cons c S ih =>
    intro k n out h hn ho
    rw [List.length_cons] at hn
    obtain ⟨n, rfl⟩ : ∃ m, n = m + 1 := ⟨n - 1, by omega⟩
    show ref29_text.S0 o1 (ref29_text.l0 o1 n) _ _ _ _ _ = _
    unfold ref29_text.S0
    rw [dbl_cons] at h ⊢
    by_cases hc : c = 39
    · subst hc
      rw [if_pos rfl] at h ⊢
      obtain ⟨h1, h2, h3⟩ := drop_at (show s.data.toList.drop k = 39 :: (39 :: (dbl S ++ 39 :: b :: rest)) by rw [h]; simp)
      obtain ⟨h4, h5, h6⟩ := drop_at h3
      have := ih (k + 2) n (out ++ [(39 : Int)]) h6 (by omega) (by rw [List.length_append]; simp only [List.length_cons, List.length_nil]; omega)
      rw [lt_t (show (k : Int) < lenS s by rw [lenS_d]; omega), inB_of (show 0 ≤ (k : Int) ∧ (k : Int) < lenS s by rw [lenS_d]; omega), h2, e39, eq_t rfl, add_of (show _ ∧ (k : Int) + 1 < _ by omega), show (k : Int) + 1 = ((k + 1 : Nat) : Int) by omega,
        le_f (show ((k + 1 : Nat) : Int) < lenS s by rw [lenS_d]; omega), inB_of (show 0 ≤ ((k + 1 : Nat) : Int) ∧ ((k + 1 : Nat) : Int) < lenS s by rw [lenS_d]; omega), h5, e39, ne_f rfl, roomB_of (show (out.length + 1) * 1 ≤ _ by omega),
        add_of (show _ ∧ ((k + 1 : Nat) : Int) + 1 < _ by omega), show ((k + 1 : Nat) : Int) + 1 = ((k + 2 : Nat) : Int) by omega]
      simp only [cond_true, cond_false]
      rw [this]
      congr 1
      · simp
      · simp only [List.length_append, List.length_cons, List.length_nil]; omega
    · rw [if_neg hc] at h ⊢
      obtain ⟨h1, h2, h3⟩ := drop_at (show s.data.toList.drop k = c :: (dbl S ++ 39 :: b :: rest) by rw [h]; simp)
      have := ih (k + 1) n (out ++ [(c.toNat : Int)]) h3 (by omega) (by rw [List.length_append]; simp only [List.length_cons, List.length_nil]; omega)
      rw [lt_t (show (k : Int) < lenS s by rw [lenS_d]; omega), inB_of (show 0 ≤ (k : Int) ∧ (k : Int) < lenS s by rw [lenS_d]; omega), h2, eq_f (ne39 c hc), roomB_of (show (out.length + 1) * 1 ≤ _ by omega),
        add_of (show _ ∧ (k : Int) + 1 < _ by omega), show (k : Int) + 1 = ((k + 1 : Nat) : Int) by omega]
      simp only [cond_true, cond_false]
      rw [this]
      congr 1
      · simp
      · simp only [List.length_append, List.length_cons, List.length_nil]; omega

theorem text_fwd (s : ByteArray) (hs : s.size < 800000) (a : Nat) {x : ByteArray} (hx : x.size ≤ 32) {b : UInt8} {rest : List UInt8} (h : s.data.toList.drop a = (39 :: dbl x.data.toList ++ [39]) ++ b :: rest) (hb : isBlank (b.toNat : Int) = true) :
    ref29_text s (a : Int) = some ((3, x, 0, (a : Int)), ((39 :: dbl x.data.toList ++ [39]).length : Int)) := by
  obtain ⟨h1, _, h3⟩ := drop_at (show s.data.toList.drop a = 39 :: (dbl x.data.toList ++ 39 :: b :: rest) by rw [h]; simp)
  show ref29_text.S (ref29_text.l0 (ref29_text.t1 fu) fu) s (a : Int) = _
  rw [show ref29_text.t1 fu = ref29_text.S1 from rfl]
  unfold ref29_text.S
  rw [add_of (show _ ∧ (a : Int) + 1 < _ by omega), show (a : Int) + 1 = ((a + 1 : Nat) : Int) by omega]
  rw [text_run ref29_text.S1 s hs a _ (blank_not hb).2.2.1 x.data.toList (a + 1) fu [] h3 (by rw [← size_list]; unfold fu; omega) (by simp)]
  obtain ⟨h5, h6⟩ := drop_more h3 (by simp)
  obtain ⟨h7, _⟩ := drop_at h6
  unfold ref29_text.S1
  have hot : ofBytes (([] : List Int) ++ x.data.toList.map fun c => (c.toNat : Int)) = x := ofBytes_toBytes x
  rw [hot, le_f (show ((a + 1 + (dbl x.data.toList).length : Nat) : Int) < lenS s by rw [lenS_d]; omega), lt_f (show lenL _ ≤ 32 by rw [lenL_d, List.nil_append, List.length_map, ← size_list]; omega), add_of (by omega), sub_of (by omega)]
  simp only [cond_false]
  congr 2
  simp only [List.length_append, List.length_cons, List.length_nil]
  omega

theorem sign_fwd {w : ByteArray} (hw : w ∈ signs) {b : UInt8} (rest : List UInt8) (hb : isBlank (b.toNat : Int) = true) : ∃ c r, w.data.toList ++ b :: rest = c :: r ∧ signOf c r = some w ∧ 1 ≤ w.size ∧
    ref29_letter (c.toNat : Int) = false ∧ ref29_digit (c.toNat : Int) = false ∧ c ≠ 45 ∧ c ≠ 39 ∧ isBlank (c.toNat : Int) = false := by
  obtain ⟨_, _, _, n61, n62⟩ := blank_not hb
  unfold signs at hw
  simp only [List.mem_cons, List.not_mem_nil, or_false] at hw
  rcases hw with rfl | rfl | rfl | rfl | rfl | rfl | rfl | rfl | rfl | rfl | rfl
  · exact ⟨60, 61 :: b :: rest, rfl, rfl, by decide, by decide, by decide, by decide, by decide, by decide⟩
  · exact ⟨62, 61 :: b :: rest, rfl, rfl, by decide, by decide, by decide, by decide, by decide, by decide⟩
  · exact ⟨60, 62 :: b :: rest, rfl, rfl, by decide, by decide, by decide, by decide, by decide, by decide⟩
  · exact ⟨40, b :: rest, rfl, rfl, by decide, by decide, by decide, by decide, by decide, by decide⟩
  · exact ⟨41, b :: rest, rfl, rfl, by decide, by decide, by decide, by decide, by decide, by decide⟩
  · exact ⟨44, b :: rest, rfl, rfl, by decide, by decide, by decide, by decide, by decide, by decide⟩
  · exact ⟨46, b :: rest, rfl, rfl, by decide, by decide, by decide, by decide, by decide, by decide⟩
  · exact ⟨42, b :: rest, rfl, rfl, by decide, by decide, by decide, by decide, by decide, by decide⟩
  · exact ⟨61, b :: rest, rfl, rfl, by decide, by decide, by decide, by decide, by decide, by decide⟩
  · refine ⟨60, b :: rest, rfl, ?_, by decide, by decide, by decide, by decide, by decide, by decide⟩
    unfold signOf
    simp [n61, n62]
  · refine ⟨62, b :: rest, rfl, ?_, by decide, by decide, by decide, by decide, by decide, by decide⟩
    unfold signOf
    simp [n61]

/-- A token, its place left out. -/
def atPlace (t : Tok) (a : Nat) : Tok := (t.1, t.2.1, t.2.2.1, (a : Int))

theorem one_fwd (s : ByteArray) (hs : s.size < 800000) (a : Nat) {t : Tok} (ht : TokIs t) {b : UInt8} {rest : List UInt8} (h : s.data.toList.drop a = shT t ++ b :: rest) (hb : isBlank (b.toNat : Int) = true) :
    ref29_one s (a : Int) = some (atPlace t a, ((shT t).length : Int)) ∧ 1 ≤ (shT t).length ∧ ∃ c r, shT t ++ b :: rest = c :: r ∧ isBlank (c.toNat : Int) = false := by
  obtain ⟨k, w, n, p⟩ := t
  rcases ht with ⟨h1, h2, c, r, e, hL, hr⟩ | ⟨h1, h2, hin⟩ | ⟨h1, h2, hx⟩ | ⟨h1, h2, hw⟩
  · simp only at h1 h2 e
    subst h1 h2
    have es : shT (1, w, 0, p) = w.data.toList := rfl
    rw [es, e] at h ⊢
    obtain ⟨ha, hc, _⟩ := drop_at (show s.data.toList.drop a = c :: (r ++ b :: rest) from h)
    have hrun : runN isName s a = (c :: r).length := run_of h (by
      intro x hx
      rcases List.mem_cons.1 hx with rfl | hx
      · unfold isName; rw [hL]; cases ref29_digit (x.toNat : Int) <;> rfl
      · exact hr x hx) (fun x y e => by injection e with e1 e2; subst e1; exact (blank_not hb).1)
    obtain ⟨hle, _⟩ := drop_more h (by simp)
    refine ⟨?_, by simp, c, r ++ b :: rest, rfl, ?_⟩
    · unfold ref29_one
      rw [inB_of (show 0 ≤ (a : Int) ∧ (a : Int) < lenS s by rw [lenS_d]; omega), hc, hL, cond_true, cond_true, span_eq true s (by omega) a (by omega)]
      simp only [if_true, Option.bind_some]
      rw [hrun, add_of (by omega), show (a : Int) + ((c :: r).length : Int) = ((a + (c :: r).length : Nat) : Int) by omega, inC_of (show 0 ≤ (a : Int) ∧ (a : Int) ≤ ((a + (c :: r).length : Nat) : Int) ∧ ((a + (c :: r).length : Nat) : Int) ≤ lenS s by rw [lenS_d]; omega), cutS_list, h, Nat.add_sub_cancel_left, List.take_left' rfl, ← e, mkB_of]
      rfl
    · cases hbl : isBlank (c.toNat : Int) with
      | false => rfl
      | true =>
        have := (blank_not hbl).1
        unfold isName at this
        rw [hL] at this
        cases hd : ref29_digit (c.toNat : Int) <;> rw [hd] at this <;> cases this
  · simp only at h1 h2 hin
    subst h1 h2
    have es : shT (2, eB, n, p) = Lib.itoa n := rfl
    rw [es] at h ⊢
    obtain ⟨c, r, e, hc57, _⟩ := itoa_head n
    have hcls : c = 45 ∨ (48 ≤ c.toNat ∧ c.toNat ≤ 57) := by
      unfold Lib.itoa at e
      split at e
      · injection e with e1 e2; exact Or.inl e1.symm
      · obtain ⟨c', r', e', h1, h2⟩ := dd_head n.toNat
        rw [e'] at e
        injection e with e1 e2
        subst e1
        exact Or.inr ⟨h1, h2⟩
    refine ⟨?_, by rw [e]; simp, c, r ++ b :: rest, by rw [e]; rfl, ?_⟩
    · obtain ⟨ha, hc, _⟩ := drop_at (show s.data.toList.drop a = c :: (r ++ b :: rest) by rw [h, e]; rfl)
      have hN := number_fwd s hs a hin h hb
      unfold ref29_one
      rw [inB_of (show 0 ≤ (a : Int) ∧ (a : Int) < lenS s by rw [lenS_d]; omega), hc, hN]
      rcases hcls with rfl | ⟨q1, q2⟩
      · rfl
      · rw [show ref29_letter (c.toNat : Int) = false by unfold ref29_letter; rw [le_f (show (c.toNat : Int) < 97 by omega)]; rfl,
          show ref29_digit (c.toNat : Int) = true by unfold ref29_digit; rw [le_t (show 48 ≤ (c.toNat : Int) by omega), le_t (show (c.toNat : Int) ≤ 57 by omega)]; rfl]
        rfl
    · rcases hcls with rfl | ⟨q1, q2⟩
      · decide
      · unfold isBlank
        rw [eq_f (show ¬ (c.toNat : Int) = 32 by omega), eq_f (show ¬ (c.toNat : Int) = 9 by omega), eq_f (show ¬ (c.toNat : Int) = 10 by omega), eq_f (show ¬ (c.toNat : Int) = 13 by omega)]
        rfl
  · simp only at h1 h2 hx
    subst h1 h2
    have es : shT (3, w, 0, p) = 39 :: dbl w.data.toList ++ [39] := rfl
    rw [es] at h ⊢
    refine ⟨?_, by simp, 39, dbl w.data.toList ++ [39] ++ b :: rest, rfl, by decide⟩
    obtain ⟨ha, hc, _⟩ := drop_at (show s.data.toList.drop a = 39 :: (dbl w.data.toList ++ [39] ++ b :: rest) from h)
    unfold ref29_one
    rw [inB_of (show 0 ≤ (a : Int) ∧ (a : Int) < lenS s by rw [lenS_d]; omega), hc, text_fwd s hs a hx h hb]
    rfl
  · simp only at h1 h2 hw
    subst h1 h2
    have es : shT (4, w, 0, p) = w.data.toList := rfl
    rw [es] at h ⊢
    obtain ⟨c, r, e, f1, f2, f3, f4, f5, f6, f7⟩ := sign_fwd hw rest hb
    refine ⟨?_, by rw [← size_list]; exact f2, c, r, e, f7⟩
    rw [e] at h
    obtain ⟨ha, hc, _⟩ := drop_at h
    unfold ref29_one
    rw [inB_of (show 0 ≤ (a : Int) ∧ (a : Int) < lenS s by rw [lenS_d]; omega), hc, f3, f4, eq_f (show ¬ (c.toNat : Int) = 45 from fun x => f5 (toNat_is (n := 45) (by omega) x)), eq_f (show ¬ (c.toNat : Int) = 39 from fun x => f6 (toNat_is (n := 39) (by omega) x)),
      sign_ref s hs a ha h, f1]
    simp only [cond_true, cond_false, Option.bind_some]
    rw [lenS_d, ← size_list]
    rfl

theorem next_fwd (s : ByteArray) (hs : s.size < 800000) (a : Nat) {t : Tok} (ht : TokIs t) {b : UInt8} {rest : List UInt8} (h : s.data.toList.drop a = shT t ++ b :: rest) (hb : isBlank (b.toNat : Int) = true) :
    lex_lexer_next_w (s, (a : Int)) = some (atPlace t a, true, (s, ((a + (shT t).length : Nat) : Int))) := by
  obtain ⟨h1, h2, c, r, h3, _⟩ := one_fwd s hs a ht h hb
  rw [h3] at h
  obtain ⟨ha, _⟩ := drop_at h
  obtain ⟨t', ok, l, q, a1, a2, a3, a4⟩ := next_rel s hs a ha
  rw [h1] at a2
  injection a2 with a2
  subst a2
  rcases a4 with ⟨_, b2⟩ | ⟨rfl, b1, n, b2, b3, b4, b5, _⟩
  · simp only at b2; omega
  · simp only at b1 b2
    rw [a1, ← b1, b5]
    congr 4
    omega

end Go.AM.Pure
end

section
/- Tokens with blanks between: the law LexBlanks. -/
namespace Go.AM.Pure
open Go.AM

abbrev Blanks (K : List UInt8) : Prop := ∀ b ∈ K, isBlank ((b : UInt8).toNat : Int) = true

/-- Tokens, written with blanks behind each. -/
inductive Joined : List Tok → List UInt8 → Prop
  | fin (p : Int) (K : List UInt8) : Blanks K → Joined [(0, eB, 0, p)] K
  | tok (t : Tok) (b : UInt8) (K R : List UInt8) (l : List Tok) : TokIs t → Blanks (b :: K) → Joined l R → Joined (t :: l) (shT t ++ b :: (K ++ R))

def kindOf (t : Tok) : Int × ByteArray × Int := (t.1, t.2.1, t.2.2.1)

theorem lex_join (s : ByteArray) (hs : s.size < 800000) {l : List Tok} {R : List UInt8} (h : Joined l R) : ∀ (B : List UInt8) (a n : Nat) (out : List Tok), s.data.toList.drop a = B ++ R → a ≤ s.size → Blanks B → l.length < n → out.length + l.length ≤ 1000 →
    ∃ m, lex_Tokens.l0 n s out (s, (a : Int)) = some (out ++ m, 0, 0) ∧ l.map kindOf = m.map kindOf := by
  induction h with
  | fin p K hK =>
    intro B a n out hd ha hB hn ho
    simp only [List.length_cons, List.length_nil] at hn ho
    obtain ⟨n, rfl⟩ : ∃ q, n = q + 1 := ⟨n - 1, by omega⟩
    have hrun : runN isBlank s a = (B ++ K).length := run_of (B := []) (by rw [hd, List.append_nil]) (fun b hb => by
      rcases List.mem_append.1 hb with hb | hb
      · exact hB b hb
      · exact hK b hb) (fun b r e => by cases e)
    have hl := congrArg List.length hd
    rw [List.length_drop, ← size_list] at hl
    refine ⟨[(0, eB, 0, ((a + (B ++ K).length : Nat) : Int))], ?_, rfl⟩
    show lex_Tokens.S0 (lex_Tokens.l0 n) _ _ _ = _
    unfold lex_Tokens.S0
    rw [while_blank s (by omega) a ha, hrun]
    simp only [Option.bind_some]
    rw [eq_t (show ((a + (B ++ K).length : Nat) : Int) = lenS s by rw [lenS_d]; omega), roomB_of (show (out.length + 1) * 40 ≤ _ by omega)]
    rfl
  | tok t b K R l ht hK hJ ih =>
    intro B a n out hd ha hB hn ho
    rw [List.length_cons] at hn ho
    obtain ⟨n, rfl⟩ : ∃ q, n = q + 1 := ⟨n - 1, by omega⟩
    have hb := hK b (by simp)
    obtain ⟨h1, h2⟩ := drop_more hd (by simp)
    obtain ⟨_, h3, c, r, h4, h5⟩ := one_fwd s hs (a + B.length) ht h2 hb
    have hrun : runN isBlank s a = B.length := run_of hd hB (fun x y e => by rw [h4] at e; injection e with e1 e2; subst e1; exact h5)
    have hnx := next_fwd s hs (a + B.length) ht h2 hb
    have h2' : s.data.toList.drop (a + B.length) = shT t ++ ((b :: K) ++ R) := h2
    obtain ⟨h6, h7⟩ := drop_more h2' (by simp)
    obtain ⟨m, e1, e2⟩ := ih (b :: K) (a + B.length + (shT t).length) n (out ++ [atPlace t (a + B.length)]) h7 h6 hK (by omega) (by rw [List.length_append]; simp only [List.length_cons, List.length_nil]; omega)
    refine ⟨atPlace t (a + B.length) :: m, ?_, by rw [List.map_cons, List.map_cons, e2]; rfl⟩
    show lex_Tokens.S0 (lex_Tokens.l0 n) _ _ _ = _
    unfold lex_Tokens.S0
    rw [while_blank s (by omega) a ha, hrun]
    simp only [Option.bind_some]
    rw [eq_f (show ¬ ((a + B.length : Nat) : Int) = lenS s by rw [lenS_d]; omega), cond_false, hnx]
    simp only [Option.bind_some, Bool.not_true, cond_false]
    rw [roomB_of (show (out.length + 1) * 40 ≤ _ by omega), cond_true, e1, List.append_assoc]
    rfl

theorem and_small (x : Int) (m : Nat) (hm : m < 1000) : ∃ j : Nat, j ≤ m ∧ andI .i64 x (m : Int) = (j : Int) := by
  unfold andI
  have h : (BitVec.ofInt (IntKind.bits .i64) x &&& BitVec.ofInt (IntKind.bits .i64) (m : Int)).toNat ≤ m := by
    rw [BitVec.toNat_and]
    refine Nat.le_trans Nat.and_le_right ?_
    show (BitVec.ofInt 64 (m : Int)).toNat ≤ m
    rw [BitVec.ofInt_natCast, BitVec.toNat_ofNat]
    exact Nat.mod_le _ _
  exact ⟨_, h, wrap64_of (by omega) (by omega)⟩

theorem shown_eq {t : Tok} (ht : TokIs t ∨ t.1 = 0) : law29_shown t = some (mkB (shT t)) := by
  obtain ⟨k, w, n, p⟩ := t
  have i0 : in64 0 := by unfold in64; omega
  unfold law29_shown shT
  rcases ht with (⟨h1, h2, _⟩ | ⟨h1, h2, hin⟩ | ⟨h1, h2, hx⟩ | ⟨h1, h2, hw⟩) | h1
  · simp only at h1; subst h1
    show some w = some (mkB w.data.toList); rw [mkB_of]
  · simp only at h1; subst h1
    show (ref06_Show (1, n, eB)).bind _ = _
    rw [ref06_Show_num (c := (1, n, eB)) rfl hin]; rfl
  · simp only at h1; subst h1
    show (ref06_Show (2, 0, w)).bind _ = _
    simp only at hx
    rw [ref06_Show_eq (c := (2, 0, w)) i0 (by show w.size < _; omega)]; rfl
  · simp only at h1; subst h1
    show some w = some (mkB w.data.toList); rw [mkB_of]
  · simp only at h1; subst h1
    show some w = some (mkB w.data.toList); rw [mkB_of]

def kinds : List ByteArray := [(bs [32]), (bs [10]), (bs [9]), (bs [13, 10])]
theorem kinds_nth {j : Nat} (hj : j ≤ 3) : ∃ b K, nth kinds (j : Int) eB = mkB (b :: K) ∧ Blanks (b :: K) ∧ (b :: K).length ≤ 2 := by
  match j, hj with
  | 0, _ => exact ⟨32, [], rfl, by unfold Blanks; decide, by decide⟩
  | 1, _ => exact ⟨10, [], rfl, by unfold Blanks; decide, by decide⟩
  | 2, _ => exact ⟨9, [], rfl, by unfold Blanks; decide, by decide⟩
  | 3, _ => exact ⟨13, [10], rfl, by unfold Blanks; decide, by decide⟩

theorem shT_len {s : ByteArray} {a n : Nat} {t : Tok} (hs : s.size ≤ 200) (ht : TokIs t) (han : a + n ≤ s.size) (hc : t.1 = 1 ∨ t.1 = 4 → t.2.1 = cutS s (a : Int) ((a + n : Nat) : Int)) : (shT t).length ≤ 300 := by
  obtain ⟨k, w, v, p⟩ := t
  have hw : k = 1 ∨ k = 4 → w.data.toList.length ≤ 300 := fun h => by
    have := hc h
    simp only at this
    rw [← size_list, this, cutS_size s a (a + n) han]; omega
  unfold shT
  rcases ht with ⟨h1, h2, _⟩ | ⟨h1, h2, hin⟩ | ⟨h1, h2, hx⟩ | ⟨h1, h2, _⟩
  · simp only at h1; subst h1; exact hw (Or.inl rfl)
  · simp only at h1; subst h1
    have := itoa_len hin
    show (Lib.itoa v).length ≤ _
    simp only at this
    omega
  · simp only at h1; subst h1
    show (39 :: dbl w.data.toList ++ [39]).length ≤ _
    have := (dbl_len w.data.toList).2
    rw [← size_list] at this
    simp only at hx
    simp only [List.length_append, List.length_cons, List.length_nil]
    omega
  · simp only at h1; subst h1; exact hw (Or.inr rfl)

theorem join_loop (o1 : List Tok → ByteArray → Option Bool) (blanks : Int) (s : ByteArray) (hs : s.size ≤ 200) (l : List Tok) (hl : l.length ≤ 300) : ∀ (d i k n : Nat) (P : List UInt8), d = l.length - k → d < n → Laid s i (l.drop k) → P.length ≤ 400 * k →
    ∃ R, Joined (l.drop k) R ∧ law29_LexBlanks.l0 o1 n blanks l (mkB P) kinds (k : Int) = o1 l (mkB (P ++ R)) := by
  intro d
  induction d with
  | zero =>
    intro i k n P hd hn h
    obtain ⟨t, q, a, e, _⟩ := laid_head h
    have := (nth_drop e (0, eB, 0, 0)).1
    omega
  | succ d ih =>
    intro i k n P hd hn h hP
    obtain ⟨n, rfl⟩ : ∃ m, n = m + 1 := ⟨n - 1, by omega⟩
    obtain ⟨t, q, a0, e, _⟩ := laid_head h
    obtain ⟨hk, hnt, hdr⟩ := nth_drop e (0, eB, 0, 0)
    obtain ⟨j1, hj1, ej1⟩ := and_small (k : Int) 15 (by omega)
    have em : mulI .i64 2 (j1 : Int) = ((2 * j1 : Nat) : Int) := by rw [mul_of (by omega)]; omega
    obtain ⟨j, hj, ej⟩ := and_small (shrI .i64 blanks ((2 * j1 : Nat) : Int)) 3 (by omega)
    obtain ⟨b, K, eK, hK, hK2⟩ := kinds_nth hj
    have step : (TokIs t ∨ t.1 = 0) → (shT t).length ≤ 300 → law29_LexBlanks.l0 o1 (n + 1) blanks l (mkB P) kinds (k : Int) = law29_LexBlanks.l0 o1 n blanks l (mkB (P ++ shT t ++ b :: K)) kinds ((k + 1 : Nat) : Int) := by
      intro ht hlen
      show law29_LexBlanks.S0 o1 (law29_LexBlanks.l0 o1 n) _ _ _ _ _ = _
      unfold law29_LexBlanks.S0
      rw [lt_t (show (k : Int) < lenL l by rw [lenL_d]; omega), inB_of (show 0 ≤ (k : Int) ∧ (k : Int) < lenL l by rw [lenL_d]; omega), hnt, shown_eq ht,
        show andI .i64 (k : Int) 15 = (j1 : Int) from ej1, em, show andI .i64 (shrI .i64 blanks ((2 * j1 : Nat) : Int)) 3 = (j : Int) from ej, eK, le_t (show (0 : Int) ≤ ((2 * j1 : Nat) : Int) by omega),
        inB_of (show 0 ≤ (j : Int) ∧ (j : Int) < lenL kinds by show _ ∧ (j : Int) < 4; omega), add_of (show _ ∧ (k : Int) + 1 < _ by omega)]
      simp only [cond_true, Option.bind_some]
      rw [show roomS (mkB P) (mkB (shT t)) = true from decide_eq_true (by rw [mkB_size, mkB_size]; omega), addS_mk,
        show roomS (mkB (P ++ shT t)) (mkB (b :: K)) = true from decide_eq_true (by rw [mkB_size, mkB_size, List.length_append]; omega), addS_mk]
      rfl
    rw [e] at h ⊢
    cases h with
    | fin _ hi =>
      rw [step (Or.inr rfl) (by show (0 : Nat) ≤ 300; omega)]
      have hlen : l.length = k + 1 := by
        have := congrArg List.length e
        rw [List.length_drop] at this
        simp only [List.length_cons, List.length_nil] at this
        omega
      refine ⟨b :: K, .fin _ _ hK, ?_⟩
      obtain ⟨n, rfl⟩ : ∃ m, n = m + 1 := ⟨n - 1, by omega⟩
      show law29_LexBlanks.S0 o1 (law29_LexBlanks.l0 o1 n) _ _ _ _ _ = _
      unfold law29_LexBlanks.S0
      rw [lt_f (show lenL l ≤ ((k + 1 : Nat) : Int) by rw [lenL_d]; omega), show shT (0, eB, 0, (s.size : Int)) = [] from rfl, List.append_nil]
      rfl
    | tok _ a m _ _ h1 h2 h3 h4 h5 h6 h7 =>
      have hlen := shT_len hs h5 h3 h6
      rw [step (Or.inl h5) hlen]
      obtain ⟨R, r1, r2⟩ := ih (a + m) (k + 1) n (P ++ shT t ++ b :: K) (by omega) (by omega) (by rw [hdr]; exact h7) (by rw [List.length_append, List.length_append]; omega)
      rw [hdr] at r1
      refine ⟨shT t ++ b :: (K ++ R), .tok t b K R q h5 hK r1, ?_⟩
      rw [r2]
      congr 2
      simp

theorem same_loop (l m : List Tok) (hl : l.length < 1000000) (hm : l.map kindOf = m.map kindOf) : ∀ (d i n : Nat), d = l.length - i → i ≤ l.length → d < n → law29_LexBlanks.l2 n l m (i : Int) = some true := by
  have hlen : l.length = m.length := by have := congrArg List.length hm; simpa using this
  intro d
  induction d with
  | zero =>
    intro i n hd hi hn
    obtain ⟨n, rfl⟩ : ∃ k, n = k + 1 := ⟨n - 1, by omega⟩
    show law29_LexBlanks.S2 (law29_LexBlanks.l2 n) _ _ _ = _
    unfold law29_LexBlanks.S2
    rw [lt_f (show lenL l ≤ (i : Int) by rw [lenL_d]; omega), awake29]
    rfl
  | succ d ih =>
    intro i n hd hi hn
    obtain ⟨n, rfl⟩ : ∃ k, n = k + 1 := ⟨n - 1, by omega⟩
    show law29_LexBlanks.S2 (law29_LexBlanks.l2 n) _ _ _ = _
    unfold law29_LexBlanks.S2
    have h1 : i < l.length := by omega
    have h2 : i < m.length := by omega
    have hk : kindOf l[i] = kindOf m[i] := by
      have := congrArg (fun x : List (Int × ByteArray × Int) => x[i]?) hm
      simp only [List.getElem?_map] at this
      rw [List.getElem?_eq_getElem h1, List.getElem?_eq_getElem h2] at this
      simpa using this
    unfold kindOf at hk
    injection hk with k1 k2
    injection k2 with k2 k3
    rw [lt_t (show (i : Int) < lenL l by rw [lenL_d]; omega), lt_t (show (i : Int) < lenL m by rw [lenL_d]; omega), inB_of (show 0 ≤ (i : Int) ∧ (i : Int) < lenL l by rw [lenL_d]; omega), inB_of (show 0 ≤ (i : Int) ∧ (i : Int) < lenL m by rw [lenL_d]; omega),
      nth_get h1, nth_get h2, k1, k2, k3, ne_f rfl, eqS_t rfl, ne_f rfl, add_of (show _ ∧ (i : Int) + 1 < _ by omega)]
    exact ih (i + 1) n (by omega) (by omega) (by omega)

theorem lexBlanks_law (s : ByteArray) (blanks : Int) : law29_LexBlanks s blanks = some true := by
  refine ret_eq ?_
  show Ret (law29_LexBlanks.S (law29_LexBlanks.l0 (law29_LexBlanks.t1 fu) fu) s blanks) _
  rw [show law29_LexBlanks.t1 fu = law29_LexBlanks.S1 (law29_LexBlanks.l2 (fu - 1)) from rfl]
  unfold law29_LexBlanks.S
  have aw : Ret (law29_awake.bind fun r => some r) fun r => r = true := by rw [awake29]; exact ret_some rfl
  refine ret_lt (fun _ => aw) (fun h => ?_)
  rw [lenS_d] at h
  obtain ⟨x, h1, _, h3, h4⟩ := tokens_eq s (by omega)
  refine ret_bind_eq h1 (ret_neI (fun _ => aw) (fun h0 => ?_))
  have hL := h4 h0
  obtain ⟨R, r1, r2⟩ := join_loop (law29_LexBlanks.S1 (law29_LexBlanks.l2 (fu - 1))) blanks s (by omega) x.1 (by omega) x.1.length 0 0 fu [] (by omega) (by unfold fu; omega) (by rw [List.drop_zero]; exact hL) (by simp)
  rw [List.drop_zero] at r1
  rw [List.nil_append] at r2
  show Ret (law29_LexBlanks.l0 _ fu blanks x.1 (mkB []) kinds ((0 : Nat) : Int)) _
  rw [r2]
  unfold law29_LexBlanks.S1
  refine ret_lt (fun _ => aw) (fun h5 => ?_)
  rw [lenS_mk] at h5
  obtain ⟨m, m1, m2⟩ := lex_join (mkB R) (by rw [mkB_size]; omega) r1 [] 0 fu [] rfl (Nat.zero_le _) (fun b hb => by cases hb) (by unfold fu; omega) (by simp; omega)
  have hT : lex_Tokens (mkB R) = some (m, 0, 0) := by
    show lex_Tokens.S (lex_Tokens.l0 fu) (mkB R) = _
    unfold lex_Tokens.S
    rw [lt_f (show lenS (mkB R) ≤ 1024 by rw [lenS_mk]; omega)]
    exact m1
  refine ret_bind_eq hT ?_
  have hlen : x.1.length = m.length := by have := congrArg List.length m2; simpa using this
  refine ret_neI (fun h => absurd rfl h) (fun _ => ret_neI (fun h => absurd (by rw [lenL_d, lenL_d]; simp only; omega) h) (fun _ => ?_))
  exact ret_of_eq (same_loop x.1 m (by omega) m2 x.1.length 0 (fu - 1) (by omega) (by omega) (by unfold fu; omega)) rfl

end Go.AM.Pure
end
