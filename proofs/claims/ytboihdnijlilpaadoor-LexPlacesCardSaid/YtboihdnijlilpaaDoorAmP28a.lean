import Derived.Test.YtboihdnijlilpaaDoorAmPure28
import Derived.Test.YtboihdnijlilpaaDoorAmP29
/- Each token begins where it says: the law LexPlaces. -/
namespace Go.AM.Pure
open Go.AM

theorem nth_drop {α : Type} {l : List α} {k : Nat} {t : α} {q : List α} (h : l.drop k = t :: q) (z : α) : k < l.length ∧ nth l (k : Int) z = t ∧ l.drop (k + 1) = q := by
  have hk : k < l.length := by
    rcases Nat.lt_or_ge k l.length with x | x
    · exact x
    · rw [List.drop_of_length_le x] at h; cases h
  rw [List.drop_eq_getElem_cons hk] at h
  injection h with h1 h2
  exact ⟨hk, by rw [nth_get hk]; exact h1, h2⟩

theorem laid_head {s : ByteArray} {i : Nat} {l : List Tok} (h : Laid s i l) : ∃ t q, ∃ a : Nat, l = t :: q ∧ t.2.2.2 = (a : Int) ∧ i ≤ a ∧ a ≤ s.size := by
  cases h with
  | fin _ hi => exact ⟨_, _, s.size, rfl, rfl, hi, Nat.le_refl _⟩
  | tok _ a n t l h1 h2 h3 h4 => exact ⟨t, l, a, rfl, h4, h1, by omega⟩
theorem laid_last {s : ByteArray} {i : Nat} {l : List Tok} (h : Laid s i l) : ∃ q, l = q ++ [(0, eB, 0, (s.size : Int))] := by
  induction h with
  | fin _ hi => exact ⟨[], rfl⟩
  | tok _ a n t l _ _ _ _ _ _ _ ih =>
    obtain ⟨q, hq⟩ := ih
    exact ⟨t :: q, by rw [hq]; rfl⟩

theorem tokIs_kind {t : Tok} (h : TokIs t) : t.1 = 1 ∨ t.1 = 2 ∨ t.1 = 3 ∨ t.1 = 4 := by
  rcases h with ⟨h, _⟩ | ⟨h, _⟩ | ⟨h, _⟩ | ⟨h, _⟩ <;> simp [h]

theorem places_loop (s : ByteArray) (hs : s.size < 1000000) (l : List Tok) (hl : l.length < 1000000) : ∀ (d i k n : Nat), d = l.length - k → d < n → Laid s i (l.drop k) → law29_LexPlaces.l0 n s l (k : Int) = some true := by
  intro d
  induction d with
  | zero =>
    intro i k n hd hn h
    obtain ⟨t, q, a, e, _⟩ := laid_head h
    have := (nth_drop e (0, eB, 0, 0)).1
    omega
  | succ d ih =>
    intro i k n hd hn h
    obtain ⟨n, rfl⟩ : ∃ m, n = m + 1 := ⟨n - 1, by omega⟩
    show law29_LexPlaces.S0 (law29_LexPlaces.l0 n) s l (k : Int) = _
    refine ret_eq ?_
    unfold law29_LexPlaces.S0
    obtain ⟨t, q, a0, e, _⟩ := laid_head h
    obtain ⟨hk, hnt, hdr⟩ := nth_drop e (0, eB, 0, 0)
    rw [e] at h
    rw [add_of (show _ ∧ (k : Int) + 1 < _ by omega), show (k : Int) + 1 = ((k + 1 : Nat) : Int) by omega, hnt]
    cases h with
    | fin _ hi =>
      have : l.length = k + 1 := by
        have := congrArg List.length e
        rw [List.length_drop] at this
        simp only [List.length_cons, List.length_nil] at this
        omega
      rw [lt_f (show lenL l ≤ ((k + 1 : Nat) : Int) by rw [lenL_d]; omega), awake29]
      exact ret_some rfl
    | tok _ a m _ _ h1 h2 h3 h4 h5 h6 h7 =>
      obtain ⟨t2, q2, a2, e2, b1, b2, b3⟩ := laid_head h7
      rw [e2] at hdr
      obtain ⟨hk2, hnt2, _⟩ := nth_drop hdr (0, eB, 0, 0)
      have hself : Ret (law29_LexPlaces.l0 n s l ((k + 1 : Nat) : Int)) fun r => r = true := by
        rw [ih (a + m) (k + 1) n (by omega) (by omega) (by rw [hdr, ← e2]; exact h7)]
        exact ret_some rfl
      have in1 : inB (k : Int) (lenL l) = true := inB_of (by rw [lenL_d]; omega)
      have hcut : t.1 = 1 ∨ t.1 = 4 → Ret (bif (ltI (subI .i64 (a2 : Int) (a : Int)) (lenS t.2.1)) then some false else
          bif (inC (a : Int) (addI .i64 (a : Int) (lenS t.2.1)) (lenS s)) then bif (!(eqS (cutS s (a : Int) (addI .i64 (a : Int) (lenS t.2.1))) t.2.1)) then some false else law29_LexPlaces.l0 n s l ((k + 1 : Nat) : Int) else none) fun r => r = true := by
        intro hkind
        have hc := h6 hkind
        have hsz : lenS t.2.1 = (m : Int) := by
          rw [hc, lenS_d, cutS_size s a (a + m) h3]; omega
        rw [hsz, sub_of (by omega), add_of (by omega), lt_f (by omega), inC_of (by rw [lenS_d]; omega), show (a : Int) + m = ((a + m : Nat) : Int) by omega, eqS_t hc.symm]
        exact hself
      rw [hnt2, h4, b1, lt_t (show ((k + 1 : Nat) : Int) < lenL l by rw [lenL_d]; omega), in1, inB_of (show 0 ≤ ((k + 1 : Nat) : Int) ∧ ((k + 1 : Nat) : Int) < lenL l by rw [lenL_d]; omega),
        lt_f (show 0 ≤ (a : Int) by omega), le_f (show (a : Int) < (a2 : Int) by omega), lt_f (show (a2 : Int) ≤ lenS s by rw [lenS_d]; omega)]
      simp only [cond_true, cond_false]
      rcases tokIs_kind h5 with x | x | x | x
      · rw [x]; exact hcut (Or.inl x)
      · rw [x]; exact hself
      · rw [x]; exact hself
      · rw [x]; exact hcut (Or.inr x)

theorem lexPlaces_law (s : ByteArray) : law29_LexPlaces s = some true := by
  refine ret_eq ?_
  show Ret (law29_LexPlaces.S (law29_LexPlaces.l0 fu) s) _
  unfold law29_LexPlaces.S
  have aw : Ret (law29_awake.bind fun r => some r) fun r => r = true := by rw [awake29]; exact ret_some rfl
  refine ret_lt (fun _ => aw) (fun h => ?_)
  rw [lenS_d] at h
  obtain ⟨x, h1, _, h3, h4⟩ := tokens_eq s (by omega)
  refine ret_bind_eq h1 (ret_neI (fun _ => aw) (fun h0 => ?_))
  have hL := h4 h0
  obtain ⟨q, hq⟩ := laid_last hL
  have hlen : x.1.length = q.length + 1 := by rw [hq]; simp
  have hn : nth x.1 (subI .i64 (lenL x.1) 1) (0, eB, 0, 0) = (0, eB, 0, (s.size : Int)) := by
    have e1 : subI .i64 (lenL x.1) 1 = ((q.length : Nat) : Int) := by rw [lenL_d, sub_of (by omega)]; omega
    rw [e1]
    exact (nth_drop (q := []) (by rw [hq]; exact List.drop_left' rfl) _).2.1
  rw [hn, lenL_d]
  refine ret_eqI (fun h => absurd h (by omega)) (fun _ => ?_)
  refine ret_inB (by rw [sub_of (by omega)]; omega) ?_
  rw [eq_t rfl, eqS_t rfl, eq_t (show ((0, eB, 0, (s.size : Int)) : Tok).2.2.2 = lenS s from rfl)]
  refine ret_of_eq (places_loop s (by omega) x.1 (by omega) x.1.length 0 0 fu (by omega) (by unfold fu; omega) (by rw [List.drop_zero]; exact hL)) rfl

end Go.AM.Pure
