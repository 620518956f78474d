import Derived.Test.YtlamhllcnbcbbaaGreatAmP13n
section
/- The document's plain numbers and texts, runs and frames: the same bytes. -/
namespace Go.AM.Pure
open Go.AM
theorem and255 (a : Int) : andI .i64 a 255 = a % 256 := by
  unfold andI
  have h : (BitVec.ofInt 64 a &&& BitVec.ofInt 64 255).toNat = (BitVec.ofInt 64 a).toNat % 2 ^ 8 := by
    rw [BitVec.toNat_and, show (BitVec.ofInt 64 255).toNat = 2 ^ 8 - 1 from rfl, Nat.and_two_pow_sub_one_eq_mod]
  show IntKind.wrap .i64 ((BitVec.ofInt 64 a &&& BitVec.ofInt 64 255).toNat : Int) = _
  have h2 := ofInt_nat a
  rw [h, Int.natCast_emod, h2, show ((2 ^ 8 : Nat) : Int) = 256 from rfl, wrap_of (by omega)]
  omega
theorem put7_inner (l : List Int) {o0 : List Int → List Int → Int → Option ByteArray} {i : Nat} (hi : i < l.length) (hil : i < 1000000) : ∀ (d k n : Nat) (b : List Int), k + d = 8 → d < n → b.length < 100000000000 →
    ref07_PutInts.l1 o0 n l (b ++ chop k (wb l[i] 64)) (i : Int) (k : Int) = o0 l (b ++ chop 8 (wb l[i] 64)) ((i : Int) + 1)
  | 0, k, n, b, h, hn, hb => by
    obtain ⟨n, rfl⟩ : ∃ j, n = j + 1 := ⟨n - 1, by omega⟩
    have : k = 8 := by omega
    subst this
    show ref07_PutInts.S1 _ _ _ _ _ _ = _
    unfold ref07_PutInts.S1
    rw [lt_f (by omega), cond_false, add_of (a := (i : Int)) (by omega)]
  | d + 1, k, n, b, h, hn, hb => by
    obtain ⟨n, rfl⟩ : ∃ j, n = j + 1 := ⟨n - 1, by omega⟩
    show ref07_PutInts.S1 o0 (ref07_PutInts.l1 o0 n) _ _ _ _ = _
    unfold ref07_PutInts.S1
    have hm : mulI .i64 8 (k : Int) = ((8 * k : Nat) : Int) := by rw [mul_of (by omega)]; omega
    have hbyte : IntKind.wrap .u8 (andI .i64 (shrI .i64 l[i] ((8 * k : Nat) : Int)) 255) = l[i] / 2 ^ (8 * k) % 256 := by
      rw [shrI_nat _ _ (by omega), and255, wrapU8]; omega
    rw [lt_t (by omega), cond_true, inB_of (by rw [lenL_d]; omega), cond_true, hm, le_t (by omega), cond_true, roomB_of (by rw [List.length_append, chop_len]; omega), cond_true, nth_get hi, hbyte, add_of (by omega), List.append_assoc, ← chop_wb l[i] k (by omega)]
    exact put7_inner l hi hil d (k + 1) n b (by omega) (by omega) hb
theorem put7_outer (l : List Int) (hl : l.length ≤ 65536) : ∀ (d i m : Nat), d = l.length - i → i ≤ l.length → 20 < m →
    ref07_PutInts.l0 (m + d) l (chop (8 * i) (strm (l.take i) 64)) (i : Int) = some (ofBytes (packB l 64)) := by
  intro d
  induction d with
  | zero =>
    intro i m hd hi hm
    have : i = l.length := by omega
    subst this
    obtain ⟨m, rfl⟩ : ∃ j, m = j + 1 := ⟨m - 1, by omega⟩
    show ref07_PutInts.S0 _ _ _ _ = _
    unfold ref07_PutInts.S0
    rw [lenL_d, lt_f (by omega), cond_false, List.take_length]
    unfold packB
    rw [show (l.length * 64 + 7) / 8 = 8 * l.length by omega]
  | succ d ih =>
    intro i m hd hi hm
    have hlt : i < l.length := by omega
    show ref07_PutInts.S0 (ref07_PutInts.l1 (ref07_PutInts.l0 (m + d)) (m + d)) _ _ _ = _
    unfold ref07_PutInts.S0
    rw [lenL_d, lt_t (by omega), cond_true]
    have h1 := put7_inner (o0 := ref07_PutInts.l0 (m + d)) l hlt (by omega) 8 0 (m + d) (chop (8 * i) (strm (l.take i) 64)) rfl (by omega) (by rw [chop_len]; omega)
    rw [show chop 0 (wb l[i] 64) = [] from rfl, List.append_nil] at h1
    rw [show (0 : Int) = ((0 : Nat) : Int) from rfl, h1]
    have := ih (i + 1) m (by omega) (by omega) hm
    rw [take_one hlt, strm_snoc, show 8 * (i + 1) = 8 * i + 8 by omega, chop_app _ 8 _ _ (by rw [strm_len, List.length_take]; omega)] at this
    exact this
theorem ref07_PutInts_eq (l : List Int) (hl : l.length ≤ 65536) : ref07_PutInts l = some (ofBytes (packB l 64)) := by
  have := put7_outer l hl l.length 0 (fu - l.length) (by omega) (by omega) (by unfold fu; omega)
  rw [show fu - l.length + l.length = fu by unfold fu; omega] at this
  exact this
theorem putT7_loop (o : List ByteArray) (hl : o.length ≤ 65536) (hs : Short o) : ∀ (d i n : Nat), d = o.length - i → i ≤ o.length → d < n →
    ref07_PutTexts.l0 n o (textsB (o.take i)) (i : Int) = some (ofBytes (textsB o), 0) := by
  intro d
  induction d with
  | zero =>
    intro i n hd hi hn
    have : i = o.length := by omega
    subst this
    obtain ⟨n, rfl⟩ : ∃ k, n = k + 1 := ⟨n - 1, by omega⟩
    show ref07_PutTexts.S0 _ _ _ _ = _
    unfold ref07_PutTexts.S0
    rw [lenL_d, lt_f (by omega), cond_false, List.take_length]
  | succ d ih =>
    intro i n hd hi hn
    obtain ⟨n, rfl⟩ : ∃ k, n = k + 1 := ⟨n - 1, by omega⟩
    have hlt : i < o.length := by omega
    have h1 := textsB_len (o.take i) (hs.take i)
    rw [List.length_take] at h1
    have h2 := hs o[i] (List.getElem_mem hlt)
    show ref07_PutTexts.S0 (ref07_PutTexts.l0 n) _ _ _ = _
    unfold ref07_PutTexts.S0
    have := ih (i + 1) n (by omega) (by omega) (by omega)
    rw [take_one hlt, textsB_snoc, show textsB (o.take i) ++ tB o[i] = textsB (o.take i) ++ [(o[i].size : Int)] ++ toBytes o[i] by unfold tB; simp] at this
    rw [lenL_d, lt_t (by omega), cond_true, inB_of (by omega), cond_true, nth_get hlt, lenS_d, lt_f (by omega), cond_false, cond_true, roomB_of (by omega), cond_true, cond_true, roomB_of (by rw [List.length_append, List.length_singleton]; omega), cond_true, add_of (by omega), wrapU8, show (o[i].size : Int) % 256 = (o[i].size : Int) by omega]
    exact this
theorem ref07_PutTexts_eq (o : List ByteArray) (hl : o.length ≤ 65536) (hs : Short o) : ref07_PutTexts o = some (ofBytes (textsB o), 0) :=
  putT7_loop o hl hs o.length 0 fu (by omega) (by omega) (by unfold fu; omega)
theorem rep_inj {x : Int} : ∀ (c d : Nat) (A B : List Int), List.replicate c x ++ A = List.replicate d x ++ B → A.head? ≠ some x → B.head? ≠ some x → c = d ∧ A = B
  | 0, 0, A, B, h, _, _ => ⟨rfl, h⟩
  | 0, d + 1, A, B, h, ha, _ => by
    exfalso; apply ha
    rw [show A = _ from h]; rfl
  | c + 1, 0, A, B, h, _, hb => by
    exfalso; apply hb
    rw [show B = _ from h.symm]; rfl
  | c + 1, d + 1, A, B, h, ha, hb => by
    rw [List.replicate_succ, List.replicate_succ, List.cons_append, List.cons_append] at h
    obtain ⟨h1, h2⟩ := rep_inj c d A B (List.cons.inj h).2 ha hb
    exact ⟨by omega, h2⟩
theorem flat_head {o : List Run} {n : Nat} {x : Int} (h : okR n (some x) o) : (flatR o).head? ≠ some x := by
  cases o with
  | nil => intro h; cases h
  | cons r o =>
    obtain ⟨_, h1, h2, _⟩ := h
    rw [flatR_cons, show r.2.2.toNat = (r.2.2.toNat - 1) + 1 by omega, List.replicate_succ]
    intro h
    exact h2 (by simpa using h.symm)
theorem okR_uniq : ∀ {o q : List Run} {n : Nat} {p : Option Int}, okR n p o → okR n p q → flatR o = flatR q → o = q
  | [], [], _, _, _, _, _ => rfl
  | [], r :: q, _, _, _, h, e => by
    have h1 := h.2.1
    rw [flatR_cons, show r.2.2.toNat = (r.2.2.toNat - 1) + 1 by omega, List.replicate_succ] at e
    cases e
  | r :: q, [], _, _, h, _, e => by
    have h1 := h.2.1
    rw [flatR_cons, show r.2.2.toNat = (r.2.2.toNat - 1) + 1 by omega, List.replicate_succ] at e
    cases e
  | (x, a, c) :: o, (y, b, d) :: q, n, p, h, k, e => by
    obtain ⟨h1, h2, _, h4⟩ := h
    obtain ⟨k1, k2, _, k4⟩ := k
    dsimp only at h1 h2 h4 k1 k2 k4
    rw [flatR_cons, flatR_cons] at e
    dsimp only at e
    have hxy : x = y := by
      rw [show c.toNat = (c.toNat - 1) + 1 by omega, show d.toNat = (d.toNat - 1) + 1 by omega, List.replicate_succ, List.replicate_succ] at e
      exact (List.cons.inj e).1
    subst hxy
    obtain ⟨e1, e2⟩ := rep_inj _ _ _ _ e (flat_head h4) (flat_head k4)
    rw [e1] at h4
    rw [okR_uniq h4 k4 e2, show c = d by omega, h1, k1]
theorem of10_loop (l : List Int) (hl : l.length ≤ 65536) : ∀ (d i n : Nat) (out : List Run), d = l.length - i → i ≤ l.length → d < n → flatR out = l.take i → okR 0 none out → lastR none out = (l.take i).getLast? →
    ∃ o, ref10_Of.l0 n l (i : Int) out = some o ∧ flatR o = l ∧ okR 0 none o := by
  intro d
  induction d with
  | zero =>
    intro i n out hd hi hn h1 h2 _
    have : i = l.length := by omega
    subst this
    obtain ⟨n, rfl⟩ : ∃ k, n = k + 1 := ⟨n - 1, by omega⟩
    rw [List.take_length] at h1
    refine ⟨out, ?_, h1, h2⟩
    show ref10_Of.S0 _ _ _ _ = _
    unfold ref10_Of.S0
    rw [lenL_d, lt_f (by omega), cond_false]
  | succ d ih =>
    intro i n out hd hi hn h1 h2 h3
    obtain ⟨n, rfl⟩ : ∃ k, n = k + 1 := ⟨n - 1, by omega⟩
    have hlt : i < l.length := by omega
    have hfl : (flatR out).length = i := by rw [h1, List.length_take]; omega
    have hol := okR_len out 0 none h2
    have hsn : (l.take (i + 1)).getLast? = some l[i] := by rw [take_one hlt, List.getLast?_concat]
    have hnew : (lastR none out ≠ some l[i]) → ∃ o, ref10_Of.l0 n l ((i + 1 : Nat) : Int) (out ++ [(l[i], (i : Int), 1)]) = some o ∧ flatR o = l ∧ okR 0 none o := fun hne =>
      ih (i + 1) n _ (by omega) (by omega) (by omega) (by rw [flatR_app, flatR_one, h1, take_one hlt]; rfl)
        ((okR_app _ _ _ _).2 ⟨h2, by rw [hfl]; exact ⟨by show (i : Int) = _; omega, by show (1 : Int) ≤ 1; omega, hne, trivial⟩⟩) (by rw [lastR_snoc, hsn])
    show ∃ o, ref10_Of.S0 (ref10_Of.l0 n) _ _ _ = _ ∧ _
    unfold ref10_Of.S0
    rw [lenL_d, lt_t (by omega), cond_true, le_t (by omega), cond_true, inB_of (i := (i : Int)) (by omega), cond_true, cond_true, nth_get hlt, add_of (by omega), roomB_of (by omega), cond_true]
    by_cases hi0 : i = 0
    · subst hi0
      rw [lt_f (by omega), cond_false]
      exact hnew (by rw [h3, List.take_zero]; simp)
    · rw [lt_t (by omega), cond_true, sub_of (a := (i : Int)) (by omega), inB_of (i := (i : Int) - 1) (by omega), cond_true]
      have hlt1 : i - 1 < l.length := by omega
      have hlast : (l.take i).getLast? = some l[i - 1] := by
        have : l.take i = l.take (i - 1) ++ [l[i - 1]] := by
          have := take_one hlt1
          rwa [show i - 1 + 1 = i by omega] at this
        rw [this, List.getLast?_concat]
      rw [hlast] at h3
      rw [show (i : Int) - 1 = ((i - 1 : Nat) : Int) by omega, nth_get hlt1]
      by_cases hq : l[i] = l[i - 1]
      · rw [eq_t hq, cond_true]
        rcases List.eq_nil_or_concat out with h0 | ⟨o, r, h0⟩
        · subst h0; cases h3
        · rw [List.concat_eq_append] at h0
          subst h0
          rw [lastR_snoc] at h3
          have hr1 : r.1 = l[i - 1] := Option.some.inj h3
          have hob' : o.length < 1000000 := by rw [List.length_append] at hol; omega
          obtain ⟨k1, k2⟩ := (okR_app _ _ _ _).1 h2
          obtain ⟨k3, k4, k5, _⟩ := k2
          have hrl : r.2.2.toNat ≤ i := by
            rw [flatR_app, flatR_one, List.length_append, List.length_replicate] at hfl
            omega
          have hsub : subI .i64 (lenL (o ++ [r])) 1 = (o.length : Int) := by rw [lenL_d, List.length_append, List.length_singleton, sub_of (by omega)]; omega
          have hget : List.getD (o ++ [r]) o.length (0, 0, 0) = r := by rw [List.getD_eq_getElem?_getD, List.getElem?_append_right (Nat.le_refl _), Nat.sub_self]; rfl
          have hset : ∀ r', List.set (o ++ [r]) o.length r' = o ++ [r'] := fun r' => by rw [List.set_append_right _ _ (Nat.le_refl _), Nat.sub_self]; rfl
          rw [hsub, inB_of (by rw [lenL_d, List.length_append, List.length_singleton]; omega), cond_true, cond_true, show Int.toNat (o.length : Int) = o.length from rfl, hget, hset, add_of (by omega)]
          refine ih (i + 1) n _ (by omega) (by omega) (by omega) ?_ ((okR_app _ _ _ _).2 ⟨k1, k3, by show 1 ≤ r.2.2 + 1; omega, k5, trivial⟩) (by rw [lastR_snoc, hsn, hq]; exact h3)
          rw [flatR_app, flatR_one] at h1
          rw [flatR_app, flatR_one, take_one hlt, ← h1, List.append_assoc]
          congr 1
          show List.replicate (r.2.2 + 1).toNat r.1 = _
          rw [show (r.2.2 + 1).toNat = r.2.2.toNat + 1 by omega, List.replicate_succ', hr1, hq]
      · rw [eq_f hq, cond_false]
        exact hnew (by rw [h3]; intro h; exact hq (Option.some.inj h).symm)
theorem ref10_Of_eq (l : List Int) (hl : l.length ≤ 65536) : ref10_Of l = some (runO l) := by
  obtain ⟨o, h1, h2, h3⟩ := of10_loop l hl l.length 0 fu [] (by omega) (by omega) (by unfold fu; omega) rfl trivial rfl
  obtain ⟨_, k2, k3⟩ := runO_eq l hl
  rw [okR_uniq h3 k3 (by rw [h2, k2])] at h1
  exact h1
theorem may10_loop (o : List Run) (ho : okR 0 none o) (hl : (flatR o).length ≤ 65536) : ∀ (d i n : Nat), d = o.length - i → i ≤ o.length → d < n →
    ref10_May.l0 n o ((flatR (o.take i)).length : Int) (i : Int) = some true := by
  have hol := okR_len o 0 none ho
  intro d
  induction d with
  | zero =>
    intro i n hd hi hn
    have : i = o.length := by omega
    subst this
    obtain ⟨n, rfl⟩ : ∃ k, n = k + 1 := ⟨n - 1, by omega⟩
    show ref10_May.S0 _ _ _ _ = _
    unfold ref10_May.S0
    rw [lenL_d, lt_f (by omega), cond_false]
  | succ d ih =>
    intro i n hd hi hn
    obtain ⟨n, rfl⟩ : ∃ k, n = k + 1 := ⟨n - 1, by omega⟩
    have hlt : i < o.length := by omega
    obtain ⟨k1, k2, k3, k4, k5⟩ := okR_at ho hlt
    show ref10_May.S0 (ref10_May.l0 n) _ _ _ = _
    unfold ref10_May.S0
    have hadd : addI .i64 ((flatR (o.take i)).length : Int) o[i].2.2 = ((flatR (o.take (i + 1))).length : Int) := by rw [add_of (by omega), k4]; omega
    have := ih (i + 1) n (by omega) (by omega) (by omega)
    rw [lenL_d, lt_t (by omega), cond_true, inB_of (i := (i : Int)) (by omega), cond_true, nth_get hlt, ne_f k1, cond_false, cond_true, lt_f (by omega), cond_false, cond_true, sub_of (a := 65536) (by omega), lt_f (by omega), cond_false, hadd, add_of (a := (i : Int)) (by omega)]
    simp only [cond_true]
    by_cases hi0 : i = 0
    · rw [lt_f (by omega), cond_false]
      exact this
    · have hlt1 : i - 1 < o.length := by omega
      have hl2 : lastR none (o.take i) = some o[i - 1].1 := by
        have : o.take i = o.take (i - 1) ++ [o[i - 1]] := by
          have := take_one hlt1
          rwa [show i - 1 + 1 = i by omega] at this
        rw [this, lastR_snoc]
      rw [hl2] at k3
      rw [lt_t (by omega), cond_true, sub_of (by omega), inB_of (by omega), cond_true, show (i : Int) - 1 = ((i - 1 : Nat) : Int) by omega, nth_get hlt1, eq_f (fun h => k3 (by rw [h])), cond_false]
      exact this
theorem put10_loop (o : List Run) (hl : o.length ≤ 65536) (h64 : ∀ r ∈ o, in64 r.1 ∧ in64 r.2.2) : ∀ (d i n : Nat), d = o.length - i → i ≤ o.length → d < n →
    ref10_Put.l0 n o (ofBytes (runB (o.take i))) (i : Int) = some (ofBytes (runB o), 0) := by
  intro d
  induction d with
  | zero =>
    intro i n hd hi hn
    have : i = o.length := by omega
    subst this
    obtain ⟨n, rfl⟩ : ∃ k, n = k + 1 := ⟨n - 1, by omega⟩
    show ref10_Put.S0 _ _ _ _ = _
    unfold ref10_Put.S0
    rw [lenL_d, lt_f (by omega), cond_false, List.take_length]
  | succ d ih =>
    intro i n hd hi hn
    obtain ⟨n, rfl⟩ : ∃ k, n = k + 1 := ⟨n - 1, by omega⟩
    have hlt : i < o.length := by omega
    have h1 := runB_len (o.take i)
    rw [List.length_take] at h1
    have h2 := vB_len o[i].1
    have h3 := vB_len o[i].2.2
    obtain ⟨q1, q2⟩ := h64 o[i] (List.getElem_mem hlt)
    show ref10_Put.S0 (ref10_Put.l0 n) _ _ _ = _
    unfold ref10_Put.S0
    have r1 : roomS (ofBytes (runB (o.take i))) (ofBytes (vB o[i].1)) = true := decide_eq_true (by rw [ofBytes_size, ofBytes_size]; omega)
    have r2 : roomS (ofBytes (runB (o.take i) ++ vB o[i].1)) (ofBytes (vB o[i].2.2)) = true := decide_eq_true (by rw [ofBytes_size, ofBytes_size, List.length_append]; omega)
    rw [lenL_d, lt_t (by omega), cond_true, inB_of (by omega), cond_true, nth_get hlt, ref02_Put_eq q1, Option.bind_some, vbytes_vB, r1, cond_true, cond_true, ref02_Put_eq q2, Option.bind_some, vbytes_vB, addS_of, r2, cond_true, addS_of, add_of (by omega), List.append_assoc, ← runB_snoc, ← take_one hlt]
    exact ih (i + 1) n (by omega) (by omega) (by omega)
theorem ref10_Put_eq (o : List Run) (ho : okR 0 none o) (hl : (flatR o).length ≤ 65536) (h64 : ∀ r ∈ o, in64 r.1) : ref10_Put o = some (ofBytes (runB o), 0) := by
  have hol := okR_len o 0 none ho
  show ref10_Put.S (ref10_Put.l0 fu) o = _
  unfold ref10_Put.S
  have hm : ref10_May o = some true := may10_loop o ho hl o.length 0 fu (by omega) (by omega) (by unfold fu; omega)
  rw [hm, Option.bind_some, Bool.not_true, cond_false]
  refine put10_loop o (by omega) (fun r hr => ⟨h64 r hr, ?_⟩) o.length 0 fu (by omega) (by omega) (by unfold fu; omega)
  obtain ⟨i, hi, rfl⟩ := List.mem_iff_getElem.1 hr
  obtain ⟨_, k2, _, k4, k5⟩ := okR_at ho hi
  unfold in64
  omega
theorem steps9_loop (l : List Int) (hl : l.length ≤ 65536) (h0 : 0 < l.length) : ∀ (d i n : Nat), d = l.length - 1 - i → i ≤ l.length - 1 → d < n →
    ref09_steps.l0 n l ((diffs l).take i) ((i + 1 : Nat) : Int) = some (diffs l) := by
  have hdl := diffs_len l
  intro d
  induction d with
  | zero =>
    intro i n hd hi hn
    have : i = l.length - 1 := by omega
    subst this
    obtain ⟨n, rfl⟩ : ∃ k, n = k + 1 := ⟨n - 1, by omega⟩
    show ref09_steps.S0 _ _ _ _ = _
    unfold ref09_steps.S0
    rw [lenL_d, lt_f (by omega), cond_false, List.take_of_length_le (by omega)]
  | succ d ih =>
    intro i n hd hi hn
    obtain ⟨n, rfl⟩ : ∃ k, n = k + 1 := ⟨n - 1, by omega⟩
    have hlt : i + 1 < l.length := by omega
    have hlt0 : i < l.length := by omega
    have hdi : i < (diffs l).length := by omega
    have hd1 := diffs_get hlt hdi
    have hih := ih (i + 1) n (by omega) (by omega) (by omega)
    rw [take_one hdi, hd1] at hih
    show ref09_steps.S0 (ref09_steps.l0 n) _ _ _ = _
    unfold ref09_steps.S0
    rw [lenL_d, lt_t (by omega), cond_true, inB_of (by omega), cond_true, sub_of (b := 1) (by omega), show ((i + 1 : Nat) : Int) - 1 = (i : Int) by omega, inB_of (by omega), cond_true, roomB_of (by rw [List.length_take]; omega), cond_true, nth_get hlt, nth_get hlt0, add_of (by omega)]
    exact hih
theorem least9_loop (x : List Int) (hx : x.length ≤ 65536) : ∀ (d i n : Nat) (m : Int), d = x.length - i → i ≤ x.length → d < n → ref09_least.l0 n x m (i : Int) = some ((x.drop i).foldl minI m) := by
  intro d
  induction d with
  | zero =>
    intro i n m hd hi hn
    have : i = x.length := by omega
    subst this
    obtain ⟨n, rfl⟩ : ∃ k, n = k + 1 := ⟨n - 1, by omega⟩
    show ref09_least.S0 _ _ _ _ = _
    unfold ref09_least.S0
    rw [lenL_d, lt_f (by omega), cond_false, List.drop_length]
    rfl
  | succ d ih =>
    intro i n m hd hi hn
    obtain ⟨n, rfl⟩ : ∃ k, n = k + 1 := ⟨n - 1, by omega⟩
    have hlt : i < x.length := by omega
    show ref09_least.S0 (ref09_least.l0 n) _ _ _ = _
    unfold ref09_least.S0
    rw [lenL_d, lt_t (by omega), cond_true, inB_of (by omega), cond_true, nth_get hlt, add_of (by omega), List.drop_eq_getElem_cons hlt, List.foldl_cons]
    exact ih (i + 1) n _ (by omega) (by omega) (by omega)
theorem words9_loop (m : Int) (D : List Int) (hD : D.length ≤ 65536) (s : ByteArray) : ∀ (d i n : Nat), d = D.length - i → i ≤ D.length → d < n →
    ref09_Put.l0 (ref09_Put.t1 fu) n s D m ((D.take i).map fun x => W64 (x - m)) (i : Int) = ref09_Put.S1 s m (D.map fun x => W64 (x - m)) := by
  intro d
  induction d with
  | zero =>
    intro i n hd hi hn
    have : i = D.length := by omega
    subst this
    obtain ⟨n, rfl⟩ : ∃ k, n = k + 1 := ⟨n - 1, by omega⟩
    show ref09_Put.S0 ref09_Put.S1 _ _ _ _ _ _ = _
    unfold ref09_Put.S0
    rw [lenL_d, lt_f (by omega), cond_false, List.take_length]
  | succ d ih =>
    intro i n hd hi hn
    obtain ⟨n, rfl⟩ : ∃ k, n = k + 1 := ⟨n - 1, by omega⟩
    have hlt : i < D.length := by omega
    have hih := ih (i + 1) n (by omega) (by omega) (by omega)
    rw [take_one hlt, List.map_append] at hih
    show ref09_Put.S0 _ (ref09_Put.l0 (ref09_Put.t1 fu) n) _ _ _ _ _ = _
    unfold ref09_Put.S0
    rw [lenL_d, lt_t (by omega), cond_true, inB_of (by omega), cond_true, roomB_of (by rw [List.length_map, List.length_take]; omega), cond_true, nth_get hlt, add_of (by omega)]
    exact hih
theorem ref09_Put_eq (l : List Int) (hl : l.length ≤ 65536) (h64 : ∀ x ∈ l, in64 x) : ref09_Put l = some (ofBytes (frameB l (widN (fwords l))), 0) := by
  show ref09_Put.S (ref09_Put.l0 (ref09_Put.t1 fu) fu) l = _
  unfold ref09_Put.S frameB
  rw [lenL_d, lt_f (by omega), cond_false]
  by_cases h0 : l.length = 0
  · rw [eq_t (by omega), cond_true, if_pos h0]
    rfl
  · rw [eq_f (by omega), cond_false, if_neg h0]
    have hl0 : 0 < l.length := by omega
    have hg0 : l.getD 0 0 = l[0] := getD_at hl0
    have hn0 : nth l 0 0 = l.getD 0 0 := rfl
    have hq : in64 (l.getD 0 0) := by rw [hg0]; exact h64 _ (List.getElem_mem hl0)
    rw [inB_of (by omega), cond_true, hn0, ref02_Put_eq hq, Option.bind_some, vbytes_vB]
    by_cases h1 : l.length = 1
    · rw [eq_t (by omega), cond_true, if_pos h1]
    · have hdl := diffs_len l
      have hst : ref09_steps l = some (diffs l) := steps9_loop l hl hl0 (l.length - 1) 0 fu (by omega) (by omega) (by unfold fu; omega)
      have hls : ref09_least (diffs l) = some (minF (diffs l)) := by
        show ref09_least.S (ref09_least.l0 fu) (diffs l) = _
        unfold ref09_least.S
        rw [inB_of (by rw [lenL_d]; omega), cond_true]
        exact least9_loop (diffs l) (by omega) ((diffs l).length - 1) 1 fu (nth (diffs l) 0 0) (by omega) (by omega) (by unfold fu; omega)
      have hw := words9_loop (minF (diffs l)) (diffs l) (by omega) (ofBytes (vB (l.getD 0 0))) (diffs l).length 0 fu (by omega) (by omega) (by unfold fu; omega)
      have hfl := fwords_len l
      obtain ⟨_, w2, _⟩ := widN_eq (fwords l) (by omega)
      have hb : (fwords l).length * widN (fwords l) ≤ 65536 * 64 := Nat.mul_le_mul (by omega) w2
      have hpl := packB_len (fwords l) (widN (fwords l))
      have k1 := vB_len (l.getD 0 0)
      have k2 := vB_len (minF (diffs l))
      rw [eq_f (by omega), cond_false, if_neg h1, hst, Option.bind_some, hls, Option.bind_some]
      refine Eq.trans hw ?_
      show ref09_Put.S1 _ _ (fwords l) = _
      unfold ref09_Put.S1
      rw [ref08_Width_eq _ (by omega), Option.bind_some, ref08_Put_eq _ w2 (by omega) (Nat.le_refl _), Option.bind_some, ref02_Put_eq (minF_in64 (by omega) (diffs_in64 l)), Option.bind_some, vbytes_vB, addS_of, ofB_one w2, addS_of]
      have r1 : roomS (ofBytes (vB (l.getD 0 0))) (ofBytes (vB (minF (diffs l)))) = true := decide_eq_true (by rw [ofBytes_size, ofBytes_size]; omega)
      have r2 : roomS (ofBytes (vB (l.getD 0 0) ++ vB (minF (diffs l)))) (ofBytes [(widN (fwords l) : Int)]) = true := decide_eq_true (by rw [ofBytes_size, ofBytes_size, List.length_append, List.length_singleton]; omega)
      have r3 : roomS (ofBytes (vB (l.getD 0 0) ++ vB (minF (diffs l)) ++ [(widN (fwords l) : Int)])) (ofBytes (packB (fwords l) (widN (fwords l)))) = true := decide_eq_true (by rw [ofBytes_size, ofBytes_size, List.length_append, List.length_append, List.length_singleton]; omega)
      dsimp only
      rw [r1, r2, r3, addS_of, cond_true, cond_true, cond_true]
      simp
end Go.AM.Pure
end

section
/- The document's dictionaries: distinct values, by insertion, and the places. Printed for numbers and texts alike by mk13r.py. -/
namespace Go.AM.Pure
open Go.AM
section
variable {α : Type} {c : α → α → Int}
theorem split_at (c : α → α → Int) (x : α) : ∀ d : List α, ∃ p q, d = p ++ q ∧ (∀ y ∈ p, c y x = -1) ∧ ∀ z r, q = z :: r → ¬ c z x = -1
  | [] => ⟨[], [], rfl, fun _ h => (by cases h), fun _ _ h => (by cases h)⟩
  | a :: d => by
    by_cases h : c a x = -1
    · obtain ⟨p, q, h1, h2, h3⟩ := split_at c x d
      refine ⟨a :: p, q, by rw [h1]; rfl, fun y hy => ?_, h3⟩
      rcases List.mem_cons.1 hy with rfl | hy
      · exact h
      · exact h2 y hy
    · exact ⟨[], a :: d, rfl, fun _ h => (by cases h), fun z r e => by cases e; exact h⟩
theorem dict_have {p q : List α} {x : α} {l : List α} (h : IsDict c (p ++ q) l) (hx : x ∈ p ++ q) : IsDict c (p ++ q) (l ++ [x]) :=
  ⟨h.1, fun y => by
    rw [List.mem_append (t := [x]), List.mem_singleton, ← h.2 y]
    exact ⟨.inl, fun h => h.elim id fun e => e ▸ hx⟩⟩
theorem dict_ins (o : Ord3 c) {p q : List α} {x : α} {l : List α} (h : IsDict c (p ++ q) l) (hp : ∀ y ∈ p, c y x = -1) (hq : ∀ z r, q = z :: r → ¬ c z x = -1 ∧ z ≠ x) : IsDict c (p ++ [x] ++ q) (l ++ [x]) := by
  obtain ⟨h1, h2⟩ := h
  obtain ⟨k1, k2, k3⟩ := List.pairwise_append.1 h1
  have hxq : ∀ y ∈ q, c x y = -1 := fun y hy => by
    cases q with
    | nil => cases hy
    | cons z r =>
      obtain ⟨m1, m2⟩ := hq z r rfl
      have hz : c x z = -1 := by
        rw [o.neg z x]
        rcases o.rng z x with h | h | h
        · exact absurd h m1
        · exact absurd ((o.eq0 _ _).1 h) m2
        · rw [h]
      rcases List.mem_cons.1 hy with rfl | hy
      · exact hz
      · exact o.tr _ _ _ hz ((List.pairwise_cons.1 k2).1 y hy)
  constructor
  · unfold Inc
    rw [List.append_assoc, List.pairwise_append]
    refine ⟨k1, ?_, fun a ha b hb => ?_⟩
    · rw [List.singleton_append, List.pairwise_cons]
      exact ⟨hxq, k2⟩
    · rcases List.mem_append.1 hb with hb | hb
      · rw [List.mem_singleton.1 hb]; exact hp a ha
      · exact k3 a ha b hb
  · intro y
    rw [List.mem_append (t := [x]), List.mem_singleton, ← h2 y]
    simp only [List.mem_append, List.mem_singleton]
    constructor
    · rintro ((h | h) | h)
      · exact .inl (.inl h)
      · exact .inr h
      · exact .inl (.inr h)
    · rintro ((h | h) | h)
      · exact .inl (.inl h)
      · exact .inr h
      · exact .inl (.inr h)
end
theorem lt_sgn (a b : Int) : ltI a b = decide (sgn a b = -1) := by
  show decide (a < b) = _
  unfold sgn
  by_cases h : a < b
  · rw [if_pos h, decide_eq_true h]; rfl
  · rw [if_neg h, decide_eq_false h]
    split <;> rfl
theorem dictI_is (l : List Int) : IsDict sgn (dictI l) l := ⟨(dictI_spec l).1.imp fun {a b} h => by unfold sgn; rw [if_pos h], (dictI_spec l).2⟩
theorem plcI (l : List Int) : plc (dictI l) l = placesI l := rfl
theorem i11_find {l d : List Int} {places : List Int} {i : Nat} (hi : i < l.length) (hil : i < 1000000) (hd : d.length < 1000000) {p q : List Int} (hpq : d = p ++ q) (hp : ∀ y ∈ p, sgn y l[i] = -1) (hq : ∀ z r, q = z :: r → ¬ sgn z l[i] = -1) {o2 : List Int → List Int → List Int → Int → Int → Option (List Int × List Int)} :
    ∀ (g j n : Nat), g = p.length - j → j ≤ p.length → g < n → ref11_Ints.l1 o2 n l d places (i : Int) (j : Int) = o2 l d places (i : Int) (p.length : Int) := by
  have hpl : d.length = p.length + q.length := by rw [hpq, List.length_append]
  intro g
  induction g with
  | zero =>
    intro j n hg hj hn
    have : j = p.length := by omega
    subst this
    obtain ⟨n, rfl⟩ : ∃ k, n = k + 1 := ⟨n - 1, by omega⟩
    show ref11_Ints.S1 _ _ _ _ _ _ _ = _
    unfold ref11_Ints.S1
    cases q with
    | nil =>
      rw [List.length_nil] at hpl
      rw [lenL_d, lt_f (by omega), cond_false]
    | cons z r =>
      rw [List.length_cons] at hpl
      have hz : d[p.length]'(by omega) = z := by simp only [hpq, List.getElem_append_right (Nat.le_refl _), Nat.sub_self, List.getElem_cons_zero]
      rw [lenL_d, lt_t (by omega), cond_true, inB_of (by omega), cond_true, inB_of (by rw [lenL_d]; omega), cond_true, nth_get (show p.length < d.length by omega), hz, nth_get hi, lt_sgn, decide_eq_false (hq z r rfl), cond_false]
  | succ g ih =>
    intro j n hg hj hn
    obtain ⟨n, rfl⟩ : ∃ k, n = k + 1 := ⟨n - 1, by omega⟩
    have hjp : j < p.length := by omega
    have hz : d[j]'(by omega) = p[j] := by simp only [hpq, List.getElem_append_left hjp]
    show ref11_Ints.S1 o2 (ref11_Ints.l1 o2 n) _ _ _ _ _ = _
    unfold ref11_Ints.S1
    rw [lenL_d, lt_t (by omega), cond_true, inB_of (by omega), cond_true, inB_of (by rw [lenL_d]; omega), cond_true, nth_get (show j < d.length by omega), hz, nth_get hi, lt_sgn, decide_eq_true (hp _ (List.getElem_mem hjp)), cond_true, add_of (by omega)]
    exact ih (j + 1) n (by omega) (by omega) (by omega)
theorem i11_ins (l : List Int) (hl : l.length ≤ 65536) {o4 : List Int → List Int → List Int → Option (List Int × List Int)} : ∀ (g i m : Nat) (d : List Int), g = l.length - i → i ≤ l.length → 200000 < m → IsDict sgn d (l.take i) → d.length ≤ i →
    ∃ D, ref11_Ints.l0 o4 (m + g) l d [] (i : Int) = o4 l D [] ∧ IsDict sgn D l ∧ D.length ≤ l.length := by
  intro g
  induction g with
  | zero =>
    intro i m d hg hi hm hd hdl
    have : i = l.length := by omega
    subst this
    obtain ⟨m, rfl⟩ : ∃ k, m = k + 1 := ⟨m - 1, by omega⟩
    rw [List.take_length] at hd
    refine ⟨d, ?_, hd, hdl⟩
    show ref11_Ints.S0 _ _ _ _ _ _ = _
    unfold ref11_Ints.S0
    rw [lenL_d, lt_f (by omega), cond_false]
  | succ g ih =>
    intro i m d hg hi hm hd hdl
    have hlt : i < l.length := by omega
    obtain ⟨p, q, hpq, hp, hq⟩ := split_at sgn l[i] d
    have hpl : d.length = p.length + q.length := by rw [hpq, List.length_append]
    have hfind := i11_find (places := []) hlt (by omega) (by omega) hpq hp hq (o2 := ref11_Ints.t2 (ref11_Ints.l0 o4 (m + g)) (m + g)) p.length 0 (m + g) (by omega) (by omega) (by omega)
    have hi2 : ((i : Int) + 1) = ((i + 1 : Nat) : Int) := rfl
    obtain ⟨e, he⟩ : ∃ e, m + g = e + 2 := ⟨m + g - 2, by omega⟩
    show ∃ D, ref11_Ints.S0 o4 (ref11_Ints.l1 (ref11_Ints.t2 (ref11_Ints.l0 o4 (m + g)) (m + g)) (m + g)) l d [] (i : Int) = _ ∧ _
    unfold ref11_Ints.S0
    rw [lenL_d, lt_t (by omega), cond_true, show (0 : Int) = ((0 : Nat) : Int) from rfl, hfind]
    have h2 : ref11_Ints.t2 (ref11_Ints.l0 o4 (m + g)) (m + g) = ref11_Ints.S2 (ref11_Ints.l0 o4 (m + g)) (ref11_Ints.S3 (ref11_Ints.l0 o4 (m + g))) := by
      generalize ref11_Ints.l0 o4 (m + g) = z
      rw [he]
      rfl
    rw [h2]
    unfold ref11_Ints.S2
    have hins : (∀ z r, q = z :: r → ¬ sgn z l[i] = -1 ∧ z ≠ l[i]) → ∃ D, ref11_Ints.S3 (ref11_Ints.l0 o4 (m + g)) l d [] (i : Int) (p.length : Int) = o4 l D [] ∧ IsDict sgn D l ∧ D.length ≤ l.length := fun hne => by
      unfold ref11_Ints.S3
      have htk : List.take (Int.toNat (p.length : Int)) d = p := by rw [hpq]; exact List.take_left
      have hdr : List.drop (Int.toNat (p.length : Int)) d = q := by rw [hpq]; exact List.drop_left
      rw [lenL_d, inC_of (by omega), cond_true, htk, hdr, roomB_of (by omega), cond_true, inB_of (by rw [lenL_d]; omega), cond_true, roomB_of (by omega), cond_true, inC_of (by omega), cond_true, nth_get hlt, roomB_of (by rw [List.length_append, List.length_singleton]; omega), cond_true, add_of (by omega), hi2]
      exact ih (i + 1) m _ (by omega) (by omega) hm (by rw [take_one hlt]; exact dict_ins ord_sgn (hpq ▸ hd) hp hne) (by rw [List.length_append, List.length_append, List.length_singleton]; omega)
    cases hqc : q with
    | nil =>
      rw [hqc, List.length_nil] at hpl
      rw [lenL_d, lt_f (by omega), cond_false]
      exact hins fun z r e => by rw [hqc] at e; cases e
    | cons z r =>
      rw [hqc, List.length_cons] at hpl
      have hz : d[p.length]'(by omega) = z := by simp only [hpq, hqc, List.getElem_append_right (Nat.le_refl _), Nat.sub_self, List.getElem_cons_zero]
      rw [lenL_d, lt_t (by omega), cond_true, inB_of (by omega), cond_true, inB_of (by rw [lenL_d]; omega), cond_true, nth_get (show p.length < d.length by omega), hz, nth_get hlt]
      by_cases hzx : z = l[i]
      · rw [eq_t hzx, cond_true, add_of (by omega), hi2]
        exact ih (i + 1) m d (by omega) (by omega) hm (by rw [take_one hlt, hpq]; exact dict_have (hpq ▸ hd) (by rw [hqc, hzx]; simp)) (by omega)
      · rw [eq_f hzx, cond_false]
        exact hins fun z' r' e => by
          rw [hqc] at e
          cases e
          exact ⟨hq z r hqc, hzx⟩
theorem i11_place {l d : List Int} (hl : l.length ≤ 65536) (hdl : d.length ≤ l.length) (hd : IsDict sgn d l) {i : Nat} (hi : i < l.length) {places : List Int} (hpl : places.length ≤ 65536) {o5 : List Int → List Int → List Int → Int → Option (List Int × List Int)} :
    ∀ (g j n : Nat), g = idx d l[i] - j → j ≤ idx d l[i] → g < n → ref11_Ints.l6 o5 n l d places (i : Int) (j : Int) = o5 l d (places ++ [(idx d l[i] : Int)]) ((i : Int) + 1) := by
  have hk := idx_lt ((hd.2 _).2 (List.getElem_mem hi))
  have hg := idx_get hk
  intro g
  induction g with
  | zero =>
    intro j n hg' hj hn
    have : j = idx d l[i] := by omega
    subst this
    obtain ⟨n, rfl⟩ : ∃ k, n = k + 1 := ⟨n - 1, by omega⟩
    show ref11_Ints.S6 _ _ _ _ _ _ _ = _
    unfold ref11_Ints.S6
    rw [lenL_d, inB_of (by omega), cond_true, lenL_d, inB_of (by omega), cond_true, nth_get hk, hg, nth_get hi, ne_f rfl, cond_false, roomB_of (by omega), cond_true, add_of (by omega)]
  | succ g ih =>
    intro j n hg' hj hn
    obtain ⟨n, rfl⟩ : ∃ k, n = k + 1 := ⟨n - 1, by omega⟩
    have hjd : j < d.length := by omega
    have hne : ¬ d[j] = l[i] := fun e => by
      have := hd.1.inj ord_sgn hjd hk (e.trans hg.symm)
      omega
    show ref11_Ints.S6 o5 (ref11_Ints.l6 o5 n) _ _ _ _ _ = _
    unfold ref11_Ints.S6
    rw [lenL_d, inB_of (by omega), cond_true, lenL_d, inB_of (by omega), cond_true, nth_get hjd, nth_get hi, ne_t hne, cond_true, add_of (by omega)]
    exact ih (j + 1) n (by omega) (by omega) (by omega)
theorem i11_places {l d : List Int} (hl : l.length ≤ 65536) (hdl : d.length ≤ l.length) (hd : IsDict sgn d l) : ∀ (g i m : Nat), g = l.length - i → i ≤ l.length → 200000 < m →
    ref11_Ints.l5 (m + g) l d ((plc d l).take i) (i : Int) = some (d, plc d l) := by
  have hpl := plc_len d l
  intro g
  induction g with
  | zero =>
    intro i m hg hi hm
    have : i = l.length := by omega
    subst this
    obtain ⟨m, rfl⟩ : ∃ k, m = k + 1 := ⟨m - 1, by omega⟩
    show ref11_Ints.S5 _ _ _ _ _ = _
    unfold ref11_Ints.S5
    rw [lenL_d, lt_f (by omega), cond_false, List.take_of_length_le (by omega)]
  | succ g ih =>
    intro i m hg hi hm
    have hlt : i < l.length := by omega
    have hk := idx_lt ((hd.2 _).2 (List.getElem_mem hlt))
    show ref11_Ints.S5 (ref11_Ints.l6 (ref11_Ints.l5 (m + g)) (m + g)) _ _ _ _ = _
    unfold ref11_Ints.S5
    have := i11_place hl hdl hd hlt (places := (plc d l).take i) (by rw [List.length_take]; omega) (o5 := ref11_Ints.l5 (m + g)) (idx d l[i]) 0 (m + g) (by omega) (by omega) (by omega)
    rw [lenL_d, lt_t (by omega), cond_true, show (0 : Int) = ((0 : Nat) : Int) from rfl, this]
    have h2 := ih (i + 1) m (by omega) (by omega) hm
    rw [take_one (by omega), plc_get hlt] at h2
    exact h2
theorem ref11_Ints_eq (l : List Int) (hl : l.length ≤ 65536) : ref11_Ints l = some (dictI l, plc (dictI l) l) := by
  show ref11_Ints.S (ref11_Ints.l0 (ref11_Ints.t4 fu) fu) l = _
  unfold ref11_Ints.S
  obtain ⟨D, h1, h2, h3⟩ := i11_ins l hl (o4 := ref11_Ints.t4 fu) l.length 0 (fu - l.length) [] (by omega) (by omega) (by unfold fu; omega) ⟨List.Pairwise.nil, fun x => by simp⟩ (by simp)
  rw [show fu - l.length + l.length = fu by unfold fu; omega] at h1
  have hD : D = dictI l := h2.uniq ord_sgn (dictI_is l)
  subst hD
  refine Eq.trans h1 ?_
  show ref11_Ints.S4 (ref11_Ints.l5 18446744073709551615) _ _ _ = _
  unfold ref11_Ints.S4
  have := i11_places hl h3 h2 l.length 0 (18446744073709551615 - l.length) (by omega) (by omega) (by omega)
  rw [show 18446744073709551615 - l.length + l.length = 18446744073709551615 by omega] at this
  exact this
theorem neS_f {a b : ByteArray} (h : a = b) : (!(eqS a b)) = false := by rw [eqS_t h]; rfl
theorem neS_t {a b : ByteArray} (h : ¬ a = b) : (!(eqS a b)) = true := by rw [eqS_f h]; rfl
theorem t11_find {l d : List ByteArray} {places : List Int} {i : Nat} (hi : i < l.length) (hil : i < 1000000) (hd : d.length < 1000000) {p q : List ByteArray} (hpq : d = p ++ q) (hp : ∀ y ∈ p, cmpS y l[i] = -1) (hq : ∀ z r, q = z :: r → ¬ cmpS z l[i] = -1) {o2 : List ByteArray → List ByteArray → List Int → Int → Int → Option (List ByteArray × List Int)} :
    ∀ (g j n : Nat), g = p.length - j → j ≤ p.length → g < n → ref11_Texts.l1 o2 n l d places (i : Int) (j : Int) = o2 l d places (i : Int) (p.length : Int) := by
  have hpl : d.length = p.length + q.length := by rw [hpq, List.length_append]
  intro g
  induction g with
  | zero =>
    intro j n hg hj hn
    have : j = p.length := by omega
    subst this
    obtain ⟨n, rfl⟩ : ∃ k, n = k + 1 := ⟨n - 1, by omega⟩
    show ref11_Texts.S1 _ _ _ _ _ _ _ = _
    unfold ref11_Texts.S1
    cases q with
    | nil =>
      rw [List.length_nil] at hpl
      rw [lenL_d, lt_f (by omega), cond_false]
    | cons z r =>
      rw [List.length_cons] at hpl
      have hz : d[p.length]'(by omega) = z := by simp only [hpq, List.getElem_append_right (Nat.le_refl _), Nat.sub_self, List.getElem_cons_zero]
      rw [lenL_d, lt_t (by omega), cond_true, inB_of (by omega), cond_true, inB_of (by rw [lenL_d]; omega), cond_true, nth_get (show p.length < d.length by omega), hz, nth_get hi, ltS_d, decide_eq_false (hq z r rfl), cond_false]
  | succ g ih =>
    intro j n hg hj hn
    obtain ⟨n, rfl⟩ : ∃ k, n = k + 1 := ⟨n - 1, by omega⟩
    have hjp : j < p.length := by omega
    have hz : d[j]'(by omega) = p[j] := by simp only [hpq, List.getElem_append_left hjp]
    show ref11_Texts.S1 o2 (ref11_Texts.l1 o2 n) _ _ _ _ _ = _
    unfold ref11_Texts.S1
    rw [lenL_d, lt_t (by omega), cond_true, inB_of (by omega), cond_true, inB_of (by rw [lenL_d]; omega), cond_true, nth_get (show j < d.length by omega), hz, nth_get hi, ltS_d, decide_eq_true (hp _ (List.getElem_mem hjp)), cond_true, add_of (by omega)]
    exact ih (j + 1) n (by omega) (by omega) (by omega)
theorem t11_ins (l : List ByteArray) (hl : l.length ≤ 65536) {o4 : List ByteArray → List ByteArray → List Int → Option (List ByteArray × List Int)} : ∀ (g i m : Nat) (d : List ByteArray), g = l.length - i → i ≤ l.length → 200000 < m → IsDict cmpS d (l.take i) → d.length ≤ i →
    ∃ D, ref11_Texts.l0 o4 (m + g) l d [] (i : Int) = o4 l D [] ∧ IsDict cmpS D l ∧ D.length ≤ l.length := by
  intro g
  induction g with
  | zero =>
    intro i m d hg hi hm hd hdl
    have : i = l.length := by omega
    subst this
    obtain ⟨m, rfl⟩ : ∃ k, m = k + 1 := ⟨m - 1, by omega⟩
    rw [List.take_length] at hd
    refine ⟨d, ?_, hd, hdl⟩
    show ref11_Texts.S0 _ _ _ _ _ _ = _
    unfold ref11_Texts.S0
    rw [lenL_d, lt_f (by omega), cond_false]
  | succ g ih =>
    intro i m d hg hi hm hd hdl
    have hlt : i < l.length := by omega
    obtain ⟨p, q, hpq, hp, hq⟩ := split_at cmpS l[i] d
    have hpl : d.length = p.length + q.length := by rw [hpq, List.length_append]
    have hfind := t11_find (places := []) hlt (by omega) (by omega) hpq hp hq (o2 := ref11_Texts.t2 (ref11_Texts.l0 o4 (m + g)) (m + g)) p.length 0 (m + g) (by omega) (by omega) (by omega)
    have hi2 : ((i : Int) + 1) = ((i + 1 : Nat) : Int) := rfl
    obtain ⟨e, he⟩ : ∃ e, m + g = e + 2 := ⟨m + g - 2, by omega⟩
    show ∃ D, ref11_Texts.S0 o4 (ref11_Texts.l1 (ref11_Texts.t2 (ref11_Texts.l0 o4 (m + g)) (m + g)) (m + g)) l d [] (i : Int) = _ ∧ _
    unfold ref11_Texts.S0
    rw [lenL_d, lt_t (by omega), cond_true, show (0 : Int) = ((0 : Nat) : Int) from rfl, hfind]
    have h2 : ref11_Texts.t2 (ref11_Texts.l0 o4 (m + g)) (m + g) = ref11_Texts.S2 (ref11_Texts.l0 o4 (m + g)) (ref11_Texts.S3 (ref11_Texts.l0 o4 (m + g))) := by
      generalize ref11_Texts.l0 o4 (m + g) = z
      rw [he]
      rfl
    rw [h2]
    unfold ref11_Texts.S2
    have hins : (∀ z r, q = z :: r → ¬ cmpS z l[i] = -1 ∧ z ≠ l[i]) → ∃ D, ref11_Texts.S3 (ref11_Texts.l0 o4 (m + g)) l d [] (i : Int) (p.length : Int) = o4 l D [] ∧ IsDict cmpS D l ∧ D.length ≤ l.length := fun hne => by
      unfold ref11_Texts.S3
      have htk : List.take (Int.toNat (p.length : Int)) d = p := by rw [hpq]; exact List.take_left
      have hdr : List.drop (Int.toNat (p.length : Int)) d = q := by rw [hpq]; exact List.drop_left
      rw [lenL_d, inC_of (by omega), cond_true, htk, hdr, roomB_of (by omega), cond_true, inB_of (by rw [lenL_d]; omega), cond_true, roomB_of (by omega), cond_true, inC_of (by omega), cond_true, nth_get hlt, roomB_of (by rw [List.length_append, List.length_singleton]; omega), cond_true, add_of (by omega), hi2]
      exact ih (i + 1) m _ (by omega) (by omega) hm (by rw [take_one hlt]; exact dict_ins ord_cmpS (hpq ▸ hd) hp hne) (by rw [List.length_append, List.length_append, List.length_singleton]; omega)
    cases hqc : q with
    | nil =>
      rw [hqc, List.length_nil] at hpl
      rw [lenL_d, lt_f (by omega), cond_false]
      exact hins fun z r e => by rw [hqc] at e; cases e
    | cons z r =>
      rw [hqc, List.length_cons] at hpl
      have hz : d[p.length]'(by omega) = z := by simp only [hpq, hqc, List.getElem_append_right (Nat.le_refl _), Nat.sub_self, List.getElem_cons_zero]
      rw [lenL_d, lt_t (by omega), cond_true, inB_of (by omega), cond_true, inB_of (by rw [lenL_d]; omega), cond_true, nth_get (show p.length < d.length by omega), hz, nth_get hlt]
      by_cases hzx : z = l[i]
      · rw [eqS_t hzx, cond_true, add_of (by omega), hi2]
        exact ih (i + 1) m d (by omega) (by omega) hm (by rw [take_one hlt, hpq]; exact dict_have (hpq ▸ hd) (by rw [hqc, hzx]; simp)) (by omega)
      · rw [eqS_f hzx, cond_false]
        exact hins fun z' r' e => by
          rw [hqc] at e
          cases e
          exact ⟨hq z r hqc, hzx⟩
theorem t11_place {l d : List ByteArray} (hl : l.length ≤ 65536) (hdl : d.length ≤ l.length) (hd : IsDict cmpS d l) {i : Nat} (hi : i < l.length) {places : List Int} (hpl : places.length ≤ 65536) {o5 : List ByteArray → List ByteArray → List Int → Int → Option (List ByteArray × List Int)} :
    ∀ (g j n : Nat), g = idx d l[i] - j → j ≤ idx d l[i] → g < n → ref11_Texts.l6 o5 n l d places (i : Int) (j : Int) = o5 l d (places ++ [(idx d l[i] : Int)]) ((i : Int) + 1) := by
  have hk := idx_lt ((hd.2 _).2 (List.getElem_mem hi))
  have hg := idx_get hk
  intro g
  induction g with
  | zero =>
    intro j n hg' hj hn
    have : j = idx d l[i] := by omega
    subst this
    obtain ⟨n, rfl⟩ : ∃ k, n = k + 1 := ⟨n - 1, by omega⟩
    show ref11_Texts.S6 _ _ _ _ _ _ _ = _
    unfold ref11_Texts.S6
    rw [lenL_d, inB_of (by omega), cond_true, lenL_d, inB_of (by omega), cond_true, nth_get hk, hg, nth_get hi, neS_f rfl, cond_false, roomB_of (by omega), cond_true, add_of (by omega)]
  | succ g ih =>
    intro j n hg' hj hn
    obtain ⟨n, rfl⟩ : ∃ k, n = k + 1 := ⟨n - 1, by omega⟩
    have hjd : j < d.length := by omega
    have hne : ¬ d[j] = l[i] := fun e => by
      have := hd.1.inj ord_cmpS hjd hk (e.trans hg.symm)
      omega
    show ref11_Texts.S6 o5 (ref11_Texts.l6 o5 n) _ _ _ _ _ = _
    unfold ref11_Texts.S6
    rw [lenL_d, inB_of (by omega), cond_true, lenL_d, inB_of (by omega), cond_true, nth_get hjd, nth_get hi, neS_t hne, cond_true, add_of (by omega)]
    exact ih (j + 1) n (by omega) (by omega) (by omega)
theorem t11_places {l d : List ByteArray} (hl : l.length ≤ 65536) (hdl : d.length ≤ l.length) (hd : IsDict cmpS d l) : ∀ (g i m : Nat), g = l.length - i → i ≤ l.length → 200000 < m →
    ref11_Texts.l5 (m + g) l d ((plc d l).take i) (i : Int) = some (d, plc d l) := by
  have hpl := plc_len d l
  intro g
  induction g with
  | zero =>
    intro i m hg hi hm
    have : i = l.length := by omega
    subst this
    obtain ⟨m, rfl⟩ : ∃ k, m = k + 1 := ⟨m - 1, by omega⟩
    show ref11_Texts.S5 _ _ _ _ _ = _
    unfold ref11_Texts.S5
    rw [lenL_d, lt_f (by omega), cond_false, List.take_of_length_le (by omega)]
  | succ g ih =>
    intro i m hg hi hm
    have hlt : i < l.length := by omega
    have hk := idx_lt ((hd.2 _).2 (List.getElem_mem hlt))
    show ref11_Texts.S5 (ref11_Texts.l6 (ref11_Texts.l5 (m + g)) (m + g)) _ _ _ _ = _
    unfold ref11_Texts.S5
    have := t11_place hl hdl hd hlt (places := (plc d l).take i) (by rw [List.length_take]; omega) (o5 := ref11_Texts.l5 (m + g)) (idx d l[i]) 0 (m + g) (by omega) (by omega) (by omega)
    rw [lenL_d, lt_t (by omega), cond_true, show (0 : Int) = ((0 : Nat) : Int) from rfl, this]
    have h2 := ih (i + 1) m (by omega) (by omega) hm
    rw [take_one (by omega), plc_get hlt] at h2
    exact h2
theorem ref11_Texts_eq (l : List ByteArray) (hl : l.length ≤ 65536) : ref11_Texts l = some (dictT l, plc (dictT l) l) := by
  show ref11_Texts.S (ref11_Texts.l0 (ref11_Texts.t4 fu) fu) l = _
  unfold ref11_Texts.S
  obtain ⟨D, h1, h2, h3⟩ := t11_ins l hl (o4 := ref11_Texts.t4 fu) l.length 0 (fu - l.length) [] (by omega) (by omega) (by unfold fu; omega) ⟨List.Pairwise.nil, fun x => by simp⟩ (by simp)
  rw [show fu - l.length + l.length = fu by unfold fu; omega] at h1
  have hD : D = dictT l := h2.uniq ord_cmpS (dictT_spec l)
  subst hD
  refine Eq.trans h1 ?_
  show ref11_Texts.S4 (ref11_Texts.l5 18446744073709551615) _ _ _ = _
  unfold ref11_Texts.S4
  have := t11_places hl h3 h2 l.length 0 (18446744073709551615 - l.length) (by omega) (by omega) (by omega)
  rw [show 18446744073709551615 - l.length + l.length = 18446744073709551615 by omega] at this
  exact this
end Go.AM.Pure
end

section
/- The document's sum of bytes, its codes, and its blocks: the same bytes as the program's. -/
namespace Go.AM.Pure
open Go.AM
theorem xor64 {a b : Nat} (ha : a < 4294967296) (hb : b < 4294967296) : xorI .i64 (a : Int) (b : Int) = ((a ^^^ b : Nat) : Int) := by
  have h := Nat.xor_lt_two_pow (n := 32) ha hb
  unfold xorI
  have e : (BitVec.ofInt 64 (a : Int) ^^^ BitVec.ofInt 64 (b : Int)).toNat = a ^^^ b := by
    rw [BitVec.toNat_xor, BitVec.ofInt_natCast, BitVec.ofInt_natCast, BitVec.toNat_ofNat, BitVec.toNat_ofNat, Nat.mod_eq_of_lt (by omega), Nat.mod_eq_of_lt (by omega)]
  show IntKind.wrap .i64 ((BitVec.ofInt 64 (a : Int) ^^^ BitVec.ofInt 64 (b : Int)).toNat : Int) = _
  rw [e]
  exact wrap_of (by omega)
theorem wrapU32 (n : Int) : IntKind.wrap .u32 n = n % 4294967296 := by
  unfold IntKind.wrap
  rfl
theorem xor32 {a b : Nat} (ha : a < 4294967296) (hb : b < 4294967296) : xorI .u32 (a : Int) (b : Int) = ((a ^^^ b : Nat) : Int) := by
  have h := Nat.xor_lt_two_pow (n := 32) ha hb
  unfold xorI
  have e : (BitVec.ofInt 32 (a : Int) ^^^ BitVec.ofInt 32 (b : Int)).toNat = a ^^^ b := by
    rw [BitVec.toNat_xor, BitVec.ofInt_natCast, BitVec.ofInt_natCast, BitVec.toNat_ofNat, BitVec.toNat_ofNat, Nat.mod_eq_of_lt (by omega), Nat.mod_eq_of_lt (by omega)]
  show IntKind.wrap .u32 ((BitVec.ofInt 32 (a : Int) ^^^ BitVec.ofInt 32 (b : Int)).toNat : Int) = _
  rw [e, wrapU32]
  omega
def stepN (n : Nat) : Nat := (n / 2) ^^^ (if n % 2 = 1 then 2197175160 else 0)
theorem and_u32 (n : Nat) (_ : n < 4294967296) : andI .u32 (n : Int) 1 = ((n % 2 : Nat) : Int) := by
  unfold andI
  have e : (BitVec.ofInt 32 (n : Int) &&& BitVec.ofInt 32 1).toNat = n % 4294967296 % 2 := by
    rw [BitVec.toNat_and, BitVec.ofInt_natCast, BitVec.toNat_ofNat, show (BitVec.ofInt 32 1).toNat = 2 ^ 1 - 1 from rfl, Nat.and_two_pow_sub_one_eq_mod]
  show IntKind.wrap .u32 ((BitVec.ofInt 32 (n : Int) &&& BitVec.ofInt 32 1).toNat : Int) = _
  rw [e, wrapU32]
  omega
theorem shr1 (k : IntKind) (hk : 1 ≤ k.bits) (n : Nat) : shrI k (n : Int) 1 = ((n / 2 : Nat) : Int) := by
  unfold shrI
  rw [show min (Int.toNat 1) k.bits = 1 from Nat.min_eq_left hk, show (2 : Int) ^ 1 = 2 from rfl, show ((n / 2 : Nat) : Int) = (n : Int) / 2 from by omega, Int.fdiv_eq_ediv_of_nonneg _ (by omega)]
theorem crcStep_eq {n : Nat} (h : n < 4294967296) : crcStep (n : Int) = (stepN n : Int) := by
  have hm : andI .u32 2197175160 (subI .u32 0 (andI .u32 (n : Int) 1)) = ((if n % 2 = 1 then 2197175160 else 0 : Nat) : Int) := by
    rw [and_u32 n h]
    rcases Nat.mod_two_eq_zero_or_one n with h2 | h2
    · rw [h2]; decide +kernel
    · rw [h2]; decide +kernel
  unfold crcStep stepN
  rw [hm, shr1 _ (by decide)]
  exact xor32 (by omega) (by split <;> omega)
def stepR (n b : Nat) : Nat := if n % 2 ≠ b % 2 then (n / 2) ^^^ 2197175160 else n / 2
theorem stepR_lt {n b : Nat} (h : n < 4294967296) : stepR n b < 4294967296 := by
  unfold stepR
  split
  · exact Nat.xor_lt_two_pow (n := 32) (by omega) (by omega)
  · omega
theorem step_both (n b : Nat) : stepN (n ^^^ b) = stepR n b ^^^ (b / 2) := by
  unfold stepN stepR
  have h1 : (n ^^^ b) / 2 = (n / 2) ^^^ (b / 2) := Nat.xor_div_two
  have h2 : (n ^^^ b) % 2 = 1 ↔ n % 2 ≠ b % 2 := by
    rw [Nat.xor_mod_two_eq_one]
    omega
  rw [h1]
  by_cases h : n % 2 ≠ b % 2
  · rw [if_pos (h2.2 h), if_pos h, Nat.xor_assoc, Nat.xor_assoc, Nat.xor_comm (b / 2)]
  · rw [if_neg (fun e => h (h2.1 e)), if_neg h, Nat.xor_zero]
def stepsR : Nat → Nat → Nat → Nat
  | 0, n, _ => n
  | k + 1, n, b => stepsR k (stepR n b) (b / 2)
theorem stepsR_lt : ∀ (k : Nat) {n b : Nat}, n < 4294967296 → stepsR k n b < 4294967296
  | 0, _, _, h => h
  | k + 1, _, _, h => stepsR_lt k (stepR_lt h)
theorem crcN_both : ∀ (k n b : Nat), n < 4294967296 → b < 2 ^ k → k ≤ 8 → crcN k ((n ^^^ b : Nat) : Int) = (stepsR k n b : Int)
  | 0, n, b, _, hb, _ => by
    have : b = 0 := by simpa using hb
    subst this
    rw [Nat.xor_zero]; rfl
  | k + 1, n, b, hn, hb, hk => by
    have hb8 : b < 2 ^ 8 := Nat.lt_of_lt_of_le hb (Nat.pow_le_pow_right (by omega) hk)
    show crcN k (crcStep _) = (stepsR k (stepR n b) (b / 2) : Int)
    rw [crcStep_eq (Nat.xor_lt_two_pow (n := 32) hn (by omega)), step_both]
    exact crcN_both k _ _ (stepR_lt hn) (by rw [Nat.pow_succ] at hb; omega) (by omega)
theorem more3_inner {o0 : ByteArray → Int → Int → Option Int} {s : ByteArray} {i : Nat} (hi : i < s.size) (hil : i < 100000000000) {b : Nat} (hb : byteAt s (i : Int) = (b : Int)) (hb8 : b < 256) : ∀ (d k m : Nat) (n : Nat), k + d = 8 → d < m → n < 4294967296 →
    ref03_More.l1 o0 m s (n : Int) (i : Int) (k : Int) = o0 s (stepsR d n (b / 2 ^ k) : Int) ((i : Int) + 1)
  | 0, k, m, n, h, hm, _ => by
    obtain ⟨m, rfl⟩ : ∃ j, m = j + 1 := ⟨m - 1, by omega⟩
    show ref03_More.S1 _ _ _ _ _ _ = _
    unfold ref03_More.S1
    rw [lt_f (by omega), cond_false, add_of (by omega)]
    rfl
  | d + 1, k, m, n, h, hm, hn => by
    obtain ⟨m, rfl⟩ : ∃ j, m = j + 1 := ⟨m - 1, by omega⟩
    show ref03_More.S1 o0 (ref03_More.l1 o0 m) _ _ _ _ = _
    unfold ref03_More.S1
    have hsh : shrI .i64 (b : Int) (k : Int) = ((b / 2 ^ k : Nat) : Int) := by
      rw [shrI_nat _ _ (by omega), Int.natCast_ediv, Int.natCast_pow]; rfl
    have ih := more3_inner (o0 := o0) hi hil hb hb8 d (k + 1) m (stepR n (b / 2 ^ k)) (by omega) (by omega) (stepR_lt hn)
    rw [show b / 2 ^ (k + 1) = b / 2 ^ k / 2 by rw [Nat.pow_succ, Nat.div_div_eq_div_mul]] at ih
    rw [lt_t (by omega), cond_true, lenS_d, inB_of (by omega), cond_true, le_t (by omega), cond_true, hb, wrap_of (by omega), hsh, and1, and1, add_of (by omega), shr1 _ (by decide)]
    show _ = o0 s (stepsR d (stepR n (b / 2 ^ k)) (b / 2 ^ k / 2) : Int) ((i : Int) + 1)
    by_cases hne : n % 2 ≠ b / 2 ^ k % 2
    · rw [ne_t (by omega), cond_true, show (2197175160 : Int) = ((2197175160 : Nat) : Int) from rfl, xor64 (by omega) (by omega)]
      unfold stepR at ih ⊢
      rw [if_pos hne] at ih ⊢
      exact ih
    · rw [ne_f (by omega), cond_false]
      unfold stepR at ih ⊢
      rw [if_neg hne] at ih ⊢
      exact ih
theorem byte_both (n b : Nat) (hn : n < 4294967296) (hb : b < 256) : crcByte (n : Int) (b : Int) = (stepsR 8 n b : Int) := by
  unfold crcByte
  rw [wrapU32, show (b : Int) % 4294967296 = (b : Int) by omega, xor32 hn (by omega)]
  exact crcN_both 8 n b hn hb (by omega)
theorem byte_fin3 (s : ByteArray) (i : Int) : ∃ c : Fin 256, byteAt s i = (c.val : Int) :=
  ⟨⟨(s.data.toList.getD i.toNat 0).toNat, UInt8.toNat_lt _⟩, rfl⟩
theorem drop_byte3 {s : ByteArray} {i : Nat} (h : i < s.size) : (toBytes s).drop i = byteAt s (i : Int) :: (toBytes s).drop (i + 1) := by
  have hb := byteAt_get s i h
  have hl : i < (toBytes s).length := by rw [toBytes_len]; exact h
  rw [List.drop_eq_getElem_cons hl]
  rw [List.getElem?_eq_getElem hl] at hb
  injection hb with hb
  rw [hb]
theorem more3_outer (s : ByteArray) (hs : s.size < 10000000000) : ∀ (d i m : Nat) (n : Nat), d = s.size - i → i ≤ s.size → 20 < m → n < 4294967296 →
    ∃ r : Nat, r < 4294967296 ∧ ((toBytes s).drop i).foldl crcByte (n : Int) = (r : Int) ∧ ref03_More.l0 (m + d) s (n : Int) (i : Int) = some (xorI .i64 (r : Int) 4294967295) := by
  intro d
  induction d with
  | zero =>
    intro i m n hd hi hm hn
    have : i = s.size := by omega
    subst this
    obtain ⟨m, rfl⟩ : ∃ j, m = j + 1 := ⟨m - 1, by omega⟩
    refine ⟨n, hn, by rw [List.drop_eq_nil_of_le (by rw [toBytes_len]; exact Nat.le_refl _)]; rfl, ?_⟩
    show ref03_More.S0 _ _ _ _ = _
    unfold ref03_More.S0
    rw [lenS_d, lt_f (by omega), cond_false]
  | succ d ih =>
    intro i m n hd hi hm hn
    have hlt : i < s.size := by omega
    obtain ⟨c, hc⟩ := byte_fin3 s (i : Int)
    have hin := more3_inner (o0 := ref03_More.l0 (m + d)) hlt (by omega) (b := c.val) hc c.isLt 8 0 (m + d) n rfl (by omega) hn
    obtain ⟨r, h1, h2, h3⟩ := ih (i + 1) m (stepsR 8 n c.val) (by omega) (by omega) hm (stepsR_lt 8 hn)
    refine ⟨r, h1, ?_, ?_⟩
    · rw [drop_byte3 hlt, List.foldl_cons, hc, byte_both n c.val hn c.isLt]
      exact h2
    · show ref03_More.S0 (ref03_More.l1 (ref03_More.l0 (m + d)) (m + d)) _ _ _ = _
      unfold ref03_More.S0
      rw [Nat.pow_zero, Nat.div_one] at hin
      rw [lenS_d, lt_t (by omega), cond_true, show (0 : Int) = ((0 : Nat) : Int) from rfl, hin]
      exact h3
theorem ref03_Sum_eq (s : ByteArray) (hs : s.size < 10000000000) : ref03_Sum s = some (crcOf 0 (toBytes s)) ∧ 0 ≤ crcOf 0 (toBytes s) ∧ crcOf 0 (toBytes s) < 4294967296 := by
  obtain ⟨r, h1, h2, h3⟩ := more3_outer s hs s.size 0 (fu - s.size) 4294967295 (by omega) (by omega) (by unfold fu; omega) (by omega)
  rw [show fu - s.size + s.size = fu by unfold fu; omega] at h3
  rw [List.drop_zero] at h2
  have hx := Nat.xor_lt_two_pow (n := 32) h1 (show 4294967295 < 2 ^ 32 by omega)
  have hc : crcOf 0 (toBytes s) = ((r ^^^ 4294967295 : Nat) : Int) := by
    unfold crcOf
    rw [show xorI .u32 4294967295 (IntKind.wrap .u32 0) = ((4294967295 : Nat) : Int) by decide +kernel, h2, show (4294967295 : Int) = ((4294967295 : Nat) : Int) from rfl, xor32 (by omega) h1, Nat.xor_comm]
    exact wrap_of (by omega)
  refine ⟨?_, by rw [hc]; omega, by rw [hc]; omega⟩
  unfold ref03_Sum
  have hm : ref03_More 0 s = some (xorI .i64 (r : Int) 4294967295) := by
    show ref03_More.S (ref03_More.l0 fu) 0 s = _
    unfold ref03_More.S
    rw [show xorI .i64 (andI .i64 0 4294967295) 4294967295 = ((4294967295 : Nat) : Int) by decide +kernel]
    exact h3
  rw [hm, show (4294967295 : Int) = ((4294967295 : Nat) : Int) from rfl, xor64 h1 (by omega), hc]
  rfl
theorem ref03_Seal_eq (s : ByteArray) (hs : s.size < 10000000000) : ref03_Seal s = some (ofBytes (sealB (toBytes s))) := by
  obtain ⟨h1, h2, h3⟩ := ref03_Sum_eq s hs
  unfold ref03_Seal
  rw [h1, Option.bind_some]
  have hb : ∀ k : Nat, k ≤ 32 → IntKind.wrap .u8 (andI .i64 (shrI .i64 (crcOf 0 (toBytes s)) (k : Int)) 255) = IntKind.wrap .u8 (shrI .u32 (IntKind.wrap .u32 (crcOf 0 (toBytes s))) (k : Int)) := fun k hk => by
    have e2 : shrI .u32 (crcOf 0 (toBytes s)) (k : Int) = crcOf 0 (toBytes s) / 2 ^ k := by
      unfold shrI
      rw [show min (Int.toNat (k : Int)) IntKind.u32.bits = k from Nat.min_eq_left hk, Int.fdiv_eq_ediv_of_nonneg _ (Int.le_of_lt (pow2_pos k))]
    rw [wrapU32, Int.emod_eq_of_lt h2 h3, shrI_nat _ _ (by omega), and255, e2, wrapU8, wrapU8]
    omega
  have h0 := hb 0 (by omega)
  rw [show shrI .i64 (crcOf 0 (toBytes s)) ((0 : Nat) : Int) = crcOf 0 (toBytes s) by rw [shrI_nat _ _ (by omega), Int.pow_zero, Int.ediv_one]] at h0
  have h8 := hb 8 (by omega)
  have h16 := hb 16 (by omega)
  have h24 := hb 24 (by omega)
  simp only [show ((8 : Nat) : Int) = 8 from rfl, show ((16 : Nat) : Int) = 16 from rfl, show ((24 : Nat) : Int) = 24 from rfl, show ((0 : Nat) : Int) = 0 from rfl] at h0 h8 h16 h24
  rw [h0, h8, h16, h24]
  show (bif roomS s (ofBytes (sumB (toBytes s))) then some (addS s (ofBytes (sumB (toBytes s)))) else none) = _
  have r1 : roomS s (ofBytes (sumB (toBytes s))) = true := decide_eq_true (by rw [ofBytes_size]; show s.size + 4 ≤ _; omega)
  rw [r1, cond_true]
  congr 1
  conv => lhs; rw [← ofBytes_toBytes s, addS_of]
  rw [ofBytes_toBytes]
  rfl
theorem put11_loop (p : List Int) (hp : p.length ≤ 65536) (d : List Int) (hd : d.length ≤ 65536) (h64 : ∀ x ∈ d, in64 x) (a : List Int) (ha : a.length ≤ 10) : ∀ (g i n : Nat), g = d.length - i → i ≤ d.length → g < n →
    ref11_PutInts.l0 (ref11_PutInts.t1 fu) n d p (ofBytes (a ++ intsB (d.take i))) (i : Int) = some (ofBytes (a ++ (intsB d ++ packB p (widN p))), 0) := by
  intro g
  induction g with
  | zero =>
    intro i n hg hi hn
    have : i = d.length := by omega
    subst this
    obtain ⟨n, rfl⟩ : ∃ k, n = k + 1 := ⟨n - 1, by omega⟩
    show ref11_PutInts.S0 ref11_PutInts.S1 _ _ _ _ _ = _
    unfold ref11_PutInts.S0
    rw [lenL_d, lt_f (by omega), cond_false, List.take_length]
    unfold ref11_PutInts.S1
    have k1 := intsB_len d
    obtain ⟨_, w2, _⟩ := widN_eq p hp
    have hb : p.length * widN p ≤ 65536 * 64 := Nat.mul_le_mul hp w2
    have hpl := packB_len p (widN p)
    have r1 : roomS (ofBytes (a ++ intsB d)) (ofBytes (packB p (widN p))) = true := decide_eq_true (by rw [ofBytes_size, ofBytes_size, List.length_append]; omega)
    rw [ref11_packed_eq p hp, Option.bind_some, r1, cond_true, addS_of, List.append_assoc]
  | succ g ih =>
    intro i n hg hi hn
    obtain ⟨n, rfl⟩ : ∃ k, n = k + 1 := ⟨n - 1, by omega⟩
    have hlt : i < d.length := by omega
    have k1 := intsB_len (d.take i)
    rw [List.length_take] at k1
    have k2 := vB_len d[i]
    have r1 : roomS (ofBytes (a ++ intsB (d.take i))) (ofBytes (vB d[i])) = true := decide_eq_true (by rw [ofBytes_size, ofBytes_size, List.length_append]; omega)
    have hih := ih (i + 1) n (by omega) (by omega) (by omega)
    rw [take_one hlt, intsB_snoc, ← List.append_assoc] at hih
    show ref11_PutInts.S0 _ (ref11_PutInts.l0 (ref11_PutInts.t1 fu) n) _ _ _ _ = _
    unfold ref11_PutInts.S0
    rw [lenL_d, lt_t (by omega), cond_true, inB_of (by omega), cond_true, nth_get hlt, ref02_Put_eq (h64 _ (List.getElem_mem hlt)), Option.bind_some, vbytes_vB, r1, cond_true, addS_of, add_of (by omega)]
    exact hih
theorem ref11_PutInts_eq (l : List Int) (hl : l.length ≤ 65536) (h64 : ∀ x ∈ l, in64 x) : ref11_PutInts l = some (ofBytes (dictB l (widN (placesI l))), 0) := by
  show ref11_PutInts.S (ref11_PutInts.l0 (ref11_PutInts.t1 fu) fu) l = _
  unfold ref11_PutInts.S dictB
  rw [lenL_d, lt_f (by omega), cond_false]
  by_cases h0 : l.length = 0
  · rw [eq_t (by omega), cond_true, if_pos h0]
    rfl
  · have hdl := dictI_len l
    have hpl := placesI_len l
    rw [eq_f (by omega), cond_false, if_neg h0, ref11_Ints_eq l hl, plcI, Option.bind_some]
    dsimp only
    rw [lenL_d, ref02_Put_eq (by unfold in64; omega), Option.bind_some, vbytes_vB]
    have := put11_loop (placesI l) (by omega) (dictI l) (by omega) (fun x hx => h64 x (((dictI_spec l).2 x).1 hx)) (vB ((dictI l).length : Int)) (vB_len _).2 (dictI l).length 0 fu (by omega) (by omega) (by unfold fu; omega)
    rw [List.take_zero, show intsB [] = [] from rfl, List.append_nil] at this
    exact this
theorem ref11_PutTexts_eq (l : List ByteArray) (hl : l.length ≤ 65536) (hsh : Short l) : ref11_PutTexts l = some (ofBytes (dictTB l (widN (placesT l))), 0) := by
  unfold ref11_PutTexts dictTB
  rw [lenL_d, lt_f (by omega), cond_false]
  by_cases h0 : l.length = 0
  · rw [eq_t (by omega), cond_true, if_pos h0]
    rfl
  · have hdl := dictT_len l
    have hpl : (placesT l).length = l.length := plc_len _ _
    obtain ⟨_, w2, _⟩ := widN_eq (placesT l) (by omega)
    have hb : (placesT l).length * widN (placesT l) ≤ 65536 * 64 := Nat.mul_le_mul (by omega) w2
    have hpb := packB_len (placesT l) (widN (placesT l))
    have k1 := vB_len ((dictT l).length : Int)
    have k2 := textsB_len _ hsh.dict
    rw [eq_f (by omega), cond_false, if_neg h0, ref11_Texts_eq l hl, Option.bind_some]
    dsimp only
    rw [ref07_PutTexts_eq _ (by omega) hsh.dict, Option.bind_some]
    dsimp only
    have r1 : roomS (ofBytes (vB ((dictT l).length : Int))) (ofBytes (textsB (dictT l))) = true := decide_eq_true (by rw [ofBytes_size, ofBytes_size]; omega)
    have r2 : roomS (ofBytes (vB ((dictT l).length : Int) ++ textsB (dictT l))) (ofBytes (packB (placesT l) (widN (placesT l)))) = true := decide_eq_true (by rw [ofBytes_size, ofBytes_size, List.length_append]; omega)
    rw [ne_f rfl, cond_false, lenL_d, ref02_Put_eq (by unfold in64; omega), Option.bind_some, vbytes_vB, r1, cond_true, ref11_packed_eq (placesT l) (by omega), Option.bind_some, addS_of, r2, cond_true, addS_of, List.append_assoc]
theorem ref13_numbers_eq (l : List Int) (hl : l.length ≤ 65536) (h64 : ∀ x ∈ l, in64 x) (code : Int) : ref13_numbers l code = some (match numB l code with | some b => (ofBytes b, true) | none => (eB, false)) := by
  unfold ref13_numbers numB
  by_cases h1 : code = 1
  · rw [eq_t h1, cond_true, if_pos h1, ref07_PutInts_eq l hl]
    rfl
  · rw [eq_f h1, cond_false, if_neg h1]
    by_cases h2 : code = 2
    · obtain ⟨_, k2, k3⟩ := runO_eq l hl
      rw [eq_t h2, cond_true, if_pos h2, ref10_Of_eq l hl, Option.bind_some, ref10_Put_eq _ k3 (by rw [k2]; exact hl) (fun r hr => h64 _ (by rw [← k2]; exact mem_flat k3 r hr))]
      rfl
    · rw [eq_f h2, cond_false, if_neg h2]
      by_cases h3 : code = 3
      · rw [eq_t h3, cond_true, if_pos h3, ref09_Put_eq l hl h64]
        rfl
      · rw [eq_f h3, cond_false, if_neg h3]
        by_cases h4 : code = 4
        · rw [eq_t h4, cond_true, if_pos h4, ref11_PutInts_eq l hl h64]
          rfl
        · rw [eq_f h4, cond_false, if_neg h4]
          by_cases h5 : code = 5
          · obtain ⟨_, k2, _⟩ := widN_eq l hl
            have hb : l.length * widN l ≤ 65536 * 64 := Nat.mul_le_mul hl k2
            have hpl := packB_len l (widN l)
            have r1 : roomS (ofBytes [(widN l : Int)]) (ofBytes (packB l (widN l))) = true := decide_eq_true (by rw [ofBytes_size, ofBytes_size]; simp; omega)
            rw [eq_t h5, cond_true, if_pos h5, ref08_Width_eq l hl, Option.bind_some, ref08_Put_eq l k2 hl (Nat.le_refl _), Option.bind_some, ofB_one k2]
            dsimp only
            rw [r1, cond_true, addS_of]
            rfl
          · rw [eq_f h5, cond_false, if_neg h5]
theorem ref13_words_eq (l : List ByteArray) (hl : l.length ≤ 65536) (hsh : Short l) (code : Int) : ref13_words l code = some (match wordB l code with | some b => (ofBytes b, true) | none => (eB, false)) := by
  have hpl : (placesT l).length = l.length := plc_len _ _
  unfold ref13_words wordB
  by_cases h1 : code = 1
  · rw [eq_t h1, cond_true, if_pos h1, ref07_PutTexts_eq l hl hsh]
    rfl
  · rw [eq_f h1, cond_false, if_neg h1]
    by_cases h2 : code = 2
    · rw [eq_t h2, cond_true, if_neg (show ¬ code = 4 by omega), if_pos h2, lenL_d]
      unfold runTB
      by_cases h0 : l.length = 0
      · rw [lt_f (by omega), cond_false, if_pos h0]
        rfl
      · obtain ⟨r1, r2, r3⟩ := runO_eq (placesT l) (by omega)
        have hdl := dictT_len l
        have hsp := dictT_spec l
        have k1 := vB_len ((dictT l).length : Int)
        have k2 := textsB_len _ hsh.dict
        have k3 := runB_len (runO (placesT l))
        have k4 := okR_len _ _ _ r3
        rw [r2] at k4
        have hrp := ref10_Put_eq (runO (placesT l)) r3 (by rw [r2]; omega) (fun r hr => by
          have hm : r.1 ∈ placesT l := r2 ▸ mem_flat r3 r hr
          have := plc_mem hsp r.1 hm
          unfold in64; omega)
        have q1 : roomS (ofBytes (vB ((dictT l).length : Int))) (ofBytes (textsB (dictT l))) = true := decide_eq_true (by rw [ofBytes_size, ofBytes_size]; omega)
        have q2 : roomS (ofBytes (vB ((dictT l).length : Int) ++ textsB (dictT l))) (ofBytes (runB (runO (placesT l)))) = true := decide_eq_true (by rw [ofBytes_size, ofBytes_size, List.length_append]; omega)
        rw [lt_t (by omega), cond_true, if_neg h0, ref11_Texts_eq l hl, Option.bind_some]
        dsimp only
        rw [ref07_PutTexts_eq _ (by omega) hsh.dict, Option.bind_some, ref10_Of_eq (placesT l) (by omega), Option.bind_some, hrp, Option.bind_some, lenL_d, ref02_Put_eq (by unfold in64; omega), Option.bind_some, vbytes_vB]
        dsimp only
        rw [q1, cond_true, addS_of, q2, cond_true, addS_of, List.append_assoc]
    · rw [eq_f h2, cond_false]
      by_cases h4 : code = 4
      · rw [eq_t h4, cond_true, if_pos h4, ref11_PutTexts_eq l hl hsh]
        rfl
      · rw [eq_f h4, cond_false, if_neg h4, if_neg h2]
theorem ref13_Values_eq {l : List Cell} {kind : Int} (h : MayB l kind) (h64 : ∀ c ∈ l, in64 c.2.1) (code : Int) : ref13_Values (restC l) kind code = some (match valB (restC l) kind code with | some b => (ofBytes b, true) | none => (eB, false)) := by
  have hle := restC_le l
  have h2 := h.2.1
  unfold ref13_Values valB
  by_cases hk : kind = 1
  · rw [eq_t hk, cond_true, if_pos hk, ref13_ints_eq _ (by omega), Option.bind_some, ref13_numbers_eq _ (by rw [List.length_map]; omega) (fun x hx => by
      obtain ⟨c, hc, rfl⟩ := List.mem_map.1 hx
      unfold restC at hc
      exact h64 c (List.mem_filter.1 hc).1)]
    rfl
  · rw [eq_f hk, cond_false, if_neg hk, ref13_texts_eq _ (by omega), Option.bind_some, ref13_words_eq _ (by rw [List.length_map]; omega) (may_short h)]
    rfl
theorem may13_loop (l : List Cell) (hl : l.length ≤ 64) (kind : Int) : ∀ (d i n : Nat), d = l.length - i → i ≤ l.length → d < n →
    ∃ b, ref13_May.l1 n l kind (i : Int) = some b ∧ (b = true ↔ ∀ j (h : j < l.length), i ≤ j → ref06_May l[j] = true ∧ (l[j].1 = 0 ∨ l[j].1 = kind)) := by
  intro d
  induction d with
  | zero =>
    intro i n hd hi hn
    obtain ⟨n, rfl⟩ : ∃ k, n = k + 1 := ⟨n - 1, by omega⟩
    refine ⟨true, ?_, ⟨fun _ j h hj => absurd h (by omega), fun _ => rfl⟩⟩
    show ref13_May.S1 _ _ _ _ = _
    unfold ref13_May.S1
    rw [lenL_d, lt_f (by omega), cond_false]
  | succ d ih =>
    intro i n hd hi hn
    obtain ⟨n, rfl⟩ : ∃ k, n = k + 1 := ⟨n - 1, by omega⟩
    have hlt : i < l.length := by omega
    obtain ⟨b, h1, h2⟩ := ih (i + 1) n (by omega) (by omega) (by omega)
    show ∃ b, ref13_May.S1 (ref13_May.l1 n) _ _ _ = _ ∧ _
    unfold ref13_May.S1
    rw [lenL_d, lt_t (by omega), cond_true, inB_of (by omega), cond_true, nth_get hlt, cond_true, cond_true, add_of (by omega)]
    have hstep : (ref06_May l[i] = true ∧ (l[i].1 = 0 ∨ l[i].1 = kind)) → ∃ b, ref13_May.l1 n l kind ((i : Int) + 1) = some b ∧ (b = true ↔ ∀ j (h : j < l.length), i ≤ j → ref06_May l[j] = true ∧ (l[j].1 = 0 ∨ l[j].1 = kind)) := fun hg =>
      ⟨b, h1, h2.trans ⟨fun h j hj hij => by
        by_cases e : i = j
        · subst e; exact hg
        · exact h j hj (by omega), fun h j hj hij => h j hj (by omega)⟩⟩
    have hbad : ¬ (ref06_May l[i] = true ∧ (l[i].1 = 0 ∨ l[i].1 = kind)) → ∃ b, some false = some b ∧ (b = true ↔ ∀ j (h : j < l.length), i ≤ j → ref06_May l[j] = true ∧ (l[j].1 = 0 ∨ l[j].1 = kind)) := fun hg =>
      ⟨false, rfl, ⟨fun h => (by cases h), fun h => absurd (h i hlt (Nat.le_refl _)) hg⟩⟩
    by_cases hm : ref06_May l[i] = true
    · rw [hm, Bool.not_true, cond_false]
      by_cases h0 : l[i].1 = 0
      · rw [ne_f h0, cond_false]
        exact hstep ⟨hm, .inl h0⟩
      · rw [ne_t h0, cond_true]
        by_cases hk : l[i].1 = kind
        · rw [ne_f hk, cond_false]
          exact hstep ⟨hm, .inr hk⟩
        · rw [ne_t hk, cond_true]
          exact hbad fun h => h.2.elim h0 hk
    · rw [Bool.not_eq_true] at hm
      rw [hm, Bool.not_false, cond_true]
      exact hbad fun h => by rw [hm] at h; exact absurd h.1 (by decide)
theorem ref13_May_eq (l : List Cell) (kind : Int) : ∃ b, ref13_May l kind = some b ∧ (b = true ↔ MayB l kind) := by
  show ∃ b, ref13_May.S (ref13_May.t0 fu) l kind = some b ∧ _
  unfold ref13_May.S
  rw [lenL_d]
  by_cases h1 : 1 ≤ l.length
  · by_cases h2 : l.length ≤ 64
    · rw [lt_f (by omega), cond_false, lt_f (by omega), cond_false]
      obtain ⟨b, k1, k2⟩ := may13_loop l h2 kind l.length 0 18446744073709551615 (by omega) (by omega) (by omega)
      have ht : ref13_May.t0 fu l kind = some b := k1
      have hb : (kind = 1 ∨ kind = 2) → (b = true ↔ MayB l kind) := fun hk => k2.trans
        ⟨fun h => ⟨h1, h2, hk, fun c hc => by
          obtain ⟨j, hj, rfl⟩ := List.mem_iff_getElem.1 hc
          exact h j hj (Nat.zero_le _)⟩, fun h j hj _ => h.2.2.2 _ (List.getElem_mem hj)⟩
      by_cases k1 : kind = 1
      · rw [ne_f k1, cond_false]
        exact ⟨b, ht, hb (.inl k1)⟩
      · rw [ne_t k1, cond_true]
        by_cases k2 : kind = 2
        · rw [ne_f k2, cond_false]
          exact ⟨b, ht, hb (.inr k2)⟩
        · rw [ne_t k2, cond_true]
          exact ⟨false, rfl, ⟨fun h => (by cases h), fun h => absurd h.2.2.1 (by omega)⟩⟩
    · rw [lt_f (by omega), cond_false, lt_t (by omega), cond_true]
      exact ⟨false, rfl, ⟨fun h => (by cases h), fun h => absurd h.2.1 h2⟩⟩
  · rw [lt_t (by omega), cond_true]
    exact ⟨false, rfl, ⟨fun h => (by cases h), fun h => absurd h.1 h1⟩⟩
theorem rput_yes {l : List Cell} {kind code : Int} (h : MayB l kind) (h64 : ∀ c ∈ l, in64 c.2.1) {b : List Int} (hb : valB (restC l) kind code = some b) : ref13_Put l kind code = some (ofBytes (sealB (blkT l kind code b)), 0) := by
  obtain ⟨v1, v2⟩ := valB_rng h hb
  have hc := valB_code hb
  obtain ⟨m, m1, m2⟩ := ref13_May_eq l kind
  rw [m2.2 h] at m1
  obtain ⟨h1, h2, h3, _⟩ := id h
  have hkr : 0 ≤ kind ∧ kind < 256 := by rcases h3 with rfl | rfl <;> omega
  have hml := maskL_len l
  unfold ref13_Put
  rw [m1, Option.bind_some, Bool.not_true, cond_false, ref12_Split_eq l (by omega), Option.bind_some]
  dsimp only
  rw [ref13_Values_eq h h64, hb, Option.bind_some]
  dsimp only
  have w8 : ∀ x : Int, 0 ≤ x ∧ x < 256 → IntKind.wrap .u8 x = x := fun x hx => by rw [wrapU8]; omega
  rw [Bool.not_true, cond_false, lenL_d, lenS_d, ofBytes_size, w8 kind hkr, w8 code (by omega), w8 _ (by omega), w8 _ (by omega)]
  have r1 : roomS (ofBytes [kind, code, (l.length : Int), ((maskL l).length : Int)]) (ofBytes (maskL l)) = true := decide_eq_true (by rw [ofBytes_size, ofBytes_size]; simp; omega)
  rw [r1, cond_true, addS_of]
  have r2 : roomS (ofBytes ([kind, code, (l.length : Int), ((maskL l).length : Int)] ++ maskL l)) (ofBytes b) = true := decide_eq_true (by rw [ofBytes_size, ofBytes_size]; simp; omega)
  rw [r2, cond_true, addS_of, List.append_assoc]
  show (ref03_Seal (ofBytes (blkT l kind code b))).bind _ = _
  rw [ref03_Seal_eq _ (by rw [ofBytes_size]; unfold blkT; simp; omega), Option.bind_some, toBytes_ofBytes (blkT_rng h2 hkr (by omega) v1)]
theorem rput_none {l : List Cell} {kind code : Int} (h : MayB l kind) (h64 : ∀ c ∈ l, in64 c.2.1) (hb : valB (restC l) kind code = none) : ref13_Put l kind code = some (eB, 1) := by
  obtain ⟨m, m1, m2⟩ := ref13_May_eq l kind
  rw [m2.2 h] at m1
  have h2 := h.2.1
  unfold ref13_Put
  rw [m1, Option.bind_some, Bool.not_true, cond_false, ref12_Split_eq l (by omega), Option.bind_some]
  dsimp only
  rw [ref13_Values_eq h h64, hb, Option.bind_some]
  rfl
theorem rput_no {l : List Cell} {kind code : Int} (h : ¬ MayB l kind) : ref13_Put l kind code = some (eB, 1) := by
  obtain ⟨m, m1, m2⟩ := ref13_May_eq l kind
  have : m = false := by
    cases m with
    | false => rfl
    | true => exact absurd (m2.1 rfl) h
  unfold ref13_Put
  rw [m1, this]
  rfl
end Go.AM.Pure
end

section
/- BlockPuts and BlockBest. -/
namespace Go.AM.Pure
open Go.AM
theorem light13_loop (l : List Cell) (most : Int) (h0 : 0 ≤ most) (hm : most < 1000000) : ∀ (d i n : Nat), d = most.toNat - i → (i : Int) ≤ most → d < n →
    ∃ b, ref12_Light.l0 n l most (i : Int) = some b ∧ (b = true → (l.length : Int) ≤ most) := by
  intro d
  induction d with
  | zero =>
    intro i n hd hi hn
    obtain ⟨m, rfl⟩ : ∃ m, n = m + 1 := ⟨n - 1, by omega⟩
    show ∃ b, ref12_Light.S0 (ref12_Light.l0 m) l most (i : Int) = some b ∧ _
    unfold ref12_Light.S0
    rw [lenL_d, lt_f (show most ≤ (i : Int) by omega), cond_false]
    refine ⟨decide ((l.length : Int) ≤ most), ?_, of_decide_eq_true⟩
    cases ltI (i : Int) (l.length : Int) <;> rfl
  | succ d ih =>
    intro i n hd hi hn
    obtain ⟨m, rfl⟩ : ∃ m, n = m + 1 := ⟨n - 1, by omega⟩
    show ∃ b, ref12_Light.S0 (ref12_Light.l0 m) l most (i : Int) = some b ∧ _
    unfold ref12_Light.S0
    rw [lenL_d, lt_t (show (i : Int) < most by omega), cond_true]
    by_cases h : (i : Int) < l.length
    · have h1 : i < l.length := by omega
      rw [lt_t h, cond_true, inB_of (by omega), cond_true, nth_get h1, add_of (by omega)]
      by_cases h3 : 100 < lenS l[i].2.2
      · exact ⟨false, by rw [lt_t h3, cond_true], by simp⟩
      · rw [lt_f (by omega), cond_false]
        exact ih (i + 1) m (by omega) (by omega) (by omega)
    · refine ⟨decide ((l.length : Int) ≤ most), ?_, of_decide_eq_true⟩
      rw [lt_f (by omega), cond_false]
      rfl
theorem light70 (l : List Cell) : ∃ b, ref12_Light l 70 = some b ∧ (b = true → l.length ≤ 70) := by
  obtain ⟨b, h1, h2⟩ := light13_loop l 70 (by omega) (by omega) 70 0 fu (by omega) (by omega) (by unfold fu; omega)
  exact ⟨b, h1, fun h => by have := h2 h; omega⟩
theorem take_empty : block_Take eB = some ([], 5) := by
  have : block_read eB = some (((0, 0, 0, 0), eB, eB, []), false) := by kernel_rfl
  unfold block_Take
  rw [this]
  rfl
theorem put_both {l : List Cell} (hl : l.length ≤ 70) (h64 : ∀ c ∈ l, in64 c.2.1) (kind code : Int) :
    (block_Put l kind code = some (eB, 1) ∧ ref13_Put l kind code = some (eB, 1)) ∨
    ∃ b, MayB l kind ∧ valB (restC l) kind code = some b ∧ block_Put l kind code = some (ofBytes (sealB (blkT l kind code b)), 0) ∧ ref13_Put l kind code = some (ofBytes (sealB (blkT l kind code b)), 0) := by
  by_cases hm : MayB l kind
  · cases hv : valB (restC l) kind code with
    | none => exact .inl ⟨put_none hm hv, rput_none hm h64 hv⟩
    | some b => exact .inr ⟨b, hm, rfl, put_yes hm hv, rput_yes hm h64 hv⟩
  · exact .inl ⟨block_Put_no (by omega) hm, rput_no hm⟩
theorem blockPuts_law (l : List Cell) (kind code : Int) (h64 : ∀ c ∈ l, in64 c.2.1) : law13_BlockPuts l kind code = some true := by
  obtain ⟨b, hb, hb2⟩ := light70 l
  unfold law13_BlockPuts
  rw [hb, awake13, Option.bind_some]
  cases b with
  | false => rfl
  | true =>
    have hl := hb2 rfl
    rw [Bool.not_true, cond_false]
    rcases put_both hl h64 kind code with ⟨h1, h2⟩ | ⟨vb, hm, hv, h1, h2⟩
    · rw [h1, h2, Option.bind_some, Option.bind_some]
      dsimp only
      rw [eqS_t rfl, take_empty]
      rfl
    · have ht := (take_of_read (read_yes hm h64 hv)).1
      rw [h1, h2, Option.bind_some, Option.bind_some]
      dsimp only
      rw [eqS_t rfl, ht, Option.bind_some, ref12_Same_refl l (by omega)]
      rfl
end Go.AM.Pure
end
