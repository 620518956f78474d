import Derived.Test.YtlamhllcnbcbbaaGreatAmP13n
section
/- The document's plain numbers and texts, runs and frames: the same bytes. -/
namespace Go.AM.Pure
open Go.AM
theorem Zcn1 (a : Int) : andI .i64 a 255 = a % 256 := by
  unfold andI
  have h : (BitVec.ofInt 64 a &&& BitVec.ofInt 64 255).toNat = (BitVec.ofInt 64 a).toNat % 2 ^ 8 := by
    rw [BitVec.toNat_and, show (BitVec.ofInt 64 255).toNat = 2 ^ 8 - 1 from rfl, Nat.and_two_pow_sub_one_eq_mod]
  show IntKind.wrap .i64 ((BitVec.ofInt 64 a &&& BitVec.ofInt 64 255).toNat : Int) = _
  have h2 := Zs5 a
  rw [h, Int.natCast_emod, h2, show ((2 ^ 8 : Nat) : Int) = 256 from rfl, Zud (by omega)]
  omega
theorem Zc1 (l : List Int) {o0 : List Int → List Int → Int → Option ByteArray} {i : Nat} (hi : i < l.length) (hil : i < 1000000) : ∀ (d k n : Nat) (b : List Int), k + d = 8 → d < n → b.length < 100000000000 →
    Zra.l1 o0 n l (b ++ chop k (wb l[i] 64)) (i : Int) (k : Int) = o0 l (b ++ chop 8 (wb l[i] 64)) ((i : Int) + 1)
  | 0, k, n, b, h, hn, hb => by
    obtain ⟨n, rfl⟩ : ∃ j, n = j + 1 := ⟨n - 1, by omega⟩
    have : k = 8 := by omega
    subst this
    show Zra.S1 _ _ _ _ _ _ = _
    unfold Zra.S1
    rw [lt_f (by omega), cond_false, Zv (a := (i : Int)) (by omega)]
  | d + 1, k, n, b, h, hn, hb => by
    obtain ⟨n, rfl⟩ : ∃ j, n = j + 1 := ⟨n - 1, by omega⟩
    show Zra.S1 o0 (Zra.l1 o0 n) _ _ _ _ = _
    unfold Zra.S1
    have hm : mulI .i64 8 (k : Int) = ((8 * k : Nat) : Int) := by rw [Zxj (by omega)]; omega
    have hbyte : IntKind.wrap .u8 (andI .i64 (shrI .i64 l[i] ((8 * k : Nat) : Int)) 255) = l[i] / 2 ^ (8 * k) % 256 := by
      rw [Zqi _ _ (by omega), Zcn1, Zvf]; omega
    rw [lt_t (by omega), cond_true, Zt (by rw [Zd]; omega), cond_true, hm, le_t (by omega), cond_true, Zea (by rw [List.length_append, Zlf]; omega), cond_true, Zba hi, hbyte, Zv (by omega), List.append_assoc, ← Znf1 l[i] k (by omega)]
    exact Zc1 l hi hil d (k + 1) n b (by omega) (by omega) hb
theorem Zdj1 (l : List Int) (hl : l.length ≤ 65536) : ∀ (d i m : Nat), d = l.length - i → i ≤ l.length → 20 < m →
    Zra.l0 (m + d) l (chop (8 * i) (strm (l.take i) 64)) (i : Int) = some (ofBytes (packB l 64)) := by
  intro d
  induction d with
  | zero =>
    intro i m hd hi hm
    have : i = l.length := by omega
    subst this
    obtain ⟨m, rfl⟩ : ∃ j, m = j + 1 := ⟨m - 1, by omega⟩
    show Zra.S0 _ _ _ _ = _
    unfold Zra.S0
    rw [Zd, lt_f (by omega), cond_false, List.take_length]
    unfold packB
    rw [show (l.length * 64 + 7) / 8 = 8 * l.length by omega]
  | succ d ih =>
    intro i m hd hi hm
    have hlt : i < l.length := by omega
    show Zra.S0 (Zra.l1 (Zra.l0 (m + d)) (m + d)) _ _ _ = _
    unfold Zra.S0
    rw [Zd, lt_t (by omega), cond_true]
    have h1 := Zc1 (o0 := Zra.l0 (m + d)) l hlt (by omega) 8 0 (m + d) (chop (8 * i) (strm (l.take i) 64)) rfl (by omega) (by rw [Zlf]; omega)
    rw [show chop 0 (wb l[i] 64) = [] from rfl, List.append_nil] at h1
    rw [show (0 : Int) = ((0 : Nat) : Int) from rfl, h1]
    have := ih (i + 1) m (by omega) (by omega) hm
    rw [take_one hlt, Zqp, show 8 * (i + 1) = 8 * i + 8 by omega, Zsk _ 8 _ _ (by rw [Zlg, List.length_take]; omega)] at this
    exact this
theorem Zb0 (l : List Int) (hl : l.length ≤ 65536) : Zra l = some (ofBytes (packB l 64)) := by
  have := Zdj1 l hl l.length 0 (fu - l.length) (by omega) (by omega) (by unfold fu; omega)
  rw [show fu - l.length + l.length = fu by unfold fu; omega] at this
  exact this
theorem Zej1 (o : List ByteArray) (hl : o.length ≤ 65536) (hs : Short o) : ∀ (d i n : Nat), d = o.length - i → i ≤ o.length → d < n →
    Zcc.l0 n o (Zia (o.take i)) (i : Int) = some (ofBytes (Zia o), 0) := by
  intro d
  induction d with
  | zero =>
    intro i n hd hi hn
    have : i = o.length := by omega
    subst this
    obtain ⟨n, rfl⟩ : ∃ k, n = k + 1 := ⟨n - 1, by omega⟩
    show Zcc.S0 _ _ _ _ = _
    unfold Zcc.S0
    rw [Zd, lt_f (by omega), cond_false, List.take_length]
  | succ d ih =>
    intro i n hd hi hn
    obtain ⟨n, rfl⟩ : ∃ k, n = k + 1 := ⟨n - 1, by omega⟩
    have hlt : i < o.length := by omega
    have h1 := Zwe (o.take i) (hs.take i)
    rw [List.length_take] at h1
    have h2 := hs o[i] (List.getElem_mem hlt)
    show Zcc.S0 (Zcc.l0 n) _ _ _ = _
    unfold Zcc.S0
    have := ih (i + 1) n (by omega) (by omega) (by omega)
    rw [take_one hlt, Zsm, show Zia (o.take i) ++ tB o[i] = Zia (o.take i) ++ [(o[i].size : Int)] ++ Zf o[i] by unfold tB; simp] at this
    rw [Zd, lt_t (by omega), cond_true, Zt (by omega), cond_true, Zba hlt, Zcb, lt_f (by omega), cond_false, cond_true, Zea (by omega), cond_true, cond_true, Zea (by rw [List.length_append, List.length_singleton]; omega), cond_true, Zv (by omega), Zvf, show (o[i].size : Int) % 256 = (o[i].size : Int) by omega]
    exact this
theorem Zlj (o : List ByteArray) (hl : o.length ≤ 65536) (hs : Short o) : Zcc o = some (ofBytes (Zia o), 0) :=
  Zej1 o hl hs o.length 0 fu (by omega) (by omega) (by unfold fu; omega)
theorem Zgf1 {x : Int} : ∀ (c d : Nat) (A B : List Int), List.replicate c x ++ A = List.replicate d x ++ B → A.head? ≠ some x → B.head? ≠ some x → c = d ∧ A = B
  | 0, 0, A, B, h, _, _ => ⟨rfl, h⟩
  | 0, d + 1, A, B, h, ha, _ => by
    exfalso; apply ha
    rw [show A = _ from h]; rfl
  | c + 1, 0, A, B, h, _, hb => by
    exfalso; apply hb
    rw [show B = _ from h.symm]; rfl
  | c + 1, d + 1, A, B, h, ha, hb => by
    rw [List.replicate_succ, List.replicate_succ, List.cons_append, List.cons_append] at h
    obtain ⟨h1, h2⟩ := Zgf1 c d A B (List.cons.inj h).2 ha hb
    exact ⟨by omega, h2⟩
theorem Zi5 {o : List Run} {n : Nat} {x : Int} (h : okR n (some x) o) : (flatR o).head? ≠ some x := by
  cases o with
  | nil => intro h; cases h
  | cons r o =>
    obtain ⟨_, h1, h2, _⟩ := h
    rw [Zag, show r.2.2.toNat = (r.2.2.toNat - 1) + 1 by omega, List.replicate_succ]
    intro h
    exact h2 (by simpa using h.symm)
theorem Zb8 : ∀ {o q : List Run} {n : Nat} {p : Option Int}, okR n p o → okR n p q → flatR o = flatR q → o = q
  | [], [], _, _, _, _, _ => rfl
  | [], r :: q, _, _, _, h, e => by
    have h1 := h.2.1
    rw [Zag, show r.2.2.toNat = (r.2.2.toNat - 1) + 1 by omega, List.replicate_succ] at e
    cases e
  | r :: q, [], _, _, h, _, e => by
    have h1 := h.2.1
    rw [Zag, show r.2.2.toNat = (r.2.2.toNat - 1) + 1 by omega, List.replicate_succ] at e
    cases e
  | (x, a, c) :: o, (y, b, d) :: q, n, p, h, k, e => by
    obtain ⟨h1, h2, _, h4⟩ := h
    obtain ⟨k1, k2, _, k4⟩ := k
    dsimp only at h1 h2 h4 k1 k2 k4
    rw [Zag, Zag] at e
    dsimp only at e
    have hxy : x = y := by
      rw [show c.toNat = (c.toNat - 1) + 1 by omega, show d.toNat = (d.toNat - 1) + 1 by omega, List.replicate_succ, List.replicate_succ] at e
      exact (List.cons.inj e).1
    subst hxy
    obtain ⟨e1, e2⟩ := Zgf1 _ _ _ _ e (Zi5 h4) (Zi5 k4)
    rw [e1] at h4
    rw [Zb8 h4 k4 e2, show c = d by omega, h1, k1]
theorem Zdn1 (l : List Int) (hl : l.length ≤ 65536) : ∀ (d i n : Nat) (out : List Run), d = l.length - i → i ≤ l.length → d < n → flatR out = l.take i → okR 0 none out → lastR none out = (l.take i).getLast? →
    ∃ o, Zfe.l0 n l (i : Int) out = some o ∧ flatR o = l ∧ okR 0 none o := by
  intro d
  induction d with
  | zero =>
    intro i n out hd hi hn h1 h2 _
    have : i = l.length := by omega
    subst this
    obtain ⟨n, rfl⟩ : ∃ k, n = k + 1 := ⟨n - 1, by omega⟩
    rw [List.take_length] at h1
    refine ⟨out, ?_, h1, h2⟩
    show Zfe.S0 _ _ _ _ = _
    unfold Zfe.S0
    rw [Zd, lt_f (by omega), cond_false]
  | succ d ih =>
    intro i n out hd hi hn h1 h2 h3
    obtain ⟨n, rfl⟩ : ∃ k, n = k + 1 := ⟨n - 1, by omega⟩
    have hlt : i < l.length := by omega
    have hfl : (flatR out).length = i := by rw [h1, List.length_take]; omega
    have hol := Zgf out 0 none h2
    have hsn : (l.take (i + 1)).getLast? = some l[i] := by rw [take_one hlt, List.getLast?_concat]
    have hnew : (lastR none out ≠ some l[i]) → ∃ o, Zfe.l0 n l ((i + 1 : Nat) : Int) (out ++ [(l[i], (i : Int), 1)]) = some o ∧ flatR o = l ∧ okR 0 none o := fun hne =>
      ih (i + 1) n _ (by omega) (by omega) (by omega) (by rw [Zuf, Zfg, h1, take_one hlt]; rfl)
        ((Zvk _ _ _ _).2 ⟨h2, by rw [hfl]; exact ⟨by show (i : Int) = _; omega, by show (1 : Int) ≤ 1; omega, hne, trivial⟩⟩) (by rw [Zug, hsn])
    show ∃ o, Zfe.S0 (Zfe.l0 n) _ _ _ = _ ∧ _
    unfold Zfe.S0
    rw [Zd, lt_t (by omega), cond_true, le_t (by omega), cond_true, Zt (i := (i : Int)) (by omega), cond_true, cond_true, Zba hlt, Zv (by omega), Zea (by omega), cond_true]
    by_cases hi0 : i = 0
    · subst hi0
      rw [lt_f (by omega), cond_false]
      exact hnew (by rw [h3, List.take_zero]; simp)
    · rw [lt_t (by omega), cond_true, Zdd (a := (i : Int)) (by omega), Zt (i := (i : Int) - 1) (by omega), cond_true]
      have hlt1 : i - 1 < l.length := by omega
      have hlast : (l.take i).getLast? = some l[i - 1] := by
        have : l.take i = l.take (i - 1) ++ [l[i - 1]] := by
          have := take_one hlt1
          rwa [show i - 1 + 1 = i by omega] at this
        rw [this, List.getLast?_concat]
      rw [hlast] at h3
      rw [show (i : Int) - 1 = ((i - 1 : Nat) : Int) by omega, Zba hlt1]
      by_cases hq : l[i] = l[i - 1]
      · rw [eq_t hq, cond_true]
        rcases List.eq_nil_or_concat out with h0 | ⟨o, r, h0⟩
        · subst h0; cases h3
        · rw [List.concat_eq_append] at h0
          subst h0
          rw [Zug] at h3
          have hr1 : r.1 = l[i - 1] := Option.some.inj h3
          have hob' : o.length < 1000000 := by rw [List.length_append] at hol; omega
          obtain ⟨k1, k2⟩ := (Zvk _ _ _ _).1 h2
          obtain ⟨k3, k4, k5, _⟩ := k2
          have hrl : r.2.2.toNat ≤ i := by
            rw [Zuf, Zfg, List.length_append, List.length_replicate] at hfl
            omega
          have hsub : subI .i64 (lenL (o ++ [r])) 1 = (o.length : Int) := by rw [Zd, List.length_append, List.length_singleton, Zdd (by omega)]; omega
          have hget : List.getD (o ++ [r]) o.length (0, 0, 0) = r := by rw [List.getD_eq_getElem?_getD, List.getElem?_append_right (Nat.le_refl _), Nat.sub_self]; rfl
          have hset : ∀ r', List.set (o ++ [r]) o.length r' = o ++ [r'] := fun r' => by rw [List.set_append_right _ _ (Nat.le_refl _), Nat.sub_self]; rfl
          rw [hsub, Zt (by rw [Zd, List.length_append, List.length_singleton]; omega), cond_true, cond_true, show Int.toNat (o.length : Int) = o.length from rfl, hget, hset, Zv (by omega)]
          refine ih (i + 1) n _ (by omega) (by omega) (by omega) ?_ ((Zvk _ _ _ _).2 ⟨k1, k3, by show 1 ≤ r.2.2 + 1; omega, k5, trivial⟩) (by rw [Zug, hsn, hq]; exact h3)
          rw [Zuf, Zfg] at h1
          rw [Zuf, Zfg, take_one hlt, ← h1, List.append_assoc]
          congr 1
          show List.replicate (r.2.2 + 1).toNat r.1 = _
          rw [show (r.2.2 + 1).toNat = r.2.2.toNat + 1 by omega, List.replicate_succ', hr1, hq]
      · rw [eq_f hq, cond_false]
        exact hnew (by rw [h3]; intro h; exact hq (Option.some.inj h).symm)
theorem Zaz (l : List Int) (hl : l.length ≤ 65536) : Zfe l = some (runO l) := by
  obtain ⟨o, h1, h2, h3⟩ := Zdn1 l hl l.length 0 fu [] (by omega) (by omega) (by unfold fu; omega) rfl trivial rfl
  obtain ⟨_, k2, k3⟩ := Zej l hl
  rw [Zb8 h3 k3 (by rw [h2, k2])] at h1
  exact h1
theorem Zfj1 (o : List Run) (ho : okR 0 none o) (hl : (flatR o).length ≤ 65536) : ∀ (d i n : Nat), d = o.length - i → i ≤ o.length → d < n →
    Zge.l0 n o ((flatR (o.take i)).length : Int) (i : Int) = some true := by
  have hol := Zgf o 0 none ho
  intro d
  induction d with
  | zero =>
    intro i n hd hi hn
    have : i = o.length := by omega
    subst this
    obtain ⟨n, rfl⟩ : ∃ k, n = k + 1 := ⟨n - 1, by omega⟩
    show Zge.S0 _ _ _ _ = _
    unfold Zge.S0
    rw [Zd, lt_f (by omega), cond_false]
  | succ d ih =>
    intro i n hd hi hn
    obtain ⟨n, rfl⟩ : ∃ k, n = k + 1 := ⟨n - 1, by omega⟩
    have hlt : i < o.length := by omega
    obtain ⟨k1, k2, k3, k4, k5⟩ := Ztu ho hlt
    show Zge.S0 (Zge.l0 n) _ _ _ = _
    unfold Zge.S0
    have hadd : addI .i64 ((flatR (o.take i)).length : Int) o[i].2.2 = ((flatR (o.take (i + 1))).length : Int) := by rw [Zv (by omega), k4]; omega
    have := ih (i + 1) n (by omega) (by omega) (by omega)
    rw [Zd, lt_t (by omega), cond_true, Zt (i := (i : Int)) (by omega), cond_true, Zba hlt, ne_f k1, cond_false, cond_true, lt_f (by omega), cond_false, cond_true, Zdd (a := 65536) (by omega), lt_f (by omega), cond_false, hadd, Zv (a := (i : Int)) (by omega)]
    simp only [cond_true]
    by_cases hi0 : i = 0
    · rw [lt_f (by omega), cond_false]
      exact this
    · have hlt1 : i - 1 < o.length := by omega
      have hl2 : lastR none (o.take i) = some o[i - 1].1 := by
        have : o.take i = o.take (i - 1) ++ [o[i - 1]] := by
          have := take_one hlt1
          rwa [show i - 1 + 1 = i by omega] at this
        rw [this, Zug]
      rw [hl2] at k3
      rw [lt_t (by omega), cond_true, Zdd (by omega), Zt (by omega), cond_true, show (i : Int) - 1 = ((i - 1 : Nat) : Int) by omega, Zba hlt1, eq_f (fun h => k3 (by rw [h])), cond_false]
      exact this
theorem Zgj1 (o : List Run) (hl : o.length ≤ 65536) (h64 : ∀ r ∈ o, in64 r.1 ∧ in64 r.2.2) : ∀ (d i n : Nat), d = o.length - i → i ≤ o.length → d < n →
    Zmd.l0 n o (ofBytes (runB (o.take i))) (i : Int) = some (ofBytes (runB o), 0) := by
  intro d
  induction d with
  | zero =>
    intro i n hd hi hn
    have : i = o.length := by omega
    subst this
    obtain ⟨n, rfl⟩ : ∃ k, n = k + 1 := ⟨n - 1, by omega⟩
    show Zmd.S0 _ _ _ _ = _
    unfold Zmd.S0
    rw [Zd, lt_f (by omega), cond_false, List.take_length]
  | succ d ih =>
    intro i n hd hi hn
    obtain ⟨n, rfl⟩ : ∃ k, n = k + 1 := ⟨n - 1, by omega⟩
    have hlt : i < o.length := by omega
    have h1 := Zqh (o.take i)
    rw [List.length_take] at h1
    have h2 := Zjd o[i].1
    have h3 := Zjd o[i].2.2
    obtain ⟨q1, q2⟩ := h64 o[i] (List.getElem_mem hlt)
    show Zmd.S0 (Zmd.l0 n) _ _ _ = _
    unfold Zmd.S0
    have r1 : roomS (ofBytes (runB (o.take i))) (ofBytes (vB o[i].1)) = true := decide_eq_true (by rw [Zo, Zo]; omega)
    have r2 : roomS (ofBytes (runB (o.take i) ++ vB o[i].1)) (ofBytes (vB o[i].2.2)) = true := decide_eq_true (by rw [Zo, Zo, List.length_append]; omega)
    rw [Zd, lt_t (by omega), cond_true, Zt (by omega), cond_true, Zba hlt, Zue q1, Option.bind_some, Zid, r1, cond_true, cond_true, Zue q2, Option.bind_some, Zid, Zbd, r2, cond_true, Zbd, Zv (by omega), List.append_assoc, ← Zn5, ← take_one hlt]
    exact ih (i + 1) n (by omega) (by omega) (by omega)
theorem Ziu (o : List Run) (ho : okR 0 none o) (hl : (flatR o).length ≤ 65536) (h64 : ∀ r ∈ o, in64 r.1) : Zmd o = some (ofBytes (runB o), 0) := by
  have hol := Zgf o 0 none ho
  show Zmd.S (Zmd.l0 fu) o = _
  unfold Zmd.S
  have hm : Zge o = some true := Zfj1 o ho hl o.length 0 fu (by omega) (by omega) (by unfold fu; omega)
  rw [hm, Option.bind_some, Bool.not_true, cond_false]
  refine Zgj1 o (by omega) (fun r hr => ⟨h64 r hr, ?_⟩) o.length 0 fu (by omega) (by omega) (by unfold fu; omega)
  obtain ⟨i, hi, rfl⟩ := List.mem_iff_getElem.1 hr
  obtain ⟨_, k2, _, k4, k5⟩ := Ztu ho hi
  unfold in64
  omega
theorem Zhe1 (l : List Int) (hl : l.length ≤ 65536) (h0 : 0 < l.length) : ∀ (d i n : Nat), d = l.length - 1 - i → i ≤ l.length - 1 → d < n →
    Zpd.l0 n l ((diffs l).take i) ((i + 1 : Nat) : Int) = some (diffs l) := by
  have hdl := Zmi l
  intro d
  induction d with
  | zero =>
    intro i n hd hi hn
    have : i = l.length - 1 := by omega
    subst this
    obtain ⟨n, rfl⟩ : ∃ k, n = k + 1 := ⟨n - 1, by omega⟩
    show Zpd.S0 _ _ _ _ = _
    unfold Zpd.S0
    rw [Zd, lt_f (by omega), cond_false, List.take_of_length_le (by omega)]
  | succ d ih =>
    intro i n hd hi hn
    obtain ⟨n, rfl⟩ : ∃ k, n = k + 1 := ⟨n - 1, by omega⟩
    have hlt : i + 1 < l.length := by omega
    have hlt0 : i < l.length := by omega
    have hdi : i < (diffs l).length := by omega
    have hd1 := Zru hlt hdi
    have hih := ih (i + 1) n (by omega) (by omega) (by omega)
    rw [take_one hdi, hd1] at hih
    show Zpd.S0 (Zpd.l0 n) _ _ _ = _
    unfold Zpd.S0
    rw [Zd, lt_t (by omega), cond_true, Zt (by omega), cond_true, Zdd (b := 1) (by omega), show ((i + 1 : Nat) : Int) - 1 = (i : Int) by omega, Zt (by omega), cond_true, Zea (by rw [List.length_take]; omega), cond_true, Zba hlt, Zba hlt0, Zv (by omega)]
    exact hih
theorem Zie1 (x : List Int) (hx : x.length ≤ 65536) : ∀ (d i n : Nat) (m : Int), d = x.length - i → i ≤ x.length → d < n → Ztc.l0 n x m (i : Int) = some ((x.drop i).foldl minI m) := by
  intro d
  induction d with
  | zero =>
    intro i n m hd hi hn
    have : i = x.length := by omega
    subst this
    obtain ⟨n, rfl⟩ : ∃ k, n = k + 1 := ⟨n - 1, by omega⟩
    show Ztc.S0 _ _ _ _ = _
    unfold Ztc.S0
    rw [Zd, lt_f (by omega), cond_false, List.drop_length]
    rfl
  | succ d ih =>
    intro i n m hd hi hn
    obtain ⟨n, rfl⟩ : ∃ k, n = k + 1 := ⟨n - 1, by omega⟩
    have hlt : i < x.length := by omega
    show Ztc.S0 (Ztc.l0 n) _ _ _ = _
    unfold Ztc.S0
    rw [Zd, lt_t (by omega), cond_true, Zt (by omega), cond_true, Zba hlt, Zv (by omega), List.drop_eq_getElem_cons hlt, List.foldl_cons]
    exact ih (i + 1) n _ (by omega) (by omega) (by omega)
theorem Zje1 (m : Int) (D : List Int) (hD : D.length ≤ 65536) (s : ByteArray) : ∀ (d i n : Nat), d = D.length - i → i ≤ D.length → d < n →
    Zub.l0 (Zub.t1 fu) n s D m ((D.take i).map fun x => W64 (x - m)) (i : Int) = Zub.S1 s m (D.map fun x => W64 (x - m)) := by
  intro d
  induction d with
  | zero =>
    intro i n hd hi hn
    have : i = D.length := by omega
    subst this
    obtain ⟨n, rfl⟩ : ∃ k, n = k + 1 := ⟨n - 1, by omega⟩
    show Zub.S0 Zub.S1 _ _ _ _ _ _ = _
    unfold Zub.S0
    rw [Zd, lt_f (by omega), cond_false, List.take_length]
  | succ d ih =>
    intro i n hd hi hn
    obtain ⟨n, rfl⟩ : ∃ k, n = k + 1 := ⟨n - 1, by omega⟩
    have hlt : i < D.length := by omega
    have hih := ih (i + 1) n (by omega) (by omega) (by omega)
    rw [take_one hlt, List.map_append] at hih
    show Zub.S0 _ (Zub.l0 (Zub.t1 fu) n) _ _ _ _ _ = _
    unfold Zub.S0
    rw [Zd, lt_t (by omega), cond_true, Zt (by omega), cond_true, Zea (by rw [List.length_map, List.length_take]; omega), cond_true, Zba hlt, Zv (by omega)]
    exact hih
theorem Zc8 (l : List Int) (hl : l.length ≤ 65536) (h64 : ∀ x ∈ l, in64 x) : Zub l = some (ofBytes (Zni l (widN (Zvb l))), 0) := by
  show Zub.S (Zub.l0 (Zub.t1 fu) fu) l = _
  unfold Zub.S Zni
  rw [Zd, lt_f (by omega), cond_false]
  by_cases h0 : l.length = 0
  · rw [eq_t (by omega), cond_true, if_pos h0]
    rfl
  · rw [eq_f (by omega), cond_false, if_neg h0]
    have hl0 : 0 < l.length := by omega
    have hg0 : l.getD 0 0 = l[0] := getD_at hl0
    have hn0 : nth l 0 0 = l.getD 0 0 := rfl
    have hq : in64 (l.getD 0 0) := by rw [hg0]; exact h64 _ (List.getElem_mem hl0)
    rw [Zt (by omega), cond_true, hn0, Zue hq, Option.bind_some, Zid]
    by_cases h1 : l.length = 1
    · rw [eq_t (by omega), cond_true, if_pos h1]
    · have hdl := Zmi l
      have hst : Zpd l = some (diffs l) := Zhe1 l hl hl0 (l.length - 1) 0 fu (by omega) (by omega) (by unfold fu; omega)
      have hls : Ztc (diffs l) = some (minF (diffs l)) := by
        show Ztc.S (Ztc.l0 fu) (diffs l) = _
        unfold Ztc.S
        rw [Zt (by rw [Zd]; omega), cond_true]
        exact Zie1 (diffs l) (by omega) ((diffs l).length - 1) 1 fu (nth (diffs l) 0 0) (by omega) (by omega) (by unfold fu; omega)
      have hw := Zje1 (minF (diffs l)) (diffs l) (by omega) (ofBytes (vB (l.getD 0 0))) (diffs l).length 0 fu (by omega) (by omega) (by unfold fu; omega)
      have hfl := Zph l
      obtain ⟨_, w2, _⟩ := Zme (Zvb l) (by omega)
      have hb : (Zvb l).length * widN (Zvb l) ≤ 65536 * 64 := Nat.mul_le_mul (by omega) w2
      have hpl := Zsd (Zvb l) (widN (Zvb l))
      have k1 := Zjd (l.getD 0 0)
      have k2 := Zjd (minF (diffs l))
      rw [eq_f (by omega), cond_false, if_neg h1, hst, Option.bind_some, hls, Option.bind_some]
      refine Eq.trans hw ?_
      show Zub.S1 _ _ (Zvb l) = _
      unfold Zub.S1
      rw [Zdj _ (by omega), Option.bind_some, Zkl _ w2 (by omega) (Nat.le_refl _), Option.bind_some, Zue (Zm5 (by omega) (Zk1 l)), Option.bind_some, Zid, Zbd, Zux w2, Zbd]
      have r1 : roomS (ofBytes (vB (l.getD 0 0))) (ofBytes (vB (minF (diffs l)))) = true := decide_eq_true (by rw [Zo, Zo]; omega)
      have r2 : roomS (ofBytes (vB (l.getD 0 0) ++ vB (minF (diffs l)))) (ofBytes [(widN (Zvb l) : Int)]) = true := decide_eq_true (by rw [Zo, Zo, List.length_append, List.length_singleton]; omega)
      have r3 : roomS (ofBytes (vB (l.getD 0 0) ++ vB (minF (diffs l)) ++ [(widN (Zvb l) : Int)])) (ofBytes (packB (Zvb l) (widN (Zvb l)))) = true := decide_eq_true (by rw [Zo, Zo, List.length_append, List.length_append, List.length_singleton]; omega)
      dsimp only
      rw [r1, r2, r3, Zbd, cond_true, cond_true, cond_true]
      simp
end Go.AM.Pure
end

section
/- The document's dictionaries: distinct values, by insertion, and the places. Printed for numbers and texts alike by mk13r.py. -/
namespace Go.AM.Pure
open Go.AM
section
variable {α : Type} {c : α → α → Int}
theorem Za0 (c : α → α → Int) (x : α) : ∀ d : List α, ∃ p q, d = p ++ q ∧ (∀ y ∈ p, c y x = -1) ∧ ∀ z r, q = z :: r → ¬ c z x = -1
  | [] => ⟨[], [], rfl, fun _ h => (by cases h), fun _ _ h => (by cases h)⟩
  | a :: d => by
    by_cases h : c a x = -1
    · obtain ⟨p, q, h1, h2, h3⟩ := Za0 c x d
      refine ⟨a :: p, q, by rw [h1]; rfl, fun y hy => ?_, h3⟩
      rcases List.mem_cons.1 hy with rfl | hy
      · exact h
      · exact h2 y hy
    · exact ⟨[], a :: d, rfl, fun _ h => (by cases h), fun z r e => by cases e; exact h⟩
theorem Zh5 {p q : List α} {x : α} {l : List α} (h : Zzd c (p ++ q) l) (hx : x ∈ p ++ q) : Zzd c (p ++ q) (l ++ [x]) :=
  ⟨h.1, fun y => by
    rw [List.mem_append (t := [x]), List.mem_singleton, ← h.2 y]
    exact ⟨.inl, fun h => h.elim id fun e => e ▸ hx⟩⟩
theorem Za8 (o : Ord3 c) {p q : List α} {x : α} {l : List α} (h : Zzd c (p ++ q) l) (hp : ∀ y ∈ p, c y x = -1) (hq : ∀ z r, q = z :: r → ¬ c z x = -1 ∧ z ≠ x) : Zzd c (p ++ [x] ++ q) (l ++ [x]) := by
  obtain ⟨h1, h2⟩ := h
  obtain ⟨k1, k2, k3⟩ := List.pairwise_append.1 h1
  have hxq : ∀ y ∈ q, c x y = -1 := fun y hy => by
    cases q with
    | nil => cases hy
    | cons z r =>
      obtain ⟨m1, m2⟩ := hq z r rfl
      have hz : c x z = -1 := by
        rw [o.neg z x]
        rcases o.rng z x with h | h | h
        · exact absurd h m1
        · exact absurd ((o.eq0 _ _).1 h) m2
        · rw [h]
      rcases List.mem_cons.1 hy with rfl | hy
      · exact hz
      · exact o.tr _ _ _ hz ((List.pairwise_cons.1 k2).1 y hy)
  constructor
  · unfold Inc
    rw [List.append_assoc, List.pairwise_append]
    refine ⟨k1, ?_, fun a ha b hb => ?_⟩
    · rw [List.singleton_append, List.pairwise_cons]
      exact ⟨hxq, k2⟩
    · rcases List.mem_append.1 hb with hb | hb
      · rw [List.mem_singleton.1 hb]; exact hp a ha
      · exact k3 a ha b hb
  · intro y
    rw [List.mem_append (t := [x]), List.mem_singleton, ← h2 y]
    simp only [List.mem_append, List.mem_singleton]
    constructor
    · rintro ((h | h) | h)
      · exact .inl (.inl h)
      · exact .inr h
      · exact .inl (.inr h)
    · rintro ((h | h) | h)
      · exact .inl (.inl h)
      · exact .inr h
      · exact .inl (.inr h)
end
theorem Zzm1 (a b : Int) : ltI a b = decide (sgn a b = -1) := by
  show decide (a < b) = _
  unfold sgn
  by_cases h : a < b
  · rw [if_pos h, decide_eq_true h]; rfl
  · rw [if_neg h, decide_eq_false h]
    split <;> rfl
theorem Zmz1 (l : List Int) : Zzd sgn (dictI l) l := ⟨(Zxe l).1.imp fun {a b} h => by unfold sgn; rw [if_pos h], (Zxe l).2⟩
theorem plcI (l : List Int) : plc (dictI l) l = Zpa l := rfl
theorem Znz1 {l d : List Int} {places : List Int} {i : Nat} (hi : i < l.length) (hil : i < 1000000) (hd : d.length < 1000000) {p q : List Int} (hpq : d = p ++ q) (hp : ∀ y ∈ p, sgn y l[i] = -1) (hq : ∀ z r, q = z :: r → ¬ sgn z l[i] = -1) {o2 : List Int → List Int → List Int → Int → Int → Option (List Int × List Int)} :
    ∀ (g j n : Nat), g = p.length - j → j ≤ p.length → g < n → Zq.l1 o2 n l d places (i : Int) (j : Int) = o2 l d places (i : Int) (p.length : Int) := by
  have hpl : d.length = p.length + q.length := by rw [hpq, List.length_append]
  intro g
  induction g with
  | zero =>
    intro j n hg hj hn
    have : j = p.length := by omega
    subst this
    obtain ⟨n, rfl⟩ : ∃ k, n = k + 1 := ⟨n - 1, by omega⟩
    show Zq.S1 _ _ _ _ _ _ _ = _
    unfold Zq.S1
    cases q with
    | nil =>
      rw [List.length_nil] at hpl
      rw [Zd, lt_f (by omega), cond_false]
    | cons z r =>
      rw [List.length_cons] at hpl
      have hz : d[p.length]'(by omega) = z := by simp only [hpq, List.getElem_append_right (Nat.le_refl _), Nat.sub_self, List.getElem_cons_zero]
      rw [Zd, lt_t (by omega), cond_true, Zt (by omega), cond_true, Zt (by rw [Zd]; omega), cond_true, Zba (show p.length < d.length by omega), hz, Zba hi, Zzm1, decide_eq_false (hq z r rfl), cond_false]
  | succ g ih =>
    intro j n hg hj hn
    obtain ⟨n, rfl⟩ : ∃ k, n = k + 1 := ⟨n - 1, by omega⟩
    have hjp : j < p.length := by omega
    have hz : d[j]'(by omega) = p[j] := by simp only [hpq, List.getElem_append_left hjp]
    show Zq.S1 o2 (Zq.l1 o2 n) _ _ _ _ _ = _
    unfold Zq.S1
    rw [Zd, lt_t (by omega), cond_true, Zt (by omega), cond_true, Zt (by rw [Zd]; omega), cond_true, Zba (show j < d.length by omega), hz, Zba hi, Zzm1, decide_eq_true (hp _ (List.getElem_mem hjp)), cond_true, Zv (by omega)]
    exact ih (j + 1) n (by omega) (by omega) (by omega)
theorem Zd91 (l : List Int) (hl : l.length ≤ 65536) {o4 : List Int → List Int → List Int → Option (List Int × List Int)} : ∀ (g i m : Nat) (d : List Int), g = l.length - i → i ≤ l.length → 200000 < m → Zzd sgn d (l.take i) → d.length ≤ i →
    ∃ D, Zq.l0 o4 (m + g) l d [] (i : Int) = o4 l D [] ∧ Zzd sgn D l ∧ D.length ≤ l.length := by
  intro g
  induction g with
  | zero =>
    intro i m d hg hi hm hd hdl
    have : i = l.length := by omega
    subst this
    obtain ⟨m, rfl⟩ : ∃ k, m = k + 1 := ⟨m - 1, by omega⟩
    rw [List.take_length] at hd
    refine ⟨d, ?_, hd, hdl⟩
    show Zq.S0 _ _ _ _ _ _ = _
    unfold Zq.S0
    rw [Zd, lt_f (by omega), cond_false]
  | succ g ih =>
    intro i m d hg hi hm hd hdl
    have hlt : i < l.length := by omega
    obtain ⟨p, q, hpq, hp, hq⟩ := Za0 sgn l[i] d
    have hpl : d.length = p.length + q.length := by rw [hpq, List.length_append]
    have hfind := Znz1 (places := []) hlt (by omega) (by omega) hpq hp hq (o2 := Zq.t2 (Zq.l0 o4 (m + g)) (m + g)) p.length 0 (m + g) (by omega) (by omega) (by omega)
    have hi2 : ((i : Int) + 1) = ((i + 1 : Nat) : Int) := rfl
    obtain ⟨e, he⟩ : ∃ e, m + g = e + 2 := ⟨m + g - 2, by omega⟩
    show ∃ D, Zq.S0 o4 (Zq.l1 (Zq.t2 (Zq.l0 o4 (m + g)) (m + g)) (m + g)) l d [] (i : Int) = _ ∧ _
    unfold Zq.S0
    rw [Zd, lt_t (by omega), cond_true, show (0 : Int) = ((0 : Nat) : Int) from rfl, hfind]
    have h2 : Zq.t2 (Zq.l0 o4 (m + g)) (m + g) = Zq.S2 (Zq.l0 o4 (m + g)) (Zq.S3 (Zq.l0 o4 (m + g))) := by
      generalize Zq.l0 o4 (m + g) = z
      rw [he]
      rfl
    rw [h2]
    unfold Zq.S2
    have hins : (∀ z r, q = z :: r → ¬ sgn z l[i] = -1 ∧ z ≠ l[i]) → ∃ D, Zq.S3 (Zq.l0 o4 (m + g)) l d [] (i : Int) (p.length : Int) = o4 l D [] ∧ Zzd sgn D l ∧ D.length ≤ l.length := fun hne => by
      unfold Zq.S3
      have htk : List.take (Int.toNat (p.length : Int)) d = p := by rw [hpq]; exact List.take_left
      have hdr : List.drop (Int.toNat (p.length : Int)) d = q := by rw [hpq]; exact List.drop_left
      rw [Zd, Zmc (by omega), cond_true, htk, hdr, Zea (by omega), cond_true, Zt (by rw [Zd]; omega), cond_true, Zea (by omega), cond_true, Zmc (by omega), cond_true, Zba hlt, Zea (by rw [List.length_append, List.length_singleton]; omega), cond_true, Zv (by omega), hi2]
      exact ih (i + 1) m _ (by omega) (by omega) hm (by rw [take_one hlt]; exact Za8 Zh4 (hpq ▸ hd) hp hne) (by rw [List.length_append, List.length_append, List.length_singleton]; omega)
    cases hqc : q with
    | nil =>
      rw [hqc, List.length_nil] at hpl
      rw [Zd, lt_f (by omega), cond_false]
      exact hins fun z r e => by rw [hqc] at e; cases e
    | cons z r =>
      rw [hqc, List.length_cons] at hpl
      have hz : d[p.length]'(by omega) = z := by simp only [hpq, hqc, List.getElem_append_right (Nat.le_refl _), Nat.sub_self, List.getElem_cons_zero]
      rw [Zd, lt_t (by omega), cond_true, Zt (by omega), cond_true, Zt (by rw [Zd]; omega), cond_true, Zba (show p.length < d.length by omega), hz, Zba hlt]
      by_cases hzx : z = l[i]
      · rw [eq_t hzx, cond_true, Zv (by omega), hi2]
        exact ih (i + 1) m d (by omega) (by omega) hm (by rw [take_one hlt, hpq]; exact Zh5 (hpq ▸ hd) (by rw [hqc, hzx]; simp)) (by omega)
      · rw [eq_f hzx, cond_false]
        exact hins fun z' r' e => by
          rw [hqc] at e
          cases e
          exact ⟨hq z r hqc, hzx⟩
theorem Zan1 {l d : List Int} (hl : l.length ≤ 65536) (hdl : d.length ≤ l.length) (hd : Zzd sgn d l) {i : Nat} (hi : i < l.length) {places : List Int} (hpl : places.length ≤ 65536) {o5 : List Int → List Int → List Int → Int → Option (List Int × List Int)} :
    ∀ (g j n : Nat), g = idx d l[i] - j → j ≤ idx d l[i] → g < n → Zq.l6 o5 n l d places (i : Int) (j : Int) = o5 l d (places ++ [(idx d l[i] : Int)]) ((i : Int) + 1) := by
  have hk := Zym ((hd.2 _).2 (List.getElem_mem hi))
  have hg := Znq hk
  intro g
  induction g with
  | zero =>
    intro j n hg' hj hn
    have : j = idx d l[i] := by omega
    subst this
    obtain ⟨n, rfl⟩ : ∃ k, n = k + 1 := ⟨n - 1, by omega⟩
    show Zq.S6 _ _ _ _ _ _ _ = _
    unfold Zq.S6
    rw [Zd, Zt (by omega), cond_true, Zd, Zt (by omega), cond_true, Zba hk, hg, Zba hi, ne_f rfl, cond_false, Zea (by omega), cond_true, Zv (by omega)]
  | succ g ih =>
    intro j n hg' hj hn
    obtain ⟨n, rfl⟩ : ∃ k, n = k + 1 := ⟨n - 1, by omega⟩
    have hjd : j < d.length := by omega
    have hne : ¬ d[j] = l[i] := fun e => by
      have := hd.1.inj Zh4 hjd hk (e.trans hg.symm)
      omega
    show Zq.S6 o5 (Zq.l6 o5 n) _ _ _ _ _ = _
    unfold Zq.S6
    rw [Zd, Zt (by omega), cond_true, Zd, Zt (by omega), cond_true, Zba hjd, Zba hi, ne_t hne, cond_true, Zv (by omega)]
    exact ih (j + 1) n (by omega) (by omega) (by omega)
theorem Zbj1 {l d : List Int} (hl : l.length ≤ 65536) (hdl : d.length ≤ l.length) (hd : Zzd sgn d l) : ∀ (g i m : Nat), g = l.length - i → i ≤ l.length → 200000 < m →
    Zq.l5 (m + g) l d ((plc d l).take i) (i : Int) = some (d, plc d l) := by
  have hpl := Zjf d l
  intro g
  induction g with
  | zero =>
    intro i m hg hi hm
    have : i = l.length := by omega
    subst this
    obtain ⟨m, rfl⟩ : ∃ k, m = k + 1 := ⟨m - 1, by omega⟩
    show Zq.S5 _ _ _ _ _ = _
    unfold Zq.S5
    rw [Zd, lt_f (by omega), cond_false, List.take_of_length_le (by omega)]
  | succ g ih =>
    intro i m hg hi hm
    have hlt : i < l.length := by omega
    have hk := Zym ((hd.2 _).2 (List.getElem_mem hlt))
    show Zq.S5 (Zq.l6 (Zq.l5 (m + g)) (m + g)) _ _ _ _ = _
    unfold Zq.S5
    have := Zan1 hl hdl hd hlt (places := (plc d l).take i) (by rw [List.length_take]; omega) (o5 := Zq.l5 (m + g)) (idx d l[i]) 0 (m + g) (by omega) (by omega) (by omega)
    rw [Zd, lt_t (by omega), cond_true, show (0 : Int) = ((0 : Nat) : Int) from rfl, this]
    have h2 := ih (i + 1) m (by omega) (by omega) hm
    rw [take_one (by omega), Zx3 hlt] at h2
    exact h2
theorem Ze7 (l : List Int) (hl : l.length ≤ 65536) : Zq l = some (dictI l, plc (dictI l) l) := by
  show Zq.S (Zq.l0 (Zq.t4 fu) fu) l = _
  unfold Zq.S
  obtain ⟨D, h1, h2, h3⟩ := Zd91 l hl (o4 := Zq.t4 fu) l.length 0 (fu - l.length) [] (by omega) (by omega) (by unfold fu; omega) ⟨List.Pairwise.nil, fun x => by simp⟩ (by simp)
  rw [show fu - l.length + l.length = fu by unfold fu; omega] at h1
  have hD : D = dictI l := h2.uniq Zh4 (Zmz1 l)
  subst hD
  refine Eq.trans h1 ?_
  show Zq.S4 (Zq.l5 18446744073709551615) _ _ _ = _
  unfold Zq.S4
  have := Zbj1 hl h3 h2 l.length 0 (18446744073709551615 - l.length) (by omega) (by omega) (by omega)
  rw [show 18446744073709551615 - l.length + l.length = 18446744073709551615 by omega] at this
  exact this
theorem neS_f {a b : ByteArray} (h : a = b) : (!(eqS a b)) = false := by rw [eqS_t h]; rfl
theorem neS_t {a b : ByteArray} (h : ¬ a = b) : (!(eqS a b)) = true := by rw [eqS_f h]; rfl
theorem Zoz1 {l d : List ByteArray} {places : List Int} {i : Nat} (hi : i < l.length) (hil : i < 1000000) (hd : d.length < 1000000) {p q : List ByteArray} (hpq : d = p ++ q) (hp : ∀ y ∈ p, cmpS y l[i] = -1) (hq : ∀ z r, q = z :: r → ¬ cmpS z l[i] = -1) {o2 : List ByteArray → List ByteArray → List Int → Int → Int → Option (List ByteArray × List Int)} :
    ∀ (g j n : Nat), g = p.length - j → j ≤ p.length → g < n → Zk.l1 o2 n l d places (i : Int) (j : Int) = o2 l d places (i : Int) (p.length : Int) := by
  have hpl : d.length = p.length + q.length := by rw [hpq, List.length_append]
  intro g
  induction g with
  | zero =>
    intro j n hg hj hn
    have : j = p.length := by omega
    subst this
    obtain ⟨n, rfl⟩ : ∃ k, n = k + 1 := ⟨n - 1, by omega⟩
    show Zk.S1 _ _ _ _ _ _ _ = _
    unfold Zk.S1
    cases q with
    | nil =>
      rw [List.length_nil] at hpl
      rw [Zd, lt_f (by omega), cond_false]
    | cons z r =>
      rw [List.length_cons] at hpl
      have hz : d[p.length]'(by omega) = z := by simp only [hpq, List.getElem_append_right (Nat.le_refl _), Nat.sub_self, List.getElem_cons_zero]
      rw [Zd, lt_t (by omega), cond_true, Zt (by omega), cond_true, Zt (by rw [Zd]; omega), cond_true, Zba (show p.length < d.length by omega), hz, Zba hi, ltS_d, decide_eq_false (hq z r rfl), cond_false]
  | succ g ih =>
    intro j n hg hj hn
    obtain ⟨n, rfl⟩ : ∃ k, n = k + 1 := ⟨n - 1, by omega⟩
    have hjp : j < p.length := by omega
    have hz : d[j]'(by omega) = p[j] := by simp only [hpq, List.getElem_append_left hjp]
    show Zk.S1 o2 (Zk.l1 o2 n) _ _ _ _ _ = _
    unfold Zk.S1
    rw [Zd, lt_t (by omega), cond_true, Zt (by omega), cond_true, Zt (by rw [Zd]; omega), cond_true, Zba (show j < d.length by omega), hz, Zba hi, ltS_d, decide_eq_true (hp _ (List.getElem_mem hjp)), cond_true, Zv (by omega)]
    exact ih (j + 1) n (by omega) (by omega) (by omega)
theorem Ze91 (l : List ByteArray) (hl : l.length ≤ 65536) {o4 : List ByteArray → List ByteArray → List Int → Option (List ByteArray × List Int)} : ∀ (g i m : Nat) (d : List ByteArray), g = l.length - i → i ≤ l.length → 200000 < m → Zzd cmpS d (l.take i) → d.length ≤ i →
    ∃ D, Zk.l0 o4 (m + g) l d [] (i : Int) = o4 l D [] ∧ Zzd cmpS D l ∧ D.length ≤ l.length := by
  intro g
  induction g with
  | zero =>
    intro i m d hg hi hm hd hdl
    have : i = l.length := by omega
    subst this
    obtain ⟨m, rfl⟩ : ∃ k, m = k + 1 := ⟨m - 1, by omega⟩
    rw [List.take_length] at hd
    refine ⟨d, ?_, hd, hdl⟩
    show Zk.S0 _ _ _ _ _ _ = _
    unfold Zk.S0
    rw [Zd, lt_f (by omega), cond_false]
  | succ g ih =>
    intro i m d hg hi hm hd hdl
    have hlt : i < l.length := by omega
    obtain ⟨p, q, hpq, hp, hq⟩ := Za0 cmpS l[i] d
    have hpl : d.length = p.length + q.length := by rw [hpq, List.length_append]
    have hfind := Zoz1 (places := []) hlt (by omega) (by omega) hpq hp hq (o2 := Zk.t2 (Zk.l0 o4 (m + g)) (m + g)) p.length 0 (m + g) (by omega) (by omega) (by omega)
    have hi2 : ((i : Int) + 1) = ((i + 1 : Nat) : Int) := rfl
    obtain ⟨e, he⟩ : ∃ e, m + g = e + 2 := ⟨m + g - 2, by omega⟩
    show ∃ D, Zk.S0 o4 (Zk.l1 (Zk.t2 (Zk.l0 o4 (m + g)) (m + g)) (m + g)) l d [] (i : Int) = _ ∧ _
    unfold Zk.S0
    rw [Zd, lt_t (by omega), cond_true, show (0 : Int) = ((0 : Nat) : Int) from rfl, hfind]
    have h2 : Zk.t2 (Zk.l0 o4 (m + g)) (m + g) = Zk.S2 (Zk.l0 o4 (m + g)) (Zk.S3 (Zk.l0 o4 (m + g))) := by
      generalize Zk.l0 o4 (m + g) = z
      rw [he]
      rfl
    rw [h2]
    unfold Zk.S2
    have hins : (∀ z r, q = z :: r → ¬ cmpS z l[i] = -1 ∧ z ≠ l[i]) → ∃ D, Zk.S3 (Zk.l0 o4 (m + g)) l d [] (i : Int) (p.length : Int) = o4 l D [] ∧ Zzd cmpS D l ∧ D.length ≤ l.length := fun hne => by
      unfold Zk.S3
      have htk : List.take (Int.toNat (p.length : Int)) d = p := by rw [hpq]; exact List.take_left
      have hdr : List.drop (Int.toNat (p.length : Int)) d = q := by rw [hpq]; exact List.drop_left
      rw [Zd, Zmc (by omega), cond_true, htk, hdr, Zea (by omega), cond_true, Zt (by rw [Zd]; omega), cond_true, Zea (by omega), cond_true, Zmc (by omega), cond_true, Zba hlt, Zea (by rw [List.length_append, List.length_singleton]; omega), cond_true, Zv (by omega), hi2]
      exact ih (i + 1) m _ (by omega) (by omega) hm (by rw [take_one hlt]; exact Za8 Zgh (hpq ▸ hd) hp hne) (by rw [List.length_append, List.length_append, List.length_singleton]; omega)
    cases hqc : q with
    | nil =>
      rw [hqc, List.length_nil] at hpl
      rw [Zd, lt_f (by omega), cond_false]
      exact hins fun z r e => by rw [hqc] at e; cases e
    | cons z r =>
      rw [hqc, List.length_cons] at hpl
      have hz : d[p.length]'(by omega) = z := by simp only [hpq, hqc, List.getElem_append_right (Nat.le_refl _), Nat.sub_self, List.getElem_cons_zero]
      rw [Zd, lt_t (by omega), cond_true, Zt (by omega), cond_true, Zt (by rw [Zd]; omega), cond_true, Zba (show p.length < d.length by omega), hz, Zba hlt]
      by_cases hzx : z = l[i]
      · rw [eqS_t hzx, cond_true, Zv (by omega), hi2]
        exact ih (i + 1) m d (by omega) (by omega) hm (by rw [take_one hlt, hpq]; exact Zh5 (hpq ▸ hd) (by rw [hqc, hzx]; simp)) (by omega)
      · rw [eqS_f hzx, cond_false]
        exact hins fun z' r' e => by
          rw [hqc] at e
          cases e
          exact ⟨hq z r hqc, hzx⟩
theorem Zbn1 {l d : List ByteArray} (hl : l.length ≤ 65536) (hdl : d.length ≤ l.length) (hd : Zzd cmpS d l) {i : Nat} (hi : i < l.length) {places : List Int} (hpl : places.length ≤ 65536) {o5 : List ByteArray → List ByteArray → List Int → Int → Option (List ByteArray × List Int)} :
    ∀ (g j n : Nat), g = idx d l[i] - j → j ≤ idx d l[i] → g < n → Zk.l6 o5 n l d places (i : Int) (j : Int) = o5 l d (places ++ [(idx d l[i] : Int)]) ((i : Int) + 1) := by
  have hk := Zym ((hd.2 _).2 (List.getElem_mem hi))
  have hg := Znq hk
  intro g
  induction g with
  | zero =>
    intro j n hg' hj hn
    have : j = idx d l[i] := by omega
    subst this
    obtain ⟨n, rfl⟩ : ∃ k, n = k + 1 := ⟨n - 1, by omega⟩
    show Zk.S6 _ _ _ _ _ _ _ = _
    unfold Zk.S6
    rw [Zd, Zt (by omega), cond_true, Zd, Zt (by omega), cond_true, Zba hk, hg, Zba hi, neS_f rfl, cond_false, Zea (by omega), cond_true, Zv (by omega)]
  | succ g ih =>
    intro j n hg' hj hn
    obtain ⟨n, rfl⟩ : ∃ k, n = k + 1 := ⟨n - 1, by omega⟩
    have hjd : j < d.length := by omega
    have hne : ¬ d[j] = l[i] := fun e => by
      have := hd.1.inj Zgh hjd hk (e.trans hg.symm)
      omega
    show Zk.S6 o5 (Zk.l6 o5 n) _ _ _ _ _ = _
    unfold Zk.S6
    rw [Zd, Zt (by omega), cond_true, Zd, Zt (by omega), cond_true, Zba hjd, Zba hi, neS_t hne, cond_true, Zv (by omega)]
    exact ih (j + 1) n (by omega) (by omega) (by omega)
theorem Zcj1 {l d : List ByteArray} (hl : l.length ≤ 65536) (hdl : d.length ≤ l.length) (hd : Zzd cmpS d l) : ∀ (g i m : Nat), g = l.length - i → i ≤ l.length → 200000 < m →
    Zk.l5 (m + g) l d ((plc d l).take i) (i : Int) = some (d, plc d l) := by
  have hpl := Zjf d l
  intro g
  induction g with
  | zero =>
    intro i m hg hi hm
    have : i = l.length := by omega
    subst this
    obtain ⟨m, rfl⟩ : ∃ k, m = k + 1 := ⟨m - 1, by omega⟩
    show Zk.S5 _ _ _ _ _ = _
    unfold Zk.S5
    rw [Zd, lt_f (by omega), cond_false, List.take_of_length_le (by omega)]
  | succ g ih =>
    intro i m hg hi hm
    have hlt : i < l.length := by omega
    have hk := Zym ((hd.2 _).2 (List.getElem_mem hlt))
    show Zk.S5 (Zk.l6 (Zk.l5 (m + g)) (m + g)) _ _ _ _ = _
    unfold Zk.S5
    have := Zbn1 hl hdl hd hlt (places := (plc d l).take i) (by rw [List.length_take]; omega) (o5 := Zk.l5 (m + g)) (idx d l[i]) 0 (m + g) (by omega) (by omega) (by omega)
    rw [Zd, lt_t (by omega), cond_true, show (0 : Int) = ((0 : Nat) : Int) from rfl, this]
    have h2 := ih (i + 1) m (by omega) (by omega) hm
    rw [take_one (by omega), Zx3 hlt] at h2
    exact h2
theorem Zlq (l : List ByteArray) (hl : l.length ≤ 65536) : Zk l = some (dictT l, plc (dictT l) l) := by
  show Zk.S (Zk.l0 (Zk.t4 fu) fu) l = _
  unfold Zk.S
  obtain ⟨D, h1, h2, h3⟩ := Ze91 l hl (o4 := Zk.t4 fu) l.length 0 (fu - l.length) [] (by omega) (by omega) (by unfold fu; omega) ⟨List.Pairwise.nil, fun x => by simp⟩ (by simp)
  rw [show fu - l.length + l.length = fu by unfold fu; omega] at h1
  have hD : D = dictT l := h2.uniq Zgh (Ztg l)
  subst hD
  refine Eq.trans h1 ?_
  show Zk.S4 (Zk.l5 18446744073709551615) _ _ _ = _
  unfold Zk.S4
  have := Zcj1 hl h3 h2 l.length 0 (18446744073709551615 - l.length) (by omega) (by omega) (by omega)
  rw [show 18446744073709551615 - l.length + l.length = 18446744073709551615 by omega] at this
  exact this
end Go.AM.Pure
end

section
/- The document's sum of bytes, its codes, and its blocks: the same bytes as the program's. -/
namespace Go.AM.Pure
open Go.AM
theorem xor64 {a b : Nat} (ha : a < 4294967296) (hb : b < 4294967296) : xorI .i64 (a : Int) (b : Int) = ((a ^^^ b : Nat) : Int) := by
  have h := Nat.xor_lt_two_pow (n := 32) ha hb
  unfold xorI
  have e : (BitVec.ofInt 64 (a : Int) ^^^ BitVec.ofInt 64 (b : Int)).toNat = a ^^^ b := by
    rw [BitVec.toNat_xor, BitVec.ofInt_natCast, BitVec.ofInt_natCast, BitVec.toNat_ofNat, BitVec.toNat_ofNat, Nat.mod_eq_of_lt (by omega), Nat.mod_eq_of_lt (by omega)]
  show IntKind.wrap .i64 ((BitVec.ofInt 64 (a : Int) ^^^ BitVec.ofInt 64 (b : Int)).toNat : Int) = _
  rw [e]
  exact Zud (by omega)
theorem Zkq (n : Int) : IntKind.wrap .u32 n = n % 4294967296 := by
  unfold IntKind.wrap
  rfl
theorem xor32 {a b : Nat} (ha : a < 4294967296) (hb : b < 4294967296) : xorI .u32 (a : Int) (b : Int) = ((a ^^^ b : Nat) : Int) := by
  have h := Nat.xor_lt_two_pow (n := 32) ha hb
  unfold xorI
  have e : (BitVec.ofInt 32 (a : Int) ^^^ BitVec.ofInt 32 (b : Int)).toNat = a ^^^ b := by
    rw [BitVec.toNat_xor, BitVec.ofInt_natCast, BitVec.ofInt_natCast, BitVec.toNat_ofNat, BitVec.toNat_ofNat, Nat.mod_eq_of_lt (by omega), Nat.mod_eq_of_lt (by omega)]
  show IntKind.wrap .u32 ((BitVec.ofInt 32 (a : Int) ^^^ BitVec.ofInt 32 (b : Int)).toNat : Int) = _
  rw [e, Zkq]
  omega
def stepN (n : Nat) : Nat := (n / 2) ^^^ (if n % 2 = 1 then 2197175160 else 0)
theorem Zb91 (n : Nat) (_ : n < 4294967296) : andI .u32 (n : Int) 1 = ((n % 2 : Nat) : Int) := by
  unfold andI
  have e : (BitVec.ofInt 32 (n : Int) &&& BitVec.ofInt 32 1).toNat = n % 4294967296 % 2 := by
    rw [BitVec.toNat_and, BitVec.ofInt_natCast, BitVec.toNat_ofNat, show (BitVec.ofInt 32 1).toNat = 2 ^ 1 - 1 from rfl, Nat.and_two_pow_sub_one_eq_mod]
  show IntKind.wrap .u32 ((BitVec.ofInt 32 (n : Int) &&& BitVec.ofInt 32 1).toNat : Int) = _
  rw [e, Zkq]
  omega
theorem shr1 (k : IntKind) (hk : 1 ≤ k.bits) (n : Nat) : shrI k (n : Int) 1 = ((n / 2 : Nat) : Int) := by
  unfold shrI
  rw [show min (Int.toNat 1) k.bits = 1 from Nat.min_eq_left hk, show (2 : Int) ^ 1 = 2 from rfl, show ((n / 2 : Nat) : Int) = (n : Int) / 2 from by omega, Int.fdiv_eq_ediv_of_nonneg _ (by omega)]
theorem Zxi1 {n : Nat} (h : n < 4294967296) : Zoq (n : Int) = (stepN n : Int) := by
  have hm : andI .u32 2197175160 (subI .u32 0 (andI .u32 (n : Int) 1)) = ((if n % 2 = 1 then 2197175160 else 0 : Nat) : Int) := by
    rw [Zb91 n h]
    rcases Nat.mod_two_eq_zero_or_one n with h2 | h2
    · rw [h2]; decide +kernel
    · rw [h2]; decide +kernel
  unfold Zoq stepN
  rw [hm, shr1 _ (by decide)]
  exact xor32 (by omega) (by split <;> omega)
def stepR (n b : Nat) : Nat := if n % 2 ≠ b % 2 then (n / 2) ^^^ 2197175160 else n / 2
theorem Zhm {n b : Nat} (h : n < 4294967296) : stepR n b < 4294967296 := by
  unfold stepR
  split
  · exact Nat.xor_lt_two_pow (n := 32) (by omega) (by omega)
  · omega
theorem Ze5 (n b : Nat) : stepN (n ^^^ b) = stepR n b ^^^ (b / 2) := by
  unfold stepN stepR
  have h1 : (n ^^^ b) / 2 = (n / 2) ^^^ (b / 2) := Nat.xor_div_two
  have h2 : (n ^^^ b) % 2 = 1 ↔ n % 2 ≠ b % 2 := by
    rw [Nat.xor_mod_two_eq_one]
    omega
  rw [h1]
  by_cases h : n % 2 ≠ b % 2
  · rw [if_pos (h2.2 h), if_pos h, Nat.xor_assoc, Nat.xor_assoc, Nat.xor_comm (b / 2)]
  · rw [if_neg (fun e => h (h2.1 e)), if_neg h, Nat.xor_zero]
def Znj : Nat → Nat → Nat → Nat
  | 0, n, _ => n
  | k + 1, n, b => Znj k (stepR n b) (b / 2)
theorem Zhu : ∀ (k : Nat) {n b : Nat}, n < 4294967296 → Znj k n b < 4294967296
  | 0, _, _, h => h
  | k + 1, _, _, h => Zhu k (Zhm h)
theorem Zf5 : ∀ (k n b : Nat), n < 4294967296 → b < 2 ^ k → k ≤ 8 → crcN k ((n ^^^ b : Nat) : Int) = (Znj k n b : Int)
  | 0, n, b, _, hb, _ => by
    have : b = 0 := by simpa using hb
    subst this
    rw [Nat.xor_zero]; rfl
  | k + 1, n, b, hn, hb, hk => by
    have hb8 : b < 2 ^ 8 := Nat.lt_of_lt_of_le hb (Nat.pow_le_pow_right (by omega) hk)
    show crcN k (Zoq _) = (Znj k (stepR n b) (b / 2) : Int)
    rw [Zxi1 (Nat.xor_lt_two_pow (n := 32) hn (by omega)), Ze5]
    exact Zf5 k _ _ (Zhm hn) (by rw [Nat.pow_succ] at hb; omega) (by omega)
theorem Zzy {o0 : ByteArray → Int → Int → Option Int} {s : ByteArray} {i : Nat} (hi : i < s.size) (hil : i < 100000000000) {b : Nat} (hb : byteAt s (i : Int) = (b : Int)) (hb8 : b < 256) : ∀ (d k m : Nat) (n : Nat), k + d = 8 → d < m → n < 4294967296 →
    Zfb.l1 o0 m s (n : Int) (i : Int) (k : Int) = o0 s (Znj d n (b / 2 ^ k) : Int) ((i : Int) + 1)
  | 0, k, m, n, h, hm, _ => by
    obtain ⟨m, rfl⟩ : ∃ j, m = j + 1 := ⟨m - 1, by omega⟩
    show Zfb.S1 _ _ _ _ _ _ = _
    unfold Zfb.S1
    rw [lt_f (by omega), cond_false, Zv (by omega)]
    rfl
  | d + 1, k, m, n, h, hm, hn => by
    obtain ⟨m, rfl⟩ : ∃ j, m = j + 1 := ⟨m - 1, by omega⟩
    show Zfb.S1 o0 (Zfb.l1 o0 m) _ _ _ _ = _
    unfold Zfb.S1
    have hsh : shrI .i64 (b : Int) (k : Int) = ((b / 2 ^ k : Nat) : Int) := by
      rw [Zqi _ _ (by omega), Int.natCast_ediv, Int.natCast_pow]; rfl
    have ih := Zzy (o0 := o0) hi hil hb hb8 d (k + 1) m (stepR n (b / 2 ^ k)) (by omega) (by omega) (Zhm hn)
    rw [show b / 2 ^ (k + 1) = b / 2 ^ k / 2 by rw [Nat.pow_succ, Nat.div_div_eq_div_mul]] at ih
    rw [lt_t (by omega), cond_true, Zcb, Zt (by omega), cond_true, le_t (by omega), cond_true, hb, Zud (by omega), hsh, and1, and1, Zv (by omega), shr1 _ (by decide)]
    show _ = o0 s (Znj d (stepR n (b / 2 ^ k)) (b / 2 ^ k / 2) : Int) ((i : Int) + 1)
    by_cases hne : n % 2 ≠ b / 2 ^ k % 2
    · rw [ne_t (by omega), cond_true, show (2197175160 : Int) = ((2197175160 : Nat) : Int) from rfl, xor64 (by omega) (by omega)]
      unfold stepR at ih ⊢
      rw [if_pos hne] at ih ⊢
      exact ih
    · rw [ne_f (by omega), cond_false]
      unfold stepR at ih ⊢
      rw [if_neg hne] at ih ⊢
      exact ih
theorem Zg5 (n b : Nat) (hn : n < 4294967296) (hb : b < 256) : Zgo (n : Int) (b : Int) = (Znj 8 n b : Int) := by
  unfold Zgo
  rw [Zkq, show (b : Int) % 4294967296 = (b : Int) by omega, xor32 hn (by omega)]
  exact Zf5 8 n b hn hb (by omega)
theorem Zxm1 (s : ByteArray) (i : Int) : ∃ c : Fin 256, byteAt s i = (c.val : Int) :=
  ⟨⟨(s.data.toList.getD i.toNat 0).toNat, UInt8.toNat_lt _⟩, rfl⟩
theorem Zyi1 {s : ByteArray} {i : Nat} (h : i < s.size) : (Zf s).drop i = byteAt s (i : Int) :: (Zf s).drop (i + 1) := by
  have hb := Zne s i h
  have hl : i < (Zf s).length := by rw [Zja]; exact h
  rw [List.drop_eq_getElem_cons hl]
  rw [List.getElem?_eq_getElem hl] at hb
  injection hb with hb
  rw [hb]
theorem Zge1 (s : ByteArray) (hs : s.size < 10000000000) : ∀ (d i m : Nat) (n : Nat), d = s.size - i → i ≤ s.size → 20 < m → n < 4294967296 →
    ∃ r : Nat, r < 4294967296 ∧ ((Zf s).drop i).foldl Zgo (n : Int) = (r : Int) ∧ Zfb.l0 (m + d) s (n : Int) (i : Int) = some (xorI .i64 (r : Int) 4294967295) := by
  intro d
  induction d with
  | zero =>
    intro i m n hd hi hm hn
    have : i = s.size := by omega
    subst this
    obtain ⟨m, rfl⟩ : ∃ j, m = j + 1 := ⟨m - 1, by omega⟩
    refine ⟨n, hn, by rw [List.drop_eq_nil_of_le (by rw [Zja]; exact Nat.le_refl _)]; rfl, ?_⟩
    show Zfb.S0 _ _ _ _ = _
    unfold Zfb.S0
    rw [Zcb, lt_f (by omega), cond_false]
  | succ d ih =>
    intro i m n hd hi hm hn
    have hlt : i < s.size := by omega
    obtain ⟨c, hc⟩ := Zxm1 s (i : Int)
    have hin := Zzy (o0 := Zfb.l0 (m + d)) hlt (by omega) (b := c.val) hc c.isLt 8 0 (m + d) n rfl (by omega) hn
    obtain ⟨r, h1, h2, h3⟩ := ih (i + 1) m (Znj 8 n c.val) (by omega) (by omega) hm (Zhu 8 hn)
    refine ⟨r, h1, ?_, ?_⟩
    · rw [Zyi1 hlt, List.foldl_cons, hc, Zg5 n c.val hn c.isLt]
      exact h2
    · show Zfb.S0 (Zfb.l1 (Zfb.l0 (m + d)) (m + d)) _ _ _ = _
      unfold Zfb.S0
      rw [Nat.pow_zero, Nat.div_one] at hin
      rw [Zcb, lt_t (by omega), cond_true, show (0 : Int) = ((0 : Nat) : Int) from rfl, hin]
      exact h3
theorem Zy7 (s : ByteArray) (hs : s.size < 10000000000) : Zdv s = some (crcOf 0 (Zf s)) ∧ 0 ≤ crcOf 0 (Zf s) ∧ crcOf 0 (Zf s) < 4294967296 := by
  obtain ⟨r, h1, h2, h3⟩ := Zge1 s hs s.size 0 (fu - s.size) 4294967295 (by omega) (by omega) (by unfold fu; omega) (by omega)
  rw [show fu - s.size + s.size = fu by unfold fu; omega] at h3
  rw [List.drop_zero] at h2
  have hx := Nat.xor_lt_two_pow (n := 32) h1 (show 4294967295 < 2 ^ 32 by omega)
  have hc : crcOf 0 (Zf s) = ((r ^^^ 4294967295 : Nat) : Int) := by
    unfold crcOf
    rw [show xorI .u32 4294967295 (IntKind.wrap .u32 0) = ((4294967295 : Nat) : Int) by decide +kernel, h2, show (4294967295 : Int) = ((4294967295 : Nat) : Int) from rfl, xor32 (by omega) h1, Nat.xor_comm]
    exact Zud (by omega)
  refine ⟨?_, by rw [hc]; omega, by rw [hc]; omega⟩
  unfold Zdv
  have hm : Zfb 0 s = some (xorI .i64 (r : Int) 4294967295) := by
    show Zfb.S (Zfb.l0 fu) 0 s = _
    unfold Zfb.S
    rw [show xorI .i64 (andI .i64 0 4294967295) 4294967295 = ((4294967295 : Nat) : Int) by decide +kernel]
    exact h3
  rw [hm, show (4294967295 : Int) = ((4294967295 : Nat) : Int) from rfl, xor64 h1 (by omega), hc]
  rfl
theorem Zd7 (s : ByteArray) (hs : s.size < 10000000000) : Zeo s = some (ofBytes (sealB (Zf s))) := by
  obtain ⟨h1, h2, h3⟩ := Zy7 s hs
  unfold Zeo
  rw [h1, Option.bind_some]
  have hb : ∀ k : Nat, k ≤ 32 → IntKind.wrap .u8 (andI .i64 (shrI .i64 (crcOf 0 (Zf s)) (k : Int)) 255) = IntKind.wrap .u8 (shrI .u32 (IntKind.wrap .u32 (crcOf 0 (Zf s))) (k : Int)) := fun k hk => by
    have e2 : shrI .u32 (crcOf 0 (Zf s)) (k : Int) = crcOf 0 (Zf s) / 2 ^ k := by
      unfold shrI
      rw [show min (Int.toNat (k : Int)) IntKind.u32.bits = k from Nat.min_eq_left hk, Int.fdiv_eq_ediv_of_nonneg _ (Int.le_of_lt (Zgc k))]
    rw [Zkq, Int.emod_eq_of_lt h2 h3, Zqi _ _ (by omega), Zcn1, e2, Zvf, Zvf]
    omega
  have h0 := hb 0 (by omega)
  rw [show shrI .i64 (crcOf 0 (Zf s)) ((0 : Nat) : Int) = crcOf 0 (Zf s) by rw [Zqi _ _ (by omega), Int.pow_zero, Int.ediv_one]] at h0
  have h8 := hb 8 (by omega)
  have h16 := hb 16 (by omega)
  have h24 := hb 24 (by omega)
  simp only [show ((8 : Nat) : Int) = 8 from rfl, show ((16 : Nat) : Int) = 16 from rfl, show ((24 : Nat) : Int) = 24 from rfl, show ((0 : Nat) : Int) = 0 from rfl] at h0 h8 h16 h24
  rw [h0, h8, h16, h24]
  show (bif roomS s (ofBytes (sumB (Zf s))) then some (addS s (ofBytes (sumB (Zf s)))) else none) = _
  have r1 : roomS s (ofBytes (sumB (Zf s))) = true := decide_eq_true (by rw [Zo]; show s.size + 4 ≤ _; omega)
  rw [r1, cond_true]
  congr 1
  conv => lhs; rw [← Zcf s, Zbd]
  rw [Zcf]
  rfl
theorem Zzi1 (p : List Int) (hp : p.length ≤ 65536) (d : List Int) (hd : d.length ≤ 65536) (h64 : ∀ x ∈ d, in64 x) (a : List Int) (ha : a.length ≤ 10) : ∀ (g i n : Nat), g = d.length - i → i ≤ d.length → g < n →
    Zua.l0 (Zua.t1 fu) n d p (ofBytes (a ++ intsB (d.take i))) (i : Int) = some (ofBytes (a ++ (intsB d ++ packB p (widN p))), 0) := by
  intro g
  induction g with
  | zero =>
    intro i n hg hi hn
    have : i = d.length := by omega
    subst this
    obtain ⟨n, rfl⟩ : ∃ k, n = k + 1 := ⟨n - 1, by omega⟩
    show Zua.S0 Zua.S1 _ _ _ _ _ = _
    unfold Zua.S0
    rw [Zd, lt_f (by omega), cond_false, List.take_length]
    unfold Zua.S1
    have k1 := Zli d
    obtain ⟨_, w2, _⟩ := Zme p hp
    have hb : p.length * widN p ≤ 65536 * 64 := Nat.mul_le_mul hp w2
    have hpl := Zsd p (widN p)
    have r1 : roomS (ofBytes (a ++ intsB d)) (ofBytes (packB p (widN p))) = true := decide_eq_true (by rw [Zo, Zo, List.length_append]; omega)
    rw [Znp p hp, Option.bind_some, r1, cond_true, Zbd, List.append_assoc]
  | succ g ih =>
    intro i n hg hi hn
    obtain ⟨n, rfl⟩ : ∃ k, n = k + 1 := ⟨n - 1, by omega⟩
    have hlt : i < d.length := by omega
    have k1 := Zli (d.take i)
    rw [List.length_take] at k1
    have k2 := Zjd d[i]
    have r1 : roomS (ofBytes (a ++ intsB (d.take i))) (ofBytes (vB d[i])) = true := decide_eq_true (by rw [Zo, Zo, List.length_append]; omega)
    have hih := ih (i + 1) n (by omega) (by omega) (by omega)
    rw [take_one hlt, Zbt, ← List.append_assoc] at hih
    show Zua.S0 _ (Zua.l0 (Zua.t1 fu) n) _ _ _ _ = _
    unfold Zua.S0
    rw [Zd, lt_t (by omega), cond_true, Zt (by omega), cond_true, Zba hlt, Zue (h64 _ (List.getElem_mem hlt)), Option.bind_some, Zid, r1, cond_true, Zbd, Zv (by omega)]
    exact hih
theorem Zyz (l : List Int) (hl : l.length ≤ 65536) (h64 : ∀ x ∈ l, in64 x) : Zua l = some (ofBytes (dictB l (widN (Zpa l))), 0) := by
  show Zua.S (Zua.l0 (Zua.t1 fu) fu) l = _
  unfold Zua.S dictB
  rw [Zd, lt_f (by omega), cond_false]
  by_cases h0 : l.length = 0
  · rw [eq_t (by omega), cond_true, if_pos h0]
    rfl
  · have hdl := Zmh l
    have hpl := Zeg l
    rw [eq_f (by omega), cond_false, if_neg h0, Ze7 l hl, plcI, Option.bind_some]
    dsimp only
    rw [Zd, Zue (by unfold in64; omega), Option.bind_some, Zid]
    have := Zzi1 (Zpa l) (by omega) (dictI l) (by omega) (fun x hx => h64 x (((Zxe l).2 x).1 hx)) (vB ((dictI l).length : Int)) (Zjd _).2 (dictI l).length 0 fu (by omega) (by omega) (by unfold fu; omega)
    rw [List.take_zero, show intsB [] = [] from rfl, List.append_nil] at this
    exact this
theorem Zvy (l : List ByteArray) (hl : l.length ≤ 65536) (hsh : Short l) : Zmm l = some (ofBytes (Zoj l (widN (Zaa l))), 0) := by
  unfold Zmm Zoj
  rw [Zd, lt_f (by omega), cond_false]
  by_cases h0 : l.length = 0
  · rw [eq_t (by omega), cond_true, if_pos h0]
    rfl
  · have hdl := Zdg l
    have hpl : (Zaa l).length = l.length := Zjf _ _
    obtain ⟨_, w2, _⟩ := Zme (Zaa l) (by omega)
    have hb : (Zaa l).length * widN (Zaa l) ≤ 65536 * 64 := Nat.mul_le_mul (by omega) w2
    have hpb := Zsd (Zaa l) (widN (Zaa l))
    have k1 := Zjd ((dictT l).length : Int)
    have k2 := Zwe _ hsh.dict
    rw [eq_f (by omega), cond_false, if_neg h0, Zlq l hl, Option.bind_some]
    dsimp only
    rw [Zlj _ (by omega) hsh.dict, Option.bind_some]
    dsimp only
    have r1 : roomS (ofBytes (vB ((dictT l).length : Int))) (ofBytes (Zia (dictT l))) = true := decide_eq_true (by rw [Zo, Zo]; omega)
    have r2 : roomS (ofBytes (vB ((dictT l).length : Int) ++ Zia (dictT l))) (ofBytes (packB (Zaa l) (widN (Zaa l)))) = true := decide_eq_true (by rw [Zo, Zo, List.length_append]; omega)
    rw [ne_f rfl, cond_false, Zd, Zue (by unfold in64; omega), Option.bind_some, Zid, r1, cond_true, Znp (Zaa l) (by omega), Option.bind_some, Zbd, r2, cond_true, Zbd, List.append_assoc]
theorem Zzz (l : List Int) (hl : l.length ≤ 65536) (h64 : ∀ x ∈ l, in64 x) (code : Int) : Zyn l code = some (match numB l code with | some b => (ofBytes b, true) | none => (eB, false)) := by
  unfold Zyn numB
  by_cases h1 : code = 1
  · rw [eq_t h1, cond_true, if_pos h1, Zb0 l hl]
    rfl
  · rw [eq_f h1, cond_false, if_neg h1]
    by_cases h2 : code = 2
    · obtain ⟨_, k2, k3⟩ := Zej l hl
      rw [eq_t h2, cond_true, if_pos h2, Zaz l hl, Option.bind_some, Ziu _ k3 (by rw [k2]; exact hl) (fun r hr => h64 _ (by rw [← k2]; exact Zat k3 r hr))]
      rfl
    · rw [eq_f h2, cond_false, if_neg h2]
      by_cases h3 : code = 3
      · rw [eq_t h3, cond_true, if_pos h3, Zc8 l hl h64]
        rfl
      · rw [eq_f h3, cond_false, if_neg h3]
        by_cases h4 : code = 4
        · rw [eq_t h4, cond_true, if_pos h4, Zyz l hl h64]
          rfl
        · rw [eq_f h4, cond_false, if_neg h4]
          by_cases h5 : code = 5
          · obtain ⟨_, k2, _⟩ := Zme l hl
            have hb : l.length * widN l ≤ 65536 * 64 := Nat.mul_le_mul hl k2
            have hpl := Zsd l (widN l)
            have r1 : roomS (ofBytes [(widN l : Int)]) (ofBytes (packB l (widN l))) = true := decide_eq_true (by rw [Zo, Zo]; simp; omega)
            rw [eq_t h5, cond_true, if_pos h5, Zdj l hl, Option.bind_some, Zkl l k2 hl (Nat.le_refl _), Option.bind_some, Zux k2]
            dsimp only
            rw [r1, cond_true, Zbd]
            rfl
          · rw [eq_f h5, cond_false, if_neg h5]
theorem Zq3 (l : List ByteArray) (hl : l.length ≤ 65536) (hsh : Short l) (code : Int) : Zeq l code = some (match wordB l code with | some b => (ofBytes b, true) | none => (eB, false)) := by
  have hpl : (Zaa l).length = l.length := Zjf _ _
  unfold Zeq wordB
  by_cases h1 : code = 1
  · rw [eq_t h1, cond_true, if_pos h1, Zlj l hl hsh]
    rfl
  · rw [eq_f h1, cond_false, if_neg h1]
    by_cases h2 : code = 2
    · rw [eq_t h2, cond_true, if_neg (show ¬ code = 4 by omega), if_pos h2, Zd]
      unfold runTB
      by_cases h0 : l.length = 0
      · rw [lt_f (by omega), cond_false, if_pos h0]
        rfl
      · obtain ⟨r1, r2, r3⟩ := Zej (Zaa l) (by omega)
        have hdl := Zdg l
        have hsp := Ztg l
        have k1 := Zjd ((dictT l).length : Int)
        have k2 := Zwe _ hsh.dict
        have k3 := Zqh (runO (Zaa l))
        have k4 := Zgf _ _ _ r3
        rw [r2] at k4
        have hrp := Ziu (runO (Zaa l)) r3 (by rw [r2]; omega) (fun r hr => by
          have hm : r.1 ∈ Zaa l := r2 ▸ Zat r3 r hr
          have := Zim hsp r.1 hm
          unfold in64; omega)
        have q1 : roomS (ofBytes (vB ((dictT l).length : Int))) (ofBytes (Zia (dictT l))) = true := decide_eq_true (by rw [Zo, Zo]; omega)
        have q2 : roomS (ofBytes (vB ((dictT l).length : Int) ++ Zia (dictT l))) (ofBytes (runB (runO (Zaa l)))) = true := decide_eq_true (by rw [Zo, Zo, List.length_append]; omega)
        rw [lt_t (by omega), cond_true, if_neg h0, Zlq l hl, Option.bind_some]
        dsimp only
        rw [Zlj _ (by omega) hsh.dict, Option.bind_some, Zaz (Zaa l) (by omega), Option.bind_some, hrp, Option.bind_some, Zd, Zue (by unfold in64; omega), Option.bind_some, Zid]
        dsimp only
        rw [q1, cond_true, Zbd, q2, cond_true, Zbd, List.append_assoc]
    · rw [eq_f h2, cond_false]
      by_cases h4 : code = 4
      · rw [eq_t h4, cond_true, if_pos h4, Zvy l hl hsh]
        rfl
      · rw [eq_f h4, cond_false, if_neg h4, if_neg h2]
theorem Zmp {l : List Cell} {kind : Int} (h : MayB l kind) (h64 : ∀ c ∈ l, in64 c.2.1) (code : Int) : Zwo (restC l) kind code = some (match valB (restC l) kind code with | some b => (ofBytes b, true) | none => (eB, false)) := by
  have hle := Zkf l
  have h2 := h.2.1
  unfold Zwo valB
  by_cases hk : kind = 1
  · rw [eq_t hk, cond_true, if_pos hk, Zf7 _ (by omega), Option.bind_some, Zzz _ (by rw [List.length_map]; omega) (fun x hx => by
      obtain ⟨c, hc, rfl⟩ := List.mem_map.1 hx
      unfold restC at hc
      exact h64 c (List.mem_filter.1 hc).1)]
    rfl
  · rw [eq_f hk, cond_false, if_neg hk, Zt3 _ (by omega), Option.bind_some, Zq3 _ (by rw [List.length_map]; omega) (Zop h)]
    rfl
theorem Zaj1 (l : List Cell) (hl : l.length ≤ 64) (kind : Int) : ∀ (d i n : Nat), d = l.length - i → i ≤ l.length → d < n →
    ∃ b, Zdb.l1 n l kind (i : Int) = some b ∧ (b = true ↔ ∀ j (h : j < l.length), i ≤ j → Zyc l[j] = true ∧ (l[j].1 = 0 ∨ l[j].1 = kind)) := by
  intro d
  induction d with
  | zero =>
    intro i n hd hi hn
    obtain ⟨n, rfl⟩ : ∃ k, n = k + 1 := ⟨n - 1, by omega⟩
    refine ⟨true, ?_, ⟨fun _ j h hj => absurd h (by omega), fun _ => rfl⟩⟩
    show Zdb.S1 _ _ _ _ = _
    unfold Zdb.S1
    rw [Zd, lt_f (by omega), cond_false]
  | succ d ih =>
    intro i n hd hi hn
    obtain ⟨n, rfl⟩ : ∃ k, n = k + 1 := ⟨n - 1, by omega⟩
    have hlt : i < l.length := by omega
    obtain ⟨b, h1, h2⟩ := ih (i + 1) n (by omega) (by omega) (by omega)
    show ∃ b, Zdb.S1 (Zdb.l1 n) _ _ _ = _ ∧ _
    unfold Zdb.S1
    rw [Zd, lt_t (by omega), cond_true, Zt (by omega), cond_true, Zba hlt, cond_true, cond_true, Zv (by omega)]
    have hstep : (Zyc l[i] = true ∧ (l[i].1 = 0 ∨ l[i].1 = kind)) → ∃ b, Zdb.l1 n l kind ((i : Int) + 1) = some b ∧ (b = true ↔ ∀ j (h : j < l.length), i ≤ j → Zyc l[j] = true ∧ (l[j].1 = 0 ∨ l[j].1 = kind)) := fun hg =>
      ⟨b, h1, h2.trans ⟨fun h j hj hij => by
        by_cases e : i = j
        · subst e; exact hg
        · exact h j hj (by omega), fun h j hj hij => h j hj (by omega)⟩⟩
    have hbad : ¬ (Zyc l[i] = true ∧ (l[i].1 = 0 ∨ l[i].1 = kind)) → ∃ b, some false = some b ∧ (b = true ↔ ∀ j (h : j < l.length), i ≤ j → Zyc l[j] = true ∧ (l[j].1 = 0 ∨ l[j].1 = kind)) := fun hg =>
      ⟨false, rfl, ⟨fun h => (by cases h), fun h => absurd (h i hlt (Nat.le_refl _)) hg⟩⟩
    by_cases hm : Zyc l[i] = true
    · rw [hm, Bool.not_true, cond_false]
      by_cases h0 : l[i].1 = 0
      · rw [ne_f h0, cond_false]
        exact hstep ⟨hm, .inl h0⟩
      · rw [ne_t h0, cond_true]
        by_cases hk : l[i].1 = kind
        · rw [ne_f hk, cond_false]
          exact hstep ⟨hm, .inr hk⟩
        · rw [ne_t hk, cond_true]
          exact hbad fun h => h.2.elim h0 hk
    · rw [Bool.not_eq_true] at hm
      rw [hm, Bool.not_false, cond_true]
      exact hbad fun h => by rw [hm] at h; exact absurd h.1 (by decide)
theorem Zkh (l : List Cell) (kind : Int) : ∃ b, Zdb l kind = some b ∧ (b = true ↔ MayB l kind) := by
  show ∃ b, Zdb.S (Zdb.t0 fu) l kind = some b ∧ _
  unfold Zdb.S
  rw [Zd]
  by_cases h1 : 1 ≤ l.length
  · by_cases h2 : l.length ≤ 64
    · rw [lt_f (by omega), cond_false, lt_f (by omega), cond_false]
      obtain ⟨b, k1, k2⟩ := Zaj1 l h2 kind l.length 0 18446744073709551615 (by omega) (by omega) (by omega)
      have ht : Zdb.t0 fu l kind = some b := k1
      have hb : (kind = 1 ∨ kind = 2) → (b = true ↔ MayB l kind) := fun hk => k2.trans
        ⟨fun h => ⟨h1, h2, hk, fun c hc => by
          obtain ⟨j, hj, rfl⟩ := List.mem_iff_getElem.1 hc
          exact h j hj (Nat.zero_le _)⟩, fun h j hj _ => h.2.2.2 _ (List.getElem_mem hj)⟩
      by_cases k1 : kind = 1
      · rw [ne_f k1, cond_false]
        exact ⟨b, ht, hb (.inl k1)⟩
      · rw [ne_t k1, cond_true]
        by_cases k2 : kind = 2
        · rw [ne_f k2, cond_false]
          exact ⟨b, ht, hb (.inr k2)⟩
        · rw [ne_t k2, cond_true]
          exact ⟨false, rfl, ⟨fun h => (by cases h), fun h => absurd h.2.2.1 (by omega)⟩⟩
    · rw [lt_f (by omega), cond_false, lt_t (by omega), cond_true]
      exact ⟨false, rfl, ⟨fun h => (by cases h), fun h => absurd h.2.1 h2⟩⟩
  · rw [lt_t (by omega), cond_true]
    exact ⟨false, rfl, ⟨fun h => (by cases h), fun h => absurd h.1 h1⟩⟩
theorem Zz7 {l : List Cell} {kind code : Int} (h : MayB l kind) (h64 : ∀ c ∈ l, in64 c.2.1) {b : List Int} (hb : valB (restC l) kind code = some b) : Zch l kind code = some (ofBytes (sealB (blkT l kind code b)), 0) := by
  obtain ⟨v1, v2⟩ := Zys h hb
  have hc := Zxm hb
  obtain ⟨m, m1, m2⟩ := Zkh l kind
  rw [m2.2 h] at m1
  obtain ⟨h1, h2, h3, _⟩ := id h
  have hkr : 0 ≤ kind ∧ kind < 256 := by rcases h3 with rfl | rfl <;> omega
  have hml := Zzm l
  unfold Zch
  rw [m1, Option.bind_some, Bool.not_true, cond_false, Zmq l (by omega), Option.bind_some]
  dsimp only
  rw [Zmp h h64, hb, Option.bind_some]
  dsimp only
  have w8 : ∀ x : Int, 0 ≤ x ∧ x < 256 → IntKind.wrap .u8 x = x := fun x hx => by rw [Zvf]; omega
  rw [Bool.not_true, cond_false, Zd, Zcb, Zo, w8 kind hkr, w8 code (by omega), w8 _ (by omega), w8 _ (by omega)]
  have r1 : roomS (ofBytes [kind, code, (l.length : Int), ((maskL l).length : Int)]) (ofBytes (maskL l)) = true := decide_eq_true (by rw [Zo, Zo]; simp; omega)
  rw [r1, cond_true, Zbd]
  have r2 : roomS (ofBytes ([kind, code, (l.length : Int), ((maskL l).length : Int)] ++ maskL l)) (ofBytes b) = true := decide_eq_true (by rw [Zo, Zo]; simp; omega)
  rw [r2, cond_true, Zbd, List.append_assoc]
  show (Zeo (ofBytes (blkT l kind code b))).bind _ = _
  rw [Zd7 _ (by rw [Zo]; unfold blkT; simp; omega), Option.bind_some, Zpc (Zzs h2 hkr (by omega) v1)]
theorem Zym1 {l : List Cell} {kind code : Int} (h : MayB l kind) (h64 : ∀ c ∈ l, in64 c.2.1) (hb : valB (restC l) kind code = none) : Zch l kind code = some (eB, 1) := by
  obtain ⟨m, m1, m2⟩ := Zkh l kind
  rw [m2.2 h] at m1
  have h2 := h.2.1
  unfold Zch
  rw [m1, Option.bind_some, Bool.not_true, cond_false, Zmq l (by omega), Option.bind_some]
  dsimp only
  rw [Zmp h h64, hb, Option.bind_some]
  rfl
theorem Zc91 {l : List Cell} {kind code : Int} (h : ¬ MayB l kind) : Zch l kind code = some (eB, 1) := by
  obtain ⟨m, m1, m2⟩ := Zkh l kind
  have : m = false := by
    cases m with
    | false => rfl
    | true => exact absurd (m2.1 rfl) h
  unfold Zch
  rw [m1, this]
  rfl
end Go.AM.Pure
end

section
/- BlockPuts and BlockBest. -/
namespace Go.AM.Pure
open Go.AM
theorem Zlz1 {l : List Cell} (hl : l.length ≤ 70) (h64 : ∀ c ∈ l, in64 c.2.1) (kind code : Int) :
    (Zqe l kind code = some (eB, 1) ∧ Zch l kind code = some (eB, 1)) ∨
    ∃ b, MayB l kind ∧ valB (restC l) kind code = some b ∧ Zqe l kind code = some (ofBytes (sealB (blkT l kind code b)), 0) ∧ Zch l kind code = some (ofBytes (sealB (blkT l kind code b)), 0) := by
  by_cases hm : MayB l kind
  · cases hv : valB (restC l) kind code with
    | none => exact .inl ⟨Zpz1 hm hv, Zym1 hm h64 hv⟩
    | some b => exact .inr ⟨b, hm, rfl, Zhf1 hm hv, Zz7 hm h64 hv⟩
  · exact .inl ⟨Znu (by omega) hm, Zc91 hm⟩
def Good (l : List Cell) (kind : Int) (p : Nat) (B : ByteArray) (w : Int) : Prop :=
  1 ≤ w ∧ ∃ vb, valB (restC l) kind w = some vb ∧ B = ofBytes (sealB (blkT l kind w vb)) ∧ B.size ≤ p
theorem Zum1 {l : List Cell} {kind : Int} (hl : l.length ≤ 70) (h64 : ∀ c ∈ l, in64 c.2.1) (p : Nat) : ∀ (d k n m : Nat) (B : ByteArray) (w : Int), k + d = 6 → d < n → d < m → Good l kind p B w →
    ∃ B' w', Zga.l0 (Zga.t1 fu) n l kind B w (k : Int) = some (B', w', 0) ∧ Zdc.l0 m l kind B w (k : Int) = some (B', w', 0) ∧ Good l kind p B' w' := by
  intro d
  induction d with
  | zero =>
    intro k n m B w hk hn hm hg
    obtain ⟨n, rfl⟩ : ∃ j, n = j + 1 := ⟨n - 1, by omega⟩
    obtain ⟨m, rfl⟩ : ∃ j, m = j + 1 := ⟨m - 1, by omega⟩
    refine ⟨B, w, ?_, ?_, hg⟩
    · show Zga.S0 Zga.S1 _ _ _ _ _ _ = _
      unfold Zga.S0
      rw [le_f (by omega), cond_false]
      unfold Zga.S1
      have := hg.1
      rw [eq_f (by omega), cond_false]
    · show Zdc.S0 _ _ _ _ _ _ = _
      unfold Zdc.S0
      rw [le_f (by omega), cond_false]
  | succ d ih =>
    intro k n m B w hk hn hm hg
    obtain ⟨n, rfl⟩ : ∃ j, n = j + 1 := ⟨n - 1, by omega⟩
    obtain ⟨m, rfl⟩ : ∃ j, m = j + 1 := ⟨m - 1, by omega⟩
    have hw := hg.1
    show ∃ B' w', Zga.S0 _ (Zga.l0 (Zga.t1 fu) n) _ _ _ _ _ = _ ∧ Zdc.S0 (Zdc.l0 m) _ _ _ _ _ = _ ∧ _
    unfold Zga.S0 Zdc.S0
    rw [le_t (by omega), cond_true, cond_true, eq_f (show ¬ w = 0 by omega), Zv (by omega)]
    rcases Zlz1 hl h64 kind (k : Int) with ⟨h1, h2⟩ | ⟨vb, hm', hv, h1, h2⟩
    · rw [h1, h2, Option.bind_some, Option.bind_some]
      dsimp only
      rw [eq_f (by omega), cond_false, cond_false]
      exact ih (k + 1) n m B w (by omega) (by omega) (by omega) hg
    · rw [h1, h2, Option.bind_some, Option.bind_some]
      dsimp only
      rw [eq_t rfl, cond_true, cond_false, cond_true, cond_false, Zcb, Zcb]
      by_cases hlt : ((ofBytes (sealB (blkT l kind (k : Int) vb))).size : Int) < (B.size : Int)
      · rw [lt_t hlt, cond_true, cond_true]
        refine ih (k + 1) n m _ _ (by omega) (by omega) (by omega) ⟨?_, vb, hv, rfl, ?_⟩
        · exact (Zxm hv).1
        · obtain ⟨_, _, _, _, h⟩ := hg
          omega
      · rw [lt_f (by omega), cond_false, cond_false]
        exact ih (k + 1) n m B w (by omega) (by omega) (by omega) hg
theorem Zvm1 {l : List Cell} {kind : Int} (h : ∀ k, Zqe l kind k = some (eB, 1)) : ∀ (d k n : Nat), k + d = 6 → d < n →
    Zga.l0 (Zga.t1 fu) n l kind eB 0 (k : Int) = some (eB, 0, 1) := by
  intro d
  induction d with
  | zero =>
    intro k n hk hn
    obtain ⟨n, rfl⟩ : ∃ j, n = j + 1 := ⟨n - 1, by omega⟩
    show Zga.S0 Zga.S1 _ _ _ _ _ _ = _
    unfold Zga.S0
    rw [le_f (by omega), cond_false]
    rfl
  | succ d ih =>
    intro k n hk hn
    obtain ⟨n, rfl⟩ : ∃ j, n = j + 1 := ⟨n - 1, by omega⟩
    show Zga.S0 _ (Zga.l0 (Zga.t1 fu) n) _ _ _ _ _ = _
    unfold Zga.S0
    rw [le_t (by omega), cond_true, h, Option.bind_some, Zv (by omega)]
    exact ih (k + 1) n (by omega) (by omega)
theorem Zwi1 (l : List Cell) (kind : Int) : ∃ b, valB l kind 1 = some b := by
  unfold valB
  split
  · exact ⟨_, rfl⟩
  · exact ⟨_, rfl⟩
theorem Zwm1 {l : List Cell} (hl : l.length ≤ 70) (h64 : ∀ c ∈ l, in64 c.2.1) (kind : Int) :
    (¬ MayB l kind ∧ Zga l kind = some (eB, 0, 1) ∧ Zdc l kind = some (eB, 0, 1)) ∨
    ∃ pb B w, MayB l kind ∧ valB (restC l) kind 1 = some pb ∧ Zga l kind = some (B, w, 0) ∧ Zdc l kind = some (B, w, 0) ∧ Good l kind (ofBytes (sealB (blkT l kind 1 pb))).size B w := by
  obtain ⟨m, m1, m2⟩ := Zkh l kind
  by_cases hm : MayB l kind
  · obtain ⟨pb, hpb⟩ := Zwi1 (restC l) kind
    have h1 := Zhf1 hm hpb
    have h2 := Zz7 hm h64 hpb
    obtain ⟨B, w, k1, k2, k3⟩ := Zum1 hl h64 (ofBytes (sealB (blkT l kind 1 pb))).size 4 2 18446744073709551615 18446744073709551615 (ofBytes (sealB (blkT l kind 1 pb))) 1 (by omega) (by omega) (by omega) ⟨by omega, pb, hpb, rfl, Nat.le_refl _⟩
    refine .inr ⟨pb, B, w, hm, hpb, ?_, ?_, k3⟩
    · show Zga.S0 (Zga.t1 fu) (Zga.l0 (Zga.t1 fu) 18446744073709551615) l kind eB 0 1 = _
      unfold Zga.S0
      rw [le_t (by omega), cond_true, h1, Option.bind_some]
      exact k1
    · show Zdc.S (Zdc.l0 fu) l kind = _
      unfold Zdc.S
      rw [m1, m2.2 hm, Option.bind_some, Bool.not_true, cond_false]
      show Zdc.S0 (Zdc.l0 18446744073709551615) l kind eB 0 1 = _
      unfold Zdc.S0
      rw [le_t (by omega), cond_true, h2, Option.bind_some]
      exact k2
  · refine .inl ⟨hm, Zvm1 (fun k => Znu (by omega) hm) 5 1 fu (by omega) (by unfold fu; omega), ?_⟩
    have : m = false := by
      cases m with
      | false => rfl
      | true => exact absurd (m2.1 rfl) hm
    show Zdc.S (Zdc.l0 fu) l kind = _
    unfold Zdc.S
    rw [m1, this]
    rfl
end Go.AM.Pure
end

section
/- The sum of bytes: whatever is turned within 32 bits in a row is seen. -/
namespace Go.AM.Pure
open Go.AM
theorem Zoo1 (a b : Nat) : stepN (a ^^^ b) = stepN a ^^^ stepN b := by
  unfold stepN
  have h1 : (a ^^^ b) / 2 = (a / 2) ^^^ (b / 2) := Nat.xor_div_two
  have h2 : (a ^^^ b) % 2 = 1 ↔ a % 2 ≠ b % 2 := by rw [Nat.xor_mod_two_eq_one]; omega
  rw [h1]
  rcases Nat.mod_two_eq_zero_or_one a with ha | ha <;> rcases Nat.mod_two_eq_zero_or_one b with hb | hb
  · rw [if_neg (by rw [h2]; omega), if_neg (by omega), if_neg (by omega)]; simp
  · rw [if_pos (by rw [h2]; omega), if_neg (by omega), if_pos hb, Nat.xor_zero, Nat.xor_assoc]
  · rw [if_pos (by rw [h2]; omega), if_pos ha, if_neg (by omega), Nat.xor_zero, Nat.xor_assoc, Nat.xor_assoc, Nat.xor_comm (b / 2)]
  · rw [if_neg (by rw [h2]; omega), if_pos ha, if_pos hb, Nat.xor_zero, Nat.xor_assoc, Nat.xor_comm 2197175160 (b / 2 ^^^ 2197175160), Nat.xor_assoc, Nat.xor_self, Nat.xor_zero]
theorem Zcl (n : Nat) (b : Bool) : stepR n b.toNat = stepN (n ^^^ b.toNat) := by
  rw [Ze5, show b.toNat / 2 = 0 by cases b <;> rfl, Nat.xor_zero]
theorem Zpo1 (n b : Nat) : stepR n b = stepR n (b.testBit 0).toNat := by
  unfold stepR
  rw [Nat.testBit_zero]
  rcases Nat.mod_two_eq_zero_or_one b with h | h <;> simp [h]
def rb (n : Nat) (l : List Bool) : Nat := l.foldl (fun n b => stepR n b.toNat) n
theorem Zyx (n : Nat) (b : Bool) (l : List Bool) : rb n (b :: l) = rb (stepR n b.toNat) l := rfl
theorem Zyq (n : Nat) (a b : List Bool) : rb n (a ++ b) = rb (rb n a) b := List.foldl_append ..
theorem rb_lt : ∀ (l : List Bool) {n : Nat}, n < 4294967296 → rb n l < 4294967296
  | [], _, h => h
  | _ :: l, _, h => rb_lt l (Zhm h)
theorem Zh9 : ∀ (a c : List Bool) (n m : Nat), a.length = c.length → rb n a ^^^ rb m c = rb (n ^^^ m) (List.zipWith xor a c)
  | [], [], _, _, _ => rfl
  | x :: a, y :: c, n, m, h => by
    rw [List.zipWith_cons_cons, Zyx, Zyx, Zyx, Zh9 a c _ _ (by simpa using h)]
    congr 1
    rw [Zcl, Zcl, Zcl, ← Zoo1]
    congr 1
    rw [show (xor x y).toNat = x.toNat ^^^ y.toNat by cases x <;> cases y <;> rfl, Nat.xor_assoc, Nat.xor_assoc, ← Nat.xor_assoc x.toNat, Nat.xor_comm x.toNat m, Nat.xor_assoc]
def nv : List Bool → Nat
  | [] => 0
  | b :: l => b.toNat + 2 * nv l
theorem nv_lt : ∀ l : List Bool, nv l < 2 ^ l.length
  | [] => by decide
  | b :: l => by
    have := nv_lt l
    rw [List.length_cons, Nat.pow_succ]
    show b.toNat + 2 * nv l < _
    have : b.toNat ≤ 1 := by cases b <;> decide
    omega
theorem Zqo1 : ∀ (l : List Bool) (i : Nat), (nv l).testBit i = l.getD i false
  | [], i => by simp [nv]
  | b :: l, 0 => by
    rw [Nat.testBit_zero]
    show decide ((b.toNat + 2 * nv l) % 2 = 1) = b
    rw [Nat.add_mul_mod_self_left]
    cases b <;> rfl
  | b :: l, i + 1 => by
    rw [Nat.testBit_succ]
    show ((b.toNat + 2 * nv l) / 2).testBit i = _
    rw [show (b.toNat + 2 * nv l) / 2 = nv l by cases b <;> simp <;> omega, Zqo1 l i]
    rfl
theorem Zwf1 : ∀ l : List Bool, nv l = 0 → ∀ x ∈ l, x = false
  | [], _, x, h => by cases h
  | b :: l, h, x, hx => by
    have h : b.toNat + 2 * nv l = 0 := h
    rcases List.mem_cons.1 hx with rfl | hx
    · cases x
      · rfl
      · simp at h
    · exact Zwf1 l (by omega) x hx
theorem Zv91 (n : Nat) (b : Bool) {m : Nat} (h : n ^^^ b.toNat = m) : n = m ^^^ b.toNat := by
  rw [← h, Nat.xor_assoc, Nat.xor_self, Nat.xor_zero]
theorem Zxf1 (m : Nat) (b : Bool) : (2 * m) ^^^ b.toNat = b.toNat + 2 * m := by
  apply Nat.eq_of_testBit_eq
  intro i
  rw [Nat.testBit_xor]
  cases i with
  | zero =>
    rw [Nat.testBit_zero, Nat.testBit_zero, Nat.testBit_zero, Nat.mul_mod_right, Nat.add_mul_mod_self_left]
    cases b <;> rfl
  | succ i =>
    rw [Nat.testBit_succ, Nat.testBit_succ, Nat.testBit_succ, show 2 * m / 2 = m by omega, show (b.toNat + 2 * m) / 2 = m by cases b <;> simp <;> omega, show b.toNat / 2 = 0 by cases b <;> rfl]
    simp
theorem Zhk1 (m : Nat) : stepN (2 * m) = m := by
  unfold stepN
  rw [if_neg (by omega), Nat.xor_zero]
  omega
theorem Zt5 {n : Nat} (h : n < 4294967296) (hl : stepN n < 2147483648) : n = 2 * stepN n := by
  unfold stepN at hl ⊢
  rcases Nat.mod_two_eq_zero_or_one n with h2 | h2
  · rw [if_neg (by omega), Nat.xor_zero]
    omega
  · exfalso
    rw [if_pos h2] at hl
    have h3 : (n / 2 ^^^ 2197175160).testBit 31 = true := by
      rw [Nat.testBit_xor, Nat.testBit_lt_two_pow (show n / 2 < 2 ^ 31 by omega)]
      decide +kernel
    have h4 := Nat.testBit_lt_two_pow (show (n / 2 ^^^ 2197175160) < 2 ^ 31 from hl)
    rw [h3] at h4
    cases h4
theorem Zro1 : ∀ (e : List Bool) (n : Nat), e.length ≤ 32 → n < 4294967296 → rb n e = 0 → n = nv e
  | [], n, _, _, h => h
  | b :: e, n, hl, hn, h => by
    have hl' : e.length ≤ 31 := by simpa using hl
    have hs : stepR n b.toNat < 4294967296 := Zhm hn
    have ih := Zro1 e (stepR n b.toNat) (by omega) hs h
    have hv : nv e < 2147483648 := Nat.lt_of_lt_of_le (nv_lt e) (Nat.pow_le_pow_right (by omega) hl')
    rw [Zcl] at ih
    have hx : n ^^^ b.toNat < 4294967296 := Nat.xor_lt_two_pow (n := 32) hn (by cases b <;> decide)
    have h1 := Zt5 hx (by rw [ih]; exact hv)
    rw [ih] at h1
    rw [Zv91 n b h1, Zxf1]
    rfl
theorem Zyf1 : ∀ (e : List Bool), rb (nv e) e = 0
  | [] => rfl
  | b :: e => by
    rw [Zyx, Zcl]
    show rb (stepN ((b.toNat + 2 * nv e) ^^^ b.toNat)) e = 0
    rw [← Zxf1, Nat.xor_assoc, Nat.xor_self, Nat.xor_zero, Zhk1]
    exact Zyf1 e
theorem Zzf1 : ∀ (z : List Bool), (∀ x ∈ z, x = false) → rb 0 z = 0
  | [], _ => rfl
  | b :: z, h => by
    have hb := h b (List.mem_cons_self ..)
    subst hb
    exact Zzf1 z fun x hx => h x (List.mem_cons_of_mem _ hx)
theorem Zag1 : ∀ (z : List Bool) (n : Nat), (∀ x ∈ z, x = false) → n < 4294967296 → rb n z = 0 → n = 0
  | [], n, _, _, h => h
  | b :: z, n, hz, hn, h => by
    have hb := hz b (List.mem_cons_self ..)
    subst hb
    have h1 := Zag1 z _ (fun x hx => hz x (List.mem_cons_of_mem _ hx)) (Zhm hn) h
    have h2 : stepN n = 0 := by
      have h3 := Zcl n false
      rw [show false.toNat = 0 from rfl, Nat.xor_zero] at h3
      rw [← h3]; exact h1
    have := Zt5 hn (by rw [h2]; omega)
    omega
theorem Zh01 {e : List Bool} {f : Nat} (hout : ∀ p x, e[p]? = some x → (p < f ∨ f + 32 ≤ p) → x = false) (h : rb 0 e = 0) : ∀ x ∈ e, x = false := by
  have he : e = e.take f ++ ((e.drop f).take 32 ++ (e.drop f).drop 32) := by rw [List.take_append_drop, List.take_append_drop]
  have h1 : ∀ x ∈ e.take f, x = false := fun x hx => by
    obtain ⟨p, hp, rfl⟩ := List.getElem_of_mem hx
    rw [List.length_take] at hp
    exact hout p _ (by rw [List.getElem_take]; exact List.getElem?_eq_getElem (by omega)) (by omega)
  have h3 : ∀ x ∈ (e.drop f).drop 32, x = false := fun x hx => by
    obtain ⟨p, hp, rfl⟩ := List.getElem_of_mem hx
    rw [List.length_drop, List.length_drop] at hp
    exact hout (f + (32 + p)) _ (by rw [List.getElem_drop, List.getElem_drop]; exact List.getElem?_eq_getElem (by omega)) (by omega)
  rw [he, Zyq, Zzf1 _ h1, Zyq] at h
  have h4 := Zag1 _ _ h3 (rb_lt _ (by omega)) h
  have h5 := Zro1 _ 0 (by rw [List.length_take]; omega) (by omega) h4
  have h2 := Zwf1 _ h5.symm
  intro x hx
  rw [he] at hx
  rcases List.mem_append.1 hx with hx | hx
  · exact h1 x hx
  rcases List.mem_append.1 hx with hx | hx
  · exact h2 x hx
  · exact h3 x hx
theorem Zu5 : ∀ (k n b : Nat), Znj k n b = rb n (wb (b : Int) k)
  | 0, _, _ => rfl
  | k + 1, n, b => by
    show Znj k (stepR n b) (b / 2) = _
    rw [Zu5 k, Zto (b : Int) 1 (k + 1) (by omega), Zyq, show k + 1 - 1 = k from rfl]
    congr 1
    · rw [Zpo1]
      show _ = stepR n (bit (b : Int) 0).toNat
      rw [Zyk]
theorem Zbg1 : ∀ (l : List Int) (n : Nat), (∀ x ∈ l, 0 ≤ x ∧ x < 256) → n < 4294967296 → l.foldl Zgo (n : Int) = (rb n (strm l 8) : Int)
  | [], _, _, _ => rfl
  | x :: l, n, h, hn => by
    obtain ⟨h0, h1⟩ := h x (List.mem_cons_self ..)
    obtain ⟨b, rfl⟩ : ∃ b : Nat, x = (b : Int) := ⟨x.toNat, by omega⟩
    rw [List.foldl_cons, Zg5 n b hn (by omega), Zbg1 l _ (fun y hy => h y (List.mem_cons_of_mem _ hy)) (Zhu 8 hn), Zu5]
    show _ = (rb n (wb (b : Int) 8 ++ strm l 8) : Int)
    rw [Zyq]
theorem Zi9 {l : List Int} (h : ∀ x ∈ l, 0 ≤ x ∧ x < 256) : crcOf 0 l = ((rb 4294967295 (strm l 8) ^^^ 4294967295 : Nat) : Int) := by
  have h1 := rb_lt (strm l 8) (n := 4294967295) (by omega)
  have hx := Nat.xor_lt_two_pow (n := 32) h1 (show 4294967295 < 2 ^ 32 by omega)
  unfold crcOf
  rw [show xorI .u32 4294967295 (IntKind.wrap .u32 0) = ((4294967295 : Nat) : Int) by decide +kernel, Zbg1 l _ h (by omega), show (4294967295 : Int) = ((4294967295 : Nat) : Int) from rfl, xor32 (by omega) h1, Nat.xor_comm]
  exact Zud (by omega)
theorem Zj9 (a b : List Int) (w : Nat) : strm (a ++ b) w = strm a w ++ strm b w := by unfold strm; rw [List.flatMap_append]
theorem Zzx (v : Nat) (k : Nat) (hk : k ≤ 32) : wb (IntKind.wrap .u8 (shrI .u32 (v : Int) (k : Int))) 8 = wb ((v : Int) / 2 ^ k) 8 := by
  have e : shrI .u32 (v : Int) (k : Int) = (v : Int) / 2 ^ k := by
    unfold shrI
    rw [show min (Int.toNat (k : Int)) IntKind.u32.bits = k from Nat.min_eq_left hk, Int.fdiv_eq_ediv_of_nonneg _ (Int.le_of_lt (Zgc k))]
  rw [e, Zvf]
  unfold wb
  apply List.map_congr_left
  intro i hi
  have h8 : i < 8 := List.mem_range.1 hi
  have := Zr8 ((v : Int) / 2 ^ k) 8 i (Int.ediv_nonneg (by omega) (Int.le_of_lt (Zgc k)))
  rw [show (2 : Int) ^ 8 = 256 from rfl] at this
  rw [this]
  simp [h8]
theorem Zk9 (v : Nat) (hv : v < 4294967296) {d : List Int} (h : crcOf 0 d = (v : Int)) : strm (sumB d) 8 = wb (v : Int) 32 := by
  have e0 : IntKind.wrap .u32 (crcOf 0 d) = (v : Int) := by rw [h, Zkq]; omega
  have h0 := Zzx v 0 (by omega)
  have h8 := Zzx v 8 (by omega)
  have h16 := Zzx v 16 (by omega)
  have h24 := Zzx v 24 (by omega)
  simp only [show ((8 : Nat) : Int) = 8 from rfl, show ((16 : Nat) : Int) = 16 from rfl, show ((24 : Nat) : Int) = 24 from rfl, show ((0 : Nat) : Int) = 0 from rfl] at h0 h8 h16 h24
  unfold strm sumB
  rw [e0]
  simp only [List.flatMap_cons, List.flatMap_nil, List.append_nil]
  rw [h0, h8, h16, h24, Zto (v : Int) 8 32 (by omega), Zto ((v : Int) / 2 ^ 8) 8 (32 - 8) (by omega), Zto ((v : Int) / 2 ^ 8 / 2 ^ 8) 8 (32 - 8 - 8) (by omega)]
  have e1 : (v : Int) / 2 ^ 8 / 2 ^ 8 = (v : Int) / 2 ^ 16 := by omega
  have e2 : (v : Int) / 2 ^ 16 / 2 ^ 8 = (v : Int) / 2 ^ 24 := by omega
  rw [e1, e2, Int.pow_zero, Int.ediv_one]
theorem nv_wb (v w k : Nat) (hv : v < 2 ^ k) (hw : w < 2 ^ k) : nv (List.zipWith xor (wb (v : Int) k) (wb (w : Int) k)) = v ^^^ w := by
  apply Nat.eq_of_testBit_eq
  intro i
  rw [Zqo1, Nat.testBit_xor, List.getD_eq_getElem?_getD]
  by_cases hi : i < k
  · unfold wb
    rw [List.zipWith_map, List.getElem?_zipWith, List.getElem?_range hi]
    simp [Zyk]
  · rw [List.getElem?_eq_none (by rw [List.length_zipWith, Zte, Zte]; omega), Nat.testBit_lt_two_pow (Nat.lt_of_lt_of_le hv (Nat.pow_le_pow_right (by omega) (by omega))), Nat.testBit_lt_two_pow (Nat.lt_of_lt_of_le hw (Nat.pow_le_pow_right (by omega) (by omega)))]
    rfl
theorem Zi01 {a c : List Int} (ha : ∀ x ∈ a, 0 ≤ x ∧ x < 256) (hc : ∀ x ∈ c, 0 ≤ x ∧ x < 256) : rb 4294967295 (strm (sealB a) 8) = rb 4294967295 (strm (sealB c) 8) := by
  have hn1 := rb_lt (strm a 8) (n := 4294967295) (by omega)
  have hn2 := rb_lt (strm c 8) (n := 4294967295) (by omega)
  have hv1 := Nat.xor_lt_two_pow (n := 32) hn1 (show 4294967295 < 2 ^ 32 by omega)
  have hv2 := Nat.xor_lt_two_pow (n := 32) hn2 (show 4294967295 < 2 ^ 32 by omega)
  have s1 := Zk9 _ hv1 (Zi9 ha)
  have s2 := Zk9 _ hv2 (Zi9 hc)
  unfold sealB
  rw [Zj9, Zj9, Zyq, Zyq, s1, s2]
  generalize rb 4294967295 (strm a 8) = n at *
  generalize rb 4294967295 (strm c 8) = m at *
  have h := Zh9 (wb ((n ^^^ 4294967295 : Nat) : Int) 32) (wb ((m ^^^ 4294967295 : Nat) : Int) 32) n m (by rw [Zte, Zte])
  have hnv := nv_wb _ _ 32 hv1 hv2
  rw [show n ^^^ 4294967295 ^^^ (m ^^^ 4294967295) = n ^^^ m by
    rw [Nat.xor_assoc, Nat.xor_comm 4294967295, Nat.xor_assoc, Nat.xor_self, Nat.xor_zero]] at hnv
  rw [← hnv, Zyf1] at h
  apply Nat.eq_of_testBit_eq
  intro i
  have h4 := congrArg (fun z : Nat => z.testBit i) h
  simp only [Nat.testBit_xor, Nat.zero_testBit] at h4
  revert h4
  cases (rb n (wb ((n ^^^ 4294967295 : Nat) : Int) 32)).testBit i <;> cases (rb m (wb ((m ^^^ 4294967295 : Nat) : Int) 32)).testBit i <;> decide
theorem Zl9 : ∀ (a c : List Int), (∀ x ∈ a, 0 ≤ x ∧ x < 256) → (∀ x ∈ c, 0 ≤ x ∧ x < 256) → a.length = c.length → strm a 8 = strm c 8 → a = c
  | [], [], _, _, _, _ => rfl
  | x :: a, y :: c, ha, hc, hl, h => by
    have h : wb x 8 ++ strm a 8 = wb y 8 ++ strm c 8 := h
    obtain ⟨h1, h2⟩ := List.append_inj h (by rw [Zte, Zte])
    obtain ⟨x0, x1⟩ := ha x (List.mem_cons_self ..)
    obtain ⟨y0, y1⟩ := hc y (List.mem_cons_self ..)
    have e1 := Zkm x 8
    have e2 := Zkm y 8
    rw [h1, e2] at e1
    rw [Zl9 a c (fun z hz => ha z (List.mem_cons_of_mem _ hz)) (fun z hz => hc z (List.mem_cons_of_mem _ hz)) (by simpa using hl) h2]
    congr 1
    omega
theorem Zso1 {a c : List Int} (ha : ∀ x ∈ a, 0 ≤ x ∧ x < 256) (hc : ∀ x ∈ c, 0 ≤ x ∧ x < 256) (hl : a.length = c.length) (f : Nat)
    (h : ∀ p, (p < f ∨ f + 32 ≤ p) → (strm (sealB a) 8)[p]? = (strm (sealB c) 8)[p]?) : sealB a = sealB c := by
  have hll : (strm (sealB a) 8).length = (strm (sealB c) 8).length := by rw [Zlg, Zlg, Zwk, Zwk, hl]
  have h1 := Zh9 (strm (sealB a) 8) (strm (sealB c) 8) 4294967295 4294967295 hll
  rw [Zi01 ha hc, Nat.xor_self, Nat.xor_self] at h1
  have h2 := Zh01 (f := f) (fun p x hp ho => by
    rw [List.getElem?_zipWith, h p ho] at hp
    cases hq : (strm (sealB c) 8)[p]? with
    | none => rw [hq] at hp; cases hp
    | some y =>
      rw [hq] at hp
      cases y <;> cases hp <;> rfl) h1.symm
  refine Zl9 _ _ (Zoi ha) (Zoi hc) (by rw [Zwk, Zwk, hl]) (List.ext_getElem hll fun i h1 h3 => ?_)
  have h4 := h2 ((List.zipWith xor (strm (sealB a) 8) (strm (sealB c) 8))[i]'(by rw [List.length_zipWith]; omega)) (List.getElem_mem _)
  rw [List.getElem_zipWith] at h4
  revert h4
  cases (strm (sealB a) 8)[i] <;> cases (strm (sealB c) 8)[i] <;> decide
end Go.AM.Pure
end

section
/- BlockSpoilt. -/
namespace Go.AM.Pure
open Go.AM
theorem Zkz1 : ∀ (x : Fin 256) (m : Fin 8), 0 ≤ xorI .u8 (x.val : Int) (shlI .u8 1 (m.val : Int)) ∧ xorI .u8 (x.val : Int) (shlI .u8 1 (m.val : Int)) < 256 ∧
    ∀ j : Fin 8, j ≠ m → bit (xorI .u8 (x.val : Int) (shlI .u8 1 (m.val : Int))) j.val = bit (x.val : Int) j.val := by decide +kernel
theorem Zy81 {t : List Int} (hr : ∀ x ∈ t, 0 ≤ x ∧ x < 256) (h4 : 4 ≤ t.length) (hl : t.length < 1000000000) (h : sealB (t.take (t.length - 4)) ≠ t) : Zsh (ofBytes t) = some (eB, 5) := by
  have hsz := Zo t
  have htb := Zpc hr
  have e4 : ((t.length : Nat) : Int) - 4 = ((t.length - 4 : Nat) : Int) := by omega
  have hrt : ∀ x ∈ t.take (t.length - 4), 0 ≤ x ∧ x < 256 := fun x hx => hr x (List.mem_of_mem_take hx)
  unfold Zsh
  rw [Zcb, hsz, Zdd (by omega), lt_f (by omega), cond_false, Zmc (by omega), cond_true, e4, Zrp, htb, Zxn _ (by rw [Zo, List.length_take]; omega), Option.bind_some, Zpc hrt, eqS_f fun he => h (Zbq (Zoi hrt) hr he)]
  rfl
theorem Zz81 {s : ByteArray} (h : Zsh s = some (eB, 5)) : Zth s = some ([], 5) ∧ ∃ y, Zuh s = some (y, 5) := by
  have hr : Ztf s = some (((0, 0, 0, 0), eB, eB, []), false) := by
    unfold Ztf
    rw [h]
    rfl
  unfold Zth Zuh
  rw [hr]
  exact ⟨rfl, _, rfl⟩
def Zz0 (a t : List Int) (f n : Nat) : Prop := t.length = a.length ∧ (∀ x ∈ t, 0 ≤ x ∧ x < 256) ∧ ∀ p, (p < f ∨ f + n ≤ p) → (strm t 8)[p]? = (strm a 8)[p]?
theorem Zff1 {t : List Int} {p : Nat} (h : p / 8 < t.length) : (strm t 8)[p]? = some (bit t[p / 8] (p % 8)) := by
  have := Zh0 (w := 8) t (p / 8) (p % 8) h (by omega)
  rw [show p / 8 * 8 + p % 8 = p by omega] at this
  exact this
theorem Za91 {a t : List Int} {f n : Nat} (h : Zz0 a t f n) {k : Nat} (hk : k / 8 < t.length) (hkn : k = f + n) :
    Zz0 a (t.set (k / 8) (xorI .u8 (t.getD (k / 8) 0) (shlI .u8 1 ((k % 8 : Nat) : Int)))) f (n + 1) := by
  obtain ⟨h1, h2, h3⟩ := h
  have hx := h2 t[k / 8] (List.getElem_mem hk)
  have hg : t.getD (k / 8) 0 = t[k / 8] := by rw [List.getD_eq_getElem?_getD, List.getElem?_eq_getElem hk]; rfl
  obtain ⟨b, hb⟩ : ∃ b : Fin 256, t[k / 8] = (b.val : Int) := ⟨⟨t[k / 8].toNat, by omega⟩, by simp; omega⟩
  have hf := Zkz1 b ⟨k % 8, by omega⟩
  simp only [] at hf
  rw [hg, hb]
  refine ⟨by rw [List.length_set]; exact h1, fun x hxm => ?_, fun p hp => ?_⟩
  · rcases List.mem_or_eq_of_mem_set hxm with hxm | rfl
    · exact h2 x hxm
    · exact ⟨hf.1, hf.2.1⟩
  · rw [← h3 p (by omega)]
    by_cases hpl : p / 8 < t.length
    · rw [Zff1 hpl, Zff1 (by rw [List.length_set]; exact hpl), List.getElem_set]
      by_cases he : k / 8 = p / 8
      · rw [if_pos he]
        have hm := hf.2.2 ⟨p % 8, by omega⟩ (fun e => by have e := congrArg Fin.val e; simp only [] at e; omega)
        simp only [] at hm
        rw [hm]
        have e2 : t[p / 8] = (b.val : Int) := by rw [← hb]; congr 1; exact he.symm
        rw [e2]
      · rw [if_neg he]
    · rw [List.getElem?_eq_none (by rw [Zlg, List.length_set]; omega), List.getElem?_eq_none (by rw [Zlg]; omega)]
theorem Zvi1 {a : List Int} (hN : a.length < 100000) {o : ByteArray → List Int → Option Bool} (v : Int) (B : ByteArray) {f : Nat} (hf : f < 8 * a.length) (ho : ∀ t, Zz0 a t f 32 → o B t = some true) : ∀ (d i n : Nat) (t : List Int), d = 32 - i → i ≤ 32 → d < n → Zz0 a t f i →
    Zn.l2 o n v B (f : Int) (i : Int) t = some true := by
  intro d
  induction d with
  | zero =>
    intro i n t hd hi hn h
    obtain ⟨n, rfl⟩ : ∃ j, n = j + 1 := ⟨n - 1, by omega⟩
    have : i = 32 := by omega
    subst this
    show Zn.S2 _ _ _ _ _ _ _ = _
    unfold Zn.S2
    rw [lt_f (by omega), cond_false]
    exact ho t h
  | succ d ih =>
    intro i n t hd hi hn h
    obtain ⟨n, rfl⟩ : ∃ j, n = j + 1 := ⟨n - 1, by omega⟩
    have hl := h.1
    have ek : (f : Int) + (i : Int) = ((f + i : Nat) : Int) := by omega
    show Zn.S2 o (Zn.l2 o n) _ _ _ _ _ = _
    unfold Zn.S2
    rw [lt_t (by omega), cond_true, Zd, Zxj (by omega), Zv (by omega), ek]
    by_cases hlt : ((f + i : Nat) : Int) < 8 * (t.length : Int)
    · rw [lt_t hlt, cond_true, le_t (by omega), cond_true, shr3, and7 (by omega), Zt (by omega), cond_true, le_t (by omega), cond_true, cond_true, Zv (by omega), Int.toNat_natCast]
      cases eqI (andI .i64 (shrI .i64 v (i : Int)) 1) 1 with
      | true => exact ih (i + 1) n _ (by omega) (by omega) (by omega) (Za91 h (by omega) rfl)
      | false => exact ih (i + 1) n t (by omega) (by omega) (by omega) ⟨h.1, h.2.1, fun p hp => h.2.2 p (by omega)⟩
    · rw [lt_f (by omega), cond_false]
      exact ho t ⟨h.1, h.2.1, fun p hp => h.2.2 p (by omega)⟩
theorem and16 (x : Int) : 0 ≤ andI .i64 x 65535 := by
  unfold andI
  have h : (BitVec.ofInt 64 x &&& BitVec.ofInt 64 65535).toNat ≤ 65535 := by
    rw [BitVec.toNat_and]
    exact Nat.and_le_right
  show 0 ≤ IntKind.wrap .i64 ((BitVec.ofInt 64 x &&& BitVec.ofInt 64 65535).toNat : Int)
  rw [Zud (by omega)]
  omega
theorem Za1 {l : List Cell} {kind : Int} (hm : MayB l kind) (h64 : ∀ c ∈ l, in64 c.2.1) (n : Nat) (hn : 40 < n) (xat xby : Int) :
    Zn.S1 (Zn.l2 (Zn.t3 n) n) l xat xby kind = some true := by
  obtain ⟨n, rfl⟩ : ∃ j, n = j + 1 := ⟨n - 1, by omega⟩
  have hl := hm.2.1
  rcases Zwm1 (by omega) h64 kind with ⟨h, _⟩ | ⟨pb, B, w, _, _, h1, _, _, vb, hv, rfl, _⟩
  · exact absurd hm h
  obtain ⟨v1, v2⟩ := Zys hm hv
  have hc := Zxm hv
  have hk := hm.2.2.1
  have hrng : ∀ x ∈ blkT l kind w vb, 0 ≤ x ∧ x < 256 := Zzs hl (by omega) (by omega) v1
  have hml := Zzm l
  have hblen : 4 ≤ (blkT l kind w vb).length ∧ (blkT l kind w vb).length < 20000 := by
    unfold blkT
    rw [List.length_append, List.length_append]
    simp only [List.length_cons, List.length_nil]
    omega
  have hread := Zqz1 hm h64 hv
  generalize blkT l kind w vb = dat at *
  have hsl := Zwk dat
  have htb := Zpc (Zoi hrng)
  have hsz := Zo (sealB dat)
  unfold Zn.S1
  rw [h1, Option.bind_some]
  dsimp only
  rw [ne_f rfl, cond_false, Zcb, hsz, lt_f (by omega), cond_false, Zea (by omega), cond_true, htb, Zd, Zxj (by omega), ne_t (by omega), cond_true]
  have ha := and16 xat
  generalize andI .i64 xat 65535 = q at ha
  have hr0 : 0 ≤ remI q (8 * ((sealB dat).length : Int)) := Int.tmod_nonneg _ ha
  have hr1 : remI q (8 * ((sealB dat).length : Int)) < 8 * ((sealB dat).length : Int) := Int.tmod_lt_of_pos _ (by omega)
  obtain ⟨f, hf⟩ : ∃ f : Nat, remI q (8 * ((sealB dat).length : Int)) = (f : Int) := ⟨_, (Int.toNat_of_nonneg hr0).symm⟩
  rw [hf] at hr1 ⊢
  refine Zvi1 (a := sealB dat) (by omega) xby _ (by omega) (fun t ht => ?_) 32 0 (n + 1) _ rfl (by omega) (by omega) ⟨rfl, Zoi hrng, fun _ _ => rfl⟩
  obtain ⟨t1, t2, t3⟩ := ht
  show Zn.S3 _ _ = _
  unfold Zn.S3
  by_cases hs : t = sealB dat
  · subst hs
    obtain ⟨k1, k2, _⟩ := Zi8 hread
    rw [k1, k2, Option.bind_some, Option.bind_some, eqS_t rfl, Zy3]
    rfl
  · have hbad : sealB (t.take (t.length - 4)) ≠ t := fun e => by
      have hrt : ∀ x ∈ t.take (t.length - 4), 0 ≤ x ∧ x < 256 := fun x hx => t2 x (List.mem_of_mem_take hx)
      have := Zso1 hrt hrng (by rw [List.length_take]; omega) f (by rw [e]; exact t3)
      rw [e] at this
      exact hs this
    obtain ⟨k1, y, k2⟩ := Zz81 (Zy81 t2 (by omega) (by omega) hbad)
    rw [k1, k2, Option.bind_some, Option.bind_some, eqS_f fun e => hs (Zbq t2 (Zoi hrng) e), Zy3]
    rfl
theorem Zb1 (l : List Cell) (xat xby : Int) (h64 : ∀ c ∈ l, in64 c.2.1) : Zn l xat xby = some true := by
  obtain ⟨m1, e1, i1⟩ := Zkh l 1
  obtain ⟨m2, e2, i2⟩ := Zkh l 2
  show Zn.S (Zn.t0 (18446744073709551612 + 1 + 1 + 1 + 1)) l xat xby = _
  have go : m1 = true ∨ m2 = true → Zn.t0 (18446744073709551612 + 1 + 1 + 1 + 1) l xat xby = some true := fun hor => by
    show Zn.S0 (Zn.t1 (18446744073709551612 + 1 + 1 + 1)) l xat xby = _
    unfold Zn.S0
    rw [e1, Option.bind_some]
    cases m1 with
    | true => exact Za1 (i1.1 rfl) h64 (18446744073709551612 + 1 + 1) (by omega) xat xby
    | false =>
      rcases hor with h | h
      · cases h
      · exact Za1 (i2.1 h) h64 (18446744073709551612 + 1 + 1) (by omega) xat xby
  unfold Zn.S
  rw [e1, Option.bind_some]
  cases m1 with
  | true => exact go (.inl rfl)
  | false =>
    rw [Bool.not_false, cond_true, e2, Option.bind_some]
    cases m2 with
    | true => exact go (.inr rfl)
    | false => rw [Bool.not_false, cond_true, Zy3]; rfl
end Go.AM.Pure
end
