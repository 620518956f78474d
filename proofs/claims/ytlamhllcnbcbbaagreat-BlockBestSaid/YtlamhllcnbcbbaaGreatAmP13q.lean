import Derived.Test.YtlamhllcnbcbbaaGreatAmP13n
section
/- The document's plain numbers and texts, runs and frames: the same bytes. -/
namespace Go.AM.Pure
open Go.AM
theorem Zar1 (a : Int) : andI .i64 a 255 = a % 256 := by
  unfold andI
  have h : (BitVec.ofInt 64 a &&& BitVec.ofInt 64 255).toNat = (BitVec.ofInt 64 a).toNat % 2 ^ 8 := by
    rw [BitVec.toNat_and, show (BitVec.ofInt 64 255).toNat = 2 ^ 8 - 1 from rfl, Nat.and_two_pow_sub_one_eq_mod]
  show IntKind.wrap .i64 ((BitVec.ofInt 64 a &&& BitVec.ofInt 64 255).toNat : Int) = _
  have h2 := Zd8 a
  rw [h, Int.natCast_emod, h2, show ((2 ^ 8 : Nat) : Int) = 256 from rfl, Zge (by omega)]
  omega
theorem Zu2 (l : List Int) {o0 : List Int → List Int → Int → Option ByteArray} {i : Nat} (hi : i < l.length) (hil : i < 1000000) : ∀ (d k n : Nat) (b : List Int), k + d = 8 → d < n → b.length < 100000000000 →
    Zga.l1 o0 n l (b ++ chop k (wb l[i] 64)) (i : Int) (k : Int) = o0 l (b ++ chop 8 (wb l[i] 64)) ((i : Int) + 1)
  | 0, k, n, b, h, hn, hb => by
    obtain ⟨n, rfl⟩ : ∃ j, n = j + 1 := ⟨n - 1, by omega⟩
    have : k = 8 := by omega
    subst this
    show Zga.S1 _ _ _ _ _ _ = _
    unfold Zga.S1
    rw [lt_f (by omega), cond_false, Zu (a := (i : Int)) (by omega)]
  | d + 1, k, n, b, h, hn, hb => by
    obtain ⟨n, rfl⟩ : ∃ j, n = j + 1 := ⟨n - 1, by omega⟩
    show Zga.S1 o0 (Zga.l1 o0 n) _ _ _ _ = _
    unfold Zga.S1
    have hm : mulI .i64 8 (k : Int) = ((8 * k : Nat) : Int) := by rw [Zjn (by omega)]; omega
    have hbyte : IntKind.wrap .u8 (andI .i64 (shrI .i64 l[i] ((8 * k : Nat) : Int)) 255) = l[i] / 2 ^ (8 * k) % 256 := by
      rw [Zmi _ _ (by omega), Zar1, Zxf]; omega
    rw [lt_t (by omega), cond_true, Zr (by rw [Zi]; omega), cond_true, hm, le_t (by omega), cond_true, Zfa (by rw [List.length_append, Zkf]; omega), cond_true, Zaa hi, hbyte, Zu (by omega), List.append_assoc, ← Zqi1 l[i] k (by omega)]
    exact Zu2 l hi hil d (k + 1) n b (by omega) (by omega) hb
theorem Zjm1 (l : List Int) (hl : l.length ≤ 65536) : ∀ (d i m : Nat), d = l.length - i → i ≤ l.length → 20 < m →
    Zga.l0 (m + d) l (chop (8 * i) (strm (l.take i) 64)) (i : Int) = some (ofBytes (packB l 64)) := by
  intro d
  induction d with
  | zero =>
    intro i m hd hi hm
    have : i = l.length := by omega
    subst this
    obtain ⟨m, rfl⟩ : ∃ j, m = j + 1 := ⟨m - 1, by omega⟩
    show Zga.S0 _ _ _ _ = _
    unfold Zga.S0
    rw [Zi, lt_f (by omega), cond_false, List.take_length]
    unfold packB
    rw [show (l.length * 64 + 7) / 8 = 8 * l.length by omega]
  | succ d ih =>
    intro i m hd hi hm
    have hlt : i < l.length := by omega
    show Zga.S0 (Zga.l1 (Zga.l0 (m + d)) (m + d)) _ _ _ = _
    unfold Zga.S0
    rw [Zi, lt_t (by omega), cond_true]
    have h1 := Zu2 (o0 := Zga.l0 (m + d)) l hlt (by omega) 8 0 (m + d) (chop (8 * i) (strm (l.take i) 64)) rfl (by omega) (by rw [Zkf]; omega)
    rw [show chop 0 (wb l[i] 64) = [] from rfl, List.append_nil] at h1
    rw [show (0 : Int) = ((0 : Nat) : Int) from rfl, h1]
    have := ih (i + 1) m (by omega) (by omega) hm
    rw [take_one hlt, Zvp, show 8 * (i + 1) = 8 * i + 8 by omega, Zsk _ 8 _ _ (by rw [Zrk, List.length_take]; omega)] at this
    exact this
theorem Zu1 (l : List Int) (hl : l.length ≤ 65536) : Zga l = some (ofBytes (packB l 64)) := by
  have := Zjm1 l hl l.length 0 (fu - l.length) (by omega) (by omega) (by unfold fu; omega)
  rw [show fu - l.length + l.length = fu by unfold fu; omega] at this
  exact this
theorem Zkm1 (o : List ByteArray) (hl : o.length ≤ 65536) (hs : Short o) : ∀ (d i n : Nat), d = o.length - i → i ≤ o.length → d < n →
    Zmb.l0 n o (Zka (o.take i)) (i : Int) = some (ofBytes (Zka o), 0) := by
  intro d
  induction d with
  | zero =>
    intro i n hd hi hn
    have : i = o.length := by omega
    subst this
    obtain ⟨n, rfl⟩ : ∃ k, n = k + 1 := ⟨n - 1, by omega⟩
    show Zmb.S0 _ _ _ _ = _
    unfold Zmb.S0
    rw [Zi, lt_f (by omega), cond_false, List.take_length]
  | succ d ih =>
    intro i n hd hi hn
    obtain ⟨n, rfl⟩ : ∃ k, n = k + 1 := ⟨n - 1, by omega⟩
    have hlt : i < o.length := by omega
    have h1 := Zue (o.take i) (hs.take i)
    rw [List.length_take] at h1
    have h2 := hs o[i] (List.getElem_mem hlt)
    show Zmb.S0 (Zmb.l0 n) _ _ _ = _
    unfold Zmb.S0
    have := ih (i + 1) n (by omega) (by omega) (by omega)
    rw [take_one hlt, Zsm, show Zka (o.take i) ++ tB o[i] = Zka (o.take i) ++ [(o[i].size : Int)] ++ Zl o[i] by unfold tB; simp] at this
    rw [Zi, lt_t (by omega), cond_true, Zr (by omega), cond_true, Zaa hlt, Zfb, lt_f (by omega), cond_false, cond_true, Zfa (by omega), cond_true, cond_true, Zfa (by rw [List.length_append, List.length_singleton]; omega), cond_true, Zu (by omega), Zxf, show (o[i].size : Int) % 256 = (o[i].size : Int) by omega]
    exact this
theorem Zlj (o : List ByteArray) (hl : o.length ≤ 65536) (hs : Short o) : Zmb o = some (ofBytes (Zka o), 0) :=
  Zkm1 o hl hs o.length 0 fu (by omega) (by omega) (by unfold fu; omega)
theorem Zki1 {x : Int} : ∀ (c d : Nat) (A B : List Int), List.replicate c x ++ A = List.replicate d x ++ B → A.head? ≠ some x → B.head? ≠ some x → c = d ∧ A = B
  | 0, 0, A, B, h, _, _ => ⟨rfl, h⟩
  | 0, d + 1, A, B, h, ha, _ => by
    exfalso; apply ha
    rw [show A = _ from h]; rfl
  | c + 1, 0, A, B, h, _, hb => by
    exfalso; apply hb
    rw [show B = _ from h.symm]; rfl
  | c + 1, d + 1, A, B, h, ha, hb => by
    rw [List.replicate_succ, List.replicate_succ, List.cons_append, List.cons_append] at h
    obtain ⟨h1, h2⟩ := Zki1 c d A B (List.cons.inj h).2 ha hb
    exact ⟨by omega, h2⟩
theorem Zt7 {o : List Run} {n : Nat} {x : Int} (h : okR n (some x) o) : (flatR o).head? ≠ some x := by
  cases o with
  | nil => intro h; cases h
  | cons r o =>
    obtain ⟨_, h1, h2, _⟩ := h
    rw [Zbg, show r.2.2.toNat = (r.2.2.toNat - 1) + 1 by omega, List.replicate_succ]
    intro h
    exact h2 (by simpa using h.symm)
theorem Zoa1 : ∀ {o q : List Run} {n : Nat} {p : Option Int}, okR n p o → okR n p q → flatR o = flatR q → o = q
  | [], [], _, _, _, _, _ => rfl
  | [], r :: q, _, _, _, h, e => by
    have h1 := h.2.1
    rw [Zbg, show r.2.2.toNat = (r.2.2.toNat - 1) + 1 by omega, List.replicate_succ] at e
    cases e
  | r :: q, [], _, _, h, _, e => by
    have h1 := h.2.1
    rw [Zbg, show r.2.2.toNat = (r.2.2.toNat - 1) + 1 by omega, List.replicate_succ] at e
    cases e
  | (x, a, c) :: o, (y, b, d) :: q, n, p, h, k, e => by
    obtain ⟨h1, h2, _, h4⟩ := h
    obtain ⟨k1, k2, _, k4⟩ := k
    dsimp only at h1 h2 h4 k1 k2 k4
    rw [Zbg, Zbg] at e
    dsimp only at e
    have hxy : x = y := by
      rw [show c.toNat = (c.toNat - 1) + 1 by omega, show d.toNat = (d.toNat - 1) + 1 by omega, List.replicate_succ, List.replicate_succ] at e
      exact (List.cons.inj e).1
    subst hxy
    obtain ⟨e1, e2⟩ := Zki1 _ _ _ _ e (Zt7 h4) (Zt7 k4)
    rw [e1] at h4
    rw [Zoa1 h4 k4 e2, show c = d by omega, h1, k1]
theorem Zbr1 (l : List Int) (hl : l.length ≤ 65536) : ∀ (d i n : Nat) (out : List Run), d = l.length - i → i ≤ l.length → d < n → flatR out = l.take i → okR 0 none out → lastR none out = (l.take i).getLast? →
    ∃ o, Zsd.l0 n l (i : Int) out = some o ∧ flatR o = l ∧ okR 0 none o := by
  intro d
  induction d with
  | zero =>
    intro i n out hd hi hn h1 h2 _
    have : i = l.length := by omega
    subst this
    obtain ⟨n, rfl⟩ : ∃ k, n = k + 1 := ⟨n - 1, by omega⟩
    rw [List.take_length] at h1
    refine ⟨out, ?_, h1, h2⟩
    show Zsd.S0 _ _ _ _ = _
    unfold Zsd.S0
    rw [Zi, lt_f (by omega), cond_false]
  | succ d ih =>
    intro i n out hd hi hn h1 h2 h3
    obtain ⟨n, rfl⟩ : ∃ k, n = k + 1 := ⟨n - 1, by omega⟩
    have hlt : i < l.length := by omega
    have hfl : (flatR out).length = i := by rw [h1, List.length_take]; omega
    have hol := Zef out 0 none h2
    have hsn : (l.take (i + 1)).getLast? = some l[i] := by rw [take_one hlt, List.getLast?_concat]
    have hnew : (lastR none out ≠ some l[i]) → ∃ o, Zsd.l0 n l ((i + 1 : Nat) : Int) (out ++ [(l[i], (i : Int), 1)]) = some o ∧ flatR o = l ∧ okR 0 none o := fun hne =>
      ih (i + 1) n _ (by omega) (by omega) (by omega) (by rw [Ztf, Zgg, h1, take_one hlt]; rfl)
        ((Zvk _ _ _ _).2 ⟨h2, by rw [hfl]; exact ⟨by show (i : Int) = _; omega, by show (1 : Int) ≤ 1; omega, hne, trivial⟩⟩) (by rw [Zwg, hsn])
    show ∃ o, Zsd.S0 (Zsd.l0 n) _ _ _ = _ ∧ _
    unfold Zsd.S0
    rw [Zi, lt_t (by omega), cond_true, le_t (by omega), cond_true, Zr (i := (i : Int)) (by omega), cond_true, cond_true, Zaa hlt, Zu (by omega), Zfa (by omega), cond_true]
    by_cases hi0 : i = 0
    · subst hi0
      rw [lt_f (by omega), cond_false]
      exact hnew (by rw [h3, List.take_zero]; simp)
    · rw [lt_t (by omega), cond_true, Zmd (a := (i : Int)) (by omega), Zr (i := (i : Int) - 1) (by omega), cond_true]
      have hlt1 : i - 1 < l.length := by omega
      have hlast : (l.take i).getLast? = some l[i - 1] := by
        have : l.take i = l.take (i - 1) ++ [l[i - 1]] := by
          have := take_one hlt1
          rwa [show i - 1 + 1 = i by omega] at this
        rw [this, List.getLast?_concat]
      rw [hlast] at h3
      rw [show (i : Int) - 1 = ((i - 1 : Nat) : Int) by omega, Zaa hlt1]
      by_cases hq : l[i] = l[i - 1]
      · rw [eq_t hq, cond_true]
        rcases List.eq_nil_or_concat out with h0 | ⟨o, r, h0⟩
        · subst h0; cases h3
        · rw [List.concat_eq_append] at h0
          subst h0
          rw [Zwg] at h3
          have hr1 : r.1 = l[i - 1] := Option.some.inj h3
          have hob' : o.length < 1000000 := by rw [List.length_append] at hol; omega
          obtain ⟨k1, k2⟩ := (Zvk _ _ _ _).1 h2
          obtain ⟨k3, k4, k5, _⟩ := k2
          have hrl : r.2.2.toNat ≤ i := by
            rw [Ztf, Zgg, List.length_append, List.length_replicate] at hfl
            omega
          have hsub : subI .i64 (lenL (o ++ [r])) 1 = (o.length : Int) := by rw [Zi, List.length_append, List.length_singleton, Zmd (by omega)]; omega
          have hget : List.getD (o ++ [r]) o.length (0, 0, 0) = r := by rw [List.getD_eq_getElem?_getD, List.getElem?_append_right (Nat.le_refl _), Nat.sub_self]; rfl
          have hset : ∀ r', List.set (o ++ [r]) o.length r' = o ++ [r'] := fun r' => by rw [List.set_append_right _ _ (Nat.le_refl _), Nat.sub_self]; rfl
          rw [hsub, Zr (by rw [Zi, List.length_append, List.length_singleton]; omega), cond_true, cond_true, show Int.toNat (o.length : Int) = o.length from rfl, hget, hset, Zu (by omega)]
          refine ih (i + 1) n _ (by omega) (by omega) (by omega) ?_ ((Zvk _ _ _ _).2 ⟨k1, k3, by show 1 ≤ r.2.2 + 1; omega, k5, trivial⟩) (by rw [Zwg, hsn, hq]; exact h3)
          rw [Ztf, Zgg] at h1
          rw [Ztf, Zgg, take_one hlt, ← h1, List.append_assoc]
          congr 1
          show List.replicate (r.2.2 + 1).toNat r.1 = _
          rw [show (r.2.2 + 1).toNat = r.2.2.toNat + 1 by omega, List.replicate_succ', hr1, hq]
      · rw [eq_f hq, cond_false]
        exact hnew (by rw [h3]; intro h; exact hq (Option.some.inj h).symm)
theorem Zs0 (l : List Int) (hl : l.length ≤ 65536) : Zsd l = some (runO l) := by
  obtain ⟨o, h1, h2, h3⟩ := Zbr1 l hl l.length 0 fu [] (by omega) (by omega) (by unfold fu; omega) rfl trivial rfl
  obtain ⟨_, k2, k3⟩ := Zcj l hl
  rw [Zoa1 h3 k3 (by rw [h2, k2])] at h1
  exact h1
theorem Zlm1 (o : List Run) (ho : okR 0 none o) (hl : (flatR o).length ≤ 65536) : ∀ (d i n : Nat), d = o.length - i → i ≤ o.length → d < n →
    Zqd.l0 n o ((flatR (o.take i)).length : Int) (i : Int) = some true := by
  have hol := Zef o 0 none ho
  intro d
  induction d with
  | zero =>
    intro i n hd hi hn
    have : i = o.length := by omega
    subst this
    obtain ⟨n, rfl⟩ : ∃ k, n = k + 1 := ⟨n - 1, by omega⟩
    show Zqd.S0 _ _ _ _ = _
    unfold Zqd.S0
    rw [Zi, lt_f (by omega), cond_false]
  | succ d ih =>
    intro i n hd hi hn
    obtain ⟨n, rfl⟩ : ∃ k, n = k + 1 := ⟨n - 1, by omega⟩
    have hlt : i < o.length := by omega
    obtain ⟨k1, k2, k3, k4, k5⟩ := Zav ho hlt
    show Zqd.S0 (Zqd.l0 n) _ _ _ = _
    unfold Zqd.S0
    have hadd : addI .i64 ((flatR (o.take i)).length : Int) o[i].2.2 = ((flatR (o.take (i + 1))).length : Int) := by rw [Zu (by omega), k4]; omega
    have := ih (i + 1) n (by omega) (by omega) (by omega)
    rw [Zi, lt_t (by omega), cond_true, Zr (i := (i : Int)) (by omega), cond_true, Zaa hlt, ne_f k1, cond_false, cond_true, lt_f (by omega), cond_false, cond_true, Zmd (a := 65536) (by omega), lt_f (by omega), cond_false, hadd, Zu (a := (i : Int)) (by omega)]
    simp only [cond_true]
    by_cases hi0 : i = 0
    · rw [lt_f (by omega), cond_false]
      exact this
    · have hlt1 : i - 1 < o.length := by omega
      have hl2 : lastR none (o.take i) = some o[i - 1].1 := by
        have : o.take i = o.take (i - 1) ++ [o[i - 1]] := by
          have := take_one hlt1
          rwa [show i - 1 + 1 = i by omega] at this
        rw [this, Zwg]
      rw [hl2] at k3
      rw [lt_t (by omega), cond_true, Zmd (by omega), Zr (by omega), cond_true, show (i : Int) - 1 = ((i - 1 : Nat) : Int) by omega, Zaa hlt1, eq_f (fun h => k3 (by rw [h])), cond_false]
      exact this
theorem Zmm1 (o : List Run) (hl : o.length ≤ 65536) (h64 : ∀ r ∈ o, in64 r.1 ∧ in64 r.2.2) : ∀ (d i n : Nat), d = o.length - i → i ≤ o.length → d < n →
    Zwc.l0 n o (ofBytes (runB (o.take i))) (i : Int) = some (ofBytes (runB o), 0) := by
  intro d
  induction d with
  | zero =>
    intro i n hd hi hn
    have : i = o.length := by omega
    subst this
    obtain ⟨n, rfl⟩ : ∃ k, n = k + 1 := ⟨n - 1, by omega⟩
    show Zwc.S0 _ _ _ _ = _
    unfold Zwc.S0
    rw [Zi, lt_f (by omega), cond_false, List.take_length]
  | succ d ih =>
    intro i n hd hi hn
    obtain ⟨n, rfl⟩ : ∃ k, n = k + 1 := ⟨n - 1, by omega⟩
    have hlt : i < o.length := by omega
    have h1 := Zqh (o.take i)
    rw [List.length_take] at h1
    have h2 := Zod o[i].1
    have h3 := Zod o[i].2.2
    obtain ⟨q1, q2⟩ := h64 o[i] (List.getElem_mem hlt)
    show Zwc.S0 (Zwc.l0 n) _ _ _ = _
    unfold Zwc.S0
    have r1 : roomS (ofBytes (runB (o.take i))) (ofBytes (vB o[i].1)) = true := decide_eq_true (by rw [Zp, Zp]; omega)
    have r2 : roomS (ofBytes (runB (o.take i) ++ vB o[i].1)) (ofBytes (vB o[i].2.2)) = true := decide_eq_true (by rw [Zp, Zp, List.length_append]; omega)
    rw [Zi, lt_t (by omega), cond_true, Zr (by omega), cond_true, Zaa hlt, Zte q1, Option.bind_some, Znd, r1, cond_true, cond_true, Zte q2, Option.bind_some, Znd, Zhd, r2, cond_true, Zhd, Zu (by omega), List.append_assoc, ← Zy7, ← take_one hlt]
    exact ih (i + 1) n (by omega) (by omega) (by omega)
theorem Zpu (o : List Run) (ho : okR 0 none o) (hl : (flatR o).length ≤ 65536) (h64 : ∀ r ∈ o, in64 r.1) : Zwc o = some (ofBytes (runB o), 0) := by
  have hol := Zef o 0 none ho
  show Zwc.S (Zwc.l0 fu) o = _
  unfold Zwc.S
  have hm : Zqd o = some true := Zlm1 o ho hl o.length 0 fu (by omega) (by omega) (by unfold fu; omega)
  rw [hm, Option.bind_some, Bool.not_true, cond_false]
  refine Zmm1 o (by omega) (fun r hr => ⟨h64 r hr, ?_⟩) o.length 0 fu (by omega) (by omega) (by unfold fu; omega)
  obtain ⟨i, hi, rfl⟩ := List.mem_iff_getElem.1 hr
  obtain ⟨_, k2, _, k4, k5⟩ := Zav ho hi
  unfold in64
  omega
theorem Zkh1 (l : List Int) (hl : l.length ≤ 65536) (h0 : 0 < l.length) : ∀ (d i n : Nat), d = l.length - 1 - i → i ≤ l.length - 1 → d < n →
    Zrc.l0 n l ((diffs l).take i) ((i + 1 : Nat) : Int) = some (diffs l) := by
  have hdl := Zji l
  intro d
  induction d with
  | zero =>
    intro i n hd hi hn
    have : i = l.length - 1 := by omega
    subst this
    obtain ⟨n, rfl⟩ : ∃ k, n = k + 1 := ⟨n - 1, by omega⟩
    show Zrc.S0 _ _ _ _ = _
    unfold Zrc.S0
    rw [Zi, lt_f (by omega), cond_false, List.take_of_length_le (by omega)]
  | succ d ih =>
    intro i n hd hi hn
    obtain ⟨n, rfl⟩ : ∃ k, n = k + 1 := ⟨n - 1, by omega⟩
    have hlt : i + 1 < l.length := by omega
    have hlt0 : i < l.length := by omega
    have hdi : i < (diffs l).length := by omega
    have hd1 := Zyu hlt hdi
    have hih := ih (i + 1) n (by omega) (by omega) (by omega)
    rw [take_one hdi, hd1] at hih
    show Zrc.S0 (Zrc.l0 n) _ _ _ = _
    unfold Zrc.S0
    rw [Zi, lt_t (by omega), cond_true, Zr (by omega), cond_true, Zmd (b := 1) (by omega), show ((i + 1 : Nat) : Int) - 1 = (i : Int) by omega, Zr (by omega), cond_true, Zfa (by rw [List.length_take]; omega), cond_true, Zaa hlt, Zaa hlt0, Zu (by omega)]
    exact hih
theorem Zlh1 (x : List Int) (hx : x.length ≤ 65536) : ∀ (d i n : Nat) (m : Int), d = x.length - i → i ≤ x.length → d < n → Zdc.l0 n x m (i : Int) = some ((x.drop i).foldl minI m) := by
  intro d
  induction d with
  | zero =>
    intro i n m hd hi hn
    have : i = x.length := by omega
    subst this
    obtain ⟨n, rfl⟩ : ∃ k, n = k + 1 := ⟨n - 1, by omega⟩
    show Zdc.S0 _ _ _ _ = _
    unfold Zdc.S0
    rw [Zi, lt_f (by omega), cond_false, List.drop_length]
    rfl
  | succ d ih =>
    intro i n m hd hi hn
    obtain ⟨n, rfl⟩ : ∃ k, n = k + 1 := ⟨n - 1, by omega⟩
    have hlt : i < x.length := by omega
    show Zdc.S0 (Zdc.l0 n) _ _ _ = _
    unfold Zdc.S0
    rw [Zi, lt_t (by omega), cond_true, Zr (by omega), cond_true, Zaa hlt, Zu (by omega), List.drop_eq_getElem_cons hlt, List.foldl_cons]
    exact ih (i + 1) n _ (by omega) (by omega) (by omega)
theorem Zmh1 (m : Int) (D : List Int) (hD : D.length ≤ 65536) (s : ByteArray) : ∀ (d i n : Nat), d = D.length - i → i ≤ D.length → d < n →
    Zxa.l0 (Zxa.t1 fu) n s D m ((D.take i).map fun x => W64 (x - m)) (i : Int) = Zxa.S1 s m (D.map fun x => W64 (x - m)) := by
  intro d
  induction d with
  | zero =>
    intro i n hd hi hn
    have : i = D.length := by omega
    subst this
    obtain ⟨n, rfl⟩ : ∃ k, n = k + 1 := ⟨n - 1, by omega⟩
    show Zxa.S0 Zxa.S1 _ _ _ _ _ _ = _
    unfold Zxa.S0
    rw [Zi, lt_f (by omega), cond_false, List.take_length]
  | succ d ih =>
    intro i n hd hi hn
    obtain ⟨n, rfl⟩ : ∃ k, n = k + 1 := ⟨n - 1, by omega⟩
    have hlt : i < D.length := by omega
    have hih := ih (i + 1) n (by omega) (by omega) (by omega)
    rw [take_one hlt, List.map_append] at hih
    show Zxa.S0 _ (Zxa.l0 (Zxa.t1 fu) n) _ _ _ _ _ = _
    unfold Zxa.S0
    rw [Zi, lt_t (by omega), cond_true, Zr (by omega), cond_true, Zfa (by rw [List.length_map, List.length_take]; omega), cond_true, Zaa hlt, Zu (by omega)]
    exact hih
theorem Zpa1 (l : List Int) (hl : l.length ≤ 65536) (h64 : ∀ x ∈ l, in64 x) : Zxa l = some (ofBytes (Zki l (widN (Zxb l))), 0) := by
  show Zxa.S (Zxa.l0 (Zxa.t1 fu) fu) l = _
  unfold Zxa.S Zki
  rw [Zi, lt_f (by omega), cond_false]
  by_cases h0 : l.length = 0
  · rw [eq_t (by omega), cond_true, if_pos h0]
    rfl
  · rw [eq_f (by omega), cond_false, if_neg h0]
    have hl0 : 0 < l.length := by omega
    have hg0 : l.getD 0 0 = l[0] := getD_at hl0
    have hn0 : nth l 0 0 = l.getD 0 0 := rfl
    have hq : in64 (l.getD 0 0) := by rw [hg0]; exact h64 _ (List.getElem_mem hl0)
    rw [Zr (by omega), cond_true, hn0, Zte hq, Option.bind_some, Znd]
    by_cases h1 : l.length = 1
    · rw [eq_t (by omega), cond_true, if_pos h1]
    · have hdl := Zji l
      have hst : Zrc l = some (diffs l) := Zkh1 l hl hl0 (l.length - 1) 0 fu (by omega) (by omega) (by unfold fu; omega)
      have hls : Zdc (diffs l) = some (minF (diffs l)) := by
        show Zdc.S (Zdc.l0 fu) (diffs l) = _
        unfold Zdc.S
        rw [Zr (by rw [Zi]; omega), cond_true]
        exact Zlh1 (diffs l) (by omega) ((diffs l).length - 1) 1 fu (nth (diffs l) 0 0) (by omega) (by omega) (by unfold fu; omega)
      have hw := Zmh1 (minF (diffs l)) (diffs l) (by omega) (ofBytes (vB (l.getD 0 0))) (diffs l).length 0 fu (by omega) (by omega) (by unfold fu; omega)
      have hfl := Zph l
      obtain ⟨_, w2, _⟩ := Zne (Zxb l) (by omega)
      have hb : (Zxb l).length * widN (Zxb l) ≤ 65536 * 64 := Nat.mul_le_mul (by omega) w2
      have hpl := Zwd (Zxb l) (widN (Zxb l))
      have k1 := Zod (l.getD 0 0)
      have k2 := Zod (minF (diffs l))
      rw [eq_f (by omega), cond_false, if_neg h1, hst, Option.bind_some, hls, Option.bind_some]
      refine Eq.trans hw ?_
      show Zxa.S1 _ _ (Zxb l) = _
      unfold Zxa.S1
      rw [Zbj _ (by omega), Option.bind_some, Zil _ w2 (by omega) (Nat.le_refl _), Option.bind_some, Zte (Zx7 (by omega) (Zd3 l)), Option.bind_some, Znd, Zhd, Zez w2, Zhd]
      have r1 : roomS (ofBytes (vB (l.getD 0 0))) (ofBytes (vB (minF (diffs l)))) = true := decide_eq_true (by rw [Zp, Zp]; omega)
      have r2 : roomS (ofBytes (vB (l.getD 0 0) ++ vB (minF (diffs l)))) (ofBytes [(widN (Zxb l) : Int)]) = true := decide_eq_true (by rw [Zp, Zp, List.length_append, List.length_singleton]; omega)
      have r3 : roomS (ofBytes (vB (l.getD 0 0) ++ vB (minF (diffs l)) ++ [(widN (Zxb l) : Int)])) (ofBytes (packB (Zxb l) (widN (Zxb l)))) = true := decide_eq_true (by rw [Zp, Zp, List.length_append, List.length_append, List.length_singleton]; omega)
      dsimp only
      rw [r1, r2, r3, Zhd, cond_true, cond_true, cond_true]
      simp
end Go.AM.Pure
end

section
/- The document's dictionaries: distinct values, by insertion, and the places. Printed for numbers and texts alike by mk13r.py. -/
namespace Go.AM.Pure
open Go.AM
section
variable {α : Type} {c : α → α → Int}
theorem Zt1 (c : α → α → Int) (x : α) : ∀ d : List α, ∃ p q, d = p ++ q ∧ (∀ y ∈ p, c y x = -1) ∧ ∀ z r, q = z :: r → ¬ c z x = -1
  | [] => ⟨[], [], rfl, fun _ h => (by cases h), fun _ _ h => (by cases h)⟩
  | a :: d => by
    by_cases h : c a x = -1
    · obtain ⟨p, q, h1, h2, h3⟩ := Zt1 c x d
      refine ⟨a :: p, q, by rw [h1]; rfl, fun y hy => ?_, h3⟩
      rcases List.mem_cons.1 hy with rfl | hy
      · exact h
      · exact h2 y hy
    · exact ⟨[], a :: d, rfl, fun _ h => (by cases h), fun z r e => by cases e; exact h⟩
theorem Zs7 {p q : List α} {x : α} {l : List α} (h : Zae c (p ++ q) l) (hx : x ∈ p ++ q) : Zae c (p ++ q) (l ++ [x]) :=
  ⟨h.1, fun y => by
    rw [List.mem_append (t := [x]), List.mem_singleton, ← h.2 y]
    exact ⟨.inl, fun h => h.elim id fun e => e ▸ hx⟩⟩
theorem Zna1 (o : Ord3 c) {p q : List α} {x : α} {l : List α} (h : Zae c (p ++ q) l) (hp : ∀ y ∈ p, c y x = -1) (hq : ∀ z r, q = z :: r → ¬ c z x = -1 ∧ z ≠ x) : Zae c (p ++ [x] ++ q) (l ++ [x]) := by
  obtain ⟨h1, h2⟩ := h
  obtain ⟨k1, k2, k3⟩ := List.pairwise_append.1 h1
  have hxq : ∀ y ∈ q, c x y = -1 := fun y hy => by
    cases q with
    | nil => cases hy
    | cons z r =>
      obtain ⟨m1, m2⟩ := hq z r rfl
      have hz : c x z = -1 := by
        rw [o.neg z x]
        rcases o.rng z x with h | h | h
        · exact absurd h m1
        · exact absurd ((o.eq0 _ _).1 h) m2
        · rw [h]
      rcases List.mem_cons.1 hy with rfl | hy
      · exact hz
      · exact o.tr _ _ _ hz ((List.pairwise_cons.1 k2).1 y hy)
  constructor
  · unfold Inc
    rw [List.append_assoc, List.pairwise_append]
    refine ⟨k1, ?_, fun a ha b hb => ?_⟩
    · rw [List.singleton_append, List.pairwise_cons]
      exact ⟨hxq, k2⟩
    · rcases List.mem_append.1 hb with hb | hb
      · rw [List.mem_singleton.1 hb]; exact hp a ha
      · exact k3 a ha b hb
  · intro y
    rw [List.mem_append (t := [x]), List.mem_singleton, ← h2 y]
    simp only [List.mem_append, List.mem_singleton]
    constructor
    · rintro ((h | h) | h)
      · exact .inl (.inl h)
      · exact .inr h
      · exact .inl (.inr h)
    · rintro ((h | h) | h)
      · exact .inl (.inl h)
      · exact .inr h
      · exact .inl (.inr h)
end
theorem Zxq1 (a b : Int) : ltI a b = decide (sgn a b = -1) := by
  show decide (a < b) = _
  unfold sgn
  by_cases h : a < b
  · rw [if_pos h, decide_eq_true h]; rfl
  · rw [if_neg h, decide_eq_false h]
    split <;> rfl
theorem Zd71 (l : List Int) : Zae sgn (dictI l) l := ⟨(Zve l).1.imp fun {a b} h => by unfold sgn; rw [if_pos h], (Zve l).2⟩
theorem plcI (l : List Int) : plc (dictI l) l = Zua l := rfl
theorem Ze71 {l d : List Int} {places : List Int} {i : Nat} (hi : i < l.length) (hil : i < 1000000) (hd : d.length < 1000000) {p q : List Int} (hpq : d = p ++ q) (hp : ∀ y ∈ p, sgn y l[i] = -1) (hq : ∀ z r, q = z :: r → ¬ sgn z l[i] = -1) {o2 : List Int → List Int → List Int → Int → Int → Option (List Int × List Int)} :
    ∀ (g j n : Nat), g = p.length - j → j ≤ p.length → g < n → Zh.l1 o2 n l d places (i : Int) (j : Int) = o2 l d places (i : Int) (p.length : Int) := by
  have hpl : d.length = p.length + q.length := by rw [hpq, List.length_append]
  intro g
  induction g with
  | zero =>
    intro j n hg hj hn
    have : j = p.length := by omega
    subst this
    obtain ⟨n, rfl⟩ : ∃ k, n = k + 1 := ⟨n - 1, by omega⟩
    show Zh.S1 _ _ _ _ _ _ _ = _
    unfold Zh.S1
    cases q with
    | nil =>
      rw [List.length_nil] at hpl
      rw [Zi, lt_f (by omega), cond_false]
    | cons z r =>
      rw [List.length_cons] at hpl
      have hz : d[p.length]'(by omega) = z := by simp only [hpq, List.getElem_append_right (Nat.le_refl _), Nat.sub_self, List.getElem_cons_zero]
      rw [Zi, lt_t (by omega), cond_true, Zr (by omega), cond_true, Zr (by rw [Zi]; omega), cond_true, Zaa (show p.length < d.length by omega), hz, Zaa hi, Zxq1, decide_eq_false (hq z r rfl), cond_false]
  | succ g ih =>
    intro j n hg hj hn
    obtain ⟨n, rfl⟩ : ∃ k, n = k + 1 := ⟨n - 1, by omega⟩
    have hjp : j < p.length := by omega
    have hz : d[j]'(by omega) = p[j] := by simp only [hpq, List.getElem_append_left hjp]
    show Zh.S1 o2 (Zh.l1 o2 n) _ _ _ _ _ = _
    unfold Zh.S1
    rw [Zi, lt_t (by omega), cond_true, Zr (by omega), cond_true, Zr (by rw [Zi]; omega), cond_true, Zaa (show j < d.length by omega), hz, Zaa hi, Zxq1, decide_eq_true (hp _ (List.getElem_mem hjp)), cond_true, Zu (by omega)]
    exact ih (j + 1) n (by omega) (by omega) (by omega)
theorem Znl2 (l : List Int) (hl : l.length ≤ 65536) {o4 : List Int → List Int → List Int → Option (List Int × List Int)} : ∀ (g i m : Nat) (d : List Int), g = l.length - i → i ≤ l.length → 200000 < m → Zae sgn d (l.take i) → d.length ≤ i →
    ∃ D, Zh.l0 o4 (m + g) l d [] (i : Int) = o4 l D [] ∧ Zae sgn D l ∧ D.length ≤ l.length := by
  intro g
  induction g with
  | zero =>
    intro i m d hg hi hm hd hdl
    have : i = l.length := by omega
    subst this
    obtain ⟨m, rfl⟩ : ∃ k, m = k + 1 := ⟨m - 1, by omega⟩
    rw [List.take_length] at hd
    refine ⟨d, ?_, hd, hdl⟩
    show Zh.S0 _ _ _ _ _ _ = _
    unfold Zh.S0
    rw [Zi, lt_f (by omega), cond_false]
  | succ g ih =>
    intro i m d hg hi hm hd hdl
    have hlt : i < l.length := by omega
    obtain ⟨p, q, hpq, hp, hq⟩ := Zt1 sgn l[i] d
    have hpl : d.length = p.length + q.length := by rw [hpq, List.length_append]
    have hfind := Ze71 (places := []) hlt (by omega) (by omega) hpq hp hq (o2 := Zh.t2 (Zh.l0 o4 (m + g)) (m + g)) p.length 0 (m + g) (by omega) (by omega) (by omega)
    have hi2 : ((i : Int) + 1) = ((i + 1 : Nat) : Int) := rfl
    obtain ⟨e, he⟩ : ∃ e, m + g = e + 2 := ⟨m + g - 2, by omega⟩
    show ∃ D, Zh.S0 o4 (Zh.l1 (Zh.t2 (Zh.l0 o4 (m + g)) (m + g)) (m + g)) l d [] (i : Int) = _ ∧ _
    unfold Zh.S0
    rw [Zi, lt_t (by omega), cond_true, show (0 : Int) = ((0 : Nat) : Int) from rfl, hfind]
    have h2 : Zh.t2 (Zh.l0 o4 (m + g)) (m + g) = Zh.S2 (Zh.l0 o4 (m + g)) (Zh.S3 (Zh.l0 o4 (m + g))) := by
      generalize Zh.l0 o4 (m + g) = z
      rw [he]
      rfl
    rw [h2]
    unfold Zh.S2
    have hins : (∀ z r, q = z :: r → ¬ sgn z l[i] = -1 ∧ z ≠ l[i]) → ∃ D, Zh.S3 (Zh.l0 o4 (m + g)) l d [] (i : Int) (p.length : Int) = o4 l D [] ∧ Zae sgn D l ∧ D.length ≤ l.length := fun hne => by
      unfold Zh.S3
      have htk : List.take (Int.toNat (p.length : Int)) d = p := by rw [hpq]; exact List.take_left
      have hdr : List.drop (Int.toNat (p.length : Int)) d = q := by rw [hpq]; exact List.drop_left
      rw [Zi, Zuc (by omega), cond_true, htk, hdr, Zfa (by omega), cond_true, Zr (by rw [Zi]; omega), cond_true, Zfa (by omega), cond_true, Zuc (by omega), cond_true, Zaa hlt, Zfa (by rw [List.length_append, List.length_singleton]; omega), cond_true, Zu (by omega), hi2]
      exact ih (i + 1) m _ (by omega) (by omega) hm (by rw [take_one hlt]; exact Zna1 Zr6 (hpq ▸ hd) hp hne) (by rw [List.length_append, List.length_append, List.length_singleton]; omega)
    cases hqc : q with
    | nil =>
      rw [hqc, List.length_nil] at hpl
      rw [Zi, lt_f (by omega), cond_false]
      exact hins fun z r e => by rw [hqc] at e; cases e
    | cons z r =>
      rw [hqc, List.length_cons] at hpl
      have hz : d[p.length]'(by omega) = z := by simp only [hpq, hqc, List.getElem_append_right (Nat.le_refl _), Nat.sub_self, List.getElem_cons_zero]
      rw [Zi, lt_t (by omega), cond_true, Zr (by omega), cond_true, Zr (by rw [Zi]; omega), cond_true, Zaa (show p.length < d.length by omega), hz, Zaa hlt]
      by_cases hzx : z = l[i]
      · rw [eq_t hzx, cond_true, Zu (by omega), hi2]
        exact ih (i + 1) m d (by omega) (by omega) hm (by rw [take_one hlt, hpq]; exact Zs7 (hpq ▸ hd) (by rw [hqc, hzx]; simp)) (by omega)
      · rw [eq_f hzx, cond_false]
        exact hins fun z' r' e => by
          rw [hqc] at e
          cases e
          exact ⟨hq z r hqc, hzx⟩
theorem Zyq1 {l d : List Int} (hl : l.length ≤ 65536) (hdl : d.length ≤ l.length) (hd : Zae sgn d l) {i : Nat} (hi : i < l.length) {places : List Int} (hpl : places.length ≤ 65536) {o5 : List Int → List Int → List Int → Int → Option (List Int × List Int)} :
    ∀ (g j n : Nat), g = idx d l[i] - j → j ≤ idx d l[i] → g < n → Zh.l6 o5 n l d places (i : Int) (j : Int) = o5 l d (places ++ [(idx d l[i] : Int)]) ((i : Int) + 1) := by
  have hk := Zzm ((hd.2 _).2 (List.getElem_mem hi))
  have hg := Zoq hk
  intro g
  induction g with
  | zero =>
    intro j n hg' hj hn
    have : j = idx d l[i] := by omega
    subst this
    obtain ⟨n, rfl⟩ : ∃ k, n = k + 1 := ⟨n - 1, by omega⟩
    show Zh.S6 _ _ _ _ _ _ _ = _
    unfold Zh.S6
    rw [Zi, Zr (by omega), cond_true, Zi, Zr (by omega), cond_true, Zaa hk, hg, Zaa hi, ne_f rfl, cond_false, Zfa (by omega), cond_true, Zu (by omega)]
  | succ g ih =>
    intro j n hg' hj hn
    obtain ⟨n, rfl⟩ : ∃ k, n = k + 1 := ⟨n - 1, by omega⟩
    have hjd : j < d.length := by omega
    have hne : ¬ d[j] = l[i] := fun e => by
      have := hd.1.inj Zr6 hjd hk (e.trans hg.symm)
      omega
    show Zh.S6 o5 (Zh.l6 o5 n) _ _ _ _ _ = _
    unfold Zh.S6
    rw [Zi, Zr (by omega), cond_true, Zi, Zr (by omega), cond_true, Zaa hjd, Zaa hi, ne_t hne, cond_true, Zu (by omega)]
    exact ih (j + 1) n (by omega) (by omega) (by omega)
theorem Zhm1 {l d : List Int} (hl : l.length ≤ 65536) (hdl : d.length ≤ l.length) (hd : Zae sgn d l) : ∀ (g i m : Nat), g = l.length - i → i ≤ l.length → 200000 < m →
    Zh.l5 (m + g) l d ((plc d l).take i) (i : Int) = some (d, plc d l) := by
  have hpl := Zif d l
  intro g
  induction g with
  | zero =>
    intro i m hg hi hm
    have : i = l.length := by omega
    subst this
    obtain ⟨m, rfl⟩ : ∃ k, m = k + 1 := ⟨m - 1, by omega⟩
    show Zh.S5 _ _ _ _ _ = _
    unfold Zh.S5
    rw [Zi, lt_f (by omega), cond_false, List.take_of_length_le (by omega)]
  | succ g ih =>
    intro i m hg hi hm
    have hlt : i < l.length := by omega
    have hk := Zzm ((hd.2 _).2 (List.getElem_mem hlt))
    show Zh.S5 (Zh.l6 (Zh.l5 (m + g)) (m + g)) _ _ _ _ = _
    unfold Zh.S5
    have := Zyq1 hl hdl hd hlt (places := (plc d l).take i) (by rw [List.length_take]; omega) (o5 := Zh.l5 (m + g)) (idx d l[i]) 0 (m + g) (by omega) (by omega) (by omega)
    rw [Zi, lt_t (by omega), cond_true, show (0 : Int) = ((0 : Nat) : Int) from rfl, this]
    have h2 := ih (i + 1) m (by omega) (by omega) hm
    rw [take_one (by omega), Zi6 hlt] at h2
    exact h2
theorem Zq9 (l : List Int) (hl : l.length ≤ 65536) : Zh l = some (dictI l, plc (dictI l) l) := by
  show Zh.S (Zh.l0 (Zh.t4 fu) fu) l = _
  unfold Zh.S
  obtain ⟨D, h1, h2, h3⟩ := Znl2 l hl (o4 := Zh.t4 fu) l.length 0 (fu - l.length) [] (by omega) (by omega) (by unfold fu; omega) ⟨List.Pairwise.nil, fun x => by simp⟩ (by simp)
  rw [show fu - l.length + l.length = fu by unfold fu; omega] at h1
  have hD : D = dictI l := h2.uniq Zr6 (Zd71 l)
  subst hD
  refine Eq.trans h1 ?_
  show Zh.S4 (Zh.l5 18446744073709551615) _ _ _ = _
  unfold Zh.S4
  have := Zhm1 hl h3 h2 l.length 0 (18446744073709551615 - l.length) (by omega) (by omega) (by omega)
  rw [show 18446744073709551615 - l.length + l.length = 18446744073709551615 by omega] at this
  exact this
theorem neS_f {a b : ByteArray} (h : a = b) : (!(eqS a b)) = false := by rw [eqS_t h]; rfl
theorem neS_t {a b : ByteArray} (h : ¬ a = b) : (!(eqS a b)) = true := by rw [eqS_f h]; rfl
theorem Zf71 {l d : List ByteArray} {places : List Int} {i : Nat} (hi : i < l.length) (hil : i < 1000000) (hd : d.length < 1000000) {p q : List ByteArray} (hpq : d = p ++ q) (hp : ∀ y ∈ p, cmpS y l[i] = -1) (hq : ∀ z r, q = z :: r → ¬ cmpS z l[i] = -1) {o2 : List ByteArray → List ByteArray → List Int → Int → Int → Option (List ByteArray × List Int)} :
    ∀ (g j n : Nat), g = p.length - j → j ≤ p.length → g < n → Zf.l1 o2 n l d places (i : Int) (j : Int) = o2 l d places (i : Int) (p.length : Int) := by
  have hpl : d.length = p.length + q.length := by rw [hpq, List.length_append]
  intro g
  induction g with
  | zero =>
    intro j n hg hj hn
    have : j = p.length := by omega
    subst this
    obtain ⟨n, rfl⟩ : ∃ k, n = k + 1 := ⟨n - 1, by omega⟩
    show Zf.S1 _ _ _ _ _ _ _ = _
    unfold Zf.S1
    cases q with
    | nil =>
      rw [List.length_nil] at hpl
      rw [Zi, lt_f (by omega), cond_false]
    | cons z r =>
      rw [List.length_cons] at hpl
      have hz : d[p.length]'(by omega) = z := by simp only [hpq, List.getElem_append_right (Nat.le_refl _), Nat.sub_self, List.getElem_cons_zero]
      rw [Zi, lt_t (by omega), cond_true, Zr (by omega), cond_true, Zr (by rw [Zi]; omega), cond_true, Zaa (show p.length < d.length by omega), hz, Zaa hi, ltS_d, decide_eq_false (hq z r rfl), cond_false]
  | succ g ih =>
    intro j n hg hj hn
    obtain ⟨n, rfl⟩ : ∃ k, n = k + 1 := ⟨n - 1, by omega⟩
    have hjp : j < p.length := by omega
    have hz : d[j]'(by omega) = p[j] := by simp only [hpq, List.getElem_append_left hjp]
    show Zf.S1 o2 (Zf.l1 o2 n) _ _ _ _ _ = _
    unfold Zf.S1
    rw [Zi, lt_t (by omega), cond_true, Zr (by omega), cond_true, Zr (by rw [Zi]; omega), cond_true, Zaa (show j < d.length by omega), hz, Zaa hi, ltS_d, decide_eq_true (hp _ (List.getElem_mem hjp)), cond_true, Zu (by omega)]
    exact ih (j + 1) n (by omega) (by omega) (by omega)
theorem Zol2 (l : List ByteArray) (hl : l.length ≤ 65536) {o4 : List ByteArray → List ByteArray → List Int → Option (List ByteArray × List Int)} : ∀ (g i m : Nat) (d : List ByteArray), g = l.length - i → i ≤ l.length → 200000 < m → Zae cmpS d (l.take i) → d.length ≤ i →
    ∃ D, Zf.l0 o4 (m + g) l d [] (i : Int) = o4 l D [] ∧ Zae cmpS D l ∧ D.length ≤ l.length := by
  intro g
  induction g with
  | zero =>
    intro i m d hg hi hm hd hdl
    have : i = l.length := by omega
    subst this
    obtain ⟨m, rfl⟩ : ∃ k, m = k + 1 := ⟨m - 1, by omega⟩
    rw [List.take_length] at hd
    refine ⟨d, ?_, hd, hdl⟩
    show Zf.S0 _ _ _ _ _ _ = _
    unfold Zf.S0
    rw [Zi, lt_f (by omega), cond_false]
  | succ g ih =>
    intro i m d hg hi hm hd hdl
    have hlt : i < l.length := by omega
    obtain ⟨p, q, hpq, hp, hq⟩ := Zt1 cmpS l[i] d
    have hpl : d.length = p.length + q.length := by rw [hpq, List.length_append]
    have hfind := Zf71 (places := []) hlt (by omega) (by omega) hpq hp hq (o2 := Zf.t2 (Zf.l0 o4 (m + g)) (m + g)) p.length 0 (m + g) (by omega) (by omega) (by omega)
    have hi2 : ((i : Int) + 1) = ((i + 1 : Nat) : Int) := rfl
    obtain ⟨e, he⟩ : ∃ e, m + g = e + 2 := ⟨m + g - 2, by omega⟩
    show ∃ D, Zf.S0 o4 (Zf.l1 (Zf.t2 (Zf.l0 o4 (m + g)) (m + g)) (m + g)) l d [] (i : Int) = _ ∧ _
    unfold Zf.S0
    rw [Zi, lt_t (by omega), cond_true, show (0 : Int) = ((0 : Nat) : Int) from rfl, hfind]
    have h2 : Zf.t2 (Zf.l0 o4 (m + g)) (m + g) = Zf.S2 (Zf.l0 o4 (m + g)) (Zf.S3 (Zf.l0 o4 (m + g))) := by
      generalize Zf.l0 o4 (m + g) = z
      rw [he]
      rfl
    rw [h2]
    unfold Zf.S2
    have hins : (∀ z r, q = z :: r → ¬ cmpS z l[i] = -1 ∧ z ≠ l[i]) → ∃ D, Zf.S3 (Zf.l0 o4 (m + g)) l d [] (i : Int) (p.length : Int) = o4 l D [] ∧ Zae cmpS D l ∧ D.length ≤ l.length := fun hne => by
      unfold Zf.S3
      have htk : List.take (Int.toNat (p.length : Int)) d = p := by rw [hpq]; exact List.take_left
      have hdr : List.drop (Int.toNat (p.length : Int)) d = q := by rw [hpq]; exact List.drop_left
      rw [Zi, Zuc (by omega), cond_true, htk, hdr, Zfa (by omega), cond_true, Zr (by rw [Zi]; omega), cond_true, Zfa (by omega), cond_true, Zuc (by omega), cond_true, Zaa hlt, Zfa (by rw [List.length_append, List.length_singleton]; omega), cond_true, Zu (by omega), hi2]
      exact ih (i + 1) m _ (by omega) (by omega) hm (by rw [take_one hlt]; exact Zna1 Zih (hpq ▸ hd) hp hne) (by rw [List.length_append, List.length_append, List.length_singleton]; omega)
    cases hqc : q with
    | nil =>
      rw [hqc, List.length_nil] at hpl
      rw [Zi, lt_f (by omega), cond_false]
      exact hins fun z r e => by rw [hqc] at e; cases e
    | cons z r =>
      rw [hqc, List.length_cons] at hpl
      have hz : d[p.length]'(by omega) = z := by simp only [hpq, hqc, List.getElem_append_right (Nat.le_refl _), Nat.sub_self, List.getElem_cons_zero]
      rw [Zi, lt_t (by omega), cond_true, Zr (by omega), cond_true, Zr (by rw [Zi]; omega), cond_true, Zaa (show p.length < d.length by omega), hz, Zaa hlt]
      by_cases hzx : z = l[i]
      · rw [eqS_t hzx, cond_true, Zu (by omega), hi2]
        exact ih (i + 1) m d (by omega) (by omega) hm (by rw [take_one hlt, hpq]; exact Zs7 (hpq ▸ hd) (by rw [hqc, hzx]; simp)) (by omega)
      · rw [eqS_f hzx, cond_false]
        exact hins fun z' r' e => by
          rw [hqc] at e
          cases e
          exact ⟨hq z r hqc, hzx⟩
theorem Zzq1 {l d : List ByteArray} (hl : l.length ≤ 65536) (hdl : d.length ≤ l.length) (hd : Zae cmpS d l) {i : Nat} (hi : i < l.length) {places : List Int} (hpl : places.length ≤ 65536) {o5 : List ByteArray → List ByteArray → List Int → Int → Option (List ByteArray × List Int)} :
    ∀ (g j n : Nat), g = idx d l[i] - j → j ≤ idx d l[i] → g < n → Zf.l6 o5 n l d places (i : Int) (j : Int) = o5 l d (places ++ [(idx d l[i] : Int)]) ((i : Int) + 1) := by
  have hk := Zzm ((hd.2 _).2 (List.getElem_mem hi))
  have hg := Zoq hk
  intro g
  induction g with
  | zero =>
    intro j n hg' hj hn
    have : j = idx d l[i] := by omega
    subst this
    obtain ⟨n, rfl⟩ : ∃ k, n = k + 1 := ⟨n - 1, by omega⟩
    show Zf.S6 _ _ _ _ _ _ _ = _
    unfold Zf.S6
    rw [Zi, Zr (by omega), cond_true, Zi, Zr (by omega), cond_true, Zaa hk, hg, Zaa hi, neS_f rfl, cond_false, Zfa (by omega), cond_true, Zu (by omega)]
  | succ g ih =>
    intro j n hg' hj hn
    obtain ⟨n, rfl⟩ : ∃ k, n = k + 1 := ⟨n - 1, by omega⟩
    have hjd : j < d.length := by omega
    have hne : ¬ d[j] = l[i] := fun e => by
      have := hd.1.inj Zih hjd hk (e.trans hg.symm)
      omega
    show Zf.S6 o5 (Zf.l6 o5 n) _ _ _ _ _ = _
    unfold Zf.S6
    rw [Zi, Zr (by omega), cond_true, Zi, Zr (by omega), cond_true, Zaa hjd, Zaa hi, neS_t hne, cond_true, Zu (by omega)]
    exact ih (j + 1) n (by omega) (by omega) (by omega)
theorem Zim1 {l d : List ByteArray} (hl : l.length ≤ 65536) (hdl : d.length ≤ l.length) (hd : Zae cmpS d l) : ∀ (g i m : Nat), g = l.length - i → i ≤ l.length → 200000 < m →
    Zf.l5 (m + g) l d ((plc d l).take i) (i : Int) = some (d, plc d l) := by
  have hpl := Zif d l
  intro g
  induction g with
  | zero =>
    intro i m hg hi hm
    have : i = l.length := by omega
    subst this
    obtain ⟨m, rfl⟩ : ∃ k, m = k + 1 := ⟨m - 1, by omega⟩
    show Zf.S5 _ _ _ _ _ = _
    unfold Zf.S5
    rw [Zi, lt_f (by omega), cond_false, List.take_of_length_le (by omega)]
  | succ g ih =>
    intro i m hg hi hm
    have hlt : i < l.length := by omega
    have hk := Zzm ((hd.2 _).2 (List.getElem_mem hlt))
    show Zf.S5 (Zf.l6 (Zf.l5 (m + g)) (m + g)) _ _ _ _ = _
    unfold Zf.S5
    have := Zzq1 hl hdl hd hlt (places := (plc d l).take i) (by rw [List.length_take]; omega) (o5 := Zf.l5 (m + g)) (idx d l[i]) 0 (m + g) (by omega) (by omega) (by omega)
    rw [Zi, lt_t (by omega), cond_true, show (0 : Int) = ((0 : Nat) : Int) from rfl, this]
    have h2 := ih (i + 1) m (by omega) (by omega) hm
    rw [take_one (by omega), Zi6 hlt] at h2
    exact h2
theorem Zmq (l : List ByteArray) (hl : l.length ≤ 65536) : Zf l = some (dictT l, plc (dictT l) l) := by
  show Zf.S (Zf.l0 (Zf.t4 fu) fu) l = _
  unfold Zf.S
  obtain ⟨D, h1, h2, h3⟩ := Zol2 l hl (o4 := Zf.t4 fu) l.length 0 (fu - l.length) [] (by omega) (by omega) (by unfold fu; omega) ⟨List.Pairwise.nil, fun x => by simp⟩ (by simp)
  rw [show fu - l.length + l.length = fu by unfold fu; omega] at h1
  have hD : D = dictT l := h2.uniq Zih (Zvg l)
  subst hD
  refine Eq.trans h1 ?_
  show Zf.S4 (Zf.l5 18446744073709551615) _ _ _ = _
  unfold Zf.S4
  have := Zim1 hl h3 h2 l.length 0 (18446744073709551615 - l.length) (by omega) (by omega) (by omega)
  rw [show 18446744073709551615 - l.length + l.length = 18446744073709551615 by omega] at this
  exact this
end Go.AM.Pure
end

section
/- The document's sum of bytes, its codes, and its blocks: the same bytes as the program's. -/
namespace Go.AM.Pure
open Go.AM
theorem xor64 {a b : Nat} (ha : a < 4294967296) (hb : b < 4294967296) : xorI .i64 (a : Int) (b : Int) = ((a ^^^ b : Nat) : Int) := by
  have h := Nat.xor_lt_two_pow (n := 32) ha hb
  unfold xorI
  have e : (BitVec.ofInt 64 (a : Int) ^^^ BitVec.ofInt 64 (b : Int)).toNat = a ^^^ b := by
    rw [BitVec.toNat_xor, BitVec.ofInt_natCast, BitVec.ofInt_natCast, BitVec.toNat_ofNat, BitVec.toNat_ofNat, Nat.mod_eq_of_lt (by omega), Nat.mod_eq_of_lt (by omega)]
  show IntKind.wrap .i64 ((BitVec.ofInt 64 (a : Int) ^^^ BitVec.ofInt 64 (b : Int)).toNat : Int) = _
  rw [e]
  exact Zge (by omega)
theorem Zdz (n : Int) : IntKind.wrap .u32 n = n % 4294967296 := by
  unfold IntKind.wrap
  rfl
theorem xor32 {a b : Nat} (ha : a < 4294967296) (hb : b < 4294967296) : xorI .u32 (a : Int) (b : Int) = ((a ^^^ b : Nat) : Int) := by
  have h := Nat.xor_lt_two_pow (n := 32) ha hb
  unfold xorI
  have e : (BitVec.ofInt 32 (a : Int) ^^^ BitVec.ofInt 32 (b : Int)).toNat = a ^^^ b := by
    rw [BitVec.toNat_xor, BitVec.ofInt_natCast, BitVec.ofInt_natCast, BitVec.toNat_ofNat, BitVec.toNat_ofNat, Nat.mod_eq_of_lt (by omega), Nat.mod_eq_of_lt (by omega)]
  show IntKind.wrap .u32 ((BitVec.ofInt 32 (a : Int) ^^^ BitVec.ofInt 32 (b : Int)).toNat : Int) = _
  rw [e, Zdz]
  omega
def stepN (n : Nat) : Nat := (n / 2) ^^^ (if n % 2 = 1 then 2197175160 else 0)
theorem Zll2 (n : Nat) (_ : n < 4294967296) : andI .u32 (n : Int) 1 = ((n % 2 : Nat) : Int) := by
  unfold andI
  have e : (BitVec.ofInt 32 (n : Int) &&& BitVec.ofInt 32 1).toNat = n % 4294967296 % 2 := by
    rw [BitVec.toNat_and, BitVec.ofInt_natCast, BitVec.toNat_ofNat, show (BitVec.ofInt 32 1).toNat = 2 ^ 1 - 1 from rfl, Nat.and_two_pow_sub_one_eq_mod]
  show IntKind.wrap .u32 ((BitVec.ofInt 32 (n : Int) &&& BitVec.ofInt 32 1).toNat : Int) = _
  rw [e, Zdz]
  omega
theorem shr1 (k : IntKind) (hk : 1 ≤ k.bits) (n : Nat) : shrI k (n : Int) 1 = ((n / 2 : Nat) : Int) := by
  unfold shrI
  rw [show min (Int.toNat 1) k.bits = 1 from Nat.min_eq_left hk, show (2 : Int) ^ 1 = 2 from rfl, show ((n / 2 : Nat) : Int) = (n : Int) / 2 from by omega, Int.fdiv_eq_ediv_of_nonneg _ (by omega)]
theorem Zdm1 {n : Nat} (h : n < 4294967296) : Zpq (n : Int) = (stepN n : Int) := by
  have hm : andI .u32 2197175160 (subI .u32 0 (andI .u32 (n : Int) 1)) = ((if n % 2 = 1 then 2197175160 else 0 : Nat) : Int) := by
    rw [Zll2 n h]
    rcases Nat.mod_two_eq_zero_or_one n with h2 | h2
    · rw [h2]; decide +kernel
    · rw [h2]; decide +kernel
  unfold Zpq stepN
  rw [hm, shr1 _ (by decide)]
  exact xor32 (by omega) (by split <;> omega)
def stepR (n b : Nat) : Nat := if n % 2 ≠ b % 2 then (n / 2) ^^^ 2197175160 else n / 2
theorem Zq1 {n b : Nat} (h : n < 4294967296) : stepR n b < 4294967296 := by
  unfold stepR
  split
  · exact Nat.xor_lt_two_pow (n := 32) (by omega) (by omega)
  · omega
theorem Ztq1 (n b : Nat) : stepN (n ^^^ b) = stepR n b ^^^ (b / 2) := by
  unfold stepN stepR
  have h1 : (n ^^^ b) / 2 = (n / 2) ^^^ (b / 2) := Nat.xor_div_two
  have h2 : (n ^^^ b) % 2 = 1 ↔ n % 2 ≠ b % 2 := by
    rw [Nat.xor_mod_two_eq_one]
    omega
  rw [h1]
  by_cases h : n % 2 ≠ b % 2
  · rw [if_pos (h2.2 h), if_pos h, Nat.xor_assoc, Nat.xor_assoc, Nat.xor_comm (b / 2)]
  · rw [if_neg (fun e => h (h2.1 e)), if_neg h, Nat.xor_zero]
def Zym : Nat → Nat → Nat → Nat
  | 0, n, _ => n
  | k + 1, n, b => Zym k (stepR n b) (b / 2)
theorem Zq7 : ∀ (k : Nat) {n b : Nat}, n < 4294967296 → Zym k n b < 4294967296
  | 0, _, _, h => h
  | k + 1, _, _, h => Zq7 k (Zq1 h)
theorem Zr7 : ∀ (k n b : Nat), n < 4294967296 → b < 2 ^ k → k ≤ 8 → crcN k ((n ^^^ b : Nat) : Int) = (Zym k n b : Int)
  | 0, n, b, _, hb, _ => by
    have : b = 0 := by simpa using hb
    subst this
    rw [Nat.xor_zero]; rfl
  | k + 1, n, b, hn, hb, hk => by
    have hb8 : b < 2 ^ 8 := Nat.lt_of_lt_of_le hb (Nat.pow_le_pow_right (by omega) hk)
    show crcN k (Zpq _) = (Zym k (stepR n b) (b / 2) : Int)
    rw [Zdm1 (Nat.xor_lt_two_pow (n := 32) hn (by omega)), Ztq1]
    exact Zr7 k _ _ (Zq1 hn) (by rw [Nat.pow_succ] at hb; omega) (by omega)
theorem Zr0 {o0 : ByteArray → Int → Int → Option Int} {s : ByteArray} {i : Nat} (hi : i < s.size) (hil : i < 100000000000) {b : Nat} (hb : byteAt s (i : Int) = (b : Int)) (hb8 : b < 256) : ∀ (d k m : Nat) (n : Nat), k + d = 8 → d < m → n < 4294967296 →
    Zra.l1 o0 m s (n : Int) (i : Int) (k : Int) = o0 s (Zym d n (b / 2 ^ k) : Int) ((i : Int) + 1)
  | 0, k, m, n, h, hm, _ => by
    obtain ⟨m, rfl⟩ : ∃ j, m = j + 1 := ⟨m - 1, by omega⟩
    show Zra.S1 _ _ _ _ _ _ = _
    unfold Zra.S1
    rw [lt_f (by omega), cond_false, Zu (by omega)]
    rfl
  | d + 1, k, m, n, h, hm, hn => by
    obtain ⟨m, rfl⟩ : ∃ j, m = j + 1 := ⟨m - 1, by omega⟩
    show Zra.S1 o0 (Zra.l1 o0 m) _ _ _ _ = _
    unfold Zra.S1
    have hsh : shrI .i64 (b : Int) (k : Int) = ((b / 2 ^ k : Nat) : Int) := by
      rw [Zmi _ _ (by omega), Int.natCast_ediv, Int.natCast_pow]; rfl
    have ih := Zr0 (o0 := o0) hi hil hb hb8 d (k + 1) m (stepR n (b / 2 ^ k)) (by omega) (by omega) (Zq1 hn)
    rw [show b / 2 ^ (k + 1) = b / 2 ^ k / 2 by rw [Nat.pow_succ, Nat.div_div_eq_div_mul]] at ih
    rw [lt_t (by omega), cond_true, Zfb, Zr (by omega), cond_true, le_t (by omega), cond_true, hb, Zge (by omega), hsh, and1, and1, Zu (by omega), shr1 _ (by decide)]
    show _ = o0 s (Zym d (stepR n (b / 2 ^ k)) (b / 2 ^ k / 2) : Int) ((i : Int) + 1)
    by_cases hne : n % 2 ≠ b / 2 ^ k % 2
    · rw [ne_t (by omega), cond_true, show (2197175160 : Int) = ((2197175160 : Nat) : Int) from rfl, xor64 (by omega) (by omega)]
      unfold stepR at ih ⊢
      rw [if_pos hne] at ih ⊢
      exact ih
    · rw [ne_f (by omega), cond_false]
      unfold stepR at ih ⊢
      rw [if_neg hne] at ih ⊢
      exact ih
theorem Zuq1 (n b : Nat) (hn : n < 4294967296) (hb : b < 256) : Zqq (n : Int) (b : Int) = (Zym 8 n b : Int) := by
  unfold Zqq
  rw [Zdz, show (b : Int) % 4294967296 = (b : Int) by omega, xor32 hn (by omega)]
  exact Zr7 8 n b hn hb (by omega)
theorem Zvq1 (s : ByteArray) (i : Int) : ∃ c : Fin 256, byteAt s i = (c.val : Int) :=
  ⟨⟨(s.data.toList.getD i.toNat 0).toNat, UInt8.toNat_lt _⟩, rfl⟩
theorem Zem1 {s : ByteArray} {i : Nat} (h : i < s.size) : (Zl s).drop i = byteAt s (i : Int) :: (Zl s).drop (i + 1) := by
  have hb := Zoe s i h
  have hl : i < (Zl s).length := by rw [Zla]; exact h
  rw [List.drop_eq_getElem_cons hl]
  rw [List.getElem?_eq_getElem hl] at hb
  injection hb with hb
  rw [hb]
theorem Zjh1 (s : ByteArray) (hs : s.size < 10000000000) : ∀ (d i m : Nat) (n : Nat), d = s.size - i → i ≤ s.size → 20 < m → n < 4294967296 →
    ∃ r : Nat, r < 4294967296 ∧ ((Zl s).drop i).foldl Zqq (n : Int) = (r : Int) ∧ Zra.l0 (m + d) s (n : Int) (i : Int) = some (xorI .i64 (r : Int) 4294967295) := by
  intro d
  induction d with
  | zero =>
    intro i m n hd hi hm hn
    have : i = s.size := by omega
    subst this
    obtain ⟨m, rfl⟩ : ∃ j, m = j + 1 := ⟨m - 1, by omega⟩
    refine ⟨n, hn, by rw [List.drop_eq_nil_of_le (by rw [Zla]; exact Nat.le_refl _)]; rfl, ?_⟩
    show Zra.S0 _ _ _ _ = _
    unfold Zra.S0
    rw [Zfb, lt_f (by omega), cond_false]
  | succ d ih =>
    intro i m n hd hi hm hn
    have hlt : i < s.size := by omega
    obtain ⟨c, hc⟩ := Zvq1 s (i : Int)
    have hin := Zr0 (o0 := Zra.l0 (m + d)) hlt (by omega) (b := c.val) hc c.isLt 8 0 (m + d) n rfl (by omega) hn
    obtain ⟨r, h1, h2, h3⟩ := ih (i + 1) m (Zym 8 n c.val) (by omega) (by omega) hm (Zq7 8 hn)
    refine ⟨r, h1, ?_, ?_⟩
    · rw [Zem1 hlt, List.foldl_cons, hc, Zuq1 n c.val hn c.isLt]
      exact h2
    · show Zra.S0 (Zra.l1 (Zra.l0 (m + d)) (m + d)) _ _ _ = _
      unfold Zra.S0
      rw [Nat.pow_zero, Nat.div_one] at hin
      rw [Zfb, lt_t (by omega), cond_true, show (0 : Int) = ((0 : Nat) : Int) from rfl, hin]
      exact h3
theorem Zla1 (s : ByteArray) (hs : s.size < 10000000000) : Zxp s = some (crcOf 0 (Zl s)) ∧ 0 ≤ crcOf 0 (Zl s) ∧ crcOf 0 (Zl s) < 4294967296 := by
  obtain ⟨r, h1, h2, h3⟩ := Zjh1 s hs s.size 0 (fu - s.size) 4294967295 (by omega) (by omega) (by unfold fu; omega) (by omega)
  rw [show fu - s.size + s.size = fu by unfold fu; omega] at h3
  rw [List.drop_zero] at h2
  have hx := Nat.xor_lt_two_pow (n := 32) h1 (show 4294967295 < 2 ^ 32 by omega)
  have hc : crcOf 0 (Zl s) = ((r ^^^ 4294967295 : Nat) : Int) := by
    unfold crcOf
    rw [show xorI .u32 4294967295 (IntKind.wrap .u32 0) = ((4294967295 : Nat) : Int) by decide +kernel, h2, show (4294967295 : Int) = ((4294967295 : Nat) : Int) from rfl, xor32 (by omega) h1, Nat.xor_comm]
    exact Zge (by omega)
  refine ⟨?_, by rw [hc]; omega, by rw [hc]; omega⟩
  unfold Zxp
  have hm : Zra 0 s = some (xorI .i64 (r : Int) 4294967295) := by
    show Zra.S (Zra.l0 fu) 0 s = _
    unfold Zra.S
    rw [show xorI .i64 (andI .i64 0 4294967295) 4294967295 = ((4294967295 : Nat) : Int) by decide +kernel]
    exact h3
  rw [hm, show (4294967295 : Int) = ((4294967295 : Nat) : Int) from rfl, xor64 h1 (by omega), hc]
  rfl
theorem Zp9 (s : ByteArray) (hs : s.size < 10000000000) : Zvl s = some (ofBytes (sealB (Zl s))) := by
  obtain ⟨h1, h2, h3⟩ := Zla1 s hs
  unfold Zvl
  rw [h1, Option.bind_some]
  have hb : ∀ k : Nat, k ≤ 32 → IntKind.wrap .u8 (andI .i64 (shrI .i64 (crcOf 0 (Zl s)) (k : Int)) 255) = IntKind.wrap .u8 (shrI .u32 (IntKind.wrap .u32 (crcOf 0 (Zl s))) (k : Int)) := fun k hk => by
    have e2 : shrI .u32 (crcOf 0 (Zl s)) (k : Int) = crcOf 0 (Zl s) / 2 ^ k := by
      unfold shrI
      rw [show min (Int.toNat (k : Int)) IntKind.u32.bits = k from Nat.min_eq_left hk, Int.fdiv_eq_ediv_of_nonneg _ (Int.le_of_lt (Zpc k))]
    rw [Zdz, Int.emod_eq_of_lt h2 h3, Zmi _ _ (by omega), Zar1, e2, Zxf, Zxf]
    omega
  have h0 := hb 0 (by omega)
  rw [show shrI .i64 (crcOf 0 (Zl s)) ((0 : Nat) : Int) = crcOf 0 (Zl s) by rw [Zmi _ _ (by omega), Int.pow_zero, Int.ediv_one]] at h0
  have h8 := hb 8 (by omega)
  have h16 := hb 16 (by omega)
  have h24 := hb 24 (by omega)
  simp only [show ((8 : Nat) : Int) = 8 from rfl, show ((16 : Nat) : Int) = 16 from rfl, show ((24 : Nat) : Int) = 24 from rfl, show ((0 : Nat) : Int) = 0 from rfl] at h0 h8 h16 h24
  rw [h0, h8, h16, h24]
  show (bif roomS s (ofBytes (sumB (Zl s))) then some (addS s (ofBytes (sumB (Zl s)))) else none) = _
  have r1 : roomS s (ofBytes (sumB (Zl s))) = true := decide_eq_true (by rw [Zp]; show s.size + 4 ≤ _; omega)
  rw [r1, cond_true]
  congr 1
  conv => lhs; rw [← Zze s, Zhd]
  rw [Zze]
  rfl
theorem Zfm1 (p : List Int) (hp : p.length ≤ 65536) (d : List Int) (hd : d.length ≤ 65536) (h64 : ∀ x ∈ d, in64 x) (a : List Int) (ha : a.length ≤ 10) : ∀ (g i n : Nat), g = d.length - i → i ≤ d.length → g < n →
    Zha.l0 (Zha.t1 fu) n d p (ofBytes (a ++ intsB (d.take i))) (i : Int) = some (ofBytes (a ++ (intsB d ++ packB p (widN p))), 0) := by
  intro g
  induction g with
  | zero =>
    intro i n hg hi hn
    have : i = d.length := by omega
    subst this
    obtain ⟨n, rfl⟩ : ∃ k, n = k + 1 := ⟨n - 1, by omega⟩
    show Zha.S0 Zha.S1 _ _ _ _ _ = _
    unfold Zha.S0
    rw [Zi, lt_f (by omega), cond_false, List.take_length]
    unfold Zha.S1
    have k1 := Zii d
    obtain ⟨_, w2, _⟩ := Zne p hp
    have hb : p.length * widN p ≤ 65536 * 64 := Nat.mul_le_mul hp w2
    have hpl := Zwd p (widN p)
    have r1 : roomS (ofBytes (a ++ intsB d)) (ofBytes (packB p (widN p))) = true := decide_eq_true (by rw [Zp, Zp, List.length_append]; omega)
    rw [Zqp p hp, Option.bind_some, r1, cond_true, Zhd, List.append_assoc]
  | succ g ih =>
    intro i n hg hi hn
    obtain ⟨n, rfl⟩ : ∃ k, n = k + 1 := ⟨n - 1, by omega⟩
    have hlt : i < d.length := by omega
    have k1 := Zii (d.take i)
    rw [List.length_take] at k1
    have k2 := Zod d[i]
    have r1 : roomS (ofBytes (a ++ intsB (d.take i))) (ofBytes (vB d[i])) = true := decide_eq_true (by rw [Zp, Zp, List.length_append]; omega)
    have hih := ih (i + 1) n (by omega) (by omega) (by omega)
    rw [take_one hlt, Zgt, ← List.append_assoc] at hih
    show Zha.S0 _ (Zha.l0 (Zha.t1 fu) n) _ _ _ _ = _
    unfold Zha.S0
    rw [Zi, lt_t (by omega), cond_true, Zr (by omega), cond_true, Zaa hlt, Zte (h64 _ (List.getElem_mem hlt)), Option.bind_some, Znd, r1, cond_true, Zhd, Zu (by omega)]
    exact hih
theorem Zr1 (l : List Int) (hl : l.length ≤ 65536) (h64 : ∀ x ∈ l, in64 x) : Zha l = some (ofBytes (dictB l (widN (Zua l))), 0) := by
  show Zha.S (Zha.l0 (Zha.t1 fu) fu) l = _
  unfold Zha.S dictB
  rw [Zi, lt_f (by omega), cond_false]
  by_cases h0 : l.length = 0
  · rw [eq_t (by omega), cond_true, if_pos h0]
    rfl
  · have hdl := Zmh l
    have hpl := Zfg l
    rw [eq_f (by omega), cond_false, if_neg h0, Zq9 l hl, plcI, Option.bind_some]
    dsimp only
    rw [Zi, Zte (by unfold in64; omega), Option.bind_some, Znd]
    have := Zfm1 (Zua l) (by omega) (dictI l) (by omega) (fun x hx => h64 x (((Zve l).2 x).1 hx)) (vB ((dictI l).length : Int)) (Zod _).2 (dictI l).length 0 fu (by omega) (by omega) (by unfold fu; omega)
    rw [List.take_zero, show intsB [] = [] from rfl, List.append_nil] at this
    exact this
theorem Zm0 (l : List ByteArray) (hl : l.length ≤ 65536) (hsh : Short l) : Zij l = some (ofBytes (Znj l (widN (Zba l))), 0) := by
  unfold Zij Znj
  rw [Zi, lt_f (by omega), cond_false]
  by_cases h0 : l.length = 0
  · rw [eq_t (by omega), cond_true, if_pos h0]
    rfl
  · have hdl := Zeg l
    have hpl : (Zba l).length = l.length := Zif _ _
    obtain ⟨_, w2, _⟩ := Zne (Zba l) (by omega)
    have hb : (Zba l).length * widN (Zba l) ≤ 65536 * 64 := Nat.mul_le_mul (by omega) w2
    have hpb := Zwd (Zba l) (widN (Zba l))
    have k1 := Zod ((dictT l).length : Int)
    have k2 := Zue _ hsh.dict
    rw [eq_f (by omega), cond_false, if_neg h0, Zmq l hl, Option.bind_some]
    dsimp only
    rw [Zlj _ (by omega) hsh.dict, Option.bind_some]
    dsimp only
    have r1 : roomS (ofBytes (vB ((dictT l).length : Int))) (ofBytes (Zka (dictT l))) = true := decide_eq_true (by rw [Zp, Zp]; omega)
    have r2 : roomS (ofBytes (vB ((dictT l).length : Int) ++ Zka (dictT l))) (ofBytes (packB (Zba l) (widN (Zba l)))) = true := decide_eq_true (by rw [Zp, Zp, List.length_append]; omega)
    rw [ne_f rfl, cond_false, Zi, Zte (by unfold in64; omega), Option.bind_some, Znd, r1, cond_true, Zqp (Zba l) (by omega), Option.bind_some, Zhd, r2, cond_true, Zhd, List.append_assoc]
theorem Zs1 (l : List Int) (hl : l.length ≤ 65536) (h64 : ∀ x ∈ l, in64 x) (code : Int) : Znk l code = some (match numB l code with | some b => (ofBytes b, true) | none => (eB, false)) := by
  unfold Znk numB
  by_cases h1 : code = 1
  · rw [eq_t h1, cond_true, if_pos h1, Zu1 l hl]
    rfl
  · rw [eq_f h1, cond_false, if_neg h1]
    by_cases h2 : code = 2
    · obtain ⟨_, k2, k3⟩ := Zcj l hl
      rw [eq_t h2, cond_true, if_pos h2, Zs0 l hl, Option.bind_some, Zpu _ k3 (by rw [k2]; exact hl) (fun r hr => h64 _ (by rw [← k2]; exact Zft k3 r hr))]
      rfl
    · rw [eq_f h2, cond_false, if_neg h2]
      by_cases h3 : code = 3
      · rw [eq_t h3, cond_true, if_pos h3, Zpa1 l hl h64]
        rfl
      · rw [eq_f h3, cond_false, if_neg h3]
        by_cases h4 : code = 4
        · rw [eq_t h4, cond_true, if_pos h4, Zr1 l hl h64]
          rfl
        · rw [eq_f h4, cond_false, if_neg h4]
          by_cases h5 : code = 5
          · obtain ⟨_, k2, _⟩ := Zne l hl
            have hb : l.length * widN l ≤ 65536 * 64 := Nat.mul_le_mul hl k2
            have hpl := Zwd l (widN l)
            have r1 : roomS (ofBytes [(widN l : Int)]) (ofBytes (packB l (widN l))) = true := decide_eq_true (by rw [Zp, Zp]; simp; omega)
            rw [eq_t h5, cond_true, if_pos h5, Zbj l hl, Option.bind_some, Zil l k2 hl (Nat.le_refl _), Option.bind_some, Zez k2]
            dsimp only
            rw [r1, cond_true, Zhd]
            rfl
          · rw [eq_f h5, cond_false, if_neg h5]
theorem Za6 (l : List ByteArray) (hl : l.length ≤ 65536) (hsh : Short l) (code : Int) : Zvm l code = some (match wordB l code with | some b => (ofBytes b, true) | none => (eB, false)) := by
  have hpl : (Zba l).length = l.length := Zif _ _
  unfold Zvm wordB
  by_cases h1 : code = 1
  · rw [eq_t h1, cond_true, if_pos h1, Zlj l hl hsh]
    rfl
  · rw [eq_f h1, cond_false, if_neg h1]
    by_cases h2 : code = 2
    · rw [eq_t h2, cond_true, if_neg (show ¬ code = 4 by omega), if_pos h2, Zi]
      unfold runTB
      by_cases h0 : l.length = 0
      · rw [lt_f (by omega), cond_false, if_pos h0]
        rfl
      · obtain ⟨r1, r2, r3⟩ := Zcj (Zba l) (by omega)
        have hdl := Zeg l
        have hsp := Zvg l
        have k1 := Zod ((dictT l).length : Int)
        have k2 := Zue _ hsh.dict
        have k3 := Zqh (runO (Zba l))
        have k4 := Zef _ _ _ r3
        rw [r2] at k4
        have hrp := Zpu (runO (Zba l)) r3 (by rw [r2]; omega) (fun r hr => by
          have hm : r.1 ∈ Zba l := r2 ▸ Zft r3 r hr
          have := Zjm hsp r.1 hm
          unfold in64; omega)
        have q1 : roomS (ofBytes (vB ((dictT l).length : Int))) (ofBytes (Zka (dictT l))) = true := decide_eq_true (by rw [Zp, Zp]; omega)
        have q2 : roomS (ofBytes (vB ((dictT l).length : Int) ++ Zka (dictT l))) (ofBytes (runB (runO (Zba l)))) = true := decide_eq_true (by rw [Zp, Zp, List.length_append]; omega)
        rw [lt_t (by omega), cond_true, if_neg h0, Zmq l hl, Option.bind_some]
        dsimp only
        rw [Zlj _ (by omega) hsh.dict, Option.bind_some, Zs0 (Zba l) (by omega), Option.bind_some, hrp, Option.bind_some, Zi, Zte (by unfold in64; omega), Option.bind_some, Znd]
        dsimp only
        rw [q1, cond_true, Zhd, q2, cond_true, Zhd, List.append_assoc]
    · rw [eq_f h2, cond_false]
      by_cases h4 : code = 4
      · rw [eq_t h4, cond_true, if_pos h4, Zm0 l hl hsh]
        rfl
      · rw [eq_f h4, cond_false, if_neg h4, if_neg h2]
theorem Zpp {l : List Cell} {kind : Int} (h : MayB l kind) (h64 : ∀ c ∈ l, in64 c.2.1) (code : Int) : Zul (restC l) kind code = some (match valB (restC l) kind code with | some b => (ofBytes b, true) | none => (eB, false)) := by
  have hle := Zjf l
  have h2 := h.2.1
  unfold Zul valB
  by_cases hk : kind = 1
  · rw [eq_t hk, cond_true, if_pos hk, Zr9 _ (by omega), Option.bind_some, Zs1 _ (by rw [List.length_map]; omega) (fun x hx => by
      obtain ⟨c, hc, rfl⟩ := List.mem_map.1 hx
      unfold restC at hc
      exact h64 c (List.mem_filter.1 hc).1)]
    rfl
  · rw [eq_f hk, cond_false, if_neg hk, Zd6 _ (by omega), Option.bind_some, Za6 _ (by rw [List.length_map]; omega) (Zrp h)]
    rfl
theorem Zgm1 (l : List Cell) (hl : l.length ≤ 64) (kind : Int) : ∀ (d i n : Nat), d = l.length - i → i ≤ l.length → d < n →
    ∃ b, Zqb.l1 n l kind (i : Int) = some b ∧ (b = true ↔ ∀ j (h : j < l.length), i ≤ j → Zfd l[j] = true ∧ (l[j].1 = 0 ∨ l[j].1 = kind)) := by
  intro d
  induction d with
  | zero =>
    intro i n hd hi hn
    obtain ⟨n, rfl⟩ : ∃ k, n = k + 1 := ⟨n - 1, by omega⟩
    refine ⟨true, ?_, ⟨fun _ j h hj => absurd h (by omega), fun _ => rfl⟩⟩
    show Zqb.S1 _ _ _ _ = _
    unfold Zqb.S1
    rw [Zi, lt_f (by omega), cond_false]
  | succ d ih =>
    intro i n hd hi hn
    obtain ⟨n, rfl⟩ : ∃ k, n = k + 1 := ⟨n - 1, by omega⟩
    have hlt : i < l.length := by omega
    obtain ⟨b, h1, h2⟩ := ih (i + 1) n (by omega) (by omega) (by omega)
    show ∃ b, Zqb.S1 (Zqb.l1 n) _ _ _ = _ ∧ _
    unfold Zqb.S1
    rw [Zi, lt_t (by omega), cond_true, Zr (by omega), cond_true, Zaa hlt, cond_true, cond_true, Zu (by omega)]
    have hstep : (Zfd l[i] = true ∧ (l[i].1 = 0 ∨ l[i].1 = kind)) → ∃ b, Zqb.l1 n l kind ((i : Int) + 1) = some b ∧ (b = true ↔ ∀ j (h : j < l.length), i ≤ j → Zfd l[j] = true ∧ (l[j].1 = 0 ∨ l[j].1 = kind)) := fun hg =>
      ⟨b, h1, h2.trans ⟨fun h j hj hij => by
        by_cases e : i = j
        · subst e; exact hg
        · exact h j hj (by omega), fun h j hj hij => h j hj (by omega)⟩⟩
    have hbad : ¬ (Zfd l[i] = true ∧ (l[i].1 = 0 ∨ l[i].1 = kind)) → ∃ b, some false = some b ∧ (b = true ↔ ∀ j (h : j < l.length), i ≤ j → Zfd l[j] = true ∧ (l[j].1 = 0 ∨ l[j].1 = kind)) := fun hg =>
      ⟨false, rfl, ⟨fun h => (by cases h), fun h => absurd (h i hlt (Nat.le_refl _)) hg⟩⟩
    by_cases hm : Zfd l[i] = true
    · rw [hm, Bool.not_true, cond_false]
      by_cases h0 : l[i].1 = 0
      · rw [ne_f h0, cond_false]
        exact hstep ⟨hm, .inl h0⟩
      · rw [ne_t h0, cond_true]
        by_cases hk : l[i].1 = kind
        · rw [ne_f hk, cond_false]
          exact hstep ⟨hm, .inr hk⟩
        · rw [ne_t hk, cond_true]
          exact hbad fun h => h.2.elim h0 hk
    · rw [Bool.not_eq_true] at hm
      rw [hm, Bool.not_false, cond_true]
      exact hbad fun h => by rw [hm] at h; exact absurd h.1 (by decide)
theorem Zhl (l : List Cell) (kind : Int) : ∃ b, Zqb l kind = some b ∧ (b = true ↔ MayB l kind) := by
  show ∃ b, Zqb.S (Zqb.t0 fu) l kind = some b ∧ _
  unfold Zqb.S
  rw [Zi]
  by_cases h1 : 1 ≤ l.length
  · by_cases h2 : l.length ≤ 64
    · rw [lt_f (by omega), cond_false, lt_f (by omega), cond_false]
      obtain ⟨b, k1, k2⟩ := Zgm1 l h2 kind l.length 0 18446744073709551615 (by omega) (by omega) (by omega)
      have ht : Zqb.t0 fu l kind = some b := k1
      have hb : (kind = 1 ∨ kind = 2) → (b = true ↔ MayB l kind) := fun hk => k2.trans
        ⟨fun h => ⟨h1, h2, hk, fun c hc => by
          obtain ⟨j, hj, rfl⟩ := List.mem_iff_getElem.1 hc
          exact h j hj (Nat.zero_le _)⟩, fun h j hj _ => h.2.2.2 _ (List.getElem_mem hj)⟩
      by_cases k1 : kind = 1
      · rw [ne_f k1, cond_false]
        exact ⟨b, ht, hb (.inl k1)⟩
      · rw [ne_t k1, cond_true]
        by_cases k2 : kind = 2
        · rw [ne_f k2, cond_false]
          exact ⟨b, ht, hb (.inr k2)⟩
        · rw [ne_t k2, cond_true]
          exact ⟨false, rfl, ⟨fun h => (by cases h), fun h => absurd h.2.2.1 (by omega)⟩⟩
    · rw [lt_f (by omega), cond_false, lt_t (by omega), cond_true]
      exact ⟨false, rfl, ⟨fun h => (by cases h), fun h => absurd h.2.1 h2⟩⟩
  · rw [lt_t (by omega), cond_true]
    exact ⟨false, rfl, ⟨fun h => (by cases h), fun h => absurd h.1 h1⟩⟩
theorem Zma1 {l : List Cell} {kind code : Int} (h : MayB l kind) (h64 : ∀ c ∈ l, in64 c.2.1) {b : List Int} (hb : valB (restC l) kind code = some b) : Zkg l kind code = some (ofBytes (sealB (blkT l kind code b)), 0) := by
  obtain ⟨v1, v2⟩ := Zw1 h hb
  have hc := Zsp hb
  obtain ⟨m, m1, m2⟩ := Zhl l kind
  rw [m2.2 h] at m1
  obtain ⟨h1, h2, h3, _⟩ := id h
  have hkr : 0 ≤ kind ∧ kind < 256 := by rcases h3 with rfl | rfl <;> omega
  have hml := Ztp l
  unfold Zkg
  rw [m1, Option.bind_some, Bool.not_true, cond_false, Znq l (by omega), Option.bind_some]
  dsimp only
  rw [Zpp h h64, hb, Option.bind_some]
  dsimp only
  have w8 : ∀ x : Int, 0 ≤ x ∧ x < 256 → IntKind.wrap .u8 x = x := fun x hx => by rw [Zxf]; omega
  rw [Bool.not_true, cond_false, Zi, Zfb, Zp, w8 kind hkr, w8 code (by omega), w8 _ (by omega), w8 _ (by omega)]
  have r1 : roomS (ofBytes [kind, code, (l.length : Int), ((maskL l).length : Int)]) (ofBytes (maskL l)) = true := decide_eq_true (by rw [Zp, Zp]; simp; omega)
  rw [r1, cond_true, Zhd]
  have r2 : roomS (ofBytes ([kind, code, (l.length : Int), ((maskL l).length : Int)] ++ maskL l)) (ofBytes b) = true := decide_eq_true (by rw [Zp, Zp]; simp; omega)
  rw [r2, cond_true, Zhd, List.append_assoc]
  show (Zvl (ofBytes (blkT l kind code b))).bind _ = _
  rw [Zp9 _ (by rw [Zp]; unfold blkT; simp; omega), Option.bind_some, Zvd (Zy1 h2 hkr (by omega) v1)]
theorem Zwq1 {l : List Cell} {kind code : Int} (h : MayB l kind) (h64 : ∀ c ∈ l, in64 c.2.1) (hb : valB (restC l) kind code = none) : Zkg l kind code = some (eB, 1) := by
  obtain ⟨m, m1, m2⟩ := Zhl l kind
  rw [m2.2 h] at m1
  have h2 := h.2.1
  unfold Zkg
  rw [m1, Option.bind_some, Bool.not_true, cond_false, Znq l (by omega), Option.bind_some]
  dsimp only
  rw [Zpp h h64, hb, Option.bind_some]
  rfl
theorem Zml2 {l : List Cell} {kind code : Int} (h : ¬ MayB l kind) : Zkg l kind code = some (eB, 1) := by
  obtain ⟨m, m1, m2⟩ := Zhl l kind
  have : m = false := by
    cases m with
    | false => rfl
    | true => exact absurd (m2.1 rfl) h
  unfold Zkg
  rw [m1, this]
  rfl
end Go.AM.Pure
end

section
/- BlockPuts and BlockBest. -/
namespace Go.AM.Pure
open Go.AM
theorem Zka1 (l : List Cell) (most : Int) (h0 : 0 ≤ most) (hm : most < 1000000) : ∀ (d i n : Nat), d = most.toNat - i → (i : Int) ≤ most → d < n →
    ∃ b, Znc.l0 n l most (i : Int) = some b ∧ (b = true → (l.length : Int) ≤ most) := by
  intro d
  induction d with
  | zero =>
    intro i n hd hi hn
    obtain ⟨m, rfl⟩ : ∃ m, n = m + 1 := ⟨n - 1, by omega⟩
    show ∃ b, Znc.S0 (Znc.l0 m) l most (i : Int) = some b ∧ _
    unfold Znc.S0
    rw [Zi, lt_f (show most ≤ (i : Int) by omega), cond_false]
    refine ⟨decide ((l.length : Int) ≤ most), ?_, of_decide_eq_true⟩
    cases ltI (i : Int) (l.length : Int) <;> rfl
  | succ d ih =>
    intro i n hd hi hn
    obtain ⟨m, rfl⟩ : ∃ m, n = m + 1 := ⟨n - 1, by omega⟩
    show ∃ b, Znc.S0 (Znc.l0 m) l most (i : Int) = some b ∧ _
    unfold Znc.S0
    rw [Zi, lt_t (show (i : Int) < most by omega), cond_true]
    by_cases h : (i : Int) < l.length
    · have h1 : i < l.length := by omega
      rw [lt_t h, cond_true, Zr (by omega), cond_true, Zaa h1, Zu (by omega)]
      by_cases h3 : 100 < lenS l[i].2.2
      · exact ⟨false, by rw [lt_t h3, cond_true], by simp⟩
      · rw [lt_f (by omega), cond_false]
        exact ih (i + 1) m (by omega) (by omega) (by omega)
    · refine ⟨decide ((l.length : Int) ≤ most), ?_, of_decide_eq_true⟩
      rw [lt_f (by omega), cond_false]
      rfl
theorem Zkl2 (l : List Cell) : ∃ b, Znc l 70 = some b ∧ (b = true → l.length ≤ 70) := by
  obtain ⟨b, h1, h2⟩ := Zka1 l 70 (by omega) (by omega) 70 0 fu (by omega) (by omega) (by unfold fu; omega)
  exact ⟨b, h1, fun h => by have := h2 h; omega⟩
theorem Zc71 {l : List Cell} (hl : l.length ≤ 70) (h64 : ∀ c ∈ l, in64 c.2.1) (kind code : Int) :
    (Zhe l kind code = some (eB, 1) ∧ Zkg l kind code = some (eB, 1)) ∨
    ∃ b, MayB l kind ∧ valB (restC l) kind code = some b ∧ Zhe l kind code = some (ofBytes (sealB (blkT l kind code b)), 0) ∧ Zkg l kind code = some (ofBytes (sealB (blkT l kind code b)), 0) := by
  by_cases hm : MayB l kind
  · cases hv : valB (restC l) kind code with
    | none => exact .inl ⟨Zg71 hm hv, Zwq1 hm h64 hv⟩
    | some b => exact .inr ⟨b, hm, rfl, Zg6 hm hv, Zma1 hm h64 hv⟩
  · exact .inl ⟨Zuu (by omega) hm, Zml2 hm⟩
def Good (l : List Cell) (kind : Int) (p : Nat) (B : ByteArray) (w : Int) : Prop :=
  1 ≤ w ∧ ∃ vb, valB (restC l) kind w = some vb ∧ B = ofBytes (sealB (blkT l kind w vb)) ∧ B.size ≤ p
theorem Zqq1 {l : List Cell} {kind : Int} (hl : l.length ≤ 70) (h64 : ∀ c ∈ l, in64 c.2.1) (p : Nat) : ∀ (d k n m : Nat) (B : ByteArray) (w : Int), k + d = 6 → d < n → d < m → Good l kind p B w →
    ∃ B' w', Zia.l0 (Zia.t1 fu) n l kind B w (k : Int) = some (B', w', 0) ∧ Zob.l0 m l kind B w (k : Int) = some (B', w', 0) ∧ Good l kind p B' w' := by
  intro d
  induction d with
  | zero =>
    intro k n m B w hk hn hm hg
    obtain ⟨n, rfl⟩ : ∃ j, n = j + 1 := ⟨n - 1, by omega⟩
    obtain ⟨m, rfl⟩ : ∃ j, m = j + 1 := ⟨m - 1, by omega⟩
    refine ⟨B, w, ?_, ?_, hg⟩
    · show Zia.S0 Zia.S1 _ _ _ _ _ _ = _
      unfold Zia.S0
      rw [le_f (by omega), cond_false]
      unfold Zia.S1
      have := hg.1
      rw [eq_f (by omega), cond_false]
    · show Zob.S0 _ _ _ _ _ _ = _
      unfold Zob.S0
      rw [le_f (by omega), cond_false]
  | succ d ih =>
    intro k n m B w hk hn hm hg
    obtain ⟨n, rfl⟩ : ∃ j, n = j + 1 := ⟨n - 1, by omega⟩
    obtain ⟨m, rfl⟩ : ∃ j, m = j + 1 := ⟨m - 1, by omega⟩
    have hw := hg.1
    show ∃ B' w', Zia.S0 _ (Zia.l0 (Zia.t1 fu) n) _ _ _ _ _ = _ ∧ Zob.S0 (Zob.l0 m) _ _ _ _ _ = _ ∧ _
    unfold Zia.S0 Zob.S0
    rw [le_t (by omega), cond_true, cond_true, eq_f (show ¬ w = 0 by omega), Zu (by omega)]
    rcases Zc71 hl h64 kind (k : Int) with ⟨h1, h2⟩ | ⟨vb, hm', hv, h1, h2⟩
    · rw [h1, h2, Option.bind_some, Option.bind_some]
      dsimp only
      rw [eq_f (by omega), cond_false, cond_false]
      exact ih (k + 1) n m B w (by omega) (by omega) (by omega) hg
    · rw [h1, h2, Option.bind_some, Option.bind_some]
      dsimp only
      rw [eq_t rfl, cond_true, cond_false, cond_true, cond_false, Zfb, Zfb]
      by_cases hlt : ((ofBytes (sealB (blkT l kind (k : Int) vb))).size : Int) < (B.size : Int)
      · rw [lt_t hlt, cond_true, cond_true]
        refine ih (k + 1) n m _ _ (by omega) (by omega) (by omega) ⟨?_, vb, hv, rfl, ?_⟩
        · exact (Zsp hv).1
        · obtain ⟨_, _, _, _, h⟩ := hg
          omega
      · rw [lt_f (by omega), cond_false, cond_false]
        exact ih (k + 1) n m B w (by omega) (by omega) (by omega) hg
theorem Zrq1 {l : List Cell} {kind : Int} (h : ∀ k, Zhe l kind k = some (eB, 1)) : ∀ (d k n : Nat), k + d = 6 → d < n →
    Zia.l0 (Zia.t1 fu) n l kind eB 0 (k : Int) = some (eB, 0, 1) := by
  intro d
  induction d with
  | zero =>
    intro k n hk hn
    obtain ⟨n, rfl⟩ : ∃ j, n = j + 1 := ⟨n - 1, by omega⟩
    show Zia.S0 Zia.S1 _ _ _ _ _ _ = _
    unfold Zia.S0
    rw [le_f (by omega), cond_false]
    rfl
  | succ d ih =>
    intro k n hk hn
    obtain ⟨n, rfl⟩ : ∃ j, n = j + 1 := ⟨n - 1, by omega⟩
    show Zia.S0 _ (Zia.l0 (Zia.t1 fu) n) _ _ _ _ _ = _
    unfold Zia.S0
    rw [le_t (by omega), cond_true, h, Option.bind_some, Zu (by omega)]
    exact ih (k + 1) n (by omega) (by omega)
theorem Zcm1 (l : List Cell) (kind : Int) : ∃ b, valB l kind 1 = some b := by
  unfold valB
  split
  · exact ⟨_, rfl⟩
  · exact ⟨_, rfl⟩
theorem Zsq1 {l : List Cell} (hl : l.length ≤ 70) (h64 : ∀ c ∈ l, in64 c.2.1) (kind : Int) :
    (¬ MayB l kind ∧ Zia l kind = some (eB, 0, 1) ∧ Zob l kind = some (eB, 0, 1)) ∨
    ∃ pb B w, MayB l kind ∧ valB (restC l) kind 1 = some pb ∧ Zia l kind = some (B, w, 0) ∧ Zob l kind = some (B, w, 0) ∧ Good l kind (ofBytes (sealB (blkT l kind 1 pb))).size B w := by
  obtain ⟨m, m1, m2⟩ := Zhl l kind
  by_cases hm : MayB l kind
  · obtain ⟨pb, hpb⟩ := Zcm1 (restC l) kind
    have h1 := Zg6 hm hpb
    have h2 := Zma1 hm h64 hpb
    obtain ⟨B, w, k1, k2, k3⟩ := Zqq1 hl h64 (ofBytes (sealB (blkT l kind 1 pb))).size 4 2 18446744073709551615 18446744073709551615 (ofBytes (sealB (blkT l kind 1 pb))) 1 (by omega) (by omega) (by omega) ⟨by omega, pb, hpb, rfl, Nat.le_refl _⟩
    refine .inr ⟨pb, B, w, hm, hpb, ?_, ?_, k3⟩
    · show Zia.S0 (Zia.t1 fu) (Zia.l0 (Zia.t1 fu) 18446744073709551615) l kind eB 0 1 = _
      unfold Zia.S0
      rw [le_t (by omega), cond_true, h1, Option.bind_some]
      exact k1
    · show Zob.S (Zob.l0 fu) l kind = _
      unfold Zob.S
      rw [m1, m2.2 hm, Option.bind_some, Bool.not_true, cond_false]
      show Zob.S0 (Zob.l0 18446744073709551615) l kind eB 0 1 = _
      unfold Zob.S0
      rw [le_t (by omega), cond_true, h2, Option.bind_some]
      exact k2
  · refine .inl ⟨hm, Zrq1 (fun k => Zuu (by omega) hm) 5 1 fu (by omega) (by unfold fu; omega), ?_⟩
    have : m = false := by
      cases m with
      | false => rfl
      | true => exact absurd (m2.1 rfl) hm
    show Zob.S (Zob.l0 fu) l kind = _
    unfold Zob.S
    rw [m1, this]
    rfl
theorem Zo9 (l : List Cell) (kind : Int) (h64 : ∀ c ∈ l, in64 c.2.1) : Zwl l kind = some true := by
  obtain ⟨b, hb, hb2⟩ := Zkl2 l
  unfold Zwl
  rw [hb, Zul2, Option.bind_some]
  cases b with
  | false => rfl
  | true =>
    have hl := hb2 rfl
    rw [Bool.not_true, cond_false]
    rcases Zsq1 hl h64 kind with ⟨_, h1, h2⟩ | ⟨pb, B, w, hm, hpb, h1, h2, _, vb, hv, rfl, hsz⟩
    · rw [h1, h2, Option.bind_some, Option.bind_some]
      dsimp only
      rw [eqS_t rfl]
      rfl
    · have ht := (Zva1 (Zh71 hm h64 hv)).1
      have hp := Zg6 hm hpb
      rw [h1, h2, Option.bind_some, Option.bind_some]
      dsimp only
      rw [eqS_t rfl, Bool.not_true, cond_false, ne_f rfl, cond_false, ne_f rfl, cond_false, cond_false, hp, Option.bind_some, ht, Option.bind_some]
      dsimp only
      rw [eq_t rfl, cond_true, Zfb, Zfb, le_t (by omega), cond_true, cond_true, Zx2 l (by omega)]
      rfl
end Go.AM.Pure
end
