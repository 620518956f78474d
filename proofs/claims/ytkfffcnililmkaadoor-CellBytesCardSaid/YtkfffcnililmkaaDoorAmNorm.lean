/- Where ways meet: a state cut down to what is kept, under new names. -/
import Derived.Test.YtkfffcnililmkaaDoorAmStep
namespace Go.AM
open Go.RowKit (Below)
set_option linter.unusedSectionVars false
variable [Lay]
section
variable {P : Program} {B : Bd} {ok0 : Nat → Nat → Prop} {w0 w w' : World} {g g' : G} {σ σ1 : St} {a : Act} {o : Oper} {E : Env}

/-- Each new name once, each old one but 0 once. -/
def Names : List (Nat × Nat) → Prop
  | [] => True
  | p :: s => (∀ q ∈ s, q.1 ≠ p.1) ∧ (p.2 ≠ 0 → ∀ q ∈ s, q.2 ≠ p.2) ∧ Names s

theorem Names.inj : ∀ {s : List (Nat × Nat)}, Names s → ∀ {n m x : Nat}, (n, x) ∈ s → (m, x) ∈ s → x ≠ 0 → n = m
  | [], _, _, _, _, h, _, _ => by cases h
  | p :: s, hn, n, m, x, h1, h2, hx => by
    rcases List.mem_cons.1 h1 with k1 | k1 <;> rcases List.mem_cons.1 h2 with k2 | k2
    · rw [← k1] at k2; cases k2; rfl
    · rw [← k1] at hn; exact absurd rfl (hn.2.1 hx (m, x) k2)
    · rw [← k2] at hn; exact absurd rfl (hn.2.1 hx (n, x) k1)
    · exact Names.inj hn.2.2 k1 k2 hx

theorem Names.fn : ∀ {s : List (Nat × Nat)}, Names s → ∀ {n x y : Nat}, (n, x) ∈ s → (n, y) ∈ s → x = y
  | [], _, _, _, _, h, _ => by cases h
  | p :: s, hn, n, x, y, h1, h2 => by
    rcases List.mem_cons.1 h1 with k1 | k1 <;> rcases List.mem_cons.1 h2 with k2 | k2
    · rw [← k1] at k2; cases k2; rfl
    · rw [← k1] at hn; exact absurd rfl (hn.1 (n, y) k2)
    · rw [← k2] at hn; exact absurd rfl (hn.1 (n, x) k1)
    · exact Names.fn hn.2.2 k1 k2

/-- What a mark became. -/
def Named (σ : St) (s : List (Nat × Nat)) (gs gs' : List Tag) : Prop :=
  ∀ t' ∈ gs', ∃ t ∈ gs, t'.off = t.off ∧ t'.sz = t.sz ∧ t'.ver = 0 ∧ t'.id ≠ 0 ∧ (t'.id, t.id) ∈ s ∧ (t.id = 0 ∨ σ.r t.id = t.ver)

theorem Named.mono {s s' : List (Nat × Nat)} {gs gs' : List Tag} (h : Named σ s gs gs') (hs : ∀ p ∈ s, p ∈ s') : Named σ s' gs gs' := by
  intro t' ht'
  obtain ⟨t, h1, h2, h3, h4, h5, h6, h7⟩ := h t' ht'
  exact ⟨t, h1, h2, h3, h4, h5, hs _ h6, h7⟩

theorem all_ne_fst {s : List (Nat × Nat)} {n : Nat} (h : (s.all fun z => !Nat.beq z.1 n) = true) : ∀ q ∈ s, q.1 ≠ n := by
  intro q hq e
  have := List.all_eq_true.1 h q hq
  subst e
  simp at this
theorem all_ne_snd {s : List (Nat × Nat)} {n : Nat} (h : (s.all fun z => !Nat.beq z.2 n) = true) : ∀ q ∈ s, q.2 ≠ n := by
  intro q hq e
  have := List.all_eq_true.1 h q hq
  subst e
  simp at this

theorem normG_ok (p : Nat) : ∀ (gs : List Tag) (s : List (Nat × Nat)), Names s → Names (normG σ p gs s).2 ∧ (∀ q ∈ s, q ∈ (normG σ p gs s).2) ∧ Named σ (normG σ p gs s).2 gs (normG σ p gs s).1
  | [], s, h => ⟨h, fun q hq => hq, fun t ht => by cases ht⟩
  | t :: r, s, h => by
    unfold normG
    split
    · rename_i hc
      rw [Bool.and_eq_true] at hc
      have hn : Names ((rid p t.off, t.id) :: s) := by
        refine ⟨all_ne_fst hc.1, fun h0 => ?_, h⟩
        rcases Bool.or_eq_true _ _ ▸ hc.2 with h1 | h1
        · exact absurd (Nat.eq_of_beq_eq_true h1) h0
        · exact all_ne_snd (Bool.and_eq_true _ _ ▸ h1).2
      obtain ⟨h1, h2, h3⟩ := normG_ok p r _ hn
      refine ⟨h1, fun q hq => h2 q (List.mem_cons_of_mem _ hq), fun t' ht' => ?_⟩
      rcases List.mem_cons.1 ht' with rfl | ht'
      · refine ⟨t, by simp, rfl, rfl, rfl, rid_ne _ _, h2 _ (by simp), ?_⟩
        rcases Bool.or_eq_true _ _ ▸ hc.2 with h4 | h4
        · exact .inl (Nat.eq_of_beq_eq_true h4)
        · exact .inr (Nat.eq_of_beq_eq_true (Bool.and_eq_true _ _ ▸ h4).1)
      · obtain ⟨u, hu, rest⟩ := h3 t' ht'
        exact ⟨u, List.mem_cons_of_mem _ hu, rest⟩
    · obtain ⟨h1, h2, h3⟩ := normG_ok p r s h
      refine ⟨h1, h2, fun t' ht' => ?_⟩
      obtain ⟨u, hu, rest⟩ := h3 t' ht'
      exact ⟨u, List.mem_cons_of_mem _ hu, rest⟩

/-- What a value became. -/
def NamedA (cs : List (Nat × Bool)) (σ : St) (s : List (Nat × Nat)) (a a' : AV) : Prop :=
  match a' with
  | .undef => True
  | .none => a = .none
  | .nils => a = .nils
  | .dat t x gs' => ∃ gs, a = .dat t x gs ∧ Named σ s gs gs'
  | .ptr id ver off => ver = 0 ∧ ∃ v, a = .ptr id v off ∧ keptBox cs σ id v = true
  | .slw id ver => ver = 0 ∧ ∃ v, a = .slw id v ∧ keptBox cs σ id v = true
  | .slm id ver lo n => ver = 0 ∧ ∃ v, a = .slm id v lo n ∧ keptBox cs σ id v = true
  | .fn f caps => a = .fn f caps
  | .clo f qs => ∃ ps, a = .clo f ps ∧ qs = ps.map (fun p => (p.1, 0)) ∧ ps.all (fun p => keptBox cs σ p.1 p.2) = true
  | .ept t x off => a = .ept t x off
  | _ => False

theorem NamedA.mono {cs : List (Nat × Bool)} {s s' : List (Nat × Nat)} {a a' : AV} (h : NamedA cs σ s a a') (hs : ∀ p ∈ s, p ∈ s') : NamedA cs σ s' a a' := by
  cases a' with
  | dat t x gs' => obtain ⟨gs, h1, h2⟩ := h; exact ⟨gs, h1, h2.mono hs⟩
  | _ => exact h

theorem normA_ok (cs : List (Nat × Bool)) (p : Nat) (b : Bool) (s : List (Nat × Nat)) (a : AV) (h : Names s) : Names (normA cs σ p b s a).2 ∧ (∀ q ∈ s, q ∈ (normA cs σ p b s a).2) ∧ NamedA cs σ (normA cs σ p b s a).2 a (normA cs σ p b s a).1 := by
  cases a with
  | dat t x gs =>
    cases b with
    | true =>
      obtain ⟨h1, h2, h3⟩ := normG_ok (σ := σ) p gs s h
      exact ⟨h1, h2, gs, rfl, h3⟩
    | false => exact ⟨h, fun q hq => hq, gs, rfl, fun t ht => by cases ht⟩
  | ptr id ver off =>
    refine ⟨h, fun q hq => hq, ?_⟩
    show NamedA cs σ s _ (if keptBox cs σ id ver = true then AV.ptr id 0 off else .undef)
    cases hk : keptBox cs σ id ver with
    | true => exact ⟨rfl, ver, rfl, hk⟩
    | false => trivial
  | slw id ver =>
    refine ⟨h, fun q hq => hq, ?_⟩
    show NamedA cs σ s _ (if keptBox cs σ id ver = true then AV.slw id 0 else .undef)
    cases hk : keptBox cs σ id ver with
    | true => exact ⟨rfl, ver, rfl, hk⟩
    | false => trivial
  | slm id ver lo n =>
    refine ⟨h, fun q hq => hq, ?_⟩
    show NamedA cs σ s _ (if keptBox cs σ id ver = true then AV.slm id 0 lo n else .undef)
    cases hk : keptBox cs σ id ver with
    | true => exact ⟨rfl, ver, rfl, hk⟩
    | false => trivial
  | fn f caps => exact ⟨h, fun q hq => hq, rfl⟩
  | clo f ps =>
    refine ⟨h, fun q hq => hq, ?_⟩
    show NamedA cs σ s _ (if ps.all (fun p => keptBox cs σ p.1 p.2) = true then AV.clo f (ps.map fun p => (p.1, 0)) else .undef)
    cases hk : ps.all (fun p => keptBox cs σ p.1 p.2) with
    | true => exact ⟨ps, rfl, rfl, hk⟩
    | false => trivial
  | iov t x => exact ⟨h, fun q hq => hq, trivial⟩
  | nils => exact ⟨h, fun q hq => hq, rfl⟩
  | none => exact ⟨h, fun q hq => hq, rfl⟩
  | undef => exact ⟨h, fun q hq => hq, trivial⟩
  | aptr id ver i off => exact ⟨h, fun q hq => hq, trivial⟩
  | ept t x off => exact ⟨h, fun q hq => hq, rfl⟩
  | tup ds => exact ⟨h, fun q hq => hq, trivial⟩

def NamedC (σ : St) (s : List (Nat × Nat)) (c c' : Option Con) : Prop :=
  match c' with
  | Option.none => True
  | some (.var t x gs') => ∃ gs, c = some (.var t x gs) ∧ Named σ s gs gs'
  | some (.arr e l f) => c = some (.arr e l f)
  | some (.val v) => c = some (.val v) ∧ ∃ f, v = .fn f []

theorem NamedC.mono {s s' : List (Nat × Nat)} {c c' : Option Con} (h : NamedC σ s c c') (hs : ∀ p ∈ s, p ∈ s') : NamedC σ s' c c' := by
  unfold NamedC at *
  split at h
  · trivial
  · obtain ⟨gs, h1, h2⟩ := h; exact ⟨gs, h1, h2.mono hs⟩
  · exact h
  · exact h

theorem normC_ok (p : Nat) (b : Bool) (s : List (Nat × Nat)) (c : Option Con) (h : Names s) : Names (normC σ p b s c).2 ∧ (∀ q ∈ s, q ∈ (normC σ p b s c).2) ∧ NamedC σ (normC σ p b s c).2 c (normC σ p b s c).1 ∧
    (∀ e l f, c = some (.arr e l f) → (normC σ p b s c).1 = some (.arr e l f)) := by
  cases c with
  | none => exact ⟨h, fun q hq => hq, trivial, fun e l f he => by cases he⟩
  | some c =>
    cases c with
    | var t x gs =>
      cases b with
      | true =>
        obtain ⟨h1, h2, h3⟩ := normG_ok (σ := σ) (1000 + p) gs s h
        exact ⟨h1, h2, ⟨gs, rfl, h3⟩, fun e l f he => by cases he⟩
      | false => exact ⟨h, fun q hq => hq, ⟨gs, rfl, fun t ht => by cases ht⟩, fun e l f he => by cases he⟩
    | arr e l f => exact ⟨h, fun q hq => hq, rfl, fun e l f he => he⟩
    | val v =>
      cases v with
      | fn f caps =>
        cases caps with
        | nil => exact ⟨h, fun q hq => hq, ⟨rfl, f, rfl⟩, fun e l f he => by cases he⟩
        | cons _ _ => exact ⟨h, fun q hq => hq, trivial, fun e l f he => by cases he⟩
      | _ => exact ⟨h, fun q hq => hq, trivial, fun e l f he => by cases he⟩

theorem normTs_ok (cs : List (Nat × Bool)) : ∀ (ks : List (Nat × Bool)) (s : List (Nat × Nat)), Names s → Names (normTs cs σ ks s).2 ∧ (∀ q ∈ s, q ∈ (normTs cs σ ks s).2) ∧
    ∀ i, NamedA cs σ (normTs cs σ ks s).2 (σ.t i) (mkT (normTs cs σ ks s).1 i)
  | [], s, h => ⟨h, fun q hq => hq, fun i => trivial⟩
  | (k, b) :: r, s, h => by
    unfold normTs
    obtain ⟨h1, h2, h3⟩ := normA_ok (σ := σ) cs k b s (σ.t k) h
    obtain ⟨h4, h5, h6⟩ := normTs_ok cs r _ h1
    refine ⟨h4, fun q hq => h5 q (h2 q hq), fun i => ?_⟩
    simp only [mkT]
    cases hb : Nat.beq i k with
    | true =>
      have := Nat.eq_of_beq_eq_true hb
      subst this
      exact h3.mono h5
    | false => exact h6 i

theorem normCs_ok : ∀ (ks : List (Nat × Bool)) (s : List (Nat × Nat)), Names s → Names (normCs σ ks s).2 ∧ (∀ q ∈ s, q ∈ (normCs σ ks s).2) ∧
    (∀ i, NamedC σ (normCs σ ks s).2 (σ.c i) (mkC (normCs σ ks s).1 i)) ∧ (∀ i, (ks.any fun z => Nat.beq z.1 i) = true → ∀ e l f, σ.c i = some (.arr e l f) → mkC (normCs σ ks s).1 i = some (.arr e l f)) ∧
    (∀ i c, mkC (normCs σ ks s).1 i = some c → (ks.any fun z => Nat.beq z.1 i) = true)
  | [], s, h => ⟨h, fun q hq => hq, fun i => trivial, fun i hi => by simp at hi, fun i c hc => by simp [normCs, mkC] at hc⟩
  | (k, b) :: r, s, h => by
    unfold normCs
    obtain ⟨h1, h2, h3, h3'⟩ := normC_ok (σ := σ) k b s (σ.c k) h
    obtain ⟨h4, h5, h6, h7, h8⟩ := normCs_ok r _ h1
    refine ⟨h4, fun q hq => h5 q (h2 q hq), fun i => ?_, fun i hi e l f hc => ?_, fun i c hc => ?_⟩
    · simp only [mkC]
      cases hb : Nat.beq i k with
      | true =>
        have := Nat.eq_of_beq_eq_true hb
        subst this
        exact h3.mono h5
      | false => exact h6 i
    · simp only [mkC]
      cases hb : Nat.beq i k with
      | true =>
        have := Nat.eq_of_beq_eq_true hb
        subst this
        exact h3' e l f hc
      | false =>
        refine h7 i ?_ e l f hc
        simp only [List.any_cons] at hi
        rcases Bool.or_eq_true _ _ ▸ hi with hk | hk
        · have := Nat.eq_of_beq_eq_true hk; subst this; simp at hb
        · exact hk
    · simp only [mkC] at hc
      simp only [List.any_cons]
      cases hb : Nat.beq i k with
      | true => have := Nat.eq_of_beq_eq_true hb; subst this; simp
      | false => rw [hb] at hc; rw [h8 i c hc]; simp

theorem Inv.norm (h : Inv B ok0 w0 g σ a w) (kp : Keep) : ∃ g', Inv B ok0 w0 g' (AM.norm kp σ) a w := by
  obtain ⟨h1, h2, h3⟩ := normTs_ok (σ := σ) kp.c kp.t [] trivial
  obtain ⟨h4, h5, h6, h7, h8⟩ := normCs_ok (σ := σ) kp.c (normTs kp.c σ kp.t []).2 h1
  have h3' := fun i => (h3 i).mono h5
  generalize hs : (normCs σ kp.c (normTs kp.c σ kp.t []).2).2 = s at *
  let kept : Nat → Bool := fun i => kp.c.any fun z => Nat.beq z.1 i
  -- the new names' rows
  let rw' : Nat → Option (Nat × Nat) := fun n => match s.find? (fun p => Nat.beq p.1 n) with
    | some p => if p.2 = 0 then none else g.rw p.2
    | none => none
  have hrw : ∀ n x, (n, x) ∈ s → x ≠ 0 → rw' n = g.rw x := by
    intro n x hm hx
    simp only [rw']
    cases hf : s.find? (fun p => Nat.beq p.1 n) with
    | none => have := List.find?_eq_none.1 hf _ hm; simp at this
    | some p =>
      have hp := List.mem_of_find?_eq_some hf
      have hpn : p.1 = n := by
        have h9 : (fun q : Nat × Nat => Nat.beq q.1 n) p = true := List.find?_some (p := fun q : Nat × Nat => Nat.beq q.1 n) hf
        exact Nat.eq_of_beq_eq_true h9
      have : (n, p.2) ∈ s := by rw [← hpn]; exact hp
      have := h4.fn hm this
      simp only
      rw [← this, if_neg hx]
  have hrw' : ∀ n r, rw' n = some r → ∃ x, x ≠ 0 ∧ (n, x) ∈ s ∧ g.rw x = some r := by
    intro n r hr
    simp only [rw'] at hr
    split at hr
    · rename_i p hf
      have hp := List.mem_of_find?_eq_some hf
      have hpn : p.1 = n := by
        have h9 : (fun q : Nat × Nat => Nat.beq q.1 n) p = true := List.find?_some (p := fun q : Nat × Nat => Nat.beq q.1 n) hf
        exact Nat.eq_of_beq_eq_true h9
      split at hr
      · cases hr
      · rename_i h0; exact ⟨p.2, h0, by rw [← hpn]; exact hp, hr⟩
    · cases hr
  refine ⟨⟨fun id => if kept id = true then g.bx id else none, rw'⟩, ?_⟩
  have hbx : ∀ id r, (if kept id = true then g.bx id else none) = some r → g.bx id = some r := by
    intro id r hr; split at hr
    · exact hr
    · cases hr
  have hok : ∀ b off, okG B ok0 g w b off → okG B ok0 ⟨fun id => if kept id = true then g.bx id else none, rw'⟩ w b off := by
    intro b off hk
    rcases hk with hk | ⟨q1, q2, q3, q4⟩
    · exact .inl hk
    · refine .inr ⟨q1, q2, fun id he => q3 id (hbx id _ he), fun id u he => ?_⟩
      obtain ⟨x, _, _, hx⟩ := hrw' id _ he
      exact q4 x u hx
  have htags : ∀ (gs gs' : List Tag) (cs : List Value), Named σ s gs gs' → TagsOk g σ.r w gs cs → TagsOk ⟨fun id => if kept id = true then g.bx id else none, rw'⟩ (fun _ => 0) w gs' cs := by
    intro gs gs' cs hn ht t' ht'
    obtain ⟨t, q1, q2, q3, q4, q5, q6, q7⟩ := hn t' ht'
    obtain ⟨k1, k2⟩ := ht t q1
    refine ⟨fun h0 => absurd h0 q5, fun _ => ⟨by omega, fun _ => ?_⟩⟩
    rw [q2]
    by_cases h0 : t.id = 0
    · exact .inl (k1 h0)
    · rcases (k2 h0).2 (q7.resolve_left h0) with hv | ⟨b, n, cap, cur, T, hv, hr, rest⟩
      · exact .inl hv
      · refine .inr ⟨b, n, cap, cur, T, hv, ?_, by rw [q3]; exact rest⟩
        show rw' t'.id = _
        rw [hrw _ _ q6 h0, q3]
        exact hr
  have hkept : ∀ id ver, keptBox kp.c σ id ver = true → σ.v id = ver ∧ kept id = true := by
    intro id ver hk
    unfold keptBox at hk
    rw [Bool.and_eq_true] at hk
    exact ⟨Nat.eq_of_beq_eq_true hk.1, hk.2⟩
  exact {
    below := h.below, hB := h.hB, h0 := h.h0, defers := h.defers, lay := h.lay, tm := h.tm, nm := fun id b f hi he => h.nm id b f hi (hbx id _ he)
    bb := fun id b f he => h.bb id b f (hbx id _ he)
    bi := fun i1 i2 b f f' e1 e2 => h.bi i1 i2 b f f' (hbx i1 _ e1) (hbx i2 _ e2)
    rb := fun id b u he => by
      obtain ⟨x, _, _, hx⟩ := hrw' id _ he
      obtain ⟨q1, q2, q3⟩ := h.rb x b u hx
      exact ⟨q1, q2, fun id' f hf => q3 id' f (hbx id' _ hf)⟩
    ri := fun i1 i2 b u u' e1 e2 => by
      obtain ⟨x, hx0, hx1, hx2⟩ := hrw' i1 _ e1
      obtain ⟨y, hy0, hy1, hy2⟩ := hrw' i2 _ e2
      have := h.ri x y b u u' hx2 hy2
      subst this
      exact h4.inj hx1 hy1 hx0
    con := fun id c hc => by
      have hc' : mkC (normCs σ kp.c (normTs kp.c σ kp.t []).2).1 id = some c := hc
      have hk := h8 id c hc'
      have hn := h6 id
      rw [hc'] at hn
      have hkid : kept id = true := hk
      cases c with
      | var t x gs' =>
        obtain ⟨gs, hg1, hg2⟩ := hn
        obtain ⟨b, f, hb, hf, cs, T, hh, hr, ht⟩ := h.con' hg1 (fun _ _ _ he => by cases he)
        exact .inr ⟨b, f, by simp only [hkid, if_true]; exact hb, hf, cs, T, hh, hr.mono (fun b o hk => ⟨hok b o hk, rfl⟩), htags gs gs' cs hg2 ht⟩
      | arr e l fz =>
        rcases h.con id _ hn with ⟨hn1, hn2⟩ | ⟨b, f, hb, hf, cur, T, hh, hsz, hm, hrow⟩
        · exact .inl ⟨by simp only [hkid, if_true]; exact hn1, hn2⟩
        refine .inr ⟨b, f, by simp only [hkid, if_true]; exact hb, hf, cur, T, hh, hsz, hm, fun i x hi => ?_⟩
        obtain ⟨ys, hy, hc⟩ := hrow i x hi
        exact ⟨ys, hy.mono (fun b o hk => ⟨hok b o hk, rfl⟩), hc⟩
      | val v =>
        obtain ⟨hg1, f, hv⟩ := hn
        subst hv
        obtain ⟨b, ff, hb, hf, u, T, hh, hr⟩ := h.con' hg1 (fun _ _ _ he => by cases he)
        obtain ⟨vs, hvs, h2'⟩ := hr
        cases vs with
        | nil => exact .inr ⟨b, ff, by simp only [hkid, if_true]; exact hb, hf, u, T, hh, [], hvs, trivial⟩
        | cons _ _ => exact h2'.elim
    slots := fun t => by
      show RepA _ _ _ w (mkT (normTs kp.c σ kp.t []).1 t) _
      have hn := h3' t
      have hr := h.slots t
      revert hn
      cases mkT (normTs kp.c σ kp.t []).1 t with
      | undef => intro _; trivial
      | none => intro hn; rw [(hn : σ.t t = .none)] at hr; exact hr
      | nils => intro hn; rw [(hn : σ.t t = .nils)] at hr; exact hr
      | dat ty x gs' =>
        intro hn
        obtain ⟨gs, hg1, hg2⟩ := hn
        rw [hg1] at hr
        obtain ⟨cs, r1, r2, r3⟩ := hr
        exact ⟨cs, r1.mono (fun b o hk => ⟨hok b o hk, rfl⟩), r2, htags gs gs' cs hg2 r3⟩
      | ptr id ver off =>
        intro hn
        obtain ⟨rfl, v, hv, hk⟩ := hn
        rw [hv] at hr
        obtain ⟨k1, k2⟩ := hkept id v hk
        obtain ⟨b, f, hb, hp⟩ := hr.2 k1
        exact ⟨Nat.le_refl _, fun _ => ⟨b, f, by simp only [k2, if_true]; exact hb, hp⟩⟩
      | slw id ver =>
        intro hn
        obtain ⟨rfl, v, hv, hk⟩ := hn
        rw [hv] at hr
        obtain ⟨k1, k2⟩ := hkept id v hk
        obtain ⟨e, l, fz, hc, hp⟩ := hr.2 k1
        refine ⟨Nat.le_refl _, fun _ => ⟨e, l, fz, h7 id k2 e l fz hc, ?_⟩⟩
        unfold SlwOk
        simp only [k2, if_true]
        exact hp
      | slm id ver lo n =>
        intro hn
        obtain ⟨rfl, v, hv, hk⟩ := hn
        rw [hv] at hr
        obtain ⟨k1, k2⟩ := hkept id v hk
        obtain ⟨e, l, fz, A, cap, hc, rest⟩ := hr.2 k1
        refine ⟨Nat.le_refl _, fun _ => ⟨e, l, fz, A, cap, h7 id k2 e l fz hc, ?_⟩⟩
        simp only [k2, if_true]
        exact rest
      | clo f qs =>
        intro hn
        obtain ⟨ps, hv, rfl, hk⟩ := hn
        rw [hv] at hr
        obtain ⟨vs, hvs, h2'⟩ := hr
        refine ⟨vs, hvs, ?_⟩
        clear hvs hv
        induction ps generalizing vs with
        | nil => cases vs with
          | nil => trivial
          | cons _ _ => exact h2'.elim
        | cons p ps ih => cases vs with
          | nil => exact h2'.elim
          | cons u vs =>
            rw [List.all_cons, Bool.and_eq_true] at hk
            obtain ⟨k1, k2⟩ := hkept p.1 p.2 hk.1
            refine ⟨⟨Nat.le_refl _, fun _ => ?_⟩, ih hk.2 vs h2'.2⟩
            obtain ⟨b, f, hb, hp⟩ := h2'.1.2 k1
            exact ⟨b, f, by simp only [k2, if_true]; exact hb, hp⟩
      | iov ty x => intro hn; exact hn.elim
      | fn f caps =>
        intro hn
        rw [(hn : σ.t t = .fn f caps)] at hr
        obtain ⟨vs, hvs, h2'⟩ := hr
        exact ⟨vs, hvs, h2'.imp fun _ _ hp => hp.mono hok⟩
      | aptr id ver i off => intro hn; exact hn.elim
      | ept ty x off =>
        intro hn
        rw [(hn : σ.t t = .ept ty x off)] at hr
        exact RepE.mono hok hr
      | tup ds => intro hn; exact hn.elim }

end
end Go.AM
