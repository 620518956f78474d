/- Regions whose order is drawn. -/
import Derived.Test.YtkfffcnililmkaaDoorAmSwap2
namespace Go.AM
open Go.RowKit (Below)
set_option linter.unusedSectionVars false
variable [Lay]

abbrev Ft := Nat × List Nat × List Nat

section
variable {R : Type}

def evF (E : Env) (ops : Array Oper) : List Oper → Nat → St → List Ft → (List Ft → St → Option R) → Option R
  | [], _, σ, acc, k => k acc σ
  | o :: r, i, σ, acc, k => evG E ops o σ fun σ' => evF E ops r (i + 1) σ' ((i, reads σ o, wr E σ o) :: acc) k

def maskOf (ops : Array Oper) (l : List Nat) (i : Nat) : Nat :=
  match ops[i]? with
  | none => 0
  | some o => o.after.toList.foldl (fun m e => bif Region.binds .any e then m ||| (2 ^ e.on ||| l.getD e.on 0) else m) 0

def masks (ops : Array Oper) : Nat → List Nat
  | 0 => []
  | k + 1 => let l := masks ops k; l ++ [maskOf ops l k]

def precB (M : List Nat) (j i : Nat) : Bool := (M.getD i 0).testBit j

def indB (E : Env) (ops : Array Oper) (y x : Ft) : Bool :=
  match ops[y.1]?, ops[x.1]? with
  | some j, some i => i.apart ops j && ((pureOp E i && disj x.2.1 y.2.2) || (pureOp E j && disj y.2.1 x.2.2))
  | _, _ => false

def ordR (E : Env) (ops : Array Oper) (M : List Nat) : List Ft → Bool
  | [] => true
  | x :: r => (r.all fun y => precB M y.1 x.1 || indB E ops y x) && ordR E ops M r

def backB (ops : Array Oper) : Bool := (List.range ops.size).all fun i => match ops[i]? with
  | some o => o.after.toList.all fun e => !Region.binds .any e || decide (e.on < i)
  | none => true

def drE (E : Env) (ops : Array Oper) (σ : St) (k : St → Option R) : Option R :=
  bif backB ops then evF E ops ops.toList 0 σ [] fun acc τ => bif ordR E ops (masks ops ops.size) acc then k τ else none
  else none
end

def FChain (E : Env) (ops : Array Oper) : List Ft → St → St → Prop
  | [], σ, τ => τ = σ
  | x :: r, σ, τ => ∃ o σ1, ops[x.1]? = some o ∧ reads σ o = x.2.1 ∧ wr E σ o = x.2.2 ∧ GTo E ops o σ σ1 ∧ FChain E ops r σ1 τ

section
variable {P : Program} {B : Bd} {ok0 : Nat → Nat → Prop} {w0 w w' : World} {g g' : G} {σ σ1 τ : St} {a : Act} {E : Env} {ops : Array Oper} {R : Type}

theorem FChain.append {E : Env} {ops : Array Oper} : ∀ {l m : List Ft} {σ τ υ : St}, FChain E ops l σ τ → FChain E ops m τ υ → FChain E ops (l ++ m) σ υ
  | [], _, _, _, _, h, k => by cases h; exact k
  | _ :: _, _, _, _, _, ⟨o, σ1, h1, h2, h3, h4, h5⟩, k => ⟨o, σ1, h1, h2, h3, h4, h5.append k⟩

theorem evF_some : ∀ {l : List Oper} {i : Nat} {σ σ0 : St} {acc : List Ft} {k : List Ft → St → Option R} {r : R}, (∀ j, l[j]? = ops[i + j]?) → FChain E ops acc.reverse σ0 σ → acc.reverse.map (·.1) = List.range i →
    evF E ops l i σ acc k = some r → ∃ acc' τ, FChain E ops acc'.reverse σ0 τ ∧ acc'.reverse.map (·.1) = List.range (i + l.length) ∧ k acc' τ = some r
  | [], i, σ, σ0, acc, k, r, _, hc, hr, h => ⟨acc, σ, hc, hr, h⟩
  | o :: l, i, σ, σ0, acc, k, r, hl, hc, hr, h => by
    obtain ⟨σ1, h1, h2⟩ := evG_some (k := fun σ' => evF E ops l (i + 1) σ' ((i, reads σ o, wr E σ o) :: acc) k) h
    have ho : ops[i]? = some o := by simpa using (hl 0).symm
    obtain ⟨acc', τ, h3, h4, h5⟩ := evF_some (l := l) (fun j => by have := hl (j + 1); simpa [Nat.add_assoc, Nat.add_comm 1 j] using this)
      (by rw [List.reverse_cons]; exact hc.append ⟨o, σ1, ho, rfl, rfl, h1, rfl⟩) (by rw [List.reverse_cons, List.map_append, hr, List.range_succ]; rfl) h2
    exact ⟨acc', τ, h3, by rw [h4, List.length_cons]; congr 1; omega, h5⟩

theorem move_front : ∀ {pre : List Ft} {x : Ft} {post : List Ft} {σ τ : St}, (∀ y ∈ pre, indB E ops y x = true) → FChain E ops (pre ++ x :: post) σ τ → FChain E ops (x :: (pre ++ post)) σ τ
  | [], _, _, _, _, _, h => h
  | y :: pre, x, post, σ, τ, hi, ⟨j, σ1, h1, h2, h3, h4, h5⟩ => by
    obtain ⟨i, σ2, k1, k2, k3, k4, k5⟩ := move_front (fun z hz => hi z (List.mem_cons_of_mem _ hz)) h5
    have hxy := hi y (List.mem_cons_self ..)
    unfold indB at hxy
    rw [h1, k1] at hxy
    simp only [Bool.and_eq_true, Bool.or_eq_true] at hxy
    rw [← h2, ← h3, ← k2, ← k3] at hxy
    obtain ⟨ρ, g1, g2, e1, e2, e3, e4⟩ := swap hxy.1 h4 k4 hxy.2
    exact ⟨i, ρ, k1, e1.trans k2, e2.trans k3, g1, j, σ2, h1, e3.trans h2, e4.trans h3, g2, k5⟩

theorem masks_len (ops : Array Oper) : ∀ n, (masks ops n).length = n
  | 0 => rfl
  | n + 1 => by unfold masks; simp [masks_len ops n]

theorem masks_get (ops : Array Oper) : ∀ n i, i < n → (masks ops n).getD i 0 = maskOf ops (masks ops i) i
  | 0, _, h => by omega
  | n + 1, i, h => by
    show (masks ops n ++ [maskOf ops (masks ops n) n]).getD i 0 = _
    have hl := masks_len ops n
    by_cases hi : i < n
    · have := masks_get ops n i hi
      rw [List.getD_eq_getElem?_getD] at this ⊢
      rw [List.getElem?_append_left (by omega)]
      exact this
    · have : i = n := by omega
      subst this
      rw [List.getD_eq_getElem?_getD, List.getElem?_append_right (by omega), hl, Nat.sub_self]
      rfl

theorem fold_bit (l : List Nat) (j : Nat) : ∀ (es : List Edge) (m : Nat), (es.foldl (fun m e => bif Region.binds .any e then m ||| (2 ^ e.on ||| l.getD e.on 0) else m) m).testBit j = true →
    m.testBit j = true ∨ ∃ e ∈ es, Region.binds .any e = true ∧ (e.on = j ∨ (l.getD e.on 0).testBit j = true)
  | [], m, h => .inl h
  | e :: es, m, h => by
    rw [List.foldl_cons] at h
    rcases fold_bit l j es _ h with h | ⟨e', he', h'⟩
    · cases hb : Region.binds .any e with
      | false => rw [hb] at h; exact .inl h
      | true =>
        rw [hb] at h
        simp only [cond_true, Nat.testBit_or, Bool.or_eq_true] at h
        rcases h with h | h | h
        · exact .inl h
        · rw [Nat.testBit_two_pow] at h
          exact .inr ⟨e, List.mem_cons_self .., hb, .inl (by simpa using h)⟩
        · exact .inr ⟨e, List.mem_cons_self .., hb, .inr h⟩
    · exact .inr ⟨e', List.mem_cons_of_mem _ he', h'⟩

/-- What an operation waits for in the end is listed, if what it waits for at first is. -/
theorem mask_listed {L : Nat → Bool} {n : Nat} (hb : backB ops = true) (hn : n = ops.size) (hdc : ∀ m o, ops[m]? = some o → L m = true → ∀ e ∈ o.after.toList, Region.binds .any e = true → L e.on = true) :
    ∀ i o, ops[i]? = some o → (∀ e ∈ o.after.toList, Region.binds .any e = true → L e.on = true) → ∀ j, precB (masks ops n) j i = true → L j = true := by
  intro i
  induction i using Nat.strongRecOn with
  | _ i ih =>
    intro o ho hp j hj
    have hi : i < ops.size := (Array.getElem?_eq_some_iff.1 ho).1
    unfold precB at hj
    rw [masks_get ops n i (by omega)] at hj
    unfold maskOf at hj
    rw [ho] at hj
    rcases fold_bit _ j _ 0 hj with h | ⟨e, he, hbe, h⟩
    · simp at h
    · have hlt : e.on < i := by
        have := List.all_eq_true.1 hb i (List.mem_range.2 hi)
        rw [ho] at this
        have := List.all_eq_true.1 this e he
        rw [hbe] at this
        simpa using this
      rcases h with h | h
      · subst h; exact hp e he hbe
      · rw [masks_get ops i e.on hlt] at h
        obtain ⟨o', ho'⟩ : ∃ o', ops[e.on]? = some o' := ⟨ops[e.on], Array.getElem?_eq_getElem (by omega)⟩
        exact ih e.on hlt o' ho' (hdc e.on o' ho' (hp e he hbe)) j (by unfold precB; rw [masks_get ops n e.on (by omega)]; exact h)

theorem any_ok (hE : EnvOk P E) (hC : CallsOk P E) {Q : Exit → Act → World → Prop} (hb : backB ops = true) : ∀ (fuel : Nat) (l : List Ft) (listed : Array Bool) (σ : St) (g : G) (a : Act) (w : World),
    l.length = fuel → l.Pairwise (fun x y => x.1 < y.1) → (∀ x ∈ l, x.1 < ops.size) → listed.size = ops.size → (∀ i, i < ops.size → (listed.getD i true = false ↔ ∃ x ∈ l, x.1 = i)) →
    (∀ m o, ops[m]? = some o → listed.getD m false = true → ∀ e ∈ o.after.toList, Region.binds .any e = true → listed.getD e.on false = true) →
    l.Pairwise (fun y x => precB (masks ops ops.size) y.1 x.1 = true ∨ indB E ops y x = true) →
    FChain E ops l σ τ → Inv B ok0 w0 g σ a w → opsIn a.tmps.size ops = true →
    (∀ g' a' w', Inv B ok0 w0 g' τ a' w' → a'.tmps.size = a.tmps.size → Q .normal a' w') → wpAny P .any ops Q fuel listed a w := by
  have rd : ∀ (listed : Array Bool) i, listed.size = ops.size → i < ops.size → listed.getD i true = listed.getD i false := fun listed i hs hi => by
    have hi' : i < listed.size := by omega
    simp [hi']
  intro fuel
  induction fuel with
  | zero =>
    intro l listed σ g a w hlen _ _ hsz hls _ _ hch hI _ hq
    have : l = [] := List.eq_nil_of_length_eq_zero hlen
    subst this
    cases hch
    refine ⟨?_, hq g a w hI rfl⟩
    unfold Region.ready
    rw [List.filter_eq_nil_iff]
    intro i hi hc
    simp only [Bool.and_eq_true, Bool.not_eq_true'] at hc
    obtain ⟨x, hx, _⟩ := (hls i (List.mem_range.1 hi)).1 hc.1
    cases hx
  | succ fuel ih =>
    intro l listed σ g a w hlen hsort hlt hsz hls hdc hpw hch hI hin hq
    constructor
    · intro hr
      exfalso
      cases l with
      | nil => simp at hlen
      | cons x l =>
        have hx := hlt x (List.mem_cons_self ..)
        have hm : x.1 ∈ Region.ready .any ops listed := by
          refine mem_ready.2 ⟨(hls x.1 hx).2 ⟨x, List.mem_cons_self .., rfl⟩, ops[x.1], Array.getElem?_eq_getElem hx, fun e he hbe => ?_⟩
          have he' : e.on < x.1 := by
            have := List.all_eq_true.1 hb x.1 (List.mem_range.2 hx)
            rw [Array.getElem?_eq_getElem hx] at this
            have := List.all_eq_true.1 this e (by simpa using he)
            rw [hbe] at this
            simpa using this
          rw [← rd listed e.on hsz (by omega)]
          cases hv : listed.getD e.on true with
          | true => rfl
          | false =>
            obtain ⟨y, hy, hye⟩ := (hls e.on (by omega)).1 hv
            rcases List.mem_cons.1 hy with rfl | hy
            · omega
            · have := List.rel_of_pairwise_cons hsort hy
              omega
        rw [hr] at hm
        cases hm
    · intro i hi
      obtain ⟨hun, oi, hoi, hall⟩ := mem_ready.1 hi
      have hilt : i < ops.size := (Array.getElem?_eq_some_iff.1 hoi).1
      obtain ⟨x, hx, hxi⟩ := (hls i hilt).1 hun
      obtain ⟨pre, post, rfl⟩ := List.append_of_mem hx
      subst hxi
      have hind : ∀ y ∈ pre, indB E ops y x = true := fun y hy => by
        have := (List.pairwise_append.1 hpw).2.2 y hy x (List.mem_cons_self ..)
        rcases this with h | h
        · exfalso
          have hyl := hlt y (List.mem_append_left _ hy)
          have h1 := mask_listed (L := fun m => listed.getD m false) hb rfl hdc x.1 oi hoi (fun e he hbe => hall e (by simpa using he) hbe) y.1 h
          have h2 := (hls y.1 hyl).2 ⟨y, List.mem_append_left _ hy, rfl⟩
          rw [rd listed y.1 hsz hyl] at h2
          simp only [h2] at h1
          cases h1
        · exact h
      obtain ⟨o, σ1, k1, _, _, k4, k5⟩ := move_front hind hch
      rw [hoi] at k1
      cases k1
      unfold wpOp
      rw [hoi]
      dsimp only
      have hsub : (pre ++ post).Sublist (pre ++ x :: post) := List.Sublist.append_left (List.sublist_cons_self ..) _
      have hnot : ∀ y ∈ pre ++ post, y.1 ≠ x.1 := fun y hy he => by
        rw [List.pairwise_append] at hsort
        rcases List.mem_append.1 hy with hy | hy
        · have := hsort.2.2 y hy x (List.mem_cons_self ..); omega
        · have := List.rel_of_pairwise_cons hsort.2.1 hy; omega
      refine k4.wp hE hC hI (fun d hd => opsIn_spec hin oi (by rw [Array.mem_toList_iff]; exact Array.mem_of_getElem? hoi) d hd) fun g' a' w' hI' hs => ?_
      refine ih (pre ++ post) (listed.setIfInBounds x.1 true) σ1 g' a' w' ?_ (hsort.sublist hsub) (fun y hy => hlt y (hsub.subset hy)) (by simp [hsz]) ?_ ?_ (hpw.sublist hsub) k5 hI' (by rw [hs]; exact hin) fun g2 a2 w2 hI2 hs2 => hq g2 a2 w2 hI2 (hs2.trans hs)
      · simp only [List.length_append, List.length_cons] at hlen ⊢; omega
      · intro j hj
        by_cases hjx : j = x.1
        · subst hjx
          have : (listed.setIfInBounds x.1 true).getD x.1 true = true := by simp [hsz, hilt]
          rw [this]
          constructor
          · intro h; cases h
          · rintro ⟨y, hy, hye⟩; exact absurd hye (hnot y hy)
        · rw [getD_set_ne true (Ne.symm hjx), hls j hj]
          constructor
          · rintro ⟨y, hy, rfl⟩
            refine ⟨y, ?_, rfl⟩
            rcases List.mem_append.1 hy with hy | hy
            · exact List.mem_append_left _ hy
            · rcases List.mem_cons.1 hy with rfl | hy
              · exact absurd rfl hjx
              · exact List.mem_append_right _ hy
          · rintro ⟨y, hy, rfl⟩; exact ⟨y, hsub.subset hy, rfl⟩
      · intro m o' ho' hm e he hbe
        by_cases hmx : m = x.1
        · subst hmx
          rw [hoi] at ho'
          cases ho'
          exact getD_set_true (hall e (by simpa using he) hbe)
        · rw [getD_set_ne false (Ne.symm hmx)] at hm
          exact getD_set_true (hdc m o' ho' hm e he hbe)

theorem pairwise_rev {l : List Ft} {M : List Nat} : ordR E ops M l = true → l.reverse.Pairwise (fun y x => precB M y.1 x.1 = true ∨ indB E ops y x = true) := by
  induction l with
  | nil => intro _; exact List.Pairwise.nil
  | cons x l ih =>
    intro h
    unfold ordR at h
    rw [Bool.and_eq_true] at h
    rw [List.reverse_cons, List.pairwise_append]
    refine ⟨ih h.2, List.pairwise_singleton _ _, fun y hy z hz => ?_⟩
    cases List.mem_singleton.1 hz
    have := List.all_eq_true.1 h.1 y (List.mem_reverse.1 hy)
    simpa using this

theorem dr_ok (hE : EnvOk P E) (hC : CallsOk P E) (hm : P.follows .mixedOrders = true) (n : Nat) : DrOk P B ok0 w0 R n (drE E) := by
  intro ops σ k r id Q g a w hn h hI hs hq
  unfold drE at h
  cases hb : backB ops with
  | false => rw [hb] at h; cases h
  | true =>
    rw [hb] at h
    obtain ⟨acc, τ, h1, h2, h3⟩ := evF_some (ops := ops) (l := ops.toList) (i := 0) (σ0 := σ) (acc := []) (fun j => by simp) rfl rfl h
    cases ho : ordR E ops (masks ops ops.size) acc with
    | false => rw [ho] at h3; cases h3
    | true =>
      rw [ho] at h3
      have hI' : Inv B ok0 w0 g σ a { w with drawn := w.drawn + 1 } := hI.grown ⟨rfl, rfl, rfl, Nat.le_refl _, fun _ _ => rfl⟩
      have hmap : acc.reverse.map (·.1) = List.range ops.size := by rw [h2]; simp
      have hmem : ∀ i, i < ops.size ↔ ∃ x ∈ acc.reverse, x.1 = i := fun i => by
        rw [← List.mem_range, ← hmap, List.mem_map]
      refine wp_region_any hm (any_ok hE hC hb ops.size acc.reverse _ σ g a _ ?_ ?_ (fun x hx => (hmem _).2 ⟨x, hx, rfl⟩) (by simp) (fun i hi => ?_) (fun m o _ hm => ?_) (pairwise_rev ho) h1 hI' (by rw [hs]; exact hn)
        fun g' a' w' hI2 hs2 => hq τ h3 g' a' w' hI2 (hs2.trans hs))
      · have := congrArg List.length hmap
        simpa using this
      · have : (acc.reverse.map (·.1)).Pairwise (· < ·) := by rw [hmap]; exact List.pairwise_lt_range
        exact List.pairwise_map.1 this
      · constructor
        · intro _; exact (hmem i).1 hi
        · intro _; simp [hi]
      · exfalso
        by_cases hms : m < ops.size
        · simp [hms] at hm
        · simp [hms] at hm

end
end Go.AM
