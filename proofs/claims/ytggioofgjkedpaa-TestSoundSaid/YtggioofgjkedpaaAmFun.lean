/- A function's contract out of what the evaluator answers of its body. -/
import Derived.Test.YtggioofgjkedpaaAmDrw
namespace Go.AM
open Go.RowKit (Below)

def argsL : (ps : List PK) → ArgsD ps → Nat → List (Nat × AV)
  | [], _, _ => []
  | p :: ps, x, i => (i, encArg p x.1) :: argsL ps x.2 (i + 1)

def st0 (ps : List PK) (x : ArgsD ps) : St := mk (argsL ps x 0) []

/-- The row that the tag found tells of; 0: nil. -/
def tagAt (σ : St) (t : Tag) : List Tag → Option Nat
  | [] => none
  | h :: r => if h.off = t.off ∧ h.sz = t.sz then (if h.id = 0 then some 0 else if σ.r h.id = h.ver then some h.id else none) else tagAt σ t r

def fitT (σ : St) (gs : List Tag) : List Tag → Option (List Nat)
  | [] => some []
  | t :: r => if t.id = 0 then none else match tagAt σ t gs with
    | some i => match fitT σ gs r with
      | some l => some (i :: l)
      | none => none
    | none => none

/-- A result: in a slot, or in a variable. -/
def resV (E : Env) (σ : St) : ResultVar → AV
  | .tmp t => σ.t t
  | .cell a T => match σ.t a with
    | .ptr id ver off => if σ.v id = ver then
        match σ.c id with
        | some (.var t z g) => match E.ty T with
          | some u => match sub u t z off with
            | some y => .dat u y (gsub g off u.sz)
            | none => .undef
          | none => .undef
        | _ => .undef
      else .undef
    | _ => .undef

/-- What results hold, and the rows of their marks. -/
def resD (E : Env) (σ : St) : List ResultVar → (rs : List (Ty × List Tag)) → Option (ResD rs × List Nat)
  | [], [] => some ((), [])
  | [t], [u] => match (resV E σ t).as u.1, fitT σ ((resV E σ t).tags u.1) u.2 with
    | some x, some l => some (x, l)
    | _, _ => none
  | t :: t2 :: ts, u :: u2 :: rs => match (resV E σ t).as u.1, fitT σ ((resV E σ t).tags u.1) u.2, resD E σ (t2 :: ts) (u2 :: rs) with
    | some x, some l, some y => some ((x, y.1), l ++ y.2)
    | _, _, _ => none
  | _, _ => none

def dis : List Nat → Bool
  | [] => true
  | i :: l => (Nat.beq i 0 || l.all fun j => !Nat.beq i j) && dis l

def fin (E : Env) (ts : List ResultVar) (rs : List (Ty × List Tag)) : K (ResD rs) := fun e σ =>
  match e with
  | .exit _ => none
  | _ => match resD E σ ts rs with
    | some y => bif dis y.2 then some y.1 else none
    | none => none

section
variable {P : Program} {B : Nat} {ok0 ok : Nat → Nat → Prop} {w0 w w' : World} {g g' : G} {σ σ1 τ : St} {a : Act} {E : Env}

theorem caps_rep : ∀ {ts : List Ty} {ds : List Dat} {x : CapsD ts} {vs : List Value}, decCaps ts ds = some x → All2 (fun (d : Dat) u => RepE ok w d.t d.x 0 u) ds vs → All2 (fun (d : Dat) u => RepE ok w d.t d.x 0 u) (encCaps ts x) vs
  | [], [], _, vs, _, h => h
  | t :: ts, d :: ds, x, [], _, h => h.elim
  | t :: ts, d :: ds, x, v :: vs, hd, h => by
    unfold decCaps at hd
    split at hd
    · rename_i y hy
      split at hd
      · rename_i z hz
        cases hd
        refine ⟨?_, caps_rep hz h.2⟩
        obtain ⟨e, he⟩ := cast_some hy
        have h1 := h.1
        revert he h1
        obtain ⟨dt, dx, dg⟩ := d
        dsimp only at e ⊢
        subst e
        intro he h1
        cases he
        exact h1
      · cases hd
    · cases hd
  | [], _ :: _, _, _, hd, _ => by cases hd
  | _ :: _, [], _, _, hd, _ => by cases hd

theorem arg_rep {p : PK} {av : AV} {x : p.D} {v : Value} (h : decArg p av = some x) (hr : RepArg ok w av v) : RepA ok g σ w (encArg p x) v := by
  cases p with
  | val t =>
    have h' : av.as t = some x := h
    cases av with
    | dat u x' gs =>
      obtain ⟨cs, h1, h2⟩ := hr
      have h3 := h1.cast h'
      refine ⟨cs, h3, ?_, fun _ h => by cases h⟩
      obtain ⟨e, _⟩ := cast_some h'
      subst e
      exact h2
    | nils => exact hr.elim
    | ept t x off => cases h'
    | fn f ds => cases h'
    | _ => exact hr.elim
  | ref t =>
    cases av with
    | ept u y off =>
      cases off with
      | zero =>
        have h' : cast? (t := u) t y = some x := h
        obtain ⟨e, he⟩ := cast_some h'
        subst e
        cases he
        exact hr
      | succ n => cases h
    | _ => cases h
  | fn f ts =>
    cases av with
    | fn g ds =>
      have h' : (if g = f then decCaps ts ds else none) = some x := h
      split at h'
      · rename_i hgf
        subst hgf
        obtain ⟨vs, h1, h2⟩ := hr
        exact ⟨vs, h1, caps_rep h' h2⟩
      · cases h'
    | _ => cases h

theorem args_rep : ∀ {ps : List PK} {l : List AV} {vs : List Value} {x : ArgsD ps} (k t : Nat), decArgs ps l = some x → All2 (RepArg ok w) l vs → RepA ok g σ w (mkT (argsL ps x k) t) (vs.getD (t - k) undef)
  | [], _, _, _, _, _, _, _ => trivial
  | p :: ps, [], _, _, _, _, h, _ => by cases h
  | p :: ps, av :: l, [], _, _, _, _, h => h.elim
  | p :: ps, av :: l, v :: vs, x, k, t, h, hr => by
    unfold decArgs at h
    split at h
    · rename_i y hy
      split at h
      · rename_i z hz
        cases h
        unfold argsL mkT
        dsimp only
        cases hb : Nat.beq t k with
        | true =>
          have : t = k := Nat.eq_of_beq_eq_true hb
          subst this
          rw [Nat.sub_self]
          exact arg_rep hy hr.1
        | false =>
          have hne : t ≠ k := fun e => by subst e; simp at hb
          by_cases hlt : t < k
          · have : ∀ (ps : List PK) (x : ArgsD ps) (k : Nat), t < k → mkT (argsL ps x k) t = .undef := by
              intro ps
              induction ps with
              | nil => intro _ _ _; rfl
              | cons p ps ih =>
                intro x k hk
                unfold argsL mkT
                have : Nat.beq t k = false := by rw [Bool.eq_false_iff]; intro e; have := Nat.eq_of_beq_eq_true e; omega
                rw [this]
                exact ih _ _ (by omega)
            show RepA ok g σ w (mkT (argsL ps z (k + 1)) t) _
            rw [this ps z (k + 1) (by omega)]
            trivial
          · have hi := args_rep (k + 1) t hz hr.2
            have : t - k = (t - (k + 1)) + 1 := by omega
            rw [this]
            exact hi
      · cases h
    · cases h

theorem as_rep {u : Ty} {av : AV} {x : u.D} {v : Value} (h : av.as u = some x) (hr : RepA ok g σ w av v) : ∃ cs, RepD ok w u x cs ∧ v = valOf u cs ∧ TagsOk g σ.r w (av.tags u) cs := by
  cases av with
  | dat t y gs =>
    obtain ⟨cs, h1, h2, h3⟩ := hr
    obtain ⟨e, he⟩ := cast_some h
    subst e
    subst he
    exact ⟨cs, h1, h2, h3⟩
  | nils =>
    cases u with
    | sl e =>
      cases h
      have : v = .slice none 0 0 := hr
      subst this
      refine ⟨[.slice none 0 0], ⟨none, 0, 0, rfl, rfl, Nat.le_refl _, Nat.zero_le _, fun i x h => by simp at h⟩, rfl, ?_⟩
      intro t ht
      cases List.mem_singleton.1 ht
      exact ⟨fun _ => rfl, fun h => absurd rfl h⟩
    | _ => cases h
  | _ => cases h

theorem tagAt_ok {t : Tag} {i : Nat} {cs : List Value} : ∀ {gs : List Tag}, tagAt σ t gs = some i → TagsOk g σ.r w gs cs → (i = 0 → cs[t.off]? = some (.slice none 0 0)) ∧ (i ≠ 0 → OwnSl g w t.sz i cs[t.off]?)
  | [], h, _ => by cases h
  | x :: gs, h, hk => by
    unfold tagAt at h
    split at h
    · rename_i hx
      have hx' := hk x (List.mem_cons_self ..)
      split at h
      · rename_i h0
        cases h
        exact ⟨fun _ => hx.1 ▸ hx'.1 h0, fun h => absurd rfl h⟩
      · rename_i h0
        split at h
        · rename_i hv
          cases h
          exact ⟨fun h => absurd h h0, fun _ => by rw [← hx.1, ← hx.2]; exact (hx'.2 h0).2 hv⟩
        · cases h
    · exact tagAt_ok h fun y hy => hk y (List.mem_cons_of_mem _ hy)

/-- The rows of results, by their number. -/
def rowsOf (g : G) (ids : List Nat) (j : Nat) : Option (Nat × Nat) := match ids[j]? with
  | some 0 => none
  | some i => g.rw i
  | none => none

theorem fitT_ok {gs : List Tag} {cs : List Value} (hk : TagsOk g σ.r w gs cs) {ids : List Nat} : ∀ {want : List Tag} {l : List Nat} (j : Nat), fitT σ gs want = some l → (∀ i, i < l.length → ids[j + i]? = l[i]?) →
    RetTags (rowsOf g ids) w cs j want ∧ cnt want = l.length
  | [], l, j, h, _ => by cases h; exact ⟨trivial, rfl⟩
  | t :: r, l, j, h, hi => by
    unfold fitT at h
    split at h
    · cases h
    · rename_i h0
      split at h
      · rename_i i ht
        split at h
        · rename_i l' hl'
          cases h
          obtain ⟨h1, h2⟩ := fitT_ok hk (ids := ids) (j + 1) hl' fun i hi' => by
            have := hi (i + 1) (by simp; omega)
            rw [show j + 1 + i = j + (i + 1) by omega, this]; rfl
          unfold RetTags cnt
          rw [if_neg h0, if_neg h0]
          refine ⟨⟨?_, h1⟩, by rw [h2]; rfl⟩
          obtain ⟨k1, k2⟩ := tagAt_ok ht hk
          by_cases hz : i = 0
          · exact .inl (k1 hz)
          · rcases k2 hz with hk2 | ⟨b, n, cap, cur, T, hv, hrw, rest⟩
            · exact .inl hk2
            · refine .inr ⟨b, n, cap, cur, T, hv, ?_, rest⟩
              show rowsOf g ids j = _
              have := hi 0 (by simp)
              unfold rowsOf
              rw [show ids[j]? = some i from this]
              cases i with
              | zero => exact absurd rfl hz
              | succ i => exact hrw
        · cases h
      · cases h

theorem dis_spec : ∀ {l : List Nat}, dis l = true → ∀ i j x : Nat, l[i]? = some x → l[j]? = some x → x ≠ 0 → i = j
  | [], _, i, _, _, h, _, _ => by simp at h
  | y :: l, h, i, j, x, hi, hj, hx => by
    unfold dis at h
    simp only [Bool.and_eq_true, Bool.or_eq_true, List.all_eq_true] at h
    have hn : ∀ k : Nat, l[k]? = some x → y = x → False := fun k hk hyx => by
      rcases h.1 with h0 | h0
      · have := Nat.eq_of_beq_eq_true h0; omega
      · have := h0 x (List.mem_of_getElem? hk)
        subst hyx
        simp at this
    cases i with
    | zero =>
      cases j with
      | zero => rfl
      | succ j => simp at hi; exact (hn j (by simpa using hj) hi).elim
    | succ i =>
      cases j with
      | zero => simp at hj; exact (hn i (by simpa using hi) hj).elim
      | succ j => rw [dis_spec h.2 i j x (by simpa using hi) (by simpa using hj) hx]

def rvRun (tmps : Array Value) : ResultVar → Sem Value
  | .tmp t => pure (tmps.getD t undef)
  | .cell a t => do loadVar t (← asAddr (tmps.getD a undef))

theorem resV_ok (hE : EnvOk P E) (hI : Inv B ok0 w0 g σ a w) {t : ResultVar} {u : Ty} {x : u.D} (h : (resV E σ t).as u = some x) :
    ∃ v, (rvRun a.tmps t).run P w = .ok v w ∧ RepA (okG B ok0 g w) g σ w (resV E σ t) v := by
  unfold resV at *
  cases t with
  | tmp t => exact ⟨_, rfl, hI.slots t⟩
  | cell s T =>
    dsimp only at *
    have rx := hI.slots s
    split at h
    · rename_i id ver off hx
      rw [hx] at rx
      split at h
      · rename_i hv
        obtain ⟨b, f, hb, hp⟩ := rx.2 hv
        split at h
        · rename_i t z gs hc
          obtain ⟨b', f', hb', hf', cs, TT, hh, hr, ht⟩ := hI.con id _ hc
          rw [hb] at hb'; cases hb'
          split at h
          · rename_i u' hu
            split at h
            · rename_i y hy
              obtain ⟨hs, hbd⟩ := sub_sound hy hr
              have hl := (hE.ty T u' hu).load (b := b) (o := off) hs (fun j v hj => by
                rw [List.getElem?_take] at hj
                split at hj
                · rw [List.getElem?_drop] at hj
                  simp only [World.cell?, hh]
                  simpa using hj
                · cases hj)
              refine ⟨valOf u' ((cs.drop off).take u'.sz), ?_, by rw [if_pos hv]; exact ⟨_, hs, rfl, gsub_ok ht⟩⟩
              unfold rvRun
              dsimp only
              rw [show a.tmps.getD s undef = .pointer (some ⟨b, off, none⟩) from hp]
              simp only [asAddr, Sem.run_bind, Sem.run_pure, Result.andThen_ok, hl]
            · cases h
          · cases h
        · cases h
      · cases h
    · cases h

theorem resD_ok (hE : EnvOk P E) (hI : Inv B ok0 w0 g σ a w) {ids : List Nat} : ∀ {ts : List ResultVar} {rs : List (Ty × List Tag)} {y : ResD rs} {l : List Nat} (j : Nat), resD E σ ts rs = some (y, l) → (∀ i, i < l.length → ids[j + i]? = l[i]?) →
    ∃ vs, All2 (fun rv v => (rvRun a.tmps rv).run P w = .ok v w) ts vs ∧ RetDs (okG B ok0 g w) (rowsOf g ids) w j (encDs rs y) vs
  | [], [], y, l, j, h, _ => ⟨[], trivial, trivial⟩
  | [], _ :: _, y, l, j, h, _ => by cases h
  | [_], [], y, l, j, h, _ => by cases h
  | _ :: _ :: _, [], y, l, j, h, _ => by cases h
  | [t], [u], y, l, j, h, hi => by
    unfold resD at h
    split at h
    · rename_i x l' hx hl'
      cases h
      obtain ⟨v, hrun, hv⟩ := resV_ok hE hI hx
      obtain ⟨cs, h1, h2, h3⟩ := as_rep hx hv
      exact ⟨[v], ⟨hrun, trivial⟩, ⟨cs, h1, h2, (fitT_ok h3 j hl' hi).1⟩, trivial⟩
    · cases h
  | [t], _ :: _ :: _, y, l, j, h, _ => by cases h
  | _ :: _ :: _, [u], y, l, j, h, _ => by cases h
  | t :: t2 :: ts, u :: u2 :: rs, y, l, j, h, hi => by
    unfold resD at h
    split at h
    · rename_i x l' z hx hl' hz
      cases h
      obtain ⟨v, hrun, hv⟩ := resV_ok hE hI hx
      obtain ⟨cs, h1, h2, h3⟩ := as_rep hx hv
      have hf := fitT_ok (ids := ids) h3 j hl' fun i hi' => by rw [hi i (by simp; omega), List.getElem?_append_left hi']
      obtain ⟨vs, k1, k2⟩ := resD_ok hE hI (j + l'.length) hz fun i hi' => by
        rw [Nat.add_assoc, hi (l'.length + i) (by simp; omega), List.getElem?_append_right (by omega)]
        congr 1
        omega
      refine ⟨v :: vs, ⟨hrun, k1⟩, ⟨cs, h1, h2, hf.1⟩, ?_⟩
      rw [show cnt (Dat.g ⟨u.1, (x, z.1).1, u.2⟩) = l'.length from hf.2]
      exact k2
    · cases h

theorem RetDs.mono {ok ok' : Nat → Nat → Prop} {ρ : Nat → Option (Nat × Nat)} (hm : ∀ b o, ok b o → ok' b o) : ∀ {j : Nat} {ds : List Dat} {vs : List Value}, RetDs ok ρ w j ds vs → RetDs ok' ρ w j ds vs
  | _, [], [], _ => trivial
  | _, [], _ :: _, h => h.elim
  | _, _ :: _, [], h => h.elim
  | _, _ :: _, _ :: _, ⟨⟨cs, h1, h2, h3⟩, h4⟩ => ⟨⟨cs, h1.mono fun b o hk => ⟨hm b o hk, rfl⟩, h2, h3⟩, h4.mono hm⟩

theorem results_run {fn : Func} {ts : List ResultVar} (h : fn.results = ts.toArray) (hl : ts.length ≤ 4) {tmps : Array Value} {P : Program} {w : World} {vs : List Value}
    (hv : All2 (fun rv v => (rvRun tmps rv).run P w = .ok v w) ts vs) : (results fn tmps).run P w = .ok (match vs with | [v] => v | vs => .tuple vs.toArray) w := by
  have h0 : results fn tmps = (do let vs ← fn.results.mapM (rvRun tmps); pure (if h : vs.size = 1 then vs[0] else .tuple vs)) := by
    unfold results rvRun; rfl
  rw [h0, h]
  match ts, vs, hv, hl with
  | [], [], _, _ => simp
  | [_], [_], h, _ => simp [h.1]
  | [_, _], [_, _], h, _ => simp [h.1, h.2.1]
  | [_, _, _], [_, _, _], h, _ => simp [h.1, h.2.1, h.2.2.1]
  | [_, _, _, _], [_, _, _, _], h, _ => simp [h.1, h.2.1, h.2.2.1, h.2.2.2.1]
  | _ :: _ :: _ :: _ :: _ :: _, _, _, hl => simp at hl

theorem encDs_len : ∀ {rs : List (Ty × List Tag)} (y : ResD rs), (encDs rs y).length = rs.length
  | [], _ => rfl
  | [_], _ => rfl
  | _ :: b :: r, y => by unfold encDs; rw [List.length_cons, encDs_len (rs := b :: r) y.2]; rfl

theorem contract_of {E : Env} (hE : EnvOk P E) (hC : CallsOk P E) (hm : P.follows .mixedOrders = true) {f : FuncId} {fn : Func} {c : Code} {ts : List ResultVar} {ps : List PK} {rs : List (Ty × List Tag)} {F : ArgsD ps → Option (ResD rs)}
    (hf : P.funcs[f]? = some fn) (hb : fn.body = some c) (hres : fn.results = ts.toArray) (hl : ts.length ≤ 4) (hin : codeIn fn.ntmps c = true) (hps : ps.length ≤ fn.ntmps)
    (h : ∀ x y, F x = some y → ∃ n, evC E (evJ E (drE E) n) (drE E) c 0 (st0 ps x) (fin E ts rs) = some y) : Contract P f (spec ps rs F) := by
  intro l r y hs hr ok0 w vs hk hargs
  unfold spec at hs
  split at hs
  · rename_i x hx
    cases hs
    obtain ⟨n, hn⟩ := h x y hr
    refine calls_of_wp hf hb ?_
    have hlen : vs.length ≤ fn.ntmps := by
      have h1 := hargs.len
      have h2 : ∀ {ps : List PK} {l : List AV} {x : ArgsD ps}, decArgs ps l = some x → l.length = ps.length := by
        intro ps
        induction ps with
        | nil => intro l x h; cases l with
          | nil => rfl
          | cons _ _ => cases h
        | cons p ps ih =>
          intro l x h
          cases l with
          | nil => cases h
          | cons a l =>
            unfold decArgs at h
            split at h
            · split at h
              · rename_i z hz; rw [List.length_cons, List.length_cons, ih hz]
              · cases h
            · cases h
      have := h2 hx
      omega
    have hI : Inv w.heap.size ok0 w ⟨fun _ => none, fun _ => none⟩ (st0 ps x) { tmps := vs.toArray ++ Array.replicate (fn.ntmps - vs.toArray.size) undef, defers := [] } w :=
      { below := Below.refl _ _, hB := rfl, h0 := hk, defers := rfl, bb := fun _ _ _ h => (nomatch h), bi := fun _ _ _ _ _ h => (nomatch h), rb := fun _ _ _ h => (nomatch h), ri := fun _ _ _ _ _ h => (nomatch h),
        con := fun id c h => (nomatch h),
        slots := fun t => by
          have hv : (vs.toArray ++ Array.replicate (fn.ntmps - vs.toArray.size) undef).getD t undef = vs.getD t undef := by
            rw [Array.getD_eq_getD_getElem?, List.getD_eq_getElem?_getD, Array.getElem?_append]
            by_cases ht : t < vs.length
            · simp [ht]
            · simp [ht]
              cases hh : (Array.replicate (fn.ntmps - vs.length) undef)[t - vs.length]? with
              | none => rfl
              | some u =>
                have := Array.getElem?_eq_some_iff.1 hh
                obtain ⟨_, h2⟩ := this
                simp at h2
                rw [← h2]; rfl
          show RepA _ _ _ _ (mkT (argsL ps x 0) t) (Array.getD (vs.toArray ++ Array.replicate (fn.ntmps - vs.toArray.size) undef) t undef)
          rw [hv]
          have := args_rep (ok := okG w.heap.size ok0 ⟨fun _ => none, fun _ => none⟩ w) (g := ⟨fun _ => none, fun _ => none⟩) (σ := st0 ps x) (w := w) 0 t hx (hargs.imp fun av v h => h.mono fun b o hk => .inl hk)
          exact this }
    have hsz : (vs.toArray ++ Array.replicate (fn.ntmps - vs.toArray.size) undef).size = fn.ntmps := by simp; omega
    refine evC_ok hE hC (evJ_ok hE hC (dr_ok hE hC hm fn.ntmps) n) (dr_ok hE hC hm fn.ntmps) c 0 _ _ _ _ _ _ _ hin hn ?_ hI hsz
    intro e σ' he g' a' w' hI' hs'
    have key : (∃ p, resD E σ' ts rs = some p ∧ dis p.2 = true ∧ p.1 = y) → a'.defers = [] ∧ ∃ v, (results fn a'.tmps).run P w' = .ok v w' ∧ ∃ v', Ending.returned v = .returned v' ∧ Below w.heap.size w w' ∧ RepRet ok0 w w' (encRes rs y) v' := by
      rintro ⟨⟨y', ids⟩, hp, hd, rfl⟩
      obtain ⟨us, hus, hrd⟩ := resD_ok hE hI' (ids := ids) 0 hp fun i _ => by rw [Nat.zero_add]
      refine ⟨hI'.defers, _, results_run hres hl hus, _, rfl, hI'.below, ?_⟩
      have hrow : ∀ j b u, rowsOf g' ids j = some (b, u) → ∃ i, ids[j]? = some i ∧ i ≠ 0 ∧ g'.rw i = some (b, u) := fun j b u hj => by
        unfold rowsOf at hj
        split at hj
        · cases hj
        · rename_i i hne hi; exact ⟨i, hi, fun e => hne e, hj⟩
        · cases hj
      have hokR : ∀ b o, okG w.heap.size ok0 g' w' b o → okR ok0 w w' (rowsOf g' ids) b o := fun b o hk => by
        rcases hk with hk | ⟨h1, h2, _, h4⟩
        · exact .inl hk
        · refine .inr ⟨h1, h2, fun j u hj => ?_⟩
          obtain ⟨i, _, _, hi⟩ := hrow j b u hj
          exact h4 i u hi
      refine ⟨rowsOf g' ids, fun j b u hj => ?_, fun j k b u u' hj hk => ?_, ?_⟩
      · obtain ⟨i, _, _, hi⟩ := hrow j b u hj
        obtain ⟨h1, h2, _⟩ := hI'.rb i b u hi
        exact ⟨h1, h2⟩
      · obtain ⟨i, h1, h2, h3⟩ := hrow j b u hj
        obtain ⟨i', h1', h2', h3'⟩ := hrow k b u' hk
        have := hI'.ri i i' b u u' h3 h3'
        subst this
        exact dis_spec hd j k i h1 h1' h2
      · have hrd' := hrd.mono hokR
        have hlen2 := encDs_len y'
        unfold encRes
        generalize encDs rs y' = ds at hrd'
        match ds, us, hrd' with
        | [], [], _ => exact ⟨[], rfl, trivial⟩
        | [d], [v], h => exact h.1
        | d :: d2 :: ds, v :: v2 :: us, h => exact ⟨_, rfl, h⟩
    unfold fin at he
    cases e with
    | exit id => cases he
    | normal =>
      refine key ?_
      dsimp only at he
      split at he
      · rename_i p hp
        cases hd : dis p.2 with
        | false => rw [hd] at he; cases he
        | true => rw [hd] at he; cases he; exact ⟨p, hp, hd, rfl⟩
      · cases he
    | ret =>
      refine key ?_
      dsimp only at he
      split at he
      · rename_i p hp
        cases hd : dis p.2 with
        | false => rw [hd] at he; cases he
        | true => rw [hd] at he; cases he; exact ⟨p, hp, hd, rfl⟩
      · cases he
  · cases hs

end
end Go.AM
