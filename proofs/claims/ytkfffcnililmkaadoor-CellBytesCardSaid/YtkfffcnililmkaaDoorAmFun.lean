/- A function's contract out of what the evaluator answers of its body. -/
import Derived.Test.YtkfffcnililmkaaDoorAmDrw
namespace Go.AM
open Go.RowKit (Below)
set_option linter.unusedSectionVars false
variable [Lay]

def ioN : PK → Nat
  | .io _ => 1
  | _ => 0

/-- How many variables are handed over. -/
def ioC : List PK → Nat
  | [] => 0
  | p :: ps => ioN p + ioC ps

def argsL : (ps : List PK) → ArgsD ps → Nat → Nat → List (Nat × AV)
  | [], _, _, _ => []
  | p :: ps, x, i, k => (i, encArg k p x.1) :: argsL ps x.2 (i + 1) (k + ioN p)

def boxesL : (ps : List PK) → ArgsD ps → Nat → List (Nat × Option Con)
  | [], _, _ => []
  | p :: ps, x, k => match encBox p x.1 with
    | some c => (pid0 + k, some c) :: boxesL ps x.2 (k + ioN p)
    | none => boxesL ps x.2 (k + ioN p)

def st0 (ps : List PK) (x : ArgsD ps) : St := mk (argsL ps x 0 0) (boxesL ps x 0)

/-- The row that the tag found tells of; 0: nil. -/
def tagAt (σ : St) (t : Tag) : List Tag → Option Nat
  | [] => none
  | h :: r => if h.off = t.off ∧ h.sz = t.sz then (if h.id = 0 then some 0 else if σ.r h.id = h.ver then some h.id else none) else tagAt σ t r

def fitT (σ : St) (gs : List Tag) : List Tag → Option (List Nat)
  | [] => some []
  | t :: r => if t.id = 0 then none else match tagAt σ t gs with
    | some i => match fitT σ gs r with
      | some l => some (i :: l)
      | none => none
    | none => none

/-- A result: in a slot, or in a variable. -/
def resV (E : Env) (σ : St) : ResultVar → AV
  | .tmp t => σ.t t
  | .cell a T => match σ.t a with
    | .ptr id ver off => if σ.v id = ver then
        match σ.c id with
        | some (.var t z g) => match E.ty T with
          | some u => match sub u t z off with
            | some y => .dat u y (gsub g off u.sz)
            | none => .undef
          | none => .undef
        | some (.arr e l _) => match E.ty T with
          | some (.arr m e') => if off = 0 then
              match cast? (t := .sl e) (.sl e') l with
              | some l' => .dat (.arr m e') l' []
              | none => .undef
            else .undef
          | _ => .undef
        | _ => .undef
      else .undef
    | _ => .undef

/-- A box whose row is handed back stays as it is from then on. -/
def frzB (σ : St) (id ver : Nat) : St :=
  if σ.v id = ver ∧ Nat.blt id pid0 = true then
    match σ.c id with
    | some (.arr e l _) => σ.setBox id (.arr e l true)
    | _ => σ
  else σ

def frzV (σ : St) : AV → St
  | .slw id ver => frzB σ id ver
  | .slm id ver _ _ => frzB σ id ver
  | _ => σ

def frzR : List ResultVar → St → St
  | [], σ => σ
  | .tmp t :: r, σ => frzR r (frzV σ (σ.t t))
  | .cell .. :: r, σ => frzR r σ

def asDat (σ : St) : AV → AV
  | .slw id ver => if σ.v id = ver then
      match σ.c id with
      | some (.arr e l true) => .dat (.sl e) l []
      | _ => .undef
    else .undef
  | .slm id ver lo n => if σ.v id = ver then
      match σ.c id with
      | some (.arr e l true) => .dat (.sl e) ((l.drop lo).take n) []
      | _ => .undef
    else .undef
  | x => x

def resVs (E : Env) (σ : St) : List ResultVar → List AV
  | [] => []
  | t :: r => asDat σ (resV E σ t) :: resVs E σ r

/-- What the variables hold that were handed over. -/
def resIo (σ : St) (id : Nat) : AV :=
  match σ.c id with
  | some (.var t x _) => .dat t x []
  | _ => .undef

def resIos (σ : St) : Nat → Nat → List AV
  | 0, _ => []
  | m + 1, k => resIo σ (pid0 + k) :: resIos σ m (k + 1)

/-- What results hold, and the rows of their marks. -/
def resD (σ : St) : List AV → (rs : List (Ty × List Tag)) → Option (ResD rs × List Nat)
  | [], [] => some ((), [])
  | [v], [u] => match v.as u.1, fitT σ (v.tags u.1) u.2 with
    | some x, some l => some (x, l)
    | _, _ => none
  | v :: v2 :: vs, u :: u2 :: rs => match v.as u.1, fitT σ (v.tags u.1) u.2, resD σ (v2 :: vs) (u2 :: rs) with
    | some x, some l, some y => some ((x, y.1), l ++ y.2)
    | _, _, _ => none
  | _, _ => none

def dis : List Nat → Bool
  | [] => true
  | i :: l => (Nat.beq i 0 || l.all fun j => !Nat.beq i j) && dis l

/-- An array in a variable: has it its length? -/
def lenAt (E : Env) (σ : St) : ResultVar → Option Bool
  | .tmp _ => none
  | .cell a T => match σ.t a with
    | .ptr id _ _ => match σ.c id with
      | some (.arr e l _) => match E.ty T with
        | some (.arr m _) => some (decide (List.length (α := e.D) l = m + 1))
        | _ => none
      | _ => none
    | _ => none

def lens {R : Type} (E : Env) (σ : St) : List ResultVar → Option R → Option R
  | [], r => r
  | t :: ts, r => match lenAt E σ t with
    | some c => bif c then lens E σ ts r else none
    | none => lens E σ ts r

def finD (E : Env) (σ : St) (ts : List ResultVar) (m : Nat) (rs : List (Ty × List Tag)) : Option (ResD rs) :=
  lens E σ ts (match resD σ (resVs E σ ts ++ resIos σ m 0) rs with
  | some y => bif dis y.2 then some y.1 else none
  | none => none)

def fin (E : Env) (ts : List ResultVar) (m : Nat) (rs : List (Ty × List Tag)) : K (ResD rs) := fun e σ =>
  match e with
  | .exit _ => none
  | _ => finD E (frzR ts σ) ts m rs

section
variable {P : Program} {B : Bd} {ok0 ok : Nat → Nat → Prop} {w0 w w' : World} {g g' : G} {σ σ1 τ : St} {a : Act} {E : Env}

theorem caps_rep : ∀ {ts : List Ty} {ds : List Dat} {x : CapsD ts} {vs : List Value}, decCaps ts ds = some x → All2 (fun (d : Dat) u => RepE ok w d.t d.x 0 u) ds vs → All2 (fun (d : Dat) u => RepE ok w d.t d.x 0 u) (encCaps ts x) vs
  | [], [], _, vs, _, h => h
  | t :: ts, d :: ds, x, [], _, h => h.elim
  | t :: ts, d :: ds, x, v :: vs, hd, h => by
    unfold decCaps at hd
    split at hd
    · rename_i y hy
      split at hd
      · rename_i z hz
        cases hd
        refine ⟨?_, caps_rep hz h.2⟩
        obtain ⟨e, he⟩ := cast_some hy
        have h1 := h.1
        revert he h1
        obtain ⟨dt, dx, dg⟩ := d
        dsimp only at e ⊢
        subst e
        intro he h1
        cases he
        exact h1
      · cases hd
    · cases hd
  | [], _ :: _, _, _, hd, _ => by cases hd
  | _ :: _, [], _, _, hd, _ => by cases hd

theorem arg_rep {p : PK} {av : AV} {x : p.D} {v : Value} (h : decArg p av = some x) (hr : RepArg ok w av v) : RepA ok g σ w (encArg 0 p x) v := by
  cases p with
  | val t =>
    have h' : av.as t = some x := h
    cases av with
    | dat u x' gs =>
      obtain ⟨cs, h1, h2⟩ := hr
      have h3 := h1.cast h'
      refine ⟨cs, h3, ?_, fun _ h => by cases h⟩
      obtain ⟨e, _⟩ := cast_some h'
      subst e
      exact h2
    | nils => exact hr.elim
    | ept t x off => cases h'
    | fn f ds => cases h'
    | _ => exact hr.elim
  | ref t =>
    cases av with
    | ept u y off =>
      cases off with
      | zero =>
        have h' : cast? (t := u) t y = some x := h
        obtain ⟨e, he⟩ := cast_some h'
        subst e
        cases he
        exact hr
      | succ n => cases h
    | _ => cases h
  | fn f ts =>
    cases av with
    | fn g ds =>
      have h' : (if g = f then decCaps ts ds else none) = some x := h
      split at h'
      · rename_i hgf
        subst hgf
        obtain ⟨vs, h1, h2⟩ := hr
        exact ⟨vs, h1, caps_rep h' h2⟩
      · cases h'
    | _ => cases h
  | io t =>
    cases av with
    | iov u y => exact hr.elim
    | _ => cases h

theorem arg_io {t : Ty} {av : AV} {x : t.D} (h : decArg (.io t) av = some x) : av = .iov t x := by
  cases av with
  | iov u y =>
    have h' : cast? (t := u) t y = some x := h
    obtain ⟨e, he⟩ := cast_some h'
    subst e
    cases he
    rfl
  | _ => cases h

theorem arg_not {p : PK} {av : AV} {x : p.D} (hp : ioN p = 0) (h : decArg p av = some x) : ∀ t y, av ≠ .iov t y := by
  intro t y e
  subst e
  cases p with
  | io t => cases hp
  | _ => cases h

theorem argOk_not {av : AV} {v : Value} {bs r : List Nat} (hn : ∀ t y, av ≠ .iov t y) (h : ArgOk ok w av v bs r) : RepArg ok w av v ∧ bs = r := by
  unfold ArgOk at h
  split at h
  · exact absurd rfl (hn _ _)
  · exact h

theorem args_rep : ∀ {ps : List PK} {l : List AV} {vs : List Value} {bs : List Nat} {x : ArgsD ps} (i k t : Nat), decArgs ps l = some x → ArgsOk ok0 w l vs bs → (∀ b o, ok0 b o → ok b o) →
    (∀ j b, bs[j]? = some b → RepP g σ (pid0 + (k + j)) 0 0 (.pointer (some ⟨b, 0, none⟩))) → RepA ok g σ w (mkT (argsL ps x i k) t) (vs.getD (t - i) undef)
  | [], _, _, _, _, _, _, _, _, _, _, _ => trivial
  | p :: ps, [], _, _, _, _, _, _, h, _, _, _ => by cases h
  | p :: ps, av :: l, [], _, _, _, _, _, _, h, _, _ => h.elim
  | p :: ps, av :: l, v :: vs, bs, x, i, k, t, h, ⟨r, ha, hr⟩, hm, hg => by
    unfold decArgs at h
    split at h
    · rename_i y hy
      split at h
      · rename_i z hz
        cases h
        have hhead : RepA ok g σ w (encArg k p y) v ∧ ∀ j b, r[j]? = some b → RepP g σ (pid0 + (k + ioN p + j)) 0 0 (.pointer (some ⟨b, 0, none⟩)) := by
          by_cases hp : ∃ t, p = .io t
          · obtain ⟨t, rfl⟩ := hp
            rw [arg_io hy] at ha
            obtain ⟨b, rfl, hv, _⟩ := ha
            subst hv
            refine ⟨hg 0 b rfl, fun j b' hj => ?_⟩
            have := hg (j + 1) b' (by simpa using hj)
            rw [show k + ioN (.io t) + j = k + (j + 1) by show k + 1 + j = _; omega]
            exact this
          · have hp0 : ioN p = 0 := by cases p <;> first | rfl | exact absurd ⟨_, rfl⟩ hp
            obtain ⟨h1, rfl⟩ := argOk_not (arg_not hp0 hy) ha
            refine ⟨?_, fun j b' hj => by rw [hp0]; exact hg j b' hj⟩
            have := arg_rep (g := g) (σ := σ) hy (h1.mono hm)
            cases p <;> first | exact this | exact absurd ⟨_, rfl⟩ hp
        unfold argsL mkT
        dsimp only
        cases hb : Nat.beq t i with
        | true =>
          have : t = i := Nat.eq_of_beq_eq_true hb
          subst this
          rw [Nat.sub_self]
          exact hhead.1
        | false =>
          have hne : t ≠ i := fun e => by subst e; simp at hb
          by_cases hlt : t < i
          · have : ∀ (ps : List PK) (x : ArgsD ps) (i k : Nat), t < i → mkT (argsL ps x i k) t = .undef := by
              intro ps
              induction ps with
              | nil => intro _ _ _ _; rfl
              | cons p ps ih =>
                intro x i k hk
                unfold argsL mkT
                have : Nat.beq t i = false := by rw [Bool.eq_false_iff]; intro e; have := Nat.eq_of_beq_eq_true e; omega
                rw [this]
                exact ih _ _ _ (by omega)
            show RepA ok g σ w (mkT (argsL ps z (i + 1) (k + ioN p)) t) _
            rw [this ps z (i + 1) _ (by omega)]
            trivial
          · have hi := args_rep (i + 1) (k + ioN p) t hz hr hm hhead.2
            have : t - i = (t - (i + 1)) + 1 := by omega
            rw [this]
            exact hi
      · cases h
    · cases h

theorem box_rep : ∀ {ps : List PK} {l : List AV} {vs : List Value} {bs : List Nat} {x : ArgsD ps} (k : Nat), decArgs ps l = some x → ArgsOk ok0 w l vs bs → bs.length = ioC ps ∧
    ∀ id c, mkC (boxesL ps x k) id = some c → ∃ j b t y, id = pid0 + (k + j) ∧ bs[j]? = some b ∧ c = .var t y [] ∧ ∃ cs T, w.heap[b]? = some (.cells cs.toArray T (0, 0)) ∧ RepD ok0 w t y cs
  | [], [], [], _, _, _, _, h => by cases h; exact ⟨rfl, fun _ _ h => by cases h⟩
  | [], [], _ :: _, _, _, _, _, h => h.elim
  | [], _ :: _, _, _, _, _, h, _ => by cases h
  | p :: ps, [], _, _, _, _, h, _ => by cases h
  | p :: ps, av :: l, [], _, _, _, _, h => h.elim
  | p :: ps, av :: l, v :: vs, bs, x, k, h, ⟨r, ha, hr⟩ => by
    unfold decArgs at h
    split at h
    · rename_i y hy
      split at h
      · rename_i z hz
        cases h
        obtain ⟨ih1, ih2⟩ := box_rep (k + ioN p) hz hr
        by_cases hp : ∃ t, p = .io t
        · obtain ⟨t, rfl⟩ := hp
          rw [arg_io hy] at ha
          obtain ⟨b, rfl, hv, hc⟩ := ha
          refine ⟨by show r.length + 1 = 1 + ioC ps; omega, fun id c hid => ?_⟩
          have hid' : (bif Nat.beq id (pid0 + k) then some (Con.var t y []) else mkC (boxesL ps z (k + ioN (.io t))) id) = some c := hid
          cases hb : Nat.beq id (pid0 + k) with
          | true =>
            rw [hb] at hid'
            cases hid'
            exact ⟨0, b, t, y, Nat.eq_of_beq_eq_true hb, rfl, rfl, hc⟩
          | false =>
            rw [hb] at hid'
            obtain ⟨j, b', t', y', h1, h2, h3⟩ := ih2 id c hid'
            exact ⟨j + 1, b', t', y', by rw [h1]; show _ + (k + 1 + j) = _; omega, by simpa using h2, h3⟩
        · have hp0 : ioN p = 0 := by cases p <;> first | rfl | exact absurd ⟨_, rfl⟩ hp
          obtain ⟨h1, rfl⟩ := argOk_not (arg_not hp0 hy) ha
          refine ⟨by show _ = ioN p + ioC ps; omega, fun id c hid => ?_⟩
          have : boxesL (p :: ps) (y, z) k = boxesL ps z (k + ioN p) := by
            cases p <;> first | rfl | exact absurd ⟨_, rfl⟩ hp
          rw [this] at hid
          obtain ⟨j, b', t', y', h1, h2⟩ := ih2 id c hid
          exact ⟨j, b', t', y', by rw [h1, hp0]; rfl, h2⟩
      · cases h
    · cases h

theorem as_rep {u : Ty} {av : AV} {x : u.D} {v : Value} (h : av.as u = some x) (hr : RepA ok g σ w av v) : ∃ cs, RepD ok w u x cs ∧ v = valOf u cs ∧ TagsOk g σ.r w (av.tags u) cs := by
  cases av with
  | dat t y gs =>
    obtain ⟨cs, h1, h2, h3⟩ := hr
    obtain ⟨e, he⟩ := cast_some h
    subst e
    subst he
    exact ⟨cs, h1, h2, h3⟩
  | nils =>
    cases u with
    | sl e =>
      cases h
      have : v = .slice none 0 0 := hr
      subst this
      refine ⟨[.slice none 0 0], ⟨none, 0, 0, rfl, rfl, Nat.le_refl _, Nat.zero_le _, fun i x h => by simp at h⟩, rfl, ?_⟩
      intro t ht
      cases List.mem_singleton.1 ht
      exact ⟨fun _ => rfl, fun h => absurd rfl h⟩
    | _ => cases h
  | _ => cases h

theorem tagAt_ok {t : Tag} {i : Nat} {cs : List Value} : ∀ {gs : List Tag}, tagAt σ t gs = some i → TagsOk g σ.r w gs cs → (i = 0 → cs[t.off]? = some (.slice none 0 0)) ∧ (i ≠ 0 → OwnSl g w t.sz i cs[t.off]?)
  | [], h, _ => by cases h
  | x :: gs, h, hk => by
    unfold tagAt at h
    split at h
    · rename_i hx
      have hx' := hk x (List.mem_cons_self ..)
      split at h
      · rename_i h0
        cases h
        exact ⟨fun _ => hx.1 ▸ hx'.1 h0, fun h => absurd rfl h⟩
      · rename_i h0
        split at h
        · rename_i hv
          cases h
          exact ⟨fun h => absurd h h0, fun _ => by rw [← hx.1, ← hx.2]; exact (hx'.2 h0).2 hv⟩
        · cases h
    · exact tagAt_ok h fun y hy => hk y (List.mem_cons_of_mem _ hy)

/-- The rows of results, by their number. -/
def rowsOf (g : G) (ids : List Nat) (j : Nat) : Option (Nat × Nat) := match ids[j]? with
  | some 0 => none
  | some i => g.rw i
  | none => none

theorem fitT_ok {gs : List Tag} {cs : List Value} (hk : TagsOk g σ.r w gs cs) {ids : List Nat} : ∀ {want : List Tag} {l : List Nat} (j : Nat), fitT σ gs want = some l → (∀ i, i < l.length → ids[j + i]? = l[i]?) →
    RetTags (rowsOf g ids) w cs j want ∧ cnt want = l.length
  | [], l, j, h, _ => by cases h; exact ⟨trivial, rfl⟩
  | t :: r, l, j, h, hi => by
    unfold fitT at h
    split at h
    · cases h
    · rename_i h0
      split at h
      · rename_i i ht
        split at h
        · rename_i l' hl'
          cases h
          obtain ⟨h1, h2⟩ := fitT_ok hk (ids := ids) (j + 1) hl' fun i hi' => by
            have := hi (i + 1) (by simp; omega)
            rw [show j + 1 + i = j + (i + 1) by omega, this]; rfl
          unfold RetTags cnt
          rw [if_neg h0, if_neg h0]
          refine ⟨⟨?_, h1⟩, by rw [h2]; rfl⟩
          obtain ⟨k1, k2⟩ := tagAt_ok ht hk
          by_cases hz : i = 0
          · exact .inl (k1 hz)
          · rcases k2 hz with hk2 | ⟨b, n, cap, cur, T, hv, hrw, rest⟩
            · exact .inl hk2
            · refine .inr ⟨b, n, cap, cur, T, hv, ?_, rest⟩
              show rowsOf g ids j = _
              have := hi 0 (by simp)
              unfold rowsOf
              rw [show ids[j]? = some i from this]
              cases i with
              | zero => exact absurd rfl hz
              | succ i => exact hrw
        · cases h
      · cases h

theorem dis_spec : ∀ {l : List Nat}, dis l = true → ∀ i j x : Nat, l[i]? = some x → l[j]? = some x → x ≠ 0 → i = j
  | [], _, i, _, _, h, _, _ => by simp at h
  | y :: l, h, i, j, x, hi, hj, hx => by
    unfold dis at h
    simp only [Bool.and_eq_true, Bool.or_eq_true, List.all_eq_true] at h
    have hn : ∀ k : Nat, l[k]? = some x → y = x → False := fun k hk hyx => by
      rcases h.1 with h0 | h0
      · have := Nat.eq_of_beq_eq_true h0; omega
      · have := h0 x (List.mem_of_getElem? hk)
        subst hyx
        simp at this
    cases i with
    | zero =>
      cases j with
      | zero => rfl
      | succ j => simp at hi; exact (hn j (by simpa using hj) hi).elim
    | succ i =>
      cases j with
      | zero => simp at hj; exact (hn i (by simpa using hi) hj).elim
      | succ j => rw [dis_spec h.2 i j x (by simpa using hi) (by simpa using hj) hx]

def rvRun (tmps : Array Value) : ResultVar → Sem Value
  | .tmp t => pure (tmps.getD t undef)
  | .cell a t => do loadVar t (← asAddr (tmps.getD a undef))

theorem lens_some {R : Type} {y : R} : ∀ {ts : List ResultVar} {r : Option R}, lens E σ ts r = some y → (∀ t ∈ ts, ∀ c, lenAt E σ t = some c → c = true) ∧ r = some y
  | [], r, h => ⟨fun _ ht => (by cases ht), h⟩
  | t :: ts, r, h => by
    unfold lens at h
    split at h
    · rename_i c hc
      cases c with
      | false => cases h
      | true =>
        obtain ⟨h1, h2⟩ := lens_some (ts := ts) h
        refine ⟨fun t' ht' c' hc' => ?_, h2⟩
        rcases List.mem_cons.1 ht' with rfl | ht'
        · rw [hc] at hc'; cases hc'; rfl
        · exact h1 t' ht' c' hc'
    · rename_i hc
      obtain ⟨h1, h2⟩ := lens_some (ts := ts) h
      refine ⟨fun t' ht' c' hc' => ?_, h2⟩
      rcases List.mem_cons.1 ht' with rfl | ht'
      · rw [hc] at hc'; cases hc'
      · exact h1 t' ht' c' hc'

theorem arr_rep (hI : Inv B ok0 w0 g σ a w) {id b : Nat} {f fz : Bool} {e : Ty} {l : List e.D} {m : Nat} (hb : g.bx id = some (b, f)) (hc : σ.c id = some (.arr e l fz)) (hlen : List.length (α := e.D) l = m + 1) :
    ∃ cs, RepD (okG B ok0 g w) w (.arr m e) l cs ∧ ∀ (j : Nat) v, cs[j]? = some v → w.cell? ⟨b, j, none⟩ = some v := by
  obtain ⟨hf', cur, TT, hh, hsz, hmx, hrow⟩ := hI.conB hb hc
  obtain ⟨cs, hrows, hcs, _⟩ := rows_of_cells (ok := okG B ok0 g w) (w := w) (e := e) (c := fun k => cur[k]?) (l := l) (base := 0) (fun i x hi => by
    obtain ⟨ys, hy, hyc⟩ := hrow i x hi
    exact ⟨ys, hy, fun j u hj => by rw [Nat.zero_add]; exact hyc j u hj⟩)
  refine ⟨cs, ⟨hlen, by rw [hrows.1, hlen], fun i x hi => ?_⟩, fun j v hj => ?_⟩
  · obtain ⟨ys, hy, hyc⟩ := hrows.2 i x hi
    have hyl := hy.len
    have : (cs.drop (i * e.sz)).take e.sz = ys := by
      apply List.ext_getElem?
      intro j
      rw [List.getElem?_take]
      split
      · rename_i hj
        rw [List.getElem?_drop, List.getElem?_eq_getElem (show j < ys.length by omega)]
        exact hyc j _ (List.getElem?_eq_getElem (by omega))
      · rw [List.getElem?_eq_none (by omega)]
    rw [this]
    exact hy
  · have := hcs j v hj
    simp only [World.cell?, hh]
    simpa using this

theorem resV_ok (hE : EnvOk P E) (hI : Inv B ok0 w0 g σ a w) {t : ResultVar} {u : Ty} {x : u.D} (hlt : ∀ c, lenAt E σ t = some c → c = true) (h : (resV E σ t).as u = some x) :
    ∃ v, (rvRun a.tmps t).run P w = .ok v w ∧ RepA (okG B ok0 g w) g σ w (resV E σ t) v := by
  unfold resV at *
  cases t with
  | tmp t => exact ⟨_, rfl, hI.slots t⟩
  | cell s T =>
    dsimp only at *
    have rx := hI.slots s
    split at h
    · rename_i id ver off hx
      rw [hx] at rx
      split at h
      · rename_i hv
        obtain ⟨b, f, hb, hp⟩ := rx.2 hv
        split at h
        · rename_i t z gs hc
          obtain ⟨hf', cs, TT, hh, hr, ht⟩ := hI.conB hb hc
          split at h
          · rename_i u' hu
            split at h
            · rename_i y hy
              obtain ⟨hs, hbd⟩ := sub_sound hy hr
              have hl := (hE.ty T u' hu).load (b := b) (o := off) hs (fun j v hj => by
                rw [List.getElem?_take] at hj
                split at hj
                · rw [List.getElem?_drop] at hj
                  simp only [World.cell?, hh]
                  simpa using hj
                · cases hj)
              refine ⟨valOf u' ((cs.drop off).take u'.sz), ?_, by rw [if_pos hv]; exact ⟨_, hs, rfl, gsub_ok ht⟩⟩
              unfold rvRun
              dsimp only
              rw [show a.tmps.getD s undef = .pointer (some ⟨b, off, none⟩) from hp]
              simp only [asAddr, Sem.run_bind, Sem.run_pure, Result.andThen_ok, hl]
            · cases h
          · cases h
        · rename_i e l fz hc
          split at h
          · rename_i m e' hT
            split at h
            · rename_i h0
              split at h
              · rename_i l' hl'
                obtain ⟨ee, hx'⟩ := cast_some hl'
                have ee2 : e = e' := by cases ee; rfl
                subst ee2
                have hx'' : l = l' := hx'
                subst hx''
                have hlen : List.length (α := e.D) l = m + 1 := of_decide_eq_true (hlt _ (by unfold lenAt; simp only [hx, hc, hT]))
                obtain ⟨cs, hrep, hcs⟩ := arr_rep hI hb hc hlen
                have hl := (hE.ty T _ hT).load (b := b) (o := off) hrep (fun j v hj => by rw [h0, Nat.zero_add]; exact hcs j v hj)
                refine ⟨valOf (.arr m e) cs, ?_, by rw [if_pos hv, if_pos h0]; exact ⟨cs, hrep, rfl, fun t ht => by cases ht⟩⟩
                unfold rvRun
                dsimp only
                rw [show a.tmps.getD s undef = .pointer (some ⟨b, off, none⟩) from hp]
                simp only [asAddr, Sem.run_bind, Sem.run_pure, Result.andThen_ok, hl]
              · cases h
            · cases h
          · cases h
        · cases h
      · cases h
    · cases h

theorem frzB_ok (hI : Inv B ok0 w0 g σ a w) (id ver : Nat) : ∃ g', Inv B ok0 w0 g' (frzB σ id ver) a w := by
  unfold frzB
  split
  · rename_i hv
    have hid : id < pid0 := Nat.le_of_ble_eq_true hv.2
    split
    · rename_i e l fz hc
      cases hb : g.bx id with
      | none => exact ⟨g, (hI.freezeNil hc hb).1⟩
      | some q =>
        obtain ⟨b, f⟩ := q
        obtain ⟨g', _, hI', _⟩ := hI.freeze hc hb hid
        exact ⟨g', hI'⟩
    · exact ⟨g, hI⟩
  · exact ⟨g, hI⟩

theorem frzR_ok : ∀ (ts : List ResultVar) {σ : St} {g : G}, Inv B ok0 w0 g σ a w → ∃ g', Inv B ok0 w0 g' (frzR ts σ) a w
  | [], _, g, hI => ⟨g, hI⟩
  | .tmp t :: ts, σ, g, hI => by
    have : ∃ g', Inv B ok0 w0 g' (frzV σ (σ.t t)) a w := by
      unfold frzV
      split
      · exact frzB_ok hI _ _
      · exact frzB_ok hI _ _
      · exact ⟨g, hI⟩
    obtain ⟨g', hI'⟩ := this
    exact frzR_ok ts hI'
  | .cell _ _ :: ts, σ, g, hI => frzR_ok ts hI

theorem asDat_ok (hI : Inv B ok0 w0 g σ a w) {av : AV} {v : Value} (hr : RepA (okG B ok0 g w) g σ w av v) : RepA (okG B ok0 g w) g σ w (asDat σ av) v := by
  have hfr : ∀ {id b : Nat} {f : Bool} {e : Ty} {l : List e.D}, σ.c id = some (.arr e l true) → g.bx id = some (b, f) → ∃ cur T, w.heap[b]? = some (.cells cur T (0, 0)) ∧ (∀ o, okG B ok0 g w b o) ∧
      ∀ (i : Nat) (x : e.D), l[i]? = some x → ∃ ys, RepD (okG B ok0 g w) w e x ys ∧ ∀ j u, ys[j]? = some u → cur[i * e.sz + j]? = some u := by
    intro id b f e l hc hb
    obtain ⟨hf, cur, T, hh, _, _, hrow⟩ := hI.conB hb hc
    subst hf
    have hbb := hI.bb id b true hb
    have hBb : B.n ≤ b := by rcases hbb.1 with h | h; exact h; exact absurd h.2.1 (by simp)
    refine ⟨cur, T, hh, fun o => .inr ⟨hBb, hbb.2, fun id' he => ?_, fun id' u he => ?_⟩, hrow⟩
    · have := hI.bi _ _ _ _ _ he hb
      subst this
      rw [hb] at he
      cases he
    · exact absurd hb ((hI.rb id' b u he).2.2 id true)
  unfold asDat
  split
  · rename_i id ver
    split
    · rename_i hv
      split
      · rename_i e l hc
        obtain ⟨e2, l2, fz2, hc2, hsw⟩ := hr.2 hv
        rw [hc] at hc2; cases hc2
        rcases hsw with ⟨hn, hl0, hv⟩ | ⟨b, f, cap, cur, T, hb, hh, hcs, hle, hmx, hv⟩
        · have hl00 : l = [] := List.eq_nil_of_length_eq_zero hl0
          subst hl00
          exact ⟨[v], by rw [hv]; exact ⟨none, 0, 0, rfl, rfl, Nat.le_refl _, Nat.zero_le _, fun i x hi => by simp at hi⟩, rfl, fun t ht => by cases ht⟩
        · obtain ⟨cur', T', hh', hok, hrow⟩ := hfr hc hb
          refine ⟨[v], ?_, rfl, fun t ht => by cases ht⟩
          rw [hv]
          refine ⟨_, _, _, rfl, rfl, hle, hmx, fun i x hi => ?_⟩
          obtain ⟨ys, hy, hyc⟩ := hrow i x hi
          refine ⟨_, rfl, rfl, ys, hy, fun j u hj => ⟨hok _, ?_⟩⟩
          simp only [World.cell?, hh', Nat.zero_add]
          exact hyc j u hj
      · trivial
    · trivial
  · rename_i id ver lo n
    split
    · rename_i hv
      split
      · rename_i e l hc
        obtain ⟨e2, l2, fz2, A, cap, hc2, hlo, hcap, hmx2, hA, hAs, hp⟩ := hr.2 hv
        rw [hc] at hc2; cases hc2
        refine ⟨[v], ?_, rfl, fun t ht => by cases ht⟩
        rw [hp]
        refine ⟨_, _, _, rfl, by rw [List.length_take, List.length_drop]; omega, hcap, hmx2, fun i x hi => ?_⟩
        obtain ⟨hin, hi'⟩ := getElem?_take_drop hi
        obtain ⟨b2, f2, hb2, hA2⟩ := hA (by omega)
        obtain ⟨cur', T', hh', hok, hrow⟩ := hfr hc hb2
        obtain ⟨ys, hy, hyc⟩ := hrow _ x hi'
        refine ⟨_, hA2, rfl, ys, hy, fun j u hj => ⟨hok _, ?_⟩⟩
        simp only [World.cell?, hh']
        rw [show lo * e.sz + (i * e.sz + j) = (lo + i) * e.sz + j by rw [Nat.add_mul]; omega]
        exact hyc j u hj
      · trivial
    · trivial
  · exact hr

/-- Results, one by one. -/
def ResL (σ : St) : List AV → List Dat → List Nat → Prop
  | [], [], l => l = []
  | av :: avs, d :: ds, l => av.as d.t = some d.x ∧ ∃ l1 l2, fitT σ (av.tags d.t) d.g = some l1 ∧ l = l1 ++ l2 ∧ ResL σ avs ds l2
  | _, _, _ => False

theorem resD_list : ∀ {avs : List AV} {rs : List (Ty × List Tag)} {y : ResD rs} {l : List Nat}, resD σ avs rs = some (y, l) → ResL σ avs (encDs rs y) l
  | [], [], _, _, h => by cases h; rfl
  | [], _ :: _, _, _, h => by cases h
  | [_], [], _, _, h => by cases h
  | _ :: _ :: _, [], _, _, h => by cases h
  | [v], [u], y, l, h => by
    unfold resD at h
    split at h
    · rename_i x l' hx hl'
      cases h
      exact ⟨hx, l, [], hl', by simp, rfl⟩
    · cases h
  | [_], _ :: _ :: _, _, _, h => by cases h
  | _ :: _ :: _, [_], _, _, h => by cases h
  | v :: v2 :: vs, u :: u2 :: rs, y, l, h => by
    unfold resD at h
    split at h
    · rename_i x l' z hx hl' hz
      cases h
      exact ⟨hx, l', z.2, hl', rfl, resD_list hz⟩
    · cases h

theorem ResL.split : ∀ {a b : List AV} {ds : List Dat} {l : List Nat}, ResL σ (a ++ b) ds l → ∃ l1 l2, l = l1 ++ l2 ∧ ResL σ a (ds.take a.length) l1 ∧ ResL σ b (ds.drop a.length) l2
  | [], _, ds, l, h => ⟨[], l, rfl, rfl, h⟩
  | v :: a, b, [], l, h => h.elim
  | v :: a, b, d :: ds, l, ⟨h1, l1, l2, h2, h3, h4⟩ => by
    obtain ⟨m1, m2, k1, k2, k3⟩ := ResL.split h4
    exact ⟨l1 ++ m1, m2, by rw [h3, k1, List.append_assoc], ⟨h1, l1, m1, h2, rfl, k2⟩, k3⟩

theorem ResL.len : ∀ {a : List AV} {ds : List Dat} {l : List Nat}, ResL σ a ds l → ds.length = a.length
  | [], [], _, _ => rfl
  | _ :: _, _ :: _, _, ⟨_, _, _, _, _, h⟩ => by rw [List.length_cons, List.length_cons, h.len]
  | [], _ :: _, _, h => h.elim
  | _ :: _, [], _, h => h.elim

theorem resL_ret {ids : List Nat} : ∀ {avs : List AV} {ds : List Dat} {vs : List Value} {l : List Nat} (j : Nat), ResL σ avs ds l → All2 (fun av v => RepA ok g σ w av v) avs vs → (∀ i, i < l.length → ids[j + i]? = l[i]?) →
    RetDs ok (rowsOf g ids) w j ds vs
  | [], [], [], _, _, _, _, _ => trivial
  | av :: avs, d :: ds, v :: vs, l, j, ⟨h1, l1, l2, h2, h3, h4⟩, hr, hi => by
    subst h3
    obtain ⟨cs, k1, k2, k3⟩ := as_rep h1 hr.1
    have hf := fitT_ok (ids := ids) k3 j h2 fun i hi' => by rw [hi i (by simp; omega), List.getElem?_append_left hi']
    refine ⟨⟨cs, k1, k2, hf.1⟩, ?_⟩
    rw [hf.2]
    exact resL_ret (j + l1.length) h4 hr.2 fun i hi' => by
      rw [Nat.add_assoc, hi (l1.length + i) (by simp; omega), List.getElem?_append_right (by omega)]
      congr 1
      omega
  | [], _ :: _, _, _, _, h, _, _ => h.elim
  | _ :: _, [], _, _, _, h, _, _ => h.elim
  | [], [], _ :: _, _, _, _, h, _ => h.elim
  | _ :: _, _ :: _, [], _, _, _, h, _ => h.elim

theorem resVs_ok (hE : EnvOk P E) (hI : Inv B ok0 w0 g σ a w) : ∀ {ts : List ResultVar} {ds : List Dat} {l : List Nat}, (∀ t ∈ ts, ∀ c, lenAt E σ t = some c → c = true) → ResL σ (resVs E σ ts) ds l →
    ∃ vs, All2 (fun rv v => (rvRun a.tmps rv).run P w = .ok v w) ts vs ∧ All2 (fun av v => RepA (okG B ok0 g w) g σ w av v) (resVs E σ ts) vs
  | [], _, _, _, _ => ⟨[], trivial, trivial⟩
  | t :: ts, [], _, _, h => h.elim
  | t :: ts, d :: ds, l, hlt, ⟨h1, _, l2, _, _, h2⟩ => by
    obtain ⟨vs, k1, k2⟩ := resVs_ok hE hI (fun t' ht' => hlt t' (List.mem_cons_of_mem _ ht')) h2
    have : ∃ v, (rvRun a.tmps t).run P w = .ok v w ∧ RepA (okG B ok0 g w) g σ w (resV E σ t) v := by
      cases t with
      | tmp t => exact ⟨_, rfl, hI.slots t⟩
      | cell s T =>
        have hne : ∀ (av : AV), (asDat σ av).as d.t = some d.x → (∃ u x gs, av = .dat u x gs) ∨ av = .nils ∨ (∃ id ver, av = .slw id ver) ∨ ∃ id ver lo n, av = .slm id ver lo n := by
          intro av h
          cases av with
          | dat u x gs => exact .inl ⟨u, x, gs, rfl⟩
          | nils => exact .inr (.inl rfl)
          | slw id ver => exact .inr (.inr (.inl ⟨id, ver, rfl⟩))
          | slm id ver lo n => exact .inr (.inr (.inr ⟨id, ver, lo, n, rfl⟩))
          | _ => cases h
        have hcell : (resV E σ (.cell s T) = .undef) ∨ ∃ u x gs, resV E σ (.cell s T) = .dat u x gs := by
          unfold resV
          dsimp only
          (repeat' split) <;> first | exact .inl rfl | exact .inr ⟨_, _, _, rfl⟩
        rcases hcell with hu | ⟨u, x, gs, hu⟩
        · rw [hu] at h1; cases h1
        · have hx : (resV E σ (.cell s T)).as d.t = some d.x := by rw [hu] at h1 ⊢; exact h1
          exact resV_ok hE hI (hlt _ (List.mem_cons_self ..)) hx
    obtain ⟨v, hrun, hv⟩ := this
    exact ⟨v :: vs, ⟨hrun, k1⟩, asDat_ok hI hv, k2⟩

theorem resIos_ok (hI : Inv B ok0 w0 g σ a w) : ∀ {m k : Nat} {ds : List Dat} {l : List Nat}, ResL σ (resIos σ m k) ds l → B.io.length = k + m → IoDs (okG B ok0 g w) w ds (B.io.drop k)
  | 0, k, [], _, _, hl => by rw [List.drop_eq_nil_of_le (by omega)]; trivial
  | 0, _, _ :: _, _, h, _ => h.elim
  | m + 1, k, [], _, h, _ => h.elim
  | m + 1, k, d :: ds, l, ⟨h1, _, l2, _, _, h2⟩, hl => by
    have ih := resIos_ok hI (k := k + 1) h2 (by omega)
    have hk : k < B.io.length := by omega
    rw [List.drop_eq_getElem_cons hk]
    refine ⟨?_, ih⟩
    unfold resIo at h1
    split at h1
    · rename_i t x gs hc
      obtain ⟨b, f, hb, hf, cs, T, hh, hr, _⟩ := hI.con' hc (fun _ _ _ he => by cases he)
      have := hI.nm _ _ _ (by omega) hb
      rw [show pid0 + k - pid0 = k by omega, List.getElem?_eq_getElem hk] at this
      cases this
      exact ⟨cs, T, hh, hr.cast h1⟩
    · cases h1

theorem RetDs.mono {ok ok' : Nat → Nat → Prop} {ρ : Nat → Option (Nat × Nat)} (hm : ∀ b o, ok b o → ok' b o) : ∀ {j : Nat} {ds : List Dat} {vs : List Value}, RetDs ok ρ w j ds vs → RetDs ok' ρ w j ds vs
  | _, [], [], _ => trivial
  | _, [], _ :: _, h => h.elim
  | _, _ :: _, [], h => h.elim
  | _, _ :: _, _ :: _, ⟨⟨cs, h1, h2, h3⟩, h4⟩ => ⟨⟨cs, h1.mono fun b o hk => ⟨hm b o hk, rfl⟩, h2, h3⟩, h4.mono hm⟩

theorem results_run {fn : Func} {ts : List ResultVar} (h : fn.results = ts.toArray) (hl : ts.length ≤ 4) {tmps : Array Value} {P : Program} {w : World} {vs : List Value}
    (hv : All2 (fun rv v => (rvRun tmps rv).run P w = .ok v w) ts vs) : (results fn tmps).run P w = .ok (match vs with | [v] => v | vs => .tuple vs.toArray) w := by
  have h0 : results fn tmps = (do let vs ← fn.results.mapM (rvRun tmps); pure (if h : vs.size = 1 then vs[0] else .tuple vs)) := by
    unfold results rvRun; rfl
  rw [h0, h]
  match ts, vs, hv, hl with
  | [], [], _, _ => simp
  | [_], [_], h, _ => simp [h.1]
  | [_, _], [_, _], h, _ => simp [h.1, h.2.1]
  | [_, _, _], [_, _, _], h, _ => simp [h.1, h.2.1, h.2.2.1]
  | [_, _, _, _], [_, _, _, _], h, _ => simp [h.1, h.2.1, h.2.2.1, h.2.2.2.1]
  | _ :: _ :: _ :: _ :: _ :: _, _, _, hl => simp at hl

theorem encDs_len : ∀ {rs : List (Ty × List Tag)} (y : ResD rs), (encDs rs y).length = rs.length
  | [], _ => rfl
  | [_], _ => rfl
  | _ :: b :: r, y => by unfold encDs; rw [List.length_cons, encDs_len (rs := b :: r) y.2]; rfl

theorem IoDs.mono {ok ok' : Nat → Nat → Prop} (hm : ∀ b o, ok b o → ok' b o) : ∀ {ds : List Dat} {bs : List Nat}, IoDs ok w ds bs → IoDs ok' w ds bs
  | [], [], _ => trivial
  | _ :: _, _ :: _, ⟨⟨cs, T, h1, h2⟩, h3⟩ => ⟨⟨cs, T, h1, h2.mono fun b o hk => ⟨hm b o hk, rfl⟩⟩, h3.mono hm⟩
  | [], _ :: _, h => h.elim
  | _ :: _, [], h => h.elim

theorem resVs_len (E : Env) (σ : St) : ∀ ts : List ResultVar, (resVs E σ ts).length = ts.length
  | [] => rfl
  | _ :: ts => by unfold resVs; rw [List.length_cons, List.length_cons, resVs_len E σ ts]

theorem argsOk_len {ok : Nat → Nat → Prop} : ∀ {l : List AV} {vs : List Value} {bs : List Nat}, ArgsOk ok w l vs bs → l.length = vs.length
  | [], [], _, _ => rfl
  | _ :: _, _ :: _, _, ⟨_, _, h⟩ => by rw [List.length_cons, List.length_cons, argsOk_len h]
  | [], _ :: _, _, h => h.elim
  | _ :: _, [], _, h => h.elim

theorem body_ok {E : Env} (hE : EnvOk P E) (hC : CallsOk P E) (hm : P.follows .mixedOrders = true) {f : FuncId} {fn : Func} {c : Code} {ts : List ResultVar} {ps : List PK} {rs : List (Ty × List Tag)} {F : ArgsD ps → Option (ResD rs)}
    (hf : P.funcs[f]? = some fn) (hb : fn.body = some c) (hres : fn.results = ts.toArray) (hl : ts.length ≤ 4) (hin : codeIn fn.ntmps c = true) (hps : ps.length ≤ fn.ntmps ∧ fn.ntmps ≤ pid0)
    (h : ∀ x y, F x = some y → ∃ n, evC E (evJ E (drE E) n) (drE E) c 0 (st0 ps x) (fin E ts (ioC ps) rs) = some y)
    {l : List AV} {x : ArgsD ps} {y : ResD rs} (hx : decArgs ps l = some x) (hr : F x = some y) {ok0 : Nat → Nat → Prop} {w : World} {vs : List Value} {bs : List Nat} (hlay : ∃ z, Lay.ok z w ∧ ∀ b ∈ bs, z ≤ b) (hk : ∀ b o, ok0 b o → b < w.heap.size ∧ b ∉ bs) (hnd : bs.Nodup) (hbs : ∀ b ∈ bs, b < w.heap.size)
    (hargs : ArgsOk ok0 w l vs bs) :
    Calls P f vs.toArray w fun e w' => (encDs rs y).length = ts.length + ioC ps ∧ ∃ v, e = .returned v ∧ BelowX ⟨w.heap.size, bs⟩ w w' ∧ RepRet ok0 w w' (encTo ((encDs rs y).take ts.length)) ((encDs rs y).drop ts.length) bs v := by
  obtain ⟨n, hn⟩ := h x y hr
  refine calls_of_wp hf hb ?_
  have hlen : vs.length ≤ fn.ntmps := by
    have h1 := argsOk_len hargs
    have h2 : ∀ {ps : List PK} {l : List AV} {x : ArgsD ps}, decArgs ps l = some x → l.length = ps.length := by
      intro ps
      induction ps with
      | nil => intro l x h; cases l with
        | nil => rfl
        | cons _ _ => cases h
      | cons p ps ih =>
        intro l x h
        cases l with
        | nil => cases h
        | cons a l =>
          unfold decArgs at h
          split at h
          · split at h
            · rename_i z hz; rw [List.length_cons, List.length_cons, ih hz]
            · cases h
          · cases h
    have := h2 hx
    omega
  have hsz : (vs.toArray ++ Array.replicate (fn.ntmps - vs.toArray.size) undef).size = fn.ntmps := by simp; omega
  obtain ⟨hbl, hbox⟩ := box_rep (ps := ps) (x := x) 0 hx hargs
  let bx0 : Nat → Option (Nat × Bool) := fun id => if pid0 ≤ id then (match bs[id - pid0]? with | some b => some (b, false) | none => none) else none
  have hbx : ∀ id b f, bx0 id = some (b, f) → pid0 ≤ id ∧ bs[id - pid0]? = some b ∧ f = false := fun id b f hh => by
    simp only [bx0] at hh
    split at hh
    · rename_i hp
      split at hh
      · rename_i b' hb'; cases hh; exact ⟨hp, hb', rfl⟩
      · cases hh
    · cases hh
  have hbx' : ∀ j b, bs[j]? = some b → bx0 (pid0 + j) = some (b, false) := fun j b hj => by
    simp only [bx0]
    rw [if_pos (by omega), show pid0 + j - pid0 = j by omega, hj]
  have hI : Inv ⟨w.heap.size, bs⟩ ok0 w ⟨bx0, fun _ => none⟩ (st0 ps x) { tmps := vs.toArray ++ Array.replicate (fn.ntmps - vs.toArray.size) undef, defers := [] } w :=
    { below := BelowX.refl _ _, hB := rfl, h0 := hk, defers := rfl, lay := hlay, tm := by show Array.size _ ≤ _; rw [hsz]; exact hps.2
      nm := fun id b f _ hh => (hbx id b f hh).2.1
      bb := fun id b f hh => by
        obtain ⟨h1, h2, h3⟩ := hbx id b f hh
        have hmem := List.mem_of_getElem? h2
        exact ⟨.inr ⟨hmem, h3, h1⟩, hbs b hmem⟩
      bi := fun id id' b f f' e1 e2 => by
        obtain ⟨h1, h2, _⟩ := hbx id b f e1
        obtain ⟨h3, h4, _⟩ := hbx id' b f' e2
        have hlt := (List.getElem?_eq_some_iff.1 h2).1
        have := (List.getElem?_inj hlt hnd).1 (h2.trans h4.symm)
        omega
      rb := fun _ _ _ h => (nomatch h), ri := fun _ _ _ _ _ h => (nomatch h)
      con := fun id c hc => by
        obtain ⟨j, b, t, y, h1, h2, h3, cs, T, h4, h5⟩ := hbox id c hc
        subst h1 h3
        rw [Nat.zero_add]
        exact .inr ⟨b, false, hbx' j b h2, rfl, cs, T, h4, h5.mono (fun b o hk => ⟨.inl hk, rfl⟩), fun t ht => by cases ht⟩
      slots := fun t => by
        have hv : (vs.toArray ++ Array.replicate (fn.ntmps - vs.toArray.size) undef).getD t undef = vs.getD t undef := by
          rw [Array.getD_eq_getD_getElem?, List.getD_eq_getElem?_getD, Array.getElem?_append]
          by_cases ht : t < vs.length
          · simp [ht]
          · simp [ht]
            cases hh : (Array.replicate (fn.ntmps - vs.length) undef)[t - vs.length]? with
            | none => rfl
            | some u =>
              have := Array.getElem?_eq_some_iff.1 hh
              obtain ⟨_, h2⟩ := this
              simp at h2
              rw [← h2]; rfl
        show RepA _ _ _ _ (mkT (argsL ps x 0 0) t) (Array.getD (vs.toArray ++ Array.replicate (fn.ntmps - vs.toArray.size) undef) t undef)
        rw [hv]
        exact args_rep (ok := okG ⟨w.heap.size, bs⟩ ok0 ⟨bx0, fun _ => none⟩ w) (g := ⟨bx0, fun _ => none⟩) (σ := st0 ps x) (w := w) 0 0 t hx hargs (fun b o hk => .inl hk)
          fun j b hj => ⟨Nat.zero_le _, fun _ => ⟨b, false, by rw [Nat.zero_add]; exact hbx' j b hj, rfl⟩⟩ }
  refine evC_ok hE hC (evJ_ok hE hC (dr_ok hE hC hm fn.ntmps) n) (dr_ok hE hC hm fn.ntmps) c 0 _ _ _ _ _ _ _ hin hn ?_ hI hsz
  intro e σ' he g1 a' w' hI1 hs'
  have key : finD E (frzR ts σ') ts (ioC ps) rs = some y → a'.defers = [] ∧ ∃ v, (results fn a'.tmps).run P w' = .ok v w' ∧ (encDs rs y).length = ts.length + ioC ps ∧ ∃ v', Ending.returned v = .returned v' ∧ BelowX ⟨w.heap.size, bs⟩ w w' ∧
      RepRet ok0 w w' (encTo ((encDs rs y).take ts.length)) ((encDs rs y).drop ts.length) bs v' := by
    intro hfin
    obtain ⟨g', hI'⟩ := frzR_ok ts hI1
    revert hI' hfin
    generalize frzR ts σ' = σf
    intro hfin hI'
    unfold finD at hfin
    obtain ⟨hlt, hfin⟩ := lens_some hfin
    split at hfin
    · rename_i p hp
      obtain ⟨y', ids⟩ := p
      cases hd : dis ids with
      | false => rw [hd] at hfin; cases hfin
      | true =>
        rw [hd] at hfin
        cases hfin
        have hL := resD_list hp
        obtain ⟨l1, l2, hl12, hL1, hL2⟩ := hL.split
        rw [resVs_len] at hL1 hL2
        obtain ⟨us, hus, hua⟩ := resVs_ok hE hI' hlt hL1
        have hrd := resL_ret (ids := ids) 0 hL1 hua fun i hi => by rw [Nat.zero_add, hl12, List.getElem?_append_left hi]
        have hio := resIos_ok hI' hL2 (by show bs.length = _; omega)
        rw [List.drop_zero] at hio
        have hlenE := hL.len
        dsimp only at hL1 hL2 hrd hio hlenE ⊢
        rw [List.length_append, resVs_len] at hlenE
        have hioL : ∀ m k, (resIos σf m k).length = m := fun m => by
          induction m with
          | zero => intro _; rfl
          | succ m ih => intro k; unfold resIos; rw [List.length_cons, ih]
        rw [hioL] at hlenE
        refine ⟨hI'.defers, _, results_run hres hl hus, hlenE, _, rfl, hI'.below, ?_⟩
        have hrow : ∀ j b u, rowsOf g' ids j = some (b, u) → ∃ i, ids[j]? = some i ∧ i ≠ 0 ∧ g'.rw i = some (b, u) := fun j b u hj => by
          unfold rowsOf at hj
          split at hj
          · cases hj
          · rename_i i hne hi; exact ⟨i, hi, fun e => hne e, hj⟩
          · cases hj
        have hokR : ∀ b o, okG ⟨w.heap.size, bs⟩ ok0 g' w' b o → okR ok0 w w' (rowsOf g' ids) b o := fun b o hk => by
          rcases hk with hk | ⟨h1, h2, _, h4⟩
          · exact .inl hk
          · refine .inr ⟨h1, h2, fun j u hj => ?_⟩
            obtain ⟨i, _, _, hi⟩ := hrow j b u hj
            exact h4 i u hi
        refine ⟨rowsOf g' ids, fun j b u hj => ?_, fun j k b u u' hj hk => ?_, hio.mono hokR, ?_⟩
        · obtain ⟨i, _, _, hi⟩ := hrow j b u hj
          obtain ⟨h1, h2, _⟩ := hI'.rb i b u hi
          exact ⟨h1, h2⟩
        · obtain ⟨i, h1, h2, h3⟩ := hrow j b u hj
          obtain ⟨i', h1', h2', h3'⟩ := hrow k b u' hk
          have := hI'.ri i i' b u u' h3 h3'
          subst this
          exact dis_spec hd j k i h1 h1' h2
        · have hrd' := hrd.mono hokR
          generalize (encDs rs y').take ts.length = ds at hrd' ⊢
          match ds, us, hrd' with
          | [], [], _ => exact ⟨[], rfl, trivial⟩
          | [d], [v], h => exact h.1
          | d :: d2 :: ds, v :: v2 :: us, h => exact ⟨_, rfl, h⟩
    · cases hfin
  unfold fin at he
  cases e with
  | exit id => cases he
  | normal => exact key he
  | ret => exact key he

theorem contract_of {E : Env} (hE : EnvOk P E) (hC : CallsOk P E) (hm : P.follows .mixedOrders = true) {f : FuncId} {fn : Func} {c : Code} {ts : List ResultVar} {ps : List PK} {rs : List (Ty × List Tag)} {F : ArgsD ps → Option (ResD rs)}
    (hf : P.funcs[f]? = some fn) (hb : fn.body = some c) (hres : fn.results = ts.toArray) (hl : ts.length ≤ 4) (hin : codeIn fn.ntmps c = true) (hps : ps.length ≤ fn.ntmps ∧ fn.ntmps ≤ pid0) (hio : ioC ps = 0)
    (h : ∀ x y, F x = some y → ∃ n, evC E (evJ E (drE E) n) (drE E) c 0 (st0 ps x) (fin E ts 0 rs) = some y) : Contract P f (spec ps rs F) := by
  intro l r y hs hr ok0 w vs bs hlay hk hnd hbs hargs
  unfold spec at hs
  split at hs
  · rename_i x hx
    cases hs
    refine (body_ok hE hC hm hf hb hres hl hin hps (by rw [hio]; exact h) hx hr hlay hk hnd hbs hargs).mono fun e w' h => ?_
    obtain ⟨hlen, v, he, hB, hret⟩ := h
    refine ⟨v, he, hB, ?_⟩
    rw [hio] at hlen
    rw [List.take_of_length_le (by omega), List.drop_eq_nil_of_le (by omega)] at hret
    exact hret
  · cases hs

theorem contract_io {E : Env} (hE : EnvOk P E) (hC : CallsOk P E) (hm : P.follows .mixedOrders = true) {f : FuncId} {fn : Func} {c : Code} {ts : List ResultVar} {ps : List PK} {rs : List (Ty × List Tag)} {F : ArgsD ps → Option (ResD rs)}
    (hf : P.funcs[f]? = some fn) (hb : fn.body = some c) (hres : fn.results = ts.toArray) (hl : ts.length ≤ 4) (hin : codeIn fn.ntmps c = true) (hps : ps.length ≤ fn.ntmps ∧ fn.ntmps ≤ pid0)
    (h : ∀ x y, F x = some y → ∃ n, evC E (evJ E (drE E) n) (drE E) c 0 (st0 ps x) (fin E ts (ioC ps) rs) = some y) : Contract P f (specIo ts.length ps rs F) := by
  intro l r y hs hr ok0 w vs bs hlay hk hnd hbs hargs
  unfold specIo at hs
  split at hs
  · rename_i x hx
    cases hs
    refine (body_ok hE hC hm hf hb hres hl hin hps h hx hr hlay hk hnd hbs hargs).mono fun e w' h => ?_
    obtain ⟨_, v, he, hB, hret⟩ := h
    exact ⟨v, he, hB, hret⟩
  · cases hs

end
end Go.AM
