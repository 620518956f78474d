import Derived.Test.YtboihdnijlilpaaDoorAmGen
/- Contracts of functions of numbers, bools and strings, out of what is known of their calls. -/
namespace Go.AM
open Go.RowKit (Below)
set_option linter.unusedSectionVars false
variable [Lay]

def isSc : Ty → Bool
  | .int _ | .bool | .str => true
  | _ => false

def sv : (t : Ty) → t.D → Value
  | .int k, n => .int k n
  | .bool, b => .bool b
  | .str, s => .string s
  | _, _ => undef

def argVs : (ps : List Ty) → ArgsD (vals ps) → List Value
  | [], _ => []
  | t :: ts, x => sv t x.1 :: argVs ts x.2

def noTags : List Ty → List (Ty × List Tag)
  | [] => []
  | t :: ts => (t, []) :: noTags ts

def scVs : (rs : List Ty) → ResD (noTags rs) → List Value
  | [], _ => []
  | [t], y => [sv t y]
  | t :: u :: rs, y => sv t y.1 :: scVs (u :: rs) y.2

section
variable {P : Program} {f : FuncId} {ok : Nat → Nat → Prop} {w : World}

theorem sc_rep {t : Ty} (ht : isSc t = true) {x : t.D} {cs : List Value} (h : RepD ok w t x cs) : valOf t cs = sv t x := by
  cases t with
  | int k => simp only [RepD] at h; subst h; rfl
  | bool => simp only [RepD] at h; subst h; rfl
  | str => simp only [RepD] at h; subst h; rfl
  | _ => cases ht

theorem sc_mk {t : Ty} (ht : isSc t = true) (x : t.D) : RepD ok w t x [sv t x] ∧ valOf t [sv t x] = sv t x := by
  cases t with
  | int k => exact ⟨rfl, rfl⟩
  | bool => exact ⟨rfl, rfl⟩
  | str => exact ⟨rfl, rfl⟩
  | _ => cases ht

theorem args_sc : ∀ {ps : List Ty} {l : List AV} {vs : List Value} {bs : List Nat} {rws : List (Option (Nat × Nat))} {x : ArgsD (vals ps)}, ps.all isSc = true → decArgs (vals ps) l = some x → ArgsOk ok w l vs bs rws → vs = argVs ps x ∧ bs = [] ∧ rws = []
  | [], [], [], _, _, _, _, _, h => ⟨rfl, h⟩
  | [], [], _ :: _, _, _, _, _, _, h => h.elim
  | [], _ :: _, _, _, _, _, _, h, _ => by cases h
  | _ :: _, [], _, _, _, _, _, h, _ => by cases h
  | _ :: _, _ :: _, [], _, _, _, _, _, h => h.elim
  | t :: ts, a :: l, v :: vs, bs, rws, x, hs, hd, ⟨r, s, hr0, hr2⟩ => by
    simp only [List.all_cons, Bool.and_eq_true] at hs
    have hd' : decArgs (.val t :: vals ts) (a :: l) = some x := hd
    unfold decArgs at hd'
    split at hd'
    · rename_i y hy
      split at hd'
      · rename_i z hz
        cases hd'
        obtain ⟨h1, rfl, rfl⟩ := argOk_not (arg_not rfl hy) hr0
        obtain ⟨hv, hb⟩ := args_sc hs.2 hz hr2
        subst hv
        have hy' : a.as t = some y := hy
        cases a with
        | dat u x' gs =>
          obtain ⟨cs, hc, hv⟩ := h1
          have hc' := hc.cast hy'
          obtain ⟨e, _⟩ := cast_some hy'
          subst e
          rw [hv, sc_rep hs.1 hc']
          exact ⟨rfl, hb⟩
        | nils => exact h1.elim
        | _ => first | cases hy' | exact h1.elim
      · cases hd'
    · cases hd'

/-- A value that hangs on no memory. -/
def ResV (t : Ty) (x : t.D) (v : Value) : Prop := ∃ cs, (∀ ok w, RepD ok w t x cs) ∧ v = valOf t cs

def ResVs : (rs : List Ty) → ResD (noTags rs) → List Value → Prop
  | [], _, [] => True
  | [t], y, [v] => ResV t y v
  | t :: u :: rs, y, v :: vs => ResV t y.1 v ∧ ResVs (u :: rs) y.2 vs
  | _, _, _ => False

theorem resV_sc {t : Ty} (ht : isSc t = true) (x : t.D) : ResV t x (sv t x) :=
  ⟨[sv t x], fun ok w => (sc_mk (ok := ok) (w := w) ht x).1, (sc_mk (ok := fun _ _ => True) (w := default) ht x).2.symm⟩

theorem resV_err {x : Bool} {v : Value} (h : LkV true x v) : ResV (.lk true) x v := ⟨[v], fun _ _ => ⟨v, rfl, h⟩, rfl⟩

theorem resVs_sc : ∀ {rs : List Ty} (y : ResD (noTags rs)), rs.all isSc = true → ResVs rs y (scVs rs y)
  | [], _, _ => trivial
  | [t], y, h => by
    simp only [List.all_cons, Bool.and_eq_true] at h
    exact resV_sc h.1 y
  | t :: u :: rs, y, h => by
    simp only [List.all_cons, Bool.and_eq_true] at h
    exact ⟨resV_sc h.1 y.1, resVs_sc (rs := u :: rs) y.2 (by simp only [List.all_cons, Bool.and_eq_true]; exact h.2)⟩

theorem ret_vs {w' : World} : ∀ {rs : List Ty} {y : ResD (noTags rs)} {vs : List Value} (j : Nat), ResVs rs y vs → RetDs ok (fun _ => none) w' j (encDs (noTags rs) y) vs
  | [], _, [], _, _ => trivial
  | [], _, _ :: _, _, h => h.elim
  | [t], y, [v], j, ⟨cs, h1, h2⟩ => ⟨⟨cs, h1 ok w', h2, trivial⟩, trivial⟩
  | [_], _, [], _, h => h.elim
  | [_], _, _ :: _ :: _, _, h => h.elim
  | t :: u :: rs, y, v :: vs, j, ⟨⟨cs, h1, h2⟩, h3⟩ => ⟨⟨cs, h1 ok w', h2, trivial⟩, ret_vs (rs := u :: rs) _ h3⟩
  | _ :: _ :: _, _, [], _, h => h.elim

/-- Several results are one value. -/
def retV : List Value → Value
  | [v] => v
  | vs => .tuple vs.toArray

theorem enc_ret {ρ : Nat → Option (Nat × Nat)} {w' : World} : ∀ (ds : List Dat) (us : List Value), RetDs ok ρ w' 0 ds us →
    (match encTo ds with
      | .dat t x g => ∃ cs, RepD ok w' t x cs ∧ retV us = valOf t cs ∧ RetTags ρ w' cs 0 g
      | .tup ds => ∃ vs : List Value, retV us = .tuple vs.toArray ∧ RetDs ok ρ w' 0 ds vs
      | _ => False)
  | [], [], _ => ⟨[], rfl, trivial⟩
  | [], _ :: _, h => h.elim
  | [_], [], h => h.elim
  | [_], [_], h => h.1
  | [_], _ :: _ :: _, h => h.2.elim
  | _ :: _ :: _, [], h => h.elim
  | _ :: _ :: _, [_], h => h.2.elim
  | _ :: _ :: _, _ :: _ :: _, h => ⟨_, rfl, h⟩

/-- **A function of plain words**: what its calls return. -/
theorem prim_of' {ps rs : List Ty} (hps : ps.all isSc = true) {F : ArgsD (vals ps) → Option (ResD (noTags rs))}
    (h : ∀ x y, F x = some y → ∀ z w, Lay.ok z w → Calls P f (argVs ps x).toArray w fun e w' => (∃ vs, ResVs rs y vs ∧ e = .returned (retV vs)) ∧ Below w.heap.size w w') : Contract P f (spec (vals ps) (noTags rs) F) := by
  intro l r y hs hm ok0 w vs bs rws ⟨z, hz, _⟩ _ _ _ _ hargs
  unfold spec at hs
  split at hs
  · rename_i x hx
    cases hs
    obtain ⟨hv, rfl, rfl⟩ := args_sc hps hx hargs
    subst hv
    refine (h x y hm z w hz).mono ?_
    rintro e w' ⟨⟨us, hus, rfl⟩, hb⟩
    refine ⟨_, rfl, BelowX.of_below hb, fun _ => none, fun j b u hj => (nomatch hj), fun j k b u u' hj => (nomatch hj), trivial, ?_⟩
    have hr := ret_vs (ok := okR ok0 w w' [] (fun _ => none)) (w' := w') 0 hus
    exact enc_ret _ _ hr
  · cases hs

theorem prim_of {ps rs : List Ty} (hps : ps.all isSc = true) (hrs : rs.all isSc = true) {F : ArgsD (vals ps) → Option (ResD (noTags rs))}
    (h : ∀ x y, F x = some y → ∀ z w, Lay.ok z w → Calls P f (argVs ps x).toArray w fun e w' => e = .returned (retV (scVs rs y)) ∧ Below w.heap.size w w') : Contract P f (spec (vals ps) (noTags rs) F) :=
  prim_of' hps fun x y hxy z w hz => (h x y hxy z w hz).mono fun _ _ ⟨he, hb⟩ => ⟨⟨_, resVs_sc y hrs, he⟩, hb⟩

end
end Go.AM
