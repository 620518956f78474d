/- Contracts of functions of numbers, bools and strings, out of what is known of their calls. -/
import Derived.Test.YtkfffcnililmkaaDoorAmGen
namespace Go.AM
open Go.RowKit (Below)
set_option linter.unusedSectionVars false
variable [Lay]

def isSc : Ty → Bool
  | .int _ | .bool | .str => true
  | _ => false

def sv : (t : Ty) → t.D → Value
  | .int k, n => .int k n
  | .bool, b => .bool b
  | .str, s => .string s
  | _, _ => undef

def argVs : (ps : List Ty) → ArgsD (vals ps) → List Value
  | [], _ => []
  | t :: ts, x => sv t x.1 :: argVs ts x.2

def noTags : List Ty → List (Ty × List Tag)
  | [] => []
  | t :: ts => (t, []) :: noTags ts

def scVs : (rs : List Ty) → ResD (noTags rs) → List Value
  | [], _ => []
  | [t], y => [sv t y]
  | t :: u :: rs, y => sv t y.1 :: scVs (u :: rs) y.2

section
variable {P : Program} {f : FuncId} {ok : Nat → Nat → Prop} {w : World}

theorem sc_rep {t : Ty} (ht : isSc t = true) {x : t.D} {cs : List Value} (h : RepD ok w t x cs) : valOf t cs = sv t x := by
  cases t with
  | int k => simp only [RepD] at h; subst h; rfl
  | bool => simp only [RepD] at h; subst h; rfl
  | str => simp only [RepD] at h; subst h; rfl
  | _ => cases ht

theorem sc_mk {t : Ty} (ht : isSc t = true) (x : t.D) : RepD ok w t x [sv t x] ∧ valOf t [sv t x] = sv t x := by
  cases t with
  | int k => exact ⟨rfl, rfl⟩
  | bool => exact ⟨rfl, rfl⟩
  | str => exact ⟨rfl, rfl⟩
  | _ => cases ht

theorem args_sc : ∀ {ps : List Ty} {l : List AV} {vs : List Value} {bs : List Nat} {x : ArgsD (vals ps)}, ps.all isSc = true → decArgs (vals ps) l = some x → ArgsOk ok w l vs bs → vs = argVs ps x ∧ bs = []
  | [], [], [], _, _, _, _, h => ⟨rfl, h⟩
  | [], [], _ :: _, _, _, _, _, h => h.elim
  | [], _ :: _, _, _, _, _, h, _ => by cases h
  | _ :: _, [], _, _, _, _, h, _ => by cases h
  | _ :: _, _ :: _, [], _, _, _, _, h => h.elim
  | t :: ts, a :: l, v :: vs, bs, x, hs, hd, ⟨r, hr0, hr2⟩ => by
    simp only [List.all_cons, Bool.and_eq_true] at hs
    have hd' : decArgs (.val t :: vals ts) (a :: l) = some x := hd
    unfold decArgs at hd'
    split at hd'
    · rename_i y hy
      split at hd'
      · rename_i z hz
        cases hd'
        obtain ⟨h1, rfl⟩ := argOk_not (arg_not rfl hy) hr0
        obtain ⟨hv, hb⟩ := args_sc hs.2 hz hr2
        subst hv
        have hy' : a.as t = some y := hy
        cases a with
        | dat u x' gs =>
          obtain ⟨cs, hc, hv⟩ := h1
          have hc' := hc.cast hy'
          obtain ⟨e, _⟩ := cast_some hy'
          subst e
          rw [hv, sc_rep hs.1 hc']
          exact ⟨rfl, hb⟩
        | nils => exact h1.elim
        | _ => first | cases hy' | exact h1.elim
      · cases hd'
    · cases hd'

theorem ret_sc {w' : World} : ∀ {rs : List Ty} {y : ResD (noTags rs)} (j : Nat), rs.all isSc = true → RetDs ok (fun _ => none) w' j (encDs (noTags rs) y) (scVs rs y)
  | [], _, _, _ => trivial
  | [t], y, j, h => by
    simp only [List.all_cons, Bool.and_eq_true] at h
    exact ⟨⟨_, (sc_mk h.1 y).1, (sc_mk (ok := ok) (w := w') h.1 y).2.symm, trivial⟩, trivial⟩
  | t :: u :: rs, y, j, h => by
    simp only [List.all_cons, Bool.and_eq_true] at h
    exact ⟨⟨_, (sc_mk h.1 y.1).1, (sc_mk (ok := ok) (w := w') h.1 y.1).2.symm, trivial⟩, ret_sc (rs := u :: rs) _ (by simp only [List.all_cons, Bool.and_eq_true]; exact h.2)⟩

/-- **A function of plain words**: what its calls return. -/
theorem prim_of {ps rs : List Ty} (hps : ps.all isSc = true) (hrs : rs.all isSc = true) {F : ArgsD (vals ps) → Option (ResD (noTags rs))}
    (h : ∀ x y, F x = some y → ∀ z w, Lay.ok z w → Calls P f (argVs ps x).toArray w fun e w' => e = .returned (match scVs rs y with | [v] => v | vs => .tuple vs.toArray) ∧ Below w.heap.size w w') : Contract P f (spec (vals ps) (noTags rs) F) := by
  intro l r y hs hm ok0 w vs bs ⟨z, hz, _⟩ _ _ _ hargs
  unfold spec at hs
  split at hs
  · rename_i x hx
    cases hs
    obtain ⟨hv, rfl⟩ := args_sc hps hx hargs
    subst hv
    refine (h x y hm z w hz).mono ?_
    rintro e w' ⟨rfl, hb⟩
    refine ⟨_, rfl, BelowX.of_below hb, fun _ => none, fun j b u hj => (nomatch hj), fun j k b u u' hj => (nomatch hj), trivial, ?_⟩
    have hr := ret_sc (ok := okR ok0 w w' (fun _ => none)) (w' := w') (y := y) 0 hrs
    show match encTo (encDs (noTags rs) y) with | .dat t x g => _ | .tup ds => _ | _ => False
    generalize encDs (noTags rs) y = ds at hr
    generalize scVs rs y = us at hr
    match ds, us, hr with
    | [], [], _ => exact ⟨[], rfl, trivial⟩
    | [d], [v], h => exact h.1
    | d :: d2 :: ds, v :: v2 :: us, h => exact ⟨_, rfl, h⟩
  · cases hs

end
end Go.AM
