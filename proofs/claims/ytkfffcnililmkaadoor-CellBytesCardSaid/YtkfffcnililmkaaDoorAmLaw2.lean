/- A law's call: what is handed in can be read; it answers true, and nothing below turns. -/
import Derived.Test.YtkfffcnililmkaaDoorAmLaw
namespace Go.AM
open Go.RowKit (Below)
set_option linter.unusedSectionVars false
variable [Lay]

/-- A value of the type, in its outer form. -/
theorem okWide_val {P : Program} {w : World} {r : Reach} {base T : Nat} {t : Ty} {v : Value} (hd : Deep P T t) (h : Value.okWide P w r base T v) : v = valOf t v.cells.toList := by
  cases hd with
  | int hu => obtain ⟨n, rfl⟩ := WideShapes.okWide_int hu h; rfl
  | bool hu => obtain ⟨n, rfl⟩ := WideShapes.okWide_bool hu h; rfl
  | str hu => obtain ⟨n, rfl⟩ := WideShapes.okWide_string hu h; rfl
  | sl hu hc hde => obtain ⟨a, len, cap, rfl⟩ := WideShapes.okWide_slice hu h; rfl
  | wrap hu hc h1 hf =>
    unfold Value.okWide at h
    rw [hu] at h
    obtain ⟨cs, rfl, _⟩ := h
    rfl
  | pair hu hc hf =>
    unfold Value.okWide at h
    rw [hu] at h
    obtain ⟨cs, rfl, _⟩ := h
    rfl

@[reducible] def vals : List Ty → List PK
  | [] => []
  | t :: ts => .val t :: vals ts

def okArgs : (ps : List Ty) → ArgsD (vals ps) → Prop
  | [], _ => True
  | p :: ps, x => okD p x.1 ∧ okArgs ps x.2

def DeepAll (P : Program) : List Nat → List Ty → Prop
  | [], [] => True
  | T :: Ts, t :: ts => Deep P T t ∧ DeepAll P Ts ts
  | _, _ => False

section
variable {P : Program} {H : Type} {enc : TypeId × Value → H} {W : World} {base : Nat}

theorem open_args : ∀ {Ts : List Nat} {ts : List Ty} {vs : List Value} {ds : List (DataW H)} {p : List MemPlace}, DeepAll P Ts ts → DataW.TrodAll enc P W 0 (fun _ => true) true Ts vs ds p →
    (∀ (j : Nat) T v, Ts[j]? = some T → vs[j]? = some v → Value.okWide P W .any base T v) →
    ∃ (l : List AV) (x : ArgsD (vals ts)), decArgs (vals ts) l = some x ∧ ArgsOk (cellOk W) W l vs [] ∧ okArgs ts x
  | [], [], [], [], p, _, _, _ => ⟨[], (), rfl, rfl, trivial⟩
  | T :: Ts, t :: ts, v :: vs, d :: ds, p, hd, ha, hv => by
    obtain ⟨p1, q, ⟨fuel, hf⟩, hr, _⟩ := ha
    obtain ⟨x, hx, hk⟩ := open_data hd.1 hf
    obtain ⟨l, y, h1, h2, h3⟩ := open_args hd.2 hr fun j T v hT hv' => hv (j + 1) T v (by simpa using hT) (by simpa using hv')
    refine ⟨.dat t x [] :: l, (x, y), ?_, ⟨[], ⟨⟨_, hx, okWide_val hd.1 (hv 0 T v rfl rfl)⟩, rfl⟩, h2⟩, hk, h3⟩
    show decArgs (.val t :: vals ts) _ = _
    unfold decArgs
    have : decArg (.val t) (AV.dat t x []) = some x := by unfold decArg AV.as cast?; simp
    rw [this, h1]
  | [], [], _ :: _, _, _, _, ha, _ => by cases ‹List (DataW H)› <;> exact ha.elim
  | [], [], [], _ :: _, _, _, ha, _ => ha.elim
  | [], _ :: _, _, _, _, hd, _, _ => hd.elim
  | _ :: _, [], _, _, _, hd, _, _ => hd.elim
  | _ :: _, _ :: _, [], _, _, _, ha, _ => by cases ‹List (DataW H)› <;> exact ha.elim
  | _ :: _, _ :: _, _ :: _, [], _, _, ha, _ => ha.elim

/-- **A law's call.** -/
theorem law_calls {f : FuncId} {Ts : List Nat} {ts : List Ty} {F : ArgsD (vals ts) → Option Bool} (hc : Contract P f (spec (vals ts) [(.bool, [])] F)) (hF : ∀ x, okArgs ts x → F x = some true) (hd : DeepAll P Ts ts) {z : Nat} (hlay : Lay.ok z W)
    {args : Array Value} {ds : List (DataW H)} {p : List MemPlace} (ha : DataW.TrodAll enc P W 0 (fun _ => true) true Ts args.toList ds p)
    (hv : ∀ (j : Nat) T v, Ts[j]? = some T → args[j]? = some v → Value.okWide P W .any base T v) :
    Calls P f args W fun e W' => e = .returned (.bool true) ∧ Below W.heap.size W W' := by
  obtain ⟨l, x, h1, h2, h3⟩ := open_args hd ha fun j T v hT hv' => hv j T v hT (by rw [← Array.getElem?_toList]; exact hv')
  have hs : spec (vals ts) [(.bool, [])] F l = some ⟨Bool, F x, encRes [(.bool, [])], fun _ => []⟩ := by unfold spec; rw [h1]
  have := hc l _ true hs (hF x h3) (cellOk W) W args.toList [] ⟨z, hlay, fun _ hm => by cases hm⟩ (fun _ _ h => ⟨h, fun hm => by cases hm⟩) List.nodup_nil (fun _ hm => by cases hm) h2
  rw [Array.toArray_toList] at this
  refine this.mono fun e W' h => ?_
  obtain ⟨v, rfl, hb, ρ, _, _, _, cs, hr, hv', _⟩ := h
  simp only [RepD] at hr
  subst hr
  subst hv'
  exact ⟨rfl, hb.below⟩

end
end Go.AM
