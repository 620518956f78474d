/- Guards; regions in the text's order. -/
import Derived.Test.YtkfffcnililmkaaDoorAmStep
import Derived.Test.YtkfffcnililmkaaDoorAmNorm
import Derived.Tactics
namespace Go.AM
open Go.RowKit (Below)
set_option linter.unusedSectionVars false
variable [Lay]
section
variable {P : Program} {B : Bd} {ok0 : Nat → Nat → Prop} {w0 w w' : World} {g g' : G} {σ σ1 τ : St} {a : Act} {o : Oper} {E : Env} {ops : Array Oper} {R : Type}

/-- What one operation of a region comes to, its guard looked at. -/
def GTo (E : Env) (ops : Array Oper) (o : Oper) (σ σ' : St) : Prop :=
  match o.guard with
  | none => OneTo E σ o σ'
  | some (j, want) => match gslot ops j with
    | none => σ' = σ.setT o.dst .none
    | some s => match σ.t s with
      | .none => σ' = σ.setT o.dst .none
      | .dat .bool b _ => if b = want then OneTo E σ o σ' else σ' = σ.setT o.dst .none
      | _ => False

theorem setT_same {s : Nat} {x : AV} (h : σ.t s = x) : σ.setT (some s) x = σ := by
  have : fset σ.t s x = σ.t := by
    funext i
    rw [fset_eq]
    by_cases hi : i = s
    · subst hi; rw [if_pos rfl, h]
    · rw [if_neg hi]
  unfold St.setT
  dsimp only
  rw [this]

theorem evG_some {k : St → Option R} {r : R} (h : evG E ops o σ k = some r) : ∃ σ', GTo E ops o σ σ' ∧ k σ' = some r := by
  unfold evG at h
  unfold GTo
  split at h
  · rename_i hg; rw [hg]; exact evOne_some h
  · rename_i j want hg
    rw [hg]
    dsimp only
    split at h
    · rename_i hs; rw [hs]; exact ⟨_, rfl, h⟩
    · rename_i s hs
      rw [hs]
      dsimp only
      split at h
      · rename_i hv; rw [hv]; exact ⟨_, rfl, h⟩
      · rename_i b gs hv
        rw [hv]
        dsimp only
        cases b <;> cases want <;> dsimp only [cond_true, cond_false] at h <;> rw [setT_same hv] at h
        · exact evOne_some h
        · exact ⟨_, rfl, h⟩
        · exact ⟨_, rfl, h⟩
        · exact evOne_some h
      · cases h

def Chain (E : Env) (ops : Array Oper) : List Oper → St → St → Prop
  | [], σ, τ => τ = σ
  | o :: r, σ, τ => ∃ σ1, GTo E ops o σ σ1 ∧ Chain E ops r σ1 τ

theorem evOps_some : ∀ {l : List Oper} {σ : St} {k : St → Option R} {r : R}, evOps E ops l σ k = some r → ∃ τ, Chain E ops l σ τ ∧ k τ = some r
  | [], σ, _, _, h => ⟨σ, rfl, h⟩
  | o :: l, σ, k, r, h => by
    obtain ⟨σ1, h1, h2⟩ := evG_some (k := fun σ' => evOps E ops l σ' k) h
    obtain ⟨τ, h3, h4⟩ := evOps_some h2
    exact ⟨τ, ⟨σ1, h1, h3⟩, h4⟩

theorem yielded_slot (tmps : Array Value) {j s : Nat} (h : gslot ops j = some s) : yielded ops tmps j = (match tmps.getD s undef with | .bool b => some b | _ => none) := by
  unfold yielded
  have h' : (ops[j]?).bind (fun (o : Oper) => o.dst) = some s := h
  rw [h', Option.bind_some, Array.getD_eq_getD_getElem?]
  cases tmps[s]? with
  | none => rfl
  | some v => cases v <;> rfl

theorem yielded_none (tmps : Array Value) {j : Nat} (h : gslot ops j = none) : yielded ops tmps j = none := by
  unfold yielded
  have h' : (ops[j]?).bind (fun (o : Oper) => o.dst) = none := h
  rw [h']
  rfl

/-- What a guard leads to: the operation, or the model's 'no value'. -/
theorem GTo.cases (hI : Inv B ok0 w0 g σ a w) {σ' : St} (h : GTo E ops o σ σ') :
    (Region.wanted o (yielded ops a.tmps) = true ∧ OneTo E σ o σ') ∨ (Region.wanted o (yielded ops a.tmps) = false ∧ σ' = σ.setT o.dst .none) := by
  unfold GTo at h
  unfold Region.wanted
  split at h
  · rename_i hg; rw [hg]; exact .inl ⟨rfl, h⟩
  · rename_i j want hg
    rw [hg]
    dsimp only
    split at h
    · rename_i hs
      rw [yielded_none _ hs]
      exact .inr ⟨rfl, h⟩
    · rename_i s hs
      rw [yielded_slot _ hs]
      have hr := hI.slots s
      split at h
      · rename_i hv
        rw [hv] at hr
        rw [show a.tmps.getD s undef = undef from hr]
        exact .inr ⟨rfl, h⟩
      · rename_i b gs hv
        rw [hv] at hr
        rw [of_bool hr]
        dsimp only
        split at h
        · rename_i he; subst he; exact .inl ⟨by simp, h⟩
        · rename_i he; exact .inr ⟨by simpa using he, h⟩
      · exact h.elim

theorem GTo.wp (hE : EnvOk P E) (hC : CallsOk P E) (hI : Inv B ok0 w0 g σ a w) (hd : ∀ d, o.dst = some d → d < a.tmps.size) {σ' : St} (h : GTo E ops o σ σ') {next : Act → World → Prop} {Q : Exit → Act → World → Prop}
    (hn : ∀ g' a' w', Inv B ok0 w0 g' σ' a' w' → a'.tmps.size = a.tmps.size → next a' w') :
    if Region.wanted o (yielded ops a.tmps) then o.wp P a w next Q ∨ (o.asks P a w ∧ LetsOut Q) else next (a.put o.dst undef) w := by
  rcases h.cases hI with ⟨hw, h⟩ | ⟨hw, h⟩
  · rw [hw, if_pos rfl]
    exact .inl (one_wp hE hC hI hd h hn)
  · rw [hw]
    simp only [Bool.false_eq_true, if_false]
    subst h
    exact hn g _ _ (hI.put (av := .none) rfl hd) (put_size _ _ _)

theorem Chain.wp (hE : EnvOk P E) (hC : CallsOk P E) {Q : Exit → Act → World → Prop} : ∀ {l : List Oper} {σ : St} {g : G} {a : Act} {w : World}, Inv B ok0 w0 g σ a w → (∀ o ∈ l, ∀ d, o.dst = some d → d < a.tmps.size) →
    Chain E ops l σ τ → (∀ g' a' w', Inv B ok0 w0 g' τ a' w' → a'.tmps.size = a.tmps.size → Q .normal a' w') → wpList P ops Q l a w
  | [], σ, g, a, w, hI, _, h, hq => by cases h; exact hq g a w hI rfl
  | o :: l, σ, g, a, w, hI, hd, ⟨σ1, h1, h2⟩, hq => by
    unfold wpList
    exact h1.wp hE hC hI (hd o (List.mem_cons_self ..)) fun g' a' w' hI' hs =>
      Chain.wp hE hC hI' (fun o' ho' d hd' => by rw [hs]; exact hd o' (List.mem_cons_of_mem _ ho') d hd') h2 fun g2 a2 w2 hI2 hs2 => hq g2 a2 w2 hI2 (hs2.trans hs)

/-- Every operation writes within n slots. -/
def opsIn (n : Nat) (ops : Array Oper) : Bool := ops.toList.all fun o => match o.dst with | some d => decide (d < n) | none => true

def codeIn (n : Nat) : Code → Bool
  | .region _ ops _ => opsIn n ops
  | .seq x y => codeIn n x && codeIn n y
  | .cond _ x y => codeIn n x && codeIn n y
  | .block _ c => codeIn n c
  | .loop c => codeIn n c
  | _ => true

theorem opsIn_spec {n : Nat} (h : opsIn n ops = true) : ∀ o ∈ ops.toList, ∀ d, o.dst = some d → d < n := by
  intro o ho d hd
  have := List.all_eq_true.1 h o ho
  rw [hd] at this
  exact of_decide_eq_true this

theorem region_ok (hE : EnvOk P E) (hC : CallsOk P E) {Q : Exit → Act → World → Prop} (hI : Inv B ok0 w0 g σ a w) {id : Nat} (hn : opsIn a.tmps.size ops = true) {k : St → Option R} {r : R} (h : evOps E ops ops.toList σ k = some r)
    (hq : ∀ τ, k τ = some r → ∀ g' a' w', Inv B ok0 w0 g' τ a' w' → a'.tmps.size = a.tmps.size → Q .normal a' w') : (Code.region id ops false).wp P Q a w := by
  obtain ⟨τ, h1, h2⟩ := evOps_some h
  exact wp_region_list (h1.wp hE hC hI (opsIn_spec hn) (hq τ h2))

end
end Go.AM
