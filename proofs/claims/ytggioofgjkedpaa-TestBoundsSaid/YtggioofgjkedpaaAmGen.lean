/- What the printed proofs lean on: pieces of code, calls with several contracts. -/
import Derived.Test.YtggioofgjkedpaaAmLaw2
import Derived.Test.YtggioofgjkedpaaAmWords
namespace Go.AM

def lft : Code → Code
  | .seq a _ => a
  | .cond _ a _ => a
  | .block _ c => c
  | .loop c => c
  | c => c

def rgt : Code → Code
  | .seq _ b => b
  | .cond _ _ b => b
  | c => c

theorem cond_some {α : Type} (c : Bool) (a b : α) : (bif c then some a else some b) = some (bif c then a else b) := by cases c <;> rfl

universe u
def AllU {α : Type u} (p : α → Prop) : List α → Prop
  | [] => True
  | a :: l => p a ∧ AllU p l

theorem AllU.mem {α : Type u} {p : α → Prop} : ∀ {l : List α}, AllU p l → ∀ a ∈ l, p a
  | a :: l, h, b, hb => by
    rcases List.mem_cons.1 hb with rfl | hb
    · exact h.1
    · exact AllU.mem h.2 b hb

theorem callsOk_of {P : Program} {tb : Tab} {ks : Keeps} {l : List (Nat × Spec)} (h : AllU (fun p => Contract P p.1 p.2 ∧ Enters P p.1) l) : CallsOk P (tb.env (look l) ks) :=
  fun _ _ hf => AllU.mem h _ (look_mem hf)

/-- Two contracts of one function. -/
@[reducible] def orSpec (s t : Spec) : Spec := fun l => match s l with
  | some r => some r
  | none => t l

theorem orContract {P : Program} {f : FuncId} {s t : Spec} (hs : Contract P f s) (ht : Contract P f t) : Contract P f (orSpec s t) := by
  intro l r x h
  unfold orSpec at h
  split at h
  · rename_i r' h'; cases h; exact hs l _ x h'
  · exact ht l r x h

end Go.AM
