import Derived.Test.YtlamhllcnbcbbaaGreatAmL6
import Derived.Test.YtlamhllcnbcbbaaGreatAmWords
/- What the printed proofs lean on: pieces of code, calls with several contracts. -/
namespace Go.AM
set_option linter.unusedSectionVars false
variable [Lay]
def lft : Code → Code
  | .seq a _ => a
  | .cond _ a _ => a
  | .block _ c => c
  | .loop c => c
  | c => c
def rgt : Code → Code
  | .seq _ b => b
  | .cond _ _ b => b
  | c => c
theorem cond_some {α : Type} (c : Bool) (a b : α) : (bif c then some a else some b) = some (bif c then a else b) := by cases c <;> rfl
universe u
def AllU {α : Type u} (p : α → Prop) : List α → Prop
  | [] => True
  | a :: l => p a ∧ AllU p l
theorem AllU.mem {α : Type u} {p : α → Prop} : ∀ {l : List α}, AllU p l → ∀ a ∈ l, p a
  | a :: l, h, b, hb => by
    rcases List.mem_cons.1 hb with rfl | hb
    · exact h.1
    · exact AllU.mem h.2 b hb
theorem callsOk_of {P : Program} {tb : Tab} {ks : Keeps} {l : List (Nat × Spec)} (h : AllU (fun p => Contract P p.1 p.2 ∧ Enters P p.1 ∧ ((ks.lend.any fun i => Nat.beq i p.1) = true → Words p.2)) l) : CallsOk P (tb.env (look l) ks) :=
  fun _ _ hf => AllU.mem h _ (look_mem hf)
theorem words_ds : ∀ {rs : List (Ty × List Tag)} (x : ResD rs), (rs.all fun r => wordT r.1 && r.2.isEmpty) = true → ((encDs rs x).all fun d => wordT d.t && d.g.isEmpty) = true
  | [], _, _ => rfl
  | [a], x, h => h
  | a :: b :: r, x, h => by
    rw [List.all_cons, Bool.and_eq_true] at h
    unfold encDs
    rw [List.all_cons, Bool.and_eq_true]
    exact ⟨h.1, words_ds (rs := b :: r) x.2 h.2⟩
theorem words_to {ds : List Dat} (h : (ds.all fun d => wordT d.t && d.g.isEmpty) = true) : wordA (encTo ds) = true := by
  match ds, h with
  | [], _ => rfl
  | [d], h => simpa [encTo, wordA] using h
  | d :: d2 :: ds, h => exact h
theorem words_spec {ps : List PK} {rs : List (Ty × List Tag)} {F : ArgsD ps → Option (ResD rs)} (h : (rs.all fun r => wordT r.1 && r.2.isEmpty) = true) : Words (spec ps rs F) := by
  intro l r x hs
  unfold spec at hs
  split at hs
  · cases hs
    exact ⟨words_to (words_ds x h), fun d hd => by cases hd⟩
  · cases hs
theorem word_con {p : PK} {d : Dat} (h : wordT d.t = true) : wordC (conD p d) = true := by
  obtain ⟨t, x, g⟩ := d
  cases p with
  | ioa e => cases t <;> first | exact h | cases h
  | _ => exact h
theorem word_conL : ∀ {ps : List PK} {ds : List Dat}, (∀ d ∈ ds, wordT d.t = true) → ∀ c ∈ conL ps ds, wordC c = true
  | p :: ps, d :: ds, h, c, hc => by
    rcases List.mem_cons.1 hc with rfl | hc
    · exact word_con (h d (List.mem_cons_self ..))
    · exact word_conL (fun d hd => h d (List.mem_cons_of_mem _ hd)) c hc
  | [], d :: ds, h, c, hc => by
    rcases List.mem_cons.1 hc with rfl | hc
    · exact h d (List.mem_cons_self ..)
    · exact word_conL (ps := []) (fun d hd => h d (List.mem_cons_of_mem _ hd)) c hc
  | [], [], _, _, hc => by cases hc
  | _ :: _, [], _, _, hc => by cases hc
theorem words_io {n : Nat} {ps : List PK} {rs : List (Ty × List Tag)} {F : ArgsD ps → Option (ResD rs)} (h : (rs.all fun r => wordT r.1 && r.2.isEmpty) = true) : Words (specIo n ps rs F) := by
  intro l r x hs
  unfold specIo at hs
  split at hs
  · cases hs
    have h1 := words_ds x h
    refine ⟨words_to ?_, fun d hd => ?_⟩
    · rw [List.all_eq_true] at h1 ⊢
      exact fun d hd => h1 d (List.mem_of_mem_take hd)
    · rw [List.all_eq_true] at h1
      refine word_conL (fun d hd => ?_) d hd
      have := h1 d (List.mem_of_mem_drop hd)
      rw [Bool.and_eq_true] at this
      exact this.1
  · cases hs
end Go.AM
