/- Code: what the evaluator answers, the machine does. -/
import Derived.Test.YtkfffcnililmkaaDoorAmReg
import Derived.LoopN
namespace Go.AM
open Go.RowKit (Below)
set_option linter.unusedSectionVars false
variable [Lay]
section
variable {P : Program} {B : Bd} {ok0 : Nat → Nat → Prop} {w0 : World} {E : Env} {R : Type} {n : Nat}

def Ex.out : Ex → Exit
  | .normal => .normal
  | .exit id => .exit id
  | .ret => .ret

/-- What comes after keeps Q. -/
def KOk (B : Bd) (ok0 : Nat → Nat → Prop) (w0 : World) (n : Nat) (k : K R) (r : R) (Q : Exit → Act → World → Prop) : Prop :=
  ∀ e σ, k e σ = some r → ∀ g a w, Inv B ok0 w0 g σ a w → a.tmps.size = n → Q e.out a w

/-- Regions whose order is drawn. -/
def DrOk (P : Program) (B : Bd) (ok0 : Nat → Nat → Prop) (w0 : World) (R : Type) (n : Nat) (dr : Array Oper → St → (St → Option R) → Option R) : Prop :=
  ∀ ops σ k r id Q g a w, opsIn n ops = true → dr ops σ k = some r → Inv B ok0 w0 g σ a w → a.tmps.size = n →
    (∀ τ, k τ = some r → ∀ g' a' w', Inv B ok0 w0 g' τ a' w' → a'.tmps.size = n → Q .normal a' w') → (Code.region id ops true).wp P Q a w

def Job.code : Job → Code
  | .loop c => c
  | .tail c => c

def JWp (P : Program) (m : Nat) (Q : Exit → Act → World → Prop) (a : Act) (w : World) : Job → Prop
  | .loop c => Code.rounds P c Q m a w
  | .tail c => c.wp P Q a w

def JobOk (P : Program) (B : Bd) (ok0 : Nat → Nat → Prop) (w0 : World) (R : Type) (n m : Nat) (jb : Job → Nat → St → K R → Option R) : Prop :=
  ∀ j b σ k r Q g a w, codeIn n j.code = true → jb j b σ k = some r → KOk B ok0 w0 n k r Q → Inv B ok0 w0 g σ a w → a.tmps.size = n → JWp P m Q a w j

theorem evC_ok (hE : EnvOk P E) (hC : CallsOk P E) {m : Nat} {jb : Job → Nat → St → K R → Option R} (hj : JobOk P B ok0 w0 R n m jb)
    {dr : Array Oper → St → (St → Option R) → Option R} (hdr : DrOk P B ok0 w0 R n dr) : ∀ (c : Code) (b : Nat) (σ : St) (k : K R) (r : R) (Q : Exit → Act → World → Prop) (g : G) (a : Act) (w : World),
    codeIn n c = true → evC E jb dr c b σ k = some r → KOk B ok0 w0 n k r Q → Inv B ok0 w0 g σ a w → a.tmps.size = n → c.wp P Q a w := by
  intro c
  induction c with
  | skip => intro b σ k r Q g a w _ h hk hI hs; exact wp_skip (hk .normal σ h g a w hI hs)
  | region id ops d =>
    intro b σ k r Q g a w hn h hk hI hs
    cases d with
    | false => exact region_ok hE hC hI (by rw [hs]; exact hn) h fun τ hτ g' a' w' hI' hs' => hk .normal τ hτ g' a' w' hI' (hs'.trans hs)
    | true => exact hdr ops σ _ r id Q g a w hn h hI hs fun τ hτ g' a' w' hI' hs' => hk .normal τ hτ g' a' w' hI' hs'
  | seq x y ihx ihy =>
    intro b σ k r Q g a w hn h hk hI hs
    have hnx : codeIn n x = true := by have := hn; simp only [codeIn, Bool.and_eq_true] at this; exact this.1
    have hny : codeIn n y = true := by have := hn; simp only [codeIn, Bool.and_eq_true] at this; exact this.2
    refine wp_seq (ihx b σ _ r _ g a w hnx h ?_ hI hs)
    intro e σ' he g' a' w' hI' hs'
    cases e with
    | normal =>
      dsimp only [seqK] at he
      split at he
      · rename_i kp hkp
        obtain ⟨g2, hI2⟩ := hI'.norm kp
        exact hj (.tail y) b _ k r Q g2 a' w' hny he hk hI2 hs'
      · exact ihy b σ' k r Q g' a' w' hny he hk hI' hs'
    | exit id => exact hk (.exit id) σ' he g' a' w' hI' hs'
    | ret => exact hk .ret σ' he g' a' w' hI' hs'
  | cond c x y ihx ihy =>
    intro b σ k r Q g a w hn h hk hI hs
    have hnx : codeIn n x = true := by have := hn; simp only [codeIn, Bool.and_eq_true] at this; exact this.1
    have hny : codeIn n y = true := by have := hn; simp only [codeIn, Bool.and_eq_true] at this; exact this.2
    unfold evC at h
    split at h
    · rename_i t gs hc
      refine wp_cond (eval_bool hI hc) ?_
      cases t with
      | true => exact ihx b σ k r Q g a w hnx h hk hI hs
      | false => exact ihy b σ k r Q g a w hny h hk hI hs
    · cases h
  | block id c ih =>
    intro b σ k r Q g a w hn h hk hI hs
    refine wp_block (ih id σ _ r _ g a w hn h ?_ hI hs)
    intro e σ' he g' a' w' hI' hs'
    cases e with
    | normal => exact hk .normal σ' he g' a' w' hI' hs'
    | exit id' =>
      dsimp only [blockK] at he
      show (if id' = id then Q .normal a' w' else Q (.exit id') a' w')
      split at he
      · rename_i hid; rw [if_pos hid]; exact hk .normal σ' he g' a' w' hI' hs'
      · rename_i hid; rw [if_neg hid]; exact hk (.exit id') σ' he g' a' w' hI' hs'
    | ret => exact hk .ret σ' he g' a' w' hI' hs'
  | loop c _ =>
    intro b σ k r Q g a w hn h hk hI hs
    obtain ⟨g2, hI2⟩ := hI.norm (E.loop b)
    exact wp_loop_rounds m (hj (.loop c) b _ k r Q g2 a w hn h hk hI2 hs)
  | exit id =>
    intro b σ k r Q g a w hn h hk hI hs
    unfold evC at h
    split at h
    · rename_i kp hkp
      obtain ⟨g2, hI2⟩ := hI.norm kp
      exact wp_exit (hk (.exit id) _ h g2 a w hI2 hs)
    · exact wp_exit (hk (.exit id) _ h g a w hI hs)
  | ret =>
    intro b σ k r Q g a w hn h hk hI hs
    obtain ⟨g2, hI2⟩ := hI.norm E.ret
    exact wp_ret (hk .ret _ h g2 a w hI2 hs)
  | _ => intro b σ k r Q g a w hn h; cases h

theorem evJ_ok (hE : EnvOk P E) (hC : CallsOk P E) {dr : Array Oper → St → (St → Option R) → Option R} (hdr : DrOk P B ok0 w0 R n dr) : ∀ m, JobOk P B ok0 w0 R n m (evJ E dr m)
  | 0 => fun _ _ _ _ _ _ _ _ _ _ h => by cases h
  | m + 1 => by
    have ih := evJ_ok hE hC hdr m
    intro j b σ k r Q g a w hn h hk hI hs
    cases j with
    | tail c => exact evC_ok hE hC ih hdr c b σ k r Q g a w hn h hk hI hs
    | loop c =>
      show c.wp P (Exit.then (Code.rounds P c Q m) Q) a w
      refine evC_ok hE hC ih hdr c b σ _ r _ g a w hn h ?_ hI hs
      intro e σ' he g' a' w' hI' hs'
      cases e with
      | normal =>
        obtain ⟨g2, hI2⟩ := hI'.norm (E.loop b)
        exact ih (.loop c) b _ k r Q g2 a' w' hn he hk hI2 hs'
      | exit id => exact hk (.exit id) σ' he g' a' w' hI' hs'
      | ret => exact hk .ret σ' he g' a' w' hI' hs'

end
end Go.AM
