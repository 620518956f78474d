import Derived.Test.YtboihdnijlilpaaDoorAmPure17
import Derived.Test.YtboihdnijlilpaaDoorAmPLib
import Derived.KernelRfl
/- Which of two cells stands first: an order. -/
namespace Go.AM.Pure
open Go.AM

abbrev Cell := Int × Int × ByteArray

/-- Three answers that are an order's. -/
structure Ord3 {α : Type} (c : α → α → Int) : Prop where
  eq0 : ∀ a b, c a b = 0 ↔ a = b
  neg : ∀ a b, c b a = -c a b
  rng : ∀ a b, c a b = -1 ∨ c a b = 0 ∨ c a b = 1
  tr : ∀ a b d, c a b = -1 → c b d = -1 → c a d = -1

def lexC {α β : Type} (c : α → α → Int) (d : β → β → Int) (a b : α × β) : Int := if c a.1 b.1 ≠ 0 then c a.1 b.1 else d a.2 b.2

theorem Ord3.lex {α β : Type} {c : α → α → Int} {d : β → β → Int} (h : Ord3 c) (k : Ord3 d) : Ord3 (lexC c d) where
  eq0 := fun a b => by
    unfold lexC
    by_cases hc : c a.1 b.1 = 0
    · have := (h.eq0 _ _).1 hc
      rw [if_neg (by simp [hc]), k.eq0]
      constructor
      · intro e; exact Prod.ext this e
      · rintro rfl; rfl
    · rw [if_pos hc]
      constructor
      · intro e; exact absurd e hc
      · rintro rfl; exact absurd ((h.eq0 _ _).2 rfl) hc
  neg := fun a b => by
    unfold lexC
    rw [h.neg a.1 b.1, k.neg a.2 b.2]
    by_cases hc : c a.1 b.1 = 0
    · simp [hc]
    · have : ¬ (-c a.1 b.1 = 0) := by omega
      simp [hc, this]
  rng := fun a b => by
    unfold lexC
    split
    · exact h.rng _ _
    · exact k.rng _ _
  tr := fun a b e h1 h2 => by
    unfold lexC at *
    by_cases x : c a.1 b.1 = 0
    · have hx := (h.eq0 _ _).1 x
      rw [if_neg (by simp [x])] at h1
      by_cases y : c b.1 e.1 = 0
      · have hy := (h.eq0 _ _).1 y
        rw [if_neg (by simp [y])] at h2
        rw [if_neg (by simp [hx, y]), k.tr _ _ _ h1 h2]
      · rw [if_pos y] at h2
        rw [hx, if_pos y, h2]
    · rw [if_pos x] at h1
      by_cases y : c b.1 e.1 = 0
      · have hy := (h.eq0 _ _).1 y
        rw [← hy, if_pos x, h1]
      · rw [if_pos y] at h2
        have := h.tr _ _ _ h1 h2
        rw [if_pos (by omega), this]

def sgn (a b : Int) : Int := if a < b then -1 else if b < a then 1 else 0

theorem ord_sgn : Ord3 sgn where
  eq0 := fun a b => by unfold sgn; split <;> (try split) <;> omega
  neg := fun a b => by unfold sgn; split <;> split <;> omega
  rng := fun a b => by unfold sgn; split <;> (try split) <;> simp
  tr := fun a b d => by unfold sgn; repeat' split
                        all_goals omega

theorem cb_eq0 : ∀ a b : List UInt8, Lib.compareBytes a b = 0 ↔ a = b
  | [], [] => by simp [Lib.compareBytes]
  | [], _ :: _ => by simp [Lib.compareBytes]
  | _ :: _, [] => by simp [Lib.compareBytes]
  | a :: as, b :: bs => by
    unfold Lib.compareBytes
    by_cases h : a < b
    · rw [if_pos h]; simp; rintro rfl; exact absurd h (UInt8.lt_irrefl _)
    · rw [if_neg h]
      by_cases k : b < a
      · rw [if_pos k]; simp; rintro rfl; exact absurd k (UInt8.lt_irrefl _)
      · rw [if_neg k, cb_eq0 as bs]
        have : a = b := UInt8.le_antisymm (UInt8.not_lt.1 k) (UInt8.not_lt.1 h)
        simp [this]

theorem cb_neg : ∀ a b : List UInt8, Lib.compareBytes b a = -Lib.compareBytes a b
  | [], [] => by simp [Lib.compareBytes]
  | [], _ :: _ => by simp [Lib.compareBytes]
  | _ :: _, [] => by simp [Lib.compareBytes]
  | a :: as, b :: bs => by
    unfold Lib.compareBytes
    by_cases h : a < b
    · have : ¬ b < a := UInt8.lt_asymm h
      simp [h, this]
    · by_cases k : b < a
      · simp [h, k]
      · simp [h, k, cb_neg as bs]

theorem cb_rng : ∀ a b : List UInt8, Lib.compareBytes a b = -1 ∨ Lib.compareBytes a b = 0 ∨ Lib.compareBytes a b = 1
  | [], [] => by simp [Lib.compareBytes]
  | [], _ :: _ => by simp [Lib.compareBytes]
  | _ :: _, [] => by simp [Lib.compareBytes]
  | a :: as, b :: bs => by
    unfold Lib.compareBytes
    split
    · simp
    · split
      · simp
      · exact cb_rng as bs

theorem cb_tr : ∀ a b d : List UInt8, Lib.compareBytes a b = -1 → Lib.compareBytes b d = -1 → Lib.compareBytes a d = -1
  | [], [], _, h, _ => by simp [Lib.compareBytes] at h
  | [], _ :: _, [], _, h => by simp [Lib.compareBytes] at h
  | [], _ :: _, _ :: _, _, _ => by simp [Lib.compareBytes]
  | _ :: _, [], _, h, _ => by simp [Lib.compareBytes] at h
  | _ :: _, _ :: _, [], _, h => by simp [Lib.compareBytes] at h
  | a :: as, b :: bs, d :: ds, h1, h2 => by
    unfold Lib.compareBytes at *
    by_cases x : a < b
    · by_cases y : b < d
      · simp [UInt8.lt_trans x y]
      · rw [if_neg y] at h2
        by_cases z : d < b
        · rw [if_pos z] at h2; simp at h2
        · have : b = d := UInt8.le_antisymm (UInt8.not_lt.1 z) (UInt8.not_lt.1 y)
          subst this; simp [x]
    · rw [if_neg x] at h1
      by_cases z : b < a
      · rw [if_pos z] at h1; simp at h1
      · have : a = b := UInt8.le_antisymm (UInt8.not_lt.1 z) (UInt8.not_lt.1 x)
        subst this
        rw [if_neg z] at h1
        by_cases y : a < d
        · simp [y]
        · rw [if_neg y] at h2 ⊢
          by_cases u : d < a
          · rw [if_pos u] at h2; simp at h2
          · rw [if_neg u] at h2 ⊢
            exact cb_tr as bs ds h1 h2

theorem cb_less : ∀ a b : List UInt8, Op.bytesLess a b = decide (Lib.compareBytes a b = -1)
  | [], [] => by simp [Lib.compareBytes, Op.bytesLess]
  | [], _ :: _ => by simp [Lib.compareBytes, Op.bytesLess]
  | _ :: _, [] => by simp [Lib.compareBytes, Op.bytesLess]
  | a :: as, b :: bs => by
    unfold Lib.compareBytes Op.bytesLess
    by_cases h : a < b
    · simp [h]
    · by_cases k : b < a
      · have : ¬ a = b := by rintro rfl; exact absurd k (UInt8.lt_irrefl _)
        simp [h, k, this]
      · have : a = b := UInt8.le_antisymm (UInt8.not_lt.1 k) (UInt8.not_lt.1 h)
        subst this
        simp [h, cb_less as bs]

theorem ord_cmpS : Ord3 cmpS where
  eq0 := fun a b => by unfold cmpS; rw [cb_eq0, bytes_ext]
  neg := fun a b => cb_neg _ _
  rng := fun a b => cb_rng _ _
  tr := fun a b d => cb_tr _ _ _

theorem ltS_d (a b : ByteArray) : ltS a b = decide (cmpS a b = -1) := by
  unfold ltS cmpS
  rw [ByteArray.toList_eq, ByteArray.toList_eq, cb_less]

/-- How two cells stand to each other. -/
def cC : Cell → Cell → Int := lexC sgn (lexC sgn cmpS)
theorem ord_cC : Ord3 cC := ord_sgn.lex (ord_sgn.lex ord_cmpS)

theorem cmp_Compare_int_eq (x y : Int) : cmp_Compare_int x y = sgn x y := by
  simp [cmp_Compare_int, cmp_isNaN_int, sgn]

theorem or_loop (l : List Int) (hl : l.length < 4611686018427387904) : ∀ (d i n : Nat), d = l.length - i → i ≤ l.length → d < n →
    cmp_Or_int.l0 n 0 l (l.length : Int) (i : Int) = some (((l.drop i).find? fun x => decide (x ≠ 0)).getD 0) := by
  intro d
  induction d with
  | zero =>
    intro i n hd hi hn
    obtain ⟨m, rfl⟩ : ∃ m, n = m + 1 := ⟨n - 1, by omega⟩
    show cmp_Or_int.S0 (cmp_Or_int.l0 m) 0 l (l.length : Int) (i : Int) = _
    unfold cmp_Or_int.S0
    have : ¬ ((i : Int) < (l.length : Int)) := by omega
    have hi' : i = l.length := by omega
    subst hi'
    simp
  | succ d ih =>
    intro i n hd hi hn
    obtain ⟨m, rfl⟩ : ∃ m, n = m + 1 := ⟨n - 1, by omega⟩
    show cmp_Or_int.S0 (cmp_Or_int.l0 m) 0 l (l.length : Int) (i : Int) = _
    unfold cmp_Or_int.S0
    have h1 : i < l.length := by omega
    have h2 : (i : Int) < (l.length : Int) := by omega
    rw [nth_get h1, lenL_d, addI_of (by omega) (by omega)]
    simp only [ltI_d, inB_nat, neI_d, h1, h2, decide_true, cond_true]
    rw [List.drop_eq_getElem_cons h1, List.find?_cons]
    by_cases hz : l[i] = 0
    · simp only [hz, decide_true, Bool.not_true, cond_false, ne_eq, not_true_eq_false, decide_false]
      exact ih (i + 1) m (by omega) (by omega) (by omega)
    · simp [hz]

theorem cmp_Or_int_eq (l : List Int) (hl : l.length < 4611686018427387904) : cmp_Or_int l = some ((l.find? fun x => decide (x ≠ 0)).getD 0) := by
  have := or_loop l hl (l.length - 0) 0 fu rfl (by omega) (by unfold fu; omega)
  rwa [List.drop_zero] at this

theorem cell_Compare_eq (a b : Cell) : cell_Compare a b = some (cC a b) := by
  unfold cell_Compare
  rw [bind_some', cmp_Or_int_eq _ (by simp), cmp_Compare_int_eq, cmp_Compare_int_eq]
  unfold cC lexC
  by_cases h1 : sgn a.1 b.1 = 0
  · by_cases h2 : sgn a.2.1 b.2.1 = 0
    · by_cases h3 : cmpS a.2.2 b.2.2 = 0 <;> simp [h1, h2, h3]
    · simp [h1, h2]
  · simp [h1]

theorem cell_ext {a b : Cell} : a.1 = b.1 ∧ a.2.1 = b.2.1 ∧ a.2.2 = b.2.2 ↔ a = b := by
  obtain ⟨x, y, z⟩ := a
  obtain ⟨x', y', z'⟩ := b
  simp

/-- '==' of cells. -/
theorem cell_eq (a b : Cell) : (eqI a.1 b.1 && (eqI a.2.1 b.2.1 && eqS a.2.2 b.2.2)) = decide (a = b) := by
  rw [eqI_d, eqI_d, eqS_d, ← Bool.decide_and, ← Bool.decide_and]
  exact decide_eq_decide.2 cell_ext

theorem ref06_Compare_eq (a b : Cell) : ref06_Compare a b = cC a b := by
  unfold ref06_Compare
  rw [cell_eq]
  by_cases h : a = b
  · subst h
    simp [(ord_cC.eq0 a a).2 rfl]
  · have h0 : cC a b ≠ 0 := fun e => h ((ord_cC.eq0 _ _).1 e)
    simp only [h, decide_false, cond_false]
    unfold cC lexC sgn at *
    simp only [ltI_d, eqI_d, ltS_d, cond_ite, decide_eq_true_eq]
    by_cases h1 : a.1 < b.1
    · simp [h1]
    · by_cases h2 : b.1 < a.1
      · have : ¬ a.1 = b.1 := by omega
        simp [h1, h2, this]
      · have e1 : a.1 = b.1 := by omega
        by_cases h3 : a.2.1 < b.2.1
        · simp [e1, h3]
        · by_cases h4 : b.2.1 < a.2.1
          · have : ¬ a.2.1 = b.2.1 := by omega
            simp [e1, h3, h4, this]
          · have e2 : a.2.1 = b.2.1 := by omega
            simp [e1, e2] at h0 ⊢
            rcases ord_cmpS.rng a.2.2 b.2.2 with h | h | h
            · simp [h]
            · exact absurd h h0
            · simp [h]
end Go.AM.Pure
