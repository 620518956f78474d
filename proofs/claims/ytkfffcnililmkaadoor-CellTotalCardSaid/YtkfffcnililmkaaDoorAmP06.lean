/- Layer 06 (cells): the laws of their order. -/
import Derived.Test.YtkfffcnililmkaaDoorAmPure06
import Derived.Test.YtkfffcnililmkaaDoorAmPCell
namespace Go.AM.Pure
open Go.AM

theorem awake06 : law06_awake = some true := by kernel_rfl

theorem cellTotal_law (a b c : Cell) : law06_CellTotal a b c = some true := by
  unfold law06_CellTotal
  rw [awake06]
  simp only [cell_Compare_eq, Option.bind_some, cell_eq]
  have h1 := ord_cC.neg a b
  have h2 : decide (cC a b = 0) = decide (a = b) := decide_eq_decide.2 (ord_cC.eq0 a b)
  have h5 := ord_cC.tr a b c
  have h6 := ord_cC.tr c b a
  have h7 := ord_cC.neg b c
  have h8 := ord_cC.neg a c
  have e0 : cC a b = 0 → cC a c = cC b c := fun h => by rw [(ord_cC.eq0 a b).1 h]
  have e1 : cC b c = 0 → cC a c = cC a b := fun h => by rw [(ord_cC.eq0 b c).1 h]
  rw [h1] at h6 ⊢
  rw [h7, h8] at h6
  simp only [neI_d, ltI_d, leI_d, eqI_d, eqB_d, h2, beq_self_eq_true]
  clear h1 h2 h7 h8
  have h3 := ord_cC.rng a b
  have h4 := ord_cC.rng b c
  have h10 := ord_cC.rng a c
  revert h3 h4 h10 h5 h6 e0 e1
  generalize cC a b = x
  generalize cC b c = y
  generalize cC a c = z
  intro h5 h6 e0 e1 h3 h4 h10
  have hs : subI .i64 0 (-x) = x := by rw [subI_of (by omega) (by omega)]; omega
  rw [hs]
  generalize decide (256 < lenS a.2.2) = d1
  generalize decide (256 < lenS b.2.2) = d2
  generalize decide (256 < lenS c.2.2) = d3
  rcases h3 with rfl | rfl | rfl <;> rcases h4 with rfl | rfl | rfl <;> rcases h10 with rfl | rfl | rfl <;>
    first | (cases d1 <;> cases d2 <;> cases d3 <;> rfl) | (exfalso; omega)

end Go.AM.Pure
