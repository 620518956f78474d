import Derived.Test.YtlamhllcnbcbbaaGreatAmP14
import Derived.Test.YtlamhllcnbcbbaaGreatSPrf
import Derived.Test.YtlamhllcnbcbbaaGreatAmRow
import Derived.Test.YtlamhllcnbcbbaaGreatRows
import Derived.WalkKit
import Derived.ProofKit
import Derived.OpenShut
import Derived.ShutString
import Derived.ChangeOld
import Derived.Below
import Derived.SizedLaws
/- BlockTakes: the given row, out of the plain law and the function's contract. -/
namespace Go.Proofs.YtlamhllcnbcbbaaGreat.blockTakes
open Go.ChangeShapes Go.WideShapes Go.ChangeAt Go.RowKit
open Go.AM (list1 list2 list3 list4 list5 Zve1 Zqq Zkt Zhw)
open Go.Proofs.YtlamhllcnbcbbaaGreat.Am
set_option maxRecDepth 100000
theorem own : ownKnob Tryz.prog.godebug = none := by kernel_rfl
theorem laidOut : laidOutB Tryz.prog = true := by kernel_rfl
theorem deeps : Zhw Tryz.prog [9] [k9] := ⟨deep9, trivial⟩
theorem lifted (os : Os) (started : os.Started) (H : Type) (enc : TypeId × Value → H) :
    ReturnsInHanded {} Tryz.checked os 5 .any (Rows.blockTakesSpec.pre6 enc Tryz.prog Tryz.f5 Rows.blockTakesRow.domain false) (Rows.blockTakesSpec.post enc Tryz.prog Tryz.f5 false true false false) := by
  refine returnsInHanded_of_change_sized (C := Tryz.checked) own started (by kernel_rfl) Tryz.func5
    (ChangeSpec.witness6 (enc := enc) (C := Tryz.checked) false ⟨#[], #[.string ByteArray.empty], []⟩ 8 (by kernel_rfl) (by kernel_rfl) (by kernel_rfl) (by kernel_rfl)) ?_
  intro W base args ds gs before hval0 hW _ _ _
  have hW' := hW
  obtain ⟨p, q, hA0, hV, rfl, _, _⟩ := hW
  have hA : DataW.TrodAll enc Tryz.prog W 0 (fun _ => true) true Tryz.f5.params.toList args.toList ds p := hA0
  have hval : ∀ (j : Nat) t v, Tryz.f5.params[j]? = some t → args[j]? = some v → Value.okWide Tryz.prog W .any base t v := hval0
  rw [Tryz.params5] at hA hval
  obtain ⟨rfl, rfl⟩ := trodVars_none hV
  obtain ⟨d0, rfl⟩ := list1 (Zkt hA)
  have hv : ∀ (j : Nat) T v, ([9] : List Nat)[j]? = some T → args[j]? = some v → Value.okWide Tryz.prog W .any base T v := fun j T v hT hv => hval j T v (by simpa using hT) hv
  refine (Zve1 (ts := [k9]) Zc3 (fun x hx => AM.Pure.Zwb1 x.1) deeps (show Go.AM.Lay.ok 0 W from ⟨rfl, Nat.zero_le _⟩) hA hv).mono fun e W' ⟨he, bel⟩ => ?_
  subst he
  exact ⟨_, rfl, _, _, _, [], _, [], hW', trodAll_mk1 (shut_bool Tryz.underlying4 _), Zqq laidOut bel (by kernel_rfl) hA, rfl, bel.frame _, fun h => by cases h⟩
theorem over : Rows.blockTakesRow.holds Tryz.pinned (OpenSpec.ofChange Rows.blockTakesSpec) :=
  OpenClaim.holds_of_wide 5 Tryz.f5 rfl rfl rfl rfl rfl rfl rfl ⟨rfl, rfl, rfl, rfl, rfl⟩ rfl rfl rfl rfl rfl (by kernel_rfl) Tryz.func5 (by kernel_rfl)
    (of_decide_eq_true (by kernel_rfl)) (by unfold Func.isWrapper; first | (rw [if_pos (by decide +kernel)]; kernel_rfl) | (rw [if_neg (by decide +kernel)]; exact ⟨rfl, rfl⟩))
    (fun os started H enc _ => lifted os started H enc)
theorem proved : Rows.BlockTakesSaid := over
#print axioms proved
end Go.Proofs.YtlamhllcnbcbbaaGreat.blockTakes
namespace Go.Proofs.YtlamhllcnbcbbaaGreat
theorem blockTakes_holds : Rows.BlockTakesSaid := blockTakes.proved
end Go.Proofs.YtlamhllcnbcbbaaGreat
