import Derived.Test.YtlamhllcnbcbbaaGreatAmP13q
import Derived.Test.YtlamhllcnbcbbaaGreatSPrf
import Derived.Test.YtlamhllcnbcbbaaGreatAmRow
import Derived.Test.YtlamhllcnbcbbaaGreatRows
import Derived.WalkKit
import Derived.ProofKit
import Derived.OpenShut
import Derived.ShutString
import Derived.ChangeOld
import Derived.Below
import Derived.SizedLaws
/- BlockSpoilt: the given row, out of the plain law and the function's contract. -/
namespace Go.Proofs.YtlamhllcnbcbbaaGreat.blockSpoilt
open Go.ChangeShapes Go.WideShapes Go.ChangeAt Go.RowKit
open Go.AM (list1 list2 list3 list4 list5 Zh6 Zao Zjq Zss)
open Go.Proofs.YtlamhllcnbcbbaaGreat.Am
set_option maxRecDepth 100000
theorem own : ownKnob Tryz.prog.godebug = none := by kernel_rfl
theorem laidOut : laidOutB Tryz.prog = true := by kernel_rfl
theorem deeps : Zss Tryz.prog [22, 3, 3] [k22, k3, k3] := ⟨Zbn2, ⟨deep3, ⟨deep3, trivial⟩⟩⟩
theorem lifted (os : Os) (started : os.Started) (H : Type) (enc : TypeId × Value → H) :
    ReturnsInHanded {} Tryz.checked os 7 .any (Rows.blockSpoiltSpec.pre6 enc Tryz.prog Tryz.f7 Rows.blockSpoiltRow.domain false) (Rows.blockSpoiltSpec.post enc Tryz.prog Tryz.f7 false true false false) := by
  refine returnsInHanded_of_change_sized (C := Tryz.checked) own started (by kernel_rfl) Tryz.func7
    (ChangeSpec.witness6 (enc := enc) (C := Tryz.checked) false ⟨#[], #[.slice none 0 0, .int .i64 0, .int .i64 0], []⟩ 8 (by kernel_rfl) (by kernel_rfl) (by kernel_rfl) (by kernel_rfl)) ?_
  intro W base args ds gs before hval0 hW _ _ _
  have hW' := hW
  obtain ⟨p, q, hA0, hV, rfl, _, _⟩ := hW
  have hA : DataW.TrodAll enc Tryz.prog W 0 (fun _ => true) true Tryz.f7.params.toList args.toList ds p := hA0
  have hval : ∀ (j : Nat) t v, Tryz.f7.params[j]? = some t → args[j]? = some v → Value.okWide Tryz.prog W .any base t v := hval0
  rw [Tryz.params7] at hA hval
  obtain ⟨rfl, rfl⟩ := trodVars_none hV
  obtain ⟨d0, d1, d2, rfl⟩ := list3 (Zjq hA)
  have hv : ∀ (j : Nat) T v, ([22, 3, 3] : List Nat)[j]? = some T → args[j]? = some v → Value.okWide Tryz.prog W .any base T v := fun j T v hT hv => hval j T v (by simpa using hT) hv
  refine (Zh6 (ts := [k22, k3, k3]) Zgu (fun x hx => AM.Pure.Zb1 x.1 x.2.1 x.2.2.1 fun c hc => AM.Pure.Zo91 (hx.1.2 c hc).2.1) deeps (show Go.AM.Lay.ok 0 W from ⟨rfl, Nat.zero_le _⟩) hA hv).mono fun e W' ⟨he, bel⟩ => ?_
  subst he
  exact ⟨_, rfl, _, _, _, [], _, [], hW', trodAll_mk1 (shut_bool Tryz.underlying4 _), Zao laidOut bel (by kernel_rfl) hA, rfl, bel.frame _, fun h => by cases h⟩
theorem over : Rows.blockSpoiltRow.holds Tryz.pinned (OpenSpec.ofChange Rows.blockSpoiltSpec) :=
  OpenClaim.holds_of_wide 7 Tryz.f7 rfl rfl rfl rfl rfl rfl rfl ⟨rfl, rfl, rfl, rfl, rfl⟩ rfl rfl rfl rfl rfl (by kernel_rfl) Tryz.func7 (by kernel_rfl)
    (of_decide_eq_true (by kernel_rfl)) (by unfold Func.isWrapper; first | (rw [if_pos (by decide +kernel)]; kernel_rfl) | (rw [if_neg (by decide +kernel)]; exact ⟨rfl, rfl⟩))
    (fun os started H enc _ => lifted os started H enc)
theorem proved : Rows.BlockSpoiltSaid := over
#print axioms proved
end Go.Proofs.YtlamhllcnbcbbaaGreat.blockSpoilt
namespace Go.Proofs.YtlamhllcnbcbbaaGreat
theorem blockSpoilt_holds : Rows.BlockSpoiltSaid := blockSpoilt.proved
end Go.Proofs.YtlamhllcnbcbbaaGreat
