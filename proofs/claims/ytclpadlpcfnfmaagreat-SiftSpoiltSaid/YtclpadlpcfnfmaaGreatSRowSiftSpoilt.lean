import Derived.Test.YtclpadlpcfnfmaaGreatAmP18n
import Derived.Test.YtclpadlpcfnfmaaGreatSPrf
import Derived.Test.YtclpadlpcfnfmaaGreatAmRow
import Derived.Test.YtclpadlpcfnfmaaGreatRows
import Derived.WalkKit
import Derived.ProofKit
import Derived.OpenShut
import Derived.ShutString
import Derived.ChangeOld
import Derived.Below
import Derived.SizedLaws
/- SiftSpoilt: the given row, out of the plain law and the function's contract. -/
namespace Go.Proofs.YtclpadlpcfnfmaaGreat.siftSpoilt
open Go.ChangeShapes Go.WideShapes Go.ChangeAt Go.RowKit
open Go.AM (list1 list2 list3 list4 list5 law_calls trodAll_below trodAll_len DeepAll)
open Go.Proofs.YtclpadlpcfnfmaaGreat.Am
set_option maxRecDepth 100000
theorem own : ownKnob Tryz.prog.godebug = none := by kernel_rfl
theorem laidOut : laidOutB Tryz.prog = true := by kernel_rfl
theorem Yy9 : DeepAll Tryz.prog [9, 47, 23] [k9, MS, Oo] := ⟨Zfm, ⟨Yd3, ⟨Ye3, trivial⟩⟩⟩
theorem lifted (os : Os) (started : os.Started) (H : Type) (enc : TypeId × Value → H) :
    ReturnsInHanded {} Tryz.checked os 4 .any (Rows.siftSpoiltSpec.pre6 enc Tryz.prog Tryz.f4 Rows.siftSpoiltRow.domain false) (Rows.siftSpoiltSpec.post enc Tryz.prog Tryz.f4 false true false false) := by
  refine returnsInHanded_of_change_sized (C := Tryz.checked) own started (by kernel_rfl) Tryz.func4
    (ChangeSpec.witness6 (enc := enc) (C := Tryz.checked) false ⟨#[], #[.string ByteArray.empty, .agg #[.int .i64 0, .int .i64 0, .int .i64 0, .string ByteArray.empty], .slice none 0 0], []⟩ 8 (by kernel_rfl) (by kernel_rfl) (by kernel_rfl) (by kernel_rfl)) ?_
  intro W base args ds gs before Yz9 hW _ _ _
  have hW' := hW
  obtain ⟨p, q, p9, hV, rfl, _, _⟩ := hW
  have hA : DataW.TrodAll enc Tryz.prog W 0 (fun _ => true) true Tryz.f4.params.toList args.toList ds p := p9
  have RN : ∀ (j : Nat) t v, Tryz.f4.params[j]? = some t → args[j]? = some v → Value.okWide Tryz.prog W .any base t v := Yz9
  rw [Tryz.params4] at hA RN
  obtain ⟨rfl, rfl⟩ := trodVars_none hV
  obtain ⟨d0, d1, d2, rfl⟩ := list3 (trodAll_len hA)
  have hv : ∀ (j : Nat) T v, ([9, 47, 23] : List Nat)[j]? = some T → args[j]? = some v → Value.okWide Tryz.prog W .any base T v := fun j T v hT hv => RN j T v (by simpa using hT) hv
  refine (law_calls (ts := [k9, MS, Oo]) Zsr (fun x hx => AM.Pure.Zkx x.1 x.2.1 x.2.2.1) Yy9 (show Go.AM.Lay.ok 0 W from ⟨rfl, Nat.zero_le _⟩) hA hv).mono fun e W' ⟨he, bel⟩ => ?_
  subst he
  exact ⟨_, rfl, _, _, _, [], _, [], hW', trodAll_mk1 (shut_bool Tryz.underlying4 _), trodAll_below laidOut bel (by kernel_rfl) hA, rfl, bel.frame _, fun h => by cases h⟩
theorem over : Rows.siftSpoiltRow.holds Tryz.pinned (OpenSpec.ofChange Rows.siftSpoiltSpec) :=
  OpenClaim.holds_of_wide 4 Tryz.f4 rfl rfl rfl rfl rfl rfl rfl ⟨rfl, rfl, rfl, rfl, rfl⟩ rfl rfl rfl rfl rfl (by kernel_rfl) Tryz.func4 (by kernel_rfl)
    (of_decide_eq_true (by kernel_rfl)) (by unfold Func.isWrapper; first | (rw [if_pos (by decide +kernel)]; kernel_rfl) | (rw [if_neg (by decide +kernel)]; exact ⟨rfl, rfl⟩))
    (fun os started H enc _ => lifted os started H enc)
theorem proved : Rows.SiftSpoiltSaid := over
#print axioms proved
end Go.Proofs.YtclpadlpcfnfmaaGreat.siftSpoilt
namespace Go.Proofs.YtclpadlpcfnfmaaGreat
theorem siftSpoilt_holds : Rows.SiftSpoiltSaid := siftSpoilt.proved
end Go.Proofs.YtclpadlpcfnfmaaGreat
