import Derived.Test.YtclpadlpcfnfmaaGreatAmP18
import Derived.Test.YtclpadlpcfnfmaaGreatSPrf
import Derived.Test.YtclpadlpcfnfmaaGreatAmRow
import Derived.Test.YtclpadlpcfnfmaaGreatRows
import Derived.WalkKit
import Derived.ProofKit
import Derived.OpenShut
import Derived.ShutString
import Derived.ChangeOld
import Derived.Below
import Derived.SizedLaws
/- SiftBlocks: the given row, out of the plain law and the function's contract. -/
namespace Go.Proofs.YtclpadlpcfnfmaaGreat.siftBlocks
open Go.ChangeShapes Go.WideShapes Go.ChangeAt Go.RowKit
open Go.AM (list1 list2 list3 list4 list5 law_calls trodAll_below trodAll_len DeepAll)
open Go.Proofs.YtclpadlpcfnfmaaGreat.Am
set_option maxRecDepth 100000
theorem own : ownKnob Tryz.prog.godebug = none := by kernel_rfl
theorem laidOut : laidOutB Tryz.prog = true := by kernel_rfl
theorem Yxw : DeepAll Tryz.prog [22, 3, 47] [Ng, k3, LV] := ⟨Yaq, ⟨aL, ⟨Ybq, trivial⟩⟩⟩
theorem lifted (os : Os) (started : os.Started) (H : Type) (enc : TypeId × Value → H) :
    ReturnsInHanded {} Tryz.checked os 5 .any (Rows.siftBlocksSpec.pre6 enc Tryz.prog Tryz.f5 Rows.siftBlocksRow.domain false) (Rows.siftBlocksSpec.post enc Tryz.prog Tryz.f5 false true false false) := by
  refine returnsInHanded_of_change_sized (C := Tryz.checked) own started (by kernel_rfl) Tryz.func5
    (ChangeSpec.witness6 (enc := enc) (C := Tryz.checked) false ⟨#[], #[.slice none 0 0, .int .i64 0, .agg #[.int .i64 0, .int .i64 0, .int .i64 0, .string ByteArray.empty]], []⟩ 8 (by kernel_rfl) (by kernel_rfl) (by kernel_rfl) (by kernel_rfl)) ?_
  intro W base args ds gs before Yyw hW _ _ _
  have hW' := hW
  obtain ⟨p, q, mF, hV, rfl, _, _⟩ := hW
  have hA : DataW.TrodAll enc Tryz.prog W 0 (fun _ => true) true Tryz.f5.params.toList args.toList ds p := mF
  have QI : ∀ (j : Nat) t v, Tryz.f5.params[j]? = some t → args[j]? = some v → Value.okWide Tryz.prog W .any base t v := Yyw
  rw [Tryz.params5] at hA QI
  obtain ⟨rfl, rfl⟩ := trodVars_none hV
  obtain ⟨d0, d1, d2, rfl⟩ := list3 (trodAll_len hA)
  have hv : ∀ (j : Nat) T v, ([22, 3, 47] : List Nat)[j]? = some T → args[j]? = some v → Value.okWide Tryz.prog W .any base T v := fun j T v hT hv => QI j T v (by simpa using hT) hv
  refine (law_calls (ts := [Ng, k3, LV]) Zsi (fun x hx => AM.Pure.Zgo x.1 x.2.1 x.2.2.1 fun c hc => AM.Pure.Yni (hx.1.2 c hc).2.1) Yxw (show Go.AM.Lay.ok 0 W from ⟨rfl, Nat.zero_le _⟩) hA hv).mono fun e W' ⟨he, bel⟩ => ?_
  subst he
  exact ⟨_, rfl, _, _, _, [], _, [], hW', trodAll_mk1 (shut_bool Tryz.underlying4 _), trodAll_below laidOut bel (by kernel_rfl) hA, rfl, bel.frame _, fun h => by cases h⟩
theorem over : Rows.siftBlocksRow.holds Tryz.pinned (OpenSpec.ofChange Rows.siftBlocksSpec) :=
  OpenClaim.holds_of_wide 5 Tryz.f5 rfl rfl rfl rfl rfl rfl rfl ⟨rfl, rfl, rfl, rfl, rfl⟩ rfl rfl rfl rfl rfl (by kernel_rfl) Tryz.func5 (by kernel_rfl)
    (of_decide_eq_true (by kernel_rfl)) (by unfold Func.isWrapper; first | (rw [if_pos (by decide +kernel)]; kernel_rfl) | (rw [if_neg (by decide +kernel)]; exact ⟨rfl, rfl⟩))
    (fun os started H enc _ => lifted os started H enc)
theorem proved : Rows.SiftBlocksSaid := over
#print axioms proved
end Go.Proofs.YtclpadlpcfnfmaaGreat.siftBlocks
namespace Go.Proofs.YtclpadlpcfnfmaaGreat
theorem siftBlocks_holds : Rows.SiftBlocksSaid := siftBlocks.proved
end Go.Proofs.YtclpadlpcfnfmaaGreat
