import Derived.Test.YtclpadlpcfnfmaaGreatAmP18
import Derived.Test.YtclpadlpcfnfmaaGreatSPrf
import Derived.Test.YtclpadlpcfnfmaaGreatAmRow
import Derived.Test.YtclpadlpcfnfmaaGreatRows
import Derived.WalkKit
import Derived.ProofKit
import Derived.OpenShut
import Derived.ShutString
import Derived.ChangeOld
import Derived.Below
import Derived.SizedLaws
/- SiftGathers: the given row, out of the plain law and the function's contract. -/
namespace Go.Proofs.YtclpadlpcfnfmaaGreat.siftGathers
open Go.ChangeShapes Go.WideShapes Go.ChangeAt Go.RowKit
open Go.AM (Zcg1 Zdg1 Zow Zeg1 Zfg1 aL NO PY Qp)
open Go.Proofs.YtclpadlpcfnfmaaGreat.Am
set_option maxRecDepth 100000
theorem own : ownKnob Tryz.prog.godebug = none := by kernel_rfl
theorem laidOut : laidOutB Tryz.prog = true := by kernel_rfl
theorem Zrb1 : Qp Tryz.prog [22, 23, 3] [k22, k23, k3] := ⟨Zy6, ⟨Za7, ⟨WR, trivial⟩⟩⟩
theorem lifted (os : Os) (started : os.Started) (H : Type) (enc : TypeId × Value → H) :
    ReturnsInHanded {} Tryz.checked os 3 .any (Rows.siftGathersSpec.pre6 enc Tryz.prog Tryz.f3 Rows.siftGathersRow.domain false) (Rows.siftGathersSpec.post enc Tryz.prog Tryz.f3 false true false false) := by
  refine returnsInHanded_of_change_sized (C := Tryz.checked) own started (by kernel_rfl) Tryz.func3
    (ChangeSpec.witness6 (enc := enc) (C := Tryz.checked) false ⟨#[], #[.slice none 0 0, .slice none 0 0, .int .i64 0], []⟩ 8 (by kernel_rfl) (by kernel_rfl) (by kernel_rfl) (by kernel_rfl)) ?_
  intro W base args ds gs before hval0 hW _ _ _
  have hW' := hW
  obtain ⟨p, q, hA0, hV, rfl, _, _⟩ := hW
  have hA : DataW.TrodAll enc Tryz.prog W 0 (fun _ => true) true Tryz.f3.params.toList args.toList ds p := hA0
  have hval : ∀ (j : Nat) t v, Tryz.f3.params[j]? = some t → args[j]? = some v → Value.okWide Tryz.prog W .any base t v := hval0
  rw [Tryz.params3] at hA hval
  obtain ⟨rfl, rfl⟩ := trodVars_none hV
  obtain ⟨d0, d1, d2, rfl⟩ := Zow (PY hA)
  have hv : ∀ (j : Nat) T v, ([22, 23, 3] : List Nat)[j]? = some T → args[j]? = some v → Value.okWide Tryz.prog W .any base T v := fun j T v hT hv => hval j T v (by simpa using hT) hv
  refine (aL (ts := [k22, k23, k3]) RT (fun x hx => AM.Pure.jL x.1 x.2.1 x.2.2.1 fun c hc => AM.Pure.Zex (hx.1.2 c hc).2.1) Zrb1 (show Go.AM.Lay.ok 0 W from ⟨rfl, Nat.zero_le _⟩) hA hv).mono fun e W' ⟨he, bel⟩ => ?_
  subst he
  exact ⟨_, rfl, _, _, _, [], _, [], hW', trodAll_mk1 (shut_bool Tryz.underlying4 _), NO laidOut bel (by kernel_rfl) hA, rfl, bel.frame _, fun h => by cases h⟩
theorem over : Rows.siftGathersRow.holds Tryz.pinned (OpenSpec.ofChange Rows.siftGathersSpec) :=
  OpenClaim.holds_of_wide 3 Tryz.f3 rfl rfl rfl rfl rfl rfl rfl ⟨rfl, rfl, rfl, rfl, rfl⟩ rfl rfl rfl rfl rfl (by kernel_rfl) Tryz.func3 (by kernel_rfl)
    (of_decide_eq_true (by kernel_rfl)) (by unfold Func.isWrapper; first | (rw [if_pos (by decide +kernel)]; kernel_rfl) | (rw [if_neg (by decide +kernel)]; exact ⟨rfl, rfl⟩))
    (fun os started H enc _ => lifted os started H enc)
theorem proved : Rows.SiftGathersSaid := over
#print axioms proved
end Go.Proofs.YtclpadlpcfnfmaaGreat.siftGathers
namespace Go.Proofs.YtclpadlpcfnfmaaGreat
theorem siftGathers_holds : Rows.SiftGathersSaid := siftGathers.proved
end Go.Proofs.YtclpadlpcfnfmaaGreat
