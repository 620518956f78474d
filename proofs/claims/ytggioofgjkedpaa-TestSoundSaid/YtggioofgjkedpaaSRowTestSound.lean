/- TestSound: the given row, out of the plain law and the function's contract. -/
import Derived.Test.YtggioofgjkedpaaRows
import Derived.Test.YtggioofgjkedpaaSPrf
import Derived.Test.YtggioofgjkedpaaAmPTest
import Derived.Test.YtggioofgjkedpaaAmRow
import Derived.WalkKit
import Derived.ProofKit
import Derived.OpenShut
import Derived.ShutString
import Derived.ChangeOld
import Derived.Below
import Derived.SizedLaws
namespace Go.Proofs.Ytggioofgjkedpaa.testSound
open Go.ChangeShapes Go.WideShapes Go.ChangeAt Go.RowKit
open Go.AM (list1 list2 list3 list4 list5 law_calls trodAll_below trodAll_len DeepAll)
open Go.Proofs.Ytggioofgjkedpaa.Am
theorem own : ownKnob Try.prog.godebug = none := by kernel_rfl
theorem laidOut : laidOutB Try.prog = true := by kernel_rfl
theorem deeps : DeepAll Try.prog [25, 31] [k25, k31] := ⟨deep25, ⟨deep31, trivial⟩⟩
theorem lifted (os : Os) (started : os.Started) (H : Type) (enc : TypeId × Value → H) :
    ReturnsInHanded {} Try.checked os 5 .any (Rows.testSoundSpec.pre6 enc Try.prog Try.f5 Rows.testSoundRow.domain false) (Rows.testSoundSpec.post enc Try.prog Try.f5 false true false false) := by
  refine returnsInHanded_of_change_sized (C := Try.checked) own started (by kernel_rfl) Try.func5
    (ChangeSpec.witness6 (enc := enc) (C := Try.checked) false ⟨#[], #[.agg #[.int .i64 0, .int .i64 0, .int .i64 0, .string ByteArray.empty], .slice none 0 0], []⟩ 8 (by kernel_rfl) (by kernel_rfl) (by kernel_rfl) (by kernel_rfl)) ?_
  intro W base args ds gs before hval0 hW _ _ _
  have hW' := hW
  obtain ⟨p, q, hA0, hV, rfl, _, _⟩ := hW
  have hA : DataW.TrodAll enc Try.prog W 0 (fun _ => true) true Try.f5.params.toList args.toList ds p := hA0
  have hval : ∀ (j : Nat) t v, Try.f5.params[j]? = some t → args[j]? = some v → Value.okWide Try.prog W .any base t v := hval0
  rw [Try.params5] at hA hval
  obtain ⟨rfl, rfl⟩ := trodVars_none hV
  obtain ⟨d0, d1, rfl⟩ := list2 (trodAll_len hA)
  have hv : ∀ (j : Nat) T v, ([25, 31] : List Nat)[j]? = some T → args[j]? = some v → Value.okWide Try.prog W .any base T v := fun j T v hT hv => hval j T v (by simpa using hT) hv
  refine (law_calls (ts := [k25, k31]) c_law17_TestSound (fun x hx => AM.Pure.testSound x.1 x.2.1) deeps hA hv).mono fun e W' ⟨he, bel⟩ => ?_
  subst he
  exact ⟨_, rfl, _, _, _, [], _, [], hW', trodAll_mk1 (shut_bool Try.underlying4 _), trodAll_below laidOut bel (by kernel_rfl) hA, rfl, bel.frame _, fun h => by cases h⟩
theorem over : Rows.testSoundRow.holds Try.pinned (OpenSpec.ofChange Rows.testSoundSpec) :=
  OpenClaim.holds_of_wide 5 Try.f5 rfl rfl rfl rfl rfl rfl rfl ⟨rfl, rfl, rfl, rfl, rfl⟩ rfl rfl rfl rfl rfl (by kernel_rfl) Try.func5 (by kernel_rfl)
    (of_decide_eq_true (by kernel_rfl)) (by unfold Func.isWrapper; first | (rw [if_pos (by decide +kernel)]; kernel_rfl) | (rw [if_neg (by decide +kernel)]; exact ⟨rfl, rfl⟩))
    (fun os started H enc _ => lifted os started H enc)
theorem proved : Rows.TestSoundSaid := over
#print axioms proved
end Go.Proofs.Ytggioofgjkedpaa.testSound
namespace Go.Proofs.Ytggioofgjkedpaa
/-- The row, under a short name, for the claim. -/
theorem testSound_holds : Rows.TestSoundSaid := testSound.proved
end Go.Proofs.Ytggioofgjkedpaa
