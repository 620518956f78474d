import Derived.Test.YtkfffcnililmkaaDoorAmPShow
import Derived.Test.YtkfffcnililmkaaDoorSPrf
import Derived.Test.YtkfffcnililmkaaDoorAmRow
import Derived.Test.YtkfffcnililmkaaDoorCards
import Derived.Test.YtkfffcnililmkaaDoorTie
import Derived.WalkKit
import Derived.ProofKit
import Derived.OpenShut
import Derived.ShutString
import Derived.ChangeOld
import Derived.Below
import Derived.SizedLaws
import Derived.Handy
import Derived.Lay
import Derived.SevenTiedAt
/- CellShows: the given row and card, out of the plain law and the function's contract. -/
namespace Go.Proofs.YtkfffcnililmkaaDoor.cellShows
open Go.ChangeShapes Go.WideShapes Go.ChangeAt Go.RowKit
open Go.AM (list1 list2 list3 list4 list5 law_calls trodAll_below trodAll_len DeepAll returns_laid)
open Go.Proofs.YtkfffcnililmkaaDoor.Am
theorem own : ownKnob Tryd.prog.godebug = none := by kernel_rfl
theorem laidOut : laidOutB Tryd.prog = true := by kernel_rfl
theorem deeps : DeepAll Tryd.prog [23, 9] [k23, k9] := ⟨deep23, ⟨deep9, trivial⟩⟩
noncomputable abbrev ld : List (String × DataW Unit) := Rows.cellShowsRow.laid
set_option maxRecDepth 100000 in
theorem lifted (os : Os) (started : os.Started) (H : Type) (enc : TypeId × Value → H) :
    ReturnsInHanded {} Tryd.checked os 5 .any (fun w args => (Rows.cellShowsSpec.pre enc Tryd.prog Tryd.f5 Rows.cellShowsRow.domain false w args ∧ laidMetH Tryd.prog ld w) ∧ sizedMet enc Tryd.prog Tryd.f5 (OpenSpec.ofChange Rows.cellShowsSpec) false w args) (Rows.cellShowsSpec.post enc Tryd.prog Tryd.f5 false true false false) := by
  refine returns_laid (C := Tryd.checked) (X := fun w _ => laidMetH Tryd.prog ld w) (fun _ _ _ hh h => h.of_heap hh) own started (by kernel_rfl) Tryd.func5
    (ChangeSpec.witness_shaped (enc := enc) (C := Tryd.checked) (os := os) (X := fun w _ => laidMetH Tryd.prog ld w) false (World.laidAll Tryd.prog os ld) #[.agg #[.int .i64 0, .int .i64 0, .string ByteArray.empty], .string ByteArray.empty] 8 (World.laidAll_os _ _ _)
      (World.shaped_of_ZipB (by kernel_rfl) (by kernel_rfl)) (by kernel_rfl) (by kernel_rfl) (by kernel_rfl)
      (by rw [MakeChecks.laidMetH_plain _ _ _ (by kernel_rfl)]; exact laidMet_laidAll _ (by kernel_rfl) (by kernel_rfl))) ?_
  intro W base args ds gs before hval0 hW hX hsh
  have hW' := hW
  obtain ⟨p, q, hA0, hV, rfl, _, _⟩ := hW
  have hA : DataW.TrodAll enc Tryd.prog W 0 (fun _ => true) true Tryd.f5.params.toList args.toList ds p := hA0
  have hval : ∀ (j : Nat) t v, Tryd.f5.params[j]? = some t → args[j]? = some v → Value.okWide Tryd.prog W .any base t v := hval0
  rw [Tryd.params5] at hA hval
  obtain ⟨rfl, rfl⟩ := trodVars_none hV
  obtain ⟨d0, d1, rfl⟩ := list2 (trodAll_len hA)
  have hv : ∀ (j : Nat) T v, ([23, 9] : List Nat)[j]? = some T → args[j]? = some v → Value.okWide Tryd.prog W .any base T v := fun j T v hT hv => hval j T v (by simpa using hT) hv
  have hl := layOf (l := ld) (by kernel_rfl) (by kernel_rfl) (by kernel_rfl) (by kernel_rfl) hX hsh
  refine (law_calls (ts := [k23, k9]) c_law06_CellShows (fun x hx => AM.Pure.cellShows_law x.1 x.2.1 (AM.Pure.in64_wf hx.1.2.1)) deeps hl hA hv).mono fun e W' ⟨he, bel⟩ => ?_
  subst he
  exact ⟨_, rfl, _, _, _, [], _, [], hW', trodAll_mk1 (shut_bool Tryd.underlying4 _), trodAll_below laidOut bel (by kernel_rfl) hA, rfl, bel.frame _, fun h => by cases h⟩
theorem over : Rows.CellShowsSaid :=
  OpenClaim.holds_of_wide 5 Tryd.f5 rfl rfl rfl rfl rfl rfl rfl ⟨rfl, rfl, rfl, rfl, rfl⟩ rfl rfl rfl rfl rfl (by kernel_rfl) Tryd.func5 (by kernel_rfl)
    (of_decide_eq_true (by kernel_rfl)) (by unfold Func.isWrapper; first | (rw [if_pos (by decide +kernel)]; kernel_rfl) | (rw [if_neg (by decide +kernel)]; exact ⟨rfl, rfl⟩))
    (fun os started H enc _ => lifted os started H enc)
theorem proved : Rows.CellShowsCardSaid :=
  Claim7.holds_tied_plain_at .later [] [.data, .data, .data, .data, .sentinel, .sentinel, .pinned] true (true, "2fe5e0339f2c70901d805d71c27b95427842bc738a31c7abe13e8f3c483ec67f") true over (fun _ h => by cases h) (by kernel_rfl) (fun _ h => by cases h) cellShows_row_tie rfl ⟨rfl, rfl⟩ (by kernel_rfl) rfl
    (fun f fn hf hfn => by
      obtain rfl : f = 5 := Option.some.inj ((show Tryd.prog.funcNamed "peristyle/peristylelaw06.CellShows" = some 5 by kernel_rfl).symm.trans hf) |>.symm
      obtain rfl : fn = Tryd.f5 := (Option.some.inj (Tryd.func5.symm.trans hfn)).symm
      exact ⟨by kernel_rfl, fun j t ht => by
        rw [Tryd.params5] at ht
        have hm : t ∈ [23, 9] := by simpa using Array.mem_of_getElem? ht
        have hall : ([23, 9].all fun u => !Tryd.prog.wantsStandIn u) = true := by kernel_rfl
        exact (show Tryd.prog.wantsStandIn t = false by simpa using List.all_eq_true.1 hall t hm)⟩)
    (by kernel_rfl)
#print axioms proved
end Go.Proofs.YtkfffcnililmkaaDoor.cellShows
namespace Go.Proofs.YtkfffcnililmkaaDoor
/-- The card, under a short name, for the claim. -/
theorem cellShows_holds : Rows.CellShowsCardSaid := cellShows.proved
end Go.Proofs.YtkfffcnililmkaaDoor
