import Derived.Test.YtboihdnijlilpaaGreatDoorAmP29
import Derived.Test.YtboihdnijlilpaaGreatDoorSPrf
import Derived.Test.YtboihdnijlilpaaGreatDoorAmRow
import Derived.Test.YtboihdnijlilpaaGreatDoorCards
import Derived.Test.YtboihdnijlilpaaGreatDoorTie
import Derived.WalkKit
import Derived.ProofKit
import Derived.OpenShut
import Derived.ShutString
import Derived.ChangeOld
import Derived.Below
import Derived.SizedLaws
import Derived.Handy
import Derived.Lay
import Derived.SevenTiedAt
/- LexTokens: the given row and card, out of the plain law and the function's contract. -/
namespace Go.Proofs.YtboihdnijlilpaaGreatDoor.lexTokens
open Go.ChangeShapes Go.WideShapes Go.ChangeAt Go.RowKit
open Go.AM (list1 list2 list3 list4 list5 law_calls trodAll_below trodAll_len DeepAll returns_laid)
open Go.Proofs.YtboihdnijlilpaaGreatDoor.Am
theorem own : ownKnob Tryz.prog.godebug = none := by kernel_rfl
theorem laidOut : laidOutB Tryz.prog = true := by kernel_rfl
theorem deeps : DeepAll Tryz.prog [9] [k9] := ⟨deep9, trivial⟩
noncomputable abbrev ld : List (String × DataW Unit) := Rows.lexTokensRow.laid
set_option maxRecDepth 100000 in
theorem lifted (os : Os) (started : os.Started) (H : Type) (enc : TypeId × Value → H) :
    ReturnsInHanded {} Tryz.checked os 3 .any (fun w args => (Rows.lexTokensSpec.pre enc Tryz.prog Tryz.f3 Rows.lexTokensRow.domain false w args ∧ laidMetH Tryz.prog ld w) ∧ sizedMet enc Tryz.prog Tryz.f3 (OpenSpec.ofChange Rows.lexTokensSpec) false w args) (Rows.lexTokensSpec.post enc Tryz.prog Tryz.f3 false true false false) := by
  refine returns_laid (C := Tryz.checked) (X := fun w _ => laidMetH Tryz.prog ld w) (fun _ _ _ hh h => h.of_heap hh) own started (by kernel_rfl) Tryz.func3
    (ChangeSpec.witness_shaped (enc := enc) (C := Tryz.checked) (os := os) (X := fun w _ => laidMetH Tryz.prog ld w) false (World.laidAll Tryz.prog os ld) #[.string ByteArray.empty] 8 (World.laidAll_os _ _ _)
      (World.shaped_of_ZipB (by kernel_rfl) (by kernel_rfl)) (by kernel_rfl) (by kernel_rfl) (by kernel_rfl)
      (by rw [MakeChecks.laidMetH_plain _ _ _ (by kernel_rfl)]; exact laidMet_laidAll _ (by kernel_rfl) (by kernel_rfl))) ?_
  intro W base args ds gs before hval0 hW hX hsh
  have hW' := hW
  obtain ⟨p, q, hA0, hV, rfl, _, _⟩ := hW
  have hA : DataW.TrodAll enc Tryz.prog W 0 (fun _ => true) true Tryz.f3.params.toList args.toList ds p := hA0
  have hval : ∀ (j : Nat) t v, Tryz.f3.params[j]? = some t → args[j]? = some v → Value.okWide Tryz.prog W .any base t v := hval0
  rw [Tryz.params3] at hA hval
  obtain ⟨rfl, rfl⟩ := trodVars_none hV
  obtain ⟨d0, rfl⟩ := list1 (trodAll_len hA)
  have hv : ∀ (j : Nat) T v, ([9] : List Nat)[j]? = some T → args[j]? = some v → Value.okWide Tryz.prog W .any base T v := fun j T v hT hv => hval j T v (by simpa using hT) hv
  have hl := layOf (l := ld) (by kernel_rfl) (by kernel_rfl) (by kernel_rfl) (by kernel_rfl) hX hsh
  refine (law_calls (ts := [k9]) c_law29_LexTokens (fun x hx => AM.Pure.lexTokens_law x.1) deeps hl hA hv).mono fun e W' ⟨he, bel⟩ => ?_
  subst he
  exact ⟨_, rfl, _, _, _, [], _, [], hW', trodAll_mk1 (shut_bool Tryz.underlying4 _), trodAll_below laidOut bel (by kernel_rfl) hA, rfl, bel.frame _, fun h => by cases h⟩
theorem over : Rows.LexTokensSaid :=
  OpenClaim.holds_of_wide 3 Tryz.f3 rfl rfl rfl rfl rfl rfl rfl ⟨rfl, rfl, rfl, rfl, rfl⟩ rfl rfl rfl rfl rfl (by kernel_rfl) Tryz.func3 (by kernel_rfl)
    (of_decide_eq_true (by kernel_rfl)) (by unfold Func.isWrapper; first | (rw [if_pos (by decide +kernel)]; kernel_rfl) | (rw [if_neg (by decide +kernel)]; exact ⟨rfl, rfl⟩))
    (fun os started H enc _ => lifted os started H enc)
theorem proved : Rows.LexTokensCardSaid :=
  Claim7.holds_tied_plain_at .later [] [.data, .data, .data, .data, .sentinel, .sentinel, .pinned] true (true, "6a4ba8af1b9b151d1493e6b2ad0d4cda5e3c86a674700a3075475a0181e11afd") true over (fun _ h => by cases h) (by kernel_rfl) (fun _ h => by cases h) lexTokens_row_tie rfl ⟨rfl, rfl⟩ (by kernel_rfl) rfl
    (fun f fn hf hfn => by
      obtain rfl : f = 3 := Option.some.inj ((show Tryz.prog.funcNamed "peristyle/peristylelaw29.LexTokens" = some 3 by kernel_rfl).symm.trans hf) |>.symm
      obtain rfl : fn = Tryz.f3 := (Option.some.inj (Tryz.func3.symm.trans hfn)).symm
      exact ⟨by kernel_rfl, fun j t ht => by
        rw [Tryz.params3] at ht
        have hm : t ∈ [9] := by simpa using Array.mem_of_getElem? ht
        have hall : ([9].all fun u => !Tryz.prog.wantsStandIn u) = true := by kernel_rfl
        exact (show Tryz.prog.wantsStandIn t = false by simpa using List.all_eq_true.1 hall t hm)⟩)
    (by kernel_rfl)
#print axioms proved
end Go.Proofs.YtboihdnijlilpaaGreatDoor.lexTokens
namespace Go.Proofs.YtboihdnijlilpaaGreatDoor
/-- The card, under a short name, for the claim. -/
theorem lexTokens_holds : Rows.LexTokensCardSaid := lexTokens.proved
end Go.Proofs.YtboihdnijlilpaaGreatDoor
