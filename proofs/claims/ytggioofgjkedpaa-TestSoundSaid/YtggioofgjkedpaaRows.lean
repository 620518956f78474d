/-
  No cell of these rows narrows 'for every input' (looked for: loops, veiled, ifaces, maps, wideKeys, modest, calm, conditions, laid).
  DERIVED. THE GIVEN ROWS OF THIS SEAT. 4 by the template 'for every input the law returns true; each argument reads behind the call as it read before'; 0 by the template 'total and deterministic' (their statements: YtggioofgjkedpaaTotals.lean).
  GIVEN WITH THE SEED: the statements are not yours to turn. If you find one false, say at which input.
  Laid BY PROGRAM, IN A SANDBOX (cutbox-rows.mjs): the forced cells as the released guide's own fill.sh prints them over the translation 51a12669233fb8fe… (all of the seat's roots in one cut). By AI agents, Wed Nov 11 2026. No macro, syntax, notation, axiom, sorry.
-/
import Derived.Test.YtggioofgjkedpaaChecked
import GoSem.Claim
import GoSem.ClaimJoined
import GoSem.ClaimMapViews
import Derived.JoinedTies
import Derived.KernelRfl
namespace Go.Proofs.Ytggioofgjkedpaa
/- THE CELL 'sum', in the pinned program and in every row, IS THE sha256 OF THE DUMP (.gsa) THAT YtggioofgjkedpaaProg.lean LOADS. Nothing in Lean hashes anything: it is a label: what it is worth is what the hold of that sum in a sandbox is worth. -/
noncomputable def Try.pinned : Pinned := { name := "ytggioofgjkedpaa", sum := "51a12669233fb8fe767754fe4389dd0d6ad7288af41003aa5b2560716a784c6a", checked := Try.checked }
namespace Rows
def none {H : Type} : Left H := { results := [], args := [] }

/-- 'peristylelaw17.TestMatches': WHATEVER THE INPUT: true; the input reads as it did. -/
def testMatchesSpec : ChangeSpec := { name := "testMatches", fn := fun _ => fun
  | [d1, d2] => { results := [.lit (.bool true)], args := [d1, d2] }
  | _ => none }
def testMatchesRow : OpenClaim := { program := "ytggioofgjkedpaa", sum := "51a12669233fb8fe767754fe4389dd0d6ad7288af41003aa5b2560716a784c6a", func := "peristyle/peristylelaw17.TestMatches", spec := "testMatches", inPlace := ["internal/bytealg.abigen_runtime_cmpstring"], unfollowed := true, recurses := true, apart := false }
def TestMatchesSaid : Prop := testMatchesRow.holds Try.pinned (OpenSpec.ofChange testMatchesSpec)

/-- ITS FALSE NEIGHBOUR: 'it returns false'. Refute it at one input. -/
def testMatchesWrong : ChangeSpec := { name := "testMatches", fn := fun _ => fun
  | [d1, d2] => { results := [.lit (.bool false)], args := [d1, d2] }
  | _ => none }
def TestMatchesWrongFalsely : Prop := testMatchesRow.holds Try.pinned (OpenSpec.ofChange testMatchesWrong)

/-- 'peristylelaw17.TestZones': WHATEVER THE INPUT: true; the input reads as it did. -/
def testZonesSpec : ChangeSpec := { name := "testZones", fn := fun _ => fun
  | [d1, d2] => { results := [.lit (.bool true)], args := [d1, d2] }
  | _ => none }
def testZonesRow : OpenClaim := { program := "ytggioofgjkedpaa", sum := "51a12669233fb8fe767754fe4389dd0d6ad7288af41003aa5b2560716a784c6a", func := "peristyle/peristylelaw17.TestZones", spec := "testZones", inPlace := ["internal/bytealg.abigen_runtime_cmpstring"], unfollowed := true, recurses := true, apart := false }
def TestZonesSaid : Prop := testZonesRow.holds Try.pinned (OpenSpec.ofChange testZonesSpec)

/-- ITS FALSE NEIGHBOUR: 'it returns false'. Refute it at one input. -/
def testZonesWrong : ChangeSpec := { name := "testZones", fn := fun _ => fun
  | [d1, d2] => { results := [.lit (.bool false)], args := [d1, d2] }
  | _ => none }
def TestZonesWrongFalsely : Prop := testZonesRow.holds Try.pinned (OpenSpec.ofChange testZonesWrong)

/-- 'peristylelaw17.TestSound': WHATEVER THE INPUT: true; the input reads as it did. -/
def testSoundSpec : ChangeSpec := { name := "testSound", fn := fun _ => fun
  | [d1, d2] => { results := [.lit (.bool true)], args := [d1, d2] }
  | _ => none }
def testSoundRow : OpenClaim := { program := "ytggioofgjkedpaa", sum := "51a12669233fb8fe767754fe4389dd0d6ad7288af41003aa5b2560716a784c6a", func := "peristyle/peristylelaw17.TestSound", spec := "testSound", inPlace := ["internal/bytealg.abigen_runtime_cmpstring"], unfollowed := true, recurses := true, apart := false }
def TestSoundSaid : Prop := testSoundRow.holds Try.pinned (OpenSpec.ofChange testSoundSpec)

/-- ITS FALSE NEIGHBOUR: 'it returns false'. Refute it at one input. -/
def testSoundWrong : ChangeSpec := { name := "testSound", fn := fun _ => fun
  | [d1, d2] => { results := [.lit (.bool false)], args := [d1, d2] }
  | _ => none }
def TestSoundWrongFalsely : Prop := testSoundRow.holds Try.pinned (OpenSpec.ofChange testSoundWrong)

/-- 'peristylelaw17.TestBounds': WHATEVER THE INPUT: true; the input reads as it did. -/
def testBoundsSpec : ChangeSpec := { name := "testBounds", fn := fun _ => fun
  | [d1, d2] => { results := [.lit (.bool true)], args := [d1, d2] }
  | _ => none }
def testBoundsRow : OpenClaim := { program := "ytggioofgjkedpaa", sum := "51a12669233fb8fe767754fe4389dd0d6ad7288af41003aa5b2560716a784c6a", func := "peristyle/peristylelaw17.TestBounds", spec := "testBounds", inPlace := ["internal/bytealg.abigen_runtime_cmpstring"], unfollowed := true, recurses := true, apart := false }
def TestBoundsSaid : Prop := testBoundsRow.holds Try.pinned (OpenSpec.ofChange testBoundsSpec)

/-- ITS FALSE NEIGHBOUR: 'it returns false'. Refute it at one input. -/
def testBoundsWrong : ChangeSpec := { name := "testBounds", fn := fun _ => fun
  | [d1, d2] => { results := [.lit (.bool false)], args := [d1, d2] }
  | _ => none }
def TestBoundsWrongFalsely : Prop := testBoundsRow.holds Try.pinned (OpenSpec.ofChange testBoundsWrong)

/- THE SECOND FORM. 'bulk': how many values and letters a reading holds, each counted each time it is reached (what is shared counts as often as it is met; a slice's spare places count too). A statement '..UptoSaid' is the law's where the arguments, and the package variables that the reading takes, are together of bulk at most 1048576: NARROWER than '..Said'. Prove '..Said' where nothing that the law and all that it calls make is longer than what came in: it says more and counts as full. Else prove '..UptoSaid'. A law counts once. -/
mutual
def uptoBulk {H : Type} : DataW H → Nat
  | .lit (.string bytes) => bytes.length + 1
  | .lit _ => 1
  | .nil => 1
  | .ptr d => uptoBulk d + 1
  | .slice elems spare => uptoBulkAll elems + uptoBulkAll spare + 1
  | .agg parts => uptoBulkAll parts + 1
  | .iface _ d => uptoBulk d + 1
  | .map entries => uptoBulkEntries entries + 1
  | .held _ => 1
def uptoBulkAll {H : Type} : List (DataW H) → Nat
  | [] => 0
  | d :: r => uptoBulk d + uptoBulkAll r
def uptoBulkEntries {H : Type} : List (Lit × DataW H) → Nat
  | [] => 0
  | x :: r => uptoBulkEntry x + uptoBulkEntries r
def uptoBulkEntry {H : Type} : Lit × DataW H → Nat
  | (.string bytes, d) => bytes.length + uptoBulk d + 1
  | (_, d) => uptoBulk d + 1
 end
def uptoSmall : (H : Type) → List (DataW H) → Bool := fun _ ds => decide (uptoBulkAll ds ≤ 1048576)
def OpenSpec.upto (s : _root_.Go.ChangeSpec) : _root_.Go.OpenSpec := { _root_.Go.OpenSpec.ofChange s with cond := some uptoSmall }

/-- 'peristylelaw17.TestMatches', WHERE WHAT IT READS IS OF BULK AT MOST 1048576: true; the input reads as it did. -/
def testMatchesUptoRow : OpenClaim := { program := "ytggioofgjkedpaa", sum := "51a12669233fb8fe767754fe4389dd0d6ad7288af41003aa5b2560716a784c6a", func := "peristyle/peristylelaw17.TestMatches", spec := "testMatches", inPlace := ["internal/bytealg.abigen_runtime_cmpstring"], unfollowed := true, recurses := true, apart := false, narrowed := true }
def TestMatchesUptoSaid : Prop := testMatchesUptoRow.holds Try.pinned (OpenSpec.upto testMatchesSpec)

/-- 'peristylelaw17.TestZones', WHERE WHAT IT READS IS OF BULK AT MOST 1048576: true; the input reads as it did. -/
def testZonesUptoRow : OpenClaim := { program := "ytggioofgjkedpaa", sum := "51a12669233fb8fe767754fe4389dd0d6ad7288af41003aa5b2560716a784c6a", func := "peristyle/peristylelaw17.TestZones", spec := "testZones", inPlace := ["internal/bytealg.abigen_runtime_cmpstring"], unfollowed := true, recurses := true, apart := false, narrowed := true }
def TestZonesUptoSaid : Prop := testZonesUptoRow.holds Try.pinned (OpenSpec.upto testZonesSpec)

/-- 'peristylelaw17.TestSound', WHERE WHAT IT READS IS OF BULK AT MOST 1048576: true; the input reads as it did. -/
def testSoundUptoRow : OpenClaim := { program := "ytggioofgjkedpaa", sum := "51a12669233fb8fe767754fe4389dd0d6ad7288af41003aa5b2560716a784c6a", func := "peristyle/peristylelaw17.TestSound", spec := "testSound", inPlace := ["internal/bytealg.abigen_runtime_cmpstring"], unfollowed := true, recurses := true, apart := false, narrowed := true }
def TestSoundUptoSaid : Prop := testSoundUptoRow.holds Try.pinned (OpenSpec.upto testSoundSpec)

/-- 'peristylelaw17.TestBounds', WHERE WHAT IT READS IS OF BULK AT MOST 1048576: true; the input reads as it did. -/
def testBoundsUptoRow : OpenClaim := { program := "ytggioofgjkedpaa", sum := "51a12669233fb8fe767754fe4389dd0d6ad7288af41003aa5b2560716a784c6a", func := "peristyle/peristylelaw17.TestBounds", spec := "testBounds", inPlace := ["internal/bytealg.abigen_runtime_cmpstring"], unfollowed := true, recurses := true, apart := false, narrowed := true }
def TestBoundsUptoSaid : Prop := testBoundsUptoRow.holds Try.pinned (OpenSpec.upto testBoundsSpec)

end Rows
end Go.Proofs.Ytggioofgjkedpaa
