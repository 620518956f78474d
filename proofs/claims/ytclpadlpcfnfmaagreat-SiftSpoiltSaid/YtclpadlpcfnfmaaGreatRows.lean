/-
  No cell of these rows narrows 'for every input' (looked for: loops, veiled, ifaces, maps, wideKeys, modest, calm, conditions, laid).
  DERIVED. THE GIVEN ROWS OF THIS SEAT. 4 by the template 'for every input the law returns true; each argument reads behind the call as it read before'; 0 by the template 'total and deterministic' (their statements: YtclpadlpcfnfmaaGreatTotals.lean).
  GIVEN WITH THE SEED: the statements are not yours to turn. If you find one false, say at which input.
  Laid BY PROGRAM, IN A SANDBOX (cutbox-rows.mjs): the forced cells as the released guide's own fill.sh prints them over the translation 55f5c784d4edb878… (all of the seat's roots in one cut). By AI agents, Wed Nov 11 2026. No macro, syntax, notation, axiom, sorry.
-/
import Derived.Test.YtclpadlpcfnfmaaGreatChecked
import GoSem.Claim
import GoSem.ClaimJoined
import GoSem.ClaimMapViews
import Derived.JoinedTies
import Derived.KernelRfl
namespace Go.Proofs.YtclpadlpcfnfmaaGreat
/- THE CELL 'sum', in the pinned program and in every row, IS THE sha256 OF THE DUMP (.gsa) THAT YtclpadlpcfnfmaaGreatProg.lean LOADS. Nothing in Lean hashes anything: it is a label: what it is worth is what the hold of that sum in a sandbox is worth. -/
noncomputable def Tryz.pinned : Pinned := { name := "ytclpadlpcfnfmaagreat", sum := "55f5c784d4edb878626bf96da57f616cb15bbff1627a1bd0021e406153fc4635", checked := Tryz.checked }
namespace Rows
def none {H : Type} : Left H := { results := [], args := [] }

/-- 'peristylelaw18.SiftGathers': WHATEVER THE INPUT: true; the input reads as it did. -/
def siftGathersSpec : ChangeSpec := { name := "siftGathers", fn := fun _ => fun
  | [d1, d2, d3] => { results := [.lit (.bool true)], args := [d1, d2, d3] }
  | _ => none }
def siftGathersRow : OpenClaim := { program := "ytclpadlpcfnfmaagreat", sum := "55f5c784d4edb878626bf96da57f616cb15bbff1627a1bd0021e406153fc4635", func := "peristyle/peristylelaw18.SiftGathers", spec := "siftGathers", inPlace := ["internal/abi.NoEscape", "internal/bytealg.abigen_runtime_cmpstring"], unfollowed := true, recurses := true, apart := false }
def SiftGathersSaid : Prop := siftGathersRow.holds Tryz.pinned (OpenSpec.ofChange siftGathersSpec)

/-- ITS FALSE NEIGHBOUR: 'it returns false'. Refute it at one input. -/
def siftGathersWrong : ChangeSpec := { name := "siftGathers", fn := fun _ => fun
  | [d1, d2, d3] => { results := [.lit (.bool false)], args := [d1, d2, d3] }
  | _ => none }
def SiftGathersWrongFalsely : Prop := siftGathersRow.holds Tryz.pinned (OpenSpec.ofChange siftGathersWrong)

/-- 'peristylelaw18.SiftSpoilt': WHATEVER THE INPUT: true; the input reads as it did. -/
def siftSpoiltSpec : ChangeSpec := { name := "siftSpoilt", fn := fun _ => fun
  | [d1, d2, d3] => { results := [.lit (.bool true)], args := [d1, d2, d3] }
  | _ => none }
def siftSpoiltRow : OpenClaim := { program := "ytclpadlpcfnfmaagreat", sum := "55f5c784d4edb878626bf96da57f616cb15bbff1627a1bd0021e406153fc4635", func := "peristyle/peristylelaw18.SiftSpoilt", spec := "siftSpoilt", inPlace := ["internal/abi.NoEscape", "internal/bytealg.abigen_runtime_cmpstring"], unfollowed := true, recurses := true, apart := false }
def SiftSpoiltSaid : Prop := siftSpoiltRow.holds Tryz.pinned (OpenSpec.ofChange siftSpoiltSpec)

/-- ITS FALSE NEIGHBOUR: 'it returns false'. Refute it at one input. -/
def siftSpoiltWrong : ChangeSpec := { name := "siftSpoilt", fn := fun _ => fun
  | [d1, d2, d3] => { results := [.lit (.bool false)], args := [d1, d2, d3] }
  | _ => none }
def SiftSpoiltWrongFalsely : Prop := siftSpoiltRow.holds Tryz.pinned (OpenSpec.ofChange siftSpoiltWrong)

/-- 'peristylelaw18.SiftBlocks': WHATEVER THE INPUT: true; the input reads as it did. -/
def siftBlocksSpec : ChangeSpec := { name := "siftBlocks", fn := fun _ => fun
  | [d1, d2, d3] => { results := [.lit (.bool true)], args := [d1, d2, d3] }
  | _ => none }
def siftBlocksRow : OpenClaim := { program := "ytclpadlpcfnfmaagreat", sum := "55f5c784d4edb878626bf96da57f616cb15bbff1627a1bd0021e406153fc4635", func := "peristyle/peristylelaw18.SiftBlocks", spec := "siftBlocks", inPlace := ["internal/abi.NoEscape", "internal/bytealg.abigen_runtime_cmpstring"], unfollowed := true, recurses := true, apart := false }
def SiftBlocksSaid : Prop := siftBlocksRow.holds Tryz.pinned (OpenSpec.ofChange siftBlocksSpec)

/-- ITS FALSE NEIGHBOUR: 'it returns false'. Refute it at one input. -/
def siftBlocksWrong : ChangeSpec := { name := "siftBlocks", fn := fun _ => fun
  | [d1, d2, d3] => { results := [.lit (.bool false)], args := [d1, d2, d3] }
  | _ => none }
def SiftBlocksWrongFalsely : Prop := siftBlocksRow.holds Tryz.pinned (OpenSpec.ofChange siftBlocksWrong)

/-- 'peristylelaw18.SiftParts': WHATEVER THE INPUT: true; the input reads as it did. -/
def siftPartsSpec : ChangeSpec := { name := "siftParts", fn := fun _ => fun
  | [d1, d2, d3] => { results := [.lit (.bool true)], args := [d1, d2, d3] }
  | _ => none }
def siftPartsRow : OpenClaim := { program := "ytclpadlpcfnfmaagreat", sum := "55f5c784d4edb878626bf96da57f616cb15bbff1627a1bd0021e406153fc4635", func := "peristyle/peristylelaw18.SiftParts", spec := "siftParts", inPlace := ["internal/abi.NoEscape", "internal/bytealg.abigen_runtime_cmpstring"], unfollowed := true, recurses := true, apart := false }
def SiftPartsSaid : Prop := siftPartsRow.holds Tryz.pinned (OpenSpec.ofChange siftPartsSpec)

/-- ITS FALSE NEIGHBOUR: 'it returns false'. Refute it at one input. -/
def siftPartsWrong : ChangeSpec := { name := "siftParts", fn := fun _ => fun
  | [d1, d2, d3] => { results := [.lit (.bool false)], args := [d1, d2, d3] }
  | _ => none }
def SiftPartsWrongFalsely : Prop := siftPartsRow.holds Tryz.pinned (OpenSpec.ofChange siftPartsWrong)

/- THE SECOND FORM. 'bulk': how many values and letters a reading holds, each counted each time it is reached (what is shared counts as often as it is met; a slice's spare places count too). A statement '..UptoSaid' is the law's where the arguments, and the package variables that the reading takes, are together of bulk at most 1048576: NARROWER than '..Said'. Prove '..Said' where nothing that the law and all that it calls make is longer than what came in: it says more and counts as full. Else prove '..UptoSaid'. A law counts once. -/
mutual
def uptoBulk {H : Type} : DataW H → Nat
  | .lit (.string bytes) => bytes.length + 1
  | .lit _ => 1
  | .nil => 1
  | .ptr d => uptoBulk d + 1
  | .slice elems spare => uptoBulkAll elems + uptoBulkAll spare + 1
  | .agg parts => uptoBulkAll parts + 1
  | .iface _ d => uptoBulk d + 1
  | .map entries => uptoBulkEntries entries + 1
  | .held _ => 1
def uptoBulkAll {H : Type} : List (DataW H) → Nat
  | [] => 0
  | d :: r => uptoBulk d + uptoBulkAll r
def uptoBulkEntries {H : Type} : List (Lit × DataW H) → Nat
  | [] => 0
  | x :: r => uptoBulkEntry x + uptoBulkEntries r
def uptoBulkEntry {H : Type} : Lit × DataW H → Nat
  | (.string bytes, d) => bytes.length + uptoBulk d + 1
  | (_, d) => uptoBulk d + 1
 end
def uptoSmall : (H : Type) → List (DataW H) → Bool := fun _ ds => decide (uptoBulkAll ds ≤ 1048576)
def OpenSpec.upto (s : _root_.Go.ChangeSpec) : _root_.Go.OpenSpec := { _root_.Go.OpenSpec.ofChange s with cond := some uptoSmall }

/-- 'peristylelaw18.SiftGathers', WHERE WHAT IT READS IS OF BULK AT MOST 1048576: true; the input reads as it did. -/
def siftGathersUptoRow : OpenClaim := { program := "ytclpadlpcfnfmaagreat", sum := "55f5c784d4edb878626bf96da57f616cb15bbff1627a1bd0021e406153fc4635", func := "peristyle/peristylelaw18.SiftGathers", spec := "siftGathers", inPlace := ["internal/abi.NoEscape", "internal/bytealg.abigen_runtime_cmpstring"], unfollowed := true, recurses := true, apart := false, narrowed := true }
def SiftGathersUptoSaid : Prop := siftGathersUptoRow.holds Tryz.pinned (OpenSpec.upto siftGathersSpec)

/-- 'peristylelaw18.SiftSpoilt', WHERE WHAT IT READS IS OF BULK AT MOST 1048576: true; the input reads as it did. -/
def siftSpoiltUptoRow : OpenClaim := { program := "ytclpadlpcfnfmaagreat", sum := "55f5c784d4edb878626bf96da57f616cb15bbff1627a1bd0021e406153fc4635", func := "peristyle/peristylelaw18.SiftSpoilt", spec := "siftSpoilt", inPlace := ["internal/abi.NoEscape", "internal/bytealg.abigen_runtime_cmpstring"], unfollowed := true, recurses := true, apart := false, narrowed := true }
def SiftSpoiltUptoSaid : Prop := siftSpoiltUptoRow.holds Tryz.pinned (OpenSpec.upto siftSpoiltSpec)

/-- 'peristylelaw18.SiftBlocks', WHERE WHAT IT READS IS OF BULK AT MOST 1048576: true; the input reads as it did. -/
def siftBlocksUptoRow : OpenClaim := { program := "ytclpadlpcfnfmaagreat", sum := "55f5c784d4edb878626bf96da57f616cb15bbff1627a1bd0021e406153fc4635", func := "peristyle/peristylelaw18.SiftBlocks", spec := "siftBlocks", inPlace := ["internal/abi.NoEscape", "internal/bytealg.abigen_runtime_cmpstring"], unfollowed := true, recurses := true, apart := false, narrowed := true }
def SiftBlocksUptoSaid : Prop := siftBlocksUptoRow.holds Tryz.pinned (OpenSpec.upto siftBlocksSpec)

/-- 'peristylelaw18.SiftParts', WHERE WHAT IT READS IS OF BULK AT MOST 1048576: true; the input reads as it did. -/
def siftPartsUptoRow : OpenClaim := { program := "ytclpadlpcfnfmaagreat", sum := "55f5c784d4edb878626bf96da57f616cb15bbff1627a1bd0021e406153fc4635", func := "peristyle/peristylelaw18.SiftParts", spec := "siftParts", inPlace := ["internal/abi.NoEscape", "internal/bytealg.abigen_runtime_cmpstring"], unfollowed := true, recurses := true, apart := false, narrowed := true }
def SiftPartsUptoSaid : Prop := siftPartsUptoRow.holds Tryz.pinned (OpenSpec.upto siftPartsSpec)

end Rows
end Go.Proofs.YtclpadlpcfnfmaaGreat
