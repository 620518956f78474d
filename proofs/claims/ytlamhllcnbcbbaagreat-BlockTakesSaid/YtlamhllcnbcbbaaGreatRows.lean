/-
  No cell of these rows narrows 'for every input' (looked for: loops, veiled, ifaces, maps, wideKeys, modest, calm, conditions, laid).
  DERIVED. THE GIVEN ROWS OF THIS SEAT. 5 by the template 'for every input the law returns true; each argument reads behind the call as it read before'; 0 by the template 'total and deterministic' (their statements: YtlamhllcnbcbbaaGreatTotals.lean).
  GIVEN WITH THE SEED: the statements are not yours to turn. If you find one false, say at which input.
  Laid BY PROGRAM, IN A SANDBOX (cutbox-rows.mjs): the forced cells as the released guide's own fill.sh prints them over the translation b6aed88a57b918db… (all of the seat's roots in one cut). By AI agents, Wed Nov 11 2026. No macro, syntax, notation, axiom, sorry.
-/
import Derived.Test.YtlamhllcnbcbbaaGreatChecked
import GoSem.Claim
import GoSem.ClaimJoined
import GoSem.ClaimMapViews
import Derived.JoinedTies
import Derived.KernelRfl
namespace Go.Proofs.YtlamhllcnbcbbaaGreat
/- THE CELL 'sum', in the pinned program and in every row, IS THE sha256 OF THE DUMP (.gsa) THAT YtlamhllcnbcbbaaGreatProg.lean LOADS. Nothing in Lean hashes anything: it is a label: what it is worth is what the hold of that sum in a sandbox is worth. -/
noncomputable def Tryz.pinned : Pinned := { name := "ytlamhllcnbcbbaagreat", sum := "b6aed88a57b918db8ad549e4bd5cc985ba8bde571acde92e8f23e04c157e5b6e", checked := Tryz.checked }
namespace Rows
def none {H : Type} : Left H := { results := [], args := [] }

/-- 'peristylelaw13.BlockPuts': WHATEVER THE INPUT: true; the input reads as it did. -/
def blockPutsSpec : ChangeSpec := { name := "blockPuts", fn := fun _ => fun
  | [d1, d2, d3] => { results := [.lit (.bool true)], args := [d1, d2, d3] }
  | _ => none }
def blockPutsRow : OpenClaim := { program := "ytlamhllcnbcbbaagreat", sum := "b6aed88a57b918db8ad549e4bd5cc985ba8bde571acde92e8f23e04c157e5b6e", func := "peristyle/peristylelaw13.BlockPuts", spec := "blockPuts", inPlace := ["internal/abi.NoEscape"], unfollowed := true, recurses := true, apart := false }
def BlockPutsSaid : Prop := blockPutsRow.holds Tryz.pinned (OpenSpec.ofChange blockPutsSpec)

/-- ITS FALSE NEIGHBOUR: 'it returns false'. Refute it at one input. -/
def blockPutsWrong : ChangeSpec := { name := "blockPuts", fn := fun _ => fun
  | [d1, d2, d3] => { results := [.lit (.bool false)], args := [d1, d2, d3] }
  | _ => none }
def BlockPutsWrongFalsely : Prop := blockPutsRow.holds Tryz.pinned (OpenSpec.ofChange blockPutsWrong)

/-- 'peristylelaw13.BlockSame': WHATEVER THE INPUT: true; the input reads as it did. -/
def blockSameSpec : ChangeSpec := { name := "blockSame", fn := fun _ => fun
  | [d1, d2] => { results := [.lit (.bool true)], args := [d1, d2] }
  | _ => none }
def blockSameRow : OpenClaim := { program := "ytlamhllcnbcbbaagreat", sum := "b6aed88a57b918db8ad549e4bd5cc985ba8bde571acde92e8f23e04c157e5b6e", func := "peristyle/peristylelaw13.BlockSame", spec := "blockSame", inPlace := ["internal/abi.NoEscape"], unfollowed := true, recurses := true, apart := false }
def BlockSameSaid : Prop := blockSameRow.holds Tryz.pinned (OpenSpec.ofChange blockSameSpec)

/-- ITS FALSE NEIGHBOUR: 'it returns false'. Refute it at one input. -/
def blockSameWrong : ChangeSpec := { name := "blockSame", fn := fun _ => fun
  | [d1, d2] => { results := [.lit (.bool false)], args := [d1, d2] }
  | _ => none }
def BlockSameWrongFalsely : Prop := blockSameRow.holds Tryz.pinned (OpenSpec.ofChange blockSameWrong)

/-- 'peristylelaw13.BlockTakes': WHATEVER THE INPUT: true; the input reads as it did. -/
def blockTakesSpec : ChangeSpec := { name := "blockTakes", fn := fun _ => fun
  | [d] => { results := [.lit (.bool true)], args := [d] }
  | _ => none }
def blockTakesRow : OpenClaim := { program := "ytlamhllcnbcbbaagreat", sum := "b6aed88a57b918db8ad549e4bd5cc985ba8bde571acde92e8f23e04c157e5b6e", func := "peristyle/peristylelaw13.BlockTakes", spec := "blockTakes", inPlace := ["internal/abi.NoEscape"], unfollowed := true, recurses := true, apart := false }
def BlockTakesSaid : Prop := blockTakesRow.holds Tryz.pinned (OpenSpec.ofChange blockTakesSpec)

/-- ITS FALSE NEIGHBOUR: 'it returns false'. Refute it at one input. -/
def blockTakesWrong : ChangeSpec := { name := "blockTakes", fn := fun _ => fun
  | [d] => { results := [.lit (.bool false)], args := [d] }
  | _ => none }
def BlockTakesWrongFalsely : Prop := blockTakesRow.holds Tryz.pinned (OpenSpec.ofChange blockTakesWrong)

/-- 'peristylelaw13.BlockBest': WHATEVER THE INPUT: true; the input reads as it did. -/
def blockBestSpec : ChangeSpec := { name := "blockBest", fn := fun _ => fun
  | [d1, d2] => { results := [.lit (.bool true)], args := [d1, d2] }
  | _ => none }
def blockBestRow : OpenClaim := { program := "ytlamhllcnbcbbaagreat", sum := "b6aed88a57b918db8ad549e4bd5cc985ba8bde571acde92e8f23e04c157e5b6e", func := "peristyle/peristylelaw13.BlockBest", spec := "blockBest", inPlace := ["internal/abi.NoEscape"], unfollowed := true, recurses := true, apart := false }
def BlockBestSaid : Prop := blockBestRow.holds Tryz.pinned (OpenSpec.ofChange blockBestSpec)

/-- ITS FALSE NEIGHBOUR: 'it returns false'. Refute it at one input. -/
def blockBestWrong : ChangeSpec := { name := "blockBest", fn := fun _ => fun
  | [d1, d2] => { results := [.lit (.bool false)], args := [d1, d2] }
  | _ => none }
def BlockBestWrongFalsely : Prop := blockBestRow.holds Tryz.pinned (OpenSpec.ofChange blockBestWrong)

/-- 'peristylelaw13.BlockSpoilt': WHATEVER THE INPUT: true; the input reads as it did. -/
def blockSpoiltSpec : ChangeSpec := { name := "blockSpoilt", fn := fun _ => fun
  | [d1, d2, d3] => { results := [.lit (.bool true)], args := [d1, d2, d3] }
  | _ => none }
def blockSpoiltRow : OpenClaim := { program := "ytlamhllcnbcbbaagreat", sum := "b6aed88a57b918db8ad549e4bd5cc985ba8bde571acde92e8f23e04c157e5b6e", func := "peristyle/peristylelaw13.BlockSpoilt", spec := "blockSpoilt", inPlace := ["internal/abi.NoEscape"], unfollowed := true, recurses := true, apart := false }
def BlockSpoiltSaid : Prop := blockSpoiltRow.holds Tryz.pinned (OpenSpec.ofChange blockSpoiltSpec)

/-- ITS FALSE NEIGHBOUR: 'it returns false'. Refute it at one input. -/
def blockSpoiltWrong : ChangeSpec := { name := "blockSpoilt", fn := fun _ => fun
  | [d1, d2, d3] => { results := [.lit (.bool false)], args := [d1, d2, d3] }
  | _ => none }
def BlockSpoiltWrongFalsely : Prop := blockSpoiltRow.holds Tryz.pinned (OpenSpec.ofChange blockSpoiltWrong)

/- THE SECOND FORM. 'bulk': how many values and letters a reading holds, each counted each time it is reached (what is shared counts as often as it is met; a slice's spare places count too). A statement '..UptoSaid' is the law's where the arguments, and the package variables that the reading takes, are together of bulk at most 1048576: NARROWER than '..Said'. Prove '..Said' where nothing that the law and all that it calls make is longer than what came in: it says more and counts as full. Else prove '..UptoSaid'. A law counts once. -/
mutual
def uptoBulk {H : Type} : DataW H → Nat
  | .lit (.string bytes) => bytes.length + 1
  | .lit _ => 1
  | .nil => 1
  | .ptr d => uptoBulk d + 1
  | .slice elems spare => uptoBulkAll elems + uptoBulkAll spare + 1
  | .agg parts => uptoBulkAll parts + 1
  | .iface _ d => uptoBulk d + 1
  | .map entries => uptoBulkEntries entries + 1
  | .held _ => 1
def uptoBulkAll {H : Type} : List (DataW H) → Nat
  | [] => 0
  | d :: r => uptoBulk d + uptoBulkAll r
def uptoBulkEntries {H : Type} : List (Lit × DataW H) → Nat
  | [] => 0
  | x :: r => uptoBulkEntry x + uptoBulkEntries r
def uptoBulkEntry {H : Type} : Lit × DataW H → Nat
  | (.string bytes, d) => bytes.length + uptoBulk d + 1
  | (_, d) => uptoBulk d + 1
 end
def uptoSmall : (H : Type) → List (DataW H) → Bool := fun _ ds => decide (uptoBulkAll ds ≤ 1048576)
def OpenSpec.upto (s : _root_.Go.ChangeSpec) : _root_.Go.OpenSpec := { _root_.Go.OpenSpec.ofChange s with cond := some uptoSmall }

/-- 'peristylelaw13.BlockPuts', WHERE WHAT IT READS IS OF BULK AT MOST 1048576: true; the input reads as it did. -/
def blockPutsUptoRow : OpenClaim := { program := "ytlamhllcnbcbbaagreat", sum := "b6aed88a57b918db8ad549e4bd5cc985ba8bde571acde92e8f23e04c157e5b6e", func := "peristyle/peristylelaw13.BlockPuts", spec := "blockPuts", inPlace := ["internal/abi.NoEscape"], unfollowed := true, recurses := true, apart := false, narrowed := true }
def BlockPutsUptoSaid : Prop := blockPutsUptoRow.holds Tryz.pinned (OpenSpec.upto blockPutsSpec)

/-- 'peristylelaw13.BlockSame', WHERE WHAT IT READS IS OF BULK AT MOST 1048576: true; the input reads as it did. -/
def blockSameUptoRow : OpenClaim := { program := "ytlamhllcnbcbbaagreat", sum := "b6aed88a57b918db8ad549e4bd5cc985ba8bde571acde92e8f23e04c157e5b6e", func := "peristyle/peristylelaw13.BlockSame", spec := "blockSame", inPlace := ["internal/abi.NoEscape"], unfollowed := true, recurses := true, apart := false, narrowed := true }
def BlockSameUptoSaid : Prop := blockSameUptoRow.holds Tryz.pinned (OpenSpec.upto blockSameSpec)

/-- 'peristylelaw13.BlockTakes', WHERE WHAT IT READS IS OF BULK AT MOST 1048576: true; the input reads as it did. -/
def blockTakesUptoRow : OpenClaim := { program := "ytlamhllcnbcbbaagreat", sum := "b6aed88a57b918db8ad549e4bd5cc985ba8bde571acde92e8f23e04c157e5b6e", func := "peristyle/peristylelaw13.BlockTakes", spec := "blockTakes", inPlace := ["internal/abi.NoEscape"], unfollowed := true, recurses := true, apart := false, narrowed := true }
def BlockTakesUptoSaid : Prop := blockTakesUptoRow.holds Tryz.pinned (OpenSpec.upto blockTakesSpec)

/-- 'peristylelaw13.BlockBest', WHERE WHAT IT READS IS OF BULK AT MOST 1048576: true; the input reads as it did. -/
def blockBestUptoRow : OpenClaim := { program := "ytlamhllcnbcbbaagreat", sum := "b6aed88a57b918db8ad549e4bd5cc985ba8bde571acde92e8f23e04c157e5b6e", func := "peristyle/peristylelaw13.BlockBest", spec := "blockBest", inPlace := ["internal/abi.NoEscape"], unfollowed := true, recurses := true, apart := false, narrowed := true }
def BlockBestUptoSaid : Prop := blockBestUptoRow.holds Tryz.pinned (OpenSpec.upto blockBestSpec)

/-- 'peristylelaw13.BlockSpoilt', WHERE WHAT IT READS IS OF BULK AT MOST 1048576: true; the input reads as it did. -/
def blockSpoiltUptoRow : OpenClaim := { program := "ytlamhllcnbcbbaagreat", sum := "b6aed88a57b918db8ad549e4bd5cc985ba8bde571acde92e8f23e04c157e5b6e", func := "peristyle/peristylelaw13.BlockSpoilt", spec := "blockSpoilt", inPlace := ["internal/abi.NoEscape"], unfollowed := true, recurses := true, apart := false, narrowed := true }
def BlockSpoiltUptoSaid : Prop := blockSpoiltUptoRow.holds Tryz.pinned (OpenSpec.upto blockSpoiltSpec)

end Rows
end Go.Proofs.YtlamhllcnbcbbaaGreat
