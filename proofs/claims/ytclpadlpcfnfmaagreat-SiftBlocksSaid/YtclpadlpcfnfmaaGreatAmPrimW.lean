import Derived.Test.YtclpadlpcfnfmaaGreatAmWords
import Derived.Lib.ItoaNum
import Derived.Shelf.Strings.Replace
import Derived.Lib.AtoiAllCases
import Derived.Shelf.Strings.Trim
import Derived.Lib.SlicesCompact
/- The library's functions that are taken by the kit's contracts, as pure functions. -/
namespace Go.AM
def NK (x:Bool×List Int):Bool×List Int:=(false,x.2)
def isByte (n:Int):Bool:=Bq 0 n && AS n 256
def MZ (x:Bool×List Int):Option (ByteArray×(Bool×List Int)):=bif x.2.all isByte then some (ofBytes x.2,x) else none
def Ko {α:Type} (by_:Nat) (l:List α):Option (List α):=bif decide (0<l.length) && BM l.length by_ then some l else none
def MY {α:Type} (by_:Nat) (l:List α):Option (List α):=bif BM l.length by_ then some l else none
def Me (b:List UInt8):ByteArray:=⟨b.toArray⟩
def We (l:List Int):Option (List Int):=bif decide (l.length<4611686018427387904) then some (l.mergeSort fun x y=>decide (x≤y)) else none
def Wg (l:List ByteArray):Option (List ByteArray):=
 bif decide (l.length<4611686018427387904) then some (((l.map fun s:ByteArray=>s.data.toList).mergeSort fun x y=>decide (x≤y)).map Me) else none
def Wf (l:List Int):Option (Int×List Int):=
 bif decide (l.length≤9223372036854775807) then some (((Lib.compact l).length:Int),Lib.compact l++List.replicate (l.length-(Lib.compact l).length) 0) else none
def Wh (l:List ByteArray):Option (Int×List ByteArray):=
 bif decide (l.length≤9223372036854775807) then some (((Lib.compact (l.map fun s:ByteArray=>s.data.toList)).length:Int),(Lib.compact (l.map fun s:ByteArray=>s.data.toList)++List.replicate (l.length-(Lib.compact (l.map fun s:ByteArray=>s.data.toList)).length) []).map Me) else none
end Go.AM
