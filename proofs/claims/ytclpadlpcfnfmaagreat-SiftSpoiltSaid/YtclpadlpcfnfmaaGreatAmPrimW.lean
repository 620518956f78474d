import Derived.Test.YtclpadlpcfnfmaaGreatAmWords
import Derived.Lib.ItoaNum
import Derived.Shelf.Strings.Replace
import Derived.Lib.AtoiAllCases
import Derived.Shelf.Strings.Trim
import Derived.Lib.SlicesCompact
/- The library's functions that are taken by the kit's contracts, as pure functions. -/
namespace Go.AM
def OW (x:Bool×List Int):Bool×List Int:=(false,x.2)
def isByte (n:Int):Bool:=BC 0 n && A8 n 256
def Oa (x:Bool×List Int):Option (ByteArray×(Bool×List Int)):=bif x.2.all isByte then some (ofBytes x.2,x) else none
def Lp {α:Type} (by_:Nat) (l:List α):Option (List α):=bif decide (0<l.length) && B1 l.length by_ then some l else none
def N9 {α:Type} (by_:Nat) (l:List α):Option (List α):=bif B1 l.length by_ then some l else none
def Nf (b:List UInt8):ByteArray:=⟨b.toArray⟩
def XQ (l:List Int):Option (List Int):=bif decide (l.length<4611686018427387904) then some (l.mergeSort λ x y=>decide (x<=y)) else none
def XS (l:List ByteArray):Option (List ByteArray):=
 bif decide (l.length<4611686018427387904) then some (((l.map λ s:ByteArray=>s.data.toList).mergeSort λ x y=>decide (x<=y)).map Nf) else none
def XR (l:List Int):Option (Int×List Int):=
 bif decide (l.length<=9223372036854775807) then some (((Lib.compact l).length:Int),Lib.compact l++List.replicate (l.length-(Lib.compact l).length) 0) else none
def XT (l:List ByteArray):Option (Int×List ByteArray):=
 bif decide (l.length<=9223372036854775807) then some (((Lib.compact (l.map λ s:ByteArray=>s.data.toList)).length:Int),(Lib.compact (l.map λ s:ByteArray=>s.data.toList)++List.replicate (l.length-(Lib.compact (l.map λ s:ByteArray=>s.data.toList)).length) []).map Nf) else none
end Go.AM
