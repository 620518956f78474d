import Derived.Test.YtclpadlpcfnfmaaGreatAmL1
import Derived.Lib.Bytealg
/- Words of the printed functions. -/
namespace Go.AM
def fu:Nat:=18446744073709551616
theorem Ae {p:Prop} (h:p:=by unfold fu;omega):p:=h
def nth {α:Type} (l:List α) (i:Int) (z:α):α:=l.getD i.toNat z
def eB:ByteArray:=⟨#[]⟩
def bs (l:List Nat):ByteArray:=⟨(l.map UInt8.ofNat).toArray⟩
def RZ (a b:Bool):Bool:=a == b
def Ir (a b:ByteArray):Int:=Lib.compareBytes a.data.toList b.data.toList
def Qc {α:Type} (c:Bool) (m:Option α) (k:α->Bool):Option α:=bif c then m.bind λ x=>bif k x then some x else none else none
end Go.AM
