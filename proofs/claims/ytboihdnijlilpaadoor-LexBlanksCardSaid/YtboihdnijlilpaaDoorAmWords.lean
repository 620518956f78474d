import Derived.Test.YtboihdnijlilpaaDoorAmL1
import Derived.Lib.Bytealg
/- Words of the printed functions. -/
namespace Go.AM

/-- How many rounds a loop may take: more than any takes. -/
def fu : Nat := 18446744073709551616
def nth {α : Type} (l : List α) (i : Int) (z : α) : α := l.getD i.toNat z
def eB : ByteArray := ⟨#[]⟩
def bs (l : List Nat) : ByteArray := ⟨(l.map UInt8.ofNat).toArray⟩
def eqB (a b : Bool) : Bool := a == b
/-- strings.Compare. -/
def cmpS (a b : ByteArray) : Int := Lib.compareBytes a.data.toList b.data.toList
end Go.AM
