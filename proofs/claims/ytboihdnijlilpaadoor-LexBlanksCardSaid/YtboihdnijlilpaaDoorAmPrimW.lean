import Derived.Test.YtboihdnijlilpaaDoorAmWords
import Derived.Lib.ItoaNum
import Derived.Shelf.Strings.Replace
import Derived.Lib.AtoiAllCases
import Derived.Shelf.Strings.Trim
/- The library's functions that are taken by the kit's contracts, as pure functions. -/
namespace Go.AM

/-- strconv.Itoa -/
def itoaS (n : Int) : Option ByteArray :=
  bif leI (-9223372036854775808) n && leI n 9223372036854775807 then some ⟨(Lib.itoa n).toArray⟩ else none

/-- strings.ReplaceAll, at an old that is not empty -/
def replS (s old new : ByteArray) : Option ByteArray :=
  bif decide (s.size < 4294967281) && (decide (1 ≤ old.size) && decide (s.size + Lib.countB s old * new.size ≤ 140737488355328)) then
    some ⟨(Lib.replaceAll s.data.toList old.data.toList new.data.toList).toArray⟩ else none

/-- strconv.Atoi: the number, and whether there is no error -/
def atoiS (s : ByteArray) : Option (Int × Bool) :=
  bif decide (s.size ≤ 281474976710656) then
    match Lib.atoiAll s.data.toList with
    | .ok v => some (v, true)
    | .«syntax» => some (0, false)
    | .range => some (Lib.atoiSat s.data.toList, false)
  else none

/-- strings.TrimLeft, of one ASCII byte -/
def trimS (s cut : ByteArray) : Option ByteArray :=
  match cut.data.toList with
  | [c] => bif decide (c.toNat < 128) then some ⟨(Lib.trimLeftB s.data.toList c).toArray⟩ else none
  | _ => none

/-- strings.Contains -/
def hasS (s sub : ByteArray) : Option Bool :=
  bif decide (sub.size < 4294967281) && decide (s.size < 4294967281) then some (Lib.contains s.data.toList sub.data.toList) else none

/-- A builder: has it been written to (false: it has), and its bytes. -/
def bldUse (x : Bool × List Int) : Bool × List Int := (false, x.2)
def isByte (n : Int) : Bool := leI 0 n && ltI n 256
def bldStr (x : Bool × List Int) : Option (ByteArray × (Bool × List Int)) := bif x.2.all isByte then some (ofBytes x.2, x) else none

end Go.AM
