/- The library's functions that are taken by the kit's contracts, as pure functions. -/
import Derived.Test.YtkfffcnililmkaaDoorAmWords
import Derived.Lib.ItoaNum
import Derived.Shelf.Strings.Replace
namespace Go.AM

/-- strconv.Itoa -/
def itoaS (n : Int) : Option ByteArray :=
  bif leI (-9223372036854775808) n && leI n 9223372036854775807 then some ⟨(Lib.itoa n).toArray⟩ else none

/-- strings.ReplaceAll, at an old that is not empty -/
def replS (s old new : ByteArray) : Option ByteArray :=
  bif decide (s.size < 4294967281) && (decide (1 ≤ old.size) && decide (s.size + Lib.countB s old * new.size ≤ 140737488355328)) then
    some ⟨(Lib.replaceAll s.data.toList old.data.toList new.data.toList).toArray⟩ else none

end Go.AM
