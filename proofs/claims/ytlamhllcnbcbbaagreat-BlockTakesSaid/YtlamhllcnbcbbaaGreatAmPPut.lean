import Derived.Test.YtlamhllcnbcbbaaGreatAmPBytes
/- Rows written as bytes: layer 06. -/
namespace Go.AM.Pure
open Go.AM
theorem Zme (a b:List Int):addS (ofBytes a) (ofBytes b)=ofBytes (a++b):=(Zjc1 a b).symm
end Go.AM.Pure
