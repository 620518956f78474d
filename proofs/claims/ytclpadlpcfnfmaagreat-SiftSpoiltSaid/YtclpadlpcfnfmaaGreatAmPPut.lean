import Derived.Test.YtclpadlpcfnfmaaGreatAmPBytes
/- Rows written as bytes: layer 06. -/
namespace Go.AM.Pure
open Go.AM
theorem GV (a b:List Int):D8 (ofBytes a) (ofBytes b)=ofBytes (a++b):=(Zos a b).symm
end Go.AM.Pure
