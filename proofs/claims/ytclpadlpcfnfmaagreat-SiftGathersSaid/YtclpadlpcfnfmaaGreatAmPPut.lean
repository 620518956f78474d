import Derived.Test.YtclpadlpcfnfmaaGreatAmPBytes
/- Rows written as bytes: layer 06. -/
namespace Go.AM.Pure
open Go.AM
theorem Ed (a b:List Int):Ei (ofBytes a) (ofBytes b)=ofBytes (a++b):=(YD a b).symm
end Go.AM.Pure
