import Derived.Test.YtclpadlpcfnfmaaGreatAmPBytes
/- Rows written as bytes: layer 06. -/
namespace Go.AM.Pure
open Go.AM
theorem F7 (a b:List Int):Dr (ofBytes a) (ofBytes b)=ofBytes (a++b):=(Zvj a b).symm
end Go.AM.Pure
