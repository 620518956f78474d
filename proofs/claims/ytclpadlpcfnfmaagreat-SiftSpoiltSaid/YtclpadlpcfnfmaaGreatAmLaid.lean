import Derived.Test.YtclpadlpcfnfmaaGreatAmGen
import Derived.LaidSub
/- What a row lists of package variables. -/
namespace Go.AM
end Go.AM
