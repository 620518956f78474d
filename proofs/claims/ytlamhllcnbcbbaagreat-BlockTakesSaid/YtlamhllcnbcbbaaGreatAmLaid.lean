import Derived.Test.YtlamhllcnbcbbaaGreatAmGen
import Derived.LaidSub
/- What a row lists of package variables. -/
namespace Go.AM
end Go.AM
