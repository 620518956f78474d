import Derived.Test.YtclpadlpcfnfmaaGreatAmP13w
section
/- The document's Takes of packed words, of plain numbers, of runs and of frames. -/
namespace Go.AM.Pure
open Go.AM
end Go.AM.Pure
end

section
/- The document's Takes of frames, of dictionaries and of texts. -/
namespace Go.AM.Pure
open Go.AM
end Go.AM.Pure
end

section
/- The document's Takes of texts by dictionaries and runs; by whatever code. -/
namespace Go.AM.Pure
open Go.AM
end Go.AM.Pure
end

section
/- BlockTakes. -/
namespace Go.AM.Pure
open Go.AM
end Go.AM.Pure
end
