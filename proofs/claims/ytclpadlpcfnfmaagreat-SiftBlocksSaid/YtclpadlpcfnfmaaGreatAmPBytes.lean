import Derived.Test.YtclpadlpcfnfmaaGreatAmPVtk2
import Derived.Test.YtclpadlpcfnfmaaGreatAmP06
/- Rows as bytes: layer 06. -/
namespace Go.AM.Pure
open Go.AM
theorem LH {s:ByteArray}:s=eB↔s.size=0:=by
 constructor
 ·rintro rfl;rfl
 ·intro h
  apply SY.1
  have:s.data.toList.length=0:=by rw [Array.length_toList];exact h
  rw [AI this]
  rfl
end Go.AM.Pure
