import Derived.Test.YtclpadlpcfnfmaaGreatAmLaid
import Derived.Test.YtclpadlpcfnfmaaGreatAmPrim
import Derived.Test.YtclpadlpcfnfmaaGreatRows
import Derived.Shelf.Strconv.Itoa3
import Derived.Test.YtclpadlpcfnfmaaGreatSLays
/- What is known of this seat's package variables. PRINTED by gen/ of this repo. -/
namespace Go.Proofs.YtclpadlpcfnfmaaGreat.Am
open Go.Proofs.Tryz
open Go.AM
structure LayOk (z:Nat) (w:World):Prop where
 z:z=0
 lt:0<=w.heap.size
noncomputable instance lay:Lay where
 bld:=253
 byt:=5
 ok:=LayOk
 lt:=λ z w h=>by rw [h.z];exact h.lt
 keep:=λ z w w' h hs hk=>by
  obtain ⟨hz,h0⟩:=h;subst hz;exact ⟨rfl,Nat.le_trans h0 hs⟩
end Go.Proofs.YtclpadlpcfnfmaaGreat.Am
