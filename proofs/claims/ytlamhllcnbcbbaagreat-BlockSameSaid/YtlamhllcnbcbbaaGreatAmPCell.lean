import Derived.Test.YtlamhllcnbcbbaaGreatAmPure17
import Derived.Test.YtlamhllcnbcbbaaGreatAmPLib
import Derived.KernelRfl
/- Which of two cells stands first: an order. -/
namespace Go.AM.Pure
open Go.AM
abbrev Cell := Int × Int × ByteArray
structure Ord3 {α : Type} (c : α → α → Int) : Prop where
  eq0 : ∀ a b, c a b = 0 ↔ a = b
  neg : ∀ a b, c b a = -c a b
  rng : ∀ a b, c a b = -1 ∨ c a b = 0 ∨ c a b = 1
  tr : ∀ a b d, c a b = -1 → c b d = -1 → c a d = -1
end Go.AM.Pure
