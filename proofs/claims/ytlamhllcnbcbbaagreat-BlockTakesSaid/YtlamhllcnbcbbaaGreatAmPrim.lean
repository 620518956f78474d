import Derived.Test.YtlamhllcnbcbbaaGreatAmGen
/- Contracts of functions of numbers, bools and strings, out of what is known of their calls. -/
namespace Go.AM
open Go.RowKit (Below)
set_option linter.unusedSectionVars false
variable [Lay]
def isSc:Ty→Bool
  | .int _ | .bool | .str=>true
  | _=>false
def sv:(t:Ty)→t.D→Value
  | .int k,n=> .int k n
  | .bool,b=> .bool b
  | .str,s=> .string s
  | _,_=>undef
section
variable {P : Program} {f : FuncId} {ok : Nat → Nat → Prop} {w : World}
theorem sc_mk {t:Ty} (ht:isSc t=true) (x:t.D):RepD ok w t x [sv t x]∧valOf t [sv t x]=sv t x:=by
  cases t with
  | int k=>exact ⟨rfl,rfl⟩
  | bool=>exact ⟨rfl,rfl⟩
  | str=>exact ⟨rfl,rfl⟩
  | _=>cases ht
end
end Go.AM
