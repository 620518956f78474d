import Derived.Test.YtclpadlpcfnfmaaGreatAmPLib
/- What a printed tree comes to: rules that part its ways. -/
namespace Go.AM.Pure
open Go.AM
variable {α β : Type}
def Eu (m:Option α) (p:α→Prop):Prop:=∃ x,m=some x∧p x
theorem Eu.mono {m:Option α} {p q:α→Prop} (h:Eu m p) (k:∀ x,p x→q x):Eu m q:=by
 obtain ⟨x,h1,h2⟩:=h
 exact ⟨x,h1,k x h2⟩
theorem rG {p:α→Prop} {x:α} (h:p x):Eu (some x) p:=⟨x,rfl,h⟩
theorem Zw1 {m:Option α} {f:α→Option β} {p:β→Prop} (q:α→Prop) (h:Eu m q) (k:∀ x,q x→Eu (f x) p):Eu (m.bind f) p:=by
 obtain ⟨x,h1,h2⟩:=h
 rw [h1]
 exact k x h2
section
variable {p : α → Prop} {x y : Option α}
theorem fP {c:Bool} (h1:c=true→Eu x p) (h2:c=false→Eu y p):Eu (bif c then x else y) p:=by
 cases c
 ·exact h2 rfl
 ·exact h1 rfl
theorem Yui {c d:Bool} (h:Eu (bif c then (bif d then x else y) else y) p):Eu (bif c && d then x else y) p:=by cases c <;> exact h
theorem OY {a b:Int} (h1:a<b→Eu x p) (h2:b≤a→Eu y p):Eu (bif AS a b then x else y) p:=
 fP (fun h=>h1 (Ak h)) (fun h=>h2 (Int.not_lt.1 (of_decide_eq_false h)))
theorem Vk {i n:Int} (h:0≤i∧i<n) (k:Eu x p):Eu (bif AX i n then x else none) p:=by
 rw [JF,Af h]
 exact k
theorem fe {n b:Nat} (h:n*b≤140737488355328) (k:Eu x p):Eu (bif BM n b then x else none) p:=by
 rw [tQ,Af h]
 exact k
theorem Yti {a b:Int} (h:a≤b) (k:Eu x p):Eu (bif Bq a b then x else none) p:=by
 rw [aQ,Af h]
 exact k
end
theorem Bf {i n:Int} (h:0≤i∧i<n):AX i n=true:=by rw [JF];exact Af h
theorem Ey {a b n:Int} (h:0≤a∧a≤b∧b≤n):CU a b n=true:=by rw [aP];exact Af h
theorem Bl {a b:Int} (h:a<b):AS a b=true:=Af h
theorem AZ {a b:Int} (h:b≤a):AS a b=false:=An (Int.not_lt.2 h)
theorem Cq {a b:Int} (h:a≤b):Bq a b=true:=Af h
theorem GM {a b:Int} (h:b<a):Bq a b=false:=An (Int.not_le.2 h)
theorem B0 {a b:Int} (h:a=b):AR a b=true:=Af h
theorem BU {a b:Int} (h:a≠b):AR a b=false:=An h
theorem Jl {a b:Int} (h:a≠b):By a b=true:=by rw [TP,An h];rfl
theorem Cu {a b:Int} (h:a=b):By a b=false:=by rw [TP,Af h];rfl
theorem B7 {n b:Nat} (h:n*b≤140737488355328):BM n b=true:=by rw [tQ];exact Af h
theorem Hf {n:Int} (h: -9223372036854775808≤n∧n<9223372036854775808):IntKind.wrap .i64 n=n:=IB h.1 h.2
theorem Bj {a b:Int} (h: -9223372036854775808≤a+b∧a+b<9223372036854775808):AQ .i64 a b=a+b:=IB h.1 h.2
theorem Dn {a b:Int} (h: -9223372036854775808≤a-b∧a-b<9223372036854775808):Be .i64 a b=a-b:=IB h.1 h.2
theorem Jg {a b:Int} (h: -9223372036854775808≤a*b∧a*b<9223372036854775808):Cj .i64 a b=a*b:=IB h.1 h.2
theorem KY {a b:ByteArray} (h:a=b):Cn a b=true:=by rw [M7];exact Af h
theorem Pe {a b:ByteArray} (h:a≠b):Cn a b=false:=by rw [M7];exact An h
end Go.AM.Pure
