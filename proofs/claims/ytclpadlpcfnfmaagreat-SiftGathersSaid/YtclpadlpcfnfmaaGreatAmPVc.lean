import Derived.Test.YtclpadlpcfnfmaaGreatAmPLib
/- What a printed tree comes to: rules that part its ways. -/
namespace Go.AM.Pure
open Go.AM
variable {α β : Type}
def Ret (m:Option α) (p:α→Prop):Prop:=∃ x,m=some x∧p x
theorem Ret.mono {m:Option α} {p q:α→Prop} (h:Ret m p) (k:∀ x,p x→q x):Ret m q:=by
 obtain ⟨x,h1,h2⟩:=h
 exact ⟨x,h1,k x h2⟩
section
variable {p : α → Prop} {x y : Option α}
end
theorem AA {i n:Int} (h:0≤i∧i<n):inB i n=true:=by rw [Iw];exact decide_eq_true h
theorem DO {a b n:Int} (h:0≤a∧a≤b∧b≤n):inC a b n=true:=by rw [cD];exact decide_eq_true h
theorem Bj {a b:Int} (h:a<b):ltI a b=true:=decide_eq_true h
theorem AJ {a b:Int} (h:b≤a):ltI a b=false:=decide_eq_false (Int.not_lt.2 h)
theorem DL {a b:Int} (h:a≤b):leI a b=true:=decide_eq_true h
theorem ID {a b:Int} (h:b<a):leI a b=false:=decide_eq_false (Int.not_le.2 h)
theorem CT {a b:Int} (h:a=b):eqI a b=true:=decide_eq_true h
theorem CE {a b:Int} (h:a≠b):eqI a b=false:=decide_eq_false h
theorem Jp {a b:Int} (h:a≠b):neI a b=true:=by rw [Zku,decide_eq_false h];rfl
theorem Db {a b:Int} (h:a=b):neI a b=false:=by rw [Zku,decide_eq_true h];rfl
theorem Bg {n b:Nat} (h:n*b≤140737488355328):Bw n b=true:=by rw [Zax];exact decide_eq_true h
theorem Ez {n:Int} (h: -9223372036854775808≤n∧n<9223372036854775808):IntKind.wrap .i64 n=n:=Ew h.1 h.2
theorem AE {a b:Int} (h: -9223372036854775808≤a+b∧a+b<9223372036854775808):An .i64 a b=a+b:=Ew h.1 h.2
theorem Dk {a b:Int} (h: -9223372036854775808≤a-b∧a-b<9223372036854775808):AT .i64 a b=a-b:=Ew h.1 h.2
theorem Kw {a b:Int} (h: -9223372036854775808≤a*b∧a*b<9223372036854775808):Df .i64 a b=a*b:=Ew h.1 h.2
theorem JZ {a b:ByteArray} (h:a=b):eqS a b=true:=by rw [LQ];exact decide_eq_true h
theorem Ob {a b:ByteArray} (h:a≠b):eqS a b=false:=by rw [LQ];exact decide_eq_false h
end Go.AM.Pure
