import Derived.Test.YtlamhllcnbcbbaaGreatAmPLib
/- What a printed tree comes to: rules that part its ways. -/
namespace Go.AM.Pure
open Go.AM
variable {α β : Type}
def Ret (m:Option α) (p:α→Prop):Prop:=∃ x,m=some x∧p x
theorem Ret.mono {m:Option α} {p q:α→Prop} (h:Ret m p) (k:∀ x,p x→q x):Ret m q:=by
 obtain ⟨x,h1,h2⟩:=h
 exact ⟨x,h1,k x h2⟩
theorem Zg {p:α→Prop} {x:α} (h:p x):Ret (some x) p:=⟨x,rfl,h⟩
theorem Zts {p:α→Prop} {m:Option α} {x:α} (e:m=some x) (h:p x):Ret m p:=⟨x,e,h⟩
theorem Zta {m:Option α} {f:α→Option β} {p:β→Prop} (q:α→Prop) (h:Ret m q) (k:∀ x,q x→Ret (f x) p):Ret (m.bind f) p:=by
 obtain ⟨x,h1,h2⟩:=h
 rw [h1]
 exact k x h2
theorem Zsd {m:Option α} {f:α→Option β} {p:β→Prop} {x:α} (h:m=some x) (k:Ret (f x) p):Ret (m.bind f) p:=by
 rw [h]
 exact k
section
variable {p : α → Prop} {x y : Option α}
theorem Zcf {c:Bool} (h1:c=true→Ret x p) (h2:c=false→Ret y p):Ret (bif c then x else y) p:=by
 cases c
 ·exact h2 rfl
 ·exact h1 rfl
theorem Zue {c:Bool} (h:Ret (bif c then y else x) p):Ret (bif !c then x else y) p:=by cases c <;> exact h
theorem Zia {a b:Int} (h1:a<b→Ret x p) (h2:b≤a→Ret y p):Ret (bif ltI a b then x else y) p:=
 Zcf (fun h=>h1 (of_decide_eq_true h)) (fun h=>h2 (Int.not_lt.1 (of_decide_eq_false h)))
theorem Znj {a b:Int} (h1:a≤b→Ret x p) (h2:b<a→Ret y p):Ret (bif leI a b then x else y) p:=
 Zcf (fun h=>h1 (of_decide_eq_true h)) (fun h=>h2 (Int.not_le.1 (of_decide_eq_false h)))
theorem Znd {a b:Int} (h1:a=b→Ret x p) (h2:a≠b→Ret y p):Ret (bif eqI a b then x else y) p:=
 Zcf (fun h=>h1 (of_decide_eq_true h)) (fun h=>h2 (of_decide_eq_false h))
theorem Zqc {a b:Int} (h1:a≠b→Ret x p) (h2:a=b→Ret y p):Ret (bif neI a b then x else y) p:=by
 rw [neI_d]
 exact Zue (Zcf (fun h=>h2 (of_decide_eq_true h)) (fun h=>h1 (of_decide_eq_false h)))
theorem Zrf {a b:ByteArray} (h1:a=b→Ret x p) (h2:a≠b→Ret y p):Ret (bif eqS a b then x else y) p:=by
 rw [eqS_d]
 exact Zcf (fun h=>h1 (of_decide_eq_true h)) (fun h=>h2 (of_decide_eq_false h))
theorem Zya {i n:Int} (h:0≤i∧i<n) (k:Ret x p):Ret (bif inB i n then x else none) p:=by
 rw [inB_d,decide_eq_true h]
 exact k
theorem Zpd {a b n:Int} (h:0≤a∧a≤b∧b≤n) (k:Ret x p):Ret (bif inC a b n then x else none) p:=by
 rw [inC_d,decide_eq_true h]
 exact k
theorem Zae {n b:Nat} (h:n*b≤140737488355328) (k:Ret x p):Ret (bif roomB n b then x else none) p:=by
 rw [Zrq1,decide_eq_true h]
 exact k
end
theorem Zu {i n:Int} (h:0≤i∧i<n):inB i n=true:=by rw [inB_d];exact decide_eq_true h
theorem Zzb {a b n:Int} (h:0≤a∧a≤b∧b≤n):inC a b n=true:=by rw [inC_d];exact decide_eq_true h
theorem lt_t {a b:Int} (h:a<b):ltI a b=true:=decide_eq_true h
theorem lt_f {a b:Int} (h:b≤a):ltI a b=false:=decide_eq_false (Int.not_lt.2 h)
theorem le_t {a b:Int} (h:a≤b):leI a b=true:=decide_eq_true h
theorem le_f {a b:Int} (h:b<a):leI a b=false:=decide_eq_false (Int.not_le.2 h)
theorem eq_t {a b:Int} (h:a=b):eqI a b=true:=decide_eq_true h
theorem eq_f {a b:Int} (h:a≠b):eqI a b=false:=decide_eq_false h
theorem ne_t {a b:Int} (h:a≠b):neI a b=true:=by rw [neI_d,decide_eq_false h];rfl
theorem ne_f {a b:Int} (h:a=b):neI a b=false:=by rw [neI_d,decide_eq_true h];rfl
theorem Zna {n b:Nat} (h:n*b≤140737488355328):roomB n b=true:=by rw [Zrq1];exact decide_eq_true h
theorem Zde {n:Int} (h: -9223372036854775808≤n∧n<9223372036854775808):IntKind.wrap .i64 n=n:=Zje h.1 h.2
theorem Zn {a b:Int} (h: -9223372036854775808≤a+b∧a+b<9223372036854775808):addI .i64 a b=a+b:=Zje h.1 h.2
theorem Zqb {a b:Int} (h: -9223372036854775808≤a-b∧a-b<9223372036854775808):subI .i64 a b=a-b:=Zje h.1 h.2
theorem Zek {a b:Int} (h: -9223372036854775808≤a*b∧a*b<9223372036854775808):mulI .i64 a b=a*b:=Zje h.1 h.2
theorem eqS_t {a b:ByteArray} (h:a=b):eqS a b=true:=by rw [eqS_d];exact decide_eq_true h
theorem eqS_f {a b:ByteArray} (h:a≠b):eqS a b=false:=by rw [eqS_d];exact decide_eq_false h
end Go.AM.Pure
