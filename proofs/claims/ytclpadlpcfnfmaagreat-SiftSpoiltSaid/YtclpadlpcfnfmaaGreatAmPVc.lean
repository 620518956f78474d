import Derived.Test.YtclpadlpcfnfmaaGreatAmPLib
/- What a printed tree comes to: rules that part its ways. -/
namespace Go.AM.Pure
open Go.AM
variable {α β : Type}
def Br (m:Option α) (p:α->Prop):Prop:=∃ x,m=some x/\p x
theorem Br.mono {m:Option α} {p q:α->Prop} (h:Br m p) (k:∀ x,p x->q x):Br m q:=by
 obtain ⟨x,h1,h2⟩:=h;exact ⟨x,h1,k x h2⟩
theorem Bp {p:α->Prop} {x:α} (h:p x):Br (some x) p:=⟨x,rfl,h⟩
theorem Z0 {p:α->Prop} {m:Option α} {x:α} (e:m=some x) (h:p x):Br m p:=⟨x,e,h⟩
theorem CY {m:Option α} {f:α->Option β} {p:β->Prop} (q:α->Prop) (h:Br m q) (k:∀ x,q x->Br (f x) p):Br (m.bind f) p:=by
 obtain ⟨x,h1,h2⟩:=h;rw [h1];exact k x h2
theorem Jl {m:Option α} {f:α->Option β} {p:β->Prop} {x:α} (h:m=some x) (k:Br (f x) p):Br (m.bind f) p:=by
 rw [h];exact k
section
variable {p : α -> Prop} {x y : Option α}
theorem IA {c:Bool} (h1:c=true->Br x p) (h2:c=false->Br y p):Br (bif c then x else y) p:=by
 cases c
 ·exact h2 rfl
 ·exact h1 rfl
theorem Ia {c:Bool} (h:Br (bif c then y else x) p):Br (bif !c then x else y) p:=by cases c <;> exact h
theorem B6 {a b:Int} (h1:a<b->Br x p) (h2:b<=a->Br y p):Br (bif A8 a b then x else y) p:=
 IA (λ h=>h1 (Aw h)) (λ h=>h2 (Int.not_lt.1 (of_decide_eq_false h)))
theorem MG {a b:Int} (h1:a<=b->Br x p) (h2:b<a->Br y p):Br (bif BC a b then x else y) p:=
 IA (λ h=>h1 (Aw h)) (λ h=>h2 (Int.not_le.1 (of_decide_eq_false h)))
theorem Fs {a b:Int} (h1:a=b->Br x p) (h2:a≠b->Br y p):Br (bif A9 a b then x else y) p:=
 IA (λ h=>h1 (Aw h)) (λ h=>h2 (of_decide_eq_false h))
theorem EB {a b:Int} (h1:a≠b->Br x p) (h2:a=b->Br y p):Br (bif BL a b then x else y) p:=by
 rw [S8];exact Ia (IA (λ h=>h2 (Aw h)) (λ h=>h1 (of_decide_eq_false h)))
theorem I9 {a b:ByteArray} (h1:a=b->Br x p) (h2:a≠b->Br y p):Br (bif Cz a b then x else y) p:=by
 rw [MJ];exact IA (λ h=>h1 (Aw h)) (λ h=>h2 (of_decide_eq_false h))
theorem CW {i n:Int} (h:0<=i/\i<n) (k:Br x p):Br (bif Bf i n then x else none) p:=by
 rw [KC,Aq h];exact k
theorem FJ {a b n:Int} (h:0<=a/\a<=b/\b<=n) (k:Br x p):Br (bif CJ a b n then x else none) p:=by
 rw [X4,Aq h];exact k
theorem H9 {n b:Nat} (h:n*b<=140737488355328) (k:Br x p):Br (bif B2 n b then x else none) p:=by
 rw [ya,Aq h];exact k
end
theorem Bq {i n:Int} (h:0<=i/\i<n:=by first | omega | (rw [Ba];omega)):Bf i n=true:=by rw [KC];exact Aq h
theorem Dg {a b n:Int} (h:0<=a/\a<=b/\b<=n):CJ a b n=true:=by rw [X4];exact Aq h
theorem Bw {a b:Int} (h:a<b:=by omega):A8 a b=true:=Aq h
theorem Be {a b:Int} (h:b<=a:=by omega):A8 a b=false:=Ay (Int.not_lt.2 h)
theorem CH {a b:Int} (h:a<=b:=by omega):BC a b=true:=Aq h
theorem Gc {a b:Int} (h:b<a:=by omega):BC a b=false:=Ay (Int.not_le.2 h)
theorem Ci {a b:Int} (h:a=b:=by omega):A9 a b=true:=Aq h
theorem Ca {a b:Int} (h:a≠b:=by omega):A9 a b=false:=Ay h
theorem Fi {a b:Int} (h:a≠b:=by omega):BL a b=true:=by rw [S8,Ay h];rfl
theorem Cs {a b:Int} (h:a=b:=by omega):BL a b=false:=by rw [S8,Aq h];rfl
theorem Cp {n b:Nat} (h:n*b<=140737488355328):B2 n b=true:=by rw [ya];exact Aq h
theorem FH {n:Int} (h: -9223372036854775808<=n/\n<9223372036854775808:=by omega):IntKind.wrap .i64 n=n:=IN h.1 h.2
theorem Bk {a b:Int} (h: -9223372036854775808<=a+b/\a+b<9223372036854775808:=by omega):A7 .i64 a b=a+b:=IN h.1 h.2
theorem CA {a b:Int} (h: -9223372036854775808<=a-b/\a-b<9223372036854775808:=by omega):Bt .i64 a b=a-b:=IN h.1 h.2
theorem Kx {a b:Int} (h: -9223372036854775808<=a*b/\a*b<9223372036854775808:=by omega):CI .i64 a b=a*b:=IN h.1 h.2
theorem Gp {a b:ByteArray} (h:a=b):Cz a b=true:=by rw [MJ];exact Aq h
theorem K8 {a b:ByteArray} (h:a≠b):Cz a b=false:=by rw [MJ];exact Ay h
end Go.AM.Pure
