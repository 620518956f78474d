import Derived.Test.YtclpadlpcfnfmaaGreatAmPLib
/- What a printed tree comes to: rules that part its ways. -/
namespace Go.AM.Pure
open Go.AM
variable {α β : Type}
def Br (m:Option α) (p:α->Prop):Prop:=∃ x,m=some x/\p x
theorem Br.mono {m:Option α} {p q:α->Prop} (h:Br m p) (k:∀ x,p x->q x):Br m q:=by
 obtain ⟨x,h1,h2⟩:=h;exact ⟨x,h1,k x h2⟩
theorem Bp {p:α->Prop} {x:α} (h:p x):Br (some x) p:=⟨x,rfl,h⟩
theorem ZY {p:α->Prop} {m:Option α} {x:α} (e:m=some x) (h:p x):Br m p:=⟨x,e,h⟩
theorem CY {m:Option α} {f:α->Option β} {p:β->Prop} (q:α->Prop) (h:Br m q) (k:∀ x,q x->Br (f x) p):Br (m.bind f) p:=by
 obtain ⟨x,h1,h2⟩:=h;rw [h1];exact k x h2
theorem Jl {m:Option α} {f:α->Option β} {p:β->Prop} {x:α} (h:m=some x) (k:Br (f x) p):Br (m.bind f) p:=by
 rw [h];exact k
section
variable {p : α -> Prop} {x y : Option α}
theorem IA {c:Bool} (h1:c=true->Br x p) (h2:c=false->Br y p):Br (bif c then x else y) p:=by
 cases c
 ·exact h2 rfl
 ·exact h1 rfl
theorem Ia {c:Bool} (h:Br (bif c then y else x) p):Br (bif !c then x else y) p:=by cases c <;> exact h
theorem B6 {a b:Int} (h1:a<b->Br x p) (h2:b<=a->Br y p):Br (bif A8 a b then x else y) p:=
 IA (λ h=>h1 (Az h)) (λ h=>h2 (Int.not_lt.1 (of_decide_eq_false h)))
theorem MG {a b:Int} (h1:a<=b->Br x p) (h2:b<a->Br y p):Br (bif BC a b then x else y) p:=
 IA (λ h=>h1 (Az h)) (λ h=>h2 (Int.not_le.1 (of_decide_eq_false h)))
theorem Fq {a b:Int} (h1:a=b->Br x p) (h2:a≠b->Br y p):Br (bif A9 a b then x else y) p:=
 IA (λ h=>h1 (Az h)) (λ h=>h2 (of_decide_eq_false h))
theorem EA {a b:Int} (h1:a≠b->Br x p) (h2:a=b->Br y p):Br (bif BK a b then x else y) p:=by
 rw [S7];exact Ia (IA (λ h=>h2 (Az h)) (λ h=>h1 (of_decide_eq_false h)))
theorem I9 {a b:ByteArray} (h1:a=b->Br x p) (h2:a≠b->Br y p):Br (bif Cz a b then x else y) p:=by
 rw [MI];exact IA (λ h=>h1 (Az h)) (λ h=>h2 (of_decide_eq_false h))
theorem CW {i n:Int} (h:0<=i/\i<n) (k:Br x p):Br (bif Bf i n then x else none) p:=by
 rw [KB,Aq h];exact k
theorem FJ {a b n:Int} (h:0<=a/\a<=b/\b<=n) (k:Br x p):Br (bif CJ a b n then x else none) p:=by
 rw [X1,Aq h];exact k
theorem H9 {n b:Nat} (h:n*b<=140737488355328) (k:Br x p):Br (bif B1 n b then x else none) p:=by
 rw [ya,Aq h];exact k
end
theorem Bq {i n:Int} (h:0<=i/\i<n:=by first | omega | (rw [Ba];omega)):Bf i n=true:=by rw [KB];exact Aq h
theorem Dg {a b n:Int} (h:0<=a/\a<=b/\b<=n):CJ a b n=true:=by rw [X1];exact Aq h
theorem Bw {a b:Int} (h:a<b:=by omega):A8 a b=true:=Aq h
theorem Be {a b:Int} (h:b<=a:=by omega):A8 a b=false:=Ax (Int.not_lt.2 h)
theorem CH {a b:Int} (h:a<=b:=by omega):BC a b=true:=Aq h
theorem Gc {a b:Int} (h:b<a:=by omega):BC a b=false:=Ax (Int.not_le.2 h)
theorem Ci {a b:Int} (h:a=b:=by omega):A9 a b=true:=Aq h
theorem Ca {a b:Int} (h:a≠b:=by omega):A9 a b=false:=Ax h
theorem Fh {a b:Int} (h:a≠b:=by omega):BK a b=true:=by rw [S7,Ax h];rfl
theorem Cs {a b:Int} (h:a=b:=by omega):BK a b=false:=by rw [S7,Aq h];rfl
theorem Cp {n b:Nat} (h:n*b<=140737488355328):B1 n b=true:=by rw [ya];exact Aq h
theorem FH {n:Int} (h: -9223372036854775808<=n/\n<9223372036854775808:=by omega):IntKind.wrap .i64 n=n:=IL h.1 h.2
theorem Bk {a b:Int} (h: -9223372036854775808<=a+b/\a+b<9223372036854775808:=by omega):A7 .i64 a b=a+b:=IL h.1 h.2
theorem CA {a b:Int} (h: -9223372036854775808<=a-b/\a-b<9223372036854775808:=by omega):Bt .i64 a b=a-b:=IL h.1 h.2
theorem Kv {a b:Int} (h: -9223372036854775808<=a*b/\a*b<9223372036854775808:=by omega):CI .i64 a b=a*b:=IL h.1 h.2
theorem Gp {a b:ByteArray} (h:a=b):Cz a b=true:=by rw [MI];exact Aq h
theorem K6 {a b:ByteArray} (h:a≠b):Cz a b=false:=by rw [MI];exact Ax h
end Go.AM.Pure
