import Derived.Test.YtclpadlpcfnfmaaGreatAmWords
import Derived.Laws.Strings
/- Laws of the printed functions' words. -/
namespace Go.AM
@[simp] theorem RE (a b : Int) : A9 a b = decide (a = b) := rfl
@[simp] theorem S7 (a b : Int) : BK a b = !decide (a = b) := rfl
@[simp] theorem c7 (a b : Int) : A8 a b = decide (a < b) := rfl
@[simp] theorem oc (a b : Int) : BC a b = decide (a <= b) := rfl
@[simp] theorem Zmm (a b : Bool) : RZ a b = (a == b) := rfl
@[simp] theorem WK {α : Type} (c : Bool) (a b : α) : (bif c then a else b) = if c = true then a else b := Bool.cond_eq_ite ..
@[simp] theorem s6 {α : Type} (m : Option α) : (m.bind λ r => some r) = m := by cases m <;> rfl
theorem Su {a b:ByteArray}:a.data.toList=b.data.toList↔a=b:=by
 constructor
 ·intro h;cases a;cases b;simp only [ByteArray.mk.injEq];exact Array.ext' h
 ·rintro rfl;rfl
@[simp] theorem MI (a b : ByteArray) : Cz a b = decide (a = b) := by
 unfold Cz;rw [ByteArray.toList_eq,ByteArray.toList_eq];by_cases h:a=b
 ·subst h;simp
 ·have h2:¬ a.data.toList=b.data.toList:=λ e=>h (Su.1 e)
  rw [Ax h,beq_eq_false_iff_ne];exact h2
theorem KB (i n:Int):Bf i n=decide (0<=i/\i<n):=by unfold Bf;simp
theorem X1 (lo hi n:Int):CJ lo hi n=decide (0<=lo/\lo<=hi/\hi<=n):=by unfold CJ;simp
theorem ya (n b:Nat):B1 n b=decide (n*b<=140737488355328):=rfl
@[simp] theorem yb (i n : Nat) : Bf (i : Int) (n : Int) = decide (i < n) := by rw [KB]; congr 1; simp
theorem Ba {α:Type} (l:List α):AZ l=(l.length:Int):=rfl
theorem Cc (s:ByteArray):Bg s=(s.size:Int):=rfl
theorem Ywv {α:Type} (l:List α) (i:Nat) (z:α):nth l (i:Int) z=l.getD i z:=rfl
theorem BE {α:Type} {l:List α} {i:Nat} (h:i<l.length) (z:α):nth l (i:Int) z=l[i]:=by
 rw [Ywv,AK,AD h];rfl
theorem IL {n:Int} (h1: -9223372036854775808<=n) (h2:n<9223372036854775808):IntKind.wrap .i64 n=n:=by
 unfold IntKind.wrap;show (if (true && decide (n % (18446744073709551616:Int) >= 9223372036854775808))=true then n % (18446744073709551616:Int)-18446744073709551616 else n % (18446744073709551616:Int))=n;simp only [AH,decide_eq_true_eq];split <;> omega
theorem Iz {a b:Int} (h1: -9223372036854775808<=a+b) (h2:a+b<9223372036854775808):A7 .i64 a b=a+b:=IL h1 h2
theorem UK {a b:Int} (h1: -9223372036854775808<=a-b) (h2:a-b<9223372036854775808):Bt .i64 a b=a-b:=IL h1 h2
theorem aQ {a b:Int} (h1: -9223372036854775808<=a*b) (h2:a*b<9223372036854775808):CI .i64 a b=a*b:=IL h1 h2
end Go.AM
