import Derived.Test.YtclpadlpcfnfmaaGreatAmWords
import Derived.Laws.Strings
/- Laws of the printed functions' words. -/
namespace Go.AM
@[simp] theorem Pc (a b : Int) : AR a b = decide (a = b) := rfl
@[simp] theorem TP (a b : Int) : By a b = !decide (a = b) := rfl
@[simp] theorem Wp (a b : Int) : AS a b = decide (a < b) := rfl
@[simp] theorem aQ (a b : Int) : Bq a b = decide (a ≤ b) := rfl
@[simp] theorem Zld (a b : Bool) : Sh a b = (a == b) := rfl
@[simp] theorem Te {α : Type} (c : Bool) (a b : α) : (bif c then a else b) = if c = true then a else b := Bool.cond_eq_ite ..
@[simp] theorem pv {α : Type} (m : Option α) : (m.bind fun r => some r) = m := by cases m <;> rfl
theorem SY {a b:ByteArray}:a.data.toList=b.data.toList↔a=b:=by
 constructor
 ·intro h
  cases a;cases b
  simp only [ByteArray.mk.injEq]
  exact Array.ext' h
 ·rintro rfl;rfl
@[simp] theorem M7 (a b : ByteArray) : Cn a b = decide (a = b) := by
 unfold Cn
 rw [ByteArray.toList_eq,ByteArray.toList_eq]
 by_cases h:a=b
 ·subst h;simp
 ·have h2:¬ a.data.toList=b.data.toList:=fun e=>h (SY.1 e)
  rw [An h,beq_eq_false_iff_ne]
  exact h2
theorem JF (i n:Int):AX i n=decide (0≤i∧i<n):=by unfold AX;simp
theorem aP (lo hi n:Int):CU lo hi n=decide (0≤lo∧lo≤hi∧hi≤n):=by unfold CU;simp
theorem tQ (n b:Nat):BM n b=decide (n*b≤140737488355328):=rfl
@[simp] theorem tR (i n : Nat) : AX (i : Int) (n : Int) = decide (i < n) := by rw [JF]; congr 1; simp
theorem AW {α:Type} (l:List α):AP l=(l.length:Int):=rfl
theorem C6 (s:ByteArray):Bh s=(s.size:Int):=rfl
theorem tL {α:Type} (l:List α) (i:Nat) (z:α):nth l (i:Int) z=l.getD i z:=rfl
theorem Bz {α:Type} {l:List α} {i:Nat} (h:i<l.length) (z:α):nth l (i:Int) z=l[i]:=by
 rw [tL,Ax,Ap h];rfl
theorem IB {n:Int} (h1: -9223372036854775808≤n) (h2:n<9223372036854775808):IntKind.wrap .i64 n=n:=by
 unfold IntKind.wrap
 show (if (true && decide (n % (18446744073709551616:Int) ≥ 9223372036854775808))=true then n % (18446744073709551616:Int)-18446744073709551616 else n % (18446744073709551616:Int))=n
 simp only [AB,decide_eq_true_eq]
 split <;> omega
theorem Ie {a b:Int} (h1: -9223372036854775808≤a+b) (h2:a+b<9223372036854775808):AQ .i64 a b=a+b:=IB h1 h2
theorem Tp {a b:Int} (h1: -9223372036854775808≤a-b) (h2:a-b<9223372036854775808):Be .i64 a b=a-b:=IB h1 h2
theorem fT {a b:Int} (h1: -9223372036854775808≤a*b) (h2:a*b<9223372036854775808):Cj .i64 a b=a*b:=IB h1 h2
end Go.AM
