import Derived.Test.YtclpadlpcfnfmaaGreatAmWords
import Derived.Laws.Strings
/- Laws of the printed functions' words. -/
namespace Go.AM
@[simp] theorem cC (a b : Int) : eqI a b = decide (a = b) := rfl
@[simp] theorem Zku (a b : Int) : neI a b = !decide (a = b) := rfl
@[simp] theorem Zac1 (a b : Int) : ltI a b = decide (a < b) := rfl
@[simp] theorem Zlu (a b : Int) : leI a b = decide (a ≤ b) := rfl
@[simp] theorem Zmu (a b : Bool) : eqB a b = (a == b) := rfl
@[simp] theorem dP {α : Type} (c : Bool) (a b : α) : (bif c then a else b) = if c = true then a else b := Bool.cond_eq_ite ..
@[simp] theorem Zbc1 {α : Type} (m : Option α) : (m.bind fun r => some r) = m := by cases m <;> rfl
theorem Li {a b:ByteArray}:a.data.toList=b.data.toList↔a=b:=by
 constructor
 ·intro h
  cases a;cases b
  simp only [ByteArray.mk.injEq]
  exact Array.ext' h
 ·rintro rfl;rfl
@[simp] theorem LQ (a b : ByteArray) : eqS a b = decide (a = b) := by
 unfold eqS
 rw [ByteArray.toList_eq,ByteArray.toList_eq]
 by_cases h:a=b
 ·subst h;simp
 ·have h2:¬ a.data.toList=b.data.toList:=fun e=>h (Li.1 e)
  rw [decide_eq_false h,beq_eq_false_iff_ne]
  exact h2
theorem Iw (i n:Int):inB i n=decide (0≤i∧i<n):=by unfold inB;simp
theorem cD (lo hi n:Int):inC lo hi n=decide (0≤lo∧lo≤hi∧hi≤n):=by unfold inC;simp
theorem Zax (n b:Nat):Bw n b=decide (n*b≤140737488355328):=rfl
@[simp] theorem Zai1 (i n : Nat) : inB (i : Int) (n : Int) = decide (i < n) := by rw [Iw]; congr 1; simp
theorem Aq {α:Type} (l:List α):Ai l=(l.length:Int):=rfl
theorem CB (s:ByteArray):AX s=(s.size:Int):=rfl
theorem Zbx {α:Type} (l:List α) (i:Nat) (z:α):nth l (i:Int) z=l.getD i z:=rfl
theorem AQ {α:Type} {l:List α} {i:Nat} (h:i<l.length) (z:α):nth l (i:Int) z=l[i]:=by
 rw [Zbx,List.getD_eq_getElem?_getD,List.getElem?_eq_getElem h];rfl
theorem Ew {n:Int} (h1: -9223372036854775808≤n) (h2:n<9223372036854775808):IntKind.wrap .i64 n=n:=by
 unfold IntKind.wrap
 show (if (true && decide (n % (18446744073709551616:Int) ≥ 9223372036854775808))=true then n % (18446744073709551616:Int)-18446744073709551616 else n % (18446744073709551616:Int))=n
 simp only [Bool.true_and,decide_eq_true_eq]
 split <;> omega
theorem Fp {a b:Int} (h1: -9223372036854775808≤a+b) (h2:a+b<9223372036854775808):An .i64 a b=a+b:=Ew h1 h2
theorem Om {a b:Int} (h1: -9223372036854775808≤a-b) (h2:a-b<9223372036854775808):AT .i64 a b=a-b:=Ew h1 h2
theorem YF {a b:Int} (h1: -9223372036854775808≤a*b) (h2:a*b<9223372036854775808):Df .i64 a b=a*b:=Ew h1 h2
end Go.AM
