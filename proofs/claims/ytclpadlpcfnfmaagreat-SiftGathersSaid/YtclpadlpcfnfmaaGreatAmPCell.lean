import Derived.Test.YtclpadlpcfnfmaaGreatAmPure17
import Derived.Test.YtclpadlpcfnfmaaGreatAmPLib
import Derived.KernelRfl
/- Which of two cells stands first: an order. -/
namespace Go.AM.Pure
open Go.AM
abbrev Cell:=Int×Int×ByteArray
structure Ord3 {α:Type} (c:α→α→Int):Prop where
 eq0:∀ a b,c a b=0↔a=b
 neg:∀ a b,c b a = -c a b
 rng:∀ a b,c a b = -1∨c a b=0∨c a b=1
 tr:∀ a b d,c a b = -1→c b d = -1→c a d = -1
def sgn (a b:Int):Int:=if a<b then -1 else if b<a then 1 else 0
theorem YG:Ord3 sgn where
 eq0:=fun a b=>by unfold sgn;split <;> (try split) <;> omega
 neg:=fun a b=>by unfold sgn;split <;> split <;> omega
 rng:=fun a b=>by unfold sgn;split <;> (try split) <;> simp
 tr:=fun a b d=>by
  unfold sgn;repeat' split
  all_goals omega
theorem LR:∀ a b:List UInt8,Lib.compareBytes a b=0↔a=b
 | [],[]=>by simp [Lib.compareBytes]
 | [],_ :: _=>by simp [Lib.compareBytes]
 | _ :: _,[]=>by simp [Lib.compareBytes]
 | a :: as,b :: bs=>by
  unfold Lib.compareBytes
  by_cases h:a<b
  ·rw [if_pos h];simp;rintro rfl;exact absurd h (UInt8.lt_irrefl _)
  ·rw [if_neg h]
   by_cases k:b<a
   ·rw [if_pos k];simp;rintro rfl;exact absurd k (UInt8.lt_irrefl _)
   ·rw [if_neg k,LR as bs]
    have:a=b:=UInt8.le_antisymm (UInt8.not_lt.1 k) (UInt8.not_lt.1 h)
    simp [this]
theorem Sg:∀ a b:List UInt8,Lib.compareBytes b a = -Lib.compareBytes a b
 | [],[]=>by simp [Lib.compareBytes]
 | [],_ :: _=>by simp [Lib.compareBytes]
 | _ :: _,[]=>by simp [Lib.compareBytes]
 | a :: as,b :: bs=>by
  unfold Lib.compareBytes
  by_cases h:a<b
  ·have:¬ b<a:=UInt8.lt_asymm h
   simp [h,this]
  ·by_cases k:b<a
   ·simp [h,k]
   ·simp [h,k,Sg as bs]
theorem Ku:∀ a b:List UInt8,Lib.compareBytes a b = -1∨Lib.compareBytes a b=0∨Lib.compareBytes a b=1
 | [],[]=>by simp [Lib.compareBytes]
 | [],_ :: _=>by simp [Lib.compareBytes]
 | _ :: _,[]=>by simp [Lib.compareBytes]
 | a :: as,b :: bs=>by
  unfold Lib.compareBytes
  split
  ·simp
  ·split
   ·simp
   ·exact Ku as bs
theorem cE:∀ a b d:List UInt8,Lib.compareBytes a b = -1→Lib.compareBytes b d = -1→Lib.compareBytes a d = -1
 | [],[],_,h,_=>by simp [Lib.compareBytes] at h
 | [],_ :: _,[],_,h=>by simp [Lib.compareBytes] at h
 | [],_ :: _,_ :: _,_,_=>by simp [Lib.compareBytes]
 | _ :: _,[],_,h,_=>by simp [Lib.compareBytes] at h
 | _ :: _,_ :: _,[],_,h=>by simp [Lib.compareBytes] at h
 | a :: as,b :: bs,d :: ds,h1,h2=>by
  unfold Lib.compareBytes at *
  by_cases x:a<b
  ·by_cases y:b<d
   ·simp [UInt8.lt_trans x y]
   ·rw [if_neg y] at h2
    by_cases z:d<b
    ·rw [if_pos z] at h2;simp at h2
    ·have:b=d:=UInt8.le_antisymm (UInt8.not_lt.1 z) (UInt8.not_lt.1 y)
     subst this;simp [x]
  ·rw [if_neg x] at h1
   by_cases z:b<a
   ·rw [if_pos z] at h1;simp at h1
   ·have:a=b:=UInt8.le_antisymm (UInt8.not_lt.1 z) (UInt8.not_lt.1 x)
    subst this
    rw [if_neg z] at h1
    by_cases y:a<d
    ·simp [y]
    ·rw [if_neg y] at h2 ⊢
     by_cases u:d<a
     ·rw [if_pos u] at h2;simp at h2
     ·rw [if_neg u] at h2 ⊢
      exact cE as bs ds h1 h2
theorem kN:∀ a b:List UInt8,Op.bytesLess a b=decide (Lib.compareBytes a b = -1)
 | [],[]=>by simp [Lib.compareBytes,Op.bytesLess]
 | [],_ :: _=>by simp [Lib.compareBytes,Op.bytesLess]
 | _ :: _,[]=>by simp [Lib.compareBytes,Op.bytesLess]
 | a :: as,b :: bs=>by
  unfold Lib.compareBytes Op.bytesLess
  by_cases h:a<b
  ·simp [h]
  ·by_cases k:b<a
   ·have:¬ a=b:=by rintro rfl;exact absurd k (UInt8.lt_irrefl _)
    simp [h,k,this]
   ·have:a=b:=UInt8.le_antisymm (UInt8.not_lt.1 k) (UInt8.not_lt.1 h)
    subst this
    simp [h,kN as bs]
theorem Im:Ord3 Ik where
 eq0:=fun a b=>by unfold Ik;rw [LR,Li]
 neg:=fun a b=>Sg _ _
 rng:=fun a b=>Ku _ _
 tr:=fun a b d=>cE _ _ _
theorem cF (a b:ByteArray):ltS a b=decide (Ik a b = -1):=by
 unfold ltS Ik
 rw [ByteArray.toList_eq,ByteArray.toList_eq,kN]
end Go.AM.Pure
