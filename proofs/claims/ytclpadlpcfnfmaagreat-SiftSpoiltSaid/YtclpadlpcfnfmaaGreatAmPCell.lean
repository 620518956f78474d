import Derived.Test.YtclpadlpcfnfmaaGreatAmPure17
import Derived.Test.YtclpadlpcfnfmaaGreatAmPLib
/- Which of two cells stands first: an order. -/
namespace Go.AM.Pure
open Go.AM
abbrev Cell:=Int×Int×ByteArray
structure Ord3 {α:Type} (c:α->α->Int):Prop where
 eq0:∀ a b,c a b=0↔a=b
 neg:∀ a b,c b a = -c a b
 rng:∀ a b,c a b = -1\/c a b=0\/c a b=1
 tr:∀ a b d,c a b = -1->c b d = -1->c a d = -1
def QD {α β:Type} (c:α->α->Int) (d:β->β->Int) (a b:α×β):Int:=if c a.1 b.1≠0 then c a.1 b.1 else d a.2 b.2
theorem Ord3.lex {α β:Type} {c:α->α->Int} {d:β->β->Int} (h:Ord3 c) (k:Ord3 d):Ord3 (QD c d) where
 eq0:=λ a b=>by
  unfold QD;by_cases hc:c a.1 b.1=0
  ·have:=(h.eq0 _ _).1 hc;rw [if_neg (by simp [hc]),k.eq0];constructor
   ·intro e;exact Prod.ext this e
   ·rintro rfl;rfl
  ·rw [if_pos hc];constructor
   ·intro e;exact absurd e hc
   ·rintro rfl;exact absurd ((h.eq0 _ _).2 rfl) hc
 neg:=λ a b=>by
  unfold QD;rw [h.neg a.1 b.1,k.neg a.2 b.2];by_cases hc:c a.1 b.1=0
  ·simp [hc]
  ·have:¬ (-c a.1 b.1=0):=by omega
   simp [hc,this]
 rng:=λ a b=>by
  unfold QD;split
  ·exact h.rng _ _
  ·exact k.rng _ _
 tr:=λ a b e h1 h2=>by
  unfold QD at *;by_cases x:c a.1 b.1=0
  ·have hx:=(h.eq0 _ _).1 x;rw [if_neg (by simp [x])] at h1;by_cases y:c b.1 e.1=0
   ·have hy:=(h.eq0 _ _).1 y;rw [if_neg (by simp [y])] at h2;rw [if_neg (by simp [hx,y]),k.tr _ _ _ h1 h2]
   ·rw [if_pos y] at h2;rw [hx,if_pos y,h2]
  ·rw [if_pos x] at h1;by_cases y:c b.1 e.1=0
   ·have hy:=(h.eq0 _ _).1 y;rw [<- hy,if_pos x,h1]
   ·rw [if_pos y] at h2;have:=h.tr _ _ _ h1 h2;rw [if_pos Ad,this]
def GJ (a b:Int):Int:=if a<b then -1 else if b<a then 1 else 0
theorem WW:Ord3 GJ where
 eq0:=λ a b=>by unfold GJ;split <;> (try split) <;> omega
 neg:=λ a b=>by unfold GJ;split <;> split <;> omega
 rng:=λ a b=>by unfold GJ;split <;> (try split) <;> simp
 tr:=λ a b d=>by
  unfold GJ;repeat' split
  all_goals omega
theorem Qh:∀ a b:List UInt8,Lib.compareBytes a b=0↔a=b
 | [],[]=>by simp [Lib.compareBytes]
 | [],_ :: _=>by simp [Lib.compareBytes]
 | _ :: _,[]=>by simp [Lib.compareBytes]
 | a :: as,b :: bs=>by
  unfold Lib.compareBytes;by_cases h:a<b
  ·rw [if_pos h];simp;rintro rfl;exact absurd h (UInt8.lt_irrefl _)
  ·rw [if_neg h];by_cases k:b<a
   ·rw [if_pos k];simp;rintro rfl;exact absurd k (UInt8.lt_irrefl _)
   ·rw [if_neg k,Qh as bs];have:a=b:=UInt8.le_antisymm (UInt8.not_lt.1 k) (UInt8.not_lt.1 h);simp [this]
theorem Xd:∀ a b:List UInt8,Lib.compareBytes b a = -Lib.compareBytes a b
 | [],[]=>by simp [Lib.compareBytes]
 | [],_ :: _=>by simp [Lib.compareBytes]
 | _ :: _,[]=>by simp [Lib.compareBytes]
 | a :: as,b :: bs=>by
  unfold Lib.compareBytes;by_cases h:a<b
  ·have:¬ b<a:=UInt8.lt_asymm h;simp [h,this]
  ·by_cases k:b<a
   ·simp [h,k]
   ·simp [h,k,Xd as bs]
theorem O0:∀ a b:List UInt8,Lib.compareBytes a b = -1\/Lib.compareBytes a b=0\/Lib.compareBytes a b=1
 | [],[]=>by simp [Lib.compareBytes]
 | [],_ :: _=>by simp [Lib.compareBytes]
 | _ :: _,[]=>by simp [Lib.compareBytes]
 | a :: as,b :: bs=>by
  unfold Lib.compareBytes;split
  ·simp
  ·split
   ·simp
   ·exact O0 as bs
theorem c8:∀ a b d:List UInt8,Lib.compareBytes a b = -1->Lib.compareBytes b d = -1->Lib.compareBytes a d = -1
 | [],[],_,h,_=>by simp [Lib.compareBytes] at h
 | [],_ :: _,[],_,h=>by simp [Lib.compareBytes] at h
 | [],_ :: _,_ :: _,_,_=>by simp [Lib.compareBytes]
 | _ :: _,[],_,h,_=>by simp [Lib.compareBytes] at h
 | _ :: _,_ :: _,[],_,h=>by simp [Lib.compareBytes] at h
 | a :: as,b :: bs,d :: ds,h1,h2=>by
  unfold Lib.compareBytes at *;by_cases x:a<b
  ·by_cases y:b<d
   ·simp [UInt8.lt_trans x y]
   ·rw [if_neg y] at h2;by_cases z:d<b
    ·rw [if_pos z] at h2;simp at h2
    ·have:b=d:=UInt8.le_antisymm (UInt8.not_lt.1 z) (UInt8.not_lt.1 y);subst this;simp [x]
  ·rw [if_neg x] at h1;by_cases z:b<a
   ·rw [if_pos z] at h1;simp at h1
   ·have:a=b:=UInt8.le_antisymm (UInt8.not_lt.1 z) (UInt8.not_lt.1 x);subst this;rw [if_neg z] at h1;by_cases y:a<d
    ·simp [y]
    ·rw [if_neg y] at h2 ⊢;by_cases u:d<a
     ·rw [if_pos u] at h2;simp at h2
     ·rw [if_neg u] at h2 ⊢;exact c8 as bs ds h1 h2
theorem yc:∀ a b:List UInt8,Op.bytesLess a b=decide (Lib.compareBytes a b = -1)
 | [],[]=>by simp [Lib.compareBytes,Op.bytesLess]
 | [],_ :: _=>by simp [Lib.compareBytes,Op.bytesLess]
 | _ :: _,[]=>by simp [Lib.compareBytes,Op.bytesLess]
 | a :: as,b :: bs=>by
  unfold Lib.compareBytes Op.bytesLess;by_cases h:a<b
  ·simp [h]
  ·by_cases k:b<a
   ·have:¬ a=b:=by rintro rfl;exact absurd k (UInt8.lt_irrefl _)
    simp [h,k,this]
   ·have:a=b:=UInt8.le_antisymm (UInt8.not_lt.1 k) (UInt8.not_lt.1 h);subst this;simp [h,yc as bs]
theorem MB:Ord3 Ir where
 eq0:=λ a b=>by unfold Ir;rw [Qh,Su]
 neg:=λ a b=>Xd _ _
 rng:=λ a b=>O0 _ _
 tr:=λ a b d=>c8 _ _ _
theorem c9 (a b:ByteArray):KK a b=decide (Ir a b = -1):=by
 unfold KK Ir;rw [ByteArray.toList_eq,ByteArray.toList_eq,yc]
def cC:Cell->Cell->Int:=QD GJ (QD GJ Ir)
theorem bF:Ord3 cC:=WW.lex (WW.lex MB)
theorem rp (x y:Int):PG x y=GJ x y:=by
 simp [PG,cmp_isNaN_int,GJ]
theorem Yxv (l:List Int) (hl:l.length<4611686018427387904):∀ (d i n:Nat),d=l.length-i->i<=l.length->d<n->
  IK.l0 n 0 l (l.length:Int) (i:Int)=some (((l.drop i).find? λ x=>decide (x≠0)).getD 0):=by
 intro d;induction d with
 | zero=>
  intro i n hd hi hn;obtain ⟨m,rfl⟩:∃ m,n=m+1:=⟨n-1,Ad⟩;show IK.S0 (IK.l0 m) 0 l (l.length:Int) (i:Int)=_;unfold IK.S0;have:¬ ((i:Int)<(l.length:Int)):=Ad
  have hi':i=l.length:=Ad
  subst hi';simp
 | succ d ih=>
  intro i n hd hi hn;obtain ⟨m,rfl⟩:∃ m,n=m+1:=⟨n-1,Ad⟩;show IK.S0 (IK.l0 m) 0 l (l.length:Int) (i:Int)=_;unfold IK.S0;have h1:i<l.length:=Ad
  have h2:(i:Int)<(l.length:Int):=by omega
  rw [BE h1,Ba,Iz Ad Ad];simp only [c7,yb,S7,h1,h2,decide_true,Ak];rw [List.drop_eq_getElem_cons h1,List.find?_cons];by_cases hz:l[i]=0
  ·simp only [hz,decide_true,Bool.not_true,Al,ne_eq,not_true_eq_false,decide_false];exact ih (i+1) m Ad Ad Ad
  ·simp [hz]
theorem Zdt (l:List Int) (hl:l.length<4611686018427387904):IK l=some ((l.find? λ x=>decide (x≠0)).getD 0):=by
 have:=Yxv l hl (l.length-0) 0 fu rfl Ad Ae
 rwa [List.drop_zero] at this
theorem Zis (a b:Cell):ZB a b=some (cC a b):=by
 unfold ZB;rw [s6,Zdt _ Ah,rp,rp];unfold cC QD;by_cases h1:GJ a.1 b.1=0
 ·by_cases h2:GJ a.2.1 b.2.1=0
  ·by_cases h3:Ir a.2.2 b.2.2=0 <;> simp [h1,h2,h3]
  ·simp [h1,h2]
 ·simp [h1]
theorem Yhd {a b:Cell}:a.1=b.1/\a.2.1=b.2.1/\a.2.2=b.2.2↔a=b:=by
 obtain ⟨x,y,z⟩:=a;obtain ⟨x',y',z'⟩:=b;simp
theorem Yyv (a b:Cell):(A9 a.1 b.1 && (A9 a.2.1 b.2.1 && Cz a.2.2 b.2.2))=decide (a=b):=by
 rw [RE,RE,MI,<- Bool.decide_and,<- Bool.decide_and];exact decide_eq_decide.2 Yhd
end Go.AM.Pure
