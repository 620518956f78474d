import Derived.Test.YtclpadlpcfnfmaaGreatAmPure17
import Derived.Test.YtclpadlpcfnfmaaGreatAmPLib
import Derived.KernelRfl
/- Which of two cells stands first: an order. -/
namespace Go.AM.Pure
open Go.AM
abbrev Cell:=Int×Int×ByteArray
structure Ord3 {α:Type} (c:α→α→Int):Prop where
 eq0:∀ a b,c a b=0↔a=b
 neg:∀ a b,c b a = -c a b
 rng:∀ a b,c a b = -1∨c a b=0∨c a b=1
 tr:∀ a b d,c a b = -1→c b d = -1→c a d = -1
def N9 {α β:Type} (c:α→α→Int) (d:β→β→Int) (a b:α×β):Int:=if c a.1 b.1≠0 then c a.1 b.1 else d a.2 b.2
theorem Ord3.lex {α β:Type} {c:α→α→Int} {d:β→β→Int} (h:Ord3 c) (k:Ord3 d):Ord3 (N9 c d) where
 eq0:=fun a b=>by
  unfold N9
  by_cases hc:c a.1 b.1=0
  ·have:=(h.eq0 _ _).1 hc
   rw [if_neg (by simp [hc]),k.eq0]
   constructor
   ·intro e;exact Prod.ext this e
   ·rintro rfl;rfl
  ·rw [if_pos hc]
   constructor
   ·intro e;exact absurd e hc
   ·rintro rfl;exact absurd ((h.eq0 _ _).2 rfl) hc
 neg:=fun a b=>by
  unfold N9
  rw [h.neg a.1 b.1,k.neg a.2 b.2]
  by_cases hc:c a.1 b.1=0
  ·simp [hc]
  ·have:¬ (-c a.1 b.1=0):=by omega
   simp [hc,this]
 rng:=fun a b=>by
  unfold N9
  split
  ·exact h.rng _ _
  ·exact k.rng _ _
 tr:=fun a b e h1 h2=>by
  unfold N9 at *
  by_cases x:c a.1 b.1=0
  ·have hx:=(h.eq0 _ _).1 x
   rw [if_neg (by simp [x])] at h1
   by_cases y:c b.1 e.1=0
   ·have hy:=(h.eq0 _ _).1 y
    rw [if_neg (by simp [y])] at h2
    rw [if_neg (by simp [hx,y]),k.tr _ _ _ h1 h2]
   ·rw [if_pos y] at h2
    rw [hx,if_pos y,h2]
  ·rw [if_pos x] at h1
   by_cases y:c b.1 e.1=0
   ·have hy:=(h.eq0 _ _).1 y
    rw [← hy,if_pos x,h1]
   ·rw [if_pos y] at h2
    have:=h.tr _ _ _ h1 h2
    rw [if_pos (by omega),this]
def FH (a b:Int):Int:=if a<b then -1 else if b<a then 1 else 0
theorem Vp:Ord3 FH where
 eq0:=fun a b=>by unfold FH;split <;> (try split) <;> omega
 neg:=fun a b=>by unfold FH;split <;> split <;> omega
 rng:=fun a b=>by unfold FH;split <;> (try split) <;> simp
 tr:=fun a b d=>by
  unfold FH;repeat' split
  all_goals omega
theorem O4:∀ a b:List UInt8,Lib.compareBytes a b=0↔a=b
 | [],[]=>by simp [Lib.compareBytes]
 | [],_ :: _=>by simp [Lib.compareBytes]
 | _ :: _,[]=>by simp [Lib.compareBytes]
 | a :: as,b :: bs=>by
  unfold Lib.compareBytes
  by_cases h:a<b
  ·rw [if_pos h];simp;rintro rfl;exact absurd h (UInt8.lt_irrefl _)
  ·rw [if_neg h]
   by_cases k:b<a
   ·rw [if_pos k];simp;rintro rfl;exact absurd k (UInt8.lt_irrefl _)
   ·rw [if_neg k,O4 as bs]
    have:a=b:=UInt8.le_antisymm (UInt8.not_lt.1 k) (UInt8.not_lt.1 h)
    simp [this]
theorem VE:∀ a b:List UInt8,Lib.compareBytes b a = -Lib.compareBytes a b
 | [],[]=>by simp [Lib.compareBytes]
 | [],_ :: _=>by simp [Lib.compareBytes]
 | _ :: _,[]=>by simp [Lib.compareBytes]
 | a :: as,b :: bs=>by
  unfold Lib.compareBytes
  by_cases h:a<b
  ·have:¬ b<a:=UInt8.lt_asymm h
   simp [h,this]
  ·by_cases k:b<a
   ·simp [h,k]
   ·simp [h,k,VE as bs]
theorem NP:∀ a b:List UInt8,Lib.compareBytes a b = -1∨Lib.compareBytes a b=0∨Lib.compareBytes a b=1
 | [],[]=>by simp [Lib.compareBytes]
 | [],_ :: _=>by simp [Lib.compareBytes]
 | _ :: _,[]=>by simp [Lib.compareBytes]
 | a :: as,b :: bs=>by
  unfold Lib.compareBytes
  split
  ·simp
  ·split
   ·simp
   ·exact NP as bs
theorem aR:∀ a b d:List UInt8,Lib.compareBytes a b = -1→Lib.compareBytes b d = -1→Lib.compareBytes a d = -1
 | [],[],_,h,_=>by simp [Lib.compareBytes] at h
 | [],_ :: _,[],_,h=>by simp [Lib.compareBytes] at h
 | [],_ :: _,_ :: _,_,_=>by simp [Lib.compareBytes]
 | _ :: _,[],_,h,_=>by simp [Lib.compareBytes] at h
 | _ :: _,_ :: _,[],_,h=>by simp [Lib.compareBytes] at h
 | a :: as,b :: bs,d :: ds,h1,h2=>by
  unfold Lib.compareBytes at *
  by_cases x:a<b
  ·by_cases y:b<d
   ·simp [UInt8.lt_trans x y]
   ·rw [if_neg y] at h2
    by_cases z:d<b
    ·rw [if_pos z] at h2;simp at h2
    ·have:b=d:=UInt8.le_antisymm (UInt8.not_lt.1 z) (UInt8.not_lt.1 y)
     subst this;simp [x]
  ·rw [if_neg x] at h1
   by_cases z:b<a
   ·rw [if_pos z] at h1;simp at h1
   ·have:a=b:=UInt8.le_antisymm (UInt8.not_lt.1 z) (UInt8.not_lt.1 x)
    subst this
    rw [if_neg z] at h1
    by_cases y:a<d
    ·simp [y]
    ·rw [if_neg y] at h2 ⊢
     by_cases u:d<a
     ·rw [if_pos u] at h2;simp at h2
     ·rw [if_neg u] at h2 ⊢
      exact aR as bs ds h1 h2
theorem tS:∀ a b:List UInt8,Op.bytesLess a b=decide (Lib.compareBytes a b = -1)
 | [],[]=>by simp [Lib.compareBytes,Op.bytesLess]
 | [],_ :: _=>by simp [Lib.compareBytes,Op.bytesLess]
 | _ :: _,[]=>by simp [Lib.compareBytes,Op.bytesLess]
 | a :: as,b :: bs=>by
  unfold Lib.compareBytes Op.bytesLess
  by_cases h:a<b
  ·simp [h]
  ·by_cases k:b<a
   ·have:¬ a=b:=by rintro rfl;exact absurd k (UInt8.lt_irrefl _)
    simp [h,k,this]
   ·have:a=b:=UInt8.le_antisymm (UInt8.not_lt.1 k) (UInt8.not_lt.1 h)
    subst this
    simp [h,tS as bs]
theorem Lz:Ord3 GZ where
 eq0:=fun a b=>by unfold GZ;rw [O4,SY]
 neg:=fun a b=>VE _ _
 rng:=fun a b=>NP _ _
 tr:=fun a b d=>aR _ _ _
theorem Wq (a b:ByteArray):IY a b=decide (GZ a b = -1):=by
 unfold IY GZ
 rw [ByteArray.toList_eq,ByteArray.toList_eq,tS]
def cC:Cell→Cell→Int:=N9 FH (N9 FH GZ)
theorem TC:Ord3 cC:=Vp.lex (Vp.lex Lz)
theorem nR (x y:Int):Ow x y=FH x y:=by
 simp [Ow,cmp_isNaN_int,FH]
theorem Yej (l:List Int) (hl:l.length<4611686018427387904):∀ (d i n:Nat),d=l.length-i→i≤l.length→d<n→
  Hv.l0 n 0 l (l.length:Int) (i:Int)=some (((l.drop i).find? fun x=>decide (x≠0)).getD 0):=by
 intro d
 induction d with
 | zero=>
  intro i n hd hi hn
  obtain ⟨m,rfl⟩:∃ m,n=m+1:=⟨n-1,by omega⟩
  show Hv.S0 (Hv.l0 m) 0 l (l.length:Int) (i:Int)=_
  unfold Hv.S0
  have:¬ ((i:Int)<(l.length:Int)):=by omega
  have hi':i=l.length:=by omega
  subst hi'
  simp
 | succ d ih=>
  intro i n hd hi hn
  obtain ⟨m,rfl⟩:∃ m,n=m+1:=⟨n-1,by omega⟩
  show Hv.S0 (Hv.l0 m) 0 l (l.length:Int) (i:Int)=_
  unfold Hv.S0
  have h1:i<l.length:=by omega
  have h2:(i:Int)<(l.length:Int):=by omega
  rw [Bz h1,AW,Ie (by omega) (by omega)]
  simp only [Wp,tR,TP,h1,h2,decide_true,Aa]
  rw [List.drop_eq_getElem_cons h1,List.find?_cons]
  by_cases hz:l[i]=0
  ·simp only [hz,decide_true,Bool.not_true,Ac,ne_eq,not_true_eq_false,decide_false]
   exact ih (i+1) m (by omega) (by omega) (by omega)
  ·simp [hz]
theorem Zmk (l:List Int) (hl:l.length<4611686018427387904):Hv l=some ((l.find? fun x=>decide (x≠0)).getD 0):=by
 have:=Yej l hl (l.length-0) 0 fu rfl (by omega) (by unfold fu;omega)
 rwa [List.drop_zero] at this
theorem Znj (a b:Cell):Yb a b=some (cC a b):=by
 unfold Yb
 rw [pv,Zmk _ (by simp),nR,nR]
 unfold cC N9
 by_cases h1:FH a.1 b.1=0
 ·by_cases h2:FH a.2.1 b.2.1=0
  ·by_cases h3:GZ a.2.2 b.2.2=0 <;> simp [h1,h2,h3]
  ·simp [h1,h2]
 ·simp [h1]
theorem Zj2 {a b:Cell}:a.1=b.1∧a.2.1=b.2.1∧a.2.2=b.2.2↔a=b:=by
 obtain ⟨x,y,z⟩:=a
 obtain ⟨x',y',z'⟩:=b
 simp
theorem tT (a b:Cell):(AR a.1 b.1 && (AR a.2.1 b.2.1 && Cn a.2.2 b.2.2))=decide (a=b):=by
 rw [Pc,Pc,M7,← Bool.decide_and,← Bool.decide_and]
 exact decide_eq_decide.2 Zj2
theorem Zbj (a b:Cell):Oy a b=cC a b:=by
 unfold Oy
 rw [tT]
 by_cases h:a=b
 ·subst h
  simp [(TC.eq0 a a).2 rfl]
 ·have h0:cC a b≠0:=fun e=>h ((TC.eq0 _ _).1 e)
  simp only [h,decide_false,Ac]
  unfold cC N9 FH at *
  simp only [Wp,Pc,Wq,Te,decide_eq_true_eq]
  by_cases h1:a.1<b.1
  ·simp [h1]
  ·by_cases h2:b.1<a.1
   ·have:¬ a.1=b.1:=by omega
    simp [h1,h2,this]
   ·have e1:a.1=b.1:=by omega
    by_cases h3:a.2.1<b.2.1
    ·simp [e1,h3]
    ·by_cases h4:b.2.1<a.2.1
     ·have:¬ a.2.1=b.2.1:=by omega
      simp [e1,h3,h4,this]
     ·have e2:a.2.1=b.2.1:=by omega
      simp [e1,e2] at h0 ⊢
      rcases Lz.rng a.2.2 b.2.2 with h | h | h
      ·simp [h]
      ·exact absurd h h0
      ·simp [h]
end Go.AM.Pure
