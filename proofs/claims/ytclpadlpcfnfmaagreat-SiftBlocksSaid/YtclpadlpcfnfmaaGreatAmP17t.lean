import Derived.Test.YtclpadlpcfnfmaaGreatAmP06
/- Tests as plain functions (out of PTest): which cells pass; bounds. -/
namespace Go.AM.Pure
open Go.AM
abbrev Es:=Int×Cell
theorem qq (c:Cell):(AR c.1 0 && (AR c.2.1 0 && Cn c.2.2 eB))=decide (c=(0,0,eB)):=tT c (0,0,eB)
def IK (t:Es):Bool:=if t.1=7∨t.1=8 then decide (t.2=(0,0,eB)) else decide (1≤t.1∧t.1≤6) && (GD t.2 && decide (t.2.1≠0))
theorem fy (k:Int):k=1∨k=2∨k=3∨k=4∨k=5∨k=6∨k=7∨k=8∨((k<1∨8<k)∧k≠1∧k≠2∧k≠3∧k≠4∧k≠5∧k≠6∧k≠7∧k≠8):=by omega
theorem XZ (t:Es):MT t=if IK t=true then 0 else 1:=by
  unfold MT IK
  rw [qq,oj]
  obtain ⟨k,c⟩:=t
  simp only [Pc,TP,Te,decide_eq_true_eq]
  rcases fy k with rfl | rfl | rfl | rfl | rfl | rfl | rfl | rfl | ⟨h,h1,h2,h3,h4,h5,h6,h7,h8⟩
  all_goals first
    | (by_cases hz:c=(0,0,eB)
       · simp [hz]
       · simp [hz];done)
    | (by_cases hz:c.1=0
       · simp [hz]
       · by_cases hm:GD c=true <;> simp [hz,hm])
    | (have:¬ (1≤k∧k≤6):=by omega
       simp [h1,h2,h3,h4,h5,h6,h7,h8,this])
theorem oy (t:Es):Nz t=IK t:=by
 unfold Nz IK
 rw [qq]
 obtain ⟨k,c⟩:=t
 simp only [Pc,TP,aQ,Te,decide_eq_true_eq]
 by_cases h7:k=7
 ·simp [h7]
 ·by_cases h8:k=8
  ·simp [h8]
  ·by_cases h1:1≤k
   ·by_cases h6:k≤6
    ·by_cases hm:GD c=true <;> simp [h7,h8,h1,h6,hm]
    ·simp [h7,h8,h1,h6]
   ·simp [h7,h8,h1]
def R5 (op k:Int):Bool:=if op=1 then decide (k=0) else if op=2 then decide (k≠0) else if op=3 then decide (k<0) else if op=4 then decide (k≤0) else if op=5 then decide (0<k) else if op=6 then decide (0≤k) else true
def CG (t:Es) (c:Cell):Bool:=IK t && (if t.1=7 then decide (c.1=0) else decide (c.1≠0) && R5 t.1 (cC c t.2))
theorem Zdk (t:Es) (c:Cell):Yi t c=some (R5 t.1 (cC c t.2)):=by
 unfold Yi R5
 rw [Znj]
 obtain ⟨k,v⟩:=t
 simp only [Ad,Pc,TP,Wp,Te,decide_eq_true_eq]
 rcases fy k with rfl | rfl | rfl | rfl | rfl | rfl | rfl | rfl | ⟨h,h1,h2,h3,h4,h5,h6,h7,h8⟩
 all_goals first
  | (simp;done)
  | (simp [h1,h2,h3,h4,h5,h6];done)
  | (rcases TC.rng c v with h | h | h <;> simp [h])
theorem X0 (t:Es) (c:Cell):Rh t c=some (CG t c):=by
 unfold Rh CG
 rw [XZ,Zdk]
 by_cases hm:IK t=true
 ·by_cases h7:t.1=7
  ·simp [hm,h7]
  ·by_cases h0:c.1=0 <;> simp [hm,h7,h0]
 ·simp [hm]
theorem Ztj (t:Es) (c:Cell):MQ t c=CG t c:=by
 unfold MQ CG R5
 rw [oy,Zbj]
 by_cases hm:IK t=true
 ·by_cases h7:t.1=7
  ·simp [hm,h7]
  ·by_cases h0:c.1=0
   ·simp [hm,h7,h0]
   ·simp [hm,h7,h0]
 ·simp [hm]
theorem Ord3.Zud {α:Type} {c:α→α→Int} (h:Ord3 c) {a b d:α} (h1:c a b<0) (h2:c b d<0):c a d<0:=by
 have e1:c a b = -1:=by rcases h.rng a b with e | e | e <;> omega
 have e2:c b d = -1:=by rcases h.rng b d with e | e | e <;> omega
 rw [h.tr _ _ _ e1 e2];omega
theorem Ord3.Ytx {α:Type} {c:α→α→Int} (h:Ord3 c) {a b d:α} (h1:0≤c a b) (h2:0≤c b d):0≤c a d:=by
 by_cases x:c a b=0
 ·rw [(h.eq0 _ _).1 x];exact h2
 ·by_cases y:c b d=0
  ·rw [← (h.eq0 _ _).1 y];exact h1
  ·have e1:c b a<0:=by have:=h.neg a b;omega
   have e2:c d b<0:=by have:=h.neg b d;omega
   have:=h.Zud e2 e1
   have:=h.neg d a
   omega
theorem Ord3.Yux {α:Type} {c:α→α→Int} (h:Ord3 c) {a b d:α} (h1:c a b<0) (h2:c b d≤0):c a d<0:=by
 by_cases x:c b d=0
 ·rw [← (h.eq0 _ _).1 x];exact h1
 ·exact h.Zud h1 (by omega)
theorem iz (a b:Cell):cC b a = -cC a b:=TC.neg a b
theorem Yvx {a:Int} (h0:0≤a) (h1:a<9223372036854775808):IntKind.wrap .i64 (BH .u64 (IntKind.wrap .u64 a) 1)=a / 2:=by
 have e1:IntKind.wrap .u64 a=a:=by
  unfold IntKind.wrap
  show (if (false && decide (a % (18446744073709551616:Int) ≥ 9223372036854775808))=true then a % (18446744073709551616:Int)-18446744073709551616 else a % (18446744073709551616:Int))=a
  simp only [Bool.false_and,Bool.false_eq_true,if_false]
  omega
 rw [e1]
 have e2:BH .u64 a 1=a / 2:=by
  show a.fdiv (2 ^ (min (Int.toNat 1) 64))=a / 2
  rw [Int.fdiv_eq_ediv_of_nonneg _ (by decide)]
  rfl
 rw [e2,IB (by omega) (by omega)]
abbrev E7 (n:Int):Cell:=(1,n,eB)
theorem Zc3 (k:Nat) (op:Int) (t:Es) (l:List Int) (h:k<l.length):XV (k:Int) op t l=some (CG (op,t.2) (E7 l[k])):=by
 unfold XV
 rw [Bz h,AW,tR,X0]
 simp [h]
theorem Zmn (op:Int) (t:Es) (l:List Int) (hl:l.length<1099511627776) (p:Nat→Bool) (hp:∀ k (h:k<l.length),CG (op,t.2) (E7 l[k])=p k)
  (hm:∀ a b,a≤b→b<l.length→p a=true→p b=true):∀ (n i j:Nat),i≤j→j≤l.length→j-i<n→(∀ k,k<i→p k=false)→(∀ k,j≤k→k<l.length→p k=true)→
  ∃ r:Nat,I9.l0 n op t l (i:Int) (j:Int)=some (r:Int)∧r≤l.length∧(∀ k,k<r→p k=false)∧∀ k,r≤k→k<l.length→p k=true:=by
 intro n
 induction n with
 | zero=>intro i j _ _ h;omega
 | succ n ih=>
  intro i j Lg hj hn ha hb
  show ∃ r:Nat,I9.S0 (I9.l0 n) op t l (i:Int) (j:Int)=some (r:Int)∧_
  unfold I9.S0
  by_cases h:i<j
  ·have h':(i:Int)<(j:Int):=by omega
   rw [Ie (a:=(i:Int)) (by omega) (by omega),Yvx (by omega) (by omega)]
   have Yf3:((i:Int)+(j:Int)) / 2=(((i+j) / 2:Nat):Int):=by omega
   have AO:(i+j) / 2<l.length:=by omega
   rw [Yf3,Zc3 _ _ _ _ AO,hp _ AO,Ie (by omega) (by omega)]
   simp only [Wp,h',decide_true,Aa,Ad]
   cases hq:p ((i+j) / 2) with
   | false=>
    simp only [Bool.not_false,Aa]
    refine ih ((i+j) / 2+1) j (by omega) hj (by omega) (fun k hk=>?_) hb
    cases PE:p k with
    | false=>rfl
    | true=>rw [hm k ((i+j) / 2) (by omega) AO PE] at hq;cases hq
   | true=>
    simp only [Bool.not_true,Ac]
    refine ih i ((i+j) / 2) (by omega) (by omega) (by omega) ha (fun k hk LX=>hm _ _ hk LX hq)
  ·have h':¬ (i:Int)<(j:Int):=by omega
   have:i=j:=by omega
   subst this
   exact ⟨i,by simp [h'],hj,ha,hb⟩
theorem rY (op:Int) (t:Es) (l:List Int) (hl:l.length<1099511627776) (p:Nat→Bool) (hp:∀ k (h:k<l.length),CG (op,t.2) (E7 l[k])=p k)
  (hm:∀ a b,a≤b→b<l.length→p a=true→p b=true):∃ r:Nat,MP op l t=some (r:Int)∧r≤l.length∧(∀ k,k<r→p k=false)∧∀ k,r≤k→k<l.length→p k=true:=by
 unfold MP
 rw [pv]
 exact Zmn op t l hl p hp hm fu 0 l.length (by omega) (by omega) (by unfold fu;omega) (fun k h=>by omega) (fun k h h'=>by omega)
def VF (l:List Int):Prop:=∀ i (h:i+1<l.length),l[i]'(by omega)<l[i+1]
theorem qt {l:List Int} (h:VF l):∀ (d a:Nat) (hb:a+d+1<l.length),l[a]'(by omega)<l[a+d+1]
 | 0,a,hb=>h a hb
 | d+1,a,hb=>Int.lt_trans (qt h d a (by omega)) (h (a+d+1) hb)
theorem Yuq (x y:Int):cC (E7 x) (E7 y)=FH x y:=by
 unfold cC N9
 have h1:FH 1 1=0:=rfl
 have h2:GZ eB eB=0:=(Lz.eq0 _ _).2 rfl
 simp only [h1,h2]
 by_cases h:FH x y=0 <;> simp [h]
theorem qu {l:List Int} (h:VF l) {a b:Nat} (LZ:a≤b) (hb:b<l.length):cC (E7 (l[a]'(by omega))) (E7 l[b])≤0:=by
 rw [Yuq]
 unfold FH
 by_cases e:a=b
 ·subst e;simp
 ·have:=qt h (b-a-1) a (by omega)
  have e2:a+(b-a-1)+1=b:=by omega
  simp only [e2] at this
  rw [if_pos this];omega
def MH (t:Es) (l:List Int) (k:Nat):Int:=cC (E7 (l.getD k 0)) t.2
theorem Rv (t:Es) (l:List Int) {k:Nat} (h:k<l.length):MH t l k=cC (E7 l[k]) t.2:=by
 unfold MH;rw [Ax,Ap h];rfl
theorem eG {t:Es} (op:Int) (hm:IK t=true) (h1:1≤t.1∧t.1≤6) (ho:1≤op∧op≤6) (x:Int):CG (op,t.2) (E7 x)=R5 op (cC (E7 x) t.2):=by
 have Lm:IK (op,t.2)=true:=by
  unfold IK at *
  have a1:¬ (t.1=7∨t.1=8):=by omega
  have a2:¬ (op=7∨op=8):=by omega
  rw [if_neg a1] at hm
  rw [if_neg a2]
  simp only [Bool.and_eq_true,decide_eq_true_eq] at hm ⊢
  exact ⟨ho,hm.2⟩
 unfold CG
 rw [Lm]
 have:¬ op=7:=by omega
 simp [this]
theorem Zd3 {t:Es} {l:List Int} (hl:l.length<1099511627776) (hr:VF l) (hm:IK t=true) (h1:1≤t.1∧t.1≤6):
  ∃ r:Nat,MP 6 l t=some (r:Int)∧r≤l.length∧∀ k,k<l.length→(0≤MH t l k↔r≤k):=by
 obtain ⟨r,h2,h3,h4,h5⟩:=rY 6 t l hl (fun k=>decide (0≤MH t l k)) (fun k h=>by
  rw [eG 6 hm h1 (by omega),Rv t l h];rfl) (fun a b LZ hb ha=>by
   have Ln:=Ak ha
   apply Af
   rw [Rv t l (by omega)] at Ln
   rw [Rv t l hb]
   have:=qu hr LZ hb
   have:=iz (E7 (l[a]'(by omega))) (E7 l[b])
   exact TC.Ytx (a:=E7 l[b]) (b:=E7 (l[a]'(by omega))) (by omega) Ln)
 refine ⟨r,h2,h3,fun k hk=>⟨fun h=>?_,fun h=>Ak (h5 k h hk)⟩⟩
 by_cases hc:r≤k
 ·exact hc
 ·have:=of_decide_eq_false (h4 k (by omega));exact absurd h this
theorem Ze3 {t:Es} {l:List Int} (hl:l.length<1099511627776) (hr:VF l) (hm:IK t=true) (h1:1≤t.1∧t.1≤6):
  ∃ r:Nat,MP 5 l t=some (r:Int)∧r≤l.length∧∀ k,k<l.length→(0<MH t l k↔r≤k):=by
 obtain ⟨r,h2,h3,h4,h5⟩:=rY 5 t l hl (fun k=>decide (0<MH t l k)) (fun k h=>by
  rw [eG 5 hm h1 (by omega),Rv t l h];rfl) (fun a b LZ hb ha=>by
   have Ln:=Ak ha
   apply Af
   rw [Rv t l (by omega)] at Ln
   rw [Rv t l hb]
   have h6:=qu hr LZ hb
   have h7:=iz (E7 (l[a]'(by omega))) t.2
   have:=TC.Yux (a:=t.2) (b:=E7 (l[a]'(by omega))) (by omega) h6
   have:=iz (E7 l[b]) t.2
   omega)
 refine ⟨r,h2,h3,fun k hk=>⟨fun h=>?_,fun h=>Ak (h5 k h hk)⟩⟩
 by_cases hc:r≤k
 ·exact hc
 ·have:=of_decide_eq_false (h4 k (by omega));exact absurd h this
def uf (t:Es) (l:List Int) (f g:Nat):Prop:=g≤l.length∧(f<g∨f=0∧g=0)∧∀ k (h:k<l.length),CG t (E7 l[k])=decide (f≤k∧k<g)
theorem SW {t:Es} {l:List Int} {f g:Nat} (hg:g≤l.length) (h:∀ k (h:k<l.length),CG t (E7 l[k])=decide (f≤k∧k<g)):
  ∃ f' g':Nat,Ja.t0 fu (f:Int) (g:Int)=some ((f':Int),(g':Int))∧uf t l f' g':=by
 show ∃ f' g':Nat,Ja.S0 (f:Int) (g:Int)=_∧_
 unfold Ja.S0
 by_cases hfg:g≤f
 ·have:(g:Int)≤(f:Int):=by omega
  refine ⟨0,0,by simp [this],by omega, .inr ⟨rfl,rfl⟩,fun k hk=>?_⟩
  rw [h k hk]
  apply decide_eq_decide.2
  omega
 ·have:¬ (g:Int)≤(f:Int):=by omega
  exact ⟨f,g,by simp [this],hg, .inl (by omega),h⟩
theorem Znr {t:Es} {l:List Int} (hl:l.length<1099511627776) (hr:VF l) (hm:IK t=true) (h2:t.1≠2):
  ∃ f g:Nat,Ja t l=some ((f:Int),(g:Int))∧uf t l f g:=by
 unfold Ja Ja.S
 rw [XZ]
 have L0:1≤t.1∧t.1≤8:=by
  unfold IK at hm
  split at hm
  ·omega
  ·simp only [Bool.and_eq_true,decide_eq_true_eq] at hm;omega
 by_cases h7:t.1=7
 ·refine ⟨0,0,by simp [h7,hm],by omega, .inr ⟨rfl,rfl⟩,fun k hk=>?_⟩
  unfold CG
  simp [h7]
 ·by_cases h8:t.1=8
  ·have key:=SW (t:=t) (l:=l) (f:=0) (g:=l.length) (by omega) (fun k hk=>by
    unfold CG R5
    simp [h8,hm,hk])
   simpa [h8,hm,AW] using key
  ·have Sp:1≤t.1∧t.1≤6:=by omega
   have Xv:∀ k (h:k<l.length),CG t (E7 l[k])=R5 t.1 (MH t l k):=fun k h=>by
    have:=eG t.1 hm Sp Sp l[k]
    rw [Rv t l h]
    exact this
   obtain ⟨a,a1,a2,a3⟩:=Zd3 hl hr hm Sp
   obtain ⟨b,b1,b2,b3⟩:=Ze3 hl hr hm Sp
   rw [a1,b1]
   rcases fy t.1 with k | k | k | k | k | k | k | k | ⟨h,_⟩
   ·have key:=SW (t:=t) (l:=l) (f:=a) (g:=b) b2 (fun i hi=>by
     rw [Xv i hi,k]
     have x1:=a3 i hi
     have x2:=b3 i hi
     show decide (MH t l i=0)=_
     apply decide_eq_decide.2
     omega)
    simpa [k,hm] using key
   ·exact absurd k h2
   ·have key:=SW (t:=t) (l:=l) (f:=0) (g:=a) a2 (fun i hi=>by
     rw [Xv i hi,k]
     have x1:=a3 i hi
     show decide (MH t l i<0)=_
     apply decide_eq_decide.2
     omega)
    simpa [k,hm] using key
   ·have key:=SW (t:=t) (l:=l) (f:=0) (g:=b) b2 (fun i hi=>by
     rw [Xv i hi,k]
     have x1:=b3 i hi
     show decide (MH t l i≤0)=_
     apply decide_eq_decide.2
     omega)
    simpa [k,hm] using key
   ·have key:=SW (t:=t) (l:=l) (f:=b) (g:=l.length) (by omega) (fun i hi=>by
     rw [Xv i hi,k]
     have x1:=b3 i hi
     show decide (0<MH t l i)=_
     apply decide_eq_decide.2
     omega)
    simpa [k,hm,b1,AW] using key
   ·have key:=SW (t:=t) (l:=l) (f:=a) (g:=l.length) (by omega) (fun i hi=>by
     rw [Xv i hi,k]
     have x1:=a3 i hi
     show decide (0≤MH t l i)=_
     apply decide_eq_decide.2
     omega)
    simpa [k,hm,a1,AW] using key
   ·exact absurd k h7
   ·exact absurd k h8
   ·omega
end Go.AM.Pure
