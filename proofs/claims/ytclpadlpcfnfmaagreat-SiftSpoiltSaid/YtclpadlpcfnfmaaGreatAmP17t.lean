import Derived.Test.YtclpadlpcfnfmaaGreatAmP06
/- Tests as plain functions (out of PTest): which cells pass; bounds. -/
namespace Go.AM.Pure
open Go.AM
abbrev E9:=Int×Cell
theorem ux (c:Cell):(A9 c.1 0 && (A9 c.2.1 0 && Cz c.2.2 eB))=decide (c=(0,0,eB)):=Yyv c (0,0,eB)
def Jc (t:E9):Bool:=if t.1=7\/t.1=8 then decide (t.2=(0,0,eB)) else decide (1<=t.1/\t.1<=6) && (HQ t.2 && decide (t.2.1≠0))
theorem jm (k:Int):k=1\/k=2\/k=3\/k=4\/k=5\/k=6\/k=7\/k=8\/((k<1\/8<k)/\k≠1/\k≠2/\k≠3/\k≠4/\k≠5/\k≠6/\k≠7/\k≠8):=by omega
theorem Wb (t:E9):N2 t=if Jc t=true then 0 else 1:=by
  unfold N2 Jc;rw [ux,rP];obtain ⟨k,c⟩:=t;simp only [RE,S7,WK,decide_eq_true_eq];rcases jm k with rfl | rfl | rfl | rfl | rfl | rfl | rfl | rfl | ⟨h,h1,h2,h3,h4,h5,h6,h7,h8⟩
  all_goals first
    | (by_cases hz:c=(0,0,eB)
       · simp [hz]
       · simp [hz];done)
    | (by_cases hz:c.1=0
       · simp [hz]
       · by_cases hm:HQ c=true <;> simp [hz,hm])
    | (have:¬ (1<=k/\k<=6):=by omega
       simp [h1,h2,h3,h4,h5,h6,h7,h8,this])
theorem Zau (t:E9):PZ t=Jc t:=by
 unfold PZ Jc;rw [ux];obtain ⟨k,c⟩:=t;simp only [RE,S7,oc,WK,decide_eq_true_eq];by_cases h7:k=7
 ·simp [h7]
 ·by_cases h8:k=8
  ·simp [h8]
  ·by_cases h1:1<=k
   ·by_cases h6:k<=6
    ·by_cases hm:HQ c=true <;> simp [h7,h8,h1,h6,hm]
    ·simp [h7,h8,h1,h6]
   ·simp [h7,h8,h1]
def Vx (op k:Int):Bool:=if op=1 then decide (k=0) else if op=2 then decide (k≠0) else if op=3 then decide (k<0) else if op=4 then decide (k<=0) else if op=5 then decide (0<k) else if op=6 then decide (0<=k) else true
def DL (t:E9) (c:Cell):Bool:=Jc t && (if t.1=7 then decide (c.1=0) else decide (c.1≠0) && Vx t.1 (cC c t.2))
theorem Zxs (t:E9) (c:Cell):ZI t c=some (Vx t.1 (cC c t.2)):=by
 unfold ZI Vx;rw [Zis];obtain ⟨k,v⟩:=t;simp only [An,RE,S7,c7,WK,decide_eq_true_eq];rcases jm k with rfl | rfl | rfl | rfl | rfl | rfl | rfl | rfl | ⟨h,h1,h2,h3,h4,h5,h6,h7,h8⟩
 all_goals first
  | (simp;done)
  | (simp [h1,h2,h3,h4,h5,h6];done)
  | (rcases bF.rng c v with h | h | h <;> simp [h])
theorem Zq (t:E9) (c:Cell):Sp t c=some (DL t c):=by
 unfold Sp DL;rw [Wb,Zxs];by_cases hm:Jc t=true
 ·by_cases h7:t.1=7
  ·simp [hm,h7]
  ·by_cases h0:c.1=0 <;> simp [hm,h7,h0]
 ·simp [hm]
theorem Ord3.Ztm {α:Type} {c:α->α->Int} (h:Ord3 c) {a b d:α} (h1:c a b<0) (h2:c b d<0):c a d<0:=by
 have e1:c a b = -1:=by rcases h.rng a b with e | e | e <;> omega
 have e2:c b d = -1:=by rcases h.rng b d with e | e | e <;> omega
 rw [h.tr _ _ _ e1 e2];omega
theorem Ord3.Xua {α:Type} {c:α->α->Int} (h:Ord3 c) {a b d:α} (h1:0<=c a b) (h2:0<=c b d):0<=c a d:=by
 by_cases x:c a b=0
 ·rw [(h.eq0 _ _).1 x];exact h2
 ·by_cases y:c b d=0
  ·rw [<- (h.eq0 _ _).1 y];exact h1
  ·have e1:c b a<0:=by have:=h.neg a b;omega
   have e2:c d b<0:=by have:=h.neg b d;omega
   have:=h.Ztm e2 e1;have:=h.neg d a;omega
theorem Ord3.Xva {α:Type} {c:α->α->Int} (h:Ord3 c) {a b d:α} (h1:c a b<0) (h2:c b d<=0):c a d<0:=by
 by_cases x:c b d=0
 ·rw [<- (h.eq0 _ _).1 x];exact h1
 ·exact h.Ztm h1 Ad
theorem lB (a b:Cell):cC b a = -cC a b:=bF.neg a b
theorem Xwa {a:Int} (h0:0<=a) (h1:a<9223372036854775808):IntKind.wrap .i64 (B7 .u64 (IntKind.wrap .u64 a) 1)=a / 2:=by
 have e1:IntKind.wrap .u64 a=a:=by
  unfold IntKind.wrap;show (if (false && decide (a % (18446744073709551616:Int) >= 9223372036854775808))=true then a % (18446744073709551616:Int)-18446744073709551616 else a % (18446744073709551616:Int))=a;simp only [Bool.false_and,Bool.false_eq_true,if_false];omega
 rw [e1];have e2:B7 .u64 a 1=a / 2:=by
  show a.fdiv (2 ^ (min (Int.toNat 1) 64))=a / 2;rw [Int.fdiv_eq_ediv_of_nonneg _ Af];rfl
 rw [e2,IL Ad Ad]
abbrev FR (n:Int):Cell:=(1,n,eB)
theorem Ybe (k:Nat) (op:Int) (t:E9) (l:List Int) (h:k<l.length):Zo (k:Int) op t l=some (DL (op,t.2) (FR l[k])):=by
 unfold Zo;rw [BE h,Ba,yb,Zq];simp [h]
theorem Zqw (op:Int) (t:E9) (l:List Int) (hl:l.length<1099511627776) (p:Nat->Bool) (hp:∀ k (h:k<l.length),DL (op,t.2) (FR l[k])=p k)
  (hm:∀ a b,a<=b->b<l.length->p a=true->p b=true):∀ (n i j:Nat),i<=j->j<=l.length->j-i<n->(∀ k,k<i->p k=false)->(∀ k,j<=k->k<l.length->p k=true)->
  ∃ r:Nat,JR.l0 n op t l (i:Int) (j:Int)=some (r:Int)/\r<=l.length/\(∀ k,k<r->p k=false)/\∀ k,r<=k->k<l.length->p k=true:=by
 intro n;induction n with
 | zero=>intro i j _ _ h;omega
 | succ n ih=>
  intro i j Mh hj hn ha hb;show ∃ r:Nat,JR.S0 (JR.l0 n) op t l (i:Int) (j:Int)=some (r:Int)/\_;unfold JR.S0;by_cases h:i<j
  ·have h':(i:Int)<(j:Int):=by omega
   rw [Iz (a:=(i:Int)) Ad Ad,Xwa Ad Ad];have Xfg:((i:Int)+(j:Int)) / 2=(((i+j) / 2:Nat):Int):=by omega
   have AY:(i+j) / 2<l.length:=Ad
   rw [Xfg,Ybe _ _ _ _ AY,hp _ AY,Iz Ad Ad];simp only [c7,h',decide_true,Ak,An];cases hq:p ((i+j) / 2) with
   | false=>
    simp only [Bool.not_false,Ak];refine ih ((i+j) / 2+1) j Ad hj Ad (λ k hk=>?_) hb;cases LJ:p k with
    | false=>rfl
    | true=>rw [hm k ((i+j) / 2) Ad AY LJ] at hq;cases hq
   | true=>
    simp only [Bool.not_true,Al];refine ih i ((i+j) / 2) Ad Ad Ad ha (λ k hk LB=>hm _ _ hk LB hq)
  ·have h':¬ (i:Int)<(j:Int):=by omega
   have:i=j:=Ad
   subst this;exact ⟨i,by simp [h'],hj,ha,hb⟩
theorem wc (op:Int) (t:E9) (l:List Int) (hl:l.length<1099511627776) (p:Nat->Bool) (hp:∀ k (h:k<l.length),DL (op,t.2) (FR l[k])=p k)
  (hm:∀ a b,a<=b->b<l.length->p a=true->p b=true):∃ r:Nat,NU op l t=some (r:Int)/\r<=l.length/\(∀ k,k<r->p k=false)/\∀ k,r<=k->k<l.length->p k=true:=by
 unfold NU;rw [s6];exact Zqw op t l hl p hp hm fu 0 l.length Ad Ad Ae (λ k h=>by omega) (λ k h h'=>by omega)
def Xe (l:List Int):Prop:=∀ i (h:i+1<l.length),l[i]'Ad<l[i+1]
theorem uy {l:List Int} (h:Xe l):∀ (d a:Nat) (hb:a+d+1<l.length),l[a]'Ad<l[a+d+1]
 | 0,a,hb=>h a hb
 | d+1,a,hb=>Int.lt_trans (uy h d a Ad) (h (a+d+1) hb)
theorem Yu3 (x y:Int):cC (FR x) (FR y)=GJ x y:=by
 unfold cC QD;have h1:GJ 1 1=0:=rfl;have h2:Ir eB eB=0:=(MB.eq0 _ _).2 rfl;simp only [h1,h2];by_cases h:GJ x y=0 <;> simp [h]
theorem uz {l:List Int} (h:Xe l) {a b:Nat} (MV:a<=b) (hb:b<l.length):cC (FR (l[a]'Ad)) (FR l[b])<=0:=by
 rw [Yu3];unfold GJ;by_cases e:a=b
 ·subst e;simp
 ·have:=uy h (b-a-1) a Ad;have e2:a+(b-a-1)+1=b:=Ad
  simp only [e2] at this;rw [if_pos this];omega
def NO (t:E9) (l:List Int) (k:Nat):Int:=cC (FR (l.getD k 0)) t.2
theorem SE (t:E9) (l:List Int) {k:Nat} (h:k<l.length):NO t l k=cC (FR l[k]) t.2:=by
 unfold NO;rw [AK,AD h];rfl
theorem iz {t:E9} (op:Int) (hm:Jc t=true) (h1:1<=t.1/\t.1<=6) (ho:1<=op/\op<=6) (x:Int):DL (op,t.2) (FR x)=Vx op (cC (FR x) t.2):=by
 have MY:Jc (op,t.2)=true:=by
  unfold Jc at *;have a1:¬ (t.1=7\/t.1=8):=by omega
  have a2:¬ (op=7\/op=8):=by omega
  rw [if_neg a1] at hm;rw [if_neg a2];simp only [Bool.and_eq_true,decide_eq_true_eq] at hm ⊢;exact ⟨ho,hm.2⟩
 unfold DL;rw [MY];have:¬ op=7:=Ad
 simp [this]
theorem Yce {t:E9} {l:List Int} (hl:l.length<1099511627776) (hr:Xe l) (hm:Jc t=true) (h1:1<=t.1/\t.1<=6):
  ∃ r:Nat,NU 6 l t=some (r:Int)/\r<=l.length/\∀ k,k<l.length->(0<=NO t l k↔r<=k):=by
 obtain ⟨r,h2,h3,h4,h5⟩:=wc 6 t l hl (λ k=>decide (0<=NO t l k)) (λ k h=>by
  rw [iz 6 hm h1 Ad,SE t l h];rfl) (λ a b MV hb ha=>by
   have Mo:=Az ha;apply Aq;rw [SE t l Ad] at Mo;rw [SE t l hb];have:=uz hr MV hb;have:=lB (FR (l[a]'Ad)) (FR l[b])
   exact bF.Xua (a:=FR l[b]) (b:=FR (l[a]'Ad)) Ad Mo)
 refine ⟨r,h2,h3,λ k hk=>⟨λ h=>?_,λ h=>Az (h5 k h hk)⟩⟩;by_cases hc:r<=k
 ·exact hc
 ·have:=of_decide_eq_false (h4 k Ad);exact absurd h this
theorem Yde {t:E9} {l:List Int} (hl:l.length<1099511627776) (hr:Xe l) (hm:Jc t=true) (h1:1<=t.1/\t.1<=6):
  ∃ r:Nat,NU 5 l t=some (r:Int)/\r<=l.length/\∀ k,k<l.length->(0<NO t l k↔r<=k):=by
 obtain ⟨r,h2,h3,h4,h5⟩:=wc 5 t l hl (λ k=>decide (0<NO t l k)) (λ k h=>by
  rw [iz 5 hm h1 Ad,SE t l h];rfl) (λ a b MV hb ha=>by
   have Mo:=Az ha;apply Aq;rw [SE t l Ad] at Mo;rw [SE t l hb];have h6:=uz hr MV hb;have h7:=lB (FR (l[a]'Ad)) t.2;have:=bF.Xva (a:=t.2) (b:=FR (l[a]'Ad)) Ad h6;have:=lB (FR l[b]) t.2
   omega)
 refine ⟨r,h2,h3,λ k hk=>⟨λ h=>?_,λ h=>Az (h5 k h hk)⟩⟩;by_cases hc:r<=k
 ·exact hc
 ·have:=of_decide_eq_false (h4 k Ad);exact absurd h this
def yt (t:E9) (l:List Int) (f g:Nat):Prop:=g<=l.length/\(f<g\/f=0/\g=0)/\∀ k (h:k<l.length),DL t (FR l[k])=decide (f<=k/\k<g)
theorem Ur {t:E9} {l:List Int} {f g:Nat} (hg:g<=l.length) (h:∀ k (h:k<l.length),DL t (FR l[k])=decide (f<=k/\k<g)):
  ∃ f' g':Nat,JS.t0 fu (f:Int) (g:Int)=some ((f':Int),(g':Int))/\yt t l f' g':=by
 show ∃ f' g':Nat,JS.S0 (f:Int) (g:Int)=_/\_;unfold JS.S0;by_cases hfg:g<=f
 ·have:(g:Int)<=(f:Int):=by omega
  refine ⟨0,0,by simp [this],Ad, .inr ⟨rfl,rfl⟩,λ k hk=>?_⟩;rw [h k hk];apply decide_eq_decide.2;omega
 ·have:¬ (g:Int)<=(f:Int):=by omega
  exact ⟨f,g,by simp [this],hg, .inl Ad,h⟩
theorem Zj1 {t:E9} {l:List Int} (hl:l.length<1099511627776) (hr:Xe l) (hm:Jc t=true) (h2:t.1≠2):
  ∃ f g:Nat,JS t l=some ((f:Int),(g:Int))/\yt t l f g:=by
 unfold JS JS.S;rw [Wb];have MZ:1<=t.1/\t.1<=8:=by
  unfold Jc at hm;split at hm
  ·omega
  ·simp only [Bool.and_eq_true,decide_eq_true_eq] at hm;omega
 by_cases h7:t.1=7
 ·refine ⟨0,0,by simp [h7,hm],Ad, .inr ⟨rfl,rfl⟩,λ k hk=>?_⟩;unfold DL;simp [h7]
 ·by_cases h8:t.1=8
  ·have key:=Ur (t:=t) (l:=l) (f:=0) (g:=l.length) Ad (λ k hk=>by
    unfold DL Vx
    simp [h8,hm,hk])
   simpa [h8,hm,Ba] using key
  ·have TM:1<=t.1/\t.1<=6:=Ad
   have Y4:∀ k (h:k<l.length),DL t (FR l[k])=Vx t.1 (NO t l k):=λ k h=>by
    have:=iz t.1 hm TM TM l[k];rw [SE t l h];exact this
   obtain ⟨a,a1,a2,a3⟩:=Yce hl hr hm TM;obtain ⟨b,b1,b2,b3⟩:=Yde hl hr hm TM;rw [a1,b1];rcases jm t.1 with k | k | k | k | k | k | k | k | ⟨h,_⟩
   ·have key:=Ur (t:=t) (l:=l) (f:=a) (g:=b) b2 (λ i hi=>by
     rw [Y4 i hi,k];have x1:=a3 i hi;have x2:=b3 i hi;show decide (NO t l i=0)=_;apply decide_eq_decide.2
     omega)
    simpa [k,hm] using key
   ·exact absurd k h2
   ·have key:=Ur (t:=t) (l:=l) (f:=0) (g:=a) a2 (λ i hi=>by
     rw [Y4 i hi,k];have x1:=a3 i hi;show decide (NO t l i<0)=_;apply decide_eq_decide.2
     omega)
    simpa [k,hm] using key
   ·have key:=Ur (t:=t) (l:=l) (f:=0) (g:=b) b2 (λ i hi=>by
     rw [Y4 i hi,k];have x1:=b3 i hi;show decide (NO t l i<=0)=_;apply decide_eq_decide.2
     omega)
    simpa [k,hm] using key
   ·have key:=Ur (t:=t) (l:=l) (f:=b) (g:=l.length) Ad (λ i hi=>by
     rw [Y4 i hi,k];have x1:=b3 i hi;show decide (0<NO t l i)=_;apply decide_eq_decide.2
     omega)
    simpa [k,hm,b1,Ba] using key
   ·have key:=Ur (t:=t) (l:=l) (f:=a) (g:=l.length) Ad (λ i hi=>by
     rw [Y4 i hi,k];have x1:=a3 i hi;show decide (0<=NO t l i)=_;apply decide_eq_decide.2
     omega)
    simpa [k,hm,a1,Ba] using key
   ·exact absurd k h7
   ·exact absurd k h8
   ·omega
end Go.AM.Pure
