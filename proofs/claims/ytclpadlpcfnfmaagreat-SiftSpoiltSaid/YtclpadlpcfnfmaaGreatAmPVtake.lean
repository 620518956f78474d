import Derived.Test.YtclpadlpcfnfmaaGreatAmPVint
/- Numbers read out of bytes: layer 02. -/
namespace Go.AM.Pure
open Go.AM
theorem Sn {a b:Int} (h:∀ k,k<64->bit a k=bit b k):a % 18446744073709551616=b % 18446744073709551616:=by
 rw [<- gK,<- gK];have:bitsOf a=bitsOf b:=by rw [<- Up (v:=b) (f:=bit a) h];rfl
 rw [this]
theorem Ytv (w:Int):EL (E5 w) % 18446744073709551616=w % 18446744073709551616:=by
 apply Sn;intro k hk;have hz:BN (E5 w):=Kr _;rw [aO hz hk,UJ w (show 63<64 by omega)];by_cases h:1<=k
 ·rw [UJ w Ad,Aq h,Aq (show k-1<63 by omega),show k-1+1=k by omega,Ax (show ¬ 63<63 by omega)];cases bit w k <;> cases bit w 0 <;> rfl
 ·have:k=0:=Ad
  subst this;simp
theorem xY {a b:Int} (h:a % 18446744073709551616=b % 18446744073709551616):E5 a=E5 b:=by
 have hb:∀ k,k<64->bit a k=bit b k:=λ k hk=>by rw [<- Nd a hk,h,Nd b hk]
 have h2:E5 a % 18446744073709551616=E5 b % 18446744073709551616:=by
  apply Sn;intro k hk;rw [UJ a hk,UJ b hk,hb 0 Ad];by_cases VK:k<63
  ·rw [hb (k+1) Ad]
  ·rw [Ax VK,Bool.false_and,Bool.false_and]
 have ha:BN (E5 a):=Kr _;have GF:BN (E5 b):=Kr _;rw [<- M7 ha,<- M7 GF,<- P0 (E5 a),<- P0 (E5 b),h2]
theorem Ns (w:Int) (s:Nat) (hs:s<=64):B7 .u64 w (s:Int)=w / 2 ^ s:=by
 unfold B7;have:min (s:Int).toNat (IntKind.bits .u64)=s:=by show min s 64=s;omega
 rw [this,Int.fdiv_eq_ediv_of_nonneg];exact Int.le_of_lt (Fe s)
theorem Uq {u w:Int} {n s s' m:Nat} (hs:0<s) (Xni:s<=32) (hn:n<=64) (hw:w=u / 2 ^ n) (h1:1<=w) (h2:w<2 ^ (2*s)) (E3:s'=s / 2):
  ∃ w' n',FO.l0 (m+1) w (n:Int) (s:Int)=FO.l0 m w' ((n':Nat):Int) ((s':Nat):Int)/\w'=u / 2 ^ n'/\1<=w'/\w'<2 ^ s/\n'<=n+s:=by
 show ∃ w' n',FO.S0 (FO.l0 m) w (n:Int) (s:Int)=_/\_;unfold FO.S0;have a1:A8 0 (s:Int)=true:=Aq Ad;have a2:BC 0 (s:Int)=true:=Aq Ad;have a3:GB .i64 (s:Int) 2=((s':Nat):Int):=by
  unfold GB;rw [E3];have:((s:Int)).tdiv 2=((s / 2:Nat):Int):=by rw [Int.tdiv_eq_ediv_of_nonneg Ad];omega
  rw [this];exact IL Ad Ad
 rw [a1,a2,a3,Ns w s Ad];have hp:=Fe s;by_cases h:0<w / 2 ^ s
 ·refine ⟨w / 2 ^ s,n+s,?_,?_,Ad,?_,Ad⟩
  ·rw [show A8 0 (w / 2 ^ s)=true from Aq h,Iz Ad Ad];rfl
  ·rw [hw,Int.ediv_ediv_of_nonneg (Int.le_of_lt (Fe n)),<- Int.pow_add]
  ·apply Int.ediv_lt_of_lt_mul hp;rw [<- Int.pow_add,show s+s=2*s by omega];exact h2
 ·refine ⟨w,n,?_,hw,h1,?_,Ad⟩
  ·rw [show A8 0 (w / 2 ^ s)=false from Ax h];rfl
  ·by_cases AY:w<2 ^ s
   ·exact AY
   ·exfalso;have:1<=w / 2 ^ s:=by rw [Int.le_ediv_iff_mul_le hp];omega
    omega
theorem fZ {z u:Int} (hz:z % 18446744073709551616=u):∃ n:Nat,FO z=some (n:Int)/\n<=64/\((u=0/\n=0)\/(1<=n/\2 ^ (n-1)<=u/\u<2 ^ n)):=by
 have QI:0<=u:=Ad
 have eO:u<2 ^ 64:=by rw [<- Nn];omega
 have QJ:fu=(18446744073709551609+1+1+1+1+1+1)+1:=rfl;have Oe:∀ (m:Nat) (w:Int) (n:Nat),FO.l0 (m+1) w (n:Int) ((0:Nat):Int)=some (A7 .i64 (n:Int) (IntKind.wrap .i64 w)):=λ m w n=>rfl
 have h0:FO z=FO.l0 fu (IntKind.wrap .u64 z) ((0:Nat):Int) ((32:Nat):Int):=rfl;rw [E6,hz] at h0;by_cases hu:u=0
 ·subst hu;refine ⟨0,?_,Ad, .inl ⟨rfl,rfl⟩⟩;rw [h0];have hz:∀ (m s:Nat),0<s->s<=32->FO.l0 (m+1) 0 ((0:Nat):Int) (s:Int)=FO.l0 m 0 ((0:Nat):Int) ((s / 2:Nat):Int):=λ m s h1 h2=>by
   show FO.S0 (FO.l0 m) 0 ((0:Nat):Int) (s:Int)=_;unfold FO.S0;have a1:A8 0 (s:Int)=true:=Aq Ad;have a2:BC 0 (s:Int)=true:=Aq Ad;have a3:GB .i64 (s:Int) 2=((s / 2:Nat):Int):=by
    unfold GB;have:((s:Int)).tdiv 2=((s / 2:Nat):Int):=by rw [Int.tdiv_eq_ediv_of_nonneg Ad];omega
    rw [this];exact IL Ad Ad
   rw [a1,a2,a3,Ns 0 s Ad,Int.zero_ediv];rfl
  rw [QJ,hz _ 32 Ad Ad,hz _ 16 Ad Ad,hz _ 8 Ad Ad,hz _ 4 Ad Ad,hz _ 2 Ad Ad,hz _ 1 Ad Ad];rfl
 ·have IW:1<=u:=Ad
  rw [QJ] at h0;obtain ⟨w1,n1,e1,p1,q1,r1,l1⟩:=Uq (u:=u) (w:=u) (n:=0) (s:=32) (s':=16) (m:=18446744073709551609+1+1+1+1+1+1) Ad Ad Ad Ah IW eO rfl;obtain ⟨w2,n2,e2,p2,q2,r2,l2⟩:=Uq (u:=u) (w:=w1) (n:=n1) (s:=16) (s':=8) (m:=18446744073709551609+1+1+1+1+1) Ad Ad Ad p1 q1 r1 rfl;obtain ⟨w3,n3,e3,p3,q3,r3,l3⟩:=Uq (u:=u) (w:=w2) (n:=n2) (s:=8) (s':=4) (m:=18446744073709551609+1+1+1+1) Ad Ad Ad p2 q2 r2 rfl;obtain ⟨w4,n4,e4,p4,q4,r4,l4⟩:=Uq (u:=u) (w:=w3) (n:=n3) (s:=4) (s':=2) (m:=18446744073709551609+1+1+1) Ad Ad Ad p3 q3 r3 rfl;obtain ⟨w5,n5,e5,p5,q5,r5,l5⟩:=Uq (u:=u) (w:=w4) (n:=n4) (s:=2) (s':=1) (m:=18446744073709551609+1+1) Ad Ad Ad p4 q4 r4 rfl;obtain ⟨w6,n6,e6,p6,q6,r6,l6⟩:=Uq (u:=u) (w:=w5) (n:=n5) (s:=1) (s':=0) (m:=18446744073709551609+1) Ad Ad Ad p5 q5 r5 rfl;have hw6:w6=1:=by
   have:w6<2:=r6;omega
  subst hw6;refine ⟨n6+1,?_,Ad, .inr ⟨Ad,?_,?_⟩⟩
  ·rw [h0,e1,e2,e3,e4,e5,e6,Oe,IL Ad Ad,Iz Ad Ad];rfl
  ·have hp:=Fe n6;rw [Nat.add_sub_cancel];have:=Int.mul_ediv_self_le (x:=u) (k:=2 ^ n6) (Int.ne_of_gt hp);rw [<- p6] at this;omega
  ·have hp:=Fe n6;have:=Int.lt_mul_ediv_self_add (x:=u) (k:=2 ^ n6) hp;rw [<- p6] at this;rw [Int.pow_succ];omega
theorem WU:∀ (f:Nat) (u:Int),0<f->0<=u->u<128 ^ f->1<=(ES f u).length/\(ES f u).length<=f/\u<128 ^ (ES f u).length/\((ES f u).length=1\/128 ^ ((ES f u).length-1)<=u)
 | 0,_,h,_,_=>by omega
 | f+1,u,_,h0,h1=>by
  unfold ES;by_cases AY:u<128
  ·rw [if_pos AY];exact ⟨Ah,Ah,by simpa using AY, .inl rfl⟩
  ·rw [if_neg AY];have h4:u / 128<128 ^ f:=by
    rw [Int.pow_succ] at h1;exact Int.ediv_lt_of_lt_mul Ad h1
   have hf:0<f:=by
    rcases Nat.eq_zero_or_pos f with h | h
    ·subst h;simp at h4;omega
    ·exact h
   obtain ⟨a1,a2,a3,a4⟩:=WU f (u / 128) hf Ad h4;rw [Aw];refine ⟨Ad,Ad,?_, .inr ?_⟩
   ·rw [Int.pow_succ];omega
   ·rw [Nat.add_sub_cancel];obtain ⟨n,hn⟩:∃ n,(ES f (u / 128)).length=n+1:=⟨(ES f (u / 128)).length-1,Ad⟩;rw [hn] at a4 ⊢;rw [Int.pow_succ];rcases a4 with a4 | a4
    ·have:n=0:=Ad
     subst this;rw [Int.pow_zero];omega
    ·rw [Nat.add_sub_cancel] at a4;omega
theorem Ni (n:Nat):(128:Int) ^ n=2 ^ (7*n):=by
 rw [Int.pow_mul];rfl
theorem Wp {a b:Nat} (h:(2:Int) ^ a<2 ^ b):a<b:=by
 rcases Nat.lt_or_ge a b with h1 | h1
 ·exact h1
 ·have:(2:Int) ^ b<=2 ^ a:=by exact_mod_cast Nat.pow_le_pow_right (n:=2) Ad h1
  omega
theorem Zrv (x:Int):WJ x=some (((ES 10 (EL x % 18446744073709551616)).length:Nat):Int):=by
 unfold WJ;obtain ⟨n,hn,Xoi,hu⟩:=fZ (z:=EL x) rfl;have AY:EL x % 18446744073709551616<128 ^ 10:=by
  have:(128:Int) ^ 10=1180591620717411303424:=rfl;omega
 obtain ⟨a1,a2,a3,a4⟩:=WU 10 (EL x % 18446744073709551616) Ad Ad AY;rw [hn,An,Iz Ad Ad,UK Ad Ad];have hq:GB .i64 ((n:Int)+7-1) 7=(((n+6) / 7:Nat):Int):=by
  unfold GB;have:((n:Int)+7-1).tdiv 7=(((n+6) / 7:Nat):Int):=by rw [Int.tdiv_eq_ediv_of_nonneg Ad];omega
  rw [this];exact IL Ad Ad
 rw [hq];revert a1 a2 a3 a4 hu;generalize EL x % 18446744073709551616=u;generalize (ES 10 u).length=m;intro hu a1 a2 a3 a4;have Yv:FT 1 (((n+6) / 7:Nat):Int)=(m:Int):=by
  unfold FT;rcases hu with ⟨rfl,rfl⟩ | ⟨h1,h2,h3⟩
  ·rcases a4 with a4 | a4
   ·subst a4;rfl
   ·have:=Fe (7*(m-1));rw [Ni] at a4;omega
  ·rw [Ni] at a3 a4;have b1:n-1<7*m:=Wp Ad;rcases a4 with a4 | a4
   ·subst a4;have:(n+6) / 7=1:=Ad
    rw [this];rfl
   ·have b2:7*(m-1)<n:=Wp Ad;have:(n+6) / 7=m:=Ad
    rw [this];split <;> omega
 rw [Yv]
def Ec:List Int->Int
 | []=>0
 | b :: l=>b % 128+128*Ec l
theorem Q4:∀ l:List Int,0<=Ec l
 | []=>Int.le_refl _
 | b :: l=>by have:=Q4 l;unfold Ec;omega
def Form:List Int->Prop
 | []=>False
 | [b]=>0<=b/\b<128
 | a :: b :: l=>(128<=a/\a<256)/\Form (b :: l)
theorem jd:∀ (l:List Int) (f:Nat),Form l->l.length<=f->ES f (Ec l)=l\/(ES f (Ec l)).length<l.length
 | [],_,h,_=>h.elim
 | [b],0,_,hl=>by simp at hl
 | [b],f+1,h,_=>by
  have hb:b % 128=b:=by unfold Form at h;omega
  left;unfold ES Ec Ec;rw [hb,if_pos (by unfold Form at h;omega)];simp
 | a :: b :: l,0,_,hl=>by simp at hl
 | a :: b :: l,f+1,h,hl=>by
  obtain ⟨⟨h1,h2⟩,h3⟩:=h;have hm:a % 128=a-128:=Ad
  have hv:Ec (a :: b :: l)=(a-128)+128*Ec (b :: l):=by rw [<- hm];rfl
  have hn:=Q4 (b :: l);rw [hv];unfold ES;by_cases hz:Ec (b :: l)=0
  ·right;rw [hz,if_pos Ad];simp
  ·rw [if_neg Ad];have e1:(a-128+128*Ec (b :: l)) % 128=a-128:=Ad
   have e2:(a-128+128*Ec (b :: l)) / 128=Ec (b :: l):=by omega
   rw [e1,e2,show (128:Int)+(a-128)=a by omega];rcases jd (b :: l) f h3 (by simpa using hl) with h | h
   ·left;rw [h]
   ·right;simpa using h
end Go.AM.Pure
