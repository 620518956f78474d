import Derived.Test.YtclpadlpcfnfmaaGreatAmPVint
/- Numbers read out of bytes: layer 02. -/
namespace Go.AM.Pure
open Go.AM
theorem SQ {a b:Int} (h:∀ k,k<64→bit a k=bit b k):a % 18446744073709551616=b % 18446744073709551616:=by
 rw [← dR,← dR]
 have:bitsOf a=bitsOf b:=by rw [← SU (v:=b) (f:=bit a) h];rfl
 rw [this]
theorem Yaj (w:Int):Eb (EE w) % 18446744073709551616=w % 18446744073709551616:=by
 apply SQ
 intro k hk
 have hz:BY (EE w):=OO _
 rw [Y9 hz hk,To w (show 63<64 by omega)]
 by_cases h:1≤k
 ·rw [To w (by omega),Af h,Af (show k-1<63 by omega),show k-1+1=k by omega,An (show ¬ 63<63 by omega)]
  cases bit w k <;> cases bit w 0 <;> rfl
 ·have:k=0:=by omega
  subst this
  simp
theorem tP {a b:Int} (h:a % 18446744073709551616=b % 18446744073709551616):EE a=EE b:=by
 have hb:∀ k,k<64→bit a k=bit b k:=fun k hk=>by rw [← Mc a hk,h,Mc b hk]
 have h2:EE a % 18446744073709551616=EE b % 18446744073709551616:=by
  apply SQ
  intro k hk
  rw [To a hk,To b hk,hb 0 (by omega)]
  by_cases Um:k<63
  ·rw [hb (k+1) (by omega)]
  ·rw [An Um,Bool.false_and,Bool.false_and]
 have ha:BY (EE a):=OO _
 have Ff:BY (EE b):=OO _
 rw [← NA ha,← NA Ff,← Rm (EE a),← Rm (EE b),h2]
theorem Mp (w:Int) (s:Nat) (hs:s≤64):BH .u64 w (s:Int)=w / 2 ^ s:=by
 unfold BH
 have:min (s:Int).toNat (IntKind.bits .u64)=s:=by show min s 64=s;omega
 rw [this,Int.fdiv_eq_ediv_of_nonneg]
 exact Int.le_of_lt (EX s)
theorem SV {u w:Int} {n s s' m:Nat} (hs:0<s) (Yn5:s≤32) (hn:n≤64) (hw:w=u / 2 ^ n) (h1:1≤w) (h2:w<2 ^ (2*s)) (Ev:s'=s / 2):
  ∃ w' n',E4.l0 (m+1) w (n:Int) (s:Int)=E4.l0 m w' ((n':Nat):Int) ((s':Nat):Int)∧w'=u / 2 ^ n'∧1≤w'∧w'<2 ^ s∧n'≤n+s:=by
 show ∃ w' n',E4.S0 (E4.l0 m) w (n:Int) (s:Int)=_∧_
 unfold E4.S0
 have a1:AS 0 (s:Int)=true:=Af (by omega)
 have a2:Bq 0 (s:Int)=true:=Af (by omega)
 have a3:FE .i64 (s:Int) 2=((s':Nat):Int):=by
  unfold FE
  rw [Ev]
  have:((s:Int)).tdiv 2=((s / 2:Nat):Int):=by rw [Int.tdiv_eq_ediv_of_nonneg (by omega)];omega
  rw [this]
  exact IB (by omega) (by omega)
 rw [a1,a2,a3,Mp w s (by omega)]
 have hp:=EX s
 by_cases h:0<w / 2 ^ s
 ·refine ⟨w / 2 ^ s,n+s,?_,?_,by omega,?_,by omega⟩
  ·rw [show AS 0 (w / 2 ^ s)=true from Af h,Ie (by omega) (by omega)]
   rfl
  ·rw [hw,Int.ediv_ediv_of_nonneg (Int.le_of_lt (EX n)),← Int.pow_add]
  ·apply Int.ediv_lt_of_lt_mul hp
   rw [← Int.pow_add,show s+s=2*s by omega]
   exact h2
 ·refine ⟨w,n,?_,hw,h1,?_,by omega⟩
  ·rw [show AS 0 (w / 2 ^ s)=false from An h]
   rfl
  ·by_cases AO:w<2 ^ s
   ·exact AO
   ·exfalso
    have:1≤w / 2 ^ s:=by rw [Int.le_ediv_iff_mul_le hp];omega
    omega
theorem dz {z u:Int} (hz:z % 18446744073709551616=u):∃ n:Nat,E4 z=some (n:Int)∧n≤64∧((u=0∧n=0)∨(1≤n∧2 ^ (n-1)≤u∧u<2 ^ n)):=by
 have mO:0≤u:=by omega
 have cu:u<2 ^ 64:=by rw [← M4];omega
 have Pz:fu=(18446744073709551609+1+1+1+1+1+1)+1:=rfl
 have M3:∀ (m:Nat) (w:Int) (n:Nat),E4.l0 (m+1) w (n:Int) ((0:Nat):Int)=some (AQ .i64 (n:Int) (IntKind.wrap .i64 w)):=fun m w n=>rfl
 have h0:E4 z=E4.l0 fu (IntKind.wrap .u64 z) ((0:Nat):Int) ((32:Nat):Int):=rfl
 rw [Ew,hz] at h0
 by_cases hu:u=0
 ·subst hu
  refine ⟨0,?_,by omega, .inl ⟨rfl,rfl⟩⟩
  rw [h0]
  have hz:∀ (m s:Nat),0<s→s≤32→E4.l0 (m+1) 0 ((0:Nat):Int) (s:Int)=E4.l0 m 0 ((0:Nat):Int) ((s / 2:Nat):Int):=fun m s h1 h2=>by
   show E4.S0 (E4.l0 m) 0 ((0:Nat):Int) (s:Int)=_
   unfold E4.S0
   have a1:AS 0 (s:Int)=true:=Af (by omega)
   have a2:Bq 0 (s:Int)=true:=Af (by omega)
   have a3:FE .i64 (s:Int) 2=((s / 2:Nat):Int):=by
    unfold FE
    have:((s:Int)).tdiv 2=((s / 2:Nat):Int):=by rw [Int.tdiv_eq_ediv_of_nonneg (by omega)];omega
    rw [this]
    exact IB (by omega) (by omega)
   rw [a1,a2,a3,Mp 0 s (by omega),Int.zero_ediv]
   rfl
  rw [Pz,hz _ 32 (by omega) (by omega),hz _ 16 (by omega) (by omega),hz _ 8 (by omega) (by omega),hz _ 4 (by omega) (by omega),hz _ 2 (by omega) (by omega),hz _ 1 (by omega) (by omega)]
  rfl
 ·have HH:1≤u:=by omega
  rw [Pz] at h0
  obtain ⟨w1,n1,e1,p1,q1,r1,l1⟩:=SV (u:=u) (w:=u) (n:=0) (s:=32) (s':=16) (m:=18446744073709551609+1+1+1+1+1+1) (by omega) (by omega) (by omega) (by simp) HH cu rfl
  obtain ⟨w2,n2,e2,p2,q2,r2,l2⟩:=SV (u:=u) (w:=w1) (n:=n1) (s:=16) (s':=8) (m:=18446744073709551609+1+1+1+1+1) (by omega) (by omega) (by omega) p1 q1 r1 rfl
  obtain ⟨w3,n3,e3,p3,q3,r3,l3⟩:=SV (u:=u) (w:=w2) (n:=n2) (s:=8) (s':=4) (m:=18446744073709551609+1+1+1+1) (by omega) (by omega) (by omega) p2 q2 r2 rfl
  obtain ⟨w4,n4,e4,p4,q4,r4,l4⟩:=SV (u:=u) (w:=w3) (n:=n3) (s:=4) (s':=2) (m:=18446744073709551609+1+1+1) (by omega) (by omega) (by omega) p3 q3 r3 rfl
  obtain ⟨w5,n5,e5,p5,q5,r5,l5⟩:=SV (u:=u) (w:=w4) (n:=n4) (s:=2) (s':=1) (m:=18446744073709551609+1+1) (by omega) (by omega) (by omega) p4 q4 r4 rfl
  obtain ⟨w6,n6,e6,p6,q6,r6,l6⟩:=SV (u:=u) (w:=w5) (n:=n5) (s:=1) (s':=0) (m:=18446744073709551609+1) (by omega) (by omega) (by omega) p5 q5 r5 rfl
  have hw6:w6=1:=by
   have:w6<2:=r6
   omega
  subst hw6
  refine ⟨n6+1,?_,by omega, .inr ⟨by omega,?_,?_⟩⟩
  ·rw [h0,e1,e2,e3,e4,e5,e6,M3,IB (by omega) (by omega),Ie (by omega) (by omega)]
   rfl
  ·have hp:=EX n6
   rw [Nat.add_sub_cancel]
   have:=Int.mul_ediv_self_le (x:=u) (k:=2 ^ n6) (Int.ne_of_gt hp)
   rw [← p6] at this
   omega
  ·have hp:=EX n6
   have:=Int.lt_mul_ediv_self_add (x:=u) (k:=2 ^ n6) hp
   rw [← p6] at this
   rw [Int.pow_succ]
   omega
theorem Vn:∀ (f:Nat) (u:Int),0<f→0≤u→u<128 ^ f→1≤(Eg f u).length∧(Eg f u).length≤f∧u<128 ^ (Eg f u).length∧((Eg f u).length=1∨128 ^ ((Eg f u).length-1)≤u)
 | 0,_,h,_,_=>by omega
 | f+1,u,_,h0,h1=>by
  unfold Eg
  by_cases AO:u<128
  ·rw [if_pos AO]
   exact ⟨by simp,by simp,by simpa using AO, .inl rfl⟩
  ·rw [if_neg AO]
   have h4:u / 128<128 ^ f:=by
    rw [Int.pow_succ] at h1
    exact Int.ediv_lt_of_lt_mul (by omega) h1
   have hf:0<f:=by
    rcases Nat.eq_zero_or_pos f with h | h
    ·subst h;simp at h4;omega
    ·exact h
   obtain ⟨a1,a2,a3,a4⟩:=Vn f (u / 128) hf (by omega) h4
   rw [Aj]
   refine ⟨by omega,by omega,?_, .inr ?_⟩
   ·rw [Int.pow_succ];omega
   ·rw [Nat.add_sub_cancel]
    obtain ⟨n,hn⟩:∃ n,(Eg f (u / 128)).length=n+1:=⟨(Eg f (u / 128)).length-1,by omega⟩
    rw [hn] at a4 ⊢
    rw [Int.pow_succ]
    rcases a4 with a4 | a4
    ·have:n=0:=by omega
     subst this
     rw [Int.pow_zero];omega
    ·rw [Nat.add_sub_cancel] at a4;omega
theorem NO (n:Nat):(128:Int) ^ n=2 ^ (7*n):=by
 rw [Int.pow_mul];rfl
theorem Yq {a b:Nat} (h:(2:Int) ^ a<2 ^ b):a<b:=by
 rcases Nat.lt_or_ge a b with h1 | h1
 ·exact h1
 ·have:(2:Int) ^ b≤2 ^ a:=by exact_mod_cast Nat.pow_le_pow_right (n:=2) (by omega) h1
  omega
theorem Zym (x:Int):Vf x=some (((Eg 10 (Eb x % 18446744073709551616)).length:Nat):Int):=by
 unfold Vf
 obtain ⟨n,hn,Yo5,hu⟩:=dz (z:=Eb x) rfl
 have AO:Eb x % 18446744073709551616<128 ^ 10:=by
  have:(128:Int) ^ 10=1180591620717411303424:=rfl
  omega
 obtain ⟨a1,a2,a3,a4⟩:=Vn 10 (Eb x % 18446744073709551616) (by omega) (by omega) AO
 rw [hn,Ad,Ie (by omega) (by omega),Tp (by omega) (by omega)]
 have hq:FE .i64 ((n:Int)+7-1) 7=(((n+6) / 7:Nat):Int):=by
  unfold FE
  have:((n:Int)+7-1).tdiv 7=(((n+6) / 7:Nat):Int):=by rw [Int.tdiv_eq_ediv_of_nonneg (by omega)];omega
  rw [this]
  exact IB (by omega) (by omega)
 rw [hq]
 revert a1 a2 a3 a4 hu
 generalize Eb x % 18446744073709551616=u
 generalize (Eg 10 u).length=m
 intro hu a1 a2 a3 a4
 have WR:EM 1 (((n+6) / 7:Nat):Int)=(m:Int):=by
  unfold EM
  rcases hu with ⟨rfl,rfl⟩ | ⟨h1,h2,h3⟩
  ·rcases a4 with a4 | a4
   ·subst a4;rfl
   ·have:=EX (7*(m-1))
    rw [NO] at a4
    omega
  ·rw [NO] at a3 a4
   have b1:n-1<7*m:=Yq (by omega)
   rcases a4 with a4 | a4
   ·subst a4
    have:(n+6) / 7=1:=by omega
    rw [this];rfl
   ·have b2:7*(m-1)<n:=Yq (by omega)
    have:(n+6) / 7=m:=by omega
    rw [this]
    split <;> omega
 rw [WR]
def DI:List Int→Int
 | []=>0
 | b :: l=>b % 128+128*DI l
theorem Rf:∀ l:List Int,0≤DI l
 | []=>Int.le_refl _
 | b :: l=>by have:=Rf l;unfold DI;omega
def Form:List Int→Prop
 | []=>False
 | [b]=>0≤b∧b<128
 | a :: b :: l=>(128≤a∧a<256)∧Form (b :: l)
theorem fm:∀ (l:List Int) (f:Nat),Form l→l.length≤f→Eg f (DI l)=l∨(Eg f (DI l)).length<l.length
 | [],_,h,_=>h.elim
 | [b],0,_,hl=>by simp at hl
 | [b],f+1,h,_=>by
  have hb:b % 128=b:=by unfold Form at h;omega
  left
  unfold Eg DI DI
  rw [hb,if_pos (by unfold Form at h;omega)]
  simp
 | a :: b :: l,0,_,hl=>by simp at hl
 | a :: b :: l,f+1,h,hl=>by
  obtain ⟨⟨h1,h2⟩,h3⟩:=h
  have hm:a % 128=a-128:=by omega
  have hv:DI (a :: b :: l)=(a-128)+128*DI (b :: l):=by rw [← hm];rfl
  have hn:=Rf (b :: l)
  rw [hv]
  unfold Eg
  by_cases hz:DI (b :: l)=0
  ·right
   rw [hz,if_pos (by omega)]
   simp
  ·rw [if_neg (by omega)]
   have e1:(a-128+128*DI (b :: l)) % 128=a-128:=by omega
   have e2:(a-128+128*DI (b :: l)) / 128=DI (b :: l):=by omega
   rw [e1,e2,show (128:Int)+(a-128)=a by omega]
   rcases fm (b :: l) f h3 (by simpa using hl) with h | h
   ·left;rw [h]
   ·right;simpa using h
end Go.AM.Pure
