import Derived.Test.YtclpadlpcfnfmaaGreatAmPure18
import Derived.Test.YtclpadlpcfnfmaaGreatAmP14
import Derived.Test.YtclpadlpcfnfmaaGreatAmP17t
section
/- bits.With, Next, Ones, Field. -/
namespace Go.AM.Pure
open Go.AM
theorem Ycd (a b:Int) {k:Nat} (hk:k<64):bit (Pc .u64 a b) k=(bit a k && !bit b k):=by
 unfold Pc;show bit (IntKind.wrap .u64 ((BitVec.ofInt 64 a &&& ~~~ BitVec.ofInt 64 b).toNat:Int)) k=_;rw [JW _ hk,MF,BitVec.toNat_and,Nat.testBit_and,Nc _ hk];congr 1;rw [BitVec.testBit_toNat,BitVec.getLsbD_not,Aq hk,AH,<- BitVec.testBit_toNat,Nc _ hk]
theorem ja (a:Int) {j k:Nat} (hj:j<=64) (hk:k<64):bit (EN .u64 a (j:Int)) k=(decide (j<=k) && bit a (k-j)):=by
 unfold EN;rw [show min (j:Int).toNat (IntKind.bits .u64)=j from Nat.min_eq_left hj,JW _ hk,WS]
theorem Ydd (n k:Nat):bit (2 ^ n-1) k=decide (k<n):=by
 have h1:(1:Nat)<=2 ^ n:=Nat.one_le_two_pow;have h:(2:Int) ^ n-1=((2 ^ n-1:Nat):Int):=by
  rw [Int.natCast_sub h1,Int.natCast_pow];rfl
 rw [h,MF,Nat.testBit_two_pow_sub_one]
theorem tW (w:Int) (h:1<=w):∃ m,PY w=some m/\∀ k:Nat,k<64->bit m k=decide ((k:Int)<w):=by
 unfold PY;rw [Gc,Al];by_cases h2:64<=w
 ·rw [CH h2,Ak];exact ⟨_,rfl,λ k hk=>by rw [jc,Aq Ad]⟩
 ·rw [Gc,Al,CH,Ak];refine ⟨_,rfl,λ k hk=>?_⟩;obtain ⟨n,rfl⟩:∃ n:Nat,w=(n:Int):=⟨w.toNat,Ad⟩;have hn:n<64:=Ad
  rw [P4 _ hk];have h1:EN .u64 1 (n:Int)=2 ^ n:=by
   unfold EN;rw [show min (n:Int).toNat (IntKind.bits .u64)=n from Nat.min_eq_left (Nat.le_of_lt hn),E6,Int.one_mul];have:=Fe n;have h3:(2:Int) ^ n<2 ^ 64:=Int.pow_lt_pow_of_lt Af hn;rw [<- Nn] at h3;exact Int.emod_eq_of_lt Ad h3
  have h3:Bt .u64 (2 ^ n) 1=2 ^ n-1:=by
   unfold Bt;rw [E6];have:=Fe n;have h3:(2:Int) ^ n<2 ^ 64:=Int.pow_lt_pow_of_lt Af hn;rw [<- Nn] at h3;exact Int.emod_eq_of_lt Ad Ad
  rw [h1,h3,Ydd];congr 1;exact propext ⟨λ h=>by omega,λ h=>by omega⟩
theorem Zn1 (x:Int) (a:Nat) (n:Int) (ha:a<64) (hn:1<=n):∃ y,ZU x (a:Int) n (-1)=some y/\BN y/\∀ k:Nat,k<64->bit y k=(bit x k || (decide (a<=k) && decide ((k:Int)<a+n))):=by
 obtain ⟨m,hm,hb⟩:=tW n hn;unfold ZU
 rw [show NY (a:Int) n=true from by
  unfold NY
  rw [CH,Ak,Bw,Ak,CH hn],Bool.not_true,Al,hm,An,CH,Ak,Ak]
 refine ⟨_,rfl,?_,λ k hk=>?_⟩
 ·unfold BN;rw [KW];split <;> omega
 rw [P4 _ hk,jD _ _ hk,Ycd _ _ hk,Yed _ _ hk,JW _ hk,ja _ Ad hk,ja _ Ad hk];by_cases h:a<=k
 ·rw [Aq h,AH,AH,AH,JW _ Ad,JW _ Ad,jc,hb _ Ad,AH];rw [show decide (((k-a:Nat):Int)<n)=decide ((k:Int)<a+n) from by congr 1;exact propext ⟨λ h=>by omega,λ h=>by omega⟩];cases decide ((k:Int)<a+n) <;> simp
 ·rw [Ax h];simp
theorem Yrv (x:Int) (b:Nat):∃ c,OO x (b:Int)=some c/\((c = -1/\∀ k,b<=k->k<64->bit x k=false)\/∃ j:Nat,c=(j:Int)/\b<=j/\j<64/\bit x j=true/\∀ k,b<=k->k<j->bit x k=false):=by
 unfold OO;have Ds:FT (b:Int) 0=(b:Int):=by
  unfold FT;rw [if_neg Ad]
 rw [Ds];by_cases hb:64<=b
 ·rw [CH,Ak];exact ⟨-1,rfl, .inl ⟨rfl,λ k h1 h2=>by omega⟩⟩
 rw [Gc,Al,CH,Ak,Ak];obtain ⟨y,hy⟩:∃ y,EN .u64 (B7 .u64 (IntKind.wrap .u64 x) (b:Int)) (b:Int)=y:=⟨_,rfl⟩;rw [hy];have NF:0<=y/\y<18446744073709551616:=by
  rw [<- hy];unfold EN;rw [E6];omega
 have L5:∀ k,k<64->bit y k=(decide (b<=k) && bit x k):=λ k hk=>by
  rw [<- hy,ja _ Ad hk,Ns _ _ Ad,Ri];by_cases h:b<=k
  ·rw [show b+(k-b)=k by omega,JW _ hk]
  ·rw [Ax h,Bool.false_and,Bool.false_and]
 by_cases h0:y=0
 ·rw [Ci h0,Ak];refine ⟨-1,rfl, .inl ⟨rfl,λ k h1 h2=>?_⟩⟩;have:=L5 k h2;rw [h0,UB,Aq h1,AH] at this;exact this.symm
 rw [Ca h0,Al];obtain ⟨m,hm⟩:=Int.eq_ofNat_of_zero_le NF.1;have qb:m≠0:=Ad
 obtain ⟨j,hj,Ov⟩:∃ j,m.testBit j=true/\∀ k,k<j->m.testBit k=false:=by
  obtain ⟨i,hi⟩:=Nat.exists_testBit_of_ne_zero qb;induction i using Nat.strongRecOn with
  | ind i ih=>
   by_cases h:∃ k,k<i/\m.testBit k=true
   ·obtain ⟨k,hk,LB⟩:=h;exact ih k hk LB
   ·exact ⟨i,hi,λ k hk=>by
     cases hq:m.testBit k with
     | false=>rfl
     | true=>exact absurd ⟨k,hk,hq⟩ h⟩
 have Yw:j<64:=by
  rcases Nat.lt_or_ge j 64 with h | h
  ·exact h
  ·exfalso;have h1:m<2 ^ j:=Nat.lt_of_lt_of_le (show m<2 ^ 64 by omega) (Nat.pow_le_pow_right Af h);rw [Nat.testBit_lt_two_pow h1] at hj;cases hj
 obtain ⟨q,hq⟩:∃ q,m=(2*q+1)*2 ^ j:=by
  have Qx:m % 2 ^ j=0:=by
   apply Nat.eq_of_testBit_eq;intro i;rw [Nat.testBit_mod_two_pow,Nat.zero_testBit];by_cases h:i<j
   ·rw [Ov i h];simp
   ·simp [h]
  have hdiv:m / 2 ^ j % 2=1:=by
   have:=hj;rw [Nat.testBit_eq_decide_div_mod_eq] at this;exact Az this
  refine ⟨m / 2 ^ j / 2,?_⟩;have h1:=Nat.div_add_mod m (2 ^ j);have h2:=Nat.div_add_mod (m / 2 ^ j) 2;rw [Qx,Nat.add_zero] at h1;rw [hdiv] at h2;rw [h2,Nat.mul_comm];exact h1.symm
 have hand:Cb .u64 y (Bt .u64 0 y)=2 ^ j:=by
  have hs:Bt .u64 0 y=((18446744073709551616-m:Nat):Int):=by
   unfold Bt;rw [E6];omega
  rw [hs];unfold Cb;show IntKind.wrap .u64 ((BitVec.ofInt 64 y &&& BitVec.ofInt 64 ((18446744073709551616-m:Nat):Int)).toNat:Int)=_;have e1:(BitVec.ofInt 64 y).toNat=m:=by
   have:=Q7 y;rw [Int.emod_eq_of_lt NF.1 NF.2] at this;omega
  have e2:(BitVec.ofInt 64 ((18446744073709551616-m:Nat):Int)).toNat=18446744073709551616-m:=by
   have:=Q7 ((18446744073709551616-m:Nat):Int);omega
  rw [BitVec.toNat_and,e1,e2];have e3:m &&& (18446744073709551616-m)=2 ^ j:=by
   have hN:18446744073709551616=2 ^ (64-j)*2 ^ j:=by rw [<- Nat.pow_add,show 64-j+j=64 by omega]
   have J5:18446744073709551616-m=(2 ^ (64-j)-(2*q+1))*2 ^ j:=by rw [hq,hN,Nat.sub_mul]
   have AY:2*q+1<2 ^ (64-j):=by
    have h1:m<18446744073709551616:=Ad
    rw [hq,hN] at h1;exact Nat.lt_of_mul_lt_mul_right h1
   rw [J5]
   conv=>lhs;lhs;rw [hq]
   apply Nat.eq_of_testBit_eq;intro i;rw [Nat.testBit_and,Nat.testBit_mul_two_pow,Nat.testBit_mul_two_pow,Nat.testBit_two_pow];by_cases h:j<=i
   ·rw [Aq h,AH,AH];obtain ⟨i,rfl⟩:∃ k,i=j+k:=⟨i-j,Ad⟩;rw [Nat.add_sub_cancel_left];have h2:2 ^ (64-j)-(2*q+1)=2 ^ (64-j)-((2*q)+1):=rfl;rw [h2,Nat.testBit_two_pow_sub_succ Ad];cases i with
    | zero=>
     rw [Nat.testBit_zero,Nat.testBit_zero];simp;omega
    | succ i=>
     rw [Nat.testBit_succ,Nat.testBit_succ,show (2*q+1) / 2=q by omega,show 2*q / 2=q by omega];rw [show decide (j=j+(i+1))=false from Ax Ad];cases q.testBit i <;> simp
   ·rw [Ax h,Bool.false_and,Bool.false_and,Ax Ad]
  rw [e3,E6];have h3:(2:Int) ^ j<2 ^ 64:=Int.pow_lt_pow_of_lt Af Yw;rw [<- Nn] at h3;have:=Fe j;rw [Int.natCast_pow];exact Int.emod_eq_of_lt (by show 0<=(2:Int) ^ j;omega) h3
 rw [hand]
 obtain ⟨n,JH,Mi,hn3⟩:=fZ (z:=IntKind.wrap .i64 (2 ^ j)) (u:=2 ^ j) (by
  have h3:(2:Int) ^ j<2 ^ 64:=Int.pow_lt_pow_of_lt Af Yw;rw [<- Nn] at h3;have:=Fe j;rw [KW]
  split <;> omega)
 have hnj:n=j+1:=by
  have hp:=Fe j;rcases hn3 with ⟨h,_⟩ | ⟨h1,h2,h3⟩
  ·omega
  ·have h4:n-1<=j:=by
    rcases Nat.lt_or_ge j (n-1) with h | h
    ·exfalso;have:(2:Int) ^ j<2 ^ (n-1):=Int.pow_lt_pow_of_lt Af h;omega
    ·exact h
   have h5:j<n:=by
    rcases Nat.lt_or_ge j n with h | h
    ·exact h
    ·exfalso;have:(2:Int) ^ n<=2 ^ j:=by exact_mod_cast Nat.pow_le_pow_right (n:=2) Ad h
     omega
   omega
 rw [JH,An,hnj];refine ⟨(j:Int),?_, .inr ⟨j,rfl,?_,Yw,?_,λ k h1 h2=>?_⟩⟩
 ·rw [CA];congr 1;omega
 ·have h1:=L5 j Yw;rw [hm,MF,hj] at h1;have:=Bool.and_eq_true_iff.1 h1.symm;exact Az this.1
 ·have h1:=L5 j Yw;rw [hm,MF,hj] at h1;exact (Bool.and_eq_true_iff.1 h1.symm).2
 ·have h3:=L5 k Ad;rw [hm,MF,Ov k h2,Aq h1,AH] at h3;exact h3.symm
end Go.AM.Pure
end

section
/- Words of places: which places they have, how many, how many below one. -/
namespace Go.AM.Pure
open Go.AM
def Ma (w:Int) (b:Nat):List Int:=((List.range' b (64-b)).filter λ k=>bit w k).map λ (k:Nat)=>(k:Int)
theorem Ybd (w:Int) {b:Nat} (h:64<=b):Ma w b=[]:=by
 unfold Ma;rw [show 64-b=0 by omega];rfl
theorem tU (w:Int) {b:Nat} (h:b<64):Ma w b=(if bit w b then [(b:Int)] else [])++Ma w (b+1):=by
 unfold Ma;rw [show 64-b=(64-(b+1))+1 by omega,List.range'_succ,List.filter_cons];split <;> simp
theorem tV (w:Int):∀ (d b j:Nat),d=j-b->b<=j->j<=64->(∀ k,b<=k->k<j->bit w k=false)->Ma w b=Ma w j:=by
 intro d;induction d with
 | zero=>intro b j hd h _ _;rw [show b=j by omega]
 | succ d ih=>
  intro b j hd h BH hz;rw [tU w Ad,hz b (Au _) Ad];exact ih (b+1) j Ad Ad BH λ k h1 h2=>hz k Ad h2
theorem Zpv (w:Int):∀ (n b:Nat),b<=64->64-b<n->F7 n w (b:Int)=some (Ma w b):=by
 intro n;induction n with
 | zero=>intro b _ h;omega
 | succ n ih=>
  intro b hb hn;unfold F7;obtain ⟨c,hc,h⟩:=Yrv w b;rw [hc,An];rcases h with ⟨rfl,hz⟩ | ⟨j,rfl,h1,h2,h3,h4⟩
  ·rw [Bw,Ak,tV w (64-b) b 64 rfl hb (Au _) λ k h1 h2=>hz k h1 h2,Ybd w (Au _)]
  ·rw [Be,Al,Bw,Ak,Ac j,ih (j+1) Ad Ad,An];rw [tV w (j-b) b j rfl h1 Ad h4,tU w h2,h3];rfl
def MT:Nat->List Int->List Int
 | _,[]=>[]
 | k,w :: ws=>(Ma w 0).map (λ b=>64*(k:Int)+b)++MT (k+1) ws
theorem gI:∀ (ws:List Int) (k:Nat),ME (k:Int) ws=some (MT k ws)
 | [],_=>rfl
 | w :: ws,k=>by
  show (F7 70 w ((0:Nat):Int)).bind _=_;rw [Zpv w 70 0 Ad Ad,An,Ac k,gI ws (k+1),An];rfl
abbrev Jw (l:List Nat):List Int:=l.map λ (k:Nat)=>(k:Int)
theorem Zwe (Q:Nat->Bool):∀ (ws:List Int) (k:Nat),(∀ (i:Nat) (h:i<ws.length) (b:Nat),b<64->bit ws[i] b=Q (64*(k+i)+b))->MT k ws=Jw ((List.range' (64*k) (64*ws.length)).filter Q)
 | [],_,_=>rfl
 | w :: ws,k,h=>by
  have ih:=Zwe Q ws (k+1) λ i hi b hb=>by
   have:=h (i+1) (by simpa using hi) b hb;rw [List.getElem_cons_succ] at this;rw [this];congr 1;omega
  unfold MT
  rw [ih,Aw,show 64*(ws.length+1)=64+64*ws.length by omega,show List.range' (64*k) (64+64*ws.length)=List.range' (64*k) 64++List.range' (64*(k+1)) (64*ws.length) by
   rw [show 64*(k+1)=64*k+64 by omega,List.range'_append_1],List.filter_append,Jw,Jw,AG]
  congr 1;unfold Ma;have hr:List.range' (64*k) 64=(List.range' 0 64).map (64*k + ·):=by rw [List.map_add_range'];rfl
  rw [hr,List.filter_map,List.map_map,List.map_map];have hf:(List.range' 0 (64-0)).filter (λ k=>bit w k)=(List.range' 0 64).filter (Q ∘ (64*k + ·)):=by
   apply List.filter_congr;intro b hb;have GF:b<64:=by simpa [List.mem_range'] using hb
   have:=h 0 Ah b GF;rw [List.getElem_cons_zero] at this;rw [this];rfl
  rw [hf];apply List.map_congr_left;intro b _;simp
def cb (w:Int) (k:Nat):Nat:=((List.range k).filter λ j=>bit w j).length
theorem LY (w:Int) (k:Nat):cb w (k+1)=cb w k+(if bit w k then 1 else 0):=by
 unfold cb;rw [List.range_succ,List.filter_append,Ap];cases h:bit w k <;> simp [h]
theorem Xc (w:Int):∀ k,cb w k<=k
 | 0=>Au _
 | k+1=>by rw [LY];have:=Xc w k;split <;> omega
theorem Yl3 (w:Int):(Ma w 0).length=cb w 64:=by
 unfold Ma cb;rw [Av,List.range_eq_range']
theorem vL {x y:Int}:∀ {k:Nat},(∀ j,j<k->bit x j=bit y j)->cb x k=cb y k
 | 0,_=>rfl
 | k+1,h=>by rw [LY,LY,vL (k:=k) λ j hj=>h j Ad,h k Ad]
theorem Zxe {x y:Int} {m:Nat}:∀ {k:Nat},(∀ j,j<k->bit x j=(bit y j && decide (j<m)))->cb x k=cb y (min k m)
 | 0,_=>by simp [cb]
 | k+1,h=>by
  rw [LY,Zxe (k:=k) λ j hj=>h j Ad,h k Ad];by_cases hk:k<m
  ·rw [show min (k+1) m=min k m+1 by omega,LY,show min k m=k by omega,Aq hk,Bool.and_true]
  ·rw [show min (k+1) m=min k m by omega,Ax hk,Bool.and_false];rfl
theorem Xfa {x:Int}:Cb .u64 x 15=x % 16:=by
 have h:=iZ (u:=x % 18446744073709551616) Ad Ad (k:=4) Ad;have h2:Cb .u64 x 15=Cb .u64 (x % 18446744073709551616) (IntKind.wrap .u64 (2 ^ 4-1)):=by
  unfold Cb;show IntKind.wrap .u64 ((BitVec.ofInt 64 x &&& BitVec.ofInt 64 15).toNat:Int)=IntKind.wrap .u64 ((BitVec.ofInt 64 (x % 18446744073709551616) &&& BitVec.ofInt 64 15).toNat:Int);congr 4;apply BitVec.eq_of_toNat_eq;have e1:=Q7 x;have e2:=Q7 (x % 18446744073709551616);omega
 rw [h2,h];omega
theorem Xga (x:Int) {j:Nat} (hj:j<4):bit x j=bit (x % 16) j:=by
 have h:=mod_pow_succ x j;unfold bit;rcases (show j=0\/j=1\/j=2\/j=3 by omega) with rfl | rfl | rfl | rfl <;> (congr 1;omega)
theorem Ysv (x:Int):Gk x=some (cb x 4:Int):=by
 have hc:cb x 4=cb (x % 16) 4:=vL λ j hj=>Xga x hj
 rw [hc];unfold Gk Gk.S;rw [Xfa];obtain ⟨r,hr⟩:∃ r,x % 16=r:=⟨_,rfl⟩;rw [hr];rcases (show r=0\/r=1\/r=2\/r=3\/r=4\/r=5\/r=6\/r=7\/r=8\/r=9\/r=10\/r=11\/r=12\/r=13\/r=14\/r=15 by omega) with rfl | rfl | rfl | rfl | rfl | rfl | rfl | rfl | rfl | rfl | rfl | rfl | rfl | rfl | rfl | rfl <;> rfl
theorem Zq1 (w:Int):∀ (d k n:Nat),d=16-k->k<=16->d<n->Hi.l0 n w (cb w (4*k):Int) (k:Int)=some (cb w 64:Int):=by
 intro d;induction d with
 | zero=>
  intro k n hd hk hn;obtain ⟨n,rfl⟩:=Aa n;have:k=16:=Ad
  subst this;show Hi.S0 _ _ _ _=_;unfold Hi.S0;rw [Be,Al]
 | succ d ih=>
  intro k n hd hk hn;obtain ⟨n,rfl⟩:=Aa n;show Hi.S0 _ _ _ _=_;unfold Hi.S0;rw [Bw,Ak,Kv,CH,Ak,show (4*(k:Int))=((4*k:Nat):Int) by omega,Ns _ _ Ad,Ysv,An];have hb:∀ j,j<4->bit (IntKind.wrap .u64 w / 2 ^ (4*k)) j=bit w (4*k+j):=λ j hj=>by rw [Ri,JW _ Ad]
  have hs:cb w (4*(k+1))=cb w (4*k)+cb (IntKind.wrap .u64 w / 2 ^ (4*k)) 4:=by
   rw [show 4*(k+1)=4*k+1+1+1+1 by omega,LY,LY,LY,LY];rw [LY,LY,LY,LY,hb 0 Ad,hb 1 Ad,hb 2 Ad,hb 3 Ad];show _=cb w (4*k)+(0+_+_+_+_);simp only [Nat.add_zero,Nat.add_assoc];omega
  have h1:=Xc w (4*k);have h2:=Xc (IntKind.wrap .u64 w / 2 ^ (4*k)) 4;rw [Bk,Bk,show ((cb w (4*k):Int)+(cb (IntKind.wrap .u64 w / 2 ^ (4*k)) 4:Int))=((cb w (4*(k+1)):Nat):Int) by rw [hs];omega,Ac k];exact ih (k+1) n Ad Ad Ad
theorem jC (w:Int):Hi w=some (cb w 64:Int):=Zq1 w 16 0 fu rfl Ad Ae
def Lb:List Int->Nat
 | []=>0
 | w :: ws=>cb w 64+Lb ws
theorem vM:∀ (a b:List Int),Lb (a++b)=Lb a+Lb b
 | [],b=>by simp [Lb]
 | x :: a,b=>by simp [Lb,vM a b];omega
theorem xW:∀ (l:List Int),Lb l<=64*l.length
 | []=>Au _
 | x :: a=>by simp only [Lb,Aw];have:=xW a;have:=Xc x 64;omega
theorem vN:∀ (ws:List Int) (k:Nat),(MT k ws).length=Lb ws
 | [],_=>rfl
 | w :: ws,k=>by
  unfold MT Lb;rw [Ap,Av,Yl3,vN ws (k+1)]
theorem Zqv (ws:List Int) (hl:ws.length<=65536):∀ (d i n:Nat),d=ws.length-i->i<=ws.length->d<n->He.l0 n (Lb (ws.take i):Int) ws (ws.length:Int) (i:Int)=some (Lb ws:Int):=by
 intro d;induction d with
 | zero=>
  intro i n hd hi hn;obtain ⟨n,rfl⟩:=Aa n;have:i=ws.length:=Ad
  subst this;show He.S0 _ _ _ _ _=_;unfold He.S0;rw [Be,Al,AB]
 | succ d ih=>
  intro i n hd hi hn;obtain ⟨n,rfl⟩:=Aa n;have AY:i<ws.length:=Ad
  show He.S0 _ _ _ _ _=_;unfold He.S0;have hs:Lb (ws.take (i+1))=Lb (ws.take i)+cb ws[i] 64:=by rw [take_one AY,vM];rfl
  have h1:=xW (ws.take (i+1));rw [Ar] at h1;rw [Bw,Ak,Bq,Ak,BE AY,jC,An,Bk,Bk,show ((Lb (ws.take i):Int)+(cb ws[i] 64:Int))=((Lb (ws.take (i+1)):Nat):Int) by rw [hs];omega,Ac i];exact ih (i+1) n Ad Ad Ad
theorem Zm1 {ws:List Int} (h:My ws=some true) (hl:ws.length<=65536):He ws=some ((MT 0 ws).length:Int):=by
 unfold He He.S;rw [h,An,Ak,vN];exact Zqv ws hl ws.length 0 fu rfl Ad Ae
theorem Zr1 (w m:Int) (hm:1<=m):∃ y,ZN w 0 m=some y/\∀ j:Nat,j<64->bit y j=(bit w j && decide ((j:Int)<m)):=by
 obtain ⟨z,hz,hb⟩:=tW m hm;unfold ZN
 rw [show NY 0 m=true from by
  unfold NY
  rw [CH,Ak,Bw,Ak,CH hm],Bool.not_true,Al,CH,Ak,hz,An]
 refine ⟨_,rfl,λ j hj=>?_⟩;have e:bit (Cb .i64 (IntKind.wrap .i64 (B7 .u64 (IntKind.wrap .u64 w) 0)) z) j=(bit (IntKind.wrap .i64 (B7 .u64 (IntKind.wrap .u64 w) 0)) j && bit z j):=by
  unfold Cb;show bit (IntKind.wrap .i64 ((BitVec.ofInt 64 _ &&& BitVec.ofInt 64 z).toNat:Int)) j=_;rw [P4 _ hj,MF,BitVec.toNat_and,Nat.testBit_and,Nc _ hj,Nc _ hj]
 rw [e,hb j hj,P4 _ hj];have:=Ns (IntKind.wrap .u64 w) 0 Ad;rw [show ((0:Nat):Int)=0 from rfl] at this;rw [this,Ri,AF,JW _ hj]
theorem Zvx (w:Int) (k at_:Nat):(((Ma w 0).map (λ b=>64*(k:Int)+b)).filter λ p=>decide (p<(at_:Int))).length=cb w (min 64 (at_-64*k)):=by
 rw [List.filter_map,Av];unfold Ma;rw [List.filter_map,Av,List.filter_filter];have:∀ n,n<=64->((List.range' 0 n).filter λ a=>(((λ p=>decide (p<(at_:Int))) ∘ λ b=>64*(k:Int)+b) ∘ λ (k:Nat)=>(k:Int)) a && bit w a).length=cb w (min n (at_-64*k)):=by
  intro n;induction n with
  | zero=>intro _;simp [cb]
  | succ n ih=>
   intro hn;rw [List.range'_1_concat,List.filter_append,Ap,ih Ad,AF];by_cases h:n<at_-64*k
   ·rw [show min (n+1) (at_-64*k)=n+1 by omega,show min n (at_-64*k)=n by omega,LY];have hd:decide (64*(k:Int)+(n:Int)<(at_:Int))=true:=Aq Ad;cases hb:bit w n <;> simp [hb,hd]
   ·rw [show min (n+1) (at_-64*k)=min n (at_-64*k) by omega];have hd:decide (64*(k:Int)+(n:Int)<(at_:Int))=false:=Ax Ad;simp [hd]
 exact this 64 (Au _)
def Hl (at_:Nat):Nat->List Int->Nat
 | _,[]=>0
 | k,w :: ws=>cb w (min 64 (at_-64*k))+Hl at_ (k+1) ws
theorem s3 (at_:Nat):∀ (ws:List Int) (k:Nat),((MT k ws).filter λ p=>decide (p<(at_:Int))).length=Hl at_ k ws
 | [],_=>rfl
 | w :: ws,k=>by
  unfold MT Hl;rw [List.filter_append,Ap,Zvx,s3 at_ ws (k+1)]
theorem s4 (at_:Nat):∀ (a b:List Int) (k:Nat),Hl at_ k (a++b)=Hl at_ k a+Hl at_ (k+a.length) b
 | [],b,k=>by simp [Hl]
 | x :: a,b,k=>by
  simp only [List.cons_append,Hl,Aw];rw [s4 at_ a b (k+1),show k+(a.length+1)=k+1+a.length by omega];omega
theorem tX (at_:Nat):∀ (l:List Int) (k:Nat),Hl at_ k l<=64*l.length
 | [],_=>Au _
 | x :: a,k=>by simp only [Hl,Aw];have:=tX at_ a (k+1);have:=Xc x (min 64 (at_-64*k));omega
theorem Zwx (ws:List Int) (hl:ws.length<=65536) (at_:Nat):∀ (d i n:Nat),d=ws.length-i->i<=ws.length->d<n->GQ.l0 n (at_:Int) (Hl at_ 0 (ws.take i):Int) ws (ws.length:Int) (i:Int)=some (Hl at_ 0 ws:Int):=by
 intro d;induction d with
 | zero=>
  intro i n hd hi hn;obtain ⟨n,rfl⟩:=Aa n;have:i=ws.length:=Ad
  subst this;show GQ.S0 _ _ _ _ _ _=_;unfold GQ.S0;rw [Be,Al,AB]
 | succ d ih=>
  intro i n hd hi hn;obtain ⟨n,rfl⟩:=Aa n;have AY:i<ws.length:=Ad
  have hs:Hl at_ 0 (ws.take (i+1))=Hl at_ 0 (ws.take i)+cb ws[i] (min 64 (at_-64*i)):=by
   rw [take_one AY,s4,Ar,show 0+min i ws.length=i by omega];rfl
  have h1:=tX at_ (ws.take (i+1)) 0;rw [Ar] at h1;have fin:GQ.l0 n (at_:Int) ((Hl at_ 0 (ws.take (i+1)):Nat):Int) ws (ws.length:Int) (A7 .i64 (i:Int) 1)=some (Hl at_ 0 ws:Int):=by
   rw [Bk,Ac i];exact ih (i+1) n Ad Ad Ad
  show GQ.S0 _ _ _ _ _ _=_;unfold GQ.S0;rw [Bw,Ak,Bq,Ak,BE AY,Kv,Bk];by_cases h:64*(i:Int)+64<=(at_:Int)
  ·rw [CH h,Ak,jC,An];rw [show min 64 (at_-64*i)=64 by omega] at hs;rw [Bk (a:=(Hl at_ 0 (ws.take i):Int)) Ad,show ((Hl at_ 0 (ws.take i):Int)+(cb ws[i] 64:Int))=((Hl at_ 0 (ws.take (i+1)):Nat):Int) by rw [hs];omega];exact fin
  ·rw [Gc,Al];by_cases h2:64*(i:Int)<(at_:Int)
   ·rw [Bw h2,Ak,CA];obtain ⟨y,hy,hb⟩:=Zr1 ws[i] ((at_:Int)-64*(i:Int)) Ad;have hc:cb y 64=cb ws[i] (min 64 (at_-64*i)):=Zxe λ j hj=>by
     rw [hb j hj];congr 2;exact propext ⟨λ h=>by omega,λ h=>by omega⟩
    rw [hy,An,jC,An,hc];rw [Bk (a:=(Hl at_ 0 (ws.take i):Int)) Ad,show ((Hl at_ 0 (ws.take i):Int)+(cb ws[i] (min 64 (at_-64*i)):Int))=((Hl at_ 0 (ws.take (i+1)):Nat):Int) by rw [hs];omega];exact fin
   ·rw [Be,Al];rw [show min 64 (at_-64*i)=0 by omega] at hs
    replace hs:Hl at_ 0 (List.take (i+1) ws)=Hl at_ 0 (List.take i ws):=hs
    rw [<- hs];exact fin
theorem Yxc {ws:List Int} (h:My ws=some true) (hl:ws.length<=65536) (at_:Nat):GQ ws (at_:Int)=some (((MT 0 ws).filter λ p=>decide (p<(at_:Int))).length:Int):=by
 unfold GQ GQ.S;rw [h,An,Bool.not_true,Al,s3];cases at_ with
 | zero=>
  have:∀ (ws:List Int) (k:Nat),Hl 0 k ws=0:=by
   intro ws;induction ws with
   | nil=>intro k;rfl
   | cons w ws ih=>intro k;unfold Hl;rw [ih,show min 64 (0-64*k)=0 by omega];rfl
  rw [CH,Ak,this];rfl
 | succ a=>
  rw [Gc,Al];exact Zwx ws hl (a+1) ws.length 0 fu rfl Ad Ae
end Go.AM.Pure
end

section
/- Spans that may be, and their places. -/
namespace Go.AM.Pure
open Go.AM
def DD:Int->List (Int×Int)->Prop
 | _,[]=>True
 | a,s :: l=>a<s.1/\s.1<s.2/\s.2<=65536/\DD s.2 l
instance decMay18:∀ (a:Int) (l:List (Int×Int)),Decidable (DD a l)
 | _,[]=>isTrue trivial
 | a,s :: l=>by
  unfold DD;have:=decMay18 s.2 l;exact inferInstance
theorem DD.mem {s:Int×Int}:∀ {a:Int} {l:List (Int×Int)},DD a l->s∈l->a<s.1/\s.1<s.2/\s.2<=65536
 | a,u :: l,⟨h1,h2,h3,h4⟩,h=>by
  rcases List.mem_cons.1 h with rfl | h
  ·exact ⟨h1,h2,h3⟩
  ·have:=DD.mem h4 h;omega
theorem Yzc (l:List (Int×Int)) (hl:l.length<=4294967296):∀ (d i n:Nat) (a:Int),d=l.length-i->i<=l.length->d<n->Gn.l0 n a l (l.length:Int) (i:Int)=some (decide (DD a (l.drop i))):=by
 intro d;induction d with
 | zero=>
  intro i n a hd hi hn;obtain ⟨n,rfl⟩:=Aa n;have:i=l.length:=Ad
  subst this;show Gn.S0 _ _ _ _ _=_;unfold Gn.S0;rw [Be,Al,List.drop_length];rfl
 | succ d ih=>
  intro i n a hd hi hn;obtain ⟨n,rfl⟩:=Aa n;have AY:i<l.length:=Ad
  show Gn.S0 _ _ _ _ _=_;unfold Gn.S0;have hM:DD a (l.drop i)↔a<l[i].1/\l[i].1<l[i].2/\l[i].2<=65536/\DD l[i].2 (l.drop (i+1)):=by rw [List.drop_eq_getElem_cons AY];exact Iff.rfl
  rw [Bw,Ak,Bq,Ak,BE AY];by_cases h1:l[i].1<=a
  ·rw [CH h1,Ak,Ax (λ h=>by have:=(hM.1 h).1;omega)]
  rw [Gc,Al];by_cases h2:l[i].2<=l[i].1
  ·rw [CH h2,Ak,Ax (λ h=>by have:=(hM.1 h).2.1;omega)]
  rw [Gc,Al];by_cases h3:65536<l[i].2
  ·rw [Bw h3,Ak,Ax (λ h=>by have:=(hM.1 h).2.2.1;omega)]
  rw [Be,Al,Bk,Ac i,ih (i+1) n _ Ad Ad Ad];congr 1;exact decide_eq_decide.2 (by rw [hM];exact ⟨λ h=>⟨Ad,Ad,Ad,h⟩,λ h=>h.2.2.2⟩)
theorem Sj (l:List (Int×Int)) (hl:l.length<=4294967296):Gn l=some (decide (DD (-1) l)):=
 Yzc l hl l.length 0 fu (-1) rfl Ad Ae
theorem Zp1 (l:List (Int×Int)) (hl:l.length<=4294967296):∀ (d i n:Nat) (a:Int),d=l.length-i->i<=l.length->d<n-> -1<=a->(i=0->a = -1)->(∀ (h:i-1<l.length),0<i->a=l[i-1].2)->Hg.l0 n l (i:Int)=some (decide (DD a (l.drop i))):=by
 intro d;induction d with
 | zero=>
  intro i n a hd hi hn Kf h0 ha;obtain ⟨n,rfl⟩:=Aa n;have:i=l.length:=Ad
  subst this;show Hg.S0 _ _ _=_;unfold Hg.S0;rw [Ba,Be,Al,List.drop_length];rfl
 | succ d ih=>
  intro i n a hd hi hn Kf h0 ha;obtain ⟨n,rfl⟩:=Aa n;have AY:i<l.length:=Ad
  show Hg.S0 _ _ _=_;unfold Hg.S0;have hM:DD a (l.drop i)↔a<l[i].1/\l[i].1<l[i].2/\l[i].2<=65536/\DD l[i].2 (l.drop (i+1)):=by rw [List.drop_eq_getElem_cons AY];exact Iff.rfl
  have hb:Bf (i:Int) (l.length:Int)=true:=Bq Ad;rw [Ba,Bw,Ak,hb,Ak,Ak,Ak,Ak,BE AY];by_cases h1:l[i].1<0
  ·rw [Bw h1,Ak,Ax (λ h=>by have:=(hM.1 h).1;omega)]
  rw [Be,Al];by_cases h2:l[i].2<=l[i].1
  ·rw [CH h2,Ak,Ax (λ h=>by have:=(hM.1 h).2.1;omega)]
  rw [Gc,Al];by_cases h3:65536<l[i].2
  ·rw [Bw h3,Ak,Ax (λ h=>by have:=(hM.1 h).2.2.1;omega)]
  rw [Be,Al];have fin:a<l[i].1->Hg.l0 n l (A7 .i64 (i:Int) 1)=some (decide (DD a (l.drop i))):=λ h4=>by
   rw [Bk,Ac i,ih (i+1) n l[i].2 Ad Ad Ad Ad Ad (λ _ _=>rfl)];congr 1;exact decide_eq_decide.2 (by rw [hM];exact ⟨λ h=>⟨h4,Ad,Ad,h⟩,λ h=>h.2.2.2⟩)
  by_cases h4:i=0
  ·rw [Be,Al];exact fin (by have:=h0 h4;omega)
  have hp:=ha Ad Ad;rw [Bw,Ak,Ak,CA,show ((i:Int)-1)=((i-1:Nat):Int) by omega,Bq,Ak,BE (show i-1<l.length by omega)];by_cases h5:l[i].1<=l[i-1].2
  ·rw [CH h5,Ak,Ax (λ h=>by have:=(hM.1 h).1;omega)]
  ·rw [Gc,Al];exact fin Ad
theorem rX (l:List (Int×Int)) (hl:l.length<=4294967296):Hg l=some (decide (DD (-1) l)):=
 Zp1 l hl l.length 0 fu (-1) rfl Ad Ae (Int.le_refl _) (λ _=>rfl) (λ _ h=>by omega)
def JG (l:List (Int×Int)) (p:Nat):Bool:=l.any λ s=>decide (s.1<=(p:Int)) && decide ((p:Int)<s.2)
theorem Zeu (s:Int×Int) (l:List (Int×Int)):Cf (s :: l)=Jw (List.range' s.1.toNat (s.2-s.1).toNat)++Cf l\/s.1<0:=by
 by_cases h:s.1<0
 ·exact .inr h
 ·left;unfold Cf;rw [List.flatMap_cons];congr 1;rw [List.range'_eq_map_range,Jw,List.map_map];apply List.map_congr_left;intro k _;show _=((s.1.toNat+k:Nat):Int);omega
theorem Yad {a:Int} {l:List (Int×Int)} (h:DD a l) {p:Nat} (hp:(p:Int)<=a):JG l p=false:=by
 unfold JG;rw [List.any_eq_false];intro s hs;have:=h.mem hs;rw [Ax (show ¬ s.1<=(p:Int) by omega)];simp
theorem ZM:∀ (l:List (Int×Int)) (a:Int) (m N:Nat),DD a l-> -1<=a->(m:Int)<=a+1->(∀ s∈l,s.2<=(N:Int))->Cf l=Jw ((List.range' m (N-m)).filter (JG l))
 | [],a,m,N,_,_,_,_=>by
  rw [List.filter_eq_nil_iff.2 (λ p _=>by simp [JG])];rfl
 | s :: l,a,m,N,hM,ha,hm,hN=>by
  obtain ⟨h1,h2,h3,h4⟩:=hM;have hs:=hN s (AI ..);rcases Zeu s l with e | e
  ·rw [e,ZM l s.2 s.2.toNat N h4 Ad Ad λ u hu=>hN u (AP _ hu)];have Ja:List.range' m (N-m)=List.range' m (s.1.toNat-m)++(List.range' s.1.toNat (s.2-s.1).toNat++List.range' s.2.toNat (N-s.2.toNat)):=by
    have e1:=List.range'_append_1 (s:=m) (m:=s.1.toNat-m) (n:=(s.2-s.1).toNat+(N-s.2.toNat));have e2:=List.range'_append_1 (s:=s.1.toNat) (m:=(s.2-s.1).toNat) (n:=N-s.2.toNat);rw [show m+(s.1.toNat-m)=s.1.toNat by omega] at e1;rw [show s.1.toNat+(s.2-s.1).toNat=s.2.toNat by omega] at e2;rw [e2,e1];congr 1;omega
   rw [Ja,List.filter_append,List.filter_append,Jw,Jw,Jw,AG,AG];have f1:(List.range' m (s.1.toNat-m)).filter (JG (s :: l))=[]:=List.filter_eq_nil_iff.2 λ p hp=>by
    have Ow:=List.mem_range'_1.1 hp;rw [Yad (a:=s.1-1) (l:=s :: l) ⟨Ad,h2,h3,h4⟩ Ad];simp
   have f2:(List.range' s.1.toNat (s.2-s.1).toNat).filter (JG (s :: l))=List.range' s.1.toNat (s.2-s.1).toNat:=List.filter_eq_self.2 λ p hp=>by
    have Ow:=List.mem_range'_1.1 hp;unfold JG;rw [List.any_cons,Aq Ad,Aq Ad];rfl
   have f3:(List.range' s.2.toNat (N-s.2.toNat)).filter (JG (s :: l))=(List.range' s.2.toNat (N-s.2.toNat)).filter (JG l):=List.filter_congr λ p hp=>by
    have Ow:=List.mem_range'_1.1 hp;unfold JG;rw [List.any_cons,Ax (show ¬ (p:Int)<s.2 by omega),Bool.and_false,Bool.false_or]
   rw [f1,f2,f3];rfl
  ·omega
def Lv:List (Int×Int)->Int
 | []=>0
 | [s]=>s.2
 | _ :: s :: l=>Lv (s :: l)
theorem Sz (l:List (Int×Int)) (h:0<l.length):Lv l=l[l.length-1].2:=by
 induction l with
 | nil=>simp at h
 | cons s l ih=>
  cases l with
  | nil=>rfl
  | cons u l=>
   rw [Lv,ih Ah];rfl
theorem lg:∀ {a:Int} {l:List (Int×Int)},DD a l->∀ s∈l,s.2<=Lv l
 | _,[s],_,u,hu=>by
  rcases List.mem_singleton.1 hu with rfl
  exact Int.le_refl _
 | a,s :: u :: l,⟨h1,h2,h3,h4⟩,v,hv=>by
  have ih:=lg h4;rcases List.mem_cons.1 hv with rfl | hv
  ·have:=ih u (AI ..);have:=h4.1;have:=h4.2.1;rw [Lv];omega
  ·rw [Lv];exact ih v hv
theorem ib {a:Int} {l:List (Int×Int)} (h:DD a l) (ha: -1<=a):0<=Lv l/\Lv l<=65536:=by
 rcases Nat.eq_zero_or_pos l.length with h0 | h0
 ·rw [AU h0];exact ⟨Int.le_refl _,Af⟩
 ·rw [Sz l h0];have:=h.mem (Ay (show l.length-1<l.length by omega));omega
theorem Zcu (l:List (Int×Int)) (hl:l.length<=4294967296):ZT l=some (Lv l):=by
 unfold ZT;rw [Ba];by_cases h:l.length=0
 ·rw [Ci,Ak,AU h];rfl
 ·rw [Ca,Al,CA,show ((l.length:Int)-1)=((l.length-1:Nat):Int) by omega,Bq,Ak,BE Ad,Sz l Ad]
theorem NW (a b:List (Int×Int)):Cf (a++b)=Cf a++Cf b:=by unfold Cf;rw [List.flatMap_append]
theorem gA (s:Int×Int):(Cf [s]).length=(s.2-s.1).toNat:=by unfold Cf;simp
theorem Q1 {l:List (Int×Int)} (h:DD (-1) l):(Cf l).length<=65536:=by
 rw [ZM l (-1) 0 65536 h (Int.le_refl _) Ad (λ s hs=>(h.mem hs).2.2),Av];refine Nat.le_trans (List.length_filter_le _ _) ?_;simp
theorem Zn (l:List (Int×Int)) (i:Nat):(Cf (l.take i)).length<=(Cf l).length:=by
 conv=>rhs;rw [<- List.take_append_drop i l]
 rw [NW,Ap];omega
theorem Znv (l:List (Int×Int)) (hM:DD (-1) l) (hl:l.length<=4294967296):∀ (d i n:Nat),d=l.length-i->i<=l.length->d<n->Gj.l0 n ((Cf (l.take i)).length:Int) l (l.length:Int) (i:Int)=some ((Cf l).length:Int):=by
 intro d;induction d with
 | zero=>
  intro i n hd hi hn;obtain ⟨n,rfl⟩:=Aa n;have:i=l.length:=Ad
  subst this;show Gj.S0 _ _ _ _ _=_;unfold Gj.S0;rw [Be,Al,AB]
 | succ d ih=>
  intro i n hd hi hn;obtain ⟨n,rfl⟩:=Aa n;have AY:i<l.length:=Ad
  have hm:=hM.mem (Ay AY);have h1:=Zn l (i+1);have h2:=Q1 hM;have hs:(Cf (l.take (i+1))).length=(Cf (l.take i)).length+(l[i].2-l[i].1).toNat:=by rw [take_one AY,NW,Ap,gA]
  show Gj.S0 _ _ _ _ _=_;unfold Gj.S0;rw [Bw,Ak,Bq,Ak,BE AY,CA,Bk,Bk,show (((Cf (l.take i)).length:Int)+(l[i].2-l[i].1))=(((Cf (l.take (i+1))).length:Nat):Int) by rw [hs];omega,Ac i];exact ih (i+1) n Ad Ad Ad
theorem fY {l:List (Int×Int)} (hM:DD (-1) l) (hl:l.length<=4294967296):Gj l=some ((Cf l).length:Int):=by
 unfold Gj Gj.S;rw [Sj l hl,Aq hM,An,Ak];exact Znv l hM hl l.length 0 fu rfl Ad Ae
def FK (at_:Int) (l:List Int):Nat:=(l.filter λ p=>decide (p<at_)).length
theorem gJ (at_:Int) (a b:List Int):FK at_ (a++b)=FK at_ a+FK at_ b:=by unfold FK;rw [List.filter_append,Ap]
theorem tT (at_:Int) (a:List Int):FK at_ a<=a.length:=List.length_filter_le _ _
theorem Zov (at_:Int) (s:Int×Int) (h:s.1<s.2):(FK at_ (Cf [s]):Int)=max 0 (min at_ s.2-s.1):=by
 have:∀ n:Nat,(FK at_ ((List.range n).map λ (k:Nat)=>s.1+(k:Int)):Int)=max 0 (min (at_-s.1) (n:Int)):=by
  intro n;induction n with
  | zero=>simp [FK];omega
  | succ n ih=>
   rw [List.range_succ,AG,gJ];have:FK at_ ([n].map λ (k:Nat)=>s.1+(k:Int))=if s.1+(n:Int)<at_ then 1 else 0:=by
    unfold FK;by_cases h:s.1+(n:Int)<at_ <;> simp [h]
   rw [this];split <;> omega
 unfold Cf;rw [List.flatMap_cons,List.flatMap_nil,AE,this];omega
theorem Zux (l:List (Int×Int)) (hM:DD (-1) l) (hl:l.length<=4294967296) (at_:Int) (ha:0<=at_) (Kg:at_<=4294967296):∀ (d i n:Nat),d=l.length-i->i<=l.length->d<n->Hh.l0 n at_ (FK at_ (Cf (l.take i)):Int) l (l.length:Int) (i:Int)=some (FK at_ (Cf l):Int):=by
 intro d;induction d with
 | zero=>
  intro i n hd hi hn;obtain ⟨n,rfl⟩:=Aa n;have:i=l.length:=Ad
  subst this;show Hh.S0 _ _ _ _ _ _=_;unfold Hh.S0;rw [Be,Al,AB]
 | succ d ih=>
  intro i n hd hi hn;obtain ⟨n,rfl⟩:=Aa n;have AY:i<l.length:=Ad
  have hm:=hM.mem (Ay AY);have h1:=Zn l (i+1);have h2:=Q1 hM;have h3:=tT at_ (Cf (l.take (i+1)));have hs:FK at_ (Cf (l.take (i+1)))=FK at_ (Cf (l.take i))+FK at_ (Cf [l[i]]):=by rw [take_one AY,NW,gJ]
  have hv:=Zov at_ l[i] hm.2.1;have RO:Eo at_ l[i].2=min at_ l[i].2:=by unfold Eo;split <;> omega
  have Yv:FT 0 (min at_ l[i].2-l[i].1)=max 0 (min at_ l[i].2-l[i].1):=by unfold FT;split <;> omega
  show Hh.S0 _ _ _ _ _ _=_;unfold Hh.S0;rw [Bw,Ak,Bq,Ak,BE AY,RO,CA,Yv,<- hv,Bk,Bk,show ((FK at_ (Cf (l.take i)):Int)+(FK at_ (Cf [l[i]]):Int))=((FK at_ (Cf (l.take (i+1))):Nat):Int) by rw [hs];omega,Ac i];exact ih (i+1) n Ad Ad Ad
theorem Zdu {l:List (Int×Int)} (hM:DD (-1) l) (hl:l.length<=4294967296) (at_:Int) (ha:0<=at_) (Kg:at_<=4294967296):Hh l at_=some (FK at_ (Cf l):Int):=by
 have Yv:FT at_ 0=at_:=by
  unfold FT;rw [if_neg Ad]
 unfold Hh Hh.S;rw [Sj l hl,Aq hM,An,Ak,Yv];exact Zux l hM hl at_ ha Kg l.length 0 fu rfl Ad Ae
theorem Zat (L:List (Int×Int)) (i:Nat) (s:Int×Int) (h1:s.2<=65536) (o0:List Int->List (Int×Int)->Int->Int->Option (List Int×Int)):∀ (d:Nat) (k:Int) (n:Nat) (out:List Int),d=(s.2-k).toNat->0<=k->k<=s.2->d<n->out.length+d<=1000000->
  D4.l1 o0 n out k L (L.length:Int) (i:Int) s=o0 (out++(List.range d).map λ (j:Nat)=>k+(j:Int)) L (L.length:Int) (A7 .i64 (i:Int) 1):=by
 intro d;induction d with
 | zero=>
  intro k n out hd h0 hk hn ho;obtain ⟨n,rfl⟩:=Aa n;show D4.S1 _ _ _ _ _ _ _ _=_;unfold D4.S1;rw [Be,Al];simp
 | succ d ih=>
  intro k n out hd h0 hk hn ho;obtain ⟨n,rfl⟩:=Aa n;show D4.S1 _ _ _ _ _ _ _ _=_;unfold D4.S1;rw [Bw,Ak,Cp Ad,Ak,Bk (a:=k) Ad,ih (k+1) n (out++[k]) Ad Ad Ad Ad Ai];congr 1;rw [List.range_succ_eq_map,List.map_cons,List.map_map,AA];congr 1;rw [List.singleton_append];congr 1
  ·simp
  ·apply List.map_congr_left;intro j _;simp;omega
theorem Zfu (l:List (Int×Int)) (hM:DD (-1) l) (hl:l.length<=4294967296):∀ (d i n:Nat),d=l.length-i->i<=l.length->d<n->70000+d<n->D4.l0 n (Cf (l.take i)) l (l.length:Int) (i:Int)=some (Cf l,0):=by
 intro d;induction d with
 | zero=>
  intro i n hd hi hn Mi;obtain ⟨n,rfl⟩:=Aa n;have:i=l.length:=Ad
  subst this;show D4.S0 _ _ _ _ _=_;unfold D4.S0;rw [Be,Al,AB]
 | succ d ih=>
  intro i n hd hi hn Mi;obtain ⟨n,rfl⟩:=Aa n;have AY:i<l.length:=Ad
  have hm:=hM.mem (Ay AY);have h1:=Zn l i;have h2:=Q1 hM;show D4.S0 _ _ _ _ _=_;unfold D4.S0;rw [Bw,Ak,Bq,Ak,BE AY,Zat l i l[i] Ad _ (l[i].2-l[i].1).toNat l[i].1 n _ rfl Ad Ad Ad Ad];have hs:(Cf (l.take (i+1))).length<=(Cf l).length:=Zn l (i+1);have hq:=take_one AY;rw [Bk,Ac i,show Cf (l.take i)++(List.range (l[i].2-l[i].1).toNat).map (λ (j:Nat)=>l[i].1+(j:Int))=Cf (l.take (i+1)) by rw [hq,NW];unfold Cf;simp];exact ih (i+1) n Ad Ad Ad Ad
theorem rE {l:List (Int×Int)} (hM:DD (-1) l) (hl:l.length<=4294967296):D4 l=some (Cf l,0):=by
 have h2:=Q1 hM;unfold D4 D4.S;rw [Sj l hl,Aq hM,An,Bool.not_true,Al,fY hM hl,An,CH,AH,show Int.toNat ((Cf l).length:Int)=(Cf l).length from rfl,Cp Ad,Ak];exact Zfu l hM hl l.length 0 fu rfl Ad Ae Ae
end Go.AM.Pure
end

section
/- Words of spans. -/
namespace Go.AM.Pure
open Go.AM
theorem Xea {a:Nat} (h:a<9223372036854775808):Cb .i64 (a:Int) 63=((a % 64:Nat):Int):=by
 unfold Cb;show IntKind.wrap .i64 ((BitVec.ofInt 64 (a:Int) &&& BitVec.ofInt 64 63).toNat:Int)=_;have e1:(BitVec.ofInt 64 (a:Int)).toNat=a:=by
  have:=Q7 (a:Int);omega
 rw [BitVec.toNat_and,e1,show (BitVec.ofInt 64 63).toNat=2 ^ 6-1 from rfl,Nat.and_two_pow_sub_one_eq_mod];exact FH Ad
def Ql (W:List Int) (p:Nat):Bool:=bit (W.getD (p / 64) 0) (p % 64)
theorem Ztx:∀ (d lo hi n:Nat) (W:List Int),d=hi-lo->d<n->lo<=hi->hi<=64*W.length->W.length<=1024->0<W.length->
  ∃ W',IJ.l0 n (lo:Int) (hi:Int) W=some W'/\W'.length=W.length/\∀ p,p<64*W.length->Ql W' p=(Ql W p || (decide (lo<=p) && decide (p<hi))):=by
 intro d;induction d using Nat.strongRecOn with
 | ind d ih=>
  intro lo hi n W hd hn hlh VI hW h0;obtain ⟨n,rfl⟩:=Aa n;show ∃ W',IJ.S0 _ _ _ _=some W'/\_;unfold IJ.S0;by_cases AY:lo<hi
  ·have hq:lo / 64<W.length:=Ad
   have hg:W.getD (lo / 64) 0=W[lo / 64]:=by rw [AK,AD hq];rfl
   have RO:Eo (64-((lo % 64:Nat):Int)) ((hi:Int)-(lo:Int))=((min (64-lo % 64) (hi-lo):Nat):Int):=by unfold Eo;split <;> omega
   obtain ⟨k,hk⟩:∃ k,min (64-lo % 64) (hi-lo)=k:=⟨_,rfl⟩;rw [hk] at RO;obtain ⟨y,hy,_,hb⟩:=Zn1 (W[lo / 64]) (lo % 64) (k:Int) Ad Ad;rw [Bw,Ak,show (6:Int)=((6:Nat):Int) from rfl,N4 _ _ Ad,show ((lo:Int) / 2 ^ 6)=((lo / 64:Nat):Int) by omega,Bq,Ak,Xea Ad,CA,CA,RO,show Int.toNat ((lo / 64:Nat):Int)=lo / 64 from rfl,hg,hy,An,Ak,Bk,show ((lo:Int)+(k:Int))=((lo+k:Nat):Int) by omega];obtain ⟨W',h1,h2,h3⟩:=ih (hi-(lo+k)) Ad (lo+k) hi n (W.set (lo / 64) y) rfl Ad Ad (by rw [List.length_set];exact VI) (by rw [List.length_set];exact hW) (by rw [List.length_set];exact h0);refine ⟨W',h1,by rw [h2,List.length_set],λ p hp=>?_⟩;rw [h3 p (by rw [List.length_set];exact hp)];unfold Ql;rw [AK,AK];by_cases FV:p / 64=lo / 64
   ·rw [FV,List.getElem?_set_self hq,AD hq];show (bit y (p % 64) || _)=(bit W[lo / 64] (p % 64) || _);rw [hb (p % 64) Ad,Bool.or_assoc];congr 1;by_cases h4:lo<=p
    ·by_cases h5:p<lo+k
     ·rw [Aq (show lo % 64<=p % 64 by omega),Aq (show ((p % 64:Nat):Int)<((lo % 64:Nat):Int)+(k:Int) by omega),Aq h4,Aq (show p<hi by omega)];rfl
     ·rw [Ax (show ¬ ((p % 64:Nat):Int)<((lo % 64:Nat):Int)+(k:Int) by omega),Aq h4,Aq (show lo+k<=p by omega)];simp
    ·rw [Ax (show ¬ lo % 64<=p % 64 by omega),Ax h4,Ax (show ¬ lo+k<=p by omega)];rfl
   ·rw [List.getElem?_set_ne (Ne.symm FV)];congr 1;by_cases h4:lo+k<=p
    ·rw [Aq h4,Aq (show lo<=p by omega)]
    ·rw [Ax h4];by_cases h5:lo<=p
     ·omega
     ·rw [Ax h5]
  ·rw [Be,Al,Aq h0,Ak];refine ⟨W,rfl,rfl,λ p hp=>?_⟩;by_cases h4:lo<=p
   ·rw [Ax (show ¬ p<hi by omega)];simp
   ·rw [Ax h4];simp
theorem Yqv (a b:List (Int×Int)) (p:Nat):JG (a++b) p=(JG a p || JG b p):=by unfold JG;rw [List.any_append]
theorem Yyc (l:List (Int×Int)) (hM:DD (-1) l) (hl:l.length<=4294967296) (N:Nat) (h0:0<N) (hN:N<=1024) (hT:∀ s∈l,s.2<=((64*N:Nat):Int)):∀ (d i n:Nat) (W:List Int),d=l.length-i->i<=l.length->d<n->W.length=N->(∀ p,p<64*N->Ql W p=JG (l.take i) p)->
  ∃ W',Hk.l0 n l (l.length:Int) (i:Int) W=some (W',0)/\W'.length=N/\∀ p,p<64*N->Ql W' p=JG l p:=by
 intro d;induction d with
 | zero=>
  intro i n W hd hi hn hW hb;obtain ⟨n,rfl⟩:=Aa n;have:i=l.length:=Ad
  subst this;show ∃ W',Hk.S0 _ _ _ _ _=some (W',0)/\_;unfold Hk.S0;rw [Be,Al];rw [AB] at hb;exact ⟨W,rfl,hW,hb⟩
 | succ d ih=>
  intro i n W hd hi hn hW hb;obtain ⟨n,rfl⟩:=Aa n;have AY:i<l.length:=Ad
  have hm:=hM.mem (Ay AY);have ht:=hT _ (Ay AY);show ∃ W',Hk.S0 _ _ _ _ _=some (W',0)/\_;unfold Hk.S0;obtain ⟨a,ha⟩:=Int.eq_ofNat_of_zero_le (show 0<=l[i].1 by omega);obtain ⟨b,FW⟩:=Int.eq_ofNat_of_zero_le (show 0<=l[i].2 by omega);obtain ⟨W1,h1,h2,h3⟩:=Ztx (b-a) a b fu W rfl Ae Ad Ad Ad Ad;have hf:IJ W l[i].1 l[i].2=some W1:=by rw [ha,FW];exact h1
  rw [Bw,Ak,Bq,Ak,BE AY,Sk (by rw [Aq Ad];rfl) hf (by rw [Aq h2];rfl),An,Bk,Ac i];refine ih (i+1) n W1 Ad Ad Ad Ad λ p hp=>?_
  rw [h3 p Ad,hb p hp,take_one AY,Yqv];congr 1;unfold JG;rw [List.any_cons,List.any_nil,Bool.or_false,ha,FW];congr 1
  ·exact decide_eq_decide.2 ⟨λ h=>by omega,λ h=>by omega⟩
  ·exact decide_eq_decide.2 ⟨λ h=>by omega,λ h=>by omega⟩
theorem Zo1 {W:List Int} {Q:Nat->Bool} (h:∀ p,p<64*W.length->Ql W p=Q p):MT 0 W=Jw ((List.range' 0 (64*W.length)).filter Q):=by
 refine Zwe Q W 0 λ i hi b hb=>?_
 have:=h (64*i+b) Ad;unfold Ql at this;rw [show (64*i+b) / 64=i by omega,show (64*i+b) % 64=b by omega,AK,AD hi] at this;rw [AF];exact this
theorem so {l:List (Int×Int)} (hM:DD (-1) l) (hl:l.length<=4294967296):∃ W,Hk l=some (W,0)/\W.length=((Lv l+63) / 64).toNat/\W.length<=1024/\My W=some true/\MT 0 W=Cf l:=by
 unfold Hk Hk.S;rw [Sj l hl,Aq hM,An,Bool.not_true,Al,Ba];by_cases h0:l.length=0
 ·rw [Ci,Ak,AU h0];exact ⟨[],rfl,rfl,Ah,rfl,rfl⟩
 rw [Ca,Al,CA,show ((l.length:Int)-1)=((l.length-1:Nat):Int) by omega,Bq,Ak,BE Ad,<- Sz l Ad];have htr:=ib hM (Int.le_refl _);obtain ⟨T,hT⟩:=Int.eq_ofNat_of_zero_le htr.1;have hT0:0<T:=by
  have h1:=hM.mem (Ay (show l.length-1<l.length by omega));rw [<- Sz l Ad] at h1;omega
 obtain ⟨N,hN⟩:∃ N:Nat,(T+63) / 64=N:=⟨_,rfl⟩;have CL:B7 .i64 (Bt .i64 (A7 .i64 (Lv l) 64) 1) 6=(N:Int):=by
  rw [Bk,CA,show (6:Int)=((6:Nat):Int) from rfl,N4 _ _ Ad,hT];omega
 rw [CL,CH,AH,show Int.toNat (N:Int)=N from rfl,Cp Ad,Ak];have hNT:∀ s∈l,s.2<=((64*N:Nat):Int):=λ s hs=>by have:=lg hM s hs;omega
 obtain ⟨W,h1,h2,h3⟩:=Yyc l hM hl N Ad Ad hNT l.length 0 fu (List.replicate N 0) rfl Ad Ae Ah (λ p hp=>by
  unfold Ql;rw [AK,List.getElem?_replicate,if_pos Ad];show bit 0 (p % 64)=false
  exact UB _)
 have hw:MT 0 W=Cf l:=by
  rw [Zo1 (λ p hp=>h3 p Ad),ZM l (-1) 0 (64*N) hM (Int.le_refl _) Ad hNT,h2];rfl
 refine ⟨W,h1,by rw [h2,hT];omega,Ad,?_,hw⟩;unfold My;rw [Ba,CH,Ak,Ca,Al,CA,show ((W.length:Int)-1)=((W.length-1:Nat):Int) by omega,Bq,Ak,BE Ad];congr 1;refine Fh λ hz=>?_
 have h4:=h3 (T-1) Ad;unfold Ql at h4;rw [show (T-1) / 64=W.length-1 by omega,AK,AD (show W.length-1<W.length by omega)] at h4;have h5:JG l (T-1)=true:=by
  unfold JG;rw [List.any_eq_true];refine ⟨_,Ay (show l.length-1<l.length by omega),?_⟩;have h1:=hM.mem (Ay (show l.length-1<l.length by omega));rw [<- Sz l Ad] at h1 ⊢;rw [Aq Ad,Aq Ad];rfl
 rw [h5,show (some (W[W.length-1]'Ad)).getD 0=0 from hz,UB] at h4;cases h4
end Go.AM.Pure
end

section
/- Lists of places in whatever form; the cells at them, and their sum. -/
namespace Go.AM.Pure
open Go.AM
theorem tQ {l:List Nat} (h:l.Pairwise (· < ·)):(Jw l).Pairwise (· < ·):=by
 unfold Jw;rw [List.pairwise_map];exact h.imp λ h=>by omega
theorem rF {l:List (Int×Int)} (h:DD (-1) l):(Cf l).Pairwise (· < ·):=by
 rw [ZM l (-1) 0 65536 h (Int.le_refl _) Ad (λ s hs=>(h.mem hs).2.2)];exact tQ (List.Pairwise.filter _ List.pairwise_lt_range')
theorem gz {l:List (Int×Int)} (h:DD (-1) l) {p:Int} (hp:p∈Cf l):0<=p/\p<Lv l:=by
 unfold Cf at hp;rw [List.mem_flatMap] at hp;obtain ⟨s,hs,hp⟩:=hp;rw [List.mem_map] at hp;obtain ⟨k,hk,rfl⟩:=hp;have h1:=h.mem hs;have h2:=lg h s hs;have:=List.mem_range.1 hk;omega
theorem Zmv {d:List Int} (hd:d.Pairwise (· < ·)) {v:Int}:∀ (k:Nat),k<=d.length->(∀ j (h:j<d.length),j<k->d[j]<v)->(∀ j (h:j<d.length),k<=j->v<=d[j])->FK v d=k:=by
 intro k hk h1 h2;have e:d=d.take k++d.drop k:=(List.take_append_drop k d).symm;rw [e,gJ];have f1:FK v (d.take k)=k:=by
  unfold FK
  rw [List.filter_eq_self.2 λ x hx=>by
   obtain ⟨j,hj,rfl⟩:=List.getElem_of_mem hx;rw [Ar] at hj;rw [List.getElem_take]
   exact Aq (h1 j Ad Ad),Ar]
  omega
 have f2:FK v (d.drop k)=0:=by
  unfold FK
  rw [List.filter_eq_nil_iff.2 λ x hx=>by
   obtain ⟨j,hj,rfl⟩:=List.getElem_of_mem hx;rw [List.length_drop] at hj;rw [List.getElem_drop];have:=h2 (k+j) Ad Ad
   simpa using this]
  rfl
 omega
theorem Ywc (d:List Int) (hl:d.length<1000000000) (hd:d.Pairwise (· < ·)) (v:Int):∀ (g i j n:Nat),g=j-i->i<=j->j<=d.length->g<n->(∀ m (h:m<d.length),m<i->d[m]<v)->(∀ m (h:m<d.length),j<=m->v<=d[m])->
  ∃ b,DR.l0 (DR.t1 fu) n d v (d.length:Int) (i:Int) (j:Int)=some ((FK v d:Int),b):=by
 intro g;induction g using Nat.strongRecOn with
 | ind g ih=>
 intro i j n hg Mh Ov hn h1 h2;obtain ⟨n,rfl⟩:=Aa n;show ∃ b,DR.S0 DR.S1 (DR.l0 (DR.t1 fu) n) _ _ _ _ _=_;unfold DR.S0;by_cases Yu:i<j
 ·have hh:IntKind.wrap .i64 (B7 .u64 (IntKind.wrap .u64 (A7 .i64 (i:Int) (j:Int))) 1)=(((i+j) / 2:Nat):Int):=by
   have h1:IntKind.wrap .u64 ((i:Int)+(j:Int))=((i+j:Nat):Int):=by rw [E6];omega
   have h2:=Ns ((i+j:Nat):Int) 1 Ad;rw [show ((1:Nat):Int)=1 from rfl,Int.pow_succ,Int.pow_zero,Int.one_mul] at h2;rw [Bk,h1,h2,FH];omega
  have hm:(i+j) / 2<d.length:=Ad
  rw [Bw,Ak,hh,Bq,Ak,BE hm,vK,Bk];by_cases AY:d[(i+j) / 2]<v
  ·rw [Bw AY,Ak];refine ih (j-((i+j) / 2+1)) Ad ((i+j) / 2+1) j n rfl Ad Ov Ad (λ m VH eJ=>?_) h2;by_cases he:m=(i+j) / 2
   ·subst he;exact AY
   ·exact Int.lt_trans (SL hd Ad hm) AY
  ·rw [Be,Al];refine ih ((i+j) / 2-i) Ad i ((i+j) / 2) n rfl Ad Ad Ad h1 (λ m VH eJ=>?_);by_cases he:m=(i+j) / 2
   ·subst he;omega
   ·have:=SL hd (show (i+j) / 2<m by omega) VH;omega
 ·have:i=j:=Ad
  subst this;rw [Be,Al];unfold DR.S1;rw [Zmv hd i Ov h1 h2];by_cases hi:i<d.length
  ·rw [Bw,Ak,Bq,Ak,BE hi];cases A9 d[i] v with
   | true=>exact ⟨_,rfl⟩
   | false=>
    rw [Al];cases Zm d[i] <;> exact ⟨_,rfl⟩
  ·rw [Be,Al];exact ⟨_,rfl⟩
theorem Yk3 (d:List Int) (hl:d.length<1000000000) (hd:d.Pairwise (· < ·)) (v:Int):∃ b,DR d v=some ((FK v d:Int),b):=
 Ywc d hl hd v d.length 0 d.length fu Ad Ad Ad Ae (λ m h h2=>by omega) (λ m h h2=>by omega)
def Ys (x:La) (ps:List Int):Prop:=
 LO x=some (ps.length:Int)/\(∀ n:Nat,n<=65536->LP x (n:Int)=some (FK (n:Int) ps:Int))/\OS x=some ps
theorem xU {l:List (Int×Int)} (hM:DD (-1) l) (hl:l.length<=65536) {form:Int} (hf:form=1\/form=2\/form=3):∃ x,PM l form=some (x,0)/\x.1=form/\Ys x (Cf l):=by
 have CT:=Q1 hM;have KJ:l.length<=4294967296:=Ad
 unfold PM;rw [Sj l KJ,Aq hM,An,Bool.not_true,Al];rcases hf with rfl | rfl | rfl
 ·rw [Ci rfl,Ak,show N9 16 l=some l from by unfold N9;rw [Cp Ad];rfl,An];refine ⟨_,rfl,rfl,?_,λ n hn=>?_,?_⟩
  ·show LO (1,l,[],[])=_;unfold LO;rw [Ca,Al,Ca,Al,fY hM KJ];rfl
  ·show LP (1,l,[],[]) _=_;unfold LP;rw [Ca,Al,Ca,Al,Zdu hM KJ _ Ad Ad];rfl
  ·show OS (1,l,[],[])=_;unfold OS
   rw [Ca,Al,Ca,Al,Aq KJ,AH,show (l.all λ s=>BC (-9223372036854775808) s.1 && BC s.2 9223372036854775807)=true from List.all_eq_true.2 λ s hs=>by
    have:=hM.mem hs;rw [CH,CH]
    rfl]
   rfl
 ·obtain ⟨W,h1,h2,h3,h4,h5⟩:=so hM KJ;rw [Ca,Al,Ci rfl,Ak,h1,An];refine ⟨_,rfl,rfl,?_,λ n hn=>?_,?_⟩
  ·show LO (2,[],W,[])=_;unfold LO;rw [Ci rfl,Ak,Zm1 h4 Ad,h5];rfl
  ·show LP (2,[],W,[]) _=_;unfold LP;rw [Ci rfl,Ak,Yxc h4 Ad,h5];rfl
  ·show OS (2,[],W,[])=_;unfold OS;rw [Ci rfl,Ak,Aq h3,Ak];have:=gI W 0;rw [h5] at this;exact this
 ·rw [Ca,Al,Ca,Al,Ci rfl,Ak,rE hM KJ,An];refine ⟨_,rfl,rfl,?_,λ n hn=>?_,?_⟩
  ·show LO (3,[],[],Cf l)=_;unfold LO;rw [Ca,Al,Ci rfl,Ak];rfl
  ·show LP (3,[],[],Cf l) _=_;unfold LP;obtain ⟨b,hb⟩:=Yk3 (Cf l) Ad (rF hM) (n:Int);rw [Ca,Al,Ci rfl,Ak,hb];rfl
  ·rfl
theorem Zf1 {s:ByteArray} {l:List Cell} (hT:I7 s=some (l,0)) (hl:l.length<=65536) {x:La} {ps:List Int} (hx:Ys x ps) (hp:ps.length<=65536) (h0:∀ p∈ps,0<=p):
  Ku s x=some (if ps.all (λ p=>decide (p<(l.length:Int)))=true then (ps.map λ p=>nth l p (0,0,eB),0) else ([],3)):=by
 obtain ⟨h1,h2,h3⟩:=hx;unfold Ku;rw [hT,An];dsimp only;rw [Cs rfl,Al,Ba,h2 l.length hl,An,h1,An];by_cases h:ps.all (λ p=>decide (p<(l.length:Int)))=true
 ·have hb:FK (l.length:Int) ps=ps.length:=by
   unfold FK;rw [List.filter_eq_self.2 λ p hp=>List.all_eq_true.1 h p hp]
  rw [if_pos h,hb,Be,Al,h3,An,show (ps.all λ p=>Bf p (l.length:Int))=true from List.all_eq_true.2 λ p hp=>Bq ⟨h0 p hp,Az (List.all_eq_true.1 h p hp)⟩,AH,Aq Ad,Ak]
 ·have hb:FK (l.length:Int) ps<ps.length:=by
   rcases Nat.lt_or_ge (FK (l.length:Int) ps) ps.length with h1 | h1
   ·exact h1
   ·exfalso;apply h;have h2:=tT (l.length:Int) ps;have h3:ps.filter (λ p=>decide (p<(l.length:Int)))=ps:=List.Sublist.eq_of_length List.filter_sublist (by unfold FK at h1 h2;omega);rw [List.all_eq_true];intro p hp;rw [<- h3] at hp;exact (List.mem_filter.1 hp).2
  rw [if_neg h,Bw,Ak]
end Go.AM.Pure
end

section
/- Sums; the law of gathered cells. -/
namespace Go.AM.Pure
open Go.AM
theorem Zgm (a:Int):Cb .i64 a 4294967295=a % 4294967296:=by
 unfold Cb;show IntKind.wrap .i64 ((BitVec.ofInt 64 a &&& BitVec.ofInt 64 4294967295).toNat:Int)=_;have e1:=Q7 a;rw [BitVec.toNat_and,show (BitVec.ofInt 64 4294967295).toNat=2 ^ 32-1 from rfl,Nat.and_two_pow_sub_one_eq_mod,FH];omega
theorem Zhm (a:Int):B7 .i64 a 32=a / 4294967296:=N4 a 32 Ad
def K9:List Int->Int
 | []=>0
 | x :: l=>x / 4294967296+K9 l
def J8:List Int->Int
 | []=>0
 | x :: l=>x % 4294967296+J8 l
theorem vI:∀ (a b:List Int),K9 (a++b)=K9 a+K9 b
 | [],b=>by simp [K9]
 | x :: a,b=>by simp [K9,vI a b];omega
theorem vJ:∀ (a b:List Int),J8 (a++b)=J8 a+J8 b
 | [],b=>by simp [J8]
 | x :: a,b=>by simp [J8,vJ a b];omega
theorem iX:∀ (l:List Int),(∀ x∈l,BN x)-> -(2147483648*(l.length:Int))<=K9 l/\K9 l<=2147483648*(l.length:Int)
 | [],_=>by simp [K9]
 | x :: l,h=>by
  have h1:=iX l λ y hy=>h y (AP _ hy)
  have h2:=h x (AI ..);unfold BN at h2;simp only [K9,Aw];omega
theorem iY:∀ (l:List Int),0<=J8 l/\J8 l<=4294967296*(l.length:Int)
 | []=>by simp [J8]
 | x :: l=>by
  have h1:=iY l;simp only [J8,Aw];omega
def J9 (c:Cell):Int:=c.2.1
theorem Yvc (l:List Cell) (BH:∀ c∈l,BN c.2.1) (hl:l.length<=65536):∀ (d i n:Nat),d=l.length-i->i<=l.length->d<n->
  Dw.l0 (Dw.t1 fu) n (K9 ((l.take i).map J9)) (J8 ((l.take i).map J9)) l (l.length:Int) (i:Int)=some (K9 (l.map J9)+J8 (l.map J9) / 4294967296,J8 (l.map J9) % 4294967296,0):=by
 intro d;induction d with
 | zero=>
  intro i n hd hi hn;obtain ⟨n,rfl⟩:=Aa n;have:i=l.length:=Ad
  subst this;have h1:=iX (l.map J9) λ x hx=>by
   obtain ⟨c,hc,rfl⟩:=List.mem_map.1 hx;exact BH c hc
  have h2:=iY (l.map J9);rw [Av] at h1 h2;show Dw.S0 Dw.S1 _ _ _ _ _ _=_;unfold Dw.S0;rw [Be,Al,AB];unfold Dw.S1;rw [Zhm,Zgm,Bk]
 | succ d ih=>
  intro i n hd hi hn;obtain ⟨n,rfl⟩:=Aa n;have AY:i<l.length:=Ad
  have h3:=BH _ (Ay AY);unfold BN at h3;have h1:=iX ((l.take i).map J9) λ x hx=>by
   obtain ⟨c,hc,rfl⟩:=List.mem_map.1 hx;exact BH c (List.mem_of_mem_take hc)
  have h2:=iY ((l.take i).map J9);rw [Av,Ar] at h1 h2;have e1:K9 ((l.take (i+1)).map J9)=K9 ((l.take i).map J9)+l[i].2.1 / 4294967296:=by rw [take_one AY,AG,vI];simp [K9,J9]
  have e2:J8 ((l.take (i+1)).map J9)=J8 ((l.take i).map J9)+l[i].2.1 % 4294967296:=by rw [take_one AY,AG,vJ];simp [J8,J9]
  show Dw.S0 Dw.S1 _ _ _ _ _ _=_;unfold Dw.S0;rw [Bw,Ak,Bq,Ak,BE AY,Zhm,Zgm,Bk,Bk,Bk,<- e1,<- e2,Ac i];exact ih (i+1) n Ad Ad Ad
theorem Zgv {s:ByteArray} {x:La} {l:List Cell} {h:Int×Int×Int×Int} (hg:Ku s x=some (l,0)) (hk:LS s=some (h,0)) (BH:∀ c∈l,BN c.2.1) (hl:l.length<=65536):
  Dw s x=some (if h.1=1 then (K9 (l.map J9)+J8 (l.map J9) / 4294967296,J8 (l.map J9) % 4294967296,0) else (0,0,1)):=by
 unfold Dw Dw.S;rw [hg,An];dsimp only;rw [Cs rfl,Al,hk,An];dsimp only;by_cases h1:h.1=1
 ·rw [Cs h1,Al,if_pos h1];exact Yvc l BH hl l.length 0 fu rfl Ad Ae
 ·rw [Fh h1,Ak,if_neg h1]
theorem sn {s:ByteArray} {x:La} {l:List Cell} {e:Int} (hg:Ku s x=some (l,e)) (he:e≠0):Dw s x=some (0,0,e):=by
 unfold Dw Dw.S;rw [hg,An];dsimp only;rw [Fh he,Ak]
theorem Yf3 (l:List (Int×Int)):∃ b,ZS l=some b/\(b=true->l.length<=60/\(DD (-1) l->Lv l<=2048)):=by
 unfold ZS;rw [Ba];by_cases h:l.length<=60
 ·have hl:l.length<=4294967296:=Ad
  rw [CH,Ak,rX l hl,An];by_cases hM:DD (-1) l
  ·rw [Aq hM,Bool.not_true,Al,Zcu l hl,An];exact ⟨_,rfl,λ hb=>⟨h,λ _=>Az hb⟩⟩
  ·rw [Ax hM,Bool.not_false,Ak];exact ⟨_,rfl,λ _=>⟨h,λ hm=>absurd hm hM⟩⟩
 ·rw [Gc,Al];exact ⟨false,rfl,λ hb=>by cases hb⟩
abbrev QH:List Cell:=[(KT 7),(0,0,eB),(KT 9)]
def Vs:List Int:=vB (([7,9]:List Int).length:Int)++(CP [7,9]++CR [0,1] (CF [0,1]))
theorem WR:B4 [7,9]=[7,9]/\Cm [7,9]=[0,1]:=by
 have h:([7,9]:List Int).mergeSort (λ x y=>decide (x<=y))=[7,9]:=List.mergeSort_of_pairwise Af;unfold Cm B4;rw [h];exact ⟨Ag,Ag⟩
theorem Xda:FE [7,9]=some ([7,9],[0,1]):=by rw [fW [7,9] Af Af,WR.1,WR.2]
theorem Zue:GX (Bv QH) 1 4=some Vs:=by
 unfold GX;rw [if_pos rfl,show Jv (Bv QH)=[7,9] from Ag];unfold Lu Vs;rw [if_neg Af,if_neg Af,if_neg Af,if_pos rfl,WR.2];unfold K3;rw [if_neg Af,WR.1,WR.2]
theorem Zve:Hn QH 1:=⟨Af,Af, .inl rfl,λ c hc=>by
 rcases List.mem_cons.1 hc with rfl | hc
 ·exact ⟨Ag, .inr rfl⟩
 rcases List.mem_cons.1 hc with rfl | hc
 ·exact ⟨Ag, .inl rfl⟩
 rw [List.mem_singleton.1 hc]
 exact ⟨Ag, .inr rfl⟩⟩
theorem Zim:∀ c∈QH,BN c.2.1:=λ c hc=>by
 unfold BN;rcases List.mem_cons.1 hc with rfl | hc
 ·decide
 rcases List.mem_cons.1 hc with rfl | hc
 ·decide
 rw [List.mem_singleton.1 hc];decide
theorem Yov:Fc ((6,KT 8),ofBytes Vs,[]) 2=some ((6,KT 8),ofBytes Vs,[1]):=by
 unfold Fc Fc.S;dsimp only;rw [show QZ (ofBytes Vs) 2=some ([7,9],0) from Ag,An];dsimp only;rw [show aN [7,9]=some ([7,9],[0,1]) from Xda,An];kernel_rfl
theorem Ypv {s b m:ByteArray} (h1:I7 s=some (QH,0)) (h2:LS s=some ((1,4,3,1),0)) (h3:Ul s=some (b,m,0)) (h4:Fc ((6,KT 8),b,[]) 2=some ((6,KT 8),b,[1])):
  Cv s (6,KT 8)=some ((3,[],[],[2]),0):=by
 unfold Cv Cv.S;rw [show BK (N2 (6,KT 8)) 0=false from Ag,Al,h2,An];dsimp only;rw [Cs rfl,Al,h1,An,Ca Af,Al];show Cv.S2 _ _ _ _ _ _=_;unfold Cv.S2;rw [h3,An];dsimp only;rw [Ca Af,Al,Ci rfl,Ak,Ca Af,Al,Ak,Fh Af,Ak,show Bt .i64 3 1=2 from Af,h4,An];kernel_rfl
theorem tS {s:ByteArray} (h1:I7 s=some (QH,0)):Ku s (3,[],[],[2])=some ([KT 9],0):=by
 unfold Ku;rw [h1,An];kernel_rfl
theorem Yi3 {s:ByteArray} (h1:I7 s=some (QH,0)) (h2:LS s=some ((1,4,3,1),0)):Dw s (3,[],[],[2])=some (0,9,0):=by
 unfold Dw Dw.S;rw [tS h1,An];dsimp only;rw [Cs rfl,Al,h2,An];kernel_rfl
theorem Yj3 {s:ByteArray} (h1:LV QH 1 4=some (s,0)) (h2:Cv s (6,KT 8)=some ((3,[],[],[2]),0)) (h3:Ku s (3,[],[],[2])=some ([KT 9],0)) (h4:Dw s (3,[],[],[2])=some (0,9,0)):NX=some true:=by
 unfold NX;rw [h1,An];dsimp only;rw [h2,An];dsimp only;rw [h3,h4,An,An];kernel_rfl
theorem Yhv:NX=some true:=by
 obtain ⟨h1,h2,h3⟩:=rY (vG Zve Zim Zue);have Lh:LS (ofBytes (Gy (Fv QH 1 4 Vs)))=some ((1,4,3,1),0):=h2;exact Yj3 (au Zve Zim Zue) (Ypv h1 Lh h3 Yov) (tS h1) (Yi3 h1 Lh)
end Go.AM.Pure
end

section
/- Spans of places; the list of places that needs least. -/
namespace Go.AM.Pure
open Go.AM
theorem WH {α:Type} {p:List α->Prop} (h0:p []) (hs:∀ l a,p l->p (l++[a])) (l:List α):p l:=by
 rw [<- List.reverse_reverse l];induction l.reverse with
 | nil=>exact h0
 | cons a l ih=>rw [List.reverse_cons];exact hs _ _ ih
def IY (ps:List Int):List (Int×Int):=ps.foldl J6 []
theorem iV (ps:List Int) (p:Int):IY (ps++[p])=J6 (IY ps) p:=by unfold IY;rw [List.foldl_append];rfl
theorem Yuc (n:Int):J6 [] n=[(n,n+1)]:=rfl
theorem Zsx (l:List (Int×Int)) (k:Int×Int) (n:Int):J6 (l++[k]) n=if k.2=n then l++[(k.1,n+1)] else l++[k]++[(n,n+1)]:=by
 unfold J6;rw [List.getLast?_append,List.getLast?_singleton];show (bif A9 k.2 n then _ else _)=_;by_cases h:k.2=n
 ·rw [if_pos h,Ci h,Ak,List.dropLast_concat]
 ·rw [if_neg h,Ca h,Al]
theorem aq:∀ (a:List (Int×Int)) (x:Int) (k:Int×Int),DD x (a++[k])↔DD x a/\(∀ s∈a,s.2<k.1)/\x<k.1/\k.1<k.2/\k.2<=65536
 | [],x,k=>by simp [DD]
 | s :: a,x,k=>by
  rw [List.cons_append];unfold DD;rw [aq a s.2 k];constructor
  ·rintro ⟨h1,h2,h3,h4,h5,h6,h7,h8⟩;refine ⟨⟨h1,h2,h3,h4⟩,λ u hu=>?_,Ad,h7,h8⟩;rcases List.mem_cons.1 hu with rfl | hu
   ·exact h6
   ·exact h5 u hu
  ·rintro ⟨⟨h1,h2,h3,h4⟩,h5,h6,h7,h8⟩;exact ⟨h1,h2,h3,h4,λ u hu=>h5 u (AP _ hu),h5 s (AI ..),h7,h8⟩
structure Rise (ps:List Int):Prop where
 s:ps.Pairwise (· < ·)
 r:∀ p∈ps,0<=p/\p<65536
theorem iW:∀ (ps:List Int),Rise ps->DD (-1) (IY ps)/\Cf (IY ps)=ps/\(IY ps).getLast?.map (·.2)=ps.getLast?.map (· + 1):=by
 refine λ ps=>WH (p:=λ ps=>Rise ps->DD (-1) (IY ps)/\Cf (IY ps)=ps/\(IY ps).getLast?.map (·.2)=ps.getLast?.map (· + 1)) (λ _=>⟨trivial,rfl,rfl⟩) ?_ ps
 ·intro ps p ih h;have h1:Rise ps:=⟨(List.pairwise_append.1 h.s).1,λ q hq=>h.r q (List.mem_append_left _ hq)⟩;obtain ⟨i1,i2,i3⟩:=ih h1;have hp:=h.r p Ah;have AY:∀ q∈ps,q<p:=λ q hq=>(List.pairwise_append.1 h.s).2.2 q hq p Ah
  rw [iV];rcases List.eq_nil_or_concat (IY ps) with e | ⟨l,k,e⟩
  ·have ER:ps=[]:=by rw [<- i2,e];rfl
   rw [e,ER,Yuc];refine ⟨⟨by show -1<p;omega,by show p<p+1;omega,by show p+1<=65536;omega,trivial⟩,?_,rfl⟩;show Cf [(p,p+1)]=[]++[p];unfold Cf;rw [List.flatMap_cons,List.flatMap_nil,show (p+1-p).toNat=1 by omega];simp
  ·rw [List.concat_eq_append] at e;rw [e] at i1 i2 i3;rw [List.getLast?_append,List.getLast?_singleton] at i3;obtain ⟨j1,j2,j3,j4,j5⟩:=(aq l (-1) k).1 i1;obtain ⟨q,hq⟩:∃ q,ps.getLast? = some q:=by
    cases hh:ps.getLast? with
    | none=>rw [hh] at i3;cases i3
    | some q=>exact ⟨q,rfl⟩
   rw [hq] at i3;have hk:k.2=q+1:=Option.some.inj i3;have hqp:q<p:=AY q (List.mem_of_getLast? hq);have Qv:Cf [(p,p+1)]=[p]:=by
    unfold Cf;rw [List.flatMap_cons,List.flatMap_nil,show (p+1-p).toNat=1 by omega];simp
   rw [e,Zsx];by_cases hj:k.2=p
   ·rw [if_pos hj];refine ⟨(aq l (-1) (k.1,p+1)).2 ⟨j1,j2,j3,by show k.1<p+1;omega,by show p+1<=65536;omega⟩,?_,?_⟩
    ·rw [<- i2,NW,NW,AA];congr 1;unfold Cf;rw [List.flatMap_cons,List.flatMap_nil,List.flatMap_cons,List.flatMap_nil,AE,AE];show (List.range (p+1-k.1).toNat).map _=(List.range (k.2-k.1).toNat).map _++[p];rw [show (p+1-k.1).toNat=(k.2-k.1).toNat+1 by omega,List.range_succ,AG,List.map_singleton];congr 2;omega
    ·rw [List.getLast?_append,List.getLast?_singleton,List.getLast?_append,List.getLast?_singleton];rfl
   ·rw [if_neg hj];refine ⟨(aq (l++[k]) (-1) (p,p+1)).2 ⟨i1,λ s hs=>?_,by show -1<p;omega,by show p<p+1;omega,by show p+1<=65536;omega⟩,?_,?_⟩
    ·show s.2<p;rcases List.mem_append.1 hs with hs | hs
     ·have:=j2 s hs;omega
     ·rw [List.mem_singleton.1 hs];omega
    ·rw [NW,i2,Qv]
    ·rw [List.getLast?_append (l:=l++[k]),List.getLast?_append (l:=ps),List.getLast?_singleton,List.getLast?_singleton];rfl
theorem sq {l:List (Int×Int)} (h:DD (-1) l):Rise (Cf l):=⟨rF h,λ p hp=>by have:=gz h hp;have:=ib h (Int.le_refl _);omega⟩
theorem s0:∀ {a b:List (Int×Int)} {x:Int},DD x a->DD x b-> -1<=x->Cf a=Cf b->a=b
 | [],[],_,_,_,_,_=>rfl
 | [],s :: b,x,_,hb,hx,h=>by
  exfalso;have:=congrArg List.length h;rw [show s :: b=[s]++b from rfl,NW,Ap,gA] at this;have:=hb.2.1;simp [Cf] at *;omega
 | s :: a,[],x,ha,_,hx,h=>by
  exfalso;have:=congrArg List.length h;rw [show s :: a=[s]++a from rfl,NW,Ap,gA] at this;have:=ha.2.1;simp [Cf] at *;omega
 | s :: a,t :: b,x,ha,hb,hx,h=>by
  obtain ⟨a1,a2,a3,a4⟩:=ha;obtain ⟨b1,b2,b3,b4⟩:=hb;have es:Cf (s :: a)=Cf [s]++Cf a:=by rw [show s :: a=[s]++a from rfl,NW]
  have et:Cf (t :: b)=Cf [t]++Cf b:=by rw [show t :: b=[t]++b from rfl,NW]
  have Qw:∀ {u:Int×Int} {p:Int},p∈Cf [u]↔u.1<=p/\p<u.2:=λ {u p}=>by
   unfold Cf;rw [List.flatMap_cons,List.flatMap_nil,AE,List.mem_map];constructor
   ·rintro ⟨k,hk,rfl⟩;have:=List.mem_range.1 hk;omega
   ·intro hp;exact ⟨(p-u.1).toNat,List.mem_range.2 Ad,Ad⟩
  have Yt:∀ {l:List (Int×Int)} {y p:Int},DD y l->p∈Cf l->y<p:=λ {l y p} hl hp=>by
   unfold Cf at hp;rw [List.mem_flatMap] at hp;obtain ⟨u,hu,hp⟩:=hp;rw [List.mem_map] at hp;obtain ⟨k,hk,rfl⟩:=hp;have:=hl.mem hu;omega
  have J7:∀ p,p∈Cf (s :: a)↔p∈Cf (t :: b):=λ p=>by rw [h]
  rw [es,et] at J7;have e1:s.1=t.1:=by
   have p1:=(J7 s.1).1 (List.mem_append_left _ (Qw.2 ⟨Int.le_refl _,a2⟩));have p2:=(J7 t.1).2 (List.mem_append_left _ (Qw.2 ⟨Int.le_refl _,b2⟩));rcases List.mem_append.1 p1 with p1 | p1
   ·have:=Qw.1 p1;rcases List.mem_append.1 p2 with p2 | p2
    ·have:=Qw.1 p2;omega
    ·have:=Yt a4 p2;omega
   ·have:=Yt b4 p1;rcases List.mem_append.1 p2 with p2 | p2
    ·have:=Qw.1 p2;omega
    ·have:=Yt a4 p2;omega
  have e2:s.2=t.2:=by
   rcases Int.lt_trichotomy s.2 t.2 with AY | heq | AY
   ·exfalso;have p1:=(J7 s.2).2 (List.mem_append_left _ (Qw.2 ⟨Ad,AY⟩));rcases List.mem_append.1 p1 with p1 | p1
    ·have:=Qw.1 p1;omega
    ·have:=Yt a4 p1;omega
   ·exact heq
   ·exfalso;have p1:=(J7 t.2).1 (List.mem_append_left _ (Qw.2 ⟨Ad,AY⟩));rcases List.mem_append.1 p1 with p1 | p1
    ·have:=Qw.1 p1;omega
    ·have:=Yt b4 p1;omega
  have est:s=t:=Prod.ext e1 e2;subst est;rw [es,et] at h;rw [s0 a4 b4 Ad (List.append_cancel_left h)]
theorem sZ {l:List (Int×Int)} (h:DD (-1) l):IY (Cf l)=l:=by
 obtain ⟨h1,h2,_⟩:=iW (Cf l) (sq h);exact s0 h1 h (Int.le_refl _) h2
theorem Zl1 (l:List (Int×Int)) (n:Int) (h:∀ k,l.getLast? = some k->k.2<=n):L4 l (n,n+1)=J6 l n:=by
 unfold L4 J6;cases hl:l.getLast? with
 | none=>rw [List.getLast?_eq_none_iff.1 hl]
 | some k=>
  have:=h k hl;dsimp only;by_cases hk:k.2=n
  ·rw [CH,Ak,Ci hk,Ak,show FT k.2 (n+1)=n+1 by unfold FT;rw [if_pos Ad]]
  ·rw [Gc,Al,Ca hk,Al]
theorem tR {ps:List Int} (h:Rise ps) (hl:ps.length<=65536):SK ps=some (IY ps,0):=by
 have Ou:QX ps=some false:=by
  have loop:∀ (d i n:Nat),d=ps.length-i->i<=ps.length->d<n->Io.l0 n ps (ps.length:Int) (i:Int)=some (-1):=by
   intro d;induction d with
   | zero=>
    intro i n hd hi hn;obtain ⟨n,rfl⟩:=Aa n;show Io.S0 _ _ _ _=_;unfold Io.S0;rw [Be,Al]
   | succ d ih=>
    intro i n hd hi hn;obtain ⟨n,rfl⟩:=Aa n;have AY:i<ps.length:=Ad
    have hp:=h.r _ (Ay AY);show Io.S0 _ _ _ _=_;unfold Io.S0
    rw [Bw,Ak,Bq,Ak,BE AY,show Q6 ps[i]=false from by
     unfold Q6
     rw [Be,Al,Gc],Al,Bk,Ac i]
    exact ih (i+1) n Ad Ad Ad
  have h0:Io ps=some (-1):=loop ps.length 0 fu rfl Ad Ae;unfold QX;rw [h0];rfl
 have hs:(ps.mergeSort λ x y=>decide (x<=y))=ps:=List.mergeSort_of_pairwise (h.s.imp λ h=>Aq Ad);have hf:∀ (q:List Int),q <+:ps->q.foldl (λ a n=>L4 a (n,n+1)) []=IY q:=by
  refine λ q=>WH (p:=λ q=>q <+:ps->q.foldl (λ a n=>L4 a (n,n+1)) []=IY q) (λ _=>rfl) ?_ q
  ·intro q p ih hq;have hr:Rise (q++[p]):=⟨h.s.sublist hq.sublist,λ x hx=>h.r x (hq.subset hx)⟩;rw [List.foldl_append,ih ((List.prefix_append _ _).trans hq),iV];refine Zl1 _ _ λ k hk=>?_
   have h1:Rise q:=⟨(List.pairwise_append.1 hr.s).1,λ x hx=>hr.r x (List.mem_append_left _ hx)⟩;have h3:=(iW q h1).2.2;rw [hk] at h3;cases hg:q.getLast? with
   | none=>rw [hg] at h3;cases h3
   | some z=>
    rw [hg] at h3;have e:k.2=z+1:=Option.some.inj h3;have:=(List.pairwise_append.1 hr.s).2.2 z (List.mem_of_getLast? hg) p Ah;omega
 unfold SK
 rw [Ou,An,Al,Aq Ad,AH,show (ps.all λ n=>BC 0 n && A8 n 65536)=true from List.all_eq_true.2 λ p hp=>by
  have:=h.r p hp;rw [CH this.1,Bw this.2]
  rfl,Ak,hs,hf ps (List.prefix_refl _)]
end Go.AM.Pure
end

section
/- The form that needs least; the spans of each form. -/
namespace Go.AM.Pure
open Go.AM
theorem Ymv (a b:Nat) (h:a<1000000000000):GB .i64 (a:Int) (b:Int)=((a / b:Nat):Int):=by
 unfold GB;rw [show Int.tdiv (a:Int) (b:Int)=((a / b:Nat):Int) from rfl];have:=Nat.div_le_self a b;generalize a / b=q at this ⊢;exact FH Ad
def nW (l:List (Int×Int)):Int:=(Lv l+63) / 64
end Go.AM.Pure
end

section
/- Lists of places: the best form, its spans; the document's spans. -/
namespace Go.AM.Pure
open Go.AM
def Pb (l:List (Int×Int)):Int:=
 if 8*nW l<8*(l.length:Int) then (if 2*((Cf l).length:Int)<8*nW l then 3 else 2) else (if 2*((Cf l).length:Int)<8*(l.length:Int) then 3 else 1)
theorem iS (l:List (Int×Int)):Pb l=1\/Pb l=2\/Pb l=3:=by unfold Pb;split <;> split <;> simp
theorem Ysc {l:List (Int×Int)} (hM:DD (-1) l) (hl:l.length<=65536):Zr l=some [0,8*(l.length:Int),8*nW l,2*((Cf l).length:Int)]:=by
 have htr:=ib hM (Int.le_refl _);have CT:=Q1 hM;unfold Zr;rw [fY hM Ad,An,An,Ba,CA,Kv (a:=8) (b:=(l.length:Int)) Ad,Kv (a:=2) (b:=((Cf l).length:Int)) Ad];by_cases h0:l.length=0
 ·rw [Gc,Al,AU h0];rfl
 ·have h1:=hM.mem (Ay (show l.length-1<l.length by omega));rw [<- Sz l Ad] at h1;obtain ⟨T,hT⟩:=Int.eq_ofNat_of_zero_le (show 0<=Lv l-1 by omega);rw [CH,Ak,show ((l.length:Int)-1)=((l.length-1:Nat):Int) by omega,Bq,Ak,BE Ad,<- Sz l Ad,CA,hT,show (64:Int)=((64:Nat):Int) from rfl,Ymv T 64 Ad,Bk,Kv];have:((T / 64:Nat):Int)+1=nW l:=by unfold nW;omega
  rw [this]
theorem Zlv (o:List (Int×Int)->Int->Int×List (Int×Int)×List Int×List Int->Option ((Int×List (Int×Int)×List Int×List Int)×Int)) (l:List (Int×Int)) (z:Int×List (Int×Int)×List Int×List Int) (n:Nat):
  DX.l0 o (n+1+1+1) l 1 2 z [0,8*(l.length:Int),8*nW l,2*((Cf l).length:Int)]=o l (Pb l) z:=by
 show DX.S0 _ _ _ _ _ _ _=_;unfold DX.S0;rw [CH,Ak,Bq,show (decide (4=[0,8*(l.length:Int),8*nW l,2*((Cf l).length:Int)].length))=true from rfl,AH,Ak,Bq,AH,Ak,show Int.toNat 2=2 from rfl,show Int.toNat 1=1 from rfl,show A7 .i64 2 1=3 from rfl];show (bif A8 (8*nW l) (8*(l.length:Int)) then DX.S0 _ _ _ _ _ _ _ else DX.S0 _ _ _ _ _ _ _)=_;unfold DX.S0;rw [CH,Ak,Bq,show (decide (4=[0,8*(l.length:Int),8*nW l,2*((Cf l).length:Int)].length))=true from rfl,AH,Ak,Bq,AH,Ak,Bq,AH,Ak,show Int.toNat 2=2 from rfl,show Int.toNat 1=1 from rfl,show Int.toNat 3=3 from rfl,show A7 .i64 3 1=4 from rfl];show (bif A8 (8*nW l) (8*(l.length:Int)) then (bif A8 (2*((Cf l).length:Int)) (8*nW l) then DX.S0 _ _ _ _ _ _ _ else DX.S0 _ _ _ _ _ _ _) else (bif A8 (2*((Cf l).length:Int)) (8*(l.length:Int)) then DX.S0 _ _ _ _ _ _ _ else DX.S0 _ _ _ _ _ _ _))=_;unfold DX.S0 Pb;rw [Gc,Al,Al,Al];by_cases h1:8*nW l<8*(l.length:Int)
 ·rw [Bw h1,Ak,if_pos h1];by_cases h2:2*((Cf l).length:Int)<8*nW l
  ·rw [Bw h2,Ak,if_pos h2]
  ·rw [Be,Al,if_neg h2]
 ·rw [Be,Al,if_neg h1];by_cases h2:2*((Cf l).length:Int)<8*(l.length:Int)
  ·rw [Bw h2,Ak,if_pos h2]
  ·rw [Be,Al,if_neg h2]
theorem rB {l:List (Int×Int)} (hM:DD (-1) l) (hl:l.length<=65536):DX l=PM l (Pb l):=by
 unfold DX DX.S;rw [Sj l Ad,Aq hM,An,Bool.not_true,Al,Ysc hM hl,An];refine (Zlv (DX.t1 fu) l (0,[],[],[]) 18446744073709551613).trans ?_;show (PM l (Pb l)).bind (λ x=>some x)=_;cases PM l (Pb l) <;> rfl
theorem Ytc {l:List (Int×Int)} (hM:DD (-1) l) (hl:l.length<=65536) {form:Int} (hf:form=1\/form=2\/form=3):∃ x,PM l form=some (x,0)/\x.1=form/\OH x=some l:=by
 have CT:=Q1 hM;unfold PM;rw [Sj l Ad,Aq hM,An,Bool.not_true,Al];rcases hf with rfl | rfl | rfl
 ·rw [Ci rfl,Ak,show N9 16 l=some l from by unfold N9;rw [Cp Ad];rfl,An];refine ⟨_,rfl,rfl,?_⟩;show OH (1,l,[],[])=_;unfold OH;rw [Ca,Al,Ca,Al,show N9 16 l=some l from by unfold N9;rw [Cp Ad];rfl];rfl
 ·obtain ⟨W,h1,h2,h3,h4,h5⟩:=so hM Ad;rw [Ca,Al,Ci rfl,Ak,h1,An];refine ⟨_,rfl,rfl,?_⟩;show OH (2,[],W,[])=_;have hw:=gI W 0;rw [h5] at hw;unfold OH Wo;rw [Ci rfl,Ak,h4,An,Ak];show (Option.bind (ME ((0:Nat):Int) W) _).bind _=_;rw [hw,An,Aq h3,Aq Ad,AH,Ak,An];exact congrArg some (sZ hM)
 ·rw [Ca,Al,Ca,Al,Ci rfl,Ak,rE hM Ad,An];refine ⟨_,rfl,rfl,?_⟩;show OH (3,[],[],Cf l)=_;unfold OH;rw [Ca,Al,Ci rfl,Ak,tR (sq hM) CT,An];exact congrArg some (sZ hM)
theorem Ynv:∀ (ps:List Int),(IY ps).length<=ps.length:=by
 refine λ ps=>WH (p:=λ ps=>(IY ps).length<=ps.length) Af ?_ ps
 intro l a h;rw [iV,Ap];unfold J6;cases (IY l).getLast? with
 | none=>simp
 | some k=>
  dsimp only;cases A9 k.2 a
  ·simp;omega
  ·simp;omega
theorem Yiv {ps:List Int} (h:Rise ps) (hl:ps.length<=65536):∃ x,Mw ps=some (x,0)/\x.1=Pb (IY ps)/\Ys x ps/\OH x=some (IY ps):=by
 obtain ⟨hM,hp,_⟩:=iW ps h;have Lg:=Ynv ps;obtain ⟨x,h1,h2,h3⟩:=Ytc hM Ad (iS (IY ps));obtain ⟨x',RY,_,Ot⟩:=xU hM Ad (iS (IY ps));have:x'=x:=by rw [h1] at RY;exact (congrArg Prod.fst (Option.some.inj RY)).symm
 subst this;refine ⟨x',?_,h2,by rw [<- hp];exact Ot,h3⟩;unfold Mw;rw [tR h hl,An];dsimp only;rw [Cs rfl,Al,rB hM Ad,h1];rfl
end Go.AM.Pure
end

section
/- The document's spans of truths; the document's Sift. -/
namespace Go.AM.Pure
open Go.AM
def Oq (f:Nat->Bool) (n:Nat):List Int:=Jw ((List.range n).filter f)
theorem Yrc (f:Nat->Bool) (n:Nat):Oq f (n+1)=Oq f n++(if f n then [(n:Int)] else []):=by
 unfold Oq Jw;rw [List.range_succ,List.filter_append,AG];cases h:f n <;> simp [h]
theorem Ylv {f:Nat->Bool} {n:Nat} {p:Int} (h:p∈Oq f n):∃ k:Nat,p=(k:Int)/\k<n/\f k=true:=by
 unfold Oq Jw at h;obtain ⟨k,hk,rfl⟩:=List.mem_map.1 h;have:=List.mem_filter.1 hk;exact ⟨k,rfl,List.mem_range.1 this.1,this.2⟩
theorem Ync (f:Nat->Bool) {n:Nat} (hn:n<=65536):Rise (Oq f n):=
 ⟨tQ ((List.pairwise_lt_range).sublist List.filter_sublist),λ p hp=>by
  obtain ⟨k,rfl,hk,_⟩:=Ylv hp
  omega⟩
theorem Zk1 {f g:Nat->Bool} {n:Nat} (h:∀ k,k<n->f k=g k):Oq f n=Oq g n:=by
 unfold Oq;congr 1;exact List.filter_congr λ k hk=>h k (List.mem_range.1 hk)
end Go.AM.Pure
end

section
/- The finders of sift. -/
namespace Go.AM.Pure
open Go.AM
def CZ {α:Type} (p:α->Bool):Nat->List α->List Int
 | _,[]=>[]
 | k,x :: l=>(if p x then [(k:Int)] else [])++CZ p (k+1) l
theorem iU {α:Type} (p:α->Bool):∀ (a b:List α) (k:Nat),CZ p k (a++b)=CZ p k a++CZ p (k+a.length) b
 | [],_,_=>rfl
 | x :: a,b,k=>by
  show (if p x then [(k:Int)] else [])++CZ p (k+1) (a++b)=((if p x then [(k:Int)] else [])++CZ p (k+1) a)++_;rw [iU p a b (k+1),AA,Aw,show k+1+a.length=k+(a.length+1) by omega]
theorem PX {α:Type} (p:α->Bool) (a:List α) (x:α):CZ p 0 (a++[x])=CZ p 0 a++(if p x then [(a.length:Int)] else []):=by
 rw [iU,AF];congr 1;exact AE _
theorem Uz {α β:Type} (p:β->Bool) (f:α->β):∀ (l:List α) (k:Nat),CZ p k (l.map f)=CZ (λ x=>p (f x)) k l
 | [],_=>rfl
 | _ :: l,k=>congrArg _ (Uz p f l (k+1))
theorem Wn {α:Type} {p q:α->Bool}:∀ (l:List α) (k:Nat),(∀ x∈l,p x=q x)->CZ p k l=CZ q k l
 | [],_,_=>rfl
 | x :: l,k,h=>by
  show (if p x then [(k:Int)] else [])++_=(if q x then [(k:Int)] else [])++_;rw [h x (AI ..),Wn l (k+1) λ y hy=>h y (AP _ hy)]
theorem P3 {α:Type} (p:α->Bool):∀ (l:List α) (k:Nat),(CZ p k l).length<=l.length
 | [],_=>Au _
 | x :: l,k=>by
  have:=P3 p l (k+1);show ((if p x then [(k:Int)] else [])++_).length<=_;rw [Ap,Aw];split
  ·rw [AN];omega
  ·rw [List.length_nil];omega
theorem iT {α:Type} {p:α->Bool}:∀ {l:List α} {k:Nat} {x:Int},x∈CZ p k l->(k:Int)<=x/\x<((k+l.length:Nat):Int)
 | [],_,_,h=>by cases h
 | y :: l,k,x,h=>by
  rw [Aw];rcases List.mem_append.1 h with h | h
  ·split at h
   ·rw [List.mem_singleton.1 h];omega
   ·cases h
  ·have:=iT h;omega
theorem vH {α:Type} (p:α->Bool) (x:α):∀ (n k:Nat),CZ p k (List.replicate n x)=if p x then Jw (List.range' k n) else []
 | 0,k=>by rw [List.replicate_zero];split <;> rfl
 | n+1,k=>by
  rw [List.replicate_succ];show (if p x then [(k:Int)] else [])++CZ p (k+1) (List.replicate n x)=_;rw [vH p x n (k+1),List.range'_succ];cases p x <;> rfl
theorem Ymc {α:Type} (p:α->Bool) (z:α) (l:List α):Oq (λ k=>p (nth l (k:Int) z)) l.length=CZ p 0 l:=by
 refine WH (p:=λ l=>Oq (λ k=>p (nth l (k:Int) z)) l.length=CZ p 0 l) rfl (λ l x ih=>?_) l;rw [PX,<- ih,Ap,AN,Yrc,BE Ah,List.getElem_append_right (Au _)];congr 1
 ·exact Zk1 λ k hk=>by rw [BE (by rw [Ap];omega),BE hk,List.getElem_append_left hk]
 ·simp
theorem Zkv (t:E9) (b:ByteArray):∀ (d a n:Nat) (found:List Int),d<n->found.length+d<=1000000->a+d<=1000000->GL.l0 n ((a+d:Nat):Int) (a:Int) (t,b,found)=some (t,b,found++Jw (List.range' a d)):=by
 intro d;induction d with
 | zero=>
  intro a n found hn _ _;obtain ⟨n,rfl⟩:=Aa n;show GL.S0 _ _ _ _=_;unfold GL.S0;rw [Be,Al,List.range'_zero];simp [Jw]
 | succ d ih=>
  intro a n found hn h1 h2;obtain ⟨n,rfl⟩:=Aa n;show GL.S0 _ _ _ _=_;unfold GL.S0;have hN:=ih (a+1) n (found++[(a:Int)]) Ad (by rw [Ap,AN];omega) Ad;rw [Bw,Ak];dsimp only;rw [Cp Ad,Ak,Bk,Ac a,show a+(d+1)=a+1+d by omega,hN,AA,List.range'_succ];rfl
theorem ZR (t:E9) (b:ByteArray) (found:List Int) {x y:Int} (a d:Nat) (hx:x=(a:Int)) (hy:y=((a+d:Nat):Int)) (h1:found.length+d<=1000000) (h2:a+d<=1000000):GL (t,b,found) x y=some (t,b,found++Jw (List.range' a d)):=by
 subst hx hy;exact Zkv t b d a fu found Ae h1 h2
theorem Zqx (t:E9) (b:ByteArray) (l:List Cell) (hl:l.length<=65536):FB (t,b,[]) l=some (t,b,CZ (DL t) 0 (Bv l)):=by
 have loop:∀ (d i n:Nat),d=l.length-i->i<=l.length->d<n->FB.l0 n ((Bv (l.take i)).length:Int) l (l.length:Int) (i:Int) (t,b,CZ (DL t) 0 (Bv (l.take i)))=some (t,b,CZ (DL t) 0 (Bv l)):=by
  intro d;induction d with
  | zero=>
   intro i n hd hi hn;obtain ⟨n,rfl⟩:=Aa n;show FB.S0 _ _ _ _ _ _=_;unfold FB.S0;rw [Be,Al,AL Ad]
  | succ d ih=>
   intro i n hd hi hn;obtain ⟨n,rfl⟩:=Aa n;have AY:i<l.length:=Ad
   have hN:=ih (i+1) n Ad Ad Ad;have hr:=Jp (l.take i);have hf:=P3 (DL t) (Bv (l.take i)) 0;rw [Ar] at hr;rw [take_one AY,Uk] at hN;show FB.S0 _ _ _ _ _ _=_;unfold FB.S0;rw [Bw,Ak,Bq,Ak,BE AY,Bk,Bk,Ac i];cases hz:Db l[i] with
   | true=>
    have:A9 l[i].1 0=true:=hz;rw [hz,if_pos rfl,AE] at hN;rw [this,Ak];exact hN
   | false=>
    have:A9 l[i].1 0=false:=hz;rw [hz,if_neg Ah,PX,Ap,AN] at hN;rw [this,Al];dsimp only;rw [Zq,An,show (((Bv (l.take i)).length:Int)+1)=(((Bv (l.take i)).length+1:Nat):Int) by omega];cases hm:DL t l[i] with
    | true=>
     rw [hm,if_pos rfl] at hN;rw [Ak,ZR t b _ (Bv (l.take i)).length 1 rfl rfl Ad Ad,An];exact hN
    | false=>
     rw [hm,if_neg Ah,AE] at hN;rw [Al];exact hN
 exact loop l.length 0 fu rfl Ad Ae
theorem Zi1 (t:E9) (l:List Int) (hl:l.length<=65536) (BH:∀ x∈l,BN x) {b:ByteArray} (hb:Bu b=Fi (GA l)):GM (t,b,[]) (l.length:Int)=some (t,b,CZ (λ x=>DL t (FR x)) 0 l):=by
 obtain ⟨_,k2,k3⟩:=N7 l hl;obtain ⟨o,ho⟩:∃ o,GA l=o:=⟨_,rfl⟩;rw [ho] at hb k2 k3;have Fw:=Zy o k3 (by rw [k2];exact hl) (λ r hr=>BH _ (by rw [<- k2];exact UA k3 r hr)) hb;have Gg:=Jq o 0 none k3;rw [k2] at Fw Gg;have loop:∀ (d i n:Nat),d=o.length-i->i<=o.length->d<n->GM.l0 n o (o.length:Int) (i:Int) (t,b,CZ (λ x=>DL t (FR x)) 0 (BQ (o.take i)))=some (t,b,CZ (λ x=>DL t (FR x)) 0 l):=by
  intro d;induction d with
  | zero=>
   intro i n hd hi hn;obtain ⟨n,rfl⟩:=Aa n;show GM.S0 _ _ _ _ _=_;unfold GM.S0;rw [Be,Al,AL Ad,k2]
  | succ d ih=>
   intro i n hd hi hn;obtain ⟨n,rfl⟩:=Aa n;have AY:i<o.length:=Ad
   obtain ⟨e1,e2,_,e3,e4⟩:=Qb k3 AY;have hN:=ih (i+1) n Ad Ad Ad;have hle:(BQ (o.take (i+1))).length<=l.length:=by
    rw [<- k2]
    conv=>rhs;rw [<- List.take_append_drop (i+1) o,IV,Ap]
    omega
   have hf:=P3 (λ x=>DL t (FR x)) (BQ (o.take i)) 0;rw [take_one AY,IV,JV,iU,AF,vH] at hN;show GM.S0 _ _ _ _ _=_;unfold GM.S0;rw [Bw,Ak,Bq,Ak,BE AY,Bk (a:=(i:Int)) (b:=1) Ad,Ac i];dsimp only;rw [Zq,An,show ia o[i].1=FR o[i].1 from rfl];cases hm:DL t (FR o[i].1) with
   | true=>
    rw [hm,if_pos rfl] at hN;rw [Ak,ZR t b _ (BQ (o.take i)).length o[i].2.2.toNat e1 (by rw [Bk];omega) Ad Ad,An];exact hN
   | false=>
    rw [hm,if_neg Ah,AE] at hN;rw [Al];exact hN
 unfold GM GM.S;dsimp only;rw [Fw,An];exact loop o.length 0 fu rfl Ad Ae
end Go.AM.Pure
end

section
/- The finders of sift: dictionaries; where what passes stands. -/
namespace Go.AM.Pure
open Go.AM
theorem Zhv (s:ByteArray) (hs:s=eB):PI s 0=some ([],[],0):=by
 unfold PI
 rw [show BX s 0=some ([],[],0) from by
  show BX.S _ s 0=_;unfold BX.S;rw [Be,Al,Be,Al,Ci rfl,Ak,Gp hs]
  rfl]
 rfl
theorem Ziv (t:E9) (b:ByteArray) (P:List Int) (pass:List Bool) (hP:P.length<=65536) (KI:∀ x∈P,0<=x/\x<(pass.length:Int)):∀ (d i n:Nat),d=P.length-i->i<=P.length->d<n->
  C0.l2 n P (P.length:Int) (i:Int) pass (t,b,CZ (λ p=>pass.getD p.toNat false) 0 (P.take i))=some (t,b,CZ (λ p=>pass.getD p.toNat false) 0 P):=by
 intro d;induction d with
 | zero=>
  intro i n hd hi hn;obtain ⟨n,rfl⟩:=Aa n;show C0.S2 _ _ _ _ _ _=_;unfold C0.S2;rw [Be,Al,AL Ad]
 | succ d ih=>
  intro i n hd hi hn;obtain ⟨n,rfl⟩:=Aa n;have AY:i<P.length:=Ad
  have hx:=KI _ (Ay AY);have hN:=ih (i+1) n Ad Ad Ad;have hf:=P3 (λ p=>pass.getD p.toNat false) (P.take i) 0;have Gs:(P.take i).length=i:=by rw [Ar];omega
  rw [take_one AY,PX,Gs] at hN;show C0.S2 _ _ _ _ _ _=_;unfold C0.S2;rw [Bw,Ak,Bq,Ak,BE AY,Bq (by rw [Ba];exact hx),Ak,Bk (a:=(i:Int)) (b:=1) Ad,Ac i];cases hm:pass.getD P[i].toNat false with
  | true=>
   rw [hm,if_pos rfl] at hN;rw [Ak,ZR t b _ i 1 rfl rfl Ad Ad,An];exact hN
  | false=>
   rw [hm,if_neg Ah,AE] at hN;rw [Al];exact hN
theorem Zjv (t:E9) (b:ByteArray) (fo:List Int) (P:List Int) (D:List ByteArray) (hD:D.length<=65536) (o:List Int->List Bool->E9×(ByteArray×List Int)->Option (E9×(ByteArray×List Int))) {y:E9×(ByteArray×List Int)}
  (ho:∀ pass:List Bool,pass.length=D.length->(∀ k (h:k<D.length),pass.getD k false=DL t (2,0,D[k]))->o P pass (t,b,fo)=some y):∀ (d i n:Nat) (pass:List Bool),d=D.length-i->i<=D.length->d<n->pass.length=D.length->(∀ k (h:k<D.length),k<i->pass.getD k false=DL t (2,0,D[k]))->
  C0.l0 o n P D (D.length:Int) (i:Int) pass (t,b,fo)=some y:=by
 intro d;induction d with
 | zero=>
  intro i n pass hd hi hn hp hk;obtain ⟨n,rfl⟩:=Aa n;show C0.S0 _ _ _ _ _ _ _ _=_;unfold C0.S0;rw [Be,Al];exact ho pass hp λ k h=>hk k h Ad
 | succ d ih=>
  intro i n pass hd hi hn hp hk;obtain ⟨n,rfl⟩:=Aa n;have AY:i<D.length:=Ad
  show C0.S0 _ _ _ _ _ _ _ _=_;unfold C0.S0;rw [Bw,Ak,Bq,Ak,BE AY];dsimp only;rw [Zq,An,Bq,Ak,Bk,Ac i,show Int.toNat (i:Int)=i from rfl];refine ih (i+1) n _ Ad Ad Ad (by rw [List.length_set];exact hp) λ k h eI=>?_
  rw [AK];by_cases he:k=i
  ·subst he;rw [List.getElem?_set_self Ad];rfl
  ·rw [List.getElem?_set_ne (Ne.symm he),<- AK];exact hk k h Ad
theorem Yqc (t:E9) (l:List ByteArray) (hl:l.length<=65536) (CL:Et l) {b:ByteArray} (hb:Bu b=Lo l (CF (BW l))):C0 (t,b,[]) (l.length:Int)=some (t,b,CZ (λ x=>DL t (2,0,x)) 0 l):=by
 have CT:(BW l).length=l.length:=JZ _ _;have Ej:=Mx l;have Fl:=N1 l;have Mg:∀ x∈BW l,0<=x/\x<((BO l).length:Int):=λ x hx=>Nb Fl x hx
 have key:C0.l0 (C0.t1 fu) fu (BW l) (BO l) ((BO l).length:Int) 0 (List.replicate (BO l).length false) (t,b,[])=some (t,b,CZ (λ x=>DL t (2,0,x)) 0 l):=by
  refine Zjv t b [] (BW l) (BO l) Ad (C0.t1 fu) (λ pass hp hk=>?_) (BO l).length 0 fu _ rfl Ad Ae Ah λ k h h0=>absurd h0 Ad
  have h2:=Ziv t b (BW l) pass Ad (λ x hx=>by rw [hp];exact Mg x hx) (BW l).length 0 18446744073709551615 rfl Ad Ad;refine Eq.trans h2 ?_;congr 3
  conv=>rhs;rw [<- WI Fl eB,Uz]
  refine Wn _ _ λ x hx=>?_
  have h3:=Mg x hx;have h4:x.toNat<(BO l).length:=Ad
  rw [hk x.toNat h4,AK,AD h4];rfl
 unfold C0 C0.S;dsimp only;by_cases h0:l.length=0
 ·have Gt:b=eB:=Gx.2 (by rw [<- C6,hb];unfold Lo;rw [if_pos h0];rfl);rw [AU h0,show ((([]:List ByteArray).length:Nat):Int)=0 from rfl,Zhv b Gt];rfl
 ·obtain ⟨k1,k2,k3⟩:=GU (BW l) Ad
  rw [show PI b (l.length:Int)=some (BO l,BW l,0) from by
   unfold PI;rw [rN l hl CL k2 k3 hb Ad]
   rfl,An]
  dsimp only;rw [Ba,CH,AH,show Int.toNat ((BO l).length:Int)=(BO l).length from rfl,Cp Ad,Ak];exact key
theorem Zrx (l:List Int) (hl:l.length<=65536):aN l=some (B4 l,Cm l):=by
 cases l with
 | nil=>
  unfold B4;rw [List.mergeSort_nil];rfl
 | cons a l=>exact fW (a :: l) hl Ah
theorem Ypc {t:E9} (hm:Jc t=true) (h2:t.1≠2) (l:List Int) (hl:l.length<=65536) (BH:∀ x∈l,BN x) {b:ByteArray} (hb:Bu b=K3 l (CF (Cm l))):Fc (t,b,[]) (l.length:Int)=some (t,b,CZ (λ x=>DL t (FR x)) 0 l):=by
 have CT:=OI l;have Ej:=ON l;obtain ⟨k1,k2,k3⟩:=GU (Cm l) Ad;obtain ⟨f,g,e,hg,hfg,YR⟩:=Zj1 (t:=t) (l:=B4 l) Ad (λ i h=>List.pairwise_iff_getElem.1 (LU l).1 i (i+1) Ad h Ad) hm h2;have loop:∀ (d i n:Nat),d=(Cm l).length-i->i<=(Cm l).length->d<n->Fc.l0 n (f:Int) (g:Int) (Cm l) ((Cm l).length:Int) (i:Int) (t,b,CZ (λ p=>decide ((f:Int)<=p) && decide (p<(g:Int))) 0 ((Cm l).take i))=some (t,b,CZ (λ p=>decide ((f:Int)<=p) && decide (p<(g:Int))) 0 (Cm l)):=by
  intro d;induction d with
  | zero=>
   intro i n hd hi hn;obtain ⟨n,rfl⟩:=Aa n;show Fc.S0 _ _ _ _ _ _ _=_;unfold Fc.S0;rw [Be,Al,AL Ad]
  | succ d ih=>
   intro i n hd hi hn;obtain ⟨n,rfl⟩:=Aa n;have AY:i<(Cm l).length:=Ad
   have hN:=ih (i+1) n Ad Ad Ad;have hf:=P3 (λ p=>decide ((f:Int)<=p) && decide (p<(g:Int))) ((Cm l).take i) 0;have Gs:((Cm l).take i).length=i:=by rw [Ar];omega
   rw [take_one AY,PX,Gs] at hN;show Fc.S0 _ _ _ _ _ _ _=_;unfold Fc.S0;rw [Bw,Ak,Bq,Ak,BE AY,Bk (a:=(i:Int)) (b:=1) Ad,Ac i];by_cases h3:(f:Int)<=(Cm l)[i]
   ·rw [CH h3,Ak];by_cases h4:(Cm l)[i]<(g:Int)
    ·rw [Aq h3,Aq h4,Bool.and_self,if_pos rfl] at hN;rw [Bw h4,Ak,ZR t b _ i 1 rfl rfl Ad Ad,An];exact hN
    ·rw [Ax h4,Bool.and_false,if_neg Ah,AE] at hN;rw [Be,Al];exact hN
   ·rw [Ax h3,Bool.false_and,if_neg Ah,AE] at hN;rw [Gc,Al];exact hN
 unfold Fc Fc.S;dsimp only;rw [rA l hl BH k2 k3 hb,An];dsimp only;rw [Zrx l hl,An];dsimp only;rw [e,An];refine (loop (Cm l).length 0 fu rfl Ad Ae).trans ?_;congr 3
 conv=>rhs;rw [<- hZ l,Uz]
 refine Wn _ _ λ x hx=>?_
 have h3:=Si x hx;have h4:x.toNat<(B4 l).length:=Ad
 rw [getD_at h4,YR _ h4,<- Bool.decide_and];exact decide_eq_decide.2 ⟨λ h=>by omega,λ h=>by omega⟩
end Go.AM.Pure
end

section
/- sift.Sift of a block; the law of blocks. -/
namespace Go.AM.Pure
open Go.AM
def Ju (c:Cell):Bool:=!Db c
theorem Zbu (M:Cell->Bool) (l:List Cell):(CZ M 0 (Bv l)).map (λ k=>nth (CZ Ju 0 l) k 0)=CZ (λ c=>Ju c && M c) 0 l/\(CZ Ju 0 l).length=(Bv l).length:=by
 refine WH (p:=λ l=>(CZ M 0 (Bv l)).map (λ k=>nth (CZ Ju 0 l) k 0)=CZ (λ c=>Ju c && M c) 0 l/\(CZ Ju 0 l).length=(Bv l).length) ⟨rfl,rfl⟩ (λ l c ih=>?_) l;obtain ⟨h1,h2⟩:=ih;rw [Uk,PX,PX];cases hc:Db c with
 | true=>
  rw [if_pos rfl,show Ju c=false from by unfold Ju;rw [hc];rfl,Bool.false_and,if_neg Ah,AE,AE,AE];exact ⟨h1,h2⟩
 | false=>
  rw [show Ju c=true from by unfold Ju;rw [hc];rfl,AH,if_pos rfl,if_neg (show ¬ (false=true) by simp),PX,AG,<- h1];refine ⟨?_,by rw [Ap,Ap,h2];rfl⟩;congr 1
  ·apply List.map_congr_left;intro k hk;have hm:=iT hk;obtain ⟨j,rfl⟩:=Int.eq_ofNat_of_zero_le (show 0<=k by omega);rw [BE (show j<(CZ Ju 0 l++[(l.length:Int)]).length by rw [Ap];omega),BE (show j<(CZ Ju 0 l).length by omega),List.getElem_append_left]
  ·cases M c with
   | false=>rfl
   | true=>
    show [nth _ ((Bv l).length:Int) 0]=[(l.length:Int)];rw [BE (by rw [Ap,AN];omega),List.getElem_append_right Ad];simp
theorem Zg1 (M:Cell->Bool) (l:List Cell) (hl:l.length<=65536):Dj l (CZ M 0 (Bv l))=some (CZ (λ c=>Ju c && M c) 0 l):=by
 obtain ⟨h1,h2⟩:=Zbu M l;obtain ⟨S,hS⟩:∃ S,CZ Ju 0 l=S:=⟨_,rfl⟩;obtain ⟨F,hF⟩:∃ F,CZ M 0 (Bv l)=F:=⟨_,rfl⟩;have hFm:∀ x∈F,0<=x/\x<(S.length:Int):=λ x hx=>by
  rw [<- hF] at hx;have:=iT hx;rw [<- hS,h2];omega
 have hFl:F.length<=65536:=by
  rw [<- hF];have:=P3 M (Bv l) 0;have:=Jp l;omega
 rw [hF];rw [hF,hS] at h1;have Xaa:∀ (d i n:Nat),d=F.length-i->i<=F.length->d<n->Dj.l2 n S ((F.take i).map λ k=>nth S k 0) F (F.length:Int) (i:Int)=some (F.map λ k=>nth S k 0):=by
  intro d;induction d with
  | zero=>
   intro i n hd hi hn;obtain ⟨n,rfl⟩:=Aa n;show Dj.S2 _ _ _ _ _ _=_;unfold Dj.S2;rw [Be,Al,AL Ad]
  | succ d ih=>
   intro i n hd hi hn;obtain ⟨n,rfl⟩:=Aa n;have AY:i<F.length:=Ad
   have hN:=ih (i+1) n Ad Ad Ad;rw [take_one AY,AG] at hN;show Dj.S2 _ _ _ _ _ _=_;unfold Dj.S2;rw [Bw,Ak,Bq,Ak,BE AY,Bq (by rw [Ba];exact hFm _ (Ay AY)),Ak,Cp (by rw [Av,Ar];omega),Ak,Bk,Ac i];exact hN
 have n8:∀ (d i n:Nat),d=l.length-i->i<=l.length->d<n->Dj.l0 (Dj.t1 fu) n F (CZ Ju 0 (l.take i)) l (l.length:Int) (i:Int)=some (F.map λ k=>nth S k 0):=by
  intro d;induction d with
  | zero=>
   intro i n hd hi hn;obtain ⟨n,rfl⟩:=Aa n;show Dj.S0 _ _ _ _ _ _ _=_;unfold Dj.S0;rw [Be,Al,AL Ad,hS];exact Xaa F.length 0 18446744073709551615 rfl Ad Ad
  | succ d ih=>
   intro i n hd hi hn;obtain ⟨n,rfl⟩:=Aa n;have AY:i<l.length:=Ad
   have hN:=ih (i+1) n Ad Ad Ad;have hf:=P3 Ju (l.take i) 0;have Gs:(l.take i).length=i:=by rw [Ar];omega
   rw [take_one AY,PX,Gs] at hN;show Dj.S0 _ _ _ _ _ _ _=_;unfold Dj.S0;rw [Bw,Ak,Bq,Ak,BE AY,Cp Ad,Ak,Bk,Ac i];cases hz:Ju l[i] with
   | true=>
    rw [hz,if_pos rfl] at hN;have:BK l[i].1 0=true:=hz;rw [this,Ak];exact hN
   | false=>
    rw [hz,if_neg Ah,AE] at hN;have:BK l[i].1 0=false:=hz;rw [this,Al];exact hN
 rw [<- h1];exact n8 l.length 0 fu rfl Ad Ae
theorem Zh1 (l:List Cell) (hl:l.length<=65536) (z:Int×List (Int×Int)×List Int×List Int):Cv.l0 (Cv.t1 fu) fu [] l (l.length:Int) 0 z=Mw (CZ Db 0 l):=by
 have n8:∀ (d i n:Nat),d=l.length-i->i<=l.length->d<n->Cv.l0 (Cv.t1 fu) n (CZ Db 0 (l.take i)) l (l.length:Int) (i:Int) z=Mw (CZ Db 0 l):=by
  intro d;induction d with
  | zero=>
   intro i n hd hi hn;obtain ⟨n,rfl⟩:=Aa n;show Cv.S0 _ _ _ _ _ _ _=_;unfold Cv.S0;rw [Be,Al,AL Ad];show (Mw (CZ Db 0 l)).bind (λ x=>some x)=_;cases Mw (CZ Db 0 l) <;> rfl
  | succ d ih=>
   intro i n hd hi hn;obtain ⟨n,rfl⟩:=Aa n;have AY:i<l.length:=Ad
   have hN:=ih (i+1) n Ad Ad Ad;have hf:=P3 Db (l.take i) 0;have Gs:(l.take i).length=i:=by rw [Ar];omega
   rw [take_one AY,PX,Gs] at hN;show Cv.S0 _ _ _ _ _ _ _=_;unfold Cv.S0;rw [Bw,Ak,Bq,Ak,BE AY,Cp Ad,Ak,Bk,Ac i];cases hz:Db l[i] with
   | true=>
    rw [hz,if_pos rfl] at hN;have:A9 l[i].1 0=true:=hz;rw [this,Ak];exact hN
   | false=>
    rw [hz,if_neg Ah,AE] at hN;have:A9 l[i].1 0=false:=hz;rw [this,Al];exact hN
 exact n8 l.length 0 fu rfl Ad Ae
theorem Yh3 {t:E9} (hm:Jc t=true) (h7:t.1=7) (c:Cell):DL t c=Db c:=by
 unfold DL;rw [hm,if_pos h7,AH];rfl
theorem Zpx {t:E9} (h7:t.1≠7) (c:Cell):(Ju c && DL t c)=DL t c:=by
 unfold DL;rw [if_neg h7];by_cases h:c.1=0
 ·rw [Ax (show ¬ c.1≠0 by omega),Bool.false_and,Bool.and_false,Bool.and_false]
 ·rw [show Ju c=true from by show (!(A9 c.1 0))=true;rw [Ca h];rfl,AH]
theorem Yjv {s b m:ByteArray} {l:List Cell} {kind code:Int} {vb:List Int} (hm:Hn l kind) (BH:∀ c∈l,BN c.2.1) (hv:GX (Bv l) kind code=some vb) (hb:Bu b=vb)
  (k1:I7 s=some (l,0)) (k2:LS s=some ((kind,code,(l.length:Int),((l.length-(Bv l).length:Nat):Int)),0)) (k3:Ul s=some (b,m,0)) {t:E9} (ht:Jc t=true):Cv s t=Mw (CZ (DL t) 0 l):=by
 have hle:=Jp l;have hl:=hm.2.1;unfold Cv Cv.S;rw [Wb,if_pos ht,Cs rfl,Al,k2,An];dsimp only;rw [Cs rfl,Al,k1,An];by_cases h7:t.1=7
 ·rw [Ci h7,Ak];refine (Zh1 l Ad _).trans ?_;rw [Wn l 0 λ c _=>(Yh3 ht h7 c).symm]
 rw [Ca h7,Al];have fin:∀ (z:Int×List (Int×Int)×List Int×List Int) (bb:ByteArray),Cv.S3 l z (t,bb,CZ (DL t) 0 (Bv l))=Mw (CZ (DL t) 0 l):=by
  intro z bb;unfold Cv.S3;dsimp only;rw [Zg1 (DL t) l Ad,An,Wn l 0 λ c _=>Zpx h7 c];cases Mw (CZ (DL t) 0 l) <;> rfl
 have Xb:FB (t,b,[]) l=some (t,b,CZ (DL t) 0 (Bv l)):=Zqx t b l Ad;have J5:Bt .i64 (l.length:Int) ((l.length-(Bv l).length:Nat):Int)=((Bv l).length:Int):=by rw [CA];omega
 have hn:kind=1->Bv l=(Jv (Bv l)).map FR:=λ hk=>by
  rw [List.map_map]
  conv=>lhs;rw [<- List.map_id (Bv l)]
  apply List.map_congr_left;intro c hc;rcases SJ hm c hc with ⟨_,n,rfl⟩ | ⟨h,_⟩
  ·rfl
  ·omega
 have hx:kind=2->Bv l=(Ky (Bv l)).map λ x=>(2,0,x):=λ hk=>by
  rw [List.map_map]
  conv=>lhs;rw [<- List.map_id (Bv l)]
  apply List.map_congr_left;intro c hc;rcases SJ hm c hc with ⟨h,_⟩ | ⟨_,x,rfl,_⟩
  ·omega
  ·rfl
 have Zap:∀ x∈Jv (Bv l),BN x:=λ x hx=>by
  obtain ⟨c,hc,rfl⟩:=List.mem_map.1 hx;unfold Bv at hc;exact BH c (List.mem_filter.1 hc).1
 have Hs:(Jv (Bv l)).length=(Bv l).length:=Av ..;have LA:(Ky (Bv l)).length=(Bv l).length:=Av ..;have Xba:kind=1->code=2->GM (t,b,[]) ((Bv l).length:Int)=some (t,b,CZ (DL t) 0 (Bv l)):=λ hk hc=>by
  unfold GX Lu at hv;rw [if_pos hk,if_neg Ad,if_pos hc] at hv;cases hv;have h:=Zi1 t (Jv (Bv l)) Ad Zap hb;rw [Hs,<- Uz (DL t) FR,<- hn hk] at h;exact h
 have hints:kind=1->code=4->t.1≠2->Fc (t,b,[]) ((Bv l).length:Int)=some (t,b,CZ (DL t) 0 (Bv l)):=λ hk hc h2=>by
  unfold GX Lu at hv;rw [if_pos hk,if_neg Ad,if_neg Ad,if_neg Ad,if_pos hc] at hv;cases hv;have h:=Ypc ht h2 (Jv (Bv l)) Ad Zap hb;rw [Hs,<- Uz (DL t) FR,<- hn hk] at h;exact h
 have Xca:kind=2->code=4->C0 (t,b,[]) ((Bv l).length:Int)=some (t,b,CZ (DL t) 0 (Bv l)):=λ hk hc=>by
  unfold GX MH at hv;rw [if_neg Ad,if_neg Ad,if_pos hc] at hv;cases hv;have h:=Yqc t (Ky (Bv l)) Ad (Us hm) hb;rw [LA,<- Uz (DL t) (λ x=>((2,0,x):Cell)),<- hx hk] at h;exact h
 show Cv.S2 (Cv.t3 18446744073709551615) _ _ _ _ _=_;unfold Cv.S2;rw [k3,An];dsimp only;rw [J5,Xb];have Vr:∀ (x:Option (E9×ByteArray×List Int)) (z:Int×List (Int×Int)×List Int×List Int),x=some (t,b,CZ (DL t) 0 (Bv l))->x.bind (λ y=>Cv.t3 18446744073709551615 l z y)=Mw (CZ (DL t) 0 l):=by
  rintro _ z rfl;exact fin z b
 by_cases CB:code=2
 ·rw [Ci CB,Ak,Ca (show code≠4 by omega),Al,Al];rcases hm.2.2.1 with hk | hk
  ·rw [Ci hk,Ak];exact Vr _ _ (Xba hk CB)
  ·rw [Ca,Al];exact Vr _ _ rfl
 ·rw [Ca CB,Al];by_cases eH:code=4
  ·rw [Ci eH,Ak,Ak];rcases hm.2.2.1 with hk | hk
   ·rw [Ca,Al];by_cases h2:t.1=2
    ·rw [Cs h2,Al];exact Vr _ _ rfl
    ·rw [Fh h2,Ak];exact Vr _ _ (hints hk eH h2)
   ·rw [Ci hk,Ak];exact Vr _ _ (Xca hk eH)
  ·rw [Ca eH,Al,Al];exact Vr _ _ rfl
theorem xV (s:ByteArray) {t:E9} (ht:¬ Jc t=true):Cv s t=some ((0,[],[],[]),1):=by
 unfold Cv Cv.S;rw [Wb,if_neg ht,Fh Af,Ak]
end Go.AM.Pure
end
