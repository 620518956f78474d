import Derived.Test.YtclpadlpcfnfmaaGreatAmPure18
import Derived.Test.YtclpadlpcfnfmaaGreatAmPVtake
import Derived.Test.YtclpadlpcfnfmaaGreatAmP13
import Derived.Test.YtclpadlpcfnfmaaGreatAmP14
import Derived.Test.YtclpadlpcfnfmaaGreatAmP13q
import Derived.Test.YtclpadlpcfnfmaaGreatAmP17t
section
/- bits.With, Next, Ones, Field. -/
namespace Go.AM.Pure
open Go.AM
theorem Ze2 (a b:Int) {k:Nat} (hk:k<64):bit (NZ .u64 a b) k=(bit a k && !bit b k):=by
 unfold NZ
 show bit (IntKind.wrap .u64 ((BitVec.ofInt 64 a &&& ~~~ BitVec.ofInt 64 b).toNat:Int)) k=_
 rw [Jc _ hk,LF,BitVec.toNat_and,Nat.testBit_and,Mb _ hk]
 congr 1
 rw [BitVec.testBit_toNat,BitVec.getLsbD_not,Af hk,AB,← BitVec.testBit_toNat,Mb _ hk]
theorem fh (a:Int) {j k:Nat} (hj:j≤64) (hk:k<64):bit (Er .u64 a (j:Int)) k=(decide (j≤k) && bit a (k-j)):=by
 unfold Er
 rw [show min (j:Int).toNat (IntKind.bits .u64)=j from Nat.min_eq_left hj,Jc _ hk,Y8]
theorem Zf2 (n k:Nat):bit (2 ^ n-1) k=decide (k<n):=by
 have h1:(1:Nat)≤2 ^ n:=Nat.one_le_two_pow
 have h:(2:Int) ^ n-1=((2 ^ n-1:Nat):Int):=by
  rw [Int.natCast_sub h1,Int.natCast_pow];rfl
 rw [h,LF,Nat.testBit_two_pow_sub_one]
theorem qa (w:Int) (h:1≤w):∃ m,ON w=some m∧∀ k:Nat,k<64→bit m k=decide ((k:Int)<w):=by
 unfold ON
 rw [GM (by omega),Ac]
 by_cases h2:64≤w
 ·rw [Cq h2,Aa]
  exact ⟨_,rfl,fun k hk=>by rw [fk,Af (by omega)]⟩
 ·rw [GM (by omega),Ac,Cq (by omega),Aa]
  refine ⟨_,rfl,fun k hk=>?_⟩
  obtain ⟨n,rfl⟩:∃ n:Nat,w=(n:Int):=⟨w.toNat,by omega⟩
  have hn:n<64:=by omega
  rw [Rr _ hk]
  have h1:Er .u64 1 (n:Int)=2 ^ n:=by
   unfold Er
   rw [show min (n:Int).toNat (IntKind.bits .u64)=n from Nat.min_eq_left (Nat.le_of_lt hn),Ew,Int.one_mul]
   have:=EX n
   have h3:(2:Int) ^ n<2 ^ 64:=Int.pow_lt_pow_of_lt (by decide) hn
   rw [← M4] at h3
   exact Int.emod_eq_of_lt (by omega) h3
  have h3:Be .u64 (2 ^ n) 1=2 ^ n-1:=by
   unfold Be
   rw [Ew]
   have:=EX n
   have h3:(2:Int) ^ n<2 ^ 64:=Int.pow_lt_pow_of_lt (by decide) hn
   rw [← M4] at h3
   exact Int.emod_eq_of_lt (by omega) (by omega)
  rw [h1,h3,Zf2]
  congr 1
  exact propext ⟨fun h=>by omega,fun h=>by omega⟩
theorem Zsr (x:Int) (a:Nat) (n:Int) (ha:a<64) (hn:1≤n):∃ y,Yv x (a:Int) n (-1)=some y∧BY y∧∀ k:Nat,k<64→bit y k=(bit x k || (decide (a≤k) && decide ((k:Int)<a+n))):=by
 obtain ⟨m,hm,hb⟩:=qa n hn
 unfold Yv
 rw [show MR (a:Int) n=true from by
  unfold MR
  rw [Cq (by omega),Aa,Bl (by omega),Aa,Cq hn],Bool.not_true,Ac,hm,Ad,Cq (by omega),Aa,Aa]
 refine ⟨_,rfl,?_,fun k hk=>?_⟩
 ·unfold BY
  rw [Km]
  split <;> omega
 rw [Rr _ hk,fR _ _ hk,Ze2 _ _ hk,Zg2 _ _ hk,Jc _ hk,fh _ (by omega) hk,fh _ (by omega) hk]
 by_cases h:a≤k
 ·rw [Af h,AB,AB,AB,Jc _ (by omega),Jc _ (by omega),fk,hb _ (by omega),AB]
  rw [show decide (((k-a:Nat):Int)<n)=decide ((k:Int)<a+n) from by congr 1;exact propext ⟨fun h=>by omega,fun h=>by omega⟩]
  cases decide ((k:Int)<a+n) <;> simp
 ·rw [An h]
  simp
theorem Yyi (x:Int) (b:Nat):∃ c,Ny x (b:Int)=some c∧((c = -1∧∀ k,b≤k→k<64→bit x k=false)∨∃ j:Nat,c=(j:Int)∧b≤j∧j<64∧bit x j=true∧∀ k,b≤k→k<j→bit x k=false):=by
 unfold Ny
 have CL:EM (b:Int) 0=(b:Int):=by
  unfold EM
  rw [if_neg (by omega)]
 rw [CL]
 by_cases hb:64≤b
 ·rw [Cq (by omega),Aa]
  exact ⟨-1,rfl, .inl ⟨rfl,fun k h1 h2=>by omega⟩⟩
 rw [GM (by omega),Ac,Cq (by omega),Aa,Aa]
 obtain ⟨y,hy⟩:∃ y,Er .u64 (BH .u64 (IntKind.wrap .u64 x) (b:Int)) (b:Int)=y:=⟨_,rfl⟩
 rw [hy]
 have MB:0≤y∧y<18446744073709551616:=by
  rw [← hy];unfold Er
  rw [Ew]
  omega
 have K0:∀ k,k<64→bit y k=(decide (b≤k) && bit x k):=fun k hk=>by
  rw [← hy,fh _ (by omega) hk,Mp _ _ (by omega),Qc]
  by_cases h:b≤k
  ·rw [show b+(k-b)=k by omega,Jc _ hk]
  ·rw [An h,Bool.false_and,Bool.false_and]
 by_cases h0:y=0
 ·rw [B0 h0,Aa]
  refine ⟨-1,rfl, .inl ⟨rfl,fun k h1 h2=>?_⟩⟩
  have:=K0 k h2
  rw [h0,Tc,Af h1,AB] at this
  exact this.symm
 rw [BU h0,Ac]
 obtain ⟨m,hm⟩:=Int.eq_ofNat_of_zero_le MB.1
 have mH:m≠0:=by omega
 -- the least bit
 obtain ⟨j,hj,Nl⟩:∃ j,m.testBit j=true∧∀ k,k<j→m.testBit k=false:=by
  obtain ⟨i,hi⟩:=Nat.exists_testBit_of_ne_zero mH
  induction i using Nat.strongRecOn with
  | ind i ih=>
   by_cases h:∃ k,k<i∧m.testBit k=true
   ·obtain ⟨k,hk,LX⟩:=h
    exact ih k hk LX
   ·exact ⟨i,hi,fun k hk=>by
     cases hq:m.testBit k with
     | false=>rfl
     | true=>exact absurd ⟨k,hk,hq⟩ h⟩
 have WS:j<64:=by
  rcases Nat.lt_or_ge j 64 with h | h
  ·exact h
  ·exfalso
   have h1:m<2 ^ j:=Nat.lt_of_lt_of_le (show m<2 ^ 64 by omega) (Nat.pow_le_pow_right (by decide) h)
   rw [Nat.testBit_lt_two_pow h1] at hj
   cases hj
 -- m = (2 q + 1) 2^j
 obtain ⟨q,hq⟩:∃ q,m=(2*q+1)*2 ^ j:=by
  have Pm:m % 2 ^ j=0:=by
   apply Nat.eq_of_testBit_eq
   intro i
   rw [Nat.testBit_mod_two_pow,Nat.zero_testBit]
   by_cases h:i<j
   ·rw [Nl i h];simp
   ·simp [h]
  have hdiv:m / 2 ^ j % 2=1:=by
   have:=hj
   rw [Nat.testBit_eq_decide_div_mod_eq] at this
   exact Ak this
  refine ⟨m / 2 ^ j / 2,?_⟩
  have h1:=Nat.div_add_mod m (2 ^ j)
  have h2:=Nat.div_add_mod (m / 2 ^ j) 2
  rw [Pm,Nat.add_zero] at h1
  rw [hdiv] at h2
  rw [h2,Nat.mul_comm]
  exact h1.symm
 have hand:BL .u64 y (Be .u64 0 y)=2 ^ j:=by
  have hs:Be .u64 0 y=((18446744073709551616-m:Nat):Int):=by
   unfold Be
   rw [Ew]
   omega
  rw [hs]
  unfold BL
  show IntKind.wrap .u64 ((BitVec.ofInt 64 y &&& BitVec.ofInt 64 ((18446744073709551616-m:Nat):Int)).toNat:Int)=_
  have e1:(BitVec.ofInt 64 y).toNat=m:=by
   have:=Rl y
   rw [Int.emod_eq_of_lt MB.1 MB.2] at this
   omega
  have e2:(BitVec.ofInt 64 ((18446744073709551616-m:Nat):Int)).toNat=18446744073709551616-m:=by
   have:=Rl ((18446744073709551616-m:Nat):Int)
   omega
  rw [BitVec.toNat_and,e1,e2]
  have e3:m &&& (18446744073709551616-m)=2 ^ j:=by
   have hN:18446744073709551616=2 ^ (64-j)*2 ^ j:=by rw [← Nat.pow_add,show 64-j+j=64 by omega]
   have Ka:18446744073709551616-m=(2 ^ (64-j)-(2*q+1))*2 ^ j:=by rw [hq,hN,Nat.sub_mul]
   have AO:2*q+1<2 ^ (64-j):=by
    have h1:m<18446744073709551616:=by omega
    rw [hq,hN] at h1
    exact Nat.lt_of_mul_lt_mul_right h1
   rw [Ka]
   conv=>lhs;lhs;rw [hq]
   apply Nat.eq_of_testBit_eq
   intro i
   rw [Nat.testBit_and,Nat.testBit_mul_two_pow,Nat.testBit_mul_two_pow,Nat.testBit_two_pow]
   by_cases h:j≤i
   ·rw [Af h,AB,AB]
    obtain ⟨i,rfl⟩:∃ k,i=j+k:=⟨i-j,by omega⟩
    rw [Nat.add_sub_cancel_left]
    have h2:2 ^ (64-j)-(2*q+1)=2 ^ (64-j)-((2*q)+1):=rfl
    rw [h2,Nat.testBit_two_pow_sub_succ (by omega)]
    cases i with
    | zero=>
     rw [Nat.testBit_zero,Nat.testBit_zero]
     simp
     omega
    | succ i=>
     rw [Nat.testBit_succ,Nat.testBit_succ,show (2*q+1) / 2=q by omega,show 2*q / 2=q by omega]
     rw [show decide (j=j+(i+1))=false from An (by omega)]
     cases q.testBit i <;> simp
   ·rw [An h,Bool.false_and,Bool.false_and,An (by omega)]
  rw [e3,Ew]
  have h3:(2:Int) ^ j<2 ^ 64:=Int.pow_lt_pow_of_lt (by decide) WS
  rw [← M4] at h3
  have:=EX j
  rw [Int.natCast_pow]
  exact Int.emod_eq_of_lt (by show 0≤(2:Int) ^ j;omega) h3
 rw [hand]
 obtain ⟨n,Lh,Kg,hn3⟩:=dz (z:=IntKind.wrap .i64 (2 ^ j)) (u:=2 ^ j) (by
  have h3:(2:Int) ^ j<2 ^ 64:=Int.pow_lt_pow_of_lt (by decide) WS
  rw [← M4] at h3
  have:=EX j
  rw [Km]
  split <;> omega)
 have hnj:n=j+1:=by
  have hp:=EX j
  rcases hn3 with ⟨h,_⟩ | ⟨h1,h2,h3⟩
  ·omega
  ·have h4:n-1≤j:=by
    rcases Nat.lt_or_ge j (n-1) with h | h
    ·exfalso
     have:(2:Int) ^ j<2 ^ (n-1):=Int.pow_lt_pow_of_lt (by decide) h
     omega
    ·exact h
   have h5:j<n:=by
    rcases Nat.lt_or_ge j n with h | h
    ·exact h
    ·exfalso
     have:(2:Int) ^ n≤2 ^ j:=by exact_mod_cast Nat.pow_le_pow_right (n:=2) (by omega) h
     omega
   omega
 rw [Lh,Ad,hnj]
 refine ⟨(j:Int),?_, .inr ⟨j,rfl,?_,WS,?_,fun k h1 h2=>?_⟩⟩
 ·rw [Dn (by omega)]
  congr 1
  omega
 ·have h1:=K0 j WS
  rw [hm,LF,hj] at h1
  have:=Bool.and_eq_true_iff.1 h1.symm
  exact Ak this.1
 ·have h1:=K0 j WS
  rw [hm,LF,hj] at h1
  exact (Bool.and_eq_true_iff.1 h1.symm).2
 ·have h3:=K0 k (by omega)
  rw [hm,LF,Nl k h2,Af h1,AB] at h3
  exact h3.symm
end Go.AM.Pure
end

section
/- Words of places: which places they have, how many, how many below one. -/
namespace Go.AM.Pure
open Go.AM
def K8 (w:Int) (b:Nat):List Int:=((List.range' b (64-b)).filter fun k=>bit w k).map fun (k:Nat)=>(k:Int)
theorem Zd2 (w:Int) {b:Nat} (h:64≤b):K8 w b=[]:=by
 unfold K8
 rw [show 64-b=0 by omega]
 rfl
theorem p8 (w:Int) {b:Nat} (h:b<64):K8 w b=(if bit w b then [(b:Int)] else [])++K8 w (b+1):=by
 unfold K8
 rw [show 64-b=(64-(b+1))+1 by omega,List.range'_succ,List.filter_cons]
 split <;> simp
theorem p9 (w:Int):∀ (d b j:Nat),d=j-b→b≤j→j≤64→(∀ k,b≤k→k<j→bit w k=false)→K8 w b=K8 w j:=by
 intro d
 induction d with
 | zero=>intro b j hd h _ _;rw [show b=j by omega]
 | succ d ih=>
  intro b j hd h B1 hz
  rw [p8 w (by omega),hz b (Ah _) (by omega)]
  exact ih (b+1) j (by omega) (by omega) B1 fun k h1 h2=>hz k (by omega) h2
theorem Zwm (w:Int):∀ (n b:Nat),b≤64→64-b<n→Fk n w (b:Int)=some (K8 w b):=by
 intro n
 induction n with
 | zero=>intro b _ h;omega
 | succ n ih=>
  intro b hb hn
  unfold Fk
  obtain ⟨c,hc,h⟩:=Yyi w b
  rw [hc,Ad]
  rcases h with ⟨rfl,hz⟩ | ⟨j,rfl,h1,h2,h3,h4⟩
  ·rw [Bl (by omega),Aa,p9 w (64-b) b 64 rfl hb (Ah _) fun k h1 h2=>hz k h1 h2,Zd2 w (Ah _)]
  ·rw [AZ (by omega),Ac,Bl (by omega),Aa,show ((j:Int)+1)=((j+1:Nat):Int) by omega,ih (j+1) (by omega) (by omega),Ad]
   rw [p9 w (j-b) b j rfl h1 (by omega) h4,p8 w h2,h3]
   rfl
def LW:Nat→List Int→List Int
 | _,[]=>[]
 | k,w :: ws=>(K8 w 0).map (fun b=>64*(k:Int)+b)++LW (k+1) ws
theorem dP:∀ (ws:List Int) (k:Nat),LD (k:Int) ws=some (LW k ws)
 | [],_=>rfl
 | w :: ws,k=>by
  show (Fk 70 w ((0:Nat):Int)).bind _=_
  rw [Zwm w 70 0 (by omega) (by omega),Ad,show ((k:Int)+1)=((k+1:Nat):Int) by omega,dP ws (k+1),Ad]
  rfl
abbrev Ir (l:List Nat):List Int:=l.map fun (k:Nat)=>(k:Int)
theorem yx (Q:Nat→Bool):∀ (ws:List Int) (k:Nat),(∀ (i:Nat) (h:i<ws.length) (b:Nat),b<64→bit ws[i] b=Q (64*(k+i)+b))→LW k ws=Ir ((List.range' (64*k) (64*ws.length)).filter Q)
 | [],_,_=>rfl
 | w :: ws,k,h=>by
  have ih:=yx Q ws (k+1) fun i hi b hb=>by
   have:=h (i+1) (by simpa using hi) b hb
   rw [List.getElem_cons_succ] at this
   rw [this]
   congr 1
   omega
  unfold LW
  rw [ih,Aj,show 64*(ws.length+1)=64+64*ws.length by omega,show List.range' (64*k) (64+64*ws.length)=List.range' (64*k) 64++List.range' (64*(k+1)) (64*ws.length) by
   rw [show 64*(k+1)=64*k+64 by omega,List.range'_append_1],List.filter_append,Ir,Ir,AE]
  congr 1
  unfold K8
  have hr:List.range' (64*k) 64=(List.range' 0 64).map (64*k + ·):=by rw [List.map_add_range'];rfl
  rw [hr,List.filter_map,List.map_map,List.map_map]
  have hf:(List.range' 0 (64-0)).filter (fun k=>bit w k)=(List.range' 0 64).filter (Q ∘ (64*k + ·)):=by
   apply List.filter_congr
   intro b hb
   have Ff:b<64:=by simpa [List.mem_range'] using hb
   have:=h 0 (by simp) b Ff
   rw [List.getElem_cons_zero] at this
   rw [this]
   rfl
  rw [hf]
  apply List.map_congr_left
  intro b _
  simp
def cb (w:Int) (k:Nat):Nat:=((List.range k).filter fun j=>bit w j).length
theorem KQ (w:Int) (k:Nat):cb w (k+1)=cb w k+(if bit w k then 1 else 0):=by
 unfold cb
 rw [List.range_succ,List.filter_append,Ae]
 cases h:bit w k <;> simp [h]
theorem VD (w:Int):∀ k,cb w k≤k
 | 0=>Ah _
 | k+1=>by rw [KQ];have:=VD w k;split <;> omega
theorem Yhq (w:Int):(K8 w 0).length=cb w 64:=by
 unfold K8 cb
 rw [Ai,List.range_eq_range']
theorem rJ {x y:Int}:∀ {k:Nat},(∀ j,j<k→bit x j=bit y j)→cb x k=cb y k
 | 0,_=>rfl
 | k+1,h=>by rw [KQ,KQ,rJ (k:=k) fun j hj=>h j (by omega),h k (by omega)]
theorem yy {x y:Int} {m:Nat}:∀ {k:Nat},(∀ j,j<k→bit x j=(bit y j && decide (j<m)))→cb x k=cb y (min k m)
 | 0,_=>by simp [cb]
 | k+1,h=>by
  rw [KQ,yy (k:=k) fun j hj=>h j (by omega),h k (by omega)]
  by_cases hk:k<m
  ·rw [show min (k+1) m=min k m+1 by omega,KQ,show min k m=k by omega,Af hk,Bool.and_true]
  ·rw [show min (k+1) m=min k m by omega,An hk,Bool.and_false]
   rfl
theorem Yex {x:Int}:BL .u64 x 15=x % 16:=by
 have h:=fg (u:=x % 18446744073709551616) (by omega) (by omega) (k:=4) (by omega)
 have h2:BL .u64 x 15=BL .u64 (x % 18446744073709551616) (IntKind.wrap .u64 (2 ^ 4-1)):=by
  unfold BL
  show IntKind.wrap .u64 ((BitVec.ofInt 64 x &&& BitVec.ofInt 64 15).toNat:Int)=IntKind.wrap .u64 ((BitVec.ofInt 64 (x % 18446744073709551616) &&& BitVec.ofInt 64 15).toNat:Int)
  congr 4
  apply BitVec.eq_of_toNat_eq
  have e1:=Rl x
  have e2:=Rl (x % 18446744073709551616)
  omega
 rw [h2,h]
 omega
theorem Yfx (x:Int) {j:Nat} (hj:j<4):bit x j=bit (x % 16) j:=by
 have h:=mod_pow_succ x j
 unfold bit
 rcases (show j=0∨j=1∨j=2∨j=3 by omega) with rfl | rfl | rfl | rfl <;> (congr 1;omega)
theorem Yzi (x:Int):Fx x=some (cb x 4:Int):=by
 have hc:cb x 4=cb (x % 16) 4:=rJ fun j hj=>Yfx x hj
 rw [hc]
 unfold Fx Fx.S
 rw [Yex]
 obtain ⟨r,hr⟩:∃ r,x % 16=r:=⟨_,rfl⟩
 rw [hr]
 rcases (show r=0∨r=1∨r=2∨r=3∨r=4∨r=5∨r=6∨r=7∨r=8∨r=9∨r=10∨r=11∨r=12∨r=13∨r=14∨r=15 by omega) with rfl | rfl | rfl | rfl | rfl | rfl | rfl | rfl | rfl | rfl | rfl | rfl | rfl | rfl | rfl | rfl <;> rfl
theorem Zwr (w:Int):∀ (d k n:Nat),d=16-k→k≤16→d<n→Gk.l0 n w (cb w (4*k):Int) (k:Int)=some (cb w 64:Int):=by
 intro d
 induction d with
 | zero=>
  intro k n hd hk hn
  obtain ⟨n,rfl⟩:∃ m,n=m+1:=⟨n-1,by omega⟩
  have:k=16:=by omega
  subst this
  show Gk.S0 _ _ _ _=_
  unfold Gk.S0
  rw [AZ (by omega),Ac]
 | succ d ih=>
  intro k n hd hk hn
  obtain ⟨n,rfl⟩:∃ m,n=m+1:=⟨n-1,by omega⟩
  show Gk.S0 _ _ _ _=_
  unfold Gk.S0
  rw [Bl (by omega),Aa,Jg (by omega),Cq (by omega),Aa,show (4*(k:Int))=((4*k:Nat):Int) by omega,Mp _ _ (by omega),Yzi,Ad]
  have hb:∀ j,j<4→bit (IntKind.wrap .u64 w / 2 ^ (4*k)) j=bit w (4*k+j):=fun j hj=>by rw [Qc,Jc _ (by omega)]
  have hs:cb w (4*(k+1))=cb w (4*k)+cb (IntKind.wrap .u64 w / 2 ^ (4*k)) 4:=by
   rw [show 4*(k+1)=4*k+1+1+1+1 by omega,KQ,KQ,KQ,KQ]
   rw [KQ,KQ,KQ,KQ,hb 0 (by omega),hb 1 (by omega),hb 2 (by omega),hb 3 (by omega)]
   show _=cb w (4*k)+(0+_+_+_+_)
   simp only [Nat.add_zero,Nat.add_assoc]
   omega
  have h1:=VD w (4*k)
  have h2:=VD (IntKind.wrap .u64 w / 2 ^ (4*k)) 4
  rw [Bj (by omega),Bj (by omega),show ((cb w (4*k):Int)+(cb (IntKind.wrap .u64 w / 2 ^ (4*k)) 4:Int))=((cb w (4*(k+1)):Nat):Int) by rw [hs];omega,show ((k:Int)+1)=((k+1:Nat):Int) by omega]
  exact ih (k+1) n (by omega) (by omega) (by omega)
theorem fQ (w:Int):Gk w=some (cb w 64:Int):=Zwr w 16 0 fu rfl (by omega) (by unfold fu;omega)
def Kb:List Int→Nat
 | []=>0
 | w :: ws=>cb w 64+Kb ws
theorem rK:∀ (a b:List Int),Kb (a++b)=Kb a+Kb b
 | [],b=>by simp [Kb]
 | x :: a,b=>by simp [Kb,rK a b];omega
theorem tN:∀ (l:List Int),Kb l≤64*l.length
 | []=>Ah _
 | x :: a=>by simp only [Kb,Aj];have:=tN a;have:=VD x 64;omega
theorem rL:∀ (ws:List Int) (k:Nat),(LW k ws).length=Kb ws
 | [],_=>rfl
 | w :: ws,k=>by
  unfold LW Kb
  rw [Ae,Ai,Yhq,rL ws (k+1)]
theorem Zxm (ws:List Int) (hl:ws.length≤65536):∀ (d i n:Nat),d=ws.length-i→i≤ws.length→d<n→Gh.l0 n (Kb (ws.take i):Int) ws (ws.length:Int) (i:Int)=some (Kb ws:Int):=by
 intro d
 induction d with
 | zero=>
  intro i n hd hi hn
  obtain ⟨n,rfl⟩:∃ m,n=m+1:=⟨n-1,by omega⟩
  have:i=ws.length:=by omega
  subst this
  show Gh.S0 _ _ _ _ _=_
  unfold Gh.S0
  rw [AZ (by omega),Ac,Ar]
 | succ d ih=>
  intro i n hd hi hn
  obtain ⟨n,rfl⟩:∃ m,n=m+1:=⟨n-1,by omega⟩
  have AO:i<ws.length:=by omega
  show Gh.S0 _ _ _ _ _=_
  unfold Gh.S0
  have hs:Kb (ws.take (i+1))=Kb (ws.take i)+cb ws[i] 64:=by rw [take_one AO,rK];rfl
  have h1:=tN (ws.take (i+1))
  rw [Ag] at h1
  rw [Bl (by omega),Aa,Bf (by rw [AW];omega),Aa,Bz AO,fQ,Ad,Bj (by omega),Bj (by omega),show ((Kb (ws.take i):Int)+(cb ws[i] 64:Int))=((Kb (ws.take (i+1)):Nat):Int) by rw [hs];omega,show ((i:Int)+1)=((i+1:Nat):Int) by omega]
  exact ih (i+1) n (by omega) (by omega) (by omega)
theorem Zrr {ws:List Int} (h:Lx ws=some true) (hl:ws.length≤65536):Gh ws=some ((LW 0 ws).length:Int):=by
 unfold Gh Gh.S
 rw [h,Ad,Aa,rL]
 exact Zxm ws hl ws.length 0 fu rfl (by omega) (by unfold fu;omega)
theorem Zxr (w m:Int) (hm:1≤m):∃ y,Yo w 0 m=some y∧∀ j:Nat,j<64→bit y j=(bit w j && decide ((j:Int)<m)):=by
 obtain ⟨z,hz,hb⟩:=qa m hm
 unfold Yo
 rw [show MR 0 m=true from by
  unfold MR
  rw [Cq (by omega),Aa,Bl (by omega),Aa,Cq hm],Bool.not_true,Ac,Cq (by omega),Aa,hz,Ad]
 refine ⟨_,rfl,fun j hj=>?_⟩
 have e:bit (BL .i64 (IntKind.wrap .i64 (BH .u64 (IntKind.wrap .u64 w) 0)) z) j=(bit (IntKind.wrap .i64 (BH .u64 (IntKind.wrap .u64 w) 0)) j && bit z j):=by
  unfold BL
  show bit (IntKind.wrap .i64 ((BitVec.ofInt 64 _ &&& BitVec.ofInt 64 z).toNat:Int)) j=_
  rw [Rr _ hj,LF,BitVec.toNat_and,Nat.testBit_and,Mb _ hj,Mb _ hj]
 rw [e,hb j hj,Rr _ hj]
 have:=Mp (IntKind.wrap .u64 w) 0 (by omega)
 rw [show ((0:Nat):Int)=0 from rfl] at this
 rw [this,Qc,Au,Jc _ hj]
theorem Zno (w:Int) (k at_:Nat):(((K8 w 0).map (fun b=>64*(k:Int)+b)).filter fun p=>decide (p<(at_:Int))).length=cb w (min 64 (at_-64*k)):=by
 rw [List.filter_map,Ai]
 unfold K8
 rw [List.filter_map,Ai,List.filter_filter]
 have:∀ n,n≤64→((List.range' 0 n).filter fun a=>(((fun p=>decide (p<(at_:Int))) ∘ fun b=>64*(k:Int)+b) ∘ fun (k:Nat)=>(k:Int)) a && bit w a).length=cb w (min n (at_-64*k)):=by
  intro n
  induction n with
  | zero=>intro _;simp [cb]
  | succ n ih=>
   intro hn
   rw [List.range'_1_concat,List.filter_append,Ae,ih (by omega),Au]
   by_cases h:n<at_-64*k
   ·rw [show min (n+1) (at_-64*k)=n+1 by omega,show min n (at_-64*k)=n by omega,KQ]
    have hd:decide (64*(k:Int)+(n:Int)<(at_:Int))=true:=Af (by omega)
    cases hb:bit w n <;> simp [hb,hd]
   ·rw [show min (n+1) (at_-64*k)=min n (at_-64*k) by omega]
    have hd:decide (64*(k:Int)+(n:Int)<(at_:Int))=false:=An (by omega)
    simp [hd]
 exact this 64 (Ah _)
def Gn (at_:Nat):Nat→List Int→Nat
 | _,[]=>0
 | k,w :: ws=>cb w (min 64 (at_-64*k))+Gn at_ (k+1) ws
theorem pq (at_:Nat):∀ (ws:List Int) (k:Nat),((LW k ws).filter fun p=>decide (p<(at_:Int))).length=Gn at_ k ws
 | [],_=>rfl
 | w :: ws,k=>by
  unfold LW Gn
  rw [List.filter_append,Ae,Zno,pq at_ ws (k+1)]
theorem pr (at_:Nat):∀ (a b:List Int) (k:Nat),Gn at_ k (a++b)=Gn at_ k a+Gn at_ (k+a.length) b
 | [],b,k=>by simp [Gn]
 | x :: a,b,k=>by
  simp only [List.cons_append,Gn,Aj]
  rw [pr at_ a b (k+1),show k+(a.length+1)=k+1+a.length by omega]
  omega
theorem qb (at_:Nat):∀ (l:List Int) (k:Nat),Gn at_ k l≤64*l.length
 | [],_=>Ah _
 | x :: a,k=>by simp only [Gn,Aj];have:=qb at_ a (k+1);have:=VD x (min 64 (at_-64*k));omega
theorem Zoo (ws:List Int) (hl:ws.length≤65536) (at_:Nat):∀ (d i n:Nat),d=ws.length-i→i≤ws.length→d<n→F0.l0 n (at_:Int) (Gn at_ 0 (ws.take i):Int) ws (ws.length:Int) (i:Int)=some (Gn at_ 0 ws:Int):=by
 intro d
 induction d with
 | zero=>
  intro i n hd hi hn
  obtain ⟨n,rfl⟩:∃ m,n=m+1:=⟨n-1,by omega⟩
  have:i=ws.length:=by omega
  subst this
  show F0.S0 _ _ _ _ _ _=_
  unfold F0.S0
  rw [AZ (by omega),Ac,Ar]
 | succ d ih=>
  intro i n hd hi hn
  obtain ⟨n,rfl⟩:∃ m,n=m+1:=⟨n-1,by omega⟩
  have AO:i<ws.length:=by omega
  have hs:Gn at_ 0 (ws.take (i+1))=Gn at_ 0 (ws.take i)+cb ws[i] (min 64 (at_-64*i)):=by
   rw [take_one AO,pr,Ag,show 0+min i ws.length=i by omega]
   rfl
  have h1:=qb at_ (ws.take (i+1)) 0
  rw [Ag] at h1
  have fin:F0.l0 n (at_:Int) ((Gn at_ 0 (ws.take (i+1)):Nat):Int) ws (ws.length:Int) (AQ .i64 (i:Int) 1)=some (Gn at_ 0 ws:Int):=by
   rw [Bj (by omega),show ((i:Int)+1)=((i+1:Nat):Int) by omega]
   exact ih (i+1) n (by omega) (by omega) (by omega)
  show F0.S0 _ _ _ _ _ _=_
  unfold F0.S0
  rw [Bl (by omega),Aa,Bf (by rw [AW];omega),Aa,Bz AO,Jg (by omega),Bj (by omega)]
  by_cases h:64*(i:Int)+64≤(at_:Int)
  ·rw [Cq h,Aa,fQ,Ad]
   rw [show min 64 (at_-64*i)=64 by omega] at hs
   rw [Bj (a:=(Gn at_ 0 (ws.take i):Int)) (by omega),show ((Gn at_ 0 (ws.take i):Int)+(cb ws[i] 64:Int))=((Gn at_ 0 (ws.take (i+1)):Nat):Int) by rw [hs];omega]
   exact fin
  ·rw [GM (by omega),Ac]
   by_cases h2:64*(i:Int)<(at_:Int)
   ·rw [Bl h2,Aa,Dn (by omega)]
    obtain ⟨y,hy,hb⟩:=Zxr ws[i] ((at_:Int)-64*(i:Int)) (by omega)
    have hc:cb y 64=cb ws[i] (min 64 (at_-64*i)):=yy fun j hj=>by
     rw [hb j hj]
     congr 2
     exact propext ⟨fun h=>by omega,fun h=>by omega⟩
    rw [hy,Ad,fQ,Ad,hc]
    rw [Bj (a:=(Gn at_ 0 (ws.take i):Int)) (by omega),show ((Gn at_ 0 (ws.take i):Int)+(cb ws[i] (min 64 (at_-64*i)):Int))=((Gn at_ 0 (ws.take (i+1)):Nat):Int) by rw [hs];omega]
    exact fin
   ·rw [AZ (by omega),Ac]
    rw [show min 64 (at_-64*i)=0 by omega] at hs
    replace hs:Gn at_ 0 (List.take (i+1) ws)=Gn at_ 0 (List.take i ws):=hs
    rw [← hs]
    exact fin
theorem Zz1 {ws:List Int} (h:Lx ws=some true) (hl:ws.length≤65536) (at_:Nat):F0 ws (at_:Int)=some (((LW 0 ws).filter fun p=>decide (p<(at_:Int))).length:Int):=by
 unfold F0 F0.S
 rw [h,Ad,Bool.not_true,Ac,pq]
 cases at_ with
 | zero=>
  have:∀ (ws:List Int) (k:Nat),Gn 0 k ws=0:=by
   intro ws
   induction ws with
   | nil=>intro k;rfl
   | cons w ws ih=>intro k;unfold Gn;rw [ih,show min 64 (0-64*k)=0 by omega];rfl
  rw [Cq (by omega),Aa,this]
  rfl
 | succ a=>
  rw [GM (by omega),Ac]
  exact Zoo ws hl (a+1) ws.length 0 fu rfl (by omega) (by unfold fu;omega)
end Go.AM.Pure
end

section
/- Spans that may be, and their places. -/
namespace Go.AM.Pure
open Go.AM
def C3:Int→List (Int×Int)→Prop
 | _,[]=>True
 | a,s :: l=>a<s.1∧s.1<s.2∧s.2≤65536∧C3 s.2 l
instance decMay18:∀ (a:Int) (l:List (Int×Int)),Decidable (C3 a l)
 | _,[]=>isTrue trivial
 | a,s :: l=>by
  unfold C3
  have:=decMay18 s.2 l
  exact inferInstance
theorem C3.mem {s:Int×Int}:∀ {a:Int} {l:List (Int×Int)},C3 a l→s∈l→a<s.1∧s.1<s.2∧s.2≤65536
 | a,u :: l,⟨h1,h2,h3,h4⟩,h=>by
  rcases List.mem_cons.1 h with rfl | h
  ·exact ⟨h1,h2,h3⟩
  ·have:=C3.mem h4 h
   omega
theorem Zb2 (l:List (Int×Int)) (hl:l.length≤4294967296):∀ (d i n:Nat) (a:Int),d=l.length-i→i≤l.length→d<n→FB.l0 n a l (l.length:Int) (i:Int)=some (decide (C3 a (l.drop i))):=by
 intro d
 induction d with
 | zero=>
  intro i n a hd hi hn
  obtain ⟨n,rfl⟩:∃ m,n=m+1:=⟨n-1,by omega⟩
  have:i=l.length:=by omega
  subst this
  show FB.S0 _ _ _ _ _=_
  unfold FB.S0
  rw [AZ (by omega),Ac,List.drop_length]
  rfl
 | succ d ih=>
  intro i n a hd hi hn
  obtain ⟨n,rfl⟩:∃ m,n=m+1:=⟨n-1,by omega⟩
  have AO:i<l.length:=by omega
  show FB.S0 _ _ _ _ _=_
  unfold FB.S0
  have hM:C3 a (l.drop i)↔a<l[i].1∧l[i].1<l[i].2∧l[i].2≤65536∧C3 l[i].2 (l.drop (i+1)):=by rw [List.drop_eq_getElem_cons AO];exact Iff.rfl
  rw [Bl (by omega),Aa,Bf (by rw [AW];omega),Aa,Bz AO]
  by_cases h1:l[i].1≤a
  ·rw [Cq h1,Aa,An (fun h=>by have:=(hM.1 h).1;omega)]
  rw [GM (by omega),Ac]
  by_cases h2:l[i].2≤l[i].1
  ·rw [Cq h2,Aa,An (fun h=>by have:=(hM.1 h).2.1;omega)]
  rw [GM (by omega),Ac]
  by_cases h3:65536<l[i].2
  ·rw [Bl h3,Aa,An (fun h=>by have:=(hM.1 h).2.2.1;omega)]
  rw [AZ (by omega),Ac,Bj (by omega),show ((i:Int)+1)=((i+1:Nat):Int) by omega,ih (i+1) n _ (by omega) (by omega) (by omega)]
  congr 1
  exact decide_eq_decide.2 (by rw [hM];exact ⟨fun h=>⟨by omega,by omega,by omega,h⟩,fun h=>h.2.2.2⟩)
theorem Ra (l:List (Int×Int)) (hl:l.length≤4294967296):FB l=some (decide (C3 (-1) l)):=
 Zb2 l hl l.length 0 fu (-1) rfl (by omega) (by unfold fu;omega)
theorem Zur (l:List (Int×Int)) (hl:l.length≤4294967296):∀ (d i n:Nat) (a:Int),d=l.length-i→i≤l.length→d<n→ -1≤a→(i=0→a = -1)→(∀ (h:i-1<l.length),0<i→a=l[i-1].2)→Gi.l0 n l (i:Int)=some (decide (C3 a (l.drop i))):=by
 intro d
 induction d with
 | zero=>
  intro i n a hd hi hn IT h0 ha
  obtain ⟨n,rfl⟩:∃ m,n=m+1:=⟨n-1,by omega⟩
  have:i=l.length:=by omega
  subst this
  show Gi.S0 _ _ _=_
  unfold Gi.S0
  rw [AW,AZ (by omega),Ac,List.drop_length]
  rfl
 | succ d ih=>
  intro i n a hd hi hn IT h0 ha
  obtain ⟨n,rfl⟩:∃ m,n=m+1:=⟨n-1,by omega⟩
  have AO:i<l.length:=by omega
  show Gi.S0 _ _ _=_
  unfold Gi.S0
  have hM:C3 a (l.drop i)↔a<l[i].1∧l[i].1<l[i].2∧l[i].2≤65536∧C3 l[i].2 (l.drop (i+1)):=by rw [List.drop_eq_getElem_cons AO];exact Iff.rfl
  have hb:AX (i:Int) (l.length:Int)=true:=Bf (by omega)
  rw [AW,Bl (by omega),Aa,hb,Aa,Aa,Aa,Aa,Bz AO]
  by_cases h1:l[i].1<0
  ·rw [Bl h1,Aa,An (fun h=>by have:=(hM.1 h).1;omega)]
  rw [AZ (by omega),Ac]
  by_cases h2:l[i].2≤l[i].1
  ·rw [Cq h2,Aa,An (fun h=>by have:=(hM.1 h).2.1;omega)]
  rw [GM (by omega),Ac]
  by_cases h3:65536<l[i].2
  ·rw [Bl h3,Aa,An (fun h=>by have:=(hM.1 h).2.2.1;omega)]
  rw [AZ (by omega),Ac]
  have fin:a<l[i].1→Gi.l0 n l (AQ .i64 (i:Int) 1)=some (decide (C3 a (l.drop i))):=fun h4=>by
   rw [Bj (by omega),show ((i:Int)+1)=((i+1:Nat):Int) by omega,ih (i+1) n l[i].2 (by omega) (by omega) (by omega) (by omega) (by omega) (fun _ _=>rfl)]
   congr 1
   exact decide_eq_decide.2 (by rw [hM];exact ⟨fun h=>⟨h4,by omega,by omega,h⟩,fun h=>h.2.2.2⟩)
  by_cases h4:i=0
  ·rw [AZ (by omega),Ac]
   exact fin (by have:=h0 h4;omega)
  have hp:=ha (by omega) (by omega)
  rw [Bl (by omega),Aa,Aa,Dn (by omega),show ((i:Int)-1)=((i-1:Nat):Int) by omega,Bf (by omega),Aa,Bz (show i-1<l.length by omega)]
  by_cases h5:l[i].1≤l[i-1].2
  ·rw [Cq h5,Aa,An (fun h=>by have:=(hM.1 h).1;omega)]
  ·rw [GM (by omega),Ac]
   exact fin (by omega)
theorem oz (l:List (Int×Int)) (hl:l.length≤4294967296):Gi l=some (decide (C3 (-1) l)):=
 Zur l hl l.length 0 fu (-1) rfl (by omega) (by unfold fu;omega) (Int.le_refl _) (fun _=>rfl) (fun _ h=>by omega)
def IS (l:List (Int×Int)) (p:Nat):Bool:=l.any fun s=>decide (s.1≤(p:Int)) && decide ((p:Int)<s.2)
theorem Zml (s:Int×Int) (l:List (Int×Int)):BF (s :: l)=Ir (List.range' s.1.toNat (s.2-s.1).toNat)++BF l∨s.1<0:=by
 by_cases h:s.1<0
 ·exact .inr h
 ·left
  unfold BF
  rw [List.flatMap_cons]
  congr 1
  rw [List.range'_eq_map_range,Ir,List.map_map]
  apply List.map_congr_left
  intro k _
  show _=((s.1.toNat+k:Nat):Int)
  omega
theorem Zc2 {a:Int} {l:List (Int×Int)} (h:C3 a l) {p:Nat} (hp:(p:Int)≤a):IS l p=false:=by
 unfold IS
 rw [List.any_eq_false]
 intro s hs
 have:=h.mem hs
 rw [An (show ¬ s.1≤(p:Int) by omega)]
 simp
theorem Yn:∀ (l:List (Int×Int)) (a:Int) (m N:Nat),C3 a l→ -1≤a→(m:Int)≤a+1→(∀ s∈l,s.2≤(N:Int))→BF l=Ir ((List.range' m (N-m)).filter (IS l))
 | [],a,m,N,_,_,_,_=>by
  rw [List.filter_eq_nil_iff.2 (fun p _=>by simp [IS])]
  rfl
 | s :: l,a,m,N,hM,ha,hm,hN=>by
  obtain ⟨h1,h2,h3,h4⟩:=hM
  have hs:=hN s (Av ..)
  rcases Zml s l with e | e
  ·rw [e,Yn l s.2 s.2.toNat N h4 (by omega) (by omega) fun u hu=>hN u (Az _ hu)]
   have KR:List.range' m (N-m)=List.range' m (s.1.toNat-m)++(List.range' s.1.toNat (s.2-s.1).toNat++List.range' s.2.toNat (N-s.2.toNat)):=by
    have e1:=List.range'_append_1 (s:=m) (m:=s.1.toNat-m) (n:=(s.2-s.1).toNat+(N-s.2.toNat))
    have e2:=List.range'_append_1 (s:=s.1.toNat) (m:=(s.2-s.1).toNat) (n:=N-s.2.toNat)
    rw [show m+(s.1.toNat-m)=s.1.toNat by omega] at e1
    rw [show s.1.toNat+(s.2-s.1).toNat=s.2.toNat by omega] at e2
    rw [e2,e1]
    congr 1
    omega
   rw [KR,List.filter_append,List.filter_append,Ir,Ir,Ir,AE,AE]
   have f1:(List.range' m (s.1.toNat-m)).filter (IS (s :: l))=[]:=List.filter_eq_nil_iff.2 fun p hp=>by
    have Nn:=List.mem_range'_1.1 hp
    rw [Zc2 (a:=s.1-1) (l:=s :: l) ⟨by omega,h2,h3,h4⟩ (by omega)]
    simp
   have f2:(List.range' s.1.toNat (s.2-s.1).toNat).filter (IS (s :: l))=List.range' s.1.toNat (s.2-s.1).toNat:=List.filter_eq_self.2 fun p hp=>by
    have Nn:=List.mem_range'_1.1 hp
    unfold IS
    rw [List.any_cons,Af (by omega),Af (by omega)]
    rfl
   have f3:(List.range' s.2.toNat (N-s.2.toNat)).filter (IS (s :: l))=(List.range' s.2.toNat (N-s.2.toNat)).filter (IS l):=List.filter_congr fun p hp=>by
    have Nn:=List.mem_range'_1.1 hp
    unfold IS
    rw [List.any_cons,An (show ¬ (p:Int)<s.2 by omega),Bool.and_false,Bool.false_or]
   rw [f1,f2,f3]
   rfl
  ·omega
def Ku:List (Int×Int)→Int
 | []=>0
 | [s]=>s.2
 | _ :: s :: l=>Ku (s :: l)
theorem Rq (l:List (Int×Int)) (h:0<l.length):Ku l=l[l.length-1].2:=by
 induction l with
 | nil=>simp at h
 | cons s l ih=>
  cases l with
  | nil=>rfl
  | cons u l=>
   rw [Ku,ih (by simp)]
   rfl
theorem im:∀ {a:Int} {l:List (Int×Int)},C3 a l→∀ s∈l,s.2≤Ku l
 | _,[s],_,u,hu=>by
  rcases List.mem_singleton.1 hu with rfl
  exact Int.le_refl _
 | a,s :: u :: l,⟨h1,h2,h3,h4⟩,v,hv=>by
  have ih:=im h4
  rcases List.mem_cons.1 hv with rfl | hv
  ·have:=ih u (Av ..)
   have:=h4.1
   have:=h4.2.1
   rw [Ku]
   omega
  ·rw [Ku];exact ih v hv
theorem U1 {a:Int} {l:List (Int×Int)} (h:C3 a l) (ha: -1≤a):0≤Ku l∧Ku l≤65536:=by
 rcases Nat.eq_zero_or_pos l.length with h0 | h0
 ·rw [AI h0];exact ⟨Int.le_refl _,by decide⟩
 ·rw [Rq l h0]
  have:=h.mem (Aq (show l.length-1<l.length by omega))
  omega
theorem Zjl (l:List (Int×Int)) (hl:l.length≤4294967296):Yu l=some (Ku l):=by
 unfold Yu
 rw [AW]
 by_cases h:l.length=0
 ·rw [B0 (by omega),Aa,AI h];rfl
 ·rw [BU (by omega),Ac,Dn (by omega),show ((l.length:Int)-1)=((l.length-1:Nat):Int) by omega,Bf (by omega),Aa,Bz (by omega),Rq l (by omega)]
theorem L4 (a b:List (Int×Int)):BF (a++b)=BF a++BF b:=by unfold BF;rw [List.flatMap_append]
theorem dI (s:Int×Int):(BF [s]).length=(s.2-s.1).toNat:=by unfold BF;simp
theorem OA {l:List (Int×Int)} (h:C3 (-1) l):(BF l).length≤65536:=by
 rw [Yn l (-1) 0 65536 h (Int.le_refl _) (by omega) (fun s hs=>(h.mem hs).2.2),Ai]
 refine Nat.le_trans (List.length_filter_le _ _) ?_
 simp
theorem UE (l:List (Int×Int)) (i:Nat):(BF (l.take i)).length≤(BF l).length:=by
 conv=>rhs;rw [← List.take_append_drop i l]
 rw [L4,Ae]
 omega
theorem Zum (l:List (Int×Int)) (hM:C3 (-1) l) (hl:l.length≤4294967296):∀ (d i n:Nat),d=l.length-i→i≤l.length→d<n→Fw.l0 n ((BF (l.take i)).length:Int) l (l.length:Int) (i:Int)=some ((BF l).length:Int):=by
 intro d
 induction d with
 | zero=>
  intro i n hd hi hn
  obtain ⟨n,rfl⟩:∃ m,n=m+1:=⟨n-1,by omega⟩
  have:i=l.length:=by omega
  subst this
  show Fw.S0 _ _ _ _ _=_
  unfold Fw.S0
  rw [AZ (by omega),Ac,Ar]
 | succ d ih=>
  intro i n hd hi hn
  obtain ⟨n,rfl⟩:∃ m,n=m+1:=⟨n-1,by omega⟩
  have AO:i<l.length:=by omega
  have hm:=hM.mem (Aq AO)
  have h1:=UE l (i+1)
  have h2:=OA hM
  have hs:(BF (l.take (i+1))).length=(BF (l.take i)).length+(l[i].2-l[i].1).toNat:=by rw [take_one AO,L4,Ae,dI]
  show Fw.S0 _ _ _ _ _=_
  unfold Fw.S0
  rw [Bl (by omega),Aa,Bf (by rw [AW];omega),Aa,Bz AO,Dn (by omega),Bj (by omega),Bj (by omega),show (((BF (l.take i)).length:Int)+(l[i].2-l[i].1))=(((BF (l.take (i+1))).length:Nat):Int) by rw [hs];omega,show ((i:Int)+1)=((i+1:Nat):Int) by omega]
  exact ih (i+1) n (by omega) (by omega) (by omega)
theorem dy {l:List (Int×Int)} (hM:C3 (-1) l) (hl:l.length≤4294967296):Fw l=some ((BF l).length:Int):=by
 unfold Fw Fw.S
 rw [Ra l hl,Af hM,Ad,Aa]
 exact Zum l hM hl l.length 0 fu rfl (by omega) (by unfold fu;omega)
def F8 (at_:Int) (l:List Int):Nat:=(l.filter fun p=>decide (p<at_)).length
theorem dQ (at_:Int) (a b:List Int):F8 at_ (a++b)=F8 at_ a+F8 at_ b:=by unfold F8;rw [List.filter_append,Ae]
theorem Zvr (at_:Int) (a:List Int):F8 at_ a≤a.length:=List.length_filter_le _ _
theorem Zvm (at_:Int) (s:Int×Int) (h:s.1<s.2):(F8 at_ (BF [s]):Int)=max 0 (min at_ s.2-s.1):=by
 have:∀ n:Nat,(F8 at_ ((List.range n).map fun (k:Nat)=>s.1+(k:Int)):Int)=max 0 (min (at_-s.1) (n:Int)):=by
  intro n
  induction n with
  | zero=>simp [F8];omega
  | succ n ih=>
   rw [List.range_succ,AE,dQ]
   have:F8 at_ ([n].map fun (k:Nat)=>s.1+(k:Int))=if s.1+(n:Int)<at_ then 1 else 0:=by
    unfold F8
    by_cases h:s.1+(n:Int)<at_ <;> simp [h]
   rw [this]
   split <;> omega
 unfold BF
 rw [List.flatMap_cons,List.flatMap_nil,Ay,this]
 omega
theorem Zmo (l:List (Int×Int)) (hM:C3 (-1) l) (hl:l.length≤4294967296) (at_:Int) (ha:0≤at_) (ha2:at_≤4294967296):∀ (d i n:Nat),d=l.length-i→i≤l.length→d<n→Gj.l0 n at_ (F8 at_ (BF (l.take i)):Int) l (l.length:Int) (i:Int)=some (F8 at_ (BF l):Int):=by
 intro d
 induction d with
 | zero=>
  intro i n hd hi hn
  obtain ⟨n,rfl⟩:∃ m,n=m+1:=⟨n-1,by omega⟩
  have:i=l.length:=by omega
  subst this
  show Gj.S0 _ _ _ _ _ _=_
  unfold Gj.S0
  rw [AZ (by omega),Ac,Ar]
 | succ d ih=>
  intro i n hd hi hn
  obtain ⟨n,rfl⟩:∃ m,n=m+1:=⟨n-1,by omega⟩
  have AO:i<l.length:=by omega
  have hm:=hM.mem (Aq AO)
  have h1:=UE l (i+1)
  have h2:=OA hM
  have h3:=Zvr at_ (BF (l.take (i+1)))
  have hs:F8 at_ (BF (l.take (i+1)))=F8 at_ (BF (l.take i))+F8 at_ (BF [l[i]]):=by rw [take_one AO,L4,dQ]
  have hv:=Zvm at_ l[i] hm.2.1
  have QJ:DP at_ l[i].2=min at_ l[i].2:=by unfold DP;split <;> omega
  have WR:EM 0 (min at_ l[i].2-l[i].1)=max 0 (min at_ l[i].2-l[i].1):=by unfold EM;split <;> omega
  show Gj.S0 _ _ _ _ _ _=_
  unfold Gj.S0
  rw [Bl (by omega),Aa,Bf (by rw [AW];omega),Aa,Bz AO,QJ,Dn (by omega),WR,← hv,Bj (by omega),Bj (by omega),show ((F8 at_ (BF (l.take i)):Int)+(F8 at_ (BF [l[i]]):Int))=((F8 at_ (BF (l.take (i+1))):Nat):Int) by rw [hs];omega,show ((i:Int)+1)=((i+1:Nat):Int) by omega]
  exact ih (i+1) n (by omega) (by omega) (by omega)
theorem Zkl {l:List (Int×Int)} (hM:C3 (-1) l) (hl:l.length≤4294967296) (at_:Int) (ha:0≤at_) (ha2:at_≤4294967296):Gj l at_=some (F8 at_ (BF l):Int):=by
 have WR:EM at_ 0=at_:=by
  unfold EM
  rw [if_neg (by omega)]
 unfold Gj Gj.S
 rw [Ra l hl,Af hM,Ad,Aa,WR]
 exact Zmo l hM hl at_ ha ha2 l.length 0 fu rfl (by omega) (by unfold fu;omega)
theorem Zjk (L:List (Int×Int)) (i:Nat) (s:Int×Int) (h1:s.2≤65536) (o0:List Int→List (Int×Int)→Int→Int→Option (List Int×Int)):∀ (d:Nat) (k:Int) (n:Nat) (out:List Int),d=(s.2-k).toNat→0≤k→k≤s.2→d<n→out.length+d≤1000000→
  Dv.l1 o0 n out k L (L.length:Int) (i:Int) s=o0 (out++(List.range d).map fun (j:Nat)=>k+(j:Int)) L (L.length:Int) (AQ .i64 (i:Int) 1):=by
 intro d
 induction d with
 | zero=>
  intro k n out hd h0 hk hn ho
  obtain ⟨n,rfl⟩:∃ m,n=m+1:=⟨n-1,by omega⟩
  show Dv.S1 _ _ _ _ _ _ _ _=_
  unfold Dv.S1
  rw [AZ (by omega),Ac]
  simp
 | succ d ih=>
  intro k n out hd h0 hk hn ho
  obtain ⟨n,rfl⟩:∃ m,n=m+1:=⟨n-1,by omega⟩
  show Dv.S1 _ _ _ _ _ _ _ _=_
  unfold Dv.S1
  rw [Bl (by omega),Aa,B7 (by omega),Aa,Bj (a:=k) (by omega),ih (k+1) n (out++[k]) (by omega) (by omega) (by omega) (by omega) (by simp;omega)]
  congr 1
  rw [List.range_succ_eq_map,List.map_cons,List.map_map,Al]
  congr 1
  rw [List.singleton_append]
  congr 1
  ·simp
  ·apply List.map_congr_left
   intro j _
   simp
   omega
theorem Znl (l:List (Int×Int)) (hM:C3 (-1) l) (hl:l.length≤4294967296):∀ (d i n:Nat),d=l.length-i→i≤l.length→d<n→70000+d<n→Dv.l0 n (BF (l.take i)) l (l.length:Int) (i:Int)=some (BF l,0):=by
 intro d
 induction d with
 | zero=>
  intro i n hd hi hn Kg
  obtain ⟨n,rfl⟩:∃ m,n=m+1:=⟨n-1,by omega⟩
  have:i=l.length:=by omega
  subst this
  show Dv.S0 _ _ _ _ _=_
  unfold Dv.S0
  rw [AZ (by omega),Ac,Ar]
 | succ d ih=>
  intro i n hd hi hn Kg
  obtain ⟨n,rfl⟩:∃ m,n=m+1:=⟨n-1,by omega⟩
  have AO:i<l.length:=by omega
  have hm:=hM.mem (Aq AO)
  have h1:=UE l i
  have h2:=OA hM
  show Dv.S0 _ _ _ _ _=_
  unfold Dv.S0
  rw [Bl (by omega),Aa,Bf (by rw [AW];omega),Aa,Bz AO,Zjk l i l[i] (by omega) _ (l[i].2-l[i].1).toNat l[i].1 n _ rfl (by omega) (by omega) (by omega) (by omega)]
  have hs:(BF (l.take (i+1))).length≤(BF l).length:=UE l (i+1)
  have hq:=take_one AO
  rw [Bj (by omega),show ((i:Int)+1)=((i+1:Nat):Int) by omega,show BF (l.take i)++(List.range (l[i].2-l[i].1).toNat).map (fun (j:Nat)=>l[i].1+(j:Int))=BF (l.take (i+1)) by rw [hq,L4];unfold BF;simp]
  exact ih (i+1) n (by omega) (by omega) (by omega) (by omega)
theorem nZ {l:List (Int×Int)} (hM:C3 (-1) l) (hl:l.length≤4294967296):Dv l=some (BF l,0):=by
 have h2:=OA hM
 unfold Dv Dv.S
 rw [Ra l hl,Af hM,Ad,Bool.not_true,Ac,dy hM hl,Ad,Cq (by omega),AB,show Int.toNat ((BF l).length:Int)=(BF l).length from rfl,B7 (by omega),Aa]
 exact Znl l hM hl l.length 0 fu rfl (by omega) (by unfold fu;omega) (by unfold fu;omega)
end Go.AM.Pure
end

section
/- Words of spans. -/
namespace Go.AM.Pure
open Go.AM
theorem Ydx {a:Nat} (h:a<9223372036854775808):BL .i64 (a:Int) 63=((a % 64:Nat):Int):=by
 unfold BL
 show IntKind.wrap .i64 ((BitVec.ofInt 64 (a:Int) &&& BitVec.ofInt 64 63).toNat:Int)=_
 have e1:(BitVec.ofInt 64 (a:Int)).toNat=a:=by
  have:=Rl (a:Int)
  omega
 rw [BitVec.toNat_and,e1,show (BitVec.ofInt 64 63).toNat=2 ^ 6-1 from rfl,Nat.and_two_pow_sub_one_eq_mod]
 exact Hf (by omega)
def O7 (W:List Int) (p:Nat):Bool:=bit (W.getD (p / 64) 0) (p % 64)
theorem Zlo:∀ (d lo hi n:Nat) (W:List Int),d=hi-lo→d<n→lo≤hi→hi≤64*W.length→W.length≤1024→0<W.length→
  ∃ W',Hu.l0 n (lo:Int) (hi:Int) W=some W'∧W'.length=W.length∧∀ p,p<64*W.length→O7 W' p=(O7 W p || (decide (lo≤p) && decide (p<hi))):=by
 intro d
 induction d using Nat.strongRecOn with
 | ind d ih=>
  intro lo hi n W hd hn hlh Uk hW h0
  obtain ⟨n,rfl⟩:∃ m,n=m+1:=⟨n-1,by omega⟩
  show ∃ W',Hu.S0 _ _ _ _=some W'∧_
  unfold Hu.S0
  by_cases AO:lo<hi
  ·have hq:lo / 64<W.length:=by omega
   have hg:W.getD (lo / 64) 0=W[lo / 64]:=by rw [Ax,Ap hq];rfl
   have QJ:DP (64-((lo % 64:Nat):Int)) ((hi:Int)-(lo:Int))=((min (64-lo % 64) (hi-lo):Nat):Int):=by unfold DP;split <;> omega
   obtain ⟨k,hk⟩:∃ k,min (64-lo % 64) (hi-lo)=k:=⟨_,rfl⟩
   rw [hk] at QJ
   obtain ⟨y,hy,_,hb⟩:=Zsr (W[lo / 64]) (lo % 64) (k:Int) (by omega) (by omega)
   rw [Bl (by omega),Aa,show (6:Int)=((6:Nat):Int) from rfl,NC _ _ (by omega),show ((lo:Int) / 2 ^ 6)=((lo / 64:Nat):Int) by omega,Bf (by rw [AW];omega),Aa,Ydx (by omega),Dn (by omega),Dn (by omega),QJ,show Int.toNat ((lo / 64:Nat):Int)=lo / 64 from rfl,hg,hy,Ad,Aa,Bj (by omega),show ((lo:Int)+(k:Int))=((lo+k:Nat):Int) by omega]
   obtain ⟨W',h1,h2,h3⟩:=ih (hi-(lo+k)) (by omega) (lo+k) hi n (W.set (lo / 64) y) rfl (by omega) (by omega) (by rw [List.length_set];exact Uk) (by rw [List.length_set];exact hW) (by rw [List.length_set];exact h0)
   refine ⟨W',h1,by rw [h2,List.length_set],fun p hp=>?_⟩
   rw [h3 p (by rw [List.length_set];exact hp)]
   unfold O7
   rw [Ax,Ax]
   by_cases Fe:p / 64=lo / 64
   ·rw [Fe,List.getElem?_set_self hq,Ap hq]
    show (bit y (p % 64) || _)=(bit W[lo / 64] (p % 64) || _)
    rw [hb (p % 64) (by omega),Bool.or_assoc]
    congr 1
    by_cases h4:lo≤p
    ·by_cases h5:p<lo+k
     ·rw [Af (show lo % 64≤p % 64 by omega),Af (show ((p % 64:Nat):Int)<((lo % 64:Nat):Int)+(k:Int) by omega),Af h4,Af (show p<hi by omega)]
      rfl
     ·rw [An (show ¬ ((p % 64:Nat):Int)<((lo % 64:Nat):Int)+(k:Int) by omega),Af h4,Af (show lo+k≤p by omega)]
      simp
    ·rw [An (show ¬ lo % 64≤p % 64 by omega),An h4,An (show ¬ lo+k≤p by omega)]
     rfl
   ·rw [List.getElem?_set_ne (Ne.symm Fe)]
    congr 1
    by_cases h4:lo+k≤p
    ·rw [Af h4,Af (show lo≤p by omega)]
    ·rw [An h4]
     by_cases h5:lo≤p
     ·omega
     ·rw [An h5]
  ·rw [AZ (by omega),Ac,Af h0,Aa]
   refine ⟨W,rfl,rfl,fun p hp=>?_⟩
   by_cases h4:lo≤p
   ·rw [An (show ¬ p<hi by omega)];simp
   ·rw [An h4];simp
theorem Yxi (a b:List (Int×Int)) (p:Nat):IS (a++b) p=(IS a p || IS b p):=by unfold IS;rw [List.any_append]
theorem Za2 (l:List (Int×Int)) (hM:C3 (-1) l) (hl:l.length≤4294967296) (N:Nat) (h0:0<N) (hN:N≤1024) (hT:∀ s∈l,s.2≤((64*N:Nat):Int)):∀ (d i n:Nat) (W:List Int),d=l.length-i→i≤l.length→d<n→W.length=N→(∀ p,p<64*N→O7 W p=IS (l.take i) p)→
  ∃ W',Gm.l0 n l (l.length:Int) (i:Int) W=some (W',0)∧W'.length=N∧∀ p,p<64*N→O7 W' p=IS l p:=by
 intro d
 induction d with
 | zero=>
  intro i n W hd hi hn hW hb
  obtain ⟨n,rfl⟩:∃ m,n=m+1:=⟨n-1,by omega⟩
  have:i=l.length:=by omega
  subst this
  show ∃ W',Gm.S0 _ _ _ _ _=some (W',0)∧_
  unfold Gm.S0
  rw [AZ (by omega),Ac]
  rw [Ar] at hb
  exact ⟨W,rfl,hW,hb⟩
 | succ d ih=>
  intro i n W hd hi hn hW hb
  obtain ⟨n,rfl⟩:∃ m,n=m+1:=⟨n-1,by omega⟩
  have AO:i<l.length:=by omega
  have hm:=hM.mem (Aq AO)
  have ht:=hT _ (Aq AO)
  show ∃ W',Gm.S0 _ _ _ _ _=some (W',0)∧_
  unfold Gm.S0
  obtain ⟨a,ha⟩:=Int.eq_ofNat_of_zero_le (show 0≤l[i].1 by omega)
  obtain ⟨b,E2⟩:=Int.eq_ofNat_of_zero_le (show 0≤l[i].2 by omega)
  obtain ⟨W1,h1,h2,h3⟩:=Zlo (b-a) a b fu W rfl (by unfold fu;omega) (by omega) (by omega) (by omega) (by omega)
  have hf:Hu W l[i].1 l[i].2=some W1:=by rw [ha,E2];exact h1
  rw [Bl (by omega),Aa,Bf (by rw [AW];omega),Aa,Bz AO,Rc (by rw [Af (by omega)];rfl) hf (by rw [Af h2];rfl),Ad,Bj (by omega),show ((i:Int)+1)=((i+1:Nat):Int) by omega]
  refine ih (i+1) n W1 (by omega) (by omega) (by omega) (by omega) fun p hp=>?_
  rw [h3 p (by omega),hb p hp,take_one AO,Yxi]
  congr 1
  unfold IS
  rw [List.any_cons,List.any_nil,Bool.or_false,ha,E2]
  congr 1
  ·exact decide_eq_decide.2 ⟨fun h=>by omega,fun h=>by omega⟩
  ·exact decide_eq_decide.2 ⟨fun h=>by omega,fun h=>by omega⟩
theorem Ztr {W:List Int} {Q:Nat→Bool} (h:∀ p,p<64*W.length→O7 W p=Q p):LW 0 W=Ir ((List.range' 0 (64*W.length)).filter Q):=by
 refine yx Q W 0 fun i hi b hb=>?_
 have:=h (64*i+b) (by omega)
 unfold O7 at this
 rw [show (64*i+b) / 64=i by omega,show (64*i+b) % 64=b by omega,Ax,Ap hi] at this
 rw [Au]
 exact this
theorem oK {l:List (Int×Int)} (hM:C3 (-1) l) (hl:l.length≤4294967296):∃ W,Gm l=some (W,0)∧W.length=((Ku l+63) / 64).toNat∧W.length≤1024∧Lx W=some true∧LW 0 W=BF l:=by
 unfold Gm Gm.S
 rw [Ra l hl,Af hM,Ad,Bool.not_true,Ac,AW]
 by_cases h0:l.length=0
 ·rw [B0 (by omega),Aa,AI h0]
  exact ⟨[],rfl,rfl,by simp,rfl,rfl⟩
 rw [BU (by omega),Ac,Dn (by omega),show ((l.length:Int)-1)=((l.length-1:Nat):Int) by omega,Bf (by omega),Aa,Bz (by omega),← Rq l (by omega)]
 have Xh:=U1 hM (Int.le_refl _)
 obtain ⟨T,hT⟩:=Int.eq_ofNat_of_zero_le Xh.1
 have hT0:0<T:=by
  have h1:=hM.mem (Aq (show l.length-1<l.length by omega))
  rw [← Rq l (by omega)] at h1
  omega
 obtain ⟨N,hN⟩:∃ N:Nat,(T+63) / 64=N:=⟨_,rfl⟩
 have Ds:BH .i64 (Be .i64 (AQ .i64 (Ku l) 64) 1) 6=(N:Int):=by
  rw [Bj (by omega),Dn (by omega),show (6:Int)=((6:Nat):Int) from rfl,NC _ _ (by omega),hT]
  omega
 rw [Ds,Cq (by omega),AB,show Int.toNat (N:Int)=N from rfl,B7 (by omega),Aa]
 have hNT:∀ s∈l,s.2≤((64*N:Nat):Int):=fun s hs=>by have:=im hM s hs;omega
 obtain ⟨W,h1,h2,h3⟩:=Za2 l hM hl N (by omega) (by omega) hNT l.length 0 fu (List.replicate N 0) rfl (by omega) (by unfold fu;omega) (by simp) (fun p hp=>by
  unfold O7
  rw [Ax,List.getElem?_replicate,if_pos (by omega)]
  show bit 0 (p % 64)=false
  exact Tc _)
 have hw:LW 0 W=BF l:=by
  rw [Ztr (fun p hp=>h3 p (by omega)),Yn l (-1) 0 (64*N) hM (Int.le_refl _) (by omega) hNT,h2]
  rfl
 refine ⟨W,h1,by rw [h2,hT];omega,by omega,?_,hw⟩
 unfold Lx
 rw [AW,Cq (by omega),Aa,BU (by omega),Ac,Dn (by omega),show ((W.length:Int)-1)=((W.length-1:Nat):Int) by omega,Bf (by omega),Aa,Bz (by omega)]
 congr 1
 refine Jl fun hz=>?_
 have h4:=h3 (T-1) (by omega)
 unfold O7 at h4
 rw [show (T-1) / 64=W.length-1 by omega,Ax,Ap (show W.length-1<W.length by omega)] at h4
 have h5:IS l (T-1)=true:=by
  unfold IS
  rw [List.any_eq_true]
  refine ⟨_,Aq (show l.length-1<l.length by omega),?_⟩
  have h1:=hM.mem (Aq (show l.length-1<l.length by omega))
  rw [← Rq l (by omega)] at h1 ⊢
  rw [Af (by omega),Af (by omega)]
  rfl
 rw [h5,show (some (W[W.length-1]'(by omega))).getD 0=0 from hz,Tc] at h4
 cases h4
theorem Zik (L:List (Int×Int)) {i:Nat} (hi:i<L.length) (hl:L.length≤4294967296) (h1:L[i].2≤65536) (o0:List (Int×Int)→List Int→Int→Option (List Int×Int)):∀ (d:Nat) (k:Int) (n:Nat) (out:List Int),d=(L[i].2-k).toNat→0≤k→k≤L[i].2→d<n→out.length+d≤1000000→
  Du.l1 o0 n L out (i:Int) k=o0 L (out++(List.range d).map fun (j:Nat)=>k+(j:Int)) (AQ .i64 (i:Int) 1):=by
 intro d
 induction d with
 | zero=>
  intro k n out hd h0 hk hn ho
  obtain ⟨n,rfl⟩:∃ m,n=m+1:=⟨n-1,by omega⟩
  show Du.S1 _ _ _ _ _ _=_
  unfold Du.S1
  rw [Bf (by rw [AW];omega),Aa,Bz hi,AZ (by omega),Ac]
  simp
 | succ d ih=>
  intro k n out hd h0 hk hn ho
  obtain ⟨n,rfl⟩:∃ m,n=m+1:=⟨n-1,by omega⟩
  show Du.S1 _ _ _ _ _ _=_
  unfold Du.S1
  rw [Bf (by rw [AW];omega),Aa,Bz hi,Bl (by omega),Aa,B7 (by omega),Aa,Bj (a:=k) (by omega),ih (k+1) n (out++[k]) (by omega) (by omega) (by omega) (by omega) (by simp;omega)]
  congr 1
  rw [List.range_succ_eq_map,List.map_cons,List.map_map,Al]
  congr 1
  rw [List.singleton_append]
  congr 1
  ·simp
  ·apply List.map_congr_left
   intro j _
   simp
   omega
theorem Zll (l:List (Int×Int)) (hM:C3 (-1) l) (hl:l.length≤4294967296):∀ (d i n:Nat),d=l.length-i→i≤l.length→d<n→70000+d<n→Du.l0 n l (BF (l.take i)) (i:Int)=some (BF l,0):=by
 intro d
 induction d with
 | zero=>
  intro i n hd hi hn Kg
  obtain ⟨n,rfl⟩:∃ m,n=m+1:=⟨n-1,by omega⟩
  have:i=l.length:=by omega
  subst this
  show Du.S0 _ _ _ _=_
  unfold Du.S0
  rw [AW,AZ (by omega),Ac,Ar]
 | succ d ih=>
  intro i n hd hi hn Kg
  obtain ⟨n,rfl⟩:∃ m,n=m+1:=⟨n-1,by omega⟩
  have AO:i<l.length:=by omega
  have hm:=hM.mem (Aq AO)
  have h1:=UE l i
  have h2:=OA hM
  have hq:=take_one AO
  show Du.S0 _ _ _ _=_
  unfold Du.S0
  rw [AW,Bl (by omega),Aa,Bf (by omega),Aa,Bz AO,Zik l AO hl (by omega) _ (l[i].2-l[i].1).toNat l[i].1 n _ rfl (by omega) (by omega) (by omega) (by omega)]
  rw [Bj (by omega),show ((i:Int)+1)=((i+1:Nat):Int) by omega,show BF (l.take i)++(List.range (l[i].2-l[i].1).toNat).map (fun (j:Nat)=>l[i].1+(j:Int))=BF (l.take (i+1)) by rw [hq,L4];unfold BF;simp]
  exact ih (i+1) n (by omega) (by omega) (by omega) (by omega)
theorem Zmj {l:List (Int×Int)} (hM:C3 (-1) l) (hl:l.length≤4294967296):Du l=some (BF l,0):=by
 unfold Du Du.S
 rw [oz l hl,Af hM,Ad,Bool.not_true,Ac]
 exact Zll l hM hl l.length 0 fu rfl (by omega) (by unfold fu;omega) (by unfold fu;omega)
end Go.AM.Pure
end

section
/- Lists of places in whatever form; the cells at them, and their sum. -/
namespace Go.AM.Pure
open Go.AM
theorem pZ {l:List Nat} (h:l.Pairwise (· < ·)):(Ir l).Pairwise (· < ·):=by
 unfold Ir
 rw [List.pairwise_map]
 exact h.imp fun h=>by omega
theorem n7 {l:List (Int×Int)} (h:C3 (-1) l):(BF l).Pairwise (· < ·):=by
 rw [Yn l (-1) 0 65536 h (Int.le_refl _) (by omega) (fun s hs=>(h.mem hs).2.2)]
 exact pZ (List.Pairwise.filter _ List.pairwise_lt_range')
theorem Zsm {l:List (Int×Int)} (h:C3 (-1) l) {p:Int} (hp:p∈BF l):0≤p∧p<Ku l:=by
 unfold BF at hp
 rw [List.mem_flatMap] at hp
 obtain ⟨s,hs,hp⟩:=hp
 rw [List.mem_map] at hp
 obtain ⟨k,hk,rfl⟩:=hp
 have h1:=h.mem hs
 have h2:=im h s hs
 have:=List.mem_range.1 hk
 omega
theorem Ztm {d:List Int} (hd:d.Pairwise (· < ·)) {v:Int}:∀ (k:Nat),k≤d.length→(∀ j (h:j<d.length),j<k→d[j]<v)→(∀ j (h:j<d.length),k≤j→v≤d[j])→F8 v d=k:=by
 intro k hk h1 h2
 have e:d=d.take k++d.drop k:=(List.take_append_drop k d).symm
 rw [e,dQ]
 have f1:F8 v (d.take k)=k:=by
  unfold F8
  rw [List.filter_eq_self.2 fun x hx=>by
   obtain ⟨j,hj,rfl⟩:=List.getElem_of_mem hx
   rw [Ag] at hj
   rw [List.getElem_take]
   exact Af (h1 j (by omega) (by omega)),Ag]
  omega
 have f2:F8 v (d.drop k)=0:=by
  unfold F8
  rw [List.filter_eq_nil_iff.2 fun x hx=>by
   obtain ⟨j,hj,rfl⟩:=List.getElem_of_mem hx
   rw [List.length_drop] at hj
   rw [List.getElem_drop]
   have:=h2 (k+j) (by omega) (by omega)
   simpa using this]
  rfl
 omega
theorem Zy1 (d:List Int) (hl:d.length<1000000000) (hd:d.Pairwise (· < ·)) (v:Int):∀ (g i j n:Nat),g=j-i→i≤j→j≤d.length→g<n→(∀ m (h:m<d.length),m<i→d[m]<v)→(∀ m (h:m<d.length),j≤m→v≤d[m])→
  ∃ b,Dc.l0 (Dc.t1 fu) n d v (d.length:Int) (i:Int) (j:Int)=some ((F8 v d:Int),b):=by
 intro g
 induction g using Nat.strongRecOn with
 | ind g ih=>
 intro i j n hg Lg Nl hn h1 h2
 obtain ⟨n,rfl⟩:∃ m,n=m+1:=⟨n-1,by omega⟩
 show ∃ b,Dc.S0 Dc.S1 (Dc.l0 (Dc.t1 fu) n) _ _ _ _ _=_
 unfold Dc.S0
 by_cases WQ:i<j
 ·have hh:IntKind.wrap .i64 (BH .u64 (IntKind.wrap .u64 (AQ .i64 (i:Int) (j:Int))) 1)=(((i+j) / 2:Nat):Int):=by
   have h1:IntKind.wrap .u64 ((i:Int)+(j:Int))=((i+j:Nat):Int):=by rw [Ew];omega
   have h2:=Mp ((i+j:Nat):Int) 1 (by omega)
   rw [show ((1:Nat):Int)=1 from rfl,Int.pow_succ,Int.pow_zero,Int.one_mul] at h2
   rw [Bj (by omega),h1,h2,Hf (by omega)]
   omega
  have hm:(i+j) / 2<d.length:=by omega
  rw [Bl (by omega),Aa,hh,Bf (by rw [AW];omega),Aa,Bz hm,rI,Bj (by omega)]
  by_cases AO:d[(i+j) / 2]<v
  ·rw [Bl AO,Aa]
   refine ih (j-((i+j) / 2+1)) (by omega) ((i+j) / 2+1) j n rfl (by omega) Nl (by omega) (fun m Sg cm=>?_) h2
   by_cases he:m=(i+j) / 2
   ·subst he;exact AO
   ·exact Int.lt_trans (RA hd (by omega) hm) AO
  ·rw [AZ (by omega),Ac]
   refine ih ((i+j) / 2-i) (by omega) i ((i+j) / 2) n rfl (by omega) (by omega) (by omega) h1 (fun m Sg cm=>?_)
   by_cases he:m=(i+j) / 2
   ·subst he;omega
   ·have:=RA hd (show (i+j) / 2<m by omega) Sg
    omega
 ·have:i=j:=by omega
  subst this
  rw [AZ (by omega),Ac]
  unfold Dc.S1
  rw [Ztm hd i Nl h1 h2]
  by_cases hi:i<d.length
  ·rw [Bl (by omega),Aa,Bf (by rw [AW];omega),Aa,Bz hi]
   cases AR d[i] v with
   | true=>exact ⟨_,rfl⟩
   | false=>
    rw [Ac]
    cases XT d[i] <;> exact ⟨_,rfl⟩
  ·rw [AZ (by omega),Ac]
   exact ⟨_,rfl⟩
theorem Ygq (d:List Int) (hl:d.length<1000000000) (hd:d.Pairwise (· < ·)) (v:Int):∃ b,Dc d v=some ((F8 v d:Int),b):=
 Zy1 d hl hd v d.length 0 d.length fu (by omega) (by omega) (by omega) (by unfold fu;omega) (fun m h h2=>by omega) (fun m h h2=>by omega)
def Zcg (x:K7) (ps:List Int):Prop:=
 KJ x=some (ps.length:Int)∧(∀ n:Nat,n≤65536→KK x (n:Int)=some (F8 (n:Int) ps:Int))∧NG x=some ps
theorem Ysi {l:List (Int×Int)} (hM:C3 (-1) l) (hl:l.length≤65536) {form:Int} (hf:form=1∨form=2∨form=3):∃ x,OE l form=some (x,0)∧x.1=form∧Zcg x (BF l):=by
 have CE:=OA hM
 have Kh:l.length≤4294967296:=by omega
 unfold OE
 rw [Ra l Kh,Af hM,Ad,Bool.not_true,Ac]
 rcases hf with rfl | rfl | rfl
 ·rw [B0 rfl,Aa,show MY 16 l=some l from by unfold MY;rw [B7 (by omega)];rfl,Ad]
  refine ⟨_,rfl,rfl,?_,fun n hn=>?_,?_⟩
  ·show KJ (1,l,[],[])=_
   unfold KJ
   rw [BU (by omega),Ac,BU (by omega),Ac,dy hM Kh]
   rfl
  ·show KK (1,l,[],[]) _=_
   unfold KK
   rw [BU (by omega),Ac,BU (by omega),Ac,Zkl hM Kh _ (by omega) (by omega)]
   rfl
  ·show NG (1,l,[],[])=_
   unfold NG
   rw [BU (by omega),Ac,BU (by omega),Ac,Af Kh,AB,show (l.all fun s=>Bq (-9223372036854775808) s.1 && Bq s.2 9223372036854775807)=true from List.all_eq_true.2 fun s hs=>by
    have:=hM.mem hs
    rw [Cq (by omega),Cq (by omega)]
    rfl]
   rfl
 ·obtain ⟨W,h1,h2,h3,h4,h5⟩:=oK hM Kh
  rw [BU (by omega),Ac,B0 rfl,Aa,h1,Ad]
  refine ⟨_,rfl,rfl,?_,fun n hn=>?_,?_⟩
  ·show KJ (2,[],W,[])=_
   unfold KJ
   rw [B0 rfl,Aa,Zrr h4 (by omega),h5]
   rfl
  ·show KK (2,[],W,[]) _=_
   unfold KK
   rw [B0 rfl,Aa,Zz1 h4 (by omega),h5]
   rfl
  ·show NG (2,[],W,[])=_
   unfold NG
   rw [B0 rfl,Aa,Af h3,Aa]
   have:=dP W 0
   rw [h5] at this
   exact this
 ·rw [BU (by omega),Ac,BU (by omega),Ac,B0 rfl,Aa,nZ hM Kh,Ad]
  refine ⟨_,rfl,rfl,?_,fun n hn=>?_,?_⟩
  ·show KJ (3,[],[],BF l)=_
   unfold KJ
   rw [BU (by omega),Ac,B0 rfl,Aa]
   rfl
  ·show KK (3,[],[],BF l) _=_
   unfold KK
   obtain ⟨b,hb⟩:=Ygq (BF l) (by omega) (n7 hM) (n:Int)
   rw [BU (by omega),Ac,B0 rfl,Aa,hb]
   rfl
  ·rfl
end Go.AM.Pure
end

section
/- Sums; the law of gathered cells. -/
namespace Go.AM.Pure
open Go.AM
abbrev Py:List Cell:=[(JY 7),(0,0,eB),(JY 9)]
def T4:List Int:=vB (([7,9]:List Int).length:Int)++(Dh [7,9]++CK [0,1] (C2 [0,1]))
theorem Vl:BP [7,9]=[7,9]∧Cf [7,9]=[0,1]:=by
 have h:([7,9]:List Int).mergeSort (fun x y=>decide (x≤y))=[7,9]:=List.mergeSort_of_pairwise (by decide)
 unfold Cf BP
 rw [h]
 exact ⟨by kernel_rfl,by kernel_rfl⟩
theorem Ycx:EV [7,9]=some ([7,9],[0,1]):=by rw [dq [7,9] (by decide) (by decide),Vl.1,Vl.2]
theorem yv:HD (Br Py) 1 4=some T4:=by
 unfold HD
 rw [if_pos rfl,show J6 (Br Py)=[7,9] from by kernel_rfl]
 unfold LL T4
 rw [if_neg (by decide),if_neg (by decide),if_neg (by decide),if_pos rfl,Vl.2]
 unfold Mj
 rw [if_neg (by decide),Vl.1,Vl.2]
theorem yw:Hz Py 1:=⟨by decide,by decide, .inl rfl,fun c hc=>by
 rcases List.mem_cons.1 hc with rfl | hc
 ·exact ⟨by kernel_rfl, .inr rfl⟩
 rcases List.mem_cons.1 hc with rfl | hc
 ·exact ⟨by kernel_rfl, .inl rfl⟩
 rw [List.mem_singleton.1 hc]
 exact ⟨by kernel_rfl, .inr rfl⟩⟩
theorem Zhd:∀ c∈Py,BY c.2.1:=fun c hc=>by
 unfold BY
 rcases List.mem_cons.1 hc with rfl | hc
 ·decide
 rcases List.mem_cons.1 hc with rfl | hc
 ·decide
 rw [List.mem_singleton.1 hc]
 decide
theorem Yvi:EC ((6,JY 8),ofBytes T4,[]) 2=some ((6,JY 8),ofBytes T4,[1]):=by
 unfold EC EC.S
 dsimp only
 rw [show SM (ofBytes T4) 2=some ([7,9],0) from by kernel_rfl,Ad]
 dsimp only
 rw [show Y7 [7,9]=some ([7,9],[0,1]) from Ycx,Ad]
 kernel_rfl
theorem Ywi {s b m:ByteArray} (h1:Kj s=some (Py,0)) (h2:OC s=some ((1,4,3,1),0)) (h3:SS s=some (b,m,0)) (h4:EC ((6,JY 8),b,[]) 2=some ((6,JY 8),b,[1])):
  B5 s (6,JY 8)=some ((3,[],[],[2]),0):=by
 unfold B5 B5.S
 rw [show By (MT (6,JY 8)) 0=false from by kernel_rfl,Ac,h2,Ad]
 dsimp only
 rw [Cu rfl,Ac,h1,Ad,BU (by decide),Ac]
 show B5.S2 _ _ _ _ _ _=_
 unfold B5.S2
 rw [h3,Ad]
 dsimp only
 rw [BU (by decide),Ac,B0 rfl,Aa,BU (by decide),Ac,Aa,Jl (by decide),Aa,show Be .i64 3 1=2 from by decide,h4,Ad]
 kernel_rfl
theorem p7 {s:ByteArray} (h1:Kj s=some (Py,0)):Qb s (3,[],[],[2])=some ([JY 9],0):=by
 unfold Qb
 rw [h1,Ad]
 kernel_rfl
theorem Yeq {s:ByteArray} (h1:Kj s=some (Py,0)) (h2:OC s=some ((1,4,3,1),0)):EK s (3,[],[],[2])=some (0,9,0):=by
 unfold EK EK.S
 rw [p7 h1,Ad]
 dsimp only
 rw [Cu rfl,Ac,h2,Ad]
 kernel_rfl
theorem Yfq {s:ByteArray} (h1:L9 Py 1 4=some (s,0)) (h2:B5 s (6,JY 8)=some ((3,[],[],[2]),0)) (h3:Qb s (3,[],[],[2])=some ([JY 9],0)) (h4:EK s (3,[],[],[2])=some (0,9,0)):Rb=some true:=by
 unfold Rb
 rw [h1,Ad]
 dsimp only
 rw [h2,Ad]
 dsimp only
 rw [h3,h4,Ad,Ad]
 kernel_rfl
theorem tJ:Rb=some true:=by
 obtain ⟨h1,h2,h3⟩:=ox (rB yw Zhd yv)
 have JN:OC (ofBytes (II (Ih Py 1 4 T4)))=some ((1,4,3,1),0):=h2
 exact Yfq (rH yw Zhd yv) (Ywi h1 JN h3 Yvi) (p7 h1) (Yeq h1 JN)
end Go.AM.Pure
end

section
/- Spans of places; the list of places that needs least. -/
namespace Go.AM.Pure
open Go.AM
theorem Vd {α:Type} {p:List α→Prop} (h0:p []) (hs:∀ l a,p l→p (l++[a])) (l:List α):p l:=by
 rw [← List.reverse_reverse l]
 induction l.reverse with
 | nil=>exact h0
 | cons a l ih=>rw [List.reverse_cons];exact hs _ _ ih
def Et (ps:List Int):List (Int×Int):=ps.foldl IL []
theorem YT (ps:List Int) (p:Int):Et (ps++[p])=IL (Et ps) p:=by unfold Et;rw [List.foldl_append];rfl
theorem Zx1 (n:Int):IL [] n=[(n,n+1)]:=rfl
theorem dO (l:List (Int×Int)) (k:Int×Int) (n:Int):IL (l++[k]) n=if k.2=n then l++[(k.1,n+1)] else l++[k]++[(n,n+1)]:=by
 unfold IL
 rw [List.getLast?_append,List.getLast?_singleton]
 show (bif AR k.2 n then _ else _)=_
 by_cases h:k.2=n
 ·rw [if_pos h,B0 h,Aa,List.dropLast_concat]
 ·rw [if_neg h,BU h,Ac]
theorem YU:∀ (a:List (Int×Int)) (x:Int) (k:Int×Int),C3 x (a++[k])↔C3 x a∧(∀ s∈a,s.2<k.1)∧x<k.1∧k.1<k.2∧k.2≤65536
 | [],x,k=>by simp [C3]
 | s :: a,x,k=>by
  rw [List.cons_append]
  unfold C3
  rw [YU a s.2 k]
  constructor
  ·rintro ⟨h1,h2,h3,h4,h5,h6,h7,h8⟩
   refine ⟨⟨h1,h2,h3,h4⟩,fun u hu=>?_,by omega,h7,h8⟩
   rcases List.mem_cons.1 hu with rfl | hu
   ·exact h6
   ·exact h5 u hu
  ·rintro ⟨⟨h1,h2,h3,h4⟩,h5,h6,h7,h8⟩
   exact ⟨h1,h2,h3,h4,fun u hu=>h5 u (Az _ hu),h5 s (Av ..),h7,h8⟩
structure Rise (ps:List Int):Prop where
 s:ps.Pairwise (· < ·)
 r:∀ p∈ps,0≤p∧p<65536
theorem Tb:∀ (ps:List Int),Rise ps→C3 (-1) (Et ps)∧BF (Et ps)=ps∧(Et ps).getLast?.map (·.2)=ps.getLast?.map (· + 1):=by
 refine fun ps=>Vd (p:=fun ps=>Rise ps→C3 (-1) (Et ps)∧BF (Et ps)=ps∧(Et ps).getLast?.map (·.2)=ps.getLast?.map (· + 1)) (fun _=>⟨trivial,rfl,rfl⟩) ?_ ps
 ·intro ps p ih h
  have h1:Rise ps:=⟨(List.pairwise_append.1 h.s).1,fun q hq=>h.r q (List.mem_append_left _ hq)⟩
  obtain ⟨i1,i2,i3⟩:=ih h1
  have hp:=h.r p (by simp)
  have AO:∀ q∈ps,q<p:=fun q hq=>(List.pairwise_append.1 h.s).2.2 q hq p (by simp)
  rw [YT]
  rcases List.eq_nil_or_concat (Et ps) with e | ⟨l,k,e⟩
  ·have Ek:ps=[]:=by rw [← i2,e];rfl
   rw [e,Ek,Zx1]
   refine ⟨⟨by show -1<p;omega,by show p<p+1;omega,by show p+1≤65536;omega,trivial⟩,?_,rfl⟩
   show BF [(p,p+1)]=[]++[p]
   unfold BF
   rw [List.flatMap_cons,List.flatMap_nil,show (p+1-p).toNat=1 by omega]
   simp
  ·rw [List.concat_eq_append] at e
   rw [e] at i1 i2 i3
   rw [List.getLast?_append,List.getLast?_singleton] at i3
   obtain ⟨j1,j2,j3,j4,j5⟩:=(YU l (-1) k).1 i1
   obtain ⟨q,hq⟩:∃ q,ps.getLast? = some q:=by
    cases hh:ps.getLast? with
    | none=>rw [hh] at i3;cases i3
    | some q=>exact ⟨q,rfl⟩
   rw [hq] at i3
   have hk:k.2=q+1:=Option.some.inj i3
   have hqp:q<p:=AO q (List.mem_of_getLast? hq)
   have Pk:BF [(p,p+1)]=[p]:=by
    unfold BF
    rw [List.flatMap_cons,List.flatMap_nil,show (p+1-p).toNat=1 by omega]
    simp
   rw [e,dO]
   by_cases hj:k.2=p
   ·rw [if_pos hj]
    refine ⟨(YU l (-1) (k.1,p+1)).2 ⟨j1,j2,j3,by show k.1<p+1;omega,by show p+1≤65536;omega⟩,?_,?_⟩
    ·rw [← i2,L4,L4,Al]
     congr 1
     unfold BF
     rw [List.flatMap_cons,List.flatMap_nil,List.flatMap_cons,List.flatMap_nil,Ay,Ay]
     show (List.range (p+1-k.1).toNat).map _=(List.range (k.2-k.1).toNat).map _++[p]
     rw [show (p+1-k.1).toNat=(k.2-k.1).toNat+1 by omega,List.range_succ,AE,List.map_singleton]
     congr 2
     omega
    ·rw [List.getLast?_append,List.getLast?_singleton,List.getLast?_append,List.getLast?_singleton]
     rfl
   ·rw [if_neg hj]
    refine ⟨(YU (l++[k]) (-1) (p,p+1)).2 ⟨i1,fun s hs=>?_,by show -1<p;omega,by show p<p+1;omega,by show p+1≤65536;omega⟩,?_,?_⟩
    ·show s.2<p
     rcases List.mem_append.1 hs with hs | hs
     ·have:=j2 s hs;omega
     ·rw [List.mem_singleton.1 hs];omega
    ·rw [L4,i2,Pk]
    ·rw [List.getLast?_append (l:=l++[k]),List.getLast?_append (l:=ps),List.getLast?_singleton,List.getLast?_singleton]
     rfl
theorem oL {l:List (Int×Int)} (h:C3 (-1) l):Rise (BF l):=⟨n7 h,fun p hp=>by have:=Zsm h hp;have:=U1 h (Int.le_refl _);omega⟩
theorem po:∀ {a b:List (Int×Int)} {x:Int},C3 x a→C3 x b→ -1≤x→BF a=BF b→a=b
 | [],[],_,_,_,_,_=>rfl
 | [],s :: b,x,_,hb,hx,h=>by
  exfalso
  have:=congrArg List.length h
  rw [show s :: b=[s]++b from rfl,L4,Ae,dI] at this
  have:=hb.2.1
  simp [BF] at *
  omega
 | s :: a,[],x,ha,_,hx,h=>by
  exfalso
  have:=congrArg List.length h
  rw [show s :: a=[s]++a from rfl,L4,Ae,dI] at this
  have:=ha.2.1
  simp [BF] at *
  omega
 | s :: a,t :: b,x,ha,hb,hx,h=>by
  obtain ⟨a1,a2,a3,a4⟩:=ha
  obtain ⟨b1,b2,b3,b4⟩:=hb
  have es:BF (s :: a)=BF [s]++BF a:=by rw [show s :: a=[s]++a from rfl,L4]
  have et:BF (t :: b)=BF [t]++BF b:=by rw [show t :: b=[t]++b from rfl,L4]
  have Pl:∀ {u:Int×Int} {p:Int},p∈BF [u]↔u.1≤p∧p<u.2:=fun {u p}=>by
   unfold BF
   rw [List.flatMap_cons,List.flatMap_nil,Ay,List.mem_map]
   constructor
   ·rintro ⟨k,hk,rfl⟩
    have:=List.mem_range.1 hk
    omega
   ·intro hp
    exact ⟨(p-u.1).toNat,List.mem_range.2 (by omega),by omega⟩
  have WO:∀ {l:List (Int×Int)} {y p:Int},C3 y l→p∈BF l→y<p:=fun {l y p} hl hp=>by
   unfold BF at hp
   rw [List.mem_flatMap] at hp
   obtain ⟨u,hu,hp⟩:=hp
   rw [List.mem_map] at hp
   obtain ⟨k,hk,rfl⟩:=hp
   have:=hl.mem hu
   omega
  have Jm:∀ p,p∈BF (s :: a)↔p∈BF (t :: b):=fun p=>by rw [h]
  rw [es,et] at Jm
  have e1:s.1=t.1:=by
   have p1:=(Jm s.1).1 (List.mem_append_left _ (Pl.2 ⟨Int.le_refl _,a2⟩))
   have p2:=(Jm t.1).2 (List.mem_append_left _ (Pl.2 ⟨Int.le_refl _,b2⟩))
   rcases List.mem_append.1 p1 with p1 | p1
   ·have:=Pl.1 p1
    rcases List.mem_append.1 p2 with p2 | p2
    ·have:=Pl.1 p2;omega
    ·have:=WO a4 p2;omega
   ·have:=WO b4 p1
    rcases List.mem_append.1 p2 with p2 | p2
    ·have:=Pl.1 p2;omega
    ·have:=WO a4 p2;omega
  have e2:s.2=t.2:=by
   rcases Int.lt_trichotomy s.2 t.2 with AO | heq | AO
   ·exfalso
    have p1:=(Jm s.2).2 (List.mem_append_left _ (Pl.2 ⟨by omega,AO⟩))
    rcases List.mem_append.1 p1 with p1 | p1
    ·have:=Pl.1 p1;omega
    ·have:=WO a4 p1;omega
   ·exact heq
   ·exfalso
    have p1:=(Jm t.2).1 (List.mem_append_left _ (Pl.2 ⟨by omega,AO⟩))
    rcases List.mem_append.1 p1 with p1 | p1
    ·have:=Pl.1 p1;omega
    ·have:=WO b4 p1;omega
  have est:s=t:=Prod.ext e1 e2
  subst est
  rw [es,et] at h
  rw [po a4 b4 (by omega) (List.append_cancel_left h)]
theorem pn {l:List (Int×Int)} (h:C3 (-1) l):Et (BF l)=l:=by
 obtain ⟨h1,h2,_⟩:=Tb (BF l) (oL h)
 exact po h1 h (Int.le_refl _) h2
theorem Zqr (l:List (Int×Int)) (n:Int) (h:∀ k,l.getLast? = some k→k.2≤n):KZ l (n,n+1)=IL l n:=by
 unfold KZ IL
 cases hl:l.getLast? with
 | none=>rw [List.getLast?_eq_none_iff.1 hl]
 | some k=>
  have:=h k hl
  dsimp only
  by_cases hk:k.2=n
  ·rw [Cq (by omega),Aa,B0 hk,Aa,show EM k.2 (n+1)=n+1 by unfold EM;rw [if_pos (by omega)]]
  ·rw [GM (by omega),Ac,BU hk,Ac]
theorem p0 {ps:List Int} (h:Rise ps) (hl:ps.length≤65536):Rz ps=some (Et ps,0):=by
 have Nk:PV ps=some false:=by
  have loop:∀ (d i n:Nat),d=ps.length-i→i≤ps.length→d<n→GW.l0 n ps (ps.length:Int) (i:Int)=some (-1):=by
   intro d
   induction d with
   | zero=>
    intro i n hd hi hn
    obtain ⟨n,rfl⟩:∃ m,n=m+1:=⟨n-1,by omega⟩
    show GW.S0 _ _ _ _=_
    unfold GW.S0
    rw [AZ (by omega),Ac]
   | succ d ih=>
    intro i n hd hi hn
    obtain ⟨n,rfl⟩:∃ m,n=m+1:=⟨n-1,by omega⟩
    have AO:i<ps.length:=by omega
    have hp:=h.r _ (Aq AO)
    show GW.S0 _ _ _ _=_
    unfold GW.S0
    rw [Bl (by omega),Aa,Bf (by rw [AW];omega),Aa,Bz AO,show P3 ps[i]=false from by
     unfold P3
     rw [AZ (by omega),Ac,GM (by omega)],Ac,Bj (by omega),show ((i:Int)+1)=((i+1:Nat):Int) by omega]
    exact ih (i+1) n (by omega) (by omega) (by omega)
  have h0:GW ps=some (-1):=loop ps.length 0 fu rfl (by omega) (by unfold fu;omega)
  unfold PV
  rw [h0]
  rfl
 have hs:(ps.mergeSort fun x y=>decide (x≤y))=ps:=List.mergeSort_of_pairwise (h.s.imp fun h=>Af (by omega))
 have hf:∀ (q:List Int),q <+:ps→q.foldl (fun a n=>KZ a (n,n+1)) []=Et q:=by
  refine fun q=>Vd (p:=fun q=>q <+:ps→q.foldl (fun a n=>KZ a (n,n+1)) []=Et q) (fun _=>rfl) ?_ q
  ·intro q p ih hq
   have hr:Rise (q++[p]):=⟨h.s.sublist hq.sublist,fun x hx=>h.r x (hq.subset hx)⟩
   rw [List.foldl_append,ih ((List.prefix_append _ _).trans hq),YT]
   refine Zqr _ _ fun k hk=>?_
   have h1:Rise q:=⟨(List.pairwise_append.1 hr.s).1,fun x hx=>hr.r x (List.mem_append_left _ hx)⟩
   have h3:=(Tb q h1).2.2
   rw [hk] at h3
   cases hg:q.getLast? with
   | none=>rw [hg] at h3;cases h3
   | some z=>
    rw [hg] at h3
    have e:k.2=z+1:=Option.some.inj h3
    have:=(List.pairwise_append.1 hr.s).2.2 z (List.mem_of_getLast? hg) p (by simp)
    omega
 unfold Rz
 rw [Nk,Ad,Ac,Af (by omega),AB,show (ps.all fun n=>Bq 0 n && AS n 65536)=true from List.all_eq_true.2 fun p hp=>by
  have:=h.r p hp
  rw [Cq this.1,Bl this.2]
  rfl,Aa,hs,hf ps (List.prefix_refl _)]
end Go.AM.Pure
end

section
/- The form that needs least; the spans of each form. -/
namespace Go.AM.Pure
open Go.AM
theorem tM (a b:Nat) (h:a<1000000000000):FE .i64 (a:Int) (b:Int)=((a / b:Nat):Int):=by
 unfold FE
 rw [show Int.tdiv (a:Int) (b:Int)=((a / b:Nat):Int) from rfl]
 have:=Nat.div_le_self a b
 generalize a / b=q at this ⊢
 exact Hf (by omega)
theorem Zko (L:List (Int×Int)) {N:Nat} {i:Nat} (hi:i<L.length) (h1:L[i].2≤65536) {o0:List (Int×Int)→Int→Int→List Bool→Option (List Bool)} {p:List Bool→Prop} (ho:∀ out,out.length=N→Eu (o0 L (N:Int) (AQ .i64 (i:Int) 1) out) p):
  ∀ (d:Nat) (k:Int) (n:Nat) (out:List Bool),d=(L[i].2-k).toNat→0≤k→d<n→out.length=N→Eu (DD.l1 o0 n L (N:Int) (i:Int) k out) p:=by
 intro d
 induction d with
 | zero=>
  intro k n out hd hk hn hlen
  obtain ⟨n,rfl⟩:∃ m,n=m+1:=⟨n-1,by omega⟩
  show Eu (DD.S1 _ _ _ _ _ _ _) _
  unfold DD.S1
  rw [Bz hi]
  exact Vk (by rw [AW];omega) (OY (fun h=>by omega) fun _=>ho out hlen)
 | succ d ih=>
  intro k n out hd hk hn hlen
  obtain ⟨n,rfl⟩:∃ m,n=m+1:=⟨n-1,by omega⟩
  show Eu (DD.S1 _ _ _ _ _ _ _) _
  unfold DD.S1
  rw [Bz hi]
  refine Vk (by rw [AW];omega) (OY (fun h=>OY (fun h2=>Vk (by rw [AW];omega) ?_) fun _=>ho out hlen) fun _=>ho out hlen)
  rw [Bj (by omega)]
  exact ih (k+1) n _ (by omega) (by omega) (by omega) (by rw [List.length_set];exact hlen)
theorem Zor (l:List (Int×Int)) (hM:C3 (-1) l) (hl:l.length≤4294967296) {N:Nat}:∀ (d i n:Nat) (out:List Bool),d=l.length-i→i≤l.length→d<n→70000+d<n→out.length=N→Eu (DD.l0 n l (N:Int) (i:Int) out) fun y=>y.length=N:=by
 intro d
 induction d with
 | zero=>
  intro i n out hd hi hn Kg hlen
  obtain ⟨n,rfl⟩:∃ m,n=m+1:=⟨n-1,by omega⟩
  show Eu (DD.S0 _ _ _ _ _) _
  unfold DD.S0
  exact OY (fun h=>by rw [AW] at h;omega) fun _=>rG hlen
 | succ d ih=>
  intro i n out hd hi hn Kg hlen
  obtain ⟨n,rfl⟩:∃ m,n=m+1:=⟨n-1,by omega⟩
  have AO:i<l.length:=by omega
  have hm:=hM.mem (Aq AO)
  show Eu (DD.S0 _ _ _ _ _) _
  unfold DD.S0
  refine OY (fun h=>Vk (by rw [AW];omega) ?_) fun h=>by rw [AW] at h;omega
  rw [Bz AO]
  refine Zko l AO (by omega) (fun out h=>?_) _ _ n out rfl (by omega) (by omega) hlen
  rw [Bj (by omega),show ((i:Int)+1)=((i+1:Nat):Int) by omega]
  exact ih (i+1) n out (by omega) (by omega) (by omega) (by omega) h
theorem Zpr {N:Nat} (hN:N≤1024) {bs:List Bool} (hb:bs.length=64*N) {i:Nat} (hi:i<N) {out:List Int} (h1:out.length≤1024) {o0:Int→List Bool→List Int→Int→Option (List Int×Int)} {p:List Int×Int→Prop} (ho:∀ w,Eu (o0 (N:Int) bs (out++[w]) (AQ .i64 (i:Int) 1)) p):
  ∀ (d:Nat) (b:Int) (n:Nat) (w:Int),d=(64-b).toNat→0≤b→d<n→Eu (Dw.l1 o0 n (N:Int) bs out (i:Int) w b) p:=by
 intro d
 induction d with
 | zero=>
  intro b n w hd KB hn
  obtain ⟨n,rfl⟩:∃ m,n=m+1:=⟨n-1,by omega⟩
  show Eu (Dw.S1 _ _ _ _ _ _ _ _) _
  unfold Dw.S1
  exact OY (fun h=>by omega) fun _=>fe (by omega) (ho w)
 | succ d ih=>
  intro b n w hd KB hn
  obtain ⟨n,rfl⟩:∃ m,n=m+1:=⟨n-1,by omega⟩
  show Eu (Dw.S1 _ _ _ _ _ _ _ _) _
  unfold Dw.S1
  refine OY (fun h=>?_) fun _=>fe (by omega) (ho w)
  rw [Jg (by omega),Bj (by omega),Bj (by omega)]
  exact Vk (by rw [AW];omega) (fP (fun _=>Yti KB (ih _ n _ (by omega) (by omega) (by omega))) fun _=>ih _ n _ (by omega) (by omega) (by omega))
theorem Zv1 {N:Nat} (hN:N≤1024) {bs:List Bool} (hb:bs.length=64*N):∀ (d i n:Nat) (out:List Int),d=N-i→i≤N→d+100<n→out.length=i→Eu (Dw.l0 n (N:Int) bs out (i:Int)) fun y=>y.2=0∧y.1.length=N:=by
 intro d
 induction d with
 | zero=>
  intro i n out hd hi hn hlen
  obtain ⟨n,rfl⟩:∃ m,n=m+1:=⟨n-1,by omega⟩
  show Eu (Dw.S0 _ _ _ _ _) _
  unfold Dw.S0
  exact OY (fun h=>by omega) fun _=>rG ⟨rfl,by show out.length=N;omega⟩
 | succ d ih=>
  intro i n out hd hi hn hlen
  obtain ⟨n,rfl⟩:∃ m,n=m+1:=⟨n-1,by omega⟩
  show Eu (Dw.S0 _ _ _ _ _) _
  unfold Dw.S0
  refine OY (fun h=>Zpr hN hb (by omega) (by omega) (fun w=>?_) _ 0 n 0 rfl (by omega) (by omega)) fun h=>by omega
  rw [Bj (by omega),show ((i:Int)+1)=((i+1:Nat):Int) by omega]
  exact ih (i+1) n _ (by omega) (by omega) (by omega) (by simp [hlen])
def nW (l:List (Int×Int)):Int:=(Ku l+63) / 64
theorem Zil {l:List (Int×Int)} (hM:C3 (-1) l) (hl:l.length≤4294967296):Eu (Dw l) fun y=>(y.1.length:Int)=nW l:=by
 unfold Dw Dw.S
 rw [oz l hl,Af hM,Ad,Bool.not_true,Ac,Zjl l hl,Ad]
 have Xh:=U1 hM (Int.le_refl _)
 obtain ⟨T,hT⟩:=Int.eq_ofNat_of_zero_le Xh.1
 have hq:FE .i64 (AQ .i64 (Ku l) 63) 64=(((T+63) / 64:Nat):Int):=by
  rw [Bj (by omega),hT,show ((T:Int)+63)=((T+63:Nat):Int) by omega]
  exact tM (T+63) 64 (by omega)
 obtain ⟨N,hN⟩:∃ N:Nat,(T+63) / 64=N:=⟨_,rfl⟩
 rw [hq,hN,Jg (by omega),show (64*(N:Int))=((64*N:Nat):Int) by omega]
 refine Zw1 (fun y=>y.length=64*N) ?_ fun bs hb=>(Zv1 (by omega) hb N 0 fu [] rfl (by omega) (by unfold fu;omega) rfl).mono fun y hy=>by unfold nW;rw [hy.2,hT];omega
 unfold DD DD.S
 refine Yui (fP (fun _=>fe (by rw [show Int.toNat ((64*N:Nat):Int)=64*N from rfl];omega) ?_) fun h=>by rw [Cq (by omega)] at h;cases h)
 exact Zor l hM hl (N:=64*N) l.length 0 fu _ rfl (by omega) (by unfold fu;omega) (by unfold fu;omega) (by rw [AK];rfl)
end Go.AM.Pure
end

section
/- Lists of places: the best form, its spans; the document's spans. -/
namespace Go.AM.Pure
open Go.AM
def KX (l:List (Int×Int)):Int:=
 if 8*nW l<8*(l.length:Int) then (if 2*((BF l).length:Int)<8*nW l then 3 else 2) else (if 2*((BF l).length:Int)<8*(l.length:Int) then 3 else 1)
theorem fa (l:List (Int×Int)):KX l=1∨KX l=2∨KX l=3:=by unfold KX;split <;> split <;> simp
theorem Zt1 {l:List (Int×Int)} (hM:C3 (-1) l) (hl:l.length≤65536):X1 l=some [0,8*(l.length:Int),8*nW l,2*((BF l).length:Int)]:=by
 have Xh:=U1 hM (Int.le_refl _)
 have CE:=OA hM
 unfold X1
 rw [dy hM (by omega),Ad,Ad,AW,Dn (by omega),Jg (a:=8) (b:=(l.length:Int)) (by omega),Jg (a:=2) (b:=((BF l).length:Int)) (by omega)]
 by_cases h0:l.length=0
 ·rw [GM (by omega),Ac,AI h0]
  rfl
 ·have h1:=hM.mem (Aq (show l.length-1<l.length by omega))
  rw [← Rq l (by omega)] at h1
  obtain ⟨T,hT⟩:=Int.eq_ofNat_of_zero_le (show 0≤Ku l-1 by omega)
  rw [Cq (by omega),Aa,show ((l.length:Int)-1)=((l.length-1:Nat):Int) by omega,Bf (by omega),Aa,Bz (by omega),← Rq l (by omega),Dn (by omega),hT,show (64:Int)=((64:Nat):Int) from rfl,tM T 64 (by omega),Bj (by omega),Jg (by omega)]
  have:((T / 64:Nat):Int)+1=nW l:=by unfold nW;omega
  rw [this]
theorem Zrm (o:List (Int×Int)→Int→Int×List (Int×Int)×List Int×List Int→Option ((Int×List (Int×Int)×List Int×List Int)×Int)) (l:List (Int×Int)) (z:Int×List (Int×Int)×List Int×List Int) (n:Nat):
  DB.l0 o (n+1+1+1) l 1 2 z [0,8*(l.length:Int),8*nW l,2*((BF l).length:Int)]=o l (KX l) z:=by
 show DB.S0 _ _ _ _ _ _ _=_
 unfold DB.S0
 rw [Cq (by omega),Aa,Bf (by omega),show (decide (4=[0,8*(l.length:Int),8*nW l,2*((BF l).length:Int)].length))=true from rfl,AB,Aa,Bf (by omega),AB,Aa,show Int.toNat 2=2 from rfl,show Int.toNat 1=1 from rfl,show AQ .i64 2 1=3 from rfl]
 show (bif AS (8*nW l) (8*(l.length:Int)) then DB.S0 _ _ _ _ _ _ _ else DB.S0 _ _ _ _ _ _ _)=_
 unfold DB.S0
 rw [Cq (by omega),Aa,Bf (by omega),show (decide (4=[0,8*(l.length:Int),8*nW l,2*((BF l).length:Int)].length))=true from rfl,AB,Aa,Bf (by omega),AB,Aa,Bf (by omega),AB,Aa,show Int.toNat 2=2 from rfl,show Int.toNat 1=1 from rfl,show Int.toNat 3=3 from rfl,show AQ .i64 3 1=4 from rfl]
 show (bif AS (8*nW l) (8*(l.length:Int)) then (bif AS (2*((BF l).length:Int)) (8*nW l) then DB.S0 _ _ _ _ _ _ _ else DB.S0 _ _ _ _ _ _ _) else (bif AS (2*((BF l).length:Int)) (8*(l.length:Int)) then DB.S0 _ _ _ _ _ _ _ else DB.S0 _ _ _ _ _ _ _))=_
 unfold DB.S0 KX
 rw [GM (by omega),Ac,Ac,Ac]
 by_cases h1:8*nW l<8*(l.length:Int)
 ·rw [Bl h1,Aa,if_pos h1]
  by_cases h2:2*((BF l).length:Int)<8*nW l
  ·rw [Bl h2,Aa,if_pos h2]
  ·rw [AZ (by omega),Ac,if_neg h2]
 ·rw [AZ (by omega),Ac,if_neg h1]
  by_cases h2:2*((BF l).length:Int)<8*(l.length:Int)
  ·rw [Bl h2,Aa,if_pos h2]
  ·rw [AZ (by omega),Ac,if_neg h2]
theorem Zlj {l:List (Int×Int)} (hM:C3 (-1) l) (hl:l.length≤65536):DB l=OE l (KX l):=by
 unfold DB DB.S
 rw [Ra l (by omega),Af hM,Ad,Bool.not_true,Ac,Zt1 hM hl,Ad]
 refine (Zrm (DB.t1 fu) l (0,[],[],[]) 18446744073709551613).trans ?_
 show (OE l (KX l)).bind (fun x=>some x)=_
 cases OE l (KX l) <;> rfl
theorem Zhk {l:List (Int×Int)} (hM:C3 (-1) l) (hl:l.length≤65536):Fi l=some (KX l):=by
 have Xh:=U1 hM (Int.le_refl _)
 have CE:=OA hM
 have c1:OF l 1=some (8*(l.length:Int)):=by
  unfold OF
  rw [B0 rfl,Aa,AW,Jg (by omega)]
 have c2:OF l 2=some (8*nW l):=by
  unfold OF
  obtain ⟨y,h1,h2⟩:=Zil hM (by omega)
  rw [BU (by omega),Ac,B0 rfl,Aa,h1,Ad,AW,h2]
  have:0≤nW l∧nW l≤1024:=by unfold nW;omega
  rw [Jg (by omega)]
 have c3:OF l 3=some (2*((BF l).length:Int)):=by
  unfold OF
  rw [BU (by omega),Ac,BU (by omega),Ac,B0 rfl,Aa,Zmj hM (by omega),Ad,AW,Jg (a:=2) (b:=((BF l).length:Int)) (by omega)]
 have st:∀ (n:Nat),Fi.l0 (n+1+1+1) l 1 2=some (KX l):=by
  intro n
  show Fi.S0 _ _ _ _=_
  unfold Fi.S0
  rw [Cq (by omega),Aa,c1,c2,Ad,Ad,show AQ .i64 2 1=3 from rfl]
  show (bif AS (8*nW l) (8*(l.length:Int)) then Fi.S0 _ _ _ _ else Fi.S0 _ _ _ _)=_
  unfold Fi.S0
  rw [Cq (by omega),Aa,Aa,c1,c2,c3,Ad,Ad,Ad,Ad,show AQ .i64 3 1=4 from rfl]
  show (bif AS (8*nW l) (8*(l.length:Int)) then (bif AS (2*((BF l).length:Int)) (8*nW l) then Fi.S0 _ _ _ _ else Fi.S0 _ _ _ _) else (bif AS (2*((BF l).length:Int)) (8*(l.length:Int)) then Fi.S0 _ _ _ _ else Fi.S0 _ _ _ _))=_
  unfold Fi.S0 KX
  rw [GM (by omega),Ac,Ac,Ac]
  by_cases h1:8*nW l<8*(l.length:Int)
  ·rw [Bl h1,Aa,if_pos h1]
   by_cases h2:2*((BF l).length:Int)<8*nW l
   ·rw [Bl h2,Aa,if_pos h2]
   ·rw [AZ (by omega),Ac,if_neg h2]
  ·rw [AZ (by omega),Ac,if_neg h1]
   by_cases h2:2*((BF l).length:Int)<8*(l.length:Int)
   ·rw [Bl h2,Aa,if_pos h2]
   ·rw [AZ (by omega),Ac,if_neg h2]
 exact st 18446744073709551613
theorem Zu1 {l:List (Int×Int)} (hM:C3 (-1) l) (hl:l.length≤65536) {form:Int} (hf:form=1∨form=2∨form=3):∃ x,OE l form=some (x,0)∧x.1=form∧MN x=some l:=by
 have CE:=OA hM
 unfold OE
 rw [Ra l (by omega),Af hM,Ad,Bool.not_true,Ac]
 rcases hf with rfl | rfl | rfl
 ·rw [B0 rfl,Aa,show MY 16 l=some l from by unfold MY;rw [B7 (by omega)];rfl,Ad]
  refine ⟨_,rfl,rfl,?_⟩
  show MN (1,l,[],[])=_
  unfold MN
  rw [BU (by omega),Ac,BU (by omega),Ac,show MY 16 l=some l from by unfold MY;rw [B7 (by omega)];rfl]
  rfl
 ·obtain ⟨W,h1,h2,h3,h4,h5⟩:=oK hM (by omega)
  rw [BU (by omega),Ac,B0 rfl,Aa,h1,Ad]
  refine ⟨_,rfl,rfl,?_⟩
  show MN (2,[],W,[])=_
  have hw:=dP W 0
  rw [h5] at hw
  unfold MN UQ
  rw [B0 rfl,Aa,h4,Ad,Aa]
  show (Option.bind (LD ((0:Nat):Int) W) _).bind _=_
  rw [hw,Ad,Af h3,Af (by omega),AB,Aa,Ad]
  exact congrArg some (pn hM)
 ·rw [BU (by omega),Ac,BU (by omega),Ac,B0 rfl,Aa,nZ hM (by omega),Ad]
  refine ⟨_,rfl,rfl,?_⟩
  show MN (3,[],[],BF l)=_
  unfold MN
  rw [BU (by omega),Ac,B0 rfl,Aa,p0 (oL hM) CE,Ad]
  exact congrArg some (pn hM)
theorem fO:∀ (ps:List Int),(Et ps).length≤ps.length:=by
 refine fun ps=>Vd (p:=fun ps=>(Et ps).length≤ps.length) (by decide) ?_ ps
 intro l a h
 rw [YT,Ae]
 unfold IL
 cases (Et l).getLast? with
 | none=>simp
 | some k=>
  dsimp only
  cases AR k.2 a
  ·simp;omega
  ·simp;omega
theorem Yqi {ps:List Int} (h:Rise ps) (hl:ps.length≤65536):∃ x,Lt ps=some (x,0)∧x.1=KX (Et ps)∧Zcg x ps∧MN x=some (Et ps):=by
 obtain ⟨hM,hp,_⟩:=Tb ps h
 have Jq:=fO ps
 obtain ⟨x,h1,h2,h3⟩:=Zu1 hM (by omega) (fa (Et ps))
 obtain ⟨x',QV,_,Nj⟩:=Ysi hM (by omega) (fa (Et ps))
 have:x'=x:=by rw [h1] at QV;exact (congrArg Prod.fst (Option.some.inj QV)).symm
 subst this
 refine ⟨x',?_,h2,by rw [← hp];exact Nj,h3⟩
 unfold Lt
 rw [p0 h hl,Ad]
 dsimp only
 rw [Cu rfl,Ac,Zlj hM (by omega),h1]
 rfl
end Go.AM.Pure
end

section
/- The document's spans of truths; the document's Sift. -/
namespace Go.AM.Pure
open Go.AM
theorem Ydq (l:List (Int×Int)) (hl:l.length≤65536):FZ l l=some true:=by
 have loop:∀ (d i n:Nat),d=l.length-i→i≤l.length→d<n→FZ.l0 n l l (i:Int)=some true:=by
  intro d
  induction d with
  | zero=>
   intro i n hd hi hn
   obtain ⟨n,rfl⟩:∃ m,n=m+1:=⟨n-1,by omega⟩
   show FZ.S0 _ _ _ _=_
   unfold FZ.S0
   rw [AZ (by rw [AW];omega),Ac]
  | succ d ih=>
   intro i n hd hi hn
   obtain ⟨n,rfl⟩:∃ m,n=m+1:=⟨n-1,by omega⟩
   show FZ.S0 _ _ _ _=_
   unfold FZ.S0
   rw [Bl (by rw [AW];omega),Aa,Bf (by rw [AW];omega),Aa,Aa,B0 rfl,B0 rfl,Bool.and_self,Bool.not_true,Ac,Bj (by omega),show ((i:Int)+1)=((i+1:Nat):Int) by omega]
   exact ih (i+1) n (by omega) (by omega) (by omega)
 unfold FZ FZ.S
 rw [Cu rfl,Ac]
 exact loop l.length 0 fu rfl (by omega) (by unfold fu;omega)
def GP (f:Nat→Bool) (n:Nat):List Int:=Ir ((List.range n).filter f)
theorem YS (f:Nat→Bool) (n:Nat):GP f (n+1)=GP f n++(if f n then [(n:Int)] else []):=by
 unfold GP Ir
 rw [List.range_succ,List.filter_append,AE]
 cases h:f n <;> simp [h]
theorem tK {f:Nat→Bool} {n:Nat} {p:Int} (h:p∈GP f n):∃ k:Nat,p=(k:Int)∧k<n∧f k=true:=by
 unfold GP Ir at h
 obtain ⟨k,hk,rfl⟩:=List.mem_map.1 h
 have:=List.mem_filter.1 hk
 exact ⟨k,rfl,List.mem_range.1 this.1,this.2⟩
theorem rD (f:Nat→Bool) {n:Nat} (hn:n≤65536):Rise (GP f n):=
 ⟨pZ ((List.pairwise_lt_range).sublist List.filter_sublist),fun p hp=>by
  obtain ⟨k,rfl,hk,_⟩:=tK hp
  omega⟩
theorem Yri (f:Nat→Bool) (n:Nat):(GP f n).length≤n:=by
 unfold GP Ir
 rw [Ai]
 exact Nat.le_trans (List.length_filter_le _ _) (by simp)
theorem en {f g:Nat→Bool} {n:Nat} (h:∀ k,k<n→f k=g k):GP f n=GP g n:=by
 unfold GP
 congr 1
 exact List.filter_congr fun k hk=>h k (List.mem_range.1 hk)
theorem rF {ps:List Int} (h:Rise ps) {k:Int×Int} (hk:(Et ps).getLast? = some k):∃ p,ps.getLast? = some p∧k.2=p+1:=by
 have h3:=(Tb ps h).2.2
 rw [hk] at h3
 cases hg:ps.getLast? with
 | none=>rw [hg] at h3;cases h3
 | some z=>rw [hg] at h3;exact ⟨z,rfl,Option.some.inj h3⟩
theorem Zuj (bs:List Bool) (hl:bs.length≤65536):GX bs=some (Et (GP (fun k=>bs.getD k false) bs.length)):=by
 have hf:∀ {i:Nat} (h:i<bs.length),bs.getD i false=bs[i]:=fun h=>by rw [Ax,Ap h];rfl
 have loop:∀ (d i n:Nat),d=bs.length-i→i≤bs.length→d<n→GX.l0 n bs (i:Int) (Et (GP (fun k=>bs.getD k false) i))=some (Et (GP (fun k=>bs.getD k false) bs.length)):=by
  intro d
  induction d with
  | zero=>
   intro i n hd hi hn
   obtain ⟨n,rfl⟩:∃ m,n=m+1:=⟨n-1,by omega⟩
   have:i=bs.length:=by omega
   subst this
   show GX.S0 _ _ _ _=_
   unfold GX.S0
   rw [AZ (by rw [AW];omega),Ac]
  | succ d ih=>
   intro i n hd hi hn
   obtain ⟨n,rfl⟩:∃ m,n=m+1:=⟨n-1,by omega⟩
   have AO:i<bs.length:=by omega
   have hR:=rD (fun k=>bs.getD k false) (show i≤65536 by omega)
   have hN:=ih (i+1) n (by omega) (by omega) (by omega)
   have Jq:=fO (GP (fun k=>bs.getD k false) i)
   have Lf:=Yri (fun k=>bs.getD k false) i
   rw [YS,hf AO] at hN
   show GX.S0 _ _ _ _=_
   unfold GX.S0
   rw [Bl (by rw [AW];omega),Aa,Bf (by rw [AW];omega),Aa,Bz AO,Bj (by omega),show ((i:Int)+1)=((i+1:Nat):Int) by omega]
   cases hb:bs[i] with
   | false=>
    rw [hb,if_neg (by simp),Ay] at hN
    rw [Bool.not_false,Aa]
    exact hN
   | true=>
    rw [hb,if_pos rfl,YT] at hN
    rw [Bool.not_true,Ac]
    have Ni:IL (Et (GP (fun k=>bs.getD k false) i)) (i:Int)=Et (GP (fun k=>bs.getD k false) i)++[((i:Int),(i:Int)+1)]∨(0<i∧bs.getD (i-1) false=true∧∃ L k,Et (GP (fun k=>bs.getD k false) i)=L++[k]∧k.2=(i:Int)):=by
     rcases List.eq_nil_or_concat (Et (GP (fun k=>bs.getD k false) i)) with e | ⟨L,k,e⟩
     ·rw [e];exact .inl rfl
     ·by_cases hk:k.2=(i:Int)
      ·right
       obtain ⟨p,hp,Uh⟩:=rF hR (k:=k) (by rw [e];simp)
       obtain ⟨j,rfl,hj,hfj⟩:=tK (List.mem_of_getLast? hp)
       have:j=i-1:=by omega
       subst this
       exact ⟨by omega,hfj,L,k,by rw [e,List.concat_eq_append],hk⟩
      ·left
       rw [e,List.concat_eq_append,dO,if_neg hk]
    have M3:0<i→bs.getD (i-1) false=true→∃ L k,Et (GP (fun k=>bs.getD k false) i)=L++[k]∧k.2=(i:Int):=by
     intro h0 hp
     rcases List.eq_nil_or_concat (Et (GP (fun k=>bs.getD k false) i)) with e | ⟨L,k,e⟩
     ·exfalso
      have h2:=(Tb _ hR).2.1
      rw [e] at h2
      rw [show i=(i-1)+1 by omega,YS,if_pos hp] at h2
      have:=congrArg List.length h2
      simp [BF] at this
     ·refine ⟨L,k,by rw [e,List.concat_eq_append],?_⟩
      obtain ⟨p,Px,Uh⟩:=rF hR (k:=k) (by rw [e];simp)
      rw [show i=(i-1)+1 by omega,YS,if_pos hp,List.getLast?_append,List.getLast?_singleton] at Px
      have:((i-1:Nat):Int)=p:=Option.some.inj Px
      omega
    by_cases h0:0<i
    ·rw [Bl (by omega),Aa,Dn (by omega),Bf (by rw [AW];omega),Aa,show ((i:Int)-1)=((i-1:Nat):Int) by omega,tL]
     cases hp:bs.getD (i-1) false with
     | true=>
      obtain ⟨L,k,e,hk⟩:=M3 h0 hp
      rw [e,dO,if_pos hk] at hN
      have hLl:L.length<65536:=by rw [e,Ae,AG] at Jq;omega
      have hg:(L++[k]).getD L.length (0,0)=k:=by rw [Ax,Aw (Ah _)];simp
      rw [Aa,e,AW,Ae,AG,Dn (by omega),show (((L.length+1:Nat):Int)-1)=((L.length:Nat):Int) by omega,Bf (by omega),Aa,Aa,show Int.toNat (L.length:Int)=L.length from rfl,hg,List.set_append_right _ _ (Ah _),Nat.sub_self,List.set_cons_zero,hk,Bj (by omega)]
      exact hN
     | false=>
      rcases Ni with Ni | ⟨_,h2,_⟩
      ·rw [Ni] at hN
       rw [Ac,B7 (by omega),Aa]
       exact hN
      ·rw [hp] at h2;cases h2
    ·rcases Ni with Ni | ⟨h2,_⟩
     ·rw [Ni] at hN
      rw [AZ (by omega),Ac,B7 (by omega),Aa]
      exact hN
     ·omega
 exact loop bs.length 0 fu rfl (by omega) (by unfold fu;omega)
theorem Zgk (l:List Cell) (hl:l.length≤65536) (t:Int×Cell):FY l t=some (Et (GP (fun k=>MQ t (nth l (k:Int) (0,0,eB))) l.length)):=by
 have loop:∀ (d i n:Nat) (s:List Bool),d=l.length-i→i≤l.length→d<n→s.length=l.length→(∀ k,k<i→s.getD k false=MQ t (nth l (k:Int) (0,0,eB)))→FY.l0 n l (i:Int) t s=some (Et (GP (fun k=>MQ t (nth l (k:Int) (0,0,eB))) l.length)):=by
  intro d
  induction d with
  | zero=>
   intro i n s hd hi hn hs hk
   obtain ⟨n,rfl⟩:∃ m,n=m+1:=⟨n-1,by omega⟩
   show FY.S0 _ _ _ _ _=_
   unfold FY.S0
   rw [AZ (by rw [AW];omega),Ac,Zuj s (by omega),Ad,hs,en fun k KA=>hk k (by omega)]
  | succ d ih=>
   intro i n s hd hi hn hs hk
   obtain ⟨n,rfl⟩:∃ m,n=m+1:=⟨n-1,by omega⟩
   show FY.S0 _ _ _ _ _=_
   unfold FY.S0
   rw [Bl (by rw [AW];omega),Aa,Bf (by rw [AW];omega),Aa,Bf (by rw [AW];omega),Aa,Bj (by omega),show ((i:Int)+1)=((i+1:Nat):Int) by omega,show Int.toNat (i:Int)=i from rfl]
   refine ih (i+1) n _ (by omega) (by omega) (by omega) (by rw [List.length_set];exact hs) fun k Xf=>?_
   rw [Ax]
   by_cases h:k=i
   ·subst h
    rw [List.getElem?_set_self (by omega)]
    rfl
   ·rw [List.getElem?_set_ne (Ne.symm h),← Ax]
    exact hk k (by omega)
 unfold FY FY.S
 rw [AW,Cq (by omega),AB,show Int.toNat (l.length:Int)=l.length from rfl,B7 (by omega),Aa]
 exact loop l.length 0 fu _ rfl (by omega) (by unfold fu;omega) (by simp) fun k hk=>absurd hk (by omega)
end Go.AM.Pure
end

section
/- The finders of sift. -/
namespace Go.AM.Pure
open Go.AM
def Cm {α:Type} (p:α→Bool):Nat→List α→List Int
 | _,[]=>[]
 | k,x :: l=>(if p x then [(k:Int)] else [])++Cm p (k+1) l
theorem fc {α:Type} (p:α→Bool):∀ (a b:List α) (k:Nat),Cm p k (a++b)=Cm p k a++Cm p (k+a.length) b
 | [],_,_=>rfl
 | x :: a,b,k=>by
  show (if p x then [(k:Int)] else [])++Cm p (k+1) (a++b)=((if p x then [(k:Int)] else [])++Cm p (k+1) a)++_
  rw [fc p a b (k+1),Al,Aj,show k+1+a.length=k+(a.length+1) by omega]
theorem OL {α:Type} (p:α→Bool) (a:List α) (x:α):Cm p 0 (a++[x])=Cm p 0 a++(if p x then [(a.length:Int)] else []):=by
 rw [fc,Au]
 congr 1
 exact Ay _
theorem Ta {α β:Type} (p:β→Bool) (f:α→β):∀ (l:List α) (k:Nat),Cm p k (l.map f)=Cm (fun x=>p (f x)) k l
 | [],_=>rfl
 | _ :: l,k=>congrArg _ (Ta p f l (k+1))
theorem UP {α:Type} {p q:α→Bool}:∀ (l:List α) (k:Nat),(∀ x∈l,p x=q x)→Cm p k l=Cm q k l
 | [],_,_=>rfl
 | x :: l,k,h=>by
  show (if p x then [(k:Int)] else [])++_=(if q x then [(k:Int)] else [])++_
  rw [h x (Av ..),UP l (k+1) fun y hy=>h y (Az _ hy)]
theorem OS {α:Type} (p:α→Bool):∀ (l:List α) (k:Nat),(Cm p k l).length≤l.length
 | [],_=>Ah _
 | x :: l,k=>by
  have:=OS p l (k+1)
  show ((if p x then [(k:Int)] else [])++_).length≤_
  rw [Ae,Aj]
  split
  ·rw [AG];omega
  ·rw [List.length_nil];omega
theorem e9 {α:Type} {p:α→Bool}:∀ {l:List α} {k:Nat} {x:Int},x∈Cm p k l→(k:Int)≤x∧x<((k+l.length:Nat):Int)
 | [],_,_,h=>by cases h
 | y :: l,k,x,h=>by
  rw [Aj]
  rcases List.mem_append.1 h with h | h
  ·split at h
   ·rw [List.mem_singleton.1 h];omega
   ·cases h
  ·have:=e9 h
   omega
theorem rE {α:Type} (p:α→Bool) (x:α):∀ (n k:Nat),Cm p k (List.replicate n x)=if p x then Ir (List.range' k n) else []
 | 0,k=>by rw [List.replicate_zero];split <;> rfl
 | n+1,k=>by
  rw [List.replicate_succ]
  show (if p x then [(k:Int)] else [])++Cm p (k+1) (List.replicate n x)=_
  rw [rE p x n (k+1),List.range'_succ]
  cases p x <;> rfl
theorem rC {α:Type} (p:α→Bool) (z:α) (l:List α):GP (fun k=>p (nth l (k:Int) z)) l.length=Cm p 0 l:=by
 refine Vd (p:=fun l=>GP (fun k=>p (nth l (k:Int) z)) l.length=Cm p 0 l) rfl (fun l x ih=>?_) l
 rw [OL,← ih,Ae,AG,YS,Bz (by simp),List.getElem_append_right (Ah _)]
 congr 1
 ·exact en fun k hk=>by rw [Bz (by rw [Ae];omega),Bz hk,List.getElem_append_left hk]
 ·simp
theorem Zqm (t:Es) (b:ByteArray):∀ (d a n:Nat) (found:List Int),d<n→found.length+d≤1000000→a+d≤1000000→FT.l0 n ((a+d:Nat):Int) (a:Int) (t,b,found)=some (t,b,found++Ir (List.range' a d)):=by
 intro d
 induction d with
 | zero=>
  intro a n found hn _ _
  obtain ⟨n,rfl⟩:∃ m,n=m+1:=⟨n-1,by omega⟩
  show FT.S0 _ _ _ _=_
  unfold FT.S0
  rw [AZ (by omega),Ac,List.range'_zero]
  simp [Ir]
 | succ d ih=>
  intro a n found hn h1 h2
  obtain ⟨n,rfl⟩:∃ m,n=m+1:=⟨n-1,by omega⟩
  show FT.S0 _ _ _ _=_
  unfold FT.S0
  have hN:=ih (a+1) n (found++[(a:Int)]) (by omega) (by rw [Ae,AG];omega) (by omega)
  rw [Bl (by omega),Aa]
  dsimp only
  rw [B7 (by omega),Aa,Bj (by omega),show ((a:Int)+1)=((a+1:Nat):Int) by omega,show a+(d+1)=a+1+d by omega,hN,Al,List.range'_succ]
  rfl
theorem Yt (t:Es) (b:ByteArray) (found:List Int) {x y:Int} (a d:Nat) (hx:x=(a:Int)) (hy:y=((a+d:Nat):Int)) (h1:found.length+d≤1000000) (h2:a+d≤1000000):FT (t,b,found) x y=some (t,b,found++Ir (List.range' a d)):=by
 subst hx hy
 exact Zqm t b d a fu found (by unfold fu;omega) h1 h2
theorem Zio (t:Es) (b:ByteArray) (l:List Cell) (hl:l.length≤65536):ES (t,b,[]) l=some (t,b,Cm (CG t) 0 (Br l)):=by
 have loop:∀ (d i n:Nat),d=l.length-i→i≤l.length→d<n→ES.l0 n ((Br (l.take i)).length:Int) l (l.length:Int) (i:Int) (t,b,Cm (CG t) 0 (Br (l.take i)))=some (t,b,Cm (CG t) 0 (Br l)):=by
  intro d
  induction d with
  | zero=>
   intro i n hd hi hn
   obtain ⟨n,rfl⟩:∃ m,n=m+1:=⟨n-1,by omega⟩
   show ES.S0 _ _ _ _ _ _=_
   unfold ES.S0
   rw [AZ (by omega),Ac,AF (by omega)]
  | succ d ih=>
   intro i n hd hi hn
   obtain ⟨n,rfl⟩:∃ m,n=m+1:=⟨n-1,by omega⟩
   have AO:i<l.length:=by omega
   have hN:=ih (i+1) n (by omega) (by omega) (by omega)
   have hr:=J0 (l.take i)
   have hf:=OS (CG t) (Br (l.take i)) 0
   rw [Ag] at hr
   rw [take_one AO,UO] at hN
   show ES.S0 _ _ _ _ _ _=_
   unfold ES.S0
   rw [Bl (by omega),Aa,Bf (by rw [AW];omega),Aa,Bz AO,Bj (by omega),Bj (by omega),show ((i:Int)+1)=((i+1:Nat):Int) by omega]
   cases hz:CO l[i] with
   | true=>
    have:AR l[i].1 0=true:=hz
    rw [hz,if_pos rfl,Ay] at hN
    rw [this,Aa]
    exact hN
   | false=>
    have:AR l[i].1 0=false:=hz
    rw [hz,if_neg (by simp),OL,Ae,AG] at hN
    rw [this,Ac]
    dsimp only
    rw [X0,Ad,show (((Br (l.take i)).length:Int)+1)=(((Br (l.take i)).length+1:Nat):Int) by omega]
    cases hm:CG t l[i] with
    | true=>
     rw [hm,if_pos rfl] at hN
     rw [Aa,Yt t b _ (Br (l.take i)).length 1 rfl rfl (by omega) (by omega),Ad]
     exact hN
    | false=>
     rw [hm,if_neg (by simp),Ay] at hN
     rw [Ac]
     exact hN
 exact loop l.length 0 fu rfl (by omega) (by unfold fu;omega)
theorem Zmr (t:Es) (l:List Int) (hl:l.length≤65536) (B1:∀ x∈l,BY x) {b:ByteArray} (hb:Bi b=E8 (Hh l)):FU (t,b,[]) (l.length:Int)=some (t,b,Cm (fun x=>CG t (E7 x)) 0 l):=by
 obtain ⟨_,k2,k3⟩:=NF l hl
 obtain ⟨o,ho⟩:∃ o,Hh l=o:=⟨_,rfl⟩
 rw [ho] at hb k2 k3
 have Fc:=dC o k3 (by rw [k2];exact hl) (fun r hr=>B1 _ (by rw [← k2];exact Ve k3 r hr)) hb
 have HU:=JB o 0 none k3
 rw [k2] at Fc HU
 have loop:∀ (d i n:Nat),d=o.length-i→i≤o.length→d<n→FU.l0 n o (o.length:Int) (i:Int) (t,b,Cm (fun x=>CG t (E7 x)) 0 (Cc (o.take i)))=some (t,b,Cm (fun x=>CG t (E7 x)) 0 l):=by
  intro d
  induction d with
  | zero=>
   intro i n hd hi hn
   obtain ⟨n,rfl⟩:∃ m,n=m+1:=⟨n-1,by omega⟩
   show FU.S0 _ _ _ _ _=_
   unfold FU.S0
   rw [AZ (by omega),Ac,AF (by omega),k2]
  | succ d ih=>
   intro i n hd hi hn
   obtain ⟨n,rfl⟩:∃ m,n=m+1:=⟨n-1,by omega⟩
   have AO:i<o.length:=by omega
   obtain ⟨e1,e2,_,e3,e4⟩:=TA k3 AO
   have hN:=ih (i+1) n (by omega) (by omega) (by omega)
   have hle:(Cc (o.take (i+1))).length≤l.length:=by
    rw [← k2]
    conv=>rhs;rw [← List.take_append_drop (i+1) o,KM,Ae]
    omega
   have hf:=OS (fun x=>CG t (E7 x)) (Cc (o.take i)) 0
   rw [take_one AO,KM,L8,fc,Au,rE] at hN
   show FU.S0 _ _ _ _ _=_
   unfold FU.S0
   rw [Bl (by omega),Aa,Bf (by rw [AW];omega),Aa,Bz AO,Bj (a:=(i:Int)) (b:=1) (by omega),show ((i:Int)+1)=((i+1:Nat):Int) by omega]
   dsimp only
   rw [X0,Ad,show eo o[i].1=E7 o[i].1 from rfl]
   cases hm:CG t (E7 o[i].1) with
   | true=>
    rw [hm,if_pos rfl] at hN
    rw [Aa,Yt t b _ (Cc (o.take i)).length o[i].2.2.toNat e1 (by rw [Bj (by omega)];omega) (by omega) (by omega),Ad]
    exact hN
   | false=>
    rw [hm,if_neg (by simp),Ay] at hN
    rw [Ac]
    exact hN
 unfold FU FU.S
 dsimp only
 rw [Fc,Ad]
 exact loop o.length 0 fu rfl (by omega) (by unfold fu;omega)
end Go.AM.Pure
end

section
/- The finders of sift: dictionaries; where what passes stands. -/
namespace Go.AM.Pure
open Go.AM
theorem Znm (s:ByteArray) (hs:s=eB):PX s 0=some ([],[],0):=by
 unfold PX
 rw [show BW s 0=some ([],[],0) from by
  show BW.S _ s 0=_
  unfold BW.S
  rw [AZ (by omega),Ac,AZ (by omega),Ac,B0 rfl,Aa,KY hs]
  rfl]
 rfl
theorem Zom (t:Es) (b:ByteArray) (P:List Int) (pass:List Bool) (hP:P.length≤65536) (Nh:∀ x∈P,0≤x∧x<(pass.length:Int)):∀ (d i n:Nat),d=P.length-i→i≤P.length→d<n→
  Cv.l2 n P (P.length:Int) (i:Int) pass (t,b,Cm (fun p=>pass.getD p.toNat false) 0 (P.take i))=some (t,b,Cm (fun p=>pass.getD p.toNat false) 0 P):=by
 intro d
 induction d with
 | zero=>
  intro i n hd hi hn
  obtain ⟨n,rfl⟩:∃ m,n=m+1:=⟨n-1,by omega⟩
  show Cv.S2 _ _ _ _ _ _=_
  unfold Cv.S2
  rw [AZ (by omega),Ac,AF (by omega)]
 | succ d ih=>
  intro i n hd hi hn
  obtain ⟨n,rfl⟩:∃ m,n=m+1:=⟨n-1,by omega⟩
  have AO:i<P.length:=by omega
  have hx:=Nh _ (Aq AO)
  have hN:=ih (i+1) n (by omega) (by omega) (by omega)
  have hf:=OS (fun p=>pass.getD p.toNat false) (P.take i) 0
  have Gr:(P.take i).length=i:=by rw [Ag];omega
  rw [take_one AO,OL,Gr] at hN
  show Cv.S2 _ _ _ _ _ _=_
  unfold Cv.S2
  rw [Bl (by omega),Aa,Bf (by rw [AW];omega),Aa,Bz AO,Bf (by rw [AW];exact hx),Aa,Bj (a:=(i:Int)) (b:=1) (by omega),show ((i:Int)+1)=((i+1:Nat):Int) by omega]
  cases hm:pass.getD P[i].toNat false with
  | true=>
   rw [hm,if_pos rfl] at hN
   rw [Aa,Yt t b _ i 1 rfl rfl (by omega) (by omega),Ad]
   exact hN
  | false=>
   rw [hm,if_neg (by simp),Ay] at hN
   rw [Ac]
   exact hN
theorem Zpm (t:Es) (b:ByteArray) (fo:List Int) (P:List Int) (D:List ByteArray) (hD:D.length≤65536) (o:List Int→List Bool→Es×(ByteArray×List Int)→Option (Es×(ByteArray×List Int))) {y:Es×(ByteArray×List Int)}
  (ho:∀ pass:List Bool,pass.length=D.length→(∀ k (h:k<D.length),pass.getD k false=CG t (2,0,D[k]))→o P pass (t,b,fo)=some y):∀ (d i n:Nat) (pass:List Bool),d=D.length-i→i≤D.length→d<n→pass.length=D.length→(∀ k (h:k<D.length),k<i→pass.getD k false=CG t (2,0,D[k]))→
  Cv.l0 o n P D (D.length:Int) (i:Int) pass (t,b,fo)=some y:=by
 intro d
 induction d with
 | zero=>
  intro i n pass hd hi hn hp hk
  obtain ⟨n,rfl⟩:∃ m,n=m+1:=⟨n-1,by omega⟩
  show Cv.S0 _ _ _ _ _ _ _ _=_
  unfold Cv.S0
  rw [AZ (by omega),Ac]
  exact ho pass hp fun k h=>hk k h (by omega)
 | succ d ih=>
  intro i n pass hd hi hn hp hk
  obtain ⟨n,rfl⟩:∃ m,n=m+1:=⟨n-1,by omega⟩
  have AO:i<D.length:=by omega
  show Cv.S0 _ _ _ _ _ _ _ _=_
  unfold Cv.S0
  rw [Bl (by omega),Aa,Bf (by rw [AW];omega),Aa,Bz AO]
  dsimp only
  rw [X0,Ad,Bf (by rw [AW];omega),Aa,Bj (by omega),show ((i:Int)+1)=((i+1:Nat):Int) by omega,show Int.toNat (i:Int)=i from rfl]
  refine ih (i+1) n _ (by omega) (by omega) (by omega) (by rw [List.length_set];exact hp) fun k h Xf=>?_
  rw [Ax]
  by_cases he:k=i
  ·subst he
   rw [List.getElem?_set_self (by omega)]
   rfl
  ·rw [List.getElem?_set_ne (Ne.symm he),← Ax]
   exact hk k h (by omega)
theorem Zr1 (t:Es) (l:List ByteArray) (hl:l.length≤65536) (Ds:Ga l) {b:ByteArray} (hb:Bi b=Md l (C2 (BT l))):Cv (t,b,[]) (l.length:Int)=some (t,b,Cm (fun x=>CG t (2,0,x)) 0 l):=by
 have CE:(BT l).length=l.length:=J1 _ _
 have D3:=MU l
 have Hl:=OD l
 have hpm:∀ x∈BT l,0≤x∧x<((BN l).length:Int):=fun x hx=>Qa Hl x hx
 have key:Cv.l0 (Cv.t1 fu) fu (BT l) (BN l) ((BN l).length:Int) 0 (List.replicate (BN l).length false) (t,b,[])=some (t,b,Cm (fun x=>CG t (2,0,x)) 0 l):=by
  refine Zpm t b [] (BT l) (BN l) (by omega) (Cv.t1 fu) (fun pass hp hk=>?_) (BN l).length 0 fu _ rfl (by omega) (by unfold fu;omega) (by simp) fun k h h0=>absurd h0 (by omega)
  have h2:=Zom t b (BT l) pass (by omega) (fun x hx=>by rw [hp];exact hpm x hx) (BT l).length 0 18446744073709551615 rfl (by omega) (by omega)
  refine Eq.trans h2 ?_
  congr 3
  conv=>rhs;rw [← fb Hl eB,Ta]
  refine UP _ _ fun x hx=>?_
  have h3:=hpm x hx
  have h4:x.toNat<(BN l).length:=by omega
  rw [hk x.toNat h4,Ax,Ap h4]
  rfl
 unfold Cv Cv.S
 dsimp only
 by_cases h0:l.length=0
 ·have Hm:b=eB:=LH.2 (by rw [← DN,hb];unfold Md;rw [if_pos h0];rfl)
  rw [AI h0,show ((([]:List ByteArray).length:Nat):Int)=0 from rfl,Znm b Hm]
  rfl
 ·obtain ⟨k1,k2,k3⟩:=Ic (BT l) (by omega)
  rw [show PX b (l.length:Int)=some (BN l,BT l,0) from by
   unfold PX
   rw [og l hl Ds k2 k3 hb (by omega)]
   rfl,Ad]
  dsimp only
  rw [AW,Cq (by omega),AB,show Int.toNat ((BN l).length:Int)=(BN l).length from rfl,B7 (by omega),Aa]
  exact key
theorem Zjo (l:List Int) (hl:l.length≤65536):Y7 l=some (BP l,Cf l):=by
 cases l with
 | nil=>
  unfold BP
  rw [List.mergeSort_nil]
  rfl
 | cons a l=>exact dq (a :: l) hl (by simp)
theorem Zq1 {t:Es} (hm:IK t=true) (h2:t.1≠2) (l:List Int) (hl:l.length≤65536) (B1:∀ x∈l,BY x) {b:ByteArray} (hb:Bi b=Mj l (C2 (Cf l))):EC (t,b,[]) (l.length:Int)=some (t,b,Cm (fun x=>CG t (E7 x)) 0 l):=by
 have CE:=Oz l
 have D3:=OM l
 obtain ⟨k1,k2,k3⟩:=Ic (Cf l) (by omega)
 obtain ⟨f,g,e,hg,hfg,Xg⟩:=Znr (t:=t) (l:=BP l) (by omega) (fun i h=>List.pairwise_iff_getElem.1 (Lv l).1 i (i+1) (by omega) h (by omega)) hm h2
 have loop:∀ (d i n:Nat),d=(Cf l).length-i→i≤(Cf l).length→d<n→EC.l0 n (f:Int) (g:Int) (Cf l) ((Cf l).length:Int) (i:Int) (t,b,Cm (fun p=>decide ((f:Int)≤p) && decide (p<(g:Int))) 0 ((Cf l).take i))=some (t,b,Cm (fun p=>decide ((f:Int)≤p) && decide (p<(g:Int))) 0 (Cf l)):=by
  intro d
  induction d with
  | zero=>
   intro i n hd hi hn
   obtain ⟨n,rfl⟩:∃ m,n=m+1:=⟨n-1,by omega⟩
   show EC.S0 _ _ _ _ _ _ _=_
   unfold EC.S0
   rw [AZ (by omega),Ac,AF (by omega)]
  | succ d ih=>
   intro i n hd hi hn
   obtain ⟨n,rfl⟩:∃ m,n=m+1:=⟨n-1,by omega⟩
   have AO:i<(Cf l).length:=by omega
   have hN:=ih (i+1) n (by omega) (by omega) (by omega)
   have hf:=OS (fun p=>decide ((f:Int)≤p) && decide (p<(g:Int))) ((Cf l).take i) 0
   have Gr:((Cf l).take i).length=i:=by rw [Ag];omega
   rw [take_one AO,OL,Gr] at hN
   show EC.S0 _ _ _ _ _ _ _=_
   unfold EC.S0
   rw [Bl (by omega),Aa,Bf (by rw [AW];omega),Aa,Bz AO,Bj (a:=(i:Int)) (b:=1) (by omega),show ((i:Int)+1)=((i+1:Nat):Int) by omega]
   by_cases h3:(f:Int)≤(Cf l)[i]
   ·rw [Cq h3,Aa]
    by_cases h4:(Cf l)[i]<(g:Int)
    ·rw [Af h3,Af h4,Bool.and_self,if_pos rfl] at hN
     rw [Bl h4,Aa,Yt t b _ i 1 rfl rfl (by omega) (by omega),Ad]
     exact hN
    ·rw [An h4,Bool.and_false,if_neg (by simp),Ay] at hN
     rw [AZ (by omega),Ac]
     exact hN
   ·rw [An h3,Bool.false_and,if_neg (by simp),Ay] at hN
    rw [GM (by omega),Ac]
    exact hN
 unfold EC EC.S
 dsimp only
 rw [nV l hl B1 k2 k3 hb,Ad]
 dsimp only
 rw [Zjo l hl,Ad]
 dsimp only
 rw [e,Ad]
 refine (loop (Cf l).length 0 fu rfl (by omega) (by unfold fu;omega)).trans ?_
 congr 3
 conv=>rhs;rw [← pY l,Ta]
 refine UP _ _ fun x hx=>?_
 have h3:=UJ x hx
 have h4:x.toNat<(BP l).length:=by omega
 rw [getD_at h4,Xg _ h4,← Bool.decide_and]
 exact decide_eq_decide.2 ⟨fun h=>by omega,fun h=>by omega⟩
end Go.AM.Pure
end

section
/- sift.Sift of a block; the law of blocks. -/
namespace Go.AM.Pure
open Go.AM
def IH (c:Cell):Bool:=!CO c
theorem Zhl (M:Cell→Bool) (l:List Cell):(Cm M 0 (Br l)).map (fun k=>nth (Cm IH 0 l) k 0)=Cm (fun c=>IH c && M c) 0 l∧(Cm IH 0 l).length=(Br l).length:=by
 refine Vd (p:=fun l=>(Cm M 0 (Br l)).map (fun k=>nth (Cm IH 0 l) k 0)=Cm (fun c=>IH c && M c) 0 l∧(Cm IH 0 l).length=(Br l).length) ⟨rfl,rfl⟩ (fun l c ih=>?_) l
 obtain ⟨h1,h2⟩:=ih
 rw [UO,OL,OL]
 cases hc:CO c with
 | true=>
  rw [if_pos rfl,show IH c=false from by unfold IH;rw [hc];rfl,Bool.false_and,if_neg (by simp),Ay,Ay,Ay]
  exact ⟨h1,h2⟩
 | false=>
  rw [show IH c=true from by unfold IH;rw [hc];rfl,AB,if_pos rfl,if_neg (show ¬ (false=true) by simp),OL,AE,← h1]
  refine ⟨?_,by rw [Ae,Ae,h2];rfl⟩
  congr 1
  ·apply List.map_congr_left
   intro k hk
   have hm:=e9 hk
   obtain ⟨j,rfl⟩:=Int.eq_ofNat_of_zero_le (show 0≤k by omega)
   rw [Bz (show j<(Cm IH 0 l++[(l.length:Int)]).length by rw [Ae];omega),Bz (show j<(Cm IH 0 l).length by omega),List.getElem_append_left]
  ·cases M c with
   | false=>rfl
   | true=>
    show [nth _ ((Br l).length:Int) 0]=[(l.length:Int)]
    rw [Bz (by rw [Ae,AG];omega),List.getElem_append_right (by omega)]
    simp
theorem Zkr (M:Cell→Bool) (l:List Cell) (hl:l.length≤65536):CJ l (Cm M 0 (Br l))=some (Cm (fun c=>IH c && M c) 0 l):=by
 obtain ⟨h1,h2⟩:=Zhl M l
 obtain ⟨S,hS⟩:∃ S,Cm IH 0 l=S:=⟨_,rfl⟩
 obtain ⟨F,hF⟩:∃ F,Cm M 0 (Br l)=F:=⟨_,rfl⟩
 have hFm:∀ x∈F,0≤x∧x<(S.length:Int):=fun x hx=>by
  rw [← hF] at hx
  have:=e9 hx
  rw [← hS,h2]
  omega
 have hFl:F.length≤65536:=by
  rw [← hF]
  have:=OS M (Br l) 0
  have:=J0 l
  omega
 rw [hF]
 rw [hF,hS] at h1
 have Yzw:∀ (d i n:Nat),d=F.length-i→i≤F.length→d<n→CJ.l2 n S ((F.take i).map fun k=>nth S k 0) F (F.length:Int) (i:Int)=some (F.map fun k=>nth S k 0):=by
  intro d
  induction d with
  | zero=>
   intro i n hd hi hn
   obtain ⟨n,rfl⟩:∃ m,n=m+1:=⟨n-1,by omega⟩
   show CJ.S2 _ _ _ _ _ _=_
   unfold CJ.S2
   rw [AZ (by omega),Ac,AF (by omega)]
  | succ d ih=>
   intro i n hd hi hn
   obtain ⟨n,rfl⟩:∃ m,n=m+1:=⟨n-1,by omega⟩
   have AO:i<F.length:=by omega
   have hN:=ih (i+1) n (by omega) (by omega) (by omega)
   rw [take_one AO,AE] at hN
   show CJ.S2 _ _ _ _ _ _=_
   unfold CJ.S2
   rw [Bl (by omega),Aa,Bf (by rw [AW];omega),Aa,Bz AO,Bf (by rw [AW];exact hFm _ (Aq AO)),Aa,B7 (by rw [Ai,Ag];omega),Aa,Bj (by omega),show ((i:Int)+1)=((i+1:Nat):Int) by omega]
   exact hN
 have kt:∀ (d i n:Nat),d=l.length-i→i≤l.length→d<n→CJ.l0 (CJ.t1 fu) n F (Cm IH 0 (l.take i)) l (l.length:Int) (i:Int)=some (F.map fun k=>nth S k 0):=by
  intro d
  induction d with
  | zero=>
   intro i n hd hi hn
   obtain ⟨n,rfl⟩:∃ m,n=m+1:=⟨n-1,by omega⟩
   show CJ.S0 _ _ _ _ _ _ _=_
   unfold CJ.S0
   rw [AZ (by omega),Ac,AF (by omega),hS]
   exact Yzw F.length 0 18446744073709551615 rfl (by omega) (by omega)
  | succ d ih=>
   intro i n hd hi hn
   obtain ⟨n,rfl⟩:∃ m,n=m+1:=⟨n-1,by omega⟩
   have AO:i<l.length:=by omega
   have hN:=ih (i+1) n (by omega) (by omega) (by omega)
   have hf:=OS IH (l.take i) 0
   have Gr:(l.take i).length=i:=by rw [Ag];omega
   rw [take_one AO,OL,Gr] at hN
   show CJ.S0 _ _ _ _ _ _ _=_
   unfold CJ.S0
   rw [Bl (by omega),Aa,Bf (by rw [AW];omega),Aa,Bz AO,B7 (by omega),Aa,Bj (by omega),show ((i:Int)+1)=((i+1:Nat):Int) by omega]
   cases hz:IH l[i] with
   | true=>
    rw [hz,if_pos rfl] at hN
    have:By l[i].1 0=true:=hz
    rw [this,Aa]
    exact hN
   | false=>
    rw [hz,if_neg (by simp),Ay] at hN
    have:By l[i].1 0=false:=hz
    rw [this,Ac]
    exact hN
 rw [← h1]
 exact kt l.length 0 fu rfl (by omega) (by unfold fu;omega)
theorem Zlr (l:List Cell) (hl:l.length≤65536) (z:Int×List (Int×Int)×List Int×List Int):B5.l0 (B5.t1 fu) fu [] l (l.length:Int) 0 z=Lt (Cm CO 0 l):=by
 have kt:∀ (d i n:Nat),d=l.length-i→i≤l.length→d<n→B5.l0 (B5.t1 fu) n (Cm CO 0 (l.take i)) l (l.length:Int) (i:Int) z=Lt (Cm CO 0 l):=by
  intro d
  induction d with
  | zero=>
   intro i n hd hi hn
   obtain ⟨n,rfl⟩:∃ m,n=m+1:=⟨n-1,by omega⟩
   show B5.S0 _ _ _ _ _ _ _=_
   unfold B5.S0
   rw [AZ (by omega),Ac,AF (by omega)]
   show (Lt (Cm CO 0 l)).bind (fun x=>some x)=_
   cases Lt (Cm CO 0 l) <;> rfl
  | succ d ih=>
   intro i n hd hi hn
   obtain ⟨n,rfl⟩:∃ m,n=m+1:=⟨n-1,by omega⟩
   have AO:i<l.length:=by omega
   have hN:=ih (i+1) n (by omega) (by omega) (by omega)
   have hf:=OS CO (l.take i) 0
   have Gr:(l.take i).length=i:=by rw [Ag];omega
   rw [take_one AO,OL,Gr] at hN
   show B5.S0 _ _ _ _ _ _ _=_
   unfold B5.S0
   rw [Bl (by omega),Aa,Bf (by rw [AW];omega),Aa,Bz AO,B7 (by omega),Aa,Bj (by omega),show ((i:Int)+1)=((i+1:Nat):Int) by omega]
   cases hz:CO l[i] with
   | true=>
    rw [hz,if_pos rfl] at hN
    have:AR l[i].1 0=true:=hz
    rw [this,Aa]
    exact hN
   | false=>
    rw [hz,if_neg (by simp),Ay] at hN
    have:AR l[i].1 0=false:=hz
    rw [this,Ac]
    exact hN
 exact kt l.length 0 fu rfl (by omega) (by unfold fu;omega)
theorem Ycq {t:Es} (hm:IK t=true) (h7:t.1=7) (c:Cell):CG t c=CO c:=by
 unfold CG
 rw [hm,if_pos h7,AB]
 rfl
theorem Zho {t:Es} (h7:t.1≠7) (c:Cell):(IH c && CG t c)=CG t c:=by
 unfold CG
 rw [if_neg h7]
 by_cases h:c.1=0
 ·rw [An (show ¬ c.1≠0 by omega),Bool.false_and,Bool.and_false,Bool.and_false]
 ·rw [show IH c=true from by show (!(AR c.1 0))=true;rw [BU h];rfl,AB]
theorem Yoi {s b m:ByteArray} {l:List Cell} {kind code:Int} {vb:List Int} (hm:Hz l kind) (B1:∀ c∈l,BY c.2.1) (hv:HD (Br l) kind code=some vb) (hb:Bi b=vb)
  (k1:Kj s=some (l,0)) (k2:OC s=some ((kind,code,(l.length:Int),((l.length-(Br l).length:Nat):Int)),0)) (k3:SS s=some (b,m,0)) {t:Es} (ht:IK t=true):B5 s t=Lt (Cm (CG t) 0 l):=by
 have hle:=J0 l
 have hl:=hm.2.1
 unfold B5 B5.S
 rw [XZ,if_pos ht,Cu rfl,Ac,k2,Ad]
 dsimp only
 rw [Cu rfl,Ac,k1,Ad]
 by_cases h7:t.1=7
 ·rw [B0 h7,Aa]
  refine (Zlr l (by omega) _).trans ?_
  rw [UP l 0 fun c _=>(Ycq ht h7 c).symm]
 rw [BU h7,Ac]
 have fin:∀ (z:Int×List (Int×Int)×List Int×List Int) (bb:ByteArray),B5.S3 l z (t,bb,Cm (CG t) 0 (Br l))=Lt (Cm (CG t) 0 l):=by
  intro z bb
  unfold B5.S3
  dsimp only
  rw [Zkr (CG t) l (by omega),Ad,UP l 0 fun c _=>Zho h7 c]
  cases Lt (Cm (CG t) 0 l) <;> rfl
 have VB:ES (t,b,[]) l=some (t,b,Cm (CG t) 0 (Br l)):=Zio t b l (by omega)
 have Ka:Be .i64 (l.length:Int) ((l.length-(Br l).length:Nat):Int)=((Br l).length:Int):=by rw [Dn (by omega)];omega
 have hn:kind=1→Br l=(J6 (Br l)).map E7:=fun hk=>by
  rw [List.map_map]
  conv=>lhs;rw [← List.map_id (Br l)]
  apply List.map_congr_left
  intro c hc
  rcases VC hm c hc with ⟨_,n,rfl⟩ | ⟨h,_⟩
  ·rfl
  ·omega
 have hx:kind=2→Br l=(KW (Br l)).map fun x=>(2,0,x):=fun hk=>by
  rw [List.map_map]
  conv=>lhs;rw [← List.map_id (Br l)]
  apply List.map_congr_left
  intro c hc
  rcases VC hm c hc with ⟨h,_⟩ | ⟨_,x,rfl,_⟩
  ·omega
  ·rfl
 have Zbg:∀ x∈J6 (Br l),BY x:=fun x hx=>by
  obtain ⟨c,hc,rfl⟩:=List.mem_map.1 hx
  unfold Br at hc
  exact B1 c (List.mem_filter.1 hc).1
 have FP:(J6 (Br l)).length=(Br l).length:=Ai ..
 have Lf:(KW (Br l)).length=(Br l).length:=Ai ..
 have Yax:kind=1→code=2→FU (t,b,[]) ((Br l).length:Int)=some (t,b,Cm (CG t) 0 (Br l)):=fun hk hc=>by
  unfold HD LL at hv
  rw [if_pos hk,if_neg (by omega),if_pos hc] at hv
  cases hv
  have h:=Zmr t (J6 (Br l)) (by omega) Zbg hb
  rw [FP,← Ta (CG t) E7,← hn hk] at h
  exact h
 have hints:kind=1→code=4→t.1≠2→EC (t,b,[]) ((Br l).length:Int)=some (t,b,Cm (CG t) 0 (Br l)):=fun hk hc h2=>by
  unfold HD LL at hv
  rw [if_pos hk,if_neg (by omega),if_neg (by omega),if_neg (by omega),if_pos hc] at hv
  cases hv
  have h:=Zq1 ht h2 (J6 (Br l)) (by omega) Zbg hb
  rw [FP,← Ta (CG t) E7,← hn hk] at h
  exact h
 have Ybx:kind=2→code=4→Cv (t,b,[]) ((Br l).length:Int)=some (t,b,Cm (CG t) 0 (Br l)):=fun hk hc=>by
  unfold HD M1 at hv
  rw [if_neg (by omega),if_neg (by omega),if_pos hc] at hv
  cases hv
  have h:=Zr1 t (KW (Br l)) (by omega) (U0 hm) hb
  rw [Lf,← Ta (CG t) (fun x=>((2,0,x):Cell)),← hx hk] at h
  exact h
 show B5.S2 (B5.t3 18446744073709551615) _ _ _ _ _=_
 unfold B5.S2
 rw [k3,Ad]
 dsimp only
 rw [Ka,VB]
 have T3:∀ (x:Option (Es×ByteArray×List Int)) (z:Int×List (Int×Int)×List Int×List Int),x=some (t,b,Cm (CG t) 0 (Br l))→x.bind (fun y=>B5.t3 18446744073709551615 l z y)=Lt (Cm (CG t) 0 l):=by
  rintro _ z rfl
  exact fin z b
 by_cases B2:code=2
 ·rw [B0 B2,Aa,BU (show code≠4 by omega),Ac,Ac]
  rcases hm.2.2.1 with hk | hk
  ·rw [B0 hk,Aa]
   exact T3 _ _ (Yax hk B2)
  ·rw [BU (by omega),Ac]
   exact T3 _ _ rfl
 ·rw [BU B2,Ac]
  by_cases ck:code=4
  ·rw [B0 ck,Aa,Aa]
   rcases hm.2.2.1 with hk | hk
   ·rw [BU (by omega),Ac]
    by_cases h2:t.1=2
    ·rw [Cu h2,Ac]
     exact T3 _ _ rfl
    ·rw [Jl h2,Aa]
     exact T3 _ _ (hints hk ck h2)
   ·rw [B0 hk,Aa]
    exact T3 _ _ (Ybx hk ck)
  ·rw [BU ck,Ac,Ac]
   exact T3 _ _ rfl
theorem Ypi (s:ByteArray) {t:Es} (ht:¬ IK t=true):B5 s t=some ((0,[],[],[]),1):=by
 unfold B5 B5.S
 rw [XZ,if_neg ht,Jl (by decide),Aa]
theorem ow {l:List Cell} (hl:l.length≤64) (B1:∀ c∈l,BY c.2.1) (code:Int) (t:Es) (self:E3.A0) (kind:Int) (hk:kind=1∨kind=2):
  E3.S0 self l code kind t=self l code (kind+1) t:=by
 unfold E3.S0
 have Ig:AQ .i64 kind 1=kind+1:=Bj (by omega)
 rw [Cq (by omega),Aa,Ig]
 rcases Zs1 (show l.length≤70 by omega) B1 kind code with ⟨_,h2⟩ | ⟨b,hm,hv,_,h2⟩
 ·rw [h2,Ad]
  dsimp only
  rw [Jl (by omega),Aa]
 ·obtain ⟨k1,k2,k3⟩:=ox (rB hm B1 hv)
  rw [h2,Ad]
  dsimp only
  rw [Cu rfl,Ac,oy]
  by_cases ht:IK t=true
  ·have hR:Rise (Cm (CG t) 0 l):=by
    rw [← rC (CG t) (0,0,eB) l]
    exact rD _ (by omega)
   have HQ:=OS (CG t) l 0
   obtain ⟨x,h3,h4,_,h5⟩:=Yqi hR (by omega)
   have Jq:=fO (Cm (CG t) 0 l)
   have Yi2:FY l t=some (Et (Cm (CG t) 0 l)):=by
    rw [Zgk l (by omega) t,en (fun k _=>Ztj t _),rC (CG t) (0,0,eB) l]
   rw [Yoi hm B1 hv (MO (YR hm hv).1) k1 k2 k3 ht,h3,Ad,ht,Bool.not_true,Ac,Yi2,Ad]
   dsimp only
   rw [Cu rfl,Ac,h5,Ad,Ydq _ (by omega),Ad,Bool.not_true,Ac,Zhk (Tb _ hR).1 (by omega),Ad]
   have hfm:XR x=KX (Et (Cm (CG t) 0 l)):=by
    unfold XR EM
    rw [h4]
    have:=fa (Et (Cm (CG t) 0 l))
    split <;> omega
   rw [hfm,Cu rfl,Ac]
  ·rw [Ypi _ ht,Ad,Bool.eq_false_iff.2 ht,Bool.not_false,Aa]
   dsimp only
   rw [Cu rfl,Ac]
theorem Zgo (l:List Cell) (code:Int) (t:Es) (B1:∀ c∈l,BY c.2.1):E3 l code t=some true:=by
 show E3.S (E3.l0 (18446744073709551613+1+1+1)) l code t=_
 unfold E3.S
 rw [AW,tJ]
 by_cases hs:100<Bh t.2.2.2
 ·rw [Bl hs,Aa]
  rfl
 rw [AZ (by omega),Ac]
 by_cases hl:l.length≤64
 ·rw [AZ (by omega),Ac]
  show E3.S0 (E3.l0 (18446744073709551613+1+1)) l code 1 t=_
  rw [ow hl B1 code t _ 1 (.inl rfl)]
  show E3.S0 (E3.l0 (18446744073709551613+1)) l code (1+1) t=_
  rw [ow hl B1 code t _ (1+1) (.inr rfl)]
  show E3.S0 (E3.l0 18446744073709551613) l code (1+1+1) t=_
  unfold E3.S0
  rw [GM (by omega),Ac,tJ]
  rfl
 ·rw [Bl (by omega),Aa]
  rfl
end Go.AM.Pure
end
