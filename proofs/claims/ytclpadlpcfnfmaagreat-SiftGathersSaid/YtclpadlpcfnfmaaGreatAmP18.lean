import Derived.Test.YtclpadlpcfnfmaaGreatAmPure18
import Derived.Test.YtclpadlpcfnfmaaGreatAmPVtake
import Derived.Test.YtclpadlpcfnfmaaGreatAmP13
import Derived.Test.YtclpadlpcfnfmaaGreatAmP14
import Derived.Test.YtclpadlpcfnfmaaGreatAmP13q
section
/- bits.With, Next, Ones, Field. -/
namespace Go.AM.Pure
open Go.AM
theorem Zxd (a b:Int) {k:Nat} (hk:k<64):bit (MK .u64 a b) k=(bit a k && !bit b k):=by
 unfold MK
 show bit (IntKind.wrap .u64 ((BitVec.ofInt 64 a &&& ~~~ BitVec.ofInt 64 b).toNat:Int)) k=_
 rw [Ev _ hk,He,BitVec.toNat_and,Nat.testBit_and,Hx _ hk]
 congr 1
 rw [BitVec.testBit_toNat,BitVec.getLsbD_not,decide_eq_true hk,Bool.true_and,← BitVec.testBit_toNat,Hx _ hk]
theorem Vk (a:Int) {j k:Nat} (hj:j≤64) (hk:k<64):bit (Fc .u64 a (j:Int)) k=(decide (j≤k) && bit a (k-j)):=by
 unfold Fc
 rw [show min (j:Int).toNat (IntKind.bits .u64)=j from Nat.min_eq_left hj,Ev _ hk,TN]
theorem Zyd (n k:Nat):bit (2 ^ n-1) k=decide (k<n):=by
 have h1:(1:Nat)≤2 ^ n:=Nat.one_le_two_pow
 have h:(2:Int) ^ n-1=((2 ^ n-1:Nat):Int):=by
  rw [Int.natCast_sub h1,Int.natCast_pow];rfl
 rw [h,He,Nat.testBit_two_pow_sub_one]
theorem au (w:Int) (h:1≤w):∃ m,Hz w=some m∧∀ k:Nat,k<64→bit m k=decide ((k:Int)<w):=by
 unfold Hz
 rw [ID (by omega),cond_false]
 by_cases h2:64≤w
 ·rw [DL h2,cond_true]
  exact ⟨_,rfl,fun k hk=>by rw [Vp,decide_eq_true (by omega)]⟩
 ·rw [ID (by omega),cond_false,DL (by omega),cond_true]
  refine ⟨_,rfl,fun k hk=>?_⟩
  obtain ⟨n,rfl⟩:∃ n:Nat,w=(n:Int):=⟨w.toNat,by omega⟩
  have hn:n<64:=by omega
  rw [KX _ hk]
  have h1:Fc .u64 1 (n:Int)=2 ^ n:=by
   unfold Fc
   rw [show min (n:Int).toNat (IntKind.bits .u64)=n from Nat.min_eq_left (Nat.le_of_lt hn),Dj,Int.one_mul]
   have:=Da n
   have h3:(2:Int) ^ n<2 ^ 64:=Int.pow_lt_pow_of_lt (by decide) hn
   rw [← LP] at h3
   exact Int.emod_eq_of_lt (by omega) h3
  have h3:AT .u64 (2 ^ n) 1=2 ^ n-1:=by
   unfold AT
   rw [Dj]
   have:=Da n
   have h3:(2:Int) ^ n<2 ^ 64:=Int.pow_lt_pow_of_lt (by decide) hn
   rw [← LP] at h3
   exact Int.emod_eq_of_lt (by omega) (by omega)
  rw [h1,h3,Zyd]
  congr 1
  exact propext ⟨fun h=>by omega,fun h=>by omega⟩
theorem tk (x:Int) (a:Nat) (n:Int) (ha:a<64) (hn:1≤n):∃ y,Pd x (a:Int) n (-1)=some y∧BZ y∧∀ k:Nat,k<64→bit y k=(bit x k || (decide (a≤k) && decide ((k:Int)<a+n))):=by
 obtain ⟨m,hm,hb⟩:=au n hn
 unfold Pd
 rw [show Fz (a:Int) n=true from by
  unfold Fz
  rw [DL (by omega),cond_true,Bj (by omega),cond_true,DL hn],Bool.not_true,cond_false,hm,Option.bind_some,DL (by omega),cond_true,cond_true]
 refine ⟨_,rfl,?_,fun k hk=>?_⟩
 ·unfold BZ
  rw [Gi]
  split <;> omega
 rw [KX _ hk,YE _ _ hk,Zxd _ _ hk,Zde _ _ hk,Ev _ hk,Vk _ (by omega) hk,Vk _ (by omega) hk]
 by_cases h:a≤k
 ·rw [decide_eq_true h,Bool.true_and,Bool.true_and,Bool.true_and,Ev _ (by omega),Ev _ (by omega),Vp,hb _ (by omega),Bool.true_and]
  rw [show decide (((k-a:Nat):Int)<n)=decide ((k:Int)<a+n) from by congr 1;exact propext ⟨fun h=>by omega,fun h=>by omega⟩]
  cases decide ((k:Int)<a+n) <;> simp
 ·rw [decide_eq_false h]
  simp
theorem Zvw (x:Int) (b:Nat):∃ c,GV x (b:Int)=some c∧((c = -1∧∀ k,b≤k→k<64→bit x k=false)∨∃ j:Nat,c=(j:Int)∧b≤j∧j<64∧bit x j=true∧∀ k,b≤k→k<j→bit x k=false):=by
 unfold GV
 have hmx:FP (b:Int) 0=(b:Int):=by
  unfold FP
  rw [if_neg (by omega)]
 rw [hmx]
 by_cases hb:64≤b
 ·rw [DL (by omega),cond_true]
  exact ⟨-1,rfl, .inl ⟨rfl,fun k h1 h2=>by omega⟩⟩
 rw [ID (by omega),cond_false,DL (by omega),cond_true,cond_true]
 obtain ⟨y,hy⟩:∃ y,Fc .u64 (BG .u64 (IntKind.wrap .u64 x) (b:Int)) (b:Int)=y:=⟨_,rfl⟩
 rw [hy]
 have hy0:0≤y∧y<18446744073709551616:=by
  rw [← hy];unfold Fc
  rw [Dj]
  omega
 have hbits:∀ k,k<64→bit y k=(decide (b≤k) && bit x k):=fun k hk=>by
  rw [← hy,Vk _ (by omega) hk,ND _ _ (by omega),Lh]
  by_cases h:b≤k
  ·rw [show b+(k-b)=k by omega,Ev _ hk]
  ·rw [decide_eq_false h,Bool.false_and,Bool.false_and]
 by_cases h0:y=0
 ·rw [CT h0,cond_true]
  refine ⟨-1,rfl, .inl ⟨rfl,fun k h1 h2=>?_⟩⟩
  have:=hbits k h2
  rw [h0,Ms,decide_eq_true h1,Bool.true_and] at this
  exact this.symm
 rw [CE h0,cond_false]
 obtain ⟨m,hm⟩:=Int.eq_ofNat_of_zero_le hy0.1
 have hm0:m≠0:=by omega
 -- the least bit
 obtain ⟨j,hj,hjl⟩:∃ j,m.testBit j=true∧∀ k,k<j→m.testBit k=false:=by
  obtain ⟨i,hi⟩:=Nat.exists_testBit_of_ne_zero hm0
  induction i using Nat.strongRecOn with
  | ind i ih=>
   by_cases h:∃ k,k<i∧m.testBit k=true
   ·obtain ⟨k,hk,hk2⟩:=h
    exact ih k hk hk2
   ·exact ⟨i,hi,fun k hk=>by
     cases hq:m.testBit k with
     | false=>rfl
     | true=>exact absurd ⟨k,hk,hq⟩ h⟩
 have hj64:j<64:=by
  rcases Nat.lt_or_ge j 64 with h | h
  ·exact h
  ·exfalso
   have h1:m<2 ^ j:=Nat.lt_of_lt_of_le (show m<2 ^ 64 by omega) (Nat.pow_le_pow_right (by decide) h)
   rw [Nat.testBit_lt_two_pow h1] at hj
   cases hj
 -- m = (2 q + 1) 2^j
 obtain ⟨q,hq⟩:∃ q,m=(2*q+1)*2 ^ j:=by
  have hmod:m % 2 ^ j=0:=by
   apply Nat.eq_of_testBit_eq
   intro i
   rw [Nat.testBit_mod_two_pow,Nat.zero_testBit]
   by_cases h:i<j
   ·rw [hjl i h];simp
   ·simp [h]
  have hdiv:m / 2 ^ j % 2=1:=by
   have:=hj
   rw [Nat.testBit_eq_decide_div_mod_eq] at this
   exact of_decide_eq_true this
  refine ⟨m / 2 ^ j / 2,?_⟩
  have h1:=Nat.div_add_mod m (2 ^ j)
  have h2:=Nat.div_add_mod (m / 2 ^ j) 2
  rw [hmod,Nat.add_zero] at h1
  rw [hdiv] at h2
  rw [h2,Nat.mul_comm]
  exact h1.symm
 have hand:BF .u64 y (AT .u64 0 y)=2 ^ j:=by
  have hs:AT .u64 0 y=((18446744073709551616-m:Nat):Int):=by
   unfold AT
   rw [Dj]
   omega
  rw [hs]
  unfold BF
  show IntKind.wrap .u64 ((BitVec.ofInt 64 y &&& BitVec.ofInt 64 ((18446744073709551616-m:Nat):Int)).toNat:Int)=_
  have e1:(BitVec.ofInt 64 y).toNat=m:=by
   have:=II y
   rw [Int.emod_eq_of_lt hy0.1 hy0.2] at this
   omega
  have e2:(BitVec.ofInt 64 ((18446744073709551616-m:Nat):Int)).toNat=18446744073709551616-m:=by
   have:=II ((18446744073709551616-m:Nat):Int)
   omega
  rw [BitVec.toNat_and,e1,e2]
  have e3:m &&& (18446744073709551616-m)=2 ^ j:=by
   have hN:18446744073709551616=2 ^ (64-j)*2 ^ j:=by rw [← Nat.pow_add,show 64-j+j=64 by omega]
   have hsub:18446744073709551616-m=(2 ^ (64-j)-(2*q+1))*2 ^ j:=by rw [hq,hN,Nat.sub_mul]
   have hlt:2*q+1<2 ^ (64-j):=by
    have h1:m<18446744073709551616:=by omega
    rw [hq,hN] at h1
    exact Nat.lt_of_mul_lt_mul_right h1
   rw [hsub]
   conv=>lhs;lhs;rw [hq]
   apply Nat.eq_of_testBit_eq
   intro i
   rw [Nat.testBit_and,Nat.testBit_mul_two_pow,Nat.testBit_mul_two_pow,Nat.testBit_two_pow]
   by_cases h:j≤i
   ·rw [decide_eq_true h,Bool.true_and,Bool.true_and]
    obtain ⟨i,rfl⟩:∃ k,i=j+k:=⟨i-j,by omega⟩
    rw [Nat.add_sub_cancel_left]
    have h2:2 ^ (64-j)-(2*q+1)=2 ^ (64-j)-((2*q)+1):=rfl
    rw [h2,Nat.testBit_two_pow_sub_succ (by omega)]
    cases i with
    | zero=>
     rw [Nat.testBit_zero,Nat.testBit_zero]
     simp
     omega
    | succ i=>
     rw [Nat.testBit_succ,Nat.testBit_succ,show (2*q+1) / 2=q by omega,show 2*q / 2=q by omega]
     rw [show decide (j=j+(i+1))=false from decide_eq_false (by omega)]
     cases q.testBit i <;> simp
   ·rw [decide_eq_false h,Bool.false_and,Bool.false_and,decide_eq_false (by omega)]
  rw [e3,Dj]
  have h3:(2:Int) ^ j<2 ^ 64:=Int.pow_lt_pow_of_lt (by decide) hj64
  rw [← LP] at h3
  have:=Da j
  rw [Int.natCast_pow]
  exact Int.emod_eq_of_lt (by show 0≤(2:Int) ^ j;omega) h3
 rw [hand]
 obtain ⟨n,hn1,hn2,hn3⟩:=NF (z:=IntKind.wrap .i64 (2 ^ j)) (u:=2 ^ j) (by
  have h3:(2:Int) ^ j<2 ^ 64:=Int.pow_lt_pow_of_lt (by decide) hj64
  rw [← LP] at h3
  have:=Da j
  rw [Gi]
  split <;> omega)
 have hnj:n=j+1:=by
  have hp:=Da j
  rcases hn3 with ⟨h,_⟩ | ⟨h1,h2,h3⟩
  ·omega
  ·have h4:n-1≤j:=by
    rcases Nat.lt_or_ge j (n-1) with h | h
    ·exfalso
     have:(2:Int) ^ j<2 ^ (n-1):=Int.pow_lt_pow_of_lt (by decide) h
     omega
    ·exact h
   have h5:j<n:=by
    rcases Nat.lt_or_ge j n with h | h
    ·exact h
    ·exfalso
     have:(2:Int) ^ n≤2 ^ j:=by exact_mod_cast Nat.pow_le_pow_right (n:=2) (by omega) h
     omega
   omega
 rw [hn1,Option.bind_some,hnj]
 refine ⟨(j:Int),?_, .inr ⟨j,rfl,?_,hj64,?_,fun k h1 h2=>?_⟩⟩
 ·rw [Dk (by omega)]
  congr 1
  omega
 ·have h1:=hbits j hj64
  rw [hm,He,hj] at h1
  have:=Bool.and_eq_true_iff.1 h1.symm
  exact of_decide_eq_true this.1
 ·have h1:=hbits j hj64
  rw [hm,He,hj] at h1
  exact (Bool.and_eq_true_iff.1 h1.symm).2
 ·have h3:=hbits k (by omega)
  rw [hm,He,hjl k h2,decide_eq_true h1,Bool.true_and] at h3
  exact h3.symm
end Go.AM.Pure
end

section
/- Words of places: which places they have, how many, how many below one. -/
namespace Go.AM.Pure
open Go.AM
def Lt (w:Int) (b:Nat):List Int:=((List.range' b (64-b)).filter fun k=>bit w k).map fun (k:Nat)=>(k:Int)
theorem Zvd (w:Int) {b:Nat} (h:64≤b):Lt w b=[]:=by
 unfold Lt
 rw [show 64-b=0 by omega]
 rfl
theorem ak (w:Int) {b:Nat} (h:b<64):Lt w b=(if bit w b then [(b:Int)] else [])++Lt w (b+1):=by
 unfold Lt
 rw [show 64-b=(64-(b+1))+1 by omega,List.range'_succ,List.filter_cons]
 split <;> simp
theorem ao (w:Int):∀ (d b j:Nat),d=j-b→b≤j→j≤64→(∀ k,b≤k→k<j→bit w k=false)→Lt w b=Lt w j:=by
 intro d
 induction d with
 | zero=>intro b j hd h _ _;rw [show b=j by omega]
 | succ d ih=>
  intro b j hd h h64 hz
  rw [ak w (by omega),hz b (Nat.le_refl _) (by omega)]
  exact ih (b+1) j (by omega) (by omega) h64 fun k h1 h2=>hz k (by omega) h2
theorem jS (w:Int):∀ (n b:Nat),b≤64→64-b<n→Dm n w (b:Int)=some (Lt w b):=by
 intro n
 induction n with
 | zero=>intro b _ h;omega
 | succ n ih=>
  intro b hb hn
  unfold Dm
  obtain ⟨c,hc,h⟩:=Zvw w b
  rw [hc,Option.bind_some]
  rcases h with ⟨rfl,hz⟩ | ⟨j,rfl,h1,h2,h3,h4⟩
  ·rw [Bj (by omega),cond_true,ao w (64-b) b 64 rfl hb (Nat.le_refl _) fun k h1 h2=>hz k h1 h2,Zvd w (Nat.le_refl _)]
  ·rw [AJ (by omega),cond_false,Bj (by omega),cond_true,show ((j:Int)+1)=((j+1:Nat):Int) by omega,ih (j+1) (by omega) (by omega),Option.bind_some]
   rw [ao w (j-b) b j rfl h1 (by omega) h4,ak w h2,h3]
   rfl
def wpl:Nat→List Int→List Int
 | _,[]=>[]
 | k,w :: ws=>(Lt w 0).map (fun b=>64*(k:Int)+b)++wpl (k+1) ws
theorem We:∀ (ws:List Int) (k:Nat),Ht (k:Int) ws=some (wpl k ws)
 | [],_=>rfl
 | w :: ws,k=>by
  show (Dm 70 w ((0:Nat):Int)).bind _=_
  rw [jS w 70 0 (by omega) (by omega),Option.bind_some,show ((k:Int)+1)=((k+1:Nat):Int) by omega,We ws (k+1),Option.bind_some]
  rfl
abbrev KJ (l:List Nat):List Int:=l.map fun (k:Nat)=>(k:Int)
theorem te (Q:Nat→Bool):∀ (ws:List Int) (k:Nat),(∀ (i:Nat) (h:i<ws.length) (b:Nat),b<64→bit ws[i] b=Q (64*(k+i)+b))→wpl k ws=KJ ((List.range' (64*k) (64*ws.length)).filter Q)
 | [],_,_=>rfl
 | w :: ws,k,h=>by
  have ih:=te Q ws (k+1) fun i hi b hb=>by
   have:=h (i+1) (by simpa using hi) b hb
   rw [List.getElem_cons_succ] at this
   rw [this]
   congr 1
   omega
  unfold wpl
  rw [ih,List.length_cons,show 64*(ws.length+1)=64+64*ws.length by omega,show List.range' (64*k) (64+64*ws.length)=List.range' (64*k) 64++List.range' (64*(k+1)) (64*ws.length) by
   rw [show 64*(k+1)=64*k+64 by omega,List.range'_append_1],List.filter_append,KJ,KJ,List.map_append]
  congr 1
  unfold Lt
  have hr:List.range' (64*k) 64=(List.range' 0 64).map (64*k + ·):=by rw [List.map_add_range'];rfl
  rw [hr,List.filter_map,List.map_map,List.map_map]
  have hf:(List.range' 0 (64-0)).filter (fun k=>bit w k)=(List.range' 0 64).filter (Q ∘ (64*k + ·)):=by
   apply List.filter_congr
   intro b hb
   have hb':b<64:=by simpa [List.mem_range'] using hb
   have:=h 0 (by simp) b hb'
   rw [List.getElem_cons_zero] at this
   rw [this]
   rfl
  rw [hf]
  apply List.map_congr_left
  intro b _
  simp
def cb (w:Int) (k:Nat):Nat:=((List.range k).filter fun j=>bit w j).length
theorem Gy (w:Int) (k:Nat):cb w (k+1)=cb w k+(if bit w k then 1 else 0):=by
 unfold cb
 rw [List.range_succ,List.filter_append,List.length_append]
 cases h:bit w k <;> simp [h]
theorem RY (w:Int):∀ k,cb w k≤k
 | 0=>Nat.le_refl _
 | k+1=>by rw [Gy];have:=RY w k;split <;> omega
theorem Za4 (w:Int):(Lt w 0).length=cb w 64:=by
 unfold Lt cb
 rw [List.length_map,List.range_eq_range']
theorem dE {x y:Int}:∀ {k:Nat},(∀ j,j<k→bit x j=bit y j)→cb x k=cb y k
 | 0,_=>rfl
 | k+1,h=>by rw [Gy,Gy,dE (k:=k) fun j hj=>h j (by omega),h k (by omega)]
theorem tf {x y:Int} {m:Nat}:∀ {k:Nat},(∀ j,j<k→bit x j=(bit y j && decide (j<m)))→cb x k=cb y (min k m)
 | 0,_=>by simp [cb]
 | k+1,h=>by
  rw [Gy,tf (k:=k) fun j hj=>h j (by omega),h k (by omega)]
  by_cases hk:k<m
  ·rw [show min (k+1) m=min k m+1 by omega,Gy,show min k m=k by omega,decide_eq_true hk,Bool.and_true]
  ·rw [show min (k+1) m=min k m by omega,decide_eq_false hk,Bool.and_false]
   rfl
theorem Zub1 {x:Int}:BF .u64 x 15=x % 16:=by
 have h:=Vq (u:=x % 18446744073709551616) (by omega) (by omega) (k:=4) (by omega)
 have h2:BF .u64 x 15=BF .u64 (x % 18446744073709551616) (IntKind.wrap .u64 (2 ^ 4-1)):=by
  unfold BF
  show IntKind.wrap .u64 ((BitVec.ofInt 64 x &&& BitVec.ofInt 64 15).toNat:Int)=IntKind.wrap .u64 ((BitVec.ofInt 64 (x % 18446744073709551616) &&& BitVec.ofInt 64 15).toNat:Int)
  congr 4
  apply BitVec.eq_of_toNat_eq
  have e1:=II x
  have e2:=II (x % 18446744073709551616)
  omega
 rw [h2,h]
 omega
theorem Zvb1 (x:Int) {j:Nat} (hj:j<4):bit x j=bit (x % 16) j:=by
 have h:=mod_pow_succ x j
 unfold bit
 rcases (show j=0∨j=1∨j=2∨j=3 by omega) with rfl | rfl | rfl | rfl <;> (congr 1;omega)
theorem Zuw (x:Int):CU x=some (cb x 4:Int):=by
 have hc:cb x 4=cb (x % 16) 4:=dE fun j hj=>Zvb1 x hj
 rw [hc]
 unfold CU CU.S
 rw [Zub1]
 obtain ⟨r,hr⟩:∃ r,x % 16=r:=⟨_,rfl⟩
 rw [hr]
 rcases (show r=0∨r=1∨r=2∨r=3∨r=4∨r=5∨r=6∨r=7∨r=8∨r=9∨r=10∨r=11∨r=12∨r=13∨r=14∨r=15 by omega) with rfl | rfl | rfl | rfl | rfl | rfl | rfl | rfl | rfl | rfl | rfl | rfl | rfl | rfl | rfl | rfl <;> rfl
theorem tg (w:Int):∀ (d k n:Nat),d=16-k→k≤16→d<n→Dr.l0 n w (cb w (4*k):Int) (k:Int)=some (cb w 64:Int):=by
 intro d
 induction d with
 | zero=>
  intro k n hd hk hn
  obtain ⟨n,rfl⟩:∃ m,n=m+1:=⟨n-1,by omega⟩
  have:k=16:=by omega
  subst this
  show Dr.S0 _ _ _ _=_
  unfold Dr.S0
  rw [AJ (by omega),cond_false]
 | succ d ih=>
  intro k n hd hk hn
  obtain ⟨n,rfl⟩:∃ m,n=m+1:=⟨n-1,by omega⟩
  show Dr.S0 _ _ _ _=_
  unfold Dr.S0
  rw [Bj (by omega),cond_true,Kw (by omega),DL (by omega),cond_true,show (4*(k:Int))=((4*k:Nat):Int) by omega,ND _ _ (by omega),Zuw,Option.bind_some]
  have hb:∀ j,j<4→bit (IntKind.wrap .u64 w / 2 ^ (4*k)) j=bit w (4*k+j):=fun j hj=>by rw [Lh,Ev _ (by omega)]
  have hs:cb w (4*(k+1))=cb w (4*k)+cb (IntKind.wrap .u64 w / 2 ^ (4*k)) 4:=by
   rw [show 4*(k+1)=4*k+1+1+1+1 by omega,Gy,Gy,Gy,Gy]
   rw [Gy,Gy,Gy,Gy,hb 0 (by omega),hb 1 (by omega),hb 2 (by omega),hb 3 (by omega)]
   show _=cb w (4*k)+(0+_+_+_+_)
   simp only [Nat.add_zero,Nat.add_assoc]
   omega
  have h1:=RY w (4*k)
  have h2:=RY (IntKind.wrap .u64 w / 2 ^ (4*k)) 4
  rw [AE (by omega),AE (by omega),show ((cb w (4*k):Int)+(cb (IntKind.wrap .u64 w / 2 ^ (4*k)) 4:Int))=((cb w (4*(k+1)):Nat):Int) by rw [hs];omega,show ((k:Int)+1)=((k+1:Nat):Int) by omega]
  exact ih (k+1) n (by omega) (by omega) (by omega)
theorem YB (w:Int):Dr w=some (cb w 64:Int):=tg w 16 0 fu rfl (by omega) (by unfold fu;omega)
def Kf:List Int→Nat
 | []=>0
 | w :: ws=>cb w 64+Kf ws
theorem dF:∀ (a b:List Int),Kf (a++b)=Kf a+Kf b
 | [],b=>by simp [Kf]
 | x :: a,b=>by simp [Kf,dF a b];omega
theorem kK:∀ (l:List Int),Kf l≤64*l.length
 | []=>Nat.le_refl _
 | x :: a=>by simp only [Kf,List.length_cons];have:=kK a;have:=RY x 64;omega
theorem dG:∀ (ws:List Int) (k:Nat),(wpl k ws).length=Kf ws
 | [],_=>rfl
 | w :: ws,k=>by
  unfold wpl Kf
  rw [List.length_append,List.length_map,Za4,dG ws (k+1)]
theorem jT (ws:List Int) (hl:ws.length≤65536):∀ (d i n:Nat),d=ws.length-i→i≤ws.length→d<n→CC.l0 n (Kf (ws.take i):Int) ws (ws.length:Int) (i:Int)=some (Kf ws:Int):=by
 intro d
 induction d with
 | zero=>
  intro i n hd hi hn
  obtain ⟨n,rfl⟩:∃ m,n=m+1:=⟨n-1,by omega⟩
  have:i=ws.length:=by omega
  subst this
  show CC.S0 _ _ _ _ _=_
  unfold CC.S0
  rw [AJ (by omega),cond_false,List.take_length]
 | succ d ih=>
  intro i n hd hi hn
  obtain ⟨n,rfl⟩:∃ m,n=m+1:=⟨n-1,by omega⟩
  have hlt:i<ws.length:=by omega
  show CC.S0 _ _ _ _ _=_
  unfold CC.S0
  have hs:Kf (ws.take (i+1))=Kf (ws.take i)+cb ws[i] 64:=by rw [take_one hlt,dF];rfl
  have h1:=kK (ws.take (i+1))
  rw [List.length_take] at h1
  rw [Bj (by omega),cond_true,AA (by rw [Aq];omega),cond_true,AQ hlt,YB,Option.bind_some,AE (by omega),AE (by omega),show ((Kf (ws.take i):Int)+(cb ws[i] 64:Int))=((Kf (ws.take (i+1)):Nat):Int) by rw [hs];omega,show ((i:Int)+1)=((i+1:Nat):Int) by omega]
  exact ih (i+1) n (by omega) (by omega) (by omega)
theorem ti {ws:List Int} (h:FK ws=some true) (hl:ws.length≤65536):CC ws=some ((wpl 0 ws).length:Int):=by
 unfold CC CC.S
 rw [h,Option.bind_some,cond_true,dG]
 exact jT ws hl ws.length 0 fu rfl (by omega) (by unfold fu;omega)
theorem tj (w m:Int) (hm:1≤m):∃ y,NT w 0 m=some y∧∀ j:Nat,j<64→bit y j=(bit w j && decide ((j:Int)<m)):=by
 obtain ⟨z,hz,hb⟩:=au m hm
 unfold NT
 rw [show Fz 0 m=true from by
  unfold Fz
  rw [DL (by omega),cond_true,Bj (by omega),cond_true,DL hm],Bool.not_true,cond_false,DL (by omega),cond_true,hz,Option.bind_some]
 refine ⟨_,rfl,fun j hj=>?_⟩
 have e:bit (BF .i64 (IntKind.wrap .i64 (BG .u64 (IntKind.wrap .u64 w) 0)) z) j=(bit (IntKind.wrap .i64 (BG .u64 (IntKind.wrap .u64 w) 0)) j && bit z j):=by
  unfold BF
  show bit (IntKind.wrap .i64 ((BitVec.ofInt 64 _ &&& BitVec.ofInt 64 z).toNat:Int)) j=_
  rw [KX _ hj,He,BitVec.toNat_and,Nat.testBit_and,Hx _ hj,Hx _ hj]
 rw [e,hb j hj,KX _ hj]
 have:=ND (IntKind.wrap .u64 w) 0 (by omega)
 rw [show ((0:Nat):Int)=0 from rfl] at this
 rw [this,Lh,Nat.zero_add,Ev _ hj]
theorem pJ (w:Int) (k at_:Nat):(((Lt w 0).map (fun b=>64*(k:Int)+b)).filter fun p=>decide (p<(at_:Int))).length=cb w (min 64 (at_-64*k)):=by
 rw [List.filter_map,List.length_map]
 unfold Lt
 rw [List.filter_map,List.length_map,List.filter_filter]
 have:∀ n,n≤64→((List.range' 0 n).filter fun a=>(((fun p=>decide (p<(at_:Int))) ∘ fun b=>64*(k:Int)+b) ∘ fun (k:Nat)=>(k:Int)) a && bit w a).length=cb w (min n (at_-64*k)):=by
  intro n
  induction n with
  | zero=>intro _;simp [cb]
  | succ n ih=>
   intro hn
   rw [List.range'_1_concat,List.filter_append,List.length_append,ih (by omega),Nat.zero_add]
   by_cases h:n<at_-64*k
   ·rw [show min (n+1) (at_-64*k)=n+1 by omega,show min n (at_-64*k)=n by omega,Gy]
    have hd:decide (64*(k:Int)+(n:Int)<(at_:Int))=true:=decide_eq_true (by omega)
    cases hb:bit w n <;> simp [hb,hd]
   ·rw [show min (n+1) (at_-64*k)=min n (at_-64*k) by omega]
    have hd:decide (64*(k:Int)+(n:Int)<(at_:Int))=false:=decide_eq_false (by omega)
    simp [hd]
 exact this 64 (Nat.le_refl _)
def ED (at_:Nat):Nat→List Int→Nat
 | _,[]=>0
 | k,w :: ws=>cb w (min 64 (at_-64*k))+ED at_ (k+1) ws
theorem Wf (at_:Nat):∀ (ws:List Int) (k:Nat),((wpl k ws).filter fun p=>decide (p<(at_:Int))).length=ED at_ k ws
 | [],_=>rfl
 | w :: ws,k=>by
  unfold wpl ED
  rw [List.filter_append,List.length_append,pJ,Wf at_ ws (k+1)]
theorem Wg (at_:Nat):∀ (a b:List Int) (k:Nat),ED at_ k (a++b)=ED at_ k a+ED at_ (k+a.length) b
 | [],b,k=>by simp [ED]
 | x :: a,b,k=>by
  simp only [List.cons_append,ED,List.length_cons]
  rw [Wg at_ a b (k+1),show k+(a.length+1)=k+1+a.length by omega]
  omega
theorem aq (at_:Nat):∀ (l:List Int) (k:Nat),ED at_ k l≤64*l.length
 | [],_=>Nat.le_refl _
 | x :: a,k=>by simp only [ED,List.length_cons];have:=aq at_ a (k+1);have:=RY x (min 64 (at_-64*k));omega
theorem pK (ws:List Int) (hl:ws.length≤65536) (at_:Nat):∀ (d i n:Nat),d=ws.length-i→i≤ws.length→d<n→CM.l0 n (at_:Int) (ED at_ 0 (ws.take i):Int) ws (ws.length:Int) (i:Int)=some (ED at_ 0 ws:Int):=by
 intro d
 induction d with
 | zero=>
  intro i n hd hi hn
  obtain ⟨n,rfl⟩:∃ m,n=m+1:=⟨n-1,by omega⟩
  have:i=ws.length:=by omega
  subst this
  show CM.S0 _ _ _ _ _ _=_
  unfold CM.S0
  rw [AJ (by omega),cond_false,List.take_length]
 | succ d ih=>
  intro i n hd hi hn
  obtain ⟨n,rfl⟩:∃ m,n=m+1:=⟨n-1,by omega⟩
  have hlt:i<ws.length:=by omega
  have hs:ED at_ 0 (ws.take (i+1))=ED at_ 0 (ws.take i)+cb ws[i] (min 64 (at_-64*i)):=by
   rw [take_one hlt,Wg,List.length_take,show 0+min i ws.length=i by omega]
   rfl
  have h1:=aq at_ (ws.take (i+1)) 0
  rw [List.length_take] at h1
  have fin:CM.l0 n (at_:Int) ((ED at_ 0 (ws.take (i+1)):Nat):Int) ws (ws.length:Int) (An .i64 (i:Int) 1)=some (ED at_ 0 ws:Int):=by
   rw [AE (by omega),show ((i:Int)+1)=((i+1:Nat):Int) by omega]
   exact ih (i+1) n (by omega) (by omega) (by omega)
  show CM.S0 _ _ _ _ _ _=_
  unfold CM.S0
  rw [Bj (by omega),cond_true,AA (by rw [Aq];omega),cond_true,AQ hlt,Kw (by omega),AE (by omega)]
  by_cases h:64*(i:Int)+64≤(at_:Int)
  ·rw [DL h,cond_true,YB,Option.bind_some]
   rw [show min 64 (at_-64*i)=64 by omega] at hs
   rw [AE (a:=(ED at_ 0 (ws.take i):Int)) (by omega),show ((ED at_ 0 (ws.take i):Int)+(cb ws[i] 64:Int))=((ED at_ 0 (ws.take (i+1)):Nat):Int) by rw [hs];omega]
   exact fin
  ·rw [ID (by omega),cond_false]
   by_cases h2:64*(i:Int)<(at_:Int)
   ·rw [Bj h2,cond_true,Dk (by omega)]
    obtain ⟨y,hy,hb⟩:=tj ws[i] ((at_:Int)-64*(i:Int)) (by omega)
    have hc:cb y 64=cb ws[i] (min 64 (at_-64*i)):=tf fun j hj=>by
     rw [hb j hj]
     congr 2
     exact propext ⟨fun h=>by omega,fun h=>by omega⟩
    rw [hy,Option.bind_some,YB,Option.bind_some,hc]
    rw [AE (a:=(ED at_ 0 (ws.take i):Int)) (by omega),show ((ED at_ 0 (ws.take i):Int)+(cb ws[i] (min 64 (at_-64*i)):Int))=((ED at_ 0 (ws.take (i+1)):Nat):Int) by rw [hs];omega]
    exact fin
   ·rw [AJ (by omega),cond_false]
    rw [show min 64 (at_-64*i)=0 by omega] at hs
    replace hs:ED at_ 0 (List.take (i+1) ws)=ED at_ 0 (List.take i ws):=hs
    rw [← hs]
    exact fin
theorem Zwd {ws:List Int} (h:FK ws=some true) (hl:ws.length≤65536) (at_:Nat):CM ws (at_:Int)=some (((wpl 0 ws).filter fun p=>decide (p<(at_:Int))).length:Int):=by
 unfold CM CM.S
 rw [h,Option.bind_some,Bool.not_true,cond_false,Wf]
 cases at_ with
 | zero=>
  have:∀ (ws:List Int) (k:Nat),ED 0 k ws=0:=by
   intro ws
   induction ws with
   | nil=>intro k;rfl
   | cons w ws ih=>intro k;unfold ED;rw [ih,show min 64 (0-64*k)=0 by omega];rfl
  rw [DL (by omega),cond_true,this]
  rfl
 | succ a=>
  rw [ID (by omega),cond_false]
  exact pK ws hl (a+1) ws.length 0 fu rfl (by omega) (by unfold fu;omega)
end Go.AM.Pure
end

section
/- Spans that may be, and their places. -/
namespace Go.AM.Pure
open Go.AM
def EH:Int→List (Int×Int)→Prop
 | _,[]=>True
 | a,s :: l=>a<s.1∧s.1<s.2∧s.2≤65536∧EH s.2 l
instance decMay18:∀ (a:Int) (l:List (Int×Int)),Decidable (EH a l)
 | _,[]=>isTrue trivial
 | a,s :: l=>by
  unfold EH
  have:=decMay18 s.2 l
  exact inferInstance
theorem EH.mem {s:Int×Int}:∀ {a:Int} {l:List (Int×Int)},EH a l→s∈l→a<s.1∧s.1<s.2∧s.2≤65536
 | a,u :: l,⟨h1,h2,h3,h4⟩,h=>by
  rcases List.mem_cons.1 h with rfl | h
  ·exact ⟨h1,h2,h3⟩
  ·have:=EH.mem h4 h
   omega
theorem Ztd (l:List (Int×Int)) (hl:l.length≤4294967296):∀ (d i n:Nat) (a:Int),d=l.length-i→i≤l.length→d<n→Du.l0 n a l (l.length:Int) (i:Int)=some (decide (EH a (l.drop i))):=by
 intro d
 induction d with
 | zero=>
  intro i n a hd hi hn
  obtain ⟨n,rfl⟩:∃ m,n=m+1:=⟨n-1,by omega⟩
  have:i=l.length:=by omega
  subst this
  show Du.S0 _ _ _ _ _=_
  unfold Du.S0
  rw [AJ (by omega),cond_false,List.drop_length]
  rfl
 | succ d ih=>
  intro i n a hd hi hn
  obtain ⟨n,rfl⟩:∃ m,n=m+1:=⟨n-1,by omega⟩
  have hlt:i<l.length:=by omega
  show Du.S0 _ _ _ _ _=_
  unfold Du.S0
  have hM:EH a (l.drop i)↔a<l[i].1∧l[i].1<l[i].2∧l[i].2≤65536∧EH l[i].2 (l.drop (i+1)):=by rw [List.drop_eq_getElem_cons hlt];exact Iff.rfl
  rw [Bj (by omega),cond_true,AA (by rw [Aq];omega),cond_true,AQ hlt]
  by_cases h1:l[i].1≤a
  ·rw [DL h1,cond_true,decide_eq_false (fun h=>by have:=(hM.1 h).1;omega)]
  rw [ID (by omega),cond_false]
  by_cases h2:l[i].2≤l[i].1
  ·rw [DL h2,cond_true,decide_eq_false (fun h=>by have:=(hM.1 h).2.1;omega)]
  rw [ID (by omega),cond_false]
  by_cases h3:65536<l[i].2
  ·rw [Bj h3,cond_true,decide_eq_false (fun h=>by have:=(hM.1 h).2.2.1;omega)]
  rw [AJ (by omega),cond_false,AE (by omega),show ((i:Int)+1)=((i+1:Nat):Int) by omega,ih (i+1) n _ (by omega) (by omega) (by omega)]
  congr 1
  exact decide_eq_decide.2 (by rw [hM];exact ⟨fun h=>⟨by omega,by omega,by omega,h⟩,fun h=>h.2.2.2⟩)
theorem Kl (l:List (Int×Int)) (hl:l.length≤4294967296):Du l=some (decide (EH (-1) l)):=
 Ztd l hl l.length 0 fu (-1) rfl (by omega) (by unfold fu;omega)
theorem tc (l:List (Int×Int)) (hl:l.length≤4294967296):∀ (d i n:Nat) (a:Int),d=l.length-i→i≤l.length→d<n→ -1≤a→(i=0→a = -1)→(∀ (h:i-1<l.length),0<i→a=l[i-1].2)→Di.l0 n l (i:Int)=some (decide (EH a (l.drop i))):=by
 intro d
 induction d with
 | zero=>
  intro i n a hd hi hn hge h0 ha
  obtain ⟨n,rfl⟩:∃ m,n=m+1:=⟨n-1,by omega⟩
  have:i=l.length:=by omega
  subst this
  show Di.S0 _ _ _=_
  unfold Di.S0
  rw [Aq,AJ (by omega),cond_false,List.drop_length]
  rfl
 | succ d ih=>
  intro i n a hd hi hn hge h0 ha
  obtain ⟨n,rfl⟩:∃ m,n=m+1:=⟨n-1,by omega⟩
  have hlt:i<l.length:=by omega
  show Di.S0 _ _ _=_
  unfold Di.S0
  have hM:EH a (l.drop i)↔a<l[i].1∧l[i].1<l[i].2∧l[i].2≤65536∧EH l[i].2 (l.drop (i+1)):=by rw [List.drop_eq_getElem_cons hlt];exact Iff.rfl
  have hb:inB (i:Int) (l.length:Int)=true:=AA (by omega)
  rw [Aq,Bj (by omega),cond_true,hb,cond_true,cond_true,cond_true,cond_true,AQ hlt]
  by_cases h1:l[i].1<0
  ·rw [Bj h1,cond_true,decide_eq_false (fun h=>by have:=(hM.1 h).1;omega)]
  rw [AJ (by omega),cond_false]
  by_cases h2:l[i].2≤l[i].1
  ·rw [DL h2,cond_true,decide_eq_false (fun h=>by have:=(hM.1 h).2.1;omega)]
  rw [ID (by omega),cond_false]
  by_cases h3:65536<l[i].2
  ·rw [Bj h3,cond_true,decide_eq_false (fun h=>by have:=(hM.1 h).2.2.1;omega)]
  rw [AJ (by omega),cond_false]
  have fin:a<l[i].1→Di.l0 n l (An .i64 (i:Int) 1)=some (decide (EH a (l.drop i))):=fun h4=>by
   rw [AE (by omega),show ((i:Int)+1)=((i+1:Nat):Int) by omega,ih (i+1) n l[i].2 (by omega) (by omega) (by omega) (by omega) (by omega) (fun _ _=>rfl)]
   congr 1
   exact decide_eq_decide.2 (by rw [hM];exact ⟨fun h=>⟨h4,by omega,by omega,h⟩,fun h=>h.2.2.2⟩)
  by_cases h4:i=0
  ·rw [AJ (by omega),cond_false]
   exact fin (by have:=h0 h4;omega)
  have hp:=ha (by omega) (by omega)
  rw [Bj (by omega),cond_true,cond_true,Dk (by omega),show ((i:Int)-1)=((i-1:Nat):Int) by omega,AA (by omega),cond_true,AQ (show i-1<l.length by omega)]
  by_cases h5:l[i].1≤l[i-1].2
  ·rw [DL h5,cond_true,decide_eq_false (fun h=>by have:=(hM.1 h).1;omega)]
  ·rw [ID (by omega),cond_false]
   exact fin (by omega)
theorem Ox (l:List (Int×Int)) (hl:l.length≤4294967296):Di l=some (decide (EH (-1) l)):=
 tc l hl l.length 0 fu (-1) rfl (by omega) (by unfold fu;omega) (Int.le_refl _) (fun _=>rfl) (fun _ h=>by omega)
def inS (l:List (Int×Int)) (p:Nat):Bool:=l.any fun s=>decide (s.1≤(p:Int)) && decide ((p:Int)<s.2)
theorem dA (s:Int×Int) (l:List (Int×Int)):Bi (s :: l)=KJ (List.range' s.1.toNat (s.2-s.1).toNat)++Bi l∨s.1<0:=by
 by_cases h:s.1<0
 ·exact .inr h
 ·left
  unfold Bi
  rw [List.flatMap_cons]
  congr 1
  rw [List.range'_eq_map_range,KJ,List.map_map]
  apply List.map_congr_left
  intro k _
  show _=((s.1.toNat+k:Nat):Int)
  omega
theorem Zud {a:Int} {l:List (Int×Int)} (h:EH a l) {p:Nat} (hp:(p:Int)≤a):inS l p=false:=by
 unfold inS
 rw [List.any_eq_false]
 intro s hs
 have:=h.mem hs
 rw [decide_eq_false (show ¬ s.1≤(p:Int) by omega)]
 simp
theorem NR:∀ (l:List (Int×Int)) (a:Int) (m N:Nat),EH a l→ -1≤a→(m:Int)≤a+1→(∀ s∈l,s.2≤(N:Int))→Bi l=KJ ((List.range' m (N-m)).filter (inS l))
 | [],a,m,N,_,_,_,_=>by
  rw [List.filter_eq_nil_iff.2 (fun p _=>by simp [inS])]
  rfl
 | s :: l,a,m,N,hM,ha,hm,hN=>by
  obtain ⟨h1,h2,h3,h4⟩:=hM
  have hs:=hN s (List.mem_cons_self ..)
  rcases dA s l with e | e
  ·rw [e,NR l s.2 s.2.toNat N h4 (by omega) (by omega) fun u hu=>hN u (List.mem_cons_of_mem _ hu)]
   have hsplit:List.range' m (N-m)=List.range' m (s.1.toNat-m)++(List.range' s.1.toNat (s.2-s.1).toNat++List.range' s.2.toNat (N-s.2.toNat)):=by
    have e1:=List.range'_append_1 (s:=m) (m:=s.1.toNat-m) (n:=(s.2-s.1).toNat+(N-s.2.toNat))
    have e2:=List.range'_append_1 (s:=s.1.toNat) (m:=(s.2-s.1).toNat) (n:=N-s.2.toNat)
    rw [show m+(s.1.toNat-m)=s.1.toNat by omega] at e1
    rw [show s.1.toNat+(s.2-s.1).toNat=s.2.toNat by omega] at e2
    rw [e2,e1]
    congr 1
    omega
   rw [hsplit,List.filter_append,List.filter_append,KJ,KJ,KJ,List.map_append,List.map_append]
   have f1:(List.range' m (s.1.toNat-m)).filter (inS (s :: l))=[]:=List.filter_eq_nil_iff.2 fun p hp=>by
    have hp':=List.mem_range'_1.1 hp
    rw [Zud (a:=s.1-1) (l:=s :: l) ⟨by omega,h2,h3,h4⟩ (by omega)]
    simp
   have f2:(List.range' s.1.toNat (s.2-s.1).toNat).filter (inS (s :: l))=List.range' s.1.toNat (s.2-s.1).toNat:=List.filter_eq_self.2 fun p hp=>by
    have hp':=List.mem_range'_1.1 hp
    unfold inS
    rw [List.any_cons,decide_eq_true (by omega),decide_eq_true (by omega)]
    rfl
   have f3:(List.range' s.2.toNat (N-s.2.toNat)).filter (inS (s :: l))=(List.range' s.2.toNat (N-s.2.toNat)).filter (inS l):=List.filter_congr fun p hp=>by
    have hp':=List.mem_range'_1.1 hp
    unfold inS
    rw [List.any_cons,decide_eq_false (show ¬ (p:Int)<s.2 by omega),Bool.and_false,Bool.false_or]
   rw [f1,f2,f3]
   rfl
  ·omega
def Jy:List (Int×Int)→Int
 | []=>0
 | [s]=>s.2
 | _ :: s :: l=>Jy (s :: l)
theorem Jz (l:List (Int×Int)) (h:0<l.length):Jy l=l[l.length-1].2:=by
 induction l with
 | nil=>simp at h
 | cons s l ih=>
  cases l with
  | nil=>rfl
  | cons u l=>
   rw [Jy,ih (by simp)]
   rfl
theorem dB:∀ {a:Int} {l:List (Int×Int)},EH a l→∀ s∈l,s.2≤Jy l
 | _,[s],_,u,hu=>by
  rcases List.mem_singleton.1 hu with rfl
  exact Int.le_refl _
 | a,s :: u :: l,⟨h1,h2,h3,h4⟩,v,hv=>by
  have ih:=dB h4
  rcases List.mem_cons.1 hv with rfl | hv
  ·have:=ih u (List.mem_cons_self ..)
   have:=h4.1
   have:=h4.2.1
   rw [Jy]
   omega
  ·rw [Jy];exact ih v hv
theorem td {a:Int} {l:List (Int×Int)} (h:EH a l) (ha: -1≤a):0≤Jy l∧Jy l≤65536:=by
 rcases Nat.eq_zero_or_pos l.length with h0 | h0
 ·rw [List.eq_nil_of_length_eq_zero h0];exact ⟨Int.le_refl _,by decide⟩
 ·rw [Jz l h0]
  have:=h.mem (List.getElem_mem (show l.length-1<l.length by omega))
  omega
theorem RX (l:List (Int×Int)) (hl:l.length≤4294967296):MY l=some (Jy l):=by
 unfold MY
 rw [Aq]
 by_cases h:l.length=0
 ·rw [CT (by omega),cond_true,List.eq_nil_of_length_eq_zero h];rfl
 ·rw [CE (by omega),cond_false,Dk (by omega),show ((l.length:Int)-1)=((l.length-1:Nat):Int) by omega,AA (by omega),cond_true,AQ (by omega),Jz l (by omega)]
theorem Km (a b:List (Int×Int)):Bi (a++b)=Bi a++Bi b:=by unfold Bi;rw [List.flatMap_append]
theorem jP (s:Int×Int):(Bi [s]).length=(s.2-s.1).toNat:=by unfold Bi;simp
theorem GS {l:List (Int×Int)} (h:EH (-1) l):(Bi l).length≤65536:=by
 rw [NR l (-1) 0 65536 h (Int.le_refl _) (by omega) (fun s hs=>(h.mem hs).2.2),List.length_map]
 refine Nat.le_trans (List.length_filter_le _ _) ?_
 simp
theorem Hg (l:List (Int×Int)) (i:Nat):(Bi (l.take i)).length≤(Bi l).length:=by
 conv=>rhs;rw [← List.take_append_drop i l]
 rw [Km,List.length_append]
 omega
theorem jQ (l:List (Int×Int)) (hM:EH (-1) l) (hl:l.length≤4294967296):∀ (d i n:Nat),d=l.length-i→i≤l.length→d<n→Cz.l0 n ((Bi (l.take i)).length:Int) l (l.length:Int) (i:Int)=some ((Bi l).length:Int):=by
 intro d
 induction d with
 | zero=>
  intro i n hd hi hn
  obtain ⟨n,rfl⟩:∃ m,n=m+1:=⟨n-1,by omega⟩
  have:i=l.length:=by omega
  subst this
  show Cz.S0 _ _ _ _ _=_
  unfold Cz.S0
  rw [AJ (by omega),cond_false,List.take_length]
 | succ d ih=>
  intro i n hd hi hn
  obtain ⟨n,rfl⟩:∃ m,n=m+1:=⟨n-1,by omega⟩
  have hlt:i<l.length:=by omega
  have hm:=hM.mem (List.getElem_mem hlt)
  have h1:=Hg l (i+1)
  have h2:=GS hM
  have hs:(Bi (l.take (i+1))).length=(Bi (l.take i)).length+(l[i].2-l[i].1).toNat:=by rw [take_one hlt,Km,List.length_append,jP]
  show Cz.S0 _ _ _ _ _=_
  unfold Cz.S0
  rw [Bj (by omega),cond_true,AA (by rw [Aq];omega),cond_true,AQ hlt,Dk (by omega),AE (by omega),AE (by omega),show (((Bi (l.take i)).length:Int)+(l[i].2-l[i].1))=(((Bi (l.take (i+1))).length:Nat):Int) by rw [hs];omega,show ((i:Int)+1)=((i+1:Nat):Int) by omega]
  exact ih (i+1) n (by omega) (by omega) (by omega)
theorem RL {l:List (Int×Int)} (hM:EH (-1) l) (hl:l.length≤4294967296):Cz l=some ((Bi l).length:Int):=by
 unfold Cz Cz.S
 rw [Kl l hl,decide_eq_true hM,Option.bind_some,cond_true]
 exact jQ l hM hl l.length 0 fu rfl (by omega) (by unfold fu;omega)
def DY (at_:Int) (l:List Int):Nat:=(l.filter fun p=>decide (p<at_)).length
theorem QL (at_:Int) (a b:List Int):DY at_ (a++b)=DY at_ a+DY at_ b:=by unfold DY;rw [List.filter_append,List.length_append]
theorem aj (at_:Int) (a:List Int):DY at_ a≤a.length:=List.length_filter_le _ _
theorem jR (at_:Int) (s:Int×Int) (h:s.1<s.2):(DY at_ (Bi [s]):Int)=max 0 (min at_ s.2-s.1):=by
 have:∀ n:Nat,(DY at_ ((List.range n).map fun (k:Nat)=>s.1+(k:Int)):Int)=max 0 (min (at_-s.1) (n:Int)):=by
  intro n
  induction n with
  | zero=>simp [DY];omega
  | succ n ih=>
   rw [List.range_succ,List.map_append,QL]
   have:DY at_ ([n].map fun (k:Nat)=>s.1+(k:Int))=if s.1+(n:Int)<at_ then 1 else 0:=by
    unfold DY
    by_cases h:s.1+(n:Int)<at_ <;> simp [h]
   rw [this]
   split <;> omega
 unfold Bi
 rw [List.flatMap_cons,List.flatMap_nil,List.append_nil,this]
 omega
theorem pI (l:List (Int×Int)) (hM:EH (-1) l) (hl:l.length≤4294967296) (at_:Int) (ha:0≤at_) (ha2:at_≤4294967296):∀ (d i n:Nat),d=l.length-i→i≤l.length→d<n→Ds.l0 n at_ (DY at_ (Bi (l.take i)):Int) l (l.length:Int) (i:Int)=some (DY at_ (Bi l):Int):=by
 intro d
 induction d with
 | zero=>
  intro i n hd hi hn
  obtain ⟨n,rfl⟩:∃ m,n=m+1:=⟨n-1,by omega⟩
  have:i=l.length:=by omega
  subst this
  show Ds.S0 _ _ _ _ _ _=_
  unfold Ds.S0
  rw [AJ (by omega),cond_false,List.take_length]
 | succ d ih=>
  intro i n hd hi hn
  obtain ⟨n,rfl⟩:∃ m,n=m+1:=⟨n-1,by omega⟩
  have hlt:i<l.length:=by omega
  have hm:=hM.mem (List.getElem_mem hlt)
  have h1:=Hg l (i+1)
  have h2:=GS hM
  have h3:=aj at_ (Bi (l.take (i+1)))
  have hs:DY at_ (Bi (l.take (i+1)))=DY at_ (Bi (l.take i))+DY at_ (Bi [l[i]]):=by rw [take_one hlt,Km,QL]
  have hv:=jR at_ l[i] hm.2.1
  have hmin:Et at_ l[i].2=min at_ l[i].2:=by unfold Et;split <;> omega
  have hmax:FP 0 (min at_ l[i].2-l[i].1)=max 0 (min at_ l[i].2-l[i].1):=by unfold FP;split <;> omega
  show Ds.S0 _ _ _ _ _ _=_
  unfold Ds.S0
  rw [Bj (by omega),cond_true,AA (by rw [Aq];omega),cond_true,AQ hlt,hmin,Dk (by omega),hmax,← hv,AE (by omega),AE (by omega),show ((DY at_ (Bi (l.take i)):Int)+(DY at_ (Bi [l[i]]):Int))=((DY at_ (Bi (l.take (i+1))):Nat):Int) by rw [hs];omega,show ((i:Int)+1)=((i+1:Nat):Int) by omega]
  exact ih (i+1) n (by omega) (by omega) (by omega)
theorem dC {l:List (Int×Int)} (hM:EH (-1) l) (hl:l.length≤4294967296) (at_:Int) (ha:0≤at_) (ha2:at_≤4294967296):Ds l at_=some (DY at_ (Bi l):Int):=by
 have hmax:FP at_ 0=at_:=by
  unfold FP
  rw [if_neg (by omega)]
 unfold Ds Ds.S
 rw [Kl l hl,decide_eq_true hM,Option.bind_some,cond_true,hmax]
 exact pI l hM hl at_ ha ha2 l.length 0 fu rfl (by omega) (by unfold fu;omega)
theorem bR (L:List (Int×Int)) (i:Nat) (s:Int×Int) (h1:s.2≤65536) (o0:List Int→List (Int×Int)→Int→Int→Option (List Int×Int)):∀ (d:Nat) (k:Int) (n:Nat) (out:List Int),d=(s.2-k).toNat→0≤k→k≤s.2→d<n→out.length+d≤1000000→
  Bp.l1 o0 n out k L (L.length:Int) (i:Int) s=o0 (out++(List.range d).map fun (j:Nat)=>k+(j:Int)) L (L.length:Int) (An .i64 (i:Int) 1):=by
 intro d
 induction d with
 | zero=>
  intro k n out hd h0 hk hn ho
  obtain ⟨n,rfl⟩:∃ m,n=m+1:=⟨n-1,by omega⟩
  show Bp.S1 _ _ _ _ _ _ _ _=_
  unfold Bp.S1
  rw [AJ (by omega),cond_false]
  simp
 | succ d ih=>
  intro k n out hd h0 hk hn ho
  obtain ⟨n,rfl⟩:∃ m,n=m+1:=⟨n-1,by omega⟩
  show Bp.S1 _ _ _ _ _ _ _ _=_
  unfold Bp.S1
  rw [Bj (by omega),cond_true,Bg (by omega),cond_true,AE (a:=k) (by omega),ih (k+1) n (out++[k]) (by omega) (by omega) (by omega) (by omega) (by simp;omega)]
  congr 1
  rw [List.range_succ_eq_map,List.map_cons,List.map_map,List.append_assoc]
  congr 1
  rw [List.singleton_append]
  congr 1
  ·simp
  ·apply List.map_congr_left
   intro j _
   simp
   omega
theorem dD (l:List (Int×Int)) (hM:EH (-1) l) (hl:l.length≤4294967296):∀ (d i n:Nat),d=l.length-i→i≤l.length→d<n→70000+d<n→Bp.l0 n (Bi (l.take i)) l (l.length:Int) (i:Int)=some (Bi l,0):=by
 intro d
 induction d with
 | zero=>
  intro i n hd hi hn hn2
  obtain ⟨n,rfl⟩:∃ m,n=m+1:=⟨n-1,by omega⟩
  have:i=l.length:=by omega
  subst this
  show Bp.S0 _ _ _ _ _=_
  unfold Bp.S0
  rw [AJ (by omega),cond_false,List.take_length]
 | succ d ih=>
  intro i n hd hi hn hn2
  obtain ⟨n,rfl⟩:∃ m,n=m+1:=⟨n-1,by omega⟩
  have hlt:i<l.length:=by omega
  have hm:=hM.mem (List.getElem_mem hlt)
  have h1:=Hg l i
  have h2:=GS hM
  show Bp.S0 _ _ _ _ _=_
  unfold Bp.S0
  rw [Bj (by omega),cond_true,AA (by rw [Aq];omega),cond_true,AQ hlt,bR l i l[i] (by omega) _ (l[i].2-l[i].1).toNat l[i].1 n _ rfl (by omega) (by omega) (by omega) (by omega)]
  have hs:(Bi (l.take (i+1))).length≤(Bi l).length:=Hg l (i+1)
  have hq:=take_one hlt
  rw [AE (by omega),show ((i:Int)+1)=((i+1:Nat):Int) by omega,show Bi (l.take i)++(List.range (l[i].2-l[i].1).toNat).map (fun (j:Nat)=>l[i].1+(j:Int))=Bi (l.take (i+1)) by rw [hq,Km];unfold Bi;simp]
  exact ih (i+1) n (by omega) (by omega) (by omega) (by omega)
theorem YA {l:List (Int×Int)} (hM:EH (-1) l) (hl:l.length≤4294967296):Bp l=some (Bi l,0):=by
 have h2:=GS hM
 unfold Bp Bp.S
 rw [Kl l hl,decide_eq_true hM,Option.bind_some,Bool.not_true,cond_false,RL hM hl,Option.bind_some,DL (by omega),Bool.true_and,show Int.toNat ((Bi l).length:Int)=(Bi l).length from rfl,Bg (by omega),cond_true]
 exact dD l hM hl l.length 0 fu rfl (by omega) (by unfold fu;omega) (by unfold fu;omega)
end Go.AM.Pure
end

section
/- Words of spans. -/
namespace Go.AM.Pure
open Go.AM
theorem Ztb1 {a:Nat} (h:a<9223372036854775808):BF .i64 (a:Int) 63=((a % 64:Nat):Int):=by
 unfold BF
 show IntKind.wrap .i64 ((BitVec.ofInt 64 (a:Int) &&& BitVec.ofInt 64 63).toNat:Int)=_
 have e1:(BitVec.ofInt 64 (a:Int)).toNat=a:=by
  have:=II (a:Int)
  omega
 rw [BitVec.toNat_and,e1,show (BitVec.ofInt 64 63).toNat=2 ^ 6-1 from rfl,Nat.and_two_pow_sub_one_eq_mod]
 exact Ez (by omega)
def NQ (W:List Int) (p:Nat):Bool:=bit (W.getD (p / 64) 0) (p % 64)
theorem pH:∀ (d lo hi n:Nat) (W:List Int),d=hi-lo→d<n→lo≤hi→hi≤64*W.length→W.length≤1024→0<W.length→
  ∃ W',Co.l0 n (lo:Int) (hi:Int) W=some W'∧W'.length=W.length∧∀ p,p<64*W.length→NQ W' p=(NQ W p || (decide (lo≤p) && decide (p<hi))):=by
 intro d
 induction d using Nat.strongRecOn with
 | ind d ih=>
  intro lo hi n W hd hn hlh hhi hW h0
  obtain ⟨n,rfl⟩:∃ m,n=m+1:=⟨n-1,by omega⟩
  show ∃ W',Co.S0 _ _ _ _=some W'∧_
  unfold Co.S0
  by_cases hlt:lo<hi
  ·have hq:lo / 64<W.length:=by omega
   have hg:W.getD (lo / 64) 0=W[lo / 64]:=by rw [List.getD_eq_getElem?_getD,List.getElem?_eq_getElem hq];rfl
   have hmin:Et (64-((lo % 64:Nat):Int)) ((hi:Int)-(lo:Int))=((min (64-lo % 64) (hi-lo):Nat):Int):=by unfold Et;split <;> omega
   obtain ⟨k,hk⟩:∃ k,min (64-lo % 64) (hi-lo)=k:=⟨_,rfl⟩
   rw [hk] at hmin
   obtain ⟨y,hy,_,hb⟩:=tk (W[lo / 64]) (lo % 64) (k:Int) (by omega) (by omega)
   rw [Bj (by omega),cond_true,show (6:Int)=((6:Nat):Int) from rfl,Hk _ _ (by omega),show ((lo:Int) / 2 ^ 6)=((lo / 64:Nat):Int) by omega,AA (by rw [Aq];omega),cond_true,Ztb1 (by omega),Dk (by omega),Dk (by omega),hmin,show Int.toNat ((lo / 64:Nat):Int)=lo / 64 from rfl,hg,hy,Option.bind_some,cond_true,AE (by omega),show ((lo:Int)+(k:Int))=((lo+k:Nat):Int) by omega]
   obtain ⟨W',h1,h2,h3⟩:=ih (hi-(lo+k)) (by omega) (lo+k) hi n (W.set (lo / 64) y) rfl (by omega) (by omega) (by rw [List.length_set];exact hhi) (by rw [List.length_set];exact hW) (by rw [List.length_set];exact h0)
   refine ⟨W',h1,by rw [h2,List.length_set],fun p hp=>?_⟩
   rw [h3 p (by rw [List.length_set];exact hp)]
   unfold NQ
   rw [List.getD_eq_getElem?_getD,List.getD_eq_getElem?_getD]
   by_cases hpq:p / 64=lo / 64
   ·rw [hpq,List.getElem?_set_self hq,List.getElem?_eq_getElem hq]
    show (bit y (p % 64) || _)=(bit W[lo / 64] (p % 64) || _)
    rw [hb (p % 64) (by omega),Bool.or_assoc]
    congr 1
    by_cases h4:lo≤p
    ·by_cases h5:p<lo+k
     ·rw [decide_eq_true (show lo % 64≤p % 64 by omega),decide_eq_true (show ((p % 64:Nat):Int)<((lo % 64:Nat):Int)+(k:Int) by omega),decide_eq_true h4,decide_eq_true (show p<hi by omega)]
      rfl
     ·rw [decide_eq_false (show ¬ ((p % 64:Nat):Int)<((lo % 64:Nat):Int)+(k:Int) by omega),decide_eq_true h4,decide_eq_true (show lo+k≤p by omega)]
      simp
    ·rw [decide_eq_false (show ¬ lo % 64≤p % 64 by omega),decide_eq_false h4,decide_eq_false (show ¬ lo+k≤p by omega)]
     rfl
   ·rw [List.getElem?_set_ne (Ne.symm hpq)]
    congr 1
    by_cases h4:lo+k≤p
    ·rw [decide_eq_true h4,decide_eq_true (show lo≤p by omega)]
    ·rw [decide_eq_false h4]
     by_cases h5:lo≤p
     ·omega
     ·rw [decide_eq_false h5]
  ·rw [AJ (by omega),cond_false,decide_eq_true h0,cond_true]
   refine ⟨W,rfl,rfl,fun p hp=>?_⟩
   by_cases h4:lo≤p
   ·rw [decide_eq_false (show ¬ p<hi by omega)];simp
   ·rw [decide_eq_false h4];simp
theorem Ztw (a b:List (Int×Int)) (p:Nat):inS (a++b) p=(inS a p || inS b p):=by unfold inS;rw [List.any_append]
theorem Zsd (l:List (Int×Int)) (hM:EH (-1) l) (hl:l.length≤4294967296) (N:Nat) (h0:0<N) (hN:N≤1024) (hT:∀ s∈l,s.2≤((64*N:Nat):Int)):∀ (d i n:Nat) (W:List Int),d=l.length-i→i≤l.length→d<n→W.length=N→(∀ p,p<64*N→NQ W p=inS (l.take i) p)→
  ∃ W',DM.l0 n l (l.length:Int) (i:Int) W=some (W',0)∧W'.length=N∧∀ p,p<64*N→NQ W' p=inS l p:=by
 intro d
 induction d with
 | zero=>
  intro i n W hd hi hn hW hb
  obtain ⟨n,rfl⟩:∃ m,n=m+1:=⟨n-1,by omega⟩
  have:i=l.length:=by omega
  subst this
  show ∃ W',DM.S0 _ _ _ _ _=some (W',0)∧_
  unfold DM.S0
  rw [AJ (by omega),cond_false]
  rw [List.take_length] at hb
  exact ⟨W,rfl,hW,hb⟩
 | succ d ih=>
  intro i n W hd hi hn hW hb
  obtain ⟨n,rfl⟩:∃ m,n=m+1:=⟨n-1,by omega⟩
  have hlt:i<l.length:=by omega
  have hm:=hM.mem (List.getElem_mem hlt)
  have ht:=hT _ (List.getElem_mem hlt)
  show ∃ W',DM.S0 _ _ _ _ _=some (W',0)∧_
  unfold DM.S0
  obtain ⟨a,ha⟩:=Int.eq_ofNat_of_zero_le (show 0≤l[i].1 by omega)
  obtain ⟨b,hbb⟩:=Int.eq_ofNat_of_zero_le (show 0≤l[i].2 by omega)
  obtain ⟨W1,h1,h2,h3⟩:=pH (b-a) a b fu W rfl (by unfold fu;omega) (by omega) (by omega) (by omega) (by omega)
  have hf:Co W l[i].1 l[i].2=some W1:=by rw [ha,hbb];exact h1
  rw [Bj (by omega),cond_true,AA (by rw [Aq];omega),cond_true,AQ hlt,Ip (by rw [decide_eq_true (by omega)];rfl) hf (by rw [decide_eq_true h2];rfl),Option.bind_some,AE (by omega),show ((i:Int)+1)=((i+1:Nat):Int) by omega]
  refine ih (i+1) n W1 (by omega) (by omega) (by omega) (by omega) fun p hp=>?_
  rw [h3 p (by omega),hb p hp,take_one hlt,Ztw]
  congr 1
  unfold inS
  rw [List.any_cons,List.any_nil,Bool.or_false,ha,hbb]
  congr 1
  ·exact decide_eq_decide.2 ⟨fun h=>by omega,fun h=>by omega⟩
  ·exact decide_eq_decide.2 ⟨fun h=>by omega,fun h=>by omega⟩
theorem ta {W:List Int} {Q:Nat→Bool} (h:∀ p,p<64*W.length→NQ W p=Q p):wpl 0 W=KJ ((List.range' 0 (64*W.length)).filter Q):=by
 refine te Q W 0 fun i hi b hb=>?_
 have:=h (64*i+b) (by omega)
 unfold NQ at this
 rw [show (64*i+b) / 64=i by omega,show (64*i+b) % 64=b by omega,List.getD_eq_getElem?_getD,List.getElem?_eq_getElem hi] at this
 rw [Nat.zero_add]
 exact this
theorem jO {l:List (Int×Int)} (hM:EH (-1) l) (hl:l.length≤4294967296):∃ W,DM l=some (W,0)∧W.length=((Jy l+63) / 64).toNat∧W.length≤1024∧FK W=some true∧wpl 0 W=Bi l:=by
 unfold DM DM.S
 rw [Kl l hl,decide_eq_true hM,Option.bind_some,Bool.not_true,cond_false,Aq]
 by_cases h0:l.length=0
 ·rw [CT (by omega),cond_true,List.eq_nil_of_length_eq_zero h0]
  exact ⟨[],rfl,rfl,by simp,rfl,rfl⟩
 rw [CE (by omega),cond_false,Dk (by omega),show ((l.length:Int)-1)=((l.length-1:Nat):Int) by omega,AA (by omega),cond_true,AQ (by omega),← Jz l (by omega)]
 have htr:=td hM (Int.le_refl _)
 obtain ⟨T,hT⟩:=Int.eq_ofNat_of_zero_le htr.1
 have hT0:0<T:=by
  have h1:=hM.mem (List.getElem_mem (show l.length-1<l.length by omega))
  rw [← Jz l (by omega)] at h1
  omega
 obtain ⟨N,hN⟩:∃ N:Nat,(T+63) / 64=N:=⟨_,rfl⟩
 have hsh:BG .i64 (AT .i64 (An .i64 (Jy l) 64) 1) 6=(N:Int):=by
  rw [AE (by omega),Dk (by omega),show (6:Int)=((6:Nat):Int) from rfl,Hk _ _ (by omega),hT]
  omega
 rw [hsh,DL (by omega),Bool.true_and,show Int.toNat (N:Int)=N from rfl,Bg (by omega),cond_true]
 have hNT:∀ s∈l,s.2≤((64*N:Nat):Int):=fun s hs=>by have:=dB hM s hs;omega
 obtain ⟨W,h1,h2,h3⟩:=Zsd l hM hl N (by omega) (by omega) hNT l.length 0 fu (List.replicate N 0) rfl (by omega) (by unfold fu;omega) (by simp) (fun p hp=>by
  unfold NQ
  rw [List.getD_eq_getElem?_getD,List.getElem?_replicate,if_pos (by omega)]
  show bit 0 (p % 64)=false
  exact Ms _)
 have hw:wpl 0 W=Bi l:=by
  rw [ta (fun p hp=>h3 p (by omega)),NR l (-1) 0 (64*N) hM (Int.le_refl _) (by omega) hNT,h2]
  rfl
 refine ⟨W,h1,by rw [h2,hT];omega,by omega,?_,hw⟩
 unfold FK
 rw [Aq,DL (by omega),cond_true,CE (by omega),cond_false,Dk (by omega),show ((W.length:Int)-1)=((W.length-1:Nat):Int) by omega,AA (by omega),cond_true,AQ (by omega)]
 congr 1
 refine Jp fun hz=>?_
 have h4:=h3 (T-1) (by omega)
 unfold NQ at h4
 rw [show (T-1) / 64=W.length-1 by omega,List.getD_eq_getElem?_getD,List.getElem?_eq_getElem (show W.length-1<W.length by omega)] at h4
 have h5:inS l (T-1)=true:=by
  unfold inS
  rw [List.any_eq_true]
  refine ⟨_,List.getElem_mem (show l.length-1<l.length by omega),?_⟩
  have h1:=hM.mem (List.getElem_mem (show l.length-1<l.length by omega))
  rw [← Jz l (by omega)] at h1 ⊢
  rw [decide_eq_true (by omega),decide_eq_true (by omega)]
  rfl
 rw [h5,show (some (W[W.length-1]'(by omega))).getD 0=0 from hz,Ms] at h4
 cases h4
theorem bQ (L:List (Int×Int)) {i:Nat} (hi:i<L.length) (hl:L.length≤4294967296) (h1:L[i].2≤65536) (o0:List (Int×Int)→List Int→Int→Option (List Int×Int)):∀ (d:Nat) (k:Int) (n:Nat) (out:List Int),d=(L[i].2-k).toNat→0≤k→k≤L[i].2→d<n→out.length+d≤1000000→
  Be.l1 o0 n L out (i:Int) k=o0 L (out++(List.range d).map fun (j:Nat)=>k+(j:Int)) (An .i64 (i:Int) 1):=by
 intro d
 induction d with
 | zero=>
  intro k n out hd h0 hk hn ho
  obtain ⟨n,rfl⟩:∃ m,n=m+1:=⟨n-1,by omega⟩
  show Be.S1 _ _ _ _ _ _=_
  unfold Be.S1
  rw [AA (by rw [Aq];omega),cond_true,AQ hi,AJ (by omega),cond_false]
  simp
 | succ d ih=>
  intro k n out hd h0 hk hn ho
  obtain ⟨n,rfl⟩:∃ m,n=m+1:=⟨n-1,by omega⟩
  show Be.S1 _ _ _ _ _ _=_
  unfold Be.S1
  rw [AA (by rw [Aq];omega),cond_true,AQ hi,Bj (by omega),cond_true,Bg (by omega),cond_true,AE (a:=k) (by omega),ih (k+1) n (out++[k]) (by omega) (by omega) (by omega) (by omega) (by simp;omega)]
  congr 1
  rw [List.range_succ_eq_map,List.map_cons,List.map_map,List.append_assoc]
  congr 1
  rw [List.singleton_append]
  congr 1
  ·simp
  ·apply List.map_congr_left
   intro j _
   simp
   omega
theorem dz (l:List (Int×Int)) (hM:EH (-1) l) (hl:l.length≤4294967296):∀ (d i n:Nat),d=l.length-i→i≤l.length→d<n→70000+d<n→Be.l0 n l (Bi (l.take i)) (i:Int)=some (Bi l,0):=by
 intro d
 induction d with
 | zero=>
  intro i n hd hi hn hn2
  obtain ⟨n,rfl⟩:∃ m,n=m+1:=⟨n-1,by omega⟩
  have:i=l.length:=by omega
  subst this
  show Be.S0 _ _ _ _=_
  unfold Be.S0
  rw [Aq,AJ (by omega),cond_false,List.take_length]
 | succ d ih=>
  intro i n hd hi hn hn2
  obtain ⟨n,rfl⟩:∃ m,n=m+1:=⟨n-1,by omega⟩
  have hlt:i<l.length:=by omega
  have hm:=hM.mem (List.getElem_mem hlt)
  have h1:=Hg l i
  have h2:=GS hM
  have hq:=take_one hlt
  show Be.S0 _ _ _ _=_
  unfold Be.S0
  rw [Aq,Bj (by omega),cond_true,AA (by omega),cond_true,AQ hlt,bQ l hlt hl (by omega) _ (l[i].2-l[i].1).toNat l[i].1 n _ rfl (by omega) (by omega) (by omega) (by omega)]
  rw [AE (by omega),show ((i:Int)+1)=((i+1:Nat):Int) by omega,show Bi (l.take i)++(List.range (l[i].2-l[i].1).toNat).map (fun (j:Nat)=>l[i].1+(j:Int))=Bi (l.take (i+1)) by rw [hq,Km];unfold Bi;simp]
  exact ih (i+1) n (by omega) (by omega) (by omega) (by omega)
theorem Wc {l:List (Int×Int)} (hM:EH (-1) l) (hl:l.length≤4294967296):Be l=some (Bi l,0):=by
 unfold Be Be.S
 rw [Ox l hl,decide_eq_true hM,Option.bind_some,Bool.not_true,cond_false]
 exact dz l hM hl l.length 0 fu rfl (by omega) (by unfold fu;omega) (by unfold fu;omega)
end Go.AM.Pure
end

section
/- Lists of places in whatever form; the cells at them, and their sum. -/
namespace Go.AM.Pure
open Go.AM
theorem sY {l:List Nat} (h:l.Pairwise (· < ·)):(KJ l).Pairwise (· < ·):=by
 unfold KJ
 rw [List.pairwise_map]
 exact h.imp fun h=>by omega
theorem Yz {l:List (Int×Int)} (h:EH (-1) l):(Bi l).Pairwise (· < ·):=by
 rw [NR l (-1) 0 65536 h (Int.le_refl _) (by omega) (fun s hs=>(h.mem hs).2.2)]
 exact sY (List.Pairwise.filter _ List.pairwise_lt_range')
theorem MG {l:List (Int×Int)} (h:EH (-1) l) {p:Int} (hp:p∈Bi l):0≤p∧p<Jy l:=by
 unfold Bi at hp
 rw [List.mem_flatMap] at hp
 obtain ⟨s,hs,hp⟩:=hp
 rw [List.mem_map] at hp
 obtain ⟨k,hk,rfl⟩:=hp
 have h1:=h.mem hs
 have h2:=dB h s hs
 have:=List.mem_range.1 hk
 omega
theorem jM {l:List (Int×Int)} (h:EH (-1) l) (h0:0<l.length):Jy l-1∈Bi l:=by
 have hm:=h.mem (List.getElem_mem (show l.length-1<l.length by omega))
 rw [← Jz l h0] at hm
 unfold Bi
 rw [List.mem_flatMap]
 refine ⟨_,List.getElem_mem (show l.length-1<l.length by omega),List.mem_map.2 ⟨(l[l.length-1].2-l[l.length-1].1).toNat-1,List.mem_range.2 ?_,?_⟩⟩
 ·have:=Jz l h0;omega
 ·have:=Jz l h0;omega
theorem jN {d:List Int} (hd:d.Pairwise (· < ·)) {v:Int}:∀ (k:Nat),k≤d.length→(∀ j (h:j<d.length),j<k→d[j]<v)→(∀ j (h:j<d.length),k≤j→v≤d[j])→DY v d=k:=by
 intro k hk h1 h2
 have e:d=d.take k++d.drop k:=(List.take_append_drop k d).symm
 rw [e,QL]
 have f1:DY v (d.take k)=k:=by
  unfold DY
  rw [List.filter_eq_self.2 fun x hx=>by
   obtain ⟨j,hj,rfl⟩:=List.getElem_of_mem hx
   rw [List.length_take] at hj
   rw [List.getElem_take]
   exact decide_eq_true (h1 j (by omega) (by omega)),List.length_take]
  omega
 have f2:DY v (d.drop k)=0:=by
  unfold DY
  rw [List.filter_eq_nil_iff.2 fun x hx=>by
   obtain ⟨j,hj,rfl⟩:=List.getElem_of_mem hx
   rw [List.length_drop] at hj
   rw [List.getElem_drop]
   have:=h2 (k+j) (by omega) (by omega)
   simpa using this]
  rfl
 omega
theorem Zrd (d:List Int) (hl:d.length<1000000000) (hd:d.Pairwise (· < ·)) (v:Int):∀ (g i j n:Nat),g=j-i→i≤j→j≤d.length→g<n→(∀ m (h:m<d.length),m<i→d[m]<v)→(∀ m (h:m<d.length),j≤m→v≤d[m])→
  ∃ b,Ap.l0 (Ap.t1 fu) n d v (d.length:Int) (i:Int) (j:Int)=some ((DY v d:Int),b):=by
 intro g
 induction g using Nat.strongRecOn with
 | ind g ih=>
 intro i j n hg hij hjl hn h1 h2
 obtain ⟨n,rfl⟩:∃ m,n=m+1:=⟨n-1,by omega⟩
 show ∃ b,Ap.S0 Ap.S1 (Ap.l0 (Ap.t1 fu) n) _ _ _ _ _=_
 unfold Ap.S0
 by_cases hlt0:i<j
 ·have hh:IntKind.wrap .i64 (BG .u64 (IntKind.wrap .u64 (An .i64 (i:Int) (j:Int))) 1)=(((i+j) / 2:Nat):Int):=by
   have h1:IntKind.wrap .u64 ((i:Int)+(j:Int))=((i+j:Nat):Int):=by rw [Dj];omega
   have h2:=ND ((i+j:Nat):Int) 1 (by omega)
   rw [show ((1:Nat):Int)=1 from rfl,Int.pow_succ,Int.pow_zero,Int.one_mul] at h2
   rw [AE (by omega),h1,h2,Ez (by omega)]
   omega
  have hm:(i+j) / 2<d.length:=by omega
  rw [Bj (by omega),cond_true,hh,AA (by rw [Aq];omega),cond_true,AQ hm,ea,AE (by omega)]
  by_cases hlt:d[(i+j) / 2]<v
  ·rw [Bj hlt,cond_true]
   refine ih (j-((i+j) / 2+1)) (by omega) ((i+j) / 2+1) j n rfl (by omega) hjl (by omega) (fun m hm2 hmi=>?_) h2
   by_cases he:m=(i+j) / 2
   ·subst he;exact hlt
   ·exact Int.lt_trans (OE hd (by omega) hm) hlt
  ·rw [AJ (by omega),cond_false]
   refine ih ((i+j) / 2-i) (by omega) i ((i+j) / 2) n rfl (by omega) (by omega) (by omega) h1 (fun m hm2 hmi=>?_)
   by_cases he:m=(i+j) / 2
   ·subst he;omega
   ·have:=OE hd (show (i+j) / 2<m by omega) hm2
    omega
 ·have:i=j:=by omega
  subst this
  rw [AJ (by omega),cond_false]
  unfold Ap.S1
  rw [jN hd i hjl h1 h2]
  by_cases hi:i<d.length
  ·rw [Bj (by omega),cond_true,AA (by rw [Aq];omega),cond_true,AQ hi]
   cases eqI d[i] v with
   | true=>exact ⟨_,rfl⟩
   | false=>
    rw [cond_false]
    cases IM d[i] <;> exact ⟨_,rfl⟩
  ·rw [AJ (by omega),cond_false]
   exact ⟨_,rfl⟩
theorem Zy3 (d:List Int) (hl:d.length<1000000000) (hd:d.Pairwise (· < ·)) (v:Int):∃ b,Ap d v=some ((DY v d:Int),b):=
 Zrd d hl hd v d.length 0 d.length fu (by omega) (by omega) (by omega) (by unfold fu;omega) (fun m h h2=>by omega) (fun m h h2=>by omega)
def Zz3 (x:Kg) (ps:List Int):Prop:=
 CV x=some (ps.length:Int)∧(∀ n:Nat,n≤65536→Dh x (n:Int)=some (DY (n:Int) ps:Int))∧Ji x=some ps
theorem Zsw {l:List (Int×Int)} (hM:EH (-1) l) (hl:l.length≤65536) {form:Int} (hf:form=1∨form=2∨form=3):∃ x,Lu l form=some (x,0)∧x.1=form∧Zz3 x (Bi l):=by
 have hpl:=GS hM
 have hl2:l.length≤4294967296:=by omega
 unfold Lu
 rw [Kl l hl2,decide_eq_true hM,Option.bind_some,Bool.not_true,cond_false]
 rcases hf with rfl | rfl | rfl
 ·rw [CT rfl,cond_true,show OB 16 l=some l from by unfold OB;rw [Bg (by omega)];rfl,Option.bind_some]
  refine ⟨_,rfl,rfl,?_,fun n hn=>?_,?_⟩
  ·show CV (1,l,[],[])=_
   unfold CV
   rw [CE (by omega),cond_false,CE (by omega),cond_false,RL hM hl2]
   rfl
  ·show Dh (1,l,[],[]) _=_
   unfold Dh
   rw [CE (by omega),cond_false,CE (by omega),cond_false,dC hM hl2 _ (by omega) (by omega)]
   rfl
  ·show Ji (1,l,[],[])=_
   unfold Ji
   rw [CE (by omega),cond_false,CE (by omega),cond_false,decide_eq_true hl2,Bool.true_and,show (l.all fun s=>leI (-9223372036854775808) s.1 && leI s.2 9223372036854775807)=true from List.all_eq_true.2 fun s hs=>by
    have:=hM.mem hs
    rw [DL (by omega),DL (by omega)]
    rfl]
   rfl
 ·obtain ⟨W,h1,h2,h3,h4,h5⟩:=jO hM hl2
  rw [CE (by omega),cond_false,CT rfl,cond_true,h1,Option.bind_some]
  refine ⟨_,rfl,rfl,?_,fun n hn=>?_,?_⟩
  ·show CV (2,[],W,[])=_
   unfold CV
   rw [CT rfl,cond_true,ti h4 (by omega),h5]
   rfl
  ·show Dh (2,[],W,[]) _=_
   unfold Dh
   rw [CT rfl,cond_true,Zwd h4 (by omega),h5]
   rfl
  ·show Ji (2,[],W,[])=_
   unfold Ji
   rw [CT rfl,cond_true,decide_eq_true h3,cond_true]
   have:=We W 0
   rw [h5] at this
   exact this
 ·rw [CE (by omega),cond_false,CE (by omega),cond_false,CT rfl,cond_true,YA hM hl2,Option.bind_some]
  refine ⟨_,rfl,rfl,?_,fun n hn=>?_,?_⟩
  ·show CV (3,[],[],Bi l)=_
   unfold CV
   rw [CE (by omega),cond_false,CT rfl,cond_true]
   rfl
  ·show Dh (3,[],[],Bi l) _=_
   unfold Dh
   obtain ⟨b,hb⟩:=Zy3 (Bi l) (by omega) (Yz hM) (n:Int)
   rw [CE (by omega),cond_false,CT rfl,cond_true,hb]
   rfl
  ·rfl
theorem sZ {s:ByteArray} {l:List Cell} (hT:EI s=some (l,0)) (hl:l.length≤65536) {x:Kg} {ps:List Int} (hx:Zz3 x ps) (hp:ps.length≤65536) (h0:∀ p∈ps,0≤p):
  Hd s x=some (if ps.all (fun p=>decide (p<(l.length:Int)))=true then (ps.map fun p=>nth l p (0,0,eB),0) else ([],3)):=by
 obtain ⟨h1,h2,h3⟩:=hx
 unfold Hd
 rw [hT,Option.bind_some]
 dsimp only
 rw [Db rfl,cond_false,Aq,h2 l.length hl,Option.bind_some,h1,Option.bind_some]
 by_cases h:ps.all (fun p=>decide (p<(l.length:Int)))=true
 ·have hb:DY (l.length:Int) ps=ps.length:=by
   unfold DY
   rw [List.filter_eq_self.2 fun p hp=>List.all_eq_true.1 h p hp]
  rw [if_pos h,hb,AJ (by omega),cond_false,h3,Option.bind_some,show (ps.all fun p=>inB p (l.length:Int))=true from List.all_eq_true.2 fun p hp=>AA ⟨h0 p hp,of_decide_eq_true (List.all_eq_true.1 h p hp)⟩,Bool.true_and,decide_eq_true (by omega),cond_true]
 ·have hb:DY (l.length:Int) ps<ps.length:=by
   rcases Nat.lt_or_ge (DY (l.length:Int) ps) ps.length with h1 | h1
   ·exact h1
   ·exfalso
    apply h
    have h2:=aj (l.length:Int) ps
    have h3:ps.filter (fun p=>decide (p<(l.length:Int)))=ps:=List.Sublist.eq_of_length List.filter_sublist (by unfold DY at h1 h2;omega)
    rw [List.all_eq_true]
    intro p hp
    rw [← h3] at hp
    exact (List.mem_filter.1 hp).2
  rw [if_neg h,Bj (by omega),cond_true]
theorem dy (l:List Cell) (ps:List Int) (hp:ps.length≤65536) (hin:∀ p∈ps,0≤p∧p<(l.length:Int)):∀ (d i n:Nat),d=ps.length-i→i≤ps.length→d<n→
  Cm.l0 n l ps ((ps.take i).map fun p=>nth l p (0,0,eB)) (i:Int)=some (ps.map fun p=>nth l p (0,0,eB),true):=by
 intro d
 induction d with
 | zero=>
  intro i n hd hi hn
  obtain ⟨n,rfl⟩:∃ m,n=m+1:=⟨n-1,by omega⟩
  have:i=ps.length:=by omega
  subst this
  show Cm.S0 _ _ _ _ _=_
  unfold Cm.S0
  rw [Aq,AJ (by omega),cond_false,List.take_length]
 | succ d ih=>
  intro i n hd hi hn
  obtain ⟨n,rfl⟩:∃ m,n=m+1:=⟨n-1,by omega⟩
  have hlt:i<ps.length:=by omega
  show Cm.S0 _ _ _ _ _=_
  unfold Cm.S0
  rw [Aq,Bj (by omega),cond_true,AA (by omega),cond_true,AQ hlt,AA (by rw [Aq];exact hin _ (List.getElem_mem hlt)),cond_true,Bg (by rw [List.length_map,List.length_take];omega),cond_true,AE (by omega),show ((i:Int)+1)=((i+1:Nat):Int) by omega]
  have:=ih (i+1) n (by omega) (by omega) (by omega)
  rw [take_one hlt,List.map_append] at this
  exact this
theorem Wb {at_:List (Int×Int)} (hM:EH (-1) at_) (hl:at_.length≤65536) (l:List Cell):
  Cm l at_=some (if (Bi at_).all (fun p=>decide (p<(l.length:Int)))=true then ((Bi at_).map fun p=>nth l p (0,0,eB),true) else ([],false)):=by
 have hpl:=GS hM
 unfold Cm Cm.S
 rw [RX _ (by omega),Option.bind_some,Aq]
 by_cases h:(Bi at_).all (fun p=>decide (p<(l.length:Int)))=true
 ·have htop:Jy at_≤(l.length:Int):=by
   rcases Nat.eq_zero_or_pos at_.length with h0 | h0
   ·rw [List.eq_nil_of_length_eq_zero h0];show (0:Int)≤_;omega
   ·have:=of_decide_eq_true (List.all_eq_true.1 h _ (jM hM h0))
    omega
  rw [if_pos h,AJ htop,cond_false,Wc hM (by omega),Option.bind_some]
  exact dy l (Bi at_) hpl (fun p hp=>⟨(MG hM hp).1,of_decide_eq_true (List.all_eq_true.1 h p hp)⟩) _ 0 fu rfl (by omega) (by unfold fu;omega)
 ·have htop:(l.length:Int)<Jy at_:=by
   rcases Int.lt_or_le (l.length:Int) (Jy at_) with h1 | h1
   ·exact h1
   ·exfalso
    apply h
    rw [List.all_eq_true]
    intro p hp
    have:=MG hM hp
    exact decide_eq_true (by omega)
  rw [if_neg h,Bj htop,cond_true]
end Go.AM.Pure
end

section
/- Sums; the law of gathered cells. -/
namespace Go.AM.Pure
open Go.AM
theorem cy (a:Int):BF .i64 a 4294967295=a % 4294967296:=by
 unfold BF
 show IntKind.wrap .i64 ((BitVec.ofInt 64 a &&& BitVec.ofInt 64 4294967295).toNat:Int)=_
 have e1:=II a
 rw [BitVec.toNat_and,show (BitVec.ofInt 64 4294967295).toNat=2 ^ 32-1 from rfl,Nat.and_two_pow_sub_one_eq_mod,Ez (by omega)]
 omega
theorem cz (a:Int):BG .i64 a 32=a / 4294967296:=Hk a 32 (by omega)
def Hf:List Int→Int
 | []=>0
 | x :: l=>x / 4294967296+Hf l
def Gd:List Int→Int
 | []=>0
 | x :: l=>x % 4294967296+Gd l
theorem Vi:∀ (a b:List Int),Hf (a++b)=Hf a+Hf b
 | [],b=>by simp [Hf]
 | x :: a,b=>by simp [Hf,Vi a b];omega
theorem Vj:∀ (a b:List Int),Gd (a++b)=Gd a+Gd b
 | [],b=>by simp [Gd]
 | x :: a,b=>by simp [Gd,Vj a b];omega
theorem QJ:∀ (l:List Int),(∀ x∈l,BZ x)→ -(2147483648*(l.length:Int))≤Hf l∧Hf l≤2147483648*(l.length:Int)
 | [],_=>by simp [Hf]
 | x :: l,h=>by
  have h1:=QJ l fun y hy=>h y (List.mem_cons_of_mem _ hy)
  have h2:=h x (List.mem_cons_self ..)
  unfold BZ at h2
  simp only [Hf,List.length_cons]
  omega
theorem QK:∀ (l:List Int),0≤Gd l∧Gd l≤4294967296*(l.length:Int)
 | []=>by simp [Gd]
 | x :: l=>by
  have h1:=QK l
  simp only [Gd,List.length_cons]
  omega
def IA (c:Cell):Int:=c.2.1
def Gs (c:Cell):Int:=if c.1=1 then c.2.1 else 0
theorem Zpd (l:List Cell) (h64:∀ c∈l,BZ c.2.1) (hl:l.length≤65536):∀ (d i n:Nat),d=l.length-i→i≤l.length→d<n→
  BP.l0 (BP.t1 fu) n (Hf ((l.take i).map IA)) (Gd ((l.take i).map IA)) l (l.length:Int) (i:Int)=some (Hf (l.map IA)+Gd (l.map IA) / 4294967296,Gd (l.map IA) % 4294967296,0):=by
 intro d
 induction d with
 | zero=>
  intro i n hd hi hn
  obtain ⟨n,rfl⟩:∃ m,n=m+1:=⟨n-1,by omega⟩
  have:i=l.length:=by omega
  subst this
  have h1:=QJ (l.map IA) fun x hx=>by
   obtain ⟨c,hc,rfl⟩:=List.mem_map.1 hx
   exact h64 c hc
  have h2:=QK (l.map IA)
  rw [List.length_map] at h1 h2
  show BP.S0 BP.S1 _ _ _ _ _ _=_
  unfold BP.S0
  rw [AJ (by omega),cond_false,List.take_length]
  unfold BP.S1
  rw [cz,cy,AE (by omega)]
 | succ d ih=>
  intro i n hd hi hn
  obtain ⟨n,rfl⟩:∃ m,n=m+1:=⟨n-1,by omega⟩
  have hlt:i<l.length:=by omega
  have h3:=h64 _ (List.getElem_mem hlt)
  unfold BZ at h3
  have h1:=QJ ((l.take i).map IA) fun x hx=>by
   obtain ⟨c,hc,rfl⟩:=List.mem_map.1 hx
   exact h64 c (List.mem_of_mem_take hc)
  have h2:=QK ((l.take i).map IA)
  rw [List.length_map,List.length_take] at h1 h2
  have e1:Hf ((l.take (i+1)).map IA)=Hf ((l.take i).map IA)+l[i].2.1 / 4294967296:=by rw [take_one hlt,List.map_append,Vi];simp [Hf,IA]
  have e2:Gd ((l.take (i+1)).map IA)=Gd ((l.take i).map IA)+l[i].2.1 % 4294967296:=by rw [take_one hlt,List.map_append,Vj];simp [Gd,IA]
  show BP.S0 BP.S1 _ _ _ _ _ _=_
  unfold BP.S0
  rw [Bj (by omega),cond_true,AA (by rw [Aq];omega),cond_true,AQ hlt,cz,cy,AE (by omega),AE (by omega),AE (by omega),← e1,← e2,show ((i:Int)+1)=((i+1:Nat):Int) by omega]
  exact ih (i+1) n (by omega) (by omega) (by omega)
theorem sV (l:List Cell) (h64:∀ c∈l,BZ c.2.1) (hl:l.length≤65536):∀ (d i n:Nat),d=l.length-i→i≤l.length→d<n→
  DH.l0 n l (Hf ((l.take i).map Gs)+Gd ((l.take i).map Gs) / 4294967296) (Gd ((l.take i).map Gs) % 4294967296) (i:Int)=some (Hf (l.map Gs)+Gd (l.map Gs) / 4294967296,Gd (l.map Gs) % 4294967296):=by
 intro d
 induction d with
 | zero=>
  intro i n hd hi hn
  obtain ⟨n,rfl⟩:∃ m,n=m+1:=⟨n-1,by omega⟩
  have:i=l.length:=by omega
  subst this
  show DH.S0 _ _ _ _ _=_
  unfold DH.S0
  rw [Aq,AJ (by omega),cond_false,List.take_length]
 | succ d ih=>
  intro i n hd hi hn
  obtain ⟨n,rfl⟩:∃ m,n=m+1:=⟨n-1,by omega⟩
  have hlt:i<l.length:=by omega
  have h3:=h64 _ (List.getElem_mem hlt)
  unfold BZ at h3
  have h1:=QJ ((l.take i).map Gs) fun x hx=>by
   obtain ⟨c,hc,rfl⟩:=List.mem_map.1 hx
   unfold Gs
   split
   ·exact h64 c (List.mem_of_mem_take hc)
   ·unfold BZ;omega
  have h2:=QK ((l.take i).map Gs)
  rw [List.length_map,List.length_take] at h1 h2
  have e1:Hf ((l.take (i+1)).map Gs)=Hf ((l.take i).map Gs)+Gs l[i] / 4294967296:=by rw [take_one hlt,List.map_append,Vi];simp [Hf]
  have e2:Gd ((l.take (i+1)).map Gs)=Gd ((l.take i).map Gs)+Gs l[i] % 4294967296:=by rw [take_one hlt,List.map_append,Vj];simp [Gd]
  have:=ih (i+1) n (by omega) (by omega) (by omega)
  rw [e1,e2] at this
  have hb:inB (i:Int) (l.length:Int)=true:=AA (by omega)
  show DH.S0 _ _ _ _ _=_
  unfold DH.S0
  rw [Aq,Bj (by omega),cond_true,hb,cond_true,cond_true,cond_true,AQ hlt]
  by_cases hk:l[i].1=1
  ·have hn:Gs l[i]=l[i].2.1:=by unfold Gs;rw [if_pos hk]
   rw [hn] at this
   rw [CT hk,cond_true,cz,cy,AE (a:=Gd ((l.take i).map Gs) % 4294967296) (by omega),cz,cy,AE (a:=Hf ((l.take i).map Gs)+_) (by omega),AE (by omega),AE (a:=(i:Int)) (by omega),show ((i:Int)+1)=((i+1:Nat):Int) by omega]
   rw [← this]
   congr 1 <;> omega
  ·have hn:Gs l[i]=0:=by unfold Gs;rw [if_neg hk]
   rw [hn] at this
   rw [CE hk,cond_false,AE (a:=(i:Int)) (by omega),show ((i:Int)+1)=((i+1:Nat):Int) by omega]
   rw [← this]
   congr 1 <;> omega
theorem RW (l:List Cell) (h64:∀ c∈l,BZ c.2.1) (hl:l.length≤65536):DH l=some (Hf (l.map Gs)+Gd (l.map Gs) / 4294967296,Gd (l.map Gs) % 4294967296):=
 sV l h64 hl l.length 0 fu rfl (by omega) (by unfold fu;omega)
theorem jJ {s:ByteArray} {x:Kg} {l:List Cell} {h:Int×Int×Int×Int} (hg:Hd s x=some (l,0)) (hk:GK s=some (h,0)) (h64:∀ c∈l,BZ c.2.1) (hl:l.length≤65536):
  BP s x=some (if h.1=1 then (Hf (l.map IA)+Gd (l.map IA) / 4294967296,Gd (l.map IA) % 4294967296,0) else (0,0,1)):=by
 unfold BP BP.S
 rw [hg,Option.bind_some]
 dsimp only
 rw [Db rfl,cond_false,hk,Option.bind_some]
 dsimp only
 by_cases h1:h.1=1
 ·rw [Db h1,cond_false,if_pos h1]
  exact Zpd l h64 hl l.length 0 fu rfl (by omega) (by unfold fu;omega)
 ·rw [Jp h1,cond_true,if_neg h1]
theorem jK {s:ByteArray} {x:Kg} {l:List Cell} {e:Int} (hg:Hd s x=some (l,e)) (he:e≠0):BP s x=some (0,0,e):=by
 unfold BP BP.S
 rw [hg,Option.bind_some]
 dsimp only
 rw [Jp he,cond_true]
theorem Zv3 (l:List (Int×Int)):∃ b,Pe l=some b∧(b=true→l.length≤60∧(EH (-1) l→Jy l≤2048)):=by
 unfold Pe
 rw [Aq]
 by_cases h:l.length≤60
 ·have hl:l.length≤4294967296:=by omega
  rw [DL (by omega),cond_true,Ox l hl,Option.bind_some]
  by_cases hM:EH (-1) l
  ·rw [decide_eq_true hM,Bool.not_true,cond_false,RX l hl,Option.bind_some]
   exact ⟨_,rfl,fun hb=>⟨h,fun _=>of_decide_eq_true hb⟩⟩
  ·rw [decide_eq_false hM,Bool.not_false,cond_true]
   exact ⟨_,rfl,fun _=>⟨h,fun hm=>absurd hm hM⟩⟩
 ·rw [ID (by omega),cond_false]
  exact ⟨false,rfl,fun hb=>by cases hb⟩
theorem Zpw (code:Int):∃ f,An .i64 1 (NC (BF .i64 code 255) 3)=f∧(f=1∨f=2∨f=3):=by
 rw [ew]
 unfold NC
 have h0:0≤code % 256:=Int.emod_nonneg _ (by decide)
 have h1:(code % 256).tmod 3=code % 256 % 3:=Int.tmod_eq_emod_of_nonneg h0
 rw [h1,AE (by omega)]
 exact ⟨_,rfl,by omega⟩
theorem Zqd {c:Cell} (h:DZ c=true) (h0:c.1=0):c=(0,0,eB):=by
 rcases Vr h with rfl | ⟨n,rfl⟩ | ⟨t,rfl,_⟩
 ·rfl
 ·exact absurd h0 (by show ¬ (1:Int)=0;decide)
 ·exact absurd h0 (by show ¬ (2:Int)=0;decide)
abbrev awL:List Cell:=[(ER 7),(0,0,eB),(ER 9)]
def Yy:List Int:=vB (([7,9]:List Int).length:Int)++(Dy [7,9]++CQ [0,1] (Ee [0,1]))
theorem PZ:BB [7,9]=[7,9]∧BQ [7,9]=[0,1]:=by
 have h:([7,9]:List Int).mergeSort (fun x y=>decide (x≤y))=[7,9]:=List.mergeSort_of_pairwise (by decide)
 unfold BQ BB
 rw [h]
 exact ⟨by kernel_rfl,by kernel_rfl⟩
theorem Zsb1:Ce [7,9]=some ([7,9],[0,1]):=by rw [Qh [7,9] (by decide) (by decide),PZ.1,PZ.2]
theorem sW:Jq (BD awL) 1 4=some Yy:=by
 unfold Jq
 rw [if_pos rfl,show LX (BD awL)=[7,9] from by kernel_rfl]
 unfold OH Yy
 rw [if_neg (by decide),if_neg (by decide),if_neg (by decide),if_pos rfl,PZ.2]
 unfold LU
 rw [if_neg (by decide),PZ.1,PZ.2]
theorem sX:Iq awL 1:=⟨by decide,by decide, .inl rfl,fun c hc=>by
 rcases List.mem_cons.1 hc with rfl | hc
 ·exact ⟨by kernel_rfl, .inr rfl⟩
 rcases List.mem_cons.1 hc with rfl | hc
 ·exact ⟨by kernel_rfl, .inl rfl⟩
 rw [List.mem_singleton.1 hc]
 exact ⟨by kernel_rfl, .inr rfl⟩⟩
theorem Zgu:∀ c∈awL,BZ c.2.1:=fun c hc=>by
 unfold BZ
 rcases List.mem_cons.1 hc with rfl | hc
 ·decide
 rcases List.mem_cons.1 hc with rfl | hc
 ·decide
 rw [List.mem_singleton.1 hc]
 decide
theorem Zqw:Br ((6,ER 8),ofBytes Yy,[]) 2=some ((6,ER 8),ofBytes Yy,[1]):=by
 unfold Br Br.S
 dsimp only
 rw [show Hu (ofBytes Yy) 2=some ([7,9],0) from by kernel_rfl,Option.bind_some]
 dsimp only
 rw [Zsb1,Option.bind_some]
 kernel_rfl
theorem Zrw {s b m:ByteArray} (h1:EI s=some (awL,0)) (h2:GK s=some ((1,4,3,1),0)) (h3:LB s=some (b,m,0)) (h4:Br ((6,ER 8),b,[]) 2=some ((6,ER 8),b,[1])):
  Bm s (6,ER 8)=some ((3,[],[],[2]),0):=by
 unfold Bm Bm.S
 rw [show neI (GM (6,ER 8)) 0=false from by kernel_rfl,cond_false,h2,Option.bind_some]
 dsimp only
 rw [Db rfl,cond_false,h1,Option.bind_some,CE (by decide),cond_false]
 show Bm.S2 _ _ _ _ _ _=_
 unfold Bm.S2
 rw [h3,Option.bind_some]
 dsimp only
 rw [CE (by decide),cond_false,CT rfl,cond_true,CE (by decide),cond_false,cond_true,Jp (by decide),cond_true,show AT .i64 3 1=2 from by decide,h4,Option.bind_some]
 kernel_rfl
theorem ai {s:ByteArray} (h1:EI s=some (awL,0)):Hd s (3,[],[],[2])=some ([ER 9],0):=by
 unfold Hd
 rw [h1,Option.bind_some]
 kernel_rfl
theorem Zw3 {s:ByteArray} (h1:EI s=some (awL,0)) (h2:GK s=some ((1,4,3,1),0)):BP s (3,[],[],[2])=some (0,9,0):=by
 unfold BP BP.S
 rw [ai h1,Option.bind_some]
 dsimp only
 rw [Db rfl,cond_false,h2,Option.bind_some]
 kernel_rfl
theorem Zx3 {s:ByteArray} (h1:Ga awL 1 4=some (s,0)) (h2:Bm s (6,ER 8)=some ((3,[],[],[2]),0)) (h3:Hd s (3,[],[],[2])=some ([ER 9],0)) (h4:BP s (3,[],[],[2])=some (0,9,0)):GU=some true:=by
 unfold GU
 rw [h1,Option.bind_some]
 dsimp only
 rw [h2,Option.bind_some]
 dsimp only
 rw [h3,h4,Option.bind_some,Option.bind_some]
 kernel_rfl
theorem kJ:GU=some true:=by
 obtain ⟨h1,h2,h3⟩:=Sy (eF sX Zgu sW)
 have h2':GK (ofBytes (GP (Ir awL 1 4 Yy)))=some ((1,4,3,1),0):=h2
 exact Zx3 (ep sX Zgu sW) (Zrw h1 h2' h3 Zqw) (ai h1) (Zw3 h1 h2')
theorem RJ {l:List Cell} (hl:l.length≤64) (h64:∀ c∈l,BZ c.2.1) {at_:List (Int×Int)} (hM:EH (-1) at_) (hal:at_.length≤60) (code:Int) (self:Bf.A0) (kind:Int) (hk:kind=1∨kind=2):
  Bf.S0 self l at_ code kind=self l at_ code (kind+1):=by
 unfold Bf.S0
 have hadd:An .i64 kind 1=kind+1:=AE (by omega)
 rw [DL (by omega),cond_true,hadd]
 rcases Zoe (show l.length≤70 by omega) h64 kind code with ⟨_,h2⟩ | ⟨b,hm,hv,_,h2⟩
 ·rw [h2,Option.bind_some]
  dsimp only
  rw [Jp (by omega),cond_true]
 ·obtain ⟨k1,k2,_⟩:=Sy (eF hm h64 hv)
  obtain ⟨f,hf,hf2⟩:=Zpw code
  obtain ⟨x,o1,o2,o3⟩:=Zsw hM (by omega) hf2
  have hpl:=GS hM
  have hg:=sZ k1 (by omega) o3 hpl (fun p hp=>(MG hM hp).1)
  rw [h2,Option.bind_some]
  dsimp only
  rw [Db rfl,cond_false,hf,o1,Option.bind_some]
  dsimp only
  rw [hg,Option.bind_some,Wb hM (by omega)]
  by_cases ha:(Bi at_).all (fun p=>decide (p<(l.length:Int)))=true
  ·rw [if_pos ha] at hg
   have hin:∀ p∈Bi at_,0≤p∧p<(l.length:Int):=fun p hp=>⟨(MG hM hp).1,of_decide_eq_true (List.all_eq_true.1 ha p hp)⟩
   have hcm:∀ c∈(Bi at_).map (fun p=>nth l p (0,0,eB)),c∈l:=fun c hc=>by
    obtain ⟨p,hp,rfl⟩:=List.mem_map.1 hc
    have:=hin p hp
    obtain ⟨k,rfl⟩:=Int.eq_ofNat_of_zero_le this.1
    rw [AQ (show k<l.length by omega)]
    exact List.getElem_mem _
   have hlen:((Bi at_).map (fun p=>nth l p ((0,0,eB):Cell))).length≤65536:=by rw [List.length_map];exact hpl
   have hs:=jJ hg k2 (fun c hc=>h64 c (hcm c hc)) hlen
   dsimp only at hs
   rw [if_pos ha,if_pos ha,hs,Option.bind_some,Option.bind_some]
   dsimp only
   rw [RW _ (fun c hc=>h64 c (hcm c hc)) hlen,Option.bind_some,Db rfl,cond_false,Bool.not_true,cond_false,cond_false,WE _ (by omega),Option.bind_some,Bool.not_true,cond_false]
   rcases hk with rfl | rfl
   ·have hnum:((Bi at_).map (fun p=>nth l p ((0,0,eB):Cell))).map Gs=((Bi at_).map (fun p=>nth l p ((0,0,eB):Cell))).map IA:=by
     apply List.map_congr_left
     intro c hc
     unfold Gs IA
     split
     ·rfl
     ·rename_i h1
      have h3:=(hm.2.2.2 c (hcm c hc))
      rcases h3.2 with h4 | h4
      ·have:=Zqd h3.1 h4
       rw [this]
      ·exact absurd h4 h1
    rw [CT rfl,cond_true,if_pos rfl,hnum]
    dsimp only
    rw [Db rfl,cond_false,Db rfl,cond_false,Db rfl,cond_false,CE (by omega),cond_false]
   ·rw [CE (by omega),cond_false,CT rfl,cond_true,if_neg (by omega)]
    dsimp only
    rw [Db rfl,cond_false]
  ·rw [if_neg ha] at hg
   rw [if_neg ha,if_neg ha,jK hg (by omega),Option.bind_some,Option.bind_some]
   dsimp only
   rw [RW [] (fun c hc=>by cases hc) (by simp),Option.bind_some,Db rfl,cond_false,Bool.not_false,cond_true,Db rfl,cond_false,cond_false,AJ (by rw [Aq];simp),cond_false]
theorem jL (l:List Cell) (at_:List (Int×Int)) (code:Int) (h64:∀ c∈l,BZ c.2.1):Bf l at_ code=some true:=by
 show Bf.S (Bf.l0 (18446744073709551613+1+1+1)) l at_ code=_
 unfold Bf.S
 rw [Aq,kJ]
 by_cases hl:l.length≤64
 ·rw [AJ (by omega),cond_false]
  obtain ⟨b,hb,hb2⟩:=Zv3 at_
  rw [hb,Option.bind_some]
  cases b with
  | false=>rfl
  | true=>
   have hc:=(hb2 rfl).1
   rw [Bool.not_true,cond_false,Ox at_ (by omega),Option.bind_some]
   by_cases hM:EH (-1) at_
   ·rw [decide_eq_true hM,Bool.not_true,cond_false]
    show Bf.S0 (Bf.l0 (18446744073709551613+1+1)) l at_ code 1=_
    rw [RJ hl h64 hM hc code _ 1 (.inl rfl)]
    show Bf.S0 (Bf.l0 (18446744073709551613+1)) l at_ code (1+1)=_
    rw [RJ hl h64 hM hc code _ (1+1) (.inr rfl)]
    show Bf.S0 (Bf.l0 18446744073709551613) l at_ code (1+1+1)=_
    unfold Bf.S0
    rw [ID (by omega),cond_false,kJ]
    rfl
   ·rw [decide_eq_false hM]
    rfl
 ·rw [Bj (by omega),cond_true]
  rfl
end Go.AM.Pure
end
