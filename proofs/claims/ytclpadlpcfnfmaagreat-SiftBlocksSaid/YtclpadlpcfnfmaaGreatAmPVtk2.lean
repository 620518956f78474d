import Derived.Test.YtclpadlpcfnfmaaGreatAmPVtake
/- Numbers read out of bytes: the reference's way and the program's are one. -/
namespace Go.AM.Pure
open Go.AM
theorem Zb {V c:Int} {a:Nat} (h0:0≤V) (h1:V<2 ^ a) (j:Nat):bit (V+c*2 ^ a) j=if j<a then bit V j else bit c (j-a):=by
 have hp:=EX a
 by_cases hj:j<a
 ·rw [if_pos hj]
  have e1:=mod_pow_succ V j
  have e2:=mod_pow_succ (V+c*2 ^ a) j
  have hpj:=EX j
  have d1:∀ t,t≤a→(V+c*2 ^ a) % 2 ^ t=V % 2 ^ t:=fun t ht=>by
   have:(2:Int) ^ a=2 ^ t*2 ^ (a-t):=by rw [← Int.pow_add];congr 1;omega
   rw [this,Int.mul_left_comm,Int.add_mul_emod_self_left]
  rw [d1 (j+1) (by omega),d1 j (by omega),e1] at e2
  revert e2
  cases bit (V+c*2 ^ a) j <;> cases bit V j <;> intro e2
  ·rfl
  ·simp only [if_true,Bool.false_eq_true,if_false] at e2;omega
  ·simp only [if_true,Bool.false_eq_true,if_false] at e2;omega
  ·rfl
 ·rw [if_neg hj]
  unfold bit
  have e:(2:Int) ^ j=2 ^ a*2 ^ (j-a):=by rw [← Int.pow_add];congr 1;omega
  rw [e,← Int.ediv_ediv_of_nonneg (Int.le_of_lt hp),Int.add_mul_ediv_right _ _ (Int.ne_of_gt hp),Int.ediv_eq_zero_of_lt h0 h1,Int.zero_add]
theorem Yjq {V c:Int} {a:Nat} (h0:0≤V) (h1:V<2 ^ a) (ha:a≤63) (_:0≤c) (_:c<128):EI .u64 V (Er .u64 c (a:Int))=(V+c*2 ^ a) % 18446744073709551616:=by
 have hr:∀ x:Int,EI .u64 V x=EI .u64 V x % 18446744073709551616:=fun x=>by
  unfold EI
  rw [Ew]
  omega
 rw [hr]
 apply SQ
 intro k hk
 rw [fR _ _ hk,Zb h0 h1]
 have hs:Er .u64 c (a:Int)=IntKind.wrap .u64 (c*2 ^ a):=by
  unfold Er
  have:min (a:Int).toNat (IntKind.bits .u64)=a:=by show min a 64=a;omega
  rw [this]
 rw [hs,Jc _ hk,Y8]
 by_cases h:k<a
 ·rw [if_pos h,An (by omega)];simp
 ·rw [if_neg h,Af (by omega),AB]
  have:bit V k=false:=NH h0 (by
   have:(2:Int) ^ a≤2 ^ k:=by exact_mod_cast Nat.pow_le_pow_right (n:=2) (by omega) (show a≤k by omega)
   omega)
  rw [this,Bool.false_or]
theorem ft {V c:Int} {a:Nat} (h0:0≤V) (h1:V<2 ^ a) (ha:a<64) (hc:0≤c) (H8:c<128):Iq V (a:Int) 7 c=some (IntKind.wrap .i64 (V+c*2 ^ a)):=by
 refine Zkk (a:=a) (w:=7) ha (by omega) fun j hj=>?_
 unfold J8
 rw [Zb h0 h1]
 by_cases h:a≤j∧j<a+7
 ·rw [if_pos h,if_neg (by omega)]
 ·rw [if_neg h]
  by_cases h2:j<a
  ·rw [if_pos h2]
  ·rw [if_neg h2]
   have e1:bit V j=false:=NH h0 (by
    have:(2:Int) ^ a≤2 ^ j:=by exact_mod_cast Nat.pow_le_pow_right (n:=2) (by omega) (show a≤j by omega)
    omega)
   have e2:bit c (j-a)=false:=NH hc (by
    have:(2:Int) ^ 7≤2 ^ (j-a):=by exact_mod_cast Nat.pow_le_pow_right (n:=2) (by omega) (show 7≤j-a by omega)
    rw [show (2:Int) ^ 7=128 from rfl] at this
    omega)
   rw [e1,e2]
theorem Lw (s:ByteArray) (i:Nat) (hi:i<s.size):(Bi s)[i]? = some (byteAt s (i:Int)):=by
 unfold Bi byteAt
 have hl:i<s.data.toList.length:=by rw [Array.length_toList];exact hi
 rw [List.getElem?_map,Ap hl,Option.map_some,show ((i:Int)).toNat=i from rfl,Ax,Ap hl]
 rfl
theorem UU (s:ByteArray) (i:Int):0≤byteAt s i∧byteAt s i<256:=by
 unfold byteAt
 have:=UInt8.toNat_lt (s.data.toList.getD i.toNat 0)
 omega
theorem fq (b:Int) (h0:0≤b) (h1:b<256):NZ .u8 b 128=b % 128∧BL .u8 b 127=b % 128:=by
 have key:∀ v:Fin 256,NZ .u8 ((v.val:Nat):Int) 128=((v.val:Nat):Int) % 128∧BL .u8 ((v.val:Nat):Int) 127=((v.val:Nat):Int) % 128:=by decide +kernel
 have:=key ⟨b.toNat,by omega⟩
 have e:((b.toNat:Nat):Int)=b:=by omega
 simp only at this
 rw [e] at this
 exact this
theorem DN (s:ByteArray):(Bi s).length=s.size:=by unfold Bi;rw [Ai,Array.length_toList];rfl
theorem Cg (l:List Int):(ofBytes l).size=l.length:=by
 unfold ofBytes
 show (l.map _).toArray.size=_
 simp
theorem Q9 (s:ByteArray):ofBytes (Bi s)=s:=by
 apply SY.1
 unfold ofBytes Bi
 simp only [List.map_map]
 show List.map _ s.data.toList=_
 conv=>rhs;rw [← List.map_id s.data.toList]
 apply List.map_congr_left
 intro b _
 simp [Function.comp]
theorem MO {l:List Int} (h:∀ b∈l,0≤b∧b<256):Bi (ofBytes l)=l:=by
 unfold ofBytes Bi
 simp only [List.map_map]
 conv=>rhs;rw [← List.map_id l]
 apply List.map_congr_left
 intro b hb
 have:=h b hb
 simp only [Function.comp,UInt8.toNat_ofNat']
 show ((b.toNat % 256:Nat):Int)=b
 omega
theorem ew (s:ByteArray) (k:Nat):cutS s 0 (k:Int)=ofBytes ((Bi s).take k):=by
 apply SY.1
 unfold cutS ofBytes Bi
 rw [← List.map_take,List.map_map]
 show (s.extract 0 k).data.toList=_
 rw [ByteArray.data_extract]
 simp only [Array.toList_extract]
 have:(fun n:Int=>UInt8.ofNat n.toNat) ∘ (fun b:UInt8=>(b.toNat:Int))=id:=funext fun b=>by simp [Function.comp]
 rw [this,List.map_id]
 simp
theorem Zan {a b:List Int} (ha:∀ x∈a,0≤x∧x<256) (hb:∀ x∈b,0≤x∧x<256) (h:ofBytes a=ofBytes b):a=b:=by
 rw [← MO ha,h,MO hb]
theorem ez:∀ (l:List Int) (b:Int),(∀ x∈l,128≤x∧x<256)→0≤b→b<128→Form (l++[b])
 | [],b,_,h0,h1=>⟨h0,h1⟩
 | [a],b,h,h0,h1=>⟨h a (by simp),h0,h1⟩
 | a :: c :: l,b,h,h0,h1=>⟨h a (by simp),ez (c :: l) b (fun x hx=>h x (Az _ hx)) h0 h1⟩
theorem Rn:∀ (l:List Int) (b:Int),DI (l++[b])=DI l+b % 128*128 ^ l.length
 | [],b=>by simp [DI]
 | a :: l,b=>by
  rw [List.cons_append]
  unfold DI
  rw [Rn l b,Aj,Int.pow_succ,Int.mul_add,Int.mul_left_comm 128 (b % 128),Int.mul_comm 128 (128 ^ l.length)]
  omega
theorem Tq:∀ l:List Int,DI l<128 ^ l.length
 | []=>by simp [DI]
 | b :: l=>by
  have:=Tq l
  unfold DI
  rw [Aj,Int.pow_succ]
  omega
theorem Zhs {s:ByteArray} {i:Nat} (hi:i<s.size) (cy:i<10) (hb:byteAt s (i:Int)<128) (HM:∀ x∈(Bi s).take i,128≤x∧x<256) {wp wr:Int}
  (hp:wp % 18446744073709551616=(DI ((Bi s).take i)+byteAt s (i:Int)*128 ^ i) % 18446744073709551616) (hr:wr % 18446744073709551616=(DI ((Bi s).take i)+byteAt s (i:Int)*128 ^ i) % 18446744073709551616):
  ((Vf (EE wp)).bind fun No=>bif (AR No (AQ .i64 (i:Int) 1)) then
    bif (AS (i:Int) 9) then some (EE wp,(AQ .i64 (i:Int) 1),(0:Int)) else
     bif (AR (byteAt s (i:Int)) 1) then some (EE wp,(AQ .i64 (i:Int) 1),0) else some (0,0,20)
   else some (0,0,20)) =
  ((ED wr).bind fun Lj=>(E5 Lj).bind fun No=>bif (CU 0 (AQ .i64 (i:Int) 1) (Bh s)) then
    bif (!(Cn No (cutS s 0 (AQ .i64 (i:Int) 1)))) then some (0,0,20) else some (Lj,(AQ .i64 (i:Int) 1),0) else none):=by
 have hx:EE wp=EE wr:=tP (hp.trans hr.symm)
 have Ig:AQ .i64 (i:Int) 1=((i+1:Nat):Int):=by rw [Ie (by omega) (by omega)];rfl
 have hz:Eb (EE wr) % 18446744073709551616=(DI ((Bi s).take i)+byteAt s (i:Int)*128 ^ i) % 18446744073709551616:=(Yaj wr).trans hr
 have Yt2:BY (EE wr):=OO _
 have CB:CU 0 ((i+1:Nat):Int) (Bh s)=true:=by rw [aP,C6];exact Af (by omega)
 rw [hx,oA,Ad,Nu Yt2,Ad,Zym,Ad,Ig,CB,ew s (i+1)]
 unfold KU
 rw [hz]
 generalize EE wr=x
 have hlen:(Bi s).length=s.size:=DN s
 have Gr:((Bi s).take i).length=i:=by rw [Ag];omega
 have Fc:(Bi s).take (i+1)=(Bi s).take i++[byteAt s (i:Int)]:=by
  rw [List.take_add_one,Lw s i hi];rfl
 have KB:=(UU s (i:Int)).1
 rw [Fc]
 revert Gr HM
 generalize (Bi s).take i=M
 revert hb KB
 generalize byteAt s (i:Int)=b
 intro hb KB HM Gr
 have hV:=Tq M
 have Sl:=Rf M
 rw [Gr] at hV
 have Ynx:∀ z∈M++[b],0≤z∧z<256:=fun z hz=>by
  rcases List.mem_append.1 hz with h | h
  ·have:=HM z h;omega
  ·have:=List.mem_singleton.1 h;omega
 by_cases h9:i<9
 ·-- no bit is lost
  have mR:(128:Int) ^ i*128≤128 ^ 9:=by
   rw [← Int.pow_succ]
   exact_mod_cast Nat.pow_le_pow_right (n:=128) (by omega) (show i+1≤9 by omega)
  rw [show (128:Int) ^ 9=9223372036854775808 from rfl] at mR
  have HH:(0:Int)<128 ^ i:=Int.pow_pos (by omega)
  have E2:b*128 ^ i≤127*128 ^ i:=Int.mul_le_mul_of_nonneg_right (by omega) (by omega)
  have Sm:0≤b*128 ^ i:=Int.mul_nonneg KB (by omega)
  have hv:(DI M+b*128 ^ i) % 18446744073709551616=DI (M++[b]):=by
   rw [Rn,Gr,show b % 128=b by omega]
   omega
  have lW:AS (i:Int) 9=true:=Af (by omega)
  rw [hv,lW]
  rcases fm (M++[b]) 10 (ez M b HM KB hb) (by simp;omega) with h | h
  ·rw [h]
   have e1:AR (((M++[b]).length:Nat):Int) ((i+1:Nat):Int)=true:=Af (by simp;omega)
   have e2:Cn (ofBytes (M++[b])) (ofBytes (M++[b]))=true:=by rw [M7];exact Af rfl
   rw [e1,e2];rfl
  ·have e1:AR (((Eg 10 (DI (M++[b]))).length:Nat):Int) ((i+1:Nat):Int)=false:=An (by simp at h ⊢;omega)
   have e2:Cn (ofBytes (Eg 10 (DI (M++[b])))) (ofBytes (M++[b]))=false:=by
    rw [M7]
    refine An fun e=>?_
    have:=congrArg ByteArray.size e
    rw [Cg,Cg] at this
    omega
   rw [e1,e2];rfl
 ·have hi9:i=9:=by omega
  subst hi9
  rw [show (128:Int) ^ 9=9223372036854775808 from rfl] at hV ⊢
  have hv:(DI M+b*9223372036854775808) % 18446744073709551616=DI (M++[b % 2]):=by
   rw [Rn,Gr,show (128:Int) ^ 9=9223372036854775808 from rfl]
   omega
  have lW:AS ((9:Nat):Int) 9=false:=rfl
  have Zod:∀ z∈M++[b % 2],0≤z∧z<256:=fun z hz=>by
   rcases List.mem_append.1 hz with h | h
   ·have:=HM z h;omega
   ·have:=List.mem_singleton.1 h;omega
  rw [hv,lW]
  rcases fm (M++[b % 2]) 10 (ez M (b % 2) HM (by omega) (by omega)) (by simp;omega) with h | h
  ·have ix:(M++[b % 2]).length=10:=by simp;omega
   have hu:DI (M++[b % 2])<128 ^ 10:=by have:=Tq (M++[b % 2]);rwa [ix] at this
   obtain ⟨_,_,_,a4⟩:=Vn 10 (DI (M++[b % 2])) (by omega) (Rf _) hu
   rw [h,ix] at a4
   have Zkg:b % 2=1:=by
    rcases a4 with a4 | a4
    ·omega
    ·rw [Rn,Gr,show (128:Int) ^ (10-1)=9223372036854775808 from rfl] at a4
     omega
   rw [h,ix]
   have e1:AR ((10:Nat):Int) ((9+1:Nat):Int)=true:=rfl
   rw [e1,Zkg]
   by_cases Gd:b=1
   ·subst Gd
    have e2:Cn (ofBytes (M++[1])) (ofBytes (M++[1]))=true:=by rw [M7];exact Af rfl
    rw [e2];rfl
   ·have e3:AR b 1=false:=An Gd
    have e2:Cn (ofBytes (M++[1])) (ofBytes (M++[b]))=false:=by
     rw [M7]
     refine An fun e=>?_
     rw [Zkg] at Zod
     have:=Zan Zod Ynx e
     have:=List.append_cancel_left this
     simp at this
     omega
    rw [e2,e3];rfl
  ·have e1:AR (((Eg 10 (DI (M++[b % 2]))).length:Nat):Int) ((9+1:Nat):Int)=false:=An (by simp at h ⊢;omega)
   have e2:Cn (ofBytes (Eg 10 (DI (M++[b % 2])))) (ofBytes (M++[b]))=false:=by
    rw [M7]
    refine An fun e=>?_
    have:=congrArg ByteArray.size e
    rw [Cg,Cg] at this
    simp at h this
    omega
   rw [e1,e2];rfl
theorem Zis (s:ByteArray):∀ (d i n m:Nat) (wp wr:Int),d=10-i→i≤10→i≤s.size→d<n→d<m→(∀ x∈(Bi s).take i,128≤x∧x<256)→
  (i≤9→wp=DI ((Bi s).take i)∧wr=DI ((Bi s).take i))→
  Fz.l0 n s wp (DP (Bh s) 10) (i:Int)=Hd.l0 m s wr (i:Int):=by
 intro d
 induction d with
 | zero=>
  intro i n m wp wr hd hi his hn hm HM hw
  obtain ⟨n,rfl⟩:∃ k,n=k+1:=⟨n-1,by omega⟩
  obtain ⟨m,rfl⟩:∃ k,m=k+1:=⟨m-1,by omega⟩
  show Fz.S0 (Fz.l0 n) s wp (DP (Bh s) 10) (i:Int)=Hd.S0 (Hd.l0 m) s wr (i:Int)
  unfold Fz.S0 Hd.S0
  have hi':i=10:=by omega
  subst hi'
  have a1:AS ((10:Nat):Int) (DP (Bh s) 10)=false:=by unfold DP;rw [C6];split <;> exact An (by omega)
  have a2:AS ((10:Nat):Int) 10=false:=rfl
  rw [a1,a2]
  cases AS ((10:Nat):Int) (Bh s) <;> rfl
 | succ d ih=>
  intro i n m wp wr hd hi his hn hm HM hw
  obtain ⟨n,rfl⟩:∃ k,n=k+1:=⟨n-1,by omega⟩
  obtain ⟨m,rfl⟩:∃ k,m=k+1:=⟨m-1,by omega⟩
  show Fz.S0 (Fz.l0 n) s wp (DP (Bh s) 10) (i:Int)=Hd.S0 (Hd.l0 m) s wr (i:Int)
  unfold Fz.S0 Hd.S0
  by_cases AO:i<s.size
  ·obtain ⟨hwp,Of⟩:=hw (by omega)
   have a1:AS (i:Int) (DP (Bh s) 10)=true:=by unfold DP;rw [C6];split <;> exact Af (by omega)
   have a2:AS (i:Int) 10=true:=Af (by omega)
   have a3:AX (i:Int) (Bh s)=true:=by rw [JF,C6];exact Af (by omega)
   have a4:AS (i:Int) (Bh s)=true:=by rw [C6];exact Af (by omega)
   have a5:Cj .i64 7 (i:Int)=((7*i:Nat):Int):=by rw [fT (by omega) (by omega)];omega
   have a6:Bq 0 ((7*i:Nat):Int)=true:=Af (by omega)
   obtain ⟨KB,Gd⟩:=UU s (i:Int)
   obtain ⟨c1,c2⟩:=fq (byteAt s (i:Int)) KB Gd
   have Gr:((Bi s).take i).length=i:=by rw [Ag,DN];omega
   have hV:=Tq ((Bi s).take i)
   rw [Gr,NO] at hV
   have Sl:=Rf ((Bi s).take i)
   have Uo:IntKind.wrap .u64 (byteAt s (i:Int) % 128)=byteAt s (i:Int) % 128:=by rw [Ew];omega
   have Xr:IntKind.wrap .i64 (byteAt s (i:Int) % 128)=byteAt s (i:Int) % 128:=IB (by omega) (by omega)
   have mQ:=Yjq (c:=byteAt s (i:Int) % 128) Sl hV (by omega) (by omega) (by omega)
   have Ws:=ft (c:=byteAt s (i:Int) % 128) Sl hV (by omega) (by omega) (by omega)
   have Fc:(Bi s).take (i+1)=(Bi s).take i++[byteAt s (i:Int)]:=by
    rw [List.take_add_one,Lw s i AO];rfl
   rw [a1,a2,a3,a4,a5,a6,c1,c2,Uo,Xr,hwp,Of,mQ,Ws]
   simp only [Aa,Ad]
   by_cases hb:byteAt s (i:Int)<128
   ·have e1:Bq 128 (byteAt s (i:Int))=false:=An (by omega)
    have e2:AS (byteAt s (i:Int)) 128=true:=Af hb
    have hm:byteAt s (i:Int) % 128=byteAt s (i:Int):=by omega
    rw [e1,e2,hm]
    simp only [Aa,Ac]
    refine Zhs AO (by omega) hb HM ?_ ?_
    ·rw [NO,Km];split <;> omega
    ·rw [NO,Km];split <;> omega
   ·have e1:Bq 128 (byteAt s (i:Int))=true:=Af (by omega)
    have e2:AS (byteAt s (i:Int)) 128=false:=An hb
    rw [e1,e2,Ie (by omega) (by omega)]
    simp only [Aa,Ac]
    refine ih (i+1) n m _ _ (by omega) (by omega) (by omega) (by omega) (by omega) (fun x hx=>?_) (fun h9=>?_)
    ·rw [Fc] at hx
     rcases List.mem_append.1 hx with h | h
     ·exact HM x h
     ·have:=List.mem_singleton.1 h;omega
    ·rw [Fc,Rn,Gr,NO]
     have mR:(2:Int) ^ (7*i)*128≤9223372036854775808:=by
      have:(2:Int) ^ (7*i)*2 ^ 7≤2 ^ 63:=by
       rw [← Int.pow_add]
       exact_mod_cast Nat.pow_le_pow_right (n:=2) (by omega) (show 7*i+7≤63 by omega)
      exact this
     have HH:=EX (7*i)
     have E2:byteAt s (i:Int) % 128*2 ^ (7*i)≤127*2 ^ (7*i):=Int.mul_le_mul_of_nonneg_right (by omega) (by omega)
     have Sm:0≤byteAt s (i:Int) % 128*2 ^ (7*i):=Int.mul_nonneg (by omega) (by omega)
     exact ⟨by omega,IB (by omega) (by omega)⟩
  ·have hi':i=s.size:=by omega
   have a1:AS (i:Int) (DP (Bh s) 10)=false:=by unfold DP;rw [C6];split <;> exact An (by omega)
   have a4:AS (i:Int) (Bh s)=false:=by rw [C6];exact An (by omega)
   rw [a1,a4]
   rfl
theorem Ztl (s:ByteArray):Fz s=Hd s:=
 Zis s (10-0) 0 fu fu 0 0 rfl (by omega) (by omega) (by unfold fu;omega) (by unfold fu;omega) (fun x hx=>by simp at hx) (fun _=>⟨rfl,rfl⟩)
end Go.AM.Pure
