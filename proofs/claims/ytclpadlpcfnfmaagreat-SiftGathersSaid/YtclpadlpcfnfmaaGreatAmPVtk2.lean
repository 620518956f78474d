import Derived.Test.YtclpadlpcfnfmaaGreatAmPVtake
/- Numbers read out of bytes: the reference's way and the program's are one. -/
namespace Go.AM.Pure
open Go.AM
theorem TO {V c:Int} {a:Nat} (h0:0≤V) (h1:V<2 ^ a) (j:Nat):bit (V+c*2 ^ a) j=if j<a then bit V j else bit c (j-a):=by
 have hp:=Da a
 by_cases hj:j<a
 ·rw [if_pos hj]
  have e1:=mod_pow_succ V j
  have e2:=mod_pow_succ (V+c*2 ^ a) j
  have hpj:=Da j
  have d1:∀ t,t≤a→(V+c*2 ^ a) % 2 ^ t=V % 2 ^ t:=fun t ht=>by
   have:(2:Int) ^ a=2 ^ t*2 ^ (a-t):=by rw [← Int.pow_add];congr 1;omega
   rw [this,Int.mul_left_comm,Int.add_mul_emod_self_left]
  rw [d1 (j+1) (by omega),d1 j (by omega),e1] at e2
  revert e2
  cases bit (V+c*2 ^ a) j <;> cases bit V j <;> intro e2
  ·rfl
  ·simp only [if_true,Bool.false_eq_true,if_false] at e2;omega
  ·simp only [if_true,Bool.false_eq_true,if_false] at e2;omega
  ·rfl
 ·rw [if_neg hj]
  unfold bit
  have e:(2:Int) ^ j=2 ^ a*2 ^ (j-a):=by rw [← Int.pow_add];congr 1;omega
  rw [e,← Int.ediv_ediv_of_nonneg (Int.le_of_lt hp),Int.add_mul_ediv_right _ _ (Int.ne_of_gt hp),Int.ediv_eq_zero_of_lt h0 h1,Int.zero_add]
theorem Zg4 {V c:Int} {a:Nat} (h0:0≤V) (h1:V<2 ^ a) (ha:a≤63) (_:0≤c) (_:c<128):orI .u64 V (Fc .u64 c (a:Int))=(V+c*2 ^ a) % 18446744073709551616:=by
 have hr:∀ x:Int,orI .u64 V x=orI .u64 V x % 18446744073709551616:=fun x=>by
  unfold orI
  rw [Dj]
  omega
 rw [hr]
 apply Jk
 intro k hk
 rw [YE _ _ hk,TO h0 h1]
 have hs:Fc .u64 c (a:Int)=IntKind.wrap .u64 (c*2 ^ a):=by
  unfold Fc
  have:min (a:Int).toNat (IntKind.bits .u64)=a:=by show min a 64=a;omega
  rw [this]
 rw [hs,Ev _ hk,TN]
 by_cases h:k<a
 ·rw [if_pos h,decide_eq_false (by omega)];simp
 ·rw [if_neg h,decide_eq_true (by omega),Bool.true_and]
  have:bit V k=false:=Jl h0 (by
   have:(2:Int) ^ a≤2 ^ k:=by exact_mod_cast Nat.pow_le_pow_right (n:=2) (by omega) (show a≤k by omega)
   omega)
  rw [this,Bool.false_or]
theorem Vs {V c:Int} {a:Nat} (h0:0≤V) (h1:V<2 ^ a) (ha:a<64) (hc:0≤c) (hc1:c<128):DR V (a:Int) 7 c=some (IntKind.wrap .i64 (V+c*2 ^ a)):=by
 refine bS (a:=a) (w:=7) ha (by omega) fun j hj=>?_
 unfold Iv
 rw [TO h0 h1]
 by_cases h:a≤j∧j<a+7
 ·rw [if_pos h,if_neg (by omega)]
 ·rw [if_neg h]
  by_cases h2:j<a
  ·rw [if_pos h2]
  ·rw [if_neg h2]
   have e1:bit V j=false:=Jl h0 (by
    have:(2:Int) ^ a≤2 ^ j:=by exact_mod_cast Nat.pow_le_pow_right (n:=2) (by omega) (show a≤j by omega)
    omega)
   have e2:bit c (j-a)=false:=Jl hc (by
    have:(2:Int) ^ 7≤2 ^ (j-a):=by exact_mod_cast Nat.pow_le_pow_right (n:=2) (by omega) (show 7≤j-a by omega)
    rw [show (2:Int) ^ 7=128 from rfl] at this
    omega)
   rw [e1,e2]
theorem Fq (s:ByteArray) (i:Nat) (hi:i<s.size):(Ax s)[i]? = some (byteAt s (i:Int)):=by
 unfold Ax byteAt
 have hl:i<s.data.toList.length:=by rw [Array.length_toList];exact hi
 rw [List.getElem?_map,List.getElem?_eq_getElem hl,Option.map_some,show ((i:Int)).toNat=i from rfl,List.getD_eq_getElem?_getD,List.getElem?_eq_getElem hl]
 rfl
theorem LS (s:ByteArray) (i:Int):0≤byteAt s i∧byteAt s i<256:=by
 unfold byteAt
 have:=UInt8.toNat_lt (s.data.toList.getD i.toNat 0)
 omega
theorem Vt (b:Int) (h0:0≤b) (h1:b<256):MK .u8 b 128=b % 128∧BF .u8 b 127=b % 128:=by
 have key:∀ v:Fin 256,MK .u8 ((v.val:Nat):Int) 128=((v.val:Nat):Int) % 128∧BF .u8 ((v.val:Nat):Int) 127=((v.val:Nat):Int) % 128:=by decide +kernel
 have:=key ⟨b.toNat,by omega⟩
 have e:((b.toNat:Nat):Int)=b:=by omega
 simp only at this
 rw [e] at this
 exact this
theorem Bz (s:ByteArray):(Ax s).length=s.size:=by unfold Ax;rw [List.length_map,Array.length_toList];rfl
theorem AD (l:List Int):(ofBytes l).size=l.length:=by
 unfold ofBytes
 show (l.map _).toArray.size=_
 simp
theorem FT (s:ByteArray):ofBytes (Ax s)=s:=by
 apply Li.1
 unfold ofBytes Ax
 simp only [List.map_map]
 show List.map _ s.data.toList=_
 conv=>rhs;rw [← List.map_id s.data.toList]
 apply List.map_congr_left
 intro b _
 simp [Function.comp]
theorem EC {l:List Int} (h:∀ b∈l,0≤b∧b<256):Ax (ofBytes l)=l:=by
 unfold ofBytes Ax
 simp only [List.map_map]
 conv=>rhs;rw [← List.map_id l]
 apply List.map_congr_left
 intro b hb
 have:=h b hb
 simp only [Function.comp,UInt8.toNat_ofNat']
 show ((b.toNat % 256:Nat):Int)=b
 omega
theorem Si (s:ByteArray) (k:Nat):cutS s 0 (k:Int)=ofBytes ((Ax s).take k):=by
 apply Li.1
 unfold cutS ofBytes Ax
 rw [← List.map_take,List.map_map]
 show (s.extract 0 k).data.toList=_
 rw [ByteArray.data_extract]
 simp only [Array.toList_extract]
 have:(fun n:Int=>UInt8.ofNat n.toNat) ∘ (fun b:UInt8=>(b.toNat:Int))=id:=funext fun b=>by simp [Function.comp]
 rw [this,List.map_id]
 simp
theorem jW {a b:List Int} (ha:∀ x∈a,0≤x∧x<256) (hb:∀ x∈b,0≤x∧x<256) (h:ofBytes a=ofBytes b):a=b:=by
 rw [← EC ha,h,EC hb]
theorem Sj:∀ (l:List Int) (b:Int),(∀ x∈l,128≤x∧x<256)→0≤b→b<128→Form (l++[b])
 | [],b,_,h0,h1=>⟨h0,h1⟩
 | [a],b,h,h0,h1=>⟨h a (by simp),h0,h1⟩
 | a :: c :: l,b,h,h0,h1=>⟨h a (by simp),Sj (c :: l) b (fun x hx=>h x (List.mem_cons_of_mem _ hx)) h0 h1⟩
theorem JH:∀ (l:List Int) (b:Int),Er (l++[b])=Er l+b % 128*128 ^ l.length
 | [],b=>by simp [Er]
 | a :: l,b=>by
  rw [List.cons_append]
  unfold Er
  rw [JH l b,List.length_cons,Int.pow_succ,Int.mul_add,Int.mul_left_comm 128 (b % 128),Int.mul_comm 128 (128 ^ l.length)]
  omega
theorem On:∀ l:List Int,Er l<128 ^ l.length
 | []=>by simp [Er]
 | b :: l=>by
  have:=On l
  unfold Er
  rw [List.length_cons,Int.pow_succ]
  omega
theorem tD {s:ByteArray} {i:Nat} (hi:i<s.size) (h10:i<10) (hb:byteAt s (i:Int)<128) (hpre:∀ x∈(Ax s).take i,128≤x∧x<256) {wp wr:Int}
  (hp:wp % 18446744073709551616=(Er ((Ax s).take i)+byteAt s (i:Int)*128 ^ i) % 18446744073709551616) (hr:wr % 18446744073709551616=(Er ((Ax s).take i)+byteAt s (i:Int)*128 ^ i) % 18446744073709551616):
  ((OD (CP wp)).bind fun r_6=>bif (eqI r_6 (An .i64 (i:Int) 1)) then
    bif (ltI (i:Int) 9) then some (CP wp,(An .i64 (i:Int) 1),(0:Int)) else
     bif (eqI (byteAt s (i:Int)) 1) then some (CP wp,(An .i64 (i:Int) 1),0) else some (0,0,20)
   else some (0,0,20)) =
  ((Cu wr).bind fun r_5=>(CG r_5).bind fun r_6=>bif (inC 0 (An .i64 (i:Int) 1) (AX s)) then
    bif (!(eqS r_6 (cutS s 0 (An .i64 (i:Int) 1)))) then some (0,0,20) else some (r_5,(An .i64 (i:Int) 1),0) else none):=by
 have hx:CP wp=CP wr:=kM (hp.trans hr.symm)
 have hadd:An .i64 (i:Int) 1=((i+1:Nat):Int):=by rw [Fp (by omega) (by omega)];rfl
 have hz:Cv (CP wr) % 18446744073709551616=(Er ((Ax s).take i)+byteAt s (i:Int)*128 ^ i) % 18446744073709551616:=(Zww wr).trans hr
 have hxin:BZ (CP wr):=HU _
 have hin:inC 0 ((i+1:Nat):Int) (AX s)=true:=by rw [cD,CB];exact decide_eq_true (by omega)
 rw [hx,Se,Option.bind_some,FA hxin,Option.bind_some,jU,Option.bind_some,hadd,hin,Si s (i+1)]
 unfold HQ
 rw [hz]
 generalize CP wr=x
 have hlen:(Ax s).length=s.size:=Bz s
 have hti:((Ax s).take i).length=i:=by rw [List.length_take];omega
 have htk:(Ax s).take (i+1)=(Ax s).take i++[byteAt s (i:Int)]:=by
  rw [List.take_add_one,Fq s i hi];rfl
 have hb0:=(LS s (i:Int)).1
 rw [htk]
 revert hti hpre
 generalize (Ax s).take i=M
 revert hb hb0
 generalize byteAt s (i:Int)=b
 intro hb hb0 hpre hti
 have hV:=On M
 have hV0:=Il M
 rw [hti] at hV
 have hrngM:∀ z∈M++[b],0≤z∧z<256:=fun z hz=>by
  rcases List.mem_append.1 hz with h | h
  ·have:=hpre z h;omega
  ·have:=List.mem_singleton.1 h;omega
 by_cases h9:i<9
 ·-- no bit is lost
  have hp9:(128:Int) ^ i*128≤128 ^ 9:=by
   rw [← Int.pow_succ]
   exact_mod_cast Nat.pow_le_pow_right (n:=128) (by omega) (show i+1≤9 by omega)
  rw [show (128:Int) ^ 9=9223372036854775808 from rfl] at hp9
  have hpos:(0:Int)<128 ^ i:=Int.pow_pos (by omega)
  have hbb:b*128 ^ i≤127*128 ^ i:=Int.mul_le_mul_of_nonneg_right (by omega) (by omega)
  have hbn:0≤b*128 ^ i:=Int.mul_nonneg hb0 (by omega)
  have hv:(Er M+b*128 ^ i) % 18446744073709551616=Er (M++[b]):=by
   rw [JH,hti,show b % 128=b by omega]
   omega
  have hlt9:ltI (i:Int) 9=true:=decide_eq_true (by omega)
  rw [hv,hlt9]
  rcases Vn (M++[b]) 10 (Sj M b hpre hb0 hb) (by simp;omega) with h | h
  ·rw [h]
   have e1:eqI (((M++[b]).length:Nat):Int) ((i+1:Nat):Int)=true:=decide_eq_true (by simp;omega)
   have e2:eqS (ofBytes (M++[b])) (ofBytes (M++[b]))=true:=by rw [LQ];exact decide_eq_true rfl
   rw [e1,e2];rfl
  ·have e1:eqI (((dig 10 (Er (M++[b]))).length:Nat):Int) ((i+1:Nat):Int)=false:=decide_eq_false (by simp at h ⊢;omega)
   have e2:eqS (ofBytes (dig 10 (Er (M++[b])))) (ofBytes (M++[b]))=false:=by
    rw [LQ]
    refine decide_eq_false fun e=>?_
    have:=congrArg ByteArray.size e
    rw [AD,AD] at this
    omega
   rw [e1,e2];rfl
 ·have hi9:i=9:=by omega
  subst hi9
  rw [show (128:Int) ^ 9=9223372036854775808 from rfl] at hV ⊢
  have hv:(Er M+b*9223372036854775808) % 18446744073709551616=Er (M++[b % 2]):=by
   rw [JH,hti,show (128:Int) ^ 9=9223372036854775808 from rfl]
   omega
  have hlt9:ltI ((9:Nat):Int) 9=false:=rfl
  have hrng2:∀ z∈M++[b % 2],0≤z∧z<256:=fun z hz=>by
   rcases List.mem_append.1 hz with h | h
   ·have:=hpre z h;omega
   ·have:=List.mem_singleton.1 h;omega
  rw [hv,hlt9]
  rcases Vn (M++[b % 2]) 10 (Sj M (b % 2) hpre (by omega) (by omega)) (by simp;omega) with h | h
  ·have hlen10:(M++[b % 2]).length=10:=by simp;omega
   have hu:Er (M++[b % 2])<128 ^ 10:=by have:=On (M++[b % 2]);rwa [hlen10] at this
   obtain ⟨_,_,_,a4⟩:=Qc 10 (Er (M++[b % 2])) (by omega) (Il _) hu
   rw [h,hlen10] at a4
   have hodd:b % 2=1:=by
    rcases a4 with a4 | a4
    ·omega
    ·rw [JH,hti,show (128:Int) ^ (10-1)=9223372036854775808 from rfl] at a4
     omega
   rw [h,hlen10]
   have e1:eqI ((10:Nat):Int) ((9+1:Nat):Int)=true:=rfl
   rw [e1,hodd]
   by_cases hb1:b=1
   ·subst hb1
    have e2:eqS (ofBytes (M++[1])) (ofBytes (M++[1]))=true:=by rw [LQ];exact decide_eq_true rfl
    rw [e2];rfl
   ·have e3:eqI b 1=false:=decide_eq_false hb1
    have e2:eqS (ofBytes (M++[1])) (ofBytes (M++[b]))=false:=by
     rw [LQ]
     refine decide_eq_false fun e=>?_
     rw [hodd] at hrng2
     have:=jW hrng2 hrngM e
     have:=List.append_cancel_left this
     simp at this
     omega
    rw [e2,e3];rfl
  ·have e1:eqI (((dig 10 (Er (M++[b % 2]))).length:Nat):Int) ((9+1:Nat):Int)=false:=decide_eq_false (by simp at h ⊢;omega)
   have e2:eqS (ofBytes (dig 10 (Er (M++[b % 2])))) (ofBytes (M++[b]))=false:=by
    rw [LQ]
    refine decide_eq_false fun e=>?_
    have:=congrArg ByteArray.size e
    rw [AD,AD] at this
    simp at h this
    omega
   rw [e1,e2];rfl
theorem tE (s:ByteArray):∀ (d i n m:Nat) (wp wr:Int),d=10-i→i≤10→i≤s.size→d<n→d<m→(∀ x∈(Ax s).take i,128≤x∧x<256)→
  (i≤9→wp=Er ((Ax s).take i)∧wr=Er ((Ax s).take i))→
  CX.l0 n s wp (Et (AX s) 10) (i:Int)=Dx.l0 m s wr (i:Int):=by
 intro d
 induction d with
 | zero=>
  intro i n m wp wr hd hi his hn hm hpre hw
  obtain ⟨n,rfl⟩:∃ k,n=k+1:=⟨n-1,by omega⟩
  obtain ⟨m,rfl⟩:∃ k,m=k+1:=⟨m-1,by omega⟩
  show CX.S0 (CX.l0 n) s wp (Et (AX s) 10) (i:Int)=Dx.S0 (Dx.l0 m) s wr (i:Int)
  unfold CX.S0 Dx.S0
  have hi':i=10:=by omega
  subst hi'
  have a1:ltI ((10:Nat):Int) (Et (AX s) 10)=false:=by unfold Et;rw [CB];split <;> exact decide_eq_false (by omega)
  have a2:ltI ((10:Nat):Int) 10=false:=rfl
  rw [a1,a2]
  cases ltI ((10:Nat):Int) (AX s) <;> rfl
 | succ d ih=>
  intro i n m wp wr hd hi his hn hm hpre hw
  obtain ⟨n,rfl⟩:∃ k,n=k+1:=⟨n-1,by omega⟩
  obtain ⟨m,rfl⟩:∃ k,m=k+1:=⟨m-1,by omega⟩
  show CX.S0 (CX.l0 n) s wp (Et (AX s) 10) (i:Int)=Dx.S0 (Dx.l0 m) s wr (i:Int)
  unfold CX.S0 Dx.S0
  by_cases hlt:i<s.size
  ·obtain ⟨hwp,hwr⟩:=hw (by omega)
   have a1:ltI (i:Int) (Et (AX s) 10)=true:=by unfold Et;rw [CB];split <;> exact decide_eq_true (by omega)
   have a2:ltI (i:Int) 10=true:=decide_eq_true (by omega)
   have a3:inB (i:Int) (AX s)=true:=by rw [Iw,CB];exact decide_eq_true (by omega)
   have a4:ltI (i:Int) (AX s)=true:=by rw [CB];exact decide_eq_true (by omega)
   have a5:Df .i64 7 (i:Int)=((7*i:Nat):Int):=by rw [YF (by omega) (by omega)];omega
   have a6:leI 0 ((7*i:Nat):Int)=true:=decide_eq_true (by omega)
   obtain ⟨hb0,hb1⟩:=LS s (i:Int)
   obtain ⟨c1,c2⟩:=Vt (byteAt s (i:Int)) hb0 hb1
   have hti:((Ax s).take i).length=i:=by rw [List.length_take,Bz];omega
   have hV:=On ((Ax s).take i)
   rw [hti,Ks] at hV
   have hV0:=Il ((Ax s).take i)
   have hw7:IntKind.wrap .u64 (byteAt s (i:Int) % 128)=byteAt s (i:Int) % 128:=by rw [Dj];omega
   have hw8:IntKind.wrap .i64 (byteAt s (i:Int) % 128)=byteAt s (i:Int) % 128:=Ew (by omega) (by omega)
   have hor:=Zg4 (c:=byteAt s (i:Int) % 128) hV0 hV (by omega) (by omega) (by omega)
   have hwith:=Vs (c:=byteAt s (i:Int) % 128) hV0 hV (by omega) (by omega) (by omega)
   have htk:(Ax s).take (i+1)=(Ax s).take i++[byteAt s (i:Int)]:=by
    rw [List.take_add_one,Fq s i hlt];rfl
   rw [a1,a2,a3,a4,a5,a6,c1,c2,hw7,hw8,hwp,hwr,hor,hwith]
   simp only [cond_true,Option.bind_some]
   by_cases hb:byteAt s (i:Int)<128
   ·have e1:leI 128 (byteAt s (i:Int))=false:=decide_eq_false (by omega)
    have e2:ltI (byteAt s (i:Int)) 128=true:=decide_eq_true hb
    have hm:byteAt s (i:Int) % 128=byteAt s (i:Int):=by omega
    rw [e1,e2,hm]
    simp only [cond_true,cond_false]
    refine tD hlt (by omega) hb hpre ?_ ?_
    ·rw [Ks,Gi];split <;> omega
    ·rw [Ks,Gi];split <;> omega
   ·have e1:leI 128 (byteAt s (i:Int))=true:=decide_eq_true (by omega)
    have e2:ltI (byteAt s (i:Int)) 128=false:=decide_eq_false hb
    rw [e1,e2,Fp (by omega) (by omega)]
    simp only [cond_true,cond_false]
    refine ih (i+1) n m _ _ (by omega) (by omega) (by omega) (by omega) (by omega) (fun x hx=>?_) (fun h9=>?_)
    ·rw [htk] at hx
     rcases List.mem_append.1 hx with h | h
     ·exact hpre x h
     ·have:=List.mem_singleton.1 h;omega
    ·rw [htk,JH,hti,Ks]
     have hp9:(2:Int) ^ (7*i)*128≤9223372036854775808:=by
      have:(2:Int) ^ (7*i)*2 ^ 7≤2 ^ 63:=by
       rw [← Int.pow_add]
       exact_mod_cast Nat.pow_le_pow_right (n:=2) (by omega) (show 7*i+7≤63 by omega)
      exact this
     have hpos:=Da (7*i)
     have hbb:byteAt s (i:Int) % 128*2 ^ (7*i)≤127*2 ^ (7*i):=Int.mul_le_mul_of_nonneg_right (by omega) (by omega)
     have hbn:0≤byteAt s (i:Int) % 128*2 ^ (7*i):=Int.mul_nonneg (by omega) (by omega)
     exact ⟨by omega,Ew (by omega) (by omega)⟩
  ·have hi':i=s.size:=by omega
   have a1:ltI (i:Int) (Et (AX s) 10)=false:=by unfold Et;rw [CB];split <;> exact decide_eq_false (by omega)
   have a4:ltI (i:Int) (AX s)=false:=by rw [CB];exact decide_eq_false (by omega)
   rw [a1,a4]
   rfl
theorem dX (s:ByteArray):CX s=Dx s:=
 tE s (10-0) 0 fu fu 0 0 rfl (by omega) (by omega) (by unfold fu;omega) (by unfold fu;omega) (fun x hx=>by simp at hx) (fun _=>⟨rfl,rfl⟩)
end Go.AM.Pure
