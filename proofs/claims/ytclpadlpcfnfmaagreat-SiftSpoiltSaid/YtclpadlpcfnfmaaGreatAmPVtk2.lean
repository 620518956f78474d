import Derived.Test.YtclpadlpcfnfmaaGreatAmPVtake
/- Numbers read out of bytes: the reference's way and the program's are one. -/
namespace Go.AM.Pure
open Go.AM
theorem aR {V c:Int} {a:Nat} (h0:0<=V) (h1:V<2 ^ a) (j:Nat):bit (V+c*2 ^ a) j=if j<a then bit V j else bit c (j-a):=by
 have hp:=Fe a;by_cases hj:j<a
 ·rw [if_pos hj];have e1:=mod_pow_succ V j;have e2:=mod_pow_succ (V+c*2 ^ a) j;have hpj:=Fe j;have d1:∀ t,t<=a->(V+c*2 ^ a) % 2 ^ t=V % 2 ^ t:=λ t ht=>by
   have:(2:Int) ^ a=2 ^ t*2 ^ (a-t):=by rw [<- Int.pow_add];congr 1;omega
   rw [this,Int.mul_left_comm,Int.add_mul_emod_self_left]
  rw [d1 (j+1) Ad,d1 j Ad,e1] at e2;revert e2;cases bit (V+c*2 ^ a) j <;> cases bit V j <;> intro e2
  ·rfl
  ·simp only [if_true,Bool.false_eq_true,if_false] at e2;omega
  ·simp only [if_true,Bool.false_eq_true,if_false] at e2;omega
  ·rfl
 ·rw [if_neg hj];unfold bit;have e:(2:Int) ^ j=2 ^ a*2 ^ (j-a):=by rw [<- Int.pow_add];congr 1;omega
  rw [e,<- Int.ediv_ediv_of_nonneg (Int.le_of_lt hp),Int.add_mul_ediv_right _ _ (Int.ne_of_gt hp),Int.ediv_eq_zero_of_lt h0 h1,Int.zero_add]
theorem Yn3 {V c:Int} {a:Nat} (h0:0<=V) (h1:V<2 ^ a) (ha:a<=63) (_:0<=c) (_:c<128):Fa .u64 V (EN .u64 c (a:Int))=(V+c*2 ^ a) % 18446744073709551616:=by
 have hr:∀ x:Int,Fa .u64 V x=Fa .u64 V x % 18446744073709551616:=λ x=>by
  unfold Fa;rw [E6];omega
 rw [hr];apply Sn;intro k hk;rw [jD _ _ hk,aR h0 h1];have hs:EN .u64 c (a:Int)=IntKind.wrap .u64 (c*2 ^ a):=by
  unfold EN;have:min (a:Int).toNat (IntKind.bits .u64)=a:=by show min a 64=a;omega
  rw [this]
 rw [hs,JW _ hk,WS];by_cases h:k<a
 ·rw [if_pos h,Ax Ad];simp
 ·rw [if_neg h,Aq Ad,AH]
  have:bit V k=false:=OT h0 (by
   have:(2:Int) ^ a<=2 ^ k:=by exact_mod_cast Nat.pow_le_pow_right (n:=2) Ad (show a<=k by omega)
   omega)
  rw [this,Bool.false_or]
theorem ay {V c:Int} {a:Nat} (h0:0<=V) (h1:V<2 ^ a) (ha:a<64) (hc:0<=c) (Ij:c<128):Hf V (a:Int) 7 c=some (IntKind.wrap .i64 (V+c*2 ^ a)):=by
 refine Zbt (a:=a) (w:=7) ha Ad λ j hj=>?_
 unfold K5;rw [aR h0 h1];by_cases h:a<=j/\j<a+7
 ·rw [if_pos h,if_neg Ad]
 ·rw [if_neg h];by_cases h2:j<a
  ·rw [if_pos h2]
  ·rw [if_neg h2]
   have e1:bit V j=false:=OT h0 (by
    have:(2:Int) ^ a<=2 ^ j:=by exact_mod_cast Nat.pow_le_pow_right (n:=2) Ad (show a<=j by omega)
    omega)
   have e2:bit c (j-a)=false:=OT hc (by
    have:(2:Int) ^ 7<=2 ^ (j-a):=by exact_mod_cast Nat.pow_le_pow_right (n:=2) Ad (show 7<=j-a by omega)
    rw [show (2:Int) ^ 7=128 from rfl] at this
    omega)
   rw [e1,e2]
theorem KS (s:ByteArray) (i:Nat) (hi:i<s.size):(Bu s)[i]? = some (byteAt s (i:Int)):=by
 unfold Bu byteAt;have hl:i<s.data.toList.length:=by rw [Array.length_toList];exact hi
 rw [List.getElem?_map,AD hl,Option.map_some,show ((i:Int)).toNat=i from rfl,AK,AD hl];rfl
theorem Jm (s:ByteArray) (i:Int):0<=byteAt s i/\byteAt s i<256:=by
 unfold byteAt;have:=UInt8.toNat_lt (s.data.toList.getD i.toNat 0);omega
theorem ax (b:Int) (h0:0<=b) (h1:b<256):Pc .u8 b 128=b % 128/\Cb .u8 b 127=b % 128:=by
 have key:∀ v:Fin 256,Pc .u8 ((v.val:Nat):Int) 128=((v.val:Nat):Int) % 128/\Cb .u8 ((v.val:Nat):Int) 127=((v.val:Nat):Int) % 128:=by decide +kernel
 have:=key ⟨b.toNat,Ad⟩;have e:((b.toNat:Nat):Int)=b:=Ad
 simp only at this;rw [e] at this;exact this
theorem C6 (s:ByteArray):(Bu s).length=s.size:=by unfold Bu;rw [Av,Array.length_toList];rfl
theorem CE (l:List Int):(ofBytes l).size=l.length:=by
 unfold ofBytes;show (l.map _).toArray.size=_;simp
theorem LQ (s:ByteArray):ofBytes (Bu s)=s:=by
 apply Su.1;unfold ofBytes Bu;simp only [List.map_map];show List.map _ s.data.toList=_
 conv=>rhs;rw [<- List.map_id s.data.toList]
 apply List.map_congr_left;intro b _;simp [Function.comp]
theorem Ko {l:List Int} (h:∀ b∈l,0<=b/\b<256):Bu (ofBytes l)=l:=by
 unfold ofBytes Bu;simp only [List.map_map]
 conv=>rhs;rw [<- List.map_id l]
 apply List.map_congr_left;intro b hb;have:=h b hb;simp only [Function.comp,UInt8.toNat_ofNat'];show ((b.toNat % 256:Nat):Int)=b;omega
theorem Wy (s:ByteArray) (k:Nat):cutS s 0 (k:Int)=ofBytes ((Bu s).take k):=by
 apply Su.1;unfold cutS ofBytes Bu;rw [<- List.map_take,List.map_map];show (s.extract 0 k).data.toList=_;rw [ByteArray.data_extract];simp only [Array.toList_extract];have:(λ n:Int=>UInt8.ofNat n.toNat) ∘ (λ b:UInt8=>(b.toNat:Int))=id:=funext λ b=>by simp [Function.comp]
 rw [this,List.map_id];simp
theorem Ztv {a b:List Int} (ha:∀ x∈a,0<=x/\x<256) (hb:∀ x∈b,0<=x/\x<256) (h:ofBytes a=ofBytes b):a=b:=by
 rw [<- Ko ha,h,Ko hb]
theorem ij:∀ (l:List Int) (b:Int),(∀ x∈l,128<=x/\x<256)->0<=b->b<128->Form (l++[b])
 | [],b,_,h0,h1=>⟨h0,h1⟩
 | [a],b,h,h0,h1=>⟨h a Ah,h0,h1⟩
 | a :: c :: l,b,h,h0,h1=>⟨h a Ah,ij (c :: l) b (λ x hx=>h x (AP _ hx)) h0 h1⟩
theorem Ra:∀ (l:List Int) (b:Int),Ec (l++[b])=Ec l+b % 128*128 ^ l.length
 | [],b=>by simp [Ec]
 | a :: l,b=>by
  rw [List.cons_append];unfold Ec;rw [Ra l b,Aw,Int.pow_succ,Int.mul_add,Int.mul_left_comm 128 (b % 128),Int.mul_comm 128 (128 ^ l.length)];omega
theorem SD:∀ l:List Int,Ec l<128 ^ l.length
 | []=>by simp [Ec]
 | b :: l=>by
  have:=SD l;unfold Ec;rw [Aw,Int.pow_succ];omega
theorem Zc2 {s:ByteArray} {i:Nat} (hi:i<s.size) (eT:i<10) (hb:byteAt s (i:Int)<128) (IQ:∀ x∈(Bu s).take i,128<=x/\x<256) {wp wr:Int}
  (hp:wp % 18446744073709551616=(Ec ((Bu s).take i)+byteAt s (i:Int)*128 ^ i) % 18446744073709551616) (hr:wr % 18446744073709551616=(Ec ((Bu s).take i)+byteAt s (i:Int)*128 ^ i) % 18446744073709551616):
  ((WJ (E5 wp)).bind λ Ox=>bif A9 Ox (A7 .i64 (i:Int) 1) then
    bif A8 (i:Int) 9 then some (E5 wp,(A7 .i64 (i:Int) 1),(0:Int)) else
     bif A9 (byteAt s (i:Int)) 1 then some (E5 wp,(A7 .i64 (i:Int) 1),0) else some (0,0,20)
   else some (0,0,20)) =
  ((Eg wr).bind λ Ml=>(FP Ml).bind λ Ox=>bif CJ 0 (A7 .i64 (i:Int) 1) (Bg s) then
    bif !(Cz Ox (cutS s 0 (A7 .i64 (i:Int) 1))) then some (0,0,20) else some (Ml,(A7 .i64 (i:Int) 1),0) else none):=by
 have hx:E5 wp=E5 wr:=xY (hp.trans hr.symm);have JA:A7 .i64 (i:Int) 1=((i+1:Nat):Int):=by rw [Iz Ad Ad];rfl
 have hz:EL (E5 wr) % 18446744073709551616=(Ec ((Bu s).take i)+byteAt s (i:Int)*128 ^ i) % 18446744073709551616:=(Ytv wr).trans hr;have Xuf:BN (E5 wr):=Kr _;have Dc:CJ 0 ((i+1:Nat):Int) (Bg s)=true:=by rw [X1,Cc];exact Aq Ad
 rw [hx,gm,An,NV Xuf,An,Zrv,An,JA,Dc,Wy s (i+1)];unfold L2;rw [hz];generalize E5 wr=x;have hlen:(Bu s).length=s.size:=C6 s;have Gs:((Bu s).take i).length=i:=by rw [Ar];omega
 have Fw:(Bu s).take (i+1)=(Bu s).take i++[byteAt s (i:Int)]:=by
  rw [List.take_add_one,KS s i hi];rfl
 have NI:=(Jm s (i:Int)).1;rw [Fw];revert Gs IQ;generalize (Bu s).take i=M;revert hb NI;generalize byteAt s (i:Int)=b;intro hb NI IQ Gs;have hV:=SD M;have QM:=Q4 M;rw [Gs] at hV;have Xoa:∀ z∈M++[b],0<=z/\z<256:=λ z hz=>by
  rcases List.mem_append.1 hz with h | h
  ·have:=IQ z h;omega
  ·have:=List.mem_singleton.1 h;omega
 by_cases h9:i<9
 ·-- no bit is lost
  have eS:(128:Int) ^ i*128<=128 ^ 9:=by
   rw [<- Int.pow_succ];exact_mod_cast Nat.pow_le_pow_right (n:=128) Ad (show i+1<=9 by omega)
  rw [show (128:Int) ^ 9=9223372036854775808 from rfl] at eS;have IW:(0:Int)<128 ^ i:=Int.pow_pos Ad;have FW:b*128 ^ i<=127*128 ^ i:=Int.mul_le_mul_of_nonneg_right Ad Ad;have R3:0<=b*128 ^ i:=Int.mul_nonneg NI Ad;have hv:(Ec M+b*128 ^ i) % 18446744073709551616=Ec (M++[b]):=by
   rw [Ra,Gs,show b % 128=b by omega];omega
  have pC:A8 (i:Int) 9=true:=Aq Ad;rw [hv,pC];rcases jd (M++[b]) 10 (ij M b IQ NI hb) Ai with h | h
  ·rw [h];have e1:A9 (((M++[b]).length:Nat):Int) ((i+1:Nat):Int)=true:=Aq Ai;have e2:Cz (ofBytes (M++[b])) (ofBytes (M++[b]))=true:=by rw [MI];exact Aq rfl
   rw [e1,e2];rfl
  ·have e1:A9 (((ES 10 (Ec (M++[b]))).length:Nat):Int) ((i+1:Nat):Int)=false:=Ax (by simp at h ⊢;omega);have e2:Cz (ofBytes (ES 10 (Ec (M++[b])))) (ofBytes (M++[b]))=false:=by
    rw [MI];refine Ax λ e=>?_
    have:=congrArg ByteArray.size e;rw [CE,CE] at this;omega
   rw [e1,e2];rfl
 ·have hi9:i=9:=Ad
  subst hi9;rw [show (128:Int) ^ 9=9223372036854775808 from rfl] at hV ⊢;have hv:(Ec M+b*9223372036854775808) % 18446744073709551616=Ec (M++[b % 2]):=by
   rw [Ra,Gs,show (128:Int) ^ 9=9223372036854775808 from rfl];omega
  have pC:A8 ((9:Nat):Int) 9=false:=rfl;have Zom:∀ z∈M++[b % 2],0<=z/\z<256:=λ z hz=>by
   rcases List.mem_append.1 hz with h | h
   ·have:=IQ z h;omega
   ·have:=List.mem_singleton.1 h;omega
  rw [hv,pC];rcases jd (M++[b % 2]) 10 (ij M (b % 2) IQ Ad Ad) Ai with h | h
  ·have lq:(M++[b % 2]).length=10:=Ai
   have hu:Ec (M++[b % 2])<128 ^ 10:=by have:=SD (M++[b % 2]);rwa [lq] at this
   obtain ⟨_,_,_,a4⟩:=WU 10 (Ec (M++[b % 2])) Ad (Q4 _) hu;rw [h,lq] at a4;have Zjp:b % 2=1:=by
    rcases a4 with a4 | a4
    ·omega
    ·rw [Ra,Gs,show (128:Int) ^ (10-1)=9223372036854775808 from rfl] at a4;omega
   rw [h,lq];have e1:A9 ((10:Nat):Int) ((9+1:Nat):Int)=true:=rfl;rw [e1,Zjp];by_cases Ha:b=1
   ·subst Ha;have e2:Cz (ofBytes (M++[1])) (ofBytes (M++[1]))=true:=by rw [MI];exact Aq rfl
    rw [e2];rfl
   ·have e3:A9 b 1=false:=Ax Ha;have e2:Cz (ofBytes (M++[1])) (ofBytes (M++[b]))=false:=by
     rw [MI];refine Ax λ e=>?_
     rw [Zjp] at Zom;have:=Ztv Zom Xoa e;have:=List.append_cancel_left this;simp at this;omega
    rw [e2,e3];rfl
  ·have e1:A9 (((ES 10 (Ec (M++[b % 2]))).length:Nat):Int) ((9+1:Nat):Int)=false:=Ax (by simp at h ⊢;omega);have e2:Cz (ofBytes (ES 10 (Ec (M++[b % 2])))) (ofBytes (M++[b]))=false:=by
    rw [MI];refine Ax λ e=>?_
    have:=congrArg ByteArray.size e;rw [CE,CE] at this;simp at h this;omega
   rw [e1,e2];rfl
theorem Zd2 (s:ByteArray):∀ (d i n m:Nat) (wp wr:Int),d=10-i->i<=10->i<=s.size->d<n->d<m->(∀ x∈(Bu s).take i,128<=x/\x<256)->
  (i<=9->wp=Ec ((Bu s).take i)/\wr=Ec ((Bu s).take i))->
  F5.l0 n s wp (Eo (Bg s) 10) (i:Int)=Eb.l0 m s wr (i:Int):=by
 intro d;induction d with
 | zero=>
  intro i n m wp wr hd hi his hn hm IQ hw;obtain ⟨n,rfl⟩:=Aa n;obtain ⟨m,rfl⟩:=Aa m;show F5.S0 (F5.l0 n) s wp (Eo (Bg s) 10) (i:Int)=Eb.S0 (Eb.l0 m) s wr (i:Int);unfold F5.S0 Eb.S0;have hi':i=10:=Ad
  subst hi';have a1:A8 ((10:Nat):Int) (Eo (Bg s) 10)=false:=by unfold Eo;rw [Cc];split <;> exact Ax Ad
  have a2:A8 ((10:Nat):Int) 10=false:=rfl;rw [a1,a2];cases A8 ((10:Nat):Int) (Bg s) <;> rfl
 | succ d ih=>
  intro i n m wp wr hd hi his hn hm IQ hw;obtain ⟨n,rfl⟩:=Aa n;obtain ⟨m,rfl⟩:=Aa m;show F5.S0 (F5.l0 n) s wp (Eo (Bg s) 10) (i:Int)=Eb.S0 (Eb.l0 m) s wr (i:Int);unfold F5.S0 Eb.S0;by_cases AY:i<s.size
  ·obtain ⟨hwp,MW⟩:=hw Ad;have a1:A8 (i:Int) (Eo (Bg s) 10)=true:=by unfold Eo;rw [Cc];split <;> exact Aq Ad
   have a2:A8 (i:Int) 10=true:=Aq Ad;have a3:Bf (i:Int) (Bg s)=true:=by rw [KB,Cc];exact Aq Ad
   have a4:A8 (i:Int) (Bg s)=true:=by rw [Cc];exact Aq Ad
   have a5:CI .i64 7 (i:Int)=((7*i:Nat):Int):=by rw [aQ Ad Ad];omega
   have a6:BC 0 ((7*i:Nat):Int)=true:=Aq Ad;obtain ⟨NI,Ha⟩:=Jm s (i:Int);obtain ⟨c1,c2⟩:=ax (byteAt s (i:Int)) NI Ha;have Gs:((Bu s).take i).length=i:=by rw [Ar,C6];omega
   have hV:=SD ((Bu s).take i);rw [Gs,Ni] at hV;have QM:=Q4 ((Bu s).take i);have VO:IntKind.wrap .u64 (byteAt s (i:Int) % 128)=byteAt s (i:Int) % 128:=by rw [E6];omega
   have TE:IntKind.wrap .i64 (byteAt s (i:Int) % 128)=byteAt s (i:Int) % 128:=IL Ad Ad;have qk:=Yn3 (c:=byteAt s (i:Int) % 128) QM hV Ad Ad Ad;have S8:=ay (c:=byteAt s (i:Int) % 128) QM hV Ad Ad Ad;have Fw:(Bu s).take (i+1)=(Bu s).take i++[byteAt s (i:Int)]:=by
    rw [List.take_add_one,KS s i AY];rfl
   rw [a1,a2,a3,a4,a5,a6,c1,c2,VO,TE,hwp,MW,qk,S8];simp only [Ak,An];by_cases hb:byteAt s (i:Int)<128
   ·have e1:BC 128 (byteAt s (i:Int))=false:=Ax Ad;have e2:A8 (byteAt s (i:Int)) 128=true:=Aq hb;have hm:byteAt s (i:Int) % 128=byteAt s (i:Int):=by omega
    rw [e1,e2,hm];simp only [Ak,Al];refine Zc2 AY Ad hb IQ ?_ ?_
    ·rw [Ni,KW];split <;> omega
    ·rw [Ni,KW];split <;> omega
   ·have e1:BC 128 (byteAt s (i:Int))=true:=Aq Ad;have e2:A8 (byteAt s (i:Int)) 128=false:=Ax hb;rw [e1,e2,Iz Ad Ad];simp only [Ak,Al];refine ih (i+1) n m _ _ Ad Ad Ad Ad Ad (λ x hx=>?_) (λ h9=>?_)
    ·rw [Fw] at hx;rcases List.mem_append.1 hx with h | h
     ·exact IQ x h
     ·have:=List.mem_singleton.1 h;omega
    ·rw [Fw,Ra,Gs,Ni];have eS:(2:Int) ^ (7*i)*128<=9223372036854775808:=by
      have:(2:Int) ^ (7*i)*2 ^ 7<=2 ^ 63:=by
       rw [<- Int.pow_add];exact_mod_cast Nat.pow_le_pow_right (n:=2) Ad (show 7*i+7<=63 by omega)
      exact this
     have IW:=Fe (7*i);have FW:byteAt s (i:Int) % 128*2 ^ (7*i)<=127*2 ^ (7*i):=Int.mul_le_mul_of_nonneg_right Ad Ad;have R3:0<=byteAt s (i:Int) % 128*2 ^ (7*i):=Int.mul_nonneg Ad Ad;exact ⟨Ad,IL Ad Ad⟩
  ·have hi':i=s.size:=Ad
   have a1:A8 (i:Int) (Eo (Bg s) 10)=false:=by unfold Eo;rw [Cc];split <;> exact Ax Ad
   have a4:A8 (i:Int) (Bg s)=false:=by rw [Cc];exact Ax Ad
   rw [a1,a4];rfl
theorem PH (s:ByteArray):F5 s=Eb s:=
 Zd2 s (10-0) 0 fu fu 0 0 rfl Ad Ad Ae Ae (λ x hx=>by simp at hx) (λ _=>⟨rfl,rfl⟩)
end Go.AM.Pure
