import Derived.Test.YtclpadlpcfnfmaaGreatAmPRow67
import Derived.Test.YtclpadlpcfnfmaaGreatAmPure13
section
/- Words packed in bits: streams of bits, and what pack.Put writes. -/
namespace Go.AM.Pure
open Go.AM
def wb (x:Int) (w:Nat):List Bool:=(List.range w).map (bit x)
def FR (l:List Int) (w:Nat):List Bool:=l.flatMap fun x=>wb x w
def Eu:Nat→List Bool→List Int
 | 0,_=>[]
 | n+1,s=>numOf (s.take 8) :: Eu n (s.drop 8)
def CQ (l:List Int) (w:Nat):List Int:=Eu ((l.length*w+7) / 8) (FR l w)
theorem Hl (x:Int) (w:Nat):(wb x w).length=w:=by unfold wb;simp
theorem KY (w:Nat):∀ l:List Int,(FR l w).length=l.length*w
 | []=>by simp [FR]
 | x :: l=>by
  have:=KY w l
  unfold FR at *
  rw [List.flatMap_cons,List.length_append,this,Hl,List.length_cons,Nat.add_mul]
  omega
theorem QQ (x:Int) (w:Nat):numOf (wb x w)=x % 2 ^ w:=Kt x w
theorem QR (x:Bool) (a:List Bool):numOf (x :: a)=(if x then 1 else 0)+2*numOf a:=rfl
theorem IJ (n:Nat) (s:List Bool):Eu (n+1) s=numOf (s.take 8) :: Eu n (s.drop 8):=rfl
theorem Nh:∀ (a b:List Bool),numOf (a++b)=numOf a+2 ^ a.length*numOf b
 | [],b=>by simp [numOf]
 | x :: a,b=>by
  rw [List.cons_append,QR,QR,Nh a b,List.length_cons,Int.pow_succ,Int.mul_add,Int.mul_comm (2 ^ a.length) 2,Int.mul_assoc]
  omega
theorem dS (x:Int) (k w:Nat) (h:k≤w):wb x w=wb x k++wb (x / 2 ^ k) (w-k):=by
 unfold wb
 apply List.ext_getElem?
 intro i
 by_cases h1:i<w
 ·by_cases h2:i<k
  ·rw [List.getElem?_append_left (by simpa using h2)]
   simp [h1,h2]
  ·rw [List.getElem?_append_right (by simp;omega)]
   simp only [List.length_map,List.length_range,List.getElem?_map]
   rw [List.getElem?_range h1,List.getElem?_range (show i-k<w-k by omega)]
   simp only [Option.map_some,Lh]
   congr 2
   omega
 ·rw [List.getElem?_eq_none (by simp;omega),List.getElem?_eq_none (by simp;omega)]
theorem tz (x:Int) {w:Nat} (h:w≤64):wb (x % 18446744073709551616) w=wb x w:=by
 unfold wb
 apply List.map_congr_left
 intro k hk
 exact Hw x (by have:=List.mem_range.1 hk;omega)
theorem kO (x:Int):wb x 0=[]:=rfl
theorem Gj:∀ (n:Nat) (s:List Bool),(Eu n s).length=n
 | 0,_=>rfl
 | n+1,s=>by unfold Eu;rw [List.length_cons,Gj]
theorem KZ:∀ (n m:Nat) (a b:List Bool),a.length=8*n→Eu (n+m) (a++b)=Eu n a++Eu m b
 | 0,m,a,b,h=>by
  have:a=[]:=List.eq_nil_of_length_eq_zero (by omega)
  subst this
  simp [Eu]
 | n+1,m,a,b,h=>by
  rw [show n+1+m=(n+m)+1 by omega,IJ,IJ,List.take_append_of_le_length (by omega),List.drop_append_of_le_length (by omega),KZ n m _ _ (by rw [List.length_drop];omega)]
  rfl
theorem dT:∀ (n:Nat) (s:List Bool),∀ b∈Eu n s,0≤b∧b<256
 | 0,_,b,h=>by cases h
 | n+1,s,b,h=>by
  unfold Eu at h
  rcases List.mem_cons.1 h with rfl | h
  ·have:=EP (s.take 8)
   have h2:(2:Int) ^ (s.take 8).length≤2 ^ 8:=by
    have:(s.take 8).length≤8:=by rw [List.length_take];omega
    exact_mod_cast Nat.pow_le_pow_right (n:=2) (by omega) this
   omega
  ·exact dT n _ b h
theorem Lj (l:List Int) (w:Nat):∀ b∈CQ l w,0≤b∧b<256:=dT _ _
theorem EF (l:List Int) (w:Nat):(CQ l w).length=(l.length*w+7) / 8:=Gj _ _
theorem YH {V c:Int} {a:Nat} (h0:0≤V) (h1:V<2 ^ a) (ha:a≤64):orI .u64 V (Fc .u64 c (a:Int))=(V+c*2 ^ a) % 18446744073709551616:=by
 have hr:∀ x:Int,orI .u64 V x=orI .u64 V x % 18446744073709551616:=fun x=>by
  unfold orI
  rw [Dj]
  omega
 rw [hr]
 apply Jk
 intro k hk
 rw [YE _ _ hk,TO h0 h1]
 have hs:Fc .u64 c (a:Int)=IntKind.wrap .u64 (c*2 ^ a):=by
  unfold Fc
  have:min (a:Int).toNat (IntKind.bits .u64)=a:=by show min a 64=a;omega
  rw [this]
 rw [hs,Ev _ hk,TN]
 by_cases h:k<a
 ·rw [if_pos h,decide_eq_false (by omega)];simp
 ·rw [if_neg h,decide_eq_true (by omega),Bool.true_and]
  have:bit V k=false:=Jl h0 (by
   have:(2:Int) ^ a≤2 ^ k:=by exact_mod_cast Nat.pow_le_pow_right (n:=2) (by omega) (show a≤k by omega)
   omega)
  rw [this,Bool.false_or]
theorem kP {k:Nat} (h:k≤8):Hz (k:Int)=some (2 ^ k-1):=by
 have:∀ k:Fin 9,Hz (k.val:Int)=some (2 ^ k.val-1):=by decide +kernel
 exact this ⟨k,by omega⟩
theorem Vq {u:Int} (h0:0≤u) (h1:u<18446744073709551616) {k:Nat} (h:k≤8):BF .u64 u (IntKind.wrap .u64 (2 ^ k-1))=u % 2 ^ k:=by
 obtain ⟨n,rfl⟩:=Int.eq_ofNat_of_zero_le h0
 have hk:(2:Nat) ^ k≤2 ^ 8:=Nat.pow_le_pow_right (by omega) h
 have hkp:0<(2:Nat) ^ k:=Nat.pow_pos (by omega)
 have e:(2:Int) ^ k-1=((2 ^ k-1:Nat):Int):=by
  rw [Int.ofNat_sub hkp]
  simp
 rw [Dj,e]
 have e2:((2 ^ k-1:Nat):Int) % 18446744073709551616=((2 ^ k-1:Nat):Int):=by omega
 rw [e2]
 unfold BF
 rw [BitVec.toNat_and,show (BitVec.ofInt (IntKind.bits .u64) (n:Int)).toNat=n by
   show (BitVec.ofInt 64 (n:Int)).toNat=n
   rw [BitVec.toNat_ofInt]
   omega,show (BitVec.ofInt (IntKind.bits .u64) ((2 ^ k-1:Nat):Int)).toNat=2 ^ k-1 by
   show (BitVec.ofInt 64 ((2 ^ k-1:Nat):Int)).toNat=_
   rw [BitVec.toNat_ofInt]
   omega,Nat.and_two_pow_sub_one_eq_mod,Dj]
 have:n % 2 ^ k<2 ^ k:=Nat.mod_lt _ hkp
 have e3:((n % 2 ^ k:Nat):Int)=(n:Int) % 2 ^ k:=by simp
 rw [← e3]
 omega
def Wr (A:List Bool) (out:List Int) (kept n:Int):Prop:=
 ∃ A' R:List Bool,A=A'++R∧A'.length=8*out.length∧out=Eu out.length A'∧R.length<8∧n=(R.length:Int)∧kept=numOf R
theorem tA {o0:Int→List Int→Int→Int→List Int→Int→Int→Option (ByteArray×Int)} {width:Int} {l:List Int} {len i:Int}:
  ∀ (left m:Nat) (A:List Bool) (out:List Int) (kept n u:Int),left≤64→left<m→Wr A out kept n→A.length+left≤100000000000→0≤u→u<18446744073709551616→
   ∃ out' kept' n',Wr (A++wb u left) out' kept' n'∧AY.l1 o0 m width out kept n u (left:Int) l len i=o0 width out' kept' n' l len (An .i64 i 1):=by
 intro left
 induction left using Nat.strongRecOn with
 | ind left ih=>
 intro m A out kept n u hl hm hw hA h0 h1
 obtain ⟨m,rfl⟩:∃ k,m=k+1:=⟨m-1,by omega⟩
 show ∃ out' kept' n',_∧AY.S1 o0 (AY.l1 o0 m) width out kept n u (left:Int) l len i=_
 unfold AY.S1
 rcases Nat.eq_zero_or_pos left with h00 | hpos
 ·subst h00
  exact ⟨out,kept,n,by rw [kO,List.append_nil];exact hw,by rw [AJ (by omega)];rfl⟩
 ·rw [Bj (by omega),cond_true]
  obtain ⟨A',R,hAR,hA',hout,hR,rfl,rfl⟩:=hw
  have hks:AT .i64 8 (R.length:Int)=((8-R.length:Nat):Int):=by rw [Dk (by omega)];omega
  have hmin:Et (AT .i64 8 (R.length:Int)) (left:Int)=((min (8-R.length) left:Nat):Int):=by
   rw [hks]
   unfold Et
   split <;> omega
  rw [hmin]
  generalize hk:min (8-R.length) left=k
  have hk8:k≤8:=by omega
  have hk1:1≤k:=by omega
  have hkl:k≤left:=by omega
  rw [kP hk8,Option.bind_some,DL (by omega),cond_true,DL (by omega),cond_true]
  have hb:=EP R
  have hand:=Vq h0 h1 hk8
  have hor:orI .u64 (numOf R) (Fc .u64 (BF .u64 u (IntKind.wrap .u64 (2 ^ k-1))) (R.length:Int))=numOf (R++wb u k):=by
   rw [hand,YH hb.1 hb.2 (by omega),Nh,QQ,Int.mul_comm (2 ^ R.length)]
   have h2:=EP (R++wb u k)
   rw [Nh,QQ,Int.mul_comm (2 ^ R.length)] at h2
   have h3:(2:Int) ^ (R++wb u k).length≤2 ^ 8:=by
    have:(R++wb u k).length≤8:=by rw [List.length_append,Hl];omega
    exact_mod_cast Nat.pow_le_pow_right (n:=2) (by omega) this
   omega
  rw [hor]
  have hshr:BG .u64 u (k:Int)=u / 2 ^ k:=ND u k (by omega)
  have hsub:AT .i64 (left:Int) (k:Int)=((left-k:Nat):Int):=by rw [Dk (by omega)];omega
  rw [hshr,hsub,AE (a:=(R.length:Int)) (by omega)]
  have hp:=Da k
  have hu0:0≤u / 2 ^ k:=Int.ediv_nonneg h0 (Int.le_of_lt hp)
  have hu1:u / 2 ^ k<18446744073709551616:=by
   have:=Int.ediv_le_self (2 ^ k) h0
   omega
  have hsplit:=dS u k left hkl
  by_cases h8:R.length+k=8
  ·rw [CT (by omega),cond_true,Bg (by
    have:A.length=A'.length+R.length:=by rw [hAR,List.length_append]
    omega),cond_true]
   have hrl:(R++wb u k).length=8:=by rw [List.length_append,Hl];omega
   have hbb:=EP (R++wb u k)
   rw [hrl] at hbb
   have hwrap:IntKind.wrap .u8 (numOf (R++wb u k))=numOf (R++wb u k):=by rw [GF];omega
   rw [hwrap]
   obtain ⟨out',kept',n',h2,h3⟩:=ih (left-k) (by omega) m (A++wb u k) (out++[numOf (R++wb u k)]) 0 0 (u / 2 ^ k) (by omega) (by omega)
    ⟨A'++(R++wb u k),[],by rw [hAR];simp,by simp;rw [Hl];omega,by
     rw [List.length_append,List.length_singleton,KZ _ 1 _ _ hA',← hout]
     congr 1
     rw [IJ,List.take_of_length_le (by omega)]
     rfl,by simp,rfl,rfl⟩ (by rw [List.length_append,Hl];omega) hu0 hu1
   exact ⟨out',kept',n',by rw [hsplit,← List.append_assoc];exact h2,h3⟩
  ·rw [CE (by omega),cond_false]
   have hrl:(R++wb u k).length=R.length+k:=by rw [List.length_append,Hl]
   obtain ⟨out',kept',n',h2,h3⟩:=ih (left-k) (by omega) m (A++wb u k) out (numOf (R++wb u k)) ((R.length:Int)+(k:Int)) (u / 2 ^ k) (by omega) (by omega)
    ⟨A',R++wb u k,by rw [hAR,List.append_assoc],hA',hout,by omega,by omega,rfl⟩ (by rw [List.length_append,Hl];omega) hu0 hu1
   exact ⟨out',kept',n',by rw [hsplit,← List.append_assoc];exact h2,h3⟩
theorem Pk (l:List Int) (x:Int) (w:Nat):FR (l++[x]) w=FR l w++wb x w:=by unfold FR;simp
theorem Zdx {A:List Bool} {out:List Int} {kept n:Int} (h:Wr A out kept n) (hA:A.length≤100000000000):AY.S2 out kept n=some (ofBytes (Eu ((A.length+7) / 8) A),0):=by
 obtain ⟨A',R,hAR,hA',hout,hR,rfl,rfl⟩:=h
 unfold AY.S2
 have hl:A.length=8*out.length+R.length:=by rw [hAR,List.length_append,hA']
 rcases Nat.eq_zero_or_pos R.length with h0 | hpos
 ·rw [AJ (by omega),cond_false]
  have:R=[]:=List.eq_nil_of_length_eq_zero h0
  subst this
  rw [List.append_nil] at hAR
  subst hAR
  rw [show (A.length+7) / 8=out.length by simp at hl;omega,← hout]
 ·rw [Bj (by omega),cond_true,Bg (by omega),cond_true]
  have hb:=EP R
  have h3:(2:Int) ^ R.length≤2 ^ 8:=by exact_mod_cast Nat.pow_le_pow_right (n:=2) (by omega) (show R.length≤8 by omega)
  have hwrap:IntKind.wrap .u8 (numOf R)=numOf R:=by rw [GF];omega
  rw [hwrap,show (A.length+7) / 8=out.length+1 by omega,hAR,KZ _ 1 _ _ hA',← hout]
  congr 4
  rw [IJ,List.take_of_length_le (by omega)]
  rfl
theorem tC (l:List Int) {w:Nat} (hw:w≤64) (hl:l.length≤65536):∀ (d i m:Nat) (out:List Int) (kept n:Int),d=l.length-i→i≤l.length→d+1<m→70<m→Wr (FR (l.take i) w) out kept n→
  AY.l0 (AY.t2 fu) (m+d) (w:Int) out kept n l (l.length:Int) (i:Int)=some (ofBytes (CQ l w),0):=by
 intro d
 induction d with
 | zero=>
  intro i m out kept n hd hi hm hm2 hwr
  have:i=l.length:=by omega
  subst this
  obtain ⟨m,rfl⟩:∃ k,m=k+1:=⟨m-1,by omega⟩
  show AY.S0 AY.S2 (AY.l1 _ _) (w:Int) out kept n l (l.length:Int) (l.length:Int)=_
  unfold AY.S0
  rw [AJ (by omega),cond_false]
  rw [List.take_length] at hwr
  have hlen:=KY w l
  have hb:l.length*w≤65536*64:=Nat.mul_le_mul hl hw
  rw [Zdx hwr (by omega),hlen]
  rfl
 | succ d ih=>
  intro i m out kept n hd hi hm hm2 hwr
  have hlt:i<l.length:=by omega
  have hb:l.length*w≤65536*64:=Nat.mul_le_mul hl hw
  show AY.S0 (AY.t2 fu) (AY.l1 (AY.l0 (AY.t2 fu) (m+d)) (m+d)) (w:Int) out kept n l (l.length:Int) (i:Int)=_
  unfold AY.S0
  rw [Bj (by omega),cond_true,AA (by rw [Aq];omega),cond_true,AQ hlt]
  have hu:=Dj l[i]
  obtain ⟨out',kept',n',h1,h2⟩:=tA (o0:=AY.l0 (AY.t2 fu) (m+d)) (width:=(w:Int)) (l:=l) (len:=(l.length:Int)) (i:=(i:Int)) w (m+d) _ out kept n (IntKind.wrap .u64 l[i]) hw (by omega) hwr
   (by rw [KY,List.length_take];have:min i l.length*w≤l.length*w:=Nat.mul_le_mul_right _ (Nat.min_le_right _ _);omega) (by omega) (by omega)
  rw [h2,AE (by omega)]
  have:=ih (i+1) m out' kept' n' (by omega) (by omega) (by omega) hm2 (by
   rw [List.take_add_one,List.getElem?_eq_getElem hlt,Option.toList_some,Pk]
   rw [hu,tz _ hw] at h1
   exact h1)
  rw [← this]
  congr 1
theorem RN (n w:Nat) (hn:n≤65536) (hw:w≤64):GI (n:Int) (w:Int)=(((n*w+7) / 8:Nat):Int):=by
 unfold GI
 have hb:n*w≤65536*64:=Nat.mul_le_mul hn hw
 rcases Nat.eq_zero_or_pos n with h | h
 ·subst h
  rw [Bj (by omega)]
  simp
 ·rw [AJ (by omega),cond_false,AJ (by omega),cond_false]
  rcases Nat.eq_zero_or_pos w with h2 | h2
  ·subst h2
   rw [Bj (by omega)]
   simp
  ·rw [AJ (by omega),cond_false,AJ (by omega),cond_false]
   have e:(n:Int)*(w:Int)=((n*w:Nat):Int):=by simp
   rw [Kw (by rw [e];omega),e,AE (by omega)]
   have:=Hk (((n*w:Nat):Int)+7) 3 (by omega)
   rw [show ((3:Nat):Int)=3 from rfl] at this
   rw [this]
   omega
theorem Kv (l:List Int) {w:Nat} (hw:w≤64) (hl:l.length≤65536) {v:Nat} (hv:BN l=some (v:Int)) (hvw:v≤w):AY l (w:Int)=some (ofBytes (CQ l w),0):=by
 show AY.S (AY.l0 (AY.t2 fu) fu) l (w:Int)=_
 unfold AY.S
 rw [AJ (by omega),cond_false,AJ (by omega),cond_false,Aq,AJ (by omega),cond_false,hv,Option.bind_some,AJ (by omega),cond_false,RN _ _ hl hw]
 have hb:l.length*w≤65536*64:=Nat.mul_le_mul hl hw
 dsimp only
 rw [AE (by omega),DL (by omega),Bg (by omega)]
 show AY.l0 (AY.t2 fu) fu (w:Int) [] 0 0 l (l.length:Int) 0=_
 have:=tC l hw hl l.length 0 (fu-l.length) [] 0 0 (by omega) (by omega) (by unfold fu;omega) (by unfold fu;omega) ⟨[],[],rfl,rfl,rfl,by decide,rfl,rfl⟩
 rw [show fu-l.length+l.length=fu by unfold fu;omega] at this
 exact this
end Go.AM.Pure
end

section
/- pack.Width, pack.word, pack.Take. -/
namespace Go.AM.Pure
open Go.AM
theorem Zee (u:Int) (v k:Nat) (_:0≤u):bit (u % 2 ^ v) k=(decide (k<v) && bit u k):=by
 obtain ⟨n,rfl⟩:=Int.eq_ofNat_of_zero_le ‹0≤u›
 have e:((n:Int) % 2 ^ v)=((n % 2 ^ v:Nat):Int):=by simp
 rw [e,He,He,Nat.testBit_mod_two_pow]
theorem Wu {u:Int} (h0:0≤u) (h1:u<18446744073709551616) {v:Nat} (h:∀ k,v≤k→k<64→bit u k=false):u<2 ^ v:=by
 have hp:=Da v
 have h2:=Int.emod_lt_of_pos u hp
 have h3:=Int.emod_nonneg u (Int.ne_of_gt hp)
 have h4:u % 18446744073709551616=(u % 2 ^ v) % 18446744073709551616:=Jk fun k hk=>by
  rw [Zee u v k h0]
  by_cases hkv:k<v
  ·rw [decide_eq_true hkv,Bool.true_and]
  ·rw [h k (by omega) hk,decide_eq_false hkv];rfl
 have h5:u % 2 ^ v≤u:=by
  have h6:=Int.mul_ediv_add_emod u (2 ^ v)
  have h7:0≤2 ^ v*(u / 2 ^ v):=Int.mul_nonneg (Int.le_of_lt hp) (Int.ediv_nonneg h0 (Int.le_of_lt hp))
  omega
 omega
def Wd (l:List Int) (v:Nat):Prop:=(∀ x∈l,x % 18446744073709551616<2 ^ v)∧(v=0∨∃ x∈l,2 ^ (v-1)≤x % 18446744073709551616)
theorem Wd.unique {l:List Int} {v w:Nat} (h1:Wd l v) (h2:Wd l w):v=w:=by
 have key:∀ {v w:Nat},Wd l v→Wd l w→v≤w:=fun {v w} h1 h2=>by
  rcases h1.2 with h | ⟨x,hx,hle⟩
  ·omega
  ·have:=h2.1 x hx
   have h3:(2:Int) ^ (v-1)<2 ^ w:=by omega
   have:=NZ h3
   omega
 exact Nat.le_antisymm (key h1 h2) (key h2 h1)
def Qf (l:List Int) (k:Nat):Bool:=l.any fun x=>bit x k
theorem Zfe (a b:Int) {k:Nat} (hk:k<64):bit (orI .i64 a b) k=(bit a k || bit b k):=by
 unfold orI
 rw [KX _ hk]
 show bit ((BitVec.ofInt 64 a ||| BitVec.ofInt 64 b).toNat:Int) k=_
 rw [He,BitVec.toNat_or,Nat.testBit_or,Hx _ hk,Hx _ hk]
theorem pR (l:List Int) (hl:l.length<4611686018427387904):∀ (d i n:Nat) (all:Int),d=l.length-i→i≤l.length→d<n→(∀ k,k<64→bit all k=Qf (l.take i) k)→
  ∃ all',(∀ k,k<64→bit all' k=Qf l k)∧BN.l0 n all l (l.length:Int) (i:Int)=(Cq all').bind fun r=>some r:=by
 intro d
 induction d with
 | zero=>
  intro i n all hd hi hn ha
  have:i=l.length:=by omega
  subst this
  obtain ⟨n,rfl⟩:∃ k,n=k+1:=⟨n-1,by omega⟩
  refine ⟨all,by rw [List.take_length] at ha;exact ha,?_⟩
  show BN.S0 _ _ _ _ _=_
  unfold BN.S0
  rw [AJ (by omega)]
  rfl
 | succ d ih=>
  intro i n all hd hi hn ha
  obtain ⟨n,rfl⟩:∃ k,n=k+1:=⟨n-1,by omega⟩
  have hlt:i<l.length:=by omega
  show ∃ all',_∧BN.S0 (BN.l0 n) all l (l.length:Int) (i:Int)=_
  unfold BN.S0
  rw [Bj (by omega),cond_true,AA (by rw [Aq];omega),cond_true,AQ hlt,AE (by omega)]
  exact ih (i+1) n _ (by omega) (by omega) (by omega) fun k hk=>by
   rw [Zfe _ _ hk,ha k hk,List.take_add_one,List.getElem?_eq_getElem hlt,Option.toList_some]
   unfold Qf
   rw [List.any_append]
   simp
theorem KS (l:List Int) (hl:l.length<4611686018427387904):∃ v:Nat,BN l=some (v:Int)∧v≤64∧Wd l v:=by
 obtain ⟨all,hb,he⟩:=pR l hl l.length 0 fu 0 (by omega) (by omega) (by unfold fu;omega) fun k _=>by rw [Ms];rfl
 obtain ⟨v,h1,h2,h3⟩:=NF (z:=all) rfl
 refine ⟨v,?_,h2,?_⟩
 ·show BN.l0 fu 0 l (l.length:Int) 0=_
  have he':BN.l0 fu 0 l (l.length:Int) ((0:Nat):Int)=_:=he
  rw [h1] at he'
  exact he'
 have hab:∀ k,k<64→bit (all % 18446744073709551616) k=Qf l k:=fun k hk=>by rw [Hw _ hk];exact hb k hk
 constructor
 ·intro x hx
  refine Wu (by omega) (by omega) fun k h4 h5=>?_
  rw [Hw _ h5]
  have h6:all % 18446744073709551616<2 ^ v:=by
   rcases h3 with ⟨h3,rfl⟩ | ⟨_,_,h3⟩
   ·rw [h3];decide
   ·exact h3
  have h7:bit (all % 18446744073709551616) k=false:=Jl (by omega) (by
   have:(2:Int) ^ v≤2 ^ k:=by exact_mod_cast Nat.pow_le_pow_right (n:=2) (by omega) h4
   omega)
  rw [hab k h5] at h7
  unfold Qf at h7
  have:=List.any_eq_false.1 h7 x hx
  simpa using this
 ·rcases h3 with ⟨_,rfl⟩ | ⟨h4,h5,h6⟩
  ·exact .inl rfl
  ·right
   -- the highest bit is one of some word's
   have hbit:bit (all % 18446744073709551616) (v-1)=true:=by
    cases hq:bit (all % 18446744073709551616) (v-1) with
    | true=>rfl
    | false=>
     have:=Wu (u:=all % 18446744073709551616) (v:=v-1) (by omega) (by omega) fun k h7 h8=>by
      by_cases hk:k=v-1
      ·rw [hk];exact hq
      ·exact Jl (by omega) (by
        have:(2:Int) ^ v≤2 ^ k:=by exact_mod_cast Nat.pow_le_pow_right (n:=2) (by omega) (show v≤k by omega)
        omega)
     omega
   rw [hab _ (by omega)] at hbit
   unfold Qf at hbit
   obtain ⟨x,hx,hxb⟩:=List.any_eq_true.1 hbit
   refine ⟨x,hx,?_⟩
   rcases Int.lt_or_le (x % 18446744073709551616) (2 ^ (v-1)) with h7 | h7
   ·have:=Jl (by omega) h7
    rw [Hw _ (by omega)] at this
    rw [this] at hxb
    cases hxb
   ·exact h7
def sb (s:ByteArray) (p:Nat):Bool:=bit (byteAt s ((p / 8:Nat):Int)) (p % 8)
theorem Zf4 {a:Nat} (h:a<9223372036854775808):BF .i64 (a:Int) 7=((a % 8:Nat):Int):=by
 unfold BF
 show IntKind.wrap .i64 ((BitVec.ofInt 64 (a:Int) &&& BitVec.ofInt 64 7).toNat:Int)=_
 rw [BitVec.toNat_and,show (BitVec.ofInt 64 7).toNat=2 ^ 3-1 from rfl,Nat.and_two_pow_sub_one_eq_mod,show (BitVec.ofInt 64 (a:Int)).toNat=a by rw [BitVec.toNat_ofInt];omega,Gi]
 omega
theorem Zlg1 (a:Nat):BG .i64 (a:Int) 3=((a / 8:Nat):Int):=by
 have:=Hk (a:Int) 3 (by omega)
 rw [show ((3:Nat):Int)=3 from rfl] at this
 rw [this]
 omega
theorem ax {f:Nat→Bool} (a b:Nat):(List.range (a+b)).map f=(List.range a).map f++(List.range b).map fun i=>f (a+i):=by
 rw [List.range_add,List.map_append,List.map_map]
 rfl
theorem pS (s:ByteArray) {w:Nat} (hw:w≤64) (base:Nat) (hb:base<1000000000000) (hfit:base+w≤8*s.size):∀ (d got n:Nat),d=w-got→got≤w→d<n→
  Dt.l0 n s (w:Int) (numOf ((List.range got).map fun i=>sb s (base+i))) ((base+got:Nat):Int) (got:Int)=some (IntKind.wrap .i64 (numOf ((List.range w).map fun i=>sb s (base+i)))):=by
 intro d
 induction d using Nat.strongRecOn with
 | ind d ih=>
 intro got n hd hg hn
 obtain ⟨n,rfl⟩:∃ k,n=k+1:=⟨n-1,by omega⟩
 show Dt.S0 (Dt.l0 n) s _ _ _ _=_
 unfold Dt.S0
 by_cases hgw:got=w
 ·subst hgw
  rw [AJ (by omega)]
  rfl
 ·rw [Bj (by omega),cond_true,Zlg1,AA (by rw [CB];omega),cond_true,Zf4 (by omega),DL (by omega),cond_true]
  have hsub8:AT .i64 8 (((base+got) % 8:Nat):Int)=((8-(base+got) % 8:Nat):Int):=by rw [Dk (by omega)];omega
  have hsubw:AT .i64 (w:Int) (got:Int)=((w-got:Nat):Int):=by rw [Dk (by omega)];omega
  have hmin:Et (AT .i64 8 (((base+got) % 8:Nat):Int)) (AT .i64 (w:Int) (got:Int))=((min (8-(base+got) % 8) (w-got):Nat):Int):=by
   rw [hsub8,hsubw]
   unfold Et
   split <;> omega
  rw [hmin]
  generalize hk:min (8-(base+got) % 8) (w-got)=k
  have hk8:k≤8:=by omega
  rw [kP hk8,Option.bind_some,DL (by omega),cond_true]
  have hby:=LS s (((base+got) / 8:Nat):Int)
  have hwr:IntKind.wrap .u64 (byteAt s (((base+got) / 8:Nat):Int))=byteAt s (((base+got) / 8:Nat):Int):=by rw [Dj];omega
  have hp:=Da ((base+got) % 8)
  rw [hwr,ND _ _ (by omega)]
  have hq0:0≤byteAt s (((base+got) / 8:Nat):Int) / 2 ^ ((base+got) % 8):=Int.ediv_nonneg hby.1 (Int.le_of_lt hp)
  have hq1:byteAt s (((base+got) / 8:Nat):Int) / 2 ^ ((base+got) % 8)<18446744073709551616:=by
   have:=Int.ediv_le_self (2 ^ ((base+got) % 8)) hby.1
   omega
  have hnb:=EP ((List.range got).map fun i=>sb s (base+i))
  rw [List.length_map,List.length_range] at hnb
  rw [Vq hq0 hq1 hk8,YH hnb.1 hnb.2 (by omega),AE (by omega),AE (by omega)]
  have hpart:byteAt s (((base+got) / 8:Nat):Int) / 2 ^ ((base+got) % 8) % 2 ^ k=numOf ((List.range k).map fun i=>sb s (base+(got+i))):=by
   rw [← Kt]
   congr 1
   apply List.map_congr_left
   intro i hi
   have hi:=List.mem_range.1 hi
   rw [Lh]
   unfold sb
   rw [show (base+(got+i)) / 8=(base+got) / 8 by omega,show (base+(got+i)) % 8=(base+got) % 8+i by omega]
  have hnext:numOf ((List.range (got+k)).map fun i=>sb s (base+i))=numOf ((List.range got).map fun i=>sb s (base+i))+byteAt s (((base+got) / 8:Nat):Int) / 2 ^ ((base+got) % 8) % 2 ^ k*2 ^ got:=by
   rw [ax,Nh,List.length_map,List.length_range,hpart,Int.mul_comm (2 ^ got)]
  rw [← hnext]
  have hnb2:=EP ((List.range (got+k)).map fun i=>sb s (base+i))
  rw [List.length_map,List.length_range] at hnb2
  have h64:(2:Int) ^ (got+k)≤2 ^ 64:=by exact_mod_cast Nat.pow_le_pow_right (n:=2) (by omega) (show got+k≤64 by omega)
  rw [← LP] at h64
  rw [Int.emod_eq_of_lt hnb2.1 (by omega)]
  have:=ih (w-(got+k)) (by omega) (got+k) n rfl (by omega) (by omega)
  rw [show ((base+got:Nat):Int)+(k:Int)=((base+(got+k):Nat):Int) by omega,show (got:Int)+(k:Int)=((got+k:Nat):Int) by omega]
  exact this
def JY (s:ByteArray) (k w:Nat):Int:=IntKind.wrap .i64 (numOf ((List.range w).map fun i=>sb s (k*w+i)))
theorem dQ (s:ByteArray) {k w:Nat} (hw:w≤64) (hk:k≤65536) (hfit:(k+1)*w≤8*s.size):Dt s (k:Int) (w:Int)=some (JY s k w):=by
 show Dt.S (Dt.l0 fu) s _ _=_
 unfold Dt.S
 have hb:k*w≤65536*64:=Nat.mul_le_mul hk hw
 have e:(k:Int)*(w:Int)=((k*w:Nat):Int):=by simp
 rw [Kw (by rw [e];omega),e]
 rw [Nat.add_mul] at hfit
 exact pS s hw (k*w) (by omega) (by omega) w 0 fu (by omega) (by omega) (by unfold fu;omega)
theorem Zcx (s:ByteArray) {w n:Nat} (hw:w≤64) (hn:n≤65536) (hfit:n*w≤8*s.size):∀ (d i m:Nat),d=n-i→i≤n→d<m→
  BC.l1 m s (w:Int) (n:Int) (i:Int) ((List.range i).map (fun k=>JY s k w)++List.replicate (n-i) (0:Int))=some ((List.range n).map (fun k=>JY s k w),0):=by
 intro d
 induction d with
 | zero=>
  intro i m hd hi hm
  have:i=n:=by omega
  subst this
  obtain ⟨m,rfl⟩:∃ k,m=k+1:=⟨m-1,by omega⟩
  show BC.S1 _ _ _ _ _ _=_
  unfold BC.S1
  rw [AJ (by omega),cond_false,Nat.sub_self,List.replicate_zero,List.append_nil]
 | succ d ih=>
  intro i m hd hi hm
  obtain ⟨m,rfl⟩:∃ k,m=k+1:=⟨m-1,by omega⟩
  show BC.S1 (BC.l1 m) _ _ _ _ _=_
  unfold BC.S1
  have hf:(i+1)*w≤n*w:=Nat.mul_le_mul_right _ (by omega)
  rw [Bj (by omega),cond_true,dQ s hw (by omega) (by omega),Option.bind_some,AA (by rw [Aq];simp;omega),cond_true,AE (by omega)]
  have:=ih (i+1) m (by omega) (by omega) (by omega)
  rw [show (i:Int)+1=((i+1:Nat):Int) by omega,← this]
  congr 1
  rw [show ((i:Int)).toNat=i from rfl,List.set_append_right _ _ (by simp),List.length_map,List.length_range,Nat.sub_self,show n-i=(n-(i+1))+1 by omega,List.replicate_succ,List.set_cons_zero,List.range_succ,List.map_append,
   List.append_assoc]
  rfl
theorem dR (s:ByteArray) {w n:Nat} (hw:w≤64) (hn:n≤65536):BC s (n:Int) (w:Int) =
  some (if s.size=(n*w+7) / 8 then (if n*w % 8=0∨byteAt s ((s.size-1:Nat):Int)<2 ^ (n*w % 8) then ((List.range n).map (fun k=>JY s k w),0) else ([],20)) else ([],20)):=by
 show BC.S (BC.t0 fu) s _ _=_
 unfold BC.S
 have hb:n*w≤65536*64:=Nat.mul_le_mul hn hw
 have e:(n:Int)*(w:Int)=((n*w:Nat):Int):=by simp
 rw [AJ (by omega),cond_false,AJ (by omega),cond_false,AJ (by omega),cond_false,AJ (by omega),cond_false,RN _ _ hn hw,CB]
 by_cases hs:s.size=(n*w+7) / 8
 ·rw [Db (by omega),cond_false,if_pos hs,Kw (by rw [e];omega),e,Zf4 (by omega)]
  have hj:n*w≤8*s.size→BC.t0 fu s (n:Int) (w:Int)=some ((List.range n).map (fun k=>JY s k w),0):=fun hf=>by
   show BC.S0 (BC.l1 _) s (n:Int) (w:Int)=_
   unfold BC.S0
   rw [DL (by omega),Bg (by omega)]
   have:=Zcx s hw hn hf n 0 18446744073709551615 (by omega) (by omega) (by omega)
   rw [Nat.sub_zero] at this
   exact this
  rcases Nat.eq_zero_or_pos (n*w % 8) with h0 | hpos
  ·rw [AJ (by omega),cond_false,if_pos (.inl h0)]
   exact hj (by omega)
  ·rw [Bj (by omega),cond_true,Dk (by omega),AA (by omega),cond_true,DL (by omega),cond_true]
   have hsz:((s.size:Nat):Int)-1=((s.size-1:Nat):Int):=by omega
   have hby:=LS s ((s.size-1:Nat):Int)
   have hshr:BG .u8 (byteAt s ((s.size-1:Nat):Int)) ((n*w % 8:Nat):Int)=byteAt s ((s.size-1:Nat):Int) / 2 ^ (n*w % 8):=by
    unfold BG
    have:min ((n*w % 8:Nat):Int).toNat (IntKind.bits .u8)=n*w % 8:=by show min (n*w % 8) 8=_;omega
    rw [this,Int.fdiv_eq_ediv_of_nonneg]
    exact Int.le_of_lt (Da _)
   have hp:=Da (n*w % 8)
   rw [hsz,hshr]
   by_cases hlt:byteAt s ((s.size-1:Nat):Int)<2 ^ (n*w % 8)
   ·rw [Int.ediv_eq_zero_of_lt hby.1 hlt,AJ (by omega),cond_false,if_pos (.inr hlt)]
    exact hj (by omega)
   ·have h1:1≤byteAt s ((s.size-1:Nat):Int) / 2 ^ (n*w % 8):=(Int.le_ediv_iff_mul_le hp).2 (by omega)
    rw [Bj (by omega),cond_true,if_neg (by omega)]
 ·rw [Jp (by omega),cond_true,if_neg hs]
end Go.AM.Pure
end

section
/- What was packed is taken as it was. -/
namespace Go.AM.Pure
open Go.AM
theorem aA:∀ (l:List Bool) (k:Nat),bit (numOf l) k=l.getD k false
 | [],k=>by show bit 0 k=_;rw [Ms];rfl
 | b :: l,k=>by
  rw [QR]
  have h:=TO (V:=if b then 1 else 0) (c:=numOf l) (a:=1) (by cases b <;> decide) (by cases b <;> decide) k
  rw [show (2:Int)*numOf l=numOf l*2 ^ 1 by rw [Int.pow_succ,Int.pow_zero];omega,h]
  cases k with
  | zero=>cases b <;> rfl
  | succ k=>rw [if_neg (by omega),show k+1-1=k by omega,aA l k];rfl
theorem Mu:∀ (n:Nat) (s:List Bool) (j:Nat),j<n→(Eu n s)[j]? = some (numOf ((s.drop (8*j)).take 8))
 | 0,_,_,h=>by omega
 | n+1,s,0,_=>by rw [IJ];rfl
 | n+1,s,j+1,h=>by
  rw [IJ,List.getElem?_cons_succ,Mu n _ j (by omega),List.drop_drop]
  congr 4
  omega
theorem dZ {w:Nat}:∀ (l:List Int) (k i:Nat) (h:k<l.length),i<w→(FR l w)[k*w+i]? = some (bit l[k] i)
 | [],_,_,h,_=>by simp at h
 | x :: l,0,i,_,hi=>by
  unfold FR
  rw [List.flatMap_cons,Nat.zero_mul,Nat.zero_add,List.getElem?_append_left (by rw [Hl];exact hi)]
  unfold wb
  simp [hi]
 | x :: l,k+1,i,h,hi=>by
  have:=dZ l k i (by simpa using h) hi
  unfold FR at this ⊢
  rw [List.flatMap_cons,List.getElem?_append_right (by rw [Hl,Nat.add_mul];omega),Hl,show (k+1)*w+i-w=k*w+i by rw [Nat.add_mul];omega]
  simpa using this
theorem tG {l:List Int} {w:Nat} {s:ByteArray} (hs:Ax s=CQ l w) {p:Nat} (hp:p<l.length*w):sb s p=(FR l w).getD p false:=by
 unfold sb
 have hj:p / 8<(l.length*w+7) / 8:=by omega
 have hsz:s.size=(l.length*w+7) / 8:=by rw [← Bz,hs,EF]
 have h1:=Fq s (p / 8) (by omega)
 rw [hs] at h1
 unfold CQ at h1
 rw [Mu _ _ _ hj] at h1
 rw [← Option.some.inj h1,aA,List.getD_eq_getElem?_getD,List.getD_eq_getElem?_getD,List.getElem?_take,if_pos (by omega),List.getElem?_drop]
 congr 2
 omega
theorem wrap_small {x:Int} (h:BZ x) {w:Nat} (hw:w≤64) (hx:x % 18446744073709551616<2 ^ w):IntKind.wrap .i64 (x % 2 ^ w)=x:=by
 have h1:x % 2 ^ w=x % 18446744073709551616:=by
  have hd:=Int.emod_emod_of_dvd x (Qe hw)
  rw [← LP] at hd
  rw [← hd]
  exact Int.emod_eq_of_lt (by omega) hx
 rw [h1,JG,GY h]
theorem UH {l:List Int} {w:Nat} (hw:w≤64) {s:ByteArray} (hs:Ax s=CQ l w) (h64:∀ x∈l,BZ x) (hv:∀ x∈l,x % 18446744073709551616<2 ^ w) {k:Nat} (hk:k<l.length):JY s k w=l[k]:=by
 unfold JY
 have hmem:l[k]∈l:=List.getElem_mem hk
 have:(List.range w).map (fun i=>sb s (k*w+i))=wb l[k] w:=by
  unfold wb
  apply List.map_congr_left
  intro i hi
  have hi:=List.mem_range.1 hi
  have hle:(k+1)*w≤l.length*w:=Nat.mul_le_mul_right _ hk
  rw [Nat.add_mul] at hle
  rw [tG hs (by omega),List.getD_eq_getElem?_getD,dZ l k i hk hi]
  rfl
 rw [this,QQ,wrap_small (h64 _ hmem) hw (hv _ hmem)]
theorem Nj {l:List Int} {w:Nat} (hw:w≤64) (hl:l.length≤65536) (h64:∀ x∈l,BZ x) (hv:∀ x∈l,x % 18446744073709551616<2 ^ w) {s:ByteArray} (hs:Ax s=CQ l w):
  BC s (l.length:Int) (w:Int)=some (l,0):=by
 have hsz:s.size=(l.length*w+7) / 8:=by rw [← Bz,hs,EF]
 have hlast:l.length*w % 8=0∨byteAt s ((s.size-1:Nat):Int)<2 ^ (l.length*w % 8):=by
  rcases Nat.eq_zero_or_pos (l.length*w % 8) with h | h
  ·exact .inl h
  ·right
   have h1:=Fq s (s.size-1) (by omega)
   rw [hs] at h1
   unfold CQ at h1
   rw [Mu _ _ _ (by omega)] at h1
   rw [← Option.some.inj h1]
   have hb:=EP (((FR l w).drop (8*(s.size-1))).take 8)
   have hlen:(((FR l w).drop (8*(s.size-1))).take 8).length=l.length*w % 8:=by
    rw [List.length_take,List.length_drop,KY]
    omega
   rw [hlen] at hb
   exact hb.2
 rw [dR s hw hl,if_pos hsz,if_pos hlast]
 congr 2
 apply List.ext_getElem
 ·simp
 ·intro i h1 h2
  rw [List.getElem_map,List.getElem_range]
  exact UH hw hs h64 hv h2
end Go.AM.Pure
end

section
/- nulls: a mask and the other cells; put together again. -/
namespace Go.AM.Pure
open Go.AM
abbrev isN (c:Cell):Bool:=GJ c
def BD (l:List Cell):List Cell:=l.filter fun c=>!isN c
def DS (l:List Cell):List Int:=l.map fun c=>if isN c then 1 else 0
def DX (l:List Cell):List Int:=if l.any isN then CQ (DS l) 1 else []
theorem Ip {α:Type} {c:Bool} {m:Option α} {k:α→Bool} {x:α} (hc:c=true) (hm:m=some x) (hk:k x=true):LD c m k=some x:=by
 unfold LD
 rw [hc,hm]
 show (bif k x then some x else none)=_
 rw [hk]
 rfl
theorem dY {α:Type} {l:List α} {i:Nat} (h:i<l.length) (z:α):List.getD l ((i:Int)).toNat z=l[i]:=by
 rw [show ((i:Int)).toNat=i from rfl,List.getD_eq_getElem?_getD,List.getElem?_eq_getElem h]
 rfl
theorem Zh4 (l:List Cell) (hl:l.length<4611686018427387904) (h0:0<l.length):∀ (d i n:Nat),d=l.length-i→i≤l.length→d<n→(∀ j (h:j<l.length),j<i→isN l[j]=false)→
  ∃ r,Al.l0 n (l.length:Int) (i:Int) l=some (r,l)∧
   ((r = -1∧∀ j (h:j<l.length),isN l[j]=false)∨∃ k:Nat,r=(k:Int)∧∃ h:k<l.length,isN l[k]=true∧∀ j (h:j<l.length),j<k→isN l[j]=false):=by
 intro d
 induction d with
 | zero=>
  intro i n hd hi hn ha
  have:i=l.length:=by omega
  subst this
  obtain ⟨n,rfl⟩:∃ k,n=k+1:=⟨n-1,by omega⟩
  refine ⟨-1,?_, .inl ⟨rfl,fun j h=>ha j h h⟩⟩
  show Al.S0 _ _ _ _=_
  unfold Al.S0
  rw [AJ (by omega),cond_false,decide_eq_true h0,cond_true]
 | succ d ih=>
  intro i n hd hi hn ha
  obtain ⟨n,rfl⟩:∃ k,n=k+1:=⟨n-1,by omega⟩
  have hlt:i<l.length:=by omega
  have hS:Al.l0 (n+1) (l.length:Int) (i:Int) l=(bif isN l[i] then some ((i:Int),l) else Al.l0 n (l.length:Int) ((i+1:Nat):Int) l):=by
   show Al.S0 _ _ _ _=_
   unfold Al.S0
   rw [Bj (by omega),cond_true,AA (by rw [Aq];omega),cond_true,dY hlt,decide_eq_true h0,cond_true,AE (by omega)]
   rfl
  rw [hS]
  cases hq:isN l[i] with
  | true=>exact ⟨(i:Int),rfl, .inr ⟨i,rfl,hlt,hq,ha⟩⟩
  | false=>
   obtain ⟨r,h1,h2⟩:=ih (i+1) n (by omega) (by omega) (by omega) fun j h hj=>by
    by_cases hji:j=i
    ·subst hji;exact hq
    ·exact ha j h (by omega)
   exact ⟨r,h1,h2⟩
theorem QS (l:List Cell) (c:Cell):BD (l++[c])=BD l++(if isN c then [] else [c]):=by
 unfold BD
 rw [List.filter_append]
 cases h:isN c <;> simp [h]
theorem Gk (l:List Cell):(BD l).length≤l.length:=List.length_filter_le _ _
theorem take_one {α:Type} {l:List α} {i:Nat} (h:i<l.length):l.take (i+1)=l.take i++[l[i]]:=by
 rw [List.take_add_one,List.getElem?_eq_getElem h]
 rfl
theorem Zge (L:List Cell) (hL:L.length<4611686018427387904) (h0:0<L.length):∀ (d j n:Nat) (t:List Cell),d=L.length-j→j≤L.length→d<n→t.length=L.length→t.take (BD (L.take j)).length=BD (L.take j)→t.drop j=L.drop j→
  ∃ t',Ae.l0 (Ae.t1 fu) n ((BD (L.take j)).length:Int) (j:Int) t=some (((BD L).length:Int),t')∧t'.length=L.length∧t'.take (BD L).length=BD L:=by
 intro d
 induction d with
 | zero=>
  intro j n t hd hj hn ht h1 h2
  have:j=L.length:=by omega
  subst this
  obtain ⟨n,rfl⟩:∃ k,n=k+1:=⟨n-1,by omega⟩
  rw [List.take_length] at h1 ⊢
  have hle:=Gk L
  have hrep:((Int.toNat (Ai t))-(Int.toNat ((BD L).length:Int)))=L.length-(BD L).length:=by rw [Aq,ht];rfl
  refine ⟨GA t (BD L).length (List.replicate (L.length-(BD L).length) ((0:Int),((0:Int),eB))),?_,?_,?_⟩
  ·show Ae.S0 Ae.S1 _ _ _ _=_
   unfold Ae.S0
   rw [AJ (by rw [Aq];omega),cond_false]
   unfold Ae.S1
   rw [hrep,show Int.toNat ((BD L).length:Int)=(BD L).length from rfl,DO (by rw [Aq];omega),cond_true]
   have hlen:(GA t (BD L).length (List.replicate (L.length-(BD L).length) ((0:Int),((0:Int),eB)))).length=L.length:=by
    unfold GA
    simp
    omega
   rw [DO (by rw [Aq,hlen];omega),cond_true,hlen,decide_eq_true h0,cond_true,Nat.sub_zero]
  ·unfold GA;simp;omega
  ·unfold GA
   rw [List.take_append_of_le_length (by rw [List.length_take];omega),List.take_take,Nat.min_self,h1]
 | succ d ih=>
  intro j n t hd hj hn ht h1 h2
  obtain ⟨n,rfl⟩:∃ k,n=k+1:=⟨n-1,by omega⟩
  have hlt:j<L.length:=by omega
  have hle:=Gk (L.take j)
  rw [List.length_take] at hle
  have htj:t[j]'(by omega)=L[j]:=by
   have:(t.drop j)[0]? = (L.drop j)[0]?:=by rw [h2]
   rw [List.getElem?_drop,List.getElem?_drop,Nat.add_zero,List.getElem?_eq_getElem (show j<t.length by omega),List.getElem?_eq_getElem hlt] at this
   exact Option.some.inj this
  show ∃ t',Ae.S0 _ _ _ _ _=_∧_
  unfold Ae.S0
  rw [Bj (by rw [Aq];omega),cond_true,AA (by rw [Aq];omega),cond_true,dY (show j<t.length by omega),htj]
  have hsn:=QS (L.take j) L[j]
  rw [← take_one hlt] at hsn
  cases hq:isN L[j] with
  | true=>
   rw [show Jb L[j]=true from hq,Bool.not_true,cond_false,AE (by omega)]
   rw [hq,if_pos rfl,List.append_nil] at hsn
   have:=ih (j+1) n t (by omega) (by omega) (by omega) ht (by rw [hsn];exact h1) (by rw [← List.drop_drop,← List.drop_drop,h2])
   rw [hsn] at this
   exact this
  | false=>
   rw [show Jb L[j]=false from hq,Bool.not_false,cond_true,AA (by rw [Aq];omega),cond_true,AE (by omega),AE (by omega),show Int.toNat ((BD (L.take j)).length:Int)=(BD (L.take j)).length from rfl]
   rw [hq,if_neg (by decide)] at hsn
   have:=ih (j+1) n (t.set (BD (L.take j)).length L[j]) (by omega) (by omega) (by omega) (by rw [List.length_set];exact ht) (by
    rw [hsn,List.length_append,List.length_singleton,take_one (by rw [List.length_set];omega),List.take_set_of_le (Nat.le_refl _),h1,List.getElem_set_self])
    (by rw [List.drop_set_of_lt (by omega),← List.drop_drop,← List.drop_drop,h2])
   rw [hsn,List.length_append,List.length_singleton] at this
   exact this
theorem del_eq (L:List Cell) (hL:L.length<4611686018427387904) (h0:0<L.length):
  ∃ t',Ae L=some (((BD L).length:Int),t')∧t'.length=L.length∧t'.take (BD L).length=BD L:=by
 show ∃ t',Ae.S (Ae.l0 (Ae.t1 fu) fu) L=_∧_
 unfold Ae.S
 obtain ⟨r,h1,h2⟩:=Zh4 L hL h0 L.length 0 fu (by omega) (by omega) (by unfold fu;omega) fun j h hj=>by omega
 have h1':Al L=some (r,L):=h1
 rw [Ip (x:=(r,L)) (by rw [decide_eq_true h0];rfl) h1' (by simp),Option.bind_some]
 dsimp only
 have hall:∀ k,(∀ j (h:j<L.length),j<k→isN L[j]=false)→BD (L.take k)=L.take k:=fun k hk=>by
  unfold BD
  rw [List.filter_eq_self]
  intro c hc
  obtain ⟨i,hi,rfl⟩:=List.mem_iff_getElem.1 hc
  rw [List.length_take] at hi
  rw [List.getElem_take,hk i (by omega) (by omega)]
  rfl
 rcases h2 with ⟨rfl,h2⟩ | ⟨k,rfl,hk,hq,h2⟩
 ·have:BD L=L:=by
   have:=hall L.length fun j h _=>h2 j h
   rwa [List.take_length] at this
  rw [CT rfl,cond_true,decide_eq_true h0,cond_true]
  exact ⟨L,by rw [this,Aq],rfl,by rw [this,List.take_length]⟩
 ·rw [CE (by omega),cond_false,AE (by omega)]
  have hrk:=hall k h2
  have hsn:=QS (L.take k) L[k]
  rw [← take_one hk,hq,if_pos rfl,List.append_nil,hrk] at hsn
  have:=Zge L hL h0 (L.length-(k+1)) (k+1) fu L rfl (by omega) (by unfold fu;omega) rfl (by rw [hsn,List.length_take,Nat.min_eq_left (Nat.le_of_lt hk)]) rfl
  rw [hsn,List.length_take,Nat.min_eq_left (Nat.le_of_lt hk)] at this
  exact this
theorem Ea (l:List Cell):(DS l).length=l.length:=by unfold DS;simp
theorem ay {l:List Cell} {i:Nat} (h:i<l.length):(DS l)[i]'(by rw [Ea];exact h)=if isN l[i] then 1 else 0:=by unfold DS;simp
theorem Ni {l:List Cell}:∀ x∈DS l,x=0∨x=1:=fun x hx=>by
 unfold DS at hx
 obtain ⟨c,_,rfl⟩:=List.mem_map.1 hx
 cases isN c
 ·exact .inl rfl
 ·exact .inr rfl
theorem tF (l:List Cell) (hl:l.length≤65536):AY (DS l) 1=some (ofBytes (CQ (DS l) 1),0):=by
 obtain ⟨v,h1,h2,h3,h4⟩:=KS (DS l) (by rw [Ea];omega)
 refine Kv (DS l) (w:=1) (by omega) (by rw [Ea];exact hl) h1 ?_
 rcases h4 with h4 | ⟨x,hx,h4⟩
 ·omega
 ·have h5:(2:Int) ^ (v-1)<2 ^ 1:=by
   rcases Ni x hx with rfl | rfl
   ·omega
   ·have e:(1:Int) % 18446744073709551616=1:=rfl
    rw [e] at h4
    omega
  have:=NZ h5
  omega
theorem pT (l:List Cell) (hl:l.length≤65536) (lo n0:Nat) (t11:List Cell):∀ (d i n:Nat),d=l.length-i→i≤l.length→d<n→
  Bq.l0 (Bq.t1 fu) n lo n0 l (l.length:Int) (i:Int) t11 ((DS l).take i++List.replicate (l.length-i) (0:Int))=some (ofBytes (CQ (DS l) 1),List.take n0 (List.drop lo t11)):=by
 intro d
 induction d with
 | zero=>
  intro i n hd hi hn
  have:i=l.length:=by omega
  subst this
  obtain ⟨n,rfl⟩:∃ k,n=k+1:=⟨n-1,by omega⟩
  show Bq.S0 Bq.S1 _ _ _ _ _ _ _ _=_
  unfold Bq.S0
  rw [AJ (by omega),cond_false]
  unfold Bq.S1
  rw [Nat.sub_self,List.replicate_zero,List.append_nil,List.take_of_length_le (by rw [Ea];exact Nat.le_refl _),tF l hl,Option.bind_some]
 | succ d ih=>
  intro i n hd hi hn
  obtain ⟨n,rfl⟩:∃ k,n=k+1:=⟨n-1,by omega⟩
  have hlt:i<l.length:=by omega
  show Bq.S0 _ (Bq.l0 (Bq.t1 fu) n) _ _ _ _ _ _ _=_
  unfold Bq.S0
  rw [Bj (by omega),cond_true,AA (by rw [Aq];omega),cond_true,AQ hlt]
  have hnext:∀ b:Int,(DS l)[i]'(by rw [Ea];exact hlt)=b→(DS l).take i++b :: List.replicate (l.length-(i+1)) (0:Int)=(DS l).take (i+1)++List.replicate (l.length-(i+1)) (0:Int):=fun b hb=>by
   rw [take_one (by rw [Ea];exact hlt),hb,List.append_assoc]
   rfl
  have hrep:List.replicate (l.length-i) (0:Int)=0 :: List.replicate (l.length-(i+1)) (0:Int):=by rw [show l.length-i=(l.length-(i+1))+1 by omega,List.replicate_succ]
  have:=ih (i+1) n (by omega) (by omega) (by omega)
  have hg:=ay hlt
  cases hq:isN l[i] with
  | true=>
   rw [hq,if_pos rfl] at hg
   rw [show GJ l[i]=true from hq,cond_true,AA (by rw [Aq,List.length_append,List.length_take,Ea,List.length_replicate];omega),cond_true,AE (by omega),hrep,show ((i:Int)).toNat=i from rfl,List.set_append_right _ _ (by rw [List.length_take];omega),
    List.length_take,Ea,Nat.min_eq_left (Nat.le_of_lt hlt),Nat.sub_self,List.set_cons_zero,hnext 1 hg]
   exact this
  | false=>
   rw [hq,if_neg (by decide)] at hg
   rw [show GJ l[i]=false from hq,cond_false,AE (by omega),hrep,hnext 0 hg]
   exact this
theorem az {l:List Cell} (h:(BD l).length=l.length):BD l=l∧l.any isN=false:=by
 have h1:∀ c∈l,(!isN c)=true:=List.length_filter_eq_length_iff.1 h
 refine ⟨List.filter_eq_self.2 h1,List.any_eq_false.2 fun c hc=>?_⟩
 have:=h1 c hc
 simpa using this
theorem Qg (l:List Cell) (hl:l.length≤65536) (h0:0<l.length):Bq l=some (ofBytes (DX l),BD l):=by
 show Bq.S (Bq.l0 (Bq.t1 fu) fu) l=_
 unfold Bq.S
 have hc:Hh 32 l=some l:=by
  unfold Hh
  rw [decide_eq_true h0,Bg (by omega)]
  rfl
 obtain ⟨t',h1,h2,h3⟩:=del_eq l (by omega) h0
 rw [hc,Option.bind_some,Ip (x:=(((BD l).length:Int),t')) (by rw [decide_eq_true h0];rfl) h1 (by simp [h2]),Option.bind_some]
 dsimp only
 rw [show Int.toNat ((BD l).length:Int)=(BD l).length from rfl,List.drop_zero,Aq]
 have hle:=Gk l
 by_cases heq:(BD l).length=l.length
 ·obtain ⟨h4,h5⟩:=az heq
  rw [CT (by omega),cond_true,h3]
  unfold DX
  rw [h5]
  rfl
 ·have hany:l.any isN=true:=by
   cases hq:l.any isN with
   | true=>rfl
   | false=>
    have:BD l=l:=List.filter_eq_self.2 fun c hc=>by
     have:=List.any_eq_false.1 hq c hc
     simpa using this
    rw [this] at heq
    exact absurd rfl heq
  rw [CE (by omega),cond_false,DL (by omega),Bg (by show l.length*8≤_;omega)]
  have:=pT l hl 0 (BD l).length t' l.length 0 fu (by omega) (by omega) (by unfold fu;omega)
  rw [Nat.sub_zero,List.drop_zero,h3] at this
  unfold DX
  rw [hany,if_pos rfl]
  exact this
end Go.AM.Pure
end

section
/- nulls: Count and Join of what Split gave. -/
namespace Go.AM.Pure
open Go.AM
theorem tS (l:List Int) (hl:l.length<4611686018427387904) (v:Int):∀ (d i n:Nat),d=l.length-i→i≤l.length→d<n→(∀ j (h:j<l.length),j<i→l[j]≠v)→
  ∃ r,Bl.l0 n l v (l.length:Int) (i:Int)=some r∧leI 0 r=l.any (fun x=>decide (x=v)):=by
 intro d
 induction d with
 | zero=>
  intro i n hd hi hn ha
  have:i=l.length:=by omega
  subst this
  obtain ⟨n,rfl⟩:∃ k,n=k+1:=⟨n-1,by omega⟩
  refine ⟨-1,?_,?_⟩
  ·show Bl.S0 _ _ _ _ _=_
   unfold Bl.S0
   rw [AJ (by omega),cond_false]
  ·rw [show leI 0 (-1)=false from rfl]
   symm
   rw [List.any_eq_false]
   intro x hx
   obtain ⟨j,hj,rfl⟩:=List.mem_iff_getElem.1 hx
   simpa using ha j hj hj
 | succ d ih=>
  intro i n hd hi hn ha
  obtain ⟨n,rfl⟩:∃ k,n=k+1:=⟨n-1,by omega⟩
  have hlt:i<l.length:=by omega
  show ∃ r,Bl.S0 (Bl.l0 n) _ _ _ _=_∧_
  unfold Bl.S0
  rw [Bj (by omega),cond_true,AA (by rw [Aq];omega),cond_true,AQ hlt]
  by_cases hq:v=l[i]
  ·rw [CT hq,cond_true]
   refine ⟨_,rfl,?_⟩
   rw [DL (by omega)]
   symm
   rw [List.any_eq_true]
   exact ⟨l[i],List.getElem_mem hlt,by simp [hq]⟩
  ·rw [CE hq,cond_false,AE (by omega)]
   exact ih (i+1) n (by omega) (by omega) (by omega) fun j h hj=>by
    by_cases hji:j=i
    ·subst hji;exact fun h=>hq h.symm
    ·exact ha j h (by omega)
theorem en (l:List Int) (hl:l.length<4611686018427387904) (v:Int):Gf l v=some (l.any fun x=>decide (x=v)):=by
 unfold Gf
 obtain ⟨r,h1,h2⟩:=tS l hl v l.length 0 fu (by omega) (by omega) (by unfold fu;omega) fun j h hj=>by omega
 have:Bl l v=some r:=h1
 rw [this,Option.bind_some,h2]
theorem qd (l:List Cell) (hl:l.length<4611686018427387904):∀ (d i n:Nat),d=l.length-i→i≤l.length→d<n→(∀ j (h:j<l.length),j<i→isN l[j]=false)→
  ∃ r,Av.l0 n l (l.length:Int) (i:Int)=some r∧leI 0 r=l.any isN:=by
 intro d
 induction d with
 | zero=>
  intro i n hd hi hn ha
  have:i=l.length:=by omega
  subst this
  obtain ⟨n,rfl⟩:∃ k,n=k+1:=⟨n-1,by omega⟩
  refine ⟨-1,?_,?_⟩
  ·show Av.S0 _ _ _ _=_
   unfold Av.S0
   rw [AJ (by omega),cond_false]
  ·rw [show leI 0 (-1)=false from rfl]
   symm
   rw [List.any_eq_false]
   intro x hx
   obtain ⟨j,hj,rfl⟩:=List.mem_iff_getElem.1 hx
   rw [ha j hj hj]
   decide
 | succ d ih=>
  intro i n hd hi hn ha
  obtain ⟨n,rfl⟩:∃ k,n=k+1:=⟨n-1,by omega⟩
  have hlt:i<l.length:=by omega
  show ∃ r,Av.S0 (Av.l0 n) _ _ _=_∧_
  unfold Av.S0
  rw [Bj (by omega),cond_true,AA (by rw [Aq];omega),cond_true,AQ hlt]
  cases hq:isN l[i] with
  | true=>
   rw [show GJ l[i]=true from hq,cond_true]
   refine ⟨_,rfl,?_⟩
   rw [DL (by omega)]
   symm
   rw [List.any_eq_true]
   exact ⟨l[i],List.getElem_mem hlt,hq⟩
  | false=>
   rw [show GJ l[i]=false from hq,cond_false,AE (by omega)]
   exact ih (i+1) n (by omega) (by omega) (by omega) fun j h hj=>by
    by_cases hji:j=i
    ·subst hji;exact hq
    ·exact ha j h (by omega)
theorem bZ (l:List Cell) (hl:l.length<4611686018427387904):Dp l=some (l.any isN):=by
 unfold Dp
 obtain ⟨r,h1,h2⟩:=qd l hl l.length 0 fu (by omega) (by omega) (by unfold fu;omega) fun j h hj=>by omega
 have:Av l=some r:=h1
 rw [this,Option.bind_some,h2]
theorem tT (l:List Cell):(DS l).any (fun x=>decide (x=1))=l.any isN:=by
 unfold DS
 rw [List.any_map]
 congr 1
 funext c
 show decide ((if isN c=true then (1:Int) else 0)=1)=isN c
 cases isN c <;> rfl
theorem qe {l:List Cell} (h:l.any isN=false):DS l=List.replicate l.length (0:Int):=by
 rw [List.eq_replicate_iff]
 refine ⟨Ea l,fun x hx=>?_⟩
 unfold DS at hx
 obtain ⟨c,hc,rfl⟩:=List.mem_map.1 hx
 have:=List.any_eq_false.1 h c hc
 rw [if_neg this]
theorem RQ (l:List Cell) (hl:l.length≤65536) (h0:0<l.length) {s:ByteArray} (hs:Ax s=DX l):Lx s (l.length:Int)=some (DS l,0):=by
 unfold Lx
 rw [AJ (by omega),cond_false,AJ (by omega),cond_false]
 unfold DX at hs
 cases hany:l.any isN with
 | false=>
  rw [hany,if_neg (by decide)] at hs
  have:s=eB:=KT.2 (by rw [← Bz,hs];rfl)
  rw [JZ this,cond_true,DL (by omega),Bg (by show l.length*8≤_;omega)]
  show some (List.replicate l.length (0:Int),(0:Int))=_
  rw [qe hany]
 | true=>
  rw [hany,if_pos rfl] at hs
  have hne:s≠eB:=fun h=>by
   have:=KT.1 h
   rw [← Bz,hs,EF,Ea] at this
   omega
  rw [Ob hne,cond_false]
  have:=Nj (l:=DS l) (w:=1) (by omega) (by rw [Ea];exact hl) (fun x hx=>by
   unfold BZ
   rcases Ni x hx with rfl | rfl <;> omega) (fun x hx=>by
   rcases Ni x hx with rfl | rfl <;> decide) hs
  rw [Ea] at this
  rw [show (1:Int)=((1:Nat):Int) from rfl,this,Option.bind_some]
  dsimp only
  rw [Db rfl,cond_false,en _ (by rw [Ea];omega),Option.bind_some]
  rw [show ((1:Nat):Int)=1 from rfl,tT,hany]
  rfl
theorem Zmg1 (l:List Cell):(DS l).foldr (· + ·) 0=((l.length-(BD l).length:Nat):Int):=by
 induction l with
 | nil=>rfl
 | cons c l ih=>
  have hle:=Gk l
  have e1:DS (c :: l)=(if isN c then 1 else 0) :: DS l:=rfl
  have e2:BD (c :: l)=if isN c then BD l else c :: BD l:=by
   unfold BD
   cases h:isN c <;> simp [h]
  rw [e1,e2,List.foldr_cons,ih]
  cases isN c
  ·rw [if_neg (by decide),if_neg (by decide),List.length_cons,List.length_cons];omega
  ·rw [if_pos rfl,if_pos rfl,List.length_cons];omega
theorem qf (b:List Int) (hb:b.length≤65536) (hm:∀ x∈b,x=0∨x=1) (e:Int):∀ (d i n:Nat) (k:Int),d=b.length-i→i≤b.length→d<n→0≤k→k≤i→
  Ck.l0 n e k b (b.length:Int) (i:Int)=some (k+(b.drop i).foldr (· + ·) 0,e):=by
 intro d
 induction d with
 | zero=>
  intro i n k hd hi hn h1 h2
  have:i=b.length:=by omega
  subst this
  obtain ⟨n,rfl⟩:∃ k,n=k+1:=⟨n-1,by omega⟩
  show Ck.S0 _ _ _ _ _ _=_
  unfold Ck.S0
  rw [AJ (by omega),cond_false,List.drop_length]
  simp
 | succ d ih=>
  intro i n k hd hi hn h1 h2
  obtain ⟨n,rfl⟩:∃ k,n=k+1:=⟨n-1,by omega⟩
  have hlt:i<b.length:=by omega
  show Ck.S0 (Ck.l0 n) _ _ _ _ _=_
  unfold Ck.S0
  have hx:=hm b[i] (List.getElem_mem hlt)
  rw [Bj (by omega),cond_true,AA (by rw [Aq];omega),cond_true,AQ hlt,AE (by omega),AE (by omega)]
  have:=ih (i+1) n (k+b[i]) (by omega) (by omega) (by omega) (by omega) (by omega)
  rw [show (i:Int)+1=((i+1:Nat):Int) by omega,this,List.drop_eq_getElem_cons hlt,List.foldr_cons,Int.add_assoc]
theorem Qk (l:List Cell) (hl:l.length≤65536) (h0:0<l.length) {s:ByteArray} (hs:Ax s=DX l):Ck s (l.length:Int)=some (((l.length-(BD l).length:Nat):Int),0):=by
 show Ck.S (Ck.l0 fu) s _=_
 unfold Ck.S
 rw [RQ l hl h0 hs,Option.bind_some]
 dsimp only
 have:=qf (DS l) (by rw [Ea];exact hl) Ni 0 (DS l).length 0 fu 0 (by omega) (by omega) (by unfold fu;rw [Ea];omega) (by omega) (by omega)
 rw [List.drop_zero,Zmg1,Int.zero_add] at this
 exact this
theorem tU (l:List Cell) (hl:l.length≤65536) (hz:∀ c∈l,isN c=true→c=(0,0,eB)):∀ (d i n:Nat),d=l.length-i→i≤l.length→d<n→
  CF.l0 n (BD (l.drop i)) (DS l) (l.length:Int) (i:Int) (l.take i++List.replicate (l.length-i) ((0:Int),((0:Int),eB)))=some (l,0):=by
 intro d
 induction d with
 | zero=>
  intro i n hd hi hn
  have:i=l.length:=by omega
  subst this
  obtain ⟨n,rfl⟩:∃ k,n=k+1:=⟨n-1,by omega⟩
  show CF.S0 _ _ _ _ _ _=_
  unfold CF.S0
  rw [AJ (by omega),cond_false,Nat.sub_self,List.replicate_zero,List.append_nil,List.take_length]
 | succ d ih=>
  intro i n hd hi hn
  obtain ⟨n,rfl⟩:∃ k,n=k+1:=⟨n-1,by omega⟩
  have hlt:i<l.length:=by omega
  show CF.S0 (CF.l0 n) _ _ _ _ _=_
  unfold CF.S0
  have hnl:i<(DS l).length:=by rw [Ea];exact hlt
  rw [Bj (by omega),cond_true,AA (by rw [Aq,Ea];omega),cond_true,AQ hnl,ay hlt]
  have hrep:List.replicate (l.length-i) ((0:Int),((0:Int),eB))=(0,0,eB) :: List.replicate (l.length-(i+1)) ((0:Int),((0:Int),eB)):=by rw [show l.length-i=(l.length-(i+1))+1 by omega,List.replicate_succ]
  have hnext:l.take i++l[i] :: List.replicate (l.length-(i+1)) ((0:Int),((0:Int),eB))=l.take (i+1)++List.replicate (l.length-(i+1)) ((0:Int),((0:Int),eB)):=by
   rw [take_one hlt,List.append_assoc]
   rfl
  have hdrop:l.drop i=l[i] :: l.drop (i+1):=List.drop_eq_getElem_cons hlt
  have:=ih (i+1) n (by omega) (by omega) (by omega)
  cases hq:isN l[i] with
  | true=>
   have h1:BD (l.drop i)=BD (l.drop (i+1)):=by
    rw [hdrop]
    unfold BD
    rw [List.filter_cons_of_neg (by rw [hq];decide)]
   rw [hz l[i] (List.getElem_mem hlt) hq] at hnext
   rw [if_pos rfl,CE (by decide),cond_false,AE (by omega),h1,hrep,hnext]
   exact this
  | false=>
   have h1:BD (l.drop i)=l[i] :: BD (l.drop (i+1)):=by
    rw [hdrop]
    unfold BD
    rw [List.filter_cons_of_pos (by rw [hq];rfl)]
   have hle:=Gk (l.drop (i+1))
   rw [List.length_drop] at hle
   rw [if_neg (by decide),CT rfl,cond_true,h1,AA (by rw [Aq,List.length_cons];omega),cond_true,DO (by rw [Aq,List.length_cons];omega),cond_true,AA (by rw [Aq,List.length_append,List.length_take,List.length_replicate];omega),cond_true,AE (by omega),hrep,
    show ((i:Int)).toNat=i from rfl,List.set_append_right _ _ (by rw [List.length_take];omega),List.length_take,Nat.min_eq_left (Nat.le_of_lt hlt),Nat.sub_self,List.set_cons_zero]
   rw [show nth (l[i] :: BD (l.drop (i+1))) 0 (0,0,eB)=l[i] from rfl,hnext]
   exact this
theorem qg (l:List Cell):(BD l).any isN=false:=by
 rw [List.any_eq_false]
 intro c hc
 unfold BD at hc
 have:=(List.mem_filter.1 hc).2
 simpa using this
theorem ca (l:List Cell) (hl:l.length≤65536) (h0:0<l.length) (hz:∀ c∈l,isN c=true→c=(0,0,eB)) {s:ByteArray} (hs:Ax s=DX l):CF s (l.length:Int) (BD l)=some (l,0):=by
 show CF.S (CF.l0 fu) s _ _=_
 unfold CF.S
 have hle:=Gk l
 rw [RQ l hl h0 hs,Option.bind_some]
 dsimp only
 rw [Db rfl,cond_false,Qk l hl h0 hs,Option.bind_some]
 dsimp only
 rw [Dk (by omega),Db (by rw [Aq];omega),cond_false,bZ _ (by omega),Option.bind_some,qg,cond_false,DL (by omega),Bg (by show l.length*32≤_;omega)]
 have:=tU l hl hz l.length 0 fu (by omega) (by omega) (by unfold fu;omega)
 rw [List.drop_zero,Nat.sub_zero,List.take_zero,List.nil_append] at this
 have e:Ai (List.replicate (Int.toNat (l.length:Int)) ((0:Int),((0:Int),eB)))=(l.length:Int):=by rw [Aq,List.length_replicate];rfl
 rw [e]
 exact this
end Go.AM.Pure
end

section
/- check: what is sealed is opened. -/
namespace Go.AM.Pure
open Go.AM
def Qi (n:Int):Int:=FM .u32 (BG .u32 n 1) (BF .u32 2197175160 (AT .u32 0 (BF .u32 n 1)))
def eh:Nat→Int→Int
 | 0,n=>n
 | k+1,n=>eh k (Qi n)
def Qj (n b:Int):Int:=eh 8 (FM .u32 n (IntKind.wrap .u32 b))
def Hq (sum:Int) (l:List Int):Int:=IntKind.wrap .i64 (FM .u32 4294967295 (l.foldl Qj (FM .u32 4294967295 (IntKind.wrap .u32 sum))))
theorem WA {o0:ByteArray→Int→Int→Int→Option Int} {s:ByteArray} {len i:Int}:∀ (d k m:Nat) (n:Int),k+d=8→d<m→
  Bo.l1 o0 m s n len i (k:Int)=o0 s (eh d n) len (An .i64 i 1)
 | 0,k,m,n,h,hm=>by
  obtain ⟨m,rfl⟩:∃ j,m=j+1:=⟨m-1,by omega⟩
  show Bo.S1 _ _ _ _ _ _ _=_
  unfold Bo.S1
  rw [AJ (by omega)]
  rfl
 | d+1,k,m,n,h,hm=>by
  obtain ⟨m,rfl⟩:∃ j,m=j+1:=⟨m-1,by omega⟩
  show Bo.S1 o0 (Bo.l1 o0 m) _ _ _ _ _=_
  unfold Bo.S1
  rw [Bj (by omega),cond_true,AE (by omega)]
  exact WA d (k+1) m (Qi n) (by omega) (by omega)
theorem qb (s:ByteArray) (hs:s.size<4611686018427387904):∀ (d i m:Nat) (n:Int),d=s.size-i→i≤s.size→20<m→
  Bo.l0 (m+d) s n (s.size:Int) (i:Int)=some (IntKind.wrap .i64 (FM .u32 4294967295 (((Ax s).drop i).foldl Qj n))):=by
 intro d
 induction d with
 | zero=>
  intro i m n hd hi hm
  have:i=s.size:=by omega
  subst this
  obtain ⟨m,rfl⟩:∃ j,m=j+1:=⟨m-1,by omega⟩
  show Bo.S0 _ _ _ _ _=_
  unfold Bo.S0
  rw [AJ (by omega),cond_false,List.drop_eq_nil_of_le (by rw [Bz];exact Nat.le_refl _)]
  rfl
 | succ d ih=>
  intro i m n hd hi hm
  have hlt:i<s.size:=by omega
  show Bo.S0 (Bo.l1 (Bo.l0 (m+d)) (m+d)) s n (s.size:Int) (i:Int)=_
  unfold Bo.S0
  rw [Bj (by omega),cond_true,AA (by rw [CB];omega),cond_true]
  have h1:=WA (o0:=Bo.l0 (m+d)) (s:=s) (len:=(s.size:Int)) (i:=(i:Int)) 8 0 (m+d) (FM .u32 n (IntKind.wrap .u32 (byteAt s (i:Int)))) rfl (by omega)
  rw [show ((0:Nat):Int)=0 from rfl] at h1
  rw [h1,AE (by omega)]
  have hg:=Fq s i hlt
  have hdr:(Ax s).drop i=byteAt s (i:Int) :: (Ax s).drop (i+1):=by
   rw [List.drop_eq_getElem_cons (by rw [Bz];exact hlt)]
   congr 1
   rw [List.getElem?_eq_getElem (by rw [Bz];exact hlt)] at hg
   exact Option.some.inj hg
  rw [hdr,List.foldl_cons]
  exact ih (i+1) m _ (by omega) (by omega) hm
theorem bX (sum:Int) (s:ByteArray) (hs:s.size<4611686018427387904):Bo sum s=some (Hq sum (Ax s)):=by
 show Bo.S (Bo.l0 fu) sum s=_
 unfold Bo.S
 have:=qb s hs s.size 0 (fu-s.size) (FM .u32 4294967295 (IntKind.wrap .u32 sum)) (by omega) (by omega) (by unfold fu;omega)
 rw [show fu-s.size+s.size=fu by unfold fu;omega] at this
 exact this
theorem ek (s:ByteArray) (hs:s.size<4611686018427387904):Pg s=some (Hq 0 (Ax s)):=by
 unfold Pg
 rw [bX 0 s hs]
 rfl
def Vw (l:List Int):List Int:=[IntKind.wrap .u8 (BG .u32 (IntKind.wrap .u32 (Hq 0 l)) 0),IntKind.wrap .u8 (BG .u32 (IntKind.wrap .u32 (Hq 0 l)) 8),IntKind.wrap .u8 (BG .u32 (IntKind.wrap .u32 (Hq 0 l)) 16),IntKind.wrap .u8 (BG .u32 (IntKind.wrap .u32 (Hq 0 l)) 24)]
theorem Zme (l:List Int):∀ b∈Vw l,0≤b∧b<256:=fun b hb=>by
 unfold Vw at hb
 simp only [List.mem_cons,List.not_mem_nil,or_false] at hb
 rcases hb with rfl | rfl | rfl | rfl <;> (rw [GF];omega)
def GP (l:List Int):List Int:=l++Vw l
theorem tQ (l:List Int):(GP l).length=l.length+4:=by unfold GP;rw [List.length_append];rfl
theorem RP (s:ByteArray) (hs:s.size<100000000000):Cj s=some (ofBytes (GP (Ax s))):=by
 show Cj.S (Cj.l0 fu) s=_
 unfold Cj.S
 rw [ek s (by omega),Option.bind_some,CB,AE (by omega),DL (by omega),Bg (by omega)]
 show (bif Bw (0+s.size) 1 then Cj.l0 fu (IntKind.wrap .u32 (Hq 0 (Ax s))) (Ax s) 0 else none)=_
 rw [Bg (by omega),cond_true]
 have hst:∀ (m:Nat) (N:Int) (b:List Int) (k:Nat),k<4→b.length<100000000010→Cj.l0 (m+1) N b (k:Int)=Cj.l0 m N (b++[IntKind.wrap .u8 (BG .u32 N ((8*k:Nat):Int))]) ((k+1:Nat):Int):=by
  intro m N b k hk hb
  show Cj.S0 (Cj.l0 m) N b (k:Int)=_
  unfold Cj.S0
  have e:(8:Int)*(k:Int)=((8*k:Nat):Int):=by simp
  rw [Bj (by omega),cond_true,Kw (by omega),e,DL (by omega),cond_true,Bg (by omega),cond_true,AE (by omega)]
  rfl
 have hl:=Bz s
 have hfu:fu=18446744073709551611+1+1+1+1+1:=rfl
 rw [hfu,show (0:Int)=((0:Nat):Int) from rfl,hst _ _ _ 0 (by omega) (by omega),hst _ _ _ 1 (by omega) (by rw [List.length_append,List.length_singleton];omega),hst _ _ _ 2 (by omega) (by simp;omega),hst _ _ _ 3 (by omega) (by simp;omega)]
 show Cj.S0 _ _ _ _=_
 unfold Cj.S0
 rw [AJ (by omega),cond_false]
 unfold GP Vw
 simp
theorem tR {l:List Int} (h:∀ b∈l,0≤b∧b<256):∀ b∈GP l,0≤b∧b<256:=fun b hb=>by
 unfold GP at hb
 rcases List.mem_append.1 hb with hb | hb
 ·exact h b hb
 ·exact Zme l b hb
theorem bY {l:List Int} (h:∀ b∈l,0≤b∧b<256) (hl:l.length<10000000000):NU (ofBytes (GP l))=some (ofBytes l,0):=by
 unfold NU
 have hsz:(ofBytes (GP l)).size=l.length+4:=by rw [AD,tQ]
 have htb:=EC (tR h)
 have hcut:cutS (ofBytes (GP l)) 0 (((l.length:Nat):Int))=ofBytes l:=by
  rw [Si,htb]
  unfold GP
  rw [List.take_left]
 rw [CB,hsz,Dk (by omega),show ((l.length+4:Nat):Int)-4=(l.length:Int) by omega,AJ (by omega),cond_false,DO (by omega),cond_true,hcut,RP _ (by rw [AD];omega),Option.bind_some,EC h,JZ rfl]
 rfl
end Go.AM.Pure
end

section
/- Numbers as they are; numbers out of bytes that begin with them. -/
namespace Go.AM.Pure
open Go.AM
def vB (x:Int):List Int:=dig 10 (Cv x % 18446744073709551616)
theorem En (x:Int):HQ x=ofBytes (vB x):=rfl
theorem kS:∀ (f:Nat) (u:Int),0≤u→∀ b∈dig f u,0≤b∧b<256
 | 0,_,_,b,h=>by cases h
 | f+1,u,h0,b,h=>by
  unfold dig at h
  split at h
  ·rcases List.mem_cons.1 h with rfl | h
   ·omega
   ·cases h
  ·rcases List.mem_cons.1 h with rfl | h
   ·omega
   ·exact kS f _ (by omega) b h
theorem Jf (x:Int):∀ b∈vB x,0≤b∧b<256:=kS 10 _ (by omega)
theorem Eo (x:Int):1≤(vB x).length∧(vB x).length≤10:=by
 obtain ⟨h1,h2,_⟩:=Znu x
 rw [En,AD] at h1 h2
 exact ⟨h1,h2⟩
theorem Ic {x:Int} (hx:BZ x) {s:ByteArray} {rest:List Int} (hs:Ax s=vB x++rest):CX s=some (x,((vB x).length:Int),0):=by
 have hsz:(HQ x).size=(vB x).length:=by rw [En,AD]
 have hl:s.size=(vB x).length+rest.length:=by rw [← Bz,hs,List.length_append]
 rw [dX,dW hx (by rw [hsz,hs,List.take_left];rfl) (by omega),hsz]
theorem GC {s:ByteArray} {a rest:List Int} (hs:Ax s=a++rest):Ax (cutS s (a.length:Int) (AX s))=rest:=by
 rw [CB,UG,hs,List.drop_left]
theorem Zle (v:Int) (m:Nat) (h:8≤m):(wb v m).take 8=wb v 8:=by
 rw [dS v 8 m h,List.take_append_of_le_length (by rw [Hl];exact Nat.le_refl _),List.take_of_length_le (by rw [Hl];exact Nat.le_refl _)]
theorem kT (u:Int) (k:Nat) (hk:k<8):Eu (k+1) (wb u 64)=Eu k (wb u 64)++[u / 2 ^ (8*k) % 256]:=by
 have h:=dS u (8*k) 64 (by omega)
 rw [h,KZ k 1 _ _ (by rw [Hl])]
 congr 1
 ·have:=KZ k 0 (wb u (8*k)) (wb (u / 2 ^ (8*k)) (64-8*k)) (by rw [Hl])
  rw [Nat.add_zero] at this
  rw [this]
  exact (List.append_nil _).symm
 ·rw [IJ,Zle _ _ (by omega),QQ]
  rfl
theorem Wz {o0:List Int→List Int→Int→Int→Option ByteArray} {l:List Int} {len i u:Int} (h0:0≤u):∀ (d k m:Nat) (b:List Int),k+d=8→d<m→b.length<100000000000→
  AS.l1 o0 m (b++Eu k (wb u 64)) (u / 2 ^ (8*k)) l len i (k:Int)=o0 (b++Eu 8 (wb u 64)) l len (An .i64 i 1)
 | 0,k,m,b,h,hm,hb=>by
  obtain ⟨m,rfl⟩:∃ j,m=j+1:=⟨m-1,by omega⟩
  have:k=8:=by omega
  subst this
  show AS.S1 _ _ _ _ _ _ _ _=_
  unfold AS.S1
  rw [AJ (by omega)]
  rfl
 | d+1,k,m,b,h,hm,hb=>by
  obtain ⟨m,rfl⟩:∃ j,m=j+1:=⟨m-1,by omega⟩
  show AS.S1 o0 (AS.l1 o0 m) _ _ _ _ _ _=_
  unfold AS.S1
  have hsh:BG .u64 (u / 2 ^ (8*k)) 8=u / 2 ^ (8*(k+1)):=by
   have:=ND (u / 2 ^ (8*k)) 8 (by omega)
   rw [show ((8:Nat):Int)=8 from rfl] at this
   rw [this,Int.ediv_ediv_of_nonneg (Int.le_of_lt (Da _)),← Int.pow_add]
   rfl
  rw [Bj (by omega),cond_true,Bg (by rw [List.length_append,Gj];omega),cond_true,AE (by omega),hsh,GF,List.append_assoc,← kT u k (by omega)]
  exact Wz h0 d (k+1) m b (by omega) (by omega) hb
theorem pZ (l:List Int) (hl:l.length<1000000000):∀ (d i m:Nat),d=l.length-i→i≤l.length→20<m→
  AS.l0 (m+d) (Eu (8*i) (FR (l.take i) 64)) l (l.length:Int) (i:Int)=some (ofBytes (CQ l 64)):=by
 intro d
 induction d with
 | zero=>
  intro i m hd hi hm
  have:i=l.length:=by omega
  subst this
  obtain ⟨m,rfl⟩:∃ j,m=j+1:=⟨m-1,by omega⟩
  show AS.S0 _ _ _ _ _=_
  unfold AS.S0
  rw [AJ (by omega),cond_false,List.take_length]
  unfold CQ
  rw [show (l.length*64+7) / 8=8*l.length by omega]
 | succ d ih=>
  intro i m hd hi hm
  have hlt:i<l.length:=by omega
  show AS.S0 (AS.l1 (AS.l0 (m+d)) (m+d)) _ l (l.length:Int) (i:Int)=_
  unfold AS.S0
  rw [Bj (by omega),cond_true,AA (by rw [Aq];omega),cond_true,AQ hlt]
  have h1:=Wz (o0:=AS.l0 (m+d)) (l:=l) (len:=(l.length:Int)) (i:=(i:Int)) (u:=IntKind.wrap .u64 l[i]) (by rw [Dj];omega) 8 0 (m+d) (Eu (8*i) (FR (l.take i) 64)) rfl (by omega) (by rw [Gj];omega)
  rw [Nat.mul_zero,Int.pow_zero,Int.ediv_one,show Eu 0 (wb (IntKind.wrap .u64 l[i]) 64)=[] from rfl,List.append_nil] at h1
  rw [show (0:Int)=((0:Nat):Int) from rfl,h1,AE (by omega)]
  have:=ih (i+1) m (by omega) (by omega) hm
  rw [take_one hlt,Pk,show 8*(i+1)=8*i+8 by omega,KZ _ 8 _ _ (by rw [KY,List.length_take];omega)] at this
  rw [Dj,tz _ (by omega)]
  exact this
theorem Vv (l:List Int) (hl:l.length<1000000000):AS l=some (ofBytes (CQ l 64)):=by
 show AS.S (AS.l0 fu) l=_
 unfold AS.S
 rw [Aq,Kw (by omega),DL (by omega),Bg (by omega)]
 have:=pZ l hl l.length 0 (fu-l.length) (by omega) (by omega) (by unfold fu;omega)
 rw [show fu-l.length+l.length=fu by unfold fu;omega] at this
 exact this
theorem UK {o0:ByteArray→Int→Int→List Int→Option (List Int×Int)} {s:ByteArray} {len i:Int} {out:List Int} {k:Nat} (hk:k<1000000000) (hs:8*k+8≤s.size) (ho:k<out.length):∀ (d j m:Nat),j+d=8→d<m→
  AL.l1 o0 m s (k:Int) (numOf ((List.range (8*j)).map fun i=>sb s (k*64+i))) len i (j:Int) out=o0 s len (An .i64 i 1) (List.set out k (JY s k 64))
 | 0,j,m,h,hm=>by
  obtain ⟨m,rfl⟩:∃ j,m=j+1:=⟨m-1,by omega⟩
  have:j=8:=by omega
  subst this
  show AL.S1 _ _ _ _ _ _ _ _ _=_
  unfold AL.S1
  rw [AJ (by omega),cond_false,AA (by rw [Aq];omega)]
  rfl
 | d+1,j,m,h,hm=>by
  obtain ⟨m,rfl⟩:∃ j,m=j+1:=⟨m-1,by omega⟩
  show AL.S1 o0 (AL.l1 o0 m) _ _ _ _ _ _ _=_
  unfold AL.S1
  have e8:(8:Int)*(j:Int)=((8*j:Nat):Int):=by simp
  rw [Bj (by omega),cond_true,Kw (a:=8) (b:=(k:Int)) (by omega),AE (a:=8*(k:Int)) (by omega),AA (by rw [CB];omega),cond_true,Kw (by omega),e8,DL (by omega),cond_true,AE (by omega),
   show 8*(k:Int)+(j:Int)=((8*k+j:Nat):Int) by omega]
  have hby:=LS s ((8*k+j:Nat):Int)
  have hwr:IntKind.wrap .u64 (byteAt s ((8*k+j:Nat):Int))=byteAt s ((8*k+j:Nat):Int):=by rw [Dj];omega
  have hnb:=EP ((List.range (8*j)).map fun i=>sb s (k*64+i))
  rw [List.length_map,List.length_range] at hnb
  rw [hwr,YH hnb.1 hnb.2 (by omega)]
  have hpart:byteAt s ((8*k+j:Nat):Int)=numOf ((List.range 8).map fun i=>sb s (k*64+(8*j+i))):=by
   have h1:byteAt s ((8*k+j:Nat):Int) % 2 ^ 8=byteAt s ((8*k+j:Nat):Int):=Int.emod_eq_of_lt hby.1 hby.2
   rw [← h1,← Kt]
   congr 1
   apply List.map_congr_left
   intro i hi
   have hi:=List.mem_range.1 hi
   unfold sb
   rw [show (k*64+(8*j+i)) / 8=8*k+j by omega,show (k*64+(8*j+i)) % 8=i by omega]
  have hnext:numOf ((List.range (8*(j+1))).map fun i=>sb s (k*64+i))=numOf ((List.range (8*j)).map fun i=>sb s (k*64+i))+byteAt s ((8*k+j:Nat):Int)*2 ^ (8*j):=by
   rw [show 8*(j+1)=8*j+8 by omega,ax,Nh,List.length_map,List.length_range,← hpart,Int.mul_comm (2 ^ (8*j))]
  rw [← hnext]
  have hnb2:=EP ((List.range (8*(j+1))).map fun i=>sb s (k*64+i))
  rw [List.length_map,List.length_range] at hnb2
  have h64:(2:Int) ^ (8*(j+1))≤2 ^ 64:=by exact_mod_cast Nat.pow_le_pow_right (n:=2) (by omega) (show 8*(j+1)≤64 by omega)
  rw [← LP] at h64
  rw [Int.emod_eq_of_lt hnb2.1 (by omega)]
  exact UK hk hs ho d (j+1) m (by omega) (by omega)
theorem jZ (s:ByteArray) {n:Nat} (hn:n<1000000000) (hs:s.size=8*n):∀ (d i m:Nat),d=n-i→i≤n→20<m→
  AL.l0 (m+d) s (n:Int) (i:Int) ((List.range i).map (fun k=>JY s k 64)++List.replicate (n-i) (0:Int))=some ((List.range n).map (fun k=>JY s k 64),0):=by
 intro d
 induction d with
 | zero=>
  intro i m hd hi hm
  have:i=n:=by omega
  subst this
  obtain ⟨m,rfl⟩:∃ j,m=j+1:=⟨m-1,by omega⟩
  show AL.S0 _ _ _ _ _=_
  unfold AL.S0
  rw [AJ (by omega),cond_false,Nat.sub_self,List.replicate_zero,List.append_nil]
 | succ d ih=>
  intro i m hd hi hm
  show AL.S0 (AL.l1 (AL.l0 (m+d)) (m+d)) s _ _ _=_
  unfold AL.S0
  have h1:=UK (o0:=AL.l0 (m+d)) (s:=s) (len:=(n:Int)) (i:=(i:Int)) (out:=(List.range i).map (fun k=>JY s k 64)++List.replicate (n-i) (0:Int)) (k:=i) (by omega) (by omega) (by simp;omega) 8 0 (m+d) rfl (by omega)
  rw [Nat.mul_zero,List.range_zero,List.map_nil,show numOf []=0 from rfl] at h1
  rw [Bj (by omega),cond_true,show (0:Int)=((0:Nat):Int) from rfl]
  rw [show ((0:Nat):Int)=0 from rfl] at h1 ⊢
  rw [h1,AE (by omega)]
  have:=ih (i+1) m (by omega) (by omega) hm
  rw [show (i:Int)+1=((i+1:Nat):Int) by omega,← this]
  congr 1
  rw [List.set_append_right _ _ (by simp),List.length_map,List.length_range,Nat.sub_self,show n-i=(n-(i+1))+1 by omega,List.replicate_succ,List.set_cons_zero,List.range_succ,List.map_append,List.append_assoc]
  rfl
theorem UA (s:ByteArray) {n:Nat} (hn:n<1000000000) (hs:s.size=8*n):AL s (n:Int)=some ((List.range n).map (fun k=>JY s k 64),0):=by
 show AL.S (AL.l0 fu) s _=_
 unfold AL.S
 have h1:NC (AX s) 8=0:=by
  rw [CB,hs]
  unfold NC
  rw [Int.tmod_eq_emod_of_nonneg (by omega)]
  omega
 have h2:GL .i64 (AX s) 8=(n:Int):=by
  rw [CB,hs]
  unfold GL
  rw [Int.tdiv_eq_ediv_of_nonneg (by omega),Ez (by omega)]
  omega
 rw [AJ (by omega),cond_false,h1,Db rfl,cond_false,h2,Db rfl,cond_false,DL (by omega),Bg (by show n*8≤_;omega)]
 have:=jZ s hn hs n 0 (fu-n) (by omega) (by omega) (by unfold fu;omega)
 rw [show fu-n+n=fu by unfold fu;omega,Nat.sub_zero] at this
 exact this
theorem qa {l:List Int} (hl:l.length≤65536) (h64:∀ x∈l,BZ x) {s:ByteArray} (hs:Ax s=CQ l 64):AL s (l.length:Int)=some (l,0):=by
 have hsz:s.size=8*l.length:=by rw [← Bz,hs,EF];omega
 rw [UA s (by omega) hsz]
 congr 2
 apply List.ext_getElem
 ·simp
 ·intro i h1 h2
  rw [List.getElem_map,List.getElem_range]
  exact UH (w:=64) (by omega) hs h64 (fun x _=>by have:(2:Int) ^ 64=18446744073709551616:=rfl;omega) h2
end Go.AM.Pure
end

section
/- runs. -/
namespace Go.AM.Pure
open Go.AM
abbrev Run:=Int×Int×Int
def Cb (o:List Run):List Int:=o.flatMap fun r=>List.replicate r.2.2.toNat r.1
def IQ (p:Option Int) (o:List Run):Option Int:=match o.getLast? with
 | some r=>some r.1
 | none=>p
def okR (n:Nat) (p:Option Int):List Run→Prop
 | []=>True
 | r :: o=>r.2.1=(n:Int)∧1≤r.2.2∧p≠some r.1∧okR (n+r.2.2.toNat) (some r.1) o
theorem Gb (a b:List Run):Cb (a++b)=Cb a++Cb b:=by unfold Cb;rw [List.flatMap_append]
theorem Gu (r:Run):Cb [r]=List.replicate r.2.2.toNat r.1:=by unfold Cb;simp
theorem GO (r:Run) (o:List Run):Cb (r :: o)=List.replicate r.2.2.toNat r.1++Cb o:=rfl
theorem Lk:∀ (a b:List Run) (n:Nat) (p:Option Int),okR n p (a++b)↔okR n p a∧okR (n+(Cb a).length) (IQ p a) b
 | [],b,n,p=>by simp [okR,Cb,IQ]
 | r :: a,b,n,p=>by
  rw [List.cons_append]
  show (r.2.1=(n:Int)∧1≤r.2.2∧p≠some r.1∧okR (n+r.2.2.toNat) (some r.1) (a++b))↔(r.2.1=(n:Int)∧1≤r.2.2∧p≠some r.1∧okR (n+r.2.2.toNat) (some r.1) a)∧okR (n+(Cb (r :: a)).length) (IQ p (r :: a)) b
  rw [Lk a b]
  have e1:n+r.2.2.toNat+(Cb a).length=n+(Cb (r :: a)).length:=by rw [GO,List.length_append,List.length_replicate];omega
  have e2:IQ (some r.1) a=IQ p (r :: a):=by
   unfold IQ
   cases a with
   | nil=>rfl
   | cons b a=>
    rw [List.getLast?_cons_cons]
    cases h:(b :: a).getLast? with
    | none=>simp at h
    | some r=>rfl
  rw [e1,e2]
  simp only [and_assoc]
theorem Ib (p:Option Int) (a:List Run) (r:Run):IQ p (a++[r])=some r.1:=by unfold IQ;simp
theorem tL (l:List Int) (hl:l.length≤65536):∀ (d i n:Nat) (out:List Run),d=l.length-i→i≤l.length→d<n→Cb out=l.take i→okR 0 none out→IQ none out=(l.take i).getLast?→
  ∃ o,DF.l0 n l l (l.length:Int) (i:Int) out=some o∧Cb o=l∧okR 0 none o:=by
 intro d
 induction d with
 | zero=>
  intro i n out hd hi hn h1 h2 _
  have:i=l.length:=by omega
  subst this
  obtain ⟨n,rfl⟩:∃ k,n=k+1:=⟨n-1,by omega⟩
  rw [List.take_length] at h1
  refine ⟨out,?_,h1,h2⟩
  show DF.S0 _ _ _ _ _ _=_
  unfold DF.S0
  rw [AJ (by omega),cond_false]
 | succ d ih=>
  intro i n out hd hi hn h1 h2 h3
  obtain ⟨n,rfl⟩:∃ k,n=k+1:=⟨n-1,by omega⟩
  have hlt:i<l.length:=by omega
  have hfl:(Cb out).length=i:=by rw [h1,List.length_take];omega
  have hol:out.length≤i:=by
   have:∀ (o:List Run) (m:Nat) (p:Option Int),okR m p o→o.length≤(Cb o).length:=by
    intro o
    induction o with
    | nil=>intro _ _ _;exact Nat.zero_le _
    | cons r o ih=>
     intro m p h
     have:=ih _ _ h.2.2.2
     rw [GO,List.length_append,List.length_replicate,List.length_cons]
     have:=h.2.1
     omega
   have:=this out 0 none h2
   omega
  have hsn:(l.take (i+1)).getLast? = some l[i]:=by rw [take_one hlt,List.getLast?_concat]
  -- a new run
  have hnew:(IQ none out≠some l[i])→∃ o,DF.l0 n l l (l.length:Int) ((i+1:Nat):Int) (out++[(l[i],(i:Int),1)])=some o∧Cb o=l∧okR 0 none o:=fun hne=>
   ih (i+1) n _ (by omega) (by omega) (by omega) (by rw [Gb,Gu,h1,take_one hlt];rfl)
    ((Lk _ _ _ _).2 ⟨h2,by rw [hfl];exact ⟨by show (i:Int)=_;omega,by show (1:Int)≤1;omega,hne,trivial⟩⟩) (by rw [Ib,hsn])
  have hset:∀ (o:List Run) (r r':Run),List.set (o++[r]) (Int.toNat (AT .i64 (Ai (o++[r])) 1)) r'=o++[r']∨¬ o.length<1000000:=fun o r r'=>by
   by_cases hb:o.length<1000000
   ·left
    rw [Aq,List.length_append,List.length_singleton,Dk (by omega),show Int.toNat (((o.length+1:Nat):Int)-1)=o.length by omega,List.set_append_right _ _ (Nat.le_refl _),Nat.sub_self]
    rfl
   ·exact .inr hb
  have hget:∀ (o:List Run) (r:Run),o.length<1000000→List.getD (o++[r]) (Int.toNat (AT .i64 (Ai (o++[r])) 1)) (0,0,0)=r:=fun o r hb=>by
   rw [Aq,List.length_append,List.length_singleton,Dk (by omega),show Int.toNat (((o.length+1:Nat):Int)-1)=o.length by omega,List.getD_eq_getElem?_getD,List.getElem?_append_right (Nat.le_refl _),Nat.sub_self]
   rfl
  have hin:∀ (o:List Run) (r:Run),o.length<1000000→inB (AT .i64 (Ai (o++[r])) 1) (Ai (o++[r]))=true:=fun o r hb=>by
   rw [Aq,List.length_append,List.length_singleton,Dk (by omega),AA (by omega)]
  have hob:out.length<1000000:=by omega
  show ∃ o,DF.S0 (DF.l0 n) _ _ _ _ _=_∧_
  unfold DF.S0
  rw [Bj (by omega),cond_true,AA (by rw [Aq];omega),cond_true,AQ hlt,AE (by omega)]
  by_cases hi0:i=0
  ·subst hi0
   rw [CT (by omega),cond_true,Bg (by omega),cond_true,hin _ _ hob,cond_true,cond_true,hget _ _ hob,(hset _ _ _).resolve_right (fun h=>h hob)]
   have:=hnew (by rw [h3,List.take_zero];simp)
   exact this
  ·rw [CE (by omega),cond_false,Dk (by omega),AA (by rw [Aq];omega),cond_true]
   have hlt1:i-1<l.length:=by omega
   have hlast:(l.take i).getLast? = some l[i-1]:=by
    have:l.take i=l.take (i-1)++[l[i-1]]:=by
     have:=take_one hlt1
     rwa [show i-1+1=i by omega] at this
    rw [this,List.getLast?_concat]
   rw [hlast] at h3
   rw [show (i:Int)-1=((i-1:Nat):Int) by omega,AQ hlt1]
   by_cases hq:l[i]=l[i-1]
   ·rw [Db hq,cond_false]
    -- the last run is one longer
    rcases List.eq_nil_or_concat out with h0 | ⟨o,r,h0⟩
    ·subst h0;cases h3
    ·rw [List.concat_eq_append] at h0
     subst h0
     rw [Ib] at h3
     have hr1:r.1=l[i-1]:=Option.some.inj h3
     have hob':o.length<1000000:=by rw [List.length_append] at hob;omega
     obtain ⟨k1,k2⟩:=(Lk _ _ _ _).1 h2
     obtain ⟨k3,k4,k5,_⟩:=k2
     have hrl:r.2.2.toNat≤i:=by
      rw [Gb,Gu,List.length_append,List.length_replicate] at hfl
      omega
     rw [hin _ _ hob',cond_true,cond_true,hget _ _ hob',(hset _ _ _).resolve_right (fun h=>h hob'),AE (by omega)]
     refine ih (i+1) n _ (by omega) (by omega) (by omega) ?_ ((Lk _ _ _ _).2 ⟨k1,k3,by show 1≤r.2.2+1;omega,k5,trivial⟩) (by rw [Ib,hsn,hq];exact h3)
     rw [Gb,Gu] at h1
     rw [Gb,Gu,take_one hlt,← h1,List.append_assoc]
     congr 1
     show List.replicate (r.2.2+1).toNat r.1=_
     rw [show (r.2.2+1).toNat=r.2.2.toNat+1 by omega,List.replicate_succ',hr1,hq]
   ·rw [Jp hq,cond_true,Bg (by omega),cond_true,hin _ _ hob,cond_true,cond_true,hget _ _ hob,(hset _ _ _).resolve_right (fun h=>h hob)]
    have:=hnew (by rw [h3];intro h;exact hq (Option.some.inj h).symm)
    exact this
theorem pX (l:List Int) (hl:l.length≤65536):∃ o,DF l=some o∧Cb o=l∧okR 0 none o:=by
 show ∃ o,DF.S (DF.l0 fu) l=_∧_
 unfold DF.S
 rw [Aq,AJ (by omega),cond_false]
 exact tL l hl l.length 0 fu [] (by omega) (by omega) (by unfold fu;omega) rfl trivial rfl
theorem FZ:∀ (o:List Run) (m:Nat) (p:Option Int),okR m p o→o.length≤(Cb o).length
 | [],_,_,_=>Nat.zero_le _
 | r :: o,m,p,h=>by
  have:=FZ o _ _ h.2.2.2
  rw [GO,List.length_append,List.length_replicate,List.length_cons]
  have:=h.2.1
  omega
theorem Sp {o:List Run} (h:okR 0 none o) {i:Nat} (hi:i<o.length):o[i].2.1=((Cb (o.take i)).length:Int)∧1≤o[i].2.2∧IQ none (o.take i)≠some o[i].1∧(Cb (o.take (i+1))).length=(Cb (o.take i)).length+o[i].2.2.toNat∧(Cb (o.take (i+1))).length≤(Cb o).length:=by
 have e:o=o.take i++o[i] :: o.drop (i+1):=by rw [← List.drop_eq_getElem_cons hi,List.take_append_drop]
 have h':=h
 rw [e,Lk] at h'
 obtain ⟨_,k1,k2,k3,_⟩:=h'
 refine ⟨by rw [k1];omega,k2,k3,by rw [take_one hi,Gb,Gu,List.length_append,List.length_replicate],?_⟩
 have h2:Cb o=Cb (o.take (i+1))++Cb (o.drop (i+1)):=by rw [← Gb,List.take_append_drop]
 rw [h2,List.length_append]
 omega
theorem eg (o:List Run) (ho:okR 0 none o) (hl:(Cb o).length≤65536):∀ (d i n:Nat),d=o.length-i→i≤o.length→d<n→
  CO.l0 n o ((Cb (o.take i)).length:Int) o (o.length:Int) (i:Int)=some (((Cb o).length:Int),true):=by
 have hol:=FZ o 0 none ho
 intro d
 induction d with
 | zero=>
  intro i n hd hi hn
  have:i=o.length:=by omega
  subst this
  obtain ⟨n,rfl⟩:∃ k,n=k+1:=⟨n-1,by omega⟩
  show CO.S0 _ _ _ _ _ _=_
  unfold CO.S0
  rw [AJ (by omega),cond_false,List.take_length]
 | succ d ih=>
  intro i n hd hi hn
  obtain ⟨n,rfl⟩:∃ k,n=k+1:=⟨n-1,by omega⟩
  have hlt:i<o.length:=by omega
  obtain ⟨k1,k2,k3,k4,k5⟩:=Sp ho hlt
  show CO.S0 (CO.l0 n) _ _ _ _ _=_
  unfold CO.S0
  have hadd:An .i64 ((Cb (o.take i)).length:Int) o[i].2.2=((Cb (o.take (i+1))).length:Int):=by rw [AE (by omega),k4];omega
  have:=ih (i+1) n (by omega) (by omega) (by omega)
  rw [Bj (by omega),cond_true,AA (by rw [Aq];omega),cond_true,AQ hlt,Db k1,cond_false,AJ (by omega),cond_false,Dk (by omega),AJ (by omega),cond_false,hadd,AE (by omega)]
  by_cases hi0:i=0
  ·rw [AJ (by omega),cond_false]
   exact this
  ·have hlt1:i-1<o.length:=by omega
   have hl2:IQ none (o.take i)=some o[i-1].1:=by
    have:o.take i=o.take (i-1)++[o[i-1]]:=by
     have:=take_one hlt1
     rwa [show i-1+1=i by omega] at this
    rw [this,Ib]
   rw [hl2] at k3
   rw [Bj (by omega),cond_true,Dk (by omega),AA (by rw [Aq];omega),cond_true,show (i:Int)-1=((i-1:Nat):Int) by omega,AQ hlt1,CE (fun h=>k3 (by rw [h])),cond_false]
   exact this
theorem NH (o:List Run) (ho:okR 0 none o) (hl:(Cb o).length≤65536):CO o=some (((Cb o).length:Int),true):=by
 have hol:=FZ o 0 none ho
 exact eg o ho hl o.length 0 fu (by omega) (by omega) (by unfold fu;omega)
def FN (o:List Run):List Int:=o.flatMap fun r=>vB r.1++vB r.2.2
theorem Sq (r:Run) (o:List Run):FN (r :: o)=vB r.1++(vB r.2.2++FN o):=by unfold FN;rw [List.flatMap_cons,List.append_assoc]
theorem aD (o:List Run) (r:Run):FN (o++[r])=FN o++(vB r.1++vB r.2.2):=by unfold FN;simp
theorem IS:∀ o:List Run,(FN o).length≤20*o.length
 | []=>by simp [FN]
 | r :: o=>by
  have:=IS o
  have:=Eo r.1
  have:=Eo r.2.2
  rw [Sq,List.length_append,List.length_append,List.length_cons]
  omega
theorem QU:∀ o:List Run,∀ b∈FN o,0≤b∧b<256
 | [],b,h=>by cases h
 | r :: o,b,h=>by
  rw [Sq] at h
  rcases List.mem_append.1 h with h | h
  ·exact Jf _ b h
  ·rcases List.mem_append.1 h with h | h
   ·exact Jf _ b h
   ·exact QU o b h
theorem Pl (b:Bool×List Int) (s:ByteArray) (h:b.2.length+s.size<100000000000):Dv b s=some (AX s,true,false,b.2++Ax s):=by
 unfold Dv
 show (bif Bw (b.2.length+s.size) 1 then _ else _)=_
 rw [Bg (by omega)]
 rfl
theorem Sr (f:Bool) (l:List Int) (h:∀ b∈l,0≤b∧b<256):JC (f,l)=some (ofBytes l,f,l):=by
 unfold JC
 have:(l.all isByte)=true:=List.all_eq_true.2 fun b hb=>by
  have:=h b hb
  unfold isByte
  rw [DL this.1,Bj this.2]
  rfl
 show (bif l.all isByte then _ else _)=_
 rw [this]
 rfl
theorem tM (o:List Run) (hl:o.length≤65536):∀ (d i n:Nat) (f:Bool),d=o.length-i→i≤o.length→d<n→
  ∃ s,Dn.l0 n o (o.length:Int) (i:Int) (f,FN (o.take i))=some s∧s=(ofBytes (FN o),0):=by
 intro d
 induction d with
 | zero=>
  intro i n f hd hi hn
  have:i=o.length:=by omega
  subst this
  obtain ⟨n,rfl⟩:∃ k,n=k+1:=⟨n-1,by omega⟩
  refine ⟨_,?_,rfl⟩
  show Dn.S0 _ _ _ _ _=_
  unfold Dn.S0
  rw [AJ (by omega),cond_false,List.take_length,Sr _ _ (QU o)]
  rfl
 | succ d ih=>
  intro i n f hd hi hn
  obtain ⟨n,rfl⟩:∃ k,n=k+1:=⟨n-1,by omega⟩
  have hlt:i<o.length:=by omega
  have h1:=IS (o.take i)
  rw [List.length_take] at h1
  have h2:=Eo o[i].1
  have h3:=Eo o[i].2.2
  show ∃ s,Dn.S0 (Dn.l0 n) _ _ _ _=_∧_
  unfold Dn.S0
  rw [Bj (by omega),cond_true,AA (by rw [Aq];omega),cond_true,AQ hlt,Gr,Option.bind_some,En,Pl _ _ (by rw [AD];show (FN _).length+_<_;omega),Option.bind_some,Gr,Option.bind_some,En,
   EC (Jf _),Pl _ _ (by rw [AD];show (FN _++vB _).length+_<_;rw [List.length_append];omega),Option.bind_some,EC (Jf _),AE (by omega)]
  have:=ih (i+1) n false (by omega) (by omega) (by omega)
  rw [take_one hlt,aD,← List.append_assoc] at this
  exact this
theorem UJ (o:List Run) (ho:okR 0 none o) (hl:(Cb o).length≤65536):Dn o=some (ofBytes (FN o),0):=by
 have hol:=FZ o 0 none ho
 show Dn.S (Dn.l0 fu) o=_
 unfold Dn.S
 rw [NH o ho hl,Option.bind_some]
 show Dn.l0 fu o (o.length:Int) 0 (true,[])=_
 obtain ⟨s,h1,rfl⟩:=tM o (by omega) o.length 0 fu true (by omega) (by omega) (by unfold fu;omega)
 exact h1
theorem pY (o:List Run) (ho:okR 0 none o) (hl:(Cb o).length≤65536) (h64:∀ r∈o,BZ r.1):∀ (d i n:Nat) (s:ByteArray),d=o.length-i→i≤o.length→d<n→Ax s=FN (o.drop i)→
  BI.l0 (BI.t1 fu) n s ((Cb o).length:Int) (o.take i) ((Cb (o.take i)).length:Int)=some (o,0):=by
 have hol:=FZ o 0 none ho
 intro d
 induction d with
 | zero=>
  intro i n s hd hi hn hs
  have:i=o.length:=by omega
  subst this
  obtain ⟨n,rfl⟩:∃ k,n=k+1:=⟨n-1,by omega⟩
  rw [List.drop_length] at hs
  have he:s=eB:=KT.2 (by rw [← Bz,hs];rfl)
  show BI.S0 BI.S1 _ _ _ _ _=_
  unfold BI.S0
  rw [JZ he,Bool.not_true,cond_false,List.take_length]
  unfold BI.S1
  rw [NH o ho hl,Option.bind_some]
  dsimp only
  rw [Bool.not_true,cond_false,Db rfl,cond_false]
 | succ d ih=>
  intro i n s hd hi hn hs
  obtain ⟨n,rfl⟩:∃ k,n=k+1:=⟨n-1,by omega⟩
  have hlt:i<o.length:=by omega
  obtain ⟨k1,k2,k3,k4,k5⟩:=Sp ho hlt
  rw [List.drop_eq_getElem_cons hlt,Sq] at hs
  have h2:=Eo o[i].1
  have h3:=Eo o[i].2.2
  have hsz:s.size=(vB o[i].1).length+((vB o[i].2.2).length+(FN (o.drop (i+1))).length):=by rw [← Bz,hs,List.length_append,List.length_append]
  have hrl:=IS (o.drop (i+1))
  rw [List.length_drop] at hrl
  have hne:s≠eB:=fun h=>by have:=KT.1 h;omega
  have hcut:=GC hs
  have h64':BZ o[i].1:=h64 _ (List.getElem_mem hlt)
  have hc64:BZ o[i].2.2:=by unfold BZ;omega
  show BI.S0 _ (BI.l0 (BI.t1 fu) n) s _ _ _=_
  unfold BI.S0
  rw [Ob hne,Bool.not_false,cond_true,Ic h64' hs,Option.bind_some]
  dsimp only
  rw [Db rfl,cond_false,DO (by rw [CB];omega),cond_true,Ic hc64 hcut,Option.bind_some]
  dsimp only
  rw [Db rfl,cond_false,AJ (by omega),cond_false,Dk (by omega),AJ (by omega),cond_false,Bg (by rw [List.length_take];omega),cond_true,AE (by omega),DO (by rw [CB];omega),cond_true]
  have hadd:An .i64 ((Cb (o.take i)).length:Int) o[i].2.2=((Cb (o.take (i+1))).length:Int):=by rw [AE (by omega),k4];omega
  rw [hadd,show (o[i].1,((Cb (o.take i)).length:Int),o[i].2.2)=o[i] by rw [← k1],← take_one hlt]
  refine ih (i+1) n _ (by omega) (by omega) (by omega) ?_
  have:Ax s=(vB o[i].1++vB o[i].2.2)++FN (o.drop (i+1)):=by rw [hs,List.append_assoc]
  have:=GC this
  rw [List.length_append,Int.natCast_add] at this
  exact this
theorem Ss (o:List Run) (ho:okR 0 none o) (hl:(Cb o).length≤65536) (h64:∀ r∈o,BZ r.1) {s:ByteArray} (hs:Ax s=FN o):BI s ((Cb o).length:Int)=some (o,0):=by
 have hol:=FZ o 0 none ho
 show BI.S (BI.l0 (BI.t1 fu) fu) s _=_
 unfold BI.S
 rw [AJ (by omega),cond_false,AJ (by omega),cond_false]
 exact pY o ho hl h64 o.length 0 fu s (by omega) (by omega) (by unfold fu;omega) hs
theorem tN {c:Nat} (h:c≤65536):KL 1 (c:Int)=(0,(c:Int)):=by
 have h1:BG .u64 1 32=0:=by decide +kernel
 have h2:BF .u64 1 4294967295=1:=by decide +kernel
 have h3:BG .u64 (c:Int) 32=0:=by
  have:=ND (c:Int) 32 (by omega)
  rw [show ((32:Nat):Int)=32 from rfl] at this
  rw [this]
  exact Int.ediv_eq_zero_of_lt (by omega) (by omega)
 have h4:BF .u64 (c:Int) 4294967295=(c:Int):=by
  unfold BF
  show IntKind.wrap .u64 ((BitVec.ofInt 64 (c:Int) &&& BitVec.ofInt 64 4294967295).toNat:Int)=_
  rw [BitVec.toNat_and,show (BitVec.ofInt 64 4294967295).toNat=2 ^ 32-1 from rfl,Nat.and_two_pow_sub_one_eq_mod,show (BitVec.ofInt 64 (c:Int)).toNat=c by rw [BitVec.toNat_ofInt];omega,Dj]
  omega
 have h5:Df .u64 1 (c:Int)=(c:Int):=by unfold Df;rw [Dj];omega
 have h6:∀ x:Int,Df .u64 0 x=0:=fun x=>by unfold Df;rw [Int.zero_mul];rfl
 have h7:Df .u64 1 0=0:=by decide +kernel
 have h8:An .u64 0 0=0:=by decide +kernel
 have h9:BG .u64 0 32=0:=by decide +kernel
 have h10:BF .u64 0 4294967295=0:=by decide +kernel
 unfold KL Ly
 simp only [h1,h2,h3,h4,h5,h6,h7,h8,h9,h10]
theorem Zke (v:Int) (c:Nat) (hc:c≤65536):∀ (d k n:Nat) (t:List Int),d=c-k→k≤c→1≤k→d<n→t.length=c→t.take k=List.replicate k v→
  Aw.l2 n (k:Int) t=some (List.replicate c v):=by
 intro d
 induction d using Nat.strongRecOn with
 | ind d ih=>
 intro k n t hd hk h1 hn ht htk
 obtain ⟨n,rfl⟩:∃ j,n=j+1:=⟨n-1,by omega⟩
 show Aw.S2 (Aw.l2 n) _ _=_
 unfold Aw.S2
 by_cases hkc:k=c
 ·subst hkc
  rw [AJ (by rw [Aq];omega),cond_false,← htk,List.take_of_length_le (by omega)]
 ·rw [Bj (by rw [Aq];omega),cond_true,DO (by rw [Aq];omega),cond_true,DO (by rw [Aq];omega),cond_true,Aq,ht,show Int.toNat (c:Int)=c from rfl,show Int.toNat (k:Int)=k from rfl,Nat.sub_zero,List.drop_zero,htk,List.take_replicate,List.length_replicate]
  rw [AE (by omega)]
  have:=ih (c-(k+min (c-k) k)) (by omega) (k+min (c-k) k) n (GA t k (List.replicate (min (c-k) k) v)) rfl (by omega) (by omega) (by omega) (by unfold GA;simp;omega) (by
   unfold GA
   rw [← List.append_assoc,List.take_append_of_le_length (by simp;omega),List.take_of_length_le (by simp;omega),htk,List.replicate_append_replicate])
  rw [← this]
  congr 1
theorem tO (v:Int) {c:Nat} (h1:1≤c) (hc:c≤65536):Aw [v] (c:Int)=some (List.replicate c v):=by
 show Aw.S (Aw.t0 fu) [v] _=_
 unfold Aw.S
 rw [AJ (by omega),cond_false]
 show Aw.S0 (Aw.t1 18446744073709551615) [v] (c:Int)=_
 unfold Aw.S0
 have e1:IntKind.wrap .u64 (Ai [v])=1:=by rw [Aq,Dj];rfl
 have e2:IntKind.wrap .u64 (c:Int)=(c:Int):=by rw [Dj];omega
 rw [e1,e2,tN hc]
 dsimp only
 rw [AJ (by omega),cond_false,AJ (by omega),cond_false]
 show Aw.S1 (Aw.l2 18446744073709551614) [v] (c:Int)=_
 unfold Aw.S1
 rw [Ez (by omega),DL (by omega),Bg (by show c*8≤_;omega),List.length_replicate,show Int.toNat (c:Int)=c from rfl]
 obtain ⟨c',rfl⟩:∃ k,c=k+1:=⟨c-1,by omega⟩
 have e3:List.take (c'+1) [v]=[v]:=by rw [List.take_of_length_le (by simp)]
 rw [e3]
 exact Zke v (c'+1) hc c' 1 18446744073709551614 _ (by omega) (by omega) (by omega) (by omega) (by unfold GA;simp) (by unfold GA;simp)
theorem tP (o:List Run) (ho:okR 0 none o) (hl:(Cb o).length≤65536):∀ (d i n:Nat),d=o.length-i→i≤o.length→d<n→
  CY.l0 n (Cb (o.take i)) o (o.length:Int) (i:Int)=some (Cb o,0):=by
 have hol:=FZ o 0 none ho
 intro d
 induction d with
 | zero=>
  intro i n hd hi hn
  have:i=o.length:=by omega
  subst this
  obtain ⟨n,rfl⟩:∃ k,n=k+1:=⟨n-1,by omega⟩
  show CY.S0 _ _ _ _ _=_
  unfold CY.S0
  rw [AJ (by omega),cond_false,List.take_length]
 | succ d ih=>
  intro i n hd hi hn
  obtain ⟨n,rfl⟩:∃ k,n=k+1:=⟨n-1,by omega⟩
  have hlt:i<o.length:=by omega
  obtain ⟨k1,k2,k3,k4,k5⟩:=Sp ho hlt
  show CY.S0 (CY.l0 n) _ _ _ _=_
  unfold CY.S0
  have hrep:=tO o[i].1 (c:=o[i].2.2.toNat) (by omega) (by omega)
  rw [show ((o[i].2.2.toNat:Nat):Int)=o[i].2.2 by omega] at hrep
  rw [Bj (by omega),cond_true,AA (by rw [Aq];omega),cond_true,AQ hlt,hrep,Option.bind_some,Bg (by rw [List.length_replicate];omega),cond_true,AE (by omega)]
  have:=ih (i+1) n (by omega) (by omega) (by omega)
  rw [take_one hlt,Gb,Gu] at this
  exact this
theorem Su (o:List Run) (ho:okR 0 none o) (hl:(Cb o).length≤65536):CY o=some (Cb o,0):=by
 have hol:=FZ o 0 none ho
 show CY.S (CY.l0 fu) o=_
 unfold CY.S
 rw [NH o ho hl,Option.bind_some]
 dsimp only
 rw [Bool.not_true,cond_false,DL (by omega),Bg (by show (Cb o).length*8≤_;omega)]
 exact tP o ho hl o.length 0 fu (by omega) (by omega) (by unfold fu;omega)
end Go.AM.Pure
end

section
/- frame: numbers by how far each is from the one ahead. -/
namespace Go.AM.Pure
open Go.AM
abbrev W64 (x:Int):Int:=IntKind.wrap .i64 x
theorem YI {a b:Int} (h:a % 18446744073709551616=b % 18446744073709551616):W64 a=W64 b:=by
 show IntKind.wrap .i64 a=IntKind.wrap .i64 b
 rw [Gi,Gi,h]
theorem pU (a:Int):W64 a % 18446744073709551616=a % 18446744073709551616:=by
 show IntKind.wrap .i64 a % _=_
 rw [Gi]
 split <;> omega
theorem tK (a b:Int):MZ a b=W64 (b-a):=by
 unfold MZ AT
 rw [Dj,Dj,Dj]
 exact YI (by omega)
theorem ef (a b:Int):Ij a b=W64 (a+b):=by
 unfold Ij An
 rw [Dj,Dj,Dj]
 exact YI (by omega)
def CD (l:List Int):List Int:=(List.range (l.length-1)).map fun i=>W64 (l.getD (i+1) 0-l.getD i 0)
theorem JJ (l:List Int):(CD l).length=l.length-1:=by unfold CD;simp
theorem getD_at {l:List Int} {i:Nat} (h:i<l.length):l.getD i 0=l[i]:=by rw [List.getD_eq_getElem?_getD,List.getElem?_eq_getElem h];rfl
theorem Sm {l:List Int} {i:Nat} (h:i+1<l.length) (hi:i<(CD l).length):(CD l)[i]=W64 (l[i+1]-l[i]):=by
 have h2:(CD l)[i]? = some (W64 (l[i+1]-l[i])):=by
  unfold CD
  rw [List.getElem?_map,List.getElem?_range (show i<l.length-1 by omega),Option.map_some,getD_at h,getD_at (show i<l.length by omega)]
 rw [List.getElem?_eq_getElem hi] at h2
 exact Option.some.inj h2
theorem Zje (x:List Int) (hx:x.length<4611686018427387904):∀ (d i n:Nat) (m:Int),d=x.length-i→i≤x.length→d<n→AI.l1 n x m (i:Int)=some ((x.drop i).foldl Et m):=by
 intro d
 induction d with
 | zero=>
  intro i n m hd hi hn
  have:i=x.length:=by omega
  subst this
  obtain ⟨n,rfl⟩:∃ k,n=k+1:=⟨n-1,by omega⟩
  show AI.S1 _ _ _ _=_
  unfold AI.S1
  rw [AJ (by rw [Aq];omega),cond_false,List.drop_length]
  rfl
 | succ d ih=>
  intro i n m hd hi hn
  obtain ⟨n,rfl⟩:∃ k,n=k+1:=⟨n-1,by omega⟩
  have hlt:i<x.length:=by omega
  show AI.S1 (AI.l1 n) _ _ _=_
  unfold AI.S1
  rw [Bj (by rw [Aq];omega),cond_true,AA (by rw [Aq];omega),cond_true,AQ hlt,AE (by omega),List.drop_eq_getElem_cons hlt,List.foldl_cons]
  exact ih (i+1) n _ (by omega) (by omega) (by omega)
def Fs (x:List Int):Int:=(x.drop 1).foldl Et (x.getD 0 0)
theorem min_eq (x:List Int) (hx:x.length<4611686018427387904) (h0:0<x.length):AI x=some (Fs x):=by
 show AI.S (AI.t0 fu) x=_
 unfold AI.S
 rw [Aq,AJ (by omega),cond_false]
 show AI.S0 (AI.l1 18446744073709551615) x=_
 unfold AI.S0
 rw [AA (by rw [Aq];omega),cond_true]
 exact Zje x hx (x.length-1) 1 18446744073709551615 _ rfl (by omega) (by omega)
theorem RO:∀ (l:List Int) (m:Int),l.foldl Et m=m∨l.foldl Et m∈l
 | [],m=> .inl rfl
 | a :: l,m=>by
  rw [List.foldl_cons]
  rcases RO l (Et m a) with h | h
  ·rw [h]
   unfold Et
   split
   ·exact .inr (List.mem_cons_self ..)
   ·exact .inl rfl
  ·exact .inr (List.mem_cons_of_mem _ h)
theorem aC {x:List Int} (h0:0<x.length) (h:∀ a∈x,BZ a):BZ (Fs x):=by
 unfold Fs
 rcases RO (x.drop 1) (x.getD 0 0) with h1 | h1
 ·rw [h1,getD_at h0];exact h _ (List.getElem_mem h0)
 ·exact h _ (List.mem_of_mem_drop h1)
theorem Zi4 (m:Int) (D:List Int) (hD:D.length≤65536):∀ (d i n:Nat),d=D.length-i→i≤D.length→d<n→
  AN.l2 n m (D.length:Int) (i:Int) ((D.take i).map (fun x=>W64 (x-m))++D.drop i)=some (D.map (fun x=>W64 (x-m)),m):=by
 intro d
 induction d with
 | zero=>
  intro i n hd hi hn
  have:i=D.length:=by omega
  subst this
  obtain ⟨n,rfl⟩:∃ k,n=k+1:=⟨n-1,by omega⟩
  show AN.S2 _ _ _ _ _=_
  unfold AN.S2
  rw [AJ (by omega),cond_false,List.drop_length,List.append_nil,List.take_length]
 | succ d ih=>
  intro i n hd hi hn
  obtain ⟨n,rfl⟩:∃ k,n=k+1:=⟨n-1,by omega⟩
  have hlt:i<D.length:=by omega
  show AN.S2 (AN.l2 n) _ _ _ _=_
  unfold AN.S2
  have hlen:((D.take i).map (fun x=>W64 (x-m))++D.drop i).length=D.length:=by rw [List.length_append,List.length_map,List.length_take,List.length_drop];omega
  have hget:List.getD ((D.take i).map (fun x=>W64 (x-m))++D.drop i) (Int.toNat (i:Int)) 0=D[i]:=by
   rw [show Int.toNat (i:Int)=i from rfl,List.getD_eq_getElem?_getD,List.getElem?_append_right (by rw [List.length_map,List.length_take];omega),List.length_map,List.length_take,Nat.min_eq_left (Nat.le_of_lt hlt),Nat.sub_self,List.getElem?_drop,Nat.add_zero,List.getElem?_eq_getElem hlt]
   rfl
  rw [Bj (by omega),cond_true,AA (by rw [Aq,hlen];omega),cond_true,cond_true,hget,tK,AE (by omega),show Int.toNat (i:Int)=i from rfl,List.set_append_right _ _ (by rw [List.length_map,List.length_take];omega),List.length_map,List.length_take,Nat.min_eq_left (Nat.le_of_lt hlt),Nat.sub_self,
   List.drop_eq_getElem_cons hlt,List.set_cons_zero]
  have:=ih (i+1) n (by omega) (by omega) (by omega)
  rw [take_one hlt,List.map_append,List.append_assoc] at this
  exact this
theorem Zj4 (l:List Int) (hl:l.length≤65536) (h2:2≤l.length):∀ (d i n:Nat),d=l.length-1-i→i≤l.length-1→d<n→
  AN.l0 (AN.t1 fu) n l ((i+1:Nat):Int) ((CD l).take i)=some ((CD l).map (fun x=>W64 (x-Fs (CD l))),Fs (CD l)):=by
 intro d
 induction d with
 | zero=>
  intro i n hd hi hn
  have:i=l.length-1:=by omega
  subst this
  obtain ⟨n,rfl⟩:∃ k,n=k+1:=⟨n-1,by omega⟩
  have hdl:=JJ l
  show AN.S0 (AN.S1 (AN.l2 18446744073709551615)) _ _ _ _=_
  unfold AN.S0
  rw [AJ (by rw [Aq];omega),cond_false,List.take_of_length_le (by omega)]
  unfold AN.S1
  rw [min_eq _ (by omega) (by omega),Option.bind_some]
  exact Zi4 (Fs (CD l)) (CD l) (by omega) (CD l).length 0 18446744073709551615 (by omega) (by omega) (by omega)
 | succ d ih=>
  intro i n hd hi hn
  obtain ⟨n,rfl⟩:∃ k,n=k+1:=⟨n-1,by omega⟩
  have hdl:=JJ l
  have hlt:i+1<l.length:=by omega
  have hlt0:i<l.length:=by omega
  have hdi:i<(CD l).length:=by omega
  show AN.S0 _ (AN.l0 (AN.t1 fu) n) _ _ _=_
  unfold AN.S0
  rw [Bj (by rw [Aq];omega),cond_true,Dk (by omega),show ((i+1:Nat):Int)-1=(i:Int) by omega,AA (by rw [Aq];omega),cond_true,AA (by rw [Aq];omega),cond_true,Bg (by rw [List.length_take];omega),cond_true,AQ hlt,AQ hlt0,tK,AE (by omega)]
  have hd1:=Sm hlt hdi
  have:=ih (i+1) n (by omega) (by omega) (by omega)
  rw [take_one hdi,hd1] at this
  exact this
def Dc (l:List Int):List Int:=(CD l).map fun x=>W64 (x-Fs (CD l))
theorem YJ (l:List Int) (hl:l.length≤65536) (h2:2≤l.length):AN l=some (Dc l,Fs (CD l)):=by
 show AN.S (AN.l0 (AN.t1 fu) fu) l=_
 unfold AN.S
 rw [Aq,DL (by omega),Bg (by show l.length*8≤_;omega)]
 exact Zj4 l hl h2 (l.length-1) 0 fu (by omega) (by omega) (by unfold fu;omega)
theorem IP (l:List Int):(Dc l).length=l.length-1:=by unfold Dc;rw [List.length_map,JJ]
theorem jY (l:List Int):∀ x∈Dc l,BZ x:=fun x hx=>by
 unfold Dc at hx
 obtain ⟨_,_,rfl⟩:=List.mem_map.1 hx
 exact HU _
theorem Wy (l:List Int):∀ x∈CD l,BZ x:=fun x hx=>by
 unfold CD at hx
 obtain ⟨_,_,rfl⟩:=List.mem_map.1 hx
 exact HU _
def JK (l:List Int) (v:Nat):List Int:=
 if l.length=0 then [] else if l.length=1 then vB (l.getD 0 0) else vB (l.getD 0 0)++(vB (Fs (CD l))++((v:Int) :: CQ (Dc l) v))
theorem TP {v:Nat} (h:v≤64):IntKind.wrap .u8 (v:Int)=(v:Int):=by rw [GF];omega
theorem Sn (l:List Int) (hl:l.length≤65536) {v:Nat} (hv:BN (Dc l)=some (v:Int)) (h64:v≤64):Na l=some (ofBytes (JK l v),0):=by
 unfold Na JK
 rw [Aq,AJ (by omega),cond_false]
 by_cases h0:l.length=0
 ·rw [CT (by omega),cond_true,if_pos h0]
  rfl
 ·rw [CE (by omega),cond_false,if_neg h0]
  have hl0:0<l.length:=by omega
  have hn0:nth l 0 0=l.getD 0 0:=rfl
  by_cases h1:l.length=1
  ·rw [CT (by omega),cond_true,if_pos h1,AA (by omega),cond_true,hn0,Gr,Option.bind_some,En]
  ·rw [CE (by omega),cond_false,if_neg h1,YJ l hl (by omega),Option.bind_some]
   dsimp only
   have hfl:=IP l
   have hb:(Dc l).length*v≤65536*64:=Nat.mul_le_mul (by omega) h64
   have hpl:=EF (Dc l) v
   have k1:=Eo (l.getD 0 0)
   have k2:=Eo (Fs (CD l))
   rw [hv,Option.bind_some,Kv (Dc l) h64 (by omega) hv (Nat.le_refl _),Option.bind_some,AA (by omega),cond_true,hn0,Gr,Option.bind_some,Gr,Option.bind_some,En,En,Ed,TP h64,Ed]
   have r1:CK (ofBytes (vB (l.getD 0 0))) (ofBytes (vB (Fs (CD l))))=true:=decide_eq_true (by rw [AD,AD];omega)
   have r2:CK (ofBytes (vB (l.getD 0 0)++vB (Fs (CD l)))) (ofBytes [(v:Int)])=true:=decide_eq_true (by rw [AD,AD,List.length_append,List.length_singleton];omega)
   have r3:CK (ofBytes (vB (l.getD 0 0)++vB (Fs (CD l))++[(v:Int)])) (ofBytes (CQ (Dc l) v))=true:=decide_eq_true (by rw [AD,AD,List.length_append,List.length_append,List.length_singleton];omega)
   dsimp only
   rw [r1,r2,r3,Ed,cond_true,cond_true,cond_true]
   simp
theorem pV (l:List Int) {v:Nat} (h:v≤64):∀ b∈JK l v,0≤b∧b<256:=fun b hb=>by
 unfold JK at hb
 split at hb
 ·cases hb
 ·split at hb
  ·exact Jf _ b hb
  ·rcases List.mem_append.1 hb with hb | hb
   ·exact Jf _ b hb
   ·rcases List.mem_append.1 hb with hb | hb
    ·exact Jf _ b hb
    ·rcases List.mem_cons.1 hb with rfl | hb
     ·omega
     ·exact Lj _ _ b hb
theorem pW (l:List Int) (hl:l.length≤65536) (h2:2≤l.length) (h64:∀ x∈l,BZ x) {o2:ByteArray→List Int→Bool→Option (List Int×Int)} {s:ByteArray} {bad:Bool}:∀ (d i n:Nat),d=l.length-1-i→i≤l.length-1→d<n→
  AP.l1 o2 n s (l.take (i+1)) (Fs (CD l)) (Dc l) ((Dc l).length:Int) (i:Int) bad=o2 s l bad:=by
 have hfl:=IP l
 intro d
 induction d with
 | zero=>
  intro i n hd hi hn
  have:i=l.length-1:=by omega
  subst this
  obtain ⟨n,rfl⟩:∃ k,n=k+1:=⟨n-1,by omega⟩
  show AP.S1 _ _ _ _ _ _ _ _ _=_
  unfold AP.S1
  rw [AJ (by omega),cond_false,List.take_of_length_le (by omega)]
 | succ d ih=>
  intro i n hd hi hn
  obtain ⟨n,rfl⟩:∃ k,n=k+1:=⟨n-1,by omega⟩
  have hlt:i+1<l.length:=by omega
  have hlt0:i<l.length:=by omega
  have hfi:i<(Dc l).length:=by omega
  show AP.S1 o2 (AP.l1 o2 n) _ _ _ _ _ _ _=_
  unfold AP.S1
  have htl:(l.take (i+1)).length=i+1:=by rw [List.length_take];omega
  have hidx:AT .i64 (Ai (l.take (i+1))) 1=(i:Int):=by rw [Aq,htl,Dk (by omega)];omega
  have hlast:nth (l.take (i+1)) (i:Int) 0=l[i]:=by
   rw [AQ (show i<(l.take (i+1)).length by omega),List.getElem_take]
  have hval:Ij (Ij l[i] (Fs (CD l))) (Dc l)[i]=l[i+1]:=by
   rw [ef,ef]
   have hf:(Dc l)[i]=W64 (W64 (l[i+1]-l[i])-Fs (CD l)):=by
    have hdl:=JJ l
    have h2:(Dc l)[i]? = some (W64 ((CD l)[i]'(by omega)-Fs (CD l))):=by
     unfold Dc
     rw [List.getElem?_map,List.getElem?_eq_getElem (show i<(CD l).length by omega),Option.map_some]
    rw [List.getElem?_eq_getElem hfi] at h2
    rw [Option.some.inj h2,Sm hlt]
   rw [hf]
   have h:=h64 l[i+1] (List.getElem_mem hlt)
   rw [show W64 (W64 (l[i]+Fs (CD l))+W64 (W64 (l[i+1]-l[i])-Fs (CD l)))=W64 l[i+1] from YI (by
    have e1:=pU (l[i]+Fs (CD l))
    have e2:=pU (W64 (l[i+1]-l[i])-Fs (CD l))
    have e3:=pU (l[i+1]-l[i])
    omega)]
   exact GY h
  rw [Bj (by omega),cond_true,AA (by rw [Aq];omega),cond_true,hidx,AA (by rw [Aq];omega),cond_true,Bg (by omega),cond_true,hlast,AQ hfi,hval,AE (by omega),← take_one hlt]
  exact ih (i+1) n (by omega) (by omega) (by omega)
theorem bW (l:List Int) (hl:l.length≤65536) (h64:∀ x∈l,BZ x) {v:Nat} (hv:BN (Dc l)=some (v:Int)) (hv64:v≤64) (hwd:Wd (Dc l) v) {s:ByteArray} (hs:Ax s=JK l v):
  AP s (l.length:Int)=some (l,0):=by
 have hse:s=ofBytes (JK l v):=by rw [← hs,FT]
 have hS2:AP.S2 s l false=some (l,0):=by
  unfold AP.S2
  rw [Sn l hl hv hv64,Option.bind_some]
  dsimp only
  rw [cond_false,Db rfl,cond_false,JZ hse.symm]
  rfl
 show AP.S (AP.t0 fu) s _=_
 unfold AP.S
 rw [AJ (by omega),cond_false,AJ (by omega),cond_false]
 by_cases h0:l.length=0
 ·rw [AJ (by omega),cond_false]
  have:l=[]:=List.eq_nil_of_length_eq_zero h0
  subst this
  show AP.S0 (AP.l1 (AP.t2 _) _) AP.S2 s _ [] s false=_
  unfold AP.S0
  rw [AJ (by simp),cond_false]
  exact hS2
 ·have hl0:0<l.length:=by omega
  have hx64:BZ (l.getD 0 0):=by rw [getD_at hl0];exact h64 _ (List.getElem_mem hl0)
  rw [Bj (by omega),cond_true]
  unfold JK at hs
  rw [if_neg h0] at hs
  have htake1:l.take 1=[l.getD 0 0]:=by
   rw [show (1:Nat)=0+1 from rfl,take_one hl0,getD_at hl0];rfl
  by_cases h1:l.length=1
  ·rw [if_pos h1] at hs
   have hs':Ax s=vB (l.getD 0 0)++[]:=by rw [hs,List.append_nil]
   have hsz:s.size=(vB (l.getD 0 0)).length:=by rw [← Bz,hs]
   have h1w:Fm s false=some (l.getD 0 0,cutS s ((vB (l.getD 0 0)).length:Int) (AX s),false):=by
    unfold Fm
    rw [Ic hx64 hs',Option.bind_some]
    dsimp only
    rw [cond_false,DO (by rw [CB];omega),cond_true,Db rfl]
   rw [h1w,Option.bind_some]
   show AP.S0 (AP.l1 (AP.t2 _) _) AP.S2 s _ _ _ _=_
   unfold AP.S0
   rw [AJ (by omega),cond_false]
   dsimp only
   have:[l.getD 0 0]=l:=by rw [← htake1,List.take_of_length_le (by omega)]
   rw [this]
   exact hS2
  ·rw [if_neg h1] at hs
   have hfl:=IP l
   have hdl:=JJ l
   have hm64:BZ (Fs (CD l)):=aC (by omega) (Wy l)
   have hsz:s.size=(vB (l.getD 0 0)).length+((vB (Fs (CD l))).length+((CQ (Dc l) v).length+1)):=by rw [← Bz,hs,List.length_append,List.length_append,List.length_cons]
   have h1w:Fm s false=some (l.getD 0 0,cutS s ((vB (l.getD 0 0)).length:Int) (AX s),false):=by
    unfold Fm
    rw [Ic hx64 hs,Option.bind_some]
    dsimp only
    rw [cond_false,DO (by rw [CB];omega),cond_true,Db rfl]
   have hc1:=GC hs
   generalize hs1:cutS s ((vB (l.getD 0 0)).length:Int) (AX s)=s1 at h1w hc1
   have hsz1:s1.size=(vB (Fs (CD l))).length+((CQ (Dc l) v).length+1):=by rw [← Bz,hc1,List.length_append,List.length_cons]
   have h2w:Fm s1 false=some (Fs (CD l),cutS s1 ((vB (Fs (CD l))).length:Int) (AX s1),false):=by
    unfold Fm
    rw [Ic hm64 hc1,Option.bind_some]
    dsimp only
    rw [cond_false,DO (by rw [CB];omega),cond_true,Db rfl]
   have hc2:=GC hc1
   generalize hs2:cutS s1 ((vB (Fs (CD l))).length:Int) (AX s1)=s2 at h2w hc2
   have hsz2:s2.size=(CQ (Dc l) v).length+1:=by rw [← Bz,hc2,List.length_cons]
   have hne:s2≠eB:=fun h=>by have:=KT.1 h;omega
   have hb0:byteAt s2 0=(v:Int):=Io hc2 (i:=0) rfl
   have hc3:Ax (cutS s2 1 (AX s2))=CQ (Dc l) v:=by
    have:=GC (a:=[(v:Int)]) (rest:=CQ (Dc l) v) hc2
    exact this
   have hpk:=Nj (l:=Dc l) (w:=v) hv64 (by omega) (jY l) hwd.1 hc3
   rw [h1w,Option.bind_some]
   show AP.S0 (AP.l1 (AP.t2 18446744073709551615) 18446744073709551615) (AP.t2 18446744073709551615) s _ _ _ _=_
   unfold AP.S0
   rw [Bj (by omega),cond_true]
   dsimp only
   rw [h2w,Option.bind_some]
   dsimp only
   rw [cond_false,Ob hne,cond_false,DO (by rw [CB];omega),cond_true,AA (by rw [CB];omega),cond_true,hb0,Ez (by omega),Dk (by omega),show (l.length:Int)-1=((Dc l).length:Int) by omega,hpk,Option.bind_some]
   dsimp only
   rw [Db rfl,cond_false,← htake1]
   have:=pW l hl (by omega) h64 (o2:=AP.t2 18446744073709551615) (s:=s) (bad:=false) (l.length-1) 0 18446744073709551615 (by omega) (by omega) (by omega)
   rw [Aq]
   exact this.trans hS2
end Go.AM.Pure
end

section
/- JL: numbers by their places among the distinct ones. -/
namespace Go.AM.Pure
open Go.AM
section
variable {α : Type} [Inhabited α] [DecidableEq α]
omit [DecidableEq α] in
theorem Ka (z:List α) {i:Nat} (h:i<z.length):z.toArray[i]! = z[i]:=by
 rw [getElem!_pos _ i (by simpa using h),List.getElem_toArray]
theorem Sk {le:α→α→Prop} (hr:∀ a,le a a) (ht:∀ a b c,le a b→le b c→le a c) (ha:∀ a b,le a b→le b a→a=b) {z:List α} (hz:z.Pairwise le):
  (Lib.compact z).Pairwise (fun a b=>le a b∧a≠b)∧∀ x,x∈Lib.compact z↔x∈z:=by
 have hs:∀ i j,(hij:i≤j)→(h:j<z.length)→le (z[i]'(by omega)) z[j]:=fun i j hij h=>by
  by_cases he:i=j
  ·subst he;exact hr _
  ·exact (List.pairwise_iff_getElem.1 hz) i j (by omega) h (by omega)
 unfold Lib.compact Lib.compactUpTo
 constructor
 ·rw [List.pairwise_map]
  refine List.Pairwise.imp_of_mem ?_ (List.Pairwise.filter _ List.pairwise_lt_range)
  intro a b hma hmb hab
  obtain ⟨h1,_⟩:=List.mem_filter.1 hma
  obtain ⟨h2,h3⟩:=List.mem_filter.1 hmb
  have h1:=List.mem_range.1 h1
  have h2:=List.mem_range.1 h2
  have hne:z.toArray[b]!≠z.toArray[b-1]!:=by
   rcases of_decide_eq_true h3 with h | h
   ·omega
   ·exact h
  rw [Ka z h2,Ka z (show b-1<z.length by omega)] at hne
  rw [Ka z h1,Ka z h2]
  have k1:=hs a (b-1) (by omega) (by omega)
  have k2:=hs (b-1) b (by omega) h2
  refine ⟨ht _ _ _ k1 k2,fun he=>hne ?_⟩
  rw [he] at k1
  exact ha _ _ k1 k2
 ·intro x
  constructor
  ·intro hx
   obtain ⟨j,hj,rfl⟩:=List.mem_map.1 hx
   have:=List.mem_range.1 (List.mem_filter.1 hj).1
   rw [Ka z this]
   exact List.getElem_mem this
  ·intro hx
   obtain ⟨j,hj,rfl⟩:=List.mem_iff_getElem.1 hx
   clear hx
   induction j with
   | zero=>exact List.mem_map.2 ⟨0,List.mem_filter.2 ⟨List.mem_range.2 hj,by simp [Lib.keeps]⟩,Ka z hj⟩
   | succ j ih=>
    by_cases hq:z[j+1]=z[j]
    ·rw [hq];exact ih (by omega)
    ·refine List.mem_map.2 ⟨j+1,List.mem_filter.2 ⟨List.mem_range.2 hj,?_⟩,Ka z hj⟩
     refine decide_eq_true (.inr ?_)
     rw [Ka z hj,Nat.add_sub_cancel,Ka z (show j<z.length by omega)]
     exact hq
end
def BB (l:List Int):List Int:=Lib.compact (l.mergeSort fun x y=>decide (x≤y))
def BQ (l:List Int):List Int:=l.map fun v=>((BB l).idxOf v:Int)
theorem FE (l:List Int):(BB l).Pairwise (· < ·)∧∀ x,x∈BB l↔x∈l:=by
 have hs:=List.pairwise_mergeSort (le:=fun x y:Int=>decide (x≤y)) (fun a b c h1 h2=>by simp at *;omega) (fun a b=>by simp;omega) l
 have h:=Sk (le:=fun a b:Int=>a≤b) (fun a=>Int.le_refl a) (fun a b c h1 h2=>Int.le_trans h1 h2) (fun a b h1 h2=>Int.le_antisymm h1 h2) (hs.imp fun h=>of_decide_eq_true h)
 refine ⟨h.1.imp fun h=>by omega,fun x=>(h.2 x).trans List.mem_mergeSort⟩
theorem IK (l:List Int):(BB l).length≤l.length:=by
 unfold BB
 have h:∀ z:List Int,(Lib.compact z).length≤z.length:=fun z=>by
  unfold Lib.compact Lib.compactUpTo
  rw [List.length_map]
  exact Nat.le_trans (List.length_filter_le _ _) (by rw [List.length_range];exact Nat.le_refl _)
 have:=h (l.mergeSort fun x y=>decide (x≤y))
 rwa [List.length_mergeSort] at this
theorem aB {l:List Int} (h:0<l.length):0<(BB l).length:=by
 have:l[0]∈BB l:=((FE l).2 _).2 (List.getElem_mem h)
 exact List.length_pos_of_mem this
theorem OE {d:List Int} (h:d.Pairwise (· < ·)) {i j:Nat} (hij:i<j) (hj:j<d.length):d[i]'(by omega)<d[j]:=List.pairwise_iff_getElem.1 h i j (by omega) hj hij
theorem ea (x y:Int):cmp_Less_int x y=ltI x y:=by
 unfold cmp_Less_int
 have:cmp_isNaN_int x=false:=by
  show neI x x=false
  exact Db rfl
 rw [this]
 rfl
theorem Zfx (d:List Int) (hl:d.length<1000000000) (hd:d.Pairwise (· < ·)) {k:Nat} (hk:k<d.length):∀ (g i j n:Nat),g=j-i→i≤k→k≤j→j≤d.length→g<n→
  Ap.l0 (Ap.t1 fu) n d d[k] (d.length:Int) (i:Int) (j:Int)=some ((k:Int),true):=by
 intro g
 induction g using Nat.strongRecOn with
 | ind g ih=>
 intro i j n hg hi hj hjl hn
 obtain ⟨n,rfl⟩:∃ m,n=m+1:=⟨n-1,by omega⟩
 show Ap.S0 Ap.S1 (Ap.l0 (Ap.t1 fu) n) _ _ _ _ _=_
 unfold Ap.S0
 by_cases hij:i<j
 ·have hh:IntKind.wrap .i64 (BG .u64 (IntKind.wrap .u64 (An .i64 (i:Int) (j:Int))) 1)=(((i+j) / 2:Nat):Int):=by
   have h1:IntKind.wrap .u64 ((i:Int)+(j:Int))=((i+j:Nat):Int):=by rw [Dj];omega
   have h2:=ND ((i+j:Nat):Int) 1 (by omega)
   rw [show ((1:Nat):Int)=1 from rfl,Int.pow_succ,Int.pow_zero,Int.one_mul] at h2
   rw [AE (by omega),h1,h2,Ez (by omega)]
   omega
  have hm:(i+j) / 2<d.length:=by omega
  rw [Bj (by omega),cond_true,hh,AA (by rw [Aq];omega),cond_true,AQ hm,ea,AE (by omega)]
  by_cases hlt:(i+j) / 2<k
  ·rw [Bj (OE hd hlt hk),cond_true]
   exact ih (j-((i+j) / 2+1)) (by omega) ((i+j) / 2+1) j n rfl (by omega) hj hjl (by omega)
  ·have:d[k]≤d[(i+j) / 2]:=by
    by_cases he:k=(i+j) / 2
    ·exact Int.le_of_eq (getElem_congr_idx he)
    ·exact Int.le_of_lt (OE hd (by omega) hm)
   rw [AJ this,cond_false]
   exact ih ((i+j) / 2-i) (by omega) i ((i+j) / 2) n rfl hi (by omega) (by omega) (by omega)
 ·have:i=k:=by omega
  subst this
  rw [AJ (by omega),cond_false]
  unfold Ap.S1
  rw [Bj (by omega),cond_true,AA (by rw [Aq];omega),cond_true,AQ hk,CT rfl]
  rfl
theorem Zcc1 (d:List Int) (hl:d.length<1000000000) (hd:d.Pairwise (· < ·)) {v:Int} (hv:v∈d):Ap d v=some ((d.idxOf v:Int),true):=by
 have hk:d.idxOf v<d.length:=List.idxOf_lt_length_iff.2 hv
 have hg:d[d.idxOf v]=v:=List.getElem_idxOf hk
 have:=Zfx d hl hd hk d.length 0 d.length fu (by omega) (by omega) (by omega) (by omega) (by unfold fu;omega)
 rw [hg] at this
 exact this
theorem jX (l:List Int) (hl:l.length≤65536) (lo:Nat) (t:List Int) (ht:List.take (BB l).length (List.drop lo t)=BB l):∀ (d i n:Nat),d=l.length-i→i≤l.length→d<n→
  Ce.l0 n lo (BB l).length ((BQ l).take i) l (l.length:Int) (i:Int) t=some (BB l,BQ l):=by
 have hpl:(BQ l).length=l.length:=by unfold BQ;rw [List.length_map]
 have hdl:=IK l
 intro d
 induction d with
 | zero=>
  intro i n hd hi hn
  have:i=l.length:=by omega
  subst this
  obtain ⟨n,rfl⟩:∃ k,n=k+1:=⟨n-1,by omega⟩
  show Ce.S0 _ _ _ _ _ _ _ _=_
  unfold Ce.S0
  rw [AJ (by omega),cond_false,ht,List.take_of_length_le (by omega)]
 | succ d ih=>
  intro i n hd hi hn
  obtain ⟨n,rfl⟩:∃ k,n=k+1:=⟨n-1,by omega⟩
  have hlt:i<l.length:=by omega
  show Ce.S0 (Ce.l0 n) _ _ _ _ _ _ _=_
  unfold Ce.S0
  rw [Bj (by omega),cond_true,AA (by rw [Aq];omega),cond_true,AQ hlt,ht,Zcc1 _ (by omega) (FE l).1 (((FE l).2 _).2 (List.getElem_mem hlt)),Option.bind_some,Bg (by rw [List.length_take];omega),cond_true,AE (by omega)]
  have hp:(BQ l)[i]'(by omega)=((BB l).idxOf l[i]:Int):=by
   have h2:(BQ l)[i]? = some ((BB l).idxOf l[i]:Int):=by
    unfold BQ
    rw [List.getElem?_map,List.getElem?_eq_getElem hlt,Option.map_some]
   rw [List.getElem?_eq_getElem (by omega)] at h2
   exact Option.some.inj h2
  have:=ih (i+1) n (by omega) (by omega) (by omega)
  rw [take_one (by omega),hp] at this
  exact this
theorem Qh (l:List Int) (hl:l.length≤65536) (h0:0<l.length):Ce l=some (BB l,BQ l):=by
 show Ce.S (Ce.l0 fu) l=_
 unfold Ce.S
 have hc:Hh 8 l=some l:=by
  unfold Hh
  rw [decide_eq_true h0,Bg (by omega)]
  rfl
 have hs:Wh l=some (l.mergeSort fun x y=>decide (x≤y)):=by
  unfold Wh
  rw [decide_eq_true (by omega)]
  rfl
 have hml:(l.mergeSort fun x y=>decide (x≤y)).length=l.length:=List.length_mergeSort _
 have hdl:=IK l
 have hcp:Wj (l.mergeSort fun x y=>decide (x≤y))=some (((BB l).length:Int),BB l++List.replicate (l.length-(BB l).length) 0):=by
  unfold Wj
  rw [decide_eq_true (by omega),hml]
  rfl
 rw [hc,Option.bind_some,Ip (x:=l.mergeSort fun x y=>decide (x≤y)) (by rw [decide_eq_true h0];rfl) hs (by rw [hml];simp),Option.bind_some,
  Ip (by rw [decide_eq_true (by omega)];rfl) hcp (by
   dsimp only
   rw [List.length_append,List.length_replicate,hml,decide_eq_true (by omega)]
   rfl),Option.bind_some]
 dsimp only
 rw [show Int.toNat ((BB l).length:Int)=(BB l).length from rfl,Aq]
 exact jX l hl 0 _ (by rw [List.drop_zero,List.take_left]) l.length 0 fu (by omega) (by omega) (by unfold fu;omega)
def Dy (d:List Int):List Int:=d.flatMap vB
theorem Wv (x:Int) (d:List Int):Dy (x :: d)=vB x++Dy d:=rfl
theorem QT (d:List Int) (x:Int):Dy (d++[x])=Dy d++vB x:=by unfold Dy;simp
theorem JI:∀ d:List Int,(Dy d).length≤10*d.length
 | []=>by simp [Dy]
 | x :: d=>by
  have:=JI d
  have:=Eo x
  rw [Wv,List.length_append,List.length_cons]
  omega
theorem Sl:∀ d:List Int,∀ b∈Dy d,0≤b∧b<256
 | [],b,h=>by cases h
 | x :: d,b,h=>by
  rw [Wv] at h
  rcases List.mem_append.1 h with h | h
  ·exact Jf _ b h
  ·exact Sl d b h
theorem tH (o:List Int) (hl:o.length≤65536):∀ (d i n:Nat) (f:Bool),d=o.length-i→i≤o.length→d<n→
  DD.l0 n o (o.length:Int) (i:Int) (f,Dy (o.take i))=some (ofBytes (Dy o),0):=by
 intro d
 induction d with
 | zero=>
  intro i n f hd hi hn
  have:i=o.length:=by omega
  subst this
  obtain ⟨n,rfl⟩:∃ k,n=k+1:=⟨n-1,by omega⟩
  show DD.S0 _ _ _ _ _=_
  unfold DD.S0
  rw [AJ (by omega),cond_false,List.take_length,Sr _ _ (Sl o)]
  rfl
 | succ d ih=>
  intro i n f hd hi hn
  obtain ⟨n,rfl⟩:∃ k,n=k+1:=⟨n-1,by omega⟩
  have hlt:i<o.length:=by omega
  have h1:=JI (o.take i)
  rw [List.length_take] at h1
  have h2:=Eo o[i]
  show DD.S0 (DD.l0 n) _ _ _ _=_
  unfold DD.S0
  rw [Bj (by omega),cond_true,AA (by rw [Aq];omega),cond_true,AQ hlt,Gr,Option.bind_some,En,Pl _ _ (by rw [AD];show (Dy _).length+_<_;omega),Option.bind_some,EC (Jf _),AE (by omega)]
  have:=ih (i+1) n false (by omega) (by omega) (by omega)
  rw [take_one hlt,QT] at this
  exact this
theorem eb (o:List Int) (hl:o.length≤65536):DD o=some (ofBytes (Dy o),0):=
 tH o hl o.length 0 fu true (by omega) (by omega) (by unfold fu;omega)
theorem Ha (l:List Int):(BQ l).length=l.length:=by unfold BQ;rw [List.length_map]
theorem MO {l:List Int}:∀ x∈BQ l,0≤x∧x<((BB l).length:Int):=fun x hx=>by
 unfold BQ at hx
 obtain ⟨v,hv,rfl⟩:=List.mem_map.1 hx
 have:=List.idxOf_lt_length_iff.2 (((FE l).2 v).2 hv)
 omega
theorem UI {l:List Int} {k:Nat} (hk:k<(BB l).length):(k:Int)∈BQ l:=by
 have hm:(BB l)[k]∈l:=((FE l).2 _).1 (List.getElem_mem hk)
 refine List.mem_map.2 ⟨_,hm,?_⟩
 have h1:(BB l).idxOf (BB l)[k]<(BB l).length:=List.idxOf_lt_length_iff.2 (List.getElem_mem hk)
 have h2:(BB l)[(BB l).idxOf (BB l)[k]]=(BB l)[k]:=List.getElem_idxOf h1
 have hinc:=(FE l).1
 rcases Nat.lt_trichotomy ((BB l).idxOf (BB l)[k]) k with h | h | h
 ·have:=OE hinc h hk;omega
 ·rw [h]
 ·have:=OE hinc h h1;omega
def LU (l:List Int) (v:Nat):List Int:=if l.length=0 then [] else vB ((BB l).length:Int)++(Dy (BB l)++CQ (BQ l) v)
theorem Ww (l:List Int) (hl:l.length≤65536) {v:Nat} (hv:BN (BQ l)=some (v:Int)) (h64:v≤64):LA l=some (ofBytes (LU l v),0):=by
 unfold LA Hs LU
 rw [Aq,AJ (by omega),cond_false]
 by_cases h0:l.length=0
 ·rw [CT (by omega),cond_true,if_pos h0]
  rfl
 ·have hdl:=IK l
  have hpl:=Ha l
  have hb:(BQ l).length*v≤65536*64:=Nat.mul_le_mul (by omega) h64
  have hpb:=EF (BQ l) v
  have k1:=Eo ((BB l).length:Int)
  have k2:=JI (BB l)
  rw [CE (by omega),cond_false,if_neg h0,Qh l hl (by omega),Option.bind_some]
  dsimp only
  rw [eb _ (by omega),Option.bind_some]
  dsimp only
  rw [Db rfl,cond_false,hv,Option.bind_some,Kv (BQ l) h64 (by omega) hv (Nat.le_refl _),Option.bind_some,Aq,Gr,Option.bind_some,En,Ed]
  dsimp only
  have r1:CK (ofBytes (vB ((BB l).length:Int))) (ofBytes (Dy (BB l)))=true:=decide_eq_true (by rw [AD,AD];omega)
  have r2:CK (ofBytes (vB ((BB l).length:Int)++Dy (BB l))) (ofBytes (CQ (BQ l) v))=true:=decide_eq_true (by rw [AD,AD,List.length_append];omega)
  rw [r1,r2,Ed,cond_true,cond_true,List.append_assoc]
  rfl
theorem Zgx {x:Int} (hx:BZ x) {s:ByteArray} {rest:List Int} (hs:Ax s=vB x++rest):Jt s=some (x,((vB x).length:Int)):=by
 unfold Jt
 rw [Ic hx hs,Option.bind_some]
 rfl
theorem Zhe {D:List Int} (hD:D.length≤65536) (hinc:D.Pairwise (· < ·)) (h64:∀ x∈D,BZ x) {s:ByteArray} {pre tail:List Int} (hs:Ax s=pre++(Dy D++tail)) (hsz:s.size<100000000) {o1:ByteArray→Int→Int→Int→List Int→Option (List Int×List Int×Int)} {xn size:Int}:
  ∀ (d i n:Nat),d=D.length-i→i≤D.length→d<n→
  Ad.l0 o1 n s xn size ((pre.length+(Dy (D.take i)).length:Nat):Int) (D.take i) (D.length:Int) (i:Int)=o1 s xn size ((pre.length+(Dy D).length:Nat):Int) D:=by
 have hsl:s.size=pre.length+((Dy D).length+tail.length):=by rw [← Bz,hs,List.length_append,List.length_append]
 intro d
 induction d with
 | zero=>
  intro i n hd hi hn
  have:i=D.length:=by omega
  subst this
  obtain ⟨n,rfl⟩:∃ k,n=k+1:=⟨n-1,by omega⟩
  show Ad.S0 _ _ _ _ _ _ _ _ _=_
  unfold Ad.S0
  rw [AJ (by omega),cond_false,List.take_length]
 | succ d ih=>
  intro i n hd hi hn
  obtain ⟨n,rfl⟩:∃ k,n=k+1:=⟨n-1,by omega⟩
  have hlt:i<D.length:=by omega
  show Ad.S0 o1 (Ad.l0 o1 n) _ _ _ _ _ _ _=_
  unfold Ad.S0
  have hsplit:Dy D=Dy (D.take i)++(vB D[i]++Dy (D.drop (i+1))):=by
   have:D=D.take i++D[i] :: D.drop (i+1):=by rw [← List.drop_eq_getElem_cons hlt,List.take_append_drop]
   have h2:Dy D=Dy (D.take i++D[i] :: D.drop (i+1)):=congrArg Dy this
   rw [h2]
   unfold Dy
   rw [List.flatMap_append,List.flatMap_cons]
  have hil:(Dy (D.take i)).length≤(Dy D).length:=by rw [hsplit,List.length_append];omega
  have hcut:Ax (cutS s ((pre.length+(Dy (D.take i)).length:Nat):Int) (AX s))=vB D[i]++(Dy (D.drop (i+1))++tail):=by
   have:=GC (s:=s) (a:=pre++Dy (D.take i)) (rest:=vB D[i]++(Dy (D.drop (i+1))++tail)) (by rw [hs,hsplit];simp)
   rw [List.length_append] at this
   exact this
  have hv:=Eo D[i]
  have htl:(D.take i).length=i:=by rw [List.length_take];omega
  have hnx:An .i64 ((pre.length+(Dy (D.take i)).length:Nat):Int) ((vB D[i]).length:Int)=((pre.length+(Dy (D.take (i+1))).length:Nat):Int):=by
   have:(Dy (D.take (i+1))).length=(Dy (D.take i)).length+(vB D[i]).length:=by rw [take_one hlt,QT,List.length_append]
   rw [AE (by omega),this]
   omega
  rw [Bj (by omega),cond_true,DO (by rw [CB];omega),cond_true,Zgx (h64 _ (List.getElem_mem hlt)) hcut,Option.bind_some]
  dsimp only
  rw [CE (by omega),cond_false,hnx,AE (by omega),← take_one hlt]
  have:=ih (i+1) n (by omega) (by omega) (by omega)
  rw [Bg (by omega)]
  by_cases hi0:i=0
  ·rw [AJ (by omega),cond_false,cond_true]
   exact this
  ·have hlt1:i-1<(D.take i).length:=by omega
   rw [Bj (by omega),cond_true,Dk (by omega),AA (by rw [Aq,htl];omega),cond_true,show (i:Int)-1=((i-1:Nat):Int) by omega,AQ hlt1,List.getElem_take,ID (OE hinc (by omega) hlt),cond_false,cond_true]
   exact this
def Ek (size:Nat) (p:List Int):List Bool:=(List.range size).map fun k:Nat=>p.any fun x=>decide (x=(k:Int))
theorem ec (size:Nat) (p:List Int) (x:Int) (h0:0≤x):List.set (Ek size p) x.toNat true=Ek size (p++[x]):=by
 apply List.ext_getElem
 ·unfold Ek;simp
 ·intro k h1 h2
  have hk:k<size:=by unfold Ek at h2;simpa using h2
  rw [List.getElem_set]
  have e1:∀ q:List Int,∀ h:k<(Ek size q).length,(Ek size q)[k]=q.any fun x=>decide (x=(k:Int)):=fun q h=>by
   have h2:(Ek size q)[k]? = some (q.any fun x=>decide (x=(k:Int))):=by
    unfold Ek
    rw [List.getElem?_map,List.getElem?_range hk,Option.map_some]
   rw [List.getElem?_eq_getElem h] at h2
   exact Option.some.inj h2
  rw [e1 (p++[x]) h2,List.any_append]
  by_cases hx:x.toNat=k
  ·rw [if_pos hx]
   have:x=(k:Int):=by omega
   simp [this]
  ·rw [if_neg hx,e1]
   have:¬ x=(k:Int):=by omega
   simp [this]
theorem Zie {D P:List Int} (hP:P.length≤65536) (hPm:∀ x∈P,0≤x∧x<(D.length:Int)) (_hD:D.length≤65536) {o3:List Int→List Int→List Bool→Option (List Int×List Int×Int)}:
  ∀ (d i n:Nat),d=P.length-i→i≤P.length→d<n→
  Ad.l2 o3 n (D.length:Int) D P P (P.length:Int) (i:Int) (Ek D.length (P.take i))=o3 D P (Ek D.length P):=by
 intro d
 induction d with
 | zero=>
  intro i n hd hi hn
  have:i=P.length:=by omega
  subst this
  obtain ⟨n,rfl⟩:∃ k,n=k+1:=⟨n-1,by omega⟩
  show Ad.S2 _ _ _ _ _ _ _ _ _=_
  unfold Ad.S2
  rw [AJ (by omega),cond_false,List.take_length]
 | succ d ih=>
  intro i n hd hi hn
  obtain ⟨n,rfl⟩:∃ k,n=k+1:=⟨n-1,by omega⟩
  have hlt:i<P.length:=by omega
  have hx:=hPm P[i] (List.getElem_mem hlt)
  have hsl:(Ek D.length (P.take i)).length=D.length:=by unfold Ek;simp
  show Ad.S2 o3 (Ad.l2 o3 n) _ _ _ _ _ _ _=_
  unfold Ad.S2
  rw [Bj (by omega),cond_true,AA (by rw [Aq];omega),cond_true,AQ hlt,AJ hx.1,cond_false,ID hx.2,cond_false,AA (by rw [Aq,hsl];exact hx),cond_true,AE (by omega),ec _ _ _ hx.1,← take_one hlt]
  exact ih (i+1) n (by omega) (by omega) (by omega)
theorem Wx (l:List Bool) (hl:l.length<4611686018427387904) (hall:∀ b∈l,b=true):∀ (d i n:Nat),d=l.length-i→i≤l.length→d<n→AZ.l0 n l false (l.length:Int) (i:Int)=some (-1):=by
 intro d
 induction d with
 | zero=>
  intro i n hd hi hn
  have:i=l.length:=by omega
  subst this
  obtain ⟨n,rfl⟩:∃ k,n=k+1:=⟨n-1,by omega⟩
  show AZ.S0 _ _ _ _ _=_
  unfold AZ.S0
  rw [AJ (by omega),cond_false]
 | succ d ih=>
  intro i n hd hi hn
  obtain ⟨n,rfl⟩:∃ k,n=k+1:=⟨n-1,by omega⟩
  have hlt:i<l.length:=by omega
  show AZ.S0 (AZ.l0 n) _ _ _ _=_
  unfold AZ.S0
  rw [Bj (by omega),cond_true,AA (by rw [Aq];omega),cond_true,AQ hlt,hall _ (List.getElem_mem hlt),show eqB false true=false from rfl,cond_false,AE (by omega)]
  exact ih (i+1) n (by omega) (by omega) (by omega)
theorem tI {l:List Int} (hl:l.length≤65536) (h0:0<l.length) {v:Nat} (h:Wd [((BB l).length:Int)-1] v):Wd (BQ l) v:=by
 have hdl:=IK l
 have hdp:=aB h0
 obtain ⟨h1,h2⟩:=h
 have h1:=h1 _ (List.mem_singleton.2 rfl)
 constructor
 ·intro x hx
  have:=MO x hx
  omega
 ·rcases h2 with h2 | ⟨x,hx,h2⟩
  ·exact .inl h2
  ·have hx:=List.mem_singleton.1 hx
   subst hx
   right
   have:=UI (l:=l) (k:=(BB l).length-1) (by omega)
   refine ⟨_,this,?_⟩
   rw [show (((BB l).length-1:Nat):Int)=((BB l).length:Int)-1 by omega]
   exact h2
theorem bV {D P:List Int} (_hD:D.length≤65536) (hP:P.length≤65536) (hPm:∀ x∈P,0≤x∧x<(D.length:Int)):∀ (d i n:Nat),d=P.length-i→i≤P.length→d<n→
  Cg.l0 n D ((P.take i).map fun x=>D.getD x.toNat 0) P (P.length:Int) (i:Int)=some (P.map fun x=>D.getD x.toNat 0):=by
 intro d
 induction d with
 | zero=>
  intro i n hd hi hn
  have:i=P.length:=by omega
  subst this
  obtain ⟨n,rfl⟩:∃ k,n=k+1:=⟨n-1,by omega⟩
  show Cg.S0 _ _ _ _ _ _=_
  unfold Cg.S0
  rw [AJ (by omega),cond_false,List.take_length]
 | succ d ih=>
  intro i n hd hi hn
  obtain ⟨n,rfl⟩:∃ k,n=k+1:=⟨n-1,by omega⟩
  have hlt:i<P.length:=by omega
  have hx:=hPm P[i] (List.getElem_mem hlt)
  show Cg.S0 (Cg.l0 n) _ _ _ _ _=_
  unfold Cg.S0
  rw [Bj (by omega),cond_true,AA (by rw [Aq];omega),cond_true,AQ hlt,AA (by rw [Aq];exact hx),cond_true,Bg (by rw [List.length_map,List.length_take];omega),cond_true,AE (by omega)]
  have:=ih (i+1) n (by omega) (by omega) (by omega)
  rw [take_one hlt,List.map_append] at this
  exact this
theorem tJ (l:List Int):(BQ l).map (fun x=>(BB l).getD x.toNat 0)=l:=by
 unfold BQ
 rw [List.map_map]
 conv=>rhs;rw [← List.map_id l]
 apply List.map_congr_left
 intro v hv
 have hk:=List.idxOf_lt_length_iff.2 (((FE l).2 v).2 hv)
 show (BB l).getD (((BB l).idxOf v:Nat):Int).toNat 0=v
 rw [show (((BB l).idxOf v:Nat):Int).toNat=(BB l).idxOf v from rfl,getD_at hk,List.getElem_idxOf hk]
theorem ed (l:List Int) (hl:l.length≤65536) (h64:∀ x∈l,BZ x) {v:Nat} (hv64:v≤64) (hwd:Wd (BQ l) v) {s:ByteArray} (hs:Ax s=LU l v) (h0:0<l.length):
  Ad s (l.length:Int)=some (BB l,BQ l,0):=by
 have hdl:=IK l
 have hdp:=aB h0
 have hpl:=Ha l
 have hs':Ax s=vB ((BB l).length:Int)++(Dy (BB l)++CQ (BQ l) v):=by
  unfold LU at hs
  rwa [if_neg (by omega)] at hs
 have hb:(BQ l).length*v≤65536*64:=Nat.mul_le_mul (by omega) hv64
 have hpb:=EF (BQ l) v
 have k1:=Eo ((BB l).length:Int)
 have k2:=JI (BB l)
 have hsz:s.size=(vB ((BB l).length:Int)).length+((Dy (BB l)).length+(CQ (BQ l) v).length):=by rw [← Bz,hs',List.length_append,List.length_append]
 show Ad.S (Ad.l0 (Ad.t1 fu) fu) s _=_
 unfold Ad.S
 rw [AJ (by omega),cond_false,AJ (by omega),cond_false,CE (by omega),cond_false,Ic (by unfold BZ;omega) hs',Option.bind_some]
 dsimp only
 rw [Db rfl,cond_false,AJ (by omega),cond_false,AJ (by omega),cond_false]
 have hloop:=Zhe (D:=BB l) (by omega) (FE l).1 (fun x hx=>h64 x (((FE l).2 x).1 hx)) hs' (by omega) (o1:=Ad.t1 fu) (xn:=(l.length:Int)) (size:=((BB l).length:Int)) (BB l).length 0 fu (by omega) (by omega) (by unfold fu;omega)
 rw [List.take_zero,show Dy []=[] from rfl,List.length_nil,Nat.add_zero] at hloop
 rw [show (0:Int)=((0:Nat):Int) from rfl,hloop]
 show Ad.S1 (Ad.l2 (Ad.t3 18446744073709551615) 18446744073709551615) s _ _ _ _=_
 unfold Ad.S1
 obtain ⟨v',w1,w2,w3⟩:=KS [((BB l).length:Int)-1] (by simp)
 have hvv:v'=v:=(tI hl h0 w3).unique hwd
 subst hvv
 have hcut:Ax (cutS s (((vB ((BB l).length:Int)).length+(Dy (BB l)).length:Nat):Int) (AX s))=CQ (BQ l) v':=by
  have:=GC (s:=s) (a:=vB ((BB l).length:Int)++Dy (BB l)) (rest:=CQ (BQ l) v') (by rw [hs',List.append_assoc])
  rw [List.length_append] at this
  exact this
 have hpk:=Nj (l:=BQ l) (w:=v') hv64 (by omega) (fun x hx=>by have:=MO x hx;unfold BZ;omega) hwd.1 hcut
 rw [hpl] at hpk
 rw [DO (by rw [CB];omega),cond_true,Dk (by omega),w1,Option.bind_some,hpk,Option.bind_some]
 dsimp only
 rw [Db rfl,cond_false,DL (by omega),Bg (by show (BB l).length*1≤_;omega)]
 have hseen0:List.replicate (Int.toNat ((BB l).length:Int)) false=Ek (BB l).length ((BQ l).take 0):=by
  unfold Ek
  rw [List.take_zero]
  symm
  rw [List.eq_replicate_iff]
  refine ⟨by simp,fun b hb=>?_⟩
  obtain ⟨k,_,rfl⟩:=List.mem_map.1 hb
  rfl
 have hl2:=Zie (D:=BB l) (P:=BQ l) (by omega) (fun x hx=>MO x hx) (by omega) (o3:=Ad.t3 18446744073709551615) (BQ l).length 0 18446744073709551615 (by omega) (by omega) (by omega)
 rw [hseen0,Aq]
 refine Eq.trans hl2 ?_
 show Ad.S3 (BB l) (BQ l) (Ek (BB l).length (BQ l))=_
 unfold Ad.S3
 have hsb:∀ b∈Ek (BB l).length (BQ l),b=true:=fun b hb=>by
  unfold Ek at hb
  obtain ⟨k,hk,rfl⟩:=List.mem_map.1 hb
  exact List.any_eq_true.2 ⟨_,UI (List.mem_range.1 hk),decide_eq_true rfl⟩
 have hsbl:(Ek (BB l).length (BQ l)).length=(BB l).length:=by unfold Ek;simp
 have hcon:DV (Ek (BB l).length (BQ l)) false=some false:=by
  unfold DV
  have:=Wx _ (by omega) hsb (Ek (BB l).length (BQ l)).length 0 fu (by omega) (by omega) (by unfold fu;omega)
  have h2:AZ (Ek (BB l).length (BQ l)) false=some (-1):=this
  rw [h2]
  rfl
 rw [hcon]
 rfl
theorem Vu (l:List Int) (hl:l.length≤65536) (h64:∀ x∈l,BZ x) {v:Nat} (hv64:v≤64) (hwd:Wd (BQ l) v) {s:ByteArray} (hs:Ax s=LU l v):
  Hu s (l.length:Int)=some (l,0):=by
 unfold Hu
 by_cases h0:l.length=0
 ·have hse:s=eB:=KT.2 (by rw [← Bz,hs];unfold LU;rw [if_pos h0];rfl)
  have:l=[]:=List.eq_nil_of_length_eq_zero h0
  subst this
  have h1:Ad s (([]:List Int).length:Int)=some ([],[],0):=by
   show Ad.S _ s 0=_
   unfold Ad.S
   rw [AJ (by omega),cond_false,AJ (by omega),cond_false,CT rfl,cond_true,JZ hse]
   rfl
  rw [h1]
  rfl
 ·have hdl:=IK l
  rw [ed l hl h64 hv64 hwd hs (by omega),Option.bind_some]
  dsimp only
  rw [Db rfl,cond_false]
  have:=bV (D:=BB l) (P:=BQ l) (by omega) (by rw [Ha];exact hl) (fun x hx=>MO x hx) (BQ l).length 0 fu (by omega) (by omega) (by rw [Ha];unfold fu;omega)
  have h2:Cg (BB l) (BQ l)=some ((BQ l).map fun x=>(BB l).getD x.toNat 0):=this
  rw [h2,tJ]
  rfl
end Go.AM.Pure
end

section
/- block: Put, and what is read of it. -/
namespace Go.AM.Pure
open Go.AM
theorem Sz (s:ByteArray) (a b:Nat):Ax (cutS s (a:Int) (b:Int))=((Ax s).drop a).take (b-a):=by
 unfold Ax cutS
 show List.map _ (s.extract a b).data.toList=_
 rw [ByteArray.data_extract,Array.toList_extract,List.extract_eq_take_drop,← List.map_drop,← List.map_take]
theorem kW (c:Cell) (kind:Int):EB c kind = !(DZ c && (decide (c.1=0) || decide (c.1=kind))):=by
 unfold EB
 rw [bU]
 cases hm:DZ c with
 | false=>rw [if_neg (by decide)];rfl
 | true=>
  rw [if_pos rfl,Db rfl,cond_false]
  by_cases h0:c.1=0
  ·rw [Db h0,decide_eq_true h0];rfl
  ·rw [Jp h0,cond_true,decide_eq_false h0]
   by_cases h1:c.1=kind
   ·rw [Db h1,decide_eq_true h1];rfl
   ·rw [Jp h1,decide_eq_false h1];rfl
theorem uj (l:List Cell) (hl:l.length<4611686018427387904) (kind:Int):∀ (d i n:Nat),d=l.length-i→i≤l.length→d<n→(∀ j (h:j<l.length),j<i→EB l[j] kind=false)→
  ∃ r,Au.l0 n l kind (l.length:Int) (i:Int)=some r∧leI 0 r=l.any (fun c=>EB c kind):=by
 intro d
 induction d with
 | zero=>
  intro i n hd hi hn ha
  have:i=l.length:=by omega
  subst this
  obtain ⟨n,rfl⟩:∃ k,n=k+1:=⟨n-1,by omega⟩
  refine ⟨-1,?_,?_⟩
  ·show Au.S0 _ _ _ _ _=_
   unfold Au.S0
   rw [AJ (by omega),cond_false]
  ·rw [show leI 0 (-1)=false from rfl]
   symm
   rw [List.any_eq_false]
   intro x hx
   obtain ⟨j,hj,rfl⟩:=List.mem_iff_getElem.1 hx
   rw [ha j hj hj]
   decide
 | succ d ih=>
  intro i n hd hi hn ha
  obtain ⟨n,rfl⟩:∃ k,n=k+1:=⟨n-1,by omega⟩
  have hlt:i<l.length:=by omega
  show ∃ r,Au.S0 (Au.l0 n) _ _ _ _=_∧_
  unfold Au.S0
  rw [Bj (by omega),cond_true,AA (by rw [Aq];omega),cond_true,AQ hlt]
  cases hq:EB l[i] kind with
  | true=>
   rw [cond_true]
   refine ⟨_,rfl,?_⟩
   rw [DL (by omega)]
   symm
   rw [List.any_eq_true]
   exact ⟨l[i],List.getElem_mem hlt,hq⟩
  | false=>
   rw [cond_false,AE (by omega)]
   exact ih (i+1) n (by omega) (by omega) (by omega) fun j h hj=>by
    by_cases hji:j=i
    ·subst hji;exact hq
    ·exact ha j h (by omega)
theorem SA (l:List Cell) (hl:l.length<4611686018427387904) (kind:Int):CA l kind=some (l.any fun c=>EB c kind):=by
 unfold CA
 obtain ⟨r,h1,h2⟩:=uj l hl kind l.length 0 fu (by omega) (by omega) (by unfold fu;omega) fun j h hj=>by omega
 have:Au l kind=some r:=h1
 rw [this,Option.bind_some,h2]
def Iq (l:List Cell) (kind:Int):Prop:=1≤l.length∧l.length≤64∧(kind=1∨kind=2)∧∀ c∈l,DZ c=true∧(c.1=0∨c.1=kind)
theorem kX (l:List Cell) (kind:Int):(!(l.any fun c=>EB c kind))=true↔∀ c∈l,DZ c=true∧(c.1=0∨c.1=kind):=by
 rw [Bool.not_eq_true',List.any_eq_false]
 constructor
 ·intro h c hc
  have h1:=h c hc
  rw [kW,Bool.not_eq_true,Bool.not_eq_false',Bool.and_eq_true,Bool.or_eq_true,decide_eq_true_eq,decide_eq_true_eq] at h1
  exact h1
 ·intro h c hc
  rw [kW,Bool.not_eq_true,Bool.not_eq_false',Bool.and_eq_true,Bool.or_eq_true,decide_eq_true_eq,decide_eq_true_eq]
  exact h c hc
theorem kY {l:List Cell} {kind:Int} (h:Iq l kind):Lf l kind=some true:=by
 obtain ⟨h1,h2,h3,h4⟩:=h
 unfold Lf
 have h5:=(kX l kind).2 h4
 rw [Aq,AJ (by omega),cond_false,AJ (by omega),cond_false,SA l (by omega),Option.bind_some,h5]
 rcases h3 with rfl | rfl
 ·rw [Db rfl];rfl
 ·rw [Jp (by omega),Db rfl];rfl
theorem Zq4 {l:List Cell} {kind:Int} (hl:l.length<4611686018427387904) (h:¬ Iq l kind):Lf l kind=some false:=by
 unfold Lf
 rw [Aq]
 by_cases h1:1≤l.length
 ·by_cases h2:l.length≤64
  ·rw [AJ (by omega),cond_false,AJ (by omega),cond_false,SA l hl,Option.bind_some]
   have h5:(kind=1∨kind=2)→(!(l.any fun c=>EB c kind))=false:=fun hk=>by
    rw [Bool.eq_false_iff]
    intro h6
    exact h ⟨h1,h2,hk,(kX l kind).1 h6⟩
   by_cases k1:kind=1
   ·rw [Db k1,cond_false,h5 (.inl k1)]
   ·rw [Jp k1,cond_true]
    by_cases k2:kind=2
    ·rw [Db k2,cond_false,h5 (.inr k2)]
    ·rw [Jp k2,cond_true]
  ·rw [AJ (by omega),cond_false,Bj (by omega),cond_true]
 ·rw [Bj (by omega),cond_true]
abbrev LX (l:List Cell):List Int:=l.map fun c=>c.2.1
abbrev LY (l:List Cell):List ByteArray:=l.map fun c=>c.2.2
theorem kj (l:List Cell) (hl:l.length≤65536) (kind code:Int):∀ (d i n:Nat),d=l.length-i→i≤l.length→d<n→
  Bh.l0 (Bh.t1 fu) n kind code (LX (l.take i)) (LY (l.take i)) l (l.length:Int) (i:Int)=(bif eqI kind 1 then Hv (LX l) code else Jj (LY l) code):=by
 intro d
 induction d with
 | zero=>
  intro i n hd hi hn
  have:i=l.length:=by omega
  subst this
  obtain ⟨n,rfl⟩:∃ k,n=k+1:=⟨n-1,by omega⟩
  show Bh.S0 Bh.S1 _ _ _ _ _ _ _ _=_
  unfold Bh.S0
  rw [AJ (by omega),cond_false,List.take_length]
  unfold Bh.S1
  rw [Option.bind_fun_some,Option.bind_fun_some]
 | succ d ih=>
  intro i n hd hi hn
  obtain ⟨n,rfl⟩:∃ k,n=k+1:=⟨n-1,by omega⟩
  have hlt:i<l.length:=by omega
  show Bh.S0 _ (Bh.l0 (Bh.t1 fu) n) _ _ _ _ _ _ _=_
  unfold Bh.S0
  rw [Bj (by omega),cond_true,AA (by rw [Aq];omega),cond_true,Bg (by rw [List.length_map,List.length_take];omega),cond_true,Bg (by rw [List.length_map,List.length_take];omega),cond_true,AQ hlt,AE (by omega)]
  have:=ih (i+1) n (by omega) (by omega) (by omega)
  rw [take_one hlt] at this
  unfold LX LY at this
  rw [List.map_append,List.map_append] at this
  exact this
theorem WG (l:List Cell) (hl:l.length≤65536) (kind code:Int):Bh l kind code=(bif eqI kind 1 then Hv (LX l) code else Jj (LY l) code):=
 kj l hl kind code l.length 0 fu (by omega) (by omega) (by unfold fu;omega)
def Ir (l:List Cell) (kind code:Int) (vb:List Int):List Int:=[kind,code,(l.length:Int),((DX l).length:Int)]++(DX l++vb)
theorem Pp (l:List Cell):(DX l).length≤(l.length+7) / 8:=by
 unfold DX
 split
 ·rw [EF,Ea,Nat.mul_one];exact Nat.le_refl _
 ·exact Nat.zero_le _
theorem uk (l:List Cell):∀ b∈DX l,0≤b∧b<256:=fun b hb=>by
 unfold DX at hb
 split at hb
 ·exact Lj _ _ b hb
 ·cases hb
theorem VF {l:List Cell} (hl:l.length≤64) {kind code:Int} (hk:0≤kind∧kind<256) (hc:0≤code∧code<256) {vb:List Int} (hv:∀ b∈vb,0≤b∧b<256):∀ b∈Ir l kind code vb,0≤b∧b<256:=fun b hb=>by
 have hm:=Pp l
 unfold Ir at hb
 rcases List.mem_append.1 hb with hb | hb
 ·simp only [List.mem_cons,List.not_mem_nil,or_false] at hb
  rcases hb with rfl | rfl | rfl | rfl <;> omega
 ·rcases List.mem_append.1 hb with hb | hb
  ·exact uk l b hb
  ·exact hv b hb
theorem SB {l:List Cell} {kind code:Int} (hm:Iq l kind) (hc:0≤code∧code<256) {vb:List Int} (hvl:vb.length≤1000000) (hvr:∀ b∈vb,0≤b∧b<256) (hv:Bh (BD l) kind code=some (ofBytes vb,0)):
  Gt l kind code=some (ofBytes (GP (Ir l kind code vb)),0):=by
 obtain ⟨h1,h2,h3,_⟩:=id hm
 have hkr:0≤kind∧kind<256:=by rcases h3 with rfl | rfl <;> omega
 have hml:=Pp l
 unfold Gt
 rw [kY hm,Option.bind_some,Bool.not_true,cond_false,Qg l (by omega) (by omega),Option.bind_some]
 dsimp only
 rw [hv,Option.bind_some]
 dsimp only
 have w8:∀ x:Int,0≤x∧x<256→IntKind.wrap .u8 x=x:=fun x hx=>by rw [GF];omega
 rw [Db rfl,cond_false,Aq,CB,AD,w8 kind hkr,w8 code hc,w8 _ (by omega),w8 _ (by omega)]
 have r1:CK (ofBytes [kind,code,(l.length:Int),((DX l).length:Int)]) (ofBytes (DX l))=true:=decide_eq_true (by rw [AD,AD];simp;omega)
 rw [r1,cond_true,Ed]
 have r2:CK (ofBytes ([kind,code,(l.length:Int),((DX l).length:Int)]++DX l)) (ofBytes vb)=true:=decide_eq_true (by rw [AD,AD];simp;omega)
 rw [r2,cond_true,Ed,List.append_assoc]
 show (Cj (ofBytes (Ir l kind code vb))).bind _=_
 rw [RP _ (by rw [AD];unfold Ir;simp;omega),Option.bind_some,EC (VF h2 hkr hc hvr)]
theorem eI {l:List Cell} {kind code:Int} (hl:l.length<4611686018427387904) (hm:¬ Iq l kind):Gt l kind code=some (eB,1):=by
 unfold Gt
 rw [Zq4 hl hm]
 rfl
theorem cj {l:List Cell} {kind code:Int} (hm:Iq l kind) (hc:0≤code∧code<256) {vb:List Int} (hvl:vb.length≤1000000) (hvr:∀ b∈vb,0≤b∧b<256) (hv:Bh (BD l) kind code=some (ofBytes vb,0))
  (hcells:∀ s:ByteArray,Ax s=vb→∀ k:Int,Bb s ((BD l).length:Int) (kind,code,(l.length:Int),k)=some (BD l,0)):
  HD (ofBytes (GP (Ir l kind code vb)))=some (((kind,code,(l.length:Int),((l.length-(BD l).length:Nat):Int)),ofBytes (DX l),ofBytes vb,l),true):=by
 have hput:=SB hm hc hvl hvr hv
 obtain ⟨h1,h2,h3,h4⟩:=hm
 have hkr:0≤kind∧kind<256:=by rcases h3 with rfl | rfl <;> omega
 have hml:=Pp l
 have hrl:=Gk l
 have hz:∀ c∈l,isN c=true→c=(0,0,eB):=fun c hc hn=>by
  have hn0:c.1=0:=of_decide_eq_true (show decide (c.1=0)=true from hn)
  rcases Vr (h4 c hc).1 with h | ⟨n,h⟩ | ⟨t,h,_⟩
  ·exact h
  ·rw [h] at hn0;simp at hn0
  ·rw [h] at hn0;simp at hn0
 have hT:=VF h2 hkr hc hvr
 have htl:(Ir l kind code vb).length=4+((DX l).length+vb.length):=by unfold Ir;simp;omega
 unfold HD
 rw [bY hT (by omega),Option.bind_some]
 dsimp only
 have hsz:(ofBytes (Ir l kind code vb)).size=4+((DX l).length+vb.length):=by rw [AD,htl]
 have htb:Ax (ofBytes (Ir l kind code vb))=Ir l kind code vb:=EC hT
 generalize ht:ofBytes (Ir l kind code vb)=t at hsz htb
 have b0:byteAt t 0=kind:=Io htb (i:=0) rfl
 have b1:byteAt t 1=code:=Io htb (i:=1) rfl
 have b2:byteAt t 2=(l.length:Int):=Io htb (i:=2) rfl
 have b3:byteAt t 3=((DX l).length:Int):=Io htb (i:=3) rfl
 have hend:An .i64 4 ((DX l).length:Int)=((4+(DX l).length:Nat):Int):=by rw [AE (by omega)];omega
 have hdr:(Ir l kind code vb).drop 4=DX l++vb:=rfl
 have hmask:Ax (cutS t 4 ((4+(DX l).length:Nat):Int))=DX l:=by
  have:=Sz t 4 (4+(DX l).length)
  rw [show ((4:Nat):Int)=4 from rfl] at this
  rw [this,htb,hdr,Nat.add_sub_cancel_left,List.take_left]
 have hbody:Ax (cutS t ((4+(DX l).length:Nat):Int) (t.size:Int))=vb:=by
  rw [UG,htb,← List.drop_drop,hdr,List.drop_left]
 have hmaskS:cutS t 4 ((4+(DX l).length:Nat):Int)=ofBytes (DX l):=(FT _).symm.trans (congrArg ofBytes hmask)
 have hbodyS:cutS t ((4+(DX l).length:Nat):Int) (t.size:Int)=ofBytes vb:=(FT _).symm.trans (congrArg ofBytes hbody)
 rw [Db rfl,cond_false,CB,AJ (by omega),cond_false,AA (by omega),cond_true,b3,b2,b1,b0,Ez (n:=((DX l).length:Int)) (by omega),Ez (n:=(l.length:Int)) (by omega),Ez (n:=code) (by omega),Ez (n:=kind) (by omega),Dk (by omega),AJ (by omega),cond_false,cond_true,
  AA (by omega),cond_true,AA (by omega),cond_true,AA (by omega),cond_true,hend,DO (by omega),cond_true,DO (by omega),cond_true,Qk l (by omega) (by omega) hmask,Option.bind_some]
 dsimp only
 have hsub:AT .i64 (l.length:Int) ((l.length-(BD l).length:Nat):Int)=((BD l).length:Int):=by rw [Dk (by omega)];omega
 rw [Db rfl,cond_false,hsub,hcells _ hbody,Option.bind_some]
 dsimp only
 rw [Db rfl,cond_false,ca l (by omega) (by omega) hz hmask,Option.bind_some]
 dsimp only
 rw [Db rfl,cond_false,hput,Option.bind_some]
 dsimp only
 rw [CT rfl,cond_true,JZ rfl,hmaskS,hbodyS]
theorem um (l:List Int) (hl:l.length≤65536) (h:Int×Int×Int×Int) (e:Int):∀ (d i n:Nat),d=l.length-i→i≤l.length→d<n→
  Bb.l0 n ((l.take i).map fun x=>((h.1,x,eB):Cell)) e l (l.length:Int) (i:Int) h=some (l.map fun x=>((h.1,x,eB):Cell),e):=by
 intro d
 induction d with
 | zero=>
  intro i n hd hi hn
  have:i=l.length:=by omega
  subst this
  obtain ⟨n,rfl⟩:∃ k,n=k+1:=⟨n-1,by omega⟩
  show Bb.S0 _ _ _ _ _ _ _=_
  unfold Bb.S0
  rw [AJ (by omega),cond_false,List.take_length]
 | succ d ih=>
  intro i n hd hi hn
  obtain ⟨n,rfl⟩:∃ k,n=k+1:=⟨n-1,by omega⟩
  have hlt:i<l.length:=by omega
  show Bb.S0 (Bb.l0 n) _ _ _ _ _ _=_
  unfold Bb.S0
  rw [Bj (by omega),cond_true,AA (by rw [Aq];omega),cond_true,Bg (by rw [List.length_map,List.length_take];omega),cond_true,AQ hlt,AE (by omega)]
  have:=ih (i+1) n (by omega) (by omega) (by omega)
  rw [take_one hlt,List.map_append] at this
  exact this
theorem WH {s:ByteArray} {l:List Int} (hl:l.length≤65536) {code k n:Int} (hs:Lz s n code=some (l,0)) (m:Int):Bb s n (1,code,m,k)=some (l.map fun x=>((1,x,eB):Cell),0):=by
 show Bb.S (Bb.l0 fu) _ s n _=_
 unfold Bb.S
 dsimp only
 rw [CT rfl,cond_true,hs,Option.bind_some]
 exact um l hl (1,code,m,k) 0 l.length 0 fu (by omega) (by omega) (by unfold fu;omega)
def Ee (l:List Int):Nat:=((BN l).getD 0).toNat
theorem Fu (l:List Int) (hl:l.length≤65536):BN l=some (Ee l:Int)∧Ee l≤64∧Wd l (Ee l):=by
 obtain ⟨v,h1,h2,h3⟩:=KS l (by omega)
 have:Ee l=v:=by unfold Ee;rw [h1];rfl
 rw [this]
 exact ⟨h1,h2,h3⟩
def Is (l:List Int):List Run:=(DF l).getD []
theorem Kc (l:List Int) (hl:l.length≤65536):DF l=some (Is l)∧Cb (Is l)=l∧okR 0 none (Is l):=by
 obtain ⟨o,h1,h2,h3⟩:=pX l hl
 have:Is l=o:=by unfold Is;rw [h1];rfl
 rw [this]
 exact ⟨h1,h2,h3⟩
def OH (l:List Int) (code:Int):Option (List Int):=
 if code=1 then some (CQ l 64)
 else if code=2 then some (FN (Is l))
 else if code=3 then some (JK l (Ee (Dc l)))
 else if code=4 then some (LU l (Ee (BQ l)))
 else if code=5 then some ((Ee l:Int) :: CQ l (Ee l))
 else none
theorem VG (l:List Int) (hl:l.length≤65536) (code:Int):Hv l code=some (match OH l code with | some b=>(ofBytes b,0) | none=>(eB,1)):=by
 unfold Hv OH
 by_cases h1:code=1
 ·rw [CT h1,cond_true,if_pos h1,Vv l (by omega)]
  rfl
 ·rw [CE h1,cond_false,if_neg h1]
  by_cases h2:code=2
  ·obtain ⟨k1,k2,k3⟩:=Kc l hl
   rw [CT h2,cond_true,if_pos h2,k1,Option.bind_some,UJ _ k3 (by rw [k2];exact hl)]
   rfl
  ·rw [CE h2,cond_false,if_neg h2]
   by_cases h3:code=3
   ·have hfl:=IP l
    obtain ⟨k1,k2,_⟩:=Fu (Dc l) (by omega)
    rw [CT h3,cond_true,if_pos h3,Sn l hl k1 k2]
    rfl
   ·rw [CE h3,cond_false,if_neg h3]
    by_cases h4:code=4
    ·have hpl:=Ha l
     obtain ⟨k1,k2,_⟩:=Fu (BQ l) (by omega)
     rw [CT h4,cond_true,if_pos h4,Ww l hl k1 k2]
     rfl
    ·rw [CE h4,cond_false,if_neg h4]
     by_cases h5:code=5
     ·obtain ⟨k1,k2,_⟩:=Fu l hl
      have hb:l.length*Ee l≤65536*64:=Nat.mul_le_mul hl k2
      have hpl:=EF l (Ee l)
      have r1:CK (ofBytes [(Ee l:Int)]) (ofBytes (CQ l (Ee l)))=true:=decide_eq_true (by rw [AD,AD];simp;omega)
      rw [CT h5,cond_true,if_pos h5,k1,Option.bind_some,Kv l k2 hl k1 (Nat.le_refl _),Option.bind_some,TP k2]
      dsimp only
      rw [r1,cond_true,Ed]
      rfl
     ·rw [CE h5,cond_false,if_neg h5]
theorem Zwe {l:List Int} (hl:l.length≤65536) {code:Int} {b:List Int} (h:OH l code=some b):(∀ x∈b,0≤x∧x<256)∧b.length≤20*l.length+8*l.length+40:=by
 unfold OH at h
 have pw:∀ (m:List Int) (w:Nat),w≤64→(CQ m w).length≤8*m.length:=fun m w hw=>by
  rw [EF]
  have:m.length*w≤m.length*64:=Nat.mul_le_mul_left _ hw
  omega
 split at h
 ·cases h
  exact ⟨Lj _ _,by have:=pw l 64 (by omega);omega⟩
 ·split at h
  ·cases h
   obtain ⟨_,k2,k3⟩:=Kc l hl
   have h1:=IS (Is l)
   have h2:=FZ _ _ _ k3
   rw [k2] at h2
   exact ⟨QU _,by omega⟩
  ·split at h
   ·cases h
    have hfl:=IP l
    obtain ⟨_,k2,_⟩:=Fu (Dc l) (by omega)
    refine ⟨pV l k2,?_⟩
    have h1:=Eo (l.getD 0 0)
    have h2:=Eo (Fs (CD l))
    have h3:=pw (Dc l) _ k2
    unfold JK
    split
    ·simp
    ·split
     ·omega
     ·rw [List.length_append,List.length_append,List.length_cons];omega
   ·split at h
    ·cases h
     have hpl:=Ha l
     have hdl:=IK l
     obtain ⟨_,k2,_⟩:=Fu (BQ l) (by omega)
     have h1:=Eo ((BB l).length:Int)
     have h2:=JI (BB l)
     have h3:=pw (BQ l) _ k2
     unfold LU
     split
     ·exact ⟨fun x hx=>(by cases hx),by simp⟩
     ·refine ⟨fun x hx=>?_,by rw [List.length_append,List.length_append];omega⟩
      rcases List.mem_append.1 hx with hx | hx
      ·exact Jf _ x hx
      ·rcases List.mem_append.1 hx with hx | hx
       ·exact Sl _ x hx
       ·exact Lj _ _ x hx
    ·split at h
     ·cases h
      obtain ⟨_,k2,_⟩:=Fu l hl
      have h3:=pw l _ k2
      refine ⟨fun x hx=>?_,by rw [List.length_cons];omega⟩
      rcases List.mem_cons.1 hx with rfl | hx
      ·omega
      ·exact Lj _ _ x hx
     ·cases h
theorem QV {o:List Run} {n:Nat} {p:Option Int} (h:okR n p o):∀ r∈o,r.1∈Cb o:=by
 induction o generalizing n p with
 | nil=>intro r hr;cases hr
 | cons a o ih=>
  intro r hr
  obtain ⟨_,h1,_,h2⟩:=h
  rw [GO]
  rcases List.mem_cons.1 hr with rfl | hr
  ·exact List.mem_append_left _ (List.mem_replicate.2 ⟨by omega,rfl⟩)
  ·exact List.mem_append_right _ (ih h2 r hr)
theorem ck {l:List Int} (hl:l.length≤65536) (h64:∀ x∈l,BZ x) {code:Int} {b:List Int} (h:OH l code=some b) {s:ByteArray} (hs:Ax s=b):Lz s (l.length:Int) code=some (l,0):=by
 unfold OH at h
 unfold Lz
 by_cases h1:code=1
 ·rw [if_pos h1] at h
  cases h
  rw [CT h1,cond_true,qa hl h64 hs]
  rfl
 ·rw [if_neg h1] at h
  rw [CE h1,cond_false]
  by_cases h2:code=2
  ·rw [if_pos h2] at h
   cases h
   obtain ⟨_,k2,k3⟩:=Kc l hl
   have:=Ss (Is l) k3 (by rw [k2];exact hl) (fun r hr=>h64 _ (by rw [← k2];exact QV k3 r hr)) hs
   rw [k2] at this
   rw [CT h2,cond_true,this,Option.bind_some]
   dsimp only
   rw [Db rfl,cond_false,Su _ k3 (by rw [k2];exact hl),k2]
   rfl
  ·rw [if_neg h2] at h
   rw [CE h2,cond_false]
   by_cases h3:code=3
   ·rw [if_pos h3] at h
    cases h
    have hfl:=IP l
    obtain ⟨k1,k2,k3⟩:=Fu (Dc l) (by omega)
    rw [CT h3,cond_true,bW l hl h64 k1 k2 k3 hs]
    rfl
   ·rw [if_neg h3] at h
    rw [CE h3,cond_false]
    by_cases h4:code=4
    ·rw [if_pos h4] at h
     cases h
     have hpl:=Ha l
     obtain ⟨k1,k2,k3⟩:=Fu (BQ l) (by omega)
     rw [CT h4,cond_true,Vu l hl h64 k2 k3 hs]
     rfl
    ·rw [if_neg h4] at h
     rw [CE h4,cond_false]
     by_cases h5:code=5
     ·rw [if_pos h5] at h
      cases h
      obtain ⟨k1,k2,k3⟩:=Fu l hl
      have hne:s≠eB:=fun he=>by
       have:=KT.1 he
       rw [← Bz,hs,List.length_cons] at this
       omega
      have hsz:s.size=(CQ l (Ee l)).length+1:=by rw [← Bz,hs,List.length_cons]
      have hcut:Ax (cutS s 1 (AX s))=CQ l (Ee l):=GC (a:=[(Ee l:Int)]) (rest:=CQ l (Ee l)) hs
      have hb0:byteAt s 0=(Ee l:Int):=Io hs (i:=0) rfl
      rw [CT h5,cond_true,Ob hne,Bool.not_false,cond_true,DO (by rw [CB];omega),cond_true,AA (by rw [CB];omega),cond_true,hb0,Ez (by omega),Nj k2 hl h64 k3.1 hcut]
      rfl
     ·rw [if_neg h5] at h
      cases h
end Go.AM.Pure
end

section
/- BlockSame. -/
namespace Go.AM.Pure
open Go.AM
theorem ki (r:List Cell) (hr:r.length<4611686018427387904):∀ (d i n:Nat),d=r.length-i→i≤r.length→d<n→Cx.l0 n r r (i:Int)=some true:=by
 intro d
 induction d with
 | zero=>
  intro i n hd hi hn
  obtain ⟨n,rfl⟩:∃ k,n=k+1:=⟨n-1,by omega⟩
  show Cx.S0 (Cx.l0 n) r r (i:Int)=_
  unfold Cx.S0
  rw [Aq,pP (by omega)]
  rfl
 | succ d ih=>
  intro i n hd hi hn
  obtain ⟨n,rfl⟩:∃ k,n=k+1:=⟨n-1,by omega⟩
  show Cx.S0 (Cx.l0 n) r r (i:Int)=_
  unfold Cx.S0
  simp only [cC,LQ,decide_true,Bool.and_self,Bool.not_true,cond_false]
  rw [Aq,pO (by omega),AA (by omega),Fp (by omega) (by omega)]
  exact ih (i+1) n (by omega) (by omega) (by omega)
theorem WE (r:List Cell) (hr:r.length<4611686018427387904):Cx r r=some true:=by
 show Cx.S (Cx.l0 fu) r r=_
 unfold Cx.S
 rw [Db rfl]
 exact ki r hr (r.length-0) 0 fu rfl (by omega) (by unfold fu;omega)
theorem Sy {s:ByteArray} {h:Int×Int×Int×Int} {m b:ByteArray} {l:List Cell} (hr:HD s=some ((h,m,b,l),true)):EI s=some (l,0)∧GK s=some (h,0)∧LB s=some (b,m,0):=by
 refine ⟨?_,?_,?_⟩
 ·unfold EI;rw [hr];rfl
 ·unfold GK;rw [hr];rfl
 ·unfold LB;rw [hr];rfl
end Go.AM.Pure
end
