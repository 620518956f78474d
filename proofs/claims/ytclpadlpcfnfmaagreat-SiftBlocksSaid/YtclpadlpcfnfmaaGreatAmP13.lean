import Derived.Test.YtclpadlpcfnfmaaGreatAmPRow67
import Derived.Test.YtclpadlpcfnfmaaGreatAmPure13
section
/- Words packed in bits: streams of bits, and what pack.Put writes. -/
namespace Go.AM.Pure
open Go.AM
def wb (x:Int) (w:Nat):List Bool:=(List.range w).map (bit x)
def FF (l:List Int) (w:Nat):List Bool:=l.flatMap fun x=>wb x w
def DQ:Nat→List Bool→List Int
 | 0,_=>[]
 | n+1,s=>numOf (s.take 8) :: DQ n (s.drop 8)
def CK (l:List Int) (w:Nat):List Int:=DQ ((l.length*w+7) / 8) (FF l w)
theorem Kq (x:Int) (w:Nat):(wb x w).length=w:=by unfold wb;simp
theorem Rs (w:Nat):∀ l:List Int,(FF l w).length=l.length*w
 | []=>by simp [FF]
 | x :: l=>by
  have:=Rs w l
  unfold FF at *
  rw [List.flatMap_cons,Ae,this,Kq,Aj,Nat.add_mul]
  omega
theorem YV (x:Int) (w:Nat):numOf (wb x w)=x % 2 ^ w:=UL x w
theorem dS (x:Bool) (a:List Bool):numOf (x :: a)=(if x then 1 else 0)+2*numOf a:=rfl
theorem P5 (n:Nat) (s:List Bool):DQ (n+1) s=numOf (s.take 8) :: DQ n (s.drop 8):=rfl
theorem U4:∀ (a b:List Bool),numOf (a++b)=numOf a+2 ^ a.length*numOf b
 | [],b=>by simp [numOf]
 | x :: a,b=>by
  rw [List.cons_append,dS,dS,U4 a b,Aj,Int.pow_succ,Int.mul_add,Int.mul_comm (2 ^ a.length) 2,Int.mul_assoc]
  omega
theorem iw (x:Int) (k w:Nat) (h:k≤w):wb x w=wb x k++wb (x / 2 ^ k) (w-k):=by
 unfold wb
 apply List.ext_getElem?
 intro i
 by_cases h1:i<w
 ·by_cases h2:i<k
  ·rw [AD (by simpa using h2)]
   simp [h1,h2]
  ·rw [Aw (by simp;omega)]
   simp only [Ai,List.length_range,List.getElem?_map]
   rw [List.getElem?_range h1,List.getElem?_range (show i-k<w-k by omega)]
   simp only [Option.map_some,Qc]
   congr 2
   omega
 ·rw [List.getElem?_eq_none (by simp;omega),List.getElem?_eq_none (by simp;omega)]
theorem yB (x:Int) {w:Nat} (h:w≤64):wb (x % 18446744073709551616) w=wb x w:=by
 unfold wb
 apply List.map_congr_left
 intro k hk
 exact Mc x (by have:=List.mem_range.1 hk;omega)
theorem tV (x:Int):wb x 0=[]:=rfl
theorem LA:∀ (n:Nat) (s:List Bool),(DQ n s).length=n
 | 0,_=>rfl
 | n+1,s=>by unfold DQ;rw [Aj,LA]
theorem Rt:∀ (n m:Nat) (a b:List Bool),a.length=8*n→DQ (n+m) (a++b)=DQ n a++DQ m b
 | 0,m,a,b,h=>by
  have:a=[]:=AI (by omega)
  subst this
  simp [DQ]
 | n+1,m,a,b,h=>by
  rw [show n+1+m=(n+m)+1 by omega,P5,P5,List.take_append_of_le_length (by omega),List.drop_append_of_le_length (by omega),Rt n m _ _ (by rw [List.length_drop];omega)]
  rfl
theorem rO:∀ (n:Nat) (s:List Bool),∀ b∈DQ n s,0≤b∧b<256
 | 0,_,b,h=>by cases h
 | n+1,s,b,h=>by
  unfold DQ at h
  rcases List.mem_cons.1 h with rfl | h
  ·have:=Lu (s.take 8)
   have h2:(2:Int) ^ (s.take 8).length≤2 ^ 8:=by
    have:(s.take 8).length≤8:=by rw [Ag];omega
    exact_mod_cast Nat.pow_le_pow_right (n:=2) (by omega) this
   omega
  ·exact rO n _ b h
theorem SZ (l:List Int) (w:Nat):∀ b∈CK l w,0≤b∧b<256:=rO _ _
theorem Jy (l:List Int) (w:Nat):(CK l w).length=(l.length*w+7) / 8:=LA _ _
theorem fU {V c:Int} {a:Nat} (h0:0≤V) (h1:V<2 ^ a) (ha:a≤64):EI .u64 V (Er .u64 c (a:Int))=(V+c*2 ^ a) % 18446744073709551616:=by
 have hr:∀ x:Int,EI .u64 V x=EI .u64 V x % 18446744073709551616:=fun x=>by
  unfold EI
  rw [Ew]
  omega
 rw [hr]
 apply SQ
 intro k hk
 rw [fR _ _ hk,Zb h0 h1]
 have hs:Er .u64 c (a:Int)=IntKind.wrap .u64 (c*2 ^ a):=by
  unfold Er
  have:min (a:Int).toNat (IntKind.bits .u64)=a:=by show min a 64=a;omega
  rw [this]
 rw [hs,Jc _ hk,Y8]
 by_cases h:k<a
 ·rw [if_pos h,An (by omega)];simp
 ·rw [if_neg h,Af (by omega),AB]
  have:bit V k=false:=NH h0 (by
   have:(2:Int) ^ a≤2 ^ k:=by exact_mod_cast Nat.pow_le_pow_right (n:=2) (by omega) (show a≤k by omega)
   omega)
  rw [this,Bool.false_or]
theorem tU {k:Nat} (h:k≤8):ON (k:Int)=some (2 ^ k-1):=by
 have:∀ k:Fin 9,ON (k.val:Int)=some (2 ^ k.val-1):=by decide +kernel
 exact this ⟨k,by omega⟩
theorem fg {u:Int} (h0:0≤u) (h1:u<18446744073709551616) {k:Nat} (h:k≤8):BL .u64 u (IntKind.wrap .u64 (2 ^ k-1))=u % 2 ^ k:=by
 obtain ⟨n,rfl⟩:=Int.eq_ofNat_of_zero_le h0
 have hk:(2:Nat) ^ k≤2 ^ 8:=Nat.pow_le_pow_right (by omega) h
 have Uh:0<(2:Nat) ^ k:=Nat.pow_pos (by omega)
 have e:(2:Int) ^ k-1=((2 ^ k-1:Nat):Int):=by
  rw [Int.ofNat_sub Uh]
  simp
 rw [Ew,e]
 have e2:((2 ^ k-1:Nat):Int) % 18446744073709551616=((2 ^ k-1:Nat):Int):=by omega
 rw [e2]
 unfold BL
 rw [BitVec.toNat_and,show (BitVec.ofInt (IntKind.bits .u64) (n:Int)).toNat=n by
   show (BitVec.ofInt 64 (n:Int)).toNat=n
   rw [BitVec.toNat_ofInt]
   omega,show (BitVec.ofInt (IntKind.bits .u64) ((2 ^ k-1:Nat):Int)).toNat=2 ^ k-1 by
   show (BitVec.ofInt 64 ((2 ^ k-1:Nat):Int)).toNat=_
   rw [BitVec.toNat_ofInt]
   omega,Nat.and_two_pow_sub_one_eq_mod,Ew]
 have:n % 2 ^ k<2 ^ k:=Nat.mod_lt _ Uh
 have e3:((n % 2 ^ k:Nat):Int)=(n:Int) % 2 ^ k:=by simp
 rw [← e3]
 omega
def Wr (A:List Bool) (out:List Int) (kept n:Int):Prop:=
 ∃ A' R:List Bool,A=A'++R∧A'.length=8*out.length∧out=DQ out.length A'∧R.length<8∧n=(R.length:Int)∧kept=numOf R
theorem Zfs {o0:Int→List Int→Int→Int→List Int→Int→Int→Option (ByteArray×Int)} {width:Int} {l:List Int} {len i:Int}:
  ∀ (left m:Nat) (A:List Bool) (out:List Int) (kept n u:Int),left≤64→left<m→Wr A out kept n→A.length+left≤100000000000→0≤u→u<18446744073709551616→
   ∃ Pt Pd n',Wr (A++wb u left) Pt Pd n'∧Ca.l1 o0 m width out kept n u (left:Int) l len i=o0 width Pt Pd n' l len (AQ .i64 i 1):=by
 intro left
 induction left using Nat.strongRecOn with
 | ind left ih=>
 intro m A out kept n u hl hm hw hA h0 h1
 obtain ⟨m,rfl⟩:∃ k,m=k+1:=⟨m-1,by omega⟩
 show ∃ Pt Pd n',_∧Ca.S1 o0 (Ca.l1 o0 m) width out kept n u (left:Int) l len i=_
 unfold Ca.S1
 rcases Nat.eq_zero_or_pos left with Un | HH
 ·subst Un
  exact ⟨out,kept,n,by rw [tV,Ay];exact hw,by rw [AZ (by omega)];rfl⟩
 ·rw [Bl (by omega),Aa]
  obtain ⟨A',R,QY,DR,R3,hR,rfl,rfl⟩:=hw
  have hks:Be .i64 8 (R.length:Int)=((8-R.length:Nat):Int):=by rw [Dn (by omega)];omega
  have QJ:DP (Be .i64 8 (R.length:Int)) (left:Int)=((min (8-R.length) left:Nat):Int):=by
   rw [hks]
   unfold DP
   split <;> omega
  rw [QJ]
  generalize hk:min (8-R.length) left=k
  have Xo:k≤8:=by omega
  have Xp:1≤k:=by omega
  have KA:k≤left:=by omega
  rw [tU Xo,Ad,Cq (by omega),Aa,Cq (by omega),Aa]
  have hb:=Lu R
  have hand:=fg h0 h1 Xo
  have mQ:EI .u64 (numOf R) (Er .u64 (BL .u64 u (IntKind.wrap .u64 (2 ^ k-1))) (R.length:Int))=numOf (R++wb u k):=by
   rw [hand,fU hb.1 hb.2 (by omega),U4,YV,Int.mul_comm (2 ^ R.length)]
   have h2:=Lu (R++wb u k)
   rw [U4,YV,Int.mul_comm (2 ^ R.length)] at h2
   have h3:(2:Int) ^ (R++wb u k).length≤2 ^ 8:=by
    have:(R++wb u k).length≤8:=by rw [Ae,Kq];omega
    exact_mod_cast Nat.pow_le_pow_right (n:=2) (by omega) this
   omega
  rw [mQ]
  have lV:BH .u64 u (k:Int)=u / 2 ^ k:=Mp u k (by omega)
  have Ka:Be .i64 (left:Int) (k:Int)=((left-k:Nat):Int):=by rw [Dn (by omega)];omega
  rw [lV,Ka,Bj (a:=(R.length:Int)) (by omega)]
  have hp:=EX k
  have mO:0≤u / 2 ^ k:=Int.ediv_nonneg h0 (Int.le_of_lt hp)
  have cu:u / 2 ^ k<18446744073709551616:=by
   have:=Int.ediv_le_self (2 ^ k) h0
   omega
  have KR:=iw u k left KA
  by_cases h8:R.length+k=8
  ·rw [B0 (by omega),Aa,B7 (by
    have:A.length=A'.length+R.length:=by rw [QY,Ae]
    omega),Aa]
   have Sk:(R++wb u k).length=8:=by rw [Ae,Kq];omega
   have E2:=Lu (R++wb u k)
   rw [Sk] at E2
   have kx:IntKind.wrap .u8 (numOf (R++wb u k))=numOf (R++wb u k):=by rw [J4];omega
   rw [kx]
   obtain ⟨Pt,Pd,n',h2,h3⟩:=ih (left-k) (by omega) m (A++wb u k) (out++[numOf (R++wb u k)]) 0 0 (u / 2 ^ k) (by omega) (by omega)
    ⟨A'++(R++wb u k),[],by rw [QY];simp,by simp;rw [Kq];omega,by
     rw [Ae,AG,Rt _ 1 _ _ DR,← R3]
     congr 1
     rw [P5,AF (by omega)]
     rfl,by simp,rfl,rfl⟩ (by rw [Ae,Kq];omega) mO cu
   exact ⟨Pt,Pd,n',by rw [KR,← Al];exact h2,h3⟩
  ·rw [BU (by omega),Ac]
   have Sk:(R++wb u k).length=R.length+k:=by rw [Ae,Kq]
   obtain ⟨Pt,Pd,n',h2,h3⟩:=ih (left-k) (by omega) m (A++wb u k) out (numOf (R++wb u k)) ((R.length:Int)+(k:Int)) (u / 2 ^ k) (by omega) (by omega)
    ⟨A',R++wb u k,by rw [QY,Al],DR,R3,by omega,by omega,rfl⟩ (by rw [Ae,Kq];omega) mO cu
   exact ⟨Pt,Pd,n',by rw [KR,← Al];exact h2,h3⟩
theorem Yy (l:List Int) (x:Int) (w:Nat):FF (l++[x]) w=FF l w++wb x w:=by unfold FF;simp
theorem Ygj {A:List Bool} {out:List Int} {kept n:Int} (h:Wr A out kept n) (hA:A.length≤100000000000):Ca.S2 out kept n=some (ofBytes (DQ ((A.length+7) / 8) A),0):=by
 obtain ⟨A',R,QY,DR,R3,hR,rfl,rfl⟩:=h
 unfold Ca.S2
 have hl:A.length=8*out.length+R.length:=by rw [QY,Ae,DR]
 rcases Nat.eq_zero_or_pos R.length with h0 | HH
 ·rw [AZ (by omega),Ac]
  have:R=[]:=AI h0
  subst this
  rw [Ay] at QY
  subst QY
  rw [show (A.length+7) / 8=out.length by simp at hl;omega,← R3]
 ·rw [Bl (by omega),Aa,B7 (by omega),Aa]
  have hb:=Lu R
  have h3:(2:Int) ^ R.length≤2 ^ 8:=by exact_mod_cast Nat.pow_le_pow_right (n:=2) (by omega) (show R.length≤8 by omega)
  have kx:IntKind.wrap .u8 (numOf R)=numOf R:=by rw [J4];omega
  rw [kx,show (A.length+7) / 8=out.length+1 by omega,QY,Rt _ 1 _ _ DR,← R3]
  congr 4
  rw [P5,AF (by omega)]
  rfl
theorem Zgs (l:List Int) {w:Nat} (hw:w≤64) (hl:l.length≤65536):∀ (d i m:Nat) (out:List Int) (kept n:Int),d=l.length-i→i≤l.length→d+1<m→70<m→Wr (FF (l.take i) w) out kept n→
  Ca.l0 (Ca.t2 fu) (m+d) (w:Int) out kept n l (l.length:Int) (i:Int)=some (ofBytes (CK l w),0):=by
 intro d
 induction d with
 | zero=>
  intro i m out kept n hd hi hm Sg Of
  have:i=l.length:=by omega
  subst this
  obtain ⟨m,rfl⟩:∃ k,m=k+1:=⟨m-1,by omega⟩
  show Ca.S0 Ca.S2 (Ca.l1 _ _) (w:Int) out kept n l (l.length:Int) (l.length:Int)=_
  unfold Ca.S0
  rw [AZ (by omega),Ac]
  rw [Ar] at Of
  have hlen:=Rs w l
  have hb:l.length*w≤65536*64:=Nat.mul_le_mul hl hw
  rw [Ygj Of (by omega),hlen]
  rfl
 | succ d ih=>
  intro i m out kept n hd hi hm Sg Of
  have AO:i<l.length:=by omega
  have hb:l.length*w≤65536*64:=Nat.mul_le_mul hl hw
  show Ca.S0 (Ca.t2 fu) (Ca.l1 (Ca.l0 (Ca.t2 fu) (m+d)) (m+d)) (w:Int) out kept n l (l.length:Int) (i:Int)=_
  unfold Ca.S0
  rw [Bl (by omega),Aa,Bf (by rw [AW];omega),Aa,Bz AO]
  have hu:=Ew l[i]
  obtain ⟨Pt,Pd,n',h1,h2⟩:=Zfs (o0:=Ca.l0 (Ca.t2 fu) (m+d)) (width:=(w:Int)) (l:=l) (len:=(l.length:Int)) (i:=(i:Int)) w (m+d) _ out kept n (IntKind.wrap .u64 l[i]) hw (by omega) Of
   (by rw [Rs,Ag];have:min i l.length*w≤l.length*w:=AJ _ (Nat.min_le_right _ _);omega) (by omega) (by omega)
  rw [h2,Bj (by omega)]
  have:=ih (i+1) m Pt Pd n' (by omega) (by omega) (by omega) Sg (by
   rw [List.take_add_one,Ap AO,Option.toList_some,Yy]
   rw [hu,yB _ hw] at h1
   exact h1)
  rw [← this]
  congr 1
theorem oh (n w:Nat) (hn:n≤65536) (hw:w≤64):OG (n:Int) (w:Int)=(((n*w+7) / 8:Nat):Int):=by
 unfold OG
 have hb:n*w≤65536*64:=Nat.mul_le_mul hn hw
 rcases Nat.eq_zero_or_pos n with h | h
 ·subst h
  rw [Bl (by omega)]
  simp
 ·rw [AZ (by omega),Ac,AZ (by omega),Ac]
  rcases Nat.eq_zero_or_pos w with h2 | h2
  ·subst h2
   rw [Bl (by omega)]
   simp
  ·rw [AZ (by omega),Ac,AZ (by omega),Ac]
   have e:(n:Int)*(w:Int)=((n*w:Nat):Int):=by simp
   rw [Jg (by rw [e];omega),e,Bj (by omega)]
   have:=NC (((n*w:Nat):Int)+7) 3 (by omega)
   rw [show ((3:Nat):Int)=3 from rfl] at this
   rw [this]
   omega
theorem UM (l:List Int) {w:Nat} (hw:w≤64) (hl:l.length≤65536) {v:Nat} (hv:D0 l=some (v:Int)) (hvw:v≤w):Ca l (w:Int)=some (ofBytes (CK l w),0):=by
 show Ca.S (Ca.l0 (Ca.t2 fu) fu) l (w:Int)=_
 unfold Ca.S
 rw [AZ (by omega),Ac,AZ (by omega),Ac,AW,AZ (by omega),Ac,hv,Ad,AZ (by omega),Ac,oh _ _ hl hw]
 have hb:l.length*w≤65536*64:=Nat.mul_le_mul hl hw
 dsimp only
 rw [Bj (by omega),Cq (by omega),B7 (by omega)]
 show Ca.l0 (Ca.t2 fu) fu (w:Int) [] 0 0 l (l.length:Int) 0=_
 have:=Zgs l hw hl l.length 0 (fu-l.length) [] 0 0 (by omega) (by omega) (by unfold fu;omega) (by unfold fu;omega) ⟨[],[],rfl,rfl,rfl,by decide,rfl,rfl⟩
 rw [show fu-l.length+l.length=fu by unfold fu;omega] at this
 exact this
end Go.AM.Pure
end

section
/- pack.Width, pack.word, pack.Take. -/
namespace Go.AM.Pure
open Go.AM
theorem Zk2 (u:Int) (v k:Nat) (_:0≤u):bit (u % 2 ^ v) k=(decide (k<v) && bit u k):=by
 obtain ⟨n,rfl⟩:=Int.eq_ofNat_of_zero_le ‹0≤u›
 have e:((n:Int) % 2 ^ v)=((n % 2 ^ v:Nat):Int):=by simp
 rw [e,LF,LF,Nat.testBit_mod_two_pow]
theorem py {u:Int} (h0:0≤u) (h1:u<18446744073709551616) {v:Nat} (h:∀ k,v≤k→k<64→bit u k=false):u<2 ^ v:=by
 have hp:=EX v
 have h2:=Int.emod_lt_of_pos u hp
 have h3:=Int.emod_nonneg u (Int.ne_of_gt hp)
 have h4:u % 18446744073709551616=(u % 2 ^ v) % 18446744073709551616:=SQ fun k hk=>by
  rw [Zk2 u v k h0]
  by_cases hkv:k<v
  ·rw [Af hkv,AB]
  ·rw [h k (by omega) hk,An hkv];rfl
 have h5:u % 2 ^ v≤u:=by
  have h6:=Int.mul_ediv_add_emod u (2 ^ v)
  have h7:0≤2 ^ v*(u / 2 ^ v):=Int.mul_nonneg (Int.le_of_lt hp) (Int.ediv_nonneg h0 (Int.le_of_lt hp))
  omega
 omega
def Wd (l:List Int) (v:Nat):Prop:=(∀ x∈l,x % 18446744073709551616<2 ^ v)∧(v=0∨∃ x∈l,2 ^ (v-1)≤x % 18446744073709551616)
theorem Wd.unique {l:List Int} {v w:Nat} (h1:Wd l v) (h2:Wd l w):v=w:=by
 have key:∀ {v w:Nat},Wd l v→Wd l w→v≤w:=fun {v w} h1 h2=>by
  rcases h1.2 with h | ⟨x,hx,hle⟩
  ·omega
  ·have:=h2.1 x hx
   have h3:(2:Int) ^ (v-1)<2 ^ w:=by omega
   have:=Yq h3
   omega
 exact Nat.le_antisymm (key h1 h2) (key h2 h1)
def TD (l:List Int) (k:Nat):Bool:=l.any fun x=>bit x k
theorem Zl2 (a b:Int) {k:Nat} (hk:k<64):bit (EI .i64 a b) k=(bit a k || bit b k):=by
 unfold EI
 rw [Rr _ hk]
 show bit ((BitVec.ofInt 64 a ||| BitVec.ofInt 64 b).toNat:Int) k=_
 rw [LF,BitVec.toNat_or,Nat.testBit_or,Mb _ hk,Mb _ hk]
theorem Zso (l:List Int) (hl:l.length<4611686018427387904):∀ (d i n:Nat) (all:Int),d=l.length-i→i≤l.length→d<n→(∀ k,k<64→bit all k=TD (l.take i) k)→
  ∃ lU,(∀ k,k<64→bit lU k=TD l k)∧D0.l0 n all l (l.length:Int) (i:Int)=(E4 lU).bind fun r=>some r:=by
 intro d
 induction d with
 | zero=>
  intro i n all hd hi hn ha
  have:i=l.length:=by omega
  subst this
  obtain ⟨n,rfl⟩:∃ k,n=k+1:=⟨n-1,by omega⟩
  refine ⟨all,by rw [Ar] at ha;exact ha,?_⟩
  show D0.S0 _ _ _ _ _=_
  unfold D0.S0
  rw [AZ (by omega)]
  rfl
 | succ d ih=>
  intro i n all hd hi hn ha
  obtain ⟨n,rfl⟩:∃ k,n=k+1:=⟨n-1,by omega⟩
  have AO:i<l.length:=by omega
  show ∃ lU,_∧D0.S0 (D0.l0 n) all l (l.length:Int) (i:Int)=_
  unfold D0.S0
  rw [Bl (by omega),Aa,Bf (by rw [AW];omega),Aa,Bz AO,Bj (by omega)]
  exact ih (i+1) n _ (by omega) (by omega) (by omega) fun k hk=>by
   rw [Zl2 _ _ hk,ha k hk,List.take_add_one,Ap AO,Option.toList_some]
   unfold TD
   rw [List.any_append]
   simp
theorem X6 (l:List Int) (hl:l.length<4611686018427387904):∃ v:Nat,D0 l=some (v:Int)∧v≤64∧Wd l v:=by
 obtain ⟨all,hb,he⟩:=Zso l hl l.length 0 fu 0 (by omega) (by omega) (by unfold fu;omega) fun k _=>by rw [Tc];rfl
 obtain ⟨v,h1,h2,h3⟩:=dz (z:=all) rfl
 refine ⟨v,?_,h2,?_⟩
 ·show D0.l0 fu 0 l (l.length:Int) 0=_
  have PA:D0.l0 fu 0 l (l.length:Int) ((0:Nat):Int)=_:=he
  rw [h1] at PA
  exact PA
 have LZ:∀ k,k<64→bit (all % 18446744073709551616) k=TD l k:=fun k hk=>by rw [Mc _ hk];exact hb k hk
 constructor
 ·intro x hx
  refine py (by omega) (by omega) fun k h4 h5=>?_
  rw [Mc _ h5]
  have h6:all % 18446744073709551616<2 ^ v:=by
   rcases h3 with ⟨h3,rfl⟩ | ⟨_,_,h3⟩
   ·rw [h3];decide
   ·exact h3
  have h7:bit (all % 18446744073709551616) k=false:=NH (by omega) (by
   have:(2:Int) ^ v≤2 ^ k:=by exact_mod_cast Nat.pow_le_pow_right (n:=2) (by omega) h4
   omega)
  rw [LZ k h5] at h7
  unfold TD at h7
  have:=List.any_eq_false.1 h7 x hx
  simpa using this
 ·rcases h3 with ⟨_,rfl⟩ | ⟨h4,h5,h6⟩
  ·exact .inl rfl
  ·right
   -- the highest bit is one of some word's
   have Mt:bit (all % 18446744073709551616) (v-1)=true:=by
    cases hq:bit (all % 18446744073709551616) (v-1) with
    | true=>rfl
    | false=>
     have:=py (u:=all % 18446744073709551616) (v:=v-1) (by omega) (by omega) fun k h7 h8=>by
      by_cases hk:k=v-1
      ·rw [hk];exact hq
      ·exact NH (by omega) (by
        have:(2:Int) ^ v≤2 ^ k:=by exact_mod_cast Nat.pow_le_pow_right (n:=2) (by omega) (show v≤k by omega)
        omega)
     omega
   rw [LZ _ (by omega)] at Mt
   unfold TD at Mt
   obtain ⟨x,hx,hxb⟩:=List.any_eq_true.1 Mt
   refine ⟨x,hx,?_⟩
   rcases Int.lt_or_le (x % 18446744073709551616) (2 ^ (v-1)) with h7 | h7
   ·have:=NH (by omega) h7
    rw [Mc _ (by omega)] at this
    rw [this] at hxb
    cases hxb
   ·exact h7
def sb (s:ByteArray) (p:Nat):Bool:=bit (byteAt s ((p / 8:Nat):Int)) (p % 8)
theorem Zjg {a:Nat} (h:a<9223372036854775808):BL .i64 (a:Int) 7=((a % 8:Nat):Int):=by
 unfold BL
 show IntKind.wrap .i64 ((BitVec.ofInt 64 (a:Int) &&& BitVec.ofInt 64 7).toNat:Int)=_
 rw [BitVec.toNat_and,show (BitVec.ofInt 64 7).toNat=2 ^ 3-1 from rfl,Nat.and_two_pow_sub_one_eq_mod,show (BitVec.ofInt 64 (a:Int)).toNat=a by rw [BitVec.toNat_ofInt];omega,Km]
 omega
theorem Yp2 (a:Nat):BH .i64 (a:Int) 3=((a / 8:Nat):Int):=by
 have:=NC (a:Int) 3 (by omega)
 rw [show ((3:Nat):Int)=3 from rfl] at this
 rw [this]
 omega
theorem qd {f:Nat→Bool} (a b:Nat):(List.range (a+b)).map f=(List.range a).map f++(List.range b).map fun i=>f (a+i):=by
 rw [List.range_add,AE,List.map_map]
 rfl
theorem Zto (s:ByteArray) {w:Nat} (hw:w≤64) (base:Nat) (hb:base<1000000000000) (DY:base+w≤8*s.size):∀ (d C9 n:Nat),d=w-C9→C9≤w→d<n→
  Gl.l0 n s (w:Int) (numOf ((List.range C9).map fun i=>sb s (base+i))) ((base+C9:Nat):Int) (C9:Int)=some (IntKind.wrap .i64 (numOf ((List.range w).map fun i=>sb s (base+i)))):=by
 intro d
 induction d using Nat.strongRecOn with
 | ind d ih=>
 intro C9 n hd hg hn
 obtain ⟨n,rfl⟩:∃ k,n=k+1:=⟨n-1,by omega⟩
 show Gl.S0 (Gl.l0 n) s _ _ _ _=_
 unfold Gl.S0
 by_cases hgw:C9=w
 ·subst hgw
  rw [AZ (by omega)]
  rfl
 ·rw [Bl (by omega),Aa,Yp2,Bf (by rw [C6];omega),Aa,Zjg (by omega),Cq (by omega),Aa]
  have Ylx:Be .i64 8 (((base+C9) % 8:Nat):Int)=((8-(base+C9) % 8:Nat):Int):=by rw [Dn (by omega)];omega
  have Ymx:Be .i64 (w:Int) (C9:Int)=((w-C9:Nat):Int):=by rw [Dn (by omega)];omega
  have QJ:DP (Be .i64 8 (((base+C9) % 8:Nat):Int)) (Be .i64 (w:Int) (C9:Int))=((min (8-(base+C9) % 8) (w-C9):Nat):Int):=by
   rw [Ylx,Ymx]
   unfold DP
   split <;> omega
  rw [QJ]
  generalize hk:min (8-(base+C9) % 8) (w-C9)=k
  have Xo:k≤8:=by omega
  rw [tU Xo,Ad,Cq (by omega),Aa]
  have Iu:=UU s (((base+C9) / 8:Nat):Int)
  have Of:IntKind.wrap .u64 (byteAt s (((base+C9) / 8:Nat):Int))=byteAt s (((base+C9) / 8:Nat):Int):=by rw [Ew];omega
  have hp:=EX ((base+C9) % 8)
  rw [Of,Mp _ _ (by omega)]
  have cw:0≤byteAt s (((base+C9) / 8:Nat):Int) / 2 ^ ((base+C9) % 8):=Int.ediv_nonneg Iu.1 (Int.le_of_lt hp)
  have cx:byteAt s (((base+C9) / 8:Nat):Int) / 2 ^ ((base+C9) % 8)<18446744073709551616:=by
   have:=Int.ediv_le_self (2 ^ ((base+C9) % 8)) Iu.1
   omega
  have Gc:=Lu ((List.range C9).map fun i=>sb s (base+i))
  rw [Ai,List.length_range] at Gc
  rw [fg cw cx Xo,fU Gc.1 Gc.2 (by omega),Bj (by omega),Bj (by omega)]
  have kv:byteAt s (((base+C9) / 8:Nat):Int) / 2 ^ ((base+C9) % 8) % 2 ^ k=numOf ((List.range k).map fun i=>sb s (base+(C9+i))):=by
   rw [← UL]
   congr 1
   apply List.map_congr_left
   intro i hi
   have hi:=List.mem_range.1 hi
   rw [Qc]
   unfold sb
   rw [show (base+(C9+i)) / 8=(base+C9) / 8 by omega,show (base+(C9+i)) % 8=(base+C9) % 8+i by omega]
  have N2:numOf ((List.range (C9+k)).map fun i=>sb s (base+i))=numOf ((List.range C9).map fun i=>sb s (base+i))+byteAt s (((base+C9) / 8:Nat):Int) / 2 ^ ((base+C9) % 8) % 2 ^ k*2 ^ C9:=by
   rw [qd,U4,Ai,List.length_range,kv,Int.mul_comm (2 ^ C9)]
  rw [← N2]
  have WV:=Lu ((List.range (C9+k)).map fun i=>sb s (base+i))
  rw [Ai,List.length_range] at WV
  have B1:(2:Int) ^ (C9+k)≤2 ^ 64:=by exact_mod_cast Nat.pow_le_pow_right (n:=2) (by omega) (show C9+k≤64 by omega)
  rw [← M4] at B1
  rw [Int.emod_eq_of_lt WV.1 (by omega)]
  have:=ih (w-(C9+k)) (by omega) (C9+k) n rfl (by omega) (by omega)
  rw [show ((base+C9:Nat):Int)+(k:Int)=((base+(C9+k):Nat):Int) by omega,show (C9:Int)+(k:Int)=((C9+k:Nat):Int) by omega]
  exact this
def LJ (s:ByteArray) (k w:Nat):Int:=IntKind.wrap .i64 (numOf ((List.range w).map fun i=>sb s (k*w+i)))
theorem Zpl (s:ByteArray) {k w:Nat} (hw:w≤64) (hk:k≤65536) (DY:(k+1)*w≤8*s.size):Gl s (k:Int) (w:Int)=some (LJ s k w):=by
 show Gl.S (Gl.l0 fu) s _ _=_
 unfold Gl.S
 have hb:k*w≤65536*64:=Nat.mul_le_mul hk hw
 have e:(k:Int)*(w:Int)=((k*w:Nat):Int):=by simp
 rw [Jg (by rw [e];omega),e]
 rw [Nat.add_mul] at DY
 exact Zto s hw (k*w) (by omega) (by omega) w 0 fu (by omega) (by omega) (by unfold fu;omega)
theorem Yfj (s:ByteArray) {w n:Nat} (hw:w≤64) (hn:n≤65536) (DY:n*w≤8*s.size):∀ (d i m:Nat),d=n-i→i≤n→d<m→
  Dd.l1 m s (w:Int) (n:Int) (i:Int) ((List.range i).map (fun k=>LJ s k w)++List.replicate (n-i) (0:Int))=some ((List.range n).map (fun k=>LJ s k w),0):=by
 intro d
 induction d with
 | zero=>
  intro i m hd hi hm
  have:i=n:=by omega
  subst this
  obtain ⟨m,rfl⟩:∃ k,m=k+1:=⟨m-1,by omega⟩
  show Dd.S1 _ _ _ _ _ _=_
  unfold Dd.S1
  rw [AZ (by omega),Ac,Nat.sub_self,List.replicate_zero,Ay]
 | succ d ih=>
  intro i m hd hi hm
  obtain ⟨m,rfl⟩:∃ k,m=k+1:=⟨m-1,by omega⟩
  show Dd.S1 (Dd.l1 m) _ _ _ _ _=_
  unfold Dd.S1
  have hf:(i+1)*w≤n*w:=AJ _ (by omega)
  rw [Bl (by omega),Aa,Zpl s hw (by omega) (by omega),Ad,Bf (by rw [AW];simp;omega),Aa,Bj (by omega)]
  have:=ih (i+1) m (by omega) (by omega) (by omega)
  rw [show (i:Int)+1=((i+1:Nat):Int) by omega,← this]
  congr 1
  rw [show ((i:Int)).toNat=i from rfl,List.set_append_right _ _ (by simp),Ai,List.length_range,Nat.sub_self,show n-i=(n-(i+1))+1 by omega,List.replicate_succ,List.set_cons_zero,List.range_succ,AE,
   Al]
  rfl
theorem Zql (s:ByteArray) {w n:Nat} (hw:w≤64) (hn:n≤65536):Dd s (n:Int) (w:Int) =
  some (if s.size=(n*w+7) / 8 then (if n*w % 8=0∨byteAt s ((s.size-1:Nat):Int)<2 ^ (n*w % 8) then ((List.range n).map (fun k=>LJ s k w),0) else ([],20)) else ([],20)):=by
 show Dd.S (Dd.t0 fu) s _ _=_
 unfold Dd.S
 have hb:n*w≤65536*64:=Nat.mul_le_mul hn hw
 have e:(n:Int)*(w:Int)=((n*w:Nat):Int):=by simp
 rw [AZ (by omega),Ac,AZ (by omega),Ac,AZ (by omega),Ac,AZ (by omega),Ac,oh _ _ hn hw,C6]
 by_cases hs:s.size=(n*w+7) / 8
 ·rw [Cu (by omega),Ac,if_pos hs,Jg (by rw [e];omega),e,Zjg (by omega)]
  have hj:n*w≤8*s.size→Dd.t0 fu s (n:Int) (w:Int)=some ((List.range n).map (fun k=>LJ s k w),0):=fun hf=>by
   show Dd.S0 (Dd.l1 _) s (n:Int) (w:Int)=_
   unfold Dd.S0
   rw [Cq (by omega),B7 (by omega)]
   have:=Yfj s hw hn hf n 0 18446744073709551615 (by omega) (by omega) (by omega)
   rw [Nat.sub_zero] at this
   exact this
  rcases Nat.eq_zero_or_pos (n*w % 8) with h0 | HH
  ·rw [AZ (by omega),Ac,if_pos (.inl h0)]
   exact hj (by omega)
  ·rw [Bl (by omega),Aa,Dn (by omega),Bf (by omega),Aa,Cq (by omega),Aa]
   have Bu:((s.size:Nat):Int)-1=((s.size-1:Nat):Int):=by omega
   have Iu:=UU s ((s.size-1:Nat):Int)
   have lV:BH .u8 (byteAt s ((s.size-1:Nat):Int)) ((n*w % 8:Nat):Int)=byteAt s ((s.size-1:Nat):Int) / 2 ^ (n*w % 8):=by
    unfold BH
    have:min ((n*w % 8:Nat):Int).toNat (IntKind.bits .u8)=n*w % 8:=by show min (n*w % 8) 8=_;omega
    rw [this,Int.fdiv_eq_ediv_of_nonneg]
    exact Int.le_of_lt (EX _)
   have hp:=EX (n*w % 8)
   rw [Bu,lV]
   by_cases AO:byteAt s ((s.size-1:Nat):Int)<2 ^ (n*w % 8)
   ·rw [Int.ediv_eq_zero_of_lt Iu.1 AO,AZ (by omega),Ac,if_pos (.inr AO)]
    exact hj (by omega)
   ·have h1:1≤byteAt s ((s.size-1:Nat):Int) / 2 ^ (n*w % 8):=(Int.le_ediv_iff_mul_le hp).2 (by omega)
    rw [Bl (by omega),Aa,if_neg (by omega)]
 ·rw [Jl (by omega),Aa,if_neg hs]
end Go.AM.Pure
end

section
/- What was packed is taken as it was. -/
namespace Go.AM.Pure
open Go.AM
theorem qg:∀ (l:List Bool) (k:Nat),bit (numOf l) k=l.getD k false
 | [],k=>by show bit 0 k=_;rw [Tc];rfl
 | b :: l,k=>by
  rw [dS]
  have h:=Zb (V:=if b then 1 else 0) (c:=numOf l) (a:=1) (by cases b <;> decide) (by cases b <;> decide) k
  rw [show (2:Int)*numOf l=numOf l*2 ^ 1 by rw [Int.pow_succ,Int.pow_zero];omega,h]
  cases k with
  | zero=>cases b <;> rfl
  | succ k=>rw [if_neg (by omega),show k+1-1=k by omega,qg l k];rfl
theorem Tf:∀ (n:Nat) (s:List Bool) (j:Nat),j<n→(DQ n s)[j]? = some (numOf ((s.drop (8*j)).take 8))
 | 0,_,_,h=>by omega
 | n+1,s,0,_=>by rw [P5];rfl
 | n+1,s,j+1,h=>by
  rw [P5,List.getElem?_cons_succ,Tf n _ j (by omega),List.drop_drop]
  congr 4
  omega
theorem rS {w:Nat}:∀ (l:List Int) (k i:Nat) (h:k<l.length),i<w→(FF l w)[k*w+i]? = some (bit l[k] i)
 | [],_,_,h,_=>by simp at h
 | x :: l,0,i,_,hi=>by
  unfold FF
  rw [List.flatMap_cons,Nat.zero_mul,Au,AD (by rw [Kq];exact hi)]
  unfold wb
  simp [hi]
 | x :: l,k+1,i,h,hi=>by
  have:=rS l k i (by simpa using h) hi
  unfold FF at this ⊢
  rw [List.flatMap_cons,Aw (by rw [Kq,Nat.add_mul];omega),Kq,show (k+1)*w+i-w=k*w+i by rw [Nat.add_mul];omega]
  simpa using this
theorem Zks {l:List Int} {w:Nat} {s:ByteArray} (hs:Bi s=CK l w) {p:Nat} (hp:p<l.length*w):sb s p=(FF l w).getD p false:=by
 unfold sb
 have hj:p / 8<(l.length*w+7) / 8:=by omega
 have Bu:s.size=(l.length*w+7) / 8:=by rw [← DN,hs,Jy]
 have h1:=Lw s (p / 8) (by omega)
 rw [hs] at h1
 unfold CK at h1
 rw [Tf _ _ _ hj] at h1
 rw [← Option.some.inj h1,qg,Ax,Ax,AA,if_pos (by omega),List.getElem?_drop]
 congr 2
 omega
theorem wrap_small {x:Int} (h:BY x) {w:Nat} (hw:w≤64) (hx:x % 18446744073709551616<2 ^ w):IntKind.wrap .i64 (x % 2 ^ w)=x:=by
 have h1:x % 2 ^ w=x % 18446744073709551616:=by
  have hd:=Int.emod_emod_of_dvd x (Vo hw)
  rw [← M4] at hd
  rw [← hd]
  exact Int.emod_eq_of_lt (by omega) hx
 rw [h1,Rm,NA h]
theorem oN {l:List Int} {w:Nat} (hw:w≤64) {s:ByteArray} (hs:Bi s=CK l w) (B1:∀ x∈l,BY x) (hv:∀ x∈l,x % 18446744073709551616<2 ^ w) {k:Nat} (hk:k<l.length):LJ s k w=l[k]:=by
 unfold LJ
 have Jm:l[k]∈l:=Aq hk
 have:(List.range w).map (fun i=>sb s (k*w+i))=wb l[k] w:=by
  unfold wb
  apply List.map_congr_left
  intro i hi
  have hi:=List.mem_range.1 hi
  have hle:(k+1)*w≤l.length*w:=AJ _ hk
  rw [Nat.add_mul] at hle
  rw [Zks hs (by omega),Ax,rS l k i hk hi]
  rfl
 rw [this,YV,wrap_small (B1 _ Jm) hw (hv _ Jm)]
theorem U6 {l:List Int} {w:Nat} (hw:w≤64) (hl:l.length≤65536) (B1:∀ x∈l,BY x) (hv:∀ x∈l,x % 18446744073709551616<2 ^ w) {s:ByteArray} (hs:Bi s=CK l w):
  Dd s (l.length:Int) (w:Int)=some (l,0):=by
 have Bu:s.size=(l.length*w+7) / 8:=by rw [← DN,hs,Jy]
 have M3:l.length*w % 8=0∨byteAt s ((s.size-1:Nat):Int)<2 ^ (l.length*w % 8):=by
  rcases Nat.eq_zero_or_pos (l.length*w % 8) with h | h
  ·exact .inl h
  ·right
   have h1:=Lw s (s.size-1) (by omega)
   rw [hs] at h1
   unfold CK at h1
   rw [Tf _ _ _ (by omega)] at h1
   rw [← Option.some.inj h1]
   have hb:=Lu (((FF l w).drop (8*(s.size-1))).take 8)
   have hlen:(((FF l w).drop (8*(s.size-1))).take 8).length=l.length*w % 8:=by
    rw [Ag,List.length_drop,Rs]
    omega
   rw [hlen] at hb
   exact hb.2
 rw [Zql s hw hl,if_pos Bu,if_pos M3]
 congr 2
 apply List.ext_getElem
 ·simp
 ·intro i h1 h2
  rw [List.getElem_map,List.getElem_range]
  exact oN hw hs B1 hv h2
end Go.AM.Pure
end

section
/- nulls: a mask and the other cells; put together again. -/
namespace Go.AM.Pure
open Go.AM
abbrev CO (c:Cell):Bool:=OH c
def Br (l:List Cell):List Cell:=l.filter fun c=>!CO c
def D2 (l:List Cell):List Int:=l.map fun c=>if CO c then 1 else 0
def D6 (l:List Cell):List Int:=if l.any CO then CK (D2 l) 1 else []
theorem Rc {α:Type} {c:Bool} {m:Option α} {k:α→Bool} {x:α} (hc:c=true) (hm:m=some x) (hk:k x=true):OZ c m k=some x:=by
 unfold OZ
 rw [hc,hm]
 show (bif k x then some x else none)=_
 rw [hk]
 rfl
theorem rR {α:Type} {l:List α} {i:Nat} (h:i<l.length) (z:α):List.getD l ((i:Int)).toNat z=l[i]:=by
 rw [show ((i:Int)).toNat=i from rfl,Ax,Ap h]
 rfl
theorem Ykq (l:List Cell) (hl:l.length<4611686018427387904) (h0:0<l.length):∀ (d i n:Nat),d=l.length-i→i≤l.length→d<n→(∀ j (h:j<l.length),j<i→CO l[j]=false)→
  ∃ r,Gf.l0 n (l.length:Int) (i:Int) l=some (r,l)∧
   ((r = -1∧∀ j (h:j<l.length),CO l[j]=false)∨∃ k:Nat,r=(k:Int)∧∃ h:k<l.length,CO l[k]=true∧∀ j (h:j<l.length),j<k→CO l[j]=false):=by
 intro d
 induction d with
 | zero=>
  intro i n hd hi hn ha
  have:i=l.length:=by omega
  subst this
  obtain ⟨n,rfl⟩:∃ k,n=k+1:=⟨n-1,by omega⟩
  refine ⟨-1,?_, .inl ⟨rfl,fun j h=>ha j h h⟩⟩
  show Gf.S0 _ _ _ _=_
  unfold Gf.S0
  rw [AZ (by omega),Ac,Af h0,Aa]
 | succ d ih=>
  intro i n hd hi hn ha
  obtain ⟨n,rfl⟩:∃ k,n=k+1:=⟨n-1,by omega⟩
  have AO:i<l.length:=by omega
  have hS:Gf.l0 (n+1) (l.length:Int) (i:Int) l=(bif CO l[i] then some ((i:Int),l) else Gf.l0 n (l.length:Int) ((i+1:Nat):Int) l):=by
   show Gf.S0 _ _ _ _=_
   unfold Gf.S0
   rw [Bl (by omega),Aa,Bf (by rw [AW];omega),Aa,rR AO,Af h0,Aa,Bj (by omega)]
   rfl
  rw [hS]
  cases hq:CO l[i] with
  | true=>exact ⟨(i:Int),rfl, .inr ⟨i,rfl,AO,hq,ha⟩⟩
  | false=>
   obtain ⟨r,h1,h2⟩:=ih (i+1) n (by omega) (by omega) (by omega) fun j h hj=>by
    by_cases PB:j=i
    ·subst PB;exact hq
    ·exact ha j h (by omega)
   exact ⟨r,h1,h2⟩
theorem UO (l:List Cell) (c:Cell):Br (l++[c])=Br l++(if CO c then [] else [c]):=by
 unfold Br
 rw [List.filter_append]
 cases h:CO c <;> simp [h]
theorem J0 (l:List Cell):(Br l).length≤l.length:=List.length_filter_le _ _
theorem take_one {α:Type} {l:List α} {i:Nat} (h:i<l.length):l.take (i+1)=l.take i++[l[i]]:=by
 rw [List.take_add_one,Ap h]
 rfl
theorem Zm2 (L:List Cell) (hL:L.length<4611686018427387904) (h0:0<L.length):∀ (d j n:Nat) (t:List Cell),d=L.length-j→j≤L.length→d<n→t.length=L.length→t.take (Br (L.take j)).length=Br (L.take j)→t.drop j=L.drop j→
  ∃ t',DL.l0 (DL.t1 fu) n ((Br (L.take j)).length:Int) (j:Int) t=some (((Br L).length:Int),t')∧t'.length=L.length∧t'.take (Br L).length=Br L:=by
 intro d
 induction d with
 | zero=>
  intro j n t hd hj hn ht h1 h2
  have:j=L.length:=by omega
  subst this
  obtain ⟨n,rfl⟩:∃ k,n=k+1:=⟨n-1,by omega⟩
  rw [Ar] at h1 ⊢
  have hle:=J0 L
  have E0:((Int.toNat (AP t))-(Int.toNat ((Br L).length:Int)))=L.length-(Br L).length:=by rw [AW,ht];rfl
  refine ⟨GN t (Br L).length (List.replicate (L.length-(Br L).length) ((0:Int),((0:Int),eB))),?_,?_,?_⟩
  ·show DL.S0 DL.S1 _ _ _ _=_
   unfold DL.S0
   rw [AZ (by rw [AW];omega),Ac]
   unfold DL.S1
   rw [E0,show Int.toNat ((Br L).length:Int)=(Br L).length from rfl,Ey (by rw [AW];omega),Aa]
   have hlen:(GN t (Br L).length (List.replicate (L.length-(Br L).length) ((0:Int),((0:Int),eB)))).length=L.length:=by
    unfold GN
    simp
    omega
   rw [Ey (by rw [AW,hlen];omega),Aa,hlen,Af h0,Aa,Nat.sub_zero]
  ·unfold GN;simp;omega
  ·unfold GN
   rw [List.take_append_of_le_length (by rw [Ag];omega),List.take_take,Nat.min_self,h1]
 | succ d ih=>
  intro j n t hd hj hn ht h1 h2
  obtain ⟨n,rfl⟩:∃ k,n=k+1:=⟨n-1,by omega⟩
  have AO:j<L.length:=by omega
  have hle:=J0 (L.take j)
  rw [Ag] at hle
  have Sn:t[j]'(by omega)=L[j]:=by
   have:(t.drop j)[0]? = (L.drop j)[0]?:=by rw [h2]
   rw [List.getElem?_drop,List.getElem?_drop,Nat.add_zero,Ap (show j<t.length by omega),Ap AO] at this
   exact Option.some.inj this
  show ∃ t',DL.S0 _ _ _ _ _=_∧_
  unfold DL.S0
  rw [Bl (by rw [AW];omega),Aa,Bf (by rw [AW];omega),Aa,rR (show j<t.length by omega),Sn]
  have Iv:=UO (L.take j) L[j]
  rw [← take_one AO] at Iv
  cases hq:CO L[j] with
  | true=>
   rw [show UF L[j]=true from hq,Bool.not_true,Ac,Bj (by omega)]
   rw [hq,if_pos rfl,Ay] at Iv
   have:=ih (j+1) n t (by omega) (by omega) (by omega) ht (by rw [Iv];exact h1) (by rw [← List.drop_drop,← List.drop_drop,h2])
   rw [Iv] at this
   exact this
  | false=>
   rw [show UF L[j]=false from hq,Bool.not_false,Aa,Bf (by rw [AW];omega),Aa,Bj (by omega),Bj (by omega),show Int.toNat ((Br (L.take j)).length:Int)=(Br (L.take j)).length from rfl]
   rw [hq,if_neg (by decide)] at Iv
   have:=ih (j+1) n (t.set (Br (L.take j)).length L[j]) (by omega) (by omega) (by omega) (by rw [List.length_set];exact ht) (by
    rw [Iv,Ae,AG,take_one (by rw [List.length_set];omega),List.take_set_of_le (Ah _),h1,List.getElem_set_self])
    (by rw [List.drop_set_of_lt (by omega),← List.drop_drop,← List.drop_drop,h2])
   rw [Iv,Ae,AG] at this
   exact this
theorem del_eq (L:List Cell) (hL:L.length<4611686018427387904) (h0:0<L.length):
  ∃ t',DL L=some (((Br L).length:Int),t')∧t'.length=L.length∧t'.take (Br L).length=Br L:=by
 show ∃ t',DL.S (DL.l0 (DL.t1 fu) fu) L=_∧_
 unfold DL.S
 obtain ⟨r,h1,h2⟩:=Ykq L hL h0 L.length 0 fu (by omega) (by omega) (by unfold fu;omega) fun j h hj=>by omega
 have QV:Gf L=some (r,L):=h1
 rw [Rc (x:=(r,L)) (by rw [Af h0];rfl) QV (by simp),Ad]
 dsimp only
 have LP:∀ k,(∀ j (h:j<L.length),j<k→CO L[j]=false)→Br (L.take k)=L.take k:=fun k hk=>by
  unfold Br
  rw [List.filter_eq_self]
  intro c hc
  obtain ⟨i,hi,rfl⟩:=List.mem_iff_getElem.1 hc
  rw [Ag] at hi
  rw [List.getElem_take,hk i (by omega) (by omega)]
  rfl
 rcases h2 with ⟨rfl,h2⟩ | ⟨k,rfl,hk,hq,h2⟩
 ·have:Br L=L:=by
   have:=LP L.length fun j h _=>h2 j h
   rwa [Ar] at this
  rw [B0 rfl,Aa,Af h0,Aa]
  exact ⟨L,by rw [this,AW],rfl,by rw [this,Ar]⟩
 ·rw [BU (by omega),Ac,Bj (by omega)]
  have mS:=LP k h2
  have Iv:=UO (L.take k) L[k]
  rw [← take_one hk,hq,if_pos rfl,Ay,mS] at Iv
  have:=Zm2 L hL h0 (L.length-(k+1)) (k+1) fu L rfl (by omega) (by unfold fu;omega) rfl (by rw [Iv,Ag,Nat.min_eq_left (Nat.le_of_lt hk)]) rfl
  rw [Iv,Ag,Nat.min_eq_left (Nat.le_of_lt hk)] at this
  exact this
theorem Ib (l:List Cell):(D2 l).length=l.length:=by unfold D2;simp
theorem qe {l:List Cell} {i:Nat} (h:i<l.length):(D2 l)[i]'(by rw [Ib];exact h)=if CO l[i] then 1 else 0:=by unfold D2;simp
theorem U5 {l:List Cell}:∀ x∈D2 l,x=0∨x=1:=fun x hx=>by
 unfold D2 at hx
 obtain ⟨c,_,rfl⟩:=List.mem_map.1 hx
 cases CO c
 ·exact .inl rfl
 ·exact .inr rfl
theorem Zjs (l:List Cell) (hl:l.length≤65536):Ca (D2 l) 1=some (ofBytes (CK (D2 l) 1),0):=by
 obtain ⟨v,h1,h2,h3,h4⟩:=X6 (D2 l) (by rw [Ib];omega)
 refine UM (D2 l) (w:=1) (by omega) (by rw [Ib];exact hl) h1 ?_
 rcases h4 with h4 | ⟨x,hx,h4⟩
 ·omega
 ·have h5:(2:Int) ^ (v-1)<2 ^ 1:=by
   rcases U5 x hx with rfl | rfl
   ·omega
   ·have e:(1:Int) % 18446744073709551616=1:=rfl
    rw [e] at h4
    omega
  have:=Yq h5
  omega
theorem Zuo (l:List Cell) (hl:l.length≤65536) (lo n0:Nat) (t11:List Cell):∀ (d i n:Nat),d=l.length-i→i≤l.length→d<n→
  DC.l0 (DC.t1 fu) n lo n0 l (l.length:Int) (i:Int) t11 ((D2 l).take i++List.replicate (l.length-i) (0:Int))=some (ofBytes (CK (D2 l) 1),List.take n0 (List.drop lo t11)):=by
 intro d
 induction d with
 | zero=>
  intro i n hd hi hn
  have:i=l.length:=by omega
  subst this
  obtain ⟨n,rfl⟩:∃ k,n=k+1:=⟨n-1,by omega⟩
  show DC.S0 DC.S1 _ _ _ _ _ _ _ _=_
  unfold DC.S0
  rw [AZ (by omega),Ac]
  unfold DC.S1
  rw [Nat.sub_self,List.replicate_zero,Ay,AF (by rw [Ib];exact Ah _),Zjs l hl,Ad]
 | succ d ih=>
  intro i n hd hi hn
  obtain ⟨n,rfl⟩:∃ k,n=k+1:=⟨n-1,by omega⟩
  have AO:i<l.length:=by omega
  show DC.S0 _ (DC.l0 (DC.t1 fu) n) _ _ _ _ _ _ _=_
  unfold DC.S0
  rw [Bl (by omega),Aa,Bf (by rw [AW];omega),Aa,Bz AO]
  have N2:∀ b:Int,(D2 l)[i]'(by rw [Ib];exact AO)=b→(D2 l).take i++b :: List.replicate (l.length-(i+1)) (0:Int)=(D2 l).take (i+1)++List.replicate (l.length-(i+1)) (0:Int):=fun b hb=>by
   rw [take_one (by rw [Ib];exact AO),hb,Al]
   rfl
  have E0:List.replicate (l.length-i) (0:Int)=0 :: List.replicate (l.length-(i+1)) (0:Int):=by rw [show l.length-i=(l.length-(i+1))+1 by omega,List.replicate_succ]
  have:=ih (i+1) n (by omega) (by omega) (by omega)
  have hg:=qe AO
  cases hq:CO l[i] with
  | true=>
   rw [hq,if_pos rfl] at hg
   rw [show OH l[i]=true from hq,Aa,Bf (by rw [AW,Ae,Ag,Ib,AK];omega),Aa,Bj (by omega),E0,show ((i:Int)).toNat=i from rfl,List.set_append_right _ _ (by rw [Ag];omega),
    Ag,Ib,Nat.min_eq_left (Nat.le_of_lt AO),Nat.sub_self,List.set_cons_zero,N2 1 hg]
   exact this
  | false=>
   rw [hq,if_neg (by decide)] at hg
   rw [show OH l[i]=false from hq,Ac,Bj (by omega),E0,N2 0 hg]
   exact this
theorem qf {l:List Cell} (h:(Br l).length=l.length):Br l=l∧l.any CO=false:=by
 have h1:∀ c∈l,(!CO c)=true:=List.length_filter_eq_length_iff.1 h
 refine ⟨List.filter_eq_self.2 h1,List.any_eq_false.2 fun c hc=>?_⟩
 have:=h1 c hc
 simpa using this
theorem n9 (l:List Cell) (hl:l.length≤65536) (h0:0<l.length):DC l=some (ofBytes (D6 l),Br l):=by
 show DC.S (DC.l0 (DC.t1 fu) fu) l=_
 unfold DC.S
 have hc:Ko 32 l=some l:=by
  unfold Ko
  rw [Af h0,B7 (by omega)]
  rfl
 obtain ⟨t',h1,h2,h3⟩:=del_eq l (by omega) h0
 rw [hc,Ad,Rc (x:=(((Br l).length:Int),t')) (by rw [Af h0];rfl) h1 (by simp [h2]),Ad]
 dsimp only
 rw [show Int.toNat ((Br l).length:Int)=(Br l).length from rfl,List.drop_zero,AW]
 have hle:=J0 l
 by_cases heq:(Br l).length=l.length
 ·obtain ⟨h4,h5⟩:=qf heq
  rw [B0 (by omega),Aa,h3]
  unfold D6
  rw [h5]
  rfl
 ·have Nd:l.any CO=true:=by
   cases hq:l.any CO with
   | true=>rfl
   | false=>
    have:Br l=l:=List.filter_eq_self.2 fun c hc=>by
     have:=List.any_eq_false.1 hq c hc
     simpa using this
    rw [this] at heq
    exact absurd rfl heq
  rw [BU (by omega),Ac,Cq (by omega),B7 (by show l.length*8≤_;omega)]
  have:=Zuo l hl 0 (Br l).length t' l.length 0 fu (by omega) (by omega) (by unfold fu;omega)
  rw [Nat.sub_zero,List.drop_zero,h3] at this
  unfold D6
  rw [Nd,if_pos rfl]
  exact this
end Go.AM.Pure
end

section
/- nulls: Count and Join of what Split gave. -/
namespace Go.AM.Pure
open Go.AM
theorem Zus (l:List Int) (hl:l.length<4611686018427387904) (v:Int):∀ (d i n:Nat),d=l.length-i→i≤l.length→d<n→(∀ j (h:j<l.length),j<i→l[j]≠v)→
  ∃ r,Gx.l0 n l v (l.length:Int) (i:Int)=some r∧Bq 0 r=l.any (fun x=>decide (x=v)):=by
 intro d
 induction d with
 | zero=>
  intro i n hd hi hn ha
  have:i=l.length:=by omega
  subst this
  obtain ⟨n,rfl⟩:∃ k,n=k+1:=⟨n-1,by omega⟩
  refine ⟨-1,?_,?_⟩
  ·show Gx.S0 _ _ _ _ _=_
   unfold Gx.S0
   rw [AZ (by omega),Ac]
  ·rw [show Bq 0 (-1)=false from rfl]
   symm
   rw [List.any_eq_false]
   intro x hx
   obtain ⟨j,hj,rfl⟩:=List.mem_iff_getElem.1 hx
   simpa using ha j hj hj
 | succ d ih=>
  intro i n hd hi hn ha
  obtain ⟨n,rfl⟩:∃ k,n=k+1:=⟨n-1,by omega⟩
  have AO:i<l.length:=by omega
  show ∃ r,Gx.S0 (Gx.l0 n) _ _ _ _=_∧_
  unfold Gx.S0
  rw [Bl (by omega),Aa,Bf (by rw [AW];omega),Aa,Bz AO]
  by_cases hq:v=l[i]
  ·rw [B0 hq,Aa]
   refine ⟨_,rfl,?_⟩
   rw [Cq (by omega)]
   symm
   rw [List.any_eq_true]
   exact ⟨l[i],Aq AO,by simp [hq]⟩
  ·rw [BU hq,Ac,Bj (by omega)]
   exact ih (i+1) n (by omega) (by omega) (by omega) fun j h hj=>by
    by_cases PB:j=i
    ·subst PB;exact fun h=>hq h.symm
    ·exact ha j h (by omega)
theorem Zyl (l:List Int) (hl:l.length<4611686018427387904) (v:Int):XQ l v=some (l.any fun x=>decide (x=v)):=by
 unfold XQ
 obtain ⟨r,h1,h2⟩:=Zus l hl v l.length 0 fu (by omega) (by omega) (by unfold fu;omega) fun j h hj=>by omega
 have:Gx l v=some r:=h1
 rw [this,Ad,h2]
theorem Zcp (l:List Cell) (hl:l.length<4611686018427387904):∀ (d i n:Nat),d=l.length-i→i≤l.length→d<n→(∀ j (h:j<l.length),j<i→CO l[j]=false)→
  ∃ r,Gw.l0 n l (l.length:Int) (i:Int)=some r∧Bq 0 r=l.any CO:=by
 intro d
 induction d with
 | zero=>
  intro i n hd hi hn ha
  have:i=l.length:=by omega
  subst this
  obtain ⟨n,rfl⟩:∃ k,n=k+1:=⟨n-1,by omega⟩
  refine ⟨-1,?_,?_⟩
  ·show Gw.S0 _ _ _ _=_
   unfold Gw.S0
   rw [AZ (by omega),Ac]
  ·rw [show Bq 0 (-1)=false from rfl]
   symm
   rw [List.any_eq_false]
   intro x hx
   obtain ⟨j,hj,rfl⟩:=List.mem_iff_getElem.1 hx
   rw [ha j hj hj]
   decide
 | succ d ih=>
  intro i n hd hi hn ha
  obtain ⟨n,rfl⟩:∃ k,n=k+1:=⟨n-1,by omega⟩
  have AO:i<l.length:=by omega
  show ∃ r,Gw.S0 (Gw.l0 n) _ _ _=_∧_
  unfold Gw.S0
  rw [Bl (by omega),Aa,Bf (by rw [AW];omega),Aa,Bz AO]
  cases hq:CO l[i] with
  | true=>
   rw [show OH l[i]=true from hq,Aa]
   refine ⟨_,rfl,?_⟩
   rw [Cq (by omega)]
   symm
   rw [List.any_eq_true]
   exact ⟨l[i],Aq AO,hq⟩
  | false=>
   rw [show OH l[i]=false from hq,Ac,Bj (by omega)]
   exact ih (i+1) n (by omega) (by omega) (by omega) fun j h hj=>by
    by_cases PB:j=i
    ·subst PB;exact hq
    ·exact ha j h (by omega)
theorem Zrk (l:List Cell) (hl:l.length<4611686018427387904):XO l=some (l.any CO):=by
 unfold XO
 obtain ⟨r,h1,h2⟩:=Zcp l hl l.length 0 fu (by omega) (by omega) (by unfold fu;omega) fun j h hj=>by omega
 have:Gw l=some r:=h1
 rw [this,Ad,h2]
theorem Zvs (l:List Cell):(D2 l).any (fun x=>decide (x=1))=l.any CO:=by
 unfold D2
 rw [List.any_map]
 congr 1
 funext c
 show decide ((if CO c=true then (1:Int) else 0)=1)=CO c
 cases CO c <;> rfl
theorem Zdp {l:List Cell} (h:l.any CO=false):D2 l=List.replicate l.length (0:Int):=by
 rw [List.eq_replicate_iff]
 refine ⟨Ib l,fun x hx=>?_⟩
 unfold D2 at hx
 obtain ⟨c,hc,rfl⟩:=List.mem_map.1 hx
 have:=List.any_eq_false.1 h c hc
 rw [if_neg this]
theorem oq (l:List Cell) (hl:l.length≤65536) (h0:0<l.length) {s:ByteArray} (hs:Bi s=D6 l):US s (l.length:Int)=some (D2 l,0):=by
 unfold US
 rw [AZ (by omega),Ac,AZ (by omega),Ac]
 unfold D6 at hs
 cases Nd:l.any CO with
 | false=>
  rw [Nd,if_neg (by decide)] at hs
  have:s=eB:=LH.2 (by rw [← DN,hs];rfl)
  rw [KY this,Aa,Cq (by omega),B7 (by show l.length*8≤_;omega)]
  show some (List.replicate l.length (0:Int),(0:Int))=_
  rw [Zdp Nd]
 | true=>
  rw [Nd,if_pos rfl] at hs
  have Cb:s≠eB:=fun h=>by
   have:=LH.1 h
   rw [← DN,hs,Jy,Ib] at this
   omega
  rw [Pe Cb,Ac]
  have:=U6 (l:=D2 l) (w:=1) (by omega) (by rw [Ib];exact hl) (fun x hx=>by
   unfold BY
   rcases U5 x hx with rfl | rfl <;> omega) (fun x hx=>by
   rcases U5 x hx with rfl | rfl <;> decide) hs
  rw [Ib] at this
  rw [show (1:Int)=((1:Nat):Int) from rfl,this,Ad]
  dsimp only
  rw [Cu rfl,Ac,Zyl _ (by rw [Ib];omega),Ad]
  rw [show ((1:Nat):Int)=1 from rfl,Zvs,Nd]
  rfl
theorem Ya3 (l:List Cell):(D2 l).foldr (· + ·) 0=((l.length-(Br l).length:Nat):Int):=by
 induction l with
 | nil=>rfl
 | cons c l ih=>
  have hle:=J0 l
  have e1:D2 (c :: l)=(if CO c then 1 else 0) :: D2 l:=rfl
  have e2:Br (c :: l)=if CO c then Br l else c :: Br l:=by
   unfold Br
   cases h:CO c <;> simp [h]
  rw [e1,e2,List.foldr_cons,ih]
  cases CO c
  ·rw [if_neg (by decide),if_neg (by decide),Aj,Aj];omega
  ·rw [if_pos rfl,if_pos rfl,Aj];omega
theorem Zep (b:List Int) (hb:b.length≤65536) (hm:∀ x∈b,x=0∨x=1) (e:Int):∀ (d i n:Nat) (k:Int),d=b.length-i→i≤b.length→d<n→0≤k→k≤i→
  Fv.l0 n e k b (b.length:Int) (i:Int)=some (k+(b.drop i).foldr (· + ·) 0,e):=by
 intro d
 induction d with
 | zero=>
  intro i n k hd hi hn h1 h2
  have:i=b.length:=by omega
  subst this
  obtain ⟨n,rfl⟩:∃ k,n=k+1:=⟨n-1,by omega⟩
  show Fv.S0 _ _ _ _ _ _=_
  unfold Fv.S0
  rw [AZ (by omega),Ac,List.drop_length]
  simp
 | succ d ih=>
  intro i n k hd hi hn h1 h2
  obtain ⟨n,rfl⟩:∃ k,n=k+1:=⟨n-1,by omega⟩
  have AO:i<b.length:=by omega
  show Fv.S0 (Fv.l0 n) _ _ _ _ _=_
  unfold Fv.S0
  have hx:=hm b[i] (Aq AO)
  rw [Bl (by omega),Aa,Bf (by rw [AW];omega),Aa,Bz AO,Bj (by omega),Bj (by omega)]
  have:=ih (i+1) n (k+b[i]) (by omega) (by omega) (by omega) (by omega) (by omega)
  rw [show (i:Int)+1=((i+1:Nat):Int) by omega,this,List.drop_eq_getElem_cons AO,List.foldr_cons,Int.add_assoc]
theorem oa (l:List Cell) (hl:l.length≤65536) (h0:0<l.length) {s:ByteArray} (hs:Bi s=D6 l):Fv s (l.length:Int)=some (((l.length-(Br l).length:Nat):Int),0):=by
 show Fv.S (Fv.l0 fu) s _=_
 unfold Fv.S
 rw [oq l hl h0 hs,Ad]
 dsimp only
 have:=Zep (D2 l) (by rw [Ib];exact hl) U5 0 (D2 l).length 0 fu 0 (by omega) (by omega) (by unfold fu;rw [Ib];omega) (by omega) (by omega)
 rw [List.drop_zero,Ya3,Int.zero_add] at this
 exact this
theorem Zws (l:List Cell) (hl:l.length≤65536) (hz:∀ c∈l,CO c=true→c=(0,0,eB)):∀ (d i n:Nat),d=l.length-i→i≤l.length→d<n→
  FM.l0 n (Br (l.drop i)) (D2 l) (l.length:Int) (i:Int) (l.take i++List.replicate (l.length-i) ((0:Int),((0:Int),eB)))=some (l,0):=by
 intro d
 induction d with
 | zero=>
  intro i n hd hi hn
  have:i=l.length:=by omega
  subst this
  obtain ⟨n,rfl⟩:∃ k,n=k+1:=⟨n-1,by omega⟩
  show FM.S0 _ _ _ _ _ _=_
  unfold FM.S0
  rw [AZ (by omega),Ac,Nat.sub_self,List.replicate_zero,Ay,Ar]
 | succ d ih=>
  intro i n hd hi hn
  obtain ⟨n,rfl⟩:∃ k,n=k+1:=⟨n-1,by omega⟩
  have AO:i<l.length:=by omega
  show FM.S0 (FM.l0 n) _ _ _ _ _=_
  unfold FM.S0
  have FP:i<(D2 l).length:=by rw [Ib];exact AO
  rw [Bl (by omega),Aa,Bf (by rw [AW,Ib];omega),Aa,Bz FP,qe AO]
  have E0:List.replicate (l.length-i) ((0:Int),((0:Int),eB))=(0,0,eB) :: List.replicate (l.length-(i+1)) ((0:Int),((0:Int),eB)):=by rw [show l.length-i=(l.length-(i+1))+1 by omega,List.replicate_succ]
  have N2:l.take i++l[i] :: List.replicate (l.length-(i+1)) ((0:Int),((0:Int),eB))=l.take (i+1)++List.replicate (l.length-(i+1)) ((0:Int),((0:Int),eB)):=by
   rw [take_one AO,Al]
   rfl
  have Zpd:l.drop i=l[i] :: l.drop (i+1):=List.drop_eq_getElem_cons AO
  have:=ih (i+1) n (by omega) (by omega) (by omega)
  cases hq:CO l[i] with
  | true=>
   have h1:Br (l.drop i)=Br (l.drop (i+1)):=by
    rw [Zpd]
    unfold Br
    rw [List.filter_cons_of_neg (by rw [hq];decide)]
   rw [hz l[i] (Aq AO) hq] at N2
   rw [if_pos rfl,BU (by decide),Ac,Bj (by omega),h1,E0,N2]
   exact this
  | false=>
   have h1:Br (l.drop i)=l[i] :: Br (l.drop (i+1)):=by
    rw [Zpd]
    unfold Br
    rw [List.filter_cons_of_pos (by rw [hq];rfl)]
   have hle:=J0 (l.drop (i+1))
   rw [List.length_drop] at hle
   rw [if_neg (by decide),B0 rfl,Aa,h1,Bf (by rw [AW,Aj];omega),Aa,Ey (by rw [AW,Aj];omega),Aa,Bf (by rw [AW,Ae,Ag,AK];omega),Aa,Bj (by omega),E0,
    show ((i:Int)).toNat=i from rfl,List.set_append_right _ _ (by rw [Ag];omega),Ag,Nat.min_eq_left (Nat.le_of_lt AO),Nat.sub_self,List.set_cons_zero]
   rw [show nth (l[i] :: Br (l.drop (i+1))) 0 (0,0,eB)=l[i] from rfl,N2]
   exact this
theorem Zfp (l:List Cell):(Br l).any CO=false:=by
 rw [List.any_eq_false]
 intro c hc
 unfold Br at hc
 have:=(List.mem_filter.1 hc).2
 simpa using this
theorem Zsk (l:List Cell) (hl:l.length≤65536) (h0:0<l.length) (hz:∀ c∈l,CO c=true→c=(0,0,eB)) {s:ByteArray} (hs:Bi s=D6 l):FM s (l.length:Int) (Br l)=some (l,0):=by
 show FM.S (FM.l0 fu) s _ _=_
 unfold FM.S
 have hle:=J0 l
 rw [oq l hl h0 hs,Ad]
 dsimp only
 rw [Cu rfl,Ac,oa l hl h0 hs,Ad]
 dsimp only
 rw [Dn (by omega),Cu (by rw [AW];omega),Ac,Zrk _ (by omega),Ad,Zfp,Ac,Cq (by omega),B7 (by show l.length*32≤_;omega)]
 have:=Zws l hl hz l.length 0 fu (by omega) (by omega) (by unfold fu;omega)
 rw [List.drop_zero,Nat.sub_zero,List.take_zero,AH] at this
 have e:AP (List.replicate (Int.toNat (l.length:Int)) ((0:Int),((0:Int),eB)))=(l.length:Int):=by rw [AW,AK];rfl
 rw [e]
 exact this
end Go.AM.Pure
end

section
/- check: what is sealed is opened. -/
namespace Go.AM.Pure
open Go.AM
def Vq (n:Int):Int:=Fq .u32 (BH .u32 n 1) (BL .u32 2197175160 (Be .u32 0 (BL .u32 n 1)))
def WW:Nat→Int→Int
 | 0,n=>n
 | k+1,n=>WW k (Vq n)
def Vr (n b:Int):Int:=WW 8 (Fq .u32 n (IntKind.wrap .u32 b))
def Jj (sum:Int) (l:List Int):Int:=IntKind.wrap .i64 (Fq .u32 4294967295 (l.foldl Vr (Fq .u32 4294967295 (IntKind.wrap .u32 sum))))
theorem pD {o0:ByteArray→Int→Int→Int→Option Int} {s:ByteArray} {len i:Int}:∀ (d k m:Nat) (n:Int),k+d=8→d<m→
  C1.l1 o0 m s n len i (k:Int)=o0 s (WW d n) len (AQ .i64 i 1)
 | 0,k,m,n,h,hm=>by
  obtain ⟨m,rfl⟩:∃ j,m=j+1:=⟨m-1,by omega⟩
  show C1.S1 _ _ _ _ _ _ _=_
  unfold C1.S1
  rw [AZ (by omega)]
  rfl
 | d+1,k,m,n,h,hm=>by
  obtain ⟨m,rfl⟩:∃ j,m=j+1:=⟨m-1,by omega⟩
  show C1.S1 o0 (C1.l1 o0 m) _ _ _ _ _=_
  unfold C1.S1
  rw [Bl (by omega),Aa,Bj (by omega)]
  exact pD d (k+1) m (Vq n) (by omega) (by omega)
theorem Zbp (s:ByteArray) (hs:s.size<4611686018427387904):∀ (d i m:Nat) (n:Int),d=s.size-i→i≤s.size→20<m→
  C1.l0 (m+d) s n (s.size:Int) (i:Int)=some (IntKind.wrap .i64 (Fq .u32 4294967295 (((Bi s).drop i).foldl Vr n))):=by
 intro d
 induction d with
 | zero=>
  intro i m n hd hi hm
  have:i=s.size:=by omega
  subst this
  obtain ⟨m,rfl⟩:∃ j,m=j+1:=⟨m-1,by omega⟩
  show C1.S0 _ _ _ _ _=_
  unfold C1.S0
  rw [AZ (by omega),Ac,List.drop_eq_nil_of_le (by rw [DN];exact Ah _)]
  rfl
 | succ d ih=>
  intro i m n hd hi hm
  have AO:i<s.size:=by omega
  show C1.S0 (C1.l1 (C1.l0 (m+d)) (m+d)) s n (s.size:Int) (i:Int)=_
  unfold C1.S0
  rw [Bl (by omega),Aa,Bf (by rw [C6];omega),Aa]
  have h1:=pD (o0:=C1.l0 (m+d)) (s:=s) (len:=(s.size:Int)) (i:=(i:Int)) 8 0 (m+d) (Fq .u32 n (IntKind.wrap .u32 (byteAt s (i:Int)))) rfl (by omega)
  rw [show ((0:Nat):Int)=0 from rfl] at h1
  rw [h1,Bj (by omega)]
  have hg:=Lw s i AO
  have Ll:(Bi s).drop i=byteAt s (i:Int) :: (Bi s).drop (i+1):=by
   rw [List.drop_eq_getElem_cons (by rw [DN];exact AO)]
   congr 1
   rw [Ap (by rw [DN];exact AO)] at hg
   exact Option.some.inj hg
  rw [Ll,List.foldl_cons]
  exact ih (i+1) m _ (by omega) (by omega) hm
theorem Zpk (sum:Int) (s:ByteArray) (hs:s.size<4611686018427387904):C1 sum s=some (Jj sum (Bi s)):=by
 show C1.S (C1.l0 fu) sum s=_
 unfold C1.S
 have:=Zbp s hs s.size 0 (fu-s.size) (Fq .u32 4294967295 (IntKind.wrap .u32 sum)) (by omega) (by omega) (by unfold fu;omega)
 rw [show fu-s.size+s.size=fu by unfold fu;omega] at this
 exact this
theorem Zxl (s:ByteArray) (hs:s.size<4611686018427387904):Yx s=some (Jj 0 (Bi s)):=by
 unfold Yx
 rw [Zpk 0 s hs]
 rfl
def R4 (l:List Int):List Int:=[IntKind.wrap .u8 (BH .u32 (IntKind.wrap .u32 (Jj 0 l)) 0),IntKind.wrap .u8 (BH .u32 (IntKind.wrap .u32 (Jj 0 l)) 8),IntKind.wrap .u8 (BH .u32 (IntKind.wrap .u32 (Jj 0 l)) 16),IntKind.wrap .u8 (BH .u32 (IntKind.wrap .u32 (Jj 0 l)) 24)]
theorem Zs2 (l:List Int):∀ b∈R4 l,0≤b∧b<256:=fun b hb=>by
 unfold R4 at hb
 simp only [List.mem_cons,List.not_mem_nil,or_false] at hb
 rcases hb with rfl | rfl | rfl | rfl <;> (rw [J4];omega)
def II (l:List Int):List Int:=l++R4 l
theorem Zss (l:List Int):(II l).length=l.length+4:=by unfold II;rw [Ae];rfl
theorem oo (s:ByteArray) (hs:s.size<100000000000):EW s=some (ofBytes (II (Bi s))):=by
 show EW.S (EW.l0 fu) s=_
 unfold EW.S
 rw [Zxl s (by omega),Ad,C6,Bj (by omega),Cq (by omega),B7 (by omega)]
 show (bif BM (0+s.size) 1 then EW.l0 fu (IntKind.wrap .u32 (Jj 0 (Bi s))) (Bi s) 0 else none)=_
 rw [B7 (by omega),Aa]
 have EP:∀ (m:Nat) (N:Int) (b:List Int) (k:Nat),k<4→b.length<100000000010→EW.l0 (m+1) N b (k:Int)=EW.l0 m N (b++[IntKind.wrap .u8 (BH .u32 N ((8*k:Nat):Int))]) ((k+1:Nat):Int):=by
  intro m N b k hk hb
  show EW.S0 (EW.l0 m) N b (k:Int)=_
  unfold EW.S0
  have e:(8:Int)*(k:Int)=((8*k:Nat):Int):=by simp
  rw [Bl (by omega),Aa,Jg (by omega),e,Cq (by omega),Aa,B7 (by omega),Aa,Bj (by omega)]
  rfl
 have hl:=DN s
 have Pz:fu=18446744073709551611+1+1+1+1+1:=rfl
 rw [Pz,show (0:Int)=((0:Nat):Int) from rfl,EP _ _ _ 0 (by omega) (by omega),EP _ _ _ 1 (by omega) (by rw [Ae,AG];omega),EP _ _ _ 2 (by omega) (by simp;omega),EP _ _ _ 3 (by omega) (by simp;omega)]
 show EW.S0 _ _ _ _=_
 unfold EW.S0
 rw [AZ (by omega),Ac]
 unfold II R4
 simp
theorem Zts {l:List Int} (h:∀ b∈l,0≤b∧b<256):∀ b∈II l,0≤b∧b<256:=fun b hb=>by
 unfold II at hb
 rcases List.mem_append.1 hb with hb | hb
 ·exact h b hb
 ·exact Zs2 l b hb
theorem Zqk {l:List Int} (h:∀ b∈l,0≤b∧b<256) (hl:l.length<10000000000):Yp (ofBytes (II l))=some (ofBytes l,0):=by
 unfold Yp
 have Bu:(ofBytes (II l)).size=l.length+4:=by rw [Cg,Zss]
 have PH:=MO (Zts h)
 have hcut:cutS (ofBytes (II l)) 0 (((l.length:Nat):Int))=ofBytes l:=by
  rw [ew,PH]
  unfold II
  rw [List.take_left]
 rw [C6,Bu,Dn (by omega),show ((l.length+4:Nat):Int)-4=(l.length:Int) by omega,AZ (by omega),Ac,Ey (by omega),Aa,hcut,oo _ (by rw [Cg];omega),Ad,MO h,KY rfl]
 rfl
end Go.AM.Pure
end

section
/- Numbers as they are; numbers out of bytes that begin with them. -/
namespace Go.AM.Pure
open Go.AM
def vB (x:Int):List Int:=Eg 10 (Eb x % 18446744073709551616)
theorem IC (x:Int):KU x=ofBytes (vB x):=rfl
theorem tY:∀ (f:Nat) (u:Int),0≤u→∀ b∈Eg f u,0≤b∧b<256
 | 0,_,_,b,h=>by cases h
 | f+1,u,h0,b,h=>by
  unfold Eg at h
  split at h
  ·rcases List.mem_cons.1 h with rfl | h
   ·omega
   ·cases h
  ·rcases List.mem_cons.1 h with rfl | h
   ·omega
   ·exact tY f _ (by omega) b h
theorem Mh (x:Int):∀ b∈vB x,0≤b∧b<256:=tY 10 _ (by omega)
theorem FC (x:Int):1≤(vB x).length∧(vB x).length≤10:=by
 obtain ⟨h1,h2,_⟩:=Znd x
 rw [IC,Cg] at h1 h2
 exact ⟨h1,h2⟩
theorem OQ {x:Int} (hx:BY x) {s:ByteArray} {rest:List Int} (hs:Bi s=vB x++rest):Fz s=some (x,((vB x).length:Int),0):=by
 have Bu:(KU x).size=(vB x).length:=by rw [IC,Cg]
 have hl:s.size=(vB x).length+rest.length:=by rw [← DN,hs,Ae]
 rw [Ztl,Zsl hx (by rw [Bu,hs,List.take_left];rfl) (by omega),Bu]
theorem Ma {s:ByteArray} {a rest:List Int} (hs:Bi s=a++rest):Bi (cutS s (a.length:Int) (Bh s))=rest:=by
 rw [C6,oM,hs,List.drop_left]
theorem Zr2 (v:Int) (m:Nat) (h:8≤m):(wb v m).take 8=wb v 8:=by
 rw [iw v 8 m h,List.take_append_of_le_length (by rw [Kq];exact Ah _),AF (by rw [Kq];exact Ah _)]
theorem tZ (u:Int) (k:Nat) (hk:k<8):DQ (k+1) (wb u 64)=DQ k (wb u 64)++[u / 2 ^ (8*k) % 256]:=by
 have h:=iw u (8*k) 64 (by omega)
 rw [h,Rt k 1 _ _ (by rw [Kq])]
 congr 1
 ·have:=Rt k 0 (wb u (8*k)) (wb (u / 2 ^ (8*k)) (64-8*k)) (by rw [Kq])
  rw [Nat.add_zero] at this
  rw [this]
  exact (Ay _).symm
 ·rw [P5,Zr2 _ _ (by omega),YV]
  rfl
theorem pC {o0:List Int→List Int→Int→Int→Option ByteArray} {l:List Int} {len i u:Int} (h0:0≤u):∀ (d k m:Nat) (b:List Int),k+d=8→d<m→b.length<100000000000→
  CZ.l1 o0 m (b++DQ k (wb u 64)) (u / 2 ^ (8*k)) l len i (k:Int)=o0 (b++DQ 8 (wb u 64)) l len (AQ .i64 i 1)
 | 0,k,m,b,h,hm,hb=>by
  obtain ⟨m,rfl⟩:∃ j,m=j+1:=⟨m-1,by omega⟩
  have:k=8:=by omega
  subst this
  show CZ.S1 _ _ _ _ _ _ _ _=_
  unfold CZ.S1
  rw [AZ (by omega)]
  rfl
 | d+1,k,m,b,h,hm,hb=>by
  obtain ⟨m,rfl⟩:∃ j,m=j+1:=⟨m-1,by omega⟩
  show CZ.S1 o0 (CZ.l1 o0 m) _ _ _ _ _ _=_
  unfold CZ.S1
  have Ds:BH .u64 (u / 2 ^ (8*k)) 8=u / 2 ^ (8*(k+1)):=by
   have:=Mp (u / 2 ^ (8*k)) 8 (by omega)
   rw [show ((8:Nat):Int)=8 from rfl] at this
   rw [this,Int.ediv_ediv_of_nonneg (Int.le_of_lt (EX _)),← Int.pow_add]
   rfl
  rw [Bl (by omega),Aa,B7 (by rw [Ae,LA];omega),Aa,Bj (by omega),Ds,J4,Al,← tZ u k (by omega)]
  exact pC h0 d (k+1) m b (by omega) (by omega) hb
theorem Zzo (l:List Int) (hl:l.length<1000000000):∀ (d i m:Nat),d=l.length-i→i≤l.length→20<m→
  CZ.l0 (m+d) (DQ (8*i) (FF (l.take i) 64)) l (l.length:Int) (i:Int)=some (ofBytes (CK l 64)):=by
 intro d
 induction d with
 | zero=>
  intro i m hd hi hm
  have:i=l.length:=by omega
  subst this
  obtain ⟨m,rfl⟩:∃ j,m=j+1:=⟨m-1,by omega⟩
  show CZ.S0 _ _ _ _ _=_
  unfold CZ.S0
  rw [AZ (by omega),Ac,Ar]
  unfold CK
  rw [show (l.length*64+7) / 8=8*l.length by omega]
 | succ d ih=>
  intro i m hd hi hm
  have AO:i<l.length:=by omega
  show CZ.S0 (CZ.l1 (CZ.l0 (m+d)) (m+d)) _ l (l.length:Int) (i:Int)=_
  unfold CZ.S0
  rw [Bl (by omega),Aa,Bf (by rw [AW];omega),Aa,Bz AO]
  have h1:=pC (o0:=CZ.l0 (m+d)) (l:=l) (len:=(l.length:Int)) (i:=(i:Int)) (u:=IntKind.wrap .u64 l[i]) (by rw [Ew];omega) 8 0 (m+d) (DQ (8*i) (FF (l.take i) 64)) rfl (by omega) (by rw [LA];omega)
  rw [Nat.mul_zero,Int.pow_zero,Int.ediv_one,show DQ 0 (wb (IntKind.wrap .u64 l[i]) 64)=[] from rfl,Ay] at h1
  rw [show (0:Int)=((0:Nat):Int) from rfl,h1,Bj (by omega)]
  have:=ih (i+1) m (by omega) (by omega) hm
  rw [take_one AO,Yy,show 8*(i+1)=8*i+8 by omega,Rt _ 8 _ _ (by rw [Rs,Ag];omega)] at this
  rw [Ew,yB _ (by omega)]
  exact this
theorem Zcj (l:List Int) (hl:l.length<1000000000):CZ l=some (ofBytes (CK l 64)):=by
 show CZ.S (CZ.l0 fu) l=_
 unfold CZ.S
 rw [AW,Jg (by omega),Cq (by omega),B7 (by omega)]
 have:=Zzo l hl l.length 0 (fu-l.length) (by omega) (by omega) (by unfold fu;omega)
 rw [show fu-l.length+l.length=fu by unfold fu;omega] at this
 exact this
theorem oQ {o0:ByteArray→Int→Int→List Int→Option (List Int×Int)} {s:ByteArray} {len i:Int} {out:List Int} {k:Nat} (hk:k<1000000000) (hs:8*k+8≤s.size) (ho:k<out.length):∀ (d j m:Nat),j+d=8→d<m→
  CX.l1 o0 m s (k:Int) (numOf ((List.range (8*j)).map fun i=>sb s (k*64+i))) len i (j:Int) out=o0 s len (AQ .i64 i 1) (List.set out k (LJ s k 64))
 | 0,j,m,h,hm=>by
  obtain ⟨m,rfl⟩:∃ j,m=j+1:=⟨m-1,by omega⟩
  have:j=8:=by omega
  subst this
  show CX.S1 _ _ _ _ _ _ _ _ _=_
  unfold CX.S1
  rw [AZ (by omega),Ac,Bf (by rw [AW];omega)]
  rfl
 | d+1,j,m,h,hm=>by
  obtain ⟨m,rfl⟩:∃ j,m=j+1:=⟨m-1,by omega⟩
  show CX.S1 o0 (CX.l1 o0 m) _ _ _ _ _ _ _=_
  unfold CX.S1
  have e8:(8:Int)*(j:Int)=((8*j:Nat):Int):=by simp
  rw [Bl (by omega),Aa,Jg (a:=8) (b:=(k:Int)) (by omega),Bj (a:=8*(k:Int)) (by omega),Bf (by rw [C6];omega),Aa,Jg (by omega),e8,Cq (by omega),Aa,Bj (by omega),
   show 8*(k:Int)+(j:Int)=((8*k+j:Nat):Int) by omega]
  have Iu:=UU s ((8*k+j:Nat):Int)
  have Of:IntKind.wrap .u64 (byteAt s ((8*k+j:Nat):Int))=byteAt s ((8*k+j:Nat):Int):=by rw [Ew];omega
  have Gc:=Lu ((List.range (8*j)).map fun i=>sb s (k*64+i))
  rw [Ai,List.length_range] at Gc
  rw [Of,fU Gc.1 Gc.2 (by omega)]
  have kv:byteAt s ((8*k+j:Nat):Int)=numOf ((List.range 8).map fun i=>sb s (k*64+(8*j+i))):=by
   have h1:byteAt s ((8*k+j:Nat):Int) % 2 ^ 8=byteAt s ((8*k+j:Nat):Int):=Int.emod_eq_of_lt Iu.1 Iu.2
   rw [← h1,← UL]
   congr 1
   apply List.map_congr_left
   intro i hi
   have hi:=List.mem_range.1 hi
   unfold sb
   rw [show (k*64+(8*j+i)) / 8=8*k+j by omega,show (k*64+(8*j+i)) % 8=i by omega]
  have N2:numOf ((List.range (8*(j+1))).map fun i=>sb s (k*64+i))=numOf ((List.range (8*j)).map fun i=>sb s (k*64+i))+byteAt s ((8*k+j:Nat):Int)*2 ^ (8*j):=by
   rw [show 8*(j+1)=8*j+8 by omega,qd,U4,Ai,List.length_range,← kv,Int.mul_comm (2 ^ (8*j))]
  rw [← N2]
  have WV:=Lu ((List.range (8*(j+1))).map fun i=>sb s (k*64+i))
  rw [Ai,List.length_range] at WV
  have B1:(2:Int) ^ (8*(j+1))≤2 ^ 64:=by exact_mod_cast Nat.pow_le_pow_right (n:=2) (by omega) (show 8*(j+1)≤64 by omega)
  rw [← M4] at B1
  rw [Int.emod_eq_of_lt WV.1 (by omega)]
  exact oQ hk hs ho d (j+1) m (by omega) (by omega)
theorem Zdn (s:ByteArray) {n:Nat} (hn:n<1000000000) (hs:s.size=8*n):∀ (d i m:Nat),d=n-i→i≤n→20<m→
  CX.l0 (m+d) s (n:Int) (i:Int) ((List.range i).map (fun k=>LJ s k 64)++List.replicate (n-i) (0:Int))=some ((List.range n).map (fun k=>LJ s k 64),0):=by
 intro d
 induction d with
 | zero=>
  intro i m hd hi hm
  have:i=n:=by omega
  subst this
  obtain ⟨m,rfl⟩:∃ j,m=j+1:=⟨m-1,by omega⟩
  show CX.S0 _ _ _ _ _=_
  unfold CX.S0
  rw [AZ (by omega),Ac,Nat.sub_self,List.replicate_zero,Ay]
 | succ d ih=>
  intro i m hd hi hm
  show CX.S0 (CX.l1 (CX.l0 (m+d)) (m+d)) s _ _ _=_
  unfold CX.S0
  have h1:=oQ (o0:=CX.l0 (m+d)) (s:=s) (len:=(n:Int)) (i:=(i:Int)) (out:=(List.range i).map (fun k=>LJ s k 64)++List.replicate (n-i) (0:Int)) (k:=i) (by omega) (by omega) (by simp;omega) 8 0 (m+d) rfl (by omega)
  rw [Nat.mul_zero,List.range_zero,List.map_nil,show numOf []=0 from rfl] at h1
  rw [Bl (by omega),Aa,show (0:Int)=((0:Nat):Int) from rfl]
  rw [show ((0:Nat):Int)=0 from rfl] at h1 ⊢
  rw [h1,Bj (by omega)]
  have:=ih (i+1) m (by omega) (by omega) hm
  rw [show (i:Int)+1=((i+1:Nat):Int) by omega,← this]
  congr 1
  rw [List.set_append_right _ _ (by simp),Ai,List.length_range,Nat.sub_self,show n-i=(n-(i+1))+1 by omega,List.replicate_succ,List.set_cons_zero,List.range_succ,AE,Al]
  rfl
theorem Zwi (s:ByteArray) {n:Nat} (hn:n<1000000000) (hs:s.size=8*n):CX s (n:Int)=some ((List.range n).map (fun k=>LJ s k 64),0):=by
 show CX.S (CX.l0 fu) s _=_
 unfold CX.S
 have h1:Po (Bh s) 8=0:=by
  rw [C6,hs]
  unfold Po
  rw [Int.tmod_eq_emod_of_nonneg (by omega)]
  omega
 have h2:FE .i64 (Bh s) 8=(n:Int):=by
  rw [C6,hs]
  unfold FE
  rw [Int.tdiv_eq_ediv_of_nonneg (by omega),Hf (by omega)]
  omega
 rw [AZ (by omega),Ac,h1,Cu rfl,Ac,h2,Cu rfl,Ac,Cq (by omega),B7 (by show n*8≤_;omega)]
 have:=Zdn s hn hs n 0 (fu-n) (by omega) (by omega) (by unfold fu;omega)
 rw [show fu-n+n=fu by unfold fu;omega,Nat.sub_zero] at this
 exact this
theorem Zap {l:List Int} (hl:l.length≤65536) (B1:∀ x∈l,BY x) {s:ByteArray} (hs:Bi s=CK l 64):CX s (l.length:Int)=some (l,0):=by
 have Bu:s.size=8*l.length:=by rw [← DN,hs,Jy];omega
 rw [Zwi s (by omega) Bu]
 congr 2
 apply List.ext_getElem
 ·simp
 ·intro i h1 h2
  rw [List.getElem_map,List.getElem_range]
  exact oN (w:=64) (by omega) hs B1 (fun x _=>by have:(2:Int) ^ 64=18446744073709551616:=rfl;omega) h2
end Go.AM.Pure
end

section
/- runs. -/
namespace Go.AM.Pure
open Go.AM
abbrev Dj:=Int×Int×Int
def Cc (o:List Dj):List Int:=o.flatMap fun r=>List.replicate r.2.2.toNat r.1
def Kr (p:Option Int) (o:List Dj):Option Int:=match o.getLast? with
 | some r=>some r.1
 | none=>p
def DE (n:Nat) (p:Option Int):List Dj→Prop
 | []=>True
 | r :: o=>r.2.1=(n:Int)∧1≤r.2.2∧p≠some r.1∧DE (n+r.2.2.toNat) (some r.1) o
theorem KM (a b:List Dj):Cc (a++b)=Cc a++Cc b:=by unfold Cc;rw [List.flatMap_append]
theorem L8 (r:Dj):Cc [r]=List.replicate r.2.2.toNat r.1:=by unfold Cc;simp
theorem OJ (r:Dj) (o:List Dj):Cc (r :: o)=List.replicate r.2.2.toNat r.1++Cc o:=rfl
theorem Qe:∀ (a b:List Dj) (n:Nat) (p:Option Int),DE n p (a++b)↔DE n p a∧DE (n+(Cc a).length) (Kr p a) b
 | [],b,n,p=>by simp [DE,Cc,Kr]
 | r :: a,b,n,p=>by
  rw [List.cons_append]
  show (r.2.1=(n:Int)∧1≤r.2.2∧p≠some r.1∧DE (n+r.2.2.toNat) (some r.1) (a++b))↔(r.2.1=(n:Int)∧1≤r.2.2∧p≠some r.1∧DE (n+r.2.2.toNat) (some r.1) a)∧DE (n+(Cc (r :: a)).length) (Kr p (r :: a)) b
  rw [Qe a b]
  have e1:n+r.2.2.toNat+(Cc a).length=n+(Cc (r :: a)).length:=by rw [OJ,Ae,AK];omega
  have e2:Kr (some r.1) a=Kr p (r :: a):=by
   unfold Kr
   cases a with
   | nil=>rfl
   | cons b a=>
    rw [List.getLast?_cons_cons]
    cases h:(b :: a).getLast? with
    | none=>simp at h
    | some r=>rfl
  rw [e1,e2]
  simp only [and_assoc]
theorem P2 (p:Option Int) (a:List Dj) (r:Dj):Kr p (a++[r])=some r.1:=by unfold Kr;simp
theorem Zns (l:List Int) (hl:l.length≤65536):∀ (d i n:Nat) (out:List Dj),d=l.length-i→i≤l.length→d<n→Cc out=l.take i→DE 0 none out→Kr none out=(l.take i).getLast?→
  ∃ o,EY.l0 n l l (l.length:Int) (i:Int) out=some o∧Cc o=l∧DE 0 none o:=by
 intro d
 induction d with
 | zero=>
  intro i n out hd hi hn h1 h2 _
  have:i=l.length:=by omega
  subst this
  obtain ⟨n,rfl⟩:∃ k,n=k+1:=⟨n-1,by omega⟩
  rw [Ar] at h1
  refine ⟨out,?_,h1,h2⟩
  show EY.S0 _ _ _ _ _ _=_
  unfold EY.S0
  rw [AZ (by omega),Ac]
 | succ d ih=>
  intro i n out hd hi hn h1 h2 h3
  obtain ⟨n,rfl⟩:∃ k,n=k+1:=⟨n-1,by omega⟩
  have AO:i<l.length:=by omega
  have HQ:(Cc out).length=i:=by rw [h1,Ag];omega
  have HU:out.length≤i:=by
   have:∀ (o:List Dj) (m:Nat) (p:Option Int),DE m p o→o.length≤(Cc o).length:=by
    intro o
    induction o with
    | nil=>intro _ _ _;exact Nat.zero_le _
    | cons r o ih=>
     intro m p h
     have:=ih _ _ h.2.2.2
     rw [OJ,Ae,AK,Aj]
     have:=h.2.1
     omega
   have:=this out 0 none h2
   omega
  have Iv:(l.take (i+1)).getLast? = some l[i]:=by rw [take_one AO,List.getLast?_concat]
  -- a new run
  have Jn:(Kr none out≠some l[i])→∃ o,EY.l0 n l l (l.length:Int) ((i+1:Nat):Int) (out++[(l[i],(i:Int),1)])=some o∧Cc o=l∧DE 0 none o:=fun Cb=>
   ih (i+1) n _ (by omega) (by omega) (by omega) (by rw [KM,L8,h1,take_one AO];rfl)
    ((Qe _ _ _ _).2 ⟨h2,by rw [HQ];exact ⟨by show (i:Int)=_;omega,by show (1:Int)≤1;omega,Cb,trivial⟩⟩) (by rw [P2,Iv])
  have QO:∀ (o:List Dj) (r r':Dj),List.set (o++[r]) (Int.toNat (Be .i64 (AP (o++[r])) 1)) r'=o++[r']∨¬ o.length<1000000:=fun o r r'=>by
   by_cases hb:o.length<1000000
   ·left
    rw [AW,Ae,AG,Dn (by omega),show Int.toNat (((o.length+1:Nat):Int)-1)=o.length by omega,List.set_append_right _ _ (Ah _),Nat.sub_self]
    rfl
   ·exact .inr hb
  have LO:∀ (o:List Dj) (r:Dj),o.length<1000000→List.getD (o++[r]) (Int.toNat (Be .i64 (AP (o++[r])) 1)) (0,0,0)=r:=fun o r hb=>by
   rw [AW,Ae,AG,Dn (by omega),show Int.toNat (((o.length+1:Nat):Int)-1)=o.length by omega,Ax,Aw (Ah _),Nat.sub_self]
   rfl
  have CB:∀ (o:List Dj) (r:Dj),o.length<1000000→AX (Be .i64 (AP (o++[r])) 1) (AP (o++[r]))=true:=fun o r hb=>by
   rw [AW,Ae,AG,Dn (by omega),Bf (by omega)]
  have MF:out.length<1000000:=by omega
  show ∃ o,EY.S0 (EY.l0 n) _ _ _ _ _=_∧_
  unfold EY.S0
  rw [Bl (by omega),Aa,Bf (by rw [AW];omega),Aa,Bz AO,Bj (by omega)]
  by_cases I0:i=0
  ·subst I0
   rw [B0 (by omega),Aa,B7 (by omega),Aa,CB _ _ MF,Aa,Aa,LO _ _ MF,(QO _ _ _).resolve_right (fun h=>h MF)]
   have:=Jn (by rw [h3,List.take_zero];simp)
   exact this
  ·rw [BU (by omega),Ac,Dn (by omega),Bf (by rw [AW];omega),Aa]
   have Kw:i-1<l.length:=by omega
   have M3:(l.take i).getLast? = some l[i-1]:=by
    have:l.take i=l.take (i-1)++[l[i-1]]:=by
     have:=take_one Kw
     rwa [show i-1+1=i by omega] at this
    rw [this,List.getLast?_concat]
   rw [M3] at h3
   rw [show (i:Int)-1=((i-1:Nat):Int) by omega,Bz Kw]
   by_cases hq:l[i]=l[i-1]
   ·rw [Cu hq,Ac]
    -- the last run is one longer
    rcases List.eq_nil_or_concat out with h0 | ⟨o,r,h0⟩
    ·subst h0;cases h3
    ·rw [List.concat_eq_append] at h0
     subst h0
     rw [P2] at h3
     have Lk:r.1=l[i-1]:=Option.some.inj h3
     have bW:o.length<1000000:=by rw [Ae] at MF;omega
     obtain ⟨k1,k2⟩:=(Qe _ _ _ _).1 h2
     obtain ⟨k3,k4,k5,_⟩:=k2
     have Sk:r.2.2.toNat≤i:=by
      rw [KM,L8,Ae,AK] at HQ
      omega
     rw [CB _ _ bW,Aa,Aa,LO _ _ bW,(QO _ _ _).resolve_right (fun h=>h bW),Bj (by omega)]
     refine ih (i+1) n _ (by omega) (by omega) (by omega) ?_ ((Qe _ _ _ _).2 ⟨k1,k3,by show 1≤r.2.2+1;omega,k5,trivial⟩) (by rw [P2,Iv,hq];exact h3)
     rw [KM,L8] at h1
     rw [KM,L8,take_one AO,← h1,Al]
     congr 1
     show List.replicate (r.2.2+1).toNat r.1=_
     rw [show (r.2.2+1).toNat=r.2.2.toNat+1 by omega,List.replicate_succ',Lk,hq]
   ·rw [Jl hq,Aa,B7 (by omega),Aa,CB _ _ MF,Aa,Aa,LO _ _ MF,(QO _ _ _).resolve_right (fun h=>h MF)]
    have:=Jn (by rw [h3];intro h;exact hq (Option.some.inj h).symm)
    exact this
theorem Zxo (l:List Int) (hl:l.length≤65536):∃ o,EY l=some o∧Cc o=l∧DE 0 none o:=by
 show ∃ o,EY.S (EY.l0 fu) l=_∧_
 unfold EY.S
 rw [AW,AZ (by omega),Ac]
 exact Zns l hl l.length 0 fu [] (by omega) (by omega) (by unfold fu;omega) rfl trivial rfl
theorem JB:∀ (o:List Dj) (m:Nat) (p:Option Int),DE m p o→o.length≤(Cc o).length
 | [],_,_,_=>Nat.zero_le _
 | r :: o,m,p,h=>by
  have:=JB o _ _ h.2.2.2
  rw [OJ,Ae,AK,Aj]
  have:=h.2.1
  omega
theorem TA {o:List Dj} (h:DE 0 none o) {i:Nat} (hi:i<o.length):o[i].2.1=((Cc (o.take i)).length:Int)∧1≤o[i].2.2∧Kr none (o.take i)≠some o[i].1∧(Cc (o.take (i+1))).length=(Cc (o.take i)).length+o[i].2.2.toNat∧(Cc (o.take (i+1))).length≤(Cc o).length:=by
 have e:o=o.take i++o[i] :: o.drop (i+1):=by rw [← List.drop_eq_getElem_cons hi,List.take_append_drop]
 have h':=h
 rw [e,Qe] at h'
 obtain ⟨_,k1,k2,k3,_⟩:=h'
 refine ⟨by rw [k1];omega,k2,k3,by rw [take_one hi,KM,L8,Ae,AK],?_⟩
 have h2:Cc o=Cc (o.take (i+1))++Cc (o.drop (i+1)):=by rw [← KM,List.take_append_drop]
 rw [h2,Ae]
 omega
theorem Zwl (o:List Dj) (ho:DE 0 none o) (hl:(Cc o).length≤65536):∀ (d i n:Nat),d=o.length-i→i≤o.length→d<n→
  F4.l0 n o ((Cc (o.take i)).length:Int) o (o.length:Int) (i:Int)=some (((Cc o).length:Int),true):=by
 have HU:=JB o 0 none ho
 intro d
 induction d with
 | zero=>
  intro i n hd hi hn
  have:i=o.length:=by omega
  subst this
  obtain ⟨n,rfl⟩:∃ k,n=k+1:=⟨n-1,by omega⟩
  show F4.S0 _ _ _ _ _ _=_
  unfold F4.S0
  rw [AZ (by omega),Ac,Ar]
 | succ d ih=>
  intro i n hd hi hn
  obtain ⟨n,rfl⟩:∃ k,n=k+1:=⟨n-1,by omega⟩
  have AO:i<o.length:=by omega
  obtain ⟨k1,k2,k3,k4,k5⟩:=TA ho AO
  show F4.S0 (F4.l0 n) _ _ _ _ _=_
  unfold F4.S0
  have Ig:AQ .i64 ((Cc (o.take i)).length:Int) o[i].2.2=((Cc (o.take (i+1))).length:Int):=by rw [Bj (by omega),k4];omega
  have:=ih (i+1) n (by omega) (by omega) (by omega)
  rw [Bl (by omega),Aa,Bf (by rw [AW];omega),Aa,Bz AO,Cu k1,Ac,AZ (by omega),Ac,Dn (by omega),AZ (by omega),Ac,Ig,Bj (by omega)]
  by_cases I0:i=0
  ·rw [AZ (by omega),Ac]
   exact this
  ·have Kw:i-1<o.length:=by omega
   have Kh:Kr none (o.take i)=some o[i-1].1:=by
    have:o.take i=o.take (i-1)++[o[i-1]]:=by
     have:=take_one Kw
     rwa [show i-1+1=i by omega] at this
    rw [this,P2]
   rw [Kh] at k3
   rw [Bl (by omega),Aa,Dn (by omega),Bf (by rw [AW];omega),Aa,show (i:Int)-1=((i-1:Nat):Int) by omega,Bz Kw,BU (fun h=>k3 (by rw [h])),Ac]
   exact this
theorem dA (o:List Dj) (ho:DE 0 none o) (hl:(Cc o).length≤65536):F4 o=some (((Cc o).length:Int),true):=by
 have HU:=JB o 0 none ho
 exact Zwl o ho hl o.length 0 fu (by omega) (by omega) (by unfold fu;omega)
def E8 (o:List Dj):List Int:=o.flatMap fun r=>vB r.1++vB r.2.2
theorem eE (r:Dj) (o:List Dj):E8 (r :: o)=vB r.1++(vB r.2.2++E8 o):=by unfold E8;rw [List.flatMap_cons,Al]
theorem qj (o:List Dj) (r:Dj):E8 (o++[r])=E8 o++(vB r.1++vB r.2.2):=by unfold E8;simp
theorem OT:∀ o:List Dj,(E8 o).length≤20*o.length
 | []=>by simp [E8]
 | r :: o=>by
  have:=OT o
  have:=FC r.1
  have:=FC r.2.2
  rw [eE,Ae,Ae,Aj]
  omega
theorem YW:∀ o:List Dj,∀ b∈E8 o,0≤b∧b<256
 | [],b,h=>by cases h
 | r :: o,b,h=>by
  rw [eE] at h
  rcases List.mem_append.1 h with h | h
  ·exact Mh _ b h
  ·rcases List.mem_append.1 h with h | h
   ·exact Mh _ b h
   ·exact YW o b h
theorem Yz (b:Bool×List Int) (s:ByteArray) (h:b.2.length+s.size<100000000000):Q7 b s=some (Bh s,true,false,b.2++Bi s):=by
 unfold Q7
 show (bif BM (b.2.length+s.size) 1 then _ else _)=_
 rw [B7 (by omega)]
 rfl
theorem eC (f:Bool) (l:List Int) (h:∀ b∈l,0≤b∧b<256):MZ (f,l)=some (ofBytes l,f,l):=by
 unfold MZ
 have:(l.all isByte)=true:=List.all_eq_true.2 fun b hb=>by
  have:=h b hb
  unfold isByte
  rw [Cq this.1,Bl this.2]
  rfl
 show (bif l.all isByte then _ else _)=_
 rw [this]
 rfl
theorem Zos (o:List Dj) (hl:o.length≤65536):∀ (d i n:Nat) (f:Bool),d=o.length-i→i≤o.length→d<n→
  ∃ s,Fl.l0 n o (o.length:Int) (i:Int) (f,E8 (o.take i))=some s∧s=(ofBytes (E8 o),0):=by
 intro d
 induction d with
 | zero=>
  intro i n f hd hi hn
  have:i=o.length:=by omega
  subst this
  obtain ⟨n,rfl⟩:∃ k,n=k+1:=⟨n-1,by omega⟩
  refine ⟨_,?_,rfl⟩
  show Fl.S0 _ _ _ _ _=_
  unfold Fl.S0
  rw [AZ (by omega),Ac,Ar,eC _ _ (YW o)]
  rfl
 | succ d ih=>
  intro i n f hd hi hn
  obtain ⟨n,rfl⟩:∃ k,n=k+1:=⟨n-1,by omega⟩
  have AO:i<o.length:=by omega
  have h1:=OT (o.take i)
  rw [Ag] at h1
  have h2:=FC o[i].1
  have h3:=FC o[i].2.2
  show ∃ s,Fl.S0 (Fl.l0 n) _ _ _ _=_∧_
  unfold Fl.S0
  rw [Bl (by omega),Aa,Bf (by rw [AW];omega),Aa,Bz AO,OB,Ad,IC,Yz _ _ (by rw [Cg];show (E8 _).length+_<_;omega),Ad,OB,Ad,IC,
   MO (Mh _),Yz _ _ (by rw [Cg];show (E8 _++vB _).length+_<_;rw [Ae];omega),Ad,MO (Mh _),Bj (by omega)]
  have:=ih (i+1) n false (by omega) (by omega) (by omega)
  rw [take_one AO,qj,← Al] at this
  exact this
theorem oP (o:List Dj) (ho:DE 0 none o) (hl:(Cc o).length≤65536):Fl o=some (ofBytes (E8 o),0):=by
 have HU:=JB o 0 none ho
 show Fl.S (Fl.l0 fu) o=_
 unfold Fl.S
 rw [dA o ho hl,Ad]
 show Fl.l0 fu o (o.length:Int) 0 (true,[])=_
 obtain ⟨s,h1,rfl⟩:=Zos o (by omega) o.length 0 fu true (by omega) (by omega) (by unfold fu;omega)
 exact h1
theorem Zyo (o:List Dj) (ho:DE 0 none o) (hl:(Cc o).length≤65536) (B1:∀ r∈o,BY r.1):∀ (d i n:Nat) (s:ByteArray),d=o.length-i→i≤o.length→d<n→Bi s=E8 (o.drop i)→
  Dk.l0 (Dk.t1 fu) n s ((Cc o).length:Int) (o.take i) ((Cc (o.take i)).length:Int)=some (o,0):=by
 have HU:=JB o 0 none ho
 intro d
 induction d with
 | zero=>
  intro i n s hd hi hn hs
  have:i=o.length:=by omega
  subst this
  obtain ⟨n,rfl⟩:∃ k,n=k+1:=⟨n-1,by omega⟩
  rw [List.drop_length] at hs
  have he:s=eB:=LH.2 (by rw [← DN,hs];rfl)
  show Dk.S0 Dk.S1 _ _ _ _ _=_
  unfold Dk.S0
  rw [KY he,Bool.not_true,Ac,Ar]
  unfold Dk.S1
  rw [dA o ho hl,Ad]
  dsimp only
  rw [Bool.not_true,Ac,Cu rfl,Ac]
 | succ d ih=>
  intro i n s hd hi hn hs
  obtain ⟨n,rfl⟩:∃ k,n=k+1:=⟨n-1,by omega⟩
  have AO:i<o.length:=by omega
  obtain ⟨k1,k2,k3,k4,k5⟩:=TA ho AO
  rw [List.drop_eq_getElem_cons AO,eE] at hs
  have h2:=FC o[i].1
  have h3:=FC o[i].2.2
  have Bu:s.size=(vB o[i].1).length+((vB o[i].2.2).length+(E8 (o.drop (i+1))).length):=by rw [← DN,hs,Ae,Ae]
  have Sk:=OT (o.drop (i+1))
  rw [List.length_drop] at Sk
  have Cb:s≠eB:=fun h=>by have:=LH.1 h;omega
  have hcut:=Ma hs
  have Yy2:BY o[i].1:=B1 _ (Aq AO)
  have Yz2:BY o[i].2.2:=by unfold BY;omega
  show Dk.S0 _ (Dk.l0 (Dk.t1 fu) n) s _ _ _=_
  unfold Dk.S0
  rw [Pe Cb,Bool.not_false,Aa,OQ Yy2 hs,Ad]
  dsimp only
  rw [Cu rfl,Ac,Ey (by rw [C6];omega),Aa,OQ Yz2 hcut,Ad]
  dsimp only
  rw [Cu rfl,Ac,AZ (by omega),Ac,Dn (by omega),AZ (by omega),Ac,B7 (by rw [Ag];omega),Aa,Bj (by omega),Ey (by rw [C6];omega),Aa]
  have Ig:AQ .i64 ((Cc (o.take i)).length:Int) o[i].2.2=((Cc (o.take (i+1))).length:Int):=by rw [Bj (by omega),k4];omega
  rw [Ig,show (o[i].1,((Cc (o.take i)).length:Int),o[i].2.2)=o[i] by rw [← k1],← take_one AO]
  refine ih (i+1) n _ (by omega) (by omega) (by omega) ?_
  have:Bi s=(vB o[i].1++vB o[i].2.2)++E8 (o.drop (i+1)):=by rw [hs,Al]
  have:=Ma this
  rw [Ae,Int.natCast_add] at this
  exact this
theorem dC (o:List Dj) (ho:DE 0 none o) (hl:(Cc o).length≤65536) (B1:∀ r∈o,BY r.1) {s:ByteArray} (hs:Bi s=E8 o):Dk s ((Cc o).length:Int)=some (o,0):=by
 have HU:=JB o 0 none ho
 show Dk.S (Dk.l0 (Dk.t1 fu) fu) s _=_
 unfold Dk.S
 rw [AZ (by omega),Ac,AZ (by omega),Ac]
 exact Zyo o ho hl B1 o.length 0 fu s (by omega) (by omega) (by unfold fu;omega) hs
theorem Zps {c:Nat} (h:c≤65536):X3 1 (c:Int)=(0,(c:Int)):=by
 have h1:BH .u64 1 32=0:=by decide +kernel
 have h2:BL .u64 1 4294967295=1:=by decide +kernel
 have h3:BH .u64 (c:Int) 32=0:=by
  have:=Mp (c:Int) 32 (by omega)
  rw [show ((32:Nat):Int)=32 from rfl] at this
  rw [this]
  exact Int.ediv_eq_zero_of_lt (by omega) (by omega)
 have h4:BL .u64 (c:Int) 4294967295=(c:Int):=by
  unfold BL
  show IntKind.wrap .u64 ((BitVec.ofInt 64 (c:Int) &&& BitVec.ofInt 64 4294967295).toNat:Int)=_
  rw [BitVec.toNat_and,show (BitVec.ofInt 64 4294967295).toNat=2 ^ 32-1 from rfl,Nat.and_two_pow_sub_one_eq_mod,show (BitVec.ofInt 64 (c:Int)).toNat=c by rw [BitVec.toNat_ofInt];omega,Ew]
  omega
 have h5:Cj .u64 1 (c:Int)=(c:Int):=by unfold Cj;rw [Ew];omega
 have h6:∀ x:Int,Cj .u64 0 x=0:=fun x=>by unfold Cj;rw [Int.zero_mul];rfl
 have h7:Cj .u64 1 0=0:=by decide +kernel
 have h8:AQ .u64 0 0=0:=by decide +kernel
 have h9:BH .u64 0 32=0:=by decide +kernel
 have cy:BL .u64 0 4294967295=0:=by decide +kernel
 unfold X3 dp
 simp only [h1,h2,h3,h4,h5,h6,h7,h8,h9,cy]
theorem Zq2 (v:Int) (c:Nat) (hc:c≤65536):∀ (d k n:Nat) (t:List Int),d=c-k→k≤c→1≤k→d<n→t.length=c→t.take k=List.replicate k v→
  CN.l2 n (k:Int) t=some (List.replicate c v):=by
 intro d
 induction d using Nat.strongRecOn with
 | ind d ih=>
 intro k n t hd hk h1 hn ht Fc
 obtain ⟨n,rfl⟩:∃ j,n=j+1:=⟨n-1,by omega⟩
 show CN.S2 (CN.l2 n) _ _=_
 unfold CN.S2
 by_cases mY:k=c
 ·subst mY
  rw [AZ (by rw [AW];omega),Ac,← Fc,AF (by omega)]
 ·rw [Bl (by rw [AW];omega),Aa,Ey (by rw [AW];omega),Aa,Ey (by rw [AW];omega),Aa,AW,ht,show Int.toNat (c:Int)=c from rfl,show Int.toNat (k:Int)=k from rfl,Nat.sub_zero,List.drop_zero,Fc,List.take_replicate,AK]
  rw [Bj (by omega)]
  have:=ih (c-(k+min (c-k) k)) (by omega) (k+min (c-k) k) n (GN t k (List.replicate (min (c-k) k) v)) rfl (by omega) (by omega) (by omega) (by unfold GN;simp;omega) (by
   unfold GN
   rw [← Al,List.take_append_of_le_length (by simp;omega),AF (by simp;omega),Fc,List.replicate_append_replicate])
  rw [← this]
  congr 1
theorem Zqs (v:Int) {c:Nat} (h1:1≤c) (hc:c≤65536):CN [v] (c:Int)=some (List.replicate c v):=by
 show CN.S (CN.t0 fu) [v] _=_
 unfold CN.S
 rw [AZ (by omega),Ac]
 show CN.S0 (CN.t1 18446744073709551615) [v] (c:Int)=_
 unfold CN.S0
 have e1:IntKind.wrap .u64 (AP [v])=1:=by rw [AW,Ew];rfl
 have e2:IntKind.wrap .u64 (c:Int)=(c:Int):=by rw [Ew];omega
 rw [e1,e2,Zps hc]
 dsimp only
 rw [AZ (by omega),Ac,AZ (by omega),Ac]
 show CN.S1 (CN.l2 18446744073709551614) [v] (c:Int)=_
 unfold CN.S1
 rw [Hf (by omega),Cq (by omega),B7 (by show c*8≤_;omega),AK,show Int.toNat (c:Int)=c from rfl]
 obtain ⟨c',rfl⟩:∃ k,c=k+1:=⟨c-1,by omega⟩
 have e3:List.take (c'+1) [v]=[v]:=by rw [AF (by simp)]
 rw [e3]
 exact Zq2 v (c'+1) hc c' 1 18446744073709551614 _ (by omega) (by omega) (by omega) (by omega) (by unfold GN;simp) (by unfold GN;simp)
theorem Zrs (o:List Dj) (ho:DE 0 none o) (hl:(Cc o).length≤65536):∀ (d i n:Nat),d=o.length-i→i≤o.length→d<n→
  FA.l0 n (Cc (o.take i)) o (o.length:Int) (i:Int)=some (Cc o,0):=by
 have HU:=JB o 0 none ho
 intro d
 induction d with
 | zero=>
  intro i n hd hi hn
  have:i=o.length:=by omega
  subst this
  obtain ⟨n,rfl⟩:∃ k,n=k+1:=⟨n-1,by omega⟩
  show FA.S0 _ _ _ _ _=_
  unfold FA.S0
  rw [AZ (by omega),Ac,Ar]
 | succ d ih=>
  intro i n hd hi hn
  obtain ⟨n,rfl⟩:∃ k,n=k+1:=⟨n-1,by omega⟩
  have AO:i<o.length:=by omega
  obtain ⟨k1,k2,k3,k4,k5⟩:=TA ho AO
  show FA.S0 (FA.l0 n) _ _ _ _=_
  unfold FA.S0
  have E0:=Zqs o[i].1 (c:=o[i].2.2.toNat) (by omega) (by omega)
  rw [show ((o[i].2.2.toNat:Nat):Int)=o[i].2.2 by omega] at E0
  rw [Bl (by omega),Aa,Bf (by rw [AW];omega),Aa,Bz AO,E0,Ad,B7 (by rw [AK];omega),Aa,Bj (by omega)]
  have:=ih (i+1) n (by omega) (by omega) (by omega)
  rw [take_one AO,KM,L8] at this
  exact this
theorem oD (o:List Dj) (ho:DE 0 none o) (hl:(Cc o).length≤65536):FA o=some (Cc o,0):=by
 have HU:=JB o 0 none ho
 show FA.S (FA.l0 fu) o=_
 unfold FA.S
 rw [dA o ho hl,Ad]
 dsimp only
 rw [Bool.not_true,Ac,Cq (by omega),B7 (by show (Cc o).length*8≤_;omega)]
 exact Zrs o ho hl o.length 0 fu (by omega) (by omega) (by unfold fu;omega)
end Go.AM.Pure
end

section
/- frame: numbers by how far each is from the one ahead. -/
namespace Go.AM.Pure
open Go.AM
abbrev GR (x:Int):Int:=IntKind.wrap .i64 x
theorem fV {a b:Int} (h:a % 18446744073709551616=b % 18446744073709551616):GR a=GR b:=by
 show IntKind.wrap .i64 a=IntKind.wrap .i64 b
 rw [Km,Km,h]
theorem ky (a:Int):GR a % 18446744073709551616=a % 18446744073709551616:=by
 show IntKind.wrap .i64 a % _=_
 rw [Km]
 split <;> omega
theorem yC (a b:Int):U2 a b=GR (b-a):=by
 unfold U2 Be
 rw [Ew,Ew,Ew]
 exact fV (by omega)
theorem rU (a b:Int):Re a b=GR (a+b):=by
 unfold Re AQ
 rw [Ew,Ew,Ew]
 exact fV (by omega)
def CC (l:List Int):List Int:=(List.range (l.length-1)).map fun i=>GR (l.getD (i+1) 0-l.getD i 0)
theorem Rp (l:List Int):(CC l).length=l.length-1:=by unfold CC;simp
theorem getD_at {l:List Int} {i:Nat} (h:i<l.length):l.getD i 0=l[i]:=by rw [Ax,Ap h];rfl
theorem eD {l:List Int} {i:Nat} (h:i+1<l.length) (hi:i<(CC l).length):(CC l)[i]=GR (l[i+1]-l[i]):=by
 have h2:(CC l)[i]? = some (GR (l[i+1]-l[i])):=by
  unfold CC
  rw [List.getElem?_map,List.getElem?_range (show i<l.length-1 by omega),Option.map_some,getD_at h,getD_at (show i<l.length by omega)]
 rw [Ap hi] at h2
 exact Option.some.inj h2
theorem Zp2 (x:List Int) (hx:x.length<4611686018427387904):∀ (d i n:Nat) (m:Int),d=x.length-i→i≤x.length→d<n→DM.l1 n x m (i:Int)=some ((x.drop i).foldl DP m):=by
 intro d
 induction d with
 | zero=>
  intro i n m hd hi hn
  have:i=x.length:=by omega
  subst this
  obtain ⟨n,rfl⟩:∃ k,n=k+1:=⟨n-1,by omega⟩
  show DM.S1 _ _ _ _=_
  unfold DM.S1
  rw [AZ (by rw [AW];omega),Ac,List.drop_length]
  rfl
 | succ d ih=>
  intro i n m hd hi hn
  obtain ⟨n,rfl⟩:∃ k,n=k+1:=⟨n-1,by omega⟩
  have AO:i<x.length:=by omega
  show DM.S1 (DM.l1 n) _ _ _=_
  unfold DM.S1
  rw [Bl (by rw [AW];omega),Aa,Bf (by rw [AW];omega),Aa,Bz AO,Bj (by omega),List.drop_eq_getElem_cons AO,List.foldl_cons]
  exact ih (i+1) n _ (by omega) (by omega) (by omega)
def EH (x:List Int):Int:=(x.drop 1).foldl DP (x.getD 0 0)
theorem min_eq (x:List Int) (hx:x.length<4611686018427387904) (h0:0<x.length):DM x=some (EH x):=by
 show DM.S (DM.t0 fu) x=_
 unfold DM.S
 rw [AW,AZ (by omega),Ac]
 show DM.S0 (DM.l1 18446744073709551615) x=_
 unfold DM.S0
 rw [Bf (by rw [AW];omega),Aa]
 exact Zp2 x hx (x.length-1) 1 18446744073709551615 _ rfl (by omega) (by omega)
theorem om:∀ (l:List Int) (m:Int),l.foldl DP m=m∨l.foldl DP m∈l
 | [],m=> .inl rfl
 | a :: l,m=>by
  rw [List.foldl_cons]
  rcases om l (DP m a) with h | h
  ·rw [h]
   unfold DP
   split
   ·exact .inr (Av ..)
   ·exact .inl rfl
  ·exact .inr (Az _ h)
theorem qi {x:List Int} (h0:0<x.length) (h:∀ a∈x,BY a):BY (EH x):=by
 unfold EH
 rcases om (x.drop 1) (x.getD 0 0) with h1 | h1
 ·rw [h1,getD_at h0];exact h _ (Aq h0)
 ·exact h _ (List.mem_of_mem_drop h1)
theorem Ylq (m:Int) (D:List Int) (hD:D.length≤65536):∀ (d i n:Nat),d=D.length-i→i≤D.length→d<n→
  Cp.l2 n m (D.length:Int) (i:Int) ((D.take i).map (fun x=>GR (x-m))++D.drop i)=some (D.map (fun x=>GR (x-m)),m):=by
 intro d
 induction d with
 | zero=>
  intro i n hd hi hn
  have:i=D.length:=by omega
  subst this
  obtain ⟨n,rfl⟩:∃ k,n=k+1:=⟨n-1,by omega⟩
  show Cp.S2 _ _ _ _ _=_
  unfold Cp.S2
  rw [AZ (by omega),Ac,List.drop_length,Ay,Ar]
 | succ d ih=>
  intro i n hd hi hn
  obtain ⟨n,rfl⟩:∃ k,n=k+1:=⟨n-1,by omega⟩
  have AO:i<D.length:=by omega
  show Cp.S2 (Cp.l2 n) _ _ _ _=_
  unfold Cp.S2
  have hlen:((D.take i).map (fun x=>GR (x-m))++D.drop i).length=D.length:=by rw [Ae,Ai,Ag,List.length_drop];omega
  have LO:List.getD ((D.take i).map (fun x=>GR (x-m))++D.drop i) (Int.toNat (i:Int)) 0=D[i]:=by
   rw [show Int.toNat (i:Int)=i from rfl,Ax,Aw (by rw [Ai,Ag];omega),Ai,Ag,Nat.min_eq_left (Nat.le_of_lt AO),Nat.sub_self,List.getElem?_drop,Nat.add_zero,Ap AO]
   rfl
  rw [Bl (by omega),Aa,Bf (by rw [AW,hlen];omega),Aa,Aa,LO,yC,Bj (by omega),show Int.toNat (i:Int)=i from rfl,List.set_append_right _ _ (by rw [Ai,Ag];omega),Ai,Ag,Nat.min_eq_left (Nat.le_of_lt AO),Nat.sub_self,
   List.drop_eq_getElem_cons AO,List.set_cons_zero]
  have:=ih (i+1) n (by omega) (by omega) (by omega)
  rw [take_one AO,AE,Al] at this
  exact this
theorem Ymq (l:List Int) (hl:l.length≤65536) (h2:2≤l.length):∀ (d i n:Nat),d=l.length-1-i→i≤l.length-1→d<n→
  Cp.l0 (Cp.t1 fu) n l ((i+1:Nat):Int) ((CC l).take i)=some ((CC l).map (fun x=>GR (x-EH (CC l))),EH (CC l)):=by
 intro d
 induction d with
 | zero=>
  intro i n hd hi hn
  have:i=l.length-1:=by omega
  subst this
  obtain ⟨n,rfl⟩:∃ k,n=k+1:=⟨n-1,by omega⟩
  have D3:=Rp l
  show Cp.S0 (Cp.S1 (Cp.l2 18446744073709551615)) _ _ _ _=_
  unfold Cp.S0
  rw [AZ (by rw [AW];omega),Ac,AF (by omega)]
  unfold Cp.S1
  rw [min_eq _ (by omega) (by omega),Ad]
  exact Ylq (EH (CC l)) (CC l) (by omega) (CC l).length 0 18446744073709551615 (by omega) (by omega) (by omega)
 | succ d ih=>
  intro i n hd hi hn
  obtain ⟨n,rfl⟩:∃ k,n=k+1:=⟨n-1,by omega⟩
  have D3:=Rp l
  have AO:i+1<l.length:=by omega
  have WQ:i<l.length:=by omega
  have PF:i<(CC l).length:=by omega
  show Cp.S0 _ (Cp.l0 (Cp.t1 fu) n) _ _ _=_
  unfold Cp.S0
  rw [Bl (by rw [AW];omega),Aa,Dn (by omega),show ((i+1:Nat):Int)-1=(i:Int) by omega,Bf (by rw [AW];omega),Aa,Bf (by rw [AW];omega),Aa,B7 (by rw [Ag];omega),Aa,Bz AO,Bz WQ,yC,Bj (by omega)]
  have mW:=eD AO PF
  have:=ih (i+1) n (by omega) (by omega) (by omega)
  rw [take_one PF,mW] at this
  exact this
def DH (l:List Int):List Int:=(CC l).map fun x=>GR (x-EH (CC l))
theorem Zwj (l:List Int) (hl:l.length≤65536) (h2:2≤l.length):Cp l=some (DH l,EH (CC l)):=by
 show Cp.S (Cp.l0 (Cp.t1 fu) fu) l=_
 unfold Cp.S
 rw [AW,Cq (by omega),B7 (by show l.length*8≤_;omega)]
 exact Ymq l hl h2 (l.length-1) 0 fu (by omega) (by omega) (by unfold fu;omega)
theorem Rj (l:List Int):(DH l).length=l.length-1:=by unfold DH;rw [Ai,Rp]
theorem Zcn (l:List Int):∀ x∈DH l,BY x:=fun x hx=>by
 unfold DH at hx
 obtain ⟨_,_,rfl⟩:=List.mem_map.1 hx
 exact OO _
theorem pB (l:List Int):∀ x∈CC l,BY x:=fun x hx=>by
 unfold CC at hx
 obtain ⟨_,_,rfl⟩:=List.mem_map.1 hx
 exact OO _
def M0 (l:List Int) (v:Nat):List Int:=
 if l.length=0 then [] else if l.length=1 then vB (l.getD 0 0) else vB (l.getD 0 0)++(vB (EH (CC l))++((v:Int) :: CK (DH l) v))
theorem Zc {v:Nat} (h:v≤64):IntKind.wrap .u8 (v:Int)=(v:Int):=by rw [J4];omega
theorem oC (l:List Int) (hl:l.length≤65536) {v:Nat} (hv:D0 (DH l)=some (v:Int)) (B1:v≤64):U3 l=some (ofBytes (M0 l v),0):=by
 unfold U3 M0
 rw [AW,AZ (by omega),Ac]
 by_cases h0:l.length=0
 ·rw [B0 (by omega),Aa,if_pos h0]
  rfl
 ·rw [BU (by omega),Ac,if_neg h0]
  have Iw:0<l.length:=by omega
  have Df:nth l 0 0=l.getD 0 0:=rfl
  by_cases h1:l.length=1
  ·rw [B0 (by omega),Aa,if_pos h1,Bf (by omega),Aa,Df,OB,Ad,IC]
  ·rw [BU (by omega),Ac,if_neg h1,Zwj l hl (by omega),Ad]
   dsimp only
   have HQ:=Rj l
   have hb:(DH l).length*v≤65536*64:=Nat.mul_le_mul (by omega) B1
   have CE:=Jy (DH l) v
   have k1:=FC (l.getD 0 0)
   have k2:=FC (EH (CC l))
   rw [hv,Ad,UM (DH l) B1 (by omega) hv (Ah _),Ad,Bf (by omega),Aa,Df,OB,Ad,OB,Ad,IC,IC,F7,Zc B1,F7]
   have r1:CH (ofBytes (vB (l.getD 0 0))) (ofBytes (vB (EH (CC l))))=true:=Af (by rw [Cg,Cg];omega)
   have r2:CH (ofBytes (vB (l.getD 0 0)++vB (EH (CC l)))) (ofBytes [(v:Int)])=true:=Af (by rw [Cg,Cg,Ae,AG];omega)
   have r3:CH (ofBytes (vB (l.getD 0 0)++vB (EH (CC l))++[(v:Int)])) (ofBytes (CK (DH l) v))=true:=Af (by rw [Cg,Cg,Ae,Ae,AG];omega)
   dsimp only
   rw [r1,r2,r3,F7,Aa,Aa,Aa]
   simp
theorem Zvo (l:List Int) {v:Nat} (h:v≤64):∀ b∈M0 l v,0≤b∧b<256:=fun b hb=>by
 unfold M0 at hb
 split at hb
 ·cases hb
 ·split at hb
  ·exact Mh _ b hb
  ·rcases List.mem_append.1 hb with hb | hb
   ·exact Mh _ b hb
   ·rcases List.mem_append.1 hb with hb | hb
    ·exact Mh _ b hb
    ·rcases List.mem_cons.1 hb with rfl | hb
     ·omega
     ·exact SZ _ _ b hb
theorem Zwo (l:List Int) (hl:l.length≤65536) (h2:2≤l.length) (B1:∀ x∈l,BY x) {o2:ByteArray→List Int→Bool→Option (List Int×Int)} {s:ByteArray} {bad:Bool}:∀ (d i n:Nat),d=l.length-1-i→i≤l.length-1→d<n→
  Ci.l1 o2 n s (l.take (i+1)) (EH (CC l)) (DH l) ((DH l).length:Int) (i:Int) bad=o2 s l bad:=by
 have HQ:=Rj l
 intro d
 induction d with
 | zero=>
  intro i n hd hi hn
  have:i=l.length-1:=by omega
  subst this
  obtain ⟨n,rfl⟩:∃ k,n=k+1:=⟨n-1,by omega⟩
  show Ci.S1 _ _ _ _ _ _ _ _ _=_
  unfold Ci.S1
  rw [AZ (by omega),Ac,AF (by omega)]
 | succ d ih=>
  intro i n hd hi hn
  obtain ⟨n,rfl⟩:∃ k,n=k+1:=⟨n-1,by omega⟩
  have AO:i+1<l.length:=by omega
  have WQ:i<l.length:=by omega
  have hfi:i<(DH l).length:=by omega
  show Ci.S1 o2 (Ci.l1 o2 n) _ _ _ _ _ _ _=_
  unfold Ci.S1
  have Lf:(l.take (i+1)).length=i+1:=by rw [Ag];omega
  have Yv2:Be .i64 (AP (l.take (i+1))) 1=(i:Int):=by rw [AW,Lf,Dn (by omega)];omega
  have M3:nth (l.take (i+1)) (i:Int) 0=l[i]:=by
   rw [Bz (show i<(l.take (i+1)).length by omega),List.getElem_take]
  have QI:Re (Re l[i] (EH (CC l))) (DH l)[i]=l[i+1]:=by
   rw [rU,rU]
   have hf:(DH l)[i]=GR (GR (l[i+1]-l[i])-EH (CC l)):=by
    have D3:=Rp l
    have h2:(DH l)[i]? = some (GR ((CC l)[i]'(by omega)-EH (CC l))):=by
     unfold DH
     rw [List.getElem?_map,Ap (show i<(CC l).length by omega),Option.map_some]
    rw [Ap hfi] at h2
    rw [Option.some.inj h2,eD AO]
   rw [hf]
   have h:=B1 l[i+1] (Aq AO)
   rw [show GR (GR (l[i]+EH (CC l))+GR (GR (l[i+1]-l[i])-EH (CC l)))=GR l[i+1] from fV (by
    have e1:=ky (l[i]+EH (CC l))
    have e2:=ky (GR (l[i+1]-l[i])-EH (CC l))
    have e3:=ky (l[i+1]-l[i])
    omega)]
   exact NA h
  rw [Bl (by omega),Aa,Bf (by rw [AW];omega),Aa,Yv2,Bf (by rw [AW];omega),Aa,B7 (by omega),Aa,M3,Bz hfi,QI,Bj (by omega),← take_one AO]
  exact ih (i+1) n (by omega) (by omega) (by omega)
theorem Zok (l:List Int) (hl:l.length≤65536) (B1:∀ x∈l,BY x) {v:Nat} (hv:D0 (DH l)=some (v:Int)) (Mu:v≤64) (Jt:Wd (DH l) v) {s:ByteArray} (hs:Bi s=M0 l v):
  Ci s (l.length:Int)=some (l,0):=by
 have Hm:s=ofBytes (M0 l v):=by rw [← hs,Q9]
 have mX:Ci.S2 s l false=some (l,0):=by
  unfold Ci.S2
  rw [oC l hl hv Mu,Ad]
  dsimp only
  rw [Ac,Cu rfl,Ac,KY Hm.symm]
  rfl
 show Ci.S (Ci.t0 fu) s _=_
 unfold Ci.S
 rw [AZ (by omega),Ac,AZ (by omega),Ac]
 by_cases h0:l.length=0
 ·rw [AZ (by omega),Ac]
  have:l=[]:=AI h0
  subst this
  show Ci.S0 (Ci.l1 (Ci.t2 _) _) Ci.S2 s _ [] s false=_
  unfold Ci.S0
  rw [AZ (by simp),Ac]
  exact mX
 ·have Iw:0<l.length:=by omega
  have Zlg:BY (l.getD 0 0):=by rw [getD_at Iw];exact B1 _ (Aq Iw)
  rw [Bl (by omega),Aa]
  unfold M0 at hs
  rw [if_neg h0] at hs
  have yD:l.take 1=[l.getD 0 0]:=by
   rw [show (1:Nat)=0+1 from rfl,take_one Iw,getD_at Iw];rfl
  by_cases h1:l.length=1
  ·rw [if_pos h1] at hs
   have Ev:Bi s=vB (l.getD 0 0)++[]:=by rw [hs,Ay]
   have Bu:s.size=(vB (l.getD 0 0)).length:=by rw [← DN,hs]
   have cA:Ox s false=some (l.getD 0 0,cutS s ((vB (l.getD 0 0)).length:Int) (Bh s),false):=by
    unfold Ox
    rw [OQ Zlg Ev,Ad]
    dsimp only
    rw [Ac,Ey (by rw [C6];omega),Aa,Cu rfl]
   rw [cA,Ad]
   show Ci.S0 (Ci.l1 (Ci.t2 _) _) Ci.S2 s _ _ _ _=_
   unfold Ci.S0
   rw [AZ (by omega),Ac]
   dsimp only
   have:[l.getD 0 0]=l:=by rw [← yD,AF (by omega)]
   rw [this]
   exact mX
  ·rw [if_neg h1] at hs
   have HQ:=Rj l
   have D3:=Rp l
   have Yw2:BY (EH (CC l)):=qi (by omega) (pB l)
   have Bu:s.size=(vB (l.getD 0 0)).length+((vB (EH (CC l))).length+((CK (DH l) v).length+1)):=by rw [← DN,hs,Ae,Ae,Aj]
   have cA:Ox s false=some (l.getD 0 0,cutS s ((vB (l.getD 0 0)).length:Int) (Bh s),false):=by
    unfold Ox
    rw [OQ Zlg hs,Ad]
    dsimp only
    rw [Ac,Ey (by rw [C6];omega),Aa,Cu rfl]
   have H8:=Ma hs
   generalize Up:cutS s ((vB (l.getD 0 0)).length:Int) (Bh s)=s1 at cA H8
   have Yp5:s1.size=(vB (EH (CC l))).length+((CK (DH l) v).length+1):=by rw [← DN,H8,Ae,Aj]
   have h2w:Ox s1 false=some (EH (CC l),cutS s1 ((vB (EH (CC l))).length:Int) (Bh s1),false):=by
    unfold Ox
    rw [OQ Yw2 H8,Ad]
    dsimp only
    rw [Ac,Ey (by rw [C6];omega),Aa,Cu rfl]
   have B2:=Ma H8
   generalize PG:cutS s1 ((vB (EH (CC l))).length:Int) (Bh s1)=s2 at h2w B2
   have Yx2:s2.size=(CK (DH l) v).length+1:=by rw [← DN,B2,Aj]
   have Cb:s2≠eB:=fun h=>by have:=LH.1 h;omega
   have KB:byteAt s2 0=(v:Int):=Rg B2 (i:=0) rfl
   have hc3:Bi (cutS s2 1 (Bh s2))=CK (DH l) v:=by
    have:=Ma (a:=[(v:Int)]) (rest:=CK (DH l) v) B2
    exact this
   have PE:=U6 (l:=DH l) (w:=v) Mu (by omega) (Zcn l) Jt.1 hc3
   rw [cA,Ad]
   show Ci.S0 (Ci.l1 (Ci.t2 18446744073709551615) 18446744073709551615) (Ci.t2 18446744073709551615) s _ _ _ _=_
   unfold Ci.S0
   rw [Bl (by omega),Aa]
   dsimp only
   rw [h2w,Ad]
   dsimp only
   rw [Ac,Pe Cb,Ac,Ey (by rw [C6];omega),Aa,Bf (by rw [C6];omega),Aa,KB,Hf (by omega),Dn (by omega),show (l.length:Int)-1=((DH l).length:Int) by omega,PE,Ad]
   dsimp only
   rw [Cu rfl,Ac,← yD]
   have:=Zwo l hl (by omega) B1 (o2:=Ci.t2 18446744073709551615) (s:=s) (bad:=false) (l.length-1) 0 18446744073709551615 (by omega) (by omega) (by omega)
   rw [AW]
   exact this.trans mX
end Go.AM.Pure
end

section
/- dict: numbers by their places among the distinct ones. -/
namespace Go.AM.Pure
open Go.AM
section
variable {α : Type} [Inhabited α] [DecidableEq α]
omit [DecidableEq α] in
theorem OW (z:List α) {i:Nat} (h:i<z.length):z.toArray[i]! = z[i]:=by
 rw [getElem!_pos _ i (by simpa using h),List.getElem_toArray]
theorem oB {le:α→α→Prop} (hr:∀ a,le a a) (ht:∀ a b c,le a b→le b c→le a c) (ha:∀ a b,le a b→le b a→a=b) {z:List α} (hz:z.Pairwise le):
  (Lib.compact z).Pairwise (fun a b=>le a b∧a≠b)∧∀ x,x∈Lib.compact z↔x∈z:=by
 have hs:∀ i j,(Lg:i≤j)→(h:j<z.length)→le (z[i]'(by omega)) z[j]:=fun i j Lg h=>by
  by_cases he:i=j
  ·subst he;exact hr _
  ·exact (List.pairwise_iff_getElem.1 hz) i j (by omega) h (by omega)
 unfold Lib.compact Lib.compactUpTo
 constructor
 ·rw [List.pairwise_map]
  refine List.Pairwise.imp_of_mem ?_ (List.Pairwise.filter _ List.pairwise_lt_range)
  intro a b hma mT LZ
  obtain ⟨h1,_⟩:=List.mem_filter.1 hma
  obtain ⟨h2,h3⟩:=List.mem_filter.1 mT
  have h1:=List.mem_range.1 h1
  have h2:=List.mem_range.1 h2
  have Cb:z.toArray[b]!≠z.toArray[b-1]!:=by
   rcases Ak h3 with h | h
   ·omega
   ·exact h
  rw [OW z h2,OW z (show b-1<z.length by omega)] at Cb
  rw [OW z h1,OW z h2]
  have k1:=hs a (b-1) (by omega) (by omega)
  have k2:=hs (b-1) b (by omega) h2
  refine ⟨ht _ _ _ k1 k2,fun he=>Cb ?_⟩
  rw [he] at k1
  exact ha _ _ k1 k2
 ·intro x
  constructor
  ·intro hx
   obtain ⟨j,hj,rfl⟩:=List.mem_map.1 hx
   have:=List.mem_range.1 (List.mem_filter.1 hj).1
   rw [OW z this]
   exact Aq this
  ·intro hx
   obtain ⟨j,hj,rfl⟩:=List.mem_iff_getElem.1 hx
   clear hx
   induction j with
   | zero=>exact List.mem_map.2 ⟨0,List.mem_filter.2 ⟨List.mem_range.2 hj,by simp [Lib.keeps]⟩,OW z hj⟩
   | succ j ih=>
    by_cases hq:z[j+1]=z[j]
    ·rw [hq];exact ih (by omega)
    ·refine List.mem_map.2 ⟨j+1,List.mem_filter.2 ⟨List.mem_range.2 hj,?_⟩,OW z hj⟩
     refine Af (.inr ?_)
     rw [OW z hj,Nat.add_sub_cancel,OW z (show j<z.length by omega)]
     exact hq
end
def BP (l:List Int):List Int:=Lib.compact (l.mergeSort fun x y=>decide (x≤y))
def Cf (l:List Int):List Int:=l.map fun v=>((BP l).idxOf v:Int)
theorem Lv (l:List Int):(BP l).Pairwise (· < ·)∧∀ x,x∈BP l↔x∈l:=by
 have hs:=List.pairwise_mergeSort (le:=fun x y:Int=>decide (x≤y)) (fun a b c h1 h2=>by simp at *;omega) (fun a b=>by simp;omega) l
 have h:=oB (le:=fun a b:Int=>a≤b) (fun a=>Int.le_refl a) (fun a b c h1 h2=>Int.le_trans h1 h2) (fun a b h1 h2=>Int.le_antisymm h1 h2) (hs.imp fun h=>Ak h)
 refine ⟨h.1.imp fun h=>by omega,fun x=>(h.2 x).trans List.mem_mergeSort⟩
theorem OM (l:List Int):(BP l).length≤l.length:=by
 unfold BP
 have h:∀ z:List Int,(Lib.compact z).length≤z.length:=fun z=>by
  unfold Lib.compact Lib.compactUpTo
  rw [Ai]
  exact Nat.le_trans (List.length_filter_le _ _) (by rw [List.length_range];exact Ah _)
 have:=h (l.mergeSort fun x y=>decide (x≤y))
 rwa [List.length_mergeSort] at this
theorem qh {l:List Int} (h:0<l.length):0<(BP l).length:=by
 have:l[0]∈BP l:=((Lv l).2 _).2 (Aq h)
 exact List.length_pos_of_mem this
theorem RA {d:List Int} (h:d.Pairwise (· < ·)) {i j:Nat} (Lg:i<j) (hj:j<d.length):d[i]'(by omega)<d[j]:=List.pairwise_iff_getElem.1 h i j (by omega) hj Lg
theorem rI (x y:Int):cmp_Less_int x y=AS x y:=by
 unfold cmp_Less_int
 have:cmp_isNaN_int x=false:=by
  show By x x=false
  exact Cu rfl
 rw [this]
 rfl
theorem Yhj (d:List Int) (hl:d.length<1000000000) (hd:d.Pairwise (· < ·)) {k:Nat} (hk:k<d.length):∀ (g i j n:Nat),g=j-i→i≤k→k≤j→j≤d.length→g<n→
  Dc.l0 (Dc.t1 fu) n d d[k] (d.length:Int) (i:Int) (j:Int)=some ((k:Int),true):=by
 intro g
 induction g using Nat.strongRecOn with
 | ind g ih=>
 intro i j n hg hi hj Nl hn
 obtain ⟨n,rfl⟩:∃ m,n=m+1:=⟨n-1,by omega⟩
 show Dc.S0 Dc.S1 (Dc.l0 (Dc.t1 fu) n) _ _ _ _ _=_
 unfold Dc.S0
 by_cases Lg:i<j
 ·have hh:IntKind.wrap .i64 (BH .u64 (IntKind.wrap .u64 (AQ .i64 (i:Int) (j:Int))) 1)=(((i+j) / 2:Nat):Int):=by
   have h1:IntKind.wrap .u64 ((i:Int)+(j:Int))=((i+j:Nat):Int):=by rw [Ew];omega
   have h2:=Mp ((i+j:Nat):Int) 1 (by omega)
   rw [show ((1:Nat):Int)=1 from rfl,Int.pow_succ,Int.pow_zero,Int.one_mul] at h2
   rw [Bj (by omega),h1,h2,Hf (by omega)]
   omega
  have hm:(i+j) / 2<d.length:=by omega
  rw [Bl (by omega),Aa,hh,Bf (by rw [AW];omega),Aa,Bz hm,rI,Bj (by omega)]
  by_cases AO:(i+j) / 2<k
  ·rw [Bl (RA hd AO hk),Aa]
   exact ih (j-((i+j) / 2+1)) (by omega) ((i+j) / 2+1) j n rfl (by omega) hj Nl (by omega)
  ·have:d[k]≤d[(i+j) / 2]:=by
    by_cases he:k=(i+j) / 2
    ·exact Int.le_of_eq (getElem_congr_idx he)
    ·exact Int.le_of_lt (RA hd (by omega) hm)
   rw [AZ this,Ac]
   exact ih ((i+j) / 2-i) (by omega) i ((i+j) / 2) n rfl hi (by omega) (by omega) (by omega)
 ·have:i=k:=by omega
  subst this
  rw [AZ (by omega),Ac]
  unfold Dc.S1
  rw [Bl (by omega),Aa,Bf (by rw [AW];omega),Aa,Bz hk,B0 rfl]
  rfl
theorem Yox (d:List Int) (hl:d.length<1000000000) (hd:d.Pairwise (· < ·)) {v:Int} (hv:v∈d):Dc d v=some ((d.idxOf v:Int),true):=by
 have hk:d.idxOf v<d.length:=List.idxOf_lt_length_iff.2 hv
 have hg:d[d.idxOf v]=v:=List.getElem_idxOf hk
 have:=Yhj d hl hd hk d.length 0 d.length fu (by omega) (by omega) (by omega) (by omega) (by unfold fu;omega)
 rw [hg] at this
 exact this
theorem Zbn (l:List Int) (hl:l.length≤65536) (lo:Nat) (t:List Int) (ht:List.take (BP l).length (List.drop lo t)=BP l):∀ (d i n:Nat),d=l.length-i→i≤l.length→d<n→
  EV.l0 n lo (BP l).length ((Cf l).take i) l (l.length:Int) (i:Int) t=some (BP l,Cf l):=by
 have CE:(Cf l).length=l.length:=by unfold Cf;rw [Ai]
 have D3:=OM l
 intro d
 induction d with
 | zero=>
  intro i n hd hi hn
  have:i=l.length:=by omega
  subst this
  obtain ⟨n,rfl⟩:∃ k,n=k+1:=⟨n-1,by omega⟩
  show EV.S0 _ _ _ _ _ _ _ _=_
  unfold EV.S0
  rw [AZ (by omega),Ac,ht,AF (by omega)]
 | succ d ih=>
  intro i n hd hi hn
  obtain ⟨n,rfl⟩:∃ k,n=k+1:=⟨n-1,by omega⟩
  have AO:i<l.length:=by omega
  show EV.S0 (EV.l0 n) _ _ _ _ _ _ _=_
  unfold EV.S0
  rw [Bl (by omega),Aa,Bf (by rw [AW];omega),Aa,Bz AO,ht,Yox _ (by omega) (Lv l).1 (((Lv l).2 _).2 (Aq AO)),Ad,B7 (by rw [Ag];omega),Aa,Bj (by omega)]
  have hp:(Cf l)[i]'(by omega)=((BP l).idxOf l[i]:Int):=by
   have h2:(Cf l)[i]? = some ((BP l).idxOf l[i]:Int):=by
    unfold Cf
    rw [List.getElem?_map,Ap AO,Option.map_some]
   rw [Ap (by omega)] at h2
   exact Option.some.inj h2
  have:=ih (i+1) n (by omega) (by omega) (by omega)
  rw [take_one (by omega),hp] at this
  exact this
theorem dq (l:List Int) (hl:l.length≤65536) (h0:0<l.length):EV l=some (BP l,Cf l):=by
 show EV.S (EV.l0 fu) l=_
 unfold EV.S
 have hc:Ko 8 l=some l:=by
  unfold Ko
  rw [Af h0,B7 (by omega)]
  rfl
 have hs:We l=some (l.mergeSort fun x y=>decide (x≤y)):=by
  unfold We
  rw [Af (by omega)]
  rfl
 have Jq:(l.mergeSort fun x y=>decide (x≤y)).length=l.length:=List.length_mergeSort _
 have D3:=OM l
 have mU:Wf (l.mergeSort fun x y=>decide (x≤y))=some (((BP l).length:Int),BP l++List.replicate (l.length-(BP l).length) 0):=by
  unfold Wf
  rw [Af (by omega),Jq]
  rfl
 rw [hc,Ad,Rc (x:=l.mergeSort fun x y=>decide (x≤y)) (by rw [Af h0];rfl) hs (by rw [Jq];simp),Ad,
  Rc (by rw [Af (by omega)];rfl) mU (by
   dsimp only
   rw [Ae,AK,Jq,Af (by omega)]
   rfl),Ad]
 dsimp only
 rw [show Int.toNat ((BP l).length:Int)=(BP l).length from rfl,AW]
 exact Zbn l hl 0 _ (by rw [List.drop_zero,List.take_left]) l.length 0 fu (by omega) (by omega) (by unfold fu;omega)
def Dh (d:List Int):List Int:=d.flatMap vB
theorem pz (x:Int) (d:List Int):Dh (x :: d)=vB x++Dh d:=rfl
theorem dT (d:List Int) (x:Int):Dh (d++[x])=Dh d++vB x:=by unfold Dh;simp
theorem Ro:∀ d:List Int,(Dh d).length≤10*d.length
 | []=>by simp [Dh]
 | x :: d=>by
  have:=Ro d
  have:=FC x
  rw [pz,Ae,Aj]
  omega
theorem eA:∀ d:List Int,∀ b∈Dh d,0≤b∧b<256
 | [],b,h=>by cases h
 | x :: d,b,h=>by
  rw [pz] at h
  rcases List.mem_append.1 h with h | h
  ·exact Mh _ b h
  ·exact eA d b h
theorem Zls (o:List Int) (hl:o.length≤65536):∀ (d i n:Nat) (f:Bool),d=o.length-i→i≤o.length→d<n→
  GI.l0 n o (o.length:Int) (i:Int) (f,Dh (o.take i))=some (ofBytes (Dh o),0):=by
 intro d
 induction d with
 | zero=>
  intro i n f hd hi hn
  have:i=o.length:=by omega
  subst this
  obtain ⟨n,rfl⟩:∃ k,n=k+1:=⟨n-1,by omega⟩
  show GI.S0 _ _ _ _ _=_
  unfold GI.S0
  rw [AZ (by omega),Ac,Ar,eC _ _ (eA o)]
  rfl
 | succ d ih=>
  intro i n f hd hi hn
  obtain ⟨n,rfl⟩:∃ k,n=k+1:=⟨n-1,by omega⟩
  have AO:i<o.length:=by omega
  have h1:=Ro (o.take i)
  rw [Ag] at h1
  have h2:=FC o[i]
  show GI.S0 (GI.l0 n) _ _ _ _=_
  unfold GI.S0
  rw [Bl (by omega),Aa,Bf (by rw [AW];omega),Aa,Bz AO,OB,Ad,IC,Yz _ _ (by rw [Cg];show (Dh _).length+_<_;omega),Ad,MO (Mh _),Bj (by omega)]
  have:=ih (i+1) n false (by omega) (by omega) (by omega)
  rw [take_one AO,dT] at this
  exact this
theorem Zul (o:List Int) (hl:o.length≤65536):GI o=some (ofBytes (Dh o),0):=
 Zls o hl o.length 0 fu true (by omega) (by omega) (by unfold fu;omega)
theorem Oz (l:List Int):(Cf l).length=l.length:=by unfold Cf;rw [Ai]
theorem UJ {l:List Int}:∀ x∈Cf l,0≤x∧x<((BP l).length:Int):=fun x hx=>by
 unfold Cf at hx
 obtain ⟨v,hv,rfl⟩:=List.mem_map.1 hx
 have:=List.idxOf_lt_length_iff.2 (((Lv l).2 v).2 hv)
 omega
theorem oO {l:List Int} {k:Nat} (hk:k<(BP l).length):(k:Int)∈Cf l:=by
 have hm:(BP l)[k]∈l:=((Lv l).2 _).1 (Aq hk)
 refine List.mem_map.2 ⟨_,hm,?_⟩
 have h1:(BP l).idxOf (BP l)[k]<(BP l).length:=List.idxOf_lt_length_iff.2 (Aq hk)
 have h2:(BP l)[(BP l).idxOf (BP l)[k]]=(BP l)[k]:=List.getElem_idxOf h1
 have T7:=(Lv l).1
 rcases Nat.lt_trichotomy ((BP l).idxOf (BP l)[k]) k with h | h | h
 ·have:=RA T7 h hk;omega
 ·rw [h]
 ·have:=RA T7 h h1;omega
def Mj (l:List Int) (v:Nat):List Int:=if l.length=0 then [] else vB ((BP l).length:Int)++(Dh (BP l)++CK (Cf l) v)
theorem Zoj (l:List Int) (hl:l.length≤65536) {v:Nat} (hv:D0 (Cf l)=some (v:Int)) (B1:v≤64):Ya l=some (ofBytes (Mj l v),0):=by
 unfold Ya dd Mj
 rw [AW,AZ (by omega),Ac]
 by_cases h0:l.length=0
 ·rw [B0 (by omega),Aa,if_pos h0]
  rfl
 ·have D3:=OM l
  have CE:=Oz l
  have hb:(Cf l).length*v≤65536*64:=Nat.mul_le_mul (by omega) B1
  have QZ:=Jy (Cf l) v
  have k1:=FC ((BP l).length:Int)
  have k2:=Ro (BP l)
  rw [BU (by omega),Ac,if_neg h0,dq l hl (by omega),Ad]
  dsimp only
  rw [Zul _ (by omega),Ad]
  dsimp only
  rw [Cu rfl,Ac,hv,Ad,UM (Cf l) B1 (by omega) hv (Ah _),Ad,AW,OB,Ad,IC,F7]
  dsimp only
  have r1:CH (ofBytes (vB ((BP l).length:Int))) (ofBytes (Dh (BP l)))=true:=Af (by rw [Cg,Cg];omega)
  have r2:CH (ofBytes (vB ((BP l).length:Int)++Dh (BP l))) (ofBytes (CK (Cf l) v))=true:=Af (by rw [Cg,Cg,Ae];omega)
  rw [r1,r2,F7,Aa,Aa,Al]
  rfl
theorem Yij {x:Int} (hx:BY x) {s:ByteArray} {rest:List Int} (hs:Bi s=vB x++rest):XU s=some (x,((vB x).length:Int)):=by
 unfold XU
 rw [OQ hx hs,Ad]
 rfl
theorem Zn2 {D:List Int} (hD:D.length≤65536) (T7:D.Pairwise (· < ·)) (B1:∀ x∈D,BY x) {s:ByteArray} {pre tail:List Int} (hs:Bi s=pre++(Dh D++tail)) (Bu:s.size<100000000) {o1:ByteArray→Int→Int→Int→List Int→Option (List Int×List Int×Int)} {xn size:Int}:
  ∀ (d i n:Nat),d=D.length-i→i≤D.length→d<n→
  BZ.l0 o1 n s xn size ((pre.length+(Dh (D.take i)).length:Nat):Int) (D.take i) (D.length:Int) (i:Int)=o1 s xn size ((pre.length+(Dh D).length:Nat):Int) D:=by
 have Js:s.size=pre.length+((Dh D).length+tail.length):=by rw [← DN,hs,Ae,Ae]
 intro d
 induction d with
 | zero=>
  intro i n hd hi hn
  have:i=D.length:=by omega
  subst this
  obtain ⟨n,rfl⟩:∃ k,n=k+1:=⟨n-1,by omega⟩
  show BZ.S0 _ _ _ _ _ _ _ _ _=_
  unfold BZ.S0
  rw [AZ (by omega),Ac,Ar]
 | succ d ih=>
  intro i n hd hi hn
  obtain ⟨n,rfl⟩:∃ k,n=k+1:=⟨n-1,by omega⟩
  have AO:i<D.length:=by omega
  show BZ.S0 o1 (BZ.l0 o1 n) _ _ _ _ _ _ _=_
  unfold BZ.S0
  have KR:Dh D=Dh (D.take i)++(vB D[i]++Dh (D.drop (i+1))):=by
   have:D=D.take i++D[i] :: D.drop (i+1):=by rw [← List.drop_eq_getElem_cons AO,List.take_append_drop]
   have h2:Dh D=Dh (D.take i++D[i] :: D.drop (i+1)):=congrArg Dh this
   rw [h2]
   unfold Dh
   rw [List.flatMap_append,List.flatMap_cons]
  have PC:(Dh (D.take i)).length≤(Dh D).length:=by rw [KR,Ae];omega
  have hcut:Bi (cutS s ((pre.length+(Dh (D.take i)).length:Nat):Int) (Bh s))=vB D[i]++(Dh (D.drop (i+1))++tail):=by
   have:=Ma (s:=s) (a:=pre++Dh (D.take i)) (rest:=vB D[i]++(Dh (D.drop (i+1))++tail)) (by rw [hs,KR];simp)
   rw [Ae] at this
   exact this
  have hv:=FC D[i]
  have Lf:(D.take i).length=i:=by rw [Ag];omega
  have JQ:AQ .i64 ((pre.length+(Dh (D.take i)).length:Nat):Int) ((vB D[i]).length:Int)=((pre.length+(Dh (D.take (i+1))).length:Nat):Int):=by
   have:(Dh (D.take (i+1))).length=(Dh (D.take i)).length+(vB D[i]).length:=by rw [take_one AO,dT,Ae]
   rw [Bj (by omega),this]
   omega
  rw [Bl (by omega),Aa,Ey (by rw [C6];omega),Aa,Yij (B1 _ (Aq AO)) hcut,Ad]
  dsimp only
  rw [BU (by omega),Ac,JQ,Bj (by omega),← take_one AO]
  have:=ih (i+1) n (by omega) (by omega) (by omega)
  rw [B7 (by omega)]
  by_cases I0:i=0
  ·rw [AZ (by omega),Ac,Aa]
   exact this
  ·have Kw:i-1<(D.take i).length:=by omega
   rw [Bl (by omega),Aa,Dn (by omega),Bf (by rw [AW,Lf];omega),Aa,show (i:Int)-1=((i-1:Nat):Int) by omega,Bz Kw,List.getElem_take,GM (RA T7 (by omega) AO),Ac,Aa]
   exact this
def Eo (size:Nat) (p:List Int):List Bool:=(List.range size).map fun k:Nat=>p.any fun x=>decide (x=(k:Int))
theorem rT (size:Nat) (p:List Int) (x:Int) (h0:0≤x):List.set (Eo size p) x.toNat true=Eo size (p++[x]):=by
 apply List.ext_getElem
 ·unfold Eo;simp
 ·intro k h1 h2
  have hk:k<size:=by unfold Eo at h2;simpa using h2
  rw [List.getElem_set]
  have e1:∀ q:List Int,∀ h:k<(Eo size q).length,(Eo size q)[k]=q.any fun x=>decide (x=(k:Int)):=fun q h=>by
   have h2:(Eo size q)[k]? = some (q.any fun x=>decide (x=(k:Int))):=by
    unfold Eo
    rw [List.getElem?_map,List.getElem?_range hk,Option.map_some]
   rw [Ap h] at h2
   exact Option.some.inj h2
  rw [e1 (p++[x]) h2,List.any_append]
  by_cases hx:x.toNat=k
  ·rw [if_pos hx]
   have:x=(k:Int):=by omega
   simp [this]
  ·rw [if_neg hx,e1]
   have:¬ x=(k:Int):=by omega
   simp [this]
theorem Zo2 {D P:List Int} (hP:P.length≤65536) (Nh:∀ x∈P,0≤x∧x<(D.length:Int)) (_hD:D.length≤65536) {o3:List Int→List Int→List Bool→Option (List Int×List Int×Int)}:
  ∀ (d i n:Nat),d=P.length-i→i≤P.length→d<n→
  BZ.l2 o3 n (D.length:Int) D P P (P.length:Int) (i:Int) (Eo D.length (P.take i))=o3 D P (Eo D.length P):=by
 intro d
 induction d with
 | zero=>
  intro i n hd hi hn
  have:i=P.length:=by omega
  subst this
  obtain ⟨n,rfl⟩:∃ k,n=k+1:=⟨n-1,by omega⟩
  show BZ.S2 _ _ _ _ _ _ _ _ _=_
  unfold BZ.S2
  rw [AZ (by omega),Ac,Ar]
 | succ d ih=>
  intro i n hd hi hn
  obtain ⟨n,rfl⟩:∃ k,n=k+1:=⟨n-1,by omega⟩
  have AO:i<P.length:=by omega
  have hx:=Nh P[i] (Aq AO)
  have Js:(Eo D.length (P.take i)).length=D.length:=by unfold Eo;simp
  show BZ.S2 o3 (BZ.l2 o3 n) _ _ _ _ _ _ _=_
  unfold BZ.S2
  rw [Bl (by omega),Aa,Bf (by rw [AW];omega),Aa,Bz AO,AZ hx.1,Ac,GM hx.2,Ac,Bf (by rw [AW,Js];exact hx),Aa,Bj (by omega),rT _ _ _ hx.1,← take_one AO]
  exact ih (i+1) n (by omega) (by omega) (by omega)
theorem pA (l:List Bool) (hl:l.length<4611686018427387904) (LP:∀ b∈l,b=true):∀ (d i n:Nat),d=l.length-i→i≤l.length→d<n→Gg.l0 n l false (l.length:Int) (i:Int)=some (-1):=by
 intro d
 induction d with
 | zero=>
  intro i n hd hi hn
  have:i=l.length:=by omega
  subst this
  obtain ⟨n,rfl⟩:∃ k,n=k+1:=⟨n-1,by omega⟩
  show Gg.S0 _ _ _ _ _=_
  unfold Gg.S0
  rw [AZ (by omega),Ac]
 | succ d ih=>
  intro i n hd hi hn
  obtain ⟨n,rfl⟩:∃ k,n=k+1:=⟨n-1,by omega⟩
  have AO:i<l.length:=by omega
  show Gg.S0 (Gg.l0 n) _ _ _ _=_
  unfold Gg.S0
  rw [Bl (by omega),Aa,Bf (by rw [AW];omega),Aa,Bz AO,LP _ (Aq AO),show Sh false true=false from rfl,Ac,Bj (by omega)]
  exact ih (i+1) n (by omega) (by omega) (by omega)
theorem Zms {l:List Int} (hl:l.length≤65536) (h0:0<l.length) {v:Nat} (h:Wd [((BP l).length:Int)-1] v):Wd (Cf l) v:=by
 have D3:=OM l
 have cz:=qh h0
 obtain ⟨h1,h2⟩:=h
 have h1:=h1 _ (List.mem_singleton.2 rfl)
 constructor
 ·intro x hx
  have:=UJ x hx
  omega
 ·rcases h2 with h2 | ⟨x,hx,h2⟩
  ·exact .inl h2
  ·have hx:=List.mem_singleton.1 hx
   subst hx
   right
   have:=oO (l:=l) (k:=(BP l).length-1) (by omega)
   refine ⟨_,this,?_⟩
   rw [show (((BP l).length-1:Nat):Int)=((BP l).length:Int)-1 by omega]
   exact h2
theorem Znk {D P:List Int} (_hD:D.length≤65536) (hP:P.length≤65536) (Nh:∀ x∈P,0≤x∧x<(D.length:Int)):∀ (d i n:Nat),d=P.length-i→i≤P.length→d<n→
  Gz.l0 n D ((P.take i).map fun x=>D.getD x.toNat 0) P (P.length:Int) (i:Int)=some (P.map fun x=>D.getD x.toNat 0):=by
 intro d
 induction d with
 | zero=>
  intro i n hd hi hn
  have:i=P.length:=by omega
  subst this
  obtain ⟨n,rfl⟩:∃ k,n=k+1:=⟨n-1,by omega⟩
  show Gz.S0 _ _ _ _ _ _=_
  unfold Gz.S0
  rw [AZ (by omega),Ac,Ar]
 | succ d ih=>
  intro i n hd hi hn
  obtain ⟨n,rfl⟩:∃ k,n=k+1:=⟨n-1,by omega⟩
  have AO:i<P.length:=by omega
  have hx:=Nh P[i] (Aq AO)
  show Gz.S0 (Gz.l0 n) _ _ _ _ _=_
  unfold Gz.S0
  rw [Bl (by omega),Aa,Bf (by rw [AW];omega),Aa,Bz AO,Bf (by rw [AW];exact hx),Aa,B7 (by rw [Ai,Ag];omega),Aa,Bj (by omega)]
  have:=ih (i+1) n (by omega) (by omega) (by omega)
  rw [take_one AO,AE] at this
  exact this
theorem pY (l:List Int):(Cf l).map (fun x=>(BP l).getD x.toNat 0)=l:=by
 unfold Cf
 rw [List.map_map]
 conv=>rhs;rw [← List.map_id l]
 apply List.map_congr_left
 intro v hv
 have hk:=List.idxOf_lt_length_iff.2 (((Lv l).2 v).2 hv)
 show (BP l).getD (((BP l).idxOf v:Nat):Int).toNat 0=v
 rw [show (((BP l).idxOf v:Nat):Int).toNat=(BP l).idxOf v from rfl,getD_at hk,List.getElem_idxOf hk]
theorem Zvl (l:List Int) (hl:l.length≤65536) (B1:∀ x∈l,BY x) {v:Nat} (Mu:v≤64) (Jt:Wd (Cf l) v) {s:ByteArray} (hs:Bi s=Mj l v) (h0:0<l.length):
  BZ s (l.length:Int)=some (BP l,Cf l,0):=by
 have D3:=OM l
 have cz:=qh h0
 have CE:=Oz l
 have Ev:Bi s=vB ((BP l).length:Int)++(Dh (BP l)++CK (Cf l) v):=by
  unfold Mj at hs
  rwa [if_neg (by omega)] at hs
 have hb:(Cf l).length*v≤65536*64:=Nat.mul_le_mul (by omega) Mu
 have QZ:=Jy (Cf l) v
 have k1:=FC ((BP l).length:Int)
 have k2:=Ro (BP l)
 have Bu:s.size=(vB ((BP l).length:Int)).length+((Dh (BP l)).length+(CK (Cf l) v).length):=by rw [← DN,Ev,Ae,Ae]
 show BZ.S (BZ.l0 (BZ.t1 fu) fu) s _=_
 unfold BZ.S
 rw [AZ (by omega),Ac,AZ (by omega),Ac,BU (by omega),Ac,OQ (by unfold BY;omega) Ev,Ad]
 dsimp only
 rw [Cu rfl,Ac,AZ (by omega),Ac,AZ (by omega),Ac]
 have QA:=Zn2 (D:=BP l) (by omega) (Lv l).1 (fun x hx=>B1 x (((Lv l).2 x).1 hx)) Ev (by omega) (o1:=BZ.t1 fu) (xn:=(l.length:Int)) (size:=((BP l).length:Int)) (BP l).length 0 fu (by omega) (by omega) (by unfold fu;omega)
 rw [List.take_zero,show Dh []=[] from rfl,List.length_nil,Nat.add_zero] at QA
 rw [show (0:Int)=((0:Nat):Int) from rfl,QA]
 show BZ.S1 (BZ.l2 (BZ.t3 18446744073709551615) 18446744073709551615) s _ _ _ _=_
 unfold BZ.S1
 obtain ⟨v',w1,w2,w3⟩:=X6 [((BP l).length:Int)-1] (by simp)
 have PD:v'=v:=(Zms hl h0 w3).unique Jt
 subst PD
 have hcut:Bi (cutS s (((vB ((BP l).length:Int)).length+(Dh (BP l)).length:Nat):Int) (Bh s))=CK (Cf l) v':=by
  have:=Ma (s:=s) (a:=vB ((BP l).length:Int)++Dh (BP l)) (rest:=CK (Cf l) v') (by rw [Ev,Al])
  rw [Ae] at this
  exact this
 have PE:=U6 (l:=Cf l) (w:=v') Mu (by omega) (fun x hx=>by have:=UJ x hx;unfold BY;omega) Jt.1 hcut
 rw [CE] at PE
 rw [Ey (by rw [C6];omega),Aa,Dn (by omega),w1,Ad,PE,Ad]
 dsimp only
 rw [Cu rfl,Ac,Cq (by omega),B7 (by show (BP l).length*1≤_;omega)]
 have iy:List.replicate (Int.toNat ((BP l).length:Int)) false=Eo (BP l).length ((Cf l).take 0):=by
  unfold Eo
  rw [List.take_zero]
  symm
  rw [List.eq_replicate_iff]
  refine ⟨by simp,fun b hb=>?_⟩
  obtain ⟨k,_,rfl⟩:=List.mem_map.1 hb
  rfl
 have Kh:=Zo2 (D:=BP l) (P:=Cf l) (by omega) (fun x hx=>UJ x hx) (by omega) (o3:=BZ.t3 18446744073709551615) (Cf l).length 0 18446744073709551615 (by omega) (by omega) (by omega)
 rw [iy,AW]
 refine Eq.trans Kh ?_
 show BZ.S3 (BP l) (Cf l) (Eo (BP l).length (Cf l))=_
 unfold BZ.S3
 have mV:∀ b∈Eo (BP l).length (Cf l),b=true:=fun b hb=>by
  unfold Eo at hb
  obtain ⟨k,hk,rfl⟩:=List.mem_map.1 hb
  exact List.any_eq_true.2 ⟨_,oO (List.mem_range.1 hk),Af rfl⟩
 have Yu2:(Eo (BP l).length (Cf l)).length=(BP l).length:=by unfold Eo;simp
 have Mv:Q8 (Eo (BP l).length (Cf l)) false=some false:=by
  unfold Q8
  have:=pA _ (by omega) mV (Eo (BP l).length (Cf l)).length 0 fu (by omega) (by omega) (by unfold fu;omega)
  have h2:Gg (Eo (BP l).length (Cf l)) false=some (-1):=this
  rw [h2]
  rfl
 rw [Mv]
 rfl
theorem nV (l:List Int) (hl:l.length≤65536) (B1:∀ x∈l,BY x) {v:Nat} (Mu:v≤64) (Jt:Wd (Cf l) v) {s:ByteArray} (hs:Bi s=Mj l v):
  SM s (l.length:Int)=some (l,0):=by
 unfold SM
 by_cases h0:l.length=0
 ·have Hm:s=eB:=LH.2 (by rw [← DN,hs];unfold Mj;rw [if_pos h0];rfl)
  have:l=[]:=AI h0
  subst this
  have h1:BZ s (([]:List Int).length:Int)=some ([],[],0):=by
   show BZ.S _ s 0=_
   unfold BZ.S
   rw [AZ (by omega),Ac,AZ (by omega),Ac,B0 rfl,Aa,KY Hm]
   rfl
  rw [h1]
  rfl
 ·have D3:=OM l
  rw [Zvl l hl B1 Mu Jt hs (by omega),Ad]
  dsimp only
  rw [Cu rfl,Ac]
  have:=Znk (D:=BP l) (P:=Cf l) (by omega) (by rw [Oz];exact hl) (fun x hx=>UJ x hx) (Cf l).length 0 fu (by omega) (by omega) (by rw [Oz];unfold fu;omega)
  have h2:Gz (BP l) (Cf l)=some ((Cf l).map fun x=>(BP l).getD x.toNat 0):=this
  rw [h2,pY]
  rfl
end Go.AM.Pure
end

section
/- block: Put, and what is read of it. -/
namespace Go.AM.Pure
open Go.AM
theorem oG (s:ByteArray) (a b:Nat):Bi (cutS s (a:Int) (b:Int))=((Bi s).drop a).take (b-a):=by
 unfold Bi cutS
 show List.map _ (s.extract a b).data.toList=_
 rw [ByteArray.data_extract,Array.toList_extract,List.extract_eq_take_drop,← List.map_drop,← List.map_take]
theorem ud (c:Cell) (kind:Int):KL c kind = !(GD c && (decide (c.1=0) || decide (c.1=kind))):=by
 unfold KL
 rw [oj]
 cases hm:GD c with
 | false=>rw [if_neg (by decide)];rfl
 | true=>
  rw [if_pos rfl,Cu rfl,Ac]
  by_cases h0:c.1=0
  ·rw [Cu h0,Af h0];rfl
  ·rw [Jl h0,Aa,An h0]
   by_cases h1:c.1=kind
   ·rw [Cu h1,Af h1];rfl
   ·rw [Jl h1,An h1];rfl
theorem Zkt (l:List Cell) (hl:l.length<4611686018427387904) (kind:Int):∀ (d i n:Nat),d=l.length-i→i≤l.length→d<n→(∀ j (h:j<l.length),j<i→KL l[j] kind=false)→
  ∃ r,Gv.l0 n l kind (l.length:Int) (i:Int)=some r∧Bq 0 r=l.any (fun c=>KL c kind):=by
 intro d
 induction d with
 | zero=>
  intro i n hd hi hn ha
  have:i=l.length:=by omega
  subst this
  obtain ⟨n,rfl⟩:∃ k,n=k+1:=⟨n-1,by omega⟩
  refine ⟨-1,?_,?_⟩
  ·show Gv.S0 _ _ _ _ _=_
   unfold Gv.S0
   rw [AZ (by omega),Ac]
  ·rw [show Bq 0 (-1)=false from rfl]
   symm
   rw [List.any_eq_false]
   intro x hx
   obtain ⟨j,hj,rfl⟩:=List.mem_iff_getElem.1 hx
   rw [ha j hj hj]
   decide
 | succ d ih=>
  intro i n hd hi hn ha
  obtain ⟨n,rfl⟩:∃ k,n=k+1:=⟨n-1,by omega⟩
  have AO:i<l.length:=by omega
  show ∃ r,Gv.S0 (Gv.l0 n) _ _ _ _=_∧_
  unfold Gv.S0
  rw [Bl (by omega),Aa,Bf (by rw [AW];omega),Aa,Bz AO]
  cases hq:KL l[i] kind with
  | true=>
   rw [Aa]
   refine ⟨_,rfl,?_⟩
   rw [Cq (by omega)]
   symm
   rw [List.any_eq_true]
   exact ⟨l[i],Aq AO,hq⟩
  | false=>
   rw [Ac,Bj (by omega)]
   exact ih (i+1) n (by omega) (by omega) (by omega) fun j h hj=>by
    by_cases PB:j=i
    ·subst PB;exact hq
    ·exact ha j h (by omega)
theorem oH (l:List Cell) (hl:l.length<4611686018427387904) (kind:Int):UD l kind=some (l.any fun c=>KL c kind):=by
 unfold UD
 obtain ⟨r,h1,h2⟩:=Zkt l hl kind l.length 0 fu (by omega) (by omega) (by unfold fu;omega) fun j h hj=>by omega
 have:Gv l kind=some r:=h1
 rw [this,Ad,h2]
def Hz (l:List Cell) (kind:Int):Prop:=1≤l.length∧l.length≤64∧(kind=1∨kind=2)∧∀ c∈l,GD c=true∧(c.1=0∨c.1=kind)
theorem ue (l:List Cell) (kind:Int):(!(l.any fun c=>KL c kind))=true↔∀ c∈l,GD c=true∧(c.1=0∨c.1=kind):=by
 rw [Bool.not_eq_true',List.any_eq_false]
 constructor
 ·intro h c hc
  have h1:=h c hc
  rw [ud,Bool.not_eq_true,Bool.not_eq_false',Bool.and_eq_true,Bool.or_eq_true,decide_eq_true_eq,decide_eq_true_eq] at h1
  exact h1
 ·intro h c hc
  rw [ud,Bool.not_eq_true,Bool.not_eq_false',Bool.and_eq_true,Bool.or_eq_true,decide_eq_true_eq,decide_eq_true_eq]
  exact h c hc
theorem ub {l:List Cell} {kind:Int} (h:Hz l kind):SX l kind=some true:=by
 obtain ⟨h1,h2,h3,h4⟩:=h
 unfold SX
 have h5:=(ue l kind).2 h4
 rw [AW,AZ (by omega),Ac,AZ (by omega),Ac,oH l (by omega),Ad,h5]
 rcases h3 with rfl | rfl
 ·rw [Cu rfl];rfl
 ·rw [Jl (by omega),Cu rfl];rfl
theorem Yrq {l:List Cell} {kind:Int} (hl:l.length<4611686018427387904) (h:¬ Hz l kind):SX l kind=some false:=by
 unfold SX
 rw [AW]
 by_cases h1:1≤l.length
 ·by_cases h2:l.length≤64
  ·rw [AZ (by omega),Ac,AZ (by omega),Ac,oH l hl,Ad]
   have h5:(kind=1∨kind=2)→(!(l.any fun c=>KL c kind))=false:=fun hk=>by
    rw [Bool.eq_false_iff]
    intro h6
    exact h ⟨h1,h2,hk,(ue l kind).1 h6⟩
   by_cases k1:kind=1
   ·rw [Cu k1,Ac,h5 (.inl k1)]
   ·rw [Jl k1,Aa]
    by_cases k2:kind=2
    ·rw [Cu k2,Ac,h5 (.inr k2)]
    ·rw [Jl k2,Aa]
  ·rw [AZ (by omega),Ac,Bl (by omega),Aa]
 ·rw [Bl (by omega),Aa]
abbrev J6 (l:List Cell):List Int:=l.map fun c=>c.2.1
abbrev KW (l:List Cell):List ByteArray:=l.map fun c=>c.2.2
theorem Zln (l:List Cell) (hl:l.length≤65536) (kind code:Int):∀ (d i n:Nat),d=l.length-i→i≤l.length→d<n→
  DF.l0 (DF.t1 fu) n kind code (J6 (l.take i)) (KW (l.take i)) l (l.length:Int) (i:Int)=(bif AR kind 1 then SN (J6 l) code else SP (KW l) code):=by
 intro d
 induction d with
 | zero=>
  intro i n hd hi hn
  have:i=l.length:=by omega
  subst this
  obtain ⟨n,rfl⟩:∃ k,n=k+1:=⟨n-1,by omega⟩
  show DF.S0 DF.S1 _ _ _ _ _ _ _ _=_
  unfold DF.S0
  rw [AZ (by omega),Ac,Ar]
  unfold DF.S1
  rw [Option.bind_fun_some,Option.bind_fun_some]
 | succ d ih=>
  intro i n hd hi hn
  obtain ⟨n,rfl⟩:∃ k,n=k+1:=⟨n-1,by omega⟩
  have AO:i<l.length:=by omega
  show DF.S0 _ (DF.l0 (DF.t1 fu) n) _ _ _ _ _ _ _=_
  unfold DF.S0
  rw [Bl (by omega),Aa,Bf (by rw [AW];omega),Aa,B7 (by rw [Ai,Ag];omega),Aa,B7 (by rw [Ai,Ag];omega),Aa,Bz AO,Bj (by omega)]
  have:=ih (i+1) n (by omega) (by omega) (by omega)
  rw [take_one AO] at this
  unfold J6 KW at this
  rw [AE,AE] at this
  exact this
theorem Zqj (l:List Cell) (hl:l.length≤65536) (kind code:Int):DF l kind code=(bif AR kind 1 then SN (J6 l) code else SP (KW l) code):=
 Zln l hl kind code l.length 0 fu (by omega) (by omega) (by unfold fu;omega)
def Ih (l:List Cell) (kind code:Int) (vb:List Int):List Int:=[kind,code,(l.length:Int),((D6 l).length:Int)]++(D6 l++vb)
theorem YA (l:List Cell):(D6 l).length≤(l.length+7) / 8:=by
 unfold D6
 split
 ·rw [Jy,Ib,Nat.mul_one];exact Ah _
 ·exact Nat.zero_le _
theorem Zlt (l:List Cell):∀ b∈D6 l,0≤b∧b<256:=fun b hb=>by
 unfold D6 at hb
 split at hb
 ·exact SZ _ _ b hb
 ·cases hb
theorem fw {l:List Cell} (hl:l.length≤64) {kind code:Int} (hk:0≤kind∧kind<256) (hc:0≤code∧code<256) {vb:List Int} (hv:∀ b∈vb,0≤b∧b<256):∀ b∈Ih l kind code vb,0≤b∧b<256:=fun b hb=>by
 have hm:=YA l
 unfold Ih at hb
 rcases List.mem_append.1 hb with hb | hb
 ·simp only [List.mem_cons,List.not_mem_nil,or_false] at hb
  rcases hb with rfl | rfl | rfl | rfl <;> omega
 ·rcases List.mem_append.1 hb with hb | hb
  ·exact Zlt l b hb
  ·exact hv b hb
theorem oF {l:List Cell} {kind code:Int} (hm:Hz l kind) (hc:0≤code∧code<256) {vb:List Int} (hvl:vb.length≤1000000) (cD:∀ b∈vb,0≤b∧b<256) (hv:DF (Br l) kind code=some (ofBytes vb,0)):
  MV l kind code=some (ofBytes (II (Ih l kind code vb)),0):=by
 obtain ⟨h1,h2,h3,_⟩:=id hm
 have Og:0≤kind∧kind<256:=by rcases h3 with rfl | rfl <;> omega
 have Jq:=YA l
 unfold MV
 rw [ub hm,Ad,Bool.not_true,Ac,n9 l (by omega) (by omega),Ad]
 dsimp only
 rw [hv,Ad]
 dsimp only
 have w8:∀ x:Int,0≤x∧x<256→IntKind.wrap .u8 x=x:=fun x hx=>by rw [J4];omega
 rw [Cu rfl,Ac,AW,C6,Cg,w8 kind Og,w8 code hc,w8 _ (by omega),w8 _ (by omega)]
 have r1:CH (ofBytes [kind,code,(l.length:Int),((D6 l).length:Int)]) (ofBytes (D6 l))=true:=Af (by rw [Cg,Cg];simp;omega)
 rw [r1,Aa,F7]
 have r2:CH (ofBytes ([kind,code,(l.length:Int),((D6 l).length:Int)]++D6 l)) (ofBytes vb)=true:=Af (by rw [Cg,Cg];simp;omega)
 rw [r2,Aa,F7,Al]
 show (EW (ofBytes (Ih l kind code vb))).bind _=_
 rw [oo _ (by rw [Cg];unfold Ih;simp;omega),Ad,MO (fw h2 Og hc cD)]
theorem Zzl {l:List Cell} {kind code:Int} (hl:l.length<4611686018427387904) (hm:¬ Hz l kind):MV l kind code=some (eB,1):=by
 unfold MV
 rw [Yrq hl hm]
 rfl
theorem Zwk {l:List Cell} {kind code:Int} (hm:Hz l kind) (hc:0≤code∧code<256) {vb:List Int} (hvl:vb.length≤1000000) (cD:∀ b∈vb,0≤b∧b<256) (hv:DF (Br l) kind code=some (ofBytes vb,0))
  (VB:∀ s:ByteArray,Bi s=vb→∀ k:Int,CV s ((Br l).length:Int) (kind,code,(l.length:Int),k)=some (Br l,0)):
  P1 (ofBytes (II (Ih l kind code vb)))=some (((kind,code,(l.length:Int),((l.length-(Br l).length:Nat):Int)),ofBytes (D6 l),ofBytes vb,l),true):=by
 have Ye3:=oF hm hc hvl cD hv
 obtain ⟨h1,h2,h3,h4⟩:=hm
 have Og:0≤kind∧kind<256:=by rcases h3 with rfl | rfl <;> omega
 have Jq:=YA l
 have Sk:=J0 l
 have hz:∀ c∈l,CO c=true→c=(0,0,eB):=fun c hc hn=>by
  have Df:c.1=0:=Ak (show decide (c.1=0)=true from hn)
  rcases rP (h4 c hc).1 with h | ⟨n,h⟩ | ⟨t,h,_⟩
  ·exact h
  ·rw [h] at Df;simp at Df
  ·rw [h] at Df;simp at Df
 have hT:=fw h2 Og hc cD
 have Lf:(Ih l kind code vb).length=4+((D6 l).length+vb.length):=by unfold Ih;simp;omega
 unfold P1
 rw [Zqk hT (by omega),Ad]
 dsimp only
 have Bu:(ofBytes (Ih l kind code vb)).size=4+((D6 l).length+vb.length):=by rw [Cg,Lf]
 have PH:Bi (ofBytes (Ih l kind code vb))=Ih l kind code vb:=MO hT
 generalize ht:ofBytes (Ih l kind code vb)=t at Bu PH
 have b0:byteAt t 0=kind:=Rg PH (i:=0) rfl
 have b1:byteAt t 1=code:=Rg PH (i:=1) rfl
 have b2:byteAt t 2=(l.length:Int):=Rg PH (i:=2) rfl
 have b3:byteAt t 3=((D6 l).length:Int):=Rg PH (i:=3) rfl
 have lX:AQ .i64 4 ((D6 l).length:Int)=((4+(D6 l).length:Nat):Int):=by rw [Bj (by omega)];omega
 have Ll:(Ih l kind code vb).drop 4=D6 l++vb:=rfl
 have kC:Bi (cutS t 4 ((4+(D6 l).length:Nat):Int))=D6 l:=by
  have:=oG t 4 (4+(D6 l).length)
  rw [show ((4:Nat):Int)=4 from rfl] at this
  rw [this,PH,Ll,Nat.add_sub_cancel_left,List.take_left]
 have Ztd:Bi (cutS t ((4+(D6 l).length:Nat):Int) (t.size:Int))=vb:=by
  rw [oM,PH,← List.drop_drop,Ll,List.drop_left]
 have Ysq:cutS t 4 ((4+(D6 l).length:Nat):Int)=ofBytes (D6 l):=(Q9 _).symm.trans (congrArg ofBytes kC)
 have Ytq:cutS t ((4+(D6 l).length:Nat):Int) (t.size:Int)=ofBytes vb:=(Q9 _).symm.trans (congrArg ofBytes Ztd)
 rw [Cu rfl,Ac,C6,AZ (by omega),Ac,Bf (by omega),Aa,b3,b2,b1,b0,Hf (n:=((D6 l).length:Int)) (by omega),Hf (n:=(l.length:Int)) (by omega),Hf (n:=code) (by omega),Hf (n:=kind) (by omega),Dn (by omega),AZ (by omega),Ac,Aa,
  Bf (by omega),Aa,Bf (by omega),Aa,Bf (by omega),Aa,lX,Ey (by omega),Aa,Ey (by omega),Aa,oa l (by omega) (by omega) kC,Ad]
 dsimp only
 have Ka:Be .i64 (l.length:Int) ((l.length-(Br l).length:Nat):Int)=((Br l).length:Int):=by rw [Dn (by omega)];omega
 rw [Cu rfl,Ac,Ka,VB _ Ztd,Ad]
 dsimp only
 rw [Cu rfl,Ac,Zsk l (by omega) (by omega) hz kC,Ad]
 dsimp only
 rw [Cu rfl,Ac,Ye3,Ad]
 dsimp only
 rw [B0 rfl,Aa,KY rfl,Ysq,Ytq]
theorem Zmt (l:List Int) (hl:l.length≤65536) (h:Int×Int×Int×Int) (e:Int):∀ (d i n:Nat),d=l.length-i→i≤l.length→d<n→
  CV.l0 n ((l.take i).map fun x=>((h.1,x,eB):Cell)) e l (l.length:Int) (i:Int) h=some (l.map fun x=>((h.1,x,eB):Cell),e):=by
 intro d
 induction d with
 | zero=>
  intro i n hd hi hn
  have:i=l.length:=by omega
  subst this
  obtain ⟨n,rfl⟩:∃ k,n=k+1:=⟨n-1,by omega⟩
  show CV.S0 _ _ _ _ _ _ _=_
  unfold CV.S0
  rw [AZ (by omega),Ac,Ar]
 | succ d ih=>
  intro i n hd hi hn
  obtain ⟨n,rfl⟩:∃ k,n=k+1:=⟨n-1,by omega⟩
  have AO:i<l.length:=by omega
  show CV.S0 (CV.l0 n) _ _ _ _ _ _=_
  unfold CV.S0
  rw [Bl (by omega),Aa,Bf (by rw [AW];omega),Aa,B7 (by rw [Ai,Ag];omega),Aa,Bz AO,Bj (by omega)]
  have:=ih (i+1) n (by omega) (by omega) (by omega)
  rw [take_one AO,AE] at this
  exact this
theorem Zrj {s:ByteArray} {l:List Int} (hl:l.length≤65536) {code k n:Int} (hs:UT s n code=some (l,0)) (m:Int):CV s n (1,code,m,k)=some (l.map fun x=>((1,x,eB):Cell),0):=by
 show CV.S (CV.l0 fu) _ s n _=_
 unfold CV.S
 dsimp only
 rw [B0 rfl,Aa,hs,Ad]
 exact Zmt l hl (1,code,m,k) 0 l.length 0 fu (by omega) (by omega) (by unfold fu;omega)
def C2 (l:List Int):Nat:=((D0 l).getD 0).toNat
theorem Ic (l:List Int) (hl:l.length≤65536):D0 l=some (C2 l:Int)∧C2 l≤64∧Wd l (C2 l):=by
 obtain ⟨v,h1,h2,h3⟩:=X6 l (by omega)
 have:C2 l=v:=by unfold C2;rw [h1];rfl
 rw [this]
 exact ⟨h1,h2,h3⟩
def Hh (l:List Int):List Dj:=(EY l).getD []
theorem NF (l:List Int) (hl:l.length≤65536):EY l=some (Hh l)∧Cc (Hh l)=l∧DE 0 none (Hh l):=by
 obtain ⟨o,h1,h2,h3⟩:=Zxo l hl
 have:Hh l=o:=by unfold Hh;rw [h1];rfl
 rw [this]
 exact ⟨h1,h2,h3⟩
def LL (l:List Int) (code:Int):Option (List Int):=
 if code=1 then some (CK l 64)
 else if code=2 then some (E8 (Hh l))
 else if code=3 then some (M0 l (C2 (DH l)))
 else if code=4 then some (Mj l (C2 (Cf l)))
 else if code=5 then some ((C2 l:Int) :: CK l (C2 l))
 else none
theorem Zij (l:List Int) (hl:l.length≤65536) (code:Int):SN l code=some (match LL l code with | some b=>(ofBytes b,0) | none=>(eB,1)):=by
 unfold SN LL
 by_cases h1:code=1
 ·rw [B0 h1,Aa,if_pos h1,Zcj l (by omega)]
  rfl
 ·rw [BU h1,Ac,if_neg h1]
  by_cases h2:code=2
  ·obtain ⟨k1,k2,k3⟩:=NF l hl
   rw [B0 h2,Aa,if_pos h2,k1,Ad,oP _ k3 (by rw [k2];exact hl)]
   rfl
  ·rw [BU h2,Ac,if_neg h2]
   by_cases h3:code=3
   ·have HQ:=Rj l
    obtain ⟨k1,k2,_⟩:=Ic (DH l) (by omega)
    rw [B0 h3,Aa,if_pos h3,oC l hl k1 k2]
    rfl
   ·rw [BU h3,Ac,if_neg h3]
    by_cases h4:code=4
    ·have CE:=Oz l
     obtain ⟨k1,k2,_⟩:=Ic (Cf l) (by omega)
     rw [B0 h4,Aa,if_pos h4,Zoj l hl k1 k2]
     rfl
    ·rw [BU h4,Ac,if_neg h4]
     by_cases h5:code=5
     ·obtain ⟨k1,k2,_⟩:=Ic l hl
      have hb:l.length*C2 l≤65536*64:=Nat.mul_le_mul hl k2
      have CE:=Jy l (C2 l)
      have r1:CH (ofBytes [(C2 l:Int)]) (ofBytes (CK l (C2 l)))=true:=Af (by rw [Cg,Cg];simp;omega)
      rw [B0 h5,Aa,if_pos h5,k1,Ad,UM l k2 hl k1 (Ah _),Ad,Zc k2]
      dsimp only
      rw [r1,Aa,F7]
      rfl
     ·rw [BU h5,Ac,if_neg h5]
theorem Zy2 {l:List Int} (hl:l.length≤65536) {code:Int} {b:List Int} (h:LL l code=some b):(∀ x∈b,0≤x∧x<256)∧b.length≤20*l.length+8*l.length+40:=by
 unfold LL at h
 have pw:∀ (m:List Int) (w:Nat),w≤64→(CK m w).length≤8*m.length:=fun m w hw=>by
  rw [Jy]
  have:m.length*w≤m.length*64:=Nat.mul_le_mul_left _ hw
  omega
 split at h
 ·cases h
  exact ⟨SZ _ _,by have:=pw l 64 (by omega);omega⟩
 ·split at h
  ·cases h
   obtain ⟨_,k2,k3⟩:=NF l hl
   have h1:=OT (Hh l)
   have h2:=JB _ _ _ k3
   rw [k2] at h2
   exact ⟨YW _,by omega⟩
  ·split at h
   ·cases h
    have HQ:=Rj l
    obtain ⟨_,k2,_⟩:=Ic (DH l) (by omega)
    refine ⟨Zvo l k2,?_⟩
    have h1:=FC (l.getD 0 0)
    have h2:=FC (EH (CC l))
    have h3:=pw (DH l) _ k2
    unfold M0
    split
    ·simp
    ·split
     ·omega
     ·rw [Ae,Ae,Aj];omega
   ·split at h
    ·cases h
     have CE:=Oz l
     have D3:=OM l
     obtain ⟨_,k2,_⟩:=Ic (Cf l) (by omega)
     have h1:=FC ((BP l).length:Int)
     have h2:=Ro (BP l)
     have h3:=pw (Cf l) _ k2
     unfold Mj
     split
     ·exact ⟨fun x hx=>(by cases hx),by simp⟩
     ·refine ⟨fun x hx=>?_,by rw [Ae,Ae];omega⟩
      rcases List.mem_append.1 hx with hx | hx
      ·exact Mh _ x hx
      ·rcases List.mem_append.1 hx with hx | hx
       ·exact eA _ x hx
       ·exact SZ _ _ x hx
    ·split at h
     ·cases h
      obtain ⟨_,k2,_⟩:=Ic l hl
      have h3:=pw l _ k2
      refine ⟨fun x hx=>?_,by rw [Aj];omega⟩
      rcases List.mem_cons.1 hx with rfl | hx
      ·omega
      ·exact SZ _ _ x hx
     ·cases h
theorem Ve {o:List Dj} {n:Nat} {p:Option Int} (h:DE n p o):∀ r∈o,r.1∈Cc o:=by
 induction o generalizing n p with
 | nil=>intro r hr;cases hr
 | cons a o ih=>
  intro r hr
  obtain ⟨_,h1,_,h2⟩:=h
  rw [OJ]
  rcases List.mem_cons.1 hr with rfl | hr
  ·exact List.mem_append_left _ (List.mem_replicate.2 ⟨by omega,rfl⟩)
  ·exact List.mem_append_right _ (ih h2 r hr)
theorem Zxk {l:List Int} (hl:l.length≤65536) (B1:∀ x∈l,BY x) {code:Int} {b:List Int} (h:LL l code=some b) {s:ByteArray} (hs:Bi s=b):UT s (l.length:Int) code=some (l,0):=by
 unfold LL at h
 unfold UT
 by_cases h1:code=1
 ·rw [if_pos h1] at h
  cases h
  rw [B0 h1,Aa,Zap hl B1 hs]
  rfl
 ·rw [if_neg h1] at h
  rw [BU h1,Ac]
  by_cases h2:code=2
  ·rw [if_pos h2] at h
   cases h
   obtain ⟨_,k2,k3⟩:=NF l hl
   have:=dC (Hh l) k3 (by rw [k2];exact hl) (fun r hr=>B1 _ (by rw [← k2];exact Ve k3 r hr)) hs
   rw [k2] at this
   rw [B0 h2,Aa,this,Ad]
   dsimp only
   rw [Cu rfl,Ac,oD _ k3 (by rw [k2];exact hl),k2]
   rfl
  ·rw [if_neg h2] at h
   rw [BU h2,Ac]
   by_cases h3:code=3
   ·rw [if_pos h3] at h
    cases h
    have HQ:=Rj l
    obtain ⟨k1,k2,k3⟩:=Ic (DH l) (by omega)
    rw [B0 h3,Aa,Zok l hl B1 k1 k2 k3 hs]
    rfl
   ·rw [if_neg h3] at h
    rw [BU h3,Ac]
    by_cases h4:code=4
    ·rw [if_pos h4] at h
     cases h
     have CE:=Oz l
     obtain ⟨k1,k2,k3⟩:=Ic (Cf l) (by omega)
     rw [B0 h4,Aa,nV l hl B1 k2 k3 hs]
     rfl
    ·rw [if_neg h4] at h
     rw [BU h4,Ac]
     by_cases h5:code=5
     ·rw [if_pos h5] at h
      cases h
      obtain ⟨k1,k2,k3⟩:=Ic l hl
      have Cb:s≠eB:=fun he=>by
       have:=LH.1 he
       rw [← DN,hs,Aj] at this
       omega
      have Bu:s.size=(CK l (C2 l)).length+1:=by rw [← DN,hs,Aj]
      have hcut:Bi (cutS s 1 (Bh s))=CK l (C2 l):=Ma (a:=[(C2 l:Int)]) (rest:=CK l (C2 l)) hs
      have KB:byteAt s 0=(C2 l:Int):=Rg hs (i:=0) rfl
      rw [B0 h5,Aa,Pe Cb,Bool.not_false,Aa,Ey (by rw [C6];omega),Aa,Bf (by rw [C6];omega),Aa,KB,Hf (by omega),U6 k2 hl B1 k3.1 hcut]
      rfl
     ·rw [if_neg h5] at h
      cases h
end Go.AM.Pure
end

section
/- BlockSame. -/
namespace Go.AM.Pure
open Go.AM
theorem ox {s:ByteArray} {h:Int×Int×Int×Int} {m b:ByteArray} {l:List Cell} (hr:P1 s=some ((h,m,b,l),true)):Kj s=some (l,0)∧OC s=some (h,0)∧SS s=some (b,m,0):=by
 refine ⟨?_,?_,?_⟩
 ·unfold Kj;rw [hr];rfl
 ·unfold OC;rw [hr];rfl
 ·unfold SS;rw [hr];rfl
end Go.AM.Pure
end
