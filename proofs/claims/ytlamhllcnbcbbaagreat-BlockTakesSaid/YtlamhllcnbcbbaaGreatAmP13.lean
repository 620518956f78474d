import Derived.Test.YtlamhllcnbcbbaaGreatAmPRow67
import Derived.Test.YtlamhllcnbcbbaaGreatAmPure13
section
/- Words packed in bits: streams of bits, and what pack.Put writes. -/
namespace Go.AM.Pure
open Go.AM
def wb (x:Int) (w:Nat):List Bool:=(List.range w).map (bit x)
def strm (l:List Int) (w:Nat):List Bool:=l.flatMap fun x=>wb x w
def chop:Nat→List Bool→List Int
 | 0,_=>[]
 | n+1,s=>numOf (s.take 8) :: chop n (s.drop 8)
def packB (l:List Int) (w:Nat):List Int:=chop ((l.length*w+7) / 8) (strm l w)
theorem Zji (x:Int) (w:Nat):(wb x w).length=w:=by unfold wb;simp
theorem Zwk (w:Nat):∀ l:List Int,(strm l w).length=l.length*w
 | []=>by simp [strm]
 | x :: l=>by
  have:=Zwk w l
  unfold strm at *
  rw [List.flatMap_cons,List.length_append,this,Zji,List.length_cons,Nat.add_mul]
  omega
theorem Zvw (x:Int) (w:Nat):numOf (wb x w)=x % 2 ^ w:=Znk x w
theorem Zww (x:Bool) (a:List Bool):numOf (x :: a)=(if x then 1 else 0)+2*numOf a:=rfl
theorem Zqj (n:Nat) (s:List Bool):chop (n+1) s=numOf (s.take 8) :: chop n (s.drop 8):=rfl
theorem Zpp:∀ (a b:List Bool),numOf (a++b)=numOf a+2 ^ a.length*numOf b
 | [],b=>by simp [numOf]
 | x :: a,b=>by
  rw [List.cons_append,Zww,Zww,Zpp a b,List.length_cons,Int.pow_succ,Int.mul_add,Int.mul_comm (2 ^ a.length) 2,Int.mul_assoc]
  omega
theorem Zqh1 (x:Int) (k w:Nat) (h:k≤w):wb x w=wb x k++wb (x / 2 ^ k) (w-k):=by
 unfold wb
 apply List.ext_getElem?
 intro i
 by_cases h1:i<w
 ·by_cases h2:i<k
  ·rw [List.getElem?_append_left (by simpa using h2)]
   simp [h1,h2]
  ·rw [List.getElem?_append_right (by simp;omega)]
   simp only [List.length_map,List.length_range,List.getElem?_map]
   rw [List.getElem?_range h1,List.getElem?_range (show i-k<w-k by omega)]
   simp only [Option.map_some,Zxt]
   congr 2
   omega
 ·rw [List.getElem?_eq_none (by simp;omega),List.getElem?_eq_none (by simp;omega)]
theorem Ze11 (x:Int) {w:Nat} (h:w≤64):wb (x % 18446744073709551616) w=wb x w:=by
 unfold wb
 apply List.map_congr_left
 intro k hk
 exact Zqi x (by have:=List.mem_range.1 hk;omega)
theorem Zkq1 (x:Int):wb x 0=[]:=rfl
theorem Zch:∀ (n:Nat) (s:List Bool),(chop n s).length=n
 | 0,_=>rfl
 | n+1,s=>by unfold chop;rw [List.length_cons,Zch]
theorem Zin:∀ (n m:Nat) (a b:List Bool),a.length=8*n→chop (n+m) (a++b)=chop n a++chop m b
 | 0,m,a,b,h=>by
  have:a=[]:=List.eq_nil_of_length_eq_zero (by omega)
  subst this
  simp [chop]
 | n+1,m,a,b,h=>by
  rw [show n+1+m=(n+m)+1 by omega,Zqj,Zqj,List.take_append_of_le_length (by omega),List.drop_append_of_le_length (by omega),Zin n m _ _ (by rw [List.length_drop];omega)]
  rfl
theorem Zrh1:∀ (n:Nat) (s:List Bool),∀ b∈chop n s,0≤b∧b<256
 | 0,_,b,h=>by cases h
 | n+1,s,b,h=>by
  unfold chop at h
  rcases List.mem_cons.1 h with rfl | h
  ·have:=Zye (s.take 8)
   have h2:(2:Int) ^ (s.take 8).length≤2 ^ 8:=by
    have:(s.take 8).length≤8:=by rw [List.length_take];omega
    exact_mod_cast Nat.pow_le_pow_right (n:=2) (by omega) this
   omega
  ·exact Zrh1 n _ b h
theorem Zxk (l:List Int) (w:Nat):∀ b∈packB l w,0≤b∧b<256:=Zrh1 _ _
theorem Zpe (l:List Int) (w:Nat):(packB l w).length=(l.length*w+7) / 8:=Zch _ _
theorem Zic1 {V c:Int} {a:Nat} (h0:0≤V) (h1:V<2 ^ a) (ha:a≤64):orI .u64 V (shlI .u64 c (a:Int))=(V+c*2 ^ a) % 18446744073709551616:=by
 have hr:∀ x:Int,orI .u64 V x=orI .u64 V x % 18446744073709551616:=fun x=>by
  unfold orI
  rw [Zyd]
  omega
 rw [hr]
 apply Zej
 intro k hk
 rw [Zpq1 _ _ hk,Zc4 h0 h1]
 have hs:shlI .u64 c (a:Int)=IntKind.wrap .u64 (c*2 ^ a):=by
  unfold shlI
  have:min (a:Int).toNat (IntKind.bits .u64)=a:=by show min a 64=a;omega
  rw [this]
 rw [hs,Zzi _ hk,Zf4]
 by_cases h:k<a
 ·rw [if_pos h,decide_eq_false (by omega)];simp
 ·rw [if_neg h,decide_eq_true (by omega),Bool.true_and]
  have:bit V k=false:=Zlk h0 (by
   have:(2:Int) ^ a≤2 ^ k:=by exact_mod_cast Nat.pow_le_pow_right (n:=2) (by omega) (show a≤k by omega)
   omega)
  rw [this,Bool.false_or]
theorem Zlq1 {k:Nat} (h:k≤8):Zyp (k:Int)=some (2 ^ k-1):=by
 have:∀ k:Fin 9,Zyp (k.val:Int)=some (2 ^ k.val-1):=by decide +kernel
 exact this ⟨k,by omega⟩
theorem Zsh1 {u:Int} (h0:0≤u) (h1:u<18446744073709551616) {k:Nat} (h:k≤8):andI .u64 u (IntKind.wrap .u64 (2 ^ k-1))=u % 2 ^ k:=by
 obtain ⟨n,rfl⟩:=Int.eq_ofNat_of_zero_le h0
 have hk:(2:Nat) ^ k≤2 ^ 8:=Nat.pow_le_pow_right (by omega) h
 have hkp:0<(2:Nat) ^ k:=Nat.pow_pos (by omega)
 have e:(2:Int) ^ k-1=((2 ^ k-1:Nat):Int):=by
  rw [Int.ofNat_sub hkp]
  simp
 rw [Zyd,e]
 have e2:((2 ^ k-1:Nat):Int) % 18446744073709551616=((2 ^ k-1:Nat):Int):=by omega
 rw [e2]
 unfold andI
 rw [BitVec.toNat_and,show (BitVec.ofInt (IntKind.bits .u64) (n:Int)).toNat=n by
   show (BitVec.ofInt 64 (n:Int)).toNat=n
   rw [BitVec.toNat_ofInt]
   omega,show (BitVec.ofInt (IntKind.bits .u64) ((2 ^ k-1:Nat):Int)).toNat=2 ^ k-1 by
   show (BitVec.ofInt 64 ((2 ^ k-1:Nat):Int)).toNat=_
   rw [BitVec.toNat_ofInt]
   omega,Nat.and_two_pow_sub_one_eq_mod,Zyd]
 have:n % 2 ^ k<2 ^ k:=Nat.mod_lt _ hkp
 have e3:((n % 2 ^ k:Nat):Int)=(n:Int) % 2 ^ k:=by simp
 rw [← e3]
 omega
def Wr (A:List Bool) (out:List Int) (kept n:Int):Prop:=
 ∃ A' R:List Bool,A=A'++R∧A'.length=8*out.length∧out=chop out.length A'∧R.length<8∧n=(R.length:Int)∧kept=numOf R
theorem Zf11 {o0:Int→List Int→Int→Int→List Int→Int→Int→Option (ByteArray×Int)} {width:Int} {l:List Int} {len i:Int}:
  ∀ (left m:Nat) (A:List Bool) (out:List Int) (kept n u:Int),left≤64→left<m→Wr A out kept n→A.length+left≤100000000000→0≤u→u<18446744073709551616→
   ∃ out' kept' n',Wr (A++wb u left) out' kept' n'∧Zva.l1 o0 m width out kept n u (left:Int) l len i=o0 width out' kept' n' l len (addI .i64 i 1):=by
 intro left
 induction left using Nat.strongRecOn with
 | ind left ih=>
 intro m A out kept n u hl hm hw hA h0 h1
 obtain ⟨m,rfl⟩:∃ k,m=k+1:=⟨m-1,by omega⟩
 show ∃ out' kept' n',_∧Zva.S1 o0 (Zva.l1 o0 m) width out kept n u (left:Int) l len i=_
 unfold Zva.S1
 rcases Nat.eq_zero_or_pos left with h00 | hpos
 ·subst h00
  exact ⟨out,kept,n,by rw [Zkq1,List.append_nil];exact hw,by rw [lt_f (by omega)];rfl⟩
 ·rw [lt_t (by omega),cond_true]
  obtain ⟨A',R,hAR,hA',hout,hR,rfl,rfl⟩:=hw
  have hks:subI .i64 8 (R.length:Int)=((8-R.length:Nat):Int):=by rw [Zqb (by omega)];omega
  have hmin:minI (subI .i64 8 (R.length:Int)) (left:Int)=((min (8-R.length) left:Nat):Int):=by
   rw [hks]
   unfold minI
   split <;> omega
  rw [hmin]
  generalize hk:min (8-R.length) left=k
  have hk8:k≤8:=by omega
  have hk1:1≤k:=by omega
  have hkl:k≤left:=by omega
  rw [Zlq1 hk8,Option.bind_some,le_t (by omega),cond_true,le_t (by omega),cond_true]
  have hb:=Zye R
  have hand:=Zsh1 h0 h1 hk8
  have hor:orI .u64 (numOf R) (shlI .u64 (andI .u64 u (IntKind.wrap .u64 (2 ^ k-1))) (R.length:Int))=numOf (R++wb u k):=by
   rw [hand,Zic1 hb.1 hb.2 (by omega),Zpp,Zvw,Int.mul_comm (2 ^ R.length)]
   have h2:=Zye (R++wb u k)
   rw [Zpp,Zvw,Int.mul_comm (2 ^ R.length)] at h2
   have h3:(2:Int) ^ (R++wb u k).length≤2 ^ 8:=by
    have:(R++wb u k).length≤8:=by rw [List.length_append,Zji];omega
    exact_mod_cast Nat.pow_le_pow_right (n:=2) (by omega) this
   omega
  rw [hor]
  have hshr:shrI .u64 u (k:Int)=u / 2 ^ k:=shrU u k (by omega)
  have hsub:subI .i64 (left:Int) (k:Int)=((left-k:Nat):Int):=by rw [Zqb (by omega)];omega
  rw [hshr,hsub,Zn (a:=(R.length:Int)) (by omega)]
  have hp:=Zld k
  have hu0:0≤u / 2 ^ k:=Int.ediv_nonneg h0 (Int.le_of_lt hp)
  have hu1:u / 2 ^ k<18446744073709551616:=by
   have:=Int.ediv_le_self (2 ^ k) h0
   omega
  have hsplit:=Zqh1 u k left hkl
  by_cases h8:R.length+k=8
  ·rw [eq_t (by omega),cond_true,Zna (by
    have:A.length=A'.length+R.length:=by rw [hAR,List.length_append]
    omega),cond_true]
   have hrl:(R++wb u k).length=8:=by rw [List.length_append,Zji];omega
   have hbb:=Zye (R++wb u k)
   rw [hrl] at hbb
   have hwrap:IntKind.wrap .u8 (numOf (R++wb u k))=numOf (R++wb u k):=by rw [Zth];omega
   rw [hwrap]
   obtain ⟨out',kept',n',h2,h3⟩:=ih (left-k) (by omega) m (A++wb u k) (out++[numOf (R++wb u k)]) 0 0 (u / 2 ^ k) (by omega) (by omega)
    ⟨A'++(R++wb u k),[],by rw [hAR];simp,by simp;rw [Zji];omega,by
     rw [List.length_append,List.length_singleton,Zin _ 1 _ _ hA',← hout]
     congr 1
     rw [Zqj,List.take_of_length_le (by omega)]
     rfl,by simp,rfl,rfl⟩ (by rw [List.length_append,Zji];omega) hu0 hu1
   exact ⟨out',kept',n',by rw [hsplit,← List.append_assoc];exact h2,h3⟩
  ·rw [eq_f (by omega),cond_false]
   have hrl:(R++wb u k).length=R.length+k:=by rw [List.length_append,Zji]
   obtain ⟨out',kept',n',h2,h3⟩:=ih (left-k) (by omega) m (A++wb u k) out (numOf (R++wb u k)) ((R.length:Int)+(k:Int)) (u / 2 ^ k) (by omega) (by omega)
    ⟨A',R++wb u k,by rw [hAR,List.append_assoc],hA',hout,by omega,by omega,rfl⟩ (by rw [List.length_append,Zji];omega) hu0 hu1
   exact ⟨out',kept',n',by rw [hsplit,← List.append_assoc];exact h2,h3⟩
theorem Zss (l:List Int) (x:Int) (w:Nat):strm (l++[x]) w=strm l w++wb x w:=by unfold strm;simp
theorem Zd02 {A:List Bool} {out:List Int} {kept n:Int} (h:Wr A out kept n) (hA:A.length≤100000000000):Zva.S2 out kept n=some (ofBytes (chop ((A.length+7) / 8) A),0):=by
 obtain ⟨A',R,hAR,hA',hout,hR,rfl,rfl⟩:=h
 unfold Zva.S2
 have hl:A.length=8*out.length+R.length:=by rw [hAR,List.length_append,hA']
 rcases Nat.eq_zero_or_pos R.length with h0 | hpos
 ·rw [lt_f (by omega),cond_false]
  have:R=[]:=List.eq_nil_of_length_eq_zero h0
  subst this
  rw [List.append_nil] at hAR
  subst hAR
  rw [show (A.length+7) / 8=out.length by simp at hl;omega,← hout]
 ·rw [lt_t (by omega),cond_true,Zna (by omega),cond_true]
  have hb:=Zye R
  have h3:(2:Int) ^ R.length≤2 ^ 8:=by exact_mod_cast Nat.pow_le_pow_right (n:=2) (by omega) (show R.length≤8 by omega)
  have hwrap:IntKind.wrap .u8 (numOf R)=numOf R:=by rw [Zth];omega
  rw [hwrap,show (A.length+7) / 8=out.length+1 by omega,hAR,Zin _ 1 _ _ hA',← hout]
  congr 4
  rw [Zqj,List.take_of_length_le (by omega)]
  rfl
theorem Zg11 (l:List Int) {w:Nat} (hw:w≤64) (hl:l.length≤65536):∀ (d i m:Nat) (out:List Int) (kept n:Int),d=l.length-i→i≤l.length→d+1<m→70<m→Wr (strm (l.take i) w) out kept n→
  Zva.l0 (Zva.t2 fu) (m+d) (w:Int) out kept n l (l.length:Int) (i:Int)=some (ofBytes (packB l w),0):=by
 intro d
 induction d with
 | zero=>
  intro i m out kept n hd hi hm hm2 hwr
  have:i=l.length:=by omega
  subst this
  obtain ⟨m,rfl⟩:∃ k,m=k+1:=⟨m-1,by omega⟩
  show Zva.S0 Zva.S2 (Zva.l1 _ _) (w:Int) out kept n l (l.length:Int) (l.length:Int)=_
  unfold Zva.S0
  rw [lt_f (by omega),cond_false]
  rw [List.take_length] at hwr
  have hlen:=Zwk w l
  have hb:l.length*w≤65536*64:=Nat.mul_le_mul hl hw
  rw [Zd02 hwr (by omega),hlen]
  rfl
 | succ d ih=>
  intro i m out kept n hd hi hm hm2 hwr
  have hlt:i<l.length:=by omega
  have hb:l.length*w≤65536*64:=Nat.mul_le_mul hl hw
  show Zva.S0 (Zva.t2 fu) (Zva.l1 (Zva.l0 (Zva.t2 fu) (m+d)) (m+d)) (w:Int) out kept n l (l.length:Int) (i:Int)=_
  unfold Zva.S0
  rw [lt_t (by omega),cond_true,Zu (by rw [Zf];omega),cond_true,Zy hlt]
  have hu:=Zyd l[i]
  obtain ⟨out',kept',n',h1,h2⟩:=Zf11 (o0:=Zva.l0 (Zva.t2 fu) (m+d)) (width:=(w:Int)) (l:=l) (len:=(l.length:Int)) (i:=(i:Int)) w (m+d) _ out kept n (IntKind.wrap .u64 l[i]) hw (by omega) hwr
   (by rw [Zwk,List.length_take];have:min i l.length*w≤l.length*w:=Nat.mul_le_mul_right _ (Nat.min_le_right _ _);omega) (by omega) (by omega)
  rw [h2,Zn (by omega)]
  have:=ih (i+1) m out' kept' n' (by omega) (by omega) (by omega) hm2 (by
   rw [List.take_add_one,List.getElem?_eq_getElem hlt,Option.toList_some,Zss]
   rw [hu,Ze11 _ hw] at h1
   exact h1)
  rw [← this]
  congr 1
theorem Zey (n w:Nat) (hn:n≤65536) (hw:w≤64):Zlh (n:Int) (w:Int)=(((n*w+7) / 8:Nat):Int):=by
 unfold Zlh
 have hb:n*w≤65536*64:=Nat.mul_le_mul hn hw
 rcases Nat.eq_zero_or_pos n with h | h
 ·subst h
  rw [lt_t (by omega)]
  simp
 ·rw [lt_f (by omega),cond_false,lt_f (by omega),cond_false]
  rcases Nat.eq_zero_or_pos w with h2 | h2
  ·subst h2
   rw [lt_t (by omega)]
   simp
  ·rw [lt_f (by omega),cond_false,lt_f (by omega),cond_false]
   have e:(n:Int)*(w:Int)=((n*w:Nat):Int):=by simp
   rw [Zek (by rw [e];omega),e,Zn (by omega)]
   have:=Zzk (((n*w:Nat):Int)+7) 3 (by omega)
   rw [show ((3:Nat):Int)=3 from rfl] at this
   rw [this]
   omega
theorem Zim (l:List Int) {w:Nat} (hw:w≤64) (hl:l.length≤65536) {v:Nat} (hv:Zxb l=some (v:Int)) (hvw:v≤w):Zva l (w:Int)=some (ofBytes (packB l w),0):=by
 show Zva.S (Zva.l0 (Zva.t2 fu) fu) l (w:Int)=_
 unfold Zva.S
 rw [lt_f (by omega),cond_false,lt_f (by omega),cond_false,Zf,lt_f (by omega),cond_false,hv,Option.bind_some,lt_f (by omega),cond_false,Zey _ _ hl hw]
 have hb:l.length*w≤65536*64:=Nat.mul_le_mul hl hw
 dsimp only
 rw [Zn (by omega),le_t (by omega),Zna (by omega)]
 show Zva.l0 (Zva.t2 fu) fu (w:Int) [] 0 0 l (l.length:Int) 0=_
 have:=Zg11 l hw hl l.length 0 (fu-l.length) [] 0 0 (by omega) (by omega) (by unfold fu;omega) (by unfold fu;omega) ⟨[],[],rfl,rfl,rfl,by decide,rfl,rfl⟩
 rw [show fu-l.length+l.length=fu by unfold fu;omega] at this
 exact this
end Go.AM.Pure
end

section
/- pack.Width, pack.word, pack.Take. -/
namespace Go.AM.Pure
open Go.AM
theorem Znh1 (u:Int) (v k:Nat) (_:0≤u):bit (u % 2 ^ v) k=(decide (k<v) && bit u k):=by
 obtain ⟨n,rfl⟩:=Int.eq_ofNat_of_zero_le ‹0≤u›
 have e:((n:Int) % 2 ^ v)=((n % 2 ^ v:Nat):Int):=by simp
 rw [e,Zxq,Zxq,Nat.testBit_mod_two_pow]
theorem Zp8 {u:Int} (h0:0≤u) (h1:u<18446744073709551616) {v:Nat} (h:∀ k,v≤k→k<64→bit u k=false):u<2 ^ v:=by
 have hp:=Zld v
 have h2:=Int.emod_lt_of_pos u hp
 have h3:=Int.emod_nonneg u (Int.ne_of_gt hp)
 have h4:u % 18446744073709551616=(u % 2 ^ v) % 18446744073709551616:=Zej fun k hk=>by
  rw [Znh1 u v k h0]
  by_cases hkv:k<v
  ·rw [decide_eq_true hkv,Bool.true_and]
  ·rw [h k (by omega) hk,decide_eq_false hkv];rfl
 have h5:u % 2 ^ v≤u:=by
  have h6:=Int.mul_ediv_add_emod u (2 ^ v)
  have h7:0≤2 ^ v*(u / 2 ^ v):=Int.mul_nonneg (Int.le_of_lt hp) (Int.ediv_nonneg h0 (Int.le_of_lt hp))
  omega
 omega
def Wd (l:List Int) (v:Nat):Prop:=(∀ x∈l,x % 18446744073709551616<2 ^ v)∧(v=0∨∃ x∈l,2 ^ (v-1)≤x % 18446744073709551616)
theorem Wd.unique {l:List Int} {v w:Nat} (h1:Wd l v) (h2:Wd l w):v=w:=by
 have key:∀ {v w:Nat},Wd l v→Wd l w→v≤w:=fun {v w} h1 h2=>by
  rcases h1.2 with h | ⟨x,hx,hle⟩
  ·omega
  ·have:=h2.1 x hx
   have h3:(2:Int) ^ (v-1)<2 ^ w:=by omega
   have:=Zzn h3
   omega
 exact Nat.le_antisymm (key h1 h2) (key h2 h1)
def Ztt (l:List Int) (k:Nat):Bool:=l.any fun x=>bit x k
theorem Zoh1 (a b:Int) {k:Nat} (hk:k<64):bit (orI .i64 a b) k=(bit a k || bit b k):=by
 unfold orI
 rw [Zqr _ hk]
 show bit ((BitVec.ofInt 64 a ||| BitVec.ofInt 64 b).toNat:Int) k=_
 rw [Zxq,BitVec.toNat_or,Nat.testBit_or,Zyq _ hk,Zyq _ hk]
theorem Zyv1 (l:List Int) (hl:l.length<4611686018427387904):∀ (d i n:Nat) (all:Int),d=l.length-i→i≤l.length→d<n→(∀ k,k<64→bit all k=Ztt (l.take i) k)→
  ∃ all',(∀ k,k<64→bit all' k=Ztt l k)∧Zxb.l0 n all l (l.length:Int) (i:Int)=(Znc all').bind fun r=>some r:=by
 intro d
 induction d with
 | zero=>
  intro i n all hd hi hn ha
  have:i=l.length:=by omega
  subst this
  obtain ⟨n,rfl⟩:∃ k,n=k+1:=⟨n-1,by omega⟩
  refine ⟨all,by rw [List.take_length] at ha;exact ha,?_⟩
  show Zxb.S0 _ _ _ _ _=_
  unfold Zxb.S0
  rw [lt_f (by omega)]
  rfl
 | succ d ih=>
  intro i n all hd hi hn ha
  obtain ⟨n,rfl⟩:∃ k,n=k+1:=⟨n-1,by omega⟩
  have hlt:i<l.length:=by omega
  show ∃ all',_∧Zxb.S0 (Zxb.l0 n) all l (l.length:Int) (i:Int)=_
  unfold Zxb.S0
  rw [lt_t (by omega),cond_true,Zu (by rw [Zf];omega),cond_true,Zy hlt,Zn (by omega)]
  exact ih (i+1) n _ (by omega) (by omega) (by omega) fun k hk=>by
   rw [Zoh1 _ _ hk,ha k hk,List.take_add_one,List.getElem?_eq_getElem hlt,Option.toList_some]
   unfold Ztt
   rw [List.any_append]
   simp
theorem Zsh (l:List Int) (hl:l.length<4611686018427387904):∃ v:Nat,Zxb l=some (v:Int)∧v≤64∧Wd l v:=by
 obtain ⟨all,hb,he⟩:=Zyv1 l hl l.length 0 fu 0 (by omega) (by omega) (by unfold fu;omega) fun k _=>by rw [Zi7];rfl
 obtain ⟨v,h1,h2,h3⟩:=Zfy (z:=all) rfl
 refine ⟨v,?_,h2,?_⟩
 ·show Zxb.l0 fu 0 l (l.length:Int) 0=_
  have he':Zxb.l0 fu 0 l (l.length:Int) ((0:Nat):Int)=_:=he
  rw [h1] at he'
  exact he'
 have hab:∀ k,k<64→bit (all % 18446744073709551616) k=Ztt l k:=fun k hk=>by rw [Zqi _ hk];exact hb k hk
 constructor
 ·intro x hx
  refine Zp8 (by omega) (by omega) fun k h4 h5=>?_
  rw [Zqi _ h5]
  have h6:all % 18446744073709551616<2 ^ v:=by
   rcases h3 with ⟨h3,rfl⟩ | ⟨_,_,h3⟩
   ·rw [h3];decide
   ·exact h3
  have h7:bit (all % 18446744073709551616) k=false:=Zlk (by omega) (by
   have:(2:Int) ^ v≤2 ^ k:=by exact_mod_cast Nat.pow_le_pow_right (n:=2) (by omega) h4
   omega)
  rw [hab k h5] at h7
  unfold Ztt at h7
  have:=List.any_eq_false.1 h7 x hx
  simpa using this
 ·rcases h3 with ⟨_,rfl⟩ | ⟨h4,h5,h6⟩
  ·exact .inl rfl
  ·right
   -- the highest bit is one of some word's
   have hbit:bit (all % 18446744073709551616) (v-1)=true:=by
    cases hq:bit (all % 18446744073709551616) (v-1) with
    | true=>rfl
    | false=>
     have:=Zp8 (u:=all % 18446744073709551616) (v:=v-1) (by omega) (by omega) fun k h7 h8=>by
      by_cases hk:k=v-1
      ·rw [hk];exact hq
      ·exact Zlk (by omega) (by
        have:(2:Int) ^ v≤2 ^ k:=by exact_mod_cast Nat.pow_le_pow_right (n:=2) (by omega) (show v≤k by omega)
        omega)
     omega
   rw [hab _ (by omega)] at hbit
   unfold Ztt at hbit
   obtain ⟨x,hx,hxb⟩:=List.any_eq_true.1 hbit
   refine ⟨x,hx,?_⟩
   rcases Int.lt_or_le (x % 18446744073709551616) (2 ^ (v-1)) with h7 | h7
   ·have:=Zlk (by omega) h7
    rw [Zqi _ (by omega)] at this
    rw [this] at hxb
    cases hxb
   ·exact h7
def sb (s:ByteArray) (p:Nat):Bool:=bit (byteAt s ((p / 8:Nat):Int)) (p % 8)
theorem and7 {a:Nat} (h:a<9223372036854775808):andI .i64 (a:Int) 7=((a % 8:Nat):Int):=by
 unfold andI
 show IntKind.wrap .i64 ((BitVec.ofInt 64 (a:Int) &&& BitVec.ofInt 64 7).toNat:Int)=_
 rw [BitVec.toNat_and,show (BitVec.ofInt 64 7).toNat=2 ^ 3-1 from rfl,Nat.and_two_pow_sub_one_eq_mod,show (BitVec.ofInt 64 (a:Int)).toNat=a by rw [BitVec.toNat_ofInt];omega,Zph]
 omega
theorem shr3 (a:Nat):shrI .i64 (a:Int) 3=((a / 8:Nat):Int):=by
 have:=Zzk (a:Int) 3 (by omega)
 rw [show ((3:Nat):Int)=3 from rfl] at this
 rw [this]
 omega
theorem Zee1 {f:Nat→Bool} (a b:Nat):(List.range (a+b)).map f=(List.range a).map f++(List.range b).map fun i=>f (a+i):=by
 rw [List.range_add,List.map_append,List.map_map]
 rfl
theorem Zzv1 (s:ByteArray) {w:Nat} (hw:w≤64) (base:Nat) (hb:base<1000000000000) (hfit:base+w≤8*s.size):∀ (d got n:Nat),d=w-got→got≤w→d<n→
  Zre.l0 n s (w:Int) (numOf ((List.range got).map fun i=>sb s (base+i))) ((base+got:Nat):Int) (got:Int)=some (IntKind.wrap .i64 (numOf ((List.range w).map fun i=>sb s (base+i)))):=by
 intro d
 induction d using Nat.strongRecOn with
 | ind d ih=>
 intro got n hd hg hn
 obtain ⟨n,rfl⟩:∃ k,n=k+1:=⟨n-1,by omega⟩
 show Zre.S0 (Zre.l0 n) s _ _ _ _=_
 unfold Zre.S0
 by_cases hgw:got=w
 ·subst hgw
  rw [lt_f (by omega)]
  rfl
 ·rw [lt_t (by omega),cond_true,shr3,Zu (by rw [Zma];omega),cond_true,and7 (by omega),le_t (by omega),cond_true]
  have hsub8:subI .i64 8 (((base+got) % 8:Nat):Int)=((8-(base+got) % 8:Nat):Int):=by rw [Zqb (by omega)];omega
  have hsubw:subI .i64 (w:Int) (got:Int)=((w-got:Nat):Int):=by rw [Zqb (by omega)];omega
  have hmin:minI (subI .i64 8 (((base+got) % 8:Nat):Int)) (subI .i64 (w:Int) (got:Int))=((min (8-(base+got) % 8) (w-got):Nat):Int):=by
   rw [hsub8,hsubw]
   unfold minI
   split <;> omega
  rw [hmin]
  generalize hk:min (8-(base+got) % 8) (w-got)=k
  have hk8:k≤8:=by omega
  rw [Zlq1 hk8,Option.bind_some,le_t (by omega),cond_true]
  have hby:=Zee s (((base+got) / 8:Nat):Int)
  have hwr:IntKind.wrap .u64 (byteAt s (((base+got) / 8:Nat):Int))=byteAt s (((base+got) / 8:Nat):Int):=by rw [Zyd];omega
  have hp:=Zld ((base+got) % 8)
  rw [hwr,shrU _ _ (by omega)]
  have hq0:0≤byteAt s (((base+got) / 8:Nat):Int) / 2 ^ ((base+got) % 8):=Int.ediv_nonneg hby.1 (Int.le_of_lt hp)
  have hq1:byteAt s (((base+got) / 8:Nat):Int) / 2 ^ ((base+got) % 8)<18446744073709551616:=by
   have:=Int.ediv_le_self (2 ^ ((base+got) % 8)) hby.1
   omega
  have hnb:=Zye ((List.range got).map fun i=>sb s (base+i))
  rw [List.length_map,List.length_range] at hnb
  rw [Zsh1 hq0 hq1 hk8,Zic1 hnb.1 hnb.2 (by omega),Zn (by omega),Zn (by omega)]
  have hpart:byteAt s (((base+got) / 8:Nat):Int) / 2 ^ ((base+got) % 8) % 2 ^ k=numOf ((List.range k).map fun i=>sb s (base+(got+i))):=by
   rw [← Znk]
   congr 1
   apply List.map_congr_left
   intro i hi
   have hi:=List.mem_range.1 hi
   rw [Zxt]
   unfold sb
   rw [show (base+(got+i)) / 8=(base+got) / 8 by omega,show (base+(got+i)) % 8=(base+got) % 8+i by omega]
  have hnext:numOf ((List.range (got+k)).map fun i=>sb s (base+i))=numOf ((List.range got).map fun i=>sb s (base+i))+byteAt s (((base+got) / 8:Nat):Int) / 2 ^ ((base+got) % 8) % 2 ^ k*2 ^ got:=by
   rw [Zee1,Zpp,List.length_map,List.length_range,hpart,Int.mul_comm (2 ^ got)]
  rw [← hnext]
  have hnb2:=Zye ((List.range (got+k)).map fun i=>sb s (base+i))
  rw [List.length_map,List.length_range] at hnb2
  have h64:(2:Int) ^ (got+k)≤2 ^ 64:=by exact_mod_cast Nat.pow_le_pow_right (n:=2) (by omega) (show got+k≤64 by omega)
  rw [← pow64] at h64
  rw [Int.emod_eq_of_lt hnb2.1 (by omega)]
  have:=ih (w-(got+k)) (by omega) (got+k) n rfl (by omega) (by omega)
  rw [show ((base+got:Nat):Int)+(k:Int)=((base+(got+k):Nat):Int) by omega,show (got:Int)+(k:Int)=((got+k:Nat):Int) by omega]
  exact this
def wordS (s:ByteArray) (k w:Nat):Int:=IntKind.wrap .i64 (numOf ((List.range w).map fun i=>sb s (k*w+i)))
theorem Zph1 (s:ByteArray) {k w:Nat} (hw:w≤64) (hk:k≤65536) (hfit:(k+1)*w≤8*s.size):Zre s (k:Int) (w:Int)=some (wordS s k w):=by
 show Zre.S (Zre.l0 fu) s _ _=_
 unfold Zre.S
 have hb:k*w≤65536*64:=Nat.mul_le_mul hk hw
 have e:(k:Int)*(w:Int)=((k*w:Nat):Int):=by simp
 rw [Zek (by rw [e];omega),e]
 rw [Nat.add_mul] at hfit
 exact Zzv1 s hw (k*w) (by omega) (by omega) w 0 fu (by omega) (by omega) (by unfold fu;omega)
theorem Zc02 (s:ByteArray) {w n:Nat} (hw:w≤64) (hn:n≤65536) (hfit:n*w≤8*s.size):∀ (d i m:Nat),d=n-i→i≤n→d<m→
  Zab.l1 m s (w:Int) (n:Int) (i:Int) ((List.range i).map (fun k=>wordS s k w)++List.replicate (n-i) (0:Int))=some ((List.range n).map (fun k=>wordS s k w),0):=by
 intro d
 induction d with
 | zero=>
  intro i m hd hi hm
  have:i=n:=by omega
  subst this
  obtain ⟨m,rfl⟩:∃ k,m=k+1:=⟨m-1,by omega⟩
  show Zab.S1 _ _ _ _ _ _=_
  unfold Zab.S1
  rw [lt_f (by omega),cond_false,Nat.sub_self,List.replicate_zero,List.append_nil]
 | succ d ih=>
  intro i m hd hi hm
  obtain ⟨m,rfl⟩:∃ k,m=k+1:=⟨m-1,by omega⟩
  show Zab.S1 (Zab.l1 m) _ _ _ _ _=_
  unfold Zab.S1
  have hf:(i+1)*w≤n*w:=Nat.mul_le_mul_right _ (by omega)
  rw [lt_t (by omega),cond_true,Zph1 s hw (by omega) (by omega),Option.bind_some,Zu (by rw [Zf];simp;omega),cond_true,Zn (by omega)]
  have:=ih (i+1) m (by omega) (by omega) (by omega)
  rw [show (i:Int)+1=((i+1:Nat):Int) by omega,← this]
  congr 1
  rw [show ((i:Int)).toNat=i from rfl,List.set_append_right _ _ (by simp),List.length_map,List.length_range,Nat.sub_self,show n-i=(n-(i+1))+1 by omega,List.replicate_succ,List.set_cons_zero,List.range_succ,List.map_append,
   List.append_assoc]
  rfl
theorem Zor (s:ByteArray) {w n:Nat} (hw:w≤64) (hn:n≤65536):Zab s (n:Int) (w:Int) =
  some (if s.size=(n*w+7) / 8 then (if n*w % 8=0∨byteAt s ((s.size-1:Nat):Int)<2 ^ (n*w % 8) then ((List.range n).map (fun k=>wordS s k w),0) else ([],20)) else ([],20)):=by
 show Zab.S (Zab.t0 fu) s _ _=_
 unfold Zab.S
 have hb:n*w≤65536*64:=Nat.mul_le_mul hn hw
 have e:(n:Int)*(w:Int)=((n*w:Nat):Int):=by simp
 rw [lt_f (by omega),cond_false,lt_f (by omega),cond_false,lt_f (by omega),cond_false,lt_f (by omega),cond_false,Zey _ _ hn hw,Zma]
 by_cases hs:s.size=(n*w+7) / 8
 ·rw [ne_f (by omega),cond_false,if_pos hs,Zek (by rw [e];omega),e,and7 (by omega)]
  have hj:n*w≤8*s.size→Zab.t0 fu s (n:Int) (w:Int)=some ((List.range n).map (fun k=>wordS s k w),0):=fun hf=>by
   show Zab.S0 (Zab.l1 _) s (n:Int) (w:Int)=_
   unfold Zab.S0
   rw [le_t (by omega),Zna (by omega)]
   have:=Zc02 s hw hn hf n 0 18446744073709551615 (by omega) (by omega) (by omega)
   rw [Nat.sub_zero] at this
   exact this
  rcases Nat.eq_zero_or_pos (n*w % 8) with h0 | hpos
  ·rw [lt_f (by omega),cond_false,if_pos (.inl h0)]
   exact hj (by omega)
  ·rw [lt_t (by omega),cond_true,Zqb (by omega),Zu (by omega),cond_true,le_t (by omega),cond_true]
   have hsz:((s.size:Nat):Int)-1=((s.size-1:Nat):Int):=by omega
   have hby:=Zee s ((s.size-1:Nat):Int)
   have hshr:shrI .u8 (byteAt s ((s.size-1:Nat):Int)) ((n*w % 8:Nat):Int)=byteAt s ((s.size-1:Nat):Int) / 2 ^ (n*w % 8):=by
    unfold shrI
    have:min ((n*w % 8:Nat):Int).toNat (IntKind.bits .u8)=n*w % 8:=by show min (n*w % 8) 8=_;omega
    rw [this,Int.fdiv_eq_ediv_of_nonneg]
    exact Int.le_of_lt (Zld _)
   have hp:=Zld (n*w % 8)
   rw [hsz,hshr]
   by_cases hlt:byteAt s ((s.size-1:Nat):Int)<2 ^ (n*w % 8)
   ·rw [Int.ediv_eq_zero_of_lt hby.1 hlt,lt_f (by omega),cond_false,if_pos (.inr hlt)]
    exact hj (by omega)
   ·have h1:1≤byteAt s ((s.size-1:Nat):Int) / 2 ^ (n*w % 8):=(Int.le_ediv_iff_mul_le hp).2 (by omega)
    rw [lt_t (by omega),cond_true,if_neg (by omega)]
 ·rw [ne_t (by omega),cond_true,if_neg hs]
end Go.AM.Pure
end

section
/- What was packed is taken as it was. -/
namespace Go.AM.Pure
open Go.AM
theorem Zdz:∀ (l:List Bool) (k:Nat),bit (numOf l) k=l.getD k false
 | [],k=>by show bit 0 k=_;rw [Zi7];rfl
 | b :: l,k=>by
  rw [Zww]
  have h:=Zc4 (V:=if b then 1 else 0) (c:=numOf l) (a:=1) (by cases b <;> decide) (by cases b <;> decide) k
  rw [show (2:Int)*numOf l=numOf l*2 ^ 1 by rw [Int.pow_succ,Int.pow_zero];omega,h]
  cases k with
  | zero=>cases b <;> rfl
  | succ k=>rw [if_neg (by omega),show k+1-1=k by omega,Zdz l k];rfl
theorem Zhn:∀ (n:Nat) (s:List Bool) (j:Nat),j<n→(chop n s)[j]? = some (numOf ((s.drop (8*j)).take 8))
 | 0,_,_,h=>by omega
 | n+1,s,0,_=>by rw [Zqj];rfl
 | n+1,s,j+1,h=>by
  rw [Zqj,List.getElem?_cons_succ,Zhn n _ j (by omega),List.drop_drop]
  congr 4
  omega
theorem Ze7 {w:Nat}:∀ (l:List Int) (k i:Nat) (h:k<l.length),i<w→(strm l w)[k*w+i]? = some (bit l[k] i)
 | [],_,_,h,_=>by simp at h
 | x :: l,0,i,_,hi=>by
  unfold strm
  rw [List.flatMap_cons,Nat.zero_mul,Nat.zero_add,List.getElem?_append_left (by rw [Zji];exact hi)]
  unfold wb
  simp [hi]
 | x :: l,k+1,i,h,hi=>by
  have:=Ze7 l k i (by simpa using h) hi
  unfold strm at this ⊢
  rw [List.flatMap_cons,List.getElem?_append_right (by rw [Zji,Nat.add_mul];omega),Zji,show (k+1)*w+i-w=k*w+i by rw [Nat.add_mul];omega]
  simpa using this
theorem Zd11 {l:List Int} {w:Nat} {s:ByteArray} (hs:Zk s=packB l w) {p:Nat} (hp:p<l.length*w):sb s p=(strm l w).getD p false:=by
 unfold sb
 have hj:p / 8<(l.length*w+7) / 8:=by omega
 have hsz:s.size=(l.length*w+7) / 8:=by rw [← Zha,hs,Zpe]
 have h1:=Zbf s (p / 8) (by omega)
 rw [hs] at h1
 unfold packB at h1
 rw [Zhn _ _ _ hj] at h1
 rw [← Option.some.inj h1,Zdz,List.getD_eq_getElem?_getD,List.getD_eq_getElem?_getD,List.getElem?_take,if_pos (by omega),List.getElem?_drop]
 congr 2
 omega
theorem wrap_small {x:Int} (h:in64 x) {w:Nat} (hw:w≤64) (hx:x % 18446744073709551616<2 ^ w):IntKind.wrap .i64 (x % 2 ^ w)=x:=by
 have h1:x % 2 ^ w=x % 18446744073709551616:=by
  have hd:=Int.emod_emod_of_dvd x (Zwt hw)
  rw [← pow64] at hd
  rw [← hd]
  exact Int.emod_eq_of_lt (by omega) hx
 rw [h1,Zyi,Zxg h]
theorem Zy5 {l:List Int} {w:Nat} (hw:w≤64) {s:ByteArray} (hs:Zk s=packB l w) (h64:∀ x∈l,in64 x) (hv:∀ x∈l,x % 18446744073709551616<2 ^ w) {k:Nat} (hk:k<l.length):wordS s k w=l[k]:=by
 unfold wordS
 have hmem:l[k]∈l:=List.getElem_mem hk
 have:(List.range w).map (fun i=>sb s (k*w+i))=wb l[k] w:=by
  unfold wb
  apply List.map_congr_left
  intro i hi
  have hi:=List.mem_range.1 hi
  have hle:(k+1)*w≤l.length*w:=Nat.mul_le_mul_right _ hk
  rw [Nat.add_mul] at hle
  rw [Zd11 hs (by omega),List.getD_eq_getElem?_getD,Ze7 l k i hk hi]
  rfl
 rw [this,Zvw,wrap_small (h64 _ hmem) hw (hv _ hmem)]
theorem Zvk {l:List Int} {w:Nat} (hw:w≤64) (hl:l.length≤65536) (h64:∀ x∈l,in64 x) (hv:∀ x∈l,x % 18446744073709551616<2 ^ w) {s:ByteArray} (hs:Zk s=packB l w):
  Zab s (l.length:Int) (w:Int)=some (l,0):=by
 have hsz:s.size=(l.length*w+7) / 8:=by rw [← Zha,hs,Zpe]
 have hlast:l.length*w % 8=0∨byteAt s ((s.size-1:Nat):Int)<2 ^ (l.length*w % 8):=by
  rcases Nat.eq_zero_or_pos (l.length*w % 8) with h | h
  ·exact .inl h
  ·right
   have h1:=Zbf s (s.size-1) (by omega)
   rw [hs] at h1
   unfold packB at h1
   rw [Zhn _ _ _ (by omega)] at h1
   rw [← Option.some.inj h1]
   have hb:=Zye (((strm l w).drop (8*(s.size-1))).take 8)
   have hlen:(((strm l w).drop (8*(s.size-1))).take 8).length=l.length*w % 8:=by
    rw [List.length_take,List.length_drop,Zwk]
    omega
   rw [hlen] at hb
   exact hb.2
 rw [Zor s hw hl,if_pos hsz,if_pos hlast]
 congr 2
 apply List.ext_getElem
 ·simp
 ·intro i h1 h2
  rw [List.getElem_map,List.getElem_range]
  exact Zy5 hw hs h64 hv h2
theorem Zkp1 (l:List Int) (w:Nat):Zk (ofBytes (packB l w))=packB l w:=Zwc (Zxk l w)
end Go.AM.Pure
end

section
/- nulls: a mask and the other cells; put together again. -/
namespace Go.AM.Pure
open Go.AM
abbrev isN (c:Cell):Bool:=Zbi c
def restC (l:List Cell):List Cell:=l.filter fun c=>!isN c
def nbits (l:List Cell):List Int:=l.map fun c=>if isN c then 1 else 0
def maskL (l:List Cell):List Int:=if l.any isN then packB (nbits l) 1 else []
theorem Zkk {α:Type} {c:Bool} {m:Option α} {k:α→Bool} {x:α} (hc:c=true) (hm:m=some x) (hk:k x=true):Zrp c m k=some x:=by
 unfold Zrp
 rw [hc,hm]
 show (bif k x then some x else none)=_
 rw [hk]
 rfl
theorem Zmh1 {α:Type} {l:List α} {i:Nat} (h:i<l.length) (z:α):List.getD l ((i:Int)).toNat z=l[i]:=by
 rw [show ((i:Int)).toNat=i from rfl,List.getD_eq_getElem?_getD,List.getElem?_eq_getElem h]
 rfl
theorem Znc3 (l:List Cell) (hl:l.length<4611686018427387904) (h0:0<l.length):∀ (d i n:Nat),d=l.length-i→i≤l.length→d<n→(∀ j (h:j<l.length),j<i→isN l[j]=false)→
  ∃ r,Zm.l0 n (l.length:Int) (i:Int) l=some (r,l)∧
   ((r = -1∧∀ j (h:j<l.length),isN l[j]=false)∨∃ k:Nat,r=(k:Int)∧∃ h:k<l.length,isN l[k]=true∧∀ j (h:j<l.length),j<k→isN l[j]=false):=by
 intro d
 induction d with
 | zero=>
  intro i n hd hi hn ha
  have:i=l.length:=by omega
  subst this
  obtain ⟨n,rfl⟩:∃ k,n=k+1:=⟨n-1,by omega⟩
  refine ⟨-1,?_, .inl ⟨rfl,fun j h=>ha j h h⟩⟩
  show Zm.S0 _ _ _ _=_
  unfold Zm.S0
  rw [lt_f (by omega),cond_false,decide_eq_true h0,cond_true]
 | succ d ih=>
  intro i n hd hi hn ha
  obtain ⟨n,rfl⟩:∃ k,n=k+1:=⟨n-1,by omega⟩
  have hlt:i<l.length:=by omega
  have hS:Zm.l0 (n+1) (l.length:Int) (i:Int) l=(bif isN l[i] then some ((i:Int),l) else Zm.l0 n (l.length:Int) ((i+1:Nat):Int) l):=by
   show Zm.S0 _ _ _ _=_
   unfold Zm.S0
   rw [lt_t (by omega),cond_true,Zu (by rw [Zf];omega),cond_true,Zmh1 hlt,decide_eq_true h0,cond_true,Zn (by omega)]
   rfl
  rw [hS]
  cases hq:isN l[i] with
  | true=>exact ⟨(i:Int),rfl, .inr ⟨i,rfl,hlt,hq,ha⟩⟩
  | false=>
   obtain ⟨r,h1,h2⟩:=ih (i+1) n (by omega) (by omega) (by omega) fun j h hj=>by
    by_cases hji:j=i
    ·subst hji;exact hq
    ·exact ha j h (by omega)
   exact ⟨r,h1,h2⟩
theorem Ztq (l:List Cell) (c:Cell):restC (l++[c])=restC l++(if isN c then [] else [c]):=by
 unfold restC
 rw [List.filter_append]
 cases h:isN c <;> simp [h]
theorem Zag (l:List Cell):(restC l).length≤l.length:=List.length_filter_le _ _
theorem take_one {α:Type} {l:List α} {i:Nat} (h:i<l.length):l.take (i+1)=l.take i++[l[i]]:=by
 rw [List.take_add_one,List.getElem?_eq_getElem h]
 rfl
theorem Zjk2 (L:List Cell) (hL:L.length<4611686018427387904) (h0:0<L.length):∀ (d j n:Nat) (t:List Cell),d=L.length-j→j≤L.length→d<n→t.length=L.length→t.take (restC (L.take j)).length=restC (L.take j)→t.drop j=L.drop j→
  ∃ t',Zc.l0 (Zc.t1 fu) n ((restC (L.take j)).length:Int) (j:Int) t=some (((restC L).length:Int),t')∧t'.length=L.length∧t'.take (restC L).length=restC L:=by
 intro d
 induction d with
 | zero=>
  intro j n t hd hj hn ht h1 h2
  have:j=L.length:=by omega
  subst this
  obtain ⟨n,rfl⟩:∃ k,n=k+1:=⟨n-1,by omega⟩
  rw [List.take_length] at h1 ⊢
  have hle:=Zag L
  have hrep:((Int.toNat (lenL t))-(Int.toNat ((restC L).length:Int)))=L.length-(restC L).length:=by rw [Zf,ht];rfl
  refine ⟨splA t (restC L).length (List.replicate (L.length-(restC L).length) ((0:Int),((0:Int),eB))),?_,?_,?_⟩
  ·show Zc.S0 Zc.S1 _ _ _ _=_
   unfold Zc.S0
   rw [lt_f (by rw [Zf];omega),cond_false]
   unfold Zc.S1
   rw [hrep,show Int.toNat ((restC L).length:Int)=(restC L).length from rfl,Zzb (by rw [Zf];omega),cond_true]
   have hlen:(splA t (restC L).length (List.replicate (L.length-(restC L).length) ((0:Int),((0:Int),eB)))).length=L.length:=by
    unfold splA
    simp
    omega
   rw [Zzb (by rw [Zf,hlen];omega),cond_true,hlen,decide_eq_true h0,cond_true,Nat.sub_zero]
  ·unfold splA;simp;omega
  ·unfold splA
   rw [List.take_append_of_le_length (by rw [List.length_take];omega),List.take_take,Nat.min_self,h1]
 | succ d ih=>
  intro j n t hd hj hn ht h1 h2
  obtain ⟨n,rfl⟩:∃ k,n=k+1:=⟨n-1,by omega⟩
  have hlt:j<L.length:=by omega
  have hle:=Zag (L.take j)
  rw [List.length_take] at hle
  have htj:t[j]'(by omega)=L[j]:=by
   have:(t.drop j)[0]? = (L.drop j)[0]?:=by rw [h2]
   rw [List.getElem?_drop,List.getElem?_drop,Nat.add_zero,List.getElem?_eq_getElem (show j<t.length by omega),List.getElem?_eq_getElem hlt] at this
   exact Option.some.inj this
  show ∃ t',Zc.S0 _ _ _ _ _=_∧_
  unfold Zc.S0
  rw [lt_t (by rw [Zf];omega),cond_true,Zu (by rw [Zf];omega),cond_true,Zmh1 (show j<t.length by omega),htj]
  have hsn:=Ztq (L.take j) L[j]
  rw [← take_one hlt] at hsn
  cases hq:isN L[j] with
  | true=>
   rw [show Zfk L[j]=true from hq,Bool.not_true,cond_false,Zn (by omega)]
   rw [hq,if_pos rfl,List.append_nil] at hsn
   have:=ih (j+1) n t (by omega) (by omega) (by omega) ht (by rw [hsn];exact h1) (by rw [← List.drop_drop,← List.drop_drop,h2])
   rw [hsn] at this
   exact this
  | false=>
   rw [show Zfk L[j]=false from hq,Bool.not_false,cond_true,Zu (by rw [Zf];omega),cond_true,Zn (by omega),Zn (by omega),show Int.toNat ((restC (L.take j)).length:Int)=(restC (L.take j)).length from rfl]
   rw [hq,if_neg (by decide)] at hsn
   have:=ih (j+1) n (t.set (restC (L.take j)).length L[j]) (by omega) (by omega) (by omega) (by rw [List.length_set];exact ht) (by
    rw [hsn,List.length_append,List.length_singleton,take_one (by rw [List.length_set];omega),List.take_set_of_le (Nat.le_refl _),h1,List.getElem_set_self])
    (by rw [List.drop_set_of_lt (by omega),← List.drop_drop,← List.drop_drop,h2])
   rw [hsn,List.length_append,List.length_singleton] at this
   exact this
theorem del_eq (L:List Cell) (hL:L.length<4611686018427387904) (h0:0<L.length):
  ∃ t',Zc L=some (((restC L).length:Int),t')∧t'.length=L.length∧t'.take (restC L).length=restC L:=by
 show ∃ t',Zc.S (Zc.l0 (Zc.t1 fu) fu) L=_∧_
 unfold Zc.S
 obtain ⟨r,h1,h2⟩:=Znc3 L hL h0 L.length 0 fu (by omega) (by omega) (by unfold fu;omega) fun j h hj=>by omega
 have h1':Zm L=some (r,L):=h1
 rw [Zkk (x:=(r,L)) (by rw [decide_eq_true h0];rfl) h1' (by simp),Option.bind_some]
 dsimp only
 have hall:∀ k,(∀ j (h:j<L.length),j<k→isN L[j]=false)→restC (L.take k)=L.take k:=fun k hk=>by
  unfold restC
  rw [List.filter_eq_self]
  intro c hc
  obtain ⟨i,hi,rfl⟩:=List.mem_iff_getElem.1 hc
  rw [List.length_take] at hi
  rw [List.getElem_take,hk i (by omega) (by omega)]
  rfl
 rcases h2 with ⟨rfl,h2⟩ | ⟨k,rfl,hk,hq,h2⟩
 ·have:restC L=L:=by
   have:=hall L.length fun j h _=>h2 j h
   rwa [List.take_length] at this
  rw [eq_t rfl,cond_true,decide_eq_true h0,cond_true]
  exact ⟨L,by rw [this,Zf],rfl,by rw [this,List.take_length]⟩
 ·rw [eq_f (by omega),cond_false,Zn (by omega)]
  have hrk:=hall k h2
  have hsn:=Ztq (L.take k) L[k]
  rw [← take_one hk,hq,if_pos rfl,List.append_nil,hrk] at hsn
  have:=Zjk2 L hL h0 (L.length-(k+1)) (k+1) fu L rfl (by omega) (by unfold fu;omega) rfl (by rw [hsn,List.length_take,Nat.min_eq_left (Nat.le_of_lt hk)]) rfl
  rw [hsn,List.length_take,Nat.min_eq_left (Nat.le_of_lt hk)] at this
  exact this
theorem Zqd (l:List Cell):(nbits l).length=l.length:=by unfold nbits;simp
theorem Zcz {l:List Cell} {i:Nat} (h:i<l.length):(nbits l)[i]'(by rw [Zqd];exact h)=if isN l[i] then 1 else 0:=by unfold nbits;simp
theorem Zop {l:List Cell}:∀ x∈nbits l,x=0∨x=1:=fun x hx=>by
 unfold nbits at hx
 obtain ⟨c,_,rfl⟩:=List.mem_map.1 hx
 cases isN c
 ·exact .inl rfl
 ·exact .inr rfl
theorem Zc11 (l:List Cell) (hl:l.length≤65536):Zva (nbits l) 1=some (ofBytes (packB (nbits l) 1),0):=by
 obtain ⟨v,h1,h2,h3,h4⟩:=Zsh (nbits l) (by rw [Zqd];omega)
 refine Zim (nbits l) (w:=1) (by omega) (by rw [Zqd];exact hl) h1 ?_
 rcases h4 with h4 | ⟨x,hx,h4⟩
 ·omega
 ·have h5:(2:Int) ^ (v-1)<2 ^ 1:=by
   rcases Zop x hx with rfl | rfl
   ·omega
   ·have e:(1:Int) % 18446744073709551616=1:=rfl
    rw [e] at h4
    omega
  have:=Zzn h5
  omega
theorem Zxv1 (l:List Cell) (hl:l.length≤65536) (lo n0:Nat) (t11:List Cell):∀ (d i n:Nat),d=l.length-i→i≤l.length→d<n→
  Zib.l0 (Zib.t1 fu) n lo n0 l (l.length:Int) (i:Int) t11 ((nbits l).take i++List.replicate (l.length-i) (0:Int))=some (ofBytes (packB (nbits l) 1),List.take n0 (List.drop lo t11)):=by
 intro d
 induction d with
 | zero=>
  intro i n hd hi hn
  have:i=l.length:=by omega
  subst this
  obtain ⟨n,rfl⟩:∃ k,n=k+1:=⟨n-1,by omega⟩
  show Zib.S0 Zib.S1 _ _ _ _ _ _ _ _=_
  unfold Zib.S0
  rw [lt_f (by omega),cond_false]
  unfold Zib.S1
  rw [Nat.sub_self,List.replicate_zero,List.append_nil,List.take_of_length_le (by rw [Zqd];exact Nat.le_refl _),Zc11 l hl,Option.bind_some]
 | succ d ih=>
  intro i n hd hi hn
  obtain ⟨n,rfl⟩:∃ k,n=k+1:=⟨n-1,by omega⟩
  have hlt:i<l.length:=by omega
  show Zib.S0 _ (Zib.l0 (Zib.t1 fu) n) _ _ _ _ _ _ _=_
  unfold Zib.S0
  rw [lt_t (by omega),cond_true,Zu (by rw [Zf];omega),cond_true,Zy hlt]
  have hnext:∀ b:Int,(nbits l)[i]'(by rw [Zqd];exact hlt)=b→(nbits l).take i++b :: List.replicate (l.length-(i+1)) (0:Int)=(nbits l).take (i+1)++List.replicate (l.length-(i+1)) (0:Int):=fun b hb=>by
   rw [take_one (by rw [Zqd];exact hlt),hb,List.append_assoc]
   rfl
  have hrep:List.replicate (l.length-i) (0:Int)=0 :: List.replicate (l.length-(i+1)) (0:Int):=by rw [show l.length-i=(l.length-(i+1))+1 by omega,List.replicate_succ]
  have:=ih (i+1) n (by omega) (by omega) (by omega)
  have hg:=Zcz hlt
  cases hq:isN l[i] with
  | true=>
   rw [hq,if_pos rfl] at hg
   rw [show Zbi l[i]=true from hq,cond_true,Zu (by rw [Zf,List.length_append,List.length_take,Zqd,List.length_replicate];omega),cond_true,Zn (by omega),hrep,show ((i:Int)).toNat=i from rfl,List.set_append_right _ _ (by rw [List.length_take];omega),
    List.length_take,Zqd,Nat.min_eq_left (Nat.le_of_lt hlt),Nat.sub_self,List.set_cons_zero,hnext 1 hg]
   exact this
  | false=>
   rw [hq,if_neg (by decide)] at hg
   rw [show Zbi l[i]=false from hq,cond_false,Zn (by omega),hrep,hnext 0 hg]
   exact this
theorem Zde1 {l:List Cell} (h:(restC l).length=l.length):restC l=l∧l.any isN=false:=by
 have h1:∀ c∈l,(!isN c)=true:=List.length_filter_eq_length_iff.1 h
 refine ⟨List.filter_eq_self.2 h1,List.any_eq_false.2 fun c hc=>?_⟩
 have:=h1 c hc
 simpa using this
theorem Zst (l:List Cell) (hl:l.length≤65536) (h0:0<l.length):Zib l=some (ofBytes (maskL l),restC l):=by
 show Zib.S (Zib.l0 (Zib.t1 fu) fu) l=_
 unfold Zib.S
 have hc:Zli 32 l=some l:=by
  unfold Zli
  rw [decide_eq_true h0,Zna (by omega)]
  rfl
 obtain ⟨t',h1,h2,h3⟩:=del_eq l (by omega) h0
 rw [hc,Option.bind_some,Zkk (x:=(((restC l).length:Int),t')) (by rw [decide_eq_true h0];rfl) h1 (by simp [h2]),Option.bind_some]
 dsimp only
 rw [show Int.toNat ((restC l).length:Int)=(restC l).length from rfl,List.drop_zero,Zf]
 have hle:=Zag l
 by_cases heq:(restC l).length=l.length
 ·obtain ⟨h4,h5⟩:=Zde1 heq
  rw [eq_t (by omega),cond_true,h3]
  unfold maskL
  rw [h5]
  rfl
 ·have hany:l.any isN=true:=by
   cases hq:l.any isN with
   | true=>rfl
   | false=>
    have:restC l=l:=List.filter_eq_self.2 fun c hc=>by
     have:=List.any_eq_false.1 hq c hc
     simpa using this
    rw [this] at heq
    exact absurd rfl heq
  rw [eq_f (by omega),cond_false,le_t (by omega),Zna (by show l.length*8≤_;omega)]
  have:=Zxv1 l hl 0 (restC l).length t' l.length 0 fu (by omega) (by omega) (by unfold fu;omega)
  rw [Nat.sub_zero,List.drop_zero,h3] at this
  unfold maskL
  rw [hany,if_pos rfl]
  exact this
end Go.AM.Pure
end

section
/- nulls: Count and Join of what Split gave. -/
namespace Go.AM.Pure
open Go.AM
theorem Zz01 (l:List Int) (hl:l.length<4611686018427387904) (v:Int):∀ (d i n:Nat),d=l.length-i→i≤l.length→d<n→(∀ j (h:j<l.length),j<i→l[j]≠v)→
  ∃ r,Zkb.l0 n l v (l.length:Int) (i:Int)=some r∧leI 0 r=l.any (fun x=>decide (x=v)):=by
 intro d
 induction d with
 | zero=>
  intro i n hd hi hn ha
  have:i=l.length:=by omega
  subst this
  obtain ⟨n,rfl⟩:∃ k,n=k+1:=⟨n-1,by omega⟩
  refine ⟨-1,?_,?_⟩
  ·show Zkb.S0 _ _ _ _ _=_
   unfold Zkb.S0
   rw [lt_f (by omega),cond_false]
  ·rw [show leI 0 (-1)=false from rfl]
   symm
   rw [List.any_eq_false]
   intro x hx
   obtain ⟨j,hj,rfl⟩:=List.mem_iff_getElem.1 hx
   simpa using ha j hj hj
 | succ d ih=>
  intro i n hd hi hn ha
  obtain ⟨n,rfl⟩:∃ k,n=k+1:=⟨n-1,by omega⟩
  have hlt:i<l.length:=by omega
  show ∃ r,Zkb.S0 (Zkb.l0 n) _ _ _ _=_∧_
  unfold Zkb.S0
  rw [lt_t (by omega),cond_true,Zu (by rw [Zf];omega),cond_true,Zy hlt]
  by_cases hq:v=l[i]
  ·rw [eq_t hq,cond_true]
   refine ⟨_,rfl,?_⟩
   rw [le_t (by omega)]
   symm
   rw [List.any_eq_true]
   exact ⟨l[i],List.getElem_mem hlt,by simp [hq]⟩
  ·rw [eq_f hq,cond_false,Zn (by omega)]
   exact ih (i+1) n (by omega) (by omega) (by omega) fun j h hj=>by
    by_cases hji:j=i
    ·subst hji;exact fun h=>hq h.symm
    ·exact ha j h (by omega)
theorem Znr (l:List Int) (hl:l.length<4611686018427387904) (v:Int):Zzg l v=some (l.any fun x=>decide (x=v)):=by
 unfold Zzg
 obtain ⟨r,h1,h2⟩:=Zz01 l hl v l.length 0 fu (by omega) (by omega) (by unfold fu;omega) fun j h hj=>by omega
 have:Zkb l v=some r:=h1
 rw [this,Option.bind_some,h2]
theorem Zuv1 (l:List Cell) (hl:l.length<4611686018427387904):∀ (d i n:Nat),d=l.length-i→i≤l.length→d<n→(∀ j (h:j<l.length),j<i→isN l[j]=false)→
  ∃ r,Zt.l0 n l (l.length:Int) (i:Int)=some r∧leI 0 r=l.any isN:=by
 intro d
 induction d with
 | zero=>
  intro i n hd hi hn ha
  have:i=l.length:=by omega
  subst this
  obtain ⟨n,rfl⟩:∃ k,n=k+1:=⟨n-1,by omega⟩
  refine ⟨-1,?_,?_⟩
  ·show Zt.S0 _ _ _ _=_
   unfold Zt.S0
   rw [lt_f (by omega),cond_false]
  ·rw [show leI 0 (-1)=false from rfl]
   symm
   rw [List.any_eq_false]
   intro x hx
   obtain ⟨j,hj,rfl⟩:=List.mem_iff_getElem.1 hx
   rw [ha j hj hj]
   decide
 | succ d ih=>
  intro i n hd hi hn ha
  obtain ⟨n,rfl⟩:∃ k,n=k+1:=⟨n-1,by omega⟩
  have hlt:i<l.length:=by omega
  show ∃ r,Zt.S0 (Zt.l0 n) _ _ _=_∧_
  unfold Zt.S0
  rw [lt_t (by omega),cond_true,Zu (by rw [Zf];omega),cond_true,Zy hlt]
  cases hq:isN l[i] with
  | true=>
   rw [show Zbi l[i]=true from hq,cond_true]
   refine ⟨_,rfl,?_⟩
   rw [le_t (by omega)]
   symm
   rw [List.any_eq_true]
   exact ⟨l[i],List.getElem_mem hlt,hq⟩
  | false=>
   rw [show Zbi l[i]=false from hq,cond_false,Zn (by omega)]
   exact ih (i+1) n (by omega) (by omega) (by omega) fun j h hj=>by
    by_cases hji:j=i
    ·subst hji;exact hq
    ·exact ha j h (by omega)
theorem Zdy (l:List Cell) (hl:l.length<4611686018427387904):Zid l=some (l.any isN):=by
 unfold Zid
 obtain ⟨r,h1,h2⟩:=Zuv1 l hl l.length 0 fu (by omega) (by omega) (by unfold fu;omega) fun j h hj=>by omega
 have:Zt l=some r:=h1
 rw [this,Option.bind_some,h2]
theorem Za11 (l:List Cell):(nbits l).any (fun x=>decide (x=1))=l.any isN:=by
 unfold nbits
 rw [List.any_map]
 congr 1
 funext c
 show decide ((if isN c=true then (1:Int) else 0)=1)=isN c
 cases isN c <;> rfl
theorem Zvv1 {l:List Cell} (h:l.any isN=false):nbits l=List.replicate l.length (0:Int):=by
 rw [List.eq_replicate_iff]
 refine ⟨Zqd l,fun x hx=>?_⟩
 unfold nbits at hx
 obtain ⟨c,hc,rfl⟩:=List.mem_map.1 hx
 have:=List.any_eq_false.1 h c hc
 rw [if_neg this]
theorem Zoq (l:List Cell) (hl:l.length≤65536) (h0:0<l.length) {s:ByteArray} (hs:Zk s=maskL l):Zpg s (l.length:Int)=some (nbits l,0):=by
 unfold Zpg
 rw [lt_f (by omega),cond_false,lt_f (by omega),cond_false]
 unfold maskL at hs
 cases hany:l.any isN with
 | false=>
  rw [hany,if_neg (by decide)] at hs
  have:s=eB:=size0.2 (by rw [← Zha,hs];rfl)
  rw [eqS_t this,cond_true,le_t (by omega),Zna (by show l.length*8≤_;omega)]
  show some (List.replicate l.length (0:Int),(0:Int))=_
  rw [Zvv1 hany]
 | true=>
  rw [hany,if_pos rfl] at hs
  have hne:s≠eB:=fun h=>by
   have:=size0.1 h
   rw [← Zha,hs,Zpe,Zqd] at this
   omega
  rw [eqS_f hne,cond_false]
  have:=Zvk (l:=nbits l) (w:=1) (by omega) (by rw [Zqd];exact hl) (fun x hx=>by
   unfold in64
   rcases Zop x hx with rfl | rfl <;> omega) (fun x hx=>by
   rcases Zop x hx with rfl | rfl <;> decide) hs
  rw [Zqd] at this
  rw [show (1:Int)=((1:Nat):Int) from rfl,this,Option.bind_some]
  dsimp only
  rw [ne_f rfl,cond_false,Znr _ (by rw [Zqd];omega),Option.bind_some]
  rw [show ((1:Nat):Int)=1 from rfl,Za11,hany]
  rfl
theorem nsum (l:List Cell):(nbits l).foldr (· + ·) 0=((l.length-(restC l).length:Nat):Int):=by
 induction l with
 | nil=>rfl
 | cons c l ih=>
  have hle:=Zag l
  have e1:nbits (c :: l)=(if isN c then 1 else 0) :: nbits l:=rfl
  have e2:restC (c :: l)=if isN c then restC l else c :: restC l:=by
   unfold restC
   cases h:isN c <;> simp [h]
  rw [e1,e2,List.foldr_cons,ih]
  cases isN c
  ·rw [if_neg (by decide),if_neg (by decide),List.length_cons,List.length_cons];omega
  ·rw [if_pos rfl,if_pos rfl,List.length_cons];omega
theorem Zo8 (b:List Int) (hb:b.length≤65536) (hm:∀ x∈b,x=0∨x=1) (e:Int):∀ (d i n:Nat) (k:Int),d=b.length-i→i≤b.length→d<n→0≤k→k≤i→
  Zhc.l0 n e k b (b.length:Int) (i:Int)=some (k+(b.drop i).foldr (· + ·) 0,e):=by
 intro d
 induction d with
 | zero=>
  intro i n k hd hi hn h1 h2
  have:i=b.length:=by omega
  subst this
  obtain ⟨n,rfl⟩:∃ k,n=k+1:=⟨n-1,by omega⟩
  show Zhc.S0 _ _ _ _ _ _=_
  unfold Zhc.S0
  rw [lt_f (by omega),cond_false,List.drop_length]
  simp
 | succ d ih=>
  intro i n k hd hi hn h1 h2
  obtain ⟨n,rfl⟩:∃ k,n=k+1:=⟨n-1,by omega⟩
  have hlt:i<b.length:=by omega
  show Zhc.S0 (Zhc.l0 n) _ _ _ _ _=_
  unfold Zhc.S0
  have hx:=hm b[i] (List.getElem_mem hlt)
  rw [lt_t (by omega),cond_true,Zu (by rw [Zf];omega),cond_true,Zy hlt,Zn (by omega),Zn (by omega)]
  have:=ih (i+1) n (k+b[i]) (by omega) (by omega) (by omega) (by omega) (by omega)
  rw [show (i:Int)+1=((i+1:Nat):Int) by omega,this,List.drop_eq_getElem_cons hlt,List.foldr_cons,Int.add_assoc]
theorem Zrt (l:List Cell) (hl:l.length≤65536) (h0:0<l.length) {s:ByteArray} (hs:Zk s=maskL l):Zhc s (l.length:Int)=some (((l.length-(restC l).length:Nat):Int),0):=by
 show Zhc.S (Zhc.l0 fu) s _=_
 unfold Zhc.S
 rw [Zoq l hl h0 hs,Option.bind_some]
 dsimp only
 have:=Zo8 (nbits l) (by rw [Zqd];exact hl) Zop 0 (nbits l).length 0 fu 0 (by omega) (by omega) (by unfold fu;rw [Zqd];omega) (by omega) (by omega)
 rw [List.drop_zero,nsum,Int.zero_add] at this
 exact this
theorem Zb11 (l:List Cell) (hl:l.length≤65536) (hz:∀ c∈l,isN c=true→c=(0,0,eB)):∀ (d i n:Nat),d=l.length-i→i≤l.length→d<n→
  Zbc.l0 n (restC (l.drop i)) (nbits l) (l.length:Int) (i:Int) (l.take i++List.replicate (l.length-i) ((0:Int),((0:Int),eB)))=some (l,0):=by
 intro d
 induction d with
 | zero=>
  intro i n hd hi hn
  have:i=l.length:=by omega
  subst this
  obtain ⟨n,rfl⟩:∃ k,n=k+1:=⟨n-1,by omega⟩
  show Zbc.S0 _ _ _ _ _ _=_
  unfold Zbc.S0
  rw [lt_f (by omega),cond_false,Nat.sub_self,List.replicate_zero,List.append_nil,List.take_length]
 | succ d ih=>
  intro i n hd hi hn
  obtain ⟨n,rfl⟩:∃ k,n=k+1:=⟨n-1,by omega⟩
  have hlt:i<l.length:=by omega
  show Zbc.S0 (Zbc.l0 n) _ _ _ _ _=_
  unfold Zbc.S0
  have hnl:i<(nbits l).length:=by rw [Zqd];exact hlt
  rw [lt_t (by omega),cond_true,Zu (by rw [Zf,Zqd];omega),cond_true,Zy hnl,Zcz hlt]
  have hrep:List.replicate (l.length-i) ((0:Int),((0:Int),eB))=(0,0,eB) :: List.replicate (l.length-(i+1)) ((0:Int),((0:Int),eB)):=by rw [show l.length-i=(l.length-(i+1))+1 by omega,List.replicate_succ]
  have hnext:l.take i++l[i] :: List.replicate (l.length-(i+1)) ((0:Int),((0:Int),eB))=l.take (i+1)++List.replicate (l.length-(i+1)) ((0:Int),((0:Int),eB)):=by
   rw [take_one hlt,List.append_assoc]
   rfl
  have hdrop:l.drop i=l[i] :: l.drop (i+1):=List.drop_eq_getElem_cons hlt
  have:=ih (i+1) n (by omega) (by omega) (by omega)
  cases hq:isN l[i] with
  | true=>
   have h1:restC (l.drop i)=restC (l.drop (i+1)):=by
    rw [hdrop]
    unfold restC
    rw [List.filter_cons_of_neg (by rw [hq];decide)]
   rw [hz l[i] (List.getElem_mem hlt) hq] at hnext
   rw [if_pos rfl,eq_f (by decide),cond_false,Zn (by omega),h1,hrep,hnext]
   exact this
  | false=>
   have h1:restC (l.drop i)=l[i] :: restC (l.drop (i+1)):=by
    rw [hdrop]
    unfold restC
    rw [List.filter_cons_of_pos (by rw [hq];rfl)]
   have hle:=Zag (l.drop (i+1))
   rw [List.length_drop] at hle
   rw [if_neg (by decide),eq_t rfl,cond_true,h1,Zu (by rw [Zf,List.length_cons];omega),cond_true,Zzb (by rw [Zf,List.length_cons];omega),cond_true,Zu (by rw [Zf,List.length_append,List.length_take,List.length_replicate];omega),cond_true,Zn (by omega),hrep,
    show ((i:Int)).toNat=i from rfl,List.set_append_right _ _ (by rw [List.length_take];omega),List.length_take,Nat.min_eq_left (Nat.le_of_lt hlt),Nat.sub_self,List.set_cons_zero]
   rw [show nth (l[i] :: restC (l.drop (i+1))) 0 (0,0,eB)=l[i] from rfl,hnext]
   exact this
theorem Zwv1 (l:List Cell):(restC l).any isN=false:=by
 rw [List.any_eq_false]
 intro c hc
 unfold restC at hc
 have:=(List.mem_filter.1 hc).2
 simpa using this
theorem Zeg1 (l:List Cell) (hl:l.length≤65536) (h0:0<l.length) (hz:∀ c∈l,isN c=true→c=(0,0,eB)) {s:ByteArray} (hs:Zk s=maskL l):Zbc s (l.length:Int) (restC l)=some (l,0):=by
 show Zbc.S (Zbc.l0 fu) s _ _=_
 unfold Zbc.S
 have hle:=Zag l
 rw [Zoq l hl h0 hs,Option.bind_some]
 dsimp only
 rw [ne_f rfl,cond_false,Zrt l hl h0 hs,Option.bind_some]
 dsimp only
 rw [Zqb (by omega),ne_f (by rw [Zf];omega),cond_false,Zdy _ (by omega),Option.bind_some,Zwv1,cond_false,le_t (by omega),Zna (by show l.length*32≤_;omega)]
 have:=Zb11 l hl hz l.length 0 fu (by omega) (by omega) (by unfold fu;omega)
 rw [List.drop_zero,Nat.sub_zero,List.take_zero,List.nil_append] at this
 have e:lenL (List.replicate (Int.toNat (l.length:Int)) ((0:Int),((0:Int),eB)))=(l.length:Int):=by rw [Zf,List.length_replicate];rfl
 rw [e]
 exact this
end Go.AM.Pure
end

section
/- check: what is sealed is opened. -/
namespace Go.AM.Pure
open Go.AM
def Zpt (n:Int):Int:=xorI .u32 (shrI .u32 n 1) (andI .u32 2197175160 (subI .u32 0 (andI .u32 n 1)))
def crcN:Nat→Int→Int
 | 0,n=>n
 | k+1,n=>crcN k (Zpt n)
def Zqt (n b:Int):Int:=crcN 8 (xorI .u32 n (IntKind.wrap .u32 b))
def crcOf (sum:Int) (l:List Int):Int:=IntKind.wrap .i64 (xorI .u32 4294967295 (l.foldl Zqt (xorI .u32 4294967295 (IntKind.wrap .u32 sum))))
theorem Zn8 {o0:ByteArray→Int→Int→Int→Option Int} {s:ByteArray} {len i:Int}:∀ (d k m:Nat) (n:Int),k+d=8→d<m→
  Zjb.l1 o0 m s n len i (k:Int)=o0 s (crcN d n) len (addI .i64 i 1)
 | 0,k,m,n,h,hm=>by
  obtain ⟨m,rfl⟩:∃ j,m=j+1:=⟨m-1,by omega⟩
  show Zjb.S1 _ _ _ _ _ _ _=_
  unfold Zjb.S1
  rw [lt_f (by omega)]
  rfl
 | d+1,k,m,n,h,hm=>by
  obtain ⟨m,rfl⟩:∃ j,m=j+1:=⟨m-1,by omega⟩
  show Zjb.S1 o0 (Zjb.l1 o0 m) _ _ _ _ _=_
  unfold Zjb.S1
  rw [lt_t (by omega),cond_true,Zn (by omega)]
  exact Zn8 d (k+1) m (Zpt n) (by omega) (by omega)
theorem Ztv1 (s:ByteArray) (hs:s.size<4611686018427387904):∀ (d i m:Nat) (n:Int),d=s.size-i→i≤s.size→20<m→
  Zjb.l0 (m+d) s n (s.size:Int) (i:Int)=some (IntKind.wrap .i64 (xorI .u32 4294967295 (((Zk s).drop i).foldl Zqt n))):=by
 intro d
 induction d with
 | zero=>
  intro i m n hd hi hm
  have:i=s.size:=by omega
  subst this
  obtain ⟨m,rfl⟩:∃ j,m=j+1:=⟨m-1,by omega⟩
  show Zjb.S0 _ _ _ _ _=_
  unfold Zjb.S0
  rw [lt_f (by omega),cond_false,List.drop_eq_nil_of_le (by rw [Zha];exact Nat.le_refl _)]
  rfl
 | succ d ih=>
  intro i m n hd hi hm
  have hlt:i<s.size:=by omega
  show Zjb.S0 (Zjb.l1 (Zjb.l0 (m+d)) (m+d)) s n (s.size:Int) (i:Int)=_
  unfold Zjb.S0
  rw [lt_t (by omega),cond_true,Zu (by rw [Zma];omega),cond_true]
  have h1:=Zn8 (o0:=Zjb.l0 (m+d)) (s:=s) (len:=(s.size:Int)) (i:=(i:Int)) 8 0 (m+d) (xorI .u32 n (IntKind.wrap .u32 (byteAt s (i:Int)))) rfl (by omega)
  rw [show ((0:Nat):Int)=0 from rfl] at h1
  rw [h1,Zn (by omega)]
  have hg:=Zbf s i hlt
  have hdr:(Zk s).drop i=byteAt s (i:Int) :: (Zk s).drop (i+1):=by
   rw [List.drop_eq_getElem_cons (by rw [Zha];exact hlt)]
   congr 1
   rw [List.getElem?_eq_getElem (by rw [Zha];exact hlt)] at hg
   exact Option.some.inj hg
  rw [hdr,List.foldl_cons]
  exact ih (i+1) m _ (by omega) (by omega) hm
theorem Zcg1 (sum:Int) (s:ByteArray) (hs:s.size<4611686018427387904):Zjb sum s=some (crcOf sum (Zk s)):=by
 show Zjb.S (Zjb.l0 fu) sum s=_
 unfold Zjb.S
 have:=Ztv1 s hs s.size 0 (fu-s.size) (xorI .u32 4294967295 (IntKind.wrap .u32 sum)) (by omega) (by omega) (by unfold fu;omega)
 rw [show fu-s.size+s.size=fu by unfold fu;omega] at this
 exact this
theorem Zlh1 (s:ByteArray) (hs:s.size<4611686018427387904):Zus s=some (crcOf 0 (Zk s)):=by
 unfold Zus
 rw [Zcg1 0 s hs]
 rfl
def sumB (l:List Int):List Int:=[IntKind.wrap .u8 (shrI .u32 (IntKind.wrap .u32 (crcOf 0 l)) 0),IntKind.wrap .u8 (shrI .u32 (IntKind.wrap .u32 (crcOf 0 l)) 8),IntKind.wrap .u8 (shrI .u32 (IntKind.wrap .u32 (crcOf 0 l)) 16),IntKind.wrap .u8 (shrI .u32 (IntKind.wrap .u32 (crcOf 0 l)) 24)]
theorem Zik2 (l:List Int):∀ b∈sumB l,0≤b∧b<256:=fun b hb=>by
 unfold sumB at hb
 simp only [List.mem_cons,List.not_mem_nil,or_false] at hb
 rcases hb with rfl | rfl | rfl | rfl <;> (rw [Zth];omega)
def sealB (l:List Int):List Int:=l++sumB l
theorem Zbe1 (l:List Int):(sealB l).length=l.length+4:=by unfold sealB;rw [List.length_append];rfl
theorem Znq (s:ByteArray) (hs:s.size<100000000000):Zyc s=some (ofBytes (sealB (Zk s))):=by
 show Zyc.S (Zyc.l0 fu) s=_
 unfold Zyc.S
 rw [Zlh1 s (by omega),Option.bind_some,Zma,Zn (by omega),le_t (by omega),Zna (by omega)]
 show (bif roomB (0+s.size) 1 then Zyc.l0 fu (IntKind.wrap .u32 (crcOf 0 (Zk s))) (Zk s) 0 else none)=_
 rw [Zna (by omega),cond_true]
 have hst:∀ (m:Nat) (N:Int) (b:List Int) (k:Nat),k<4→b.length<100000000010→Zyc.l0 (m+1) N b (k:Int)=Zyc.l0 m N (b++[IntKind.wrap .u8 (shrI .u32 N ((8*k:Nat):Int))]) ((k+1:Nat):Int):=by
  intro m N b k hk hb
  show Zyc.S0 (Zyc.l0 m) N b (k:Int)=_
  unfold Zyc.S0
  have e:(8:Int)*(k:Int)=((8*k:Nat):Int):=by simp
  rw [lt_t (by omega),cond_true,Zek (by omega),e,le_t (by omega),cond_true,Zna (by omega),cond_true,Zn (by omega)]
  rfl
 have hl:=Zha s
 have hfu:fu=18446744073709551611+1+1+1+1+1:=rfl
 rw [hfu,show (0:Int)=((0:Nat):Int) from rfl,hst _ _ _ 0 (by omega) (by omega),hst _ _ _ 1 (by omega) (by rw [List.length_append,List.length_singleton];omega),hst _ _ _ 2 (by omega) (by simp;omega),hst _ _ _ 3 (by omega) (by simp;omega)]
 show Zyc.S0 _ _ _ _=_
 unfold Zyc.S0
 rw [lt_f (by omega),cond_false]
 unfold sealB sumB
 simp
theorem Zce1 {l:List Int} (h:∀ b∈l,0≤b∧b<256):∀ b∈sealB l,0≤b∧b<256:=fun b hb=>by
 unfold sealB at hb
 rcases List.mem_append.1 hb with hb | hb
 ·exact h b hb
 ·exact Zik2 l b hb
theorem Zdg1 {l:List Int} (h:∀ b∈l,0≤b∧b<256) (hl:l.length<10000000000):Ztl (ofBytes (sealB l))=some (ofBytes l,0):=by
 unfold Ztl
 have hsz:(ofBytes (sealB l)).size=l.length+4:=by rw [Zv,Zbe1]
 have htb:=Zwc (Zce1 h)
 have hcut:cutS (ofBytes (sealB l)) 0 (((l.length:Nat):Int))=ofBytes l:=by
  rw [Zqp,htb]
  unfold sealB
  rw [List.take_left]
 rw [Zma,hsz,Zqb (by omega),show ((l.length+4:Nat):Int)-4=(l.length:Int) by omega,lt_f (by omega),cond_false,Zzb (by omega),cond_true,hcut,Znq _ (by rw [Zv];omega),Option.bind_some,Zwc h,eqS_t rfl]
 rfl
end Go.AM.Pure
end

section
/- Numbers as they are; numbers out of bytes that begin with them. -/
namespace Go.AM.Pure
open Go.AM
def vB (x:Int):List Int:=dig 10 (Zec x % 18446744073709551616)
theorem Zwe (x:Int):Zwi x=ofBytes (vB x):=rfl
theorem Ziq1:∀ (f:Nat) (u:Int),0≤u→∀ b∈dig f u,0≤b∧b<256
 | 0,_,_,b,h=>by cases h
 | f+1,u,h0,b,h=>by
  unfold dig at h
  split at h
  ·rcases List.mem_cons.1 h with rfl | h
   ·omega
   ·cases h
  ·rcases List.mem_cons.1 h with rfl | h
   ·omega
   ·exact Ziq1 f _ (by omega) b h
theorem Zzj (x:Int):∀ b∈vB x,0≤b∧b<256:=Ziq1 10 _ (by omega)
theorem Zbe (x:Int):1≤(vB x).length∧(vB x).length≤10:=by
 obtain ⟨h1,h2,_⟩:=dig_x x
 rw [Zwe,Zv] at h1 h2
 exact ⟨h1,h2⟩
theorem Zwg {x:Int} (hx:in64 x) {s:ByteArray} {rest:List Int} (hs:Zk s=vB x++rest):Zad s=some (x,((vB x).length:Int),0):=by
 have hsz:(Zwi x).size=(vB x).length:=by rw [Zwe,Zv]
 have hl:s.size=(vB x).length+rest.length:=by rw [← Zha,hs,List.length_append]
 rw [Zng,Zvh1 hx (by rw [hsz,hs,List.take_left];rfl) (by omega),hsz]
theorem Znf {s:ByteArray} {a rest:List Int} (hs:Zk s=a++rest):Zk (cutS s (a.length:Int) (lenS s))=rest:=by
 rw [Zma,Zft,hs,List.drop_left]
theorem Zhk2 (v:Int) (m:Nat) (h:8≤m):(wb v m).take 8=wb v 8:=by
 rw [Zqh1 v 8 m h,List.take_append_of_le_length (by rw [Zji];exact Nat.le_refl _),List.take_of_length_le (by rw [Zji];exact Nat.le_refl _)]
theorem Zjq1 (u:Int) (k:Nat) (hk:k<8):chop (k+1) (wb u 64)=chop k (wb u 64)++[u / 2 ^ (8*k) % 256]:=by
 have h:=Zqh1 u (8*k) 64 (by omega)
 rw [h,Zin k 1 _ _ (by rw [Zji])]
 congr 1
 ·have:=Zin k 0 (wb u (8*k)) (wb (u / 2 ^ (8*k)) (64-8*k)) (by rw [Zji])
  rw [Nat.add_zero] at this
  rw [this]
  exact (List.append_nil _).symm
 ·rw [Zqj,Zhk2 _ _ (by omega),Zvw]
  rfl
theorem Zm8 {o0:List Int→List Int→Int→Int→Option ByteArray} {l:List Int} {len i u:Int} (h0:0≤u):∀ (d k m:Nat) (b:List Int),k+d=8→d<m→b.length<100000000000→
  Zsa.l1 o0 m (b++chop k (wb u 64)) (u / 2 ^ (8*k)) l len i (k:Int)=o0 (b++chop 8 (wb u 64)) l len (addI .i64 i 1)
 | 0,k,m,b,h,hm,hb=>by
  obtain ⟨m,rfl⟩:∃ j,m=j+1:=⟨m-1,by omega⟩
  have:k=8:=by omega
  subst this
  show Zsa.S1 _ _ _ _ _ _ _ _=_
  unfold Zsa.S1
  rw [lt_f (by omega)]
  rfl
 | d+1,k,m,b,h,hm,hb=>by
  obtain ⟨m,rfl⟩:∃ j,m=j+1:=⟨m-1,by omega⟩
  show Zsa.S1 o0 (Zsa.l1 o0 m) _ _ _ _ _ _=_
  unfold Zsa.S1
  have hsh:shrI .u64 (u / 2 ^ (8*k)) 8=u / 2 ^ (8*(k+1)):=by
   have:=shrU (u / 2 ^ (8*k)) 8 (by omega)
   rw [show ((8:Nat):Int)=8 from rfl] at this
   rw [this,Int.ediv_ediv_of_nonneg (Int.le_of_lt (Zld _)),← Int.pow_add]
   rfl
  rw [lt_t (by omega),cond_true,Zna (by rw [List.length_append,Zch];omega),cond_true,Zn (by omega),hsh,Zth,List.append_assoc,← Zjq1 u k (by omega)]
  exact Zm8 h0 d (k+1) m b (by omega) (by omega) hb
theorem Zrv1 (l:List Int) (hl:l.length<1000000000):∀ (d i m:Nat),d=l.length-i→i≤l.length→20<m→
  Zsa.l0 (m+d) (chop (8*i) (strm (l.take i) 64)) l (l.length:Int) (i:Int)=some (ofBytes (packB l 64)):=by
 intro d
 induction d with
 | zero=>
  intro i m hd hi hm
  have:i=l.length:=by omega
  subst this
  obtain ⟨m,rfl⟩:∃ j,m=j+1:=⟨m-1,by omega⟩
  show Zsa.S0 _ _ _ _ _=_
  unfold Zsa.S0
  rw [lt_f (by omega),cond_false,List.take_length]
  unfold packB
  rw [show (l.length*64+7) / 8=8*l.length by omega]
 | succ d ih=>
  intro i m hd hi hm
  have hlt:i<l.length:=by omega
  show Zsa.S0 (Zsa.l1 (Zsa.l0 (m+d)) (m+d)) _ l (l.length:Int) (i:Int)=_
  unfold Zsa.S0
  rw [lt_t (by omega),cond_true,Zu (by rw [Zf];omega),cond_true,Zy hlt]
  have h1:=Zm8 (o0:=Zsa.l0 (m+d)) (l:=l) (len:=(l.length:Int)) (i:=(i:Int)) (u:=IntKind.wrap .u64 l[i]) (by rw [Zyd];omega) 8 0 (m+d) (chop (8*i) (strm (l.take i) 64)) rfl (by omega) (by rw [Zch];omega)
  rw [Nat.mul_zero,Int.pow_zero,Int.ediv_one,show chop 0 (wb (IntKind.wrap .u64 l[i]) 64)=[] from rfl,List.append_nil] at h1
  rw [show (0:Int)=((0:Nat):Int) from rfl,h1,Zn (by omega)]
  have:=ih (i+1) m (by omega) (by omega) hm
  rw [take_one hlt,Zss,show 8*(i+1)=8*i+8 by omega,Zin _ 8 _ _ (by rw [Zwk,List.length_take];omega)] at this
  rw [Zyd,Ze11 _ (by omega)]
  exact this
theorem Zd7 (l:List Int) (hl:l.length<1000000000):Zsa l=some (ofBytes (packB l 64)):=by
 show Zsa.S (Zsa.l0 fu) l=_
 unfold Zsa.S
 rw [Zf,Zek (by omega),le_t (by omega),Zna (by omega)]
 have:=Zrv1 l hl l.length 0 (fu-l.length) (by omega) (by omega) (by unfold fu;omega)
 rw [show fu-l.length+l.length=fu by unfold fu;omega] at this
 exact this
theorem Zx5 {o0:ByteArray→Int→Int→List Int→Option (List Int×Int)} {s:ByteArray} {len i:Int} {out:List Int} {k:Nat} (hk:k<1000000000) (hs:8*k+8≤s.size) (ho:k<out.length):∀ (d j m:Nat),j+d=8→d<m→
  Zfa.l1 o0 m s (k:Int) (numOf ((List.range (8*j)).map fun i=>sb s (k*64+i))) len i (j:Int) out=o0 s len (addI .i64 i 1) (List.set out k (wordS s k 64))
 | 0,j,m,h,hm=>by
  obtain ⟨m,rfl⟩:∃ j,m=j+1:=⟨m-1,by omega⟩
  have:j=8:=by omega
  subst this
  show Zfa.S1 _ _ _ _ _ _ _ _ _=_
  unfold Zfa.S1
  rw [lt_f (by omega),cond_false,Zu (by rw [Zf];omega)]
  rfl
 | d+1,j,m,h,hm=>by
  obtain ⟨m,rfl⟩:∃ j,m=j+1:=⟨m-1,by omega⟩
  show Zfa.S1 o0 (Zfa.l1 o0 m) _ _ _ _ _ _ _=_
  unfold Zfa.S1
  have e8:(8:Int)*(j:Int)=((8*j:Nat):Int):=by simp
  rw [lt_t (by omega),cond_true,Zek (a:=8) (b:=(k:Int)) (by omega),Zn (a:=8*(k:Int)) (by omega),Zu (by rw [Zma];omega),cond_true,Zek (by omega),e8,le_t (by omega),cond_true,Zn (by omega),
   show 8*(k:Int)+(j:Int)=((8*k+j:Nat):Int) by omega]
  have hby:=Zee s ((8*k+j:Nat):Int)
  have hwr:IntKind.wrap .u64 (byteAt s ((8*k+j:Nat):Int))=byteAt s ((8*k+j:Nat):Int):=by rw [Zyd];omega
  have hnb:=Zye ((List.range (8*j)).map fun i=>sb s (k*64+i))
  rw [List.length_map,List.length_range] at hnb
  rw [hwr,Zic1 hnb.1 hnb.2 (by omega)]
  have hpart:byteAt s ((8*k+j:Nat):Int)=numOf ((List.range 8).map fun i=>sb s (k*64+(8*j+i))):=by
   have h1:byteAt s ((8*k+j:Nat):Int) % 2 ^ 8=byteAt s ((8*k+j:Nat):Int):=Int.emod_eq_of_lt hby.1 hby.2
   rw [← h1,← Znk]
   congr 1
   apply List.map_congr_left
   intro i hi
   have hi:=List.mem_range.1 hi
   unfold sb
   rw [show (k*64+(8*j+i)) / 8=8*k+j by omega,show (k*64+(8*j+i)) % 8=i by omega]
  have hnext:numOf ((List.range (8*(j+1))).map fun i=>sb s (k*64+i))=numOf ((List.range (8*j)).map fun i=>sb s (k*64+i))+byteAt s ((8*k+j:Nat):Int)*2 ^ (8*j):=by
   rw [show 8*(j+1)=8*j+8 by omega,Zee1,Zpp,List.length_map,List.length_range,← hpart,Int.mul_comm (2 ^ (8*j))]
  rw [← hnext]
  have hnb2:=Zye ((List.range (8*(j+1))).map fun i=>sb s (k*64+i))
  rw [List.length_map,List.length_range] at hnb2
  have h64:(2:Int) ^ (8*(j+1))≤2 ^ 64:=by exact_mod_cast Nat.pow_le_pow_right (n:=2) (by omega) (show 8*(j+1)≤64 by omega)
  rw [← pow64] at h64
  rw [Int.emod_eq_of_lt hnb2.1 (by omega)]
  exact Zx5 hk hs ho d (j+1) m (by omega) (by omega)
theorem Zjp1 (s:ByteArray) {n:Nat} (hn:n<1000000000) (hs:s.size=8*n):∀ (d i m:Nat),d=n-i→i≤n→20<m→
  Zfa.l0 (m+d) s (n:Int) (i:Int) ((List.range i).map (fun k=>wordS s k 64)++List.replicate (n-i) (0:Int))=some ((List.range n).map (fun k=>wordS s k 64),0):=by
 intro d
 induction d with
 | zero=>
  intro i m hd hi hm
  have:i=n:=by omega
  subst this
  obtain ⟨m,rfl⟩:∃ j,m=j+1:=⟨m-1,by omega⟩
  show Zfa.S0 _ _ _ _ _=_
  unfold Zfa.S0
  rw [lt_f (by omega),cond_false,Nat.sub_self,List.replicate_zero,List.append_nil]
 | succ d ih=>
  intro i m hd hi hm
  show Zfa.S0 (Zfa.l1 (Zfa.l0 (m+d)) (m+d)) s _ _ _=_
  unfold Zfa.S0
  have h1:=Zx5 (o0:=Zfa.l0 (m+d)) (s:=s) (len:=(n:Int)) (i:=(i:Int)) (out:=(List.range i).map (fun k=>wordS s k 64)++List.replicate (n-i) (0:Int)) (k:=i) (by omega) (by omega) (by simp;omega) 8 0 (m+d) rfl (by omega)
  rw [Nat.mul_zero,List.range_zero,List.map_nil,show numOf []=0 from rfl] at h1
  rw [lt_t (by omega),cond_true,show (0:Int)=((0:Nat):Int) from rfl]
  rw [show ((0:Nat):Int)=0 from rfl] at h1 ⊢
  rw [h1,Zn (by omega)]
  have:=ih (i+1) m (by omega) (by omega) hm
  rw [show (i:Int)+1=((i+1:Nat):Int) by omega,← this]
  congr 1
  rw [List.set_append_right _ _ (by simp),List.length_map,List.length_range,Nat.sub_self,show n-i=(n-(i+1))+1 by omega,List.replicate_succ,List.set_cons_zero,List.range_succ,List.map_append,List.append_assoc]
  rfl
theorem Zem (s:ByteArray) {n:Nat} (hn:n<1000000000) (hs:s.size=8*n):Zfa s (n:Int)=some ((List.range n).map (fun k=>wordS s k 64),0):=by
 show Zfa.S (Zfa.l0 fu) s _=_
 unfold Zfa.S
 have h1:remI (lenS s) 8=0:=by
  rw [Zma,hs]
  unfold remI
  rw [Int.tmod_eq_emod_of_nonneg (by omega)]
  omega
 have h2:quoI .i64 (lenS s) 8=(n:Int):=by
  rw [Zma,hs]
  unfold quoI
  rw [Int.tdiv_eq_ediv_of_nonneg (by omega),Zde (by omega)]
  omega
 rw [lt_f (by omega),cond_false,h1,ne_f rfl,cond_false,h2,ne_f rfl,cond_false,le_t (by omega),Zna (by show n*8≤_;omega)]
 have:=Zjp1 s hn hs n 0 (fu-n) (by omega) (by omega) (by unfold fu;omega)
 rw [show fu-n+n=fu by unfold fu;omega,Nat.sub_zero] at this
 exact this
theorem Zsv1 {l:List Int} (hl:l.length≤65536) (h64:∀ x∈l,in64 x) {s:ByteArray} (hs:Zk s=packB l 64):Zfa s (l.length:Int)=some (l,0):=by
 have hsz:s.size=8*l.length:=by rw [← Zha,hs,Zpe];omega
 rw [Zem s (by omega) hsz]
 congr 2
 apply List.ext_getElem
 ·simp
 ·intro i h1 h2
  rw [List.getElem_map,List.getElem_range]
  exact Zy5 (w:=64) (by omega) hs h64 (fun x _=>by have:(2:Int) ^ 64=18446744073709551616:=rfl;omega) h2
end Go.AM.Pure
end

section
/- runs. -/
namespace Go.AM.Pure
open Go.AM
abbrev Run:=Int×Int×Int
def flatR (o:List Run):List Int:=o.flatMap fun r=>List.replicate r.2.2.toNat r.1
def lastR (p:Option Int) (o:List Run):Option Int:=match o.getLast? with
 | some r=>some r.1
 | none=>p
def okR (n:Nat) (p:Option Int):List Run→Prop
 | []=>True
 | r :: o=>r.2.1=(n:Int)∧1≤r.2.2∧p≠some r.1∧okR (n+r.2.2.toNat) (some r.1) o
theorem Zve (a b:List Run):flatR (a++b)=flatR a++flatR b:=by unfold flatR;rw [List.flatMap_append]
theorem Zdf (r:Run):flatR [r]=List.replicate r.2.2.toNat r.1:=by unfold flatR;simp
theorem Zyh (r:Run) (o:List Run):flatR (r :: o)=List.replicate r.2.2.toNat r.1++flatR o:=rfl
theorem Zpl:∀ (a b:List Run) (n:Nat) (p:Option Int),okR n p (a++b)↔okR n p a∧okR (n+(flatR a).length) (lastR p a) b
 | [],b,n,p=>by simp [okR,flatR,lastR]
 | r :: a,b,n,p=>by
  rw [List.cons_append]
  show (r.2.1=(n:Int)∧1≤r.2.2∧p≠some r.1∧okR (n+r.2.2.toNat) (some r.1) (a++b))↔(r.2.1=(n:Int)∧1≤r.2.2∧p≠some r.1∧okR (n+r.2.2.toNat) (some r.1) a)∧okR (n+(flatR (r :: a)).length) (lastR p (r :: a)) b
  rw [Zpl a b]
  have e1:n+r.2.2.toNat+(flatR a).length=n+(flatR (r :: a)).length:=by rw [Zyh,List.length_append,List.length_replicate];omega
  have e2:lastR (some r.1) a=lastR p (r :: a):=by
   unfold lastR
   cases a with
   | nil=>rfl
   | cons b a=>
    rw [List.getLast?_cons_cons]
    cases h:(b :: a).getLast? with
    | none=>simp at h
    | some r=>rfl
  rw [e1,e2]
  simp only [and_assoc]
theorem Zzh (p:Option Int) (a:List Run) (r:Run):lastR p (a++[r])=some r.1:=by unfold lastR;simp
theorem Zu01 (l:List Int) (hl:l.length≤65536):∀ (d i n:Nat) (out:List Run),d=l.length-i→i≤l.length→d<n→flatR out=l.take i→okR 0 none out→lastR none out=(l.take i).getLast?→
  ∃ o,Zqe.l0 n l l (l.length:Int) (i:Int) out=some o∧flatR o=l∧okR 0 none o:=by
 intro d
 induction d with
 | zero=>
  intro i n out hd hi hn h1 h2 _
  have:i=l.length:=by omega
  subst this
  obtain ⟨n,rfl⟩:∃ k,n=k+1:=⟨n-1,by omega⟩
  rw [List.take_length] at h1
  refine ⟨out,?_,h1,h2⟩
  show Zqe.S0 _ _ _ _ _ _=_
  unfold Zqe.S0
  rw [lt_f (by omega),cond_false]
 | succ d ih=>
  intro i n out hd hi hn h1 h2 h3
  obtain ⟨n,rfl⟩:∃ k,n=k+1:=⟨n-1,by omega⟩
  have hlt:i<l.length:=by omega
  have hfl:(flatR out).length=i:=by rw [h1,List.length_take];omega
  have hol:out.length≤i:=by
   have:∀ (o:List Run) (m:Nat) (p:Option Int),okR m p o→o.length≤(flatR o).length:=by
    intro o
    induction o with
    | nil=>intro _ _ _;exact Nat.zero_le _
    | cons r o ih=>
     intro m p h
     have:=ih _ _ h.2.2.2
     rw [Zyh,List.length_append,List.length_replicate,List.length_cons]
     have:=h.2.1
     omega
   have:=this out 0 none h2
   omega
  have hsn:(l.take (i+1)).getLast? = some l[i]:=by rw [take_one hlt,List.getLast?_concat]
  -- a new run
  have hnew:(lastR none out≠some l[i])→∃ o,Zqe.l0 n l l (l.length:Int) ((i+1:Nat):Int) (out++[(l[i],(i:Int),1)])=some o∧flatR o=l∧okR 0 none o:=fun hne=>
   ih (i+1) n _ (by omega) (by omega) (by omega) (by rw [Zve,Zdf,h1,take_one hlt];rfl)
    ((Zpl _ _ _ _).2 ⟨h2,by rw [hfl];exact ⟨by show (i:Int)=_;omega,by show (1:Int)≤1;omega,hne,trivial⟩⟩) (by rw [Zzh,hsn])
  have hset:∀ (o:List Run) (r r':Run),List.set (o++[r]) (Int.toNat (subI .i64 (lenL (o++[r])) 1)) r'=o++[r']∨¬ o.length<1000000:=fun o r r'=>by
   by_cases hb:o.length<1000000
   ·left
    rw [Zf,List.length_append,List.length_singleton,Zqb (by omega),show Int.toNat (((o.length+1:Nat):Int)-1)=o.length by omega,List.set_append_right _ _ (Nat.le_refl _),Nat.sub_self]
    rfl
   ·exact .inr hb
  have hget:∀ (o:List Run) (r:Run),o.length<1000000→List.getD (o++[r]) (Int.toNat (subI .i64 (lenL (o++[r])) 1)) (0,0,0)=r:=fun o r hb=>by
   rw [Zf,List.length_append,List.length_singleton,Zqb (by omega),show Int.toNat (((o.length+1:Nat):Int)-1)=o.length by omega,List.getD_eq_getElem?_getD,List.getElem?_append_right (Nat.le_refl _),Nat.sub_self]
   rfl
  have hin:∀ (o:List Run) (r:Run),o.length<1000000→inB (subI .i64 (lenL (o++[r])) 1) (lenL (o++[r]))=true:=fun o r hb=>by
   rw [Zf,List.length_append,List.length_singleton,Zqb (by omega),Zu (by omega)]
  have hob:out.length<1000000:=by omega
  show ∃ o,Zqe.S0 (Zqe.l0 n) _ _ _ _ _=_∧_
  unfold Zqe.S0
  rw [lt_t (by omega),cond_true,Zu (by rw [Zf];omega),cond_true,Zy hlt,Zn (by omega)]
  by_cases hi0:i=0
  ·subst hi0
   rw [eq_t (by omega),cond_true,Zna (by omega),cond_true,hin _ _ hob,cond_true,cond_true,hget _ _ hob,(hset _ _ _).resolve_right (fun h=>h hob)]
   have:=hnew (by rw [h3,List.take_zero];simp)
   exact this
  ·rw [eq_f (by omega),cond_false,Zqb (by omega),Zu (by rw [Zf];omega),cond_true]
   have hlt1:i-1<l.length:=by omega
   have hlast:(l.take i).getLast? = some l[i-1]:=by
    have:l.take i=l.take (i-1)++[l[i-1]]:=by
     have:=take_one hlt1
     rwa [show i-1+1=i by omega] at this
    rw [this,List.getLast?_concat]
   rw [hlast] at h3
   rw [show (i:Int)-1=((i-1:Nat):Int) by omega,Zy hlt1]
   by_cases hq:l[i]=l[i-1]
   ·rw [ne_f hq,cond_false]
    -- the last run is one longer
    rcases List.eq_nil_or_concat out with h0 | ⟨o,r,h0⟩
    ·subst h0;cases h3
    ·rw [List.concat_eq_append] at h0
     subst h0
     rw [Zzh] at h3
     have hr1:r.1=l[i-1]:=Option.some.inj h3
     have hob':o.length<1000000:=by rw [List.length_append] at hob;omega
     obtain ⟨k1,k2⟩:=(Zpl _ _ _ _).1 h2
     obtain ⟨k3,k4,k5,_⟩:=k2
     have hrl:r.2.2.toNat≤i:=by
      rw [Zve,Zdf,List.length_append,List.length_replicate] at hfl
      omega
     rw [hin _ _ hob',cond_true,cond_true,hget _ _ hob',(hset _ _ _).resolve_right (fun h=>h hob'),Zn (by omega)]
     refine ih (i+1) n _ (by omega) (by omega) (by omega) ?_ ((Zpl _ _ _ _).2 ⟨k1,k3,by show 1≤r.2.2+1;omega,k5,trivial⟩) (by rw [Zzh,hsn,hq];exact h3)
     rw [Zve,Zdf] at h1
     rw [Zve,Zdf,take_one hlt,← h1,List.append_assoc]
     congr 1
     show List.replicate (r.2.2+1).toNat r.1=_
     rw [show (r.2.2+1).toNat=r.2.2.toNat+1 by omega,List.replicate_succ',hr1,hq]
   ·rw [ne_t hq,cond_true,Zna (by omega),cond_true,hin _ _ hob,cond_true,cond_true,hget _ _ hob,(hset _ _ _).resolve_right (fun h=>h hob)]
    have:=hnew (by rw [h3];intro h;exact hq (Option.some.inj h).symm)
    exact this
theorem Zpv1 (l:List Int) (hl:l.length≤65536):∃ o,Zqe l=some o∧flatR o=l∧okR 0 none o:=by
 show ∃ o,Zqe.S (Zqe.l0 fu) l=_∧_
 unfold Zqe.S
 rw [Zf,lt_f (by omega),cond_false]
 exact Zu01 l hl l.length 0 fu [] (by omega) (by omega) (by unfold fu;omega) rfl trivial rfl
theorem Zbg:∀ (o:List Run) (m:Nat) (p:Option Int),okR m p o→o.length≤(flatR o).length
 | [],_,_,_=>Nat.zero_le _
 | r :: o,m,p,h=>by
  have:=Zbg o _ _ h.2.2.2
  rw [Zyh,List.length_append,List.length_replicate,List.length_cons]
  have:=h.2.1
  omega
theorem Znp {o:List Run} (h:okR 0 none o) {i:Nat} (hi:i<o.length):o[i].2.1=((flatR (o.take i)).length:Int)∧1≤o[i].2.2∧lastR none (o.take i)≠some o[i].1∧(flatR (o.take (i+1))).length=(flatR (o.take i)).length+o[i].2.2.toNat∧(flatR (o.take (i+1))).length≤(flatR o).length:=by
 have e:o=o.take i++o[i] :: o.drop (i+1):=by rw [← List.drop_eq_getElem_cons hi,List.take_append_drop]
 have h':=h
 rw [e,Zpl] at h'
 obtain ⟨_,k1,k2,k3,_⟩:=h'
 refine ⟨by rw [k1];omega,k2,k3,by rw [take_one hi,Zve,Zdf,List.length_append,List.length_replicate],?_⟩
 have h2:flatR o=flatR (o.take (i+1))++flatR (o.drop (i+1)):=by rw [← Zve,List.take_append_drop]
 rw [h2,List.length_append]
 omega
theorem Zkh1 (o:List Run) (ho:okR 0 none o) (hl:(flatR o).length≤65536):∀ (d i n:Nat),d=o.length-i→i≤o.length→d<n→
  Zkc.l0 n o ((flatR (o.take i)).length:Int) o (o.length:Int) (i:Int)=some (((flatR o).length:Int),true):=by
 have hol:=Zbg o 0 none ho
 intro d
 induction d with
 | zero=>
  intro i n hd hi hn
  have:i=o.length:=by omega
  subst this
  obtain ⟨n,rfl⟩:∃ k,n=k+1:=⟨n-1,by omega⟩
  show Zkc.S0 _ _ _ _ _ _=_
  unfold Zkc.S0
  rw [lt_f (by omega),cond_false,List.take_length]
 | succ d ih=>
  intro i n hd hi hn
  obtain ⟨n,rfl⟩:∃ k,n=k+1:=⟨n-1,by omega⟩
  have hlt:i<o.length:=by omega
  obtain ⟨k1,k2,k3,k4,k5⟩:=Znp ho hlt
  show Zkc.S0 (Zkc.l0 n) _ _ _ _ _=_
  unfold Zkc.S0
  have hadd:addI .i64 ((flatR (o.take i)).length:Int) o[i].2.2=((flatR (o.take (i+1))).length:Int):=by rw [Zn (by omega),k4];omega
  have:=ih (i+1) n (by omega) (by omega) (by omega)
  rw [lt_t (by omega),cond_true,Zu (by rw [Zf];omega),cond_true,Zy hlt,ne_f k1,cond_false,lt_f (by omega),cond_false,Zqb (by omega),lt_f (by omega),cond_false,hadd,Zn (by omega)]
  by_cases hi0:i=0
  ·rw [lt_f (by omega),cond_false]
   exact this
  ·have hlt1:i-1<o.length:=by omega
   have hl2:lastR none (o.take i)=some o[i-1].1:=by
    have:o.take i=o.take (i-1)++[o[i-1]]:=by
     have:=take_one hlt1
     rwa [show i-1+1=i by omega] at this
    rw [this,Zzh]
   rw [hl2] at k3
   rw [lt_t (by omega),cond_true,Zqb (by omega),Zu (by rw [Zf];omega),cond_true,show (i:Int)-1=((i-1:Nat):Int) by omega,Zy hlt1,eq_f (fun h=>k3 (by rw [h])),cond_false]
   exact this
theorem Zzm (o:List Run) (ho:okR 0 none o) (hl:(flatR o).length≤65536):Zkc o=some (((flatR o).length:Int),true):=by
 have hol:=Zbg o 0 none ho
 exact Zkh1 o ho hl o.length 0 fu (by omega) (by omega) (by unfold fu;omega)
def runB (o:List Run):List Int:=o.flatMap fun r=>vB r.1++vB r.2.2
theorem Zaz (r:Run) (o:List Run):runB (r :: o)=vB r.1++(vB r.2.2++runB o):=by unfold runB;rw [List.flatMap_cons,List.append_assoc]
theorem Zae1 (o:List Run) (r:Run):runB (o++[r])=runB o++(vB r.1++vB r.2.2):=by unfold runB;simp
theorem Zdj:∀ o:List Run,(runB o).length≤20*o.length
 | []=>by simp [runB]
 | r :: o=>by
  have:=Zdj o
  have:=Zbe r.1
  have:=Zbe r.2.2
  rw [Zaz,List.length_append,List.length_append,List.length_cons]
  omega
theorem Zuw:∀ o:List Run,∀ b∈runB o,0≤b∧b<256
 | [],b,h=>by cases h
 | r :: o,b,h=>by
  rw [Zaz] at h
  rcases List.mem_append.1 h with h | h
  ·exact Zzj _ b h
  ·rcases List.mem_append.1 h with h | h
   ·exact Zzj _ b h
   ·exact Zuw o b h
theorem Zrs (b:Bool×List Int) (s:ByteArray) (h:b.2.length+s.size<100000000000):Zmd b s=some (lenS s,true,false,b.2++Zk s):=by
 unfold Zmd
 show (bif roomB (b.2.length+s.size) 1 then _ else _)=_
 rw [Zna (by omega)]
 rfl
theorem Zbz (f:Bool) (l:List Int) (h:∀ b∈l,0≤b∧b<256):Zal (f,l)=some (ofBytes l,f,l):=by
 unfold Zal
 have:(l.all isByte)=true:=List.all_eq_true.2 fun b hb=>by
  have:=h b hb
  unfold isByte
  rw [le_t this.1,lt_t this.2]
  rfl
 show (bif l.all isByte then _ else _)=_
 rw [this]
 rfl
theorem Zv01 (o:List Run) (hl:o.length≤65536):∀ (d i n:Nat) (f:Bool),d=o.length-i→i≤o.length→d<n→
  ∃ s,Zfe.l0 n o (o.length:Int) (i:Int) (f,runB (o.take i))=some s∧s=(ofBytes (runB o),0):=by
 intro d
 induction d with
 | zero=>
  intro i n f hd hi hn
  have:i=o.length:=by omega
  subst this
  obtain ⟨n,rfl⟩:∃ k,n=k+1:=⟨n-1,by omega⟩
  refine ⟨_,?_,rfl⟩
  show Zfe.S0 _ _ _ _ _=_
  unfold Zfe.S0
  rw [lt_f (by omega),cond_false,List.take_length,Zbz _ _ (Zuw o)]
  rfl
 | succ d ih=>
  intro i n f hd hi hn
  obtain ⟨n,rfl⟩:∃ k,n=k+1:=⟨n-1,by omega⟩
  have hlt:i<o.length:=by omega
  have h1:=Zdj (o.take i)
  rw [List.length_take] at h1
  have h2:=Zbe o[i].1
  have h3:=Zbe o[i].2.2
  show ∃ s,Zfe.S0 (Zfe.l0 n) _ _ _ _=_∧_
  unfold Zfe.S0
  rw [lt_t (by omega),cond_true,Zu (by rw [Zf];omega),cond_true,Zy hlt,Zhh,Option.bind_some,Zwe,Zrs _ _ (by rw [Zv];show (runB _).length+_<_;omega),Option.bind_some,Zhh,Option.bind_some,Zwe,
   Zwc (Zzj _),Zrs _ _ (by rw [Zv];show (runB _++vB _).length+_<_;rw [List.length_append];omega),Option.bind_some,Zwc (Zzj _),Zn (by omega)]
  have:=ih (i+1) n false (by omega) (by omega) (by omega)
  rw [take_one hlt,Zae1,← List.append_assoc] at this
  exact this
theorem Zw5 (o:List Run) (ho:okR 0 none o) (hl:(flatR o).length≤65536):Zfe o=some (ofBytes (runB o),0):=by
 have hol:=Zbg o 0 none ho
 show Zfe.S (Zfe.l0 fu) o=_
 unfold Zfe.S
 rw [Zzm o ho hl,Option.bind_some]
 show Zfe.l0 fu o (o.length:Int) 0 (true,[])=_
 obtain ⟨s,h1,rfl⟩:=Zv01 o (by omega) o.length 0 fu true (by omega) (by omega) (by unfold fu;omega)
 exact h1
theorem Zqv1 (o:List Run) (ho:okR 0 none o) (hl:(flatR o).length≤65536) (h64:∀ r∈o,in64 r.1):∀ (d i n:Nat) (s:ByteArray),d=o.length-i→i≤o.length→d<n→Zk s=runB (o.drop i)→
  Zja.l0 (Zja.t1 fu) n s ((flatR o).length:Int) (o.take i) ((flatR (o.take i)).length:Int)=some (o,0):=by
 have hol:=Zbg o 0 none ho
 intro d
 induction d with
 | zero=>
  intro i n s hd hi hn hs
  have:i=o.length:=by omega
  subst this
  obtain ⟨n,rfl⟩:∃ k,n=k+1:=⟨n-1,by omega⟩
  rw [List.drop_length] at hs
  have he:s=eB:=size0.2 (by rw [← Zha,hs];rfl)
  show Zja.S0 Zja.S1 _ _ _ _ _=_
  unfold Zja.S0
  rw [eqS_t he,Bool.not_true,cond_false,List.take_length]
  unfold Zja.S1
  rw [Zzm o ho hl,Option.bind_some]
  dsimp only
  rw [Bool.not_true,cond_false,ne_f rfl,cond_false]
 | succ d ih=>
  intro i n s hd hi hn hs
  obtain ⟨n,rfl⟩:∃ k,n=k+1:=⟨n-1,by omega⟩
  have hlt:i<o.length:=by omega
  obtain ⟨k1,k2,k3,k4,k5⟩:=Znp ho hlt
  rw [List.drop_eq_getElem_cons hlt,Zaz] at hs
  have h2:=Zbe o[i].1
  have h3:=Zbe o[i].2.2
  have hsz:s.size=(vB o[i].1).length+((vB o[i].2.2).length+(runB (o.drop (i+1))).length):=by rw [← Zha,hs,List.length_append,List.length_append]
  have hrl:=Zdj (o.drop (i+1))
  rw [List.length_drop] at hrl
  have hne:s≠eB:=fun h=>by have:=size0.1 h;omega
  have hcut:=Znf hs
  have h64':in64 o[i].1:=h64 _ (List.getElem_mem hlt)
  have hc64:in64 o[i].2.2:=by unfold in64;omega
  show Zja.S0 _ (Zja.l0 (Zja.t1 fu) n) s _ _ _=_
  unfold Zja.S0
  rw [eqS_f hne,Bool.not_false,cond_true,Zwg h64' hs,Option.bind_some]
  dsimp only
  rw [ne_f rfl,cond_false,Zzb (by rw [Zma];omega),cond_true,Zwg hc64 hcut,Option.bind_some]
  dsimp only
  rw [ne_f rfl,cond_false,lt_f (by omega),cond_false,Zqb (by omega),lt_f (by omega),cond_false,Zna (by rw [List.length_take];omega),cond_true,Zn (by omega),Zzb (by rw [Zma];omega),cond_true]
  have hadd:addI .i64 ((flatR (o.take i)).length:Int) o[i].2.2=((flatR (o.take (i+1))).length:Int):=by rw [Zn (by omega),k4];omega
  rw [hadd,show (o[i].1,((flatR (o.take i)).length:Int),o[i].2.2)=o[i] by rw [← k1],← take_one hlt]
  refine ih (i+1) n _ (by omega) (by omega) (by omega) ?_
  have:Zk s=(vB o[i].1++vB o[i].2.2)++runB (o.drop (i+1)):=by rw [hs,List.append_assoc]
  have:=Znf this
  rw [List.length_append,Int.natCast_add] at this
  exact this
theorem Zmr (o:List Run) (ho:okR 0 none o) (hl:(flatR o).length≤65536) (h64:∀ r∈o,in64 r.1) {s:ByteArray} (hs:Zk s=runB o):Zja s ((flatR o).length:Int)=some (o,0):=by
 have hol:=Zbg o 0 none ho
 show Zja.S (Zja.l0 (Zja.t1 fu) fu) s _=_
 unfold Zja.S
 rw [lt_f (by omega),cond_false,lt_f (by omega),cond_false]
 exact Zqv1 o ho hl h64 o.length 0 fu s (by omega) (by omega) (by unfold fu;omega) hs
theorem Zw01 {c:Nat} (h:c≤65536):Zbn 1 (c:Int)=(0,(c:Int)):=by
 have h1:shrI .u64 1 32=0:=by decide +kernel
 have h2:andI .u64 1 4294967295=1:=by decide +kernel
 have h3:shrI .u64 (c:Int) 32=0:=by
  have:=shrU (c:Int) 32 (by omega)
  rw [show ((32:Nat):Int)=32 from rfl] at this
  rw [this]
  exact Int.ediv_eq_zero_of_lt (by omega) (by omega)
 have h4:andI .u64 (c:Int) 4294967295=(c:Int):=by
  unfold andI
  show IntKind.wrap .u64 ((BitVec.ofInt 64 (c:Int) &&& BitVec.ofInt 64 4294967295).toNat:Int)=_
  rw [BitVec.toNat_and,show (BitVec.ofInt 64 4294967295).toNat=2 ^ 32-1 from rfl,Nat.and_two_pow_sub_one_eq_mod,show (BitVec.ofInt 64 (c:Int)).toNat=c by rw [BitVec.toNat_ofInt];omega,Zyd]
  omega
 have h5:mulI .u64 1 (c:Int)=(c:Int):=by unfold mulI;rw [Zyd];omega
 have h6:∀ x:Int,mulI .u64 0 x=0:=fun x=>by unfold mulI;rw [Int.zero_mul];rfl
 have h7:mulI .u64 1 0=0:=by decide +kernel
 have h8:addI .u64 0 0=0:=by decide +kernel
 have h9:shrI .u64 0 32=0:=by decide +kernel
 have h10:andI .u64 0 4294967295=0:=by decide +kernel
 unfold Zbn Zgo
 simp only [h1,h2,h3,h4,h5,h6,h7,h8,h9,h10]
theorem Zgk2 (v:Int) (c:Nat) (hc:c≤65536):∀ (d k n:Nat) (t:List Int),d=c-k→k≤c→1≤k→d<n→t.length=c→t.take k=List.replicate k v→
  Zw.l2 n (k:Int) t=some (List.replicate c v):=by
 intro d
 induction d using Nat.strongRecOn with
 | ind d ih=>
 intro k n t hd hk h1 hn ht htk
 obtain ⟨n,rfl⟩:∃ j,n=j+1:=⟨n-1,by omega⟩
 show Zw.S2 (Zw.l2 n) _ _=_
 unfold Zw.S2
 by_cases hkc:k=c
 ·subst hkc
  rw [lt_f (by rw [Zf];omega),cond_false,← htk,List.take_of_length_le (by omega)]
 ·rw [lt_t (by rw [Zf];omega),cond_true,Zzb (by rw [Zf];omega),cond_true,Zzb (by rw [Zf];omega),cond_true,Zf,ht,show Int.toNat (c:Int)=c from rfl,show Int.toNat (k:Int)=k from rfl,Nat.sub_zero,List.drop_zero,htk,List.take_replicate,List.length_replicate]
  rw [Zn (by omega)]
  have:=ih (c-(k+min (c-k) k)) (by omega) (k+min (c-k) k) n (splA t k (List.replicate (min (c-k) k) v)) rfl (by omega) (by omega) (by omega) (by unfold splA;simp;omega) (by
   unfold splA
   rw [← List.append_assoc,List.take_append_of_le_length (by simp;omega),List.take_of_length_le (by simp;omega),htk,List.replicate_append_replicate])
  rw [← this]
  congr 1
theorem Zx01 (v:Int) {c:Nat} (h1:1≤c) (hc:c≤65536):Zw [v] (c:Int)=some (List.replicate c v):=by
 show Zw.S (Zw.t0 fu) [v] _=_
 unfold Zw.S
 rw [lt_f (by omega),cond_false]
 show Zw.S0 (Zw.t1 18446744073709551615) [v] (c:Int)=_
 unfold Zw.S0
 have e1:IntKind.wrap .u64 (lenL [v])=1:=by rw [Zf,Zyd];rfl
 have e2:IntKind.wrap .u64 (c:Int)=(c:Int):=by rw [Zyd];omega
 rw [e1,e2,Zw01 hc]
 dsimp only
 rw [lt_f (by omega),cond_false,lt_f (by omega),cond_false]
 show Zw.S1 (Zw.l2 18446744073709551614) [v] (c:Int)=_
 unfold Zw.S1
 rw [Zde (by omega),le_t (by omega),Zna (by show c*8≤_;omega),List.length_replicate,show Int.toNat (c:Int)=c from rfl]
 obtain ⟨c',rfl⟩:∃ k,c=k+1:=⟨c-1,by omega⟩
 have e3:List.take (c'+1) [v]=[v]:=by rw [List.take_of_length_le (by simp)]
 rw [e3]
 exact Zgk2 v (c'+1) hc c' 1 18446744073709551614 _ (by omega) (by omega) (by omega) (by omega) (by unfold splA;simp) (by unfold splA;simp)
theorem Zy01 (o:List Run) (ho:okR 0 none o) (hl:(flatR o).length≤65536):∀ (d i n:Nat),d=o.length-i→i≤o.length→d<n→
  Zwd.l0 n (flatR (o.take i)) o (o.length:Int) (i:Int)=some (flatR o,0):=by
 have hol:=Zbg o 0 none ho
 intro d
 induction d with
 | zero=>
  intro i n hd hi hn
  have:i=o.length:=by omega
  subst this
  obtain ⟨n,rfl⟩:∃ k,n=k+1:=⟨n-1,by omega⟩
  show Zwd.S0 _ _ _ _ _=_
  unfold Zwd.S0
  rw [lt_f (by omega),cond_false,List.take_length]
 | succ d ih=>
  intro i n hd hi hn
  obtain ⟨n,rfl⟩:∃ k,n=k+1:=⟨n-1,by omega⟩
  have hlt:i<o.length:=by omega
  obtain ⟨k1,k2,k3,k4,k5⟩:=Znp ho hlt
  show Zwd.S0 (Zwd.l0 n) _ _ _ _=_
  unfold Zwd.S0
  have hrep:=Zx01 o[i].1 (c:=o[i].2.2.toNat) (by omega) (by omega)
  rw [show ((o[i].2.2.toNat:Nat):Int)=o[i].2.2 by omega] at hrep
  rw [lt_t (by omega),cond_true,Zu (by rw [Zf];omega),cond_true,Zy hlt,hrep,Option.bind_some,Zna (by rw [List.length_replicate];omega),cond_true,Zn (by omega)]
  have:=ih (i+1) n (by omega) (by omega) (by omega)
  rw [take_one hlt,Zve,Zdf] at this
  exact this
theorem Zuk (o:List Run) (ho:okR 0 none o) (hl:(flatR o).length≤65536):Zwd o=some (flatR o,0):=by
 have hol:=Zbg o 0 none ho
 show Zwd.S (Zwd.l0 fu) o=_
 unfold Zwd.S
 rw [Zzm o ho hl,Option.bind_some]
 dsimp only
 rw [Bool.not_true,cond_false,le_t (by omega),Zna (by show (flatR o).length*8≤_;omega)]
 exact Zy01 o ho hl o.length 0 fu (by omega) (by omega) (by unfold fu;omega)
end Go.AM.Pure
end

section
/- frame: numbers by how far each is from the one ahead. -/
namespace Go.AM.Pure
open Go.AM
abbrev W64 (x:Int):Int:=IntKind.wrap .i64 x
theorem Zgc1 {a b:Int} (h:a % 18446744073709551616=b % 18446744073709551616):W64 a=W64 b:=by
 show IntKind.wrap .i64 a=IntKind.wrap .i64 b
 rw [Zph,Zph,h]
theorem W_mod (a:Int):W64 a % 18446744073709551616=a % 18446744073709551616:=by
 show IntKind.wrap .i64 a % _=_
 rw [Zph]
 split <;> omega
theorem Zt01 (a b:Int):Zzp a b=W64 (b-a):=by
 unfold Zzp subI
 rw [Zyd,Zyd,Zyd]
 exact Zgc1 (by omega)
theorem Ztw (a b:Int):Zfj a b=W64 (a+b):=by
 unfold Zfj addI
 rw [Zyd,Zyd,Zyd]
 exact Zgc1 (by omega)
def diffs (l:List Int):List Int:=(List.range (l.length-1)).map fun i=>W64 (l.getD (i+1) 0-l.getD i 0)
theorem Zsk (l:List Int):(diffs l).length=l.length-1:=by unfold diffs;simp
theorem getD_at {l:List Int} {i:Nat} (h:i<l.length):l.getD i 0=l[i]:=by rw [List.getD_eq_getElem?_getD,List.getElem?_eq_getElem h];rfl
theorem Zzy {l:List Int} {i:Nat} (h:i+1<l.length) (hi:i<(diffs l).length):(diffs l)[i]=W64 (l[i+1]-l[i]):=by
 have h2:(diffs l)[i]? = some (W64 (l[i+1]-l[i])):=by
  unfold diffs
  rw [List.getElem?_map,List.getElem?_range (show i<l.length-1 by omega),Option.map_some,getD_at h,getD_at (show i<l.length by omega)]
 rw [List.getElem?_eq_getElem hi] at h2
 exact Option.some.inj h2
theorem Zfk2 (x:List Int) (hx:x.length<4611686018427387904):∀ (d i n:Nat) (m:Int),d=x.length-i→i≤x.length→d<n→Zoa.l1 n x m (i:Int)=some ((x.drop i).foldl minI m):=by
 intro d
 induction d with
 | zero=>
  intro i n m hd hi hn
  have:i=x.length:=by omega
  subst this
  obtain ⟨n,rfl⟩:∃ k,n=k+1:=⟨n-1,by omega⟩
  show Zoa.S1 _ _ _ _=_
  unfold Zoa.S1
  rw [lt_f (by rw [Zf];omega),cond_false,List.drop_length]
  rfl
 | succ d ih=>
  intro i n m hd hi hn
  obtain ⟨n,rfl⟩:∃ k,n=k+1:=⟨n-1,by omega⟩
  have hlt:i<x.length:=by omega
  show Zoa.S1 (Zoa.l1 n) _ _ _=_
  unfold Zoa.S1
  rw [lt_t (by rw [Zf];omega),cond_true,Zu (by rw [Zf];omega),cond_true,Zy hlt,Zn (by omega),List.drop_eq_getElem_cons hlt,List.foldl_cons]
  exact ih (i+1) n _ (by omega) (by omega) (by omega)
def minF (x:List Int):Int:=(x.drop 1).foldl minI (x.getD 0 0)
theorem min_eq (x:List Int) (hx:x.length<4611686018427387904) (h0:0<x.length):Zoa x=some (minF x):=by
 show Zoa.S (Zoa.t0 fu) x=_
 unfold Zoa.S
 rw [Zf,lt_f (by omega),cond_false]
 show Zoa.S0 (Zoa.l1 18446744073709551615) x=_
 unfold Zoa.S0
 rw [Zu (by rw [Zf];omega),cond_true]
 exact Zfk2 x hx (x.length-1) 1 18446744073709551615 _ rfl (by omega) (by omega)
theorem Zcy:∀ (l:List Int) (m:Int),l.foldl minI m=m∨l.foldl minI m∈l
 | [],m=> .inl rfl
 | a :: l,m=>by
  rw [List.foldl_cons]
  rcases Zcy l (minI m a) with h | h
  ·rw [h]
   unfold minI
   split
   ·exact .inr (List.mem_cons_self ..)
   ·exact .inl rfl
  ·exact .inr (List.mem_cons_of_mem _ h)
theorem Zzd1 {x:List Int} (h0:0<x.length) (h:∀ a∈x,in64 a):in64 (minF x):=by
 unfold minF
 rcases Zcy (x.drop 1) (x.getD 0 0) with h1 | h1
 ·rw [h1,getD_at h0];exact h _ (List.getElem_mem h0)
 ·exact h _ (List.mem_of_mem_drop h1)
theorem Zlc3 (m:Int) (D:List Int) (hD:D.length≤65536):∀ (d i n:Nat),d=D.length-i→i≤D.length→d<n→
  Zqa.l2 n m (D.length:Int) (i:Int) ((D.take i).map (fun x=>W64 (x-m))++D.drop i)=some (D.map (fun x=>W64 (x-m)),m):=by
 intro d
 induction d with
 | zero=>
  intro i n hd hi hn
  have:i=D.length:=by omega
  subst this
  obtain ⟨n,rfl⟩:∃ k,n=k+1:=⟨n-1,by omega⟩
  show Zqa.S2 _ _ _ _ _=_
  unfold Zqa.S2
  rw [lt_f (by omega),cond_false,List.drop_length,List.append_nil,List.take_length]
 | succ d ih=>
  intro i n hd hi hn
  obtain ⟨n,rfl⟩:∃ k,n=k+1:=⟨n-1,by omega⟩
  have hlt:i<D.length:=by omega
  show Zqa.S2 (Zqa.l2 n) _ _ _ _=_
  unfold Zqa.S2
  have hlen:((D.take i).map (fun x=>W64 (x-m))++D.drop i).length=D.length:=by rw [List.length_append,List.length_map,List.length_take,List.length_drop];omega
  have hget:List.getD ((D.take i).map (fun x=>W64 (x-m))++D.drop i) (Int.toNat (i:Int)) 0=D[i]:=by
   rw [show Int.toNat (i:Int)=i from rfl,List.getD_eq_getElem?_getD,List.getElem?_append_right (by rw [List.length_map,List.length_take];omega),List.length_map,List.length_take,Nat.min_eq_left (Nat.le_of_lt hlt),Nat.sub_self,List.getElem?_drop,Nat.add_zero,List.getElem?_eq_getElem hlt]
   rfl
  rw [lt_t (by omega),cond_true,Zu (by rw [Zf,hlen];omega),cond_true,cond_true,hget,Zt01,Zn (by omega),show Int.toNat (i:Int)=i from rfl,List.set_append_right _ _ (by rw [List.length_map,List.length_take];omega),List.length_map,List.length_take,Nat.min_eq_left (Nat.le_of_lt hlt),Nat.sub_self,
   List.drop_eq_getElem_cons hlt,List.set_cons_zero]
  have:=ih (i+1) n (by omega) (by omega) (by omega)
  rw [take_one hlt,List.map_append,List.append_assoc] at this
  exact this
theorem Zmc3 (l:List Int) (hl:l.length≤65536) (h2:2≤l.length):∀ (d i n:Nat),d=l.length-1-i→i≤l.length-1→d<n→
  Zqa.l0 (Zqa.t1 fu) n l ((i+1:Nat):Int) ((diffs l).take i)=some ((diffs l).map (fun x=>W64 (x-minF (diffs l))),minF (diffs l)):=by
 intro d
 induction d with
 | zero=>
  intro i n hd hi hn
  have:i=l.length-1:=by omega
  subst this
  obtain ⟨n,rfl⟩:∃ k,n=k+1:=⟨n-1,by omega⟩
  have hdl:=Zsk l
  show Zqa.S0 (Zqa.S1 (Zqa.l2 18446744073709551615)) _ _ _ _=_
  unfold Zqa.S0
  rw [lt_f (by rw [Zf];omega),cond_false,List.take_of_length_le (by omega)]
  unfold Zqa.S1
  rw [min_eq _ (by omega) (by omega),Option.bind_some]
  exact Zlc3 (minF (diffs l)) (diffs l) (by omega) (diffs l).length 0 18446744073709551615 (by omega) (by omega) (by omega)
 | succ d ih=>
  intro i n hd hi hn
  obtain ⟨n,rfl⟩:∃ k,n=k+1:=⟨n-1,by omega⟩
  have hdl:=Zsk l
  have hlt:i+1<l.length:=by omega
  have hlt0:i<l.length:=by omega
  have hdi:i<(diffs l).length:=by omega
  show Zqa.S0 _ (Zqa.l0 (Zqa.t1 fu) n) _ _ _=_
  unfold Zqa.S0
  rw [lt_t (by rw [Zf];omega),cond_true,Zqb (by omega),show ((i+1:Nat):Int)-1=(i:Int) by omega,Zu (by rw [Zf];omega),cond_true,Zu (by rw [Zf];omega),cond_true,Zna (by rw [List.length_take];omega),cond_true,Zy hlt,Zy hlt0,Zt01,Zn (by omega)]
  have hd1:=Zzy hlt hdi
  have:=ih (i+1) n (by omega) (by omega) (by omega)
  rw [take_one hdi,hd1] at this
  exact this
def Zuc (l:List Int):List Int:=(diffs l).map fun x=>W64 (x-minF (diffs l))
theorem Zhc1 (l:List Int) (hl:l.length≤65536) (h2:2≤l.length):Zqa l=some (Zuc l,minF (diffs l)):=by
 show Zqa.S (Zqa.l0 (Zqa.t1 fu) fu) l=_
 unfold Zqa.S
 rw [Zf,le_t (by omega),Zna (by show l.length*8≤_;omega)]
 exact Zmc3 l hl h2 (l.length-1) 0 fu (by omega) (by omega) (by unfold fu;omega)
theorem Zxh (l:List Int):(Zuc l).length=l.length-1:=by unfold Zuc;rw [List.length_map,Zsk]
theorem Zip1 (l:List Int):∀ x∈Zuc l,in64 x:=fun x hx=>by
 unfold Zuc at hx
 obtain ⟨_,_,rfl⟩:=List.mem_map.1 hx
 exact Zef _
theorem Zl8 (l:List Int):∀ x∈diffs l,in64 x:=fun x hx=>by
 unfold diffs at hx
 obtain ⟨_,_,rfl⟩:=List.mem_map.1 hx
 exact Zef _
def Ztk (l:List Int) (v:Nat):List Int:=
 if l.length=0 then [] else if l.length=1 then vB (l.getD 0 0) else vB (l.getD 0 0)++(vB (minF (diffs l))++((v:Int) :: packB (Zuc l) v))
theorem Zb4 {v:Nat} (h:v≤64):IntKind.wrap .u8 (v:Int)=(v:Int):=by rw [Zth];omega
theorem Zyn (l:List Int) (hl:l.length≤65536) {v:Nat} (hv:Zxb (Zuc l)=some (v:Int)) (h64:v≤64):Zpn l=some (ofBytes (Ztk l v),0):=by
 unfold Zpn Ztk
 rw [Zf,lt_f (by omega),cond_false]
 by_cases h0:l.length=0
 ·rw [eq_t (by omega),cond_true,if_pos h0]
  rfl
 ·rw [eq_f (by omega),cond_false,if_neg h0]
  have hl0:0<l.length:=by omega
  have hn0:nth l 0 0=l.getD 0 0:=rfl
  by_cases h1:l.length=1
  ·rw [eq_t (by omega),cond_true,if_pos h1,Zu (by omega),cond_true,hn0,Zhh,Option.bind_some,Zwe]
  ·rw [eq_f (by omega),cond_false,if_neg h1,Zhc1 l hl (by omega),Option.bind_some]
   dsimp only
   have hfl:=Zxh l
   have hb:(Zuc l).length*v≤65536*64:=Nat.mul_le_mul (by omega) h64
   have hpl:=Zpe (Zuc l) v
   have k1:=Zbe (l.getD 0 0)
   have k2:=Zbe (minF (diffs l))
   rw [hv,Option.bind_some,Zim (Zuc l) h64 (by omega) hv (Nat.le_refl _),Option.bind_some,Zu (by omega),cond_true,hn0,Zhh,Option.bind_some,Zhh,Option.bind_some,Zwe,Zwe,Zme,Zb4 h64,Zme]
   have r1:roomS (ofBytes (vB (l.getD 0 0))) (ofBytes (vB (minF (diffs l))))=true:=decide_eq_true (by rw [Zv,Zv];omega)
   have r2:roomS (ofBytes (vB (l.getD 0 0)++vB (minF (diffs l)))) (ofBytes [(v:Int)])=true:=decide_eq_true (by rw [Zv,Zv,List.length_append,List.length_singleton];omega)
   have r3:roomS (ofBytes (vB (l.getD 0 0)++vB (minF (diffs l))++[(v:Int)])) (ofBytes (packB (Zuc l) v))=true:=decide_eq_true (by rw [Zv,Zv,List.length_append,List.length_append,List.length_singleton];omega)
   dsimp only
   rw [r1,r2,r3,Zme,cond_true,cond_true,cond_true]
   simp
theorem Znv1 (l:List Int) {v:Nat} (h:v≤64):∀ b∈Ztk l v,0≤b∧b<256:=fun b hb=>by
 unfold Ztk at hb
 split at hb
 ·cases hb
 ·split at hb
  ·exact Zzj _ b hb
  ·rcases List.mem_append.1 hb with hb | hb
   ·exact Zzj _ b hb
   ·rcases List.mem_append.1 hb with hb | hb
    ·exact Zzj _ b hb
    ·rcases List.mem_cons.1 hb with rfl | hb
     ·omega
     ·exact Zxk _ _ b hb
theorem Zov1 (l:List Int) (hl:l.length≤65536) (h2:2≤l.length) (h64:∀ x∈l,in64 x) {o2:ByteArray→List Int→Bool→Option (List Int×Int)} {s:ByteArray} {bad:Bool}:∀ (d i n:Nat),d=l.length-1-i→i≤l.length-1→d<n→
  Zo.l1 o2 n s (l.take (i+1)) (minF (diffs l)) (Zuc l) ((Zuc l).length:Int) (i:Int) bad=o2 s l bad:=by
 have hfl:=Zxh l
 intro d
 induction d with
 | zero=>
  intro i n hd hi hn
  have:i=l.length-1:=by omega
  subst this
  obtain ⟨n,rfl⟩:∃ k,n=k+1:=⟨n-1,by omega⟩
  show Zo.S1 _ _ _ _ _ _ _ _ _=_
  unfold Zo.S1
  rw [lt_f (by omega),cond_false,List.take_of_length_le (by omega)]
 | succ d ih=>
  intro i n hd hi hn
  obtain ⟨n,rfl⟩:∃ k,n=k+1:=⟨n-1,by omega⟩
  have hlt:i+1<l.length:=by omega
  have hlt0:i<l.length:=by omega
  have hfi:i<(Zuc l).length:=by omega
  show Zo.S1 o2 (Zo.l1 o2 n) _ _ _ _ _ _ _=_
  unfold Zo.S1
  have htl:(l.take (i+1)).length=i+1:=by rw [List.length_take];omega
  have hidx:subI .i64 (lenL (l.take (i+1))) 1=(i:Int):=by rw [Zf,htl,Zqb (by omega)];omega
  have hlast:nth (l.take (i+1)) (i:Int) 0=l[i]:=by
   rw [Zy (show i<(l.take (i+1)).length by omega),List.getElem_take]
  have hval:Zfj (Zfj l[i] (minF (diffs l))) (Zuc l)[i]=l[i+1]:=by
   rw [Ztw,Ztw]
   have hf:(Zuc l)[i]=W64 (W64 (l[i+1]-l[i])-minF (diffs l)):=by
    have hdl:=Zsk l
    have h2:(Zuc l)[i]? = some (W64 ((diffs l)[i]'(by omega)-minF (diffs l))):=by
     unfold Zuc
     rw [List.getElem?_map,List.getElem?_eq_getElem (show i<(diffs l).length by omega),Option.map_some]
    rw [List.getElem?_eq_getElem hfi] at h2
    rw [Option.some.inj h2,Zzy hlt]
   rw [hf]
   have h:=h64 l[i+1] (List.getElem_mem hlt)
   rw [show W64 (W64 (l[i]+minF (diffs l))+W64 (W64 (l[i+1]-l[i])-minF (diffs l)))=W64 l[i+1] from Zgc1 (by
    have e1:=W_mod (l[i]+minF (diffs l))
    have e2:=W_mod (W64 (l[i+1]-l[i])-minF (diffs l))
    have e3:=W_mod (l[i+1]-l[i])
    omega)]
   exact Zxg h
  rw [lt_t (by omega),cond_true,Zu (by rw [Zf];omega),cond_true,hidx,Zu (by rw [Zf];omega),cond_true,Zna (by omega),cond_true,hlast,Zy hfi,hval,Zn (by omega),← take_one hlt]
  exact ih (i+1) n (by omega) (by omega) (by omega)
theorem Zbg1 (l:List Int) (hl:l.length≤65536) (h64:∀ x∈l,in64 x) {v:Nat} (hv:Zxb (Zuc l)=some (v:Int)) (hv64:v≤64) (hwd:Wd (Zuc l) v) {s:ByteArray} (hs:Zk s=Ztk l v):
  Zo s (l.length:Int)=some (l,0):=by
 have hse:s=ofBytes (Ztk l v):=by rw [← hs,Zrd]
 have hS2:Zo.S2 s l false=some (l,0):=by
  unfold Zo.S2
  rw [Zyn l hl hv hv64,Option.bind_some]
  dsimp only
  rw [cond_false,ne_f rfl,cond_false,eqS_t hse.symm]
  rfl
 show Zo.S (Zo.t0 fu) s _=_
 unfold Zo.S
 rw [lt_f (by omega),cond_false,lt_f (by omega),cond_false]
 by_cases h0:l.length=0
 ·rw [lt_f (by omega),cond_false]
  have:l=[]:=List.eq_nil_of_length_eq_zero h0
  subst this
  show Zo.S0 (Zo.l1 (Zo.t2 _) _) Zo.S2 s _ [] s false=_
  unfold Zo.S0
  rw [lt_f (by simp),cond_false]
  exact hS2
 ·have hl0:0<l.length:=by omega
  have hx64:in64 (l.getD 0 0):=by rw [getD_at hl0];exact h64 _ (List.getElem_mem hl0)
  rw [lt_t (by omega),cond_true]
  unfold Ztk at hs
  rw [if_neg h0] at hs
  have htake1:l.take 1=[l.getD 0 0]:=by
   rw [show (1:Nat)=0+1 from rfl,take_one hl0,getD_at hl0];rfl
  by_cases h1:l.length=1
  ·rw [if_pos h1] at hs
   have hs':Zk s=vB (l.getD 0 0)++[]:=by rw [hs,List.append_nil]
   have hsz:s.size=(vB (l.getD 0 0)).length:=by rw [← Zha,hs]
   have h1w:Zed s false=some (l.getD 0 0,cutS s ((vB (l.getD 0 0)).length:Int) (lenS s),false):=by
    unfold Zed
    rw [Zwg hx64 hs',Option.bind_some]
    dsimp only
    rw [cond_false,Zzb (by rw [Zma];omega),cond_true,ne_f rfl]
   rw [h1w,Option.bind_some]
   show Zo.S0 (Zo.l1 (Zo.t2 _) _) Zo.S2 s _ _ _ _=_
   unfold Zo.S0
   rw [lt_f (by omega),cond_false]
   dsimp only
   have:[l.getD 0 0]=l:=by rw [← htake1,List.take_of_length_le (by omega)]
   rw [this]
   exact hS2
  ·rw [if_neg h1] at hs
   have hfl:=Zxh l
   have hdl:=Zsk l
   have hm64:in64 (minF (diffs l)):=Zzd1 (by omega) (Zl8 l)
   have hsz:s.size=(vB (l.getD 0 0)).length+((vB (minF (diffs l))).length+((packB (Zuc l) v).length+1)):=by rw [← Zha,hs,List.length_append,List.length_append,List.length_cons]
   have h1w:Zed s false=some (l.getD 0 0,cutS s ((vB (l.getD 0 0)).length:Int) (lenS s),false):=by
    unfold Zed
    rw [Zwg hx64 hs,Option.bind_some]
    dsimp only
    rw [cond_false,Zzb (by rw [Zma];omega),cond_true,ne_f rfl]
   have hc1:=Znf hs
   generalize hs1:cutS s ((vB (l.getD 0 0)).length:Int) (lenS s)=s1 at h1w hc1
   have hsz1:s1.size=(vB (minF (diffs l))).length+((packB (Zuc l) v).length+1):=by rw [← Zha,hc1,List.length_append,List.length_cons]
   have h2w:Zed s1 false=some (minF (diffs l),cutS s1 ((vB (minF (diffs l))).length:Int) (lenS s1),false):=by
    unfold Zed
    rw [Zwg hm64 hc1,Option.bind_some]
    dsimp only
    rw [cond_false,Zzb (by rw [Zma];omega),cond_true,ne_f rfl]
   have hc2:=Znf hc1
   generalize hs2:cutS s1 ((vB (minF (diffs l))).length:Int) (lenS s1)=s2 at h2w hc2
   have hsz2:s2.size=(packB (Zuc l) v).length+1:=by rw [← Zha,hc2,List.length_cons]
   have hne:s2≠eB:=fun h=>by have:=size0.1 h;omega
   have hb0:byteAt s2 0=(v:Int):=Zdg hc2 (i:=0) rfl
   have hc3:Zk (cutS s2 1 (lenS s2))=packB (Zuc l) v:=by
    have:=Znf (a:=[(v:Int)]) (rest:=packB (Zuc l) v) hc2
    exact this
   have hpk:=Zvk (l:=Zuc l) (w:=v) hv64 (by omega) (Zip1 l) hwd.1 hc3
   rw [h1w,Option.bind_some]
   show Zo.S0 (Zo.l1 (Zo.t2 18446744073709551615) 18446744073709551615) (Zo.t2 18446744073709551615) s _ _ _ _=_
   unfold Zo.S0
   rw [lt_t (by omega),cond_true]
   dsimp only
   rw [h2w,Option.bind_some]
   dsimp only
   rw [cond_false,eqS_f hne,cond_false,Zzb (by rw [Zma];omega),cond_true,Zu (by rw [Zma];omega),cond_true,hb0,Zde (by omega),Zqb (by omega),show (l.length:Int)-1=((Zuc l).length:Int) by omega,hpk,Option.bind_some]
   dsimp only
   rw [ne_f rfl,cond_false,← htake1]
   have:=Zov1 l hl (by omega) h64 (o2:=Zo.t2 18446744073709551615) (s:=s) (bad:=false) (l.length-1) 0 18446744073709551615 (by omega) (by omega) (by omega)
   rw [Zf]
   exact this.trans hS2
end Go.AM.Pure
end

section
/- dict: numbers by their places among the distinct ones. -/
namespace Go.AM.Pure
open Go.AM
section
variable {α : Type} [Inhabited α] [DecidableEq α]
omit [DecidableEq α] in
theorem Zol (z:List α) {i:Nat} (h:i<z.length):z.toArray[i]! = z[i]:=by
 rw [getElem!_pos _ i (by simpa using h),List.getElem_toArray]
theorem Zvy {le:α→α→Prop} (hr:∀ a,le a a) (ht:∀ a b c,le a b→le b c→le a c) (ha:∀ a b,le a b→le b a→a=b) {z:List α} (hz:z.Pairwise le):
  (Lib.compact z).Pairwise (fun a b=>le a b∧a≠b)∧∀ x,x∈Lib.compact z↔x∈z:=by
 have hs:∀ i j,(hij:i≤j)→(h:j<z.length)→le (z[i]'(by omega)) z[j]:=fun i j hij h=>by
  by_cases he:i=j
  ·subst he;exact hr _
  ·exact (List.pairwise_iff_getElem.1 hz) i j (by omega) h (by omega)
 unfold Lib.compact Lib.compactUpTo
 constructor
 ·rw [List.pairwise_map]
  refine List.Pairwise.imp_of_mem ?_ (List.Pairwise.filter _ List.pairwise_lt_range)
  intro a b hma hmb hab
  obtain ⟨h1,_⟩:=List.mem_filter.1 hma
  obtain ⟨h2,h3⟩:=List.mem_filter.1 hmb
  have h1:=List.mem_range.1 h1
  have h2:=List.mem_range.1 h2
  have hne:z.toArray[b]!≠z.toArray[b-1]!:=by
   rcases of_decide_eq_true h3 with h | h
   ·omega
   ·exact h
  rw [Zol z h2,Zol z (show b-1<z.length by omega)] at hne
  rw [Zol z h1,Zol z h2]
  have k1:=hs a (b-1) (by omega) (by omega)
  have k2:=hs (b-1) b (by omega) h2
  refine ⟨ht _ _ _ k1 k2,fun he=>hne ?_⟩
  rw [he] at k1
  exact ha _ _ k1 k2
 ·intro x
  constructor
  ·intro hx
   obtain ⟨j,hj,rfl⟩:=List.mem_map.1 hx
   have:=List.mem_range.1 (List.mem_filter.1 hj).1
   rw [Zol z this]
   exact List.getElem_mem this
  ·intro hx
   obtain ⟨j,hj,rfl⟩:=List.mem_iff_getElem.1 hx
   clear hx
   induction j with
   | zero=>exact List.mem_map.2 ⟨0,List.mem_filter.2 ⟨List.mem_range.2 hj,by simp [Lib.keeps]⟩,Zol z hj⟩
   | succ j ih=>
    by_cases hq:z[j+1]=z[j]
    ·rw [hq];exact ih (by omega)
    ·refine List.mem_map.2 ⟨j+1,List.mem_filter.2 ⟨List.mem_range.2 hj,?_⟩,Zol z hj⟩
     refine decide_eq_true (.inr ?_)
     rw [Zol z hj,Nat.add_sub_cancel,Zol z (show j<z.length by omega)]
     exact hq
end
def dictI (l:List Int):List Int:=Lib.compact (l.mergeSort fun x y=>decide (x≤y))
def Zua (l:List Int):List Int:=l.map fun v=>((dictI l).idxOf v:Int)
theorem Zyf (l:List Int):(dictI l).Pairwise (· < ·)∧∀ x,x∈dictI l↔x∈l:=by
 have hs:=List.pairwise_mergeSort (le:=fun x y:Int=>decide (x≤y)) (fun a b c h1 h2=>by simp at *;omega) (fun a b=>by simp;omega) l
 have h:=Zvy (le:=fun a b:Int=>a≤b) (fun a=>Int.le_refl a) (fun a b c h1 h2=>Int.le_trans h1 h2) (fun a b h1 h2=>Int.le_antisymm h1 h2) (hs.imp fun h=>of_decide_eq_true h)
 refine ⟨h.1.imp fun h=>by omega,fun x=>(h.2 x).trans List.mem_mergeSort⟩
theorem Zvi (l:List Int):(dictI l).length≤l.length:=by
 unfold dictI
 have h:∀ z:List Int,(Lib.compact z).length≤z.length:=fun z=>by
  unfold Lib.compact Lib.compactUpTo
  rw [List.length_map]
  exact Nat.le_trans (List.length_filter_le _ _) (by rw [List.length_range];exact Nat.le_refl _)
 have:=h (l.mergeSort fun x y=>decide (x≤y))
 rwa [List.length_mergeSort] at this
theorem Zwy {l:List Int} (h:0<l.length):0<(dictI l).length:=by
 have:l[0]∈dictI l:=((Zyf l).2 _).2 (List.getElem_mem h)
 exact List.length_pos_of_mem this
theorem Zxy {d:List Int} (h:d.Pairwise (· < ·)) {i j:Nat} (hij:i<j) (hj:j<d.length):d[i]'(by omega)<d[j]:=List.pairwise_iff_getElem.1 h i j (by omega) hj hij
theorem Zck2 (x y:Int):cmp_Less_int x y=ltI x y:=by
 unfold cmp_Less_int
 have:cmp_isNaN_int x=false:=by
  show neI x x=false
  exact ne_f rfl
 rw [this]
 rfl
theorem Za02 (d:List Int) (hl:d.length<1000000000) (hd:d.Pairwise (· < ·)) {k:Nat} (hk:k<d.length):∀ (g i j n:Nat),g=j-i→i≤k→k≤j→j≤d.length→g<n→
  Zx.l0 (Zx.t1 fu) n d d[k] (d.length:Int) (i:Int) (j:Int)=some ((k:Int),true):=by
 intro g
 induction g using Nat.strongRecOn with
 | ind g ih=>
 intro i j n hg hi hj hjl hn
 obtain ⟨n,rfl⟩:∃ m,n=m+1:=⟨n-1,by omega⟩
 show Zx.S0 Zx.S1 (Zx.l0 (Zx.t1 fu) n) _ _ _ _ _=_
 unfold Zx.S0
 by_cases hij:i<j
 ·have hh:IntKind.wrap .i64 (shrI .u64 (IntKind.wrap .u64 (addI .i64 (i:Int) (j:Int))) 1)=(((i+j) / 2:Nat):Int):=by
   have h1:IntKind.wrap .u64 ((i:Int)+(j:Int))=((i+j:Nat):Int):=by rw [Zyd];omega
   have h2:=shrU ((i+j:Nat):Int) 1 (by omega)
   rw [show ((1:Nat):Int)=1 from rfl,Int.pow_succ,Int.pow_zero,Int.one_mul] at h2
   rw [Zn (by omega),h1,h2,Zde (by omega)]
   omega
  have hm:(i+j) / 2<d.length:=by omega
  rw [lt_t (by omega),cond_true,hh,Zu (by rw [Zf];omega),cond_true,Zy hm,Zck2,Zn (by omega)]
  by_cases hlt:(i+j) / 2<k
  ·rw [lt_t (Zxy hd hlt hk),cond_true]
   exact ih (j-((i+j) / 2+1)) (by omega) ((i+j) / 2+1) j n rfl (by omega) hj hjl (by omega)
  ·have:d[k]≤d[(i+j) / 2]:=by
    by_cases he:k=(i+j) / 2
    ·exact Int.le_of_eq (getElem_congr_idx he)
    ·exact Int.le_of_lt (Zxy hd (by omega) hm)
   rw [lt_f this,cond_false]
   exact ih ((i+j) / 2-i) (by omega) i ((i+j) / 2) n rfl hi (by omega) (by omega) (by omega)
 ·have:i=k:=by omega
  subst this
  rw [lt_f (by omega),cond_false]
  unfold Zx.S1
  rw [lt_t (by omega),cond_true,Zu (by rw [Zf];omega),cond_true,Zy hk,eq_t rfl]
  rfl
theorem bs_eq (d:List Int) (hl:d.length<1000000000) (hd:d.Pairwise (· < ·)) {v:Int} (hv:v∈d):Zx d v=some ((d.idxOf v:Int),true):=by
 have hk:d.idxOf v<d.length:=List.idxOf_lt_length_iff.2 hv
 have hg:d[d.idxOf v]=v:=List.getElem_idxOf hk
 have:=Za02 d hl hd hk d.length 0 d.length fu (by omega) (by omega) (by omega) (by omega) (by unfold fu;omega)
 rw [hg] at this
 exact this
theorem Zhp1 (l:List Int) (hl:l.length≤65536) (lo:Nat) (t:List Int) (ht:List.take (dictI l).length (List.drop lo t)=dictI l):∀ (d i n:Nat),d=l.length-i→i≤l.length→d<n→
  Zcd.l0 n lo (dictI l).length ((Zua l).take i) l (l.length:Int) (i:Int) t=some (dictI l,Zua l):=by
 have hpl:(Zua l).length=l.length:=by unfold Zua;rw [List.length_map]
 have hdl:=Zvi l
 intro d
 induction d with
 | zero=>
  intro i n hd hi hn
  have:i=l.length:=by omega
  subst this
  obtain ⟨n,rfl⟩:∃ k,n=k+1:=⟨n-1,by omega⟩
  show Zcd.S0 _ _ _ _ _ _ _ _=_
  unfold Zcd.S0
  rw [lt_f (by omega),cond_false,ht,List.take_of_length_le (by omega)]
 | succ d ih=>
  intro i n hd hi hn
  obtain ⟨n,rfl⟩:∃ k,n=k+1:=⟨n-1,by omega⟩
  have hlt:i<l.length:=by omega
  show Zcd.S0 (Zcd.l0 n) _ _ _ _ _ _ _=_
  unfold Zcd.S0
  rw [lt_t (by omega),cond_true,Zu (by rw [Zf];omega),cond_true,Zy hlt,ht,bs_eq _ (by omega) (Zyf l).1 (((Zyf l).2 _).2 (List.getElem_mem hlt)),Option.bind_some,Zna (by rw [List.length_take];omega),cond_true,Zn (by omega)]
  have hp:(Zua l)[i]'(by omega)=((dictI l).idxOf l[i]:Int):=by
   have h2:(Zua l)[i]? = some ((dictI l).idxOf l[i]:Int):=by
    unfold Zua
    rw [List.getElem?_map,List.getElem?_eq_getElem hlt,Option.map_some]
   rw [List.getElem?_eq_getElem (by omega)] at h2
   exact Option.some.inj h2
  have:=ih (i+1) n (by omega) (by omega) (by omega)
  rw [take_one (by omega),hp] at this
  exact this
theorem Zfc1 (l:List Int) (hl:l.length≤65536) (h0:0<l.length):Zcd l=some (dictI l,Zua l):=by
 show Zcd.S (Zcd.l0 fu) l=_
 unfold Zcd.S
 have hc:Zli 8 l=some l:=by
  unfold Zli
  rw [decide_eq_true h0,Zna (by omega)]
  rfl
 have hs:sortI l=some (l.mergeSort fun x y=>decide (x≤y)):=by
  unfold sortI
  rw [decide_eq_true (by omega)]
  rfl
 have hml:(l.mergeSort fun x y=>decide (x≤y)).length=l.length:=List.length_mergeSort _
 have hdl:=Zvi l
 have hcp:compI (l.mergeSort fun x y=>decide (x≤y))=some (((dictI l).length:Int),dictI l++List.replicate (l.length-(dictI l).length) 0):=by
  unfold compI
  rw [decide_eq_true (by omega),hml]
  rfl
 rw [hc,Option.bind_some,Zkk (x:=l.mergeSort fun x y=>decide (x≤y)) (by rw [decide_eq_true h0];rfl) hs (by rw [hml];simp),Option.bind_some,
  Zkk (by rw [decide_eq_true (by omega)];rfl) hcp (by
   dsimp only
   rw [List.length_append,List.length_replicate,hml,decide_eq_true (by omega)]
   rfl),Option.bind_some]
 dsimp only
 rw [show Int.toNat ((dictI l).length:Int)=(dictI l).length from rfl,Zf]
 exact Zhp1 l hl 0 _ (by rw [List.drop_zero,List.take_left]) l.length 0 fu (by omega) (by omega) (by unfold fu;omega)
def intsB (d:List Int):List Int:=d.flatMap vB
theorem Zi8 (x:Int) (d:List Int):intsB (x :: d)=vB x++intsB d:=rfl
theorem Zsq (d:List Int) (x:Int):intsB (d++[x])=intsB d++vB x:=by unfold intsB;simp
theorem Zpj:∀ d:List Int,(intsB d).length≤10*d.length
 | []=>by simp [intsB]
 | x :: d=>by
  have:=Zpj d
  have:=Zbe x
  rw [Zi8,List.length_append,List.length_cons]
  omega
theorem Zyy:∀ d:List Int,∀ b∈intsB d,0≤b∧b<256
 | [],b,h=>by cases h
 | x :: d,b,h=>by
  rw [Zi8] at h
  rcases List.mem_append.1 h with h | h
  ·exact Zzj _ b h
  ·exact Zyy d b h
theorem Zs01 (o:List Int) (hl:o.length≤65536):∀ (d i n:Nat) (f:Bool),d=o.length-i→i≤o.length→d<n→
  Zxe.l0 n o (o.length:Int) (i:Int) (f,intsB (o.take i))=some (ofBytes (intsB o),0):=by
 intro d
 induction d with
 | zero=>
  intro i n f hd hi hn
  have:i=o.length:=by omega
  subst this
  obtain ⟨n,rfl⟩:∃ k,n=k+1:=⟨n-1,by omega⟩
  show Zxe.S0 _ _ _ _ _=_
  unfold Zxe.S0
  rw [lt_f (by omega),cond_false,List.take_length,Zbz _ _ (Zyy o)]
  rfl
 | succ d ih=>
  intro i n f hd hi hn
  obtain ⟨n,rfl⟩:∃ k,n=k+1:=⟨n-1,by omega⟩
  have hlt:i<o.length:=by omega
  have h1:=Zpj (o.take i)
  rw [List.length_take] at h1
  have h2:=Zbe o[i]
  show Zxe.S0 (Zxe.l0 n) _ _ _ _=_
  unfold Zxe.S0
  rw [lt_t (by omega),cond_true,Zu (by rw [Zf];omega),cond_true,Zy hlt,Zhh,Option.bind_some,Zwe,Zrs _ _ (by rw [Zv];show (intsB _).length+_<_;omega),Option.bind_some,Zwc (Zzj _),Zn (by omega)]
  have:=ih (i+1) n false (by omega) (by omega) (by omega)
  rw [take_one hlt,Zsq] at this
  exact this
theorem Zhh1 (o:List Int) (hl:o.length≤65536):Zxe o=some (ofBytes (intsB o),0):=
 Zs01 o hl o.length 0 fu true (by omega) (by omega) (by unfold fu;omega)
theorem Zgh (l:List Int):(Zua l).length=l.length:=by unfold Zua;rw [List.length_map]
theorem Zjk {l:List Int}:∀ x∈Zua l,0≤x∧x<((dictI l).length:Int):=fun x hx=>by
 unfold Zua at hx
 obtain ⟨v,hv,rfl⟩:=List.mem_map.1 hx
 have:=List.idxOf_lt_length_iff.2 (((Zyf l).2 v).2 hv)
 omega
theorem Zv5 {l:List Int} {k:Nat} (hk:k<(dictI l).length):(k:Int)∈Zua l:=by
 have hm:(dictI l)[k]∈l:=((Zyf l).2 _).1 (List.getElem_mem hk)
 refine List.mem_map.2 ⟨_,hm,?_⟩
 have h1:(dictI l).idxOf (dictI l)[k]<(dictI l).length:=List.idxOf_lt_length_iff.2 (List.getElem_mem hk)
 have h2:(dictI l)[(dictI l).idxOf (dictI l)[k]]=(dictI l)[k]:=List.getElem_idxOf h1
 have hinc:=(Zyf l).1
 rcases Nat.lt_trichotomy ((dictI l).idxOf (dictI l)[k]) k with h | h | h
 ·have:=Zxy hinc h hk;omega
 ·rw [h]
 ·have:=Zxy hinc h h1;omega
def dictB (l:List Int) (v:Nat):List Int:=if l.length=0 then [] else vB ((dictI l).length:Int)++(intsB (dictI l)++packB (Zua l) v)
theorem Zj8 (l:List Int) (hl:l.length≤65536) {v:Nat} (hv:Zxb (Zua l)=some (v:Int)) (h64:v≤64):Zfo l=some (ofBytes (dictB l v),0):=by
 unfold Zfo Zpi dictB
 rw [Zf,lt_f (by omega),cond_false]
 by_cases h0:l.length=0
 ·rw [eq_t (by omega),cond_true,if_pos h0]
  rfl
 ·have hdl:=Zvi l
  have hpl:=Zgh l
  have hb:(Zua l).length*v≤65536*64:=Nat.mul_le_mul (by omega) h64
  have hpb:=Zpe (Zua l) v
  have k1:=Zbe ((dictI l).length:Int)
  have k2:=Zpj (dictI l)
  rw [eq_f (by omega),cond_false,if_neg h0,Zfc1 l hl (by omega),Option.bind_some]
  dsimp only
  rw [Zhh1 _ (by omega),Option.bind_some]
  dsimp only
  rw [ne_f rfl,cond_false,hv,Option.bind_some,Zim (Zua l) h64 (by omega) hv (Nat.le_refl _),Option.bind_some,Zf,Zhh,Option.bind_some,Zwe,Zme]
  dsimp only
  have r1:roomS (ofBytes (vB ((dictI l).length:Int))) (ofBytes (intsB (dictI l)))=true:=decide_eq_true (by rw [Zv,Zv];omega)
  have r2:roomS (ofBytes (vB ((dictI l).length:Int)++intsB (dictI l))) (ofBytes (packB (Zua l) v))=true:=decide_eq_true (by rw [Zv,Zv,List.length_append];omega)
  rw [r1,r2,Zme,cond_true,cond_true,List.append_assoc]
  rfl
theorem Zb02 {x:Int} (hx:in64 x) {s:ByteArray} {rest:List Int} (hs:Zk s=vB x++rest):Zqh s=some (x,((vB x).length:Int)):=by
 unfold Zqh
 rw [Zwg hx hs,Option.bind_some]
 rfl
theorem Zdk2 {D:List Int} (hD:D.length≤65536) (hinc:D.Pairwise (· < ·)) (h64:∀ x∈D,in64 x) {s:ByteArray} {pre tail:List Int} (hs:Zk s=pre++(intsB D++tail)) (hsz:s.size<100000000) {o1:ByteArray→Int→Int→Int→List Int→Option (List Int×List Int×Int)} {xn size:Int}:
  ∀ (d i n:Nat),d=D.length-i→i≤D.length→d<n→
  Zb.l0 o1 n s xn size ((pre.length+(intsB (D.take i)).length:Nat):Int) (D.take i) (D.length:Int) (i:Int)=o1 s xn size ((pre.length+(intsB D).length:Nat):Int) D:=by
 have hsl:s.size=pre.length+((intsB D).length+tail.length):=by rw [← Zha,hs,List.length_append,List.length_append]
 intro d
 induction d with
 | zero=>
  intro i n hd hi hn
  have:i=D.length:=by omega
  subst this
  obtain ⟨n,rfl⟩:∃ k,n=k+1:=⟨n-1,by omega⟩
  show Zb.S0 _ _ _ _ _ _ _ _ _=_
  unfold Zb.S0
  rw [lt_f (by omega),cond_false,List.take_length]
 | succ d ih=>
  intro i n hd hi hn
  obtain ⟨n,rfl⟩:∃ k,n=k+1:=⟨n-1,by omega⟩
  have hlt:i<D.length:=by omega
  show Zb.S0 o1 (Zb.l0 o1 n) _ _ _ _ _ _ _=_
  unfold Zb.S0
  have hsplit:intsB D=intsB (D.take i)++(vB D[i]++intsB (D.drop (i+1))):=by
   have:D=D.take i++D[i] :: D.drop (i+1):=by rw [← List.drop_eq_getElem_cons hlt,List.take_append_drop]
   have h2:intsB D=intsB (D.take i++D[i] :: D.drop (i+1)):=congrArg intsB this
   rw [h2]
   unfold intsB
   rw [List.flatMap_append,List.flatMap_cons]
  have hil:(intsB (D.take i)).length≤(intsB D).length:=by rw [hsplit,List.length_append];omega
  have hcut:Zk (cutS s ((pre.length+(intsB (D.take i)).length:Nat):Int) (lenS s))=vB D[i]++(intsB (D.drop (i+1))++tail):=by
   have:=Znf (s:=s) (a:=pre++intsB (D.take i)) (rest:=vB D[i]++(intsB (D.drop (i+1))++tail)) (by rw [hs,hsplit];simp)
   rw [List.length_append] at this
   exact this
  have hv:=Zbe D[i]
  have htl:(D.take i).length=i:=by rw [List.length_take];omega
  have hnx:addI .i64 ((pre.length+(intsB (D.take i)).length:Nat):Int) ((vB D[i]).length:Int)=((pre.length+(intsB (D.take (i+1))).length:Nat):Int):=by
   have:(intsB (D.take (i+1))).length=(intsB (D.take i)).length+(vB D[i]).length:=by rw [take_one hlt,Zsq,List.length_append]
   rw [Zn (by omega),this]
   omega
  rw [lt_t (by omega),cond_true,Zzb (by rw [Zma];omega),cond_true,Zb02 (h64 _ (List.getElem_mem hlt)) hcut,Option.bind_some]
  dsimp only
  rw [eq_f (by omega),cond_false,hnx,Zn (by omega),← take_one hlt]
  have:=ih (i+1) n (by omega) (by omega) (by omega)
  rw [Zna (by omega)]
  by_cases hi0:i=0
  ·rw [lt_f (by omega),cond_false,cond_true]
   exact this
  ·have hlt1:i-1<(D.take i).length:=by omega
   rw [lt_t (by omega),cond_true,Zqb (by omega),Zu (by rw [Zf,htl];omega),cond_true,show (i:Int)-1=((i-1:Nat):Int) by omega,Zy hlt1,List.getElem_take,le_f (Zxy hinc (by omega) hlt),cond_false,cond_true]
   exact this
def seenB (size:Nat) (p:List Int):List Bool:=(List.range size).map fun k:Nat=>p.any fun x=>decide (x=(k:Int))
theorem Zih1 (size:Nat) (p:List Int) (x:Int) (h0:0≤x):List.set (seenB size p) x.toNat true=seenB size (p++[x]):=by
 apply List.ext_getElem
 ·unfold seenB;simp
 ·intro k h1 h2
  have hk:k<size:=by unfold seenB at h2;simpa using h2
  rw [List.getElem_set]
  have e1:∀ q:List Int,∀ h:k<(seenB size q).length,(seenB size q)[k]=q.any fun x=>decide (x=(k:Int)):=fun q h=>by
   have h2:(seenB size q)[k]? = some (q.any fun x=>decide (x=(k:Int))):=by
    unfold seenB
    rw [List.getElem?_map,List.getElem?_range hk,Option.map_some]
   rw [List.getElem?_eq_getElem h] at h2
   exact Option.some.inj h2
  rw [e1 (p++[x]) h2,List.any_append]
  by_cases hx:x.toNat=k
  ·rw [if_pos hx]
   have:x=(k:Int):=by omega
   simp [this]
  ·rw [if_neg hx,e1]
   have:¬ x=(k:Int):=by omega
   simp [this]
theorem Zek2 {D P:List Int} (hP:P.length≤65536) (hPm:∀ x∈P,0≤x∧x<(D.length:Int)) (_hD:D.length≤65536) {o3:List Int→List Int→List Bool→Option (List Int×List Int×Int)}:
  ∀ (d i n:Nat),d=P.length-i→i≤P.length→d<n→
  Zb.l2 o3 n (D.length:Int) D P P (P.length:Int) (i:Int) (seenB D.length (P.take i))=o3 D P (seenB D.length P):=by
 intro d
 induction d with
 | zero=>
  intro i n hd hi hn
  have:i=P.length:=by omega
  subst this
  obtain ⟨n,rfl⟩:∃ k,n=k+1:=⟨n-1,by omega⟩
  show Zb.S2 _ _ _ _ _ _ _ _ _=_
  unfold Zb.S2
  rw [lt_f (by omega),cond_false,List.take_length]
 | succ d ih=>
  intro i n hd hi hn
  obtain ⟨n,rfl⟩:∃ k,n=k+1:=⟨n-1,by omega⟩
  have hlt:i<P.length:=by omega
  have hx:=hPm P[i] (List.getElem_mem hlt)
  have hsl:(seenB D.length (P.take i)).length=D.length:=by unfold seenB;simp
  show Zb.S2 o3 (Zb.l2 o3 n) _ _ _ _ _ _ _=_
  unfold Zb.S2
  rw [lt_t (by omega),cond_true,Zu (by rw [Zf];omega),cond_true,Zy hlt,lt_f hx.1,cond_false,le_f hx.2,cond_false,Zu (by rw [Zf,hsl];exact hx),cond_true,Zn (by omega),Zih1 _ _ _ hx.1,← take_one hlt]
  exact ih (i+1) n (by omega) (by omega) (by omega)
theorem Zk8 (l:List Bool) (hl:l.length<4611686018427387904) (hall:∀ b∈l,b=true):∀ (d i n:Nat),d=l.length-i→i≤l.length→d<n→Zpa.l0 n l false (l.length:Int) (i:Int)=some (-1):=by
 intro d
 induction d with
 | zero=>
  intro i n hd hi hn
  have:i=l.length:=by omega
  subst this
  obtain ⟨n,rfl⟩:∃ k,n=k+1:=⟨n-1,by omega⟩
  show Zpa.S0 _ _ _ _ _=_
  unfold Zpa.S0
  rw [lt_f (by omega),cond_false]
 | succ d ih=>
  intro i n hd hi hn
  obtain ⟨n,rfl⟩:∃ k,n=k+1:=⟨n-1,by omega⟩
  have hlt:i<l.length:=by omega
  show Zpa.S0 (Zpa.l0 n) _ _ _ _=_
  unfold Zpa.S0
  rw [lt_t (by omega),cond_true,Zu (by rw [Zf];omega),cond_true,Zy hlt,hall _ (List.getElem_mem hlt),show eqB false true=false from rfl,cond_false,Zn (by omega)]
  exact ih (i+1) n (by omega) (by omega) (by omega)
theorem Zxd1 {l:List Int} (hl:l.length≤65536) (h0:0<l.length) {v:Nat} (h:Wd [((dictI l).length:Int)-1] v):Wd (Zua l) v:=by
 have hdl:=Zvi l
 have hdp:=Zwy h0
 obtain ⟨h1,h2⟩:=h
 have h1:=h1 _ (List.mem_singleton.2 rfl)
 constructor
 ·intro x hx
  have:=Zjk x hx
  omega
 ·rcases h2 with h2 | ⟨x,hx,h2⟩
  ·exact .inl h2
  ·have hx:=List.mem_singleton.1 hx
   subst hx
   right
   have:=Zv5 (l:=l) (k:=(dictI l).length-1) (by omega)
   refine ⟨_,this,?_⟩
   rw [show (((dictI l).length-1:Nat):Int)=((dictI l).length:Int)-1 by omega]
   exact h2
theorem Zag1 {D P:List Int} (_hD:D.length≤65536) (hP:P.length≤65536) (hPm:∀ x∈P,0≤x∧x<(D.length:Int)):∀ (d i n:Nat),d=P.length-i→i≤P.length→d<n→
  Zvb.l0 n D ((P.take i).map fun x=>D.getD x.toNat 0) P (P.length:Int) (i:Int)=some (P.map fun x=>D.getD x.toNat 0):=by
 intro d
 induction d with
 | zero=>
  intro i n hd hi hn
  have:i=P.length:=by omega
  subst this
  obtain ⟨n,rfl⟩:∃ k,n=k+1:=⟨n-1,by omega⟩
  show Zvb.S0 _ _ _ _ _ _=_
  unfold Zvb.S0
  rw [lt_f (by omega),cond_false,List.take_length]
 | succ d ih=>
  intro i n hd hi hn
  obtain ⟨n,rfl⟩:∃ k,n=k+1:=⟨n-1,by omega⟩
  have hlt:i<P.length:=by omega
  have hx:=hPm P[i] (List.getElem_mem hlt)
  show Zvb.S0 (Zvb.l0 n) _ _ _ _ _=_
  unfold Zvb.S0
  rw [lt_t (by omega),cond_true,Zu (by rw [Zf];omega),cond_true,Zy hlt,Zu (by rw [Zf];exact hx),cond_true,Zna (by rw [List.length_map,List.length_take];omega),cond_true,Zn (by omega)]
  have:=ih (i+1) n (by omega) (by omega) (by omega)
  rw [take_one hlt,List.map_append] at this
  exact this
theorem Zyd1 (l:List Int):(Zua l).map (fun x=>(dictI l).getD x.toNat 0)=l:=by
 unfold Zua
 rw [List.map_map]
 conv=>rhs;rw [← List.map_id l]
 apply List.map_congr_left
 intro v hv
 have hk:=List.idxOf_lt_length_iff.2 (((Zyf l).2 v).2 hv)
 show (dictI l).getD (((dictI l).idxOf v:Nat):Int).toNat 0=v
 rw [show (((dictI l).idxOf v:Nat):Int).toNat=(dictI l).idxOf v from rfl,getD_at hk,List.getElem_idxOf hk]
theorem Zjh1 (l:List Int) (hl:l.length≤65536) (h64:∀ x∈l,in64 x) {v:Nat} (hv64:v≤64) (hwd:Wd (Zua l) v) {s:ByteArray} (hs:Zk s=dictB l v) (h0:0<l.length):
  Zb s (l.length:Int)=some (dictI l,Zua l,0):=by
 have hdl:=Zvi l
 have hdp:=Zwy h0
 have hpl:=Zgh l
 have hs':Zk s=vB ((dictI l).length:Int)++(intsB (dictI l)++packB (Zua l) v):=by
  unfold dictB at hs
  rwa [if_neg (by omega)] at hs
 have hb:(Zua l).length*v≤65536*64:=Nat.mul_le_mul (by omega) hv64
 have hpb:=Zpe (Zua l) v
 have k1:=Zbe ((dictI l).length:Int)
 have k2:=Zpj (dictI l)
 have hsz:s.size=(vB ((dictI l).length:Int)).length+((intsB (dictI l)).length+(packB (Zua l) v).length):=by rw [← Zha,hs',List.length_append,List.length_append]
 show Zb.S (Zb.l0 (Zb.t1 fu) fu) s _=_
 unfold Zb.S
 rw [lt_f (by omega),cond_false,lt_f (by omega),cond_false,eq_f (by omega),cond_false,Zwg (by unfold in64;omega) hs',Option.bind_some]
 dsimp only
 rw [ne_f rfl,cond_false,lt_f (by omega),cond_false,lt_f (by omega),cond_false]
 have hloop:=Zdk2 (D:=dictI l) (by omega) (Zyf l).1 (fun x hx=>h64 x (((Zyf l).2 x).1 hx)) hs' (by omega) (o1:=Zb.t1 fu) (xn:=(l.length:Int)) (size:=((dictI l).length:Int)) (dictI l).length 0 fu (by omega) (by omega) (by unfold fu;omega)
 rw [List.take_zero,show intsB []=[] from rfl,List.length_nil,Nat.add_zero] at hloop
 rw [show (0:Int)=((0:Nat):Int) from rfl,hloop]
 show Zb.S1 (Zb.l2 (Zb.t3 18446744073709551615) 18446744073709551615) s _ _ _ _=_
 unfold Zb.S1
 obtain ⟨v',w1,w2,w3⟩:=Zsh [((dictI l).length:Int)-1] (by simp)
 have hvv:v'=v:=(Zxd1 hl h0 w3).unique hwd
 subst hvv
 have hcut:Zk (cutS s (((vB ((dictI l).length:Int)).length+(intsB (dictI l)).length:Nat):Int) (lenS s))=packB (Zua l) v':=by
  have:=Znf (s:=s) (a:=vB ((dictI l).length:Int)++intsB (dictI l)) (rest:=packB (Zua l) v') (by rw [hs',List.append_assoc])
  rw [List.length_append] at this
  exact this
 have hpk:=Zvk (l:=Zua l) (w:=v') hv64 (by omega) (fun x hx=>by have:=Zjk x hx;unfold in64;omega) hwd.1 hcut
 rw [hpl] at hpk
 rw [Zzb (by rw [Zma];omega),cond_true,Zqb (by omega),w1,Option.bind_some,hpk,Option.bind_some]
 dsimp only
 rw [ne_f rfl,cond_false,le_t (by omega),Zna (by show (dictI l).length*1≤_;omega)]
 have hseen0:List.replicate (Int.toNat ((dictI l).length:Int)) false=seenB (dictI l).length ((Zua l).take 0):=by
  unfold seenB
  rw [List.take_zero]
  symm
  rw [List.eq_replicate_iff]
  refine ⟨by simp,fun b hb=>?_⟩
  obtain ⟨k,_,rfl⟩:=List.mem_map.1 hb
  rfl
 have hl2:=Zek2 (D:=dictI l) (P:=Zua l) (by omega) (fun x hx=>Zjk x hx) (by omega) (o3:=Zb.t3 18446744073709551615) (Zua l).length 0 18446744073709551615 (by omega) (by omega) (by omega)
 rw [hseen0,Zf]
 refine Eq.trans hl2 ?_
 show Zb.S3 (dictI l) (Zua l) (seenB (dictI l).length (Zua l))=_
 unfold Zb.S3
 have hsb:∀ b∈seenB (dictI l).length (Zua l),b=true:=fun b hb=>by
  unfold seenB at hb
  obtain ⟨k,hk,rfl⟩:=List.mem_map.1 hb
  exact List.any_eq_true.2 ⟨_,Zv5 (List.mem_range.1 hk),decide_eq_true rfl⟩
 have hsbl:(seenB (dictI l).length (Zua l)).length=(dictI l).length:=by unfold seenB;simp
 have hcon:Zgd (seenB (dictI l).length (Zua l)) false=some false:=by
  unfold Zgd
  have:=Zk8 _ (by omega) hsb (seenB (dictI l).length (Zua l)).length 0 fu (by omega) (by omega) (by unfold fu;omega)
  have h2:Zpa (seenB (dictI l).length (Zua l)) false=some (-1):=this
  rw [h2]
  rfl
 rw [hcon]
 rfl
theorem Zc7 (l:List Int) (hl:l.length≤65536) (h64:∀ x∈l,in64 x) {v:Nat} (hv64:v≤64) (hwd:Wd (Zua l) v) {s:ByteArray} (hs:Zk s=dictB l v):
  Zsi s (l.length:Int)=some (l,0):=by
 unfold Zsi
 by_cases h0:l.length=0
 ·have hse:s=eB:=size0.2 (by rw [← Zha,hs];unfold dictB;rw [if_pos h0];rfl)
  have:l=[]:=List.eq_nil_of_length_eq_zero h0
  subst this
  have h1:Zb s (([]:List Int).length:Int)=some ([],[],0):=by
   show Zb.S _ s 0=_
   unfold Zb.S
   rw [lt_f (by omega),cond_false,lt_f (by omega),cond_false,eq_t rfl,cond_true,eqS_t hse]
   rfl
  rw [h1]
  rfl
 ·have hdl:=Zvi l
  rw [Zjh1 l hl h64 hv64 hwd hs (by omega),Option.bind_some]
  dsimp only
  rw [ne_f rfl,cond_false]
  have:=Zag1 (D:=dictI l) (P:=Zua l) (by omega) (by rw [Zgh];exact hl) (fun x hx=>Zjk x hx) (Zua l).length 0 fu (by omega) (by omega) (by rw [Zgh];unfold fu;omega)
  have h2:Zvb (dictI l) (Zua l)=some ((Zua l).map fun x=>(dictI l).getD x.toNat 0):=this
  rw [h2,Zyd1]
  rfl
end Go.AM.Pure
end

section
/- block: Put, and what is read of it. -/
namespace Go.AM.Pure
open Go.AM
theorem Zkr (s:ByteArray) (a b:Nat):Zk (cutS s (a:Int) (b:Int))=((Zk s).drop a).take (b-a):=by
 unfold Zk cutS
 show List.map _ (s.extract a b).data.toList=_
 rw [ByteArray.data_extract,Array.toList_extract,List.extract_eq_take_drop,← List.map_drop,← List.map_take]
theorem Zfq1 (c:Cell) (kind:Int):Zze c kind = !(Zie c && (decide (c.1=0) || decide (c.1=kind))):=by
 unfold Zze
 rw [Zhg1]
 cases hm:Zie c with
 | false=>rw [if_neg (by decide)];rfl
 | true=>
  rw [if_pos rfl,ne_f rfl,cond_false]
  by_cases h0:c.1=0
  ·rw [ne_f h0,decide_eq_true h0];rfl
  ·rw [ne_t h0,cond_true,decide_eq_false h0]
   by_cases h1:c.1=kind
   ·rw [ne_f h1,decide_eq_true h1];rfl
   ·rw [ne_t h1,decide_eq_false h1];rfl
theorem Zq01 (l:List Cell) (hl:l.length<4611686018427387904) (kind:Int):∀ (d i n:Nat),d=l.length-i→i≤l.length→d<n→(∀ j (h:j<l.length),j<i→Zze l[j] kind=false)→
  ∃ r,Zs.l0 n l kind (l.length:Int) (i:Int)=some r∧leI 0 r=l.any (fun c=>Zze c kind):=by
 intro d
 induction d with
 | zero=>
  intro i n hd hi hn ha
  have:i=l.length:=by omega
  subst this
  obtain ⟨n,rfl⟩:∃ k,n=k+1:=⟨n-1,by omega⟩
  refine ⟨-1,?_,?_⟩
  ·show Zs.S0 _ _ _ _ _=_
   unfold Zs.S0
   rw [lt_f (by omega),cond_false]
  ·rw [show leI 0 (-1)=false from rfl]
   symm
   rw [List.any_eq_false]
   intro x hx
   obtain ⟨j,hj,rfl⟩:=List.mem_iff_getElem.1 hx
   rw [ha j hj hj]
   decide
 | succ d ih=>
  intro i n hd hi hn ha
  obtain ⟨n,rfl⟩:∃ k,n=k+1:=⟨n-1,by omega⟩
  have hlt:i<l.length:=by omega
  show ∃ r,Zs.S0 (Zs.l0 n) _ _ _ _=_∧_
  unfold Zs.S0
  rw [lt_t (by omega),cond_true,Zu (by rw [Zf];omega),cond_true,Zy hlt]
  cases hq:Zze l[i] kind with
  | true=>
   rw [cond_true]
   refine ⟨_,rfl,?_⟩
   rw [le_t (by omega)]
   symm
   rw [List.any_eq_true]
   exact ⟨l[i],List.getElem_mem hlt,hq⟩
  | false=>
   rw [cond_false,Zn (by omega)]
   exact ih (i+1) n (by omega) (by omega) (by omega) fun j h hj=>by
    by_cases hji:j=i
    ·subst hji;exact hq
    ·exact ha j h (by omega)
theorem Zry (l:List Cell) (hl:l.length<4611686018427387904) (kind:Int):Zjc l kind=some (l.any fun c=>Zze c kind):=by
 unfold Zjc
 obtain ⟨r,h1,h2⟩:=Zq01 l hl kind l.length 0 fu (by omega) (by omega) (by unfold fu;omega) fun j h hj=>by omega
 have:Zs l kind=some r:=h1
 rw [this,Option.bind_some,h2]
def MayB (l:List Cell) (kind:Int):Prop:=1≤l.length∧l.length≤64∧(kind=1∨kind=2)∧∀ c∈l,Zie c=true∧(c.1=0∨c.1=kind)
theorem Zgq1 (l:List Cell) (kind:Int):(!(l.any fun c=>Zze c kind))=true↔∀ c∈l,Zie c=true∧(c.1=0∨c.1=kind):=by
 rw [Bool.not_eq_true',List.any_eq_false]
 constructor
 ·intro h c hc
  have h1:=h c hc
  rw [Zfq1,Bool.not_eq_true,Bool.not_eq_false',Bool.and_eq_true,Bool.or_eq_true,decide_eq_true_eq,decide_eq_true_eq] at h1
  exact h1
 ·intro h c hc
  rw [Zfq1,Bool.not_eq_true,Bool.not_eq_false',Bool.and_eq_true,Bool.or_eq_true,decide_eq_true_eq,decide_eq_true_eq]
  exact h c hc
theorem Zhq1 {l:List Cell} {kind:Int} (h:MayB l kind):Zon l kind=some true:=by
 obtain ⟨h1,h2,h3,h4⟩:=h
 unfold Zon
 have h5:=(Zgq1 l kind).2 h4
 rw [Zf,lt_f (by omega),cond_false,lt_f (by omega),cond_false,Zry l (by omega),Option.bind_some,h5]
 rcases h3 with rfl | rfl
 ·rw [ne_f rfl];rfl
 ·rw [ne_t (by omega),ne_f rfl];rfl
theorem Zkc3 {l:List Cell} {kind:Int} (hl:l.length<4611686018427387904) (h:¬ MayB l kind):Zon l kind=some false:=by
 unfold Zon
 rw [Zf]
 by_cases h1:1≤l.length
 ·by_cases h2:l.length≤64
  ·rw [lt_f (by omega),cond_false,lt_f (by omega),cond_false,Zry l hl,Option.bind_some]
   have h5:(kind=1∨kind=2)→(!(l.any fun c=>Zze c kind))=false:=fun hk=>by
    rw [Bool.eq_false_iff]
    intro h6
    exact h ⟨h1,h2,hk,(Zgq1 l kind).1 h6⟩
   by_cases k1:kind=1
   ·rw [ne_f k1,cond_false,h5 (.inl k1)]
   ·rw [ne_t k1,cond_true]
    by_cases k2:kind=2
    ·rw [ne_f k2,cond_false,h5 (.inr k2)]
    ·rw [ne_t k2,cond_true]
  ·rw [lt_f (by omega),cond_false,lt_t (by omega),cond_true]
 ·rw [lt_t (by omega),cond_true]
abbrev numsC (l:List Cell):List Int:=l.map fun c=>c.2.1
abbrev txtsC (l:List Cell):List ByteArray:=l.map fun c=>c.2.2
theorem Zgp1 (l:List Cell) (hl:l.length≤65536) (kind code:Int):∀ (d i n:Nat),d=l.length-i→i≤l.length→d<n→
  Zza.l0 (Zza.t1 fu) n kind code (numsC (l.take i)) (txtsC (l.take i)) l (l.length:Int) (i:Int)=(bif eqI kind 1 then Zri (numsC l) code else Zok (txtsC l) code):=by
 intro d
 induction d with
 | zero=>
  intro i n hd hi hn
  have:i=l.length:=by omega
  subst this
  obtain ⟨n,rfl⟩:∃ k,n=k+1:=⟨n-1,by omega⟩
  show Zza.S0 Zza.S1 _ _ _ _ _ _ _ _=_
  unfold Zza.S0
  rw [lt_f (by omega),cond_false,List.take_length]
  unfold Zza.S1
  rw [Option.bind_fun_some,Option.bind_fun_some]
 | succ d ih=>
  intro i n hd hi hn
  obtain ⟨n,rfl⟩:∃ k,n=k+1:=⟨n-1,by omega⟩
  have hlt:i<l.length:=by omega
  show Zza.S0 _ (Zza.l0 (Zza.t1 fu) n) _ _ _ _ _ _ _=_
  unfold Zza.S0
  rw [lt_t (by omega),cond_true,Zu (by rw [Zf];omega),cond_true,Zna (by rw [List.length_map,List.length_take];omega),cond_true,Zna (by rw [List.length_map,List.length_take];omega),cond_true,Zy hlt,Zn (by omega)]
  have:=ih (i+1) n (by omega) (by omega) (by omega)
  rw [take_one hlt] at this
  unfold numsC txtsC at this
  rw [List.map_append,List.map_append] at this
  exact this
theorem Zg8 (l:List Cell) (hl:l.length≤65536) (kind code:Int):Zza l kind code=(bif eqI kind 1 then Zri (numsC l) code else Zok (txtsC l) code):=
 Zgp1 l hl kind code l.length 0 fu (by omega) (by omega) (by unfold fu;omega)
def blkT (l:List Cell) (kind code:Int) (vb:List Int):List Int:=[kind,code,(l.length:Int),((maskL l).length:Int)]++(maskL l++vb)
theorem Zmn (l:List Cell):(maskL l).length≤(l.length+7) / 8:=by
 unfold maskL
 split
 ·rw [Zpe,Zqd,Nat.mul_one];exact Nat.le_refl _
 ·exact Nat.zero_le _
theorem Zsy (l:List Cell):∀ b∈maskL l,0≤b∧b<256:=fun b hb=>by
 unfold maskL at hb
 split at hb
 ·exact Zxk _ _ b hb
 ·cases hb
theorem Zsw {l:List Cell} (hl:l.length≤64) {kind code:Int} (hk:0≤kind∧kind<256) (hc:0≤code∧code<256) {vb:List Int} (hv:∀ b∈vb,0≤b∧b<256):∀ b∈blkT l kind code vb,0≤b∧b<256:=fun b hb=>by
 have hm:=Zmn l
 unfold blkT at hb
 rcases List.mem_append.1 hb with hb | hb
 ·simp only [List.mem_cons,List.not_mem_nil,or_false] at hb
  rcases hb with rfl | rfl | rfl | rfl <;> omega
 ·rcases List.mem_append.1 hb with hb | hb
  ·exact Zsy l b hb
  ·exact hv b hb
theorem Zty {l:List Cell} {kind code:Int} (hm:MayB l kind) (hc:0≤code∧code<256) {vb:List Int} (hvl:vb.length≤1000000) (hvr:∀ b∈vb,0≤b∧b<256) (hv:Zza (restC l) kind code=some (ofBytes vb,0)):
  Zhg l kind code=some (ofBytes (sealB (blkT l kind code vb)),0):=by
 obtain ⟨h1,h2,h3,_⟩:=id hm
 have hkr:0≤kind∧kind<256:=by rcases h3 with rfl | rfl <;> omega
 have hml:=Zmn l
 unfold Zhg
 rw [Zhq1 hm,Option.bind_some,Bool.not_true,cond_false,Zst l (by omega) (by omega),Option.bind_some]
 dsimp only
 rw [hv,Option.bind_some]
 dsimp only
 have w8:∀ x:Int,0≤x∧x<256→IntKind.wrap .u8 x=x:=fun x hx=>by rw [Zth];omega
 rw [ne_f rfl,cond_false,Zf,Zma,Zv,w8 kind hkr,w8 code hc,w8 _ (by omega),w8 _ (by omega)]
 have r1:roomS (ofBytes [kind,code,(l.length:Int),((maskL l).length:Int)]) (ofBytes (maskL l))=true:=decide_eq_true (by rw [Zv,Zv];simp;omega)
 rw [r1,cond_true,Zme]
 have r2:roomS (ofBytes ([kind,code,(l.length:Int),((maskL l).length:Int)]++maskL l)) (ofBytes vb)=true:=decide_eq_true (by rw [Zv,Zv];simp;omega)
 rw [r2,cond_true,Zme,List.append_assoc]
 show (Zyc (ofBytes (blkT l kind code vb))).bind _=_
 rw [Znq _ (by rw [Zv];unfold blkT;simp;omega),Option.bind_some,Zwc (Zsw h2 hkr hc hvr)]
theorem Zuy {l:List Cell} {kind code:Int} (hl:l.length<4611686018427387904) (hm:¬ MayB l kind):Zhg l kind code=some (eB,1):=by
 unfold Zhg
 rw [Zkc3 hl hm]
 rfl
theorem Zzf1 {l:List Cell} {kind code:Int} (hm:MayB l kind) (hc:0≤code∧code<256) {vb:List Int} (hvl:vb.length≤1000000) (hvr:∀ b∈vb,0≤b∧b<256) (hv:Zza (restC l) kind code=some (ofBytes vb,0))
  (hcells:∀ s:ByteArray,Zk s=vb→∀ k:Int,Zga s ((restC l).length:Int) (kind,code,(l.length:Int),k)=some (restC l,0)):
  Zmh (ofBytes (sealB (blkT l kind code vb)))=some (((kind,code,(l.length:Int),((l.length-(restC l).length:Nat):Int)),ofBytes (maskL l),ofBytes vb,l),true):=by
 have hput:=Zty hm hc hvl hvr hv
 obtain ⟨h1,h2,h3,h4⟩:=hm
 have hkr:0≤kind∧kind<256:=by rcases h3 with rfl | rfl <;> omega
 have hml:=Zmn l
 have hrl:=Zag l
 have hz:∀ c∈l,isN c=true→c=(0,0,eB):=fun c hc hn=>by
  have hn0:c.1=0:=of_decide_eq_true (show decide (c.1=0)=true from hn)
  rcases Zf7 (h4 c hc).1 with h | ⟨n,h⟩ | ⟨t,h,_⟩
  ·exact h
  ·rw [h] at hn0;simp at hn0
  ·rw [h] at hn0;simp at hn0
 have hT:=Zsw h2 hkr hc hvr
 have htl:(blkT l kind code vb).length=4+((maskL l).length+vb.length):=by unfold blkT;simp;omega
 unfold Zmh
 rw [Zdg1 hT (by omega),Option.bind_some]
 dsimp only
 have hsz:(ofBytes (blkT l kind code vb)).size=4+((maskL l).length+vb.length):=by rw [Zv,htl]
 have htb:Zk (ofBytes (blkT l kind code vb))=blkT l kind code vb:=Zwc hT
 generalize ht:ofBytes (blkT l kind code vb)=t at hsz htb
 have b0:byteAt t 0=kind:=Zdg htb (i:=0) rfl
 have b1:byteAt t 1=code:=Zdg htb (i:=1) rfl
 have b2:byteAt t 2=(l.length:Int):=Zdg htb (i:=2) rfl
 have b3:byteAt t 3=((maskL l).length:Int):=Zdg htb (i:=3) rfl
 have hend:addI .i64 4 ((maskL l).length:Int)=((4+(maskL l).length:Nat):Int):=by rw [Zn (by omega)];omega
 have hdr:(blkT l kind code vb).drop 4=maskL l++vb:=rfl
 have hmask:Zk (cutS t 4 ((4+(maskL l).length:Nat):Int))=maskL l:=by
  have:=Zkr t 4 (4+(maskL l).length)
  rw [show ((4:Nat):Int)=4 from rfl] at this
  rw [this,htb,hdr,Nat.add_sub_cancel_left,List.take_left]
 have hbody:Zk (cutS t ((4+(maskL l).length:Nat):Int) (t.size:Int))=vb:=by
  rw [Zft,htb,← List.drop_drop,hdr,List.drop_left]
 have hmaskS:cutS t 4 ((4+(maskL l).length:Nat):Int)=ofBytes (maskL l):=(Zrd _).symm.trans (congrArg ofBytes hmask)
 have hbodyS:cutS t ((4+(maskL l).length:Nat):Int) (t.size:Int)=ofBytes vb:=(Zrd _).symm.trans (congrArg ofBytes hbody)
 rw [ne_f rfl,cond_false,Zma,lt_f (by omega),cond_false,Zu (by omega),cond_true,b3,b2,b1,b0,Zde (n:=((maskL l).length:Int)) (by omega),Zde (n:=(l.length:Int)) (by omega),Zde (n:=code) (by omega),Zde (n:=kind) (by omega),Zqb (by omega),lt_f (by omega),cond_false,cond_true,
  Zu (by omega),cond_true,Zu (by omega),cond_true,Zu (by omega),cond_true,hend,Zzb (by omega),cond_true,Zzb (by omega),cond_true,Zrt l (by omega) (by omega) hmask,Option.bind_some]
 dsimp only
 have hsub:subI .i64 (l.length:Int) ((l.length-(restC l).length:Nat):Int)=((restC l).length:Int):=by rw [Zqb (by omega)];omega
 rw [ne_f rfl,cond_false,hsub,hcells _ hbody,Option.bind_some]
 dsimp only
 rw [ne_f rfl,cond_false,Zeg1 l (by omega) (by omega) hz hmask,Option.bind_some]
 dsimp only
 rw [ne_f rfl,cond_false,hput,Option.bind_some]
 dsimp only
 rw [eq_t rfl,cond_true,eqS_t rfl,hmaskS,hbodyS]
theorem Zr01 (l:List Int) (hl:l.length≤65536) (h:Int×Int×Int×Int) (e:Int):∀ (d i n:Nat),d=l.length-i→i≤l.length→d<n→
  Zga.l0 n ((l.take i).map fun x=>((h.1,x,eB):Cell)) e l (l.length:Int) (i:Int) h=some (l.map fun x=>((h.1,x,eB):Cell),e):=by
 intro d
 induction d with
 | zero=>
  intro i n hd hi hn
  have:i=l.length:=by omega
  subst this
  obtain ⟨n,rfl⟩:∃ k,n=k+1:=⟨n-1,by omega⟩
  show Zga.S0 _ _ _ _ _ _ _=_
  unfold Zga.S0
  rw [lt_f (by omega),cond_false,List.take_length]
 | succ d ih=>
  intro i n hd hi hn
  obtain ⟨n,rfl⟩:∃ k,n=k+1:=⟨n-1,by omega⟩
  have hlt:i<l.length:=by omega
  show Zga.S0 (Zga.l0 n) _ _ _ _ _ _=_
  unfold Zga.S0
  rw [lt_t (by omega),cond_true,Zu (by rw [Zf];omega),cond_true,Zna (by rw [List.length_map,List.length_take];omega),cond_true,Zy hlt,Zn (by omega)]
  have:=ih (i+1) n (by omega) (by omega) (by omega)
  rw [take_one hlt,List.map_append] at this
  exact this
theorem Zh8 {s:ByteArray} {l:List Int} (hl:l.length≤65536) {code k n:Int} (hs:Zci s n code=some (l,0)) (m:Int):Zga s n (1,code,m,k)=some (l.map fun x=>((1,x,eB):Cell),0):=by
 show Zga.S (Zga.l0 fu) _ s n _=_
 unfold Zga.S
 dsimp only
 rw [eq_t rfl,cond_true,hs,Option.bind_some]
 exact Zr01 l hl (1,code,m,k) 0 l.length 0 fu (by omega) (by omega) (by unfold fu;omega)
def widN (l:List Int):Nat:=((Zxb l).getD 0).toNat
theorem Zte (l:List Int) (hl:l.length≤65536):Zxb l=some (widN l:Int)∧widN l≤64∧Wd l (widN l):=by
 obtain ⟨v,h1,h2,h3⟩:=Zsh l (by omega)
 have:widN l=v:=by unfold widN;rw [h1];rfl
 rw [this]
 exact ⟨h1,h2,h3⟩
def runO (l:List Int):List Run:=(Zqe l).getD []
theorem Zik (l:List Int) (hl:l.length≤65536):Zqe l=some (runO l)∧flatR (runO l)=l∧okR 0 none (runO l):=by
 obtain ⟨o,h1,h2,h3⟩:=Zpv1 l hl
 have:runO l=o:=by unfold runO;rw [h1];rfl
 rw [this]
 exact ⟨h1,h2,h3⟩
def numB (l:List Int) (code:Int):Option (List Int):=
 if code=1 then some (packB l 64)
 else if code=2 then some (runB (runO l))
 else if code=3 then some (Ztk l (widN (Zuc l)))
 else if code=4 then some (dictB l (widN (Zua l)))
 else if code=5 then some ((widN l:Int) :: packB l (widN l))
 else none
theorem Zb7 (l:List Int) (hl:l.length≤65536) (code:Int):Zri l code=some (match numB l code with | some b=>(ofBytes b,0) | none=>(eB,1)):=by
 unfold Zri numB
 by_cases h1:code=1
 ·rw [eq_t h1,cond_true,if_pos h1,Zd7 l (by omega)]
  rfl
 ·rw [eq_f h1,cond_false,if_neg h1]
  by_cases h2:code=2
  ·obtain ⟨k1,k2,k3⟩:=Zik l hl
   rw [eq_t h2,cond_true,if_pos h2,k1,Option.bind_some,Zw5 _ k3 (by rw [k2];exact hl)]
   rfl
  ·rw [eq_f h2,cond_false,if_neg h2]
   by_cases h3:code=3
   ·have hfl:=Zxh l
    obtain ⟨k1,k2,_⟩:=Zte (Zuc l) (by omega)
    rw [eq_t h3,cond_true,if_pos h3,Zyn l hl k1 k2]
    rfl
   ·rw [eq_f h3,cond_false,if_neg h3]
    by_cases h4:code=4
    ·have hpl:=Zgh l
     obtain ⟨k1,k2,_⟩:=Zte (Zua l) (by omega)
     rw [eq_t h4,cond_true,if_pos h4,Zj8 l hl k1 k2]
     rfl
    ·rw [eq_f h4,cond_false,if_neg h4]
     by_cases h5:code=5
     ·obtain ⟨k1,k2,_⟩:=Zte l hl
      have hb:l.length*widN l≤65536*64:=Nat.mul_le_mul hl k2
      have hpl:=Zpe l (widN l)
      have r1:roomS (ofBytes [(widN l:Int)]) (ofBytes (packB l (widN l)))=true:=decide_eq_true (by rw [Zv,Zv];simp;omega)
      rw [eq_t h5,cond_true,if_pos h5,k1,Option.bind_some,Zim l k2 hl k1 (Nat.le_refl _),Option.bind_some,Zb4 k2]
      dsimp only
      rw [r1,cond_true,Zme]
      rfl
     ·rw [eq_f h5,cond_false,if_neg h5]
theorem Zgh1 {l:List Int} (hl:l.length≤65536) {code:Int} {b:List Int} (h:numB l code=some b):(∀ x∈b,0≤x∧x<256)∧b.length≤20*l.length+8*l.length+40:=by
 unfold numB at h
 have pw:∀ (m:List Int) (w:Nat),w≤64→(packB m w).length≤8*m.length:=fun m w hw=>by
  rw [Zpe]
  have:m.length*w≤m.length*64:=Nat.mul_le_mul_left _ hw
  omega
 split at h
 ·cases h
  exact ⟨Zxk _ _,by have:=pw l 64 (by omega);omega⟩
 ·split at h
  ·cases h
   obtain ⟨_,k2,k3⟩:=Zik l hl
   have h1:=Zdj (runO l)
   have h2:=Zbg _ _ _ k3
   rw [k2] at h2
   exact ⟨Zuw _,by omega⟩
  ·split at h
   ·cases h
    have hfl:=Zxh l
    obtain ⟨_,k2,_⟩:=Zte (Zuc l) (by omega)
    refine ⟨Znv1 l k2,?_⟩
    have h1:=Zbe (l.getD 0 0)
    have h2:=Zbe (minF (diffs l))
    have h3:=pw (Zuc l) _ k2
    unfold Ztk
    split
    ·simp
    ·split
     ·omega
     ·rw [List.length_append,List.length_append,List.length_cons];omega
   ·split at h
    ·cases h
     have hpl:=Zgh l
     have hdl:=Zvi l
     obtain ⟨_,k2,_⟩:=Zte (Zua l) (by omega)
     have h1:=Zbe ((dictI l).length:Int)
     have h2:=Zpj (dictI l)
     have h3:=pw (Zua l) _ k2
     unfold dictB
     split
     ·exact ⟨fun x hx=>(by cases hx),by simp⟩
     ·refine ⟨fun x hx=>?_,by rw [List.length_append,List.length_append];omega⟩
      rcases List.mem_append.1 hx with hx | hx
      ·exact Zzj _ x hx
      ·rcases List.mem_append.1 hx with hx | hx
       ·exact Zyy _ x hx
       ·exact Zxk _ _ x hx
    ·split at h
     ·cases h
      obtain ⟨_,k2,_⟩:=Zte l hl
      have h3:=pw l _ k2
      refine ⟨fun x hx=>?_,by rw [List.length_cons];omega⟩
      rcases List.mem_cons.1 hx with rfl | hx
      ·omega
      ·exact Zxk _ _ x hx
     ·cases h
theorem Zlr {o:List Run} {n:Nat} {p:Option Int} (h:okR n p o):∀ r∈o,r.1∈flatR o:=by
 induction o generalizing n p with
 | nil=>intro r hr;cases hr
 | cons a o ih=>
  intro r hr
  obtain ⟨_,h1,_,h2⟩:=h
  rw [Zyh]
  rcases List.mem_cons.1 hr with rfl | hr
  ·exact List.mem_append_left _ (List.mem_replicate.2 ⟨by omega,rfl⟩)
  ·exact List.mem_append_right _ (ih h2 r hr)
theorem Zby {l:List Int} (hl:l.length≤65536) (h64:∀ x∈l,in64 x) {code:Int} {b:List Int} (h:numB l code=some b) {s:ByteArray} (hs:Zk s=b):Zci s (l.length:Int) code=some (l,0):=by
 unfold numB at h
 unfold Zci
 by_cases h1:code=1
 ·rw [if_pos h1] at h
  cases h
  rw [eq_t h1,cond_true,Zsv1 hl h64 hs]
  rfl
 ·rw [if_neg h1] at h
  rw [eq_f h1,cond_false]
  by_cases h2:code=2
  ·rw [if_pos h2] at h
   cases h
   obtain ⟨_,k2,k3⟩:=Zik l hl
   have:=Zmr (runO l) k3 (by rw [k2];exact hl) (fun r hr=>h64 _ (by rw [← k2];exact Zlr k3 r hr)) hs
   rw [k2] at this
   rw [eq_t h2,cond_true,this,Option.bind_some]
   dsimp only
   rw [ne_f rfl,cond_false,Zuk _ k3 (by rw [k2];exact hl),k2]
   rfl
  ·rw [if_neg h2] at h
   rw [eq_f h2,cond_false]
   by_cases h3:code=3
   ·rw [if_pos h3] at h
    cases h
    have hfl:=Zxh l
    obtain ⟨k1,k2,k3⟩:=Zte (Zuc l) (by omega)
    rw [eq_t h3,cond_true,Zbg1 l hl h64 k1 k2 k3 hs]
    rfl
   ·rw [if_neg h3] at h
    rw [eq_f h3,cond_false]
    by_cases h4:code=4
    ·rw [if_pos h4] at h
     cases h
     have hpl:=Zgh l
     obtain ⟨k1,k2,k3⟩:=Zte (Zua l) (by omega)
     rw [eq_t h4,cond_true,Zc7 l hl h64 k2 k3 hs]
     rfl
    ·rw [if_neg h4] at h
     rw [eq_f h4,cond_false]
     by_cases h5:code=5
     ·rw [if_pos h5] at h
      cases h
      obtain ⟨k1,k2,k3⟩:=Zte l hl
      have hne:s≠eB:=fun he=>by
       have:=size0.1 he
       rw [← Zha,hs,List.length_cons] at this
       omega
      have hsz:s.size=(packB l (widN l)).length+1:=by rw [← Zha,hs,List.length_cons]
      have hcut:Zk (cutS s 1 (lenS s))=packB l (widN l):=Znf (a:=[(widN l:Int)]) (rest:=packB l (widN l)) hs
      have hb0:byteAt s 0=(widN l:Int):=Zdg hs (i:=0) rfl
      rw [eq_t h5,cond_true,eqS_f hne,Bool.not_false,cond_true,Zzb (by rw [Zma];omega),cond_true,Zu (by rw [Zma];omega),cond_true,hb0,Zde (by omega),Zvk k2 hl h64 k3.1 hcut]
      rfl
     ·rw [if_neg h5] at h
      cases h
end Go.AM.Pure
end

section
/- BlockSame. -/
namespace Go.AM.Pure
open Go.AM
set_option maxRecDepth 100000 in
theorem Zzz2:Zep=some true:=by kernel_rfl
theorem Zfp1 (r:List Cell) (hr:r.length<4611686018427387904):∀ (d i n:Nat),d=r.length-i→i≤r.length→d<n→Zhd.l0 n r r (i:Int)=some true:=by
 intro d
 induction d with
 | zero=>
  intro i n hd hi hn
  obtain ⟨n,rfl⟩:∃ k,n=k+1:=⟨n-1,by omega⟩
  show Zhd.S0 (Zhd.l0 n) r r (i:Int)=_
  unfold Zhd.S0
  rw [Zf,Zew1 (by omega)]
  rfl
 | succ d ih=>
  intro i n hd hi hn
  obtain ⟨n,rfl⟩:∃ k,n=k+1:=⟨n-1,by omega⟩
  show Zhd.S0 (Zhd.l0 n) r r (i:Int)=_
  unfold Zhd.S0
  simp only [eqI_d,eqS_d,decide_true,Bool.and_self,Bool.not_true,cond_false]
  rw [Zf,Zdw1 (by omega),Zu (by omega),Zmf (by omega) (by omega)]
  exact ih (i+1) n (by omega) (by omega) (by omega)
theorem Zqs (r:List Cell) (hr:r.length<4611686018427387904):Zhd r r=some true:=by
 show Zhd.S (Zhd.l0 fu) r r=_
 unfold Zhd.S
 rw [ne_f rfl]
 exact Zfp1 r hr (r.length-0) 0 fu rfl (by omega) (by unfold fu;omega)
theorem Zfh1 {s:ByteArray} {h:Int×Int×Int×Int} {m b:ByteArray} {l:List Cell} (hr:Zmh s=some ((h,m,b,l),true)):Zvj s=some (l,0)∧Zwj s=some (h,0)∧Zxl s=some (b,m,0):=by
 refine ⟨?_,?_,?_⟩
 ·unfold Zvj;rw [hr];rfl
 ·unfold Zwj;rw [hr];rfl
 ·unfold Zxl;rw [hr];rfl
end Go.AM.Pure
end
