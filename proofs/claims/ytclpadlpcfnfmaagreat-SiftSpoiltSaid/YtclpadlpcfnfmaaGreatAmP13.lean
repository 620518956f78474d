import Derived.Test.YtclpadlpcfnfmaaGreatAmPRow67
import Derived.Test.YtclpadlpcfnfmaaGreatAmPure13
section
/- Words packed in bits: streams of bits, and what pack.Put writes. -/
namespace Go.AM.Pure
open Go.AM
def wb (x:Int) (w:Nat):List Bool:=(List.range w).map (bit x)
def Ge (l:List Int) (w:Nat):List Bool:=l.flatMap λ x=>wb x w
def Ep:Nat->List Bool->List Int
 | 0,_=>[]
 | n+1,s=>numOf (s.take 8) :: Ep n (s.drop 8)
def CR (l:List Int) (w:Nat):List Int:=Ep ((l.length*w+7) / 8) (Ge l w)
theorem Lr (x:Int) (w:Nat):(wb x w).length=w:=by unfold wb;simp
theorem Re (w:Nat):∀ l:List Int,(Ge l w).length=l.length*w
 | []=>by simp [Ge]
 | x :: l=>by
  have:=Re w l;unfold Ge at *;rw [List.flatMap_cons,Ap,this,Lr,Aw,Nat.add_mul];omega
theorem aw (x:Int) (w:Nat):numOf (wb x w)=x % 2 ^ w:=Uh x w
theorem gL (x:Bool) (a:List Bool):numOf (x :: a)=(if x then 1 else 0)+2*numOf a:=rfl
theorem Q9 (n:Nat) (s:List Bool):Ep (n+1) s=numOf (s.take 8) :: Ep n (s.drop 8):=rfl
theorem Wx:∀ (a b:List Bool),numOf (a++b)=numOf a+2 ^ a.length*numOf b
 | [],b=>by simp [numOf]
 | x :: a,b=>by
  rw [List.cons_append,gL,gL,Wx a b,Aw,Int.pow_succ,Int.mul_add,Int.mul_comm (2 ^ a.length) 2,Int.mul_assoc];omega
theorem lp (x:Int) (k w:Nat) (h:k<=w):wb x w=wb x k++wb (x / 2 ^ k) (w-k):=by
 unfold wb;apply List.ext_getElem?;intro i;by_cases h1:i<w
 ·by_cases h2:i<k
  ·rw [AR (by simpa using h2)];simp [h1,h2]
  ·rw [AJ Ai];simp only [Av,List.length_range,List.getElem?_map];rw [List.getElem?_range h1,List.getElem?_range (show i-k<w-k by omega)];simp only [Option.map_some,Ri];congr 2;omega
 ·rw [List.getElem?_eq_none Ai,List.getElem?_eq_none Ai]
theorem Zaf (x:Int) {w:Nat} (h:w<=64):wb (x % 18446744073709551616) w=wb x w:=by
 unfold wb;apply List.map_congr_left;intro k hk;exact Nd x (by have:=List.mem_range.1 hk;omega)
theorem ye (x:Int):wb x 0=[]:=rfl
theorem MC:∀ (n:Nat) (s:List Bool),(Ep n s).length=n
 | 0,_=>rfl
 | n+1,s=>by unfold Ep;rw [Aw,MC]
theorem SA:∀ (n m:Nat) (a b:List Bool),a.length=8*n->Ep (n+m) (a++b)=Ep n a++Ep m b
 | 0,m,a,b,h=>by
  have:a=[]:=AU Ad;subst this;simp [Ep]
 | n+1,m,a,b,h=>by
  rw [show n+1+m=(n+m)+1 by omega,Q9,Q9,List.take_append_of_le_length Ad,List.drop_append_of_le_length Ad,SA n m _ _ (by rw [List.length_drop];omega)];rfl
theorem vS:∀ (n:Nat) (s:List Bool),∀ b∈Ep n s,0<=b/\b<256
 | 0,_,b,h=>by cases h
 | n+1,s,b,h=>by
  unfold Ep at h;rcases List.mem_cons.1 h with rfl | h
  ·have:=Lj (s.take 8);have h2:(2:Int) ^ (s.take 8).length<=2 ^ 8:=by
    have:(s.take 8).length<=8:=by rw [Ar];omega
    exact_mod_cast Nat.pow_le_pow_right (n:=2) Ad this
   omega
  ·exact vS n _ b h
theorem Sv (l:List Int) (w:Nat):∀ b∈CR l w,0<=b/\b<256:=vS _ _
theorem I8 (l:List Int) (w:Nat):(CR l w).length=(l.length*w+7) / 8:=MC _ _
theorem jF {V c:Int} {a:Nat} (h0:0<=V) (h1:V<2 ^ a) (ha:a<=64):Fa .u64 V (EN .u64 c (a:Int))=(V+c*2 ^ a) % 18446744073709551616:=by
 have hr:∀ x:Int,Fa .u64 V x=Fa .u64 V x % 18446744073709551616:=λ x=>by
  unfold Fa;rw [E6];omega
 rw [hr];apply Sn;intro k hk;rw [jD _ _ hk,aR h0 h1];have hs:EN .u64 c (a:Int)=IntKind.wrap .u64 (c*2 ^ a):=by
  unfold EN;have:min (a:Int).toNat (IntKind.bits .u64)=a:=by show min a 64=a;omega
  rw [this]
 rw [hs,JW _ hk,WS];by_cases h:k<a
 ·rw [if_pos h,Ax Ad];simp
 ·rw [if_neg h,Aq Ad,AH]
  have:bit V k=false:=OT h0 (by
   have:(2:Int) ^ a<=2 ^ k:=by exact_mod_cast Nat.pow_le_pow_right (n:=2) Ad (show a<=k by omega)
   omega)
  rw [this,Bool.false_or]
theorem yd {k:Nat} (h:k<=8):PY (k:Int)=some (2 ^ k-1):=by
 have:∀ k:Fin 9,PY (k.val:Int)=some (2 ^ k.val-1):=by decide +kernel
 exact this ⟨k,Ad⟩
theorem iZ {u:Int} (h0:0<=u) (h1:u<18446744073709551616) {k:Nat} (h:k<=8):Cb .u64 u (IntKind.wrap .u64 (2 ^ k-1))=u % 2 ^ k:=by
 obtain ⟨n,rfl⟩:=Int.eq_ofNat_of_zero_le h0;have hk:(2:Nat) ^ k<=2 ^ 8:=Nat.pow_le_pow_right Ad h;have eQ:0<(2:Nat) ^ k:=Nat.pow_pos Ad;have e:(2:Int) ^ k-1=((2 ^ k-1:Nat):Int):=by
  rw [Int.ofNat_sub eQ];simp
 rw [E6,e];have e2:((2 ^ k-1:Nat):Int) % 18446744073709551616=((2 ^ k-1:Nat):Int):=by omega
 rw [e2];unfold Cb
 rw [BitVec.toNat_and,show (BitVec.ofInt (IntKind.bits .u64) (n:Int)).toNat=n by
   show (BitVec.ofInt 64 (n:Int)).toNat=n;rw [BitVec.toNat_ofInt];omega,show (BitVec.ofInt (IntKind.bits .u64) ((2 ^ k-1:Nat):Int)).toNat=2 ^ k-1 by
   show (BitVec.ofInt 64 ((2 ^ k-1:Nat):Int)).toNat=_;rw [BitVec.toNat_ofInt]
   omega,Nat.and_two_pow_sub_one_eq_mod,E6]
 have:n % 2 ^ k<2 ^ k:=Nat.mod_lt _ eQ;have e3:((n % 2 ^ k:Nat):Int)=(n:Int) % 2 ^ k:=Ah
 rw [<- e3];omega
def Wr (A:List Bool) (out:List Int) (kept n:Int):Prop:=
 ∃ A' R:List Bool,A=A'++R/\A'.length=8*out.length/\out=Ep out.length A'/\R.length<8/\n=(R.length:Int)/\kept=numOf R
theorem Zz1 {o0:Int->List Int->Int->Int->List Int->Int->Int->Option (ByteArray×Int)} {width:Int} {l:List Int} {len i:Int}:
  ∀ (left m:Nat) (A:List Bool) (out:List Int) (kept n u:Int),left<=64->left<m->Wr A out kept n->A.length+left<=100000000000->0<=u->u<18446744073709551616->
   ∃ QE Qq n',Wr (A++wb u left) QE Qq n'/\CC.l1 o0 m width out kept n u (left:Int) l len i=o0 width QE Qq n' l len (A7 .i64 i 1):=by
 intro left;induction left using Nat.strongRecOn with
 | ind left ih=>
 intro m A out kept n u hl hm hw hA h0 h1;obtain ⟨m,rfl⟩:=Aa m;show ∃ QE Qq n',_/\CC.S1 o0 (CC.l1 o0 m) width out kept n u (left:Int) l len i=_;unfold CC.S1;rcases Nat.eq_zero_or_pos left with VN | IW
 ·subst VN;exact ⟨out,kept,n,by rw [ye,AE];exact hw,by rw [Be];rfl⟩
 ·rw [Bw,Ak];obtain ⟨A',R,R2,ED,To,hR,rfl,rfl⟩:=hw;have hks:Bt .i64 8 (R.length:Int)=((8-R.length:Nat):Int):=by rw [CA];omega
  have RO:Eo (Bt .i64 8 (R.length:Int)) (left:Int)=((min (8-R.length) left:Nat):Int):=by
   rw [hks];unfold Eo;split <;> omega
  rw [RO];generalize hk:min (8-R.length) left=k;have YY:k<=8:=Ad
  have eR:1<=k:=Ad
  have Mm:k<=left:=Ad
  rw [yd YY,An,CH,Ak,CH,Ak];have hb:=Lj R;have hand:=iZ h0 h1 YY;have qk:Fa .u64 (numOf R) (EN .u64 (Cb .u64 u (IntKind.wrap .u64 (2 ^ k-1))) (R.length:Int))=numOf (R++wb u k):=by
   rw [hand,jF hb.1 hb.2 Ad,Wx,aw,Int.mul_comm (2 ^ R.length)];have h2:=Lj (R++wb u k);rw [Wx,aw,Int.mul_comm (2 ^ R.length)] at h2;have h3:(2:Int) ^ (R++wb u k).length<=2 ^ 8:=by
    have:(R++wb u k).length<=8:=by rw [Ap,Lr];omega
    exact_mod_cast Nat.pow_le_pow_right (n:=2) Ad this
   omega
  rw [qk];have pB:B7 .u64 u (k:Int)=u / 2 ^ k:=Ns u k Ad;have J5:Bt .i64 (left:Int) (k:Int)=((left-k:Nat):Int):=by rw [CA];omega
  rw [pB,J5,Bk (a:=(R.length:Int)) Ad];have hp:=Fe k;have QI:0<=u / 2 ^ k:=Int.ediv_nonneg h0 (Int.le_of_lt hp);have eO:u / 2 ^ k<18446744073709551616:=by
   have:=Int.ediv_le_self (2 ^ k) h0;omega
  have Ja:=lp u k left Mm;by_cases h8:R.length+k=8
  ·rw [Ci,Ak,Cp (by
    have:A.length=A'.length+R.length:=by rw [R2,Ap]
    omega),Ak]
   have Ps:(R++wb u k).length=8:=by rw [Ap,Lr];omega
   have FW:=Lj (R++wb u k);rw [Ps] at FW;have od:IntKind.wrap .u8 (numOf (R++wb u k))=numOf (R++wb u k):=by rw [KZ];omega
   rw [od];obtain ⟨QE,Qq,n',h2,h3⟩:=ih (left-k) Ad m (A++wb u k) (out++[numOf (R++wb u k)]) 0 0 (u / 2 ^ k) Ad Ad
    ⟨A'++(R++wb u k),[],by rw [R2];simp,by simp;rw [Lr];omega,by
     rw [Ap,AN,SA _ 1 _ _ ED,<- To];congr 1;rw [Q9,AL Ad]
     rfl,Ah,rfl,rfl⟩ (by rw [Ap,Lr];omega) QI eO
   exact ⟨QE,Qq,n',by rw [Ja,<- AA];exact h2,h3⟩
  ·rw [Ca,Al];have Ps:(R++wb u k).length=R.length+k:=by rw [Ap,Lr]
   obtain ⟨QE,Qq,n',h2,h3⟩:=ih (left-k) Ad m (A++wb u k) out (numOf (R++wb u k)) ((R.length:Int)+(k:Int)) (u / 2 ^ k) Ad Ad
    ⟨A',R++wb u k,by rw [R2,AA],ED,To,Ad,Ad,rfl⟩ (by rw [Ap,Lr];omega) QI eO
   exact ⟨QE,Qq,n',by rw [Ja,<- AA];exact h2,h3⟩
theorem ZX (l:List Int) (x:Int) (w:Nat):Ge (l++[x]) w=Ge l w++wb x w:=by unfold Ge;simp
theorem Yaw {A:List Bool} {out:List Int} {kept n:Int} (h:Wr A out kept n) (hA:A.length<=100000000000):CC.S2 out kept n=some (ofBytes (Ep ((A.length+7) / 8) A),0):=by
 obtain ⟨A',R,R2,ED,To,hR,rfl,rfl⟩:=h;unfold CC.S2;have hl:A.length=8*out.length+R.length:=by rw [R2,Ap,ED]
 rcases Nat.eq_zero_or_pos R.length with h0 | IW
 ·rw [Be,Al];have:R=[]:=AU h0;subst this;rw [AE] at R2;subst R2;rw [show (A.length+7) / 8=out.length by simp at hl;omega,<- To]
 ·rw [Bw,Ak,Cp Ad,Ak];have hb:=Lj R;have h3:(2:Int) ^ R.length<=2 ^ 8:=by exact_mod_cast Nat.pow_le_pow_right (n:=2) Ad (show R.length<=8 by omega)
  have od:IntKind.wrap .u8 (numOf R)=numOf R:=by rw [KZ];omega
  rw [od,show (A.length+7) / 8=out.length+1 by omega,R2,SA _ 1 _ _ ED,<- To];congr 4;rw [Q9,AL Ad];rfl
theorem Za2 (l:List Int) {w:Nat} (hw:w<=64) (hl:l.length<=65536):∀ (d i m:Nat) (out:List Int) (kept n:Int),d=l.length-i->i<=l.length->d+1<m->70<m->Wr (Ge (l.take i) w) out kept n->
  CC.l0 (CC.t2 fu) (m+d) (w:Int) out kept n l (l.length:Int) (i:Int)=some (ofBytes (CR l w),0):=by
 intro d;induction d with
 | zero=>
  intro i m out kept n hd hi hm VH MW;have:i=l.length:=Ad
  subst this;obtain ⟨m,rfl⟩:=Aa m;show CC.S0 CC.S2 (CC.l1 _ _) (w:Int) out kept n l (l.length:Int) (l.length:Int)=_;unfold CC.S0;rw [Be,Al];rw [AB] at MW;have hlen:=Re w l;have hb:l.length*w<=65536*64:=Nat.mul_le_mul hl hw;rw [Yaw MW Ad,hlen];rfl
 | succ d ih=>
  intro i m out kept n hd hi hm VH MW;have AY:i<l.length:=Ad
  have hb:l.length*w<=65536*64:=Nat.mul_le_mul hl hw;show CC.S0 (CC.t2 fu) (CC.l1 (CC.l0 (CC.t2 fu) (m+d)) (m+d)) (w:Int) out kept n l (l.length:Int) (i:Int)=_;unfold CC.S0;rw [Bw,Ak,Bq,Ak,BE AY];have hu:=E6 l[i];obtain ⟨QE,Qq,n',h1,h2⟩:=Zz1 (o0:=CC.l0 (CC.t2 fu) (m+d)) (width:=(w:Int)) (l:=l) (len:=(l.length:Int)) (i:=(i:Int)) w (m+d) _ out kept n (IntKind.wrap .u64 l[i]) hw Ad MW
   (by rw [Re,Ar];have:min i l.length*w<=l.length*w:=AT _ (Nat.min_le_right _ _);omega) Ad Ad
  rw [h2,Bk]
  have:=ih (i+1) m QE Qq n' Ad Ad Ad VH (by
   rw [List.take_add_one,AD AY,Option.toList_some,ZX];rw [hu,Zaf _ hw] at h1
   exact h1)
  rw [<- this];congr 1
theorem rO (n w:Nat) (hn:n<=65536) (hw:w<=64):PN (n:Int) (w:Int)=(((n*w+7) / 8:Nat):Int):=by
 unfold PN;have hb:n*w<=65536*64:=Nat.mul_le_mul hn hw;rcases Nat.eq_zero_or_pos n with h | h
 ·subst h;rw [Bw];simp
 ·rw [Be,Al,Be,Al];rcases Nat.eq_zero_or_pos w with h2 | h2
  ·subst h2;rw [Bw];simp
  ·rw [Be,Al,Be,Al];have e:(n:Int)*(w:Int)=((n*w:Nat):Int):=by simp
   rw [Kv (by rw [e];omega),e,Bk];have:=N4 (((n*w:Nat):Int)+7) 3 Ad;rw [show ((3:Nat):Int)=3 from rfl] at this;rw [this];omega
theorem Wk (l:List Int) {w:Nat} (hw:w<=64) (hl:l.length<=65536) {v:Nat} (hv:Ez l=some (v:Int)) (hvw:v<=w):CC l (w:Int)=some (ofBytes (CR l w),0):=by
 show CC.S (CC.l0 (CC.t2 fu) fu) l (w:Int)=_;unfold CC.S;rw [Be,Al,Be,Al,Ba,Be,Al,hv,An,Be,Al,rO _ _ hl hw];have hb:l.length*w<=65536*64:=Nat.mul_le_mul hl hw;dsimp only;rw [Bk,CH,Cp Ad];show CC.l0 (CC.t2 fu) fu (w:Int) [] 0 0 l (l.length:Int) 0=_;have:=Za2 l hw hl l.length 0 (fu-l.length) [] 0 0 Ad Ad Ae Ae ⟨[],[],rfl,rfl,rfl,Af,rfl,rfl⟩;rw [show fu-l.length+l.length=fu by unfold fu;omega] at this;exact this
end Go.AM.Pure
end

section
/- pack.Width, pack.word, pack.Take. -/
namespace Go.AM.Pure
open Go.AM
theorem vQ (u:Int) (v k:Nat) (_:0<=u):bit (u % 2 ^ v) k=(decide (k<v) && bit u k):=by
 obtain ⟨n,rfl⟩:=Int.eq_ofNat_of_zero_le ‹0<=u›;have e:((n:Int) % 2 ^ v)=((n % 2 ^ v:Nat):Int):=by simp
 rw [e,MF,MF,Nat.testBit_mod_two_pow]
theorem s7 {u:Int} (h0:0<=u) (h1:u<18446744073709551616) {v:Nat} (h:∀ k,v<=k->k<64->bit u k=false):u<2 ^ v:=by
 have hp:=Fe v;have h2:=Int.emod_lt_of_pos u hp;have h3:=Int.emod_nonneg u (Int.ne_of_gt hp);have h4:u % 18446744073709551616=(u % 2 ^ v) % 18446744073709551616:=Sn λ k hk=>by
  rw [vQ u v k h0];by_cases hkv:k<v
  ·rw [Aq hkv,AH]
  ·rw [h k Ad hk,Ax hkv];rfl
 have h5:u % 2 ^ v<=u:=by
  have h6:=Int.mul_ediv_add_emod u (2 ^ v);have h7:0<=2 ^ v*(u / 2 ^ v):=Int.mul_nonneg (Int.le_of_lt hp) (Int.ediv_nonneg h0 (Int.le_of_lt hp));omega
 omega
def Wd (l:List Int) (v:Nat):Prop:=(∀ x∈l,x % 18446744073709551616<2 ^ v)/\(v=0\/∃ x∈l,2 ^ (v-1)<=x % 18446744073709551616)
theorem Wd.unique {l:List Int} {v w:Nat} (h1:Wd l v) (h2:Wd l w):v=w:=by
 have key:∀ {v w:Nat},Wd l v->Wd l w->v<=w:=λ {v w} h1 h2=>by
  rcases h1.2 with h | ⟨x,hx,hle⟩
  ·omega
  ·have:=h2.1 x hx;have h3:(2:Int) ^ (v-1)<2 ^ w:=Ad
   have:=Wp h3;omega
 exact Nat.le_antisymm (key h1 h2) (key h2 h1)
def UW (l:List Int) (k:Nat):Bool:=l.any λ x=>bit x k
theorem vR (a b:Int) {k:Nat} (hk:k<64):bit (Fa .i64 a b) k=(bit a k || bit b k):=by
 unfold Fa;rw [P4 _ hk];show bit ((BitVec.ofInt 64 a ||| BitVec.ofInt 64 b).toNat:Int) k=_;rw [MF,BitVec.toNat_or,Nat.testBit_or,Nc _ hk,Nc _ hk]
theorem Zay (l:List Int) (hl:l.length<4611686018427387904):∀ (d i n:Nat) (all:Int),d=l.length-i->i<=l.length->d<n->(∀ k,k<64->bit all k=UW (l.take i) k)->
  ∃ pA,(∀ k,k<64->bit pA k=UW l k)/\Ez.l0 n all l (l.length:Int) (i:Int)=(FO pA).bind λ r=>some r:=by
 intro d;induction d with
 | zero=>
  intro i n all hd hi hn ha;have:i=l.length:=Ad
  subst this;obtain ⟨n,rfl⟩:=Aa n;refine ⟨all,by rw [AB] at ha;exact ha,?_⟩;show Ez.S0 _ _ _ _ _=_;unfold Ez.S0;rw [Be];rfl
 | succ d ih=>
  intro i n all hd hi hn ha;obtain ⟨n,rfl⟩:=Aa n;have AY:i<l.length:=Ad
  show ∃ pA,_/\Ez.S0 (Ez.l0 n) all l (l.length:Int) (i:Int)=_;unfold Ez.S0;rw [Bw,Ak,Bq,Ak,BE AY,Bk];exact ih (i+1) n _ Ad Ad Ad λ k hk=>by
   rw [vR _ _ hk,ha k hk,List.take_add_one,AD AY,Option.toList_some];unfold UW;rw [List.any_append];simp
theorem Sf (l:List Int) (hl:l.length<4611686018427387904):∃ v:Nat,Ez l=some (v:Int)/\v<=64/\Wd l v:=by
 obtain ⟨all,hb,he⟩:=Zay l hl l.length 0 fu 0 Ad Ad Ae λ k _=>by rw [UB];rfl
 obtain ⟨v,h1,h2,h3⟩:=fZ (z:=all) rfl;refine ⟨v,?_,h2,?_⟩
 ·show Ez.l0 fu 0 l (l.length:Int) 0=_;have QL:Ez.l0 fu 0 l (l.length:Int) ((0:Nat):Int)=_:=he;rw [h1] at QL;exact QL
 have MV:∀ k,k<64->bit (all % 18446744073709551616) k=UW l k:=λ k hk=>by rw [Nd _ hk];exact hb k hk
 constructor
 ·intro x hx;refine s7 Ad Ad λ k h4 h5=>?_
  rw [Nd _ h5];have h6:all % 18446744073709551616<2 ^ v:=by
   rcases h3 with ⟨h3,rfl⟩ | ⟨_,_,h3⟩
   ·rw [h3];decide
   ·exact h3
  have h7:bit (all % 18446744073709551616) k=false:=OT Ad (by
   have:(2:Int) ^ v<=2 ^ k:=by exact_mod_cast Nat.pow_le_pow_right (n:=2) Ad h4
   omega)
  rw [MV k h5] at h7;unfold UW at h7;have:=List.any_eq_false.1 h7 x hx;simpa using this
 ·rcases h3 with ⟨_,rfl⟩ | ⟨h4,h5,h6⟩
  ·exact .inl rfl
  ·right;have KG:bit (all % 18446744073709551616) (v-1)=true:=by
    cases hq:bit (all % 18446744073709551616) (v-1) with
    | true=>rfl
    | false=>
     have:=s7 (u:=all % 18446744073709551616) (v:=v-1) Ad Ad λ k h7 h8=>by
      by_cases hk:k=v-1
      ·rw [hk];exact hq
      ·exact OT Ad (by
        have:(2:Int) ^ v<=2 ^ k:=by exact_mod_cast Nat.pow_le_pow_right (n:=2) Ad (show v<=k by omega)
        omega)
     omega
   rw [MV _ Ad] at KG;unfold UW at KG;obtain ⟨x,hx,hxb⟩:=List.any_eq_true.1 KG;refine ⟨x,hx,?_⟩;rcases Int.lt_or_le (x % 18446744073709551616) (2 ^ (v-1)) with h7 | h7
   ·have:=OT Ad h7;rw [Nd _ Ad] at this;rw [this] at hxb;cases hxb
   ·exact h7
def sb (s:ByteArray) (p:Nat):Bool:=bit (byteAt s ((p / 8:Nat):Int)) (p % 8)
theorem Zhp {a:Nat} (h:a<9223372036854775808):Cb .i64 (a:Int) 7=((a % 8:Nat):Int):=by
 unfold Cb;show IntKind.wrap .i64 ((BitVec.ofInt 64 (a:Int) &&& BitVec.ofInt 64 7).toNat:Int)=_;rw [BitVec.toNat_and,show (BitVec.ofInt 64 7).toNat=2 ^ 3-1 from rfl,Nat.and_two_pow_sub_one_eq_mod,show (BitVec.ofInt 64 (a:Int)).toNat=a by rw [BitVec.toNat_ofInt];omega,KW];omega
theorem Xqf (a:Nat):B7 .i64 (a:Int) 3=((a / 8:Nat):Int):=by
 have:=N4 (a:Int) 3 Ad;rw [show ((3:Nat):Int)=3 from rfl] at this;rw [this];omega
theorem tY {f:Nat->Bool} (a b:Nat):(List.range (a+b)).map f=(List.range a).map f++(List.range b).map λ i=>f (a+i):=by
 rw [List.range_add,AG,List.map_map];rfl
theorem Zby (s:ByteArray) {w:Nat} (hw:w<=64) (base:Nat) (hb:base<1000000000000) (Ei:base+w<=8*s.size):∀ (d DQ n:Nat),d=w-DQ->DQ<=w->d<n->
  Hj.l0 n s (w:Int) (numOf ((List.range DQ).map λ i=>sb s (base+i))) ((base+DQ:Nat):Int) (DQ:Int)=some (IntKind.wrap .i64 (numOf ((List.range w).map λ i=>sb s (base+i)))):=by
 intro d;induction d using Nat.strongRecOn with
 | ind d ih=>
 intro DQ n hd hg hn;obtain ⟨n,rfl⟩:=Aa n;show Hj.S0 (Hj.l0 n) s _ _ _ _=_;unfold Hj.S0;by_cases hgw:DQ=w
 ·subst hgw;rw [Be];rfl
 ·rw [Bw,Ak,Xqf,Bq (by rw [Cc];omega),Ak,Zhp Ad,CH,Ak];have Xma:Bt .i64 8 (((base+DQ) % 8:Nat):Int)=((8-(base+DQ) % 8:Nat):Int):=by rw [CA];omega
  have Xna:Bt .i64 (w:Int) (DQ:Int)=((w-DQ:Nat):Int):=by rw [CA];omega
  have RO:Eo (Bt .i64 8 (((base+DQ) % 8:Nat):Int)) (Bt .i64 (w:Int) (DQ:Int))=((min (8-(base+DQ) % 8) (w-DQ):Nat):Int):=by
   rw [Xma,Xna];unfold Eo;split <;> omega
  rw [RO];generalize hk:min (8-(base+DQ) % 8) (w-DQ)=k;have YY:k<=8:=Ad
  rw [yd YY,An,CH,Ak];have Ii:=Jm s (((base+DQ) / 8:Nat):Int);have MW:IntKind.wrap .u64 (byteAt s (((base+DQ) / 8:Nat):Int))=byteAt s (((base+DQ) / 8:Nat):Int):=by rw [E6];omega
  have hp:=Fe ((base+DQ) % 8);rw [MW,Ns _ _ Ad];have VL:0<=byteAt s (((base+DQ) / 8:Nat):Int) / 2 ^ ((base+DQ) % 8):=Int.ediv_nonneg Ii.1 (Int.le_of_lt hp);have VM:byteAt s (((base+DQ) / 8:Nat):Int) / 2 ^ ((base+DQ) % 8)<18446744073709551616:=by
   have:=Int.ediv_le_self (2 ^ ((base+DQ) % 8)) Ii.1;omega
  have FY:=Lj ((List.range DQ).map λ i=>sb s (base+i));rw [Av,List.length_range] at FY;rw [iZ VL VM YY,jF FY.1 FY.2 Ad,Bk,Bk];have Vd:byteAt s (((base+DQ) / 8:Nat):Int) / 2 ^ ((base+DQ) % 8) % 2 ^ k=numOf ((List.range k).map λ i=>sb s (base+(DQ+i))):=by
   rw [<- Uh];congr 1;apply List.map_congr_left;intro i hi;have hi:=List.mem_range.1 hi;rw [Ri];unfold sb;rw [show (base+(DQ+i)) / 8=(base+DQ) / 8 by omega,show (base+(DQ+i)) % 8=(base+DQ) % 8+i by omega]
  have Pe:numOf ((List.range (DQ+k)).map λ i=>sb s (base+i))=numOf ((List.range DQ).map λ i=>sb s (base+i))+byteAt s (((base+DQ) / 8:Nat):Int) / 2 ^ ((base+DQ) % 8) % 2 ^ k*2 ^ DQ:=by
   rw [tY,Wx,Av,List.length_range,Vd,Int.mul_comm (2 ^ DQ)]
  rw [<- Pe];have Yy:=Lj ((List.range (DQ+k)).map λ i=>sb s (base+i));rw [Av,List.length_range] at Yy;have BH:(2:Int) ^ (DQ+k)<=2 ^ 64:=by exact_mod_cast Nat.pow_le_pow_right (n:=2) Ad (show DQ+k<=64 by omega)
  rw [<- Nn] at BH;rw [Int.emod_eq_of_lt Yy.1 Ad];have:=ih (w-(DQ+k)) Ad (DQ+k) n rfl Ad Ad;rw [show ((base+DQ:Nat):Int)+(k:Int)=((base+(DQ+k):Nat):Int) by omega,show (DQ:Int)+(k:Int)=((DQ+k:Nat):Int) by omega];exact this
def Ga (s:ByteArray) (k w:Nat):Int:=IntKind.wrap .i64 (numOf ((List.range w).map λ i=>sb s (k*w+i)))
theorem Zhu (s:ByteArray) {k w:Nat} (hw:w<=64) (hk:k<=65536) (Ei:(k+1)*w<=8*s.size):Hj s (k:Int) (w:Int)=some (Ga s k w):=by
 show Hj.S (Hj.l0 fu) s _ _=_;unfold Hj.S;have hb:k*w<=65536*64:=Nat.mul_le_mul hk hw;have e:(k:Int)*(w:Int)=((k*w:Nat):Int):=by simp
 rw [Kv (by rw [e];omega),e];rw [Nat.add_mul] at Ei;exact Zby s hw (k*w) Ad Ad w 0 fu Ad Ad Ae
theorem Yzv (s:ByteArray) {w n:Nat} (hw:w<=64) (hn:n<=65536) (Ei:n*w<=8*s.size):∀ (d i m:Nat),d=n-i->i<=n->d<m->
  Dd.l1 m s (w:Int) (n:Int) (i:Int) ((List.range i).map (λ k=>Ga s k w)++List.replicate (n-i) (0:Int))=some ((List.range n).map (λ k=>Ga s k w),0):=by
 intro d;induction d with
 | zero=>
  intro i m hd hi hm;have:i=n:=Ad
  subst this;obtain ⟨m,rfl⟩:=Aa m;show Dd.S1 _ _ _ _ _ _=_;unfold Dd.S1;rw [Be,Al,Nat.sub_self,List.replicate_zero,AE]
 | succ d ih=>
  intro i m hd hi hm;obtain ⟨m,rfl⟩:=Aa m;show Dd.S1 (Dd.l1 m) _ _ _ _ _=_;unfold Dd.S1;have hf:(i+1)*w<=n*w:=AT _ Ad;rw [Bw,Ak,Zhu s hw Ad Ad,An,Bq (by rw [Ba];simp;omega),Ak,Bk];have:=ih (i+1) m Ad Ad Ad;rw [show (i:Int)+1=((i+1:Nat):Int) by omega,<- this];congr 1
  rw [show ((i:Int)).toNat=i from rfl,List.set_append_right _ _ Ah,Av,List.length_range,Nat.sub_self,show n-i=(n-(i+1))+1 by omega,List.replicate_succ,List.set_cons_zero,List.range_succ,AG,
   AA]
  rfl
theorem gn (s:ByteArray) {w n:Nat} (hw:w<=64) (hn:n<=65536):Dd s (n:Int) (w:Int) =
  some (if s.size=(n*w+7) / 8 then (if n*w % 8=0\/byteAt s ((s.size-1:Nat):Int)<2 ^ (n*w % 8) then ((List.range n).map (λ k=>Ga s k w),0) else ([],20)) else ([],20)):=by
 show Dd.S (Dd.t0 fu) s _ _=_;unfold Dd.S;have hb:n*w<=65536*64:=Nat.mul_le_mul hn hw;have e:(n:Int)*(w:Int)=((n*w:Nat):Int):=by simp
 rw [Be,Al,Be,Al,Be,Al,Be,Al,rO _ _ hn hw,Cc];by_cases hs:s.size=(n*w+7) / 8
 ·rw [Cs,Al,if_pos hs,Kv (by rw [e];omega),e,Zhp Ad];have hj:n*w<=8*s.size->Dd.t0 fu s (n:Int) (w:Int)=some ((List.range n).map (λ k=>Ga s k w),0):=λ hf=>by
   show Dd.S0 (Dd.l1 _) s (n:Int) (w:Int)=_;unfold Dd.S0;rw [CH,Cp Ad];have:=Yzv s hw hn hf n 0 18446744073709551615 Ad Ad Ad;rw [Nat.sub_zero] at this;exact this
  rcases Nat.eq_zero_or_pos (n*w % 8) with h0 | IW
  ·rw [Be,Al,if_pos (.inl h0)];exact hj Ad
  ·rw [Bw,Ak,CA,Bq,Ak,CH,Ak];have BL:((s.size:Nat):Int)-1=((s.size-1:Nat):Int):=by omega
   have Ii:=Jm s ((s.size-1:Nat):Int);have pB:B7 .u8 (byteAt s ((s.size-1:Nat):Int)) ((n*w % 8:Nat):Int)=byteAt s ((s.size-1:Nat):Int) / 2 ^ (n*w % 8):=by
    unfold B7;have:min ((n*w % 8:Nat):Int).toNat (IntKind.bits .u8)=n*w % 8:=by show min (n*w % 8) 8=_;omega
    rw [this,Int.fdiv_eq_ediv_of_nonneg];exact Int.le_of_lt (Fe _)
   have hp:=Fe (n*w % 8);rw [BL,pB];by_cases AY:byteAt s ((s.size-1:Nat):Int)<2 ^ (n*w % 8)
   ·rw [Int.ediv_eq_zero_of_lt Ii.1 AY,Be,Al,if_pos (.inr AY)];exact hj Ad
   ·have h1:1<=byteAt s ((s.size-1:Nat):Int) / 2 ^ (n*w % 8):=(Int.le_ediv_iff_mul_le hp).2 Ad;rw [Bw,Ak,if_neg Ad]
 ·rw [Fh,Ak,if_neg hs]
end Go.AM.Pure
end

section
/- What was packed is taken as it was. -/
namespace Go.AM.Pure
open Go.AM
theorem il:∀ (l:List Bool) (k:Nat),bit (numOf l) k=l.getD k false
 | [],k=>by show bit 0 k=_;rw [UB];rfl
 | b :: l,k=>by
  rw [gL];have h:=aR (V:=if b then 1 else 0) (c:=numOf l) (a:=1) (by cases b <;> decide) (by cases b <;> decide) k;rw [show (2:Int)*numOf l=numOf l*2 ^ 1 by rw [Int.pow_succ,Int.pow_zero];omega,h];cases k with
  | zero=>cases b <;> rfl
  | succ k=>rw [if_neg Ad,show k+1-1=k by omega,il l k];rfl
theorem SB:∀ (n:Nat) (s:List Bool) (j:Nat),j<n->(Ep n s)[j]? = some (numOf ((s.drop (8*j)).take 8))
 | 0,_,_,h=>by omega
 | n+1,s,0,_=>by rw [Q9];rfl
 | n+1,s,j+1,h=>by
  rw [Q9,List.getElem?_cons_succ,SB n _ j Ad,List.drop_drop];congr 4;omega
theorem jg {w:Nat}:∀ (l:List Int) (k i:Nat) (h:k<l.length),i<w->(Ge l w)[k*w+i]? = some (bit l[k] i)
 | [],_,_,h,_=>by simp at h
 | x :: l,0,i,_,hi=>by
  unfold Ge;rw [List.flatMap_cons,Nat.zero_mul,AF,AR (by rw [Lr];exact hi)];unfold wb;simp [hi]
 | x :: l,k+1,i,h,hi=>by
  have:=jg l k i (by simpa using h) hi;unfold Ge at this ⊢;rw [List.flatMap_cons,AJ (by rw [Lr,Nat.add_mul];omega),Lr,show (k+1)*w+i-w=k*w+i by rw [Nat.add_mul];omega];simpa using this
theorem Zf2 {l:List Int} {w:Nat} {s:ByteArray} (hs:Bu s=CR l w) {p:Nat} (hp:p<l.length*w):sb s p=(Ge l w).getD p false:=by
 unfold sb;have hj:p / 8<(l.length*w+7) / 8:=Ad
 have BL:s.size=(l.length*w+7) / 8:=by rw [<- C6,hs,I8]
 have h1:=KS s (p / 8) Ad;rw [hs] at h1;unfold CR at h1;rw [SB _ _ _ hj] at h1;rw [<- Option.some.inj h1,il,AK,AK,AQ,if_pos Ad,List.getElem?_drop];congr 2;omega
theorem wrap_small {x:Int} (h:BN x) {w:Nat} (hw:w<=64) (hx:x % 18446744073709551616<2 ^ w):IntKind.wrap .i64 (x % 2 ^ w)=x:=by
 have h1:x % 2 ^ w=x % 18446744073709551616:=by
  have hd:=Int.emod_emod_of_dvd x (WV hw);rw [<- Nn] at hd;rw [<- hd];exact Int.emod_eq_of_lt Ad hx
 rw [h1,P0,M7 h]
theorem su {l:List Int} {w:Nat} (hw:w<=64) {s:ByteArray} (hs:Bu s=CR l w) (BH:∀ x∈l,BN x) (hv:∀ x∈l,x % 18446744073709551616<2 ^ w) {k:Nat} (hk:k<l.length):Ga s k w=l[k]:=by
 unfold Ga;have J7:l[k]∈l:=Ay hk;have:(List.range w).map (λ i=>sb s (k*w+i))=wb l[k] w:=by
  unfold wb;apply List.map_congr_left;intro i hi;have hi:=List.mem_range.1 hi;have hle:(k+1)*w<=l.length*w:=AT _ hk;rw [Nat.add_mul] at hle;rw [Zf2 hs Ad,AK,jg l k i hk hi];rfl
 rw [this,aw,wrap_small (BH _ J7) hw (hv _ J7)]
theorem Sx {l:List Int} {w:Nat} (hw:w<=64) (hl:l.length<=65536) (BH:∀ x∈l,BN x) (hv:∀ x∈l,x % 18446744073709551616<2 ^ w) {s:ByteArray} (hs:Bu s=CR l w):
  Dd s (l.length:Int) (w:Int)=some (l,0):=by
 have BL:s.size=(l.length*w+7) / 8:=by rw [<- C6,hs,I8]
 have Oe:l.length*w % 8=0\/byteAt s ((s.size-1:Nat):Int)<2 ^ (l.length*w % 8):=by
  rcases Nat.eq_zero_or_pos (l.length*w % 8) with h | h
  ·exact .inl h
  ·right;have h1:=KS s (s.size-1) Ad;rw [hs] at h1;unfold CR at h1;rw [SB _ _ _ Ad] at h1;rw [<- Option.some.inj h1];have hb:=Lj (((Ge l w).drop (8*(s.size-1))).take 8);have hlen:(((Ge l w).drop (8*(s.size-1))).take 8).length=l.length*w % 8:=by
    rw [Ar,List.length_drop,Re];omega
   rw [hlen] at hb;exact hb.2
 rw [gn s hw hl,if_pos BL,if_pos Oe];congr 2;apply List.ext_getElem
 ·simp
 ·intro i h1 h2;rw [List.getElem_map,List.getElem_range];exact su hw hs BH hv h2
theorem Zuv (l:List Int) (w:Nat):Bu (ofBytes (CR l w))=CR l w:=Ko (Sv l w)
end Go.AM.Pure
end

section
/- nulls: a mask and the other cells; put together again. -/
namespace Go.AM.Pure
open Go.AM
abbrev Db (c:Cell):Bool:=PQ c
def Bv (l:List Cell):List Cell:=l.filter λ c=>!Db c
def Eh (l:List Cell):List Int:=l.map λ c=>if Db c then 1 else 0
def C1 (l:List Cell):List Int:=if l.any Db then CR (Eh l) 1 else []
theorem Sk {α:Type} {c:Bool} {m:Option α} {k:α->Bool} {x:α} (hc:c=true) (hm:m=some x) (hk:k x=true):Qc c m k=some x:=by
 unfold Qc;rw [hc,hm];show (bif k x then some x else none)=_;rw [hk];rfl
theorem vU {α:Type} {l:List α} {i:Nat} (h:i<l.length) (z:α):List.getD l ((i:Int)).toNat z=l[i]:=by
 rw [show ((i:Int)).toNat=i from rfl,AK,AD h];rfl
theorem Yo3 (l:List Cell) (hl:l.length<4611686018427387904) (h0:0<l.length):∀ (d i n:Nat),d=l.length-i->i<=l.length->d<n->(∀ j (h:j<l.length),j<i->Db l[j]=false)->
  ∃ r,Hd.l0 n (l.length:Int) (i:Int) l=some (r,l)/\
   ((r = -1/\∀ j (h:j<l.length),Db l[j]=false)\/∃ k:Nat,r=(k:Int)/\∃ h:k<l.length,Db l[k]=true/\∀ j (h:j<l.length),j<k->Db l[j]=false):=by
 intro d;induction d with
 | zero=>
  intro i n hd hi hn ha;have:i=l.length:=Ad
  subst this;obtain ⟨n,rfl⟩:=Aa n;refine ⟨-1,?_, .inl ⟨rfl,λ j h=>ha j h h⟩⟩;show Hd.S0 _ _ _ _=_;unfold Hd.S0;rw [Be,Al,Aq h0,Ak]
 | succ d ih=>
  intro i n hd hi hn ha;obtain ⟨n,rfl⟩:=Aa n;have AY:i<l.length:=Ad
  have hS:Hd.l0 (n+1) (l.length:Int) (i:Int) l=(bif Db l[i] then some ((i:Int),l) else Hd.l0 n (l.length:Int) ((i+1:Nat):Int) l):=by
   show Hd.S0 _ _ _ _=_;unfold Hd.S0;rw [Bw,Ak,Bq,Ak,vU AY,Aq h0,Ak,Bk];rfl
  rw [hS];cases hq:Db l[i] with
  | true=>exact ⟨(i:Int),rfl, .inr ⟨i,rfl,AY,hq,ha⟩⟩
  | false=>
   obtain ⟨r,h1,h2⟩:=ih (i+1) n Ad Ad Ad λ j h hj=>by
    by_cases Oz:j=i
    ·subst Oz;exact hq
    ·exact ha j h Ad
   exact ⟨r,h1,h2⟩
theorem Uk (l:List Cell) (c:Cell):Bv (l++[c])=Bv l++(if Db c then [] else [c]):=by
 unfold Bv;rw [List.filter_append];cases h:Db c <;> simp [h]
theorem Jp (l:List Cell):(Bv l).length<=l.length:=List.length_filter_le _ _
theorem take_one {α:Type} {l:List α} {i:Nat} (h:i<l.length):l.take (i+1)=l.take i++[l[i]]:=by
 rw [List.take_add_one,AD h];rfl
theorem Yid (L:List Cell) (hL:L.length<4611686018427387904) (h0:0<L.length):∀ (d j n:Nat) (t:List Cell),d=L.length-j->j<=L.length->d<n->t.length=L.length->t.take (Bv (L.take j)).length=Bv (L.take j)->t.drop j=L.drop j->
  ∃ t',Ek.l0 (Ek.t1 fu) n ((Bv (L.take j)).length:Int) (j:Int) t=some (((Bv L).length:Int),t')/\t'.length=L.length/\t'.take (Bv L).length=Bv L:=by
 intro d;induction d with
 | zero=>
  intro j n t hd hj hn ht h1 h2;have:j=L.length:=Ad
  subst this;obtain ⟨n,rfl⟩:=Aa n;rw [AB] at h1 ⊢;have hle:=Jp L;have FL:((Int.toNat (AZ t))-(Int.toNat ((Bv L).length:Int)))=L.length-(Bv L).length:=by rw [Ba,ht];rfl
  refine ⟨Ig t (Bv L).length (List.replicate (L.length-(Bv L).length) ((0:Int),((0:Int),eB))),?_,?_,?_⟩
  ·show Ek.S0 Ek.S1 _ _ _ _=_;unfold Ek.S0;rw [Be (by rw [Ba];omega),Al];unfold Ek.S1;rw [FL,show Int.toNat ((Bv L).length:Int)=(Bv L).length from rfl,Dg (by rw [Ba];omega),Ak];have hlen:(Ig t (Bv L).length (List.replicate (L.length-(Bv L).length) ((0:Int),((0:Int),eB)))).length=L.length:=by
    unfold Ig;simp;omega
   rw [Dg (by rw [Ba,hlen];omega),Ak,hlen,Aq h0,Ak,Nat.sub_zero]
  ·unfold Ig;simp;omega
  ·unfold Ig;rw [List.take_append_of_le_length (by rw [Ar];omega),List.take_take,Nat.min_self,h1]
 | succ d ih=>
  intro j n t hd hj hn ht h1 h2;obtain ⟨n,rfl⟩:=Aa n;have AY:j<L.length:=Ad
  have hle:=Jp (L.take j);rw [Ar] at hle;have TF:t[j]'Ad=L[j]:=by
   have:(t.drop j)[0]? = (L.drop j)[0]?:=by rw [h2]
   rw [List.getElem?_drop,List.getElem?_drop,Nat.add_zero,AD (show j<t.length by omega),AD AY] at this;exact Option.some.inj this
  show ∃ t',Ek.S0 _ _ _ _ _=_/\_;unfold Ek.S0;rw [Bw (by rw [Ba];omega),Ak,Bq,Ak,vU (show j<t.length by omega),TF];have Je:=Uk (L.take j) L[j];rw [<- take_one AY] at Je;cases hq:Db L[j] with
  | true=>
   rw [show Wc L[j]=true from hq,Bool.not_true,Al,Bk];rw [hq,if_pos rfl,AE] at Je;have:=ih (j+1) n t Ad Ad Ad ht (by rw [Je];exact h1) (by rw [<- List.drop_drop,<- List.drop_drop,h2]);rw [Je] at this;exact this
  | false=>
   rw [show Wc L[j]=false from hq,Bool.not_false,Ak,Bq,Ak,Bk,Bk,show Int.toNat ((Bv (L.take j)).length:Int)=(Bv (L.take j)).length from rfl];rw [hq,if_neg Af] at Je
   have:=ih (j+1) n (t.set (Bv (L.take j)).length L[j]) Ad Ad Ad (by rw [List.length_set];exact ht) (by
    rw [Je,Ap,AN,take_one (by rw [List.length_set];omega),List.take_set_of_le (Au _),h1,List.getElem_set_self])
    (by rw [List.drop_set_of_lt Ad,<- List.drop_drop,<- List.drop_drop,h2])
   rw [Je,Ap,AN] at this;exact this
theorem del_eq (L:List Cell) (hL:L.length<4611686018427387904) (h0:0<L.length):
  ∃ t',Ek L=some (((Bv L).length:Int),t')/\t'.length=L.length/\t'.take (Bv L).length=Bv L:=by
 show ∃ t',Ek.S (Ek.l0 (Ek.t1 fu) fu) L=_/\_;unfold Ek.S;obtain ⟨r,h1,h2⟩:=Yo3 L hL h0 L.length 0 fu Ad Ad Ae λ j h hj=>by omega
 have RY:Hd L=some (r,L):=h1;rw [Sk (x:=(r,L)) (by rw [Aq h0];rfl) RY Ah,An];dsimp only;have ML:∀ k,(∀ j (h:j<L.length),j<k->Db L[j]=false)->Bv (L.take k)=L.take k:=λ k hk=>by
  unfold Bv;rw [List.filter_eq_self];intro c hc;obtain ⟨i,hi,rfl⟩:=List.mem_iff_getElem.1 hc;rw [Ar] at hi;rw [List.getElem_take,hk i Ad Ad];rfl
 rcases h2 with ⟨rfl,h2⟩ | ⟨k,rfl,hk,hq,h2⟩
 ·have:Bv L=L:=by
   have:=ML L.length λ j h _=>h2 j h
   rwa [AB] at this
  rw [Ci rfl,Ak,Aq h0,Ak];exact ⟨L,by rw [this,Ba],rfl,by rw [this,AB]⟩
 ·rw [Ca,Al,Bk];have hrk:=ML k h2;have Je:=Uk (L.take k) L[k];rw [<- take_one hk,hq,if_pos rfl,AE,hrk] at Je;have:=Yid L hL h0 (L.length-(k+1)) (k+1) fu L rfl Ad Ae rfl (by rw [Je,Ar,Nat.min_eq_left (Nat.le_of_lt hk)]) rfl;rw [Je,Ar,Nat.min_eq_left (Nat.le_of_lt hk)] at this;exact this
theorem Ip (l:List Cell):(Eh l).length=l.length:=by unfold Eh;simp
theorem ik {l:List Cell} {i:Nat} (h:i<l.length):(Eh l)[i]'(by rw [Ip];exact h)=if Db l[i] then 1 else 0:=by unfold Eh;simp
theorem Wz {l:List Cell}:∀ x∈Eh l,x=0\/x=1:=λ x hx=>by
 unfold Eh at hx;obtain ⟨c,_,rfl⟩:=List.mem_map.1 hx;cases Db c
 ·exact .inl rfl
 ·exact .inr rfl
theorem Ze2 (l:List Cell) (hl:l.length<=65536):CC (Eh l) 1=some (ofBytes (CR (Eh l) 1),0):=by
 obtain ⟨v,h1,h2,h3,h4⟩:=Sf (Eh l) (by rw [Ip];omega);refine Wk (Eh l) (w:=1) Ad (by rw [Ip];exact hl) h1 ?_;rcases h4 with h4 | ⟨x,hx,h4⟩
 ·omega
 ·have h5:(2:Int) ^ (v-1)<2 ^ 1:=by
   rcases Wz x hx with rfl | rfl
   ·omega
   ·have e:(1:Int) % 18446744073709551616=1:=rfl;rw [e] at h4;omega
  have:=Wp h5;omega
theorem Zdy (l:List Cell) (hl:l.length<=65536) (lo n0:Nat) (t11:List Cell):∀ (d i n:Nat),d=l.length-i->i<=l.length->d<n->
  Ea.l0 (Ea.t1 fu) n lo n0 l (l.length:Int) (i:Int) t11 ((Eh l).take i++List.replicate (l.length-i) (0:Int))=some (ofBytes (CR (Eh l) 1),List.take n0 (List.drop lo t11)):=by
 intro d;induction d with
 | zero=>
  intro i n hd hi hn;have:i=l.length:=Ad
  subst this;obtain ⟨n,rfl⟩:=Aa n;show Ea.S0 Ea.S1 _ _ _ _ _ _ _ _=_;unfold Ea.S0;rw [Be,Al];unfold Ea.S1;rw [Nat.sub_self,List.replicate_zero,AE,AL (by rw [Ip];exact Au _),Ze2 l hl,An]
 | succ d ih=>
  intro i n hd hi hn;obtain ⟨n,rfl⟩:=Aa n;have AY:i<l.length:=Ad
  show Ea.S0 _ (Ea.l0 (Ea.t1 fu) n) _ _ _ _ _ _ _=_;unfold Ea.S0;rw [Bw,Ak,Bq,Ak,BE AY];have Pe:∀ b:Int,(Eh l)[i]'(by rw [Ip];exact AY)=b->(Eh l).take i++b :: List.replicate (l.length-(i+1)) (0:Int)=(Eh l).take (i+1)++List.replicate (l.length-(i+1)) (0:Int):=λ b hb=>by
   rw [take_one (by rw [Ip];exact AY),hb,AA];rfl
  have FL:List.replicate (l.length-i) (0:Int)=0 :: List.replicate (l.length-(i+1)) (0:Int):=by rw [show l.length-i=(l.length-(i+1))+1 by omega,List.replicate_succ]
  have:=ih (i+1) n Ad Ad Ad;have hg:=ik AY;cases hq:Db l[i] with
  | true=>
   rw [hq,if_pos rfl] at hg
   rw [show PQ l[i]=true from hq,Ak,Bq (by rw [Ba,Ap,Ar,Ip,AO];omega),Ak,Bk,FL,show ((i:Int)).toNat=i from rfl,List.set_append_right _ _ (by rw [Ar];omega),
    Ar,Ip,Nat.min_eq_left (Nat.le_of_lt AY),Nat.sub_self,List.set_cons_zero,Pe 1 hg]
   exact this
  | false=>
   rw [hq,if_neg Af] at hg;rw [show PQ l[i]=false from hq,Al,Bk,FL,Pe 0 hg];exact this
theorem tZ {l:List Cell} (h:(Bv l).length=l.length):Bv l=l/\l.any Db=false:=by
 have h1:∀ c∈l,(!Db c)=true:=List.length_filter_eq_length_iff.1 h;refine ⟨List.filter_eq_self.2 h1,List.any_eq_false.2 λ c hc=>?_⟩;have:=h1 c hc;simpa using this
theorem rH (l:List Cell) (hl:l.length<=65536) (h0:0<l.length):Ea l=some (ofBytes (C1 l),Bv l):=by
 show Ea.S (Ea.l0 (Ea.t1 fu) fu) l=_;unfold Ea.S;have hc:Lp 32 l=some l:=by
  unfold Lp;rw [Aq h0,Cp Ad];rfl
 obtain ⟨t',h1,h2,h3⟩:=del_eq l Ad h0;rw [hc,An,Sk (x:=(((Bv l).length:Int),t')) (by rw [Aq h0];rfl) h1 (by simp [h2]),An];dsimp only;rw [show Int.toNat ((Bv l).length:Int)=(Bv l).length from rfl,List.drop_zero,Ba];have hle:=Jp l;by_cases heq:(Bv l).length=l.length
 ·obtain ⟨h4,h5⟩:=tZ heq;rw [Ci,Ak,h3];unfold C1;rw [h5];rfl
 ·have On:l.any Db=true:=by
   cases hq:l.any Db with
   | true=>rfl
   | false=>
    have:Bv l=l:=List.filter_eq_self.2 λ c hc=>by
     have:=List.any_eq_false.1 hq c hc;simpa using this
    rw [this] at heq;exact absurd rfl heq
  rw [Ca,Al,CH,Cp (by show l.length*8<=_;omega)];have:=Zdy l hl 0 (Bv l).length t' l.length 0 fu Ad Ad Ae;rw [Nat.sub_zero,List.drop_zero,h3] at this;unfold C1;rw [On,if_pos rfl];exact this
end Go.AM.Pure
end

section
/- nulls: Count and Join of what Split gave. -/
namespace Go.AM.Pure
open Go.AM
theorem Zm2 (l:List Int) (hl:l.length<4611686018427387904) (v:Int):∀ (d i n:Nat),d=l.length-i->i<=l.length->d<n->(∀ j (h:j<l.length),j<i->l[j]≠v)->
  ∃ r,Hy.l0 n l v (l.length:Int) (i:Int)=some r/\BC 0 r=l.any (λ x=>decide (x=v)):=by
 intro d;induction d with
 | zero=>
  intro i n hd hi hn ha;have:i=l.length:=Ad
  subst this;obtain ⟨n,rfl⟩:=Aa n;refine ⟨-1,?_,?_⟩
  ·show Hy.S0 _ _ _ _ _=_;unfold Hy.S0;rw [Be,Al]
  ·rw [show BC 0 (-1)=false from rfl];symm;rw [List.any_eq_false];intro x hx;obtain ⟨j,hj,rfl⟩:=List.mem_iff_getElem.1 hx;simpa using ha j hj hj
 | succ d ih=>
  intro i n hd hi hn ha;obtain ⟨n,rfl⟩:=Aa n;have AY:i<l.length:=Ad
  show ∃ r,Hy.S0 (Hy.l0 n) _ _ _ _=_/\_;unfold Hy.S0;rw [Bw,Ak,Bq,Ak,BE AY];by_cases hq:v=l[i]
  ·rw [Ci hq,Ak];refine ⟨_,rfl,?_⟩;rw [CH];symm;rw [List.any_eq_true];exact ⟨l[i],Ay AY,by simp [hq]⟩
  ·rw [Ca hq,Al,Bk];exact ih (i+1) n Ad Ad Ad λ j h hj=>by
    by_cases Oz:j=i
    ·subst Oz;exact λ h=>hq h.symm
    ·exact ha j h Ad
theorem gp (l:List Int) (hl:l.length<4611686018427387904) (v:Int):Zk l v=some (l.any λ x=>decide (x=v)):=by
 unfold Zk;obtain ⟨r,h1,h2⟩:=Zm2 l hl v l.length 0 fu Ad Ad Ae λ j h hj=>by omega
 have:Hy l v=some r:=h1;rw [this,An,h2]
theorem Zly (l:List Cell) (hl:l.length<4611686018427387904):∀ (d i n:Nat),d=l.length-i->i<=l.length->d<n->(∀ j (h:j<l.length),j<i->Db l[j]=false)->
  ∃ r,Hx.l0 n l (l.length:Int) (i:Int)=some r/\BC 0 r=l.any Db:=by
 intro d;induction d with
 | zero=>
  intro i n hd hi hn ha;have:i=l.length:=Ad
  subst this;obtain ⟨n,rfl⟩:=Aa n;refine ⟨-1,?_,?_⟩
  ·show Hx.S0 _ _ _ _=_;unfold Hx.S0;rw [Be,Al]
  ·rw [show BC 0 (-1)=false from rfl];symm;rw [List.any_eq_false];intro x hx;obtain ⟨j,hj,rfl⟩:=List.mem_iff_getElem.1 hx;rw [ha j hj hj];decide
 | succ d ih=>
  intro i n hd hi hn ha;obtain ⟨n,rfl⟩:=Aa n;have AY:i<l.length:=Ad
  show ∃ r,Hx.S0 (Hx.l0 n) _ _ _=_/\_;unfold Hx.S0;rw [Bw,Ak,Bq,Ak,BE AY];cases hq:Db l[i] with
  | true=>
   rw [show PQ l[i]=true from hq,Ak];refine ⟨_,rfl,?_⟩;rw [CH];symm;rw [List.any_eq_true];exact ⟨l[i],Ay AY,hq⟩
  | false=>
   rw [show PQ l[i]=false from hq,Al,Bk];exact ih (i+1) n Ad Ad Ad λ j h hj=>by
    by_cases Oz:j=i
    ·subst Oz;exact hq
    ·exact ha j h Ad
theorem rR (l:List Cell) (hl:l.length<4611686018427387904):Zi l=some (l.any Db):=by
 unfold Zi;obtain ⟨r,h1,h2⟩:=Zly l hl l.length 0 fu Ad Ad Ae λ j h hj=>by omega
 have:Hx l=some r:=h1;rw [this,An,h2]
theorem Zn2 (l:List Cell):(Eh l).any (λ x=>decide (x=1))=l.any Db:=by
 unfold Eh;rw [List.any_map];congr 1;funext c;show decide ((if Db c=true then (1:Int) else 0)=1)=Db c;cases Db c <;> rfl
theorem Zmy {l:List Cell} (h:l.any Db=false):Eh l=List.replicate l.length (0:Int):=by
 rw [List.eq_replicate_iff];refine ⟨Ip l,λ x hx=>?_⟩;unfold Eh at hx;obtain ⟨c,hc,rfl⟩:=List.mem_map.1 hx;have:=List.any_eq_false.1 h c hc;rw [if_neg this]
theorem gb (l:List Cell) (hl:l.length<=65536) (h0:0<l.length) {s:ByteArray} (hs:Bu s=C1 l):N3 s (l.length:Int)=some (Eh l,0):=by
 unfold N3;rw [Be,Al,Be,Al];unfold C1 at hs;cases On:l.any Db with
 | false=>
  rw [On,if_neg Af] at hs;have:s=eB:=Gx.2 (by rw [<- C6,hs];rfl);rw [Gp this,Ak,CH,Cp (by show l.length*8<=_;omega)];show some (List.replicate l.length (0:Int),(0:Int))=_;rw [Zmy On]
 | true=>
  rw [On,if_pos rfl] at hs;have Cg:s≠eB:=λ h=>by
   have:=Gx.1 h;rw [<- C6,hs,I8,Ip] at this;omega
  rw [K6 Cg,Al]
  have:=Sx (l:=Eh l) (w:=1) Ad (by rw [Ip];exact hl) (λ x hx=>by
   unfold BN;rcases Wz x hx with rfl | rfl <;> omega) (λ x hx=>by
   rcases Wz x hx with rfl | rfl <;> decide) hs
  rw [Ip] at this;rw [show (1:Int)=((1:Nat):Int) from rfl,this,An];dsimp only;rw [Cs rfl,Al,gp _ (by rw [Ip];omega),An];rw [show ((1:Nat):Int)=1 from rfl,Zn2,On];rfl
theorem Zlp (l:List Cell):(Eh l).foldr (· + ·) 0=((l.length-(Bv l).length:Nat):Int):=by
 induction l with
 | nil=>rfl
 | cons c l ih=>
  have hle:=Jp l;have e1:Eh (c :: l)=(if Db c then 1 else 0) :: Eh l:=rfl;have e2:Bv (c :: l)=if Db c then Bv l else c :: Bv l:=by
   unfold Bv;cases h:Db c <;> simp [h]
  rw [e1,e2,List.foldr_cons,ih];cases Db c
  ·rw [if_neg Af,if_neg Af,Aw,Aw];omega
  ·rw [if_pos rfl,if_pos rfl,Aw];omega
theorem te (b:List Int) (hb:b.length<=65536) (hm:∀ x∈b,x=0\/x=1) (e:Int):∀ (d i n:Nat) (k:Int),d=b.length-i->i<=b.length->d<n->0<=k->k<=i->
  Fo.l0 n e k b (b.length:Int) (i:Int)=some (k+(b.drop i).foldr (· + ·) 0,e):=by
 intro d;induction d with
 | zero=>
  intro i n k hd hi hn h1 h2;have:i=b.length:=Ad
  subst this;obtain ⟨n,rfl⟩:=Aa n;show Fo.S0 _ _ _ _ _ _=_;unfold Fo.S0;rw [Be,Al,List.drop_length];simp
 | succ d ih=>
  intro i n k hd hi hn h1 h2;obtain ⟨n,rfl⟩:=Aa n;have AY:i<b.length:=Ad
  show Fo.S0 (Fo.l0 n) _ _ _ _ _=_;unfold Fo.S0;have hx:=hm b[i] (Ay AY);rw [Bw,Ak,Bq,Ak,BE AY,Bk,Bk];have:=ih (i+1) n (k+b[i]) Ad Ad Ad Ad Ad;rw [show (i:Int)+1=((i+1:Nat):Int) by omega,this,List.drop_eq_getElem_cons AY,List.foldr_cons,Int.add_assoc]
theorem rI (l:List Cell) (hl:l.length<=65536) (h0:0<l.length) {s:ByteArray} (hs:Bu s=C1 l):Fo s (l.length:Int)=some (((l.length-(Bv l).length:Nat):Int),0):=by
 show Fo.S (Fo.l0 fu) s _=_;unfold Fo.S;rw [gb l hl h0 hs,An];dsimp only;have:=te (Eh l) (by rw [Ip];exact hl) Wz 0 (Eh l).length 0 fu 0 Ad Ad (by unfold fu;rw [Ip];omega) Ad Ad;rw [List.drop_zero,Zlp,Int.zero_add] at this;exact this
theorem Zo2 (l:List Cell) (hl:l.length<=65536) (hz:∀ c∈l,Db c=true->c=(0,0,eB)):∀ (d i n:Nat),d=l.length-i->i<=l.length->d<n->
  EK.l0 n (Bv (l.drop i)) (Eh l) (l.length:Int) (i:Int) (l.take i++List.replicate (l.length-i) ((0:Int),((0:Int),eB)))=some (l,0):=by
 intro d;induction d with
 | zero=>
  intro i n hd hi hn;have:i=l.length:=Ad
  subst this;obtain ⟨n,rfl⟩:=Aa n;show EK.S0 _ _ _ _ _ _=_;unfold EK.S0;rw [Be,Al,Nat.sub_self,List.replicate_zero,AE,AB]
 | succ d ih=>
  intro i n hd hi hn;obtain ⟨n,rfl⟩:=Aa n;have AY:i<l.length:=Ad
  show EK.S0 (EK.l0 n) _ _ _ _ _=_;unfold EK.S0;have Hs:i<(Eh l).length:=by rw [Ip];exact AY
  rw [Bw,Ak,Bq (by rw [Ba,Ip];omega),Ak,BE Hs,ik AY];have FL:List.replicate (l.length-i) ((0:Int),((0:Int),eB))=(0,0,eB) :: List.replicate (l.length-(i+1)) ((0:Int),((0:Int),eB)):=by rw [show l.length-i=(l.length-(i+1))+1 by omega,List.replicate_succ]
  have Pe:l.take i++l[i] :: List.replicate (l.length-(i+1)) ((0:Int),((0:Int),eB))=l.take (i+1)++List.replicate (l.length-(i+1)) ((0:Int),((0:Int),eB)):=by
   rw [take_one AY,AA];rfl
  have Zpm:l.drop i=l[i] :: l.drop (i+1):=List.drop_eq_getElem_cons AY;have:=ih (i+1) n Ad Ad Ad;cases hq:Db l[i] with
  | true=>
   have h1:Bv (l.drop i)=Bv (l.drop (i+1)):=by
    rw [Zpm];unfold Bv;rw [List.filter_cons_of_neg (by rw [hq];decide)]
   rw [hz l[i] (Ay AY) hq] at Pe;rw [if_pos rfl,Ca Af,Al,Bk,h1,FL,Pe];exact this
  | false=>
   have h1:Bv (l.drop i)=l[i] :: Bv (l.drop (i+1)):=by
    rw [Zpm];unfold Bv;rw [List.filter_cons_of_pos (by rw [hq];rfl)]
   have hle:=Jp (l.drop (i+1));rw [List.length_drop] at hle
   rw [if_neg Af,Ci rfl,Ak,h1,Bq (by rw [Ba,Aw];omega),Ak,Dg (by rw [Ba,Aw];omega),Ak,Bq (by rw [Ba,Ap,Ar,AO];omega),Ak,Bk,FL,
    show ((i:Int)).toNat=i from rfl,List.set_append_right _ _ (by rw [Ar];omega),Ar,Nat.min_eq_left (Nat.le_of_lt AY),Nat.sub_self,List.set_cons_zero]
   rw [show nth (l[i] :: Bv (l.drop (i+1))) 0 (0,0,eB)=l[i] from rfl,Pe];exact this
theorem Zny (l:List Cell):(Bv l).any Db=false:=by
 rw [List.any_eq_false];intro c hc;unfold Bv at hc;have:=(List.mem_filter.1 hc).2;simpa using this
theorem Zit (l:List Cell) (hl:l.length<=65536) (h0:0<l.length) (hz:∀ c∈l,Db c=true->c=(0,0,eB)) {s:ByteArray} (hs:Bu s=C1 l):EK s (l.length:Int) (Bv l)=some (l,0):=by
 show EK.S (EK.l0 fu) s _ _=_;unfold EK.S;have hle:=Jp l;rw [gb l hl h0 hs,An];dsimp only;rw [Cs rfl,Al,rI l hl h0 hs,An];dsimp only;rw [CA,Cs (by rw [Ba];omega),Al,rR _ Ad,An,Zny,Al,CH,Cp (by show l.length*32<=_;omega)];have:=Zo2 l hl hz l.length 0 fu Ad Ad Ae;rw [List.drop_zero,Nat.sub_zero,List.take_zero,AS] at this;have e:AZ (List.replicate (Int.toNat (l.length:Int)) ((0:Int),((0:Int),eB)))=(l.length:Int):=by rw [Ba,AO];rfl
 rw [e];exact this
end Go.AM.Pure
end

section
/- check: what is sealed is opened. -/
namespace Go.AM.Pure
open Go.AM
def WX (n:Int):Int:=Gd .u32 (B7 .u32 n 1) (Cb .u32 2197175160 (Bt .u32 0 (Cb .u32 n 1)))
def Yz:Nat->Int->Int
 | 0,n=>n
 | k+1,n=>Yz k (WX n)
def WY (n b:Int):Int:=Yz 8 (Gd .u32 n (IntKind.wrap .u32 b))
def J3 (sum:Int) (l:List Int):Int:=IntKind.wrap .i64 (Gd .u32 4294967295 (l.foldl WY (Gd .u32 4294967295 (IntKind.wrap .u32 sum))))
theorem td {o0:ByteArray->Int->Int->Int->Option Int} {s:ByteArray} {len i:Int}:∀ (d k m:Nat) (n:Int),k+d=8->d<m->
  DC.l1 o0 m s n len i (k:Int)=o0 s (Yz d n) len (A7 .i64 i 1)
 | 0,k,m,n,h,hm=>by
  obtain ⟨m,rfl⟩:=Aa m;show DC.S1 _ _ _ _ _ _ _=_;unfold DC.S1;rw [Be];rfl
 | d+1,k,m,n,h,hm=>by
  obtain ⟨m,rfl⟩:=Aa m;show DC.S1 o0 (DC.l1 o0 m) _ _ _ _ _=_;unfold DC.S1;rw [Bw,Ak,Bk];exact td d (k+1) m (WX n) Ad Ad
theorem Zky (s:ByteArray) (hs:s.size<4611686018427387904):∀ (d i m:Nat) (n:Int),d=s.size-i->i<=s.size->20<m->
  DC.l0 (m+d) s n (s.size:Int) (i:Int)=some (IntKind.wrap .i64 (Gd .u32 4294967295 (((Bu s).drop i).foldl WY n))):=by
 intro d;induction d with
 | zero=>
  intro i m n hd hi hm;have:i=s.size:=Ad
  subst this;obtain ⟨m,rfl⟩:=Aa m;show DC.S0 _ _ _ _ _=_;unfold DC.S0;rw [Be,Al,List.drop_eq_nil_of_le (by rw [C6];exact Au _)];rfl
 | succ d ih=>
  intro i m n hd hi hm;have AY:i<s.size:=Ad
  show DC.S0 (DC.l1 (DC.l0 (m+d)) (m+d)) s n (s.size:Int) (i:Int)=_;unfold DC.S0;rw [Bw,Ak,Bq (by rw [Cc];omega),Ak];have h1:=td (o0:=DC.l0 (m+d)) (s:=s) (len:=(s.size:Int)) (i:=(i:Int)) 8 0 (m+d) (Gd .u32 n (IntKind.wrap .u32 (byteAt s (i:Int)))) rfl Ad;rw [show ((0:Nat):Int)=0 from rfl] at h1;rw [h1,Bk];have hg:=KS s i AY;have KN:(Bu s).drop i=byteAt s (i:Int) :: (Bu s).drop (i+1):=by
   rw [List.drop_eq_getElem_cons (by rw [C6];exact AY)];congr 1;rw [AD (by rw [C6];exact AY)] at hg;exact Option.some.inj hg
  rw [KN,List.foldl_cons];exact ih (i+1) m _ Ad Ad hm
theorem Zgt (sum:Int) (s:ByteArray) (hs:s.size<4611686018427387904):DC sum s=some (J3 sum (Bu s)):=by
 show DC.S (DC.l0 fu) sum s=_;unfold DC.S;have:=Zky s hs s.size 0 (fu-s.size) (Gd .u32 4294967295 (IntKind.wrap .u32 sum)) Ad Ad Ae;rw [show fu-s.size+s.size=fu by unfold fu;omega] at this;exact this
theorem Znu (s:ByteArray) (hs:s.size<4611686018427387904):ZW s=some (J3 0 (Bu s)):=by
 unfold ZW;rw [Zgt 0 s hs];rfl
def Tp (l:List Int):List Int:=[IntKind.wrap .u8 (B7 .u32 (IntKind.wrap .u32 (J3 0 l)) 0),IntKind.wrap .u8 (B7 .u32 (IntKind.wrap .u32 (J3 0 l)) 8),IntKind.wrap .u8 (B7 .u32 (IntKind.wrap .u32 (J3 0 l)) 16),IntKind.wrap .u8 (B7 .u32 (IntKind.wrap .u32 (J3 0 l)) 24)]
theorem Yod (l:List Int):∀ b∈Tp l,0<=b/\b<256:=λ b hb=>by
 unfold Tp at hb;simp only [List.mem_cons,List.not_mem_nil,or_false] at hb;rcases hb with rfl | rfl | rfl | rfl <;> (rw [KZ];omega)
def Gy (l:List Int):List Int:=l++Tp l
theorem ud (l:List Int):(Gy l).length=l.length+4:=by unfold Gy;rw [Ap];rfl
theorem ga (s:ByteArray) (hs:s.size<100000000000):FF s=some (ofBytes (Gy (Bu s))):=by
 show FF.S (FF.l0 fu) s=_;unfold FF.S;rw [Znu s Ad,An,Cc,Bk,CH,Cp Ad];show (bif B1 (0+s.size) 1 then FF.l0 fu (IntKind.wrap .u32 (J3 0 (Bu s))) (Bu s) 0 else none)=_;rw [Cp Ad,Ak];have Fy:∀ (m:Nat) (N:Int) (b:List Int) (k:Nat),k<4->b.length<100000000010->FF.l0 (m+1) N b (k:Int)=FF.l0 m N (b++[IntKind.wrap .u8 (B7 .u32 N ((8*k:Nat):Int))]) ((k+1:Nat):Int):=by
  intro m N b k hk hb;show FF.S0 (FF.l0 m) N b (k:Int)=_;unfold FF.S0;have e:(8:Int)*(k:Int)=((8*k:Nat):Int):=by simp
  rw [Bw,Ak,Kv,e,CH,Ak,Cp Ad,Ak,Bk];rfl
 have hl:=C6 s;have QJ:fu=18446744073709551611+1+1+1+1+1:=rfl;rw [QJ,show (0:Int)=((0:Nat):Int) from rfl,Fy _ _ _ 0 Ad Ad,Fy _ _ _ 1 Ad (by rw [Ap,AN];omega),Fy _ _ _ 2 Ad Ai,Fy _ _ _ 3 Ad Ai];show FF.S0 _ _ _ _=_;unfold FF.S0;rw [Be,Al];unfold Gy Tp;simp
theorem ue {l:List Int} (h:∀ b∈l,0<=b/\b<256):∀ b∈Gy l,0<=b/\b<256:=λ b hb=>by
 unfold Gy at hb;rcases List.mem_append.1 hb with hb | hb
 ·exact h b hb
 ·exact Yod l b hb
theorem Zht {l:List Int} (h:∀ b∈l,0<=b/\b<256) (hl:l.length<10000000000):Un (ofBytes (Gy l))=some (ofBytes l,0):=by
 unfold Un;have BL:(ofBytes (Gy l)).size=l.length+4:=by rw [CE,ud]
 have JO:=Ko (ue h);have hcut:cutS (ofBytes (Gy l)) 0 (((l.length:Nat):Int))=ofBytes l:=by
  rw [Wy,JO];unfold Gy;rw [List.take_left]
 rw [Cc,BL,CA,show ((l.length+4:Nat):Int)-4=(l.length:Int) by omega,Be,Al,Dg Ad,Ak,hcut,ga _ (by rw [CE];omega),An,Ko h,Gp rfl];rfl
end Go.AM.Pure
end

section
/- Numbers as they are; numbers out of bytes that begin with them. -/
namespace Go.AM.Pure
open Go.AM
def vB (x:Int):List Int:=ES 10 (EL x % 18446744073709551616)
theorem Jn (x:Int):L2 x=ofBytes (vB x):=rfl
theorem yh:∀ (f:Nat) (u:Int),0<=u->∀ b∈ES f u,0<=b/\b<256
 | 0,_,_,b,h=>by cases h
 | f+1,u,h0,b,h=>by
  unfold ES at h;split at h
  ·rcases List.mem_cons.1 h with rfl | h
   ·omega
   ·cases h
  ·rcases List.mem_cons.1 h with rfl | h
   ·omega
   ·exact yh f _ Ad b h
theorem Nj (x:Int):∀ b∈vB x,0<=b/\b<256:=yh 10 _ Ad
theorem Fs (x:Int):1<=(vB x).length/\(vB x).length<=10:=by
 obtain ⟨h1,h2,_⟩:=Znm x;rw [Jn,CE] at h1 h2;exact ⟨h1,h2⟩
theorem M8 {x:Int} (hx:BN x) {s:ByteArray} {rest:List Int} (hs:Bu s=vB x++rest):F5 s=some (x,((vB x).length:Int),0):=by
 have BL:(L2 x).size=(vB x).length:=by rw [Jn,CE]
 have hl:s.size=(vB x).length+rest.length:=by rw [<- C6,hs,Ap]
 rw [PH,Zju hx (by rw [BL,hs,List.take_left];rfl) Ad,BL]
theorem JX {s:ByteArray} {a rest:List Int} (hs:Bu s=a++rest):Bu (cutS s (a.length:Int) (Bg s))=rest:=by
 rw [Cc,gB,hs,List.drop_left]
theorem Ynd (v:Int) (m:Nat) (h:8<=m):(wb v m).take 8=wb v 8:=by
 rw [lp v 8 m h,List.take_append_of_le_length (by rw [Lr];exact Au _),AL (by rw [Lr];exact Au _)]
theorem yi (u:Int) (k:Nat) (hk:k<8):Ep (k+1) (wb u 64)=Ep k (wb u 64)++[u / 2 ^ (8*k) % 256]:=by
 have h:=lp u (8*k) 64 Ad;rw [h,SA k 1 _ _ (by rw [Lr])];congr 1
 ·have:=SA k 0 (wb u (8*k)) (wb (u / 2 ^ (8*k)) (64-8*k)) (by rw [Lr]);rw [Nat.add_zero] at this;rw [this];exact (AE _).symm
 ·rw [Q9,Ynd _ _ Ad,aw];rfl
theorem tc {o0:List Int->List Int->Int->Int->Option ByteArray} {l:List Int} {len i u:Int} (h0:0<=u):∀ (d k m:Nat) (b:List Int),k+d=8->d<m->b.length<100000000000->
  DA.l1 o0 m (b++Ep k (wb u 64)) (u / 2 ^ (8*k)) l len i (k:Int)=o0 (b++Ep 8 (wb u 64)) l len (A7 .i64 i 1)
 | 0,k,m,b,h,hm,hb=>by
  obtain ⟨m,rfl⟩:=Aa m;have:k=8:=Ad
  subst this;show DA.S1 _ _ _ _ _ _ _ _=_;unfold DA.S1;rw [Be];rfl
 | d+1,k,m,b,h,hm,hb=>by
  obtain ⟨m,rfl⟩:=Aa m;show DA.S1 o0 (DA.l1 o0 m) _ _ _ _ _ _=_;unfold DA.S1;have CL:B7 .u64 (u / 2 ^ (8*k)) 8=u / 2 ^ (8*(k+1)):=by
   have:=Ns (u / 2 ^ (8*k)) 8 Ad;rw [show ((8:Nat):Int)=8 from rfl] at this;rw [this,Int.ediv_ediv_of_nonneg (Int.le_of_lt (Fe _)),<- Int.pow_add];rfl
  rw [Bw,Ak,Cp (by rw [Ap,MC];omega),Ak,Bk,CL,KZ,AA,<- yi u k Ad];exact tc h0 d (k+1) m b Ad Ad hb
theorem Ziy (l:List Int) (hl:l.length<1000000000):∀ (d i m:Nat),d=l.length-i->i<=l.length->20<m->
  DA.l0 (m+d) (Ep (8*i) (Ge (l.take i) 64)) l (l.length:Int) (i:Int)=some (ofBytes (CR l 64)):=by
 intro d;induction d with
 | zero=>
  intro i m hd hi hm;have:i=l.length:=Ad
  subst this;obtain ⟨m,rfl⟩:=Aa m;show DA.S0 _ _ _ _ _=_;unfold DA.S0;rw [Be,Al,AB];unfold CR;rw [show (l.length*64+7) / 8=8*l.length by omega]
 | succ d ih=>
  intro i m hd hi hm;have AY:i<l.length:=Ad
  show DA.S0 (DA.l1 (DA.l0 (m+d)) (m+d)) _ l (l.length:Int) (i:Int)=_;unfold DA.S0;rw [Bw,Ak,Bq,Ak,BE AY];have h1:=tc (o0:=DA.l0 (m+d)) (l:=l) (len:=(l.length:Int)) (i:=(i:Int)) (u:=IntKind.wrap .u64 l[i]) (by rw [E6];omega) 8 0 (m+d) (Ep (8*i) (Ge (l.take i) 64)) rfl Ad (by rw [MC];omega);rw [Nat.mul_zero,Int.pow_zero,Int.ediv_one,show Ep 0 (wb (IntKind.wrap .u64 l[i]) 64)=[] from rfl,AE] at h1;rw [show (0:Int)=((0:Nat):Int) from rfl,h1,Bk];have:=ih (i+1) m Ad Ad hm;rw [take_one AY,ZX,show 8*(i+1)=8*i+8 by omega,SA _ 8 _ _ (by rw [Re,Ar];omega)] at this;rw [E6,Zaf _ Ad];exact this
theorem Zas (l:List Int) (hl:l.length<1000000000):DA l=some (ofBytes (CR l 64)):=by
 show DA.S (DA.l0 fu) l=_;unfold DA.S;rw [Ba,Kv,CH,Cp Ad];have:=Ziy l hl l.length 0 (fu-l.length) Ad Ad Ae;rw [show fu-l.length+l.length=fu by unfold fu;omega] at this;exact this
theorem sy {o0:ByteArray->Int->Int->List Int->Option (List Int×Int)} {s:ByteArray} {len i:Int} {out:List Int} {k:Nat} (hk:k<1000000000) (hs:8*k+8<=s.size) (ho:k<out.length):∀ (d j m:Nat),j+d=8->d<m->
  C5.l1 o0 m s (k:Int) (numOf ((List.range (8*j)).map λ i=>sb s (k*64+i))) len i (j:Int) out=o0 s len (A7 .i64 i 1) (List.set out k (Ga s k 64))
 | 0,j,m,h,hm=>by
  obtain ⟨m,rfl⟩:=Aa m;have:j=8:=Ad
  subst this;show C5.S1 _ _ _ _ _ _ _ _ _=_;unfold C5.S1;rw [Be,Al,Bq];rfl
 | d+1,j,m,h,hm=>by
  obtain ⟨m,rfl⟩:=Aa m;show C5.S1 o0 (C5.l1 o0 m) _ _ _ _ _ _ _=_;unfold C5.S1;have e8:(8:Int)*(j:Int)=((8*j:Nat):Int):=by simp
  rw [Bw,Ak,Kv (a:=8) (b:=(k:Int)) Ad,Bk (a:=8*(k:Int)) Ad,Bq (by rw [Cc];omega),Ak,Kv,e8,CH,Ak,Bk,
   show 8*(k:Int)+(j:Int)=((8*k+j:Nat):Int) by omega]
  have Ii:=Jm s ((8*k+j:Nat):Int);have MW:IntKind.wrap .u64 (byteAt s ((8*k+j:Nat):Int))=byteAt s ((8*k+j:Nat):Int):=by rw [E6];omega
  have FY:=Lj ((List.range (8*j)).map λ i=>sb s (k*64+i));rw [Av,List.length_range] at FY;rw [MW,jF FY.1 FY.2 Ad];have Vd:byteAt s ((8*k+j:Nat):Int)=numOf ((List.range 8).map λ i=>sb s (k*64+(8*j+i))):=by
   have h1:byteAt s ((8*k+j:Nat):Int) % 2 ^ 8=byteAt s ((8*k+j:Nat):Int):=Int.emod_eq_of_lt Ii.1 Ii.2;rw [<- h1,<- Uh];congr 1;apply List.map_congr_left;intro i hi;have hi:=List.mem_range.1 hi;unfold sb;rw [show (k*64+(8*j+i)) / 8=8*k+j by omega,show (k*64+(8*j+i)) % 8=i by omega]
  have Pe:numOf ((List.range (8*(j+1))).map λ i=>sb s (k*64+i))=numOf ((List.range (8*j)).map λ i=>sb s (k*64+i))+byteAt s ((8*k+j:Nat):Int)*2 ^ (8*j):=by
   rw [show 8*(j+1)=8*j+8 by omega,tY,Wx,Av,List.length_range,<- Vd,Int.mul_comm (2 ^ (8*j))]
  rw [<- Pe];have Yy:=Lj ((List.range (8*(j+1))).map λ i=>sb s (k*64+i));rw [Av,List.length_range] at Yy;have BH:(2:Int) ^ (8*(j+1))<=2 ^ 64:=by exact_mod_cast Nat.pow_le_pow_right (n:=2) Ad (show 8*(j+1)<=64 by omega)
  rw [<- Nn] at BH;rw [Int.emod_eq_of_lt Yy.1 Ad];exact sy hk hs ho d (j+1) m Ad Ad
theorem Zxv (s:ByteArray) {n:Nat} (hn:n<1000000000) (hs:s.size=8*n):∀ (d i m:Nat),d=n-i->i<=n->20<m->
  C5.l0 (m+d) s (n:Int) (i:Int) ((List.range i).map (λ k=>Ga s k 64)++List.replicate (n-i) (0:Int))=some ((List.range n).map (λ k=>Ga s k 64),0):=by
 intro d;induction d with
 | zero=>
  intro i m hd hi hm;have:i=n:=Ad
  subst this;obtain ⟨m,rfl⟩:=Aa m;show C5.S0 _ _ _ _ _=_;unfold C5.S0;rw [Be,Al,Nat.sub_self,List.replicate_zero,AE]
 | succ d ih=>
  intro i m hd hi hm;show C5.S0 (C5.l1 (C5.l0 (m+d)) (m+d)) s _ _ _=_;unfold C5.S0;have h1:=sy (o0:=C5.l0 (m+d)) (s:=s) (len:=(n:Int)) (i:=(i:Int)) (out:=(List.range i).map (λ k=>Ga s k 64)++List.replicate (n-i) (0:Int)) (k:=i) Ad Ad Ai 8 0 (m+d) rfl Ad;rw [Nat.mul_zero,List.range_zero,List.map_nil,show numOf []=0 from rfl] at h1;rw [Bw,Ak,show (0:Int)=((0:Nat):Int) from rfl];rw [show ((0:Nat):Int)=0 from rfl] at h1 ⊢;rw [h1,Bk];have:=ih (i+1) m Ad Ad hm;rw [show (i:Int)+1=((i+1:Nat):Int) by omega,<- this];congr 1;rw [List.set_append_right _ _ Ah,Av,List.length_range,Nat.sub_self,show n-i=(n-(i+1))+1 by omega,List.replicate_succ,List.set_cons_zero,List.range_succ,AG,AA];rfl
theorem fO (s:ByteArray) {n:Nat} (hn:n<1000000000) (hs:s.size=8*n):C5 s (n:Int)=some ((List.range n).map (λ k=>Ga s k 64),0):=by
 show C5.S (C5.l0 fu) s _=_;unfold C5.S;have h1:Ol (Bg s) 8=0:=by
  rw [Cc,hs];unfold Ol;rw [Int.tmod_eq_emod_of_nonneg Ad];omega
 have h2:GB .i64 (Bg s) 8=(n:Int):=by
  rw [Cc,hs];unfold GB;rw [Int.tdiv_eq_ediv_of_nonneg Ad,FH];omega
 rw [Be,Al,h1,Cs rfl,Al,h2,Cs rfl,Al,CH,Cp (by show n*8<=_;omega)];have:=Zxv s hn hs n 0 (fu-n) Ad Ad Ae;rw [show fu-n+n=fu by unfold fu;omega,Nat.sub_zero] at this;exact this
theorem Zjy {l:List Int} (hl:l.length<=65536) (BH:∀ x∈l,BN x) {s:ByteArray} (hs:Bu s=CR l 64):C5 s (l.length:Int)=some (l,0):=by
 have BL:s.size=8*l.length:=by rw [<- C6,hs,I8];omega
 rw [fO s Ad BL];congr 2;apply List.ext_getElem
 ·simp
 ·intro i h1 h2;rw [List.getElem_map,List.getElem_range];exact su (w:=64) Ad hs BH (λ x _=>by have:(2:Int) ^ 64=18446744073709551616:=rfl;omega) h2
end Go.AM.Pure
end

section
/- runs. -/
namespace Go.AM.Pure
open Go.AM
abbrev C2:=Int×Int×Int
def BQ (o:List C2):List Int:=o.flatMap λ r=>List.replicate r.2.2.toNat r.1
def K7 (p:Option Int) (o:List C2):Option Int:=match o.getLast? with
 | some r=>some r.1
 | none=>p
def Df (n:Nat) (p:Option Int):List C2->Prop
 | []=>True
 | r :: o=>r.2.1=(n:Int)/\1<=r.2.2/\p≠some r.1/\Df (n+r.2.2.toNat) (some r.1) o
theorem IV (a b:List C2):BQ (a++b)=BQ a++BQ b:=by unfold BQ;rw [List.flatMap_append]
theorem JV (r:C2):BQ [r]=List.replicate r.2.2.toNat r.1:=by unfold BQ;simp
theorem PU (r:C2) (o:List C2):BQ (r :: o)=List.replicate r.2.2.toNat r.1++BQ o:=rfl
theorem P9:∀ (a b:List C2) (n:Nat) (p:Option Int),Df n p (a++b)↔Df n p a/\Df (n+(BQ a).length) (K7 p a) b
 | [],b,n,p=>by simp [Df,BQ,K7]
 | r :: a,b,n,p=>by
  rw [List.cons_append];show (r.2.1=(n:Int)/\1<=r.2.2/\p≠some r.1/\Df (n+r.2.2.toNat) (some r.1) (a++b))↔(r.2.1=(n:Int)/\1<=r.2.2/\p≠some r.1/\Df (n+r.2.2.toNat) (some r.1) a)/\Df (n+(BQ (r :: a)).length) (K7 p (r :: a)) b;rw [P9 a b];have e1:n+r.2.2.toNat+(BQ a).length=n+(BQ (r :: a)).length:=by rw [PU,Ap,AO];omega
  have e2:K7 (some r.1) a=K7 p (r :: a):=by
   unfold K7;cases a with
   | nil=>rfl
   | cons b a=>
    rw [List.getLast?_cons_cons];cases h:(b :: a).getLast? with
    | none=>simp at h
    | some r=>rfl
  rw [e1,e2];simp only [and_assoc]
theorem PV (p:Option Int) (a:List C2) (r:C2):K7 p (a++[r])=some r.1:=by unfold K7;simp
theorem Zh2 (l:List Int) (hl:l.length<=65536):∀ (d i n:Nat) (out:List C2),d=l.length-i->i<=l.length->d<n->BQ out=l.take i->Df 0 none out->K7 none out=(l.take i).getLast?->
  ∃ o,FI.l0 n l l (l.length:Int) (i:Int) out=some o/\BQ o=l/\Df 0 none o:=by
 intro d;induction d with
 | zero=>
  intro i n out hd hi hn h1 h2 _;have:i=l.length:=Ad
  subst this;obtain ⟨n,rfl⟩:=Aa n;rw [AB] at h1;refine ⟨out,?_,h1,h2⟩;show FI.S0 _ _ _ _ _ _=_;unfold FI.S0;rw [Be,Al]
 | succ d ih=>
  intro i n out hd hi hn h1 h2 h3;obtain ⟨n,rfl⟩:=Aa n;have AY:i<l.length:=Ad
  have GD:(BQ out).length=i:=by rw [h1,Ar];omega
  have Gg:out.length<=i:=by
   have:∀ (o:List C2) (m:Nat) (p:Option Int),Df m p o->o.length<=(BQ o).length:=by
    intro o;induction o with
    | nil=>intro _ _ _;exact Nat.zero_le _
    | cons r o ih=>
     intro m p h;have:=ih _ _ h.2.2.2;rw [PU,Ap,AO,Aw];have:=h.2.1;omega
   have:=this out 0 none h2;omega
  have Je:(l.take (i+1)).getLast? = some l[i]:=by rw [take_one AY,List.getLast?_concat]
  have Kb:(K7 none out≠some l[i])->∃ o,FI.l0 n l l (l.length:Int) ((i+1:Nat):Int) (out++[(l[i],(i:Int),1)])=some o/\BQ o=l/\Df 0 none o:=λ Cg=>
   ih (i+1) n _ Ad Ad Ad (by rw [IV,JV,h1,take_one AY];rfl)
    ((P9 _ _ _ _).2 ⟨h2,by rw [GD];exact ⟨by show (i:Int)=_;omega,by show (1:Int)<=1;omega,Cg,trivial⟩⟩) (by rw [PV,Je])
  have RR:∀ (o:List C2) (r r':C2),List.set (o++[r]) (Int.toNat (Bt .i64 (AZ (o++[r])) 1)) r'=o++[r']\/¬ o.length<1000000:=λ o r r'=>by
   by_cases hb:o.length<1000000
   ·left;rw [Ba,Ap,AN,CA,show Int.toNat (((o.length+1:Nat):Int)-1)=o.length by omega,List.set_append_right _ _ (Au _),Nat.sub_self];rfl
   ·exact .inr hb
  have Nw:∀ (o:List C2) (r:C2),o.length<1000000->List.getD (o++[r]) (Int.toNat (Bt .i64 (AZ (o++[r])) 1)) (0,0,0)=r:=λ o r hb=>by
   rw [Ba,Ap,AN,CA,show Int.toNat (((o.length+1:Nat):Int)-1)=o.length by omega,AK,AJ (Au _),Nat.sub_self];rfl
  have Dc:∀ (o:List C2) (r:C2),o.length<1000000->Bf (Bt .i64 (AZ (o++[r])) 1) (AZ (o++[r]))=true:=λ o r hb=>by
   rw [Ba,Ap,AN,CA,Bq]
  have OA:out.length<1000000:=Ad
  show ∃ o,FI.S0 (FI.l0 n) _ _ _ _ _=_/\_;unfold FI.S0;rw [Bw,Ak,Bq,Ak,BE AY,Bk];by_cases JM:i=0
  ·subst JM;rw [Ci,Ak,Cp Ad,Ak,Dc _ _ OA,Ak,Ak,Nw _ _ OA,(RR _ _ _).resolve_right (λ h=>h OA)];have:=Kb (by rw [h3,List.take_zero];simp);exact this
  ·rw [Ca,Al,CA,Bq,Ak];have JB:i-1<l.length:=Ad
   have Oe:(l.take i).getLast? = some l[i-1]:=by
    have:l.take i=l.take (i-1)++[l[i-1]]:=by
     have:=take_one JB
     rwa [show i-1+1=i by omega] at this
    rw [this,List.getLast?_concat]
   rw [Oe] at h3;rw [show (i:Int)-1=((i-1:Nat):Int) by omega,BE JB];by_cases hq:l[i]=l[i-1]
   ·rw [Cs hq,Al];rcases List.eq_nil_or_concat out with h0 | ⟨o,r,h0⟩
    ·subst h0;cases h3
    ·rw [List.concat_eq_append] at h0;subst h0;rw [PV] at h3;have JN:r.1=l[i-1]:=Option.some.inj h3;have ef:o.length<1000000:=by rw [Ap] at OA;omega
     obtain ⟨k1,k2⟩:=(P9 _ _ _ _).1 h2;obtain ⟨k3,k4,k5,_⟩:=k2;have Ps:r.2.2.toNat<=i:=by
      rw [IV,JV,Ap,AO] at GD;omega
     rw [Dc _ _ ef,Ak,Ak,Nw _ _ ef,(RR _ _ _).resolve_right (λ h=>h ef),Bk];refine ih (i+1) n _ Ad Ad Ad ?_ ((P9 _ _ _ _).2 ⟨k1,k3,by show 1<=r.2.2+1;omega,k5,trivial⟩) (by rw [PV,Je,hq];exact h3);rw [IV,JV] at h1;rw [IV,JV,take_one AY,<- h1,AA];congr 1;show List.replicate (r.2.2+1).toNat r.1=_;rw [show (r.2.2+1).toNat=r.2.2.toNat+1 by omega,List.replicate_succ',JN,hq]
   ·rw [Fh hq,Ak,Cp Ad,Ak,Dc _ _ OA,Ak,Ak,Nw _ _ OA,(RR _ _ _).resolve_right (λ h=>h OA)];have:=Kb (by rw [h3];intro h;exact hq (Option.some.inj h).symm);exact this
theorem Zgy (l:List Int) (hl:l.length<=65536):∃ o,FI l=some o/\BQ o=l/\Df 0 none o:=by
 show ∃ o,FI.S (FI.l0 fu) l=_/\_;unfold FI.S;rw [Ba,Be,Al];exact Zh2 l hl l.length 0 fu [] Ad Ad Ae rfl trivial rfl
theorem Jq:∀ (o:List C2) (m:Nat) (p:Option Int),Df m p o->o.length<=(BQ o).length
 | [],_,_,_=>Nat.zero_le _
 | r :: o,m,p,h=>by
  have:=Jq o _ _ h.2.2.2;rw [PU,Ap,AO,Aw];have:=h.2.1;omega
theorem Qb {o:List C2} (h:Df 0 none o) {i:Nat} (hi:i<o.length):o[i].2.1=((BQ (o.take i)).length:Int)/\1<=o[i].2.2/\K7 none (o.take i)≠some o[i].1/\(BQ (o.take (i+1))).length=(BQ (o.take i)).length+o[i].2.2.toNat/\(BQ (o.take (i+1))).length<=(BQ o).length:=by
 have e:o=o.take i++o[i] :: o.drop (i+1):=by rw [<- List.drop_eq_getElem_cons hi,List.take_append_drop]
 have h':=h;rw [e,P9] at h';obtain ⟨_,k1,k2,k3,_⟩:=h';refine ⟨by rw [k1];omega,k2,k3,by rw [take_one hi,IV,JV,Ap,AO],?_⟩;have h2:BQ o=BQ (o.take (i+1))++BQ (o.drop (i+1)):=by rw [<- IV,List.take_append_drop]
 rw [h2,Ap];omega
theorem Zmu (o:List C2) (ho:Df 0 none o) (hl:(BQ o).length<=65536):∀ (d i n:Nat),d=o.length-i->i<=o.length->d<n->
  E4.l0 n o ((BQ (o.take i)).length:Int) o (o.length:Int) (i:Int)=some (((BQ o).length:Int),true):=by
 have Gg:=Jq o 0 none ho;intro d;induction d with
 | zero=>
  intro i n hd hi hn;have:i=o.length:=Ad
  subst this;obtain ⟨n,rfl⟩:=Aa n;show E4.S0 _ _ _ _ _ _=_;unfold E4.S0;rw [Be,Al,AB]
 | succ d ih=>
  intro i n hd hi hn;obtain ⟨n,rfl⟩:=Aa n;have AY:i<o.length:=Ad
  obtain ⟨k1,k2,k3,k4,k5⟩:=Qb ho AY;show E4.S0 (E4.l0 n) _ _ _ _ _=_;unfold E4.S0;have JA:A7 .i64 ((BQ (o.take i)).length:Int) o[i].2.2=((BQ (o.take (i+1))).length:Int):=by rw [Bk,k4];omega
  have:=ih (i+1) n Ad Ad Ad;rw [Bw,Ak,Bq,Ak,BE AY,Cs k1,Al,Be,Al,CA,Be,Al,JA,Bk];by_cases JM:i=0
  ·rw [Be,Al];exact this
  ·have JB:i-1<o.length:=Ad
   have KJ:K7 none (o.take i)=some o[i-1].1:=by
    have:o.take i=o.take (i-1)++[o[i-1]]:=by
     have:=take_one JB
     rwa [show i-1+1=i by omega] at this
    rw [this,PV]
   rw [KJ] at k3;rw [Bw,Ak,CA,Bq,Ak,show (i:Int)-1=((i-1:Nat):Int) by omega,BE JB,Ca (λ h=>k3 (by rw [h])),Al];exact this
theorem Zv (o:List C2) (ho:Df 0 none o) (hl:(BQ o).length<=65536):E4 o=some (((BQ o).length:Int),true):=by
 have Gg:=Jq o 0 none ho;exact Zmu o ho hl o.length 0 fu Ad Ad Ae
def Fi (o:List C2):List Int:=o.flatMap λ r=>vB r.1++vB r.2.2
theorem iv (r:C2) (o:List C2):Fi (r :: o)=vB r.1++(vB r.2.2++Fi o):=by unfold Fi;rw [List.flatMap_cons,AA]
theorem uc (o:List C2) (r:C2):Fi (o++[r])=Fi o++(vB r.1++vB r.2.2):=by unfold Fi;simp
theorem OQ:∀ o:List C2,(Fi o).length<=20*o.length
 | []=>by simp [Fi]
 | r :: o=>by
  have:=OQ o;have:=Fs r.1;have:=Fs r.2.2;rw [iv,Ap,Ap,Aw];omega
theorem aB:∀ o:List C2,∀ b∈Fi o,0<=b/\b<256
 | [],b,h=>by cases h
 | r :: o,b,h=>by
  rw [iv] at h;rcases List.mem_append.1 h with h | h
  ·exact Nj _ b h
  ·rcases List.mem_append.1 h with h | h
   ·exact Nj _ b h
   ·exact aB o b h
theorem ZZ (b:Bool×List Int) (s:ByteArray) (h:b.2.length+s.size<100000000000):Se b s=some (Bg s,true,false,b.2++Bu s):=by
 unfold Se;show (bif B1 (b.2.length+s.size) 1 then _ else _)=_;rw [Cp Ad];rfl
theorem ir (f:Bool) (l:List Int) (h:∀ b∈l,0<=b/\b<256):Oa (f,l)=some (ofBytes l,f,l):=by
 unfold Oa;have:(l.all isByte)=true:=List.all_eq_true.2 λ b hb=>by
  have:=h b hb;unfold isByte;rw [CH this.1,Bw this.2];rfl
 show (bif l.all isByte then _ else _)=_;rw [this];rfl
theorem Zi2 (o:List C2) (hl:o.length<=65536):∀ (d i n:Nat) (f:Bool),d=o.length-i->i<=o.length->d<n->
  ∃ s,F8.l0 n o (o.length:Int) (i:Int) (f,Fi (o.take i))=some s/\s=(ofBytes (Fi o),0):=by
 intro d;induction d with
 | zero=>
  intro i n f hd hi hn;have:i=o.length:=Ad
  subst this;obtain ⟨n,rfl⟩:=Aa n;refine ⟨_,?_,rfl⟩;show F8.S0 _ _ _ _ _=_;unfold F8.S0;rw [Be,Al,AB,ir _ _ (aB o)];rfl
 | succ d ih=>
  intro i n f hd hi hn;obtain ⟨n,rfl⟩:=Aa n;have AY:i<o.length:=Ad
  have h1:=OQ (o.take i);rw [Ar] at h1;have h2:=Fs o[i].1;have h3:=Fs o[i].2.2;show ∃ s,F8.S0 (F8.l0 n) _ _ _ _=_/\_;unfold F8.S0
  rw [Bw,Ak,Bq,Ak,BE AY,PL,An,Jn,ZZ _ _ (by rw [CE];show (Fi _).length+_<_;omega),An,PL,An,Jn,
   Ko (Nj _),ZZ _ _ (by rw [CE];show (Fi _++vB _).length+_<_;rw [Ap];omega),An,Ko (Nj _),Bk]
  have:=ih (i+1) n false Ad Ad Ad;rw [take_one AY,uc,<- AA] at this;exact this
theorem sx (o:List C2) (ho:Df 0 none o) (hl:(BQ o).length<=65536):F8 o=some (ofBytes (Fi o),0):=by
 have Gg:=Jq o 0 none ho;show F8.S (F8.l0 fu) o=_;unfold F8.S;rw [Zv o ho hl,An];show F8.l0 fu o (o.length:Int) 0 (true,[])=_;obtain ⟨s,h1,rfl⟩:=Zi2 o Ad o.length 0 fu true Ad Ad Ae;exact h1
theorem Zhy (o:List C2) (ho:Df 0 none o) (hl:(BQ o).length<=65536) (BH:∀ r∈o,BN r.1):∀ (d i n:Nat) (s:ByteArray),d=o.length-i->i<=o.length->d<n->Bu s=Fi (o.drop i)->
  Cw.l0 (Cw.t1 fu) n s ((BQ o).length:Int) (o.take i) ((BQ (o.take i)).length:Int)=some (o,0):=by
 have Gg:=Jq o 0 none ho;intro d;induction d with
 | zero=>
  intro i n s hd hi hn hs;have:i=o.length:=Ad
  subst this;obtain ⟨n,rfl⟩:=Aa n;rw [List.drop_length] at hs;have he:s=eB:=Gx.2 (by rw [<- C6,hs];rfl);show Cw.S0 Cw.S1 _ _ _ _ _=_;unfold Cw.S0;rw [Gp he,Bool.not_true,Al,AB];unfold Cw.S1;rw [Zv o ho hl,An];dsimp only;rw [Bool.not_true,Al,Cs rfl,Al]
 | succ d ih=>
  intro i n s hd hi hn hs;obtain ⟨n,rfl⟩:=Aa n;have AY:i<o.length:=Ad
  obtain ⟨k1,k2,k3,k4,k5⟩:=Qb ho AY;rw [List.drop_eq_getElem_cons AY,iv] at hs;have h2:=Fs o[i].1;have h3:=Fs o[i].2.2;have BL:s.size=(vB o[i].1).length+((vB o[i].2.2).length+(Fi (o.drop (i+1))).length):=by rw [<- C6,hs,Ap,Ap]
  have Ps:=OQ (o.drop (i+1));rw [List.length_drop] at Ps;have Cg:s≠eB:=λ h=>by have:=Gx.1 h;omega
  have hcut:=JX hs;have Xzf:BN o[i].1:=BH _ (Ay AY);have Xag:BN o[i].2.2:=by unfold BN;omega
  show Cw.S0 _ (Cw.l0 (Cw.t1 fu) n) s _ _ _=_;unfold Cw.S0;rw [K6 Cg,Bool.not_false,Ak,M8 Xzf hs,An];dsimp only;rw [Cs rfl,Al,Dg (by rw [Cc];omega),Ak,M8 Xag hcut,An];dsimp only;rw [Cs rfl,Al,Be,Al,CA,Be,Al,Cp (by rw [Ar];omega),Ak,Bk,Dg (by rw [Cc];omega),Ak];have JA:A7 .i64 ((BQ (o.take i)).length:Int) o[i].2.2=((BQ (o.take (i+1))).length:Int):=by rw [Bk,k4];omega
  rw [JA,show (o[i].1,((BQ (o.take i)).length:Int),o[i].2.2)=o[i] by rw [<- k1],<- take_one AY];refine ih (i+1) n _ Ad Ad Ad ?_;have:Bu s=(vB o[i].1++vB o[i].2.2)++Fi (o.drop (i+1)):=by rw [hs,AA]
  have:=JX this;rw [Ap,Int.natCast_add] at this;exact this
theorem Zy (o:List C2) (ho:Df 0 none o) (hl:(BQ o).length<=65536) (BH:∀ r∈o,BN r.1) {s:ByteArray} (hs:Bu s=Fi o):Cw s ((BQ o).length:Int)=some (o,0):=by
 have Gg:=Jq o 0 none ho;show Cw.S (Cw.l0 (Cw.t1 fu) fu) s _=_;unfold Cw.S;rw [Be,Al,Be,Al];exact Zhy o ho hl BH o.length 0 fu s Ad Ad Ae hs
theorem Zj2 {c:Nat} (h:c<=65536):Zt 1 (c:Int)=(0,(c:Int)):=by
 have h1:B7 .u64 1 32=0:=by decide +kernel
 have h2:Cb .u64 1 4294967295=1:=by decide +kernel
 have h3:B7 .u64 (c:Int) 32=0:=by
  have:=Ns (c:Int) 32 Ad;rw [show ((32:Nat):Int)=32 from rfl] at this;rw [this];exact Int.ediv_eq_zero_of_lt Ad Ad
 have h4:Cb .u64 (c:Int) 4294967295=(c:Int):=by
  unfold Cb;show IntKind.wrap .u64 ((BitVec.ofInt 64 (c:Int) &&& BitVec.ofInt 64 4294967295).toNat:Int)=_;rw [BitVec.toNat_and,show (BitVec.ofInt 64 4294967295).toNat=2 ^ 32-1 from rfl,Nat.and_two_pow_sub_one_eq_mod,show (BitVec.ofInt 64 (c:Int)).toNat=c by rw [BitVec.toNat_ofInt];omega,E6];omega
 have h5:CI .u64 1 (c:Int)=(c:Int):=by unfold CI;rw [E6];omega
 have h6:∀ x:Int,CI .u64 0 x=0:=λ x=>by unfold CI;rw [Int.zero_mul];rfl
 have h7:CI .u64 1 0=0:=by decide +kernel
 have h8:A7 .u64 0 0=0:=by decide +kernel
 have h9:B7 .u64 0 32=0:=by decide +kernel
 have eT:Cb .u64 0 4294967295=0:=by decide +kernel
 unfold Zt fV;simp only [h1,h2,h3,h4,h5,h6,h7,h8,h9,eT]
theorem Ymd (v:Int) (c:Nat) (hc:c<=65536):∀ (d k n:Nat) (t:List Int),d=c-k->k<=c->1<=k->d<n->t.length=c->t.take k=List.replicate k v->
  Dl.l2 n (k:Int) t=some (List.replicate c v):=by
 intro d;induction d using Nat.strongRecOn with
 | ind d ih=>
 intro k n t hd hk h1 hn ht Fw;obtain ⟨n,rfl⟩:=Aa n;show Dl.S2 (Dl.l2 n) _ _=_;unfold Dl.S2;by_cases qq:k=c
 ·subst qq;rw [Be (by rw [Ba];omega),Al,<- Fw,AL Ad]
 ·rw [Bw (by rw [Ba];omega),Ak,Dg (by rw [Ba];omega),Ak,Dg (by rw [Ba];omega),Ak,Ba,ht,show Int.toNat (c:Int)=c from rfl,show Int.toNat (k:Int)=k from rfl,Nat.sub_zero,List.drop_zero,Fw,List.take_replicate,AO];rw [Bk]
  have:=ih (c-(k+min (c-k) k)) Ad (k+min (c-k) k) n (Ig t k (List.replicate (min (c-k) k) v)) rfl Ad Ad Ad (by unfold Ig;simp;omega) (by
   unfold Ig
   rw [<- AA,List.take_append_of_le_length Ai,AL Ai,Fw,List.replicate_append_replicate])
  rw [<- this];congr 1
theorem Zk2 (v:Int) {c:Nat} (h1:1<=c) (hc:c<=65536):Dl [v] (c:Int)=some (List.replicate c v):=by
 show Dl.S (Dl.t0 fu) [v] _=_;unfold Dl.S;rw [Be,Al];show Dl.S0 (Dl.t1 18446744073709551615) [v] (c:Int)=_;unfold Dl.S0;have e1:IntKind.wrap .u64 (AZ [v])=1:=by rw [Ba,E6];rfl
 have e2:IntKind.wrap .u64 (c:Int)=(c:Int):=by rw [E6];omega
 rw [e1,e2,Zj2 hc];dsimp only;rw [Be,Al,Be,Al];show Dl.S1 (Dl.l2 18446744073709551614) [v] (c:Int)=_;unfold Dl.S1;rw [FH,CH,Cp (by show c*8<=_;omega),AO,show Int.toNat (c:Int)=c from rfl];obtain ⟨c',rfl⟩:∃ k,c=k+1:=⟨c-1,Ad⟩;have e3:List.take (c'+1) [v]=[v]:=by rw [AL Ah]
 rw [e3];exact Ymd v (c'+1) hc c' 1 18446744073709551614 _ Ad Ad Ad Ad (by unfold Ig;simp) (by unfold Ig;simp)
theorem Zl2 (o:List C2) (ho:Df 0 none o) (hl:(BQ o).length<=65536):∀ (d i n:Nat),d=o.length-i->i<=o.length->d<n->
  Gm.l0 n (BQ (o.take i)) o (o.length:Int) (i:Int)=some (BQ o,0):=by
 have Gg:=Jq o 0 none ho;intro d;induction d with
 | zero=>
  intro i n hd hi hn;have:i=o.length:=Ad
  subst this;obtain ⟨n,rfl⟩:=Aa n;show Gm.S0 _ _ _ _ _=_;unfold Gm.S0;rw [Be,Al,AB]
 | succ d ih=>
  intro i n hd hi hn;obtain ⟨n,rfl⟩:=Aa n;have AY:i<o.length:=Ad
  obtain ⟨k1,k2,k3,k4,k5⟩:=Qb ho AY;show Gm.S0 (Gm.l0 n) _ _ _ _=_;unfold Gm.S0;have FL:=Zk2 o[i].1 (c:=o[i].2.2.toNat) Ad Ad;rw [show ((o[i].2.2.toNat:Nat):Int)=o[i].2.2 by omega] at FL;rw [Bw,Ak,Bq,Ak,BE AY,FL,An,Cp (by rw [AO];omega),Ak,Bk];have:=ih (i+1) n Ad Ad Ad;rw [take_one AY,IV,JV] at this;exact this
theorem Wg (o:List C2) (ho:Df 0 none o) (hl:(BQ o).length<=65536):Gm o=some (BQ o,0):=by
 have Gg:=Jq o 0 none ho;show Gm.S (Gm.l0 fu) o=_;unfold Gm.S;rw [Zv o ho hl,An];dsimp only;rw [Bool.not_true,Al,CH,Cp (by show (BQ o).length*8<=_;omega)];exact Zl2 o ho hl o.length 0 fu Ad Ad Ae
end Go.AM.Pure
end

section
/- frame: numbers by how far each is from the one ahead. -/
namespace Go.AM.Pure
open Go.AM
abbrev Ik (x:Int):Int:=IntKind.wrap .i64 x
theorem jG {a b:Int} (h:a % 18446744073709551616=b % 18446744073709551616):Ik a=Ik b:=by
 show IntKind.wrap .i64 a=IntKind.wrap .i64 b;rw [KW,KW,h]
theorem oe (a:Int):Ik a % 18446744073709551616=a % 18446744073709551616:=by
 show IntKind.wrap .i64 a % _=_;rw [KW];split <;> omega
theorem Zbf (a b:Int):Ww a b=Ik (b-a):=by
 unfold Ww Bt;rw [E6,E6,E6];exact jG Ad
theorem aA (a b:Int):Sl a b=Ik (a+b):=by
 unfold Sl A7;rw [E6,E6,E6];exact jG Ad
def Da (l:List Int):List Int:=(List.range (l.length-1)).map λ i=>Ik (l.getD (i+1) 0-l.getD i 0)
theorem Sy (l:List Int):(Da l).length=l.length-1:=by unfold Da;simp
theorem getD_at {l:List Int} {i:Nat} (h:i<l.length):l.getD i 0=l[i]:=by rw [AK,AD h];rfl
theorem iu {l:List Int} {i:Nat} (h:i+1<l.length) (hi:i<(Da l).length):(Da l)[i]=Ik (l[i+1]-l[i]):=by
 have h2:(Da l)[i]? = some (Ik (l[i+1]-l[i])):=by
  unfold Da;rw [List.getElem?_map,List.getElem?_range (show i<l.length-1 by omega),Option.map_some,getD_at h,getD_at (show i<l.length by omega)]
 rw [AD hi] at h2;exact Option.some.inj h2
theorem Yld (x:List Int) (hx:x.length<4611686018427387904):∀ (d i n:Nat) (m:Int),d=x.length-i->i<=x.length->d<n->El.l1 n x m (i:Int)=some ((x.drop i).foldl Eo m):=by
 intro d;induction d with
 | zero=>
  intro i n m hd hi hn;have:i=x.length:=Ad
  subst this;obtain ⟨n,rfl⟩:=Aa n;show El.S1 _ _ _ _=_;unfold El.S1;rw [Be (by rw [Ba];omega),Al,List.drop_length];rfl
 | succ d ih=>
  intro i n m hd hi hn;obtain ⟨n,rfl⟩:=Aa n;have AY:i<x.length:=Ad
  show El.S1 (El.l1 n) _ _ _=_;unfold El.S1;rw [Bw (by rw [Ba];omega),Ak,Bq,Ak,BE AY,Bk,List.drop_eq_getElem_cons AY,List.foldl_cons];exact ih (i+1) n _ Ad Ad Ad
def Fk (x:List Int):Int:=(x.drop 1).foldl Eo (x.getD 0 0)
theorem min_eq (x:List Int) (hx:x.length<4611686018427387904) (h0:0<x.length):El x=some (Fk x):=by
 show El.S (El.t0 fu) x=_;unfold El.S;rw [Ba,Be,Al];show El.S0 (El.l1 18446744073709551615) x=_;unfold El.S0;rw [Bq,Ak];exact Yld x hx (x.length-1) 1 18446744073709551615 _ rfl Ad Ad
theorem rQ:∀ (l:List Int) (m:Int),l.foldl Eo m=m\/l.foldl Eo m∈l
 | [],m=> .inl rfl
 | a :: l,m=>by
  rw [List.foldl_cons];rcases rQ l (Eo m a) with h | h
  ·rw [h];unfold Eo;split
   ·exact .inr (AI ..)
   ·exact .inl rfl
  ·exact .inr (AP _ h)
theorem ub {x:List Int} (h0:0<x.length) (h:∀ a∈x,BN a):BN (Fk x):=by
 unfold Fk;rcases rQ (x.drop 1) (x.getD 0 0) with h1 | h1
 ·rw [h1,getD_at h0];exact h _ (Ay h0)
 ·exact h _ (List.mem_of_mem_drop h1)
theorem Yp3 (m:Int) (D:List Int) (hD:D.length<=65536):∀ (d i n:Nat),d=D.length-i->i<=D.length->d<n->
  CV.l2 n m (D.length:Int) (i:Int) ((D.take i).map (λ x=>Ik (x-m))++D.drop i)=some (D.map (λ x=>Ik (x-m)),m):=by
 intro d;induction d with
 | zero=>
  intro i n hd hi hn;have:i=D.length:=Ad
  subst this;obtain ⟨n,rfl⟩:=Aa n;show CV.S2 _ _ _ _ _=_;unfold CV.S2;rw [Be,Al,List.drop_length,AE,AB]
 | succ d ih=>
  intro i n hd hi hn;obtain ⟨n,rfl⟩:=Aa n;have AY:i<D.length:=Ad
  show CV.S2 (CV.l2 n) _ _ _ _=_;unfold CV.S2;have hlen:((D.take i).map (λ x=>Ik (x-m))++D.drop i).length=D.length:=by rw [Ap,Av,Ar,List.length_drop];omega
  have Nw:List.getD ((D.take i).map (λ x=>Ik (x-m))++D.drop i) (Int.toNat (i:Int)) 0=D[i]:=by
   rw [show Int.toNat (i:Int)=i from rfl,AK,AJ (by rw [Av,Ar];omega),Av,Ar,Nat.min_eq_left (Nat.le_of_lt AY),Nat.sub_self,List.getElem?_drop,Nat.add_zero,AD AY];rfl
  rw [Bw,Ak,Bq (by rw [Ba,hlen];omega),Ak,Ak,Nw,Zbf,Bk,show Int.toNat (i:Int)=i from rfl,List.set_append_right _ _ (by rw [Av,Ar];omega),Av,Ar,Nat.min_eq_left (Nat.le_of_lt AY),Nat.sub_self,
   List.drop_eq_getElem_cons AY,List.set_cons_zero]
  have:=ih (i+1) n Ad Ad Ad;rw [take_one AY,AG,AA] at this;exact this
theorem Yq3 (l:List Int) (hl:l.length<=65536) (h2:2<=l.length):∀ (d i n:Nat),d=l.length-1-i->i<=l.length-1->d<n->
  CV.l0 (CV.t1 fu) n l ((i+1:Nat):Int) ((Da l).take i)=some ((Da l).map (λ x=>Ik (x-Fk (Da l))),Fk (Da l)):=by
 intro d;induction d with
 | zero=>
  intro i n hd hi hn;have:i=l.length-1:=Ad
  subst this;obtain ⟨n,rfl⟩:=Aa n;have Ej:=Sy l;show CV.S0 (CV.S1 (CV.l2 18446744073709551615)) _ _ _ _=_;unfold CV.S0;rw [Be (by rw [Ba];omega),Al,AL Ad];unfold CV.S1;rw [min_eq _ Ad Ad,An];exact Yp3 (Fk (Da l)) (Da l) Ad (Da l).length 0 18446744073709551615 Ad Ad Ad
 | succ d ih=>
  intro i n hd hi hn;obtain ⟨n,rfl⟩:=Aa n;have Ej:=Sy l;have AY:i+1<l.length:=Ad
  have Yu:i<l.length:=Ad
  have QN:i<(Da l).length:=Ad
  show CV.S0 _ (CV.l0 (CV.t1 fu) n) _ _ _=_;unfold CV.S0;rw [Bw (by rw [Ba];omega),Ak,CA,show ((i+1:Nat):Int)-1=(i:Int) by omega,Bq,Ak,Bq,Ak,Cp (by rw [Ar];omega),Ak,BE AY,BE Yu,Zbf,Bk];have qo:=iu AY QN;have:=ih (i+1) n Ad Ad Ad;rw [take_one QN,qo] at this;exact this
def D6 (l:List Int):List Int:=(Da l).map λ x=>Ik (x-Fk (Da l))
theorem Zps (l:List Int) (hl:l.length<=65536) (h2:2<=l.length):CV l=some (D6 l,Fk (Da l)):=by
 show CV.S (CV.l0 (CV.t1 fu) fu) l=_;unfold CV.S;rw [Ba,CH,Cp (by show l.length*8<=_;omega)];exact Yq3 l hl h2 (l.length-1) 0 fu Ad Ad Ae
theorem PS (l:List Int):(D6 l).length=l.length-1:=by unfold D6;rw [Av,Sy]
theorem Zwv (l:List Int):∀ x∈D6 l,BN x:=λ x hx=>by
 unfold D6 at hx;obtain ⟨_,_,rfl⟩:=List.mem_map.1 hx;exact Kr _
theorem ta (l:List Int):∀ x∈Da l,BN x:=λ x hx=>by
 unfold Da at hx;obtain ⟨_,_,rfl⟩:=List.mem_map.1 hx;exact Kr _
def Ob (l:List Int) (v:Nat):List Int:=
 if l.length=0 then [] else if l.length=1 then vB (l.getD 0 0) else vB (l.getD 0 0)++(vB (Fk (Da l))++((v:Int) :: CR (D6 l) v))
theorem aS {v:Nat} (h:v<=64):IntKind.wrap .u8 (v:Int)=(v:Int):=by rw [KZ];omega
theorem ZC (l:List Int) (hl:l.length<=65536) {v:Nat} (hv:Ez (D6 l)=some (v:Int)) (BH:v<=64):Ut l=some (ofBytes (Ob l v),0):=by
 unfold Ut Ob;rw [Ba,Be,Al];by_cases h0:l.length=0
 ·rw [Ci,Ak,if_pos h0];rfl
 ·rw [Ca,Al,if_neg h0];have Li:0<l.length:=Ad
  have Du:nth l 0 0=l.getD 0 0:=rfl;by_cases h1:l.length=1
  ·rw [Ci,Ak,if_pos h1,Bq,Ak,Du,PL,An,Jn]
  ·rw [Ca,Al,if_neg h1,Zps l hl Ad,An];dsimp only;have GD:=PS l;have hb:(D6 l).length*v<=65536*64:=Nat.mul_le_mul Ad BH;have CT:=I8 (D6 l) v;have k1:=Fs (l.getD 0 0);have k2:=Fs (Fk (Da l));rw [hv,An,Wk (D6 l) BH Ad hv (Au _),An,Bq,Ak,Du,PL,An,PL,An,Jn,Jn,GV,aS BH,GV];have r1:Dh (ofBytes (vB (l.getD 0 0))) (ofBytes (vB (Fk (Da l))))=true:=Aq (by rw [CE,CE];omega);have r2:Dh (ofBytes (vB (l.getD 0 0)++vB (Fk (Da l)))) (ofBytes [(v:Int)])=true:=Aq (by rw [CE,CE,Ap,AN];omega);have r3:Dh (ofBytes (vB (l.getD 0 0)++vB (Fk (Da l))++[(v:Int)])) (ofBytes (CR (D6 l) v))=true:=Aq (by rw [CE,CE,Ap,Ap,AN];omega);dsimp only;rw [r1,r2,r3,GV,Ak,Ak,Ak];simp
theorem Zey (l:List Int) {v:Nat} (h:v<=64):∀ b∈Ob l v,0<=b/\b<256:=λ b hb=>by
 unfold Ob at hb;split at hb
 ·cases hb
 ·split at hb
  ·exact Nj _ b hb
  ·rcases List.mem_append.1 hb with hb | hb
   ·exact Nj _ b hb
   ·rcases List.mem_append.1 hb with hb | hb
    ·exact Nj _ b hb
    ·rcases List.mem_cons.1 hb with rfl | hb
     ·omega
     ·exact Sv _ _ b hb
theorem Zfy (l:List Int) (hl:l.length<=65536) (h2:2<=l.length) (BH:∀ x∈l,BN x) {o2:ByteArray->List Int->Bool->Option (List Int×Int)} {s:ByteArray} {bad:Bool}:∀ (d i n:Nat),d=l.length-1-i->i<=l.length-1->d<n->
  BV.l1 o2 n s (l.take (i+1)) (Fk (Da l)) (D6 l) ((D6 l).length:Int) (i:Int) bad=o2 s l bad:=by
 have GD:=PS l;intro d;induction d with
 | zero=>
  intro i n hd hi hn;have:i=l.length-1:=Ad
  subst this;obtain ⟨n,rfl⟩:=Aa n;show BV.S1 _ _ _ _ _ _ _ _ _=_;unfold BV.S1;rw [Be,Al,AL Ad]
 | succ d ih=>
  intro i n hd hi hn;obtain ⟨n,rfl⟩:=Aa n;have AY:i+1<l.length:=Ad
  have Yu:i<l.length:=Ad
  have hfi:i<(D6 l).length:=Ad
  show BV.S1 o2 (BV.l1 o2 n) _ _ _ _ _ _ _=_;unfold BV.S1;have LA:(l.take (i+1)).length=i+1:=by rw [Ar];omega
  have Xwf:Bt .i64 (AZ (l.take (i+1))) 1=(i:Int):=by rw [Ba,LA,CA];omega
  have Oe:nth (l.take (i+1)) (i:Int) 0=l[i]:=by
   rw [BE (show i<(l.take (i+1)).length by omega),List.getElem_take]
  have RN:Sl (Sl l[i] (Fk (Da l))) (D6 l)[i]=l[i+1]:=by
   rw [aA,aA];have hf:(D6 l)[i]=Ik (Ik (l[i+1]-l[i])-Fk (Da l)):=by
    have Ej:=Sy l;have h2:(D6 l)[i]? = some (Ik ((Da l)[i]'Ad-Fk (Da l))):=by
     unfold D6;rw [List.getElem?_map,AD (show i<(Da l).length by omega),Option.map_some]
    rw [AD hfi] at h2;rw [Option.some.inj h2,iu AY]
   rw [hf];have h:=BH l[i+1] (Ay AY)
   rw [show Ik (Ik (l[i]+Fk (Da l))+Ik (Ik (l[i+1]-l[i])-Fk (Da l)))=Ik l[i+1] from jG (by
    have e1:=oe (l[i]+Fk (Da l));have e2:=oe (Ik (l[i+1]-l[i])-Fk (Da l));have e3:=oe (l[i+1]-l[i])
    omega)]
   exact M7 h
  rw [Bw,Ak,Bq,Ak,Xwf,Bq,Ak,Cp Ad,Ak,Oe,BE hfi,RN,Bk,<- take_one AY];exact ih (i+1) n Ad Ad Ad
theorem Zft (l:List Int) (hl:l.length<=65536) (BH:∀ x∈l,BN x) {v:Nat} (hv:Ez (D6 l)=some (v:Int)) (Nx:v<=64) (Jg:Wd (D6 l) v) {s:ByteArray} (hs:Bu s=Ob l v):
  BV s (l.length:Int)=some (l,0):=by
 have Gt:s=ofBytes (Ob l v):=by rw [<- hs,LQ]
 have qp:BV.S2 s l false=some (l,0):=by
  unfold BV.S2;rw [ZC l hl hv Nx,An];dsimp only;rw [Al,Cs rfl,Al,Gp Gt.symm];rfl
 show BV.S (BV.t0 fu) s _=_;unfold BV.S;rw [Be,Al,Be,Al];by_cases h0:l.length=0
 ·rw [Be,Al];have:l=[]:=AU h0;subst this;show BV.S0 (BV.l1 (BV.t2 _) _) BV.S2 s _ [] s false=_;unfold BV.S0;rw [Be Ah,Al];exact qp
 ·have Li:0<l.length:=Ad
  have Zkp:BN (l.getD 0 0):=by rw [getD_at Li];exact BH _ (Ay Li)
  rw [Bw,Ak];unfold Ob at hs;rw [if_neg h0] at hs;have Zcf:l.take 1=[l.getD 0 0]:=by
   rw [show (1:Nat)=0+1 from rfl,take_one Li,getD_at Li];rfl
  by_cases h1:l.length=1
  ·rw [if_pos h1] at hs;have E3:Bu s=vB (l.getD 0 0)++[]:=by rw [hs,AE]
   have BL:s.size=(vB (l.getD 0 0)).length:=by rw [<- C6,hs]
   have eV:Kp s false=some (l.getD 0 0,cutS s ((vB (l.getD 0 0)).length:Int) (Bg s),false):=by
    unfold Kp;rw [M8 Zkp E3,An];dsimp only;rw [Al,Dg (by rw [Cc];omega),Ak,Cs rfl]
   rw [eV,An];show BV.S0 (BV.l1 (BV.t2 _) _) BV.S2 s _ _ _ _=_;unfold BV.S0;rw [Be,Al];dsimp only;have:[l.getD 0 0]=l:=by rw [<- Zcf,AL Ad]
   rw [this];exact qp
  ·rw [if_neg h1] at hs;have GD:=PS l;have Ej:=Sy l;have Xxf:BN (Fk (Da l)):=ub Ad (ta l);have BL:s.size=(vB (l.getD 0 0)).length+((vB (Fk (Da l))).length+((CR (D6 l) v).length+1)):=by rw [<- C6,hs,Ap,Ap,Aw]
   have eV:Kp s false=some (l.getD 0 0,cutS s ((vB (l.getD 0 0)).length:Int) (Bg s),false):=by
    unfold Kp;rw [M8 Zkp hs,An];dsimp only;rw [Al,Dg (by rw [Cc];omega),Ak,Cs rfl]
   have Ij:=JX hs;generalize NK:cutS s ((vB (l.getD 0 0)).length:Int) (Bg s)=s1 at eV Ij;have Xpi:s1.size=(vB (Fk (Da l))).length+((CR (D6 l) v).length+1):=by rw [<- C6,Ij,Ap,Aw]
   have h2w:Kp s1 false=some (Fk (Da l),cutS s1 ((vB (Fk (Da l))).length:Int) (Bg s1),false):=by
    unfold Kp;rw [M8 Xxf Ij,An];dsimp only;rw [Al,Dg (by rw [Cc];omega),Ak,Cs rfl]
   have CB:=JX Ij;generalize QO:cutS s1 ((vB (Fk (Da l))).length:Int) (Bg s1)=s2 at h2w CB;have Xyf:s2.size=(CR (D6 l) v).length+1:=by rw [<- C6,CB,Aw]
   have Cg:s2≠eB:=λ h=>by have:=Gx.1 h;omega
   have NI:byteAt s2 0=(v:Int):=NZ CB (i:=0) rfl;have hc3:Bu (cutS s2 1 (Bg s2))=CR (D6 l) v:=by
    have:=JX (a:=[(v:Int)]) (rest:=CR (D6 l) v) CB;exact this
   have LJ:=Sx (l:=D6 l) (w:=v) Nx Ad (Zwv l) Jg.1 hc3;rw [eV,An];show BV.S0 (BV.l1 (BV.t2 18446744073709551615) 18446744073709551615) (BV.t2 18446744073709551615) s _ _ _ _=_;unfold BV.S0;rw [Bw,Ak];dsimp only;rw [h2w,An];dsimp only;rw [Al,K6 Cg,Al,Dg (by rw [Cc];omega),Ak,Bq (by rw [Cc];omega),Ak,NI,FH,CA,show (l.length:Int)-1=((D6 l).length:Int) by omega,LJ,An];dsimp only;rw [Cs rfl,Al,<- Zcf];have:=Zfy l hl Ad BH (o2:=BV.t2 18446744073709551615) (s:=s) (bad:=false) (l.length-1) 0 18446744073709551615 Ad Ad Ad;rw [Ba];exact this.trans qp
end Go.AM.Pure
end

section
/- dict: numbers by their places among the distinct ones. -/
namespace Go.AM.Pure
open Go.AM
section
variable {α : Type} [Inhabited α] [DecidableEq α]
omit [DecidableEq α] in
theorem P8 (z:List α) {i:Nat} (h:i<z.length):z.toArray[i]! = z[i]:=by
 rw [getElem!_pos _ i (by simpa using h),List.getElem_toArray]
theorem rZ {le:α->α->Prop} (hr:∀ a,le a a) (ht:∀ a b c,le a b->le b c->le a c) (ha:∀ a b,le a b->le b a->a=b) {z:List α} (hz:z.Pairwise le):
  (Lib.compact z).Pairwise (λ a b=>le a b/\a≠b)/\∀ x,x∈Lib.compact z↔x∈z:=by
 have hs:∀ i j,(Mh:i<=j)->(h:j<z.length)->le (z[i]'Ad) z[j]:=λ i j Mh h=>by
  by_cases he:i=j
  ·subst he;exact hr _
  ·exact (List.pairwise_iff_getElem.1 hz) i j Ad h Ad
 unfold Lib.compact Lib.compactUpTo;constructor
 ·rw [List.pairwise_map];refine List.Pairwise.imp_of_mem ?_ (List.Pairwise.filter _ List.pairwise_lt_range);intro a b hma ql MV;obtain ⟨h1,_⟩:=List.mem_filter.1 hma;obtain ⟨h2,h3⟩:=List.mem_filter.1 ql;have h1:=List.mem_range.1 h1;have h2:=List.mem_range.1 h2;have Cg:z.toArray[b]!≠z.toArray[b-1]!:=by
   rcases Az h3 with h | h
   ·omega
   ·exact h
  rw [P8 z h2,P8 z (show b-1<z.length by omega)] at Cg;rw [P8 z h1,P8 z h2];have k1:=hs a (b-1) Ad Ad;have k2:=hs (b-1) b Ad h2;refine ⟨ht _ _ _ k1 k2,λ he=>Cg ?_⟩;rw [he] at k1;exact ha _ _ k1 k2
 ·intro x;constructor
  ·intro hx;obtain ⟨j,hj,rfl⟩:=List.mem_map.1 hx;have:=List.mem_range.1 (List.mem_filter.1 hj).1;rw [P8 z this];exact Ay this
  ·intro hx;obtain ⟨j,hj,rfl⟩:=List.mem_iff_getElem.1 hx;clear hx;induction j with
   | zero=>exact List.mem_map.2 ⟨0,List.mem_filter.2 ⟨List.mem_range.2 hj,by simp [Lib.keeps]⟩,P8 z hj⟩
   | succ j ih=>
    by_cases hq:z[j+1]=z[j]
    ·rw [hq];exact ih Ad
    ·refine List.mem_map.2 ⟨j+1,List.mem_filter.2 ⟨List.mem_range.2 hj,?_⟩,P8 z hj⟩;refine Aq (.inr ?_);rw [P8 z hj,Nat.add_sub_cancel,P8 z (show j<z.length by omega)];exact hq
end
def B4 (l:List Int):List Int:=Lib.compact (l.mergeSort λ x y=>decide (x<=y))
def Cm (l:List Int):List Int:=l.map λ v=>((B4 l).idxOf v:Int)
theorem LU (l:List Int):(B4 l).Pairwise (· < ·)/\∀ x,x∈B4 l↔x∈l:=by
 have hs:=List.pairwise_mergeSort (le:=λ x y:Int=>decide (x<=y)) (λ a b c h1 h2=>by simp at *;omega) (λ a b=>by simp;omega) l;have h:=rZ (le:=λ a b:Int=>a<=b) (λ a=>Int.le_refl a) (λ a b c h1 h2=>Int.le_trans h1 h2) (λ a b h1 h2=>Int.le_antisymm h1 h2) (hs.imp λ h=>Az h);refine ⟨h.1.imp λ h=>by omega,λ x=>(h.2 x).trans List.mem_mergeSort⟩
theorem ON (l:List Int):(B4 l).length<=l.length:=by
 unfold B4;have h:∀ z:List Int,(Lib.compact z).length<=z.length:=λ z=>by
  unfold Lib.compact Lib.compactUpTo;rw [Av];exact Nat.le_trans (List.length_filter_le _ _) (by rw [List.length_range];exact Au _)
 have:=h (l.mergeSort λ x y=>decide (x<=y))
 rwa [List.length_mergeSort] at this
theorem im {l:List Int} (h:0<l.length):0<(B4 l).length:=by
 have:l[0]∈B4 l:=((LU l).2 _).2 (Ay h);exact List.length_pos_of_mem this
theorem SL {d:List Int} (h:d.Pairwise (· < ·)) {i j:Nat} (Mh:i<j) (hj:j<d.length):d[i]'Ad<d[j]:=List.pairwise_iff_getElem.1 h i j Ad hj Mh
theorem vK (x y:Int):cmp_Less_int x y=A8 x y:=by
 unfold cmp_Less_int;have:cmp_isNaN_int x=false:=by
  show BK x x=false;exact Cs rfl
 rw [this];rfl
theorem Ybw (d:List Int) (hl:d.length<1000000000) (hd:d.Pairwise (· < ·)) {k:Nat} (hk:k<d.length):∀ (g i j n:Nat),g=j-i->i<=k->k<=j->j<=d.length->g<n->
  DR.l0 (DR.t1 fu) n d d[k] (d.length:Int) (i:Int) (j:Int)=some ((k:Int),true):=by
 intro g;induction g using Nat.strongRecOn with
 | ind g ih=>
 intro i j n hg hi hj Ov hn;obtain ⟨n,rfl⟩:=Aa n;show DR.S0 DR.S1 (DR.l0 (DR.t1 fu) n) _ _ _ _ _=_;unfold DR.S0;by_cases Mh:i<j
 ·have hh:IntKind.wrap .i64 (B7 .u64 (IntKind.wrap .u64 (A7 .i64 (i:Int) (j:Int))) 1)=(((i+j) / 2:Nat):Int):=by
   have h1:IntKind.wrap .u64 ((i:Int)+(j:Int))=((i+j:Nat):Int):=by rw [E6];omega
   have h2:=Ns ((i+j:Nat):Int) 1 Ad;rw [show ((1:Nat):Int)=1 from rfl,Int.pow_succ,Int.pow_zero,Int.one_mul] at h2;rw [Bk,h1,h2,FH];omega
  have hm:(i+j) / 2<d.length:=Ad
  rw [Bw,Ak,hh,Bq,Ak,BE hm,vK,Bk];by_cases AY:(i+j) / 2<k
  ·rw [Bw (SL hd AY hk),Ak];exact ih (j-((i+j) / 2+1)) Ad ((i+j) / 2+1) j n rfl Ad hj Ov Ad
  ·have:d[k]<=d[(i+j) / 2]:=by
    by_cases he:k=(i+j) / 2
    ·exact Int.le_of_eq (getElem_congr_idx he)
    ·exact Int.le_of_lt (SL hd Ad hm)
   rw [Be this,Al];exact ih ((i+j) / 2-i) Ad i ((i+j) / 2) n rfl hi Ad Ad Ad
 ·have:i=k:=Ad
  subst this;rw [Be,Al];unfold DR.S1;rw [Bw,Ak,Bq,Ak,BE hk,Ci rfl];rfl
theorem Xpa (d:List Int) (hl:d.length<1000000000) (hd:d.Pairwise (· < ·)) {v:Int} (hv:v∈d):DR d v=some ((d.idxOf v:Int),true):=by
 have hk:d.idxOf v<d.length:=List.idxOf_lt_length_iff.2 hv;have hg:d[d.idxOf v]=v:=List.getElem_idxOf hk;have:=Ybw d hl hd hk d.length 0 d.length fu Ad Ad Ad Ad Ae;rw [hg] at this;exact this
theorem Zvv (l:List Int) (hl:l.length<=65536) (lo:Nat) (t:List Int) (ht:List.take (B4 l).length (List.drop lo t)=B4 l):∀ (d i n:Nat),d=l.length-i->i<=l.length->d<n->
  FE.l0 n lo (B4 l).length ((Cm l).take i) l (l.length:Int) (i:Int) t=some (B4 l,Cm l):=by
 have CT:(Cm l).length=l.length:=by unfold Cm;rw [Av]
 have Ej:=ON l;intro d;induction d with
 | zero=>
  intro i n hd hi hn;have:i=l.length:=Ad
  subst this;obtain ⟨n,rfl⟩:=Aa n;show FE.S0 _ _ _ _ _ _ _ _=_;unfold FE.S0;rw [Be,Al,ht,AL Ad]
 | succ d ih=>
  intro i n hd hi hn;obtain ⟨n,rfl⟩:=Aa n;have AY:i<l.length:=Ad
  show FE.S0 (FE.l0 n) _ _ _ _ _ _ _=_;unfold FE.S0;rw [Bw,Ak,Bq,Ak,BE AY,ht,Xpa _ Ad (LU l).1 (((LU l).2 _).2 (Ay AY)),An,Cp (by rw [Ar];omega),Ak,Bk];have hp:(Cm l)[i]'Ad=((B4 l).idxOf l[i]:Int):=by
   have h2:(Cm l)[i]? = some ((B4 l).idxOf l[i]:Int):=by
    unfold Cm;rw [List.getElem?_map,AD AY,Option.map_some]
   rw [AD Ad] at h2;exact Option.some.inj h2
  have:=ih (i+1) n Ad Ad Ad;rw [take_one Ad,hp] at this;exact this
theorem fW (l:List Int) (hl:l.length<=65536) (h0:0<l.length):FE l=some (B4 l,Cm l):=by
 show FE.S (FE.l0 fu) l=_;unfold FE.S;have hc:Lp 8 l=some l:=by
  unfold Lp;rw [Aq h0,Cp Ad];rfl
 have hs:XQ l=some (l.mergeSort λ x y=>decide (x<=y)):=by
  unfold XQ;rw [Aq Ad];rfl
 have Lg:(l.mergeSort λ x y=>decide (x<=y)).length=l.length:=List.length_mergeSort _;have Ej:=ON l;have qm:XR (l.mergeSort λ x y=>decide (x<=y))=some (((B4 l).length:Int),B4 l++List.replicate (l.length-(B4 l).length) 0):=by
  unfold XR;rw [Aq Ad,Lg];rfl
 rw [hc,An,Sk (x:=l.mergeSort λ x y=>decide (x<=y)) (by rw [Aq h0];rfl) hs (by rw [Lg];simp),An,
  Sk (by rw [Aq Ad];rfl) qm (by
   dsimp only;rw [Ap,AO,Lg,Aq Ad]
   rfl),An]
 dsimp only;rw [show Int.toNat ((B4 l).length:Int)=(B4 l).length from rfl,Ba];exact Zvv l hl 0 _ (by rw [List.drop_zero,List.take_left]) l.length 0 fu Ad Ad Ae
def CP (d:List Int):List Int:=d.flatMap vB
theorem s8 (x:Int) (d:List Int):CP (x :: d)=vB x++CP d:=rfl
theorem ZP (d:List Int) (x:Int):CP (d++[x])=CP d++vB x:=by unfold CP;simp
theorem Rb:∀ d:List Int,(CP d).length<=10*d.length
 | []=>by simp [CP]
 | x :: d=>by
  have:=Rb d;have:=Fs x;rw [s8,Ap,Aw];omega
theorem iq:∀ d:List Int,∀ b∈CP d,0<=b/\b<256
 | [],b,h=>by cases h
 | x :: d,b,h=>by
  rw [s8] at h;rcases List.mem_append.1 h with h | h
  ·exact Nj _ b h
  ·exact iq d b h
theorem Zg2 (o:List Int) (hl:o.length<=65536):∀ (d i n:Nat) (f:Bool),d=o.length-i->i<=o.length->d<n->
  H8.l0 n o (o.length:Int) (i:Int) (f,CP (o.take i))=some (ofBytes (CP o),0):=by
 intro d;induction d with
 | zero=>
  intro i n f hd hi hn;have:i=o.length:=Ad
  subst this;obtain ⟨n,rfl⟩:=Aa n;show H8.S0 _ _ _ _ _=_;unfold H8.S0;rw [Be,Al,AB,ir _ _ (iq o)];rfl
 | succ d ih=>
  intro i n f hd hi hn;obtain ⟨n,rfl⟩:=Aa n;have AY:i<o.length:=Ad
  have h1:=Rb (o.take i);rw [Ar] at h1;have h2:=Fs o[i];show H8.S0 (H8.l0 n) _ _ _ _=_;unfold H8.S0;rw [Bw,Ak,Bq,Ak,BE AY,PL,An,Jn,ZZ _ _ (by rw [CE];show (CP _).length+_<_;omega),An,Ko (Nj _),Bk];have:=ih (i+1) n false Ad Ad Ad;rw [take_one AY,ZP] at this;exact this
theorem Zku (o:List Int) (hl:o.length<=65536):H8 o=some (ofBytes (CP o),0):=
 Zg2 o hl o.length 0 fu true Ad Ad Ae
theorem OI (l:List Int):(Cm l).length=l.length:=by unfold Cm;rw [Av]
theorem Si {l:List Int}:∀ x∈Cm l,0<=x/\x<((B4 l).length:Int):=λ x hx=>by
 unfold Cm at hx;obtain ⟨v,hv,rfl⟩:=List.mem_map.1 hx;have:=List.idxOf_lt_length_iff.2 (((LU l).2 v).2 hv);omega
theorem sw {l:List Int} {k:Nat} (hk:k<(B4 l).length):(k:Int)∈Cm l:=by
 have hm:(B4 l)[k]∈l:=((LU l).2 _).1 (Ay hk);refine List.mem_map.2 ⟨_,hm,?_⟩;have h1:(B4 l).idxOf (B4 l)[k]<(B4 l).length:=List.idxOf_lt_length_iff.2 (Ay hk);have h2:(B4 l)[(B4 l).idxOf (B4 l)[k]]=(B4 l)[k]:=List.getElem_idxOf h1;have Vw:=(LU l).1;rcases Nat.lt_trichotomy ((B4 l).idxOf (B4 l)[k]) k with h | h | h
 ·have:=SL Vw h hk;omega
 ·rw [h]
 ·have:=SL Vw h h1;omega
def K3 (l:List Int) (v:Nat):List Int:=if l.length=0 then [] else vB ((B4 l).length:Int)++(CP (B4 l)++CR (Cm l) v)
theorem Zjs (l:List Int) (hl:l.length<=65536) {v:Nat} (hv:Ez (Cm l)=some (v:Int)) (BH:v<=64):ZA l=some (ofBytes (K3 l v),0):=by
 unfold ZA fK K3;rw [Ba,Be,Al];by_cases h0:l.length=0
 ·rw [Ci,Ak,if_pos h0];rfl
 ·have Ej:=ON l;have CT:=OI l;have hb:(Cm l).length*v<=65536*64:=Nat.mul_le_mul Ad BH;have NJ:=I8 (Cm l) v;have k1:=Fs ((B4 l).length:Int);have k2:=Rb (B4 l);rw [Ca,Al,if_neg h0,fW l hl Ad,An];dsimp only;rw [Zku _ Ad,An];dsimp only;rw [Cs rfl,Al,hv,An,Wk (Cm l) BH Ad hv (Au _),An,Ba,PL,An,Jn,GV];dsimp only;have r1:Dh (ofBytes (vB ((B4 l).length:Int))) (ofBytes (CP (B4 l)))=true:=Aq (by rw [CE,CE];omega);have r2:Dh (ofBytes (vB ((B4 l).length:Int)++CP (B4 l))) (ofBytes (CR (Cm l) v))=true:=Aq (by rw [CE,CE,Ap];omega);rw [r1,r2,GV,Ak,Ak,AA];rfl
theorem Ycw {x:Int} (hx:BN x) {s:ByteArray} {rest:List Int} (hs:Bu s=vB x++rest):T9 s=some (x,((vB x).length:Int)):=by
 unfold T9;rw [M8 hx hs,An];rfl
theorem Yjd {D:List Int} (hD:D.length<=65536) (Vw:D.Pairwise (· < ·)) (BH:∀ x∈D,BN x) {s:ByteArray} {pre tail:List Int} (hs:Bu s=pre++(CP D++tail)) (BL:s.size<100000000) {o1:ByteArray->Int->Int->Int->List Int->Option (List Int×List Int×Int)} {xn size:Int}:
  ∀ (d i n:Nat),d=D.length-i->i<=D.length->d<n->
  BZ.l0 o1 n s xn size ((pre.length+(CP (D.take i)).length:Nat):Int) (D.take i) (D.length:Int) (i:Int)=o1 s xn size ((pre.length+(CP D).length:Nat):Int) D:=by
 have Jf:s.size=pre.length+((CP D).length+tail.length):=by rw [<- C6,hs,Ap,Ap]
 intro d;induction d with
 | zero=>
  intro i n hd hi hn;have:i=D.length:=Ad
  subst this;obtain ⟨n,rfl⟩:=Aa n;show BZ.S0 _ _ _ _ _ _ _ _ _=_;unfold BZ.S0;rw [Be,Al,AB]
 | succ d ih=>
  intro i n hd hi hn;obtain ⟨n,rfl⟩:=Aa n;have AY:i<D.length:=Ad
  show BZ.S0 o1 (BZ.l0 o1 n) _ _ _ _ _ _ _=_;unfold BZ.S0;have Ja:CP D=CP (D.take i)++(vB D[i]++CP (D.drop (i+1))):=by
   have:D=D.take i++D[i] :: D.drop (i+1):=by rw [<- List.drop_eq_getElem_cons AY,List.take_append_drop]
   have h2:CP D=CP (D.take i++D[i] :: D.drop (i+1)):=congrArg CP this;rw [h2];unfold CP;rw [List.flatMap_append,List.flatMap_cons]
  have MX:(CP (D.take i)).length<=(CP D).length:=by rw [Ja,Ap];omega
  have hcut:Bu (cutS s ((pre.length+(CP (D.take i)).length:Nat):Int) (Bg s))=vB D[i]++(CP (D.drop (i+1))++tail):=by
   have:=JX (s:=s) (a:=pre++CP (D.take i)) (rest:=vB D[i]++(CP (D.drop (i+1))++tail)) (by rw [hs,Ja];simp);rw [Ap] at this;exact this
  have hv:=Fs D[i];have LA:(D.take i).length=i:=by rw [Ar];omega
  have JL:A7 .i64 ((pre.length+(CP (D.take i)).length:Nat):Int) ((vB D[i]).length:Int)=((pre.length+(CP (D.take (i+1))).length:Nat):Int):=by
   have:(CP (D.take (i+1))).length=(CP (D.take i)).length+(vB D[i]).length:=by rw [take_one AY,ZP,Ap]
   rw [Bk,this];omega
  rw [Bw,Ak,Dg (by rw [Cc];omega),Ak,Ycw (BH _ (Ay AY)) hcut,An];dsimp only;rw [Ca,Al,JL,Bk,<- take_one AY];have:=ih (i+1) n Ad Ad Ad;rw [Cp Ad];by_cases JM:i=0
  ·rw [Be,Al,Ak];exact this
  ·have JB:i-1<(D.take i).length:=Ad
   rw [Bw,Ak,CA,Bq (by rw [Ba,LA];omega),Ak,show (i:Int)-1=((i-1:Nat):Int) by omega,BE JB,List.getElem_take,Gc (SL Vw Ad AY),Al,Ak];exact this
def E0 (size:Nat) (p:List Int):List Bool:=(List.range size).map λ k:Nat=>p.any λ x=>decide (x=(k:Int))
theorem vV (size:Nat) (p:List Int) (x:Int) (h0:0<=x):List.set (E0 size p) x.toNat true=E0 size (p++[x]):=by
 apply List.ext_getElem
 ·unfold E0;simp
 ·intro k h1 h2;have hk:k<size:=by unfold E0 at h2;simpa using h2
  rw [List.getElem_set];have e1:∀ q:List Int,∀ h:k<(E0 size q).length,(E0 size q)[k]=q.any λ x=>decide (x=(k:Int)):=λ q h=>by
   have h2:(E0 size q)[k]? = some (q.any λ x=>decide (x=(k:Int))):=by
    unfold E0;rw [List.getElem?_map,List.getElem?_range hk,Option.map_some]
   rw [AD h] at h2;exact Option.some.inj h2
  rw [e1 (p++[x]) h2,List.any_append];by_cases hx:x.toNat=k
  ·rw [if_pos hx];have:x=(k:Int):=by omega
   simp [this]
  ·rw [if_neg hx,e1];have:¬ x=(k:Int):=by omega
   simp [this]
theorem Ykd {D P:List Int} (hP:P.length<=65536) (KI:∀ x∈P,0<=x/\x<(D.length:Int)) (_hD:D.length<=65536) {o3:List Int->List Int->List Bool->Option (List Int×List Int×Int)}:
  ∀ (d i n:Nat),d=P.length-i->i<=P.length->d<n->
  BZ.l2 o3 n (D.length:Int) D P P (P.length:Int) (i:Int) (E0 D.length (P.take i))=o3 D P (E0 D.length P):=by
 intro d;induction d with
 | zero=>
  intro i n hd hi hn;have:i=P.length:=Ad
  subst this;obtain ⟨n,rfl⟩:=Aa n;show BZ.S2 _ _ _ _ _ _ _ _ _=_;unfold BZ.S2;rw [Be,Al,AB]
 | succ d ih=>
  intro i n hd hi hn;obtain ⟨n,rfl⟩:=Aa n;have AY:i<P.length:=Ad
  have hx:=KI P[i] (Ay AY);have Jf:(E0 D.length (P.take i)).length=D.length:=by unfold E0;simp
  show BZ.S2 o3 (BZ.l2 o3 n) _ _ _ _ _ _ _=_;unfold BZ.S2;rw [Bw,Ak,Bq,Ak,BE AY,Be hx.1,Al,Gc hx.2,Al,Bq (by rw [Ba,Jf];exact hx),Ak,Bk,vV _ _ _ hx.1,<- take_one AY];exact ih (i+1) n Ad Ad Ad
theorem s9 (l:List Bool) (hl:l.length<4611686018427387904) (ML:∀ b∈l,b=true):∀ (d i n:Nat),d=l.length-i->i<=l.length->d<n->FA.l0 n l false (l.length:Int) (i:Int)=some (-1):=by
 intro d;induction d with
 | zero=>
  intro i n hd hi hn;have:i=l.length:=Ad
  subst this;obtain ⟨n,rfl⟩:=Aa n;show FA.S0 _ _ _ _ _=_;unfold FA.S0;rw [Be,Al]
 | succ d ih=>
  intro i n hd hi hn;obtain ⟨n,rfl⟩:=Aa n;have AY:i<l.length:=Ad
  show FA.S0 (FA.l0 n) _ _ _ _=_;unfold FA.S0;rw [Bw,Ak,Bq,Ak,BE AY,ML _ (Ay AY),show RZ false true=false from rfl,Al,Bk];exact ih (i+1) n Ad Ad Ad
theorem ua {l:List Int} (hl:l.length<=65536) (h0:0<l.length) {v:Nat} (h:Wd [((B4 l).length:Int)-1] v):Wd (Cm l) v:=by
 have Ej:=ON l;have TG:=im h0;obtain ⟨h1,h2⟩:=h;have h1:=h1 _ (List.mem_singleton.2 rfl);constructor
 ·intro x hx;have:=Si x hx;omega
 ·rcases h2 with h2 | ⟨x,hx,h2⟩
  ·exact .inl h2
  ·have hx:=List.mem_singleton.1 hx;subst hx;right;have:=sw (l:=l) (k:=(B4 l).length-1) Ad;refine ⟨_,this,?_⟩;rw [show (((B4 l).length-1:Nat):Int)=((B4 l).length:Int)-1 by omega];exact h2
theorem Zet {D P:List Int} (_hD:D.length<=65536) (hP:P.length<=65536) (KI:∀ x∈P,0<=x/\x<(D.length:Int)):∀ (d i n:Nat),d=P.length-i->i<=P.length->d<n->
  FD.l0 n D ((P.take i).map λ x=>D.getD x.toNat 0) P (P.length:Int) (i:Int)=some (P.map λ x=>D.getD x.toNat 0):=by
 intro d;induction d with
 | zero=>
  intro i n hd hi hn;have:i=P.length:=Ad
  subst this;obtain ⟨n,rfl⟩:=Aa n;show FD.S0 _ _ _ _ _ _=_;unfold FD.S0;rw [Be,Al,AB]
 | succ d ih=>
  intro i n hd hi hn;obtain ⟨n,rfl⟩:=Aa n;have AY:i<P.length:=Ad
  have hx:=KI P[i] (Ay AY);show FD.S0 (FD.l0 n) _ _ _ _ _=_;unfold FD.S0;rw [Bw,Ak,Bq,Ak,BE AY,Bq (by rw [Ba];exact hx),Ak,Cp (by rw [Av,Ar];omega),Ak,Bk];have:=ih (i+1) n Ad Ad Ad;rw [take_one AY,AG] at this;exact this
theorem hZ (l:List Int):(Cm l).map (λ x=>(B4 l).getD x.toNat 0)=l:=by
 unfold Cm;rw [List.map_map]
 conv=>rhs;rw [<- List.map_id l]
 apply List.map_congr_left;intro v hv;have hk:=List.idxOf_lt_length_iff.2 (((LU l).2 v).2 hv);show (B4 l).getD (((B4 l).idxOf v:Nat):Int).toNat 0=v;rw [show (((B4 l).idxOf v:Nat):Int).toNat=(B4 l).idxOf v from rfl,getD_at hk,List.getElem_idxOf hk]
theorem Zlu (l:List Int) (hl:l.length<=65536) (BH:∀ x∈l,BN x) {v:Nat} (Nx:v<=64) (Jg:Wd (Cm l) v) {s:ByteArray} (hs:Bu s=K3 l v) (h0:0<l.length):
  BZ s (l.length:Int)=some (B4 l,Cm l,0):=by
 have Ej:=ON l;have TG:=im h0;have CT:=OI l;have E3:Bu s=vB ((B4 l).length:Int)++(CP (B4 l)++CR (Cm l) v):=by
  unfold K3 at hs
  rwa [if_neg Ad] at hs
 have hb:(Cm l).length*v<=65536*64:=Nat.mul_le_mul Ad Nx;have NJ:=I8 (Cm l) v;have k1:=Fs ((B4 l).length:Int);have k2:=Rb (B4 l);have BL:s.size=(vB ((B4 l).length:Int)).length+((CP (B4 l)).length+(CR (Cm l) v).length):=by rw [<- C6,E3,Ap,Ap]
 show BZ.S (BZ.l0 (BZ.t1 fu) fu) s _=_;unfold BZ.S;rw [Be,Al,Be,Al,Ca,Al,M8 (by unfold BN;omega) E3,An];dsimp only;rw [Cs rfl,Al,Be,Al,Be,Al];have Of:=Yjd (D:=B4 l) Ad (LU l).1 (λ x hx=>BH x (((LU l).2 x).1 hx)) E3 Ad (o1:=BZ.t1 fu) (xn:=(l.length:Int)) (size:=((B4 l).length:Int)) (B4 l).length 0 fu Ad Ad Ae;rw [List.take_zero,show CP []=[] from rfl,List.length_nil,Nat.add_zero] at Of;rw [show (0:Int)=((0:Nat):Int) from rfl,Of];show BZ.S1 (BZ.l2 (BZ.t3 18446744073709551615) 18446744073709551615) s _ _ _ _=_;unfold BZ.S1;obtain ⟨v',w1,w2,w3⟩:=Sf [((B4 l).length:Int)-1] Ah;have Pt:v'=v:=(ua hl h0 w3).unique Jg;subst Pt;have hcut:Bu (cutS s (((vB ((B4 l).length:Int)).length+(CP (B4 l)).length:Nat):Int) (Bg s))=CR (Cm l) v':=by
  have:=JX (s:=s) (a:=vB ((B4 l).length:Int)++CP (B4 l)) (rest:=CR (Cm l) v') (by rw [E3,AA]);rw [Ap] at this;exact this
 have LJ:=Sx (l:=Cm l) (w:=v') Nx Ad (λ x hx=>by have:=Si x hx;unfold BN;omega) Jg.1 hcut;rw [CT] at LJ;rw [Dg (by rw [Cc];omega),Ak,CA,w1,An,LJ,An];dsimp only;rw [Cs rfl,Al,CH,Cp (by show (B4 l).length*1<=_;omega)];have lr:List.replicate (Int.toNat ((B4 l).length:Int)) false=E0 (B4 l).length ((Cm l).take 0):=by
  unfold E0;rw [List.take_zero];symm;rw [List.eq_replicate_iff];refine ⟨Ah,λ b hb=>?_⟩;obtain ⟨k,_,rfl⟩:=List.mem_map.1 hb;rfl
 have KJ:=Ykd (D:=B4 l) (P:=Cm l) Ad (λ x hx=>Si x hx) Ad (o3:=BZ.t3 18446744073709551615) (Cm l).length 0 18446744073709551615 Ad Ad Ad;rw [lr,Ba];refine Eq.trans KJ ?_;show BZ.S3 (B4 l) (Cm l) (E0 (B4 l).length (Cm l))=_;unfold BZ.S3;have qn:∀ b∈E0 (B4 l).length (Cm l),b=true:=λ b hb=>by
  unfold E0 at hb;obtain ⟨k,hk,rfl⟩:=List.mem_map.1 hb;exact List.any_eq_true.2 ⟨_,sw (List.mem_range.1 hk),Aq rfl⟩
 have Xvf:(E0 (B4 l).length (Cm l)).length=(B4 l).length:=by unfold E0;simp
 have Ny:PF (E0 (B4 l).length (Cm l)) false=some false:=by
  unfold PF;have:=s9 _ Ad qn (E0 (B4 l).length (Cm l)).length 0 fu Ad Ad Ae;have h2:FA (E0 (B4 l).length (Cm l)) false=some (-1):=this;rw [h2];rfl
 rw [Ny];rfl
theorem rA (l:List Int) (hl:l.length<=65536) (BH:∀ x∈l,BN x) {v:Nat} (Nx:v<=64) (Jg:Wd (Cm l) v) {s:ByteArray} (hs:Bu s=K3 l v):
  QZ s (l.length:Int)=some (l,0):=by
 unfold QZ;by_cases h0:l.length=0
 ·have Gt:s=eB:=Gx.2 (by rw [<- C6,hs];unfold K3;rw [if_pos h0];rfl);have:l=[]:=AU h0;subst this;have h1:BZ s (([]:List Int).length:Int)=some ([],[],0):=by
   show BZ.S _ s 0=_;unfold BZ.S;rw [Be,Al,Be,Al,Ci rfl,Ak,Gp Gt];rfl
  rw [h1];rfl
 ·have Ej:=ON l;rw [Zlu l hl BH Nx Jg hs Ad,An];dsimp only;rw [Cs rfl,Al];have:=Zet (D:=B4 l) (P:=Cm l) Ad (by rw [OI];exact hl) (λ x hx=>Si x hx) (Cm l).length 0 fu Ad Ad (by rw [OI];unfold fu;omega);have h2:FD (B4 l) (Cm l)=some ((Cm l).map λ x=>(B4 l).getD x.toNat 0):=this;rw [h2,hZ];rfl
end Go.AM.Pure
end

section
/- block: Put, and what is read of it. -/
namespace Go.AM.Pure
open Go.AM
theorem gq (s:ByteArray) (a b:Nat):Bu (cutS s (a:Int) (b:Int))=((Bu s).drop a).take (b-a):=by
 unfold Bu cutS;show List.map _ (s.extract a b).data.toList=_;rw [ByteArray.data_extract,Array.toList_extract,List.extract_eq_take_drop,<- List.map_drop,<- List.map_take]
theorem yq (c:Cell) (kind:Int):LR c kind = !(HQ c && (decide (c.1=0) || decide (c.1=kind))):=by
 unfold LR;rw [rP];cases hm:HQ c with
 | false=>rw [if_neg Af];rfl
 | true=>
  rw [if_pos rfl,Cs rfl,Al];by_cases h0:c.1=0
  ·rw [Cs h0,Aq h0];rfl
  ·rw [Fh h0,Ak,Ax h0];by_cases h1:c.1=kind
   ·rw [Cs h1,Aq h1];rfl
   ·rw [Fh h1,Ax h1];rfl
theorem Zp3 (l:List Cell) (hl:l.length<4611686018427387904) (kind:Int):∀ (d i n:Nat),d=l.length-i->i<=l.length->d<n->(∀ j (h:j<l.length),j<i->LR l[j] kind=false)->
  ∃ r,Hw.l0 n l kind (l.length:Int) (i:Int)=some r/\BC 0 r=l.any (λ c=>LR c kind):=by
 intro d;induction d with
 | zero=>
  intro i n hd hi hn ha;have:i=l.length:=Ad
  subst this;obtain ⟨n,rfl⟩:=Aa n;refine ⟨-1,?_,?_⟩
  ·show Hw.S0 _ _ _ _ _=_;unfold Hw.S0;rw [Be,Al]
  ·rw [show BC 0 (-1)=false from rfl];symm;rw [List.any_eq_false];intro x hx;obtain ⟨j,hj,rfl⟩:=List.mem_iff_getElem.1 hx;rw [ha j hj hj];decide
 | succ d ih=>
  intro i n hd hi hn ha;obtain ⟨n,rfl⟩:=Aa n;have AY:i<l.length:=Ad
  show ∃ r,Hw.S0 (Hw.l0 n) _ _ _ _=_/\_;unfold Hw.S0;rw [Bw,Ak,Bq,Ak,BE AY];cases hq:LR l[i] kind with
  | true=>
   rw [Ak];refine ⟨_,rfl,?_⟩;rw [CH];symm;rw [List.any_eq_true];exact ⟨l[i],Ay AY,hq⟩
  | false=>
   rw [Al,Bk];exact ih (i+1) n Ad Ad Ad λ j h hj=>by
    by_cases Oz:j=i
    ·subst Oz;exact hq
    ·exact ha j h Ad
theorem se (l:List Cell) (hl:l.length<4611686018427387904) (kind:Int):V8 l kind=some (l.any λ c=>LR c kind):=by
 unfold V8;obtain ⟨r,h1,h2⟩:=Zp3 l hl kind l.length 0 fu Ad Ad Ae λ j h hj=>by omega
 have:Hw l kind=some r:=h1;rw [this,An,h2]
def Hn (l:List Cell) (kind:Int):Prop:=1<=l.length/\l.length<=64/\(kind=1\/kind=2)/\∀ c∈l,HQ c=true/\(c.1=0\/c.1=kind)
theorem yr (l:List Cell) (kind:Int):(!(l.any λ c=>LR c kind))=true↔∀ c∈l,HQ c=true/\(c.1=0\/c.1=kind):=by
 rw [Bool.not_eq_true',List.any_eq_false];constructor
 ·intro h c hc;have h1:=h c hc;rw [yq,Bool.not_eq_true,Bool.not_eq_false',Bool.and_eq_true,Bool.or_eq_true,decide_eq_true_eq,decide_eq_true_eq] at h1;exact h1
 ·intro h c hc;rw [yq,Bool.not_eq_true,Bool.not_eq_false',Bool.and_eq_true,Bool.or_eq_true,decide_eq_true_eq,decide_eq_true_eq];exact h c hc
theorem yo {l:List Cell} {kind:Int} (h:Hn l kind):Uu l kind=some true:=by
 obtain ⟨h1,h2,h3,h4⟩:=h;unfold Uu;have h5:=(yr l kind).2 h4;rw [Ba,Be,Al,Be,Al,se l Ad,An,h5];rcases h3 with rfl | rfl
 ·rw [Cs rfl];rfl
 ·rw [Fh,Cs rfl];rfl
theorem Yt3 {l:List Cell} {kind:Int} (hl:l.length<4611686018427387904) (h:¬ Hn l kind):Uu l kind=some false:=by
 unfold Uu;rw [Ba];by_cases h1:1<=l.length
 ·by_cases h2:l.length<=64
  ·rw [Be,Al,Be,Al,se l hl,An];have h5:(kind=1\/kind=2)->(!(l.any λ c=>LR c kind))=false:=λ hk=>by
    rw [Bool.eq_false_iff];intro h6;exact h ⟨h1,h2,hk,(yr l kind).1 h6⟩
   by_cases k1:kind=1
   ·rw [Cs k1,Al,h5 (.inl k1)]
   ·rw [Fh k1,Ak];by_cases k2:kind=2
    ·rw [Cs k2,Al,h5 (.inr k2)]
    ·rw [Fh k2,Ak]
  ·rw [Be,Al,Bw,Ak]
 ·rw [Bw,Ak]
abbrev Jv (l:List Cell):List Int:=l.map λ c=>c.2.1
abbrev Ky (l:List Cell):List ByteArray:=l.map λ c=>c.2.2
theorem Zpw (l:List Cell) (hl:l.length<=65536) (kind code:Int):∀ (d i n:Nat),d=l.length-i->i<=l.length->d<n->
  Ee.l0 (Ee.t1 fu) n kind code (Jv (l.take i)) (Ky (l.take i)) l (l.length:Int) (i:Int)=(bif A9 kind 1 then Uc (Jv l) code else Uf (Ky l) code):=by
 intro d;induction d with
 | zero=>
  intro i n hd hi hn;have:i=l.length:=Ad
  subst this;obtain ⟨n,rfl⟩:=Aa n;show Ee.S0 Ee.S1 _ _ _ _ _ _ _ _=_;unfold Ee.S0;rw [Be,Al,AB];unfold Ee.S1;rw [Option.bind_fun_some,Option.bind_fun_some]
 | succ d ih=>
  intro i n hd hi hn;obtain ⟨n,rfl⟩:=Aa n;have AY:i<l.length:=Ad
  show Ee.S0 _ (Ee.l0 (Ee.t1 fu) n) _ _ _ _ _ _ _=_;unfold Ee.S0;rw [Bw,Ak,Bq,Ak,Cp (by rw [Av,Ar];omega),Ak,Cp (by rw [Av,Ar];omega),Ak,BE AY,Bk];have:=ih (i+1) n Ad Ad Ad;rw [take_one AY] at this;unfold Jv Ky at this;rw [AG,AG] at this;exact this
theorem Zls (l:List Cell) (hl:l.length<=65536) (kind code:Int):Ee l kind code=(bif A9 kind 1 then Uc (Jv l) code else Uf (Ky l) code):=
 Zpw l hl kind code l.length 0 fu Ad Ad Ae
def Fv (l:List Cell) (kind code:Int) (vb:List Int):List Int:=[kind,code,(l.length:Int),((C1 l).length:Int)]++(C1 l++vb)
theorem Uv (l:List Cell):(C1 l).length<=(l.length+7) / 8:=by
 unfold C1;split
 ·rw [I8,Ip,Nat.mul_one];exact Au _
 ·exact Nat.zero_le _
theorem uj (l:List Cell):∀ b∈C1 l,0<=b/\b<256:=λ b hb=>by
 unfold C1 at hb;split at hb
 ·exact Sv _ _ b hb
 ·cases hb
theorem aC {l:List Cell} (hl:l.length<=64) {kind code:Int} (hk:0<=kind/\kind<256) (hc:0<=code/\code<256) {vb:List Int} (hv:∀ b∈vb,0<=b/\b<256):∀ b∈Fv l kind code vb,0<=b/\b<256:=λ b hb=>by
 have hm:=Uv l;unfold Fv at hb;rcases List.mem_append.1 hb with hb | hb
 ·simp only [List.mem_cons,List.not_mem_nil,or_false] at hb;rcases hb with rfl | rfl | rfl | rfl <;> omega
 ·rcases List.mem_append.1 hb with hb | hb
  ·exact uj l b hb
  ·exact hv b hb
theorem sd {l:List Cell} {kind code:Int} (hm:Hn l kind) (hc:0<=code/\code<256) {vb:List Int} (qt:vb.length<=1000000) (TH:∀ b∈vb,0<=b/\b<256) (hv:Ee (Bv l) kind code=some (ofBytes vb,0)):
  M6 l kind code=some (ofBytes (Gy (Fv l kind code vb)),0):=by
 obtain ⟨h1,h2,h3,_⟩:=id hm;have NL:0<=kind/\kind<256:=by rcases h3 with rfl | rfl <;> omega
 have Lg:=Uv l;unfold M6;rw [yo hm,An,Bool.not_true,Al,rH l Ad Ad,An];dsimp only;rw [hv,An];dsimp only;have w8:∀ x:Int,0<=x/\x<256->IntKind.wrap .u8 x=x:=λ x hx=>by rw [KZ];omega
 rw [Cs rfl,Al,Ba,Cc,CE,w8 kind NL,w8 code hc,w8 _ Ad,w8 _ Ad];have r1:Dh (ofBytes [kind,code,(l.length:Int),((C1 l).length:Int)]) (ofBytes (C1 l))=true:=Aq (by rw [CE,CE];simp;omega);rw [r1,Ak,GV];have r2:Dh (ofBytes ([kind,code,(l.length:Int),((C1 l).length:Int)]++C1 l)) (ofBytes vb)=true:=Aq (by rw [CE,CE];simp;omega);rw [r2,Ak,GV,AA];show (FF (ofBytes (Fv l kind code vb))).bind _=_;rw [ga _ (by rw [CE];unfold Fv;simp;omega),An,Ko (aC h2 NL hc TH)]
theorem r7 {l:List Cell} {kind code:Int} (hl:l.length<4611686018427387904) (hm:¬ Hn l kind):M6 l kind code=some (eB,1):=by
 unfold M6;rw [Yt3 hl hm];rfl
theorem Zqt {l:List Cell} {kind code:Int} (hm:Hn l kind) (hc:0<=code/\code<256) {vb:List Int} (qt:vb.length<=1000000) (TH:∀ b∈vb,0<=b/\b<256) (hv:Ee (Bv l) kind code=some (ofBytes vb,0))
  (Xb:∀ s:ByteArray,Bu s=vb->∀ k:Int,CO s ((Bv l).length:Int) (kind,code,(l.length:Int),k)=some (Bv l,0)):
  OK (ofBytes (Gy (Fv l kind code vb)))=some (((kind,code,(l.length:Int),((l.length-(Bv l).length:Nat):Int)),ofBytes (C1 l),ofBytes vb,l),true):=by
 have pD:=sd hm hc qt TH hv;obtain ⟨h1,h2,h3,h4⟩:=hm;have NL:0<=kind/\kind<256:=by rcases h3 with rfl | rfl <;> omega
 have Lg:=Uv l;have Ps:=Jp l;have hz:∀ c∈l,Db c=true->c=(0,0,eB):=λ c hc hn=>by
  have Du:c.1=0:=Az (show decide (c.1=0)=true from hn);rcases jf (h4 c hc).1 with h | ⟨n,h⟩ | ⟨t,h,_⟩
  ·exact h
  ·rw [h] at Du;simp at Du
  ·rw [h] at Du;simp at Du
 have hT:=aC h2 NL hc TH;have LA:(Fv l kind code vb).length=4+((C1 l).length+vb.length):=by unfold Fv;simp;omega
 unfold OK;rw [Zht hT Ad,An];dsimp only;have BL:(ofBytes (Fv l kind code vb)).size=4+((C1 l).length+vb.length):=by rw [CE,LA]
 have JO:Bu (ofBytes (Fv l kind code vb))=Fv l kind code vb:=Ko hT;generalize ht:ofBytes (Fv l kind code vb)=t at BL JO;have b0:byteAt t 0=kind:=NZ JO (i:=0) rfl;have b1:byteAt t 1=code:=NZ JO (i:=1) rfl;have b2:byteAt t 2=(l.length:Int):=NZ JO (i:=2) rfl;have b3:byteAt t 3=((C1 l).length:Int):=NZ JO (i:=3) rfl;have YA:A7 .i64 4 ((C1 l).length:Int)=((4+(C1 l).length:Nat):Int):=by rw [Bk];omega
 have KN:(Fv l kind code vb).drop 4=C1 l++vb:=rfl;have X2:Bu (cutS t 4 ((4+(C1 l).length:Nat):Int))=C1 l:=by
  have:=gq t 4 (4+(C1 l).length);rw [show ((4:Nat):Int)=4 from rfl] at this;rw [this,JO,KN,Nat.add_sub_cancel_left,List.take_left]
 have db:Bu (cutS t ((4+(C1 l).length:Nat):Int) (t.size:Int))=vb:=by
  rw [gB,JO,<- List.drop_drop,KN,List.drop_left]
 have lz:cutS t 4 ((4+(C1 l).length:Nat):Int)=ofBytes (C1 l):=(LQ _).symm.trans (congrArg ofBytes X2);have lA:cutS t ((4+(C1 l).length:Nat):Int) (t.size:Int)=ofBytes vb:=(LQ _).symm.trans (congrArg ofBytes db)
 rw [Cs rfl,Al,Cc,Be,Al,Bq,Ak,b3,b2,b1,b0,FH (n:=((C1 l).length:Int)) Ad,FH (n:=(l.length:Int)) Ad,FH (n:=code) Ad,FH (n:=kind) Ad,CA,Be,Al,Ak,
  Bq Ad,Ak,Bq,Ak,Bq,Ak,YA,Dg Ad,Ak,Dg Ad,Ak,rI l Ad Ad X2,An]
 dsimp only;have J5:Bt .i64 (l.length:Int) ((l.length-(Bv l).length:Nat):Int)=((Bv l).length:Int):=by rw [CA];omega
 rw [Cs rfl,Al,J5,Xb _ db,An];dsimp only;rw [Cs rfl,Al,Zit l Ad Ad hz X2,An];dsimp only;rw [Cs rfl,Al,pD,An];dsimp only;rw [Ci rfl,Ak,Gp rfl,lz,lA]
theorem Zq3 (l:List Int) (hl:l.length<=65536) (h:Int×Int×Int×Int) (e:Int):∀ (d i n:Nat),d=l.length-i->i<=l.length->d<n->
  CO.l0 n ((l.take i).map λ x=>((h.1,x,eB):Cell)) e l (l.length:Int) (i:Int) h=some (l.map λ x=>((h.1,x,eB):Cell),e):=by
 intro d;induction d with
 | zero=>
  intro i n hd hi hn;have:i=l.length:=Ad
  subst this;obtain ⟨n,rfl⟩:=Aa n;show CO.S0 _ _ _ _ _ _ _=_;unfold CO.S0;rw [Be,Al,AB]
 | succ d ih=>
  intro i n hd hi hn;obtain ⟨n,rfl⟩:=Aa n;have AY:i<l.length:=Ad
  show CO.S0 (CO.l0 n) _ _ _ _ _ _=_;unfold CO.S0;rw [Bw,Ak,Bq,Ak,Cp (by rw [Av,Ar];omega),Ak,BE AY,Bk];have:=ih (i+1) n Ad Ad Ad;rw [take_one AY,AG] at this;exact this
theorem Zms {s:ByteArray} {l:List Int} (hl:l.length<=65536) {code k n:Int} (hs:PO s n code=some (l,0)) (m:Int):CO s n (1,code,m,k)=some (l.map λ x=>((1,x,eB):Cell),0):=by
 show CO.S (CO.l0 fu) _ s n _=_;unfold CO.S;dsimp only;rw [Ci rfl,Ak,hs,An];exact Zq3 l hl (1,code,m,k) 0 l.length 0 fu Ad Ad Ae
def CF (l:List Int):Nat:=((Ez l).getD 0).toNat
theorem GU (l:List Int) (hl:l.length<=65536):Ez l=some (CF l:Int)/\CF l<=64/\Wd l (CF l):=by
 obtain ⟨v,h1,h2,h3⟩:=Sf l Ad;have:CF l=v:=by unfold CF;rw [h1];rfl
 rw [this];exact ⟨h1,h2,h3⟩
def GA (l:List Int):List C2:=(FI l).getD []
theorem N7 (l:List Int) (hl:l.length<=65536):FI l=some (GA l)/\BQ (GA l)=l/\Df 0 none (GA l):=by
 obtain ⟨o,h1,h2,h3⟩:=Zgy l hl;have:GA l=o:=by unfold GA;rw [h1];rfl
 rw [this];exact ⟨h1,h2,h3⟩
def Lu (l:List Int) (code:Int):Option (List Int):=
 if code=1 then some (CR l 64)
 else if code=2 then some (Fi (GA l))
 else if code=3 then some (Ob l (CF (D6 l)))
 else if code=4 then some (K3 l (CF (Cm l)))
 else if code=5 then some ((CF l:Int) :: CR l (CF l))
 else none
theorem Zfs (l:List Int) (hl:l.length<=65536) (code:Int):Uc l code=some (match Lu l code with | some b=>(ofBytes b,0) | none=>(eB,1)):=by
 unfold Uc Lu;by_cases h1:code=1
 ·rw [Ci h1,Ak,if_pos h1,Zas l Ad];rfl
 ·rw [Ca h1,Al,if_neg h1];by_cases h2:code=2
  ·obtain ⟨k1,k2,k3⟩:=N7 l hl;rw [Ci h2,Ak,if_pos h2,k1,An,sx _ k3 (by rw [k2];exact hl)];rfl
  ·rw [Ca h2,Al,if_neg h2];by_cases h3:code=3
   ·have GD:=PS l;obtain ⟨k1,k2,_⟩:=GU (D6 l) Ad;rw [Ci h3,Ak,if_pos h3,ZC l hl k1 k2];rfl
   ·rw [Ca h3,Al,if_neg h3];by_cases h4:code=4
    ·have CT:=OI l;obtain ⟨k1,k2,_⟩:=GU (Cm l) Ad;rw [Ci h4,Ak,if_pos h4,Zjs l hl k1 k2];rfl
    ·rw [Ca h4,Al,if_neg h4];by_cases h5:code=5
     ·obtain ⟨k1,k2,_⟩:=GU l hl;have hb:l.length*CF l<=65536*64:=Nat.mul_le_mul hl k2;have CT:=I8 l (CF l);have r1:Dh (ofBytes [(CF l:Int)]) (ofBytes (CR l (CF l)))=true:=Aq (by rw [CE,CE];simp;omega);rw [Ci h5,Ak,if_pos h5,k1,An,Wk l k2 hl k1 (Au _),An,aS k2];dsimp only;rw [r1,Ak,GV];rfl
     ·rw [Ca h5,Al,if_neg h5]
theorem vY {l:List Int} (hl:l.length<=65536) {code:Int} {b:List Int} (h:Lu l code=some b):(∀ x∈b,0<=x/\x<256)/\b.length<=20*l.length+8*l.length+40:=by
 unfold Lu at h;have pw:∀ (m:List Int) (w:Nat),w<=64->(CR m w).length<=8*m.length:=λ m w hw=>by
  rw [I8];have:m.length*w<=m.length*64:=Nat.mul_le_mul_left _ hw;omega
 split at h
 ·cases h;exact ⟨Sv _ _,by have:=pw l 64 Ad;omega⟩
 ·split at h
  ·cases h;obtain ⟨_,k2,k3⟩:=N7 l hl;have h1:=OQ (GA l);have h2:=Jq _ _ _ k3;rw [k2] at h2;exact ⟨aB _,Ad⟩
  ·split at h
   ·cases h;have GD:=PS l;obtain ⟨_,k2,_⟩:=GU (D6 l) Ad;refine ⟨Zey l k2,?_⟩;have h1:=Fs (l.getD 0 0);have h2:=Fs (Fk (Da l));have h3:=pw (D6 l) _ k2;unfold Ob;split
    ·simp
    ·split
     ·omega
     ·rw [Ap,Ap,Aw];omega
   ·split at h
    ·cases h;have CT:=OI l;have Ej:=ON l;obtain ⟨_,k2,_⟩:=GU (Cm l) Ad;have h1:=Fs ((B4 l).length:Int);have h2:=Rb (B4 l);have h3:=pw (Cm l) _ k2;unfold K3;split
     ·exact ⟨λ x hx=>(by cases hx),by simp⟩
     ·refine ⟨λ x hx=>?_,by rw [Ap,Ap];omega⟩;rcases List.mem_append.1 hx with hx | hx
      ·exact Nj _ x hx
      ·rcases List.mem_append.1 hx with hx | hx
       ·exact iq _ x hx
       ·exact Sv _ _ x hx
    ·split at h
     ·cases h;obtain ⟨_,k2,_⟩:=GU l hl;have h3:=pw l _ k2;refine ⟨λ x hx=>?_,by rw [Aw];omega⟩;rcases List.mem_cons.1 hx with rfl | hx
      ·omega
      ·exact Sv _ _ x hx
     ·cases h
theorem UA {o:List C2} {n:Nat} {p:Option Int} (h:Df n p o):∀ r∈o,r.1∈BQ o:=by
 induction o generalizing n p with
 | nil=>intro r hr;cases hr
 | cons a o ih=>
  intro r hr;obtain ⟨_,h1,_,h2⟩:=h;rw [PU];rcases List.mem_cons.1 hr with rfl | hr
  ·exact List.mem_append_left _ (List.mem_replicate.2 ⟨Ad,rfl⟩)
  ·exact List.mem_append_right _ (ih h2 r hr)
theorem rT {l:List Int} (hl:l.length<=65536) (BH:∀ x∈l,BN x) {code:Int} {b:List Int} (h:Lu l code=some b) {s:ByteArray} (hs:Bu s=b):PO s (l.length:Int) code=some (l,0):=by
 unfold Lu at h;unfold PO;by_cases h1:code=1
 ·rw [if_pos h1] at h;cases h;rw [Ci h1,Ak,Zjy hl BH hs];rfl
 ·rw [if_neg h1] at h;rw [Ca h1,Al];by_cases h2:code=2
  ·rw [if_pos h2] at h;cases h;obtain ⟨_,k2,k3⟩:=N7 l hl;have:=Zy (GA l) k3 (by rw [k2];exact hl) (λ r hr=>BH _ (by rw [<- k2];exact UA k3 r hr)) hs;rw [k2] at this;rw [Ci h2,Ak,this,An];dsimp only;rw [Cs rfl,Al,Wg _ k3 (by rw [k2];exact hl),k2];rfl
  ·rw [if_neg h2] at h;rw [Ca h2,Al];by_cases h3:code=3
   ·rw [if_pos h3] at h;cases h;have GD:=PS l;obtain ⟨k1,k2,k3⟩:=GU (D6 l) Ad;rw [Ci h3,Ak,Zft l hl BH k1 k2 k3 hs];rfl
   ·rw [if_neg h3] at h;rw [Ca h3,Al];by_cases h4:code=4
    ·rw [if_pos h4] at h;cases h;have CT:=OI l;obtain ⟨k1,k2,k3⟩:=GU (Cm l) Ad;rw [Ci h4,Ak,rA l hl BH k2 k3 hs];rfl
    ·rw [if_neg h4] at h;rw [Ca h4,Al];by_cases h5:code=5
     ·rw [if_pos h5] at h;cases h;obtain ⟨k1,k2,k3⟩:=GU l hl;have Cg:s≠eB:=λ he=>by
       have:=Gx.1 he;rw [<- C6,hs,Aw] at this;omega
      have BL:s.size=(CR l (CF l)).length+1:=by rw [<- C6,hs,Aw]
      have hcut:Bu (cutS s 1 (Bg s))=CR l (CF l):=JX (a:=[(CF l:Int)]) (rest:=CR l (CF l)) hs;have NI:byteAt s 0=(CF l:Int):=NZ hs (i:=0) rfl;rw [Ci h5,Ak,K6 Cg,Bool.not_false,Ak,Dg (by rw [Cc];omega),Ak,Bq (by rw [Cc];omega),Ak,NI,FH,Sx k2 hl BH k3.1 hcut];rfl
     ·rw [if_neg h5] at h;cases h
end Go.AM.Pure
end

section
/- BlockSame. -/
namespace Go.AM.Pure
open Go.AM
theorem rY {s:ByteArray} {h:Int×Int×Int×Int} {m b:ByteArray} {l:List Cell} (hr:OK s=some ((h,m,b,l),true)):I7 s=some (l,0)/\LS s=some (h,0)/\Ul s=some (b,m,0):=by
 refine ⟨?_,?_,?_⟩
 ·unfold I7;rw [hr];rfl
 ·unfold LS;rw [hr];rfl
 ·unfold Ul;rw [hr];rfl
end Go.AM.Pure
end
