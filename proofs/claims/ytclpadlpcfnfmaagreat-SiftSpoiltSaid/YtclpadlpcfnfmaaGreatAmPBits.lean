import Derived.Test.YtclpadlpcfnfmaaGreatAmPure06
import Derived.Test.YtclpadlpcfnfmaaGreatAmPLib
/- Words as bits: layer 01's reference. -/
namespace Go.AM.Pure
open Go.AM
def bit (w:Int) (k:Nat):Bool:=(w / 2 ^ k) % 2 == 1
def bitsOf (w:Int):List Bool:=(List.range 64).map (bit w)
def numOf:List Bool->Int
 | []=>0
 | b :: l=>(if b then 1 else 0)+2*numOf l
theorem E6 (n:Int):IntKind.wrap .u64 n=n % 18446744073709551616:=by
 unfold IntKind.wrap;show (if (false && decide (n % (18446744073709551616:Int) >= 9223372036854775808))=true then n % (18446744073709551616:Int)-18446744073709551616 else n % (18446744073709551616:Int))=_;simp
theorem KW (n:Int):IntKind.wrap .i64 n=if n % 18446744073709551616 >= 9223372036854775808 then n % 18446744073709551616-18446744073709551616 else n % 18446744073709551616:=by
 unfold IntKind.wrap;show (if (true && decide (n % (18446744073709551616:Int) >= 9223372036854775808))=true then n % (18446744073709551616:Int)-18446744073709551616 else n % (18446744073709551616:Int))=_;simp
theorem KZ (n:Int):IntKind.wrap .u8 n=n % 256:=by
 unfold IntKind.wrap;show (if (false && decide (n % (256:Int) >= 128))=true then n % (256:Int)-256 else n % (256:Int))=_;simp
theorem N4 (w:Int) (k:Nat) (hk:k<=64):B7 .i64 w (k:Int)=w / 2 ^ k:=by
 unfold B7;have:min (k:Int).toNat (IntKind.bits .i64)=k:=by show min k 64=k;omega
 rw [this,Int.fdiv_eq_ediv_of_nonneg];exact Int.pow_nonneg Ad
theorem pz (a:Int):Cb .i64 a 1=a % 2:=by
 unfold Cb;show IntKind.wrap .i64 ((BitVec.ofInt 64 a &&& BitVec.ofInt 64 1).toNat:Int)=_;have h:(BitVec.ofInt 64 a &&& BitVec.ofInt 64 1).toNat=(a % 2).toNat:=by
  rw [BitVec.toNat_and,show (BitVec.ofInt 64 1).toNat=1 from rfl,Nat.and_one_is_mod,BitVec.toNat_ofInt];omega
 rw [h,KW];have:=Int.emod_nonneg a (show (2:Int)≠0 by omega);have:=Int.emod_lt_of_pos a (show (0:Int)<2 by omega);omega
theorem oa (w:Int) (k:Nat) (hk:k<=64):A9 (Cb .i64 (B7 .i64 w (k:Int)) 1) 1=bit w k:=by
 rw [N4 w k hk,pz,RE];unfold bit;by_cases h:w / 2 ^ k % 2=1 <;> simp [h]
theorem PR (w:Int):(bitsOf w).length=64:=by unfold bitsOf;simp
theorem s5 (w:Int) {k:Nat} (hk:k<64):(bitsOf w)[k]? = some (bit w k):=by
 unfold bitsOf;simp [hk]
theorem UC {α:Type} (l:List α) (z:α) (n k:Nat) (hl:l.length=n) (hk:k<n) (x:α) (hx:l[k]? = some x):
  (l.take k++List.replicate (n-k) z).set k x=l.take (k+1)++List.replicate (n-(k+1)) z:=by
 have Mm:k<l.length:=Ad
 rw [List.set_append_right _ _ (by rw [Ar];omega),Ar,Nat.min_eq_left Ad,Nat.sub_self,
  show n-k=(n-(k+1))+1 by omega,List.replicate_succ,List.set_cons_zero,List.take_succ_eq_append_getElem Mm,AA]
 have:l[k]=x:=by rw [AD Mm] at hx;exact Option.some.inj hx
 rw [this];rfl
theorem Yvv (w:Int) (t2:List Bool) (ht:t2.length=64):∀ (d k n:Nat),d=64-k->k<=64->d<n->
  GR.l0 n w (k:Int) t2 ((bitsOf w).take k++List.replicate (64-k) false)=some (bitsOf w):=by
 have hlen:=PR w;intro d;induction d with
 | zero=>
  intro k n hd hk hn;obtain ⟨m,rfl⟩:∃ m,n=m+1:=⟨n-1,Ad⟩;show GR.S0 (GR.l0 m) w (k:Int) t2 _=_;unfold GR.S0;have De:k=64:=Ad
  subst De;rw [show A8 ((64:Nat):Int) 64=false from rfl,AL Ad,Nat.sub_self,List.replicate_zero,AE];simp only [Al,hlen,ht,decide_true,Ak]
 | succ d ih=>
  intro k n hd hk hn;obtain ⟨m,rfl⟩:∃ m,n=m+1:=⟨n-1,Ad⟩;show GR.S0 (GR.l0 m) w (k:Int) t2 _=_;unfold GR.S0;have h1:A8 (k:Int) 64=true:=Aq Ad;have h2:BC 0 (k:Int)=true:=Aq Ad;have h3:Bf (k:Int) 64=true:=by rw [KB];exact Aq Ad
  have h4:((bitsOf w).take k++List.replicate (64-k) false).length=64:=Ai
  have hs:=ih (k+1) m Ad Ad Ad;rw [show ((k+1:Nat):Int)=(k:Int)+1 from rfl] at hs
  rw [h1,h2,h3,h4,Iz Ad Ad,oa w k Ad,show (k:Int).toNat=k from rfl,
   UC (bitsOf w) false 64 k hlen Ad (bit w k) (s5 w Ad)]
  exact hs
theorem Ug (w:Int):GR w=some (bitsOf w):=
 Yvv w (List.replicate 64 false) Ah (64-0) 0 fu rfl Ad Ae
theorem Lj:∀ l:List Bool,0<=numOf l/\numOf l<2 ^ l.length
 | []=>by simp [numOf]
 | b :: l=>by
  have:=Lj l;unfold numOf;rw [Aw,Int.pow_succ];cases b <;> simp <;> omega
theorem Wq:∀ (l:List Bool) (b:Bool),numOf (l++[b])=numOf l+(if b then 2 ^ l.length else 0)
 | [],b=>by cases b <;> rfl
 | a :: l,b=>by
  rw [List.cons_append];unfold numOf;rw [Wq l b,Aw,Int.pow_succ];cases b <;> simp <;> omega
theorem Zzx (x:Int):BitVec.ofInt 64 (IntKind.wrap .i64 x)=BitVec.ofInt 64 x:=by
 apply BitVec.eq_of_toNat_eq;rw [BitVec.toNat_ofInt,BitVec.toNat_ofInt,KW];congr 1;split <;> omega
theorem xZ {n:Int} {k:Nat} (hk:k<64) (h0:0<=n) (h1:n<2 ^ k):Fa .i64 n (EN .i64 1 (k:Int))=IntKind.wrap .i64 (n+2 ^ k):=by
 obtain ⟨m,rfl⟩:∃ m:Nat,n=m:=⟨n.toNat,Ad⟩;have hm:m<2 ^ k:=by exact_mod_cast h1
 have LB:(2:Nat) ^ k<2 ^ 64:=Nat.pow_lt_pow_right Ad hk;unfold Fa EN;have h2:min ((k:Int)).toNat (IntKind.bits .i64)=k:=by show min k 64=k;omega
 rw [h2];show IntKind.wrap .i64 ((BitVec.ofInt 64 (m:Int) ||| BitVec.ofInt 64 (IntKind.wrap .i64 (1*2 ^ k))).toNat:Int)=_;rw [Zzx,BitVec.toNat_or,BitVec.toNat_ofInt,BitVec.toNat_ofInt,Int.one_mul];have e1:((m:Int) % ((2 ^ 64:Nat):Int)).toNat=m:=Ad
 have e2:(((2:Int) ^ k) % ((2 ^ 64:Nat):Int)).toNat=2 ^ k:=by
  have:((2:Int) ^ k)=((2 ^ k:Nat):Int):=by push_cast;rfl
  rw [this];omega
 rw [e1,e2];have h3:=Nat.two_pow_add_eq_or_of_lt hm 1;rw [Nat.mul_one] at h3;rw [Nat.or_comm,<- h3];congr 1;push_cast;omega
theorem Zy1 (l:List Bool) (hl:l.length=64):∀ (d k n:Nat),d=64-k->k<=64->d<n->
  EY.l0 n (IntKind.wrap .i64 (numOf (l.take k))) (k:Int) l=some (IntKind.wrap .i64 (numOf l)):=by
 intro d;induction d with
 | zero=>
  intro k n hd hk hn;obtain ⟨m,rfl⟩:∃ m,n=m+1:=⟨n-1,Ad⟩;show EY.S0 (EY.l0 m) _ (k:Int) l=_;unfold EY.S0;have De:k=64:=Ad
  subst De;rw [show A8 ((64:Nat):Int) 64=false from rfl,AL Ad];rfl
 | succ d ih=>
  intro k n hd hk hn;obtain ⟨m,rfl⟩:∃ m,n=m+1:=⟨n-1,Ad⟩;show EY.S0 (EY.l0 m) _ (k:Int) l=_;unfold EY.S0;have h1:A8 (k:Int) 64=true:=Aq Ad;have h2:BC 0 (k:Int)=true:=Aq Ad;have h3:Bf (k:Int) 64=true:=by rw [KB];exact Aq Ad
  have hs:=ih (k+1) m Ad Ad Ad;rw [show ((k+1:Nat):Int)=(k:Int)+1 from rfl,List.take_succ_eq_append_getElem (show k<l.length by omega),Wq] at hs;have hb:=Lj (l.take k);have LA:(l.take k).length=k:=by rw [Ar];omega
  rw [LA] at hb hs;have hp:(2:Int) ^ k<=2 ^ 63:=by exact_mod_cast Nat.pow_le_pow_right (n:=2) Ad (show k<=63 by omega)
  have hw:IntKind.wrap .i64 (numOf (l.take k))=numOf (l.take k):=IL Ad Ad;rw [hw];rw [h1,h2,h3,hl,Iz Ad Ad,show (k:Int).toNat=k from rfl,AK,AD (show k<l.length by omega),Option.getD_some,xZ Ad hb.1 hb.2];cases KG:l[k] with
  | true=>rw [KG] at hs;simpa using hs
  | false=>rw [KG] at hs;simp only [Bool.false_eq_true,if_false,Int.add_zero] at hs;rw [hw] at hs;simpa using hs
theorem Zct (l:List Bool) (hl:l.length=64):EY l=some (IntKind.wrap .i64 (numOf l)):=
 Zy1 l hl (64-0) 0 fu rfl Ad Ae
theorem Fe (n:Nat):(0:Int)<2 ^ n:=Int.pow_pos Ad
theorem mod_pow_succ (w:Int) (n:Nat):w % 2 ^ (n+1)=w % 2 ^ n+(if bit w n then 2 ^ n else 0):=by
  have hp:=Fe n;have h1:=Int.emod_add_mul_ediv w (2 ^ n);have h2:=Int.emod_nonneg w (Int.ne_of_gt hp);have h3:=Int.emod_lt_of_pos w hp;have h4:=Int.emod_add_mul_ediv (w / 2 ^ n) 2;have h5:=Int.emod_two_eq (w / 2 ^ n);have hb:bit w n=decide (w / 2 ^ n % 2=1):=by
    unfold bit;rcases h5 with h | h <;> simp [h]
  rw [hb];have key:(w % 2 ^ n+2 ^ n*(w / 2 ^ n % 2))+2 ^ (n+1)*(w / 2 ^ n / 2)=w:=by
    rw [Int.pow_succ]
    calc (w % 2 ^ n+2 ^ n*(w / 2 ^ n % 2))+2 ^ n*2*(w / 2 ^ n / 2)=w % 2 ^ n+2 ^ n*(w / 2 ^ n % 2+2*(w / 2 ^ n / 2)):=by
          rw [Int.mul_add,<- Int.mul_assoc];omega
      _=w % 2 ^ n+2 ^ n*(w / 2 ^ n):=by rw [h4]
      _=w:=h1
  have AY:w % 2 ^ n+2 ^ n*(w / 2 ^ n % 2)<2 ^ (n+1):=by
    rw [Int.pow_succ];rcases h5 with h | h <;> rw [h] <;> omega
  have Kf:0<=w % 2 ^ n+2 ^ n*(w / 2 ^ n % 2):=by
    rcases h5 with h | h <;> rw [h] <;> omega
  have:=(Int.ediv_emod_unique (a:=w) (Fe (n+1)) (r:=w % 2 ^ n+2 ^ n*(w / 2 ^ n % 2)) (q:=w / 2 ^ n / 2)).2 ⟨key,Kf,AY⟩;rw [this.2];rcases h5 with h | h <;> rw [h] <;> simp
theorem Uh (w:Int):∀ n:Nat,numOf ((List.range n).map (bit w))=w % 2 ^ n
 | 0=>by simp [numOf,Int.emod_one]
 | n+1=>by
  rw [List.range_succ,AG,List.map_singleton,Wq,Uh w n,Av,List.length_range,mod_pow_succ]
theorem gK (w:Int):numOf (bitsOf w)=w % 18446744073709551616:=Uh w 64
theorem P0 (n:Int):IntKind.wrap .i64 (n % 18446744073709551616)=IntKind.wrap .i64 n:=by
 rw [KW,KW];have:n % 18446744073709551616 % 18446744073709551616=n % 18446744073709551616:=Ad
 rw [this]
theorem Zx1 (w:Int):IntKind.wrap .i64 (numOf (bitsOf w))=IntKind.wrap .i64 w:=by
 rw [gK,P0]
theorem Nn:(18446744073709551616:Int)=2 ^ 64:=rfl
theorem WV {a b:Nat} (h:a<=b):(2:Int) ^ a ∣ 2 ^ b:=⟨2 ^ (b-a),by rw [<- Int.pow_add];congr 1;omega⟩
theorem Nd (w:Int) {k:Nat} (hk:k<64):bit (w % 18446744073709551616) k=bit w k:=by
 have e1:=mod_pow_succ w k;have e2:=mod_pow_succ (w % 18446744073709551616) k;have hp:=Fe k;rw [Nn,Int.emod_emod_of_dvd w (WV (show k+1<=64 by omega)),Int.emod_emod_of_dvd w (WV (show k<=64 by omega)),<- Nn,e1] at e2;revert e2;cases bit (w % 18446744073709551616) k <;> cases bit w k <;> intro e2
 ·rfl
 ·simp only [if_true,Bool.false_eq_true,if_false] at e2;omega
 ·simp only [if_true,Bool.false_eq_true,if_false] at e2;omega
 ·rfl
theorem P4 (w:Int) {k:Nat} (hk:k<64):bit (IntKind.wrap .i64 w) k=bit w k:=by
 have:IntKind.wrap .i64 w % 18446744073709551616=w % 18446744073709551616:=by rw [KW];split <;> omega
 rw [<- Nd _ hk,this,Nd _ hk]
theorem JW (w:Int) {k:Nat} (hk:k<64):bit (IntKind.wrap .u64 w) k=bit w k:=by
 rw [E6,Nd _ hk]
theorem MF (m k:Nat):bit (m:Int) k=m.testBit k:=by
 unfold bit;rw [Nat.testBit_eq_decide_div_mod_eq];have h1:(m:Int) / 2 ^ k % 2=((m / 2 ^ k % 2:Nat):Int):=by push_cast;rfl
 rw [h1];rcases Nat.mod_two_eq_zero_or_one (m / 2 ^ k) with h | h <;> rw [h] <;> rfl
theorem Q7 (w:Int):((BitVec.ofInt 64 w).toNat:Int)=w % 18446744073709551616:=by
 rw [BitVec.toNat_ofInt];show (((w % (18446744073709551616:Int)).toNat:Nat):Int)=_;omega
theorem Nc (w:Int) {k:Nat} (hk:k<64):(BitVec.ofInt 64 w).toNat.testBit k=bit w k:=by
 rw [<- MF,Q7,Nd _ hk]
theorem vP (a b:Int) {k:Nat} (hk:k<64):bit (Gd .u64 a b) k=(bit a k ^^ bit b k):=by
 unfold Gd;show bit (IntKind.wrap .u64 ((BitVec.ofInt 64 a ^^^ BitVec.ofInt 64 b).toNat:Int)) k=_;rw [JW _ hk,MF,BitVec.toNat_xor,Nat.testBit_xor,Nc _ hk,Nc _ hk]
theorem jD (a b:Int) {k:Nat} (hk:k<64):bit (Fa .u64 a b) k=(bit a k || bit b k):=by
 unfold Fa;show bit (IntKind.wrap .u64 ((BitVec.ofInt 64 a ||| BitVec.ofInt 64 b).toNat:Int)) k=_;rw [JW _ hk,MF,BitVec.toNat_or,Nat.testBit_or,Nc _ hk,Nc _ hk]
theorem Yed (a b:Int) {k:Nat} (hk:k<64):bit (Cb .u64 a b) k=(bit a k && bit b k):=by
 unfold Cb;show bit (IntKind.wrap .u64 ((BitVec.ofInt 64 a &&& BitVec.ofInt 64 b).toNat:Int)) k=_;rw [JW _ hk,MF,BitVec.toNat_and,Nat.testBit_and,Nc _ hk,Nc _ hk]
theorem WS (w:Int) (j k:Nat):bit (w*2 ^ j) k=(decide (j<=k) && bit w (k-j)):=by
 unfold bit;have hp:=Fe j;by_cases h:j<=k
 ·have e:(2:Int) ^ k=2 ^ j*2 ^ (k-j):=by rw [<- Int.pow_add];congr 1;omega
  rw [e,<- Int.ediv_ediv_of_nonneg (Int.le_of_lt hp),Int.mul_ediv_cancel _ (Int.ne_of_gt hp),Aq h,AH]
 ·have e:(2:Int) ^ j=2*2 ^ (j-k-1)*2 ^ k:=by rw [<- Int.pow_succ',<- Int.pow_add];congr 1;omega
  rw [e,<- Int.mul_assoc,Int.mul_ediv_cancel _ (Int.ne_of_gt (Fe k)),Ax h,Bool.false_and];have:w*(2*2 ^ (j-k-1)) % 2=0:=by rw [show w*(2*2 ^ (j-k-1))=2*(w*2 ^ (j-k-1)) by rw [Int.mul_left_comm]];omega
  rw [this];rfl
theorem Ri (w:Int) (j k:Nat):bit (w / 2 ^ j) k=bit w (j+k):=by
 unfold bit;rw [Int.ediv_ediv_of_nonneg (Int.le_of_lt (Fe j)),<- Int.pow_add]
end Go.AM.Pure
