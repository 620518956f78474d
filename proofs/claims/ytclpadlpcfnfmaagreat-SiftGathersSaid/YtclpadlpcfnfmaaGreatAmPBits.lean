import Derived.Test.YtclpadlpcfnfmaaGreatAmPure06
import Derived.Test.YtclpadlpcfnfmaaGreatAmPLib
/- Words as bits: layer 01's reference. -/
namespace Go.AM.Pure
open Go.AM
def bit (w:Int) (k:Nat):Bool:=(w / 2 ^ k) % 2 == 1
def bitsOf (w:Int):List Bool:=(List.range 64).map (bit w)
def numOf:List Bool→Int
 | []=>0
 | b :: l=>(if b then 1 else 0)+2*numOf l
theorem Dj (n:Int):IntKind.wrap .u64 n=n % 18446744073709551616:=by
 unfold IntKind.wrap
 show (if (false && decide (n % (18446744073709551616:Int) ≥ 9223372036854775808))=true then n % (18446744073709551616:Int)-18446744073709551616 else n % (18446744073709551616:Int))=_
 simp
theorem Gi (n:Int):IntKind.wrap .i64 n=if n % 18446744073709551616 ≥ 9223372036854775808 then n % 18446744073709551616-18446744073709551616 else n % 18446744073709551616:=by
 unfold IntKind.wrap
 show (if (true && decide (n % (18446744073709551616:Int) ≥ 9223372036854775808))=true then n % (18446744073709551616:Int)-18446744073709551616 else n % (18446744073709551616:Int))=_
 simp
theorem GF (n:Int):IntKind.wrap .u8 n=n % 256:=by
 unfold IntKind.wrap
 show (if (false && decide (n % (256:Int) ≥ 128))=true then n % (256:Int)-256 else n % (256:Int))=_
 simp
theorem Hk (w:Int) (k:Nat) (hk:k≤64):BG .i64 w (k:Int)=w / 2 ^ k:=by
 unfold BG
 have:min (k:Int).toNat (IntKind.bits .i64)=k:=by show min k 64=k;omega
 rw [this,Int.fdiv_eq_ediv_of_nonneg]
 exact Int.pow_nonneg (by omega)
theorem Zce (a:Int):BF .i64 a 1=a % 2:=by
 unfold BF
 show IntKind.wrap .i64 ((BitVec.ofInt 64 a &&& BitVec.ofInt 64 1).toNat:Int)=_
 have h:(BitVec.ofInt 64 a &&& BitVec.ofInt 64 1).toNat=(a % 2).toNat:=by
  rw [BitVec.toNat_and,show (BitVec.ofInt 64 1).toNat=1 from rfl,Nat.and_one_is_mod,BitVec.toNat_ofInt]
  omega
 rw [h,Gi]
 have:=Int.emod_nonneg a (show (2:Int)≠0 by omega)
 have:=Int.emod_lt_of_pos a (show (0:Int)<2 by omega)
 omega
theorem Zju (w:Int) (k:Nat) (hk:k≤64):eqI (BF .i64 (BG .i64 w (k:Int)) 1) 1=bit w k:=by
 rw [Hk w k hk,Zce,cC]
 unfold bit
 by_cases h:w / 2 ^ k % 2=1 <;> simp [h]
theorem GN (w:Int):(bitsOf w).length=64:=by unfold bitsOf;simp
theorem Wt (w:Int) {k:Nat} (hk:k<64):(bitsOf w)[k]? = some (bit w k):=by
 unfold bitsOf;simp [hk]
theorem Mt {α:Type} (l:List α) (z:α) (n k:Nat) (hl:l.length=n) (hk:k<n) (x:α) (hx:l[k]? = some x):
  (l.take k++List.replicate (n-k) z).set k x=l.take (k+1)++List.replicate (n-(k+1)) z:=by
 have hkl:k<l.length:=by omega
 rw [List.set_append_right _ _ (by rw [List.length_take];omega),List.length_take,Nat.min_eq_left (by omega),Nat.sub_self,
  show n-k=(n-(k+1))+1 by omega,List.replicate_succ,List.set_cons_zero,List.take_succ_eq_append_getElem hkl,List.append_assoc]
 have:l[k]=x:=by rw [List.getElem?_eq_getElem hkl] at hx;exact Option.some.inj hx
 rw [this];rfl
theorem pO {a b:Nat} (h:a<b):ltI (a:Int) (b:Int)=true:=decide_eq_true (by omega)
theorem pP {a b:Nat} (h:b≤a):ltI (a:Int) (b:Int)=false:=decide_eq_false (by omega)
theorem Zyw (w:Int) (t2:List Bool) (ht:t2.length=64):∀ (d k n:Nat),d=64-k→k≤64→d<n→
  DI.l0 n w (k:Int) t2 ((bitsOf w).take k++List.replicate (64-k) false)=some (bitsOf w):=by
 have hlen:=GN w
 intro d
 induction d with
 | zero=>
  intro k n hd hk hn
  obtain ⟨m,rfl⟩:∃ m,n=m+1:=⟨n-1,by omega⟩
  show DI.S0 (DI.l0 m) w (k:Int) t2 _=_
  unfold DI.S0
  have hk':k=64:=by omega
  subst hk'
  rw [show ltI ((64:Nat):Int) 64=false from rfl,List.take_of_length_le (by omega),Nat.sub_self,List.replicate_zero,List.append_nil]
  simp only [cond_false,hlen,ht,decide_true,cond_true]
 | succ d ih=>
  intro k n hd hk hn
  obtain ⟨m,rfl⟩:∃ m,n=m+1:=⟨n-1,by omega⟩
  show DI.S0 (DI.l0 m) w (k:Int) t2 _=_
  unfold DI.S0
  have h1:ltI (k:Int) 64=true:=decide_eq_true (by omega)
  have h2:leI 0 (k:Int)=true:=decide_eq_true (by omega)
  have h3:inB (k:Int) 64=true:=by rw [Iw];exact decide_eq_true (by omega)
  have h4:((bitsOf w).take k++List.replicate (64-k) false).length=64:=by simp;omega
  have hs:=ih (k+1) m (by omega) (by omega) (by omega)
  rw [show ((k+1:Nat):Int)=(k:Int)+1 from rfl] at hs
  rw [h1,h2,h3,h4,Fp (by omega) (by omega),Zju w k (by omega),show (k:Int).toNat=k from rfl,
   Mt (bitsOf w) false 64 k hlen (by omega) (bit w k) (Wt w (by omega))]
  exact hs
theorem Jm (w:Int):DI w=some (bitsOf w):=
 Zyw w (List.replicate 64 false) (by simp) (64-0) 0 fu rfl (by omega) (by unfold fu;omega)
theorem EP:∀ l:List Bool,0≤numOf l∧numOf l<2 ^ l.length
 | []=>by simp [numOf]
 | b :: l=>by
  have:=EP l
  unfold numOf
  rw [List.length_cons,Int.pow_succ]
  cases b <;> simp <;> omega
theorem Oa:∀ (l:List Bool) (b:Bool),numOf (l++[b])=numOf l+(if b then 2 ^ l.length else 0)
 | [],b=>by cases b <;> rfl
 | a :: l,b=>by
  rw [List.cons_append]
  unfold numOf
  rw [Oa l b,List.length_cons,Int.pow_succ]
  cases b <;> simp <;> omega
theorem pQ (x:Int):BitVec.ofInt 64 (IntKind.wrap .i64 x)=BitVec.ofInt 64 x:=by
 apply BitVec.eq_of_toNat_eq
 rw [BitVec.toNat_ofInt,BitVec.toNat_ofInt,Gi]
 congr 1
 split <;> omega
theorem Zzw {n:Int} {k:Nat} (hk:k<64) (h0:0≤n) (h1:n<2 ^ k):orI .i64 n (Fc .i64 1 (k:Int))=IntKind.wrap .i64 (n+2 ^ k):=by
 obtain ⟨m,rfl⟩:∃ m:Nat,n=m:=⟨n.toNat,by omega⟩
 have hm:m<2 ^ k:=by exact_mod_cast h1
 have hk2:(2:Nat) ^ k<2 ^ 64:=Nat.pow_lt_pow_right (by omega) hk
 unfold orI Fc
 have h2:min ((k:Int)).toNat (IntKind.bits .i64)=k:=by show min k 64=k;omega
 rw [h2]
 show IntKind.wrap .i64 ((BitVec.ofInt 64 (m:Int) ||| BitVec.ofInt 64 (IntKind.wrap .i64 (1*2 ^ k))).toNat:Int)=_
 rw [pQ,BitVec.toNat_or,BitVec.toNat_ofInt,BitVec.toNat_ofInt,Int.one_mul]
 have e1:((m:Int) % ((2 ^ 64:Nat):Int)).toNat=m:=by omega
 have e2:(((2:Int) ^ k) % ((2 ^ 64:Nat):Int)).toNat=2 ^ k:=by
  have:((2:Int) ^ k)=((2 ^ k:Nat):Int):=by push_cast;rfl
  rw [this]
  omega
 rw [e1,e2]
 have h3:=Nat.two_pow_add_eq_or_of_lt hm 1
 rw [Nat.mul_one] at h3
 rw [Nat.or_comm,← h3]
 congr 1
 push_cast
 omega
theorem tw (l:List Bool) (hl:l.length=64):∀ (d k n:Nat),d=64-k→k≤64→d<n→
  BU.l0 n (IntKind.wrap .i64 (numOf (l.take k))) (k:Int) l=some (IntKind.wrap .i64 (numOf l)):=by
 intro d
 induction d with
 | zero=>
  intro k n hd hk hn
  obtain ⟨m,rfl⟩:∃ m,n=m+1:=⟨n-1,by omega⟩
  show BU.S0 (BU.l0 m) _ (k:Int) l=_
  unfold BU.S0
  have hk':k=64:=by omega
  subst hk'
  rw [show ltI ((64:Nat):Int) 64=false from rfl,List.take_of_length_le (by omega)]
  rfl
 | succ d ih=>
  intro k n hd hk hn
  obtain ⟨m,rfl⟩:∃ m,n=m+1:=⟨n-1,by omega⟩
  show BU.S0 (BU.l0 m) _ (k:Int) l=_
  unfold BU.S0
  have h1:ltI (k:Int) 64=true:=decide_eq_true (by omega)
  have h2:leI 0 (k:Int)=true:=decide_eq_true (by omega)
  have h3:inB (k:Int) 64=true:=by rw [Iw];exact decide_eq_true (by omega)
  have hs:=ih (k+1) m (by omega) (by omega) (by omega)
  rw [show ((k+1:Nat):Int)=(k:Int)+1 from rfl,List.take_succ_eq_append_getElem (show k<l.length by omega),Oa] at hs
  have hb:=EP (l.take k)
  have htl:(l.take k).length=k:=by rw [List.length_take];omega
  rw [htl] at hb hs
  have hp:(2:Int) ^ k≤2 ^ 63:=by exact_mod_cast Nat.pow_le_pow_right (n:=2) (by omega) (show k≤63 by omega)
  have hw:IntKind.wrap .i64 (numOf (l.take k))=numOf (l.take k):=Ew (by omega) (by omega)
  rw [hw]
  rw [h1,h2,h3,hl,Fp (by omega) (by omega),show (k:Int).toNat=k from rfl,List.getD_eq_getElem?_getD,List.getElem?_eq_getElem (show k<l.length by omega),Option.getD_some,Zzw (by omega) hb.1 hb.2]
  cases hbit:l[k] with
  | true=>rw [hbit] at hs;simpa using hs
  | false=>rw [hbit] at hs;simp only [Bool.false_eq_true,if_false,Int.add_zero] at hs;rw [hw] at hs;simpa using hs
theorem bT (l:List Bool) (hl:l.length=64):BU l=some (IntKind.wrap .i64 (numOf l)):=
 tw l hl (64-0) 0 fu rfl (by omega) (by unfold fu;omega)
theorem Da (n:Nat):(0:Int)<2 ^ n:=Int.pow_pos (by omega)
theorem mod_pow_succ (w:Int) (n:Nat):w % 2 ^ (n+1)=w % 2 ^ n+(if bit w n then 2 ^ n else 0):=by
  have hp:=Da n
  have h1:=Int.emod_add_mul_ediv w (2 ^ n)
  have h2:=Int.emod_nonneg w (Int.ne_of_gt hp)
  have h3:=Int.emod_lt_of_pos w hp
  have h4:=Int.emod_add_mul_ediv (w / 2 ^ n) 2
  have h5:=Int.emod_two_eq (w / 2 ^ n)
  have hb:bit w n=decide (w / 2 ^ n % 2=1):=by
    unfold bit
    rcases h5 with h | h <;> simp [h]
  rw [hb]
  have key:(w % 2 ^ n+2 ^ n*(w / 2 ^ n % 2))+2 ^ (n+1)*(w / 2 ^ n / 2)=w:=by
    rw [Int.pow_succ]
    calc (w % 2 ^ n+2 ^ n*(w / 2 ^ n % 2))+2 ^ n*2*(w / 2 ^ n / 2)=w % 2 ^ n+2 ^ n*(w / 2 ^ n % 2+2*(w / 2 ^ n / 2)):=by
          rw [Int.mul_add,← Int.mul_assoc];omega
      _=w % 2 ^ n+2 ^ n*(w / 2 ^ n):=by rw [h4]
      _=w:=h1
  have hlt:w % 2 ^ n+2 ^ n*(w / 2 ^ n % 2)<2 ^ (n+1):=by
    rw [Int.pow_succ]
    rcases h5 with h | h <;> rw [h] <;> omega
  have hge:0≤w % 2 ^ n+2 ^ n*(w / 2 ^ n % 2):=by
    rcases h5 with h | h <;> rw [h] <;> omega
  have:=(Int.ediv_emod_unique (a:=w) (Da (n+1)) (r:=w % 2 ^ n+2 ^ n*(w / 2 ^ n % 2)) (q:=w / 2 ^ n / 2)).2 ⟨key,hge,hlt⟩
  rw [this.2]
  rcases h5 with h | h <;> rw [h] <;> simp
theorem Kt (w:Int):∀ n:Nat,numOf ((List.range n).map (bit w))=w % 2 ^ n
 | 0=>by simp [numOf,Int.emod_one]
 | n+1=>by
  rw [List.range_succ,List.map_append,List.map_singleton,Oa,Kt w n,List.length_map,List.length_range,mod_pow_succ]
theorem QP (w:Int):numOf (bitsOf w)=w % 18446744073709551616:=Kt w 64
theorem JG (n:Int):IntKind.wrap .i64 (n % 18446744073709551616)=IntKind.wrap .i64 n:=by
 rw [Gi,Gi]
 have:n % 18446744073709551616 % 18446744073709551616=n % 18446744073709551616:=by omega
 rw [this]
theorem tx (w:Int):IntKind.wrap .i64 (numOf (bitsOf w))=IntKind.wrap .i64 w:=by
 rw [QP,JG]
theorem LP:(18446744073709551616:Int)=2 ^ 64:=rfl
theorem Qe {a b:Nat} (h:a≤b):(2:Int) ^ a ∣ 2 ^ b:=⟨2 ^ (b-a),by rw [← Int.pow_add];congr 1;omega⟩
theorem Hw (w:Int) {k:Nat} (hk:k<64):bit (w % 18446744073709551616) k=bit w k:=by
 have e1:=mod_pow_succ w k
 have e2:=mod_pow_succ (w % 18446744073709551616) k
 have hp:=Da k
 rw [LP,Int.emod_emod_of_dvd w (Qe (show k+1≤64 by omega)),Int.emod_emod_of_dvd w (Qe (show k≤64 by omega)),← LP,e1] at e2
 revert e2
 cases bit (w % 18446744073709551616) k <;> cases bit w k <;> intro e2
 ·rfl
 ·simp only [if_true,Bool.false_eq_true,if_false] at e2;omega
 ·simp only [if_true,Bool.false_eq_true,if_false] at e2;omega
 ·rfl
theorem KX (w:Int) {k:Nat} (hk:k<64):bit (IntKind.wrap .i64 w) k=bit w k:=by
 have:IntKind.wrap .i64 w % 18446744073709551616=w % 18446744073709551616:=by rw [Gi];split <;> omega
 rw [← Hw _ hk,this,Hw _ hk]
theorem Ev (w:Int) {k:Nat} (hk:k<64):bit (IntKind.wrap .u64 w) k=bit w k:=by
 rw [Dj,Hw _ hk]
theorem He (m k:Nat):bit (m:Int) k=m.testBit k:=by
 unfold bit
 rw [Nat.testBit_eq_decide_div_mod_eq]
 have h1:(m:Int) / 2 ^ k % 2=((m / 2 ^ k % 2:Nat):Int):=by push_cast;rfl
 rw [h1]
 rcases Nat.mod_two_eq_zero_or_one (m / 2 ^ k) with h | h <;> rw [h] <;> rfl
theorem II (w:Int):((BitVec.ofInt 64 w).toNat:Int)=w % 18446744073709551616:=by
 rw [BitVec.toNat_ofInt]
 show (((w % (18446744073709551616:Int)).toNat:Nat):Int)=_
 omega
theorem Hx (w:Int) {k:Nat} (hk:k<64):(BitVec.ofInt 64 w).toNat.testBit k=bit w k:=by
 rw [← He,II,Hw _ hk]
theorem dO (a b:Int) {k:Nat} (hk:k<64):bit (FM .u64 a b) k=(bit a k ^^ bit b k):=by
 unfold FM
 show bit (IntKind.wrap .u64 ((BitVec.ofInt 64 a ^^^ BitVec.ofInt 64 b).toNat:Int)) k=_
 rw [Ev _ hk,He,BitVec.toNat_xor,Nat.testBit_xor,Hx _ hk,Hx _ hk]
theorem YE (a b:Int) {k:Nat} (hk:k<64):bit (orI .u64 a b) k=(bit a k || bit b k):=by
 unfold orI
 show bit (IntKind.wrap .u64 ((BitVec.ofInt 64 a ||| BitVec.ofInt 64 b).toNat:Int)) k=_
 rw [Ev _ hk,He,BitVec.toNat_or,Nat.testBit_or,Hx _ hk,Hx _ hk]
theorem Zde (a b:Int) {k:Nat} (hk:k<64):bit (BF .u64 a b) k=(bit a k && bit b k):=by
 unfold BF
 show bit (IntKind.wrap .u64 ((BitVec.ofInt 64 a &&& BitVec.ofInt 64 b).toNat:Int)) k=_
 rw [Ev _ hk,He,BitVec.toNat_and,Nat.testBit_and,Hx _ hk,Hx _ hk]
theorem TN (w:Int) (j k:Nat):bit (w*2 ^ j) k=(decide (j≤k) && bit w (k-j)):=by
 unfold bit
 have hp:=Da j
 by_cases h:j≤k
 ·have e:(2:Int) ^ k=2 ^ j*2 ^ (k-j):=by rw [← Int.pow_add];congr 1;omega
  rw [e,← Int.ediv_ediv_of_nonneg (Int.le_of_lt hp),Int.mul_ediv_cancel _ (Int.ne_of_gt hp),decide_eq_true h,Bool.true_and]
 ·have e:(2:Int) ^ j=2*2 ^ (j-k-1)*2 ^ k:=by rw [← Int.pow_succ',← Int.pow_add];congr 1;omega
  rw [e,← Int.mul_assoc,Int.mul_ediv_cancel _ (Int.ne_of_gt (Da k)),decide_eq_false h,Bool.false_and]
  have:w*(2*2 ^ (j-k-1)) % 2=0:=by rw [show w*(2*2 ^ (j-k-1))=2*(w*2 ^ (j-k-1)) by rw [Int.mul_left_comm]];omega
  rw [this];rfl
theorem Lh (w:Int) (j k:Nat):bit (w / 2 ^ j) k=bit w (j+k):=by
 unfold bit
 rw [Int.ediv_ediv_of_nonneg (Int.le_of_lt (Da j)),← Int.pow_add]
end Go.AM.Pure
