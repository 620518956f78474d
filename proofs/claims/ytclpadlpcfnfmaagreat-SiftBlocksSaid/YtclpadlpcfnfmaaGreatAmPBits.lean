import Derived.Test.YtclpadlpcfnfmaaGreatAmPure06
import Derived.Test.YtclpadlpcfnfmaaGreatAmPLib
/- Words as bits: layer 01's reference. -/
namespace Go.AM.Pure
open Go.AM
def bit (w:Int) (k:Nat):Bool:=(w / 2 ^ k) % 2 == 1
def bitsOf (w:Int):List Bool:=(List.range 64).map (bit w)
def numOf:List Bool→Int
 | []=>0
 | b :: l=>(if b then 1 else 0)+2*numOf l
theorem Ew (n:Int):IntKind.wrap .u64 n=n % 18446744073709551616:=by
 unfold IntKind.wrap
 show (if (false && decide (n % (18446744073709551616:Int) ≥ 9223372036854775808))=true then n % (18446744073709551616:Int)-18446744073709551616 else n % (18446744073709551616:Int))=_
 simp
theorem Km (n:Int):IntKind.wrap .i64 n=if n % 18446744073709551616 ≥ 9223372036854775808 then n % 18446744073709551616-18446744073709551616 else n % 18446744073709551616:=by
 unfold IntKind.wrap
 show (if (true && decide (n % (18446744073709551616:Int) ≥ 9223372036854775808))=true then n % (18446744073709551616:Int)-18446744073709551616 else n % (18446744073709551616:Int))=_
 simp
theorem J4 (n:Int):IntKind.wrap .u8 n=n % 256:=by
 unfold IntKind.wrap
 show (if (false && decide (n % (256:Int) ≥ 128))=true then n % (256:Int)-256 else n % (256:Int))=_
 simp
theorem NC (w:Int) (k:Nat) (hk:k≤64):BH .i64 w (k:Int)=w / 2 ^ k:=by
 unfold BH
 have:min (k:Int).toNat (IntKind.bits .i64)=k:=by show min k 64=k;omega
 rw [this,Int.fdiv_eq_ediv_of_nonneg]
 exact Int.pow_nonneg (by omega)
theorem lT (a:Int):BL .i64 a 1=a % 2:=by
 unfold BL
 show IntKind.wrap .i64 ((BitVec.ofInt 64 a &&& BitVec.ofInt 64 1).toNat:Int)=_
 have h:(BitVec.ofInt 64 a &&& BitVec.ofInt 64 1).toNat=(a % 2).toNat:=by
  rw [BitVec.toNat_and,show (BitVec.ofInt 64 1).toNat=1 from rfl,Nat.and_one_is_mod,BitVec.toNat_ofInt]
  omega
 rw [h,Km]
 have:=Int.emod_nonneg a (show (2:Int)≠0 by omega)
 have:=Int.emod_lt_of_pos a (show (0:Int)<2 by omega)
 omega
theorem Zmd (w:Int) (k:Nat) (hk:k≤64):AR (BL .i64 (BH .i64 w (k:Int)) 1) 1=bit w k:=by
 rw [NC w k hk,lT,Pc]
 unfold bit
 by_cases h:w / 2 ^ k % 2=1 <;> simp [h]
theorem OI (w:Int):(bitsOf w).length=64:=by unfold bitsOf;simp
theorem pt (w:Int) {k:Nat} (hk:k<64):(bitsOf w)[k]? = some (bit w k):=by
 unfold bitsOf;simp [hk]
theorem Td {α:Type} (l:List α) (z:α) (n k:Nat) (hl:l.length=n) (hk:k<n) (x:α) (hx:l[k]? = some x):
  (l.take k++List.replicate (n-k) z).set k x=l.take (k+1)++List.replicate (n-(k+1)) z:=by
 have KA:k<l.length:=by omega
 rw [List.set_append_right _ _ (by rw [Ag];omega),Ag,Nat.min_eq_left (by omega),Nat.sub_self,
  show n-k=(n-(k+1))+1 by omega,List.replicate_succ,List.set_cons_zero,List.take_succ_eq_append_getElem KA,Al]
 have:l[k]=x:=by rw [Ap KA] at hx;exact Option.some.inj hx
 rw [this];rfl
theorem Ycj (w:Int) (t2:List Bool) (ht:t2.length=64):∀ (d k n:Nat),d=64-k→k≤64→d<n→
  F5.l0 n w (k:Int) t2 ((bitsOf w).take k++List.replicate (64-k) false)=some (bitsOf w):=by
 have hlen:=OI w
 intro d
 induction d with
 | zero=>
  intro k n hd hk hn
  obtain ⟨m,rfl⟩:∃ m,n=m+1:=⟨n-1,by omega⟩
  show F5.S0 (F5.l0 m) w (k:Int) t2 _=_
  unfold F5.S0
  have CF:k=64:=by omega
  subst CF
  rw [show AS ((64:Nat):Int) 64=false from rfl,AF (by omega),Nat.sub_self,List.replicate_zero,Ay]
  simp only [Ac,hlen,ht,decide_true,Aa]
 | succ d ih=>
  intro k n hd hk hn
  obtain ⟨m,rfl⟩:∃ m,n=m+1:=⟨n-1,by omega⟩
  show F5.S0 (F5.l0 m) w (k:Int) t2 _=_
  unfold F5.S0
  have h1:AS (k:Int) 64=true:=Af (by omega)
  have h2:Bq 0 (k:Int)=true:=Af (by omega)
  have h3:AX (k:Int) 64=true:=by rw [JF];exact Af (by omega)
  have h4:((bitsOf w).take k++List.replicate (64-k) false).length=64:=by simp;omega
  have hs:=ih (k+1) m (by omega) (by omega) (by omega)
  rw [show ((k+1:Nat):Int)=(k:Int)+1 from rfl] at hs
  rw [h1,h2,h3,h4,Ie (by omega) (by omega),Zmd w k (by omega),show (k:Int).toNat=k from rfl,
   Td (bitsOf w) false 64 k hlen (by omega) (bit w k) (pt w (by omega))]
  exact hs
theorem SR (w:Int):F5 w=some (bitsOf w):=
 Ycj w (List.replicate 64 false) (by simp) (64-0) 0 fu rfl (by omega) (by unfold fu;omega)
theorem Lu:∀ l:List Bool,0≤numOf l∧numOf l<2 ^ l.length
 | []=>by simp [numOf]
 | b :: l=>by
  have:=Lu l
  unfold numOf
  rw [Aj,Int.pow_succ]
  cases b <;> simp <;> omega
theorem Yr:∀ (l:List Bool) (b:Bool),numOf (l++[b])=numOf l+(if b then 2 ^ l.length else 0)
 | [],b=>by cases b <;> rfl
 | a :: l,b=>by
  rw [List.cons_append]
  unfold numOf
  rw [Yr l b,Aj,Int.pow_succ]
  cases b <;> simp <;> omega
theorem Zro (x:Int):BitVec.ofInt 64 (IntKind.wrap .i64 x)=BitVec.ofInt 64 x:=by
 apply BitVec.eq_of_toNat_eq
 rw [BitVec.toNat_ofInt,BitVec.toNat_ofInt,Km]
 congr 1
 split <;> omega
theorem Ydj {n:Int} {k:Nat} (hk:k<64) (h0:0≤n) (h1:n<2 ^ k):EI .i64 n (Er .i64 1 (k:Int))=IntKind.wrap .i64 (n+2 ^ k):=by
 obtain ⟨m,rfl⟩:∃ m:Nat,n=m:=⟨n.toNat,by omega⟩
 have hm:m<2 ^ k:=by exact_mod_cast h1
 have LX:(2:Nat) ^ k<2 ^ 64:=Nat.pow_lt_pow_right (by omega) hk
 unfold EI Er
 have h2:min ((k:Int)).toNat (IntKind.bits .i64)=k:=by show min k 64=k;omega
 rw [h2]
 show IntKind.wrap .i64 ((BitVec.ofInt 64 (m:Int) ||| BitVec.ofInt 64 (IntKind.wrap .i64 (1*2 ^ k))).toNat:Int)=_
 rw [Zro,BitVec.toNat_or,BitVec.toNat_ofInt,BitVec.toNat_ofInt,Int.one_mul]
 have e1:((m:Int) % ((2 ^ 64:Nat):Int)).toNat=m:=by omega
 have e2:(((2:Int) ^ k) % ((2 ^ 64:Nat):Int)).toNat=2 ^ k:=by
  have:((2:Int) ^ k)=((2 ^ k:Nat):Int):=by push_cast;rfl
  rw [this]
  omega
 rw [e1,e2]
 have h3:=Nat.two_pow_add_eq_or_of_lt hm 1
 rw [Nat.mul_one] at h3
 rw [Nat.or_comm,← h3]
 congr 1
 push_cast
 omega
theorem Zes (l:List Bool) (hl:l.length=64):∀ (d k n:Nat),d=64-k→k≤64→d<n→
  En.l0 n (IntKind.wrap .i64 (numOf (l.take k))) (k:Int) l=some (IntKind.wrap .i64 (numOf l)):=by
 intro d
 induction d with
 | zero=>
  intro k n hd hk hn
  obtain ⟨m,rfl⟩:∃ m,n=m+1:=⟨n-1,by omega⟩
  show En.S0 (En.l0 m) _ (k:Int) l=_
  unfold En.S0
  have CF:k=64:=by omega
  subst CF
  rw [show AS ((64:Nat):Int) 64=false from rfl,AF (by omega)]
  rfl
 | succ d ih=>
  intro k n hd hk hn
  obtain ⟨m,rfl⟩:∃ m,n=m+1:=⟨n-1,by omega⟩
  show En.S0 (En.l0 m) _ (k:Int) l=_
  unfold En.S0
  have h1:AS (k:Int) 64=true:=Af (by omega)
  have h2:Bq 0 (k:Int)=true:=Af (by omega)
  have h3:AX (k:Int) 64=true:=by rw [JF];exact Af (by omega)
  have hs:=ih (k+1) m (by omega) (by omega) (by omega)
  rw [show ((k+1:Nat):Int)=(k:Int)+1 from rfl,List.take_succ_eq_append_getElem (show k<l.length by omega),Yr] at hs
  have hb:=Lu (l.take k)
  have Lf:(l.take k).length=k:=by rw [Ag];omega
  rw [Lf] at hb hs
  have hp:(2:Int) ^ k≤2 ^ 63:=by exact_mod_cast Nat.pow_le_pow_right (n:=2) (by omega) (show k≤63 by omega)
  have hw:IntKind.wrap .i64 (numOf (l.take k))=numOf (l.take k):=IB (by omega) (by omega)
  rw [hw]
  rw [h1,h2,h3,hl,Ie (by omega) (by omega),show (k:Int).toNat=k from rfl,Ax,Ap (show k<l.length by omega),Option.getD_some,Ydj (by omega) hb.1 hb.2]
  cases Mt:l[k] with
  | true=>rw [Mt] at hs;simpa using hs
  | false=>rw [Mt] at hs;simp only [Bool.false_eq_true,if_false,Int.add_zero] at hs;rw [hw] at hs;simpa using hs
theorem Zlk (l:List Bool) (hl:l.length=64):En l=some (IntKind.wrap .i64 (numOf l)):=
 Zes l hl (64-0) 0 fu rfl (by omega) (by unfold fu;omega)
theorem EX (n:Nat):(0:Int)<2 ^ n:=Int.pow_pos (by omega)
theorem mod_pow_succ (w:Int) (n:Nat):w % 2 ^ (n+1)=w % 2 ^ n+(if bit w n then 2 ^ n else 0):=by
  have hp:=EX n
  have h1:=Int.emod_add_mul_ediv w (2 ^ n)
  have h2:=Int.emod_nonneg w (Int.ne_of_gt hp)
  have h3:=Int.emod_lt_of_pos w hp
  have h4:=Int.emod_add_mul_ediv (w / 2 ^ n) 2
  have h5:=Int.emod_two_eq (w / 2 ^ n)
  have hb:bit w n=decide (w / 2 ^ n % 2=1):=by
    unfold bit
    rcases h5 with h | h <;> simp [h]
  rw [hb]
  have key:(w % 2 ^ n+2 ^ n*(w / 2 ^ n % 2))+2 ^ (n+1)*(w / 2 ^ n / 2)=w:=by
    rw [Int.pow_succ]
    calc (w % 2 ^ n+2 ^ n*(w / 2 ^ n % 2))+2 ^ n*2*(w / 2 ^ n / 2)=w % 2 ^ n+2 ^ n*(w / 2 ^ n % 2+2*(w / 2 ^ n / 2)):=by
          rw [Int.mul_add,← Int.mul_assoc];omega
      _=w % 2 ^ n+2 ^ n*(w / 2 ^ n):=by rw [h4]
      _=w:=h1
  have AO:w % 2 ^ n+2 ^ n*(w / 2 ^ n % 2)<2 ^ (n+1):=by
    rw [Int.pow_succ]
    rcases h5 with h | h <;> rw [h] <;> omega
  have IT:0≤w % 2 ^ n+2 ^ n*(w / 2 ^ n % 2):=by
    rcases h5 with h | h <;> rw [h] <;> omega
  have:=(Int.ediv_emod_unique (a:=w) (EX (n+1)) (r:=w % 2 ^ n+2 ^ n*(w / 2 ^ n % 2)) (q:=w / 2 ^ n / 2)).2 ⟨key,IT,AO⟩
  rw [this.2]
  rcases h5 with h | h <;> rw [h] <;> simp
theorem UL (w:Int):∀ n:Nat,numOf ((List.range n).map (bit w))=w % 2 ^ n
 | 0=>by simp [numOf,Int.emod_one]
 | n+1=>by
  rw [List.range_succ,AE,List.map_singleton,Yr,UL w n,Ai,List.length_range,mod_pow_succ]
theorem dR (w:Int):numOf (bitsOf w)=w % 18446744073709551616:=UL w 64
theorem Rm (n:Int):IntKind.wrap .i64 (n % 18446744073709551616)=IntKind.wrap .i64 n:=by
 rw [Km,Km]
 have:n % 18446744073709551616 % 18446744073709551616=n % 18446744073709551616:=by omega
 rw [this]
theorem Zds (w:Int):IntKind.wrap .i64 (numOf (bitsOf w))=IntKind.wrap .i64 w:=by
 rw [dR,Rm]
theorem M4:(18446744073709551616:Int)=2 ^ 64:=rfl
theorem Vo {a b:Nat} (h:a≤b):(2:Int) ^ a ∣ 2 ^ b:=⟨2 ^ (b-a),by rw [← Int.pow_add];congr 1;omega⟩
theorem Mc (w:Int) {k:Nat} (hk:k<64):bit (w % 18446744073709551616) k=bit w k:=by
 have e1:=mod_pow_succ w k
 have e2:=mod_pow_succ (w % 18446744073709551616) k
 have hp:=EX k
 rw [M4,Int.emod_emod_of_dvd w (Vo (show k+1≤64 by omega)),Int.emod_emod_of_dvd w (Vo (show k≤64 by omega)),← M4,e1] at e2
 revert e2
 cases bit (w % 18446744073709551616) k <;> cases bit w k <;> intro e2
 ·rfl
 ·simp only [if_true,Bool.false_eq_true,if_false] at e2;omega
 ·simp only [if_true,Bool.false_eq_true,if_false] at e2;omega
 ·rfl
theorem Rr (w:Int) {k:Nat} (hk:k<64):bit (IntKind.wrap .i64 w) k=bit w k:=by
 have:IntKind.wrap .i64 w % 18446744073709551616=w % 18446744073709551616:=by rw [Km];split <;> omega
 rw [← Mc _ hk,this,Mc _ hk]
theorem Jc (w:Int) {k:Nat} (hk:k<64):bit (IntKind.wrap .u64 w) k=bit w k:=by
 rw [Ew,Mc _ hk]
theorem LF (m k:Nat):bit (m:Int) k=m.testBit k:=by
 unfold bit
 rw [Nat.testBit_eq_decide_div_mod_eq]
 have h1:(m:Int) / 2 ^ k % 2=((m / 2 ^ k % 2:Nat):Int):=by push_cast;rfl
 rw [h1]
 rcases Nat.mod_two_eq_zero_or_one (m / 2 ^ k) with h | h <;> rw [h] <;> rfl
theorem Rl (w:Int):((BitVec.ofInt 64 w).toNat:Int)=w % 18446744073709551616:=by
 rw [BitVec.toNat_ofInt]
 show (((w % (18446744073709551616:Int)).toNat:Nat):Int)=_
 omega
theorem Mb (w:Int) {k:Nat} (hk:k<64):(BitVec.ofInt 64 w).toNat.testBit k=bit w k:=by
 rw [← LF,Rl,Mc _ hk]
theorem rN (a b:Int) {k:Nat} (hk:k<64):bit (Fq .u64 a b) k=(bit a k ^^ bit b k):=by
 unfold Fq
 show bit (IntKind.wrap .u64 ((BitVec.ofInt 64 a ^^^ BitVec.ofInt 64 b).toNat:Int)) k=_
 rw [Jc _ hk,LF,BitVec.toNat_xor,Nat.testBit_xor,Mb _ hk,Mb _ hk]
theorem fR (a b:Int) {k:Nat} (hk:k<64):bit (EI .u64 a b) k=(bit a k || bit b k):=by
 unfold EI
 show bit (IntKind.wrap .u64 ((BitVec.ofInt 64 a ||| BitVec.ofInt 64 b).toNat:Int)) k=_
 rw [Jc _ hk,LF,BitVec.toNat_or,Nat.testBit_or,Mb _ hk,Mb _ hk]
theorem Zg2 (a b:Int) {k:Nat} (hk:k<64):bit (BL .u64 a b) k=(bit a k && bit b k):=by
 unfold BL
 show bit (IntKind.wrap .u64 ((BitVec.ofInt 64 a &&& BitVec.ofInt 64 b).toNat:Int)) k=_
 rw [Jc _ hk,LF,BitVec.toNat_and,Nat.testBit_and,Mb _ hk,Mb _ hk]
theorem Y8 (w:Int) (j k:Nat):bit (w*2 ^ j) k=(decide (j≤k) && bit w (k-j)):=by
 unfold bit
 have hp:=EX j
 by_cases h:j≤k
 ·have e:(2:Int) ^ k=2 ^ j*2 ^ (k-j):=by rw [← Int.pow_add];congr 1;omega
  rw [e,← Int.ediv_ediv_of_nonneg (Int.le_of_lt hp),Int.mul_ediv_cancel _ (Int.ne_of_gt hp),Af h,AB]
 ·have e:(2:Int) ^ j=2*2 ^ (j-k-1)*2 ^ k:=by rw [← Int.pow_succ',← Int.pow_add];congr 1;omega
  rw [e,← Int.mul_assoc,Int.mul_ediv_cancel _ (Int.ne_of_gt (EX k)),An h,Bool.false_and]
  have:w*(2*2 ^ (j-k-1)) % 2=0:=by rw [show w*(2*2 ^ (j-k-1))=2*(w*2 ^ (j-k-1)) by rw [Int.mul_left_comm]];omega
  rw [this];rfl
theorem Qc (w:Int) (j k:Nat):bit (w / 2 ^ j) k=bit w (j+k):=by
 unfold bit
 rw [Int.ediv_ediv_of_nonneg (Int.le_of_lt (EX j)),← Int.pow_add]
end Go.AM.Pure
