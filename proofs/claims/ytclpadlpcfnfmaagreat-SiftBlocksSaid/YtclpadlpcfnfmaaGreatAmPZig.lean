import Derived.Test.YtclpadlpcfnfmaaGreatAmPBits
/- Zigzag: layer 01's reference and the program's. -/
namespace Go.AM.Pure
open Go.AM
def BY (x:Int):Prop:= -9223372036854775808≤x∧x<9223372036854775808
theorem OO (n:Int):BY (IntKind.wrap .i64 n):=by unfold BY;rw [Km];split <;> omega
theorem NA {x:Int} (h:BY x):IntKind.wrap .i64 x=x:=IB h.1 h.2
theorem rM {x:Int} (h:BY x) (k:Nat):bit (x / 2 ^ 63) k=decide (x<0):=by
 have hq:x / 2 ^ 63=if x<0 then -1 else 0:=by
  obtain ⟨h1,h2⟩:=h
  rw [show (2:Int) ^ 63=9223372036854775808 from rfl]
  split <;> omega
 rw [hq]
 unfold bit
 have hp:=EX k
 split
 ·rename_i hx
  have:(-1:Int) / 2 ^ k = -1:=by
   have:=(Int.ediv_emod_unique (a:= -1) hp (r:=2 ^ k-1) (q:= -1)).2 ⟨by omega,by omega,by omega⟩
   exact this.1
  rw [this,Af hx];rfl
 ·rename_i hx
  rw [Int.zero_ediv,An hx];rfl
theorem Yix {x:Int} (h:BY x):bit x 63=decide (x<0):=by
 rw [← rM h 0,Qc]
theorem Y9 {x:Int} (h:BY x) {k:Nat} (hk:k<64):bit (Eb x) k=((decide (1≤k) && bit x (k-1)) ^^ bit x 63):=by
 unfold Eb
 rw [Rr _ hk,rN _ _ hk,Jc _ hk,show (63:Int)=((63:Nat):Int) from rfl,NC x 63 (by omega),rM h,← Yix h]
 have h1:Er .u64 (IntKind.wrap .u64 x) 1=IntKind.wrap .u64 (IntKind.wrap .u64 x*2 ^ 1):=rfl
 rw [h1,Jc _ hk,Y8]
 by_cases h2:1≤k
 ·rw [Jc _ (by omega)]
 ·simp [h2]
theorem SU {v:Int} {f:Nat→Bool} (h:∀ k,k<64→f k=bit v k):(List.range 64).map f=bitsOf v:=by
 unfold bitsOf
 apply List.map_congr_left
 intro k hk
 exact h k (List.mem_range.1 hk)
theorem P4 {f:Nat→Bool} {k:Nat} (hk:k<64):((List.range 64).map f)[k]? = some (f k):=by simp [hk]
theorem NB (f:Nat→Bool):((List.range 64).map f).length=64:=by simp
theorem OP (w:Int) {k:Nat} (hk:k<64):List.getD (bitsOf w) k false=bit w k:=by
 rw [Ax,pt w hk];rfl
def N8 (x:Int) (k:Nat):Bool:=(decide (1≤k) && bit x (k-1)) ^^ bit x 63
theorem Za {l:List Bool} {v:Int} (h:l=bitsOf v):En l=some (IntKind.wrap .i64 v):=by
 subst h
 rw [Zlk _ (OI v),Zds]
theorem Zh2 {x:Int} (h:BY x):∀ (d k n:Nat),d=64-k→k≤64→1≤k→d<n→
  GH.l0 n (k:Int) (bitsOf x) (((List.range 64).map (N8 x)).take k++List.replicate (64-k) false)=some (Eb x):=by
 have hlen:=OI x
 intro d
 induction d with
 | zero=>
  intro k n hd hk h1k hn
  obtain ⟨m,rfl⟩:∃ m,n=m+1:=⟨n-1,by omega⟩
  show GH.S0 (GH.l0 m) (k:Int) (bitsOf x) _=_
  unfold GH.S0
  have CF:k=64:=by omega
  subst CF
  have hz:(List.range 64).map (N8 x)=bitsOf (Eb x):=SU fun k hk=>(Y9 h hk).symm
  rw [show AS ((64:Nat):Int) 64=false from rfl,AF (by simp),Nat.sub_self,List.replicate_zero,Ay,Za hz,NB]
  have:IntKind.wrap .i64 (Eb x)=Eb x:=NA (OO _)
  rw [this]
  rfl
 | succ d ih=>
  intro k n hd hk h1k hn
  obtain ⟨m,rfl⟩:∃ m,n=m+1:=⟨n-1,by omega⟩
  show GH.S0 (GH.l0 m) (k:Int) (bitsOf x) _=_
  unfold GH.S0
  have h1:AS (k:Int) 64=true:=Af (by omega)
  have Ka:Be .i64 (k:Int) 1=((k-1:Nat):Int):=by rw [Tp (by omega) (by omega)];omega
  have h2:AX ((k-1:Nat):Int) 64=true:=by rw [JF];exact Af (by omega)
  have h3:AX (k:Int) 64=true:=by rw [JF];exact Af (by omega)
  have h4:(((List.range 64).map (N8 x)).take k++List.replicate (64-k) false).length=64:=by simp;omega
  have hs:=ih (k+1) m (by omega) (by omega) (by omega) (by omega)
  rw [show ((k+1:Nat):Int)=(k:Int)+1 from rfl] at hs
  have hz:(!(Sh (List.getD (bitsOf x) (k-1) false) (List.getD (bitsOf x) 63 false)))=N8 x k:=by
   rw [OP x (by omega),OP x (by omega),Zld]
   unfold N8
   rw [Af h1k,AB]
   cases bit x (k-1) <;> cases bit x 63 <;> rfl
  rw [h1,Ka,h2,h3,h4,hlen,Ie (by omega) (by omega),show (k:Int).toNat=k from rfl,show ((k-1:Nat):Int).toNat=k-1 from rfl,hz,
   Td _ false 64 k (NB _) (by omega) (N8 x k) (P4 (by omega))]
  exact hs
theorem Zol {x:Int} (h:BY x):GH x=some (Eb x):=by
 show GH.S (GH.l0 fu) x=_
 unfold GH.S
 rw [SR]
 simp only [Ad,OI,decide_true,Aa]
 have h0:=Td ((List.range 64).map (N8 x)) false 64 0 (NB _) (by omega) (N8 x 0) (P4 (by omega))
 rw [List.take_zero,AH,Nat.sub_zero,Au] at h0
 have hz:List.getD (bitsOf x) 63 false=N8 x 0:=by
  rw [OP x (by omega)]
  unfold N8
  simp
 rw [hz,h0]
 exact Zh2 h (64-1) 1 fu rfl (by omega) (by omega) (by unfold fu;omega)
theorem fk (k:Nat):bit (-1) k=true:=by
 unfold bit
 have hp:=EX k
 have:(-1:Int) / 2 ^ k = -1:=((Int.ediv_emod_unique (a:= -1) hp (r:=2 ^ k-1) (q:= -1)).2 ⟨by omega,by omega,by omega⟩).1
 rw [this];rfl
theorem Tc (k:Nat):bit 0 k=false:=by
 unfold bit
 rw [Int.zero_ediv];rfl
theorem NH {w:Int} (h0:0≤w) {k:Nat} (h1:w<2 ^ k):bit w k=false:=by
 unfold bit
 rw [Int.ediv_eq_zero_of_lt h0 h1];rfl
theorem Yo2 (w:Int):bit w 0=decide (w % 2=1):=by
 unfold bit
 rw [Int.pow_zero,Int.ediv_one]
 rcases Int.emod_two_eq w with h | h <;> rw [h] <;> rfl
theorem Yjx (a:Int):BL .u64 a 1=a % 2:=by
 unfold BL
 show IntKind.wrap .u64 ((BitVec.ofInt 64 a &&& BitVec.ofInt 64 1).toNat:Int)=_
 have h:(BitVec.ofInt 64 a &&& BitVec.ofInt 64 1).toNat=(a % 2).toNat:=by
  rw [BitVec.toNat_and,show (BitVec.ofInt 64 1).toNat=1 from rfl,Nat.and_one_is_mod,BitVec.toNat_ofInt]
  omega
 rw [h,Ew]
 omega
theorem To (w:Int) {k:Nat} (hk:k<64):bit (EE w) k=((decide (k<63) && bit w (k+1)) ^^ bit w 0):=by
 unfold EE
 rw [Rr _ hk,rN _ _ hk]
 have h1:BH .u64 (IntKind.wrap .u64 w) 1=IntKind.wrap .u64 w / 2 ^ 1:=by
  unfold BH
  show (IntKind.wrap .u64 w).fdiv (2 ^ 1)=_
  rw [Int.fdiv_eq_ediv_of_nonneg _ (by omega)]
 have h2:bit (BH .u64 (IntKind.wrap .u64 w) 1) k=(decide (k<63) && bit w (k+1)):=by
  rw [h1,Qc]
  by_cases h:k<63
  ·rw [Jc _ (by omega),Af h,AB,Nat.add_comm]
  ·have CF:k=63:=by omega
   subst CF
   rw [NH (k:=1+63) (by rw [Ew];omega) (by rw [Ew,show (2:Int) ^ (1+63)=18446744073709551616 from rfl];omega)]
   simp
 have h3:bit (Be .u64 0 (BL .u64 (IntKind.wrap .u64 w) 1)) k=bit w 0:=by
  rw [Yjx,Ew,Yo2]
  have:w % 18446744073709551616 % 2=w % 2:=by omega
  rw [this]
  unfold Be
  rw [Jc _ hk]
  rcases Int.emod_two_eq w with h | h <;> rw [h]
  ·rw [show (0:Int)-0=0 from rfl,Tc];rfl
  ·rw [show (0:Int)-1 = -1 from rfl,fk];rfl
 rw [h2,h3]
def Ms (w:Int) (k:Nat):Bool:=(decide (k<63) && bit w (k+1)) ^^ bit w 0
theorem Ybj (w:Int):ED.S1 (bitsOf w) (((List.range 64).map (Ms w)).take 63++List.replicate (64-63) false)=some (EE w):=by
 unfold ED.S1
 have h4:(((List.range 64).map (Ms w)).take 63++List.replicate (64-63) false).length=64:=by simp
 have hz:List.getD (bitsOf w) 0 false=Ms w 63:=by
  rw [OP w (by omega)]
  unfold Ms
  simp
 have hs:=Td ((List.range 64).map (Ms w)) false 64 63 (NB _) (by omega) (Ms w 63) (P4 (by omega))
 rw [OI,h4,hz,hs,Nat.sub_self,List.replicate_zero,Ay,AF (by simp),NB,
  Za (SU fun k hk=>(To w hk).symm:(List.range 64).map (Ms w)=bitsOf (EE w))]
 have:IntKind.wrap .i64 (EE w)=EE w:=NA (OO _)
 rw [this]
 rfl
theorem Zi2 (w:Int):∀ (d k n:Nat),d=63-k→k≤63→d<n→
  ED.l0 ED.S1 n (k:Int) (bitsOf w) (((List.range 64).map (Ms w)).take k++List.replicate (64-k) false)=some (EE w):=by
 have hlen:=OI w
 intro d
 induction d with
 | zero=>
  intro k n hd hk hn
  obtain ⟨m,rfl⟩:∃ m,n=m+1:=⟨n-1,by omega⟩
  show ED.S0 ED.S1 (ED.l0 ED.S1 m) (k:Int) (bitsOf w) _=_
  unfold ED.S0
  have CF:k=63:=by omega
  subst CF
  rw [show AS ((63:Nat):Int) 63=false from rfl]
  exact Ybj w
 | succ d ih=>
  intro k n hd hk hn
  obtain ⟨m,rfl⟩:∃ m,n=m+1:=⟨n-1,by omega⟩
  show ED.S0 ED.S1 (ED.l0 ED.S1 m) (k:Int) (bitsOf w) _=_
  unfold ED.S0
  have h1:AS (k:Int) 63=true:=Af (by omega)
  have Ig:AQ .i64 (k:Int) 1=((k+1:Nat):Int):=by rw [Ie (by omega) (by omega)];rfl
  have h2:AX ((k+1:Nat):Int) 64=true:=by rw [JF];exact Af (by omega)
  have h3:AX (k:Int) 64=true:=by rw [JF];exact Af (by omega)
  have h4:(((List.range 64).map (Ms w)).take k++List.replicate (64-k) false).length=64:=by simp;omega
  have hs:=ih (k+1) m (by omega) (by omega) (by omega)
  have hz:(!(Sh (List.getD (bitsOf w) (k+1) false) (List.getD (bitsOf w) 0 false)))=Ms w k:=by
   rw [OP w (by omega),OP w (by omega),Zld]
   unfold Ms
   rw [Af (show k<63 by omega),AB]
   cases bit w (k+1) <;> cases bit w 0 <;> rfl
  rw [h1,Ig,h2,h3,h4,hlen,show (k:Int).toNat=k from rfl,show ((k+1:Nat):Int).toNat=k+1 from rfl,hz,
   Td _ false 64 k (NB _) (by omega) (Ms w k) (P4 (by omega))]
  exact hs
theorem Ykx:ED.t1 fu=ED.S1:=rfl
theorem oA (w:Int):ED w=some (EE w):=by
 have h1:ED.S (ED.l0 ED.S1 fu) w=some (EE w):=by
  have h:=Zi2 w (63-0) 0 fu rfl (by omega) (by unfold fu;omega)
  rw [List.take_zero,AH,Nat.sub_zero,show ((0:Nat):Int)=0 from rfl] at h
  unfold ED.S
  rw [SR,Ad]
  exact h
 rw [← h1,← Ykx]
 rfl
def Kp (word:Int) (a w k:Nat):Bool:=decide (k<w) && (decide (a+k<64) && bit word (a+k))
theorem ep {word v:Int} {a w:Nat} (hv:∀ k,k<64→Kp word a w k=bit v k) {k:Nat} (hk:k≤64) (Qz:∀ j,k≤j→j<64→Kp word a w j=false):
  En (((List.range 64).map (Kp word a w)).take k++List.replicate (64-k) false)=some (IntKind.wrap .i64 v):=by
 apply Za
 rw [← SU hv]
 apply List.ext_getElem?
 intro j
 by_cases hj:j<k
 ·rw [AD (by simp;omega),AA,if_pos hj]
 ·by_cases Oe:j<64
  ·rw [Aw (by simp;omega),Ag,NB,Nat.min_eq_left hk,List.getElem?_replicate,if_pos (by omega),P4 Oe,Qz j (by omega) Oe]
  ·rw [List.getElem?_eq_none (by simp;omega),List.getElem?_eq_none (by simp;omega)]
theorem Zqo {word v:Int} {a w:Nat} (ha:a<64) (hw:w≤64) (hv:∀ k,k<64→Kp word a w k=bit v k):∀ (d k n:Nat),d=64-k→k≤64→d<n→
  FK.l0 n (a:Int) (w:Int) (k:Int) (bitsOf word) (((List.range 64).map (Kp word a w)).take k++List.replicate (64-k) false)=some (IntKind.wrap .i64 v):=by
 have hlen:=OI word
 intro d
 induction d with
 | zero=>
  intro k n hd hk hn
  obtain ⟨m,rfl⟩:∃ m,n=m+1:=⟨n-1,by omega⟩
  show FK.S0 (FK.l0 m) (a:Int) (w:Int) (k:Int) (bitsOf word) _=_
  unfold FK.S0
  have CF:k=64:=by omega
  subst CF
  have h4:(((List.range 64).map (Kp word a w)).take 64++List.replicate (64-64) false).length=64:=by simp
  rw [show AS ((64:Nat):Int) 64=false from rfl,h4,ep hv (Ah _) (fun j h1 h2=>by omega)]
  rfl
 | succ d ih=>
  intro k n hd hk hn
  obtain ⟨m,rfl⟩:∃ m,n=m+1:=⟨n-1,by omega⟩
  show FK.S0 (FK.l0 m) (a:Int) (w:Int) (k:Int) (bitsOf word) _=_
  unfold FK.S0
  have h1:AS (k:Int) 64=true:=Af (by omega)
  have h4:(((List.range 64).map (Kp word a w)).take k++List.replicate (64-k) false).length=64:=by simp;omega
  have h5:Bq 0 (a:Int)=true:=Af (by omega)
  have h6:AS (a:Int) 64=true:=Af (by omega)
  rw [h1,h4,h5,h6]
  by_cases mP:k<w
  ·by_cases cv:a+k<64
   ·have h7:AS (k:Int) (w:Int)=true:=Af (by omega)
    have h8:AS (k:Int) (Be .i64 64 (a:Int))=true:=by rw [Tp (by omega) (by omega)];exact Af (by omega)
    have Ig:AQ .i64 (a:Int) (k:Int)=((a+k:Nat):Int):=by rw [Ie (by omega) (by omega)];rfl
    have h2:AX ((a+k:Nat):Int) 64=true:=by rw [JF];exact Af (by omega)
    have h3:AX (k:Int) 64=true:=by rw [JF];exact Af (by omega)
    have hs:=ih (k+1) m (by omega) (by omega) (by omega)
    rw [show ((k+1:Nat):Int)=(k:Int)+1 from rfl] at hs
    have hz:List.getD (bitsOf word) (a+k) false=Kp word a w k:=by
     rw [OP word cv]
     unfold Kp
     rw [Af mP,Af cv];rfl
    rw [h7,h8,Ig,h2,h3,hlen,Ie (by omega) (by omega),show (k:Int).toNat=k from rfl,show ((a+k:Nat):Int).toNat=a+k from rfl,hz,
     Td _ false 64 k (NB _) (by omega) (Kp word a w k) (P4 (by omega))]
    exact hs
   ·have h7:AS (k:Int) (w:Int)=true:=Af (by omega)
    have h8:AS (k:Int) (Be .i64 64 (a:Int))=false:=by rw [Tp (by omega) (by omega)];exact An (by omega)
    rw [h7,h8,ep hv hk (fun j h1 h2=>by unfold Kp;rw [An (show ¬ (a+j<64) by omega)];simp)]
    rfl
  ·have h7:AS (k:Int) (w:Int)=false:=An (by omega)
   rw [h7,ep hv hk (fun j h1 h2=>by unfold Kp;rw [An (show ¬ (j<w) by omega)];simp)]
   rfl
theorem n8 {word v:Int} {a w:Nat} (ha:a<64) (hw:w≤64) (hv:∀ k,k<64→Kp word a w k=bit v k):FK word (a:Int) (w:Int)=some (IntKind.wrap .i64 v):=by
 show FK.S (FK.l0 fu) word (a:Int) (w:Int)=_
 have h:=Zqo ha hw hv (64-0) 0 fu rfl (by omega) (by unfold fu;omega)
 rw [List.take_zero,AH,Nat.sub_zero,show ((0:Nat):Int)=0 from rfl] at h
 unfold FK.S
 rw [SR,Ad]
 exact h
theorem Zbs (word:Int):FK word 0 7=some (word % 128):=by
 have h:=n8 (word:=word) (v:=word % 128) (a:=0) (w:=7) (by omega) (by omega) (fun k hk=>by
  unfold Kp
  rw [Au,Af hk,AB]
  by_cases h7:k<7
  ·rw [Af h7,AB]
   have e1:=mod_pow_succ word k
   have e2:=mod_pow_succ (word % 2 ^ 7) k
   have hp:=EX k
   rw [Int.emod_emod_of_dvd word (Vo (show k+1≤7 by omega)),Int.emod_emod_of_dvd word (Vo (show k≤7 by omega)),e1] at e2
   show bit word k=bit (word % 2 ^ 7) k
   revert e2
   cases bit (word % 2 ^ 7) k <;> cases bit word k <;> intro e2
   ·rfl
   ·simp only [if_true,Bool.false_eq_true,if_false] at e2;omega
   ·simp only [if_true,Bool.false_eq_true,if_false] at e2;omega
   ·rfl
  ·rw [An h7,Bool.false_and]
   refine (NH (by omega) ?_).symm
   have:(2:Int) ^ 7≤2 ^ k:=by exact_mod_cast Nat.pow_le_pow_right (n:=2) (by omega) (show 7≤k by omega)
   rw [show (2:Int) ^ 7=128 from rfl] at this
   omega)
 rw [NA (x:=word % 128) (by unfold BY;omega)] at h
 exact h
theorem Zpo (word:Int):FK word 7 64=some (word % 18446744073709551616 / 128):=by
 have h:=n8 (word:=word) (v:=word % 18446744073709551616 / 128) (a:=7) (w:=64) (by omega) (by omega) (fun k hk=>by
  unfold Kp
  rw [Af hk,AB]
  show _=bit (word % 18446744073709551616 / 2 ^ 7) k
  rw [Qc]
  by_cases h7:7+k<64
  ·rw [Af h7,AB,Mc _ h7]
  ·rw [An h7,Bool.false_and]
   refine (NH (by omega) ?_).symm
   have:(2:Int) ^ 64≤2 ^ (7+k):=by exact_mod_cast Nat.pow_le_pow_right (n:=2) (by omega) (show 64≤7+k by omega)
   rw [← M4] at this
   omega)
 rw [NA (x:=word % 18446744073709551616 / 128) (by unfold BY;omega)] at h
 exact h
end Go.AM.Pure
