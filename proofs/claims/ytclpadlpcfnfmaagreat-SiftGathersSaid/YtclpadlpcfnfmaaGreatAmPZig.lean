import Derived.Test.YtclpadlpcfnfmaaGreatAmPBits
/- Zigzag: layer 01's reference and the program's. -/
namespace Go.AM.Pure
open Go.AM
def BZ (x:Int):Prop:= -9223372036854775808≤x∧x<9223372036854775808
theorem HU (n:Int):BZ (IntKind.wrap .i64 n):=by unfold BZ;rw [Gi];split <;> omega
theorem GY {x:Int} (h:BZ x):IntKind.wrap .i64 x=x:=Ew h.1 h.2
theorem dM {x:Int} (h:BZ x) (k:Nat):bit (x / 2 ^ 63) k=decide (x<0):=by
 have hq:x / 2 ^ 63=if x<0 then -1 else 0:=by
  obtain ⟨h1,h2⟩:=h
  rw [show (2:Int) ^ 63=9223372036854775808 from rfl]
  split <;> omega
 rw [hq]
 unfold bit
 have hp:=Da k
 split
 ·rename_i hx
  have:(-1:Int) / 2 ^ k = -1:=by
   have:=(Int.ediv_emod_unique (a:= -1) hp (r:=2 ^ k-1) (q:= -1)).2 ⟨by omega,by omega,by omega⟩
   exact this.1
  rw [this,decide_eq_true hx];rfl
 ·rename_i hx
  rw [Int.zero_ediv,decide_eq_false hx];rfl
theorem Zxb1 {x:Int} (h:BZ x):bit x 63=decide (x<0):=by
 rw [← dM h 0,Lh]
theorem TL {x:Int} (h:BZ x) {k:Nat} (hk:k<64):bit (Cv x) k=((decide (1≤k) && bit x (k-1)) ^^ bit x 63):=by
 unfold Cv
 rw [KX _ hk,dO _ _ hk,Ev _ hk,show (63:Int)=((63:Nat):Int) from rfl,Hk x 63 (by omega),dM h,← Zxb1 h]
 have h1:Fc .u64 (IntKind.wrap .u64 x) 1=IntKind.wrap .u64 (IntKind.wrap .u64 x*2 ^ 1):=rfl
 rw [h1,Ev _ hk,TN]
 by_cases h2:1≤k
 ·rw [Ev _ (by omega)]
 ·simp [h2]
theorem JX {v:Int} {f:Nat→Bool} (h:∀ k,k<64→f k=bit v k):(List.range 64).map f=bitsOf v:=by
 unfold bitsOf
 apply List.map_congr_left
 intro k hk
 exact h k (List.mem_range.1 hk)
theorem IH {f:Nat→Bool} {k:Nat} (hk:k<64):((List.range 64).map f)[k]? = some (f k):=by simp [hk]
theorem GZ (f:Nat→Bool):((List.range 64).map f).length=64:=by simp
theorem Ia (w:Int) {k:Nat} (hk:k<64):List.getD (bitsOf w) k false=bit w k:=by
 rw [List.getD_eq_getElem?_getD,Wt w hk];rfl
def PQ (x:Int) (k:Nat):Bool:=(decide (1≤k) && bit x (k-1)) ^^ bit x 63
theorem TM {l:List Bool} {v:Int} (h:l=bitsOf v):BU l=some (IntKind.wrap .i64 v):=by
 subst h
 rw [bT _ (GN v),tx]
theorem Zae {x:Int} (h:BZ x):∀ (d k n:Nat),d=64-k→k≤64→1≤k→d<n→
  DC.l0 n (k:Int) (bitsOf x) (((List.range 64).map (PQ x)).take k++List.replicate (64-k) false)=some (Cv x):=by
 have hlen:=GN x
 intro d
 induction d with
 | zero=>
  intro k n hd hk h1k hn
  obtain ⟨m,rfl⟩:∃ m,n=m+1:=⟨n-1,by omega⟩
  show DC.S0 (DC.l0 m) (k:Int) (bitsOf x) _=_
  unfold DC.S0
  have hk':k=64:=by omega
  subst hk'
  have hz:(List.range 64).map (PQ x)=bitsOf (Cv x):=JX fun k hk=>(TL h hk).symm
  rw [show ltI ((64:Nat):Int) 64=false from rfl,List.take_of_length_le (by simp),Nat.sub_self,List.replicate_zero,List.append_nil,TM hz,GZ]
  have:IntKind.wrap .i64 (Cv x)=Cv x:=GY (HU _)
  rw [this]
  rfl
 | succ d ih=>
  intro k n hd hk h1k hn
  obtain ⟨m,rfl⟩:∃ m,n=m+1:=⟨n-1,by omega⟩
  show DC.S0 (DC.l0 m) (k:Int) (bitsOf x) _=_
  unfold DC.S0
  have h1:ltI (k:Int) 64=true:=decide_eq_true (by omega)
  have hsub:AT .i64 (k:Int) 1=((k-1:Nat):Int):=by rw [Om (by omega) (by omega)];omega
  have h2:inB ((k-1:Nat):Int) 64=true:=by rw [Iw];exact decide_eq_true (by omega)
  have h3:inB (k:Int) 64=true:=by rw [Iw];exact decide_eq_true (by omega)
  have h4:(((List.range 64).map (PQ x)).take k++List.replicate (64-k) false).length=64:=by simp;omega
  have hs:=ih (k+1) m (by omega) (by omega) (by omega) (by omega)
  rw [show ((k+1:Nat):Int)=(k:Int)+1 from rfl] at hs
  have hz:(!(eqB (List.getD (bitsOf x) (k-1) false) (List.getD (bitsOf x) 63 false)))=PQ x k:=by
   rw [Ia x (by omega),Ia x (by omega),Zmu]
   unfold PQ
   rw [decide_eq_true h1k,Bool.true_and]
   cases bit x (k-1) <;> cases bit x 63 <;> rfl
  rw [h1,hsub,h2,h3,h4,hlen,Fp (by omega) (by omega),show (k:Int).toNat=k from rfl,show ((k-1:Nat):Int).toNat=k-1 from rfl,hz,
   Mt _ false 64 k (GZ _) (by omega) (PQ x k) (IH (by omega))]
  exact hs
theorem dN {x:Int} (h:BZ x):DC x=some (Cv x):=by
 show DC.S (DC.l0 fu) x=_
 unfold DC.S
 rw [Jm]
 simp only [Option.bind_some,GN,decide_true,cond_true]
 have h0:=Mt ((List.range 64).map (PQ x)) false 64 0 (GZ _) (by omega) (PQ x 0) (IH (by omega))
 rw [List.take_zero,List.nil_append,Nat.sub_zero,Nat.zero_add] at h0
 have hz:List.getD (bitsOf x) 63 false=PQ x 0:=by
  rw [Ia x (by omega)]
  unfold PQ
  simp
 rw [hz,h0]
 exact Zae h (64-1) 1 fu rfl (by omega) (by omega) (by unfold fu;omega)
theorem Vp (k:Nat):bit (-1) k=true:=by
 unfold bit
 have hp:=Da k
 have:(-1:Int) / 2 ^ k = -1:=((Int.ediv_emod_unique (a:= -1) hp (r:=2 ^ k-1) (q:= -1)).2 ⟨by omega,by omega,by omega⟩).1
 rw [this];rfl
theorem Ms (k:Nat):bit 0 k=false:=by
 unfold bit
 rw [Int.zero_ediv];rfl
theorem Jl {w:Int} (h0:0≤w) {k:Nat} (h1:w<2 ^ k):bit w k=false:=by
 unfold bit
 rw [Int.ediv_eq_zero_of_lt h0 h1];rfl
theorem Zkg1 (w:Int):bit w 0=decide (w % 2=1):=by
 unfold bit
 rw [Int.pow_zero,Int.ediv_one]
 rcases Int.emod_two_eq w with h | h <;> rw [h] <;> rfl
theorem Zyb1 (a:Int):BF .u64 a 1=a % 2:=by
 unfold BF
 show IntKind.wrap .u64 ((BitVec.ofInt 64 a &&& BitVec.ofInt 64 1).toNat:Int)=_
 have h:(BitVec.ofInt 64 a &&& BitVec.ofInt 64 1).toNat=(a % 2).toNat:=by
  rw [BitVec.toNat_and,show (BitVec.ofInt 64 1).toNat=1 from rfl,Nat.and_one_is_mod,BitVec.toNat_ofInt]
  omega
 rw [h,Dj]
 omega
theorem Ol (w:Int) {k:Nat} (hk:k<64):bit (CP w) k=((decide (k<63) && bit w (k+1)) ^^ bit w 0):=by
 unfold CP
 rw [KX _ hk,dO _ _ hk]
 have h1:BG .u64 (IntKind.wrap .u64 w) 1=IntKind.wrap .u64 w / 2 ^ 1:=by
  unfold BG
  show (IntKind.wrap .u64 w).fdiv (2 ^ 1)=_
  rw [Int.fdiv_eq_ediv_of_nonneg _ (by omega)]
 have h2:bit (BG .u64 (IntKind.wrap .u64 w) 1) k=(decide (k<63) && bit w (k+1)):=by
  rw [h1,Lh]
  by_cases h:k<63
  ·rw [Ev _ (by omega),decide_eq_true h,Bool.true_and,Nat.add_comm]
  ·have hk':k=63:=by omega
   subst hk'
   rw [Jl (k:=1+63) (by rw [Dj];omega) (by rw [Dj,show (2:Int) ^ (1+63)=18446744073709551616 from rfl];omega)]
   simp
 have h3:bit (AT .u64 0 (BF .u64 (IntKind.wrap .u64 w) 1)) k=bit w 0:=by
  rw [Zyb1,Dj,Zkg1]
  have:w % 18446744073709551616 % 2=w % 2:=by omega
  rw [this]
  unfold AT
  rw [Ev _ hk]
  rcases Int.emod_two_eq w with h | h <;> rw [h]
  ·rw [show (0:Int)-0=0 from rfl,Ms];rfl
  ·rw [show (0:Int)-1 = -1 from rfl,Vp];rfl
 rw [h2,h3]
def NG (w:Int) (k:Nat):Bool:=(decide (k<63) && bit w (k+1)) ^^ bit w 0
theorem Zxw (w:Int):Cu.S1 (bitsOf w) (((List.range 64).map (NG w)).take 63++List.replicate (64-63) false)=some (CP w):=by
 unfold Cu.S1
 have h4:(((List.range 64).map (NG w)).take 63++List.replicate (64-63) false).length=64:=by simp
 have hz:List.getD (bitsOf w) 0 false=NG w 63:=by
  rw [Ia w (by omega)]
  unfold NG
  simp
 have hs:=Mt ((List.range 64).map (NG w)) false 64 63 (GZ _) (by omega) (NG w 63) (IH (by omega))
 rw [GN,h4,hz,hs,Nat.sub_self,List.replicate_zero,List.append_nil,List.take_of_length_le (by simp),GZ,
  TM (JX fun k hk=>(Ol w hk).symm:(List.range 64).map (NG w)=bitsOf (CP w))]
 have:IntKind.wrap .i64 (CP w)=CP w:=GY (HU _)
 rw [this]
 rfl
theorem Zbe (w:Int):∀ (d k n:Nat),d=63-k→k≤63→d<n→
  Cu.l0 Cu.S1 n (k:Int) (bitsOf w) (((List.range 64).map (NG w)).take k++List.replicate (64-k) false)=some (CP w):=by
 have hlen:=GN w
 intro d
 induction d with
 | zero=>
  intro k n hd hk hn
  obtain ⟨m,rfl⟩:∃ m,n=m+1:=⟨n-1,by omega⟩
  show Cu.S0 Cu.S1 (Cu.l0 Cu.S1 m) (k:Int) (bitsOf w) _=_
  unfold Cu.S0
  have hk':k=63:=by omega
  subst hk'
  rw [show ltI ((63:Nat):Int) 63=false from rfl]
  exact Zxw w
 | succ d ih=>
  intro k n hd hk hn
  obtain ⟨m,rfl⟩:∃ m,n=m+1:=⟨n-1,by omega⟩
  show Cu.S0 Cu.S1 (Cu.l0 Cu.S1 m) (k:Int) (bitsOf w) _=_
  unfold Cu.S0
  have h1:ltI (k:Int) 63=true:=decide_eq_true (by omega)
  have hadd:An .i64 (k:Int) 1=((k+1:Nat):Int):=by rw [Fp (by omega) (by omega)];rfl
  have h2:inB ((k+1:Nat):Int) 64=true:=by rw [Iw];exact decide_eq_true (by omega)
  have h3:inB (k:Int) 64=true:=by rw [Iw];exact decide_eq_true (by omega)
  have h4:(((List.range 64).map (NG w)).take k++List.replicate (64-k) false).length=64:=by simp;omega
  have hs:=ih (k+1) m (by omega) (by omega) (by omega)
  have hz:(!(eqB (List.getD (bitsOf w) (k+1) false) (List.getD (bitsOf w) 0 false)))=NG w k:=by
   rw [Ia w (by omega),Ia w (by omega),Zmu]
   unfold NG
   rw [decide_eq_true (show k<63 by omega),Bool.true_and]
   cases bit w (k+1) <;> cases bit w 0 <;> rfl
  rw [h1,hadd,h2,h3,h4,hlen,show (k:Int).toNat=k from rfl,show ((k+1:Nat):Int).toNat=k+1 from rfl,hz,
   Mt _ false 64 k (GZ _) (by omega) (NG w k) (IH (by omega))]
  exact hs
theorem Zzb1:Cu.t1 fu=Cu.S1:=rfl
theorem Se (w:Int):Cu w=some (CP w):=by
 have h1:Cu.S (Cu.l0 Cu.S1 fu) w=some (CP w):=by
  have h:=Zbe w (63-0) 0 fu rfl (by omega) (by unfold fu;omega)
  rw [List.take_zero,List.nil_append,Nat.sub_zero,show ((0:Nat):Int)=0 from rfl] at h
  unfold Cu.S
  rw [Jm,Option.bind_some]
  exact h
 rw [← h1,← Zzb1]
 rfl
def Hj (word:Int) (a w k:Nat):Bool:=decide (k<w) && (decide (a+k<64) && bit word (a+k))
theorem Sf {word v:Int} {a w:Nat} (hv:∀ k,k<64→Hj word a w k=bit v k) {k:Nat} (hk:k≤64) (hrest:∀ j,k≤j→j<64→Hj word a w j=false):
  BU (((List.range 64).map (Hj word a w)).take k++List.replicate (64-k) false)=some (IntKind.wrap .i64 v):=by
 apply TM
 rw [← JX hv]
 apply List.ext_getElem?
 intro j
 by_cases hj:j<k
 ·rw [List.getElem?_append_left (by simp;omega),List.getElem?_take,if_pos hj]
 ·by_cases hj2:j<64
  ·rw [List.getElem?_append_right (by simp;omega),List.length_take,GZ,Nat.min_eq_left hk,List.getElem?_replicate,if_pos (by omega),IH hj2,hrest j (by omega) hj2]
  ·rw [List.getElem?_eq_none (by simp;omega),List.getElem?_eq_none (by simp;omega)]
theorem pM {word v:Int} {a w:Nat} (ha:a<64) (hw:w≤64) (hv:∀ k,k<64→Hj word a w k=bit v k):∀ (d k n:Nat),d=64-k→k≤64→d<n→
  Cs.l0 n (a:Int) (w:Int) (k:Int) (bitsOf word) (((List.range 64).map (Hj word a w)).take k++List.replicate (64-k) false)=some (IntKind.wrap .i64 v):=by
 have hlen:=GN word
 intro d
 induction d with
 | zero=>
  intro k n hd hk hn
  obtain ⟨m,rfl⟩:∃ m,n=m+1:=⟨n-1,by omega⟩
  show Cs.S0 (Cs.l0 m) (a:Int) (w:Int) (k:Int) (bitsOf word) _=_
  unfold Cs.S0
  have hk':k=64:=by omega
  subst hk'
  have h4:(((List.range 64).map (Hj word a w)).take 64++List.replicate (64-64) false).length=64:=by simp
  rw [show ltI ((64:Nat):Int) 64=false from rfl,h4,Sf hv (Nat.le_refl _) (fun j h1 h2=>by omega)]
  rfl
 | succ d ih=>
  intro k n hd hk hn
  obtain ⟨m,rfl⟩:∃ m,n=m+1:=⟨n-1,by omega⟩
  show Cs.S0 (Cs.l0 m) (a:Int) (w:Int) (k:Int) (bitsOf word) _=_
  unfold Cs.S0
  have h1:ltI (k:Int) 64=true:=decide_eq_true (by omega)
  have h4:(((List.range 64).map (Hj word a w)).take k++List.replicate (64-k) false).length=64:=by simp;omega
  have h5:leI 0 (a:Int)=true:=decide_eq_true (by omega)
  have h6:ltI (a:Int) 64=true:=decide_eq_true (by omega)
  rw [h1,h4,h5,h6]
  by_cases hkw:k<w
  ·by_cases hka:a+k<64
   ·have h7:ltI (k:Int) (w:Int)=true:=decide_eq_true (by omega)
    have h8:ltI (k:Int) (AT .i64 64 (a:Int))=true:=by rw [Om (by omega) (by omega)];exact decide_eq_true (by omega)
    have hadd:An .i64 (a:Int) (k:Int)=((a+k:Nat):Int):=by rw [Fp (by omega) (by omega)];rfl
    have h2:inB ((a+k:Nat):Int) 64=true:=by rw [Iw];exact decide_eq_true (by omega)
    have h3:inB (k:Int) 64=true:=by rw [Iw];exact decide_eq_true (by omega)
    have hs:=ih (k+1) m (by omega) (by omega) (by omega)
    rw [show ((k+1:Nat):Int)=(k:Int)+1 from rfl] at hs
    have hz:List.getD (bitsOf word) (a+k) false=Hj word a w k:=by
     rw [Ia word hka]
     unfold Hj
     rw [decide_eq_true hkw,decide_eq_true hka];rfl
    rw [h7,h8,hadd,h2,h3,hlen,Fp (by omega) (by omega),show (k:Int).toNat=k from rfl,show ((a+k:Nat):Int).toNat=a+k from rfl,hz,
     Mt _ false 64 k (GZ _) (by omega) (Hj word a w k) (IH (by omega))]
    exact hs
   ·have h7:ltI (k:Int) (w:Int)=true:=decide_eq_true (by omega)
    have h8:ltI (k:Int) (AT .i64 64 (a:Int))=false:=by rw [Om (by omega) (by omega)];exact decide_eq_false (by omega)
    rw [h7,h8,Sf hv hk (fun j h1 h2=>by unfold Hj;rw [decide_eq_false (show ¬ (a+j<64) by omega)];simp)]
    rfl
  ·have h7:ltI (k:Int) (w:Int)=false:=decide_eq_false (by omega)
   rw [h7,Sf hv hk (fun j h1 h2=>by unfold Hj;rw [decide_eq_false (show ¬ (j<w) by omega)];simp)]
   rfl
theorem Qd {word v:Int} {a w:Nat} (ha:a<64) (hw:w≤64) (hv:∀ k,k<64→Hj word a w k=bit v k):Cs word (a:Int) (w:Int)=some (IntKind.wrap .i64 v):=by
 show Cs.S (Cs.l0 fu) word (a:Int) (w:Int)=_
 have h:=pM ha hw hv (64-0) 0 fu rfl (by omega) (by unfold fu;omega)
 rw [List.take_zero,List.nil_append,Nat.sub_zero,show ((0:Nat):Int)=0 from rfl] at h
 unfold Cs.S
 rw [Jm,Option.bind_some]
 exact h
theorem tv (word:Int):Cs word 0 7=some (word % 128):=by
 have h:=Qd (word:=word) (v:=word % 128) (a:=0) (w:=7) (by omega) (by omega) (fun k hk=>by
  unfold Hj
  rw [Nat.zero_add,decide_eq_true hk,Bool.true_and]
  by_cases h7:k<7
  ·rw [decide_eq_true h7,Bool.true_and]
   have e1:=mod_pow_succ word k
   have e2:=mod_pow_succ (word % 2 ^ 7) k
   have hp:=Da k
   rw [Int.emod_emod_of_dvd word (Qe (show k+1≤7 by omega)),Int.emod_emod_of_dvd word (Qe (show k≤7 by omega)),e1] at e2
   show bit word k=bit (word % 2 ^ 7) k
   revert e2
   cases bit (word % 2 ^ 7) k <;> cases bit word k <;> intro e2
   ·rfl
   ·simp only [if_true,Bool.false_eq_true,if_false] at e2;omega
   ·simp only [if_true,Bool.false_eq_true,if_false] at e2;omega
   ·rfl
  ·rw [decide_eq_false h7,Bool.false_and]
   refine (Jl (by omega) ?_).symm
   have:(2:Int) ^ 7≤2 ^ k:=by exact_mod_cast Nat.pow_le_pow_right (n:=2) (by omega) (show 7≤k by omega)
   rw [show (2:Int) ^ 7=128 from rfl] at this
   omega)
 rw [GY (x:=word % 128) (by unfold BZ;omega)] at h
 exact h
theorem pN (word:Int):Cs word 7 64=some (word % 18446744073709551616 / 128):=by
 have h:=Qd (word:=word) (v:=word % 18446744073709551616 / 128) (a:=7) (w:=64) (by omega) (by omega) (fun k hk=>by
  unfold Hj
  rw [decide_eq_true hk,Bool.true_and]
  show _=bit (word % 18446744073709551616 / 2 ^ 7) k
  rw [Lh]
  by_cases h7:7+k<64
  ·rw [decide_eq_true h7,Bool.true_and,Hw _ h7]
  ·rw [decide_eq_false h7,Bool.false_and]
   refine (Jl (by omega) ?_).symm
   have:(2:Int) ^ 64≤2 ^ (7+k):=by exact_mod_cast Nat.pow_le_pow_right (n:=2) (by omega) (show 64≤7+k by omega)
   rw [← LP] at this
   omega)
 rw [GY (x:=word % 18446744073709551616 / 128) (by unfold BZ;omega)] at h
 exact h
end Go.AM.Pure
