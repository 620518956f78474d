import Derived.Test.YtlamhllcnbcbbaaGreatAmPBits
/- Zigzag: layer 01's reference and the program's. -/
namespace Go.AM.Pure
open Go.AM
def in64 (x:Int):Prop:= -9223372036854775808≤x∧x<9223372036854775808
theorem Zef (n:Int):in64 (IntKind.wrap .i64 n):=by unfold in64;rw [Zph];split <;> omega
theorem Zxg {x:Int} (h:in64 x):IntKind.wrap .i64 x=x:=Zje h.1 h.2
theorem Zwh1 {x:Int} (h:in64 x) (k:Nat):bit (x / 2 ^ 63) k=decide (x<0):=by
 have hq:x / 2 ^ 63=if x<0 then -1 else 0:=by
  obtain ⟨h1,h2⟩:=h
  rw [show (2:Int) ^ 63=9223372036854775808 from rfl]
  split <;> omega
 rw [hq]
 unfold bit
 have hp:=Zld k
 split
 ·rename_i hx
  have:(-1:Int) / 2 ^ k = -1:=by
   have:=(Int.ediv_emod_unique (a:= -1) hp (r:=2 ^ k-1) (q:= -1)).2 ⟨by omega,by omega,by omega⟩
   exact this.1
  rw [this,decide_eq_true hx];rfl
 ·rename_i hx
  rw [Int.zero_ediv,decide_eq_false hx];rfl
theorem bit63 {x:Int} (h:in64 x):bit x 63=decide (x<0):=by
 rw [← Zwh1 h 0,Zxt]
theorem Zd4 {x:Int} (h:in64 x) {k:Nat} (hk:k<64):bit (Zec x) k=((decide (1≤k) && bit x (k-1)) ^^ bit x 63):=by
 unfold Zec
 rw [Zqr _ hk,Zyh1 _ _ hk,Zzi _ hk,show (63:Int)=((63:Nat):Int) from rfl,Zzk x 63 (by omega),Zwh1 h,← bit63 h]
 have h1:shlI .u64 (IntKind.wrap .u64 x) 1=IntKind.wrap .u64 (IntKind.wrap .u64 x*2 ^ 1):=rfl
 rw [h1,Zzi _ hk,Zf4]
 by_cases h2:1≤k
 ·rw [Zzi _ (by omega)]
 ·simp [h2]
theorem Zrl {v:Int} {f:Nat→Bool} (h:∀ k,k<64→f k=bit v k):(List.range 64).map f=bitsOf v:=by
 unfold bitsOf
 apply List.map_congr_left
 intro k hk
 exact h k (List.mem_range.1 hk)
theorem Zsj {f:Nat→Bool} {k:Nat} (hk:k<64):((List.range 64).map f)[k]? = some (f k):=by simp [hk]
theorem Zei (f:Nat→Bool):((List.range 64).map f).length=64:=by simp
theorem Zxi (w:Int) {k:Nat} (hk:k<64):List.getD (bitsOf w) k false=bit w k:=by
 rw [List.getD_eq_getElem?_getD,Zq8 w hk];rfl
def zigB (x:Int) (k:Nat):Bool:=(decide (1≤k) && bit x (k-1)) ^^ bit x 63
theorem Ze4 {l:List Bool} {v:Int} (h:l=bitsOf v):Zwb l=some (IntKind.wrap .i64 v):=by
 subst h
 rw [Zgg1 _ (Zai v),Zq11]
theorem Zkk2 {x:Int} (h:in64 x):∀ (d k n:Nat),d=64-k→k≤64→1≤k→d<n→
  Zvd.l0 n (k:Int) (bitsOf x) (((List.range 64).map (zigB x)).take k++List.replicate (64-k) false)=some (Zec x):=by
 have hlen:=Zai x
 intro d
 induction d with
 | zero=>
  intro k n hd hk h1k hn
  obtain ⟨m,rfl⟩:∃ m,n=m+1:=⟨n-1,by omega⟩
  show Zvd.S0 (Zvd.l0 m) (k:Int) (bitsOf x) _=_
  unfold Zvd.S0
  have hk':k=64:=by omega
  subst hk'
  have hz:(List.range 64).map (zigB x)=bitsOf (Zec x):=Zrl fun k hk=>(Zd4 h hk).symm
  rw [show ltI ((64:Nat):Int) 64=false from rfl,List.take_of_length_le (by simp),Nat.sub_self,List.replicate_zero,List.append_nil,Ze4 hz,Zei]
  have:IntKind.wrap .i64 (Zec x)=Zec x:=Zxg (Zef _)
  rw [this]
  rfl
 | succ d ih=>
  intro k n hd hk h1k hn
  obtain ⟨m,rfl⟩:∃ m,n=m+1:=⟨n-1,by omega⟩
  show Zvd.S0 (Zvd.l0 m) (k:Int) (bitsOf x) _=_
  unfold Zvd.S0
  have h1:ltI (k:Int) 64=true:=decide_eq_true (by omega)
  have hsub:subI .i64 (k:Int) 1=((k-1:Nat):Int):=by rw [Zbr (by omega) (by omega)];omega
  have h2:inB ((k-1:Nat):Int) 64=true:=by rw [inB_d];exact decide_eq_true (by omega)
  have h3:inB (k:Int) 64=true:=by rw [inB_d];exact decide_eq_true (by omega)
  have h4:(((List.range 64).map (zigB x)).take k++List.replicate (64-k) false).length=64:=by simp;omega
  have hs:=ih (k+1) m (by omega) (by omega) (by omega) (by omega)
  rw [show ((k+1:Nat):Int)=(k:Int)+1 from rfl] at hs
  have hz:(!(eqB (List.getD (bitsOf x) (k-1) false) (List.getD (bitsOf x) 63 false)))=zigB x k:=by
   rw [Zxi x (by omega),Zxi x (by omega),eqB_d]
   unfold zigB
   rw [decide_eq_true h1k,Bool.true_and]
   cases bit x (k-1) <;> cases bit x 63 <;> rfl
  rw [h1,hsub,h2,h3,h4,hlen,Zmf (by omega) (by omega),show (k:Int).toNat=k from rfl,show ((k-1:Nat):Int).toNat=k-1 from rfl,hz,
   Zvo _ false 64 k (Zei _) (by omega) (zigB x k) (Zsj (by omega))]
  exact hs
theorem Zxh1 {x:Int} (h:in64 x):Zvd x=some (Zec x):=by
 show Zvd.S (Zvd.l0 fu) x=_
 unfold Zvd.S
 rw [Zmk]
 simp only [Option.bind_some,Zai,decide_true,cond_true]
 have h0:=Zvo ((List.range 64).map (zigB x)) false 64 0 (Zei _) (by omega) (zigB x 0) (Zsj (by omega))
 rw [List.take_zero,List.nil_append,Nat.sub_zero,Nat.zero_add] at h0
 have hz:List.getD (bitsOf x) 63 false=zigB x 0:=by
  rw [Zxi x (by omega)]
  unfold zigB
  simp
 rw [hz,h0]
 exact Zkk2 h (64-1) 1 fu rfl (by omega) (by omega) (by unfold fu;omega)
theorem Zlk2 (k:Nat):bit (-1) k=true:=by
 unfold bit
 have hp:=Zld k
 have:(-1:Int) / 2 ^ k = -1:=((Int.ediv_emod_unique (a:= -1) hp (r:=2 ^ k-1) (q:= -1)).2 ⟨by omega,by omega,by omega⟩).1
 rw [this];rfl
theorem Zi7 (k:Nat):bit 0 k=false:=by
 unfold bit
 rw [Int.zero_ediv];rfl
theorem Zlk {w:Int} (h0:0≤w) {k:Nat} (h1:w<2 ^ k):bit w k=false:=by
 unfold bit
 rw [Int.ediv_eq_zero_of_lt h0 h1];rfl
theorem bit0 (w:Int):bit w 0=decide (w % 2=1):=by
 unfold bit
 rw [Int.pow_zero,Int.ediv_one]
 rcases Int.emod_two_eq w with h | h <;> rw [h] <;> rfl
theorem and1U (a:Int):andI .u64 a 1=a % 2:=by
 unfold andI
 show IntKind.wrap .u64 ((BitVec.ofInt 64 a &&& BitVec.ofInt 64 1).toNat:Int)=_
 have h:(BitVec.ofInt 64 a &&& BitVec.ofInt 64 1).toNat=(a % 2).toNat:=by
  rw [BitVec.toNat_and,show (BitVec.ofInt 64 1).toNat=1 from rfl,Nat.and_one_is_mod,BitVec.toNat_ofInt]
  omega
 rw [h,Zyd]
 omega
theorem Zwq (w:Int) {k:Nat} (hk:k<64):bit (Zoc w) k=((decide (k<63) && bit w (k+1)) ^^ bit w 0):=by
 unfold Zoc
 rw [Zqr _ hk,Zyh1 _ _ hk]
 have h1:shrI .u64 (IntKind.wrap .u64 w) 1=IntKind.wrap .u64 w / 2 ^ 1:=by
  unfold shrI
  show (IntKind.wrap .u64 w).fdiv (2 ^ 1)=_
  rw [Int.fdiv_eq_ediv_of_nonneg _ (by omega)]
 have h2:bit (shrI .u64 (IntKind.wrap .u64 w) 1) k=(decide (k<63) && bit w (k+1)):=by
  rw [h1,Zxt]
  by_cases h:k<63
  ·rw [Zzi _ (by omega),decide_eq_true h,Bool.true_and,Nat.add_comm]
  ·have hk':k=63:=by omega
   subst hk'
   rw [Zlk (k:=1+63) (by rw [Zyd];omega) (by rw [Zyd,show (2:Int) ^ (1+63)=18446744073709551616 from rfl];omega)]
   simp
 have h3:bit (subI .u64 0 (andI .u64 (IntKind.wrap .u64 w) 1)) k=bit w 0:=by
  rw [and1U,Zyd,bit0]
  have:w % 18446744073709551616 % 2=w % 2:=by omega
  rw [this]
  unfold subI
  rw [Zzi _ hk]
  rcases Int.emod_two_eq w with h | h <;> rw [h]
  ·rw [show (0:Int)-0=0 from rfl,Zi7];rfl
  ·rw [show (0:Int)-1 = -1 from rfl,Zlk2];rfl
 rw [h2,h3]
def zagB (w:Int) (k:Nat):Bool:=(decide (k<63) && bit w (k+1)) ^^ bit w 0
theorem Zf02 (w:Int):Znb.S1 (bitsOf w) (((List.range 64).map (zagB w)).take 63++List.replicate (64-63) false)=some (Zoc w):=by
 unfold Znb.S1
 have h4:(((List.range 64).map (zagB w)).take 63++List.replicate (64-63) false).length=64:=by simp
 have hz:List.getD (bitsOf w) 0 false=zagB w 63:=by
  rw [Zxi w (by omega)]
  unfold zagB
  simp
 have hs:=Zvo ((List.range 64).map (zagB w)) false 64 63 (Zei _) (by omega) (zagB w 63) (Zsj (by omega))
 rw [Zai,h4,hz,hs,Nat.sub_self,List.replicate_zero,List.append_nil,List.take_of_length_le (by simp),Zei,
  Ze4 (Zrl fun k hk=>(Zwq w hk).symm:(List.range 64).map (zagB w)=bitsOf (Zoc w))]
 have:IntKind.wrap .i64 (Zoc w)=Zoc w:=Zxg (Zef _)
 rw [this]
 rfl
theorem Zmk2 (w:Int):∀ (d k n:Nat),d=63-k→k≤63→d<n→
  Znb.l0 Znb.S1 n (k:Int) (bitsOf w) (((List.range 64).map (zagB w)).take k++List.replicate (64-k) false)=some (Zoc w):=by
 have hlen:=Zai w
 intro d
 induction d with
 | zero=>
  intro k n hd hk hn
  obtain ⟨m,rfl⟩:∃ m,n=m+1:=⟨n-1,by omega⟩
  show Znb.S0 Znb.S1 (Znb.l0 Znb.S1 m) (k:Int) (bitsOf w) _=_
  unfold Znb.S0
  have hk':k=63:=by omega
  subst hk'
  rw [show ltI ((63:Nat):Int) 63=false from rfl]
  exact Zf02 w
 | succ d ih=>
  intro k n hd hk hn
  obtain ⟨m,rfl⟩:∃ m,n=m+1:=⟨n-1,by omega⟩
  show Znb.S0 Znb.S1 (Znb.l0 Znb.S1 m) (k:Int) (bitsOf w) _=_
  unfold Znb.S0
  have h1:ltI (k:Int) 63=true:=decide_eq_true (by omega)
  have hadd:addI .i64 (k:Int) 1=((k+1:Nat):Int):=by rw [Zmf (by omega) (by omega)];rfl
  have h2:inB ((k+1:Nat):Int) 64=true:=by rw [inB_d];exact decide_eq_true (by omega)
  have h3:inB (k:Int) 64=true:=by rw [inB_d];exact decide_eq_true (by omega)
  have h4:(((List.range 64).map (zagB w)).take k++List.replicate (64-k) false).length=64:=by simp;omega
  have hs:=ih (k+1) m (by omega) (by omega) (by omega)
  have hz:(!(eqB (List.getD (bitsOf w) (k+1) false) (List.getD (bitsOf w) 0 false)))=zagB w k:=by
   rw [Zxi w (by omega),Zxi w (by omega),eqB_d]
   unfold zagB
   rw [decide_eq_true (show k<63 by omega),Bool.true_and]
   cases bit w (k+1) <;> cases bit w 0 <;> rfl
  rw [h1,hadd,h2,h3,h4,hlen,show (k:Int).toNat=k from rfl,show ((k+1:Nat):Int).toNat=k+1 from rfl,hz,
   Zvo _ false 64 k (Zei _) (by omega) (zagB w k) (Zsj (by omega))]
  exact hs
theorem zag_t:Znb.t1 fu=Znb.S1:=rfl
theorem Zpr (w:Int):Znb w=some (Zoc w):=by
 have h1:Znb.S (Znb.l0 Znb.S1 fu) w=some (Zoc w):=by
  have h:=Zmk2 w (63-0) 0 fu rfl (by omega) (by unfold fu;omega)
  rw [List.take_zero,List.nil_append,Nat.sub_zero,show ((0:Nat):Int)=0 from rfl] at h
  unfold Znb.S
  rw [Zmk,Option.bind_some]
  exact h
 rw [← h1,← zag_t]
 rfl
def Zki (word:Int) (a w k:Nat):Bool:=decide (k<w) && (decide (a+k<64) && bit word (a+k))
theorem Zgz {word v:Int} {a w:Nat} (hv:∀ k,k<64→Zki word a w k=bit v k) {k:Nat} (hk:k≤64) (hrest:∀ j,k≤j→j<64→Zki word a w j=false):
  Zwb (((List.range 64).map (Zki word a w)).take k++List.replicate (64-k) false)=some (IntKind.wrap .i64 v):=by
 apply Ze4
 rw [← Zrl hv]
 apply List.ext_getElem?
 intro j
 by_cases hj:j<k
 ·rw [List.getElem?_append_left (by simp;omega),List.getElem?_take,if_pos hj]
 ·by_cases hj2:j<64
  ·rw [List.getElem?_append_right (by simp;omega),List.length_take,Zei,Nat.min_eq_left hk,List.getElem?_replicate,if_pos (by omega),Zsj hj2,hrest j (by omega) hj2]
  ·rw [List.getElem?_eq_none (by simp;omega),List.getElem?_eq_none (by simp;omega)]
theorem Zbw1 {word v:Int} {a w:Nat} (ha:a<64) (hw:w≤64) (hv:∀ k,k<64→Zki word a w k=bit v k):∀ (d k n:Nat),d=64-k→k≤64→d<n→
  Zlc.l0 n (a:Int) (w:Int) (k:Int) (bitsOf word) (((List.range 64).map (Zki word a w)).take k++List.replicate (64-k) false)=some (IntKind.wrap .i64 v):=by
 have hlen:=Zai word
 intro d
 induction d with
 | zero=>
  intro k n hd hk hn
  obtain ⟨m,rfl⟩:∃ m,n=m+1:=⟨n-1,by omega⟩
  show Zlc.S0 (Zlc.l0 m) (a:Int) (w:Int) (k:Int) (bitsOf word) _=_
  unfold Zlc.S0
  have hk':k=64:=by omega
  subst hk'
  have h4:(((List.range 64).map (Zki word a w)).take 64++List.replicate (64-64) false).length=64:=by simp
  rw [show ltI ((64:Nat):Int) 64=false from rfl,h4,Zgz hv (Nat.le_refl _) (fun j h1 h2=>by omega)]
  rfl
 | succ d ih=>
  intro k n hd hk hn
  obtain ⟨m,rfl⟩:∃ m,n=m+1:=⟨n-1,by omega⟩
  show Zlc.S0 (Zlc.l0 m) (a:Int) (w:Int) (k:Int) (bitsOf word) _=_
  unfold Zlc.S0
  have h1:ltI (k:Int) 64=true:=decide_eq_true (by omega)
  have h4:(((List.range 64).map (Zki word a w)).take k++List.replicate (64-k) false).length=64:=by simp;omega
  have h5:leI 0 (a:Int)=true:=decide_eq_true (by omega)
  have h6:ltI (a:Int) 64=true:=decide_eq_true (by omega)
  rw [h1,h4,h5,h6]
  by_cases hkw:k<w
  ·by_cases hka:a+k<64
   ·have h7:ltI (k:Int) (w:Int)=true:=decide_eq_true (by omega)
    have h8:ltI (k:Int) (subI .i64 64 (a:Int))=true:=by rw [Zbr (by omega) (by omega)];exact decide_eq_true (by omega)
    have hadd:addI .i64 (a:Int) (k:Int)=((a+k:Nat):Int):=by rw [Zmf (by omega) (by omega)];rfl
    have h2:inB ((a+k:Nat):Int) 64=true:=by rw [inB_d];exact decide_eq_true (by omega)
    have h3:inB (k:Int) 64=true:=by rw [inB_d];exact decide_eq_true (by omega)
    have hs:=ih (k+1) m (by omega) (by omega) (by omega)
    rw [show ((k+1:Nat):Int)=(k:Int)+1 from rfl] at hs
    have hz:List.getD (bitsOf word) (a+k) false=Zki word a w k:=by
     rw [Zxi word hka]
     unfold Zki
     rw [decide_eq_true hkw,decide_eq_true hka];rfl
    rw [h7,h8,hadd,h2,h3,hlen,Zmf (by omega) (by omega),show (k:Int).toNat=k from rfl,show ((a+k:Nat):Int).toNat=a+k from rfl,hz,
     Zvo _ false 64 k (Zei _) (by omega) (Zki word a w k) (Zsj (by omega))]
    exact hs
   ·have h7:ltI (k:Int) (w:Int)=true:=decide_eq_true (by omega)
    have h8:ltI (k:Int) (subI .i64 64 (a:Int))=false:=by rw [Zbr (by omega) (by omega)];exact decide_eq_false (by omega)
    rw [h7,h8,Zgz hv hk (fun j h1 h2=>by unfold Zki;rw [decide_eq_false (show ¬ (a+j<64) by omega)];simp)]
    rfl
  ·have h7:ltI (k:Int) (w:Int)=false:=decide_eq_false (by omega)
   rw [h7,Zgz hv hk (fun j h1 h2=>by unfold Zki;rw [decide_eq_false (show ¬ (j<w) by omega)];simp)]
   rfl
theorem Zvt {word v:Int} {a w:Nat} (ha:a<64) (hw:w≤64) (hv:∀ k,k<64→Zki word a w k=bit v k):Zlc word (a:Int) (w:Int)=some (IntKind.wrap .i64 v):=by
 show Zlc.S (Zlc.l0 fu) word (a:Int) (w:Int)=_
 have h:=Zbw1 ha hw hv (64-0) 0 fu rfl (by omega) (by unfold fu;omega)
 rw [List.take_zero,List.nil_append,Nat.sub_zero,show ((0:Nat):Int)=0 from rfl] at h
 unfold Zlc.S
 rw [Zmk,Option.bind_some]
 exact h
theorem Zo11 (word:Int):Zlc word 0 7=some (word % 128):=by
 have h:=Zvt (word:=word) (v:=word % 128) (a:=0) (w:=7) (by omega) (by omega) (fun k hk=>by
  unfold Zki
  rw [Nat.zero_add,decide_eq_true hk,Bool.true_and]
  by_cases h7:k<7
  ·rw [decide_eq_true h7,Bool.true_and]
   have e1:=mod_pow_succ word k
   have e2:=mod_pow_succ (word % 2 ^ 7) k
   have hp:=Zld k
   rw [Int.emod_emod_of_dvd word (Zwt (show k+1≤7 by omega)),Int.emod_emod_of_dvd word (Zwt (show k≤7 by omega)),e1] at e2
   show bit word k=bit (word % 2 ^ 7) k
   revert e2
   cases bit (word % 2 ^ 7) k <;> cases bit word k <;> intro e2
   ·rfl
   ·simp only [if_true,Bool.false_eq_true,if_false] at e2;omega
   ·simp only [if_true,Bool.false_eq_true,if_false] at e2;omega
   ·rfl
  ·rw [decide_eq_false h7,Bool.false_and]
   refine (Zlk (by omega) ?_).symm
   have:(2:Int) ^ 7≤2 ^ k:=by exact_mod_cast Nat.pow_le_pow_right (n:=2) (by omega) (show 7≤k by omega)
   rw [show (2:Int) ^ 7=128 from rfl] at this
   omega)
 rw [Zxg (x:=word % 128) (by unfold in64;omega)] at h
 exact h
theorem Zcw1 (word:Int):Zlc word 7 64=some (word % 18446744073709551616 / 128):=by
 have h:=Zvt (word:=word) (v:=word % 18446744073709551616 / 128) (a:=7) (w:=64) (by omega) (by omega) (fun k hk=>by
  unfold Zki
  rw [decide_eq_true hk,Bool.true_and]
  show _=bit (word % 18446744073709551616 / 2 ^ 7) k
  rw [Zxt]
  by_cases h7:7+k<64
  ·rw [decide_eq_true h7,Bool.true_and,Zqi _ h7]
  ·rw [decide_eq_false h7,Bool.false_and]
   refine (Zlk (by omega) ?_).symm
   have:(2:Int) ^ 64≤2 ^ (7+k):=by exact_mod_cast Nat.pow_le_pow_right (n:=2) (by omega) (show 64≤7+k by omega)
   rw [← pow64] at this
   omega)
 rw [Zxg (x:=word % 18446744073709551616 / 128) (by unfold in64;omega)] at h
 exact h
end Go.AM.Pure
