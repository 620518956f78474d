import Derived.Test.YtclpadlpcfnfmaaGreatAmPBits
/- Zigzag: layer 01's reference and the program's. -/
namespace Go.AM.Pure
open Go.AM
def BN (x:Int):Prop:= -9223372036854775808<=x/\x<9223372036854775808
theorem Kr (n:Int):BN (IntKind.wrap .i64 n):=by unfold BN;rw [KW];split <;> omega
theorem M7 {x:Int} (h:BN x):IntKind.wrap .i64 x=x:=IL h.1 h.2
theorem vO {x:Int} (h:BN x) (k:Nat):bit (x / 2 ^ 63) k=decide (x<0):=by
 have hq:x / 2 ^ 63=if x<0 then -1 else 0:=by
  obtain ⟨h1,h2⟩:=h;rw [show (2:Int) ^ 63=9223372036854775808 from rfl];split <;> omega
 rw [hq];unfold bit;have hp:=Fe k;split
 ·rename_i hx;have:(-1:Int) / 2 ^ k = -1:=by
   have:=(Int.ediv_emod_unique (a:= -1) hp (r:=2 ^ k-1) (q:= -1)).2 ⟨Ad,Ad,Ad⟩;exact this.1
  rw [this,Aq hx];rfl
 ·rename_i hx;rw [Int.zero_ediv,Ax hx];rfl
theorem Xja {x:Int} (h:BN x):bit x 63=decide (x<0):=by
 rw [<- vO h 0,Ri]
theorem aO {x:Int} (h:BN x) {k:Nat} (hk:k<64):bit (EL x) k=((decide (1<=k) && bit x (k-1)) ^^ bit x 63):=by
 unfold EL;rw [P4 _ hk,vP _ _ hk,JW _ hk,show (63:Int)=((63:Nat):Int) from rfl,N4 x 63 Ad,vO h,<- Xja h];have h1:EN .u64 (IntKind.wrap .u64 x) 1=IntKind.wrap .u64 (IntKind.wrap .u64 x*2 ^ 1):=rfl;rw [h1,JW _ hk,WS];by_cases h2:1<=k
 ·rw [JW _ Ad]
 ·simp [h2]
theorem Up {v:Int} {f:Nat->Bool} (h:∀ k,k<64->f k=bit v k):(List.range 64).map f=bitsOf v:=by
 unfold bitsOf;apply List.map_congr_left;intro k hk;exact h k (List.mem_range.1 hk)
theorem Q8 {f:Nat->Bool} {k:Nat} (hk:k<64):((List.range 64).map f)[k]? = some (f k):=by simp [hk]
theorem OP (f:Nat->Bool):((List.range 64).map f).length=64:=Ah
theorem P1 (w:Int) {k:Nat} (hk:k<64):List.getD (bitsOf w) k false=bit w k:=by
 rw [AK,s5 w hk];rfl
def Pl (x:Int) (k:Nat):Bool:=(decide (1<=k) && bit x (k-1)) ^^ bit x 63
theorem aP {l:List Bool} {v:Int} (h:l=bitsOf v):EY l=some (IntKind.wrap .i64 v):=by
 subst h;rw [Zct _ (PR v),Zx1]
theorem Yfd {x:Int} (h:BN x):∀ (d k n:Nat),d=64-k->k<=64->1<=k->d<n->
  HU.l0 n (k:Int) (bitsOf x) (((List.range 64).map (Pl x)).take k++List.replicate (64-k) false)=some (EL x):=by
 have hlen:=PR x;intro d;induction d with
 | zero=>
  intro k n hd hk h1k hn;obtain ⟨m,rfl⟩:∃ m,n=m+1:=⟨n-1,Ad⟩;show HU.S0 (HU.l0 m) (k:Int) (bitsOf x) _=_;unfold HU.S0;have De:k=64:=Ad
  subst De;have hz:(List.range 64).map (Pl x)=bitsOf (EL x):=Up λ k hk=>(aO h hk).symm
  rw [show A8 ((64:Nat):Int) 64=false from rfl,AL Ah,Nat.sub_self,List.replicate_zero,AE,aP hz,OP];have:IntKind.wrap .i64 (EL x)=EL x:=M7 (Kr _);rw [this];rfl
 | succ d ih=>
  intro k n hd hk h1k hn;obtain ⟨m,rfl⟩:∃ m,n=m+1:=⟨n-1,Ad⟩;show HU.S0 (HU.l0 m) (k:Int) (bitsOf x) _=_;unfold HU.S0;have h1:A8 (k:Int) 64=true:=Aq Ad;have J5:Bt .i64 (k:Int) 1=((k-1:Nat):Int):=by rw [UK Ad Ad];omega
  have h2:Bf ((k-1:Nat):Int) 64=true:=by rw [KB];exact Aq Ad
  have h3:Bf (k:Int) 64=true:=by rw [KB];exact Aq Ad
  have h4:(((List.range 64).map (Pl x)).take k++List.replicate (64-k) false).length=64:=Ai
  have hs:=ih (k+1) m Ad Ad Ad Ad;rw [show ((k+1:Nat):Int)=(k:Int)+1 from rfl] at hs;have hz:(!(RZ (List.getD (bitsOf x) (k-1) false) (List.getD (bitsOf x) 63 false)))=Pl x k:=by
   rw [P1 x Ad,P1 x Ad,Zmm];unfold Pl;rw [Aq h1k,AH];cases bit x (k-1) <;> cases bit x 63 <;> rfl
  rw [h1,J5,h2,h3,h4,hlen,Iz Ad Ad,show (k:Int).toNat=k from rfl,show ((k-1:Nat):Int).toNat=k-1 from rfl,hz,
   UC _ false 64 k (OP _) Ad (Pl x k) (Q8 Ad)]
  exact hs
theorem Zgu {x:Int} (h:BN x):HU x=some (EL x):=by
 show HU.S (HU.l0 fu) x=_;unfold HU.S;rw [Ug];simp only [An,PR,decide_true,Ak];have h0:=UC ((List.range 64).map (Pl x)) false 64 0 (OP _) Ad (Pl x 0) (Q8 Ad);rw [List.take_zero,AS,Nat.sub_zero,AF] at h0;have hz:List.getD (bitsOf x) 63 false=Pl x 0:=by
  rw [P1 x Ad];unfold Pl;simp
 rw [hz,h0];exact Yfd h (64-1) 1 fu rfl Ad Ad Ae
theorem jc (k:Nat):bit (-1) k=true:=by
 unfold bit;have hp:=Fe k;have:(-1:Int) / 2 ^ k = -1:=((Int.ediv_emod_unique (a:= -1) hp (r:=2 ^ k-1) (q:= -1)).2 ⟨Ad,Ad,Ad⟩).1;rw [this];rfl
theorem UB (k:Nat):bit 0 k=false:=by
 unfold bit;rw [Int.zero_ediv];rfl
theorem OT {w:Int} (h0:0<=w) {k:Nat} (h1:w<2 ^ k):bit w k=false:=by
 unfold bit;rw [Int.ediv_eq_zero_of_lt h0 h1];rfl
theorem Xpf (w:Int):bit w 0=decide (w % 2=1):=by
 unfold bit;rw [Int.pow_zero,Int.ediv_one];rcases Int.emod_two_eq w with h | h <;> rw [h] <;> rfl
theorem Xka (a:Int):Cb .u64 a 1=a % 2:=by
 unfold Cb;show IntKind.wrap .u64 ((BitVec.ofInt 64 a &&& BitVec.ofInt 64 1).toNat:Int)=_;have h:(BitVec.ofInt 64 a &&& BitVec.ofInt 64 1).toNat=(a % 2).toNat:=by
  rw [BitVec.toNat_and,show (BitVec.ofInt 64 1).toNat=1 from rfl,Nat.and_one_is_mod,BitVec.toNat_ofInt];omega
 rw [h,E6];omega
theorem UJ (w:Int) {k:Nat} (hk:k<64):bit (E5 w) k=((decide (k<63) && bit w (k+1)) ^^ bit w 0):=by
 unfold E5;rw [P4 _ hk,vP _ _ hk];have h1:B7 .u64 (IntKind.wrap .u64 w) 1=IntKind.wrap .u64 w / 2 ^ 1:=by
  unfold B7;show (IntKind.wrap .u64 w).fdiv (2 ^ 1)=_;rw [Int.fdiv_eq_ediv_of_nonneg _ Ad]
 have h2:bit (B7 .u64 (IntKind.wrap .u64 w) 1) k=(decide (k<63) && bit w (k+1)):=by
  rw [h1,Ri];by_cases h:k<63
  ·rw [JW _ Ad,Aq h,AH,Nat.add_comm]
  ·have De:k=63:=Ad
   subst De;rw [OT (k:=1+63) (by rw [E6];omega) (by rw [E6,show (2:Int) ^ (1+63)=18446744073709551616 from rfl];omega)];simp
 have h3:bit (Bt .u64 0 (Cb .u64 (IntKind.wrap .u64 w) 1)) k=bit w 0:=by
  rw [Xka,E6,Xpf];have:w % 18446744073709551616 % 2=w % 2:=Ad
  rw [this];unfold Bt;rw [JW _ hk];rcases Int.emod_two_eq w with h | h <;> rw [h]
  ·rw [show (0:Int)-0=0 from rfl,UB];rfl
  ·rw [show (0:Int)-1 = -1 from rfl,jc];rfl
 rw [h2,h3]
def Nv (w:Int) (k:Nat):Bool:=(decide (k<63) && bit w (k+1)) ^^ bit w 0
theorem Yuv (w:Int):Eg.S1 (bitsOf w) (((List.range 64).map (Nv w)).take 63++List.replicate (64-63) false)=some (E5 w):=by
 unfold Eg.S1;have h4:(((List.range 64).map (Nv w)).take 63++List.replicate (64-63) false).length=64:=Ah
 have hz:List.getD (bitsOf w) 0 false=Nv w 63:=by
  rw [P1 w Ad];unfold Nv;simp
 have hs:=UC ((List.range 64).map (Nv w)) false 64 63 (OP _) Ad (Nv w 63) (Q8 Ad)
 rw [PR,h4,hz,hs,Nat.sub_self,List.replicate_zero,AE,AL Ah,OP,
  aP (Up λ k hk=>(UJ w hk).symm:(List.range 64).map (Nv w)=bitsOf (E5 w))]
 have:IntKind.wrap .i64 (E5 w)=E5 w:=M7 (Kr _);rw [this];rfl
theorem Ygd (w:Int):∀ (d k n:Nat),d=63-k->k<=63->d<n->
  Eg.l0 Eg.S1 n (k:Int) (bitsOf w) (((List.range 64).map (Nv w)).take k++List.replicate (64-k) false)=some (E5 w):=by
 have hlen:=PR w;intro d;induction d with
 | zero=>
  intro k n hd hk hn;obtain ⟨m,rfl⟩:∃ m,n=m+1:=⟨n-1,Ad⟩;show Eg.S0 Eg.S1 (Eg.l0 Eg.S1 m) (k:Int) (bitsOf w) _=_;unfold Eg.S0;have De:k=63:=Ad
  subst De;rw [show A8 ((63:Nat):Int) 63=false from rfl];exact Yuv w
 | succ d ih=>
  intro k n hd hk hn;obtain ⟨m,rfl⟩:∃ m,n=m+1:=⟨n-1,Ad⟩;show Eg.S0 Eg.S1 (Eg.l0 Eg.S1 m) (k:Int) (bitsOf w) _=_;unfold Eg.S0;have h1:A8 (k:Int) 63=true:=Aq Ad;have JA:A7 .i64 (k:Int) 1=((k+1:Nat):Int):=by rw [Iz Ad Ad];rfl
  have h2:Bf ((k+1:Nat):Int) 64=true:=by rw [KB];exact Aq Ad
  have h3:Bf (k:Int) 64=true:=by rw [KB];exact Aq Ad
  have h4:(((List.range 64).map (Nv w)).take k++List.replicate (64-k) false).length=64:=Ai
  have hs:=ih (k+1) m Ad Ad Ad;have hz:(!(RZ (List.getD (bitsOf w) (k+1) false) (List.getD (bitsOf w) 0 false)))=Nv w k:=by
   rw [P1 w Ad,P1 w Ad,Zmm];unfold Nv;rw [Aq (show k<63 by omega),AH];cases bit w (k+1) <;> cases bit w 0 <;> rfl
  rw [h1,JA,h2,h3,h4,hlen,show (k:Int).toNat=k from rfl,show ((k+1:Nat):Int).toNat=k+1 from rfl,hz,
   UC _ false 64 k (OP _) Ad (Nv w k) (Q8 Ad)]
  exact hs
theorem Xla:Eg.t1 fu=Eg.S1:=rfl
theorem gm (w:Int):Eg w=some (E5 w):=by
 have h1:Eg.S (Eg.l0 Eg.S1 fu) w=some (E5 w):=by
  have h:=Ygd w (63-0) 0 fu rfl Ad Ae;rw [List.take_zero,AS,Nat.sub_zero,show ((0:Nat):Int)=0 from rfl] at h;unfold Eg.S;rw [Ug,An];exact h
 rw [<- h1,<- Xla];rfl
def Lq (word:Int) (a w k:Nat):Bool:=decide (k<w) && (decide (a+k<64) && bit word (a+k))
theorem ic {word v:Int} {a w:Nat} (hv:∀ k,k<64->Lq word a w k=bit v k) {k:Nat} (hk:k<=64) (RD:∀ j,k<=j->j<64->Lq word a w j=false):
  EY (((List.range 64).map (Lq word a w)).take k++List.replicate (64-k) false)=some (IntKind.wrap .i64 v):=by
 apply aP;rw [<- Up hv];apply List.ext_getElem?;intro j;by_cases hj:j<k
 ·rw [AR Ai,AQ,if_pos hj]
 ·by_cases QK:j<64
  ·rw [AJ Ai,Ar,OP,Nat.min_eq_left hk,List.getElem?_replicate,if_pos Ad,Q8 QK,RD j Ad QK]
  ·rw [List.getElem?_eq_none Ai,List.getElem?_eq_none Ai]
theorem Zyx {word v:Int} {a w:Nat} (ha:a<64) (hw:w<=64) (hv:∀ k,k<64->Lq word a w k=bit v k):∀ (d k n:Nat),d=64-k->k<=64->d<n->
  Gu.l0 n (a:Int) (w:Int) (k:Int) (bitsOf word) (((List.range 64).map (Lq word a w)).take k++List.replicate (64-k) false)=some (IntKind.wrap .i64 v):=by
 have hlen:=PR word;intro d;induction d with
 | zero=>
  intro k n hd hk hn;obtain ⟨m,rfl⟩:∃ m,n=m+1:=⟨n-1,Ad⟩;show Gu.S0 (Gu.l0 m) (a:Int) (w:Int) (k:Int) (bitsOf word) _=_;unfold Gu.S0;have De:k=64:=Ad
  subst De;have h4:(((List.range 64).map (Lq word a w)).take 64++List.replicate (64-64) false).length=64:=Ah
  rw [show A8 ((64:Nat):Int) 64=false from rfl,h4,ic hv (Au _) (λ j h1 h2=>by omega)];rfl
 | succ d ih=>
  intro k n hd hk hn;obtain ⟨m,rfl⟩:∃ m,n=m+1:=⟨n-1,Ad⟩;show Gu.S0 (Gu.l0 m) (a:Int) (w:Int) (k:Int) (bitsOf word) _=_;unfold Gu.S0;have h1:A8 (k:Int) 64=true:=Aq Ad;have h4:(((List.range 64).map (Lq word a w)).take k++List.replicate (64-k) false).length=64:=Ai
  have h5:BC 0 (a:Int)=true:=Aq Ad;have h6:A8 (a:Int) 64=true:=Aq Ad;rw [h1,h4,h5,h6];by_cases qj:k<w
  ·by_cases eP:a+k<64
   ·have h7:A8 (k:Int) (w:Int)=true:=Aq Ad;have h8:A8 (k:Int) (Bt .i64 64 (a:Int))=true:=by rw [UK Ad Ad];exact Aq Ad
    have JA:A7 .i64 (a:Int) (k:Int)=((a+k:Nat):Int):=by rw [Iz Ad Ad];rfl
    have h2:Bf ((a+k:Nat):Int) 64=true:=by rw [KB];exact Aq Ad
    have h3:Bf (k:Int) 64=true:=by rw [KB];exact Aq Ad
    have hs:=ih (k+1) m Ad Ad Ad;rw [show ((k+1:Nat):Int)=(k:Int)+1 from rfl] at hs;have hz:List.getD (bitsOf word) (a+k) false=Lq word a w k:=by
     rw [P1 word eP];unfold Lq;rw [Aq qj,Aq eP];rfl
    rw [h7,h8,JA,h2,h3,hlen,Iz Ad Ad,show (k:Int).toNat=k from rfl,show ((a+k:Nat):Int).toNat=a+k from rfl,hz,
     UC _ false 64 k (OP _) Ad (Lq word a w k) (Q8 Ad)]
    exact hs
   ·have h7:A8 (k:Int) (w:Int)=true:=Aq Ad;have h8:A8 (k:Int) (Bt .i64 64 (a:Int))=false:=by rw [UK Ad Ad];exact Ax Ad
    rw [h7,h8,ic hv hk (λ j h1 h2=>by unfold Lq;rw [Ax (show ¬ (a+j<64) by omega)];simp)];rfl
  ·have h7:A8 (k:Int) (w:Int)=false:=Ax Ad;rw [h7,ic hv hk (λ j h1 h2=>by unfold Lq;rw [Ax (show ¬ (j<w) by omega)];simp)];rfl
theorem rG {word v:Int} {a w:Nat} (ha:a<64) (hw:w<=64) (hv:∀ k,k<64->Lq word a w k=bit v k):Gu word (a:Int) (w:Int)=some (IntKind.wrap .i64 v):=by
 show Gu.S (Gu.l0 fu) word (a:Int) (w:Int)=_;have h:=Zyx ha hw hv (64-0) 0 fu rfl Ad Ae;rw [List.take_zero,AS,Nat.sub_zero,show ((0:Nat):Int)=0 from rfl] at h;unfold Gu.S;rw [Ug,An];exact h
theorem Zv1 (word:Int):Gu word 0 7=some (word % 128):=by
 have h:=rG (word:=word) (v:=word % 128) (a:=0) (w:=7) Ad Ad (λ k hk=>by
  unfold Lq;rw [AF,Aq hk,AH];by_cases h7:k<7
  ·rw [Aq h7,AH];have e1:=mod_pow_succ word k;have e2:=mod_pow_succ (word % 2 ^ 7) k;have hp:=Fe k;rw [Int.emod_emod_of_dvd word (WV (show k+1<=7 by omega)),Int.emod_emod_of_dvd word (WV (show k<=7 by omega)),e1] at e2;show bit word k=bit (word % 2 ^ 7) k;revert e2;cases bit (word % 2 ^ 7) k <;> cases bit word k <;> intro e2
   ·rfl
   ·simp only [if_true,Bool.false_eq_true,if_false] at e2;omega
   ·simp only [if_true,Bool.false_eq_true,if_false] at e2;omega
   ·rfl
  ·rw [Ax h7,Bool.false_and];refine (OT Ad ?_).symm;have:(2:Int) ^ 7<=2 ^ k:=by exact_mod_cast Nat.pow_le_pow_right (n:=2) Ad (show 7<=k by omega)
   rw [show (2:Int) ^ 7=128 from rfl] at this
   omega)
 rw [M7 (x:=word % 128) (by unfold BN;omega)] at h;exact h
theorem Zxx (word:Int):Gu word 7 64=some (word % 18446744073709551616 / 128):=by
 have h:=rG (word:=word) (v:=word % 18446744073709551616 / 128) (a:=7) (w:=64) Ad Ad (λ k hk=>by
  unfold Lq;rw [Aq hk,AH];show _=bit (word % 18446744073709551616 / 2 ^ 7) k;rw [Ri];by_cases h7:7+k<64
  ·rw [Aq h7,AH,Nd _ h7]
  ·rw [Ax h7,Bool.false_and];refine (OT Ad ?_).symm;have:(2:Int) ^ 64<=2 ^ (7+k):=by exact_mod_cast Nat.pow_le_pow_right (n:=2) Ad (show 64<=7+k by omega)
   rw [<- Nn] at this
   omega)
 rw [M7 (x:=word % 18446744073709551616 / 128) (by unfold BN;omega)] at h;exact h
end Go.AM.Pure
