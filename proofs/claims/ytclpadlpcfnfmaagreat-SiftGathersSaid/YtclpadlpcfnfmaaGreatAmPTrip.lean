import Derived.Test.YtclpadlpcfnfmaaGreatAmPPut
/- What is written is read again: layers 02, 06. -/
namespace Go.AM.Pure
open Go.AM
theorem kQ {x:Int} (h:BZ x):CP (Cv x)=x:=by
 have hz:BZ (CP (Cv x)):=HU _
 have h2:CP (Cv x) % 18446744073709551616=x % 18446744073709551616:=by
  apply Jk
  intro k hk
  rw [Ol _ hk,TL h (show 0<64 by omega)]
  by_cases h63:k<63
  ·rw [TL h (show k+1<64 by omega),decide_eq_true h63,decide_eq_true (show 1≤k+1 by omega),Nat.add_sub_cancel]
   simp
  ·have:k=63:=by omega
   subst this
   simp
 have e1:=JG (CP (Cv x))
 rw [h2,JG,GY h,GY hz] at e1
 exact e1.symm
theorem dU:∀ (f:Nat) (u:Int),0<f→0≤u→u<128 ^ f→Form (dig f u)∧Er (dig f u)=u
 | 0,_,h,_,_=>by omega
 | f+1,u,_,h0,h1=>by
  unfold dig
  by_cases hlt:u<128
  ·rw [if_pos hlt]
   exact ⟨⟨h0,hlt⟩,by unfold Er Er;omega⟩
  ·rw [if_neg hlt]
   have h4:u / 128<128 ^ f:=by
    rw [Int.pow_succ] at h1
    exact Int.ediv_lt_of_lt_mul (by omega) h1
   have hf:0<f:=by
    rcases Nat.eq_zero_or_pos f with h | h
    ·subst h;simp at h4;omega
    ·exact h
   obtain ⟨k1,k2⟩:=dU f (u / 128) hf (by omega) h4
   obtain ⟨a1,_⟩:=Qc f (u / 128) hf (by omega) h4
   refine ⟨?_,?_⟩
   ·cases hd:dig f (u / 128) with
    | nil=>rw [hd] at a1;simp at a1
    | cons b l=>rw [hd] at k1;exact ⟨by omega,k1⟩
   ·unfold Er
    rw [k2]
    omega
theorem Sh:∀ (l:List Int),Form l→∀ (i:Nat) (b:Int),l[i]? = some b→(i+1<l.length→128≤b∧b<256)∧(i+1=l.length→0≤b∧b<128)
 | [],h,_,_,_=>h.elim
 | [a],h,i,b,hi=>by
  cases i with
  | zero=>simp at hi;subst hi;exact ⟨fun h'=>by simp at h',fun _=>h⟩
  | succ i=>simp at hi
 | a :: c :: l,⟨h1,h2⟩,i,b,hi=>by
  cases i with
  | zero=>simp at hi;subst hi;exact ⟨fun _=>h1,fun h'=>by simp at h'⟩
  | succ i=>
   have:=Sh (c :: l) h2 i b (by simpa using hi)
   simp only [List.length_cons] at this ⊢
   exact ⟨fun h'=>this.1 (by omega),fun h'=>this.2 (by omega)⟩
theorem dV {x:Int} (hx:BZ x) {s:ByteArray} {m:Nat} (hm:m≤10) (hms:m≤s.size) (hL:Form ((Ax s).take m)) (hv:Er ((Ax s).take m)=Cv x % 18446744073709551616)
  (hd10:(Ax s).take m=dig 10 (Cv x % 18446744073709551616)):∀ (d i n:Nat) (wr:Int),d=m-1-i→i<m→d<n→wr=Er ((Ax s).take i)→
  Dx.l0 n s wr (i:Int)=some (x,(m:Int),0):=by
 have hlen:((Ax s).take m).length=m:=by rw [List.length_take,Bz];omega
 intro d
 induction d with
 | zero=>
  intro i n wr hd hi hn hw
  obtain ⟨n,rfl⟩:∃ k,n=k+1:=⟨n-1,by omega⟩
  show Dx.S0 (Dx.l0 n) s wr (i:Int)=_
  unfold Dx.S0
  have hlt:i<s.size:=by omega
  have him:i+1=m:=by omega
  have hget:((Ax s).take m)[i]? = some (byteAt s (i:Int)):=by rw [List.getElem?_take,if_pos hi,Fq s i hlt]
  have hb:=(Sh _ hL i _ hget).2 (by omega)
  have a2:ltI (i:Int) 10=true:=decide_eq_true (by omega)
  have a3:inB (i:Int) (AX s)=true:=by rw [Iw,CB];exact decide_eq_true (by omega)
  have a4:ltI (i:Int) (AX s)=true:=by rw [CB];exact decide_eq_true (by omega)
  have a5:Df .i64 7 (i:Int)=((7*i:Nat):Int):=by rw [YF (by omega) (by omega)];omega
  obtain ⟨_,c2⟩:=Vt (byteAt s (i:Int)) hb.1 (by omega)
  have hti:((Ax s).take i).length=i:=by rw [List.length_take,Bz];omega
  have hV:=On ((Ax s).take i)
  rw [hti,Ks] at hV
  have hV0:=Il ((Ax s).take i)
  have hw8:IntKind.wrap .i64 (byteAt s (i:Int) % 128)=byteAt s (i:Int) % 128:=Ew (by omega) (by omega)
  have hwith:=Vs (c:=byteAt s (i:Int) % 128) hV0 hV (by omega) (by omega) (by omega)
  have htk:(Ax s).take m=(Ax s).take i++[byteAt s (i:Int)]:=by
   rw [← him,List.take_add_one,Fq s i hlt];rfl
  have hsum:Er ((Ax s).take i)+byteAt s (i:Int) % 128*2 ^ (7*i)=Cv x % 18446744073709551616:=by
   rw [← hv,htk,JH,hti,Ks]
  have e2:ltI (byteAt s (i:Int)) 128=true:=decide_eq_true hb.2
  rw [a2,a3,a4,a5,c2,hw8,hw,hwith,hsum,e2]
  simp only [cond_true,Option.bind_some]
  have hzag:CP (IntKind.wrap .i64 (Cv x % 18446744073709551616))=x:=by
   rw [JG,← kQ hx]
   apply kM
   rw [kQ hx,Gi]
   split <;> omega
  have hadd:An .i64 (i:Int) 1=(m:Int):=by rw [Fp (by omega) (by omega)];omega
  have hin:inC 0 (m:Int) (AX s)=true:=by rw [cD,CB];exact decide_eq_true (by omega)
  rw [Se,Option.bind_some,hzag,FA hx,Option.bind_some,hadd,hin,Si s m,hd10]
  have:eqS (HQ x) (ofBytes (dig 10 (Cv x % 18446744073709551616)))=true:=by rw [LQ];exact decide_eq_true rfl
  rw [this]
  rfl
 | succ d ih=>
  intro i n wr hd hi hn hw
  obtain ⟨n,rfl⟩:∃ k,n=k+1:=⟨n-1,by omega⟩
  show Dx.S0 (Dx.l0 n) s wr (i:Int)=_
  unfold Dx.S0
  have hlt:i<s.size:=by omega
  have hget:((Ax s).take m)[i]? = some (byteAt s (i:Int)):=by rw [List.getElem?_take,if_pos hi,Fq s i hlt]
  have hb:=(Sh _ hL i _ hget).1 (by omega)
  have a2:ltI (i:Int) 10=true:=decide_eq_true (by omega)
  have a3:inB (i:Int) (AX s)=true:=by rw [Iw,CB];exact decide_eq_true (by omega)
  have a4:ltI (i:Int) (AX s)=true:=by rw [CB];exact decide_eq_true (by omega)
  have a5:Df .i64 7 (i:Int)=((7*i:Nat):Int):=by rw [YF (by omega) (by omega)];omega
  obtain ⟨_,c2⟩:=Vt (byteAt s (i:Int)) (by omega) hb.2
  have hti:((Ax s).take i).length=i:=by rw [List.length_take,Bz];omega
  have hV:=On ((Ax s).take i)
  rw [hti,Ks] at hV
  have hV0:=Il ((Ax s).take i)
  have hw8:IntKind.wrap .i64 (byteAt s (i:Int) % 128)=byteAt s (i:Int) % 128:=Ew (by omega) (by omega)
  have hwith:=Vs (c:=byteAt s (i:Int) % 128) hV0 hV (by omega) (by omega) (by omega)
  have htk:(Ax s).take (i+1)=(Ax s).take i++[byteAt s (i:Int)]:=by
   rw [List.take_add_one,Fq s i hlt];rfl
  have e2:ltI (byteAt s (i:Int)) 128=false:=decide_eq_false (by omega)
  rw [a2,a3,a4,a5,c2,hw8,hw,hwith,e2,Fp (by omega) (by omega)]
  simp only [cond_true,cond_false,Option.bind_some]
  refine ih (i+1) n _ (by omega) (by omega) (by omega) ?_
  rw [htk,JH,hti,Ks]
  have hp9:(2:Int) ^ (7*i)*128≤9223372036854775808:=by
   have:(2:Int) ^ (7*i)*2 ^ 7≤2 ^ 63:=by
    rw [← Int.pow_add]
    exact_mod_cast Nat.pow_le_pow_right (n:=2) (by omega) (show 7*i+7≤63 by omega)
   exact this
  have hpos:=Da (7*i)
  have hbb:byteAt s (i:Int) % 128*2 ^ (7*i)≤127*2 ^ (7*i):=Int.mul_le_mul_of_nonneg_right (by omega) (by omega)
  have hbn:0≤byteAt s (i:Int) % 128*2 ^ (7*i):=Int.mul_nonneg (by omega) (by omega)
  exact Ew (by omega) (by omega)
theorem Znu (x:Int):1≤(HQ x).size∧(HQ x).size≤10∧Form (dig 10 (Cv x % 18446744073709551616))∧Er (dig 10 (Cv x % 18446744073709551616))=Cv x % 18446744073709551616:=by
 have hlt:Cv x % 18446744073709551616<128 ^ 10:=by
  have:(128:Int) ^ 10=1180591620717411303424:=rfl
  omega
 obtain ⟨k1,k2⟩:=dU 10 (Cv x % 18446744073709551616) (by omega) (by omega) hlt
 obtain ⟨a1,a2,_⟩:=Qc 10 (Cv x % 18446744073709551616) (by omega) (by omega) hlt
 unfold HQ
 rw [AD]
 exact ⟨a1,a2,k1,k2⟩
theorem dW {x:Int} (hx:BZ x) {s:ByteArray} (hs:(Ax s).take (HQ x).size=dig 10 (Cv x % 18446744073709551616)) (hle:(HQ x).size≤s.size):
  Dx s=some (x,((HQ x).size:Int),0):=by
 obtain ⟨h1,h2,h3,h4⟩:=Znu x
 exact dV hx h2 hle (by rw [hs];exact h3) (by rw [hs];exact h4) hs ((HQ x).size-1-0) 0 fu 0 rfl (by omega) (by unfold fu;omega) rfl
end Go.AM.Pure
