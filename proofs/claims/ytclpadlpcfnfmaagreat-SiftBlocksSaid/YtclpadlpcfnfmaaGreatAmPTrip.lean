import Derived.Test.YtclpadlpcfnfmaaGreatAmPPut
/- What is written is read again: layers 02, 06. -/
namespace Go.AM.Pure
open Go.AM
theorem tW {x:Int} (h:BY x):EE (Eb x)=x:=by
 have hz:BY (EE (Eb x)):=OO _
 have h2:EE (Eb x) % 18446744073709551616=x % 18446744073709551616:=by
  apply SQ
  intro k hk
  rw [To _ hk,Y9 h (show 0<64 by omega)]
  by_cases Um:k<63
  ·rw [Y9 h (show k+1<64 by omega),Af Um,Af (show 1≤k+1 by omega),Nat.add_sub_cancel]
   simp
  ·have:k=63:=by omega
   subst this
   simp
 have e1:=Rm (EE (Eb x))
 rw [h2,Rm,NA h,NA hz] at e1
 exact e1.symm
theorem rQ:∀ (f:Nat) (u:Int),0<f→0≤u→u<128 ^ f→Form (Eg f u)∧DI (Eg f u)=u
 | 0,_,h,_,_=>by omega
 | f+1,u,_,h0,h1=>by
  unfold Eg
  by_cases AO:u<128
  ·rw [if_pos AO]
   exact ⟨⟨h0,AO⟩,by unfold DI DI;omega⟩
  ·rw [if_neg AO]
   have h4:u / 128<128 ^ f:=by
    rw [Int.pow_succ] at h1
    exact Int.ediv_lt_of_lt_mul (by omega) h1
   have hf:0<f:=by
    rcases Nat.eq_zero_or_pos f with h | h
    ·subst h;simp at h4;omega
    ·exact h
   obtain ⟨k1,k2⟩:=rQ f (u / 128) hf (by omega) h4
   obtain ⟨a1,_⟩:=Vn f (u / 128) hf (by omega) h4
   refine ⟨?_,?_⟩
   ·cases hd:Eg f (u / 128) with
    | nil=>rw [hd] at a1;simp at a1
    | cons b l=>rw [hd] at k1;exact ⟨by omega,k1⟩
   ·unfold DI
    rw [k2]
    omega
theorem eu:∀ (l:List Int),Form l→∀ (i:Nat) (b:Int),l[i]? = some b→(i+1<l.length→128≤b∧b<256)∧(i+1=l.length→0≤b∧b<128)
 | [],h,_,_,_=>h.elim
 | [a],h,i,b,hi=>by
  cases i with
  | zero=>simp at hi;subst hi;exact ⟨fun h'=>by simp at h',fun _=>h⟩
  | succ i=>simp at hi
 | a :: c :: l,⟨h1,h2⟩,i,b,hi=>by
  cases i with
  | zero=>simp at hi;subst hi;exact ⟨fun _=>h1,fun h'=>by simp at h'⟩
  | succ i=>
   have:=eu (c :: l) h2 i b (by simpa using hi)
   simp only [Aj] at this ⊢
   exact ⟨fun h'=>this.1 (by omega),fun h'=>this.2 (by omega)⟩
theorem Zrl {x:Int} (hx:BY x) {s:ByteArray} {m:Nat} (hm:m≤10) (Xq:m≤s.size) (hL:Form ((Bi s).take m)) (hv:DI ((Bi s).take m)=Eb x % 18446744073709551616)
  (Yq2:(Bi s).take m=Eg 10 (Eb x % 18446744073709551616)):∀ (d i n:Nat) (wr:Int),d=m-1-i→i<m→d<n→wr=DI ((Bi s).take i)→
  Hd.l0 n s wr (i:Int)=some (x,(m:Int),0):=by
 have hlen:((Bi s).take m).length=m:=by rw [Ag,DN];omega
 intro d
 induction d with
 | zero=>
  intro i n wr hd hi hn hw
  obtain ⟨n,rfl⟩:∃ k,n=k+1:=⟨n-1,by omega⟩
  show Hd.S0 (Hd.l0 n) s wr (i:Int)=_
  unfold Hd.S0
  have AO:i<s.size:=by omega
  have him:i+1=m:=by omega
  have LO:((Bi s).take m)[i]? = some (byteAt s (i:Int)):=by rw [AA,if_pos hi,Lw s i AO]
  have hb:=(eu _ hL i _ LO).2 (by omega)
  have a2:AS (i:Int) 10=true:=Af (by omega)
  have a3:AX (i:Int) (Bh s)=true:=by rw [JF,C6];exact Af (by omega)
  have a4:AS (i:Int) (Bh s)=true:=by rw [C6];exact Af (by omega)
  have a5:Cj .i64 7 (i:Int)=((7*i:Nat):Int):=by rw [fT (by omega) (by omega)];omega
  obtain ⟨_,c2⟩:=fq (byteAt s (i:Int)) hb.1 (by omega)
  have Gr:((Bi s).take i).length=i:=by rw [Ag,DN];omega
  have hV:=Tq ((Bi s).take i)
  rw [Gr,NO] at hV
  have Sl:=Rf ((Bi s).take i)
  have Xr:IntKind.wrap .i64 (byteAt s (i:Int) % 128)=byteAt s (i:Int) % 128:=IB (by omega) (by omega)
  have Ws:=ft (c:=byteAt s (i:Int) % 128) Sl hV (by omega) (by omega) (by omega)
  have Fc:(Bi s).take m=(Bi s).take i++[byteAt s (i:Int)]:=by
   rw [← him,List.take_add_one,Lw s i AO];rfl
  have Yr2:DI ((Bi s).take i)+byteAt s (i:Int) % 128*2 ^ (7*i)=Eb x % 18446744073709551616:=by
   rw [← hv,Fc,Rn,Gr,NO]
  have e2:AS (byteAt s (i:Int)) 128=true:=Af hb.2
  rw [a2,a3,a4,a5,c2,Xr,hw,Ws,Yr2,e2]
  simp only [Aa,Ad]
  have Ys2:EE (IntKind.wrap .i64 (Eb x % 18446744073709551616))=x:=by
   rw [Rm,← tW hx]
   apply tP
   rw [tW hx,Km]
   split <;> omega
  have Ig:AQ .i64 (i:Int) 1=(m:Int):=by rw [Ie (by omega) (by omega)];omega
  have CB:CU 0 (m:Int) (Bh s)=true:=by rw [aP,C6];exact Af (by omega)
  rw [oA,Ad,Ys2,Nu hx,Ad,Ig,CB,ew s m,Yq2]
  have:Cn (KU x) (ofBytes (Eg 10 (Eb x % 18446744073709551616)))=true:=by rw [M7];exact Af rfl
  rw [this]
  rfl
 | succ d ih=>
  intro i n wr hd hi hn hw
  obtain ⟨n,rfl⟩:∃ k,n=k+1:=⟨n-1,by omega⟩
  show Hd.S0 (Hd.l0 n) s wr (i:Int)=_
  unfold Hd.S0
  have AO:i<s.size:=by omega
  have LO:((Bi s).take m)[i]? = some (byteAt s (i:Int)):=by rw [AA,if_pos hi,Lw s i AO]
  have hb:=(eu _ hL i _ LO).1 (by omega)
  have a2:AS (i:Int) 10=true:=Af (by omega)
  have a3:AX (i:Int) (Bh s)=true:=by rw [JF,C6];exact Af (by omega)
  have a4:AS (i:Int) (Bh s)=true:=by rw [C6];exact Af (by omega)
  have a5:Cj .i64 7 (i:Int)=((7*i:Nat):Int):=by rw [fT (by omega) (by omega)];omega
  obtain ⟨_,c2⟩:=fq (byteAt s (i:Int)) (by omega) hb.2
  have Gr:((Bi s).take i).length=i:=by rw [Ag,DN];omega
  have hV:=Tq ((Bi s).take i)
  rw [Gr,NO] at hV
  have Sl:=Rf ((Bi s).take i)
  have Xr:IntKind.wrap .i64 (byteAt s (i:Int) % 128)=byteAt s (i:Int) % 128:=IB (by omega) (by omega)
  have Ws:=ft (c:=byteAt s (i:Int) % 128) Sl hV (by omega) (by omega) (by omega)
  have Fc:(Bi s).take (i+1)=(Bi s).take i++[byteAt s (i:Int)]:=by
   rw [List.take_add_one,Lw s i AO];rfl
  have e2:AS (byteAt s (i:Int)) 128=false:=An (by omega)
  rw [a2,a3,a4,a5,c2,Xr,hw,Ws,e2,Ie (by omega) (by omega)]
  simp only [Aa,Ac,Ad]
  refine ih (i+1) n _ (by omega) (by omega) (by omega) ?_
  rw [Fc,Rn,Gr,NO]
  have mR:(2:Int) ^ (7*i)*128≤9223372036854775808:=by
   have:(2:Int) ^ (7*i)*2 ^ 7≤2 ^ 63:=by
    rw [← Int.pow_add]
    exact_mod_cast Nat.pow_le_pow_right (n:=2) (by omega) (show 7*i+7≤63 by omega)
   exact this
  have HH:=EX (7*i)
  have E2:byteAt s (i:Int) % 128*2 ^ (7*i)≤127*2 ^ (7*i):=Int.mul_le_mul_of_nonneg_right (by omega) (by omega)
  have Sm:0≤byteAt s (i:Int) % 128*2 ^ (7*i):=Int.mul_nonneg (by omega) (by omega)
  exact IB (by omega) (by omega)
theorem Znd (x:Int):1≤(KU x).size∧(KU x).size≤10∧Form (Eg 10 (Eb x % 18446744073709551616))∧DI (Eg 10 (Eb x % 18446744073709551616))=Eb x % 18446744073709551616:=by
 have AO:Eb x % 18446744073709551616<128 ^ 10:=by
  have:(128:Int) ^ 10=1180591620717411303424:=rfl
  omega
 obtain ⟨k1,k2⟩:=rQ 10 (Eb x % 18446744073709551616) (by omega) (by omega) AO
 obtain ⟨a1,a2,_⟩:=Vn 10 (Eb x % 18446744073709551616) (by omega) (by omega) AO
 unfold KU
 rw [Cg]
 exact ⟨a1,a2,k1,k2⟩
theorem Zsl {x:Int} (hx:BY x) {s:ByteArray} (hs:(Bi s).take (KU x).size=Eg 10 (Eb x % 18446744073709551616)) (hle:(KU x).size≤s.size):
  Hd s=some (x,((KU x).size:Int),0):=by
 obtain ⟨h1,h2,h3,h4⟩:=Znd x
 exact Zrl hx h2 hle (by rw [hs];exact h3) (by rw [hs];exact h4) hs ((KU x).size-1-0) 0 fu 0 rfl (by omega) (by unfold fu;omega) rfl
end Go.AM.Pure
