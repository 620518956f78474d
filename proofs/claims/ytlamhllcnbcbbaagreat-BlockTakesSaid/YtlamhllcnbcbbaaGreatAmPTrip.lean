import Derived.Test.YtlamhllcnbcbbaaGreatAmPPut
/- What is written is read again: layers 02, 06. -/
namespace Go.AM.Pure
open Go.AM
theorem Zmq1 {x:Int} (h:in64 x):Zoc (Zec x)=x:=by
 have hz:in64 (Zoc (Zec x)):=Zef _
 have h2:Zoc (Zec x) % 18446744073709551616=x % 18446744073709551616:=by
  apply Zej
  intro k hk
  rw [Zwq _ hk,Zd4 h (show 0<64 by omega)]
  by_cases h63:k<63
  ·rw [Zd4 h (show k+1<64 by omega),decide_eq_true h63,decide_eq_true (show 1≤k+1 by omega),Nat.add_sub_cancel]
   simp
  ·have:k=63:=by omega
   subst this
   simp
 have e1:=Zyi (Zoc (Zec x))
 rw [h2,Zyi,Zxg h,Zxg hz] at e1
 exact e1.symm
theorem Zth1:∀ (f:Nat) (u:Int),0<f→0≤u→u<128 ^ f→Form (dig f u)∧valL (dig f u)=u
 | 0,_,h,_,_=>by omega
 | f+1,u,_,h0,h1=>by
  unfold dig
  by_cases hlt:u<128
  ·rw [if_pos hlt]
   exact ⟨⟨h0,hlt⟩,by unfold valL valL;omega⟩
  ·rw [if_neg hlt]
   have h4:u / 128<128 ^ f:=by
    rw [Int.pow_succ] at h1
    exact Int.ediv_lt_of_lt_mul (by omega) h1
   have hf:0<f:=by
    rcases Nat.eq_zero_or_pos f with h | h
    ·subst h;simp at h4;omega
    ·exact h
   obtain ⟨k1,k2⟩:=Zth1 f (u / 128) hf (by omega) h4
   obtain ⟨a1,_⟩:=Zut f (u / 128) hf (by omega) h4
   refine ⟨?_,?_⟩
   ·cases hd:dig f (u / 128) with
    | nil=>rw [hd] at a1;simp at a1
    | cons b l=>rw [hd] at k1;exact ⟨by omega,k1⟩
   ·unfold valL
    rw [k2]
    omega
theorem Zez:∀ (l:List Int),Form l→∀ (i:Nat) (b:Int),l[i]? = some b→(i+1<l.length→128≤b∧b<256)∧(i+1=l.length→0≤b∧b<128)
 | [],h,_,_,_=>h.elim
 | [a],h,i,b,hi=>by
  cases i with
  | zero=>simp at hi;subst hi;exact ⟨fun h'=>by simp at h',fun _=>h⟩
  | succ i=>simp at hi
 | a :: c :: l,⟨h1,h2⟩,i,b,hi=>by
  cases i with
  | zero=>simp at hi;subst hi;exact ⟨fun _=>h1,fun h'=>by simp at h'⟩
  | succ i=>
   have:=Zez (c :: l) h2 i b (by simpa using hi)
   simp only [List.length_cons] at this ⊢
   exact ⟨fun h'=>this.1 (by omega),fun h'=>this.2 (by omega)⟩
theorem Zuh1 {x:Int} (hx:in64 x) {s:ByteArray} {m:Nat} (hm:m≤10) (hms:m≤s.size) (hL:Form ((Zk s).take m)) (hv:valL ((Zk s).take m)=Zec x % 18446744073709551616)
  (hd10:(Zk s).take m=dig 10 (Zec x % 18446744073709551616)):∀ (d i n:Nat) (wr:Int),d=m-1-i→i<m→d<n→wr=valL ((Zk s).take i)→
  Zcb.l0 n s wr (i:Int)=some (x,(m:Int),0):=by
 have hlen:((Zk s).take m).length=m:=by rw [List.length_take,Zha];omega
 intro d
 induction d with
 | zero=>
  intro i n wr hd hi hn hw
  obtain ⟨n,rfl⟩:∃ k,n=k+1:=⟨n-1,by omega⟩
  show Zcb.S0 (Zcb.l0 n) s wr (i:Int)=_
  unfold Zcb.S0
  have hlt:i<s.size:=by omega
  have him:i+1=m:=by omega
  have hget:((Zk s).take m)[i]? = some (byteAt s (i:Int)):=by rw [List.getElem?_take,if_pos hi,Zbf s i hlt]
  have hb:=(Zez _ hL i _ hget).2 (by omega)
  have a2:ltI (i:Int) 10=true:=decide_eq_true (by omega)
  have a3:inB (i:Int) (lenS s)=true:=by rw [inB_d,Zma];exact decide_eq_true (by omega)
  have a4:ltI (i:Int) (lenS s)=true:=by rw [Zma];exact decide_eq_true (by omega)
  have a5:mulI .i64 7 (i:Int)=((7*i:Nat):Int):=by rw [Zg4 (by omega) (by omega)];omega
  obtain ⟨_,c2⟩:=Zzw (byteAt s (i:Int)) hb.1 (by omega)
  have hti:((Zk s).take i).length=i:=by rw [List.length_take,Zha];omega
  have hV:=Zuo ((Zk s).take i)
  rw [hti,Zak] at hV
  have hV0:=Zdi ((Zk s).take i)
  have hw8:IntKind.wrap .i64 (byteAt s (i:Int) % 128)=byteAt s (i:Int) % 128:=Zje (by omega) (by omega)
  have hwith:=Zyw (c:=byteAt s (i:Int) % 128) hV0 hV (by omega) (by omega) (by omega)
  have htk:(Zk s).take m=(Zk s).take i++[byteAt s (i:Int)]:=by
   rw [← him,List.take_add_one,Zbf s i hlt];rfl
  have hsum:valL ((Zk s).take i)+byteAt s (i:Int) % 128*2 ^ (7*i)=Zec x % 18446744073709551616:=by
   rw [← hv,htk,Zrj,hti,Zak]
  have e2:ltI (byteAt s (i:Int)) 128=true:=decide_eq_true hb.2
  rw [a2,a3,a4,a5,c2,hw8,hw,hwith,hsum,e2]
  simp only [cond_true,Option.bind_some]
  have hzag:Zoc (IntKind.wrap .i64 (Zec x % 18446744073709551616))=x:=by
   rw [Zyi,← Zmq1 hx]
   apply Znq1
   rw [Zmq1 hx,Zph]
   split <;> omega
  have hadd:addI .i64 (i:Int) 1=(m:Int):=by rw [Zmf (by omega) (by omega)];omega
  have hin:inC 0 (m:Int) (lenS s)=true:=by rw [inC_d,Zma];exact decide_eq_true (by omega)
  rw [Zpr,Option.bind_some,hzag,Zsf hx,Option.bind_some,hadd,hin,Zqp s m,hd10]
  have:eqS (Zwi x) (ofBytes (dig 10 (Zec x % 18446744073709551616)))=true:=by rw [eqS_d];exact decide_eq_true rfl
  rw [this]
  rfl
 | succ d ih=>
  intro i n wr hd hi hn hw
  obtain ⟨n,rfl⟩:∃ k,n=k+1:=⟨n-1,by omega⟩
  show Zcb.S0 (Zcb.l0 n) s wr (i:Int)=_
  unfold Zcb.S0
  have hlt:i<s.size:=by omega
  have hget:((Zk s).take m)[i]? = some (byteAt s (i:Int)):=by rw [List.getElem?_take,if_pos hi,Zbf s i hlt]
  have hb:=(Zez _ hL i _ hget).1 (by omega)
  have a2:ltI (i:Int) 10=true:=decide_eq_true (by omega)
  have a3:inB (i:Int) (lenS s)=true:=by rw [inB_d,Zma];exact decide_eq_true (by omega)
  have a4:ltI (i:Int) (lenS s)=true:=by rw [Zma];exact decide_eq_true (by omega)
  have a5:mulI .i64 7 (i:Int)=((7*i:Nat):Int):=by rw [Zg4 (by omega) (by omega)];omega
  obtain ⟨_,c2⟩:=Zzw (byteAt s (i:Int)) (by omega) hb.2
  have hti:((Zk s).take i).length=i:=by rw [List.length_take,Zha];omega
  have hV:=Zuo ((Zk s).take i)
  rw [hti,Zak] at hV
  have hV0:=Zdi ((Zk s).take i)
  have hw8:IntKind.wrap .i64 (byteAt s (i:Int) % 128)=byteAt s (i:Int) % 128:=Zje (by omega) (by omega)
  have hwith:=Zyw (c:=byteAt s (i:Int) % 128) hV0 hV (by omega) (by omega) (by omega)
  have htk:(Zk s).take (i+1)=(Zk s).take i++[byteAt s (i:Int)]:=by
   rw [List.take_add_one,Zbf s i hlt];rfl
  have e2:ltI (byteAt s (i:Int)) 128=false:=decide_eq_false (by omega)
  rw [a2,a3,a4,a5,c2,hw8,hw,hwith,e2,Zmf (by omega) (by omega)]
  simp only [cond_true,cond_false,Option.bind_some]
  refine ih (i+1) n _ (by omega) (by omega) (by omega) ?_
  rw [htk,Zrj,hti,Zak]
  have hp9:(2:Int) ^ (7*i)*128≤9223372036854775808:=by
   have:(2:Int) ^ (7*i)*2 ^ 7≤2 ^ 63:=by
    rw [← Int.pow_add]
    exact_mod_cast Nat.pow_le_pow_right (n:=2) (by omega) (show 7*i+7≤63 by omega)
   exact this
  have hpos:=Zld (7*i)
  have hbb:byteAt s (i:Int) % 128*2 ^ (7*i)≤127*2 ^ (7*i):=Int.mul_le_mul_of_nonneg_right (by omega) (by omega)
  have hbn:0≤byteAt s (i:Int) % 128*2 ^ (7*i):=Int.mul_nonneg (by omega) (by omega)
  exact Zje (by omega) (by omega)
theorem dig_x (x:Int):1≤(Zwi x).size∧(Zwi x).size≤10∧Form (dig 10 (Zec x % 18446744073709551616))∧valL (dig 10 (Zec x % 18446744073709551616))=Zec x % 18446744073709551616:=by
 have hlt:Zec x % 18446744073709551616<128 ^ 10:=by
  have:(128:Int) ^ 10=1180591620717411303424:=rfl
  omega
 obtain ⟨k1,k2⟩:=Zth1 10 (Zec x % 18446744073709551616) (by omega) (by omega) hlt
 obtain ⟨a1,a2,_⟩:=Zut 10 (Zec x % 18446744073709551616) (by omega) (by omega) hlt
 unfold Zwi
 rw [Zv]
 exact ⟨a1,a2,k1,k2⟩
theorem Zvh1 {x:Int} (hx:in64 x) {s:ByteArray} (hs:(Zk s).take (Zwi x).size=dig 10 (Zec x % 18446744073709551616)) (hle:(Zwi x).size≤s.size):
  Zcb s=some (x,((Zwi x).size:Int),0):=by
 obtain ⟨h1,h2,h3,h4⟩:=dig_x x
 exact Zuh1 hx h2 hle (by rw [hs];exact h3) (by rw [hs];exact h4) hs ((Zwi x).size-1-0) 0 fu 0 rfl (by omega) (by unfold fu;omega) rfl
end Go.AM.Pure
