import Derived.Test.YtclpadlpcfnfmaaGreatAmPPut
/- What is written is read again: layers 02, 06. -/
namespace Go.AM.Pure
open Go.AM
theorem yf {x:Int} (h:BN x):E5 (EL x)=x:=by
 have hz:BN (E5 (EL x)):=Kr _;have h2:E5 (EL x) % 18446744073709551616=x % 18446744073709551616:=by
  apply Sn;intro k hk;rw [UJ _ hk,aO h (show 0<64 by omega)];by_cases VK:k<63
  ·rw [aO h (show k+1<64 by omega),Aq VK,Aq (show 1<=k+1 by omega),Nat.add_sub_cancel];simp
  ·have:k=63:=Ad
   subst this;simp
 have e1:=P0 (E5 (EL x));rw [h2,P0,M7 h,M7 hz] at e1;exact e1.symm
theorem vT:∀ (f:Nat) (u:Int),0<f->0<=u->u<128 ^ f->Form (ES f u)/\Ec (ES f u)=u
 | 0,_,h,_,_=>by omega
 | f+1,u,_,h0,h1=>by
  unfold ES;by_cases AY:u<128
  ·rw [if_pos AY];exact ⟨⟨h0,AY⟩,by unfold Ec Ec;omega⟩
  ·rw [if_neg AY];have h4:u / 128<128 ^ f:=by
    rw [Int.pow_succ] at h1;exact Int.ediv_lt_of_lt_mul Ad h1
   have hf:0<f:=by
    rcases Nat.eq_zero_or_pos f with h | h
    ·subst h;simp at h4;omega
    ·exact h
   obtain ⟨k1,k2⟩:=vT f (u / 128) hf Ad h4;obtain ⟨a1,_⟩:=WU f (u / 128) hf Ad h4;refine ⟨?_,?_⟩
   ·cases hd:ES f (u / 128) with
    | nil=>rw [hd] at a1;simp at a1
    | cons b l=>rw [hd] at k1;exact ⟨Ad,k1⟩
   ·unfold Ec;rw [k2];omega
theorem ig:∀ (l:List Int),Form l->∀ (i:Nat) (b:Int),l[i]? = some b->(i+1<l.length->128<=b/\b<256)/\(i+1=l.length->0<=b/\b<128)
 | [],h,_,_,_=>h.elim
 | [a],h,i,b,hi=>by
  cases i with
  | zero=>simp at hi;subst hi;exact ⟨λ h'=>by simp at h',λ _=>h⟩
  | succ i=>simp at hi
 | a :: c :: l,⟨h1,h2⟩,i,b,hi=>by
  cases i with
  | zero=>simp at hi;subst hi;exact ⟨λ _=>h1,λ h'=>by simp at h'⟩
  | succ i=>
   have:=ig (c :: l) h2 i b (by simpa using hi);simp only [Aw] at this ⊢;exact ⟨λ h'=>this.1 Ad,λ h'=>this.2 Ad⟩
theorem Ziu {x:Int} (hx:BN x) {s:ByteArray} {m:Nat} (hm:m<=10) (YZ:m<=s.size) (hL:Form ((Bu s).take m)) (hv:Ec ((Bu s).take m)=EL x % 18446744073709551616)
  (Xrf:(Bu s).take m=ES 10 (EL x % 18446744073709551616)):∀ (d i n:Nat) (wr:Int),d=m-1-i->i<m->d<n->wr=Ec ((Bu s).take i)->
  Eb.l0 n s wr (i:Int)=some (x,(m:Int),0):=by
 have hlen:((Bu s).take m).length=m:=by rw [Ar,C6];omega
 intro d;induction d with
 | zero=>
  intro i n wr hd hi hn hw;obtain ⟨n,rfl⟩:=Aa n;show Eb.S0 (Eb.l0 n) s wr (i:Int)=_;unfold Eb.S0;have AY:i<s.size:=Ad
  have him:i+1=m:=Ad
  have Nw:((Bu s).take m)[i]? = some (byteAt s (i:Int)):=by rw [AQ,if_pos hi,KS s i AY]
  have hb:=(ig _ hL i _ Nw).2 Ad;have a2:A8 (i:Int) 10=true:=Aq Ad;have a3:Bf (i:Int) (Bg s)=true:=by rw [KB,Cc];exact Aq Ad
  have a4:A8 (i:Int) (Bg s)=true:=by rw [Cc];exact Aq Ad
  have a5:CI .i64 7 (i:Int)=((7*i:Nat):Int):=by rw [aQ Ad Ad];omega
  obtain ⟨_,c2⟩:=ax (byteAt s (i:Int)) hb.1 Ad;have Gs:((Bu s).take i).length=i:=by rw [Ar,C6];omega
  have hV:=SD ((Bu s).take i);rw [Gs,Ni] at hV;have QM:=Q4 ((Bu s).take i);have TE:IntKind.wrap .i64 (byteAt s (i:Int) % 128)=byteAt s (i:Int) % 128:=IL Ad Ad;have S8:=ay (c:=byteAt s (i:Int) % 128) QM hV Ad Ad Ad;have Fw:(Bu s).take m=(Bu s).take i++[byteAt s (i:Int)]:=by
   rw [<- him,List.take_add_one,KS s i AY];rfl
  have Xsf:Ec ((Bu s).take i)+byteAt s (i:Int) % 128*2 ^ (7*i)=EL x % 18446744073709551616:=by
   rw [<- hv,Fw,Ra,Gs,Ni]
  have e2:A8 (byteAt s (i:Int)) 128=true:=Aq hb.2;rw [a2,a3,a4,a5,c2,TE,hw,S8,Xsf,e2];simp only [Ak,An];have Xtf:E5 (IntKind.wrap .i64 (EL x % 18446744073709551616))=x:=by
   rw [P0,<- yf hx];apply xY;rw [yf hx,KW];split <;> omega
  have JA:A7 .i64 (i:Int) 1=(m:Int):=by rw [Iz Ad Ad];omega
  have Dc:CJ 0 (m:Int) (Bg s)=true:=by rw [X1,Cc];exact Aq Ad
  rw [gm,An,Xtf,NV hx,An,JA,Dc,Wy s m,Xrf];have:Cz (L2 x) (ofBytes (ES 10 (EL x % 18446744073709551616)))=true:=by rw [MI];exact Aq rfl
  rw [this];rfl
 | succ d ih=>
  intro i n wr hd hi hn hw;obtain ⟨n,rfl⟩:=Aa n;show Eb.S0 (Eb.l0 n) s wr (i:Int)=_;unfold Eb.S0;have AY:i<s.size:=Ad
  have Nw:((Bu s).take m)[i]? = some (byteAt s (i:Int)):=by rw [AQ,if_pos hi,KS s i AY]
  have hb:=(ig _ hL i _ Nw).1 Ad;have a2:A8 (i:Int) 10=true:=Aq Ad;have a3:Bf (i:Int) (Bg s)=true:=by rw [KB,Cc];exact Aq Ad
  have a4:A8 (i:Int) (Bg s)=true:=by rw [Cc];exact Aq Ad
  have a5:CI .i64 7 (i:Int)=((7*i:Nat):Int):=by rw [aQ Ad Ad];omega
  obtain ⟨_,c2⟩:=ax (byteAt s (i:Int)) Ad hb.2;have Gs:((Bu s).take i).length=i:=by rw [Ar,C6];omega
  have hV:=SD ((Bu s).take i);rw [Gs,Ni] at hV;have QM:=Q4 ((Bu s).take i);have TE:IntKind.wrap .i64 (byteAt s (i:Int) % 128)=byteAt s (i:Int) % 128:=IL Ad Ad;have S8:=ay (c:=byteAt s (i:Int) % 128) QM hV Ad Ad Ad;have Fw:(Bu s).take (i+1)=(Bu s).take i++[byteAt s (i:Int)]:=by
   rw [List.take_add_one,KS s i AY];rfl
  have e2:A8 (byteAt s (i:Int)) 128=false:=Ax Ad;rw [a2,a3,a4,a5,c2,TE,hw,S8,e2,Iz Ad Ad];simp only [Ak,Al,An];refine ih (i+1) n _ Ad Ad Ad ?_;rw [Fw,Ra,Gs,Ni];have eS:(2:Int) ^ (7*i)*128<=9223372036854775808:=by
   have:(2:Int) ^ (7*i)*2 ^ 7<=2 ^ 63:=by
    rw [<- Int.pow_add];exact_mod_cast Nat.pow_le_pow_right (n:=2) Ad (show 7*i+7<=63 by omega)
   exact this
  have IW:=Fe (7*i);have FW:byteAt s (i:Int) % 128*2 ^ (7*i)<=127*2 ^ (7*i):=Int.mul_le_mul_of_nonneg_right Ad Ad;have R3:0<=byteAt s (i:Int) % 128*2 ^ (7*i):=Int.mul_nonneg Ad Ad;exact IL Ad Ad
theorem Znm (x:Int):1<=(L2 x).size/\(L2 x).size<=10/\Form (ES 10 (EL x % 18446744073709551616))/\Ec (ES 10 (EL x % 18446744073709551616))=EL x % 18446744073709551616:=by
 have AY:EL x % 18446744073709551616<128 ^ 10:=by
  have:(128:Int) ^ 10=1180591620717411303424:=rfl;omega
 obtain ⟨k1,k2⟩:=vT 10 (EL x % 18446744073709551616) Ad Ad AY;obtain ⟨a1,a2,_⟩:=WU 10 (EL x % 18446744073709551616) Ad Ad AY;unfold L2;rw [CE];exact ⟨a1,a2,k1,k2⟩
theorem Zju {x:Int} (hx:BN x) {s:ByteArray} (hs:(Bu s).take (L2 x).size=ES 10 (EL x % 18446744073709551616)) (hle:(L2 x).size<=s.size):
  Eb s=some (x,((L2 x).size:Int),0):=by
 obtain ⟨h1,h2,h3,h4⟩:=Znm x;exact Ziu hx h2 hle (by rw [hs];exact h3) (by rw [hs];exact h4) hs ((L2 x).size-1-0) 0 fu 0 rfl Ad Ae rfl
end Go.AM.Pure
