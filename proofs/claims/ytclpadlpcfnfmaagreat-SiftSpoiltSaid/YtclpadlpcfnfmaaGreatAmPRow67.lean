import Derived.Test.YtclpadlpcfnfmaaGreatAmPTrip
import Derived.Test.YtclpadlpcfnfmaaGreatAmPVc
section
/- Rows written and read again: layer 06. -/
namespace Go.AM.Pure
open Go.AM
theorem gB (s:ByteArray) (k:Nat):Bu (cutS s (k:Int) (s.size:Int))=(Bu s).drop k:=by
 unfold Bu cutS;show List.map _ (s.extract k s.size).data.toList=_;rw [ByteArray.data_extract,Array.toList_extract,List.extract_eq_take_drop,<- List.map_drop];congr 1;exact AL (by rw [List.length_drop,Array.length_toList];show s.size-k<=_;omega)
theorem NZ {s:ByteArray} {l:List Int} (h:Bu s=l) {i:Nat} {b:Int} (hb:l[i]? = some b):byteAt s (i:Int)=b:=by
 have hi:i<s.size:=by
  have:=(List.getElem?_eq_some_iff.1 hb).1;rw [<- h,C6] at this;exact this
 have:=KS s i hi;rw [h,hb] at this;exact (Option.some.inj this).symm
theorem jf {c:Cell} (h:HQ c=true):c=(0,0,eB)\/(∃ n,c=(1,n,eB))\/∃ t,c=(2,0,t)/\t.size<=32:=by
 obtain ⟨k,n,s⟩:=c;simp only [HQ,RE,MI,oc,Cc,WK,decide_eq_true_eq] at h;by_cases h0:k=0
 ·rw [if_pos h0] at h;by_cases hn:n=0
  ·rw [if_pos hn] at h;have:=Az h;left;rw [h0,hn,this]
  ·rw [if_neg hn] at h;cases h
 ·rw [if_neg h0] at h;by_cases h1:k=1
  ·rw [if_pos h1] at h;have:=Az h;right;left;exact ⟨n,by rw [h1,this]⟩
  ·rw [if_neg h1] at h;by_cases h2:k=2
   ·rw [if_pos h2] at h;by_cases hn:n=0
    ·rw [if_pos hn] at h;have:=Az h;right;right;exact ⟨s,by rw [h2,hn],Ad⟩
    ·rw [if_neg hn] at h;cases h
   ·rw [if_neg h2] at h;cases h
end Go.AM.Pure
end

section
/- CellBytes: what is put is taken as it was. -/
namespace Go.AM.Pure
open Go.AM
def VT (s:ByteArray) (r:Int×Int×Int):Prop:=(r.2.2=0/\1<=r.2.1/\r.2.1<=(s.size:Int)/\BN r.1)\/(r.2.2≠0/\r.1=0/\r.2.1=0)
theorem Zcy (s:ByteArray):∀ (d i n:Nat) (wr:Int),d=10-i->i<=10->d<n->(i<=9->wr=Ec ((Bu s).take i))->
  Br (Eb.l0 n s wr (i:Int)) (VT s):=by
 intro d;induction d with
 | zero=>
  intro i n wr hd hi hn hw;obtain ⟨n,rfl⟩:=Aa n;show Br (Eb.S0 (Eb.l0 n) s wr (i:Int)) _;unfold Eb.S0;rw [Cc];refine B6 (λ h1=>B6 (λ h2=>?_) λ h2=>Bp (.inr ⟨Af,rfl,rfl⟩)) λ h1=>Bp (.inr ⟨Af,rfl,rfl⟩)
  omega
 | succ d ih=>
  intro i n wr hd hi hn hw;obtain ⟨n,rfl⟩:=Aa n;show Br (Eb.S0 (Eb.l0 n) s wr (i:Int)) _;unfold Eb.S0;rw [Cc];refine B6 (λ h1=>B6 (λ h2=>?_) λ h2=>Bp (.inr ⟨Af,rfl,rfl⟩)) λ h1=>Bp (.inr ⟨Af,rfl,rfl⟩)
  refine CW Ad ?_;have AY:i<s.size:=Ad
  obtain ⟨b0,b1⟩:=Jm s (i:Int);have a5:CI .i64 7 (i:Int)=((7*i:Nat):Int):=by rw [aQ Ad Ad];omega
  obtain ⟨_,c2⟩:=ax (byteAt s (i:Int)) b0 b1;have Gs:((Bu s).take i).length=i:=by rw [Ar,C6];omega
  have hV:=SD ((Bu s).take i);rw [Gs,Ni] at hV;have QM:=Q4 ((Bu s).take i);have TE:IntKind.wrap .i64 (byteAt s (i:Int) % 128)=byteAt s (i:Int) % 128:=IL Ad Ad;have S8:=ay (c:=byteAt s (i:Int) % 128) QM hV Ad Ad Ad;rw [a5,c2,TE,hw Ad,S8,An];refine CW Ad (B6 (λ h3=>?_) λ h3=>?_)
  ·rw [gm,An,NV (show BN (E5 _) from Kr _),An,Iz Ad Ad];refine FJ Ad (Ia (I9 (λ _=>Bp (.inl ⟨rfl,by show (1:Int)<=(i:Int)+1;omega,by show (i:Int)+1<=_;omega,Kr _⟩)) λ _=>Bp (.inr ⟨Af,rfl,rfl⟩)))
  ·rw [Iz Ad Ad];refine ih (i+1) n _ Ad Ad Ad λ h9=>?_
   have Fw:(Bu s).take (i+1)=(Bu s).take i++[byteAt s (i:Int)]:=by
    rw [List.take_add_one,KS s i AY];rfl
   rw [Fw,Ra,Gs,Ni];have eS:(2:Int) ^ (7*i)*128<=9223372036854775808:=by
    have:(2:Int) ^ (7*i)*2 ^ 7<=2 ^ 63:=by
     rw [<- Int.pow_add];exact_mod_cast Nat.pow_le_pow_right (n:=2) Ad (show 7*i+7<=63 by omega)
    exact this
   have IW:=Fe (7*i);have FW:byteAt s (i:Int) % 128*2 ^ (7*i)<=127*2 ^ (7*i):=Int.mul_le_mul_of_nonneg_right Ad Ad;have R3:0<=byteAt s (i:Int) % 128*2 ^ (7*i):=Int.mul_nonneg Ad Ad;exact IL Ad Ad
theorem ZO (s:ByteArray):Br (Eb s) (VT s):=
 Zcy s (10-0) 0 fu 0 rfl Ad Ae λ _=>rfl
theorem Zsv (s:ByteArray):∀ b∈Bu s,0<=b/\b<256:=by
 intro b hb;unfold Bu at hb;obtain ⟨u,_,rfl⟩:=List.mem_map.1 hb;have:=UInt8.toNat_lt u;omega
end Go.AM.Pure
end
