import Derived.Test.YtlamhllcnbcbbaaGreatAmPTrip
import Derived.Test.YtlamhllcnbcbbaaGreatAmPVc
section
/- Rows written and read again: layer 06. -/
namespace Go.AM.Pure
open Go.AM
theorem Zft (s:ByteArray) (k:Nat):Zk (cutS s (k:Int) (s.size:Int))=(Zk s).drop k:=by
 unfold Zk cutS
 show List.map _ (s.extract k s.size).data.toList=_
 rw [ByteArray.data_extract,Array.toList_extract,List.extract_eq_take_drop,← List.map_drop]
 congr 1
 exact List.take_of_length_le (by rw [List.length_drop,Array.length_toList];show s.size-k≤_;omega)
theorem Zdg {s:ByteArray} {l:List Int} (h:Zk s=l) {i:Nat} {b:Int} (hb:l[i]? = some b):byteAt s (i:Int)=b:=by
 have hi:i<s.size:=by
  have:=(List.getElem?_eq_some_iff.1 hb).1
  rw [← h,Zha] at this
  exact this
 have:=Zbf s i hi
 rw [h,hb] at this
 exact (Option.some.inj this).symm
theorem Zf7 {c:Cell} (h:Zie c=true):c=(0,0,eB)∨(∃ n,c=(1,n,eB))∨∃ t,c=(2,0,t)∧t.size≤32:=by
 obtain ⟨k,n,s⟩:=c
 simp only [Zie,eqI_d,eqS_d,leI_d,Zma,Zbi1,decide_eq_true_eq] at h
 by_cases h0:k=0
 ·rw [if_pos h0] at h
  by_cases hn:n=0
  ·rw [if_pos hn] at h
   have:=of_decide_eq_true h
   left;rw [h0,hn,this]
  ·rw [if_neg hn] at h;cases h
 ·rw [if_neg h0] at h
  by_cases h1:k=1
  ·rw [if_pos h1] at h
   have:=of_decide_eq_true h
   right;left;exact ⟨n,by rw [h1,this]⟩
  ·rw [if_neg h1] at h
   by_cases h2:k=2
   ·rw [if_pos h2] at h
    by_cases hn:n=0
    ·rw [if_pos hn] at h
     have:=of_decide_eq_true h
     right;right;exact ⟨s,by rw [h2,hn],by omega⟩
    ·rw [if_neg hn] at h;cases h
   ·rw [if_neg h2] at h;cases h
end Go.AM.Pure
end

section
/- CellBytes: what is put is taken as it was. -/
namespace Go.AM.Pure
open Go.AM
def VT (s:ByteArray) (r:Int×Int×Int):Prop:=(r.2.2=0∧1≤r.2.1∧r.2.1≤(s.size:Int)∧in64 r.1)∨(r.2.2≠0∧r.1=0∧r.2.1=0)
theorem Zaw1 (s:ByteArray):∀ (d i n:Nat) (wr:Int),d=10-i→i≤10→d<n→(i≤9→wr=valL ((Zk s).take i))→
  Ret (Zcb.l0 n s wr (i:Int)) (VT s):=by
 intro d
 induction d with
 | zero=>
  intro i n wr hd hi hn hw
  obtain ⟨n,rfl⟩:∃ k,n=k+1:=⟨n-1,by omega⟩
  show Ret (Zcb.S0 (Zcb.l0 n) s wr (i:Int)) _
  unfold Zcb.S0
  rw [Zma]
  refine Zia (fun h1=>Zia (fun h2=>?_) fun h2=>Zg (.inr ⟨by decide,rfl,rfl⟩)) fun h1=>Zg (.inr ⟨by decide,rfl,rfl⟩)
  omega
 | succ d ih=>
  intro i n wr hd hi hn hw
  obtain ⟨n,rfl⟩:∃ k,n=k+1:=⟨n-1,by omega⟩
  show Ret (Zcb.S0 (Zcb.l0 n) s wr (i:Int)) _
  unfold Zcb.S0
  rw [Zma]
  refine Zia (fun h1=>Zia (fun h2=>?_) fun h2=>Zg (.inr ⟨by decide,rfl,rfl⟩)) fun h1=>Zg (.inr ⟨by decide,rfl,rfl⟩)
  refine Zya (by omega) ?_
  have hlt:i<s.size:=by omega
  obtain ⟨b0,b1⟩:=Zee s (i:Int)
  have a5:mulI .i64 7 (i:Int)=((7*i:Nat):Int):=by rw [Zg4 (by omega) (by omega)];omega
  obtain ⟨_,c2⟩:=Zzw (byteAt s (i:Int)) b0 b1
  have hti:((Zk s).take i).length=i:=by rw [List.length_take,Zha];omega
  have hV:=Zuo ((Zk s).take i)
  rw [hti,Zak] at hV
  have hV0:=Zdi ((Zk s).take i)
  have hw8:IntKind.wrap .i64 (byteAt s (i:Int) % 128)=byteAt s (i:Int) % 128:=Zje (by omega) (by omega)
  have hwith:=Zyw (c:=byteAt s (i:Int) % 128) hV0 hV (by omega) (by omega) (by omega)
  rw [a5,c2,hw8,hw (by omega),hwith,Option.bind_some]
  refine Zya (by omega) (Zia (fun h3=>?_) fun h3=>?_)
  ·rw [Zpr,Option.bind_some,Zsf (show in64 (Zoc _) from Zef _),Option.bind_some,Zmf (by omega) (by omega)]
   refine Zpd (by omega) (Zue (Zrf (fun _=>Zg (.inl ⟨rfl,by show (1:Int)≤(i:Int)+1;omega,by show (i:Int)+1≤_;omega,Zef _⟩)) fun _=>Zg (.inr ⟨by decide,rfl,rfl⟩)))
  ·rw [Zmf (by omega) (by omega)]
   refine ih (i+1) n _ (by omega) (by omega) (by omega) fun h9=>?_
   have htk:(Zk s).take (i+1)=(Zk s).take i++[byteAt s (i:Int)]:=by
    rw [List.take_add_one,Zbf s i hlt];rfl
   rw [htk,Zrj,hti,Zak]
   have hp9:(2:Int) ^ (7*i)*128≤9223372036854775808:=by
    have:(2:Int) ^ (7*i)*2 ^ 7≤2 ^ 63:=by
     rw [← Int.pow_add]
     exact_mod_cast Nat.pow_le_pow_right (n:=2) (by omega) (show 7*i+7≤63 by omega)
    exact this
   have hpos:=Zld (7*i)
   have hbb:byteAt s (i:Int) % 128*2 ^ (7*i)≤127*2 ^ (7*i):=Int.mul_le_mul_of_nonneg_right (by omega) (by omega)
   have hbn:0≤byteAt s (i:Int) % 128*2 ^ (7*i):=Int.mul_nonneg (by omega) (by omega)
   exact Zje (by omega) (by omega)
theorem Zuq (s:ByteArray):Ret (Zcb s) (VT s):=
 Zaw1 s (10-0) 0 fu 0 rfl (by omega) (by unfold fu;omega) fun _=>rfl
theorem Zlp1 (s:ByteArray):∀ b∈Zk s,0≤b∧b<256:=by
 intro b hb
 unfold Zk at hb
 obtain ⟨u,_,rfl⟩:=List.mem_map.1 hb
 have:=UInt8.toNat_lt u
 omega
end Go.AM.Pure
end
