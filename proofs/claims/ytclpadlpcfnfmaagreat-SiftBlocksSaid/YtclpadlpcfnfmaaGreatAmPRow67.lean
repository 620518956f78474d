import Derived.Test.YtclpadlpcfnfmaaGreatAmPTrip
import Derived.Test.YtclpadlpcfnfmaaGreatAmPVc
section
/- Rows written and read again: layer 06. -/
namespace Go.AM.Pure
open Go.AM
theorem oM (s:ByteArray) (k:Nat):Bi (cutS s (k:Int) (s.size:Int))=(Bi s).drop k:=by
 unfold Bi cutS
 show List.map _ (s.extract k s.size).data.toList=_
 rw [ByteArray.data_extract,Array.toList_extract,List.extract_eq_take_drop,← List.map_drop]
 congr 1
 exact AF (by rw [List.length_drop,Array.length_toList];show s.size-k≤_;omega)
theorem Rg {s:ByteArray} {l:List Int} (h:Bi s=l) {i:Nat} {b:Int} (hb:l[i]? = some b):byteAt s (i:Int)=b:=by
 have hi:i<s.size:=by
  have:=(List.getElem?_eq_some_iff.1 hb).1
  rw [← h,DN] at this
  exact this
 have:=Lw s i hi
 rw [h,hb] at this
 exact (Option.some.inj this).symm
theorem rP {c:Cell} (h:GD c=true):c=(0,0,eB)∨(∃ n,c=(1,n,eB))∨∃ t,c=(2,0,t)∧t.size≤32:=by
 obtain ⟨k,n,s⟩:=c
 simp only [GD,Pc,M7,aQ,C6,Te,decide_eq_true_eq] at h
 by_cases h0:k=0
 ·rw [if_pos h0] at h
  by_cases hn:n=0
  ·rw [if_pos hn] at h
   have:=Ak h
   left;rw [h0,hn,this]
  ·rw [if_neg hn] at h;cases h
 ·rw [if_neg h0] at h
  by_cases h1:k=1
  ·rw [if_pos h1] at h
   have:=Ak h
   right;left;exact ⟨n,by rw [h1,this]⟩
  ·rw [if_neg h1] at h
   by_cases h2:k=2
   ·rw [if_pos h2] at h
    by_cases hn:n=0
    ·rw [if_pos hn] at h
     have:=Ak h
     right;right;exact ⟨s,by rw [h2,hn],by omega⟩
    ·rw [if_neg hn] at h;cases h
   ·rw [if_neg h2] at h;cases h
end Go.AM.Pure
end

section
/- CellBytes: what is put is taken as it was. -/
namespace Go.AM.Pure
open Go.AM
def VT (s:ByteArray) (r:Int×Int×Int):Prop:=(r.2.2=0∧1≤r.2.1∧r.2.1≤(s.size:Int)∧BY r.1)∨(r.2.2≠0∧r.1=0∧r.2.1=0)
theorem Zzm (s:ByteArray):∀ b∈Bi s,0≤b∧b<256:=by
 intro b hb
 unfold Bi at hb
 obtain ⟨u,_,rfl⟩:=List.mem_map.1 hb
 have:=UInt8.toNat_lt u
 omega
theorem Yni {n:Int} (h:(Lit.int .i64 n).wf=true):BY n:=by
 have h':(decide ((-9223372036854775808:Int)≤n) && decide (n≤9223372036854775807))=true:=h
 rw [Bool.and_eq_true] at h'
 have h1:=Ak h'.1
 have h2:=Ak h'.2
 unfold BY
 omega
end Go.AM.Pure
end
