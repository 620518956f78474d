import Derived.Test.YtclpadlpcfnfmaaGreatAmPVtk2
import Derived.Test.YtclpadlpcfnfmaaGreatAmP06
/- Rows as bytes: layer 06. -/
namespace Go.AM.Pure
open Go.AM
theorem Sw (s:ByteArray) (lo hi:Nat) (h:hi<=s.size):(cutS s (lo:Int) (hi:Int)).size=hi-lo:=by
 unfold cutS;show (s.extract lo hi).size=_;rw [ByteArray.size_extract];omega
theorem Zb2 (s:ByteArray) (lo:Nat) (h:lo<=s.size) (j:Nat):byteAt (cutS s (lo:Int) (s.size:Int)) (j:Int)=byteAt s ((lo+j:Nat):Int):=by
 unfold byteAt cutS;show (((s.extract lo s.size).data.toList.getD j 0).toNat:Int)=((s.data.toList.getD (lo+j) 0).toNat:Int);rw [ByteArray.data_extract,Array.toList_extract,AK,AK];congr 2;rw [List.extract_eq_take_drop,AQ];by_cases hj:j<s.size-lo
 ·rw [if_pos hj,List.getElem?_drop]
 ·rw [if_neg hj,List.getElem?_eq_none (by rw [Array.length_toList];show s.size<=_;omega)]
theorem az (s:ByteArray) (a lo hi:Nat) (h2:hi<=s.size-a):cutS (cutS s (a:Int) (s.size:Int)) (lo:Int) (hi:Int)=cutS s ((a+lo:Nat):Int) ((a+hi:Nat):Int):=by
 apply Su.1;unfold cutS;show ((s.extract a s.size).extract lo hi).data.toList=(s.extract (a+lo) (a+hi)).data.toList;rw [ByteArray.data_extract,ByteArray.data_extract,ByteArray.data_extract,Array.toList_extract,Array.toList_extract,Array.toList_extract,List.extract_eq_take_drop,List.extract_eq_take_drop,List.extract_eq_take_drop];apply List.ext_getElem?;intro j;simp only [AQ,List.getElem?_drop];have hl:s.data.toList.length=s.size:=by rw [Array.length_toList];rfl
 by_cases hj:j<hi-lo
 ·rw [if_pos hj,if_pos Ad,if_pos Ad];congr 1;omega
 ·rw [if_neg hj,if_neg Ad]
theorem Mz (s:ByteArray) (i:Int):IntKind.wrap .i64 (byteAt s i)=byteAt s i:=by
 have:=Jm s i;exact IL Ad Ad
theorem Gx {s:ByteArray}:s=eB↔s.size=0:=by
 constructor
 ·rintro rfl;rfl
 ·intro h;apply Su.1;have:s.data.toList.length=0:=by rw [Array.length_toList];exact h
  rw [AU this];rfl
theorem LZ (s:ByteArray) (lo hi:Int):(cutS s lo hi).size<=s.size:=by
 unfold cutS;rw [ByteArray.size_extract];omega
end Go.AM.Pure
