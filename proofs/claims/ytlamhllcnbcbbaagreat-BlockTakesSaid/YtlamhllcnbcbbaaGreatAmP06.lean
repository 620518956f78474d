import Derived.Test.YtlamhllcnbcbbaaGreatAmPure06
import Derived.Test.YtlamhllcnbcbbaaGreatAmPCell
/- Layer 06 (cells): the laws of their order. -/
namespace Go.AM.Pure
open Go.AM
theorem Ztq1:eB.size=0:=rfl
theorem Zhg1 (c:Cell):Zkh c=if Zie c=true then 0 else 1:=by
 obtain ⟨k,n,s⟩:=c
 simp only [Zkh,Zie,eqI_d,eqS_d,ltI_d,leI_d,Zma,Zbi1,decide_eq_true_eq,decide_true,Bool.true_and,Bool.not_eq_true',Bool.and_true]
 by_cases h0:k=0
 ·subst h0
  by_cases hn:n=0
  ·by_cases hs:s=eB
   ·subst hs;simp [hn,Ztq1]
   ·simp [hn,hs]
  ·simp [hn]
 ·by_cases h1:k=1
  ·subst h1
   by_cases hs:s=eB
   ·subst hs;simp [Ztq1]
   ·simp [hs]
  ·by_cases h2:k=2
   ·subst h2
    by_cases hn:n=0
    ·by_cases hs:(s.size:Int)≤32
     ·have:¬ (32<(s.size:Int)):=by omega
      simp [hn,hs,this]
     ·have:32<(s.size:Int):=by omega
      simp [hn,hs,this]
    ·simp [hn]
   ·simp [h0,h1,h2]
end Go.AM.Pure
