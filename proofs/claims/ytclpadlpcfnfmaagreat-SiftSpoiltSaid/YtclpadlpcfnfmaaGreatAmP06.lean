import Derived.Test.YtclpadlpcfnfmaaGreatAmPure06
import Derived.Test.YtclpadlpcfnfmaaGreatAmPCell
/- Layer 06 (cells): the laws of their order. -/
namespace Go.AM.Pure
open Go.AM
theorem yg:eB.size=0:=rfl
theorem rP (c:Cell):Fp c=if HQ c=true then 0 else 1:=by
 obtain ⟨k,n,s⟩:=c;simp only [Fp,HQ,RE,MI,c7,oc,Cc,WK,decide_eq_true_eq,decide_true,AH,Bool.not_eq_true',Bool.and_true];by_cases h0:k=0
 ·subst h0;by_cases hn:n=0
  ·by_cases hs:s=eB
   ·subst hs;simp [hn,yg]
   ·simp [hn,hs]
  ·simp [hn]
 ·by_cases h1:k=1
  ·subst h1;by_cases hs:s=eB
   ·subst hs;simp [yg]
   ·simp [hs]
  ·by_cases h2:k=2
   ·subst h2;by_cases hn:n=0
    ·by_cases hs:(s.size:Int)<=32
     ·have:¬ (32<(s.size:Int)):=Ad
      simp [hn,hs,this]
     ·have:32<(s.size:Int):=by omega
      simp [hn,hs,this]
    ·simp [hn]
   ·simp [h0,h1,h2]
end Go.AM.Pure
