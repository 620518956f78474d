import Derived.Test.YtclpadlpcfnfmaaGreatAmPure18A
/- Functions of spans that are walked by hand, as pure functions. -/
namespace Go.AM.Pure
open Go.AM
def L4 (l:List (Int×Int)) (s:Int×Int):List (Int×Int):=
 match l.getLast? with
 | some k=>bif BC s.1 k.2 then l.dropLast++[(k.1,FT k.2 s.2)] else l++[s]
 | none=>[s]
def SK (l:List Int):Option (List (Int×Int)×Int):=
 (QX l).bind λ b=>
 bif b then some ([],1)
 else bif decide (l.length<=4294967296) && l.all (λ n=>BC 0 n && A8 n 65536) then some ((l.mergeSort λ x y=>decide (x<=y)).foldl (λ a n=>L4 a (n,n+1)) [],0) else none
def aN:List Int->Option (List Int×List Int)
 | []=>some ([],[])
 | a :: l=>FE (a :: l)
def F7:Nat->Int->Int->Option (List Int)
 | 0,_,_=>none
 | n+1,w,b=>(OO w b).bind λ c=>bif A8 c 0 then some [] else bif A8 c 64 then (F7 n w (c+1)).bind λ r=>some (c :: r) else none
def ME:Int->List Int->Option (List Int)
 | _,[]=>some []
 | k,w :: ws=>(F7 70 w 0).bind λ bs=>(ME (k+1) ws).bind λ r=>some (bs.map (λ b=>64*k+b)++r)
def J6 (l:List (Int×Int)) (n:Int):List (Int×Int):=
 match l.getLast? with
 | some k=>bif A9 k.2 n then l.dropLast++[(k.1,n+1)] else l++[(n,n+1)]
 | none=>[(n,n+1)]
def Wo (l:List Int):Option (List (Int×Int)×Int):=
 (My l).bind λ b=>bif b then (ME 0 l).bind λ ps=>bif decide (l.length<=1024) && decide (ps.length<=4294967295) then some (ps.foldl J6 [],0) else none else some ([],1)
def Cf (l:List (Int×Int)):List Int:=l.flatMap λ s=>(List.range (s.2-s.1).toNat).map λ (k:Nat)=>s.1+(k:Int)
def OS (l:Int×(List (Int×Int)×(List Int×List Int))):Option (List Int):=
 bif A9 l.1 2 then (bif decide (l.2.2.1.length<=1024) then ME 0 l.2.2.1 else none)
 else bif A9 l.1 3 then some l.2.2.2
 else bif decide (l.2.1.length<=4294967296) && l.2.1.all (λ s=>BC (-9223372036854775808) s.1 && BC s.2 9223372036854775807) then some (Cf l.2.1) else none
def Ku (s:ByteArray) (l:Int×(List (Int×Int)×(List Int×List Int))):Option (List (Int×(Int×ByteArray))×Int):=
 (I7 s).bind λ t=>
 bif BK t.2 0 then some ([],t.2)
 else (LP l (AZ t.1)).bind λ r=>(LO l).bind λ c=>
 bif A8 r c then some ([],3)
 else (OS l).bind λ ps=>
 bif ps.all (λ at_=>Bf at_ (AZ t.1)) && decide (ps.length<=4294967296) then some (ps.map λ at_=>nth t.1 at_ (0,(0,eB)),0) else none
end Go.AM.Pure
