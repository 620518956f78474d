import Derived.Test.YtclpadlpcfnfmaaGreatAmPure18A
/- Functions of spans that are walked by hand, as pure functions. -/
namespace Go.AM.Pure
open Go.AM
def MH (l:List (Int×Int)) (s:Int×Int):List (Int×Int):=
 match l.getLast? with
 | some k=>bif leI s.1 k.2 then l.dropLast++[(k.1,FP k.2 s.2)] else l++[s]
 | none=>[s]
def RZ (l:List Int):Option (List (Int×Int)×Int):=
 (CZ l).bind fun b=>
 bif b then some ([],1)
 else bif decide (l.length≤4294967296) && l.all (fun n=>leI 0 n && ltI n 65536) then some ((l.mergeSort fun x y=>decide (x≤y)).foldl (fun a n=>MH a (n,n+1)) [],0) else none
def Dm:Nat→Int→Int→Option (List Int)
 | 0,_,_=>none
 | n+1,w,b=>(GV w b).bind fun c=>bif ltI c 0 then some [] else bif ltI c 64 then (Dm n w (c+1)).bind fun r=>some (c :: r) else none
def Ht:Int→List Int→Option (List Int)
 | _,[]=>some []
 | k,w :: ws=>(Dm 70 w 0).bind fun bs=>(Ht (k+1) ws).bind fun r=>some (bs.map (fun b=>64*k+b)++r)
def PM (l:List (Int×Int)) (n:Int):List (Int×Int):=
 match l.getLast? with
 | some k=>bif eqI k.2 n then l.dropLast++[(k.1,n+1)] else l++[(n,n+1)]
 | none=>[(n,n+1)]
def NS (l:List Int):Option (List (Int×Int)×Int):=
 (FK l).bind fun b=>bif b then (Ht 0 l).bind fun ps=>bif decide (l.length≤1024) && decide (ps.length≤4294967295) then some (ps.foldl PM [],0) else none else some ([],1)
def Bi (l:List (Int×Int)):List Int:=l.flatMap fun s=>(List.range (s.2-s.1).toNat).map fun (k:Nat)=>s.1+(k:Int)
def Ji (l:Int×(List (Int×Int)×(List Int×List Int))):Option (List Int):=
 bif eqI l.1 2 then (bif decide (l.2.2.1.length≤1024) then Ht 0 l.2.2.1 else none)
 else bif eqI l.1 3 then some l.2.2.2
 else bif decide (l.2.1.length≤4294967296) && l.2.1.all (fun s=>leI (-9223372036854775808) s.1 && leI s.2 9223372036854775807) then some (Bi l.2.1) else none
def Hd (s:ByteArray) (l:Int×(List (Int×Int)×(List Int×List Int))):Option (List (Int×(Int×ByteArray))×Int):=
 (EI s).bind fun t=>
 bif neI t.2 0 then some ([],t.2)
 else (Dh l (Ai t.1)).bind fun r=>(CV l).bind fun c=>
 bif ltI r c then some ([],3)
 else (Ji l).bind fun ps=>
 bif ps.all (fun at_=>inB at_ (Ai t.1)) && decide (ps.length≤4294967296) then some (ps.map fun at_=>nth t.1 at_ (0,(0,eB)),0) else none
end Go.AM.Pure
