import Derived.Test.YtclpadlpcfnfmaaGreatAmPure18A
/- Functions of spans that are walked by hand, as pure functions. -/
namespace Go.AM.Pure
open Go.AM
def KZ (l:List (Int×Int)) (s:Int×Int):List (Int×Int):=
 match l.getLast? with
 | some k=>bif Bq s.1 k.2 then l.dropLast++[(k.1,EM k.2 s.2)] else l++[s]
 | none=>[s]
def Rz (l:List Int):Option (List (Int×Int)×Int):=
 (PV l).bind fun b=>
 bif b then some ([],1)
 else bif decide (l.length≤4294967296) && l.all (fun n=>Bq 0 n && AS n 65536) then some ((l.mergeSort fun x y=>decide (x≤y)).foldl (fun a n=>KZ a (n,n+1)) [],0) else none
def Y7:List Int→Option (List Int×List Int)
 | []=>some ([],[])
 | a :: l=>EV (a :: l)
def Fk:Nat→Int→Int→Option (List Int)
 | 0,_,_=>none
 | n+1,w,b=>(Ny w b).bind fun c=>bif AS c 0 then some [] else bif AS c 64 then (Fk n w (c+1)).bind fun r=>some (c :: r) else none
def LD:Int→List Int→Option (List Int)
 | _,[]=>some []
 | k,w :: ws=>(Fk 70 w 0).bind fun bs=>(LD (k+1) ws).bind fun r=>some (bs.map (fun b=>64*k+b)++r)
def IL (l:List (Int×Int)) (n:Int):List (Int×Int):=
 match l.getLast? with
 | some k=>bif AR k.2 n then l.dropLast++[(k.1,n+1)] else l++[(n,n+1)]
 | none=>[(n,n+1)]
def UQ (l:List Int):Option (List (Int×Int)×Int):=
 (Lx l).bind fun b=>bif b then (LD 0 l).bind fun ps=>bif decide (l.length≤1024) && decide (ps.length≤4294967295) then some (ps.foldl IL [],0) else none else some ([],1)
def BF (l:List (Int×Int)):List Int:=l.flatMap fun s=>(List.range (s.2-s.1).toNat).map fun (k:Nat)=>s.1+(k:Int)
def NG (l:Int×(List (Int×Int)×(List Int×List Int))):Option (List Int):=
 bif AR l.1 2 then (bif decide (l.2.2.1.length≤1024) then LD 0 l.2.2.1 else none)
 else bif AR l.1 3 then some l.2.2.2
 else bif decide (l.2.1.length≤4294967296) && l.2.1.all (fun s=>Bq (-9223372036854775808) s.1 && Bq s.2 9223372036854775807) then some (BF l.2.1) else none
def Qb (s:ByteArray) (l:Int×(List (Int×Int)×(List Int×List Int))):Option (List (Int×(Int×ByteArray))×Int):=
 (Kj s).bind fun t=>
 bif By t.2 0 then some ([],t.2)
 else (KK l (AP t.1)).bind fun r=>(KJ l).bind fun c=>
 bif AS r c then some ([],3)
 else (NG l).bind fun ps=>
 bif ps.all (fun at_=>AX at_ (AP t.1)) && decide (ps.length≤4294967296) then some (ps.map fun at_=>nth t.1 at_ (0,(0,eB)),0) else none
end Go.AM.Pure
