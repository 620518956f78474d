import Derived.Test.YtlamhllcnbcbbaaGreatAmPrimW
import Derived.Test.YtlamhllcnbcbbaaGreatAmPure06
/- PRINTED by gen/ of this repo: the functions of the seat as pure functions. -/
namespace Go.AM.Pure
open Go.AM
abbrev D13a:Type:=List Int
abbrev D13b:Type:=Int×Int
abbrev D13c:Type:=List Bool
abbrev D13d:Type:=D13a
abbrev D13e:Type:=List ByteArray
abbrev D13f:Type:=Int×ByteArray
abbrev D13g:Type:=ByteArray×Int
abbrev D13h:Type:=D13a×Int
abbrev D13i:Type:=Int×D13b
abbrev D13j:Type:=Bool×D13a
abbrev D13l:Type:=D13e×Int
abbrev D13m:Type:=Int×D13f
abbrev D13n:Type:=D13a×D13a
abbrev D13o:Type:=List D13i
abbrev D13p:Type:=Int×D13i
abbrev D13q:Type:=D13o
abbrev D13r:Type:=D13e×D13a
abbrev D13s:Type:=D13a×D13a×Int
abbrev D13t:Type:=D13e×Int×Bool
abbrev D13u:Type:=List D13m
abbrev D13v:Type:=D13o×Int
abbrev D13w:Type:=D13e×D13a×Int
abbrev D13x:Type:=D13u×Int
abbrev D13y:Type:=Int×D13u
abbrev D13z:Type:=ByteArray×D13u
def Zxp (xn:Int):D13m:=
 (1,xn,eB)
def Zze (c:D13m) (t1:Int):Bool:=
 bif (neI (Zkh c) 0) then
 true
 else
 bif (neI c.1 0) then
 (neI c.1 t1)
 else
 false
def Zze.o (c:D13m) (t1:Int):Option Bool:=
 bif (neI (Zkh c) 0) then
 some true
 else
 bif (neI c.1 0) then
 some (neI c.1 t1)
 else
 some false
def Zs.S0 (self:D13u→Int→Int→Int→Option Int) (x1:D13u) (x2 x3 x4:Int):Option Int:=
 bif (ltI x4 x3) then
 bif (inB x4 (lenL x1)) then
 bif (Zze (nth x1 x4 (0,0,eB)) x2) then
 some x4
 else
 self x1 x2 x3 (addI .i64 x4 1)
 else none
 else
 some (-1)
def Zs.l0:Nat→D13u→Int→Int→Int→Option Int
 | 0=>fun _ _ _ _=>none
 | n+1=>Zs.S0 (Zs.l0 n)
def Zs.S (j0:D13u→Int→Int→Int→Option Int) (s:D13u) (f0:Int):Option Int:=
 j0 s f0 (lenL s) 0
def Zs (s:D13u) (f0:Int):Option Int:=Zs.S (Zs.l0 fu) s f0
def Zjc (s:D13u) (f0:Int):Option Bool:=
 ((Zs s f0)).bind fun x1=>
 some (leI 0 x1)
def Zon (l:D13u) (kind:Int):Option Bool:=
 bif (ltI (lenL l) 1) then
 some false
 else
 bif (ltI 64 (lenL l)) then
 some false
 else
 bif (neI kind 1) then
 bif (neI kind 2) then
 some false
 else
 ((Zjc l kind)).bind fun x1=>
 some (!x1)
 else
 ((Zjc l kind)).bind fun x2=>
 some (!x2)
def Zbi (c:D13m):Bool:=
 (eqI c.1 0)
def Zfk (c:D13m):Bool:=
 (Zbi c)
def Zm.S0 (self:Int→Int→D13u→Option D13y) (x1 x2:Int) (x3:D13u):Option D13y:=
 bif (ltI x2 x1) then
 bif (inB x2 (lenL x3)) then
 bif (Zfk (List.getD x3 (Int.toNat x2) (0,0,eB))) then
 bif (decide (0<(List.length x3))) then
 some (x2,x3)
 else none
 else
 self x1 (addI .i64 x2 1) x3
 else none
 else
 bif (decide (0<(List.length x3))) then
 some ((-1),x3)
 else none
def Zm.l0:Nat→Int→Int→D13u→Option D13y
 | 0=>fun _ _ _=>none
 | n+1=>Zm.S0 (Zm.l0 n)
def Zm.S (j0:Int→Int→D13u→Option D13y) (s:D13u):Option D13y:=
 j0 (lenL s) 0 s
def Zm (s:D13u):Option D13y:=Zm.S (Zm.l0 fu) s
def Zc.S1 (x6:Int) (x7:D13u):Option D13y:=
 bif (inC x6 (lenL x7) (lenL x7)) then
 bif (inC 0 x6 (lenL (splA x7 (Int.toNat x6) (List.replicate ((Int.toNat (lenL x7))-(Int.toNat x6)) ((0:Int),((0:Int),eB)))))) then
 bif (decide (0<(List.length (splA x7 (Int.toNat x6) (List.replicate ((Int.toNat (lenL x7))-(Int.toNat x6)) ((0:Int),((0:Int),eB))))))) then
 some (((((Int.toNat x6)-0):Nat):Int),(splA x7 (Int.toNat x6) (List.replicate ((Int.toNat (lenL x7))-(Int.toNat x6)) ((0:Int),((0:Int),eB)))))
 else none
 else none
 else none
def Zc.t1:Nat→Int→D13u→Option D13y
 | 0=>fun _ _=>none
 | _+1=>Zc.S1
def Zc.S0 (o1_0:Int→D13u→Option D13y) (self:Int→Int→D13u→Option D13y) (x2 x3:Int) (x4:D13u):Option D13y:=
 bif (ltI x3 (lenL x4)) then
 bif (inB x3 (lenL x4)) then
 bif (!(Zfk (List.getD x4 (Int.toNat x3) (0,0,eB)))) then
 bif (inB x2 (lenL x4)) then
 self (addI .i64 x2 1) (addI .i64 x3 1) (List.set x4 (Int.toNat x2) (List.getD x4 (Int.toNat x3) (0,0,eB)))
 else none
 else
 self x2 (addI .i64 x3 1) x4
 else none
 else
 o1_0 x2 x4
def Zc.l0 (o1_0:Int→D13u→Option D13y):Nat→Int→Int→D13u→Option D13y
 | 0=>fun _ _ _=>none
 | n+1=>Zc.S0 o1_0 (Zc.l0 o1_0 n)
def Zc.S (j0:Int→Int→D13u→Option D13y) (s:D13u):Option D13y:=
 ((Zrp ((decide (0<(List.length s))) && true) (Zm s) fun _x=>((decide ((List.length _x.2)=(List.length s))) && true))).bind fun x1=>
 bif (eqI x1.1 (-1)) then
 bif (decide (0<(List.length x1.2))) then
 some ((lenL x1.2),x1.2)
 else none
 else
 j0 x1.1 (addI .i64 x1.1 1) x1.2
def Zc (s:D13u):Option D13y:=Zc.S (Zc.l0 (Zc.t1 fu) fu) s
def Zxb.S0 (self:Int→D13a→Int→Int→Option Int) (x1:Int) (x2:D13a) (x3 x4:Int):Option Int:=
 bif (ltI x4 x3) then
 bif (inB x4 (lenL x2)) then
 self (orI .i64 x1 (nth x2 x4 0)) x2 x3 (addI .i64 x4 1)
 else none
 else
 ((Znc x1)).bind fun x5=>
 some x5
def Zxb.l0:Nat→Int→D13a→Int→Int→Option Int
 | 0=>fun _ _ _ _=>none
 | n+1=>Zxb.S0 (Zxb.l0 n)
def Zxb.S (j0:Int→D13a→Int→Int→Option Int) (l:D13a):Option Int:=
 j0 0 l (lenL l) 0
def Zxb (l:D13a):Option Int:=Zxb.S (Zxb.l0 fu) l
def Zlh (xn width:Int):Int:=
 bif (ltI xn 1) then
 0
 else
 bif (ltI 65536 xn) then
 0
 else
 bif (ltI width 1) then
 0
 else
 bif (ltI 64 width) then
 0
 else
 (shrI .i64 (addI .i64 (mulI .i64 xn width) 7) 3)
def Zlh.o (xn width:Int):Option Int:=
 bif (ltI xn 1) then
 some 0
 else
 bif (ltI 65536 xn) then
 some 0
 else
 bif (ltI width 1) then
 some 0
 else
 bif (ltI 64 width) then
 some 0
 else
 some (shrI .i64 (addI .i64 (mulI .i64 xn width) 7) 3)
def Zyp (w:Int):Option Int:=
 bif (leI w 0) then
 some 0
 else
 bif (leI 64 w) then
 some (-1)
 else
 bif (leI 0 w) then
 some (IntKind.wrap .i64 (subI .u64 (shlI .u64 1 w) 1))
 else none
def Zva.S2 (x20:D13a) (x21 x22:Int):Option D13g:=
 bif (ltI 0 x22) then
 bif (roomB ((List.length x20)+1) 1) then
 some ((ofBytes (x20++[(IntKind.wrap .u8 x21)])),0)
 else none
 else
 some ((ofBytes x20),0)
def Zva.t2:Nat→D13a→Int→Int→Option D13g
 | 0=>fun _ _ _=>none
 | _+1=>Zva.S2
def Zva.S1 (o0_1:Int→D13a→Int→Int→D13a→Int→Int→Option D13g) (self:Int→D13a→Int→Int→Int→Int→D13a→Int→Int→Option D13g) (x10:Int) (x11:D13a) (x12 x13:Int) (x14 x15:Int) (x16:D13a) (x17 x18:Int):Option D13g:=
 bif (ltI 0 x15) then
 ((Zyp (minI (subI .i64 8 x13) x15))).bind fun x19=>
 bif (leI 0 x13) then
 bif (leI 0 (minI (subI .i64 8 x13) x15)) then
 bif (eqI (addI .i64 x13 (minI (subI .i64 8 x13) x15)) 8) then
 bif (roomB ((List.length x11)+1) 1) then
 self x10 (x11++[(IntKind.wrap .u8 (orI .u64 x12 (shlI .u64 (andI .u64 x14 (IntKind.wrap .u64 x19)) x13)))]) 0 0 (shrI .u64 x14 (minI (subI .i64 8 x13) x15)) (subI .i64 x15 (minI (subI .i64 8 x13) x15)) x16 x17 x18
 else none
 else
 self x10 x11 (orI .u64 x12 (shlI .u64 (andI .u64 x14 (IntKind.wrap .u64 x19)) x13)) (addI .i64 x13 (minI (subI .i64 8 x13) x15)) (shrI .u64 x14 (minI (subI .i64 8 x13) x15)) (subI .i64 x15 (minI (subI .i64 8 x13) x15)) x16 x17 x18
 else none
 else none
 else
 o0_1 x10 x11 x12 x13 x16 x17 (addI .i64 x18 1)
def Zva.l1 (o0_1:Int→D13a→Int→Int→D13a→Int→Int→Option D13g):Nat→Int→D13a→Int→Int→Int→Int→D13a→Int→Int→Option D13g
 | 0=>fun _ _ _ _ _ _ _ _ _=>none
 | n+1=>Zva.S1 o0_1 (Zva.l1 o0_1 n)
def Zva.S0 (o2_0:D13a→Int→Int→Option D13g) (j1:Int→D13a→Int→Int→Int→Int→D13a→Int→Int→Option D13g) (x3:Int) (x4:D13a) (x5 x6:Int) (x7:D13a) (x8 x9:Int):Option D13g:=
 bif (ltI x9 x8) then
 bif (inB x9 (lenL x7)) then
 j1 x3 x4 x5 x6 (IntKind.wrap .u64 (nth x7 x9 0)) x3 x7 x8 x9
 else none
 else
 o2_0 x4 x5 x6
def Zva.l0 (o2_0:D13a→Int→Int→Option D13g):Nat→Int→D13a→Int→Int→D13a→Int→Int→Option D13g
 | 0=>fun _ _ _ _ _ _ _=>none
 | n+1=>Zva.S0 o2_0 (Zva.l1 (Zva.l0 o2_0 n) n)
def Zva.S (j0:Int→D13a→Int→Int→D13a→Int→Int→Option D13g) (l:D13a) (width:Int):Option D13g:=
 bif (ltI width 0) then
 some (eB,1)
 else
 bif (ltI 64 width) then
 some (eB,1)
 else
 bif (ltI 65536 (lenL l)) then
 some (eB,1)
 else
 ((Zxb l)).bind fun x1=>
 bif (ltI width x1) then
 some (eB,1)
 else
 let x2:=(Zlh (lenL l) width)
 bif ((leI 0 (addI .i64 x2 1)) && (roomB (Int.toNat (addI .i64 x2 1)) 1)) then
 j0 width [] 0 0 l (lenL l) 0
 else none
def Zva (l:D13a) (width:Int):Option D13g:=Zva.S (Zva.l0 (Zva.t2 fu) fu) l width
def Zib.S1 (x11 x12:Nat) (x13:D13u) (x14:D13a):Option D13z:=
 ((Zva x14 1)).bind fun x15=>
 some (x15.1,(List.take x12 (List.drop x11 x13)))
def Zib.t1:Nat→Nat→Nat→D13u→D13a→Option D13z
 | 0=>fun _ _ _ _=>none
 | _+1=>Zib.S1
def Zib.S0 (o1_0:Nat→Nat→D13u→D13a→Option D13z) (self:Nat→Nat→D13u→Int→Int→D13u→D13a→Option D13z) (x3 x4:Nat) (x5:D13u) (x6 x7:Int) (x8:D13u) (x9:D13a):Option D13z:=
 bif (ltI x7 x6) then
 bif (inB x7 (lenL x5)) then
 bif (Zbi (nth x5 x7 (0,0,eB))) then
 bif (inB x7 (lenL x9)) then
 self x3 x4 x5 x6 (addI .i64 x7 1) x8 (List.set x9 (Int.toNat x7) 1)
 else none
 else
 self x3 x4 x5 x6 (addI .i64 x7 1) x8 x9
 else none
 else
 o1_0 x3 x4 x8 x9
def Zib.l0 (o1_0:Nat→Nat→D13u→D13a→Option D13z):Nat→Nat→Nat→D13u→Int→Int→D13u→D13a→Option D13z
 | 0=>fun _ _ _ _ _ _ _=>none
 | n+1=>Zib.S0 o1_0 (Zib.l0 o1_0 n)
def Zib.S (j0:Nat→Nat→D13u→Int→Int→D13u→D13a→Option D13z) (l:D13u):Option D13z:=
 ((Zli 32 l)).bind fun x1=>
 ((Zrp ((decide (0<(List.length x1))) && true) (Zc x1) fun _x=>((decide ((List.length _x.2)=(List.length x1))) && true))).bind fun x2=>
 bif (eqI (((Int.toNat x2.1):Nat):Int) (lenL l)) then
 some (eB,(List.take (Int.toNat x2.1) (List.drop 0 x2.2)))
 else
 bif ((leI 0 (lenL l)) && (roomB (Int.toNat (lenL l)) 8)) then
 j0 0 (Int.toNat x2.1) l (lenL l) 0 x2.2 (List.replicate (Int.toNat (lenL l)) (0:Int))
 else none
def Zib (l:D13u):Option D13z:=Zib.S (Zib.l0 (Zib.t1 fu) fu) l
def Zsa.S1 (o0_1:D13a→D13a→Int→Int→Option ByteArray) (self:D13a→Int→D13a→Int→Int→Int→Option ByteArray) (x5:D13a) (x6:Int) (x7:D13a) (x8 x9 x10:Int):Option ByteArray:=
 bif (ltI x10 8) then
 bif (roomB ((List.length x5)+1) 1) then
 self (x5++[(IntKind.wrap .u8 x6)]) (shrI .u64 x6 8) x7 x8 x9 (addI .i64 x10 1)
 else none
 else
 o0_1 x5 x7 x8 (addI .i64 x9 1)
def Zsa.l1 (o0_1:D13a→D13a→Int→Int→Option ByteArray):Nat→D13a→Int→D13a→Int→Int→Int→Option ByteArray
 | 0=>fun _ _ _ _ _ _=>none
 | n+1=>Zsa.S1 o0_1 (Zsa.l1 o0_1 n)
def Zsa.S0 (j1:D13a→Int→D13a→Int→Int→Int→Option ByteArray) (x1 x2:D13a) (x3 x4:Int):Option ByteArray:=
 bif (ltI x4 x3) then
 bif (inB x4 (lenL x2)) then
 j1 x1 (IntKind.wrap .u64 (nth x2 x4 0)) x2 x3 x4 0
 else none
 else
 some (ofBytes x1)
def Zsa.l0:Nat→D13a→D13a→Int→Int→Option ByteArray
 | 0=>fun _ _ _ _=>none
 | n+1=>Zsa.S0 (Zsa.l1 (Zsa.l0 n) n)
def Zsa.S (j0:D13a→D13a→Int→Int→Option ByteArray) (l:D13a):Option ByteArray:=
 bif ((leI 0 (mulI .i64 8 (lenL l))) && (roomB (Int.toNat (mulI .i64 8 (lenL l))) 1)) then
 j0 [] l (lenL l) 0
 else none
def Zsa (l:D13a):Option ByteArray:=Zsa.S (Zsa.l0 fu) l
def Zqe.S0 (self:D13a→D13a→Int→Int→D13o→Option D13q) (x1 x2:D13a) (x3 x4:Int) (x5:D13o):Option D13q:=
 bif (ltI x4 x3) then
 bif (inB x4 (lenL x2)) then
 bif (eqI x4 0) then
 bif (roomB ((List.length x5)+1) 24) then
 bif (inB (subI .i64 (lenL (x5++[((nth x2 x4 0),x4,0)])) 1) (lenL (x5++[((nth x2 x4 0),x4,0)]))) then
 bif (inB (subI .i64 (lenL (x5++[((nth x2 x4 0),x4,0)])) 1) (lenL (x5++[((nth x2 x4 0),x4,0)]))) then
 self x1 x2 x3 (addI .i64 x4 1) (List.set (x5++[((nth x2 x4 0),x4,0)]) (Int.toNat (subI .i64 (lenL (x5++[((nth x2 x4 0),x4,0)])) 1)) ((List.getD (x5++[((nth x2 x4 0),x4,0)]) (Int.toNat (subI .i64 (lenL (x5++[((nth x2 x4 0),x4,0)])) 1)) (0,0,0)).1,(List.getD (x5++[((nth x2 x4 0),x4,0)]) (Int.toNat (subI .i64 (lenL (x5++[((nth x2 x4 0),x4,0)])) 1)) (0,0,0)).2.1,(addI .i64 (List.getD (x5++[((nth x2 x4 0),x4,0)]) (Int.toNat (subI .i64 (lenL (x5++[((nth x2 x4 0),x4,0)])) 1)) (0,0,0)).2.2 1)))
 else none
 else none
 else none
 else
 bif (inB (subI .i64 x4 1) (lenL x1)) then
 bif (neI (nth x2 x4 0) (nth x1 (subI .i64 x4 1) 0)) then
 bif (roomB ((List.length x5)+1) 24) then
 bif (inB (subI .i64 (lenL (x5++[((nth x2 x4 0),x4,0)])) 1) (lenL (x5++[((nth x2 x4 0),x4,0)]))) then
 bif (inB (subI .i64 (lenL (x5++[((nth x2 x4 0),x4,0)])) 1) (lenL (x5++[((nth x2 x4 0),x4,0)]))) then
 self x1 x2 x3 (addI .i64 x4 1) (List.set (x5++[((nth x2 x4 0),x4,0)]) (Int.toNat (subI .i64 (lenL (x5++[((nth x2 x4 0),x4,0)])) 1)) ((List.getD (x5++[((nth x2 x4 0),x4,0)]) (Int.toNat (subI .i64 (lenL (x5++[((nth x2 x4 0),x4,0)])) 1)) (0,0,0)).1,(List.getD (x5++[((nth x2 x4 0),x4,0)]) (Int.toNat (subI .i64 (lenL (x5++[((nth x2 x4 0),x4,0)])) 1)) (0,0,0)).2.1,(addI .i64 (List.getD (x5++[((nth x2 x4 0),x4,0)]) (Int.toNat (subI .i64 (lenL (x5++[((nth x2 x4 0),x4,0)])) 1)) (0,0,0)).2.2 1)))
 else none
 else none
 else none
 else
 bif (inB (subI .i64 (lenL x5) 1) (lenL x5)) then
 bif (inB (subI .i64 (lenL x5) 1) (lenL x5)) then
 self x1 x2 x3 (addI .i64 x4 1) (List.set x5 (Int.toNat (subI .i64 (lenL x5) 1)) ((List.getD x5 (Int.toNat (subI .i64 (lenL x5) 1)) (0,0,0)).1,(List.getD x5 (Int.toNat (subI .i64 (lenL x5) 1)) (0,0,0)).2.1,(addI .i64 (List.getD x5 (Int.toNat (subI .i64 (lenL x5) 1)) (0,0,0)).2.2 1)))
 else none
 else none
 else none
 else none
 else
 some x5
def Zqe.l0:Nat→D13a→D13a→Int→Int→D13o→Option D13q
 | 0=>fun _ _ _ _ _=>none
 | n+1=>Zqe.S0 (Zqe.l0 n)
def Zqe.S (j0:D13a→D13a→Int→Int→D13o→Option D13q) (l:D13a):Option D13q:=
 bif (ltI 65536 (lenL l)) then
 some []
 else
 j0 l l (lenL l) 0 []
def Zqe (l:D13a):Option D13q:=Zqe.S (Zqe.l0 fu) l
def Zkc.S0 (self:D13o→Int→D13o→Int→Int→Option (Int×Bool)) (x1:D13o) (x2:Int) (x3:D13o) (x4 x5:Int):Option (Int×Bool):=
 bif (ltI x5 x4) then
 bif (inB x5 (lenL x3)) then
 bif (neI (nth x3 x5 (0,0,0)).2.1 x2) then
 some (0,false)
 else
 bif (ltI (nth x3 x5 (0,0,0)).2.2 1) then
 some (0,false)
 else
 bif (ltI (subI .i64 65536 x2) (nth x3 x5 (0,0,0)).2.2) then
 some (0,false)
 else
 bif (ltI 0 x5) then
 bif (inB (subI .i64 x5 1) (lenL x1)) then
 bif (eqI (nth x3 x5 (0,0,0)).1 (nth x1 (subI .i64 x5 1) (0,0,0)).1) then
 some (0,false)
 else
 self x1 (addI .i64 x2 (nth x3 x5 (0,0,0)).2.2) x3 x4 (addI .i64 x5 1)
 else none
 else
 self x1 (addI .i64 x2 (nth x3 x5 (0,0,0)).2.2) x3 x4 (addI .i64 x5 1)
 else none
 else
 some (x2,true)
def Zkc.l0:Nat→D13o→Int→D13o→Int→Int→Option (Int×Bool)
 | 0=>fun _ _ _ _ _=>none
 | n+1=>Zkc.S0 (Zkc.l0 n)
def Zkc.S (j0:D13o→Int→D13o→Int→Int→Option (Int×Bool)) (l:D13o):Option (Int×Bool):=
 j0 l 0 l (lenL l) 0
def Zkc (l:D13o):Option (Int×Bool):=Zkc.S (Zkc.l0 fu) l
def Zmd (b:D13j) (s:ByteArray):Option (Int×Bool×D13j):=
 bif (roomB ((List.length (Zjm b).2)+(ByteArray.size s)) 1) then
 some ((lenS s),true,(Zjm b).1,((Zjm b).2++(Zk s)))
 else none
def Zfe.S0 (self:D13o→Int→Int→D13j→Option D13g) (x2:D13o) (x3 x4:Int) (x5:D13j):Option D13g:=
 bif (ltI x4 x3) then
 bif (inB x4 (lenL x2)) then
 ((Ztb (nth x2 x4 (0,0,0)).1)).bind fun x6=>
 ((Zmd x5 x6)).bind fun x7=>
 ((Ztb (nth x2 x4 (0,0,0)).2.2)).bind fun x8=>
 ((Zmd x7.2.2 x8)).bind fun x9=>
 self x2 x3 (addI .i64 x4 1) x9.2.2
 else none
 else
 ((Zal x5)).bind fun x10=>
 some (x10.1,0)
def Zfe.l0:Nat→D13o→Int→Int→D13j→Option D13g
 | 0=>fun _ _ _ _=>none
 | n+1=>Zfe.S0 (Zfe.l0 n)
def Zfe.S (j0:D13o→Int→Int→D13j→Option D13g) (l:D13o):Option D13g:=
 ((Zkc l)).bind fun x1=>
 bif (!x1.2) then
 some (eB,1)
 else
 j0 l (lenL l) 0 (true,[])
def Zfe (l:D13o):Option D13g:=Zfe.S (Zfe.l0 fu) l
def Zzp (xfrom xto:Int):Int:=
 (IntKind.wrap .i64 (subI .u64 (IntKind.wrap .u64 xto) (IntKind.wrap .u64 xfrom)))
def Zoa.S1 (self:D13a→Int→Int→Option Int) (x2:D13a) (x3 x4:Int):Option Int:=
 bif (ltI x4 (lenL x2)) then
 bif (inB x4 (lenL x2)) then
 self x2 (minI x3 (nth x2 x4 0)) (addI .i64 x4 1)
 else none
 else
 some x3
def Zoa.l1:Nat→D13a→Int→Int→Option Int
 | 0=>fun _ _ _=>none
 | n+1=>Zoa.S1 (Zoa.l1 n)
def Zoa.S0 (j1:D13a→Int→Int→Option Int) (x1:D13a):Option Int:=
 bif (inB 0 (lenL x1)) then
 j1 x1 (nth x1 0 0) 1
 else none
def Zoa.t0:Nat→D13a→Option Int
 | 0=>fun _=>none
 | n+1=>Zoa.S0 (Zoa.l1 n)
def Zoa.S (j0:D13a→Option Int) (x:D13a):Option Int:=
 bif (ltI (lenL x) 1) then
 none
 else
 j0 x
def Zoa (x:D13a):Option Int:=Zoa.S (Zoa.t0 fu) x
def Zqa.S2 (self:Int→Int→Int→D13a→Option D13h) (x7 x8 x9:Int) (x10:D13a):Option D13h:=
 bif (ltI x9 x8) then
 bif (inB x9 (lenL x10)) then
 bif (inB x9 (lenL x10)) then
 self x7 x8 (addI .i64 x9 1) (List.set x10 (Int.toNat x9) (Zzp x7 (List.getD x10 (Int.toNat x9) 0)))
 else none
 else none
 else
 some (x10,x7)
def Zqa.l2:Nat→Int→Int→Int→D13a→Option D13h
 | 0=>fun _ _ _ _=>none
 | n+1=>Zqa.S2 (Zqa.l2 n)
def Zqa.S1 (j2:Int→Int→Int→D13a→Option D13h) (x5:D13a):Option D13h:=
 ((Zoa x5)).bind fun x6=>
 j2 x6 (lenL x5) 0 x5
def Zqa.t1:Nat→D13a→Option D13h
 | 0=>fun _=>none
 | n+1=>Zqa.S1 (Zqa.l2 n)
def Zqa.S0 (o1_0:D13a→Option D13h) (self:D13a→Int→D13a→Option D13h) (x1:D13a) (x2:Int) (x3:D13a):Option D13h:=
 bif (ltI x2 (lenL x1)) then
 bif (inB (subI .i64 x2 1) (lenL x1)) then
 bif (inB x2 (lenL x1)) then
 bif (roomB ((List.length x3)+1) 8) then
 self x1 (addI .i64 x2 1) (x3++[(Zzp (nth x1 (subI .i64 x2 1) 0) (nth x1 x2 0))])
 else none
 else none
 else none
 else
 o1_0 x3
def Zqa.l0 (o1_0:D13a→Option D13h):Nat→D13a→Int→D13a→Option D13h
 | 0=>fun _ _ _=>none
 | n+1=>Zqa.S0 o1_0 (Zqa.l0 o1_0 n)
def Zqa.S (j0:D13a→Int→D13a→Option D13h) (l:D13a):Option D13h:=
 bif ((leI 0 (lenL l)) && (roomB (Int.toNat (lenL l)) 8)) then
 j0 l 1 []
 else none
def Zqa (l:D13a):Option D13h:=Zqa.S (Zqa.l0 (Zqa.t1 fu) fu) l
def Zpn (l:D13a):Option D13g:=
 bif (ltI 65536 (lenL l)) then
 some (eB,1)
 else
 bif (eqI (lenL l) 0) then
 some (eB,0)
 else
 bif (eqI (lenL l) 1) then
 bif (inB 0 (lenL l)) then
 ((Ztb (nth l 0 0))).bind fun x1=>
 some (x1,0)
 else none
 else
 ((Zqa l)).bind fun x2=>
 ((Zxb x2.1)).bind fun x3=>
 ((Zva x2.1 x3)).bind fun x4=>
 bif (inB 0 (lenL l)) then
 ((Ztb (nth l 0 0))).bind fun x5=>
 ((Ztb x2.2)).bind fun x6=>
 bif (roomS x5 x6) then
 bif (roomS (addS x5 x6) (ofBytes [(IntKind.wrap .u8 x3)])) then
 bif (roomS (addS (addS x5 x6) (ofBytes [(IntKind.wrap .u8 x3)])) x4.1) then
 some ((addS (addS (addS x5 x6) (ofBytes [(IntKind.wrap .u8 x3)])) x4.1),x4.2)
 else none
 else none
 else none
 else none
def cmp_Less_int (x y:Int):Bool:=
 bif (cmp_isNaN_int x) then
 bif (!(cmp_isNaN_int y)) then
 true
 else
 (ltI x y)
 else
 (ltI x y)
def cmp_Less_int.o (x y:Int):Option Bool:=
 bif (cmp_isNaN_int x) then
 bif (!(cmp_isNaN_int y)) then
 some true
 else
 some (ltI x y)
 else
 some (ltI x y)
def Zjn (x:Int):Bool:=
 (neI x x)
def Zx.S1 (x7:D13a) (x8 x9 x10:Int):Option (Int×Bool):=
 bif (ltI x10 x9) then
 bif (inB x10 (lenL x7)) then
 bif (eqI (nth x7 x10 0) x8) then
 some (x10,true)
 else
 bif (inB x10 (lenL x7)) then
 bif (Zjn (nth x7 x10 0)) then
 some (x10,(Zjn x8))
 else
 some (x10,false)
 else none
 else none
 else
 some (x10,false)
def Zx.t1:Nat→D13a→Int→Int→Int→Option (Int×Bool)
 | 0=>fun _ _ _ _=>none
 | _+1=>Zx.S1
def Zx.S0 (o1_0:D13a→Int→Int→Int→Option (Int×Bool)) (self:D13a→Int→Int→Int→Int→Option (Int×Bool)) (x1:D13a) (x2 x3:Int) (x4 x5:Int):Option (Int×Bool):=
 bif (ltI x4 x5) then
 bif (inB (IntKind.wrap .i64 (shrI .u64 (IntKind.wrap .u64 (addI .i64 x4 x5)) 1)) (lenL x1)) then
 bif (cmp_Less_int (nth x1 (IntKind.wrap .i64 (shrI .u64 (IntKind.wrap .u64 (addI .i64 x4 x5)) 1)) 0) x2) then
 self x1 x2 x3 (addI .i64 (IntKind.wrap .i64 (shrI .u64 (IntKind.wrap .u64 (addI .i64 x4 x5)) 1)) 1) x5
 else
 self x1 x2 x3 x4 (IntKind.wrap .i64 (shrI .u64 (IntKind.wrap .u64 (addI .i64 x4 x5)) 1))
 else none
 else
 o1_0 x1 x2 x3 x4
def Zx.l0 (o1_0:D13a→Int→Int→Int→Option (Int×Bool)):Nat→D13a→Int→Int→Int→Int→Option (Int×Bool)
 | 0=>fun _ _ _ _ _=>none
 | n+1=>Zx.S0 o1_0 (Zx.l0 o1_0 n)
def Zx.S (j0:D13a→Int→Int→Int→Int→Option (Int×Bool)) (x:D13a) (target:Int):Option (Int×Bool):=
 j0 x target (lenL x) 0 (lenL x)
def Zx (x:D13a) (target:Int):Option (Int×Bool):=Zx.S (Zx.l0 (Zx.t1 fu) fu) x target
def Zcd.S0 (self:Nat→Nat→D13a→D13a→Int→Int→D13a→Option D13n) (x4 x5:Nat) (x6 x7:D13a) (x8 x9:Int) (x10:D13a):Option D13n:=
 bif (ltI x9 x8) then
 bif (inB x9 (lenL x7)) then
 ((Zx (List.take x5 (List.drop x4 x10)) (nth x7 x9 0))).bind fun x11=>
 bif (roomB ((List.length x6)+1) 8) then
 self x4 x5 (x6++[x11.1]) x7 x8 (addI .i64 x9 1) x10
 else none
 else none
 else
 some ((List.take x5 (List.drop x4 x10)),x6)
def Zcd.l0:Nat→Nat→Nat→D13a→D13a→Int→Int→D13a→Option D13n
 | 0=>fun _ _ _ _ _ _ _=>none
 | n+1=>Zcd.S0 (Zcd.l0 n)
def Zcd.S (j0:Nat→Nat→D13a→D13a→Int→Int→D13a→Option D13n) (l:D13a):Option D13n:=
 ((Zli 8 l)).bind fun x1=>
 ((Zrp ((decide (0<(List.length x1))) && true) (sortI x1) fun _x=>((decide ((List.length _x)=(List.length x1))) && true))).bind fun x2=>
 ((Zrp ((decide (0<(List.length x2))) && true) (compI x2) fun _x=>((decide ((List.length _x.2)=(List.length x2))) && true))).bind fun x3=>
 j0 0 (Int.toNat x3.1) [] l (lenL l) 0 x3.2
def Zcd (l:D13a):Option D13n:=Zcd.S (Zcd.l0 fu) l
def Zxe.S0 (self:D13a→Int→Int→D13j→Option D13g) (x1:D13a) (x2 x3:Int) (x4:D13j):Option D13g:=
 bif (ltI x3 x2) then
 bif (inB x3 (lenL x1)) then
 ((Ztb (nth x1 x3 0))).bind fun x5=>
 ((Zmd x4 x5)).bind fun x6=>
 self x1 x2 (addI .i64 x3 1) x6.2.2
 else none
 else
 ((Zal x4)).bind fun x7=>
 some (x7.1,0)
def Zxe.l0:Nat→D13a→Int→Int→D13j→Option D13g
 | 0=>fun _ _ _ _=>none
 | n+1=>Zxe.S0 (Zxe.l0 n)
def Zxe.S (j0:D13a→Int→Int→D13j→Option D13g) (d:D13a):Option D13g:=
 j0 d (lenL d) 0 (true,[])
def Zxe (d:D13a):Option D13g:=Zxe.S (Zxe.l0 fu) d
def Zpi (l:D13a):Option D13g:=
 bif (ltI 65536 (lenL l)) then
 some (eB,1)
 else
 bif (eqI (lenL l) 0) then
 some (eB,0)
 else
 ((Zcd l)).bind fun x1=>
 ((Zxe x1.1)).bind fun x2=>
 bif (neI x2.2 0) then
 some (eB,x2.2)
 else
 ((Zxb x1.2)).bind fun x3=>
 ((Zva x1.2 x3)).bind fun x4=>
 ((Ztb (lenL x1.1))).bind fun x5=>
 bif (roomS x5 x2.1) then
 bif (roomS (addS x5 x2.1) x4.1) then
 some ((addS (addS x5 x2.1) x4.1),x4.2)
 else none
 else none
def Zfo (l:D13a):Option D13g:=
 ((Zpi l)).bind fun x1=>
 some x1
def Zri (l:D13a) (code:Int):Option D13g:=
 bif (eqI code 1) then
 ((Zsa l)).bind fun x1=>
 some (x1,0)
 else
 bif (eqI code 2) then
 ((Zqe l)).bind fun x2=>
 ((Zfe x2)).bind fun x3=>
 some x3
 else
 bif (eqI code 3) then
 ((Zpn l)).bind fun x4=>
 some x4
 else
 bif (eqI code 4) then
 ((Zfo l)).bind fun x5=>
 some x5
 else
 bif (eqI code 5) then
 ((Zxb l)).bind fun x6=>
 ((Zva l x6)).bind fun x7=>
 bif (roomS (ofBytes [(IntKind.wrap .u8 x6)]) x7.1) then
 some ((addS (ofBytes [(IntKind.wrap .u8 x6)]) x7.1),x7.2)
 else none
 else
 some (eB,1)
def Zzf (b:D13j) (c:Int):Option (Bool×D13j):=
 bif (roomB ((List.length (Zjm b).2)+1) 1) then
 some (true,(Zjm b).1,((Zjm b).2++[c]))
 else none
def Zgc.S0 (self:D13e→Int→Int→D13j→Option D13g) (x1:D13e) (x2 x3:Int) (x4:D13j):Option D13g:=
 bif (ltI x3 x2) then
 bif (inB x3 (lenL x1)) then
 bif (ltI 32 (lenS (nth x1 x3 eB))) then
 some (eB,1)
 else
 ((Zzf x4 (IntKind.wrap .u8 (lenS (nth x1 x3 eB))))).bind fun x5=>
 ((Zmd x5.2 (nth x1 x3 eB))).bind fun x6=>
 self x1 x2 (addI .i64 x3 1) x6.2.2
 else none
 else
 ((Zal x4)).bind fun x7=>
 some (x7.1,0)
def Zgc.l0:Nat→D13e→Int→Int→D13j→Option D13g
 | 0=>fun _ _ _ _=>none
 | n+1=>Zgc.S0 (Zgc.l0 n)
def Zgc.S (j0:D13e→Int→Int→D13j→Option D13g) (l:D13e):Option D13g:=
 j0 l (lenL l) 0 (true,[])
def Zgc (l:D13e):Option D13g:=Zgc.S (Zgc.l0 fu) l
def cmp_isNaN_string (x:ByteArray):Bool:=
 (!(eqS x x))
def cmp_Less_string (x y:ByteArray):Bool:=
 bif (cmp_isNaN_string x) then
 bif (!(cmp_isNaN_string y)) then
 true
 else
 (ltS x y)
 else
 (ltS x y)
def cmp_Less_string.o (x y:ByteArray):Option Bool:=
 bif (cmp_isNaN_string x) then
 bif (!(cmp_isNaN_string y)) then
 some true
 else
 some (ltS x y)
 else
 some (ltS x y)
def Zqk (x:ByteArray):Bool:=
 (!(eqS x x))
def Zp.S1 (x7:D13e) (x8:ByteArray) (x9 x10:Int):Option (Int×Bool):=
 bif (ltI x10 x9) then
 bif (inB x10 (lenL x7)) then
 bif (eqS (nth x7 x10 eB) x8) then
 some (x10,true)
 else
 bif (inB x10 (lenL x7)) then
 bif (Zqk (nth x7 x10 eB)) then
 some (x10,(Zqk x8))
 else
 some (x10,false)
 else none
 else none
 else
 some (x10,false)
def Zp.t1:Nat→D13e→ByteArray→Int→Int→Option (Int×Bool)
 | 0=>fun _ _ _ _=>none
 | _+1=>Zp.S1
def Zp.S0 (o1_0:D13e→ByteArray→Int→Int→Option (Int×Bool)) (self:D13e→ByteArray→Int→Int→Int→Option (Int×Bool)) (x1:D13e) (x2:ByteArray) (x3 x4 x5:Int):Option (Int×Bool):=
 bif (ltI x4 x5) then
 bif (inB (IntKind.wrap .i64 (shrI .u64 (IntKind.wrap .u64 (addI .i64 x4 x5)) 1)) (lenL x1)) then
 bif (cmp_Less_string (nth x1 (IntKind.wrap .i64 (shrI .u64 (IntKind.wrap .u64 (addI .i64 x4 x5)) 1)) eB) x2) then
 self x1 x2 x3 (addI .i64 (IntKind.wrap .i64 (shrI .u64 (IntKind.wrap .u64 (addI .i64 x4 x5)) 1)) 1) x5
 else
 self x1 x2 x3 x4 (IntKind.wrap .i64 (shrI .u64 (IntKind.wrap .u64 (addI .i64 x4 x5)) 1))
 else none
 else
 o1_0 x1 x2 x3 x4
def Zp.l0 (o1_0:D13e→ByteArray→Int→Int→Option (Int×Bool)):Nat→D13e→ByteArray→Int→Int→Int→Option (Int×Bool)
 | 0=>fun _ _ _ _ _=>none
 | n+1=>Zp.S0 o1_0 (Zp.l0 o1_0 n)
def Zp.S (j0:D13e→ByteArray→Int→Int→Int→Option (Int×Bool)) (x:D13e) (target:ByteArray):Option (Int×Bool):=
 j0 x target (lenL x) 0 (lenL x)
def Zp (x:D13e) (target:ByteArray):Option (Int×Bool):=Zp.S (Zp.l0 (Zp.t1 fu) fu) x target
def Zac.S0 (self:Nat→Nat→D13a→D13e→Int→Int→D13e→Option D13r) (x4 x5:Nat) (x6:D13a) (x7:D13e) (x8 x9:Int) (x10:D13e):Option D13r:=
 bif (ltI x9 x8) then
 bif (inB x9 (lenL x7)) then
 ((Zp (List.take x5 (List.drop x4 x10)) (nth x7 x9 eB))).bind fun x11=>
 bif (roomB ((List.length x6)+1) 8) then
 self x4 x5 (x6++[x11.1]) x7 x8 (addI .i64 x9 1) x10
 else none
 else none
 else
 some ((List.take x5 (List.drop x4 x10)),x6)
def Zac.l0:Nat→Nat→Nat→D13a→D13e→Int→Int→D13e→Option D13r
 | 0=>fun _ _ _ _ _ _ _=>none
 | n+1=>Zac.S0 (Zac.l0 n)
def Zac.S (j0:Nat→Nat→D13a→D13e→Int→Int→D13e→Option D13r) (l:D13e):Option D13r:=
 ((Zli 16 l)).bind fun x1=>
 ((Zrp ((decide (0<(List.length x1))) && true) (sortS x1) fun _x=>((decide ((List.length _x)=(List.length x1))) && true))).bind fun x2=>
 ((Zrp ((decide (0<(List.length x2))) && true) (compS x2) fun _x=>((decide ((List.length _x.2)=(List.length x2))) && true))).bind fun x3=>
 j0 0 (Int.toNat x3.1) [] l (lenL l) 0 x3.2
def Zac (l:D13e):Option D13r:=Zac.S (Zac.l0 fu) l
def Zkg (l:D13e):Option D13g:=
 bif (ltI 65536 (lenL l)) then
 some (eB,1)
 else
 bif (eqI (lenL l) 0) then
 some (eB,0)
 else
 ((Zac l)).bind fun x1=>
 ((Zgc x1.1)).bind fun x2=>
 bif (neI x2.2 0) then
 some (eB,x2.2)
 else
 ((Zxb x1.2)).bind fun x3=>
 ((Zva x1.2 x3)).bind fun x4=>
 ((Ztb (lenL x1.1))).bind fun x5=>
 bif (roomS x5 x2.1) then
 bif (roomS (addS x5 x2.1) x4.1) then
 some ((addS (addS x5 x2.1) x4.1),x4.2)
 else none
 else none
def Zan (l:D13e):Option D13g:=
 ((Zkg l)).bind fun x1=>
 some x1
def Zok (l:D13e) (code:Int):Option D13g:=
 bif (eqI code 1) then
 ((Zgc l)).bind fun x1=>
 some x1
 else
 bif (eqI code 4) then
 ((Zan l)).bind fun x2=>
 some x2
 else
 bif (eqI code 2) then
 bif (eqI (lenL l) 0) then
 some (eB,0)
 else
 ((Zac l)).bind fun x3=>
 ((Zgc x3.1)).bind fun x4=>
 bif (neI x4.2 0) then
 some (eB,x4.2)
 else
 ((Zqe x3.2)).bind fun x5=>
 ((Zfe x5)).bind fun x6=>
 ((Ztb (lenL x3.1))).bind fun x7=>
 bif (roomS x7 x4.1) then
 bif (roomS (addS x7 x4.1) x6.1) then
 some ((addS (addS x7 x4.1) x6.1),x6.2)
 else none
 else none
 else
 some (eB,1)
def Zza.S1 (x8 x9:Int) (x10:D13a) (x11:D13e):Option D13g:=
 bif (eqI x8 1) then
 ((Zri x10 x9)).bind fun x12=>
 some x12
 else
 ((Zok x11 x9)).bind fun x13=>
 some x13
def Zza.t1:Nat→Int→Int→D13a→D13e→Option D13g
 | 0=>fun _ _ _ _=>none
 | _+1=>Zza.S1
def Zza.S0 (o1_0:Int→Int→D13a→D13e→Option D13g) (self:Int→Int→D13a→D13e→D13u→Int→Int→Option D13g) (x1 x2:Int) (x3:D13a) (x4:D13e) (x5:D13u) (x6 x7:Int):Option D13g:=
 bif (ltI x7 x6) then
 bif (inB x7 (lenL x5)) then
 bif (roomB ((List.length x3)+1) 8) then
 bif (roomB ((List.length x4)+1) 16) then
 self x1 x2 (x3++[(nth x5 x7 (0,0,eB)).2.1]) (x4++[(nth x5 x7 (0,0,eB)).2.2]) x5 x6 (addI .i64 x7 1)
 else none
 else none
 else none
 else
 o1_0 x1 x2 x3 x4
def Zza.l0 (o1_0:Int→Int→D13a→D13e→Option D13g):Nat→Int→Int→D13a→D13e→D13u→Int→Int→Option D13g
 | 0=>fun _ _ _ _ _ _ _=>none
 | n+1=>Zza.S0 o1_0 (Zza.l0 o1_0 n)
def Zza.S (j0:Int→Int→D13a→D13e→D13u→Int→Int→Option D13g) (l:D13u) (kind code:Int):Option D13g:=
 j0 kind code [] [] l (lenL l) 0
def Zza (l:D13u) (kind code:Int):Option D13g:=Zza.S (Zza.l0 (Zza.t1 fu) fu) l kind code
def Zjb.S1 (o0_1:ByteArray→Int→Int→Int→Option Int) (self:ByteArray→Int→Int→Int→Int→Option Int) (x5:ByteArray) (x6 x7:Int) (x8 x9:Int):Option Int:=
 bif (ltI x9 8) then
 self x5 (xorI .u32 (shrI .u32 x6 1) (andI .u32 2197175160 (subI .u32 0 (andI .u32 x6 1)))) x7 x8 (addI .i64 x9 1)
 else
 o0_1 x5 x6 x7 (addI .i64 x8 1)
def Zjb.l1 (o0_1:ByteArray→Int→Int→Int→Option Int):Nat→ByteArray→Int→Int→Int→Int→Option Int
 | 0=>fun _ _ _ _ _=>none
 | n+1=>Zjb.S1 o0_1 (Zjb.l1 o0_1 n)
def Zjb.S0 (j1:ByteArray→Int→Int→Int→Int→Option Int) (x1:ByteArray) (x2 x3 x4:Int):Option Int:=
 bif (ltI x4 x3) then
 bif (inB x4 (lenS x1)) then
 j1 x1 (xorI .u32 x2 (IntKind.wrap .u32 (byteAt x1 x4))) x3 x4 0
 else none
 else
 some (IntKind.wrap .i64 (xorI .u32 4294967295 x2))
def Zjb.l0:Nat→ByteArray→Int→Int→Int→Option Int
 | 0=>fun _ _ _ _=>none
 | n+1=>Zjb.S0 (Zjb.l1 (Zjb.l0 n) n)
def Zjb.S (j0:ByteArray→Int→Int→Int→Option Int) (sum:Int) (s:ByteArray):Option Int:=
 j0 s (xorI .u32 4294967295 (IntKind.wrap .u32 sum)) (lenS s) 0
def Zjb (sum:Int) (s:ByteArray):Option Int:=Zjb.S (Zjb.l0 fu) sum s
def Zus (s:ByteArray):Option Int:=
 ((Zjb 0 s)).bind fun x1=>
 some x1
def Zyc.S0 (self:Int→D13a→Int→Option ByteArray) (x2:Int) (x3:D13a) (x4:Int):Option ByteArray:=
 bif (ltI x4 4) then
 bif (leI 0 (mulI .i64 8 x4)) then
 bif (roomB ((List.length x3)+1) 1) then
 self x2 (x3++[(IntKind.wrap .u8 (shrI .u32 x2 (mulI .i64 8 x4)))]) (addI .i64 x4 1)
 else none
 else none
 else
 some (ofBytes x3)
def Zyc.l0:Nat→Int→D13a→Int→Option ByteArray
 | 0=>fun _ _ _=>none
 | n+1=>Zyc.S0 (Zyc.l0 n)
def Zyc.S (j0:Int→D13a→Int→Option ByteArray) (s:ByteArray):Option ByteArray:=
 ((Zus s)).bind fun x1=>
 bif ((leI 0 (addI .i64 (lenS s) 4)) && (roomB (Int.toNat (addI .i64 (lenS s) 4)) 1)) then
 bif (roomB (0+(ByteArray.size s)) 1) then
 j0 (IntKind.wrap .u32 x1) (Zk s) 0
 else none
 else none
def Zyc (s:ByteArray):Option ByteArray:=Zyc.S (Zyc.l0 fu) s
def Zhg (l:D13u) (kind code:Int):Option D13g:=
 ((Zon l kind)).bind fun x1=>
 bif (!x1) then
 some (eB,1)
 else
 ((Zib l)).bind fun x2=>
 ((Zza x2.2 kind code)).bind fun x3=>
 bif (neI x3.2 0) then
 some (eB,1)
 else
 bif (roomS (ofBytes [(IntKind.wrap .u8 kind),(IntKind.wrap .u8 code),(IntKind.wrap .u8 (lenL l)),(IntKind.wrap .u8 (lenS x2.1))]) x2.1) then
 bif (roomS (addS (ofBytes [(IntKind.wrap .u8 kind),(IntKind.wrap .u8 code),(IntKind.wrap .u8 (lenL l)),(IntKind.wrap .u8 (lenS x2.1))]) x2.1) x3.1) then
 ((Zyc (addS (addS (ofBytes [(IntKind.wrap .u8 kind),(IntKind.wrap .u8 code),(IntKind.wrap .u8 (lenL l)),(IntKind.wrap .u8 (lenS x2.1))]) x2.1) x3.1))).bind fun x4=>
 some (x4,0)
 else none
 else none
def Ztl (s:ByteArray):Option D13g:=
 bif (ltI (subI .i64 (lenS s) 4) 0) then
 some (eB,5)
 else
 bif (inC 0 (subI .i64 (lenS s) 4) (lenS s)) then
 ((Zyc (cutS s 0 (subI .i64 (lenS s) 4)))).bind fun x1=>
 bif (!(eqS x1 s)) then
 some (eB,5)
 else
 bif (inC 0 (subI .i64 (lenS s) 4) (lenS s)) then
 some ((cutS s 0 (subI .i64 (lenS s) 4)),0)
 else none
 else none
def Zre.S0 (self:ByteArray→Int→Int→Int→Int→Option Int) (x1:ByteArray) (x2 x3:Int) (x4 x5:Int):Option Int:=
 bif (ltI x5 x2) then
 bif (inB (shrI .i64 x4 3) (lenS x1)) then
 bif (leI 0 (andI .i64 x4 7)) then
 ((Zyp (minI (subI .i64 8 (andI .i64 x4 7)) (subI .i64 x2 x5)))).bind fun x6=>
 bif (leI 0 x5) then
 self x1 x2 (orI .u64 x3 (shlI .u64 (andI .u64 (shrI .u64 (IntKind.wrap .u64 (byteAt x1 (shrI .i64 x4 3))) (andI .i64 x4 7)) (IntKind.wrap .u64 x6)) x5)) (addI .i64 x4 (minI (subI .i64 8 (andI .i64 x4 7)) (subI .i64 x2 x5))) (addI .i64 x5 (minI (subI .i64 8 (andI .i64 x4 7)) (subI .i64 x2 x5)))
 else none
 else none
 else none
 else
 some (IntKind.wrap .i64 x3)
def Zre.l0:Nat→ByteArray→Int→Int→Int→Int→Option Int
 | 0=>fun _ _ _ _ _=>none
 | n+1=>Zre.S0 (Zre.l0 n)
def Zre.S (j0:ByteArray→Int→Int→Int→Int→Option Int) (s:ByteArray) (xk width:Int):Option Int:=
 j0 s width 0 (mulI .i64 xk width) 0
def Zre (s:ByteArray) (xk width:Int):Option Int:=Zre.S (Zre.l0 fu) s xk width
def Zab.S1 (self:ByteArray→Int→Int→Int→D13a→Option D13h) (x5:ByteArray) (x6 x7 x8:Int) (x9:D13a):Option D13h:=
 bif (ltI x8 x7) then
 ((Zre x5 x8 x6)).bind fun x10=>
 bif (inB x8 (lenL x9)) then
 self x5 x6 x7 (addI .i64 x8 1) (List.set x9 (Int.toNat x8) x10)
 else none
 else
 some (x9,0)
def Zab.l1:Nat→ByteArray→Int→Int→Int→D13a→Option D13h
 | 0=>fun _ _ _ _ _=>none
 | n+1=>Zab.S1 (Zab.l1 n)
def Zab.S0 (j1:ByteArray→Int→Int→Int→D13a→Option D13h) (x2:ByteArray) (x3 x4:Int):Option D13h:=
 bif ((leI 0 x3) && (roomB (Int.toNat x3) 8)) then
 j1 x2 x4 x3 0 (List.replicate (Int.toNat x3) (0:Int))
 else none
def Zab.t0:Nat→ByteArray→Int→Int→Option D13h
 | 0=>fun _ _ _=>none
 | n+1=>Zab.S0 (Zab.l1 n)
def Zab.S (j0:ByteArray→Int→Int→Option D13h) (s:ByteArray) (xn width:Int):Option D13h:=
 bif (ltI width 0) then
 some ([],1)
 else
 bif (ltI 64 width) then
 some ([],1)
 else
 bif (ltI xn 0) then
 some ([],1)
 else
 bif (ltI 65536 xn) then
 some ([],1)
 else
 bif (neI (lenS s) (Zlh xn width)) then
 some ([],20)
 else
 bif (ltI 0 (andI .i64 (mulI .i64 xn width) 7)) then
 bif (inB (subI .i64 (lenS s) 1) (lenS s)) then
 bif (leI 0 (andI .i64 (mulI .i64 xn width) 7)) then
 bif (ltI 0 (shrI .u8 (byteAt s (subI .i64 (lenS s) 1)) (andI .i64 (mulI .i64 xn width) 7))) then
 some ([],20)
 else
 j0 s xn width
 else none
 else none
 else
 j0 s xn width
def Zab (s:ByteArray) (xn width:Int):Option D13h:=Zab.S (Zab.t0 fu) s xn width
def Zkb.S0 (self:D13a→Int→Int→Int→Option Int) (x1:D13a) (x2 x3 x4:Int):Option Int:=
 bif (ltI x4 x3) then
 bif (inB x4 (lenL x1)) then
 bif (eqI x2 (nth x1 x4 0)) then
 some x4
 else
 self x1 x2 x3 (addI .i64 x4 1)
 else none
 else
 some (-1)
def Zkb.l0:Nat→D13a→Int→Int→Int→Option Int
 | 0=>fun _ _ _ _=>none
 | n+1=>Zkb.S0 (Zkb.l0 n)
def Zkb.S (j0:D13a→Int→Int→Int→Option Int) (s:D13a) (v:Int):Option Int:=
 j0 s v (lenL s) 0
def Zkb (s:D13a) (v:Int):Option Int:=Zkb.S (Zkb.l0 fu) s v
def Zzg (s:D13a) (v:Int):Option Bool:=
 ((Zkb s v)).bind fun x1=>
 some (leI 0 x1)
def Zpg (s:ByteArray) (xn:Int):Option D13h:=
 bif (ltI xn 0) then
 some ([],1)
 else
 bif (ltI 65536 xn) then
 some ([],1)
 else
 bif (eqS s eB) then
 bif ((leI 0 xn) && (roomB (Int.toNat xn) 8)) then
 some ((List.replicate (Int.toNat xn) (0:Int)),0)
 else none
 else
 ((Zab s xn 1)).bind fun x1=>
 bif (neI x1.2 0) then
 some ([],20)
 else
 ((Zzg x1.1 1)).bind fun x2=>
 bif (!x2) then
 some ([],20)
 else
 some (x1.1,0)
def Zhc.S0 (self:Int→Int→D13a→Int→Int→Option D13b) (x2 x3:Int) (x4:D13a) (x5 x6:Int):Option D13b:=
 bif (ltI x6 x5) then
 bif (inB x6 (lenL x4)) then
 self x2 (addI .i64 x3 (nth x4 x6 0)) x4 x5 (addI .i64 x6 1)
 else none
 else
 some (x3,x2)
def Zhc.l0:Nat→Int→Int→D13a→Int→Int→Option D13b
 | 0=>fun _ _ _ _ _=>none
 | n+1=>Zhc.S0 (Zhc.l0 n)
def Zhc.S (j0:Int→Int→D13a→Int→Int→Option D13b) (s:ByteArray) (xn:Int):Option D13b:=
 ((Zpg s xn)).bind fun x1=>
 j0 x1.2 0 x1.1 (lenL x1.1) 0
def Zhc (s:ByteArray) (xn:Int):Option D13b:=Zhc.S (Zhc.l0 fu) s xn
def Zfa.S1 (o0_1:ByteArray→Int→Int→D13a→Option D13h) (self:ByteArray→Int→Int→Int→Int→Int→D13a→Option D13h) (x5:ByteArray) (x6 x7:Int) (x8 x9 x10:Int) (x11:D13a):Option D13h:=
 bif (ltI x10 8) then
 bif (inB (addI .i64 (mulI .i64 8 x6) x10) (lenS x5)) then
 bif (leI 0 (mulI .i64 8 x10)) then
 self x5 x6 (orI .u64 x7 (shlI .u64 (IntKind.wrap .u64 (byteAt x5 (addI .i64 (mulI .i64 8 x6) x10))) (mulI .i64 8 x10))) x8 x9 (addI .i64 x10 1) x11
 else none
 else none
 else
 bif (inB x6 (lenL x11)) then
 o0_1 x5 x8 (addI .i64 x9 1) (List.set x11 (Int.toNat x6) (IntKind.wrap .i64 x7))
 else none
def Zfa.l1 (o0_1:ByteArray→Int→Int→D13a→Option D13h):Nat→ByteArray→Int→Int→Int→Int→Int→D13a→Option D13h
 | 0=>fun _ _ _ _ _ _ _=>none
 | n+1=>Zfa.S1 o0_1 (Zfa.l1 o0_1 n)
def Zfa.S0 (j1:ByteArray→Int→Int→Int→Int→Int→D13a→Option D13h) (x1:ByteArray) (x2 x3:Int) (x4:D13a):Option D13h:=
 bif (ltI x3 x2) then
 j1 x1 x3 0 x2 x3 0 x4
 else
 some (x4,0)
def Zfa.l0:Nat→ByteArray→Int→Int→D13a→Option D13h
 | 0=>fun _ _ _ _=>none
 | n+1=>Zfa.S0 (Zfa.l1 (Zfa.l0 n) n)
def Zfa.S (j0:ByteArray→Int→Int→D13a→Option D13h) (s:ByteArray) (xn:Int):Option D13h:=
 bif (ltI xn 0) then
 some ([],20)
 else
 bif (neI (remI (lenS s) 8) 0) then
 some ([],20)
 else
 bif (neI xn (quoI .i64 (lenS s) 8)) then
 some ([],20)
 else
 bif ((leI 0 xn) && (roomB (Int.toNat xn) 8)) then
 j0 s xn 0 (List.replicate (Int.toNat xn) (0:Int))
 else none
def Zfa (s:ByteArray) (xn:Int):Option D13h:=Zfa.S (Zfa.l0 fu) s xn
def Zja.S1 (x7:Int) (x8:D13o) (x9:Int):Option D13v:=
 ((Zkc x8)).bind fun x10=>
 bif (!x10.2) then
 some ([],20)
 else
 bif (neI x9 x7) then
 some ([],20)
 else
 some (x8,0)
def Zja.t1:Nat→Int→D13o→Int→Option D13v
 | 0=>fun _ _ _=>none
 | _+1=>Zja.S1
def Zja.S0 (o1_0:Int→D13o→Int→Option D13v) (self:ByteArray→Int→D13o→Int→Option D13v) (x1:ByteArray) (x2:Int) (x3:D13o) (x4:Int):Option D13v:=
 bif (!(eqS x1 eB)) then
 ((Zad x1)).bind fun x5=>
 bif (neI x5.2.2 0) then
 some ([],20)
 else
 bif (inC x5.2.1 (lenS x1) (lenS x1)) then
 ((Zad (cutS x1 x5.2.1 (lenS x1)))).bind fun x6=>
 bif (neI x6.2.2 0) then
 some ([],20)
 else
 bif (ltI x6.1 1) then
 some ([],20)
 else
 bif (ltI (subI .i64 x2 x4) x6.1) then
 some ([],20)
 else
 bif (roomB ((List.length x3)+1) 24) then
 bif (inC (addI .i64 x5.2.1 x6.2.1) (lenS x1) (lenS x1)) then
 self (cutS x1 (addI .i64 x5.2.1 x6.2.1) (lenS x1)) x2 (x3++[(x5.1,x4,x6.1)]) (addI .i64 x4 x6.1)
 else none
 else none
 else none
 else
 o1_0 x2 x3 x4
def Zja.l0 (o1_0:Int→D13o→Int→Option D13v):Nat→ByteArray→Int→D13o→Int→Option D13v
 | 0=>fun _ _ _ _=>none
 | n+1=>Zja.S0 o1_0 (Zja.l0 o1_0 n)
def Zja.S (j0:ByteArray→Int→D13o→Int→Option D13v) (s:ByteArray) (xn:Int):Option D13v:=
 bif (ltI xn 0) then
 some ([],1)
 else
 bif (ltI 65536 xn) then
 some ([],1)
 else
 j0 s xn [] 0
def Zja (s:ByteArray) (xn:Int):Option D13v:=Zja.S (Zja.l0 (Zja.t1 fu) fu) s xn
def Zgo (x y:Int):Int×Int:=
 ((addI .u64 (addI .u64 (mulI .u64 (shrI .u64 x 32) (shrI .u64 y 32)) (shrI .u64 (addI .u64 (mulI .u64 (shrI .u64 x 32) (andI .u64 y 4294967295)) (shrI .u64 (mulI .u64 (andI .u64 x 4294967295) (andI .u64 y 4294967295)) 32)) 32)) (shrI .u64 (addI .u64 (andI .u64 (addI .u64 (mulI .u64 (shrI .u64 x 32) (andI .u64 y 4294967295)) (shrI .u64 (mulI .u64 (andI .u64 x 4294967295) (andI .u64 y 4294967295)) 32)) 4294967295) (mulI .u64 (andI .u64 x 4294967295) (shrI .u64 y 32))) 32)),(mulI .u64 x y))
def Zbn (x y:Int):Int×Int:=
 (Zgo x y)
def Zw.S2 (self:Int→D13a→Option D13d) (x6:Int) (x7:D13a):Option D13d:=
 bif (ltI x6 (lenL x7)) then
 bif (inC x6 (lenL x7) (lenL x7)) then
 bif (inC 0 x6 (lenL x7)) then
 self (addI .i64 x6 (((List.length (List.take ((Int.toNat (lenL x7))-(Int.toNat x6)) (List.take ((Int.toNat x6)-0) (List.drop 0 x7)))):Nat):Int)) (splA x7 (Int.toNat x6) (List.take ((Int.toNat (lenL x7))-(Int.toNat x6)) (List.take ((Int.toNat x6)-0) (List.drop 0 x7))))
 else none
 else none
 else
 some x7
def Zw.l2:Nat→Int→D13a→Option D13d
 | 0=>fun _ _=>none
 | n+1=>Zw.S2 (Zw.l2 n)
def Zw.S1 (j2:Int→D13a→Option D13d) (x4:D13a) (x5:Int):Option D13d:=
 bif ((leI 0 (IntKind.wrap .i64 x5)) && (roomB (Int.toNat (IntKind.wrap .i64 x5)) 8)) then
 j2 (((List.length (List.take (List.length (List.replicate (Int.toNat (IntKind.wrap .i64 x5)) (0:Int))) x4)):Nat):Int) (splA (List.replicate (Int.toNat (IntKind.wrap .i64 x5)) (0:Int)) 0 (List.take (List.length (List.replicate (Int.toNat (IntKind.wrap .i64 x5)) (0:Int))) x4))
 else none
def Zw.t1:Nat→D13a→Int→Option D13d
 | 0=>fun _ _=>none
 | n+1=>Zw.S1 (Zw.l2 n)
def Zw.S0 (j1:D13a→Int→Option D13d) (x1:D13a) (x2:Int):Option D13d:=
 let x3:=(Zbn (IntKind.wrap .u64 (lenL x1)) (IntKind.wrap .u64 x2))
 bif (ltI 0 x3.1) then
 none
 else
 bif (ltI 9223372036854775807 x3.2) then
 none
 else
 j1 x1 x3.2
def Zw.t0:Nat→D13a→Int→Option D13d
 | 0=>fun _ _=>none
 | n+1=>Zw.S0 (Zw.t1 n)
def Zw.S (j0:D13a→Int→Option D13d) (x:D13a) (count:Int):Option D13d:=
 bif (ltI count 0) then
 none
 else
 j0 x count
def Zw (x:D13a) (count:Int):Option D13d:=Zw.S (Zw.t0 fu) x count
def Zwd.S0 (self:D13a→D13o→Int→Int→Option D13h) (x2:D13a) (x3:D13o) (x4 x5:Int):Option D13h:=
 bif (ltI x5 x4) then
 bif (inB x5 (lenL x3)) then
 ((Zw [(nth x3 x5 (0,0,0)).1] (nth x3 x5 (0,0,0)).2.2)).bind fun x6=>
 bif (roomB ((List.length x2)+(List.length x6)) 8) then
 self (x2++x6) x3 x4 (addI .i64 x5 1)
 else none
 else none
 else
 some (x2,0)
def Zwd.l0:Nat→D13a→D13o→Int→Int→Option D13h
 | 0=>fun _ _ _ _=>none
 | n+1=>Zwd.S0 (Zwd.l0 n)
def Zwd.S (j0:D13a→D13o→Int→Int→Option D13h) (l:D13o):Option D13h:=
 ((Zkc l)).bind fun x1=>
 bif (!x1.2) then
 some ([],1)
 else
 bif ((leI 0 x1.1) && (roomB (Int.toNat x1.1) 8)) then
 j0 [] l (lenL l) 0
 else none
def Zwd (l:D13o):Option D13h:=Zwd.S (Zwd.l0 fu) l
def Zed (t0:ByteArray) (t1:Bool):Option (Int×ByteArray×Bool):=
 ((Zad t0)).bind fun x1=>
 bif t1 then
 bif (inC x1.2.1 (lenS t0) (lenS t0)) then
 some (x1.1,(cutS t0 x1.2.1 (lenS t0)),true)
 else none
 else
 bif (inC x1.2.1 (lenS t0) (lenS t0)) then
 some (x1.1,(cutS t0 x1.2.1 (lenS t0)),(neI x1.2.2 0))
 else none
def Zfj (xfrom xby:Int):Int:=
 (IntKind.wrap .i64 (addI .u64 (IntKind.wrap .u64 xfrom) (IntKind.wrap .u64 xby)))
def Zo.S2 (x18:ByteArray) (x19:D13a) (x20:Bool):Option D13h:=
 ((Zpn x19)).bind fun x21=>
 bif x20 then
 some ([],20)
 else
 bif (neI x21.2 0) then
 some ([],20)
 else
 bif (!(eqS x21.1 x18)) then
 some ([],20)
 else
 some (x19,0)
def Zo.t2:Nat→ByteArray→D13a→Bool→Option D13h
 | 0=>fun _ _ _=>none
 | _+1=>Zo.S2
def Zo.S1 (o2_1:ByteArray→D13a→Bool→Option D13h) (self:ByteArray→D13a→Int→D13a→Int→Int→Bool→Option D13h) (x9:ByteArray) (x10:D13a) (x11:Int) (x12:D13a) (x13 x14:Int) (x15:Bool):Option D13h:=
 bif (ltI x14 x13) then
 bif (inB x14 (lenL x12)) then
 bif (inB (subI .i64 (lenL x10) 1) (lenL x10)) then
 bif (roomB ((List.length x10)+1) 8) then
 self x9 (x10++[(Zfj (Zfj (nth x10 (subI .i64 (lenL x10) 1) 0) x11) (nth x12 x14 0))]) x11 x12 x13 (addI .i64 x14 1) x15
 else none
 else none
 else none
 else
 o2_1 x9 x10 x15
def Zo.l1 (o2_1:ByteArray→D13a→Bool→Option D13h):Nat→ByteArray→D13a→Int→D13a→Int→Int→Bool→Option D13h
 | 0=>fun _ _ _ _ _ _ _=>none
 | n+1=>Zo.S1 o2_1 (Zo.l1 o2_1 n)
def Zo.S0 (j1:ByteArray→D13a→Int→D13a→Int→Int→Bool→Option D13h) (j2:ByteArray→D13a→Bool→Option D13h) (x2:ByteArray) (x3:Int) (x4:D13a) (x5:ByteArray) (x6:Bool):Option D13h:=
 bif (ltI 1 x3) then
 ((Zed x5 x6)).bind fun x7=>
 bif x7.2.2 then
 some ([],20)
 else
 bif (eqS x7.2.1 eB) then
 some ([],20)
 else
 bif (inC 1 (lenS x7.2.1) (lenS x7.2.1)) then
 bif (inB 0 (lenS x7.2.1)) then
 ((Zab (cutS x7.2.1 1 (lenS x7.2.1)) (subI .i64 x3 1) (IntKind.wrap .i64 (byteAt x7.2.1 0)))).bind fun x8=>
 bif (neI x8.2 0) then
 some ([],20)
 else
 j1 x2 x4 x7.1 x8.1 (lenL x8.1) 0 x7.2.2
 else none
 else none
 else
 j2 x2 x4 x6
def Zo.t0:Nat→ByteArray→Int→D13a→ByteArray→Bool→Option D13h
 | 0=>fun _ _ _ _ _=>none
 | n+1=>Zo.S0 (Zo.l1 (Zo.t2 n) n) (Zo.t2 n)
def Zo.S (j0:ByteArray→Int→D13a→ByteArray→Bool→Option D13h) (s:ByteArray) (xn:Int):Option D13h:=
 bif (ltI xn 0) then
 some ([],1)
 else
 bif (ltI 65536 xn) then
 some ([],1)
 else
 bif (ltI 0 xn) then
 ((Zed s false)).bind fun x1=>
 j0 s xn [x1.1] x1.2.1 x1.2.2
 else
 j0 s xn [] s false
def Zo (s:ByteArray) (xn:Int):Option D13h:=Zo.S (Zo.t0 fu) s xn
def Zqh (s:ByteArray):Option D13b:=
 ((Zad s)).bind fun x1=>
 bif (neI x1.2.2 0) then
 some (0,0)
 else
 some (x1.1,x1.2.1)
def Zpa.S0 (self:D13c→Bool→Int→Int→Option Int) (x1:D13c) (x2:Bool) (x3 x4:Int):Option Int:=
 bif (ltI x4 x3) then
 bif (inB x4 (lenL x1)) then
 bif (eqB x2 (nth x1 x4 false)) then
 some x4
 else
 self x1 x2 x3 (addI .i64 x4 1)
 else none
 else
 some (-1)
def Zpa.l0:Nat→D13c→Bool→Int→Int→Option Int
 | 0=>fun _ _ _ _=>none
 | n+1=>Zpa.S0 (Zpa.l0 n)
def Zpa.S (j0:D13c→Bool→Int→Int→Option Int) (s:D13c) (v:Bool):Option Int:=
 j0 s v (lenL s) 0
def Zpa (s:D13c) (v:Bool):Option Int:=Zpa.S (Zpa.l0 fu) s v
def Zgd (s:D13c) (v:Bool):Option Bool:=
 ((Zpa s v)).bind fun x1=>
 some (leI 0 x1)
def Zb.S3 (x24 x25:D13a) (x26:D13c):Option D13s:=
 ((Zgd x26 false)).bind fun x27=>
 bif x27 then
 some ([],[],20)
 else
 some (x24,x25,0)
def Zb.t3:Nat→D13a→D13a→D13c→Option D13s
 | 0=>fun _ _ _=>none
 | _+1=>Zb.S3
def Zb.S2 (o3_1:D13a→D13a→D13c→Option D13s) (self:Int→D13a→D13a→D13a→Int→Int→D13c→Option D13s) (x17:Int) (x18 x19 x20:D13a) (x21 x22:Int) (x23:D13c):Option D13s:=
 bif (ltI x22 x21) then
 bif (inB x22 (lenL x20)) then
 bif (ltI (nth x20 x22 0) 0) then
 some ([],[],20)
 else
 bif (leI x17 (nth x20 x22 0)) then
 some ([],[],20)
 else
 bif (inB (nth x20 x22 0) (lenL x23)) then
 self x17 x18 x19 x20 x21 (addI .i64 x22 1) (List.set x23 (Int.toNat (nth x20 x22 0)) true)
 else none
 else none
 else
 o3_1 x18 x19 x23
def Zb.l2 (o3_1:D13a→D13a→D13c→Option D13s):Nat→Int→D13a→D13a→D13a→Int→Int→D13c→Option D13s
 | 0=>fun _ _ _ _ _ _ _=>none
 | n+1=>Zb.S2 o3_1 (Zb.l2 o3_1 n)
def Zb.S1 (j2:Int→D13a→D13a→D13a→Int→Int→D13c→Option D13s) (x10:ByteArray) (x11 x12 x13:Int) (x14:D13a):Option D13s:=
 bif (inC x13 (lenS x10) (lenS x10)) then
 ((Zxb [(subI .i64 x12 1)])).bind fun x15=>
 ((Zab (cutS x10 x13 (lenS x10)) x11 x15)).bind fun x16=>
 bif (neI x16.2 0) then
 some ([],[],20)
 else
 bif ((leI 0 x12) && (roomB (Int.toNat x12) 1)) then
 j2 x12 x14 x16.1 x16.1 (lenL x16.1) 0 (List.replicate (Int.toNat x12) false)
 else none
 else none
def Zb.t1:Nat→ByteArray→Int→Int→Int→D13a→Option D13s
 | 0=>fun _ _ _ _ _=>none
 | n+1=>Zb.S1 (Zb.l2 (Zb.t3 n) n)
def Zb.S0 (o1_0:ByteArray→Int→Int→Int→D13a→Option D13s) (self:ByteArray→Int→Int→Int→D13a→Int→Int→Option D13s) (x2:ByteArray) (x3 x4 x5:Int) (x6:D13a) (x7 x8:Int):Option D13s:=
 bif (ltI x8 x7) then
 bif (inC x5 (lenS x2) (lenS x2)) then
 ((Zqh (cutS x2 x5 (lenS x2)))).bind fun x9=>
 bif (eqI x9.2 0) then
 some ([],[],20)
 else
 bif (ltI 0 x8) then
 bif (inB (subI .i64 x8 1) (lenL x6)) then
 bif (leI x9.1 (nth x6 (subI .i64 x8 1) 0)) then
 some ([],[],20)
 else
 bif (roomB ((List.length x6)+1) 8) then
 self x2 x3 x4 (addI .i64 x5 x9.2) (x6++[x9.1]) x7 (addI .i64 x8 1)
 else none
 else none
 else
 bif (roomB ((List.length x6)+1) 8) then
 self x2 x3 x4 (addI .i64 x5 x9.2) (x6++[x9.1]) x7 (addI .i64 x8 1)
 else none
 else none
 else
 o1_0 x2 x3 x4 x5 x6
def Zb.l0 (o1_0:ByteArray→Int→Int→Int→D13a→Option D13s):Nat→ByteArray→Int→Int→Int→D13a→Int→Int→Option D13s
 | 0=>fun _ _ _ _ _ _ _=>none
 | n+1=>Zb.S0 o1_0 (Zb.l0 o1_0 n)
def Zb.S (j0:ByteArray→Int→Int→Int→D13a→Int→Int→Option D13s) (s:ByteArray) (xn:Int):Option D13s:=
 bif (ltI xn 0) then
 some ([],[],1)
 else
 bif (ltI 65536 xn) then
 some ([],[],1)
 else
 bif (eqI xn 0) then
 bif (!(eqS s eB)) then
 some ([],[],20)
 else
 some ([],[],0)
 else
 ((Zad s)).bind fun x1=>
 bif (neI x1.2.2 0) then
 some ([],[],20)
 else
 bif (ltI x1.1 1) then
 some ([],[],20)
 else
 bif (ltI xn x1.1) then
 some ([],[],20)
 else
 j0 s xn x1.1 x1.2.1 [] x1.1 0
def Zb (s:ByteArray) (xn:Int):Option D13s:=Zb.S (Zb.l0 (Zb.t1 fu) fu) s xn
def Zvb.S0 (self:D13a→D13a→D13a→Int→Int→Option D13d) (x1 x2 x3:D13a) (x4 x5:Int):Option D13d:=
 bif (ltI x5 x4) then
 bif (inB x5 (lenL x3)) then
 bif (inB (nth x3 x5 0) (lenL x1)) then
 bif (roomB ((List.length x2)+1) 8) then
 self x1 (x2++[(nth x1 (nth x3 x5 0) 0)]) x3 x4 (addI .i64 x5 1)
 else none
 else none
 else none
 else
 some x2
def Zvb.l0:Nat→D13a→D13a→D13a→Int→Int→Option D13d
 | 0=>fun _ _ _ _ _=>none
 | n+1=>Zvb.S0 (Zvb.l0 n)
def Zvb.S (j0:D13a→D13a→D13a→Int→Int→Option D13d) (d places:D13a):Option D13d:=
 j0 d [] places (lenL places) 0
def Zvb (d places:D13a):Option D13d:=Zvb.S (Zvb.l0 fu) d places
def Zsi (s:ByteArray) (xn:Int):Option D13h:=
 ((Zb s xn)).bind fun x1=>
 bif (neI x1.2.2 0) then
 some ([],x1.2.2)
 else
 ((Zvb x1.1 x1.2.1)).bind fun x2=>
 some (x2,0)
def Zci (s:ByteArray) (xn code:Int):Option D13h:=
 bif (eqI code 1) then
 ((Zfa s xn)).bind fun x1=>
 some x1
 else
 bif (eqI code 2) then
 ((Zja s xn)).bind fun x2=>
 bif (neI x2.2 0) then
 some ([],x2.2)
 else
 ((Zwd x2.1)).bind fun x3=>
 some x3
 else
 bif (eqI code 3) then
 ((Zo s xn)).bind fun x4=>
 some x4
 else
 bif (eqI code 4) then
 ((Zsi s xn)).bind fun x5=>
 some x5
 else
 bif (eqI code 5) then
 bif (!(eqS s eB)) then
 bif (inC 1 (lenS s) (lenS s)) then
 bif (inB 0 (lenS s)) then
 ((Zab (cutS s 1 (lenS s)) xn (IntKind.wrap .i64 (byteAt s 0)))).bind fun x6=>
 some x6
 else none
 else none
 else
 some ([],5)
 else
 some ([],5)
def Zea.S1 (x4:Int) (x5:D13e):Option D13l:=
 bif (neI (lenL x5) x4) then
 some ([],20)
 else
 some (x5,0)
def Zea.t1:Nat→Int→D13e→Option D13l
 | 0=>fun _ _=>none
 | _+1=>Zea.S1
def Zea.S0 (o1_0:Int→D13e→Option D13l) (self:ByteArray→Int→D13e→Option D13l) (x1:ByteArray) (x2:Int) (x3:D13e):Option D13l:=
 bif (!(eqS x1 eB)) then
 bif (inB 0 (lenS x1)) then
 bif (ltI 32 (IntKind.wrap .i64 (byteAt x1 0))) then
 some ([],20)
 else
 bif (leI (lenS x1) (IntKind.wrap .i64 (byteAt x1 0))) then
 some ([],20)
 else
 bif (inC 1 (addI .i64 1 (IntKind.wrap .i64 (byteAt x1 0))) (lenS x1)) then
 bif (roomB ((List.length x3)+1) 16) then
 bif (inC (addI .i64 1 (IntKind.wrap .i64 (byteAt x1 0))) (lenS x1) (lenS x1)) then
 self (cutS x1 (addI .i64 1 (IntKind.wrap .i64 (byteAt x1 0))) (lenS x1)) x2 (x3++[(cutS x1 1 (addI .i64 1 (IntKind.wrap .i64 (byteAt x1 0))))])
 else none
 else none
 else none
 else none
 else
 o1_0 x2 x3
def Zea.l0 (o1_0:Int→D13e→Option D13l):Nat→ByteArray→Int→D13e→Option D13l
 | 0=>fun _ _ _=>none
 | n+1=>Zea.S0 o1_0 (Zea.l0 o1_0 n)
def Zea.S (j0:ByteArray→Int→D13e→Option D13l) (s:ByteArray) (xn:Int):Option D13l:=
 j0 s xn []
def Zea (s:ByteArray) (xn:Int):Option D13l:=Zea.S (Zea.l0 (Zea.t1 fu) fu) s xn
def Zr.S2 (self:Int→D13e→D13e→D13a→Int→Int→Option D13l) (x16:Int) (x17 x18:D13e) (x19:D13a) (x20 x21:Int):Option D13l:=
 bif (ltI x21 x20) then
 bif (inB x21 (lenL x19)) then
 bif (ltI (nth x19 x21 0) 0) then
 some ([],5)
 else
 bif (leI x16 (nth x19 x21 0)) then
 some ([],5)
 else
 bif (inB (nth x19 x21 0) (lenL x17)) then
 bif (roomB ((List.length x18)+1) 16) then
 self x16 x17 (x18++[(nth x17 (nth x19 x21 0) eB)]) x19 x20 (addI .i64 x21 1)
 else none
 else none
 else none
 else
 some (x18,0)
def Zr.l2:Nat→Int→D13e→D13e→D13a→Int→Int→Option D13l
 | 0=>fun _ _ _ _ _ _=>none
 | n+1=>Zr.S2 (Zr.l2 n)
def Zr.S1 (j2:Int→D13e→D13e→D13a→Int→Int→Option D13l) (x9:ByteArray) (x10 x11 x12:Int) (x13:D13e):Option D13l:=
 bif (inC x12 (lenS x9) (lenS x9)) then
 ((Zja (cutS x9 x12 (lenS x9)) x10)).bind fun x14=>
 bif (neI x14.2 0) then
 some ([],x14.2)
 else
 ((Zwd x14.1)).bind fun x15=>
 bif (neI x15.2 0) then
 some ([],x15.2)
 else
 j2 x11 x13 [] x15.1 (lenL x15.1) 0
 else none
def Zr.t1:Nat→ByteArray→Int→Int→Int→D13e→Option D13l
 | 0=>fun _ _ _ _ _=>none
 | n+1=>Zr.S1 (Zr.l2 n)
def Zr.S0 (o1_0:ByteArray→Int→Int→Int→D13e→Option D13l) (self:ByteArray→Int→Int→Int→D13e→Int→Int→Option D13l) (x2:ByteArray) (x3 x4 x5:Int) (x6:D13e) (x7 x8:Int):Option D13l:=
 bif (ltI x8 x7) then
 bif (leI (lenS x2) x5) then
 some ([],5)
 else
 bif (inB x5 (lenS x2)) then
 bif (leI (subI .i64 (lenS x2) x5) (IntKind.wrap .i64 (byteAt x2 x5))) then
 some ([],5)
 else
 bif (inB x5 (lenS x2)) then
 bif (inC (addI .i64 x5 1) (addI .i64 (addI .i64 x5 1) (IntKind.wrap .i64 (byteAt x2 x5))) (lenS x2)) then
 bif (roomB ((List.length x6)+1) 16) then
 self x2 x3 x4 (addI .i64 (addI .i64 x5 1) (IntKind.wrap .i64 (byteAt x2 x5))) (x6++[(cutS x2 (addI .i64 x5 1) (addI .i64 (addI .i64 x5 1) (IntKind.wrap .i64 (byteAt x2 x5))))]) x7 (addI .i64 x8 1)
 else none
 else none
 else none
 else none
 else
 o1_0 x2 x3 x4 x5 x6
def Zr.l0 (o1_0:ByteArray→Int→Int→Int→D13e→Option D13l):Nat→ByteArray→Int→Int→Int→D13e→Int→Int→Option D13l
 | 0=>fun _ _ _ _ _ _ _=>none
 | n+1=>Zr.S0 o1_0 (Zr.l0 o1_0 n)
def Zr.S (j0:ByteArray→Int→Int→Int→D13e→Int→Int→Option D13l) (s:ByteArray) (xn:Int):Option D13l:=
 bif (eqI xn 0) then
 bif (!(eqS s eB)) then
 some ([],5)
 else
 some ([],0)
 else
 ((Zad s)).bind fun x1=>
 bif (neI x1.2.2 0) then
 some ([],5)
 else
 bif (ltI x1.1 1) then
 some ([],5)
 else
 bif (ltI xn x1.1) then
 some ([],5)
 else
 j0 s xn x1.1 x1.2.1 [] x1.1 0
def Zr (s:ByteArray) (xn:Int):Option D13l:=Zr.S (Zr.l0 (Zr.t1 fu) fu) s xn
def Zti (s:ByteArray):Option D13g:=
 bif (eqS s eB) then
 some (eB,0)
 else
 bif (inB 0 (lenS s)) then
 bif (ltI 32 (IntKind.wrap .i64 (byteAt s 0))) then
 some (eB,0)
 else
 bif (leI (lenS s) (IntKind.wrap .i64 (byteAt s 0))) then
 some (eB,0)
 else
 bif (inC 1 (addI .i64 1 (IntKind.wrap .i64 (byteAt s 0))) (lenS s)) then
 some ((cutS s 1 (addI .i64 1 (IntKind.wrap .i64 (byteAt s 0)))),(addI .i64 1 (IntKind.wrap .i64 (byteAt s 0))))
 else none
 else none
def Za.S3 (x24:D13e) (x25:D13a) (x26:D13c):Option D13w:=
 ((Zgd x26 false)).bind fun x27=>
 bif x27 then
 some ([],[],20)
 else
 some (x24,x25,0)
def Za.t3:Nat→D13e→D13a→D13c→Option D13w
 | 0=>fun _ _ _=>none
 | _+1=>Za.S3
def Za.S2 (o3_1:D13e→D13a→D13c→Option D13w) (self:Int→D13e→D13a→D13a→Int→Int→D13c→Option D13w) (x17:Int) (x18:D13e) (x19 x20:D13a) (x21 x22:Int) (x23:D13c):Option D13w:=
 bif (ltI x22 x21) then
 bif (inB x22 (lenL x20)) then
 bif (ltI (nth x20 x22 0) 0) then
 some ([],[],20)
 else
 bif (leI x17 (nth x20 x22 0)) then
 some ([],[],20)
 else
 bif (inB (nth x20 x22 0) (lenL x23)) then
 self x17 x18 x19 x20 x21 (addI .i64 x22 1) (List.set x23 (Int.toNat (nth x20 x22 0)) true)
 else none
 else none
 else
 o3_1 x18 x19 x23
def Za.l2 (o3_1:D13e→D13a→D13c→Option D13w):Nat→Int→D13e→D13a→D13a→Int→Int→D13c→Option D13w
 | 0=>fun _ _ _ _ _ _ _=>none
 | n+1=>Za.S2 o3_1 (Za.l2 o3_1 n)
def Za.S1 (j2:Int→D13e→D13a→D13a→Int→Int→D13c→Option D13w) (x10:ByteArray) (x11 x12 x13:Int) (x14:D13e):Option D13w:=
 bif (inC x13 (lenS x10) (lenS x10)) then
 ((Zxb [(subI .i64 x12 1)])).bind fun x15=>
 ((Zab (cutS x10 x13 (lenS x10)) x11 x15)).bind fun x16=>
 bif (neI x16.2 0) then
 some ([],[],20)
 else
 bif ((leI 0 x12) && (roomB (Int.toNat x12) 1)) then
 j2 x12 x14 x16.1 x16.1 (lenL x16.1) 0 (List.replicate (Int.toNat x12) false)
 else none
 else none
def Za.t1:Nat→ByteArray→Int→Int→Int→D13e→Option D13w
 | 0=>fun _ _ _ _ _=>none
 | n+1=>Za.S1 (Za.l2 (Za.t3 n) n)
def Za.S0 (o1_0:ByteArray→Int→Int→Int→D13e→Option D13w) (self:ByteArray→Int→Int→Int→D13e→Int→Int→Option D13w) (x2:ByteArray) (x3 x4 x5:Int) (x6:D13e) (x7 x8:Int):Option D13w:=
 bif (ltI x8 x7) then
 bif (inC x5 (lenS x2) (lenS x2)) then
 ((Zti (cutS x2 x5 (lenS x2)))).bind fun x9=>
 bif (eqI x9.2 0) then
 some ([],[],20)
 else
 bif (ltI 0 x8) then
 bif (inB (subI .i64 x8 1) (lenL x6)) then
 bif ((ltS x9.1 (nth x6 (subI .i64 x8 1) eB)) || (eqS x9.1 (nth x6 (subI .i64 x8 1) eB))) then
 some ([],[],20)
 else
 bif (roomB ((List.length x6)+1) 16) then
 self x2 x3 x4 (addI .i64 x5 x9.2) (x6++[x9.1]) x7 (addI .i64 x8 1)
 else none
 else none
 else
 bif (roomB ((List.length x6)+1) 16) then
 self x2 x3 x4 (addI .i64 x5 x9.2) (x6++[x9.1]) x7 (addI .i64 x8 1)
 else none
 else none
 else
 o1_0 x2 x3 x4 x5 x6
def Za.l0 (o1_0:ByteArray→Int→Int→Int→D13e→Option D13w):Nat→ByteArray→Int→Int→Int→D13e→Int→Int→Option D13w
 | 0=>fun _ _ _ _ _ _ _=>none
 | n+1=>Za.S0 o1_0 (Za.l0 o1_0 n)
def Za.S (j0:ByteArray→Int→Int→Int→D13e→Int→Int→Option D13w) (s:ByteArray) (xn:Int):Option D13w:=
 bif (ltI xn 0) then
 some ([],[],1)
 else
 bif (ltI 65536 xn) then
 some ([],[],1)
 else
 bif (eqI xn 0) then
 bif (!(eqS s eB)) then
 some ([],[],20)
 else
 some ([],[],0)
 else
 ((Zad s)).bind fun x1=>
 bif (neI x1.2.2 0) then
 some ([],[],20)
 else
 bif (ltI x1.1 1) then
 some ([],[],20)
 else
 bif (ltI xn x1.1) then
 some ([],[],20)
 else
 j0 s xn x1.1 x1.2.1 [] x1.1 0
def Za (s:ByteArray) (xn:Int):Option D13w:=Za.S (Za.l0 (Za.t1 fu) fu) s xn
def Zdp (s:ByteArray) (xn:Int):Option D13w:=
 ((Za s xn)).bind fun x1=>
 some x1
def Zbb.S0 (self:D13e→D13e→D13a→Int→Int→Option (D13e)) (x1 x2:D13e) (x3:D13a) (x4 x5:Int):Option (D13e):=
 bif (ltI x5 x4) then
 bif (inB x5 (lenL x3)) then
 bif (inB (nth x3 x5 0) (lenL x1)) then
 bif (roomB ((List.length x2)+1) 16) then
 self x1 (x2++[(nth x1 (nth x3 x5 0) eB)]) x3 x4 (addI .i64 x5 1)
 else none
 else none
 else none
 else
 some x2
def Zbb.l0:Nat→D13e→D13e→D13a→Int→Int→Option (D13e)
 | 0=>fun _ _ _ _ _=>none
 | n+1=>Zbb.S0 (Zbb.l0 n)
def Zbb.S (j0:D13e→D13e→D13a→Int→Int→Option (D13e)) (d:D13e) (places:D13a):Option (D13e):=
 j0 d [] places (lenL places) 0
def Zbb (d:D13e) (places:D13a):Option (D13e):=Zbb.S (Zbb.l0 fu) d places
def Zhi (s:ByteArray) (xn:Int):Option D13l:=
 ((Zdp s xn)).bind fun x1=>
 bif (neI x1.2.2 0) then
 some ([],x1.2.2)
 else
 ((Zbb x1.1 x1.2.1)).bind fun x2=>
 some (x2,0)
def Zgj (s:ByteArray) (xn code:Int):Option D13l:=
 bif (eqI code 1) then
 ((Zea s xn)).bind fun x1=>
 some x1
 else
 bif (eqI code 2) then
 ((Zr s xn)).bind fun x2=>
 some x2
 else
 bif (eqI code 4) then
 ((Zhi s xn)).bind fun x3=>
 some x3
 else
 some ([],5)
def Zga.S0 (self:D13u→Int→D13a→Int→Int→D13p→Option D13x) (x2:D13u) (x3:Int) (x4:D13a) (x5 x6:Int) (x7:D13p):Option D13x:=
 bif (ltI x6 x5) then
 bif (inB x6 (lenL x4)) then
 bif (roomB ((List.length x2)+1) 32) then
 self (x2++[(x7.1,(nth x4 x6 0),eB)]) x3 x4 x5 (addI .i64 x6 1) x7
 else none
 else none
 else
 some (x2,x3)
def Zga.l0:Nat→D13u→Int→D13a→Int→Int→D13p→Option D13x
 | 0=>fun _ _ _ _ _ _=>none
 | n+1=>Zga.S0 (Zga.l0 n)
def Zga.S1 (self:D13u→Int→D13e→Int→Int→D13p→Option D13x) (x9:D13u) (x10:Int) (x11:D13e) (x12 x13:Int) (x14:D13p):Option D13x:=
 bif (ltI x13 x12) then
 bif (inB x13 (lenL x11)) then
 bif (roomB ((List.length x9)+1) 32) then
 self (x9++[(x14.1,0,(nth x11 x13 eB))]) x10 x11 x12 (addI .i64 x13 1) x14
 else none
 else none
 else
 some (x9,x10)
def Zga.l1:Nat→D13u→Int→D13e→Int→Int→D13p→Option D13x
 | 0=>fun _ _ _ _ _ _=>none
 | n+1=>Zga.S1 (Zga.l1 n)
def Zga.S (j0:D13u→Int→D13a→Int→Int→D13p→Option D13x) (j1:D13u→Int→D13e→Int→Int→D13p→Option D13x) (s:ByteArray) (xn:Int) (h:D13p):Option D13x:=
 bif (eqI h.1 1) then
 ((Zci s xn h.2.1)).bind fun x1=>
 j0 [] x1.2 x1.1 (lenL x1.1) 0 h
 else
 bif (eqI h.1 2) then
 ((Zgj s xn h.2.1)).bind fun x8=>
 j1 [] x8.2 x8.1 (lenL x8.1) 0 h
 else
 some ([],5)
def Zga (s:ByteArray) (xn:Int) (h:D13p):Option D13x:=Zga.S (Zga.l0 fu) (Zga.l1 fu) s xn h
def Zt.S0 (self:D13u→Int→Int→Option Int) (x1:D13u) (x2 x3:Int):Option Int:=
 bif (ltI x3 x2) then
 bif (inB x3 (lenL x1)) then
 bif (Zbi (nth x1 x3 (0,0,eB))) then
 some x3
 else
 self x1 x2 (addI .i64 x3 1)
 else none
 else
 some (-1)
def Zt.l0:Nat→D13u→Int→Int→Option Int
 | 0=>fun _ _ _=>none
 | n+1=>Zt.S0 (Zt.l0 n)
def Zt.S (j0:D13u→Int→Int→Option Int) (s:D13u):Option Int:=
 j0 s (lenL s) 0
def Zt (s:D13u):Option Int:=Zt.S (Zt.l0 fu) s
def Zid (s:D13u):Option Bool:=
 ((Zt s)).bind fun x1=>
 some (leI 0 x1)
def Zbc.S0 (self:D13u→D13a→Int→Int→D13u→Option D13x) (x4:D13u) (x5:D13a) (x6 x7:Int) (x8:D13u):Option D13x:=
 bif (ltI x7 x6) then
 bif (inB x7 (lenL x5)) then
 bif (eqI (nth x5 x7 0) 0) then
 bif (inB 0 (lenL x4)) then
 bif (inC 1 (lenL x4) (lenL x4)) then
 bif (inB x7 (lenL x8)) then
 self (List.drop 1 x4) x5 x6 (addI .i64 x7 1) (List.set x8 (Int.toNat x7) (nth x4 0 (0,0,eB)))
 else none
 else none
 else none
 else
 self x4 x5 x6 (addI .i64 x7 1) x8
 else none
 else
 some (x8,0)
def Zbc.l0:Nat→D13u→D13a→Int→Int→D13u→Option D13x
 | 0=>fun _ _ _ _ _=>none
 | n+1=>Zbc.S0 (Zbc.l0 n)
def Zbc.S (j0:D13u→D13a→Int→Int→D13u→Option D13x) (s:ByteArray) (xn:Int) (l:D13u):Option D13x:=
 ((Zpg s xn)).bind fun x1=>
 bif (neI x1.2 0) then
 some ([],x1.2)
 else
 ((Zhc s xn)).bind fun x2=>
 bif (neI (lenL l) (subI .i64 xn x2.1)) then
 some ([],20)
 else
 ((Zid l)).bind fun x3=>
 bif x3 then
 some ([],20)
 else
 bif ((leI 0 xn) && (roomB (Int.toNat xn) 32)) then
 j0 l x1.1 (lenL (List.replicate (Int.toNat xn) ((0:Int),((0:Int),eB)))) 0 (List.replicate (Int.toNat xn) ((0:Int),((0:Int),eB)))
 else none
def Zbc (s:ByteArray) (xn:Int) (l:D13u):Option D13x:=Zbc.S (Zbc.l0 fu) s xn l
def Zmh (s:ByteArray):Option ((D13p×(ByteArray×D13z))×Bool):=
 ((Ztl s)).bind fun x1=>
 bif (neI x1.2 0) then
 some (((0,0,0,0),eB,eB,[]),false)
 else
 bif (ltI (lenS x1.1) 4) then
 some (((0,0,0,0),eB,eB,[]),false)
 else
 bif (inB 3 (lenS x1.1)) then
 bif (ltI (subI .i64 (lenS x1.1) 4) (IntKind.wrap .i64 (byteAt x1.1 3))) then
 some (((0,0,0,0),eB,eB,[]),false)
 else
 bif (inB 3 (lenS x1.1)) then
 bif (inB 0 (lenS x1.1)) then
 bif (inB 1 (lenS x1.1)) then
 bif (inB 2 (lenS x1.1)) then
 bif (inC 4 (addI .i64 4 (IntKind.wrap .i64 (byteAt x1.1 3))) (lenS x1.1)) then
 bif (inC (addI .i64 4 (IntKind.wrap .i64 (byteAt x1.1 3))) (lenS x1.1) (lenS x1.1)) then
 ((Zhc (cutS x1.1 4 (addI .i64 4 (IntKind.wrap .i64 (byteAt x1.1 3)))) (IntKind.wrap .i64 (byteAt x1.1 2)))).bind fun x2=>
 bif (neI x2.2 0) then
 some ((((IntKind.wrap .i64 (byteAt x1.1 0)),(IntKind.wrap .i64 (byteAt x1.1 1)),(IntKind.wrap .i64 (byteAt x1.1 2)),x2.1),(cutS x1.1 4 (addI .i64 4 (IntKind.wrap .i64 (byteAt x1.1 3)))),(cutS x1.1 (addI .i64 4 (IntKind.wrap .i64 (byteAt x1.1 3))) (lenS x1.1)),[]),false)
 else
 ((Zga (cutS x1.1 (addI .i64 4 (IntKind.wrap .i64 (byteAt x1.1 3))) (lenS x1.1)) (subI .i64 (IntKind.wrap .i64 (byteAt x1.1 2)) x2.1) ((IntKind.wrap .i64 (byteAt x1.1 0)),(IntKind.wrap .i64 (byteAt x1.1 1)),(IntKind.wrap .i64 (byteAt x1.1 2)),x2.1))).bind fun x3=>
 bif (neI x3.2 0) then
 some ((((IntKind.wrap .i64 (byteAt x1.1 0)),(IntKind.wrap .i64 (byteAt x1.1 1)),(IntKind.wrap .i64 (byteAt x1.1 2)),x2.1),(cutS x1.1 4 (addI .i64 4 (IntKind.wrap .i64 (byteAt x1.1 3)))),(cutS x1.1 (addI .i64 4 (IntKind.wrap .i64 (byteAt x1.1 3))) (lenS x1.1)),[]),false)
 else
 ((Zbc (cutS x1.1 4 (addI .i64 4 (IntKind.wrap .i64 (byteAt x1.1 3)))) (IntKind.wrap .i64 (byteAt x1.1 2)) x3.1)).bind fun x4=>
 bif (neI x4.2 0) then
 some ((((IntKind.wrap .i64 (byteAt x1.1 0)),(IntKind.wrap .i64 (byteAt x1.1 1)),(IntKind.wrap .i64 (byteAt x1.1 2)),x2.1),(cutS x1.1 4 (addI .i64 4 (IntKind.wrap .i64 (byteAt x1.1 3)))),(cutS x1.1 (addI .i64 4 (IntKind.wrap .i64 (byteAt x1.1 3))) (lenS x1.1)),x4.1),false)
 else
 ((Zhg x4.1 (IntKind.wrap .i64 (byteAt x1.1 0)) (IntKind.wrap .i64 (byteAt x1.1 1)))).bind fun x5=>
 bif (eqI x5.2 0) then
 some ((((IntKind.wrap .i64 (byteAt x1.1 0)),(IntKind.wrap .i64 (byteAt x1.1 1)),(IntKind.wrap .i64 (byteAt x1.1 2)),x2.1),(cutS x1.1 4 (addI .i64 4 (IntKind.wrap .i64 (byteAt x1.1 3)))),(cutS x1.1 (addI .i64 4 (IntKind.wrap .i64 (byteAt x1.1 3))) (lenS x1.1)),x4.1),(eqS x5.1 s))
 else
 some ((((IntKind.wrap .i64 (byteAt x1.1 0)),(IntKind.wrap .i64 (byteAt x1.1 1)),(IntKind.wrap .i64 (byteAt x1.1 2)),x2.1),(cutS x1.1 4 (addI .i64 4 (IntKind.wrap .i64 (byteAt x1.1 3)))),(cutS x1.1 (addI .i64 4 (IntKind.wrap .i64 (byteAt x1.1 3))) (lenS x1.1)),x4.1),false)
 else none
 else none
 else none
 else none
 else none
 else none
 else none
def Zvj (s:ByteArray):Option D13x:=
 ((Zmh s)).bind fun x1=>
 bif (!x1.2) then
 some ([],5)
 else
 some (x1.1.2.2.2,0)
def Zwj (s:ByteArray):Option (D13p×Int):=
 ((Zmh s)).bind fun x1=>
 bif (!x1.2) then
 some ((0,0,0,0),5)
 else
 some (x1.1.1,0)
def Zhd.S0 (self:D13u→D13u→Int→Option Bool) (x1 x2:D13u) (x3:Int):Option Bool:=
 bif (ltI x3 (lenL x1)) then
 bif (inB x3 (lenL x1)) then
 bif (inB x3 (lenL x2)) then
 bif (!((eqI (nth x1 x3 (0,0,eB)).1 (nth x2 x3 (0,0,eB)).1) && ((eqI (nth x1 x3 (0,0,eB)).2.1 (nth x2 x3 (0,0,eB)).2.1) && (eqS (nth x1 x3 (0,0,eB)).2.2 (nth x2 x3 (0,0,eB)).2.2)))) then
 some false
 else
 self x1 x2 (addI .i64 x3 1)
 else none
 else none
 else
 some true
def Zhd.l0:Nat→D13u→D13u→Int→Option Bool
 | 0=>fun _ _ _=>none
 | n+1=>Zhd.S0 (Zhd.l0 n)
def Zhd.S (j0:D13u→D13u→Int→Option Bool) (a b:D13u):Option Bool:=
 bif (neI (lenL a) (lenL b)) then
 some false
 else
 j0 a b 0
def Zhd (a b:D13u):Option Bool:=Zhd.S (Zhd.l0 fu) a b
def Zep:Option Bool:=
 ((Zhg [(Zxp 7),(0,0,eB),(Zxp 7)] 1 2)).bind fun x3=>
 ((Zvj x3.1)).bind fun x4=>
 ((Zwj x3.1)).bind fun x5=>
 bif (eqI x3.2 0) then
 bif (eqI (lenS x3.1) 11) then
 ((Zhd x4.1 [(Zxp 7),(0,0,eB),(Zxp 7)])).bind fun x6=>
 bif x6 then
 bif (eqI x4.2 0) then
 bif ((eqI x5.1.1 1) && ((eqI x5.1.2.1 2) && ((eqI x5.1.2.2.1 3) && (eqI x5.1.2.2.2 1)))) then
 some (eqI x5.2 0)
 else
 some false
 else
 some false
 else
 some false
 else
 some false
 else
 some false
def Zpc.S1 (self:D13u→Int→Int→Option Bool) (x3:D13u) (x4 x5:Int):Option Bool:=
 bif (ltI x5 (lenL x3)) then
 bif (inB x5 (lenL x3)) then
 bif (!(Zie (nth x3 x5 (0,0,eB)))) then
 some false
 else
 bif (inB x5 (lenL x3)) then
 bif (neI (nth x3 x5 (0,0,eB)).1 0) then
 bif (inB x5 (lenL x3)) then
 bif (neI (nth x3 x5 (0,0,eB)).1 x4) then
 some false
 else
 self x3 x4 (addI .i64 x5 1)
 else none
 else
 self x3 x4 (addI .i64 x5 1)
 else none
 else none
 else
 some true
def Zpc.l1:Nat→D13u→Int→Int→Option Bool
 | 0=>fun _ _ _=>none
 | n+1=>Zpc.S1 (Zpc.l1 n)
def Zpc.S0 (j1:D13u→Int→Int→Option Bool) (x1:D13u) (x2:Int):Option Bool:=
 j1 x1 x2 0
def Zpc.t0:Nat→D13u→Int→Option Bool
 | 0=>fun _ _=>none
 | n+1=>Zpc.S0 (Zpc.l1 n)
def Zpc.S (j0:D13u→Int→Option Bool) (l:D13u) (kind:Int):Option Bool:=
 bif (ltI (lenL l) 1) then
 some false
 else
 bif (ltI 64 (lenL l)) then
 some false
 else
 bif (neI kind 1) then
 bif (neI kind 2) then
 some false
 else
 j0 l kind
 else
 j0 l kind
def Zpc (l:D13u) (kind:Int):Option Bool:=Zpc.S (Zpc.t0 fu) l kind
def Zkd.S0 (self:Int→D13c→Option Int) (x2:Int) (x3:D13c):Option Int:=
 bif (leI 0 x2) then
 bif ((inB x2 64) && (decide (64=(List.length x3)))) then
 bif (List.getD x3 (Int.toNat x2) false) then
 some (addI .i64 x2 1)
 else
 self (subI .i64 x2 1) x3
 else none
 else
 some 0
def Zkd.l0:Nat→Int→D13c→Option Int
 | 0=>fun _ _=>none
 | n+1=>Zkd.S0 (Zkd.l0 n)
def Zkd.S (j0:Int→D13c→Option Int) (word:Int):Option Int:=
 ((Zzd word)).bind fun x1=>
 j0 63 x1
def Zkd (word:Int):Option Int:=Zkd.S (Zkd.l0 fu) word
def Zzc.S0 (self:D13a→Int→Int→Option Int) (x1:D13a) (x2 x3:Int):Option Int:=
 bif (ltI x3 (lenL x1)) then
 bif (inB x3 (lenL x1)) then
 ((Zkd (nth x1 x3 0))).bind fun x4=>
 self x1 (maxI x2 x4) (addI .i64 x3 1)
 else none
 else
 some x2
def Zzc.l0:Nat→D13a→Int→Int→Option Int
 | 0=>fun _ _ _=>none
 | n+1=>Zzc.S0 (Zzc.l0 n)
def Zzc.S (j0:D13a→Int→Int→Option Int) (l:D13a):Option Int:=
 j0 l 0 0
def Zzc (l:D13a):Option Int:=Zzc.S (Zzc.l0 fu) l
def Zlg (xn width:Int):Int:=
 bif (ltI xn 1) then
 0
 else
 bif (ltI 65536 xn) then
 0
 else
 bif (ltI width 1) then
 0
 else
 bif (ltI 64 width) then
 0
 else
 (quoI .i64 (addI .i64 (mulI .i64 xn width) 7) 8)
def Zlg.o (xn width:Int):Option Int:=
 bif (ltI xn 1) then
 some 0
 else
 bif (ltI 65536 xn) then
 some 0
 else
 bif (ltI width 1) then
 some 0
 else
 bif (ltI 64 width) then
 some 0
 else
 some (quoI .i64 (addI .i64 (mulI .i64 xn width) 7) 8)
def Zob.S1 (o0_1:D13a→Int→Int→D13a→Option D13g) (self:D13a→Int→Int→Int→D13a→Option D13g) (x7:D13a) (x8 x9 x10:Int) (x11:D13a):Option D13g:=
 bif (ltI x10 x8) then
 bif (inB x9 (lenL x7)) then
 bif (leI 0 x10) then
 bif (eqI (andI .i64 (shrI .i64 (nth x7 x9 0) x10) 1) 1) then
 bif (inB (quoI .i64 (addI .i64 (mulI .i64 x9 x8) x10) 8) (lenL x11)) then
 bif (leI 0 (remI (addI .i64 (mulI .i64 x9 x8) x10) 8)) then
 bif (inB (quoI .i64 (addI .i64 (mulI .i64 x9 x8) x10) 8) (lenL x11)) then
 self x7 x8 x9 (addI .i64 x10 1) (List.set x11 (Int.toNat (quoI .i64 (addI .i64 (mulI .i64 x9 x8) x10) 8)) (orI .u8 (List.getD x11 (Int.toNat (quoI .i64 (addI .i64 (mulI .i64 x9 x8) x10) 8)) 0) (shlI .u8 1 (remI (addI .i64 (mulI .i64 x9 x8) x10) 8))))
 else none
 else none
 else none
 else
 self x7 x8 x9 (addI .i64 x10 1) x11
 else none
 else none
 else
 o0_1 x7 x8 (addI .i64 x9 1) x11
def Zob.l1 (o0_1:D13a→Int→Int→D13a→Option D13g):Nat→D13a→Int→Int→Int→D13a→Option D13g
 | 0=>fun _ _ _ _ _=>none
 | n+1=>Zob.S1 o0_1 (Zob.l1 o0_1 n)
def Zob.S0 (j1:D13a→Int→Int→Int→D13a→Option D13g) (x3:D13a) (x4 x5:Int) (x6:D13a):Option D13g:=
 bif (ltI x5 (lenL x3)) then
 j1 x3 x4 x5 0 x6
 else
 some ((ofBytes x6),0)
def Zob.l0:Nat→D13a→Int→Int→D13a→Option D13g
 | 0=>fun _ _ _ _=>none
 | n+1=>Zob.S0 (Zob.l1 (Zob.l0 n) n)
def Zob.S (j0:D13a→Int→Int→D13a→Option D13g) (l:D13a) (width:Int):Option D13g:=
 bif (ltI width 0) then
 some (eB,1)
 else
 bif (ltI 64 width) then
 some (eB,1)
 else
 bif (ltI 65536 (lenL l)) then
 some (eB,1)
 else
 ((Zzc l)).bind fun x1=>
 bif (ltI width x1) then
 some (eB,1)
 else
 let x2:=(Zlg (lenL l) width)
 bif ((leI 0 x2) && (roomB (Int.toNat x2) 1)) then
 j0 l width 0 (List.replicate (Int.toNat x2) (0:Int))
 else none
def Zob (l:D13a) (width:Int):Option D13g:=Zob.S (Zob.l0 fu) l width
def Zpb.S1 (x5 x6:D13u) (x7:D13a):Option D13z:=
 bif (eqI (lenL x6) (lenL x5)) then
 some (eB,x6)
 else
 ((Zob x7 1)).bind fun x8=>
 some (x8.1,x6)
def Zpb.t1:Nat→D13u→D13u→D13a→Option D13z
 | 0=>fun _ _ _=>none
 | _+1=>Zpb.S1
def Zpb.S0 (o1_0:D13u→D13u→D13a→Option D13z) (self:D13u→D13u→D13a→Int→Option D13z) (x1 x2:D13u) (x3:D13a) (x4:Int):Option D13z:=
 bif (ltI x4 (lenL x1)) then
 bif (inB x4 (lenL x1)) then
 bif (eqI (nth x1 x4 (0,0,eB)).1 0) then
 bif (roomB ((List.length x3)+1) 8) then
 self x1 x2 (x3++[1]) (addI .i64 x4 1)
 else none
 else
 bif (roomB ((List.length x3)+1) 8) then
 bif (inB x4 (lenL x1)) then
 bif (roomB ((List.length x2)+1) 32) then
 self x1 (x2++[(nth x1 x4 (0,0,eB))]) (x3++[0]) (addI .i64 x4 1)
 else none
 else none
 else none
 else none
 else
 o1_0 x1 x2 x3
def Zpb.l0 (o1_0:D13u→D13u→D13a→Option D13z):Nat→D13u→D13u→D13a→Int→Option D13z
 | 0=>fun _ _ _ _=>none
 | n+1=>Zpb.S0 o1_0 (Zpb.l0 o1_0 n)
def Zpb.S (j0:D13u→D13u→D13a→Int→Option D13z) (l:D13u):Option D13z:=
 j0 l [] [] 0
def Zpb (l:D13u):Option D13z:=Zpb.S (Zpb.l0 (Zpb.t1 fu) fu) l
def Zge.S0 (self:D13u→D13a→Int→Option D13d) (x1:D13u) (x2:D13a) (x3:Int):Option D13d:=
 bif (ltI x3 (lenL x1)) then
 bif (inB x3 (lenL x1)) then
 bif (roomB ((List.length x2)+1) 8) then
 self x1 (x2++[(nth x1 x3 (0,0,eB)).2.1]) (addI .i64 x3 1)
 else none
 else none
 else
 some x2
def Zge.l0:Nat→D13u→D13a→Int→Option D13d
 | 0=>fun _ _ _=>none
 | n+1=>Zge.S0 (Zge.l0 n)
def Zge.S (j0:D13u→D13a→Int→Option D13d) (l:D13u):Option D13d:=
 j0 l [] 0
def Zge (l:D13u):Option D13d:=Zge.S (Zge.l0 fu) l
def Zxa.S1 (o0_1:D13a→D13a→Int→Option ByteArray) (self:D13a→D13a→Int→Int→Option ByteArray) (x4 x5:D13a) (x6 x7:Int):Option ByteArray:=
 bif (ltI x7 8) then
 bif (inB x6 (lenL x4)) then
 bif (leI 0 (mulI .i64 8 x7)) then
 bif (roomB ((List.length x5)+1) 1) then
 self x4 (x5++[(IntKind.wrap .u8 (andI .i64 (shrI .i64 (nth x4 x6 0) (mulI .i64 8 x7)) 255))]) x6 (addI .i64 x7 1)
 else none
 else none
 else none
 else
 o0_1 x4 x5 (addI .i64 x6 1)
def Zxa.l1 (o0_1:D13a→D13a→Int→Option ByteArray):Nat→D13a→D13a→Int→Int→Option ByteArray
 | 0=>fun _ _ _ _=>none
 | n+1=>Zxa.S1 o0_1 (Zxa.l1 o0_1 n)
def Zxa.S0 (j1:D13a→D13a→Int→Int→Option ByteArray) (x1 x2:D13a) (x3:Int):Option ByteArray:=
 bif (ltI x3 (lenL x1)) then
 j1 x1 x2 x3 0
 else
 some (ofBytes x2)
def Zxa.l0:Nat→D13a→D13a→Int→Option ByteArray
 | 0=>fun _ _ _=>none
 | n+1=>Zxa.S0 (Zxa.l1 (Zxa.l0 n) n)
def Zxa.S (j0:D13a→D13a→Int→Option ByteArray) (l:D13a):Option ByteArray:=
 j0 l [] 0
def Zxa (l:D13a):Option ByteArray:=Zxa.S (Zxa.l0 fu) l
def Zaf.S0 (self:D13a→Int→D13o→Option D13q) (x1:D13a) (x2:Int) (x3:D13o):Option D13q:=
 bif (ltI x2 (lenL x1)) then
 bif (leI (lenL x1) 65536) then
 bif (ltI 0 x2) then
 bif (inB x2 (lenL x1)) then
 bif (inB (subI .i64 x2 1) (lenL x1)) then
 bif (eqI (nth x1 x2 0) (nth x1 (subI .i64 x2 1) 0)) then
 bif (inB (subI .i64 (lenL x3) 1) (lenL x3)) then
 bif (inB (subI .i64 (lenL x3) 1) (lenL x3)) then
 self x1 (addI .i64 x2 1) (List.set x3 (Int.toNat (subI .i64 (lenL x3) 1)) ((List.getD x3 (Int.toNat (subI .i64 (lenL x3) 1)) (0,0,0)).1,(List.getD x3 (Int.toNat (subI .i64 (lenL x3) 1)) (0,0,0)).2.1,(addI .i64 (List.getD x3 (Int.toNat (subI .i64 (lenL x3) 1)) (0,0,0)).2.2 1)))
 else none
 else none
 else
 bif (inB x2 (lenL x1)) then
 bif (roomB ((List.length x3)+1) 24) then
 self x1 (addI .i64 x2 1) (x3++[((nth x1 x2 0),x2,1)])
 else none
 else none
 else none
 else none
 else
 bif (inB x2 (lenL x1)) then
 bif (roomB ((List.length x3)+1) 24) then
 self x1 (addI .i64 x2 1) (x3++[((nth x1 x2 0),x2,1)])
 else none
 else none
 else
 some x3
 else
 some x3
def Zaf.l0:Nat→D13a→Int→D13o→Option D13q
 | 0=>fun _ _ _=>none
 | n+1=>Zaf.S0 (Zaf.l0 n)
def Zaf.S (j0:D13a→Int→D13o→Option D13q) (l:D13a):Option D13q:=
 j0 l 0 []
def Zaf (l:D13a):Option D13q:=Zaf.S (Zaf.l0 fu) l
def Ztc.S0 (self:D13o→Int→Int→Option Bool) (x1:D13o) (x2 x3:Int):Option Bool:=
 bif (ltI x3 (lenL x1)) then
 bif (inB x3 (lenL x1)) then
 bif (neI (nth x1 x3 (0,0,0)).2.1 x2) then
 some false
 else
 bif (inB x3 (lenL x1)) then
 bif (ltI (nth x1 x3 (0,0,0)).2.2 1) then
 some false
 else
 bif (inB x3 (lenL x1)) then
 bif (ltI (subI .i64 65536 x2) (nth x1 x3 (0,0,0)).2.2) then
 some false
 else
 bif (ltI 0 x3) then
 bif (inB x3 (lenL x1)) then
 bif (inB (subI .i64 x3 1) (lenL x1)) then
 bif (eqI (nth x1 x3 (0,0,0)).1 (nth x1 (subI .i64 x3 1) (0,0,0)).1) then
 some false
 else
 bif (inB x3 (lenL x1)) then
 self x1 (addI .i64 x2 (nth x1 x3 (0,0,0)).2.2) (addI .i64 x3 1)
 else none
 else none
 else none
 else
 bif (inB x3 (lenL x1)) then
 self x1 (addI .i64 x2 (nth x1 x3 (0,0,0)).2.2) (addI .i64 x3 1)
 else none
 else none
 else none
 else none
 else
 some true
def Ztc.l0:Nat→D13o→Int→Int→Option Bool
 | 0=>fun _ _ _=>none
 | n+1=>Ztc.S0 (Ztc.l0 n)
def Ztc.S (j0:D13o→Int→Int→Option Bool) (l:D13o):Option Bool:=
 j0 l 0 0
def Ztc (l:D13o):Option Bool:=Ztc.S (Ztc.l0 fu) l
def Zxd.S0 (self:D13o→ByteArray→Int→Option D13g) (x2:D13o) (x3:ByteArray) (x4:Int):Option D13g:=
 bif (ltI x4 (lenL x2)) then
 bif (inB x4 (lenL x2)) then
 ((Zxc (nth x2 x4 (0,0,0)).1)).bind fun x5=>
 bif (roomS x3 x5) then
 bif (inB x4 (lenL x2)) then
 ((Zxc (nth x2 x4 (0,0,0)).2.2)).bind fun x6=>
 bif (roomS (addS x3 x5) x6) then
 self x2 (addS (addS x3 x5) x6) (addI .i64 x4 1)
 else none
 else none
 else none
 else none
 else
 some (x3,0)
def Zxd.l0:Nat→D13o→ByteArray→Int→Option D13g
 | 0=>fun _ _ _=>none
 | n+1=>Zxd.S0 (Zxd.l0 n)
def Zxd.S (j0:D13o→ByteArray→Int→Option D13g) (l:D13o):Option D13g:=
 ((Ztc l)).bind fun x1=>
 bif (!x1) then
 some (eB,1)
 else
 j0 l eB 0
def Zxd (l:D13o):Option D13g:=Zxd.S (Zxd.l0 fu) l
def Ztd.S0 (self:D13a→D13a→Int→Option D13d) (x1 x2:D13a) (x3:Int):Option D13d:=
 bif (ltI x3 (lenL x1)) then
 bif (inB x3 (lenL x1)) then
 bif (inB (subI .i64 x3 1) (lenL x1)) then
 bif (roomB ((List.length x2)+1) 8) then
 self x1 (x2++[(subI .i64 (nth x1 x3 0) (nth x1 (subI .i64 x3 1) 0))]) (addI .i64 x3 1)
 else none
 else none
 else none
 else
 some x2
def Ztd.l0:Nat→D13a→D13a→Int→Option D13d
 | 0=>fun _ _ _=>none
 | n+1=>Ztd.S0 (Ztd.l0 n)
def Ztd.S (j0:D13a→D13a→Int→Option D13d) (l:D13a):Option D13d:=
 j0 l [] 1
def Ztd (l:D13a):Option D13d:=Ztd.S (Ztd.l0 fu) l
def Zdd.S0 (self:D13a→Int→Int→Option Int) (x1:D13a) (x2 x3:Int):Option Int:=
 bif (ltI x3 (lenL x1)) then
 bif (inB x3 (lenL x1)) then
 self x1 (minI x2 (nth x1 x3 0)) (addI .i64 x3 1)
 else none
 else
 some x2
def Zdd.l0:Nat→D13a→Int→Int→Option Int
 | 0=>fun _ _ _=>none
 | n+1=>Zdd.S0 (Zdd.l0 n)
def Zdd.S (j0:D13a→Int→Int→Option Int) (l:D13a):Option Int:=
 bif (inB 0 (lenL l)) then
 j0 l (nth l 0 0) 1
 else none
def Zdd (l:D13a):Option Int:=Zdd.S (Zdd.l0 fu) l
def Zsb.S1 (x9:ByteArray) (x10:Int) (x11:D13a):Option D13g:=
 ((Zzc x11)).bind fun x12=>
 ((Zob x11 x12)).bind fun x13=>
 ((Zxc x10)).bind fun x14=>
 bif (roomS x9 x14) then
 bif (roomS (addS x9 x14) (ofBytes [(IntKind.wrap .u8 x12)])) then
 bif (roomS (addS (addS x9 x14) (ofBytes [(IntKind.wrap .u8 x12)])) x13.1) then
 some ((addS (addS (addS x9 x14) (ofBytes [(IntKind.wrap .u8 x12)])) x13.1),0)
 else none
 else none
 else none
def Zsb.t1:Nat→ByteArray→Int→D13a→Option D13g
 | 0=>fun _ _ _=>none
 | _+1=>Zsb.S1
def Zsb.S0 (o1_0:ByteArray→Int→D13a→Option D13g) (self:ByteArray→D13a→Int→D13a→Int→Option D13g) (x4:ByteArray) (x5:D13a) (x6:Int) (x7:D13a) (x8:Int):Option D13g:=
 bif (ltI x8 (lenL x5)) then
 bif (inB x8 (lenL x5)) then
 bif (roomB ((List.length x7)+1) 8) then
 self x4 x5 x6 (x7++[(subI .i64 (nth x5 x8 0) x6)]) (addI .i64 x8 1)
 else none
 else none
 else
 o1_0 x4 x6 x7
def Zsb.l0 (o1_0:ByteArray→Int→D13a→Option D13g):Nat→ByteArray→D13a→Int→D13a→Int→Option D13g
 | 0=>fun _ _ _ _ _=>none
 | n+1=>Zsb.S0 o1_0 (Zsb.l0 o1_0 n)
def Zsb.S (j0:ByteArray→D13a→Int→D13a→Int→Option D13g) (l:D13a):Option D13g:=
 bif (ltI 65536 (lenL l)) then
 some (eB,1)
 else
 bif (eqI (lenL l) 0) then
 some (eB,0)
 else
 bif (inB 0 (lenL l)) then
 ((Zxc (nth l 0 0))).bind fun x1=>
 bif (eqI (lenL l) 1) then
 some (x1,0)
 else
 ((Ztd l)).bind fun x2=>
 ((Zdd x2)).bind fun x3=>
 j0 x1 x2 x3 [] 0
 else none
def Zsb (l:D13a):Option D13g:=Zsb.S (Zsb.l0 (Zsb.t1 fu) fu) l
def Zl.S6 (o5_2:D13a→D13a→D13a→Int→Option D13n) (self:D13a→D13a→D13a→Int→Int→Option D13n) (x27 x28 x29:D13a) (x30 x31:Int):Option D13n:=
 bif (inB x31 (lenL x28)) then
 bif (inB x30 (lenL x27)) then
 bif (neI (nth x28 x31 0) (nth x27 x30 0)) then
 self x27 x28 x29 x30 (addI .i64 x31 1)
 else
 bif (roomB ((List.length x29)+1) 8) then
 o5_2 x27 x28 (x29++[x31]) (addI .i64 x30 1)
 else none
 else none
 else none
def Zl.l6 (o5_2:D13a→D13a→D13a→Int→Option D13n):Nat→D13a→D13a→D13a→Int→Int→Option D13n
 | 0=>fun _ _ _ _ _=>none
 | n+1=>Zl.S6 o5_2 (Zl.l6 o5_2 n)
def Zl.S5 (j6:D13a→D13a→D13a→Int→Int→Option D13n) (x23 x24 x25:D13a) (x26:Int):Option D13n:=
 bif (ltI x26 (lenL x23)) then
 j6 x23 x24 x25 x26 0
 else
 some (x24,x25)
def Zl.l5:Nat→D13a→D13a→D13a→Int→Option D13n
 | 0=>fun _ _ _ _=>none
 | n+1=>Zl.S5 (Zl.l6 (Zl.l5 n) n)
def Zl.S4 (j5:D13a→D13a→D13a→Int→Option D13n) (x20 x21 x22:D13a):Option D13n:=
 j5 x20 x21 x22 0
def Zl.t4:Nat→D13a→D13a→D13a→Option D13n
 | 0=>fun _ _ _=>none
 | n+1=>Zl.S4 (Zl.l5 n)
def Zl.S3 (o0_1:D13a→D13a→D13a→Int→Option D13n) (x15 x16 x17:D13a) (x18 x19:Int):Option D13n:=
 bif (inC 0 x19 (lenL x16)) then
 bif (roomB (0+(List.length (List.take (Int.toNat x19) x16))) 8) then
 bif (inB x18 (lenL x15)) then
 bif (roomB ((List.length (List.take (Int.toNat x19) x16))+1) 8) then
 bif (inC x19 (lenL x16) (lenL x16)) then
 bif (roomB ((List.length ((List.take (Int.toNat x19) x16)++[(nth x15 x18 0)]))+(List.length (List.drop (Int.toNat x19) x16))) 8) then
 o0_1 x15 (((List.take (Int.toNat x19) x16)++[(nth x15 x18 0)])++(List.drop (Int.toNat x19) x16)) x17 (addI .i64 x18 1)
 else none
 else none
 else none
 else none
 else none
 else none
def Zl.t3 (o0_1:D13a→D13a→D13a→Int→Option D13n):Nat→D13a→D13a→D13a→Int→Int→Option D13n
 | 0=>fun _ _ _ _ _=>none
 | _+1=>Zl.S3 o0_1
def Zl.S2 (o0_1:D13a→D13a→D13a→Int→Option D13n) (j3:D13a→D13a→D13a→Int→Int→Option D13n) (x10 x11 x12:D13a) (x13 x14:Int):Option D13n:=
 bif (ltI x14 (lenL x11)) then
 bif (inB x14 (lenL x11)) then
 bif (inB x13 (lenL x10)) then
 bif (eqI (nth x11 x14 0) (nth x10 x13 0)) then
 o0_1 x10 x11 x12 (addI .i64 x13 1)
 else
 j3 x10 x11 x12 x13 x14
 else none
 else none
 else
 j3 x10 x11 x12 x13 x14
def Zl.t2 (o0_1:D13a→D13a→D13a→Int→Option D13n):Nat→D13a→D13a→D13a→Int→Int→Option D13n
 | 0=>fun _ _ _ _ _=>none
 | n+1=>Zl.S2 o0_1 (Zl.t3 o0_1 n)
def Zl.S1 (o2_1 self:D13a→D13a→D13a→Int→Int→Option D13n) (x5 x6 x7:D13a) (x8 x9:Int):Option D13n:=
 bif (ltI x9 (lenL x6)) then
 bif (inB x9 (lenL x6)) then
 bif (inB x8 (lenL x5)) then
 bif (ltI (nth x6 x9 0) (nth x5 x8 0)) then
 self x5 x6 x7 x8 (addI .i64 x9 1)
 else
 o2_1 x5 x6 x7 x8 x9
 else none
 else none
 else
 o2_1 x5 x6 x7 x8 x9
def Zl.l1 (o2_1:D13a→D13a→D13a→Int→Int→Option D13n):Nat→D13a→D13a→D13a→Int→Int→Option D13n
 | 0=>fun _ _ _ _ _=>none
 | n+1=>Zl.S1 o2_1 (Zl.l1 o2_1 n)
def Zl.S0 (o4_0:D13a→D13a→D13a→Option D13n) (j1:D13a→D13a→D13a→Int→Int→Option D13n) (x1 x2 x3:D13a) (x4:Int):Option D13n:=
 bif (ltI x4 (lenL x1)) then
 j1 x1 x2 x3 x4 0
 else
 o4_0 x1 x2 x3
def Zl.l0 (o4_0:D13a→D13a→D13a→Option D13n):Nat→D13a→D13a→D13a→Int→Option D13n
 | 0=>fun _ _ _ _=>none
 | n+1=>Zl.S0 o4_0 (Zl.l1 (Zl.t2 (Zl.l0 o4_0 n) n) n)
def Zl.S (j0:D13a→D13a→D13a→Int→Option D13n) (l:D13a):Option D13n:=
 j0 l [] [] 0
def Zl (l:D13a):Option D13n:=Zl.S (Zl.l0 (Zl.t4 fu) fu) l
def Zdl (places:D13a):Option ByteArray:=
 ((Zzc places)).bind fun x1=>
 ((Zob places x1)).bind fun x2=>
 some x2.1
def Zwa.S1 (x8:D13a) (x9:ByteArray):Option D13g:=
 ((Zdl x8)).bind fun x10=>
 bif (roomS x9 x10) then
 some ((addS x9 x10),0)
 else none
def Zwa.t1:Nat→D13a→ByteArray→Option D13g
 | 0=>fun _ _=>none
 | _+1=>Zwa.S1
def Zwa.S0 (o1_0:D13a→ByteArray→Option D13g) (self:D13a→D13a→ByteArray→Int→Option D13g) (x3 x4:D13a) (x5:ByteArray) (x6:Int):Option D13g:=
 bif (ltI x6 (lenL x3)) then
 bif (inB x6 (lenL x3)) then
 ((Zxc (nth x3 x6 0))).bind fun x7=>
 bif (roomS x5 x7) then
 self x3 x4 (addS x5 x7) (addI .i64 x6 1)
 else none
 else none
 else
 o1_0 x4 x5
def Zwa.l0 (o1_0:D13a→ByteArray→Option D13g):Nat→D13a→D13a→ByteArray→Int→Option D13g
 | 0=>fun _ _ _ _=>none
 | n+1=>Zwa.S0 o1_0 (Zwa.l0 o1_0 n)
def Zwa.S (j0:D13a→D13a→ByteArray→Int→Option D13g) (l:D13a):Option D13g:=
 bif (ltI 65536 (lenL l)) then
 some (eB,1)
 else
 bif (eqI (lenL l) 0) then
 some (eB,0)
 else
 ((Zl l)).bind fun x1=>
 ((Zxc (lenL x1.1))).bind fun x2=>
 j0 x1.1 x1.2 x2 0
def Zwa (l:D13a):Option D13g:=Zwa.S (Zwa.l0 (Zwa.t1 fu) fu) l
def Zcn (l:D13a) (code:Int):Option (ByteArray×Bool):=
 bif (eqI code 1) then
 ((Zxa l)).bind fun x1=>
 some (x1,true)
 else
 bif (eqI code 2) then
 ((Zaf l)).bind fun x2=>
 ((Zxd x2)).bind fun x3=>
 some (x3.1,(eqI x3.2 0))
 else
 bif (eqI code 3) then
 ((Zsb l)).bind fun x4=>
 some (x4.1,(eqI x4.2 0))
 else
 bif (eqI code 4) then
 ((Zwa l)).bind fun x5=>
 some (x5.1,(eqI x5.2 0))
 else
 bif (eqI code 5) then
 ((Zzc l)).bind fun x6=>
 ((Zob l x6)).bind fun x7=>
 bif (roomS (ofBytes [(IntKind.wrap .u8 x6)]) x7.1) then
 some ((addS (ofBytes [(IntKind.wrap .u8 x6)]) x7.1),(eqI x7.2 0))
 else none
 else
 some (eB,false)
def Zud.S0 (self:D13u→D13e→Int→Option (D13e)) (x1:D13u) (x2:D13e) (x3:Int):Option (D13e):=
 bif (ltI x3 (lenL x1)) then
 bif (inB x3 (lenL x1)) then
 bif (roomB ((List.length x2)+1) 16) then
 self x1 (x2++[(nth x1 x3 (0,0,eB)).2.2]) (addI .i64 x3 1)
 else none
 else none
 else
 some x2
def Zud.l0:Nat→D13u→D13e→Int→Option (D13e)
 | 0=>fun _ _ _=>none
 | n+1=>Zud.S0 (Zud.l0 n)
def Zud.S (j0:D13u→D13e→Int→Option (D13e)) (l:D13u):Option (D13e):=
 j0 l [] 0
def Zud (l:D13u):Option (D13e):=Zud.S (Zud.l0 fu) l
def Zic.S0 (self:D13e→D13a→Int→Option D13g) (x1:D13e) (x2:D13a) (x3:Int):Option D13g:=
 bif (ltI x3 (lenL x1)) then
 bif (inB x3 (lenL x1)) then
 bif (ltI 32 (lenS (nth x1 x3 eB))) then
 some (eB,1)
 else
 bif (inB x3 (lenL x1)) then
 bif (roomB ((List.length x2)+1) 1) then
 bif (inB x3 (lenL x1)) then
 bif (roomB ((List.length (x2++[(IntKind.wrap .u8 (lenS (nth x1 x3 eB)))]))+(ByteArray.size (nth x1 x3 eB))) 1) then
 self x1 ((x2++[(IntKind.wrap .u8 (lenS (nth x1 x3 eB)))])++(Zk (nth x1 x3 eB))) (addI .i64 x3 1)
 else none
 else none
 else none
 else none
 else none
 else
 some ((ofBytes x2),0)
def Zic.l0:Nat→D13e→D13a→Int→Option D13g
 | 0=>fun _ _ _=>none
 | n+1=>Zic.S0 (Zic.l0 n)
def Zic.S (j0:D13e→D13a→Int→Option D13g) (l:D13e):Option D13g:=
 j0 l [] 0
def Zic (l:D13e):Option D13g:=Zic.S (Zic.l0 fu) l
def Zj.S6 (o5_2:D13e→D13e→D13a→Int→Option D13r) (self:D13e→D13e→D13a→Int→Int→Option D13r) (x27 x28:D13e) (x29:D13a) (x30 x31:Int):Option D13r:=
 bif (inB x31 (lenL x28)) then
 bif (inB x30 (lenL x27)) then
 bif (!(eqS (nth x28 x31 eB) (nth x27 x30 eB))) then
 self x27 x28 x29 x30 (addI .i64 x31 1)
 else
 bif (roomB ((List.length x29)+1) 8) then
 o5_2 x27 x28 (x29++[x31]) (addI .i64 x30 1)
 else none
 else none
 else none
def Zj.l6 (o5_2:D13e→D13e→D13a→Int→Option D13r):Nat→D13e→D13e→D13a→Int→Int→Option D13r
 | 0=>fun _ _ _ _ _=>none
 | n+1=>Zj.S6 o5_2 (Zj.l6 o5_2 n)
def Zj.S5 (j6:D13e→D13e→D13a→Int→Int→Option D13r) (x23 x24:D13e) (x25:D13a) (x26:Int):Option D13r:=
 bif (ltI x26 (lenL x23)) then
 j6 x23 x24 x25 x26 0
 else
 some (x24,x25)
def Zj.l5:Nat→D13e→D13e→D13a→Int→Option D13r
 | 0=>fun _ _ _ _=>none
 | n+1=>Zj.S5 (Zj.l6 (Zj.l5 n) n)
def Zj.S4 (j5:D13e→D13e→D13a→Int→Option D13r) (x20 x21:D13e) (x22:D13a):Option D13r:=
 j5 x20 x21 x22 0
def Zj.t4:Nat→D13e→D13e→D13a→Option D13r
 | 0=>fun _ _ _=>none
 | n+1=>Zj.S4 (Zj.l5 n)
def Zj.S3 (o0_1:D13e→D13e→D13a→Int→Option D13r) (x15 x16:D13e) (x17:D13a) (x18 x19:Int):Option D13r:=
 bif (inC 0 x19 (lenL x16)) then
 bif (roomB (0+(List.length (List.take (Int.toNat x19) x16))) 16) then
 bif (inB x18 (lenL x15)) then
 bif (roomB ((List.length (List.take (Int.toNat x19) x16))+1) 16) then
 bif (inC x19 (lenL x16) (lenL x16)) then
 bif (roomB ((List.length ((List.take (Int.toNat x19) x16)++[(nth x15 x18 eB)]))+(List.length (List.drop (Int.toNat x19) x16))) 16) then
 o0_1 x15 (((List.take (Int.toNat x19) x16)++[(nth x15 x18 eB)])++(List.drop (Int.toNat x19) x16)) x17 (addI .i64 x18 1)
 else none
 else none
 else none
 else none
 else none
 else none
def Zj.t3 (o0_1:D13e→D13e→D13a→Int→Option D13r):Nat→D13e→D13e→D13a→Int→Int→Option D13r
 | 0=>fun _ _ _ _ _=>none
 | _+1=>Zj.S3 o0_1
def Zj.S2 (o0_1:D13e→D13e→D13a→Int→Option D13r) (j3:D13e→D13e→D13a→Int→Int→Option D13r) (x10 x11:D13e) (x12:D13a) (x13 x14:Int):Option D13r:=
 bif (ltI x14 (lenL x11)) then
 bif (inB x14 (lenL x11)) then
 bif (inB x13 (lenL x10)) then
 bif (eqS (nth x11 x14 eB) (nth x10 x13 eB)) then
 o0_1 x10 x11 x12 (addI .i64 x13 1)
 else
 j3 x10 x11 x12 x13 x14
 else none
 else none
 else
 j3 x10 x11 x12 x13 x14
def Zj.t2 (o0_1:D13e→D13e→D13a→Int→Option D13r):Nat→D13e→D13e→D13a→Int→Int→Option D13r
 | 0=>fun _ _ _ _ _=>none
 | n+1=>Zj.S2 o0_1 (Zj.t3 o0_1 n)
def Zj.S1 (o2_1 self:D13e→D13e→D13a→Int→Int→Option D13r) (x5 x6:D13e) (x7:D13a) (x8 x9:Int):Option D13r:=
 bif (ltI x9 (lenL x6)) then
 bif (inB x9 (lenL x6)) then
 bif (inB x8 (lenL x5)) then
 bif (ltS (nth x6 x9 eB) (nth x5 x8 eB)) then
 self x5 x6 x7 x8 (addI .i64 x9 1)
 else
 o2_1 x5 x6 x7 x8 x9
 else none
 else none
 else
 o2_1 x5 x6 x7 x8 x9
def Zj.l1 (o2_1:D13e→D13e→D13a→Int→Int→Option D13r):Nat→D13e→D13e→D13a→Int→Int→Option D13r
 | 0=>fun _ _ _ _ _=>none
 | n+1=>Zj.S1 o2_1 (Zj.l1 o2_1 n)
def Zj.S0 (o4_0:D13e→D13e→D13a→Option D13r) (j1:D13e→D13e→D13a→Int→Int→Option D13r) (x1 x2:D13e) (x3:D13a) (x4:Int):Option D13r:=
 bif (ltI x4 (lenL x1)) then
 j1 x1 x2 x3 x4 0
 else
 o4_0 x1 x2 x3
def Zj.l0 (o4_0:D13e→D13e→D13a→Option D13r):Nat→D13e→D13e→D13a→Int→Option D13r
 | 0=>fun _ _ _ _=>none
 | n+1=>Zj.S0 o4_0 (Zj.l1 (Zj.t2 (Zj.l0 o4_0 n) n) n)
def Zj.S (j0:D13e→D13e→D13a→Int→Option D13r) (l:D13e):Option D13r:=
 j0 l [] [] 0
def Zj (l:D13e):Option D13r:=Zj.S (Zj.l0 (Zj.t4 fu) fu) l
def Zoj (l:D13e):Option D13g:=
 bif (ltI 65536 (lenL l)) then
 some (eB,1)
 else
 bif (eqI (lenL l) 0) then
 some (eB,0)
 else
 ((Zj l)).bind fun x1=>
 ((Zic x1.1)).bind fun x2=>
 bif (neI x2.2 0) then
 some (eB,x2.2)
 else
 ((Zxc (lenL x1.1))).bind fun x3=>
 bif (roomS x3 x2.1) then
 ((Zdl x1.2)).bind fun x4=>
 bif (roomS (addS x3 x2.1) x4) then
 some ((addS (addS x3 x2.1) x4),0)
 else none
 else none
def Zfp (l:D13e) (code:Int):Option (ByteArray×Bool):=
 bif (eqI code 1) then
 ((Zic l)).bind fun x1=>
 some (x1.1,(eqI x1.2 0))
 else
 bif (eqI code 2) then
 bif (ltI 0 (lenL l)) then
 ((Zj l)).bind fun x2=>
 ((Zic x2.1)).bind fun x3=>
 ((Zaf x2.2)).bind fun x4=>
 ((Zxd x4)).bind fun x5=>
 ((Zxc (lenL x2.1))).bind fun x6=>
 bif (roomS x6 x3.1) then
 bif (roomS (addS x6 x3.1) x5.1) then
 some ((addS (addS x6 x3.1) x5.1),true)
 else none
 else none
 else
 some (eB,true)
 else
 bif (eqI code 4) then
 ((Zoj l)).bind fun x7=>
 some (x7.1,(eqI x7.2 0))
 else
 some (eB,false)
def Zho (l:D13u) (kind code:Int):Option (ByteArray×Bool):=
 bif (eqI kind 1) then
 ((Zge l)).bind fun x1=>
 ((Zcn x1 code)).bind fun x2=>
 some x2
 else
 ((Zud l)).bind fun x3=>
 ((Zfp x3 code)).bind fun x4=>
 some x4
def Zlb.S1 (o0_1:ByteArray→Int→Int→Option Int) (self:ByteArray→Int→Int→Int→Option Int) (x4:ByteArray) (x5 x6 x7:Int):Option Int:=
 bif (ltI x7 8) then
 bif (inB x6 (lenS x4)) then
 bif (leI 0 x7) then
 bif (neI (andI .i64 x5 1) (andI .i64 (shrI .i64 (IntKind.wrap .i64 (byteAt x4 x6)) x7) 1)) then
 self x4 (xorI .i64 (shrI .i64 x5 1) 2197175160) x6 (addI .i64 x7 1)
 else
 self x4 (shrI .i64 x5 1) x6 (addI .i64 x7 1)
 else none
 else none
 else
 o0_1 x4 x5 (addI .i64 x6 1)
def Zlb.l1 (o0_1:ByteArray→Int→Int→Option Int):Nat→ByteArray→Int→Int→Int→Option Int
 | 0=>fun _ _ _ _=>none
 | n+1=>Zlb.S1 o0_1 (Zlb.l1 o0_1 n)
def Zlb.S0 (j1:ByteArray→Int→Int→Int→Option Int) (x1:ByteArray) (x2 x3:Int):Option Int:=
 bif (ltI x3 (lenS x1)) then
 j1 x1 x2 x3 0
 else
 some (xorI .i64 x2 4294967295)
def Zlb.l0:Nat→ByteArray→Int→Int→Option Int
 | 0=>fun _ _ _=>none
 | n+1=>Zlb.S0 (Zlb.l1 (Zlb.l0 n) n)
def Zlb.S (j0:ByteArray→Int→Int→Option Int) (sum:Int) (s:ByteArray):Option Int:=
 j0 s (xorI .i64 (andI .i64 sum 4294967295) 4294967295) 0
def Zlb (sum:Int) (s:ByteArray):Option Int:=Zlb.S (Zlb.l0 fu) sum s
def Zvs (s:ByteArray):Option Int:=
 ((Zlb 0 s)).bind fun x1=>
 some x1
def Zul (s:ByteArray):Option ByteArray:=
 ((Zvs s)).bind fun x1=>
 bif (roomS s (ofBytes [(IntKind.wrap .u8 (andI .i64 x1 255)),(IntKind.wrap .u8 (andI .i64 (shrI .i64 x1 8) 255)),(IntKind.wrap .u8 (andI .i64 (shrI .i64 x1 16) 255)),(IntKind.wrap .u8 (andI .i64 (shrI .i64 x1 24) 255))])) then
 some (addS s (ofBytes [(IntKind.wrap .u8 (andI .i64 x1 255)),(IntKind.wrap .u8 (andI .i64 (shrI .i64 x1 8) 255)),(IntKind.wrap .u8 (andI .i64 (shrI .i64 x1 16) 255)),(IntKind.wrap .u8 (andI .i64 (shrI .i64 x1 24) 255))]))
 else none
def Zyg (l:D13u) (kind code:Int):Option D13g:=
 ((Zpc l kind)).bind fun x1=>
 bif (!x1) then
 some (eB,1)
 else
 ((Zpb l)).bind fun x2=>
 ((Zho x2.2 kind code)).bind fun x3=>
 bif (!x3.2) then
 some (eB,1)
 else
 bif (roomS (ofBytes [(IntKind.wrap .u8 kind),(IntKind.wrap .u8 code),(IntKind.wrap .u8 (lenL l)),(IntKind.wrap .u8 (lenS x2.1))]) x2.1) then
 bif (roomS (addS (ofBytes [(IntKind.wrap .u8 kind),(IntKind.wrap .u8 code),(IntKind.wrap .u8 (lenL l)),(IntKind.wrap .u8 (lenS x2.1))]) x2.1) x3.1) then
 ((Zul (addS (addS (ofBytes [(IntKind.wrap .u8 kind),(IntKind.wrap .u8 code),(IntKind.wrap .u8 (lenL l)),(IntKind.wrap .u8 (lenS x2.1))]) x2.1) x3.1))).bind fun x4=>
 some (x4,0)
 else none
 else none
def Zvl (s:ByteArray):Option D13g:=
 bif (ltI (lenS s) 4) then
 some (eB,5)
 else
 bif (inC 0 (subI .i64 (lenS s) 4) (lenS s)) then
 ((Zul (cutS s 0 (subI .i64 (lenS s) 4)))).bind fun x1=>
 bif (!(eqS x1 s)) then
 some (eB,5)
 else
 bif (inC 0 (subI .i64 (lenS s) 4) (lenS s)) then
 some ((cutS s 0 (subI .i64 (lenS s) 4)),0)
 else none
 else none
def Zqg (s:ByteArray):Option (D13p×ByteArray×ByteArray×Bool):=
 ((Zvl s)).bind fun x1=>
 bif (neI x1.2 0) then
 some ((0,0,0,0),eB,eB,false)
 else
 bif (ltI (lenS x1.1) 4) then
 some ((0,0,0,0),eB,eB,false)
 else
 bif (inB 3 (lenS x1.1)) then
 bif (ltI (subI .i64 (lenS x1.1) 4) (IntKind.wrap .i64 (byteAt x1.1 3))) then
 some ((0,0,0,0),eB,eB,false)
 else
 bif (inB 3 (lenS x1.1)) then
 bif (inB 0 (lenS x1.1)) then
 bif (inB 1 (lenS x1.1)) then
 bif (inB 2 (lenS x1.1)) then
 bif (inC 4 (addI .i64 4 (IntKind.wrap .i64 (byteAt x1.1 3))) (lenS x1.1)) then
 bif (inC (addI .i64 4 (IntKind.wrap .i64 (byteAt x1.1 3))) (lenS x1.1) (lenS x1.1)) then
 some (((IntKind.wrap .i64 (byteAt x1.1 0)),(IntKind.wrap .i64 (byteAt x1.1 1)),(IntKind.wrap .i64 (byteAt x1.1 2)),0),(cutS x1.1 4 (addI .i64 4 (IntKind.wrap .i64 (byteAt x1.1 3)))),(cutS x1.1 (addI .i64 4 (IntKind.wrap .i64 (byteAt x1.1 3))) (lenS x1.1)),true)
 else none
 else none
 else none
 else none
 else none
 else none
 else none
def Zhe.S0 (self:ByteArray→Int→Int→Int→Int→Option Int) (x1:ByteArray) (x2 x3:Int) (x4 x5:Int):Option Int:=
 bif (ltI x5 x3) then
 bif (inB (quoI .i64 (addI .i64 (mulI .i64 x2 x3) x5) 8) (lenS x1)) then
 bif (leI 0 (remI (addI .i64 (mulI .i64 x2 x3) x5) 8)) then
 bif (eqI (andI .i64 (shrI .i64 (IntKind.wrap .i64 (byteAt x1 (quoI .i64 (addI .i64 (mulI .i64 x2 x3) x5) 8))) (remI (addI .i64 (mulI .i64 x2 x3) x5) 8)) 1) 1) then
 bif (leI 0 x5) then
 self x1 x2 x3 (orI .i64 x4 (shlI .i64 1 x5)) (addI .i64 x5 1)
 else none
 else
 self x1 x2 x3 x4 (addI .i64 x5 1)
 else none
 else none
 else
 some x4
def Zhe.l0:Nat→ByteArray→Int→Int→Int→Int→Option Int
 | 0=>fun _ _ _ _ _=>none
 | n+1=>Zhe.S0 (Zhe.l0 n)
def Zhe.S (j0:ByteArray→Int→Int→Int→Int→Option Int) (s:ByteArray) (xk width:Int):Option Int:=
 j0 s xk width 0 0
def Zhe (s:ByteArray) (xk width:Int):Option Int:=Zhe.S (Zhe.l0 fu) s xk width
def Zeb.S1 (x8:ByteArray) (x9:Int) (x10:D13a):Option D13h:=
 ((Zob x10 x9)).bind fun x11=>
 bif (!(eqS x11.1 x8)) then
 some ([],20)
 else
 some (x10,0)
def Zeb.t1:Nat→ByteArray→Int→D13a→Option D13h
 | 0=>fun _ _ _=>none
 | _+1=>Zeb.S1
def Zeb.S0 (o1_0:ByteArray→Int→D13a→Option D13h) (self:ByteArray→Int→Int→D13a→Int→Option D13h) (x2:ByteArray) (x3 x4:Int) (x5:D13a) (x6:Int):Option D13h:=
 bif (ltI x6 x3) then
 ((Zhe x2 x6 x4)).bind fun x7=>
 bif (roomB ((List.length x5)+1) 8) then
 self x2 x3 x4 (x5++[x7]) (addI .i64 x6 1)
 else none
 else
 o1_0 x2 x4 x5
def Zeb.l0 (o1_0:ByteArray→Int→D13a→Option D13h):Nat→ByteArray→Int→Int→D13a→Int→Option D13h
 | 0=>fun _ _ _ _ _=>none
 | n+1=>Zeb.S0 o1_0 (Zeb.l0 o1_0 n)
def Zeb.S (j0:ByteArray→Int→Int→D13a→Int→Option D13h) (s:ByteArray) (xn width:Int):Option D13h:=
 bif (ltI width 0) then
 some ([],1)
 else
 bif (ltI 64 width) then
 some ([],1)
 else
 bif (ltI xn 0) then
 some ([],1)
 else
 bif (ltI 65536 xn) then
 some ([],1)
 else
 bif (neI (lenS s) (Zlg xn width)) then
 some ([],20)
 else
 j0 s xn width [] 0
def Zeb (s:ByteArray) (xn width:Int):Option D13h:=Zeb.S (Zeb.l0 (Zeb.t1 fu) fu) s xn width
def Zfb.S1 (x6:D13a) (x7:Int) (x8:Bool):Option (D13a×Bool):=
 bif (eqI x7 0) then
 some (x6,x8)
 else
 some (x6,false)
def Zfb.t1:Nat→D13a→Int→Bool→Option (D13a×Bool)
 | 0=>fun _ _ _=>none
 | _+1=>Zfb.S1
def Zfb.S0 (o1_0:D13a→Int→Bool→Option (D13a×Bool)) (self:D13a→Int→Bool→Int→Option (D13a×Bool)) (x2:D13a) (x3:Int) (x4:Bool) (x5:Int):Option (D13a×Bool):=
 bif (ltI x5 (lenL x2)) then
 bif x4 then
 self x2 x3 true (addI .i64 x5 1)
 else
 bif (inB x5 (lenL x2)) then
 self x2 x3 (eqI (nth x2 x5 0) 1) (addI .i64 x5 1)
 else none
 else
 o1_0 x2 x3 x4
def Zfb.l0 (o1_0:D13a→Int→Bool→Option (D13a×Bool)):Nat→D13a→Int→Bool→Int→Option (D13a×Bool)
 | 0=>fun _ _ _ _=>none
 | n+1=>Zfb.S0 o1_0 (Zfb.l0 o1_0 n)
def Zfb.S (j0:D13a→Int→Bool→Int→Option (D13a×Bool)) (s:ByteArray) (xn:Int):Option (D13a×Bool):=
 bif (eqS s eB) then
 bif ((leI 0 xn) && (roomB (Int.toNat xn) 8)) then
 some ((List.replicate (Int.toNat xn) (0:Int)),true)
 else none
 else
 ((Zeb s xn 1)).bind fun x1=>
 j0 x1.1 x1.2 false 0
def Zfb (s:ByteArray) (xn:Int):Option (D13a×Bool):=Zfb.S (Zfb.l0 (Zfb.t1 fu) fu) s xn
def Zmc.S0 (self:D13a→Int→Int→Option D13b) (x2:D13a) (x3 x4:Int):Option D13b:=
 bif (ltI x4 (lenL x2)) then
 bif (inB x4 (lenL x2)) then
 self x2 (addI .i64 x3 (nth x2 x4 0)) (addI .i64 x4 1)
 else none
 else
 some (x3,0)
def Zmc.l0:Nat→D13a→Int→Int→Option D13b
 | 0=>fun _ _ _=>none
 | n+1=>Zmc.S0 (Zmc.l0 n)
def Zmc.S (j0:D13a→Int→Int→Option D13b) (s:ByteArray) (xn:Int):Option D13b:=
 bif (ltI xn 0) then
 some (0,1)
 else
 bif (ltI 65536 xn) then
 some (0,1)
 else
 ((Zfb s xn)).bind fun x1=>
 bif (!x1.2) then
 some (0,20)
 else
 j0 x1.1 0 0
def Zmc (s:ByteArray) (xn:Int):Option D13b:=Zmc.S (Zmc.l0 fu) s xn
def Zra.S1 (o0_1:ByteArray→Int→D13a→Int→Option D13h) (self:ByteArray→Int→D13a→Int→Int→Int→Option D13h) (x5:ByteArray) (x6:Int) (x7:D13a) (x8 x9 x10:Int):Option D13h:=
 bif (leI 0 x10) then
 bif (inB (addI .i64 (mulI .i64 8 x8) x10) (lenS x5)) then
 self x5 x6 x7 x8 (orI .i64 (shlI .i64 x9 8) (IntKind.wrap .i64 (byteAt x5 (addI .i64 (mulI .i64 8 x8) x10)))) (subI .i64 x10 1)
 else none
 else
 bif (roomB ((List.length x7)+1) 8) then
 o0_1 x5 x6 (x7++[x9]) (addI .i64 x8 1)
 else none
def Zra.l1 (o0_1:ByteArray→Int→D13a→Int→Option D13h):Nat→ByteArray→Int→D13a→Int→Int→Int→Option D13h
 | 0=>fun _ _ _ _ _ _=>none
 | n+1=>Zra.S1 o0_1 (Zra.l1 o0_1 n)
def Zra.S0 (j1:ByteArray→Int→D13a→Int→Int→Int→Option D13h) (x1:ByteArray) (x2:Int) (x3:D13a) (x4:Int):Option D13h:=
 bif (ltI x4 x2) then
 j1 x1 x2 x3 x4 0 7
 else
 some (x3,0)
def Zra.l0:Nat→ByteArray→Int→D13a→Int→Option D13h
 | 0=>fun _ _ _ _=>none
 | n+1=>Zra.S0 (Zra.l1 (Zra.l0 n) n)
def Zra.S (j0:ByteArray→Int→D13a→Int→Option D13h) (s:ByteArray) (xn:Int):Option D13h:=
 bif (ltI xn 0) then
 some ([],20)
 else
 bif (ltI (lenS s) xn) then
 some ([],20)
 else
 bif (neI (lenS s) (mulI .i64 8 xn)) then
 some ([],20)
 else
 j0 s xn [] 0
def Zra (s:ByteArray) (xn:Int):Option D13h:=Zra.S (Zra.l0 fu) s xn
def Zmb.S1 (x8:Int) (x9:D13o) (x10:Int):Option D13v:=
 bif (neI x10 x8) then
 some ([],20)
 else
 ((Ztc x9)).bind fun x11=>
 bif (!x11) then
 some ([],20)
 else
 some (x9,0)
def Zmb.t1:Nat→Int→D13o→Int→Option D13v
 | 0=>fun _ _ _=>none
 | _+1=>Zmb.S1
def Zmb.S0 (o1_0:Int→D13o→Int→Option D13v) (self:ByteArray→Int→D13o→Int→Int→Option D13v) (x1:ByteArray) (x2:Int) (x3:D13o) (x4 x5:Int):Option D13v:=
 bif (ltI x4 (lenS x1)) then
 bif (inC x4 (lenS x1) (lenS x1)) then
 ((Zcb (cutS x1 x4 (lenS x1)))).bind fun x6=>
 bif (neI x6.2.2 0) then
 some ([],20)
 else
 bif (inC (addI .i64 x4 x6.2.1) (lenS x1) (lenS x1)) then
 ((Zcb (cutS x1 (addI .i64 x4 x6.2.1) (lenS x1)))).bind fun x7=>
 bif (neI x7.2.2 0) then
 some ([],20)
 else
 bif (ltI x7.1 1) then
 some ([],20)
 else
 bif (ltI (subI .i64 x2 x5) x7.1) then
 some ([],20)
 else
 bif (roomB ((List.length x3)+1) 24) then
 self x1 x2 (x3++[(x6.1,x5,x7.1)]) (addI .i64 (addI .i64 x4 x6.2.1) x7.2.1) (addI .i64 x5 x7.1)
 else none
 else none
 else none
 else
 o1_0 x2 x3 x5
def Zmb.l0 (o1_0:Int→D13o→Int→Option D13v):Nat→ByteArray→Int→D13o→Int→Int→Option D13v
 | 0=>fun _ _ _ _ _=>none
 | n+1=>Zmb.S0 o1_0 (Zmb.l0 o1_0 n)
def Zmb.S (j0:ByteArray→Int→D13o→Int→Int→Option D13v) (s:ByteArray) (xn:Int):Option D13v:=
 bif (ltI xn 0) then
 some ([],1)
 else
 bif (ltI 65536 xn) then
 some ([],1)
 else
 j0 s xn [] 0 0
def Zmb (s:ByteArray) (xn:Int):Option D13v:=Zmb.S (Zmb.l0 (Zmb.t1 fu) fu) s xn
def Zgb.S1 (o0_1:D13o→D13a→Int→Option D13h) (self:D13o→D13a→Int→Int→Option D13h) (x5:D13o) (x6:D13a) (x7 x8:Int):Option D13h:=
 bif (inB x7 (lenL x5)) then
 bif (ltI x8 (nth x5 x7 (0,0,0)).2.2) then
 bif (inB x7 (lenL x5)) then
 bif (roomB ((List.length x6)+1) 8) then
 self x5 (x6++[(nth x5 x7 (0,0,0)).1]) x7 (addI .i64 x8 1)
 else none
 else none
 else
 o0_1 x5 x6 (addI .i64 x7 1)
 else none
def Zgb.l1 (o0_1:D13o→D13a→Int→Option D13h):Nat→D13o→D13a→Int→Int→Option D13h
 | 0=>fun _ _ _ _=>none
 | n+1=>Zgb.S1 o0_1 (Zgb.l1 o0_1 n)
def Zgb.S0 (j1:D13o→D13a→Int→Int→Option D13h) (x2:D13o) (x3:D13a) (x4:Int):Option D13h:=
 bif (ltI x4 (lenL x2)) then
 j1 x2 x3 x4 0
 else
 some (x3,0)
def Zgb.l0:Nat→D13o→D13a→Int→Option D13h
 | 0=>fun _ _ _=>none
 | n+1=>Zgb.S0 (Zgb.l1 (Zgb.l0 n) n)
def Zgb.S (j0:D13o→D13a→Int→Option D13h) (l:D13o):Option D13h:=
 ((Ztc l)).bind fun x1=>
 bif (!x1) then
 some ([],1)
 else
 j0 l [] 0
def Zgb (l:D13o):Option D13h:=Zgb.S (Zgb.l0 fu) l
def Zhb.S1 (x10:ByteArray) (x11:D13a):Option D13h:=
 ((Zsb x11)).bind fun x12=>
 bif (!(eqS x12.1 x10)) then
 some ([],20)
 else
 some (x11,0)
def Zhb.t1:Nat→ByteArray→D13a→Option D13h
 | 0=>fun _ _=>none
 | _+1=>Zhb.S1
def Zhb.S0 (o1_0:ByteArray→D13a→Option D13h) (self:ByteArray→Int→D13a→Int→D13a→Int→Option D13h) (x4:ByteArray) (x5:Int) (x6:D13a) (x7:Int) (x8:D13a) (x9:Int):Option D13h:=
 bif (ltI x9 (lenL x8)) then
 bif (inB x9 (lenL x8)) then
 bif (roomB ((List.length x6)+1) 8) then
 self x4 (addI .i64 (addI .i64 x5 x7) (nth x8 x9 0)) (x6++[(addI .i64 (addI .i64 x5 x7) (nth x8 x9 0))]) x7 x8 (addI .i64 x9 1)
 else none
 else none
 else
 o1_0 x4 x6
def Zhb.l0 (o1_0:ByteArray→D13a→Option D13h):Nat→ByteArray→Int→D13a→Int→D13a→Int→Option D13h
 | 0=>fun _ _ _ _ _ _=>none
 | n+1=>Zhb.S0 o1_0 (Zhb.l0 o1_0 n)
def Zhb.S (j0:ByteArray→Int→D13a→Int→D13a→Int→Option D13h) (j1:ByteArray→D13a→Option D13h) (s:ByteArray) (xn:Int):Option D13h:=
 bif (ltI xn 0) then
 some ([],1)
 else
 bif (ltI 65536 xn) then
 some ([],1)
 else
 bif (eqI xn 0) then
 bif (!(eqS s eB)) then
 some ([],20)
 else
 some ([],0)
 else
 ((Zcb s)).bind fun x1=>
 bif (neI x1.2.2 0) then
 some ([],20)
 else
 bif (ltI 1 xn) then
 bif (inC x1.2.1 (lenS s) (lenS s)) then
 ((Zcb (cutS s x1.2.1 (lenS s)))).bind fun x2=>
 bif (neI x2.2.2 0) then
 some ([],20)
 else
 bif (leI (lenS s) (addI .i64 x1.2.1 x2.2.1)) then
 some ([],20)
 else
 bif (inC (addI .i64 (addI .i64 x1.2.1 x2.2.1) 1) (lenS s) (lenS s)) then
 bif (inB (addI .i64 x1.2.1 x2.2.1) (lenS s)) then
 ((Zeb (cutS s (addI .i64 (addI .i64 x1.2.1 x2.2.1) 1) (lenS s)) (subI .i64 xn 1) (IntKind.wrap .i64 (byteAt s (addI .i64 x1.2.1 x2.2.1))))).bind fun x3=>
 bif (neI x3.2 0) then
 some ([],20)
 else
 j0 s x1.1 [x1.1] x2.1 x3.1 0
 else none
 else none
 else none
 else
 j1 s [x1.1]
def Zhb (s:ByteArray) (xn:Int):Option D13h:=Zhb.S (Zhb.l0 (Zhb.t1 fu) fu) (Zhb.t1 fu) s xn
def Zxj (s:ByteArray) (xn:Int):Option (Int×Int×Bool):=
 ((Zcb s)).bind fun x1=>
 bif (eqI x1.2.2 0) then
 bif (leI 1 x1.1) then
 some (x1.1,x1.2.1,(leI x1.1 xn))
 else
 some (x1.1,x1.2.1,false)
 else
 some (x1.1,x1.2.1,false)
def Zom (d:Int):Option Int:=
 ((Zzc [(subI .i64 d 1)])).bind fun x1=>
 some x1
def Zh.S4 (x23:ByteArray) (x24:D13a):Option D13h:=
 ((Zwa x24)).bind fun x25=>
 bif (!(eqS x25.1 x23)) then
 some ([],20)
 else
 some (x24,0)
def Zh.t4:Nat→ByteArray→D13a→Option D13h
 | 0=>fun _ _=>none
 | _+1=>Zh.S4
def Zh.S3 (o4_2:ByteArray→D13a→Option D13h) (self:ByteArray→D13a→D13a→D13a→Int→Option D13h) (x18:ByteArray) (x19 x20 x21:D13a) (x22:Int):Option D13h:=
 bif (ltI x22 (lenL x20)) then
 bif (inB x22 (lenL x20)) then
 bif (ltI (nth x20 x22 0) 0) then
 some ([],20)
 else
 bif (inB x22 (lenL x20)) then
 bif (leI (lenL x19) (nth x20 x22 0)) then
 some ([],20)
 else
 bif (inB x22 (lenL x20)) then
 bif (inB (nth x20 x22 0) (lenL x19)) then
 bif (roomB ((List.length x21)+1) 8) then
 self x18 x19 x20 (x21++[(nth x19 (nth x20 x22 0) 0)]) (addI .i64 x22 1)
 else none
 else none
 else none
 else none
 else none
 else
 o4_2 x18 x21
def Zh.l3 (o4_2:ByteArray→D13a→Option D13h):Nat→ByteArray→D13a→D13a→D13a→Int→Option D13h
 | 0=>fun _ _ _ _ _=>none
 | n+1=>Zh.S3 o4_2 (Zh.l3 o4_2 n)
def Zh.S2 (j3:ByteArray→D13a→D13a→D13a→Int→Option D13h) (x11:ByteArray) (x12 x13 x14:Int) (x15:D13a):Option D13h:=
 bif (inC x14 (lenS x11) (lenS x11)) then
 ((Zom x13)).bind fun x16=>
 ((Zeb (cutS x11 x14 (lenS x11)) x12 x16)).bind fun x17=>
 bif (neI x17.2 0) then
 some ([],20)
 else
 j3 x11 x15 x17.1 [] 0
 else none
def Zh.t2:Nat→ByteArray→Int→Int→Int→D13a→Option D13h
 | 0=>fun _ _ _ _ _=>none
 | n+1=>Zh.S2 (Zh.l3 (Zh.t4 n) n)
def Zh.S1 (o2_1:ByteArray→Int→Int→Int→D13a→Option D13h) (self:ByteArray→Int→Int→Int→D13a→Int→Option D13h) (x4:ByteArray) (x5 x6 x7:Int) (x8:D13a) (x9:Int):Option D13h:=
 bif (ltI x9 x6) then
 bif (inC x7 (lenS x4) (lenS x4)) then
 ((Zcb (cutS x4 x7 (lenS x4)))).bind fun x10=>
 bif (neI x10.2.2 0) then
 some ([],20)
 else
 bif (roomB ((List.length x8)+1) 8) then
 self x4 x5 x6 (addI .i64 x7 x10.2.1) (x8++[x10.1]) (addI .i64 x9 1)
 else none
 else none
 else
 o2_1 x4 x5 x6 x7 x8
def Zh.l1 (o2_1:ByteArray→Int→Int→Int→D13a→Option D13h):Nat→ByteArray→Int→Int→Int→D13a→Int→Option D13h
 | 0=>fun _ _ _ _ _ _=>none
 | n+1=>Zh.S1 o2_1 (Zh.l1 o2_1 n)
def Zh.S0 (j1:ByteArray→Int→Int→Int→D13a→Int→Option D13h) (x1:ByteArray) (x2:Int):Option D13h:=
 ((Zxj x1 x2)).bind fun x3=>
 bif (!x3.2.2) then
 some ([],20)
 else
 j1 x1 x2 x3.1 x3.2.1 [] 0
def Zh.t0:Nat→ByteArray→Int→Option D13h
 | 0=>fun _ _=>none
 | n+1=>Zh.S0 (Zh.l1 (Zh.t2 n) n)
def Zh.S (j0:ByteArray→Int→Option D13h) (s:ByteArray) (xn:Int):Option D13h:=
 bif (ltI xn 0) then
 some ([],1)
 else
 bif (ltI 65536 xn) then
 some ([],1)
 else
 bif (eqI xn 0) then
 bif (eqS s eB) then
 some ([],0)
 else
 j0 s xn
 else
 j0 s xn
def Zh (s:ByteArray) (xn:Int):Option D13h:=Zh.S (Zh.t0 fu) s xn
def Zig (s:ByteArray) (xn code:Int):Option (D13a×Bool):=
 bif (eqI code 1) then
 ((Zra s xn)).bind fun x1=>
 some (x1.1,(eqI x1.2 0))
 else
 bif (eqI code 2) then
 ((Zmb s xn)).bind fun x2=>
 bif (neI x2.2 0) then
 some ([],false)
 else
 ((Zgb x2.1)).bind fun x3=>
 some (x3.1,(eqI x3.2 0))
 else
 bif (eqI code 3) then
 ((Zhb s xn)).bind fun x4=>
 some (x4.1,(eqI x4.2 0))
 else
 bif (eqI code 4) then
 ((Zh s xn)).bind fun x5=>
 some (x5.1,(eqI x5.2 0))
 else
 bif (eqI code 5) then
 bif (eqS s eB) then
 some ([],false)
 else
 bif (inC 1 (lenS s) (lenS s)) then
 bif (inB 0 (lenS s)) then
 ((Zeb (cutS s 1 (lenS s)) xn (IntKind.wrap .i64 (byteAt s 0)))).bind fun x6=>
 some (x6.1,(eqI x6.2 0))
 else none
 else none
 else
 some ([],false)
def Zba.S2 (self:D13u→D13a→D13u→Int→Int→Option D13x) (x10:D13u) (x11:D13a) (x12:D13u) (x13 x14:Int):Option D13x:=
 bif (ltI x14 (lenL x11)) then
 bif (inB x14 (lenL x11)) then
 bif (eqI (nth x11 x14 0) 0) then
 bif (ltI x13 (lenL x10)) then
 bif (inB x13 (lenL x10)) then
 bif (roomB ((List.length x12)+1) 32) then
 self x10 x11 (x12++[(nth x10 x13 (0,0,eB))]) (addI .i64 x13 1) (addI .i64 x14 1)
 else none
 else none
 else
 bif (roomB ((List.length x12)+1) 32) then
 self x10 x11 (x12++[(0,0,eB)]) x13 (addI .i64 x14 1)
 else none
 else
 bif (roomB ((List.length x12)+1) 32) then
 self x10 x11 (x12++[(0,0,eB)]) x13 (addI .i64 x14 1)
 else none
 else none
 else
 some (x12,0)
def Zba.l2:Nat→D13u→D13a→D13u→Int→Int→Option D13x
 | 0=>fun _ _ _ _ _=>none
 | n+1=>Zba.S2 (Zba.l2 n)
def Zba.S1 (j2:D13u→D13a→D13u→Int→Int→Option D13x) (x6:ByteArray) (x7:Int) (x8:D13u):Option D13x:=
 ((Zfb x6 x7)).bind fun x9=>
 j2 x8 x9.1 [] 0 0
def Zba.t1:Nat→ByteArray→Int→D13u→Option D13x
 | 0=>fun _ _ _=>none
 | n+1=>Zba.S1 (Zba.l2 n)
def Zba.S0 (o1_0:ByteArray→Int→D13u→Option D13x) (self:ByteArray→Int→D13u→Int→Option D13x) (x2:ByteArray) (x3:Int) (x4:D13u) (x5:Int):Option D13x:=
 bif (ltI x5 (lenL x4)) then
 bif (inB x5 (lenL x4)) then
 bif (eqI (nth x4 x5 (0,0,eB)).1 0) then
 some ([],20)
 else
 self x2 x3 x4 (addI .i64 x5 1)
 else none
 else
 o1_0 x2 x3 x4
def Zba.l0 (o1_0:ByteArray→Int→D13u→Option D13x):Nat→ByteArray→Int→D13u→Int→Option D13x
 | 0=>fun _ _ _ _=>none
 | n+1=>Zba.S0 o1_0 (Zba.l0 o1_0 n)
def Zba.S (j0:ByteArray→Int→D13u→Int→Option D13x) (s:ByteArray) (xn:Int) (l:D13u):Option D13x:=
 ((Zmc s xn)).bind fun x1=>
 bif (neI x1.2 0) then
 some ([],x1.2)
 else
 bif (neI (lenL l) (subI .i64 xn x1.1)) then
 some ([],20)
 else
 j0 s xn l 0
def Zba (s:ByteArray) (xn:Int) (l:D13u):Option D13x:=Zba.S (Zba.l0 (Zba.t1 fu) fu) s xn l
def Zka.S1 (x6:ByteArray) (x7:D13e) (x8:Int):Option D13l:=
 bif (neI x8 (lenS x6)) then
 some ([],20)
 else
 some (x7,0)
def Zka.t1:Nat→ByteArray→D13e→Int→Option D13l
 | 0=>fun _ _ _=>none
 | _+1=>Zka.S1
def Zka.S0 (o1_0:ByteArray→D13e→Int→Option D13l) (self:ByteArray→Int→D13e→Int→Int→Option D13l) (x1:ByteArray) (x2:Int) (x3:D13e) (x4 x5:Int):Option D13l:=
 bif (ltI x5 x2) then
 bif (leI (lenS x1) x4) then
 some ([],20)
 else
 bif (inB x4 (lenS x1)) then
 bif (ltI 32 (byteAt x1 x4)) then
 some ([],20)
 else
 bif (inB x4 (lenS x1)) then
 bif (ltI (subI .i64 (subI .i64 (lenS x1) x4) 1) (IntKind.wrap .i64 (byteAt x1 x4))) then
 some ([],20)
 else
 bif (inB x4 (lenS x1)) then
 bif (inC (addI .i64 x4 1) (addI .i64 (addI .i64 x4 1) (IntKind.wrap .i64 (byteAt x1 x4))) (lenS x1)) then
 bif (roomB ((List.length x3)+1) 16) then
 self x1 x2 (x3++[(cutS x1 (addI .i64 x4 1) (addI .i64 (addI .i64 x4 1) (IntKind.wrap .i64 (byteAt x1 x4))))]) (addI .i64 (addI .i64 x4 1) (IntKind.wrap .i64 (byteAt x1 x4))) (addI .i64 x5 1)
 else none
 else none
 else none
 else none
 else none
 else
 o1_0 x1 x3 x4
def Zka.l0 (o1_0:ByteArray→D13e→Int→Option D13l):Nat→ByteArray→Int→D13e→Int→Int→Option D13l
 | 0=>fun _ _ _ _ _=>none
 | n+1=>Zka.S0 o1_0 (Zka.l0 o1_0 n)
def Zka.S (j0:ByteArray→Int→D13e→Int→Int→Option D13l) (s:ByteArray) (xn:Int):Option D13l:=
 bif (ltI xn 0) then
 some ([],20)
 else
 bif (ltI (lenS s) xn) then
 some ([],20)
 else
 j0 s xn [] 0 0
def Zka (s:ByteArray) (xn:Int):Option D13l:=Zka.S (Zka.l0 (Zka.t1 fu) fu) s xn
def Zrb.S0 (self:ByteArray→Int→D13e→Int→Int→Option D13t) (x1:ByteArray) (x2:Int) (x3:D13e) (x4 x5:Int):Option D13t:=
 bif (ltI x5 x2) then
 bif (leI (lenS x1) x4) then
 some ([],0,false)
 else
 bif (inB x4 (lenS x1)) then
 bif (ltI 32 (byteAt x1 x4)) then
 some ([],0,false)
 else
 bif (inB x4 (lenS x1)) then
 bif (ltI (subI .i64 (subI .i64 (lenS x1) x4) 1) (IntKind.wrap .i64 (byteAt x1 x4))) then
 some ([],0,false)
 else
 bif (inB x4 (lenS x1)) then
 bif (inC (addI .i64 x4 1) (addI .i64 (addI .i64 x4 1) (IntKind.wrap .i64 (byteAt x1 x4))) (lenS x1)) then
 bif (roomB ((List.length x3)+1) 16) then
 self x1 x2 (x3++[(cutS x1 (addI .i64 x4 1) (addI .i64 (addI .i64 x4 1) (IntKind.wrap .i64 (byteAt x1 x4))))]) (addI .i64 (addI .i64 x4 1) (IntKind.wrap .i64 (byteAt x1 x4))) (addI .i64 x5 1)
 else none
 else none
 else none
 else none
 else none
 else
 some (x3,x4,true)
def Zrb.l0:Nat→ByteArray→Int→D13e→Int→Int→Option D13t
 | 0=>fun _ _ _ _ _=>none
 | n+1=>Zrb.S0 (Zrb.l0 n)
def Zrb.S (j0:ByteArray→Int→D13e→Int→Int→Option D13t) (s:ByteArray) (xn:Int):Option D13t:=
 j0 s xn [] 0 0
def Zrb (s:ByteArray) (xn:Int):Option D13t:=Zrb.S (Zrb.l0 fu) s xn
def Zdb.S0 (self:D13e→D13a→D13e→Int→Option (D13e×Bool)) (x5:D13e) (x6:D13a) (x7:D13e) (x8:Int):Option (D13e×Bool):=
 bif (ltI x8 (lenL x6)) then
 bif (inB x8 (lenL x6)) then
 bif (ltI (nth x6 x8 0) 0) then
 some ([],false)
 else
 bif (inB x8 (lenL x6)) then
 bif (leI (lenL x5) (nth x6 x8 0)) then
 some ([],false)
 else
 bif (inB x8 (lenL x6)) then
 bif (inB (nth x6 x8 0) (lenL x5)) then
 bif (roomB ((List.length x7)+1) 16) then
 self x5 x6 (x7++[(nth x5 (nth x6 x8 0) eB)]) (addI .i64 x8 1)
 else none
 else none
 else none
 else none
 else none
 else
 some (x7,true)
def Zdb.l0:Nat→D13e→D13a→D13e→Int→Option (D13e×Bool)
 | 0=>fun _ _ _ _=>none
 | n+1=>Zdb.S0 (Zdb.l0 n)
def Zdb.S (j0:D13e→D13a→D13e→Int→Option (D13e×Bool)) (s:ByteArray) (xn:Int):Option (D13e×Bool):=
 bif (eqI xn 0) then
 some ([],(eqS s eB))
 else
 ((Zcb s)).bind fun x1=>
 bif (neI x1.2.2 0) then
 some ([],false)
 else
 bif (ltI x1.1 1) then
 some ([],false)
 else
 bif (ltI xn x1.1) then
 some ([],false)
 else
 bif (inC x1.2.1 (lenS s) (lenS s)) then
 ((Zrb (cutS s x1.2.1 (lenS s)) x1.1)).bind fun x2=>
 bif (!x2.2.2) then
 some ([],false)
 else
 bif (inC (addI .i64 x1.2.1 x2.2.1) (lenS s) (lenS s)) then
 ((Zmb (cutS s (addI .i64 x1.2.1 x2.2.1) (lenS s)) xn)).bind fun x3=>
 bif (neI x3.2 0) then
 some ([],false)
 else
 ((Zgb x3.1)).bind fun x4=>
 j0 x2.1 x4.1 [] 0
 else none
 else none
def Zdb (s:ByteArray) (xn:Int):Option (D13e×Bool):=Zdb.S (Zdb.l0 fu) s xn
def Zke.S0 (self:ByteArray→Int→D13e→Int→Int→Option D13t) (x1:ByteArray) (x2:Int) (x3:D13e) (x4 x5:Int):Option D13t:=
 bif (ltI x5 x2) then
 bif (leI (lenS x1) x4) then
 some ([],0,false)
 else
 bif (inB x4 (lenS x1)) then
 bif (ltI 32 (byteAt x1 x4)) then
 some ([],0,false)
 else
 bif (inB x4 (lenS x1)) then
 bif (ltI (subI .i64 (subI .i64 (lenS x1) x4) 1) (IntKind.wrap .i64 (byteAt x1 x4))) then
 some ([],0,false)
 else
 bif (inB x4 (lenS x1)) then
 bif (inC (addI .i64 x4 1) (addI .i64 (addI .i64 x4 1) (IntKind.wrap .i64 (byteAt x1 x4))) (lenS x1)) then
 bif (roomB ((List.length x3)+1) 16) then
 self x1 x2 (x3++[(cutS x1 (addI .i64 x4 1) (addI .i64 (addI .i64 x4 1) (IntKind.wrap .i64 (byteAt x1 x4))))]) (addI .i64 (addI .i64 x4 1) (IntKind.wrap .i64 (byteAt x1 x4))) (addI .i64 x5 1)
 else none
 else none
 else none
 else none
 else none
 else
 some (x3,x4,true)
def Zke.l0:Nat→ByteArray→Int→D13e→Int→Int→Option D13t
 | 0=>fun _ _ _ _ _=>none
 | n+1=>Zke.S0 (Zke.l0 n)
def Zke.S (j0:ByteArray→Int→D13e→Int→Int→Option D13t) (s:ByteArray) (xn:Int):Option D13t:=
 j0 s xn [] 0 0
def Zke (s:ByteArray) (xn:Int):Option D13t:=Zke.S (Zke.l0 fu) s xn
def Zq.S2 (x12:ByteArray) (x13:D13e):Option D13l:=
 ((Zoj x13)).bind fun x14=>
 bif (!(eqS x14.1 x12)) then
 some ([],20)
 else
 some (x13,0)
def Zq.t2:Nat→ByteArray→D13e→Option D13l
 | 0=>fun _ _=>none
 | _+1=>Zq.S2
def Zq.S1 (o2_1:ByteArray→D13e→Option D13l) (self:ByteArray→D13e→D13a→D13e→Int→Option D13l) (x7:ByteArray) (x8:D13e) (x9:D13a) (x10:D13e) (x11:Int):Option D13l:=
 bif (ltI x11 (lenL x9)) then
 bif (inB x11 (lenL x9)) then
 bif (ltI (nth x9 x11 0) 0) then
 some ([],20)
 else
 bif (inB x11 (lenL x9)) then
 bif (leI (lenL x8) (nth x9 x11 0)) then
 some ([],20)
 else
 bif (inB x11 (lenL x9)) then
 bif (inB (nth x9 x11 0) (lenL x8)) then
 bif (roomB ((List.length x10)+1) 16) then
 self x7 x8 x9 (x10++[(nth x8 (nth x9 x11 0) eB)]) (addI .i64 x11 1)
 else none
 else none
 else none
 else none
 else none
 else
 o2_1 x7 x10
def Zq.l1 (o2_1:ByteArray→D13e→Option D13l):Nat→ByteArray→D13e→D13a→D13e→Int→Option D13l
 | 0=>fun _ _ _ _ _=>none
 | n+1=>Zq.S1 o2_1 (Zq.l1 o2_1 n)
def Zq.S0 (j1:ByteArray→D13e→D13a→D13e→Int→Option D13l) (x1:ByteArray) (x2:Int):Option D13l:=
 ((Zxj x1 x2)).bind fun x3=>
 bif (!x3.2.2) then
 some ([],20)
 else
 bif (inC x3.2.1 (lenS x1) (lenS x1)) then
 ((Zke (cutS x1 x3.2.1 (lenS x1)) x3.1)).bind fun x4=>
 bif (!x4.2.2) then
 some ([],20)
 else
 bif (inC (addI .i64 x3.2.1 x4.2.1) (lenS x1) (lenS x1)) then
 ((Zom x3.1)).bind fun x5=>
 ((Zeb (cutS x1 (addI .i64 x3.2.1 x4.2.1) (lenS x1)) x2 x5)).bind fun x6=>
 bif (neI x6.2 0) then
 some ([],20)
 else
 j1 x1 x4.1 x6.1 [] 0
 else none
 else none
def Zq.t0:Nat→ByteArray→Int→Option D13l
 | 0=>fun _ _=>none
 | n+1=>Zq.S0 (Zq.l1 (Zq.t2 n) n)
def Zq.S (j0:ByteArray→Int→Option D13l) (s:ByteArray) (xn:Int):Option D13l:=
 bif (ltI xn 0) then
 some ([],1)
 else
 bif (ltI 65536 xn) then
 some ([],1)
 else
 bif (eqI xn 0) then
 bif (eqS s eB) then
 some ([],0)
 else
 j0 s xn
 else
 j0 s xn
def Zq (s:ByteArray) (xn:Int):Option D13l:=Zq.S (Zq.t0 fu) s xn
def Zui (s:ByteArray) (xn code:Int):Option (D13e×Bool):=
 bif (eqI code 1) then
 ((Zka s xn)).bind fun x1=>
 some (x1.1,(eqI x1.2 0))
 else
 bif (eqI code 2) then
 ((Zdb s xn)).bind fun x2=>
 some x2
 else
 bif (eqI code 4) then
 ((Zq s xn)).bind fun x3=>
 some (x3.1,(eqI x3.2 0))
 else
 some ([],false)
def Zda.S1 (x11 x12:ByteArray) (x13:Bool) (x14:D13u) (x15:D13p):Option D13x:=
 bif (!x13) then
 some ([],5)
 else
 ((Zba x12 x15.2.2.1 x14)).bind fun x16=>
 ((Zyg x16.1 x15.1 x15.2.1)).bind fun x17=>
 bif (neI x17.2 0) then
 some ([],5)
 else
 bif (!(eqS x17.1 x11)) then
 some ([],5)
 else
 some (x16.1,0)
def Zda.t1:Nat→ByteArray→ByteArray→Bool→D13u→D13p→Option D13x
 | 0=>fun _ _ _ _ _=>none
 | _+1=>Zda.S1
def Zda.S0 (o1_0:ByteArray→ByteArray→Bool→D13u→D13p→Option D13x) (self:ByteArray→ByteArray→Bool→D13u→D13a→Int→D13p→Option D13x) (x4 x5:ByteArray) (x6:Bool) (x7:D13u) (x8:D13a) (x9:Int) (x10:D13p):Option D13x:=
 bif (ltI x9 (lenL x8)) then
 bif (inB x9 (lenL x8)) then
 bif (roomB ((List.length x7)+1) 32) then
 self x4 x5 x6 (x7++[(1,(nth x8 x9 0),eB)]) x8 (addI .i64 x9 1) x10
 else none
 else none
 else
 o1_0 x4 x5 x6 x7 x10
def Zda.l0 (o1_0:ByteArray→ByteArray→Bool→D13u→D13p→Option D13x):Nat→ByteArray→ByteArray→Bool→D13u→D13a→Int→D13p→Option D13x
 | 0=>fun _ _ _ _ _ _ _=>none
 | n+1=>Zda.S0 o1_0 (Zda.l0 o1_0 n)
def Zda.S2 (o1_0:ByteArray→ByteArray→Bool→D13u→D13p→Option D13x) (self:ByteArray→ByteArray→Bool→D13u→D13e→Int→D13p→Option D13x) (x19 x20:ByteArray) (x21:Bool) (x22:D13u) (x23:D13e) (x24:Int) (x25:D13p):Option D13x:=
 bif (ltI x24 (lenL x23)) then
 bif (inB x24 (lenL x23)) then
 bif (roomB ((List.length x22)+1) 32) then
 self x19 x20 x21 (x22++[(2,0,(nth x23 x24 eB))]) x23 (addI .i64 x24 1) x25
 else none
 else none
 else
 o1_0 x19 x20 x21 x22 x25
def Zda.l2 (o1_0:ByteArray→ByteArray→Bool→D13u→D13p→Option D13x):Nat→ByteArray→ByteArray→Bool→D13u→D13e→Int→D13p→Option D13x
 | 0=>fun _ _ _ _ _ _ _=>none
 | n+1=>Zda.S2 o1_0 (Zda.l2 o1_0 n)
def Zda.S (j0:ByteArray→ByteArray→Bool→D13u→D13a→Int→D13p→Option D13x) (j2:ByteArray→ByteArray→Bool→D13u→D13e→Int→D13p→Option D13x) (s:ByteArray):Option D13x:=
 ((Zqg s)).bind fun x1=>
 bif (!x1.2.2.2) then
 some ([],5)
 else
 ((Zmc x1.2.1 x1.1.2.2.1)).bind fun x2=>
 bif (neI x2.2 0) then
 some ([],5)
 else
 bif (ltI 64 x1.1.2.2.1) then
 some ([],5)
 else
 bif (eqI x1.1.1 1) then
 ((Zig x1.2.2.1 (subI .i64 x1.1.2.2.1 x2.1) x1.1.2.1)).bind fun x3=>
 j0 s x1.2.1 x3.2 [] x3.1 0 x1.1
 else
 ((Zui x1.2.2.1 (subI .i64 x1.1.2.2.1 x2.1) x1.1.2.1)).bind fun x18=>
 j2 s x1.2.1 x18.2 [] x18.1 0 x1.1
def Zda (s:ByteArray):Option D13x:=Zda.S (Zda.l0 (Zda.t1 fu) fu) (Zda.l2 (Zda.t1 fu) fu) s
def Zwl (s:ByteArray):Option (D13p×Int):=
 ((Zda s)).bind fun x1=>
 bif (neI x1.2 0) then
 some ((0,0,0,0),x1.2)
 else
 ((Zqg s)).bind fun x2=>
 ((Zmc x2.2.1 x2.1.2.2.1)).bind fun x3=>
 some ((x2.1.1,x2.1.2.1,x2.1.2.2.1,x3.1),0)
def Zxl (s:ByteArray):Option (ByteArray×ByteArray×Int):=
 ((Zmh s)).bind fun x1=>
 bif (!x1.2) then
 some (eB,eB,5)
 else
 some (x1.1.2.2.1,x1.1.2.1,0)
def Zyl (s:ByteArray):Option (ByteArray×ByteArray×Int):=
 ((Zda s)).bind fun x1=>
 bif (neI x1.2 0) then
 some (eB,eB,x1.2)
 else
 ((Zqg s)).bind fun x2=>
 some (x2.2.2.1,x2.2.1,0)
def Zkn (s:ByteArray):Option Bool:=
 bif (ltI 1024 (lenS s)) then
 (Zep).bind fun x1=>
 some x1
 else
 ((Zvj s)).bind fun x2=>
 ((Zda s)).bind fun x3=>
 ((Zwj s)).bind fun x4=>
 ((Zwl s)).bind fun x5=>
 ((Zxl s)).bind fun x6=>
 ((Zyl s)).bind fun x7=>
 ((Zhd x2.1 x3.1)).bind fun x8=>
 bif x8 then
 bif (eqI x2.2 x3.2) then
 bif ((eqI x4.1.1 x5.1.1) && ((eqI x4.1.2.1 x5.1.2.1) && ((eqI x4.1.2.2.1 x5.1.2.2.1) && (eqI x4.1.2.2.2 x5.1.2.2.2)))) then
 bif (eqI x4.2 x5.2) then
 bif (eqS x6.1 x7.1) then
 bif (eqS x6.2.1 x7.2.1) then
 bif (eqI x6.2.2 x7.2.2) then
 (Zep).bind fun x9=>
 some x9
 else
 some false
 else
 some false
 else
 some false
 else
 some false
 else
 some false
 else
 some false
 else
 some false
end Go.AM.Pure
