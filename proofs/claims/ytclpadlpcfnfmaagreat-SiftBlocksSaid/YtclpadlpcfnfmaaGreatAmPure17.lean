import Derived.Test.YtclpadlpcfnfmaaGreatAmWords
/- PRINTED by gen/ of this repo: the functions of the seat as pure functions. -/
namespace Go.AM.Pure
open Go.AM
def cmp_isNaN_int (x:Int):Bool:=
 (By x x)
def Ow (x:Int) (y:Int):Int:=
 bif (cmp_isNaN_int x) then
 bif (cmp_isNaN_int y) then
 0
 else
 (-1)
 else
 bif (cmp_isNaN_int y) then
 1
 else
 bif (AS x y) then
 (-1)
 else
 bif (AS y x) then
 1
 else
 0
def Ow.o (x:Int) (y:Int):Option (Int):=
 bif (cmp_isNaN_int x) then
 bif (cmp_isNaN_int y) then
 some 0
 else
 some (-1)
 else
 bif (cmp_isNaN_int y) then
 some 1
 else
 bif (AS x y) then
 some (-1)
 else
 bif (AS y x) then
 some 1
 else
 some 0
def Hv.S0 (self:Int→(List Int)→Int→Int→Option (Int)) (iv:Int) (bV:(List Int)) (Zhg:Int) (WU:Int):Option (Int):=
 bif (AS WU Zhg) then
 bif (AX WU (AP bV)) then
 bif (By (nth bV WU 0) iv) then
 some (nth bV WU 0)
 else
 self iv bV Zhg (AQ .i64 WU 1)
 else none
 else
 some iv
def Hv.l0:Nat→Int→(List Int)→Int→Int→Option (Int)
 | 0=>fun _ _ _ _=>none
 | n+1=>Hv.S0 (Hv.l0 n)
def Hv.S (j0:Int→(List Int)→Int→Int→Option (Int)) (Ez:(List Int)):Option (Int):=
 j0 0 Ez (AP Ez) 0
def Hv (Ez:(List Int)):Option (Int):=Hv.S (Hv.l0 fu) Ez
def Yb (a:(Int×(Int×ByteArray))) (b:(Int×(Int×ByteArray))):Option (Int):=
 ((Hv [(Ow a.1 b.1),(Ow a.2.1 b.2.1),(GZ a.2.2 b.2.2)])).bind fun Sj=>
 some Sj
def EJ (c:(Int×(Int×ByteArray))):Int:=
 bif (AR c.1 0) then
 bif (!((AR c.1 c.1) && ((AR c.2.1 0) && (Cn c.2.2 eB)))) then
 1
 else
 bif (AS 32 (Bh c.2.2)) then
 1
 else
 0
 else
 bif (AR c.1 1) then
 bif (!((AR c.1 c.1) && ((AR c.2.1 c.2.1) && (Cn c.2.2 eB)))) then
 1
 else
 bif (AS 32 (Bh c.2.2)) then
 1
 else
 0
 else
 bif (AR c.1 2) then
 bif (!((AR c.1 c.1) && ((AR c.2.1 0) && (Cn c.2.2 c.2.2)))) then
 1
 else
 bif (AS 32 (Bh c.2.2)) then
 1
 else
 0
 else
 1
def EJ.o (c:(Int×(Int×ByteArray))):Option (Int):=
 bif (AR c.1 0) then
 bif (!((AR c.1 c.1) && ((AR c.2.1 0) && (Cn c.2.2 eB)))) then
 some 1
 else
 bif (AS 32 (Bh c.2.2)) then
 some 1
 else
 some 0
 else
 bif (AR c.1 1) then
 bif (!((AR c.1 c.1) && ((AR c.2.1 c.2.1) && (Cn c.2.2 eB)))) then
 some 1
 else
 bif (AS 32 (Bh c.2.2)) then
 some 1
 else
 some 0
 else
 bif (AR c.1 2) then
 bif (!((AR c.1 c.1) && ((AR c.2.1 0) && (Cn c.2.2 c.2.2)))) then
 some 1
 else
 bif (AS 32 (Bh c.2.2)) then
 some 1
 else
 some 0
 else
 some 1
def MT (t:(Int×(Int×(Int×ByteArray)))):Int:=
 bif (AR t.1 7) then
 bif (AR t.1 7) then
 bif (!((AR t.2.1 0) && ((AR t.2.2.1 0) && (Cn t.2.2.2 eB)))) then
 1
 else
 0
 else
 bif (AR t.1 1) then
 bif (AR t.1 1) then
 bif (By t.2.1 0) then
 bif (!(AR (EJ t.2) 0)) then
 1
 else
 0
 else
 1
 else
 1
 else
 bif (AR t.1 2) then
 bif (AR t.1 2) then
 bif (By t.2.1 0) then
 bif (!(AR (EJ t.2) 0)) then
 1
 else
 0
 else
 1
 else
 1
 else
 bif (AR t.1 3) then
 bif (AR t.1 3) then
 bif (By t.2.1 0) then
 bif (!(AR (EJ t.2) 0)) then
 1
 else
 0
 else
 1
 else
 1
 else
 bif (AR t.1 4) then
 bif (AR t.1 4) then
 bif (By t.2.1 0) then
 bif (!(AR (EJ t.2) 0)) then
 1
 else
 0
 else
 1
 else
 1
 else
 bif (AR t.1 5) then
 bif (AR t.1 5) then
 bif (By t.2.1 0) then
 bif (!(AR (EJ t.2) 0)) then
 1
 else
 0
 else
 1
 else
 1
 else
 bif (AR t.1 6) then
 bif (By t.2.1 0) then
 bif (!(AR (EJ t.2) 0)) then
 1
 else
 0
 else
 1
 else
 1
 else
 bif (AR t.1 8) then
 bif (!((AR t.2.1 0) && ((AR t.2.2.1 0) && (Cn t.2.2.2 eB)))) then
 1
 else
 0
 else
 bif (AR t.1 1) then
 bif (AR t.1 1) then
 bif (By t.2.1 0) then
 bif (!(AR (EJ t.2) 0)) then
 1
 else
 0
 else
 1
 else
 1
 else
 bif (AR t.1 2) then
 bif (AR t.1 2) then
 bif (By t.2.1 0) then
 bif (!(AR (EJ t.2) 0)) then
 1
 else
 0
 else
 1
 else
 1
 else
 bif (AR t.1 3) then
 bif (AR t.1 3) then
 bif (By t.2.1 0) then
 bif (!(AR (EJ t.2) 0)) then
 1
 else
 0
 else
 1
 else
 1
 else
 bif (AR t.1 4) then
 bif (AR t.1 4) then
 bif (By t.2.1 0) then
 bif (!(AR (EJ t.2) 0)) then
 1
 else
 0
 else
 1
 else
 1
 else
 bif (AR t.1 5) then
 bif (AR t.1 5) then
 bif (By t.2.1 0) then
 bif (!(AR (EJ t.2) 0)) then
 1
 else
 0
 else
 1
 else
 1
 else
 bif (AR t.1 6) then
 bif (By t.2.1 0) then
 bif (!(AR (EJ t.2) 0)) then
 1
 else
 0
 else
 1
 else
 1
def MT.o (t:(Int×(Int×(Int×ByteArray)))):Option (Int):=
 bif (AR t.1 7) then
 bif (AR t.1 7) then
 bif (!((AR t.2.1 0) && ((AR t.2.2.1 0) && (Cn t.2.2.2 eB)))) then
 some 1
 else
 some 0
 else
 bif (AR t.1 1) then
 bif (AR t.1 1) then
 bif (By t.2.1 0) then
 bif (!(AR (EJ t.2) 0)) then
 some 1
 else
 some 0
 else
 some 1
 else
 some 1
 else
 bif (AR t.1 2) then
 bif (AR t.1 2) then
 bif (By t.2.1 0) then
 bif (!(AR (EJ t.2) 0)) then
 some 1
 else
 some 0
 else
 some 1
 else
 some 1
 else
 bif (AR t.1 3) then
 bif (AR t.1 3) then
 bif (By t.2.1 0) then
 bif (!(AR (EJ t.2) 0)) then
 some 1
 else
 some 0
 else
 some 1
 else
 some 1
 else
 bif (AR t.1 4) then
 bif (AR t.1 4) then
 bif (By t.2.1 0) then
 bif (!(AR (EJ t.2) 0)) then
 some 1
 else
 some 0
 else
 some 1
 else
 some 1
 else
 bif (AR t.1 5) then
 bif (AR t.1 5) then
 bif (By t.2.1 0) then
 bif (!(AR (EJ t.2) 0)) then
 some 1
 else
 some 0
 else
 some 1
 else
 some 1
 else
 bif (AR t.1 6) then
 bif (By t.2.1 0) then
 bif (!(AR (EJ t.2) 0)) then
 some 1
 else
 some 0
 else
 some 1
 else
 some 1
 else
 bif (AR t.1 8) then
 bif (!((AR t.2.1 0) && ((AR t.2.2.1 0) && (Cn t.2.2.2 eB)))) then
 some 1
 else
 some 0
 else
 bif (AR t.1 1) then
 bif (AR t.1 1) then
 bif (By t.2.1 0) then
 bif (!(AR (EJ t.2) 0)) then
 some 1
 else
 some 0
 else
 some 1
 else
 some 1
 else
 bif (AR t.1 2) then
 bif (AR t.1 2) then
 bif (By t.2.1 0) then
 bif (!(AR (EJ t.2) 0)) then
 some 1
 else
 some 0
 else
 some 1
 else
 some 1
 else
 bif (AR t.1 3) then
 bif (AR t.1 3) then
 bif (By t.2.1 0) then
 bif (!(AR (EJ t.2) 0)) then
 some 1
 else
 some 0
 else
 some 1
 else
 some 1
 else
 bif (AR t.1 4) then
 bif (AR t.1 4) then
 bif (By t.2.1 0) then
 bif (!(AR (EJ t.2) 0)) then
 some 1
 else
 some 0
 else
 some 1
 else
 some 1
 else
 bif (AR t.1 5) then
 bif (AR t.1 5) then
 bif (By t.2.1 0) then
 bif (!(AR (EJ t.2) 0)) then
 some 1
 else
 some 0
 else
 some 1
 else
 some 1
 else
 bif (AR t.1 6) then
 bif (By t.2.1 0) then
 bif (!(AR (EJ t.2) 0)) then
 some 1
 else
 some 0
 else
 some 1
 else
 some 1
def Yi (t:(Int×(Int×(Int×ByteArray)))) (c:(Int×(Int×ByteArray))):Option (Bool):=
 ((Yb c t.2)).bind fun G0=>
 bif (AR t.1 1) then
 some (AR G0 0)
 else
 bif (AR t.1 2) then
 some (By G0 0)
 else
 bif (AR t.1 6) then
 bif (AR G0 0) then
 some true
 else
 some (AS 0 G0)
 else
 bif (AR t.1 5) then
 some (AS 0 G0)
 else
 bif (AR t.1 4) then
 bif (AR G0 0) then
 some true
 else
 some (AS G0 0)
 else
 bif (AR t.1 3) then
 some (AS G0 0)
 else
 some true
def Rh (t:(Int×(Int×(Int×ByteArray)))) (c:(Int×(Int×ByteArray))):Option (Bool):=
 bif (By (MT t) 0) then
 some false
 else
 bif (AR t.1 7) then
 some (AR c.1 0)
 else
 bif (By c.1 0) then
 ((Yi t c)).bind fun Ij=>
 some Ij
 else
 some false
def XV (xk:Int) (t1:Int) (t2:(Int×(Int×(Int×ByteArray)))) (t3:(List Int)):Option (Bool):=
 bif (AX xk (AP t3)) then
 ((Rh (t1,t2.2) (1,(nth t3 xk 0),eB))).bind fun G0=>
 some G0
 else none
def I9.S0 (self:Int→(Int×(Int×(Int×ByteArray)))→(List Int)→Int→Int→Option (Int)) (mL:Int) (mM:(Int×(Int×(Int×ByteArray)))) (mN:(List Int)) (Ul:Int) (Xn:Int):Option (Int):=
 bif (AS Ul Xn) then
 ((XV (IntKind.wrap .i64 (BH .u64 (IntKind.wrap .u64 (AQ .i64 Ul Xn)) 1)) mL mM mN)).bind fun No=>
 bif (!No) then
 self mL mM mN (AQ .i64 (IntKind.wrap .i64 (BH .u64 (IntKind.wrap .u64 (AQ .i64 Ul Xn)) 1)) 1) Xn
 else
 self mL mM mN Ul (IntKind.wrap .i64 (BH .u64 (IntKind.wrap .u64 (AQ .i64 Ul Xn)) 1))
 else
 some Ul
def I9.l0:Nat→Int→(Int×(Int×(Int×ByteArray)))→(List Int)→Int→Int→Option (Int)
 | 0=>fun _ _ _ _ _=>none
 | n+1=>I9.S0 (I9.l0 n)
def I9.S (j0:Int→(Int×(Int×(Int×ByteArray)))→(List Int)→Int→Int→Option (Int)) (xn:Int) (f0:Int) (f1:(Int×(Int×(Int×ByteArray)))) (f2:(List Int)):Option (Int):=
 j0 f0 f1 f2 0 xn
def I9 (xn:Int) (f0:Int) (f1:(Int×(Int×(Int×ByteArray)))) (f2:(List Int)):Option (Int):=I9.S (I9.l0 fu) xn f0 f1 f2
def MP (op:Int) (t1:(List Int)) (t2:(Int×(Int×(Int×ByteArray)))):Option (Int):=
 ((I9 (AP t1) op t2 t1)).bind fun G0=>
 some G0
def Ja.S0 (yA:Int) (Zig:Int):Option (Int×Int):=
 bif (Bq Zig yA) then
 some (0,0)
 else
 some (yA,Zig)
def Ja.t0:Nat→Int→Int→Option (Int×Int)
 | 0=>fun _ _=>none
 | _+1=>Ja.S0
def Ja.S (j0:Int→Int→Option (Int×Int)) (t:(Int×(Int×(Int×ByteArray)))) (l:(List Int)):Option (Int×Int):=
 bif (By (MT t) 0) then
 some (0,0)
 else
 bif (AR t.1 2) then
 some (0,0)
 else
 bif (AR t.1 7) then
 some (0,0)
 else
 bif (AR t.1 1) then
 ((MP 6 l t)).bind fun Ij=>
 ((MP 5 l t)).bind fun r_3=>
 j0 Ij r_3
 else
 bif (AR t.1 3) then
 ((MP 6 l t)).bind fun No=>
 j0 0 No
 else
 bif (AR t.1 4) then
 ((MP 5 l t)).bind fun Xk=>
 j0 0 Xk
 else
 bif (AR t.1 5) then
 bif (AR t.1 5) then
 ((MP t.1 l t)).bind fun Xl=>
 j0 Xl (AP l)
 else
 j0 0 (AP l)
 else
 bif (AR t.1 6) then
 ((MP t.1 l t)).bind fun Xm=>
 j0 Xm (AP l)
 else
 j0 0 (AP l)
def Ja (t:(Int×(Int×(Int×ByteArray)))) (l:(List Int)):Option (Int×Int):=Ja.S (Ja.t0 fu) t l
def GD (c:(Int×(Int×ByteArray))):Bool:=
 bif (AR c.1 0) then
 bif (AR c.2.1 0) then
 (Cn c.2.2 eB)
 else
 false
 else
 bif (AR c.1 1) then
 (Cn c.2.2 eB)
 else
 bif (AR c.1 2) then
 bif (AR c.2.1 0) then
 (Bq (Bh c.2.2) 32)
 else
 false
 else
 false
def GD.o (c:(Int×(Int×ByteArray))):Option (Bool):=
 bif (AR c.1 0) then
 bif (AR c.2.1 0) then
 some (Cn c.2.2 eB)
 else
 some false
 else
 bif (AR c.1 1) then
 some (Cn c.2.2 eB)
 else
 bif (AR c.1 2) then
 bif (AR c.2.1 0) then
 some (Bq (Bh c.2.2) 32)
 else
 some false
 else
 some false
def Nz (t:(Int×(Int×(Int×ByteArray)))):Bool:=
 bif (AR t.1 7) then
 ((AR t.2.1 0) && ((AR t.2.2.1 0) && (Cn t.2.2.2 eB)))
 else
 bif (AR t.1 8) then
 ((AR t.2.1 0) && ((AR t.2.2.1 0) && (Cn t.2.2.2 eB)))
 else
 bif (Bq 1 t.1) then
 bif (Bq t.1 6) then
 bif (GD t.2) then
 (By t.2.1 0)
 else
 false
 else
 false
 else
 false
def Nz.o (t:(Int×(Int×(Int×ByteArray)))):Option (Bool):=
 bif (AR t.1 7) then
 some ((AR t.2.1 0) && ((AR t.2.2.1 0) && (Cn t.2.2.2 eB)))
 else
 bif (AR t.1 8) then
 some ((AR t.2.1 0) && ((AR t.2.2.1 0) && (Cn t.2.2.2 eB)))
 else
 bif (Bq 1 t.1) then
 bif (Bq t.1 6) then
 bif (GD t.2) then
 some (By t.2.1 0)
 else
 some false
 else
 some false
 else
 some false
def Oy (a:(Int×(Int×ByteArray))) (b:(Int×(Int×ByteArray))):Int:=
 bif ((AR a.1 b.1) && ((AR a.2.1 b.2.1) && (Cn a.2.2 b.2.2))) then
 0
 else
 bif (AS a.1 b.1) then
 (-1)
 else
 bif (AR a.1 b.1) then
 bif (AS a.2.1 b.2.1) then
 (-1)
 else
 bif (AR a.2.1 b.2.1) then
 bif (IY a.2.2 b.2.2) then
 (-1)
 else
 1
 else
 1
 else
 1
def Oy.o (a:(Int×(Int×ByteArray))) (b:(Int×(Int×ByteArray))):Option (Int):=
 bif ((AR a.1 b.1) && ((AR a.2.1 b.2.1) && (Cn a.2.2 b.2.2))) then
 some 0
 else
 bif (AS a.1 b.1) then
 some (-1)
 else
 bif (AR a.1 b.1) then
 bif (AS a.2.1 b.2.1) then
 some (-1)
 else
 bif (AR a.2.1 b.2.1) then
 bif (IY a.2.2 b.2.2) then
 some (-1)
 else
 some 1
 else
 some 1
 else
 some 1
def MQ (t:(Int×(Int×(Int×ByteArray)))) (c:(Int×(Int×ByteArray))):Bool:=
 bif (!(Nz t)) then
 false
 else
 bif (AR t.1 7) then
 bif (AR t.1 7) then
 (AR c.1 0)
 else
 false
 else
 bif (AR c.1 0) then
 bif (AR t.1 7) then
 (AR c.1 0)
 else
 false
 else
 let Ij:=(Oy c t.2)
 bif (AR t.1 1) then
 (AR Ij 0)
 else
 bif (AR t.1 2) then
 (By Ij 0)
 else
 bif (AR t.1 3) then
 (AS Ij 0)
 else
 bif (AR t.1 4) then
 (Bq Ij 0)
 else
 bif (AR t.1 5) then
 (AS 0 Ij)
 else
 bif (AR t.1 6) then
 (Bq 0 Ij)
 else
 true
def MQ.o (t:(Int×(Int×(Int×ByteArray)))) (c:(Int×(Int×ByteArray))):Option (Bool):=
 bif (!(Nz t)) then
 some false
 else
 bif (AR t.1 7) then
 bif (AR t.1 7) then
 some (AR c.1 0)
 else
 some false
 else
 bif (AR c.1 0) then
 bif (AR t.1 7) then
 some (AR c.1 0)
 else
 some false
 else
 let Ij:=(Oy c t.2)
 bif (AR t.1 1) then
 some (AR Ij 0)
 else
 bif (AR t.1 2) then
 some (By Ij 0)
 else
 bif (AR t.1 3) then
 some (AS Ij 0)
 else
 bif (AR t.1 4) then
 some (Bq Ij 0)
 else
 bif (AR t.1 5) then
 some (AS 0 Ij)
 else
 bif (AR t.1 6) then
 some (Bq 0 Ij)
 else
 some true
end Go.AM.Pure
