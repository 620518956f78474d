import Derived.Test.YtclpadlpcfnfmaaGreatAmWords
/- PRINTED by gen/ of this repo: the functions of the seat as pure functions. -/
namespace Go.AM.Pure
open Go.AM
def cmp_isNaN_int (x:Int):Bool:=
 (neI x x)
def FQ (x:Int) (y:Int):Int:=
 bif (cmp_isNaN_int x) then
 bif (cmp_isNaN_int y) then
 0
 else
 (-1)
 else
 bif (cmp_isNaN_int y) then
 1
 else
 bif (ltI x y) then
 (-1)
 else
 bif (ltI y x) then
 1
 else
 0
def FQ.o (x:Int) (y:Int):Option (Int):=
 bif (cmp_isNaN_int x) then
 bif (cmp_isNaN_int y) then
 some 0
 else
 some (-1)
 else
 bif (cmp_isNaN_int y) then
 some 1
 else
 bif (ltI x y) then
 some (-1)
 else
 bif (ltI y x) then
 some 1
 else
 some 0
def EY.S0 (self:Int→(List Int)→Int→Int→Option (Int)) (zero_1:Int) (t6_2:(List Int)) (t7_3:Int) (t8_4:Int):Option (Int):=
 bif (ltI t8_4 t7_3) then
 bif (inB t8_4 (Ai t6_2)) then
 bif (neI (nth t6_2 t8_4 0) zero_1) then
 some (nth t6_2 t8_4 0)
 else
 self zero_1 t6_2 t7_3 (An .i64 t8_4 1)
 else none
 else
 some zero_1
def EY.l0:Nat→Int→(List Int)→Int→Int→Option (Int)
 | 0=>fun _ _ _ _=>none
 | n+1=>EY.S0 (EY.l0 n)
def EY.S (j0:Int→(List Int)→Int→Int→Option (Int)) (Fe:(List Int)):Option (Int):=
 j0 0 Fe (Ai Fe) 0
def EY (Fe:(List Int)):Option (Int):=EY.S (EY.l0 fu) Fe
def Sd (a:(Int×(Int×ByteArray))) (b:(Int×(Int×ByteArray))):Option (Int):=
 ((EY [(FQ a.1 b.1),(FQ a.2.1 b.2.1),(Ik a.2.2 b.2.2)])).bind fun r_4=>
 some r_4
def Cf (c:(Int×(Int×ByteArray))):Int:=
 bif (eqI c.1 0) then
 bif (!((eqI c.1 c.1) && ((eqI c.2.1 0) && (eqS c.2.2 eB)))) then
 1
 else
 bif (ltI 32 (AX c.2.2)) then
 1
 else
 0
 else
 bif (eqI c.1 1) then
 bif (!((eqI c.1 c.1) && ((eqI c.2.1 c.2.1) && (eqS c.2.2 eB)))) then
 1
 else
 bif (ltI 32 (AX c.2.2)) then
 1
 else
 0
 else
 bif (eqI c.1 2) then
 bif (!((eqI c.1 c.1) && ((eqI c.2.1 0) && (eqS c.2.2 c.2.2)))) then
 1
 else
 bif (ltI 32 (AX c.2.2)) then
 1
 else
 0
 else
 1
def Cf.o (c:(Int×(Int×ByteArray))):Option (Int):=
 bif (eqI c.1 0) then
 bif (!((eqI c.1 c.1) && ((eqI c.2.1 0) && (eqS c.2.2 eB)))) then
 some 1
 else
 bif (ltI 32 (AX c.2.2)) then
 some 1
 else
 some 0
 else
 bif (eqI c.1 1) then
 bif (!((eqI c.1 c.1) && ((eqI c.2.1 c.2.1) && (eqS c.2.2 eB)))) then
 some 1
 else
 bif (ltI 32 (AX c.2.2)) then
 some 1
 else
 some 0
 else
 bif (eqI c.1 2) then
 bif (!((eqI c.1 c.1) && ((eqI c.2.1 0) && (eqS c.2.2 c.2.2)))) then
 some 1
 else
 bif (ltI 32 (AX c.2.2)) then
 some 1
 else
 some 0
 else
 some 1
def GM (t:(Int×(Int×(Int×ByteArray)))):Int:=
 bif (eqI t.1 7) then
 bif (eqI t.1 7) then
 bif (!((eqI t.2.1 0) && ((eqI t.2.2.1 0) && (eqS t.2.2.2 eB)))) then
 1
 else
 0
 else
 bif (eqI t.1 1) then
 bif (eqI t.1 1) then
 bif (neI t.2.1 0) then
 bif (!(eqI (Cf t.2) 0)) then
 1
 else
 0
 else
 1
 else
 1
 else
 bif (eqI t.1 2) then
 bif (eqI t.1 2) then
 bif (neI t.2.1 0) then
 bif (!(eqI (Cf t.2) 0)) then
 1
 else
 0
 else
 1
 else
 1
 else
 bif (eqI t.1 3) then
 bif (eqI t.1 3) then
 bif (neI t.2.1 0) then
 bif (!(eqI (Cf t.2) 0)) then
 1
 else
 0
 else
 1
 else
 1
 else
 bif (eqI t.1 4) then
 bif (eqI t.1 4) then
 bif (neI t.2.1 0) then
 bif (!(eqI (Cf t.2) 0)) then
 1
 else
 0
 else
 1
 else
 1
 else
 bif (eqI t.1 5) then
 bif (eqI t.1 5) then
 bif (neI t.2.1 0) then
 bif (!(eqI (Cf t.2) 0)) then
 1
 else
 0
 else
 1
 else
 1
 else
 bif (eqI t.1 6) then
 bif (neI t.2.1 0) then
 bif (!(eqI (Cf t.2) 0)) then
 1
 else
 0
 else
 1
 else
 1
 else
 bif (eqI t.1 8) then
 bif (!((eqI t.2.1 0) && ((eqI t.2.2.1 0) && (eqS t.2.2.2 eB)))) then
 1
 else
 0
 else
 bif (eqI t.1 1) then
 bif (eqI t.1 1) then
 bif (neI t.2.1 0) then
 bif (!(eqI (Cf t.2) 0)) then
 1
 else
 0
 else
 1
 else
 1
 else
 bif (eqI t.1 2) then
 bif (eqI t.1 2) then
 bif (neI t.2.1 0) then
 bif (!(eqI (Cf t.2) 0)) then
 1
 else
 0
 else
 1
 else
 1
 else
 bif (eqI t.1 3) then
 bif (eqI t.1 3) then
 bif (neI t.2.1 0) then
 bif (!(eqI (Cf t.2) 0)) then
 1
 else
 0
 else
 1
 else
 1
 else
 bif (eqI t.1 4) then
 bif (eqI t.1 4) then
 bif (neI t.2.1 0) then
 bif (!(eqI (Cf t.2) 0)) then
 1
 else
 0
 else
 1
 else
 1
 else
 bif (eqI t.1 5) then
 bif (eqI t.1 5) then
 bif (neI t.2.1 0) then
 bif (!(eqI (Cf t.2) 0)) then
 1
 else
 0
 else
 1
 else
 1
 else
 bif (eqI t.1 6) then
 bif (neI t.2.1 0) then
 bif (!(eqI (Cf t.2) 0)) then
 1
 else
 0
 else
 1
 else
 1
def GM.o (t:(Int×(Int×(Int×ByteArray)))):Option (Int):=
 bif (eqI t.1 7) then
 bif (eqI t.1 7) then
 bif (!((eqI t.2.1 0) && ((eqI t.2.2.1 0) && (eqS t.2.2.2 eB)))) then
 some 1
 else
 some 0
 else
 bif (eqI t.1 1) then
 bif (eqI t.1 1) then
 bif (neI t.2.1 0) then
 bif (!(eqI (Cf t.2) 0)) then
 some 1
 else
 some 0
 else
 some 1
 else
 some 1
 else
 bif (eqI t.1 2) then
 bif (eqI t.1 2) then
 bif (neI t.2.1 0) then
 bif (!(eqI (Cf t.2) 0)) then
 some 1
 else
 some 0
 else
 some 1
 else
 some 1
 else
 bif (eqI t.1 3) then
 bif (eqI t.1 3) then
 bif (neI t.2.1 0) then
 bif (!(eqI (Cf t.2) 0)) then
 some 1
 else
 some 0
 else
 some 1
 else
 some 1
 else
 bif (eqI t.1 4) then
 bif (eqI t.1 4) then
 bif (neI t.2.1 0) then
 bif (!(eqI (Cf t.2) 0)) then
 some 1
 else
 some 0
 else
 some 1
 else
 some 1
 else
 bif (eqI t.1 5) then
 bif (eqI t.1 5) then
 bif (neI t.2.1 0) then
 bif (!(eqI (Cf t.2) 0)) then
 some 1
 else
 some 0
 else
 some 1
 else
 some 1
 else
 bif (eqI t.1 6) then
 bif (neI t.2.1 0) then
 bif (!(eqI (Cf t.2) 0)) then
 some 1
 else
 some 0
 else
 some 1
 else
 some 1
 else
 bif (eqI t.1 8) then
 bif (!((eqI t.2.1 0) && ((eqI t.2.2.1 0) && (eqS t.2.2.2 eB)))) then
 some 1
 else
 some 0
 else
 bif (eqI t.1 1) then
 bif (eqI t.1 1) then
 bif (neI t.2.1 0) then
 bif (!(eqI (Cf t.2) 0)) then
 some 1
 else
 some 0
 else
 some 1
 else
 some 1
 else
 bif (eqI t.1 2) then
 bif (eqI t.1 2) then
 bif (neI t.2.1 0) then
 bif (!(eqI (Cf t.2) 0)) then
 some 1
 else
 some 0
 else
 some 1
 else
 some 1
 else
 bif (eqI t.1 3) then
 bif (eqI t.1 3) then
 bif (neI t.2.1 0) then
 bif (!(eqI (Cf t.2) 0)) then
 some 1
 else
 some 0
 else
 some 1
 else
 some 1
 else
 bif (eqI t.1 4) then
 bif (eqI t.1 4) then
 bif (neI t.2.1 0) then
 bif (!(eqI (Cf t.2) 0)) then
 some 1
 else
 some 0
 else
 some 1
 else
 some 1
 else
 bif (eqI t.1 5) then
 bif (eqI t.1 5) then
 bif (neI t.2.1 0) then
 bif (!(eqI (Cf t.2) 0)) then
 some 1
 else
 some 0
 else
 some 1
 else
 some 1
 else
 bif (eqI t.1 6) then
 bif (neI t.2.1 0) then
 bif (!(eqI (Cf t.2) 0)) then
 some 1
 else
 some 0
 else
 some 1
 else
 some 1
def UF (t:(Int×(Int×(Int×ByteArray)))) (c:(Int×(Int×ByteArray))):Option (Bool):=
 ((Sd c t.2)).bind fun r_1=>
 bif (eqI t.1 1) then
 some (eqI r_1 0)
 else
 bif (eqI t.1 2) then
 some (neI r_1 0)
 else
 bif (eqI t.1 6) then
 bif (eqI r_1 0) then
 some true
 else
 some (ltI 0 r_1)
 else
 bif (eqI t.1 5) then
 some (ltI 0 r_1)
 else
 bif (eqI t.1 4) then
 bif (eqI r_1 0) then
 some true
 else
 some (ltI r_1 0)
 else
 bif (eqI t.1 3) then
 some (ltI r_1 0)
 else
 some true
def LO (t:(Int×(Int×(Int×ByteArray)))) (c:(Int×(Int×ByteArray))):Option (Bool):=
 bif (neI (GM t) 0) then
 some false
 else
 bif (eqI t.1 7) then
 some (eqI c.1 0)
 else
 bif (neI c.1 0) then
 ((UF t c)).bind fun r_2=>
 some r_2
 else
 some false
def Pj (xk:Int) (t1:Int) (t2:(Int×(Int×(Int×ByteArray)))) (t3:(List Int)):Option (Bool):=
 bif (inB xk (Ai t3)) then
 ((LO (t1,t2.2) (1,(nth t3 xk 0),eB))).bind fun r_1=>
 some r_1
 else none
def BJ.S0 (self:Int→(Int×(Int×(Int×ByteArray)))→(List Int)→Int→Int→Option (Int)) (f_1:Int) (f_2:(Int×(Int×(Int×ByteArray)))) (f_3:(List Int)) (i_4:Int) (j_5:Int):Option (Int):=
 bif (ltI i_4 j_5) then
 ((Pj (IntKind.wrap .i64 (BG .u64 (IntKind.wrap .u64 (An .i64 i_4 j_5)) 1)) f_1 f_2 f_3)).bind fun r_6=>
 bif (!r_6) then
 self f_1 f_2 f_3 (An .i64 (IntKind.wrap .i64 (BG .u64 (IntKind.wrap .u64 (An .i64 i_4 j_5)) 1)) 1) j_5
 else
 self f_1 f_2 f_3 i_4 (IntKind.wrap .i64 (BG .u64 (IntKind.wrap .u64 (An .i64 i_4 j_5)) 1))
 else
 some i_4
def BJ.l0:Nat→Int→(Int×(Int×(Int×ByteArray)))→(List Int)→Int→Int→Option (Int)
 | 0=>fun _ _ _ _ _=>none
 | n+1=>BJ.S0 (BJ.l0 n)
def BJ.S (j0:Int→(Int×(Int×(Int×ByteArray)))→(List Int)→Int→Int→Option (Int)) (xn:Int) (f0:Int) (f1:(Int×(Int×(Int×ByteArray)))) (f2:(List Int)):Option (Int):=
 j0 f0 f1 f2 0 xn
def BJ (xn:Int) (f0:Int) (f1:(Int×(Int×(Int×ByteArray)))) (f2:(List Int)):Option (Int):=BJ.S (BJ.l0 fu) xn f0 f1 f2
def GB (op:Int) (t1:(List Int)) (t2:(Int×(Int×(Int×ByteArray)))):Option (Int):=
 ((BJ (Ai t1) op t2 t1)).bind fun r_1=>
 some r_1
def Fj.S0 (from_4:Int) (to_5:Int):Option (Int×Int):=
 bif (leI to_5 from_4) then
 some (0,0)
 else
 some (from_4,to_5)
def Fj.t0:Nat→Int→Int→Option (Int×Int)
 | 0=>fun _ _=>none
 | _+1=>Fj.S0
def Fj.S (j0:Int→Int→Option (Int×Int)) (t:(Int×(Int×(Int×ByteArray)))) (l:(List Int)):Option (Int×Int):=
 bif (neI (GM t) 0) then
 some (0,0)
 else
 bif (eqI t.1 2) then
 some (0,0)
 else
 bif (eqI t.1 7) then
 some (0,0)
 else
 bif (eqI t.1 1) then
 ((GB 6 l t)).bind fun r_2=>
 ((GB 5 l t)).bind fun r_3=>
 j0 r_2 r_3
 else
 bif (eqI t.1 3) then
 ((GB 6 l t)).bind fun r_6=>
 j0 0 r_6
 else
 bif (eqI t.1 4) then
 ((GB 5 l t)).bind fun r_7=>
 j0 0 r_7
 else
 bif (eqI t.1 5) then
 bif (eqI t.1 5) then
 ((GB t.1 l t)).bind fun r_8=>
 j0 r_8 (Ai l)
 else
 j0 0 (Ai l)
 else
 bif (eqI t.1 6) then
 ((GB t.1 l t)).bind fun r_9=>
 j0 r_9 (Ai l)
 else
 j0 0 (Ai l)
def Fj (t:(Int×(Int×(Int×ByteArray)))) (l:(List Int)):Option (Int×Int):=Fj.S (Fj.t0 fu) t l
def DZ (c:(Int×(Int×ByteArray))):Bool:=
 bif (eqI c.1 0) then
 bif (eqI c.2.1 0) then
 (eqS c.2.2 eB)
 else
 false
 else
 bif (eqI c.1 1) then
 (eqS c.2.2 eB)
 else
 bif (eqI c.1 2) then
 bif (eqI c.2.1 0) then
 (leI (AX c.2.2) 32)
 else
 false
 else
 false
def DZ.o (c:(Int×(Int×ByteArray))):Option (Bool):=
 bif (eqI c.1 0) then
 bif (eqI c.2.1 0) then
 some (eqS c.2.2 eB)
 else
 some false
 else
 bif (eqI c.1 1) then
 some (eqS c.2.2 eB)
 else
 bif (eqI c.1 2) then
 bif (eqI c.2.1 0) then
 some (leI (AX c.2.2) 32)
 else
 some false
 else
 some false
end Go.AM.Pure
