import Derived.Test.YtclpadlpcfnfmaaGreatAmWords
/- PRINTED by gen/ of this repo: the functions of the seat as pure functions. -/
namespace Go.AM.Pure
open Go.AM
def cmp_isNaN_int (x:Int):Bool:=
 (BK x x)
def PG (x:Int) (y:Int):Int:=
 bif cmp_isNaN_int x then
 bif cmp_isNaN_int y then
 0
 else
 (-1)
 else
 bif cmp_isNaN_int y then
 1
 else
 bif A8 x y then
 (-1)
 else
 bif A8 y x then
 1
 else
 0
def PG.o (x:Int) (y:Int):Option (Int):=
 bif cmp_isNaN_int x then
 bif cmp_isNaN_int y then
 some 0
 else
 some (-1)
 else
 bif cmp_isNaN_int y then
 some 1
 else
 bif A8 x y then
 some (-1)
 else
 bif A8 y x then
 some 1
 else
 some 0
def IK.S0 (self:Int->(List Int)->Int->Int->Option (Int)) (ln:Int) (ed:(List Int)) (Zfp:Int) (Yx:Int):Option (Int):=
 bif A8 Yx Zfp then
 bif Bf Yx (AZ ed) then
 bif BK (nth ed Yx 0) ln then
 some (nth ed Yx 0)
 else
 self ln ed Zfp (A7 .i64 Yx 1)
 else none
 else
 some ln
def IK.l0:Nat->Int->(List Int)->Int->Int->Option (Int)
 | 0=>λ _ _ _ _=>none
 | n+1=>IK.S0 (IK.l0 n)
def IK.S (j0:Int->(List Int)->Int->Int->Option (Int)) (E7:(List Int)):Option (Int):=
 j0 0 E7 (AZ E7) 0
def IK (E7:(List Int)):Option (Int):=IK.S (IK.l0 fu) E7
def ZB (a:(Int×(Int×ByteArray))) (b:(Int×(Int×ByteArray))):Option (Int):=
 (IK [(PG a.1 b.1),(PG a.2.1 b.2.1),(Ir a.2.2 b.2.2)]).bind λ TD=>
 some TD
def Fp (c:(Int×(Int×ByteArray))):Int:=
 bif A9 c.1 0 then
 bif !((A9 c.1 c.1) && ((A9 c.2.1 0) && (Cz c.2.2 eB))) then
 1
 else
 bif A8 32 (Bg c.2.2) then
 1
 else
 0
 else
 bif A9 c.1 1 then
 bif !((A9 c.1 c.1) && ((A9 c.2.1 c.2.1) && (Cz c.2.2 eB))) then
 1
 else
 bif A8 32 (Bg c.2.2) then
 1
 else
 0
 else
 bif A9 c.1 2 then
 bif !((A9 c.1 c.1) && ((A9 c.2.1 0) && (Cz c.2.2 c.2.2))) then
 1
 else
 bif A8 32 (Bg c.2.2) then
 1
 else
 0
 else
 1
def Fp.o (c:(Int×(Int×ByteArray))):Option (Int):=
 bif A9 c.1 0 then
 bif !((A9 c.1 c.1) && ((A9 c.2.1 0) && (Cz c.2.2 eB))) then
 some 1
 else
 bif A8 32 (Bg c.2.2) then
 some 1
 else
 some 0
 else
 bif A9 c.1 1 then
 bif !((A9 c.1 c.1) && ((A9 c.2.1 c.2.1) && (Cz c.2.2 eB))) then
 some 1
 else
 bif A8 32 (Bg c.2.2) then
 some 1
 else
 some 0
 else
 bif A9 c.1 2 then
 bif !((A9 c.1 c.1) && ((A9 c.2.1 0) && (Cz c.2.2 c.2.2))) then
 some 1
 else
 bif A8 32 (Bg c.2.2) then
 some 1
 else
 some 0
 else
 some 1
def N2 (t:(Int×(Int×(Int×ByteArray)))):Int:=
 bif A9 t.1 7 then
 bif A9 t.1 7 then
 bif !((A9 t.2.1 0) && ((A9 t.2.2.1 0) && (Cz t.2.2.2 eB))) then
 1
 else
 0
 else
 bif A9 t.1 1 then
 bif A9 t.1 1 then
 bif BK t.2.1 0 then
 bif !(A9 (Fp t.2) 0) then
 1
 else
 0
 else
 1
 else
 1
 else
 bif A9 t.1 2 then
 bif A9 t.1 2 then
 bif BK t.2.1 0 then
 bif !(A9 (Fp t.2) 0) then
 1
 else
 0
 else
 1
 else
 1
 else
 bif A9 t.1 3 then
 bif A9 t.1 3 then
 bif BK t.2.1 0 then
 bif !(A9 (Fp t.2) 0) then
 1
 else
 0
 else
 1
 else
 1
 else
 bif A9 t.1 4 then
 bif A9 t.1 4 then
 bif BK t.2.1 0 then
 bif !(A9 (Fp t.2) 0) then
 1
 else
 0
 else
 1
 else
 1
 else
 bif A9 t.1 5 then
 bif A9 t.1 5 then
 bif BK t.2.1 0 then
 bif !(A9 (Fp t.2) 0) then
 1
 else
 0
 else
 1
 else
 1
 else
 bif A9 t.1 6 then
 bif BK t.2.1 0 then
 bif !(A9 (Fp t.2) 0) then
 1
 else
 0
 else
 1
 else
 1
 else
 bif A9 t.1 8 then
 bif !((A9 t.2.1 0) && ((A9 t.2.2.1 0) && (Cz t.2.2.2 eB))) then
 1
 else
 0
 else
 bif A9 t.1 1 then
 bif A9 t.1 1 then
 bif BK t.2.1 0 then
 bif !(A9 (Fp t.2) 0) then
 1
 else
 0
 else
 1
 else
 1
 else
 bif A9 t.1 2 then
 bif A9 t.1 2 then
 bif BK t.2.1 0 then
 bif !(A9 (Fp t.2) 0) then
 1
 else
 0
 else
 1
 else
 1
 else
 bif A9 t.1 3 then
 bif A9 t.1 3 then
 bif BK t.2.1 0 then
 bif !(A9 (Fp t.2) 0) then
 1
 else
 0
 else
 1
 else
 1
 else
 bif A9 t.1 4 then
 bif A9 t.1 4 then
 bif BK t.2.1 0 then
 bif !(A9 (Fp t.2) 0) then
 1
 else
 0
 else
 1
 else
 1
 else
 bif A9 t.1 5 then
 bif A9 t.1 5 then
 bif BK t.2.1 0 then
 bif !(A9 (Fp t.2) 0) then
 1
 else
 0
 else
 1
 else
 1
 else
 bif A9 t.1 6 then
 bif BK t.2.1 0 then
 bif !(A9 (Fp t.2) 0) then
 1
 else
 0
 else
 1
 else
 1
def N2.o (t:(Int×(Int×(Int×ByteArray)))):Option (Int):=
 bif A9 t.1 7 then
 bif A9 t.1 7 then
 bif !((A9 t.2.1 0) && ((A9 t.2.2.1 0) && (Cz t.2.2.2 eB))) then
 some 1
 else
 some 0
 else
 bif A9 t.1 1 then
 bif A9 t.1 1 then
 bif BK t.2.1 0 then
 bif !(A9 (Fp t.2) 0) then
 some 1
 else
 some 0
 else
 some 1
 else
 some 1
 else
 bif A9 t.1 2 then
 bif A9 t.1 2 then
 bif BK t.2.1 0 then
 bif !(A9 (Fp t.2) 0) then
 some 1
 else
 some 0
 else
 some 1
 else
 some 1
 else
 bif A9 t.1 3 then
 bif A9 t.1 3 then
 bif BK t.2.1 0 then
 bif !(A9 (Fp t.2) 0) then
 some 1
 else
 some 0
 else
 some 1
 else
 some 1
 else
 bif A9 t.1 4 then
 bif A9 t.1 4 then
 bif BK t.2.1 0 then
 bif !(A9 (Fp t.2) 0) then
 some 1
 else
 some 0
 else
 some 1
 else
 some 1
 else
 bif A9 t.1 5 then
 bif A9 t.1 5 then
 bif BK t.2.1 0 then
 bif !(A9 (Fp t.2) 0) then
 some 1
 else
 some 0
 else
 some 1
 else
 some 1
 else
 bif A9 t.1 6 then
 bif BK t.2.1 0 then
 bif !(A9 (Fp t.2) 0) then
 some 1
 else
 some 0
 else
 some 1
 else
 some 1
 else
 bif A9 t.1 8 then
 bif !((A9 t.2.1 0) && ((A9 t.2.2.1 0) && (Cz t.2.2.2 eB))) then
 some 1
 else
 some 0
 else
 bif A9 t.1 1 then
 bif A9 t.1 1 then
 bif BK t.2.1 0 then
 bif !(A9 (Fp t.2) 0) then
 some 1
 else
 some 0
 else
 some 1
 else
 some 1
 else
 bif A9 t.1 2 then
 bif A9 t.1 2 then
 bif BK t.2.1 0 then
 bif !(A9 (Fp t.2) 0) then
 some 1
 else
 some 0
 else
 some 1
 else
 some 1
 else
 bif A9 t.1 3 then
 bif A9 t.1 3 then
 bif BK t.2.1 0 then
 bif !(A9 (Fp t.2) 0) then
 some 1
 else
 some 0
 else
 some 1
 else
 some 1
 else
 bif A9 t.1 4 then
 bif A9 t.1 4 then
 bif BK t.2.1 0 then
 bif !(A9 (Fp t.2) 0) then
 some 1
 else
 some 0
 else
 some 1
 else
 some 1
 else
 bif A9 t.1 5 then
 bif A9 t.1 5 then
 bif BK t.2.1 0 then
 bif !(A9 (Fp t.2) 0) then
 some 1
 else
 some 0
 else
 some 1
 else
 some 1
 else
 bif A9 t.1 6 then
 bif BK t.2.1 0 then
 bif !(A9 (Fp t.2) 0) then
 some 1
 else
 some 0
 else
 some 1
 else
 some 1
def ZI (t:(Int×(Int×(Int×ByteArray)))) (c:(Int×(Int×ByteArray))):Option (Bool):=
 (ZB c t.2).bind λ It=>
 bif A9 t.1 1 then
 some (A9 It 0)
 else
 bif A9 t.1 2 then
 some (BK It 0)
 else
 bif A9 t.1 6 then
 bif A9 It 0 then
 some true
 else
 some (A8 0 It)
 else
 bif A9 t.1 5 then
 some (A8 0 It)
 else
 bif A9 t.1 4 then
 bif A9 It 0 then
 some true
 else
 some (A8 It 0)
 else
 bif A9 t.1 3 then
 some (A8 It 0)
 else
 some true
def Sp (t:(Int×(Int×(Int×ByteArray)))) (c:(Int×(Int×ByteArray))):Option (Bool):=
 bif BK (N2 t) 0 then
 some false
 else
 bif A9 t.1 7 then
 some (A9 c.1 0)
 else
 bif BK c.1 0 then
 (ZI t c).bind λ TB=>
 some TB
 else
 some false
def Zo (xk:Int) (t1:Int) (t2:(Int×(Int×(Int×ByteArray)))) (t3:(List Int)):Option (Bool):=
 bif Bf xk (AZ t3) then
 (Sp (t1,t2.2) (1,(nth t3 xk 0),eB)).bind λ It=>
 some It
 else none
def JR.S0 (self:Int->(Int×(Int×(Int×ByteArray)))->(List Int)->Int->Int->Option (Int)) (qg:Int) (qh:(Int×(Int×(Int×ByteArray)))) (qi:(List Int)) (VJ:Int) (YX:Int):Option (Int):=
 bif A8 VJ YX then
 (Zo (IntKind.wrap .i64 (B7 .u64 (IntKind.wrap .u64 (A7 .i64 VJ YX)) 1)) qg qh qi).bind λ Ox=>
 bif !Ox then
 self qg qh qi (A7 .i64 (IntKind.wrap .i64 (B7 .u64 (IntKind.wrap .u64 (A7 .i64 VJ YX)) 1)) 1) YX
 else
 self qg qh qi VJ (IntKind.wrap .i64 (B7 .u64 (IntKind.wrap .u64 (A7 .i64 VJ YX)) 1))
 else
 some VJ
def JR.l0:Nat->Int->(Int×(Int×(Int×ByteArray)))->(List Int)->Int->Int->Option (Int)
 | 0=>λ _ _ _ _ _=>none
 | n+1=>JR.S0 (JR.l0 n)
def JR.S (j0:Int->(Int×(Int×(Int×ByteArray)))->(List Int)->Int->Int->Option (Int)) (xn:Int) (f0:Int) (f1:(Int×(Int×(Int×ByteArray)))) (f2:(List Int)):Option (Int):=
 j0 f0 f1 f2 0 xn
def JR (xn:Int) (f0:Int) (f1:(Int×(Int×(Int×ByteArray)))) (f2:(List Int)):Option (Int):=JR.S (JR.l0 fu) xn f0 f1 f2
def NU (op:Int) (t1:(List Int)) (t2:(Int×(Int×(Int×ByteArray)))):Option (Int):=
 (JR (AZ t1) op t2 t1).bind λ It=>
 some It
def JS.S0 (Zze:Int) (Zgp:Int):Option (Int×Int):=
 bif BC Zgp Zze then
 some (0,0)
 else
 some (Zze,Zgp)
def JS.t0:Nat->Int->Int->Option (Int×Int)
 | 0=>λ _ _=>none
 | _+1=>JS.S0
def JS.S (j0:Int->Int->Option (Int×Int)) (t:(Int×(Int×(Int×ByteArray)))) (l:(List Int)):Option (Int×Int):=
 bif BK (N2 t) 0 then
 some (0,0)
 else
 bif A9 t.1 2 then
 some (0,0)
 else
 bif A9 t.1 7 then
 some (0,0)
 else
 bif A9 t.1 1 then
 (NU 6 l t).bind λ TB=>
 (NU 5 l t).bind λ r_3=>
 j0 TB r_3
 else
 bif A9 t.1 3 then
 (NU 6 l t).bind λ Ox=>
 j0 0 Ox
 else
 bif A9 t.1 4 then
 (NU 5 l t).bind λ YU=>
 j0 0 YU
 else
 bif A9 t.1 5 then
 bif A9 t.1 5 then
 (NU t.1 l t).bind λ YV=>
 j0 YV (AZ l)
 else
 j0 0 (AZ l)
 else
 bif A9 t.1 6 then
 (NU t.1 l t).bind λ YW=>
 j0 YW (AZ l)
 else
 j0 0 (AZ l)
def JS (t:(Int×(Int×(Int×ByteArray)))) (l:(List Int)):Option (Int×Int):=JS.S (JS.t0 fu) t l
def HQ (c:(Int×(Int×ByteArray))):Bool:=
 bif A9 c.1 0 then
 bif A9 c.2.1 0 then
 (Cz c.2.2 eB)
 else
 false
 else
 bif A9 c.1 1 then
 (Cz c.2.2 eB)
 else
 bif A9 c.1 2 then
 bif A9 c.2.1 0 then
 (BC (Bg c.2.2) 32)
 else
 false
 else
 false
def HQ.o (c:(Int×(Int×ByteArray))):Option (Bool):=
 bif A9 c.1 0 then
 bif A9 c.2.1 0 then
 some (Cz c.2.2 eB)
 else
 some false
 else
 bif A9 c.1 1 then
 some (Cz c.2.2 eB)
 else
 bif A9 c.1 2 then
 bif A9 c.2.1 0 then
 some (BC (Bg c.2.2) 32)
 else
 some false
 else
 some false
def PZ (t:(Int×(Int×(Int×ByteArray)))):Bool:=
 bif A9 t.1 7 then
 ((A9 t.2.1 0) && ((A9 t.2.2.1 0) && (Cz t.2.2.2 eB)))
 else
 bif A9 t.1 8 then
 ((A9 t.2.1 0) && ((A9 t.2.2.1 0) && (Cz t.2.2.2 eB)))
 else
 bif BC 1 t.1 then
 bif BC t.1 6 then
 bif HQ t.2 then
 (BK t.2.1 0)
 else
 false
 else
 false
 else
 false
def PZ.o (t:(Int×(Int×(Int×ByteArray)))):Option (Bool):=
 bif A9 t.1 7 then
 some ((A9 t.2.1 0) && ((A9 t.2.2.1 0) && (Cz t.2.2.2 eB)))
 else
 bif A9 t.1 8 then
 some ((A9 t.2.1 0) && ((A9 t.2.2.1 0) && (Cz t.2.2.2 eB)))
 else
 bif BC 1 t.1 then
 bif BC t.1 6 then
 bif HQ t.2 then
 some (BK t.2.1 0)
 else
 some false
 else
 some false
 else
 some false
end Go.AM.Pure
