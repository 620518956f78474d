import Derived.Test.YtclpadlpcfnfmaaGreatAmWords
/- PRINTED by gen/ of this repo: the functions of the seat as pure functions. -/
namespace Go.AM.Pure
open Go.AM
def cmp_isNaN_int (x:Int):Bool:=
 (BL x x)
def PG (x:Int) (y:Int):Int:=
 bif cmp_isNaN_int x then
 bif cmp_isNaN_int y then
 0
 else
 (-1)
 else
 bif cmp_isNaN_int y then
 1
 else
 bif A8 x y then
 (-1)
 else
 bif A8 y x then
 1
 else
 0
def PG.o (x:Int) (y:Int):Option (Int):=
 bif cmp_isNaN_int x then
 bif cmp_isNaN_int y then
 some 0
 else
 some (-1)
 else
 bif cmp_isNaN_int y then
 some 1
 else
 bif A8 x y then
 some (-1)
 else
 bif A8 y x then
 some 1
 else
 some 0
def IM.S0 (self:Int->(List Int)->Int->Int->Option (Int)) (lp:Int) (ef:(List Int)) (Zep:Int) (YB:Int):Option (Int):=
 bif A8 YB Zep then
 bif Bf YB (AZ ef) then
 bif BL (nth ef YB 0) lp then
 some (nth ef YB 0)
 else
 self lp ef Zep (A7 .i64 YB 1)
 else none
 else
 some lp
def IM.l0:Nat->Int->(List Int)->Int->Int->Option (Int)
 | 0=>λ _ _ _ _=>none
 | n+1=>IM.S0 (IM.l0 n)
def IM.S (j0:Int->(List Int)->Int->Int->Option (Int)) (E7:(List Int)):Option (Int):=
 j0 0 E7 (AZ E7) 0
def IM (E7:(List Int)):Option (Int):=IM.S (IM.l0 fu) E7
def ZE (a:(Int×(Int×ByteArray))) (b:(Int×(Int×ByteArray))):Option (Int):=
 (IM [(PG a.1 b.1),(PG a.2.1 b.2.1),(Ir a.2.2 b.2.2)]).bind λ TD=>
 some TD
def Fq (c:(Int×(Int×ByteArray))):Int:=
 bif A9 c.1 0 then
 bif !((A9 c.1 c.1) && ((A9 c.2.1 0) && (Cz c.2.2 eB))) then
 1
 else
 bif A8 32 (Bg c.2.2) then
 1
 else
 0
 else
 bif A9 c.1 1 then
 bif !((A9 c.1 c.1) && ((A9 c.2.1 c.2.1) && (Cz c.2.2 eB))) then
 1
 else
 bif A8 32 (Bg c.2.2) then
 1
 else
 0
 else
 bif A9 c.1 2 then
 bif !((A9 c.1 c.1) && ((A9 c.2.1 0) && (Cz c.2.2 c.2.2))) then
 1
 else
 bif A8 32 (Bg c.2.2) then
 1
 else
 0
 else
 1
def Fq.o (c:(Int×(Int×ByteArray))):Option (Int):=
 bif A9 c.1 0 then
 bif !((A9 c.1 c.1) && ((A9 c.2.1 0) && (Cz c.2.2 eB))) then
 some 1
 else
 bif A8 32 (Bg c.2.2) then
 some 1
 else
 some 0
 else
 bif A9 c.1 1 then
 bif !((A9 c.1 c.1) && ((A9 c.2.1 c.2.1) && (Cz c.2.2 eB))) then
 some 1
 else
 bif A8 32 (Bg c.2.2) then
 some 1
 else
 some 0
 else
 bif A9 c.1 2 then
 bif !((A9 c.1 c.1) && ((A9 c.2.1 0) && (Cz c.2.2 c.2.2))) then
 some 1
 else
 bif A8 32 (Bg c.2.2) then
 some 1
 else
 some 0
 else
 some 1
def N3 (t:(Int×(Int×(Int×ByteArray)))):Int:=
 bif A9 t.1 7 then
 bif A9 t.1 7 then
 bif !((A9 t.2.1 0) && ((A9 t.2.2.1 0) && (Cz t.2.2.2 eB))) then
 1
 else
 0
 else
 bif A9 t.1 1 then
 bif A9 t.1 1 then
 bif BL t.2.1 0 then
 bif !(A9 (Fq t.2) 0) then
 1
 else
 0
 else
 1
 else
 1
 else
 bif A9 t.1 2 then
 bif A9 t.1 2 then
 bif BL t.2.1 0 then
 bif !(A9 (Fq t.2) 0) then
 1
 else
 0
 else
 1
 else
 1
 else
 bif A9 t.1 3 then
 bif A9 t.1 3 then
 bif BL t.2.1 0 then
 bif !(A9 (Fq t.2) 0) then
 1
 else
 0
 else
 1
 else
 1
 else
 bif A9 t.1 4 then
 bif A9 t.1 4 then
 bif BL t.2.1 0 then
 bif !(A9 (Fq t.2) 0) then
 1
 else
 0
 else
 1
 else
 1
 else
 bif A9 t.1 5 then
 bif A9 t.1 5 then
 bif BL t.2.1 0 then
 bif !(A9 (Fq t.2) 0) then
 1
 else
 0
 else
 1
 else
 1
 else
 bif A9 t.1 6 then
 bif BL t.2.1 0 then
 bif !(A9 (Fq t.2) 0) then
 1
 else
 0
 else
 1
 else
 1
 else
 bif A9 t.1 8 then
 bif !((A9 t.2.1 0) && ((A9 t.2.2.1 0) && (Cz t.2.2.2 eB))) then
 1
 else
 0
 else
 bif A9 t.1 1 then
 bif A9 t.1 1 then
 bif BL t.2.1 0 then
 bif !(A9 (Fq t.2) 0) then
 1
 else
 0
 else
 1
 else
 1
 else
 bif A9 t.1 2 then
 bif A9 t.1 2 then
 bif BL t.2.1 0 then
 bif !(A9 (Fq t.2) 0) then
 1
 else
 0
 else
 1
 else
 1
 else
 bif A9 t.1 3 then
 bif A9 t.1 3 then
 bif BL t.2.1 0 then
 bif !(A9 (Fq t.2) 0) then
 1
 else
 0
 else
 1
 else
 1
 else
 bif A9 t.1 4 then
 bif A9 t.1 4 then
 bif BL t.2.1 0 then
 bif !(A9 (Fq t.2) 0) then
 1
 else
 0
 else
 1
 else
 1
 else
 bif A9 t.1 5 then
 bif A9 t.1 5 then
 bif BL t.2.1 0 then
 bif !(A9 (Fq t.2) 0) then
 1
 else
 0
 else
 1
 else
 1
 else
 bif A9 t.1 6 then
 bif BL t.2.1 0 then
 bif !(A9 (Fq t.2) 0) then
 1
 else
 0
 else
 1
 else
 1
def N3.o (t:(Int×(Int×(Int×ByteArray)))):Option (Int):=
 bif A9 t.1 7 then
 bif A9 t.1 7 then
 bif !((A9 t.2.1 0) && ((A9 t.2.2.1 0) && (Cz t.2.2.2 eB))) then
 some 1
 else
 some 0
 else
 bif A9 t.1 1 then
 bif A9 t.1 1 then
 bif BL t.2.1 0 then
 bif !(A9 (Fq t.2) 0) then
 some 1
 else
 some 0
 else
 some 1
 else
 some 1
 else
 bif A9 t.1 2 then
 bif A9 t.1 2 then
 bif BL t.2.1 0 then
 bif !(A9 (Fq t.2) 0) then
 some 1
 else
 some 0
 else
 some 1
 else
 some 1
 else
 bif A9 t.1 3 then
 bif A9 t.1 3 then
 bif BL t.2.1 0 then
 bif !(A9 (Fq t.2) 0) then
 some 1
 else
 some 0
 else
 some 1
 else
 some 1
 else
 bif A9 t.1 4 then
 bif A9 t.1 4 then
 bif BL t.2.1 0 then
 bif !(A9 (Fq t.2) 0) then
 some 1
 else
 some 0
 else
 some 1
 else
 some 1
 else
 bif A9 t.1 5 then
 bif A9 t.1 5 then
 bif BL t.2.1 0 then
 bif !(A9 (Fq t.2) 0) then
 some 1
 else
 some 0
 else
 some 1
 else
 some 1
 else
 bif A9 t.1 6 then
 bif BL t.2.1 0 then
 bif !(A9 (Fq t.2) 0) then
 some 1
 else
 some 0
 else
 some 1
 else
 some 1
 else
 bif A9 t.1 8 then
 bif !((A9 t.2.1 0) && ((A9 t.2.2.1 0) && (Cz t.2.2.2 eB))) then
 some 1
 else
 some 0
 else
 bif A9 t.1 1 then
 bif A9 t.1 1 then
 bif BL t.2.1 0 then
 bif !(A9 (Fq t.2) 0) then
 some 1
 else
 some 0
 else
 some 1
 else
 some 1
 else
 bif A9 t.1 2 then
 bif A9 t.1 2 then
 bif BL t.2.1 0 then
 bif !(A9 (Fq t.2) 0) then
 some 1
 else
 some 0
 else
 some 1
 else
 some 1
 else
 bif A9 t.1 3 then
 bif A9 t.1 3 then
 bif BL t.2.1 0 then
 bif !(A9 (Fq t.2) 0) then
 some 1
 else
 some 0
 else
 some 1
 else
 some 1
 else
 bif A9 t.1 4 then
 bif A9 t.1 4 then
 bif BL t.2.1 0 then
 bif !(A9 (Fq t.2) 0) then
 some 1
 else
 some 0
 else
 some 1
 else
 some 1
 else
 bif A9 t.1 5 then
 bif A9 t.1 5 then
 bif BL t.2.1 0 then
 bif !(A9 (Fq t.2) 0) then
 some 1
 else
 some 0
 else
 some 1
 else
 some 1
 else
 bif A9 t.1 6 then
 bif BL t.2.1 0 then
 bif !(A9 (Fq t.2) 0) then
 some 1
 else
 some 0
 else
 some 1
 else
 some 1
def ZL (t:(Int×(Int×(Int×ByteArray)))) (c:(Int×(Int×ByteArray))):Option (Bool):=
 (ZE c t.2).bind λ It=>
 bif A9 t.1 1 then
 some (A9 It 0)
 else
 bif A9 t.1 2 then
 some (BL It 0)
 else
 bif A9 t.1 6 then
 bif A9 It 0 then
 some true
 else
 some (A8 0 It)
 else
 bif A9 t.1 5 then
 some (A8 0 It)
 else
 bif A9 t.1 4 then
 bif A9 It 0 then
 some true
 else
 some (A8 It 0)
 else
 bif A9 t.1 3 then
 some (A8 It 0)
 else
 some true
def Sr (t:(Int×(Int×(Int×ByteArray)))) (c:(Int×(Int×ByteArray))):Option (Bool):=
 bif BL (N3 t) 0 then
 some false
 else
 bif A9 t.1 7 then
 some (A9 c.1 0)
 else
 bif BL c.1 0 then
 (ZL t c).bind λ TB=>
 some TB
 else
 some false
def Zr (xk:Int) (t1:Int) (t2:(Int×(Int×(Int×ByteArray)))) (t3:(List Int)):Option (Bool):=
 bif Bf xk (AZ t3) then
 (Sr (t1,t2.2) (1,(nth t3 xk 0),eB)).bind λ It=>
 some It
 else none
def JS.S0 (self:Int->(Int×(Int×(Int×ByteArray)))->(List Int)->Int->Int->Option (Int)) (qh:Int) (qi:(Int×(Int×(Int×ByteArray)))) (qj:(List Int)) (VJ:Int) (Y1:Int):Option (Int):=
 bif A8 VJ Y1 then
 (Zr (IntKind.wrap .i64 (B7 .u64 (IntKind.wrap .u64 (A7 .i64 VJ Y1)) 1)) qh qi qj).bind λ Oy=>
 bif !Oy then
 self qh qi qj (A7 .i64 (IntKind.wrap .i64 (B7 .u64 (IntKind.wrap .u64 (A7 .i64 VJ Y1)) 1)) 1) Y1
 else
 self qh qi qj VJ (IntKind.wrap .i64 (B7 .u64 (IntKind.wrap .u64 (A7 .i64 VJ Y1)) 1))
 else
 some VJ
def JS.l0:Nat->Int->(Int×(Int×(Int×ByteArray)))->(List Int)->Int->Int->Option (Int)
 | 0=>λ _ _ _ _ _=>none
 | n+1=>JS.S0 (JS.l0 n)
def JS.S (j0:Int->(Int×(Int×(Int×ByteArray)))->(List Int)->Int->Int->Option (Int)) (xn:Int) (f0:Int) (f1:(Int×(Int×(Int×ByteArray)))) (f2:(List Int)):Option (Int):=
 j0 f0 f1 f2 0 xn
def JS (xn:Int) (f0:Int) (f1:(Int×(Int×(Int×ByteArray)))) (f2:(List Int)):Option (Int):=JS.S (JS.l0 fu) xn f0 f1 f2
def NV (op:Int) (t1:(List Int)) (t2:(Int×(Int×(Int×ByteArray)))):Option (Int):=
 (JS (AZ t1) op t2 t1).bind λ It=>
 some It
def JT.S0 (Zye:Int) (Zfp:Int):Option (Int×Int):=
 bif BC Zfp Zye then
 some (0,0)
 else
 some (Zye,Zfp)
def JT.t0:Nat->Int->Int->Option (Int×Int)
 | 0=>λ _ _=>none
 | _+1=>JT.S0
def JT.S (j0:Int->Int->Option (Int×Int)) (t:(Int×(Int×(Int×ByteArray)))) (l:(List Int)):Option (Int×Int):=
 bif BL (N3 t) 0 then
 some (0,0)
 else
 bif A9 t.1 2 then
 some (0,0)
 else
 bif A9 t.1 7 then
 some (0,0)
 else
 bif A9 t.1 1 then
 (NV 6 l t).bind λ TB=>
 (NV 5 l t).bind λ r_3=>
 j0 TB r_3
 else
 bif A9 t.1 3 then
 (NV 6 l t).bind λ Oy=>
 j0 0 Oy
 else
 bif A9 t.1 4 then
 (NV 5 l t).bind λ YY=>
 j0 0 YY
 else
 bif A9 t.1 5 then
 bif A9 t.1 5 then
 (NV t.1 l t).bind λ YZ=>
 j0 YZ (AZ l)
 else
 j0 0 (AZ l)
 else
 bif A9 t.1 6 then
 (NV t.1 l t).bind λ Y0=>
 j0 Y0 (AZ l)
 else
 j0 0 (AZ l)
def JT (t:(Int×(Int×(Int×ByteArray)))) (l:(List Int)):Option (Int×Int):=JT.S (JT.t0 fu) t l
def HQ (c:(Int×(Int×ByteArray))):Bool:=
 bif A9 c.1 0 then
 bif A9 c.2.1 0 then
 (Cz c.2.2 eB)
 else
 false
 else
 bif A9 c.1 1 then
 (Cz c.2.2 eB)
 else
 bif A9 c.1 2 then
 bif A9 c.2.1 0 then
 (BC (Bg c.2.2) 32)
 else
 false
 else
 false
def HQ.o (c:(Int×(Int×ByteArray))):Option (Bool):=
 bif A9 c.1 0 then
 bif A9 c.2.1 0 then
 some (Cz c.2.2 eB)
 else
 some false
 else
 bif A9 c.1 1 then
 some (Cz c.2.2 eB)
 else
 bif A9 c.1 2 then
 bif A9 c.2.1 0 then
 some (BC (Bg c.2.2) 32)
 else
 some false
 else
 some false
def PZ (t:(Int×(Int×(Int×ByteArray)))):Bool:=
 bif A9 t.1 7 then
 ((A9 t.2.1 0) && ((A9 t.2.2.1 0) && (Cz t.2.2.2 eB)))
 else
 bif A9 t.1 8 then
 ((A9 t.2.1 0) && ((A9 t.2.2.1 0) && (Cz t.2.2.2 eB)))
 else
 bif BC 1 t.1 then
 bif BC t.1 6 then
 bif HQ t.2 then
 (BL t.2.1 0)
 else
 false
 else
 false
 else
 false
def PZ.o (t:(Int×(Int×(Int×ByteArray)))):Option (Bool):=
 bif A9 t.1 7 then
 some ((A9 t.2.1 0) && ((A9 t.2.2.1 0) && (Cz t.2.2.2 eB)))
 else
 bif A9 t.1 8 then
 some ((A9 t.2.1 0) && ((A9 t.2.2.1 0) && (Cz t.2.2.2 eB)))
 else
 bif BC 1 t.1 then
 bif BC t.1 6 then
 bif HQ t.2 then
 some (BL t.2.1 0)
 else
 some false
 else
 some false
 else
 some false
end Go.AM.Pure
