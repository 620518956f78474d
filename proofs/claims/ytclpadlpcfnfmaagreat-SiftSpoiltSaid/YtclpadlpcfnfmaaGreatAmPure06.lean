import Derived.Test.YtclpadlpcfnfmaaGreatAmPrimW
import Derived.Test.YtclpadlpcfnfmaaGreatAmPure17
/- PRINTED by gen/ of this repo: the functions of the seat as pure functions. -/
namespace Go.AM.Pure
open Go.AM
def EL (xn:Int):Int:=
 (IntKind.wrap .i64 (Gd .u64 (EN .u64 (IntKind.wrap .u64 xn) 1) (IntKind.wrap .u64 (B7 .i64 xn 63))))
def D6.S1 (w_5:Int) (YX:Int) (oa:(List Int)):Option (ByteArray):=
 bif (Bf YX 10) && (decide (10=(List.length oa))) then
 bif (CJ 0 (A7 .i64 YX 1) 10) && (decide (10=(List.length (List.set oa (Int.toNat YX) (IntKind.wrap .u8 w_5))))) then
 some (ofBytes (List.take ((Int.toNat (A7 .i64 YX 1))-0) (List.drop 0 (List.set oa (Int.toNat YX) (IntKind.wrap .u8 w_5)))))
 else none
 else none
def D6.t1:Nat->Int->Int->(List Int)->Option (ByteArray)
 | 0=>λ _ _ _=>none
 | _+1=>D6.S1
def D6.S0 (BH:Int->Int->(List Int)->Option (ByteArray)) (self:Int->Int->(List Int)->Option (ByteArray)) (NG:Int) (eN:Int) (J4:(List Int)):Option (ByteArray):=
 bif BC 128 NG then
 bif (Bf eN 10) && (decide (10=(List.length J4))) then
 self (B7 .u64 NG 7) (A7 .i64 eN 1) (List.set J4 (Int.toNat eN) (Fa .u8 (IntKind.wrap .u8 NG) 128))
 else none
 else
 BH NG eN J4
def D6.l0 (BH:Int->Int->(List Int)->Option (ByteArray)):Nat->Int->Int->(List Int)->Option (ByteArray)
 | 0=>λ _ _ _=>none
 | n+1=>D6.S0 BH (D6.l0 BH n)
def D6.S (j0:Int->Int->(List Int)->Option (ByteArray)) (xn:Int):Option (ByteArray):=
 j0 (IntKind.wrap .u64 (EL xn)) 0 [0,0,0,0,0,0,0,0,0,0]
def D6 (xn:Int):Option (ByteArray):=D6.S (D6.l0 (D6.t1 fu) fu) xn
def E5 (word:Int):Int:=
 (IntKind.wrap .i64 (Gd .u64 (B7 .u64 (IntKind.wrap .u64 word) 1) (Bt .u64 0 (Cb .u64 (IntKind.wrap .u64 word) 1))))
def FO.S0 (self:Int->Int->Int->Option (Int)) (eO:Int) (qe:Int) (Rs:Int):Option (Int):=
 bif A8 0 Rs then
 bif BC 0 Rs then
 bif A8 0 (B7 .u64 eO Rs) then
 bif BC 0 Rs then
 self (B7 .u64 eO Rs) (A7 .i64 qe Rs) (GC .i64 Rs 2)
 else none
 else
 self eO qe (GC .i64 Rs 2)
 else none
 else
 some (A7 .i64 qe (IntKind.wrap .i64 eO))
def FO.l0:Nat->Int->Int->Int->Option (Int)
 | 0=>λ _ _ _=>none
 | n+1=>FO.S0 (FO.l0 n)
def FO.S (j0:Int->Int->Int->Option (Int)) (word:Int):Option (Int):=
 j0 (IntKind.wrap .u64 word) 0 32
def FO (word:Int):Option (Int):=FO.S (FO.l0 fu) word
def WL (xn:Int):Option (Int):=
 (FO (EL xn)).bind λ TB=>
 some (FT 1 (GC .i64 (Bt .i64 (A7 .i64 TB 7) 1) 7))
def F5.S0 (self:ByteArray->Int->Int->Int->Option (Int×Int×Int)) (LJ:ByteArray) (NG:Int) (Zkm:Int) (L7:Int):Option (Int×Int×Int):=
 bif A8 L7 Zkm then
 bif Bf L7 (Bg LJ) then
 bif BC 0 (CI .i64 7 L7) then
 bif BC 128 (byteAt LJ L7) then
 self LJ (Fa .u64 NG (EN .u64 (IntKind.wrap .u64 (Pc .u8 (byteAt LJ L7) 128)) (CI .i64 7 L7))) Zkm (A7 .i64 L7 1)
 else
 let Mm:=(E5 (IntKind.wrap .i64 (Fa .u64 NG (EN .u64 (IntKind.wrap .u64 (Pc .u8 (byteAt LJ L7) 128)) (CI .i64 7 L7)))))
 (WL Mm).bind λ Oy=>
 bif A9 Oy (A7 .i64 L7 1) then
 bif A8 L7 9 then
 some (Mm,(A7 .i64 L7 1),0)
 else
 bif A9 (byteAt LJ L7) 1 then
 some (Mm,(A7 .i64 L7 1),0)
 else
 some (0,0,20)
 else
 some (0,0,20)
 else none
 else none
 else
 some (0,0,20)
def F5.l0:Nat->ByteArray->Int->Int->Int->Option (Int×Int×Int)
 | 0=>λ _ _ _ _=>none
 | n+1=>F5.S0 (F5.l0 n)
def F5.S (j0:ByteArray->Int->Int->Int->Option (Int×Int×Int)) (s:ByteArray):Option (Int×Int×Int):=
 j0 s 0 (Eo (Bg s) 10) 0
def F5 (s:ByteArray):Option (Int×Int×Int):=F5.S (F5.l0 fu) s
def GR.S0 (self:Int->Int->(List Bool)->(List Bool)->Option ((List Bool))) (Zxe:Int) (GI:Int) (Zdp:(List Bool)) (J4:(List Bool)):Option ((List Bool)):=
 bif A8 GI 64 then
 bif BC 0 GI then
 bif (Bf GI 64) && (decide (64=(List.length J4))) then
 self Zxe (A7 .i64 GI 1) Zdp (List.set J4 (Int.toNat GI) (A9 (Cb .i64 (B7 .i64 Zxe GI) 1) 1))
 else none
 else none
 else
 bif decide ((List.length J4)=64) then
 bif decide ((List.length Zdp)=64) then
 bif decide ((List.length J4)=64) then
 some J4
 else none
 else none
 else none
def GR.l0:Nat->Int->Int->(List Bool)->(List Bool)->Option ((List Bool))
 | 0=>λ _ _ _ _=>none
 | n+1=>GR.S0 (GR.l0 n)
def GR.S (j0:Int->Int->(List Bool)->(List Bool)->Option ((List Bool))) (word:Int):Option ((List Bool)):=
 j0 word 0 (List.replicate 64 false) (List.replicate 64 false)
def GR (word:Int):Option ((List Bool)):=GR.S (GR.l0 fu) word
def EY.S0 (self:Int->Int->(List Bool)->Option (Int)) (qf:Int) (GI:Int) (KN:(List Bool)):Option (Int):=
 bif A8 GI 64 then
 bif (Bf GI 64) && (decide (64=(List.length KN))) then
 bif List.getD KN (Int.toNat GI) false then
 bif BC 0 GI then
 self (Fa .i64 qf (EN .i64 1 GI)) (A7 .i64 GI 1) KN
 else none
 else
 self qf (A7 .i64 GI 1) KN
 else none
 else
 some qf
def EY.l0:Nat->Int->Int->(List Bool)->Option (Int)
 | 0=>λ _ _ _=>none
 | n+1=>EY.S0 (EY.l0 n)
def EY.S (j0:Int->Int->(List Bool)->Option (Int)) (b:(List Bool)):Option (Int):=
 j0 0 0 b
def EY (b:(List Bool)):Option (Int):=EY.S (EY.l0 fu) b
def HU.S0 (self:Int->(List Bool)->(List Bool)->Option (Int)) (GI:Int) (KN:(List Bool)) (J4:(List Bool)):Option (Int):=
 bif A8 GI 64 then
 bif (Bf (Bt .i64 GI 1) 64) && (decide (64=(List.length KN))) then
 bif decide (64=(List.length KN)) then
 bif (Bf GI 64) && (decide (64=(List.length J4))) then
 self (A7 .i64 GI 1) KN (List.set J4 (Int.toNat GI) (!(R1 (List.getD KN (Int.toNat (Bt .i64 GI 1)) false) (List.getD KN 63 false))))
 else none
 else none
 else none
 else
 bif decide ((List.length J4)=64) then
 (EY J4).bind λ Mm=>
 some Mm
 else none
def HU.l0:Nat->Int->(List Bool)->(List Bool)->Option (Int)
 | 0=>λ _ _ _=>none
 | n+1=>HU.S0 (HU.l0 n)
def HU.S (j0:Int->(List Bool)->(List Bool)->Option (Int)) (xn:Int):Option (Int):=
 (GR xn).bind λ It=>
 bif decide (64=(List.length It)) then
 j0 1 It (List.set (List.replicate 64 false) 0 (List.getD It 63 false))
 else none
def HU (xn:Int):Option (Int):=HU.S (HU.l0 fu) xn
def Gv.S0 (self:Int->Int->Int->(List Bool)->(List Bool)->Option (Int)) (Vu:Int) (w_3:Int) (R2:Int) (TC:(List Bool)) (K6:(List Bool)):Option (Int):=
 bif A8 R2 64 then
 bif A8 R2 w_3 then
 bif BC 0 Vu then
 bif A8 Vu 64 then
 bif A8 R2 (Bt .i64 64 Vu) then
 bif (Bf (A7 .i64 Vu R2) 64) && (decide (64=(List.length TC))) then
 bif (Bf R2 64) && (decide (64=(List.length K6))) then
 self Vu w_3 (A7 .i64 R2 1) TC (List.set K6 (Int.toNat R2) (List.getD TC (Int.toNat (A7 .i64 Vu R2)) false))
 else none
 else none
 else
 bif decide ((List.length K6)=64) then
 (EY K6).bind λ YY=>
 some YY
 else none
 else
 bif decide ((List.length K6)=64) then
 (EY K6).bind λ YZ=>
 some YZ
 else none
 else
 bif decide ((List.length K6)=64) then
 (EY K6).bind λ Y0=>
 some Y0
 else none
 else
 bif decide ((List.length K6)=64) then
 (EY K6).bind λ py=>
 some py
 else none
 else
 bif decide ((List.length K6)=64) then
 (EY K6).bind λ pz=>
 some pz
 else none
def Gv.l0:Nat->Int->Int->Int->(List Bool)->(List Bool)->Option (Int)
 | 0=>λ _ _ _ _ _=>none
 | n+1=>Gv.S0 (Gv.l0 n)
def Gv.S (j0:Int->Int->Int->(List Bool)->(List Bool)->Option (Int)) (word:Int) (Ey:Int) (w:Int):Option (Int):=
 (GR word).bind λ It=>
 j0 Ey w 0 It (List.replicate 64 false)
def Gv (word:Int) (Ey:Int) (w:Int):Option (Int):=Gv.S (Gv.l0 fu) word Ey w
def FP.S0 (self:Int->(List Int)->Option (ByteArray)) (NG:Int) (c8:(List Int)):Option (ByteArray):=
 (Gv NG 0 7).bind λ TD=>
 (Gv NG 7 64).bind λ Mm=>
 bif A9 Mm 0 then
 bif B2 ((List.length c8)+1) 1 then
 some (ofBytes (c8++[(IntKind.wrap .u8 TD)]))
 else none
 else
 bif B2 ((List.length c8)+1) 1 then
 self Mm (c8++[(IntKind.wrap .u8 (A7 .i64 128 TD))])
 else none
def FP.l0:Nat->Int->(List Int)->Option (ByteArray)
 | 0=>λ _ _=>none
 | n+1=>FP.S0 (FP.l0 n)
def FP.S (j0:Int->(List Int)->Option (ByteArray)) (xn:Int):Option (ByteArray):=
 (HU xn).bind λ It=>
 j0 It []
def FP (xn:Int):Option (ByteArray):=FP.S (FP.l0 fu) xn
def Hf.S0 (self:Int->Int->Int->(List Bool)->(List Bool)->Option (Int)) (Vv:Int) (w_4:Int) (R3:Int) (NH:(List Bool)) (qg:(List Bool)):Option (Int):=
 bif A8 R3 64 then
 bif A8 R3 w_4 then
 bif BC 0 Vv then
 bif A8 Vv 64 then
 bif A8 R3 (Bt .i64 64 Vv) then
 bif (Bf R3 64) && (decide (64=(List.length qg))) then
 bif (Bf (A7 .i64 Vv R3) 64) && (decide (64=(List.length NH))) then
 self Vv w_4 (A7 .i64 R3 1) (List.set NH (Int.toNat (A7 .i64 Vv R3)) (List.getD qg (Int.toNat R3) false)) qg
 else none
 else none
 else
 bif decide ((List.length NH)=64) then
 (EY NH).bind λ YZ=>
 some YZ
 else none
 else
 bif decide ((List.length NH)=64) then
 (EY NH).bind λ Y0=>
 some Y0
 else none
 else
 bif decide ((List.length NH)=64) then
 (EY NH).bind λ py=>
 some py
 else none
 else
 bif decide ((List.length NH)=64) then
 (EY NH).bind λ pz=>
 some pz
 else none
 else
 bif decide ((List.length NH)=64) then
 (EY NH).bind λ Xmf=>
 some Xmf
 else none
def Hf.l0:Nat->Int->Int->Int->(List Bool)->(List Bool)->Option (Int)
 | 0=>λ _ _ _ _ _=>none
 | n+1=>Hf.S0 (Hf.l0 n)
def Hf.S (j0:Int->Int->Int->(List Bool)->(List Bool)->Option (Int)) (word:Int) (Ey:Int) (w:Int) (v:Int):Option (Int):=
 (GR word).bind λ It=>
 (GR v).bind λ TB=>
 j0 Ey w 0 It TB
def Hf (word:Int) (Ey:Int) (w:Int) (v:Int):Option (Int):=Hf.S (Hf.l0 fu) word Ey w v
def Eg.S1 (TC:(List Bool)) (K6:(List Bool)):Option (Int):=
 bif decide (64=(List.length TC)) then
 bif decide (64=(List.length K6)) then
 bif decide ((List.length (List.set K6 63 (List.getD TC 0 false)))=64) then
 (EY (List.set K6 63 (List.getD TC 0 false))).bind λ YY=>
 some YY
 else none
 else none
 else none
def Eg.t1:Nat->(List Bool)->(List Bool)->Option (Int)
 | 0=>λ _ _=>none
 | _+1=>Eg.S1
def Eg.S0 (BH:(List Bool)->(List Bool)->Option (Int)) (self:Int->(List Bool)->(List Bool)->Option (Int)) (GI:Int) (KN:(List Bool)) (J4:(List Bool)):Option (Int):=
 bif A8 GI 63 then
 bif (Bf (A7 .i64 GI 1) 64) && (decide (64=(List.length KN))) then
 bif decide (64=(List.length KN)) then
 bif (Bf GI 64) && (decide (64=(List.length J4))) then
 self (A7 .i64 GI 1) KN (List.set J4 (Int.toNat GI) (!(R1 (List.getD KN (Int.toNat (A7 .i64 GI 1)) false) (List.getD KN 0 false))))
 else none
 else none
 else none
 else
 BH KN J4
def Eg.l0 (BH:(List Bool)->(List Bool)->Option (Int)):Nat->Int->(List Bool)->(List Bool)->Option (Int)
 | 0=>λ _ _ _=>none
 | n+1=>Eg.S0 BH (Eg.l0 BH n)
def Eg.S (j0:Int->(List Bool)->(List Bool)->Option (Int)) (word:Int):Option (Int):=
 (GR word).bind λ It=>
 j0 0 It (List.replicate 64 false)
def Eg (word:Int):Option (Int):=Eg.S (Eg.l0 (Eg.t1 fu) fu) word
def Eb.S0 (self:ByteArray->Int->Int->Option (Int×Int×Int)) (LJ:ByteArray) (NG:Int) (Oz:Int):Option (Int×Int×Int):=
 bif A8 Oz (Bg LJ) then
 bif A8 Oz 10 then
 bif Bf Oz (Bg LJ) then
 (Hf NG (CI .i64 7 Oz) 7 (IntKind.wrap .i64 (Cb .u8 (byteAt LJ Oz) 127))).bind λ TD=>
 bif Bf Oz (Bg LJ) then
 bif A8 (byteAt LJ Oz) 128 then
 (Eg TD).bind λ Mm=>
 (FP Mm).bind λ Oy=>
 bif CJ 0 (A7 .i64 Oz 1) (Bg LJ) then
 bif !(Cz Oy (cutS LJ 0 (A7 .i64 Oz 1))) then
 some (0,0,20)
 else
 some (Mm,(A7 .i64 Oz 1),0)
 else none
 else
 self LJ TD (A7 .i64 Oz 1)
 else none
 else none
 else
 some (0,0,20)
 else
 some (0,0,20)
def Eb.l0:Nat->ByteArray->Int->Int->Option (Int×Int×Int)
 | 0=>λ _ _ _=>none
 | n+1=>Eb.S0 (Eb.l0 n)
def Eb.S (j0:ByteArray->Int->Int->Option (Int×Int×Int)) (s:ByteArray):Option (Int×Int×Int):=
 j0 s 0 0
def Eb (s:ByteArray):Option (Int×Int×Int):=Eb.S (Eb.l0 fu) s
end Go.AM.Pure
