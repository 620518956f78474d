import Derived.Test.YtclpadlpcfnfmaaGreatAmPrimW
import Derived.Test.YtclpadlpcfnfmaaGreatAmPure17
/- PRINTED by gen/ of this repo: the functions of the seat as pure functions. -/
namespace Go.AM.Pure
open Go.AM
def EL (xn:Int):Int:=
 (IntKind.wrap .i64 (Gd .u64 (EN .u64 (IntKind.wrap .u64 xn) 1) (IntKind.wrap .u64 (B7 .i64 xn 63))))
def D5.S1 (w_5:Int) (YT:Int) (n9:(List Int)):Option (ByteArray):=
 bif (Bf YT 10) && (decide (10=(List.length n9))) then
 bif (CJ 0 (A7 .i64 YT 1) 10) && (decide (10=(List.length (List.set n9 (Int.toNat YT) (IntKind.wrap .u8 w_5))))) then
 some (ofBytes (List.take ((Int.toNat (A7 .i64 YT 1))-0) (List.drop 0 (List.set n9 (Int.toNat YT) (IntKind.wrap .u8 w_5)))))
 else none
 else none
def D5.t1:Nat->Int->Int->(List Int)->Option (ByteArray)
 | 0=>λ _ _ _=>none
 | _+1=>D5.S1
def D5.S0 (BG:Int->Int->(List Int)->Option (ByteArray)) (self:Int->Int->(List Int)->Option (ByteArray)) (NG:Int) (eM:Int) (J2:(List Int)):Option (ByteArray):=
 bif BC 128 NG then
 bif (Bf eM 10) && (decide (10=(List.length J2))) then
 self (B7 .u64 NG 7) (A7 .i64 eM 1) (List.set J2 (Int.toNat eM) (Fa .u8 (IntKind.wrap .u8 NG) 128))
 else none
 else
 BG NG eM J2
def D5.l0 (BG:Int->Int->(List Int)->Option (ByteArray)):Nat->Int->Int->(List Int)->Option (ByteArray)
 | 0=>λ _ _ _=>none
 | n+1=>D5.S0 BG (D5.l0 BG n)
def D5.S (j0:Int->Int->(List Int)->Option (ByteArray)) (xn:Int):Option (ByteArray):=
 j0 (IntKind.wrap .u64 (EL xn)) 0 [0,0,0,0,0,0,0,0,0,0]
def D5 (xn:Int):Option (ByteArray):=D5.S (D5.l0 (D5.t1 fu) fu) xn
def E5 (word:Int):Int:=
 (IntKind.wrap .i64 (Gd .u64 (B7 .u64 (IntKind.wrap .u64 word) 1) (Bt .u64 0 (Cb .u64 (IntKind.wrap .u64 word) 1))))
def FO.S0 (self:Int->Int->Int->Option (Int)) (eN:Int) (qd:Int) (Rs:Int):Option (Int):=
 bif A8 0 Rs then
 bif BC 0 Rs then
 bif A8 0 (B7 .u64 eN Rs) then
 bif BC 0 Rs then
 self (B7 .u64 eN Rs) (A7 .i64 qd Rs) (GB .i64 Rs 2)
 else none
 else
 self eN qd (GB .i64 Rs 2)
 else none
 else
 some (A7 .i64 qd (IntKind.wrap .i64 eN))
def FO.l0:Nat->Int->Int->Int->Option (Int)
 | 0=>λ _ _ _=>none
 | n+1=>FO.S0 (FO.l0 n)
def FO.S (j0:Int->Int->Int->Option (Int)) (word:Int):Option (Int):=
 j0 (IntKind.wrap .u64 word) 0 32
def FO (word:Int):Option (Int):=FO.S (FO.l0 fu) word
def WJ (xn:Int):Option (Int):=
 (FO (EL xn)).bind λ TB=>
 some (FT 1 (GB .i64 (Bt .i64 (A7 .i64 TB 7) 1) 7))
def F5.S0 (self:ByteArray->Int->Int->Int->Option (Int×Int×Int)) (LH:ByteArray) (NG:Int) (Zlm:Int) (L6:Int):Option (Int×Int×Int):=
 bif A8 L6 Zlm then
 bif Bf L6 (Bg LH) then
 bif BC 0 (CI .i64 7 L6) then
 bif BC 128 (byteAt LH L6) then
 self LH (Fa .u64 NG (EN .u64 (IntKind.wrap .u64 (Pc .u8 (byteAt LH L6) 128)) (CI .i64 7 L6))) Zlm (A7 .i64 L6 1)
 else
 let Ml:=(E5 (IntKind.wrap .i64 (Fa .u64 NG (EN .u64 (IntKind.wrap .u64 (Pc .u8 (byteAt LH L6) 128)) (CI .i64 7 L6)))))
 (WJ Ml).bind λ Ox=>
 bif A9 Ox (A7 .i64 L6 1) then
 bif A8 L6 9 then
 some (Ml,(A7 .i64 L6 1),0)
 else
 bif A9 (byteAt LH L6) 1 then
 some (Ml,(A7 .i64 L6 1),0)
 else
 some (0,0,20)
 else
 some (0,0,20)
 else none
 else none
 else
 some (0,0,20)
def F5.l0:Nat->ByteArray->Int->Int->Int->Option (Int×Int×Int)
 | 0=>λ _ _ _ _=>none
 | n+1=>F5.S0 (F5.l0 n)
def F5.S (j0:ByteArray->Int->Int->Int->Option (Int×Int×Int)) (s:ByteArray):Option (Int×Int×Int):=
 j0 s 0 (Eo (Bg s) 10) 0
def F5 (s:ByteArray):Option (Int×Int×Int):=F5.S (F5.l0 fu) s
def GR.S0 (self:Int->Int->(List Bool)->(List Bool)->Option ((List Bool))) (Zye:Int) (GI:Int) (Zep:(List Bool)) (J2:(List Bool)):Option ((List Bool)):=
 bif A8 GI 64 then
 bif BC 0 GI then
 bif (Bf GI 64) && (decide (64=(List.length J2))) then
 self Zye (A7 .i64 GI 1) Zep (List.set J2 (Int.toNat GI) (A9 (Cb .i64 (B7 .i64 Zye GI) 1) 1))
 else none
 else none
 else
 bif decide ((List.length J2)=64) then
 bif decide ((List.length Zep)=64) then
 bif decide ((List.length J2)=64) then
 some J2
 else none
 else none
 else none
def GR.l0:Nat->Int->Int->(List Bool)->(List Bool)->Option ((List Bool))
 | 0=>λ _ _ _ _=>none
 | n+1=>GR.S0 (GR.l0 n)
def GR.S (j0:Int->Int->(List Bool)->(List Bool)->Option ((List Bool))) (word:Int):Option ((List Bool)):=
 j0 word 0 (List.replicate 64 false) (List.replicate 64 false)
def GR (word:Int):Option ((List Bool)):=GR.S (GR.l0 fu) word
def EY.S0 (self:Int->Int->(List Bool)->Option (Int)) (qe:Int) (GI:Int) (KM:(List Bool)):Option (Int):=
 bif A8 GI 64 then
 bif (Bf GI 64) && (decide (64=(List.length KM))) then
 bif List.getD KM (Int.toNat GI) false then
 bif BC 0 GI then
 self (Fa .i64 qe (EN .i64 1 GI)) (A7 .i64 GI 1) KM
 else none
 else
 self qe (A7 .i64 GI 1) KM
 else none
 else
 some qe
def EY.l0:Nat->Int->Int->(List Bool)->Option (Int)
 | 0=>λ _ _ _=>none
 | n+1=>EY.S0 (EY.l0 n)
def EY.S (j0:Int->Int->(List Bool)->Option (Int)) (b:(List Bool)):Option (Int):=
 j0 0 0 b
def EY (b:(List Bool)):Option (Int):=EY.S (EY.l0 fu) b
def HU.S0 (self:Int->(List Bool)->(List Bool)->Option (Int)) (GI:Int) (KM:(List Bool)) (J2:(List Bool)):Option (Int):=
 bif A8 GI 64 then
 bif (Bf (Bt .i64 GI 1) 64) && (decide (64=(List.length KM))) then
 bif decide (64=(List.length KM)) then
 bif (Bf GI 64) && (decide (64=(List.length J2))) then
 self (A7 .i64 GI 1) KM (List.set J2 (Int.toNat GI) (!(RZ (List.getD KM (Int.toNat (Bt .i64 GI 1)) false) (List.getD KM 63 false))))
 else none
 else none
 else none
 else
 bif decide ((List.length J2)=64) then
 (EY J2).bind λ Ml=>
 some Ml
 else none
def HU.l0:Nat->Int->(List Bool)->(List Bool)->Option (Int)
 | 0=>λ _ _ _=>none
 | n+1=>HU.S0 (HU.l0 n)
def HU.S (j0:Int->(List Bool)->(List Bool)->Option (Int)) (xn:Int):Option (Int):=
 (GR xn).bind λ It=>
 bif decide (64=(List.length It)) then
 j0 1 It (List.set (List.replicate 64 false) 0 (List.getD It 63 false))
 else none
def HU (xn:Int):Option (Int):=HU.S (HU.l0 fu) xn
def Gu.S0 (self:Int->Int->Int->(List Bool)->(List Bool)->Option (Int)) (Vu:Int) (w_3:Int) (R0:Int) (TC:(List Bool)) (K4:(List Bool)):Option (Int):=
 bif A8 R0 64 then
 bif A8 R0 w_3 then
 bif BC 0 Vu then
 bif A8 Vu 64 then
 bif A8 R0 (Bt .i64 64 Vu) then
 bif (Bf (A7 .i64 Vu R0) 64) && (decide (64=(List.length TC))) then
 bif (Bf R0 64) && (decide (64=(List.length K4))) then
 self Vu w_3 (A7 .i64 R0 1) TC (List.set K4 (Int.toNat R0) (List.getD TC (Int.toNat (A7 .i64 Vu R0)) false))
 else none
 else none
 else
 bif decide ((List.length K4)=64) then
 (EY K4).bind λ YU=>
 some YU
 else none
 else
 bif decide ((List.length K4)=64) then
 (EY K4).bind λ YV=>
 some YV
 else none
 else
 bif decide ((List.length K4)=64) then
 (EY K4).bind λ YW=>
 some YW
 else none
 else
 bif decide ((List.length K4)=64) then
 (EY K4).bind λ pv=>
 some pv
 else none
 else
 bif decide ((List.length K4)=64) then
 (EY K4).bind λ py=>
 some py
 else none
def Gu.l0:Nat->Int->Int->Int->(List Bool)->(List Bool)->Option (Int)
 | 0=>λ _ _ _ _ _=>none
 | n+1=>Gu.S0 (Gu.l0 n)
def Gu.S (j0:Int->Int->Int->(List Bool)->(List Bool)->Option (Int)) (word:Int) (Ew:Int) (w:Int):Option (Int):=
 (GR word).bind λ It=>
 j0 Ew w 0 It (List.replicate 64 false)
def Gu (word:Int) (Ew:Int) (w:Int):Option (Int):=Gu.S (Gu.l0 fu) word Ew w
def FP.S0 (self:Int->(List Int)->Option (ByteArray)) (NG:Int) (cZ:(List Int)):Option (ByteArray):=
 (Gu NG 0 7).bind λ TD=>
 (Gu NG 7 64).bind λ Ml=>
 bif A9 Ml 0 then
 bif B1 ((List.length cZ)+1) 1 then
 some (ofBytes (cZ++[(IntKind.wrap .u8 TD)]))
 else none
 else
 bif B1 ((List.length cZ)+1) 1 then
 self Ml (cZ++[(IntKind.wrap .u8 (A7 .i64 128 TD))])
 else none
def FP.l0:Nat->Int->(List Int)->Option (ByteArray)
 | 0=>λ _ _=>none
 | n+1=>FP.S0 (FP.l0 n)
def FP.S (j0:Int->(List Int)->Option (ByteArray)) (xn:Int):Option (ByteArray):=
 (HU xn).bind λ It=>
 j0 It []
def FP (xn:Int):Option (ByteArray):=FP.S (FP.l0 fu) xn
def Hf.S0 (self:Int->Int->Int->(List Bool)->(List Bool)->Option (Int)) (Vv:Int) (w_4:Int) (R1:Int) (NH:(List Bool)) (qf:(List Bool)):Option (Int):=
 bif A8 R1 64 then
 bif A8 R1 w_4 then
 bif BC 0 Vv then
 bif A8 Vv 64 then
 bif A8 R1 (Bt .i64 64 Vv) then
 bif (Bf R1 64) && (decide (64=(List.length qf))) then
 bif (Bf (A7 .i64 Vv R1) 64) && (decide (64=(List.length NH))) then
 self Vv w_4 (A7 .i64 R1 1) (List.set NH (Int.toNat (A7 .i64 Vv R1)) (List.getD qf (Int.toNat R1) false)) qf
 else none
 else none
 else
 bif decide ((List.length NH)=64) then
 (EY NH).bind λ YV=>
 some YV
 else none
 else
 bif decide ((List.length NH)=64) then
 (EY NH).bind λ YW=>
 some YW
 else none
 else
 bif decide ((List.length NH)=64) then
 (EY NH).bind λ pv=>
 some pv
 else none
 else
 bif decide ((List.length NH)=64) then
 (EY NH).bind λ py=>
 some py
 else none
 else
 bif decide ((List.length NH)=64) then
 (EY NH).bind λ Xnf=>
 some Xnf
 else none
def Hf.l0:Nat->Int->Int->Int->(List Bool)->(List Bool)->Option (Int)
 | 0=>λ _ _ _ _ _=>none
 | n+1=>Hf.S0 (Hf.l0 n)
def Hf.S (j0:Int->Int->Int->(List Bool)->(List Bool)->Option (Int)) (word:Int) (Ew:Int) (w:Int) (v:Int):Option (Int):=
 (GR word).bind λ It=>
 (GR v).bind λ TB=>
 j0 Ew w 0 It TB
def Hf (word:Int) (Ew:Int) (w:Int) (v:Int):Option (Int):=Hf.S (Hf.l0 fu) word Ew w v
def Eg.S1 (TC:(List Bool)) (K4:(List Bool)):Option (Int):=
 bif decide (64=(List.length TC)) then
 bif decide (64=(List.length K4)) then
 bif decide ((List.length (List.set K4 63 (List.getD TC 0 false)))=64) then
 (EY (List.set K4 63 (List.getD TC 0 false))).bind λ YU=>
 some YU
 else none
 else none
 else none
def Eg.t1:Nat->(List Bool)->(List Bool)->Option (Int)
 | 0=>λ _ _=>none
 | _+1=>Eg.S1
def Eg.S0 (BG:(List Bool)->(List Bool)->Option (Int)) (self:Int->(List Bool)->(List Bool)->Option (Int)) (GI:Int) (KM:(List Bool)) (J2:(List Bool)):Option (Int):=
 bif A8 GI 63 then
 bif (Bf (A7 .i64 GI 1) 64) && (decide (64=(List.length KM))) then
 bif decide (64=(List.length KM)) then
 bif (Bf GI 64) && (decide (64=(List.length J2))) then
 self (A7 .i64 GI 1) KM (List.set J2 (Int.toNat GI) (!(RZ (List.getD KM (Int.toNat (A7 .i64 GI 1)) false) (List.getD KM 0 false))))
 else none
 else none
 else none
 else
 BG KM J2
def Eg.l0 (BG:(List Bool)->(List Bool)->Option (Int)):Nat->Int->(List Bool)->(List Bool)->Option (Int)
 | 0=>λ _ _ _=>none
 | n+1=>Eg.S0 BG (Eg.l0 BG n)
def Eg.S (j0:Int->(List Bool)->(List Bool)->Option (Int)) (word:Int):Option (Int):=
 (GR word).bind λ It=>
 j0 0 It (List.replicate 64 false)
def Eg (word:Int):Option (Int):=Eg.S (Eg.l0 (Eg.t1 fu) fu) word
def Eb.S0 (self:ByteArray->Int->Int->Option (Int×Int×Int)) (LH:ByteArray) (NG:Int) (Oy:Int):Option (Int×Int×Int):=
 bif A8 Oy (Bg LH) then
 bif A8 Oy 10 then
 bif Bf Oy (Bg LH) then
 (Hf NG (CI .i64 7 Oy) 7 (IntKind.wrap .i64 (Cb .u8 (byteAt LH Oy) 127))).bind λ TD=>
 bif Bf Oy (Bg LH) then
 bif A8 (byteAt LH Oy) 128 then
 (Eg TD).bind λ Ml=>
 (FP Ml).bind λ Ox=>
 bif CJ 0 (A7 .i64 Oy 1) (Bg LH) then
 bif !(Cz Ox (cutS LH 0 (A7 .i64 Oy 1))) then
 some (0,0,20)
 else
 some (Ml,(A7 .i64 Oy 1),0)
 else none
 else
 self LH TD (A7 .i64 Oy 1)
 else none
 else none
 else
 some (0,0,20)
 else
 some (0,0,20)
def Eb.l0:Nat->ByteArray->Int->Int->Option (Int×Int×Int)
 | 0=>λ _ _ _=>none
 | n+1=>Eb.S0 (Eb.l0 n)
def Eb.S (j0:ByteArray->Int->Int->Option (Int×Int×Int)) (s:ByteArray):Option (Int×Int×Int):=
 j0 s 0 0
def Eb (s:ByteArray):Option (Int×Int×Int):=Eb.S (Eb.l0 fu) s
end Go.AM.Pure
