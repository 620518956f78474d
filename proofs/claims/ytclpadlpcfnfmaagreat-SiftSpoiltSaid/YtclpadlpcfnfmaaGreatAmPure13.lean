import Derived.Test.YtclpadlpcfnfmaaGreatAmPure06
/- PRINTED by gen/ of this repo: the functions of the seat as pure functions. -/
namespace Go.AM.Pure
open Go.AM
abbrev Bc:Type:=List Int
abbrev Oi:Type:=Int×Int
abbrev Ho:Type:=List Bool
abbrev Cn:Type:=List ByteArray
abbrev Xkf:Type:=Int×ByteArray
abbrev DN:Type:=ByteArray×Int
abbrev Fj:Type:=List Oi
abbrev Dp:Type:=Bc×Int
abbrev Zbp:Type:=Int×Oi
abbrev Xlf:Type:=ByteArray×Bc
abbrev Jd:Type:=Cn×Int
abbrev RP:Type:=Int×Xkf
abbrev MK:Type:=Bc×Bc
abbrev Eu:Type:=List Zbp
abbrev Oj:Type:=Int×Zbp
abbrev Nu:Type:=Cn×Bc
abbrev CD:Type:=List RP
abbrev Vt:Type:=Int×RP
abbrev Ka:Type:=CD×Int
abbrev Tn:Type:=Int×CD
abbrev Qy:Type:=ByteArray×CD
abbrev Xmf:Type:=Fj×MK
abbrev La:Type:=Int×Xmf
abbrev Jz:Type:=Vt×Xlf
abbrev KD:Type:=Jz
abbrev Nt:Type:=La×Int
abbrev Es.A0:=CD->Int->Option Bool
abbrev Es.A1:=CD->Int->Int->Option Bool
def Es.S1 (self:Es.A1):Es.A1:=λ x3 x4 x5=>
 bif A8 x5 (AZ x3) then
 bif Bf x5 (AZ x3) then
 bif !(HQ (nth x3 x5 (0,0,eB))) then
 some false
 else
 bif Bf x5 (AZ x3) then
 bif BK (nth x3 x5 (0,0,eB)).1 0 then
 bif Bf x5 (AZ x3) then
 bif BK (nth x3 x5 (0,0,eB)).1 x4 then
 some false
 else
 self x3 x4 (A7 .i64 x5 1)
 else none
 else
 self x3 x4 (A7 .i64 x5 1)
 else none
 else none
 else
 some true
def Es.l1:Nat->Es.A1
 | 0=>λ _ _ _=>none
 | n+1=>Es.S1 (Es.l1 n)
def Es.S0 (j1:Es.A1):Es.A0:=λ x1 x2=>
 j1 x1 x2 0
def Es.t0:Nat->Es.A0
 | 0=>λ _ _=>none
 | n+1=>Es.S0 (Es.l1 n)
def Es.S (j0:Es.A0) (l:CD) (kind:Int):Option Bool:=
 bif A8 (AZ l) 1 then
 some false
 else
 bif A8 64 (AZ l) then
 some false
 else
 bif BK kind 1 then
 bif BK kind 2 then
 some false
 else
 j0 l kind
 else
 j0 l kind
def Es (l:CD) (kind:Int):Option Bool:=Es.S (Es.t0 fu) l kind
abbrev GR.A0:=Int->Int->Ho->Ho->Option (Ho)
abbrev GP.A0:=Int->Ho->Option Int
def GP.S0 (self:GP.A0):GP.A0:=λ x2 x3=>
 bif BC 0 x2 then
 bif (Bf x2 64) && (decide (64=(List.length x3))) then
 bif List.getD x3 (Int.toNat x2) false then
 some (A7 .i64 x2 1)
 else
 self (Bt .i64 x2 1) x3
 else none
 else
 some 0
def GP.l0:Nat->GP.A0
 | 0=>λ _ _=>none
 | n+1=>GP.S0 (GP.l0 n)
def GP.S (j0:GP.A0) (word:Int):Option Int:=
 (GR word).bind λ x1=>
 j0 63 x1
def GP (word:Int):Option Int:=GP.S (GP.l0 fu) word
abbrev Gi.A0:=Bc->Int->Int->Option Int
def Gi.S0 (self:Gi.A0):Gi.A0:=λ x1 x2 x3=>
 bif A8 x3 (AZ x1) then
 bif Bf x3 (AZ x1) then
 (GP (nth x1 x3 0)).bind λ x4=>
 self x1 (FT x2 x4) (A7 .i64 x3 1)
 else none
 else
 some x2
def Gi.l0:Nat->Gi.A0
 | 0=>λ _ _ _=>none
 | n+1=>Gi.S0 (Gi.l0 n)
def Gi.S (j0:Gi.A0) (l:Bc):Option Int:=
 j0 l 0 0
def Gi (l:Bc):Option Int:=Gi.S (Gi.l0 fu) l
def PJ (xn width:Int):Int:=
 bif A8 xn 1 then
 0
 else
 bif A8 65536 xn then
 0
 else
 bif A8 width 1 then
 0
 else
 bif A8 64 width then
 0
 else
 (GB .i64 (A7 .i64 (CI .i64 xn width) 7) 8)
def PJ.o (xn width:Int):Option Int:=
 bif A8 xn 1 then
 some 0
 else
 bif A8 65536 xn then
 some 0
 else
 bif A8 width 1 then
 some 0
 else
 bif A8 64 width then
 some 0
 else
 some (GB .i64 (A7 .i64 (CI .i64 xn width) 7) 8)
abbrev Dn.A0:=Bc->Int->Int->Bc->Option DN
abbrev Dn.A1:=Bc->Int->Int->Int->Bc->Option DN
def Dn.S1 (CS:Dn.A0) (self:Dn.A1):Dn.A1:=λ x7 x8 x9 Bl BI=>
 bif A8 Bl x8 then
 bif Bf x9 (AZ x7) then
 bif BC 0 Bl then
 bif A9 (Cb .i64 (B7 .i64 (nth x7 x9 0) Bl) 1) 1 then
 bif Bf (GB .i64 (A7 .i64 (CI .i64 x9 x8) Bl) 8) (AZ BI) then
 bif BC 0 (Ol (A7 .i64 (CI .i64 x9 x8) Bl) 8) then
 bif Bf (GB .i64 (A7 .i64 (CI .i64 x9 x8) Bl) 8) (AZ BI) then
 self x7 x8 x9 (A7 .i64 Bl 1) (List.set BI (Int.toNat (GB .i64 (A7 .i64 (CI .i64 x9 x8) Bl) 8)) (Fa .u8 (List.getD BI (Int.toNat (GB .i64 (A7 .i64 (CI .i64 x9 x8) Bl) 8)) 0) (EN .u8 1 (Ol (A7 .i64 (CI .i64 x9 x8) Bl) 8))))
 else none
 else none
 else none
 else
 self x7 x8 x9 (A7 .i64 Bl 1) BI
 else none
 else none
 else
 CS x7 x8 (A7 .i64 x9 1) BI
def Dn.l1 (CS:Dn.A0):Nat->Dn.A1
 | 0=>λ _ _ _ _ _=>none
 | n+1=>Dn.S1 CS (Dn.l1 CS n)
def Dn.S0 (j1:Dn.A1):Dn.A0:=λ x3 x4 x5 x6=>
 bif A8 x5 (AZ x3) then
 j1 x3 x4 x5 0 x6
 else
 some ((ofBytes x6),0)
def Dn.l0:Nat->Dn.A0
 | 0=>λ _ _ _ _=>none
 | n+1=>Dn.S0 (Dn.l1 (Dn.l0 n) n)
def Dn.S (j0:Dn.A0) (l:Bc) (width:Int):Option DN:=
 bif A8 width 0 then
 some (eB,1)
 else
 bif A8 64 width then
 some (eB,1)
 else
 bif A8 65536 (AZ l) then
 some (eB,1)
 else
 (Gi l).bind λ x1=>
 bif A8 width x1 then
 some (eB,1)
 else
 let x2:=(PJ (AZ l) width)
 bif (BC 0 x2) && (B1 (Int.toNat x2) 1) then
 j0 l width 0 (List.replicate (Int.toNat x2) (0:Int))
 else none
def Dn (l:Bc) (width:Int):Option DN:=Dn.S (Dn.l0 fu) l width
abbrev Ef.A0:=CD->CD->Bc->Int->Option Qy
abbrev Ef.A1:=CD->CD->Bc->Option Qy
def Ef.S1:Ef.A1:=λ x5 x6 x7=>
 bif A9 (AZ x6) (AZ x5) then
 some (eB,x6)
 else
 (Dn x7 1).bind λ x8=>
 some (x8.1,x6)
def Ef.t1:Nat->Ef.A1
 | 0=>λ _ _ _=>none
 | _+1=>Ef.S1
def Ef.S0 (BG:Ef.A1) (self:Ef.A0):Ef.A0:=λ x1 x2 x3 x4=>
 bif A8 x4 (AZ x1) then
 bif Bf x4 (AZ x1) then
 bif A9 (nth x1 x4 (0,0,eB)).1 0 then
 bif B1 ((List.length x3)+1) 8 then
 self x1 x2 (x3++[1]) (A7 .i64 x4 1)
 else none
 else
 bif B1 ((List.length x3)+1) 8 then
 bif Bf x4 (AZ x1) then
 bif B1 ((List.length x2)+1) 32 then
 self x1 (x2++[(nth x1 x4 (0,0,eB))]) (x3++[0]) (A7 .i64 x4 1)
 else none
 else none
 else none
 else none
 else
 BG x1 x2 x3
def Ef.l0 (BG:Ef.A1):Nat->Ef.A0
 | 0=>λ _ _ _ _=>none
 | n+1=>Ef.S0 BG (Ef.l0 BG n)
def Ef.S (j0:Ef.A0) (l:CD):Option Qy:=
 j0 l [] [] 0
def Ef (l:CD):Option Qy:=Ef.S (Ef.l0 (Ef.t1 fu) fu) l
abbrev HH.A0:=CD->Bc->Int->Option (Bc)
def HH.S0 (self:HH.A0):HH.A0:=λ x1 x2 x3=>
 bif A8 x3 (AZ x1) then
 bif Bf x3 (AZ x1) then
 bif B1 ((List.length x2)+1) 8 then
 self x1 (x2++[(nth x1 x3 (0,0,eB)).2.1]) (A7 .i64 x3 1)
 else none
 else none
 else
 some x2
def HH.l0:Nat->HH.A0
 | 0=>λ _ _ _=>none
 | n+1=>HH.S0 (HH.l0 n)
def HH.S (j0:HH.A0) (l:CD):Option (Bc):=
 j0 l [] 0
def HH (l:CD):Option (Bc):=HH.S (HH.l0 fu) l
abbrev DV.A0:=Bc->Bc->Int->Option ByteArray
abbrev DV.A1:=Bc->Bc->Int->Int->Option ByteArray
def DV.S1 (CS:DV.A0) (self:DV.A1):DV.A1:=λ x4 x5 x6 x7=>
 bif A8 x7 8 then
 bif Bf x6 (AZ x4) then
 bif BC 0 (CI .i64 8 x7) then
 bif B1 ((List.length x5)+1) 1 then
 self x4 (x5++[(IntKind.wrap .u8 (Cb .i64 (B7 .i64 (nth x4 x6 0) (CI .i64 8 x7)) 255))]) x6 (A7 .i64 x7 1)
 else none
 else none
 else none
 else
 CS x4 x5 (A7 .i64 x6 1)
def DV.l1 (CS:DV.A0):Nat->DV.A1
 | 0=>λ _ _ _ _=>none
 | n+1=>DV.S1 CS (DV.l1 CS n)
def DV.S0 (j1:DV.A1):DV.A0:=λ x1 x2 x3=>
 bif A8 x3 (AZ x1) then
 j1 x1 x2 x3 0
 else
 some (ofBytes x2)
def DV.l0:Nat->DV.A0
 | 0=>λ _ _ _=>none
 | n+1=>DV.S0 (DV.l1 (DV.l0 n) n)
def DV.S (j0:DV.A0) (l:Bc):Option ByteArray:=
 j0 l [] 0
def DV (l:Bc):Option ByteArray:=DV.S (DV.l0 fu) l
abbrev GS.A0:=Bc->Int->Eu->Option (Eu)
def GS.S0 (self:GS.A0):GS.A0:=λ x1 x2 x3=>
 bif A8 x2 (AZ x1) then
 bif BC (AZ x1) 65536 then
 bif A8 0 x2 then
 bif Bf x2 (AZ x1) then
 bif Bf (Bt .i64 x2 1) (AZ x1) then
 bif A9 (nth x1 x2 0) (nth x1 (Bt .i64 x2 1) 0) then
 bif Bf (Bt .i64 (AZ x3) 1) (AZ x3) then
 bif Bf (Bt .i64 (AZ x3) 1) (AZ x3) then
 self x1 (A7 .i64 x2 1) (List.set x3 (Int.toNat (Bt .i64 (AZ x3) 1)) ((List.getD x3 (Int.toNat (Bt .i64 (AZ x3) 1)) (0,0,0)).1,(List.getD x3 (Int.toNat (Bt .i64 (AZ x3) 1)) (0,0,0)).2.1,(A7 .i64 (List.getD x3 (Int.toNat (Bt .i64 (AZ x3) 1)) (0,0,0)).2.2 1)))
 else none
 else none
 else
 bif Bf x2 (AZ x1) then
 bif B1 ((List.length x3)+1) 24 then
 self x1 (A7 .i64 x2 1) (x3++[((nth x1 x2 0),x2,1)])
 else none
 else none
 else none
 else none
 else
 bif Bf x2 (AZ x1) then
 bif B1 ((List.length x3)+1) 24 then
 self x1 (A7 .i64 x2 1) (x3++[((nth x1 x2 0),x2,1)])
 else none
 else none
 else
 some x3
 else
 some x3
def GS.l0:Nat->GS.A0
 | 0=>λ _ _ _=>none
 | n+1=>GS.S0 (GS.l0 n)
def GS.S (j0:GS.A0) (l:Bc):Option (Eu):=
 j0 l 0 []
def GS (l:Bc):Option (Eu):=GS.S (GS.l0 fu) l
abbrev EZ.A0:=Eu->Int->Int->Option Bool
def EZ.S0 (self:EZ.A0):EZ.A0:=λ x1 x2 x3=>
 bif A8 x3 (AZ x1) then
 bif Bf x3 (AZ x1) then
 bif BK (nth x1 x3 (0,0,0)).2.1 x2 then
 some false
 else
 bif Bf x3 (AZ x1) then
 bif A8 (nth x1 x3 (0,0,0)).2.2 1 then
 some false
 else
 bif Bf x3 (AZ x1) then
 bif A8 (Bt .i64 65536 x2) (nth x1 x3 (0,0,0)).2.2 then
 some false
 else
 bif A8 0 x3 then
 bif Bf x3 (AZ x1) then
 bif Bf (Bt .i64 x3 1) (AZ x1) then
 bif A9 (nth x1 x3 (0,0,0)).1 (nth x1 (Bt .i64 x3 1) (0,0,0)).1 then
 some false
 else
 bif Bf x3 (AZ x1) then
 self x1 (A7 .i64 x2 (nth x1 x3 (0,0,0)).2.2) (A7 .i64 x3 1)
 else none
 else none
 else none
 else
 bif Bf x3 (AZ x1) then
 self x1 (A7 .i64 x2 (nth x1 x3 (0,0,0)).2.2) (A7 .i64 x3 1)
 else none
 else none
 else none
 else none
 else
 some true
def EZ.l0:Nat->EZ.A0
 | 0=>λ _ _ _=>none
 | n+1=>EZ.S0 (EZ.l0 n)
def EZ.S (j0:EZ.A0) (l:Eu):Option Bool:=
 j0 l 0 0
def EZ (l:Eu):Option Bool:=EZ.S (EZ.l0 fu) l
abbrev EY.A0:=Int->Int->Ho->Option Int
abbrev HU.A0:=Int->Ho->Ho->Option Int
abbrev Gu.A0:=Int->Int->Int->Ho->Ho->Option Int
abbrev FP.A0:=Int->Bc->Option ByteArray
abbrev Gl.A0:=Eu->ByteArray->Int->Option DN
def Gl.S0 (self:Gl.A0):Gl.A0:=λ x2 x3 x4=>
 bif A8 x4 (AZ x2) then
 bif Bf x4 (AZ x2) then
 (FP (nth x2 x4 (0,0,0)).1).bind λ x5=>
 bif Dh x3 x5 then
 bif Bf x4 (AZ x2) then
 (FP (nth x2 x4 (0,0,0)).2.2).bind λ x6=>
 bif Dh (D8 x3 x5) x6 then
 self x2 (D8 (D8 x3 x5) x6) (A7 .i64 x4 1)
 else none
 else none
 else none
 else none
 else
 some (x3,0)
def Gl.l0:Nat->Gl.A0
 | 0=>λ _ _ _=>none
 | n+1=>Gl.S0 (Gl.l0 n)
def Gl.S (j0:Gl.A0) (l:Eu):Option DN:=
 (EZ l).bind λ x1=>
 bif !x1 then
 some (eB,1)
 else
 j0 l eB 0
def Gl (l:Eu):Option DN:=Gl.S (Gl.l0 fu) l
abbrev Hz.A0:=Bc->Bc->Int->Option (Bc)
def Hz.S0 (self:Hz.A0):Hz.A0:=λ x1 x2 x3=>
 bif A8 x3 (AZ x1) then
 bif Bf x3 (AZ x1) then
 bif Bf (Bt .i64 x3 1) (AZ x1) then
 bif B1 ((List.length x2)+1) 8 then
 self x1 (x2++[(Bt .i64 (nth x1 x3 0) (nth x1 (Bt .i64 x3 1) 0))]) (A7 .i64 x3 1)
 else none
 else none
 else none
 else
 some x2
def Hz.l0:Nat->Hz.A0
 | 0=>λ _ _ _=>none
 | n+1=>Hz.S0 (Hz.l0 n)
def Hz.S (j0:Hz.A0) (l:Bc):Option (Bc):=
 j0 l [] 1
def Hz (l:Bc):Option (Bc):=Hz.S (Hz.l0 fu) l
abbrev Gv.A0:=Bc->Int->Int->Option Int
def Gv.S0 (self:Gv.A0):Gv.A0:=λ x1 x2 x3=>
 bif A8 x3 (AZ x1) then
 bif Bf x3 (AZ x1) then
 self x1 (Eo x2 (nth x1 x3 0)) (A7 .i64 x3 1)
 else none
 else
 some x2
def Gv.l0:Nat->Gv.A0
 | 0=>λ _ _ _=>none
 | n+1=>Gv.S0 (Gv.l0 n)
def Gv.S (j0:Gv.A0) (l:Bc):Option Int:=
 bif Bf 0 (AZ l) then
 j0 l (nth l 0 0) 1
 else none
def Gv (l:Bc):Option Int:=Gv.S (Gv.l0 fu) l
abbrev DU.A0:=ByteArray->Bc->Int->Bc->Int->Option DN
abbrev DU.A1:=ByteArray->Int->Bc->Option DN
def DU.S1:DU.A1:=λ x9 Bl BI=>
 (Gi BI).bind λ B0=>
 (Dn BI B0).bind λ BS=>
 (FP Bl).bind λ B2=>
 bif Dh x9 B2 then
 bif Dh (D8 x9 B2) (ofBytes [(IntKind.wrap .u8 B0)]) then
 bif Dh (D8 (D8 x9 B2) (ofBytes [(IntKind.wrap .u8 B0)])) BS.1 then
 some ((D8 (D8 (D8 x9 B2) (ofBytes [(IntKind.wrap .u8 B0)])) BS.1),0)
 else none
 else none
 else none
def DU.t1:Nat->DU.A1
 | 0=>λ _ _ _=>none
 | _+1=>DU.S1
def DU.S0 (BG:DU.A1) (self:DU.A0):DU.A0:=λ x4 x5 x6 x7 x8=>
 bif A8 x8 (AZ x5) then
 bif Bf x8 (AZ x5) then
 bif B1 ((List.length x7)+1) 8 then
 self x4 x5 x6 (x7++[(Bt .i64 (nth x5 x8 0) x6)]) (A7 .i64 x8 1)
 else none
 else none
 else
 BG x4 x6 x7
def DU.l0 (BG:DU.A1):Nat->DU.A0
 | 0=>λ _ _ _ _ _=>none
 | n+1=>DU.S0 BG (DU.l0 BG n)
def DU.S (j0:DU.A0) (l:Bc):Option DN:=
 bif A8 65536 (AZ l) then
 some (eB,1)
 else
 bif A9 (AZ l) 0 then
 some (eB,0)
 else
 bif Bf 0 (AZ l) then
 (FP (nth l 0 0)).bind λ x1=>
 bif A9 (AZ l) 1 then
 some (x1,0)
 else
 (Hz l).bind λ x2=>
 (Gv x2).bind λ x3=>
 j0 x1 x2 x3 [] 0
 else none
def DU (l:Bc):Option DN:=DU.S (DU.l0 (DU.t1 fu) fu) l
abbrev BD.A0:=Bc->Bc->Bc->Int->Option MK
abbrev BD.A1:=Bc->Bc->Bc->Int->Int->Option MK
abbrev BD.A2:=Bc->Bc->Bc->Int->Int->Option MK
abbrev BD.A3:=Bc->Bc->Bc->Int->Int->Option MK
abbrev BD.A4:=Bc->Bc->Bc->Option MK
abbrev BD.A5:=Bc->Bc->Bc->Int->Option MK
abbrev BD.A6:=Bc->Bc->Bc->Int->Int->Option MK
def BD.S6 (Qz:BD.A5) (self:BD.A6):BD.A6:=λ JJ LD MU LF LG=>
 bif Bf LG (AZ LD) then
 bif Bf LF (AZ JJ) then
 bif BK (nth LD LG 0) (nth JJ LF 0) then
 self JJ LD MU LF (A7 .i64 LG 1)
 else
 bif B1 ((List.length MU)+1) 8 then
 Qz JJ LD (MU++[LG]) (A7 .i64 LF 1)
 else none
 else none
 else none
def BD.l6 (Qz:BD.A5):Nat->BD.A6
 | 0=>λ _ _ _ _ _=>none
 | n+1=>BD.S6 Qz (BD.l6 Qz n)
def BD.S5 (j6:BD.A6):BD.A5:=λ Fm FX Ht JI=>
 bif A8 JI (AZ Fm) then
 j6 Fm FX Ht JI 0
 else
 some (FX,Ht)
def BD.l5:Nat->BD.A5
 | 0=>λ _ _ _ _=>none
 | n+1=>BD.S5 (BD.l6 (BD.l5 n) n)
def BD.S4 (j5:BD.A5):BD.A4:=λ C4 DO Dy=>
 j5 C4 DO Dy 0
def BD.t4:Nat->BD.A4
 | 0=>λ _ _ _=>none
 | n+1=>BD.S4 (BD.l5 n)
def BD.S3 (CS:BD.A0):BD.A3:=λ Cy Ct Dt DP CX=>
 bif CJ 0 CX (AZ Ct) then
 bif B1 (0+(List.length (List.take (Int.toNat CX) Ct))) 8 then
 bif Bf DP (AZ Cy) then
 bif B1 ((List.length (List.take (Int.toNat CX) Ct))+1) 8 then
 bif CJ CX (AZ Ct) (AZ Ct) then
 bif B1 ((List.length ((List.take (Int.toNat CX) Ct)++[(nth Cy DP 0)]))+(List.length (List.drop (Int.toNat CX) Ct))) 8 then
 CS Cy (((List.take (Int.toNat CX) Ct)++[(nth Cy DP 0)])++(List.drop (Int.toNat CX) Ct)) Dt (A7 .i64 DP 1)
 else none
 else none
 else none
 else none
 else none
 else none
def BD.t3 (CS:BD.A0):Nat->BD.A3
 | 0=>λ _ _ _ _ _=>none
 | _+1=>BD.S3 CS
def BD.S2 (CS:BD.A0) (j3:BD.A3):BD.A2:=λ Bl BI B0 BS B2=>
 bif A8 B2 (AZ BI) then
 bif Bf B2 (AZ BI) then
 bif Bf BS (AZ Bl) then
 bif A9 (nth BI B2 0) (nth Bl BS 0) then
 CS Bl BI B0 (A7 .i64 BS 1)
 else
 j3 Bl BI B0 BS B2
 else none
 else none
 else
 j3 Bl BI B0 BS B2
def BD.t2 (CS:BD.A0):Nat->BD.A2
 | 0=>λ _ _ _ _ _=>none
 | n+1=>BD.S2 CS (BD.t3 CS n)
def BD.S1 (Hp:BD.A2) (self:BD.A1):BD.A1:=λ x5 x6 x7 x8 x9=>
 bif A8 x9 (AZ x6) then
 bif Bf x9 (AZ x6) then
 bif Bf x8 (AZ x5) then
 bif A8 (nth x6 x9 0) (nth x5 x8 0) then
 self x5 x6 x7 x8 (A7 .i64 x9 1)
 else
 Hp x5 x6 x7 x8 x9
 else none
 else none
 else
 Hp x5 x6 x7 x8 x9
def BD.l1 (Hp:BD.A2):Nat->BD.A1
 | 0=>λ _ _ _ _ _=>none
 | n+1=>BD.S1 Hp (BD.l1 Hp n)
def BD.S0 (QA:BD.A4) (j1:BD.A1):BD.A0:=λ x1 x2 x3 x4=>
 bif A8 x4 (AZ x1) then
 j1 x1 x2 x3 x4 0
 else
 QA x1 x2 x3
def BD.l0 (QA:BD.A4):Nat->BD.A0
 | 0=>λ _ _ _ _=>none
 | n+1=>BD.S0 QA (BD.l1 (BD.t2 (BD.l0 QA n) n) n)
def BD.S (j0:BD.A0) (l:Bc):Option MK:=
 j0 l [] [] 0
def BD (l:Bc):Option MK:=BD.S (BD.l0 (BD.t4 fu) fu) l
def Wf (places:Bc):Option ByteArray:=
 (Gi places).bind λ x1=>
 (Dn places x1).bind λ x2=>
 some x2.1
abbrev D3.A0:=Bc->Bc->ByteArray->Int->Option DN
abbrev D3.A1:=Bc->ByteArray->Option DN
def D3.S1:D3.A1:=λ x8 x9=>
 (Wf x8).bind λ Bl=>
 bif Dh x9 Bl then
 some ((D8 x9 Bl),0)
 else none
def D3.t1:Nat->D3.A1
 | 0=>λ _ _=>none
 | _+1=>D3.S1
def D3.S0 (BG:D3.A1) (self:D3.A0):D3.A0:=λ x3 x4 x5 x6=>
 bif A8 x6 (AZ x3) then
 bif Bf x6 (AZ x3) then
 (FP (nth x3 x6 0)).bind λ x7=>
 bif Dh x5 x7 then
 self x3 x4 (D8 x5 x7) (A7 .i64 x6 1)
 else none
 else none
 else
 BG x4 x5
def D3.l0 (BG:D3.A1):Nat->D3.A0
 | 0=>λ _ _ _ _=>none
 | n+1=>D3.S0 BG (D3.l0 BG n)
def D3.S (j0:D3.A0) (l:Bc):Option DN:=
 bif A8 65536 (AZ l) then
 some (eB,1)
 else
 bif A9 (AZ l) 0 then
 some (eB,0)
 else
 (BD l).bind λ x1=>
 (FP (AZ x1.1)).bind λ x2=>
 j0 x1.1 x1.2 x2 0
def D3 (l:Bc):Option DN:=D3.S (D3.l0 (D3.t1 fu) fu) l
def Zs (l:Bc) (code:Int):Option (ByteArray×Bool):=
 bif A9 code 1 then
 (DV l).bind λ x1=>
 some (x1,true)
 else
 bif A9 code 2 then
 (GS l).bind λ x2=>
 (Gl x2).bind λ x3=>
 some (x3.1,(A9 x3.2 0))
 else
 bif A9 code 3 then
 (DU l).bind λ x4=>
 some (x4.1,(A9 x4.2 0))
 else
 bif A9 code 4 then
 (D3 l).bind λ x5=>
 some (x5.1,(A9 x5.2 0))
 else
 bif A9 code 5 then
 (Gi l).bind λ x6=>
 (Dn l x6).bind λ x7=>
 bif Dh (ofBytes [(IntKind.wrap .u8 x6)]) x7.1 then
 some ((D8 (ofBytes [(IntKind.wrap .u8 x6)]) x7.1),(A9 x7.2 0))
 else none
 else
 some (eB,false)
abbrev HD.A0:=CD->Cn->Int->Option (Cn)
def HD.S0 (self:HD.A0):HD.A0:=λ x1 x2 x3=>
 bif A8 x3 (AZ x1) then
 bif Bf x3 (AZ x1) then
 bif B1 ((List.length x2)+1) 16 then
 self x1 (x2++[(nth x1 x3 (0,0,eB)).2.2]) (A7 .i64 x3 1)
 else none
 else none
 else
 some x2
def HD.l0:Nat->HD.A0
 | 0=>λ _ _ _=>none
 | n+1=>HD.S0 (HD.l0 n)
def HD.S (j0:HD.A0) (l:CD):Option (Cn):=
 j0 l [] 0
def HD (l:CD):Option (Cn):=HD.S (HD.l0 fu) l
abbrev GN.A0:=Cn->Bc->Int->Option DN
def GN.S0 (self:GN.A0):GN.A0:=λ x1 x2 x3=>
 bif A8 x3 (AZ x1) then
 bif Bf x3 (AZ x1) then
 bif A8 32 (Bg (nth x1 x3 eB)) then
 some (eB,1)
 else
 bif Bf x3 (AZ x1) then
 bif B1 ((List.length x2)+1) 1 then
 bif Bf x3 (AZ x1) then
 bif B1 ((List.length (x2++[(IntKind.wrap .u8 (Bg (nth x1 x3 eB)))]))+(ByteArray.size (nth x1 x3 eB))) 1 then
 self x1 ((x2++[(IntKind.wrap .u8 (Bg (nth x1 x3 eB)))])++(Bu (nth x1 x3 eB))) (A7 .i64 x3 1)
 else none
 else none
 else none
 else none
 else none
 else
 some ((ofBytes x2),0)
def GN.l0:Nat->GN.A0
 | 0=>λ _ _ _=>none
 | n+1=>GN.S0 (GN.l0 n)
def GN.S (j0:GN.A0) (l:Cn):Option DN:=
 j0 l [] 0
def GN (l:Cn):Option DN:=GN.S (GN.l0 fu) l
abbrev BB.A0:=Cn->Cn->Bc->Int->Option Nu
abbrev BB.A1:=Cn->Cn->Bc->Int->Int->Option Nu
abbrev BB.A2:=Cn->Cn->Bc->Int->Int->Option Nu
abbrev BB.A3:=Cn->Cn->Bc->Int->Int->Option Nu
abbrev BB.A4:=Cn->Cn->Bc->Option Nu
abbrev BB.A5:=Cn->Cn->Bc->Int->Option Nu
abbrev BB.A6:=Cn->Cn->Bc->Int->Int->Option Nu
def BB.S6 (Qz:BB.A5) (self:BB.A6):BB.A6:=λ JJ LD MU LF LG=>
 bif Bf LG (AZ LD) then
 bif Bf LF (AZ JJ) then
 bif !(Cz (nth LD LG eB) (nth JJ LF eB)) then
 self JJ LD MU LF (A7 .i64 LG 1)
 else
 bif B1 ((List.length MU)+1) 8 then
 Qz JJ LD (MU++[LG]) (A7 .i64 LF 1)
 else none
 else none
 else none
def BB.l6 (Qz:BB.A5):Nat->BB.A6
 | 0=>λ _ _ _ _ _=>none
 | n+1=>BB.S6 Qz (BB.l6 Qz n)
def BB.S5 (j6:BB.A6):BB.A5:=λ Fm FX Ht JI=>
 bif A8 JI (AZ Fm) then
 j6 Fm FX Ht JI 0
 else
 some (FX,Ht)
def BB.l5:Nat->BB.A5
 | 0=>λ _ _ _ _=>none
 | n+1=>BB.S5 (BB.l6 (BB.l5 n) n)
def BB.S4 (j5:BB.A5):BB.A4:=λ C4 DO Dy=>
 j5 C4 DO Dy 0
def BB.t4:Nat->BB.A4
 | 0=>λ _ _ _=>none
 | n+1=>BB.S4 (BB.l5 n)
def BB.S3 (CS:BB.A0):BB.A3:=λ Cy Ct Dt DP CX=>
 bif CJ 0 CX (AZ Ct) then
 bif B1 (0+(List.length (List.take (Int.toNat CX) Ct))) 16 then
 bif Bf DP (AZ Cy) then
 bif B1 ((List.length (List.take (Int.toNat CX) Ct))+1) 16 then
 bif CJ CX (AZ Ct) (AZ Ct) then
 bif B1 ((List.length ((List.take (Int.toNat CX) Ct)++[(nth Cy DP eB)]))+(List.length (List.drop (Int.toNat CX) Ct))) 16 then
 CS Cy (((List.take (Int.toNat CX) Ct)++[(nth Cy DP eB)])++(List.drop (Int.toNat CX) Ct)) Dt (A7 .i64 DP 1)
 else none
 else none
 else none
 else none
 else none
 else none
def BB.t3 (CS:BB.A0):Nat->BB.A3
 | 0=>λ _ _ _ _ _=>none
 | _+1=>BB.S3 CS
def BB.S2 (CS:BB.A0) (j3:BB.A3):BB.A2:=λ Bl BI B0 BS B2=>
 bif A8 B2 (AZ BI) then
 bif Bf B2 (AZ BI) then
 bif Bf BS (AZ Bl) then
 bif Cz (nth BI B2 eB) (nth Bl BS eB) then
 CS Bl BI B0 (A7 .i64 BS 1)
 else
 j3 Bl BI B0 BS B2
 else none
 else none
 else
 j3 Bl BI B0 BS B2
def BB.t2 (CS:BB.A0):Nat->BB.A2
 | 0=>λ _ _ _ _ _=>none
 | n+1=>BB.S2 CS (BB.t3 CS n)
def BB.S1 (Hp:BB.A2) (self:BB.A1):BB.A1:=λ x5 x6 x7 x8 x9=>
 bif A8 x9 (AZ x6) then
 bif Bf x9 (AZ x6) then
 bif Bf x8 (AZ x5) then
 bif KK (nth x6 x9 eB) (nth x5 x8 eB) then
 self x5 x6 x7 x8 (A7 .i64 x9 1)
 else
 Hp x5 x6 x7 x8 x9
 else none
 else none
 else
 Hp x5 x6 x7 x8 x9
def BB.l1 (Hp:BB.A2):Nat->BB.A1
 | 0=>λ _ _ _ _ _=>none
 | n+1=>BB.S1 Hp (BB.l1 Hp n)
def BB.S0 (QA:BB.A4) (j1:BB.A1):BB.A0:=λ x1 x2 x3 x4=>
 bif A8 x4 (AZ x1) then
 j1 x1 x2 x3 x4 0
 else
 QA x1 x2 x3
def BB.l0 (QA:BB.A4):Nat->BB.A0
 | 0=>λ _ _ _ _=>none
 | n+1=>BB.S0 QA (BB.l1 (BB.t2 (BB.l0 QA n) n) n)
def BB.S (j0:BB.A0) (l:Cn):Option Nu:=
 j0 l [] [] 0
def BB (l:Cn):Option Nu:=BB.S (BB.l0 (BB.t4 fu) fu) l
def V9 (l:Cn):Option DN:=
 bif A8 65536 (AZ l) then
 some (eB,1)
 else
 bif A9 (AZ l) 0 then
 some (eB,0)
 else
 (BB l).bind λ x1=>
 (GN x1.1).bind λ x2=>
 bif BK x2.2 0 then
 some (eB,x2.2)
 else
 (FP (AZ x1.1)).bind λ x3=>
 bif Dh x3 x2.1 then
 (Wf x1.2).bind λ x4=>
 bif Dh (D8 x3 x2.1) x4 then
 some ((D8 (D8 x3 x2.1) x4),0)
 else none
 else none
def ZG (l:Cn) (code:Int):Option (ByteArray×Bool):=
 bif A9 code 1 then
 (GN l).bind λ x1=>
 some (x1.1,(A9 x1.2 0))
 else
 bif A9 code 2 then
 bif A8 0 (AZ l) then
 (BB l).bind λ x2=>
 (GN x2.1).bind λ x3=>
 (GS x2.2).bind λ x4=>
 (Gl x4).bind λ x5=>
 (FP (AZ x2.1)).bind λ x6=>
 bif Dh x6 x3.1 then
 bif Dh (D8 x6 x3.1) x5.1 then
 some ((D8 (D8 x6 x3.1) x5.1),true)
 else none
 else none
 else
 some (eB,true)
 else
 bif A9 code 4 then
 (V9 l).bind λ x7=>
 some (x7.1,(A9 x7.2 0))
 else
 some (eB,false)
def Zz (l:CD) (kind code:Int):Option (ByteArray×Bool):=
 bif A9 kind 1 then
 (HH l).bind λ x1=>
 (Zs x1 code).bind λ x2=>
 some x2
 else
 (HD l).bind λ x3=>
 (ZG x3 code).bind λ x4=>
 some x4
abbrev DB.A0:=ByteArray->Int->Int->Option Int
abbrev DB.A1:=ByteArray->Int->Int->Int->Option Int
def DB.S1 (CS:DB.A0) (self:DB.A1):DB.A1:=λ x4 x5 x6 x7=>
 bif A8 x7 8 then
 bif Bf x6 (Bg x4) then
 bif BC 0 x7 then
 bif BK (Cb .i64 x5 1) (Cb .i64 (B7 .i64 (IntKind.wrap .i64 (byteAt x4 x6)) x7) 1) then
 self x4 (Gd .i64 (B7 .i64 x5 1) 2197175160) x6 (A7 .i64 x7 1)
 else
 self x4 (B7 .i64 x5 1) x6 (A7 .i64 x7 1)
 else none
 else none
 else
 CS x4 x5 (A7 .i64 x6 1)
def DB.l1 (CS:DB.A0):Nat->DB.A1
 | 0=>λ _ _ _ _=>none
 | n+1=>DB.S1 CS (DB.l1 CS n)
def DB.S0 (j1:DB.A1):DB.A0:=λ x1 x2 x3=>
 bif A8 x3 (Bg x1) then
 j1 x1 x2 x3 0
 else
 some (Gd .i64 x2 4294967295)
def DB.l0:Nat->DB.A0
 | 0=>λ _ _ _=>none
 | n+1=>DB.S0 (DB.l1 (DB.l0 n) n)
def DB.S (j0:DB.A0) (sum:Int) (s:ByteArray):Option Int:=
 j0 s (Gd .i64 (Cb .i64 sum 4294967295) 4294967295) 0
def DB (sum:Int) (s:ByteArray):Option Int:=DB.S (DB.l0 fu) sum s
def ZV (s:ByteArray):Option Int:=
 (DB 0 s).bind λ x1=>
 some x1
def Um (s:ByteArray):Option ByteArray:=
 (ZV s).bind λ x1=>
 bif Dh s (ofBytes [(IntKind.wrap .u8 (Cb .i64 x1 255)),(IntKind.wrap .u8 (Cb .i64 (B7 .i64 x1 8) 255)),(IntKind.wrap .u8 (Cb .i64 (B7 .i64 x1 16) 255)),(IntKind.wrap .u8 (Cb .i64 (B7 .i64 x1 24) 255))]) then
 some (D8 s (ofBytes [(IntKind.wrap .u8 (Cb .i64 x1 255)),(IntKind.wrap .u8 (Cb .i64 (B7 .i64 x1 8) 255)),(IntKind.wrap .u8 (Cb .i64 (B7 .i64 x1 16) 255)),(IntKind.wrap .u8 (Cb .i64 (B7 .i64 x1 24) 255))]))
 else none
def LV (l:CD) (kind code:Int):Option DN:=
 (Es l kind).bind λ x1=>
 bif !x1 then
 some (eB,1)
 else
 (Ef l).bind λ x2=>
 (Zz x2.2 kind code).bind λ x3=>
 bif !x3.2 then
 some (eB,1)
 else
 bif Dh (ofBytes [(IntKind.wrap .u8 kind),(IntKind.wrap .u8 code),(IntKind.wrap .u8 (AZ l)),(IntKind.wrap .u8 (Bg x2.1))]) x2.1 then
 bif Dh (D8 (ofBytes [(IntKind.wrap .u8 kind),(IntKind.wrap .u8 code),(IntKind.wrap .u8 (AZ l)),(IntKind.wrap .u8 (Bg x2.1))]) x2.1) x3.1 then
 (Um (D8 (D8 (ofBytes [(IntKind.wrap .u8 kind),(IntKind.wrap .u8 code),(IntKind.wrap .u8 (AZ l)),(IntKind.wrap .u8 (Bg x2.1))]) x2.1) x3.1)).bind λ x4=>
 some (x4,0)
 else none
 else none
abbrev DC.A0:=ByteArray->Int->Int->Int->Option Int
abbrev DC.A1:=ByteArray->Int->Int->Int->Int->Option Int
def DC.S1 (CS:DC.A0) (self:DC.A1):DC.A1:=λ x5 x6 x7 x8 x9=>
 bif A8 x9 8 then
 self x5 (Gd .u32 (B7 .u32 x6 1) (Cb .u32 2197175160 (Bt .u32 0 (Cb .u32 x6 1)))) x7 x8 (A7 .i64 x9 1)
 else
 CS x5 x6 x7 (A7 .i64 x8 1)
def DC.l1 (CS:DC.A0):Nat->DC.A1
 | 0=>λ _ _ _ _ _=>none
 | n+1=>DC.S1 CS (DC.l1 CS n)
def DC.S0 (j1:DC.A1):DC.A0:=λ x1 x2 x3 x4=>
 bif A8 x4 x3 then
 bif Bf x4 (Bg x1) then
 j1 x1 (Gd .u32 x2 (IntKind.wrap .u32 (byteAt x1 x4))) x3 x4 0
 else none
 else
 some (IntKind.wrap .i64 (Gd .u32 4294967295 x2))
def DC.l0:Nat->DC.A0
 | 0=>λ _ _ _ _=>none
 | n+1=>DC.S0 (DC.l1 (DC.l0 n) n)
def DC.S (j0:DC.A0) (sum:Int) (s:ByteArray):Option Int:=
 j0 s (Gd .u32 4294967295 (IntKind.wrap .u32 sum)) (Bg s) 0
def DC (sum:Int) (s:ByteArray):Option Int:=DC.S (DC.l0 fu) sum s
def ZW (s:ByteArray):Option Int:=
 (DC 0 s).bind λ x1=>
 some x1
abbrev FF.A0:=Int->Bc->Int->Option ByteArray
def FF.S0 (self:FF.A0):FF.A0:=λ x2 x3 x4=>
 bif A8 x4 4 then
 bif BC 0 (CI .i64 8 x4) then
 bif B1 ((List.length x3)+1) 1 then
 self x2 (x3++[(IntKind.wrap .u8 (B7 .u32 x2 (CI .i64 8 x4)))]) (A7 .i64 x4 1)
 else none
 else none
 else
 some (ofBytes x3)
def FF.l0:Nat->FF.A0
 | 0=>λ _ _ _=>none
 | n+1=>FF.S0 (FF.l0 n)
def FF.S (j0:FF.A0) (s:ByteArray):Option ByteArray:=
 (ZW s).bind λ x1=>
 bif (BC 0 (A7 .i64 (Bg s) 4)) && (B1 (Int.toNat (A7 .i64 (Bg s) 4)) 1) then
 bif B1 (0+(ByteArray.size s)) 1 then
 j0 (IntKind.wrap .u32 x1) (Bu s) 0
 else none
 else none
def FF (s:ByteArray):Option ByteArray:=FF.S (FF.l0 fu) s
def Un (s:ByteArray):Option DN:=
 bif A8 (Bt .i64 (Bg s) 4) 0 then
 some (eB,5)
 else
 bif CJ 0 (Bt .i64 (Bg s) 4) (Bg s) then
 (FF (cutS s 0 (Bt .i64 (Bg s) 4))).bind λ x1=>
 bif !(Cz x1 s) then
 some (eB,5)
 else
 bif CJ 0 (Bt .i64 (Bg s) 4) (Bg s) then
 some ((cutS s 0 (Bt .i64 (Bg s) 4)),0)
 else none
 else none
def PN (xn width:Int):Int:=
 bif A8 xn 1 then
 0
 else
 bif A8 65536 xn then
 0
 else
 bif A8 width 1 then
 0
 else
 bif A8 64 width then
 0
 else
 (B7 .i64 (A7 .i64 (CI .i64 xn width) 7) 3)
def PN.o (xn width:Int):Option Int:=
 bif A8 xn 1 then
 some 0
 else
 bif A8 65536 xn then
 some 0
 else
 bif A8 width 1 then
 some 0
 else
 bif A8 64 width then
 some 0
 else
 some (B7 .i64 (A7 .i64 (CI .i64 xn width) 7) 3)
def PY (w:Int):Option Int:=
 bif BC w 0 then
 some 0
 else
 bif BC 64 w then
 some (-1)
 else
 bif BC 0 w then
 some (IntKind.wrap .i64 (Bt .u64 (EN .u64 1 w) 1))
 else none
abbrev Hj.A0:=ByteArray->Int->Int->Int->Int->Option Int
def Hj.S0 (self:Hj.A0):Hj.A0:=λ x1 x2 x3 x4 x5=>
 bif A8 x5 x2 then
 bif Bf (B7 .i64 x4 3) (Bg x1) then
 bif BC 0 (Cb .i64 x4 7) then
 (PY (Eo (Bt .i64 8 (Cb .i64 x4 7)) (Bt .i64 x2 x5))).bind λ x6=>
 bif BC 0 x5 then
 self x1 x2 (Fa .u64 x3 (EN .u64 (Cb .u64 (B7 .u64 (IntKind.wrap .u64 (byteAt x1 (B7 .i64 x4 3))) (Cb .i64 x4 7)) (IntKind.wrap .u64 x6)) x5)) (A7 .i64 x4 (Eo (Bt .i64 8 (Cb .i64 x4 7)) (Bt .i64 x2 x5))) (A7 .i64 x5 (Eo (Bt .i64 8 (Cb .i64 x4 7)) (Bt .i64 x2 x5)))
 else none
 else none
 else none
 else
 some (IntKind.wrap .i64 x3)
def Hj.l0:Nat->Hj.A0
 | 0=>λ _ _ _ _ _=>none
 | n+1=>Hj.S0 (Hj.l0 n)
def Hj.S (j0:Hj.A0) (s:ByteArray) (xk width:Int):Option Int:=
 j0 s width 0 (CI .i64 xk width) 0
def Hj (s:ByteArray) (xk width:Int):Option Int:=Hj.S (Hj.l0 fu) s xk width
abbrev Dd.A0:=ByteArray->Int->Int->Option Dp
abbrev Dd.A1:=ByteArray->Int->Int->Int->Bc->Option Dp
def Dd.S1 (self:Dd.A1):Dd.A1:=λ x5 x6 x7 x8 x9=>
 bif A8 x8 x7 then
 (Hj x5 x8 x6).bind λ Bl=>
 bif Bf x8 (AZ x9) then
 self x5 x6 x7 (A7 .i64 x8 1) (List.set x9 (Int.toNat x8) Bl)
 else none
 else
 some (x9,0)
def Dd.l1:Nat->Dd.A1
 | 0=>λ _ _ _ _ _=>none
 | n+1=>Dd.S1 (Dd.l1 n)
def Dd.S0 (j1:Dd.A1):Dd.A0:=λ x2 x3 x4=>
 bif (BC 0 x3) && (B1 (Int.toNat x3) 8) then
 j1 x2 x4 x3 0 (List.replicate (Int.toNat x3) (0:Int))
 else none
def Dd.t0:Nat->Dd.A0
 | 0=>λ _ _ _=>none
 | n+1=>Dd.S0 (Dd.l1 n)
def Dd.S (j0:Dd.A0) (s:ByteArray) (xn width:Int):Option Dp:=
 bif A8 width 0 then
 some ([],1)
 else
 bif A8 64 width then
 some ([],1)
 else
 bif A8 xn 0 then
 some ([],1)
 else
 bif A8 65536 xn then
 some ([],1)
 else
 bif BK (Bg s) (PN xn width) then
 some ([],20)
 else
 bif A8 0 (Cb .i64 (CI .i64 xn width) 7) then
 bif Bf (Bt .i64 (Bg s) 1) (Bg s) then
 bif BC 0 (Cb .i64 (CI .i64 xn width) 7) then
 bif A8 0 (B7 .u8 (byteAt s (Bt .i64 (Bg s) 1)) (Cb .i64 (CI .i64 xn width) 7)) then
 some ([],20)
 else
 j0 s xn width
 else none
 else none
 else
 j0 s xn width
def Dd (s:ByteArray) (xn width:Int):Option Dp:=Dd.S (Dd.t0 fu) s xn width
abbrev Hy.A0:=Bc->Int->Int->Int->Option Int
def Hy.S0 (self:Hy.A0):Hy.A0:=λ x1 x2 x3 x4=>
 bif A8 x4 x3 then
 bif Bf x4 (AZ x1) then
 bif A9 x2 (nth x1 x4 0) then
 some x4
 else
 self x1 x2 x3 (A7 .i64 x4 1)
 else none
 else
 some (-1)
def Hy.l0:Nat->Hy.A0
 | 0=>λ _ _ _ _=>none
 | n+1=>Hy.S0 (Hy.l0 n)
def Hy.S (j0:Hy.A0) (s:Bc) (v:Int):Option Int:=
 j0 s v (AZ s) 0
def Hy (s:Bc) (v:Int):Option Int:=Hy.S (Hy.l0 fu) s v
def Zk (s:Bc) (v:Int):Option Bool:=
 (Hy s v).bind λ x1=>
 some (BC 0 x1)
def N3 (s:ByteArray) (xn:Int):Option Dp:=
 bif A8 xn 0 then
 some ([],1)
 else
 bif A8 65536 xn then
 some ([],1)
 else
 bif Cz s eB then
 bif (BC 0 xn) && (B1 (Int.toNat xn) 8) then
 some ((List.replicate (Int.toNat xn) (0:Int)),0)
 else none
 else
 (Dd s xn 1).bind λ x1=>
 bif BK x1.2 0 then
 some ([],20)
 else
 (Zk x1.1 1).bind λ x2=>
 bif !x2 then
 some ([],20)
 else
 some (x1.1,0)
abbrev Fo.A0:=Int->Int->Bc->Int->Int->Option Oi
def Fo.S0 (self:Fo.A0):Fo.A0:=λ x2 x3 x4 x5 x6=>
 bif A8 x6 x5 then
 bif Bf x6 (AZ x4) then
 self x2 (A7 .i64 x3 (nth x4 x6 0)) x4 x5 (A7 .i64 x6 1)
 else none
 else
 some (x3,x2)
def Fo.l0:Nat->Fo.A0
 | 0=>λ _ _ _ _ _=>none
 | n+1=>Fo.S0 (Fo.l0 n)
def Fo.S (j0:Fo.A0) (s:ByteArray) (xn:Int):Option Oi:=
 (N3 s xn).bind λ x1=>
 j0 x1.2 0 x1.1 (AZ x1.1) 0
def Fo (s:ByteArray) (xn:Int):Option Oi:=Fo.S (Fo.l0 fu) s xn
abbrev C5.A0:=ByteArray->Int->Int->Bc->Option Dp
abbrev C5.A1:=ByteArray->Int->Int->Int->Int->Int->Bc->Option Dp
def C5.S1 (CS:C5.A0) (self:C5.A1):C5.A1:=λ x5 x6 x7 x8 x9 Bl BI=>
 bif A8 Bl 8 then
 bif Bf (A7 .i64 (CI .i64 8 x6) Bl) (Bg x5) then
 bif BC 0 (CI .i64 8 Bl) then
 self x5 x6 (Fa .u64 x7 (EN .u64 (IntKind.wrap .u64 (byteAt x5 (A7 .i64 (CI .i64 8 x6) Bl))) (CI .i64 8 Bl))) x8 x9 (A7 .i64 Bl 1) BI
 else none
 else none
 else
 bif Bf x6 (AZ BI) then
 CS x5 x8 (A7 .i64 x9 1) (List.set BI (Int.toNat x6) (IntKind.wrap .i64 x7))
 else none
def C5.l1 (CS:C5.A0):Nat->C5.A1
 | 0=>λ _ _ _ _ _ _ _=>none
 | n+1=>C5.S1 CS (C5.l1 CS n)
def C5.S0 (j1:C5.A1):C5.A0:=λ x1 x2 x3 x4=>
 bif A8 x3 x2 then
 j1 x1 x3 0 x2 x3 0 x4
 else
 some (x4,0)
def C5.l0:Nat->C5.A0
 | 0=>λ _ _ _ _=>none
 | n+1=>C5.S0 (C5.l1 (C5.l0 n) n)
def C5.S (j0:C5.A0) (s:ByteArray) (xn:Int):Option Dp:=
 bif A8 xn 0 then
 some ([],20)
 else
 bif BK (Ol (Bg s) 8) 0 then
 some ([],20)
 else
 bif BK xn (GB .i64 (Bg s) 8) then
 some ([],20)
 else
 bif (BC 0 xn) && (B1 (Int.toNat xn) 8) then
 j0 s xn 0 (List.replicate (Int.toNat xn) (0:Int))
 else none
def C5 (s:ByteArray) (xn:Int):Option Dp:=C5.S (C5.l0 fu) s xn
abbrev FO.A0:=Int->Int->Int->Option Int
abbrev F5.A0:=ByteArray->Int->Int->Int->Option (Int×Int×Int)
abbrev E4.A0:=Eu->Int->Eu->Int->Int->Option (Int×Bool)
def E4.S0 (self:E4.A0):E4.A0:=λ x1 x2 x3 x4 x5=>
 bif A8 x5 x4 then
 bif Bf x5 (AZ x3) then
 bif BK (nth x3 x5 (0,0,0)).2.1 x2 then
 some (0,false)
 else
 bif A8 (nth x3 x5 (0,0,0)).2.2 1 then
 some (0,false)
 else
 bif A8 (Bt .i64 65536 x2) (nth x3 x5 (0,0,0)).2.2 then
 some (0,false)
 else
 bif A8 0 x5 then
 bif Bf (Bt .i64 x5 1) (AZ x1) then
 bif A9 (nth x3 x5 (0,0,0)).1 (nth x1 (Bt .i64 x5 1) (0,0,0)).1 then
 some (0,false)
 else
 self x1 (A7 .i64 x2 (nth x3 x5 (0,0,0)).2.2) x3 x4 (A7 .i64 x5 1)
 else none
 else
 self x1 (A7 .i64 x2 (nth x3 x5 (0,0,0)).2.2) x3 x4 (A7 .i64 x5 1)
 else none
 else
 some (x2,true)
def E4.l0:Nat->E4.A0
 | 0=>λ _ _ _ _ _=>none
 | n+1=>E4.S0 (E4.l0 n)
def E4.S (j0:E4.A0) (l:Eu):Option (Int×Bool):=
 j0 l 0 l (AZ l) 0
def E4 (l:Eu):Option (Int×Bool):=E4.S (E4.l0 fu) l
abbrev Cw.A0:=ByteArray->Int->Eu->Int->Option (Eu×Int)
abbrev Cw.A1:=Int->Eu->Int->Option (Eu×Int)
def Cw.S1:Cw.A1:=λ x7 x8 x9=>
 (E4 x8).bind λ Bl=>
 bif !Bl.2 then
 some ([],20)
 else
 bif BK x9 x7 then
 some ([],20)
 else
 some (x8,0)
def Cw.t1:Nat->Cw.A1
 | 0=>λ _ _ _=>none
 | _+1=>Cw.S1
def Cw.S0 (BG:Cw.A1) (self:Cw.A0):Cw.A0:=λ x1 x2 x3 x4=>
 bif !(Cz x1 eB) then
 (F5 x1).bind λ x5=>
 bif BK x5.2.2 0 then
 some ([],20)
 else
 bif CJ x5.2.1 (Bg x1) (Bg x1) then
 (F5 (cutS x1 x5.2.1 (Bg x1))).bind λ x6=>
 bif BK x6.2.2 0 then
 some ([],20)
 else
 bif A8 x6.1 1 then
 some ([],20)
 else
 bif A8 (Bt .i64 x2 x4) x6.1 then
 some ([],20)
 else
 bif B1 ((List.length x3)+1) 24 then
 bif CJ (A7 .i64 x5.2.1 x6.2.1) (Bg x1) (Bg x1) then
 self (cutS x1 (A7 .i64 x5.2.1 x6.2.1) (Bg x1)) x2 (x3++[(x5.1,x4,x6.1)]) (A7 .i64 x4 x6.1)
 else none
 else none
 else none
 else
 BG x2 x3 x4
def Cw.l0 (BG:Cw.A1):Nat->Cw.A0
 | 0=>λ _ _ _ _=>none
 | n+1=>Cw.S0 BG (Cw.l0 BG n)
def Cw.S (j0:Cw.A0) (s:ByteArray) (xn:Int):Option (Eu×Int):=
 bif A8 xn 0 then
 some ([],1)
 else
 bif A8 65536 xn then
 some ([],1)
 else
 j0 s xn [] 0
def Cw (s:ByteArray) (xn:Int):Option (Eu×Int):=Cw.S (Cw.l0 (Cw.t1 fu) fu) s xn
def fV (x y:Int):Int×Int:=
 ((A7 .u64 (A7 .u64 (CI .u64 (B7 .u64 x 32) (B7 .u64 y 32)) (B7 .u64 (A7 .u64 (CI .u64 (B7 .u64 x 32) (Cb .u64 y 4294967295)) (B7 .u64 (CI .u64 (Cb .u64 x 4294967295) (Cb .u64 y 4294967295)) 32)) 32)) (B7 .u64 (A7 .u64 (Cb .u64 (A7 .u64 (CI .u64 (B7 .u64 x 32) (Cb .u64 y 4294967295)) (B7 .u64 (CI .u64 (Cb .u64 x 4294967295) (Cb .u64 y 4294967295)) 32)) 4294967295) (CI .u64 (Cb .u64 x 4294967295) (B7 .u64 y 32))) 32)),(CI .u64 x y))
def Zt (x y:Int):Int×Int:=
 (fV x y)
abbrev Dl.A0:=Bc->Int->Option (Bc)
abbrev Dl.A1:=Bc->Int->Option (Bc)
abbrev Dl.A2:=Int->Bc->Option (Bc)
def Dl.S2 (self:Dl.A2):Dl.A2:=λ x6 x7=>
 bif A8 x6 (AZ x7) then
 bif CJ x6 (AZ x7) (AZ x7) then
 bif CJ 0 x6 (AZ x7) then
 self (A7 .i64 x6 (((List.length (List.take ((Int.toNat (AZ x7))-(Int.toNat x6)) (List.take ((Int.toNat x6)-0) (List.drop 0 x7)))):Nat):Int)) (Ig x7 (Int.toNat x6) (List.take ((Int.toNat (AZ x7))-(Int.toNat x6)) (List.take ((Int.toNat x6)-0) (List.drop 0 x7))))
 else none
 else none
 else
 some x7
def Dl.l2:Nat->Dl.A2
 | 0=>λ _ _=>none
 | n+1=>Dl.S2 (Dl.l2 n)
def Dl.S1 (j2:Dl.A2):Dl.A1:=λ x4 x5=>
 bif (BC 0 (IntKind.wrap .i64 x5)) && (B1 (Int.toNat (IntKind.wrap .i64 x5)) 8) then
 j2 (((List.length (List.take (List.length (List.replicate (Int.toNat (IntKind.wrap .i64 x5)) (0:Int))) x4)):Nat):Int) (Ig (List.replicate (Int.toNat (IntKind.wrap .i64 x5)) (0:Int)) 0 (List.take (List.length (List.replicate (Int.toNat (IntKind.wrap .i64 x5)) (0:Int))) x4))
 else none
def Dl.t1:Nat->Dl.A1
 | 0=>λ _ _=>none
 | n+1=>Dl.S1 (Dl.l2 n)
def Dl.S0 (j1:Dl.A1):Dl.A0:=λ x1 x2=>
 let x3:=(Zt (IntKind.wrap .u64 (AZ x1)) (IntKind.wrap .u64 x2))
 bif A8 0 x3.1 then
 none
 else
 bif A8 9223372036854775807 x3.2 then
 none
 else
 j1 x1 x3.2
def Dl.t0:Nat->Dl.A0
 | 0=>λ _ _=>none
 | n+1=>Dl.S0 (Dl.t1 n)
def Dl.S (j0:Dl.A0) (x:Bc) (count:Int):Option (Bc):=
 bif A8 count 0 then
 none
 else
 j0 x count
def Dl (x:Bc) (count:Int):Option (Bc):=Dl.S (Dl.t0 fu) x count
abbrev Gm.A0:=Bc->Eu->Int->Int->Option Dp
def Gm.S0 (self:Gm.A0):Gm.A0:=λ x2 x3 x4 x5=>
 bif A8 x5 x4 then
 bif Bf x5 (AZ x3) then
 (Dl [(nth x3 x5 (0,0,0)).1] (nth x3 x5 (0,0,0)).2.2).bind λ x6=>
 bif B1 ((List.length x2)+(List.length x6)) 8 then
 self (x2++x6) x3 x4 (A7 .i64 x5 1)
 else none
 else none
 else
 some (x2,0)
def Gm.l0:Nat->Gm.A0
 | 0=>λ _ _ _ _=>none
 | n+1=>Gm.S0 (Gm.l0 n)
def Gm.S (j0:Gm.A0) (l:Eu):Option Dp:=
 (E4 l).bind λ x1=>
 bif !x1.2 then
 some ([],1)
 else
 bif (BC 0 x1.1) && (B1 (Int.toNat x1.1) 8) then
 j0 [] l (AZ l) 0
 else none
def Gm (l:Eu):Option Dp:=Gm.S (Gm.l0 fu) l
def Kp (t0:ByteArray) (t1:Bool):Option (Int×ByteArray×Bool):=
 (F5 t0).bind λ x1=>
 bif t1 then
 bif CJ x1.2.1 (Bg t0) (Bg t0) then
 some (x1.1,(cutS t0 x1.2.1 (Bg t0)),true)
 else none
 else
 bif CJ x1.2.1 (Bg t0) (Bg t0) then
 some (x1.1,(cutS t0 x1.2.1 (Bg t0)),(BK x1.2.2 0))
 else none
def Sl (Kz xby:Int):Int:=
 (IntKind.wrap .i64 (A7 .u64 (IntKind.wrap .u64 Kz) (IntKind.wrap .u64 xby)))
abbrev D5.A0:=Int->Int->Bc->Option ByteArray
abbrev D5.A1:=Int->Int->Bc->Option ByteArray
def Ww (Kz YS:Int):Int:=
 (IntKind.wrap .i64 (Bt .u64 (IntKind.wrap .u64 YS) (IntKind.wrap .u64 Kz)))
abbrev El.A0:=Bc->Option Int
abbrev El.A1:=Bc->Int->Int->Option Int
def El.S1 (self:El.A1):El.A1:=λ x2 x3 x4=>
 bif A8 x4 (AZ x2) then
 bif Bf x4 (AZ x2) then
 self x2 (Eo x3 (nth x2 x4 0)) (A7 .i64 x4 1)
 else none
 else
 some x3
def El.l1:Nat->El.A1
 | 0=>λ _ _ _=>none
 | n+1=>El.S1 (El.l1 n)
def El.S0 (j1:El.A1):El.A0:=λ x1=>
 bif Bf 0 (AZ x1) then
 j1 x1 (nth x1 0 0) 1
 else none
def El.t0:Nat->El.A0
 | 0=>λ _=>none
 | n+1=>El.S0 (El.l1 n)
def El.S (j0:El.A0) (x:Bc):Option Int:=
 bif A8 (AZ x) 1 then
 none
 else
 j0 x
def El (x:Bc):Option Int:=El.S (El.t0 fu) x
abbrev CV.A0:=Bc->Int->Bc->Option Dp
abbrev CV.A1:=Bc->Option Dp
abbrev CV.A2:=Int->Int->Int->Bc->Option Dp
def CV.S2 (self:CV.A2):CV.A2:=λ x7 x8 x9 Bl=>
 bif A8 x9 x8 then
 bif Bf x9 (AZ Bl) then
 bif Bf x9 (AZ Bl) then
 self x7 x8 (A7 .i64 x9 1) (List.set Bl (Int.toNat x9) (Ww x7 (List.getD Bl (Int.toNat x9) 0)))
 else none
 else none
 else
 some (Bl,x7)
def CV.l2:Nat->CV.A2
 | 0=>λ _ _ _ _=>none
 | n+1=>CV.S2 (CV.l2 n)
def CV.S1 (j2:CV.A2):CV.A1:=λ x5=>
 (El x5).bind λ x6=>
 j2 x6 (AZ x5) 0 x5
def CV.t1:Nat->CV.A1
 | 0=>λ _=>none
 | n+1=>CV.S1 (CV.l2 n)
def CV.S0 (BG:CV.A1) (self:CV.A0):CV.A0:=λ x1 x2 x3=>
 bif A8 x2 (AZ x1) then
 bif Bf (Bt .i64 x2 1) (AZ x1) then
 bif Bf x2 (AZ x1) then
 bif B1 ((List.length x3)+1) 8 then
 self x1 (A7 .i64 x2 1) (x3++[(Ww (nth x1 (Bt .i64 x2 1) 0) (nth x1 x2 0))])
 else none
 else none
 else none
 else
 BG x3
def CV.l0 (BG:CV.A1):Nat->CV.A0
 | 0=>λ _ _ _=>none
 | n+1=>CV.S0 BG (CV.l0 BG n)
def CV.S (j0:CV.A0) (l:Bc):Option Dp:=
 bif (BC 0 (AZ l)) && (B1 (Int.toNat (AZ l)) 8) then
 j0 l 1 []
 else none
def CV (l:Bc):Option Dp:=CV.S (CV.l0 (CV.t1 fu) fu) l
abbrev Ez.A0:=Int->Bc->Int->Int->Option Int
def Ez.S0 (self:Ez.A0):Ez.A0:=λ x1 x2 x3 x4=>
 bif A8 x4 x3 then
 bif Bf x4 (AZ x2) then
 self (Fa .i64 x1 (nth x2 x4 0)) x2 x3 (A7 .i64 x4 1)
 else none
 else
 (FO x1).bind λ x5=>
 some x5
def Ez.l0:Nat->Ez.A0
 | 0=>λ _ _ _ _=>none
 | n+1=>Ez.S0 (Ez.l0 n)
def Ez.S (j0:Ez.A0) (l:Bc):Option Int:=
 j0 0 l (AZ l) 0
def Ez (l:Bc):Option Int:=Ez.S (Ez.l0 fu) l
abbrev CC.A0:=Int->Bc->Int->Int->Bc->Int->Int->Option DN
abbrev CC.A1:=Int->Bc->Int->Int->Int->Int->Bc->Int->Int->Option DN
abbrev CC.A2:=Bc->Int->Int->Option DN
def CC.S2:CC.A2:=λ C4 DO Dy=>
 bif A8 0 Dy then
 bif B1 ((List.length C4)+1) 1 then
 some ((ofBytes (C4++[(IntKind.wrap .u8 DO)])),0)
 else none
 else
 some ((ofBytes C4),0)
def CC.t2:Nat->CC.A2
 | 0=>λ _ _ _=>none
 | _+1=>CC.S2
def CC.S1 (CS:CC.A0) (self:CC.A1):CC.A1:=λ Bl BI B0 BS B2 Cy Ct Dt DP=>
 bif A8 0 Cy then
 (PY (Eo (Bt .i64 8 BS) Cy)).bind λ CX=>
 bif BC 0 BS then
 bif BC 0 (Eo (Bt .i64 8 BS) Cy) then
 bif A9 (A7 .i64 BS (Eo (Bt .i64 8 BS) Cy)) 8 then
 bif B1 ((List.length BI)+1) 1 then
 self Bl (BI++[(IntKind.wrap .u8 (Fa .u64 B0 (EN .u64 (Cb .u64 B2 (IntKind.wrap .u64 CX)) BS)))]) 0 0 (B7 .u64 B2 (Eo (Bt .i64 8 BS) Cy)) (Bt .i64 Cy (Eo (Bt .i64 8 BS) Cy)) Ct Dt DP
 else none
 else
 self Bl BI (Fa .u64 B0 (EN .u64 (Cb .u64 B2 (IntKind.wrap .u64 CX)) BS)) (A7 .i64 BS (Eo (Bt .i64 8 BS) Cy)) (B7 .u64 B2 (Eo (Bt .i64 8 BS) Cy)) (Bt .i64 Cy (Eo (Bt .i64 8 BS) Cy)) Ct Dt DP
 else none
 else none
 else
 CS Bl BI B0 BS Ct Dt (A7 .i64 DP 1)
def CC.l1 (CS:CC.A0):Nat->CC.A1
 | 0=>λ _ _ _ _ _ _ _ _ _=>none
 | n+1=>CC.S1 CS (CC.l1 CS n)
def CC.S0 (dZ:CC.A2) (j1:CC.A1):CC.A0:=λ x3 x4 x5 x6 x7 x8 x9=>
 bif A8 x9 x8 then
 bif Bf x9 (AZ x7) then
 j1 x3 x4 x5 x6 (IntKind.wrap .u64 (nth x7 x9 0)) x3 x7 x8 x9
 else none
 else
 dZ x4 x5 x6
def CC.l0 (dZ:CC.A2):Nat->CC.A0
 | 0=>λ _ _ _ _ _ _ _=>none
 | n+1=>CC.S0 dZ (CC.l1 (CC.l0 dZ n) n)
def CC.S (j0:CC.A0) (l:Bc) (width:Int):Option DN:=
 bif A8 width 0 then
 some (eB,1)
 else
 bif A8 64 width then
 some (eB,1)
 else
 bif A8 65536 (AZ l) then
 some (eB,1)
 else
 (Ez l).bind λ x1=>
 bif A8 width x1 then
 some (eB,1)
 else
 let x2:=(PN (AZ l) width)
 bif (BC 0 (A7 .i64 x2 1)) && (B1 (Int.toNat (A7 .i64 x2 1)) 1) then
 j0 width [] 0 0 l (AZ l) 0
 else none
def CC (l:Bc) (width:Int):Option DN:=CC.S (CC.l0 (CC.t2 fu) fu) l width
def Ut (l:Bc):Option DN:=
 bif A8 65536 (AZ l) then
 some (eB,1)
 else
 bif A9 (AZ l) 0 then
 some (eB,0)
 else
 bif A9 (AZ l) 1 then
 bif Bf 0 (AZ l) then
 (D5 (nth l 0 0)).bind λ x1=>
 some (x1,0)
 else none
 else
 (CV l).bind λ x2=>
 (Ez x2.1).bind λ x3=>
 (CC x2.1 x3).bind λ x4=>
 bif Bf 0 (AZ l) then
 (D5 (nth l 0 0)).bind λ x5=>
 (D5 x2.2).bind λ x6=>
 bif Dh x5 x6 then
 bif Dh (D8 x5 x6) (ofBytes [(IntKind.wrap .u8 x3)]) then
 bif Dh (D8 (D8 x5 x6) (ofBytes [(IntKind.wrap .u8 x3)])) x4.1 then
 some ((D8 (D8 (D8 x5 x6) (ofBytes [(IntKind.wrap .u8 x3)])) x4.1),x4.2)
 else none
 else none
 else none
 else none
abbrev BV.A0:=ByteArray->Int->Bc->ByteArray->Bool->Option Dp
abbrev BV.A1:=ByteArray->Bc->Int->Bc->Int->Int->Bool->Option Dp
abbrev BV.A2:=ByteArray->Bc->Bool->Option Dp
def BV.S2:BV.A2:=λ DP CX C4=>
 (Ut CX).bind λ DO=>
 bif C4 then
 some ([],20)
 else
 bif BK DO.2 0 then
 some ([],20)
 else
 bif !(Cz DO.1 DP) then
 some ([],20)
 else
 some (CX,0)
def BV.t2:Nat->BV.A2
 | 0=>λ _ _ _=>none
 | _+1=>BV.S2
def BV.S1 (Hp:BV.A2) (self:BV.A1):BV.A1:=λ x9 Bl BI B0 BS B2 Cy=>
 bif A8 B2 BS then
 bif Bf B2 (AZ B0) then
 bif Bf (Bt .i64 (AZ Bl) 1) (AZ Bl) then
 bif B1 ((List.length Bl)+1) 8 then
 self x9 (Bl++[(Sl (Sl (nth Bl (Bt .i64 (AZ Bl) 1) 0) BI) (nth B0 B2 0))]) BI B0 BS (A7 .i64 B2 1) Cy
 else none
 else none
 else none
 else
 Hp x9 Bl Cy
def BV.l1 (Hp:BV.A2):Nat->BV.A1
 | 0=>λ _ _ _ _ _ _ _=>none
 | n+1=>BV.S1 Hp (BV.l1 Hp n)
def BV.S0 (j1:BV.A1) (j2:BV.A2):BV.A0:=λ x2 x3 x4 x5 x6=>
 bif A8 1 x3 then
 (Kp x5 x6).bind λ x7=>
 bif x7.2.2 then
 some ([],20)
 else
 bif Cz x7.2.1 eB then
 some ([],20)
 else
 bif CJ 1 (Bg x7.2.1) (Bg x7.2.1) then
 bif Bf 0 (Bg x7.2.1) then
 (Dd (cutS x7.2.1 1 (Bg x7.2.1)) (Bt .i64 x3 1) (IntKind.wrap .i64 (byteAt x7.2.1 0))).bind λ x8=>
 bif BK x8.2 0 then
 some ([],20)
 else
 j1 x2 x4 x7.1 x8.1 (AZ x8.1) 0 x7.2.2
 else none
 else none
 else
 j2 x2 x4 x6
def BV.t0:Nat->BV.A0
 | 0=>λ _ _ _ _ _=>none
 | n+1=>BV.S0 (BV.l1 (BV.t2 n) n) (BV.t2 n)
def BV.S (j0:BV.A0) (s:ByteArray) (xn:Int):Option Dp:=
 bif A8 xn 0 then
 some ([],1)
 else
 bif A8 65536 xn then
 some ([],1)
 else
 bif A8 0 xn then
 (Kp s false).bind λ x1=>
 j0 s xn [x1.1] x1.2.1 x1.2.2
 else
 j0 s xn [] s false
def BV (s:ByteArray) (xn:Int):Option Dp:=BV.S (BV.t0 fu) s xn
def T9 (s:ByteArray):Option Oi:=
 (F5 s).bind λ x1=>
 bif BK x1.2.2 0 then
 some (0,0)
 else
 some (x1.1,x1.2.1)
abbrev FA.A0:=Ho->Bool->Int->Int->Option Int
def FA.S0 (self:FA.A0):FA.A0:=λ x1 x2 x3 x4=>
 bif A8 x4 x3 then
 bif Bf x4 (AZ x1) then
 bif RZ x2 (nth x1 x4 false) then
 some x4
 else
 self x1 x2 x3 (A7 .i64 x4 1)
 else none
 else
 some (-1)
def FA.l0:Nat->FA.A0
 | 0=>λ _ _ _ _=>none
 | n+1=>FA.S0 (FA.l0 n)
def FA.S (j0:FA.A0) (s:Ho) (v:Bool):Option Int:=
 j0 s v (AZ s) 0
def FA (s:Ho) (v:Bool):Option Int:=FA.S (FA.l0 fu) s v
def PF (s:Ho) (v:Bool):Option Bool:=
 (FA s v).bind λ x1=>
 some (BC 0 x1)
abbrev BZ.A0:=ByteArray->Int->Int->Int->Bc->Int->Int->Option (Bc×Bc×Int)
abbrev BZ.A1:=ByteArray->Int->Int->Int->Bc->Option (Bc×Bc×Int)
abbrev BZ.A2:=Int->Bc->Bc->Bc->Int->Int->Ho->Option (Bc×Bc×Int)
abbrev BZ.A3:=Bc->Bc->Ho->Option (Bc×Bc×Int)
def BZ.S3:BZ.A3:=λ FX Ht JI=>
 (PF JI false).bind λ JJ=>
 bif JJ then
 some ([],[],20)
 else
 some (FX,Ht,0)
def BZ.t3:Nat->BZ.A3
 | 0=>λ _ _ _=>none
 | _+1=>BZ.S3
def BZ.S2 (QB:BZ.A3) (self:BZ.A2):BZ.A2:=λ Dt DP CX C4 DO Dy Fm=>
 bif A8 Dy DO then
 bif Bf Dy (AZ C4) then
 bif A8 (nth C4 Dy 0) 0 then
 some ([],[],20)
 else
 bif BC Dt (nth C4 Dy 0) then
 some ([],[],20)
 else
 bif Bf (nth C4 Dy 0) (AZ Fm) then
 self Dt DP CX C4 DO (A7 .i64 Dy 1) (List.set Fm (Int.toNat (nth C4 Dy 0)) true)
 else none
 else none
 else
 QB DP CX Fm
def BZ.l2 (QB:BZ.A3):Nat->BZ.A2
 | 0=>λ _ _ _ _ _ _ _=>none
 | n+1=>BZ.S2 QB (BZ.l2 QB n)
def BZ.S1 (j2:BZ.A2):BZ.A1:=λ Bl BI B0 BS B2=>
 bif CJ BS (Bg Bl) (Bg Bl) then
 (Ez [(Bt .i64 B0 1)]).bind λ Cy=>
 (Dd (cutS Bl BS (Bg Bl)) BI Cy).bind λ Ct=>
 bif BK Ct.2 0 then
 some ([],[],20)
 else
 bif (BC 0 B0) && (B1 (Int.toNat B0) 1) then
 j2 B0 B2 Ct.1 Ct.1 (AZ Ct.1) 0 (List.replicate (Int.toNat B0) false)
 else none
 else none
def BZ.t1:Nat->BZ.A1
 | 0=>λ _ _ _ _ _=>none
 | n+1=>BZ.S1 (BZ.l2 (BZ.t3 n) n)
def BZ.S0 (BG:BZ.A1) (self:BZ.A0):BZ.A0:=λ x2 x3 x4 x5 x6 x7 x8=>
 bif A8 x8 x7 then
 bif CJ x5 (Bg x2) (Bg x2) then
 (T9 (cutS x2 x5 (Bg x2))).bind λ x9=>
 bif A9 x9.2 0 then
 some ([],[],20)
 else
 bif A8 0 x8 then
 bif Bf (Bt .i64 x8 1) (AZ x6) then
 bif BC x9.1 (nth x6 (Bt .i64 x8 1) 0) then
 some ([],[],20)
 else
 bif B1 ((List.length x6)+1) 8 then
 self x2 x3 x4 (A7 .i64 x5 x9.2) (x6++[x9.1]) x7 (A7 .i64 x8 1)
 else none
 else none
 else
 bif B1 ((List.length x6)+1) 8 then
 self x2 x3 x4 (A7 .i64 x5 x9.2) (x6++[x9.1]) x7 (A7 .i64 x8 1)
 else none
 else none
 else
 BG x2 x3 x4 x5 x6
def BZ.l0 (BG:BZ.A1):Nat->BZ.A0
 | 0=>λ _ _ _ _ _ _ _=>none
 | n+1=>BZ.S0 BG (BZ.l0 BG n)
def BZ.S (j0:BZ.A0) (s:ByteArray) (xn:Int):Option (Bc×Bc×Int):=
 bif A8 xn 0 then
 some ([],[],1)
 else
 bif A8 65536 xn then
 some ([],[],1)
 else
 bif A9 xn 0 then
 bif !(Cz s eB) then
 some ([],[],20)
 else
 some ([],[],0)
 else
 (F5 s).bind λ x1=>
 bif BK x1.2.2 0 then
 some ([],[],20)
 else
 bif A8 x1.1 1 then
 some ([],[],20)
 else
 bif A8 xn x1.1 then
 some ([],[],20)
 else
 j0 s xn x1.1 x1.2.1 [] x1.1 0
def BZ (s:ByteArray) (xn:Int):Option (Bc×Bc×Int):=BZ.S (BZ.l0 (BZ.t1 fu) fu) s xn
abbrev FD.A0:=Bc->Bc->Bc->Int->Int->Option (Bc)
def FD.S0 (self:FD.A0):FD.A0:=λ x1 x2 x3 x4 x5=>
 bif A8 x5 x4 then
 bif Bf x5 (AZ x3) then
 bif Bf (nth x3 x5 0) (AZ x1) then
 bif B1 ((List.length x2)+1) 8 then
 self x1 (x2++[(nth x1 (nth x3 x5 0) 0)]) x3 x4 (A7 .i64 x5 1)
 else none
 else none
 else none
 else
 some x2
def FD.l0:Nat->FD.A0
 | 0=>λ _ _ _ _ _=>none
 | n+1=>FD.S0 (FD.l0 n)
def FD.S (j0:FD.A0) (d places:Bc):Option (Bc):=
 j0 d [] places (AZ places) 0
def FD (d places:Bc):Option (Bc):=FD.S (FD.l0 fu) d places
def QZ (s:ByteArray) (xn:Int):Option Dp:=
 (BZ s xn).bind λ x1=>
 bif BK x1.2.2 0 then
 some ([],x1.2.2)
 else
 (FD x1.1 x1.2.1).bind λ x2=>
 some (x2,0)
def PO (s:ByteArray) (xn code:Int):Option Dp:=
 bif A9 code 1 then
 (C5 s xn).bind λ x1=>
 some x1
 else
 bif A9 code 2 then
 (Cw s xn).bind λ x2=>
 bif BK x2.2 0 then
 some ([],x2.2)
 else
 (Gm x2.1).bind λ x3=>
 some x3
 else
 bif A9 code 3 then
 (BV s xn).bind λ x4=>
 some x4
 else
 bif A9 code 4 then
 (QZ s xn).bind λ x5=>
 some x5
 else
 bif A9 code 5 then
 bif !(Cz s eB) then
 bif CJ 1 (Bg s) (Bg s) then
 bif Bf 0 (Bg s) then
 (Dd (cutS s 1 (Bg s)) xn (IntKind.wrap .i64 (byteAt s 0))).bind λ x6=>
 some x6
 else none
 else none
 else
 some ([],5)
 else
 some ([],5)
abbrev Dm.A0:=ByteArray->Int->Cn->Option Jd
abbrev Dm.A1:=Int->Cn->Option Jd
def Dm.S1:Dm.A1:=λ x4 x5=>
 bif BK (AZ x5) x4 then
 some ([],20)
 else
 some (x5,0)
def Dm.t1:Nat->Dm.A1
 | 0=>λ _ _=>none
 | _+1=>Dm.S1
def Dm.S0 (BG:Dm.A1) (self:Dm.A0):Dm.A0:=λ x1 x2 x3=>
 bif !(Cz x1 eB) then
 bif Bf 0 (Bg x1) then
 bif A8 32 (IntKind.wrap .i64 (byteAt x1 0)) then
 some ([],20)
 else
 bif BC (Bg x1) (IntKind.wrap .i64 (byteAt x1 0)) then
 some ([],20)
 else
 bif CJ 1 (A7 .i64 1 (IntKind.wrap .i64 (byteAt x1 0))) (Bg x1) then
 bif B1 ((List.length x3)+1) 16 then
 bif CJ (A7 .i64 1 (IntKind.wrap .i64 (byteAt x1 0))) (Bg x1) (Bg x1) then
 self (cutS x1 (A7 .i64 1 (IntKind.wrap .i64 (byteAt x1 0))) (Bg x1)) x2 (x3++[(cutS x1 1 (A7 .i64 1 (IntKind.wrap .i64 (byteAt x1 0))))])
 else none
 else none
 else none
 else none
 else
 BG x2 x3
def Dm.l0 (BG:Dm.A1):Nat->Dm.A0
 | 0=>λ _ _ _=>none
 | n+1=>Dm.S0 BG (Dm.l0 BG n)
def Dm.S (j0:Dm.A0) (s:ByteArray) (xn:Int):Option Jd:=
 j0 s xn []
def Dm (s:ByteArray) (xn:Int):Option Jd:=Dm.S (Dm.l0 (Dm.t1 fu) fu) s xn
abbrev Co.A0:=ByteArray->Int->Int->Int->Cn->Int->Int->Option Jd
abbrev Co.A1:=ByteArray->Int->Int->Int->Cn->Option Jd
abbrev Co.A2:=Int->Cn->Cn->Bc->Int->Int->Option Jd
def Co.S2 (self:Co.A2):Co.A2:=λ Ct Dt DP CX C4 DO=>
 bif A8 DO C4 then
 bif Bf DO (AZ CX) then
 bif A8 (nth CX DO 0) 0 then
 some ([],5)
 else
 bif BC Ct (nth CX DO 0) then
 some ([],5)
 else
 bif Bf (nth CX DO 0) (AZ Dt) then
 bif B1 ((List.length DP)+1) 16 then
 self Ct Dt (DP++[(nth Dt (nth CX DO 0) eB)]) CX C4 (A7 .i64 DO 1)
 else none
 else none
 else none
 else
 some (DP,0)
def Co.l2:Nat->Co.A2
 | 0=>λ _ _ _ _ _ _=>none
 | n+1=>Co.S2 (Co.l2 n)
def Co.S1 (j2:Co.A2):Co.A1:=λ x9 Bl BI B0 BS=>
 bif CJ B0 (Bg x9) (Bg x9) then
 (Cw (cutS x9 B0 (Bg x9)) Bl).bind λ B2=>
 bif BK B2.2 0 then
 some ([],B2.2)
 else
 (Gm B2.1).bind λ Cy=>
 bif BK Cy.2 0 then
 some ([],Cy.2)
 else
 j2 BI BS [] Cy.1 (AZ Cy.1) 0
 else none
def Co.t1:Nat->Co.A1
 | 0=>λ _ _ _ _ _=>none
 | n+1=>Co.S1 (Co.l2 n)
def Co.S0 (BG:Co.A1) (self:Co.A0):Co.A0:=λ x2 x3 x4 x5 x6 x7 x8=>
 bif A8 x8 x7 then
 bif BC (Bg x2) x5 then
 some ([],5)
 else
 bif Bf x5 (Bg x2) then
 bif BC (Bt .i64 (Bg x2) x5) (IntKind.wrap .i64 (byteAt x2 x5)) then
 some ([],5)
 else
 bif Bf x5 (Bg x2) then
 bif CJ (A7 .i64 x5 1) (A7 .i64 (A7 .i64 x5 1) (IntKind.wrap .i64 (byteAt x2 x5))) (Bg x2) then
 bif B1 ((List.length x6)+1) 16 then
 self x2 x3 x4 (A7 .i64 (A7 .i64 x5 1) (IntKind.wrap .i64 (byteAt x2 x5))) (x6++[(cutS x2 (A7 .i64 x5 1) (A7 .i64 (A7 .i64 x5 1) (IntKind.wrap .i64 (byteAt x2 x5))))]) x7 (A7 .i64 x8 1)
 else none
 else none
 else none
 else none
 else
 BG x2 x3 x4 x5 x6
def Co.l0 (BG:Co.A1):Nat->Co.A0
 | 0=>λ _ _ _ _ _ _ _=>none
 | n+1=>Co.S0 BG (Co.l0 BG n)
def Co.S (j0:Co.A0) (s:ByteArray) (xn:Int):Option Jd:=
 bif A9 xn 0 then
 bif !(Cz s eB) then
 some ([],5)
 else
 some ([],0)
 else
 (F5 s).bind λ x1=>
 bif BK x1.2.2 0 then
 some ([],5)
 else
 bif A8 x1.1 1 then
 some ([],5)
 else
 bif A8 xn x1.1 then
 some ([],5)
 else
 j0 s xn x1.1 x1.2.1 [] x1.1 0
def Co (s:ByteArray) (xn:Int):Option Jd:=Co.S (Co.l0 (Co.t1 fu) fu) s xn
def Ub (s:ByteArray):Option DN:=
 bif Cz s eB then
 some (eB,0)
 else
 bif Bf 0 (Bg s) then
 bif A8 32 (IntKind.wrap .i64 (byteAt s 0)) then
 some (eB,0)
 else
 bif BC (Bg s) (IntKind.wrap .i64 (byteAt s 0)) then
 some (eB,0)
 else
 bif CJ 1 (A7 .i64 1 (IntKind.wrap .i64 (byteAt s 0))) (Bg s) then
 some ((cutS s 1 (A7 .i64 1 (IntKind.wrap .i64 (byteAt s 0)))),(A7 .i64 1 (IntKind.wrap .i64 (byteAt s 0))))
 else none
 else none
abbrev BX.A0:=ByteArray->Int->Int->Int->Cn->Int->Int->Option (Cn×Bc×Int)
abbrev BX.A1:=ByteArray->Int->Int->Int->Cn->Option (Cn×Bc×Int)
abbrev BX.A2:=Int->Cn->Bc->Bc->Int->Int->Ho->Option (Cn×Bc×Int)
abbrev BX.A3:=Cn->Bc->Ho->Option (Cn×Bc×Int)
def BX.S3:BX.A3:=λ FX Ht JI=>
 (PF JI false).bind λ JJ=>
 bif JJ then
 some ([],[],20)
 else
 some (FX,Ht,0)
def BX.t3:Nat->BX.A3
 | 0=>λ _ _ _=>none
 | _+1=>BX.S3
def BX.S2 (QB:BX.A3) (self:BX.A2):BX.A2:=λ Dt DP CX C4 DO Dy Fm=>
 bif A8 Dy DO then
 bif Bf Dy (AZ C4) then
 bif A8 (nth C4 Dy 0) 0 then
 some ([],[],20)
 else
 bif BC Dt (nth C4 Dy 0) then
 some ([],[],20)
 else
 bif Bf (nth C4 Dy 0) (AZ Fm) then
 self Dt DP CX C4 DO (A7 .i64 Dy 1) (List.set Fm (Int.toNat (nth C4 Dy 0)) true)
 else none
 else none
 else
 QB DP CX Fm
def BX.l2 (QB:BX.A3):Nat->BX.A2
 | 0=>λ _ _ _ _ _ _ _=>none
 | n+1=>BX.S2 QB (BX.l2 QB n)
def BX.S1 (j2:BX.A2):BX.A1:=λ Bl BI B0 BS B2=>
 bif CJ BS (Bg Bl) (Bg Bl) then
 (Ez [(Bt .i64 B0 1)]).bind λ Cy=>
 (Dd (cutS Bl BS (Bg Bl)) BI Cy).bind λ Ct=>
 bif BK Ct.2 0 then
 some ([],[],20)
 else
 bif (BC 0 B0) && (B1 (Int.toNat B0) 1) then
 j2 B0 B2 Ct.1 Ct.1 (AZ Ct.1) 0 (List.replicate (Int.toNat B0) false)
 else none
 else none
def BX.t1:Nat->BX.A1
 | 0=>λ _ _ _ _ _=>none
 | n+1=>BX.S1 (BX.l2 (BX.t3 n) n)
def BX.S0 (BG:BX.A1) (self:BX.A0):BX.A0:=λ x2 x3 x4 x5 x6 x7 x8=>
 bif A8 x8 x7 then
 bif CJ x5 (Bg x2) (Bg x2) then
 (Ub (cutS x2 x5 (Bg x2))).bind λ x9=>
 bif A9 x9.2 0 then
 some ([],[],20)
 else
 bif A8 0 x8 then
 bif Bf (Bt .i64 x8 1) (AZ x6) then
 bif (KK x9.1 (nth x6 (Bt .i64 x8 1) eB)) || (Cz x9.1 (nth x6 (Bt .i64 x8 1) eB)) then
 some ([],[],20)
 else
 bif B1 ((List.length x6)+1) 16 then
 self x2 x3 x4 (A7 .i64 x5 x9.2) (x6++[x9.1]) x7 (A7 .i64 x8 1)
 else none
 else none
 else
 bif B1 ((List.length x6)+1) 16 then
 self x2 x3 x4 (A7 .i64 x5 x9.2) (x6++[x9.1]) x7 (A7 .i64 x8 1)
 else none
 else none
 else
 BG x2 x3 x4 x5 x6
def BX.l0 (BG:BX.A1):Nat->BX.A0
 | 0=>λ _ _ _ _ _ _ _=>none
 | n+1=>BX.S0 BG (BX.l0 BG n)
def BX.S (j0:BX.A0) (s:ByteArray) (xn:Int):Option (Cn×Bc×Int):=
 bif A8 xn 0 then
 some ([],[],1)
 else
 bif A8 65536 xn then
 some ([],[],1)
 else
 bif A9 xn 0 then
 bif !(Cz s eB) then
 some ([],[],20)
 else
 some ([],[],0)
 else
 (F5 s).bind λ x1=>
 bif BK x1.2.2 0 then
 some ([],[],20)
 else
 bif A8 x1.1 1 then
 some ([],[],20)
 else
 bif A8 xn x1.1 then
 some ([],[],20)
 else
 j0 s xn x1.1 x1.2.1 [] x1.1 0
def BX (s:ByteArray) (xn:Int):Option (Cn×Bc×Int):=BX.S (BX.l0 (BX.t1 fu) fu) s xn
def PI (s:ByteArray) (xn:Int):Option (Cn×Bc×Int):=
 (BX s xn).bind λ x1=>
 some x1
abbrev FC.A0:=Cn->Cn->Bc->Int->Int->Option (Cn)
def FC.S0 (self:FC.A0):FC.A0:=λ x1 x2 x3 x4 x5=>
 bif A8 x5 x4 then
 bif Bf x5 (AZ x3) then
 bif Bf (nth x3 x5 0) (AZ x1) then
 bif B1 ((List.length x2)+1) 16 then
 self x1 (x2++[(nth x1 (nth x3 x5 0) eB)]) x3 x4 (A7 .i64 x5 1)
 else none
 else none
 else none
 else
 some x2
def FC.l0:Nat->FC.A0
 | 0=>λ _ _ _ _ _=>none
 | n+1=>FC.S0 (FC.l0 n)
def FC.S (j0:FC.A0) (d:Cn) (places:Bc):Option (Cn):=
 j0 d [] places (AZ places) 0
def FC (d:Cn) (places:Bc):Option (Cn):=FC.S (FC.l0 fu) d places
def Ua (s:ByteArray) (xn:Int):Option Jd:=
 (PI s xn).bind λ x1=>
 bif BK x1.2.2 0 then
 some ([],x1.2.2)
 else
 (FC x1.1 x1.2.1).bind λ x2=>
 some (x2,0)
def Sm (s:ByteArray) (xn code:Int):Option Jd:=
 bif A9 code 1 then
 (Dm s xn).bind λ x1=>
 some x1
 else
 bif A9 code 2 then
 (Co s xn).bind λ x2=>
 some x2
 else
 bif A9 code 4 then
 (Ua s xn).bind λ x3=>
 some x3
 else
 some ([],5)
abbrev CO.A0:=CD->Int->Bc->Int->Int->Oj->Option Ka
abbrev CO.A1:=CD->Int->Cn->Int->Int->Oj->Option Ka
def CO.S0 (self:CO.A0):CO.A0:=λ x2 x3 x4 x5 x6 x7=>
 bif A8 x6 x5 then
 bif Bf x6 (AZ x4) then
 bif B1 ((List.length x2)+1) 32 then
 self (x2++[(x7.1,(nth x4 x6 0),eB)]) x3 x4 x5 (A7 .i64 x6 1) x7
 else none
 else none
 else
 some (x2,x3)
def CO.l0:Nat->CO.A0
 | 0=>λ _ _ _ _ _ _=>none
 | n+1=>CO.S0 (CO.l0 n)
def CO.S1 (self:CO.A1):CO.A1:=λ x9 Bl BI B0 BS B2=>
 bif A8 BS B0 then
 bif Bf BS (AZ BI) then
 bif B1 ((List.length x9)+1) 32 then
 self (x9++[(B2.1,0,(nth BI BS eB))]) Bl BI B0 (A7 .i64 BS 1) B2
 else none
 else none
 else
 some (x9,Bl)
def CO.l1:Nat->CO.A1
 | 0=>λ _ _ _ _ _ _=>none
 | n+1=>CO.S1 (CO.l1 n)
def CO.S (j0:CO.A0) (j1:CO.A1) (s:ByteArray) (xn:Int) (h:Oj):Option Ka:=
 bif A9 h.1 1 then
 (PO s xn h.2.1).bind λ x1=>
 j0 [] x1.2 x1.1 (AZ x1.1) 0 h
 else
 bif A9 h.1 2 then
 (Sm s xn h.2.1).bind λ x8=>
 j1 [] x8.2 x8.1 (AZ x8.1) 0 h
 else
 some ([],5)
def CO (s:ByteArray) (xn:Int) (h:Oj):Option Ka:=CO.S (CO.l0 fu) (CO.l1 fu) s xn h
def PQ (c:RP):Bool:=
 (A9 c.1 0)
abbrev Hx.A0:=CD->Int->Int->Option Int
def Hx.S0 (self:Hx.A0):Hx.A0:=λ x1 x2 x3=>
 bif A8 x3 x2 then
 bif Bf x3 (AZ x1) then
 bif PQ (nth x1 x3 (0,0,eB)) then
 some x3
 else
 self x1 x2 (A7 .i64 x3 1)
 else none
 else
 some (-1)
def Hx.l0:Nat->Hx.A0
 | 0=>λ _ _ _=>none
 | n+1=>Hx.S0 (Hx.l0 n)
def Hx.S (j0:Hx.A0) (s:CD):Option Int:=
 j0 s (AZ s) 0
def Hx (s:CD):Option Int:=Hx.S (Hx.l0 fu) s
def Zi (s:CD):Option Bool:=
 (Hx s).bind λ x1=>
 some (BC 0 x1)
abbrev EK.A0:=CD->Bc->Int->Int->CD->Option Ka
def EK.S0 (self:EK.A0):EK.A0:=λ x4 x5 x6 x7 x8=>
 bif A8 x7 x6 then
 bif Bf x7 (AZ x5) then
 bif A9 (nth x5 x7 0) 0 then
 bif Bf 0 (AZ x4) then
 bif CJ 1 (AZ x4) (AZ x4) then
 bif Bf x7 (AZ x8) then
 self (List.drop 1 x4) x5 x6 (A7 .i64 x7 1) (List.set x8 (Int.toNat x7) (nth x4 0 (0,0,eB)))
 else none
 else none
 else none
 else
 self x4 x5 x6 (A7 .i64 x7 1) x8
 else none
 else
 some (x8,0)
def EK.l0:Nat->EK.A0
 | 0=>λ _ _ _ _ _=>none
 | n+1=>EK.S0 (EK.l0 n)
def EK.S (j0:EK.A0) (s:ByteArray) (xn:Int) (l:CD):Option Ka:=
 (N3 s xn).bind λ x1=>
 bif BK x1.2 0 then
 some ([],x1.2)
 else
 (Fo s xn).bind λ x2=>
 bif BK (AZ l) (Bt .i64 xn x2.1) then
 some ([],20)
 else
 (Zi l).bind λ x3=>
 bif x3 then
 some ([],20)
 else
 bif (BC 0 xn) && (B1 (Int.toNat xn) 32) then
 j0 l x1.1 (AZ (List.replicate (Int.toNat xn) ((0:Int),((0:Int),eB)))) 0 (List.replicate (Int.toNat xn) ((0:Int),((0:Int),eB)))
 else none
def EK (s:ByteArray) (xn:Int) (l:CD):Option Ka:=EK.S (EK.l0 fu) s xn l
def LR (c:RP) (t1:Int):Bool:=
 bif BK (Fp c) 0 then
 true
 else
 bif BK c.1 0 then
 (BK c.1 t1)
 else
 false
def LR.o (c:RP) (t1:Int):Option Bool:=
 bif BK (Fp c) 0 then
 some true
 else
 bif BK c.1 0 then
 some (BK c.1 t1)
 else
 some false
abbrev Hw.A0:=CD->Int->Int->Int->Option Int
def Hw.S0 (self:Hw.A0):Hw.A0:=λ x1 x2 x3 x4=>
 bif A8 x4 x3 then
 bif Bf x4 (AZ x1) then
 bif LR (nth x1 x4 (0,0,eB)) x2 then
 some x4
 else
 self x1 x2 x3 (A7 .i64 x4 1)
 else none
 else
 some (-1)
def Hw.l0:Nat->Hw.A0
 | 0=>λ _ _ _ _=>none
 | n+1=>Hw.S0 (Hw.l0 n)
def Hw.S (j0:Hw.A0) (s:CD) (f0:Int):Option Int:=
 j0 s f0 (AZ s) 0
def Hw (s:CD) (f0:Int):Option Int:=Hw.S (Hw.l0 fu) s f0
def V8 (s:CD) (f0:Int):Option Bool:=
 (Hw s f0).bind λ x1=>
 some (BC 0 x1)
def Uu (l:CD) (kind:Int):Option Bool:=
 bif A8 (AZ l) 1 then
 some false
 else
 bif A8 64 (AZ l) then
 some false
 else
 bif BK kind 1 then
 bif BK kind 2 then
 some false
 else
 (V8 l kind).bind λ x1=>
 some (!x1)
 else
 (V8 l kind).bind λ x2=>
 some (!x2)
def Wc (c:RP):Bool:=
 (PQ c)
abbrev Hd.A0:=Int->Int->CD->Option Tn
def Hd.S0 (self:Hd.A0):Hd.A0:=λ x1 x2 x3=>
 bif A8 x2 x1 then
 bif Bf x2 (AZ x3) then
 bif Wc (List.getD x3 (Int.toNat x2) (0,0,eB)) then
 bif decide (0<(List.length x3)) then
 some (x2,x3)
 else none
 else
 self x1 (A7 .i64 x2 1) x3
 else none
 else
 bif decide (0<(List.length x3)) then
 some ((-1),x3)
 else none
def Hd.l0:Nat->Hd.A0
 | 0=>λ _ _ _=>none
 | n+1=>Hd.S0 (Hd.l0 n)
def Hd.S (j0:Hd.A0) (s:CD):Option Tn:=
 j0 (AZ s) 0 s
def Hd (s:CD):Option Tn:=Hd.S (Hd.l0 fu) s
abbrev Ek.A0:=Int->Int->CD->Option Tn
abbrev Ek.A1:=Int->CD->Option Tn
def Ek.S1:Ek.A1:=λ x6 x7=>
 bif CJ x6 (AZ x7) (AZ x7) then
 bif CJ 0 x6 (AZ (Ig x7 (Int.toNat x6) (List.replicate ((Int.toNat (AZ x7))-(Int.toNat x6)) ((0:Int),((0:Int),eB))))) then
 bif decide (0<(List.length (Ig x7 (Int.toNat x6) (List.replicate ((Int.toNat (AZ x7))-(Int.toNat x6)) ((0:Int),((0:Int),eB)))))) then
 some (((((Int.toNat x6)-0):Nat):Int),(Ig x7 (Int.toNat x6) (List.replicate ((Int.toNat (AZ x7))-(Int.toNat x6)) ((0:Int),((0:Int),eB)))))
 else none
 else none
 else none
def Ek.t1:Nat->Ek.A1
 | 0=>λ _ _=>none
 | _+1=>Ek.S1
def Ek.S0 (BG:Ek.A1) (self:Ek.A0):Ek.A0:=λ x2 x3 x4=>
 bif A8 x3 (AZ x4) then
 bif Bf x3 (AZ x4) then
 bif !(Wc (List.getD x4 (Int.toNat x3) (0,0,eB))) then
 bif Bf x2 (AZ x4) then
 self (A7 .i64 x2 1) (A7 .i64 x3 1) (List.set x4 (Int.toNat x2) (List.getD x4 (Int.toNat x3) (0,0,eB)))
 else none
 else
 self x2 (A7 .i64 x3 1) x4
 else none
 else
 BG x2 x4
def Ek.l0 (BG:Ek.A1):Nat->Ek.A0
 | 0=>λ _ _ _=>none
 | n+1=>Ek.S0 BG (Ek.l0 BG n)
def Ek.S (j0:Ek.A0) (s:CD):Option Tn:=
 (Qc ((decide (0<(List.length s))) && true) (Hd s) λ _x=>((decide ((List.length _x.2)=(List.length s))) && true)).bind λ x1=>
 bif A9 x1.1 (-1) then
 bif decide (0<(List.length x1.2)) then
 some ((AZ x1.2),x1.2)
 else none
 else
 j0 x1.1 (A7 .i64 x1.1 1) x1.2
def Ek (s:CD):Option Tn:=Ek.S (Ek.l0 (Ek.t1 fu) fu) s
abbrev Ea.A0:=Nat->Nat->CD->Int->Int->CD->Bc->Option Qy
abbrev Ea.A1:=Nat->Nat->CD->Bc->Option Qy
def Ea.S1:Ea.A1:=λ BI B0 BS B2=>
 (CC B2 1).bind λ Cy=>
 some (Cy.1,(List.take B0 (List.drop BI BS)))
def Ea.t1:Nat->Ea.A1
 | 0=>λ _ _ _ _=>none
 | _+1=>Ea.S1
def Ea.S0 (BG:Ea.A1) (self:Ea.A0):Ea.A0:=λ x3 x4 x5 x6 x7 x8 x9=>
 bif A8 x7 x6 then
 bif Bf x7 (AZ x5) then
 bif PQ (nth x5 x7 (0,0,eB)) then
 bif Bf x7 (AZ x9) then
 self x3 x4 x5 x6 (A7 .i64 x7 1) x8 (List.set x9 (Int.toNat x7) 1)
 else none
 else
 self x3 x4 x5 x6 (A7 .i64 x7 1) x8 x9
 else none
 else
 BG x3 x4 x8 x9
def Ea.l0 (BG:Ea.A1):Nat->Ea.A0
 | 0=>λ _ _ _ _ _ _ _=>none
 | n+1=>Ea.S0 BG (Ea.l0 BG n)
def Ea.S (j0:Ea.A0) (l:CD):Option Qy:=
 (Lp 32 l).bind λ x1=>
 (Qc ((decide (0<(List.length x1))) && true) (Ek x1) λ _x=>((decide ((List.length _x.2)=(List.length x1))) && true)).bind λ x2=>
 bif A9 (((Int.toNat x2.1):Nat):Int) (AZ l) then
 some (eB,(List.take (Int.toNat x2.1) (List.drop 0 x2.2)))
 else
 bif (BC 0 (AZ l)) && (B1 (Int.toNat (AZ l)) 8) then
 j0 0 (Int.toNat x2.1) l (AZ l) 0 x2.2 (List.replicate (Int.toNat (AZ l)) (0:Int))
 else none
def Ea (l:CD):Option Qy:=Ea.S (Ea.l0 (Ea.t1 fu) fu) l
abbrev DA.A0:=Bc->Bc->Int->Int->Option ByteArray
abbrev DA.A1:=Bc->Int->Bc->Int->Int->Int->Option ByteArray
def DA.S1 (CS:DA.A0) (self:DA.A1):DA.A1:=λ x5 x6 x7 x8 x9 Bl=>
 bif A8 Bl 8 then
 bif B1 ((List.length x5)+1) 1 then
 self (x5++[(IntKind.wrap .u8 x6)]) (B7 .u64 x6 8) x7 x8 x9 (A7 .i64 Bl 1)
 else none
 else
 CS x5 x7 x8 (A7 .i64 x9 1)
def DA.l1 (CS:DA.A0):Nat->DA.A1
 | 0=>λ _ _ _ _ _ _=>none
 | n+1=>DA.S1 CS (DA.l1 CS n)
def DA.S0 (j1:DA.A1):DA.A0:=λ x1 x2 x3 x4=>
 bif A8 x4 x3 then
 bif Bf x4 (AZ x2) then
 j1 x1 (IntKind.wrap .u64 (nth x2 x4 0)) x2 x3 x4 0
 else none
 else
 some (ofBytes x1)
def DA.l0:Nat->DA.A0
 | 0=>λ _ _ _ _=>none
 | n+1=>DA.S0 (DA.l1 (DA.l0 n) n)
def DA.S (j0:DA.A0) (l:Bc):Option ByteArray:=
 bif (BC 0 (CI .i64 8 (AZ l))) && (B1 (Int.toNat (CI .i64 8 (AZ l))) 1) then
 j0 [] l (AZ l) 0
 else none
def DA (l:Bc):Option ByteArray:=DA.S (DA.l0 fu) l
abbrev FI.A0:=Bc->Bc->Int->Int->Eu->Option (Eu)
def FI.S0 (self:FI.A0):FI.A0:=λ x1 x2 x3 x4 x5=>
 bif A8 x4 x3 then
 bif Bf x4 (AZ x2) then
 bif A9 x4 0 then
 bif B1 ((List.length x5)+1) 24 then
 bif Bf (Bt .i64 (AZ (x5++[((nth x2 x4 0),x4,0)])) 1) (AZ (x5++[((nth x2 x4 0),x4,0)])) then
 bif Bf (Bt .i64 (AZ (x5++[((nth x2 x4 0),x4,0)])) 1) (AZ (x5++[((nth x2 x4 0),x4,0)])) then
 self x1 x2 x3 (A7 .i64 x4 1) (List.set (x5++[((nth x2 x4 0),x4,0)]) (Int.toNat (Bt .i64 (AZ (x5++[((nth x2 x4 0),x4,0)])) 1)) ((List.getD (x5++[((nth x2 x4 0),x4,0)]) (Int.toNat (Bt .i64 (AZ (x5++[((nth x2 x4 0),x4,0)])) 1)) (0,0,0)).1,(List.getD (x5++[((nth x2 x4 0),x4,0)]) (Int.toNat (Bt .i64 (AZ (x5++[((nth x2 x4 0),x4,0)])) 1)) (0,0,0)).2.1,(A7 .i64 (List.getD (x5++[((nth x2 x4 0),x4,0)]) (Int.toNat (Bt .i64 (AZ (x5++[((nth x2 x4 0),x4,0)])) 1)) (0,0,0)).2.2 1)))
 else none
 else none
 else none
 else
 bif Bf (Bt .i64 x4 1) (AZ x1) then
 bif BK (nth x2 x4 0) (nth x1 (Bt .i64 x4 1) 0) then
 bif B1 ((List.length x5)+1) 24 then
 bif Bf (Bt .i64 (AZ (x5++[((nth x2 x4 0),x4,0)])) 1) (AZ (x5++[((nth x2 x4 0),x4,0)])) then
 bif Bf (Bt .i64 (AZ (x5++[((nth x2 x4 0),x4,0)])) 1) (AZ (x5++[((nth x2 x4 0),x4,0)])) then
 self x1 x2 x3 (A7 .i64 x4 1) (List.set (x5++[((nth x2 x4 0),x4,0)]) (Int.toNat (Bt .i64 (AZ (x5++[((nth x2 x4 0),x4,0)])) 1)) ((List.getD (x5++[((nth x2 x4 0),x4,0)]) (Int.toNat (Bt .i64 (AZ (x5++[((nth x2 x4 0),x4,0)])) 1)) (0,0,0)).1,(List.getD (x5++[((nth x2 x4 0),x4,0)]) (Int.toNat (Bt .i64 (AZ (x5++[((nth x2 x4 0),x4,0)])) 1)) (0,0,0)).2.1,(A7 .i64 (List.getD (x5++[((nth x2 x4 0),x4,0)]) (Int.toNat (Bt .i64 (AZ (x5++[((nth x2 x4 0),x4,0)])) 1)) (0,0,0)).2.2 1)))
 else none
 else none
 else none
 else
 bif Bf (Bt .i64 (AZ x5) 1) (AZ x5) then
 bif Bf (Bt .i64 (AZ x5) 1) (AZ x5) then
 self x1 x2 x3 (A7 .i64 x4 1) (List.set x5 (Int.toNat (Bt .i64 (AZ x5) 1)) ((List.getD x5 (Int.toNat (Bt .i64 (AZ x5) 1)) (0,0,0)).1,(List.getD x5 (Int.toNat (Bt .i64 (AZ x5) 1)) (0,0,0)).2.1,(A7 .i64 (List.getD x5 (Int.toNat (Bt .i64 (AZ x5) 1)) (0,0,0)).2.2 1)))
 else none
 else none
 else none
 else none
 else
 some x5
def FI.l0:Nat->FI.A0
 | 0=>λ _ _ _ _ _=>none
 | n+1=>FI.S0 (FI.l0 n)
def FI.S (j0:FI.A0) (l:Bc):Option (Eu):=
 bif A8 65536 (AZ l) then
 some []
 else
 j0 l l (AZ l) 0 []
def FI (l:Bc):Option (Eu):=FI.S (FI.l0 fu) l
def Se (b:(Bool×Bc)) (s:ByteArray):Option (Int×Bool×(Bool×Bc)):=
 bif B1 ((List.length (OW b).2)+(ByteArray.size s)) 1 then
 some ((Bg s),true,(OW b).1,((OW b).2++(Bu s)))
 else none
abbrev F8.A0:=Eu->Int->Int->(Bool×Bc)->Option DN
def F8.S0 (self:F8.A0):F8.A0:=λ x2 x3 x4 x5=>
 bif A8 x4 x3 then
 bif Bf x4 (AZ x2) then
 (D5 (nth x2 x4 (0,0,0)).1).bind λ x6=>
 (Se x5 x6).bind λ x7=>
 (D5 (nth x2 x4 (0,0,0)).2.2).bind λ x8=>
 (Se x7.2.2 x8).bind λ x9=>
 self x2 x3 (A7 .i64 x4 1) x9.2.2
 else none
 else
 (Oa x5).bind λ Bl=>
 some (Bl.1,0)
def F8.l0:Nat->F8.A0
 | 0=>λ _ _ _ _=>none
 | n+1=>F8.S0 (F8.l0 n)
def F8.S (j0:F8.A0) (l:Eu):Option DN:=
 (E4 l).bind λ x1=>
 bif !x1.2 then
 some (eB,1)
 else
 j0 l (AZ l) 0 (true,[])
def F8 (l:Eu):Option DN:=F8.S (F8.l0 fu) l
def cmp_Less_int (x y:Int):Bool:=
 bif cmp_isNaN_int x then
 bif !(cmp_isNaN_int y) then
 true
 else
 (A8 x y)
 else
 (A8 x y)
def cmp_Less_int.o (x y:Int):Option Bool:=
 bif cmp_isNaN_int x then
 bif !(cmp_isNaN_int y) then
 some true
 else
 some (A8 x y)
 else
 some (A8 x y)
def Zm (x:Int):Bool:=
 (BK x x)
abbrev DR.A0:=Bc->Int->Int->Int->Int->Option (Int×Bool)
abbrev DR.A1:=Bc->Int->Int->Int->Option (Int×Bool)
def DR.S1:DR.A1:=λ x7 x8 x9 Bl=>
 bif A8 Bl x9 then
 bif Bf Bl (AZ x7) then
 bif A9 (nth x7 Bl 0) x8 then
 some (Bl,true)
 else
 bif Bf Bl (AZ x7) then
 bif Zm (nth x7 Bl 0) then
 some (Bl,(Zm x8))
 else
 some (Bl,false)
 else none
 else none
 else
 some (Bl,false)
def DR.t1:Nat->DR.A1
 | 0=>λ _ _ _ _=>none
 | _+1=>DR.S1
def DR.S0 (BG:DR.A1) (self:DR.A0):DR.A0:=λ x1 x2 x3 x4 x5=>
 bif A8 x4 x5 then
 bif Bf (IntKind.wrap .i64 (B7 .u64 (IntKind.wrap .u64 (A7 .i64 x4 x5)) 1)) (AZ x1) then
 bif cmp_Less_int (nth x1 (IntKind.wrap .i64 (B7 .u64 (IntKind.wrap .u64 (A7 .i64 x4 x5)) 1)) 0) x2 then
 self x1 x2 x3 (A7 .i64 (IntKind.wrap .i64 (B7 .u64 (IntKind.wrap .u64 (A7 .i64 x4 x5)) 1)) 1) x5
 else
 self x1 x2 x3 x4 (IntKind.wrap .i64 (B7 .u64 (IntKind.wrap .u64 (A7 .i64 x4 x5)) 1))
 else none
 else
 BG x1 x2 x3 x4
def DR.l0 (BG:DR.A1):Nat->DR.A0
 | 0=>λ _ _ _ _ _=>none
 | n+1=>DR.S0 BG (DR.l0 BG n)
def DR.S (j0:DR.A0) (x:Bc) (target:Int):Option (Int×Bool):=
 j0 x target (AZ x) 0 (AZ x)
def DR (x:Bc) (target:Int):Option (Int×Bool):=DR.S (DR.l0 (DR.t1 fu) fu) x target
abbrev FE.A0:=Nat->Nat->Bc->Bc->Int->Int->Bc->Option MK
def FE.S0 (self:FE.A0):FE.A0:=λ x4 x5 x6 x7 x8 x9 Bl=>
 bif A8 x9 x8 then
 bif Bf x9 (AZ x7) then
 (DR (List.take x5 (List.drop x4 Bl)) (nth x7 x9 0)).bind λ BI=>
 bif B1 ((List.length x6)+1) 8 then
 self x4 x5 (x6++[BI.1]) x7 x8 (A7 .i64 x9 1) Bl
 else none
 else none
 else
 some ((List.take x5 (List.drop x4 Bl)),x6)
def FE.l0:Nat->FE.A0
 | 0=>λ _ _ _ _ _ _ _=>none
 | n+1=>FE.S0 (FE.l0 n)
def FE.S (j0:FE.A0) (l:Bc):Option MK:=
 (Lp 8 l).bind λ x1=>
 (Qc ((decide (0<(List.length x1))) && true) (XQ x1) λ _x=>((decide ((List.length _x)=(List.length x1))) && true)).bind λ x2=>
 (Qc ((decide (0<(List.length x2))) && true) (XR x2) λ _x=>((decide ((List.length _x.2)=(List.length x2))) && true)).bind λ x3=>
 j0 0 (Int.toNat x3.1) [] l (AZ l) 0 x3.2
def FE (l:Bc):Option MK:=FE.S (FE.l0 fu) l
abbrev H8.A0:=Bc->Int->Int->(Bool×Bc)->Option DN
def H8.S0 (self:H8.A0):H8.A0:=λ x1 x2 x3 x4=>
 bif A8 x3 x2 then
 bif Bf x3 (AZ x1) then
 (D5 (nth x1 x3 0)).bind λ x5=>
 (Se x4 x5).bind λ x6=>
 self x1 x2 (A7 .i64 x3 1) x6.2.2
 else none
 else
 (Oa x4).bind λ x7=>
 some (x7.1,0)
def H8.l0:Nat->H8.A0
 | 0=>λ _ _ _ _=>none
 | n+1=>H8.S0 (H8.l0 n)
def H8.S (j0:H8.A0) (d:Bc):Option DN:=
 j0 d (AZ d) 0 (true,[])
def H8 (d:Bc):Option DN:=H8.S (H8.l0 fu) d
def fK (l:Bc):Option DN:=
 bif A8 65536 (AZ l) then
 some (eB,1)
 else
 bif A9 (AZ l) 0 then
 some (eB,0)
 else
 (FE l).bind λ x1=>
 (H8 x1.1).bind λ x2=>
 bif BK x2.2 0 then
 some (eB,x2.2)
 else
 (Ez x1.2).bind λ x3=>
 (CC x1.2 x3).bind λ x4=>
 (D5 (AZ x1.1)).bind λ x5=>
 bif Dh x5 x2.1 then
 bif Dh (D8 x5 x2.1) x4.1 then
 some ((D8 (D8 x5 x2.1) x4.1),x4.2)
 else none
 else none
def ZA (l:Bc):Option DN:=
 (fK l).bind λ x1=>
 some x1
def Uc (l:Bc) (code:Int):Option DN:=
 bif A9 code 1 then
 (DA l).bind λ x1=>
 some (x1,0)
 else
 bif A9 code 2 then
 (FI l).bind λ x2=>
 (F8 x2).bind λ x3=>
 some x3
 else
 bif A9 code 3 then
 (Ut l).bind λ x4=>
 some x4
 else
 bif A9 code 4 then
 (ZA l).bind λ x5=>
 some x5
 else
 bif A9 code 5 then
 (Ez l).bind λ x6=>
 (CC l x6).bind λ x7=>
 bif Dh (ofBytes [(IntKind.wrap .u8 x6)]) x7.1 then
 some ((D8 (ofBytes [(IntKind.wrap .u8 x6)]) x7.1),x7.2)
 else none
 else
 some (eB,1)
def Zj (b:(Bool×Bc)) (c:Int):Option (Bool×(Bool×Bc)):=
 bif B1 ((List.length (OW b).2)+1) 1 then
 some (true,(OW b).1,((OW b).2++[c]))
 else none
abbrev GO.A0:=Cn->Int->Int->(Bool×Bc)->Option DN
def GO.S0 (self:GO.A0):GO.A0:=λ x1 x2 x3 x4=>
 bif A8 x3 x2 then
 bif Bf x3 (AZ x1) then
 bif A8 32 (Bg (nth x1 x3 eB)) then
 some (eB,1)
 else
 (Zj x4 (IntKind.wrap .u8 (Bg (nth x1 x3 eB)))).bind λ x5=>
 (Se x5.2 (nth x1 x3 eB)).bind λ x6=>
 self x1 x2 (A7 .i64 x3 1) x6.2.2
 else none
 else
 (Oa x4).bind λ x7=>
 some (x7.1,0)
def GO.l0:Nat->GO.A0
 | 0=>λ _ _ _ _=>none
 | n+1=>GO.S0 (GO.l0 n)
def GO.S (j0:GO.A0) (l:Cn):Option DN:=
 j0 l (AZ l) 0 (true,[])
def GO (l:Cn):Option DN:=GO.S (GO.l0 fu) l
def cmp_isNaN_string (x:ByteArray):Bool:=
 (!(Cz x x))
def cmp_Less_string (x y:ByteArray):Bool:=
 bif cmp_isNaN_string x then
 bif !(cmp_isNaN_string y) then
 true
 else
 (KK x y)
 else
 (KK x y)
def cmp_Less_string.o (x y:ByteArray):Option Bool:=
 bif cmp_isNaN_string x then
 bif !(cmp_isNaN_string y) then
 some true
 else
 some (KK x y)
 else
 some (KK x y)
def fM (x:ByteArray):Bool:=
 (!(Cz x x))
abbrev EI.A0:=Cn->ByteArray->Int->Int->Int->Option (Int×Bool)
abbrev EI.A1:=Cn->ByteArray->Int->Int->Option (Int×Bool)
def EI.S1:EI.A1:=λ x7 x8 x9 Bl=>
 bif A8 Bl x9 then
 bif Bf Bl (AZ x7) then
 bif Cz (nth x7 Bl eB) x8 then
 some (Bl,true)
 else
 bif Bf Bl (AZ x7) then
 bif fM (nth x7 Bl eB) then
 some (Bl,(fM x8))
 else
 some (Bl,false)
 else none
 else none
 else
 some (Bl,false)
def EI.t1:Nat->EI.A1
 | 0=>λ _ _ _ _=>none
 | _+1=>EI.S1
def EI.S0 (BG:EI.A1) (self:EI.A0):EI.A0:=λ x1 x2 x3 x4 x5=>
 bif A8 x4 x5 then
 bif Bf (IntKind.wrap .i64 (B7 .u64 (IntKind.wrap .u64 (A7 .i64 x4 x5)) 1)) (AZ x1) then
 bif cmp_Less_string (nth x1 (IntKind.wrap .i64 (B7 .u64 (IntKind.wrap .u64 (A7 .i64 x4 x5)) 1)) eB) x2 then
 self x1 x2 x3 (A7 .i64 (IntKind.wrap .i64 (B7 .u64 (IntKind.wrap .u64 (A7 .i64 x4 x5)) 1)) 1) x5
 else
 self x1 x2 x3 x4 (IntKind.wrap .i64 (B7 .u64 (IntKind.wrap .u64 (A7 .i64 x4 x5)) 1))
 else none
 else
 BG x1 x2 x3 x4
def EI.l0 (BG:EI.A1):Nat->EI.A0
 | 0=>λ _ _ _ _ _=>none
 | n+1=>EI.S0 BG (EI.l0 BG n)
def EI.S (j0:EI.A0) (x:Cn) (target:ByteArray):Option (Int×Bool):=
 j0 x target (AZ x) 0 (AZ x)
def EI (x:Cn) (target:ByteArray):Option (Int×Bool):=EI.S (EI.l0 (EI.t1 fu) fu) x target
abbrev Gh.A0:=Nat->Nat->Bc->Cn->Int->Int->Cn->Option Nu
def Gh.S0 (self:Gh.A0):Gh.A0:=λ x4 x5 x6 x7 x8 x9 Bl=>
 bif A8 x9 x8 then
 bif Bf x9 (AZ x7) then
 (EI (List.take x5 (List.drop x4 Bl)) (nth x7 x9 eB)).bind λ BI=>
 bif B1 ((List.length x6)+1) 8 then
 self x4 x5 (x6++[BI.1]) x7 x8 (A7 .i64 x9 1) Bl
 else none
 else none
 else
 some ((List.take x5 (List.drop x4 Bl)),x6)
def Gh.l0:Nat->Gh.A0
 | 0=>λ _ _ _ _ _ _ _=>none
 | n+1=>Gh.S0 (Gh.l0 n)
def Gh.S (j0:Gh.A0) (l:Cn):Option Nu:=
 (Lp 16 l).bind λ x1=>
 (Qc ((decide (0<(List.length x1))) && true) (XS x1) λ _x=>((decide ((List.length _x)=(List.length x1))) && true)).bind λ x2=>
 (Qc ((decide (0<(List.length x2))) && true) (XT x2) λ _x=>((decide ((List.length _x.2)=(List.length x2))) && true)).bind λ x3=>
 j0 0 (Int.toNat x3.1) [] l (AZ l) 0 x3.2
def Gh (l:Cn):Option Nu:=Gh.S (Gh.l0 fu) l
def fJ (l:Cn):Option DN:=
 bif A8 65536 (AZ l) then
 some (eB,1)
 else
 bif A9 (AZ l) 0 then
 some (eB,0)
 else
 (Gh l).bind λ x1=>
 (GO x1.1).bind λ x2=>
 bif BK x2.2 0 then
 some (eB,x2.2)
 else
 (Ez x1.2).bind λ x3=>
 (CC x1.2 x3).bind λ x4=>
 (D5 (AZ x1.1)).bind λ x5=>
 bif Dh x5 x2.1 then
 bif Dh (D8 x5 x2.1) x4.1 then
 some ((D8 (D8 x5 x2.1) x4.1),x4.2)
 else none
 else none
def Zu (l:Cn):Option DN:=
 (fJ l).bind λ x1=>
 some x1
def Uf (l:Cn) (code:Int):Option DN:=
 bif A9 code 1 then
 (GO l).bind λ x1=>
 some x1
 else
 bif A9 code 4 then
 (Zu l).bind λ x2=>
 some x2
 else
 bif A9 code 2 then
 bif A9 (AZ l) 0 then
 some (eB,0)
 else
 (Gh l).bind λ x3=>
 (GO x3.1).bind λ x4=>
 bif BK x4.2 0 then
 some (eB,x4.2)
 else
 (FI x3.2).bind λ x5=>
 (F8 x5).bind λ x6=>
 (D5 (AZ x3.1)).bind λ x7=>
 bif Dh x7 x4.1 then
 bif Dh (D8 x7 x4.1) x6.1 then
 some ((D8 (D8 x7 x4.1) x6.1),x6.2)
 else none
 else none
 else
 some (eB,1)
abbrev Ee.A0:=Int->Int->Bc->Cn->CD->Int->Int->Option DN
abbrev Ee.A1:=Int->Int->Bc->Cn->Option DN
def Ee.S1:Ee.A1:=λ x8 x9 Bl BI=>
 bif A9 x8 1 then
 (Uc Bl x9).bind λ B0=>
 some B0
 else
 (Uf BI x9).bind λ BS=>
 some BS
def Ee.t1:Nat->Ee.A1
 | 0=>λ _ _ _ _=>none
 | _+1=>Ee.S1
def Ee.S0 (BG:Ee.A1) (self:Ee.A0):Ee.A0:=λ x1 x2 x3 x4 x5 x6 x7=>
 bif A8 x7 x6 then
 bif Bf x7 (AZ x5) then
 bif B1 ((List.length x3)+1) 8 then
 bif B1 ((List.length x4)+1) 16 then
 self x1 x2 (x3++[(nth x5 x7 (0,0,eB)).2.1]) (x4++[(nth x5 x7 (0,0,eB)).2.2]) x5 x6 (A7 .i64 x7 1)
 else none
 else none
 else none
 else
 BG x1 x2 x3 x4
def Ee.l0 (BG:Ee.A1):Nat->Ee.A0
 | 0=>λ _ _ _ _ _ _ _=>none
 | n+1=>Ee.S0 BG (Ee.l0 BG n)
def Ee.S (j0:Ee.A0) (l:CD) (kind code:Int):Option DN:=
 j0 kind code [] [] l (AZ l) 0
def Ee (l:CD) (kind code:Int):Option DN:=Ee.S (Ee.l0 (Ee.t1 fu) fu) l kind code
def M6 (l:CD) (kind code:Int):Option DN:=
 (Uu l kind).bind λ x1=>
 bif !x1 then
 some (eB,1)
 else
 (Ea l).bind λ x2=>
 (Ee x2.2 kind code).bind λ x3=>
 bif BK x3.2 0 then
 some (eB,1)
 else
 bif Dh (ofBytes [(IntKind.wrap .u8 kind),(IntKind.wrap .u8 code),(IntKind.wrap .u8 (AZ l)),(IntKind.wrap .u8 (Bg x2.1))]) x2.1 then
 bif Dh (D8 (ofBytes [(IntKind.wrap .u8 kind),(IntKind.wrap .u8 code),(IntKind.wrap .u8 (AZ l)),(IntKind.wrap .u8 (Bg x2.1))]) x2.1) x3.1 then
 (FF (D8 (D8 (ofBytes [(IntKind.wrap .u8 kind),(IntKind.wrap .u8 code),(IntKind.wrap .u8 (AZ l)),(IntKind.wrap .u8 (Bg x2.1))]) x2.1) x3.1)).bind λ x4=>
 some (x4,0)
 else none
 else none
def OK (s:ByteArray):Option ((Oj×(ByteArray×Qy))×Bool):=
 (Un s).bind λ x1=>
 bif BK x1.2 0 then
 some (((0,0,0,0),eB,eB,[]),false)
 else
 bif A8 (Bg x1.1) 4 then
 some (((0,0,0,0),eB,eB,[]),false)
 else
 bif Bf 3 (Bg x1.1) then
 bif A8 (Bt .i64 (Bg x1.1) 4) (IntKind.wrap .i64 (byteAt x1.1 3)) then
 some (((0,0,0,0),eB,eB,[]),false)
 else
 bif Bf 3 (Bg x1.1) then
 bif Bf 0 (Bg x1.1) then
 bif Bf 1 (Bg x1.1) then
 bif Bf 2 (Bg x1.1) then
 bif CJ 4 (A7 .i64 4 (IntKind.wrap .i64 (byteAt x1.1 3))) (Bg x1.1) then
 bif CJ (A7 .i64 4 (IntKind.wrap .i64 (byteAt x1.1 3))) (Bg x1.1) (Bg x1.1) then
 (Fo (cutS x1.1 4 (A7 .i64 4 (IntKind.wrap .i64 (byteAt x1.1 3)))) (IntKind.wrap .i64 (byteAt x1.1 2))).bind λ x2=>
 bif BK x2.2 0 then
 some ((((IntKind.wrap .i64 (byteAt x1.1 0)),(IntKind.wrap .i64 (byteAt x1.1 1)),(IntKind.wrap .i64 (byteAt x1.1 2)),x2.1),(cutS x1.1 4 (A7 .i64 4 (IntKind.wrap .i64 (byteAt x1.1 3)))),(cutS x1.1 (A7 .i64 4 (IntKind.wrap .i64 (byteAt x1.1 3))) (Bg x1.1)),[]),false)
 else
 (CO (cutS x1.1 (A7 .i64 4 (IntKind.wrap .i64 (byteAt x1.1 3))) (Bg x1.1)) (Bt .i64 (IntKind.wrap .i64 (byteAt x1.1 2)) x2.1) ((IntKind.wrap .i64 (byteAt x1.1 0)),(IntKind.wrap .i64 (byteAt x1.1 1)),(IntKind.wrap .i64 (byteAt x1.1 2)),x2.1)).bind λ x3=>
 bif BK x3.2 0 then
 some ((((IntKind.wrap .i64 (byteAt x1.1 0)),(IntKind.wrap .i64 (byteAt x1.1 1)),(IntKind.wrap .i64 (byteAt x1.1 2)),x2.1),(cutS x1.1 4 (A7 .i64 4 (IntKind.wrap .i64 (byteAt x1.1 3)))),(cutS x1.1 (A7 .i64 4 (IntKind.wrap .i64 (byteAt x1.1 3))) (Bg x1.1)),[]),false)
 else
 (EK (cutS x1.1 4 (A7 .i64 4 (IntKind.wrap .i64 (byteAt x1.1 3)))) (IntKind.wrap .i64 (byteAt x1.1 2)) x3.1).bind λ x4=>
 bif BK x4.2 0 then
 some ((((IntKind.wrap .i64 (byteAt x1.1 0)),(IntKind.wrap .i64 (byteAt x1.1 1)),(IntKind.wrap .i64 (byteAt x1.1 2)),x2.1),(cutS x1.1 4 (A7 .i64 4 (IntKind.wrap .i64 (byteAt x1.1 3)))),(cutS x1.1 (A7 .i64 4 (IntKind.wrap .i64 (byteAt x1.1 3))) (Bg x1.1)),x4.1),false)
 else
 (M6 x4.1 (IntKind.wrap .i64 (byteAt x1.1 0)) (IntKind.wrap .i64 (byteAt x1.1 1))).bind λ x5=>
 bif A9 x5.2 0 then
 some ((((IntKind.wrap .i64 (byteAt x1.1 0)),(IntKind.wrap .i64 (byteAt x1.1 1)),(IntKind.wrap .i64 (byteAt x1.1 2)),x2.1),(cutS x1.1 4 (A7 .i64 4 (IntKind.wrap .i64 (byteAt x1.1 3)))),(cutS x1.1 (A7 .i64 4 (IntKind.wrap .i64 (byteAt x1.1 3))) (Bg x1.1)),x4.1),(Cz x5.1 s))
 else
 some ((((IntKind.wrap .i64 (byteAt x1.1 0)),(IntKind.wrap .i64 (byteAt x1.1 1)),(IntKind.wrap .i64 (byteAt x1.1 2)),x2.1),(cutS x1.1 4 (A7 .i64 4 (IntKind.wrap .i64 (byteAt x1.1 3)))),(cutS x1.1 (A7 .i64 4 (IntKind.wrap .i64 (byteAt x1.1 3))) (Bg x1.1)),x4.1),false)
 else none
 else none
 else none
 else none
 else none
 else none
 else none
def I7 (s:ByteArray):Option Ka:=
 (OK s).bind λ x1=>
 bif !x1.2 then
 some ([],5)
 else
 some (x1.1.2.2.2,0)
def LS (s:ByteArray):Option (Oj×Int):=
 (OK s).bind λ x1=>
 bif !x1.2 then
 some ((0,0,0,0),5)
 else
 some (x1.1.1,0)
def Ul (s:ByteArray):Option (ByteArray×ByteArray×Int):=
 (OK s).bind λ x1=>
 bif !x1.2 then
 some (eB,eB,5)
 else
 some (x1.1.2.2.1,x1.1.2.1,0)
def Uo (s:ByteArray):Option DN:=
 bif A8 (Bg s) 4 then
 some (eB,5)
 else
 bif CJ 0 (Bt .i64 (Bg s) 4) (Bg s) then
 (Um (cutS s 0 (Bt .i64 (Bg s) 4))).bind λ x1=>
 bif !(Cz x1 s) then
 some (eB,5)
 else
 bif CJ 0 (Bt .i64 (Bg s) 4) (Bg s) then
 some ((cutS s 0 (Bt .i64 (Bg s) 4)),0)
 else none
 else none
def Sh (s:ByteArray):Option (Oj×ByteArray×ByteArray×Bool):=
 (Uo s).bind λ x1=>
 bif BK x1.2 0 then
 some ((0,0,0,0),eB,eB,false)
 else
 bif A8 (Bg x1.1) 4 then
 some ((0,0,0,0),eB,eB,false)
 else
 bif Bf 3 (Bg x1.1) then
 bif A8 (Bt .i64 (Bg x1.1) 4) (IntKind.wrap .i64 (byteAt x1.1 3)) then
 some ((0,0,0,0),eB,eB,false)
 else
 bif Bf 3 (Bg x1.1) then
 bif Bf 0 (Bg x1.1) then
 bif Bf 1 (Bg x1.1) then
 bif Bf 2 (Bg x1.1) then
 bif CJ 4 (A7 .i64 4 (IntKind.wrap .i64 (byteAt x1.1 3))) (Bg x1.1) then
 bif CJ (A7 .i64 4 (IntKind.wrap .i64 (byteAt x1.1 3))) (Bg x1.1) (Bg x1.1) then
 some (((IntKind.wrap .i64 (byteAt x1.1 0)),(IntKind.wrap .i64 (byteAt x1.1 1)),(IntKind.wrap .i64 (byteAt x1.1 2)),0),(cutS x1.1 4 (A7 .i64 4 (IntKind.wrap .i64 (byteAt x1.1 3)))),(cutS x1.1 (A7 .i64 4 (IntKind.wrap .i64 (byteAt x1.1 3))) (Bg x1.1)),true)
 else none
 else none
 else none
 else none
 else none
 else none
 else none
abbrev HM.A0:=ByteArray->Int->Int->Int->Int->Option Int
def HM.S0 (self:HM.A0):HM.A0:=λ x1 x2 x3 x4 x5=>
 bif A8 x5 x3 then
 bif Bf (GB .i64 (A7 .i64 (CI .i64 x2 x3) x5) 8) (Bg x1) then
 bif BC 0 (Ol (A7 .i64 (CI .i64 x2 x3) x5) 8) then
 bif A9 (Cb .i64 (B7 .i64 (IntKind.wrap .i64 (byteAt x1 (GB .i64 (A7 .i64 (CI .i64 x2 x3) x5) 8))) (Ol (A7 .i64 (CI .i64 x2 x3) x5) 8)) 1) 1 then
 bif BC 0 x5 then
 self x1 x2 x3 (Fa .i64 x4 (EN .i64 1 x5)) (A7 .i64 x5 1)
 else none
 else
 self x1 x2 x3 x4 (A7 .i64 x5 1)
 else none
 else none
 else
 some x4
def HM.l0:Nat->HM.A0
 | 0=>λ _ _ _ _ _=>none
 | n+1=>HM.S0 (HM.l0 n)
def HM.S (j0:HM.A0) (s:ByteArray) (xk width:Int):Option Int:=
 j0 s xk width 0 0
def HM (s:ByteArray) (xk width:Int):Option Int:=HM.S (HM.l0 fu) s xk width
abbrev DI.A0:=ByteArray->Int->Int->Bc->Int->Option Dp
abbrev DI.A1:=ByteArray->Int->Bc->Option Dp
def DI.S1:DI.A1:=λ x8 x9 Bl=>
 (Dn Bl x9).bind λ BI=>
 bif !(Cz BI.1 x8) then
 some ([],20)
 else
 some (Bl,0)
def DI.t1:Nat->DI.A1
 | 0=>λ _ _ _=>none
 | _+1=>DI.S1
def DI.S0 (BG:DI.A1) (self:DI.A0):DI.A0:=λ x2 x3 x4 x5 x6=>
 bif A8 x6 x3 then
 (HM x2 x6 x4).bind λ x7=>
 bif B1 ((List.length x5)+1) 8 then
 self x2 x3 x4 (x5++[x7]) (A7 .i64 x6 1)
 else none
 else
 BG x2 x4 x5
def DI.l0 (BG:DI.A1):Nat->DI.A0
 | 0=>λ _ _ _ _ _=>none
 | n+1=>DI.S0 BG (DI.l0 BG n)
def DI.S (j0:DI.A0) (s:ByteArray) (xn width:Int):Option Dp:=
 bif A8 width 0 then
 some ([],1)
 else
 bif A8 64 width then
 some ([],1)
 else
 bif A8 xn 0 then
 some ([],1)
 else
 bif A8 65536 xn then
 some ([],1)
 else
 bif BK (Bg s) (PJ xn width) then
 some ([],20)
 else
 j0 s xn width [] 0
def DI (s:ByteArray) (xn width:Int):Option Dp:=DI.S (DI.l0 (DI.t1 fu) fu) s xn width
abbrev DS.A0:=Bc->Int->Bool->Int->Option (Bc×Bool)
abbrev DS.A1:=Bc->Int->Bool->Option (Bc×Bool)
def DS.S1:DS.A1:=λ x6 x7 x8=>
 bif A9 x7 0 then
 some (x6,x8)
 else
 some (x6,false)
def DS.t1:Nat->DS.A1
 | 0=>λ _ _ _=>none
 | _+1=>DS.S1
def DS.S0 (BG:DS.A1) (self:DS.A0):DS.A0:=λ x2 x3 x4 x5=>
 bif A8 x5 (AZ x2) then
 bif x4 then
 self x2 x3 true (A7 .i64 x5 1)
 else
 bif Bf x5 (AZ x2) then
 self x2 x3 (A9 (nth x2 x5 0) 1) (A7 .i64 x5 1)
 else none
 else
 BG x2 x3 x4
def DS.l0 (BG:DS.A1):Nat->DS.A0
 | 0=>λ _ _ _ _=>none
 | n+1=>DS.S0 BG (DS.l0 BG n)
def DS.S (j0:DS.A0) (s:ByteArray) (xn:Int):Option (Bc×Bool):=
 bif Cz s eB then
 bif (BC 0 xn) && (B1 (Int.toNat xn) 8) then
 some ((List.replicate (Int.toNat xn) (0:Int)),true)
 else none
 else
 (DI s xn 1).bind λ x1=>
 j0 x1.1 x1.2 false 0
def DS (s:ByteArray) (xn:Int):Option (Bc×Bool):=DS.S (DS.l0 (DS.t1 fu) fu) s xn
abbrev FN.A0:=Bc->Int->Int->Option Oi
def FN.S0 (self:FN.A0):FN.A0:=λ x2 x3 x4=>
 bif A8 x4 (AZ x2) then
 bif Bf x4 (AZ x2) then
 self x2 (A7 .i64 x3 (nth x2 x4 0)) (A7 .i64 x4 1)
 else none
 else
 some (x3,0)
def FN.l0:Nat->FN.A0
 | 0=>λ _ _ _=>none
 | n+1=>FN.S0 (FN.l0 n)
def FN.S (j0:FN.A0) (s:ByteArray) (xn:Int):Option Oi:=
 bif A8 xn 0 then
 some (0,1)
 else
 bif A8 65536 xn then
 some (0,1)
 else
 (DS s xn).bind λ x1=>
 bif !x1.2 then
 some (0,20)
 else
 j0 x1.1 0 0
def FN (s:ByteArray) (xn:Int):Option Oi:=FN.S (FN.l0 fu) s xn
abbrev Dz.A0:=ByteArray->Int->Bc->Int->Option Dp
abbrev Dz.A1:=ByteArray->Int->Bc->Int->Int->Int->Option Dp
def Dz.S1 (CS:Dz.A0) (self:Dz.A1):Dz.A1:=λ x5 x6 x7 x8 x9 Bl=>
 bif BC 0 Bl then
 bif Bf (A7 .i64 (CI .i64 8 x8) Bl) (Bg x5) then
 self x5 x6 x7 x8 (Fa .i64 (EN .i64 x9 8) (IntKind.wrap .i64 (byteAt x5 (A7 .i64 (CI .i64 8 x8) Bl)))) (Bt .i64 Bl 1)
 else none
 else
 bif B1 ((List.length x7)+1) 8 then
 CS x5 x6 (x7++[x9]) (A7 .i64 x8 1)
 else none
def Dz.l1 (CS:Dz.A0):Nat->Dz.A1
 | 0=>λ _ _ _ _ _ _=>none
 | n+1=>Dz.S1 CS (Dz.l1 CS n)
def Dz.S0 (j1:Dz.A1):Dz.A0:=λ x1 x2 x3 x4=>
 bif A8 x4 x2 then
 j1 x1 x2 x3 x4 0 7
 else
 some (x3,0)
def Dz.l0:Nat->Dz.A0
 | 0=>λ _ _ _ _=>none
 | n+1=>Dz.S0 (Dz.l1 (Dz.l0 n) n)
def Dz.S (j0:Dz.A0) (s:ByteArray) (xn:Int):Option Dp:=
 bif A8 xn 0 then
 some ([],20)
 else
 bif A8 (Bg s) xn then
 some ([],20)
 else
 bif BK (Bg s) (CI .i64 8 xn) then
 some ([],20)
 else
 j0 s xn [] 0
def Dz (s:ByteArray) (xn:Int):Option Dp:=Dz.S (Dz.l0 fu) s xn
abbrev Hf.A0:=Int->Int->Int->Ho->Ho->Option Int
abbrev Eg.A0:=Int->Ho->Ho->Option Int
abbrev Eg.A1:=Ho->Ho->Option Int
abbrev Eb.A0:=ByteArray->Int->Int->Option (Int×Int×Int)
abbrev DW.A0:=ByteArray->Int->Eu->Int->Int->Option (Eu×Int)
abbrev DW.A1:=Int->Eu->Int->Option (Eu×Int)
def DW.S1:DW.A1:=λ x8 x9 Bl=>
 bif BK Bl x8 then
 some ([],20)
 else
 (EZ x9).bind λ BI=>
 bif !BI then
 some ([],20)
 else
 some (x9,0)
def DW.t1:Nat->DW.A1
 | 0=>λ _ _ _=>none
 | _+1=>DW.S1
def DW.S0 (BG:DW.A1) (self:DW.A0):DW.A0:=λ x1 x2 x3 x4 x5=>
 bif A8 x4 (Bg x1) then
 bif CJ x4 (Bg x1) (Bg x1) then
 (Eb (cutS x1 x4 (Bg x1))).bind λ x6=>
 bif BK x6.2.2 0 then
 some ([],20)
 else
 bif CJ (A7 .i64 x4 x6.2.1) (Bg x1) (Bg x1) then
 (Eb (cutS x1 (A7 .i64 x4 x6.2.1) (Bg x1))).bind λ x7=>
 bif BK x7.2.2 0 then
 some ([],20)
 else
 bif A8 x7.1 1 then
 some ([],20)
 else
 bif A8 (Bt .i64 x2 x5) x7.1 then
 some ([],20)
 else
 bif B1 ((List.length x3)+1) 24 then
 self x1 x2 (x3++[(x6.1,x5,x7.1)]) (A7 .i64 (A7 .i64 x4 x6.2.1) x7.2.1) (A7 .i64 x5 x7.1)
 else none
 else none
 else none
 else
 BG x2 x3 x5
def DW.l0 (BG:DW.A1):Nat->DW.A0
 | 0=>λ _ _ _ _ _=>none
 | n+1=>DW.S0 BG (DW.l0 BG n)
def DW.S (j0:DW.A0) (s:ByteArray) (xn:Int):Option (Eu×Int):=
 bif A8 xn 0 then
 some ([],1)
 else
 bif A8 65536 xn then
 some ([],1)
 else
 j0 s xn [] 0 0
def DW (s:ByteArray) (xn:Int):Option (Eu×Int):=DW.S (DW.l0 (DW.t1 fu) fu) s xn
abbrev Dv.A0:=Eu->Bc->Int->Option Dp
abbrev Dv.A1:=Eu->Bc->Int->Int->Option Dp
def Dv.S1 (CS:Dv.A0) (self:Dv.A1):Dv.A1:=λ x5 x6 x7 x8=>
 bif Bf x7 (AZ x5) then
 bif A8 x8 (nth x5 x7 (0,0,0)).2.2 then
 bif Bf x7 (AZ x5) then
 bif B1 ((List.length x6)+1) 8 then
 self x5 (x6++[(nth x5 x7 (0,0,0)).1]) x7 (A7 .i64 x8 1)
 else none
 else none
 else
 CS x5 x6 (A7 .i64 x7 1)
 else none
def Dv.l1 (CS:Dv.A0):Nat->Dv.A1
 | 0=>λ _ _ _ _=>none
 | n+1=>Dv.S1 CS (Dv.l1 CS n)
def Dv.S0 (j1:Dv.A1):Dv.A0:=λ x2 x3 x4=>
 bif A8 x4 (AZ x2) then
 j1 x2 x3 x4 0
 else
 some (x3,0)
def Dv.l0:Nat->Dv.A0
 | 0=>λ _ _ _=>none
 | n+1=>Dv.S0 (Dv.l1 (Dv.l0 n) n)
def Dv.S (j0:Dv.A0) (l:Eu):Option Dp:=
 (EZ l).bind λ x1=>
 bif !x1 then
 some ([],1)
 else
 j0 l [] 0
def Dv (l:Eu):Option Dp:=Dv.S (Dv.l0 fu) l
abbrev DJ.A0:=ByteArray->Int->Bc->Int->Bc->Int->Option Dp
abbrev DJ.A1:=ByteArray->Bc->Option Dp
def DJ.S1:DJ.A1:=λ Bl BI=>
 (DU BI).bind λ B0=>
 bif !(Cz B0.1 Bl) then
 some ([],20)
 else
 some (BI,0)
def DJ.t1:Nat->DJ.A1
 | 0=>λ _ _=>none
 | _+1=>DJ.S1
def DJ.S0 (BG:DJ.A1) (self:DJ.A0):DJ.A0:=λ x4 x5 x6 x7 x8 x9=>
 bif A8 x9 (AZ x8) then
 bif Bf x9 (AZ x8) then
 bif B1 ((List.length x6)+1) 8 then
 self x4 (A7 .i64 (A7 .i64 x5 x7) (nth x8 x9 0)) (x6++[(A7 .i64 (A7 .i64 x5 x7) (nth x8 x9 0))]) x7 x8 (A7 .i64 x9 1)
 else none
 else none
 else
 BG x4 x6
def DJ.l0 (BG:DJ.A1):Nat->DJ.A0
 | 0=>λ _ _ _ _ _ _=>none
 | n+1=>DJ.S0 BG (DJ.l0 BG n)
def DJ.S (j0:DJ.A0) (j1:DJ.A1) (s:ByteArray) (xn:Int):Option Dp:=
 bif A8 xn 0 then
 some ([],1)
 else
 bif A8 65536 xn then
 some ([],1)
 else
 bif A9 xn 0 then
 bif !(Cz s eB) then
 some ([],20)
 else
 some ([],0)
 else
 (Eb s).bind λ x1=>
 bif BK x1.2.2 0 then
 some ([],20)
 else
 bif A8 1 xn then
 bif CJ x1.2.1 (Bg s) (Bg s) then
 (Eb (cutS s x1.2.1 (Bg s))).bind λ x2=>
 bif BK x2.2.2 0 then
 some ([],20)
 else
 bif BC (Bg s) (A7 .i64 x1.2.1 x2.2.1) then
 some ([],20)
 else
 bif CJ (A7 .i64 (A7 .i64 x1.2.1 x2.2.1) 1) (Bg s) (Bg s) then
 bif Bf (A7 .i64 x1.2.1 x2.2.1) (Bg s) then
 (DI (cutS s (A7 .i64 (A7 .i64 x1.2.1 x2.2.1) 1) (Bg s)) (Bt .i64 xn 1) (IntKind.wrap .i64 (byteAt s (A7 .i64 x1.2.1 x2.2.1)))).bind λ x3=>
 bif BK x3.2 0 then
 some ([],20)
 else
 j0 s x1.1 [x1.1] x2.1 x3.1 0
 else none
 else none
 else none
 else
 j1 s [x1.1]
def DJ (s:ByteArray) (xn:Int):Option Dp:=DJ.S (DJ.l0 (DJ.t1 fu) fu) (DJ.t1 fu) s xn
def Sq (s:ByteArray) (xn:Int):Option (Int×Int×Bool):=
 (Eb s).bind λ x1=>
 bif A9 x1.2.2 0 then
 bif BC 1 x1.1 then
 some (x1.1,x1.2.1,(BC x1.1 xn))
 else
 some (x1.1,x1.2.1,false)
 else
 some (x1.1,x1.2.1,false)
def Wj (d:Int):Option Int:=
 (Gi [(Bt .i64 d 1)]).bind λ x1=>
 some x1
abbrev BP.A0:=ByteArray->Int->Option Dp
abbrev BP.A1:=ByteArray->Int->Int->Int->Bc->Int->Option Dp
abbrev BP.A2:=ByteArray->Int->Int->Int->Bc->Option Dp
abbrev BP.A3:=ByteArray->Bc->Bc->Bc->Int->Option Dp
abbrev BP.A4:=ByteArray->Bc->Option Dp
def BP.S4:BP.A4:=λ Fm FX=>
 (D3 FX).bind λ Ht=>
 bif !(Cz Ht.1 Fm) then
 some ([],20)
 else
 some (FX,0)
def BP.t4:Nat->BP.A4
 | 0=>λ _ _=>none
 | _+1=>BP.S4
def BP.S3 (ea:BP.A4) (self:BP.A3):BP.A3:=λ DP CX C4 DO Dy=>
 bif A8 Dy (AZ C4) then
 bif Bf Dy (AZ C4) then
 bif A8 (nth C4 Dy 0) 0 then
 some ([],20)
 else
 bif Bf Dy (AZ C4) then
 bif BC (AZ CX) (nth C4 Dy 0) then
 some ([],20)
 else
 bif Bf Dy (AZ C4) then
 bif Bf (nth C4 Dy 0) (AZ CX) then
 bif B1 ((List.length DO)+1) 8 then
 self DP CX C4 (DO++[(nth CX (nth C4 Dy 0) 0)]) (A7 .i64 Dy 1)
 else none
 else none
 else none
 else none
 else none
 else
 ea DP DO
def BP.l3 (ea:BP.A4):Nat->BP.A3
 | 0=>λ _ _ _ _ _=>none
 | n+1=>BP.S3 ea (BP.l3 ea n)
def BP.S2 (j3:BP.A3):BP.A2:=λ BI B0 BS B2 Cy=>
 bif CJ B2 (Bg BI) (Bg BI) then
 (Wj BS).bind λ Ct=>
 (DI (cutS BI B2 (Bg BI)) B0 Ct).bind λ Dt=>
 bif BK Dt.2 0 then
 some ([],20)
 else
 j3 BI Cy Dt.1 [] 0
 else none
def BP.t2:Nat->BP.A2
 | 0=>λ _ _ _ _ _=>none
 | n+1=>BP.S2 (BP.l3 (BP.t4 n) n)
def BP.S1 (Hp:BP.A2) (self:BP.A1):BP.A1:=λ x4 x5 x6 x7 x8 x9=>
 bif A8 x9 x6 then
 bif CJ x7 (Bg x4) (Bg x4) then
 (Eb (cutS x4 x7 (Bg x4))).bind λ Bl=>
 bif BK Bl.2.2 0 then
 some ([],20)
 else
 bif B1 ((List.length x8)+1) 8 then
 self x4 x5 x6 (A7 .i64 x7 Bl.2.1) (x8++[Bl.1]) (A7 .i64 x9 1)
 else none
 else none
 else
 Hp x4 x5 x6 x7 x8
def BP.l1 (Hp:BP.A2):Nat->BP.A1
 | 0=>λ _ _ _ _ _ _=>none
 | n+1=>BP.S1 Hp (BP.l1 Hp n)
def BP.S0 (j1:BP.A1):BP.A0:=λ x1 x2=>
 (Sq x1 x2).bind λ x3=>
 bif !x3.2.2 then
 some ([],20)
 else
 j1 x1 x2 x3.1 x3.2.1 [] 0
def BP.t0:Nat->BP.A0
 | 0=>λ _ _=>none
 | n+1=>BP.S0 (BP.l1 (BP.t2 n) n)
def BP.S (j0:BP.A0) (s:ByteArray) (xn:Int):Option Dp:=
 bif A8 xn 0 then
 some ([],1)
 else
 bif A8 65536 xn then
 some ([],1)
 else
 bif A9 xn 0 then
 bif Cz s eB then
 some ([],0)
 else
 j0 s xn
 else
 j0 s xn
def BP (s:ByteArray) (xn:Int):Option Dp:=BP.S (BP.t0 fu) s xn
def QY (s:ByteArray) (xn code:Int):Option (Bc×Bool):=
 bif A9 code 1 then
 (Dz s xn).bind λ x1=>
 some (x1.1,(A9 x1.2 0))
 else
 bif A9 code 2 then
 (DW s xn).bind λ x2=>
 bif BK x2.2 0 then
 some ([],false)
 else
 (Dv x2.1).bind λ x3=>
 some (x3.1,(A9 x3.2 0))
 else
 bif A9 code 3 then
 (DJ s xn).bind λ x4=>
 some (x4.1,(A9 x4.2 0))
 else
 bif A9 code 4 then
 (BP s xn).bind λ x5=>
 some (x5.1,(A9 x5.2 0))
 else
 bif A9 code 5 then
 bif Cz s eB then
 some ([],false)
 else
 bif CJ 1 (Bg s) (Bg s) then
 bif Bf 0 (Bg s) then
 (DI (cutS s 1 (Bg s)) xn (IntKind.wrap .i64 (byteAt s 0))).bind λ x6=>
 some (x6.1,(A9 x6.2 0))
 else none
 else none
 else
 some ([],false)
abbrev Cl.A0:=ByteArray->Int->CD->Int->Option Ka
abbrev Cl.A1:=ByteArray->Int->CD->Option Ka
abbrev Cl.A2:=CD->Bc->CD->Int->Int->Option Ka
def Cl.S2 (self:Cl.A2):Cl.A2:=λ Bl BI B0 BS B2=>
 bif A8 B2 (AZ BI) then
 bif Bf B2 (AZ BI) then
 bif A9 (nth BI B2 0) 0 then
 bif A8 BS (AZ Bl) then
 bif Bf BS (AZ Bl) then
 bif B1 ((List.length B0)+1) 32 then
 self Bl BI (B0++[(nth Bl BS (0,0,eB))]) (A7 .i64 BS 1) (A7 .i64 B2 1)
 else none
 else none
 else
 bif B1 ((List.length B0)+1) 32 then
 self Bl BI (B0++[(0,0,eB)]) BS (A7 .i64 B2 1)
 else none
 else
 bif B1 ((List.length B0)+1) 32 then
 self Bl BI (B0++[(0,0,eB)]) BS (A7 .i64 B2 1)
 else none
 else none
 else
 some (B0,0)
def Cl.l2:Nat->Cl.A2
 | 0=>λ _ _ _ _ _=>none
 | n+1=>Cl.S2 (Cl.l2 n)
def Cl.S1 (j2:Cl.A2):Cl.A1:=λ x6 x7 x8=>
 (DS x6 x7).bind λ x9=>
 j2 x8 x9.1 [] 0 0
def Cl.t1:Nat->Cl.A1
 | 0=>λ _ _ _=>none
 | n+1=>Cl.S1 (Cl.l2 n)
def Cl.S0 (BG:Cl.A1) (self:Cl.A0):Cl.A0:=λ x2 x3 x4 x5=>
 bif A8 x5 (AZ x4) then
 bif Bf x5 (AZ x4) then
 bif A9 (nth x4 x5 (0,0,eB)).1 0 then
 some ([],20)
 else
 self x2 x3 x4 (A7 .i64 x5 1)
 else none
 else
 BG x2 x3 x4
def Cl.l0 (BG:Cl.A1):Nat->Cl.A0
 | 0=>λ _ _ _ _=>none
 | n+1=>Cl.S0 BG (Cl.l0 BG n)
def Cl.S (j0:Cl.A0) (s:ByteArray) (xn:Int) (l:CD):Option Ka:=
 (FN s xn).bind λ x1=>
 bif BK x1.2 0 then
 some ([],x1.2)
 else
 bif BK (AZ l) (Bt .i64 xn x1.1) then
 some ([],20)
 else
 j0 s xn l 0
def Cl (s:ByteArray) (xn:Int) (l:CD):Option Ka:=Cl.S (Cl.l0 (Cl.t1 fu) fu) s xn l
abbrev DH.A0:=ByteArray->Int->Cn->Int->Int->Option Jd
abbrev DH.A1:=ByteArray->Cn->Int->Option Jd
def DH.S1:DH.A1:=λ x6 x7 x8=>
 bif BK x8 (Bg x6) then
 some ([],20)
 else
 some (x7,0)
def DH.t1:Nat->DH.A1
 | 0=>λ _ _ _=>none
 | _+1=>DH.S1
def DH.S0 (BG:DH.A1) (self:DH.A0):DH.A0:=λ x1 x2 x3 x4 x5=>
 bif A8 x5 x2 then
 bif BC (Bg x1) x4 then
 some ([],20)
 else
 bif Bf x4 (Bg x1) then
 bif A8 32 (byteAt x1 x4) then
 some ([],20)
 else
 bif Bf x4 (Bg x1) then
 bif A8 (Bt .i64 (Bt .i64 (Bg x1) x4) 1) (IntKind.wrap .i64 (byteAt x1 x4)) then
 some ([],20)
 else
 bif Bf x4 (Bg x1) then
 bif CJ (A7 .i64 x4 1) (A7 .i64 (A7 .i64 x4 1) (IntKind.wrap .i64 (byteAt x1 x4))) (Bg x1) then
 bif B1 ((List.length x3)+1) 16 then
 self x1 x2 (x3++[(cutS x1 (A7 .i64 x4 1) (A7 .i64 (A7 .i64 x4 1) (IntKind.wrap .i64 (byteAt x1 x4))))]) (A7 .i64 (A7 .i64 x4 1) (IntKind.wrap .i64 (byteAt x1 x4))) (A7 .i64 x5 1)
 else none
 else none
 else none
 else none
 else none
 else
 BG x1 x3 x4
def DH.l0 (BG:DH.A1):Nat->DH.A0
 | 0=>λ _ _ _ _ _=>none
 | n+1=>DH.S0 BG (DH.l0 BG n)
def DH.S (j0:DH.A0) (s:ByteArray) (xn:Int):Option Jd:=
 bif A8 xn 0 then
 some ([],20)
 else
 bif A8 (Bg s) xn then
 some ([],20)
 else
 j0 s xn [] 0 0
def DH (s:ByteArray) (xn:Int):Option Jd:=DH.S (DH.l0 (DH.t1 fu) fu) s xn
abbrev Em.A0:=ByteArray->Int->Cn->Int->Int->Option (Cn×Int×Bool)
def Em.S0 (self:Em.A0):Em.A0:=λ x1 x2 x3 x4 x5=>
 bif A8 x5 x2 then
 bif BC (Bg x1) x4 then
 some ([],0,false)
 else
 bif Bf x4 (Bg x1) then
 bif A8 32 (byteAt x1 x4) then
 some ([],0,false)
 else
 bif Bf x4 (Bg x1) then
 bif A8 (Bt .i64 (Bt .i64 (Bg x1) x4) 1) (IntKind.wrap .i64 (byteAt x1 x4)) then
 some ([],0,false)
 else
 bif Bf x4 (Bg x1) then
 bif CJ (A7 .i64 x4 1) (A7 .i64 (A7 .i64 x4 1) (IntKind.wrap .i64 (byteAt x1 x4))) (Bg x1) then
 bif B1 ((List.length x3)+1) 16 then
 self x1 x2 (x3++[(cutS x1 (A7 .i64 x4 1) (A7 .i64 (A7 .i64 x4 1) (IntKind.wrap .i64 (byteAt x1 x4))))]) (A7 .i64 (A7 .i64 x4 1) (IntKind.wrap .i64 (byteAt x1 x4))) (A7 .i64 x5 1)
 else none
 else none
 else none
 else none
 else none
 else
 some (x3,x4,true)
def Em.l0:Nat->Em.A0
 | 0=>λ _ _ _ _ _=>none
 | n+1=>Em.S0 (Em.l0 n)
def Em.S (j0:Em.A0) (s:ByteArray) (xn:Int):Option (Cn×Int×Bool):=
 j0 s xn [] 0 0
def Em (s:ByteArray) (xn:Int):Option (Cn×Int×Bool):=Em.S (Em.l0 fu) s xn
abbrev EJ.A0:=Cn->Bc->Cn->Int->Option (Cn×Bool)
def EJ.S0 (self:EJ.A0):EJ.A0:=λ x5 x6 x7 x8=>
 bif A8 x8 (AZ x6) then
 bif Bf x8 (AZ x6) then
 bif A8 (nth x6 x8 0) 0 then
 some ([],false)
 else
 bif Bf x8 (AZ x6) then
 bif BC (AZ x5) (nth x6 x8 0) then
 some ([],false)
 else
 bif Bf x8 (AZ x6) then
 bif Bf (nth x6 x8 0) (AZ x5) then
 bif B1 ((List.length x7)+1) 16 then
 self x5 x6 (x7++[(nth x5 (nth x6 x8 0) eB)]) (A7 .i64 x8 1)
 else none
 else none
 else none
 else none
 else none
 else
 some (x7,true)
def EJ.l0:Nat->EJ.A0
 | 0=>λ _ _ _ _=>none
 | n+1=>EJ.S0 (EJ.l0 n)
def EJ.S (j0:EJ.A0) (s:ByteArray) (xn:Int):Option (Cn×Bool):=
 bif A9 xn 0 then
 some ([],(Cz s eB))
 else
 (Eb s).bind λ x1=>
 bif BK x1.2.2 0 then
 some ([],false)
 else
 bif A8 x1.1 1 then
 some ([],false)
 else
 bif A8 xn x1.1 then
 some ([],false)
 else
 bif CJ x1.2.1 (Bg s) (Bg s) then
 (Em (cutS s x1.2.1 (Bg s)) x1.1).bind λ x2=>
 bif !x2.2.2 then
 some ([],false)
 else
 bif CJ (A7 .i64 x1.2.1 x2.2.1) (Bg s) (Bg s) then
 (DW (cutS s (A7 .i64 x1.2.1 x2.2.1) (Bg s)) xn).bind λ x3=>
 bif BK x3.2 0 then
 some ([],false)
 else
 (Dv x3.1).bind λ x4=>
 j0 x2.1 x4.1 [] 0
 else none
 else none
def EJ (s:ByteArray) (xn:Int):Option (Cn×Bool):=EJ.S (EJ.l0 fu) s xn
abbrev Ix.A0:=ByteArray->Int->Cn->Int->Int->Option (Cn×Int×Bool)
def Ix.S0 (self:Ix.A0):Ix.A0:=λ x1 x2 x3 x4 x5=>
 bif A8 x5 x2 then
 bif BC (Bg x1) x4 then
 some ([],0,false)
 else
 bif Bf x4 (Bg x1) then
 bif A8 32 (byteAt x1 x4) then
 some ([],0,false)
 else
 bif Bf x4 (Bg x1) then
 bif A8 (Bt .i64 (Bt .i64 (Bg x1) x4) 1) (IntKind.wrap .i64 (byteAt x1 x4)) then
 some ([],0,false)
 else
 bif Bf x4 (Bg x1) then
 bif CJ (A7 .i64 x4 1) (A7 .i64 (A7 .i64 x4 1) (IntKind.wrap .i64 (byteAt x1 x4))) (Bg x1) then
 bif B1 ((List.length x3)+1) 16 then
 self x1 x2 (x3++[(cutS x1 (A7 .i64 x4 1) (A7 .i64 (A7 .i64 x4 1) (IntKind.wrap .i64 (byteAt x1 x4))))]) (A7 .i64 (A7 .i64 x4 1) (IntKind.wrap .i64 (byteAt x1 x4))) (A7 .i64 x5 1)
 else none
 else none
 else none
 else none
 else none
 else
 some (x3,x4,true)
def Ix.l0:Nat->Ix.A0
 | 0=>λ _ _ _ _ _=>none
 | n+1=>Ix.S0 (Ix.l0 n)
def Ix.S (j0:Ix.A0) (s:ByteArray) (xn:Int):Option (Cn×Int×Bool):=
 j0 s xn [] 0 0
def Ix (s:ByteArray) (xn:Int):Option (Cn×Int×Bool):=Ix.S (Ix.l0 fu) s xn
abbrev Cx.A0:=ByteArray->Int->Option Jd
abbrev Cx.A1:=ByteArray->Cn->Bc->Cn->Int->Option Jd
abbrev Cx.A2:=ByteArray->Cn->Option Jd
def Cx.S2:Cx.A2:=λ B0 BS=>
 (V9 BS).bind λ B2=>
 bif !(Cz B2.1 B0) then
 some ([],20)
 else
 some (BS,0)
def Cx.t2:Nat->Cx.A2
 | 0=>λ _ _=>none
 | _+1=>Cx.S2
def Cx.S1 (Hp:Cx.A2) (self:Cx.A1):Cx.A1:=λ x7 x8 x9 Bl BI=>
 bif A8 BI (AZ x9) then
 bif Bf BI (AZ x9) then
 bif A8 (nth x9 BI 0) 0 then
 some ([],20)
 else
 bif Bf BI (AZ x9) then
 bif BC (AZ x8) (nth x9 BI 0) then
 some ([],20)
 else
 bif Bf BI (AZ x9) then
 bif Bf (nth x9 BI 0) (AZ x8) then
 bif B1 ((List.length Bl)+1) 16 then
 self x7 x8 x9 (Bl++[(nth x8 (nth x9 BI 0) eB)]) (A7 .i64 BI 1)
 else none
 else none
 else none
 else none
 else none
 else
 Hp x7 Bl
def Cx.l1 (Hp:Cx.A2):Nat->Cx.A1
 | 0=>λ _ _ _ _ _=>none
 | n+1=>Cx.S1 Hp (Cx.l1 Hp n)
def Cx.S0 (j1:Cx.A1):Cx.A0:=λ x1 x2=>
 (Sq x1 x2).bind λ x3=>
 bif !x3.2.2 then
 some ([],20)
 else
 bif CJ x3.2.1 (Bg x1) (Bg x1) then
 (Ix (cutS x1 x3.2.1 (Bg x1)) x3.1).bind λ x4=>
 bif !x4.2.2 then
 some ([],20)
 else
 bif CJ (A7 .i64 x3.2.1 x4.2.1) (Bg x1) (Bg x1) then
 (Wj x3.1).bind λ x5=>
 (DI (cutS x1 (A7 .i64 x3.2.1 x4.2.1) (Bg x1)) x2 x5).bind λ x6=>
 bif BK x6.2 0 then
 some ([],20)
 else
 j1 x1 x4.1 x6.1 [] 0
 else none
 else none
def Cx.t0:Nat->Cx.A0
 | 0=>λ _ _=>none
 | n+1=>Cx.S0 (Cx.l1 (Cx.t2 n) n)
def Cx.S (j0:Cx.A0) (s:ByteArray) (xn:Int):Option Jd:=
 bif A8 xn 0 then
 some ([],1)
 else
 bif A8 65536 xn then
 some ([],1)
 else
 bif A9 xn 0 then
 bif Cz s eB then
 some ([],0)
 else
 j0 s xn
 else
 j0 s xn
def Cx (s:ByteArray) (xn:Int):Option Jd:=Cx.S (Cx.t0 fu) s xn
def Ud (s:ByteArray) (xn code:Int):Option (Cn×Bool):=
 bif A9 code 1 then
 (DH s xn).bind λ x1=>
 some (x1.1,(A9 x1.2 0))
 else
 bif A9 code 2 then
 (EJ s xn).bind λ x2=>
 some x2
 else
 bif A9 code 4 then
 (Cx s xn).bind λ x3=>
 some (x3.1,(A9 x3.2 0))
 else
 some ([],false)
abbrev Cu.A0:=ByteArray->ByteArray->Bool->CD->Bc->Int->Oj->Option Ka
abbrev Cu.A1:=ByteArray->ByteArray->Bool->CD->Oj->Option Ka
abbrev Cu.A2:=ByteArray->ByteArray->Bool->CD->Cn->Int->Oj->Option Ka
def Cu.S1:Cu.A1:=λ BI B0 BS B2 Cy=>
 bif !BS then
 some ([],5)
 else
 (Cl B0 Cy.2.2.1 B2).bind λ Ct=>
 (LV Ct.1 Cy.1 Cy.2.1).bind λ Dt=>
 bif BK Dt.2 0 then
 some ([],5)
 else
 bif !(Cz Dt.1 BI) then
 some ([],5)
 else
 some (Ct.1,0)
def Cu.t1:Nat->Cu.A1
 | 0=>λ _ _ _ _ _=>none
 | _+1=>Cu.S1
def Cu.S0 (BG:Cu.A1) (self:Cu.A0):Cu.A0:=λ x4 x5 x6 x7 x8 x9 Bl=>
 bif A8 x9 (AZ x8) then
 bif Bf x9 (AZ x8) then
 bif B1 ((List.length x7)+1) 32 then
 self x4 x5 x6 (x7++[(1,(nth x8 x9 0),eB)]) x8 (A7 .i64 x9 1) Bl
 else none
 else none
 else
 BG x4 x5 x6 x7 Bl
def Cu.l0 (BG:Cu.A1):Nat->Cu.A0
 | 0=>λ _ _ _ _ _ _ _=>none
 | n+1=>Cu.S0 BG (Cu.l0 BG n)
def Cu.S2 (BG:Cu.A1) (self:Cu.A2):Cu.A2:=λ CX C4 DO Dy Fm FX Ht=>
 bif A8 FX (AZ Fm) then
 bif Bf FX (AZ Fm) then
 bif B1 ((List.length Dy)+1) 32 then
 self CX C4 DO (Dy++[(2,0,(nth Fm FX eB))]) Fm (A7 .i64 FX 1) Ht
 else none
 else none
 else
 BG CX C4 DO Dy Ht
def Cu.l2 (BG:Cu.A1):Nat->Cu.A2
 | 0=>λ _ _ _ _ _ _ _=>none
 | n+1=>Cu.S2 BG (Cu.l2 BG n)
def Cu.S (j0:Cu.A0) (j2:Cu.A2) (s:ByteArray):Option Ka:=
 (Sh s).bind λ x1=>
 bif !x1.2.2.2 then
 some ([],5)
 else
 (FN x1.2.1 x1.1.2.2.1).bind λ x2=>
 bif BK x2.2 0 then
 some ([],5)
 else
 bif A8 64 x1.1.2.2.1 then
 some ([],5)
 else
 bif A9 x1.1.1 1 then
 (QY x1.2.2.1 (Bt .i64 x1.1.2.2.1 x2.1) x1.1.2.1).bind λ x3=>
 j0 s x1.2.1 x3.2 [] x3.1 0 x1.1
 else
 (Ud x1.2.2.1 (Bt .i64 x1.1.2.2.1 x2.1) x1.1.2.1).bind λ DP=>
 j2 s x1.2.1 DP.2 [] DP.1 0 x1.1
def Cu (s:ByteArray):Option Ka:=Cu.S (Cu.l0 (Cu.t1 fu) fu) (Cu.l2 (Cu.t1 fu) fu) s
abbrev JU.A0:=CD->CD->Int->Option Bool
def JU.S0 (self:JU.A0):JU.A0:=λ x1 x2 x3=>
 bif A8 x3 (AZ x1) then
 bif Bf x3 (AZ x1) then
 bif Bf x3 (AZ x2) then
 bif !((A9 (nth x1 x3 (0,0,eB)).1 (nth x2 x3 (0,0,eB)).1) && ((A9 (nth x1 x3 (0,0,eB)).2.1 (nth x2 x3 (0,0,eB)).2.1) && (Cz (nth x1 x3 (0,0,eB)).2.2 (nth x2 x3 (0,0,eB)).2.2))) then
 some false
 else
 self x1 x2 (A7 .i64 x3 1)
 else none
 else none
 else
 some true
def JU.l0:Nat->JU.A0
 | 0=>λ _ _ _=>none
 | n+1=>JU.S0 (JU.l0 n)
def JU.S (j0:JU.A0) (a b:CD):Option Bool:=
 bif BK (AZ a) (AZ b) then
 some false
 else
 j0 a b 0
def JU (a b:CD):Option Bool:=JU.S (JU.l0 fu) a b
end Go.AM.Pure
