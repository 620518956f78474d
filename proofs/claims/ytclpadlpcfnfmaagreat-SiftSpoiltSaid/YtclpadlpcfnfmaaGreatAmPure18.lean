import Derived.Test.YtclpadlpcfnfmaaGreatAmHand18
/- PRINTED by gen/ of this repo: the functions of the seat as pure functions. -/
namespace Go.AM.Pure
open Go.AM
def KT (xn:Int):RP:=
 (1,xn,eB)
def Zr (l:Fj):Option (Bc):=
 bif BC 0 (Bt .i64 (AZ l) 1) then
 bif Bf (Bt .i64 (AZ l) 1) (AZ l) then
 (Gj l).bind λ x1=>
 some [0,(CI .i64 8 (AZ l)),(CI .i64 8 (A7 .i64 (GB .i64 (Bt .i64 (nth l (Bt .i64 (AZ l) 1) (0,0)).2 1) 64) 1)),(CI .i64 2 x1)]
 else none
 else
 (Gj l).bind λ x2=>
 some [0,(CI .i64 8 (AZ l)),0,(CI .i64 2 x2)]
def ZU (word Ew:Int) (w v:Int):Option Int:=
 bif !(NY Ew w) then
 some word
 else
 (PY w).bind λ x2=>
 bif BC 0 Ew then
 bif BC 0 Ew then
 some (IntKind.wrap .i64 (Fa .u64 (Pc .u64 (IntKind.wrap .u64 word) (EN .u64 (IntKind.wrap .u64 x2) Ew)) (Cb .u64 (EN .u64 (IntKind.wrap .u64 v) Ew) (EN .u64 (IntKind.wrap .u64 x2) Ew))))
 else none
 else none
abbrev IJ.A0:=Int->Int->Bc->Option (Bc)
def IJ.S0 (self:IJ.A0):IJ.A0:=λ x1 x2 x3=>
 bif A8 x1 x2 then
 bif Bf (B7 .i64 x1 6) (AZ x3) then
 (ZU (List.getD x3 (Int.toNat (B7 .i64 x1 6)) 0) (Cb .i64 x1 63) (Eo (Bt .i64 64 (Cb .i64 x1 63)) (Bt .i64 x2 x1)) (-1)).bind λ x4=>
 bif Bf (B7 .i64 x1 6) (AZ x3) then
 self (A7 .i64 x1 (Eo (Bt .i64 64 (Cb .i64 x1 63)) (Bt .i64 x2 x1))) x2 (List.set x3 (Int.toNat (B7 .i64 x1 6)) x4)
 else none
 else none
 else
 bif decide (0<(List.length x3)) then
 some x3
 else none
def IJ.l0:Nat->IJ.A0
 | 0=>λ _ _ _=>none
 | n+1=>IJ.S0 (IJ.l0 n)
def IJ.S (j0:IJ.A0) (l:Bc) (lo hi:Int):Option (Bc):=
 j0 lo hi l
def IJ (l:Bc) (lo hi:Int):Option (Bc):=IJ.S (IJ.l0 fu) l lo hi
abbrev Hk.A0:=Fj->Int->Int->Bc->Option Dp
def Hk.S0 (self:Hk.A0):Hk.A0:=λ x2 x3 x4 x5=>
 bif A8 x4 x3 then
 bif Bf x4 (AZ x2) then
 (Qc ((decide (0<(List.length x5))) && true) (IJ x5 (nth x2 x4 (0,0)).1 (nth x2 x4 (0,0)).2) λ _x=>((decide ((List.length _x)=(List.length x5))) && true)).bind λ x6=>
 self x2 x3 (A7 .i64 x4 1) x6
 else none
 else
 some (x5,0)
def Hk.l0:Nat->Hk.A0
 | 0=>λ _ _ _ _=>none
 | n+1=>Hk.S0 (Hk.l0 n)
def Hk.S (j0:Hk.A0) (l:Fj):Option Dp:=
 (Gn l).bind λ x1=>
 bif !x1 then
 some ([],1)
 else
 bif A9 (AZ l) 0 then
 some ([],0)
 else
 bif Bf (Bt .i64 (AZ l) 1) (AZ l) then
 bif (BC 0 (B7 .i64 (Bt .i64 (A7 .i64 (nth l (Bt .i64 (AZ l) 1) (0,0)).2 64) 1) 6)) && (B1 (Int.toNat (B7 .i64 (Bt .i64 (A7 .i64 (nth l (Bt .i64 (AZ l) 1) (0,0)).2 64) 1) 6)) 8) then
 j0 l (AZ l) 0 (List.replicate (Int.toNat (B7 .i64 (Bt .i64 (A7 .i64 (nth l (Bt .i64 (AZ l) 1) (0,0)).2 64) 1) 6)) (0:Int))
 else none
 else none
def Hk (l:Fj):Option Dp:=Hk.S (Hk.l0 fu) l
abbrev D4.A0:=Bc->Fj->Int->Int->Option Dp
abbrev D4.A1:=Bc->Int->Fj->Int->Int->Oi->Option Dp
def D4.S1 (CS:D4.A0) (self:D4.A1):D4.A1:=λ x7 x8 x9 Bl BI B0=>
 bif A8 x8 B0.2 then
 bif B1 ((List.length x7)+1) 8 then
 self (x7++[x8]) (A7 .i64 x8 1) x9 Bl BI B0
 else none
 else
 CS x7 x9 Bl (A7 .i64 BI 1)
def D4.l1 (CS:D4.A0):Nat->D4.A1
 | 0=>λ _ _ _ _ _ _=>none
 | n+1=>D4.S1 CS (D4.l1 CS n)
def D4.S0 (j1:D4.A1):D4.A0:=λ x3 x4 x5 x6=>
 bif A8 x6 x5 then
 bif Bf x6 (AZ x4) then
 j1 x3 (nth x4 x6 (0,0)).1 x4 x5 x6 (nth x4 x6 (0,0))
 else none
 else
 some (x3,0)
def D4.l0:Nat->D4.A0
 | 0=>λ _ _ _ _=>none
 | n+1=>D4.S0 (D4.l1 (D4.l0 n) n)
def D4.S (j0:D4.A0) (l:Fj):Option Dp:=
 (Gn l).bind λ x1=>
 bif !x1 then
 some ([],1)
 else
 (Gj l).bind λ x2=>
 bif (BC 0 x2) && (B1 (Int.toNat x2) 8) then
 j0 [] l (AZ l) 0
 else none
def D4 (l:Fj):Option Dp:=D4.S (D4.l0 fu) l
def PM (l:Fj) (form:Int):Option Nt:=
 (Gn l).bind λ x1=>
 bif !x1 then
 some ((0,[],[],[]),1)
 else
 bif A9 form 1 then
 (N9 16 l).bind λ x2=>
 some ((form,x2,[],[]),0)
 else
 bif A9 form 2 then
 (Hk l).bind λ x3=>
 some ((form,[],x3.1,[]),0)
 else
 bif A9 form 3 then
 (D4 l).bind λ x4=>
 some ((form,[],[],x4.1),0)
 else
 some ((0,[],[],[]),1)
abbrev DX.A0:=Fj->Int->Int->La->Bc->Option Nt
abbrev DX.A1:=Fj->Int->La->Option Nt
def DX.S1:DX.A1:=λ x8 x9 Bl=>
 (PM x8 x9).bind λ BI=>
 some BI
def DX.t1:Nat->DX.A1
 | 0=>λ _ _ _=>none
 | _+1=>DX.S1
def DX.S0 (BG:DX.A1) (self:DX.A0):DX.A0:=λ x3 x4 x5 x6 x7=>
 bif BC x5 3 then
 bif (Bf x5 4) && (decide (4=(List.length x7))) then
 bif (Bf x4 4) && (decide (4=(List.length x7))) then
 bif A8 (List.getD x7 (Int.toNat x5) 0) (List.getD x7 (Int.toNat x4) 0) then
 self x3 x5 (A7 .i64 x5 1) x6 x7
 else
 self x3 x4 (A7 .i64 x5 1) x6 x7
 else none
 else none
 else
 BG x3 x4 x6
def DX.l0 (BG:DX.A1):Nat->DX.A0
 | 0=>λ _ _ _ _ _=>none
 | n+1=>DX.S0 BG (DX.l0 BG n)
def DX.S (j0:DX.A0) (l:Fj):Option Nt:=
 (Gn l).bind λ x1=>
 bif !x1 then
 some ((0,[],[],[]),1)
 else
 (Zr l).bind λ x2=>
 j0 l 1 2 (0,[],[],[]) x2
def DX (l:Fj):Option Nt:=DX.S (DX.l0 (DX.t1 fu) fu) l
def Mw (places:Bc):Option Nt:=
 (SK places).bind λ x1=>
 bif BK x1.2 0 then
 some ((0,[],[],[]),x1.2)
 else
 (DX x1.1).bind λ x2=>
 some x2
def ia (xn:Int):RP:=
 (1,xn,eB)
abbrev IK.A0:=Int->Bc->Int->Int->Option Int
abbrev GL.A0:=Int->Int->Jz->Option KD
def GL.S0 (self:GL.A0):GL.A0:=λ x1 x2 x3=>
 bif A8 x2 x1 then
 bif B1 ((List.length x3.2.2)+1) 8 then
 self x1 (A7 .i64 x2 1) (x3.1,x3.2.1,(x3.2.2++[x2]))
 else none
 else
 some x3
def GL.l0:Nat->GL.A0
 | 0=>λ _ _ _=>none
 | n+1=>GL.S0 (GL.l0 n)
def GL.S (j0:GL.A0) (f:Jz) (Kz YS:Int):Option KD:=
 j0 YS Kz f
def GL (f:Jz) (Kz YS:Int):Option KD:=GL.S (GL.l0 fu) f Kz YS
abbrev GM.A0:=Eu->Int->Int->Jz->Option KD
def GM.S0 (self:GM.A0):GM.A0:=λ x2 x3 x4 x5=>
 bif A8 x4 x3 then
 bif Bf x4 (AZ x2) then
 (Sp x5.1 (ia (nth x2 x4 (0,0,0)).1)).bind λ x7=>
 bif x7 then
 (GL x5 (nth x2 x4 (0,0,0)).2.1 (A7 .i64 (nth x2 x4 (0,0,0)).2.1 (nth x2 x4 (0,0,0)).2.2)).bind λ x8=>
 self x2 x3 (A7 .i64 x4 1) x8
 else
 self x2 x3 (A7 .i64 x4 1) x5
 else none
 else
 some x5
def GM.l0:Nat->GM.A0
 | 0=>λ _ _ _ _=>none
 | n+1=>GM.S0 (GM.l0 n)
def GM.S (j0:GM.A0) (f:Jz) (xn:Int):Option KD:=
 (Cw f.2.1 xn).bind λ x1=>
 j0 x1.1 (AZ x1.1) 0 f
def GM (f:Jz) (xn:Int):Option KD:=GM.S (GM.l0 fu) f xn
abbrev Dj.A0:=Bc->Bc->CD->Int->Int->Option (Bc)
abbrev Dj.A1:=Bc->Bc->Option (Bc)
abbrev Dj.A2:=Bc->Bc->Bc->Int->Int->Option (Bc)
def Dj.S2 (self:Dj.A2):Dj.A2:=λ x8 x9 Bl BI B0=>
 bif A8 B0 BI then
 bif Bf B0 (AZ Bl) then
 bif Bf (nth Bl B0 0) (AZ x8) then
 bif B1 ((List.length x9)+1) 8 then
 self x8 (x9++[(nth x8 (nth Bl B0 0) 0)]) Bl BI (A7 .i64 B0 1)
 else none
 else none
 else none
 else
 some x9
def Dj.l2:Nat->Dj.A2
 | 0=>λ _ _ _ _ _=>none
 | n+1=>Dj.S2 (Dj.l2 n)
def Dj.S1 (j2:Dj.A2):Dj.A1:=λ x6 x7=>
 j2 x7 [] x6 (AZ x6) 0
def Dj.t1:Nat->Dj.A1
 | 0=>λ _ _=>none
 | n+1=>Dj.S1 (Dj.l2 n)
def Dj.S0 (BG:Dj.A1) (self:Dj.A0):Dj.A0:=λ x1 x2 x3 x4 x5=>
 bif A8 x5 x4 then
 bif Bf x5 (AZ x3) then
 bif BK (nth x3 x5 (0,0,eB)).1 0 then
 bif B1 ((List.length x2)+1) 8 then
 self x1 (x2++[x5]) x3 x4 (A7 .i64 x5 1)
 else none
 else
 self x1 x2 x3 x4 (A7 .i64 x5 1)
 else none
 else
 BG x1 x2
def Dj.l0 (BG:Dj.A1):Nat->Dj.A0
 | 0=>λ _ _ _ _ _=>none
 | n+1=>Dj.S0 BG (Dj.l0 BG n)
def Dj.S (j0:Dj.A0) (l:CD) (found:Bc):Option (Bc):=
 j0 found [] l (AZ l) 0
def Dj (l:CD) (found:Bc):Option (Bc):=Dj.S (Dj.l0 (Dj.t1 fu) fu) l found
abbrev C0.A0:=Bc->Cn->Int->Int->Ho->Jz->Option KD
abbrev C0.A1:=Bc->Ho->Jz->Option KD
abbrev C0.A2:=Bc->Int->Int->Ho->Jz->Option KD
def C0.S2 (self:C0.A2):C0.A2:=λ B0 BS B2 Cy Ct=>
 bif A8 B2 BS then
 bif Bf B2 (AZ B0) then
 bif Bf (nth B0 B2 0) (AZ Cy) then
 bif List.getD Cy (Int.toNat (nth B0 B2 0)) false then
 (GL Ct B2 (A7 .i64 B2 1)).bind λ Dt=>
 self B0 BS (A7 .i64 B2 1) Cy Dt
 else
 self B0 BS (A7 .i64 B2 1) Cy Ct
 else none
 else none
 else
 some Ct
def C0.l2:Nat->C0.A2
 | 0=>λ _ _ _ _ _=>none
 | n+1=>C0.S2 (C0.l2 n)
def C0.S1 (j2:C0.A2):C0.A1:=λ x9 Bl BI=>
 j2 x9 (AZ x9) 0 Bl BI
def C0.t1:Nat->C0.A1
 | 0=>λ _ _ _=>none
 | n+1=>C0.S1 (C0.l2 n)
def C0.S0 (BG:C0.A1) (self:C0.A0):C0.A0:=λ x2 x3 x4 x5 x6 x7=>
 bif A8 x5 x4 then
 bif Bf x5 (AZ x3) then
 (Sp x7.1 (2,0,(nth x3 x5 eB))).bind λ x8=>
 bif Bf x5 (AZ x6) then
 self x2 x3 x4 (A7 .i64 x5 1) (List.set x6 (Int.toNat x5) x8) x7
 else none
 else none
 else
 BG x2 x6 x7
def C0.l0 (BG:C0.A1):Nat->C0.A0
 | 0=>λ _ _ _ _ _ _=>none
 | n+1=>C0.S0 BG (C0.l0 BG n)
def C0.S (j0:C0.A0) (f:Jz) (xn:Int):Option KD:=
 (PI f.2.1 xn).bind λ x1=>
 bif (BC 0 (AZ x1.1)) && (B1 (Int.toNat (AZ x1.1)) 1) then
 j0 x1.2.1 x1.1 (AZ x1.1) 0 (List.replicate (Int.toNat (AZ x1.1)) false) f
 else none
def C0 (f:Jz) (xn:Int):Option KD:=C0.S (C0.l0 (C0.t1 fu) fu) f xn
abbrev JR.A0:=Int->Vt->Bc->Int->Int->Option Int
abbrev JS.A0:=Int->Int->Option Oi
abbrev Fc.A0:=Int->Int->Bc->Int->Int->Jz->Option KD
def Fc.S0 (self:Fc.A0):Fc.A0:=λ x4 x5 x6 x7 x8 x9=>
 bif A8 x8 x7 then
 bif Bf x8 (AZ x6) then
 bif BC x4 (nth x6 x8 0) then
 bif A8 (nth x6 x8 0) x5 then
 (GL x9 x8 (A7 .i64 x8 1)).bind λ Bl=>
 self x4 x5 x6 x7 (A7 .i64 x8 1) Bl
 else
 self x4 x5 x6 x7 (A7 .i64 x8 1) x9
 else
 self x4 x5 x6 x7 (A7 .i64 x8 1) x9
 else none
 else
 some x9
def Fc.l0:Nat->Fc.A0
 | 0=>λ _ _ _ _ _ _=>none
 | n+1=>Fc.S0 (Fc.l0 n)
def Fc.S (j0:Fc.A0) (f:Jz) (xn:Int):Option KD:=
 (QZ f.2.1 xn).bind λ x1=>
 (aN x1.1).bind λ x2=>
 (JS f.1 x2.1).bind λ x3=>
 j0 x3.1 x3.2 x2.2 (AZ x2.2) 0 f
def Fc (f:Jz) (xn:Int):Option KD:=Fc.S (Fc.l0 fu) f xn
abbrev FB.A0:=Int->CD->Int->Int->Jz->Option KD
def FB.S0 (self:FB.A0):FB.A0:=λ x1 x2 x3 x4 x5=>
 bif A8 x4 x3 then
 bif Bf x4 (AZ x2) then
 bif A9 (nth x2 x4 (0,0,eB)).1 0 then
 self x1 x2 x3 (A7 .i64 x4 1) x5
 else
 (Sp x5.1 (nth x2 x4 (0,0,eB))).bind λ x6=>
 bif x6 then
 (GL x5 x1 (A7 .i64 x1 1)).bind λ x7=>
 self (A7 .i64 x1 1) x2 x3 (A7 .i64 x4 1) x7
 else
 self (A7 .i64 x1 1) x2 x3 (A7 .i64 x4 1) x5
 else none
 else
 some x5
def FB.l0:Nat->FB.A0
 | 0=>λ _ _ _ _ _=>none
 | n+1=>FB.S0 (FB.l0 n)
def FB.S (j0:FB.A0) (f:Jz) (l:CD):Option KD:=
 j0 0 l (AZ l) 0 f
def FB (f:Jz) (l:CD):Option KD:=FB.S (FB.l0 fu) f l
abbrev Cv.A0:=Bc->CD->Int->Int->La->Option Nt
abbrev Cv.A1:=Bc->La->Option Nt
abbrev Cv.A2:=ByteArray->CD->Vt->La->Oj->Option Nt
abbrev Cv.A3:=CD->La->Jz->Option Nt
def Cv.S1:Cv.A1:=λ x9 Bl=>
 (Mw x9).bind λ BI=>
 some BI
def Cv.t1:Nat->Cv.A1
 | 0=>λ _ _=>none
 | _+1=>Cv.S1
def Cv.S0 (BG:Cv.A1) (self:Cv.A0):Cv.A0:=λ x4 x5 x6 x7 x8=>
 bif A8 x7 x6 then
 bif Bf x7 (AZ x5) then
 bif A9 (nth x5 x7 (0,0,eB)).1 0 then
 bif B1 ((List.length x4)+1) 8 then
 self (x4++[x7]) x5 x6 (A7 .i64 x7 1) x8
 else none
 else
 self x4 x5 x6 (A7 .i64 x7 1) x8
 else none
 else
 BG x4 x8
def Cv.l0 (BG:Cv.A1):Nat->Cv.A0
 | 0=>λ _ _ _ _ _=>none
 | n+1=>Cv.S0 BG (Cv.l0 BG n)
def Cv.S3:Cv.A3:=λ CX C4 DO=>
 (Dj CX DO.2.2).bind λ Dy=>
 (Mw Dy).bind λ Fm=>
 some Fm
def Cv.t3:Nat->Cv.A3
 | 0=>λ _ _ _=>none
 | _+1=>Cv.S3
def Cv.S2 (j3:Cv.A3):Cv.A2:=λ B0 BS B2 Cy Ct=>
 (Ul B0).bind λ Dt=>
 bif A9 Ct.2.1 2 then
 bif A9 Ct.1 1 then
 (GM (B2,Dt.1,[]) (Bt .i64 Ct.2.2.1 Ct.2.2.2)).bind λ DP=>
 j3 BS Cy DP
 else
 bif A9 Ct.2.1 4 then
 bif A9 Ct.1 2 then
 (C0 (B2,Dt.1,[]) (Bt .i64 Ct.2.2.1 Ct.2.2.2)).bind λ FX=>
 j3 BS Cy FX
 else
 bif A9 Ct.2.1 4 then
 bif BK B2.1 2 then
 (Fc (B2,Dt.1,[]) (Bt .i64 Ct.2.2.1 Ct.2.2.2)).bind λ Ht=>
 j3 BS Cy Ht
 else
 (FB (B2,Dt.1,[]) BS).bind λ JI=>
 j3 BS Cy JI
 else
 (FB (B2,Dt.1,[]) BS).bind λ JJ=>
 j3 BS Cy JJ
 else
 bif A9 Ct.2.1 4 then
 bif BK B2.1 2 then
 (Fc (B2,Dt.1,[]) (Bt .i64 Ct.2.2.1 Ct.2.2.2)).bind λ LD=>
 j3 BS Cy LD
 else
 (FB (B2,Dt.1,[]) BS).bind λ MU=>
 j3 BS Cy MU
 else
 (FB (B2,Dt.1,[]) BS).bind λ LF=>
 j3 BS Cy LF
 else
 bif A9 Ct.2.1 4 then
 bif A9 Ct.1 2 then
 (C0 (B2,Dt.1,[]) (Bt .i64 Ct.2.2.1 Ct.2.2.2)).bind λ LG=>
 j3 BS Cy LG
 else
 bif A9 Ct.2.1 4 then
 bif BK B2.1 2 then
 (Fc (B2,Dt.1,[]) (Bt .i64 Ct.2.2.1 Ct.2.2.2)).bind λ x32=>
 j3 BS Cy x32
 else
 (FB (B2,Dt.1,[]) BS).bind λ x33=>
 j3 BS Cy x33
 else
 (FB (B2,Dt.1,[]) BS).bind λ x34=>
 j3 BS Cy x34
 else
 bif A9 Ct.2.1 4 then
 bif BK B2.1 2 then
 (Fc (B2,Dt.1,[]) (Bt .i64 Ct.2.2.1 Ct.2.2.2)).bind λ x35=>
 j3 BS Cy x35
 else
 (FB (B2,Dt.1,[]) BS).bind λ x36=>
 j3 BS Cy x36
 else
 (FB (B2,Dt.1,[]) BS).bind λ x37=>
 j3 BS Cy x37
def Cv.t2:Nat->Cv.A2
 | 0=>λ _ _ _ _ _=>none
 | n+1=>Cv.S2 (Cv.t3 n)
def Cv.S (j0:Cv.A0) (j2:Cv.A2) (s:ByteArray) (t:Vt):Option Nt:=
 bif BK (N2 t) 0 then
 some ((0,[],[],[]),1)
 else
 (LS s).bind λ x2=>
 bif BK x2.2 0 then
 some ((0,[],[],[]),x2.2)
 else
 (I7 s).bind λ x3=>
 bif A9 t.1 7 then
 j0 [] x3.1 (AZ x3.1) 0 (0,[],[],[])
 else
 j2 s x3.1 t (0,[],[],[]) x2.1
def Cv (s:ByteArray) (t:Vt):Option Nt:=Cv.S (Cv.l0 (Cv.t1 fu) fu) (Cv.t2 fu) s t
abbrev Dw.A0:=Int->Int->CD->Int->Int->Option (Int×Int×Int)
abbrev Dw.A1:=Int->Int->Option (Int×Int×Int)
def Dw.S1:Dw.A1:=λ x8 x9=>
 some ((A7 .i64 x8 (B7 .i64 x9 32)),(Cb .i64 x9 4294967295),0)
def Dw.t1:Nat->Dw.A1
 | 0=>λ _ _=>none
 | _+1=>Dw.S1
def Dw.S0 (BG:Dw.A1) (self:Dw.A0):Dw.A0:=λ x3 x4 x5 x6 x7=>
 bif A8 x7 x6 then
 bif Bf x7 (AZ x5) then
 self (A7 .i64 x3 (B7 .i64 (nth x5 x7 (0,0,eB)).2.1 32)) (A7 .i64 x4 (Cb .i64 (nth x5 x7 (0,0,eB)).2.1 4294967295)) x5 x6 (A7 .i64 x7 1)
 else none
 else
 BG x3 x4
def Dw.l0 (BG:Dw.A1):Nat->Dw.A0
 | 0=>λ _ _ _ _ _=>none
 | n+1=>Dw.S0 BG (Dw.l0 BG n)
def Dw.S (j0:Dw.A0) (s:ByteArray) (l:La):Option (Int×Int×Int):=
 (Ku s l).bind λ x1=>
 bif BK x1.2 0 then
 some (0,0,x1.2)
 else
 (LS s).bind λ x2=>
 bif BK x2.1.1 1 then
 some (0,0,1)
 else
 j0 0 0 x1.1 (AZ x1.1) 0
def Dw (s:ByteArray) (l:La):Option (Int×Int×Int):=Dw.S (Dw.l0 (Dw.t1 fu) fu) s l
def OH (l:La):Option (Fj):=
 bif A9 l.1 2 then
 (Wo l.2.2.1).bind λ x1=>
 some x1.1
 else
 bif A9 l.1 3 then
 (SK l.2.2.2).bind λ x2=>
 some x2.1
 else
 (N9 16 l.2.1).bind λ x3=>
 some x3
abbrev JT.A0:=Fj->Fj->Int->Option Bool
def JT.S0 (self:JT.A0):JT.A0:=λ x1 x2 x3=>
 bif A8 x3 (AZ x1) then
 bif Bf x3 (AZ x1) then
 bif Bf x3 (AZ x2) then
 bif !((A9 (nth x1 x3 (0,0)).1 (nth x2 x3 (0,0)).1) && (A9 (nth x1 x3 (0,0)).2 (nth x2 x3 (0,0)).2)) then
 some false
 else
 self x1 x2 (A7 .i64 x3 1)
 else none
 else none
 else
 some true
def JT.l0:Nat->JT.A0
 | 0=>λ _ _ _=>none
 | n+1=>JT.S0 (JT.l0 n)
def JT.S (j0:JT.A0) (a b:Fj):Option Bool:=
 bif BK (AZ a) (AZ b) then
 some false
 else
 j0 a b 0
def JT (a b:Fj):Option Bool:=JT.S (JT.l0 fu) a b
def NX:Option Bool:=
 (LV [(KT 7),(0,0,eB),(KT 9)] 1 4).bind λ x3=>
 (Cv x3.1 (6,(KT 8))).bind λ x5=>
 (Ku x3.1 x5.1).bind λ x6=>
 (Dw x3.1 x5.1).bind λ x7=>
 bif A9 x3.2 0 then
 bif A9 x5.2 0 then
 (OH x5.1).bind λ x8=>
 (JT x8 [(2,3)]).bind λ x9=>
 bif x9 then
 bif A9 x6.2 0 then
 (JU x6.1 [(KT 9)]).bind λ BI=>
 bif BI then
 bif A9 x7.1 0 then
 bif A9 x7.2.1 9 then
 some (A9 x7.2.2 0)
 else
 some false
 else
 some false
 else
 some false
 else
 some false
 else
 some false
 else
 some false
 else
 some false
abbrev Hg.A0:=Fj->Int->Option Bool
def Hg.S0 (self:Hg.A0):Hg.A0:=λ x1 x2=>
 bif A8 x2 (AZ x1) then
 bif Bf x2 (AZ x1) then
 bif A8 (nth x1 x2 (0,0)).1 0 then
 some false
 else
 bif Bf x2 (AZ x1) then
 bif Bf x2 (AZ x1) then
 bif BC (nth x1 x2 (0,0)).2 (nth x1 x2 (0,0)).1 then
 some false
 else
 bif Bf x2 (AZ x1) then
 bif A8 65536 (nth x1 x2 (0,0)).2 then
 some false
 else
 bif A8 0 x2 then
 bif Bf x2 (AZ x1) then
 bif Bf (Bt .i64 x2 1) (AZ x1) then
 bif BC (nth x1 x2 (0,0)).1 (nth x1 (Bt .i64 x2 1) (0,0)).2 then
 some false
 else
 self x1 (A7 .i64 x2 1)
 else none
 else none
 else
 self x1 (A7 .i64 x2 1)
 else none
 else none
 else none
 else none
 else
 some true
def Hg.l0:Nat->Hg.A0
 | 0=>λ _ _=>none
 | n+1=>Hg.S0 (Hg.l0 n)
def Hg.S (j0:Hg.A0) (l:Fj):Option Bool:=
 j0 l 0
def Hg (l:Fj):Option Bool:=Hg.S (Hg.l0 fu) l
def ZT (l:Fj):Option Int:=
 bif A9 (AZ l) 0 then
 some 0
 else
 bif Bf (Bt .i64 (AZ l) 1) (AZ l) then
 some (nth l (Bt .i64 (AZ l) 1) (0,0)).2
 else none
def ZS (l:Fj):Option Bool:=
 bif BC (AZ l) 60 then
 (Hg l).bind λ x1=>
 bif !x1 then
 some true
 else
 (ZT l).bind λ x2=>
 some (BC x2 2048)
 else
 some false
def fS (s:ByteArray) (t:Vt) (Ew:Fj):Option Bool:=
 bif A8 1024 (Bg s) then
 (NX).bind λ x1=>
 some x1
 else
 bif A8 100 (Bg t.2.2.2) then
 (NX).bind λ x2=>
 some x2
 else
 (ZS Ew).bind λ x3=>
 bif !x3 then
 (NX).bind λ x4=>
 some x4
 else
 (Hg Ew).bind λ x5=>
 bif !x5 then
 (NX).bind λ x6=>
 some x6
 else
 (DX Ew).bind λ x7=>
 (Cv s t).bind λ x8=>
 (Ku s x7.1).bind λ x9=>
 (Dw s x7.1).bind λ Bl=>
 (Cu s).bind λ BI=>
 bif BK BI.2 0 then
 bif A9 x8.2 5 then
 bif A9 x9.2 5 then
 bif A9 Bl.2.2 5 then
 (NX).bind λ B0=>
 some B0
 else
 some false
 else
 some false
 else
 bif A9 x8.2 1 then
 bif !(PZ t) then
 bif A9 x9.2 5 then
 bif A9 Bl.2.2 5 then
 (NX).bind λ B2=>
 some B2
 else
 some false
 else
 some false
 else
 some false
 else
 some false
 else
 bif RZ (A9 x8.2 0) (PZ t) then
 bif BK x9.2 5 then
 bif BK Bl.2.2 5 then
 (NX).bind λ Ct=>
 some Ct
 else
 some false
 else
 some false
 else
 some false
end Go.AM.Pure
