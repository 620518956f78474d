import Derived.Test.YtclpadlpcfnfmaaGreatAmHand18
/- PRINTED by gen/ of this repo: the functions of the seat as pure functions. -/
namespace Go.AM.Pure
open Go.AM
def KV (xn:Int):RQ:=
 (1,xn,eB)
def Zu (l:Fk):Option (Bc):=
 bif BC 0 (Bt .i64 (AZ l) 1) then
 bif Bf (Bt .i64 (AZ l) 1) (AZ l) then
 (Gj l).bind λ x1=>
 some [0,(CI .i64 8 (AZ l)),(CI .i64 8 (A7 .i64 (GC .i64 (Bt .i64 (nth l (Bt .i64 (AZ l) 1) (0,0)).2 1) 64) 1)),(CI .i64 2 x1)]
 else none
 else
 (Gj l).bind λ x2=>
 some [0,(CI .i64 8 (AZ l)),0,(CI .i64 2 x2)]
def ZW (word Ey:Int) (w v:Int):Option Int:=
 bif !(NZ Ey w) then
 some word
 else
 (PY w).bind λ x2=>
 bif BC 0 Ey then
 bif BC 0 Ey then
 some (IntKind.wrap .i64 (Fa .u64 (Pc .u64 (IntKind.wrap .u64 word) (EN .u64 (IntKind.wrap .u64 x2) Ey)) (Cb .u64 (EN .u64 (IntKind.wrap .u64 v) Ey) (EN .u64 (IntKind.wrap .u64 x2) Ey))))
 else none
 else none
abbrev IL.A0:=Int->Int->Bc->Option (Bc)
def IL.S0 (self:IL.A0):IL.A0:=λ x1 x2 x3=>
 bif A8 x1 x2 then
 bif Bf (B7 .i64 x1 6) (AZ x3) then
 (ZW (List.getD x3 (Int.toNat (B7 .i64 x1 6)) 0) (Cb .i64 x1 63) (Eo (Bt .i64 64 (Cb .i64 x1 63)) (Bt .i64 x2 x1)) (-1)).bind λ x4=>
 bif Bf (B7 .i64 x1 6) (AZ x3) then
 self (A7 .i64 x1 (Eo (Bt .i64 64 (Cb .i64 x1 63)) (Bt .i64 x2 x1))) x2 (List.set x3 (Int.toNat (B7 .i64 x1 6)) x4)
 else none
 else none
 else
 bif decide (0<(List.length x3)) then
 some x3
 else none
def IL.l0:Nat->IL.A0
 | 0=>λ _ _ _=>none
 | n+1=>IL.S0 (IL.l0 n)
def IL.S (j0:IL.A0) (l:Bc) (lo hi:Int):Option (Bc):=
 j0 lo hi l
def IL (l:Bc) (lo hi:Int):Option (Bc):=IL.S (IL.l0 fu) l lo hi
abbrev Hk.A0:=Fk->Int->Int->Bc->Option Dp
def Hk.S0 (self:Hk.A0):Hk.A0:=λ x2 x3 x4 x5=>
 bif A8 x4 x3 then
 bif Bf x4 (AZ x2) then
 (Qc ((decide (0<(List.length x5))) && true) (IL x5 (nth x2 x4 (0,0)).1 (nth x2 x4 (0,0)).2) λ _x=>((decide ((List.length _x)=(List.length x5))) && true)).bind λ x6=>
 self x2 x3 (A7 .i64 x4 1) x6
 else none
 else
 some (x5,0)
def Hk.l0:Nat->Hk.A0
 | 0=>λ _ _ _ _=>none
 | n+1=>Hk.S0 (Hk.l0 n)
def Hk.S (j0:Hk.A0) (l:Fk):Option Dp:=
 (Gn l).bind λ x1=>
 bif !x1 then
 some ([],1)
 else
 bif A9 (AZ l) 0 then
 some ([],0)
 else
 bif Bf (Bt .i64 (AZ l) 1) (AZ l) then
 bif (BC 0 (B7 .i64 (Bt .i64 (A7 .i64 (nth l (Bt .i64 (AZ l) 1) (0,0)).2 64) 1) 6)) && (B2 (Int.toNat (B7 .i64 (Bt .i64 (A7 .i64 (nth l (Bt .i64 (AZ l) 1) (0,0)).2 64) 1) 6)) 8) then
 j0 l (AZ l) 0 (List.replicate (Int.toNat (B7 .i64 (Bt .i64 (A7 .i64 (nth l (Bt .i64 (AZ l) 1) (0,0)).2 64) 1) 6)) (0:Int))
 else none
 else none
def Hk (l:Fk):Option Dp:=Hk.S (Hk.l0 fu) l
abbrev D5.A0:=Bc->Fk->Int->Int->Option Dp
abbrev D5.A1:=Bc->Int->Fk->Int->Int->Oj->Option Dp
def D5.S1 (CS:D5.A0) (self:D5.A1):D5.A1:=λ x7 x8 x9 Bl BJ B0=>
 bif A8 x8 B0.2 then
 bif B2 ((List.length x7)+1) 8 then
 self (x7++[x8]) (A7 .i64 x8 1) x9 Bl BJ B0
 else none
 else
 CS x7 x9 Bl (A7 .i64 BJ 1)
def D5.l1 (CS:D5.A0):Nat->D5.A1
 | 0=>λ _ _ _ _ _ _=>none
 | n+1=>D5.S1 CS (D5.l1 CS n)
def D5.S0 (j1:D5.A1):D5.A0:=λ x3 x4 x5 x6=>
 bif A8 x6 x5 then
 bif Bf x6 (AZ x4) then
 j1 x3 (nth x4 x6 (0,0)).1 x4 x5 x6 (nth x4 x6 (0,0))
 else none
 else
 some (x3,0)
def D5.l0:Nat->D5.A0
 | 0=>λ _ _ _ _=>none
 | n+1=>D5.S0 (D5.l1 (D5.l0 n) n)
def D5.S (j0:D5.A0) (l:Fk):Option Dp:=
 (Gn l).bind λ x1=>
 bif !x1 then
 some ([],1)
 else
 (Gj l).bind λ x2=>
 bif (BC 0 x2) && (B2 (Int.toNat x2) 8) then
 j0 [] l (AZ l) 0
 else none
def D5 (l:Fk):Option Dp:=D5.S (D5.l0 fu) l
def PM (l:Fk) (form:Int):Option Nu:=
 (Gn l).bind λ x1=>
 bif !x1 then
 some ((0,[],[],[]),1)
 else
 bif A9 form 1 then
 (Oa 16 l).bind λ x2=>
 some ((form,x2,[],[]),0)
 else
 bif A9 form 2 then
 (Hk l).bind λ x3=>
 some ((form,[],x3.1,[]),0)
 else
 bif A9 form 3 then
 (D5 l).bind λ x4=>
 some ((form,[],[],x4.1),0)
 else
 some ((0,[],[],[]),1)
abbrev DX.A0:=Fk->Int->Int->Lc->Bc->Option Nu
abbrev DX.A1:=Fk->Int->Lc->Option Nu
def DX.S1:DX.A1:=λ x8 x9 Bl=>
 (PM x8 x9).bind λ BJ=>
 some BJ
def DX.t1:Nat->DX.A1
 | 0=>λ _ _ _=>none
 | _+1=>DX.S1
def DX.S0 (BH:DX.A1) (self:DX.A0):DX.A0:=λ x3 x4 x5 x6 x7=>
 bif BC x5 3 then
 bif (Bf x5 4) && (decide (4=(List.length x7))) then
 bif (Bf x4 4) && (decide (4=(List.length x7))) then
 bif A8 (List.getD x7 (Int.toNat x5) 0) (List.getD x7 (Int.toNat x4) 0) then
 self x3 x5 (A7 .i64 x5 1) x6 x7
 else
 self x3 x4 (A7 .i64 x5 1) x6 x7
 else none
 else none
 else
 BH x3 x4 x6
def DX.l0 (BH:DX.A1):Nat->DX.A0
 | 0=>λ _ _ _ _ _=>none
 | n+1=>DX.S0 BH (DX.l0 BH n)
def DX.S (j0:DX.A0) (l:Fk):Option Nu:=
 (Gn l).bind λ x1=>
 bif !x1 then
 some ((0,[],[],[]),1)
 else
 (Zu l).bind λ x2=>
 j0 l 1 2 (0,[],[],[]) x2
def DX (l:Fk):Option Nu:=DX.S (DX.l0 (DX.t1 fu) fu) l
def Mw (places:Bc):Option Nu:=
 (SM places).bind λ x1=>
 bif BL x1.2 0 then
 some ((0,[],[],[]),x1.2)
 else
 (DX x1.1).bind λ x2=>
 some x2
def ib (xn:Int):RQ:=
 (1,xn,eB)
abbrev IM.A0:=Int->Bc->Int->Int->Option Int
abbrev GL.A0:=Int->Int->Jz->Option KE
def GL.S0 (self:GL.A0):GL.A0:=λ x1 x2 x3=>
 bif A8 x2 x1 then
 bif B2 ((List.length x3.2.2)+1) 8 then
 self x1 (A7 .i64 x2 1) (x3.1,x3.2.1,(x3.2.2++[x2]))
 else none
 else
 some x3
def GL.l0:Nat->GL.A0
 | 0=>λ _ _ _=>none
 | n+1=>GL.S0 (GL.l0 n)
def GL.S (j0:GL.A0) (f:Jz) (KB YW:Int):Option KE:=
 j0 YW KB f
def GL (f:Jz) (KB YW:Int):Option KE:=GL.S (GL.l0 fu) f KB YW
abbrev GM.A0:=Ev->Int->Int->Jz->Option KE
def GM.S0 (self:GM.A0):GM.A0:=λ x2 x3 x4 x5=>
 bif A8 x4 x3 then
 bif Bf x4 (AZ x2) then
 (Sr x5.1 (ib (nth x2 x4 (0,0,0)).1)).bind λ x7=>
 bif x7 then
 (GL x5 (nth x2 x4 (0,0,0)).2.1 (A7 .i64 (nth x2 x4 (0,0,0)).2.1 (nth x2 x4 (0,0,0)).2.2)).bind λ x8=>
 self x2 x3 (A7 .i64 x4 1) x8
 else
 self x2 x3 (A7 .i64 x4 1) x5
 else none
 else
 some x5
def GM.l0:Nat->GM.A0
 | 0=>λ _ _ _ _=>none
 | n+1=>GM.S0 (GM.l0 n)
def GM.S (j0:GM.A0) (f:Jz) (xn:Int):Option KE:=
 (Cw f.2.1 xn).bind λ x1=>
 j0 x1.1 (AZ x1.1) 0 f
def GM (f:Jz) (xn:Int):Option KE:=GM.S (GM.l0 fu) f xn
abbrev Dj.A0:=Bc->Bc->CD->Int->Int->Option (Bc)
abbrev Dj.A1:=Bc->Bc->Option (Bc)
abbrev Dj.A2:=Bc->Bc->Bc->Int->Int->Option (Bc)
def Dj.S2 (self:Dj.A2):Dj.A2:=λ x8 x9 Bl BJ B0=>
 bif A8 B0 BJ then
 bif Bf B0 (AZ Bl) then
 bif Bf (nth Bl B0 0) (AZ x8) then
 bif B2 ((List.length x9)+1) 8 then
 self x8 (x9++[(nth x8 (nth Bl B0 0) 0)]) Bl BJ (A7 .i64 B0 1)
 else none
 else none
 else none
 else
 some x9
def Dj.l2:Nat->Dj.A2
 | 0=>λ _ _ _ _ _=>none
 | n+1=>Dj.S2 (Dj.l2 n)
def Dj.S1 (j2:Dj.A2):Dj.A1:=λ x6 x7=>
 j2 x7 [] x6 (AZ x6) 0
def Dj.t1:Nat->Dj.A1
 | 0=>λ _ _=>none
 | n+1=>Dj.S1 (Dj.l2 n)
def Dj.S0 (BH:Dj.A1) (self:Dj.A0):Dj.A0:=λ x1 x2 x3 x4 x5=>
 bif A8 x5 x4 then
 bif Bf x5 (AZ x3) then
 bif BL (nth x3 x5 (0,0,eB)).1 0 then
 bif B2 ((List.length x2)+1) 8 then
 self x1 (x2++[x5]) x3 x4 (A7 .i64 x5 1)
 else none
 else
 self x1 x2 x3 x4 (A7 .i64 x5 1)
 else none
 else
 BH x1 x2
def Dj.l0 (BH:Dj.A1):Nat->Dj.A0
 | 0=>λ _ _ _ _ _=>none
 | n+1=>Dj.S0 BH (Dj.l0 BH n)
def Dj.S (j0:Dj.A0) (l:CD) (found:Bc):Option (Bc):=
 j0 found [] l (AZ l) 0
def Dj (l:CD) (found:Bc):Option (Bc):=Dj.S (Dj.l0 (Dj.t1 fu) fu) l found
abbrev C0.A0:=Bc->Cn->Int->Int->Ho->Jz->Option KE
abbrev C0.A1:=Bc->Ho->Jz->Option KE
abbrev C0.A2:=Bc->Int->Int->Ho->Jz->Option KE
def C0.S2 (self:C0.A2):C0.A2:=λ B0 BS B3 Cy Ct=>
 bif A8 B3 BS then
 bif Bf B3 (AZ B0) then
 bif Bf (nth B0 B3 0) (AZ Cy) then
 bif List.getD Cy (Int.toNat (nth B0 B3 0)) false then
 (GL Ct B3 (A7 .i64 B3 1)).bind λ Dt=>
 self B0 BS (A7 .i64 B3 1) Cy Dt
 else
 self B0 BS (A7 .i64 B3 1) Cy Ct
 else none
 else none
 else
 some Ct
def C0.l2:Nat->C0.A2
 | 0=>λ _ _ _ _ _=>none
 | n+1=>C0.S2 (C0.l2 n)
def C0.S1 (j2:C0.A2):C0.A1:=λ x9 Bl BJ=>
 j2 x9 (AZ x9) 0 Bl BJ
def C0.t1:Nat->C0.A1
 | 0=>λ _ _ _=>none
 | n+1=>C0.S1 (C0.l2 n)
def C0.S0 (BH:C0.A1) (self:C0.A0):C0.A0:=λ x2 x3 x4 x5 x6 x7=>
 bif A8 x5 x4 then
 bif Bf x5 (AZ x3) then
 (Sr x7.1 (2,0,(nth x3 x5 eB))).bind λ x8=>
 bif Bf x5 (AZ x6) then
 self x2 x3 x4 (A7 .i64 x5 1) (List.set x6 (Int.toNat x5) x8) x7
 else none
 else none
 else
 BH x2 x6 x7
def C0.l0 (BH:C0.A1):Nat->C0.A0
 | 0=>λ _ _ _ _ _ _=>none
 | n+1=>C0.S0 BH (C0.l0 BH n)
def C0.S (j0:C0.A0) (f:Jz) (xn:Int):Option KE:=
 (PI f.2.1 xn).bind λ x1=>
 bif (BC 0 (AZ x1.1)) && (B2 (Int.toNat (AZ x1.1)) 1) then
 j0 x1.2.1 x1.1 (AZ x1.1) 0 (List.replicate (Int.toNat (AZ x1.1)) false) f
 else none
def C0 (f:Jz) (xn:Int):Option KE:=C0.S (C0.l0 (C0.t1 fu) fu) f xn
abbrev JS.A0:=Int->Vt->Bc->Int->Int->Option Int
abbrev JT.A0:=Int->Int->Option Oj
abbrev Fe.A0:=Int->Int->Bc->Int->Int->Jz->Option KE
def Fe.S0 (self:Fe.A0):Fe.A0:=λ x4 x5 x6 x7 x8 x9=>
 bif A8 x8 x7 then
 bif Bf x8 (AZ x6) then
 bif BC x4 (nth x6 x8 0) then
 bif A8 (nth x6 x8 0) x5 then
 (GL x9 x8 (A7 .i64 x8 1)).bind λ Bl=>
 self x4 x5 x6 x7 (A7 .i64 x8 1) Bl
 else
 self x4 x5 x6 x7 (A7 .i64 x8 1) x9
 else
 self x4 x5 x6 x7 (A7 .i64 x8 1) x9
 else none
 else
 some x9
def Fe.l0:Nat->Fe.A0
 | 0=>λ _ _ _ _ _ _=>none
 | n+1=>Fe.S0 (Fe.l0 n)
def Fe.S (j0:Fe.A0) (f:Jz) (xn:Int):Option KE:=
 (QZ f.2.1 xn).bind λ x1=>
 (aP x1.1).bind λ x2=>
 (JT f.1 x2.1).bind λ x3=>
 j0 x3.1 x3.2 x2.2 (AZ x2.2) 0 f
def Fe (f:Jz) (xn:Int):Option KE:=Fe.S (Fe.l0 fu) f xn
abbrev FB.A0:=Int->CD->Int->Int->Jz->Option KE
def FB.S0 (self:FB.A0):FB.A0:=λ x1 x2 x3 x4 x5=>
 bif A8 x4 x3 then
 bif Bf x4 (AZ x2) then
 bif A9 (nth x2 x4 (0,0,eB)).1 0 then
 self x1 x2 x3 (A7 .i64 x4 1) x5
 else
 (Sr x5.1 (nth x2 x4 (0,0,eB))).bind λ x6=>
 bif x6 then
 (GL x5 x1 (A7 .i64 x1 1)).bind λ x7=>
 self (A7 .i64 x1 1) x2 x3 (A7 .i64 x4 1) x7
 else
 self (A7 .i64 x1 1) x2 x3 (A7 .i64 x4 1) x5
 else none
 else
 some x5
def FB.l0:Nat->FB.A0
 | 0=>λ _ _ _ _ _=>none
 | n+1=>FB.S0 (FB.l0 n)
def FB.S (j0:FB.A0) (f:Jz) (l:CD):Option KE:=
 j0 0 l (AZ l) 0 f
def FB (f:Jz) (l:CD):Option KE:=FB.S (FB.l0 fu) f l
abbrev Cv.A0:=Bc->CD->Int->Int->Lc->Option Nu
abbrev Cv.A1:=Bc->Lc->Option Nu
abbrev Cv.A2:=ByteArray->CD->Vt->Lc->Ol->Option Nu
abbrev Cv.A3:=CD->Lc->Jz->Option Nu
def Cv.S1:Cv.A1:=λ x9 Bl=>
 (Mw x9).bind λ BJ=>
 some BJ
def Cv.t1:Nat->Cv.A1
 | 0=>λ _ _=>none
 | _+1=>Cv.S1
def Cv.S0 (BH:Cv.A1) (self:Cv.A0):Cv.A0:=λ x4 x5 x6 x7 x8=>
 bif A8 x7 x6 then
 bif Bf x7 (AZ x5) then
 bif A9 (nth x5 x7 (0,0,eB)).1 0 then
 bif B2 ((List.length x4)+1) 8 then
 self (x4++[x7]) x5 x6 (A7 .i64 x7 1) x8
 else none
 else
 self x4 x5 x6 (A7 .i64 x7 1) x8
 else none
 else
 BH x4 x8
def Cv.l0 (BH:Cv.A1):Nat->Cv.A0
 | 0=>λ _ _ _ _ _=>none
 | n+1=>Cv.S0 BH (Cv.l0 BH n)
def Cv.S3:Cv.A3:=λ CX C4 DO=>
 (Dj CX DO.2.2).bind λ Dy=>
 (Mw Dy).bind λ Fo=>
 some Fo
def Cv.t3:Nat->Cv.A3
 | 0=>λ _ _ _=>none
 | _+1=>Cv.S3
def Cv.S2 (j3:Cv.A3):Cv.A2:=λ B0 BS B3 Cy Ct=>
 (Ul B0).bind λ Dt=>
 bif A9 Ct.2.1 2 then
 bif A9 Ct.1 1 then
 (GM (B3,Dt.1,[]) (Bt .i64 Ct.2.2.1 Ct.2.2.2)).bind λ DP=>
 j3 BS Cy DP
 else
 bif A9 Ct.2.1 4 then
 bif A9 Ct.1 2 then
 (C0 (B3,Dt.1,[]) (Bt .i64 Ct.2.2.1 Ct.2.2.2)).bind λ FX=>
 j3 BS Cy FX
 else
 bif A9 Ct.2.1 4 then
 bif BL B3.1 2 then
 (Fe (B3,Dt.1,[]) (Bt .i64 Ct.2.2.1 Ct.2.2.2)).bind λ Ht=>
 j3 BS Cy Ht
 else
 (FB (B3,Dt.1,[]) BS).bind λ JI=>
 j3 BS Cy JI
 else
 (FB (B3,Dt.1,[]) BS).bind λ JJ=>
 j3 BS Cy JJ
 else
 bif A9 Ct.2.1 4 then
 bif BL B3.1 2 then
 (Fe (B3,Dt.1,[]) (Bt .i64 Ct.2.2.1 Ct.2.2.2)).bind λ LF=>
 j3 BS Cy LF
 else
 (FB (B3,Dt.1,[]) BS).bind λ MW=>
 j3 BS Cy MW
 else
 (FB (B3,Dt.1,[]) BS).bind λ LG=>
 j3 BS Cy LG
 else
 bif A9 Ct.2.1 4 then
 bif A9 Ct.1 2 then
 (C0 (B3,Dt.1,[]) (Bt .i64 Ct.2.2.1 Ct.2.2.2)).bind λ LH=>
 j3 BS Cy LH
 else
 bif A9 Ct.2.1 4 then
 bif BL B3.1 2 then
 (Fe (B3,Dt.1,[]) (Bt .i64 Ct.2.2.1 Ct.2.2.2)).bind λ x32=>
 j3 BS Cy x32
 else
 (FB (B3,Dt.1,[]) BS).bind λ x33=>
 j3 BS Cy x33
 else
 (FB (B3,Dt.1,[]) BS).bind λ x34=>
 j3 BS Cy x34
 else
 bif A9 Ct.2.1 4 then
 bif BL B3.1 2 then
 (Fe (B3,Dt.1,[]) (Bt .i64 Ct.2.2.1 Ct.2.2.2)).bind λ x35=>
 j3 BS Cy x35
 else
 (FB (B3,Dt.1,[]) BS).bind λ x36=>
 j3 BS Cy x36
 else
 (FB (B3,Dt.1,[]) BS).bind λ x37=>
 j3 BS Cy x37
def Cv.t2:Nat->Cv.A2
 | 0=>λ _ _ _ _ _=>none
 | n+1=>Cv.S2 (Cv.t3 n)
def Cv.S (j0:Cv.A0) (j2:Cv.A2) (s:ByteArray) (t:Vt):Option Nu:=
 bif BL (N3 t) 0 then
 some ((0,[],[],[]),1)
 else
 (LU s).bind λ x2=>
 bif BL x2.2 0 then
 some ((0,[],[],[]),x2.2)
 else
 (I7 s).bind λ x3=>
 bif A9 t.1 7 then
 j0 [] x3.1 (AZ x3.1) 0 (0,[],[],[])
 else
 j2 s x3.1 t (0,[],[],[]) x2.1
def Cv (s:ByteArray) (t:Vt):Option Nu:=Cv.S (Cv.l0 (Cv.t1 fu) fu) (Cv.t2 fu) s t
abbrev Dw.A0:=Int->Int->CD->Int->Int->Option (Int×Int×Int)
abbrev Dw.A1:=Int->Int->Option (Int×Int×Int)
def Dw.S1:Dw.A1:=λ x8 x9=>
 some ((A7 .i64 x8 (B7 .i64 x9 32)),(Cb .i64 x9 4294967295),0)
def Dw.t1:Nat->Dw.A1
 | 0=>λ _ _=>none
 | _+1=>Dw.S1
def Dw.S0 (BH:Dw.A1) (self:Dw.A0):Dw.A0:=λ x3 x4 x5 x6 x7=>
 bif A8 x7 x6 then
 bif Bf x7 (AZ x5) then
 self (A7 .i64 x3 (B7 .i64 (nth x5 x7 (0,0,eB)).2.1 32)) (A7 .i64 x4 (Cb .i64 (nth x5 x7 (0,0,eB)).2.1 4294967295)) x5 x6 (A7 .i64 x7 1)
 else none
 else
 BH x3 x4
def Dw.l0 (BH:Dw.A1):Nat->Dw.A0
 | 0=>λ _ _ _ _ _=>none
 | n+1=>Dw.S0 BH (Dw.l0 BH n)
def Dw.S (j0:Dw.A0) (s:ByteArray) (l:Lc):Option (Int×Int×Int):=
 (Kw s l).bind λ x1=>
 bif BL x1.2 0 then
 some (0,0,x1.2)
 else
 (LU s).bind λ x2=>
 bif BL x2.1.1 1 then
 some (0,0,1)
 else
 j0 0 0 x1.1 (AZ x1.1) 0
def Dw (s:ByteArray) (l:Lc):Option (Int×Int×Int):=Dw.S (Dw.l0 (Dw.t1 fu) fu) s l
def OH (l:Lc):Option (Fk):=
 bif A9 l.1 2 then
 (Wq l.2.2.1).bind λ x1=>
 some x1.1
 else
 bif A9 l.1 3 then
 (SM l.2.2.2).bind λ x2=>
 some x2.1
 else
 (Oa 16 l.2.1).bind λ x3=>
 some x3
abbrev JU.A0:=Fk->Fk->Int->Option Bool
def JU.S0 (self:JU.A0):JU.A0:=λ x1 x2 x3=>
 bif A8 x3 (AZ x1) then
 bif Bf x3 (AZ x1) then
 bif Bf x3 (AZ x2) then
 bif !((A9 (nth x1 x3 (0,0)).1 (nth x2 x3 (0,0)).1) && (A9 (nth x1 x3 (0,0)).2 (nth x2 x3 (0,0)).2)) then
 some false
 else
 self x1 x2 (A7 .i64 x3 1)
 else none
 else none
 else
 some true
def JU.l0:Nat->JU.A0
 | 0=>λ _ _ _=>none
 | n+1=>JU.S0 (JU.l0 n)
def JU.S (j0:JU.A0) (a b:Fk):Option Bool:=
 bif BL (AZ a) (AZ b) then
 some false
 else
 j0 a b 0
def JU (a b:Fk):Option Bool:=JU.S (JU.l0 fu) a b
def NY:Option Bool:=
 (LW [(KV 7),(0,0,eB),(KV 9)] 1 4).bind λ x3=>
 (Cv x3.1 (6,(KV 8))).bind λ x5=>
 (Kw x3.1 x5.1).bind λ x6=>
 (Dw x3.1 x5.1).bind λ x7=>
 bif A9 x3.2 0 then
 bif A9 x5.2 0 then
 (OH x5.1).bind λ x8=>
 (JU x8 [(2,3)]).bind λ x9=>
 bif x9 then
 bif A9 x6.2 0 then
 (JV x6.1 [(KV 9)]).bind λ BJ=>
 bif BJ then
 bif A9 x7.1 0 then
 bif A9 x7.2.1 9 then
 some (A9 x7.2.2 0)
 else
 some false
 else
 some false
 else
 some false
 else
 some false
 else
 some false
 else
 some false
 else
 some false
abbrev Hg.A0:=Fk->Int->Option Bool
def Hg.S0 (self:Hg.A0):Hg.A0:=λ x1 x2=>
 bif A8 x2 (AZ x1) then
 bif Bf x2 (AZ x1) then
 bif A8 (nth x1 x2 (0,0)).1 0 then
 some false
 else
 bif Bf x2 (AZ x1) then
 bif Bf x2 (AZ x1) then
 bif BC (nth x1 x2 (0,0)).2 (nth x1 x2 (0,0)).1 then
 some false
 else
 bif Bf x2 (AZ x1) then
 bif A8 65536 (nth x1 x2 (0,0)).2 then
 some false
 else
 bif A8 0 x2 then
 bif Bf x2 (AZ x1) then
 bif Bf (Bt .i64 x2 1) (AZ x1) then
 bif BC (nth x1 x2 (0,0)).1 (nth x1 (Bt .i64 x2 1) (0,0)).2 then
 some false
 else
 self x1 (A7 .i64 x2 1)
 else none
 else none
 else
 self x1 (A7 .i64 x2 1)
 else none
 else none
 else none
 else none
 else
 some true
def Hg.l0:Nat->Hg.A0
 | 0=>λ _ _=>none
 | n+1=>Hg.S0 (Hg.l0 n)
def Hg.S (j0:Hg.A0) (l:Fk):Option Bool:=
 j0 l 0
def Hg (l:Fk):Option Bool:=Hg.S (Hg.l0 fu) l
def ZV (l:Fk):Option Int:=
 bif A9 (AZ l) 0 then
 some 0
 else
 bif Bf (Bt .i64 (AZ l) 1) (AZ l) then
 some (nth l (Bt .i64 (AZ l) 1) (0,0)).2
 else none
def ZU (l:Fk):Option Bool:=
 bif BC (AZ l) 60 then
 (Hg l).bind λ x1=>
 bif !x1 then
 some true
 else
 (ZV l).bind λ x2=>
 some (BC x2 2048)
 else
 some false
def fT (s:ByteArray) (t:Vt) (Ey:Fk):Option Bool:=
 bif A8 1024 (Bg s) then
 (NY).bind λ x1=>
 some x1
 else
 bif A8 100 (Bg t.2.2.2) then
 (NY).bind λ x2=>
 some x2
 else
 (ZU Ey).bind λ x3=>
 bif !x3 then
 (NY).bind λ x4=>
 some x4
 else
 (Hg Ey).bind λ x5=>
 bif !x5 then
 (NY).bind λ x6=>
 some x6
 else
 (DX Ey).bind λ x7=>
 (Cv s t).bind λ x8=>
 (Kw s x7.1).bind λ x9=>
 (Dw s x7.1).bind λ Bl=>
 (Cu s).bind λ BJ=>
 bif BL BJ.2 0 then
 bif A9 x8.2 5 then
 bif A9 x9.2 5 then
 bif A9 Bl.2.2 5 then
 (NY).bind λ B0=>
 some B0
 else
 some false
 else
 some false
 else
 bif A9 x8.2 1 then
 bif !(PZ t) then
 bif A9 x9.2 5 then
 bif A9 Bl.2.2 5 then
 (NY).bind λ B3=>
 some B3
 else
 some false
 else
 some false
 else
 some false
 else
 some false
 else
 bif R1 (A9 x8.2 0) (PZ t) then
 bif BL x9.2 5 then
 bif BL Bl.2.2 5 then
 (NY).bind λ Ct=>
 some Ct
 else
 some false
 else
 some false
 else
 some false
end Go.AM.Pure
