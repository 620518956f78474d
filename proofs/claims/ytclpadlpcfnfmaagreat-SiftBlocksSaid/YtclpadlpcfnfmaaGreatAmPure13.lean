import Derived.Test.YtclpadlpcfnfmaaGreatAmPrimW
import Derived.Test.YtclpadlpcfnfmaaGreatAmPure06
/- PRINTED by gen/ of this repo: the functions of the seat as pure functions. -/
namespace Go.AM.Pure
open Go.AM
abbrev AT:Type:=List Int
abbrev QL:Type:=Int×Int
abbrev EZ:Type:=List Bool
abbrev Cl:Type:=List ByteArray
abbrev Yj2:Type:=Int×ByteArray
abbrev De:Type:=ByteArray×Int
abbrev CS:Type:=List QL
abbrev D7:Type:=AT×Int
abbrev Zdg:Type:=Int×QL
abbrev Yk2:Type:=ByteArray×AT
abbrev Nb:Type:=Cl×Int
abbrev QK:Type:=Int×Yj2
abbrev LM:Type:=AT×AT
abbrev E9:Type:=List Zdg
abbrev R1:Type:=Int×Zdg
abbrev Mr:Type:=Cl×AT
abbrev Ce:Type:=List QK
abbrev Na:Type:=Int×QK
abbrev QM:Type:=Ce×Int
abbrev R2:Type:=Int×Ce
abbrev Pn:Type:=ByteArray×Ce
abbrev Yl2:Type:=CS×LM
abbrev K7:Type:=Int×Yl2
abbrev IM:Type:=Na×Yk2
abbrev JH:Type:=IM
abbrev Mq:Type:=K7×Int
abbrev DV.A0:=Ce→Int→Option Bool
abbrev DV.A1:=Ce→Int→Int→Option Bool
def DV.S1 (self:DV.A1):DV.A1:=fun x3 x4 x5=>
 bif (AS x5 (AP x3)) then
 bif (AX x5 (AP x3)) then
 bif (!(GD (nth x3 x5 (0,0,eB)))) then
 some false
 else
 bif (AX x5 (AP x3)) then
 bif (By (nth x3 x5 (0,0,eB)).1 0) then
 bif (AX x5 (AP x3)) then
 bif (By (nth x3 x5 (0,0,eB)).1 x4) then
 some false
 else
 self x3 x4 (AQ .i64 x5 1)
 else none
 else
 self x3 x4 (AQ .i64 x5 1)
 else none
 else none
 else
 some true
def DV.l1:Nat→DV.A1
 | 0=>fun _ _ _=>none
 | n+1=>DV.S1 (DV.l1 n)
def DV.S0 (j1:DV.A1):DV.A0:=fun x1 x2=>
 j1 x1 x2 0
def DV.t0:Nat→DV.A0
 | 0=>fun _ _=>none
 | n+1=>DV.S0 (DV.l1 n)
def DV.S (j0:DV.A0) (l:Ce) (kind:Int):Option Bool:=
 bif (AS (AP l) 1) then
 some false
 else
 bif (AS 64 (AP l)) then
 some false
 else
 bif (By kind 1) then
 bif (By kind 2) then
 some false
 else
 j0 l kind
 else
 j0 l kind
def DV (l:Ce) (kind:Int):Option Bool:=DV.S (DV.t0 fu) l kind
abbrev F5.A0:=Int→Int→EZ→EZ→Option (EZ)
abbrev FX.A0:=Int→EZ→Option Int
def FX.S0 (self:FX.A0):FX.A0:=fun x2 x3=>
 bif (Bq 0 x2) then
 bif ((AX x2 64) && (decide (64=(List.length x3)))) then
 bif (List.getD x3 (Int.toNat x2) false) then
 some (AQ .i64 x2 1)
 else
 self (Be .i64 x2 1) x3
 else none
 else
 some 0
def FX.l0:Nat→FX.A0
 | 0=>fun _ _=>none
 | n+1=>FX.S0 (FX.l0 n)
def FX.S (j0:FX.A0) (word:Int):Option Int:=
 ((F5 word)).bind fun x1=>
 j0 63 x1
def FX (word:Int):Option Int:=FX.S (FX.l0 fu) word
abbrev FJ.A0:=AT→Int→Int→Option Int
def FJ.S0 (self:FJ.A0):FJ.A0:=fun x1 x2 x3=>
 bif (AS x3 (AP x1)) then
 bif (AX x3 (AP x1)) then
 ((FX (nth x1 x3 0))).bind fun x4=>
 self x1 (EM x2 x4) (AQ .i64 x3 1)
 else none
 else
 some x2
def FJ.l0:Nat→FJ.A0
 | 0=>fun _ _ _=>none
 | n+1=>FJ.S0 (FJ.l0 n)
def FJ.S (j0:FJ.A0) (l:AT):Option Int:=
 j0 l 0 0
def FJ (l:AT):Option Int:=FJ.S (FJ.l0 fu) l
def PY (xn width:Int):Int:=
 bif (AS xn 1) then
 0
 else
 bif (AS 65536 xn) then
 0
 else
 bif (AS width 1) then
 0
 else
 bif (AS 64 width) then
 0
 else
 (FE .i64 (AQ .i64 (Cj .i64 xn width) 7) 8)
def PY.o (xn width:Int):Option Int:=
 bif (AS xn 1) then
 some 0
 else
 bif (AS 65536 xn) then
 some 0
 else
 bif (AS width 1) then
 some 0
 else
 bif (AS 64 width) then
 some 0
 else
 some (FE .i64 (AQ .i64 (Cj .i64 xn width) 7) 8)
abbrev CQ.A0:=AT→Int→Int→AT→Option De
abbrev CQ.A1:=AT→Int→Int→Int→AT→Option De
def CQ.S1 (Cd:CQ.A0) (self:CQ.A1):CQ.A1:=fun x7 x8 x9 Bc BB=>
 bif (AS Bc x8) then
 bif (AX x9 (AP x7)) then
 bif (Bq 0 Bc) then
 bif (AR (BL .i64 (BH .i64 (nth x7 x9 0) Bc) 1) 1) then
 bif (AX (FE .i64 (AQ .i64 (Cj .i64 x9 x8) Bc) 8) (AP BB)) then
 bif (Bq 0 (Po (AQ .i64 (Cj .i64 x9 x8) Bc) 8)) then
 bif (AX (FE .i64 (AQ .i64 (Cj .i64 x9 x8) Bc) 8) (AP BB)) then
 self x7 x8 x9 (AQ .i64 Bc 1) (List.set BB (Int.toNat (FE .i64 (AQ .i64 (Cj .i64 x9 x8) Bc) 8)) (EI .u8 (List.getD BB (Int.toNat (FE .i64 (AQ .i64 (Cj .i64 x9 x8) Bc) 8)) 0) (Er .u8 1 (Po (AQ .i64 (Cj .i64 x9 x8) Bc) 8))))
 else none
 else none
 else none
 else
 self x7 x8 x9 (AQ .i64 Bc 1) BB
 else none
 else none
 else
 Cd x7 x8 (AQ .i64 x9 1) BB
def CQ.l1 (Cd:CQ.A0):Nat→CQ.A1
 | 0=>fun _ _ _ _ _=>none
 | n+1=>CQ.S1 Cd (CQ.l1 Cd n)
def CQ.S0 (j1:CQ.A1):CQ.A0:=fun x3 x4 x5 x6=>
 bif (AS x5 (AP x3)) then
 j1 x3 x4 x5 0 x6
 else
 some ((ofBytes x6),0)
def CQ.l0:Nat→CQ.A0
 | 0=>fun _ _ _ _=>none
 | n+1=>CQ.S0 (CQ.l1 (CQ.l0 n) n)
def CQ.S (j0:CQ.A0) (l:AT) (width:Int):Option De:=
 bif (AS width 0) then
 some (eB,1)
 else
 bif (AS 64 width) then
 some (eB,1)
 else
 bif (AS 65536 (AP l)) then
 some (eB,1)
 else
 ((FJ l)).bind fun x1=>
 bif (AS width x1) then
 some (eB,1)
 else
 let x2:=(PY (AP l) width)
 bif ((Bq 0 x2) && (BM (Int.toNat x2) 1)) then
 j0 l width 0 (List.replicate (Int.toNat x2) (0:Int))
 else none
def CQ (l:AT) (width:Int):Option De:=CQ.S (CQ.l0 fu) l width
abbrev DG.A0:=Ce→Ce→AT→Int→Option Pn
abbrev DG.A1:=Ce→Ce→AT→Option Pn
def DG.S1:DG.A1:=fun x5 x6 x7=>
 bif (AR (AP x6) (AP x5)) then
 some (eB,x6)
 else
 ((CQ x7 1)).bind fun x8=>
 some (x8.1,x6)
def DG.t1:Nat→DG.A1
 | 0=>fun _ _ _=>none
 | _+1=>DG.S1
def DG.S0 (BI:DG.A1) (self:DG.A0):DG.A0:=fun x1 x2 x3 x4=>
 bif (AS x4 (AP x1)) then
 bif (AX x4 (AP x1)) then
 bif (AR (nth x1 x4 (0,0,eB)).1 0) then
 bif (BM ((List.length x3)+1) 8) then
 self x1 x2 (x3++[1]) (AQ .i64 x4 1)
 else none
 else
 bif (BM ((List.length x3)+1) 8) then
 bif (AX x4 (AP x1)) then
 bif (BM ((List.length x2)+1) 32) then
 self x1 (x2++[(nth x1 x4 (0,0,eB))]) (x3++[0]) (AQ .i64 x4 1)
 else none
 else none
 else none
 else none
 else
 BI x1 x2 x3
def DG.l0 (BI:DG.A1):Nat→DG.A0
 | 0=>fun _ _ _ _=>none
 | n+1=>DG.S0 BI (DG.l0 BI n)
def DG.S (j0:DG.A0) (l:Ce):Option Pn:=
 j0 l [] [] 0
def DG (l:Ce):Option Pn:=DG.S (DG.l0 (DG.t1 fu) fu) l
abbrev GC.A0:=Ce→AT→Int→Option (AT)
def GC.S0 (self:GC.A0):GC.A0:=fun x1 x2 x3=>
 bif (AS x3 (AP x1)) then
 bif (AX x3 (AP x1)) then
 bif (BM ((List.length x2)+1) 8) then
 self x1 (x2++[(nth x1 x3 (0,0,eB)).2.1]) (AQ .i64 x3 1)
 else none
 else none
 else
 some x2
def GC.l0:Nat→GC.A0
 | 0=>fun _ _ _=>none
 | n+1=>GC.S0 (GC.l0 n)
def GC.S (j0:GC.A0) (l:Ce):Option (AT):=
 j0 l [] 0
def GC (l:Ce):Option (AT):=GC.S (GC.l0 fu) l
abbrev Dg.A0:=AT→AT→Int→Option ByteArray
abbrev Dg.A1:=AT→AT→Int→Int→Option ByteArray
def Dg.S1 (Cd:Dg.A0) (self:Dg.A1):Dg.A1:=fun x4 x5 x6 x7=>
 bif (AS x7 8) then
 bif (AX x6 (AP x4)) then
 bif (Bq 0 (Cj .i64 8 x7)) then
 bif (BM ((List.length x5)+1) 1) then
 self x4 (x5++[(IntKind.wrap .u8 (BL .i64 (BH .i64 (nth x4 x6 0) (Cj .i64 8 x7)) 255))]) x6 (AQ .i64 x7 1)
 else none
 else none
 else none
 else
 Cd x4 x5 (AQ .i64 x6 1)
def Dg.l1 (Cd:Dg.A0):Nat→Dg.A1
 | 0=>fun _ _ _ _=>none
 | n+1=>Dg.S1 Cd (Dg.l1 Cd n)
def Dg.S0 (j1:Dg.A1):Dg.A0:=fun x1 x2 x3=>
 bif (AS x3 (AP x1)) then
 j1 x1 x2 x3 0
 else
 some (ofBytes x2)
def Dg.l0:Nat→Dg.A0
 | 0=>fun _ _ _=>none
 | n+1=>Dg.S0 (Dg.l1 (Dg.l0 n) n)
def Dg.S (j0:Dg.A0) (l:AT):Option ByteArray:=
 j0 l [] 0
def Dg (l:AT):Option ByteArray:=Dg.S (Dg.l0 fu) l
abbrev F6.A0:=AT→Int→E9→Option (E9)
def F6.S0 (self:F6.A0):F6.A0:=fun x1 x2 x3=>
 bif (AS x2 (AP x1)) then
 bif (Bq (AP x1) 65536) then
 bif (AS 0 x2) then
 bif (AX x2 (AP x1)) then
 bif (AX (Be .i64 x2 1) (AP x1)) then
 bif (AR (nth x1 x2 0) (nth x1 (Be .i64 x2 1) 0)) then
 bif (AX (Be .i64 (AP x3) 1) (AP x3)) then
 bif (AX (Be .i64 (AP x3) 1) (AP x3)) then
 self x1 (AQ .i64 x2 1) (List.set x3 (Int.toNat (Be .i64 (AP x3) 1)) ((List.getD x3 (Int.toNat (Be .i64 (AP x3) 1)) (0,0,0)).1,(List.getD x3 (Int.toNat (Be .i64 (AP x3) 1)) (0,0,0)).2.1,(AQ .i64 (List.getD x3 (Int.toNat (Be .i64 (AP x3) 1)) (0,0,0)).2.2 1)))
 else none
 else none
 else
 bif (AX x2 (AP x1)) then
 bif (BM ((List.length x3)+1) 24) then
 self x1 (AQ .i64 x2 1) (x3++[((nth x1 x2 0),x2,1)])
 else none
 else none
 else none
 else none
 else
 bif (AX x2 (AP x1)) then
 bif (BM ((List.length x3)+1) 24) then
 self x1 (AQ .i64 x2 1) (x3++[((nth x1 x2 0),x2,1)])
 else none
 else none
 else
 some x3
 else
 some x3
def F6.l0:Nat→F6.A0
 | 0=>fun _ _ _=>none
 | n+1=>F6.S0 (F6.l0 n)
def F6.S (j0:F6.A0) (l:AT):Option (E9):=
 j0 l 0 []
def F6 (l:AT):Option (E9):=F6.S (F6.l0 fu) l
abbrev GF.A0:=E9→Int→Int→Option Bool
def GF.S0 (self:GF.A0):GF.A0:=fun x1 x2 x3=>
 bif (AS x3 (AP x1)) then
 bif (AX x3 (AP x1)) then
 bif (By (nth x1 x3 (0,0,0)).2.1 x2) then
 some false
 else
 bif (AX x3 (AP x1)) then
 bif (AS (nth x1 x3 (0,0,0)).2.2 1) then
 some false
 else
 bif (AX x3 (AP x1)) then
 bif (AS (Be .i64 65536 x2) (nth x1 x3 (0,0,0)).2.2) then
 some false
 else
 bif (AS 0 x3) then
 bif (AX x3 (AP x1)) then
 bif (AX (Be .i64 x3 1) (AP x1)) then
 bif (AR (nth x1 x3 (0,0,0)).1 (nth x1 (Be .i64 x3 1) (0,0,0)).1) then
 some false
 else
 bif (AX x3 (AP x1)) then
 self x1 (AQ .i64 x2 (nth x1 x3 (0,0,0)).2.2) (AQ .i64 x3 1)
 else none
 else none
 else none
 else
 bif (AX x3 (AP x1)) then
 self x1 (AQ .i64 x2 (nth x1 x3 (0,0,0)).2.2) (AQ .i64 x3 1)
 else none
 else none
 else none
 else none
 else
 some true
def GF.l0:Nat→GF.A0
 | 0=>fun _ _ _=>none
 | n+1=>GF.S0 (GF.l0 n)
def GF.S (j0:GF.A0) (l:E9):Option Bool:=
 j0 l 0 0
def GF (l:E9):Option Bool:=GF.S (GF.l0 fu) l
abbrev En.A0:=Int→Int→EZ→Option Int
abbrev GH.A0:=Int→EZ→EZ→Option Int
abbrev FK.A0:=Int→Int→Int→EZ→EZ→Option Int
abbrev E5.A0:=Int→AT→Option ByteArray
abbrev Fy.A0:=E9→ByteArray→Int→Option De
def Fy.S0 (self:Fy.A0):Fy.A0:=fun x2 x3 x4=>
 bif (AS x4 (AP x2)) then
 bif (AX x4 (AP x2)) then
 ((E5 (nth x2 x4 (0,0,0)).1)).bind fun x5=>
 bif (CH x3 x5) then
 bif (AX x4 (AP x2)) then
 ((E5 (nth x2 x4 (0,0,0)).2.2)).bind fun x6=>
 bif (CH (Dr x3 x5) x6) then
 self x2 (Dr (Dr x3 x5) x6) (AQ .i64 x4 1)
 else none
 else none
 else none
 else none
 else
 some (x3,0)
def Fy.l0:Nat→Fy.A0
 | 0=>fun _ _ _=>none
 | n+1=>Fy.S0 (Fy.l0 n)
def Fy.S (j0:Fy.A0) (l:E9):Option De:=
 ((GF l)).bind fun x1=>
 bif (!x1) then
 some (eB,1)
 else
 j0 l eB 0
def Fy (l:E9):Option De:=Fy.S (Fy.l0 fu) l
abbrev GA.A0:=AT→AT→Int→Option (AT)
def GA.S0 (self:GA.A0):GA.A0:=fun x1 x2 x3=>
 bif (AS x3 (AP x1)) then
 bif (AX x3 (AP x1)) then
 bif (AX (Be .i64 x3 1) (AP x1)) then
 bif (BM ((List.length x2)+1) 8) then
 self x1 (x2++[(Be .i64 (nth x1 x3 0) (nth x1 (Be .i64 x3 1) 0))]) (AQ .i64 x3 1)
 else none
 else none
 else none
 else
 some x2
def GA.l0:Nat→GA.A0
 | 0=>fun _ _ _=>none
 | n+1=>GA.S0 (GA.l0 n)
def GA.S (j0:GA.A0) (l:AT):Option (AT):=
 j0 l [] 1
def GA (l:AT):Option (AT):=GA.S (GA.l0 fu) l
abbrev FL.A0:=AT→Int→Int→Option Int
def FL.S0 (self:FL.A0):FL.A0:=fun x1 x2 x3=>
 bif (AS x3 (AP x1)) then
 bif (AX x3 (AP x1)) then
 self x1 (DP x2 (nth x1 x3 0)) (AQ .i64 x3 1)
 else none
 else
 some x2
def FL.l0:Nat→FL.A0
 | 0=>fun _ _ _=>none
 | n+1=>FL.S0 (FL.l0 n)
def FL.S (j0:FL.A0) (l:AT):Option Int:=
 bif (AX 0 (AP l)) then
 j0 l (nth l 0 0) 1
 else none
def FL (l:AT):Option Int:=FL.S (FL.l0 fu) l
abbrev Dl.A0:=ByteArray→AT→Int→AT→Int→Option De
abbrev Dl.A1:=ByteArray→Int→AT→Option De
def Dl.S1:Dl.A1:=fun x9 Bc BB=>
 ((FJ BB)).bind fun BQ=>
 ((CQ BB BQ)).bind fun BC=>
 ((E5 Bc)).bind fun BS=>
 bif (CH x9 BS) then
 bif (CH (Dr x9 BS) (ofBytes [(IntKind.wrap .u8 BQ)])) then
 bif (CH (Dr (Dr x9 BS) (ofBytes [(IntKind.wrap .u8 BQ)])) BC.1) then
 some ((Dr (Dr (Dr x9 BS) (ofBytes [(IntKind.wrap .u8 BQ)])) BC.1),0)
 else none
 else none
 else none
def Dl.t1:Nat→Dl.A1
 | 0=>fun _ _ _=>none
 | _+1=>Dl.S1
def Dl.S0 (BI:Dl.A1) (self:Dl.A0):Dl.A0:=fun x4 x5 x6 x7 x8=>
 bif (AS x8 (AP x5)) then
 bif (AX x8 (AP x5)) then
 bif (BM ((List.length x7)+1) 8) then
 self x4 x5 x6 (x7++[(Be .i64 (nth x5 x8 0) x6)]) (AQ .i64 x8 1)
 else none
 else none
 else
 BI x4 x6 x7
def Dl.l0 (BI:Dl.A1):Nat→Dl.A0
 | 0=>fun _ _ _ _ _=>none
 | n+1=>Dl.S0 BI (Dl.l0 BI n)
def Dl.S (j0:Dl.A0) (l:AT):Option De:=
 bif (AS 65536 (AP l)) then
 some (eB,1)
 else
 bif (AR (AP l) 0) then
 some (eB,0)
 else
 bif (AX 0 (AP l)) then
 ((E5 (nth l 0 0))).bind fun x1=>
 bif (AR (AP l) 1) then
 some (x1,0)
 else
 ((GA l)).bind fun x2=>
 ((FL x2)).bind fun x3=>
 j0 x1 x2 x3 [] 0
 else none
def Dl (l:AT):Option De:=Dl.S (Dl.l0 (Dl.t1 fu) fu) l
abbrev Bn.A0:=AT→AT→AT→Int→Option LM
abbrev Bn.A1:=AT→AT→AT→Int→Int→Option LM
abbrev Bn.A2:=AT→AT→AT→Int→Int→Option LM
abbrev Bn.A3:=AT→AT→AT→Int→Int→Option LM
abbrev Bn.A4:=AT→AT→AT→Option LM
abbrev Bn.A5:=AT→AT→AT→Int→Option LM
abbrev Bn.A6:=AT→AT→AT→Int→Int→Option LM
def Bn.S6 (Pp:Bn.A5) (self:Bn.A6):Bn.A6:=fun IX KC LY KD KE=>
 bif (AX KE (AP KC)) then
 bif (AX KD (AP IX)) then
 bif (By (nth KC KE 0) (nth IX KD 0)) then
 self IX KC LY KD (AQ .i64 KE 1)
 else
 bif (BM ((List.length LY)+1) 8) then
 Pp IX KC (LY++[KE]) (AQ .i64 KD 1)
 else none
 else none
 else none
def Bn.l6 (Pp:Bn.A5):Nat→Bn.A6
 | 0=>fun _ _ _ _ _=>none
 | n+1=>Bn.S6 Pp (Bn.l6 Pp n)
def Bn.S5 (j6:Bn.A6):Bn.A5:=fun Hn IU IV IW=>
 bif (AS IW (AP Hn)) then
 j6 Hn IU IV IW 0
 else
 some (IU,IV)
def Bn.l5:Nat→Bn.A5
 | 0=>fun _ _ _ _=>none
 | n+1=>Bn.S5 (Bn.l6 (Bn.l5 n) n)
def Bn.S4 (j5:Bn.A5):Bn.A4:=fun DJ Ef EN=>
 j5 DJ Ef EN 0
def Bn.t4:Nat→Bn.A4
 | 0=>fun _ _ _=>none
 | n+1=>Bn.S4 (Bn.l5 n)
def Bn.S3 (Cd:Bn.A0):Bn.A3:=fun Ck B6 Di DZ CW=>
 bif (CU 0 CW (AP B6)) then
 bif (BM (0+(List.length (List.take (Int.toNat CW) B6))) 8) then
 bif (AX DZ (AP Ck)) then
 bif (BM ((List.length (List.take (Int.toNat CW) B6))+1) 8) then
 bif (CU CW (AP B6) (AP B6)) then
 bif (BM ((List.length ((List.take (Int.toNat CW) B6)++[(nth Ck DZ 0)]))+(List.length (List.drop (Int.toNat CW) B6))) 8) then
 Cd Ck (((List.take (Int.toNat CW) B6)++[(nth Ck DZ 0)])++(List.drop (Int.toNat CW) B6)) Di (AQ .i64 DZ 1)
 else none
 else none
 else none
 else none
 else none
 else none
def Bn.t3 (Cd:Bn.A0):Nat→Bn.A3
 | 0=>fun _ _ _ _ _=>none
 | _+1=>Bn.S3 Cd
def Bn.S2 (Cd:Bn.A0) (j3:Bn.A3):Bn.A2:=fun Bc BB BQ BC BS=>
 bif (AS BS (AP BB)) then
 bif (AX BS (AP BB)) then
 bif (AX BC (AP Bc)) then
 bif (AR (nth BB BS 0) (nth Bc BC 0)) then
 Cd Bc BB BQ (AQ .i64 BC 1)
 else
 j3 Bc BB BQ BC BS
 else none
 else none
 else
 j3 Bc BB BQ BC BS
def Bn.t2 (Cd:Bn.A0):Nat→Bn.A2
 | 0=>fun _ _ _ _ _=>none
 | n+1=>Bn.S2 Cd (Bn.t3 Cd n)
def Bn.S1 (Kc:Bn.A2) (self:Bn.A1):Bn.A1:=fun x5 x6 x7 x8 x9=>
 bif (AS x9 (AP x6)) then
 bif (AX x9 (AP x6)) then
 bif (AX x8 (AP x5)) then
 bif (AS (nth x6 x9 0) (nth x5 x8 0)) then
 self x5 x6 x7 x8 (AQ .i64 x9 1)
 else
 Kc x5 x6 x7 x8 x9
 else none
 else none
 else
 Kc x5 x6 x7 x8 x9
def Bn.l1 (Kc:Bn.A2):Nat→Bn.A1
 | 0=>fun _ _ _ _ _=>none
 | n+1=>Bn.S1 Kc (Bn.l1 Kc n)
def Bn.S0 (Pq:Bn.A4) (j1:Bn.A1):Bn.A0:=fun x1 x2 x3 x4=>
 bif (AS x4 (AP x1)) then
 j1 x1 x2 x3 x4 0
 else
 Pq x1 x2 x3
def Bn.l0 (Pq:Bn.A4):Nat→Bn.A0
 | 0=>fun _ _ _ _=>none
 | n+1=>Bn.S0 Pq (Bn.l1 (Bn.t2 (Bn.l0 Pq n) n) n)
def Bn.S (j0:Bn.A0) (l:AT):Option LM:=
 j0 l [] [] 0
def Bn (l:AT):Option LM:=Bn.S (Bn.l0 (Bn.t4 fu) fu) l
def UH (places:AT):Option ByteArray:=
 ((FJ places)).bind fun x1=>
 ((CQ places x1)).bind fun x2=>
 some x2.1
abbrev DA.A0:=AT→AT→ByteArray→Int→Option De
abbrev DA.A1:=AT→ByteArray→Option De
def DA.S1:DA.A1:=fun x8 x9=>
 ((UH x8)).bind fun Bc=>
 bif (CH x9 Bc) then
 some ((Dr x9 Bc),0)
 else none
def DA.t1:Nat→DA.A1
 | 0=>fun _ _=>none
 | _+1=>DA.S1
def DA.S0 (BI:DA.A1) (self:DA.A0):DA.A0:=fun x3 x4 x5 x6=>
 bif (AS x6 (AP x3)) then
 bif (AX x6 (AP x3)) then
 ((E5 (nth x3 x6 0))).bind fun x7=>
 bif (CH x5 x7) then
 self x3 x4 (Dr x5 x7) (AQ .i64 x6 1)
 else none
 else none
 else
 BI x4 x5
def DA.l0 (BI:DA.A1):Nat→DA.A0
 | 0=>fun _ _ _ _=>none
 | n+1=>DA.S0 BI (DA.l0 BI n)
def DA.S (j0:DA.A0) (l:AT):Option De:=
 bif (AS 65536 (AP l)) then
 some (eB,1)
 else
 bif (AR (AP l) 0) then
 some (eB,0)
 else
 ((Bn l)).bind fun x1=>
 ((E5 (AP x1.1))).bind fun x2=>
 j0 x1.1 x1.2 x2 0
def DA (l:AT):Option De:=DA.S (DA.l0 (DA.t1 fu) fu) l
def X2 (l:AT) (code:Int):Option (ByteArray×Bool):=
 bif (AR code 1) then
 ((Dg l)).bind fun x1=>
 some (x1,true)
 else
 bif (AR code 2) then
 ((F6 l)).bind fun x2=>
 ((Fy x2)).bind fun x3=>
 some (x3.1,(AR x3.2 0))
 else
 bif (AR code 3) then
 ((Dl l)).bind fun x4=>
 some (x4.1,(AR x4.2 0))
 else
 bif (AR code 4) then
 ((DA l)).bind fun x5=>
 some (x5.1,(AR x5.2 0))
 else
 bif (AR code 5) then
 ((FJ l)).bind fun x6=>
 ((CQ l x6)).bind fun x7=>
 bif (CH (ofBytes [(IntKind.wrap .u8 x6)]) x7.1) then
 some ((Dr (ofBytes [(IntKind.wrap .u8 x6)]) x7.1),(AR x7.2 0))
 else none
 else
 some (eB,false)
abbrev GB.A0:=Ce→Cl→Int→Option (Cl)
def GB.S0 (self:GB.A0):GB.A0:=fun x1 x2 x3=>
 bif (AS x3 (AP x1)) then
 bif (AX x3 (AP x1)) then
 bif (BM ((List.length x2)+1) 16) then
 self x1 (x2++[(nth x1 x3 (0,0,eB)).2.2]) (AQ .i64 x3 1)
 else none
 else none
 else
 some x2
def GB.l0:Nat→GB.A0
 | 0=>fun _ _ _=>none
 | n+1=>GB.S0 (GB.l0 n)
def GB.S (j0:GB.A0) (l:Ce):Option (Cl):=
 j0 l [] 0
def GB (l:Ce):Option (Cl):=GB.S (GB.l0 fu) l
abbrev FV.A0:=Cl→AT→Int→Option De
def FV.S0 (self:FV.A0):FV.A0:=fun x1 x2 x3=>
 bif (AS x3 (AP x1)) then
 bif (AX x3 (AP x1)) then
 bif (AS 32 (Bh (nth x1 x3 eB))) then
 some (eB,1)
 else
 bif (AX x3 (AP x1)) then
 bif (BM ((List.length x2)+1) 1) then
 bif (AX x3 (AP x1)) then
 bif (BM ((List.length (x2++[(IntKind.wrap .u8 (Bh (nth x1 x3 eB)))]))+(ByteArray.size (nth x1 x3 eB))) 1) then
 self x1 ((x2++[(IntKind.wrap .u8 (Bh (nth x1 x3 eB)))])++(Bi (nth x1 x3 eB))) (AQ .i64 x3 1)
 else none
 else none
 else none
 else none
 else none
 else
 some ((ofBytes x2),0)
def FV.l0:Nat→FV.A0
 | 0=>fun _ _ _=>none
 | n+1=>FV.S0 (FV.l0 n)
def FV.S (j0:FV.A0) (l:Cl):Option De:=
 j0 l [] 0
def FV (l:Cl):Option De:=FV.S (FV.l0 fu) l
abbrev Bm.A0:=Cl→Cl→AT→Int→Option Mr
abbrev Bm.A1:=Cl→Cl→AT→Int→Int→Option Mr
abbrev Bm.A2:=Cl→Cl→AT→Int→Int→Option Mr
abbrev Bm.A3:=Cl→Cl→AT→Int→Int→Option Mr
abbrev Bm.A4:=Cl→Cl→AT→Option Mr
abbrev Bm.A5:=Cl→Cl→AT→Int→Option Mr
abbrev Bm.A6:=Cl→Cl→AT→Int→Int→Option Mr
def Bm.S6 (Pp:Bm.A5) (self:Bm.A6):Bm.A6:=fun IX KC LY KD KE=>
 bif (AX KE (AP KC)) then
 bif (AX KD (AP IX)) then
 bif (!(Cn (nth KC KE eB) (nth IX KD eB))) then
 self IX KC LY KD (AQ .i64 KE 1)
 else
 bif (BM ((List.length LY)+1) 8) then
 Pp IX KC (LY++[KE]) (AQ .i64 KD 1)
 else none
 else none
 else none
def Bm.l6 (Pp:Bm.A5):Nat→Bm.A6
 | 0=>fun _ _ _ _ _=>none
 | n+1=>Bm.S6 Pp (Bm.l6 Pp n)
def Bm.S5 (j6:Bm.A6):Bm.A5:=fun Hn IU IV IW=>
 bif (AS IW (AP Hn)) then
 j6 Hn IU IV IW 0
 else
 some (IU,IV)
def Bm.l5:Nat→Bm.A5
 | 0=>fun _ _ _ _=>none
 | n+1=>Bm.S5 (Bm.l6 (Bm.l5 n) n)
def Bm.S4 (j5:Bm.A5):Bm.A4:=fun DJ Ef EN=>
 j5 DJ Ef EN 0
def Bm.t4:Nat→Bm.A4
 | 0=>fun _ _ _=>none
 | n+1=>Bm.S4 (Bm.l5 n)
def Bm.S3 (Cd:Bm.A0):Bm.A3:=fun Ck B6 Di DZ CW=>
 bif (CU 0 CW (AP B6)) then
 bif (BM (0+(List.length (List.take (Int.toNat CW) B6))) 16) then
 bif (AX DZ (AP Ck)) then
 bif (BM ((List.length (List.take (Int.toNat CW) B6))+1) 16) then
 bif (CU CW (AP B6) (AP B6)) then
 bif (BM ((List.length ((List.take (Int.toNat CW) B6)++[(nth Ck DZ eB)]))+(List.length (List.drop (Int.toNat CW) B6))) 16) then
 Cd Ck (((List.take (Int.toNat CW) B6)++[(nth Ck DZ eB)])++(List.drop (Int.toNat CW) B6)) Di (AQ .i64 DZ 1)
 else none
 else none
 else none
 else none
 else none
 else none
def Bm.t3 (Cd:Bm.A0):Nat→Bm.A3
 | 0=>fun _ _ _ _ _=>none
 | _+1=>Bm.S3 Cd
def Bm.S2 (Cd:Bm.A0) (j3:Bm.A3):Bm.A2:=fun Bc BB BQ BC BS=>
 bif (AS BS (AP BB)) then
 bif (AX BS (AP BB)) then
 bif (AX BC (AP Bc)) then
 bif (Cn (nth BB BS eB) (nth Bc BC eB)) then
 Cd Bc BB BQ (AQ .i64 BC 1)
 else
 j3 Bc BB BQ BC BS
 else none
 else none
 else
 j3 Bc BB BQ BC BS
def Bm.t2 (Cd:Bm.A0):Nat→Bm.A2
 | 0=>fun _ _ _ _ _=>none
 | n+1=>Bm.S2 Cd (Bm.t3 Cd n)
def Bm.S1 (Kc:Bm.A2) (self:Bm.A1):Bm.A1:=fun x5 x6 x7 x8 x9=>
 bif (AS x9 (AP x6)) then
 bif (AX x9 (AP x6)) then
 bif (AX x8 (AP x5)) then
 bif (IY (nth x6 x9 eB) (nth x5 x8 eB)) then
 self x5 x6 x7 x8 (AQ .i64 x9 1)
 else
 Kc x5 x6 x7 x8 x9
 else none
 else none
 else
 Kc x5 x6 x7 x8 x9
def Bm.l1 (Kc:Bm.A2):Nat→Bm.A1
 | 0=>fun _ _ _ _ _=>none
 | n+1=>Bm.S1 Kc (Bm.l1 Kc n)
def Bm.S0 (Pq:Bm.A4) (j1:Bm.A1):Bm.A0:=fun x1 x2 x3 x4=>
 bif (AS x4 (AP x1)) then
 j1 x1 x2 x3 x4 0
 else
 Pq x1 x2 x3
def Bm.l0 (Pq:Bm.A4):Nat→Bm.A0
 | 0=>fun _ _ _ _=>none
 | n+1=>Bm.S0 Pq (Bm.l1 (Bm.t2 (Bm.l0 Pq n) n) n)
def Bm.S (j0:Bm.A0) (l:Cl):Option Mr:=
 j0 l [] [] 0
def Bm (l:Cl):Option Mr:=Bm.S (Bm.l0 (Bm.t4 fu) fu) l
def XW (l:Cl):Option De:=
 bif (AS 65536 (AP l)) then
 some (eB,1)
 else
 bif (AR (AP l) 0) then
 some (eB,0)
 else
 ((Bm l)).bind fun x1=>
 ((FV x1.1)).bind fun x2=>
 bif (By x2.2 0) then
 some (eB,x2.2)
 else
 ((E5 (AP x1.1))).bind fun x3=>
 bif (CH x3 x2.1) then
 ((UH x1.2)).bind fun x4=>
 bif (CH (Dr x3 x2.1) x4) then
 some ((Dr (Dr x3 x2.1) x4),0)
 else none
 else none
def Yg (l:Cl) (code:Int):Option (ByteArray×Bool):=
 bif (AR code 1) then
 ((FV l)).bind fun x1=>
 some (x1.1,(AR x1.2 0))
 else
 bif (AR code 2) then
 bif (AS 0 (AP l)) then
 ((Bm l)).bind fun x2=>
 ((FV x2.1)).bind fun x3=>
 ((F6 x2.2)).bind fun x4=>
 ((Fy x4)).bind fun x5=>
 ((E5 (AP x2.1))).bind fun x6=>
 bif (CH x6 x3.1) then
 bif (CH (Dr x6 x3.1) x5.1) then
 some ((Dr (Dr x6 x3.1) x5.1),true)
 else none
 else none
 else
 some (eB,true)
 else
 bif (AR code 4) then
 ((XW l)).bind fun x7=>
 some (x7.1,(AR x7.2 0))
 else
 some (eB,false)
def X9 (l:Ce) (kind code:Int):Option (ByteArray×Bool):=
 bif (AR kind 1) then
 ((GC l)).bind fun x1=>
 ((X2 x1 code)).bind fun x2=>
 some x2
 else
 ((GB l)).bind fun x3=>
 ((Yg x3 code)).bind fun x4=>
 some x4
abbrev C0.A0:=ByteArray→Int→Int→Option Int
abbrev C0.A1:=ByteArray→Int→Int→Int→Option Int
def C0.S1 (Cd:C0.A0) (self:C0.A1):C0.A1:=fun x4 x5 x6 x7=>
 bif (AS x7 8) then
 bif (AX x6 (Bh x4)) then
 bif (Bq 0 x7) then
 bif (By (BL .i64 x5 1) (BL .i64 (BH .i64 (IntKind.wrap .i64 (byteAt x4 x6)) x7) 1)) then
 self x4 (Fq .i64 (BH .i64 x5 1) 2197175160) x6 (AQ .i64 x7 1)
 else
 self x4 (BH .i64 x5 1) x6 (AQ .i64 x7 1)
 else none
 else none
 else
 Cd x4 x5 (AQ .i64 x6 1)
def C0.l1 (Cd:C0.A0):Nat→C0.A1
 | 0=>fun _ _ _ _=>none
 | n+1=>C0.S1 Cd (C0.l1 Cd n)
def C0.S0 (j1:C0.A1):C0.A0:=fun x1 x2 x3=>
 bif (AS x3 (Bh x1)) then
 j1 x1 x2 x3 0
 else
 some (Fq .i64 x2 4294967295)
def C0.l0:Nat→C0.A0
 | 0=>fun _ _ _=>none
 | n+1=>C0.S0 (C0.l1 (C0.l0 n) n)
def C0.S (j0:C0.A0) (sum:Int) (s:ByteArray):Option Int:=
 j0 s (Fq .i64 (BL .i64 sum 4294967295) 4294967295) 0
def C0 (sum:Int) (s:ByteArray):Option Int:=C0.S (C0.l0 fu) sum s
def Yw (s:ByteArray):Option Int:=
 ((C0 0 s)).bind fun x1=>
 some x1
def UR (s:ByteArray):Option ByteArray:=
 ((Yw s)).bind fun x1=>
 bif (CH s (ofBytes [(IntKind.wrap .u8 (BL .i64 x1 255)),(IntKind.wrap .u8 (BL .i64 (BH .i64 x1 8) 255)),(IntKind.wrap .u8 (BL .i64 (BH .i64 x1 16) 255)),(IntKind.wrap .u8 (BL .i64 (BH .i64 x1 24) 255))])) then
 some (Dr s (ofBytes [(IntKind.wrap .u8 (BL .i64 x1 255)),(IntKind.wrap .u8 (BL .i64 (BH .i64 x1 8) 255)),(IntKind.wrap .u8 (BL .i64 (BH .i64 x1 16) 255)),(IntKind.wrap .u8 (BL .i64 (BH .i64 x1 24) 255))]))
 else none
def L9 (l:Ce) (kind code:Int):Option De:=
 ((DV l kind)).bind fun x1=>
 bif (!x1) then
 some (eB,1)
 else
 ((DG l)).bind fun x2=>
 ((X9 x2.2 kind code)).bind fun x3=>
 bif (!x3.2) then
 some (eB,1)
 else
 bif (CH (ofBytes [(IntKind.wrap .u8 kind),(IntKind.wrap .u8 code),(IntKind.wrap .u8 (AP l)),(IntKind.wrap .u8 (Bh x2.1))]) x2.1) then
 bif (CH (Dr (ofBytes [(IntKind.wrap .u8 kind),(IntKind.wrap .u8 code),(IntKind.wrap .u8 (AP l)),(IntKind.wrap .u8 (Bh x2.1))]) x2.1) x3.1) then
 ((UR (Dr (Dr (ofBytes [(IntKind.wrap .u8 kind),(IntKind.wrap .u8 code),(IntKind.wrap .u8 (AP l)),(IntKind.wrap .u8 (Bh x2.1))]) x2.1) x3.1))).bind fun x4=>
 some (x4,0)
 else none
 else none
abbrev C1.A0:=ByteArray→Int→Int→Int→Option Int
abbrev C1.A1:=ByteArray→Int→Int→Int→Int→Option Int
def C1.S1 (Cd:C1.A0) (self:C1.A1):C1.A1:=fun x5 x6 x7 x8 x9=>
 bif (AS x9 8) then
 self x5 (Fq .u32 (BH .u32 x6 1) (BL .u32 2197175160 (Be .u32 0 (BL .u32 x6 1)))) x7 x8 (AQ .i64 x9 1)
 else
 Cd x5 x6 x7 (AQ .i64 x8 1)
def C1.l1 (Cd:C1.A0):Nat→C1.A1
 | 0=>fun _ _ _ _ _=>none
 | n+1=>C1.S1 Cd (C1.l1 Cd n)
def C1.S0 (j1:C1.A1):C1.A0:=fun x1 x2 x3 x4=>
 bif (AS x4 x3) then
 bif (AX x4 (Bh x1)) then
 j1 x1 (Fq .u32 x2 (IntKind.wrap .u32 (byteAt x1 x4))) x3 x4 0
 else none
 else
 some (IntKind.wrap .i64 (Fq .u32 4294967295 x2))
def C1.l0:Nat→C1.A0
 | 0=>fun _ _ _ _=>none
 | n+1=>C1.S0 (C1.l1 (C1.l0 n) n)
def C1.S (j0:C1.A0) (sum:Int) (s:ByteArray):Option Int:=
 j0 s (Fq .u32 4294967295 (IntKind.wrap .u32 sum)) (Bh s) 0
def C1 (sum:Int) (s:ByteArray):Option Int:=C1.S (C1.l0 fu) sum s
def Yx (s:ByteArray):Option Int:=
 ((C1 0 s)).bind fun x1=>
 some x1
abbrev EW.A0:=Int→AT→Int→Option ByteArray
def EW.S0 (self:EW.A0):EW.A0:=fun x2 x3 x4=>
 bif (AS x4 4) then
 bif (Bq 0 (Cj .i64 8 x4)) then
 bif (BM ((List.length x3)+1) 1) then
 self x2 (x3++[(IntKind.wrap .u8 (BH .u32 x2 (Cj .i64 8 x4)))]) (AQ .i64 x4 1)
 else none
 else none
 else
 some (ofBytes x3)
def EW.l0:Nat→EW.A0
 | 0=>fun _ _ _=>none
 | n+1=>EW.S0 (EW.l0 n)
def EW.S (j0:EW.A0) (s:ByteArray):Option ByteArray:=
 ((Yx s)).bind fun x1=>
 bif ((Bq 0 (AQ .i64 (Bh s) 4)) && (BM (Int.toNat (AQ .i64 (Bh s) 4)) 1)) then
 bif (BM (0+(ByteArray.size s)) 1) then
 j0 (IntKind.wrap .u32 x1) (Bi s) 0
 else none
 else none
def EW (s:ByteArray):Option ByteArray:=EW.S (EW.l0 fu) s
def Yp (s:ByteArray):Option De:=
 bif (AS (Be .i64 (Bh s) 4) 0) then
 some (eB,5)
 else
 bif (CU 0 (Be .i64 (Bh s) 4) (Bh s)) then
 ((EW (cutS s 0 (Be .i64 (Bh s) 4)))).bind fun x1=>
 bif (!(Cn x1 s)) then
 some (eB,5)
 else
 bif (CU 0 (Be .i64 (Bh s) 4) (Bh s)) then
 some ((cutS s 0 (Be .i64 (Bh s) 4)),0)
 else none
 else none
def OG (xn width:Int):Int:=
 bif (AS xn 1) then
 0
 else
 bif (AS 65536 xn) then
 0
 else
 bif (AS width 1) then
 0
 else
 bif (AS 64 width) then
 0
 else
 (BH .i64 (AQ .i64 (Cj .i64 xn width) 7) 3)
def OG.o (xn width:Int):Option Int:=
 bif (AS xn 1) then
 some 0
 else
 bif (AS 65536 xn) then
 some 0
 else
 bif (AS width 1) then
 some 0
 else
 bif (AS 64 width) then
 some 0
 else
 some (BH .i64 (AQ .i64 (Cj .i64 xn width) 7) 3)
def ON (w:Int):Option Int:=
 bif (Bq w 0) then
 some 0
 else
 bif (Bq 64 w) then
 some (-1)
 else
 bif (Bq 0 w) then
 some (IntKind.wrap .i64 (Be .u64 (Er .u64 1 w) 1))
 else none
abbrev Gl.A0:=ByteArray→Int→Int→Int→Int→Option Int
def Gl.S0 (self:Gl.A0):Gl.A0:=fun x1 x2 x3 x4 x5=>
 bif (AS x5 x2) then
 bif (AX (BH .i64 x4 3) (Bh x1)) then
 bif (Bq 0 (BL .i64 x4 7)) then
 ((ON (DP (Be .i64 8 (BL .i64 x4 7)) (Be .i64 x2 x5)))).bind fun x6=>
 bif (Bq 0 x5) then
 self x1 x2 (EI .u64 x3 (Er .u64 (BL .u64 (BH .u64 (IntKind.wrap .u64 (byteAt x1 (BH .i64 x4 3))) (BL .i64 x4 7)) (IntKind.wrap .u64 x6)) x5)) (AQ .i64 x4 (DP (Be .i64 8 (BL .i64 x4 7)) (Be .i64 x2 x5))) (AQ .i64 x5 (DP (Be .i64 8 (BL .i64 x4 7)) (Be .i64 x2 x5)))
 else none
 else none
 else none
 else
 some (IntKind.wrap .i64 x3)
def Gl.l0:Nat→Gl.A0
 | 0=>fun _ _ _ _ _=>none
 | n+1=>Gl.S0 (Gl.l0 n)
def Gl.S (j0:Gl.A0) (s:ByteArray) (xk width:Int):Option Int:=
 j0 s width 0 (Cj .i64 xk width) 0
def Gl (s:ByteArray) (xk width:Int):Option Int:=Gl.S (Gl.l0 fu) s xk width
abbrev Dd.A0:=ByteArray→Int→Int→Option D7
abbrev Dd.A1:=ByteArray→Int→Int→Int→AT→Option D7
def Dd.S1 (self:Dd.A1):Dd.A1:=fun x5 x6 x7 x8 x9=>
 bif (AS x8 x7) then
 ((Gl x5 x8 x6)).bind fun Bc=>
 bif (AX x8 (AP x9)) then
 self x5 x6 x7 (AQ .i64 x8 1) (List.set x9 (Int.toNat x8) Bc)
 else none
 else
 some (x9,0)
def Dd.l1:Nat→Dd.A1
 | 0=>fun _ _ _ _ _=>none
 | n+1=>Dd.S1 (Dd.l1 n)
def Dd.S0 (j1:Dd.A1):Dd.A0:=fun x2 x3 x4=>
 bif ((Bq 0 x3) && (BM (Int.toNat x3) 8)) then
 j1 x2 x4 x3 0 (List.replicate (Int.toNat x3) (0:Int))
 else none
def Dd.t0:Nat→Dd.A0
 | 0=>fun _ _ _=>none
 | n+1=>Dd.S0 (Dd.l1 n)
def Dd.S (j0:Dd.A0) (s:ByteArray) (xn width:Int):Option D7:=
 bif (AS width 0) then
 some ([],1)
 else
 bif (AS 64 width) then
 some ([],1)
 else
 bif (AS xn 0) then
 some ([],1)
 else
 bif (AS 65536 xn) then
 some ([],1)
 else
 bif (By (Bh s) (OG xn width)) then
 some ([],20)
 else
 bif (AS 0 (BL .i64 (Cj .i64 xn width) 7)) then
 bif (AX (Be .i64 (Bh s) 1) (Bh s)) then
 bif (Bq 0 (BL .i64 (Cj .i64 xn width) 7)) then
 bif (AS 0 (BH .u8 (byteAt s (Be .i64 (Bh s) 1)) (BL .i64 (Cj .i64 xn width) 7))) then
 some ([],20)
 else
 j0 s xn width
 else none
 else none
 else
 j0 s xn width
def Dd (s:ByteArray) (xn width:Int):Option D7:=Dd.S (Dd.t0 fu) s xn width
abbrev Gx.A0:=AT→Int→Int→Int→Option Int
def Gx.S0 (self:Gx.A0):Gx.A0:=fun x1 x2 x3 x4=>
 bif (AS x4 x3) then
 bif (AX x4 (AP x1)) then
 bif (AR x2 (nth x1 x4 0)) then
 some x4
 else
 self x1 x2 x3 (AQ .i64 x4 1)
 else none
 else
 some (-1)
def Gx.l0:Nat→Gx.A0
 | 0=>fun _ _ _ _=>none
 | n+1=>Gx.S0 (Gx.l0 n)
def Gx.S (j0:Gx.A0) (s:AT) (v:Int):Option Int:=
 j0 s v (AP s) 0
def Gx (s:AT) (v:Int):Option Int:=Gx.S (Gx.l0 fu) s v
def XQ (s:AT) (v:Int):Option Bool:=
 ((Gx s v)).bind fun x1=>
 some (Bq 0 x1)
def US (s:ByteArray) (xn:Int):Option D7:=
 bif (AS xn 0) then
 some ([],1)
 else
 bif (AS 65536 xn) then
 some ([],1)
 else
 bif (Cn s eB) then
 bif ((Bq 0 xn) && (BM (Int.toNat xn) 8)) then
 some ((List.replicate (Int.toNat xn) (0:Int)),0)
 else none
 else
 ((Dd s xn 1)).bind fun x1=>
 bif (By x1.2 0) then
 some ([],20)
 else
 ((XQ x1.1 1)).bind fun x2=>
 bif (!x2) then
 some ([],20)
 else
 some (x1.1,0)
abbrev Fv.A0:=Int→Int→AT→Int→Int→Option QL
def Fv.S0 (self:Fv.A0):Fv.A0:=fun x2 x3 x4 x5 x6=>
 bif (AS x6 x5) then
 bif (AX x6 (AP x4)) then
 self x2 (AQ .i64 x3 (nth x4 x6 0)) x4 x5 (AQ .i64 x6 1)
 else none
 else
 some (x3,x2)
def Fv.l0:Nat→Fv.A0
 | 0=>fun _ _ _ _ _=>none
 | n+1=>Fv.S0 (Fv.l0 n)
def Fv.S (j0:Fv.A0) (s:ByteArray) (xn:Int):Option QL:=
 ((US s xn)).bind fun x1=>
 j0 x1.2 0 x1.1 (AP x1.1) 0
def Fv (s:ByteArray) (xn:Int):Option QL:=Fv.S (Fv.l0 fu) s xn
abbrev CX.A0:=ByteArray→Int→Int→AT→Option D7
abbrev CX.A1:=ByteArray→Int→Int→Int→Int→Int→AT→Option D7
def CX.S1 (Cd:CX.A0) (self:CX.A1):CX.A1:=fun x5 x6 x7 x8 x9 Bc BB=>
 bif (AS Bc 8) then
 bif (AX (AQ .i64 (Cj .i64 8 x6) Bc) (Bh x5)) then
 bif (Bq 0 (Cj .i64 8 Bc)) then
 self x5 x6 (EI .u64 x7 (Er .u64 (IntKind.wrap .u64 (byteAt x5 (AQ .i64 (Cj .i64 8 x6) Bc))) (Cj .i64 8 Bc))) x8 x9 (AQ .i64 Bc 1) BB
 else none
 else none
 else
 bif (AX x6 (AP BB)) then
 Cd x5 x8 (AQ .i64 x9 1) (List.set BB (Int.toNat x6) (IntKind.wrap .i64 x7))
 else none
def CX.l1 (Cd:CX.A0):Nat→CX.A1
 | 0=>fun _ _ _ _ _ _ _=>none
 | n+1=>CX.S1 Cd (CX.l1 Cd n)
def CX.S0 (j1:CX.A1):CX.A0:=fun x1 x2 x3 x4=>
 bif (AS x3 x2) then
 j1 x1 x3 0 x2 x3 0 x4
 else
 some (x4,0)
def CX.l0:Nat→CX.A0
 | 0=>fun _ _ _ _=>none
 | n+1=>CX.S0 (CX.l1 (CX.l0 n) n)
def CX.S (j0:CX.A0) (s:ByteArray) (xn:Int):Option D7:=
 bif (AS xn 0) then
 some ([],20)
 else
 bif (By (Po (Bh s) 8) 0) then
 some ([],20)
 else
 bif (By xn (FE .i64 (Bh s) 8)) then
 some ([],20)
 else
 bif ((Bq 0 xn) && (BM (Int.toNat xn) 8)) then
 j0 s xn 0 (List.replicate (Int.toNat xn) (0:Int))
 else none
def CX (s:ByteArray) (xn:Int):Option D7:=CX.S (CX.l0 fu) s xn
abbrev E4.A0:=Int→Int→Int→Option Int
abbrev Fz.A0:=ByteArray→Int→Int→Int→Option (Int×Int×Int)
abbrev F4.A0:=E9→Int→E9→Int→Int→Option (Int×Bool)
def F4.S0 (self:F4.A0):F4.A0:=fun x1 x2 x3 x4 x5=>
 bif (AS x5 x4) then
 bif (AX x5 (AP x3)) then
 bif (By (nth x3 x5 (0,0,0)).2.1 x2) then
 some (0,false)
 else
 bif (AS (nth x3 x5 (0,0,0)).2.2 1) then
 some (0,false)
 else
 bif (AS (Be .i64 65536 x2) (nth x3 x5 (0,0,0)).2.2) then
 some (0,false)
 else
 bif (AS 0 x5) then
 bif (AX (Be .i64 x5 1) (AP x1)) then
 bif (AR (nth x3 x5 (0,0,0)).1 (nth x1 (Be .i64 x5 1) (0,0,0)).1) then
 some (0,false)
 else
 self x1 (AQ .i64 x2 (nth x3 x5 (0,0,0)).2.2) x3 x4 (AQ .i64 x5 1)
 else none
 else
 self x1 (AQ .i64 x2 (nth x3 x5 (0,0,0)).2.2) x3 x4 (AQ .i64 x5 1)
 else none
 else
 some (x2,true)
def F4.l0:Nat→F4.A0
 | 0=>fun _ _ _ _ _=>none
 | n+1=>F4.S0 (F4.l0 n)
def F4.S (j0:F4.A0) (l:E9):Option (Int×Bool):=
 j0 l 0 l (AP l) 0
def F4 (l:E9):Option (Int×Bool):=F4.S (F4.l0 fu) l
abbrev Dk.A0:=ByteArray→Int→E9→Int→Option (E9×Int)
abbrev Dk.A1:=Int→E9→Int→Option (E9×Int)
def Dk.S1:Dk.A1:=fun x7 x8 x9=>
 ((F4 x8)).bind fun Bc=>
 bif (!Bc.2) then
 some ([],20)
 else
 bif (By x9 x7) then
 some ([],20)
 else
 some (x8,0)
def Dk.t1:Nat→Dk.A1
 | 0=>fun _ _ _=>none
 | _+1=>Dk.S1
def Dk.S0 (BI:Dk.A1) (self:Dk.A0):Dk.A0:=fun x1 x2 x3 x4=>
 bif (!(Cn x1 eB)) then
 ((Fz x1)).bind fun x5=>
 bif (By x5.2.2 0) then
 some ([],20)
 else
 bif (CU x5.2.1 (Bh x1) (Bh x1)) then
 ((Fz (cutS x1 x5.2.1 (Bh x1)))).bind fun x6=>
 bif (By x6.2.2 0) then
 some ([],20)
 else
 bif (AS x6.1 1) then
 some ([],20)
 else
 bif (AS (Be .i64 x2 x4) x6.1) then
 some ([],20)
 else
 bif (BM ((List.length x3)+1) 24) then
 bif (CU (AQ .i64 x5.2.1 x6.2.1) (Bh x1) (Bh x1)) then
 self (cutS x1 (AQ .i64 x5.2.1 x6.2.1) (Bh x1)) x2 (x3++[(x5.1,x4,x6.1)]) (AQ .i64 x4 x6.1)
 else none
 else none
 else none
 else
 BI x2 x3 x4
def Dk.l0 (BI:Dk.A1):Nat→Dk.A0
 | 0=>fun _ _ _ _=>none
 | n+1=>Dk.S0 BI (Dk.l0 BI n)
def Dk.S (j0:Dk.A0) (s:ByteArray) (xn:Int):Option (E9×Int):=
 bif (AS xn 0) then
 some ([],1)
 else
 bif (AS 65536 xn) then
 some ([],1)
 else
 j0 s xn [] 0
def Dk (s:ByteArray) (xn:Int):Option (E9×Int):=Dk.S (Dk.l0 (Dk.t1 fu) fu) s xn
def dp (x y:Int):Int×Int:=
 ((AQ .u64 (AQ .u64 (Cj .u64 (BH .u64 x 32) (BH .u64 y 32)) (BH .u64 (AQ .u64 (Cj .u64 (BH .u64 x 32) (BL .u64 y 4294967295)) (BH .u64 (Cj .u64 (BL .u64 x 4294967295) (BL .u64 y 4294967295)) 32)) 32)) (BH .u64 (AQ .u64 (BL .u64 (AQ .u64 (Cj .u64 (BH .u64 x 32) (BL .u64 y 4294967295)) (BH .u64 (Cj .u64 (BL .u64 x 4294967295) (BL .u64 y 4294967295)) 32)) 4294967295) (Cj .u64 (BL .u64 x 4294967295) (BH .u64 y 32))) 32)),(Cj .u64 x y))
def X3 (x y:Int):Int×Int:=
 (dp x y)
abbrev CN.A0:=AT→Int→Option (AT)
abbrev CN.A1:=AT→Int→Option (AT)
abbrev CN.A2:=Int→AT→Option (AT)
def CN.S2 (self:CN.A2):CN.A2:=fun x6 x7=>
 bif (AS x6 (AP x7)) then
 bif (CU x6 (AP x7) (AP x7)) then
 bif (CU 0 x6 (AP x7)) then
 self (AQ .i64 x6 (((List.length (List.take ((Int.toNat (AP x7))-(Int.toNat x6)) (List.take ((Int.toNat x6)-0) (List.drop 0 x7)))):Nat):Int)) (GN x7 (Int.toNat x6) (List.take ((Int.toNat (AP x7))-(Int.toNat x6)) (List.take ((Int.toNat x6)-0) (List.drop 0 x7))))
 else none
 else none
 else
 some x7
def CN.l2:Nat→CN.A2
 | 0=>fun _ _=>none
 | n+1=>CN.S2 (CN.l2 n)
def CN.S1 (j2:CN.A2):CN.A1:=fun x4 x5=>
 bif ((Bq 0 (IntKind.wrap .i64 x5)) && (BM (Int.toNat (IntKind.wrap .i64 x5)) 8)) then
 j2 (((List.length (List.take (List.length (List.replicate (Int.toNat (IntKind.wrap .i64 x5)) (0:Int))) x4)):Nat):Int) (GN (List.replicate (Int.toNat (IntKind.wrap .i64 x5)) (0:Int)) 0 (List.take (List.length (List.replicate (Int.toNat (IntKind.wrap .i64 x5)) (0:Int))) x4))
 else none
def CN.t1:Nat→CN.A1
 | 0=>fun _ _=>none
 | n+1=>CN.S1 (CN.l2 n)
def CN.S0 (j1:CN.A1):CN.A0:=fun x1 x2=>
 let x3:=(X3 (IntKind.wrap .u64 (AP x1)) (IntKind.wrap .u64 x2))
 bif (AS 0 x3.1) then
 none
 else
 bif (AS 9223372036854775807 x3.2) then
 none
 else
 j1 x1 x3.2
def CN.t0:Nat→CN.A0
 | 0=>fun _ _=>none
 | n+1=>CN.S0 (CN.t1 n)
def CN.S (j0:CN.A0) (x:AT) (count:Int):Option (AT):=
 bif (AS count 0) then
 none
 else
 j0 x count
def CN (x:AT) (count:Int):Option (AT):=CN.S (CN.t0 fu) x count
abbrev FA.A0:=AT→E9→Int→Int→Option D7
def FA.S0 (self:FA.A0):FA.A0:=fun x2 x3 x4 x5=>
 bif (AS x5 x4) then
 bif (AX x5 (AP x3)) then
 ((CN [(nth x3 x5 (0,0,0)).1] (nth x3 x5 (0,0,0)).2.2)).bind fun x6=>
 bif (BM ((List.length x2)+(List.length x6)) 8) then
 self (x2++x6) x3 x4 (AQ .i64 x5 1)
 else none
 else none
 else
 some (x2,0)
def FA.l0:Nat→FA.A0
 | 0=>fun _ _ _ _=>none
 | n+1=>FA.S0 (FA.l0 n)
def FA.S (j0:FA.A0) (l:E9):Option D7:=
 ((F4 l)).bind fun x1=>
 bif (!x1.2) then
 some ([],1)
 else
 bif ((Bq 0 x1.1) && (BM (Int.toNat x1.1) 8)) then
 j0 [] l (AP l) 0
 else none
def FA (l:E9):Option D7:=FA.S (FA.l0 fu) l
def Ox (t0:ByteArray) (t1:Bool):Option (Int×ByteArray×Bool):=
 ((Fz t0)).bind fun x1=>
 bif t1 then
 bif (CU x1.2.1 (Bh t0) (Bh t0)) then
 some (x1.1,(cutS t0 x1.2.1 (Bh t0)),true)
 else none
 else
 bif (CU x1.2.1 (Bh t0) (Bh t0)) then
 some (x1.1,(cutS t0 x1.2.1 (Bh t0)),(By x1.2.2 0))
 else none
def Re (JE xby:Int):Int:=
 (IntKind.wrap .i64 (AQ .u64 (IntKind.wrap .u64 JE) (IntKind.wrap .u64 xby)))
abbrev Dx.A0:=Int→Int→AT→Option ByteArray
abbrev Dx.A1:=Int→Int→AT→Option ByteArray
def U2 (JE Xi:Int):Int:=
 (IntKind.wrap .i64 (Be .u64 (IntKind.wrap .u64 Xi) (IntKind.wrap .u64 JE)))
abbrev DM.A0:=AT→Option Int
abbrev DM.A1:=AT→Int→Int→Option Int
def DM.S1 (self:DM.A1):DM.A1:=fun x2 x3 x4=>
 bif (AS x4 (AP x2)) then
 bif (AX x4 (AP x2)) then
 self x2 (DP x3 (nth x2 x4 0)) (AQ .i64 x4 1)
 else none
 else
 some x3
def DM.l1:Nat→DM.A1
 | 0=>fun _ _ _=>none
 | n+1=>DM.S1 (DM.l1 n)
def DM.S0 (j1:DM.A1):DM.A0:=fun x1=>
 bif (AX 0 (AP x1)) then
 j1 x1 (nth x1 0 0) 1
 else none
def DM.t0:Nat→DM.A0
 | 0=>fun _=>none
 | n+1=>DM.S0 (DM.l1 n)
def DM.S (j0:DM.A0) (x:AT):Option Int:=
 bif (AS (AP x) 1) then
 none
 else
 j0 x
def DM (x:AT):Option Int:=DM.S (DM.t0 fu) x
abbrev Cp.A0:=AT→Int→AT→Option D7
abbrev Cp.A1:=AT→Option D7
abbrev Cp.A2:=Int→Int→Int→AT→Option D7
def Cp.S2 (self:Cp.A2):Cp.A2:=fun x7 x8 x9 Bc=>
 bif (AS x9 x8) then
 bif (AX x9 (AP Bc)) then
 bif (AX x9 (AP Bc)) then
 self x7 x8 (AQ .i64 x9 1) (List.set Bc (Int.toNat x9) (U2 x7 (List.getD Bc (Int.toNat x9) 0)))
 else none
 else none
 else
 some (Bc,x7)
def Cp.l2:Nat→Cp.A2
 | 0=>fun _ _ _ _=>none
 | n+1=>Cp.S2 (Cp.l2 n)
def Cp.S1 (j2:Cp.A2):Cp.A1:=fun x5=>
 ((DM x5)).bind fun x6=>
 j2 x6 (AP x5) 0 x5
def Cp.t1:Nat→Cp.A1
 | 0=>fun _=>none
 | n+1=>Cp.S1 (Cp.l2 n)
def Cp.S0 (BI:Cp.A1) (self:Cp.A0):Cp.A0:=fun x1 x2 x3=>
 bif (AS x2 (AP x1)) then
 bif (AX (Be .i64 x2 1) (AP x1)) then
 bif (AX x2 (AP x1)) then
 bif (BM ((List.length x3)+1) 8) then
 self x1 (AQ .i64 x2 1) (x3++[(U2 (nth x1 (Be .i64 x2 1) 0) (nth x1 x2 0))])
 else none
 else none
 else none
 else
 BI x3
def Cp.l0 (BI:Cp.A1):Nat→Cp.A0
 | 0=>fun _ _ _=>none
 | n+1=>Cp.S0 BI (Cp.l0 BI n)
def Cp.S (j0:Cp.A0) (l:AT):Option D7:=
 bif ((Bq 0 (AP l)) && (BM (Int.toNat (AP l)) 8)) then
 j0 l 1 []
 else none
def Cp (l:AT):Option D7:=Cp.S (Cp.l0 (Cp.t1 fu) fu) l
abbrev D0.A0:=Int→AT→Int→Int→Option Int
def D0.S0 (self:D0.A0):D0.A0:=fun x1 x2 x3 x4=>
 bif (AS x4 x3) then
 bif (AX x4 (AP x2)) then
 self (EI .i64 x1 (nth x2 x4 0)) x2 x3 (AQ .i64 x4 1)
 else none
 else
 ((E4 x1)).bind fun x5=>
 some x5
def D0.l0:Nat→D0.A0
 | 0=>fun _ _ _ _=>none
 | n+1=>D0.S0 (D0.l0 n)
def D0.S (j0:D0.A0) (l:AT):Option Int:=
 j0 0 l (AP l) 0
def D0 (l:AT):Option Int:=D0.S (D0.l0 fu) l
abbrev Ca.A0:=Int→AT→Int→Int→AT→Int→Int→Option De
abbrev Ca.A1:=Int→AT→Int→Int→Int→Int→AT→Int→Int→Option De
abbrev Ca.A2:=AT→Int→Int→Option De
def Ca.S2:Ca.A2:=fun DJ Ef EN=>
 bif (AS 0 EN) then
 bif (BM ((List.length DJ)+1) 1) then
 some ((ofBytes (DJ++[(IntKind.wrap .u8 Ef)])),0)
 else none
 else
 some ((ofBytes DJ),0)
def Ca.t2:Nat→Ca.A2
 | 0=>fun _ _ _=>none
 | _+1=>Ca.S2
def Ca.S1 (Cd:Ca.A0) (self:Ca.A1):Ca.A1:=fun Bc BB BQ BC BS Ck B6 Di DZ=>
 bif (AS 0 Ck) then
 ((ON (DP (Be .i64 8 BC) Ck))).bind fun CW=>
 bif (Bq 0 BC) then
 bif (Bq 0 (DP (Be .i64 8 BC) Ck)) then
 bif (AR (AQ .i64 BC (DP (Be .i64 8 BC) Ck)) 8) then
 bif (BM ((List.length BB)+1) 1) then
 self Bc (BB++[(IntKind.wrap .u8 (EI .u64 BQ (Er .u64 (BL .u64 BS (IntKind.wrap .u64 CW)) BC)))]) 0 0 (BH .u64 BS (DP (Be .i64 8 BC) Ck)) (Be .i64 Ck (DP (Be .i64 8 BC) Ck)) B6 Di DZ
 else none
 else
 self Bc BB (EI .u64 BQ (Er .u64 (BL .u64 BS (IntKind.wrap .u64 CW)) BC)) (AQ .i64 BC (DP (Be .i64 8 BC) Ck)) (BH .u64 BS (DP (Be .i64 8 BC) Ck)) (Be .i64 Ck (DP (Be .i64 8 BC) Ck)) B6 Di DZ
 else none
 else none
 else
 Cd Bc BB BQ BC B6 Di (AQ .i64 DZ 1)
def Ca.l1 (Cd:Ca.A0):Nat→Ca.A1
 | 0=>fun _ _ _ _ _ _ _ _ _=>none
 | n+1=>Ca.S1 Cd (Ca.l1 Cd n)
def Ca.S0 (bT:Ca.A2) (j1:Ca.A1):Ca.A0:=fun x3 x4 x5 x6 x7 x8 x9=>
 bif (AS x9 x8) then
 bif (AX x9 (AP x7)) then
 j1 x3 x4 x5 x6 (IntKind.wrap .u64 (nth x7 x9 0)) x3 x7 x8 x9
 else none
 else
 bT x4 x5 x6
def Ca.l0 (bT:Ca.A2):Nat→Ca.A0
 | 0=>fun _ _ _ _ _ _ _=>none
 | n+1=>Ca.S0 bT (Ca.l1 (Ca.l0 bT n) n)
def Ca.S (j0:Ca.A0) (l:AT) (width:Int):Option De:=
 bif (AS width 0) then
 some (eB,1)
 else
 bif (AS 64 width) then
 some (eB,1)
 else
 bif (AS 65536 (AP l)) then
 some (eB,1)
 else
 ((D0 l)).bind fun x1=>
 bif (AS width x1) then
 some (eB,1)
 else
 let x2:=(OG (AP l) width)
 bif ((Bq 0 (AQ .i64 x2 1)) && (BM (Int.toNat (AQ .i64 x2 1)) 1)) then
 j0 width [] 0 0 l (AP l) 0
 else none
def Ca (l:AT) (width:Int):Option De:=Ca.S (Ca.l0 (Ca.t2 fu) fu) l width
def U3 (l:AT):Option De:=
 bif (AS 65536 (AP l)) then
 some (eB,1)
 else
 bif (AR (AP l) 0) then
 some (eB,0)
 else
 bif (AR (AP l) 1) then
 bif (AX 0 (AP l)) then
 ((Dx (nth l 0 0))).bind fun x1=>
 some (x1,0)
 else none
 else
 ((Cp l)).bind fun x2=>
 ((D0 x2.1)).bind fun x3=>
 ((Ca x2.1 x3)).bind fun x4=>
 bif (AX 0 (AP l)) then
 ((Dx (nth l 0 0))).bind fun x5=>
 ((Dx x2.2)).bind fun x6=>
 bif (CH x5 x6) then
 bif (CH (Dr x5 x6) (ofBytes [(IntKind.wrap .u8 x3)])) then
 bif (CH (Dr (Dr x5 x6) (ofBytes [(IntKind.wrap .u8 x3)])) x4.1) then
 some ((Dr (Dr (Dr x5 x6) (ofBytes [(IntKind.wrap .u8 x3)])) x4.1),x4.2)
 else none
 else none
 else none
 else none
abbrev Ci.A0:=ByteArray→Int→AT→ByteArray→Bool→Option D7
abbrev Ci.A1:=ByteArray→AT→Int→AT→Int→Int→Bool→Option D7
abbrev Ci.A2:=ByteArray→AT→Bool→Option D7
def Ci.S2:Ci.A2:=fun DZ CW DJ=>
 ((U3 CW)).bind fun Ef=>
 bif DJ then
 some ([],20)
 else
 bif (By Ef.2 0) then
 some ([],20)
 else
 bif (!(Cn Ef.1 DZ)) then
 some ([],20)
 else
 some (CW,0)
def Ci.t2:Nat→Ci.A2
 | 0=>fun _ _ _=>none
 | _+1=>Ci.S2
def Ci.S1 (Kc:Ci.A2) (self:Ci.A1):Ci.A1:=fun x9 Bc BB BQ BC BS Ck=>
 bif (AS BS BC) then
 bif (AX BS (AP BQ)) then
 bif (AX (Be .i64 (AP Bc) 1) (AP Bc)) then
 bif (BM ((List.length Bc)+1) 8) then
 self x9 (Bc++[(Re (Re (nth Bc (Be .i64 (AP Bc) 1) 0) BB) (nth BQ BS 0))]) BB BQ BC (AQ .i64 BS 1) Ck
 else none
 else none
 else none
 else
 Kc x9 Bc Ck
def Ci.l1 (Kc:Ci.A2):Nat→Ci.A1
 | 0=>fun _ _ _ _ _ _ _=>none
 | n+1=>Ci.S1 Kc (Ci.l1 Kc n)
def Ci.S0 (j1:Ci.A1) (j2:Ci.A2):Ci.A0:=fun x2 x3 x4 x5 x6=>
 bif (AS 1 x3) then
 ((Ox x5 x6)).bind fun x7=>
 bif x7.2.2 then
 some ([],20)
 else
 bif (Cn x7.2.1 eB) then
 some ([],20)
 else
 bif (CU 1 (Bh x7.2.1) (Bh x7.2.1)) then
 bif (AX 0 (Bh x7.2.1)) then
 ((Dd (cutS x7.2.1 1 (Bh x7.2.1)) (Be .i64 x3 1) (IntKind.wrap .i64 (byteAt x7.2.1 0)))).bind fun x8=>
 bif (By x8.2 0) then
 some ([],20)
 else
 j1 x2 x4 x7.1 x8.1 (AP x8.1) 0 x7.2.2
 else none
 else none
 else
 j2 x2 x4 x6
def Ci.t0:Nat→Ci.A0
 | 0=>fun _ _ _ _ _=>none
 | n+1=>Ci.S0 (Ci.l1 (Ci.t2 n) n) (Ci.t2 n)
def Ci.S (j0:Ci.A0) (s:ByteArray) (xn:Int):Option D7:=
 bif (AS xn 0) then
 some ([],1)
 else
 bif (AS 65536 xn) then
 some ([],1)
 else
 bif (AS 0 xn) then
 ((Ox s false)).bind fun x1=>
 j0 s xn [x1.1] x1.2.1 x1.2.2
 else
 j0 s xn [] s false
def Ci (s:ByteArray) (xn:Int):Option D7:=Ci.S (Ci.t0 fu) s xn
def XU (s:ByteArray):Option QL:=
 ((Fz s)).bind fun x1=>
 bif (By x1.2.2 0) then
 some (0,0)
 else
 some (x1.1,x1.2.1)
abbrev Gg.A0:=EZ→Bool→Int→Int→Option Int
def Gg.S0 (self:Gg.A0):Gg.A0:=fun x1 x2 x3 x4=>
 bif (AS x4 x3) then
 bif (AX x4 (AP x1)) then
 bif (Sh x2 (nth x1 x4 false)) then
 some x4
 else
 self x1 x2 x3 (AQ .i64 x4 1)
 else none
 else
 some (-1)
def Gg.l0:Nat→Gg.A0
 | 0=>fun _ _ _ _=>none
 | n+1=>Gg.S0 (Gg.l0 n)
def Gg.S (j0:Gg.A0) (s:EZ) (v:Bool):Option Int:=
 j0 s v (AP s) 0
def Gg (s:EZ) (v:Bool):Option Int:=Gg.S (Gg.l0 fu) s v
def Q8 (s:EZ) (v:Bool):Option Bool:=
 ((Gg s v)).bind fun x1=>
 some (Bq 0 x1)
abbrev BZ.A0:=ByteArray→Int→Int→Int→AT→Int→Int→Option (AT×AT×Int)
abbrev BZ.A1:=ByteArray→Int→Int→Int→AT→Option (AT×AT×Int)
abbrev BZ.A2:=Int→AT→AT→AT→Int→Int→EZ→Option (AT×AT×Int)
abbrev BZ.A3:=AT→AT→EZ→Option (AT×AT×Int)
def BZ.S3:BZ.A3:=fun IU IV IW=>
 ((Q8 IW false)).bind fun IX=>
 bif IX then
 some ([],[],20)
 else
 some (IU,IV,0)
def BZ.t3:Nat→BZ.A3
 | 0=>fun _ _ _=>none
 | _+1=>BZ.S3
def BZ.S2 (Pr:BZ.A3) (self:BZ.A2):BZ.A2:=fun Di DZ CW DJ Ef EN Hn=>
 bif (AS EN Ef) then
 bif (AX EN (AP DJ)) then
 bif (AS (nth DJ EN 0) 0) then
 some ([],[],20)
 else
 bif (Bq Di (nth DJ EN 0)) then
 some ([],[],20)
 else
 bif (AX (nth DJ EN 0) (AP Hn)) then
 self Di DZ CW DJ Ef (AQ .i64 EN 1) (List.set Hn (Int.toNat (nth DJ EN 0)) true)
 else none
 else none
 else
 Pr DZ CW Hn
def BZ.l2 (Pr:BZ.A3):Nat→BZ.A2
 | 0=>fun _ _ _ _ _ _ _=>none
 | n+1=>BZ.S2 Pr (BZ.l2 Pr n)
def BZ.S1 (j2:BZ.A2):BZ.A1:=fun Bc BB BQ BC BS=>
 bif (CU BC (Bh Bc) (Bh Bc)) then
 ((D0 [(Be .i64 BQ 1)])).bind fun Ck=>
 ((Dd (cutS Bc BC (Bh Bc)) BB Ck)).bind fun B6=>
 bif (By B6.2 0) then
 some ([],[],20)
 else
 bif ((Bq 0 BQ) && (BM (Int.toNat BQ) 1)) then
 j2 BQ BS B6.1 B6.1 (AP B6.1) 0 (List.replicate (Int.toNat BQ) false)
 else none
 else none
def BZ.t1:Nat→BZ.A1
 | 0=>fun _ _ _ _ _=>none
 | n+1=>BZ.S1 (BZ.l2 (BZ.t3 n) n)
def BZ.S0 (BI:BZ.A1) (self:BZ.A0):BZ.A0:=fun x2 x3 x4 x5 x6 x7 x8=>
 bif (AS x8 x7) then
 bif (CU x5 (Bh x2) (Bh x2)) then
 ((XU (cutS x2 x5 (Bh x2)))).bind fun x9=>
 bif (AR x9.2 0) then
 some ([],[],20)
 else
 bif (AS 0 x8) then
 bif (AX (Be .i64 x8 1) (AP x6)) then
 bif (Bq x9.1 (nth x6 (Be .i64 x8 1) 0)) then
 some ([],[],20)
 else
 bif (BM ((List.length x6)+1) 8) then
 self x2 x3 x4 (AQ .i64 x5 x9.2) (x6++[x9.1]) x7 (AQ .i64 x8 1)
 else none
 else none
 else
 bif (BM ((List.length x6)+1) 8) then
 self x2 x3 x4 (AQ .i64 x5 x9.2) (x6++[x9.1]) x7 (AQ .i64 x8 1)
 else none
 else none
 else
 BI x2 x3 x4 x5 x6
def BZ.l0 (BI:BZ.A1):Nat→BZ.A0
 | 0=>fun _ _ _ _ _ _ _=>none
 | n+1=>BZ.S0 BI (BZ.l0 BI n)
def BZ.S (j0:BZ.A0) (s:ByteArray) (xn:Int):Option (AT×AT×Int):=
 bif (AS xn 0) then
 some ([],[],1)
 else
 bif (AS 65536 xn) then
 some ([],[],1)
 else
 bif (AR xn 0) then
 bif (!(Cn s eB)) then
 some ([],[],20)
 else
 some ([],[],0)
 else
 ((Fz s)).bind fun x1=>
 bif (By x1.2.2 0) then
 some ([],[],20)
 else
 bif (AS x1.1 1) then
 some ([],[],20)
 else
 bif (AS xn x1.1) then
 some ([],[],20)
 else
 j0 s xn x1.1 x1.2.1 [] x1.1 0
def BZ (s:ByteArray) (xn:Int):Option (AT×AT×Int):=BZ.S (BZ.l0 (BZ.t1 fu) fu) s xn
abbrev Gz.A0:=AT→AT→AT→Int→Int→Option (AT)
def Gz.S0 (self:Gz.A0):Gz.A0:=fun x1 x2 x3 x4 x5=>
 bif (AS x5 x4) then
 bif (AX x5 (AP x3)) then
 bif (AX (nth x3 x5 0) (AP x1)) then
 bif (BM ((List.length x2)+1) 8) then
 self x1 (x2++[(nth x1 (nth x3 x5 0) 0)]) x3 x4 (AQ .i64 x5 1)
 else none
 else none
 else none
 else
 some x2
def Gz.l0:Nat→Gz.A0
 | 0=>fun _ _ _ _ _=>none
 | n+1=>Gz.S0 (Gz.l0 n)
def Gz.S (j0:Gz.A0) (d places:AT):Option (AT):=
 j0 d [] places (AP places) 0
def Gz (d places:AT):Option (AT):=Gz.S (Gz.l0 fu) d places
def SM (s:ByteArray) (xn:Int):Option D7:=
 ((BZ s xn)).bind fun x1=>
 bif (By x1.2.2 0) then
 some ([],x1.2.2)
 else
 ((Gz x1.1 x1.2.1)).bind fun x2=>
 some (x2,0)
def UT (s:ByteArray) (xn code:Int):Option D7:=
 bif (AR code 1) then
 ((CX s xn)).bind fun x1=>
 some x1
 else
 bif (AR code 2) then
 ((Dk s xn)).bind fun x2=>
 bif (By x2.2 0) then
 some ([],x2.2)
 else
 ((FA x2.1)).bind fun x3=>
 some x3
 else
 bif (AR code 3) then
 ((Ci s xn)).bind fun x4=>
 some x4
 else
 bif (AR code 4) then
 ((SM s xn)).bind fun x5=>
 some x5
 else
 bif (AR code 5) then
 bif (!(Cn s eB)) then
 bif (CU 1 (Bh s) (Bh s)) then
 bif (AX 0 (Bh s)) then
 ((Dd (cutS s 1 (Bh s)) xn (IntKind.wrap .i64 (byteAt s 0)))).bind fun x6=>
 some x6
 else none
 else none
 else
 some ([],5)
 else
 some ([],5)
abbrev DU.A0:=ByteArray→Int→Cl→Option Nb
abbrev DU.A1:=Int→Cl→Option Nb
def DU.S1:DU.A1:=fun x4 x5=>
 bif (By (AP x5) x4) then
 some ([],20)
 else
 some (x5,0)
def DU.t1:Nat→DU.A1
 | 0=>fun _ _=>none
 | _+1=>DU.S1
def DU.S0 (BI:DU.A1) (self:DU.A0):DU.A0:=fun x1 x2 x3=>
 bif (!(Cn x1 eB)) then
 bif (AX 0 (Bh x1)) then
 bif (AS 32 (IntKind.wrap .i64 (byteAt x1 0))) then
 some ([],20)
 else
 bif (Bq (Bh x1) (IntKind.wrap .i64 (byteAt x1 0))) then
 some ([],20)
 else
 bif (CU 1 (AQ .i64 1 (IntKind.wrap .i64 (byteAt x1 0))) (Bh x1)) then
 bif (BM ((List.length x3)+1) 16) then
 bif (CU (AQ .i64 1 (IntKind.wrap .i64 (byteAt x1 0))) (Bh x1) (Bh x1)) then
 self (cutS x1 (AQ .i64 1 (IntKind.wrap .i64 (byteAt x1 0))) (Bh x1)) x2 (x3++[(cutS x1 1 (AQ .i64 1 (IntKind.wrap .i64 (byteAt x1 0))))])
 else none
 else none
 else none
 else none
 else
 BI x2 x3
def DU.l0 (BI:DU.A1):Nat→DU.A0
 | 0=>fun _ _ _=>none
 | n+1=>DU.S0 BI (DU.l0 BI n)
def DU.S (j0:DU.A0) (s:ByteArray) (xn:Int):Option Nb:=
 j0 s xn []
def DU (s:ByteArray) (xn:Int):Option Nb:=DU.S (DU.l0 (DU.t1 fu) fu) s xn
abbrev Cr.A0:=ByteArray→Int→Int→Int→Cl→Int→Int→Option Nb
abbrev Cr.A1:=ByteArray→Int→Int→Int→Cl→Option Nb
abbrev Cr.A2:=Int→Cl→Cl→AT→Int→Int→Option Nb
def Cr.S2 (self:Cr.A2):Cr.A2:=fun B6 Di DZ CW DJ Ef=>
 bif (AS Ef DJ) then
 bif (AX Ef (AP CW)) then
 bif (AS (nth CW Ef 0) 0) then
 some ([],5)
 else
 bif (Bq B6 (nth CW Ef 0)) then
 some ([],5)
 else
 bif (AX (nth CW Ef 0) (AP Di)) then
 bif (BM ((List.length DZ)+1) 16) then
 self B6 Di (DZ++[(nth Di (nth CW Ef 0) eB)]) CW DJ (AQ .i64 Ef 1)
 else none
 else none
 else none
 else
 some (DZ,0)
def Cr.l2:Nat→Cr.A2
 | 0=>fun _ _ _ _ _ _=>none
 | n+1=>Cr.S2 (Cr.l2 n)
def Cr.S1 (j2:Cr.A2):Cr.A1:=fun x9 Bc BB BQ BC=>
 bif (CU BQ (Bh x9) (Bh x9)) then
 ((Dk (cutS x9 BQ (Bh x9)) Bc)).bind fun BS=>
 bif (By BS.2 0) then
 some ([],BS.2)
 else
 ((FA BS.1)).bind fun Ck=>
 bif (By Ck.2 0) then
 some ([],Ck.2)
 else
 j2 BB BC [] Ck.1 (AP Ck.1) 0
 else none
def Cr.t1:Nat→Cr.A1
 | 0=>fun _ _ _ _ _=>none
 | n+1=>Cr.S1 (Cr.l2 n)
def Cr.S0 (BI:Cr.A1) (self:Cr.A0):Cr.A0:=fun x2 x3 x4 x5 x6 x7 x8=>
 bif (AS x8 x7) then
 bif (Bq (Bh x2) x5) then
 some ([],5)
 else
 bif (AX x5 (Bh x2)) then
 bif (Bq (Be .i64 (Bh x2) x5) (IntKind.wrap .i64 (byteAt x2 x5))) then
 some ([],5)
 else
 bif (AX x5 (Bh x2)) then
 bif (CU (AQ .i64 x5 1) (AQ .i64 (AQ .i64 x5 1) (IntKind.wrap .i64 (byteAt x2 x5))) (Bh x2)) then
 bif (BM ((List.length x6)+1) 16) then
 self x2 x3 x4 (AQ .i64 (AQ .i64 x5 1) (IntKind.wrap .i64 (byteAt x2 x5))) (x6++[(cutS x2 (AQ .i64 x5 1) (AQ .i64 (AQ .i64 x5 1) (IntKind.wrap .i64 (byteAt x2 x5))))]) x7 (AQ .i64 x8 1)
 else none
 else none
 else none
 else none
 else
 BI x2 x3 x4 x5 x6
def Cr.l0 (BI:Cr.A1):Nat→Cr.A0
 | 0=>fun _ _ _ _ _ _ _=>none
 | n+1=>Cr.S0 BI (Cr.l0 BI n)
def Cr.S (j0:Cr.A0) (s:ByteArray) (xn:Int):Option Nb:=
 bif (AR xn 0) then
 bif (!(Cn s eB)) then
 some ([],5)
 else
 some ([],0)
 else
 ((Fz s)).bind fun x1=>
 bif (By x1.2.2 0) then
 some ([],5)
 else
 bif (AS x1.1 1) then
 some ([],5)
 else
 bif (AS xn x1.1) then
 some ([],5)
 else
 j0 s xn x1.1 x1.2.1 [] x1.1 0
def Cr (s:ByteArray) (xn:Int):Option Nb:=Cr.S (Cr.l0 (Cr.t1 fu) fu) s xn
def X4 (s:ByteArray):Option De:=
 bif (Cn s eB) then
 some (eB,0)
 else
 bif (AX 0 (Bh s)) then
 bif (AS 32 (IntKind.wrap .i64 (byteAt s 0))) then
 some (eB,0)
 else
 bif (Bq (Bh s) (IntKind.wrap .i64 (byteAt s 0))) then
 some (eB,0)
 else
 bif (CU 1 (AQ .i64 1 (IntKind.wrap .i64 (byteAt s 0))) (Bh s)) then
 some ((cutS s 1 (AQ .i64 1 (IntKind.wrap .i64 (byteAt s 0)))),(AQ .i64 1 (IntKind.wrap .i64 (byteAt s 0))))
 else none
 else none
abbrev BW.A0:=ByteArray→Int→Int→Int→Cl→Int→Int→Option (Cl×AT×Int)
abbrev BW.A1:=ByteArray→Int→Int→Int→Cl→Option (Cl×AT×Int)
abbrev BW.A2:=Int→Cl→AT→AT→Int→Int→EZ→Option (Cl×AT×Int)
abbrev BW.A3:=Cl→AT→EZ→Option (Cl×AT×Int)
def BW.S3:BW.A3:=fun IU IV IW=>
 ((Q8 IW false)).bind fun IX=>
 bif IX then
 some ([],[],20)
 else
 some (IU,IV,0)
def BW.t3:Nat→BW.A3
 | 0=>fun _ _ _=>none
 | _+1=>BW.S3
def BW.S2 (Pr:BW.A3) (self:BW.A2):BW.A2:=fun Di DZ CW DJ Ef EN Hn=>
 bif (AS EN Ef) then
 bif (AX EN (AP DJ)) then
 bif (AS (nth DJ EN 0) 0) then
 some ([],[],20)
 else
 bif (Bq Di (nth DJ EN 0)) then
 some ([],[],20)
 else
 bif (AX (nth DJ EN 0) (AP Hn)) then
 self Di DZ CW DJ Ef (AQ .i64 EN 1) (List.set Hn (Int.toNat (nth DJ EN 0)) true)
 else none
 else none
 else
 Pr DZ CW Hn
def BW.l2 (Pr:BW.A3):Nat→BW.A2
 | 0=>fun _ _ _ _ _ _ _=>none
 | n+1=>BW.S2 Pr (BW.l2 Pr n)
def BW.S1 (j2:BW.A2):BW.A1:=fun Bc BB BQ BC BS=>
 bif (CU BC (Bh Bc) (Bh Bc)) then
 ((D0 [(Be .i64 BQ 1)])).bind fun Ck=>
 ((Dd (cutS Bc BC (Bh Bc)) BB Ck)).bind fun B6=>
 bif (By B6.2 0) then
 some ([],[],20)
 else
 bif ((Bq 0 BQ) && (BM (Int.toNat BQ) 1)) then
 j2 BQ BS B6.1 B6.1 (AP B6.1) 0 (List.replicate (Int.toNat BQ) false)
 else none
 else none
def BW.t1:Nat→BW.A1
 | 0=>fun _ _ _ _ _=>none
 | n+1=>BW.S1 (BW.l2 (BW.t3 n) n)
def BW.S0 (BI:BW.A1) (self:BW.A0):BW.A0:=fun x2 x3 x4 x5 x6 x7 x8=>
 bif (AS x8 x7) then
 bif (CU x5 (Bh x2) (Bh x2)) then
 ((X4 (cutS x2 x5 (Bh x2)))).bind fun x9=>
 bif (AR x9.2 0) then
 some ([],[],20)
 else
 bif (AS 0 x8) then
 bif (AX (Be .i64 x8 1) (AP x6)) then
 bif ((IY x9.1 (nth x6 (Be .i64 x8 1) eB)) || (Cn x9.1 (nth x6 (Be .i64 x8 1) eB))) then
 some ([],[],20)
 else
 bif (BM ((List.length x6)+1) 16) then
 self x2 x3 x4 (AQ .i64 x5 x9.2) (x6++[x9.1]) x7 (AQ .i64 x8 1)
 else none
 else none
 else
 bif (BM ((List.length x6)+1) 16) then
 self x2 x3 x4 (AQ .i64 x5 x9.2) (x6++[x9.1]) x7 (AQ .i64 x8 1)
 else none
 else none
 else
 BI x2 x3 x4 x5 x6
def BW.l0 (BI:BW.A1):Nat→BW.A0
 | 0=>fun _ _ _ _ _ _ _=>none
 | n+1=>BW.S0 BI (BW.l0 BI n)
def BW.S (j0:BW.A0) (s:ByteArray) (xn:Int):Option (Cl×AT×Int):=
 bif (AS xn 0) then
 some ([],[],1)
 else
 bif (AS 65536 xn) then
 some ([],[],1)
 else
 bif (AR xn 0) then
 bif (!(Cn s eB)) then
 some ([],[],20)
 else
 some ([],[],0)
 else
 ((Fz s)).bind fun x1=>
 bif (By x1.2.2 0) then
 some ([],[],20)
 else
 bif (AS x1.1 1) then
 some ([],[],20)
 else
 bif (AS xn x1.1) then
 some ([],[],20)
 else
 j0 s xn x1.1 x1.2.1 [] x1.1 0
def BW (s:ByteArray) (xn:Int):Option (Cl×AT×Int):=BW.S (BW.l0 (BW.t1 fu) fu) s xn
def PX (s:ByteArray) (xn:Int):Option (Cl×AT×Int):=
 ((BW s xn)).bind fun x1=>
 some x1
abbrev Gy.A0:=Cl→Cl→AT→Int→Int→Option (Cl)
def Gy.S0 (self:Gy.A0):Gy.A0:=fun x1 x2 x3 x4 x5=>
 bif (AS x5 x4) then
 bif (AX x5 (AP x3)) then
 bif (AX (nth x3 x5 0) (AP x1)) then
 bif (BM ((List.length x2)+1) 16) then
 self x1 (x2++[(nth x1 (nth x3 x5 0) eB)]) x3 x4 (AQ .i64 x5 1)
 else none
 else none
 else none
 else
 some x2
def Gy.l0:Nat→Gy.A0
 | 0=>fun _ _ _ _ _=>none
 | n+1=>Gy.S0 (Gy.l0 n)
def Gy.S (j0:Gy.A0) (d:Cl) (places:AT):Option (Cl):=
 j0 d [] places (AP places) 0
def Gy (d:Cl) (places:AT):Option (Cl):=Gy.S (Gy.l0 fu) d places
def XX (s:ByteArray) (xn:Int):Option Nb:=
 ((PX s xn)).bind fun x1=>
 bif (By x1.2.2 0) then
 some ([],x1.2.2)
 else
 ((Gy x1.1 x1.2.1)).bind fun x2=>
 some (x2,0)
def UK (s:ByteArray) (xn code:Int):Option Nb:=
 bif (AR code 1) then
 ((DU s xn)).bind fun x1=>
 some x1
 else
 bif (AR code 2) then
 ((Cr s xn)).bind fun x2=>
 some x2
 else
 bif (AR code 4) then
 ((XX s xn)).bind fun x3=>
 some x3
 else
 some ([],5)
abbrev CV.A0:=Ce→Int→AT→Int→Int→R1→Option QM
abbrev CV.A1:=Ce→Int→Cl→Int→Int→R1→Option QM
def CV.S0 (self:CV.A0):CV.A0:=fun x2 x3 x4 x5 x6 x7=>
 bif (AS x6 x5) then
 bif (AX x6 (AP x4)) then
 bif (BM ((List.length x2)+1) 32) then
 self (x2++[(x7.1,(nth x4 x6 0),eB)]) x3 x4 x5 (AQ .i64 x6 1) x7
 else none
 else none
 else
 some (x2,x3)
def CV.l0:Nat→CV.A0
 | 0=>fun _ _ _ _ _ _=>none
 | n+1=>CV.S0 (CV.l0 n)
def CV.S1 (self:CV.A1):CV.A1:=fun x9 Bc BB BQ BC BS=>
 bif (AS BC BQ) then
 bif (AX BC (AP BB)) then
 bif (BM ((List.length x9)+1) 32) then
 self (x9++[(BS.1,0,(nth BB BC eB))]) Bc BB BQ (AQ .i64 BC 1) BS
 else none
 else none
 else
 some (x9,Bc)
def CV.l1:Nat→CV.A1
 | 0=>fun _ _ _ _ _ _=>none
 | n+1=>CV.S1 (CV.l1 n)
def CV.S (j0:CV.A0) (j1:CV.A1) (s:ByteArray) (xn:Int) (h:R1):Option QM:=
 bif (AR h.1 1) then
 ((UT s xn h.2.1)).bind fun x1=>
 j0 [] x1.2 x1.1 (AP x1.1) 0 h
 else
 bif (AR h.1 2) then
 ((UK s xn h.2.1)).bind fun x8=>
 j1 [] x8.2 x8.1 (AP x8.1) 0 h
 else
 some ([],5)
def CV (s:ByteArray) (xn:Int) (h:R1):Option QM:=CV.S (CV.l0 fu) (CV.l1 fu) s xn h
def OH (c:QK):Bool:=
 (AR c.1 0)
abbrev Gw.A0:=Ce→Int→Int→Option Int
def Gw.S0 (self:Gw.A0):Gw.A0:=fun x1 x2 x3=>
 bif (AS x3 x2) then
 bif (AX x3 (AP x1)) then
 bif (OH (nth x1 x3 (0,0,eB))) then
 some x3
 else
 self x1 x2 (AQ .i64 x3 1)
 else none
 else
 some (-1)
def Gw.l0:Nat→Gw.A0
 | 0=>fun _ _ _=>none
 | n+1=>Gw.S0 (Gw.l0 n)
def Gw.S (j0:Gw.A0) (s:Ce):Option Int:=
 j0 s (AP s) 0
def Gw (s:Ce):Option Int:=Gw.S (Gw.l0 fu) s
def XO (s:Ce):Option Bool:=
 ((Gw s)).bind fun x1=>
 some (Bq 0 x1)
abbrev FM.A0:=Ce→AT→Int→Int→Ce→Option QM
def FM.S0 (self:FM.A0):FM.A0:=fun x4 x5 x6 x7 x8=>
 bif (AS x7 x6) then
 bif (AX x7 (AP x5)) then
 bif (AR (nth x5 x7 0) 0) then
 bif (AX 0 (AP x4)) then
 bif (CU 1 (AP x4) (AP x4)) then
 bif (AX x7 (AP x8)) then
 self (List.drop 1 x4) x5 x6 (AQ .i64 x7 1) (List.set x8 (Int.toNat x7) (nth x4 0 (0,0,eB)))
 else none
 else none
 else none
 else
 self x4 x5 x6 (AQ .i64 x7 1) x8
 else none
 else
 some (x8,0)
def FM.l0:Nat→FM.A0
 | 0=>fun _ _ _ _ _=>none
 | n+1=>FM.S0 (FM.l0 n)
def FM.S (j0:FM.A0) (s:ByteArray) (xn:Int) (l:Ce):Option QM:=
 ((US s xn)).bind fun x1=>
 bif (By x1.2 0) then
 some ([],x1.2)
 else
 ((Fv s xn)).bind fun x2=>
 bif (By (AP l) (Be .i64 xn x2.1)) then
 some ([],20)
 else
 ((XO l)).bind fun x3=>
 bif x3 then
 some ([],20)
 else
 bif ((Bq 0 xn) && (BM (Int.toNat xn) 32)) then
 j0 l x1.1 (AP (List.replicate (Int.toNat xn) ((0:Int),((0:Int),eB)))) 0 (List.replicate (Int.toNat xn) ((0:Int),((0:Int),eB)))
 else none
def FM (s:ByteArray) (xn:Int) (l:Ce):Option QM:=FM.S (FM.l0 fu) s xn l
def KL (c:QK) (t1:Int):Bool:=
 bif (By (EJ c) 0) then
 true
 else
 bif (By c.1 0) then
 (By c.1 t1)
 else
 false
def KL.o (c:QK) (t1:Int):Option Bool:=
 bif (By (EJ c) 0) then
 some true
 else
 bif (By c.1 0) then
 some (By c.1 t1)
 else
 some false
abbrev Gv.A0:=Ce→Int→Int→Int→Option Int
def Gv.S0 (self:Gv.A0):Gv.A0:=fun x1 x2 x3 x4=>
 bif (AS x4 x3) then
 bif (AX x4 (AP x1)) then
 bif (KL (nth x1 x4 (0,0,eB)) x2) then
 some x4
 else
 self x1 x2 x3 (AQ .i64 x4 1)
 else none
 else
 some (-1)
def Gv.l0:Nat→Gv.A0
 | 0=>fun _ _ _ _=>none
 | n+1=>Gv.S0 (Gv.l0 n)
def Gv.S (j0:Gv.A0) (s:Ce) (f0:Int):Option Int:=
 j0 s f0 (AP s) 0
def Gv (s:Ce) (f0:Int):Option Int:=Gv.S (Gv.l0 fu) s f0
def UD (s:Ce) (f0:Int):Option Bool:=
 ((Gv s f0)).bind fun x1=>
 some (Bq 0 x1)
def SX (l:Ce) (kind:Int):Option Bool:=
 bif (AS (AP l) 1) then
 some false
 else
 bif (AS 64 (AP l)) then
 some false
 else
 bif (By kind 1) then
 bif (By kind 2) then
 some false
 else
 ((UD l kind)).bind fun x1=>
 some (!x1)
 else
 ((UD l kind)).bind fun x2=>
 some (!x2)
def UF (c:QK):Bool:=
 (OH c)
abbrev Gf.A0:=Int→Int→Ce→Option R2
def Gf.S0 (self:Gf.A0):Gf.A0:=fun x1 x2 x3=>
 bif (AS x2 x1) then
 bif (AX x2 (AP x3)) then
 bif (UF (List.getD x3 (Int.toNat x2) (0,0,eB))) then
 bif (decide (0<(List.length x3))) then
 some (x2,x3)
 else none
 else
 self x1 (AQ .i64 x2 1) x3
 else none
 else
 bif (decide (0<(List.length x3))) then
 some ((-1),x3)
 else none
def Gf.l0:Nat→Gf.A0
 | 0=>fun _ _ _=>none
 | n+1=>Gf.S0 (Gf.l0 n)
def Gf.S (j0:Gf.A0) (s:Ce):Option R2:=
 j0 (AP s) 0 s
def Gf (s:Ce):Option R2:=Gf.S (Gf.l0 fu) s
abbrev DL.A0:=Int→Int→Ce→Option R2
abbrev DL.A1:=Int→Ce→Option R2
def DL.S1:DL.A1:=fun x6 x7=>
 bif (CU x6 (AP x7) (AP x7)) then
 bif (CU 0 x6 (AP (GN x7 (Int.toNat x6) (List.replicate ((Int.toNat (AP x7))-(Int.toNat x6)) ((0:Int),((0:Int),eB)))))) then
 bif (decide (0<(List.length (GN x7 (Int.toNat x6) (List.replicate ((Int.toNat (AP x7))-(Int.toNat x6)) ((0:Int),((0:Int),eB))))))) then
 some (((((Int.toNat x6)-0):Nat):Int),(GN x7 (Int.toNat x6) (List.replicate ((Int.toNat (AP x7))-(Int.toNat x6)) ((0:Int),((0:Int),eB)))))
 else none
 else none
 else none
def DL.t1:Nat→DL.A1
 | 0=>fun _ _=>none
 | _+1=>DL.S1
def DL.S0 (BI:DL.A1) (self:DL.A0):DL.A0:=fun x2 x3 x4=>
 bif (AS x3 (AP x4)) then
 bif (AX x3 (AP x4)) then
 bif (!(UF (List.getD x4 (Int.toNat x3) (0,0,eB)))) then
 bif (AX x2 (AP x4)) then
 self (AQ .i64 x2 1) (AQ .i64 x3 1) (List.set x4 (Int.toNat x2) (List.getD x4 (Int.toNat x3) (0,0,eB)))
 else none
 else
 self x2 (AQ .i64 x3 1) x4
 else none
 else
 BI x2 x4
def DL.l0 (BI:DL.A1):Nat→DL.A0
 | 0=>fun _ _ _=>none
 | n+1=>DL.S0 BI (DL.l0 BI n)
def DL.S (j0:DL.A0) (s:Ce):Option R2:=
 ((OZ ((decide (0<(List.length s))) && true) (Gf s) fun _x=>((decide ((List.length _x.2)=(List.length s))) && true))).bind fun x1=>
 bif (AR x1.1 (-1)) then
 bif (decide (0<(List.length x1.2))) then
 some ((AP x1.2),x1.2)
 else none
 else
 j0 x1.1 (AQ .i64 x1.1 1) x1.2
def DL (s:Ce):Option R2:=DL.S (DL.l0 (DL.t1 fu) fu) s
abbrev DC.A0:=Nat→Nat→Ce→Int→Int→Ce→AT→Option Pn
abbrev DC.A1:=Nat→Nat→Ce→AT→Option Pn
def DC.S1:DC.A1:=fun BB BQ BC BS=>
 ((Ca BS 1)).bind fun Ck=>
 some (Ck.1,(List.take BQ (List.drop BB BC)))
def DC.t1:Nat→DC.A1
 | 0=>fun _ _ _ _=>none
 | _+1=>DC.S1
def DC.S0 (BI:DC.A1) (self:DC.A0):DC.A0:=fun x3 x4 x5 x6 x7 x8 x9=>
 bif (AS x7 x6) then
 bif (AX x7 (AP x5)) then
 bif (OH (nth x5 x7 (0,0,eB))) then
 bif (AX x7 (AP x9)) then
 self x3 x4 x5 x6 (AQ .i64 x7 1) x8 (List.set x9 (Int.toNat x7) 1)
 else none
 else
 self x3 x4 x5 x6 (AQ .i64 x7 1) x8 x9
 else none
 else
 BI x3 x4 x8 x9
def DC.l0 (BI:DC.A1):Nat→DC.A0
 | 0=>fun _ _ _ _ _ _ _=>none
 | n+1=>DC.S0 BI (DC.l0 BI n)
def DC.S (j0:DC.A0) (l:Ce):Option Pn:=
 ((Ko 32 l)).bind fun x1=>
 ((OZ ((decide (0<(List.length x1))) && true) (DL x1) fun _x=>((decide ((List.length _x.2)=(List.length x1))) && true))).bind fun x2=>
 bif (AR (((Int.toNat x2.1):Nat):Int) (AP l)) then
 some (eB,(List.take (Int.toNat x2.1) (List.drop 0 x2.2)))
 else
 bif ((Bq 0 (AP l)) && (BM (Int.toNat (AP l)) 8)) then
 j0 0 (Int.toNat x2.1) l (AP l) 0 x2.2 (List.replicate (Int.toNat (AP l)) (0:Int))
 else none
def DC (l:Ce):Option Pn:=DC.S (DC.l0 (DC.t1 fu) fu) l
abbrev CZ.A0:=AT→AT→Int→Int→Option ByteArray
abbrev CZ.A1:=AT→Int→AT→Int→Int→Int→Option ByteArray
def CZ.S1 (Cd:CZ.A0) (self:CZ.A1):CZ.A1:=fun x5 x6 x7 x8 x9 Bc=>
 bif (AS Bc 8) then
 bif (BM ((List.length x5)+1) 1) then
 self (x5++[(IntKind.wrap .u8 x6)]) (BH .u64 x6 8) x7 x8 x9 (AQ .i64 Bc 1)
 else none
 else
 Cd x5 x7 x8 (AQ .i64 x9 1)
def CZ.l1 (Cd:CZ.A0):Nat→CZ.A1
 | 0=>fun _ _ _ _ _ _=>none
 | n+1=>CZ.S1 Cd (CZ.l1 Cd n)
def CZ.S0 (j1:CZ.A1):CZ.A0:=fun x1 x2 x3 x4=>
 bif (AS x4 x3) then
 bif (AX x4 (AP x2)) then
 j1 x1 (IntKind.wrap .u64 (nth x2 x4 0)) x2 x3 x4 0
 else none
 else
 some (ofBytes x1)
def CZ.l0:Nat→CZ.A0
 | 0=>fun _ _ _ _=>none
 | n+1=>CZ.S0 (CZ.l1 (CZ.l0 n) n)
def CZ.S (j0:CZ.A0) (l:AT):Option ByteArray:=
 bif ((Bq 0 (Cj .i64 8 (AP l))) && (BM (Int.toNat (Cj .i64 8 (AP l))) 1)) then
 j0 [] l (AP l) 0
 else none
def CZ (l:AT):Option ByteArray:=CZ.S (CZ.l0 fu) l
abbrev EY.A0:=AT→AT→Int→Int→E9→Option (E9)
def EY.S0 (self:EY.A0):EY.A0:=fun x1 x2 x3 x4 x5=>
 bif (AS x4 x3) then
 bif (AX x4 (AP x2)) then
 bif (AR x4 0) then
 bif (BM ((List.length x5)+1) 24) then
 bif (AX (Be .i64 (AP (x5++[((nth x2 x4 0),x4,0)])) 1) (AP (x5++[((nth x2 x4 0),x4,0)]))) then
 bif (AX (Be .i64 (AP (x5++[((nth x2 x4 0),x4,0)])) 1) (AP (x5++[((nth x2 x4 0),x4,0)]))) then
 self x1 x2 x3 (AQ .i64 x4 1) (List.set (x5++[((nth x2 x4 0),x4,0)]) (Int.toNat (Be .i64 (AP (x5++[((nth x2 x4 0),x4,0)])) 1)) ((List.getD (x5++[((nth x2 x4 0),x4,0)]) (Int.toNat (Be .i64 (AP (x5++[((nth x2 x4 0),x4,0)])) 1)) (0,0,0)).1,(List.getD (x5++[((nth x2 x4 0),x4,0)]) (Int.toNat (Be .i64 (AP (x5++[((nth x2 x4 0),x4,0)])) 1)) (0,0,0)).2.1,(AQ .i64 (List.getD (x5++[((nth x2 x4 0),x4,0)]) (Int.toNat (Be .i64 (AP (x5++[((nth x2 x4 0),x4,0)])) 1)) (0,0,0)).2.2 1)))
 else none
 else none
 else none
 else
 bif (AX (Be .i64 x4 1) (AP x1)) then
 bif (By (nth x2 x4 0) (nth x1 (Be .i64 x4 1) 0)) then
 bif (BM ((List.length x5)+1) 24) then
 bif (AX (Be .i64 (AP (x5++[((nth x2 x4 0),x4,0)])) 1) (AP (x5++[((nth x2 x4 0),x4,0)]))) then
 bif (AX (Be .i64 (AP (x5++[((nth x2 x4 0),x4,0)])) 1) (AP (x5++[((nth x2 x4 0),x4,0)]))) then
 self x1 x2 x3 (AQ .i64 x4 1) (List.set (x5++[((nth x2 x4 0),x4,0)]) (Int.toNat (Be .i64 (AP (x5++[((nth x2 x4 0),x4,0)])) 1)) ((List.getD (x5++[((nth x2 x4 0),x4,0)]) (Int.toNat (Be .i64 (AP (x5++[((nth x2 x4 0),x4,0)])) 1)) (0,0,0)).1,(List.getD (x5++[((nth x2 x4 0),x4,0)]) (Int.toNat (Be .i64 (AP (x5++[((nth x2 x4 0),x4,0)])) 1)) (0,0,0)).2.1,(AQ .i64 (List.getD (x5++[((nth x2 x4 0),x4,0)]) (Int.toNat (Be .i64 (AP (x5++[((nth x2 x4 0),x4,0)])) 1)) (0,0,0)).2.2 1)))
 else none
 else none
 else none
 else
 bif (AX (Be .i64 (AP x5) 1) (AP x5)) then
 bif (AX (Be .i64 (AP x5) 1) (AP x5)) then
 self x1 x2 x3 (AQ .i64 x4 1) (List.set x5 (Int.toNat (Be .i64 (AP x5) 1)) ((List.getD x5 (Int.toNat (Be .i64 (AP x5) 1)) (0,0,0)).1,(List.getD x5 (Int.toNat (Be .i64 (AP x5) 1)) (0,0,0)).2.1,(AQ .i64 (List.getD x5 (Int.toNat (Be .i64 (AP x5) 1)) (0,0,0)).2.2 1)))
 else none
 else none
 else none
 else none
 else
 some x5
def EY.l0:Nat→EY.A0
 | 0=>fun _ _ _ _ _=>none
 | n+1=>EY.S0 (EY.l0 n)
def EY.S (j0:EY.A0) (l:AT):Option (E9):=
 bif (AS 65536 (AP l)) then
 some []
 else
 j0 l l (AP l) 0 []
def EY (l:AT):Option (E9):=EY.S (EY.l0 fu) l
def Q7 (b:(Bool×AT)) (s:ByteArray):Option (Int×Bool×(Bool×AT)):=
 bif (BM ((List.length (NK b).2)+(ByteArray.size s)) 1) then
 some ((Bh s),true,(NK b).1,((NK b).2++(Bi s)))
 else none
abbrev Fl.A0:=E9→Int→Int→(Bool×AT)→Option De
def Fl.S0 (self:Fl.A0):Fl.A0:=fun x2 x3 x4 x5=>
 bif (AS x4 x3) then
 bif (AX x4 (AP x2)) then
 ((Dx (nth x2 x4 (0,0,0)).1)).bind fun x6=>
 ((Q7 x5 x6)).bind fun x7=>
 ((Dx (nth x2 x4 (0,0,0)).2.2)).bind fun x8=>
 ((Q7 x7.2.2 x8)).bind fun x9=>
 self x2 x3 (AQ .i64 x4 1) x9.2.2
 else none
 else
 ((MZ x5)).bind fun Bc=>
 some (Bc.1,0)
def Fl.l0:Nat→Fl.A0
 | 0=>fun _ _ _ _=>none
 | n+1=>Fl.S0 (Fl.l0 n)
def Fl.S (j0:Fl.A0) (l:E9):Option De:=
 ((F4 l)).bind fun x1=>
 bif (!x1.2) then
 some (eB,1)
 else
 j0 l (AP l) 0 (true,[])
def Fl (l:E9):Option De:=Fl.S (Fl.l0 fu) l
def cmp_Less_int (x y:Int):Bool:=
 bif (cmp_isNaN_int x) then
 bif (!(cmp_isNaN_int y)) then
 true
 else
 (AS x y)
 else
 (AS x y)
def cmp_Less_int.o (x y:Int):Option Bool:=
 bif (cmp_isNaN_int x) then
 bif (!(cmp_isNaN_int y)) then
 some true
 else
 some (AS x y)
 else
 some (AS x y)
def XT (x:Int):Bool:=
 (By x x)
abbrev Dc.A0:=AT→Int→Int→Int→Int→Option (Int×Bool)
abbrev Dc.A1:=AT→Int→Int→Int→Option (Int×Bool)
def Dc.S1:Dc.A1:=fun x7 x8 x9 Bc=>
 bif (AS Bc x9) then
 bif (AX Bc (AP x7)) then
 bif (AR (nth x7 Bc 0) x8) then
 some (Bc,true)
 else
 bif (AX Bc (AP x7)) then
 bif (XT (nth x7 Bc 0)) then
 some (Bc,(XT x8))
 else
 some (Bc,false)
 else none
 else none
 else
 some (Bc,false)
def Dc.t1:Nat→Dc.A1
 | 0=>fun _ _ _ _=>none
 | _+1=>Dc.S1
def Dc.S0 (BI:Dc.A1) (self:Dc.A0):Dc.A0:=fun x1 x2 x3 x4 x5=>
 bif (AS x4 x5) then
 bif (AX (IntKind.wrap .i64 (BH .u64 (IntKind.wrap .u64 (AQ .i64 x4 x5)) 1)) (AP x1)) then
 bif (cmp_Less_int (nth x1 (IntKind.wrap .i64 (BH .u64 (IntKind.wrap .u64 (AQ .i64 x4 x5)) 1)) 0) x2) then
 self x1 x2 x3 (AQ .i64 (IntKind.wrap .i64 (BH .u64 (IntKind.wrap .u64 (AQ .i64 x4 x5)) 1)) 1) x5
 else
 self x1 x2 x3 x4 (IntKind.wrap .i64 (BH .u64 (IntKind.wrap .u64 (AQ .i64 x4 x5)) 1))
 else none
 else
 BI x1 x2 x3 x4
def Dc.l0 (BI:Dc.A1):Nat→Dc.A0
 | 0=>fun _ _ _ _ _=>none
 | n+1=>Dc.S0 BI (Dc.l0 BI n)
def Dc.S (j0:Dc.A0) (x:AT) (target:Int):Option (Int×Bool):=
 j0 x target (AP x) 0 (AP x)
def Dc (x:AT) (target:Int):Option (Int×Bool):=Dc.S (Dc.l0 (Dc.t1 fu) fu) x target
abbrev EV.A0:=Nat→Nat→AT→AT→Int→Int→AT→Option LM
def EV.S0 (self:EV.A0):EV.A0:=fun x4 x5 x6 x7 x8 x9 Bc=>
 bif (AS x9 x8) then
 bif (AX x9 (AP x7)) then
 ((Dc (List.take x5 (List.drop x4 Bc)) (nth x7 x9 0))).bind fun BB=>
 bif (BM ((List.length x6)+1) 8) then
 self x4 x5 (x6++[BB.1]) x7 x8 (AQ .i64 x9 1) Bc
 else none
 else none
 else
 some ((List.take x5 (List.drop x4 Bc)),x6)
def EV.l0:Nat→EV.A0
 | 0=>fun _ _ _ _ _ _ _=>none
 | n+1=>EV.S0 (EV.l0 n)
def EV.S (j0:EV.A0) (l:AT):Option LM:=
 ((Ko 8 l)).bind fun x1=>
 ((OZ ((decide (0<(List.length x1))) && true) (We x1) fun _x=>((decide ((List.length _x)=(List.length x1))) && true))).bind fun x2=>
 ((OZ ((decide (0<(List.length x2))) && true) (Wf x2) fun _x=>((decide ((List.length _x.2)=(List.length x2))) && true))).bind fun x3=>
 j0 0 (Int.toNat x3.1) [] l (AP l) 0 x3.2
def EV (l:AT):Option LM:=EV.S (EV.l0 fu) l
abbrev GI.A0:=AT→Int→Int→(Bool×AT)→Option De
def GI.S0 (self:GI.A0):GI.A0:=fun x1 x2 x3 x4=>
 bif (AS x3 x2) then
 bif (AX x3 (AP x1)) then
 ((Dx (nth x1 x3 0))).bind fun x5=>
 ((Q7 x4 x5)).bind fun x6=>
 self x1 x2 (AQ .i64 x3 1) x6.2.2
 else none
 else
 ((MZ x4)).bind fun x7=>
 some (x7.1,0)
def GI.l0:Nat→GI.A0
 | 0=>fun _ _ _ _=>none
 | n+1=>GI.S0 (GI.l0 n)
def GI.S (j0:GI.A0) (d:AT):Option De:=
 j0 d (AP d) 0 (true,[])
def GI (d:AT):Option De:=GI.S (GI.l0 fu) d
def dd (l:AT):Option De:=
 bif (AS 65536 (AP l)) then
 some (eB,1)
 else
 bif (AR (AP l) 0) then
 some (eB,0)
 else
 ((EV l)).bind fun x1=>
 ((GI x1.1)).bind fun x2=>
 bif (By x2.2 0) then
 some (eB,x2.2)
 else
 ((D0 x1.2)).bind fun x3=>
 ((Ca x1.2 x3)).bind fun x4=>
 ((Dx (AP x1.1))).bind fun x5=>
 bif (CH x5 x2.1) then
 bif (CH (Dr x5 x2.1) x4.1) then
 some ((Dr (Dr x5 x2.1) x4.1),x4.2)
 else none
 else none
def Ya (l:AT):Option De:=
 ((dd l)).bind fun x1=>
 some x1
def SN (l:AT) (code:Int):Option De:=
 bif (AR code 1) then
 ((CZ l)).bind fun x1=>
 some (x1,0)
 else
 bif (AR code 2) then
 ((EY l)).bind fun x2=>
 ((Fl x2)).bind fun x3=>
 some x3
 else
 bif (AR code 3) then
 ((U3 l)).bind fun x4=>
 some x4
 else
 bif (AR code 4) then
 ((Ya l)).bind fun x5=>
 some x5
 else
 bif (AR code 5) then
 ((D0 l)).bind fun x6=>
 ((Ca l x6)).bind fun x7=>
 bif (CH (ofBytes [(IntKind.wrap .u8 x6)]) x7.1) then
 some ((Dr (ofBytes [(IntKind.wrap .u8 x6)]) x7.1),x7.2)
 else none
 else
 some (eB,1)
def XP (b:(Bool×AT)) (c:Int):Option (Bool×(Bool×AT)):=
 bif (BM ((List.length (NK b).2)+1) 1) then
 some (true,(NK b).1,((NK b).2++[c]))
 else none
abbrev FW.A0:=Cl→Int→Int→(Bool×AT)→Option De
def FW.S0 (self:FW.A0):FW.A0:=fun x1 x2 x3 x4=>
 bif (AS x3 x2) then
 bif (AX x3 (AP x1)) then
 bif (AS 32 (Bh (nth x1 x3 eB))) then
 some (eB,1)
 else
 ((XP x4 (IntKind.wrap .u8 (Bh (nth x1 x3 eB))))).bind fun x5=>
 ((Q7 x5.2 (nth x1 x3 eB))).bind fun x6=>
 self x1 x2 (AQ .i64 x3 1) x6.2.2
 else none
 else
 ((MZ x4)).bind fun x7=>
 some (x7.1,0)
def FW.l0:Nat→FW.A0
 | 0=>fun _ _ _ _=>none
 | n+1=>FW.S0 (FW.l0 n)
def FW.S (j0:FW.A0) (l:Cl):Option De:=
 j0 l (AP l) 0 (true,[])
def FW (l:Cl):Option De:=FW.S (FW.l0 fu) l
def cmp_isNaN_string (x:ByteArray):Bool:=
 (!(Cn x x))
def cmp_Less_string (x y:ByteArray):Bool:=
 bif (cmp_isNaN_string x) then
 bif (!(cmp_isNaN_string y)) then
 true
 else
 (IY x y)
 else
 (IY x y)
def cmp_Less_string.o (x y:ByteArray):Option Bool:=
 bif (cmp_isNaN_string x) then
 bif (!(cmp_isNaN_string y)) then
 some true
 else
 some (IY x y)
 else
 some (IY x y)
def df (x:ByteArray):Bool:=
 (!(Cn x x))
abbrev Ea.A0:=Cl→ByteArray→Int→Int→Int→Option (Int×Bool)
abbrev Ea.A1:=Cl→ByteArray→Int→Int→Option (Int×Bool)
def Ea.S1:Ea.A1:=fun x7 x8 x9 Bc=>
 bif (AS Bc x9) then
 bif (AX Bc (AP x7)) then
 bif (Cn (nth x7 Bc eB) x8) then
 some (Bc,true)
 else
 bif (AX Bc (AP x7)) then
 bif (df (nth x7 Bc eB)) then
 some (Bc,(df x8))
 else
 some (Bc,false)
 else none
 else none
 else
 some (Bc,false)
def Ea.t1:Nat→Ea.A1
 | 0=>fun _ _ _ _=>none
 | _+1=>Ea.S1
def Ea.S0 (BI:Ea.A1) (self:Ea.A0):Ea.A0:=fun x1 x2 x3 x4 x5=>
 bif (AS x4 x5) then
 bif (AX (IntKind.wrap .i64 (BH .u64 (IntKind.wrap .u64 (AQ .i64 x4 x5)) 1)) (AP x1)) then
 bif (cmp_Less_string (nth x1 (IntKind.wrap .i64 (BH .u64 (IntKind.wrap .u64 (AQ .i64 x4 x5)) 1)) eB) x2) then
 self x1 x2 x3 (AQ .i64 (IntKind.wrap .i64 (BH .u64 (IntKind.wrap .u64 (AQ .i64 x4 x5)) 1)) 1) x5
 else
 self x1 x2 x3 x4 (IntKind.wrap .i64 (BH .u64 (IntKind.wrap .u64 (AQ .i64 x4 x5)) 1))
 else none
 else
 BI x1 x2 x3 x4
def Ea.l0 (BI:Ea.A1):Nat→Ea.A0
 | 0=>fun _ _ _ _ _=>none
 | n+1=>Ea.S0 BI (Ea.l0 BI n)
def Ea.S (j0:Ea.A0) (x:Cl) (target:ByteArray):Option (Int×Bool):=
 j0 x target (AP x) 0 (AP x)
def Ea (x:Cl) (target:ByteArray):Option (Int×Bool):=Ea.S (Ea.l0 (Ea.t1 fu) fu) x target
abbrev Fu.A0:=Nat→Nat→AT→Cl→Int→Int→Cl→Option Mr
def Fu.S0 (self:Fu.A0):Fu.A0:=fun x4 x5 x6 x7 x8 x9 Bc=>
 bif (AS x9 x8) then
 bif (AX x9 (AP x7)) then
 ((Ea (List.take x5 (List.drop x4 Bc)) (nth x7 x9 eB))).bind fun BB=>
 bif (BM ((List.length x6)+1) 8) then
 self x4 x5 (x6++[BB.1]) x7 x8 (AQ .i64 x9 1) Bc
 else none
 else none
 else
 some ((List.take x5 (List.drop x4 Bc)),x6)
def Fu.l0:Nat→Fu.A0
 | 0=>fun _ _ _ _ _ _ _=>none
 | n+1=>Fu.S0 (Fu.l0 n)
def Fu.S (j0:Fu.A0) (l:Cl):Option Mr:=
 ((Ko 16 l)).bind fun x1=>
 ((OZ ((decide (0<(List.length x1))) && true) (Wg x1) fun _x=>((decide ((List.length _x)=(List.length x1))) && true))).bind fun x2=>
 ((OZ ((decide (0<(List.length x2))) && true) (Wh x2) fun _x=>((decide ((List.length _x.2)=(List.length x2))) && true))).bind fun x3=>
 j0 0 (Int.toNat x3.1) [] l (AP l) 0 x3.2
def Fu (l:Cl):Option Mr:=Fu.S (Fu.l0 fu) l
def dc (l:Cl):Option De:=
 bif (AS 65536 (AP l)) then
 some (eB,1)
 else
 bif (AR (AP l) 0) then
 some (eB,0)
 else
 ((Fu l)).bind fun x1=>
 ((FW x1.1)).bind fun x2=>
 bif (By x2.2 0) then
 some (eB,x2.2)
 else
 ((D0 x1.2)).bind fun x3=>
 ((Ca x1.2 x3)).bind fun x4=>
 ((Dx (AP x1.1))).bind fun x5=>
 bif (CH x5 x2.1) then
 bif (CH (Dr x5 x2.1) x4.1) then
 some ((Dr (Dr x5 x2.1) x4.1),x4.2)
 else none
 else none
def X5 (l:Cl):Option De:=
 ((dc l)).bind fun x1=>
 some x1
def SP (l:Cl) (code:Int):Option De:=
 bif (AR code 1) then
 ((FW l)).bind fun x1=>
 some x1
 else
 bif (AR code 4) then
 ((X5 l)).bind fun x2=>
 some x2
 else
 bif (AR code 2) then
 bif (AR (AP l) 0) then
 some (eB,0)
 else
 ((Fu l)).bind fun x3=>
 ((FW x3.1)).bind fun x4=>
 bif (By x4.2 0) then
 some (eB,x4.2)
 else
 ((EY x3.2)).bind fun x5=>
 ((Fl x5)).bind fun x6=>
 ((Dx (AP x3.1))).bind fun x7=>
 bif (CH x7 x4.1) then
 bif (CH (Dr x7 x4.1) x6.1) then
 some ((Dr (Dr x7 x4.1) x6.1),x6.2)
 else none
 else none
 else
 some (eB,1)
abbrev DF.A0:=Int→Int→AT→Cl→Ce→Int→Int→Option De
abbrev DF.A1:=Int→Int→AT→Cl→Option De
def DF.S1:DF.A1:=fun x8 x9 Bc BB=>
 bif (AR x8 1) then
 ((SN Bc x9)).bind fun BQ=>
 some BQ
 else
 ((SP BB x9)).bind fun BC=>
 some BC
def DF.t1:Nat→DF.A1
 | 0=>fun _ _ _ _=>none
 | _+1=>DF.S1
def DF.S0 (BI:DF.A1) (self:DF.A0):DF.A0:=fun x1 x2 x3 x4 x5 x6 x7=>
 bif (AS x7 x6) then
 bif (AX x7 (AP x5)) then
 bif (BM ((List.length x3)+1) 8) then
 bif (BM ((List.length x4)+1) 16) then
 self x1 x2 (x3++[(nth x5 x7 (0,0,eB)).2.1]) (x4++[(nth x5 x7 (0,0,eB)).2.2]) x5 x6 (AQ .i64 x7 1)
 else none
 else none
 else none
 else
 BI x1 x2 x3 x4
def DF.l0 (BI:DF.A1):Nat→DF.A0
 | 0=>fun _ _ _ _ _ _ _=>none
 | n+1=>DF.S0 BI (DF.l0 BI n)
def DF.S (j0:DF.A0) (l:Ce) (kind code:Int):Option De:=
 j0 kind code [] [] l (AP l) 0
def DF (l:Ce) (kind code:Int):Option De:=DF.S (DF.l0 (DF.t1 fu) fu) l kind code
def MV (l:Ce) (kind code:Int):Option De:=
 ((SX l kind)).bind fun x1=>
 bif (!x1) then
 some (eB,1)
 else
 ((DC l)).bind fun x2=>
 ((DF x2.2 kind code)).bind fun x3=>
 bif (By x3.2 0) then
 some (eB,1)
 else
 bif (CH (ofBytes [(IntKind.wrap .u8 kind),(IntKind.wrap .u8 code),(IntKind.wrap .u8 (AP l)),(IntKind.wrap .u8 (Bh x2.1))]) x2.1) then
 bif (CH (Dr (ofBytes [(IntKind.wrap .u8 kind),(IntKind.wrap .u8 code),(IntKind.wrap .u8 (AP l)),(IntKind.wrap .u8 (Bh x2.1))]) x2.1) x3.1) then
 ((EW (Dr (Dr (ofBytes [(IntKind.wrap .u8 kind),(IntKind.wrap .u8 code),(IntKind.wrap .u8 (AP l)),(IntKind.wrap .u8 (Bh x2.1))]) x2.1) x3.1))).bind fun x4=>
 some (x4,0)
 else none
 else none
def P1 (s:ByteArray):Option ((R1×(ByteArray×Pn))×Bool):=
 ((Yp s)).bind fun x1=>
 bif (By x1.2 0) then
 some (((0,0,0,0),eB,eB,[]),false)
 else
 bif (AS (Bh x1.1) 4) then
 some (((0,0,0,0),eB,eB,[]),false)
 else
 bif (AX 3 (Bh x1.1)) then
 bif (AS (Be .i64 (Bh x1.1) 4) (IntKind.wrap .i64 (byteAt x1.1 3))) then
 some (((0,0,0,0),eB,eB,[]),false)
 else
 bif (AX 3 (Bh x1.1)) then
 bif (AX 0 (Bh x1.1)) then
 bif (AX 1 (Bh x1.1)) then
 bif (AX 2 (Bh x1.1)) then
 bif (CU 4 (AQ .i64 4 (IntKind.wrap .i64 (byteAt x1.1 3))) (Bh x1.1)) then
 bif (CU (AQ .i64 4 (IntKind.wrap .i64 (byteAt x1.1 3))) (Bh x1.1) (Bh x1.1)) then
 ((Fv (cutS x1.1 4 (AQ .i64 4 (IntKind.wrap .i64 (byteAt x1.1 3)))) (IntKind.wrap .i64 (byteAt x1.1 2)))).bind fun x2=>
 bif (By x2.2 0) then
 some ((((IntKind.wrap .i64 (byteAt x1.1 0)),(IntKind.wrap .i64 (byteAt x1.1 1)),(IntKind.wrap .i64 (byteAt x1.1 2)),x2.1),(cutS x1.1 4 (AQ .i64 4 (IntKind.wrap .i64 (byteAt x1.1 3)))),(cutS x1.1 (AQ .i64 4 (IntKind.wrap .i64 (byteAt x1.1 3))) (Bh x1.1)),[]),false)
 else
 ((CV (cutS x1.1 (AQ .i64 4 (IntKind.wrap .i64 (byteAt x1.1 3))) (Bh x1.1)) (Be .i64 (IntKind.wrap .i64 (byteAt x1.1 2)) x2.1) ((IntKind.wrap .i64 (byteAt x1.1 0)),(IntKind.wrap .i64 (byteAt x1.1 1)),(IntKind.wrap .i64 (byteAt x1.1 2)),x2.1))).bind fun x3=>
 bif (By x3.2 0) then
 some ((((IntKind.wrap .i64 (byteAt x1.1 0)),(IntKind.wrap .i64 (byteAt x1.1 1)),(IntKind.wrap .i64 (byteAt x1.1 2)),x2.1),(cutS x1.1 4 (AQ .i64 4 (IntKind.wrap .i64 (byteAt x1.1 3)))),(cutS x1.1 (AQ .i64 4 (IntKind.wrap .i64 (byteAt x1.1 3))) (Bh x1.1)),[]),false)
 else
 ((FM (cutS x1.1 4 (AQ .i64 4 (IntKind.wrap .i64 (byteAt x1.1 3)))) (IntKind.wrap .i64 (byteAt x1.1 2)) x3.1)).bind fun x4=>
 bif (By x4.2 0) then
 some ((((IntKind.wrap .i64 (byteAt x1.1 0)),(IntKind.wrap .i64 (byteAt x1.1 1)),(IntKind.wrap .i64 (byteAt x1.1 2)),x2.1),(cutS x1.1 4 (AQ .i64 4 (IntKind.wrap .i64 (byteAt x1.1 3)))),(cutS x1.1 (AQ .i64 4 (IntKind.wrap .i64 (byteAt x1.1 3))) (Bh x1.1)),x4.1),false)
 else
 ((MV x4.1 (IntKind.wrap .i64 (byteAt x1.1 0)) (IntKind.wrap .i64 (byteAt x1.1 1)))).bind fun x5=>
 bif (AR x5.2 0) then
 some ((((IntKind.wrap .i64 (byteAt x1.1 0)),(IntKind.wrap .i64 (byteAt x1.1 1)),(IntKind.wrap .i64 (byteAt x1.1 2)),x2.1),(cutS x1.1 4 (AQ .i64 4 (IntKind.wrap .i64 (byteAt x1.1 3)))),(cutS x1.1 (AQ .i64 4 (IntKind.wrap .i64 (byteAt x1.1 3))) (Bh x1.1)),x4.1),(Cn x5.1 s))
 else
 some ((((IntKind.wrap .i64 (byteAt x1.1 0)),(IntKind.wrap .i64 (byteAt x1.1 1)),(IntKind.wrap .i64 (byteAt x1.1 2)),x2.1),(cutS x1.1 4 (AQ .i64 4 (IntKind.wrap .i64 (byteAt x1.1 3)))),(cutS x1.1 (AQ .i64 4 (IntKind.wrap .i64 (byteAt x1.1 3))) (Bh x1.1)),x4.1),false)
 else none
 else none
 else none
 else none
 else none
 else none
 else none
def Kj (s:ByteArray):Option QM:=
 ((P1 s)).bind fun x1=>
 bif (!x1.2) then
 some ([],5)
 else
 some (x1.1.2.2.2,0)
def OC (s:ByteArray):Option (R1×Int):=
 ((P1 s)).bind fun x1=>
 bif (!x1.2) then
 some ((0,0,0,0),5)
 else
 some (x1.1.1,0)
def SS (s:ByteArray):Option (ByteArray×ByteArray×Int):=
 ((P1 s)).bind fun x1=>
 bif (!x1.2) then
 some (eB,eB,5)
 else
 some (x1.1.2.2.1,x1.1.2.1,0)
abbrev Jb.A0:=Ce→Ce→Int→Option Bool
def Jb.S0 (self:Jb.A0):Jb.A0:=fun x1 x2 x3=>
 bif (AS x3 (AP x1)) then
 bif (AX x3 (AP x1)) then
 bif (AX x3 (AP x2)) then
 bif (!((AR (nth x1 x3 (0,0,eB)).1 (nth x2 x3 (0,0,eB)).1) && ((AR (nth x1 x3 (0,0,eB)).2.1 (nth x2 x3 (0,0,eB)).2.1) && (Cn (nth x1 x3 (0,0,eB)).2.2 (nth x2 x3 (0,0,eB)).2.2)))) then
 some false
 else
 self x1 x2 (AQ .i64 x3 1)
 else none
 else none
 else
 some true
def Jb.l0:Nat→Jb.A0
 | 0=>fun _ _ _=>none
 | n+1=>Jb.S0 (Jb.l0 n)
def Jb.S (j0:Jb.A0) (a b:Ce):Option Bool:=
 bif (By (AP a) (AP b)) then
 some false
 else
 j0 a b 0
def Jb (a b:Ce):Option Bool:=Jb.S (Jb.l0 fu) a b
end Go.AM.Pure
