import Derived.Test.YtclpadlpcfnfmaaGreatAmPrimW
import Derived.Test.YtclpadlpcfnfmaaGreatAmPure06
/- PRINTED by gen/ of this repo: the functions of the seat as pure functions. -/
namespace Go.AM.Pure
open Go.AM
abbrev Ay:Type:=List Int
abbrev Oz:Type:=Int×Int
abbrev IB:Type:=List Bool
abbrev CN:Type:=List ByteArray
abbrev Zgg1:Type:=Int×ByteArray
abbrev Ec:Type:=ByteArray×Int
abbrev Es:Type:=List Oz
abbrev Fb:Type:=Ay×Int
abbrev Zb4:Type:=Int×Oz
abbrev Zhg1:Type:=ByteArray×Ay
abbrev OA:Type:=CN×Int
abbrev Sa:Type:=Int×Zgg1
abbrev Mq:Type:=Ay×Ay
abbrev FH:Type:=List Zb4
abbrev Vl:Type:=Int×Zb4
abbrev NA:Type:=CN×Ay
abbrev Cp:Type:=List Sa
abbrev dH:Type:=Int×Sa
abbrev Sb:Type:=Cp×Int
abbrev Vm:Type:=Int×Cp
abbrev QM:Type:=ByteArray×Cp
abbrev Zig1:Type:=Es×Mq
abbrev Kg:Type:=Int×Zig1
abbrev IL:Type:=dH×Zhg1
abbrev JA:Type:=IL
abbrev NB:Type:=Kg×Int
abbrev BT.A0:=Cp→Int→Option Bool
abbrev BT.A1:=Cp→Int→Int→Option Bool
def BT.S1 (self:BT.A1):BT.A1:=fun x3 x4 x5=>
 bif (ltI x5 (Ai x3)) then
 bif (inB x5 (Ai x3)) then
 bif (!(DZ (nth x3 x5 (0,0,eB)))) then
 some false
 else
 bif (inB x5 (Ai x3)) then
 bif (neI (nth x3 x5 (0,0,eB)).1 0) then
 bif (inB x5 (Ai x3)) then
 bif (neI (nth x3 x5 (0,0,eB)).1 x4) then
 some false
 else
 self x3 x4 (An .i64 x5 1)
 else none
 else
 self x3 x4 (An .i64 x5 1)
 else none
 else none
 else
 some true
def BT.l1:Nat→BT.A1
 | 0=>fun _ _ _=>none
 | n+1=>BT.S1 (BT.l1 n)
def BT.S0 (j1:BT.A1):BT.A0:=fun x1 x2=>
 j1 x1 x2 0
def BT.t0:Nat→BT.A0
 | 0=>fun _ _=>none
 | n+1=>BT.S0 (BT.l1 n)
def BT.S (j0:BT.A0) (l:Cp) (kind:Int):Option Bool:=
 bif (ltI (Ai l) 1) then
 some false
 else
 bif (ltI 64 (Ai l)) then
 some false
 else
 bif (neI kind 1) then
 bif (neI kind 2) then
 some false
 else
 j0 l kind
 else
 j0 l kind
def BT (l:Cp) (kind:Int):Option Bool:=BT.S (BT.t0 fu) l kind
abbrev DI.A0:=Int→Int→IB→IB→Option (IB)
abbrev Cy.A0:=Int→IB→Option Int
def Cy.S0 (self:Cy.A0):Cy.A0:=fun x2 x3=>
 bif (leI 0 x2) then
 bif ((inB x2 64) && (decide (64=(List.length x3)))) then
 bif (List.getD x3 (Int.toNat x2) false) then
 some (An .i64 x2 1)
 else
 self (AT .i64 x2 1) x3
 else none
 else
 some 0
def Cy.l0:Nat→Cy.A0
 | 0=>fun _ _=>none
 | n+1=>Cy.S0 (Cy.l0 n)
def Cy.S (j0:Cy.A0) (word:Int):Option Int:=
 ((DI word)).bind fun x1=>
 j0 63 x1
def Cy (word:Int):Option Int:=Cy.S (Cy.l0 fu) word
abbrev Cr.A0:=Ay→Int→Int→Option Int
def Cr.S0 (self:Cr.A0):Cr.A0:=fun x1 x2 x3=>
 bif (ltI x3 (Ai x1)) then
 bif (inB x3 (Ai x1)) then
 ((Cy (nth x1 x3 0))).bind fun x4=>
 self x1 (FP x2 x4) (An .i64 x3 1)
 else none
 else
 some x2
def Cr.l0:Nat→Cr.A0
 | 0=>fun _ _ _=>none
 | n+1=>Cr.S0 (Cr.l0 n)
def Cr.S (j0:Cr.A0) (l:Ay):Option Int:=
 j0 l 0 0
def Cr (l:Ay):Option Int:=Cr.S (Cr.l0 fu) l
def GW (xn width:Int):Int:=
 bif (ltI xn 1) then
 0
 else
 bif (ltI 65536 xn) then
 0
 else
 bif (ltI width 1) then
 0
 else
 bif (ltI 64 width) then
 0
 else
 (GL .i64 (An .i64 (Df .i64 xn width) 7) 8)
def GW.o (xn width:Int):Option Int:=
 bif (ltI xn 1) then
 some 0
 else
 bif (ltI 65536 xn) then
 some 0
 else
 bif (ltI width 1) then
 some 0
 else
 bif (ltI 64 width) then
 some 0
 else
 some (GL .i64 (An .i64 (Df .i64 xn width) 7) 8)
abbrev Bt.A0:=Ay→Int→Int→Ay→Option Ec
abbrev Bt.A1:=Ay→Int→Int→Int→Ay→Option Ec
def Bt.S1 (o0_1:Bt.A0) (self:Bt.A1):Bt.A1:=fun x7 x8 x9 x10 x11=>
 bif (ltI x10 x8) then
 bif (inB x9 (Ai x7)) then
 bif (leI 0 x10) then
 bif (eqI (BF .i64 (BG .i64 (nth x7 x9 0) x10) 1) 1) then
 bif (inB (GL .i64 (An .i64 (Df .i64 x9 x8) x10) 8) (Ai x11)) then
 bif (leI 0 (NC (An .i64 (Df .i64 x9 x8) x10) 8)) then
 bif (inB (GL .i64 (An .i64 (Df .i64 x9 x8) x10) 8) (Ai x11)) then
 self x7 x8 x9 (An .i64 x10 1) (List.set x11 (Int.toNat (GL .i64 (An .i64 (Df .i64 x9 x8) x10) 8)) (orI .u8 (List.getD x11 (Int.toNat (GL .i64 (An .i64 (Df .i64 x9 x8) x10) 8)) 0) (Fc .u8 1 (NC (An .i64 (Df .i64 x9 x8) x10) 8))))
 else none
 else none
 else none
 else
 self x7 x8 x9 (An .i64 x10 1) x11
 else none
 else none
 else
 o0_1 x7 x8 (An .i64 x9 1) x11
def Bt.l1 (o0_1:Bt.A0):Nat→Bt.A1
 | 0=>fun _ _ _ _ _=>none
 | n+1=>Bt.S1 o0_1 (Bt.l1 o0_1 n)
def Bt.S0 (j1:Bt.A1):Bt.A0:=fun x3 x4 x5 x6=>
 bif (ltI x5 (Ai x3)) then
 j1 x3 x4 x5 0 x6
 else
 some ((ofBytes x6),0)
def Bt.l0:Nat→Bt.A0
 | 0=>fun _ _ _ _=>none
 | n+1=>Bt.S0 (Bt.l1 (Bt.l0 n) n)
def Bt.S (j0:Bt.A0) (l:Ay) (width:Int):Option Ec:=
 bif (ltI width 0) then
 some (eB,1)
 else
 bif (ltI 64 width) then
 some (eB,1)
 else
 bif (ltI 65536 (Ai l)) then
 some (eB,1)
 else
 ((Cr l)).bind fun x1=>
 bif (ltI width x1) then
 some (eB,1)
 else
 let x2:=(GW (Ai l) width)
 bif ((leI 0 x2) && (Bw (Int.toNat x2) 1)) then
 j0 l width 0 (List.replicate (Int.toNat x2) (0:Int))
 else none
def Bt (l:Ay) (width:Int):Option Ec:=Bt.S (Bt.l0 fu) l width
abbrev Bv.A0:=Cp→Cp→Ay→Int→Option QM
abbrev Bv.A1:=Cp→Cp→Ay→Option QM
def Bv.S1:Bv.A1:=fun x5 x6 x7=>
 bif (eqI (Ai x6) (Ai x5)) then
 some (eB,x6)
 else
 ((Bt x7 1)).bind fun x8=>
 some (x8.1,x6)
def Bv.t1:Nat→Bv.A1
 | 0=>fun _ _ _=>none
 | _+1=>Bv.S1
def Bv.S0 (o1_0:Bv.A1) (self:Bv.A0):Bv.A0:=fun x1 x2 x3 x4=>
 bif (ltI x4 (Ai x1)) then
 bif (inB x4 (Ai x1)) then
 bif (eqI (nth x1 x4 (0,0,eB)).1 0) then
 bif (Bw ((List.length x3)+1) 8) then
 self x1 x2 (x3++[1]) (An .i64 x4 1)
 else none
 else
 bif (Bw ((List.length x3)+1) 8) then
 bif (inB x4 (Ai x1)) then
 bif (Bw ((List.length x2)+1) 32) then
 self x1 (x2++[(nth x1 x4 (0,0,eB))]) (x3++[0]) (An .i64 x4 1)
 else none
 else none
 else none
 else none
 else
 o1_0 x1 x2 x3
def Bv.l0 (o1_0:Bv.A1):Nat→Bv.A0
 | 0=>fun _ _ _ _=>none
 | n+1=>Bv.S0 o1_0 (Bv.l0 o1_0 n)
def Bv.S (j0:Bv.A0) (l:Cp):Option QM:=
 j0 l [] [] 0
def Bv (l:Cp):Option QM:=Bv.S (Bv.l0 (Bv.t1 fu) fu) l
abbrev De.A0:=Cp→Ay→Int→Option (Ay)
def De.S0 (self:De.A0):De.A0:=fun x1 x2 x3=>
 bif (ltI x3 (Ai x1)) then
 bif (inB x3 (Ai x1)) then
 bif (Bw ((List.length x2)+1) 8) then
 self x1 (x2++[(nth x1 x3 (0,0,eB)).2.1]) (An .i64 x3 1)
 else none
 else none
 else
 some x2
def De.l0:Nat→De.A0
 | 0=>fun _ _ _=>none
 | n+1=>De.S0 (De.l0 n)
def De.S (j0:De.A0) (l:Cp):Option (Ay):=
 j0 l [] 0
def De (l:Cp):Option (Ay):=De.S (De.l0 fu) l
abbrev AW.A0:=Ay→Ay→Int→Option ByteArray
abbrev AW.A1:=Ay→Ay→Int→Int→Option ByteArray
def AW.S1 (o0_1:AW.A0) (self:AW.A1):AW.A1:=fun x4 x5 x6 x7=>
 bif (ltI x7 8) then
 bif (inB x6 (Ai x4)) then
 bif (leI 0 (Df .i64 8 x7)) then
 bif (Bw ((List.length x5)+1) 1) then
 self x4 (x5++[(IntKind.wrap .u8 (BF .i64 (BG .i64 (nth x4 x6 0) (Df .i64 8 x7)) 255))]) x6 (An .i64 x7 1)
 else none
 else none
 else none
 else
 o0_1 x4 x5 (An .i64 x6 1)
def AW.l1 (o0_1:AW.A0):Nat→AW.A1
 | 0=>fun _ _ _ _=>none
 | n+1=>AW.S1 o0_1 (AW.l1 o0_1 n)
def AW.S0 (j1:AW.A1):AW.A0:=fun x1 x2 x3=>
 bif (ltI x3 (Ai x1)) then
 j1 x1 x2 x3 0
 else
 some (ofBytes x2)
def AW.l0:Nat→AW.A0
 | 0=>fun _ _ _=>none
 | n+1=>AW.S0 (AW.l1 (AW.l0 n) n)
def AW.S (j0:AW.A0) (l:Ay):Option ByteArray:=
 j0 l [] 0
def AW (l:Ay):Option ByteArray:=AW.S (AW.l0 fu) l
abbrev DJ.A0:=Ay→Int→FH→Option (FH)
def DJ.S0 (self:DJ.A0):DJ.A0:=fun x1 x2 x3=>
 bif (ltI x2 (Ai x1)) then
 bif (leI (Ai x1) 65536) then
 bif (ltI 0 x2) then
 bif (inB x2 (Ai x1)) then
 bif (inB (AT .i64 x2 1) (Ai x1)) then
 bif (eqI (nth x1 x2 0) (nth x1 (AT .i64 x2 1) 0)) then
 bif (inB (AT .i64 (Ai x3) 1) (Ai x3)) then
 bif (inB (AT .i64 (Ai x3) 1) (Ai x3)) then
 self x1 (An .i64 x2 1) (List.set x3 (Int.toNat (AT .i64 (Ai x3) 1)) ((List.getD x3 (Int.toNat (AT .i64 (Ai x3) 1)) (0,0,0)).1,(List.getD x3 (Int.toNat (AT .i64 (Ai x3) 1)) (0,0,0)).2.1,(An .i64 (List.getD x3 (Int.toNat (AT .i64 (Ai x3) 1)) (0,0,0)).2.2 1)))
 else none
 else none
 else
 bif (inB x2 (Ai x1)) then
 bif (Bw ((List.length x3)+1) 24) then
 self x1 (An .i64 x2 1) (x3++[((nth x1 x2 0),x2,1)])
 else none
 else none
 else none
 else none
 else
 bif (inB x2 (Ai x1)) then
 bif (Bw ((List.length x3)+1) 24) then
 self x1 (An .i64 x2 1) (x3++[((nth x1 x2 0),x2,1)])
 else none
 else none
 else
 some x3
 else
 some x3
def DJ.l0:Nat→DJ.A0
 | 0=>fun _ _ _=>none
 | n+1=>DJ.S0 (DJ.l0 n)
def DJ.S (j0:DJ.A0) (l:Ay):Option (FH):=
 j0 l 0 []
def DJ (l:Ay):Option (FH):=DJ.S (DJ.l0 fu) l
abbrev DB.A0:=FH→Int→Int→Option Bool
def DB.S0 (self:DB.A0):DB.A0:=fun x1 x2 x3=>
 bif (ltI x3 (Ai x1)) then
 bif (inB x3 (Ai x1)) then
 bif (neI (nth x1 x3 (0,0,0)).2.1 x2) then
 some false
 else
 bif (inB x3 (Ai x1)) then
 bif (ltI (nth x1 x3 (0,0,0)).2.2 1) then
 some false
 else
 bif (inB x3 (Ai x1)) then
 bif (ltI (AT .i64 65536 x2) (nth x1 x3 (0,0,0)).2.2) then
 some false
 else
 bif (ltI 0 x3) then
 bif (inB x3 (Ai x1)) then
 bif (inB (AT .i64 x3 1) (Ai x1)) then
 bif (eqI (nth x1 x3 (0,0,0)).1 (nth x1 (AT .i64 x3 1) (0,0,0)).1) then
 some false
 else
 bif (inB x3 (Ai x1)) then
 self x1 (An .i64 x2 (nth x1 x3 (0,0,0)).2.2) (An .i64 x3 1)
 else none
 else none
 else none
 else
 bif (inB x3 (Ai x1)) then
 self x1 (An .i64 x2 (nth x1 x3 (0,0,0)).2.2) (An .i64 x3 1)
 else none
 else none
 else none
 else none
 else
 some true
def DB.l0:Nat→DB.A0
 | 0=>fun _ _ _=>none
 | n+1=>DB.S0 (DB.l0 n)
def DB.S (j0:DB.A0) (l:FH):Option Bool:=
 j0 l 0 0
def DB (l:FH):Option Bool:=DB.S (DB.l0 fu) l
abbrev BU.A0:=Int→Int→IB→Option Int
abbrev DC.A0:=Int→IB→IB→Option Int
abbrev Cs.A0:=Int→Int→Int→IB→IB→Option Int
abbrev CG.A0:=Int→Ay→Option ByteArray
abbrev CW.A0:=FH→ByteArray→Int→Option Ec
def CW.S0 (self:CW.A0):CW.A0:=fun x2 x3 x4=>
 bif (ltI x4 (Ai x2)) then
 bif (inB x4 (Ai x2)) then
 ((CG (nth x2 x4 (0,0,0)).1)).bind fun x5=>
 bif (CK x3 x5) then
 bif (inB x4 (Ai x2)) then
 ((CG (nth x2 x4 (0,0,0)).2.2)).bind fun x6=>
 bif (CK (Ei x3 x5) x6) then
 self x2 (Ei (Ei x3 x5) x6) (An .i64 x4 1)
 else none
 else none
 else none
 else none
 else
 some (x3,0)
def CW.l0:Nat→CW.A0
 | 0=>fun _ _ _=>none
 | n+1=>CW.S0 (CW.l0 n)
def CW.S (j0:CW.A0) (l:FH):Option Ec:=
 ((DB l)).bind fun x1=>
 bif (!x1) then
 some (eB,1)
 else
 j0 l eB 0
def CW (l:FH):Option Ec:=CW.S (CW.l0 fu) l
abbrev CI.A0:=Ay→Ay→Int→Option (Ay)
def CI.S0 (self:CI.A0):CI.A0:=fun x1 x2 x3=>
 bif (ltI x3 (Ai x1)) then
 bif (inB x3 (Ai x1)) then
 bif (inB (AT .i64 x3 1) (Ai x1)) then
 bif (Bw ((List.length x2)+1) 8) then
 self x1 (x2++[(AT .i64 (nth x1 x3 0) (nth x1 (AT .i64 x3 1) 0))]) (An .i64 x3 1)
 else none
 else none
 else none
 else
 some x2
def CI.l0:Nat→CI.A0
 | 0=>fun _ _ _=>none
 | n+1=>CI.S0 (CI.l0 n)
def CI.S (j0:CI.A0) (l:Ay):Option (Ay):=
 j0 l [] 1
def CI (l:Ay):Option (Ay):=CI.S (CI.l0 fu) l
abbrev Ct.A0:=Ay→Int→Int→Option Int
def Ct.S0 (self:Ct.A0):Ct.A0:=fun x1 x2 x3=>
 bif (ltI x3 (Ai x1)) then
 bif (inB x3 (Ai x1)) then
 self x1 (Et x2 (nth x1 x3 0)) (An .i64 x3 1)
 else none
 else
 some x2
def Ct.l0:Nat→Ct.A0
 | 0=>fun _ _ _=>none
 | n+1=>Ct.S0 (Ct.l0 n)
def Ct.S (j0:Ct.A0) (l:Ay):Option Int:=
 bif (inB 0 (Ai l)) then
 j0 l (nth l 0 0) 1
 else none
def Ct (l:Ay):Option Int:=Ct.S (Ct.l0 fu) l
abbrev BH.A0:=ByteArray→Ay→Int→Ay→Int→Option Ec
abbrev BH.A1:=ByteArray→Int→Ay→Option Ec
def BH.S1:BH.A1:=fun x9 x10 x11=>
 ((Cr x11)).bind fun x12=>
 ((Bt x11 x12)).bind fun x13=>
 ((CG x10)).bind fun x14=>
 bif (CK x9 x14) then
 bif (CK (Ei x9 x14) (ofBytes [(IntKind.wrap .u8 x12)])) then
 bif (CK (Ei (Ei x9 x14) (ofBytes [(IntKind.wrap .u8 x12)])) x13.1) then
 some ((Ei (Ei (Ei x9 x14) (ofBytes [(IntKind.wrap .u8 x12)])) x13.1),0)
 else none
 else none
 else none
def BH.t1:Nat→BH.A1
 | 0=>fun _ _ _=>none
 | _+1=>BH.S1
def BH.S0 (o1_0:BH.A1) (self:BH.A0):BH.A0:=fun x4 x5 x6 x7 x8=>
 bif (ltI x8 (Ai x5)) then
 bif (inB x8 (Ai x5)) then
 bif (Bw ((List.length x7)+1) 8) then
 self x4 x5 x6 (x7++[(AT .i64 (nth x5 x8 0) x6)]) (An .i64 x8 1)
 else none
 else none
 else
 o1_0 x4 x6 x7
def BH.l0 (o1_0:BH.A1):Nat→BH.A0
 | 0=>fun _ _ _ _ _=>none
 | n+1=>BH.S0 o1_0 (BH.l0 o1_0 n)
def BH.S (j0:BH.A0) (l:Ay):Option Ec:=
 bif (ltI 65536 (Ai l)) then
 some (eB,1)
 else
 bif (eqI (Ai l) 0) then
 some (eB,0)
 else
 bif (inB 0 (Ai l)) then
 ((CG (nth l 0 0))).bind fun x1=>
 bif (eqI (Ai l) 1) then
 some (x1,0)
 else
 ((CI l)).bind fun x2=>
 ((Ct x2)).bind fun x3=>
 j0 x1 x2 x3 [] 0
 else none
def BH (l:Ay):Option Ec:=BH.S (BH.l0 (BH.t1 fu) fu) l
abbrev Ak.A0:=Ay→Ay→Ay→Int→Option Mq
abbrev Ak.A1:=Ay→Ay→Ay→Int→Int→Option Mq
abbrev Ak.A2:=Ay→Ay→Ay→Int→Int→Option Mq
abbrev Ak.A3:=Ay→Ay→Ay→Int→Int→Option Mq
abbrev Ak.A4:=Ay→Ay→Ay→Option Mq
abbrev Ak.A5:=Ay→Ay→Ay→Int→Option Mq
abbrev Ak.A6:=Ay→Ay→Ay→Int→Int→Option Mq
def Ak.S6 (o5_2:Ak.A5) (self:Ak.A6):Ak.A6:=fun x27 x28 x29 x30 x31=>
 bif (inB x31 (Ai x28)) then
 bif (inB x30 (Ai x27)) then
 bif (neI (nth x28 x31 0) (nth x27 x30 0)) then
 self x27 x28 x29 x30 (An .i64 x31 1)
 else
 bif (Bw ((List.length x29)+1) 8) then
 o5_2 x27 x28 (x29++[x31]) (An .i64 x30 1)
 else none
 else none
 else none
def Ak.l6 (o5_2:Ak.A5):Nat→Ak.A6
 | 0=>fun _ _ _ _ _=>none
 | n+1=>Ak.S6 o5_2 (Ak.l6 o5_2 n)
def Ak.S5 (j6:Ak.A6):Ak.A5:=fun x23 x24 x25 x26=>
 bif (ltI x26 (Ai x23)) then
 j6 x23 x24 x25 x26 0
 else
 some (x24,x25)
def Ak.l5:Nat→Ak.A5
 | 0=>fun _ _ _ _=>none
 | n+1=>Ak.S5 (Ak.l6 (Ak.l5 n) n)
def Ak.S4 (j5:Ak.A5):Ak.A4:=fun x20 x21 x22=>
 j5 x20 x21 x22 0
def Ak.t4:Nat→Ak.A4
 | 0=>fun _ _ _=>none
 | n+1=>Ak.S4 (Ak.l5 n)
def Ak.S3 (o0_1:Ak.A0):Ak.A3:=fun x15 x16 x17 x18 x19=>
 bif (inC 0 x19 (Ai x16)) then
 bif (Bw (0+(List.length (List.take (Int.toNat x19) x16))) 8) then
 bif (inB x18 (Ai x15)) then
 bif (Bw ((List.length (List.take (Int.toNat x19) x16))+1) 8) then
 bif (inC x19 (Ai x16) (Ai x16)) then
 bif (Bw ((List.length ((List.take (Int.toNat x19) x16)++[(nth x15 x18 0)]))+(List.length (List.drop (Int.toNat x19) x16))) 8) then
 o0_1 x15 (((List.take (Int.toNat x19) x16)++[(nth x15 x18 0)])++(List.drop (Int.toNat x19) x16)) x17 (An .i64 x18 1)
 else none
 else none
 else none
 else none
 else none
 else none
def Ak.t3 (o0_1:Ak.A0):Nat→Ak.A3
 | 0=>fun _ _ _ _ _=>none
 | _+1=>Ak.S3 o0_1
def Ak.S2 (o0_1:Ak.A0) (j3:Ak.A3):Ak.A2:=fun x10 x11 x12 x13 x14=>
 bif (ltI x14 (Ai x11)) then
 bif (inB x14 (Ai x11)) then
 bif (inB x13 (Ai x10)) then
 bif (eqI (nth x11 x14 0) (nth x10 x13 0)) then
 o0_1 x10 x11 x12 (An .i64 x13 1)
 else
 j3 x10 x11 x12 x13 x14
 else none
 else none
 else
 j3 x10 x11 x12 x13 x14
def Ak.t2 (o0_1:Ak.A0):Nat→Ak.A2
 | 0=>fun _ _ _ _ _=>none
 | n+1=>Ak.S2 o0_1 (Ak.t3 o0_1 n)
def Ak.S1 (o2_1:Ak.A2) (self:Ak.A1):Ak.A1:=fun x5 x6 x7 x8 x9=>
 bif (ltI x9 (Ai x6)) then
 bif (inB x9 (Ai x6)) then
 bif (inB x8 (Ai x5)) then
 bif (ltI (nth x6 x9 0) (nth x5 x8 0)) then
 self x5 x6 x7 x8 (An .i64 x9 1)
 else
 o2_1 x5 x6 x7 x8 x9
 else none
 else none
 else
 o2_1 x5 x6 x7 x8 x9
def Ak.l1 (o2_1:Ak.A2):Nat→Ak.A1
 | 0=>fun _ _ _ _ _=>none
 | n+1=>Ak.S1 o2_1 (Ak.l1 o2_1 n)
def Ak.S0 (o4_0:Ak.A4) (j1:Ak.A1):Ak.A0:=fun x1 x2 x3 x4=>
 bif (ltI x4 (Ai x1)) then
 j1 x1 x2 x3 x4 0
 else
 o4_0 x1 x2 x3
def Ak.l0 (o4_0:Ak.A4):Nat→Ak.A0
 | 0=>fun _ _ _ _=>none
 | n+1=>Ak.S0 o4_0 (Ak.l1 (Ak.t2 (Ak.l0 o4_0 n) n) n)
def Ak.S (j0:Ak.A0) (l:Ay):Option Mq:=
 j0 l [] [] 0
def Ak (l:Ay):Option Mq:=Ak.S (Ak.l0 (Ak.t4 fu) fu) l
def JB (places:Ay):Option ByteArray:=
 ((Cr places)).bind fun x1=>
 ((Bt places x1)).bind fun x2=>
 some x2.1
abbrev Ba.A0:=Ay→Ay→ByteArray→Int→Option Ec
abbrev Ba.A1:=Ay→ByteArray→Option Ec
def Ba.S1:Ba.A1:=fun x8 x9=>
 ((JB x8)).bind fun x10=>
 bif (CK x9 x10) then
 some ((Ei x9 x10),0)
 else none
def Ba.t1:Nat→Ba.A1
 | 0=>fun _ _=>none
 | _+1=>Ba.S1
def Ba.S0 (o1_0:Ba.A1) (self:Ba.A0):Ba.A0:=fun x3 x4 x5 x6=>
 bif (ltI x6 (Ai x3)) then
 bif (inB x6 (Ai x3)) then
 ((CG (nth x3 x6 0))).bind fun x7=>
 bif (CK x5 x7) then
 self x3 x4 (Ei x5 x7) (An .i64 x6 1)
 else none
 else none
 else
 o1_0 x4 x5
def Ba.l0 (o1_0:Ba.A1):Nat→Ba.A0
 | 0=>fun _ _ _ _=>none
 | n+1=>Ba.S0 o1_0 (Ba.l0 o1_0 n)
def Ba.S (j0:Ba.A0) (l:Ay):Option Ec:=
 bif (ltI 65536 (Ai l)) then
 some (eB,1)
 else
 bif (eqI (Ai l) 0) then
 some (eB,0)
 else
 ((Ak l)).bind fun x1=>
 ((CG (Ai x1.1))).bind fun x2=>
 j0 x1.1 x1.2 x2 0
def Ba (l:Ay):Option Ec:=Ba.S (Ba.l0 (Ba.t1 fu) fu) l
def KK (l:Ay) (code:Int):Option (ByteArray×Bool):=
 bif (eqI code 1) then
 ((AW l)).bind fun x1=>
 some (x1,true)
 else
 bif (eqI code 2) then
 ((DJ l)).bind fun x2=>
 ((CW x2)).bind fun x3=>
 some (x3.1,(eqI x3.2 0))
 else
 bif (eqI code 3) then
 ((BH l)).bind fun x4=>
 some (x4.1,(eqI x4.2 0))
 else
 bif (eqI code 4) then
 ((Ba l)).bind fun x5=>
 some (x5.1,(eqI x5.2 0))
 else
 bif (eqI code 5) then
 ((Cr l)).bind fun x6=>
 ((Bt l x6)).bind fun x7=>
 bif (CK (ofBytes [(IntKind.wrap .u8 x6)]) x7.1) then
 some ((Ei (ofBytes [(IntKind.wrap .u8 x6)]) x7.1),(eqI x7.2 0))
 else none
 else
 some (eB,false)
abbrev CJ.A0:=Cp→CN→Int→Option (CN)
def CJ.S0 (self:CJ.A0):CJ.A0:=fun x1 x2 x3=>
 bif (ltI x3 (Ai x1)) then
 bif (inB x3 (Ai x1)) then
 bif (Bw ((List.length x2)+1) 16) then
 self x1 (x2++[(nth x1 x3 (0,0,eB)).2.2]) (An .i64 x3 1)
 else none
 else none
 else
 some x2
def CJ.l0:Nat→CJ.A0
 | 0=>fun _ _ _=>none
 | n+1=>CJ.S0 (CJ.l0 n)
def CJ.S (j0:CJ.A0) (l:Cp):Option (CN):=
 j0 l [] 0
def CJ (l:Cp):Option (CN):=CJ.S (CJ.l0 fu) l
abbrev BR.A0:=CN→Ay→Int→Option Ec
def BR.S0 (self:BR.A0):BR.A0:=fun x1 x2 x3=>
 bif (ltI x3 (Ai x1)) then
 bif (inB x3 (Ai x1)) then
 bif (ltI 32 (AX (nth x1 x3 eB))) then
 some (eB,1)
 else
 bif (inB x3 (Ai x1)) then
 bif (Bw ((List.length x2)+1) 1) then
 bif (inB x3 (Ai x1)) then
 bif (Bw ((List.length (x2++[(IntKind.wrap .u8 (AX (nth x1 x3 eB)))]))+(ByteArray.size (nth x1 x3 eB))) 1) then
 self x1 ((x2++[(IntKind.wrap .u8 (AX (nth x1 x3 eB)))])++(Ax (nth x1 x3 eB))) (An .i64 x3 1)
 else none
 else none
 else none
 else none
 else none
 else
 some ((ofBytes x2),0)
def BR.l0:Nat→BR.A0
 | 0=>fun _ _ _=>none
 | n+1=>BR.S0 (BR.l0 n)
def BR.S (j0:BR.A0) (l:CN):Option Ec:=
 j0 l [] 0
def BR (l:CN):Option Ec:=BR.S (BR.l0 fu) l
abbrev Aj.A0:=CN→CN→Ay→Int→Option NA
abbrev Aj.A1:=CN→CN→Ay→Int→Int→Option NA
abbrev Aj.A2:=CN→CN→Ay→Int→Int→Option NA
abbrev Aj.A3:=CN→CN→Ay→Int→Int→Option NA
abbrev Aj.A4:=CN→CN→Ay→Option NA
abbrev Aj.A5:=CN→CN→Ay→Int→Option NA
abbrev Aj.A6:=CN→CN→Ay→Int→Int→Option NA
def Aj.S6 (o5_2:Aj.A5) (self:Aj.A6):Aj.A6:=fun x27 x28 x29 x30 x31=>
 bif (inB x31 (Ai x28)) then
 bif (inB x30 (Ai x27)) then
 bif (!(eqS (nth x28 x31 eB) (nth x27 x30 eB))) then
 self x27 x28 x29 x30 (An .i64 x31 1)
 else
 bif (Bw ((List.length x29)+1) 8) then
 o5_2 x27 x28 (x29++[x31]) (An .i64 x30 1)
 else none
 else none
 else none
def Aj.l6 (o5_2:Aj.A5):Nat→Aj.A6
 | 0=>fun _ _ _ _ _=>none
 | n+1=>Aj.S6 o5_2 (Aj.l6 o5_2 n)
def Aj.S5 (j6:Aj.A6):Aj.A5:=fun x23 x24 x25 x26=>
 bif (ltI x26 (Ai x23)) then
 j6 x23 x24 x25 x26 0
 else
 some (x24,x25)
def Aj.l5:Nat→Aj.A5
 | 0=>fun _ _ _ _=>none
 | n+1=>Aj.S5 (Aj.l6 (Aj.l5 n) n)
def Aj.S4 (j5:Aj.A5):Aj.A4:=fun x20 x21 x22=>
 j5 x20 x21 x22 0
def Aj.t4:Nat→Aj.A4
 | 0=>fun _ _ _=>none
 | n+1=>Aj.S4 (Aj.l5 n)
def Aj.S3 (o0_1:Aj.A0):Aj.A3:=fun x15 x16 x17 x18 x19=>
 bif (inC 0 x19 (Ai x16)) then
 bif (Bw (0+(List.length (List.take (Int.toNat x19) x16))) 16) then
 bif (inB x18 (Ai x15)) then
 bif (Bw ((List.length (List.take (Int.toNat x19) x16))+1) 16) then
 bif (inC x19 (Ai x16) (Ai x16)) then
 bif (Bw ((List.length ((List.take (Int.toNat x19) x16)++[(nth x15 x18 eB)]))+(List.length (List.drop (Int.toNat x19) x16))) 16) then
 o0_1 x15 (((List.take (Int.toNat x19) x16)++[(nth x15 x18 eB)])++(List.drop (Int.toNat x19) x16)) x17 (An .i64 x18 1)
 else none
 else none
 else none
 else none
 else none
 else none
def Aj.t3 (o0_1:Aj.A0):Nat→Aj.A3
 | 0=>fun _ _ _ _ _=>none
 | _+1=>Aj.S3 o0_1
def Aj.S2 (o0_1:Aj.A0) (j3:Aj.A3):Aj.A2:=fun x10 x11 x12 x13 x14=>
 bif (ltI x14 (Ai x11)) then
 bif (inB x14 (Ai x11)) then
 bif (inB x13 (Ai x10)) then
 bif (eqS (nth x11 x14 eB) (nth x10 x13 eB)) then
 o0_1 x10 x11 x12 (An .i64 x13 1)
 else
 j3 x10 x11 x12 x13 x14
 else none
 else none
 else
 j3 x10 x11 x12 x13 x14
def Aj.t2 (o0_1:Aj.A0):Nat→Aj.A2
 | 0=>fun _ _ _ _ _=>none
 | n+1=>Aj.S2 o0_1 (Aj.t3 o0_1 n)
def Aj.S1 (o2_1:Aj.A2) (self:Aj.A1):Aj.A1:=fun x5 x6 x7 x8 x9=>
 bif (ltI x9 (Ai x6)) then
 bif (inB x9 (Ai x6)) then
 bif (inB x8 (Ai x5)) then
 bif (ltS (nth x6 x9 eB) (nth x5 x8 eB)) then
 self x5 x6 x7 x8 (An .i64 x9 1)
 else
 o2_1 x5 x6 x7 x8 x9
 else none
 else none
 else
 o2_1 x5 x6 x7 x8 x9
def Aj.l1 (o2_1:Aj.A2):Nat→Aj.A1
 | 0=>fun _ _ _ _ _=>none
 | n+1=>Aj.S1 o2_1 (Aj.l1 o2_1 n)
def Aj.S0 (o4_0:Aj.A4) (j1:Aj.A1):Aj.A0:=fun x1 x2 x3 x4=>
 bif (ltI x4 (Ai x1)) then
 j1 x1 x2 x3 x4 0
 else
 o4_0 x1 x2 x3
def Aj.l0 (o4_0:Aj.A4):Nat→Aj.A0
 | 0=>fun _ _ _ _=>none
 | n+1=>Aj.S0 o4_0 (Aj.l1 (Aj.t2 (Aj.l0 o4_0 n) n) n)
def Aj.S (j0:Aj.A0) (l:CN):Option NA:=
 j0 l [] [] 0
def Aj (l:CN):Option NA:=Aj.S (Aj.l0 (Aj.t4 fu) fu) l
def JT (l:CN):Option Ec:=
 bif (ltI 65536 (Ai l)) then
 some (eB,1)
 else
 bif (eqI (Ai l) 0) then
 some (eB,0)
 else
 ((Aj l)).bind fun x1=>
 ((BR x1.1)).bind fun x2=>
 bif (neI x2.2 0) then
 some (eB,x2.2)
 else
 ((CG (Ai x1.1))).bind fun x3=>
 bif (CK x3 x2.1) then
 ((JB x1.2)).bind fun x4=>
 bif (CK (Ei x3 x2.1) x4) then
 some ((Ei (Ei x3 x2.1) x4),0)
 else none
 else none
def MI (l:CN) (code:Int):Option (ByteArray×Bool):=
 bif (eqI code 1) then
 ((BR l)).bind fun x1=>
 some (x1.1,(eqI x1.2 0))
 else
 bif (eqI code 2) then
 bif (ltI 0 (Ai l)) then
 ((Aj l)).bind fun x2=>
 ((BR x2.1)).bind fun x3=>
 ((DJ x2.2)).bind fun x4=>
 ((CW x4)).bind fun x5=>
 ((CG (Ai x2.1))).bind fun x6=>
 bif (CK x6 x3.1) then
 bif (CK (Ei x6 x3.1) x5.1) then
 some ((Ei (Ei x6 x3.1) x5.1),true)
 else none
 else none
 else
 some (eB,true)
 else
 bif (eqI code 4) then
 ((JT l)).bind fun x7=>
 some (x7.1,(eqI x7.2 0))
 else
 some (eB,false)
def Lv (l:Cp) (kind code:Int):Option (ByteArray×Bool):=
 bif (eqI kind 1) then
 ((De l)).bind fun x1=>
 ((KK x1 code)).bind fun x2=>
 some x2
 else
 ((CJ l)).bind fun x3=>
 ((MI x3 code)).bind fun x4=>
 some x4
abbrev Bn.A0:=ByteArray→Int→Int→Option Int
abbrev Bn.A1:=ByteArray→Int→Int→Int→Option Int
def Bn.S1 (o0_1:Bn.A0) (self:Bn.A1):Bn.A1:=fun x4 x5 x6 x7=>
 bif (ltI x7 8) then
 bif (inB x6 (AX x4)) then
 bif (leI 0 x7) then
 bif (neI (BF .i64 x5 1) (BF .i64 (BG .i64 (IntKind.wrap .i64 (byteAt x4 x6)) x7) 1)) then
 self x4 (FM .i64 (BG .i64 x5 1) 2197175160) x6 (An .i64 x7 1)
 else
 self x4 (BG .i64 x5 1) x6 (An .i64 x7 1)
 else none
 else none
 else
 o0_1 x4 x5 (An .i64 x6 1)
def Bn.l1 (o0_1:Bn.A0):Nat→Bn.A1
 | 0=>fun _ _ _ _=>none
 | n+1=>Bn.S1 o0_1 (Bn.l1 o0_1 n)
def Bn.S0 (j1:Bn.A1):Bn.A0:=fun x1 x2 x3=>
 bif (ltI x3 (AX x1)) then
 j1 x1 x2 x3 0
 else
 some (FM .i64 x2 4294967295)
def Bn.l0:Nat→Bn.A0
 | 0=>fun _ _ _=>none
 | n+1=>Bn.S0 (Bn.l1 (Bn.l0 n) n)
def Bn.S (j0:Bn.A0) (sum:Int) (s:ByteArray):Option Int:=
 j0 s (FM .i64 (BF .i64 sum 4294967295) 4294967295) 0
def Bn (sum:Int) (s:ByteArray):Option Int:=Bn.S (Bn.l0 fu) sum s
def Pf (s:ByteArray):Option Int:=
 ((Bn 0 s)).bind fun x1=>
 some x1
def Lw (s:ByteArray):Option ByteArray:=
 ((Pf s)).bind fun x1=>
 bif (CK s (ofBytes [(IntKind.wrap .u8 (BF .i64 x1 255)),(IntKind.wrap .u8 (BF .i64 (BG .i64 x1 8) 255)),(IntKind.wrap .u8 (BF .i64 (BG .i64 x1 16) 255)),(IntKind.wrap .u8 (BF .i64 (BG .i64 x1 24) 255))])) then
 some (Ei s (ofBytes [(IntKind.wrap .u8 (BF .i64 x1 255)),(IntKind.wrap .u8 (BF .i64 (BG .i64 x1 8) 255)),(IntKind.wrap .u8 (BF .i64 (BG .i64 x1 16) 255)),(IntKind.wrap .u8 (BF .i64 (BG .i64 x1 24) 255))]))
 else none
def Ga (l:Cp) (kind code:Int):Option Ec:=
 ((BT l kind)).bind fun x1=>
 bif (!x1) then
 some (eB,1)
 else
 ((Bv l)).bind fun x2=>
 ((Lv x2.2 kind code)).bind fun x3=>
 bif (!x3.2) then
 some (eB,1)
 else
 bif (CK (ofBytes [(IntKind.wrap .u8 kind),(IntKind.wrap .u8 code),(IntKind.wrap .u8 (Ai l)),(IntKind.wrap .u8 (AX x2.1))]) x2.1) then
 bif (CK (Ei (ofBytes [(IntKind.wrap .u8 kind),(IntKind.wrap .u8 code),(IntKind.wrap .u8 (Ai l)),(IntKind.wrap .u8 (AX x2.1))]) x2.1) x3.1) then
 ((Lw (Ei (Ei (ofBytes [(IntKind.wrap .u8 kind),(IntKind.wrap .u8 code),(IntKind.wrap .u8 (Ai l)),(IntKind.wrap .u8 (AX x2.1))]) x2.1) x3.1))).bind fun x4=>
 some (x4,0)
 else none
 else none
abbrev Bo.A0:=ByteArray→Int→Int→Int→Option Int
abbrev Bo.A1:=ByteArray→Int→Int→Int→Int→Option Int
def Bo.S1 (o0_1:Bo.A0) (self:Bo.A1):Bo.A1:=fun x5 x6 x7 x8 x9=>
 bif (ltI x9 8) then
 self x5 (FM .u32 (BG .u32 x6 1) (BF .u32 2197175160 (AT .u32 0 (BF .u32 x6 1)))) x7 x8 (An .i64 x9 1)
 else
 o0_1 x5 x6 x7 (An .i64 x8 1)
def Bo.l1 (o0_1:Bo.A0):Nat→Bo.A1
 | 0=>fun _ _ _ _ _=>none
 | n+1=>Bo.S1 o0_1 (Bo.l1 o0_1 n)
def Bo.S0 (j1:Bo.A1):Bo.A0:=fun x1 x2 x3 x4=>
 bif (ltI x4 x3) then
 bif (inB x4 (AX x1)) then
 j1 x1 (FM .u32 x2 (IntKind.wrap .u32 (byteAt x1 x4))) x3 x4 0
 else none
 else
 some (IntKind.wrap .i64 (FM .u32 4294967295 x2))
def Bo.l0:Nat→Bo.A0
 | 0=>fun _ _ _ _=>none
 | n+1=>Bo.S0 (Bo.l1 (Bo.l0 n) n)
def Bo.S (j0:Bo.A0) (sum:Int) (s:ByteArray):Option Int:=
 j0 s (FM .u32 4294967295 (IntKind.wrap .u32 sum)) (AX s) 0
def Bo (sum:Int) (s:ByteArray):Option Int:=Bo.S (Bo.l0 fu) sum s
def Pg (s:ByteArray):Option Int:=
 ((Bo 0 s)).bind fun x1=>
 some x1
abbrev Cj.A0:=Int→Ay→Int→Option ByteArray
def Cj.S0 (self:Cj.A0):Cj.A0:=fun x2 x3 x4=>
 bif (ltI x4 4) then
 bif (leI 0 (Df .i64 8 x4)) then
 bif (Bw ((List.length x3)+1) 1) then
 self x2 (x3++[(IntKind.wrap .u8 (BG .u32 x2 (Df .i64 8 x4)))]) (An .i64 x4 1)
 else none
 else none
 else
 some (ofBytes x3)
def Cj.l0:Nat→Cj.A0
 | 0=>fun _ _ _=>none
 | n+1=>Cj.S0 (Cj.l0 n)
def Cj.S (j0:Cj.A0) (s:ByteArray):Option ByteArray:=
 ((Pg s)).bind fun x1=>
 bif ((leI 0 (An .i64 (AX s) 4)) && (Bw (Int.toNat (An .i64 (AX s) 4)) 1)) then
 bif (Bw (0+(ByteArray.size s)) 1) then
 j0 (IntKind.wrap .u32 x1) (Ax s) 0
 else none
 else none
def Cj (s:ByteArray):Option ByteArray:=Cj.S (Cj.l0 fu) s
def NU (s:ByteArray):Option Ec:=
 bif (ltI (AT .i64 (AX s) 4) 0) then
 some (eB,5)
 else
 bif (inC 0 (AT .i64 (AX s) 4) (AX s)) then
 ((Cj (cutS s 0 (AT .i64 (AX s) 4)))).bind fun x1=>
 bif (!(eqS x1 s)) then
 some (eB,5)
 else
 bif (inC 0 (AT .i64 (AX s) 4) (AX s)) then
 some ((cutS s 0 (AT .i64 (AX s) 4)),0)
 else none
 else none
def GI (xn width:Int):Int:=
 bif (ltI xn 1) then
 0
 else
 bif (ltI 65536 xn) then
 0
 else
 bif (ltI width 1) then
 0
 else
 bif (ltI 64 width) then
 0
 else
 (BG .i64 (An .i64 (Df .i64 xn width) 7) 3)
def GI.o (xn width:Int):Option Int:=
 bif (ltI xn 1) then
 some 0
 else
 bif (ltI 65536 xn) then
 some 0
 else
 bif (ltI width 1) then
 some 0
 else
 bif (ltI 64 width) then
 some 0
 else
 some (BG .i64 (An .i64 (Df .i64 xn width) 7) 3)
def Hz (w:Int):Option Int:=
 bif (leI w 0) then
 some 0
 else
 bif (leI 64 w) then
 some (-1)
 else
 bif (leI 0 w) then
 some (IntKind.wrap .i64 (AT .u64 (Fc .u64 1 w) 1))
 else none
abbrev Dt.A0:=ByteArray→Int→Int→Int→Int→Option Int
def Dt.S0 (self:Dt.A0):Dt.A0:=fun x1 x2 x3 x4 x5=>
 bif (ltI x5 x2) then
 bif (inB (BG .i64 x4 3) (AX x1)) then
 bif (leI 0 (BF .i64 x4 7)) then
 ((Hz (Et (AT .i64 8 (BF .i64 x4 7)) (AT .i64 x2 x5)))).bind fun x6=>
 bif (leI 0 x5) then
 self x1 x2 (orI .u64 x3 (Fc .u64 (BF .u64 (BG .u64 (IntKind.wrap .u64 (byteAt x1 (BG .i64 x4 3))) (BF .i64 x4 7)) (IntKind.wrap .u64 x6)) x5)) (An .i64 x4 (Et (AT .i64 8 (BF .i64 x4 7)) (AT .i64 x2 x5))) (An .i64 x5 (Et (AT .i64 8 (BF .i64 x4 7)) (AT .i64 x2 x5)))
 else none
 else none
 else none
 else
 some (IntKind.wrap .i64 x3)
def Dt.l0:Nat→Dt.A0
 | 0=>fun _ _ _ _ _=>none
 | n+1=>Dt.S0 (Dt.l0 n)
def Dt.S (j0:Dt.A0) (s:ByteArray) (xk width:Int):Option Int:=
 j0 s width 0 (Df .i64 xk width) 0
def Dt (s:ByteArray) (xk width:Int):Option Int:=Dt.S (Dt.l0 fu) s xk width
abbrev BC.A0:=ByteArray→Int→Int→Option Fb
abbrev BC.A1:=ByteArray→Int→Int→Int→Ay→Option Fb
def BC.S1 (self:BC.A1):BC.A1:=fun x5 x6 x7 x8 x9=>
 bif (ltI x8 x7) then
 ((Dt x5 x8 x6)).bind fun x10=>
 bif (inB x8 (Ai x9)) then
 self x5 x6 x7 (An .i64 x8 1) (List.set x9 (Int.toNat x8) x10)
 else none
 else
 some (x9,0)
def BC.l1:Nat→BC.A1
 | 0=>fun _ _ _ _ _=>none
 | n+1=>BC.S1 (BC.l1 n)
def BC.S0 (j1:BC.A1):BC.A0:=fun x2 x3 x4=>
 bif ((leI 0 x3) && (Bw (Int.toNat x3) 8)) then
 j1 x2 x4 x3 0 (List.replicate (Int.toNat x3) (0:Int))
 else none
def BC.t0:Nat→BC.A0
 | 0=>fun _ _ _=>none
 | n+1=>BC.S0 (BC.l1 n)
def BC.S (j0:BC.A0) (s:ByteArray) (xn width:Int):Option Fb:=
 bif (ltI width 0) then
 some ([],1)
 else
 bif (ltI 64 width) then
 some ([],1)
 else
 bif (ltI xn 0) then
 some ([],1)
 else
 bif (ltI 65536 xn) then
 some ([],1)
 else
 bif (neI (AX s) (GI xn width)) then
 some ([],20)
 else
 bif (ltI 0 (BF .i64 (Df .i64 xn width) 7)) then
 bif (inB (AT .i64 (AX s) 1) (AX s)) then
 bif (leI 0 (BF .i64 (Df .i64 xn width) 7)) then
 bif (ltI 0 (BG .u8 (byteAt s (AT .i64 (AX s) 1)) (BF .i64 (Df .i64 xn width) 7))) then
 some ([],20)
 else
 j0 s xn width
 else none
 else none
 else
 j0 s xn width
def BC (s:ByteArray) (xn width:Int):Option Fb:=BC.S (BC.t0 fu) s xn width
abbrev Bl.A0:=Ay→Int→Int→Int→Option Int
def Bl.S0 (self:Bl.A0):Bl.A0:=fun x1 x2 x3 x4=>
 bif (ltI x4 x3) then
 bif (inB x4 (Ai x1)) then
 bif (eqI x2 (nth x1 x4 0)) then
 some x4
 else
 self x1 x2 x3 (An .i64 x4 1)
 else none
 else
 some (-1)
def Bl.l0:Nat→Bl.A0
 | 0=>fun _ _ _ _=>none
 | n+1=>Bl.S0 (Bl.l0 n)
def Bl.S (j0:Bl.A0) (s:Ay) (v:Int):Option Int:=
 j0 s v (Ai s) 0
def Bl (s:Ay) (v:Int):Option Int:=Bl.S (Bl.l0 fu) s v
def Gf (s:Ay) (v:Int):Option Bool:=
 ((Bl s v)).bind fun x1=>
 some (leI 0 x1)
def Lx (s:ByteArray) (xn:Int):Option Fb:=
 bif (ltI xn 0) then
 some ([],1)
 else
 bif (ltI 65536 xn) then
 some ([],1)
 else
 bif (eqS s eB) then
 bif ((leI 0 xn) && (Bw (Int.toNat xn) 8)) then
 some ((List.replicate (Int.toNat xn) (0:Int)),0)
 else none
 else
 ((BC s xn 1)).bind fun x1=>
 bif (neI x1.2 0) then
 some ([],20)
 else
 ((Gf x1.1 1)).bind fun x2=>
 bif (!x2) then
 some ([],20)
 else
 some (x1.1,0)
abbrev Ck.A0:=Int→Int→Ay→Int→Int→Option Oz
def Ck.S0 (self:Ck.A0):Ck.A0:=fun x2 x3 x4 x5 x6=>
 bif (ltI x6 x5) then
 bif (inB x6 (Ai x4)) then
 self x2 (An .i64 x3 (nth x4 x6 0)) x4 x5 (An .i64 x6 1)
 else none
 else
 some (x3,x2)
def Ck.l0:Nat→Ck.A0
 | 0=>fun _ _ _ _ _=>none
 | n+1=>Ck.S0 (Ck.l0 n)
def Ck.S (j0:Ck.A0) (s:ByteArray) (xn:Int):Option Oz:=
 ((Lx s xn)).bind fun x1=>
 j0 x1.2 0 x1.1 (Ai x1.1) 0
def Ck (s:ByteArray) (xn:Int):Option Oz:=Ck.S (Ck.l0 fu) s xn
abbrev AL.A0:=ByteArray→Int→Int→Ay→Option Fb
abbrev AL.A1:=ByteArray→Int→Int→Int→Int→Int→Ay→Option Fb
def AL.S1 (o0_1:AL.A0) (self:AL.A1):AL.A1:=fun x5 x6 x7 x8 x9 x10 x11=>
 bif (ltI x10 8) then
 bif (inB (An .i64 (Df .i64 8 x6) x10) (AX x5)) then
 bif (leI 0 (Df .i64 8 x10)) then
 self x5 x6 (orI .u64 x7 (Fc .u64 (IntKind.wrap .u64 (byteAt x5 (An .i64 (Df .i64 8 x6) x10))) (Df .i64 8 x10))) x8 x9 (An .i64 x10 1) x11
 else none
 else none
 else
 bif (inB x6 (Ai x11)) then
 o0_1 x5 x8 (An .i64 x9 1) (List.set x11 (Int.toNat x6) (IntKind.wrap .i64 x7))
 else none
def AL.l1 (o0_1:AL.A0):Nat→AL.A1
 | 0=>fun _ _ _ _ _ _ _=>none
 | n+1=>AL.S1 o0_1 (AL.l1 o0_1 n)
def AL.S0 (j1:AL.A1):AL.A0:=fun x1 x2 x3 x4=>
 bif (ltI x3 x2) then
 j1 x1 x3 0 x2 x3 0 x4
 else
 some (x4,0)
def AL.l0:Nat→AL.A0
 | 0=>fun _ _ _ _=>none
 | n+1=>AL.S0 (AL.l1 (AL.l0 n) n)
def AL.S (j0:AL.A0) (s:ByteArray) (xn:Int):Option Fb:=
 bif (ltI xn 0) then
 some ([],20)
 else
 bif (neI (NC (AX s) 8) 0) then
 some ([],20)
 else
 bif (neI xn (GL .i64 (AX s) 8)) then
 some ([],20)
 else
 bif ((leI 0 xn) && (Bw (Int.toNat xn) 8)) then
 j0 s xn 0 (List.replicate (Int.toNat xn) (0:Int))
 else none
def AL (s:ByteArray) (xn:Int):Option Fb:=AL.S (AL.l0 fu) s xn
abbrev Cq.A0:=Int→Int→Int→Option Int
abbrev CX.A0:=ByteArray→Int→Int→Int→Option (Int×Int×Int)
abbrev CO.A0:=FH→Int→FH→Int→Int→Option (Int×Bool)
def CO.S0 (self:CO.A0):CO.A0:=fun x1 x2 x3 x4 x5=>
 bif (ltI x5 x4) then
 bif (inB x5 (Ai x3)) then
 bif (neI (nth x3 x5 (0,0,0)).2.1 x2) then
 some (0,false)
 else
 bif (ltI (nth x3 x5 (0,0,0)).2.2 1) then
 some (0,false)
 else
 bif (ltI (AT .i64 65536 x2) (nth x3 x5 (0,0,0)).2.2) then
 some (0,false)
 else
 bif (ltI 0 x5) then
 bif (inB (AT .i64 x5 1) (Ai x1)) then
 bif (eqI (nth x3 x5 (0,0,0)).1 (nth x1 (AT .i64 x5 1) (0,0,0)).1) then
 some (0,false)
 else
 self x1 (An .i64 x2 (nth x3 x5 (0,0,0)).2.2) x3 x4 (An .i64 x5 1)
 else none
 else
 self x1 (An .i64 x2 (nth x3 x5 (0,0,0)).2.2) x3 x4 (An .i64 x5 1)
 else none
 else
 some (x2,true)
def CO.l0:Nat→CO.A0
 | 0=>fun _ _ _ _ _=>none
 | n+1=>CO.S0 (CO.l0 n)
def CO.S (j0:CO.A0) (l:FH):Option (Int×Bool):=
 j0 l 0 l (Ai l) 0
def CO (l:FH):Option (Int×Bool):=CO.S (CO.l0 fu) l
abbrev BI.A0:=ByteArray→Int→FH→Int→Option (FH×Int)
abbrev BI.A1:=Int→FH→Int→Option (FH×Int)
def BI.S1:BI.A1:=fun x7 x8 x9=>
 ((CO x8)).bind fun x10=>
 bif (!x10.2) then
 some ([],20)
 else
 bif (neI x9 x7) then
 some ([],20)
 else
 some (x8,0)
def BI.t1:Nat→BI.A1
 | 0=>fun _ _ _=>none
 | _+1=>BI.S1
def BI.S0 (o1_0:BI.A1) (self:BI.A0):BI.A0:=fun x1 x2 x3 x4=>
 bif (!(eqS x1 eB)) then
 ((CX x1)).bind fun x5=>
 bif (neI x5.2.2 0) then
 some ([],20)
 else
 bif (inC x5.2.1 (AX x1) (AX x1)) then
 ((CX (cutS x1 x5.2.1 (AX x1)))).bind fun x6=>
 bif (neI x6.2.2 0) then
 some ([],20)
 else
 bif (ltI x6.1 1) then
 some ([],20)
 else
 bif (ltI (AT .i64 x2 x4) x6.1) then
 some ([],20)
 else
 bif (Bw ((List.length x3)+1) 24) then
 bif (inC (An .i64 x5.2.1 x6.2.1) (AX x1) (AX x1)) then
 self (cutS x1 (An .i64 x5.2.1 x6.2.1) (AX x1)) x2 (x3++[(x5.1,x4,x6.1)]) (An .i64 x4 x6.1)
 else none
 else none
 else none
 else
 o1_0 x2 x3 x4
def BI.l0 (o1_0:BI.A1):Nat→BI.A0
 | 0=>fun _ _ _ _=>none
 | n+1=>BI.S0 o1_0 (BI.l0 o1_0 n)
def BI.S (j0:BI.A0) (s:ByteArray) (xn:Int):Option (FH×Int):=
 bif (ltI xn 0) then
 some ([],1)
 else
 bif (ltI 65536 xn) then
 some ([],1)
 else
 j0 s xn [] 0
def BI (s:ByteArray) (xn:Int):Option (FH×Int):=BI.S (BI.l0 (BI.t1 fu) fu) s xn
def Ly (x y:Int):Int×Int:=
 ((An .u64 (An .u64 (Df .u64 (BG .u64 x 32) (BG .u64 y 32)) (BG .u64 (An .u64 (Df .u64 (BG .u64 x 32) (BF .u64 y 4294967295)) (BG .u64 (Df .u64 (BF .u64 x 4294967295) (BF .u64 y 4294967295)) 32)) 32)) (BG .u64 (An .u64 (BF .u64 (An .u64 (Df .u64 (BG .u64 x 32) (BF .u64 y 4294967295)) (BG .u64 (Df .u64 (BF .u64 x 4294967295) (BF .u64 y 4294967295)) 32)) 4294967295) (Df .u64 (BF .u64 x 4294967295) (BG .u64 y 32))) 32)),(Df .u64 x y))
def KL (x y:Int):Int×Int:=
 (Ly x y)
abbrev Aw.A0:=Ay→Int→Option (Ay)
abbrev Aw.A1:=Ay→Int→Option (Ay)
abbrev Aw.A2:=Int→Ay→Option (Ay)
def Aw.S2 (self:Aw.A2):Aw.A2:=fun x6 x7=>
 bif (ltI x6 (Ai x7)) then
 bif (inC x6 (Ai x7) (Ai x7)) then
 bif (inC 0 x6 (Ai x7)) then
 self (An .i64 x6 (((List.length (List.take ((Int.toNat (Ai x7))-(Int.toNat x6)) (List.take ((Int.toNat x6)-0) (List.drop 0 x7)))):Nat):Int)) (GA x7 (Int.toNat x6) (List.take ((Int.toNat (Ai x7))-(Int.toNat x6)) (List.take ((Int.toNat x6)-0) (List.drop 0 x7))))
 else none
 else none
 else
 some x7
def Aw.l2:Nat→Aw.A2
 | 0=>fun _ _=>none
 | n+1=>Aw.S2 (Aw.l2 n)
def Aw.S1 (j2:Aw.A2):Aw.A1:=fun x4 x5=>
 bif ((leI 0 (IntKind.wrap .i64 x5)) && (Bw (Int.toNat (IntKind.wrap .i64 x5)) 8)) then
 j2 (((List.length (List.take (List.length (List.replicate (Int.toNat (IntKind.wrap .i64 x5)) (0:Int))) x4)):Nat):Int) (GA (List.replicate (Int.toNat (IntKind.wrap .i64 x5)) (0:Int)) 0 (List.take (List.length (List.replicate (Int.toNat (IntKind.wrap .i64 x5)) (0:Int))) x4))
 else none
def Aw.t1:Nat→Aw.A1
 | 0=>fun _ _=>none
 | n+1=>Aw.S1 (Aw.l2 n)
def Aw.S0 (j1:Aw.A1):Aw.A0:=fun x1 x2=>
 let x3:=(KL (IntKind.wrap .u64 (Ai x1)) (IntKind.wrap .u64 x2))
 bif (ltI 0 x3.1) then
 none
 else
 bif (ltI 9223372036854775807 x3.2) then
 none
 else
 j1 x1 x3.2
def Aw.t0:Nat→Aw.A0
 | 0=>fun _ _=>none
 | n+1=>Aw.S0 (Aw.t1 n)
def Aw.S (j0:Aw.A0) (x:Ay) (count:Int):Option (Ay):=
 bif (ltI count 0) then
 none
 else
 j0 x count
def Aw (x:Ay) (count:Int):Option (Ay):=Aw.S (Aw.t0 fu) x count
abbrev CY.A0:=Ay→FH→Int→Int→Option Fb
def CY.S0 (self:CY.A0):CY.A0:=fun x2 x3 x4 x5=>
 bif (ltI x5 x4) then
 bif (inB x5 (Ai x3)) then
 ((Aw [(nth x3 x5 (0,0,0)).1] (nth x3 x5 (0,0,0)).2.2)).bind fun x6=>
 bif (Bw ((List.length x2)+(List.length x6)) 8) then
 self (x2++x6) x3 x4 (An .i64 x5 1)
 else none
 else none
 else
 some (x2,0)
def CY.l0:Nat→CY.A0
 | 0=>fun _ _ _ _=>none
 | n+1=>CY.S0 (CY.l0 n)
def CY.S (j0:CY.A0) (l:FH):Option Fb:=
 ((CO l)).bind fun x1=>
 bif (!x1.2) then
 some ([],1)
 else
 bif ((leI 0 x1.1) && (Bw (Int.toNat x1.1) 8)) then
 j0 [] l (Ai l) 0
 else none
def CY (l:FH):Option Fb:=CY.S (CY.l0 fu) l
def Fm (t0:ByteArray) (t1:Bool):Option (Int×ByteArray×Bool):=
 ((CX t0)).bind fun x1=>
 bif t1 then
 bif (inC x1.2.1 (AX t0) (AX t0)) then
 some (x1.1,(cutS t0 x1.2.1 (AX t0)),true)
 else none
 else
 bif (inC x1.2.1 (AX t0) (AX t0)) then
 some (x1.1,(cutS t0 x1.2.1 (AX t0)),(neI x1.2.2 0))
 else none
def Ij (xfrom xby:Int):Int:=
 (IntKind.wrap .i64 (An .u64 (IntKind.wrap .u64 xfrom) (IntKind.wrap .u64 xby)))
abbrev BV.A0:=Int→Int→Ay→Option ByteArray
abbrev BV.A1:=Int→Int→Ay→Option ByteArray
def MZ (xfrom xto:Int):Int:=
 (IntKind.wrap .i64 (AT .u64 (IntKind.wrap .u64 xto) (IntKind.wrap .u64 xfrom)))
abbrev AI.A0:=Ay→Option Int
abbrev AI.A1:=Ay→Int→Int→Option Int
def AI.S1 (self:AI.A1):AI.A1:=fun x2 x3 x4=>
 bif (ltI x4 (Ai x2)) then
 bif (inB x4 (Ai x2)) then
 self x2 (Et x3 (nth x2 x4 0)) (An .i64 x4 1)
 else none
 else
 some x3
def AI.l1:Nat→AI.A1
 | 0=>fun _ _ _=>none
 | n+1=>AI.S1 (AI.l1 n)
def AI.S0 (j1:AI.A1):AI.A0:=fun x1=>
 bif (inB 0 (Ai x1)) then
 j1 x1 (nth x1 0 0) 1
 else none
def AI.t0:Nat→AI.A0
 | 0=>fun _=>none
 | n+1=>AI.S0 (AI.l1 n)
def AI.S (j0:AI.A0) (x:Ay):Option Int:=
 bif (ltI (Ai x) 1) then
 none
 else
 j0 x
def AI (x:Ay):Option Int:=AI.S (AI.t0 fu) x
abbrev AN.A0:=Ay→Int→Ay→Option Fb
abbrev AN.A1:=Ay→Option Fb
abbrev AN.A2:=Int→Int→Int→Ay→Option Fb
def AN.S2 (self:AN.A2):AN.A2:=fun x7 x8 x9 x10=>
 bif (ltI x9 x8) then
 bif (inB x9 (Ai x10)) then
 bif (inB x9 (Ai x10)) then
 self x7 x8 (An .i64 x9 1) (List.set x10 (Int.toNat x9) (MZ x7 (List.getD x10 (Int.toNat x9) 0)))
 else none
 else none
 else
 some (x10,x7)
def AN.l2:Nat→AN.A2
 | 0=>fun _ _ _ _=>none
 | n+1=>AN.S2 (AN.l2 n)
def AN.S1 (j2:AN.A2):AN.A1:=fun x5=>
 ((AI x5)).bind fun x6=>
 j2 x6 (Ai x5) 0 x5
def AN.t1:Nat→AN.A1
 | 0=>fun _=>none
 | n+1=>AN.S1 (AN.l2 n)
def AN.S0 (o1_0:AN.A1) (self:AN.A0):AN.A0:=fun x1 x2 x3=>
 bif (ltI x2 (Ai x1)) then
 bif (inB (AT .i64 x2 1) (Ai x1)) then
 bif (inB x2 (Ai x1)) then
 bif (Bw ((List.length x3)+1) 8) then
 self x1 (An .i64 x2 1) (x3++[(MZ (nth x1 (AT .i64 x2 1) 0) (nth x1 x2 0))])
 else none
 else none
 else none
 else
 o1_0 x3
def AN.l0 (o1_0:AN.A1):Nat→AN.A0
 | 0=>fun _ _ _=>none
 | n+1=>AN.S0 o1_0 (AN.l0 o1_0 n)
def AN.S (j0:AN.A0) (l:Ay):Option Fb:=
 bif ((leI 0 (Ai l)) && (Bw (Int.toNat (Ai l)) 8)) then
 j0 l 1 []
 else none
def AN (l:Ay):Option Fb:=AN.S (AN.l0 (AN.t1 fu) fu) l
abbrev BN.A0:=Int→Ay→Int→Int→Option Int
def BN.S0 (self:BN.A0):BN.A0:=fun x1 x2 x3 x4=>
 bif (ltI x4 x3) then
 bif (inB x4 (Ai x2)) then
 self (orI .i64 x1 (nth x2 x4 0)) x2 x3 (An .i64 x4 1)
 else none
 else
 ((Cq x1)).bind fun x5=>
 some x5
def BN.l0:Nat→BN.A0
 | 0=>fun _ _ _ _=>none
 | n+1=>BN.S0 (BN.l0 n)
def BN.S (j0:BN.A0) (l:Ay):Option Int:=
 j0 0 l (Ai l) 0
def BN (l:Ay):Option Int:=BN.S (BN.l0 fu) l
abbrev AY.A0:=Int→Ay→Int→Int→Ay→Int→Int→Option Ec
abbrev AY.A1:=Int→Ay→Int→Int→Int→Int→Ay→Int→Int→Option Ec
abbrev AY.A2:=Ay→Int→Int→Option Ec
def AY.S2:AY.A2:=fun x20 x21 x22=>
 bif (ltI 0 x22) then
 bif (Bw ((List.length x20)+1) 1) then
 some ((ofBytes (x20++[(IntKind.wrap .u8 x21)])),0)
 else none
 else
 some ((ofBytes x20),0)
def AY.t2:Nat→AY.A2
 | 0=>fun _ _ _=>none
 | _+1=>AY.S2
def AY.S1 (o0_1:AY.A0) (self:AY.A1):AY.A1:=fun x10 x11 x12 x13 x14 x15 x16 x17 x18=>
 bif (ltI 0 x15) then
 ((Hz (Et (AT .i64 8 x13) x15))).bind fun x19=>
 bif (leI 0 x13) then
 bif (leI 0 (Et (AT .i64 8 x13) x15)) then
 bif (eqI (An .i64 x13 (Et (AT .i64 8 x13) x15)) 8) then
 bif (Bw ((List.length x11)+1) 1) then
 self x10 (x11++[(IntKind.wrap .u8 (orI .u64 x12 (Fc .u64 (BF .u64 x14 (IntKind.wrap .u64 x19)) x13)))]) 0 0 (BG .u64 x14 (Et (AT .i64 8 x13) x15)) (AT .i64 x15 (Et (AT .i64 8 x13) x15)) x16 x17 x18
 else none
 else
 self x10 x11 (orI .u64 x12 (Fc .u64 (BF .u64 x14 (IntKind.wrap .u64 x19)) x13)) (An .i64 x13 (Et (AT .i64 8 x13) x15)) (BG .u64 x14 (Et (AT .i64 8 x13) x15)) (AT .i64 x15 (Et (AT .i64 8 x13) x15)) x16 x17 x18
 else none
 else none
 else
 o0_1 x10 x11 x12 x13 x16 x17 (An .i64 x18 1)
def AY.l1 (o0_1:AY.A0):Nat→AY.A1
 | 0=>fun _ _ _ _ _ _ _ _ _=>none
 | n+1=>AY.S1 o0_1 (AY.l1 o0_1 n)
def AY.S0 (o2_0:AY.A2) (j1:AY.A1):AY.A0:=fun x3 x4 x5 x6 x7 x8 x9=>
 bif (ltI x9 x8) then
 bif (inB x9 (Ai x7)) then
 j1 x3 x4 x5 x6 (IntKind.wrap .u64 (nth x7 x9 0)) x3 x7 x8 x9
 else none
 else
 o2_0 x4 x5 x6
def AY.l0 (o2_0:AY.A2):Nat→AY.A0
 | 0=>fun _ _ _ _ _ _ _=>none
 | n+1=>AY.S0 o2_0 (AY.l1 (AY.l0 o2_0 n) n)
def AY.S (j0:AY.A0) (l:Ay) (width:Int):Option Ec:=
 bif (ltI width 0) then
 some (eB,1)
 else
 bif (ltI 64 width) then
 some (eB,1)
 else
 bif (ltI 65536 (Ai l)) then
 some (eB,1)
 else
 ((BN l)).bind fun x1=>
 bif (ltI width x1) then
 some (eB,1)
 else
 let x2:=(GI (Ai l) width)
 bif ((leI 0 (An .i64 x2 1)) && (Bw (Int.toNat (An .i64 x2 1)) 1)) then
 j0 width [] 0 0 l (Ai l) 0
 else none
def AY (l:Ay) (width:Int):Option Ec:=AY.S (AY.l0 (AY.t2 fu) fu) l width
def Na (l:Ay):Option Ec:=
 bif (ltI 65536 (Ai l)) then
 some (eB,1)
 else
 bif (eqI (Ai l) 0) then
 some (eB,0)
 else
 bif (eqI (Ai l) 1) then
 bif (inB 0 (Ai l)) then
 ((BV (nth l 0 0))).bind fun x1=>
 some (x1,0)
 else none
 else
 ((AN l)).bind fun x2=>
 ((BN x2.1)).bind fun x3=>
 ((AY x2.1 x3)).bind fun x4=>
 bif (inB 0 (Ai l)) then
 ((BV (nth l 0 0))).bind fun x5=>
 ((BV x2.2)).bind fun x6=>
 bif (CK x5 x6) then
 bif (CK (Ei x5 x6) (ofBytes [(IntKind.wrap .u8 x3)])) then
 bif (CK (Ei (Ei x5 x6) (ofBytes [(IntKind.wrap .u8 x3)])) x4.1) then
 some ((Ei (Ei (Ei x5 x6) (ofBytes [(IntKind.wrap .u8 x3)])) x4.1),x4.2)
 else none
 else none
 else none
 else none
abbrev AP.A0:=ByteArray→Int→Ay→ByteArray→Bool→Option Fb
abbrev AP.A1:=ByteArray→Ay→Int→Ay→Int→Int→Bool→Option Fb
abbrev AP.A2:=ByteArray→Ay→Bool→Option Fb
def AP.S2:AP.A2:=fun x18 x19 x20=>
 ((Na x19)).bind fun x21=>
 bif x20 then
 some ([],20)
 else
 bif (neI x21.2 0) then
 some ([],20)
 else
 bif (!(eqS x21.1 x18)) then
 some ([],20)
 else
 some (x19,0)
def AP.t2:Nat→AP.A2
 | 0=>fun _ _ _=>none
 | _+1=>AP.S2
def AP.S1 (o2_1:AP.A2) (self:AP.A1):AP.A1:=fun x9 x10 x11 x12 x13 x14 x15=>
 bif (ltI x14 x13) then
 bif (inB x14 (Ai x12)) then
 bif (inB (AT .i64 (Ai x10) 1) (Ai x10)) then
 bif (Bw ((List.length x10)+1) 8) then
 self x9 (x10++[(Ij (Ij (nth x10 (AT .i64 (Ai x10) 1) 0) x11) (nth x12 x14 0))]) x11 x12 x13 (An .i64 x14 1) x15
 else none
 else none
 else none
 else
 o2_1 x9 x10 x15
def AP.l1 (o2_1:AP.A2):Nat→AP.A1
 | 0=>fun _ _ _ _ _ _ _=>none
 | n+1=>AP.S1 o2_1 (AP.l1 o2_1 n)
def AP.S0 (j1:AP.A1) (j2:AP.A2):AP.A0:=fun x2 x3 x4 x5 x6=>
 bif (ltI 1 x3) then
 ((Fm x5 x6)).bind fun x7=>
 bif x7.2.2 then
 some ([],20)
 else
 bif (eqS x7.2.1 eB) then
 some ([],20)
 else
 bif (inC 1 (AX x7.2.1) (AX x7.2.1)) then
 bif (inB 0 (AX x7.2.1)) then
 ((BC (cutS x7.2.1 1 (AX x7.2.1)) (AT .i64 x3 1) (IntKind.wrap .i64 (byteAt x7.2.1 0)))).bind fun x8=>
 bif (neI x8.2 0) then
 some ([],20)
 else
 j1 x2 x4 x7.1 x8.1 (Ai x8.1) 0 x7.2.2
 else none
 else none
 else
 j2 x2 x4 x6
def AP.t0:Nat→AP.A0
 | 0=>fun _ _ _ _ _=>none
 | n+1=>AP.S0 (AP.l1 (AP.t2 n) n) (AP.t2 n)
def AP.S (j0:AP.A0) (s:ByteArray) (xn:Int):Option Fb:=
 bif (ltI xn 0) then
 some ([],1)
 else
 bif (ltI 65536 xn) then
 some ([],1)
 else
 bif (ltI 0 xn) then
 ((Fm s false)).bind fun x1=>
 j0 s xn [x1.1] x1.2.1 x1.2.2
 else
 j0 s xn [] s false
def AP (s:ByteArray) (xn:Int):Option Fb:=AP.S (AP.t0 fu) s xn
def Jt (s:ByteArray):Option Oz:=
 ((CX s)).bind fun x1=>
 bif (neI x1.2.2 0) then
 some (0,0)
 else
 some (x1.1,x1.2.1)
abbrev AZ.A0:=IB→Bool→Int→Int→Option Int
def AZ.S0 (self:AZ.A0):AZ.A0:=fun x1 x2 x3 x4=>
 bif (ltI x4 x3) then
 bif (inB x4 (Ai x1)) then
 bif (eqB x2 (nth x1 x4 false)) then
 some x4
 else
 self x1 x2 x3 (An .i64 x4 1)
 else none
 else
 some (-1)
def AZ.l0:Nat→AZ.A0
 | 0=>fun _ _ _ _=>none
 | n+1=>AZ.S0 (AZ.l0 n)
def AZ.S (j0:AZ.A0) (s:IB) (v:Bool):Option Int:=
 j0 s v (Ai s) 0
def AZ (s:IB) (v:Bool):Option Int:=AZ.S (AZ.l0 fu) s v
def DV (s:IB) (v:Bool):Option Bool:=
 ((AZ s v)).bind fun x1=>
 some (leI 0 x1)
abbrev Ad.A0:=ByteArray→Int→Int→Int→Ay→Int→Int→Option (Ay×Ay×Int)
abbrev Ad.A1:=ByteArray→Int→Int→Int→Ay→Option (Ay×Ay×Int)
abbrev Ad.A2:=Int→Ay→Ay→Ay→Int→Int→IB→Option (Ay×Ay×Int)
abbrev Ad.A3:=Ay→Ay→IB→Option (Ay×Ay×Int)
def Ad.S3:Ad.A3:=fun x24 x25 x26=>
 ((DV x26 false)).bind fun x27=>
 bif x27 then
 some ([],[],20)
 else
 some (x24,x25,0)
def Ad.t3:Nat→Ad.A3
 | 0=>fun _ _ _=>none
 | _+1=>Ad.S3
def Ad.S2 (o3_1:Ad.A3) (self:Ad.A2):Ad.A2:=fun x17 x18 x19 x20 x21 x22 x23=>
 bif (ltI x22 x21) then
 bif (inB x22 (Ai x20)) then
 bif (ltI (nth x20 x22 0) 0) then
 some ([],[],20)
 else
 bif (leI x17 (nth x20 x22 0)) then
 some ([],[],20)
 else
 bif (inB (nth x20 x22 0) (Ai x23)) then
 self x17 x18 x19 x20 x21 (An .i64 x22 1) (List.set x23 (Int.toNat (nth x20 x22 0)) true)
 else none
 else none
 else
 o3_1 x18 x19 x23
def Ad.l2 (o3_1:Ad.A3):Nat→Ad.A2
 | 0=>fun _ _ _ _ _ _ _=>none
 | n+1=>Ad.S2 o3_1 (Ad.l2 o3_1 n)
def Ad.S1 (j2:Ad.A2):Ad.A1:=fun x10 x11 x12 x13 x14=>
 bif (inC x13 (AX x10) (AX x10)) then
 ((BN [(AT .i64 x12 1)])).bind fun x15=>
 ((BC (cutS x10 x13 (AX x10)) x11 x15)).bind fun x16=>
 bif (neI x16.2 0) then
 some ([],[],20)
 else
 bif ((leI 0 x12) && (Bw (Int.toNat x12) 1)) then
 j2 x12 x14 x16.1 x16.1 (Ai x16.1) 0 (List.replicate (Int.toNat x12) false)
 else none
 else none
def Ad.t1:Nat→Ad.A1
 | 0=>fun _ _ _ _ _=>none
 | n+1=>Ad.S1 (Ad.l2 (Ad.t3 n) n)
def Ad.S0 (o1_0:Ad.A1) (self:Ad.A0):Ad.A0:=fun x2 x3 x4 x5 x6 x7 x8=>
 bif (ltI x8 x7) then
 bif (inC x5 (AX x2) (AX x2)) then
 ((Jt (cutS x2 x5 (AX x2)))).bind fun x9=>
 bif (eqI x9.2 0) then
 some ([],[],20)
 else
 bif (ltI 0 x8) then
 bif (inB (AT .i64 x8 1) (Ai x6)) then
 bif (leI x9.1 (nth x6 (AT .i64 x8 1) 0)) then
 some ([],[],20)
 else
 bif (Bw ((List.length x6)+1) 8) then
 self x2 x3 x4 (An .i64 x5 x9.2) (x6++[x9.1]) x7 (An .i64 x8 1)
 else none
 else none
 else
 bif (Bw ((List.length x6)+1) 8) then
 self x2 x3 x4 (An .i64 x5 x9.2) (x6++[x9.1]) x7 (An .i64 x8 1)
 else none
 else none
 else
 o1_0 x2 x3 x4 x5 x6
def Ad.l0 (o1_0:Ad.A1):Nat→Ad.A0
 | 0=>fun _ _ _ _ _ _ _=>none
 | n+1=>Ad.S0 o1_0 (Ad.l0 o1_0 n)
def Ad.S (j0:Ad.A0) (s:ByteArray) (xn:Int):Option (Ay×Ay×Int):=
 bif (ltI xn 0) then
 some ([],[],1)
 else
 bif (ltI 65536 xn) then
 some ([],[],1)
 else
 bif (eqI xn 0) then
 bif (!(eqS s eB)) then
 some ([],[],20)
 else
 some ([],[],0)
 else
 ((CX s)).bind fun x1=>
 bif (neI x1.2.2 0) then
 some ([],[],20)
 else
 bif (ltI x1.1 1) then
 some ([],[],20)
 else
 bif (ltI xn x1.1) then
 some ([],[],20)
 else
 j0 s xn x1.1 x1.2.1 [] x1.1 0
def Ad (s:ByteArray) (xn:Int):Option (Ay×Ay×Int):=Ad.S (Ad.l0 (Ad.t1 fu) fu) s xn
abbrev Cg.A0:=Ay→Ay→Ay→Int→Int→Option (Ay)
def Cg.S0 (self:Cg.A0):Cg.A0:=fun x1 x2 x3 x4 x5=>
 bif (ltI x5 x4) then
 bif (inB x5 (Ai x3)) then
 bif (inB (nth x3 x5 0) (Ai x1)) then
 bif (Bw ((List.length x2)+1) 8) then
 self x1 (x2++[(nth x1 (nth x3 x5 0) 0)]) x3 x4 (An .i64 x5 1)
 else none
 else none
 else none
 else
 some x2
def Cg.l0:Nat→Cg.A0
 | 0=>fun _ _ _ _ _=>none
 | n+1=>Cg.S0 (Cg.l0 n)
def Cg.S (j0:Cg.A0) (d places:Ay):Option (Ay):=
 j0 d [] places (Ai places) 0
def Cg (d places:Ay):Option (Ay):=Cg.S (Cg.l0 fu) d places
def Hu (s:ByteArray) (xn:Int):Option Fb:=
 ((Ad s xn)).bind fun x1=>
 bif (neI x1.2.2 0) then
 some ([],x1.2.2)
 else
 ((Cg x1.1 x1.2.1)).bind fun x2=>
 some (x2,0)
def Lz (s:ByteArray) (xn code:Int):Option Fb:=
 bif (eqI code 1) then
 ((AL s xn)).bind fun x1=>
 some x1
 else
 bif (eqI code 2) then
 ((BI s xn)).bind fun x2=>
 bif (neI x2.2 0) then
 some ([],x2.2)
 else
 ((CY x2.1)).bind fun x3=>
 some x3
 else
 bif (eqI code 3) then
 ((AP s xn)).bind fun x4=>
 some x4
 else
 bif (eqI code 4) then
 ((Hu s xn)).bind fun x5=>
 some x5
 else
 bif (eqI code 5) then
 bif (!(eqS s eB)) then
 bif (inC 1 (AX s) (AX s)) then
 bif (inB 0 (AX s)) then
 ((BC (cutS s 1 (AX s)) xn (IntKind.wrap .i64 (byteAt s 0)))).bind fun x6=>
 some x6
 else none
 else none
 else
 some ([],5)
 else
 some ([],5)
abbrev AU.A0:=ByteArray→Int→CN→Option OA
abbrev AU.A1:=Int→CN→Option OA
def AU.S1:AU.A1:=fun x4 x5=>
 bif (neI (Ai x5) x4) then
 some ([],20)
 else
 some (x5,0)
def AU.t1:Nat→AU.A1
 | 0=>fun _ _=>none
 | _+1=>AU.S1
def AU.S0 (o1_0:AU.A1) (self:AU.A0):AU.A0:=fun x1 x2 x3=>
 bif (!(eqS x1 eB)) then
 bif (inB 0 (AX x1)) then
 bif (ltI 32 (IntKind.wrap .i64 (byteAt x1 0))) then
 some ([],20)
 else
 bif (leI (AX x1) (IntKind.wrap .i64 (byteAt x1 0))) then
 some ([],20)
 else
 bif (inC 1 (An .i64 1 (IntKind.wrap .i64 (byteAt x1 0))) (AX x1)) then
 bif (Bw ((List.length x3)+1) 16) then
 bif (inC (An .i64 1 (IntKind.wrap .i64 (byteAt x1 0))) (AX x1) (AX x1)) then
 self (cutS x1 (An .i64 1 (IntKind.wrap .i64 (byteAt x1 0))) (AX x1)) x2 (x3++[(cutS x1 1 (An .i64 1 (IntKind.wrap .i64 (byteAt x1 0))))])
 else none
 else none
 else none
 else none
 else
 o1_0 x2 x3
def AU.l0 (o1_0:AU.A1):Nat→AU.A0
 | 0=>fun _ _ _=>none
 | n+1=>AU.S0 o1_0 (AU.l0 o1_0 n)
def AU.S (j0:AU.A0) (s:ByteArray) (xn:Int):Option OA:=
 j0 s xn []
def AU (s:ByteArray) (xn:Int):Option OA:=AU.S (AU.l0 (AU.t1 fu) fu) s xn
abbrev AF.A0:=ByteArray→Int→Int→Int→CN→Int→Int→Option OA
abbrev AF.A1:=ByteArray→Int→Int→Int→CN→Option OA
abbrev AF.A2:=Int→CN→CN→Ay→Int→Int→Option OA
def AF.S2 (self:AF.A2):AF.A2:=fun x16 x17 x18 x19 x20 x21=>
 bif (ltI x21 x20) then
 bif (inB x21 (Ai x19)) then
 bif (ltI (nth x19 x21 0) 0) then
 some ([],5)
 else
 bif (leI x16 (nth x19 x21 0)) then
 some ([],5)
 else
 bif (inB (nth x19 x21 0) (Ai x17)) then
 bif (Bw ((List.length x18)+1) 16) then
 self x16 x17 (x18++[(nth x17 (nth x19 x21 0) eB)]) x19 x20 (An .i64 x21 1)
 else none
 else none
 else none
 else
 some (x18,0)
def AF.l2:Nat→AF.A2
 | 0=>fun _ _ _ _ _ _=>none
 | n+1=>AF.S2 (AF.l2 n)
def AF.S1 (j2:AF.A2):AF.A1:=fun x9 x10 x11 x12 x13=>
 bif (inC x12 (AX x9) (AX x9)) then
 ((BI (cutS x9 x12 (AX x9)) x10)).bind fun x14=>
 bif (neI x14.2 0) then
 some ([],x14.2)
 else
 ((CY x14.1)).bind fun x15=>
 bif (neI x15.2 0) then
 some ([],x15.2)
 else
 j2 x11 x13 [] x15.1 (Ai x15.1) 0
 else none
def AF.t1:Nat→AF.A1
 | 0=>fun _ _ _ _ _=>none
 | n+1=>AF.S1 (AF.l2 n)
def AF.S0 (o1_0:AF.A1) (self:AF.A0):AF.A0:=fun x2 x3 x4 x5 x6 x7 x8=>
 bif (ltI x8 x7) then
 bif (leI (AX x2) x5) then
 some ([],5)
 else
 bif (inB x5 (AX x2)) then
 bif (leI (AT .i64 (AX x2) x5) (IntKind.wrap .i64 (byteAt x2 x5))) then
 some ([],5)
 else
 bif (inB x5 (AX x2)) then
 bif (inC (An .i64 x5 1) (An .i64 (An .i64 x5 1) (IntKind.wrap .i64 (byteAt x2 x5))) (AX x2)) then
 bif (Bw ((List.length x6)+1) 16) then
 self x2 x3 x4 (An .i64 (An .i64 x5 1) (IntKind.wrap .i64 (byteAt x2 x5))) (x6++[(cutS x2 (An .i64 x5 1) (An .i64 (An .i64 x5 1) (IntKind.wrap .i64 (byteAt x2 x5))))]) x7 (An .i64 x8 1)
 else none
 else none
 else none
 else none
 else
 o1_0 x2 x3 x4 x5 x6
def AF.l0 (o1_0:AF.A1):Nat→AF.A0
 | 0=>fun _ _ _ _ _ _ _=>none
 | n+1=>AF.S0 o1_0 (AF.l0 o1_0 n)
def AF.S (j0:AF.A0) (s:ByteArray) (xn:Int):Option OA:=
 bif (eqI xn 0) then
 bif (!(eqS s eB)) then
 some ([],5)
 else
 some ([],0)
 else
 ((CX s)).bind fun x1=>
 bif (neI x1.2.2 0) then
 some ([],5)
 else
 bif (ltI x1.1 1) then
 some ([],5)
 else
 bif (ltI xn x1.1) then
 some ([],5)
 else
 j0 s xn x1.1 x1.2.1 [] x1.1 0
def AF (s:ByteArray) (xn:Int):Option OA:=AF.S (AF.l0 (AF.t1 fu) fu) s xn
def KM (s:ByteArray):Option Ec:=
 bif (eqS s eB) then
 some (eB,0)
 else
 bif (inB 0 (AX s)) then
 bif (ltI 32 (IntKind.wrap .i64 (byteAt s 0))) then
 some (eB,0)
 else
 bif (leI (AX s) (IntKind.wrap .i64 (byteAt s 0))) then
 some (eB,0)
 else
 bif (inC 1 (An .i64 1 (IntKind.wrap .i64 (byteAt s 0))) (AX s)) then
 some ((cutS s 1 (An .i64 1 (IntKind.wrap .i64 (byteAt s 0)))),(An .i64 1 (IntKind.wrap .i64 (byteAt s 0))))
 else none
 else none
abbrev Aa.A0:=ByteArray→Int→Int→Int→CN→Int→Int→Option (CN×Ay×Int)
abbrev Aa.A1:=ByteArray→Int→Int→Int→CN→Option (CN×Ay×Int)
abbrev Aa.A2:=Int→CN→Ay→Ay→Int→Int→IB→Option (CN×Ay×Int)
abbrev Aa.A3:=CN→Ay→IB→Option (CN×Ay×Int)
def Aa.S3:Aa.A3:=fun x24 x25 x26=>
 ((DV x26 false)).bind fun x27=>
 bif x27 then
 some ([],[],20)
 else
 some (x24,x25,0)
def Aa.t3:Nat→Aa.A3
 | 0=>fun _ _ _=>none
 | _+1=>Aa.S3
def Aa.S2 (o3_1:Aa.A3) (self:Aa.A2):Aa.A2:=fun x17 x18 x19 x20 x21 x22 x23=>
 bif (ltI x22 x21) then
 bif (inB x22 (Ai x20)) then
 bif (ltI (nth x20 x22 0) 0) then
 some ([],[],20)
 else
 bif (leI x17 (nth x20 x22 0)) then
 some ([],[],20)
 else
 bif (inB (nth x20 x22 0) (Ai x23)) then
 self x17 x18 x19 x20 x21 (An .i64 x22 1) (List.set x23 (Int.toNat (nth x20 x22 0)) true)
 else none
 else none
 else
 o3_1 x18 x19 x23
def Aa.l2 (o3_1:Aa.A3):Nat→Aa.A2
 | 0=>fun _ _ _ _ _ _ _=>none
 | n+1=>Aa.S2 o3_1 (Aa.l2 o3_1 n)
def Aa.S1 (j2:Aa.A2):Aa.A1:=fun x10 x11 x12 x13 x14=>
 bif (inC x13 (AX x10) (AX x10)) then
 ((BN [(AT .i64 x12 1)])).bind fun x15=>
 ((BC (cutS x10 x13 (AX x10)) x11 x15)).bind fun x16=>
 bif (neI x16.2 0) then
 some ([],[],20)
 else
 bif ((leI 0 x12) && (Bw (Int.toNat x12) 1)) then
 j2 x12 x14 x16.1 x16.1 (Ai x16.1) 0 (List.replicate (Int.toNat x12) false)
 else none
 else none
def Aa.t1:Nat→Aa.A1
 | 0=>fun _ _ _ _ _=>none
 | n+1=>Aa.S1 (Aa.l2 (Aa.t3 n) n)
def Aa.S0 (o1_0:Aa.A1) (self:Aa.A0):Aa.A0:=fun x2 x3 x4 x5 x6 x7 x8=>
 bif (ltI x8 x7) then
 bif (inC x5 (AX x2) (AX x2)) then
 ((KM (cutS x2 x5 (AX x2)))).bind fun x9=>
 bif (eqI x9.2 0) then
 some ([],[],20)
 else
 bif (ltI 0 x8) then
 bif (inB (AT .i64 x8 1) (Ai x6)) then
 bif ((ltS x9.1 (nth x6 (AT .i64 x8 1) eB)) || (eqS x9.1 (nth x6 (AT .i64 x8 1) eB))) then
 some ([],[],20)
 else
 bif (Bw ((List.length x6)+1) 16) then
 self x2 x3 x4 (An .i64 x5 x9.2) (x6++[x9.1]) x7 (An .i64 x8 1)
 else none
 else none
 else
 bif (Bw ((List.length x6)+1) 16) then
 self x2 x3 x4 (An .i64 x5 x9.2) (x6++[x9.1]) x7 (An .i64 x8 1)
 else none
 else none
 else
 o1_0 x2 x3 x4 x5 x6
def Aa.l0 (o1_0:Aa.A1):Nat→Aa.A0
 | 0=>fun _ _ _ _ _ _ _=>none
 | n+1=>Aa.S0 o1_0 (Aa.l0 o1_0 n)
def Aa.S (j0:Aa.A0) (s:ByteArray) (xn:Int):Option (CN×Ay×Int):=
 bif (ltI xn 0) then
 some ([],[],1)
 else
 bif (ltI 65536 xn) then
 some ([],[],1)
 else
 bif (eqI xn 0) then
 bif (!(eqS s eB)) then
 some ([],[],20)
 else
 some ([],[],0)
 else
 ((CX s)).bind fun x1=>
 bif (neI x1.2.2 0) then
 some ([],[],20)
 else
 bif (ltI x1.1 1) then
 some ([],[],20)
 else
 bif (ltI xn x1.1) then
 some ([],[],20)
 else
 j0 s xn x1.1 x1.2.1 [] x1.1 0
def Aa (s:ByteArray) (xn:Int):Option (CN×Ay×Int):=Aa.S (Aa.l0 (Aa.t1 fu) fu) s xn
def MJ (s:ByteArray) (xn:Int):Option (CN×Ay×Int):=
 ((Aa s xn)).bind fun x1=>
 some x1
abbrev BM.A0:=CN→CN→Ay→Int→Int→Option (CN)
def BM.S0 (self:BM.A0):BM.A0:=fun x1 x2 x3 x4 x5=>
 bif (ltI x5 x4) then
 bif (inB x5 (Ai x3)) then
 bif (inB (nth x3 x5 0) (Ai x1)) then
 bif (Bw ((List.length x2)+1) 16) then
 self x1 (x2++[(nth x1 (nth x3 x5 0) eB)]) x3 x4 (An .i64 x5 1)
 else none
 else none
 else none
 else
 some x2
def BM.l0:Nat→BM.A0
 | 0=>fun _ _ _ _ _=>none
 | n+1=>BM.S0 (BM.l0 n)
def BM.S (j0:BM.A0) (d:CN) (places:Ay):Option (CN):=
 j0 d [] places (Ai places) 0
def BM (d:CN) (places:Ay):Option (CN):=BM.S (BM.l0 fu) d places
def JU (s:ByteArray) (xn:Int):Option OA:=
 ((MJ s xn)).bind fun x1=>
 bif (neI x1.2.2 0) then
 some ([],x1.2.2)
 else
 ((BM x1.1 x1.2.1)).bind fun x2=>
 some (x2,0)
def Kn (s:ByteArray) (xn code:Int):Option OA:=
 bif (eqI code 1) then
 ((AU s xn)).bind fun x1=>
 some x1
 else
 bif (eqI code 2) then
 ((AF s xn)).bind fun x2=>
 some x2
 else
 bif (eqI code 4) then
 ((JU s xn)).bind fun x3=>
 some x3
 else
 some ([],5)
abbrev Bb.A0:=Cp→Int→Ay→Int→Int→Vl→Option Sb
abbrev Bb.A1:=Cp→Int→CN→Int→Int→Vl→Option Sb
def Bb.S0 (self:Bb.A0):Bb.A0:=fun x2 x3 x4 x5 x6 x7=>
 bif (ltI x6 x5) then
 bif (inB x6 (Ai x4)) then
 bif (Bw ((List.length x2)+1) 32) then
 self (x2++[(x7.1,(nth x4 x6 0),eB)]) x3 x4 x5 (An .i64 x6 1) x7
 else none
 else none
 else
 some (x2,x3)
def Bb.l0:Nat→Bb.A0
 | 0=>fun _ _ _ _ _ _=>none
 | n+1=>Bb.S0 (Bb.l0 n)
def Bb.S1 (self:Bb.A1):Bb.A1:=fun x9 x10 x11 x12 x13 x14=>
 bif (ltI x13 x12) then
 bif (inB x13 (Ai x11)) then
 bif (Bw ((List.length x9)+1) 32) then
 self (x9++[(x14.1,0,(nth x11 x13 eB))]) x10 x11 x12 (An .i64 x13 1) x14
 else none
 else none
 else
 some (x9,x10)
def Bb.l1:Nat→Bb.A1
 | 0=>fun _ _ _ _ _ _=>none
 | n+1=>Bb.S1 (Bb.l1 n)
def Bb.S (j0:Bb.A0) (j1:Bb.A1) (s:ByteArray) (xn:Int) (h:Vl):Option Sb:=
 bif (eqI h.1 1) then
 ((Lz s xn h.2.1)).bind fun x1=>
 j0 [] x1.2 x1.1 (Ai x1.1) 0 h
 else
 bif (eqI h.1 2) then
 ((Kn s xn h.2.1)).bind fun x8=>
 j1 [] x8.2 x8.1 (Ai x8.1) 0 h
 else
 some ([],5)
def Bb (s:ByteArray) (xn:Int) (h:Vl):Option Sb:=Bb.S (Bb.l0 fu) (Bb.l1 fu) s xn h
def GJ (c:Sa):Bool:=
 (eqI c.1 0)
abbrev Av.A0:=Cp→Int→Int→Option Int
def Av.S0 (self:Av.A0):Av.A0:=fun x1 x2 x3=>
 bif (ltI x3 x2) then
 bif (inB x3 (Ai x1)) then
 bif (GJ (nth x1 x3 (0,0,eB))) then
 some x3
 else
 self x1 x2 (An .i64 x3 1)
 else none
 else
 some (-1)
def Av.l0:Nat→Av.A0
 | 0=>fun _ _ _=>none
 | n+1=>Av.S0 (Av.l0 n)
def Av.S (j0:Av.A0) (s:Cp):Option Int:=
 j0 s (Ai s) 0
def Av (s:Cp):Option Int:=Av.S (Av.l0 fu) s
def Dp (s:Cp):Option Bool:=
 ((Av s)).bind fun x1=>
 some (leI 0 x1)
abbrev CF.A0:=Cp→Ay→Int→Int→Cp→Option Sb
def CF.S0 (self:CF.A0):CF.A0:=fun x4 x5 x6 x7 x8=>
 bif (ltI x7 x6) then
 bif (inB x7 (Ai x5)) then
 bif (eqI (nth x5 x7 0) 0) then
 bif (inB 0 (Ai x4)) then
 bif (inC 1 (Ai x4) (Ai x4)) then
 bif (inB x7 (Ai x8)) then
 self (List.drop 1 x4) x5 x6 (An .i64 x7 1) (List.set x8 (Int.toNat x7) (nth x4 0 (0,0,eB)))
 else none
 else none
 else none
 else
 self x4 x5 x6 (An .i64 x7 1) x8
 else none
 else
 some (x8,0)
def CF.l0:Nat→CF.A0
 | 0=>fun _ _ _ _ _=>none
 | n+1=>CF.S0 (CF.l0 n)
def CF.S (j0:CF.A0) (s:ByteArray) (xn:Int) (l:Cp):Option Sb:=
 ((Lx s xn)).bind fun x1=>
 bif (neI x1.2 0) then
 some ([],x1.2)
 else
 ((Ck s xn)).bind fun x2=>
 bif (neI (Ai l) (AT .i64 xn x2.1)) then
 some ([],20)
 else
 ((Dp l)).bind fun x3=>
 bif x3 then
 some ([],20)
 else
 bif ((leI 0 xn) && (Bw (Int.toNat xn) 32)) then
 j0 l x1.1 (Ai (List.replicate (Int.toNat xn) ((0:Int),((0:Int),eB)))) 0 (List.replicate (Int.toNat xn) ((0:Int),((0:Int),eB)))
 else none
def CF (s:ByteArray) (xn:Int) (l:Cp):Option Sb:=CF.S (CF.l0 fu) s xn l
def EB (c:Sa) (t1:Int):Bool:=
 bif (neI (Cf c) 0) then
 true
 else
 bif (neI c.1 0) then
 (neI c.1 t1)
 else
 false
def EB.o (c:Sa) (t1:Int):Option Bool:=
 bif (neI (Cf c) 0) then
 some true
 else
 bif (neI c.1 0) then
 some (neI c.1 t1)
 else
 some false
abbrev Au.A0:=Cp→Int→Int→Int→Option Int
def Au.S0 (self:Au.A0):Au.A0:=fun x1 x2 x3 x4=>
 bif (ltI x4 x3) then
 bif (inB x4 (Ai x1)) then
 bif (EB (nth x1 x4 (0,0,eB)) x2) then
 some x4
 else
 self x1 x2 x3 (An .i64 x4 1)
 else none
 else
 some (-1)
def Au.l0:Nat→Au.A0
 | 0=>fun _ _ _ _=>none
 | n+1=>Au.S0 (Au.l0 n)
def Au.S (j0:Au.A0) (s:Cp) (f0:Int):Option Int:=
 j0 s f0 (Ai s) 0
def Au (s:Cp) (f0:Int):Option Int:=Au.S (Au.l0 fu) s f0
def CA (s:Cp) (f0:Int):Option Bool:=
 ((Au s f0)).bind fun x1=>
 some (leI 0 x1)
def Lf (l:Cp) (kind:Int):Option Bool:=
 bif (ltI (Ai l) 1) then
 some false
 else
 bif (ltI 64 (Ai l)) then
 some false
 else
 bif (neI kind 1) then
 bif (neI kind 2) then
 some false
 else
 ((CA l kind)).bind fun x1=>
 some (!x1)
 else
 ((CA l kind)).bind fun x2=>
 some (!x2)
def Jb (c:Sa):Bool:=
 (GJ c)
abbrev Al.A0:=Int→Int→Cp→Option Vm
def Al.S0 (self:Al.A0):Al.A0:=fun x1 x2 x3=>
 bif (ltI x2 x1) then
 bif (inB x2 (Ai x3)) then
 bif (Jb (List.getD x3 (Int.toNat x2) (0,0,eB))) then
 bif (decide (0<(List.length x3))) then
 some (x2,x3)
 else none
 else
 self x1 (An .i64 x2 1) x3
 else none
 else
 bif (decide (0<(List.length x3))) then
 some ((-1),x3)
 else none
def Al.l0:Nat→Al.A0
 | 0=>fun _ _ _=>none
 | n+1=>Al.S0 (Al.l0 n)
def Al.S (j0:Al.A0) (s:Cp):Option Vm:=
 j0 (Ai s) 0 s
def Al (s:Cp):Option Vm:=Al.S (Al.l0 fu) s
abbrev Ae.A0:=Int→Int→Cp→Option Vm
abbrev Ae.A1:=Int→Cp→Option Vm
def Ae.S1:Ae.A1:=fun x6 x7=>
 bif (inC x6 (Ai x7) (Ai x7)) then
 bif (inC 0 x6 (Ai (GA x7 (Int.toNat x6) (List.replicate ((Int.toNat (Ai x7))-(Int.toNat x6)) ((0:Int),((0:Int),eB)))))) then
 bif (decide (0<(List.length (GA x7 (Int.toNat x6) (List.replicate ((Int.toNat (Ai x7))-(Int.toNat x6)) ((0:Int),((0:Int),eB))))))) then
 some (((((Int.toNat x6)-0):Nat):Int),(GA x7 (Int.toNat x6) (List.replicate ((Int.toNat (Ai x7))-(Int.toNat x6)) ((0:Int),((0:Int),eB)))))
 else none
 else none
 else none
def Ae.t1:Nat→Ae.A1
 | 0=>fun _ _=>none
 | _+1=>Ae.S1
def Ae.S0 (o1_0:Ae.A1) (self:Ae.A0):Ae.A0:=fun x2 x3 x4=>
 bif (ltI x3 (Ai x4)) then
 bif (inB x3 (Ai x4)) then
 bif (!(Jb (List.getD x4 (Int.toNat x3) (0,0,eB)))) then
 bif (inB x2 (Ai x4)) then
 self (An .i64 x2 1) (An .i64 x3 1) (List.set x4 (Int.toNat x2) (List.getD x4 (Int.toNat x3) (0,0,eB)))
 else none
 else
 self x2 (An .i64 x3 1) x4
 else none
 else
 o1_0 x2 x4
def Ae.l0 (o1_0:Ae.A1):Nat→Ae.A0
 | 0=>fun _ _ _=>none
 | n+1=>Ae.S0 o1_0 (Ae.l0 o1_0 n)
def Ae.S (j0:Ae.A0) (s:Cp):Option Vm:=
 ((LD ((decide (0<(List.length s))) && true) (Al s) fun _x=>((decide ((List.length _x.2)=(List.length s))) && true))).bind fun x1=>
 bif (eqI x1.1 (-1)) then
 bif (decide (0<(List.length x1.2))) then
 some ((Ai x1.2),x1.2)
 else none
 else
 j0 x1.1 (An .i64 x1.1 1) x1.2
def Ae (s:Cp):Option Vm:=Ae.S (Ae.l0 (Ae.t1 fu) fu) s
abbrev Bq.A0:=Nat→Nat→Cp→Int→Int→Cp→Ay→Option QM
abbrev Bq.A1:=Nat→Nat→Cp→Ay→Option QM
def Bq.S1:Bq.A1:=fun x11 x12 x13 x14=>
 ((AY x14 1)).bind fun x15=>
 some (x15.1,(List.take x12 (List.drop x11 x13)))
def Bq.t1:Nat→Bq.A1
 | 0=>fun _ _ _ _=>none
 | _+1=>Bq.S1
def Bq.S0 (o1_0:Bq.A1) (self:Bq.A0):Bq.A0:=fun x3 x4 x5 x6 x7 x8 x9=>
 bif (ltI x7 x6) then
 bif (inB x7 (Ai x5)) then
 bif (GJ (nth x5 x7 (0,0,eB))) then
 bif (inB x7 (Ai x9)) then
 self x3 x4 x5 x6 (An .i64 x7 1) x8 (List.set x9 (Int.toNat x7) 1)
 else none
 else
 self x3 x4 x5 x6 (An .i64 x7 1) x8 x9
 else none
 else
 o1_0 x3 x4 x8 x9
def Bq.l0 (o1_0:Bq.A1):Nat→Bq.A0
 | 0=>fun _ _ _ _ _ _ _=>none
 | n+1=>Bq.S0 o1_0 (Bq.l0 o1_0 n)
def Bq.S (j0:Bq.A0) (l:Cp):Option QM:=
 ((Hh 32 l)).bind fun x1=>
 ((LD ((decide (0<(List.length x1))) && true) (Ae x1) fun _x=>((decide ((List.length _x.2)=(List.length x1))) && true))).bind fun x2=>
 bif (eqI (((Int.toNat x2.1):Nat):Int) (Ai l)) then
 some (eB,(List.take (Int.toNat x2.1) (List.drop 0 x2.2)))
 else
 bif ((leI 0 (Ai l)) && (Bw (Int.toNat (Ai l)) 8)) then
 j0 0 (Int.toNat x2.1) l (Ai l) 0 x2.2 (List.replicate (Int.toNat (Ai l)) (0:Int))
 else none
def Bq (l:Cp):Option QM:=Bq.S (Bq.l0 (Bq.t1 fu) fu) l
abbrev AS.A0:=Ay→Ay→Int→Int→Option ByteArray
abbrev AS.A1:=Ay→Int→Ay→Int→Int→Int→Option ByteArray
def AS.S1 (o0_1:AS.A0) (self:AS.A1):AS.A1:=fun x5 x6 x7 x8 x9 x10=>
 bif (ltI x10 8) then
 bif (Bw ((List.length x5)+1) 1) then
 self (x5++[(IntKind.wrap .u8 x6)]) (BG .u64 x6 8) x7 x8 x9 (An .i64 x10 1)
 else none
 else
 o0_1 x5 x7 x8 (An .i64 x9 1)
def AS.l1 (o0_1:AS.A0):Nat→AS.A1
 | 0=>fun _ _ _ _ _ _=>none
 | n+1=>AS.S1 o0_1 (AS.l1 o0_1 n)
def AS.S0 (j1:AS.A1):AS.A0:=fun x1 x2 x3 x4=>
 bif (ltI x4 x3) then
 bif (inB x4 (Ai x2)) then
 j1 x1 (IntKind.wrap .u64 (nth x2 x4 0)) x2 x3 x4 0
 else none
 else
 some (ofBytes x1)
def AS.l0:Nat→AS.A0
 | 0=>fun _ _ _ _=>none
 | n+1=>AS.S0 (AS.l1 (AS.l0 n) n)
def AS.S (j0:AS.A0) (l:Ay):Option ByteArray:=
 bif ((leI 0 (Df .i64 8 (Ai l))) && (Bw (Int.toNat (Df .i64 8 (Ai l))) 1)) then
 j0 [] l (Ai l) 0
 else none
def AS (l:Ay):Option ByteArray:=AS.S (AS.l0 fu) l
abbrev DF.A0:=Ay→Ay→Int→Int→FH→Option (FH)
def DF.S0 (self:DF.A0):DF.A0:=fun x1 x2 x3 x4 x5=>
 bif (ltI x4 x3) then
 bif (inB x4 (Ai x2)) then
 bif (eqI x4 0) then
 bif (Bw ((List.length x5)+1) 24) then
 bif (inB (AT .i64 (Ai (x5++[((nth x2 x4 0),x4,0)])) 1) (Ai (x5++[((nth x2 x4 0),x4,0)]))) then
 bif (inB (AT .i64 (Ai (x5++[((nth x2 x4 0),x4,0)])) 1) (Ai (x5++[((nth x2 x4 0),x4,0)]))) then
 self x1 x2 x3 (An .i64 x4 1) (List.set (x5++[((nth x2 x4 0),x4,0)]) (Int.toNat (AT .i64 (Ai (x5++[((nth x2 x4 0),x4,0)])) 1)) ((List.getD (x5++[((nth x2 x4 0),x4,0)]) (Int.toNat (AT .i64 (Ai (x5++[((nth x2 x4 0),x4,0)])) 1)) (0,0,0)).1,(List.getD (x5++[((nth x2 x4 0),x4,0)]) (Int.toNat (AT .i64 (Ai (x5++[((nth x2 x4 0),x4,0)])) 1)) (0,0,0)).2.1,(An .i64 (List.getD (x5++[((nth x2 x4 0),x4,0)]) (Int.toNat (AT .i64 (Ai (x5++[((nth x2 x4 0),x4,0)])) 1)) (0,0,0)).2.2 1)))
 else none
 else none
 else none
 else
 bif (inB (AT .i64 x4 1) (Ai x1)) then
 bif (neI (nth x2 x4 0) (nth x1 (AT .i64 x4 1) 0)) then
 bif (Bw ((List.length x5)+1) 24) then
 bif (inB (AT .i64 (Ai (x5++[((nth x2 x4 0),x4,0)])) 1) (Ai (x5++[((nth x2 x4 0),x4,0)]))) then
 bif (inB (AT .i64 (Ai (x5++[((nth x2 x4 0),x4,0)])) 1) (Ai (x5++[((nth x2 x4 0),x4,0)]))) then
 self x1 x2 x3 (An .i64 x4 1) (List.set (x5++[((nth x2 x4 0),x4,0)]) (Int.toNat (AT .i64 (Ai (x5++[((nth x2 x4 0),x4,0)])) 1)) ((List.getD (x5++[((nth x2 x4 0),x4,0)]) (Int.toNat (AT .i64 (Ai (x5++[((nth x2 x4 0),x4,0)])) 1)) (0,0,0)).1,(List.getD (x5++[((nth x2 x4 0),x4,0)]) (Int.toNat (AT .i64 (Ai (x5++[((nth x2 x4 0),x4,0)])) 1)) (0,0,0)).2.1,(An .i64 (List.getD (x5++[((nth x2 x4 0),x4,0)]) (Int.toNat (AT .i64 (Ai (x5++[((nth x2 x4 0),x4,0)])) 1)) (0,0,0)).2.2 1)))
 else none
 else none
 else none
 else
 bif (inB (AT .i64 (Ai x5) 1) (Ai x5)) then
 bif (inB (AT .i64 (Ai x5) 1) (Ai x5)) then
 self x1 x2 x3 (An .i64 x4 1) (List.set x5 (Int.toNat (AT .i64 (Ai x5) 1)) ((List.getD x5 (Int.toNat (AT .i64 (Ai x5) 1)) (0,0,0)).1,(List.getD x5 (Int.toNat (AT .i64 (Ai x5) 1)) (0,0,0)).2.1,(An .i64 (List.getD x5 (Int.toNat (AT .i64 (Ai x5) 1)) (0,0,0)).2.2 1)))
 else none
 else none
 else none
 else none
 else
 some x5
def DF.l0:Nat→DF.A0
 | 0=>fun _ _ _ _ _=>none
 | n+1=>DF.S0 (DF.l0 n)
def DF.S (j0:DF.A0) (l:Ay):Option (FH):=
 bif (ltI 65536 (Ai l)) then
 some []
 else
 j0 l l (Ai l) 0 []
def DF (l:Ay):Option (FH):=DF.S (DF.l0 fu) l
def Dv (b:(Bool×Ay)) (s:ByteArray):Option (Int×Bool×(Bool×Ay)):=
 bif (Bw ((List.length (Ko b).2)+(ByteArray.size s)) 1) then
 some ((AX s),true,(Ko b).1,((Ko b).2++(Ax s)))
 else none
abbrev Dn.A0:=FH→Int→Int→(Bool×Ay)→Option Ec
def Dn.S0 (self:Dn.A0):Dn.A0:=fun x2 x3 x4 x5=>
 bif (ltI x4 x3) then
 bif (inB x4 (Ai x2)) then
 ((BV (nth x2 x4 (0,0,0)).1)).bind fun x6=>
 ((Dv x5 x6)).bind fun x7=>
 ((BV (nth x2 x4 (0,0,0)).2.2)).bind fun x8=>
 ((Dv x7.2.2 x8)).bind fun x9=>
 self x2 x3 (An .i64 x4 1) x9.2.2
 else none
 else
 ((JC x5)).bind fun x10=>
 some (x10.1,0)
def Dn.l0:Nat→Dn.A0
 | 0=>fun _ _ _ _=>none
 | n+1=>Dn.S0 (Dn.l0 n)
def Dn.S (j0:Dn.A0) (l:FH):Option Ec:=
 ((CO l)).bind fun x1=>
 bif (!x1.2) then
 some (eB,1)
 else
 j0 l (Ai l) 0 (true,[])
def Dn (l:FH):Option Ec:=Dn.S (Dn.l0 fu) l
def cmp_Less_int (x y:Int):Bool:=
 bif (cmp_isNaN_int x) then
 bif (!(cmp_isNaN_int y)) then
 true
 else
 (ltI x y)
 else
 (ltI x y)
def cmp_Less_int.o (x y:Int):Option Bool:=
 bif (cmp_isNaN_int x) then
 bif (!(cmp_isNaN_int y)) then
 some true
 else
 some (ltI x y)
 else
 some (ltI x y)
def IM (x:Int):Bool:=
 (neI x x)
abbrev Ap.A0:=Ay→Int→Int→Int→Int→Option (Int×Bool)
abbrev Ap.A1:=Ay→Int→Int→Int→Option (Int×Bool)
def Ap.S1:Ap.A1:=fun x7 x8 x9 x10=>
 bif (ltI x10 x9) then
 bif (inB x10 (Ai x7)) then
 bif (eqI (nth x7 x10 0) x8) then
 some (x10,true)
 else
 bif (inB x10 (Ai x7)) then
 bif (IM (nth x7 x10 0)) then
 some (x10,(IM x8))
 else
 some (x10,false)
 else none
 else none
 else
 some (x10,false)
def Ap.t1:Nat→Ap.A1
 | 0=>fun _ _ _ _=>none
 | _+1=>Ap.S1
def Ap.S0 (o1_0:Ap.A1) (self:Ap.A0):Ap.A0:=fun x1 x2 x3 x4 x5=>
 bif (ltI x4 x5) then
 bif (inB (IntKind.wrap .i64 (BG .u64 (IntKind.wrap .u64 (An .i64 x4 x5)) 1)) (Ai x1)) then
 bif (cmp_Less_int (nth x1 (IntKind.wrap .i64 (BG .u64 (IntKind.wrap .u64 (An .i64 x4 x5)) 1)) 0) x2) then
 self x1 x2 x3 (An .i64 (IntKind.wrap .i64 (BG .u64 (IntKind.wrap .u64 (An .i64 x4 x5)) 1)) 1) x5
 else
 self x1 x2 x3 x4 (IntKind.wrap .i64 (BG .u64 (IntKind.wrap .u64 (An .i64 x4 x5)) 1))
 else none
 else
 o1_0 x1 x2 x3 x4
def Ap.l0 (o1_0:Ap.A1):Nat→Ap.A0
 | 0=>fun _ _ _ _ _=>none
 | n+1=>Ap.S0 o1_0 (Ap.l0 o1_0 n)
def Ap.S (j0:Ap.A0) (x:Ay) (target:Int):Option (Int×Bool):=
 j0 x target (Ai x) 0 (Ai x)
def Ap (x:Ay) (target:Int):Option (Int×Bool):=Ap.S (Ap.l0 (Ap.t1 fu) fu) x target
abbrev Ce.A0:=Nat→Nat→Ay→Ay→Int→Int→Ay→Option Mq
def Ce.S0 (self:Ce.A0):Ce.A0:=fun x4 x5 x6 x7 x8 x9 x10=>
 bif (ltI x9 x8) then
 bif (inB x9 (Ai x7)) then
 ((Ap (List.take x5 (List.drop x4 x10)) (nth x7 x9 0))).bind fun x11=>
 bif (Bw ((List.length x6)+1) 8) then
 self x4 x5 (x6++[x11.1]) x7 x8 (An .i64 x9 1) x10
 else none
 else none
 else
 some ((List.take x5 (List.drop x4 x10)),x6)
def Ce.l0:Nat→Ce.A0
 | 0=>fun _ _ _ _ _ _ _=>none
 | n+1=>Ce.S0 (Ce.l0 n)
def Ce.S (j0:Ce.A0) (l:Ay):Option Mq:=
 ((Hh 8 l)).bind fun x1=>
 ((LD ((decide (0<(List.length x1))) && true) (Wh x1) fun _x=>((decide ((List.length _x)=(List.length x1))) && true))).bind fun x2=>
 ((LD ((decide (0<(List.length x2))) && true) (Wj x2) fun _x=>((decide ((List.length _x.2)=(List.length x2))) && true))).bind fun x3=>
 j0 0 (Int.toNat x3.1) [] l (Ai l) 0 x3.2
def Ce (l:Ay):Option Mq:=Ce.S (Ce.l0 fu) l
abbrev DD.A0:=Ay→Int→Int→(Bool×Ay)→Option Ec
def DD.S0 (self:DD.A0):DD.A0:=fun x1 x2 x3 x4=>
 bif (ltI x3 x2) then
 bif (inB x3 (Ai x1)) then
 ((BV (nth x1 x3 0))).bind fun x5=>
 ((Dv x4 x5)).bind fun x6=>
 self x1 x2 (An .i64 x3 1) x6.2.2
 else none
 else
 ((JC x4)).bind fun x7=>
 some (x7.1,0)
def DD.l0:Nat→DD.A0
 | 0=>fun _ _ _ _=>none
 | n+1=>DD.S0 (DD.l0 n)
def DD.S (j0:DD.A0) (d:Ay):Option Ec:=
 j0 d (Ai d) 0 (true,[])
def DD (d:Ay):Option Ec:=DD.S (DD.l0 fu) d
def Hs (l:Ay):Option Ec:=
 bif (ltI 65536 (Ai l)) then
 some (eB,1)
 else
 bif (eqI (Ai l) 0) then
 some (eB,0)
 else
 ((Ce l)).bind fun x1=>
 ((DD x1.1)).bind fun x2=>
 bif (neI x2.2 0) then
 some (eB,x2.2)
 else
 ((BN x1.2)).bind fun x3=>
 ((AY x1.2 x3)).bind fun x4=>
 ((BV (Ai x1.1))).bind fun x5=>
 bif (CK x5 x2.1) then
 bif (CK (Ei x5 x2.1) x4.1) then
 some ((Ei (Ei x5 x2.1) x4.1),x4.2)
 else none
 else none
def LA (l:Ay):Option Ec:=
 ((Hs l)).bind fun x1=>
 some x1
def Hv (l:Ay) (code:Int):Option Ec:=
 bif (eqI code 1) then
 ((AS l)).bind fun x1=>
 some (x1,0)
 else
 bif (eqI code 2) then
 ((DF l)).bind fun x2=>
 ((Dn x2)).bind fun x3=>
 some x3
 else
 bif (eqI code 3) then
 ((Na l)).bind fun x4=>
 some x4
 else
 bif (eqI code 4) then
 ((LA l)).bind fun x5=>
 some x5
 else
 bif (eqI code 5) then
 ((BN l)).bind fun x6=>
 ((AY l x6)).bind fun x7=>
 bif (CK (ofBytes [(IntKind.wrap .u8 x6)]) x7.1) then
 some ((Ei (ofBytes [(IntKind.wrap .u8 x6)]) x7.1),x7.2)
 else none
 else
 some (eB,1)
def Fo (b:(Bool×Ay)) (c:Int):Option (Bool×(Bool×Ay)):=
 bif (Bw ((List.length (Ko b).2)+1) 1) then
 some (true,(Ko b).1,((Ko b).2++[c]))
 else none
abbrev BS.A0:=CN→Int→Int→(Bool×Ay)→Option Ec
def BS.S0 (self:BS.A0):BS.A0:=fun x1 x2 x3 x4=>
 bif (ltI x3 x2) then
 bif (inB x3 (Ai x1)) then
 bif (ltI 32 (AX (nth x1 x3 eB))) then
 some (eB,1)
 else
 ((Fo x4 (IntKind.wrap .u8 (AX (nth x1 x3 eB))))).bind fun x5=>
 ((Dv x5.2 (nth x1 x3 eB))).bind fun x6=>
 self x1 x2 (An .i64 x3 1) x6.2.2
 else none
 else
 ((JC x4)).bind fun x7=>
 some (x7.1,0)
def BS.l0:Nat→BS.A0
 | 0=>fun _ _ _ _=>none
 | n+1=>BS.S0 (BS.l0 n)
def BS.S (j0:BS.A0) (l:CN):Option Ec:=
 j0 l (Ai l) 0 (true,[])
def BS (l:CN):Option Ec:=BS.S (BS.l0 fu) l
def cmp_isNaN_string (x:ByteArray):Bool:=
 (!(eqS x x))
def cmp_Less_string (x y:ByteArray):Bool:=
 bif (cmp_isNaN_string x) then
 bif (!(cmp_isNaN_string y)) then
 true
 else
 (ltS x y)
 else
 (ltS x y)
def cmp_Less_string.o (x y:ByteArray):Option Bool:=
 bif (cmp_isNaN_string x) then
 bif (!(cmp_isNaN_string y)) then
 some true
 else
 some (ltS x y)
 else
 some (ltS x y)
def Jo (x:ByteArray):Bool:=
 (!(eqS x x))
abbrev Ar.A0:=CN→ByteArray→Int→Int→Int→Option (Int×Bool)
abbrev Ar.A1:=CN→ByteArray→Int→Int→Option (Int×Bool)
def Ar.S1:Ar.A1:=fun x7 x8 x9 x10=>
 bif (ltI x10 x9) then
 bif (inB x10 (Ai x7)) then
 bif (eqS (nth x7 x10 eB) x8) then
 some (x10,true)
 else
 bif (inB x10 (Ai x7)) then
 bif (Jo (nth x7 x10 eB)) then
 some (x10,(Jo x8))
 else
 some (x10,false)
 else none
 else none
 else
 some (x10,false)
def Ar.t1:Nat→Ar.A1
 | 0=>fun _ _ _ _=>none
 | _+1=>Ar.S1
def Ar.S0 (o1_0:Ar.A1) (self:Ar.A0):Ar.A0:=fun x1 x2 x3 x4 x5=>
 bif (ltI x4 x5) then
 bif (inB (IntKind.wrap .i64 (BG .u64 (IntKind.wrap .u64 (An .i64 x4 x5)) 1)) (Ai x1)) then
 bif (cmp_Less_string (nth x1 (IntKind.wrap .i64 (BG .u64 (IntKind.wrap .u64 (An .i64 x4 x5)) 1)) eB) x2) then
 self x1 x2 x3 (An .i64 (IntKind.wrap .i64 (BG .u64 (IntKind.wrap .u64 (An .i64 x4 x5)) 1)) 1) x5
 else
 self x1 x2 x3 x4 (IntKind.wrap .i64 (BG .u64 (IntKind.wrap .u64 (An .i64 x4 x5)) 1))
 else none
 else
 o1_0 x1 x2 x3 x4
def Ar.l0 (o1_0:Ar.A1):Nat→Ar.A0
 | 0=>fun _ _ _ _ _=>none
 | n+1=>Ar.S0 o1_0 (Ar.l0 o1_0 n)
def Ar.S (j0:Ar.A0) (x:CN) (target:ByteArray):Option (Int×Bool):=
 j0 x target (Ai x) 0 (Ai x)
def Ar (x:CN) (target:ByteArray):Option (Int×Bool):=Ar.S (Ar.l0 (Ar.t1 fu) fu) x target
abbrev BK.A0:=Nat→Nat→Ay→CN→Int→Int→CN→Option NA
def BK.S0 (self:BK.A0):BK.A0:=fun x4 x5 x6 x7 x8 x9 x10=>
 bif (ltI x9 x8) then
 bif (inB x9 (Ai x7)) then
 ((Ar (List.take x5 (List.drop x4 x10)) (nth x7 x9 eB))).bind fun x11=>
 bif (Bw ((List.length x6)+1) 8) then
 self x4 x5 (x6++[x11.1]) x7 x8 (An .i64 x9 1) x10
 else none
 else none
 else
 some ((List.take x5 (List.drop x4 x10)),x6)
def BK.l0:Nat→BK.A0
 | 0=>fun _ _ _ _ _ _ _=>none
 | n+1=>BK.S0 (BK.l0 n)
def BK.S (j0:BK.A0) (l:CN):Option NA:=
 ((Hh 16 l)).bind fun x1=>
 ((LD ((decide (0<(List.length x1))) && true) (Wi x1) fun _x=>((decide ((List.length _x)=(List.length x1))) && true))).bind fun x2=>
 ((LD ((decide (0<(List.length x2))) && true) (Wk x2) fun _x=>((decide ((List.length _x.2)=(List.length x2))) && true))).bind fun x3=>
 j0 0 (Int.toNat x3.1) [] l (Ai l) 0 x3.2
def BK (l:CN):Option NA:=BK.S (BK.l0 fu) l
def FL (l:CN):Option Ec:=
 bif (ltI 65536 (Ai l)) then
 some (eB,1)
 else
 bif (eqI (Ai l) 0) then
 some (eB,0)
 else
 ((BK l)).bind fun x1=>
 ((BS x1.1)).bind fun x2=>
 bif (neI x2.2 0) then
 some (eB,x2.2)
 else
 ((BN x1.2)).bind fun x3=>
 ((AY x1.2 x3)).bind fun x4=>
 ((BV (Ai x1.1))).bind fun x5=>
 bif (CK x5 x2.1) then
 bif (CK (Ei x5 x2.1) x4.1) then
 some ((Ei (Ei x5 x2.1) x4.1),x4.2)
 else none
 else none
def KN (l:CN):Option Ec:=
 ((FL l)).bind fun x1=>
 some x1
def Jj (l:CN) (code:Int):Option Ec:=
 bif (eqI code 1) then
 ((BS l)).bind fun x1=>
 some x1
 else
 bif (eqI code 4) then
 ((KN l)).bind fun x2=>
 some x2
 else
 bif (eqI code 2) then
 bif (eqI (Ai l) 0) then
 some (eB,0)
 else
 ((BK l)).bind fun x3=>
 ((BS x3.1)).bind fun x4=>
 bif (neI x4.2 0) then
 some (eB,x4.2)
 else
 ((DF x3.2)).bind fun x5=>
 ((Dn x5)).bind fun x6=>
 ((BV (Ai x3.1))).bind fun x7=>
 bif (CK x7 x4.1) then
 bif (CK (Ei x7 x4.1) x6.1) then
 some ((Ei (Ei x7 x4.1) x6.1),x6.2)
 else none
 else none
 else
 some (eB,1)
abbrev Bh.A0:=Int→Int→Ay→CN→Cp→Int→Int→Option Ec
abbrev Bh.A1:=Int→Int→Ay→CN→Option Ec
def Bh.S1:Bh.A1:=fun x8 x9 x10 x11=>
 bif (eqI x8 1) then
 ((Hv x10 x9)).bind fun x12=>
 some x12
 else
 ((Jj x11 x9)).bind fun x13=>
 some x13
def Bh.t1:Nat→Bh.A1
 | 0=>fun _ _ _ _=>none
 | _+1=>Bh.S1
def Bh.S0 (o1_0:Bh.A1) (self:Bh.A0):Bh.A0:=fun x1 x2 x3 x4 x5 x6 x7=>
 bif (ltI x7 x6) then
 bif (inB x7 (Ai x5)) then
 bif (Bw ((List.length x3)+1) 8) then
 bif (Bw ((List.length x4)+1) 16) then
 self x1 x2 (x3++[(nth x5 x7 (0,0,eB)).2.1]) (x4++[(nth x5 x7 (0,0,eB)).2.2]) x5 x6 (An .i64 x7 1)
 else none
 else none
 else none
 else
 o1_0 x1 x2 x3 x4
def Bh.l0 (o1_0:Bh.A1):Nat→Bh.A0
 | 0=>fun _ _ _ _ _ _ _=>none
 | n+1=>Bh.S0 o1_0 (Bh.l0 o1_0 n)
def Bh.S (j0:Bh.A0) (l:Cp) (kind code:Int):Option Ec:=
 j0 kind code [] [] l (Ai l) 0
def Bh (l:Cp) (kind code:Int):Option Ec:=Bh.S (Bh.l0 (Bh.t1 fu) fu) l kind code
def Gt (l:Cp) (kind code:Int):Option Ec:=
 ((Lf l kind)).bind fun x1=>
 bif (!x1) then
 some (eB,1)
 else
 ((Bq l)).bind fun x2=>
 ((Bh x2.2 kind code)).bind fun x3=>
 bif (neI x3.2 0) then
 some (eB,1)
 else
 bif (CK (ofBytes [(IntKind.wrap .u8 kind),(IntKind.wrap .u8 code),(IntKind.wrap .u8 (Ai l)),(IntKind.wrap .u8 (AX x2.1))]) x2.1) then
 bif (CK (Ei (ofBytes [(IntKind.wrap .u8 kind),(IntKind.wrap .u8 code),(IntKind.wrap .u8 (Ai l)),(IntKind.wrap .u8 (AX x2.1))]) x2.1) x3.1) then
 ((Cj (Ei (Ei (ofBytes [(IntKind.wrap .u8 kind),(IntKind.wrap .u8 code),(IntKind.wrap .u8 (Ai l)),(IntKind.wrap .u8 (AX x2.1))]) x2.1) x3.1))).bind fun x4=>
 some (x4,0)
 else none
 else none
def HD (s:ByteArray):Option ((Vl×(ByteArray×QM))×Bool):=
 ((NU s)).bind fun x1=>
 bif (neI x1.2 0) then
 some (((0,0,0,0),eB,eB,[]),false)
 else
 bif (ltI (AX x1.1) 4) then
 some (((0,0,0,0),eB,eB,[]),false)
 else
 bif (inB 3 (AX x1.1)) then
 bif (ltI (AT .i64 (AX x1.1) 4) (IntKind.wrap .i64 (byteAt x1.1 3))) then
 some (((0,0,0,0),eB,eB,[]),false)
 else
 bif (inB 3 (AX x1.1)) then
 bif (inB 0 (AX x1.1)) then
 bif (inB 1 (AX x1.1)) then
 bif (inB 2 (AX x1.1)) then
 bif (inC 4 (An .i64 4 (IntKind.wrap .i64 (byteAt x1.1 3))) (AX x1.1)) then
 bif (inC (An .i64 4 (IntKind.wrap .i64 (byteAt x1.1 3))) (AX x1.1) (AX x1.1)) then
 ((Ck (cutS x1.1 4 (An .i64 4 (IntKind.wrap .i64 (byteAt x1.1 3)))) (IntKind.wrap .i64 (byteAt x1.1 2)))).bind fun x2=>
 bif (neI x2.2 0) then
 some ((((IntKind.wrap .i64 (byteAt x1.1 0)),(IntKind.wrap .i64 (byteAt x1.1 1)),(IntKind.wrap .i64 (byteAt x1.1 2)),x2.1),(cutS x1.1 4 (An .i64 4 (IntKind.wrap .i64 (byteAt x1.1 3)))),(cutS x1.1 (An .i64 4 (IntKind.wrap .i64 (byteAt x1.1 3))) (AX x1.1)),[]),false)
 else
 ((Bb (cutS x1.1 (An .i64 4 (IntKind.wrap .i64 (byteAt x1.1 3))) (AX x1.1)) (AT .i64 (IntKind.wrap .i64 (byteAt x1.1 2)) x2.1) ((IntKind.wrap .i64 (byteAt x1.1 0)),(IntKind.wrap .i64 (byteAt x1.1 1)),(IntKind.wrap .i64 (byteAt x1.1 2)),x2.1))).bind fun x3=>
 bif (neI x3.2 0) then
 some ((((IntKind.wrap .i64 (byteAt x1.1 0)),(IntKind.wrap .i64 (byteAt x1.1 1)),(IntKind.wrap .i64 (byteAt x1.1 2)),x2.1),(cutS x1.1 4 (An .i64 4 (IntKind.wrap .i64 (byteAt x1.1 3)))),(cutS x1.1 (An .i64 4 (IntKind.wrap .i64 (byteAt x1.1 3))) (AX x1.1)),[]),false)
 else
 ((CF (cutS x1.1 4 (An .i64 4 (IntKind.wrap .i64 (byteAt x1.1 3)))) (IntKind.wrap .i64 (byteAt x1.1 2)) x3.1)).bind fun x4=>
 bif (neI x4.2 0) then
 some ((((IntKind.wrap .i64 (byteAt x1.1 0)),(IntKind.wrap .i64 (byteAt x1.1 1)),(IntKind.wrap .i64 (byteAt x1.1 2)),x2.1),(cutS x1.1 4 (An .i64 4 (IntKind.wrap .i64 (byteAt x1.1 3)))),(cutS x1.1 (An .i64 4 (IntKind.wrap .i64 (byteAt x1.1 3))) (AX x1.1)),x4.1),false)
 else
 ((Gt x4.1 (IntKind.wrap .i64 (byteAt x1.1 0)) (IntKind.wrap .i64 (byteAt x1.1 1)))).bind fun x5=>
 bif (eqI x5.2 0) then
 some ((((IntKind.wrap .i64 (byteAt x1.1 0)),(IntKind.wrap .i64 (byteAt x1.1 1)),(IntKind.wrap .i64 (byteAt x1.1 2)),x2.1),(cutS x1.1 4 (An .i64 4 (IntKind.wrap .i64 (byteAt x1.1 3)))),(cutS x1.1 (An .i64 4 (IntKind.wrap .i64 (byteAt x1.1 3))) (AX x1.1)),x4.1),(eqS x5.1 s))
 else
 some ((((IntKind.wrap .i64 (byteAt x1.1 0)),(IntKind.wrap .i64 (byteAt x1.1 1)),(IntKind.wrap .i64 (byteAt x1.1 2)),x2.1),(cutS x1.1 4 (An .i64 4 (IntKind.wrap .i64 (byteAt x1.1 3)))),(cutS x1.1 (An .i64 4 (IntKind.wrap .i64 (byteAt x1.1 3))) (AX x1.1)),x4.1),false)
 else none
 else none
 else none
 else none
 else none
 else none
 else none
def EI (s:ByteArray):Option Sb:=
 ((HD s)).bind fun x1=>
 bif (!x1.2) then
 some ([],5)
 else
 some (x1.1.2.2.2,0)
def GK (s:ByteArray):Option (Vl×Int):=
 ((HD s)).bind fun x1=>
 bif (!x1.2) then
 some ((0,0,0,0),5)
 else
 some (x1.1.1,0)
def LB (s:ByteArray):Option (ByteArray×ByteArray×Int):=
 ((HD s)).bind fun x1=>
 bif (!x1.2) then
 some (eB,eB,5)
 else
 some (x1.1.2.2.1,x1.1.2.1,0)
abbrev Cx.A0:=Cp→Cp→Int→Option Bool
def Cx.S0 (self:Cx.A0):Cx.A0:=fun x1 x2 x3=>
 bif (ltI x3 (Ai x1)) then
 bif (inB x3 (Ai x1)) then
 bif (inB x3 (Ai x2)) then
 bif (!((eqI (nth x1 x3 (0,0,eB)).1 (nth x2 x3 (0,0,eB)).1) && ((eqI (nth x1 x3 (0,0,eB)).2.1 (nth x2 x3 (0,0,eB)).2.1) && (eqS (nth x1 x3 (0,0,eB)).2.2 (nth x2 x3 (0,0,eB)).2.2)))) then
 some false
 else
 self x1 x2 (An .i64 x3 1)
 else none
 else none
 else
 some true
def Cx.l0:Nat→Cx.A0
 | 0=>fun _ _ _=>none
 | n+1=>Cx.S0 (Cx.l0 n)
def Cx.S (j0:Cx.A0) (a b:Cp):Option Bool:=
 bif (neI (Ai a) (Ai b)) then
 some false
 else
 j0 a b 0
def Cx (a b:Cp):Option Bool:=Cx.S (Cx.l0 fu) a b
end Go.AM.Pure
