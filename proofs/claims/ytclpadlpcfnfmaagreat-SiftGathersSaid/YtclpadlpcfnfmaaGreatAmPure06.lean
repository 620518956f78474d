import Derived.Test.YtclpadlpcfnfmaaGreatAmPrimW
import Derived.Test.YtclpadlpcfnfmaaGreatAmPure17
/- PRINTED by gen/ of this repo: the functions of the seat as pure functions. -/
namespace Go.AM.Pure
open Go.AM
def Cv (xn:Int):Int:=
 (IntKind.wrap .i64 (FM .u64 (Fc .u64 (IntKind.wrap .u64 xn) 1) (IntKind.wrap .u64 (BG .i64 xn 63))))
def BV.S1 (w_5:Int) (k_6:Int) (out_7:(List Int)):Option (ByteArray):=
 bif ((inB k_6 10) && (decide (10=(List.length out_7)))) then
 bif ((inC 0 (An .i64 k_6 1) 10) && (decide (10=(List.length (List.set out_7 (Int.toNat k_6) (IntKind.wrap .u8 w_5)))))) then
 some (ofBytes (List.take ((Int.toNat (An .i64 k_6 1))-0) (List.drop 0 (List.set out_7 (Int.toNat k_6) (IntKind.wrap .u8 w_5)))))
 else none
 else none
def BV.t1:Nat→Int→Int→(List Int)→Option (ByteArray)
 | 0=>fun _ _ _=>none
 | _+1=>BV.S1
def BV.S0 (o1_0:Int→Int→(List Int)→Option (ByteArray)) (self:Int→Int→(List Int)→Option (ByteArray)) (w_2:Int) (k_3:Int) (out_4:(List Int)):Option (ByteArray):=
 bif (leI 128 w_2) then
 bif ((inB k_3 10) && (decide (10=(List.length out_4)))) then
 self (BG .u64 w_2 7) (An .i64 k_3 1) (List.set out_4 (Int.toNat k_3) (orI .u8 (IntKind.wrap .u8 w_2) 128))
 else none
 else
 o1_0 w_2 k_3 out_4
def BV.l0 (o1_0:Int→Int→(List Int)→Option (ByteArray)):Nat→Int→Int→(List Int)→Option (ByteArray)
 | 0=>fun _ _ _=>none
 | n+1=>BV.S0 o1_0 (BV.l0 o1_0 n)
def BV.S (j0:Int→Int→(List Int)→Option (ByteArray)) (xn:Int):Option (ByteArray):=
 j0 (IntKind.wrap .u64 (Cv xn)) 0 [0,0,0,0,0,0,0,0,0,0]
def BV (xn:Int):Option (ByteArray):=BV.S (BV.l0 (BV.t1 fu) fu) xn
def CP (word:Int):Int:=
 (IntKind.wrap .i64 (FM .u64 (BG .u64 (IntKind.wrap .u64 word) 1) (AT .u64 0 (BF .u64 (IntKind.wrap .u64 word) 1))))
def Cq.S0 (self:Int→Int→Int→Option (Int)) (w_1:Int) (n_2:Int) (step_3:Int):Option (Int):=
 bif (ltI 0 step_3) then
 bif (leI 0 step_3) then
 bif (ltI 0 (BG .u64 w_1 step_3)) then
 bif (leI 0 step_3) then
 self (BG .u64 w_1 step_3) (An .i64 n_2 step_3) (GL .i64 step_3 2)
 else none
 else
 self w_1 n_2 (GL .i64 step_3 2)
 else none
 else
 some (An .i64 n_2 (IntKind.wrap .i64 w_1))
def Cq.l0:Nat→Int→Int→Int→Option (Int)
 | 0=>fun _ _ _=>none
 | n+1=>Cq.S0 (Cq.l0 n)
def Cq.S (j0:Int→Int→Int→Option (Int)) (word:Int):Option (Int):=
 j0 (IntKind.wrap .u64 word) 0 32
def Cq (word:Int):Option (Int):=Cq.S (Cq.l0 fu) word
def OD (xn:Int):Option (Int):=
 ((Cq (Cv xn))).bind fun r_2=>
 some (FP 1 (GL .i64 (AT .i64 (An .i64 r_2 7) 1) 7))
def CX.S0 (self:ByteArray→Int→Int→Int→Option (Int×Int×Int)) (s_1:ByteArray) (w_2:Int) (t11_3:Int) (t12_4:Int):Option (Int×Int×Int):=
 bif (ltI t12_4 t11_3) then
 bif (inB t12_4 (AX s_1)) then
 bif (leI 0 (Df .i64 7 t12_4)) then
 bif (leI 128 (byteAt s_1 t12_4)) then
 self s_1 (orI .u64 w_2 (Fc .u64 (IntKind.wrap .u64 (MK .u8 (byteAt s_1 t12_4) 128)) (Df .i64 7 t12_4))) t11_3 (An .i64 t12_4 1)
 else
 let r_5:=(CP (IntKind.wrap .i64 (orI .u64 w_2 (Fc .u64 (IntKind.wrap .u64 (MK .u8 (byteAt s_1 t12_4) 128)) (Df .i64 7 t12_4)))))
 ((OD r_5)).bind fun r_6=>
 bif (eqI r_6 (An .i64 t12_4 1)) then
 bif (ltI t12_4 9) then
 some (r_5,(An .i64 t12_4 1),0)
 else
 bif (eqI (byteAt s_1 t12_4) 1) then
 some (r_5,(An .i64 t12_4 1),0)
 else
 some (0,0,20)
 else
 some (0,0,20)
 else none
 else none
 else
 some (0,0,20)
def CX.l0:Nat→ByteArray→Int→Int→Int→Option (Int×Int×Int)
 | 0=>fun _ _ _ _=>none
 | n+1=>CX.S0 (CX.l0 n)
def CX.S (j0:ByteArray→Int→Int→Int→Option (Int×Int×Int)) (s:ByteArray):Option (Int×Int×Int):=
 j0 s 0 (Et (AX s) 10) 0
def CX (s:ByteArray):Option (Int×Int×Int):=CX.S (CX.l0 fu) s
def DI.S0 (self:Int→Int→(List Bool)→(List Bool)→Option ((List Bool))) (word_1:Int) (k_2:Int) (t2_3:(List Bool)) (out_4:(List Bool)):Option ((List Bool)):=
 bif (ltI k_2 64) then
 bif (leI 0 k_2) then
 bif ((inB k_2 64) && (decide (64=(List.length out_4)))) then
 self word_1 (An .i64 k_2 1) t2_3 (List.set out_4 (Int.toNat k_2) (eqI (BF .i64 (BG .i64 word_1 k_2) 1) 1))
 else none
 else none
 else
 bif (decide ((List.length out_4)=64)) then
 bif (decide ((List.length t2_3)=64)) then
 bif (decide ((List.length out_4)=64)) then
 some out_4
 else none
 else none
 else none
def DI.l0:Nat→Int→Int→(List Bool)→(List Bool)→Option ((List Bool))
 | 0=>fun _ _ _ _=>none
 | n+1=>DI.S0 (DI.l0 n)
def DI.S (j0:Int→Int→(List Bool)→(List Bool)→Option ((List Bool))) (word:Int):Option ((List Bool)):=
 j0 word 0 (List.replicate 64 false) (List.replicate 64 false)
def DI (word:Int):Option ((List Bool)):=DI.S (DI.l0 fu) word
def BU.S0 (self:Int→Int→(List Bool)→Option (Int)) (n_1:Int) (k_2:Int) (b_3:(List Bool)):Option (Int):=
 bif (ltI k_2 64) then
 bif ((inB k_2 64) && (decide (64=(List.length b_3)))) then
 bif (List.getD b_3 (Int.toNat k_2) false) then
 bif (leI 0 k_2) then
 self (orI .i64 n_1 (Fc .i64 1 k_2)) (An .i64 k_2 1) b_3
 else none
 else
 self n_1 (An .i64 k_2 1) b_3
 else none
 else
 some n_1
def BU.l0:Nat→Int→Int→(List Bool)→Option (Int)
 | 0=>fun _ _ _=>none
 | n+1=>BU.S0 (BU.l0 n)
def BU.S (j0:Int→Int→(List Bool)→Option (Int)) (b:(List Bool)):Option (Int):=
 j0 0 0 b
def BU (b:(List Bool)):Option (Int):=BU.S (BU.l0 fu) b
def DC.S0 (self:Int→(List Bool)→(List Bool)→Option (Int)) (k_2:Int) (b_3:(List Bool)) (out_4:(List Bool)):Option (Int):=
 bif (ltI k_2 64) then
 bif ((inB (AT .i64 k_2 1) 64) && (decide (64=(List.length b_3)))) then
 bif (decide (64=(List.length b_3))) then
 bif ((inB k_2 64) && (decide (64=(List.length out_4)))) then
 self (An .i64 k_2 1) b_3 (List.set out_4 (Int.toNat k_2) (!(eqB (List.getD b_3 (Int.toNat (AT .i64 k_2 1)) false) (List.getD b_3 63 false))))
 else none
 else none
 else none
 else
 bif (decide ((List.length out_4)=64)) then
 ((BU out_4)).bind fun r_5=>
 some r_5
 else none
def DC.l0:Nat→Int→(List Bool)→(List Bool)→Option (Int)
 | 0=>fun _ _ _=>none
 | n+1=>DC.S0 (DC.l0 n)
def DC.S (j0:Int→(List Bool)→(List Bool)→Option (Int)) (xn:Int):Option (Int):=
 ((DI xn)).bind fun r_1=>
 bif (decide (64=(List.length r_1))) then
 j0 1 r_1 (List.set (List.replicate 64 false) 0 (List.getD r_1 63 false))
 else none
def DC (xn:Int):Option (Int):=DC.S (DC.l0 fu) xn
def Cs.S0 (self:Int→Int→Int→(List Bool)→(List Bool)→Option (Int)) (at_2:Int) (w_3:Int) (k_4:Int) (b_5:(List Bool)) (out_6:(List Bool)):Option (Int):=
 bif (ltI k_4 64) then
 bif (ltI k_4 w_3) then
 bif (leI 0 at_2) then
 bif (ltI at_2 64) then
 bif (ltI k_4 (AT .i64 64 at_2)) then
 bif ((inB (An .i64 at_2 k_4) 64) && (decide (64=(List.length b_5)))) then
 bif ((inB k_4 64) && (decide (64=(List.length out_6)))) then
 self at_2 w_3 (An .i64 k_4 1) b_5 (List.set out_6 (Int.toNat k_4) (List.getD b_5 (Int.toNat (An .i64 at_2 k_4)) false))
 else none
 else none
 else
 bif (decide ((List.length out_6)=64)) then
 ((BU out_6)).bind fun r_7=>
 some r_7
 else none
 else
 bif (decide ((List.length out_6)=64)) then
 ((BU out_6)).bind fun r_8=>
 some r_8
 else none
 else
 bif (decide ((List.length out_6)=64)) then
 ((BU out_6)).bind fun r_9=>
 some r_9
 else none
 else
 bif (decide ((List.length out_6)=64)) then
 ((BU out_6)).bind fun r_10=>
 some r_10
 else none
 else
 bif (decide ((List.length out_6)=64)) then
 ((BU out_6)).bind fun r_11=>
 some r_11
 else none
def Cs.l0:Nat→Int→Int→Int→(List Bool)→(List Bool)→Option (Int)
 | 0=>fun _ _ _ _ _=>none
 | n+1=>Cs.S0 (Cs.l0 n)
def Cs.S (j0:Int→Int→Int→(List Bool)→(List Bool)→Option (Int)) (word:Int) (xat:Int) (w:Int):Option (Int):=
 ((DI word)).bind fun r_1=>
 j0 xat w 0 r_1 (List.replicate 64 false)
def Cs (word:Int) (xat:Int) (w:Int):Option (Int):=Cs.S (Cs.l0 fu) word xat w
def CG.S0 (self:Int→(List Int)→Option (ByteArray)) (w_2:Int) (out_3:(List Int)):Option (ByteArray):=
 ((Cs w_2 0 7)).bind fun r_4=>
 ((Cs w_2 7 64)).bind fun r_5=>
 bif (eqI r_5 0) then
 bif (Bw ((List.length out_3)+1) 1) then
 some (ofBytes (out_3++[(IntKind.wrap .u8 r_4)]))
 else none
 else
 bif (Bw ((List.length out_3)+1) 1) then
 self r_5 (out_3++[(IntKind.wrap .u8 (An .i64 128 r_4))])
 else none
def CG.l0:Nat→Int→(List Int)→Option (ByteArray)
 | 0=>fun _ _=>none
 | n+1=>CG.S0 (CG.l0 n)
def CG.S (j0:Int→(List Int)→Option (ByteArray)) (xn:Int):Option (ByteArray):=
 ((DC xn)).bind fun r_1=>
 j0 r_1 []
def CG (xn:Int):Option (ByteArray):=CG.S (CG.l0 fu) xn
def DR.S0 (self:Int→Int→Int→(List Bool)→(List Bool)→Option (Int)) (at_3:Int) (w_4:Int) (k_5:Int) (b_6:(List Bool)) (c_7:(List Bool)):Option (Int):=
 bif (ltI k_5 64) then
 bif (ltI k_5 w_4) then
 bif (leI 0 at_3) then
 bif (ltI at_3 64) then
 bif (ltI k_5 (AT .i64 64 at_3)) then
 bif ((inB k_5 64) && (decide (64=(List.length c_7)))) then
 bif ((inB (An .i64 at_3 k_5) 64) && (decide (64=(List.length b_6)))) then
 self at_3 w_4 (An .i64 k_5 1) (List.set b_6 (Int.toNat (An .i64 at_3 k_5)) (List.getD c_7 (Int.toNat k_5) false)) c_7
 else none
 else none
 else
 bif (decide ((List.length b_6)=64)) then
 ((BU b_6)).bind fun r_8=>
 some r_8
 else none
 else
 bif (decide ((List.length b_6)=64)) then
 ((BU b_6)).bind fun r_9=>
 some r_9
 else none
 else
 bif (decide ((List.length b_6)=64)) then
 ((BU b_6)).bind fun r_10=>
 some r_10
 else none
 else
 bif (decide ((List.length b_6)=64)) then
 ((BU b_6)).bind fun r_11=>
 some r_11
 else none
 else
 bif (decide ((List.length b_6)=64)) then
 ((BU b_6)).bind fun r_12=>
 some r_12
 else none
def DR.l0:Nat→Int→Int→Int→(List Bool)→(List Bool)→Option (Int)
 | 0=>fun _ _ _ _ _=>none
 | n+1=>DR.S0 (DR.l0 n)
def DR.S (j0:Int→Int→Int→(List Bool)→(List Bool)→Option (Int)) (word:Int) (xat:Int) (w:Int) (v:Int):Option (Int):=
 ((DI word)).bind fun r_1=>
 ((DI v)).bind fun r_2=>
 j0 xat w 0 r_1 r_2
def DR (word:Int) (xat:Int) (w:Int) (v:Int):Option (Int):=DR.S (DR.l0 fu) word xat w v
def Cu.S1 (b_5:(List Bool)) (out_6:(List Bool)):Option (Int):=
 bif (decide (64=(List.length b_5))) then
 bif (decide (64=(List.length out_6))) then
 bif (decide ((List.length (List.set out_6 63 (List.getD b_5 0 false)))=64)) then
 ((BU (List.set out_6 63 (List.getD b_5 0 false)))).bind fun r_7=>
 some r_7
 else none
 else none
 else none
def Cu.t1:Nat→(List Bool)→(List Bool)→Option (Int)
 | 0=>fun _ _=>none
 | _+1=>Cu.S1
def Cu.S0 (o1_0:(List Bool)→(List Bool)→Option (Int)) (self:Int→(List Bool)→(List Bool)→Option (Int)) (k_2:Int) (b_3:(List Bool)) (out_4:(List Bool)):Option (Int):=
 bif (ltI k_2 63) then
 bif ((inB (An .i64 k_2 1) 64) && (decide (64=(List.length b_3)))) then
 bif (decide (64=(List.length b_3))) then
 bif ((inB k_2 64) && (decide (64=(List.length out_4)))) then
 self (An .i64 k_2 1) b_3 (List.set out_4 (Int.toNat k_2) (!(eqB (List.getD b_3 (Int.toNat (An .i64 k_2 1)) false) (List.getD b_3 0 false))))
 else none
 else none
 else none
 else
 o1_0 b_3 out_4
def Cu.l0 (o1_0:(List Bool)→(List Bool)→Option (Int)):Nat→Int→(List Bool)→(List Bool)→Option (Int)
 | 0=>fun _ _ _=>none
 | n+1=>Cu.S0 o1_0 (Cu.l0 o1_0 n)
def Cu.S (j0:Int→(List Bool)→(List Bool)→Option (Int)) (word:Int):Option (Int):=
 ((DI word)).bind fun r_1=>
 j0 0 r_1 (List.replicate 64 false)
def Cu (word:Int):Option (Int):=Cu.S (Cu.l0 (Cu.t1 fu) fu) word
def Dx.S0 (self:ByteArray→Int→Int→Option (Int×Int×Int)) (s_1:ByteArray) (w_2:Int) (i_3:Int):Option (Int×Int×Int):=
 bif (ltI i_3 (AX s_1)) then
 bif (ltI i_3 10) then
 bif (inB i_3 (AX s_1)) then
 ((DR w_2 (Df .i64 7 i_3) 7 (IntKind.wrap .i64 (BF .u8 (byteAt s_1 i_3) 127)))).bind fun r_4=>
 bif (inB i_3 (AX s_1)) then
 bif (ltI (byteAt s_1 i_3) 128) then
 ((Cu r_4)).bind fun r_5=>
 ((CG r_5)).bind fun r_6=>
 bif (inC 0 (An .i64 i_3 1) (AX s_1)) then
 bif (!(eqS r_6 (cutS s_1 0 (An .i64 i_3 1)))) then
 some (0,0,20)
 else
 some (r_5,(An .i64 i_3 1),0)
 else none
 else
 self s_1 r_4 (An .i64 i_3 1)
 else none
 else none
 else
 some (0,0,20)
 else
 some (0,0,20)
def Dx.l0:Nat→ByteArray→Int→Int→Option (Int×Int×Int)
 | 0=>fun _ _ _=>none
 | n+1=>Dx.S0 (Dx.l0 n)
def Dx.S (j0:ByteArray→Int→Int→Option (Int×Int×Int)) (s:ByteArray):Option (Int×Int×Int):=
 j0 s 0 0
def Dx (s:ByteArray):Option (Int×Int×Int):=Dx.S (Dx.l0 fu) s
end Go.AM.Pure
