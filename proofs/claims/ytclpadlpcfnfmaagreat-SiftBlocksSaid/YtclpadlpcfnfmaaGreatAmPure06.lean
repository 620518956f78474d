import Derived.Test.YtclpadlpcfnfmaaGreatAmPrimW
import Derived.Test.YtclpadlpcfnfmaaGreatAmPure17
/- PRINTED by gen/ of this repo: the functions of the seat as pure functions. -/
namespace Go.AM.Pure
open Go.AM
def Eb (xn:Int):Int:=
 (IntKind.wrap .i64 (Fq .u64 (Er .u64 (IntKind.wrap .u64 xn) 1) (IntKind.wrap .u64 (BH .i64 xn 63))))
def Dx.S1 (w_5:Int) (Xj:Int) (ku:(List Int)):Option (ByteArray):=
 bif ((AX Xj 10) && (decide (10=(List.length ku)))) then
 bif ((CU 0 (AQ .i64 Xj 1) 10) && (decide (10=(List.length (List.set ku (Int.toNat Xj) (IntKind.wrap .u8 w_5)))))) then
 some (ofBytes (List.take ((Int.toNat (AQ .i64 Xj 1))-0) (List.drop 0 (List.set ku (Int.toNat Xj) (IntKind.wrap .u8 w_5)))))
 else none
 else none
def Dx.t1:Nat→Int→Int→(List Int)→Option (ByteArray)
 | 0=>fun _ _ _=>none
 | _+1=>Dx.S1
def Dx.S0 (BI:Int→Int→(List Int)→Option (ByteArray)) (self:Int→Int→(List Int)→Option (ByteArray)) (MD:Int) (cq:Int) (Ji:(List Int)):Option (ByteArray):=
 bif (Bq 128 MD) then
 bif ((AX cq 10) && (decide (10=(List.length Ji)))) then
 self (BH .u64 MD 7) (AQ .i64 cq 1) (List.set Ji (Int.toNat cq) (EI .u8 (IntKind.wrap .u8 MD) 128))
 else none
 else
 BI MD cq Ji
def Dx.l0 (BI:Int→Int→(List Int)→Option (ByteArray)):Nat→Int→Int→(List Int)→Option (ByteArray)
 | 0=>fun _ _ _=>none
 | n+1=>Dx.S0 BI (Dx.l0 BI n)
def Dx.S (j0:Int→Int→(List Int)→Option (ByteArray)) (xn:Int):Option (ByteArray):=
 j0 (IntKind.wrap .u64 (Eb xn)) 0 [0,0,0,0,0,0,0,0,0,0]
def Dx (xn:Int):Option (ByteArray):=Dx.S (Dx.l0 (Dx.t1 fu) fu) xn
def EE (word:Int):Int:=
 (IntKind.wrap .i64 (Fq .u64 (BH .u64 (IntKind.wrap .u64 word) 1) (Be .u64 0 (BL .u64 (IntKind.wrap .u64 word) 1))))
def E4.S0 (self:Int→Int→Int→Option (Int)) (ct:Int) (mI:Int) (Qn:Int):Option (Int):=
 bif (AS 0 Qn) then
 bif (Bq 0 Qn) then
 bif (AS 0 (BH .u64 ct Qn)) then
 bif (Bq 0 Qn) then
 self (BH .u64 ct Qn) (AQ .i64 mI Qn) (FE .i64 Qn 2)
 else none
 else
 self ct mI (FE .i64 Qn 2)
 else none
 else
 some (AQ .i64 mI (IntKind.wrap .i64 ct))
def E4.l0:Nat→Int→Int→Int→Option (Int)
 | 0=>fun _ _ _=>none
 | n+1=>E4.S0 (E4.l0 n)
def E4.S (j0:Int→Int→Int→Option (Int)) (word:Int):Option (Int):=
 j0 (IntKind.wrap .u64 word) 0 32
def E4 (word:Int):Option (Int):=E4.S (E4.l0 fu) word
def Vf (xn:Int):Option (Int):=
 ((E4 (Eb xn))).bind fun Ij=>
 some (EM 1 (FE .i64 (Be .i64 (AQ .i64 Ij 7) 1) 7))
def Fz.S0 (self:ByteArray→Int→Int→Int→Option (Int×Int×Int)) (KF:ByteArray) (MD:Int) (Zkd:Int) (K3:Int):Option (Int×Int×Int):=
 bif (AS K3 Zkd) then
 bif (AX K3 (Bh KF)) then
 bif (Bq 0 (Cj .i64 7 K3)) then
 bif (Bq 128 (byteAt KF K3)) then
 self KF (EI .u64 MD (Er .u64 (IntKind.wrap .u64 (NZ .u8 (byteAt KF K3) 128)) (Cj .i64 7 K3))) Zkd (AQ .i64 K3 1)
 else
 let Lj:=(EE (IntKind.wrap .i64 (EI .u64 MD (Er .u64 (IntKind.wrap .u64 (NZ .u8 (byteAt KF K3) 128)) (Cj .i64 7 K3)))))
 ((Vf Lj)).bind fun No=>
 bif (AR No (AQ .i64 K3 1)) then
 bif (AS K3 9) then
 some (Lj,(AQ .i64 K3 1),0)
 else
 bif (AR (byteAt KF K3) 1) then
 some (Lj,(AQ .i64 K3 1),0)
 else
 some (0,0,20)
 else
 some (0,0,20)
 else none
 else none
 else
 some (0,0,20)
def Fz.l0:Nat→ByteArray→Int→Int→Int→Option (Int×Int×Int)
 | 0=>fun _ _ _ _=>none
 | n+1=>Fz.S0 (Fz.l0 n)
def Fz.S (j0:ByteArray→Int→Int→Int→Option (Int×Int×Int)) (s:ByteArray):Option (Int×Int×Int):=
 j0 s 0 (DP (Bh s) 10) 0
def Fz (s:ByteArray):Option (Int×Int×Int):=Fz.S (Fz.l0 fu) s
def F5.S0 (self:Int→Int→(List Bool)→(List Bool)→Option ((List Bool))) (yz:Int) (FR:Int) (Zgg:(List Bool)) (Ji:(List Bool)):Option ((List Bool)):=
 bif (AS FR 64) then
 bif (Bq 0 FR) then
 bif ((AX FR 64) && (decide (64=(List.length Ji)))) then
 self yz (AQ .i64 FR 1) Zgg (List.set Ji (Int.toNat FR) (AR (BL .i64 (BH .i64 yz FR) 1) 1))
 else none
 else none
 else
 bif (decide ((List.length Ji)=64)) then
 bif (decide ((List.length Zgg)=64)) then
 bif (decide ((List.length Ji)=64)) then
 some Ji
 else none
 else none
 else none
def F5.l0:Nat→Int→Int→(List Bool)→(List Bool)→Option ((List Bool))
 | 0=>fun _ _ _ _=>none
 | n+1=>F5.S0 (F5.l0 n)
def F5.S (j0:Int→Int→(List Bool)→(List Bool)→Option ((List Bool))) (word:Int):Option ((List Bool)):=
 j0 word 0 (List.replicate 64 false) (List.replicate 64 false)
def F5 (word:Int):Option ((List Bool)):=F5.S (F5.l0 fu) word
def En.S0 (self:Int→Int→(List Bool)→Option (Int)) (mJ:Int) (FR:Int) (JP:(List Bool)):Option (Int):=
 bif (AS FR 64) then
 bif ((AX FR 64) && (decide (64=(List.length JP)))) then
 bif (List.getD JP (Int.toNat FR) false) then
 bif (Bq 0 FR) then
 self (EI .i64 mJ (Er .i64 1 FR)) (AQ .i64 FR 1) JP
 else none
 else
 self mJ (AQ .i64 FR 1) JP
 else none
 else
 some mJ
def En.l0:Nat→Int→Int→(List Bool)→Option (Int)
 | 0=>fun _ _ _=>none
 | n+1=>En.S0 (En.l0 n)
def En.S (j0:Int→Int→(List Bool)→Option (Int)) (b:(List Bool)):Option (Int):=
 j0 0 0 b
def En (b:(List Bool)):Option (Int):=En.S (En.l0 fu) b
def GH.S0 (self:Int→(List Bool)→(List Bool)→Option (Int)) (FR:Int) (JP:(List Bool)) (Ji:(List Bool)):Option (Int):=
 bif (AS FR 64) then
 bif ((AX (Be .i64 FR 1) 64) && (decide (64=(List.length JP)))) then
 bif (decide (64=(List.length JP))) then
 bif ((AX FR 64) && (decide (64=(List.length Ji)))) then
 self (AQ .i64 FR 1) JP (List.set Ji (Int.toNat FR) (!(Sh (List.getD JP (Int.toNat (Be .i64 FR 1)) false) (List.getD JP 63 false))))
 else none
 else none
 else none
 else
 bif (decide ((List.length Ji)=64)) then
 ((En Ji)).bind fun Lj=>
 some Lj
 else none
def GH.l0:Nat→Int→(List Bool)→(List Bool)→Option (Int)
 | 0=>fun _ _ _=>none
 | n+1=>GH.S0 (GH.l0 n)
def GH.S (j0:Int→(List Bool)→(List Bool)→Option (Int)) (xn:Int):Option (Int):=
 ((F5 xn)).bind fun G0=>
 bif (decide (64=(List.length G0))) then
 j0 1 G0 (List.set (List.replicate 64 false) 0 (List.getD G0 63 false))
 else none
def GH (xn:Int):Option (Int):=GH.S (GH.l0 fu) xn
def FK.S0 (self:Int→Int→Int→(List Bool)→(List Bool)→Option (Int)) (T5:Int) (w_3:Int) (QW:Int) (Si:(List Bool)) (J7:(List Bool)):Option (Int):=
 bif (AS QW 64) then
 bif (AS QW w_3) then
 bif (Bq 0 T5) then
 bif (AS T5 64) then
 bif (AS QW (Be .i64 64 T5)) then
 bif ((AX (AQ .i64 T5 QW) 64) && (decide (64=(List.length Si)))) then
 bif ((AX QW 64) && (decide (64=(List.length J7)))) then
 self T5 w_3 (AQ .i64 QW 1) Si (List.set J7 (Int.toNat QW) (List.getD Si (Int.toNat (AQ .i64 T5 QW)) false))
 else none
 else none
 else
 bif (decide ((List.length J7)=64)) then
 ((En J7)).bind fun Xk=>
 some Xk
 else none
 else
 bif (decide ((List.length J7)=64)) then
 ((En J7)).bind fun Xl=>
 some Xl
 else none
 else
 bif (decide ((List.length J7)=64)) then
 ((En J7)).bind fun Xm=>
 some Xm
 else none
 else
 bif (decide ((List.length J7)=64)) then
 ((En J7)).bind fun lR=>
 some lR
 else none
 else
 bif (decide ((List.length J7)=64)) then
 ((En J7)).bind fun lS=>
 some lS
 else none
def FK.l0:Nat→Int→Int→Int→(List Bool)→(List Bool)→Option (Int)
 | 0=>fun _ _ _ _ _=>none
 | n+1=>FK.S0 (FK.l0 n)
def FK.S (j0:Int→Int→Int→(List Bool)→(List Bool)→Option (Int)) (word:Int) (El:Int) (w:Int):Option (Int):=
 ((F5 word)).bind fun G0=>
 j0 El w 0 G0 (List.replicate 64 false)
def FK (word:Int) (El:Int) (w:Int):Option (Int):=FK.S (FK.l0 fu) word El w
def E5.S0 (self:Int→(List Int)→Option (ByteArray)) (MD:Int) (aO:(List Int)):Option (ByteArray):=
 ((FK MD 0 7)).bind fun Sj=>
 ((FK MD 7 64)).bind fun Lj=>
 bif (AR Lj 0) then
 bif (BM ((List.length aO)+1) 1) then
 some (ofBytes (aO++[(IntKind.wrap .u8 Sj)]))
 else none
 else
 bif (BM ((List.length aO)+1) 1) then
 self Lj (aO++[(IntKind.wrap .u8 (AQ .i64 128 Sj))])
 else none
def E5.l0:Nat→Int→(List Int)→Option (ByteArray)
 | 0=>fun _ _=>none
 | n+1=>E5.S0 (E5.l0 n)
def E5.S (j0:Int→(List Int)→Option (ByteArray)) (xn:Int):Option (ByteArray):=
 ((GH xn)).bind fun G0=>
 j0 G0 []
def E5 (xn:Int):Option (ByteArray):=E5.S (E5.l0 fu) xn
def Iq.S0 (self:Int→Int→Int→(List Bool)→(List Bool)→Option (Int)) (T6:Int) (w_4:Int) (QX:Int) (ME:(List Bool)) (mK:(List Bool)):Option (Int):=
 bif (AS QX 64) then
 bif (AS QX w_4) then
 bif (Bq 0 T6) then
 bif (AS T6 64) then
 bif (AS QX (Be .i64 64 T6)) then
 bif ((AX QX 64) && (decide (64=(List.length mK)))) then
 bif ((AX (AQ .i64 T6 QX) 64) && (decide (64=(List.length ME)))) then
 self T6 w_4 (AQ .i64 QX 1) (List.set ME (Int.toNat (AQ .i64 T6 QX)) (List.getD mK (Int.toNat QX) false)) mK
 else none
 else none
 else
 bif (decide ((List.length ME)=64)) then
 ((En ME)).bind fun Xl=>
 some Xl
 else none
 else
 bif (decide ((List.length ME)=64)) then
 ((En ME)).bind fun Xm=>
 some Xm
 else none
 else
 bif (decide ((List.length ME)=64)) then
 ((En ME)).bind fun lR=>
 some lR
 else none
 else
 bif (decide ((List.length ME)=64)) then
 ((En ME)).bind fun lS=>
 some lS
 else none
 else
 bif (decide ((List.length ME)=64)) then
 ((En ME)).bind fun Ym2=>
 some Ym2
 else none
def Iq.l0:Nat→Int→Int→Int→(List Bool)→(List Bool)→Option (Int)
 | 0=>fun _ _ _ _ _=>none
 | n+1=>Iq.S0 (Iq.l0 n)
def Iq.S (j0:Int→Int→Int→(List Bool)→(List Bool)→Option (Int)) (word:Int) (El:Int) (w:Int) (v:Int):Option (Int):=
 ((F5 word)).bind fun G0=>
 ((F5 v)).bind fun Ij=>
 j0 El w 0 G0 Ij
def Iq (word:Int) (El:Int) (w:Int) (v:Int):Option (Int):=Iq.S (Iq.l0 fu) word El w v
def ED.S1 (Si:(List Bool)) (J7:(List Bool)):Option (Int):=
 bif (decide (64=(List.length Si))) then
 bif (decide (64=(List.length J7))) then
 bif (decide ((List.length (List.set J7 63 (List.getD Si 0 false)))=64)) then
 ((En (List.set J7 63 (List.getD Si 0 false)))).bind fun Xk=>
 some Xk
 else none
 else none
 else none
def ED.t1:Nat→(List Bool)→(List Bool)→Option (Int)
 | 0=>fun _ _=>none
 | _+1=>ED.S1
def ED.S0 (BI:(List Bool)→(List Bool)→Option (Int)) (self:Int→(List Bool)→(List Bool)→Option (Int)) (FR:Int) (JP:(List Bool)) (Ji:(List Bool)):Option (Int):=
 bif (AS FR 63) then
 bif ((AX (AQ .i64 FR 1) 64) && (decide (64=(List.length JP)))) then
 bif (decide (64=(List.length JP))) then
 bif ((AX FR 64) && (decide (64=(List.length Ji)))) then
 self (AQ .i64 FR 1) JP (List.set Ji (Int.toNat FR) (!(Sh (List.getD JP (Int.toNat (AQ .i64 FR 1)) false) (List.getD JP 0 false))))
 else none
 else none
 else none
 else
 BI JP Ji
def ED.l0 (BI:(List Bool)→(List Bool)→Option (Int)):Nat→Int→(List Bool)→(List Bool)→Option (Int)
 | 0=>fun _ _ _=>none
 | n+1=>ED.S0 BI (ED.l0 BI n)
def ED.S (j0:Int→(List Bool)→(List Bool)→Option (Int)) (word:Int):Option (Int):=
 ((F5 word)).bind fun G0=>
 j0 0 G0 (List.replicate 64 false)
def ED (word:Int):Option (Int):=ED.S (ED.l0 (ED.t1 fu) fu) word
def Hd.S0 (self:ByteArray→Int→Int→Option (Int×Int×Int)) (KF:ByteArray) (MD:Int) (Np:Int):Option (Int×Int×Int):=
 bif (AS Np (Bh KF)) then
 bif (AS Np 10) then
 bif (AX Np (Bh KF)) then
 ((Iq MD (Cj .i64 7 Np) 7 (IntKind.wrap .i64 (BL .u8 (byteAt KF Np) 127)))).bind fun Sj=>
 bif (AX Np (Bh KF)) then
 bif (AS (byteAt KF Np) 128) then
 ((ED Sj)).bind fun Lj=>
 ((E5 Lj)).bind fun No=>
 bif (CU 0 (AQ .i64 Np 1) (Bh KF)) then
 bif (!(Cn No (cutS KF 0 (AQ .i64 Np 1)))) then
 some (0,0,20)
 else
 some (Lj,(AQ .i64 Np 1),0)
 else none
 else
 self KF Sj (AQ .i64 Np 1)
 else none
 else none
 else
 some (0,0,20)
 else
 some (0,0,20)
def Hd.l0:Nat→ByteArray→Int→Int→Option (Int×Int×Int)
 | 0=>fun _ _ _=>none
 | n+1=>Hd.S0 (Hd.l0 n)
def Hd.S (j0:ByteArray→Int→Int→Option (Int×Int×Int)) (s:ByteArray):Option (Int×Int×Int):=
 j0 s 0 0
def Hd (s:ByteArray):Option (Int×Int×Int):=Hd.S (Hd.l0 fu) s
end Go.AM.Pure
