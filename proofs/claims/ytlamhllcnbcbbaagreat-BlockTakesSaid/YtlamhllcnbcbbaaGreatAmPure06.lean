import Derived.Test.YtlamhllcnbcbbaaGreatAmPrimW
import Derived.Test.YtlamhllcnbcbbaaGreatAmPure17
/- PRINTED by gen/ of this repo: the functions of the seat as pure functions. -/
namespace Go.AM.Pure
open Go.AM
def Zec (xn:Int):Int:=
 (IntKind.wrap .i64 (xorI .u64 (shlI .u64 (IntKind.wrap .u64 xn) 1) (IntKind.wrap .u64 (shrI .i64 xn 63))))
def Ztb.S1 (w_5:Int) (k_6:Int) (out_7:(List Int)):Option (ByteArray):=
 bif ((inB k_6 10) && (decide (10=(List.length out_7)))) then
 bif ((inC 0 (addI .i64 k_6 1) 10) && (decide (10=(List.length (List.set out_7 (Int.toNat k_6) (IntKind.wrap .u8 w_5)))))) then
 some (ofBytes (List.take ((Int.toNat (addI .i64 k_6 1))-0) (List.drop 0 (List.set out_7 (Int.toNat k_6) (IntKind.wrap .u8 w_5)))))
 else none
 else none
def Ztb.t1:Nat→Int→Int→(List Int)→Option (ByteArray)
 | 0=>fun _ _ _=>none
 | _+1=>Ztb.S1
def Ztb.S0 (o1_0:Int→Int→(List Int)→Option (ByteArray)) (self:Int→Int→(List Int)→Option (ByteArray)) (w_2:Int) (k_3:Int) (out_4:(List Int)):Option (ByteArray):=
 bif (leI 128 w_2) then
 bif ((inB k_3 10) && (decide (10=(List.length out_4)))) then
 self (shrI .u64 w_2 7) (addI .i64 k_3 1) (List.set out_4 (Int.toNat k_3) (orI .u8 (IntKind.wrap .u8 w_2) 128))
 else none
 else
 o1_0 w_2 k_3 out_4
def Ztb.l0 (o1_0:Int→Int→(List Int)→Option (ByteArray)):Nat→Int→Int→(List Int)→Option (ByteArray)
 | 0=>fun _ _ _=>none
 | n+1=>Ztb.S0 o1_0 (Ztb.l0 o1_0 n)
def Ztb.S (j0:Int→Int→(List Int)→Option (ByteArray)) (xn:Int):Option (ByteArray):=
 j0 (IntKind.wrap .u64 (Zec xn)) 0 [0,0,0,0,0,0,0,0,0,0]
def Ztb (xn:Int):Option (ByteArray):=Ztb.S (Ztb.l0 (Ztb.t1 fu) fu) xn
def Zoc (word:Int):Int:=
 (IntKind.wrap .i64 (xorI .u64 (shrI .u64 (IntKind.wrap .u64 word) 1) (subI .u64 0 (andI .u64 (IntKind.wrap .u64 word) 1))))
def Znc.S0 (self:Int→Int→Int→Option (Int)) (w_1:Int) (n_2:Int) (step_3:Int):Option (Int):=
 bif (ltI 0 step_3) then
 bif (leI 0 step_3) then
 bif (ltI 0 (shrI .u64 w_1 step_3)) then
 bif (leI 0 step_3) then
 self (shrI .u64 w_1 step_3) (addI .i64 n_2 step_3) (quoI .i64 step_3 2)
 else none
 else
 self w_1 n_2 (quoI .i64 step_3 2)
 else none
 else
 some (addI .i64 n_2 (IntKind.wrap .i64 w_1))
def Znc.l0:Nat→Int→Int→Int→Option (Int)
 | 0=>fun _ _ _=>none
 | n+1=>Znc.S0 (Znc.l0 n)
def Znc.S (j0:Int→Int→Int→Option (Int)) (word:Int):Option (Int):=
 j0 (IntKind.wrap .u64 word) 0 32
def Znc (word:Int):Option (Int):=Znc.S (Znc.l0 fu) word
def Zrr (xn:Int):Option (Int):=
 ((Znc (Zec xn))).bind fun r_2=>
 some (maxI 1 (quoI .i64 (subI .i64 (addI .i64 r_2 7) 1) 7))
def Zad.S0 (self:ByteArray→Int→Int→Int→Option (Int×Int×Int)) (s_1:ByteArray) (w_2:Int) (t11_3:Int) (t12_4:Int):Option (Int×Int×Int):=
 bif (ltI t12_4 t11_3) then
 bif (inB t12_4 (lenS s_1)) then
 bif (leI 0 (mulI .i64 7 t12_4)) then
 bif (leI 128 (byteAt s_1 t12_4)) then
 self s_1 (orI .u64 w_2 (shlI .u64 (IntKind.wrap .u64 (anotI .u8 (byteAt s_1 t12_4) 128)) (mulI .i64 7 t12_4))) t11_3 (addI .i64 t12_4 1)
 else
 let r_5:=(Zoc (IntKind.wrap .i64 (orI .u64 w_2 (shlI .u64 (IntKind.wrap .u64 (anotI .u8 (byteAt s_1 t12_4) 128)) (mulI .i64 7 t12_4)))))
 ((Zrr r_5)).bind fun r_6=>
 bif (eqI r_6 (addI .i64 t12_4 1)) then
 bif (ltI t12_4 9) then
 some (r_5,(addI .i64 t12_4 1),0)
 else
 bif (eqI (byteAt s_1 t12_4) 1) then
 some (r_5,(addI .i64 t12_4 1),0)
 else
 some (0,0,20)
 else
 some (0,0,20)
 else none
 else none
 else
 some (0,0,20)
def Zad.l0:Nat→ByteArray→Int→Int→Int→Option (Int×Int×Int)
 | 0=>fun _ _ _ _=>none
 | n+1=>Zad.S0 (Zad.l0 n)
def Zad.S (j0:ByteArray→Int→Int→Int→Option (Int×Int×Int)) (s:ByteArray):Option (Int×Int×Int):=
 j0 s 0 (minI (lenS s) 10) 0
def Zad (s:ByteArray):Option (Int×Int×Int):=Zad.S (Zad.l0 fu) s
def Zzd.S0 (self:Int→Int→(List Bool)→(List Bool)→Option ((List Bool))) (word_1:Int) (k_2:Int) (t2_3:(List Bool)) (out_4:(List Bool)):Option ((List Bool)):=
 bif (ltI k_2 64) then
 bif (leI 0 k_2) then
 bif ((inB k_2 64) && (decide (64=(List.length out_4)))) then
 self word_1 (addI .i64 k_2 1) t2_3 (List.set out_4 (Int.toNat k_2) (eqI (andI .i64 (shrI .i64 word_1 k_2) 1) 1))
 else none
 else none
 else
 bif (decide ((List.length out_4)=64)) then
 bif (decide ((List.length t2_3)=64)) then
 bif (decide ((List.length out_4)=64)) then
 some out_4
 else none
 else none
 else none
def Zzd.l0:Nat→Int→Int→(List Bool)→(List Bool)→Option ((List Bool))
 | 0=>fun _ _ _ _=>none
 | n+1=>Zzd.S0 (Zzd.l0 n)
def Zzd.S (j0:Int→Int→(List Bool)→(List Bool)→Option ((List Bool))) (word:Int):Option ((List Bool)):=
 j0 word 0 (List.replicate 64 false) (List.replicate 64 false)
def Zzd (word:Int):Option ((List Bool)):=Zzd.S (Zzd.l0 fu) word
def Zwb.S0 (self:Int→Int→(List Bool)→Option (Int)) (n_1:Int) (k_2:Int) (b_3:(List Bool)):Option (Int):=
 bif (ltI k_2 64) then
 bif ((inB k_2 64) && (decide (64=(List.length b_3)))) then
 bif (List.getD b_3 (Int.toNat k_2) false) then
 bif (leI 0 k_2) then
 self (orI .i64 n_1 (shlI .i64 1 k_2)) (addI .i64 k_2 1) b_3
 else none
 else
 self n_1 (addI .i64 k_2 1) b_3
 else none
 else
 some n_1
def Zwb.l0:Nat→Int→Int→(List Bool)→Option (Int)
 | 0=>fun _ _ _=>none
 | n+1=>Zwb.S0 (Zwb.l0 n)
def Zwb.S (j0:Int→Int→(List Bool)→Option (Int)) (b:(List Bool)):Option (Int):=
 j0 0 0 b
def Zwb (b:(List Bool)):Option (Int):=Zwb.S (Zwb.l0 fu) b
def Zvd.S0 (self:Int→(List Bool)→(List Bool)→Option (Int)) (k_2:Int) (b_3:(List Bool)) (out_4:(List Bool)):Option (Int):=
 bif (ltI k_2 64) then
 bif ((inB (subI .i64 k_2 1) 64) && (decide (64=(List.length b_3)))) then
 bif (decide (64=(List.length b_3))) then
 bif ((inB k_2 64) && (decide (64=(List.length out_4)))) then
 self (addI .i64 k_2 1) b_3 (List.set out_4 (Int.toNat k_2) (!(eqB (List.getD b_3 (Int.toNat (subI .i64 k_2 1)) false) (List.getD b_3 63 false))))
 else none
 else none
 else none
 else
 bif (decide ((List.length out_4)=64)) then
 ((Zwb out_4)).bind fun r_5=>
 some r_5
 else none
def Zvd.l0:Nat→Int→(List Bool)→(List Bool)→Option (Int)
 | 0=>fun _ _ _=>none
 | n+1=>Zvd.S0 (Zvd.l0 n)
def Zvd.S (j0:Int→(List Bool)→(List Bool)→Option (Int)) (xn:Int):Option (Int):=
 ((Zzd xn)).bind fun r_1=>
 bif (decide (64=(List.length r_1))) then
 j0 1 r_1 (List.set (List.replicate 64 false) 0 (List.getD r_1 63 false))
 else none
def Zvd (xn:Int):Option (Int):=Zvd.S (Zvd.l0 fu) xn
def Zlc.S0 (self:Int→Int→Int→(List Bool)→(List Bool)→Option (Int)) (at_2:Int) (w_3:Int) (k_4:Int) (b_5:(List Bool)) (out_6:(List Bool)):Option (Int):=
 bif (ltI k_4 64) then
 bif (ltI k_4 w_3) then
 bif (leI 0 at_2) then
 bif (ltI at_2 64) then
 bif (ltI k_4 (subI .i64 64 at_2)) then
 bif ((inB (addI .i64 at_2 k_4) 64) && (decide (64=(List.length b_5)))) then
 bif ((inB k_4 64) && (decide (64=(List.length out_6)))) then
 self at_2 w_3 (addI .i64 k_4 1) b_5 (List.set out_6 (Int.toNat k_4) (List.getD b_5 (Int.toNat (addI .i64 at_2 k_4)) false))
 else none
 else none
 else
 bif (decide ((List.length out_6)=64)) then
 ((Zwb out_6)).bind fun r_7=>
 some r_7
 else none
 else
 bif (decide ((List.length out_6)=64)) then
 ((Zwb out_6)).bind fun r_8=>
 some r_8
 else none
 else
 bif (decide ((List.length out_6)=64)) then
 ((Zwb out_6)).bind fun r_9=>
 some r_9
 else none
 else
 bif (decide ((List.length out_6)=64)) then
 ((Zwb out_6)).bind fun r_10=>
 some r_10
 else none
 else
 bif (decide ((List.length out_6)=64)) then
 ((Zwb out_6)).bind fun r_11=>
 some r_11
 else none
def Zlc.l0:Nat→Int→Int→Int→(List Bool)→(List Bool)→Option (Int)
 | 0=>fun _ _ _ _ _=>none
 | n+1=>Zlc.S0 (Zlc.l0 n)
def Zlc.S (j0:Int→Int→Int→(List Bool)→(List Bool)→Option (Int)) (word:Int) (xat:Int) (w:Int):Option (Int):=
 ((Zzd word)).bind fun r_1=>
 j0 xat w 0 r_1 (List.replicate 64 false)
def Zlc (word:Int) (xat:Int) (w:Int):Option (Int):=Zlc.S (Zlc.l0 fu) word xat w
def Zxc.S0 (self:Int→(List Int)→Option (ByteArray)) (w_2:Int) (out_3:(List Int)):Option (ByteArray):=
 ((Zlc w_2 0 7)).bind fun r_4=>
 ((Zlc w_2 7 64)).bind fun r_5=>
 bif (eqI r_5 0) then
 bif (roomB ((List.length out_3)+1) 1) then
 some (ofBytes (out_3++[(IntKind.wrap .u8 r_4)]))
 else none
 else
 bif (roomB ((List.length out_3)+1) 1) then
 self r_5 (out_3++[(IntKind.wrap .u8 (addI .i64 128 r_4))])
 else none
def Zxc.l0:Nat→Int→(List Int)→Option (ByteArray)
 | 0=>fun _ _=>none
 | n+1=>Zxc.S0 (Zxc.l0 n)
def Zxc.S (j0:Int→(List Int)→Option (ByteArray)) (xn:Int):Option (ByteArray):=
 ((Zvd xn)).bind fun r_1=>
 j0 r_1 []
def Zxc (xn:Int):Option (ByteArray):=Zxc.S (Zxc.l0 fu) xn
def Zfd.S0 (self:Int→Int→Int→(List Bool)→(List Bool)→Option (Int)) (at_3:Int) (w_4:Int) (k_5:Int) (b_6:(List Bool)) (c_7:(List Bool)):Option (Int):=
 bif (ltI k_5 64) then
 bif (ltI k_5 w_4) then
 bif (leI 0 at_3) then
 bif (ltI at_3 64) then
 bif (ltI k_5 (subI .i64 64 at_3)) then
 bif ((inB k_5 64) && (decide (64=(List.length c_7)))) then
 bif ((inB (addI .i64 at_3 k_5) 64) && (decide (64=(List.length b_6)))) then
 self at_3 w_4 (addI .i64 k_5 1) (List.set b_6 (Int.toNat (addI .i64 at_3 k_5)) (List.getD c_7 (Int.toNat k_5) false)) c_7
 else none
 else none
 else
 bif (decide ((List.length b_6)=64)) then
 ((Zwb b_6)).bind fun r_8=>
 some r_8
 else none
 else
 bif (decide ((List.length b_6)=64)) then
 ((Zwb b_6)).bind fun r_9=>
 some r_9
 else none
 else
 bif (decide ((List.length b_6)=64)) then
 ((Zwb b_6)).bind fun r_10=>
 some r_10
 else none
 else
 bif (decide ((List.length b_6)=64)) then
 ((Zwb b_6)).bind fun r_11=>
 some r_11
 else none
 else
 bif (decide ((List.length b_6)=64)) then
 ((Zwb b_6)).bind fun r_12=>
 some r_12
 else none
def Zfd.l0:Nat→Int→Int→Int→(List Bool)→(List Bool)→Option (Int)
 | 0=>fun _ _ _ _ _=>none
 | n+1=>Zfd.S0 (Zfd.l0 n)
def Zfd.S (j0:Int→Int→Int→(List Bool)→(List Bool)→Option (Int)) (word:Int) (xat:Int) (w:Int) (v:Int):Option (Int):=
 ((Zzd word)).bind fun r_1=>
 ((Zzd v)).bind fun r_2=>
 j0 xat w 0 r_1 r_2
def Zfd (word:Int) (xat:Int) (w:Int) (v:Int):Option (Int):=Zfd.S (Zfd.l0 fu) word xat w v
def Znb.S1 (b_5:(List Bool)) (out_6:(List Bool)):Option (Int):=
 bif (decide (64=(List.length b_5))) then
 bif (decide (64=(List.length out_6))) then
 bif (decide ((List.length (List.set out_6 63 (List.getD b_5 0 false)))=64)) then
 ((Zwb (List.set out_6 63 (List.getD b_5 0 false)))).bind fun r_7=>
 some r_7
 else none
 else none
 else none
def Znb.t1:Nat→(List Bool)→(List Bool)→Option (Int)
 | 0=>fun _ _=>none
 | _+1=>Znb.S1
def Znb.S0 (o1_0:(List Bool)→(List Bool)→Option (Int)) (self:Int→(List Bool)→(List Bool)→Option (Int)) (k_2:Int) (b_3:(List Bool)) (out_4:(List Bool)):Option (Int):=
 bif (ltI k_2 63) then
 bif ((inB (addI .i64 k_2 1) 64) && (decide (64=(List.length b_3)))) then
 bif (decide (64=(List.length b_3))) then
 bif ((inB k_2 64) && (decide (64=(List.length out_4)))) then
 self (addI .i64 k_2 1) b_3 (List.set out_4 (Int.toNat k_2) (!(eqB (List.getD b_3 (Int.toNat (addI .i64 k_2 1)) false) (List.getD b_3 0 false))))
 else none
 else none
 else none
 else
 o1_0 b_3 out_4
def Znb.l0 (o1_0:(List Bool)→(List Bool)→Option (Int)):Nat→Int→(List Bool)→(List Bool)→Option (Int)
 | 0=>fun _ _ _=>none
 | n+1=>Znb.S0 o1_0 (Znb.l0 o1_0 n)
def Znb.S (j0:Int→(List Bool)→(List Bool)→Option (Int)) (word:Int):Option (Int):=
 ((Zzd word)).bind fun r_1=>
 j0 0 r_1 (List.replicate 64 false)
def Znb (word:Int):Option (Int):=Znb.S (Znb.l0 (Znb.t1 fu) fu) word
def Zcb.S0 (self:ByteArray→Int→Int→Option (Int×Int×Int)) (s_1:ByteArray) (w_2:Int) (i_3:Int):Option (Int×Int×Int):=
 bif (ltI i_3 (lenS s_1)) then
 bif (ltI i_3 10) then
 bif (inB i_3 (lenS s_1)) then
 ((Zfd w_2 (mulI .i64 7 i_3) 7 (IntKind.wrap .i64 (andI .u8 (byteAt s_1 i_3) 127)))).bind fun r_4=>
 bif (inB i_3 (lenS s_1)) then
 bif (ltI (byteAt s_1 i_3) 128) then
 ((Znb r_4)).bind fun r_5=>
 ((Zxc r_5)).bind fun r_6=>
 bif (inC 0 (addI .i64 i_3 1) (lenS s_1)) then
 bif (!(eqS r_6 (cutS s_1 0 (addI .i64 i_3 1)))) then
 some (0,0,20)
 else
 some (r_5,(addI .i64 i_3 1),0)
 else none
 else
 self s_1 r_4 (addI .i64 i_3 1)
 else none
 else none
 else
 some (0,0,20)
 else
 some (0,0,20)
def Zcb.l0:Nat→ByteArray→Int→Int→Option (Int×Int×Int)
 | 0=>fun _ _ _=>none
 | n+1=>Zcb.S0 (Zcb.l0 n)
def Zcb.S (j0:ByteArray→Int→Int→Option (Int×Int×Int)) (s:ByteArray):Option (Int×Int×Int):=
 j0 s 0 0
def Zcb (s:ByteArray):Option (Int×Int×Int):=Zcb.S (Zcb.l0 fu) s
end Go.AM.Pure
