import Derived.Test.YtclpadlpcfnfmaaGreatAmHand18
/- PRINTED by gen/ of this repo: the functions of the seat as pure functions. -/
namespace Go.AM.Pure
open Go.AM
def JY (xn:Int):QK:=
 (1,xn,eB)
def X1 (l:CS):Option (AT):=
 bif (Bq 0 (Be .i64 (AP l) 1)) then
 bif (AX (Be .i64 (AP l) 1) (AP l)) then
 ((Fw l)).bind fun x1=>
 some [0,(Cj .i64 8 (AP l)),(Cj .i64 8 (AQ .i64 (FE .i64 (Be .i64 (nth l (Be .i64 (AP l) 1) (0,0)).2 1) 64) 1)),(Cj .i64 2 x1)]
 else none
 else
 ((Fw l)).bind fun x2=>
 some [0,(Cj .i64 8 (AP l)),0,(Cj .i64 2 x2)]
def Yv (word El:Int) (w v:Int):Option Int:=
 bif (!(MR El w)) then
 some word
 else
 ((ON w)).bind fun x2=>
 bif (Bq 0 El) then
 bif (Bq 0 El) then
 some (IntKind.wrap .i64 (EI .u64 (NZ .u64 (IntKind.wrap .u64 word) (Er .u64 (IntKind.wrap .u64 x2) El)) (BL .u64 (Er .u64 (IntKind.wrap .u64 v) El) (Er .u64 (IntKind.wrap .u64 x2) El))))
 else none
 else none
abbrev Hu.A0:=Int→Int→AT→Option (AT)
def Hu.S0 (self:Hu.A0):Hu.A0:=fun x1 x2 x3=>
 bif (AS x1 x2) then
 bif (AX (BH .i64 x1 6) (AP x3)) then
 ((Yv (List.getD x3 (Int.toNat (BH .i64 x1 6)) 0) (BL .i64 x1 63) (DP (Be .i64 64 (BL .i64 x1 63)) (Be .i64 x2 x1)) (-1))).bind fun x4=>
 bif (AX (BH .i64 x1 6) (AP x3)) then
 self (AQ .i64 x1 (DP (Be .i64 64 (BL .i64 x1 63)) (Be .i64 x2 x1))) x2 (List.set x3 (Int.toNat (BH .i64 x1 6)) x4)
 else none
 else none
 else
 bif (decide (0<(List.length x3))) then
 some x3
 else none
def Hu.l0:Nat→Hu.A0
 | 0=>fun _ _ _=>none
 | n+1=>Hu.S0 (Hu.l0 n)
def Hu.S (j0:Hu.A0) (l:AT) (lo hi:Int):Option (AT):=
 j0 lo hi l
def Hu (l:AT) (lo hi:Int):Option (AT):=Hu.S (Hu.l0 fu) l lo hi
abbrev Gm.A0:=CS→Int→Int→AT→Option D7
def Gm.S0 (self:Gm.A0):Gm.A0:=fun x2 x3 x4 x5=>
 bif (AS x4 x3) then
 bif (AX x4 (AP x2)) then
 ((OZ ((decide (0<(List.length x5))) && true) (Hu x5 (nth x2 x4 (0,0)).1 (nth x2 x4 (0,0)).2) fun _x=>((decide ((List.length _x)=(List.length x5))) && true))).bind fun x6=>
 self x2 x3 (AQ .i64 x4 1) x6
 else none
 else
 some (x5,0)
def Gm.l0:Nat→Gm.A0
 | 0=>fun _ _ _ _=>none
 | n+1=>Gm.S0 (Gm.l0 n)
def Gm.S (j0:Gm.A0) (l:CS):Option D7:=
 ((FB l)).bind fun x1=>
 bif (!x1) then
 some ([],1)
 else
 bif (AR (AP l) 0) then
 some ([],0)
 else
 bif (AX (Be .i64 (AP l) 1) (AP l)) then
 bif ((Bq 0 (BH .i64 (Be .i64 (AQ .i64 (nth l (Be .i64 (AP l) 1) (0,0)).2 64) 1) 6)) && (BM (Int.toNat (BH .i64 (Be .i64 (AQ .i64 (nth l (Be .i64 (AP l) 1) (0,0)).2 64) 1) 6)) 8)) then
 j0 l (AP l) 0 (List.replicate (Int.toNat (BH .i64 (Be .i64 (AQ .i64 (nth l (Be .i64 (AP l) 1) (0,0)).2 64) 1) 6)) (0:Int))
 else none
 else none
def Gm (l:CS):Option D7:=Gm.S (Gm.l0 fu) l
abbrev Dv.A0:=AT→CS→Int→Int→Option D7
abbrev Dv.A1:=AT→Int→CS→Int→Int→QL→Option D7
def Dv.S1 (Cd:Dv.A0) (self:Dv.A1):Dv.A1:=fun x7 x8 x9 Bc BB BQ=>
 bif (AS x8 BQ.2) then
 bif (BM ((List.length x7)+1) 8) then
 self (x7++[x8]) (AQ .i64 x8 1) x9 Bc BB BQ
 else none
 else
 Cd x7 x9 Bc (AQ .i64 BB 1)
def Dv.l1 (Cd:Dv.A0):Nat→Dv.A1
 | 0=>fun _ _ _ _ _ _=>none
 | n+1=>Dv.S1 Cd (Dv.l1 Cd n)
def Dv.S0 (j1:Dv.A1):Dv.A0:=fun x3 x4 x5 x6=>
 bif (AS x6 x5) then
 bif (AX x6 (AP x4)) then
 j1 x3 (nth x4 x6 (0,0)).1 x4 x5 x6 (nth x4 x6 (0,0))
 else none
 else
 some (x3,0)
def Dv.l0:Nat→Dv.A0
 | 0=>fun _ _ _ _=>none
 | n+1=>Dv.S0 (Dv.l1 (Dv.l0 n) n)
def Dv.S (j0:Dv.A0) (l:CS):Option D7:=
 ((FB l)).bind fun x1=>
 bif (!x1) then
 some ([],1)
 else
 ((Fw l)).bind fun x2=>
 bif ((Bq 0 x2) && (BM (Int.toNat x2) 8)) then
 j0 [] l (AP l) 0
 else none
def Dv (l:CS):Option D7:=Dv.S (Dv.l0 fu) l
def OE (l:CS) (form:Int):Option Mq:=
 ((FB l)).bind fun x1=>
 bif (!x1) then
 some ((0,[],[],[]),1)
 else
 bif (AR form 1) then
 ((MY 16 l)).bind fun x2=>
 some ((form,x2,[],[]),0)
 else
 bif (AR form 2) then
 ((Gm l)).bind fun x3=>
 some ((form,[],x3.1,[]),0)
 else
 bif (AR form 3) then
 ((Dv l)).bind fun x4=>
 some ((form,[],[],x4.1),0)
 else
 some ((0,[],[],[]),1)
abbrev DB.A0:=CS→Int→Int→K7→AT→Option Mq
abbrev DB.A1:=CS→Int→K7→Option Mq
def DB.S1:DB.A1:=fun x8 x9 Bc=>
 ((OE x8 x9)).bind fun BB=>
 some BB
def DB.t1:Nat→DB.A1
 | 0=>fun _ _ _=>none
 | _+1=>DB.S1
def DB.S0 (BI:DB.A1) (self:DB.A0):DB.A0:=fun x3 x4 x5 x6 x7=>
 bif (Bq x5 3) then
 bif ((AX x5 4) && (decide (4=(List.length x7)))) then
 bif ((AX x4 4) && (decide (4=(List.length x7)))) then
 bif (AS (List.getD x7 (Int.toNat x5) 0) (List.getD x7 (Int.toNat x4) 0)) then
 self x3 x5 (AQ .i64 x5 1) x6 x7
 else
 self x3 x4 (AQ .i64 x5 1) x6 x7
 else none
 else none
 else
 BI x3 x4 x6
def DB.l0 (BI:DB.A1):Nat→DB.A0
 | 0=>fun _ _ _ _ _=>none
 | n+1=>DB.S0 BI (DB.l0 BI n)
def DB.S (j0:DB.A0) (l:CS):Option Mq:=
 ((FB l)).bind fun x1=>
 bif (!x1) then
 some ((0,[],[],[]),1)
 else
 ((X1 l)).bind fun x2=>
 j0 l 1 2 (0,[],[],[]) x2
def DB (l:CS):Option Mq:=DB.S (DB.l0 (DB.t1 fu) fu) l
def Lt (places:AT):Option Mq:=
 ((Rz places)).bind fun x1=>
 bif (By x1.2 0) then
 some ((0,[],[],[]),x1.2)
 else
 ((DB x1.1)).bind fun x2=>
 some x2
def eo (xn:Int):QK:=
 (1,xn,eB)
abbrev Hv.A0:=Int→AT→Int→Int→Option Int
abbrev FT.A0:=Int→Int→IM→Option JH
def FT.S0 (self:FT.A0):FT.A0:=fun x1 x2 x3=>
 bif (AS x2 x1) then
 bif (BM ((List.length x3.2.2)+1) 8) then
 self x1 (AQ .i64 x2 1) (x3.1,x3.2.1,(x3.2.2++[x2]))
 else none
 else
 some x3
def FT.l0:Nat→FT.A0
 | 0=>fun _ _ _=>none
 | n+1=>FT.S0 (FT.l0 n)
def FT.S (j0:FT.A0) (f:IM) (JE Xi:Int):Option JH:=
 j0 Xi JE f
def FT (f:IM) (JE Xi:Int):Option JH:=FT.S (FT.l0 fu) f JE Xi
abbrev FU.A0:=E9→Int→Int→IM→Option JH
def FU.S0 (self:FU.A0):FU.A0:=fun x2 x3 x4 x5=>
 bif (AS x4 x3) then
 bif (AX x4 (AP x2)) then
 ((Rh x5.1 (eo (nth x2 x4 (0,0,0)).1))).bind fun x7=>
 bif x7 then
 ((FT x5 (nth x2 x4 (0,0,0)).2.1 (AQ .i64 (nth x2 x4 (0,0,0)).2.1 (nth x2 x4 (0,0,0)).2.2))).bind fun x8=>
 self x2 x3 (AQ .i64 x4 1) x8
 else
 self x2 x3 (AQ .i64 x4 1) x5
 else none
 else
 some x5
def FU.l0:Nat→FU.A0
 | 0=>fun _ _ _ _=>none
 | n+1=>FU.S0 (FU.l0 n)
def FU.S (j0:FU.A0) (f:IM) (xn:Int):Option JH:=
 ((Dk f.2.1 xn)).bind fun x1=>
 j0 x1.1 (AP x1.1) 0 f
def FU (f:IM) (xn:Int):Option JH:=FU.S (FU.l0 fu) f xn
abbrev CJ.A0:=AT→AT→Ce→Int→Int→Option (AT)
abbrev CJ.A1:=AT→AT→Option (AT)
abbrev CJ.A2:=AT→AT→AT→Int→Int→Option (AT)
def CJ.S2 (self:CJ.A2):CJ.A2:=fun x8 x9 Bc BB BQ=>
 bif (AS BQ BB) then
 bif (AX BQ (AP Bc)) then
 bif (AX (nth Bc BQ 0) (AP x8)) then
 bif (BM ((List.length x9)+1) 8) then
 self x8 (x9++[(nth x8 (nth Bc BQ 0) 0)]) Bc BB (AQ .i64 BQ 1)
 else none
 else none
 else none
 else
 some x9
def CJ.l2:Nat→CJ.A2
 | 0=>fun _ _ _ _ _=>none
 | n+1=>CJ.S2 (CJ.l2 n)
def CJ.S1 (j2:CJ.A2):CJ.A1:=fun x6 x7=>
 j2 x7 [] x6 (AP x6) 0
def CJ.t1:Nat→CJ.A1
 | 0=>fun _ _=>none
 | n+1=>CJ.S1 (CJ.l2 n)
def CJ.S0 (BI:CJ.A1) (self:CJ.A0):CJ.A0:=fun x1 x2 x3 x4 x5=>
 bif (AS x5 x4) then
 bif (AX x5 (AP x3)) then
 bif (By (nth x3 x5 (0,0,eB)).1 0) then
 bif (BM ((List.length x2)+1) 8) then
 self x1 (x2++[x5]) x3 x4 (AQ .i64 x5 1)
 else none
 else
 self x1 x2 x3 x4 (AQ .i64 x5 1)
 else none
 else
 BI x1 x2
def CJ.l0 (BI:CJ.A1):Nat→CJ.A0
 | 0=>fun _ _ _ _ _=>none
 | n+1=>CJ.S0 BI (CJ.l0 BI n)
def CJ.S (j0:CJ.A0) (l:Ce) (found:AT):Option (AT):=
 j0 found [] l (AP l) 0
def CJ (l:Ce) (found:AT):Option (AT):=CJ.S (CJ.l0 (CJ.t1 fu) fu) l found
abbrev Cv.A0:=AT→Cl→Int→Int→EZ→IM→Option JH
abbrev Cv.A1:=AT→EZ→IM→Option JH
abbrev Cv.A2:=AT→Int→Int→EZ→IM→Option JH
def Cv.S2 (self:Cv.A2):Cv.A2:=fun BQ BC BS Ck B6=>
 bif (AS BS BC) then
 bif (AX BS (AP BQ)) then
 bif (AX (nth BQ BS 0) (AP Ck)) then
 bif (List.getD Ck (Int.toNat (nth BQ BS 0)) false) then
 ((FT B6 BS (AQ .i64 BS 1))).bind fun Di=>
 self BQ BC (AQ .i64 BS 1) Ck Di
 else
 self BQ BC (AQ .i64 BS 1) Ck B6
 else none
 else none
 else
 some B6
def Cv.l2:Nat→Cv.A2
 | 0=>fun _ _ _ _ _=>none
 | n+1=>Cv.S2 (Cv.l2 n)
def Cv.S1 (j2:Cv.A2):Cv.A1:=fun x9 Bc BB=>
 j2 x9 (AP x9) 0 Bc BB
def Cv.t1:Nat→Cv.A1
 | 0=>fun _ _ _=>none
 | n+1=>Cv.S1 (Cv.l2 n)
def Cv.S0 (BI:Cv.A1) (self:Cv.A0):Cv.A0:=fun x2 x3 x4 x5 x6 x7=>
 bif (AS x5 x4) then
 bif (AX x5 (AP x3)) then
 ((Rh x7.1 (2,0,(nth x3 x5 eB)))).bind fun x8=>
 bif (AX x5 (AP x6)) then
 self x2 x3 x4 (AQ .i64 x5 1) (List.set x6 (Int.toNat x5) x8) x7
 else none
 else none
 else
 BI x2 x6 x7
def Cv.l0 (BI:Cv.A1):Nat→Cv.A0
 | 0=>fun _ _ _ _ _ _=>none
 | n+1=>Cv.S0 BI (Cv.l0 BI n)
def Cv.S (j0:Cv.A0) (f:IM) (xn:Int):Option JH:=
 ((PX f.2.1 xn)).bind fun x1=>
 bif ((Bq 0 (AP x1.1)) && (BM (Int.toNat (AP x1.1)) 1)) then
 j0 x1.2.1 x1.1 (AP x1.1) 0 (List.replicate (Int.toNat (AP x1.1)) false) f
 else none
def Cv (f:IM) (xn:Int):Option JH:=Cv.S (Cv.l0 (Cv.t1 fu) fu) f xn
abbrev I9.A0:=Int→Na→AT→Int→Int→Option Int
abbrev Ja.A0:=Int→Int→Option QL
abbrev EC.A0:=Int→Int→AT→Int→Int→IM→Option JH
def EC.S0 (self:EC.A0):EC.A0:=fun x4 x5 x6 x7 x8 x9=>
 bif (AS x8 x7) then
 bif (AX x8 (AP x6)) then
 bif (Bq x4 (nth x6 x8 0)) then
 bif (AS (nth x6 x8 0) x5) then
 ((FT x9 x8 (AQ .i64 x8 1))).bind fun Bc=>
 self x4 x5 x6 x7 (AQ .i64 x8 1) Bc
 else
 self x4 x5 x6 x7 (AQ .i64 x8 1) x9
 else
 self x4 x5 x6 x7 (AQ .i64 x8 1) x9
 else none
 else
 some x9
def EC.l0:Nat→EC.A0
 | 0=>fun _ _ _ _ _ _=>none
 | n+1=>EC.S0 (EC.l0 n)
def EC.S (j0:EC.A0) (f:IM) (xn:Int):Option JH:=
 ((SM f.2.1 xn)).bind fun x1=>
 ((Y7 x1.1)).bind fun x2=>
 ((Ja f.1 x2.1)).bind fun x3=>
 j0 x3.1 x3.2 x2.2 (AP x2.2) 0 f
def EC (f:IM) (xn:Int):Option JH:=EC.S (EC.l0 fu) f xn
abbrev ES.A0:=Int→Ce→Int→Int→IM→Option JH
def ES.S0 (self:ES.A0):ES.A0:=fun x1 x2 x3 x4 x5=>
 bif (AS x4 x3) then
 bif (AX x4 (AP x2)) then
 bif (AR (nth x2 x4 (0,0,eB)).1 0) then
 self x1 x2 x3 (AQ .i64 x4 1) x5
 else
 ((Rh x5.1 (nth x2 x4 (0,0,eB)))).bind fun x6=>
 bif x6 then
 ((FT x5 x1 (AQ .i64 x1 1))).bind fun x7=>
 self (AQ .i64 x1 1) x2 x3 (AQ .i64 x4 1) x7
 else
 self (AQ .i64 x1 1) x2 x3 (AQ .i64 x4 1) x5
 else none
 else
 some x5
def ES.l0:Nat→ES.A0
 | 0=>fun _ _ _ _ _=>none
 | n+1=>ES.S0 (ES.l0 n)
def ES.S (j0:ES.A0) (f:IM) (l:Ce):Option JH:=
 j0 0 l (AP l) 0 f
def ES (f:IM) (l:Ce):Option JH:=ES.S (ES.l0 fu) f l
abbrev B5.A0:=AT→Ce→Int→Int→K7→Option Mq
abbrev B5.A1:=AT→K7→Option Mq
abbrev B5.A2:=ByteArray→Ce→Na→K7→R1→Option Mq
abbrev B5.A3:=Ce→K7→IM→Option Mq
def B5.S1:B5.A1:=fun x9 Bc=>
 ((Lt x9)).bind fun BB=>
 some BB
def B5.t1:Nat→B5.A1
 | 0=>fun _ _=>none
 | _+1=>B5.S1
def B5.S0 (BI:B5.A1) (self:B5.A0):B5.A0:=fun x4 x5 x6 x7 x8=>
 bif (AS x7 x6) then
 bif (AX x7 (AP x5)) then
 bif (AR (nth x5 x7 (0,0,eB)).1 0) then
 bif (BM ((List.length x4)+1) 8) then
 self (x4++[x7]) x5 x6 (AQ .i64 x7 1) x8
 else none
 else
 self x4 x5 x6 (AQ .i64 x7 1) x8
 else none
 else
 BI x4 x8
def B5.l0 (BI:B5.A1):Nat→B5.A0
 | 0=>fun _ _ _ _ _=>none
 | n+1=>B5.S0 BI (B5.l0 BI n)
def B5.S3:B5.A3:=fun CW DJ Ef=>
 ((CJ CW Ef.2.2)).bind fun EN=>
 ((Lt EN)).bind fun Hn=>
 some Hn
def B5.t3:Nat→B5.A3
 | 0=>fun _ _ _=>none
 | _+1=>B5.S3
def B5.S2 (j3:B5.A3):B5.A2:=fun BQ BC BS Ck B6=>
 ((SS BQ)).bind fun Di=>
 bif (AR B6.2.1 2) then
 bif (AR B6.1 1) then
 ((FU (BS,Di.1,[]) (Be .i64 B6.2.2.1 B6.2.2.2))).bind fun DZ=>
 j3 BC Ck DZ
 else
 bif (AR B6.2.1 4) then
 bif (AR B6.1 2) then
 ((Cv (BS,Di.1,[]) (Be .i64 B6.2.2.1 B6.2.2.2))).bind fun IU=>
 j3 BC Ck IU
 else
 bif (AR B6.2.1 4) then
 bif (By BS.1 2) then
 ((EC (BS,Di.1,[]) (Be .i64 B6.2.2.1 B6.2.2.2))).bind fun IV=>
 j3 BC Ck IV
 else
 ((ES (BS,Di.1,[]) BC)).bind fun IW=>
 j3 BC Ck IW
 else
 ((ES (BS,Di.1,[]) BC)).bind fun IX=>
 j3 BC Ck IX
 else
 bif (AR B6.2.1 4) then
 bif (By BS.1 2) then
 ((EC (BS,Di.1,[]) (Be .i64 B6.2.2.1 B6.2.2.2))).bind fun KC=>
 j3 BC Ck KC
 else
 ((ES (BS,Di.1,[]) BC)).bind fun LY=>
 j3 BC Ck LY
 else
 ((ES (BS,Di.1,[]) BC)).bind fun KD=>
 j3 BC Ck KD
 else
 bif (AR B6.2.1 4) then
 bif (AR B6.1 2) then
 ((Cv (BS,Di.1,[]) (Be .i64 B6.2.2.1 B6.2.2.2))).bind fun KE=>
 j3 BC Ck KE
 else
 bif (AR B6.2.1 4) then
 bif (By BS.1 2) then
 ((EC (BS,Di.1,[]) (Be .i64 B6.2.2.1 B6.2.2.2))).bind fun x32=>
 j3 BC Ck x32
 else
 ((ES (BS,Di.1,[]) BC)).bind fun x33=>
 j3 BC Ck x33
 else
 ((ES (BS,Di.1,[]) BC)).bind fun x34=>
 j3 BC Ck x34
 else
 bif (AR B6.2.1 4) then
 bif (By BS.1 2) then
 ((EC (BS,Di.1,[]) (Be .i64 B6.2.2.1 B6.2.2.2))).bind fun x35=>
 j3 BC Ck x35
 else
 ((ES (BS,Di.1,[]) BC)).bind fun x36=>
 j3 BC Ck x36
 else
 ((ES (BS,Di.1,[]) BC)).bind fun x37=>
 j3 BC Ck x37
def B5.t2:Nat→B5.A2
 | 0=>fun _ _ _ _ _=>none
 | n+1=>B5.S2 (B5.t3 n)
def B5.S (j0:B5.A0) (j2:B5.A2) (s:ByteArray) (t:Na):Option Mq:=
 bif (By (MT t) 0) then
 some ((0,[],[],[]),1)
 else
 ((OC s)).bind fun x2=>
 bif (By x2.2 0) then
 some ((0,[],[],[]),x2.2)
 else
 ((Kj s)).bind fun x3=>
 bif (AR t.1 7) then
 j0 [] x3.1 (AP x3.1) 0 (0,[],[],[])
 else
 j2 s x3.1 t (0,[],[],[]) x2.1
def B5 (s:ByteArray) (t:Na):Option Mq:=B5.S (B5.l0 (B5.t1 fu) fu) (B5.t2 fu) s t
abbrev EK.A0:=Int→Int→Ce→Int→Int→Option (Int×Int×Int)
abbrev EK.A1:=Int→Int→Option (Int×Int×Int)
def EK.S1:EK.A1:=fun x8 x9=>
 some ((AQ .i64 x8 (BH .i64 x9 32)),(BL .i64 x9 4294967295),0)
def EK.t1:Nat→EK.A1
 | 0=>fun _ _=>none
 | _+1=>EK.S1
def EK.S0 (BI:EK.A1) (self:EK.A0):EK.A0:=fun x3 x4 x5 x6 x7=>
 bif (AS x7 x6) then
 bif (AX x7 (AP x5)) then
 self (AQ .i64 x3 (BH .i64 (nth x5 x7 (0,0,eB)).2.1 32)) (AQ .i64 x4 (BL .i64 (nth x5 x7 (0,0,eB)).2.1 4294967295)) x5 x6 (AQ .i64 x7 1)
 else none
 else
 BI x3 x4
def EK.l0 (BI:EK.A1):Nat→EK.A0
 | 0=>fun _ _ _ _ _=>none
 | n+1=>EK.S0 BI (EK.l0 BI n)
def EK.S (j0:EK.A0) (s:ByteArray) (l:K7):Option (Int×Int×Int):=
 ((Qb s l)).bind fun x1=>
 bif (By x1.2 0) then
 some (0,0,x1.2)
 else
 ((OC s)).bind fun x2=>
 bif (By x2.1.1 1) then
 some (0,0,1)
 else
 j0 0 0 x1.1 (AP x1.1) 0
def EK (s:ByteArray) (l:K7):Option (Int×Int×Int):=EK.S (EK.l0 (EK.t1 fu) fu) s l
def MN (l:K7):Option (CS):=
 bif (AR l.1 2) then
 ((UQ l.2.2.1)).bind fun x1=>
 some x1.1
 else
 bif (AR l.1 3) then
 ((Rz l.2.2.2)).bind fun x2=>
 some x2.1
 else
 ((MY 16 l.2.1)).bind fun x3=>
 some x3
abbrev FZ.A0:=CS→CS→Int→Option Bool
def FZ.S0 (self:FZ.A0):FZ.A0:=fun x1 x2 x3=>
 bif (AS x3 (AP x1)) then
 bif (AX x3 (AP x1)) then
 bif (AX x3 (AP x2)) then
 bif (!((AR (nth x1 x3 (0,0)).1 (nth x2 x3 (0,0)).1) && (AR (nth x1 x3 (0,0)).2 (nth x2 x3 (0,0)).2))) then
 some false
 else
 self x1 x2 (AQ .i64 x3 1)
 else none
 else none
 else
 some true
def FZ.l0:Nat→FZ.A0
 | 0=>fun _ _ _=>none
 | n+1=>FZ.S0 (FZ.l0 n)
def FZ.S (j0:FZ.A0) (a b:CS):Option Bool:=
 bif (By (AP a) (AP b)) then
 some false
 else
 j0 a b 0
def FZ (a b:CS):Option Bool:=FZ.S (FZ.l0 fu) a b
def Rb:Option Bool:=
 ((L9 [(JY 7),(0,0,eB),(JY 9)] 1 4)).bind fun x3=>
 ((B5 x3.1 (6,(JY 8)))).bind fun x5=>
 ((Qb x3.1 x5.1)).bind fun x6=>
 ((EK x3.1 x5.1)).bind fun x7=>
 bif (AR x3.2 0) then
 bif (AR x5.2 0) then
 ((MN x5.1)).bind fun x8=>
 ((FZ x8 [(2,3)])).bind fun x9=>
 bif x9 then
 bif (AR x6.2 0) then
 ((Jb x6.1 [(JY 9)])).bind fun BB=>
 bif BB then
 bif (AR x7.1 0) then
 bif (AR x7.2.1 9) then
 some (AR x7.2.2 0)
 else
 some false
 else
 some false
 else
 some false
 else
 some false
 else
 some false
 else
 some false
 else
 some false
abbrev GX.A0:=EZ→Int→CS→Option (CS)
def GX.S0 (self:GX.A0):GX.A0:=fun x1 x2 x3=>
 bif (AS x2 (AP x1)) then
 bif (AX x2 (AP x1)) then
 bif (!(nth x1 x2 false)) then
 self x1 (AQ .i64 x2 1) x3
 else
 bif (AS 0 x2) then
 bif (AX (Be .i64 x2 1) (AP x1)) then
 bif (nth x1 (Be .i64 x2 1) false) then
 bif (AX (Be .i64 (AP x3) 1) (AP x3)) then
 bif (AX (Be .i64 (AP x3) 1) (AP x3)) then
 self x1 (AQ .i64 x2 1) (List.set x3 (Int.toNat (Be .i64 (AP x3) 1)) ((List.getD x3 (Int.toNat (Be .i64 (AP x3) 1)) (0,0)).1,(AQ .i64 (List.getD x3 (Int.toNat (Be .i64 (AP x3) 1)) (0,0)).2 1)))
 else none
 else none
 else
 bif (BM ((List.length x3)+1) 16) then
 self x1 (AQ .i64 x2 1) (x3++[(x2,(AQ .i64 x2 1))])
 else none
 else none
 else
 bif (BM ((List.length x3)+1) 16) then
 self x1 (AQ .i64 x2 1) (x3++[(x2,(AQ .i64 x2 1))])
 else none
 else none
 else
 some x3
def GX.l0:Nat→GX.A0
 | 0=>fun _ _ _=>none
 | n+1=>GX.S0 (GX.l0 n)
def GX.S (j0:GX.A0) (s:EZ):Option (CS):=
 j0 s 0 []
def GX (s:EZ):Option (CS):=GX.S (GX.l0 fu) s
abbrev FY.A0:=Ce→Int→Na→EZ→Option (CS)
def FY.S0 (self:FY.A0):FY.A0:=fun x1 x2 x3 x4=>
 bif (AS x2 (AP x1)) then
 bif (AX x2 (AP x1)) then
 bif (AX x2 (AP x4)) then
 self x1 (AQ .i64 x2 1) x3 (List.set x4 (Int.toNat x2) (MQ x3 (nth x1 x2 (0,0,eB))))
 else none
 else none
 else
 ((GX x4)).bind fun x6=>
 some x6
def FY.l0:Nat→FY.A0
 | 0=>fun _ _ _ _=>none
 | n+1=>FY.S0 (FY.l0 n)
def FY.S (j0:FY.A0) (l:Ce) (t:Na):Option (CS):=
 bif ((Bq 0 (AP l)) && (BM (Int.toNat (AP l)) 1)) then
 j0 l 0 t (List.replicate (Int.toNat (AP l)) false)
 else none
def FY (l:Ce) (t:Na):Option (CS):=FY.S (FY.l0 fu) l t
def XR (l:K7):Int:=
 (EM l.1 1)
abbrev Gi.A0:=CS→Int→Option Bool
def Gi.S0 (self:Gi.A0):Gi.A0:=fun x1 x2=>
 bif (AS x2 (AP x1)) then
 bif (AX x2 (AP x1)) then
 bif (AS (nth x1 x2 (0,0)).1 0) then
 some false
 else
 bif (AX x2 (AP x1)) then
 bif (AX x2 (AP x1)) then
 bif (Bq (nth x1 x2 (0,0)).2 (nth x1 x2 (0,0)).1) then
 some false
 else
 bif (AX x2 (AP x1)) then
 bif (AS 65536 (nth x1 x2 (0,0)).2) then
 some false
 else
 bif (AS 0 x2) then
 bif (AX x2 (AP x1)) then
 bif (AX (Be .i64 x2 1) (AP x1)) then
 bif (Bq (nth x1 x2 (0,0)).1 (nth x1 (Be .i64 x2 1) (0,0)).2) then
 some false
 else
 self x1 (AQ .i64 x2 1)
 else none
 else none
 else
 self x1 (AQ .i64 x2 1)
 else none
 else none
 else none
 else none
 else
 some true
def Gi.l0:Nat→Gi.A0
 | 0=>fun _ _=>none
 | n+1=>Gi.S0 (Gi.l0 n)
def Gi.S (j0:Gi.A0) (l:CS):Option Bool:=
 j0 l 0
def Gi (l:CS):Option Bool:=Gi.S (Gi.l0 fu) l
def Yu (l:CS):Option Int:=
 bif (AR (AP l) 0) then
 some 0
 else
 bif (AX (Be .i64 (AP l) 1) (AP l)) then
 some (nth l (Be .i64 (AP l) 1) (0,0)).2
 else none
abbrev DD.A0:=CS→Int→Int→EZ→Option (EZ)
abbrev DD.A1:=CS→Int→Int→Int→EZ→Option (EZ)
def DD.S1 (Cd:DD.A0) (self:DD.A1):DD.A1:=fun x5 x6 x7 x8 x9=>
 bif (AX x7 (AP x5)) then
 bif (AS x8 (nth x5 x7 (0,0)).2) then
 bif (AS x8 x6) then
 bif (AX x8 (AP x9)) then
 self x5 x6 x7 (AQ .i64 x8 1) (List.set x9 (Int.toNat x8) true)
 else none
 else
 Cd x5 x6 (AQ .i64 x7 1) x9
 else
 Cd x5 x6 (AQ .i64 x7 1) x9
 else none
def DD.l1 (Cd:DD.A0):Nat→DD.A1
 | 0=>fun _ _ _ _ _=>none
 | n+1=>DD.S1 Cd (DD.l1 Cd n)
def DD.S0 (j1:DD.A1):DD.A0:=fun x1 x2 x3 x4=>
 bif (AS x3 (AP x1)) then
 bif (AX x3 (AP x1)) then
 j1 x1 x2 x3 (nth x1 x3 (0,0)).1 x4
 else none
 else
 some x4
def DD.l0:Nat→DD.A0
 | 0=>fun _ _ _ _=>none
 | n+1=>DD.S0 (DD.l1 (DD.l0 n) n)
def DD.S (j0:DD.A0) (l:CS) (xn:Int):Option (EZ):=
 bif ((Bq 0 xn) && (BM (Int.toNat xn) 1)) then
 j0 l xn 0 (List.replicate (Int.toNat xn) false)
 else none
def DD (l:CS) (xn:Int):Option (EZ):=DD.S (DD.l0 fu) l xn
abbrev Dw.A0:=Int→EZ→AT→Int→Option D7
abbrev Dw.A1:=Int→EZ→AT→Int→Int→Int→Option D7
def Dw.S1 (Cd:Dw.A0) (self:Dw.A1):Dw.A1:=fun x8 x9 Bc BB BQ BC=>
 bif (AS BC 64) then
 bif (AX (AQ .i64 (Cj .i64 64 BB) BC) (AP x9)) then
 bif (nth x9 (AQ .i64 (Cj .i64 64 BB) BC) false) then
 bif (Bq 0 BC) then
 self x8 x9 Bc BB (EI .i64 BQ (Er .i64 1 BC)) (AQ .i64 BC 1)
 else none
 else
 self x8 x9 Bc BB BQ (AQ .i64 BC 1)
 else none
 else
 bif (BM ((List.length Bc)+1) 8) then
 Cd x8 x9 (Bc++[BQ]) (AQ .i64 BB 1)
 else none
def Dw.l1 (Cd:Dw.A0):Nat→Dw.A1
 | 0=>fun _ _ _ _ _ _=>none
 | n+1=>Dw.S1 Cd (Dw.l1 Cd n)
def Dw.S0 (j1:Dw.A1):Dw.A0:=fun x4 x5 x6 x7=>
 bif (AS x7 x4) then
 j1 x4 x5 x6 x7 0 0
 else
 some (x6,0)
def Dw.l0:Nat→Dw.A0
 | 0=>fun _ _ _ _=>none
 | n+1=>Dw.S0 (Dw.l1 (Dw.l0 n) n)
def Dw.S (j0:Dw.A0) (l:CS):Option D7:=
 ((Gi l)).bind fun x1=>
 bif (!x1) then
 some ([],1)
 else
 ((Yu l)).bind fun x2=>
 ((DD l (Cj .i64 64 (FE .i64 (AQ .i64 x2 63) 64)))).bind fun x3=>
 j0 (FE .i64 (AQ .i64 x2 63) 64) x3 [] 0
def Dw (l:CS):Option D7:=Dw.S (Dw.l0 fu) l
abbrev Du.A0:=CS→AT→Int→Option D7
abbrev Du.A1:=CS→AT→Int→Int→Option D7
def Du.S1 (Cd:Du.A0) (self:Du.A1):Du.A1:=fun x5 x6 x7 x8=>
 bif (AX x7 (AP x5)) then
 bif (AS x8 (nth x5 x7 (0,0)).2) then
 bif (BM ((List.length x6)+1) 8) then
 self x5 (x6++[x8]) x7 (AQ .i64 x8 1)
 else none
 else
 Cd x5 x6 (AQ .i64 x7 1)
 else none
def Du.l1 (Cd:Du.A0):Nat→Du.A1
 | 0=>fun _ _ _ _=>none
 | n+1=>Du.S1 Cd (Du.l1 Cd n)
def Du.S0 (j1:Du.A1):Du.A0:=fun x2 x3 x4=>
 bif (AS x4 (AP x2)) then
 bif (AX x4 (AP x2)) then
 j1 x2 x3 x4 (nth x2 x4 (0,0)).1
 else none
 else
 some (x3,0)
def Du.l0:Nat→Du.A0
 | 0=>fun _ _ _=>none
 | n+1=>Du.S0 (Du.l1 (Du.l0 n) n)
def Du.S (j0:Du.A0) (l:CS):Option D7:=
 ((Gi l)).bind fun x1=>
 bif (!x1) then
 some ([],1)
 else
 j0 l [] 0
def Du (l:CS):Option D7:=Du.S (Du.l0 fu) l
def OF (l:CS) (form:Int):Option Int:=
 bif (AR form 1) then
 some (Cj .i64 8 (AP l))
 else
 bif (AR form 2) then
 ((Dw l)).bind fun x1=>
 some (Cj .i64 8 (AP x1.1))
 else
 bif (AR form 3) then
 ((Du l)).bind fun x2=>
 some (Cj .i64 2 (AP x2.1))
 else
 some 0
abbrev Fi.A0:=CS→Int→Int→Option Int
def Fi.S0 (self:Fi.A0):Fi.A0:=fun x1 x2 x3=>
 bif (Bq x3 3) then
 ((OF x1 x3)).bind fun x4=>
 ((OF x1 x2)).bind fun x5=>
 bif (AS x4 x5) then
 self x1 x3 (AQ .i64 x3 1)
 else
 self x1 x2 (AQ .i64 x3 1)
 else
 some x2
def Fi.l0:Nat→Fi.A0
 | 0=>fun _ _ _=>none
 | n+1=>Fi.S0 (Fi.l0 n)
def Fi.S (j0:Fi.A0) (l:CS):Option Int:=
 j0 l 1 2
def Fi (l:CS):Option Int:=Fi.S (Fi.l0 fu) l
abbrev E3.A0:=Ce→Int→Int→Na→Option Bool
def E3.S0 (self:E3.A0):E3.A0:=fun x3 x4 x5 x6=>
 bif (Bq x5 2) then
 ((L9 x3 x5 x4)).bind fun x7=>
 bif (By x7.2 0) then
 self x3 x4 (AQ .i64 x5 1) x6
 else
 ((B5 x7.1 x6)).bind fun x8=>
 bif (!(Nz x6)) then
 bif (By x8.2 1) then
 some false
 else
 self x3 x4 (AQ .i64 x5 1) x6
 else
 ((FY x3 x6)).bind fun Bc=>
 bif (By x8.2 0) then
 some false
 else
 ((MN x8.1)).bind fun BB=>
 ((FZ BB Bc)).bind fun BQ=>
 bif (!BQ) then
 some false
 else
 ((Fi Bc)).bind fun BS=>
 bif (By (XR x8.1) BS) then
 some false
 else
 self x3 x4 (AQ .i64 x5 1) x6
 else
 (Rb).bind fun Ck=>
 some Ck
def E3.l0:Nat→E3.A0
 | 0=>fun _ _ _ _=>none
 | n+1=>E3.S0 (E3.l0 n)
def E3.S (j0:E3.A0) (l:Ce) (code:Int) (t:Na):Option Bool:=
 bif (AS 100 (Bh t.2.2.2)) then
 (Rb).bind fun x1=>
 some x1
 else
 bif (AS 64 (AP l)) then
 (Rb).bind fun x2=>
 some x2
 else
 j0 l code 1 t
def E3 (l:Ce) (code:Int) (t:Na):Option Bool:=E3.S (E3.l0 fu) l code t
end Go.AM.Pure
