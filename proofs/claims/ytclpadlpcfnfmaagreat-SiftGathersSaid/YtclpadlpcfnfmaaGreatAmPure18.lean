import Derived.Test.YtclpadlpcfnfmaaGreatAmHand18
/- PRINTED by gen/ of this repo: the functions of the seat as pure functions. -/
namespace Go.AM.Pure
open Go.AM
def ER (xn:Int):Sa:=
 (1,xn,eB)
def RM (l:Es):Option (Ay):=
 bif (leI 0 (AT .i64 (Ai l) 1)) then
 bif (inB (AT .i64 (Ai l) 1) (Ai l)) then
 ((Cz l)).bind fun x1=>
 some [0,(Df .i64 8 (Ai l)),(Df .i64 8 (An .i64 (GL .i64 (AT .i64 (nth l (AT .i64 (Ai l) 1) (0,0)).2 1) 64) 1)),(Df .i64 2 x1)]
 else none
 else
 ((Cz l)).bind fun x2=>
 some [0,(Df .i64 8 (Ai l)),0,(Df .i64 2 x2)]
def Pd (word xat:Int) (w v:Int):Option Int:=
 bif (!(Fz xat w)) then
 some word
 else
 ((Hz w)).bind fun x2=>
 bif (leI 0 xat) then
 bif (leI 0 xat) then
 some (IntKind.wrap .i64 (orI .u64 (MK .u64 (IntKind.wrap .u64 word) (Fc .u64 (IntKind.wrap .u64 x2) xat)) (BF .u64 (Fc .u64 (IntKind.wrap .u64 v) xat) (Fc .u64 (IntKind.wrap .u64 x2) xat))))
 else none
 else none
abbrev Co.A0:=Int→Int→Ay→Option (Ay)
def Co.S0 (self:Co.A0):Co.A0:=fun x1 x2 x3=>
 bif (ltI x1 x2) then
 bif (inB (BG .i64 x1 6) (Ai x3)) then
 ((Pd (List.getD x3 (Int.toNat (BG .i64 x1 6)) 0) (BF .i64 x1 63) (Et (AT .i64 64 (BF .i64 x1 63)) (AT .i64 x2 x1)) (-1))).bind fun x4=>
 bif (inB (BG .i64 x1 6) (Ai x3)) then
 self (An .i64 x1 (Et (AT .i64 64 (BF .i64 x1 63)) (AT .i64 x2 x1))) x2 (List.set x3 (Int.toNat (BG .i64 x1 6)) x4)
 else none
 else none
 else
 bif (decide (0<(List.length x3))) then
 some x3
 else none
def Co.l0:Nat→Co.A0
 | 0=>fun _ _ _=>none
 | n+1=>Co.S0 (Co.l0 n)
def Co.S (j0:Co.A0) (l:Ay) (lo hi:Int):Option (Ay):=
 j0 lo hi l
def Co (l:Ay) (lo hi:Int):Option (Ay):=Co.S (Co.l0 fu) l lo hi
abbrev DM.A0:=Es→Int→Int→Ay→Option Fb
def DM.S0 (self:DM.A0):DM.A0:=fun x2 x3 x4 x5=>
 bif (ltI x4 x3) then
 bif (inB x4 (Ai x2)) then
 ((LD ((decide (0<(List.length x5))) && true) (Co x5 (nth x2 x4 (0,0)).1 (nth x2 x4 (0,0)).2) fun _x=>((decide ((List.length _x)=(List.length x5))) && true))).bind fun x6=>
 self x2 x3 (An .i64 x4 1) x6
 else none
 else
 some (x5,0)
def DM.l0:Nat→DM.A0
 | 0=>fun _ _ _ _=>none
 | n+1=>DM.S0 (DM.l0 n)
def DM.S (j0:DM.A0) (l:Es):Option Fb:=
 ((Du l)).bind fun x1=>
 bif (!x1) then
 some ([],1)
 else
 bif (eqI (Ai l) 0) then
 some ([],0)
 else
 bif (inB (AT .i64 (Ai l) 1) (Ai l)) then
 bif ((leI 0 (BG .i64 (AT .i64 (An .i64 (nth l (AT .i64 (Ai l) 1) (0,0)).2 64) 1) 6)) && (Bw (Int.toNat (BG .i64 (AT .i64 (An .i64 (nth l (AT .i64 (Ai l) 1) (0,0)).2 64) 1) 6)) 8)) then
 j0 l (Ai l) 0 (List.replicate (Int.toNat (BG .i64 (AT .i64 (An .i64 (nth l (AT .i64 (Ai l) 1) (0,0)).2 64) 1) 6)) (0:Int))
 else none
 else none
def DM (l:Es):Option Fb:=DM.S (DM.l0 fu) l
abbrev Bp.A0:=Ay→Es→Int→Int→Option Fb
abbrev Bp.A1:=Ay→Int→Es→Int→Int→Oz→Option Fb
def Bp.S1 (o0_1:Bp.A0) (self:Bp.A1):Bp.A1:=fun x7 x8 x9 x10 x11 x12=>
 bif (ltI x8 x12.2) then
 bif (Bw ((List.length x7)+1) 8) then
 self (x7++[x8]) (An .i64 x8 1) x9 x10 x11 x12
 else none
 else
 o0_1 x7 x9 x10 (An .i64 x11 1)
def Bp.l1 (o0_1:Bp.A0):Nat→Bp.A1
 | 0=>fun _ _ _ _ _ _=>none
 | n+1=>Bp.S1 o0_1 (Bp.l1 o0_1 n)
def Bp.S0 (j1:Bp.A1):Bp.A0:=fun x3 x4 x5 x6=>
 bif (ltI x6 x5) then
 bif (inB x6 (Ai x4)) then
 j1 x3 (nth x4 x6 (0,0)).1 x4 x5 x6 (nth x4 x6 (0,0))
 else none
 else
 some (x3,0)
def Bp.l0:Nat→Bp.A0
 | 0=>fun _ _ _ _=>none
 | n+1=>Bp.S0 (Bp.l1 (Bp.l0 n) n)
def Bp.S (j0:Bp.A0) (l:Es):Option Fb:=
 ((Du l)).bind fun x1=>
 bif (!x1) then
 some ([],1)
 else
 ((Cz l)).bind fun x2=>
 bif ((leI 0 x2) && (Bw (Int.toNat x2) 8)) then
 j0 [] l (Ai l) 0
 else none
def Bp (l:Es):Option Fb:=Bp.S (Bp.l0 fu) l
def Lu (l:Es) (form:Int):Option NB:=
 ((Du l)).bind fun x1=>
 bif (!x1) then
 some ((0,[],[],[]),1)
 else
 bif (eqI form 1) then
 ((OB 16 l)).bind fun x2=>
 some ((form,x2,[],[]),0)
 else
 bif (eqI form 2) then
 ((DM l)).bind fun x3=>
 some ((form,[],x3.1,[]),0)
 else
 bif (eqI form 3) then
 ((Bp l)).bind fun x4=>
 some ((form,[],[],x4.1),0)
 else
 some ((0,[],[],[]),1)
abbrev BY.A0:=Es→Int→Int→Kg→Ay→Option NB
abbrev BY.A1:=Es→Int→Kg→Option NB
def BY.S1:BY.A1:=fun x8 x9 x10=>
 ((Lu x8 x9)).bind fun x11=>
 some x11
def BY.t1:Nat→BY.A1
 | 0=>fun _ _ _=>none
 | _+1=>BY.S1
def BY.S0 (o1_0:BY.A1) (self:BY.A0):BY.A0:=fun x3 x4 x5 x6 x7=>
 bif (leI x5 3) then
 bif ((inB x5 4) && (decide (4=(List.length x7)))) then
 bif ((inB x4 4) && (decide (4=(List.length x7)))) then
 bif (ltI (List.getD x7 (Int.toNat x5) 0) (List.getD x7 (Int.toNat x4) 0)) then
 self x3 x5 (An .i64 x5 1) x6 x7
 else
 self x3 x4 (An .i64 x5 1) x6 x7
 else none
 else none
 else
 o1_0 x3 x4 x6
def BY.l0 (o1_0:BY.A1):Nat→BY.A0
 | 0=>fun _ _ _ _ _=>none
 | n+1=>BY.S0 o1_0 (BY.l0 o1_0 n)
def BY.S (j0:BY.A0) (l:Es):Option NB:=
 ((Du l)).bind fun x1=>
 bif (!x1) then
 some ((0,[],[],[]),1)
 else
 ((RM l)).bind fun x2=>
 j0 l 1 2 (0,[],[],[]) x2
def BY (l:Es):Option NB:=BY.S (BY.l0 (BY.t1 fu) fu) l
def Oy (places:Ay):Option NB:=
 ((RZ places)).bind fun x1=>
 bif (neI x1.2 0) then
 some ((0,[],[],[]),x1.2)
 else
 ((BY x1.1)).bind fun x2=>
 some x2
def aw (xn:Int):Sa:=
 (1,xn,eB)
abbrev EY.A0:=Int→Ay→Int→Int→Option Int
abbrev By.A0:=Int→Int→IL→Option JA
def By.S0 (self:By.A0):By.A0:=fun x1 x2 x3=>
 bif (ltI x2 x1) then
 bif (Bw ((List.length x3.2.2)+1) 8) then
 self x1 (An .i64 x2 1) (x3.1,x3.2.1,(x3.2.2++[x2]))
 else none
 else
 some x3
def By.l0:Nat→By.A0
 | 0=>fun _ _ _=>none
 | n+1=>By.S0 (By.l0 n)
def By.S (j0:By.A0) (f:IL) (xfrom xto:Int):Option JA:=
 j0 xto xfrom f
def By (f:IL) (xfrom xto:Int):Option JA:=By.S (By.l0 fu) f xfrom xto
abbrev BX.A0:=FH→Int→Int→IL→Option JA
def BX.S0 (self:BX.A0):BX.A0:=fun x2 x3 x4 x5=>
 bif (ltI x4 x3) then
 bif (inB x4 (Ai x2)) then
 ((LO x5.1 (aw (nth x2 x4 (0,0,0)).1))).bind fun x7=>
 bif x7 then
 ((By x5 (nth x2 x4 (0,0,0)).2.1 (An .i64 (nth x2 x4 (0,0,0)).2.1 (nth x2 x4 (0,0,0)).2.2))).bind fun x8=>
 self x2 x3 (An .i64 x4 1) x8
 else
 self x2 x3 (An .i64 x4 1) x5
 else none
 else
 some x5
def BX.l0:Nat→BX.A0
 | 0=>fun _ _ _ _=>none
 | n+1=>BX.S0 (BX.l0 n)
def BX.S (j0:BX.A0) (f:IL) (xn:Int):Option JA:=
 ((BI f.2.1 xn)).bind fun x1=>
 j0 x1.1 (Ai x1.1) 0 f
def BX (f:IL) (xn:Int):Option JA:=BX.S (BX.l0 fu) f xn
abbrev Bu.A0:=Ay→Ay→Cp→Int→Int→Option (Ay)
abbrev Bu.A1:=Ay→Ay→Option (Ay)
abbrev Bu.A2:=Ay→Ay→Ay→Int→Int→Option (Ay)
def Bu.S2 (self:Bu.A2):Bu.A2:=fun x8 x9 x10 x11 x12=>
 bif (ltI x12 x11) then
 bif (inB x12 (Ai x10)) then
 bif (inB (nth x10 x12 0) (Ai x8)) then
 bif (Bw ((List.length x9)+1) 8) then
 self x8 (x9++[(nth x8 (nth x10 x12 0) 0)]) x10 x11 (An .i64 x12 1)
 else none
 else none
 else none
 else
 some x9
def Bu.l2:Nat→Bu.A2
 | 0=>fun _ _ _ _ _=>none
 | n+1=>Bu.S2 (Bu.l2 n)
def Bu.S1 (j2:Bu.A2):Bu.A1:=fun x6 x7=>
 j2 x7 [] x6 (Ai x6) 0
def Bu.t1:Nat→Bu.A1
 | 0=>fun _ _=>none
 | n+1=>Bu.S1 (Bu.l2 n)
def Bu.S0 (o1_0:Bu.A1) (self:Bu.A0):Bu.A0:=fun x1 x2 x3 x4 x5=>
 bif (ltI x5 x4) then
 bif (inB x5 (Ai x3)) then
 bif (neI (nth x3 x5 (0,0,eB)).1 0) then
 bif (Bw ((List.length x2)+1) 8) then
 self x1 (x2++[x5]) x3 x4 (An .i64 x5 1)
 else none
 else
 self x1 x2 x3 x4 (An .i64 x5 1)
 else none
 else
 o1_0 x1 x2
def Bu.l0 (o1_0:Bu.A1):Nat→Bu.A0
 | 0=>fun _ _ _ _ _=>none
 | n+1=>Bu.S0 o1_0 (Bu.l0 o1_0 n)
def Bu.S (j0:Bu.A0) (l:Cp) (found:Ay):Option (Ay):=
 j0 found [] l (Ai l) 0
def Bu (l:Cp) (found:Ay):Option (Ay):=Bu.S (Bu.l0 (Bu.t1 fu) fu) l found
abbrev AB.A0:=Ay→CN→Int→Int→IB→IL→Option JA
abbrev AB.A1:=Ay→IB→IL→Option JA
abbrev AB.A2:=Ay→Int→Int→IB→IL→Option JA
def AB.S2 (self:AB.A2):AB.A2:=fun x12 x13 x14 x15 x16=>
 bif (ltI x14 x13) then
 bif (inB x14 (Ai x12)) then
 bif (inB (nth x12 x14 0) (Ai x15)) then
 bif (List.getD x15 (Int.toNat (nth x12 x14 0)) false) then
 ((By x16 x14 (An .i64 x14 1))).bind fun x17=>
 self x12 x13 (An .i64 x14 1) x15 x17
 else
 self x12 x13 (An .i64 x14 1) x15 x16
 else none
 else none
 else
 some x16
def AB.l2:Nat→AB.A2
 | 0=>fun _ _ _ _ _=>none
 | n+1=>AB.S2 (AB.l2 n)
def AB.S1 (j2:AB.A2):AB.A1:=fun x9 x10 x11=>
 j2 x9 (Ai x9) 0 x10 x11
def AB.t1:Nat→AB.A1
 | 0=>fun _ _ _=>none
 | n+1=>AB.S1 (AB.l2 n)
def AB.S0 (o1_0:AB.A1) (self:AB.A0):AB.A0:=fun x2 x3 x4 x5 x6 x7=>
 bif (ltI x5 x4) then
 bif (inB x5 (Ai x3)) then
 ((LO x7.1 (2,0,(nth x3 x5 eB)))).bind fun x8=>
 bif (inB x5 (Ai x6)) then
 self x2 x3 x4 (An .i64 x5 1) (List.set x6 (Int.toNat x5) x8) x7
 else none
 else none
 else
 o1_0 x2 x6 x7
def AB.l0 (o1_0:AB.A1):Nat→AB.A0
 | 0=>fun _ _ _ _ _ _=>none
 | n+1=>AB.S0 o1_0 (AB.l0 o1_0 n)
def AB.S (j0:AB.A0) (f:IL) (xn:Int):Option JA:=
 ((MJ f.2.1 xn)).bind fun x1=>
 bif ((leI 0 (Ai x1.1)) && (Bw (Int.toNat (Ai x1.1)) 1)) then
 j0 x1.2.1 x1.1 (Ai x1.1) 0 (List.replicate (Int.toNat (Ai x1.1)) false) f
 else none
def AB (f:IL) (xn:Int):Option JA:=AB.S (AB.l0 (AB.t1 fu) fu) f xn
abbrev BJ.A0:=Int→dH→Ay→Int→Int→Option Int
abbrev Fj.A0:=Int→Int→Option Oz
abbrev Br.A0:=Int→Int→Ay→Int→Int→IL→Option JA
def Br.S0 (self:Br.A0):Br.A0:=fun x4 x5 x6 x7 x8 x9=>
 bif (ltI x8 x7) then
 bif (inB x8 (Ai x6)) then
 bif (leI x4 (nth x6 x8 0)) then
 bif (ltI (nth x6 x8 0) x5) then
 ((By x9 x8 (An .i64 x8 1))).bind fun x10=>
 self x4 x5 x6 x7 (An .i64 x8 1) x10
 else
 self x4 x5 x6 x7 (An .i64 x8 1) x9
 else
 self x4 x5 x6 x7 (An .i64 x8 1) x9
 else none
 else
 some x9
def Br.l0:Nat→Br.A0
 | 0=>fun _ _ _ _ _ _=>none
 | n+1=>Br.S0 (Br.l0 n)
def Br.S (j0:Br.A0) (f:IL) (xn:Int):Option JA:=
 ((Hu f.2.1 xn)).bind fun x1=>
 ((Ce x1.1)).bind fun x2=>
 ((Fj f.1 x2.1)).bind fun x3=>
 j0 x3.1 x3.2 x2.2 (Ai x2.2) 0 f
def Br (f:IL) (xn:Int):Option JA:=Br.S (Br.l0 fu) f xn
abbrev Bk.A0:=Int→Cp→Int→Int→IL→Option JA
def Bk.S0 (self:Bk.A0):Bk.A0:=fun x1 x2 x3 x4 x5=>
 bif (ltI x4 x3) then
 bif (inB x4 (Ai x2)) then
 bif (eqI (nth x2 x4 (0,0,eB)).1 0) then
 self x1 x2 x3 (An .i64 x4 1) x5
 else
 ((LO x5.1 (nth x2 x4 (0,0,eB)))).bind fun x6=>
 bif x6 then
 ((By x5 x1 (An .i64 x1 1))).bind fun x7=>
 self (An .i64 x1 1) x2 x3 (An .i64 x4 1) x7
 else
 self (An .i64 x1 1) x2 x3 (An .i64 x4 1) x5
 else none
 else
 some x5
def Bk.l0:Nat→Bk.A0
 | 0=>fun _ _ _ _ _=>none
 | n+1=>Bk.S0 (Bk.l0 n)
def Bk.S (j0:Bk.A0) (f:IL) (l:Cp):Option JA:=
 j0 0 l (Ai l) 0 f
def Bk (f:IL) (l:Cp):Option JA:=Bk.S (Bk.l0 fu) f l
abbrev Bm.A0:=Ay→Cp→Int→Int→Kg→Option NB
abbrev Bm.A1:=Ay→Kg→Option NB
abbrev Bm.A2:=ByteArray→Cp→dH→Kg→Vl→Option NB
abbrev Bm.A3:=Cp→Kg→IL→Option NB
def Bm.S1:Bm.A1:=fun x9 x10=>
 ((Oy x9)).bind fun x11=>
 some x11
def Bm.t1:Nat→Bm.A1
 | 0=>fun _ _=>none
 | _+1=>Bm.S1
def Bm.S0 (o1_0:Bm.A1) (self:Bm.A0):Bm.A0:=fun x4 x5 x6 x7 x8=>
 bif (ltI x7 x6) then
 bif (inB x7 (Ai x5)) then
 bif (eqI (nth x5 x7 (0,0,eB)).1 0) then
 bif (Bw ((List.length x4)+1) 8) then
 self (x4++[x7]) x5 x6 (An .i64 x7 1) x8
 else none
 else
 self x4 x5 x6 (An .i64 x7 1) x8
 else none
 else
 o1_0 x4 x8
def Bm.l0 (o1_0:Bm.A1):Nat→Bm.A0
 | 0=>fun _ _ _ _ _=>none
 | n+1=>Bm.S0 o1_0 (Bm.l0 o1_0 n)
def Bm.S3:Bm.A3:=fun x19 x20 x21=>
 ((Bu x19 x21.2.2)).bind fun x22=>
 ((Oy x22)).bind fun x23=>
 some x23
def Bm.t3:Nat→Bm.A3
 | 0=>fun _ _ _=>none
 | _+1=>Bm.S3
def Bm.S2 (j3:Bm.A3):Bm.A2:=fun x12 x13 x14 x15 x16=>
 ((LB x12)).bind fun x17=>
 bif (eqI x16.2.1 2) then
 bif (eqI x16.1 1) then
 ((BX (x14,x17.1,[]) (AT .i64 x16.2.2.1 x16.2.2.2))).bind fun x18=>
 j3 x13 x15 x18
 else
 bif (eqI x16.2.1 4) then
 bif (eqI x16.1 2) then
 ((AB (x14,x17.1,[]) (AT .i64 x16.2.2.1 x16.2.2.2))).bind fun x24=>
 j3 x13 x15 x24
 else
 bif (eqI x16.2.1 4) then
 bif (neI x14.1 2) then
 ((Br (x14,x17.1,[]) (AT .i64 x16.2.2.1 x16.2.2.2))).bind fun x25=>
 j3 x13 x15 x25
 else
 ((Bk (x14,x17.1,[]) x13)).bind fun x26=>
 j3 x13 x15 x26
 else
 ((Bk (x14,x17.1,[]) x13)).bind fun x27=>
 j3 x13 x15 x27
 else
 bif (eqI x16.2.1 4) then
 bif (neI x14.1 2) then
 ((Br (x14,x17.1,[]) (AT .i64 x16.2.2.1 x16.2.2.2))).bind fun x28=>
 j3 x13 x15 x28
 else
 ((Bk (x14,x17.1,[]) x13)).bind fun x29=>
 j3 x13 x15 x29
 else
 ((Bk (x14,x17.1,[]) x13)).bind fun x30=>
 j3 x13 x15 x30
 else
 bif (eqI x16.2.1 4) then
 bif (eqI x16.1 2) then
 ((AB (x14,x17.1,[]) (AT .i64 x16.2.2.1 x16.2.2.2))).bind fun x31=>
 j3 x13 x15 x31
 else
 bif (eqI x16.2.1 4) then
 bif (neI x14.1 2) then
 ((Br (x14,x17.1,[]) (AT .i64 x16.2.2.1 x16.2.2.2))).bind fun x32=>
 j3 x13 x15 x32
 else
 ((Bk (x14,x17.1,[]) x13)).bind fun x33=>
 j3 x13 x15 x33
 else
 ((Bk (x14,x17.1,[]) x13)).bind fun x34=>
 j3 x13 x15 x34
 else
 bif (eqI x16.2.1 4) then
 bif (neI x14.1 2) then
 ((Br (x14,x17.1,[]) (AT .i64 x16.2.2.1 x16.2.2.2))).bind fun x35=>
 j3 x13 x15 x35
 else
 ((Bk (x14,x17.1,[]) x13)).bind fun x36=>
 j3 x13 x15 x36
 else
 ((Bk (x14,x17.1,[]) x13)).bind fun x37=>
 j3 x13 x15 x37
def Bm.t2:Nat→Bm.A2
 | 0=>fun _ _ _ _ _=>none
 | n+1=>Bm.S2 (Bm.t3 n)
def Bm.S (j0:Bm.A0) (j2:Bm.A2) (s:ByteArray) (t:dH):Option NB:=
 bif (neI (GM t) 0) then
 some ((0,[],[],[]),1)
 else
 ((GK s)).bind fun x2=>
 bif (neI x2.2 0) then
 some ((0,[],[],[]),x2.2)
 else
 ((EI s)).bind fun x3=>
 bif (eqI t.1 7) then
 j0 [] x3.1 (Ai x3.1) 0 (0,[],[],[])
 else
 j2 s x3.1 t (0,[],[],[]) x2.1
def Bm (s:ByteArray) (t:dH):Option NB:=Bm.S (Bm.l0 (Bm.t1 fu) fu) (Bm.t2 fu) s t
abbrev BP.A0:=Int→Int→Cp→Int→Int→Option (Int×Int×Int)
abbrev BP.A1:=Int→Int→Option (Int×Int×Int)
def BP.S1:BP.A1:=fun x8 x9=>
 some ((An .i64 x8 (BG .i64 x9 32)),(BF .i64 x9 4294967295),0)
def BP.t1:Nat→BP.A1
 | 0=>fun _ _=>none
 | _+1=>BP.S1
def BP.S0 (o1_0:BP.A1) (self:BP.A0):BP.A0:=fun x3 x4 x5 x6 x7=>
 bif (ltI x7 x6) then
 bif (inB x7 (Ai x5)) then
 self (An .i64 x3 (BG .i64 (nth x5 x7 (0,0,eB)).2.1 32)) (An .i64 x4 (BF .i64 (nth x5 x7 (0,0,eB)).2.1 4294967295)) x5 x6 (An .i64 x7 1)
 else none
 else
 o1_0 x3 x4
def BP.l0 (o1_0:BP.A1):Nat→BP.A0
 | 0=>fun _ _ _ _ _=>none
 | n+1=>BP.S0 o1_0 (BP.l0 o1_0 n)
def BP.S (j0:BP.A0) (s:ByteArray) (l:Kg):Option (Int×Int×Int):=
 ((Hd s l)).bind fun x1=>
 bif (neI x1.2 0) then
 some (0,0,x1.2)
 else
 ((GK s)).bind fun x2=>
 bif (neI x2.1.1 1) then
 some (0,0,1)
 else
 j0 0 0 x1.1 (Ai x1.1) 0
def BP (s:ByteArray) (l:Kg):Option (Int×Int×Int):=BP.S (BP.l0 (BP.t1 fu) fu) s l
def MX (l:Kg):Option (Es):=
 bif (eqI l.1 2) then
 ((NS l.2.2.1)).bind fun x1=>
 some x1.1
 else
 bif (eqI l.1 3) then
 ((RZ l.2.2.2)).bind fun x2=>
 some x2.1
 else
 ((OB 16 l.2.1)).bind fun x3=>
 some x3
abbrev Eh.A0:=Es→Es→Int→Option Bool
def Eh.S0 (self:Eh.A0):Eh.A0:=fun x1 x2 x3=>
 bif (ltI x3 (Ai x1)) then
 bif (inB x3 (Ai x1)) then
 bif (inB x3 (Ai x2)) then
 bif (!((eqI (nth x1 x3 (0,0)).1 (nth x2 x3 (0,0)).1) && (eqI (nth x1 x3 (0,0)).2 (nth x2 x3 (0,0)).2))) then
 some false
 else
 self x1 x2 (An .i64 x3 1)
 else none
 else none
 else
 some true
def Eh.l0:Nat→Eh.A0
 | 0=>fun _ _ _=>none
 | n+1=>Eh.S0 (Eh.l0 n)
def Eh.S (j0:Eh.A0) (a b:Es):Option Bool:=
 bif (neI (Ai a) (Ai b)) then
 some false
 else
 j0 a b 0
def Eh (a b:Es):Option Bool:=Eh.S (Eh.l0 fu) a b
def GU:Option Bool:=
 ((Ga [(ER 7),(0,0,eB),(ER 9)] 1 4)).bind fun x3=>
 ((Bm x3.1 (6,(ER 8)))).bind fun x5=>
 ((Hd x3.1 x5.1)).bind fun x6=>
 ((BP x3.1 x5.1)).bind fun x7=>
 bif (eqI x3.2 0) then
 bif (eqI x5.2 0) then
 ((MX x5.1)).bind fun x8=>
 ((Eh x8 [(2,3)])).bind fun x9=>
 bif x9 then
 bif (eqI x6.2 0) then
 ((Cx x6.1 [(ER 9)])).bind fun x11=>
 bif x11 then
 bif (eqI x7.1 0) then
 bif (eqI x7.2.1 9) then
 some (eqI x7.2.2 0)
 else
 some false
 else
 some false
 else
 some false
 else
 some false
 else
 some false
 else
 some false
 else
 some false
abbrev Di.A0:=Es→Int→Option Bool
def Di.S0 (self:Di.A0):Di.A0:=fun x1 x2=>
 bif (ltI x2 (Ai x1)) then
 bif (inB x2 (Ai x1)) then
 bif (ltI (nth x1 x2 (0,0)).1 0) then
 some false
 else
 bif (inB x2 (Ai x1)) then
 bif (inB x2 (Ai x1)) then
 bif (leI (nth x1 x2 (0,0)).2 (nth x1 x2 (0,0)).1) then
 some false
 else
 bif (inB x2 (Ai x1)) then
 bif (ltI 65536 (nth x1 x2 (0,0)).2) then
 some false
 else
 bif (ltI 0 x2) then
 bif (inB x2 (Ai x1)) then
 bif (inB (AT .i64 x2 1) (Ai x1)) then
 bif (leI (nth x1 x2 (0,0)).1 (nth x1 (AT .i64 x2 1) (0,0)).2) then
 some false
 else
 self x1 (An .i64 x2 1)
 else none
 else none
 else
 self x1 (An .i64 x2 1)
 else none
 else none
 else none
 else none
 else
 some true
def Di.l0:Nat→Di.A0
 | 0=>fun _ _=>none
 | n+1=>Di.S0 (Di.l0 n)
def Di.S (j0:Di.A0) (l:Es):Option Bool:=
 j0 l 0
def Di (l:Es):Option Bool:=Di.S (Di.l0 fu) l
def MY (l:Es):Option Int:=
 bif (eqI (Ai l) 0) then
 some 0
 else
 bif (inB (AT .i64 (Ai l) 1) (Ai l)) then
 some (nth l (AT .i64 (Ai l) 1) (0,0)).2
 else none
abbrev Be.A0:=Es→Ay→Int→Option Fb
abbrev Be.A1:=Es→Ay→Int→Int→Option Fb
def Be.S1 (o0_1:Be.A0) (self:Be.A1):Be.A1:=fun x5 x6 x7 x8=>
 bif (inB x7 (Ai x5)) then
 bif (ltI x8 (nth x5 x7 (0,0)).2) then
 bif (Bw ((List.length x6)+1) 8) then
 self x5 (x6++[x8]) x7 (An .i64 x8 1)
 else none
 else
 o0_1 x5 x6 (An .i64 x7 1)
 else none
def Be.l1 (o0_1:Be.A0):Nat→Be.A1
 | 0=>fun _ _ _ _=>none
 | n+1=>Be.S1 o0_1 (Be.l1 o0_1 n)
def Be.S0 (j1:Be.A1):Be.A0:=fun x2 x3 x4=>
 bif (ltI x4 (Ai x2)) then
 bif (inB x4 (Ai x2)) then
 j1 x2 x3 x4 (nth x2 x4 (0,0)).1
 else none
 else
 some (x3,0)
def Be.l0:Nat→Be.A0
 | 0=>fun _ _ _=>none
 | n+1=>Be.S0 (Be.l1 (Be.l0 n) n)
def Be.S (j0:Be.A0) (l:Es):Option Fb:=
 ((Di l)).bind fun x1=>
 bif (!x1) then
 some ([],1)
 else
 j0 l [] 0
def Be (l:Es):Option Fb:=Be.S (Be.l0 fu) l
def Pe (l:Es):Option Bool:=
 bif (leI (Ai l) 60) then
 ((Di l)).bind fun x1=>
 bif (!x1) then
 some true
 else
 ((MY l)).bind fun x2=>
 some (leI x2 2048)
 else
 some false
abbrev Cm.A0:=Cp→Ay→Cp→Int→Option (Cp×Bool)
def Cm.S0 (self:Cm.A0):Cm.A0:=fun x3 x4 x5 x6=>
 bif (ltI x6 (Ai x4)) then
 bif (inB x6 (Ai x4)) then
 bif (inB (nth x4 x6 0) (Ai x3)) then
 bif (Bw ((List.length x5)+1) 32) then
 self x3 x4 (x5++[(nth x3 (nth x4 x6 0) (0,0,eB))]) (An .i64 x6 1)
 else none
 else none
 else none
 else
 some (x5,true)
def Cm.l0:Nat→Cm.A0
 | 0=>fun _ _ _ _=>none
 | n+1=>Cm.S0 (Cm.l0 n)
def Cm.S (j0:Cm.A0) (l:Cp) (xat:Es):Option (Cp×Bool):=
 ((MY xat)).bind fun x1=>
 bif (ltI (Ai l) x1) then
 some ([],false)
 else
 ((Be xat)).bind fun x2=>
 j0 l x2.1 [] 0
def Cm (l:Cp) (xat:Es):Option (Cp×Bool):=Cm.S (Cm.l0 fu) l xat
abbrev DH.A0:=Cp→Int→Int→Int→Option Oz
def DH.S0 (self:DH.A0):DH.A0:=fun x1 x2 x3 x4=>
 bif (ltI x4 (Ai x1)) then
 bif (inB x4 (Ai x1)) then
 bif (eqI (nth x1 x4 (0,0,eB)).1 1) then
 bif (inB x4 (Ai x1)) then
 bif (inB x4 (Ai x1)) then
 self x1 (An .i64 (An .i64 x2 (BG .i64 (nth x1 x4 (0,0,eB)).2.1 32)) (BG .i64 (An .i64 x3 (BF .i64 (nth x1 x4 (0,0,eB)).2.1 4294967295)) 32)) (BF .i64 (An .i64 x3 (BF .i64 (nth x1 x4 (0,0,eB)).2.1 4294967295)) 4294967295) (An .i64 x4 1)
 else none
 else none
 else
 self x1 x2 x3 (An .i64 x4 1)
 else none
 else
 some (x2,x3)
def DH.l0:Nat→DH.A0
 | 0=>fun _ _ _ _=>none
 | n+1=>DH.S0 (DH.l0 n)
def DH.S (j0:DH.A0) (l:Cp):Option Oz:=
 j0 l 0 0 0
def DH (l:Cp):Option Oz:=DH.S (DH.l0 fu) l
abbrev Bf.A0:=Cp→Es→Int→Int→Option Bool
def Bf.S0 (self:Bf.A0):Bf.A0:=fun x6 x7 x8 x9=>
 bif (leI x9 2) then
 ((Ga x6 x9 x8)).bind fun x10=>
 bif (neI x10.2 0) then
 self x6 x7 x8 (An .i64 x9 1)
 else
 ((Lu x7 (An .i64 1 (NC (BF .i64 x8 255) 3)))).bind fun x11=>
 ((Hd x10.1 x11.1)).bind fun x12=>
 ((BP x10.1 x11.1)).bind fun x13=>
 ((Cm x6 x7)).bind fun x14=>
 ((DH x14.1)).bind fun x15=>
 bif (neI x11.2 0) then
 some false
 else
 bif (!x14.2) then
 bif (neI x12.2 3) then
 some false
 else
 bif (neI x13.2.2 3) then
 some false
 else
 bif (ltI 0 (Ai x12.1)) then
 some false
 else
 self x6 x7 x8 (An .i64 x9 1)
 else
 bif (neI x12.2 0) then
 some false
 else
 ((Cx x12.1 x14.1)).bind fun x16=>
 bif (!x16) then
 some false
 else
 bif (eqI x9 1) then
 bif (neI x13.1 x15.1) then
 some false
 else
 bif (neI x13.2.1 x15.2) then
 some false
 else
 bif (neI x13.2.2 0) then
 some false
 else
 bif (eqI x9 2) then
 bif (neI x13.2.2 1) then
 some false
 else
 self x6 x7 x8 (An .i64 x9 1)
 else
 self x6 x7 x8 (An .i64 x9 1)
 else
 bif (eqI x9 2) then
 bif (neI x13.2.2 1) then
 some false
 else
 self x6 x7 x8 (An .i64 x9 1)
 else
 self x6 x7 x8 (An .i64 x9 1)
 else
 (GU).bind fun x17=>
 some x17
def Bf.l0:Nat→Bf.A0
 | 0=>fun _ _ _ _=>none
 | n+1=>Bf.S0 (Bf.l0 n)
def Bf.S (j0:Bf.A0) (l:Cp) (xat:Es) (code:Int):Option Bool:=
 bif (ltI 64 (Ai l)) then
 (GU).bind fun x1=>
 some x1
 else
 ((Pe xat)).bind fun x2=>
 bif (!x2) then
 (GU).bind fun x3=>
 some x3
 else
 ((Di xat)).bind fun x4=>
 bif (!x4) then
 (GU).bind fun x5=>
 some x5
 else
 j0 l xat code 1
def Bf (l:Cp) (xat:Es) (code:Int):Option Bool:=Bf.S (Bf.l0 fu) l xat code
end Go.AM.Pure
