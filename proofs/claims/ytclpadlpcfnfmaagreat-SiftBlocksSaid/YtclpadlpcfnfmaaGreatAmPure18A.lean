import Derived.Test.YtclpadlpcfnfmaaGreatAmPure13
/- PRINTED by gen/ of this repo: the functions of the seat as pure functions. -/
namespace Go.AM.Pure
open Go.AM
def P3 (xn:Int):Bool:=
 bif (AS xn 0) then
 true
 else
 (Bq 65536 xn)
def P3.o (xn:Int):Option Bool:=
 bif (AS xn 0) then
 some true
 else
 some (Bq 65536 xn)
abbrev GW.A0:=AT→Int→Int→Option Int
def GW.S0 (self:GW.A0):GW.A0:=fun x1 x2 x3=>
 bif (AS x3 x2) then
 bif (AX x3 (AP x1)) then
 bif (P3 (nth x1 x3 0)) then
 some x3
 else
 self x1 x2 (AQ .i64 x3 1)
 else none
 else
 some (-1)
def GW.l0:Nat→GW.A0
 | 0=>fun _ _ _=>none
 | n+1=>GW.S0 (GW.l0 n)
def GW.S (j0:GW.A0) (s:AT):Option Int:=
 j0 s (AP s) 0
def GW (s:AT):Option Int:=GW.S (GW.l0 fu) s
def PV (s:AT):Option Bool:=
 ((GW s)).bind fun x1=>
 some (Bq 0 x1)
def Ny (word JE:Int):Option Int:=
 bif (Bq 64 (EM JE 0)) then
 some (-1)
 else
 bif (Bq 0 (EM JE 0)) then
 bif (Bq 0 (EM JE 0)) then
 bif (AR (Er .u64 (BH .u64 (IntKind.wrap .u64 word) (EM JE 0)) (EM JE 0)) 0) then
 some (-1)
 else
 ((E4 (IntKind.wrap .i64 (BL .u64 (Er .u64 (BH .u64 (IntKind.wrap .u64 word) (EM JE 0)) (EM JE 0)) (Be .u64 0 (Er .u64 (BH .u64 (IntKind.wrap .u64 word) (EM JE 0)) (EM JE 0))))))).bind fun x1=>
 some (Be .i64 x1 1)
 else none
 else none
def Lx (l:AT):Option Bool:=
 bif (Bq (AP l) 1024) then
 bif (AR (AP l) 0) then
 some true
 else
 bif (AX (Be .i64 (AP l) 1) (AP l)) then
 some (By (nth l (Be .i64 (AP l) 1) 0) 0)
 else none
 else
 some false
abbrev Fx.A0:=Int→Int→Option Int
abbrev Fx.A1:=Int→Int→Option Int
def Fx.S1:Fx.A1:=fun x3 x4=>
 bif (AR x4 1) then
 bif (AR x4 1) then
 some (AQ .i64 x3 1)
 else
 some x3
 else
 bif (AR x4 2) then
 bif (AR x4 2) then
 some (AQ .i64 x3 1)
 else
 some x3
 else
 bif (AR x4 4) then
 bif (AR x4 4) then
 some (AQ .i64 x3 1)
 else
 some x3
 else
 bif (AR x4 8) then
 some (AQ .i64 x3 1)
 else
 some x3
def Fx.t1:Nat→Fx.A1
 | 0=>fun _ _=>none
 | _+1=>Fx.S1
def Fx.S0 (j1:Fx.A1):Fx.A0:=fun x1 x2=>
 bif (AR x2 3) then
 bif (AR x2 3) then
 some (AQ .i64 (AQ .i64 x1 1) 1)
 else
 j1 x1 x2
 else
 bif (AR x2 5) then
 bif (AR x2 5) then
 some (AQ .i64 (AQ .i64 x1 1) 1)
 else
 j1 x1 x2
 else
 bif (AR x2 6) then
 bif (AR x2 6) then
 some (AQ .i64 (AQ .i64 x1 1) 1)
 else
 j1 x1 x2
 else
 bif (AR x2 9) then
 bif (AR x2 9) then
 some (AQ .i64 (AQ .i64 x1 1) 1)
 else
 j1 x1 x2
 else
 bif (AR x2 10) then
 bif (AR x2 10) then
 some (AQ .i64 (AQ .i64 x1 1) 1)
 else
 j1 x1 x2
 else
 bif (AR x2 12) then
 some (AQ .i64 (AQ .i64 x1 1) 1)
 else
 j1 x1 x2
def Fx.t0:Nat→Fx.A0
 | 0=>fun _ _=>none
 | n+1=>Fx.S0 (Fx.t1 n)
def Fx.S (j0:Fx.A0) (w:Int):Option Int:=
 bif (AR (BL .u64 w 15) 15) then
 some 4
 else
 bif (AR (BL .u64 w 15) 7) then
 bif (AR (BL .u64 w 15) 7) then
 some 3
 else
 j0 0 (BL .u64 w 15)
 else
 bif (AR (BL .u64 w 15) 11) then
 bif (AR (BL .u64 w 15) 11) then
 some 3
 else
 j0 0 (BL .u64 w 15)
 else
 bif (AR (BL .u64 w 15) 13) then
 bif (AR (BL .u64 w 15) 13) then
 some 3
 else
 j0 0 (BL .u64 w 15)
 else
 bif (AR (BL .u64 w 15) 14) then
 some 3
 else
 j0 0 (BL .u64 w 15)
def Fx (w:Int):Option Int:=Fx.S (Fx.t0 fu) w
abbrev Gk.A0:=Int→Int→Int→Option Int
def Gk.S0 (self:Gk.A0):Gk.A0:=fun x1 x2 x3=>
 bif (AS x3 16) then
 bif (Bq 0 (Cj .i64 4 x3)) then
 ((Fx (BH .u64 (IntKind.wrap .u64 x1) (Cj .i64 4 x3)))).bind fun x4=>
 self x1 (AQ .i64 x2 x4) (AQ .i64 x3 1)
 else none
 else
 some x2
def Gk.l0:Nat→Gk.A0
 | 0=>fun _ _ _=>none
 | n+1=>Gk.S0 (Gk.l0 n)
def Gk.S (j0:Gk.A0) (word:Int):Option Int:=
 j0 word 0 0
def Gk (word:Int):Option Int:=Gk.S (Gk.l0 fu) word
def MR (El w:Int):Bool:=
 bif (Bq 0 El) then
 bif (AS El 64) then
 (Bq 1 w)
 else
 false
 else
 false
def MR.o (El w:Int):Option Bool:=
 bif (Bq 0 El) then
 bif (AS El 64) then
 some (Bq 1 w)
 else
 some false
 else
 some false
def Yo (word El w:Int):Option Int:=
 bif (!(MR El w)) then
 some 0
 else
 bif (Bq 0 El) then
 ((ON w)).bind fun x2=>
 some (BL .i64 (IntKind.wrap .i64 (BH .u64 (IntKind.wrap .u64 word) El)) x2)
 else none
abbrev F0.A0:=Int→Int→AT→Int→Int→Option Int
def F0.S0 (self:F0.A0):F0.A0:=fun x2 x3 x4 x5 x6=>
 bif (AS x6 x5) then
 bif (AX x6 (AP x4)) then
 bif (Bq (AQ .i64 (Cj .i64 64 x6) 64) x2) then
 ((Gk (nth x4 x6 0))).bind fun x7=>
 self x2 (AQ .i64 x3 x7) x4 x5 (AQ .i64 x6 1)
 else
 bif (AS (Cj .i64 64 x6) x2) then
 ((Yo (nth x4 x6 0) 0 (Be .i64 x2 (Cj .i64 64 x6)))).bind fun x8=>
 ((Gk x8)).bind fun x9=>
 self x2 (AQ .i64 x3 x9) x4 x5 (AQ .i64 x6 1)
 else
 self x2 x3 x4 x5 (AQ .i64 x6 1)
 else none
 else
 some x3
def F0.l0:Nat→F0.A0
 | 0=>fun _ _ _ _ _=>none
 | n+1=>F0.S0 (F0.l0 n)
def F0.S (j0:F0.A0) (l:AT) (El:Int):Option Int:=
 ((Lx l)).bind fun x1=>
 bif (!x1) then
 some 0
 else
 bif (Bq El 0) then
 some 0
 else
 j0 El 0 l (AP l) 0
def F0 (l:AT) (El:Int):Option Int:=F0.S (F0.l0 fu) l El
abbrev FB.A0:=Int→CS→Int→Int→Option Bool
def FB.S0 (self:FB.A0):FB.A0:=fun x1 x2 x3 x4=>
 bif (AS x4 x3) then
 bif (AX x4 (AP x2)) then
 bif (Bq (nth x2 x4 (0,0)).1 x1) then
 some false
 else
 bif (Bq (nth x2 x4 (0,0)).2 (nth x2 x4 (0,0)).1) then
 some false
 else
 bif (AS 65536 (nth x2 x4 (0,0)).2) then
 some false
 else
 self (nth x2 x4 (0,0)).2 x2 x3 (AQ .i64 x4 1)
 else none
 else
 some true
def FB.l0:Nat→FB.A0
 | 0=>fun _ _ _ _=>none
 | n+1=>FB.S0 (FB.l0 n)
def FB.S (j0:FB.A0) (l:CS):Option Bool:=
 j0 (-1) l (AP l) 0
def FB (l:CS):Option Bool:=FB.S (FB.l0 fu) l
abbrev Gj.A0:=Int→Int→CS→Int→Int→Option Int
def Gj.S0 (self:Gj.A0):Gj.A0:=fun x2 x3 x4 x5 x6=>
 bif (AS x6 x5) then
 bif (AX x6 (AP x4)) then
 self x2 (AQ .i64 x3 (EM 0 (Be .i64 (DP x2 (nth x4 x6 (0,0)).2) (nth x4 x6 (0,0)).1))) x4 x5 (AQ .i64 x6 1)
 else none
 else
 some x3
def Gj.l0:Nat→Gj.A0
 | 0=>fun _ _ _ _ _=>none
 | n+1=>Gj.S0 (Gj.l0 n)
def Gj.S (j0:Gj.A0) (l:CS) (El:Int):Option Int:=
 ((FB l)).bind fun x1=>
 bif x1 then
 j0 (EM El 0) 0 l (AP l) 0
 else
 some 0
def Gj (l:CS) (El:Int):Option Int:=Gj.S (Gj.l0 fu) l El
def KK (l:K7) (El:Int):Option Int:=
 bif (AR l.1 2) then
 ((F0 l.2.2.1 El)).bind fun x1=>
 some x1
 else
 bif (AR l.1 3) then
 ((Dc l.2.2.2 El)).bind fun x2=>
 some x2.1
 else
 ((Gj l.2.1 El)).bind fun x3=>
 some x3
abbrev Gh.A0:=Int→AT→Int→Int→Option Int
def Gh.S0 (self:Gh.A0):Gh.A0:=fun x2 x3 x4 x5=>
 bif (AS x5 x4) then
 bif (AX x5 (AP x3)) then
 ((Gk (nth x3 x5 0))).bind fun x6=>
 self (AQ .i64 x2 x6) x3 x4 (AQ .i64 x5 1)
 else none
 else
 some x2
def Gh.l0:Nat→Gh.A0
 | 0=>fun _ _ _ _=>none
 | n+1=>Gh.S0 (Gh.l0 n)
def Gh.S (j0:Gh.A0) (l:AT):Option Int:=
 ((Lx l)).bind fun x1=>
 bif x1 then
 j0 0 l (AP l) 0
 else
 some 0
def Gh (l:AT):Option Int:=Gh.S (Gh.l0 fu) l
abbrev Fw.A0:=Int→CS→Int→Int→Option Int
def Fw.S0 (self:Fw.A0):Fw.A0:=fun x2 x3 x4 x5=>
 bif (AS x5 x4) then
 bif (AX x5 (AP x3)) then
 self (AQ .i64 x2 (Be .i64 (nth x3 x5 (0,0)).2 (nth x3 x5 (0,0)).1)) x3 x4 (AQ .i64 x5 1)
 else none
 else
 some x2
def Fw.l0:Nat→Fw.A0
 | 0=>fun _ _ _ _=>none
 | n+1=>Fw.S0 (Fw.l0 n)
def Fw.S (j0:Fw.A0) (l:CS):Option Int:=
 ((FB l)).bind fun x1=>
 bif x1 then
 j0 0 l (AP l) 0
 else
 some 0
def Fw (l:CS):Option Int:=Fw.S (Fw.l0 fu) l
def KJ (l:K7):Option Int:=
 bif (AR l.1 2) then
 ((Gh l.2.2.1)).bind fun x1=>
 some x1
 else
 bif (AR l.1 3) then
 some (AP l.2.2.2)
 else
 ((Fw l.2.1)).bind fun x2=>
 some x2
end Go.AM.Pure
