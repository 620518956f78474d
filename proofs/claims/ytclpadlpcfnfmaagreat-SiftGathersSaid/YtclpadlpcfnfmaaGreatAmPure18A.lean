import Derived.Test.YtclpadlpcfnfmaaGreatAmPure13
/- PRINTED by gen/ of this repo: the functions of the seat as pure functions. -/
namespace Go.AM.Pure
open Go.AM
def Le (xn:Int):Bool:=
 bif (ltI xn 0) then
 true
 else
 (leI 65536 xn)
def Le.o (xn:Int):Option Bool:=
 bif (ltI xn 0) then
 some true
 else
 some (leI 65536 xn)
abbrev AR.A0:=Ay→Int→Int→Option Int
def AR.S0 (self:AR.A0):AR.A0:=fun x1 x2 x3=>
 bif (ltI x3 x2) then
 bif (inB x3 (Ai x1)) then
 bif (Le (nth x1 x3 0)) then
 some x3
 else
 self x1 x2 (An .i64 x3 1)
 else none
 else
 some (-1)
def AR.l0:Nat→AR.A0
 | 0=>fun _ _ _=>none
 | n+1=>AR.S0 (AR.l0 n)
def AR.S (j0:AR.A0) (s:Ay):Option Int:=
 j0 s (Ai s) 0
def AR (s:Ay):Option Int:=AR.S (AR.l0 fu) s
def CZ (s:Ay):Option Bool:=
 ((AR s)).bind fun x1=>
 some (leI 0 x1)
def GV (word xfrom:Int):Option Int:=
 bif (leI 64 (FP xfrom 0)) then
 some (-1)
 else
 bif (leI 0 (FP xfrom 0)) then
 bif (leI 0 (FP xfrom 0)) then
 bif (eqI (Fc .u64 (BG .u64 (IntKind.wrap .u64 word) (FP xfrom 0)) (FP xfrom 0)) 0) then
 some (-1)
 else
 ((Cq (IntKind.wrap .i64 (BF .u64 (Fc .u64 (BG .u64 (IntKind.wrap .u64 word) (FP xfrom 0)) (FP xfrom 0)) (AT .u64 0 (Fc .u64 (BG .u64 (IntKind.wrap .u64 word) (FP xfrom 0)) (FP xfrom 0))))))).bind fun x1=>
 some (AT .i64 x1 1)
 else none
 else none
def FK (l:Ay):Option Bool:=
 bif (leI (Ai l) 1024) then
 bif (eqI (Ai l) 0) then
 some true
 else
 bif (inB (AT .i64 (Ai l) 1) (Ai l)) then
 some (neI (nth l (AT .i64 (Ai l) 1) 0) 0)
 else none
 else
 some false
abbrev CU.A0:=Int→Int→Option Int
abbrev CU.A1:=Int→Int→Option Int
def CU.S1:CU.A1:=fun x3 x4=>
 bif (eqI x4 1) then
 bif (eqI x4 1) then
 some (An .i64 x3 1)
 else
 some x3
 else
 bif (eqI x4 2) then
 bif (eqI x4 2) then
 some (An .i64 x3 1)
 else
 some x3
 else
 bif (eqI x4 4) then
 bif (eqI x4 4) then
 some (An .i64 x3 1)
 else
 some x3
 else
 bif (eqI x4 8) then
 some (An .i64 x3 1)
 else
 some x3
def CU.t1:Nat→CU.A1
 | 0=>fun _ _=>none
 | _+1=>CU.S1
def CU.S0 (j1:CU.A1):CU.A0:=fun x1 x2=>
 bif (eqI x2 3) then
 bif (eqI x2 3) then
 some (An .i64 (An .i64 x1 1) 1)
 else
 j1 x1 x2
 else
 bif (eqI x2 5) then
 bif (eqI x2 5) then
 some (An .i64 (An .i64 x1 1) 1)
 else
 j1 x1 x2
 else
 bif (eqI x2 6) then
 bif (eqI x2 6) then
 some (An .i64 (An .i64 x1 1) 1)
 else
 j1 x1 x2
 else
 bif (eqI x2 9) then
 bif (eqI x2 9) then
 some (An .i64 (An .i64 x1 1) 1)
 else
 j1 x1 x2
 else
 bif (eqI x2 10) then
 bif (eqI x2 10) then
 some (An .i64 (An .i64 x1 1) 1)
 else
 j1 x1 x2
 else
 bif (eqI x2 12) then
 some (An .i64 (An .i64 x1 1) 1)
 else
 j1 x1 x2
def CU.t0:Nat→CU.A0
 | 0=>fun _ _=>none
 | n+1=>CU.S0 (CU.t1 n)
def CU.S (j0:CU.A0) (w:Int):Option Int:=
 bif (eqI (BF .u64 w 15) 15) then
 some 4
 else
 bif (eqI (BF .u64 w 15) 7) then
 bif (eqI (BF .u64 w 15) 7) then
 some 3
 else
 j0 0 (BF .u64 w 15)
 else
 bif (eqI (BF .u64 w 15) 11) then
 bif (eqI (BF .u64 w 15) 11) then
 some 3
 else
 j0 0 (BF .u64 w 15)
 else
 bif (eqI (BF .u64 w 15) 13) then
 bif (eqI (BF .u64 w 15) 13) then
 some 3
 else
 j0 0 (BF .u64 w 15)
 else
 bif (eqI (BF .u64 w 15) 14) then
 some 3
 else
 j0 0 (BF .u64 w 15)
def CU (w:Int):Option Int:=CU.S (CU.t0 fu) w
abbrev Dr.A0:=Int→Int→Int→Option Int
def Dr.S0 (self:Dr.A0):Dr.A0:=fun x1 x2 x3=>
 bif (ltI x3 16) then
 bif (leI 0 (Df .i64 4 x3)) then
 ((CU (BG .u64 (IntKind.wrap .u64 x1) (Df .i64 4 x3)))).bind fun x4=>
 self x1 (An .i64 x2 x4) (An .i64 x3 1)
 else none
 else
 some x2
def Dr.l0:Nat→Dr.A0
 | 0=>fun _ _ _=>none
 | n+1=>Dr.S0 (Dr.l0 n)
def Dr.S (j0:Dr.A0) (word:Int):Option Int:=
 j0 word 0 0
def Dr (word:Int):Option Int:=Dr.S (Dr.l0 fu) word
def Fz (xat w:Int):Bool:=
 bif (leI 0 xat) then
 bif (ltI xat 64) then
 (leI 1 w)
 else
 false
 else
 false
def Fz.o (xat w:Int):Option Bool:=
 bif (leI 0 xat) then
 bif (ltI xat 64) then
 some (leI 1 w)
 else
 some false
 else
 some false
def NT (word xat w:Int):Option Int:=
 bif (!(Fz xat w)) then
 some 0
 else
 bif (leI 0 xat) then
 ((Hz w)).bind fun x2=>
 some (BF .i64 (IntKind.wrap .i64 (BG .u64 (IntKind.wrap .u64 word) xat)) x2)
 else none
abbrev CM.A0:=Int→Int→Ay→Int→Int→Option Int
def CM.S0 (self:CM.A0):CM.A0:=fun x2 x3 x4 x5 x6=>
 bif (ltI x6 x5) then
 bif (inB x6 (Ai x4)) then
 bif (leI (An .i64 (Df .i64 64 x6) 64) x2) then
 ((Dr (nth x4 x6 0))).bind fun x7=>
 self x2 (An .i64 x3 x7) x4 x5 (An .i64 x6 1)
 else
 bif (ltI (Df .i64 64 x6) x2) then
 ((NT (nth x4 x6 0) 0 (AT .i64 x2 (Df .i64 64 x6)))).bind fun x8=>
 ((Dr x8)).bind fun x9=>
 self x2 (An .i64 x3 x9) x4 x5 (An .i64 x6 1)
 else
 self x2 x3 x4 x5 (An .i64 x6 1)
 else none
 else
 some x3
def CM.l0:Nat→CM.A0
 | 0=>fun _ _ _ _ _=>none
 | n+1=>CM.S0 (CM.l0 n)
def CM.S (j0:CM.A0) (l:Ay) (xat:Int):Option Int:=
 ((FK l)).bind fun x1=>
 bif (!x1) then
 some 0
 else
 bif (leI xat 0) then
 some 0
 else
 j0 xat 0 l (Ai l) 0
def CM (l:Ay) (xat:Int):Option Int:=CM.S (CM.l0 fu) l xat
abbrev Du.A0:=Int→Es→Int→Int→Option Bool
def Du.S0 (self:Du.A0):Du.A0:=fun x1 x2 x3 x4=>
 bif (ltI x4 x3) then
 bif (inB x4 (Ai x2)) then
 bif (leI (nth x2 x4 (0,0)).1 x1) then
 some false
 else
 bif (leI (nth x2 x4 (0,0)).2 (nth x2 x4 (0,0)).1) then
 some false
 else
 bif (ltI 65536 (nth x2 x4 (0,0)).2) then
 some false
 else
 self (nth x2 x4 (0,0)).2 x2 x3 (An .i64 x4 1)
 else none
 else
 some true
def Du.l0:Nat→Du.A0
 | 0=>fun _ _ _ _=>none
 | n+1=>Du.S0 (Du.l0 n)
def Du.S (j0:Du.A0) (l:Es):Option Bool:=
 j0 (-1) l (Ai l) 0
def Du (l:Es):Option Bool:=Du.S (Du.l0 fu) l
abbrev Ds.A0:=Int→Int→Es→Int→Int→Option Int
def Ds.S0 (self:Ds.A0):Ds.A0:=fun x2 x3 x4 x5 x6=>
 bif (ltI x6 x5) then
 bif (inB x6 (Ai x4)) then
 self x2 (An .i64 x3 (FP 0 (AT .i64 (Et x2 (nth x4 x6 (0,0)).2) (nth x4 x6 (0,0)).1))) x4 x5 (An .i64 x6 1)
 else none
 else
 some x3
def Ds.l0:Nat→Ds.A0
 | 0=>fun _ _ _ _ _=>none
 | n+1=>Ds.S0 (Ds.l0 n)
def Ds.S (j0:Ds.A0) (l:Es) (xat:Int):Option Int:=
 ((Du l)).bind fun x1=>
 bif x1 then
 j0 (FP xat 0) 0 l (Ai l) 0
 else
 some 0
def Ds (l:Es) (xat:Int):Option Int:=Ds.S (Ds.l0 fu) l xat
def Dh (l:Kg) (xat:Int):Option Int:=
 bif (eqI l.1 2) then
 ((CM l.2.2.1 xat)).bind fun x1=>
 some x1
 else
 bif (eqI l.1 3) then
 ((Ap l.2.2.2 xat)).bind fun x2=>
 some x2.1
 else
 ((Ds l.2.1 xat)).bind fun x3=>
 some x3
abbrev CC.A0:=Int→Ay→Int→Int→Option Int
def CC.S0 (self:CC.A0):CC.A0:=fun x2 x3 x4 x5=>
 bif (ltI x5 x4) then
 bif (inB x5 (Ai x3)) then
 ((Dr (nth x3 x5 0))).bind fun x6=>
 self (An .i64 x2 x6) x3 x4 (An .i64 x5 1)
 else none
 else
 some x2
def CC.l0:Nat→CC.A0
 | 0=>fun _ _ _ _=>none
 | n+1=>CC.S0 (CC.l0 n)
def CC.S (j0:CC.A0) (l:Ay):Option Int:=
 ((FK l)).bind fun x1=>
 bif x1 then
 j0 0 l (Ai l) 0
 else
 some 0
def CC (l:Ay):Option Int:=CC.S (CC.l0 fu) l
abbrev Cz.A0:=Int→Es→Int→Int→Option Int
def Cz.S0 (self:Cz.A0):Cz.A0:=fun x2 x3 x4 x5=>
 bif (ltI x5 x4) then
 bif (inB x5 (Ai x3)) then
 self (An .i64 x2 (AT .i64 (nth x3 x5 (0,0)).2 (nth x3 x5 (0,0)).1)) x3 x4 (An .i64 x5 1)
 else none
 else
 some x2
def Cz.l0:Nat→Cz.A0
 | 0=>fun _ _ _ _=>none
 | n+1=>Cz.S0 (Cz.l0 n)
def Cz.S (j0:Cz.A0) (l:Es):Option Int:=
 ((Du l)).bind fun x1=>
 bif x1 then
 j0 0 l (Ai l) 0
 else
 some 0
def Cz (l:Es):Option Int:=Cz.S (Cz.l0 fu) l
def CV (l:Kg):Option Int:=
 bif (eqI l.1 2) then
 ((CC l.2.2.1)).bind fun x1=>
 some x1
 else
 bif (eqI l.1 3) then
 some (Ai l.2.2.2)
 else
 ((Cz l.2.1)).bind fun x2=>
 some x2
end Go.AM.Pure
