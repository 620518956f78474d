import Derived.Test.YtclpadlpcfnfmaaGreatAmPure13
/- PRINTED by gen/ of this repo: the functions of the seat as pure functions. -/
namespace Go.AM.Pure
open Go.AM
def Q6 (xn:Int):Bool:=
 bif A8 xn 0 then
 true
 else
 (BC 65536 xn)
def Q6.o (xn:Int):Option Bool:=
 bif A8 xn 0 then
 some true
 else
 some (BC 65536 xn)
abbrev Io.A0:=Bc->Int->Int->Option Int
def Io.S0 (self:Io.A0):Io.A0:=λ x1 x2 x3=>
 bif A8 x3 x2 then
 bif Bf x3 (AZ x1) then
 bif Q6 (nth x1 x3 0) then
 some x3
 else
 self x1 x2 (A7 .i64 x3 1)
 else none
 else
 some (-1)
def Io.l0:Nat->Io.A0
 | 0=>λ _ _ _=>none
 | n+1=>Io.S0 (Io.l0 n)
def Io.S (j0:Io.A0) (s:Bc):Option Int:=
 j0 s (AZ s) 0
def Io (s:Bc):Option Int:=Io.S (Io.l0 fu) s
def QX (s:Bc):Option Bool:=
 (Io s).bind λ x1=>
 some (BC 0 x1)
def OO (word Kz:Int):Option Int:=
 bif BC 64 (FT Kz 0) then
 some (-1)
 else
 bif BC 0 (FT Kz 0) then
 bif BC 0 (FT Kz 0) then
 bif A9 (EN .u64 (B7 .u64 (IntKind.wrap .u64 word) (FT Kz 0)) (FT Kz 0)) 0 then
 some (-1)
 else
 (FO (IntKind.wrap .i64 (Cb .u64 (EN .u64 (B7 .u64 (IntKind.wrap .u64 word) (FT Kz 0)) (FT Kz 0)) (Bt .u64 0 (EN .u64 (B7 .u64 (IntKind.wrap .u64 word) (FT Kz 0)) (FT Kz 0)))))).bind λ x1=>
 some (Bt .i64 x1 1)
 else none
 else none
def My (l:Bc):Option Bool:=
 bif BC (AZ l) 1024 then
 bif A9 (AZ l) 0 then
 some true
 else
 bif Bf (Bt .i64 (AZ l) 1) (AZ l) then
 some (BK (nth l (Bt .i64 (AZ l) 1) 0) 0)
 else none
 else
 some false
abbrev Gk.A0:=Int->Int->Option Int
abbrev Gk.A1:=Int->Int->Option Int
def Gk.S1:Gk.A1:=λ x3 x4=>
 bif A9 x4 1 then
 bif A9 x4 1 then
 some (A7 .i64 x3 1)
 else
 some x3
 else
 bif A9 x4 2 then
 bif A9 x4 2 then
 some (A7 .i64 x3 1)
 else
 some x3
 else
 bif A9 x4 4 then
 bif A9 x4 4 then
 some (A7 .i64 x3 1)
 else
 some x3
 else
 bif A9 x4 8 then
 some (A7 .i64 x3 1)
 else
 some x3
def Gk.t1:Nat->Gk.A1
 | 0=>λ _ _=>none
 | _+1=>Gk.S1
def Gk.S0 (j1:Gk.A1):Gk.A0:=λ x1 x2=>
 bif A9 x2 3 then
 bif A9 x2 3 then
 some (A7 .i64 (A7 .i64 x1 1) 1)
 else
 j1 x1 x2
 else
 bif A9 x2 5 then
 bif A9 x2 5 then
 some (A7 .i64 (A7 .i64 x1 1) 1)
 else
 j1 x1 x2
 else
 bif A9 x2 6 then
 bif A9 x2 6 then
 some (A7 .i64 (A7 .i64 x1 1) 1)
 else
 j1 x1 x2
 else
 bif A9 x2 9 then
 bif A9 x2 9 then
 some (A7 .i64 (A7 .i64 x1 1) 1)
 else
 j1 x1 x2
 else
 bif A9 x2 10 then
 bif A9 x2 10 then
 some (A7 .i64 (A7 .i64 x1 1) 1)
 else
 j1 x1 x2
 else
 bif A9 x2 12 then
 some (A7 .i64 (A7 .i64 x1 1) 1)
 else
 j1 x1 x2
def Gk.t0:Nat->Gk.A0
 | 0=>λ _ _=>none
 | n+1=>Gk.S0 (Gk.t1 n)
def Gk.S (j0:Gk.A0) (w:Int):Option Int:=
 bif A9 (Cb .u64 w 15) 15 then
 some 4
 else
 bif A9 (Cb .u64 w 15) 7 then
 bif A9 (Cb .u64 w 15) 7 then
 some 3
 else
 j0 0 (Cb .u64 w 15)
 else
 bif A9 (Cb .u64 w 15) 11 then
 bif A9 (Cb .u64 w 15) 11 then
 some 3
 else
 j0 0 (Cb .u64 w 15)
 else
 bif A9 (Cb .u64 w 15) 13 then
 bif A9 (Cb .u64 w 15) 13 then
 some 3
 else
 j0 0 (Cb .u64 w 15)
 else
 bif A9 (Cb .u64 w 15) 14 then
 some 3
 else
 j0 0 (Cb .u64 w 15)
def Gk (w:Int):Option Int:=Gk.S (Gk.t0 fu) w
abbrev Hi.A0:=Int->Int->Int->Option Int
def Hi.S0 (self:Hi.A0):Hi.A0:=λ x1 x2 x3=>
 bif A8 x3 16 then
 bif BC 0 (CI .i64 4 x3) then
 (Gk (B7 .u64 (IntKind.wrap .u64 x1) (CI .i64 4 x3))).bind λ x4=>
 self x1 (A7 .i64 x2 x4) (A7 .i64 x3 1)
 else none
 else
 some x2
def Hi.l0:Nat->Hi.A0
 | 0=>λ _ _ _=>none
 | n+1=>Hi.S0 (Hi.l0 n)
def Hi.S (j0:Hi.A0) (word:Int):Option Int:=
 j0 word 0 0
def Hi (word:Int):Option Int:=Hi.S (Hi.l0 fu) word
def NY (Ew w:Int):Bool:=
 bif BC 0 Ew then
 bif A8 Ew 64 then
 (BC 1 w)
 else
 false
 else
 false
def NY.o (Ew w:Int):Option Bool:=
 bif BC 0 Ew then
 bif A8 Ew 64 then
 some (BC 1 w)
 else
 some false
 else
 some false
def ZN (word Ew w:Int):Option Int:=
 bif !(NY Ew w) then
 some 0
 else
 bif BC 0 Ew then
 (PY w).bind λ x2=>
 some (Cb .i64 (IntKind.wrap .i64 (B7 .u64 (IntKind.wrap .u64 word) Ew)) x2)
 else none
abbrev GQ.A0:=Int->Int->Bc->Int->Int->Option Int
def GQ.S0 (self:GQ.A0):GQ.A0:=λ x2 x3 x4 x5 x6=>
 bif A8 x6 x5 then
 bif Bf x6 (AZ x4) then
 bif BC (A7 .i64 (CI .i64 64 x6) 64) x2 then
 (Hi (nth x4 x6 0)).bind λ x7=>
 self x2 (A7 .i64 x3 x7) x4 x5 (A7 .i64 x6 1)
 else
 bif A8 (CI .i64 64 x6) x2 then
 (ZN (nth x4 x6 0) 0 (Bt .i64 x2 (CI .i64 64 x6))).bind λ x8=>
 (Hi x8).bind λ x9=>
 self x2 (A7 .i64 x3 x9) x4 x5 (A7 .i64 x6 1)
 else
 self x2 x3 x4 x5 (A7 .i64 x6 1)
 else none
 else
 some x3
def GQ.l0:Nat->GQ.A0
 | 0=>λ _ _ _ _ _=>none
 | n+1=>GQ.S0 (GQ.l0 n)
def GQ.S (j0:GQ.A0) (l:Bc) (Ew:Int):Option Int:=
 (My l).bind λ x1=>
 bif !x1 then
 some 0
 else
 bif BC Ew 0 then
 some 0
 else
 j0 Ew 0 l (AZ l) 0
def GQ (l:Bc) (Ew:Int):Option Int:=GQ.S (GQ.l0 fu) l Ew
abbrev Gn.A0:=Int->Fj->Int->Int->Option Bool
def Gn.S0 (self:Gn.A0):Gn.A0:=λ x1 x2 x3 x4=>
 bif A8 x4 x3 then
 bif Bf x4 (AZ x2) then
 bif BC (nth x2 x4 (0,0)).1 x1 then
 some false
 else
 bif BC (nth x2 x4 (0,0)).2 (nth x2 x4 (0,0)).1 then
 some false
 else
 bif A8 65536 (nth x2 x4 (0,0)).2 then
 some false
 else
 self (nth x2 x4 (0,0)).2 x2 x3 (A7 .i64 x4 1)
 else none
 else
 some true
def Gn.l0:Nat->Gn.A0
 | 0=>λ _ _ _ _=>none
 | n+1=>Gn.S0 (Gn.l0 n)
def Gn.S (j0:Gn.A0) (l:Fj):Option Bool:=
 j0 (-1) l (AZ l) 0
def Gn (l:Fj):Option Bool:=Gn.S (Gn.l0 fu) l
abbrev Hh.A0:=Int->Int->Fj->Int->Int->Option Int
def Hh.S0 (self:Hh.A0):Hh.A0:=λ x2 x3 x4 x5 x6=>
 bif A8 x6 x5 then
 bif Bf x6 (AZ x4) then
 self x2 (A7 .i64 x3 (FT 0 (Bt .i64 (Eo x2 (nth x4 x6 (0,0)).2) (nth x4 x6 (0,0)).1))) x4 x5 (A7 .i64 x6 1)
 else none
 else
 some x3
def Hh.l0:Nat->Hh.A0
 | 0=>λ _ _ _ _ _=>none
 | n+1=>Hh.S0 (Hh.l0 n)
def Hh.S (j0:Hh.A0) (l:Fj) (Ew:Int):Option Int:=
 (Gn l).bind λ x1=>
 bif x1 then
 j0 (FT Ew 0) 0 l (AZ l) 0
 else
 some 0
def Hh (l:Fj) (Ew:Int):Option Int:=Hh.S (Hh.l0 fu) l Ew
def LP (l:La) (Ew:Int):Option Int:=
 bif A9 l.1 2 then
 (GQ l.2.2.1 Ew).bind λ x1=>
 some x1
 else
 bif A9 l.1 3 then
 (DR l.2.2.2 Ew).bind λ x2=>
 some x2.1
 else
 (Hh l.2.1 Ew).bind λ x3=>
 some x3
abbrev He.A0:=Int->Bc->Int->Int->Option Int
def He.S0 (self:He.A0):He.A0:=λ x2 x3 x4 x5=>
 bif A8 x5 x4 then
 bif Bf x5 (AZ x3) then
 (Hi (nth x3 x5 0)).bind λ x6=>
 self (A7 .i64 x2 x6) x3 x4 (A7 .i64 x5 1)
 else none
 else
 some x2
def He.l0:Nat->He.A0
 | 0=>λ _ _ _ _=>none
 | n+1=>He.S0 (He.l0 n)
def He.S (j0:He.A0) (l:Bc):Option Int:=
 (My l).bind λ x1=>
 bif x1 then
 j0 0 l (AZ l) 0
 else
 some 0
def He (l:Bc):Option Int:=He.S (He.l0 fu) l
abbrev Gj.A0:=Int->Fj->Int->Int->Option Int
def Gj.S0 (self:Gj.A0):Gj.A0:=λ x2 x3 x4 x5=>
 bif A8 x5 x4 then
 bif Bf x5 (AZ x3) then
 self (A7 .i64 x2 (Bt .i64 (nth x3 x5 (0,0)).2 (nth x3 x5 (0,0)).1)) x3 x4 (A7 .i64 x5 1)
 else none
 else
 some x2
def Gj.l0:Nat->Gj.A0
 | 0=>λ _ _ _ _=>none
 | n+1=>Gj.S0 (Gj.l0 n)
def Gj.S (j0:Gj.A0) (l:Fj):Option Int:=
 (Gn l).bind λ x1=>
 bif x1 then
 j0 0 l (AZ l) 0
 else
 some 0
def Gj (l:Fj):Option Int:=Gj.S (Gj.l0 fu) l
def LO (l:La):Option Int:=
 bif A9 l.1 2 then
 (He l.2.2.1).bind λ x1=>
 some x1
 else
 bif A9 l.1 3 then
 some (AZ l.2.2.2)
 else
 (Gj l.2.1).bind λ x2=>
 some x2
end Go.AM.Pure
