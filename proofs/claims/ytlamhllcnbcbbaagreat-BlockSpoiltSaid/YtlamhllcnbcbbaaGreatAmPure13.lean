import Derived.Test.YtlamhllcnbcbbaaGreatAmPrimW
import Derived.Test.YtlamhllcnbcbbaaGreatAmPure06
/- PRINTED by gen/ of this repo: the functions of the seat as pure functions. -/
namespace Go.AM.Pure
open Go.AM
abbrev D13a : Type := List Int
abbrev D13b : Type := Int × Int
abbrev D13c : Type := List Bool
abbrev D13d : Type := D13a
abbrev D13e : Type := List ByteArray
abbrev D13f : Type := Int × ByteArray
abbrev D13g : Type := ByteArray × Int
abbrev D13h : Type := D13a × Int
abbrev D13i : Type := Int × D13b
abbrev D13j : Type := Bool × D13a
abbrev D13k : Type := ByteArray × Int × Int
abbrev D13l : Type := D13e × Int
abbrev D13m : Type := Int × D13f
abbrev D13n : Type := D13a × D13a
abbrev D13o : Type := List D13i
abbrev D13p : Type := Int × D13i
abbrev D13q : Type := D13o
abbrev D13r : Type := D13e × D13a
abbrev D13s : Type := D13a × D13a × Int
abbrev D13u : Type := List D13m
abbrev D13v : Type := D13o × Int
abbrev D13w : Type := D13e × D13a × Int
abbrev D13x : Type := D13u × Int
abbrev D13y : Type := Int × D13u
abbrev D13z : Type := ByteArray × D13u
def Zjn (xn : Int) : D13m :=
  (1, xn, eB)
def Zod (c : D13m) (t1 : Int) : Bool :=
  bif (neI (Zrf c) 0) then
   true
  else
   bif (neI c.1 0) then
    (neI c.1 t1)
   else
    false
def Zod.o (c : D13m) (t1 : Int) : Option Bool :=
  bif (neI (Zrf c) 0) then
   some true
  else
   bif (neI c.1 0) then
    some (neI c.1 t1)
   else
    some false
def Zl.S0 (self : D13u → Int → Int → Int → Option Int) (x1 : D13u) (x2 x3 x4 : Int) : Option Int :=
  bif (ltI x4 x3) then
   bif (inB x4 (lenL x1)) then
    bif (Zod (nth x1 x4 (0, 0, eB)) x2) then
     some x4
    else
     self x1 x2 x3 (addI .i64 x4 1)
   else none
  else
   some (-1)
def Zl.l0 : Nat → D13u → Int → Int → Int → Option Int
  | 0 => fun _ _ _ _ => none
  | n + 1 => Zl.S0 (Zl.l0 n)
def Zl.S (j0 : D13u → Int → Int → Int → Option Int) (s : D13u) (f0 : Int) : Option Int :=
  j0 s f0 (lenL s) 0
def Zl (s : D13u) (f0 : Int) : Option Int := Zl.S (Zl.l0 fu) s f0
def Zmb (s : D13u) (f0 : Int) : Option Bool :=
  ((Zl s f0)).bind fun x1 =>
  some (leI 0 x1)
def Zbl (l : D13u) (kind : Int) : Option Bool :=
  bif (ltI (lenL l) 1) then
   some false
  else
   bif (ltI 64 (lenL l)) then
    some false
   else
    bif (neI kind 1) then
     bif (neI kind 2) then
      some false
     else
      ((Zmb l kind)).bind fun x1 =>
      some (!x1)
    else
     ((Zmb l kind)).bind fun x2 =>
     some (!x2)
def Zcg (c : D13m) : Bool :=
  (eqI c.1 0)
def Zai (c : D13m) : Bool :=
  (Zcg c)
def Ze.S0 (self : Int → Int → D13u → Option D13y) (x1 x2 : Int) (x3 : D13u) : Option D13y :=
  bif (ltI x2 x1) then
   bif (inB x2 (lenL x3)) then
    bif (Zai (List.getD x3 (Int.toNat x2) (0, 0, eB))) then
     bif (decide (0 < (List.length x3))) then
      some (x2, x3)
     else none
    else
     self x1 (addI .i64 x2 1) x3
   else none
  else
   bif (decide (0 < (List.length x3))) then
    some ((-1), x3)
   else none
def Ze.l0 : Nat → Int → Int → D13u → Option D13y
  | 0 => fun _ _ _ => none
  | n + 1 => Ze.S0 (Ze.l0 n)
def Ze.S (j0 : Int → Int → D13u → Option D13y) (s : D13u) : Option D13y :=
  j0 (lenL s) 0 s
def Ze (s : D13u) : Option D13y := Ze.S (Ze.l0 fu) s
def Zc.S1 (x6 : Int) (x7 : D13u) : Option D13y :=
  bif (inC x6 (lenL x7) (lenL x7)) then
   bif (inC 0 x6 (lenL (splA x7 (Int.toNat x6) (List.replicate ((Int.toNat (lenL x7)) - (Int.toNat x6)) ((0 : Int), ((0 : Int), eB)))))) then
    bif (decide (0 < (List.length (splA x7 (Int.toNat x6) (List.replicate ((Int.toNat (lenL x7)) - (Int.toNat x6)) ((0 : Int), ((0 : Int), eB))))))) then
     some (((((Int.toNat x6) - 0) : Nat) : Int), (splA x7 (Int.toNat x6) (List.replicate ((Int.toNat (lenL x7)) - (Int.toNat x6)) ((0 : Int), ((0 : Int), eB)))))
    else none
   else none
  else none
def Zc.t1 : Nat → Int → D13u → Option D13y
  | 0 => fun _ _ => none
  | _ + 1 => Zc.S1
def Zc.S0 (o1_0 : Int → D13u → Option D13y) (self : Int → Int → D13u → Option D13y) (x2 x3 : Int) (x4 : D13u) : Option D13y :=
  bif (ltI x3 (lenL x4)) then
   bif (inB x3 (lenL x4)) then
    bif (!(Zai (List.getD x4 (Int.toNat x3) (0, 0, eB)))) then
     bif (inB x2 (lenL x4)) then
      self (addI .i64 x2 1) (addI .i64 x3 1) (List.set x4 (Int.toNat x2) (List.getD x4 (Int.toNat x3) (0, 0, eB)))
     else none
    else
     self x2 (addI .i64 x3 1) x4
   else none
  else
   o1_0 x2 x4
def Zc.l0 (o1_0 : Int → D13u → Option D13y) : Nat → Int → Int → D13u → Option D13y
  | 0 => fun _ _ _ => none
  | n + 1 => Zc.S0 o1_0 (Zc.l0 o1_0 n)
def Zc.S (j0 : Int → Int → D13u → Option D13y) (s : D13u) : Option D13y :=
  ((Zdn ((decide (0 < (List.length s))) && true) (Ze s) fun _x => ((decide ((List.length _x.2) = (List.length s))) && true))).bind fun x1 =>
  bif (eqI x1.1 (-1)) then
   bif (decide (0 < (List.length x1.2))) then
    some ((lenL x1.2), x1.2)
   else none
  else
   j0 x1.1 (addI .i64 x1.1 1) x1.2
def Zc (s : D13u) : Option D13y := Zc.S (Zc.l0 (Zc.t1 fu) fu) s
def Zwa.S0 (self : Int → D13a → Int → Int → Option Int) (x1 : Int) (x2 : D13a) (x3 x4 : Int) : Option Int :=
  bif (ltI x4 x3) then
   bif (inB x4 (lenL x2)) then
    self (orI .i64 x1 (nth x2 x4 0)) x2 x3 (addI .i64 x4 1)
   else none
  else
   ((Zob x1)).bind fun x5 =>
   some x5
def Zwa.l0 : Nat → Int → D13a → Int → Int → Option Int
  | 0 => fun _ _ _ _ => none
  | n + 1 => Zwa.S0 (Zwa.l0 n)
def Zwa.S (j0 : Int → D13a → Int → Int → Option Int) (l : D13a) : Option Int :=
  j0 0 l (lenL l) 0
def Zwa (l : D13a) : Option Int := Zwa.S (Zwa.l0 fu) l
def Zsf (xn width : Int) : Int :=
  bif (ltI xn 1) then
   0
  else
   bif (ltI 65536 xn) then
    0
   else
    bif (ltI width 1) then
     0
    else
     bif (ltI 64 width) then
      0
     else
      (shrI .i64 (addI .i64 (mulI .i64 xn width) 7) 3)
def Zsf.o (xn width : Int) : Option Int :=
  bif (ltI xn 1) then
   some 0
  else
   bif (ltI 65536 xn) then
    some 0
   else
    bif (ltI width 1) then
     some 0
    else
     bif (ltI 64 width) then
      some 0
     else
      some (shrI .i64 (addI .i64 (mulI .i64 xn width) 7) 3)
def Zkn (w : Int) : Option Int :=
  bif (leI w 0) then
   some 0
  else
   bif (leI 64 w) then
    some (-1)
   else
    bif (leI 0 w) then
     some (IntKind.wrap .i64 (subI .u64 (shlI .u64 1 w) 1))
    else none
def Zfa.S2 (x20 : D13a) (x21 x22 : Int) : Option D13g :=
  bif (ltI 0 x22) then
   bif (roomB ((List.length x20) + 1) 1) then
    some ((ofBytes (x20 ++ [(IntKind.wrap .u8 x21)])), 0)
   else none
  else
   some ((ofBytes x20), 0)
def Zfa.t2 : Nat → D13a → Int → Int → Option D13g
  | 0 => fun _ _ _ => none
  | _ + 1 => Zfa.S2
def Zfa.S1 (o0_1 : Int → D13a → Int → Int → D13a → Int → Int → Option D13g) (self : Int → D13a → Int → Int → Int → Int → D13a → Int → Int → Option D13g) (x10 : Int) (x11 : D13a) (x12 x13 : Int) (x14 x15 : Int) (x16 : D13a) (x17 x18 : Int) : Option D13g :=
  bif (ltI 0 x15) then
   ((Zkn (minI (subI .i64 8 x13) x15))).bind fun x19 =>
   bif (leI 0 x13) then
    bif (leI 0 (minI (subI .i64 8 x13) x15)) then
     bif (eqI (addI .i64 x13 (minI (subI .i64 8 x13) x15)) 8) then
      bif (roomB ((List.length x11) + 1) 1) then
       self x10 (x11 ++ [(IntKind.wrap .u8 (orI .u64 x12 (shlI .u64 (andI .u64 x14 (IntKind.wrap .u64 x19)) x13)))]) 0 0 (shrI .u64 x14 (minI (subI .i64 8 x13) x15)) (subI .i64 x15 (minI (subI .i64 8 x13) x15)) x16 x17 x18
      else none
     else
      self x10 x11 (orI .u64 x12 (shlI .u64 (andI .u64 x14 (IntKind.wrap .u64 x19)) x13)) (addI .i64 x13 (minI (subI .i64 8 x13) x15)) (shrI .u64 x14 (minI (subI .i64 8 x13) x15)) (subI .i64 x15 (minI (subI .i64 8 x13) x15)) x16 x17 x18
    else none
   else none
  else
   o0_1 x10 x11 x12 x13 x16 x17 (addI .i64 x18 1)
def Zfa.l1 (o0_1 : Int → D13a → Int → Int → D13a → Int → Int → Option D13g) : Nat → Int → D13a → Int → Int → Int → Int → D13a → Int → Int → Option D13g
  | 0 => fun _ _ _ _ _ _ _ _ _ => none
  | n + 1 => Zfa.S1 o0_1 (Zfa.l1 o0_1 n)
def Zfa.S0 (o2_0 : D13a → Int → Int → Option D13g) (j1 : Int → D13a → Int → Int → Int → Int → D13a → Int → Int → Option D13g) (x3 : Int) (x4 : D13a) (x5 x6 : Int) (x7 : D13a) (x8 x9 : Int) : Option D13g :=
  bif (ltI x9 x8) then
   bif (inB x9 (lenL x7)) then
    j1 x3 x4 x5 x6 (IntKind.wrap .u64 (nth x7 x9 0)) x3 x7 x8 x9
   else none
  else
   o2_0 x4 x5 x6
def Zfa.l0 (o2_0 : D13a → Int → Int → Option D13g) : Nat → Int → D13a → Int → Int → D13a → Int → Int → Option D13g
  | 0 => fun _ _ _ _ _ _ _ => none
  | n + 1 => Zfa.S0 o2_0 (Zfa.l1 (Zfa.l0 o2_0 n) n)
def Zfa.S (j0 : Int → D13a → Int → Int → D13a → Int → Int → Option D13g) (l : D13a) (width : Int) : Option D13g :=
  bif (ltI width 0) then
   some (eB, 1)
  else
   bif (ltI 64 width) then
    some (eB, 1)
   else
    bif (ltI 65536 (lenL l)) then
     some (eB, 1)
    else
     ((Zwa l)).bind fun x1 =>
     bif (ltI width x1) then
      some (eB, 1)
     else
      let x2 := (Zsf (lenL l) width)
      bif ((leI 0 (addI .i64 x2 1)) && (roomB (Int.toNat (addI .i64 x2 1)) 1)) then
       j0 width [] 0 0 l (lenL l) 0
      else none
def Zfa (l : D13a) (width : Int) : Option D13g := Zfa.S (Zfa.l0 (Zfa.t2 fu) fu) l width
def Zma.S1 (x11 x12 : Nat) (x13 : D13u) (x14 : D13a) : Option D13z :=
  ((Zfa x14 1)).bind fun x15 =>
  some (x15.1, (List.take x12 (List.drop x11 x13)))
def Zma.t1 : Nat → Nat → Nat → D13u → D13a → Option D13z
  | 0 => fun _ _ _ _ => none
  | _ + 1 => Zma.S1
def Zma.S0 (o1_0 : Nat → Nat → D13u → D13a → Option D13z) (self : Nat → Nat → D13u → Int → Int → D13u → D13a → Option D13z) (x3 x4 : Nat) (x5 : D13u) (x6 x7 : Int) (x8 : D13u) (x9 : D13a) : Option D13z :=
  bif (ltI x7 x6) then
   bif (inB x7 (lenL x5)) then
    bif (Zcg (nth x5 x7 (0, 0, eB))) then
     bif (inB x7 (lenL x9)) then
      self x3 x4 x5 x6 (addI .i64 x7 1) x8 (List.set x9 (Int.toNat x7) 1)
     else none
    else
     self x3 x4 x5 x6 (addI .i64 x7 1) x8 x9
   else none
  else
   o1_0 x3 x4 x8 x9
def Zma.l0 (o1_0 : Nat → Nat → D13u → D13a → Option D13z) : Nat → Nat → Nat → D13u → Int → Int → D13u → D13a → Option D13z
  | 0 => fun _ _ _ _ _ _ _ => none
  | n + 1 => Zma.S0 o1_0 (Zma.l0 o1_0 n)
def Zma.S (j0 : Nat → Nat → D13u → Int → Int → D13u → D13a → Option D13z) (l : D13u) : Option D13z :=
  ((Zng 32 l)).bind fun x1 =>
  ((Zdn ((decide (0 < (List.length x1))) && true) (Zc x1) fun _x => ((decide ((List.length _x.2) = (List.length x1))) && true))).bind fun x2 =>
  bif (eqI (((Int.toNat x2.1) : Nat) : Int) (lenL l)) then
   some (eB, (List.take (Int.toNat x2.1) (List.drop 0 x2.2)))
  else
   bif ((leI 0 (lenL l)) && (roomB (Int.toNat (lenL l)) 8)) then
    j0 0 (Int.toNat x2.1) l (lenL l) 0 x2.2 (List.replicate (Int.toNat (lenL l)) (0 : Int))
   else none
def Zma (l : D13u) : Option D13z := Zma.S (Zma.l0 (Zma.t1 fu) fu) l
def Zca.S1 (o0_1 : D13a → D13a → Int → Int → Option ByteArray) (self : D13a → Int → D13a → Int → Int → Int → Option ByteArray) (x5 : D13a) (x6 : Int) (x7 : D13a) (x8 x9 x10 : Int) : Option ByteArray :=
  bif (ltI x10 8) then
   bif (roomB ((List.length x5) + 1) 1) then
    self (x5 ++ [(IntKind.wrap .u8 x6)]) (shrI .u64 x6 8) x7 x8 x9 (addI .i64 x10 1)
   else none
  else
   o0_1 x5 x7 x8 (addI .i64 x9 1)
def Zca.l1 (o0_1 : D13a → D13a → Int → Int → Option ByteArray) : Nat → D13a → Int → D13a → Int → Int → Int → Option ByteArray
  | 0 => fun _ _ _ _ _ _ => none
  | n + 1 => Zca.S1 o0_1 (Zca.l1 o0_1 n)
def Zca.S0 (j1 : D13a → Int → D13a → Int → Int → Int → Option ByteArray) (x1 x2 : D13a) (x3 x4 : Int) : Option ByteArray :=
  bif (ltI x4 x3) then
   bif (inB x4 (lenL x2)) then
    j1 x1 (IntKind.wrap .u64 (nth x2 x4 0)) x2 x3 x4 0
   else none
  else
   some (ofBytes x1)
def Zca.l0 : Nat → D13a → D13a → Int → Int → Option ByteArray
  | 0 => fun _ _ _ _ => none
  | n + 1 => Zca.S0 (Zca.l1 (Zca.l0 n) n)
def Zca.S (j0 : D13a → D13a → Int → Int → Option ByteArray) (l : D13a) : Option ByteArray :=
  bif ((leI 0 (mulI .i64 8 (lenL l))) && (roomB (Int.toNat (mulI .i64 8 (lenL l))) 1)) then
   j0 [] l (lenL l) 0
  else none
def Zca (l : D13a) : Option ByteArray := Zca.S (Zca.l0 fu) l
def Zfd.S0 (self : D13a → D13a → Int → Int → D13o → Option D13q) (x1 x2 : D13a) (x3 x4 : Int) (x5 : D13o) : Option D13q :=
  bif (ltI x4 x3) then
   bif (inB x4 (lenL x2)) then
    bif (eqI x4 0) then
     bif (roomB ((List.length x5) + 1) 24) then
      bif (inB (subI .i64 (lenL (x5 ++ [((nth x2 x4 0), x4, 0)])) 1) (lenL (x5 ++ [((nth x2 x4 0), x4, 0)]))) then
       bif (inB (subI .i64 (lenL (x5 ++ [((nth x2 x4 0), x4, 0)])) 1) (lenL (x5 ++ [((nth x2 x4 0), x4, 0)]))) then
        self x1 x2 x3 (addI .i64 x4 1) (List.set (x5 ++ [((nth x2 x4 0), x4, 0)]) (Int.toNat (subI .i64 (lenL (x5 ++ [((nth x2 x4 0), x4, 0)])) 1)) ((List.getD (x5 ++ [((nth x2 x4 0), x4, 0)]) (Int.toNat (subI .i64 (lenL (x5 ++ [((nth x2 x4 0), x4, 0)])) 1)) (0, 0, 0)).1, (List.getD (x5 ++ [((nth x2 x4 0), x4, 0)]) (Int.toNat (subI .i64 (lenL (x5 ++ [((nth x2 x4 0), x4, 0)])) 1)) (0, 0, 0)).2.1, (addI .i64 (List.getD (x5 ++ [((nth x2 x4 0), x4, 0)]) (Int.toNat (subI .i64 (lenL (x5 ++ [((nth x2 x4 0), x4, 0)])) 1)) (0, 0, 0)).2.2 1)))
       else none
      else none
     else none
    else
     bif (inB (subI .i64 x4 1) (lenL x1)) then
      bif (neI (nth x2 x4 0) (nth x1 (subI .i64 x4 1) 0)) then
       bif (roomB ((List.length x5) + 1) 24) then
        bif (inB (subI .i64 (lenL (x5 ++ [((nth x2 x4 0), x4, 0)])) 1) (lenL (x5 ++ [((nth x2 x4 0), x4, 0)]))) then
         bif (inB (subI .i64 (lenL (x5 ++ [((nth x2 x4 0), x4, 0)])) 1) (lenL (x5 ++ [((nth x2 x4 0), x4, 0)]))) then
          self x1 x2 x3 (addI .i64 x4 1) (List.set (x5 ++ [((nth x2 x4 0), x4, 0)]) (Int.toNat (subI .i64 (lenL (x5 ++ [((nth x2 x4 0), x4, 0)])) 1)) ((List.getD (x5 ++ [((nth x2 x4 0), x4, 0)]) (Int.toNat (subI .i64 (lenL (x5 ++ [((nth x2 x4 0), x4, 0)])) 1)) (0, 0, 0)).1, (List.getD (x5 ++ [((nth x2 x4 0), x4, 0)]) (Int.toNat (subI .i64 (lenL (x5 ++ [((nth x2 x4 0), x4, 0)])) 1)) (0, 0, 0)).2.1, (addI .i64 (List.getD (x5 ++ [((nth x2 x4 0), x4, 0)]) (Int.toNat (subI .i64 (lenL (x5 ++ [((nth x2 x4 0), x4, 0)])) 1)) (0, 0, 0)).2.2 1)))
         else none
        else none
       else none
      else
       bif (inB (subI .i64 (lenL x5) 1) (lenL x5)) then
        bif (inB (subI .i64 (lenL x5) 1) (lenL x5)) then
         self x1 x2 x3 (addI .i64 x4 1) (List.set x5 (Int.toNat (subI .i64 (lenL x5) 1)) ((List.getD x5 (Int.toNat (subI .i64 (lenL x5) 1)) (0, 0, 0)).1, (List.getD x5 (Int.toNat (subI .i64 (lenL x5) 1)) (0, 0, 0)).2.1, (addI .i64 (List.getD x5 (Int.toNat (subI .i64 (lenL x5) 1)) (0, 0, 0)).2.2 1)))
        else none
       else none
     else none
   else none
  else
   some x5
def Zfd.l0 : Nat → D13a → D13a → Int → Int → D13o → Option D13q
  | 0 => fun _ _ _ _ _ => none
  | n + 1 => Zfd.S0 (Zfd.l0 n)
def Zfd.S (j0 : D13a → D13a → Int → Int → D13o → Option D13q) (l : D13a) : Option D13q :=
  bif (ltI 65536 (lenL l)) then
   some []
  else
   j0 l l (lenL l) 0 []
def Zfd (l : D13a) : Option D13q := Zfd.S (Zfd.l0 fu) l
def Znc.S0 (self : D13o → Int → D13o → Int → Int → Option (Int × Bool)) (x1 : D13o) (x2 : Int) (x3 : D13o) (x4 x5 : Int) : Option (Int × Bool) :=
  bif (ltI x5 x4) then
   bif (inB x5 (lenL x3)) then
    bif (neI (nth x3 x5 (0, 0, 0)).2.1 x2) then
     some (0, false)
    else
     bif (ltI (nth x3 x5 (0, 0, 0)).2.2 1) then
      some (0, false)
     else
      bif (ltI (subI .i64 65536 x2) (nth x3 x5 (0, 0, 0)).2.2) then
       some (0, false)
      else
       bif (ltI 0 x5) then
        bif (inB (subI .i64 x5 1) (lenL x1)) then
         bif (eqI (nth x3 x5 (0, 0, 0)).1 (nth x1 (subI .i64 x5 1) (0, 0, 0)).1) then
          some (0, false)
         else
          self x1 (addI .i64 x2 (nth x3 x5 (0, 0, 0)).2.2) x3 x4 (addI .i64 x5 1)
        else none
       else
        self x1 (addI .i64 x2 (nth x3 x5 (0, 0, 0)).2.2) x3 x4 (addI .i64 x5 1)
   else none
  else
   some (x2, true)
def Znc.l0 : Nat → D13o → Int → D13o → Int → Int → Option (Int × Bool)
  | 0 => fun _ _ _ _ _ => none
  | n + 1 => Znc.S0 (Znc.l0 n)
def Znc.S (j0 : D13o → Int → D13o → Int → Int → Option (Int × Bool)) (l : D13o) : Option (Int × Bool) :=
  j0 l 0 l (lenL l) 0
def Znc (l : D13o) : Option (Int × Bool) := Znc.S (Znc.l0 fu) l
def Zic (b : D13j) (s : ByteArray) : Option (Int × Bool × D13j) :=
  bif (roomB ((List.length (Zsj b).2) + (ByteArray.size s)) 1) then
   some ((lenS s), true, (Zsj b).1, ((Zsj b).2 ++ (Zf s)))
  else none
def Zvc.S0 (self : D13o → Int → Int → D13j → Option D13g) (x2 : D13o) (x3 x4 : Int) (x5 : D13j) : Option D13g :=
  bif (ltI x4 x3) then
   bif (inB x4 (lenL x2)) then
    ((Zsa (nth x2 x4 (0, 0, 0)).1)).bind fun x6 =>
    ((Zic x5 x6)).bind fun x7 =>
    ((Zsa (nth x2 x4 (0, 0, 0)).2.2)).bind fun x8 =>
    ((Zic x7.2.2 x8)).bind fun x9 =>
    self x2 x3 (addI .i64 x4 1) x9.2.2
   else none
  else
   ((Zsi x5)).bind fun x10 =>
   some (x10.1, 0)
def Zvc.l0 : Nat → D13o → Int → Int → D13j → Option D13g
  | 0 => fun _ _ _ _ => none
  | n + 1 => Zvc.S0 (Zvc.l0 n)
def Zvc.S (j0 : D13o → Int → Int → D13j → Option D13g) (l : D13o) : Option D13g :=
  ((Znc l)).bind fun x1 =>
  bif (!x1.2) then
   some (eB, 1)
  else
   j0 l (lenL l) 0 (true, [])
def Zvc (l : D13o) : Option D13g := Zvc.S (Zvc.l0 fu) l
def Zln (xfrom xto : Int) : Int :=
  (IntKind.wrap .i64 (subI .u64 (IntKind.wrap .u64 xto) (IntKind.wrap .u64 xfrom)))
def Zw.S1 (self : D13a → Int → Int → Option Int) (x2 : D13a) (x3 x4 : Int) : Option Int :=
  bif (ltI x4 (lenL x2)) then
   bif (inB x4 (lenL x2)) then
    self x2 (minI x3 (nth x2 x4 0)) (addI .i64 x4 1)
   else none
  else
   some x3
def Zw.l1 : Nat → D13a → Int → Int → Option Int
  | 0 => fun _ _ _ => none
  | n + 1 => Zw.S1 (Zw.l1 n)
def Zw.S0 (j1 : D13a → Int → Int → Option Int) (x1 : D13a) : Option Int :=
  bif (inB 0 (lenL x1)) then
   j1 x1 (nth x1 0 0) 1
  else none
def Zw.t0 : Nat → D13a → Option Int
  | 0 => fun _ => none
  | n + 1 => Zw.S0 (Zw.l1 n)
def Zw.S (j0 : D13a → Option Int) (x : D13a) : Option Int :=
  bif (ltI (lenL x) 1) then
   none
  else
   j0 x
def Zw (x : D13a) : Option Int := Zw.S (Zw.t0 fu) x
def Zy.S2 (self : Int → Int → Int → D13a → Option D13h) (x7 x8 x9 : Int) (x10 : D13a) : Option D13h :=
  bif (ltI x9 x8) then
   bif (inB x9 (lenL x10)) then
    bif (inB x9 (lenL x10)) then
     self x7 x8 (addI .i64 x9 1) (List.set x10 (Int.toNat x9) (Zln x7 (List.getD x10 (Int.toNat x9) 0)))
    else none
   else none
  else
   some (x10, x7)
def Zy.l2 : Nat → Int → Int → Int → D13a → Option D13h
  | 0 => fun _ _ _ _ => none
  | n + 1 => Zy.S2 (Zy.l2 n)
def Zy.S1 (j2 : Int → Int → Int → D13a → Option D13h) (x5 : D13a) : Option D13h :=
  ((Zw x5)).bind fun x6 =>
  j2 x6 (lenL x5) 0 x5
def Zy.t1 : Nat → D13a → Option D13h
  | 0 => fun _ => none
  | n + 1 => Zy.S1 (Zy.l2 n)
def Zy.S0 (o1_0 : D13a → Option D13h) (self : D13a → Int → D13a → Option D13h) (x1 : D13a) (x2 : Int) (x3 : D13a) : Option D13h :=
  bif (ltI x2 (lenL x1)) then
   bif (inB (subI .i64 x2 1) (lenL x1)) then
    bif (inB x2 (lenL x1)) then
     bif (roomB ((List.length x3) + 1) 8) then
      self x1 (addI .i64 x2 1) (x3 ++ [(Zln (nth x1 (subI .i64 x2 1) 0) (nth x1 x2 0))])
     else none
    else none
   else none
  else
   o1_0 x3
def Zy.l0 (o1_0 : D13a → Option D13h) : Nat → D13a → Int → D13a → Option D13h
  | 0 => fun _ _ _ => none
  | n + 1 => Zy.S0 o1_0 (Zy.l0 o1_0 n)
def Zy.S (j0 : D13a → Int → D13a → Option D13h) (l : D13a) : Option D13h :=
  bif ((leI 0 (lenL l)) && (roomB (Int.toNat (lenL l)) 8)) then
   j0 l 1 []
  else none
def Zy (l : D13a) : Option D13h := Zy.S (Zy.l0 (Zy.t1 fu) fu) l
def Zmn (l : D13a) : Option D13g :=
  bif (ltI 65536 (lenL l)) then
   some (eB, 1)
  else
   bif (eqI (lenL l) 0) then
    some (eB, 0)
   else
    bif (eqI (lenL l) 1) then
     bif (inB 0 (lenL l)) then
      ((Zsa (nth l 0 0))).bind fun x1 =>
      some (x1, 0)
     else none
    else
     ((Zy l)).bind fun x2 =>
     ((Zwa x2.1)).bind fun x3 =>
     ((Zfa x2.1 x3)).bind fun x4 =>
     bif (inB 0 (lenL l)) then
      ((Zsa (nth l 0 0))).bind fun x5 =>
      ((Zsa x2.2)).bind fun x6 =>
      bif (roomS x5 x6) then
       bif (roomS (addS x5 x6) (ofBytes [(IntKind.wrap .u8 x3)])) then
        bif (roomS (addS (addS x5 x6) (ofBytes [(IntKind.wrap .u8 x3)])) x4.1) then
         some ((addS (addS (addS x5 x6) (ofBytes [(IntKind.wrap .u8 x3)])) x4.1), x4.2)
        else none
       else none
      else none
     else none
def cmp_Less_int (x y : Int) : Bool :=
  bif (cmp_isNaN_int x) then
   bif (!(cmp_isNaN_int y)) then
    true
   else
    (ltI x y)
  else
   (ltI x y)
def cmp_Less_int.o (x y : Int) : Option Bool :=
  bif (cmp_isNaN_int x) then
   bif (!(cmp_isNaN_int y)) then
    some true
   else
    some (ltI x y)
  else
   some (ltI x y)
def Ztk (x : Int) : Bool :=
  (neI x x)
def Zr.S1 (x7 : D13a) (x8 x9 x10 : Int) : Option (Int × Bool) :=
  bif (ltI x10 x9) then
   bif (inB x10 (lenL x7)) then
    bif (eqI (nth x7 x10 0) x8) then
     some (x10, true)
    else
     bif (inB x10 (lenL x7)) then
      bif (Ztk (nth x7 x10 0)) then
       some (x10, (Ztk x8))
      else
       some (x10, false)
     else none
   else none
  else
   some (x10, false)
def Zr.t1 : Nat → D13a → Int → Int → Int → Option (Int × Bool)
  | 0 => fun _ _ _ _ => none
  | _ + 1 => Zr.S1
def Zr.S0 (o1_0 : D13a → Int → Int → Int → Option (Int × Bool)) (self : D13a → Int → Int → Int → Int → Option (Int × Bool)) (x1 : D13a) (x2 x3 : Int) (x4 x5 : Int) : Option (Int × Bool) :=
  bif (ltI x4 x5) then
   bif (inB (IntKind.wrap .i64 (shrI .u64 (IntKind.wrap .u64 (addI .i64 x4 x5)) 1)) (lenL x1)) then
    bif (cmp_Less_int (nth x1 (IntKind.wrap .i64 (shrI .u64 (IntKind.wrap .u64 (addI .i64 x4 x5)) 1)) 0) x2) then
     self x1 x2 x3 (addI .i64 (IntKind.wrap .i64 (shrI .u64 (IntKind.wrap .u64 (addI .i64 x4 x5)) 1)) 1) x5
    else
     self x1 x2 x3 x4 (IntKind.wrap .i64 (shrI .u64 (IntKind.wrap .u64 (addI .i64 x4 x5)) 1))
   else none
  else
   o1_0 x1 x2 x3 x4
def Zr.l0 (o1_0 : D13a → Int → Int → Int → Option (Int × Bool)) : Nat → D13a → Int → Int → Int → Int → Option (Int × Bool)
  | 0 => fun _ _ _ _ _ => none
  | n + 1 => Zr.S0 o1_0 (Zr.l0 o1_0 n)
def Zr.S (j0 : D13a → Int → Int → Int → Int → Option (Int × Bool)) (x : D13a) (target : Int) : Option (Int × Bool) :=
  j0 x target (lenL x) 0 (lenL x)
def Zr (x : D13a) (target : Int) : Option (Int × Bool) := Zr.S (Zr.l0 (Zr.t1 fu) fu) x target
def Zac.S0 (self : Nat → Nat → D13a → D13a → Int → Int → D13a → Option D13n) (x4 x5 : Nat) (x6 x7 : D13a) (x8 x9 : Int) (x10 : D13a) : Option D13n :=
  bif (ltI x9 x8) then
   bif (inB x9 (lenL x7)) then
    ((Zr (List.take x5 (List.drop x4 x10)) (nth x7 x9 0))).bind fun x11 =>
    bif (roomB ((List.length x6) + 1) 8) then
     self x4 x5 (x6 ++ [x11.1]) x7 x8 (addI .i64 x9 1) x10
    else none
   else none
  else
   some ((List.take x5 (List.drop x4 x10)), x6)
def Zac.l0 : Nat → Nat → Nat → D13a → D13a → Int → Int → D13a → Option D13n
  | 0 => fun _ _ _ _ _ _ _ => none
  | n + 1 => Zac.S0 (Zac.l0 n)
def Zac.S (j0 : Nat → Nat → D13a → D13a → Int → Int → D13a → Option D13n) (l : D13a) : Option D13n :=
  ((Zng 8 l)).bind fun x1 =>
  ((Zdn ((decide (0 < (List.length x1))) && true) (sortI x1) fun _x => ((decide ((List.length _x) = (List.length x1))) && true))).bind fun x2 =>
  ((Zdn ((decide (0 < (List.length x2))) && true) (compI x2) fun _x => ((decide ((List.length _x.2) = (List.length x2))) && true))).bind fun x3 =>
  j0 0 (Int.toNat x3.1) [] l (lenL l) 0 x3.2
def Zac (l : D13a) : Option D13n := Zac.S (Zac.l0 fu) l
def Zld.S0 (self : D13a → Int → Int → D13j → Option D13g) (x1 : D13a) (x2 x3 : Int) (x4 : D13j) : Option D13g :=
  bif (ltI x3 x2) then
   bif (inB x3 (lenL x1)) then
    ((Zsa (nth x1 x3 0))).bind fun x5 =>
    ((Zic x4 x5)).bind fun x6 =>
    self x1 x2 (addI .i64 x3 1) x6.2.2
   else none
  else
   ((Zsi x4)).bind fun x7 =>
   some (x7.1, 0)
def Zld.l0 : Nat → D13a → Int → Int → D13j → Option D13g
  | 0 => fun _ _ _ _ => none
  | n + 1 => Zld.S0 (Zld.l0 n)
def Zld.S (j0 : D13a → Int → Int → D13j → Option D13g) (d : D13a) : Option D13g :=
  j0 d (lenL d) 0 (true, [])
def Zld (d : D13a) : Option D13g := Zld.S (Zld.l0 fu) d
def Zqg (l : D13a) : Option D13g :=
  bif (ltI 65536 (lenL l)) then
   some (eB, 1)
  else
   bif (eqI (lenL l) 0) then
    some (eB, 0)
   else
    ((Zac l)).bind fun x1 =>
    ((Zld x1.1)).bind fun x2 =>
    bif (neI x2.2 0) then
     some (eB, x2.2)
    else
     ((Zwa x1.2)).bind fun x3 =>
     ((Zfa x1.2 x3)).bind fun x4 =>
     ((Zsa (lenL x1.1))).bind fun x5 =>
     bif (roomS x5 x2.1) then
      bif (roomS (addS x5 x2.1) x4.1) then
       some ((addS (addS x5 x2.1) x4.1), x4.2)
      else none
     else none
def Zrl (l : D13a) : Option D13g :=
  ((Zqg l)).bind fun x1 =>
  some x1
def Zsg (l : D13a) (code : Int) : Option D13g :=
  bif (eqI code 1) then
   ((Zca l)).bind fun x1 =>
   some (x1, 0)
  else
   bif (eqI code 2) then
    ((Zfd l)).bind fun x2 =>
    ((Zvc x2)).bind fun x3 =>
    some x3
   else
    bif (eqI code 3) then
     ((Zmn l)).bind fun x4 =>
     some x4
    else
     bif (eqI code 4) then
      ((Zrl l)).bind fun x5 =>
      some x5
     else
      bif (eqI code 5) then
       ((Zwa l)).bind fun x6 =>
       ((Zfa l x6)).bind fun x7 =>
       bif (roomS (ofBytes [(IntKind.wrap .u8 x6)]) x7.1) then
        some ((addS (ofBytes [(IntKind.wrap .u8 x6)]) x7.1), x7.2)
       else none
      else
       some (eB, 1)
def Zoe (b : D13j) (c : Int) : Option (Bool × D13j) :=
  bif (roomB ((List.length (Zsj b).2) + 1) 1) then
   some (true, (Zsj b).1, ((Zsj b).2 ++ [c]))
  else none
def Zlb.S0 (self : D13e → Int → Int → D13j → Option D13g) (x1 : D13e) (x2 x3 : Int) (x4 : D13j) : Option D13g :=
  bif (ltI x3 x2) then
   bif (inB x3 (lenL x1)) then
    bif (ltI 32 (lenS (nth x1 x3 eB))) then
     some (eB, 1)
    else
     ((Zoe x4 (IntKind.wrap .u8 (lenS (nth x1 x3 eB))))).bind fun x5 =>
     ((Zic x5.2 (nth x1 x3 eB))).bind fun x6 =>
     self x1 x2 (addI .i64 x3 1) x6.2.2
   else none
  else
   ((Zsi x4)).bind fun x7 =>
   some (x7.1, 0)
def Zlb.l0 : Nat → D13e → Int → Int → D13j → Option D13g
  | 0 => fun _ _ _ _ => none
  | n + 1 => Zlb.S0 (Zlb.l0 n)
def Zlb.S (j0 : D13e → Int → Int → D13j → Option D13g) (l : D13e) : Option D13g :=
  j0 l (lenL l) 0 (true, [])
def Zlb (l : D13e) : Option D13g := Zlb.S (Zlb.l0 fu) l
def cmp_isNaN_string (x : ByteArray) : Bool :=
  (!(eqS x x))
def cmp_Less_string (x y : ByteArray) : Bool :=
  bif (cmp_isNaN_string x) then
   bif (!(cmp_isNaN_string y)) then
    true
   else
    (ltS x y)
  else
   (ltS x y)
def cmp_Less_string.o (x y : ByteArray) : Option Bool :=
  bif (cmp_isNaN_string x) then
   bif (!(cmp_isNaN_string y)) then
    some true
   else
    some (ltS x y)
  else
   some (ltS x y)
def Zji (x : ByteArray) : Bool :=
  (!(eqS x x))
def Zh.S1 (x7 : D13e) (x8 : ByteArray) (x9 x10 : Int) : Option (Int × Bool) :=
  bif (ltI x10 x9) then
   bif (inB x10 (lenL x7)) then
    bif (eqS (nth x7 x10 eB) x8) then
     some (x10, true)
    else
     bif (inB x10 (lenL x7)) then
      bif (Zji (nth x7 x10 eB)) then
       some (x10, (Zji x8))
      else
       some (x10, false)
     else none
   else none
  else
   some (x10, false)
def Zh.t1 : Nat → D13e → ByteArray → Int → Int → Option (Int × Bool)
  | 0 => fun _ _ _ _ => none
  | _ + 1 => Zh.S1
def Zh.S0 (o1_0 : D13e → ByteArray → Int → Int → Option (Int × Bool)) (self : D13e → ByteArray → Int → Int → Int → Option (Int × Bool)) (x1 : D13e) (x2 : ByteArray) (x3 x4 x5 : Int) : Option (Int × Bool) :=
  bif (ltI x4 x5) then
   bif (inB (IntKind.wrap .i64 (shrI .u64 (IntKind.wrap .u64 (addI .i64 x4 x5)) 1)) (lenL x1)) then
    bif (cmp_Less_string (nth x1 (IntKind.wrap .i64 (shrI .u64 (IntKind.wrap .u64 (addI .i64 x4 x5)) 1)) eB) x2) then
     self x1 x2 x3 (addI .i64 (IntKind.wrap .i64 (shrI .u64 (IntKind.wrap .u64 (addI .i64 x4 x5)) 1)) 1) x5
    else
     self x1 x2 x3 x4 (IntKind.wrap .i64 (shrI .u64 (IntKind.wrap .u64 (addI .i64 x4 x5)) 1))
   else none
  else
   o1_0 x1 x2 x3 x4
def Zh.l0 (o1_0 : D13e → ByteArray → Int → Int → Option (Int × Bool)) : Nat → D13e → ByteArray → Int → Int → Int → Option (Int × Bool)
  | 0 => fun _ _ _ _ _ => none
  | n + 1 => Zh.S0 o1_0 (Zh.l0 o1_0 n)
def Zh.S (j0 : D13e → ByteArray → Int → Int → Int → Option (Int × Bool)) (x : D13e) (target : ByteArray) : Option (Int × Bool) :=
  j0 x target (lenL x) 0 (lenL x)
def Zh (x : D13e) (target : ByteArray) : Option (Int × Bool) := Zh.S (Zh.l0 (Zh.t1 fu) fu) x target
def Zza.S0 (self : Nat → Nat → D13a → D13e → Int → Int → D13e → Option D13r) (x4 x5 : Nat) (x6 : D13a) (x7 : D13e) (x8 x9 : Int) (x10 : D13e) : Option D13r :=
  bif (ltI x9 x8) then
   bif (inB x9 (lenL x7)) then
    ((Zh (List.take x5 (List.drop x4 x10)) (nth x7 x9 eB))).bind fun x11 =>
    bif (roomB ((List.length x6) + 1) 8) then
     self x4 x5 (x6 ++ [x11.1]) x7 x8 (addI .i64 x9 1) x10
    else none
   else none
  else
   some ((List.take x5 (List.drop x4 x10)), x6)
def Zza.l0 : Nat → Nat → Nat → D13a → D13e → Int → Int → D13e → Option D13r
  | 0 => fun _ _ _ _ _ _ _ => none
  | n + 1 => Zza.S0 (Zza.l0 n)
def Zza.S (j0 : Nat → Nat → D13a → D13e → Int → Int → D13e → Option D13r) (l : D13e) : Option D13r :=
  ((Zng 16 l)).bind fun x1 =>
  ((Zdn ((decide (0 < (List.length x1))) && true) (sortS x1) fun _x => ((decide ((List.length _x) = (List.length x1))) && true))).bind fun x2 =>
  ((Zdn ((decide (0 < (List.length x2))) && true) (compS x2) fun _x => ((decide ((List.length _x.2) = (List.length x2))) && true))).bind fun x3 =>
  j0 0 (Int.toNat x3.1) [] l (lenL l) 0 x3.2
def Zza (l : D13e) : Option D13r := Zza.S (Zza.l0 fu) l
def Zaf (l : D13e) : Option D13g :=
  bif (ltI 65536 (lenL l)) then
   some (eB, 1)
  else
   bif (eqI (lenL l) 0) then
    some (eB, 0)
   else
    ((Zza l)).bind fun x1 =>
    ((Zlb x1.1)).bind fun x2 =>
    bif (neI x2.2 0) then
     some (eB, x2.2)
    else
     ((Zwa x1.2)).bind fun x3 =>
     ((Zfa x1.2 x3)).bind fun x4 =>
     ((Zsa (lenL x1.1))).bind fun x5 =>
     bif (roomS x5 x2.1) then
      bif (roomS (addS x5 x2.1) x4.1) then
       some ((addS (addS x5 x2.1) x4.1), x4.2)
      else none
     else none
def Zlk (l : D13e) : Option D13g :=
  ((Zaf l)).bind fun x1 =>
  some x1
def Zhi (l : D13e) (code : Int) : Option D13g :=
  bif (eqI code 1) then
   ((Zlb l)).bind fun x1 =>
   some x1
  else
   bif (eqI code 4) then
    ((Zlk l)).bind fun x2 =>
    some x2
   else
    bif (eqI code 2) then
     bif (eqI (lenL l) 0) then
      some (eB, 0)
     else
      ((Zza l)).bind fun x3 =>
      ((Zlb x3.1)).bind fun x4 =>
      bif (neI x4.2 0) then
       some (eB, x4.2)
      else
       ((Zfd x3.2)).bind fun x5 =>
       ((Zvc x5)).bind fun x6 =>
       ((Zsa (lenL x3.1))).bind fun x7 =>
       bif (roomS x7 x4.1) then
        bif (roomS (addS x7 x4.1) x6.1) then
         some ((addS (addS x7 x4.1) x6.1), x6.2)
        else none
       else none
    else
     some (eB, 1)
def Zla.S1 (x8 x9 : Int) (x10 : D13a) (x11 : D13e) : Option D13g :=
  bif (eqI x8 1) then
   ((Zsg x10 x9)).bind fun x12 =>
   some x12
  else
   ((Zhi x11 x9)).bind fun x13 =>
   some x13
def Zla.t1 : Nat → Int → Int → D13a → D13e → Option D13g
  | 0 => fun _ _ _ _ => none
  | _ + 1 => Zla.S1
def Zla.S0 (o1_0 : Int → Int → D13a → D13e → Option D13g) (self : Int → Int → D13a → D13e → D13u → Int → Int → Option D13g) (x1 x2 : Int) (x3 : D13a) (x4 : D13e) (x5 : D13u) (x6 x7 : Int) : Option D13g :=
  bif (ltI x7 x6) then
   bif (inB x7 (lenL x5)) then
    bif (roomB ((List.length x3) + 1) 8) then
     bif (roomB ((List.length x4) + 1) 16) then
      self x1 x2 (x3 ++ [(nth x5 x7 (0, 0, eB)).2.1]) (x4 ++ [(nth x5 x7 (0, 0, eB)).2.2]) x5 x6 (addI .i64 x7 1)
     else none
    else none
   else none
  else
   o1_0 x1 x2 x3 x4
def Zla.l0 (o1_0 : Int → Int → D13a → D13e → Option D13g) : Nat → Int → Int → D13a → D13e → D13u → Int → Int → Option D13g
  | 0 => fun _ _ _ _ _ _ _ => none
  | n + 1 => Zla.S0 o1_0 (Zla.l0 o1_0 n)
def Zla.S (j0 : Int → Int → D13a → D13e → D13u → Int → Int → Option D13g) (l : D13u) (kind code : Int) : Option D13g :=
  j0 kind code [] [] l (lenL l) 0
def Zla (l : D13u) (kind code : Int) : Option D13g := Zla.S (Zla.l0 (Zla.t1 fu) fu) l kind code
def Zna.S1 (o0_1 : ByteArray → Int → Int → Int → Option Int) (self : ByteArray → Int → Int → Int → Int → Option Int) (x5 : ByteArray) (x6 x7 : Int) (x8 x9 : Int) : Option Int :=
  bif (ltI x9 8) then
   self x5 (xorI .u32 (shrI .u32 x6 1) (andI .u32 2197175160 (subI .u32 0 (andI .u32 x6 1)))) x7 x8 (addI .i64 x9 1)
  else
   o0_1 x5 x6 x7 (addI .i64 x8 1)
def Zna.l1 (o0_1 : ByteArray → Int → Int → Int → Option Int) : Nat → ByteArray → Int → Int → Int → Int → Option Int
  | 0 => fun _ _ _ _ _ => none
  | n + 1 => Zna.S1 o0_1 (Zna.l1 o0_1 n)
def Zna.S0 (j1 : ByteArray → Int → Int → Int → Int → Option Int) (x1 : ByteArray) (x2 x3 x4 : Int) : Option Int :=
  bif (ltI x4 x3) then
   bif (inB x4 (lenS x1)) then
    j1 x1 (xorI .u32 x2 (IntKind.wrap .u32 (byteAt x1 x4))) x3 x4 0
   else none
  else
   some (IntKind.wrap .i64 (xorI .u32 4294967295 x2))
def Zna.l0 : Nat → ByteArray → Int → Int → Int → Option Int
  | 0 => fun _ _ _ _ => none
  | n + 1 => Zna.S0 (Zna.l1 (Zna.l0 n) n)
def Zna.S (j0 : ByteArray → Int → Int → Int → Option Int) (sum : Int) (s : ByteArray) : Option Int :=
  j0 s (xorI .u32 4294967295 (IntKind.wrap .u32 sum)) (lenS s) 0
def Zna (sum : Int) (s : ByteArray) : Option Int := Zna.S (Zna.l0 fu) sum s
def Zsp (s : ByteArray) : Option Int :=
  ((Zna 0 s)).bind fun x1 =>
  some x1
def Ztb.S0 (self : Int → D13a → Int → Option ByteArray) (x2 : Int) (x3 : D13a) (x4 : Int) : Option ByteArray :=
  bif (ltI x4 4) then
   bif (leI 0 (mulI .i64 8 x4)) then
    bif (roomB ((List.length x3) + 1) 1) then
     self x2 (x3 ++ [(IntKind.wrap .u8 (shrI .u32 x2 (mulI .i64 8 x4)))]) (addI .i64 x4 1)
    else none
   else none
  else
   some (ofBytes x3)
def Ztb.l0 : Nat → Int → D13a → Int → Option ByteArray
  | 0 => fun _ _ _ => none
  | n + 1 => Ztb.S0 (Ztb.l0 n)
def Ztb.S (j0 : Int → D13a → Int → Option ByteArray) (s : ByteArray) : Option ByteArray :=
  ((Zsp s)).bind fun x1 =>
  bif ((leI 0 (addI .i64 (lenS s) 4)) && (roomB (Int.toNat (addI .i64 (lenS s) 4)) 1)) then
   bif (roomB (0 + (ByteArray.size s)) 1) then
    j0 (IntKind.wrap .u32 x1) (Zf s) 0
   else none
  else none
def Ztb (s : ByteArray) : Option ByteArray := Ztb.S (Ztb.l0 fu) s
def Zqe (l : D13u) (kind code : Int) : Option D13g :=
  ((Zbl l kind)).bind fun x1 =>
  bif (!x1) then
   some (eB, 1)
  else
   ((Zma l)).bind fun x2 =>
   ((Zla x2.2 kind code)).bind fun x3 =>
   bif (neI x3.2 0) then
    some (eB, 1)
   else
    bif (roomS (ofBytes [(IntKind.wrap .u8 kind), (IntKind.wrap .u8 code), (IntKind.wrap .u8 (lenL l)), (IntKind.wrap .u8 (lenS x2.1))]) x2.1) then
     bif (roomS (addS (ofBytes [(IntKind.wrap .u8 kind), (IntKind.wrap .u8 code), (IntKind.wrap .u8 (lenL l)), (IntKind.wrap .u8 (lenS x2.1))]) x2.1) x3.1) then
      ((Ztb (addS (addS (ofBytes [(IntKind.wrap .u8 kind), (IntKind.wrap .u8 code), (IntKind.wrap .u8 (lenL l)), (IntKind.wrap .u8 (lenS x2.1))]) x2.1) x3.1))).bind fun x4 =>
      some (x4, 0)
     else none
    else none
def Zsh (s : ByteArray) : Option D13g :=
  bif (ltI (subI .i64 (lenS s) 4) 0) then
   some (eB, 5)
  else
   bif (inC 0 (subI .i64 (lenS s) 4) (lenS s)) then
    ((Ztb (cutS s 0 (subI .i64 (lenS s) 4)))).bind fun x1 =>
    bif (!(eqS x1 s)) then
     some (eB, 5)
    else
     bif (inC 0 (subI .i64 (lenS s) 4) (lenS s)) then
      some ((cutS s 0 (subI .i64 (lenS s) 4)), 0)
     else none
   else none
def Zgd.S0 (self : ByteArray → Int → Int → Int → Int → Option Int) (x1 : ByteArray) (x2 x3 : Int) (x4 x5 : Int) : Option Int :=
  bif (ltI x5 x2) then
   bif (inB (shrI .i64 x4 3) (lenS x1)) then
    bif (leI 0 (andI .i64 x4 7)) then
     ((Zkn (minI (subI .i64 8 (andI .i64 x4 7)) (subI .i64 x2 x5)))).bind fun x6 =>
     bif (leI 0 x5) then
      self x1 x2 (orI .u64 x3 (shlI .u64 (andI .u64 (shrI .u64 (IntKind.wrap .u64 (byteAt x1 (shrI .i64 x4 3))) (andI .i64 x4 7)) (IntKind.wrap .u64 x6)) x5)) (addI .i64 x4 (minI (subI .i64 8 (andI .i64 x4 7)) (subI .i64 x2 x5))) (addI .i64 x5 (minI (subI .i64 8 (andI .i64 x4 7)) (subI .i64 x2 x5)))
     else none
    else none
   else none
  else
   some (IntKind.wrap .i64 x3)
def Zgd.l0 : Nat → ByteArray → Int → Int → Int → Int → Option Int
  | 0 => fun _ _ _ _ _ => none
  | n + 1 => Zgd.S0 (Zgd.l0 n)
def Zgd.S (j0 : ByteArray → Int → Int → Int → Int → Option Int) (s : ByteArray) (xk width : Int) : Option Int :=
  j0 s width 0 (mulI .i64 xk width) 0
def Zgd (s : ByteArray) (xk width : Int) : Option Int := Zgd.S (Zgd.l0 fu) s xk width
def Zva.S1 (self : ByteArray → Int → Int → Int → D13a → Option D13h) (x5 : ByteArray) (x6 x7 x8 : Int) (x9 : D13a) : Option D13h :=
  bif (ltI x8 x7) then
   ((Zgd x5 x8 x6)).bind fun x10 =>
   bif (inB x8 (lenL x9)) then
    self x5 x6 x7 (addI .i64 x8 1) (List.set x9 (Int.toNat x8) x10)
   else none
  else
   some (x9, 0)
def Zva.l1 : Nat → ByteArray → Int → Int → Int → D13a → Option D13h
  | 0 => fun _ _ _ _ _ => none
  | n + 1 => Zva.S1 (Zva.l1 n)
def Zva.S0 (j1 : ByteArray → Int → Int → Int → D13a → Option D13h) (x2 : ByteArray) (x3 x4 : Int) : Option D13h :=
  bif ((leI 0 x3) && (roomB (Int.toNat x3) 8)) then
   j1 x2 x4 x3 0 (List.replicate (Int.toNat x3) (0 : Int))
  else none
def Zva.t0 : Nat → ByteArray → Int → Int → Option D13h
  | 0 => fun _ _ _ => none
  | n + 1 => Zva.S0 (Zva.l1 n)
def Zva.S (j0 : ByteArray → Int → Int → Option D13h) (s : ByteArray) (xn width : Int) : Option D13h :=
  bif (ltI width 0) then
   some ([], 1)
  else
   bif (ltI 64 width) then
    some ([], 1)
   else
    bif (ltI xn 0) then
     some ([], 1)
    else
     bif (ltI 65536 xn) then
      some ([], 1)
     else
      bif (neI (lenS s) (Zsf xn width)) then
       some ([], 20)
      else
       bif (ltI 0 (andI .i64 (mulI .i64 xn width) 7)) then
        bif (inB (subI .i64 (lenS s) 1) (lenS s)) then
         bif (leI 0 (andI .i64 (mulI .i64 xn width) 7)) then
          bif (ltI 0 (shrI .u8 (byteAt s (subI .i64 (lenS s) 1)) (andI .i64 (mulI .i64 xn width) 7))) then
           some ([], 20)
          else
           j0 s xn width
         else none
        else none
       else
        j0 s xn width
def Zva (s : ByteArray) (xn width : Int) : Option D13h := Zva.S (Zva.t0 fu) s xn width
def Zoa.S0 (self : D13a → Int → Int → Int → Option Int) (x1 : D13a) (x2 x3 x4 : Int) : Option Int :=
  bif (ltI x4 x3) then
   bif (inB x4 (lenL x1)) then
    bif (eqI x2 (nth x1 x4 0)) then
     some x4
    else
     self x1 x2 x3 (addI .i64 x4 1)
   else none
  else
   some (-1)
def Zoa.l0 : Nat → D13a → Int → Int → Int → Option Int
  | 0 => fun _ _ _ _ => none
  | n + 1 => Zoa.S0 (Zoa.l0 n)
def Zoa.S (j0 : D13a → Int → Int → Int → Option Int) (s : D13a) (v : Int) : Option Int :=
  j0 s v (lenL s) 0
def Zoa (s : D13a) (v : Int) : Option Int := Zoa.S (Zoa.l0 fu) s v
def Zif (s : D13a) (v : Int) : Option Bool :=
  ((Zoa s v)).bind fun x1 =>
  some (leI 0 x1)
def Zsl (s : ByteArray) (xn : Int) : Option D13h :=
  bif (ltI xn 0) then
   some ([], 1)
  else
   bif (ltI 65536 xn) then
    some ([], 1)
   else
    bif (eqS s eB) then
     bif ((leI 0 xn) && (roomB (Int.toNat xn) 8)) then
      some ((List.replicate (Int.toNat xn) (0 : Int)), 0)
     else none
    else
     ((Zva s xn 1)).bind fun x1 =>
     bif (neI x1.2 0) then
      some ([], 20)
     else
      ((Zif x1.1 1)).bind fun x2 =>
      bif (!x2) then
       some ([], 20)
      else
       some (x1.1, 0)
def Zwb.S0 (self : Int → Int → D13a → Int → Int → Option D13b) (x2 x3 : Int) (x4 : D13a) (x5 x6 : Int) : Option D13b :=
  bif (ltI x6 x5) then
   bif (inB x6 (lenL x4)) then
    self x2 (addI .i64 x3 (nth x4 x6 0)) x4 x5 (addI .i64 x6 1)
   else none
  else
   some (x3, x2)
def Zwb.l0 : Nat → Int → Int → D13a → Int → Int → Option D13b
  | 0 => fun _ _ _ _ _ => none
  | n + 1 => Zwb.S0 (Zwb.l0 n)
def Zwb.S (j0 : Int → Int → D13a → Int → Int → Option D13b) (s : ByteArray) (xn : Int) : Option D13b :=
  ((Zsl s xn)).bind fun x1 =>
  j0 x1.2 0 x1.1 (lenL x1.1) 0
def Zwb (s : ByteArray) (xn : Int) : Option D13b := Zwb.S (Zwb.l0 fu) s xn
def Zx.S1 (o0_1 : ByteArray → Int → Int → D13a → Option D13h) (self : ByteArray → Int → Int → Int → Int → Int → D13a → Option D13h) (x5 : ByteArray) (x6 x7 : Int) (x8 x9 x10 : Int) (x11 : D13a) : Option D13h :=
  bif (ltI x10 8) then
   bif (inB (addI .i64 (mulI .i64 8 x6) x10) (lenS x5)) then
    bif (leI 0 (mulI .i64 8 x10)) then
     self x5 x6 (orI .u64 x7 (shlI .u64 (IntKind.wrap .u64 (byteAt x5 (addI .i64 (mulI .i64 8 x6) x10))) (mulI .i64 8 x10))) x8 x9 (addI .i64 x10 1) x11
    else none
   else none
  else
   bif (inB x6 (lenL x11)) then
    o0_1 x5 x8 (addI .i64 x9 1) (List.set x11 (Int.toNat x6) (IntKind.wrap .i64 x7))
   else none
def Zx.l1 (o0_1 : ByteArray → Int → Int → D13a → Option D13h) : Nat → ByteArray → Int → Int → Int → Int → Int → D13a → Option D13h
  | 0 => fun _ _ _ _ _ _ _ => none
  | n + 1 => Zx.S1 o0_1 (Zx.l1 o0_1 n)
def Zx.S0 (j1 : ByteArray → Int → Int → Int → Int → Int → D13a → Option D13h) (x1 : ByteArray) (x2 x3 : Int) (x4 : D13a) : Option D13h :=
  bif (ltI x3 x2) then
   j1 x1 x3 0 x2 x3 0 x4
  else
   some (x4, 0)
def Zx.l0 : Nat → ByteArray → Int → Int → D13a → Option D13h
  | 0 => fun _ _ _ _ => none
  | n + 1 => Zx.S0 (Zx.l1 (Zx.l0 n) n)
def Zx.S (j0 : ByteArray → Int → Int → D13a → Option D13h) (s : ByteArray) (xn : Int) : Option D13h :=
  bif (ltI xn 0) then
   some ([], 20)
  else
   bif (neI (remI (lenS s) 8) 0) then
    some ([], 20)
   else
    bif (neI xn (quoI .i64 (lenS s) 8)) then
     some ([], 20)
    else
     bif ((leI 0 xn) && (roomB (Int.toNat xn) 8)) then
      j0 s xn 0 (List.replicate (Int.toNat xn) (0 : Int))
     else none
def Zx (s : ByteArray) (xn : Int) : Option D13h := Zx.S (Zx.l0 fu) s xn
def Zya.S1 (x7 : Int) (x8 : D13o) (x9 : Int) : Option D13v :=
  ((Znc x8)).bind fun x10 =>
  bif (!x10.2) then
   some ([], 20)
  else
   bif (neI x9 x7) then
    some ([], 20)
   else
    some (x8, 0)
def Zya.t1 : Nat → Int → D13o → Int → Option D13v
  | 0 => fun _ _ _ => none
  | _ + 1 => Zya.S1
def Zya.S0 (o1_0 : Int → D13o → Int → Option D13v) (self : ByteArray → Int → D13o → Int → Option D13v) (x1 : ByteArray) (x2 : Int) (x3 : D13o) (x4 : Int) : Option D13v :=
  bif (!(eqS x1 eB)) then
   ((Zbc x1)).bind fun x5 =>
   bif (neI x5.2.2 0) then
    some ([], 20)
   else
    bif (inC x5.2.1 (lenS x1) (lenS x1)) then
     ((Zbc (cutS x1 x5.2.1 (lenS x1)))).bind fun x6 =>
     bif (neI x6.2.2 0) then
      some ([], 20)
     else
      bif (ltI x6.1 1) then
       some ([], 20)
      else
       bif (ltI (subI .i64 x2 x4) x6.1) then
        some ([], 20)
       else
        bif (roomB ((List.length x3) + 1) 24) then
         bif (inC (addI .i64 x5.2.1 x6.2.1) (lenS x1) (lenS x1)) then
          self (cutS x1 (addI .i64 x5.2.1 x6.2.1) (lenS x1)) x2 (x3 ++ [(x5.1, x4, x6.1)]) (addI .i64 x4 x6.1)
         else none
        else none
    else none
  else
   o1_0 x2 x3 x4
def Zya.l0 (o1_0 : Int → D13o → Int → Option D13v) : Nat → ByteArray → Int → D13o → Int → Option D13v
  | 0 => fun _ _ _ _ => none
  | n + 1 => Zya.S0 o1_0 (Zya.l0 o1_0 n)
def Zya.S (j0 : ByteArray → Int → D13o → Int → Option D13v) (s : ByteArray) (xn : Int) : Option D13v :=
  bif (ltI xn 0) then
   some ([], 1)
  else
   bif (ltI 65536 xn) then
    some ([], 1)
   else
    j0 s xn [] 0
def Zya (s : ByteArray) (xn : Int) : Option D13v := Zya.S (Zya.l0 (Zya.t1 fu) fu) s xn
def Ztl (x y : Int) : Int × Int :=
  ((addI .u64 (addI .u64 (mulI .u64 (shrI .u64 x 32) (shrI .u64 y 32)) (shrI .u64 (addI .u64 (mulI .u64 (shrI .u64 x 32) (andI .u64 y 4294967295)) (shrI .u64 (mulI .u64 (andI .u64 x 4294967295) (andI .u64 y 4294967295)) 32)) 32)) (shrI .u64 (addI .u64 (andI .u64 (addI .u64 (mulI .u64 (shrI .u64 x 32) (andI .u64 y 4294967295)) (shrI .u64 (mulI .u64 (andI .u64 x 4294967295) (andI .u64 y 4294967295)) 32)) 4294967295) (mulI .u64 (andI .u64 x 4294967295) (shrI .u64 y 32))) 32)), (mulI .u64 x y))
def Zmk (x y : Int) : Int × Int :=
  (Ztl x y)
def Zp.S2 (self : Int → D13a → Option D13d) (x6 : Int) (x7 : D13a) : Option D13d :=
  bif (ltI x6 (lenL x7)) then
   bif (inC x6 (lenL x7) (lenL x7)) then
    bif (inC 0 x6 (lenL x7)) then
     self (addI .i64 x6 (((List.length (List.take ((Int.toNat (lenL x7)) - (Int.toNat x6)) (List.take ((Int.toNat x6) - 0) (List.drop 0 x7)))) : Nat) : Int)) (splA x7 (Int.toNat x6) (List.take ((Int.toNat (lenL x7)) - (Int.toNat x6)) (List.take ((Int.toNat x6) - 0) (List.drop 0 x7))))
    else none
   else none
  else
   some x7
def Zp.l2 : Nat → Int → D13a → Option D13d
  | 0 => fun _ _ => none
  | n + 1 => Zp.S2 (Zp.l2 n)
def Zp.S1 (j2 : Int → D13a → Option D13d) (x4 : D13a) (x5 : Int) : Option D13d :=
  bif ((leI 0 (IntKind.wrap .i64 x5)) && (roomB (Int.toNat (IntKind.wrap .i64 x5)) 8)) then
   j2 (((List.length (List.take (List.length (List.replicate (Int.toNat (IntKind.wrap .i64 x5)) (0 : Int))) x4)) : Nat) : Int) (splA (List.replicate (Int.toNat (IntKind.wrap .i64 x5)) (0 : Int)) 0 (List.take (List.length (List.replicate (Int.toNat (IntKind.wrap .i64 x5)) (0 : Int))) x4))
  else none
def Zp.t1 : Nat → D13a → Int → Option D13d
  | 0 => fun _ _ => none
  | n + 1 => Zp.S1 (Zp.l2 n)
def Zp.S0 (j1 : D13a → Int → Option D13d) (x1 : D13a) (x2 : Int) : Option D13d :=
  let x3 := (Zmk (IntKind.wrap .u64 (lenL x1)) (IntKind.wrap .u64 x2))
  bif (ltI 0 x3.1) then
   none
  else
   bif (ltI 9223372036854775807 x3.2) then
    none
   else
    j1 x1 x3.2
def Zp.t0 : Nat → D13a → Int → Option D13d
  | 0 => fun _ _ => none
  | n + 1 => Zp.S0 (Zp.t1 n)
def Zp.S (j0 : D13a → Int → Option D13d) (x : D13a) (count : Int) : Option D13d :=
  bif (ltI count 0) then
   none
  else
   j0 x count
def Zp (x : D13a) (count : Int) : Option D13d := Zp.S (Zp.t0 fu) x count
def Zoc.S0 (self : D13a → D13o → Int → Int → Option D13h) (x2 : D13a) (x3 : D13o) (x4 x5 : Int) : Option D13h :=
  bif (ltI x5 x4) then
   bif (inB x5 (lenL x3)) then
    ((Zp [(nth x3 x5 (0, 0, 0)).1] (nth x3 x5 (0, 0, 0)).2.2)).bind fun x6 =>
    bif (roomB ((List.length x2) + (List.length x6)) 8) then
     self (x2 ++ x6) x3 x4 (addI .i64 x5 1)
    else none
   else none
  else
   some (x2, 0)
def Zoc.l0 : Nat → D13a → D13o → Int → Int → Option D13h
  | 0 => fun _ _ _ _ => none
  | n + 1 => Zoc.S0 (Zoc.l0 n)
def Zoc.S (j0 : D13a → D13o → Int → Int → Option D13h) (l : D13o) : Option D13h :=
  ((Znc l)).bind fun x1 =>
  bif (!x1.2) then
   some ([], 1)
  else
   bif ((leI 0 x1.1) && (roomB (Int.toNat x1.1) 8)) then
    j0 [] l (lenL l) 0
   else none
def Zoc (l : D13o) : Option D13h := Zoc.S (Zoc.l0 fu) l
def Zpe (t0 : ByteArray) (t1 : Bool) : Option (Int × ByteArray × Bool) :=
  ((Zbc t0)).bind fun x1 =>
  bif t1 then
   bif (inC x1.2.1 (lenS t0) (lenS t0)) then
    some (x1.1, (cutS t0 x1.2.1 (lenS t0)), true)
   else none
  else
   bif (inC x1.2.1 (lenS t0) (lenS t0)) then
    some (x1.1, (cutS t0 x1.2.1 (lenS t0)), (neI x1.2.2 0))
   else none
def Zhh (xfrom xby : Int) : Int :=
  (IntKind.wrap .i64 (addI .u64 (IntKind.wrap .u64 xfrom) (IntKind.wrap .u64 xby)))
def Zz.S2 (x18 : ByteArray) (x19 : D13a) (x20 : Bool) : Option D13h :=
  ((Zmn x19)).bind fun x21 =>
  bif x20 then
   some ([], 20)
  else
   bif (neI x21.2 0) then
    some ([], 20)
   else
    bif (!(eqS x21.1 x18)) then
     some ([], 20)
    else
     some (x19, 0)
def Zz.t2 : Nat → ByteArray → D13a → Bool → Option D13h
  | 0 => fun _ _ _ => none
  | _ + 1 => Zz.S2
def Zz.S1 (o2_1 : ByteArray → D13a → Bool → Option D13h) (self : ByteArray → D13a → Int → D13a → Int → Int → Bool → Option D13h) (x9 : ByteArray) (x10 : D13a) (x11 : Int) (x12 : D13a) (x13 x14 : Int) (x15 : Bool) : Option D13h :=
  bif (ltI x14 x13) then
   bif (inB x14 (lenL x12)) then
    bif (inB (subI .i64 (lenL x10) 1) (lenL x10)) then
     bif (roomB ((List.length x10) + 1) 8) then
      self x9 (x10 ++ [(Zhh (Zhh (nth x10 (subI .i64 (lenL x10) 1) 0) x11) (nth x12 x14 0))]) x11 x12 x13 (addI .i64 x14 1) x15
     else none
    else none
   else none
  else
   o2_1 x9 x10 x15
def Zz.l1 (o2_1 : ByteArray → D13a → Bool → Option D13h) : Nat → ByteArray → D13a → Int → D13a → Int → Int → Bool → Option D13h
  | 0 => fun _ _ _ _ _ _ _ => none
  | n + 1 => Zz.S1 o2_1 (Zz.l1 o2_1 n)
def Zz.S0 (j1 : ByteArray → D13a → Int → D13a → Int → Int → Bool → Option D13h) (j2 : ByteArray → D13a → Bool → Option D13h) (x2 : ByteArray) (x3 : Int) (x4 : D13a) (x5 : ByteArray) (x6 : Bool) : Option D13h :=
  bif (ltI 1 x3) then
   ((Zpe x5 x6)).bind fun x7 =>
   bif x7.2.2 then
    some ([], 20)
   else
    bif (eqS x7.2.1 eB) then
     some ([], 20)
    else
     bif (inC 1 (lenS x7.2.1) (lenS x7.2.1)) then
      bif (inB 0 (lenS x7.2.1)) then
       ((Zva (cutS x7.2.1 1 (lenS x7.2.1)) (subI .i64 x3 1) (IntKind.wrap .i64 (byteAt x7.2.1 0)))).bind fun x8 =>
       bif (neI x8.2 0) then
        some ([], 20)
       else
        j1 x2 x4 x7.1 x8.1 (lenL x8.1) 0 x7.2.2
      else none
     else none
  else
   j2 x2 x4 x6
def Zz.t0 : Nat → ByteArray → Int → D13a → ByteArray → Bool → Option D13h
  | 0 => fun _ _ _ _ _ => none
  | n + 1 => Zz.S0 (Zz.l1 (Zz.t2 n) n) (Zz.t2 n)
def Zz.S (j0 : ByteArray → Int → D13a → ByteArray → Bool → Option D13h) (s : ByteArray) (xn : Int) : Option D13h :=
  bif (ltI xn 0) then
   some ([], 1)
  else
   bif (ltI 65536 xn) then
    some ([], 1)
   else
    bif (ltI 0 xn) then
     ((Zpe s false)).bind fun x1 =>
     j0 s xn [x1.1] x1.2.1 x1.2.2
    else
     j0 s xn [] s false
def Zz (s : ByteArray) (xn : Int) : Option D13h := Zz.S (Zz.t0 fu) s xn
def Zki (s : ByteArray) : Option D13b :=
  ((Zbc s)).bind fun x1 =>
  bif (neI x1.2.2 0) then
   some (0, 0)
  else
   some (x1.1, x1.2.1)
def Zka.S0 (self : D13c → Bool → Int → Int → Option Int) (x1 : D13c) (x2 : Bool) (x3 x4 : Int) : Option Int :=
  bif (ltI x4 x3) then
   bif (inB x4 (lenL x1)) then
    bif (eqB x2 (nth x1 x4 false)) then
     some x4
    else
     self x1 x2 x3 (addI .i64 x4 1)
   else none
  else
   some (-1)
def Zka.l0 : Nat → D13c → Bool → Int → Int → Option Int
  | 0 => fun _ _ _ _ => none
  | n + 1 => Zka.S0 (Zka.l0 n)
def Zka.S (j0 : D13c → Bool → Int → Int → Option Int) (s : D13c) (v : Bool) : Option Int :=
  j0 s v (lenL s) 0
def Zka (s : D13c) (v : Bool) : Option Int := Zka.S (Zka.l0 fu) s v
def Zwc (s : D13c) (v : Bool) : Option Bool :=
  ((Zka s v)).bind fun x1 =>
  some (leI 0 x1)
def Zb.S3 (x24 x25 : D13a) (x26 : D13c) : Option D13s :=
  ((Zwc x26 false)).bind fun x27 =>
  bif x27 then
   some ([], [], 20)
  else
   some (x24, x25, 0)
def Zb.t3 : Nat → D13a → D13a → D13c → Option D13s
  | 0 => fun _ _ _ => none
  | _ + 1 => Zb.S3
def Zb.S2 (o3_1 : D13a → D13a → D13c → Option D13s) (self : Int → D13a → D13a → D13a → Int → Int → D13c → Option D13s) (x17 : Int) (x18 x19 x20 : D13a) (x21 x22 : Int) (x23 : D13c) : Option D13s :=
  bif (ltI x22 x21) then
   bif (inB x22 (lenL x20)) then
    bif (ltI (nth x20 x22 0) 0) then
     some ([], [], 20)
    else
     bif (leI x17 (nth x20 x22 0)) then
      some ([], [], 20)
     else
      bif (inB (nth x20 x22 0) (lenL x23)) then
       self x17 x18 x19 x20 x21 (addI .i64 x22 1) (List.set x23 (Int.toNat (nth x20 x22 0)) true)
      else none
   else none
  else
   o3_1 x18 x19 x23
def Zb.l2 (o3_1 : D13a → D13a → D13c → Option D13s) : Nat → Int → D13a → D13a → D13a → Int → Int → D13c → Option D13s
  | 0 => fun _ _ _ _ _ _ _ => none
  | n + 1 => Zb.S2 o3_1 (Zb.l2 o3_1 n)
def Zb.S1 (j2 : Int → D13a → D13a → D13a → Int → Int → D13c → Option D13s) (x10 : ByteArray) (x11 x12 x13 : Int) (x14 : D13a) : Option D13s :=
  bif (inC x13 (lenS x10) (lenS x10)) then
   ((Zwa [(subI .i64 x12 1)])).bind fun x15 =>
   ((Zva (cutS x10 x13 (lenS x10)) x11 x15)).bind fun x16 =>
   bif (neI x16.2 0) then
    some ([], [], 20)
   else
    bif ((leI 0 x12) && (roomB (Int.toNat x12) 1)) then
     j2 x12 x14 x16.1 x16.1 (lenL x16.1) 0 (List.replicate (Int.toNat x12) false)
    else none
  else none
def Zb.t1 : Nat → ByteArray → Int → Int → Int → D13a → Option D13s
  | 0 => fun _ _ _ _ _ => none
  | n + 1 => Zb.S1 (Zb.l2 (Zb.t3 n) n)
def Zb.S0 (o1_0 : ByteArray → Int → Int → Int → D13a → Option D13s) (self : ByteArray → Int → Int → Int → D13a → Int → Int → Option D13s) (x2 : ByteArray) (x3 x4 x5 : Int) (x6 : D13a) (x7 x8 : Int) : Option D13s :=
  bif (ltI x8 x7) then
   bif (inC x5 (lenS x2) (lenS x2)) then
    ((Zki (cutS x2 x5 (lenS x2)))).bind fun x9 =>
    bif (eqI x9.2 0) then
     some ([], [], 20)
    else
     bif (ltI 0 x8) then
      bif (inB (subI .i64 x8 1) (lenL x6)) then
       bif (leI x9.1 (nth x6 (subI .i64 x8 1) 0)) then
        some ([], [], 20)
       else
        bif (roomB ((List.length x6) + 1) 8) then
         self x2 x3 x4 (addI .i64 x5 x9.2) (x6 ++ [x9.1]) x7 (addI .i64 x8 1)
        else none
      else none
     else
      bif (roomB ((List.length x6) + 1) 8) then
       self x2 x3 x4 (addI .i64 x5 x9.2) (x6 ++ [x9.1]) x7 (addI .i64 x8 1)
      else none
   else none
  else
   o1_0 x2 x3 x4 x5 x6
def Zb.l0 (o1_0 : ByteArray → Int → Int → Int → D13a → Option D13s) : Nat → ByteArray → Int → Int → Int → D13a → Int → Int → Option D13s
  | 0 => fun _ _ _ _ _ _ _ => none
  | n + 1 => Zb.S0 o1_0 (Zb.l0 o1_0 n)
def Zb.S (j0 : ByteArray → Int → Int → Int → D13a → Int → Int → Option D13s) (s : ByteArray) (xn : Int) : Option D13s :=
  bif (ltI xn 0) then
   some ([], [], 1)
  else
   bif (ltI 65536 xn) then
    some ([], [], 1)
   else
    bif (eqI xn 0) then
     bif (!(eqS s eB)) then
      some ([], [], 20)
     else
      some ([], [], 0)
    else
     ((Zbc s)).bind fun x1 =>
     bif (neI x1.2.2 0) then
      some ([], [], 20)
     else
      bif (ltI x1.1 1) then
       some ([], [], 20)
      else
       bif (ltI xn x1.1) then
        some ([], [], 20)
       else
        j0 s xn x1.1 x1.2.1 [] x1.1 0
def Zb (s : ByteArray) (xn : Int) : Option D13s := Zb.S (Zb.l0 (Zb.t1 fu) fu) s xn
def Zyb.S0 (self : D13a → D13a → D13a → Int → Int → Option D13d) (x1 x2 x3 : D13a) (x4 x5 : Int) : Option D13d :=
  bif (ltI x5 x4) then
   bif (inB x5 (lenL x3)) then
    bif (inB (nth x3 x5 0) (lenL x1)) then
     bif (roomB ((List.length x2) + 1) 8) then
      self x1 (x2 ++ [(nth x1 (nth x3 x5 0) 0)]) x3 x4 (addI .i64 x5 1)
     else none
    else none
   else none
  else
   some x2
def Zyb.l0 : Nat → D13a → D13a → D13a → Int → Int → Option D13d
  | 0 => fun _ _ _ _ _ => none
  | n + 1 => Zyb.S0 (Zyb.l0 n)
def Zyb.S (j0 : D13a → D13a → D13a → Int → Int → Option D13d) (d places : D13a) : Option D13d :=
  j0 d [] places (lenL places) 0
def Zyb (d places : D13a) : Option D13d := Zyb.S (Zyb.l0 fu) d places
def Znk (s : ByteArray) (xn : Int) : Option D13h :=
  ((Zb s xn)).bind fun x1 =>
  bif (neI x1.2.2 0) then
   some ([], x1.2.2)
  else
   ((Zyb x1.1 x1.2.1)).bind fun x2 =>
   some (x2, 0)
def Zul (s : ByteArray) (xn code : Int) : Option D13h :=
  bif (eqI code 1) then
   ((Zx s xn)).bind fun x1 =>
   some x1
  else
   bif (eqI code 2) then
    ((Zya s xn)).bind fun x2 =>
    bif (neI x2.2 0) then
     some ([], x2.2)
    else
     ((Zoc x2.1)).bind fun x3 =>
     some x3
   else
    bif (eqI code 3) then
     ((Zz s xn)).bind fun x4 =>
     some x4
    else
     bif (eqI code 4) then
      ((Znk s xn)).bind fun x5 =>
      some x5
     else
      bif (eqI code 5) then
       bif (!(eqS s eB)) then
        bif (inC 1 (lenS s) (lenS s)) then
         bif (inB 0 (lenS s)) then
          ((Zva (cutS s 1 (lenS s)) xn (IntKind.wrap .i64 (byteAt s 0)))).bind fun x6 =>
          some x6
         else none
        else none
       else
        some ([], 5)
      else
       some ([], 5)
def Zda.S1 (x4 : Int) (x5 : D13e) : Option D13l :=
  bif (neI (lenL x5) x4) then
   some ([], 20)
  else
   some (x5, 0)
def Zda.t1 : Nat → Int → D13e → Option D13l
  | 0 => fun _ _ => none
  | _ + 1 => Zda.S1
def Zda.S0 (o1_0 : Int → D13e → Option D13l) (self : ByteArray → Int → D13e → Option D13l) (x1 : ByteArray) (x2 : Int) (x3 : D13e) : Option D13l :=
  bif (!(eqS x1 eB)) then
   bif (inB 0 (lenS x1)) then
    bif (ltI 32 (IntKind.wrap .i64 (byteAt x1 0))) then
     some ([], 20)
    else
     bif (leI (lenS x1) (IntKind.wrap .i64 (byteAt x1 0))) then
      some ([], 20)
     else
      bif (inC 1 (addI .i64 1 (IntKind.wrap .i64 (byteAt x1 0))) (lenS x1)) then
       bif (roomB ((List.length x3) + 1) 16) then
        bif (inC (addI .i64 1 (IntKind.wrap .i64 (byteAt x1 0))) (lenS x1) (lenS x1)) then
         self (cutS x1 (addI .i64 1 (IntKind.wrap .i64 (byteAt x1 0))) (lenS x1)) x2 (x3 ++ [(cutS x1 1 (addI .i64 1 (IntKind.wrap .i64 (byteAt x1 0))))])
        else none
       else none
      else none
   else none
  else
   o1_0 x2 x3
def Zda.l0 (o1_0 : Int → D13e → Option D13l) : Nat → ByteArray → Int → D13e → Option D13l
  | 0 => fun _ _ _ => none
  | n + 1 => Zda.S0 o1_0 (Zda.l0 o1_0 n)
def Zda.S (j0 : ByteArray → Int → D13e → Option D13l) (s : ByteArray) (xn : Int) : Option D13l :=
  j0 s xn []
def Zda (s : ByteArray) (xn : Int) : Option D13l := Zda.S (Zda.l0 (Zda.t1 fu) fu) s xn
def Zu.S2 (self : Int → D13e → D13e → D13a → Int → Int → Option D13l) (x16 : Int) (x17 x18 : D13e) (x19 : D13a) (x20 x21 : Int) : Option D13l :=
  bif (ltI x21 x20) then
   bif (inB x21 (lenL x19)) then
    bif (ltI (nth x19 x21 0) 0) then
     some ([], 5)
    else
     bif (leI x16 (nth x19 x21 0)) then
      some ([], 5)
     else
      bif (inB (nth x19 x21 0) (lenL x17)) then
       bif (roomB ((List.length x18) + 1) 16) then
        self x16 x17 (x18 ++ [(nth x17 (nth x19 x21 0) eB)]) x19 x20 (addI .i64 x21 1)
       else none
      else none
   else none
  else
   some (x18, 0)
def Zu.l2 : Nat → Int → D13e → D13e → D13a → Int → Int → Option D13l
  | 0 => fun _ _ _ _ _ _ => none
  | n + 1 => Zu.S2 (Zu.l2 n)
def Zu.S1 (j2 : Int → D13e → D13e → D13a → Int → Int → Option D13l) (x9 : ByteArray) (x10 x11 x12 : Int) (x13 : D13e) : Option D13l :=
  bif (inC x12 (lenS x9) (lenS x9)) then
   ((Zya (cutS x9 x12 (lenS x9)) x10)).bind fun x14 =>
   bif (neI x14.2 0) then
    some ([], x14.2)
   else
    ((Zoc x14.1)).bind fun x15 =>
    bif (neI x15.2 0) then
     some ([], x15.2)
    else
     j2 x11 x13 [] x15.1 (lenL x15.1) 0
  else none
def Zu.t1 : Nat → ByteArray → Int → Int → Int → D13e → Option D13l
  | 0 => fun _ _ _ _ _ => none
  | n + 1 => Zu.S1 (Zu.l2 n)
def Zu.S0 (o1_0 : ByteArray → Int → Int → Int → D13e → Option D13l) (self : ByteArray → Int → Int → Int → D13e → Int → Int → Option D13l) (x2 : ByteArray) (x3 x4 x5 : Int) (x6 : D13e) (x7 x8 : Int) : Option D13l :=
  bif (ltI x8 x7) then
   bif (leI (lenS x2) x5) then
    some ([], 5)
   else
    bif (inB x5 (lenS x2)) then
     bif (leI (subI .i64 (lenS x2) x5) (IntKind.wrap .i64 (byteAt x2 x5))) then
      some ([], 5)
     else
      bif (inB x5 (lenS x2)) then
       bif (inC (addI .i64 x5 1) (addI .i64 (addI .i64 x5 1) (IntKind.wrap .i64 (byteAt x2 x5))) (lenS x2)) then
        bif (roomB ((List.length x6) + 1) 16) then
         self x2 x3 x4 (addI .i64 (addI .i64 x5 1) (IntKind.wrap .i64 (byteAt x2 x5))) (x6 ++ [(cutS x2 (addI .i64 x5 1) (addI .i64 (addI .i64 x5 1) (IntKind.wrap .i64 (byteAt x2 x5))))]) x7 (addI .i64 x8 1)
        else none
       else none
      else none
    else none
  else
   o1_0 x2 x3 x4 x5 x6
def Zu.l0 (o1_0 : ByteArray → Int → Int → Int → D13e → Option D13l) : Nat → ByteArray → Int → Int → Int → D13e → Int → Int → Option D13l
  | 0 => fun _ _ _ _ _ _ _ => none
  | n + 1 => Zu.S0 o1_0 (Zu.l0 o1_0 n)
def Zu.S (j0 : ByteArray → Int → Int → Int → D13e → Int → Int → Option D13l) (s : ByteArray) (xn : Int) : Option D13l :=
  bif (eqI xn 0) then
   bif (!(eqS s eB)) then
    some ([], 5)
   else
    some ([], 0)
  else
   ((Zbc s)).bind fun x1 =>
   bif (neI x1.2.2 0) then
    some ([], 5)
   else
    bif (ltI x1.1 1) then
     some ([], 5)
    else
     bif (ltI xn x1.1) then
      some ([], 5)
     else
      j0 s xn x1.1 x1.2.1 [] x1.1 0
def Zu (s : ByteArray) (xn : Int) : Option D13l := Zu.S (Zu.l0 (Zu.t1 fu) fu) s xn
def Zok (s : ByteArray) : Option D13g :=
  bif (eqS s eB) then
   some (eB, 0)
  else
   bif (inB 0 (lenS s)) then
    bif (ltI 32 (IntKind.wrap .i64 (byteAt s 0))) then
     some (eB, 0)
    else
     bif (leI (lenS s) (IntKind.wrap .i64 (byteAt s 0))) then
      some (eB, 0)
     else
      bif (inC 1 (addI .i64 1 (IntKind.wrap .i64 (byteAt s 0))) (lenS s)) then
       some ((cutS s 1 (addI .i64 1 (IntKind.wrap .i64 (byteAt s 0)))), (addI .i64 1 (IntKind.wrap .i64 (byteAt s 0))))
      else none
   else none
def Za.S3 (x24 : D13e) (x25 : D13a) (x26 : D13c) : Option D13w :=
  ((Zwc x26 false)).bind fun x27 =>
  bif x27 then
   some ([], [], 20)
  else
   some (x24, x25, 0)
def Za.t3 : Nat → D13e → D13a → D13c → Option D13w
  | 0 => fun _ _ _ => none
  | _ + 1 => Za.S3
def Za.S2 (o3_1 : D13e → D13a → D13c → Option D13w) (self : Int → D13e → D13a → D13a → Int → Int → D13c → Option D13w) (x17 : Int) (x18 : D13e) (x19 x20 : D13a) (x21 x22 : Int) (x23 : D13c) : Option D13w :=
  bif (ltI x22 x21) then
   bif (inB x22 (lenL x20)) then
    bif (ltI (nth x20 x22 0) 0) then
     some ([], [], 20)
    else
     bif (leI x17 (nth x20 x22 0)) then
      some ([], [], 20)
     else
      bif (inB (nth x20 x22 0) (lenL x23)) then
       self x17 x18 x19 x20 x21 (addI .i64 x22 1) (List.set x23 (Int.toNat (nth x20 x22 0)) true)
      else none
   else none
  else
   o3_1 x18 x19 x23
def Za.l2 (o3_1 : D13e → D13a → D13c → Option D13w) : Nat → Int → D13e → D13a → D13a → Int → Int → D13c → Option D13w
  | 0 => fun _ _ _ _ _ _ _ => none
  | n + 1 => Za.S2 o3_1 (Za.l2 o3_1 n)
def Za.S1 (j2 : Int → D13e → D13a → D13a → Int → Int → D13c → Option D13w) (x10 : ByteArray) (x11 x12 x13 : Int) (x14 : D13e) : Option D13w :=
  bif (inC x13 (lenS x10) (lenS x10)) then
   ((Zwa [(subI .i64 x12 1)])).bind fun x15 =>
   ((Zva (cutS x10 x13 (lenS x10)) x11 x15)).bind fun x16 =>
   bif (neI x16.2 0) then
    some ([], [], 20)
   else
    bif ((leI 0 x12) && (roomB (Int.toNat x12) 1)) then
     j2 x12 x14 x16.1 x16.1 (lenL x16.1) 0 (List.replicate (Int.toNat x12) false)
    else none
  else none
def Za.t1 : Nat → ByteArray → Int → Int → Int → D13e → Option D13w
  | 0 => fun _ _ _ _ _ => none
  | n + 1 => Za.S1 (Za.l2 (Za.t3 n) n)
def Za.S0 (o1_0 : ByteArray → Int → Int → Int → D13e → Option D13w) (self : ByteArray → Int → Int → Int → D13e → Int → Int → Option D13w) (x2 : ByteArray) (x3 x4 x5 : Int) (x6 : D13e) (x7 x8 : Int) : Option D13w :=
  bif (ltI x8 x7) then
   bif (inC x5 (lenS x2) (lenS x2)) then
    ((Zok (cutS x2 x5 (lenS x2)))).bind fun x9 =>
    bif (eqI x9.2 0) then
     some ([], [], 20)
    else
     bif (ltI 0 x8) then
      bif (inB (subI .i64 x8 1) (lenL x6)) then
       bif ((ltS x9.1 (nth x6 (subI .i64 x8 1) eB)) || (eqS x9.1 (nth x6 (subI .i64 x8 1) eB))) then
        some ([], [], 20)
       else
        bif (roomB ((List.length x6) + 1) 16) then
         self x2 x3 x4 (addI .i64 x5 x9.2) (x6 ++ [x9.1]) x7 (addI .i64 x8 1)
        else none
      else none
     else
      bif (roomB ((List.length x6) + 1) 16) then
       self x2 x3 x4 (addI .i64 x5 x9.2) (x6 ++ [x9.1]) x7 (addI .i64 x8 1)
      else none
   else none
  else
   o1_0 x2 x3 x4 x5 x6
def Za.l0 (o1_0 : ByteArray → Int → Int → Int → D13e → Option D13w) : Nat → ByteArray → Int → Int → Int → D13e → Int → Int → Option D13w
  | 0 => fun _ _ _ _ _ _ _ => none
  | n + 1 => Za.S0 o1_0 (Za.l0 o1_0 n)
def Za.S (j0 : ByteArray → Int → Int → Int → D13e → Int → Int → Option D13w) (s : ByteArray) (xn : Int) : Option D13w :=
  bif (ltI xn 0) then
   some ([], [], 1)
  else
   bif (ltI 65536 xn) then
    some ([], [], 1)
   else
    bif (eqI xn 0) then
     bif (!(eqS s eB)) then
      some ([], [], 20)
     else
      some ([], [], 0)
    else
     ((Zbc s)).bind fun x1 =>
     bif (neI x1.2.2 0) then
      some ([], [], 20)
     else
      bif (ltI x1.1 1) then
       some ([], [], 20)
      else
       bif (ltI xn x1.1) then
        some ([], [], 20)
       else
        j0 s xn x1.1 x1.2.1 [] x1.1 0
def Za (s : ByteArray) (xn : Int) : Option D13w := Za.S (Za.l0 (Za.t1 fu) fu) s xn
def Zcq (s : ByteArray) (xn : Int) : Option D13w :=
  ((Za s xn)).bind fun x1 =>
  some x1
def Zeb.S0 (self : D13e → D13e → D13a → Int → Int → Option (D13e)) (x1 x2 : D13e) (x3 : D13a) (x4 x5 : Int) : Option (D13e) :=
  bif (ltI x5 x4) then
   bif (inB x5 (lenL x3)) then
    bif (inB (nth x3 x5 0) (lenL x1)) then
     bif (roomB ((List.length x2) + 1) 16) then
      self x1 (x2 ++ [(nth x1 (nth x3 x5 0) eB)]) x3 x4 (addI .i64 x5 1)
     else none
    else none
   else none
  else
   some x2
def Zeb.l0 : Nat → D13e → D13e → D13a → Int → Int → Option (D13e)
  | 0 => fun _ _ _ _ _ => none
  | n + 1 => Zeb.S0 (Zeb.l0 n)
def Zeb.S (j0 : D13e → D13e → D13a → Int → Int → Option (D13e)) (d : D13e) (places : D13a) : Option (D13e) :=
  j0 d [] places (lenL places) 0
def Zeb (d : D13e) (places : D13a) : Option (D13e) := Zeb.S (Zeb.l0 fu) d places
def Zjj (s : ByteArray) (xn : Int) : Option D13l :=
  ((Zcq s xn)).bind fun x1 =>
  bif (neI x1.2.2 0) then
   some ([], x1.2.2)
  else
   ((Zeb x1.1 x1.2.1)).bind fun x2 =>
   some (x2, 0)
def Zyj (s : ByteArray) (xn code : Int) : Option D13l :=
  bif (eqI code 1) then
   ((Zda s xn)).bind fun x1 =>
   some x1
  else
   bif (eqI code 2) then
    ((Zu s xn)).bind fun x2 =>
    some x2
   else
    bif (eqI code 4) then
     ((Zjj s xn)).bind fun x3 =>
     some x3
    else
     some ([], 5)
def Zha.S0 (self : D13u → Int → D13a → Int → Int → D13p → Option D13x) (x2 : D13u) (x3 : Int) (x4 : D13a) (x5 x6 : Int) (x7 : D13p) : Option D13x :=
  bif (ltI x6 x5) then
   bif (inB x6 (lenL x4)) then
    bif (roomB ((List.length x2) + 1) 32) then
     self (x2 ++ [(x7.1, (nth x4 x6 0), eB)]) x3 x4 x5 (addI .i64 x6 1) x7
    else none
   else none
  else
   some (x2, x3)
def Zha.l0 : Nat → D13u → Int → D13a → Int → Int → D13p → Option D13x
  | 0 => fun _ _ _ _ _ _ => none
  | n + 1 => Zha.S0 (Zha.l0 n)
def Zha.S1 (self : D13u → Int → D13e → Int → Int → D13p → Option D13x) (x9 : D13u) (x10 : Int) (x11 : D13e) (x12 x13 : Int) (x14 : D13p) : Option D13x :=
  bif (ltI x13 x12) then
   bif (inB x13 (lenL x11)) then
    bif (roomB ((List.length x9) + 1) 32) then
     self (x9 ++ [(x14.1, 0, (nth x11 x13 eB))]) x10 x11 x12 (addI .i64 x13 1) x14
    else none
   else none
  else
   some (x9, x10)
def Zha.l1 : Nat → D13u → Int → D13e → Int → Int → D13p → Option D13x
  | 0 => fun _ _ _ _ _ _ => none
  | n + 1 => Zha.S1 (Zha.l1 n)
def Zha.S (j0 : D13u → Int → D13a → Int → Int → D13p → Option D13x) (j1 : D13u → Int → D13e → Int → Int → D13p → Option D13x) (s : ByteArray) (xn : Int) (h : D13p) : Option D13x :=
  bif (eqI h.1 1) then
   ((Zul s xn h.2.1)).bind fun x1 =>
   j0 [] x1.2 x1.1 (lenL x1.1) 0 h
  else
   bif (eqI h.1 2) then
    ((Zyj s xn h.2.1)).bind fun x8 =>
    j1 [] x8.2 x8.1 (lenL x8.1) 0 h
   else
    some ([], 5)
def Zha (s : ByteArray) (xn : Int) (h : D13p) : Option D13x := Zha.S (Zha.l0 fu) (Zha.l1 fu) s xn h
def Zm.S0 (self : D13u → Int → Int → Option Int) (x1 : D13u) (x2 x3 : Int) : Option Int :=
  bif (ltI x3 x2) then
   bif (inB x3 (lenL x1)) then
    bif (Zcg (nth x1 x3 (0, 0, eB))) then
     some x3
    else
     self x1 x2 (addI .i64 x3 1)
   else none
  else
   some (-1)
def Zm.l0 : Nat → D13u → Int → Int → Option Int
  | 0 => fun _ _ _ => none
  | n + 1 => Zm.S0 (Zm.l0 n)
def Zm.S (j0 : D13u → Int → Int → Option Int) (s : D13u) : Option Int :=
  j0 s (lenL s) 0
def Zm (s : D13u) : Option Int := Zm.S (Zm.l0 fu) s
def Zec (s : D13u) : Option Bool :=
  ((Zm s)).bind fun x1 =>
  some (leI 0 x1)
def Zlc.S0 (self : D13u → D13a → Int → Int → D13u → Option D13x) (x4 : D13u) (x5 : D13a) (x6 x7 : Int) (x8 : D13u) : Option D13x :=
  bif (ltI x7 x6) then
   bif (inB x7 (lenL x5)) then
    bif (eqI (nth x5 x7 0) 0) then
     bif (inB 0 (lenL x4)) then
      bif (inC 1 (lenL x4) (lenL x4)) then
       bif (inB x7 (lenL x8)) then
        self (List.drop 1 x4) x5 x6 (addI .i64 x7 1) (List.set x8 (Int.toNat x7) (nth x4 0 (0, 0, eB)))
       else none
      else none
     else none
    else
     self x4 x5 x6 (addI .i64 x7 1) x8
   else none
  else
   some (x8, 0)
def Zlc.l0 : Nat → D13u → D13a → Int → Int → D13u → Option D13x
  | 0 => fun _ _ _ _ _ => none
  | n + 1 => Zlc.S0 (Zlc.l0 n)
def Zlc.S (j0 : D13u → D13a → Int → Int → D13u → Option D13x) (s : ByteArray) (xn : Int) (l : D13u) : Option D13x :=
  ((Zsl s xn)).bind fun x1 =>
  bif (neI x1.2 0) then
   some ([], x1.2)
  else
   ((Zwb s xn)).bind fun x2 =>
   bif (neI (lenL l) (subI .i64 xn x2.1)) then
    some ([], 20)
   else
    ((Zec l)).bind fun x3 =>
    bif x3 then
     some ([], 20)
    else
     bif ((leI 0 xn) && (roomB (Int.toNat xn) 32)) then
      j0 l x1.1 (lenL (List.replicate (Int.toNat xn) ((0 : Int), ((0 : Int), eB)))) 0 (List.replicate (Int.toNat xn) ((0 : Int), ((0 : Int), eB)))
     else none
def Zlc (s : ByteArray) (xn : Int) (l : D13u) : Option D13x := Zlc.S (Zlc.l0 fu) s xn l
def Ztf (s : ByteArray) : Option ((D13p × (ByteArray × D13z)) × Bool) :=
  ((Zsh s)).bind fun x1 =>
  bif (neI x1.2 0) then
   some (((0, 0, 0, 0), eB, eB, []), false)
  else
   bif (ltI (lenS x1.1) 4) then
    some (((0, 0, 0, 0), eB, eB, []), false)
   else
    bif (inB 3 (lenS x1.1)) then
     bif (ltI (subI .i64 (lenS x1.1) 4) (IntKind.wrap .i64 (byteAt x1.1 3))) then
      some (((0, 0, 0, 0), eB, eB, []), false)
     else
      bif (inB 3 (lenS x1.1)) then
       bif (inB 0 (lenS x1.1)) then
        bif (inB 1 (lenS x1.1)) then
         bif (inB 2 (lenS x1.1)) then
          bif (inC 4 (addI .i64 4 (IntKind.wrap .i64 (byteAt x1.1 3))) (lenS x1.1)) then
           bif (inC (addI .i64 4 (IntKind.wrap .i64 (byteAt x1.1 3))) (lenS x1.1) (lenS x1.1)) then
            ((Zwb (cutS x1.1 4 (addI .i64 4 (IntKind.wrap .i64 (byteAt x1.1 3)))) (IntKind.wrap .i64 (byteAt x1.1 2)))).bind fun x2 =>
            bif (neI x2.2 0) then
             some ((((IntKind.wrap .i64 (byteAt x1.1 0)), (IntKind.wrap .i64 (byteAt x1.1 1)), (IntKind.wrap .i64 (byteAt x1.1 2)), x2.1), (cutS x1.1 4 (addI .i64 4 (IntKind.wrap .i64 (byteAt x1.1 3)))), (cutS x1.1 (addI .i64 4 (IntKind.wrap .i64 (byteAt x1.1 3))) (lenS x1.1)), []), false)
            else
             ((Zha (cutS x1.1 (addI .i64 4 (IntKind.wrap .i64 (byteAt x1.1 3))) (lenS x1.1)) (subI .i64 (IntKind.wrap .i64 (byteAt x1.1 2)) x2.1) ((IntKind.wrap .i64 (byteAt x1.1 0)), (IntKind.wrap .i64 (byteAt x1.1 1)), (IntKind.wrap .i64 (byteAt x1.1 2)), x2.1))).bind fun x3 =>
             bif (neI x3.2 0) then
              some ((((IntKind.wrap .i64 (byteAt x1.1 0)), (IntKind.wrap .i64 (byteAt x1.1 1)), (IntKind.wrap .i64 (byteAt x1.1 2)), x2.1), (cutS x1.1 4 (addI .i64 4 (IntKind.wrap .i64 (byteAt x1.1 3)))), (cutS x1.1 (addI .i64 4 (IntKind.wrap .i64 (byteAt x1.1 3))) (lenS x1.1)), []), false)
             else
              ((Zlc (cutS x1.1 4 (addI .i64 4 (IntKind.wrap .i64 (byteAt x1.1 3)))) (IntKind.wrap .i64 (byteAt x1.1 2)) x3.1)).bind fun x4 =>
              bif (neI x4.2 0) then
               some ((((IntKind.wrap .i64 (byteAt x1.1 0)), (IntKind.wrap .i64 (byteAt x1.1 1)), (IntKind.wrap .i64 (byteAt x1.1 2)), x2.1), (cutS x1.1 4 (addI .i64 4 (IntKind.wrap .i64 (byteAt x1.1 3)))), (cutS x1.1 (addI .i64 4 (IntKind.wrap .i64 (byteAt x1.1 3))) (lenS x1.1)), x4.1), false)
              else
               ((Zqe x4.1 (IntKind.wrap .i64 (byteAt x1.1 0)) (IntKind.wrap .i64 (byteAt x1.1 1)))).bind fun x5 =>
               bif (eqI x5.2 0) then
                some ((((IntKind.wrap .i64 (byteAt x1.1 0)), (IntKind.wrap .i64 (byteAt x1.1 1)), (IntKind.wrap .i64 (byteAt x1.1 2)), x2.1), (cutS x1.1 4 (addI .i64 4 (IntKind.wrap .i64 (byteAt x1.1 3)))), (cutS x1.1 (addI .i64 4 (IntKind.wrap .i64 (byteAt x1.1 3))) (lenS x1.1)), x4.1), (eqS x5.1 s))
               else
                some ((((IntKind.wrap .i64 (byteAt x1.1 0)), (IntKind.wrap .i64 (byteAt x1.1 1)), (IntKind.wrap .i64 (byteAt x1.1 2)), x2.1), (cutS x1.1 4 (addI .i64 4 (IntKind.wrap .i64 (byteAt x1.1 3)))), (cutS x1.1 (addI .i64 4 (IntKind.wrap .i64 (byteAt x1.1 3))) (lenS x1.1)), x4.1), false)
           else none
          else none
         else none
        else none
       else none
      else none
    else none
def Zth (s : ByteArray) : Option D13x :=
  ((Ztf s)).bind fun x1 =>
  bif (!x1.2) then
   some ([], 5)
  else
   some (x1.1.2.2.2, 0)
def Zuh (s : ByteArray) : Option (D13p × Int) :=
  ((Ztf s)).bind fun x1 =>
  bif (!x1.2) then
   some ((0, 0, 0, 0), 5)
  else
   some (x1.1.1, 0)
def Zye.S0 (self : D13u → D13u → Int → Option Bool) (x1 x2 : D13u) (x3 : Int) : Option Bool :=
  bif (ltI x3 (lenL x1)) then
   bif (inB x3 (lenL x1)) then
    bif (inB x3 (lenL x2)) then
     bif (!((eqI (nth x1 x3 (0, 0, eB)).1 (nth x2 x3 (0, 0, eB)).1) && ((eqI (nth x1 x3 (0, 0, eB)).2.1 (nth x2 x3 (0, 0, eB)).2.1) && (eqS (nth x1 x3 (0, 0, eB)).2.2 (nth x2 x3 (0, 0, eB)).2.2)))) then
      some false
     else
      self x1 x2 (addI .i64 x3 1)
    else none
   else none
  else
   some true
def Zye.l0 : Nat → D13u → D13u → Int → Option Bool
  | 0 => fun _ _ _ => none
  | n + 1 => Zye.S0 (Zye.l0 n)
def Zye.S (j0 : D13u → D13u → Int → Option Bool) (a b : D13u) : Option Bool :=
  bif (neI (lenL a) (lenL b)) then
   some false
  else
   j0 a b 0
def Zye (a b : D13u) : Option Bool := Zye.S (Zye.l0 fu) a b
def Zzj : Option Bool :=
  ((Zqe [(Zjn 7), (0, 0, eB), (Zjn 7)] 1 2)).bind fun x3 =>
  ((Zth x3.1)).bind fun x4 =>
  ((Zuh x3.1)).bind fun x5 =>
  bif (eqI x3.2 0) then
   bif (eqI (lenS x3.1) 11) then
    ((Zye x4.1 [(Zjn 7), (0, 0, eB), (Zjn 7)])).bind fun x6 =>
    bif x6 then
     bif (eqI x4.2 0) then
      bif ((eqI x5.1.1 1) && ((eqI x5.1.2.1 2) && ((eqI x5.1.2.2.1 3) && (eqI x5.1.2.2.2 1)))) then
       some (eqI x5.2 0)
      else
       some false
     else
      some false
    else
     some false
   else
    some false
  else
   some false
def Zdb.S1 (self : D13u → Int → Int → Option Bool) (x3 : D13u) (x4 x5 : Int) : Option Bool :=
  bif (ltI x5 (lenL x3)) then
   bif (inB x5 (lenL x3)) then
    bif (!(Zyc (nth x3 x5 (0, 0, eB)))) then
     some false
    else
     bif (inB x5 (lenL x3)) then
      bif (neI (nth x3 x5 (0, 0, eB)).1 0) then
       bif (inB x5 (lenL x3)) then
        bif (neI (nth x3 x5 (0, 0, eB)).1 x4) then
         some false
        else
         self x3 x4 (addI .i64 x5 1)
       else none
      else
       self x3 x4 (addI .i64 x5 1)
     else none
   else none
  else
   some true
def Zdb.l1 : Nat → D13u → Int → Int → Option Bool
  | 0 => fun _ _ _ => none
  | n + 1 => Zdb.S1 (Zdb.l1 n)
def Zdb.S0 (j1 : D13u → Int → Int → Option Bool) (x1 : D13u) (x2 : Int) : Option Bool :=
  j1 x1 x2 0
def Zdb.t0 : Nat → D13u → Int → Option Bool
  | 0 => fun _ _ => none
  | n + 1 => Zdb.S0 (Zdb.l1 n)
def Zdb.S (j0 : D13u → Int → Option Bool) (l : D13u) (kind : Int) : Option Bool :=
  bif (ltI (lenL l) 1) then
   some false
  else
   bif (ltI 64 (lenL l)) then
    some false
   else
    bif (neI kind 1) then
     bif (neI kind 2) then
      some false
     else
      j0 l kind
    else
     j0 l kind
def Zdb (l : D13u) (kind : Int) : Option Bool := Zdb.S (Zdb.t0 fu) l kind
def Zzc.S0 (self : Int → D13c → Option Int) (x2 : Int) (x3 : D13c) : Option Int :=
  bif (leI 0 x2) then
   bif ((inB x2 64) && (decide (64 = (List.length x3)))) then
    bif (List.getD x3 (Int.toNat x2) false) then
     some (addI .i64 x2 1)
    else
     self (subI .i64 x2 1) x3
   else none
  else
   some 0
def Zzc.l0 : Nat → Int → D13c → Option Int
  | 0 => fun _ _ => none
  | n + 1 => Zzc.S0 (Zzc.l0 n)
def Zzc.S (j0 : Int → D13c → Option Int) (word : Int) : Option Int :=
  ((Znd word)).bind fun x1 =>
  j0 63 x1
def Zzc (word : Int) : Option Int := Zzc.S (Zzc.l0 fu) word
def Zsc.S0 (self : D13a → Int → Int → Option Int) (x1 : D13a) (x2 x3 : Int) : Option Int :=
  bif (ltI x3 (lenL x1)) then
   bif (inB x3 (lenL x1)) then
    ((Zzc (nth x1 x3 0))).bind fun x4 =>
    self x1 (maxI x2 x4) (addI .i64 x3 1)
   else none
  else
   some x2
def Zsc.l0 : Nat → D13a → Int → Int → Option Int
  | 0 => fun _ _ _ => none
  | n + 1 => Zsc.S0 (Zsc.l0 n)
def Zsc.S (j0 : D13a → Int → Int → Option Int) (l : D13a) : Option Int :=
  j0 l 0 0
def Zsc (l : D13a) : Option Int := Zsc.S (Zsc.l0 fu) l
def Zdq (xn width : Int) : Int :=
  bif (ltI xn 1) then
   0
  else
   bif (ltI 65536 xn) then
    0
   else
    bif (ltI width 1) then
     0
    else
     bif (ltI 64 width) then
      0
     else
      (quoI .i64 (addI .i64 (mulI .i64 xn width) 7) 8)
def Zhb.S1 (o0_1 : D13a → Int → Int → D13a → Option D13g) (self : D13a → Int → Int → Int → D13a → Option D13g) (x7 : D13a) (x8 x9 x10 : Int) (x11 : D13a) : Option D13g :=
  bif (ltI x10 x8) then
   bif (inB x9 (lenL x7)) then
    bif (leI 0 x10) then
     bif (eqI (andI .i64 (shrI .i64 (nth x7 x9 0) x10) 1) 1) then
      bif (inB (quoI .i64 (addI .i64 (mulI .i64 x9 x8) x10) 8) (lenL x11)) then
       bif (leI 0 (remI (addI .i64 (mulI .i64 x9 x8) x10) 8)) then
        bif (inB (quoI .i64 (addI .i64 (mulI .i64 x9 x8) x10) 8) (lenL x11)) then
         self x7 x8 x9 (addI .i64 x10 1) (List.set x11 (Int.toNat (quoI .i64 (addI .i64 (mulI .i64 x9 x8) x10) 8)) (orI .u8 (List.getD x11 (Int.toNat (quoI .i64 (addI .i64 (mulI .i64 x9 x8) x10) 8)) 0) (shlI .u8 1 (remI (addI .i64 (mulI .i64 x9 x8) x10) 8))))
        else none
       else none
      else none
     else
      self x7 x8 x9 (addI .i64 x10 1) x11
    else none
   else none
  else
   o0_1 x7 x8 (addI .i64 x9 1) x11
def Zhb.l1 (o0_1 : D13a → Int → Int → D13a → Option D13g) : Nat → D13a → Int → Int → Int → D13a → Option D13g
  | 0 => fun _ _ _ _ _ => none
  | n + 1 => Zhb.S1 o0_1 (Zhb.l1 o0_1 n)
def Zhb.S0 (j1 : D13a → Int → Int → Int → D13a → Option D13g) (x3 : D13a) (x4 x5 : Int) (x6 : D13a) : Option D13g :=
  bif (ltI x5 (lenL x3)) then
   j1 x3 x4 x5 0 x6
  else
   some ((ofBytes x6), 0)
def Zhb.l0 : Nat → D13a → Int → Int → D13a → Option D13g
  | 0 => fun _ _ _ _ => none
  | n + 1 => Zhb.S0 (Zhb.l1 (Zhb.l0 n) n)
def Zhb.S (j0 : D13a → Int → Int → D13a → Option D13g) (l : D13a) (width : Int) : Option D13g :=
  bif (ltI width 0) then
   some (eB, 1)
  else
   bif (ltI 64 width) then
    some (eB, 1)
   else
    bif (ltI 65536 (lenL l)) then
     some (eB, 1)
    else
     ((Zsc l)).bind fun x1 =>
     bif (ltI width x1) then
      some (eB, 1)
     else
      let x2 := (Zdq (lenL l) width)
      bif ((leI 0 x2) && (roomB (Int.toNat x2) 1)) then
       j0 l width 0 (List.replicate (Int.toNat x2) (0 : Int))
      else none
def Zhb (l : D13a) (width : Int) : Option D13g := Zhb.S (Zhb.l0 fu) l width
def Znb.S1 (x5 x6 : D13u) (x7 : D13a) : Option D13z :=
  bif (eqI (lenL x6) (lenL x5)) then
   some (eB, x6)
  else
   ((Zhb x7 1)).bind fun x8 =>
   some (x8.1, x6)
def Znb.t1 : Nat → D13u → D13u → D13a → Option D13z
  | 0 => fun _ _ _ => none
  | _ + 1 => Znb.S1
def Znb.S0 (o1_0 : D13u → D13u → D13a → Option D13z) (self : D13u → D13u → D13a → Int → Option D13z) (x1 x2 : D13u) (x3 : D13a) (x4 : Int) : Option D13z :=
  bif (ltI x4 (lenL x1)) then
   bif (inB x4 (lenL x1)) then
    bif (eqI (nth x1 x4 (0, 0, eB)).1 0) then
     bif (roomB ((List.length x3) + 1) 8) then
      self x1 x2 (x3 ++ [1]) (addI .i64 x4 1)
     else none
    else
     bif (roomB ((List.length x3) + 1) 8) then
      bif (inB x4 (lenL x1)) then
       bif (roomB ((List.length x2) + 1) 32) then
        self x1 (x2 ++ [(nth x1 x4 (0, 0, eB))]) (x3 ++ [0]) (addI .i64 x4 1)
       else none
      else none
     else none
   else none
  else
   o1_0 x1 x2 x3
def Znb.l0 (o1_0 : D13u → D13u → D13a → Option D13z) : Nat → D13u → D13u → D13a → Int → Option D13z
  | 0 => fun _ _ _ _ => none
  | n + 1 => Znb.S0 o1_0 (Znb.l0 o1_0 n)
def Znb.S (j0 : D13u → D13u → D13a → Int → Option D13z) (l : D13u) : Option D13z :=
  j0 l [] [] 0
def Znb (l : D13u) : Option D13z := Znb.S (Znb.l0 (Znb.t1 fu) fu) l
def Zxd.S0 (self : D13u → D13a → Int → Option D13d) (x1 : D13u) (x2 : D13a) (x3 : Int) : Option D13d :=
  bif (ltI x3 (lenL x1)) then
   bif (inB x3 (lenL x1)) then
    bif (roomB ((List.length x2) + 1) 8) then
     self x1 (x2 ++ [(nth x1 x3 (0, 0, eB)).2.1]) (addI .i64 x3 1)
    else none
   else none
  else
   some x2
def Zxd.l0 : Nat → D13u → D13a → Int → Option D13d
  | 0 => fun _ _ _ => none
  | n + 1 => Zxd.S0 (Zxd.l0 n)
def Zxd.S (j0 : D13u → D13a → Int → Option D13d) (l : D13u) : Option D13d :=
  j0 l [] 0
def Zxd (l : D13u) : Option D13d := Zxd.S (Zxd.l0 fu) l
def Zra.S1 (o0_1 : D13a → D13a → Int → Option ByteArray) (self : D13a → D13a → Int → Int → Option ByteArray) (x4 x5 : D13a) (x6 x7 : Int) : Option ByteArray :=
  bif (ltI x7 8) then
   bif (inB x6 (lenL x4)) then
    bif (leI 0 (mulI .i64 8 x7)) then
     bif (roomB ((List.length x5) + 1) 1) then
      self x4 (x5 ++ [(IntKind.wrap .u8 (andI .i64 (shrI .i64 (nth x4 x6 0) (mulI .i64 8 x7)) 255))]) x6 (addI .i64 x7 1)
     else none
    else none
   else none
  else
   o0_1 x4 x5 (addI .i64 x6 1)
def Zra.l1 (o0_1 : D13a → D13a → Int → Option ByteArray) : Nat → D13a → D13a → Int → Int → Option ByteArray
  | 0 => fun _ _ _ _ => none
  | n + 1 => Zra.S1 o0_1 (Zra.l1 o0_1 n)
def Zra.S0 (j1 : D13a → D13a → Int → Int → Option ByteArray) (x1 x2 : D13a) (x3 : Int) : Option ByteArray :=
  bif (ltI x3 (lenL x1)) then
   j1 x1 x2 x3 0
  else
   some (ofBytes x2)
def Zra.l0 : Nat → D13a → D13a → Int → Option ByteArray
  | 0 => fun _ _ _ => none
  | n + 1 => Zra.S0 (Zra.l1 (Zra.l0 n) n)
def Zra.S (j0 : D13a → D13a → Int → Option ByteArray) (l : D13a) : Option ByteArray :=
  j0 l [] 0
def Zra (l : D13a) : Option ByteArray := Zra.S (Zra.l0 fu) l
def Zfe.S0 (self : D13a → Int → D13o → Option D13q) (x1 : D13a) (x2 : Int) (x3 : D13o) : Option D13q :=
  bif (ltI x2 (lenL x1)) then
   bif (leI (lenL x1) 65536) then
    bif (ltI 0 x2) then
     bif (inB x2 (lenL x1)) then
      bif (inB (subI .i64 x2 1) (lenL x1)) then
       bif (eqI (nth x1 x2 0) (nth x1 (subI .i64 x2 1) 0)) then
        bif (inB (subI .i64 (lenL x3) 1) (lenL x3)) then
         bif (inB (subI .i64 (lenL x3) 1) (lenL x3)) then
          self x1 (addI .i64 x2 1) (List.set x3 (Int.toNat (subI .i64 (lenL x3) 1)) ((List.getD x3 (Int.toNat (subI .i64 (lenL x3) 1)) (0, 0, 0)).1, (List.getD x3 (Int.toNat (subI .i64 (lenL x3) 1)) (0, 0, 0)).2.1, (addI .i64 (List.getD x3 (Int.toNat (subI .i64 (lenL x3) 1)) (0, 0, 0)).2.2 1)))
         else none
        else none
       else
        bif (inB x2 (lenL x1)) then
         bif (roomB ((List.length x3) + 1) 24) then
          self x1 (addI .i64 x2 1) (x3 ++ [((nth x1 x2 0), x2, 1)])
         else none
        else none
      else none
     else none
    else
     bif (inB x2 (lenL x1)) then
      bif (roomB ((List.length x3) + 1) 24) then
       self x1 (addI .i64 x2 1) (x3 ++ [((nth x1 x2 0), x2, 1)])
      else none
     else none
   else
    some x3
  else
   some x3
def Zfe.l0 : Nat → D13a → Int → D13o → Option D13q
  | 0 => fun _ _ _ => none
  | n + 1 => Zfe.S0 (Zfe.l0 n)
def Zfe.S (j0 : D13a → Int → D13o → Option D13q) (l : D13a) : Option D13q :=
  j0 l 0 []
def Zfe (l : D13a) : Option D13q := Zfe.S (Zfe.l0 fu) l
def Zge.S0 (self : D13o → Int → Int → Option Bool) (x1 : D13o) (x2 x3 : Int) : Option Bool :=
  bif (ltI x3 (lenL x1)) then
   bif (inB x3 (lenL x1)) then
    bif (neI (nth x1 x3 (0, 0, 0)).2.1 x2) then
     some false
    else
     bif (inB x3 (lenL x1)) then
      bif (ltI (nth x1 x3 (0, 0, 0)).2.2 1) then
       some false
      else
       bif (inB x3 (lenL x1)) then
        bif (ltI (subI .i64 65536 x2) (nth x1 x3 (0, 0, 0)).2.2) then
         some false
        else
         bif (ltI 0 x3) then
          bif (inB x3 (lenL x1)) then
           bif (inB (subI .i64 x3 1) (lenL x1)) then
            bif (eqI (nth x1 x3 (0, 0, 0)).1 (nth x1 (subI .i64 x3 1) (0, 0, 0)).1) then
             some false
            else
             bif (inB x3 (lenL x1)) then
              self x1 (addI .i64 x2 (nth x1 x3 (0, 0, 0)).2.2) (addI .i64 x3 1)
             else none
           else none
          else none
         else
          bif (inB x3 (lenL x1)) then
           self x1 (addI .i64 x2 (nth x1 x3 (0, 0, 0)).2.2) (addI .i64 x3 1)
          else none
       else none
     else none
   else none
  else
   some true
def Zge.l0 : Nat → D13o → Int → Int → Option Bool
  | 0 => fun _ _ _ => none
  | n + 1 => Zge.S0 (Zge.l0 n)
def Zge.S (j0 : D13o → Int → Int → Option Bool) (l : D13o) : Option Bool :=
  j0 l 0 0
def Zge (l : D13o) : Option Bool := Zge.S (Zge.l0 fu) l
def Zmd.S0 (self : D13o → ByteArray → Int → Option D13g) (x2 : D13o) (x3 : ByteArray) (x4 : Int) : Option D13g :=
  bif (ltI x4 (lenL x2)) then
   bif (inB x4 (lenL x2)) then
    ((Zjc (nth x2 x4 (0, 0, 0)).1)).bind fun x5 =>
    bif (roomS x3 x5) then
     bif (inB x4 (lenL x2)) then
      ((Zjc (nth x2 x4 (0, 0, 0)).2.2)).bind fun x6 =>
      bif (roomS (addS x3 x5) x6) then
       self x2 (addS (addS x3 x5) x6) (addI .i64 x4 1)
      else none
     else none
    else none
   else none
  else
   some (x3, 0)
def Zmd.l0 : Nat → D13o → ByteArray → Int → Option D13g
  | 0 => fun _ _ _ => none
  | n + 1 => Zmd.S0 (Zmd.l0 n)
def Zmd.S (j0 : D13o → ByteArray → Int → Option D13g) (l : D13o) : Option D13g :=
  ((Zge l)).bind fun x1 =>
  bif (!x1) then
   some (eB, 1)
  else
   j0 l eB 0
def Zmd (l : D13o) : Option D13g := Zmd.S (Zmd.l0 fu) l
def Zpd.S0 (self : D13a → D13a → Int → Option D13d) (x1 x2 : D13a) (x3 : Int) : Option D13d :=
  bif (ltI x3 (lenL x1)) then
   bif (inB x3 (lenL x1)) then
    bif (inB (subI .i64 x3 1) (lenL x1)) then
     bif (roomB ((List.length x2) + 1) 8) then
      self x1 (x2 ++ [(subI .i64 (nth x1 x3 0) (nth x1 (subI .i64 x3 1) 0))]) (addI .i64 x3 1)
     else none
    else none
   else none
  else
   some x2
def Zpd.l0 : Nat → D13a → D13a → Int → Option D13d
  | 0 => fun _ _ _ => none
  | n + 1 => Zpd.S0 (Zpd.l0 n)
def Zpd.S (j0 : D13a → D13a → Int → Option D13d) (l : D13a) : Option D13d :=
  j0 l [] 1
def Zpd (l : D13a) : Option D13d := Zpd.S (Zpd.l0 fu) l
def Ztc.S0 (self : D13a → Int → Int → Option Int) (x1 : D13a) (x2 x3 : Int) : Option Int :=
  bif (ltI x3 (lenL x1)) then
   bif (inB x3 (lenL x1)) then
    self x1 (minI x2 (nth x1 x3 0)) (addI .i64 x3 1)
   else none
  else
   some x2
def Ztc.l0 : Nat → D13a → Int → Int → Option Int
  | 0 => fun _ _ _ => none
  | n + 1 => Ztc.S0 (Ztc.l0 n)
def Ztc.S (j0 : D13a → Int → Int → Option Int) (l : D13a) : Option Int :=
  bif (inB 0 (lenL l)) then
   j0 l (nth l 0 0) 1
  else none
def Ztc (l : D13a) : Option Int := Ztc.S (Ztc.l0 fu) l
def Zub.S1 (x9 : ByteArray) (x10 : Int) (x11 : D13a) : Option D13g :=
  ((Zsc x11)).bind fun x12 =>
  ((Zhb x11 x12)).bind fun x13 =>
  ((Zjc x10)).bind fun x14 =>
  bif (roomS x9 x14) then
   bif (roomS (addS x9 x14) (ofBytes [(IntKind.wrap .u8 x12)])) then
    bif (roomS (addS (addS x9 x14) (ofBytes [(IntKind.wrap .u8 x12)])) x13.1) then
     some ((addS (addS (addS x9 x14) (ofBytes [(IntKind.wrap .u8 x12)])) x13.1), 0)
    else none
   else none
  else none
def Zub.t1 : Nat → ByteArray → Int → D13a → Option D13g
  | 0 => fun _ _ _ => none
  | _ + 1 => Zub.S1
def Zub.S0 (o1_0 : ByteArray → Int → D13a → Option D13g) (self : ByteArray → D13a → Int → D13a → Int → Option D13g) (x4 : ByteArray) (x5 : D13a) (x6 : Int) (x7 : D13a) (x8 : Int) : Option D13g :=
  bif (ltI x8 (lenL x5)) then
   bif (inB x8 (lenL x5)) then
    bif (roomB ((List.length x7) + 1) 8) then
     self x4 x5 x6 (x7 ++ [(subI .i64 (nth x5 x8 0) x6)]) (addI .i64 x8 1)
    else none
   else none
  else
   o1_0 x4 x6 x7
def Zub.l0 (o1_0 : ByteArray → Int → D13a → Option D13g) : Nat → ByteArray → D13a → Int → D13a → Int → Option D13g
  | 0 => fun _ _ _ _ _ => none
  | n + 1 => Zub.S0 o1_0 (Zub.l0 o1_0 n)
def Zub.S (j0 : ByteArray → D13a → Int → D13a → Int → Option D13g) (l : D13a) : Option D13g :=
  bif (ltI 65536 (lenL l)) then
   some (eB, 1)
  else
   bif (eqI (lenL l) 0) then
    some (eB, 0)
   else
    bif (inB 0 (lenL l)) then
     ((Zjc (nth l 0 0))).bind fun x1 =>
     bif (eqI (lenL l) 1) then
      some (x1, 0)
     else
      ((Zpd l)).bind fun x2 =>
      ((Ztc x2)).bind fun x3 =>
      j0 x1 x2 x3 [] 0
    else none
def Zub (l : D13a) : Option D13g := Zub.S (Zub.l0 (Zub.t1 fu) fu) l
def Zq.S6 (o5_2 : D13a → D13a → D13a → Int → Option D13n) (self : D13a → D13a → D13a → Int → Int → Option D13n) (x27 x28 x29 : D13a) (x30 x31 : Int) : Option D13n :=
  bif (inB x31 (lenL x28)) then
   bif (inB x30 (lenL x27)) then
    bif (neI (nth x28 x31 0) (nth x27 x30 0)) then
     self x27 x28 x29 x30 (addI .i64 x31 1)
    else
     bif (roomB ((List.length x29) + 1) 8) then
      o5_2 x27 x28 (x29 ++ [x31]) (addI .i64 x30 1)
     else none
   else none
  else none
def Zq.l6 (o5_2 : D13a → D13a → D13a → Int → Option D13n) : Nat → D13a → D13a → D13a → Int → Int → Option D13n
  | 0 => fun _ _ _ _ _ => none
  | n + 1 => Zq.S6 o5_2 (Zq.l6 o5_2 n)
def Zq.S5 (j6 : D13a → D13a → D13a → Int → Int → Option D13n) (x23 x24 x25 : D13a) (x26 : Int) : Option D13n :=
  bif (ltI x26 (lenL x23)) then
   j6 x23 x24 x25 x26 0
  else
   some (x24, x25)
def Zq.l5 : Nat → D13a → D13a → D13a → Int → Option D13n
  | 0 => fun _ _ _ _ => none
  | n + 1 => Zq.S5 (Zq.l6 (Zq.l5 n) n)
def Zq.S4 (j5 : D13a → D13a → D13a → Int → Option D13n) (x20 x21 x22 : D13a) : Option D13n :=
  j5 x20 x21 x22 0
def Zq.t4 : Nat → D13a → D13a → D13a → Option D13n
  | 0 => fun _ _ _ => none
  | n + 1 => Zq.S4 (Zq.l5 n)
def Zq.S3 (o0_1 : D13a → D13a → D13a → Int → Option D13n) (x15 x16 x17 : D13a) (x18 x19 : Int) : Option D13n :=
  bif (inC 0 x19 (lenL x16)) then
   bif (roomB (0 + (List.length (List.take (Int.toNat x19) x16))) 8) then
    bif (inB x18 (lenL x15)) then
     bif (roomB ((List.length (List.take (Int.toNat x19) x16)) + 1) 8) then
      bif (inC x19 (lenL x16) (lenL x16)) then
       bif (roomB ((List.length ((List.take (Int.toNat x19) x16) ++ [(nth x15 x18 0)])) + (List.length (List.drop (Int.toNat x19) x16))) 8) then
        o0_1 x15 (((List.take (Int.toNat x19) x16) ++ [(nth x15 x18 0)]) ++ (List.drop (Int.toNat x19) x16)) x17 (addI .i64 x18 1)
       else none
      else none
     else none
    else none
   else none
  else none
def Zq.t3 (o0_1 : D13a → D13a → D13a → Int → Option D13n) : Nat → D13a → D13a → D13a → Int → Int → Option D13n
  | 0 => fun _ _ _ _ _ => none
  | _ + 1 => Zq.S3 o0_1
def Zq.S2 (o0_1 : D13a → D13a → D13a → Int → Option D13n) (j3 : D13a → D13a → D13a → Int → Int → Option D13n) (x10 x11 x12 : D13a) (x13 x14 : Int) : Option D13n :=
  bif (ltI x14 (lenL x11)) then
   bif (inB x14 (lenL x11)) then
    bif (inB x13 (lenL x10)) then
     bif (eqI (nth x11 x14 0) (nth x10 x13 0)) then
      o0_1 x10 x11 x12 (addI .i64 x13 1)
     else
      j3 x10 x11 x12 x13 x14
    else none
   else none
  else
   j3 x10 x11 x12 x13 x14
def Zq.t2 (o0_1 : D13a → D13a → D13a → Int → Option D13n) : Nat → D13a → D13a → D13a → Int → Int → Option D13n
  | 0 => fun _ _ _ _ _ => none
  | n + 1 => Zq.S2 o0_1 (Zq.t3 o0_1 n)
def Zq.S1 (o2_1 self : D13a → D13a → D13a → Int → Int → Option D13n) (x5 x6 x7 : D13a) (x8 x9 : Int) : Option D13n :=
  bif (ltI x9 (lenL x6)) then
   bif (inB x9 (lenL x6)) then
    bif (inB x8 (lenL x5)) then
     bif (ltI (nth x6 x9 0) (nth x5 x8 0)) then
      self x5 x6 x7 x8 (addI .i64 x9 1)
     else
      o2_1 x5 x6 x7 x8 x9
    else none
   else none
  else
   o2_1 x5 x6 x7 x8 x9
def Zq.l1 (o2_1 : D13a → D13a → D13a → Int → Int → Option D13n) : Nat → D13a → D13a → D13a → Int → Int → Option D13n
  | 0 => fun _ _ _ _ _ => none
  | n + 1 => Zq.S1 o2_1 (Zq.l1 o2_1 n)
def Zq.S0 (o4_0 : D13a → D13a → D13a → Option D13n) (j1 : D13a → D13a → D13a → Int → Int → Option D13n) (x1 x2 x3 : D13a) (x4 : Int) : Option D13n :=
  bif (ltI x4 (lenL x1)) then
   j1 x1 x2 x3 x4 0
  else
   o4_0 x1 x2 x3
def Zq.l0 (o4_0 : D13a → D13a → D13a → Option D13n) : Nat → D13a → D13a → D13a → Int → Option D13n
  | 0 => fun _ _ _ _ => none
  | n + 1 => Zq.S0 o4_0 (Zq.l1 (Zq.t2 (Zq.l0 o4_0 n) n) n)
def Zq.S (j0 : D13a → D13a → D13a → Int → Option D13n) (l : D13a) : Option D13n :=
  j0 l [] [] 0
def Zq (l : D13a) : Option D13n := Zq.S (Zq.l0 (Zq.t4 fu) fu) l
def Zvl (places : D13a) : Option ByteArray :=
  ((Zsc places)).bind fun x1 =>
  ((Zhb places x1)).bind fun x2 =>
  some x2.1
def Zua.S1 (x8 : D13a) (x9 : ByteArray) : Option D13g :=
  ((Zvl x8)).bind fun x10 =>
  bif (roomS x9 x10) then
   some ((addS x9 x10), 0)
  else none
def Zua.t1 : Nat → D13a → ByteArray → Option D13g
  | 0 => fun _ _ => none
  | _ + 1 => Zua.S1
def Zua.S0 (o1_0 : D13a → ByteArray → Option D13g) (self : D13a → D13a → ByteArray → Int → Option D13g) (x3 x4 : D13a) (x5 : ByteArray) (x6 : Int) : Option D13g :=
  bif (ltI x6 (lenL x3)) then
   bif (inB x6 (lenL x3)) then
    ((Zjc (nth x3 x6 0))).bind fun x7 =>
    bif (roomS x5 x7) then
     self x3 x4 (addS x5 x7) (addI .i64 x6 1)
    else none
   else none
  else
   o1_0 x4 x5
def Zua.l0 (o1_0 : D13a → ByteArray → Option D13g) : Nat → D13a → D13a → ByteArray → Int → Option D13g
  | 0 => fun _ _ _ _ => none
  | n + 1 => Zua.S0 o1_0 (Zua.l0 o1_0 n)
def Zua.S (j0 : D13a → D13a → ByteArray → Int → Option D13g) (l : D13a) : Option D13g :=
  bif (ltI 65536 (lenL l)) then
   some (eB, 1)
  else
   bif (eqI (lenL l) 0) then
    some (eB, 0)
   else
    ((Zq l)).bind fun x1 =>
    ((Zjc (lenL x1.1))).bind fun x2 =>
    j0 x1.1 x1.2 x2 0
def Zua (l : D13a) : Option D13g := Zua.S (Zua.l0 (Zua.t1 fu) fu) l
def Zyn (l : D13a) (code : Int) : Option (ByteArray × Bool) :=
  bif (eqI code 1) then
   ((Zra l)).bind fun x1 =>
   some (x1, true)
  else
   bif (eqI code 2) then
    ((Zfe l)).bind fun x2 =>
    ((Zmd x2)).bind fun x3 =>
    some (x3.1, (eqI x3.2 0))
   else
    bif (eqI code 3) then
     ((Zub l)).bind fun x4 =>
     some (x4.1, (eqI x4.2 0))
    else
     bif (eqI code 4) then
      ((Zua l)).bind fun x5 =>
      some (x5.1, (eqI x5.2 0))
     else
      bif (eqI code 5) then
       ((Zsc l)).bind fun x6 =>
       ((Zhb l x6)).bind fun x7 =>
       bif (roomS (ofBytes [(IntKind.wrap .u8 x6)]) x7.1) then
        some ((addS (ofBytes [(IntKind.wrap .u8 x6)]) x7.1), (eqI x7.2 0))
       else none
      else
       some (eB, false)
def Zqd.S0 (self : D13u → D13e → Int → Option (D13e)) (x1 : D13u) (x2 : D13e) (x3 : Int) : Option (D13e) :=
  bif (ltI x3 (lenL x1)) then
   bif (inB x3 (lenL x1)) then
    bif (roomB ((List.length x2) + 1) 16) then
     self x1 (x2 ++ [(nth x1 x3 (0, 0, eB)).2.2]) (addI .i64 x3 1)
    else none
   else none
  else
   some x2
def Zqd.l0 : Nat → D13u → D13e → Int → Option (D13e)
  | 0 => fun _ _ _ => none
  | n + 1 => Zqd.S0 (Zqd.l0 n)
def Zqd.S (j0 : D13u → D13e → Int → Option (D13e)) (l : D13u) : Option (D13e) :=
  j0 l [] 0
def Zqd (l : D13u) : Option (D13e) := Zqd.S (Zqd.l0 fu) l
def Zcc.S0 (self : D13e → D13a → Int → Option D13g) (x1 : D13e) (x2 : D13a) (x3 : Int) : Option D13g :=
  bif (ltI x3 (lenL x1)) then
   bif (inB x3 (lenL x1)) then
    bif (ltI 32 (lenS (nth x1 x3 eB))) then
     some (eB, 1)
    else
     bif (inB x3 (lenL x1)) then
      bif (roomB ((List.length x2) + 1) 1) then
       bif (inB x3 (lenL x1)) then
        bif (roomB ((List.length (x2 ++ [(IntKind.wrap .u8 (lenS (nth x1 x3 eB)))])) + (ByteArray.size (nth x1 x3 eB))) 1) then
         self x1 ((x2 ++ [(IntKind.wrap .u8 (lenS (nth x1 x3 eB)))]) ++ (Zf (nth x1 x3 eB))) (addI .i64 x3 1)
        else none
       else none
      else none
     else none
   else none
  else
   some ((ofBytes x2), 0)
def Zcc.l0 : Nat → D13e → D13a → Int → Option D13g
  | 0 => fun _ _ _ => none
  | n + 1 => Zcc.S0 (Zcc.l0 n)
def Zcc.S (j0 : D13e → D13a → Int → Option D13g) (l : D13e) : Option D13g :=
  j0 l [] 0
def Zcc (l : D13e) : Option D13g := Zcc.S (Zcc.l0 fu) l
def Zk.S6 (o5_2 : D13e → D13e → D13a → Int → Option D13r) (self : D13e → D13e → D13a → Int → Int → Option D13r) (x27 x28 : D13e) (x29 : D13a) (x30 x31 : Int) : Option D13r :=
  bif (inB x31 (lenL x28)) then
   bif (inB x30 (lenL x27)) then
    bif (!(eqS (nth x28 x31 eB) (nth x27 x30 eB))) then
     self x27 x28 x29 x30 (addI .i64 x31 1)
    else
     bif (roomB ((List.length x29) + 1) 8) then
      o5_2 x27 x28 (x29 ++ [x31]) (addI .i64 x30 1)
     else none
   else none
  else none
def Zk.l6 (o5_2 : D13e → D13e → D13a → Int → Option D13r) : Nat → D13e → D13e → D13a → Int → Int → Option D13r
  | 0 => fun _ _ _ _ _ => none
  | n + 1 => Zk.S6 o5_2 (Zk.l6 o5_2 n)
def Zk.S5 (j6 : D13e → D13e → D13a → Int → Int → Option D13r) (x23 x24 : D13e) (x25 : D13a) (x26 : Int) : Option D13r :=
  bif (ltI x26 (lenL x23)) then
   j6 x23 x24 x25 x26 0
  else
   some (x24, x25)
def Zk.l5 : Nat → D13e → D13e → D13a → Int → Option D13r
  | 0 => fun _ _ _ _ => none
  | n + 1 => Zk.S5 (Zk.l6 (Zk.l5 n) n)
def Zk.S4 (j5 : D13e → D13e → D13a → Int → Option D13r) (x20 x21 : D13e) (x22 : D13a) : Option D13r :=
  j5 x20 x21 x22 0
def Zk.t4 : Nat → D13e → D13e → D13a → Option D13r
  | 0 => fun _ _ _ => none
  | n + 1 => Zk.S4 (Zk.l5 n)
def Zk.S3 (o0_1 : D13e → D13e → D13a → Int → Option D13r) (x15 x16 : D13e) (x17 : D13a) (x18 x19 : Int) : Option D13r :=
  bif (inC 0 x19 (lenL x16)) then
   bif (roomB (0 + (List.length (List.take (Int.toNat x19) x16))) 16) then
    bif (inB x18 (lenL x15)) then
     bif (roomB ((List.length (List.take (Int.toNat x19) x16)) + 1) 16) then
      bif (inC x19 (lenL x16) (lenL x16)) then
       bif (roomB ((List.length ((List.take (Int.toNat x19) x16) ++ [(nth x15 x18 eB)])) + (List.length (List.drop (Int.toNat x19) x16))) 16) then
        o0_1 x15 (((List.take (Int.toNat x19) x16) ++ [(nth x15 x18 eB)]) ++ (List.drop (Int.toNat x19) x16)) x17 (addI .i64 x18 1)
       else none
      else none
     else none
    else none
   else none
  else none
def Zk.t3 (o0_1 : D13e → D13e → D13a → Int → Option D13r) : Nat → D13e → D13e → D13a → Int → Int → Option D13r
  | 0 => fun _ _ _ _ _ => none
  | _ + 1 => Zk.S3 o0_1
def Zk.S2 (o0_1 : D13e → D13e → D13a → Int → Option D13r) (j3 : D13e → D13e → D13a → Int → Int → Option D13r) (x10 x11 : D13e) (x12 : D13a) (x13 x14 : Int) : Option D13r :=
  bif (ltI x14 (lenL x11)) then
   bif (inB x14 (lenL x11)) then
    bif (inB x13 (lenL x10)) then
     bif (eqS (nth x11 x14 eB) (nth x10 x13 eB)) then
      o0_1 x10 x11 x12 (addI .i64 x13 1)
     else
      j3 x10 x11 x12 x13 x14
    else none
   else none
  else
   j3 x10 x11 x12 x13 x14
def Zk.t2 (o0_1 : D13e → D13e → D13a → Int → Option D13r) : Nat → D13e → D13e → D13a → Int → Int → Option D13r
  | 0 => fun _ _ _ _ _ => none
  | n + 1 => Zk.S2 o0_1 (Zk.t3 o0_1 n)
def Zk.S1 (o2_1 self : D13e → D13e → D13a → Int → Int → Option D13r) (x5 x6 : D13e) (x7 : D13a) (x8 x9 : Int) : Option D13r :=
  bif (ltI x9 (lenL x6)) then
   bif (inB x9 (lenL x6)) then
    bif (inB x8 (lenL x5)) then
     bif (ltS (nth x6 x9 eB) (nth x5 x8 eB)) then
      self x5 x6 x7 x8 (addI .i64 x9 1)
     else
      o2_1 x5 x6 x7 x8 x9
    else none
   else none
  else
   o2_1 x5 x6 x7 x8 x9
def Zk.l1 (o2_1 : D13e → D13e → D13a → Int → Int → Option D13r) : Nat → D13e → D13e → D13a → Int → Int → Option D13r
  | 0 => fun _ _ _ _ _ => none
  | n + 1 => Zk.S1 o2_1 (Zk.l1 o2_1 n)
def Zk.S0 (o4_0 : D13e → D13e → D13a → Option D13r) (j1 : D13e → D13e → D13a → Int → Int → Option D13r) (x1 x2 : D13e) (x3 : D13a) (x4 : Int) : Option D13r :=
  bif (ltI x4 (lenL x1)) then
   j1 x1 x2 x3 x4 0
  else
   o4_0 x1 x2 x3
def Zk.l0 (o4_0 : D13e → D13e → D13a → Option D13r) : Nat → D13e → D13e → D13a → Int → Option D13r
  | 0 => fun _ _ _ _ => none
  | n + 1 => Zk.S0 o4_0 (Zk.l1 (Zk.t2 (Zk.l0 o4_0 n) n) n)
def Zk.S (j0 : D13e → D13e → D13a → Int → Option D13r) (l : D13e) : Option D13r :=
  j0 l [] [] 0
def Zk (l : D13e) : Option D13r := Zk.S (Zk.l0 (Zk.t4 fu) fu) l
def Zmm (l : D13e) : Option D13g :=
  bif (ltI 65536 (lenL l)) then
   some (eB, 1)
  else
   bif (eqI (lenL l) 0) then
    some (eB, 0)
   else
    ((Zk l)).bind fun x1 =>
    ((Zcc x1.1)).bind fun x2 =>
    bif (neI x2.2 0) then
     some (eB, x2.2)
    else
     ((Zjc (lenL x1.1))).bind fun x3 =>
     bif (roomS x3 x2.1) then
      ((Zvl x1.2)).bind fun x4 =>
      bif (roomS (addS x3 x2.1) x4) then
       some ((addS (addS x3 x2.1) x4), 0)
      else none
     else none
def Zeq (l : D13e) (code : Int) : Option (ByteArray × Bool) :=
  bif (eqI code 1) then
   ((Zcc l)).bind fun x1 =>
   some (x1.1, (eqI x1.2 0))
  else
   bif (eqI code 2) then
    bif (ltI 0 (lenL l)) then
     ((Zk l)).bind fun x2 =>
     ((Zcc x2.1)).bind fun x3 =>
     ((Zfe x2.2)).bind fun x4 =>
     ((Zmd x4)).bind fun x5 =>
     ((Zjc (lenL x2.1))).bind fun x6 =>
     bif (roomS x6 x3.1) then
      bif (roomS (addS x6 x3.1) x5.1) then
       some ((addS (addS x6 x3.1) x5.1), true)
      else none
     else none
    else
     some (eB, true)
   else
    bif (eqI code 4) then
     ((Zmm l)).bind fun x7 =>
     some (x7.1, (eqI x7.2 0))
    else
     some (eB, false)
def Zwo (l : D13u) (kind code : Int) : Option (ByteArray × Bool) :=
  bif (eqI kind 1) then
   ((Zxd l)).bind fun x1 =>
   ((Zyn x1 code)).bind fun x2 =>
   some x2
  else
   ((Zqd l)).bind fun x3 =>
   ((Zeq x3 code)).bind fun x4 =>
   some x4
def Zfb.S1 (o0_1 : ByteArray → Int → Int → Option Int) (self : ByteArray → Int → Int → Int → Option Int) (x4 : ByteArray) (x5 x6 x7 : Int) : Option Int :=
  bif (ltI x7 8) then
   bif (inB x6 (lenS x4)) then
    bif (leI 0 x7) then
     bif (neI (andI .i64 x5 1) (andI .i64 (shrI .i64 (IntKind.wrap .i64 (byteAt x4 x6)) x7) 1)) then
      self x4 (xorI .i64 (shrI .i64 x5 1) 2197175160) x6 (addI .i64 x7 1)
     else
      self x4 (shrI .i64 x5 1) x6 (addI .i64 x7 1)
    else none
   else none
  else
   o0_1 x4 x5 (addI .i64 x6 1)
def Zfb.l1 (o0_1 : ByteArray → Int → Int → Option Int) : Nat → ByteArray → Int → Int → Int → Option Int
  | 0 => fun _ _ _ _ => none
  | n + 1 => Zfb.S1 o0_1 (Zfb.l1 o0_1 n)
def Zfb.S0 (j1 : ByteArray → Int → Int → Int → Option Int) (x1 : ByteArray) (x2 x3 : Int) : Option Int :=
  bif (ltI x3 (lenS x1)) then
   j1 x1 x2 x3 0
  else
   some (xorI .i64 x2 4294967295)
def Zfb.l0 : Nat → ByteArray → Int → Int → Option Int
  | 0 => fun _ _ _ => none
  | n + 1 => Zfb.S0 (Zfb.l1 (Zfb.l0 n) n)
def Zfb.S (j0 : ByteArray → Int → Int → Option Int) (sum : Int) (s : ByteArray) : Option Int :=
  j0 s (xorI .i64 (andI .i64 sum 4294967295) 4294967295) 0
def Zfb (sum : Int) (s : ByteArray) : Option Int := Zfb.S (Zfb.l0 fu) sum s
def Zdv (s : ByteArray) : Option Int :=
  ((Zfb 0 s)).bind fun x1 =>
  some x1
def Zeo (s : ByteArray) : Option ByteArray :=
  ((Zdv s)).bind fun x1 =>
  bif (roomS s (ofBytes [(IntKind.wrap .u8 (andI .i64 x1 255)), (IntKind.wrap .u8 (andI .i64 (shrI .i64 x1 8) 255)), (IntKind.wrap .u8 (andI .i64 (shrI .i64 x1 16) 255)), (IntKind.wrap .u8 (andI .i64 (shrI .i64 x1 24) 255))])) then
   some (addS s (ofBytes [(IntKind.wrap .u8 (andI .i64 x1 255)), (IntKind.wrap .u8 (andI .i64 (shrI .i64 x1 8) 255)), (IntKind.wrap .u8 (andI .i64 (shrI .i64 x1 16) 255)), (IntKind.wrap .u8 (andI .i64 (shrI .i64 x1 24) 255))]))
  else none
def Zch (l : D13u) (kind code : Int) : Option D13g :=
  ((Zdb l kind)).bind fun x1 =>
  bif (!x1) then
   some (eB, 1)
  else
   ((Znb l)).bind fun x2 =>
   ((Zwo x2.2 kind code)).bind fun x3 =>
   bif (!x3.2) then
    some (eB, 1)
   else
    bif (roomS (ofBytes [(IntKind.wrap .u8 kind), (IntKind.wrap .u8 code), (IntKind.wrap .u8 (lenL l)), (IntKind.wrap .u8 (lenS x2.1))]) x2.1) then
     bif (roomS (addS (ofBytes [(IntKind.wrap .u8 kind), (IntKind.wrap .u8 code), (IntKind.wrap .u8 (lenL l)), (IntKind.wrap .u8 (lenS x2.1))]) x2.1) x3.1) then
      ((Zeo (addS (addS (ofBytes [(IntKind.wrap .u8 kind), (IntKind.wrap .u8 code), (IntKind.wrap .u8 (lenL l)), (IntKind.wrap .u8 (lenS x2.1))]) x2.1) x3.1))).bind fun x4 =>
      some (x4, 0)
     else none
    else none
def Zp1 (s : ByteArray) : Option (ByteArray × ByteArray × Int) :=
  ((Ztf s)).bind fun x1 =>
  bif (!x1.2) then
   some (eB, eB, 5)
  else
   some (x1.1.2.2.1, x1.1.2.1, 0)
def Zga.S1 (x7 : ByteArray) (x8 : Int) : Option D13k :=
  bif (eqI x8 0) then
   some (eB, 0, 1)
  else
   some (x7, x8, 0)
def Zga.t1 : Nat → ByteArray → Int → Option D13k
  | 0 => fun _ _ => none
  | _ + 1 => Zga.S1
def Zga.S0 (o1_0 : ByteArray → Int → Option D13k) (self : D13u → Int → ByteArray → Int → Int → Option D13k) (x1 : D13u) (x2 : Int) (x3 : ByteArray) (x4 x5 : Int) : Option D13k :=
  bif (leI x5 5) then
   ((Zqe x1 x2 x5)).bind fun x6 =>
   bif (eqI x6.2 0) then
    bif (eqI x4 0) then
     self x1 x2 x6.1 x5 (addI .i64 x5 1)
    else
     bif (ltI (lenS x6.1) (lenS x3)) then
      self x1 x2 x6.1 x5 (addI .i64 x5 1)
     else
      self x1 x2 x3 x4 (addI .i64 x5 1)
   else
    self x1 x2 x3 x4 (addI .i64 x5 1)
  else
   o1_0 x3 x4
def Zga.l0 (o1_0 : ByteArray → Int → Option D13k) : Nat → D13u → Int → ByteArray → Int → Int → Option D13k
  | 0 => fun _ _ _ _ _ => none
  | n + 1 => Zga.S0 o1_0 (Zga.l0 o1_0 n)
def Zga.S (j0 : D13u → Int → ByteArray → Int → Int → Option D13k) (l : D13u) (kind : Int) : Option D13k :=
  j0 l kind eB 0 1
def Zga (l : D13u) (kind : Int) : Option D13k := Zga.S (Zga.l0 (Zga.t1 fu) fu) l kind
def Zdc.S0 (self : D13u → Int → ByteArray → Int → Int → Option D13k) (x2 : D13u) (x3 : Int) (x4 : ByteArray) (x5 x6 : Int) : Option D13k :=
  bif (leI x6 5) then
   ((Zch x2 x3 x6)).bind fun x7 =>
   bif (eqI x7.2 0) then
    bif (eqI x5 0) then
     self x2 x3 x7.1 x6 (addI .i64 x6 1)
    else
     bif (ltI (lenS x7.1) (lenS x4)) then
      self x2 x3 x7.1 x6 (addI .i64 x6 1)
     else
      self x2 x3 x4 x5 (addI .i64 x6 1)
   else
    self x2 x3 x4 x5 (addI .i64 x6 1)
  else
   some (x4, x5, 0)
def Zdc.l0 : Nat → D13u → Int → ByteArray → Int → Int → Option D13k
  | 0 => fun _ _ _ _ _ => none
  | n + 1 => Zdc.S0 (Zdc.l0 n)
def Zdc.S (j0 : D13u → Int → ByteArray → Int → Int → Option D13k) (l : D13u) (kind : Int) : Option D13k :=
  ((Zdb l kind)).bind fun x1 =>
  bif (!x1) then
   some (eB, 0, 1)
  else
   j0 l kind eB 0 1
def Zdc (l : D13u) (kind : Int) : Option D13k := Zdc.S (Zdc.l0 fu) l kind
def Zn.S3 (x18 : ByteArray) (x19 : D13a) : Option Bool :=
  ((Zth (ofBytes x19))).bind fun x20 =>
  ((Zuh (ofBytes x19))).bind fun x21 =>
  bif (eqB (eqI x20.2 0) (eqS (ofBytes x19) x18)) then
   bif (eqI x20.2 0) then
    bif (eqI x20.2 x21.2) then
     (Zzj).bind fun x22 =>
     some x22
    else
     some false
   else
    bif (eqI x20.2 5) then
     bif (eqI x20.2 x21.2) then
      (Zzj).bind fun x23 =>
      some x23
     else
      some false
    else
     some false
  else
   some false
def Zn.t3 : Nat → ByteArray → D13a → Option Bool
  | 0 => fun _ _ => none
  | _ + 1 => Zn.S3
def Zn.S2 (o3_2 : ByteArray → D13a → Option Bool) (self : Int → ByteArray → Int → Int → D13a → Option Bool) (x13 : Int) (x14 : ByteArray) (x15 x16 : Int) (x17 : D13a) : Option Bool :=
  bif (ltI x16 32) then
   bif (ltI (addI .i64 x15 x16) (mulI .i64 8 (lenL x17))) then
    bif (leI 0 x16) then
     bif (eqI (andI .i64 (shrI .i64 x13 x16) 1) 1) then
      bif (inB (shrI .i64 (addI .i64 x15 x16) 3) (lenL x17)) then
       bif (leI 0 (andI .i64 (addI .i64 x15 x16) 7)) then
        bif (inB (shrI .i64 (addI .i64 x15 x16) 3) (lenL x17)) then
         self x13 x14 x15 (addI .i64 x16 1) (List.set x17 (Int.toNat (shrI .i64 (addI .i64 x15 x16) 3)) (xorI .u8 (List.getD x17 (Int.toNat (shrI .i64 (addI .i64 x15 x16) 3)) 0) (shlI .u8 1 (andI .i64 (addI .i64 x15 x16) 7))))
        else none
       else none
      else none
     else
      self x13 x14 x15 (addI .i64 x16 1) x17
    else none
   else
    o3_2 x14 x17
  else
   o3_2 x14 x17
def Zn.l2 (o3_2 : ByteArray → D13a → Option Bool) : Nat → Int → ByteArray → Int → Int → D13a → Option Bool
  | 0 => fun _ _ _ _ _ => none
  | n + 1 => Zn.S2 o3_2 (Zn.l2 o3_2 n)
def Zn.S1 (j2 : Int → ByteArray → Int → Int → D13a → Option Bool) (x8 : D13u) (x9 x10 x11 : Int) : Option Bool :=
  ((Zga x8 x11)).bind fun x12 =>
  bif (neI x12.2.2 0) then
   some false
  else
   bif (ltI (lenS x12.1) 8) then
    some false
   else
    bif (roomB (ByteArray.size x12.1) 1) then
     bif (neI (mulI .i64 8 (lenL (Zf x12.1))) 0) then
      j2 x10 x12.1 (remI (andI .i64 x9 65535) (mulI .i64 8 (lenL (Zf x12.1)))) 0 (Zf x12.1)
     else none
    else none
def Zn.t1 : Nat → D13u → Int → Int → Int → Option Bool
  | 0 => fun _ _ _ _ => none
  | n + 1 => Zn.S1 (Zn.l2 (Zn.t3 n) n)
def Zn.S0 (j1 : D13u → Int → Int → Int → Option Bool) (x4 : D13u) (x5 x6 : Int) : Option Bool :=
  ((Zdb x4 1)).bind fun x7 =>
  bif (!x7) then
   j1 x4 x5 x6 2
  else
   j1 x4 x5 x6 1
def Zn.t0 : Nat → D13u → Int → Int → Option Bool
  | 0 => fun _ _ _ => none
  | n + 1 => Zn.S0 (Zn.t1 n)
def Zn.S (j0 : D13u → Int → Int → Option Bool) (l : D13u) (xat xby : Int) : Option Bool :=
  ((Zdb l 1)).bind fun x1 =>
  bif (!x1) then
   ((Zdb l 2)).bind fun x2 =>
   bif (!x2) then
    (Zzj).bind fun x3 =>
    some x3
   else
    j0 l xat xby
  else
   j0 l xat xby
def Zn (l : D13u) (xat xby : Int) : Option Bool := Zn.S (Zn.t0 fu) l xat xby
end Go.AM.Pure
