import Derived.Test.YtlamhllcnbcbbaaGreatAmPrimW
import Derived.Test.YtlamhllcnbcbbaaGreatAmPure06
/- PRINTED by gen/ of this repo: the functions of the seat as pure functions. -/
namespace Go.AM.Pure
open Go.AM
abbrev D13a : Type := List Int
abbrev D13b : Type := Int × Int
abbrev D13c : Type := List Bool
abbrev D13d : Type := D13a
abbrev D13e : Type := List ByteArray
abbrev D13f : Type := Int × ByteArray
abbrev D13g : Type := ByteArray × Int
abbrev D13h : Type := D13a × Int
abbrev D13i : Type := Int × D13b
abbrev D13j : Type := Bool × D13a
abbrev D13k : Type := ByteArray × Int × Int
abbrev D13l : Type := D13e × Int
abbrev D13m : Type := Int × D13f
abbrev D13n : Type := D13a × D13a
abbrev D13o : Type := List D13i
abbrev D13p : Type := Int × D13i
abbrev D13q : Type := D13o
abbrev D13r : Type := D13e × D13a
abbrev D13s : Type := D13a × D13a × Int
abbrev D13u : Type := List D13m
abbrev D13v : Type := D13o × Int
abbrev D13w : Type := D13e × D13a × Int
abbrev D13x : Type := D13u × Int
abbrev D13y : Type := Int × D13u
abbrev D13z : Type := ByteArray × D13u
def Zkn (xn : Int) : D13m :=
  (1, xn, eB)
def Zrd (c : D13m) (t1 : Int) : Bool :=
  bif (neI (Zpf c) 0) then
   true
  else
   bif (neI c.1 0) then
    (neI c.1 t1)
   else
    false
def Zrd.o (c : D13m) (t1 : Int) : Option Bool :=
  bif (neI (Zpf c) 0) then
   some true
  else
   bif (neI c.1 0) then
    some (neI c.1 t1)
   else
    some false
def Zm.S0 (self : D13u → Int → Int → Int → Option Int) (x1 : D13u) (x2 x3 x4 : Int) : Option Int :=
  bif (ltI x4 x3) then
   bif (inB x4 (lenL x1)) then
    bif (Zrd (nth x1 x4 (0, 0, eB)) x2) then
     some x4
    else
     self x1 x2 x3 (addI .i64 x4 1)
   else none
  else
   some (-1)
def Zm.l0 : Nat → D13u → Int → Int → Int → Option Int
  | 0 => fun _ _ _ _ => none
  | n + 1 => Zm.S0 (Zm.l0 n)
def Zm.S (j0 : D13u → Int → Int → Int → Option Int) (s : D13u) (f0 : Int) : Option Int :=
  j0 s f0 (lenL s) 0
def Zm (s : D13u) (f0 : Int) : Option Int := Zm.S (Zm.l0 fu) s f0
def Znb (s : D13u) (f0 : Int) : Option Bool :=
  ((Zm s f0)).bind fun x1 =>
  some (leI 0 x1)
def Zzk (l : D13u) (kind : Int) : Option Bool :=
  bif (ltI (lenL l) 1) then
   some false
  else
   bif (ltI 64 (lenL l)) then
    some false
   else
    bif (neI kind 1) then
     bif (neI kind 2) then
      some false
     else
      ((Znb l kind)).bind fun x1 =>
      some (!x1)
    else
     ((Znb l kind)).bind fun x2 =>
     some (!x2)
def Zdg (c : D13m) : Bool :=
  (eqI c.1 0)
def Zxh (c : D13m) : Bool :=
  (Zdg c)
def Zj.S0 (self : Int → Int → D13u → Option D13y) (x1 x2 : Int) (x3 : D13u) : Option D13y :=
  bif (ltI x2 x1) then
   bif (inB x2 (lenL x3)) then
    bif (Zxh (List.getD x3 (Int.toNat x2) (0, 0, eB))) then
     bif (decide (0 < (List.length x3))) then
      some (x2, x3)
     else none
    else
     self x1 (addI .i64 x2 1) x3
   else none
  else
   bif (decide (0 < (List.length x3))) then
    some ((-1), x3)
   else none
def Zj.l0 : Nat → Int → Int → D13u → Option D13y
  | 0 => fun _ _ _ => none
  | n + 1 => Zj.S0 (Zj.l0 n)
def Zj.S (j0 : Int → Int → D13u → Option D13y) (s : D13u) : Option D13y :=
  j0 (lenL s) 0 s
def Zj (s : D13u) : Option D13y := Zj.S (Zj.l0 fu) s
def Zc.S1 (x6 : Int) (x7 : D13u) : Option D13y :=
  bif (inC x6 (lenL x7) (lenL x7)) then
   bif (inC 0 x6 (lenL (splA x7 (Int.toNat x6) (List.replicate ((Int.toNat (lenL x7)) - (Int.toNat x6)) ((0 : Int), ((0 : Int), eB)))))) then
    bif (decide (0 < (List.length (splA x7 (Int.toNat x6) (List.replicate ((Int.toNat (lenL x7)) - (Int.toNat x6)) ((0 : Int), ((0 : Int), eB))))))) then
     some (((((Int.toNat x6) - 0) : Nat) : Int), (splA x7 (Int.toNat x6) (List.replicate ((Int.toNat (lenL x7)) - (Int.toNat x6)) ((0 : Int), ((0 : Int), eB)))))
    else none
   else none
  else none
def Zc.t1 : Nat → Int → D13u → Option D13y
  | 0 => fun _ _ => none
  | _ + 1 => Zc.S1
def Zc.S0 (o1_0 : Int → D13u → Option D13y) (self : Int → Int → D13u → Option D13y) (x2 x3 : Int) (x4 : D13u) : Option D13y :=
  bif (ltI x3 (lenL x4)) then
   bif (inB x3 (lenL x4)) then
    bif (!(Zxh (List.getD x4 (Int.toNat x3) (0, 0, eB)))) then
     bif (inB x2 (lenL x4)) then
      self (addI .i64 x2 1) (addI .i64 x3 1) (List.set x4 (Int.toNat x2) (List.getD x4 (Int.toNat x3) (0, 0, eB)))
     else none
    else
     self x2 (addI .i64 x3 1) x4
   else none
  else
   o1_0 x2 x4
def Zc.l0 (o1_0 : Int → D13u → Option D13y) : Nat → Int → Int → D13u → Option D13y
  | 0 => fun _ _ _ => none
  | n + 1 => Zc.S0 o1_0 (Zc.l0 o1_0 n)
def Zc.S (j0 : Int → Int → D13u → Option D13y) (s : D13u) : Option D13y :=
  ((Zdn ((decide (0 < (List.length s))) && true) (Zj s) fun _x => ((decide ((List.length _x.2) = (List.length s))) && true))).bind fun x1 =>
  bif (eqI x1.1 (-1)) then
   bif (decide (0 < (List.length x1.2))) then
    some ((lenL x1.2), x1.2)
   else none
  else
   j0 x1.1 (addI .i64 x1.1 1) x1.2
def Zc (s : D13u) : Option D13y := Zc.S (Zc.l0 (Zc.t1 fu) fu) s
def Zza.S0 (self : Int → D13a → Int → Int → Option Int) (x1 : Int) (x2 : D13a) (x3 x4 : Int) : Option Int :=
  bif (ltI x4 x3) then
   bif (inB x4 (lenL x2)) then
    self (orI .i64 x1 (nth x2 x4 0)) x2 x3 (addI .i64 x4 1)
   else none
  else
   ((Zrb x1)).bind fun x5 =>
   some x5
def Zza.l0 : Nat → Int → D13a → Int → Int → Option Int
  | 0 => fun _ _ _ _ => none
  | n + 1 => Zza.S0 (Zza.l0 n)
def Zza.S (j0 : Int → D13a → Int → Int → Option Int) (l : D13a) : Option Int :=
  j0 0 l (lenL l) 0
def Zza (l : D13a) : Option Int := Zza.S (Zza.l0 fu) l
def Zqf (xn width : Int) : Int :=
  bif (ltI xn 1) then
   0
  else
   bif (ltI 65536 xn) then
    0
   else
    bif (ltI width 1) then
     0
    else
     bif (ltI 64 width) then
      0
     else
      (shrI .i64 (addI .i64 (mulI .i64 xn width) 7) 3)
def Zqf.o (xn width : Int) : Option Int :=
  bif (ltI xn 1) then
   some 0
  else
   bif (ltI 65536 xn) then
    some 0
   else
    bif (ltI width 1) then
     some 0
    else
     bif (ltI 64 width) then
      some 0
     else
      some (shrI .i64 (addI .i64 (mulI .i64 xn width) 7) 3)
def Zln (w : Int) : Option Int :=
  bif (leI w 0) then
   some 0
  else
   bif (leI 64 w) then
    some (-1)
   else
    bif (leI 0 w) then
     some (IntKind.wrap .i64 (subI .u64 (shlI .u64 1 w) 1))
    else none
def Zea.S2 (x20 : D13a) (x21 x22 : Int) : Option D13g :=
  bif (ltI 0 x22) then
   bif (roomB ((List.length x20) + 1) 1) then
    some ((ofBytes (x20 ++ [(IntKind.wrap .u8 x21)])), 0)
   else none
  else
   some ((ofBytes x20), 0)
def Zea.t2 : Nat → D13a → Int → Int → Option D13g
  | 0 => fun _ _ _ => none
  | _ + 1 => Zea.S2
def Zea.S1 (o0_1 : Int → D13a → Int → Int → D13a → Int → Int → Option D13g) (self : Int → D13a → Int → Int → Int → Int → D13a → Int → Int → Option D13g) (x10 : Int) (x11 : D13a) (x12 x13 : Int) (x14 x15 : Int) (x16 : D13a) (x17 x18 : Int) : Option D13g :=
  bif (ltI 0 x15) then
   ((Zln (minI (subI .i64 8 x13) x15))).bind fun x19 =>
   bif (leI 0 x13) then
    bif (leI 0 (minI (subI .i64 8 x13) x15)) then
     bif (eqI (addI .i64 x13 (minI (subI .i64 8 x13) x15)) 8) then
      bif (roomB ((List.length x11) + 1) 1) then
       self x10 (x11 ++ [(IntKind.wrap .u8 (orI .u64 x12 (shlI .u64 (andI .u64 x14 (IntKind.wrap .u64 x19)) x13)))]) 0 0 (shrI .u64 x14 (minI (subI .i64 8 x13) x15)) (subI .i64 x15 (minI (subI .i64 8 x13) x15)) x16 x17 x18
      else none
     else
      self x10 x11 (orI .u64 x12 (shlI .u64 (andI .u64 x14 (IntKind.wrap .u64 x19)) x13)) (addI .i64 x13 (minI (subI .i64 8 x13) x15)) (shrI .u64 x14 (minI (subI .i64 8 x13) x15)) (subI .i64 x15 (minI (subI .i64 8 x13) x15)) x16 x17 x18
    else none
   else none
  else
   o0_1 x10 x11 x12 x13 x16 x17 (addI .i64 x18 1)
def Zea.l1 (o0_1 : Int → D13a → Int → Int → D13a → Int → Int → Option D13g) : Nat → Int → D13a → Int → Int → Int → Int → D13a → Int → Int → Option D13g
  | 0 => fun _ _ _ _ _ _ _ _ _ => none
  | n + 1 => Zea.S1 o0_1 (Zea.l1 o0_1 n)
def Zea.S0 (o2_0 : D13a → Int → Int → Option D13g) (j1 : Int → D13a → Int → Int → Int → Int → D13a → Int → Int → Option D13g) (x3 : Int) (x4 : D13a) (x5 x6 : Int) (x7 : D13a) (x8 x9 : Int) : Option D13g :=
  bif (ltI x9 x8) then
   bif (inB x9 (lenL x7)) then
    j1 x3 x4 x5 x6 (IntKind.wrap .u64 (nth x7 x9 0)) x3 x7 x8 x9
   else none
  else
   o2_0 x4 x5 x6
def Zea.l0 (o2_0 : D13a → Int → Int → Option D13g) : Nat → Int → D13a → Int → Int → D13a → Int → Int → Option D13g
  | 0 => fun _ _ _ _ _ _ _ => none
  | n + 1 => Zea.S0 o2_0 (Zea.l1 (Zea.l0 o2_0 n) n)
def Zea.S (j0 : Int → D13a → Int → Int → D13a → Int → Int → Option D13g) (l : D13a) (width : Int) : Option D13g :=
  bif (ltI width 0) then
   some (eB, 1)
  else
   bif (ltI 64 width) then
    some (eB, 1)
   else
    bif (ltI 65536 (lenL l)) then
     some (eB, 1)
    else
     ((Zza l)).bind fun x1 =>
     bif (ltI width x1) then
      some (eB, 1)
     else
      let x2 := (Zqf (lenL l) width)
      bif ((leI 0 (addI .i64 x2 1)) && (roomB (Int.toNat (addI .i64 x2 1)) 1)) then
       j0 width [] 0 0 l (lenL l) 0
      else none
def Zea (l : D13a) (width : Int) : Option D13g := Zea.S (Zea.l0 (Zea.t2 fu) fu) l width
def Zoa.S1 (x11 x12 : Nat) (x13 : D13u) (x14 : D13a) : Option D13z :=
  ((Zea x14 1)).bind fun x15 =>
  some (x15.1, (List.take x12 (List.drop x11 x13)))
def Zoa.t1 : Nat → Nat → Nat → D13u → D13a → Option D13z
  | 0 => fun _ _ _ _ => none
  | _ + 1 => Zoa.S1
def Zoa.S0 (o1_0 : Nat → Nat → D13u → D13a → Option D13z) (self : Nat → Nat → D13u → Int → Int → D13u → D13a → Option D13z) (x3 x4 : Nat) (x5 : D13u) (x6 x7 : Int) (x8 : D13u) (x9 : D13a) : Option D13z :=
  bif (ltI x7 x6) then
   bif (inB x7 (lenL x5)) then
    bif (Zdg (nth x5 x7 (0, 0, eB))) then
     bif (inB x7 (lenL x9)) then
      self x3 x4 x5 x6 (addI .i64 x7 1) x8 (List.set x9 (Int.toNat x7) 1)
     else none
    else
     self x3 x4 x5 x6 (addI .i64 x7 1) x8 x9
   else none
  else
   o1_0 x3 x4 x8 x9
def Zoa.l0 (o1_0 : Nat → Nat → D13u → D13a → Option D13z) : Nat → Nat → Nat → D13u → Int → Int → D13u → D13a → Option D13z
  | 0 => fun _ _ _ _ _ _ _ => none
  | n + 1 => Zoa.S0 o1_0 (Zoa.l0 o1_0 n)
def Zoa.S (j0 : Nat → Nat → D13u → Int → Int → D13u → D13a → Option D13z) (l : D13u) : Option D13z :=
  ((Zpg 32 l)).bind fun x1 =>
  ((Zdn ((decide (0 < (List.length x1))) && true) (Zc x1) fun _x => ((decide ((List.length _x.2) = (List.length x1))) && true))).bind fun x2 =>
  bif (eqI (((Int.toNat x2.1) : Nat) : Int) (lenL l)) then
   some (eB, (List.take (Int.toNat x2.1) (List.drop 0 x2.2)))
  else
   bif ((leI 0 (lenL l)) && (roomB (Int.toNat (lenL l)) 8)) then
    j0 0 (Int.toNat x2.1) l (lenL l) 0 x2.2 (List.replicate (Int.toNat (lenL l)) (0 : Int))
   else none
def Zoa (l : D13u) : Option D13z := Zoa.S (Zoa.l0 (Zoa.t1 fu) fu) l
def Zca.S1 (o0_1 : D13a → D13a → Int → Int → Option ByteArray) (self : D13a → Int → D13a → Int → Int → Int → Option ByteArray) (x5 : D13a) (x6 : Int) (x7 : D13a) (x8 x9 x10 : Int) : Option ByteArray :=
  bif (ltI x10 8) then
   bif (roomB ((List.length x5) + 1) 1) then
    self (x5 ++ [(IntKind.wrap .u8 x6)]) (shrI .u64 x6 8) x7 x8 x9 (addI .i64 x10 1)
   else none
  else
   o0_1 x5 x7 x8 (addI .i64 x9 1)
def Zca.l1 (o0_1 : D13a → D13a → Int → Int → Option ByteArray) : Nat → D13a → Int → D13a → Int → Int → Int → Option ByteArray
  | 0 => fun _ _ _ _ _ _ => none
  | n + 1 => Zca.S1 o0_1 (Zca.l1 o0_1 n)
def Zca.S0 (j1 : D13a → Int → D13a → Int → Int → Int → Option ByteArray) (x1 x2 : D13a) (x3 x4 : Int) : Option ByteArray :=
  bif (ltI x4 x3) then
   bif (inB x4 (lenL x2)) then
    j1 x1 (IntKind.wrap .u64 (nth x2 x4 0)) x2 x3 x4 0
   else none
  else
   some (ofBytes x1)
def Zca.l0 : Nat → D13a → D13a → Int → Int → Option ByteArray
  | 0 => fun _ _ _ _ => none
  | n + 1 => Zca.S0 (Zca.l1 (Zca.l0 n) n)
def Zca.S (j0 : D13a → D13a → Int → Int → Option ByteArray) (l : D13a) : Option ByteArray :=
  bif ((leI 0 (mulI .i64 8 (lenL l))) && (roomB (Int.toNat (mulI .i64 8 (lenL l))) 1)) then
   j0 [] l (lenL l) 0
  else none
def Zca (l : D13a) : Option ByteArray := Zca.S (Zca.l0 fu) l
def Zjd.S0 (self : D13a → D13a → Int → Int → D13o → Option D13q) (x1 x2 : D13a) (x3 x4 : Int) (x5 : D13o) : Option D13q :=
  bif (ltI x4 x3) then
   bif (inB x4 (lenL x2)) then
    bif (eqI x4 0) then
     bif (roomB ((List.length x5) + 1) 24) then
      bif (inB (subI .i64 (lenL (x5 ++ [((nth x2 x4 0), x4, 0)])) 1) (lenL (x5 ++ [((nth x2 x4 0), x4, 0)]))) then
       bif (inB (subI .i64 (lenL (x5 ++ [((nth x2 x4 0), x4, 0)])) 1) (lenL (x5 ++ [((nth x2 x4 0), x4, 0)]))) then
        self x1 x2 x3 (addI .i64 x4 1) (List.set (x5 ++ [((nth x2 x4 0), x4, 0)]) (Int.toNat (subI .i64 (lenL (x5 ++ [((nth x2 x4 0), x4, 0)])) 1)) ((List.getD (x5 ++ [((nth x2 x4 0), x4, 0)]) (Int.toNat (subI .i64 (lenL (x5 ++ [((nth x2 x4 0), x4, 0)])) 1)) (0, 0, 0)).1, (List.getD (x5 ++ [((nth x2 x4 0), x4, 0)]) (Int.toNat (subI .i64 (lenL (x5 ++ [((nth x2 x4 0), x4, 0)])) 1)) (0, 0, 0)).2.1, (addI .i64 (List.getD (x5 ++ [((nth x2 x4 0), x4, 0)]) (Int.toNat (subI .i64 (lenL (x5 ++ [((nth x2 x4 0), x4, 0)])) 1)) (0, 0, 0)).2.2 1)))
       else none
      else none
     else none
    else
     bif (inB (subI .i64 x4 1) (lenL x1)) then
      bif (neI (nth x2 x4 0) (nth x1 (subI .i64 x4 1) 0)) then
       bif (roomB ((List.length x5) + 1) 24) then
        bif (inB (subI .i64 (lenL (x5 ++ [((nth x2 x4 0), x4, 0)])) 1) (lenL (x5 ++ [((nth x2 x4 0), x4, 0)]))) then
         bif (inB (subI .i64 (lenL (x5 ++ [((nth x2 x4 0), x4, 0)])) 1) (lenL (x5 ++ [((nth x2 x4 0), x4, 0)]))) then
          self x1 x2 x3 (addI .i64 x4 1) (List.set (x5 ++ [((nth x2 x4 0), x4, 0)]) (Int.toNat (subI .i64 (lenL (x5 ++ [((nth x2 x4 0), x4, 0)])) 1)) ((List.getD (x5 ++ [((nth x2 x4 0), x4, 0)]) (Int.toNat (subI .i64 (lenL (x5 ++ [((nth x2 x4 0), x4, 0)])) 1)) (0, 0, 0)).1, (List.getD (x5 ++ [((nth x2 x4 0), x4, 0)]) (Int.toNat (subI .i64 (lenL (x5 ++ [((nth x2 x4 0), x4, 0)])) 1)) (0, 0, 0)).2.1, (addI .i64 (List.getD (x5 ++ [((nth x2 x4 0), x4, 0)]) (Int.toNat (subI .i64 (lenL (x5 ++ [((nth x2 x4 0), x4, 0)])) 1)) (0, 0, 0)).2.2 1)))
         else none
        else none
       else none
      else
       bif (inB (subI .i64 (lenL x5) 1) (lenL x5)) then
        bif (inB (subI .i64 (lenL x5) 1) (lenL x5)) then
         self x1 x2 x3 (addI .i64 x4 1) (List.set x5 (Int.toNat (subI .i64 (lenL x5) 1)) ((List.getD x5 (Int.toNat (subI .i64 (lenL x5) 1)) (0, 0, 0)).1, (List.getD x5 (Int.toNat (subI .i64 (lenL x5) 1)) (0, 0, 0)).2.1, (addI .i64 (List.getD x5 (Int.toNat (subI .i64 (lenL x5) 1)) (0, 0, 0)).2.2 1)))
        else none
       else none
     else none
   else none
  else
   some x5
def Zjd.l0 : Nat → D13a → D13a → Int → Int → D13o → Option D13q
  | 0 => fun _ _ _ _ _ => none
  | n + 1 => Zjd.S0 (Zjd.l0 n)
def Zjd.S (j0 : D13a → D13a → Int → Int → D13o → Option D13q) (l : D13a) : Option D13q :=
  bif (ltI 65536 (lenL l)) then
   some []
  else
   j0 l l (lenL l) 0 []
def Zjd (l : D13a) : Option D13q := Zjd.S (Zjd.l0 fu) l
def Zqc.S0 (self : D13o → Int → D13o → Int → Int → Option (Int × Bool)) (x1 : D13o) (x2 : Int) (x3 : D13o) (x4 x5 : Int) : Option (Int × Bool) :=
  bif (ltI x5 x4) then
   bif (inB x5 (lenL x3)) then
    bif (neI (nth x3 x5 (0, 0, 0)).2.1 x2) then
     some (0, false)
    else
     bif (ltI (nth x3 x5 (0, 0, 0)).2.2 1) then
      some (0, false)
     else
      bif (ltI (subI .i64 65536 x2) (nth x3 x5 (0, 0, 0)).2.2) then
       some (0, false)
      else
       bif (ltI 0 x5) then
        bif (inB (subI .i64 x5 1) (lenL x1)) then
         bif (eqI (nth x3 x5 (0, 0, 0)).1 (nth x1 (subI .i64 x5 1) (0, 0, 0)).1) then
          some (0, false)
         else
          self x1 (addI .i64 x2 (nth x3 x5 (0, 0, 0)).2.2) x3 x4 (addI .i64 x5 1)
        else none
       else
        self x1 (addI .i64 x2 (nth x3 x5 (0, 0, 0)).2.2) x3 x4 (addI .i64 x5 1)
   else none
  else
   some (x2, true)
def Zqc.l0 : Nat → D13o → Int → D13o → Int → Int → Option (Int × Bool)
  | 0 => fun _ _ _ _ _ => none
  | n + 1 => Zqc.S0 (Zqc.l0 n)
def Zqc.S (j0 : D13o → Int → D13o → Int → Int → Option (Int × Bool)) (l : D13o) : Option (Int × Bool) :=
  j0 l 0 l (lenL l) 0
def Zqc (l : D13o) : Option (Int × Bool) := Zqc.S (Zqc.l0 fu) l
def Zlc (b : D13j) (s : ByteArray) : Option (Int × Bool × D13j) :=
  bif (roomB ((List.length (Zrj b).2) + (ByteArray.size s)) 1) then
   some ((lenS s), true, (Zrj b).1, ((Zrj b).2 ++ (Zl s)))
  else none
def Zbd.S0 (self : D13o → Int → Int → D13j → Option D13g) (x2 : D13o) (x3 x4 : Int) (x5 : D13j) : Option D13g :=
  bif (ltI x4 x3) then
   bif (inB x4 (lenL x2)) then
    ((Zva (nth x2 x4 (0, 0, 0)).1)).bind fun x6 =>
    ((Zlc x5 x6)).bind fun x7 =>
    ((Zva (nth x2 x4 (0, 0, 0)).2.2)).bind fun x8 =>
    ((Zlc x7.2.2 x8)).bind fun x9 =>
    self x2 x3 (addI .i64 x4 1) x9.2.2
   else none
  else
   ((Zoi x5)).bind fun x10 =>
   some (x10.1, 0)
def Zbd.l0 : Nat → D13o → Int → Int → D13j → Option D13g
  | 0 => fun _ _ _ _ => none
  | n + 1 => Zbd.S0 (Zbd.l0 n)
def Zbd.S (j0 : D13o → Int → Int → D13j → Option D13g) (l : D13o) : Option D13g :=
  ((Zqc l)).bind fun x1 =>
  bif (!x1.2) then
   some (eB, 1)
  else
   j0 l (lenL l) 0 (true, [])
def Zbd (l : D13o) : Option D13g := Zbd.S (Zbd.l0 fu) l
def Zmn (xfrom xto : Int) : Int :=
  (IntKind.wrap .i64 (subI .u64 (IntKind.wrap .u64 xto) (IntKind.wrap .u64 xfrom)))
def Zw.S1 (self : D13a → Int → Int → Option Int) (x2 : D13a) (x3 x4 : Int) : Option Int :=
  bif (ltI x4 (lenL x2)) then
   bif (inB x4 (lenL x2)) then
    self x2 (minI x3 (nth x2 x4 0)) (addI .i64 x4 1)
   else none
  else
   some x3
def Zw.l1 : Nat → D13a → Int → Int → Option Int
  | 0 => fun _ _ _ => none
  | n + 1 => Zw.S1 (Zw.l1 n)
def Zw.S0 (j1 : D13a → Int → Int → Option Int) (x1 : D13a) : Option Int :=
  bif (inB 0 (lenL x1)) then
   j1 x1 (nth x1 0 0) 1
  else none
def Zw.t0 : Nat → D13a → Option Int
  | 0 => fun _ => none
  | n + 1 => Zw.S0 (Zw.l1 n)
def Zw.S (j0 : D13a → Option Int) (x : D13a) : Option Int :=
  bif (ltI (lenL x) 1) then
   none
  else
   j0 x
def Zw (x : D13a) : Option Int := Zw.S (Zw.t0 fu) x
def Zy.S2 (self : Int → Int → Int → D13a → Option D13h) (x7 x8 x9 : Int) (x10 : D13a) : Option D13h :=
  bif (ltI x9 x8) then
   bif (inB x9 (lenL x10)) then
    bif (inB x9 (lenL x10)) then
     self x7 x8 (addI .i64 x9 1) (List.set x10 (Int.toNat x9) (Zmn x7 (List.getD x10 (Int.toNat x9) 0)))
    else none
   else none
  else
   some (x10, x7)
def Zy.l2 : Nat → Int → Int → Int → D13a → Option D13h
  | 0 => fun _ _ _ _ => none
  | n + 1 => Zy.S2 (Zy.l2 n)
def Zy.S1 (j2 : Int → Int → Int → D13a → Option D13h) (x5 : D13a) : Option D13h :=
  ((Zw x5)).bind fun x6 =>
  j2 x6 (lenL x5) 0 x5
def Zy.t1 : Nat → D13a → Option D13h
  | 0 => fun _ => none
  | n + 1 => Zy.S1 (Zy.l2 n)
def Zy.S0 (o1_0 : D13a → Option D13h) (self : D13a → Int → D13a → Option D13h) (x1 : D13a) (x2 : Int) (x3 : D13a) : Option D13h :=
  bif (ltI x2 (lenL x1)) then
   bif (inB (subI .i64 x2 1) (lenL x1)) then
    bif (inB x2 (lenL x1)) then
     bif (roomB ((List.length x3) + 1) 8) then
      self x1 (addI .i64 x2 1) (x3 ++ [(Zmn (nth x1 (subI .i64 x2 1) 0) (nth x1 x2 0))])
     else none
    else none
   else none
  else
   o1_0 x3
def Zy.l0 (o1_0 : D13a → Option D13h) : Nat → D13a → Int → D13a → Option D13h
  | 0 => fun _ _ _ => none
  | n + 1 => Zy.S0 o1_0 (Zy.l0 o1_0 n)
def Zy.S (j0 : D13a → Int → D13a → Option D13h) (l : D13a) : Option D13h :=
  bif ((leI 0 (lenL l)) && (roomB (Int.toNat (lenL l)) 8)) then
   j0 l 1 []
  else none
def Zy (l : D13a) : Option D13h := Zy.S (Zy.l0 (Zy.t1 fu) fu) l
def Znn (l : D13a) : Option D13g :=
  bif (ltI 65536 (lenL l)) then
   some (eB, 1)
  else
   bif (eqI (lenL l) 0) then
    some (eB, 0)
   else
    bif (eqI (lenL l) 1) then
     bif (inB 0 (lenL l)) then
      ((Zva (nth l 0 0))).bind fun x1 =>
      some (x1, 0)
     else none
    else
     ((Zy l)).bind fun x2 =>
     ((Zza x2.1)).bind fun x3 =>
     ((Zea x2.1 x3)).bind fun x4 =>
     bif (inB 0 (lenL l)) then
      ((Zva (nth l 0 0))).bind fun x5 =>
      ((Zva x2.2)).bind fun x6 =>
      bif (roomS x5 x6) then
       bif (roomS (addS x5 x6) (ofBytes [(IntKind.wrap .u8 x3)])) then
        bif (roomS (addS (addS x5 x6) (ofBytes [(IntKind.wrap .u8 x3)])) x4.1) then
         some ((addS (addS (addS x5 x6) (ofBytes [(IntKind.wrap .u8 x3)])) x4.1), x4.2)
        else none
       else none
      else none
     else none
def cmp_Less_int (x y : Int) : Bool :=
  bif (cmp_isNaN_int x) then
   bif (!(cmp_isNaN_int y)) then
    true
   else
    (ltI x y)
  else
   (ltI x y)
def cmp_Less_int.o (x y : Int) : Option Bool :=
  bif (cmp_isNaN_int x) then
   bif (!(cmp_isNaN_int y)) then
    some true
   else
    some (ltI x y)
  else
   some (ltI x y)
def Ztk (x : Int) : Bool :=
  (neI x x)
def Zq.S1 (x7 : D13a) (x8 x9 x10 : Int) : Option (Int × Bool) :=
  bif (ltI x10 x9) then
   bif (inB x10 (lenL x7)) then
    bif (eqI (nth x7 x10 0) x8) then
     some (x10, true)
    else
     bif (inB x10 (lenL x7)) then
      bif (Ztk (nth x7 x10 0)) then
       some (x10, (Ztk x8))
      else
       some (x10, false)
     else none
   else none
  else
   some (x10, false)
def Zq.t1 : Nat → D13a → Int → Int → Int → Option (Int × Bool)
  | 0 => fun _ _ _ _ => none
  | _ + 1 => Zq.S1
def Zq.S0 (o1_0 : D13a → Int → Int → Int → Option (Int × Bool)) (self : D13a → Int → Int → Int → Int → Option (Int × Bool)) (x1 : D13a) (x2 x3 : Int) (x4 x5 : Int) : Option (Int × Bool) :=
  bif (ltI x4 x5) then
   bif (inB (IntKind.wrap .i64 (shrI .u64 (IntKind.wrap .u64 (addI .i64 x4 x5)) 1)) (lenL x1)) then
    bif (cmp_Less_int (nth x1 (IntKind.wrap .i64 (shrI .u64 (IntKind.wrap .u64 (addI .i64 x4 x5)) 1)) 0) x2) then
     self x1 x2 x3 (addI .i64 (IntKind.wrap .i64 (shrI .u64 (IntKind.wrap .u64 (addI .i64 x4 x5)) 1)) 1) x5
    else
     self x1 x2 x3 x4 (IntKind.wrap .i64 (shrI .u64 (IntKind.wrap .u64 (addI .i64 x4 x5)) 1))
   else none
  else
   o1_0 x1 x2 x3 x4
def Zq.l0 (o1_0 : D13a → Int → Int → Int → Option (Int × Bool)) : Nat → D13a → Int → Int → Int → Int → Option (Int × Bool)
  | 0 => fun _ _ _ _ _ => none
  | n + 1 => Zq.S0 o1_0 (Zq.l0 o1_0 n)
def Zq.S (j0 : D13a → Int → Int → Int → Int → Option (Int × Bool)) (x : D13a) (target : Int) : Option (Int × Bool) :=
  j0 x target (lenL x) 0 (lenL x)
def Zq (x : D13a) (target : Int) : Option (Int × Bool) := Zq.S (Zq.l0 (Zq.t1 fu) fu) x target
def Zbc.S0 (self : Nat → Nat → D13a → D13a → Int → Int → D13a → Option D13n) (x4 x5 : Nat) (x6 x7 : D13a) (x8 x9 : Int) (x10 : D13a) : Option D13n :=
  bif (ltI x9 x8) then
   bif (inB x9 (lenL x7)) then
    ((Zq (List.take x5 (List.drop x4 x10)) (nth x7 x9 0))).bind fun x11 =>
    bif (roomB ((List.length x6) + 1) 8) then
     self x4 x5 (x6 ++ [x11.1]) x7 x8 (addI .i64 x9 1) x10
    else none
   else none
  else
   some ((List.take x5 (List.drop x4 x10)), x6)
def Zbc.l0 : Nat → Nat → Nat → D13a → D13a → Int → Int → D13a → Option D13n
  | 0 => fun _ _ _ _ _ _ _ => none
  | n + 1 => Zbc.S0 (Zbc.l0 n)
def Zbc.S (j0 : Nat → Nat → D13a → D13a → Int → Int → D13a → Option D13n) (l : D13a) : Option D13n :=
  ((Zpg 8 l)).bind fun x1 =>
  ((Zdn ((decide (0 < (List.length x1))) && true) (sortI x1) fun _x => ((decide ((List.length _x) = (List.length x1))) && true))).bind fun x2 =>
  ((Zdn ((decide (0 < (List.length x2))) && true) (compI x2) fun _x => ((decide ((List.length _x.2) = (List.length x2))) && true))).bind fun x3 =>
  j0 0 (Int.toNat x3.1) [] l (lenL l) 0 x3.2
def Zbc (l : D13a) : Option D13n := Zbc.S (Zbc.l0 fu) l
def Zpd.S0 (self : D13a → Int → Int → D13j → Option D13g) (x1 : D13a) (x2 x3 : Int) (x4 : D13j) : Option D13g :=
  bif (ltI x3 x2) then
   bif (inB x3 (lenL x1)) then
    ((Zva (nth x1 x3 0))).bind fun x5 =>
    ((Zlc x4 x5)).bind fun x6 =>
    self x1 x2 (addI .i64 x3 1) x6.2.2
   else none
  else
   ((Zoi x4)).bind fun x7 =>
   some (x7.1, 0)
def Zpd.l0 : Nat → D13a → Int → Int → D13j → Option D13g
  | 0 => fun _ _ _ _ => none
  | n + 1 => Zpd.S0 (Zpd.l0 n)
def Zpd.S (j0 : D13a → Int → Int → D13j → Option D13g) (d : D13a) : Option D13g :=
  j0 d (lenL d) 0 (true, [])
def Zpd (d : D13a) : Option D13g := Zpd.S (Zpd.l0 fu) d
def Zsg (l : D13a) : Option D13g :=
  bif (ltI 65536 (lenL l)) then
   some (eB, 1)
  else
   bif (eqI (lenL l) 0) then
    some (eB, 0)
   else
    ((Zbc l)).bind fun x1 =>
    ((Zpd x1.1)).bind fun x2 =>
    bif (neI x2.2 0) then
     some (eB, x2.2)
    else
     ((Zza x1.2)).bind fun x3 =>
     ((Zea x1.2 x3)).bind fun x4 =>
     ((Zva (lenL x1.1))).bind fun x5 =>
     bif (roomS x5 x2.1) then
      bif (roomS (addS x5 x2.1) x4.1) then
       some ((addS (addS x5 x2.1) x4.1), x4.2)
      else none
     else none
def Zpl (l : D13a) : Option D13g :=
  ((Zsg l)).bind fun x1 =>
  some x1
def Zug (l : D13a) (code : Int) : Option D13g :=
  bif (eqI code 1) then
   ((Zca l)).bind fun x1 =>
   some (x1, 0)
  else
   bif (eqI code 2) then
    ((Zjd l)).bind fun x2 =>
    ((Zbd x2)).bind fun x3 =>
    some x3
   else
    bif (eqI code 3) then
     ((Znn l)).bind fun x4 =>
     some x4
    else
     bif (eqI code 4) then
      ((Zpl l)).bind fun x5 =>
      some x5
     else
      bif (eqI code 5) then
       ((Zza l)).bind fun x6 =>
       ((Zea l x6)).bind fun x7 =>
       bif (roomS (ofBytes [(IntKind.wrap .u8 x6)]) x7.1) then
        some ((addS (ofBytes [(IntKind.wrap .u8 x6)]) x7.1), x7.2)
       else none
      else
       some (eB, 1)
def Zqe (b : D13j) (c : Int) : Option (Bool × D13j) :=
  bif (roomB ((List.length (Zrj b).2) + 1) 1) then
   some (true, (Zrj b).1, ((Zrj b).2 ++ [c]))
  else none
def Zlb.S0 (self : D13e → Int → Int → D13j → Option D13g) (x1 : D13e) (x2 x3 : Int) (x4 : D13j) : Option D13g :=
  bif (ltI x3 x2) then
   bif (inB x3 (lenL x1)) then
    bif (ltI 32 (lenS (nth x1 x3 eB))) then
     some (eB, 1)
    else
     ((Zqe x4 (IntKind.wrap .u8 (lenS (nth x1 x3 eB))))).bind fun x5 =>
     ((Zlc x5.2 (nth x1 x3 eB))).bind fun x6 =>
     self x1 x2 (addI .i64 x3 1) x6.2.2
   else none
  else
   ((Zoi x4)).bind fun x7 =>
   some (x7.1, 0)
def Zlb.l0 : Nat → D13e → Int → Int → D13j → Option D13g
  | 0 => fun _ _ _ _ => none
  | n + 1 => Zlb.S0 (Zlb.l0 n)
def Zlb.S (j0 : D13e → Int → Int → D13j → Option D13g) (l : D13e) : Option D13g :=
  j0 l (lenL l) 0 (true, [])
def Zlb (l : D13e) : Option D13g := Zlb.S (Zlb.l0 fu) l
def cmp_isNaN_string (x : ByteArray) : Bool :=
  (!(eqS x x))
def cmp_Less_string (x y : ByteArray) : Bool :=
  bif (cmp_isNaN_string x) then
   bif (!(cmp_isNaN_string y)) then
    true
   else
    (ltS x y)
  else
   (ltS x y)
def cmp_Less_string.o (x y : ByteArray) : Option Bool :=
  bif (cmp_isNaN_string x) then
   bif (!(cmp_isNaN_string y)) then
    some true
   else
    some (ltS x y)
  else
   some (ltS x y)
def Zgi (x : ByteArray) : Bool :=
  (!(eqS x x))
def Zk.S1 (x7 : D13e) (x8 : ByteArray) (x9 x10 : Int) : Option (Int × Bool) :=
  bif (ltI x10 x9) then
   bif (inB x10 (lenL x7)) then
    bif (eqS (nth x7 x10 eB) x8) then
     some (x10, true)
    else
     bif (inB x10 (lenL x7)) then
      bif (Zgi (nth x7 x10 eB)) then
       some (x10, (Zgi x8))
      else
       some (x10, false)
     else none
   else none
  else
   some (x10, false)
def Zk.t1 : Nat → D13e → ByteArray → Int → Int → Option (Int × Bool)
  | 0 => fun _ _ _ _ => none
  | _ + 1 => Zk.S1
def Zk.S0 (o1_0 : D13e → ByteArray → Int → Int → Option (Int × Bool)) (self : D13e → ByteArray → Int → Int → Int → Option (Int × Bool)) (x1 : D13e) (x2 : ByteArray) (x3 x4 x5 : Int) : Option (Int × Bool) :=
  bif (ltI x4 x5) then
   bif (inB (IntKind.wrap .i64 (shrI .u64 (IntKind.wrap .u64 (addI .i64 x4 x5)) 1)) (lenL x1)) then
    bif (cmp_Less_string (nth x1 (IntKind.wrap .i64 (shrI .u64 (IntKind.wrap .u64 (addI .i64 x4 x5)) 1)) eB) x2) then
     self x1 x2 x3 (addI .i64 (IntKind.wrap .i64 (shrI .u64 (IntKind.wrap .u64 (addI .i64 x4 x5)) 1)) 1) x5
    else
     self x1 x2 x3 x4 (IntKind.wrap .i64 (shrI .u64 (IntKind.wrap .u64 (addI .i64 x4 x5)) 1))
   else none
  else
   o1_0 x1 x2 x3 x4
def Zk.l0 (o1_0 : D13e → ByteArray → Int → Int → Option (Int × Bool)) : Nat → D13e → ByteArray → Int → Int → Int → Option (Int × Bool)
  | 0 => fun _ _ _ _ _ => none
  | n + 1 => Zk.S0 o1_0 (Zk.l0 o1_0 n)
def Zk.S (j0 : D13e → ByteArray → Int → Int → Int → Option (Int × Bool)) (x : D13e) (target : ByteArray) : Option (Int × Bool) :=
  j0 x target (lenL x) 0 (lenL x)
def Zk (x : D13e) (target : ByteArray) : Option (Int × Bool) := Zk.S (Zk.l0 (Zk.t1 fu) fu) x target
def Zdb.S0 (self : Nat → Nat → D13a → D13e → Int → Int → D13e → Option D13r) (x4 x5 : Nat) (x6 : D13a) (x7 : D13e) (x8 x9 : Int) (x10 : D13e) : Option D13r :=
  bif (ltI x9 x8) then
   bif (inB x9 (lenL x7)) then
    ((Zk (List.take x5 (List.drop x4 x10)) (nth x7 x9 eB))).bind fun x11 =>
    bif (roomB ((List.length x6) + 1) 8) then
     self x4 x5 (x6 ++ [x11.1]) x7 x8 (addI .i64 x9 1) x10
    else none
   else none
  else
   some ((List.take x5 (List.drop x4 x10)), x6)
def Zdb.l0 : Nat → Nat → Nat → D13a → D13e → Int → Int → D13e → Option D13r
  | 0 => fun _ _ _ _ _ _ _ => none
  | n + 1 => Zdb.S0 (Zdb.l0 n)
def Zdb.S (j0 : Nat → Nat → D13a → D13e → Int → Int → D13e → Option D13r) (l : D13e) : Option D13r :=
  ((Zpg 16 l)).bind fun x1 =>
  ((Zdn ((decide (0 < (List.length x1))) && true) (sortS x1) fun _x => ((decide ((List.length _x) = (List.length x1))) && true))).bind fun x2 =>
  ((Zdn ((decide (0 < (List.length x2))) && true) (compS x2) fun _x => ((decide ((List.length _x.2) = (List.length x2))) && true))).bind fun x3 =>
  j0 0 (Int.toNat x3.1) [] l (lenL l) 0 x3.2
def Zdb (l : D13e) : Option D13r := Zdb.S (Zdb.l0 fu) l
def Zxe (l : D13e) : Option D13g :=
  bif (ltI 65536 (lenL l)) then
   some (eB, 1)
  else
   bif (eqI (lenL l) 0) then
    some (eB, 0)
   else
    ((Zdb l)).bind fun x1 =>
    ((Zlb x1.1)).bind fun x2 =>
    bif (neI x2.2 0) then
     some (eB, x2.2)
    else
     ((Zza x1.2)).bind fun x3 =>
     ((Zea x1.2 x3)).bind fun x4 =>
     ((Zva (lenL x1.1))).bind fun x5 =>
     bif (roomS x5 x2.1) then
      bif (roomS (addS x5 x2.1) x4.1) then
       some ((addS (addS x5 x2.1) x4.1), x4.2)
      else none
     else none
def Zjk (l : D13e) : Option D13g :=
  ((Zxe l)).bind fun x1 =>
  some x1
def Zei (l : D13e) (code : Int) : Option D13g :=
  bif (eqI code 1) then
   ((Zlb l)).bind fun x1 =>
   some x1
  else
   bif (eqI code 4) then
    ((Zjk l)).bind fun x2 =>
    some x2
   else
    bif (eqI code 2) then
     bif (eqI (lenL l) 0) then
      some (eB, 0)
     else
      ((Zdb l)).bind fun x3 =>
      ((Zlb x3.1)).bind fun x4 =>
      bif (neI x4.2 0) then
       some (eB, x4.2)
      else
       ((Zjd x3.2)).bind fun x5 =>
       ((Zbd x5)).bind fun x6 =>
       ((Zva (lenL x3.1))).bind fun x7 =>
       bif (roomS x7 x4.1) then
        bif (roomS (addS x7 x4.1) x6.1) then
         some ((addS (addS x7 x4.1) x6.1), x6.2)
        else none
       else none
    else
     some (eB, 1)
def Zna.S1 (x8 x9 : Int) (x10 : D13a) (x11 : D13e) : Option D13g :=
  bif (eqI x8 1) then
   ((Zug x10 x9)).bind fun x12 =>
   some x12
  else
   ((Zei x11 x9)).bind fun x13 =>
   some x13
def Zna.t1 : Nat → Int → Int → D13a → D13e → Option D13g
  | 0 => fun _ _ _ _ => none
  | _ + 1 => Zna.S1
def Zna.S0 (o1_0 : Int → Int → D13a → D13e → Option D13g) (self : Int → Int → D13a → D13e → D13u → Int → Int → Option D13g) (x1 x2 : Int) (x3 : D13a) (x4 : D13e) (x5 : D13u) (x6 x7 : Int) : Option D13g :=
  bif (ltI x7 x6) then
   bif (inB x7 (lenL x5)) then
    bif (roomB ((List.length x3) + 1) 8) then
     bif (roomB ((List.length x4) + 1) 16) then
      self x1 x2 (x3 ++ [(nth x5 x7 (0, 0, eB)).2.1]) (x4 ++ [(nth x5 x7 (0, 0, eB)).2.2]) x5 x6 (addI .i64 x7 1)
     else none
    else none
   else none
  else
   o1_0 x1 x2 x3 x4
def Zna.l0 (o1_0 : Int → Int → D13a → D13e → Option D13g) : Nat → Int → Int → D13a → D13e → D13u → Int → Int → Option D13g
  | 0 => fun _ _ _ _ _ _ _ => none
  | n + 1 => Zna.S0 o1_0 (Zna.l0 o1_0 n)
def Zna.S (j0 : Int → Int → D13a → D13e → D13u → Int → Int → Option D13g) (l : D13u) (kind code : Int) : Option D13g :=
  j0 kind code [] [] l (lenL l) 0
def Zna (l : D13u) (kind code : Int) : Option D13g := Zna.S (Zna.l0 (Zna.t1 fu) fu) l kind code
def Zpa.S1 (o0_1 : ByteArray → Int → Int → Int → Option Int) (self : ByteArray → Int → Int → Int → Int → Option Int) (x5 : ByteArray) (x6 x7 : Int) (x8 x9 : Int) : Option Int :=
  bif (ltI x9 8) then
   self x5 (xorI .u32 (shrI .u32 x6 1) (andI .u32 2197175160 (subI .u32 0 (andI .u32 x6 1)))) x7 x8 (addI .i64 x9 1)
  else
   o0_1 x5 x6 x7 (addI .i64 x8 1)
def Zpa.l1 (o0_1 : ByteArray → Int → Int → Int → Option Int) : Nat → ByteArray → Int → Int → Int → Int → Option Int
  | 0 => fun _ _ _ _ _ => none
  | n + 1 => Zpa.S1 o0_1 (Zpa.l1 o0_1 n)
def Zpa.S0 (j1 : ByteArray → Int → Int → Int → Int → Option Int) (x1 : ByteArray) (x2 x3 x4 : Int) : Option Int :=
  bif (ltI x4 x3) then
   bif (inB x4 (lenS x1)) then
    j1 x1 (xorI .u32 x2 (IntKind.wrap .u32 (byteAt x1 x4))) x3 x4 0
   else none
  else
   some (IntKind.wrap .i64 (xorI .u32 4294967295 x2))
def Zpa.l0 : Nat → ByteArray → Int → Int → Int → Option Int
  | 0 => fun _ _ _ _ => none
  | n + 1 => Zpa.S0 (Zpa.l1 (Zpa.l0 n) n)
def Zpa.S (j0 : ByteArray → Int → Int → Int → Option Int) (sum : Int) (s : ByteArray) : Option Int :=
  j0 s (xorI .u32 4294967295 (IntKind.wrap .u32 sum)) (lenS s) 0
def Zpa (sum : Int) (s : ByteArray) : Option Int := Zpa.S (Zpa.l0 fu) sum s
def Zwp (s : ByteArray) : Option Int :=
  ((Zpa 0 s)).bind fun x1 =>
  some x1
def Zwb.S0 (self : Int → D13a → Int → Option ByteArray) (x2 : Int) (x3 : D13a) (x4 : Int) : Option ByteArray :=
  bif (ltI x4 4) then
   bif (leI 0 (mulI .i64 8 x4)) then
    bif (roomB ((List.length x3) + 1) 1) then
     self x2 (x3 ++ [(IntKind.wrap .u8 (shrI .u32 x2 (mulI .i64 8 x4)))]) (addI .i64 x4 1)
    else none
   else none
  else
   some (ofBytes x3)
def Zwb.l0 : Nat → Int → D13a → Int → Option ByteArray
  | 0 => fun _ _ _ => none
  | n + 1 => Zwb.S0 (Zwb.l0 n)
def Zwb.S (j0 : Int → D13a → Int → Option ByteArray) (s : ByteArray) : Option ByteArray :=
  ((Zwp s)).bind fun x1 =>
  bif ((leI 0 (addI .i64 (lenS s) 4)) && (roomB (Int.toNat (addI .i64 (lenS s) 4)) 1)) then
   bif (roomB (0 + (ByteArray.size s)) 1) then
    j0 (IntKind.wrap .u32 x1) (Zl s) 0
   else none
  else none
def Zwb (s : ByteArray) : Option ByteArray := Zwb.S (Zwb.l0 fu) s
def Zhe (l : D13u) (kind code : Int) : Option D13g :=
  ((Zzk l kind)).bind fun x1 =>
  bif (!x1) then
   some (eB, 1)
  else
   ((Zoa l)).bind fun x2 =>
   ((Zna x2.2 kind code)).bind fun x3 =>
   bif (neI x3.2 0) then
    some (eB, 1)
   else
    bif (roomS (ofBytes [(IntKind.wrap .u8 kind), (IntKind.wrap .u8 code), (IntKind.wrap .u8 (lenL l)), (IntKind.wrap .u8 (lenS x2.1))]) x2.1) then
     bif (roomS (addS (ofBytes [(IntKind.wrap .u8 kind), (IntKind.wrap .u8 code), (IntKind.wrap .u8 (lenL l)), (IntKind.wrap .u8 (lenS x2.1))]) x2.1) x3.1) then
      ((Zwb (addS (addS (ofBytes [(IntKind.wrap .u8 kind), (IntKind.wrap .u8 code), (IntKind.wrap .u8 (lenL l)), (IntKind.wrap .u8 (lenS x2.1))]) x2.1) x3.1))).bind fun x4 =>
      some (x4, 0)
     else none
    else none
def Zeo (s : ByteArray) : Option D13g :=
  bif (ltI (subI .i64 (lenS s) 4) 0) then
   some (eB, 5)
  else
   bif (inC 0 (subI .i64 (lenS s) 4) (lenS s)) then
    ((Zwb (cutS s 0 (subI .i64 (lenS s) 4)))).bind fun x1 =>
    bif (!(eqS x1 s)) then
     some (eB, 5)
    else
     bif (inC 0 (subI .i64 (lenS s) 4) (lenS s)) then
      some ((cutS s 0 (subI .i64 (lenS s) 4)), 0)
     else none
   else none
def Zkd.S0 (self : ByteArray → Int → Int → Int → Int → Option Int) (x1 : ByteArray) (x2 x3 : Int) (x4 x5 : Int) : Option Int :=
  bif (ltI x5 x2) then
   bif (inB (shrI .i64 x4 3) (lenS x1)) then
    bif (leI 0 (andI .i64 x4 7)) then
     ((Zln (minI (subI .i64 8 (andI .i64 x4 7)) (subI .i64 x2 x5)))).bind fun x6 =>
     bif (leI 0 x5) then
      self x1 x2 (orI .u64 x3 (shlI .u64 (andI .u64 (shrI .u64 (IntKind.wrap .u64 (byteAt x1 (shrI .i64 x4 3))) (andI .i64 x4 7)) (IntKind.wrap .u64 x6)) x5)) (addI .i64 x4 (minI (subI .i64 8 (andI .i64 x4 7)) (subI .i64 x2 x5))) (addI .i64 x5 (minI (subI .i64 8 (andI .i64 x4 7)) (subI .i64 x2 x5)))
     else none
    else none
   else none
  else
   some (IntKind.wrap .i64 x3)
def Zkd.l0 : Nat → ByteArray → Int → Int → Int → Int → Option Int
  | 0 => fun _ _ _ _ _ => none
  | n + 1 => Zkd.S0 (Zkd.l0 n)
def Zkd.S (j0 : ByteArray → Int → Int → Int → Int → Option Int) (s : ByteArray) (xk width : Int) : Option Int :=
  j0 s width 0 (mulI .i64 xk width) 0
def Zkd (s : ByteArray) (xk width : Int) : Option Int := Zkd.S (Zkd.l0 fu) s xk width
def Zwa.S1 (self : ByteArray → Int → Int → Int → D13a → Option D13h) (x5 : ByteArray) (x6 x7 x8 : Int) (x9 : D13a) : Option D13h :=
  bif (ltI x8 x7) then
   ((Zkd x5 x8 x6)).bind fun x10 =>
   bif (inB x8 (lenL x9)) then
    self x5 x6 x7 (addI .i64 x8 1) (List.set x9 (Int.toNat x8) x10)
   else none
  else
   some (x9, 0)
def Zwa.l1 : Nat → ByteArray → Int → Int → Int → D13a → Option D13h
  | 0 => fun _ _ _ _ _ => none
  | n + 1 => Zwa.S1 (Zwa.l1 n)
def Zwa.S0 (j1 : ByteArray → Int → Int → Int → D13a → Option D13h) (x2 : ByteArray) (x3 x4 : Int) : Option D13h :=
  bif ((leI 0 x3) && (roomB (Int.toNat x3) 8)) then
   j1 x2 x4 x3 0 (List.replicate (Int.toNat x3) (0 : Int))
  else none
def Zwa.t0 : Nat → ByteArray → Int → Int → Option D13h
  | 0 => fun _ _ _ => none
  | n + 1 => Zwa.S0 (Zwa.l1 n)
def Zwa.S (j0 : ByteArray → Int → Int → Option D13h) (s : ByteArray) (xn width : Int) : Option D13h :=
  bif (ltI width 0) then
   some ([], 1)
  else
   bif (ltI 64 width) then
    some ([], 1)
   else
    bif (ltI xn 0) then
     some ([], 1)
    else
     bif (ltI 65536 xn) then
      some ([], 1)
     else
      bif (neI (lenS s) (Zqf xn width)) then
       some ([], 20)
      else
       bif (ltI 0 (andI .i64 (mulI .i64 xn width) 7)) then
        bif (inB (subI .i64 (lenS s) 1) (lenS s)) then
         bif (leI 0 (andI .i64 (mulI .i64 xn width) 7)) then
          bif (ltI 0 (shrI .u8 (byteAt s (subI .i64 (lenS s) 1)) (andI .i64 (mulI .i64 xn width) 7))) then
           some ([], 20)
          else
           j0 s xn width
         else none
        else none
       else
        j0 s xn width
def Zwa (s : ByteArray) (xn width : Int) : Option D13h := Zwa.S (Zwa.t0 fu) s xn width
def Zqa.S0 (self : D13a → Int → Int → Int → Option Int) (x1 : D13a) (x2 x3 x4 : Int) : Option Int :=
  bif (ltI x4 x3) then
   bif (inB x4 (lenL x1)) then
    bif (eqI x2 (nth x1 x4 0)) then
     some x4
    else
     self x1 x2 x3 (addI .i64 x4 1)
   else none
  else
   some (-1)
def Zqa.l0 : Nat → D13a → Int → Int → Int → Option Int
  | 0 => fun _ _ _ _ => none
  | n + 1 => Zqa.S0 (Zqa.l0 n)
def Zqa.S (j0 : D13a → Int → Int → Int → Option Int) (s : D13a) (v : Int) : Option Int :=
  j0 s v (lenL s) 0
def Zqa (s : D13a) (v : Int) : Option Int := Zqa.S (Zqa.l0 fu) s v
def Zgf (s : D13a) (v : Int) : Option Bool :=
  ((Zqa s v)).bind fun x1 =>
  some (leI 0 x1)
def Zql (s : ByteArray) (xn : Int) : Option D13h :=
  bif (ltI xn 0) then
   some ([], 1)
  else
   bif (ltI 65536 xn) then
    some ([], 1)
   else
    bif (eqS s eB) then
     bif ((leI 0 xn) && (roomB (Int.toNat xn) 8)) then
      some ((List.replicate (Int.toNat xn) (0 : Int)), 0)
     else none
    else
     ((Zwa s xn 1)).bind fun x1 =>
     bif (neI x1.2 0) then
      some ([], 20)
     else
      ((Zgf x1.1 1)).bind fun x2 =>
      bif (!x2) then
       some ([], 20)
      else
       some (x1.1, 0)
def Zyb.S0 (self : Int → Int → D13a → Int → Int → Option D13b) (x2 x3 : Int) (x4 : D13a) (x5 x6 : Int) : Option D13b :=
  bif (ltI x6 x5) then
   bif (inB x6 (lenL x4)) then
    self x2 (addI .i64 x3 (nth x4 x6 0)) x4 x5 (addI .i64 x6 1)
   else none
  else
   some (x3, x2)
def Zyb.l0 : Nat → Int → Int → D13a → Int → Int → Option D13b
  | 0 => fun _ _ _ _ _ => none
  | n + 1 => Zyb.S0 (Zyb.l0 n)
def Zyb.S (j0 : Int → Int → D13a → Int → Int → Option D13b) (s : ByteArray) (xn : Int) : Option D13b :=
  ((Zql s xn)).bind fun x1 =>
  j0 x1.2 0 x1.1 (lenL x1.1) 0
def Zyb (s : ByteArray) (xn : Int) : Option D13b := Zyb.S (Zyb.l0 fu) s xn
def Zx.S1 (o0_1 : ByteArray → Int → Int → D13a → Option D13h) (self : ByteArray → Int → Int → Int → Int → Int → D13a → Option D13h) (x5 : ByteArray) (x6 x7 : Int) (x8 x9 x10 : Int) (x11 : D13a) : Option D13h :=
  bif (ltI x10 8) then
   bif (inB (addI .i64 (mulI .i64 8 x6) x10) (lenS x5)) then
    bif (leI 0 (mulI .i64 8 x10)) then
     self x5 x6 (orI .u64 x7 (shlI .u64 (IntKind.wrap .u64 (byteAt x5 (addI .i64 (mulI .i64 8 x6) x10))) (mulI .i64 8 x10))) x8 x9 (addI .i64 x10 1) x11
    else none
   else none
  else
   bif (inB x6 (lenL x11)) then
    o0_1 x5 x8 (addI .i64 x9 1) (List.set x11 (Int.toNat x6) (IntKind.wrap .i64 x7))
   else none
def Zx.l1 (o0_1 : ByteArray → Int → Int → D13a → Option D13h) : Nat → ByteArray → Int → Int → Int → Int → Int → D13a → Option D13h
  | 0 => fun _ _ _ _ _ _ _ => none
  | n + 1 => Zx.S1 o0_1 (Zx.l1 o0_1 n)
def Zx.S0 (j1 : ByteArray → Int → Int → Int → Int → Int → D13a → Option D13h) (x1 : ByteArray) (x2 x3 : Int) (x4 : D13a) : Option D13h :=
  bif (ltI x3 x2) then
   j1 x1 x3 0 x2 x3 0 x4
  else
   some (x4, 0)
def Zx.l0 : Nat → ByteArray → Int → Int → D13a → Option D13h
  | 0 => fun _ _ _ _ => none
  | n + 1 => Zx.S0 (Zx.l1 (Zx.l0 n) n)
def Zx.S (j0 : ByteArray → Int → Int → D13a → Option D13h) (s : ByteArray) (xn : Int) : Option D13h :=
  bif (ltI xn 0) then
   some ([], 20)
  else
   bif (neI (remI (lenS s) 8) 0) then
    some ([], 20)
   else
    bif (neI xn (quoI .i64 (lenS s) 8)) then
     some ([], 20)
    else
     bif ((leI 0 xn) && (roomB (Int.toNat xn) 8)) then
      j0 s xn 0 (List.replicate (Int.toNat xn) (0 : Int))
     else none
def Zx (s : ByteArray) (xn : Int) : Option D13h := Zx.S (Zx.l0 fu) s xn
def Zcb.S1 (x7 : Int) (x8 : D13o) (x9 : Int) : Option D13v :=
  ((Zqc x8)).bind fun x10 =>
  bif (!x10.2) then
   some ([], 20)
  else
   bif (neI x9 x7) then
    some ([], 20)
   else
    some (x8, 0)
def Zcb.t1 : Nat → Int → D13o → Int → Option D13v
  | 0 => fun _ _ _ => none
  | _ + 1 => Zcb.S1
def Zcb.S0 (o1_0 : Int → D13o → Int → Option D13v) (self : ByteArray → Int → D13o → Int → Option D13v) (x1 : ByteArray) (x2 : Int) (x3 : D13o) (x4 : Int) : Option D13v :=
  bif (!(eqS x1 eB)) then
   ((Zec x1)).bind fun x5 =>
   bif (neI x5.2.2 0) then
    some ([], 20)
   else
    bif (inC x5.2.1 (lenS x1) (lenS x1)) then
     ((Zec (cutS x1 x5.2.1 (lenS x1)))).bind fun x6 =>
     bif (neI x6.2.2 0) then
      some ([], 20)
     else
      bif (ltI x6.1 1) then
       some ([], 20)
      else
       bif (ltI (subI .i64 x2 x4) x6.1) then
        some ([], 20)
       else
        bif (roomB ((List.length x3) + 1) 24) then
         bif (inC (addI .i64 x5.2.1 x6.2.1) (lenS x1) (lenS x1)) then
          self (cutS x1 (addI .i64 x5.2.1 x6.2.1) (lenS x1)) x2 (x3 ++ [(x5.1, x4, x6.1)]) (addI .i64 x4 x6.1)
         else none
        else none
    else none
  else
   o1_0 x2 x3 x4
def Zcb.l0 (o1_0 : Int → D13o → Int → Option D13v) : Nat → ByteArray → Int → D13o → Int → Option D13v
  | 0 => fun _ _ _ _ => none
  | n + 1 => Zcb.S0 o1_0 (Zcb.l0 o1_0 n)
def Zcb.S (j0 : ByteArray → Int → D13o → Int → Option D13v) (s : ByteArray) (xn : Int) : Option D13v :=
  bif (ltI xn 0) then
   some ([], 1)
  else
   bif (ltI 65536 xn) then
    some ([], 1)
   else
    j0 s xn [] 0
def Zcb (s : ByteArray) (xn : Int) : Option D13v := Zcb.S (Zcb.l0 (Zcb.t1 fu) fu) s xn
def Zrl (x y : Int) : Int × Int :=
  ((addI .u64 (addI .u64 (mulI .u64 (shrI .u64 x 32) (shrI .u64 y 32)) (shrI .u64 (addI .u64 (mulI .u64 (shrI .u64 x 32) (andI .u64 y 4294967295)) (shrI .u64 (mulI .u64 (andI .u64 x 4294967295) (andI .u64 y 4294967295)) 32)) 32)) (shrI .u64 (addI .u64 (andI .u64 (addI .u64 (mulI .u64 (shrI .u64 x 32) (andI .u64 y 4294967295)) (shrI .u64 (mulI .u64 (andI .u64 x 4294967295) (andI .u64 y 4294967295)) 32)) 4294967295) (mulI .u64 (andI .u64 x 4294967295) (shrI .u64 y 32))) 32)), (mulI .u64 x y))
def Zkk (x y : Int) : Int × Int :=
  (Zrl x y)
def Zo.S2 (self : Int → D13a → Option D13d) (x6 : Int) (x7 : D13a) : Option D13d :=
  bif (ltI x6 (lenL x7)) then
   bif (inC x6 (lenL x7) (lenL x7)) then
    bif (inC 0 x6 (lenL x7)) then
     self (addI .i64 x6 (((List.length (List.take ((Int.toNat (lenL x7)) - (Int.toNat x6)) (List.take ((Int.toNat x6) - 0) (List.drop 0 x7)))) : Nat) : Int)) (splA x7 (Int.toNat x6) (List.take ((Int.toNat (lenL x7)) - (Int.toNat x6)) (List.take ((Int.toNat x6) - 0) (List.drop 0 x7))))
    else none
   else none
  else
   some x7
def Zo.l2 : Nat → Int → D13a → Option D13d
  | 0 => fun _ _ => none
  | n + 1 => Zo.S2 (Zo.l2 n)
def Zo.S1 (j2 : Int → D13a → Option D13d) (x4 : D13a) (x5 : Int) : Option D13d :=
  bif ((leI 0 (IntKind.wrap .i64 x5)) && (roomB (Int.toNat (IntKind.wrap .i64 x5)) 8)) then
   j2 (((List.length (List.take (List.length (List.replicate (Int.toNat (IntKind.wrap .i64 x5)) (0 : Int))) x4)) : Nat) : Int) (splA (List.replicate (Int.toNat (IntKind.wrap .i64 x5)) (0 : Int)) 0 (List.take (List.length (List.replicate (Int.toNat (IntKind.wrap .i64 x5)) (0 : Int))) x4))
  else none
def Zo.t1 : Nat → D13a → Int → Option D13d
  | 0 => fun _ _ => none
  | n + 1 => Zo.S1 (Zo.l2 n)
def Zo.S0 (j1 : D13a → Int → Option D13d) (x1 : D13a) (x2 : Int) : Option D13d :=
  let x3 := (Zkk (IntKind.wrap .u64 (lenL x1)) (IntKind.wrap .u64 x2))
  bif (ltI 0 x3.1) then
   none
  else
   bif (ltI 9223372036854775807 x3.2) then
    none
   else
    j1 x1 x3.2
def Zo.t0 : Nat → D13a → Int → Option D13d
  | 0 => fun _ _ => none
  | n + 1 => Zo.S0 (Zo.t1 n)
def Zo.S (j0 : D13a → Int → Option D13d) (x : D13a) (count : Int) : Option D13d :=
  bif (ltI count 0) then
   none
  else
   j0 x count
def Zo (x : D13a) (count : Int) : Option D13d := Zo.S (Zo.t0 fu) x count
def Zvc.S0 (self : D13a → D13o → Int → Int → Option D13h) (x2 : D13a) (x3 : D13o) (x4 x5 : Int) : Option D13h :=
  bif (ltI x5 x4) then
   bif (inB x5 (lenL x3)) then
    ((Zo [(nth x3 x5 (0, 0, 0)).1] (nth x3 x5 (0, 0, 0)).2.2)).bind fun x6 =>
    bif (roomB ((List.length x2) + (List.length x6)) 8) then
     self (x2 ++ x6) x3 x4 (addI .i64 x5 1)
    else none
   else none
  else
   some (x2, 0)
def Zvc.l0 : Nat → D13a → D13o → Int → Int → Option D13h
  | 0 => fun _ _ _ _ => none
  | n + 1 => Zvc.S0 (Zvc.l0 n)
def Zvc.S (j0 : D13a → D13o → Int → Int → Option D13h) (l : D13o) : Option D13h :=
  ((Zqc l)).bind fun x1 =>
  bif (!x1.2) then
   some ([], 1)
  else
   bif ((leI 0 x1.1) && (roomB (Int.toNat x1.1) 8)) then
    j0 [] l (lenL l) 0
   else none
def Zvc (l : D13o) : Option D13h := Zvc.S (Zvc.l0 fu) l
def Zre (t0 : ByteArray) (t1 : Bool) : Option (Int × ByteArray × Bool) :=
  ((Zec t0)).bind fun x1 =>
  bif t1 then
   bif (inC x1.2.1 (lenS t0) (lenS t0)) then
    some (x1.1, (cutS t0 x1.2.1 (lenS t0)), true)
   else none
  else
   bif (inC x1.2.1 (lenS t0) (lenS t0)) then
    some (x1.1, (cutS t0 x1.2.1 (lenS t0)), (neI x1.2.2 0))
   else none
def Zjh (xfrom xby : Int) : Int :=
  (IntKind.wrap .i64 (addI .u64 (IntKind.wrap .u64 xfrom) (IntKind.wrap .u64 xby)))
def Zz.S2 (x18 : ByteArray) (x19 : D13a) (x20 : Bool) : Option D13h :=
  ((Znn x19)).bind fun x21 =>
  bif x20 then
   some ([], 20)
  else
   bif (neI x21.2 0) then
    some ([], 20)
   else
    bif (!(eqS x21.1 x18)) then
     some ([], 20)
    else
     some (x19, 0)
def Zz.t2 : Nat → ByteArray → D13a → Bool → Option D13h
  | 0 => fun _ _ _ => none
  | _ + 1 => Zz.S2
def Zz.S1 (o2_1 : ByteArray → D13a → Bool → Option D13h) (self : ByteArray → D13a → Int → D13a → Int → Int → Bool → Option D13h) (x9 : ByteArray) (x10 : D13a) (x11 : Int) (x12 : D13a) (x13 x14 : Int) (x15 : Bool) : Option D13h :=
  bif (ltI x14 x13) then
   bif (inB x14 (lenL x12)) then
    bif (inB (subI .i64 (lenL x10) 1) (lenL x10)) then
     bif (roomB ((List.length x10) + 1) 8) then
      self x9 (x10 ++ [(Zjh (Zjh (nth x10 (subI .i64 (lenL x10) 1) 0) x11) (nth x12 x14 0))]) x11 x12 x13 (addI .i64 x14 1) x15
     else none
    else none
   else none
  else
   o2_1 x9 x10 x15
def Zz.l1 (o2_1 : ByteArray → D13a → Bool → Option D13h) : Nat → ByteArray → D13a → Int → D13a → Int → Int → Bool → Option D13h
  | 0 => fun _ _ _ _ _ _ _ => none
  | n + 1 => Zz.S1 o2_1 (Zz.l1 o2_1 n)
def Zz.S0 (j1 : ByteArray → D13a → Int → D13a → Int → Int → Bool → Option D13h) (j2 : ByteArray → D13a → Bool → Option D13h) (x2 : ByteArray) (x3 : Int) (x4 : D13a) (x5 : ByteArray) (x6 : Bool) : Option D13h :=
  bif (ltI 1 x3) then
   ((Zre x5 x6)).bind fun x7 =>
   bif x7.2.2 then
    some ([], 20)
   else
    bif (eqS x7.2.1 eB) then
     some ([], 20)
    else
     bif (inC 1 (lenS x7.2.1) (lenS x7.2.1)) then
      bif (inB 0 (lenS x7.2.1)) then
       ((Zwa (cutS x7.2.1 1 (lenS x7.2.1)) (subI .i64 x3 1) (IntKind.wrap .i64 (byteAt x7.2.1 0)))).bind fun x8 =>
       bif (neI x8.2 0) then
        some ([], 20)
       else
        j1 x2 x4 x7.1 x8.1 (lenL x8.1) 0 x7.2.2
      else none
     else none
  else
   j2 x2 x4 x6
def Zz.t0 : Nat → ByteArray → Int → D13a → ByteArray → Bool → Option D13h
  | 0 => fun _ _ _ _ _ => none
  | n + 1 => Zz.S0 (Zz.l1 (Zz.t2 n) n) (Zz.t2 n)
def Zz.S (j0 : ByteArray → Int → D13a → ByteArray → Bool → Option D13h) (s : ByteArray) (xn : Int) : Option D13h :=
  bif (ltI xn 0) then
   some ([], 1)
  else
   bif (ltI 65536 xn) then
    some ([], 1)
   else
    bif (ltI 0 xn) then
     ((Zre s false)).bind fun x1 =>
     j0 s xn [x1.1] x1.2.1 x1.2.2
    else
     j0 s xn [] s false
def Zz (s : ByteArray) (xn : Int) : Option D13h := Zz.S (Zz.t0 fu) s xn
def Zhi (s : ByteArray) : Option D13b :=
  ((Zec s)).bind fun x1 =>
  bif (neI x1.2.2 0) then
   some (0, 0)
  else
   some (x1.1, x1.2.1)
def Zma.S0 (self : D13c → Bool → Int → Int → Option Int) (x1 : D13c) (x2 : Bool) (x3 x4 : Int) : Option Int :=
  bif (ltI x4 x3) then
   bif (inB x4 (lenL x1)) then
    bif (eqB x2 (nth x1 x4 false)) then
     some x4
    else
     self x1 x2 x3 (addI .i64 x4 1)
   else none
  else
   some (-1)
def Zma.l0 : Nat → D13c → Bool → Int → Int → Option Int
  | 0 => fun _ _ _ _ => none
  | n + 1 => Zma.S0 (Zma.l0 n)
def Zma.S (j0 : D13c → Bool → Int → Int → Option Int) (s : D13c) (v : Bool) : Option Int :=
  j0 s v (lenL s) 0
def Zma (s : D13c) (v : Bool) : Option Int := Zma.S (Zma.l0 fu) s v
def Zcd (s : D13c) (v : Bool) : Option Bool :=
  ((Zma s v)).bind fun x1 =>
  some (leI 0 x1)
def Zb.S3 (x24 x25 : D13a) (x26 : D13c) : Option D13s :=
  ((Zcd x26 false)).bind fun x27 =>
  bif x27 then
   some ([], [], 20)
  else
   some (x24, x25, 0)
def Zb.t3 : Nat → D13a → D13a → D13c → Option D13s
  | 0 => fun _ _ _ => none
  | _ + 1 => Zb.S3
def Zb.S2 (o3_1 : D13a → D13a → D13c → Option D13s) (self : Int → D13a → D13a → D13a → Int → Int → D13c → Option D13s) (x17 : Int) (x18 x19 x20 : D13a) (x21 x22 : Int) (x23 : D13c) : Option D13s :=
  bif (ltI x22 x21) then
   bif (inB x22 (lenL x20)) then
    bif (ltI (nth x20 x22 0) 0) then
     some ([], [], 20)
    else
     bif (leI x17 (nth x20 x22 0)) then
      some ([], [], 20)
     else
      bif (inB (nth x20 x22 0) (lenL x23)) then
       self x17 x18 x19 x20 x21 (addI .i64 x22 1) (List.set x23 (Int.toNat (nth x20 x22 0)) true)
      else none
   else none
  else
   o3_1 x18 x19 x23
def Zb.l2 (o3_1 : D13a → D13a → D13c → Option D13s) : Nat → Int → D13a → D13a → D13a → Int → Int → D13c → Option D13s
  | 0 => fun _ _ _ _ _ _ _ => none
  | n + 1 => Zb.S2 o3_1 (Zb.l2 o3_1 n)
def Zb.S1 (j2 : Int → D13a → D13a → D13a → Int → Int → D13c → Option D13s) (x10 : ByteArray) (x11 x12 x13 : Int) (x14 : D13a) : Option D13s :=
  bif (inC x13 (lenS x10) (lenS x10)) then
   ((Zza [(subI .i64 x12 1)])).bind fun x15 =>
   ((Zwa (cutS x10 x13 (lenS x10)) x11 x15)).bind fun x16 =>
   bif (neI x16.2 0) then
    some ([], [], 20)
   else
    bif ((leI 0 x12) && (roomB (Int.toNat x12) 1)) then
     j2 x12 x14 x16.1 x16.1 (lenL x16.1) 0 (List.replicate (Int.toNat x12) false)
    else none
  else none
def Zb.t1 : Nat → ByteArray → Int → Int → Int → D13a → Option D13s
  | 0 => fun _ _ _ _ _ => none
  | n + 1 => Zb.S1 (Zb.l2 (Zb.t3 n) n)
def Zb.S0 (o1_0 : ByteArray → Int → Int → Int → D13a → Option D13s) (self : ByteArray → Int → Int → Int → D13a → Int → Int → Option D13s) (x2 : ByteArray) (x3 x4 x5 : Int) (x6 : D13a) (x7 x8 : Int) : Option D13s :=
  bif (ltI x8 x7) then
   bif (inC x5 (lenS x2) (lenS x2)) then
    ((Zhi (cutS x2 x5 (lenS x2)))).bind fun x9 =>
    bif (eqI x9.2 0) then
     some ([], [], 20)
    else
     bif (ltI 0 x8) then
      bif (inB (subI .i64 x8 1) (lenL x6)) then
       bif (leI x9.1 (nth x6 (subI .i64 x8 1) 0)) then
        some ([], [], 20)
       else
        bif (roomB ((List.length x6) + 1) 8) then
         self x2 x3 x4 (addI .i64 x5 x9.2) (x6 ++ [x9.1]) x7 (addI .i64 x8 1)
        else none
      else none
     else
      bif (roomB ((List.length x6) + 1) 8) then
       self x2 x3 x4 (addI .i64 x5 x9.2) (x6 ++ [x9.1]) x7 (addI .i64 x8 1)
      else none
   else none
  else
   o1_0 x2 x3 x4 x5 x6
def Zb.l0 (o1_0 : ByteArray → Int → Int → Int → D13a → Option D13s) : Nat → ByteArray → Int → Int → Int → D13a → Int → Int → Option D13s
  | 0 => fun _ _ _ _ _ _ _ => none
  | n + 1 => Zb.S0 o1_0 (Zb.l0 o1_0 n)
def Zb.S (j0 : ByteArray → Int → Int → Int → D13a → Int → Int → Option D13s) (s : ByteArray) (xn : Int) : Option D13s :=
  bif (ltI xn 0) then
   some ([], [], 1)
  else
   bif (ltI 65536 xn) then
    some ([], [], 1)
   else
    bif (eqI xn 0) then
     bif (!(eqS s eB)) then
      some ([], [], 20)
     else
      some ([], [], 0)
    else
     ((Zec s)).bind fun x1 =>
     bif (neI x1.2.2 0) then
      some ([], [], 20)
     else
      bif (ltI x1.1 1) then
       some ([], [], 20)
      else
       bif (ltI xn x1.1) then
        some ([], [], 20)
       else
        j0 s xn x1.1 x1.2.1 [] x1.1 0
def Zb (s : ByteArray) (xn : Int) : Option D13s := Zb.S (Zb.l0 (Zb.t1 fu) fu) s xn
def Zac.S0 (self : D13a → D13a → D13a → Int → Int → Option D13d) (x1 x2 x3 : D13a) (x4 x5 : Int) : Option D13d :=
  bif (ltI x5 x4) then
   bif (inB x5 (lenL x3)) then
    bif (inB (nth x3 x5 0) (lenL x1)) then
     bif (roomB ((List.length x2) + 1) 8) then
      self x1 (x2 ++ [(nth x1 (nth x3 x5 0) 0)]) x3 x4 (addI .i64 x5 1)
     else none
    else none
   else none
  else
   some x2
def Zac.l0 : Nat → D13a → D13a → D13a → Int → Int → Option D13d
  | 0 => fun _ _ _ _ _ => none
  | n + 1 => Zac.S0 (Zac.l0 n)
def Zac.S (j0 : D13a → D13a → D13a → Int → Int → Option D13d) (d places : D13a) : Option D13d :=
  j0 d [] places (lenL places) 0
def Zac (d places : D13a) : Option D13d := Zac.S (Zac.l0 fu) d places
def Zlk (s : ByteArray) (xn : Int) : Option D13h :=
  ((Zb s xn)).bind fun x1 =>
  bif (neI x1.2.2 0) then
   some ([], x1.2.2)
  else
   ((Zac x1.1 x1.2.1)).bind fun x2 =>
   some (x2, 0)
def Zsl (s : ByteArray) (xn code : Int) : Option D13h :=
  bif (eqI code 1) then
   ((Zx s xn)).bind fun x1 =>
   some x1
  else
   bif (eqI code 2) then
    ((Zcb s xn)).bind fun x2 =>
    bif (neI x2.2 0) then
     some ([], x2.2)
    else
     ((Zvc x2.1)).bind fun x3 =>
     some x3
   else
    bif (eqI code 3) then
     ((Zz s xn)).bind fun x4 =>
     some x4
    else
     bif (eqI code 4) then
      ((Zlk s xn)).bind fun x5 =>
      some x5
     else
      bif (eqI code 5) then
       bif (!(eqS s eB)) then
        bif (inC 1 (lenS s) (lenS s)) then
         bif (inB 0 (lenS s)) then
          ((Zwa (cutS s 1 (lenS s)) xn (IntKind.wrap .i64 (byteAt s 0)))).bind fun x6 =>
          some x6
         else none
        else none
       else
        some ([], 5)
      else
       some ([], 5)
def Zda.S1 (x4 : Int) (x5 : D13e) : Option D13l :=
  bif (neI (lenL x5) x4) then
   some ([], 20)
  else
   some (x5, 0)
def Zda.t1 : Nat → Int → D13e → Option D13l
  | 0 => fun _ _ => none
  | _ + 1 => Zda.S1
def Zda.S0 (o1_0 : Int → D13e → Option D13l) (self : ByteArray → Int → D13e → Option D13l) (x1 : ByteArray) (x2 : Int) (x3 : D13e) : Option D13l :=
  bif (!(eqS x1 eB)) then
   bif (inB 0 (lenS x1)) then
    bif (ltI 32 (IntKind.wrap .i64 (byteAt x1 0))) then
     some ([], 20)
    else
     bif (leI (lenS x1) (IntKind.wrap .i64 (byteAt x1 0))) then
      some ([], 20)
     else
      bif (inC 1 (addI .i64 1 (IntKind.wrap .i64 (byteAt x1 0))) (lenS x1)) then
       bif (roomB ((List.length x3) + 1) 16) then
        bif (inC (addI .i64 1 (IntKind.wrap .i64 (byteAt x1 0))) (lenS x1) (lenS x1)) then
         self (cutS x1 (addI .i64 1 (IntKind.wrap .i64 (byteAt x1 0))) (lenS x1)) x2 (x3 ++ [(cutS x1 1 (addI .i64 1 (IntKind.wrap .i64 (byteAt x1 0))))])
        else none
       else none
      else none
   else none
  else
   o1_0 x2 x3
def Zda.l0 (o1_0 : Int → D13e → Option D13l) : Nat → ByteArray → Int → D13e → Option D13l
  | 0 => fun _ _ _ => none
  | n + 1 => Zda.S0 o1_0 (Zda.l0 o1_0 n)
def Zda.S (j0 : ByteArray → Int → D13e → Option D13l) (s : ByteArray) (xn : Int) : Option D13l :=
  j0 s xn []
def Zda (s : ByteArray) (xn : Int) : Option D13l := Zda.S (Zda.l0 (Zda.t1 fu) fu) s xn
def Zt.S2 (self : Int → D13e → D13e → D13a → Int → Int → Option D13l) (x16 : Int) (x17 x18 : D13e) (x19 : D13a) (x20 x21 : Int) : Option D13l :=
  bif (ltI x21 x20) then
   bif (inB x21 (lenL x19)) then
    bif (ltI (nth x19 x21 0) 0) then
     some ([], 5)
    else
     bif (leI x16 (nth x19 x21 0)) then
      some ([], 5)
     else
      bif (inB (nth x19 x21 0) (lenL x17)) then
       bif (roomB ((List.length x18) + 1) 16) then
        self x16 x17 (x18 ++ [(nth x17 (nth x19 x21 0) eB)]) x19 x20 (addI .i64 x21 1)
       else none
      else none
   else none
  else
   some (x18, 0)
def Zt.l2 : Nat → Int → D13e → D13e → D13a → Int → Int → Option D13l
  | 0 => fun _ _ _ _ _ _ => none
  | n + 1 => Zt.S2 (Zt.l2 n)
def Zt.S1 (j2 : Int → D13e → D13e → D13a → Int → Int → Option D13l) (x9 : ByteArray) (x10 x11 x12 : Int) (x13 : D13e) : Option D13l :=
  bif (inC x12 (lenS x9) (lenS x9)) then
   ((Zcb (cutS x9 x12 (lenS x9)) x10)).bind fun x14 =>
   bif (neI x14.2 0) then
    some ([], x14.2)
   else
    ((Zvc x14.1)).bind fun x15 =>
    bif (neI x15.2 0) then
     some ([], x15.2)
    else
     j2 x11 x13 [] x15.1 (lenL x15.1) 0
  else none
def Zt.t1 : Nat → ByteArray → Int → Int → Int → D13e → Option D13l
  | 0 => fun _ _ _ _ _ => none
  | n + 1 => Zt.S1 (Zt.l2 n)
def Zt.S0 (o1_0 : ByteArray → Int → Int → Int → D13e → Option D13l) (self : ByteArray → Int → Int → Int → D13e → Int → Int → Option D13l) (x2 : ByteArray) (x3 x4 x5 : Int) (x6 : D13e) (x7 x8 : Int) : Option D13l :=
  bif (ltI x8 x7) then
   bif (leI (lenS x2) x5) then
    some ([], 5)
   else
    bif (inB x5 (lenS x2)) then
     bif (leI (subI .i64 (lenS x2) x5) (IntKind.wrap .i64 (byteAt x2 x5))) then
      some ([], 5)
     else
      bif (inB x5 (lenS x2)) then
       bif (inC (addI .i64 x5 1) (addI .i64 (addI .i64 x5 1) (IntKind.wrap .i64 (byteAt x2 x5))) (lenS x2)) then
        bif (roomB ((List.length x6) + 1) 16) then
         self x2 x3 x4 (addI .i64 (addI .i64 x5 1) (IntKind.wrap .i64 (byteAt x2 x5))) (x6 ++ [(cutS x2 (addI .i64 x5 1) (addI .i64 (addI .i64 x5 1) (IntKind.wrap .i64 (byteAt x2 x5))))]) x7 (addI .i64 x8 1)
        else none
       else none
      else none
    else none
  else
   o1_0 x2 x3 x4 x5 x6
def Zt.l0 (o1_0 : ByteArray → Int → Int → Int → D13e → Option D13l) : Nat → ByteArray → Int → Int → Int → D13e → Int → Int → Option D13l
  | 0 => fun _ _ _ _ _ _ _ => none
  | n + 1 => Zt.S0 o1_0 (Zt.l0 o1_0 n)
def Zt.S (j0 : ByteArray → Int → Int → Int → D13e → Int → Int → Option D13l) (s : ByteArray) (xn : Int) : Option D13l :=
  bif (eqI xn 0) then
   bif (!(eqS s eB)) then
    some ([], 5)
   else
    some ([], 0)
  else
   ((Zec s)).bind fun x1 =>
   bif (neI x1.2.2 0) then
    some ([], 5)
   else
    bif (ltI x1.1 1) then
     some ([], 5)
    else
     bif (ltI xn x1.1) then
      some ([], 5)
     else
      j0 s xn x1.1 x1.2.1 [] x1.1 0
def Zt (s : ByteArray) (xn : Int) : Option D13l := Zt.S (Zt.l0 (Zt.t1 fu) fu) s xn
def Zmk (s : ByteArray) : Option D13g :=
  bif (eqS s eB) then
   some (eB, 0)
  else
   bif (inB 0 (lenS s)) then
    bif (ltI 32 (IntKind.wrap .i64 (byteAt s 0))) then
     some (eB, 0)
    else
     bif (leI (lenS s) (IntKind.wrap .i64 (byteAt s 0))) then
      some (eB, 0)
     else
      bif (inC 1 (addI .i64 1 (IntKind.wrap .i64 (byteAt s 0))) (lenS s)) then
       some ((cutS s 1 (addI .i64 1 (IntKind.wrap .i64 (byteAt s 0)))), (addI .i64 1 (IntKind.wrap .i64 (byteAt s 0))))
      else none
   else none
def Za.S3 (x24 : D13e) (x25 : D13a) (x26 : D13c) : Option D13w :=
  ((Zcd x26 false)).bind fun x27 =>
  bif x27 then
   some ([], [], 20)
  else
   some (x24, x25, 0)
def Za.t3 : Nat → D13e → D13a → D13c → Option D13w
  | 0 => fun _ _ _ => none
  | _ + 1 => Za.S3
def Za.S2 (o3_1 : D13e → D13a → D13c → Option D13w) (self : Int → D13e → D13a → D13a → Int → Int → D13c → Option D13w) (x17 : Int) (x18 : D13e) (x19 x20 : D13a) (x21 x22 : Int) (x23 : D13c) : Option D13w :=
  bif (ltI x22 x21) then
   bif (inB x22 (lenL x20)) then
    bif (ltI (nth x20 x22 0) 0) then
     some ([], [], 20)
    else
     bif (leI x17 (nth x20 x22 0)) then
      some ([], [], 20)
     else
      bif (inB (nth x20 x22 0) (lenL x23)) then
       self x17 x18 x19 x20 x21 (addI .i64 x22 1) (List.set x23 (Int.toNat (nth x20 x22 0)) true)
      else none
   else none
  else
   o3_1 x18 x19 x23
def Za.l2 (o3_1 : D13e → D13a → D13c → Option D13w) : Nat → Int → D13e → D13a → D13a → Int → Int → D13c → Option D13w
  | 0 => fun _ _ _ _ _ _ _ => none
  | n + 1 => Za.S2 o3_1 (Za.l2 o3_1 n)
def Za.S1 (j2 : Int → D13e → D13a → D13a → Int → Int → D13c → Option D13w) (x10 : ByteArray) (x11 x12 x13 : Int) (x14 : D13e) : Option D13w :=
  bif (inC x13 (lenS x10) (lenS x10)) then
   ((Zza [(subI .i64 x12 1)])).bind fun x15 =>
   ((Zwa (cutS x10 x13 (lenS x10)) x11 x15)).bind fun x16 =>
   bif (neI x16.2 0) then
    some ([], [], 20)
   else
    bif ((leI 0 x12) && (roomB (Int.toNat x12) 1)) then
     j2 x12 x14 x16.1 x16.1 (lenL x16.1) 0 (List.replicate (Int.toNat x12) false)
    else none
  else none
def Za.t1 : Nat → ByteArray → Int → Int → Int → D13e → Option D13w
  | 0 => fun _ _ _ _ _ => none
  | n + 1 => Za.S1 (Za.l2 (Za.t3 n) n)
def Za.S0 (o1_0 : ByteArray → Int → Int → Int → D13e → Option D13w) (self : ByteArray → Int → Int → Int → D13e → Int → Int → Option D13w) (x2 : ByteArray) (x3 x4 x5 : Int) (x6 : D13e) (x7 x8 : Int) : Option D13w :=
  bif (ltI x8 x7) then
   bif (inC x5 (lenS x2) (lenS x2)) then
    ((Zmk (cutS x2 x5 (lenS x2)))).bind fun x9 =>
    bif (eqI x9.2 0) then
     some ([], [], 20)
    else
     bif (ltI 0 x8) then
      bif (inB (subI .i64 x8 1) (lenL x6)) then
       bif ((ltS x9.1 (nth x6 (subI .i64 x8 1) eB)) || (eqS x9.1 (nth x6 (subI .i64 x8 1) eB))) then
        some ([], [], 20)
       else
        bif (roomB ((List.length x6) + 1) 16) then
         self x2 x3 x4 (addI .i64 x5 x9.2) (x6 ++ [x9.1]) x7 (addI .i64 x8 1)
        else none
      else none
     else
      bif (roomB ((List.length x6) + 1) 16) then
       self x2 x3 x4 (addI .i64 x5 x9.2) (x6 ++ [x9.1]) x7 (addI .i64 x8 1)
      else none
   else none
  else
   o1_0 x2 x3 x4 x5 x6
def Za.l0 (o1_0 : ByteArray → Int → Int → Int → D13e → Option D13w) : Nat → ByteArray → Int → Int → Int → D13e → Int → Int → Option D13w
  | 0 => fun _ _ _ _ _ _ _ => none
  | n + 1 => Za.S0 o1_0 (Za.l0 o1_0 n)
def Za.S (j0 : ByteArray → Int → Int → Int → D13e → Int → Int → Option D13w) (s : ByteArray) (xn : Int) : Option D13w :=
  bif (ltI xn 0) then
   some ([], [], 1)
  else
   bif (ltI 65536 xn) then
    some ([], [], 1)
   else
    bif (eqI xn 0) then
     bif (!(eqS s eB)) then
      some ([], [], 20)
     else
      some ([], [], 0)
    else
     ((Zec s)).bind fun x1 =>
     bif (neI x1.2.2 0) then
      some ([], [], 20)
     else
      bif (ltI x1.1 1) then
       some ([], [], 20)
      else
       bif (ltI xn x1.1) then
        some ([], [], 20)
       else
        j0 s xn x1.1 x1.2.1 [] x1.1 0
def Za (s : ByteArray) (xn : Int) : Option D13w := Za.S (Za.l0 (Za.t1 fu) fu) s xn
def Zgq (s : ByteArray) (xn : Int) : Option D13w :=
  ((Za s xn)).bind fun x1 =>
  some x1
def Zhb.S0 (self : D13e → D13e → D13a → Int → Int → Option (D13e)) (x1 x2 : D13e) (x3 : D13a) (x4 x5 : Int) : Option (D13e) :=
  bif (ltI x5 x4) then
   bif (inB x5 (lenL x3)) then
    bif (inB (nth x3 x5 0) (lenL x1)) then
     bif (roomB ((List.length x2) + 1) 16) then
      self x1 (x2 ++ [(nth x1 (nth x3 x5 0) eB)]) x3 x4 (addI .i64 x5 1)
     else none
    else none
   else none
  else
   some x2
def Zhb.l0 : Nat → D13e → D13e → D13a → Int → Int → Option (D13e)
  | 0 => fun _ _ _ _ _ => none
  | n + 1 => Zhb.S0 (Zhb.l0 n)
def Zhb.S (j0 : D13e → D13e → D13a → Int → Int → Option (D13e)) (d : D13e) (places : D13a) : Option (D13e) :=
  j0 d [] places (lenL places) 0
def Zhb (d : D13e) (places : D13a) : Option (D13e) := Zhb.S (Zhb.l0 fu) d places
def Zhj (s : ByteArray) (xn : Int) : Option D13l :=
  ((Zgq s xn)).bind fun x1 =>
  bif (neI x1.2.2 0) then
   some ([], x1.2.2)
  else
   ((Zhb x1.1 x1.2.1)).bind fun x2 =>
   some (x2, 0)
def Zwj (s : ByteArray) (xn code : Int) : Option D13l :=
  bif (eqI code 1) then
   ((Zda s xn)).bind fun x1 =>
   some x1
  else
   bif (eqI code 2) then
    ((Zt s xn)).bind fun x2 =>
    some x2
   else
    bif (eqI code 4) then
     ((Zhj s xn)).bind fun x3 =>
     some x3
    else
     some ([], 5)
def Zja.S0 (self : D13u → Int → D13a → Int → Int → D13p → Option D13x) (x2 : D13u) (x3 : Int) (x4 : D13a) (x5 x6 : Int) (x7 : D13p) : Option D13x :=
  bif (ltI x6 x5) then
   bif (inB x6 (lenL x4)) then
    bif (roomB ((List.length x2) + 1) 32) then
     self (x2 ++ [(x7.1, (nth x4 x6 0), eB)]) x3 x4 x5 (addI .i64 x6 1) x7
    else none
   else none
  else
   some (x2, x3)
def Zja.l0 : Nat → D13u → Int → D13a → Int → Int → D13p → Option D13x
  | 0 => fun _ _ _ _ _ _ => none
  | n + 1 => Zja.S0 (Zja.l0 n)
def Zja.S1 (self : D13u → Int → D13e → Int → Int → D13p → Option D13x) (x9 : D13u) (x10 : Int) (x11 : D13e) (x12 x13 : Int) (x14 : D13p) : Option D13x :=
  bif (ltI x13 x12) then
   bif (inB x13 (lenL x11)) then
    bif (roomB ((List.length x9) + 1) 32) then
     self (x9 ++ [(x14.1, 0, (nth x11 x13 eB))]) x10 x11 x12 (addI .i64 x13 1) x14
    else none
   else none
  else
   some (x9, x10)
def Zja.l1 : Nat → D13u → Int → D13e → Int → Int → D13p → Option D13x
  | 0 => fun _ _ _ _ _ _ => none
  | n + 1 => Zja.S1 (Zja.l1 n)
def Zja.S (j0 : D13u → Int → D13a → Int → Int → D13p → Option D13x) (j1 : D13u → Int → D13e → Int → Int → D13p → Option D13x) (s : ByteArray) (xn : Int) (h : D13p) : Option D13x :=
  bif (eqI h.1 1) then
   ((Zsl s xn h.2.1)).bind fun x1 =>
   j0 [] x1.2 x1.1 (lenL x1.1) 0 h
  else
   bif (eqI h.1 2) then
    ((Zwj s xn h.2.1)).bind fun x8 =>
    j1 [] x8.2 x8.1 (lenL x8.1) 0 h
   else
    some ([], 5)
def Zja (s : ByteArray) (xn : Int) (h : D13p) : Option D13x := Zja.S (Zja.l0 fu) (Zja.l1 fu) s xn h
def Zn.S0 (self : D13u → Int → Int → Option Int) (x1 : D13u) (x2 x3 : Int) : Option Int :=
  bif (ltI x3 x2) then
   bif (inB x3 (lenL x1)) then
    bif (Zdg (nth x1 x3 (0, 0, eB))) then
     some x3
    else
     self x1 x2 (addI .i64 x3 1)
   else none
  else
   some (-1)
def Zn.l0 : Nat → D13u → Int → Int → Option Int
  | 0 => fun _ _ _ => none
  | n + 1 => Zn.S0 (Zn.l0 n)
def Zn.S (j0 : D13u → Int → Int → Option Int) (s : D13u) : Option Int :=
  j0 s (lenL s) 0
def Zn (s : D13u) : Option Int := Zn.S (Zn.l0 fu) s
def Zhc (s : D13u) : Option Bool :=
  ((Zn s)).bind fun x1 =>
  some (leI 0 x1)
def Zoc.S0 (self : D13u → D13a → Int → Int → D13u → Option D13x) (x4 : D13u) (x5 : D13a) (x6 x7 : Int) (x8 : D13u) : Option D13x :=
  bif (ltI x7 x6) then
   bif (inB x7 (lenL x5)) then
    bif (eqI (nth x5 x7 0) 0) then
     bif (inB 0 (lenL x4)) then
      bif (inC 1 (lenL x4) (lenL x4)) then
       bif (inB x7 (lenL x8)) then
        self (List.drop 1 x4) x5 x6 (addI .i64 x7 1) (List.set x8 (Int.toNat x7) (nth x4 0 (0, 0, eB)))
       else none
      else none
     else none
    else
     self x4 x5 x6 (addI .i64 x7 1) x8
   else none
  else
   some (x8, 0)
def Zoc.l0 : Nat → D13u → D13a → Int → Int → D13u → Option D13x
  | 0 => fun _ _ _ _ _ => none
  | n + 1 => Zoc.S0 (Zoc.l0 n)
def Zoc.S (j0 : D13u → D13a → Int → Int → D13u → Option D13x) (s : ByteArray) (xn : Int) (l : D13u) : Option D13x :=
  ((Zql s xn)).bind fun x1 =>
  bif (neI x1.2 0) then
   some ([], x1.2)
  else
   ((Zyb s xn)).bind fun x2 =>
   bif (neI (lenL l) (subI .i64 xn x2.1)) then
    some ([], 20)
   else
    ((Zhc l)).bind fun x3 =>
    bif x3 then
     some ([], 20)
    else
     bif ((leI 0 xn) && (roomB (Int.toNat xn) 32)) then
      j0 l x1.1 (lenL (List.replicate (Int.toNat xn) ((0 : Int), ((0 : Int), eB)))) 0 (List.replicate (Int.toNat xn) ((0 : Int), ((0 : Int), eB)))
     else none
def Zoc (s : ByteArray) (xn : Int) (l : D13u) : Option D13x := Zoc.S (Zoc.l0 fu) s xn l
def Zeh (s : ByteArray) : Option ((D13p × (ByteArray × D13z)) × Bool) :=
  ((Zeo s)).bind fun x1 =>
  bif (neI x1.2 0) then
   some (((0, 0, 0, 0), eB, eB, []), false)
  else
   bif (ltI (lenS x1.1) 4) then
    some (((0, 0, 0, 0), eB, eB, []), false)
   else
    bif (inB 3 (lenS x1.1)) then
     bif (ltI (subI .i64 (lenS x1.1) 4) (IntKind.wrap .i64 (byteAt x1.1 3))) then
      some (((0, 0, 0, 0), eB, eB, []), false)
     else
      bif (inB 3 (lenS x1.1)) then
       bif (inB 0 (lenS x1.1)) then
        bif (inB 1 (lenS x1.1)) then
         bif (inB 2 (lenS x1.1)) then
          bif (inC 4 (addI .i64 4 (IntKind.wrap .i64 (byteAt x1.1 3))) (lenS x1.1)) then
           bif (inC (addI .i64 4 (IntKind.wrap .i64 (byteAt x1.1 3))) (lenS x1.1) (lenS x1.1)) then
            ((Zyb (cutS x1.1 4 (addI .i64 4 (IntKind.wrap .i64 (byteAt x1.1 3)))) (IntKind.wrap .i64 (byteAt x1.1 2)))).bind fun x2 =>
            bif (neI x2.2 0) then
             some ((((IntKind.wrap .i64 (byteAt x1.1 0)), (IntKind.wrap .i64 (byteAt x1.1 1)), (IntKind.wrap .i64 (byteAt x1.1 2)), x2.1), (cutS x1.1 4 (addI .i64 4 (IntKind.wrap .i64 (byteAt x1.1 3)))), (cutS x1.1 (addI .i64 4 (IntKind.wrap .i64 (byteAt x1.1 3))) (lenS x1.1)), []), false)
            else
             ((Zja (cutS x1.1 (addI .i64 4 (IntKind.wrap .i64 (byteAt x1.1 3))) (lenS x1.1)) (subI .i64 (IntKind.wrap .i64 (byteAt x1.1 2)) x2.1) ((IntKind.wrap .i64 (byteAt x1.1 0)), (IntKind.wrap .i64 (byteAt x1.1 1)), (IntKind.wrap .i64 (byteAt x1.1 2)), x2.1))).bind fun x3 =>
             bif (neI x3.2 0) then
              some ((((IntKind.wrap .i64 (byteAt x1.1 0)), (IntKind.wrap .i64 (byteAt x1.1 1)), (IntKind.wrap .i64 (byteAt x1.1 2)), x2.1), (cutS x1.1 4 (addI .i64 4 (IntKind.wrap .i64 (byteAt x1.1 3)))), (cutS x1.1 (addI .i64 4 (IntKind.wrap .i64 (byteAt x1.1 3))) (lenS x1.1)), []), false)
             else
              ((Zoc (cutS x1.1 4 (addI .i64 4 (IntKind.wrap .i64 (byteAt x1.1 3)))) (IntKind.wrap .i64 (byteAt x1.1 2)) x3.1)).bind fun x4 =>
              bif (neI x4.2 0) then
               some ((((IntKind.wrap .i64 (byteAt x1.1 0)), (IntKind.wrap .i64 (byteAt x1.1 1)), (IntKind.wrap .i64 (byteAt x1.1 2)), x2.1), (cutS x1.1 4 (addI .i64 4 (IntKind.wrap .i64 (byteAt x1.1 3)))), (cutS x1.1 (addI .i64 4 (IntKind.wrap .i64 (byteAt x1.1 3))) (lenS x1.1)), x4.1), false)
              else
               ((Zhe x4.1 (IntKind.wrap .i64 (byteAt x1.1 0)) (IntKind.wrap .i64 (byteAt x1.1 1)))).bind fun x5 =>
               bif (eqI x5.2 0) then
                some ((((IntKind.wrap .i64 (byteAt x1.1 0)), (IntKind.wrap .i64 (byteAt x1.1 1)), (IntKind.wrap .i64 (byteAt x1.1 2)), x2.1), (cutS x1.1 4 (addI .i64 4 (IntKind.wrap .i64 (byteAt x1.1 3)))), (cutS x1.1 (addI .i64 4 (IntKind.wrap .i64 (byteAt x1.1 3))) (lenS x1.1)), x4.1), (eqS x5.1 s))
               else
                some ((((IntKind.wrap .i64 (byteAt x1.1 0)), (IntKind.wrap .i64 (byteAt x1.1 1)), (IntKind.wrap .i64 (byteAt x1.1 2)), x2.1), (cutS x1.1 4 (addI .i64 4 (IntKind.wrap .i64 (byteAt x1.1 3)))), (cutS x1.1 (addI .i64 4 (IntKind.wrap .i64 (byteAt x1.1 3))) (lenS x1.1)), x4.1), false)
           else none
          else none
         else none
        else none
       else none
      else none
    else none
def Ztl (s : ByteArray) : Option D13x :=
  ((Zeh s)).bind fun x1 =>
  bif (!x1.2) then
   some ([], 5)
  else
   some (x1.1.2.2.2, 0)
def Zfo (s : ByteArray) : Option (D13p × Int) :=
  ((Zeh s)).bind fun x1 =>
  bif (!x1.2) then
   some ((0, 0, 0, 0), 5)
  else
   some (x1.1.1, 0)
def Zgc.S0 (self : D13u → D13u → Int → Option Bool) (x1 x2 : D13u) (x3 : Int) : Option Bool :=
  bif (ltI x3 (lenL x1)) then
   bif (inB x3 (lenL x1)) then
    bif (inB x3 (lenL x2)) then
     bif (!((eqI (nth x1 x3 (0, 0, eB)).1 (nth x2 x3 (0, 0, eB)).1) && ((eqI (nth x1 x3 (0, 0, eB)).2.1 (nth x2 x3 (0, 0, eB)).2.1) && (eqS (nth x1 x3 (0, 0, eB)).2.2 (nth x2 x3 (0, 0, eB)).2.2)))) then
      some false
     else
      self x1 x2 (addI .i64 x3 1)
    else none
   else none
  else
   some true
def Zgc.l0 : Nat → D13u → D13u → Int → Option Bool
  | 0 => fun _ _ _ => none
  | n + 1 => Zgc.S0 (Zgc.l0 n)
def Zgc.S (j0 : D13u → D13u → Int → Option Bool) (a b : D13u) : Option Bool :=
  bif (neI (lenL a) (lenL b)) then
   some false
  else
   j0 a b 0
def Zgc (a b : D13u) : Option Bool := Zgc.S (Zgc.l0 fu) a b
def Zxj : Option Bool :=
  ((Zhe [(Zkn 7), (0, 0, eB), (Zkn 7)] 1 2)).bind fun x3 =>
  ((Ztl x3.1)).bind fun x4 =>
  ((Zfo x3.1)).bind fun x5 =>
  bif (eqI x3.2 0) then
   bif (eqI (lenS x3.1) 11) then
    ((Zgc x4.1 [(Zkn 7), (0, 0, eB), (Zkn 7)])).bind fun x6 =>
    bif x6 then
     bif (eqI x4.2 0) then
      bif ((eqI x5.1.1 1) && ((eqI x5.1.2.1 2) && ((eqI x5.1.2.2.1 3) && (eqI x5.1.2.2.2 1)))) then
       some (eqI x5.2 0)
      else
       some false
     else
      some false
    else
     some false
   else
    some false
  else
   some false
def Zqb.S1 (self : D13u → Int → Int → Option Bool) (x3 : D13u) (x4 x5 : Int) : Option Bool :=
  bif (ltI x5 (lenL x3)) then
   bif (inB x5 (lenL x3)) then
    bif (!(Zfd (nth x3 x5 (0, 0, eB)))) then
     some false
    else
     bif (inB x5 (lenL x3)) then
      bif (neI (nth x3 x5 (0, 0, eB)).1 0) then
       bif (inB x5 (lenL x3)) then
        bif (neI (nth x3 x5 (0, 0, eB)).1 x4) then
         some false
        else
         self x3 x4 (addI .i64 x5 1)
       else none
      else
       self x3 x4 (addI .i64 x5 1)
     else none
   else none
  else
   some true
def Zqb.l1 : Nat → D13u → Int → Int → Option Bool
  | 0 => fun _ _ _ => none
  | n + 1 => Zqb.S1 (Zqb.l1 n)
def Zqb.S0 (j1 : D13u → Int → Int → Option Bool) (x1 : D13u) (x2 : Int) : Option Bool :=
  j1 x1 x2 0
def Zqb.t0 : Nat → D13u → Int → Option Bool
  | 0 => fun _ _ => none
  | n + 1 => Zqb.S0 (Zqb.l1 n)
def Zqb.S (j0 : D13u → Int → Option Bool) (l : D13u) (kind : Int) : Option Bool :=
  bif (ltI (lenL l) 1) then
   some false
  else
   bif (ltI 64 (lenL l)) then
    some false
   else
    bif (neI kind 1) then
     bif (neI kind 2) then
      some false
     else
      j0 l kind
    else
     j0 l kind
def Zqb (l : D13u) (kind : Int) : Option Bool := Zqb.S (Zqb.t0 fu) l kind
def Zjc.S0 (self : Int → D13c → Option Int) (x2 : Int) (x3 : D13c) : Option Int :=
  bif (leI 0 x2) then
   bif ((inB x2 64) && (decide (64 = (List.length x3)))) then
    bif (List.getD x3 (Int.toNat x2) false) then
     some (addI .i64 x2 1)
    else
     self (subI .i64 x2 1) x3
   else none
  else
   some 0
def Zjc.l0 : Nat → Int → D13c → Option Int
  | 0 => fun _ _ => none
  | n + 1 => Zjc.S0 (Zjc.l0 n)
def Zjc.S (j0 : Int → D13c → Option Int) (word : Int) : Option Int :=
  ((Zzc word)).bind fun x1 =>
  j0 63 x1
def Zjc (word : Int) : Option Int := Zjc.S (Zjc.l0 fu) word
def Zcc.S0 (self : D13a → Int → Int → Option Int) (x1 : D13a) (x2 x3 : Int) : Option Int :=
  bif (ltI x3 (lenL x1)) then
   bif (inB x3 (lenL x1)) then
    ((Zjc (nth x1 x3 0))).bind fun x4 =>
    self x1 (maxI x2 x4) (addI .i64 x3 1)
   else none
  else
   some x2
def Zcc.l0 : Nat → D13a → Int → Int → Option Int
  | 0 => fun _ _ _ => none
  | n + 1 => Zcc.S0 (Zcc.l0 n)
def Zcc.S (j0 : D13a → Int → Int → Option Int) (l : D13a) : Option Int :=
  j0 l 0 0
def Zcc (l : D13a) : Option Int := Zcc.S (Zcc.l0 fu) l
def Zrf (xn width : Int) : Int :=
  bif (ltI xn 1) then
   0
  else
   bif (ltI 65536 xn) then
    0
   else
    bif (ltI width 1) then
     0
    else
     bif (ltI 64 width) then
      0
     else
      (quoI .i64 (addI .i64 (mulI .i64 xn width) 7) 8)
def Zrf.o (xn width : Int) : Option Int :=
  bif (ltI xn 1) then
   some 0
  else
   bif (ltI 65536 xn) then
    some 0
   else
    bif (ltI width 1) then
     some 0
    else
     bif (ltI 64 width) then
      some 0
     else
      some (quoI .i64 (addI .i64 (mulI .i64 xn width) 7) 8)
def Zta.S1 (o0_1 : D13a → Int → Int → D13a → Option D13g) (self : D13a → Int → Int → Int → D13a → Option D13g) (x7 : D13a) (x8 x9 x10 : Int) (x11 : D13a) : Option D13g :=
  bif (ltI x10 x8) then
   bif (inB x9 (lenL x7)) then
    bif (leI 0 x10) then
     bif (eqI (andI .i64 (shrI .i64 (nth x7 x9 0) x10) 1) 1) then
      bif (inB (quoI .i64 (addI .i64 (mulI .i64 x9 x8) x10) 8) (lenL x11)) then
       bif (leI 0 (remI (addI .i64 (mulI .i64 x9 x8) x10) 8)) then
        bif (inB (quoI .i64 (addI .i64 (mulI .i64 x9 x8) x10) 8) (lenL x11)) then
         self x7 x8 x9 (addI .i64 x10 1) (List.set x11 (Int.toNat (quoI .i64 (addI .i64 (mulI .i64 x9 x8) x10) 8)) (orI .u8 (List.getD x11 (Int.toNat (quoI .i64 (addI .i64 (mulI .i64 x9 x8) x10) 8)) 0) (shlI .u8 1 (remI (addI .i64 (mulI .i64 x9 x8) x10) 8))))
        else none
       else none
      else none
     else
      self x7 x8 x9 (addI .i64 x10 1) x11
    else none
   else none
  else
   o0_1 x7 x8 (addI .i64 x9 1) x11
def Zta.l1 (o0_1 : D13a → Int → Int → D13a → Option D13g) : Nat → D13a → Int → Int → Int → D13a → Option D13g
  | 0 => fun _ _ _ _ _ => none
  | n + 1 => Zta.S1 o0_1 (Zta.l1 o0_1 n)
def Zta.S0 (j1 : D13a → Int → Int → Int → D13a → Option D13g) (x3 : D13a) (x4 x5 : Int) (x6 : D13a) : Option D13g :=
  bif (ltI x5 (lenL x3)) then
   j1 x3 x4 x5 0 x6
  else
   some ((ofBytes x6), 0)
def Zta.l0 : Nat → D13a → Int → Int → D13a → Option D13g
  | 0 => fun _ _ _ _ => none
  | n + 1 => Zta.S0 (Zta.l1 (Zta.l0 n) n)
def Zta.S (j0 : D13a → Int → Int → D13a → Option D13g) (l : D13a) (width : Int) : Option D13g :=
  bif (ltI width 0) then
   some (eB, 1)
  else
   bif (ltI 64 width) then
    some (eB, 1)
   else
    bif (ltI 65536 (lenL l)) then
     some (eB, 1)
    else
     ((Zcc l)).bind fun x1 =>
     bif (ltI width x1) then
      some (eB, 1)
     else
      let x2 := (Zrf (lenL l) width)
      bif ((leI 0 x2) && (roomB (Int.toNat x2) 1)) then
       j0 l width 0 (List.replicate (Int.toNat x2) (0 : Int))
      else none
def Zta (l : D13a) (width : Int) : Option D13g := Zta.S (Zta.l0 fu) l width
def Zsa.S1 (x5 x6 : D13u) (x7 : D13a) : Option D13z :=
  bif (eqI (lenL x6) (lenL x5)) then
   some (eB, x6)
  else
   ((Zta x7 1)).bind fun x8 =>
   some (x8.1, x6)
def Zsa.t1 : Nat → D13u → D13u → D13a → Option D13z
  | 0 => fun _ _ _ => none
  | _ + 1 => Zsa.S1
def Zsa.S0 (o1_0 : D13u → D13u → D13a → Option D13z) (self : D13u → D13u → D13a → Int → Option D13z) (x1 x2 : D13u) (x3 : D13a) (x4 : Int) : Option D13z :=
  bif (ltI x4 (lenL x1)) then
   bif (inB x4 (lenL x1)) then
    bif (eqI (nth x1 x4 (0, 0, eB)).1 0) then
     bif (roomB ((List.length x3) + 1) 8) then
      self x1 x2 (x3 ++ [1]) (addI .i64 x4 1)
     else none
    else
     bif (roomB ((List.length x3) + 1) 8) then
      bif (inB x4 (lenL x1)) then
       bif (roomB ((List.length x2) + 1) 32) then
        self x1 (x2 ++ [(nth x1 x4 (0, 0, eB))]) (x3 ++ [0]) (addI .i64 x4 1)
       else none
      else none
     else none
   else none
  else
   o1_0 x1 x2 x3
def Zsa.l0 (o1_0 : D13u → D13u → D13a → Option D13z) : Nat → D13u → D13u → D13a → Int → Option D13z
  | 0 => fun _ _ _ _ => none
  | n + 1 => Zsa.S0 o1_0 (Zsa.l0 o1_0 n)
def Zsa.S (j0 : D13u → D13u → D13a → Int → Option D13z) (l : D13u) : Option D13z :=
  j0 l [] [] 0
def Zsa (l : D13u) : Option D13z := Zsa.S (Zsa.l0 (Zsa.t1 fu) fu) l
def Zdd.S0 (self : D13u → D13a → Int → Option D13d) (x1 : D13u) (x2 : D13a) (x3 : Int) : Option D13d :=
  bif (ltI x3 (lenL x1)) then
   bif (inB x3 (lenL x1)) then
    bif (roomB ((List.length x2) + 1) 8) then
     self x1 (x2 ++ [(nth x1 x3 (0, 0, eB)).2.1]) (addI .i64 x3 1)
    else none
   else none
  else
   some x2
def Zdd.l0 : Nat → D13u → D13a → Int → Option D13d
  | 0 => fun _ _ _ => none
  | n + 1 => Zdd.S0 (Zdd.l0 n)
def Zdd.S (j0 : D13u → D13a → Int → Option D13d) (l : D13u) : Option D13d :=
  j0 l [] 0
def Zdd (l : D13u) : Option D13d := Zdd.S (Zdd.l0 fu) l
def Zga.S1 (o0_1 : D13a → D13a → Int → Option ByteArray) (self : D13a → D13a → Int → Int → Option ByteArray) (x4 x5 : D13a) (x6 x7 : Int) : Option ByteArray :=
  bif (ltI x7 8) then
   bif (inB x6 (lenL x4)) then
    bif (leI 0 (mulI .i64 8 x7)) then
     bif (roomB ((List.length x5) + 1) 1) then
      self x4 (x5 ++ [(IntKind.wrap .u8 (andI .i64 (shrI .i64 (nth x4 x6 0) (mulI .i64 8 x7)) 255))]) x6 (addI .i64 x7 1)
     else none
    else none
   else none
  else
   o0_1 x4 x5 (addI .i64 x6 1)
def Zga.l1 (o0_1 : D13a → D13a → Int → Option ByteArray) : Nat → D13a → D13a → Int → Int → Option ByteArray
  | 0 => fun _ _ _ _ => none
  | n + 1 => Zga.S1 o0_1 (Zga.l1 o0_1 n)
def Zga.S0 (j1 : D13a → D13a → Int → Int → Option ByteArray) (x1 x2 : D13a) (x3 : Int) : Option ByteArray :=
  bif (ltI x3 (lenL x1)) then
   j1 x1 x2 x3 0
  else
   some (ofBytes x2)
def Zga.l0 : Nat → D13a → D13a → Int → Option ByteArray
  | 0 => fun _ _ _ => none
  | n + 1 => Zga.S0 (Zga.l1 (Zga.l0 n) n)
def Zga.S (j0 : D13a → D13a → Int → Option ByteArray) (l : D13a) : Option ByteArray :=
  j0 l [] 0
def Zga (l : D13a) : Option ByteArray := Zga.S (Zga.l0 fu) l
def Zsd.S0 (self : D13a → Int → D13o → Option D13q) (x1 : D13a) (x2 : Int) (x3 : D13o) : Option D13q :=
  bif (ltI x2 (lenL x1)) then
   bif (leI (lenL x1) 65536) then
    bif (ltI 0 x2) then
     bif (inB x2 (lenL x1)) then
      bif (inB (subI .i64 x2 1) (lenL x1)) then
       bif (eqI (nth x1 x2 0) (nth x1 (subI .i64 x2 1) 0)) then
        bif (inB (subI .i64 (lenL x3) 1) (lenL x3)) then
         bif (inB (subI .i64 (lenL x3) 1) (lenL x3)) then
          self x1 (addI .i64 x2 1) (List.set x3 (Int.toNat (subI .i64 (lenL x3) 1)) ((List.getD x3 (Int.toNat (subI .i64 (lenL x3) 1)) (0, 0, 0)).1, (List.getD x3 (Int.toNat (subI .i64 (lenL x3) 1)) (0, 0, 0)).2.1, (addI .i64 (List.getD x3 (Int.toNat (subI .i64 (lenL x3) 1)) (0, 0, 0)).2.2 1)))
         else none
        else none
       else
        bif (inB x2 (lenL x1)) then
         bif (roomB ((List.length x3) + 1) 24) then
          self x1 (addI .i64 x2 1) (x3 ++ [((nth x1 x2 0), x2, 1)])
         else none
        else none
      else none
     else none
    else
     bif (inB x2 (lenL x1)) then
      bif (roomB ((List.length x3) + 1) 24) then
       self x1 (addI .i64 x2 1) (x3 ++ [((nth x1 x2 0), x2, 1)])
      else none
     else none
   else
    some x3
  else
   some x3
def Zsd.l0 : Nat → D13a → Int → D13o → Option D13q
  | 0 => fun _ _ _ => none
  | n + 1 => Zsd.S0 (Zsd.l0 n)
def Zsd.S (j0 : D13a → Int → D13o → Option D13q) (l : D13a) : Option D13q :=
  j0 l 0 []
def Zsd (l : D13a) : Option D13q := Zsd.S (Zsd.l0 fu) l
def Zqd.S0 (self : D13o → Int → Int → Option Bool) (x1 : D13o) (x2 x3 : Int) : Option Bool :=
  bif (ltI x3 (lenL x1)) then
   bif (inB x3 (lenL x1)) then
    bif (neI (nth x1 x3 (0, 0, 0)).2.1 x2) then
     some false
    else
     bif (inB x3 (lenL x1)) then
      bif (ltI (nth x1 x3 (0, 0, 0)).2.2 1) then
       some false
      else
       bif (inB x3 (lenL x1)) then
        bif (ltI (subI .i64 65536 x2) (nth x1 x3 (0, 0, 0)).2.2) then
         some false
        else
         bif (ltI 0 x3) then
          bif (inB x3 (lenL x1)) then
           bif (inB (subI .i64 x3 1) (lenL x1)) then
            bif (eqI (nth x1 x3 (0, 0, 0)).1 (nth x1 (subI .i64 x3 1) (0, 0, 0)).1) then
             some false
            else
             bif (inB x3 (lenL x1)) then
              self x1 (addI .i64 x2 (nth x1 x3 (0, 0, 0)).2.2) (addI .i64 x3 1)
             else none
           else none
          else none
         else
          bif (inB x3 (lenL x1)) then
           self x1 (addI .i64 x2 (nth x1 x3 (0, 0, 0)).2.2) (addI .i64 x3 1)
          else none
       else none
     else none
   else none
  else
   some true
def Zqd.l0 : Nat → D13o → Int → Int → Option Bool
  | 0 => fun _ _ _ => none
  | n + 1 => Zqd.S0 (Zqd.l0 n)
def Zqd.S (j0 : D13o → Int → Int → Option Bool) (l : D13o) : Option Bool :=
  j0 l 0 0
def Zqd (l : D13o) : Option Bool := Zqd.S (Zqd.l0 fu) l
def Zwc.S0 (self : D13o → ByteArray → Int → Option D13g) (x2 : D13o) (x3 : ByteArray) (x4 : Int) : Option D13g :=
  bif (ltI x4 (lenL x2)) then
   bif (inB x4 (lenL x2)) then
    ((Zvb (nth x2 x4 (0, 0, 0)).1)).bind fun x5 =>
    bif (roomS x3 x5) then
     bif (inB x4 (lenL x2)) then
      ((Zvb (nth x2 x4 (0, 0, 0)).2.2)).bind fun x6 =>
      bif (roomS (addS x3 x5) x6) then
       self x2 (addS (addS x3 x5) x6) (addI .i64 x4 1)
      else none
     else none
    else none
   else none
  else
   some (x3, 0)
def Zwc.l0 : Nat → D13o → ByteArray → Int → Option D13g
  | 0 => fun _ _ _ => none
  | n + 1 => Zwc.S0 (Zwc.l0 n)
def Zwc.S (j0 : D13o → ByteArray → Int → Option D13g) (l : D13o) : Option D13g :=
  ((Zqd l)).bind fun x1 =>
  bif (!x1) then
   some (eB, 1)
  else
   j0 l eB 0
def Zwc (l : D13o) : Option D13g := Zwc.S (Zwc.l0 fu) l
def Zrc.S0 (self : D13a → D13a → Int → Option D13d) (x1 x2 : D13a) (x3 : Int) : Option D13d :=
  bif (ltI x3 (lenL x1)) then
   bif (inB x3 (lenL x1)) then
    bif (inB (subI .i64 x3 1) (lenL x1)) then
     bif (roomB ((List.length x2) + 1) 8) then
      self x1 (x2 ++ [(subI .i64 (nth x1 x3 0) (nth x1 (subI .i64 x3 1) 0))]) (addI .i64 x3 1)
     else none
    else none
   else none
  else
   some x2
def Zrc.l0 : Nat → D13a → D13a → Int → Option D13d
  | 0 => fun _ _ _ => none
  | n + 1 => Zrc.S0 (Zrc.l0 n)
def Zrc.S (j0 : D13a → D13a → Int → Option D13d) (l : D13a) : Option D13d :=
  j0 l [] 1
def Zrc (l : D13a) : Option D13d := Zrc.S (Zrc.l0 fu) l
def Zdc.S0 (self : D13a → Int → Int → Option Int) (x1 : D13a) (x2 x3 : Int) : Option Int :=
  bif (ltI x3 (lenL x1)) then
   bif (inB x3 (lenL x1)) then
    self x1 (minI x2 (nth x1 x3 0)) (addI .i64 x3 1)
   else none
  else
   some x2
def Zdc.l0 : Nat → D13a → Int → Int → Option Int
  | 0 => fun _ _ _ => none
  | n + 1 => Zdc.S0 (Zdc.l0 n)
def Zdc.S (j0 : D13a → Int → Int → Option Int) (l : D13a) : Option Int :=
  bif (inB 0 (lenL l)) then
   j0 l (nth l 0 0) 1
  else none
def Zdc (l : D13a) : Option Int := Zdc.S (Zdc.l0 fu) l
def Zxa.S1 (x9 : ByteArray) (x10 : Int) (x11 : D13a) : Option D13g :=
  ((Zcc x11)).bind fun x12 =>
  ((Zta x11 x12)).bind fun x13 =>
  ((Zvb x10)).bind fun x14 =>
  bif (roomS x9 x14) then
   bif (roomS (addS x9 x14) (ofBytes [(IntKind.wrap .u8 x12)])) then
    bif (roomS (addS (addS x9 x14) (ofBytes [(IntKind.wrap .u8 x12)])) x13.1) then
     some ((addS (addS (addS x9 x14) (ofBytes [(IntKind.wrap .u8 x12)])) x13.1), 0)
    else none
   else none
  else none
def Zxa.t1 : Nat → ByteArray → Int → D13a → Option D13g
  | 0 => fun _ _ _ => none
  | _ + 1 => Zxa.S1
def Zxa.S0 (o1_0 : ByteArray → Int → D13a → Option D13g) (self : ByteArray → D13a → Int → D13a → Int → Option D13g) (x4 : ByteArray) (x5 : D13a) (x6 : Int) (x7 : D13a) (x8 : Int) : Option D13g :=
  bif (ltI x8 (lenL x5)) then
   bif (inB x8 (lenL x5)) then
    bif (roomB ((List.length x7) + 1) 8) then
     self x4 x5 x6 (x7 ++ [(subI .i64 (nth x5 x8 0) x6)]) (addI .i64 x8 1)
    else none
   else none
  else
   o1_0 x4 x6 x7
def Zxa.l0 (o1_0 : ByteArray → Int → D13a → Option D13g) : Nat → ByteArray → D13a → Int → D13a → Int → Option D13g
  | 0 => fun _ _ _ _ _ => none
  | n + 1 => Zxa.S0 o1_0 (Zxa.l0 o1_0 n)
def Zxa.S (j0 : ByteArray → D13a → Int → D13a → Int → Option D13g) (l : D13a) : Option D13g :=
  bif (ltI 65536 (lenL l)) then
   some (eB, 1)
  else
   bif (eqI (lenL l) 0) then
    some (eB, 0)
   else
    bif (inB 0 (lenL l)) then
     ((Zvb (nth l 0 0))).bind fun x1 =>
     bif (eqI (lenL l) 1) then
      some (x1, 0)
     else
      ((Zrc l)).bind fun x2 =>
      ((Zdc x2)).bind fun x3 =>
      j0 x1 x2 x3 [] 0
    else none
def Zxa (l : D13a) : Option D13g := Zxa.S (Zxa.l0 (Zxa.t1 fu) fu) l
def Zh.S6 (o5_2 : D13a → D13a → D13a → Int → Option D13n) (self : D13a → D13a → D13a → Int → Int → Option D13n) (x27 x28 x29 : D13a) (x30 x31 : Int) : Option D13n :=
  bif (inB x31 (lenL x28)) then
   bif (inB x30 (lenL x27)) then
    bif (neI (nth x28 x31 0) (nth x27 x30 0)) then
     self x27 x28 x29 x30 (addI .i64 x31 1)
    else
     bif (roomB ((List.length x29) + 1) 8) then
      o5_2 x27 x28 (x29 ++ [x31]) (addI .i64 x30 1)
     else none
   else none
  else none
def Zh.l6 (o5_2 : D13a → D13a → D13a → Int → Option D13n) : Nat → D13a → D13a → D13a → Int → Int → Option D13n
  | 0 => fun _ _ _ _ _ => none
  | n + 1 => Zh.S6 o5_2 (Zh.l6 o5_2 n)
def Zh.S5 (j6 : D13a → D13a → D13a → Int → Int → Option D13n) (x23 x24 x25 : D13a) (x26 : Int) : Option D13n :=
  bif (ltI x26 (lenL x23)) then
   j6 x23 x24 x25 x26 0
  else
   some (x24, x25)
def Zh.l5 : Nat → D13a → D13a → D13a → Int → Option D13n
  | 0 => fun _ _ _ _ => none
  | n + 1 => Zh.S5 (Zh.l6 (Zh.l5 n) n)
def Zh.S4 (j5 : D13a → D13a → D13a → Int → Option D13n) (x20 x21 x22 : D13a) : Option D13n :=
  j5 x20 x21 x22 0
def Zh.t4 : Nat → D13a → D13a → D13a → Option D13n
  | 0 => fun _ _ _ => none
  | n + 1 => Zh.S4 (Zh.l5 n)
def Zh.S3 (o0_1 : D13a → D13a → D13a → Int → Option D13n) (x15 x16 x17 : D13a) (x18 x19 : Int) : Option D13n :=
  bif (inC 0 x19 (lenL x16)) then
   bif (roomB (0 + (List.length (List.take (Int.toNat x19) x16))) 8) then
    bif (inB x18 (lenL x15)) then
     bif (roomB ((List.length (List.take (Int.toNat x19) x16)) + 1) 8) then
      bif (inC x19 (lenL x16) (lenL x16)) then
       bif (roomB ((List.length ((List.take (Int.toNat x19) x16) ++ [(nth x15 x18 0)])) + (List.length (List.drop (Int.toNat x19) x16))) 8) then
        o0_1 x15 (((List.take (Int.toNat x19) x16) ++ [(nth x15 x18 0)]) ++ (List.drop (Int.toNat x19) x16)) x17 (addI .i64 x18 1)
       else none
      else none
     else none
    else none
   else none
  else none
def Zh.t3 (o0_1 : D13a → D13a → D13a → Int → Option D13n) : Nat → D13a → D13a → D13a → Int → Int → Option D13n
  | 0 => fun _ _ _ _ _ => none
  | _ + 1 => Zh.S3 o0_1
def Zh.S2 (o0_1 : D13a → D13a → D13a → Int → Option D13n) (j3 : D13a → D13a → D13a → Int → Int → Option D13n) (x10 x11 x12 : D13a) (x13 x14 : Int) : Option D13n :=
  bif (ltI x14 (lenL x11)) then
   bif (inB x14 (lenL x11)) then
    bif (inB x13 (lenL x10)) then
     bif (eqI (nth x11 x14 0) (nth x10 x13 0)) then
      o0_1 x10 x11 x12 (addI .i64 x13 1)
     else
      j3 x10 x11 x12 x13 x14
    else none
   else none
  else
   j3 x10 x11 x12 x13 x14
def Zh.t2 (o0_1 : D13a → D13a → D13a → Int → Option D13n) : Nat → D13a → D13a → D13a → Int → Int → Option D13n
  | 0 => fun _ _ _ _ _ => none
  | n + 1 => Zh.S2 o0_1 (Zh.t3 o0_1 n)
def Zh.S1 (o2_1 self : D13a → D13a → D13a → Int → Int → Option D13n) (x5 x6 x7 : D13a) (x8 x9 : Int) : Option D13n :=
  bif (ltI x9 (lenL x6)) then
   bif (inB x9 (lenL x6)) then
    bif (inB x8 (lenL x5)) then
     bif (ltI (nth x6 x9 0) (nth x5 x8 0)) then
      self x5 x6 x7 x8 (addI .i64 x9 1)
     else
      o2_1 x5 x6 x7 x8 x9
    else none
   else none
  else
   o2_1 x5 x6 x7 x8 x9
def Zh.l1 (o2_1 : D13a → D13a → D13a → Int → Int → Option D13n) : Nat → D13a → D13a → D13a → Int → Int → Option D13n
  | 0 => fun _ _ _ _ _ => none
  | n + 1 => Zh.S1 o2_1 (Zh.l1 o2_1 n)
def Zh.S0 (o4_0 : D13a → D13a → D13a → Option D13n) (j1 : D13a → D13a → D13a → Int → Int → Option D13n) (x1 x2 x3 : D13a) (x4 : Int) : Option D13n :=
  bif (ltI x4 (lenL x1)) then
   j1 x1 x2 x3 x4 0
  else
   o4_0 x1 x2 x3
def Zh.l0 (o4_0 : D13a → D13a → D13a → Option D13n) : Nat → D13a → D13a → D13a → Int → Option D13n
  | 0 => fun _ _ _ _ => none
  | n + 1 => Zh.S0 o4_0 (Zh.l1 (Zh.t2 (Zh.l0 o4_0 n) n) n)
def Zh.S (j0 : D13a → D13a → D13a → Int → Option D13n) (l : D13a) : Option D13n :=
  j0 l [] [] 0
def Zh (l : D13a) : Option D13n := Zh.S (Zh.l0 (Zh.t4 fu) fu) l
def Zqi (places : D13a) : Option ByteArray :=
  ((Zcc places)).bind fun x1 =>
  ((Zta places x1)).bind fun x2 =>
  some x2.1
def Zha.S1 (x8 : D13a) (x9 : ByteArray) : Option D13g :=
  ((Zqi x8)).bind fun x10 =>
  bif (roomS x9 x10) then
   some ((addS x9 x10), 0)
  else none
def Zha.t1 : Nat → D13a → ByteArray → Option D13g
  | 0 => fun _ _ => none
  | _ + 1 => Zha.S1
def Zha.S0 (o1_0 : D13a → ByteArray → Option D13g) (self : D13a → D13a → ByteArray → Int → Option D13g) (x3 x4 : D13a) (x5 : ByteArray) (x6 : Int) : Option D13g :=
  bif (ltI x6 (lenL x3)) then
   bif (inB x6 (lenL x3)) then
    ((Zvb (nth x3 x6 0))).bind fun x7 =>
    bif (roomS x5 x7) then
     self x3 x4 (addS x5 x7) (addI .i64 x6 1)
    else none
   else none
  else
   o1_0 x4 x5
def Zha.l0 (o1_0 : D13a → ByteArray → Option D13g) : Nat → D13a → D13a → ByteArray → Int → Option D13g
  | 0 => fun _ _ _ _ => none
  | n + 1 => Zha.S0 o1_0 (Zha.l0 o1_0 n)
def Zha.S (j0 : D13a → D13a → ByteArray → Int → Option D13g) (l : D13a) : Option D13g :=
  bif (ltI 65536 (lenL l)) then
   some (eB, 1)
  else
   bif (eqI (lenL l) 0) then
    some (eB, 0)
   else
    ((Zh l)).bind fun x1 =>
    ((Zvb (lenL x1.1))).bind fun x2 =>
    j0 x1.1 x1.2 x2 0
def Zha (l : D13a) : Option D13g := Zha.S (Zha.l0 (Zha.t1 fu) fu) l
def Znk (l : D13a) (code : Int) : Option (ByteArray × Bool) :=
  bif (eqI code 1) then
   ((Zga l)).bind fun x1 =>
   some (x1, true)
  else
   bif (eqI code 2) then
    ((Zsd l)).bind fun x2 =>
    ((Zwc x2)).bind fun x3 =>
    some (x3.1, (eqI x3.2 0))
   else
    bif (eqI code 3) then
     ((Zxa l)).bind fun x4 =>
     some (x4.1, (eqI x4.2 0))
    else
     bif (eqI code 4) then
      ((Zha l)).bind fun x5 =>
      some (x5.1, (eqI x5.2 0))
     else
      bif (eqI code 5) then
       ((Zcc l)).bind fun x6 =>
       ((Zta l x6)).bind fun x7 =>
       bif (roomS (ofBytes [(IntKind.wrap .u8 x6)]) x7.1) then
        some ((addS (ofBytes [(IntKind.wrap .u8 x6)]) x7.1), (eqI x7.2 0))
       else none
      else
       some (eB, false)
def Zsc.S0 (self : D13u → D13e → Int → Option (D13e)) (x1 : D13u) (x2 : D13e) (x3 : Int) : Option (D13e) :=
  bif (ltI x3 (lenL x1)) then
   bif (inB x3 (lenL x1)) then
    bif (roomB ((List.length x2) + 1) 16) then
     self x1 (x2 ++ [(nth x1 x3 (0, 0, eB)).2.2]) (addI .i64 x3 1)
    else none
   else none
  else
   some x2
def Zsc.l0 : Nat → D13u → D13e → Int → Option (D13e)
  | 0 => fun _ _ _ => none
  | n + 1 => Zsc.S0 (Zsc.l0 n)
def Zsc.S (j0 : D13u → D13e → Int → Option (D13e)) (l : D13u) : Option (D13e) :=
  j0 l [] 0
def Zsc (l : D13u) : Option (D13e) := Zsc.S (Zsc.l0 fu) l
def Zmb.S0 (self : D13e → D13a → Int → Option D13g) (x1 : D13e) (x2 : D13a) (x3 : Int) : Option D13g :=
  bif (ltI x3 (lenL x1)) then
   bif (inB x3 (lenL x1)) then
    bif (ltI 32 (lenS (nth x1 x3 eB))) then
     some (eB, 1)
    else
     bif (inB x3 (lenL x1)) then
      bif (roomB ((List.length x2) + 1) 1) then
       bif (inB x3 (lenL x1)) then
        bif (roomB ((List.length (x2 ++ [(IntKind.wrap .u8 (lenS (nth x1 x3 eB)))])) + (ByteArray.size (nth x1 x3 eB))) 1) then
         self x1 ((x2 ++ [(IntKind.wrap .u8 (lenS (nth x1 x3 eB)))]) ++ (Zl (nth x1 x3 eB))) (addI .i64 x3 1)
        else none
       else none
      else none
     else none
   else none
  else
   some ((ofBytes x2), 0)
def Zmb.l0 : Nat → D13e → D13a → Int → Option D13g
  | 0 => fun _ _ _ => none
  | n + 1 => Zmb.S0 (Zmb.l0 n)
def Zmb.S (j0 : D13e → D13a → Int → Option D13g) (l : D13e) : Option D13g :=
  j0 l [] 0
def Zmb (l : D13e) : Option D13g := Zmb.S (Zmb.l0 fu) l
def Zf.S6 (o5_2 : D13e → D13e → D13a → Int → Option D13r) (self : D13e → D13e → D13a → Int → Int → Option D13r) (x27 x28 : D13e) (x29 : D13a) (x30 x31 : Int) : Option D13r :=
  bif (inB x31 (lenL x28)) then
   bif (inB x30 (lenL x27)) then
    bif (!(eqS (nth x28 x31 eB) (nth x27 x30 eB))) then
     self x27 x28 x29 x30 (addI .i64 x31 1)
    else
     bif (roomB ((List.length x29) + 1) 8) then
      o5_2 x27 x28 (x29 ++ [x31]) (addI .i64 x30 1)
     else none
   else none
  else none
def Zf.l6 (o5_2 : D13e → D13e → D13a → Int → Option D13r) : Nat → D13e → D13e → D13a → Int → Int → Option D13r
  | 0 => fun _ _ _ _ _ => none
  | n + 1 => Zf.S6 o5_2 (Zf.l6 o5_2 n)
def Zf.S5 (j6 : D13e → D13e → D13a → Int → Int → Option D13r) (x23 x24 : D13e) (x25 : D13a) (x26 : Int) : Option D13r :=
  bif (ltI x26 (lenL x23)) then
   j6 x23 x24 x25 x26 0
  else
   some (x24, x25)
def Zf.l5 : Nat → D13e → D13e → D13a → Int → Option D13r
  | 0 => fun _ _ _ _ => none
  | n + 1 => Zf.S5 (Zf.l6 (Zf.l5 n) n)
def Zf.S4 (j5 : D13e → D13e → D13a → Int → Option D13r) (x20 x21 : D13e) (x22 : D13a) : Option D13r :=
  j5 x20 x21 x22 0
def Zf.t4 : Nat → D13e → D13e → D13a → Option D13r
  | 0 => fun _ _ _ => none
  | n + 1 => Zf.S4 (Zf.l5 n)
def Zf.S3 (o0_1 : D13e → D13e → D13a → Int → Option D13r) (x15 x16 : D13e) (x17 : D13a) (x18 x19 : Int) : Option D13r :=
  bif (inC 0 x19 (lenL x16)) then
   bif (roomB (0 + (List.length (List.take (Int.toNat x19) x16))) 16) then
    bif (inB x18 (lenL x15)) then
     bif (roomB ((List.length (List.take (Int.toNat x19) x16)) + 1) 16) then
      bif (inC x19 (lenL x16) (lenL x16)) then
       bif (roomB ((List.length ((List.take (Int.toNat x19) x16) ++ [(nth x15 x18 eB)])) + (List.length (List.drop (Int.toNat x19) x16))) 16) then
        o0_1 x15 (((List.take (Int.toNat x19) x16) ++ [(nth x15 x18 eB)]) ++ (List.drop (Int.toNat x19) x16)) x17 (addI .i64 x18 1)
       else none
      else none
     else none
    else none
   else none
  else none
def Zf.t3 (o0_1 : D13e → D13e → D13a → Int → Option D13r) : Nat → D13e → D13e → D13a → Int → Int → Option D13r
  | 0 => fun _ _ _ _ _ => none
  | _ + 1 => Zf.S3 o0_1
def Zf.S2 (o0_1 : D13e → D13e → D13a → Int → Option D13r) (j3 : D13e → D13e → D13a → Int → Int → Option D13r) (x10 x11 : D13e) (x12 : D13a) (x13 x14 : Int) : Option D13r :=
  bif (ltI x14 (lenL x11)) then
   bif (inB x14 (lenL x11)) then
    bif (inB x13 (lenL x10)) then
     bif (eqS (nth x11 x14 eB) (nth x10 x13 eB)) then
      o0_1 x10 x11 x12 (addI .i64 x13 1)
     else
      j3 x10 x11 x12 x13 x14
    else none
   else none
  else
   j3 x10 x11 x12 x13 x14
def Zf.t2 (o0_1 : D13e → D13e → D13a → Int → Option D13r) : Nat → D13e → D13e → D13a → Int → Int → Option D13r
  | 0 => fun _ _ _ _ _ => none
  | n + 1 => Zf.S2 o0_1 (Zf.t3 o0_1 n)
def Zf.S1 (o2_1 self : D13e → D13e → D13a → Int → Int → Option D13r) (x5 x6 : D13e) (x7 : D13a) (x8 x9 : Int) : Option D13r :=
  bif (ltI x9 (lenL x6)) then
   bif (inB x9 (lenL x6)) then
    bif (inB x8 (lenL x5)) then
     bif (ltS (nth x6 x9 eB) (nth x5 x8 eB)) then
      self x5 x6 x7 x8 (addI .i64 x9 1)
     else
      o2_1 x5 x6 x7 x8 x9
    else none
   else none
  else
   o2_1 x5 x6 x7 x8 x9
def Zf.l1 (o2_1 : D13e → D13e → D13a → Int → Int → Option D13r) : Nat → D13e → D13e → D13a → Int → Int → Option D13r
  | 0 => fun _ _ _ _ _ => none
  | n + 1 => Zf.S1 o2_1 (Zf.l1 o2_1 n)
def Zf.S0 (o4_0 : D13e → D13e → D13a → Option D13r) (j1 : D13e → D13e → D13a → Int → Int → Option D13r) (x1 x2 : D13e) (x3 : D13a) (x4 : Int) : Option D13r :=
  bif (ltI x4 (lenL x1)) then
   j1 x1 x2 x3 x4 0
  else
   o4_0 x1 x2 x3
def Zf.l0 (o4_0 : D13e → D13e → D13a → Option D13r) : Nat → D13e → D13e → D13a → Int → Option D13r
  | 0 => fun _ _ _ _ => none
  | n + 1 => Zf.S0 o4_0 (Zf.l1 (Zf.t2 (Zf.l0 o4_0 n) n) n)
def Zf.S (j0 : D13e → D13e → D13a → Int → Option D13r) (l : D13e) : Option D13r :=
  j0 l [] [] 0
def Zf (l : D13e) : Option D13r := Zf.S (Zf.l0 (Zf.t4 fu) fu) l
def Zij (l : D13e) : Option D13g :=
  bif (ltI 65536 (lenL l)) then
   some (eB, 1)
  else
   bif (eqI (lenL l) 0) then
    some (eB, 0)
   else
    ((Zf l)).bind fun x1 =>
    ((Zmb x1.1)).bind fun x2 =>
    bif (neI x2.2 0) then
     some (eB, x2.2)
    else
     ((Zvb (lenL x1.1))).bind fun x3 =>
     bif (roomS x3 x2.1) then
      ((Zqi x1.2)).bind fun x4 =>
      bif (roomS (addS x3 x2.1) x4) then
       some ((addS (addS x3 x2.1) x4), 0)
      else none
     else none
def Zvm (l : D13e) (code : Int) : Option (ByteArray × Bool) :=
  bif (eqI code 1) then
   ((Zmb l)).bind fun x1 =>
   some (x1.1, (eqI x1.2 0))
  else
   bif (eqI code 2) then
    bif (ltI 0 (lenL l)) then
     ((Zf l)).bind fun x2 =>
     ((Zmb x2.1)).bind fun x3 =>
     ((Zsd x2.2)).bind fun x4 =>
     ((Zwc x4)).bind fun x5 =>
     ((Zvb (lenL x2.1))).bind fun x6 =>
     bif (roomS x6 x3.1) then
      bif (roomS (addS x6 x3.1) x5.1) then
       some ((addS (addS x6 x3.1) x5.1), true)
      else none
     else none
    else
     some (eB, true)
   else
    bif (eqI code 4) then
     ((Zij l)).bind fun x7 =>
     some (x7.1, (eqI x7.2 0))
    else
     some (eB, false)
def Zul (l : D13u) (kind code : Int) : Option (ByteArray × Bool) :=
  bif (eqI kind 1) then
   ((Zdd l)).bind fun x1 =>
   ((Znk x1 code)).bind fun x2 =>
   some x2
  else
   ((Zsc l)).bind fun x3 =>
   ((Zvm x3 code)).bind fun x4 =>
   some x4
def Zra.S1 (o0_1 : ByteArray → Int → Int → Option Int) (self : ByteArray → Int → Int → Int → Option Int) (x4 : ByteArray) (x5 x6 x7 : Int) : Option Int :=
  bif (ltI x7 8) then
   bif (inB x6 (lenS x4)) then
    bif (leI 0 x7) then
     bif (neI (andI .i64 x5 1) (andI .i64 (shrI .i64 (IntKind.wrap .i64 (byteAt x4 x6)) x7) 1)) then
      self x4 (xorI .i64 (shrI .i64 x5 1) 2197175160) x6 (addI .i64 x7 1)
     else
      self x4 (shrI .i64 x5 1) x6 (addI .i64 x7 1)
    else none
   else none
  else
   o0_1 x4 x5 (addI .i64 x6 1)
def Zra.l1 (o0_1 : ByteArray → Int → Int → Option Int) : Nat → ByteArray → Int → Int → Int → Option Int
  | 0 => fun _ _ _ _ => none
  | n + 1 => Zra.S1 o0_1 (Zra.l1 o0_1 n)
def Zra.S0 (j1 : ByteArray → Int → Int → Int → Option Int) (x1 : ByteArray) (x2 x3 : Int) : Option Int :=
  bif (ltI x3 (lenS x1)) then
   j1 x1 x2 x3 0
  else
   some (xorI .i64 x2 4294967295)
def Zra.l0 : Nat → ByteArray → Int → Int → Option Int
  | 0 => fun _ _ _ => none
  | n + 1 => Zra.S0 (Zra.l1 (Zra.l0 n) n)
def Zra.S (j0 : ByteArray → Int → Int → Option Int) (sum : Int) (s : ByteArray) : Option Int :=
  j0 s (xorI .i64 (andI .i64 sum 4294967295) 4294967295) 0
def Zra (sum : Int) (s : ByteArray) : Option Int := Zra.S (Zra.l0 fu) sum s
def Zxp (s : ByteArray) : Option Int :=
  ((Zra 0 s)).bind fun x1 =>
  some x1
def Zvl (s : ByteArray) : Option ByteArray :=
  ((Zxp s)).bind fun x1 =>
  bif (roomS s (ofBytes [(IntKind.wrap .u8 (andI .i64 x1 255)), (IntKind.wrap .u8 (andI .i64 (shrI .i64 x1 8) 255)), (IntKind.wrap .u8 (andI .i64 (shrI .i64 x1 16) 255)), (IntKind.wrap .u8 (andI .i64 (shrI .i64 x1 24) 255))])) then
   some (addS s (ofBytes [(IntKind.wrap .u8 (andI .i64 x1 255)), (IntKind.wrap .u8 (andI .i64 (shrI .i64 x1 8) 255)), (IntKind.wrap .u8 (andI .i64 (shrI .i64 x1 16) 255)), (IntKind.wrap .u8 (andI .i64 (shrI .i64 x1 24) 255))]))
  else none
def Zkg (l : D13u) (kind code : Int) : Option D13g :=
  ((Zqb l kind)).bind fun x1 =>
  bif (!x1) then
   some (eB, 1)
  else
   ((Zsa l)).bind fun x2 =>
   ((Zul x2.2 kind code)).bind fun x3 =>
   bif (!x3.2) then
    some (eB, 1)
   else
    bif (roomS (ofBytes [(IntKind.wrap .u8 kind), (IntKind.wrap .u8 code), (IntKind.wrap .u8 (lenL l)), (IntKind.wrap .u8 (lenS x2.1))]) x2.1) then
     bif (roomS (addS (ofBytes [(IntKind.wrap .u8 kind), (IntKind.wrap .u8 code), (IntKind.wrap .u8 (lenL l)), (IntKind.wrap .u8 (lenS x2.1))]) x2.1) x3.1) then
      ((Zvl (addS (addS (ofBytes [(IntKind.wrap .u8 kind), (IntKind.wrap .u8 code), (IntKind.wrap .u8 (lenL l)), (IntKind.wrap .u8 (lenS x2.1))]) x2.1) x3.1))).bind fun x4 =>
      some (x4, 0)
     else none
    else none
def Zi3 (s : ByteArray) : Option (ByteArray × ByteArray × Int) :=
  ((Zeh s)).bind fun x1 =>
  bif (!x1.2) then
   some (eB, eB, 5)
  else
   some (x1.1.2.2.1, x1.1.2.1, 0)
def Zia.S1 (x7 : ByteArray) (x8 : Int) : Option D13k :=
  bif (eqI x8 0) then
   some (eB, 0, 1)
  else
   some (x7, x8, 0)
def Zia.t1 : Nat → ByteArray → Int → Option D13k
  | 0 => fun _ _ => none
  | _ + 1 => Zia.S1
def Zia.S0 (o1_0 : ByteArray → Int → Option D13k) (self : D13u → Int → ByteArray → Int → Int → Option D13k) (x1 : D13u) (x2 : Int) (x3 : ByteArray) (x4 x5 : Int) : Option D13k :=
  bif (leI x5 5) then
   ((Zhe x1 x2 x5)).bind fun x6 =>
   bif (eqI x6.2 0) then
    bif (eqI x4 0) then
     self x1 x2 x6.1 x5 (addI .i64 x5 1)
    else
     bif (ltI (lenS x6.1) (lenS x3)) then
      self x1 x2 x6.1 x5 (addI .i64 x5 1)
     else
      self x1 x2 x3 x4 (addI .i64 x5 1)
   else
    self x1 x2 x3 x4 (addI .i64 x5 1)
  else
   o1_0 x3 x4
def Zia.l0 (o1_0 : ByteArray → Int → Option D13k) : Nat → D13u → Int → ByteArray → Int → Int → Option D13k
  | 0 => fun _ _ _ _ _ => none
  | n + 1 => Zia.S0 o1_0 (Zia.l0 o1_0 n)
def Zia.S (j0 : D13u → Int → ByteArray → Int → Int → Option D13k) (l : D13u) (kind : Int) : Option D13k :=
  j0 l kind eB 0 1
def Zia (l : D13u) (kind : Int) : Option D13k := Zia.S (Zia.l0 (Zia.t1 fu) fu) l kind
def Zob.S0 (self : D13u → Int → ByteArray → Int → Int → Option D13k) (x2 : D13u) (x3 : Int) (x4 : ByteArray) (x5 x6 : Int) : Option D13k :=
  bif (leI x6 5) then
   ((Zkg x2 x3 x6)).bind fun x7 =>
   bif (eqI x7.2 0) then
    bif (eqI x5 0) then
     self x2 x3 x7.1 x6 (addI .i64 x6 1)
    else
     bif (ltI (lenS x7.1) (lenS x4)) then
      self x2 x3 x7.1 x6 (addI .i64 x6 1)
     else
      self x2 x3 x4 x5 (addI .i64 x6 1)
   else
    self x2 x3 x4 x5 (addI .i64 x6 1)
  else
   some (x4, x5, 0)
def Zob.l0 : Nat → D13u → Int → ByteArray → Int → Int → Option D13k
  | 0 => fun _ _ _ _ _ => none
  | n + 1 => Zob.S0 (Zob.l0 n)
def Zob.S (j0 : D13u → Int → ByteArray → Int → Int → Option D13k) (l : D13u) (kind : Int) : Option D13k :=
  ((Zqb l kind)).bind fun x1 =>
  bif (!x1) then
   some (eB, 0, 1)
  else
   j0 l kind eB 0 1
def Zob (l : D13u) (kind : Int) : Option D13k := Zob.S (Zob.l0 fu) l kind
def Zwl (l : D13u) (kind : Int) : Option Bool :=
  ((Znc l 70)).bind fun x1 =>
  bif (!x1) then
   (Zxj).bind fun x2 =>
   some x2
  else
   ((Zia l kind)).bind fun x3 =>
   ((Zob l kind)).bind fun x4 =>
   bif (!(eqS x3.1 x4.1)) then
    some false
   else
    bif (neI x3.2.1 x4.2.1) then
     some false
    else
     bif (neI x3.2.2 x4.2.2) then
      some false
     else
      bif (neI x3.2.2 0) then
       (Zxj).bind fun x5 =>
       some x5
      else
       ((Zhe l kind 1)).bind fun x6 =>
       ((Ztl x3.1)).bind fun x7 =>
       bif (eqI x6.2 0) then
        bif (leI (lenS x3.1) (lenS x6.1)) then
         bif (eqI x7.2 0) then
          ((Zgc x7.1 l)).bind fun x8 =>
          bif x8 then
           (Zxj).bind fun x9 =>
           some x9
          else
           some false
         else
          some false
        else
         some false
       else
        some false
end Go.AM.Pure
