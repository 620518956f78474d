import Derived.Test.YtlamhllcnbcbbaaGreatAmPrimW
import Derived.Test.YtlamhllcnbcbbaaGreatAmPure06
/- PRINTED by gen/ of this repo: the functions of the seat as pure functions. -/
namespace Go.AM.Pure
open Go.AM
abbrev D13a : Type := List Int
abbrev D13b : Type := Int × Int
abbrev D13c : Type := List Bool
abbrev D13d : Type := D13a
abbrev D13e : Type := List ByteArray
abbrev D13f : Type := Int × ByteArray
abbrev D13g : Type := ByteArray × Int
abbrev D13h : Type := D13a × Int
abbrev D13i : Type := Int × D13b
abbrev D13j : Type := Bool × D13a
abbrev D13l : Type := D13e × Int
abbrev D13m : Type := Int × D13f
abbrev D13n : Type := D13a × D13a
abbrev D13o : Type := List D13i
abbrev D13p : Type := Int × D13i
abbrev D13q : Type := D13o
abbrev D13r : Type := D13e × D13a
abbrev D13s : Type := D13a × D13a × Int
abbrev D13u : Type := List D13m
abbrev D13v : Type := D13o × Int
abbrev D13w : Type := D13e × D13a × Int
abbrev D13x : Type := D13u × Int
abbrev D13y : Type := Int × D13u
abbrev D13z : Type := ByteArray × D13u
def law13_num (xn : Int) : D13m :=
  (1, xn, eB)
def block_may_1 (c : D13m) (t1 : Int) : Bool :=
  bif (neI (cell_Check c) 0) then
   true
  else
   bif (neI c.1 0) then
    (neI c.1 t1)
   else
    false
def block_may_1.o (c : D13m) (t1 : Int) : Option Bool :=
  bif (neI (cell_Check c) 0) then
   some true
  else
   bif (neI c.1 0) then
    some (neI c.1 t1)
   else
    some false
def slices_IndexFunc_api_Cell_api_Cell__block_may_1.S0 (self : D13u → Int → Int → Int → Option Int) (x1 : D13u) (x2 x3 x4 : Int) : Option Int :=
  bif (ltI x4 x3) then
   bif (inB x4 (lenL x1)) then
    bif (block_may_1 (nth x1 x4 (0, 0, eB)) x2) then
     some x4
    else
     self x1 x2 x3 (addI .i64 x4 1)
   else none
  else
   some (-1)
def slices_IndexFunc_api_Cell_api_Cell__block_may_1.l0 : Nat → D13u → Int → Int → Int → Option Int
  | 0 => fun _ _ _ _ => none
  | n + 1 => slices_IndexFunc_api_Cell_api_Cell__block_may_1.S0 (slices_IndexFunc_api_Cell_api_Cell__block_may_1.l0 n)
def slices_IndexFunc_api_Cell_api_Cell__block_may_1.S (j0 : D13u → Int → Int → Int → Option Int) (s : D13u) (f0 : Int) : Option Int :=
  j0 s f0 (lenL s) 0
def slices_IndexFunc_api_Cell_api_Cell__block_may_1 (s : D13u) (f0 : Int) : Option Int := slices_IndexFunc_api_Cell_api_Cell__block_may_1.S (slices_IndexFunc_api_Cell_api_Cell__block_may_1.l0 fu) s f0
def slices_ContainsFunc_api_Cell_api_Cell__block_may_1 (s : D13u) (f0 : Int) : Option Bool :=
  ((slices_IndexFunc_api_Cell_api_Cell__block_may_1 s f0)).bind fun x1 =>
  some (leI 0 x1)
def block_may (l : D13u) (kind : Int) : Option Bool :=
  bif (ltI (lenL l) 1) then
   some false
  else
   bif (ltI 64 (lenL l)) then
    some false
   else
    bif (neI kind 1) then
     bif (neI kind 2) then
      some false
     else
      ((slices_ContainsFunc_api_Cell_api_Cell__block_may_1 l kind)).bind fun x1 =>
      some (!x1)
    else
     ((slices_ContainsFunc_api_Cell_api_Cell__block_may_1 l kind)).bind fun x2 =>
     some (!x2)
def nulls_null (c : D13m) : Bool :=
  (eqI c.1 0)
def nulls_Split_1 (c : D13m) : Bool :=
  (nulls_null c)
def slices_IndexFunc_api_Cell_api_Cell__nulls_Split_1_a0.S0 (self : Int → Int → D13u → Option D13y) (x1 x2 : Int) (x3 : D13u) : Option D13y :=
  bif (ltI x2 x1) then
   bif (inB x2 (lenL x3)) then
    bif (nulls_Split_1 (List.getD x3 (Int.toNat x2) (0, 0, eB))) then
     bif (decide (0 < (List.length x3))) then
      some (x2, x3)
     else none
    else
     self x1 (addI .i64 x2 1) x3
   else none
  else
   bif (decide (0 < (List.length x3))) then
    some ((-1), x3)
   else none
def slices_IndexFunc_api_Cell_api_Cell__nulls_Split_1_a0.l0 : Nat → Int → Int → D13u → Option D13y
  | 0 => fun _ _ _ => none
  | n + 1 => slices_IndexFunc_api_Cell_api_Cell__nulls_Split_1_a0.S0 (slices_IndexFunc_api_Cell_api_Cell__nulls_Split_1_a0.l0 n)
def slices_IndexFunc_api_Cell_api_Cell__nulls_Split_1_a0.S (j0 : Int → Int → D13u → Option D13y) (s : D13u) : Option D13y :=
  j0 (lenL s) 0 s
def slices_IndexFunc_api_Cell_api_Cell__nulls_Split_1_a0 (s : D13u) : Option D13y := slices_IndexFunc_api_Cell_api_Cell__nulls_Split_1_a0.S (slices_IndexFunc_api_Cell_api_Cell__nulls_Split_1_a0.l0 fu) s
def slices_DeleteFunc_api_Cell_api_Cell__nulls_Split_1_a0.S1 (x6 : Int) (x7 : D13u) : Option D13y :=
  bif (inC x6 (lenL x7) (lenL x7)) then
   bif (inC 0 x6 (lenL (splA x7 (Int.toNat x6) (List.replicate ((Int.toNat (lenL x7)) - (Int.toNat x6)) ((0 : Int), ((0 : Int), eB)))))) then
    bif (decide (0 < (List.length (splA x7 (Int.toNat x6) (List.replicate ((Int.toNat (lenL x7)) - (Int.toNat x6)) ((0 : Int), ((0 : Int), eB))))))) then
     some (((((Int.toNat x6) - 0) : Nat) : Int), (splA x7 (Int.toNat x6) (List.replicate ((Int.toNat (lenL x7)) - (Int.toNat x6)) ((0 : Int), ((0 : Int), eB)))))
    else none
   else none
  else none
def slices_DeleteFunc_api_Cell_api_Cell__nulls_Split_1_a0.t1 : Nat → Int → D13u → Option D13y
  | 0 => fun _ _ => none
  | _ + 1 => slices_DeleteFunc_api_Cell_api_Cell__nulls_Split_1_a0.S1
def slices_DeleteFunc_api_Cell_api_Cell__nulls_Split_1_a0.S0 (o1_0 : Int → D13u → Option D13y) (self : Int → Int → D13u → Option D13y) (x2 x3 : Int) (x4 : D13u) : Option D13y :=
  bif (ltI x3 (lenL x4)) then
   bif (inB x3 (lenL x4)) then
    bif (!(nulls_Split_1 (List.getD x4 (Int.toNat x3) (0, 0, eB)))) then
     bif (inB x2 (lenL x4)) then
      self (addI .i64 x2 1) (addI .i64 x3 1) (List.set x4 (Int.toNat x2) (List.getD x4 (Int.toNat x3) (0, 0, eB)))
     else none
    else
     self x2 (addI .i64 x3 1) x4
   else none
  else
   o1_0 x2 x4
def slices_DeleteFunc_api_Cell_api_Cell__nulls_Split_1_a0.l0 (o1_0 : Int → D13u → Option D13y) : Nat → Int → Int → D13u → Option D13y
  | 0 => fun _ _ _ => none
  | n + 1 => slices_DeleteFunc_api_Cell_api_Cell__nulls_Split_1_a0.S0 o1_0 (slices_DeleteFunc_api_Cell_api_Cell__nulls_Split_1_a0.l0 o1_0 n)
def slices_DeleteFunc_api_Cell_api_Cell__nulls_Split_1_a0.S (j0 : Int → Int → D13u → Option D13y) (s : D13u) : Option D13y :=
  ((guardA ((decide (0 < (List.length s))) && true) (slices_IndexFunc_api_Cell_api_Cell__nulls_Split_1_a0 s) fun _x => ((decide ((List.length _x.2) = (List.length s))) && true))).bind fun x1 =>
  bif (eqI x1.1 (-1)) then
   bif (decide (0 < (List.length x1.2))) then
    some ((lenL x1.2), x1.2)
   else none
  else
   j0 x1.1 (addI .i64 x1.1 1) x1.2
def slices_DeleteFunc_api_Cell_api_Cell__nulls_Split_1_a0 (s : D13u) : Option D13y := slices_DeleteFunc_api_Cell_api_Cell__nulls_Split_1_a0.S (slices_DeleteFunc_api_Cell_api_Cell__nulls_Split_1_a0.l0 (slices_DeleteFunc_api_Cell_api_Cell__nulls_Split_1_a0.t1 fu) fu) s
def pack_Width.S0 (self : Int → D13a → Int → Int → Option Int) (x1 : Int) (x2 : D13a) (x3 x4 : Int) : Option Int :=
  bif (ltI x4 x3) then
   bif (inB x4 (lenL x2)) then
    self (orI .i64 x1 (nth x2 x4 0)) x2 x3 (addI .i64 x4 1)
   else none
  else
   ((bits_Width x1)).bind fun x5 =>
   some x5
def pack_Width.l0 : Nat → Int → D13a → Int → Int → Option Int
  | 0 => fun _ _ _ _ => none
  | n + 1 => pack_Width.S0 (pack_Width.l0 n)
def pack_Width.S (j0 : Int → D13a → Int → Int → Option Int) (l : D13a) : Option Int :=
  j0 0 l (lenL l) 0
def pack_Width (l : D13a) : Option Int := pack_Width.S (pack_Width.l0 fu) l
def pack_Bytes (xn width : Int) : Int :=
  bif (ltI xn 1) then
   0
  else
   bif (ltI 65536 xn) then
    0
   else
    bif (ltI width 1) then
     0
    else
     bif (ltI 64 width) then
      0
     else
      (shrI .i64 (addI .i64 (mulI .i64 xn width) 7) 3)
def pack_Bytes.o (xn width : Int) : Option Int :=
  bif (ltI xn 1) then
   some 0
  else
   bif (ltI 65536 xn) then
    some 0
   else
    bif (ltI width 1) then
     some 0
    else
     bif (ltI 64 width) then
      some 0
     else
      some (shrI .i64 (addI .i64 (mulI .i64 xn width) 7) 3)
def bits_Mask (w : Int) : Option Int :=
  bif (leI w 0) then
   some 0
  else
   bif (leI 64 w) then
    some (-1)
   else
    bif (leI 0 w) then
     some (IntKind.wrap .i64 (subI .u64 (shlI .u64 1 w) 1))
    else none
def pack_Put.S2 (x20 : D13a) (x21 x22 : Int) : Option D13g :=
  bif (ltI 0 x22) then
   bif (roomB ((List.length x20) + 1) 1) then
    some ((ofBytes (x20 ++ [(IntKind.wrap .u8 x21)])), 0)
   else none
  else
   some ((ofBytes x20), 0)
def pack_Put.t2 : Nat → D13a → Int → Int → Option D13g
  | 0 => fun _ _ _ => none
  | _ + 1 => pack_Put.S2
def pack_Put.S1 (o0_1 : Int → D13a → Int → Int → D13a → Int → Int → Option D13g) (self : Int → D13a → Int → Int → Int → Int → D13a → Int → Int → Option D13g) (x10 : Int) (x11 : D13a) (x12 x13 : Int) (x14 x15 : Int) (x16 : D13a) (x17 x18 : Int) : Option D13g :=
  bif (ltI 0 x15) then
   ((bits_Mask (minI (subI .i64 8 x13) x15))).bind fun x19 =>
   bif (leI 0 x13) then
    bif (leI 0 (minI (subI .i64 8 x13) x15)) then
     bif (eqI (addI .i64 x13 (minI (subI .i64 8 x13) x15)) 8) then
      bif (roomB ((List.length x11) + 1) 1) then
       self x10 (x11 ++ [(IntKind.wrap .u8 (orI .u64 x12 (shlI .u64 (andI .u64 x14 (IntKind.wrap .u64 x19)) x13)))]) 0 0 (shrI .u64 x14 (minI (subI .i64 8 x13) x15)) (subI .i64 x15 (minI (subI .i64 8 x13) x15)) x16 x17 x18
      else none
     else
      self x10 x11 (orI .u64 x12 (shlI .u64 (andI .u64 x14 (IntKind.wrap .u64 x19)) x13)) (addI .i64 x13 (minI (subI .i64 8 x13) x15)) (shrI .u64 x14 (minI (subI .i64 8 x13) x15)) (subI .i64 x15 (minI (subI .i64 8 x13) x15)) x16 x17 x18
    else none
   else none
  else
   o0_1 x10 x11 x12 x13 x16 x17 (addI .i64 x18 1)
def pack_Put.l1 (o0_1 : Int → D13a → Int → Int → D13a → Int → Int → Option D13g) : Nat → Int → D13a → Int → Int → Int → Int → D13a → Int → Int → Option D13g
  | 0 => fun _ _ _ _ _ _ _ _ _ => none
  | n + 1 => pack_Put.S1 o0_1 (pack_Put.l1 o0_1 n)
def pack_Put.S0 (o2_0 : D13a → Int → Int → Option D13g) (j1 : Int → D13a → Int → Int → Int → Int → D13a → Int → Int → Option D13g) (x3 : Int) (x4 : D13a) (x5 x6 : Int) (x7 : D13a) (x8 x9 : Int) : Option D13g :=
  bif (ltI x9 x8) then
   bif (inB x9 (lenL x7)) then
    j1 x3 x4 x5 x6 (IntKind.wrap .u64 (nth x7 x9 0)) x3 x7 x8 x9
   else none
  else
   o2_0 x4 x5 x6
def pack_Put.l0 (o2_0 : D13a → Int → Int → Option D13g) : Nat → Int → D13a → Int → Int → D13a → Int → Int → Option D13g
  | 0 => fun _ _ _ _ _ _ _ => none
  | n + 1 => pack_Put.S0 o2_0 (pack_Put.l1 (pack_Put.l0 o2_0 n) n)
def pack_Put.S (j0 : Int → D13a → Int → Int → D13a → Int → Int → Option D13g) (l : D13a) (width : Int) : Option D13g :=
  bif (ltI width 0) then
   some (eB, 1)
  else
   bif (ltI 64 width) then
    some (eB, 1)
   else
    bif (ltI 65536 (lenL l)) then
     some (eB, 1)
    else
     ((pack_Width l)).bind fun x1 =>
     bif (ltI width x1) then
      some (eB, 1)
     else
      let x2 := (pack_Bytes (lenL l) width)
      bif ((leI 0 (addI .i64 x2 1)) && (roomB (Int.toNat (addI .i64 x2 1)) 1)) then
       j0 width [] 0 0 l (lenL l) 0
      else none
def pack_Put (l : D13a) (width : Int) : Option D13g := pack_Put.S (pack_Put.l0 (pack_Put.t2 fu) fu) l width
def nulls_Split.S1 (x11 x12 : Nat) (x13 : D13u) (x14 : D13a) : Option D13z :=
  ((pack_Put x14 1)).bind fun x15 =>
  some (x15.1, (List.take x12 (List.drop x11 x13)))
def nulls_Split.t1 : Nat → Nat → Nat → D13u → D13a → Option D13z
  | 0 => fun _ _ _ _ => none
  | _ + 1 => nulls_Split.S1
def nulls_Split.S0 (o1_0 : Nat → Nat → D13u → D13a → Option D13z) (self : Nat → Nat → D13u → Int → Int → D13u → D13a → Option D13z) (x3 x4 : Nat) (x5 : D13u) (x6 x7 : Int) (x8 : D13u) (x9 : D13a) : Option D13z :=
  bif (ltI x7 x6) then
   bif (inB x7 (lenL x5)) then
    bif (nulls_null (nth x5 x7 (0, 0, eB))) then
     bif (inB x7 (lenL x9)) then
      self x3 x4 x5 x6 (addI .i64 x7 1) x8 (List.set x9 (Int.toNat x7) 1)
     else none
    else
     self x3 x4 x5 x6 (addI .i64 x7 1) x8 x9
   else none
  else
   o1_0 x3 x4 x8 x9
def nulls_Split.l0 (o1_0 : Nat → Nat → D13u → D13a → Option D13z) : Nat → Nat → Nat → D13u → Int → Int → D13u → D13a → Option D13z
  | 0 => fun _ _ _ _ _ _ _ => none
  | n + 1 => nulls_Split.S0 o1_0 (nulls_Split.l0 o1_0 n)
def nulls_Split.S (j0 : Nat → Nat → D13u → Int → Int → D13u → D13a → Option D13z) (l : D13u) : Option D13z :=
  ((cloneL 32 l)).bind fun x1 =>
  ((guardA ((decide (0 < (List.length x1))) && true) (slices_DeleteFunc_api_Cell_api_Cell__nulls_Split_1_a0 x1) fun _x => ((decide ((List.length _x.2) = (List.length x1))) && true))).bind fun x2 =>
  bif (eqI (((Int.toNat x2.1) : Nat) : Int) (lenL l)) then
   some (eB, (List.take (Int.toNat x2.1) (List.drop 0 x2.2)))
  else
   bif ((leI 0 (lenL l)) && (roomB (Int.toNat (lenL l)) 8)) then
    j0 0 (Int.toNat x2.1) l (lenL l) 0 x2.2 (List.replicate (Int.toNat (lenL l)) (0 : Int))
   else none
def nulls_Split (l : D13u) : Option D13z := nulls_Split.S (nulls_Split.l0 (nulls_Split.t1 fu) fu) l
def plain_PutInts.S1 (o0_1 : D13a → D13a → Int → Int → Option ByteArray) (self : D13a → Int → D13a → Int → Int → Int → Option ByteArray) (x5 : D13a) (x6 : Int) (x7 : D13a) (x8 x9 x10 : Int) : Option ByteArray :=
  bif (ltI x10 8) then
   bif (roomB ((List.length x5) + 1) 1) then
    self (x5 ++ [(IntKind.wrap .u8 x6)]) (shrI .u64 x6 8) x7 x8 x9 (addI .i64 x10 1)
   else none
  else
   o0_1 x5 x7 x8 (addI .i64 x9 1)
def plain_PutInts.l1 (o0_1 : D13a → D13a → Int → Int → Option ByteArray) : Nat → D13a → Int → D13a → Int → Int → Int → Option ByteArray
  | 0 => fun _ _ _ _ _ _ => none
  | n + 1 => plain_PutInts.S1 o0_1 (plain_PutInts.l1 o0_1 n)
def plain_PutInts.S0 (j1 : D13a → Int → D13a → Int → Int → Int → Option ByteArray) (x1 x2 : D13a) (x3 x4 : Int) : Option ByteArray :=
  bif (ltI x4 x3) then
   bif (inB x4 (lenL x2)) then
    j1 x1 (IntKind.wrap .u64 (nth x2 x4 0)) x2 x3 x4 0
   else none
  else
   some (ofBytes x1)
def plain_PutInts.l0 : Nat → D13a → D13a → Int → Int → Option ByteArray
  | 0 => fun _ _ _ _ => none
  | n + 1 => plain_PutInts.S0 (plain_PutInts.l1 (plain_PutInts.l0 n) n)
def plain_PutInts.S (j0 : D13a → D13a → Int → Int → Option ByteArray) (l : D13a) : Option ByteArray :=
  bif ((leI 0 (mulI .i64 8 (lenL l))) && (roomB (Int.toNat (mulI .i64 8 (lenL l))) 1)) then
   j0 [] l (lenL l) 0
  else none
def plain_PutInts (l : D13a) : Option ByteArray := plain_PutInts.S (plain_PutInts.l0 fu) l
def runs_Of.S0 (self : D13a → D13a → Int → Int → D13o → Option D13q) (x1 x2 : D13a) (x3 x4 : Int) (x5 : D13o) : Option D13q :=
  bif (ltI x4 x3) then
   bif (inB x4 (lenL x2)) then
    bif (eqI x4 0) then
     bif (roomB ((List.length x5) + 1) 24) then
      bif (inB (subI .i64 (lenL (x5 ++ [((nth x2 x4 0), x4, 0)])) 1) (lenL (x5 ++ [((nth x2 x4 0), x4, 0)]))) then
       bif (inB (subI .i64 (lenL (x5 ++ [((nth x2 x4 0), x4, 0)])) 1) (lenL (x5 ++ [((nth x2 x4 0), x4, 0)]))) then
        self x1 x2 x3 (addI .i64 x4 1) (List.set (x5 ++ [((nth x2 x4 0), x4, 0)]) (Int.toNat (subI .i64 (lenL (x5 ++ [((nth x2 x4 0), x4, 0)])) 1)) ((List.getD (x5 ++ [((nth x2 x4 0), x4, 0)]) (Int.toNat (subI .i64 (lenL (x5 ++ [((nth x2 x4 0), x4, 0)])) 1)) (0, 0, 0)).1, (List.getD (x5 ++ [((nth x2 x4 0), x4, 0)]) (Int.toNat (subI .i64 (lenL (x5 ++ [((nth x2 x4 0), x4, 0)])) 1)) (0, 0, 0)).2.1, (addI .i64 (List.getD (x5 ++ [((nth x2 x4 0), x4, 0)]) (Int.toNat (subI .i64 (lenL (x5 ++ [((nth x2 x4 0), x4, 0)])) 1)) (0, 0, 0)).2.2 1)))
       else none
      else none
     else none
    else
     bif (inB (subI .i64 x4 1) (lenL x1)) then
      bif (neI (nth x2 x4 0) (nth x1 (subI .i64 x4 1) 0)) then
       bif (roomB ((List.length x5) + 1) 24) then
        bif (inB (subI .i64 (lenL (x5 ++ [((nth x2 x4 0), x4, 0)])) 1) (lenL (x5 ++ [((nth x2 x4 0), x4, 0)]))) then
         bif (inB (subI .i64 (lenL (x5 ++ [((nth x2 x4 0), x4, 0)])) 1) (lenL (x5 ++ [((nth x2 x4 0), x4, 0)]))) then
          self x1 x2 x3 (addI .i64 x4 1) (List.set (x5 ++ [((nth x2 x4 0), x4, 0)]) (Int.toNat (subI .i64 (lenL (x5 ++ [((nth x2 x4 0), x4, 0)])) 1)) ((List.getD (x5 ++ [((nth x2 x4 0), x4, 0)]) (Int.toNat (subI .i64 (lenL (x5 ++ [((nth x2 x4 0), x4, 0)])) 1)) (0, 0, 0)).1, (List.getD (x5 ++ [((nth x2 x4 0), x4, 0)]) (Int.toNat (subI .i64 (lenL (x5 ++ [((nth x2 x4 0), x4, 0)])) 1)) (0, 0, 0)).2.1, (addI .i64 (List.getD (x5 ++ [((nth x2 x4 0), x4, 0)]) (Int.toNat (subI .i64 (lenL (x5 ++ [((nth x2 x4 0), x4, 0)])) 1)) (0, 0, 0)).2.2 1)))
         else none
        else none
       else none
      else
       bif (inB (subI .i64 (lenL x5) 1) (lenL x5)) then
        bif (inB (subI .i64 (lenL x5) 1) (lenL x5)) then
         self x1 x2 x3 (addI .i64 x4 1) (List.set x5 (Int.toNat (subI .i64 (lenL x5) 1)) ((List.getD x5 (Int.toNat (subI .i64 (lenL x5) 1)) (0, 0, 0)).1, (List.getD x5 (Int.toNat (subI .i64 (lenL x5) 1)) (0, 0, 0)).2.1, (addI .i64 (List.getD x5 (Int.toNat (subI .i64 (lenL x5) 1)) (0, 0, 0)).2.2 1)))
        else none
       else none
     else none
   else none
  else
   some x5
def runs_Of.l0 : Nat → D13a → D13a → Int → Int → D13o → Option D13q
  | 0 => fun _ _ _ _ _ => none
  | n + 1 => runs_Of.S0 (runs_Of.l0 n)
def runs_Of.S (j0 : D13a → D13a → Int → Int → D13o → Option D13q) (l : D13a) : Option D13q :=
  bif (ltI 65536 (lenL l)) then
   some []
  else
   j0 l l (lenL l) 0 []
def runs_Of (l : D13a) : Option D13q := runs_Of.S (runs_Of.l0 fu) l
def runs_count.S0 (self : D13o → Int → D13o → Int → Int → Option (Int × Bool)) (x1 : D13o) (x2 : Int) (x3 : D13o) (x4 x5 : Int) : Option (Int × Bool) :=
  bif (ltI x5 x4) then
   bif (inB x5 (lenL x3)) then
    bif (neI (nth x3 x5 (0, 0, 0)).2.1 x2) then
     some (0, false)
    else
     bif (ltI (nth x3 x5 (0, 0, 0)).2.2 1) then
      some (0, false)
     else
      bif (ltI (subI .i64 65536 x2) (nth x3 x5 (0, 0, 0)).2.2) then
       some (0, false)
      else
       bif (ltI 0 x5) then
        bif (inB (subI .i64 x5 1) (lenL x1)) then
         bif (eqI (nth x3 x5 (0, 0, 0)).1 (nth x1 (subI .i64 x5 1) (0, 0, 0)).1) then
          some (0, false)
         else
          self x1 (addI .i64 x2 (nth x3 x5 (0, 0, 0)).2.2) x3 x4 (addI .i64 x5 1)
        else none
       else
        self x1 (addI .i64 x2 (nth x3 x5 (0, 0, 0)).2.2) x3 x4 (addI .i64 x5 1)
   else none
  else
   some (x2, true)
def runs_count.l0 : Nat → D13o → Int → D13o → Int → Int → Option (Int × Bool)
  | 0 => fun _ _ _ _ _ => none
  | n + 1 => runs_count.S0 (runs_count.l0 n)
def runs_count.S (j0 : D13o → Int → D13o → Int → Int → Option (Int × Bool)) (l : D13o) : Option (Int × Bool) :=
  j0 l 0 l (lenL l) 0
def runs_count (l : D13o) : Option (Int × Bool) := runs_count.S (runs_count.l0 fu) l
def strings_Builder_WriteString_w1 (b : D13j) (s : ByteArray) : Option (Int × Bool × D13j) :=
  bif (roomB ((List.length (bldUse b).2) + (ByteArray.size s)) 1) then
   some ((lenS s), true, (bldUse b).1, ((bldUse b).2 ++ (toBytes s)))
  else none
def runs_Put.S0 (self : D13o → Int → Int → D13j → Option D13g) (x2 : D13o) (x3 x4 : Int) (x5 : D13j) : Option D13g :=
  bif (ltI x4 x3) then
   bif (inB x4 (lenL x2)) then
    ((vint_Put (nth x2 x4 (0, 0, 0)).1)).bind fun x6 =>
    ((strings_Builder_WriteString_w1 x5 x6)).bind fun x7 =>
    ((vint_Put (nth x2 x4 (0, 0, 0)).2.2)).bind fun x8 =>
    ((strings_Builder_WriteString_w1 x7.2.2 x8)).bind fun x9 =>
    self x2 x3 (addI .i64 x4 1) x9.2.2
   else none
  else
   ((bldStr x5)).bind fun x10 =>
   some (x10.1, 0)
def runs_Put.l0 : Nat → D13o → Int → Int → D13j → Option D13g
  | 0 => fun _ _ _ _ => none
  | n + 1 => runs_Put.S0 (runs_Put.l0 n)
def runs_Put.S (j0 : D13o → Int → Int → D13j → Option D13g) (l : D13o) : Option D13g :=
  ((runs_count l)).bind fun x1 =>
  bif (!x1.2) then
   some (eB, 1)
  else
   j0 l (lenL l) 0 (true, [])
def runs_Put (l : D13o) : Option D13g := runs_Put.S (runs_Put.l0 fu) l
def frame_far (xfrom xto : Int) : Int :=
  (IntKind.wrap .i64 (subI .u64 (IntKind.wrap .u64 xto) (IntKind.wrap .u64 xfrom)))
def slices_Min_int_int.S1 (self : D13a → Int → Int → Option Int) (x2 : D13a) (x3 x4 : Int) : Option Int :=
  bif (ltI x4 (lenL x2)) then
   bif (inB x4 (lenL x2)) then
    self x2 (minI x3 (nth x2 x4 0)) (addI .i64 x4 1)
   else none
  else
   some x3
def slices_Min_int_int.l1 : Nat → D13a → Int → Int → Option Int
  | 0 => fun _ _ _ => none
  | n + 1 => slices_Min_int_int.S1 (slices_Min_int_int.l1 n)
def slices_Min_int_int.S0 (j1 : D13a → Int → Int → Option Int) (x1 : D13a) : Option Int :=
  bif (inB 0 (lenL x1)) then
   j1 x1 (nth x1 0 0) 1
  else none
def slices_Min_int_int.t0 : Nat → D13a → Option Int
  | 0 => fun _ => none
  | n + 1 => slices_Min_int_int.S0 (slices_Min_int_int.l1 n)
def slices_Min_int_int.S (j0 : D13a → Option Int) (x : D13a) : Option Int :=
  bif (ltI (lenL x) 1) then
   none
  else
   j0 x
def slices_Min_int_int (x : D13a) : Option Int := slices_Min_int_int.S (slices_Min_int_int.t0 fu) x
def frame_steps.S2 (self : Int → Int → Int → D13a → Option D13h) (x7 x8 x9 : Int) (x10 : D13a) : Option D13h :=
  bif (ltI x9 x8) then
   bif (inB x9 (lenL x10)) then
    bif (inB x9 (lenL x10)) then
     self x7 x8 (addI .i64 x9 1) (List.set x10 (Int.toNat x9) (frame_far x7 (List.getD x10 (Int.toNat x9) 0)))
    else none
   else none
  else
   some (x10, x7)
def frame_steps.l2 : Nat → Int → Int → Int → D13a → Option D13h
  | 0 => fun _ _ _ _ => none
  | n + 1 => frame_steps.S2 (frame_steps.l2 n)
def frame_steps.S1 (j2 : Int → Int → Int → D13a → Option D13h) (x5 : D13a) : Option D13h :=
  ((slices_Min_int_int x5)).bind fun x6 =>
  j2 x6 (lenL x5) 0 x5
def frame_steps.t1 : Nat → D13a → Option D13h
  | 0 => fun _ => none
  | n + 1 => frame_steps.S1 (frame_steps.l2 n)
def frame_steps.S0 (o1_0 : D13a → Option D13h) (self : D13a → Int → D13a → Option D13h) (x1 : D13a) (x2 : Int) (x3 : D13a) : Option D13h :=
  bif (ltI x2 (lenL x1)) then
   bif (inB (subI .i64 x2 1) (lenL x1)) then
    bif (inB x2 (lenL x1)) then
     bif (roomB ((List.length x3) + 1) 8) then
      self x1 (addI .i64 x2 1) (x3 ++ [(frame_far (nth x1 (subI .i64 x2 1) 0) (nth x1 x2 0))])
     else none
    else none
   else none
  else
   o1_0 x3
def frame_steps.l0 (o1_0 : D13a → Option D13h) : Nat → D13a → Int → D13a → Option D13h
  | 0 => fun _ _ _ => none
  | n + 1 => frame_steps.S0 o1_0 (frame_steps.l0 o1_0 n)
def frame_steps.S (j0 : D13a → Int → D13a → Option D13h) (l : D13a) : Option D13h :=
  bif ((leI 0 (lenL l)) && (roomB (Int.toNat (lenL l)) 8)) then
   j0 l 1 []
  else none
def frame_steps (l : D13a) : Option D13h := frame_steps.S (frame_steps.l0 (frame_steps.t1 fu) fu) l
def frame_Put (l : D13a) : Option D13g :=
  bif (ltI 65536 (lenL l)) then
   some (eB, 1)
  else
   bif (eqI (lenL l) 0) then
    some (eB, 0)
   else
    bif (eqI (lenL l) 1) then
     bif (inB 0 (lenL l)) then
      ((vint_Put (nth l 0 0))).bind fun x1 =>
      some (x1, 0)
     else none
    else
     ((frame_steps l)).bind fun x2 =>
     ((pack_Width x2.1)).bind fun x3 =>
     ((pack_Put x2.1 x3)).bind fun x4 =>
     bif (inB 0 (lenL l)) then
      ((vint_Put (nth l 0 0))).bind fun x5 =>
      ((vint_Put x2.2)).bind fun x6 =>
      bif (roomS x5 x6) then
       bif (roomS (addS x5 x6) (ofBytes [(IntKind.wrap .u8 x3)])) then
        bif (roomS (addS (addS x5 x6) (ofBytes [(IntKind.wrap .u8 x3)])) x4.1) then
         some ((addS (addS (addS x5 x6) (ofBytes [(IntKind.wrap .u8 x3)])) x4.1), x4.2)
        else none
       else none
      else none
     else none
def cmp_Less_int (x y : Int) : Bool :=
  bif (cmp_isNaN_int x) then
   bif (!(cmp_isNaN_int y)) then
    true
   else
    (ltI x y)
  else
   (ltI x y)
def cmp_Less_int.o (x y : Int) : Option Bool :=
  bif (cmp_isNaN_int x) then
   bif (!(cmp_isNaN_int y)) then
    some true
   else
    some (ltI x y)
  else
   some (ltI x y)
def slices_isNaN_int (x : Int) : Bool :=
  (neI x x)
def slices_BinarySearch_int_int.S1 (x7 : D13a) (x8 x9 x10 : Int) : Option (Int × Bool) :=
  bif (ltI x10 x9) then
   bif (inB x10 (lenL x7)) then
    bif (eqI (nth x7 x10 0) x8) then
     some (x10, true)
    else
     bif (inB x10 (lenL x7)) then
      bif (slices_isNaN_int (nth x7 x10 0)) then
       some (x10, (slices_isNaN_int x8))
      else
       some (x10, false)
     else none
   else none
  else
   some (x10, false)
def slices_BinarySearch_int_int.t1 : Nat → D13a → Int → Int → Int → Option (Int × Bool)
  | 0 => fun _ _ _ _ => none
  | _ + 1 => slices_BinarySearch_int_int.S1
def slices_BinarySearch_int_int.S0 (o1_0 : D13a → Int → Int → Int → Option (Int × Bool)) (self : D13a → Int → Int → Int → Int → Option (Int × Bool)) (x1 : D13a) (x2 x3 : Int) (x4 x5 : Int) : Option (Int × Bool) :=
  bif (ltI x4 x5) then
   bif (inB (IntKind.wrap .i64 (shrI .u64 (IntKind.wrap .u64 (addI .i64 x4 x5)) 1)) (lenL x1)) then
    bif (cmp_Less_int (nth x1 (IntKind.wrap .i64 (shrI .u64 (IntKind.wrap .u64 (addI .i64 x4 x5)) 1)) 0) x2) then
     self x1 x2 x3 (addI .i64 (IntKind.wrap .i64 (shrI .u64 (IntKind.wrap .u64 (addI .i64 x4 x5)) 1)) 1) x5
    else
     self x1 x2 x3 x4 (IntKind.wrap .i64 (shrI .u64 (IntKind.wrap .u64 (addI .i64 x4 x5)) 1))
   else none
  else
   o1_0 x1 x2 x3 x4
def slices_BinarySearch_int_int.l0 (o1_0 : D13a → Int → Int → Int → Option (Int × Bool)) : Nat → D13a → Int → Int → Int → Int → Option (Int × Bool)
  | 0 => fun _ _ _ _ _ => none
  | n + 1 => slices_BinarySearch_int_int.S0 o1_0 (slices_BinarySearch_int_int.l0 o1_0 n)
def slices_BinarySearch_int_int.S (j0 : D13a → Int → Int → Int → Int → Option (Int × Bool)) (x : D13a) (target : Int) : Option (Int × Bool) :=
  j0 x target (lenL x) 0 (lenL x)
def slices_BinarySearch_int_int (x : D13a) (target : Int) : Option (Int × Bool) := slices_BinarySearch_int_int.S (slices_BinarySearch_int_int.l0 (slices_BinarySearch_int_int.t1 fu) fu) x target
def dict_Of_int.S0 (self : Nat → Nat → D13a → D13a → Int → Int → D13a → Option D13n) (x4 x5 : Nat) (x6 x7 : D13a) (x8 x9 : Int) (x10 : D13a) : Option D13n :=
  bif (ltI x9 x8) then
   bif (inB x9 (lenL x7)) then
    ((slices_BinarySearch_int_int (List.take x5 (List.drop x4 x10)) (nth x7 x9 0))).bind fun x11 =>
    bif (roomB ((List.length x6) + 1) 8) then
     self x4 x5 (x6 ++ [x11.1]) x7 x8 (addI .i64 x9 1) x10
    else none
   else none
  else
   some ((List.take x5 (List.drop x4 x10)), x6)
def dict_Of_int.l0 : Nat → Nat → Nat → D13a → D13a → Int → Int → D13a → Option D13n
  | 0 => fun _ _ _ _ _ _ _ => none
  | n + 1 => dict_Of_int.S0 (dict_Of_int.l0 n)
def dict_Of_int.S (j0 : Nat → Nat → D13a → D13a → Int → Int → D13a → Option D13n) (l : D13a) : Option D13n :=
  ((cloneL 8 l)).bind fun x1 =>
  ((guardA ((decide (0 < (List.length x1))) && true) (sortI x1) fun _x => ((decide ((List.length _x) = (List.length x1))) && true))).bind fun x2 =>
  ((guardA ((decide (0 < (List.length x2))) && true) (compI x2) fun _x => ((decide ((List.length _x.2) = (List.length x2))) && true))).bind fun x3 =>
  j0 0 (Int.toNat x3.1) [] l (lenL l) 0 x3.2
def dict_Of_int (l : D13a) : Option D13n := dict_Of_int.S (dict_Of_int.l0 fu) l
def dict_ints.S0 (self : D13a → Int → Int → D13j → Option D13g) (x1 : D13a) (x2 x3 : Int) (x4 : D13j) : Option D13g :=
  bif (ltI x3 x2) then
   bif (inB x3 (lenL x1)) then
    ((vint_Put (nth x1 x3 0))).bind fun x5 =>
    ((strings_Builder_WriteString_w1 x4 x5)).bind fun x6 =>
    self x1 x2 (addI .i64 x3 1) x6.2.2
   else none
  else
   ((bldStr x4)).bind fun x7 =>
   some (x7.1, 0)
def dict_ints.l0 : Nat → D13a → Int → Int → D13j → Option D13g
  | 0 => fun _ _ _ _ => none
  | n + 1 => dict_ints.S0 (dict_ints.l0 n)
def dict_ints.S (j0 : D13a → Int → Int → D13j → Option D13g) (d : D13a) : Option D13g :=
  j0 d (lenL d) 0 (true, [])
def dict_ints (d : D13a) : Option D13g := dict_ints.S (dict_ints.l0 fu) d
def dict_put_int__dict_ints (l : D13a) : Option D13g :=
  bif (ltI 65536 (lenL l)) then
   some (eB, 1)
  else
   bif (eqI (lenL l) 0) then
    some (eB, 0)
   else
    ((dict_Of_int l)).bind fun x1 =>
    ((dict_ints x1.1)).bind fun x2 =>
    bif (neI x2.2 0) then
     some (eB, x2.2)
    else
     ((pack_Width x1.2)).bind fun x3 =>
     ((pack_Put x1.2 x3)).bind fun x4 =>
     ((vint_Put (lenL x1.1))).bind fun x5 =>
     bif (roomS x5 x2.1) then
      bif (roomS (addS x5 x2.1) x4.1) then
       some ((addS (addS x5 x2.1) x4.1), x4.2)
      else none
     else none
def dict_PutInts (l : D13a) : Option D13g :=
  ((dict_put_int__dict_ints l)).bind fun x1 =>
  some x1
def block_numbers (l : D13a) (code : Int) : Option D13g :=
  bif (eqI code 1) then
   ((plain_PutInts l)).bind fun x1 =>
   some (x1, 0)
  else
   bif (eqI code 2) then
    ((runs_Of l)).bind fun x2 =>
    ((runs_Put x2)).bind fun x3 =>
    some x3
   else
    bif (eqI code 3) then
     ((frame_Put l)).bind fun x4 =>
     some x4
    else
     bif (eqI code 4) then
      ((dict_PutInts l)).bind fun x5 =>
      some x5
     else
      bif (eqI code 5) then
       ((pack_Width l)).bind fun x6 =>
       ((pack_Put l x6)).bind fun x7 =>
       bif (roomS (ofBytes [(IntKind.wrap .u8 x6)]) x7.1) then
        some ((addS (ofBytes [(IntKind.wrap .u8 x6)]) x7.1), x7.2)
       else none
      else
       some (eB, 1)
def strings_Builder_WriteByte_w1 (b : D13j) (c : Int) : Option (Bool × D13j) :=
  bif (roomB ((List.length (bldUse b).2) + 1) 1) then
   some (true, (bldUse b).1, ((bldUse b).2 ++ [c]))
  else none
def plain_PutTexts.S0 (self : D13e → Int → Int → D13j → Option D13g) (x1 : D13e) (x2 x3 : Int) (x4 : D13j) : Option D13g :=
  bif (ltI x3 x2) then
   bif (inB x3 (lenL x1)) then
    bif (ltI 32 (lenS (nth x1 x3 eB))) then
     some (eB, 1)
    else
     ((strings_Builder_WriteByte_w1 x4 (IntKind.wrap .u8 (lenS (nth x1 x3 eB))))).bind fun x5 =>
     ((strings_Builder_WriteString_w1 x5.2 (nth x1 x3 eB))).bind fun x6 =>
     self x1 x2 (addI .i64 x3 1) x6.2.2
   else none
  else
   ((bldStr x4)).bind fun x7 =>
   some (x7.1, 0)
def plain_PutTexts.l0 : Nat → D13e → Int → Int → D13j → Option D13g
  | 0 => fun _ _ _ _ => none
  | n + 1 => plain_PutTexts.S0 (plain_PutTexts.l0 n)
def plain_PutTexts.S (j0 : D13e → Int → Int → D13j → Option D13g) (l : D13e) : Option D13g :=
  j0 l (lenL l) 0 (true, [])
def plain_PutTexts (l : D13e) : Option D13g := plain_PutTexts.S (plain_PutTexts.l0 fu) l
def cmp_isNaN_string (x : ByteArray) : Bool :=
  (!(eqS x x))
def cmp_Less_string (x y : ByteArray) : Bool :=
  bif (cmp_isNaN_string x) then
   bif (!(cmp_isNaN_string y)) then
    true
   else
    (ltS x y)
  else
   (ltS x y)
def cmp_Less_string.o (x y : ByteArray) : Option Bool :=
  bif (cmp_isNaN_string x) then
   bif (!(cmp_isNaN_string y)) then
    some true
   else
    some (ltS x y)
  else
   some (ltS x y)
def slices_isNaN_string (x : ByteArray) : Bool :=
  (!(eqS x x))
def slices_BinarySearch_string_string.S1 (x7 : D13e) (x8 : ByteArray) (x9 x10 : Int) : Option (Int × Bool) :=
  bif (ltI x10 x9) then
   bif (inB x10 (lenL x7)) then
    bif (eqS (nth x7 x10 eB) x8) then
     some (x10, true)
    else
     bif (inB x10 (lenL x7)) then
      bif (slices_isNaN_string (nth x7 x10 eB)) then
       some (x10, (slices_isNaN_string x8))
      else
       some (x10, false)
     else none
   else none
  else
   some (x10, false)
def slices_BinarySearch_string_string.t1 : Nat → D13e → ByteArray → Int → Int → Option (Int × Bool)
  | 0 => fun _ _ _ _ => none
  | _ + 1 => slices_BinarySearch_string_string.S1
def slices_BinarySearch_string_string.S0 (o1_0 : D13e → ByteArray → Int → Int → Option (Int × Bool)) (self : D13e → ByteArray → Int → Int → Int → Option (Int × Bool)) (x1 : D13e) (x2 : ByteArray) (x3 x4 x5 : Int) : Option (Int × Bool) :=
  bif (ltI x4 x5) then
   bif (inB (IntKind.wrap .i64 (shrI .u64 (IntKind.wrap .u64 (addI .i64 x4 x5)) 1)) (lenL x1)) then
    bif (cmp_Less_string (nth x1 (IntKind.wrap .i64 (shrI .u64 (IntKind.wrap .u64 (addI .i64 x4 x5)) 1)) eB) x2) then
     self x1 x2 x3 (addI .i64 (IntKind.wrap .i64 (shrI .u64 (IntKind.wrap .u64 (addI .i64 x4 x5)) 1)) 1) x5
    else
     self x1 x2 x3 x4 (IntKind.wrap .i64 (shrI .u64 (IntKind.wrap .u64 (addI .i64 x4 x5)) 1))
   else none
  else
   o1_0 x1 x2 x3 x4
def slices_BinarySearch_string_string.l0 (o1_0 : D13e → ByteArray → Int → Int → Option (Int × Bool)) : Nat → D13e → ByteArray → Int → Int → Int → Option (Int × Bool)
  | 0 => fun _ _ _ _ _ => none
  | n + 1 => slices_BinarySearch_string_string.S0 o1_0 (slices_BinarySearch_string_string.l0 o1_0 n)
def slices_BinarySearch_string_string.S (j0 : D13e → ByteArray → Int → Int → Int → Option (Int × Bool)) (x : D13e) (target : ByteArray) : Option (Int × Bool) :=
  j0 x target (lenL x) 0 (lenL x)
def slices_BinarySearch_string_string (x : D13e) (target : ByteArray) : Option (Int × Bool) := slices_BinarySearch_string_string.S (slices_BinarySearch_string_string.l0 (slices_BinarySearch_string_string.t1 fu) fu) x target
def dict_Of_string.S0 (self : Nat → Nat → D13a → D13e → Int → Int → D13e → Option D13r) (x4 x5 : Nat) (x6 : D13a) (x7 : D13e) (x8 x9 : Int) (x10 : D13e) : Option D13r :=
  bif (ltI x9 x8) then
   bif (inB x9 (lenL x7)) then
    ((slices_BinarySearch_string_string (List.take x5 (List.drop x4 x10)) (nth x7 x9 eB))).bind fun x11 =>
    bif (roomB ((List.length x6) + 1) 8) then
     self x4 x5 (x6 ++ [x11.1]) x7 x8 (addI .i64 x9 1) x10
    else none
   else none
  else
   some ((List.take x5 (List.drop x4 x10)), x6)
def dict_Of_string.l0 : Nat → Nat → Nat → D13a → D13e → Int → Int → D13e → Option D13r
  | 0 => fun _ _ _ _ _ _ _ => none
  | n + 1 => dict_Of_string.S0 (dict_Of_string.l0 n)
def dict_Of_string.S (j0 : Nat → Nat → D13a → D13e → Int → Int → D13e → Option D13r) (l : D13e) : Option D13r :=
  ((cloneL 16 l)).bind fun x1 =>
  ((guardA ((decide (0 < (List.length x1))) && true) (sortS x1) fun _x => ((decide ((List.length _x) = (List.length x1))) && true))).bind fun x2 =>
  ((guardA ((decide (0 < (List.length x2))) && true) (compS x2) fun _x => ((decide ((List.length _x.2) = (List.length x2))) && true))).bind fun x3 =>
  j0 0 (Int.toNat x3.1) [] l (lenL l) 0 x3.2
def dict_Of_string (l : D13e) : Option D13r := dict_Of_string.S (dict_Of_string.l0 fu) l
def dict_put_string__plain_PutTexts (l : D13e) : Option D13g :=
  bif (ltI 65536 (lenL l)) then
   some (eB, 1)
  else
   bif (eqI (lenL l) 0) then
    some (eB, 0)
   else
    ((dict_Of_string l)).bind fun x1 =>
    ((plain_PutTexts x1.1)).bind fun x2 =>
    bif (neI x2.2 0) then
     some (eB, x2.2)
    else
     ((pack_Width x1.2)).bind fun x3 =>
     ((pack_Put x1.2 x3)).bind fun x4 =>
     ((vint_Put (lenL x1.1))).bind fun x5 =>
     bif (roomS x5 x2.1) then
      bif (roomS (addS x5 x2.1) x4.1) then
       some ((addS (addS x5 x2.1) x4.1), x4.2)
      else none
     else none
def dict_PutTexts (l : D13e) : Option D13g :=
  ((dict_put_string__plain_PutTexts l)).bind fun x1 =>
  some x1
def block_words (l : D13e) (code : Int) : Option D13g :=
  bif (eqI code 1) then
   ((plain_PutTexts l)).bind fun x1 =>
   some x1
  else
   bif (eqI code 4) then
    ((dict_PutTexts l)).bind fun x2 =>
    some x2
   else
    bif (eqI code 2) then
     bif (eqI (lenL l) 0) then
      some (eB, 0)
     else
      ((dict_Of_string l)).bind fun x3 =>
      ((plain_PutTexts x3.1)).bind fun x4 =>
      bif (neI x4.2 0) then
       some (eB, x4.2)
      else
       ((runs_Of x3.2)).bind fun x5 =>
       ((runs_Put x5)).bind fun x6 =>
       ((vint_Put (lenL x3.1))).bind fun x7 =>
       bif (roomS x7 x4.1) then
        bif (roomS (addS x7 x4.1) x6.1) then
         some ((addS (addS x7 x4.1) x6.1), x6.2)
        else none
       else none
    else
     some (eB, 1)
def block_values.S1 (x8 x9 : Int) (x10 : D13a) (x11 : D13e) : Option D13g :=
  bif (eqI x8 1) then
   ((block_numbers x10 x9)).bind fun x12 =>
   some x12
  else
   ((block_words x11 x9)).bind fun x13 =>
   some x13
def block_values.t1 : Nat → Int → Int → D13a → D13e → Option D13g
  | 0 => fun _ _ _ _ => none
  | _ + 1 => block_values.S1
def block_values.S0 (o1_0 : Int → Int → D13a → D13e → Option D13g) (self : Int → Int → D13a → D13e → D13u → Int → Int → Option D13g) (x1 x2 : Int) (x3 : D13a) (x4 : D13e) (x5 : D13u) (x6 x7 : Int) : Option D13g :=
  bif (ltI x7 x6) then
   bif (inB x7 (lenL x5)) then
    bif (roomB ((List.length x3) + 1) 8) then
     bif (roomB ((List.length x4) + 1) 16) then
      self x1 x2 (x3 ++ [(nth x5 x7 (0, 0, eB)).2.1]) (x4 ++ [(nth x5 x7 (0, 0, eB)).2.2]) x5 x6 (addI .i64 x7 1)
     else none
    else none
   else none
  else
   o1_0 x1 x2 x3 x4
def block_values.l0 (o1_0 : Int → Int → D13a → D13e → Option D13g) : Nat → Int → Int → D13a → D13e → D13u → Int → Int → Option D13g
  | 0 => fun _ _ _ _ _ _ _ => none
  | n + 1 => block_values.S0 o1_0 (block_values.l0 o1_0 n)
def block_values.S (j0 : Int → Int → D13a → D13e → D13u → Int → Int → Option D13g) (l : D13u) (kind code : Int) : Option D13g :=
  j0 kind code [] [] l (lenL l) 0
def block_values (l : D13u) (kind code : Int) : Option D13g := block_values.S (block_values.l0 (block_values.t1 fu) fu) l kind code
def check_More.S1 (o0_1 : ByteArray → Int → Int → Int → Option Int) (self : ByteArray → Int → Int → Int → Int → Option Int) (x5 : ByteArray) (x6 x7 : Int) (x8 x9 : Int) : Option Int :=
  bif (ltI x9 8) then
   self x5 (xorI .u32 (shrI .u32 x6 1) (andI .u32 2197175160 (subI .u32 0 (andI .u32 x6 1)))) x7 x8 (addI .i64 x9 1)
  else
   o0_1 x5 x6 x7 (addI .i64 x8 1)
def check_More.l1 (o0_1 : ByteArray → Int → Int → Int → Option Int) : Nat → ByteArray → Int → Int → Int → Int → Option Int
  | 0 => fun _ _ _ _ _ => none
  | n + 1 => check_More.S1 o0_1 (check_More.l1 o0_1 n)
def check_More.S0 (j1 : ByteArray → Int → Int → Int → Int → Option Int) (x1 : ByteArray) (x2 x3 x4 : Int) : Option Int :=
  bif (ltI x4 x3) then
   bif (inB x4 (lenS x1)) then
    j1 x1 (xorI .u32 x2 (IntKind.wrap .u32 (byteAt x1 x4))) x3 x4 0
   else none
  else
   some (IntKind.wrap .i64 (xorI .u32 4294967295 x2))
def check_More.l0 : Nat → ByteArray → Int → Int → Int → Option Int
  | 0 => fun _ _ _ _ => none
  | n + 1 => check_More.S0 (check_More.l1 (check_More.l0 n) n)
def check_More.S (j0 : ByteArray → Int → Int → Int → Option Int) (sum : Int) (s : ByteArray) : Option Int :=
  j0 s (xorI .u32 4294967295 (IntKind.wrap .u32 sum)) (lenS s) 0
def check_More (sum : Int) (s : ByteArray) : Option Int := check_More.S (check_More.l0 fu) sum s
def check_Sum (s : ByteArray) : Option Int :=
  ((check_More 0 s)).bind fun x1 =>
  some x1
def check_Seal.S0 (self : Int → D13a → Int → Option ByteArray) (x2 : Int) (x3 : D13a) (x4 : Int) : Option ByteArray :=
  bif (ltI x4 4) then
   bif (leI 0 (mulI .i64 8 x4)) then
    bif (roomB ((List.length x3) + 1) 1) then
     self x2 (x3 ++ [(IntKind.wrap .u8 (shrI .u32 x2 (mulI .i64 8 x4)))]) (addI .i64 x4 1)
    else none
   else none
  else
   some (ofBytes x3)
def check_Seal.l0 : Nat → Int → D13a → Int → Option ByteArray
  | 0 => fun _ _ _ => none
  | n + 1 => check_Seal.S0 (check_Seal.l0 n)
def check_Seal.S (j0 : Int → D13a → Int → Option ByteArray) (s : ByteArray) : Option ByteArray :=
  ((check_Sum s)).bind fun x1 =>
  bif ((leI 0 (addI .i64 (lenS s) 4)) && (roomB (Int.toNat (addI .i64 (lenS s) 4)) 1)) then
   bif (roomB (0 + (ByteArray.size s)) 1) then
    j0 (IntKind.wrap .u32 x1) (toBytes s) 0
   else none
  else none
def check_Seal (s : ByteArray) : Option ByteArray := check_Seal.S (check_Seal.l0 fu) s
def block_Put (l : D13u) (kind code : Int) : Option D13g :=
  ((block_may l kind)).bind fun x1 =>
  bif (!x1) then
   some (eB, 1)
  else
   ((nulls_Split l)).bind fun x2 =>
   ((block_values x2.2 kind code)).bind fun x3 =>
   bif (neI x3.2 0) then
    some (eB, 1)
   else
    bif (roomS (ofBytes [(IntKind.wrap .u8 kind), (IntKind.wrap .u8 code), (IntKind.wrap .u8 (lenL l)), (IntKind.wrap .u8 (lenS x2.1))]) x2.1) then
     bif (roomS (addS (ofBytes [(IntKind.wrap .u8 kind), (IntKind.wrap .u8 code), (IntKind.wrap .u8 (lenL l)), (IntKind.wrap .u8 (lenS x2.1))]) x2.1) x3.1) then
      ((check_Seal (addS (addS (ofBytes [(IntKind.wrap .u8 kind), (IntKind.wrap .u8 code), (IntKind.wrap .u8 (lenL l)), (IntKind.wrap .u8 (lenS x2.1))]) x2.1) x3.1))).bind fun x4 =>
      some (x4, 0)
     else none
    else none
def check_Open (s : ByteArray) : Option D13g :=
  bif (ltI (subI .i64 (lenS s) 4) 0) then
   some (eB, 5)
  else
   bif (inC 0 (subI .i64 (lenS s) 4) (lenS s)) then
    ((check_Seal (cutS s 0 (subI .i64 (lenS s) 4)))).bind fun x1 =>
    bif (!(eqS x1 s)) then
     some (eB, 5)
    else
     bif (inC 0 (subI .i64 (lenS s) 4) (lenS s)) then
      some ((cutS s 0 (subI .i64 (lenS s) 4)), 0)
     else none
   else none
def pack_word.S0 (self : ByteArray → Int → Int → Int → Int → Option Int) (x1 : ByteArray) (x2 x3 : Int) (x4 x5 : Int) : Option Int :=
  bif (ltI x5 x2) then
   bif (inB (shrI .i64 x4 3) (lenS x1)) then
    bif (leI 0 (andI .i64 x4 7)) then
     ((bits_Mask (minI (subI .i64 8 (andI .i64 x4 7)) (subI .i64 x2 x5)))).bind fun x6 =>
     bif (leI 0 x5) then
      self x1 x2 (orI .u64 x3 (shlI .u64 (andI .u64 (shrI .u64 (IntKind.wrap .u64 (byteAt x1 (shrI .i64 x4 3))) (andI .i64 x4 7)) (IntKind.wrap .u64 x6)) x5)) (addI .i64 x4 (minI (subI .i64 8 (andI .i64 x4 7)) (subI .i64 x2 x5))) (addI .i64 x5 (minI (subI .i64 8 (andI .i64 x4 7)) (subI .i64 x2 x5)))
     else none
    else none
   else none
  else
   some (IntKind.wrap .i64 x3)
def pack_word.l0 : Nat → ByteArray → Int → Int → Int → Int → Option Int
  | 0 => fun _ _ _ _ _ => none
  | n + 1 => pack_word.S0 (pack_word.l0 n)
def pack_word.S (j0 : ByteArray → Int → Int → Int → Int → Option Int) (s : ByteArray) (xk width : Int) : Option Int :=
  j0 s width 0 (mulI .i64 xk width) 0
def pack_word (s : ByteArray) (xk width : Int) : Option Int := pack_word.S (pack_word.l0 fu) s xk width
def pack_Take.S1 (self : ByteArray → Int → Int → Int → D13a → Option D13h) (x5 : ByteArray) (x6 x7 x8 : Int) (x9 : D13a) : Option D13h :=
  bif (ltI x8 x7) then
   ((pack_word x5 x8 x6)).bind fun x10 =>
   bif (inB x8 (lenL x9)) then
    self x5 x6 x7 (addI .i64 x8 1) (List.set x9 (Int.toNat x8) x10)
   else none
  else
   some (x9, 0)
def pack_Take.l1 : Nat → ByteArray → Int → Int → Int → D13a → Option D13h
  | 0 => fun _ _ _ _ _ => none
  | n + 1 => pack_Take.S1 (pack_Take.l1 n)
def pack_Take.S0 (j1 : ByteArray → Int → Int → Int → D13a → Option D13h) (x2 : ByteArray) (x3 x4 : Int) : Option D13h :=
  bif ((leI 0 x3) && (roomB (Int.toNat x3) 8)) then
   j1 x2 x4 x3 0 (List.replicate (Int.toNat x3) (0 : Int))
  else none
def pack_Take.t0 : Nat → ByteArray → Int → Int → Option D13h
  | 0 => fun _ _ _ => none
  | n + 1 => pack_Take.S0 (pack_Take.l1 n)
def pack_Take.S (j0 : ByteArray → Int → Int → Option D13h) (s : ByteArray) (xn width : Int) : Option D13h :=
  bif (ltI width 0) then
   some ([], 1)
  else
   bif (ltI 64 width) then
    some ([], 1)
   else
    bif (ltI xn 0) then
     some ([], 1)
    else
     bif (ltI 65536 xn) then
      some ([], 1)
     else
      bif (neI (lenS s) (pack_Bytes xn width)) then
       some ([], 20)
      else
       bif (ltI 0 (andI .i64 (mulI .i64 xn width) 7)) then
        bif (inB (subI .i64 (lenS s) 1) (lenS s)) then
         bif (leI 0 (andI .i64 (mulI .i64 xn width) 7)) then
          bif (ltI 0 (shrI .u8 (byteAt s (subI .i64 (lenS s) 1)) (andI .i64 (mulI .i64 xn width) 7))) then
           some ([], 20)
          else
           j0 s xn width
         else none
        else none
       else
        j0 s xn width
def pack_Take (s : ByteArray) (xn width : Int) : Option D13h := pack_Take.S (pack_Take.t0 fu) s xn width
def slices_Index_int_int.S0 (self : D13a → Int → Int → Int → Option Int) (x1 : D13a) (x2 x3 x4 : Int) : Option Int :=
  bif (ltI x4 x3) then
   bif (inB x4 (lenL x1)) then
    bif (eqI x2 (nth x1 x4 0)) then
     some x4
    else
     self x1 x2 x3 (addI .i64 x4 1)
   else none
  else
   some (-1)
def slices_Index_int_int.l0 : Nat → D13a → Int → Int → Int → Option Int
  | 0 => fun _ _ _ _ => none
  | n + 1 => slices_Index_int_int.S0 (slices_Index_int_int.l0 n)
def slices_Index_int_int.S (j0 : D13a → Int → Int → Int → Option Int) (s : D13a) (v : Int) : Option Int :=
  j0 s v (lenL s) 0
def slices_Index_int_int (s : D13a) (v : Int) : Option Int := slices_Index_int_int.S (slices_Index_int_int.l0 fu) s v
def slices_Contains_int_int (s : D13a) (v : Int) : Option Bool :=
  ((slices_Index_int_int s v)).bind fun x1 =>
  some (leI 0 x1)
def nulls_bits (s : ByteArray) (xn : Int) : Option D13h :=
  bif (ltI xn 0) then
   some ([], 1)
  else
   bif (ltI 65536 xn) then
    some ([], 1)
   else
    bif (eqS s eB) then
     bif ((leI 0 xn) && (roomB (Int.toNat xn) 8)) then
      some ((List.replicate (Int.toNat xn) (0 : Int)), 0)
     else none
    else
     ((pack_Take s xn 1)).bind fun x1 =>
     bif (neI x1.2 0) then
      some ([], 20)
     else
      ((slices_Contains_int_int x1.1 1)).bind fun x2 =>
      bif (!x2) then
       some ([], 20)
      else
       some (x1.1, 0)
def nulls_Count.S0 (self : Int → Int → D13a → Int → Int → Option D13b) (x2 x3 : Int) (x4 : D13a) (x5 x6 : Int) : Option D13b :=
  bif (ltI x6 x5) then
   bif (inB x6 (lenL x4)) then
    self x2 (addI .i64 x3 (nth x4 x6 0)) x4 x5 (addI .i64 x6 1)
   else none
  else
   some (x3, x2)
def nulls_Count.l0 : Nat → Int → Int → D13a → Int → Int → Option D13b
  | 0 => fun _ _ _ _ _ => none
  | n + 1 => nulls_Count.S0 (nulls_Count.l0 n)
def nulls_Count.S (j0 : Int → Int → D13a → Int → Int → Option D13b) (s : ByteArray) (xn : Int) : Option D13b :=
  ((nulls_bits s xn)).bind fun x1 =>
  j0 x1.2 0 x1.1 (lenL x1.1) 0
def nulls_Count (s : ByteArray) (xn : Int) : Option D13b := nulls_Count.S (nulls_Count.l0 fu) s xn
def plain_TakeInts.S1 (o0_1 : ByteArray → Int → Int → D13a → Option D13h) (self : ByteArray → Int → Int → Int → Int → Int → D13a → Option D13h) (x5 : ByteArray) (x6 x7 : Int) (x8 x9 x10 : Int) (x11 : D13a) : Option D13h :=
  bif (ltI x10 8) then
   bif (inB (addI .i64 (mulI .i64 8 x6) x10) (lenS x5)) then
    bif (leI 0 (mulI .i64 8 x10)) then
     self x5 x6 (orI .u64 x7 (shlI .u64 (IntKind.wrap .u64 (byteAt x5 (addI .i64 (mulI .i64 8 x6) x10))) (mulI .i64 8 x10))) x8 x9 (addI .i64 x10 1) x11
    else none
   else none
  else
   bif (inB x6 (lenL x11)) then
    o0_1 x5 x8 (addI .i64 x9 1) (List.set x11 (Int.toNat x6) (IntKind.wrap .i64 x7))
   else none
def plain_TakeInts.l1 (o0_1 : ByteArray → Int → Int → D13a → Option D13h) : Nat → ByteArray → Int → Int → Int → Int → Int → D13a → Option D13h
  | 0 => fun _ _ _ _ _ _ _ => none
  | n + 1 => plain_TakeInts.S1 o0_1 (plain_TakeInts.l1 o0_1 n)
def plain_TakeInts.S0 (j1 : ByteArray → Int → Int → Int → Int → Int → D13a → Option D13h) (x1 : ByteArray) (x2 x3 : Int) (x4 : D13a) : Option D13h :=
  bif (ltI x3 x2) then
   j1 x1 x3 0 x2 x3 0 x4
  else
   some (x4, 0)
def plain_TakeInts.l0 : Nat → ByteArray → Int → Int → D13a → Option D13h
  | 0 => fun _ _ _ _ => none
  | n + 1 => plain_TakeInts.S0 (plain_TakeInts.l1 (plain_TakeInts.l0 n) n)
def plain_TakeInts.S (j0 : ByteArray → Int → Int → D13a → Option D13h) (s : ByteArray) (xn : Int) : Option D13h :=
  bif (ltI xn 0) then
   some ([], 20)
  else
   bif (neI (remI (lenS s) 8) 0) then
    some ([], 20)
   else
    bif (neI xn (quoI .i64 (lenS s) 8)) then
     some ([], 20)
    else
     bif ((leI 0 xn) && (roomB (Int.toNat xn) 8)) then
      j0 s xn 0 (List.replicate (Int.toNat xn) (0 : Int))
     else none
def plain_TakeInts (s : ByteArray) (xn : Int) : Option D13h := plain_TakeInts.S (plain_TakeInts.l0 fu) s xn
def runs_Take.S1 (x7 : Int) (x8 : D13o) (x9 : Int) : Option D13v :=
  ((runs_count x8)).bind fun x10 =>
  bif (!x10.2) then
   some ([], 20)
  else
   bif (neI x9 x7) then
    some ([], 20)
   else
    some (x8, 0)
def runs_Take.t1 : Nat → Int → D13o → Int → Option D13v
  | 0 => fun _ _ _ => none
  | _ + 1 => runs_Take.S1
def runs_Take.S0 (o1_0 : Int → D13o → Int → Option D13v) (self : ByteArray → Int → D13o → Int → Option D13v) (x1 : ByteArray) (x2 : Int) (x3 : D13o) (x4 : Int) : Option D13v :=
  bif (!(eqS x1 eB)) then
   ((vint_Take x1)).bind fun x5 =>
   bif (neI x5.2.2 0) then
    some ([], 20)
   else
    bif (inC x5.2.1 (lenS x1) (lenS x1)) then
     ((vint_Take (cutS x1 x5.2.1 (lenS x1)))).bind fun x6 =>
     bif (neI x6.2.2 0) then
      some ([], 20)
     else
      bif (ltI x6.1 1) then
       some ([], 20)
      else
       bif (ltI (subI .i64 x2 x4) x6.1) then
        some ([], 20)
       else
        bif (roomB ((List.length x3) + 1) 24) then
         bif (inC (addI .i64 x5.2.1 x6.2.1) (lenS x1) (lenS x1)) then
          self (cutS x1 (addI .i64 x5.2.1 x6.2.1) (lenS x1)) x2 (x3 ++ [(x5.1, x4, x6.1)]) (addI .i64 x4 x6.1)
         else none
        else none
    else none
  else
   o1_0 x2 x3 x4
def runs_Take.l0 (o1_0 : Int → D13o → Int → Option D13v) : Nat → ByteArray → Int → D13o → Int → Option D13v
  | 0 => fun _ _ _ _ => none
  | n + 1 => runs_Take.S0 o1_0 (runs_Take.l0 o1_0 n)
def runs_Take.S (j0 : ByteArray → Int → D13o → Int → Option D13v) (s : ByteArray) (xn : Int) : Option D13v :=
  bif (ltI xn 0) then
   some ([], 1)
  else
   bif (ltI 65536 xn) then
    some ([], 1)
   else
    j0 s xn [] 0
def runs_Take (s : ByteArray) (xn : Int) : Option D13v := runs_Take.S (runs_Take.l0 (runs_Take.t1 fu) fu) s xn
def math_bits_Mul64 (x y : Int) : Int × Int :=
  ((addI .u64 (addI .u64 (mulI .u64 (shrI .u64 x 32) (shrI .u64 y 32)) (shrI .u64 (addI .u64 (mulI .u64 (shrI .u64 x 32) (andI .u64 y 4294967295)) (shrI .u64 (mulI .u64 (andI .u64 x 4294967295) (andI .u64 y 4294967295)) 32)) 32)) (shrI .u64 (addI .u64 (andI .u64 (addI .u64 (mulI .u64 (shrI .u64 x 32) (andI .u64 y 4294967295)) (shrI .u64 (mulI .u64 (andI .u64 x 4294967295) (andI .u64 y 4294967295)) 32)) 4294967295) (mulI .u64 (andI .u64 x 4294967295) (shrI .u64 y 32))) 32)), (mulI .u64 x y))
def math_bits_Mul (x y : Int) : Int × Int :=
  (math_bits_Mul64 x y)
def slices_Repeat_int_int.S2 (self : Int → D13a → Option D13d) (x6 : Int) (x7 : D13a) : Option D13d :=
  bif (ltI x6 (lenL x7)) then
   bif (inC x6 (lenL x7) (lenL x7)) then
    bif (inC 0 x6 (lenL x7)) then
     self (addI .i64 x6 (((List.length (List.take ((Int.toNat (lenL x7)) - (Int.toNat x6)) (List.take ((Int.toNat x6) - 0) (List.drop 0 x7)))) : Nat) : Int)) (splA x7 (Int.toNat x6) (List.take ((Int.toNat (lenL x7)) - (Int.toNat x6)) (List.take ((Int.toNat x6) - 0) (List.drop 0 x7))))
    else none
   else none
  else
   some x7
def slices_Repeat_int_int.l2 : Nat → Int → D13a → Option D13d
  | 0 => fun _ _ => none
  | n + 1 => slices_Repeat_int_int.S2 (slices_Repeat_int_int.l2 n)
def slices_Repeat_int_int.S1 (j2 : Int → D13a → Option D13d) (x4 : D13a) (x5 : Int) : Option D13d :=
  bif ((leI 0 (IntKind.wrap .i64 x5)) && (roomB (Int.toNat (IntKind.wrap .i64 x5)) 8)) then
   j2 (((List.length (List.take (List.length (List.replicate (Int.toNat (IntKind.wrap .i64 x5)) (0 : Int))) x4)) : Nat) : Int) (splA (List.replicate (Int.toNat (IntKind.wrap .i64 x5)) (0 : Int)) 0 (List.take (List.length (List.replicate (Int.toNat (IntKind.wrap .i64 x5)) (0 : Int))) x4))
  else none
def slices_Repeat_int_int.t1 : Nat → D13a → Int → Option D13d
  | 0 => fun _ _ => none
  | n + 1 => slices_Repeat_int_int.S1 (slices_Repeat_int_int.l2 n)
def slices_Repeat_int_int.S0 (j1 : D13a → Int → Option D13d) (x1 : D13a) (x2 : Int) : Option D13d :=
  let x3 := (math_bits_Mul (IntKind.wrap .u64 (lenL x1)) (IntKind.wrap .u64 x2))
  bif (ltI 0 x3.1) then
   none
  else
   bif (ltI 9223372036854775807 x3.2) then
    none
   else
    j1 x1 x3.2
def slices_Repeat_int_int.t0 : Nat → D13a → Int → Option D13d
  | 0 => fun _ _ => none
  | n + 1 => slices_Repeat_int_int.S0 (slices_Repeat_int_int.t1 n)
def slices_Repeat_int_int.S (j0 : D13a → Int → Option D13d) (x : D13a) (count : Int) : Option D13d :=
  bif (ltI count 0) then
   none
  else
   j0 x count
def slices_Repeat_int_int (x : D13a) (count : Int) : Option D13d := slices_Repeat_int_int.S (slices_Repeat_int_int.t0 fu) x count
def runs_Flat.S0 (self : D13a → D13o → Int → Int → Option D13h) (x2 : D13a) (x3 : D13o) (x4 x5 : Int) : Option D13h :=
  bif (ltI x5 x4) then
   bif (inB x5 (lenL x3)) then
    ((slices_Repeat_int_int [(nth x3 x5 (0, 0, 0)).1] (nth x3 x5 (0, 0, 0)).2.2)).bind fun x6 =>
    bif (roomB ((List.length x2) + (List.length x6)) 8) then
     self (x2 ++ x6) x3 x4 (addI .i64 x5 1)
    else none
   else none
  else
   some (x2, 0)
def runs_Flat.l0 : Nat → D13a → D13o → Int → Int → Option D13h
  | 0 => fun _ _ _ _ => none
  | n + 1 => runs_Flat.S0 (runs_Flat.l0 n)
def runs_Flat.S (j0 : D13a → D13o → Int → Int → Option D13h) (l : D13o) : Option D13h :=
  ((runs_count l)).bind fun x1 =>
  bif (!x1.2) then
   some ([], 1)
  else
   bif ((leI 0 x1.1) && (roomB (Int.toNat x1.1) 8)) then
    j0 [] l (lenL l) 0
   else none
def runs_Flat (l : D13o) : Option D13h := runs_Flat.S (runs_Flat.l0 fu) l
def frame_Take_1_w (t0 : ByteArray) (t1 : Bool) : Option (Int × ByteArray × Bool) :=
  ((vint_Take t0)).bind fun x1 =>
  bif t1 then
   bif (inC x1.2.1 (lenS t0) (lenS t0)) then
    some (x1.1, (cutS t0 x1.2.1 (lenS t0)), true)
   else none
  else
   bif (inC x1.2.1 (lenS t0) (lenS t0)) then
    some (x1.1, (cutS t0 x1.2.1 (lenS t0)), (neI x1.2.2 0))
   else none
def frame_moved (xfrom xby : Int) : Int :=
  (IntKind.wrap .i64 (addI .u64 (IntKind.wrap .u64 xfrom) (IntKind.wrap .u64 xby)))
def frame_Take.S2 (x18 : ByteArray) (x19 : D13a) (x20 : Bool) : Option D13h :=
  ((frame_Put x19)).bind fun x21 =>
  bif x20 then
   some ([], 20)
  else
   bif (neI x21.2 0) then
    some ([], 20)
   else
    bif (!(eqS x21.1 x18)) then
     some ([], 20)
    else
     some (x19, 0)
def frame_Take.t2 : Nat → ByteArray → D13a → Bool → Option D13h
  | 0 => fun _ _ _ => none
  | _ + 1 => frame_Take.S2
def frame_Take.S1 (o2_1 : ByteArray → D13a → Bool → Option D13h) (self : ByteArray → D13a → Int → D13a → Int → Int → Bool → Option D13h) (x9 : ByteArray) (x10 : D13a) (x11 : Int) (x12 : D13a) (x13 x14 : Int) (x15 : Bool) : Option D13h :=
  bif (ltI x14 x13) then
   bif (inB x14 (lenL x12)) then
    bif (inB (subI .i64 (lenL x10) 1) (lenL x10)) then
     bif (roomB ((List.length x10) + 1) 8) then
      self x9 (x10 ++ [(frame_moved (frame_moved (nth x10 (subI .i64 (lenL x10) 1) 0) x11) (nth x12 x14 0))]) x11 x12 x13 (addI .i64 x14 1) x15
     else none
    else none
   else none
  else
   o2_1 x9 x10 x15
def frame_Take.l1 (o2_1 : ByteArray → D13a → Bool → Option D13h) : Nat → ByteArray → D13a → Int → D13a → Int → Int → Bool → Option D13h
  | 0 => fun _ _ _ _ _ _ _ => none
  | n + 1 => frame_Take.S1 o2_1 (frame_Take.l1 o2_1 n)
def frame_Take.S0 (j1 : ByteArray → D13a → Int → D13a → Int → Int → Bool → Option D13h) (j2 : ByteArray → D13a → Bool → Option D13h) (x2 : ByteArray) (x3 : Int) (x4 : D13a) (x5 : ByteArray) (x6 : Bool) : Option D13h :=
  bif (ltI 1 x3) then
   ((frame_Take_1_w x5 x6)).bind fun x7 =>
   bif x7.2.2 then
    some ([], 20)
   else
    bif (eqS x7.2.1 eB) then
     some ([], 20)
    else
     bif (inC 1 (lenS x7.2.1) (lenS x7.2.1)) then
      bif (inB 0 (lenS x7.2.1)) then
       ((pack_Take (cutS x7.2.1 1 (lenS x7.2.1)) (subI .i64 x3 1) (IntKind.wrap .i64 (byteAt x7.2.1 0)))).bind fun x8 =>
       bif (neI x8.2 0) then
        some ([], 20)
       else
        j1 x2 x4 x7.1 x8.1 (lenL x8.1) 0 x7.2.2
      else none
     else none
  else
   j2 x2 x4 x6
def frame_Take.t0 : Nat → ByteArray → Int → D13a → ByteArray → Bool → Option D13h
  | 0 => fun _ _ _ _ _ => none
  | n + 1 => frame_Take.S0 (frame_Take.l1 (frame_Take.t2 n) n) (frame_Take.t2 n)
def frame_Take.S (j0 : ByteArray → Int → D13a → ByteArray → Bool → Option D13h) (s : ByteArray) (xn : Int) : Option D13h :=
  bif (ltI xn 0) then
   some ([], 1)
  else
   bif (ltI 65536 xn) then
    some ([], 1)
   else
    bif (ltI 0 xn) then
     ((frame_Take_1_w s false)).bind fun x1 =>
     j0 s xn [x1.1] x1.2.1 x1.2.2
    else
     j0 s xn [] s false
def frame_Take (s : ByteArray) (xn : Int) : Option D13h := frame_Take.S (frame_Take.t0 fu) s xn
def dict_TakeInts_1 (s : ByteArray) : Option D13b :=
  ((vint_Take s)).bind fun x1 =>
  bif (neI x1.2.2 0) then
   some (0, 0)
  else
   some (x1.1, x1.2.1)
def slices_Index_bool_bool.S0 (self : D13c → Bool → Int → Int → Option Int) (x1 : D13c) (x2 : Bool) (x3 x4 : Int) : Option Int :=
  bif (ltI x4 x3) then
   bif (inB x4 (lenL x1)) then
    bif (eqB x2 (nth x1 x4 false)) then
     some x4
    else
     self x1 x2 x3 (addI .i64 x4 1)
   else none
  else
   some (-1)
def slices_Index_bool_bool.l0 : Nat → D13c → Bool → Int → Int → Option Int
  | 0 => fun _ _ _ _ => none
  | n + 1 => slices_Index_bool_bool.S0 (slices_Index_bool_bool.l0 n)
def slices_Index_bool_bool.S (j0 : D13c → Bool → Int → Int → Option Int) (s : D13c) (v : Bool) : Option Int :=
  j0 s v (lenL s) 0
def slices_Index_bool_bool (s : D13c) (v : Bool) : Option Int := slices_Index_bool_bool.S (slices_Index_bool_bool.l0 fu) s v
def slices_Contains_bool_bool (s : D13c) (v : Bool) : Option Bool :=
  ((slices_Index_bool_bool s v)).bind fun x1 =>
  some (leI 0 x1)
def dict_take_int__dict_TakeInts_1.S3 (x24 x25 : D13a) (x26 : D13c) : Option D13s :=
  ((slices_Contains_bool_bool x26 false)).bind fun x27 =>
  bif x27 then
   some ([], [], 20)
  else
   some (x24, x25, 0)
def dict_take_int__dict_TakeInts_1.t3 : Nat → D13a → D13a → D13c → Option D13s
  | 0 => fun _ _ _ => none
  | _ + 1 => dict_take_int__dict_TakeInts_1.S3
def dict_take_int__dict_TakeInts_1.S2 (o3_1 : D13a → D13a → D13c → Option D13s) (self : Int → D13a → D13a → D13a → Int → Int → D13c → Option D13s) (x17 : Int) (x18 x19 x20 : D13a) (x21 x22 : Int) (x23 : D13c) : Option D13s :=
  bif (ltI x22 x21) then
   bif (inB x22 (lenL x20)) then
    bif (ltI (nth x20 x22 0) 0) then
     some ([], [], 20)
    else
     bif (leI x17 (nth x20 x22 0)) then
      some ([], [], 20)
     else
      bif (inB (nth x20 x22 0) (lenL x23)) then
       self x17 x18 x19 x20 x21 (addI .i64 x22 1) (List.set x23 (Int.toNat (nth x20 x22 0)) true)
      else none
   else none
  else
   o3_1 x18 x19 x23
def dict_take_int__dict_TakeInts_1.l2 (o3_1 : D13a → D13a → D13c → Option D13s) : Nat → Int → D13a → D13a → D13a → Int → Int → D13c → Option D13s
  | 0 => fun _ _ _ _ _ _ _ => none
  | n + 1 => dict_take_int__dict_TakeInts_1.S2 o3_1 (dict_take_int__dict_TakeInts_1.l2 o3_1 n)
def dict_take_int__dict_TakeInts_1.S1 (j2 : Int → D13a → D13a → D13a → Int → Int → D13c → Option D13s) (x10 : ByteArray) (x11 x12 x13 : Int) (x14 : D13a) : Option D13s :=
  bif (inC x13 (lenS x10) (lenS x10)) then
   ((pack_Width [(subI .i64 x12 1)])).bind fun x15 =>
   ((pack_Take (cutS x10 x13 (lenS x10)) x11 x15)).bind fun x16 =>
   bif (neI x16.2 0) then
    some ([], [], 20)
   else
    bif ((leI 0 x12) && (roomB (Int.toNat x12) 1)) then
     j2 x12 x14 x16.1 x16.1 (lenL x16.1) 0 (List.replicate (Int.toNat x12) false)
    else none
  else none
def dict_take_int__dict_TakeInts_1.t1 : Nat → ByteArray → Int → Int → Int → D13a → Option D13s
  | 0 => fun _ _ _ _ _ => none
  | n + 1 => dict_take_int__dict_TakeInts_1.S1 (dict_take_int__dict_TakeInts_1.l2 (dict_take_int__dict_TakeInts_1.t3 n) n)
def dict_take_int__dict_TakeInts_1.S0 (o1_0 : ByteArray → Int → Int → Int → D13a → Option D13s) (self : ByteArray → Int → Int → Int → D13a → Int → Int → Option D13s) (x2 : ByteArray) (x3 x4 x5 : Int) (x6 : D13a) (x7 x8 : Int) : Option D13s :=
  bif (ltI x8 x7) then
   bif (inC x5 (lenS x2) (lenS x2)) then
    ((dict_TakeInts_1 (cutS x2 x5 (lenS x2)))).bind fun x9 =>
    bif (eqI x9.2 0) then
     some ([], [], 20)
    else
     bif (ltI 0 x8) then
      bif (inB (subI .i64 x8 1) (lenL x6)) then
       bif (leI x9.1 (nth x6 (subI .i64 x8 1) 0)) then
        some ([], [], 20)
       else
        bif (roomB ((List.length x6) + 1) 8) then
         self x2 x3 x4 (addI .i64 x5 x9.2) (x6 ++ [x9.1]) x7 (addI .i64 x8 1)
        else none
      else none
     else
      bif (roomB ((List.length x6) + 1) 8) then
       self x2 x3 x4 (addI .i64 x5 x9.2) (x6 ++ [x9.1]) x7 (addI .i64 x8 1)
      else none
   else none
  else
   o1_0 x2 x3 x4 x5 x6
def dict_take_int__dict_TakeInts_1.l0 (o1_0 : ByteArray → Int → Int → Int → D13a → Option D13s) : Nat → ByteArray → Int → Int → Int → D13a → Int → Int → Option D13s
  | 0 => fun _ _ _ _ _ _ _ => none
  | n + 1 => dict_take_int__dict_TakeInts_1.S0 o1_0 (dict_take_int__dict_TakeInts_1.l0 o1_0 n)
def dict_take_int__dict_TakeInts_1.S (j0 : ByteArray → Int → Int → Int → D13a → Int → Int → Option D13s) (s : ByteArray) (xn : Int) : Option D13s :=
  bif (ltI xn 0) then
   some ([], [], 1)
  else
   bif (ltI 65536 xn) then
    some ([], [], 1)
   else
    bif (eqI xn 0) then
     bif (!(eqS s eB)) then
      some ([], [], 20)
     else
      some ([], [], 0)
    else
     ((vint_Take s)).bind fun x1 =>
     bif (neI x1.2.2 0) then
      some ([], [], 20)
     else
      bif (ltI x1.1 1) then
       some ([], [], 20)
      else
       bif (ltI xn x1.1) then
        some ([], [], 20)
       else
        j0 s xn x1.1 x1.2.1 [] x1.1 0
def dict_take_int__dict_TakeInts_1 (s : ByteArray) (xn : Int) : Option D13s := dict_take_int__dict_TakeInts_1.S (dict_take_int__dict_TakeInts_1.l0 (dict_take_int__dict_TakeInts_1.t1 fu) fu) s xn
def dict_flat_int.S0 (self : D13a → D13a → D13a → Int → Int → Option D13d) (x1 x2 x3 : D13a) (x4 x5 : Int) : Option D13d :=
  bif (ltI x5 x4) then
   bif (inB x5 (lenL x3)) then
    bif (inB (nth x3 x5 0) (lenL x1)) then
     bif (roomB ((List.length x2) + 1) 8) then
      self x1 (x2 ++ [(nth x1 (nth x3 x5 0) 0)]) x3 x4 (addI .i64 x5 1)
     else none
    else none
   else none
  else
   some x2
def dict_flat_int.l0 : Nat → D13a → D13a → D13a → Int → Int → Option D13d
  | 0 => fun _ _ _ _ _ => none
  | n + 1 => dict_flat_int.S0 (dict_flat_int.l0 n)
def dict_flat_int.S (j0 : D13a → D13a → D13a → Int → Int → Option D13d) (d places : D13a) : Option D13d :=
  j0 d [] places (lenL places) 0
def dict_flat_int (d places : D13a) : Option D13d := dict_flat_int.S (dict_flat_int.l0 fu) d places
def dict_TakeInts (s : ByteArray) (xn : Int) : Option D13h :=
  ((dict_take_int__dict_TakeInts_1 s xn)).bind fun x1 =>
  bif (neI x1.2.2 0) then
   some ([], x1.2.2)
  else
   ((dict_flat_int x1.1 x1.2.1)).bind fun x2 =>
   some (x2, 0)
def block_ints (s : ByteArray) (xn code : Int) : Option D13h :=
  bif (eqI code 1) then
   ((plain_TakeInts s xn)).bind fun x1 =>
   some x1
  else
   bif (eqI code 2) then
    ((runs_Take s xn)).bind fun x2 =>
    bif (neI x2.2 0) then
     some ([], x2.2)
    else
     ((runs_Flat x2.1)).bind fun x3 =>
     some x3
   else
    bif (eqI code 3) then
     ((frame_Take s xn)).bind fun x4 =>
     some x4
    else
     bif (eqI code 4) then
      ((dict_TakeInts s xn)).bind fun x5 =>
      some x5
     else
      bif (eqI code 5) then
       bif (!(eqS s eB)) then
        bif (inC 1 (lenS s) (lenS s)) then
         bif (inB 0 (lenS s)) then
          ((pack_Take (cutS s 1 (lenS s)) xn (IntKind.wrap .i64 (byteAt s 0)))).bind fun x6 =>
          some x6
         else none
        else none
       else
        some ([], 5)
      else
       some ([], 5)
def plain_TakeTexts.S1 (x4 : Int) (x5 : D13e) : Option D13l :=
  bif (neI (lenL x5) x4) then
   some ([], 20)
  else
   some (x5, 0)
def plain_TakeTexts.t1 : Nat → Int → D13e → Option D13l
  | 0 => fun _ _ => none
  | _ + 1 => plain_TakeTexts.S1
def plain_TakeTexts.S0 (o1_0 : Int → D13e → Option D13l) (self : ByteArray → Int → D13e → Option D13l) (x1 : ByteArray) (x2 : Int) (x3 : D13e) : Option D13l :=
  bif (!(eqS x1 eB)) then
   bif (inB 0 (lenS x1)) then
    bif (ltI 32 (IntKind.wrap .i64 (byteAt x1 0))) then
     some ([], 20)
    else
     bif (leI (lenS x1) (IntKind.wrap .i64 (byteAt x1 0))) then
      some ([], 20)
     else
      bif (inC 1 (addI .i64 1 (IntKind.wrap .i64 (byteAt x1 0))) (lenS x1)) then
       bif (roomB ((List.length x3) + 1) 16) then
        bif (inC (addI .i64 1 (IntKind.wrap .i64 (byteAt x1 0))) (lenS x1) (lenS x1)) then
         self (cutS x1 (addI .i64 1 (IntKind.wrap .i64 (byteAt x1 0))) (lenS x1)) x2 (x3 ++ [(cutS x1 1 (addI .i64 1 (IntKind.wrap .i64 (byteAt x1 0))))])
        else none
       else none
      else none
   else none
  else
   o1_0 x2 x3
def plain_TakeTexts.l0 (o1_0 : Int → D13e → Option D13l) : Nat → ByteArray → Int → D13e → Option D13l
  | 0 => fun _ _ _ => none
  | n + 1 => plain_TakeTexts.S0 o1_0 (plain_TakeTexts.l0 o1_0 n)
def plain_TakeTexts.S (j0 : ByteArray → Int → D13e → Option D13l) (s : ByteArray) (xn : Int) : Option D13l :=
  j0 s xn []
def plain_TakeTexts (s : ByteArray) (xn : Int) : Option D13l := plain_TakeTexts.S (plain_TakeTexts.l0 (plain_TakeTexts.t1 fu) fu) s xn
def block_running.S2 (self : Int → D13e → D13e → D13a → Int → Int → Option D13l) (x16 : Int) (x17 x18 : D13e) (x19 : D13a) (x20 x21 : Int) : Option D13l :=
  bif (ltI x21 x20) then
   bif (inB x21 (lenL x19)) then
    bif (ltI (nth x19 x21 0) 0) then
     some ([], 5)
    else
     bif (leI x16 (nth x19 x21 0)) then
      some ([], 5)
     else
      bif (inB (nth x19 x21 0) (lenL x17)) then
       bif (roomB ((List.length x18) + 1) 16) then
        self x16 x17 (x18 ++ [(nth x17 (nth x19 x21 0) eB)]) x19 x20 (addI .i64 x21 1)
       else none
      else none
   else none
  else
   some (x18, 0)
def block_running.l2 : Nat → Int → D13e → D13e → D13a → Int → Int → Option D13l
  | 0 => fun _ _ _ _ _ _ => none
  | n + 1 => block_running.S2 (block_running.l2 n)
def block_running.S1 (j2 : Int → D13e → D13e → D13a → Int → Int → Option D13l) (x9 : ByteArray) (x10 x11 x12 : Int) (x13 : D13e) : Option D13l :=
  bif (inC x12 (lenS x9) (lenS x9)) then
   ((runs_Take (cutS x9 x12 (lenS x9)) x10)).bind fun x14 =>
   bif (neI x14.2 0) then
    some ([], x14.2)
   else
    ((runs_Flat x14.1)).bind fun x15 =>
    bif (neI x15.2 0) then
     some ([], x15.2)
    else
     j2 x11 x13 [] x15.1 (lenL x15.1) 0
  else none
def block_running.t1 : Nat → ByteArray → Int → Int → Int → D13e → Option D13l
  | 0 => fun _ _ _ _ _ => none
  | n + 1 => block_running.S1 (block_running.l2 n)
def block_running.S0 (o1_0 : ByteArray → Int → Int → Int → D13e → Option D13l) (self : ByteArray → Int → Int → Int → D13e → Int → Int → Option D13l) (x2 : ByteArray) (x3 x4 x5 : Int) (x6 : D13e) (x7 x8 : Int) : Option D13l :=
  bif (ltI x8 x7) then
   bif (leI (lenS x2) x5) then
    some ([], 5)
   else
    bif (inB x5 (lenS x2)) then
     bif (leI (subI .i64 (lenS x2) x5) (IntKind.wrap .i64 (byteAt x2 x5))) then
      some ([], 5)
     else
      bif (inB x5 (lenS x2)) then
       bif (inC (addI .i64 x5 1) (addI .i64 (addI .i64 x5 1) (IntKind.wrap .i64 (byteAt x2 x5))) (lenS x2)) then
        bif (roomB ((List.length x6) + 1) 16) then
         self x2 x3 x4 (addI .i64 (addI .i64 x5 1) (IntKind.wrap .i64 (byteAt x2 x5))) (x6 ++ [(cutS x2 (addI .i64 x5 1) (addI .i64 (addI .i64 x5 1) (IntKind.wrap .i64 (byteAt x2 x5))))]) x7 (addI .i64 x8 1)
        else none
       else none
      else none
    else none
  else
   o1_0 x2 x3 x4 x5 x6
def block_running.l0 (o1_0 : ByteArray → Int → Int → Int → D13e → Option D13l) : Nat → ByteArray → Int → Int → Int → D13e → Int → Int → Option D13l
  | 0 => fun _ _ _ _ _ _ _ => none
  | n + 1 => block_running.S0 o1_0 (block_running.l0 o1_0 n)
def block_running.S (j0 : ByteArray → Int → Int → Int → D13e → Int → Int → Option D13l) (s : ByteArray) (xn : Int) : Option D13l :=
  bif (eqI xn 0) then
   bif (!(eqS s eB)) then
    some ([], 5)
   else
    some ([], 0)
  else
   ((vint_Take s)).bind fun x1 =>
   bif (neI x1.2.2 0) then
    some ([], 5)
   else
    bif (ltI x1.1 1) then
     some ([], 5)
    else
     bif (ltI xn x1.1) then
      some ([], 5)
     else
      j0 s xn x1.1 x1.2.1 [] x1.1 0
def block_running (s : ByteArray) (xn : Int) : Option D13l := block_running.S (block_running.l0 (block_running.t1 fu) fu) s xn
def dict_Places_1 (s : ByteArray) : Option D13g :=
  bif (eqS s eB) then
   some (eB, 0)
  else
   bif (inB 0 (lenS s)) then
    bif (ltI 32 (IntKind.wrap .i64 (byteAt s 0))) then
     some (eB, 0)
    else
     bif (leI (lenS s) (IntKind.wrap .i64 (byteAt s 0))) then
      some (eB, 0)
     else
      bif (inC 1 (addI .i64 1 (IntKind.wrap .i64 (byteAt s 0))) (lenS s)) then
       some ((cutS s 1 (addI .i64 1 (IntKind.wrap .i64 (byteAt s 0)))), (addI .i64 1 (IntKind.wrap .i64 (byteAt s 0))))
      else none
   else none
def dict_take_string__dict_Places_1.S3 (x24 : D13e) (x25 : D13a) (x26 : D13c) : Option D13w :=
  ((slices_Contains_bool_bool x26 false)).bind fun x27 =>
  bif x27 then
   some ([], [], 20)
  else
   some (x24, x25, 0)
def dict_take_string__dict_Places_1.t3 : Nat → D13e → D13a → D13c → Option D13w
  | 0 => fun _ _ _ => none
  | _ + 1 => dict_take_string__dict_Places_1.S3
def dict_take_string__dict_Places_1.S2 (o3_1 : D13e → D13a → D13c → Option D13w) (self : Int → D13e → D13a → D13a → Int → Int → D13c → Option D13w) (x17 : Int) (x18 : D13e) (x19 x20 : D13a) (x21 x22 : Int) (x23 : D13c) : Option D13w :=
  bif (ltI x22 x21) then
   bif (inB x22 (lenL x20)) then
    bif (ltI (nth x20 x22 0) 0) then
     some ([], [], 20)
    else
     bif (leI x17 (nth x20 x22 0)) then
      some ([], [], 20)
     else
      bif (inB (nth x20 x22 0) (lenL x23)) then
       self x17 x18 x19 x20 x21 (addI .i64 x22 1) (List.set x23 (Int.toNat (nth x20 x22 0)) true)
      else none
   else none
  else
   o3_1 x18 x19 x23
def dict_take_string__dict_Places_1.l2 (o3_1 : D13e → D13a → D13c → Option D13w) : Nat → Int → D13e → D13a → D13a → Int → Int → D13c → Option D13w
  | 0 => fun _ _ _ _ _ _ _ => none
  | n + 1 => dict_take_string__dict_Places_1.S2 o3_1 (dict_take_string__dict_Places_1.l2 o3_1 n)
def dict_take_string__dict_Places_1.S1 (j2 : Int → D13e → D13a → D13a → Int → Int → D13c → Option D13w) (x10 : ByteArray) (x11 x12 x13 : Int) (x14 : D13e) : Option D13w :=
  bif (inC x13 (lenS x10) (lenS x10)) then
   ((pack_Width [(subI .i64 x12 1)])).bind fun x15 =>
   ((pack_Take (cutS x10 x13 (lenS x10)) x11 x15)).bind fun x16 =>
   bif (neI x16.2 0) then
    some ([], [], 20)
   else
    bif ((leI 0 x12) && (roomB (Int.toNat x12) 1)) then
     j2 x12 x14 x16.1 x16.1 (lenL x16.1) 0 (List.replicate (Int.toNat x12) false)
    else none
  else none
def dict_take_string__dict_Places_1.t1 : Nat → ByteArray → Int → Int → Int → D13e → Option D13w
  | 0 => fun _ _ _ _ _ => none
  | n + 1 => dict_take_string__dict_Places_1.S1 (dict_take_string__dict_Places_1.l2 (dict_take_string__dict_Places_1.t3 n) n)
def dict_take_string__dict_Places_1.S0 (o1_0 : ByteArray → Int → Int → Int → D13e → Option D13w) (self : ByteArray → Int → Int → Int → D13e → Int → Int → Option D13w) (x2 : ByteArray) (x3 x4 x5 : Int) (x6 : D13e) (x7 x8 : Int) : Option D13w :=
  bif (ltI x8 x7) then
   bif (inC x5 (lenS x2) (lenS x2)) then
    ((dict_Places_1 (cutS x2 x5 (lenS x2)))).bind fun x9 =>
    bif (eqI x9.2 0) then
     some ([], [], 20)
    else
     bif (ltI 0 x8) then
      bif (inB (subI .i64 x8 1) (lenL x6)) then
       bif ((ltS x9.1 (nth x6 (subI .i64 x8 1) eB)) || (eqS x9.1 (nth x6 (subI .i64 x8 1) eB))) then
        some ([], [], 20)
       else
        bif (roomB ((List.length x6) + 1) 16) then
         self x2 x3 x4 (addI .i64 x5 x9.2) (x6 ++ [x9.1]) x7 (addI .i64 x8 1)
        else none
      else none
     else
      bif (roomB ((List.length x6) + 1) 16) then
       self x2 x3 x4 (addI .i64 x5 x9.2) (x6 ++ [x9.1]) x7 (addI .i64 x8 1)
      else none
   else none
  else
   o1_0 x2 x3 x4 x5 x6
def dict_take_string__dict_Places_1.l0 (o1_0 : ByteArray → Int → Int → Int → D13e → Option D13w) : Nat → ByteArray → Int → Int → Int → D13e → Int → Int → Option D13w
  | 0 => fun _ _ _ _ _ _ _ => none
  | n + 1 => dict_take_string__dict_Places_1.S0 o1_0 (dict_take_string__dict_Places_1.l0 o1_0 n)
def dict_take_string__dict_Places_1.S (j0 : ByteArray → Int → Int → Int → D13e → Int → Int → Option D13w) (s : ByteArray) (xn : Int) : Option D13w :=
  bif (ltI xn 0) then
   some ([], [], 1)
  else
   bif (ltI 65536 xn) then
    some ([], [], 1)
   else
    bif (eqI xn 0) then
     bif (!(eqS s eB)) then
      some ([], [], 20)
     else
      some ([], [], 0)
    else
     ((vint_Take s)).bind fun x1 =>
     bif (neI x1.2.2 0) then
      some ([], [], 20)
     else
      bif (ltI x1.1 1) then
       some ([], [], 20)
      else
       bif (ltI xn x1.1) then
        some ([], [], 20)
       else
        j0 s xn x1.1 x1.2.1 [] x1.1 0
def dict_take_string__dict_Places_1 (s : ByteArray) (xn : Int) : Option D13w := dict_take_string__dict_Places_1.S (dict_take_string__dict_Places_1.l0 (dict_take_string__dict_Places_1.t1 fu) fu) s xn
def dict_Places (s : ByteArray) (xn : Int) : Option D13w :=
  ((dict_take_string__dict_Places_1 s xn)).bind fun x1 =>
  some x1
def dict_flat_string.S0 (self : D13e → D13e → D13a → Int → Int → Option (D13e)) (x1 x2 : D13e) (x3 : D13a) (x4 x5 : Int) : Option (D13e) :=
  bif (ltI x5 x4) then
   bif (inB x5 (lenL x3)) then
    bif (inB (nth x3 x5 0) (lenL x1)) then
     bif (roomB ((List.length x2) + 1) 16) then
      self x1 (x2 ++ [(nth x1 (nth x3 x5 0) eB)]) x3 x4 (addI .i64 x5 1)
     else none
    else none
   else none
  else
   some x2
def dict_flat_string.l0 : Nat → D13e → D13e → D13a → Int → Int → Option (D13e)
  | 0 => fun _ _ _ _ _ => none
  | n + 1 => dict_flat_string.S0 (dict_flat_string.l0 n)
def dict_flat_string.S (j0 : D13e → D13e → D13a → Int → Int → Option (D13e)) (d : D13e) (places : D13a) : Option (D13e) :=
  j0 d [] places (lenL places) 0
def dict_flat_string (d : D13e) (places : D13a) : Option (D13e) := dict_flat_string.S (dict_flat_string.l0 fu) d places
def dict_TakeTexts (s : ByteArray) (xn : Int) : Option D13l :=
  ((dict_Places s xn)).bind fun x1 =>
  bif (neI x1.2.2 0) then
   some ([], x1.2.2)
  else
   ((dict_flat_string x1.1 x1.2.1)).bind fun x2 =>
   some (x2, 0)
def block_texts (s : ByteArray) (xn code : Int) : Option D13l :=
  bif (eqI code 1) then
   ((plain_TakeTexts s xn)).bind fun x1 =>
   some x1
  else
   bif (eqI code 2) then
    ((block_running s xn)).bind fun x2 =>
    some x2
   else
    bif (eqI code 4) then
     ((dict_TakeTexts s xn)).bind fun x3 =>
     some x3
    else
     some ([], 5)
def block_cells.S0 (self : D13u → Int → D13a → Int → Int → D13p → Option D13x) (x2 : D13u) (x3 : Int) (x4 : D13a) (x5 x6 : Int) (x7 : D13p) : Option D13x :=
  bif (ltI x6 x5) then
   bif (inB x6 (lenL x4)) then
    bif (roomB ((List.length x2) + 1) 32) then
     self (x2 ++ [(x7.1, (nth x4 x6 0), eB)]) x3 x4 x5 (addI .i64 x6 1) x7
    else none
   else none
  else
   some (x2, x3)
def block_cells.l0 : Nat → D13u → Int → D13a → Int → Int → D13p → Option D13x
  | 0 => fun _ _ _ _ _ _ => none
  | n + 1 => block_cells.S0 (block_cells.l0 n)
def block_cells.S1 (self : D13u → Int → D13e → Int → Int → D13p → Option D13x) (x9 : D13u) (x10 : Int) (x11 : D13e) (x12 x13 : Int) (x14 : D13p) : Option D13x :=
  bif (ltI x13 x12) then
   bif (inB x13 (lenL x11)) then
    bif (roomB ((List.length x9) + 1) 32) then
     self (x9 ++ [(x14.1, 0, (nth x11 x13 eB))]) x10 x11 x12 (addI .i64 x13 1) x14
    else none
   else none
  else
   some (x9, x10)
def block_cells.l1 : Nat → D13u → Int → D13e → Int → Int → D13p → Option D13x
  | 0 => fun _ _ _ _ _ _ => none
  | n + 1 => block_cells.S1 (block_cells.l1 n)
def block_cells.S (j0 : D13u → Int → D13a → Int → Int → D13p → Option D13x) (j1 : D13u → Int → D13e → Int → Int → D13p → Option D13x) (s : ByteArray) (xn : Int) (h : D13p) : Option D13x :=
  bif (eqI h.1 1) then
   ((block_ints s xn h.2.1)).bind fun x1 =>
   j0 [] x1.2 x1.1 (lenL x1.1) 0 h
  else
   bif (eqI h.1 2) then
    ((block_texts s xn h.2.1)).bind fun x8 =>
    j1 [] x8.2 x8.1 (lenL x8.1) 0 h
   else
    some ([], 5)
def block_cells (s : ByteArray) (xn : Int) (h : D13p) : Option D13x := block_cells.S (block_cells.l0 fu) (block_cells.l1 fu) s xn h
def slices_IndexFunc_api_Cell_api_Cell__nulls_null.S0 (self : D13u → Int → Int → Option Int) (x1 : D13u) (x2 x3 : Int) : Option Int :=
  bif (ltI x3 x2) then
   bif (inB x3 (lenL x1)) then
    bif (nulls_null (nth x1 x3 (0, 0, eB))) then
     some x3
    else
     self x1 x2 (addI .i64 x3 1)
   else none
  else
   some (-1)
def slices_IndexFunc_api_Cell_api_Cell__nulls_null.l0 : Nat → D13u → Int → Int → Option Int
  | 0 => fun _ _ _ => none
  | n + 1 => slices_IndexFunc_api_Cell_api_Cell__nulls_null.S0 (slices_IndexFunc_api_Cell_api_Cell__nulls_null.l0 n)
def slices_IndexFunc_api_Cell_api_Cell__nulls_null.S (j0 : D13u → Int → Int → Option Int) (s : D13u) : Option Int :=
  j0 s (lenL s) 0
def slices_IndexFunc_api_Cell_api_Cell__nulls_null (s : D13u) : Option Int := slices_IndexFunc_api_Cell_api_Cell__nulls_null.S (slices_IndexFunc_api_Cell_api_Cell__nulls_null.l0 fu) s
def slices_ContainsFunc_api_Cell_api_Cell__nulls_null (s : D13u) : Option Bool :=
  ((slices_IndexFunc_api_Cell_api_Cell__nulls_null s)).bind fun x1 =>
  some (leI 0 x1)
def nulls_Join.S0 (self : D13u → D13a → Int → Int → D13u → Option D13x) (x4 : D13u) (x5 : D13a) (x6 x7 : Int) (x8 : D13u) : Option D13x :=
  bif (ltI x7 x6) then
   bif (inB x7 (lenL x5)) then
    bif (eqI (nth x5 x7 0) 0) then
     bif (inB 0 (lenL x4)) then
      bif (inC 1 (lenL x4) (lenL x4)) then
       bif (inB x7 (lenL x8)) then
        self (List.drop 1 x4) x5 x6 (addI .i64 x7 1) (List.set x8 (Int.toNat x7) (nth x4 0 (0, 0, eB)))
       else none
      else none
     else none
    else
     self x4 x5 x6 (addI .i64 x7 1) x8
   else none
  else
   some (x8, 0)
def nulls_Join.l0 : Nat → D13u → D13a → Int → Int → D13u → Option D13x
  | 0 => fun _ _ _ _ _ => none
  | n + 1 => nulls_Join.S0 (nulls_Join.l0 n)
def nulls_Join.S (j0 : D13u → D13a → Int → Int → D13u → Option D13x) (s : ByteArray) (xn : Int) (l : D13u) : Option D13x :=
  ((nulls_bits s xn)).bind fun x1 =>
  bif (neI x1.2 0) then
   some ([], x1.2)
  else
   ((nulls_Count s xn)).bind fun x2 =>
   bif (neI (lenL l) (subI .i64 xn x2.1)) then
    some ([], 20)
   else
    ((slices_ContainsFunc_api_Cell_api_Cell__nulls_null l)).bind fun x3 =>
    bif x3 then
     some ([], 20)
    else
     bif ((leI 0 xn) && (roomB (Int.toNat xn) 32)) then
      j0 l x1.1 (lenL (List.replicate (Int.toNat xn) ((0 : Int), ((0 : Int), eB)))) 0 (List.replicate (Int.toNat xn) ((0 : Int), ((0 : Int), eB)))
     else none
def nulls_Join (s : ByteArray) (xn : Int) (l : D13u) : Option D13x := nulls_Join.S (nulls_Join.l0 fu) s xn l
def block_read (s : ByteArray) : Option ((D13p × (ByteArray × D13z)) × Bool) :=
  ((check_Open s)).bind fun x1 =>
  bif (neI x1.2 0) then
   some (((0, 0, 0, 0), eB, eB, []), false)
  else
   bif (ltI (lenS x1.1) 4) then
    some (((0, 0, 0, 0), eB, eB, []), false)
   else
    bif (inB 3 (lenS x1.1)) then
     bif (ltI (subI .i64 (lenS x1.1) 4) (IntKind.wrap .i64 (byteAt x1.1 3))) then
      some (((0, 0, 0, 0), eB, eB, []), false)
     else
      bif (inB 3 (lenS x1.1)) then
       bif (inB 0 (lenS x1.1)) then
        bif (inB 1 (lenS x1.1)) then
         bif (inB 2 (lenS x1.1)) then
          bif (inC 4 (addI .i64 4 (IntKind.wrap .i64 (byteAt x1.1 3))) (lenS x1.1)) then
           bif (inC (addI .i64 4 (IntKind.wrap .i64 (byteAt x1.1 3))) (lenS x1.1) (lenS x1.1)) then
            ((nulls_Count (cutS x1.1 4 (addI .i64 4 (IntKind.wrap .i64 (byteAt x1.1 3)))) (IntKind.wrap .i64 (byteAt x1.1 2)))).bind fun x2 =>
            bif (neI x2.2 0) then
             some ((((IntKind.wrap .i64 (byteAt x1.1 0)), (IntKind.wrap .i64 (byteAt x1.1 1)), (IntKind.wrap .i64 (byteAt x1.1 2)), x2.1), (cutS x1.1 4 (addI .i64 4 (IntKind.wrap .i64 (byteAt x1.1 3)))), (cutS x1.1 (addI .i64 4 (IntKind.wrap .i64 (byteAt x1.1 3))) (lenS x1.1)), []), false)
            else
             ((block_cells (cutS x1.1 (addI .i64 4 (IntKind.wrap .i64 (byteAt x1.1 3))) (lenS x1.1)) (subI .i64 (IntKind.wrap .i64 (byteAt x1.1 2)) x2.1) ((IntKind.wrap .i64 (byteAt x1.1 0)), (IntKind.wrap .i64 (byteAt x1.1 1)), (IntKind.wrap .i64 (byteAt x1.1 2)), x2.1))).bind fun x3 =>
             bif (neI x3.2 0) then
              some ((((IntKind.wrap .i64 (byteAt x1.1 0)), (IntKind.wrap .i64 (byteAt x1.1 1)), (IntKind.wrap .i64 (byteAt x1.1 2)), x2.1), (cutS x1.1 4 (addI .i64 4 (IntKind.wrap .i64 (byteAt x1.1 3)))), (cutS x1.1 (addI .i64 4 (IntKind.wrap .i64 (byteAt x1.1 3))) (lenS x1.1)), []), false)
             else
              ((nulls_Join (cutS x1.1 4 (addI .i64 4 (IntKind.wrap .i64 (byteAt x1.1 3)))) (IntKind.wrap .i64 (byteAt x1.1 2)) x3.1)).bind fun x4 =>
              bif (neI x4.2 0) then
               some ((((IntKind.wrap .i64 (byteAt x1.1 0)), (IntKind.wrap .i64 (byteAt x1.1 1)), (IntKind.wrap .i64 (byteAt x1.1 2)), x2.1), (cutS x1.1 4 (addI .i64 4 (IntKind.wrap .i64 (byteAt x1.1 3)))), (cutS x1.1 (addI .i64 4 (IntKind.wrap .i64 (byteAt x1.1 3))) (lenS x1.1)), x4.1), false)
              else
               ((block_Put x4.1 (IntKind.wrap .i64 (byteAt x1.1 0)) (IntKind.wrap .i64 (byteAt x1.1 1)))).bind fun x5 =>
               bif (eqI x5.2 0) then
                some ((((IntKind.wrap .i64 (byteAt x1.1 0)), (IntKind.wrap .i64 (byteAt x1.1 1)), (IntKind.wrap .i64 (byteAt x1.1 2)), x2.1), (cutS x1.1 4 (addI .i64 4 (IntKind.wrap .i64 (byteAt x1.1 3)))), (cutS x1.1 (addI .i64 4 (IntKind.wrap .i64 (byteAt x1.1 3))) (lenS x1.1)), x4.1), (eqS x5.1 s))
               else
                some ((((IntKind.wrap .i64 (byteAt x1.1 0)), (IntKind.wrap .i64 (byteAt x1.1 1)), (IntKind.wrap .i64 (byteAt x1.1 2)), x2.1), (cutS x1.1 4 (addI .i64 4 (IntKind.wrap .i64 (byteAt x1.1 3)))), (cutS x1.1 (addI .i64 4 (IntKind.wrap .i64 (byteAt x1.1 3))) (lenS x1.1)), x4.1), false)
           else none
          else none
         else none
        else none
       else none
      else none
    else none
def block_Take (s : ByteArray) : Option D13x :=
  ((block_read s)).bind fun x1 =>
  bif (!x1.2) then
   some ([], 5)
  else
   some (x1.1.2.2.2, 0)
def block_Look (s : ByteArray) : Option (D13p × Int) :=
  ((block_read s)).bind fun x1 =>
  bif (!x1.2) then
   some ((0, 0, 0, 0), 5)
  else
   some (x1.1.1, 0)
def ref12_Same.S0 (self : D13u → D13u → Int → Option Bool) (x1 x2 : D13u) (x3 : Int) : Option Bool :=
  bif (ltI x3 (lenL x1)) then
   bif (inB x3 (lenL x1)) then
    bif (inB x3 (lenL x2)) then
     bif (!((eqI (nth x1 x3 (0, 0, eB)).1 (nth x2 x3 (0, 0, eB)).1) && ((eqI (nth x1 x3 (0, 0, eB)).2.1 (nth x2 x3 (0, 0, eB)).2.1) && (eqS (nth x1 x3 (0, 0, eB)).2.2 (nth x2 x3 (0, 0, eB)).2.2)))) then
      some false
     else
      self x1 x2 (addI .i64 x3 1)
    else none
   else none
  else
   some true
def ref12_Same.l0 : Nat → D13u → D13u → Int → Option Bool
  | 0 => fun _ _ _ => none
  | n + 1 => ref12_Same.S0 (ref12_Same.l0 n)
def ref12_Same.S (j0 : D13u → D13u → Int → Option Bool) (a b : D13u) : Option Bool :=
  bif (neI (lenL a) (lenL b)) then
   some false
  else
   j0 a b 0
def ref12_Same (a b : D13u) : Option Bool := ref12_Same.S (ref12_Same.l0 fu) a b
def law13_awake : Option Bool :=
  ((block_Put [(law13_num 7), (0, 0, eB), (law13_num 7)] 1 2)).bind fun x3 =>
  ((block_Take x3.1)).bind fun x4 =>
  ((block_Look x3.1)).bind fun x5 =>
  bif (eqI x3.2 0) then
   bif (eqI (lenS x3.1) 11) then
    ((ref12_Same x4.1 [(law13_num 7), (0, 0, eB), (law13_num 7)])).bind fun x6 =>
    bif x6 then
     bif (eqI x4.2 0) then
      bif ((eqI x5.1.1 1) && ((eqI x5.1.2.1 2) && ((eqI x5.1.2.2.1 3) && (eqI x5.1.2.2.2 1)))) then
       some (eqI x5.2 0)
      else
       some false
     else
      some false
    else
     some false
   else
    some false
  else
   some false
def ref13_May.S1 (self : D13u → Int → Int → Option Bool) (x3 : D13u) (x4 x5 : Int) : Option Bool :=
  bif (ltI x5 (lenL x3)) then
   bif (inB x5 (lenL x3)) then
    bif (!(ref06_May (nth x3 x5 (0, 0, eB)))) then
     some false
    else
     bif (inB x5 (lenL x3)) then
      bif (neI (nth x3 x5 (0, 0, eB)).1 0) then
       bif (inB x5 (lenL x3)) then
        bif (neI (nth x3 x5 (0, 0, eB)).1 x4) then
         some false
        else
         self x3 x4 (addI .i64 x5 1)
       else none
      else
       self x3 x4 (addI .i64 x5 1)
     else none
   else none
  else
   some true
def ref13_May.l1 : Nat → D13u → Int → Int → Option Bool
  | 0 => fun _ _ _ => none
  | n + 1 => ref13_May.S1 (ref13_May.l1 n)
def ref13_May.S0 (j1 : D13u → Int → Int → Option Bool) (x1 : D13u) (x2 : Int) : Option Bool :=
  j1 x1 x2 0
def ref13_May.t0 : Nat → D13u → Int → Option Bool
  | 0 => fun _ _ => none
  | n + 1 => ref13_May.S0 (ref13_May.l1 n)
def ref13_May.S (j0 : D13u → Int → Option Bool) (l : D13u) (kind : Int) : Option Bool :=
  bif (ltI (lenL l) 1) then
   some false
  else
   bif (ltI 64 (lenL l)) then
    some false
   else
    bif (neI kind 1) then
     bif (neI kind 2) then
      some false
     else
      j0 l kind
    else
     j0 l kind
def ref13_May (l : D13u) (kind : Int) : Option Bool := ref13_May.S (ref13_May.t0 fu) l kind
def ref01_Width.S0 (self : Int → D13c → Option Int) (x2 : Int) (x3 : D13c) : Option Int :=
  bif (leI 0 x2) then
   bif ((inB x2 64) && (decide (64 = (List.length x3)))) then
    bif (List.getD x3 (Int.toNat x2) false) then
     some (addI .i64 x2 1)
    else
     self (subI .i64 x2 1) x3
   else none
  else
   some 0
def ref01_Width.l0 : Nat → Int → D13c → Option Int
  | 0 => fun _ _ => none
  | n + 1 => ref01_Width.S0 (ref01_Width.l0 n)
def ref01_Width.S (j0 : Int → D13c → Option Int) (word : Int) : Option Int :=
  ((ref01_Of word)).bind fun x1 =>
  j0 63 x1
def ref01_Width (word : Int) : Option Int := ref01_Width.S (ref01_Width.l0 fu) word
def ref08_Width.S0 (self : D13a → Int → Int → Option Int) (x1 : D13a) (x2 x3 : Int) : Option Int :=
  bif (ltI x3 (lenL x1)) then
   bif (inB x3 (lenL x1)) then
    ((ref01_Width (nth x1 x3 0))).bind fun x4 =>
    self x1 (maxI x2 x4) (addI .i64 x3 1)
   else none
  else
   some x2
def ref08_Width.l0 : Nat → D13a → Int → Int → Option Int
  | 0 => fun _ _ _ => none
  | n + 1 => ref08_Width.S0 (ref08_Width.l0 n)
def ref08_Width.S (j0 : D13a → Int → Int → Option Int) (l : D13a) : Option Int :=
  j0 l 0 0
def ref08_Width (l : D13a) : Option Int := ref08_Width.S (ref08_Width.l0 fu) l
def ref08_Bytes (xn width : Int) : Int :=
  bif (ltI xn 1) then
   0
  else
   bif (ltI 65536 xn) then
    0
   else
    bif (ltI width 1) then
     0
    else
     bif (ltI 64 width) then
      0
     else
      (quoI .i64 (addI .i64 (mulI .i64 xn width) 7) 8)
def ref08_Bytes.o (xn width : Int) : Option Int :=
  bif (ltI xn 1) then
   some 0
  else
   bif (ltI 65536 xn) then
    some 0
   else
    bif (ltI width 1) then
     some 0
    else
     bif (ltI 64 width) then
      some 0
     else
      some (quoI .i64 (addI .i64 (mulI .i64 xn width) 7) 8)
def ref08_Put.S1 (o0_1 : D13a → Int → Int → D13a → Option D13g) (self : D13a → Int → Int → Int → D13a → Option D13g) (x7 : D13a) (x8 x9 x10 : Int) (x11 : D13a) : Option D13g :=
  bif (ltI x10 x8) then
   bif (inB x9 (lenL x7)) then
    bif (leI 0 x10) then
     bif (eqI (andI .i64 (shrI .i64 (nth x7 x9 0) x10) 1) 1) then
      bif (inB (quoI .i64 (addI .i64 (mulI .i64 x9 x8) x10) 8) (lenL x11)) then
       bif (leI 0 (remI (addI .i64 (mulI .i64 x9 x8) x10) 8)) then
        bif (inB (quoI .i64 (addI .i64 (mulI .i64 x9 x8) x10) 8) (lenL x11)) then
         self x7 x8 x9 (addI .i64 x10 1) (List.set x11 (Int.toNat (quoI .i64 (addI .i64 (mulI .i64 x9 x8) x10) 8)) (orI .u8 (List.getD x11 (Int.toNat (quoI .i64 (addI .i64 (mulI .i64 x9 x8) x10) 8)) 0) (shlI .u8 1 (remI (addI .i64 (mulI .i64 x9 x8) x10) 8))))
        else none
       else none
      else none
     else
      self x7 x8 x9 (addI .i64 x10 1) x11
    else none
   else none
  else
   o0_1 x7 x8 (addI .i64 x9 1) x11
def ref08_Put.l1 (o0_1 : D13a → Int → Int → D13a → Option D13g) : Nat → D13a → Int → Int → Int → D13a → Option D13g
  | 0 => fun _ _ _ _ _ => none
  | n + 1 => ref08_Put.S1 o0_1 (ref08_Put.l1 o0_1 n)
def ref08_Put.S0 (j1 : D13a → Int → Int → Int → D13a → Option D13g) (x3 : D13a) (x4 x5 : Int) (x6 : D13a) : Option D13g :=
  bif (ltI x5 (lenL x3)) then
   j1 x3 x4 x5 0 x6
  else
   some ((ofBytes x6), 0)
def ref08_Put.l0 : Nat → D13a → Int → Int → D13a → Option D13g
  | 0 => fun _ _ _ _ => none
  | n + 1 => ref08_Put.S0 (ref08_Put.l1 (ref08_Put.l0 n) n)
def ref08_Put.S (j0 : D13a → Int → Int → D13a → Option D13g) (l : D13a) (width : Int) : Option D13g :=
  bif (ltI width 0) then
   some (eB, 1)
  else
   bif (ltI 64 width) then
    some (eB, 1)
   else
    bif (ltI 65536 (lenL l)) then
     some (eB, 1)
    else
     ((ref08_Width l)).bind fun x1 =>
     bif (ltI width x1) then
      some (eB, 1)
     else
      let x2 := (ref08_Bytes (lenL l) width)
      bif ((leI 0 x2) && (roomB (Int.toNat x2) 1)) then
       j0 l width 0 (List.replicate (Int.toNat x2) (0 : Int))
      else none
def ref08_Put (l : D13a) (width : Int) : Option D13g := ref08_Put.S (ref08_Put.l0 fu) l width
def ref12_Split.S1 (x5 x6 : D13u) (x7 : D13a) : Option D13z :=
  bif (eqI (lenL x6) (lenL x5)) then
   some (eB, x6)
  else
   ((ref08_Put x7 1)).bind fun x8 =>
   some (x8.1, x6)
def ref12_Split.t1 : Nat → D13u → D13u → D13a → Option D13z
  | 0 => fun _ _ _ => none
  | _ + 1 => ref12_Split.S1
def ref12_Split.S0 (o1_0 : D13u → D13u → D13a → Option D13z) (self : D13u → D13u → D13a → Int → Option D13z) (x1 x2 : D13u) (x3 : D13a) (x4 : Int) : Option D13z :=
  bif (ltI x4 (lenL x1)) then
   bif (inB x4 (lenL x1)) then
    bif (eqI (nth x1 x4 (0, 0, eB)).1 0) then
     bif (roomB ((List.length x3) + 1) 8) then
      self x1 x2 (x3 ++ [1]) (addI .i64 x4 1)
     else none
    else
     bif (roomB ((List.length x3) + 1) 8) then
      bif (inB x4 (lenL x1)) then
       bif (roomB ((List.length x2) + 1) 32) then
        self x1 (x2 ++ [(nth x1 x4 (0, 0, eB))]) (x3 ++ [0]) (addI .i64 x4 1)
       else none
      else none
     else none
   else none
  else
   o1_0 x1 x2 x3
def ref12_Split.l0 (o1_0 : D13u → D13u → D13a → Option D13z) : Nat → D13u → D13u → D13a → Int → Option D13z
  | 0 => fun _ _ _ _ => none
  | n + 1 => ref12_Split.S0 o1_0 (ref12_Split.l0 o1_0 n)
def ref12_Split.S (j0 : D13u → D13u → D13a → Int → Option D13z) (l : D13u) : Option D13z :=
  j0 l [] [] 0
def ref12_Split (l : D13u) : Option D13z := ref12_Split.S (ref12_Split.l0 (ref12_Split.t1 fu) fu) l
def ref13_ints.S0 (self : D13u → D13a → Int → Option D13d) (x1 : D13u) (x2 : D13a) (x3 : Int) : Option D13d :=
  bif (ltI x3 (lenL x1)) then
   bif (inB x3 (lenL x1)) then
    bif (roomB ((List.length x2) + 1) 8) then
     self x1 (x2 ++ [(nth x1 x3 (0, 0, eB)).2.1]) (addI .i64 x3 1)
    else none
   else none
  else
   some x2
def ref13_ints.l0 : Nat → D13u → D13a → Int → Option D13d
  | 0 => fun _ _ _ => none
  | n + 1 => ref13_ints.S0 (ref13_ints.l0 n)
def ref13_ints.S (j0 : D13u → D13a → Int → Option D13d) (l : D13u) : Option D13d :=
  j0 l [] 0
def ref13_ints (l : D13u) : Option D13d := ref13_ints.S (ref13_ints.l0 fu) l
def ref07_PutInts.S1 (o0_1 : D13a → D13a → Int → Option ByteArray) (self : D13a → D13a → Int → Int → Option ByteArray) (x4 x5 : D13a) (x6 x7 : Int) : Option ByteArray :=
  bif (ltI x7 8) then
   bif (inB x6 (lenL x4)) then
    bif (leI 0 (mulI .i64 8 x7)) then
     bif (roomB ((List.length x5) + 1) 1) then
      self x4 (x5 ++ [(IntKind.wrap .u8 (andI .i64 (shrI .i64 (nth x4 x6 0) (mulI .i64 8 x7)) 255))]) x6 (addI .i64 x7 1)
     else none
    else none
   else none
  else
   o0_1 x4 x5 (addI .i64 x6 1)
def ref07_PutInts.l1 (o0_1 : D13a → D13a → Int → Option ByteArray) : Nat → D13a → D13a → Int → Int → Option ByteArray
  | 0 => fun _ _ _ _ => none
  | n + 1 => ref07_PutInts.S1 o0_1 (ref07_PutInts.l1 o0_1 n)
def ref07_PutInts.S0 (j1 : D13a → D13a → Int → Int → Option ByteArray) (x1 x2 : D13a) (x3 : Int) : Option ByteArray :=
  bif (ltI x3 (lenL x1)) then
   j1 x1 x2 x3 0
  else
   some (ofBytes x2)
def ref07_PutInts.l0 : Nat → D13a → D13a → Int → Option ByteArray
  | 0 => fun _ _ _ => none
  | n + 1 => ref07_PutInts.S0 (ref07_PutInts.l1 (ref07_PutInts.l0 n) n)
def ref07_PutInts.S (j0 : D13a → D13a → Int → Option ByteArray) (l : D13a) : Option ByteArray :=
  j0 l [] 0
def ref07_PutInts (l : D13a) : Option ByteArray := ref07_PutInts.S (ref07_PutInts.l0 fu) l
def ref10_Of.S0 (self : D13a → Int → D13o → Option D13q) (x1 : D13a) (x2 : Int) (x3 : D13o) : Option D13q :=
  bif (ltI x2 (lenL x1)) then
   bif (leI (lenL x1) 65536) then
    bif (ltI 0 x2) then
     bif (inB x2 (lenL x1)) then
      bif (inB (subI .i64 x2 1) (lenL x1)) then
       bif (eqI (nth x1 x2 0) (nth x1 (subI .i64 x2 1) 0)) then
        bif (inB (subI .i64 (lenL x3) 1) (lenL x3)) then
         bif (inB (subI .i64 (lenL x3) 1) (lenL x3)) then
          self x1 (addI .i64 x2 1) (List.set x3 (Int.toNat (subI .i64 (lenL x3) 1)) ((List.getD x3 (Int.toNat (subI .i64 (lenL x3) 1)) (0, 0, 0)).1, (List.getD x3 (Int.toNat (subI .i64 (lenL x3) 1)) (0, 0, 0)).2.1, (addI .i64 (List.getD x3 (Int.toNat (subI .i64 (lenL x3) 1)) (0, 0, 0)).2.2 1)))
         else none
        else none
       else
        bif (inB x2 (lenL x1)) then
         bif (roomB ((List.length x3) + 1) 24) then
          self x1 (addI .i64 x2 1) (x3 ++ [((nth x1 x2 0), x2, 1)])
         else none
        else none
      else none
     else none
    else
     bif (inB x2 (lenL x1)) then
      bif (roomB ((List.length x3) + 1) 24) then
       self x1 (addI .i64 x2 1) (x3 ++ [((nth x1 x2 0), x2, 1)])
      else none
     else none
   else
    some x3
  else
   some x3
def ref10_Of.l0 : Nat → D13a → Int → D13o → Option D13q
  | 0 => fun _ _ _ => none
  | n + 1 => ref10_Of.S0 (ref10_Of.l0 n)
def ref10_Of.S (j0 : D13a → Int → D13o → Option D13q) (l : D13a) : Option D13q :=
  j0 l 0 []
def ref10_Of (l : D13a) : Option D13q := ref10_Of.S (ref10_Of.l0 fu) l
def ref10_May.S0 (self : D13o → Int → Int → Option Bool) (x1 : D13o) (x2 x3 : Int) : Option Bool :=
  bif (ltI x3 (lenL x1)) then
   bif (inB x3 (lenL x1)) then
    bif (neI (nth x1 x3 (0, 0, 0)).2.1 x2) then
     some false
    else
     bif (inB x3 (lenL x1)) then
      bif (ltI (nth x1 x3 (0, 0, 0)).2.2 1) then
       some false
      else
       bif (inB x3 (lenL x1)) then
        bif (ltI (subI .i64 65536 x2) (nth x1 x3 (0, 0, 0)).2.2) then
         some false
        else
         bif (ltI 0 x3) then
          bif (inB x3 (lenL x1)) then
           bif (inB (subI .i64 x3 1) (lenL x1)) then
            bif (eqI (nth x1 x3 (0, 0, 0)).1 (nth x1 (subI .i64 x3 1) (0, 0, 0)).1) then
             some false
            else
             bif (inB x3 (lenL x1)) then
              self x1 (addI .i64 x2 (nth x1 x3 (0, 0, 0)).2.2) (addI .i64 x3 1)
             else none
           else none
          else none
         else
          bif (inB x3 (lenL x1)) then
           self x1 (addI .i64 x2 (nth x1 x3 (0, 0, 0)).2.2) (addI .i64 x3 1)
          else none
       else none
     else none
   else none
  else
   some true
def ref10_May.l0 : Nat → D13o → Int → Int → Option Bool
  | 0 => fun _ _ _ => none
  | n + 1 => ref10_May.S0 (ref10_May.l0 n)
def ref10_May.S (j0 : D13o → Int → Int → Option Bool) (l : D13o) : Option Bool :=
  j0 l 0 0
def ref10_May (l : D13o) : Option Bool := ref10_May.S (ref10_May.l0 fu) l
def ref10_Put.S0 (self : D13o → ByteArray → Int → Option D13g) (x2 : D13o) (x3 : ByteArray) (x4 : Int) : Option D13g :=
  bif (ltI x4 (lenL x2)) then
   bif (inB x4 (lenL x2)) then
    ((ref02_Put (nth x2 x4 (0, 0, 0)).1)).bind fun x5 =>
    bif (roomS x3 x5) then
     bif (inB x4 (lenL x2)) then
      ((ref02_Put (nth x2 x4 (0, 0, 0)).2.2)).bind fun x6 =>
      bif (roomS (addS x3 x5) x6) then
       self x2 (addS (addS x3 x5) x6) (addI .i64 x4 1)
      else none
     else none
    else none
   else none
  else
   some (x3, 0)
def ref10_Put.l0 : Nat → D13o → ByteArray → Int → Option D13g
  | 0 => fun _ _ _ => none
  | n + 1 => ref10_Put.S0 (ref10_Put.l0 n)
def ref10_Put.S (j0 : D13o → ByteArray → Int → Option D13g) (l : D13o) : Option D13g :=
  ((ref10_May l)).bind fun x1 =>
  bif (!x1) then
   some (eB, 1)
  else
   j0 l eB 0
def ref10_Put (l : D13o) : Option D13g := ref10_Put.S (ref10_Put.l0 fu) l
def ref09_steps.S0 (self : D13a → D13a → Int → Option D13d) (x1 x2 : D13a) (x3 : Int) : Option D13d :=
  bif (ltI x3 (lenL x1)) then
   bif (inB x3 (lenL x1)) then
    bif (inB (subI .i64 x3 1) (lenL x1)) then
     bif (roomB ((List.length x2) + 1) 8) then
      self x1 (x2 ++ [(subI .i64 (nth x1 x3 0) (nth x1 (subI .i64 x3 1) 0))]) (addI .i64 x3 1)
     else none
    else none
   else none
  else
   some x2
def ref09_steps.l0 : Nat → D13a → D13a → Int → Option D13d
  | 0 => fun _ _ _ => none
  | n + 1 => ref09_steps.S0 (ref09_steps.l0 n)
def ref09_steps.S (j0 : D13a → D13a → Int → Option D13d) (l : D13a) : Option D13d :=
  j0 l [] 1
def ref09_steps (l : D13a) : Option D13d := ref09_steps.S (ref09_steps.l0 fu) l
def ref09_least.S0 (self : D13a → Int → Int → Option Int) (x1 : D13a) (x2 x3 : Int) : Option Int :=
  bif (ltI x3 (lenL x1)) then
   bif (inB x3 (lenL x1)) then
    self x1 (minI x2 (nth x1 x3 0)) (addI .i64 x3 1)
   else none
  else
   some x2
def ref09_least.l0 : Nat → D13a → Int → Int → Option Int
  | 0 => fun _ _ _ => none
  | n + 1 => ref09_least.S0 (ref09_least.l0 n)
def ref09_least.S (j0 : D13a → Int → Int → Option Int) (l : D13a) : Option Int :=
  bif (inB 0 (lenL l)) then
   j0 l (nth l 0 0) 1
  else none
def ref09_least (l : D13a) : Option Int := ref09_least.S (ref09_least.l0 fu) l
def ref09_Put.S1 (x9 : ByteArray) (x10 : Int) (x11 : D13a) : Option D13g :=
  ((ref08_Width x11)).bind fun x12 =>
  ((ref08_Put x11 x12)).bind fun x13 =>
  ((ref02_Put x10)).bind fun x14 =>
  bif (roomS x9 x14) then
   bif (roomS (addS x9 x14) (ofBytes [(IntKind.wrap .u8 x12)])) then
    bif (roomS (addS (addS x9 x14) (ofBytes [(IntKind.wrap .u8 x12)])) x13.1) then
     some ((addS (addS (addS x9 x14) (ofBytes [(IntKind.wrap .u8 x12)])) x13.1), 0)
    else none
   else none
  else none
def ref09_Put.t1 : Nat → ByteArray → Int → D13a → Option D13g
  | 0 => fun _ _ _ => none
  | _ + 1 => ref09_Put.S1
def ref09_Put.S0 (o1_0 : ByteArray → Int → D13a → Option D13g) (self : ByteArray → D13a → Int → D13a → Int → Option D13g) (x4 : ByteArray) (x5 : D13a) (x6 : Int) (x7 : D13a) (x8 : Int) : Option D13g :=
  bif (ltI x8 (lenL x5)) then
   bif (inB x8 (lenL x5)) then
    bif (roomB ((List.length x7) + 1) 8) then
     self x4 x5 x6 (x7 ++ [(subI .i64 (nth x5 x8 0) x6)]) (addI .i64 x8 1)
    else none
   else none
  else
   o1_0 x4 x6 x7
def ref09_Put.l0 (o1_0 : ByteArray → Int → D13a → Option D13g) : Nat → ByteArray → D13a → Int → D13a → Int → Option D13g
  | 0 => fun _ _ _ _ _ => none
  | n + 1 => ref09_Put.S0 o1_0 (ref09_Put.l0 o1_0 n)
def ref09_Put.S (j0 : ByteArray → D13a → Int → D13a → Int → Option D13g) (l : D13a) : Option D13g :=
  bif (ltI 65536 (lenL l)) then
   some (eB, 1)
  else
   bif (eqI (lenL l) 0) then
    some (eB, 0)
   else
    bif (inB 0 (lenL l)) then
     ((ref02_Put (nth l 0 0))).bind fun x1 =>
     bif (eqI (lenL l) 1) then
      some (x1, 0)
     else
      ((ref09_steps l)).bind fun x2 =>
      ((ref09_least x2)).bind fun x3 =>
      j0 x1 x2 x3 [] 0
    else none
def ref09_Put (l : D13a) : Option D13g := ref09_Put.S (ref09_Put.l0 (ref09_Put.t1 fu) fu) l
def ref11_Ints.S6 (o5_2 : D13a → D13a → D13a → Int → Option D13n) (self : D13a → D13a → D13a → Int → Int → Option D13n) (x27 x28 x29 : D13a) (x30 x31 : Int) : Option D13n :=
  bif (inB x31 (lenL x28)) then
   bif (inB x30 (lenL x27)) then
    bif (neI (nth x28 x31 0) (nth x27 x30 0)) then
     self x27 x28 x29 x30 (addI .i64 x31 1)
    else
     bif (roomB ((List.length x29) + 1) 8) then
      o5_2 x27 x28 (x29 ++ [x31]) (addI .i64 x30 1)
     else none
   else none
  else none
def ref11_Ints.l6 (o5_2 : D13a → D13a → D13a → Int → Option D13n) : Nat → D13a → D13a → D13a → Int → Int → Option D13n
  | 0 => fun _ _ _ _ _ => none
  | n + 1 => ref11_Ints.S6 o5_2 (ref11_Ints.l6 o5_2 n)
def ref11_Ints.S5 (j6 : D13a → D13a → D13a → Int → Int → Option D13n) (x23 x24 x25 : D13a) (x26 : Int) : Option D13n :=
  bif (ltI x26 (lenL x23)) then
   j6 x23 x24 x25 x26 0
  else
   some (x24, x25)
def ref11_Ints.l5 : Nat → D13a → D13a → D13a → Int → Option D13n
  | 0 => fun _ _ _ _ => none
  | n + 1 => ref11_Ints.S5 (ref11_Ints.l6 (ref11_Ints.l5 n) n)
def ref11_Ints.S4 (j5 : D13a → D13a → D13a → Int → Option D13n) (x20 x21 x22 : D13a) : Option D13n :=
  j5 x20 x21 x22 0
def ref11_Ints.t4 : Nat → D13a → D13a → D13a → Option D13n
  | 0 => fun _ _ _ => none
  | n + 1 => ref11_Ints.S4 (ref11_Ints.l5 n)
def ref11_Ints.S3 (o0_1 : D13a → D13a → D13a → Int → Option D13n) (x15 x16 x17 : D13a) (x18 x19 : Int) : Option D13n :=
  bif (inC 0 x19 (lenL x16)) then
   bif (roomB (0 + (List.length (List.take (Int.toNat x19) x16))) 8) then
    bif (inB x18 (lenL x15)) then
     bif (roomB ((List.length (List.take (Int.toNat x19) x16)) + 1) 8) then
      bif (inC x19 (lenL x16) (lenL x16)) then
       bif (roomB ((List.length ((List.take (Int.toNat x19) x16) ++ [(nth x15 x18 0)])) + (List.length (List.drop (Int.toNat x19) x16))) 8) then
        o0_1 x15 (((List.take (Int.toNat x19) x16) ++ [(nth x15 x18 0)]) ++ (List.drop (Int.toNat x19) x16)) x17 (addI .i64 x18 1)
       else none
      else none
     else none
    else none
   else none
  else none
def ref11_Ints.t3 (o0_1 : D13a → D13a → D13a → Int → Option D13n) : Nat → D13a → D13a → D13a → Int → Int → Option D13n
  | 0 => fun _ _ _ _ _ => none
  | _ + 1 => ref11_Ints.S3 o0_1
def ref11_Ints.S2 (o0_1 : D13a → D13a → D13a → Int → Option D13n) (j3 : D13a → D13a → D13a → Int → Int → Option D13n) (x10 x11 x12 : D13a) (x13 x14 : Int) : Option D13n :=
  bif (ltI x14 (lenL x11)) then
   bif (inB x14 (lenL x11)) then
    bif (inB x13 (lenL x10)) then
     bif (eqI (nth x11 x14 0) (nth x10 x13 0)) then
      o0_1 x10 x11 x12 (addI .i64 x13 1)
     else
      j3 x10 x11 x12 x13 x14
    else none
   else none
  else
   j3 x10 x11 x12 x13 x14
def ref11_Ints.t2 (o0_1 : D13a → D13a → D13a → Int → Option D13n) : Nat → D13a → D13a → D13a → Int → Int → Option D13n
  | 0 => fun _ _ _ _ _ => none
  | n + 1 => ref11_Ints.S2 o0_1 (ref11_Ints.t3 o0_1 n)
def ref11_Ints.S1 (o2_1 self : D13a → D13a → D13a → Int → Int → Option D13n) (x5 x6 x7 : D13a) (x8 x9 : Int) : Option D13n :=
  bif (ltI x9 (lenL x6)) then
   bif (inB x9 (lenL x6)) then
    bif (inB x8 (lenL x5)) then
     bif (ltI (nth x6 x9 0) (nth x5 x8 0)) then
      self x5 x6 x7 x8 (addI .i64 x9 1)
     else
      o2_1 x5 x6 x7 x8 x9
    else none
   else none
  else
   o2_1 x5 x6 x7 x8 x9
def ref11_Ints.l1 (o2_1 : D13a → D13a → D13a → Int → Int → Option D13n) : Nat → D13a → D13a → D13a → Int → Int → Option D13n
  | 0 => fun _ _ _ _ _ => none
  | n + 1 => ref11_Ints.S1 o2_1 (ref11_Ints.l1 o2_1 n)
def ref11_Ints.S0 (o4_0 : D13a → D13a → D13a → Option D13n) (j1 : D13a → D13a → D13a → Int → Int → Option D13n) (x1 x2 x3 : D13a) (x4 : Int) : Option D13n :=
  bif (ltI x4 (lenL x1)) then
   j1 x1 x2 x3 x4 0
  else
   o4_0 x1 x2 x3
def ref11_Ints.l0 (o4_0 : D13a → D13a → D13a → Option D13n) : Nat → D13a → D13a → D13a → Int → Option D13n
  | 0 => fun _ _ _ _ => none
  | n + 1 => ref11_Ints.S0 o4_0 (ref11_Ints.l1 (ref11_Ints.t2 (ref11_Ints.l0 o4_0 n) n) n)
def ref11_Ints.S (j0 : D13a → D13a → D13a → Int → Option D13n) (l : D13a) : Option D13n :=
  j0 l [] [] 0
def ref11_Ints (l : D13a) : Option D13n := ref11_Ints.S (ref11_Ints.l0 (ref11_Ints.t4 fu) fu) l
def ref11_packed (places : D13a) : Option ByteArray :=
  ((ref08_Width places)).bind fun x1 =>
  ((ref08_Put places x1)).bind fun x2 =>
  some x2.1
def ref11_PutInts.S1 (x8 : D13a) (x9 : ByteArray) : Option D13g :=
  ((ref11_packed x8)).bind fun x10 =>
  bif (roomS x9 x10) then
   some ((addS x9 x10), 0)
  else none
def ref11_PutInts.t1 : Nat → D13a → ByteArray → Option D13g
  | 0 => fun _ _ => none
  | _ + 1 => ref11_PutInts.S1
def ref11_PutInts.S0 (o1_0 : D13a → ByteArray → Option D13g) (self : D13a → D13a → ByteArray → Int → Option D13g) (x3 x4 : D13a) (x5 : ByteArray) (x6 : Int) : Option D13g :=
  bif (ltI x6 (lenL x3)) then
   bif (inB x6 (lenL x3)) then
    ((ref02_Put (nth x3 x6 0))).bind fun x7 =>
    bif (roomS x5 x7) then
     self x3 x4 (addS x5 x7) (addI .i64 x6 1)
    else none
   else none
  else
   o1_0 x4 x5
def ref11_PutInts.l0 (o1_0 : D13a → ByteArray → Option D13g) : Nat → D13a → D13a → ByteArray → Int → Option D13g
  | 0 => fun _ _ _ _ => none
  | n + 1 => ref11_PutInts.S0 o1_0 (ref11_PutInts.l0 o1_0 n)
def ref11_PutInts.S (j0 : D13a → D13a → ByteArray → Int → Option D13g) (l : D13a) : Option D13g :=
  bif (ltI 65536 (lenL l)) then
   some (eB, 1)
  else
   bif (eqI (lenL l) 0) then
    some (eB, 0)
   else
    ((ref11_Ints l)).bind fun x1 =>
    ((ref02_Put (lenL x1.1))).bind fun x2 =>
    j0 x1.1 x1.2 x2 0
def ref11_PutInts (l : D13a) : Option D13g := ref11_PutInts.S (ref11_PutInts.l0 (ref11_PutInts.t1 fu) fu) l
def ref13_numbers (l : D13a) (code : Int) : Option (ByteArray × Bool) :=
  bif (eqI code 1) then
   ((ref07_PutInts l)).bind fun x1 =>
   some (x1, true)
  else
   bif (eqI code 2) then
    ((ref10_Of l)).bind fun x2 =>
    ((ref10_Put x2)).bind fun x3 =>
    some (x3.1, (eqI x3.2 0))
   else
    bif (eqI code 3) then
     ((ref09_Put l)).bind fun x4 =>
     some (x4.1, (eqI x4.2 0))
    else
     bif (eqI code 4) then
      ((ref11_PutInts l)).bind fun x5 =>
      some (x5.1, (eqI x5.2 0))
     else
      bif (eqI code 5) then
       ((ref08_Width l)).bind fun x6 =>
       ((ref08_Put l x6)).bind fun x7 =>
       bif (roomS (ofBytes [(IntKind.wrap .u8 x6)]) x7.1) then
        some ((addS (ofBytes [(IntKind.wrap .u8 x6)]) x7.1), (eqI x7.2 0))
       else none
      else
       some (eB, false)
def ref13_texts.S0 (self : D13u → D13e → Int → Option (D13e)) (x1 : D13u) (x2 : D13e) (x3 : Int) : Option (D13e) :=
  bif (ltI x3 (lenL x1)) then
   bif (inB x3 (lenL x1)) then
    bif (roomB ((List.length x2) + 1) 16) then
     self x1 (x2 ++ [(nth x1 x3 (0, 0, eB)).2.2]) (addI .i64 x3 1)
    else none
   else none
  else
   some x2
def ref13_texts.l0 : Nat → D13u → D13e → Int → Option (D13e)
  | 0 => fun _ _ _ => none
  | n + 1 => ref13_texts.S0 (ref13_texts.l0 n)
def ref13_texts.S (j0 : D13u → D13e → Int → Option (D13e)) (l : D13u) : Option (D13e) :=
  j0 l [] 0
def ref13_texts (l : D13u) : Option (D13e) := ref13_texts.S (ref13_texts.l0 fu) l
def ref07_PutTexts.S0 (self : D13e → D13a → Int → Option D13g) (x1 : D13e) (x2 : D13a) (x3 : Int) : Option D13g :=
  bif (ltI x3 (lenL x1)) then
   bif (inB x3 (lenL x1)) then
    bif (ltI 32 (lenS (nth x1 x3 eB))) then
     some (eB, 1)
    else
     bif (inB x3 (lenL x1)) then
      bif (roomB ((List.length x2) + 1) 1) then
       bif (inB x3 (lenL x1)) then
        bif (roomB ((List.length (x2 ++ [(IntKind.wrap .u8 (lenS (nth x1 x3 eB)))])) + (ByteArray.size (nth x1 x3 eB))) 1) then
         self x1 ((x2 ++ [(IntKind.wrap .u8 (lenS (nth x1 x3 eB)))]) ++ (toBytes (nth x1 x3 eB))) (addI .i64 x3 1)
        else none
       else none
      else none
     else none
   else none
  else
   some ((ofBytes x2), 0)
def ref07_PutTexts.l0 : Nat → D13e → D13a → Int → Option D13g
  | 0 => fun _ _ _ => none
  | n + 1 => ref07_PutTexts.S0 (ref07_PutTexts.l0 n)
def ref07_PutTexts.S (j0 : D13e → D13a → Int → Option D13g) (l : D13e) : Option D13g :=
  j0 l [] 0
def ref07_PutTexts (l : D13e) : Option D13g := ref07_PutTexts.S (ref07_PutTexts.l0 fu) l
def ref11_Texts.S6 (o5_2 : D13e → D13e → D13a → Int → Option D13r) (self : D13e → D13e → D13a → Int → Int → Option D13r) (x27 x28 : D13e) (x29 : D13a) (x30 x31 : Int) : Option D13r :=
  bif (inB x31 (lenL x28)) then
   bif (inB x30 (lenL x27)) then
    bif (!(eqS (nth x28 x31 eB) (nth x27 x30 eB))) then
     self x27 x28 x29 x30 (addI .i64 x31 1)
    else
     bif (roomB ((List.length x29) + 1) 8) then
      o5_2 x27 x28 (x29 ++ [x31]) (addI .i64 x30 1)
     else none
   else none
  else none
def ref11_Texts.l6 (o5_2 : D13e → D13e → D13a → Int → Option D13r) : Nat → D13e → D13e → D13a → Int → Int → Option D13r
  | 0 => fun _ _ _ _ _ => none
  | n + 1 => ref11_Texts.S6 o5_2 (ref11_Texts.l6 o5_2 n)
def ref11_Texts.S5 (j6 : D13e → D13e → D13a → Int → Int → Option D13r) (x23 x24 : D13e) (x25 : D13a) (x26 : Int) : Option D13r :=
  bif (ltI x26 (lenL x23)) then
   j6 x23 x24 x25 x26 0
  else
   some (x24, x25)
def ref11_Texts.l5 : Nat → D13e → D13e → D13a → Int → Option D13r
  | 0 => fun _ _ _ _ => none
  | n + 1 => ref11_Texts.S5 (ref11_Texts.l6 (ref11_Texts.l5 n) n)
def ref11_Texts.S4 (j5 : D13e → D13e → D13a → Int → Option D13r) (x20 x21 : D13e) (x22 : D13a) : Option D13r :=
  j5 x20 x21 x22 0
def ref11_Texts.t4 : Nat → D13e → D13e → D13a → Option D13r
  | 0 => fun _ _ _ => none
  | n + 1 => ref11_Texts.S4 (ref11_Texts.l5 n)
def ref11_Texts.S3 (o0_1 : D13e → D13e → D13a → Int → Option D13r) (x15 x16 : D13e) (x17 : D13a) (x18 x19 : Int) : Option D13r :=
  bif (inC 0 x19 (lenL x16)) then
   bif (roomB (0 + (List.length (List.take (Int.toNat x19) x16))) 16) then
    bif (inB x18 (lenL x15)) then
     bif (roomB ((List.length (List.take (Int.toNat x19) x16)) + 1) 16) then
      bif (inC x19 (lenL x16) (lenL x16)) then
       bif (roomB ((List.length ((List.take (Int.toNat x19) x16) ++ [(nth x15 x18 eB)])) + (List.length (List.drop (Int.toNat x19) x16))) 16) then
        o0_1 x15 (((List.take (Int.toNat x19) x16) ++ [(nth x15 x18 eB)]) ++ (List.drop (Int.toNat x19) x16)) x17 (addI .i64 x18 1)
       else none
      else none
     else none
    else none
   else none
  else none
def ref11_Texts.t3 (o0_1 : D13e → D13e → D13a → Int → Option D13r) : Nat → D13e → D13e → D13a → Int → Int → Option D13r
  | 0 => fun _ _ _ _ _ => none
  | _ + 1 => ref11_Texts.S3 o0_1
def ref11_Texts.S2 (o0_1 : D13e → D13e → D13a → Int → Option D13r) (j3 : D13e → D13e → D13a → Int → Int → Option D13r) (x10 x11 : D13e) (x12 : D13a) (x13 x14 : Int) : Option D13r :=
  bif (ltI x14 (lenL x11)) then
   bif (inB x14 (lenL x11)) then
    bif (inB x13 (lenL x10)) then
     bif (eqS (nth x11 x14 eB) (nth x10 x13 eB)) then
      o0_1 x10 x11 x12 (addI .i64 x13 1)
     else
      j3 x10 x11 x12 x13 x14
    else none
   else none
  else
   j3 x10 x11 x12 x13 x14
def ref11_Texts.t2 (o0_1 : D13e → D13e → D13a → Int → Option D13r) : Nat → D13e → D13e → D13a → Int → Int → Option D13r
  | 0 => fun _ _ _ _ _ => none
  | n + 1 => ref11_Texts.S2 o0_1 (ref11_Texts.t3 o0_1 n)
def ref11_Texts.S1 (o2_1 self : D13e → D13e → D13a → Int → Int → Option D13r) (x5 x6 : D13e) (x7 : D13a) (x8 x9 : Int) : Option D13r :=
  bif (ltI x9 (lenL x6)) then
   bif (inB x9 (lenL x6)) then
    bif (inB x8 (lenL x5)) then
     bif (ltS (nth x6 x9 eB) (nth x5 x8 eB)) then
      self x5 x6 x7 x8 (addI .i64 x9 1)
     else
      o2_1 x5 x6 x7 x8 x9
    else none
   else none
  else
   o2_1 x5 x6 x7 x8 x9
def ref11_Texts.l1 (o2_1 : D13e → D13e → D13a → Int → Int → Option D13r) : Nat → D13e → D13e → D13a → Int → Int → Option D13r
  | 0 => fun _ _ _ _ _ => none
  | n + 1 => ref11_Texts.S1 o2_1 (ref11_Texts.l1 o2_1 n)
def ref11_Texts.S0 (o4_0 : D13e → D13e → D13a → Option D13r) (j1 : D13e → D13e → D13a → Int → Int → Option D13r) (x1 x2 : D13e) (x3 : D13a) (x4 : Int) : Option D13r :=
  bif (ltI x4 (lenL x1)) then
   j1 x1 x2 x3 x4 0
  else
   o4_0 x1 x2 x3
def ref11_Texts.l0 (o4_0 : D13e → D13e → D13a → Option D13r) : Nat → D13e → D13e → D13a → Int → Option D13r
  | 0 => fun _ _ _ _ => none
  | n + 1 => ref11_Texts.S0 o4_0 (ref11_Texts.l1 (ref11_Texts.t2 (ref11_Texts.l0 o4_0 n) n) n)
def ref11_Texts.S (j0 : D13e → D13e → D13a → Int → Option D13r) (l : D13e) : Option D13r :=
  j0 l [] [] 0
def ref11_Texts (l : D13e) : Option D13r := ref11_Texts.S (ref11_Texts.l0 (ref11_Texts.t4 fu) fu) l
def ref11_PutTexts (l : D13e) : Option D13g :=
  bif (ltI 65536 (lenL l)) then
   some (eB, 1)
  else
   bif (eqI (lenL l) 0) then
    some (eB, 0)
   else
    ((ref11_Texts l)).bind fun x1 =>
    ((ref07_PutTexts x1.1)).bind fun x2 =>
    bif (neI x2.2 0) then
     some (eB, x2.2)
    else
     ((ref02_Put (lenL x1.1))).bind fun x3 =>
     bif (roomS x3 x2.1) then
      ((ref11_packed x1.2)).bind fun x4 =>
      bif (roomS (addS x3 x2.1) x4) then
       some ((addS (addS x3 x2.1) x4), 0)
      else none
     else none
def ref13_words (l : D13e) (code : Int) : Option (ByteArray × Bool) :=
  bif (eqI code 1) then
   ((ref07_PutTexts l)).bind fun x1 =>
   some (x1.1, (eqI x1.2 0))
  else
   bif (eqI code 2) then
    bif (ltI 0 (lenL l)) then
     ((ref11_Texts l)).bind fun x2 =>
     ((ref07_PutTexts x2.1)).bind fun x3 =>
     ((ref10_Of x2.2)).bind fun x4 =>
     ((ref10_Put x4)).bind fun x5 =>
     ((ref02_Put (lenL x2.1))).bind fun x6 =>
     bif (roomS x6 x3.1) then
      bif (roomS (addS x6 x3.1) x5.1) then
       some ((addS (addS x6 x3.1) x5.1), true)
      else none
     else none
    else
     some (eB, true)
   else
    bif (eqI code 4) then
     ((ref11_PutTexts l)).bind fun x7 =>
     some (x7.1, (eqI x7.2 0))
    else
     some (eB, false)
def ref13_Values (l : D13u) (kind code : Int) : Option (ByteArray × Bool) :=
  bif (eqI kind 1) then
   ((ref13_ints l)).bind fun x1 =>
   ((ref13_numbers x1 code)).bind fun x2 =>
   some x2
  else
   ((ref13_texts l)).bind fun x3 =>
   ((ref13_words x3 code)).bind fun x4 =>
   some x4
def ref03_More.S1 (o0_1 : ByteArray → Int → Int → Option Int) (self : ByteArray → Int → Int → Int → Option Int) (x4 : ByteArray) (x5 x6 x7 : Int) : Option Int :=
  bif (ltI x7 8) then
   bif (inB x6 (lenS x4)) then
    bif (leI 0 x7) then
     bif (neI (andI .i64 x5 1) (andI .i64 (shrI .i64 (IntKind.wrap .i64 (byteAt x4 x6)) x7) 1)) then
      self x4 (xorI .i64 (shrI .i64 x5 1) 2197175160) x6 (addI .i64 x7 1)
     else
      self x4 (shrI .i64 x5 1) x6 (addI .i64 x7 1)
    else none
   else none
  else
   o0_1 x4 x5 (addI .i64 x6 1)
def ref03_More.l1 (o0_1 : ByteArray → Int → Int → Option Int) : Nat → ByteArray → Int → Int → Int → Option Int
  | 0 => fun _ _ _ _ => none
  | n + 1 => ref03_More.S1 o0_1 (ref03_More.l1 o0_1 n)
def ref03_More.S0 (j1 : ByteArray → Int → Int → Int → Option Int) (x1 : ByteArray) (x2 x3 : Int) : Option Int :=
  bif (ltI x3 (lenS x1)) then
   j1 x1 x2 x3 0
  else
   some (xorI .i64 x2 4294967295)
def ref03_More.l0 : Nat → ByteArray → Int → Int → Option Int
  | 0 => fun _ _ _ => none
  | n + 1 => ref03_More.S0 (ref03_More.l1 (ref03_More.l0 n) n)
def ref03_More.S (j0 : ByteArray → Int → Int → Option Int) (sum : Int) (s : ByteArray) : Option Int :=
  j0 s (xorI .i64 (andI .i64 sum 4294967295) 4294967295) 0
def ref03_More (sum : Int) (s : ByteArray) : Option Int := ref03_More.S (ref03_More.l0 fu) sum s
def ref03_Sum (s : ByteArray) : Option Int :=
  ((ref03_More 0 s)).bind fun x1 =>
  some x1
def ref03_Seal (s : ByteArray) : Option ByteArray :=
  ((ref03_Sum s)).bind fun x1 =>
  bif (roomS s (ofBytes [(IntKind.wrap .u8 (andI .i64 x1 255)), (IntKind.wrap .u8 (andI .i64 (shrI .i64 x1 8) 255)), (IntKind.wrap .u8 (andI .i64 (shrI .i64 x1 16) 255)), (IntKind.wrap .u8 (andI .i64 (shrI .i64 x1 24) 255))])) then
   some (addS s (ofBytes [(IntKind.wrap .u8 (andI .i64 x1 255)), (IntKind.wrap .u8 (andI .i64 (shrI .i64 x1 8) 255)), (IntKind.wrap .u8 (andI .i64 (shrI .i64 x1 16) 255)), (IntKind.wrap .u8 (andI .i64 (shrI .i64 x1 24) 255))]))
  else none
def ref13_Put (l : D13u) (kind code : Int) : Option D13g :=
  ((ref13_May l kind)).bind fun x1 =>
  bif (!x1) then
   some (eB, 1)
  else
   ((ref12_Split l)).bind fun x2 =>
   ((ref13_Values x2.2 kind code)).bind fun x3 =>
   bif (!x3.2) then
    some (eB, 1)
   else
    bif (roomS (ofBytes [(IntKind.wrap .u8 kind), (IntKind.wrap .u8 code), (IntKind.wrap .u8 (lenL l)), (IntKind.wrap .u8 (lenS x2.1))]) x2.1) then
     bif (roomS (addS (ofBytes [(IntKind.wrap .u8 kind), (IntKind.wrap .u8 code), (IntKind.wrap .u8 (lenL l)), (IntKind.wrap .u8 (lenS x2.1))]) x2.1) x3.1) then
      ((ref03_Seal (addS (addS (ofBytes [(IntKind.wrap .u8 kind), (IntKind.wrap .u8 code), (IntKind.wrap .u8 (lenL l)), (IntKind.wrap .u8 (lenS x2.1))]) x2.1) x3.1))).bind fun x4 =>
      some (x4, 0)
     else none
    else none
def law13_BlockPuts (l : D13u) (kind code : Int) : Option Bool :=
  ((ref12_Light l 70)).bind fun x1 =>
  bif (!x1) then
   (law13_awake).bind fun x2 =>
   some x2
  else
   ((block_Put l kind code)).bind fun x3 =>
   ((ref13_Put l kind code)).bind fun x4 =>
   bif (!(eqS x3.1 x4.1)) then
    some false
   else
    bif (neI x3.2 x4.2) then
     some false
    else
     ((block_Take x3.1)).bind fun x5 =>
     bif (neI x3.2 0) then
      bif (eqI x5.2 5) then
       (law13_awake).bind fun x6 =>
       some x6
      else
       bif (eqI x3.2 0) then
        bif (eqI x5.2 0) then
         ((ref12_Same x5.1 l)).bind fun x7 =>
         bif x7 then
          (law13_awake).bind fun x8 =>
          some x8
         else
          some false
        else
         some false
       else
        some false
     else
      bif (eqI x3.2 0) then
       bif (eqI x5.2 0) then
        ((ref12_Same x5.1 l)).bind fun x9 =>
        bif x9 then
         (law13_awake).bind fun x10 =>
         some x10
        else
         some false
       else
        some false
      else
       some false
def block_Body (s : ByteArray) : Option (ByteArray × ByteArray × Int) :=
  ((block_read s)).bind fun x1 =>
  bif (!x1.2) then
   some (eB, eB, 5)
  else
   some (x1.1.2.2.1, x1.1.2.1, 0)
end Go.AM.Pure
