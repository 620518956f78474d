import Derived.Test.YtboihdnijlilpaaDoorAmWords
/- PRINTED by gen/ of this repo: the functions of the seat as pure functions. -/
namespace Go.AM.Pure
open Go.AM

/-! peristyle/peristylelaw17.num -/
def law17_num (xn : Int) : (Int × (Int × ByteArray)) :=
  (1, xn, eB)

/-! cmp.isNaN[int] -/
def cmp_isNaN_int (x : Int) : Bool :=
  (neI x x)

/-! cmp.Compare[int] -/
def cmp_Compare_int (x : Int) (y : Int) : Int :=
  bif (cmp_isNaN_int x) then
    bif (cmp_isNaN_int y) then
      0
    else
      (-1)
  else
    bif (cmp_isNaN_int y) then
      1
    else
      bif (ltI x y) then
        (-1)
      else
        bif (ltI y x) then
          1
        else
          0

def cmp_Compare_int.o (x : Int) (y : Int) : Option (Int) :=
  bif (cmp_isNaN_int x) then
    bif (cmp_isNaN_int y) then
      some 0
    else
      some (-1)
  else
    bif (cmp_isNaN_int y) then
      some 1
    else
      bif (ltI x y) then
        some (-1)
      else
        bif (ltI y x) then
          some 1
        else
          some 0

/-! cmp.Or[int] -/
def cmp_Or_int.S0 (self : Int → (List Int) → Int → Int → Option (Int)) (zero_1 : Int) (t6_2 : (List Int)) (t7_3 : Int) (t8_4 : Int) : Option (Int) :=
  bif (ltI t8_4 t7_3) then
    bif (inB t8_4 (lenL t6_2)) then
      bif (neI (nth t6_2 t8_4 0) zero_1) then
        some (nth t6_2 t8_4 0)
      else
        self zero_1 t6_2 t7_3 (addI .i64 t8_4 1)
    else none
  else
    some zero_1
def cmp_Or_int.l0 : Nat → Int → (List Int) → Int → Int → Option (Int)
  | 0 => fun _ _ _ _ => none
  | n + 1 => cmp_Or_int.S0 (cmp_Or_int.l0 n)

def cmp_Or_int.S (j0 : Int → (List Int) → Int → Int → Option (Int)) (vals : (List Int)) : Option (Int) :=
  j0 0 vals (lenL vals) 0
def cmp_Or_int (vals : (List Int)) : Option (Int) := cmp_Or_int.S (cmp_Or_int.l0 fu) vals

/-! peristyle/cell.Compare -/
def cell_Compare (a : (Int × (Int × ByteArray))) (b : (Int × (Int × ByteArray))) : Option (Int) :=
  ((cmp_Or_int [(cmp_Compare_int a.1 b.1), (cmp_Compare_int a.2.1 b.2.1), (cmpS a.2.2 b.2.2)])).bind fun r_4 =>
  some r_4

/-! peristyle/test.Merge -/
def test_Merge (a : ((Int × (Int × ByteArray)) × ((Int × (Int × ByteArray)) × (Int × Int)))) (b : ((Int × (Int × ByteArray)) × ((Int × (Int × ByteArray)) × (Int × Int)))) : Option (((Int × (Int × ByteArray)) × ((Int × (Int × ByteArray)) × (Int × Int)))) :=
  bif (eqI b.2.2.2 b.2.2.1) then
    some (a.1, a.2.1, (addI .i64 a.2.2.1 b.2.2.1), (addI .i64 a.2.2.2 b.2.2.2))
  else
    bif (eqI a.2.2.2 a.2.2.1) then
      some (b.1, b.2.1, (addI .i64 a.2.2.1 b.2.2.1), (addI .i64 a.2.2.2 b.2.2.2))
    else
      ((cell_Compare b.1 a.1)).bind fun r_1 =>
      bif (ltI r_1 0) then
        ((cell_Compare b.2.1 a.2.1)).bind fun r_2 =>
        bif (ltI 0 r_2) then
          some (b.1, b.2.1, (addI .i64 a.2.2.1 b.2.2.1), (addI .i64 a.2.2.2 b.2.2.2))
        else
          some (b.1, a.2.1, (addI .i64 a.2.2.1 b.2.2.1), (addI .i64 a.2.2.2 b.2.2.2))
      else
        ((cell_Compare b.2.1 a.2.1)).bind fun r_3 =>
        bif (ltI 0 r_3) then
          some (a.1, b.2.1, (addI .i64 a.2.2.1 b.2.2.1), (addI .i64 a.2.2.2 b.2.2.2))
        else
          some (a.1, a.2.1, (addI .i64 a.2.2.1 b.2.2.1), (addI .i64 a.2.2.2 b.2.2.2))

/-! peristyle/test.Zone -/
def test_Zone.S0 (self : (List (Int × (Int × ByteArray))) → Int → Int → ((Int × (Int × ByteArray)) × ((Int × (Int × ByteArray)) × (Int × Int))) → ((Int × (Int × ByteArray)) × ((Int × (Int × ByteArray)) × (Int × Int))) → Option (((Int × (Int × ByteArray)) × ((Int × (Int × ByteArray)) × (Int × Int))))) (t7_1 : (List (Int × (Int × ByteArray)))) (t8_2 : Int) (t9_3 : Int) (t2_4 : ((Int × (Int × ByteArray)) × ((Int × (Int × ByteArray)) × (Int × Int)))) (z_5 : ((Int × (Int × ByteArray)) × ((Int × (Int × ByteArray)) × (Int × Int)))) : Option (((Int × (Int × ByteArray)) × ((Int × (Int × ByteArray)) × (Int × Int)))) :=
  bif (ltI t9_3 t8_2) then
    bif (inB t9_3 (lenL t7_1)) then
      bif (eqI (nth t7_1 t9_3 (0, 0, eB)).1 0) then
        ((test_Merge z_5 ((0, 0, eB), (0, 0, eB), 1, 1))).bind fun r_6 =>
        self t7_1 t8_2 (addI .i64 t9_3 1) t2_4 r_6
      else
        ((test_Merge z_5 ((nth t7_1 t9_3 (0, 0, eB)), (nth t7_1 t9_3 (0, 0, eB)), 0, 1))).bind fun r_7 =>
        self t7_1 t8_2 (addI .i64 t9_3 1) t2_4 r_7
    else none
  else
    some z_5
def test_Zone.l0 : Nat → (List (Int × (Int × ByteArray))) → Int → Int → ((Int × (Int × ByteArray)) × ((Int × (Int × ByteArray)) × (Int × Int))) → ((Int × (Int × ByteArray)) × ((Int × (Int × ByteArray)) × (Int × Int))) → Option (((Int × (Int × ByteArray)) × ((Int × (Int × ByteArray)) × (Int × Int))))
  | 0 => fun _ _ _ _ _ => none
  | n + 1 => test_Zone.S0 (test_Zone.l0 n)

def test_Zone.S (j0 : (List (Int × (Int × ByteArray))) → Int → Int → ((Int × (Int × ByteArray)) × ((Int × (Int × ByteArray)) × (Int × Int))) → ((Int × (Int × ByteArray)) × ((Int × (Int × ByteArray)) × (Int × Int))) → Option (((Int × (Int × ByteArray)) × ((Int × (Int × ByteArray)) × (Int × Int))))) (l : (List (Int × (Int × ByteArray)))) : Option (((Int × (Int × ByteArray)) × ((Int × (Int × ByteArray)) × (Int × Int)))) :=
  j0 l (lenL l) 0 ((0, 0, eB), (0, 0, eB), 0, 0) ((0, 0, eB), (0, 0, eB), 0, 0)
def test_Zone (l : (List (Int × (Int × ByteArray)))) : Option (((Int × (Int × ByteArray)) × ((Int × (Int × ByteArray)) × (Int × Int)))) := test_Zone.S (test_Zone.l0 fu) l

/-! peristyle/cell.Check -/
def cell_Check (c : (Int × (Int × ByteArray))) : Int :=
  bif (eqI c.1 0) then
    bif (!((eqI c.1 c.1) && ((eqI c.2.1 0) && (eqS c.2.2 eB)))) then
      1
    else
      bif (ltI 32 (lenS c.2.2)) then
        1
      else
        0
  else
    bif (eqI c.1 1) then
      bif (!((eqI c.1 c.1) && ((eqI c.2.1 c.2.1) && (eqS c.2.2 eB)))) then
        1
      else
        bif (ltI 32 (lenS c.2.2)) then
          1
        else
          0
    else
      bif (eqI c.1 2) then
        bif (!((eqI c.1 c.1) && ((eqI c.2.1 0) && (eqS c.2.2 c.2.2)))) then
          1
        else
          bif (ltI 32 (lenS c.2.2)) then
            1
          else
            0
      else
        1

def cell_Check.o (c : (Int × (Int × ByteArray))) : Option (Int) :=
  bif (eqI c.1 0) then
    bif (!((eqI c.1 c.1) && ((eqI c.2.1 0) && (eqS c.2.2 eB)))) then
      some 1
    else
      bif (ltI 32 (lenS c.2.2)) then
        some 1
      else
        some 0
  else
    bif (eqI c.1 1) then
      bif (!((eqI c.1 c.1) && ((eqI c.2.1 c.2.1) && (eqS c.2.2 eB)))) then
        some 1
      else
        bif (ltI 32 (lenS c.2.2)) then
          some 1
        else
          some 0
    else
      bif (eqI c.1 2) then
        bif (!((eqI c.1 c.1) && ((eqI c.2.1 0) && (eqS c.2.2 c.2.2)))) then
          some 1
        else
          bif (ltI 32 (lenS c.2.2)) then
            some 1
          else
            some 0
      else
        some 1

/-! peristyle/test.Check -/
def test_Check (t : (Int × (Int × (Int × ByteArray)))) : Int :=
  bif (eqI t.1 7) then
    bif (eqI t.1 7) then
      bif (!((eqI t.2.1 0) && ((eqI t.2.2.1 0) && (eqS t.2.2.2 eB)))) then
        1
      else
        0
    else
      bif (eqI t.1 1) then
        bif (eqI t.1 1) then
          bif (neI t.2.1 0) then
            bif (!(eqI (cell_Check t.2) 0)) then
              1
            else
              0
          else
            1
        else
          1
      else
        bif (eqI t.1 2) then
          bif (eqI t.1 2) then
            bif (neI t.2.1 0) then
              bif (!(eqI (cell_Check t.2) 0)) then
                1
              else
                0
            else
              1
          else
            1
        else
          bif (eqI t.1 3) then
            bif (eqI t.1 3) then
              bif (neI t.2.1 0) then
                bif (!(eqI (cell_Check t.2) 0)) then
                  1
                else
                  0
              else
                1
            else
              1
          else
            bif (eqI t.1 4) then
              bif (eqI t.1 4) then
                bif (neI t.2.1 0) then
                  bif (!(eqI (cell_Check t.2) 0)) then
                    1
                  else
                    0
                else
                  1
              else
                1
            else
              bif (eqI t.1 5) then
                bif (eqI t.1 5) then
                  bif (neI t.2.1 0) then
                    bif (!(eqI (cell_Check t.2) 0)) then
                      1
                    else
                      0
                  else
                    1
                else
                  1
              else
                bif (eqI t.1 6) then
                  bif (neI t.2.1 0) then
                    bif (!(eqI (cell_Check t.2) 0)) then
                      1
                    else
                      0
                  else
                    1
                else
                  1
  else
    bif (eqI t.1 8) then
      bif (!((eqI t.2.1 0) && ((eqI t.2.2.1 0) && (eqS t.2.2.2 eB)))) then
        1
      else
        0
    else
      bif (eqI t.1 1) then
        bif (eqI t.1 1) then
          bif (neI t.2.1 0) then
            bif (!(eqI (cell_Check t.2) 0)) then
              1
            else
              0
          else
            1
        else
          1
      else
        bif (eqI t.1 2) then
          bif (eqI t.1 2) then
            bif (neI t.2.1 0) then
              bif (!(eqI (cell_Check t.2) 0)) then
                1
              else
                0
            else
              1
          else
            1
        else
          bif (eqI t.1 3) then
            bif (eqI t.1 3) then
              bif (neI t.2.1 0) then
                bif (!(eqI (cell_Check t.2) 0)) then
                  1
                else
                  0
              else
                1
            else
              1
          else
            bif (eqI t.1 4) then
              bif (eqI t.1 4) then
                bif (neI t.2.1 0) then
                  bif (!(eqI (cell_Check t.2) 0)) then
                    1
                  else
                    0
                else
                  1
              else
                1
            else
              bif (eqI t.1 5) then
                bif (eqI t.1 5) then
                  bif (neI t.2.1 0) then
                    bif (!(eqI (cell_Check t.2) 0)) then
                      1
                    else
                      0
                  else
                    1
                else
                  1
              else
                bif (eqI t.1 6) then
                  bif (neI t.2.1 0) then
                    bif (!(eqI (cell_Check t.2) 0)) then
                      1
                    else
                      0
                  else
                    1
                else
                  1

def test_Check.o (t : (Int × (Int × (Int × ByteArray)))) : Option (Int) :=
  bif (eqI t.1 7) then
    bif (eqI t.1 7) then
      bif (!((eqI t.2.1 0) && ((eqI t.2.2.1 0) && (eqS t.2.2.2 eB)))) then
        some 1
      else
        some 0
    else
      bif (eqI t.1 1) then
        bif (eqI t.1 1) then
          bif (neI t.2.1 0) then
            bif (!(eqI (cell_Check t.2) 0)) then
              some 1
            else
              some 0
          else
            some 1
        else
          some 1
      else
        bif (eqI t.1 2) then
          bif (eqI t.1 2) then
            bif (neI t.2.1 0) then
              bif (!(eqI (cell_Check t.2) 0)) then
                some 1
              else
                some 0
            else
              some 1
          else
            some 1
        else
          bif (eqI t.1 3) then
            bif (eqI t.1 3) then
              bif (neI t.2.1 0) then
                bif (!(eqI (cell_Check t.2) 0)) then
                  some 1
                else
                  some 0
              else
                some 1
            else
              some 1
          else
            bif (eqI t.1 4) then
              bif (eqI t.1 4) then
                bif (neI t.2.1 0) then
                  bif (!(eqI (cell_Check t.2) 0)) then
                    some 1
                  else
                    some 0
                else
                  some 1
              else
                some 1
            else
              bif (eqI t.1 5) then
                bif (eqI t.1 5) then
                  bif (neI t.2.1 0) then
                    bif (!(eqI (cell_Check t.2) 0)) then
                      some 1
                    else
                      some 0
                  else
                    some 1
                else
                  some 1
              else
                bif (eqI t.1 6) then
                  bif (neI t.2.1 0) then
                    bif (!(eqI (cell_Check t.2) 0)) then
                      some 1
                    else
                      some 0
                  else
                    some 1
                else
                  some 1
  else
    bif (eqI t.1 8) then
      bif (!((eqI t.2.1 0) && ((eqI t.2.2.1 0) && (eqS t.2.2.2 eB)))) then
        some 1
      else
        some 0
    else
      bif (eqI t.1 1) then
        bif (eqI t.1 1) then
          bif (neI t.2.1 0) then
            bif (!(eqI (cell_Check t.2) 0)) then
              some 1
            else
              some 0
          else
            some 1
        else
          some 1
      else
        bif (eqI t.1 2) then
          bif (eqI t.1 2) then
            bif (neI t.2.1 0) then
              bif (!(eqI (cell_Check t.2) 0)) then
                some 1
              else
                some 0
            else
              some 1
          else
            some 1
        else
          bif (eqI t.1 3) then
            bif (eqI t.1 3) then
              bif (neI t.2.1 0) then
                bif (!(eqI (cell_Check t.2) 0)) then
                  some 1
                else
                  some 0
              else
                some 1
            else
              some 1
          else
            bif (eqI t.1 4) then
              bif (eqI t.1 4) then
                bif (neI t.2.1 0) then
                  bif (!(eqI (cell_Check t.2) 0)) then
                    some 1
                  else
                    some 0
                else
                  some 1
              else
                some 1
            else
              bif (eqI t.1 5) then
                bif (eqI t.1 5) then
                  bif (neI t.2.1 0) then
                    bif (!(eqI (cell_Check t.2) 0)) then
                      some 1
                    else
                      some 0
                  else
                    some 1
                else
                  some 1
              else
                bif (eqI t.1 6) then
                  bif (neI t.2.1 0) then
                    bif (!(eqI (cell_Check t.2) 0)) then
                      some 1
                    else
                      some 0
                  else
                    some 1
                else
                  some 1

/-! peristyle/test.stands -/
def test_stands (t : (Int × (Int × (Int × ByteArray)))) (c : (Int × (Int × ByteArray))) : Option (Bool) :=
  ((cell_Compare c t.2)).bind fun r_1 =>
  bif (eqI t.1 1) then
    some (eqI r_1 0)
  else
    bif (eqI t.1 2) then
      some (neI r_1 0)
    else
      bif (eqI t.1 6) then
        bif (eqI r_1 0) then
          some true
        else
          some (ltI 0 r_1)
      else
        bif (eqI t.1 5) then
          some (ltI 0 r_1)
        else
          bif (eqI t.1 4) then
            bif (eqI r_1 0) then
              some true
            else
              some (ltI r_1 0)
          else
            bif (eqI t.1 3) then
              some (ltI r_1 0)
            else
              some true

/-! peristyle/test.Match -/
def test_Match (t : (Int × (Int × (Int × ByteArray)))) (c : (Int × (Int × ByteArray))) : Option (Bool) :=
  bif (neI (test_Check t) 0) then
    some false
  else
    bif (eqI t.1 7) then
      some (eqI c.1 0)
    else
      bif (neI c.1 0) then
        ((test_stands t c)).bind fun r_2 =>
        some r_2
      else
        some false

/-! peristyle/test.Bounds$1$1 -/
def test_Bounds_1_1 (xk : Int) (t1 : Int) (t2 : (Int × (Int × (Int × ByteArray)))) (t3 : (List Int)) : Option (Bool) :=
  bif (inB xk (lenL t3)) then
    ((test_Match (t1, t2.2) (1, (nth t3 xk 0), eB))).bind fun r_1 =>
    some r_1
  else none

/-! sort.Search -/
def sort_Search__test_Bounds_1_1.S0 (self : Int → (Int × (Int × (Int × ByteArray))) → (List Int) → Int → Int → Option (Int)) (f_1 : Int) (f_2 : (Int × (Int × (Int × ByteArray)))) (f_3 : (List Int)) (i_4 : Int) (j_5 : Int) : Option (Int) :=
  bif (ltI i_4 j_5) then
    ((test_Bounds_1_1 (IntKind.wrap .i64 (shrI .u64 (IntKind.wrap .u64 (addI .i64 i_4 j_5)) 1)) f_1 f_2 f_3)).bind fun r_6 =>
    bif (!r_6) then
      self f_1 f_2 f_3 (addI .i64 (IntKind.wrap .i64 (shrI .u64 (IntKind.wrap .u64 (addI .i64 i_4 j_5)) 1)) 1) j_5
    else
      self f_1 f_2 f_3 i_4 (IntKind.wrap .i64 (shrI .u64 (IntKind.wrap .u64 (addI .i64 i_4 j_5)) 1))
  else
    some i_4
def sort_Search__test_Bounds_1_1.l0 : Nat → Int → (Int × (Int × (Int × ByteArray))) → (List Int) → Int → Int → Option (Int)
  | 0 => fun _ _ _ _ _ => none
  | n + 1 => sort_Search__test_Bounds_1_1.S0 (sort_Search__test_Bounds_1_1.l0 n)

def sort_Search__test_Bounds_1_1.S (j0 : Int → (Int × (Int × (Int × ByteArray))) → (List Int) → Int → Int → Option (Int)) (xn : Int) (f0 : Int) (f1 : (Int × (Int × (Int × ByteArray)))) (f2 : (List Int)) : Option (Int) :=
  j0 f0 f1 f2 0 xn
def sort_Search__test_Bounds_1_1 (xn : Int) (f0 : Int) (f1 : (Int × (Int × (Int × ByteArray)))) (f2 : (List Int)) : Option (Int) := sort_Search__test_Bounds_1_1.S (sort_Search__test_Bounds_1_1.l0 fu) xn f0 f1 f2

/-! peristyle/test.Bounds$1 -/
def test_Bounds_1 (op : Int) (t1 : (List Int)) (t2 : (Int × (Int × (Int × ByteArray)))) : Option (Int) :=
  ((sort_Search__test_Bounds_1_1 (lenL t1) op t2 t1)).bind fun r_1 =>
  some r_1

/-! peristyle/test.Bounds -/
def test_Bounds.S0 (from_4 : Int) (to_5 : Int) : Option (Int × Int) :=
  bif (leI to_5 from_4) then
    some (0, 0)
  else
    some (from_4, to_5)
def test_Bounds.t0 : Nat → Int → Int → Option (Int × Int)
  | 0 => fun _ _ => none
  | _ + 1 => test_Bounds.S0

def test_Bounds.S (j0 : Int → Int → Option (Int × Int)) (t : (Int × (Int × (Int × ByteArray)))) (l : (List Int)) : Option (Int × Int) :=
  bif (neI (test_Check t) 0) then
    some (0, 0)
  else
    bif (eqI t.1 2) then
      some (0, 0)
    else
      bif (eqI t.1 7) then
        some (0, 0)
      else
        bif (eqI t.1 1) then
          ((test_Bounds_1 6 l t)).bind fun r_2 =>
          ((test_Bounds_1 5 l t)).bind fun r_3 =>
          j0 r_2 r_3
        else
          bif (eqI t.1 3) then
            ((test_Bounds_1 6 l t)).bind fun r_6 =>
            j0 0 r_6
          else
            bif (eqI t.1 4) then
              ((test_Bounds_1 5 l t)).bind fun r_7 =>
              j0 0 r_7
            else
              bif (eqI t.1 5) then
                bif (eqI t.1 5) then
                  ((test_Bounds_1 t.1 l t)).bind fun r_8 =>
                  j0 r_8 (lenL l)
                else
                  j0 0 (lenL l)
              else
                bif (eqI t.1 6) then
                  ((test_Bounds_1 t.1 l t)).bind fun r_9 =>
                  j0 r_9 (lenL l)
                else
                  j0 0 (lenL l)
def test_Bounds (t : (Int × (Int × (Int × ByteArray)))) (l : (List Int)) : Option (Int × Int) := test_Bounds.S (test_Bounds.t0 fu) t l

/-! peristyle/test.outside -/
def test_outside (t : (Int × (Int × (Int × ByteArray)))) (z : ((Int × (Int × ByteArray)) × ((Int × (Int × ByteArray)) × (Int × Int)))) : Option (Bool) :=
  ((cell_Compare t.2 z.1)).bind fun r_1 =>
  bif (ltI r_1 0) then
    some true
  else
    ((cell_Compare t.2 z.2.1)).bind fun r_2 =>
    some (ltI 0 r_2)

/-! peristyle/test.alone -/
def test_alone (t : (Int × (Int × (Int × ByteArray)))) (z : ((Int × (Int × ByteArray)) × ((Int × (Int × ByteArray)) × (Int × Int)))) : Bool :=
  bif ((eqI z.1.1 t.2.1) && ((eqI z.1.2.1 t.2.2.1) && (eqS z.1.2.2 t.2.2.2))) then
    ((eqI z.2.1.1 t.2.1) && ((eqI z.2.1.2.1 t.2.2.1) && (eqS z.2.1.2.2 t.2.2.2)))
  else
    false

def test_alone.o (t : (Int × (Int × (Int × ByteArray)))) (z : ((Int × (Int × ByteArray)) × ((Int × (Int × ByteArray)) × (Int × Int)))) : Option (Bool) :=
  bif ((eqI z.1.1 t.2.1) && ((eqI z.1.2.1 t.2.2.1) && (eqS z.1.2.2 t.2.2.2))) then
    some ((eqI z.2.1.1 t.2.1) && ((eqI z.2.1.2.1 t.2.2.1) && (eqS z.2.1.2.2 t.2.2.2)))
  else
    some false

/-! peristyle/test.None -/
def test_None (t : (Int × (Int × (Int × ByteArray)))) (z : ((Int × (Int × ByteArray)) × ((Int × (Int × ByteArray)) × (Int × Int)))) : Option (Bool) :=
  bif (neI (test_Check t) 0) then
    some false
  else
    bif (eqI z.2.2.2 0) then
      some true
    else
      bif (eqI t.1 7) then
        some (eqI z.2.2.1 0)
      else
        bif (eqI z.2.2.1 z.2.2.2) then
          some true
        else
          bif (eqI t.1 1) then
            ((test_outside t z)).bind fun r_2 =>
            some r_2
          else
            bif (eqI t.1 2) then
              some (test_alone t z)
            else
              bif (eqI t.1 3) then
                bif (eqI t.1 3) then
                  ((test_Match t z.1)).bind fun r_4 =>
                  some (!r_4)
                else
                  bif (eqI t.1 5) then
                    bif (eqI t.1 5) then
                      ((test_Match t z.2.1)).bind fun r_5 =>
                      some (!r_5)
                    else
                      some false
                  else
                    bif (eqI t.1 6) then
                      ((test_Match t z.2.1)).bind fun r_6 =>
                      some (!r_6)
                    else
                      some false
              else
                bif (eqI t.1 4) then
                  ((test_Match t z.1)).bind fun r_7 =>
                  some (!r_7)
                else
                  bif (eqI t.1 5) then
                    bif (eqI t.1 5) then
                      ((test_Match t z.2.1)).bind fun r_8 =>
                      some (!r_8)
                    else
                      some false
                  else
                    bif (eqI t.1 6) then
                      ((test_Match t z.2.1)).bind fun r_9 =>
                      some (!r_9)
                    else
                      some false

/-! peristyle/test.All -/
def test_All (t : (Int × (Int × (Int × ByteArray)))) (z : ((Int × (Int × ByteArray)) × ((Int × (Int × ByteArray)) × (Int × Int)))) : Option (Bool) :=
  bif (neI (test_Check t) 0) then
    some false
  else
    bif (eqI z.2.2.2 0) then
      some false
    else
      bif (eqI t.1 7) then
        some (eqI z.2.2.1 z.2.2.2)
      else
        bif (ltI 0 z.2.2.1) then
          some false
        else
          bif (eqI t.1 1) then
            some (test_alone t z)
          else
            bif (eqI t.1 2) then
              ((test_outside t z)).bind fun r_3 =>
              some r_3
            else
              bif (eqI t.1 3) then
                bif (eqI t.1 3) then
                  ((test_Match t z.2.1)).bind fun r_4 =>
                  some r_4
                else
                  bif (eqI t.1 5) then
                    bif (eqI t.1 5) then
                      ((test_Match t z.1)).bind fun r_5 =>
                      some r_5
                    else
                      some true
                  else
                    bif (eqI t.1 6) then
                      ((test_Match t z.1)).bind fun r_6 =>
                      some r_6
                    else
                      some true
              else
                bif (eqI t.1 4) then
                  ((test_Match t z.2.1)).bind fun r_7 =>
                  some r_7
                else
                  bif (eqI t.1 5) then
                    bif (eqI t.1 5) then
                      ((test_Match t z.1)).bind fun r_8 =>
                      some r_8
                    else
                      some true
                  else
                    bif (eqI t.1 6) then
                      ((test_Match t z.1)).bind fun r_9 =>
                      some r_9
                    else
                      some true

/-! peristyle/peristylelaw17.awake -/
def law17_awake : Option (Bool) :=
  ((test_Zone [(law17_num 5), (0, 0, eB), (law17_num 9)])).bind fun r_3 =>
  ((test_Bounds (6, (law17_num 3)) [1, 3, 8])).bind fun r_6 =>
  bif (((eqI r_3.1.1 (law17_num 5).1) && ((eqI r_3.1.2.1 (law17_num 5).2.1) && (eqS r_3.1.2.2 (law17_num 5).2.2))) && (((eqI r_3.2.1.1 (law17_num 9).1) && ((eqI r_3.2.1.2.1 (law17_num 9).2.1) && (eqS r_3.2.1.2.2 (law17_num 9).2.2))) && ((eqI r_3.2.2.1 1) && (eqI r_3.2.2.2 3)))) then
    ((test_None (3, (law17_num 5)) r_3)).bind fun r_9 =>
    bif r_9 then
      ((test_All (3, (law17_num 5)) r_3)).bind fun r_10 =>
      bif (!r_10) then
        ((test_Match (3, (law17_num 5)) (law17_num 4))).bind fun r_12 =>
        bif r_12 then
          bif (eqI (test_Check (3, (law17_num 5))) 0) then
            bif (eqI (test_Check (0, 0, 0, eB)) 1) then
              bif (eqI r_6.1 1) then
                some (eqI r_6.2 3)
              else
                some false
            else
              some false
          else
            some false
        else
          some false
      else
        some false
    else
      some false
  else
    some false

/-! peristyle/peristyleref06.May -/
def ref06_May (c : (Int × (Int × ByteArray))) : Bool :=
  bif (eqI c.1 0) then
    bif (eqI c.2.1 0) then
      (eqS c.2.2 eB)
    else
      false
  else
    bif (eqI c.1 1) then
      (eqS c.2.2 eB)
    else
      bif (eqI c.1 2) then
        bif (eqI c.2.1 0) then
          (leI (lenS c.2.2) 32)
        else
          false
      else
        false

def ref06_May.o (c : (Int × (Int × ByteArray))) : Option (Bool) :=
  bif (eqI c.1 0) then
    bif (eqI c.2.1 0) then
      some (eqS c.2.2 eB)
    else
      some false
  else
    bif (eqI c.1 1) then
      some (eqS c.2.2 eB)
    else
      bif (eqI c.1 2) then
        bif (eqI c.2.1 0) then
          some (leI (lenS c.2.2) 32)
        else
          some false
      else
        some false

/-! peristyle/peristyleref17.May -/
def ref17_May (t : (Int × (Int × (Int × ByteArray)))) : Bool :=
  bif (eqI t.1 7) then
    ((eqI t.2.1 0) && ((eqI t.2.2.1 0) && (eqS t.2.2.2 eB)))
  else
    bif (eqI t.1 8) then
      ((eqI t.2.1 0) && ((eqI t.2.2.1 0) && (eqS t.2.2.2 eB)))
    else
      bif (leI 1 t.1) then
        bif (leI t.1 6) then
          bif (ref06_May t.2) then
            (neI t.2.1 0)
          else
            false
        else
          false
      else
        false

def ref17_May.o (t : (Int × (Int × (Int × ByteArray)))) : Option (Bool) :=
  bif (eqI t.1 7) then
    some ((eqI t.2.1 0) && ((eqI t.2.2.1 0) && (eqS t.2.2.2 eB)))
  else
    bif (eqI t.1 8) then
      some ((eqI t.2.1 0) && ((eqI t.2.2.1 0) && (eqS t.2.2.2 eB)))
    else
      bif (leI 1 t.1) then
        bif (leI t.1 6) then
          bif (ref06_May t.2) then
            some (neI t.2.1 0)
          else
            some false
        else
          some false
      else
        some false

/-! peristyle/peristyleref06.Compare -/
def ref06_Compare (a : (Int × (Int × ByteArray))) (b : (Int × (Int × ByteArray))) : Int :=
  bif ((eqI a.1 b.1) && ((eqI a.2.1 b.2.1) && (eqS a.2.2 b.2.2))) then
    0
  else
    bif (ltI a.1 b.1) then
      (-1)
    else
      bif (eqI a.1 b.1) then
        bif (ltI a.2.1 b.2.1) then
          (-1)
        else
          bif (eqI a.2.1 b.2.1) then
            bif (ltS a.2.2 b.2.2) then
              (-1)
            else
              1
          else
            1
      else
        1

def ref06_Compare.o (a : (Int × (Int × ByteArray))) (b : (Int × (Int × ByteArray))) : Option (Int) :=
  bif ((eqI a.1 b.1) && ((eqI a.2.1 b.2.1) && (eqS a.2.2 b.2.2))) then
    some 0
  else
    bif (ltI a.1 b.1) then
      some (-1)
    else
      bif (eqI a.1 b.1) then
        bif (ltI a.2.1 b.2.1) then
          some (-1)
        else
          bif (eqI a.2.1 b.2.1) then
            bif (ltS a.2.2 b.2.2) then
              some (-1)
            else
              some 1
          else
            some 1
      else
        some 1

/-! peristyle/peristyleref17.Match -/
def ref17_Match (t : (Int × (Int × (Int × ByteArray)))) (c : (Int × (Int × ByteArray))) : Bool :=
  bif (!(ref17_May t)) then
    false
  else
    bif (eqI t.1 7) then
      bif (eqI t.1 7) then
        (eqI c.1 0)
      else
        false
    else
      bif (eqI c.1 0) then
        bif (eqI t.1 7) then
          (eqI c.1 0)
        else
          false
      else
        let r_2 := (ref06_Compare c t.2)
        bif (eqI t.1 1) then
          (eqI r_2 0)
        else
          bif (eqI t.1 2) then
            (neI r_2 0)
          else
            bif (eqI t.1 3) then
              (ltI r_2 0)
            else
              bif (eqI t.1 4) then
                (leI r_2 0)
              else
                bif (eqI t.1 5) then
                  (ltI 0 r_2)
                else
                  bif (eqI t.1 6) then
                    (leI 0 r_2)
                  else
                    true

def ref17_Match.o (t : (Int × (Int × (Int × ByteArray)))) (c : (Int × (Int × ByteArray))) : Option (Bool) :=
  bif (!(ref17_May t)) then
    some false
  else
    bif (eqI t.1 7) then
      bif (eqI t.1 7) then
        some (eqI c.1 0)
      else
        some false
    else
      bif (eqI c.1 0) then
        bif (eqI t.1 7) then
          some (eqI c.1 0)
        else
          some false
      else
        let r_2 := (ref06_Compare c t.2)
        bif (eqI t.1 1) then
          some (eqI r_2 0)
        else
          bif (eqI t.1 2) then
            some (neI r_2 0)
          else
            bif (eqI t.1 3) then
              some (ltI r_2 0)
            else
              bif (eqI t.1 4) then
                some (leI r_2 0)
              else
                bif (eqI t.1 5) then
                  some (ltI 0 r_2)
                else
                  bif (eqI t.1 6) then
                    some (leI 0 r_2)
                  else
                    some true

/-! peristyle/peristylelaw17.TestMatches -/
def law17_TestMatches (t : (Int × (Int × (Int × ByteArray)))) (c : (Int × (Int × ByteArray))) : Option (Bool) :=
  bif (ltI 100 (lenS t.2.2.2)) then
    (law17_awake).bind fun r_1 =>
    some r_1
  else
    bif (ltI 100 (lenS c.2.2)) then
      (law17_awake).bind fun r_2 =>
      some r_2
    else
      ((test_Match t c)).bind fun r_4 =>
      bif (eqB r_4 (ref17_Match t c)) then
        bif (eqB (eqI (test_Check t) 0) (ref17_May t)) then
          bif (eqI (test_Check t) 0) then
            (law17_awake).bind fun r_7 =>
            some r_7
          else
            bif (eqI (test_Check t) 1) then
              (law17_awake).bind fun r_8 =>
              some r_8
            else
              some false
        else
          some false
      else
        some false

/-! peristyle/peristyleref12.Light -/
def ref12_Light.S0 (self : (List (Int × (Int × ByteArray))) → Int → Int → Option (Bool)) (l_1 : (List (Int × (Int × ByteArray)))) (most_2 : Int) (i_3 : Int) : Option (Bool) :=
  bif (ltI i_3 (lenL l_1)) then
    bif (ltI i_3 most_2) then
      bif (inB i_3 (lenL l_1)) then
        bif (ltI 100 (lenS (nth l_1 i_3 (0, 0, eB)).2.2)) then
          some false
        else
          self l_1 most_2 (addI .i64 i_3 1)
      else none
    else
      some (leI (lenL l_1) most_2)
  else
    some (leI (lenL l_1) most_2)
def ref12_Light.l0 : Nat → (List (Int × (Int × ByteArray))) → Int → Int → Option (Bool)
  | 0 => fun _ _ _ => none
  | n + 1 => ref12_Light.S0 (ref12_Light.l0 n)

def ref12_Light.S (j0 : (List (Int × (Int × ByteArray))) → Int → Int → Option (Bool)) (l : (List (Int × (Int × ByteArray)))) (most : Int) : Option (Bool) :=
  j0 l most 0
def ref12_Light (l : (List (Int × (Int × ByteArray)))) (most : Int) : Option (Bool) := ref12_Light.S (ref12_Light.l0 fu) l most

/-! peristyle/peristyleref17.Zone -/
def ref17_Zone.S1 (o0_1 : (List (Int × (Int × ByteArray))) → Bool → Int → ((Int × (Int × ByteArray)) × ((Int × (Int × ByteArray)) × (Int × Int))) → ((Int × (Int × ByteArray)) × ((Int × (Int × ByteArray)) × (Int × Int))) → Option (((Int × (Int × ByteArray)) × ((Int × (Int × ByteArray)) × (Int × Int))))) (l_6 : (List (Int × (Int × ByteArray)))) (some_7 : Bool) (i_8 : Int) (t2_9 : ((Int × (Int × ByteArray)) × ((Int × (Int × ByteArray)) × (Int × Int)))) (z_10 : ((Int × (Int × ByteArray)) × ((Int × (Int × ByteArray)) × (Int × Int)))) : Option (((Int × (Int × ByteArray)) × ((Int × (Int × ByteArray)) × (Int × Int)))) :=
  bif (!some_7) then
    bif (inB i_8 (lenL l_6)) then
      o0_1 l_6 true (addI .i64 i_8 1) t2_9 (z_10.1, (nth l_6 i_8 (0, 0, eB)), z_10.2.2)
    else none
  else
    bif (inB i_8 (lenL l_6)) then
      bif (ltI 0 (ref06_Compare (nth l_6 i_8 (0, 0, eB)) z_10.2.1)) then
        bif (inB i_8 (lenL l_6)) then
          o0_1 l_6 true (addI .i64 i_8 1) t2_9 (z_10.1, (nth l_6 i_8 (0, 0, eB)), z_10.2.2)
        else none
      else
        o0_1 l_6 true (addI .i64 i_8 1) t2_9 z_10
    else none
def ref17_Zone.t1 (o0_1 : (List (Int × (Int × ByteArray))) → Bool → Int → ((Int × (Int × ByteArray)) × ((Int × (Int × ByteArray)) × (Int × Int))) → ((Int × (Int × ByteArray)) × ((Int × (Int × ByteArray)) × (Int × Int))) → Option (((Int × (Int × ByteArray)) × ((Int × (Int × ByteArray)) × (Int × Int))))) : Nat → (List (Int × (Int × ByteArray))) → Bool → Int → ((Int × (Int × ByteArray)) × ((Int × (Int × ByteArray)) × (Int × Int))) → ((Int × (Int × ByteArray)) × ((Int × (Int × ByteArray)) × (Int × Int))) → Option (((Int × (Int × ByteArray)) × ((Int × (Int × ByteArray)) × (Int × Int))))
  | 0 => fun _ _ _ _ _ => none
  | _ + 1 => ref17_Zone.S1 o0_1

def ref17_Zone.S0 (self : (List (Int × (Int × ByteArray))) → Bool → Int → ((Int × (Int × ByteArray)) × ((Int × (Int × ByteArray)) × (Int × Int))) → ((Int × (Int × ByteArray)) × ((Int × (Int × ByteArray)) × (Int × Int))) → Option (((Int × (Int × ByteArray)) × ((Int × (Int × ByteArray)) × (Int × Int))))) (j1 : (List (Int × (Int × ByteArray))) → Bool → Int → ((Int × (Int × ByteArray)) × ((Int × (Int × ByteArray)) × (Int × Int))) → ((Int × (Int × ByteArray)) × ((Int × (Int × ByteArray)) × (Int × Int))) → Option (((Int × (Int × ByteArray)) × ((Int × (Int × ByteArray)) × (Int × Int))))) (l_1 : (List (Int × (Int × ByteArray)))) (some_2 : Bool) (i_3 : Int) (t2_4 : ((Int × (Int × ByteArray)) × ((Int × (Int × ByteArray)) × (Int × Int)))) (z_5 : ((Int × (Int × ByteArray)) × ((Int × (Int × ByteArray)) × (Int × Int)))) : Option (((Int × (Int × ByteArray)) × ((Int × (Int × ByteArray)) × (Int × Int)))) :=
  bif (ltI i_3 (lenL l_1)) then
    bif (inB i_3 (lenL l_1)) then
      bif (eqI (nth l_1 i_3 (0, 0, eB)).1 0) then
        self l_1 some_2 (addI .i64 i_3 1) t2_4 (z_5.1, z_5.2.1, (addI .i64 z_5.2.2.1 1), z_5.2.2.2)
      else
        bif (!some_2) then
          bif (inB i_3 (lenL l_1)) then
            j1 l_1 some_2 i_3 t2_4 ((nth l_1 i_3 (0, 0, eB)), z_5.2)
          else none
        else
          bif (inB i_3 (lenL l_1)) then
            bif (ltI (ref06_Compare (nth l_1 i_3 (0, 0, eB)) z_5.1) 0) then
              bif (inB i_3 (lenL l_1)) then
                j1 l_1 some_2 i_3 t2_4 ((nth l_1 i_3 (0, 0, eB)), z_5.2)
              else none
            else
              j1 l_1 some_2 i_3 t2_4 z_5
          else none
    else none
  else
    some z_5
def ref17_Zone.l0 : Nat → (List (Int × (Int × ByteArray))) → Bool → Int → ((Int × (Int × ByteArray)) × ((Int × (Int × ByteArray)) × (Int × Int))) → ((Int × (Int × ByteArray)) × ((Int × (Int × ByteArray)) × (Int × Int))) → Option (((Int × (Int × ByteArray)) × ((Int × (Int × ByteArray)) × (Int × Int))))
  | 0 => fun _ _ _ _ _ => none
  | n + 1 => ref17_Zone.S0 (ref17_Zone.l0 n) (ref17_Zone.t1 (ref17_Zone.l0 n) n)

def ref17_Zone.S (j0 : (List (Int × (Int × ByteArray))) → Bool → Int → ((Int × (Int × ByteArray)) × ((Int × (Int × ByteArray)) × (Int × Int))) → ((Int × (Int × ByteArray)) × ((Int × (Int × ByteArray)) × (Int × Int))) → Option (((Int × (Int × ByteArray)) × ((Int × (Int × ByteArray)) × (Int × Int))))) (l : (List (Int × (Int × ByteArray)))) : Option (((Int × (Int × ByteArray)) × ((Int × (Int × ByteArray)) × (Int × Int)))) :=
  j0 l false 0 ((0, 0, eB), (0, 0, eB), 0, 0) ((0, 0, eB), (0, 0, eB), 0, (lenL l))
def ref17_Zone (l : (List (Int × (Int × ByteArray)))) : Option (((Int × (Int × ByteArray)) × ((Int × (Int × ByteArray)) × (Int × Int)))) := ref17_Zone.S (ref17_Zone.l0 fu) l

/-! peristyle/peristylelaw17.TestZones -/
def law17_TestZones (a : (List (Int × (Int × ByteArray)))) (b : (List (Int × (Int × ByteArray)))) : Option (Bool) :=
  ((ref12_Light a 60)).bind fun r_1 =>
  bif (!r_1) then
    (law17_awake).bind fun r_2 =>
    some r_2
  else
    ((ref12_Light b 60)).bind fun r_3 =>
    bif (!r_3) then
      (law17_awake).bind fun r_4 =>
      some r_4
    else
      bif (roomB (0 + (List.length a)) 32) then
        bif (roomB ((List.length a) + (List.length b)) 32) then
          ((test_Zone a)).bind fun r_5 =>
          ((ref17_Zone a)).bind fun r_6 =>
          bif (((eqI r_5.1.1 r_6.1.1) && ((eqI r_5.1.2.1 r_6.1.2.1) && (eqS r_5.1.2.2 r_6.1.2.2))) && (((eqI r_5.2.1.1 r_6.2.1.1) && ((eqI r_5.2.1.2.1 r_6.2.1.2.1) && (eqS r_5.2.1.2.2 r_6.2.1.2.2))) && ((eqI r_5.2.2.1 r_6.2.2.1) && (eqI r_5.2.2.2 r_6.2.2.2)))) then
            ((test_Zone a)).bind fun r_7 =>
            ((test_Zone b)).bind fun r_8 =>
            ((test_Merge r_7 r_8)).bind fun r_9 =>
            ((ref17_Zone (a ++ b))).bind fun r_10 =>
            bif (((eqI r_9.1.1 r_10.1.1) && ((eqI r_9.1.2.1 r_10.1.2.1) && (eqS r_9.1.2.2 r_10.1.2.2))) && (((eqI r_9.2.1.1 r_10.2.1.1) && ((eqI r_9.2.1.2.1 r_10.2.1.2.1) && (eqS r_9.2.1.2.2 r_10.2.1.2.2))) && ((eqI r_9.2.2.1 r_10.2.2.1) && (eqI r_9.2.2.2 r_10.2.2.2)))) then
              (law17_awake).bind fun r_11 =>
              some r_11
            else
              some false
          else
            some false
        else none
      else none

/-! peristyle/peristylelaw17.TestSound -/
def law17_TestSound.S1 (self : (List (Int × (Int × ByteArray))) → Bool → Bool → Int → (Int × (Int × (Int × ByteArray))) → (Int × (Int × (Int × ByteArray))) → Option (Bool)) (l_14 : (List (Int × (Int × ByteArray)))) (none_15 : Bool) (all_16 : Bool) (i_17 : Int) (t_18 : (Int × (Int × (Int × ByteArray)))) (not_19 : (Int × (Int × (Int × ByteArray)))) : Option (Bool) :=
  bif (ltI i_17 (lenL l_14)) then
    bif (inB i_17 (lenL l_14)) then
      bif (!(ref06_May (nth l_14 i_17 (0, 0, eB)))) then
        (law17_awake).bind fun r_21 =>
        some r_21
      else
        bif (inB i_17 (lenL l_14)) then
          ((test_Match t_18 (nth l_14 i_17 (0, 0, eB)))).bind fun r_22 =>
          bif (inB i_17 (lenL l_14)) then
            ((test_Match not_19 (nth l_14 i_17 (0, 0, eB)))).bind fun r_23 =>
            bif none_15 then
              bif r_22 then
                some false
              else
                bif all_16 then
                  bif (!r_22) then
                    some false
                  else
                    bif (inB i_17 (lenL l_14)) then
                      bif (neI (nth l_14 i_17 (0, 0, eB)).1 0) then
                        bif (eqB r_22 r_23) then
                          some false
                        else
                          self l_14 none_15 all_16 (addI .i64 i_17 1) t_18 not_19
                      else
                        self l_14 none_15 all_16 (addI .i64 i_17 1) t_18 not_19
                    else none
                else
                  bif (inB i_17 (lenL l_14)) then
                    bif (neI (nth l_14 i_17 (0, 0, eB)).1 0) then
                      bif (eqB r_22 r_23) then
                        some false
                      else
                        self l_14 none_15 all_16 (addI .i64 i_17 1) t_18 not_19
                    else
                      self l_14 none_15 all_16 (addI .i64 i_17 1) t_18 not_19
                  else none
            else
              bif all_16 then
                bif (!r_22) then
                  some false
                else
                  bif (inB i_17 (lenL l_14)) then
                    bif (neI (nth l_14 i_17 (0, 0, eB)).1 0) then
                      bif (eqB r_22 r_23) then
                        some false
                      else
                        self l_14 none_15 all_16 (addI .i64 i_17 1) t_18 not_19
                    else
                      self l_14 none_15 all_16 (addI .i64 i_17 1) t_18 not_19
                  else none
              else
                bif (inB i_17 (lenL l_14)) then
                  bif (neI (nth l_14 i_17 (0, 0, eB)).1 0) then
                    bif (eqB r_22 r_23) then
                      some false
                    else
                      self l_14 none_15 all_16 (addI .i64 i_17 1) t_18 not_19
                  else
                    self l_14 none_15 all_16 (addI .i64 i_17 1) t_18 not_19
                else none
          else none
        else none
    else none
  else
    (law17_awake).bind fun r_24 =>
    some r_24
def law17_TestSound.l1 : Nat → (List (Int × (Int × ByteArray))) → Bool → Bool → Int → (Int × (Int × (Int × ByteArray))) → (Int × (Int × (Int × ByteArray))) → Option (Bool)
  | 0 => fun _ _ _ _ _ _ => none
  | n + 1 => law17_TestSound.S1 (law17_TestSound.l1 n)

def law17_TestSound.S0 (j1 : (List (Int × (Int × ByteArray))) → Bool → Bool → Int → (Int × (Int × (Int × ByteArray))) → (Int × (Int × (Int × ByteArray))) → Option (Bool)) (l_9 : (List (Int × (Int × ByteArray)))) (none_10 : Bool) (all_11 : Bool) (t_12 : (Int × (Int × (Int × ByteArray)))) (not_13 : (Int × (Int × (Int × ByteArray)))) : Option (Bool) :=
  j1 l_9 none_10 all_11 0 t_12 not_13
def law17_TestSound.t0 : Nat → (List (Int × (Int × ByteArray))) → Bool → Bool → (Int × (Int × (Int × ByteArray))) → (Int × (Int × (Int × ByteArray))) → Option (Bool)
  | 0 => fun _ _ _ _ _ => none
  | n + 1 => law17_TestSound.S0 (law17_TestSound.l1 n)

def law17_TestSound.S (j0 : (List (Int × (Int × ByteArray))) → Bool → Bool → (Int × (Int × (Int × ByteArray))) → (Int × (Int × (Int × ByteArray))) → Option (Bool)) (t : (Int × (Int × (Int × ByteArray)))) (l : (List (Int × (Int × ByteArray)))) : Option (Bool) :=
  ((ref12_Light l 60)).bind fun r_1 =>
  bif (!r_1) then
    (law17_awake).bind fun r_2 =>
    some r_2
  else
    bif (ltI 100 (lenS t.2.2.2)) then
      (law17_awake).bind fun r_3 =>
      some r_3
    else
      bif (neI (test_Check t) 0) then
        (law17_awake).bind fun r_5 =>
        some r_5
      else
        ((test_Zone l)).bind fun r_6 =>
        ((test_None t r_6)).bind fun r_7 =>
        ((test_All t r_6)).bind fun r_8 =>
        bif (leI 1 t.1) then
          bif (leI t.1 8) then
            bif (inB t.1 9) then
              j0 l r_7 r_8 t ((nth [0, 2, 1, 6, 5, 4, 3, 8, 7] t.1 0), t.2)
            else none
          else
            j0 l r_7 r_8 t (0, t.2)
        else
          j0 l r_7 r_8 t (0, t.2)
def law17_TestSound (t : (Int × (Int × (Int × ByteArray)))) (l : (List (Int × (Int × ByteArray)))) : Option (Bool) := law17_TestSound.S (law17_TestSound.t0 fu) t l

/-! peristyle/peristylelaw17.TestBounds -/
def law17_TestBounds.S3 (from_21 : Int) (to_22 : Int) (some_23 : Bool) : Option (Bool) :=
  bif some_23 then
    (law17_awake).bind fun r_24 =>
    some r_24
  else
    bif (eqI from_21 0) then
      bif (eqI to_22 0) then
        (law17_awake).bind fun r_25 =>
        some r_25
      else
        some false
    else
      some false
def law17_TestBounds.t3 : Nat → Int → Int → Bool → Option (Bool)
  | 0 => fun _ _ _ => none
  | _ + 1 => law17_TestBounds.S3

def law17_TestBounds.S2 (o3_1 : Int → Int → Bool → Option (Bool)) (self : (List Int) → Int → Int → Bool → Int → (Int × (Int × (Int × ByteArray))) → Option (Bool)) (l_13 : (List Int)) (from_14 : Int) (to_15 : Int) (some_16 : Bool) (i_17 : Int) (t_18 : (Int × (Int × (Int × ByteArray)))) : Option (Bool) :=
  bif (ltI i_17 (lenL l_13)) then
    bif (inB i_17 (lenL l_13)) then
      let r_19 := (law17_num (nth l_13 i_17 0))
      bif (leI from_14 i_17) then
        bif (!(eqB (ref17_Match t_18 r_19) (ltI i_17 to_15))) then
          some false
        else
          bif some_16 then
            self l_13 from_14 to_15 true (addI .i64 i_17 1) t_18
          else
            self l_13 from_14 to_15 (ref17_Match t_18 r_19) (addI .i64 i_17 1) t_18
      else
        bif (!(eqB (ref17_Match t_18 r_19) false)) then
          some false
        else
          bif some_16 then
            self l_13 from_14 to_15 true (addI .i64 i_17 1) t_18
          else
            self l_13 from_14 to_15 (ref17_Match t_18 r_19) (addI .i64 i_17 1) t_18
    else none
  else
    o3_1 from_14 to_15 some_16
def law17_TestBounds.l2 (o3_1 : Int → Int → Bool → Option (Bool)) : Nat → (List Int) → Int → Int → Bool → Int → (Int × (Int × (Int × ByteArray))) → Option (Bool)
  | 0 => fun _ _ _ _ _ _ => none
  | n + 1 => law17_TestBounds.S2 o3_1 (law17_TestBounds.l2 o3_1 n)

def law17_TestBounds.S1 (j2 : (List Int) → Int → Int → Bool → Int → (Int × (Int × (Int × ByteArray))) → Option (Bool)) (l_7 : (List Int)) (t_8 : (Int × (Int × (Int × ByteArray)))) : Option (Bool) :=
  ((test_Bounds t_8 l_7)).bind fun r_9 =>
  bif (eqI t_8.1 2) then
    bif (eqI r_9.1 0) then
      bif (eqI r_9.2 0) then
        (law17_awake).bind fun r_10 =>
        some r_10
      else
        some false
    else
      some false
  else
    bif (!(ref17_May t_8)) then
      bif (eqI r_9.1 0) then
        bif (eqI r_9.2 0) then
          (law17_awake).bind fun r_12 =>
          some r_12
        else
          some false
      else
        some false
    else
      j2 l_7 r_9.1 r_9.2 false 0 t_8
def law17_TestBounds.t1 : Nat → (List Int) → (Int × (Int × (Int × ByteArray))) → Option (Bool)
  | 0 => fun _ _ => none
  | n + 1 => law17_TestBounds.S1 (law17_TestBounds.l2 (law17_TestBounds.t3 n) n)

def law17_TestBounds.S0 (o1_0 : (List Int) → (Int × (Int × (Int × ByteArray))) → Option (Bool)) (self : (List Int) → Int → (Int × (Int × (Int × ByteArray))) → Option (Bool)) (l_3 : (List Int)) (i_4 : Int) (t_5 : (Int × (Int × (Int × ByteArray)))) : Option (Bool) :=
  bif (ltI i_4 (lenL l_3)) then
    bif (inB i_4 (lenL l_3)) then
      bif (inB (subI .i64 i_4 1) (lenL l_3)) then
        bif (leI (nth l_3 i_4 0) (nth l_3 (subI .i64 i_4 1) 0)) then
          (law17_awake).bind fun r_6 =>
          some r_6
        else
          self l_3 (addI .i64 i_4 1) t_5
      else none
    else none
  else
    o1_0 l_3 t_5
def law17_TestBounds.l0 (o1_0 : (List Int) → (Int × (Int × (Int × ByteArray))) → Option (Bool)) : Nat → (List Int) → Int → (Int × (Int × (Int × ByteArray))) → Option (Bool)
  | 0 => fun _ _ _ => none
  | n + 1 => law17_TestBounds.S0 o1_0 (law17_TestBounds.l0 o1_0 n)

def law17_TestBounds.S (j0 : (List Int) → Int → (Int × (Int × (Int × ByteArray))) → Option (Bool)) (t : (Int × (Int × (Int × ByteArray)))) (l : (List Int)) : Option (Bool) :=
  bif (ltI 60 (lenL l)) then
    (law17_awake).bind fun r_1 =>
    some r_1
  else
    bif (ltI 100 (lenS t.2.2.2)) then
      (law17_awake).bind fun r_2 =>
      some r_2
    else
      j0 l 1 t
def law17_TestBounds (t : (Int × (Int × (Int × ByteArray)))) (l : (List Int)) : Option (Bool) := law17_TestBounds.S (law17_TestBounds.l0 (law17_TestBounds.t1 fu) fu) t l
end Go.AM.Pure
