import Derived.Test.YtboihdnijlilpaaDoorAmPrimW
import Derived.Test.YtboihdnijlilpaaDoorAmPure17
/- PRINTED by gen/ of this repo: the functions of the seat as pure functions. -/
namespace Go.AM.Pure
open Go.AM

/-! peristyle/bits.Zig -/
def bits_Zig (xn : Int) : Int :=
  (IntKind.wrap .i64 (xorI .u64 (shlI .u64 (IntKind.wrap .u64 xn) 1) (IntKind.wrap .u64 (shrI .i64 xn 63))))

/-! peristyle/vint.Put -/
def vint_Put.S1 (w_5 : Int) (k_6 : Int) (out_7 : (List Int)) : Option (ByteArray) :=
  bif ((inB k_6 10) && (decide (10 = (List.length out_7)))) then
    bif ((inC 0 (addI .i64 k_6 1) 10) && (decide (10 = (List.length (List.set out_7 (Int.toNat k_6) (IntKind.wrap .u8 w_5)))))) then
      some (ofBytes (List.take ((Int.toNat (addI .i64 k_6 1)) - 0) (List.drop 0 (List.set out_7 (Int.toNat k_6) (IntKind.wrap .u8 w_5)))))
    else none
  else none
def vint_Put.t1 : Nat → Int → Int → (List Int) → Option (ByteArray)
  | 0 => fun _ _ _ => none
  | _ + 1 => vint_Put.S1

def vint_Put.S0 (o1_0 : Int → Int → (List Int) → Option (ByteArray)) (self : Int → Int → (List Int) → Option (ByteArray)) (w_2 : Int) (k_3 : Int) (out_4 : (List Int)) : Option (ByteArray) :=
  bif (leI 128 w_2) then
    bif ((inB k_3 10) && (decide (10 = (List.length out_4)))) then
      self (shrI .u64 w_2 7) (addI .i64 k_3 1) (List.set out_4 (Int.toNat k_3) (orI .u8 (IntKind.wrap .u8 w_2) 128))
    else none
  else
    o1_0 w_2 k_3 out_4
def vint_Put.l0 (o1_0 : Int → Int → (List Int) → Option (ByteArray)) : Nat → Int → Int → (List Int) → Option (ByteArray)
  | 0 => fun _ _ _ => none
  | n + 1 => vint_Put.S0 o1_0 (vint_Put.l0 o1_0 n)

def vint_Put.S (j0 : Int → Int → (List Int) → Option (ByteArray)) (xn : Int) : Option (ByteArray) :=
  j0 (IntKind.wrap .u64 (bits_Zig xn)) 0 [0, 0, 0, 0, 0, 0, 0, 0, 0, 0]
def vint_Put (xn : Int) : Option (ByteArray) := vint_Put.S (vint_Put.l0 (vint_Put.t1 fu) fu) xn

/-! peristyle/cell.Put -/
def cell_Put.S0 (self : (List Int) → (List (Int × (Int × ByteArray))) → Int → Int → Option (ByteArray × Int)) (b_1 : (List Int)) (t14_2 : (List (Int × (Int × ByteArray)))) (t15_3 : Int) (t16_4 : Int) : Option (ByteArray × Int) :=
  bif (ltI t16_4 t15_3) then
    bif (inB t16_4 (lenL t14_2)) then
      bif (neI (cell_Check (nth t14_2 t16_4 (0, 0, eB))) 0) then
        some (eB, 1)
      else
        bif (roomB ((List.length b_1) + 1) 1) then
          bif (eqI (nth t14_2 t16_4 (0, 0, eB)).1 1) then
            ((vint_Put (nth t14_2 t16_4 (0, 0, eB)).2.1)).bind fun r_6 =>
            bif (roomB ((List.length (b_1 ++ [(IntKind.wrap .u8 (nth t14_2 t16_4 (0, 0, eB)).1)])) + (ByteArray.size r_6)) 1) then
              self ((b_1 ++ [(IntKind.wrap .u8 (nth t14_2 t16_4 (0, 0, eB)).1)]) ++ (toBytes r_6)) t14_2 t15_3 (addI .i64 t16_4 1)
            else none
          else
            bif (eqI (nth t14_2 t16_4 (0, 0, eB)).1 2) then
              bif (roomB ((List.length (b_1 ++ [(IntKind.wrap .u8 (nth t14_2 t16_4 (0, 0, eB)).1)])) + 1) 1) then
                bif (roomB ((List.length ((b_1 ++ [(IntKind.wrap .u8 (nth t14_2 t16_4 (0, 0, eB)).1)]) ++ [(IntKind.wrap .u8 (lenS (nth t14_2 t16_4 (0, 0, eB)).2.2))])) + (ByteArray.size (nth t14_2 t16_4 (0, 0, eB)).2.2)) 1) then
                  self (((b_1 ++ [(IntKind.wrap .u8 (nth t14_2 t16_4 (0, 0, eB)).1)]) ++ [(IntKind.wrap .u8 (lenS (nth t14_2 t16_4 (0, 0, eB)).2.2))]) ++ (toBytes (nth t14_2 t16_4 (0, 0, eB)).2.2)) t14_2 t15_3 (addI .i64 t16_4 1)
                else none
              else none
            else
              self (b_1 ++ [(IntKind.wrap .u8 (nth t14_2 t16_4 (0, 0, eB)).1)]) t14_2 t15_3 (addI .i64 t16_4 1)
        else none
    else none
  else
    some ((ofBytes b_1), 0)
def cell_Put.l0 : Nat → (List Int) → (List (Int × (Int × ByteArray))) → Int → Int → Option (ByteArray × Int)
  | 0 => fun _ _ _ _ => none
  | n + 1 => cell_Put.S0 (cell_Put.l0 n)

def cell_Put.S (j0 : (List Int) → (List (Int × (Int × ByteArray))) → Int → Int → Option (ByteArray × Int)) (r : (List (Int × (Int × ByteArray)))) : Option (ByteArray × Int) :=
  bif (ltI 255 (lenL r)) then
    some (eB, 1)
  else
    j0 [(IntKind.wrap .u8 (lenL r))] r (lenL r) 0
def cell_Put (r : (List (Int × (Int × ByteArray)))) : Option (ByteArray × Int) := cell_Put.S (cell_Put.l0 fu) r

/-! peristyle/bits.Zag -/
def bits_Zag (word : Int) : Int :=
  (IntKind.wrap .i64 (xorI .u64 (shrI .u64 (IntKind.wrap .u64 word) 1) (subI .u64 0 (andI .u64 (IntKind.wrap .u64 word) 1))))

/-! peristyle/bits.Width -/
def bits_Width.S0 (self : Int → Int → Int → Option (Int)) (w_1 : Int) (n_2 : Int) (step_3 : Int) : Option (Int) :=
  bif (ltI 0 step_3) then
    bif (leI 0 step_3) then
      bif (ltI 0 (shrI .u64 w_1 step_3)) then
        bif (leI 0 step_3) then
          self (shrI .u64 w_1 step_3) (addI .i64 n_2 step_3) (quoI .i64 step_3 2)
        else none
      else
        self w_1 n_2 (quoI .i64 step_3 2)
    else none
  else
    some (addI .i64 n_2 (IntKind.wrap .i64 w_1))
def bits_Width.l0 : Nat → Int → Int → Int → Option (Int)
  | 0 => fun _ _ _ => none
  | n + 1 => bits_Width.S0 (bits_Width.l0 n)

def bits_Width.S (j0 : Int → Int → Int → Option (Int)) (word : Int) : Option (Int) :=
  j0 (IntKind.wrap .u64 word) 0 32
def bits_Width (word : Int) : Option (Int) := bits_Width.S (bits_Width.l0 fu) word

/-! peristyle/vint.Len -/
def vint_Len (xn : Int) : Option (Int) :=
  ((bits_Width (bits_Zig xn))).bind fun r_2 =>
  some (maxI 1 (quoI .i64 (subI .i64 (addI .i64 r_2 7) 1) 7))

/-! peristyle/vint.Take -/
def vint_Take.S0 (self : ByteArray → Int → Int → Int → Option (Int × Int × Int)) (s_1 : ByteArray) (w_2 : Int) (t11_3 : Int) (t12_4 : Int) : Option (Int × Int × Int) :=
  bif (ltI t12_4 t11_3) then
    bif (inB t12_4 (lenS s_1)) then
      bif (leI 0 (mulI .i64 7 t12_4)) then
        bif (leI 128 (byteAt s_1 t12_4)) then
          self s_1 (orI .u64 w_2 (shlI .u64 (IntKind.wrap .u64 (anotI .u8 (byteAt s_1 t12_4) 128)) (mulI .i64 7 t12_4))) t11_3 (addI .i64 t12_4 1)
        else
          let r_5 := (bits_Zag (IntKind.wrap .i64 (orI .u64 w_2 (shlI .u64 (IntKind.wrap .u64 (anotI .u8 (byteAt s_1 t12_4) 128)) (mulI .i64 7 t12_4)))))
          ((vint_Len r_5)).bind fun r_6 =>
          bif (eqI r_6 (addI .i64 t12_4 1)) then
            bif (ltI t12_4 9) then
              some (r_5, (addI .i64 t12_4 1), 0)
            else
              bif (eqI (byteAt s_1 t12_4) 1) then
                some (r_5, (addI .i64 t12_4 1), 0)
              else
                some (0, 0, 20)
          else
            some (0, 0, 20)
      else none
    else none
  else
    some (0, 0, 20)
def vint_Take.l0 : Nat → ByteArray → Int → Int → Int → Option (Int × Int × Int)
  | 0 => fun _ _ _ _ => none
  | n + 1 => vint_Take.S0 (vint_Take.l0 n)

def vint_Take.S (j0 : ByteArray → Int → Int → Int → Option (Int × Int × Int)) (s : ByteArray) : Option (Int × Int × Int) :=
  j0 s 0 (minI (lenS s) 10) 0
def vint_Take (s : ByteArray) : Option (Int × Int × Int) := vint_Take.S (vint_Take.l0 fu) s

/-! peristyle/cell.one -/
def cell_one (s : ByteArray) : Option ((Int × (Int × ByteArray)) × Int) :=
  bif (eqS s eB) then
    some ((0, 0, eB), 0)
  else
    bif (inB 0 (lenS s)) then
      bif (inC 1 (lenS s) (lenS s)) then
        bif (eqI (IntKind.wrap .i64 (byteAt s 0)) 0) then
          some ((0, 0, eB), 1)
        else
          bif (eqI (IntKind.wrap .i64 (byteAt s 0)) 1) then
            ((vint_Take (cutS s 1 (lenS s)))).bind fun r_1 =>
            bif (eqI r_1.2.2 0) then
              some (((IntKind.wrap .i64 (byteAt s 0)), r_1.1, eB), (addI .i64 1 r_1.2.1))
            else
              some ((0, 0, eB), 0)
          else
            bif (eqI (IntKind.wrap .i64 (byteAt s 0)) 2) then
              bif (eqS (cutS s 1 (lenS s)) eB) then
                some ((0, 0, eB), 0)
              else
                bif (inB 0 (lenS (cutS s 1 (lenS s)))) then
                  bif (leI (IntKind.wrap .i64 (byteAt (cutS s 1 (lenS s)) 0)) 32) then
                    bif (ltI (IntKind.wrap .i64 (byteAt (cutS s 1 (lenS s)) 0)) (lenS (cutS s 1 (lenS s)))) then
                      bif (inC 1 (addI .i64 1 (IntKind.wrap .i64 (byteAt (cutS s 1 (lenS s)) 0))) (lenS (cutS s 1 (lenS s)))) then
                        some (((IntKind.wrap .i64 (byteAt s 0)), 0, (cutS (cutS s 1 (lenS s)) 1 (addI .i64 1 (IntKind.wrap .i64 (byteAt (cutS s 1 (lenS s)) 0))))), (addI .i64 2 (IntKind.wrap .i64 (byteAt (cutS s 1 (lenS s)) 0))))
                      else none
                    else
                      some ((0, 0, eB), 0)
                  else
                    some ((0, 0, eB), 0)
                else none
            else
              some ((0, 0, eB), 0)
      else none
    else none

/-! peristyle/cell.Take -/
def cell_Take.S0 (self : ByteArray → (List (Int × (Int × ByteArray))) → Int → Int → Int → Option ((List (Int × (Int × ByteArray))) × Int × Int)) (s_1 : ByteArray) (out_2 : (List (Int × (Int × ByteArray)))) (k_3 : Int) (t13_4 : Int) (t14_5 : Int) : Option ((List (Int × (Int × ByteArray))) × Int × Int) :=
  bif (ltI t14_5 t13_4) then
    bif (inC k_3 (lenS s_1) (lenS s_1)) then
      ((cell_one (cutS s_1 k_3 (lenS s_1)))).bind fun r_6 =>
      bif (eqI r_6.2 0) then
        some ([], 0, 20)
      else
        bif (roomB ((List.length out_2) + 1) 32) then
          self s_1 (out_2 ++ [r_6.1]) (addI .i64 k_3 r_6.2) t13_4 (addI .i64 t14_5 1)
        else none
    else none
  else
    some (out_2, k_3, 0)
def cell_Take.l0 : Nat → ByteArray → (List (Int × (Int × ByteArray))) → Int → Int → Int → Option ((List (Int × (Int × ByteArray))) × Int × Int)
  | 0 => fun _ _ _ _ _ => none
  | n + 1 => cell_Take.S0 (cell_Take.l0 n)

def cell_Take.S (j0 : ByteArray → (List (Int × (Int × ByteArray))) → Int → Int → Int → Option ((List (Int × (Int × ByteArray))) × Int × Int)) (s : ByteArray) : Option ((List (Int × (Int × ByteArray))) × Int × Int) :=
  bif (eqS s eB) then
    some ([], 0, 20)
  else
    bif (inB 0 (lenS s)) then
      j0 s [] 1 (IntKind.wrap .i64 (byteAt s 0)) 0
    else none
def cell_Take (s : ByteArray) : Option ((List (Int × (Int × ByteArray))) × Int × Int) := cell_Take.S (cell_Take.l0 fu) s

/-! internal/stringslite.HasPrefix -/
def istringslite_HasPrefix (s : ByteArray) (xprefix : ByteArray) : Option (Bool) :=
  bif (leI (lenS xprefix) (lenS s)) then
    bif (inC 0 (lenS xprefix) (lenS s)) then
      some (eqS (cutS s 0 (lenS xprefix)) xprefix)
    else none
  else
    some false

/-! internal/stringslite.CutPrefix -/
def istringslite_CutPrefix (s : ByteArray) (xprefix : ByteArray) : Option (ByteArray × Bool) :=
  ((istringslite_HasPrefix s xprefix)).bind fun r_1 =>
  bif (!r_1) then
    some (s, false)
  else
    bif (inC (lenS xprefix) (lenS s) (lenS s)) then
      some ((cutS s (lenS xprefix) (lenS s)), true)
    else none

/-! strings.CutPrefix -/
def strings_CutPrefix (s : ByteArray) (xprefix : ByteArray) : Option (ByteArray × Bool) :=
  ((istringslite_CutPrefix s xprefix)).bind fun r_1 =>
  some r_1

/-! internal/stringslite.HasSuffix -/
def istringslite_HasSuffix (s : ByteArray) (suffix : ByteArray) : Option (Bool) :=
  bif (leI (lenS suffix) (lenS s)) then
    bif (inC (subI .i64 (lenS s) (lenS suffix)) (lenS s) (lenS s)) then
      some (eqS (cutS s (subI .i64 (lenS s) (lenS suffix)) (lenS s)) suffix)
    else none
  else
    some false

/-! internal/stringslite.CutSuffix -/
def istringslite_CutSuffix (s : ByteArray) (suffix : ByteArray) : Option (ByteArray × Bool) :=
  ((istringslite_HasSuffix s suffix)).bind fun r_1 =>
  bif (!r_1) then
    some (s, false)
  else
    bif (inC 0 (subI .i64 (lenS s) (lenS suffix)) (lenS s)) then
      some ((cutS s 0 (subI .i64 (lenS s) (lenS suffix))), true)
    else none

/-! strings.CutSuffix -/
def strings_CutSuffix (s : ByteArray) (suffix : ByteArray) : Option (ByteArray × Bool) :=
  ((istringslite_CutSuffix s suffix)).bind fun r_1 =>
  some r_1

/-! peristyle/cell.Show -/
def cell_Show (c : (Int × (Int × ByteArray))) : Option (ByteArray) :=
  bif (eqI c.1 0) then
    some (bs [110, 117, 108, 108])
  else
    bif (eqI c.1 1) then
      ((itoaS c.2.1)).bind fun r_1 =>
      some r_1
    else
      bif (eqI c.1 2) then
        ((replS c.2.2 (bs [39]) (bs [39, 39]))).bind fun r_2 =>
        bif (roomS (bs [39]) r_2) then
          bif (roomS (addS (bs [39]) r_2) (bs [39])) then
            some (addS (addS (bs [39]) r_2) (bs [39]))
          else none
        else none
      else
        some (bs [63])

/-! peristyle/cell.Read -/
def cell_Read.S0 (s_4 : ByteArray) (t2_5 : (Int × (Int × ByteArray))) (c_6 : (Int × (Int × ByteArray))) : Option ((Int × (Int × ByteArray)) × Int) :=
  bif (neI (cell_Check c_6) 0) then
    some ((0, 0, eB), 20)
  else
    ((cell_Show c_6)).bind fun r_8 =>
    bif (!(eqS r_8 s_4)) then
      some ((0, 0, eB), 20)
    else
      some (c_6, 0)
def cell_Read.t0 : Nat → ByteArray → (Int × (Int × ByteArray)) → (Int × (Int × ByteArray)) → Option ((Int × (Int × ByteArray)) × Int)
  | 0 => fun _ _ _ => none
  | _ + 1 => cell_Read.S0

def cell_Read.S (j0 : ByteArray → (Int × (Int × ByteArray)) → (Int × (Int × ByteArray)) → Option ((Int × (Int × ByteArray)) × Int)) (s : ByteArray) : Option ((Int × (Int × ByteArray)) × Int) :=
  bif (!(eqS s (bs [110, 117, 108, 108]))) then
    ((strings_CutPrefix s (bs [39]))).bind fun r_1 =>
    ((strings_CutSuffix r_1.1 (bs [39]))).bind fun r_2 =>
    bif r_1.2 then
      bif r_2.2 then
        ((replS r_2.1 (bs [39, 39]) (bs [39]))).bind fun r_3 =>
        j0 s (0, 0, eB) (2, 0, r_3)
      else
        ((atoiS s)).bind fun r_9 =>
        bif (!r_9.2) then
          some ((0, 0, eB), 20)
        else
          j0 s (0, 0, eB) (1, r_9.1, eB)
    else
      ((atoiS s)).bind fun r_10 =>
      bif (!r_10.2) then
        some ((0, 0, eB), 20)
      else
        j0 s (0, 0, eB) (1, r_10.1, eB)
  else
    j0 s (0, 0, eB) (0, 0, eB)
def cell_Read (s : ByteArray) : Option ((Int × (Int × ByteArray)) × Int) := cell_Read.S (cell_Read.t0 fu) s

/-! peristyle/peristyleref06.Same -/
def ref06_Same.S0 (self : (List (Int × (Int × ByteArray))) → (List (Int × (Int × ByteArray))) → Int → Option (Bool)) (a_1 : (List (Int × (Int × ByteArray)))) (b_2 : (List (Int × (Int × ByteArray)))) (i_3 : Int) : Option (Bool) :=
  bif (ltI i_3 (lenL a_1)) then
    bif (inB i_3 (lenL a_1)) then
      bif (inB i_3 (lenL b_2)) then
        bif (!((eqI (nth a_1 i_3 (0, 0, eB)).1 (nth b_2 i_3 (0, 0, eB)).1) && ((eqI (nth a_1 i_3 (0, 0, eB)).2.1 (nth b_2 i_3 (0, 0, eB)).2.1) && (eqS (nth a_1 i_3 (0, 0, eB)).2.2 (nth b_2 i_3 (0, 0, eB)).2.2)))) then
          some false
        else
          self a_1 b_2 (addI .i64 i_3 1)
      else none
    else none
  else
    some true
def ref06_Same.l0 : Nat → (List (Int × (Int × ByteArray))) → (List (Int × (Int × ByteArray))) → Int → Option (Bool)
  | 0 => fun _ _ _ => none
  | n + 1 => ref06_Same.S0 (ref06_Same.l0 n)

def ref06_Same.S (j0 : (List (Int × (Int × ByteArray))) → (List (Int × (Int × ByteArray))) → Int → Option (Bool)) (a : (List (Int × (Int × ByteArray)))) (b : (List (Int × (Int × ByteArray)))) : Option (Bool) :=
  bif (neI (lenL a) (lenL b)) then
    some false
  else
    j0 a b 0
def ref06_Same (a : (List (Int × (Int × ByteArray)))) (b : (List (Int × (Int × ByteArray)))) : Option (Bool) := ref06_Same.S (ref06_Same.l0 fu) a b

/-! peristyle/peristylelaw06.awake -/
def law06_awake : Option (Bool) :=
  ((cell_Put [(1, (-5), eB), (2, 0, (bs [105, 116, 39, 115])), (0, 0, eB)])).bind fun r_1 =>
  ((cell_Take r_1.1)).bind fun r_2 =>
  ((cell_Read (bs [39, 105, 116, 39, 39, 115, 39]))).bind fun r_3 =>
  bif (eqI r_1.2 0) then
    bif (eqI r_2.2.2 0) then
      bif (eqI r_2.2.1 (lenS r_1.1)) then
        ((ref06_Same r_2.1 [(1, (-5), eB), (2, 0, (bs [105, 116, 39, 115])), (0, 0, eB)])).bind fun r_4 =>
        bif r_4 then
          ((cell_Compare (1, (-5), eB) (2, 0, (bs [105, 116, 39, 115])))).bind fun r_5 =>
          bif (eqI r_5 (-1)) then
            ((cell_Compare (0, 0, eB) (1, (-5), eB))).bind fun r_6 =>
            bif (eqI r_6 (-1)) then
              ((cell_Show (1, (-5), eB))).bind fun r_7 =>
              bif (eqS r_7 (bs [45, 53])) then
                bif ((eqI r_3.1.1 2) && ((eqI r_3.1.2.1 0) && (eqS r_3.1.2.2 (bs [105, 116, 39, 115])))) then
                  bif (eqI r_3.2 0) then
                    some (eqI (cell_Check (0, 1, eB)) 1)
                  else
                    some false
                else
                  some false
              else
                some false
            else
              some false
          else
            some false
        else
          some false
      else
        some false
    else
      some false
  else
    some false

/-! peristyle/peristylelaw06.CellTotal -/
def law06_CellTotal (a : (Int × (Int × ByteArray))) (b : (Int × (Int × ByteArray))) (c : (Int × (Int × ByteArray))) : Option (Bool) :=
  bif (ltI 256 (lenS a.2.2)) then
    (law06_awake).bind fun r_1 =>
    some r_1
  else
    bif (ltI 256 (lenS b.2.2)) then
      (law06_awake).bind fun r_2 =>
      some r_2
    else
      bif (ltI 256 (lenS c.2.2)) then
        (law06_awake).bind fun r_3 =>
        some r_3
      else
        ((cell_Compare a b)).bind fun r_4 =>
        ((cell_Compare b a)).bind fun r_5 =>
        ((cell_Compare b c)).bind fun r_6 =>
        ((cell_Compare a c)).bind fun r_7 =>
        bif (neI r_4 (subI .i64 0 r_5)) then
          some false
        else
          bif (!(eqB (eqI r_4 0) ((eqI a.1 b.1) && ((eqI a.2.1 b.2.1) && (eqS a.2.2 b.2.2))))) then
            some false
          else
            bif (ltI r_4 (-1)) then
              some false
            else
              bif (ltI 1 r_4) then
                some false
              else
                bif (ltI 0 r_4) then
                  bif (ltI r_4 0) then
                    (law06_awake).bind fun r_8 =>
                    some r_8
                  else
                    bif (ltI r_6 0) then
                      (law06_awake).bind fun r_9 =>
                      some r_9
                    else
                      bif (leI 0 r_7) then
                        (law06_awake).bind fun r_10 =>
                        some r_10
                      else
                        some false
                else
                  bif (ltI 0 r_6) then
                    bif (ltI r_4 0) then
                      (law06_awake).bind fun r_11 =>
                      some r_11
                    else
                      bif (ltI r_6 0) then
                        (law06_awake).bind fun r_12 =>
                        some r_12
                      else
                        bif (leI 0 r_7) then
                          (law06_awake).bind fun r_13 =>
                          some r_13
                        else
                          some false
                  else
                    bif (leI r_7 0) then
                      bif (ltI r_4 0) then
                        (law06_awake).bind fun r_14 =>
                        some r_14
                      else
                        bif (ltI r_6 0) then
                          (law06_awake).bind fun r_15 =>
                          some r_15
                        else
                          bif (leI 0 r_7) then
                            (law06_awake).bind fun r_16 =>
                            some r_16
                          else
                            some false
                    else
                      some false

/-! peristyle/peristyleref06.Light -/
def ref06_Light.S0 (self : (List (Int × (Int × ByteArray))) → Int → Option (Bool)) (r_1 : (List (Int × (Int × ByteArray)))) (i_2 : Int) : Option (Bool) :=
  bif (ltI i_2 (lenL r_1)) then
    bif (ltI i_2 20) then
      bif (inB i_2 (lenL r_1)) then
        bif (ltI 100 (lenS (nth r_1 i_2 (0, 0, eB)).2.2)) then
          some false
        else
          self r_1 (addI .i64 i_2 1)
      else none
    else
      some (leI (lenL r_1) 20)
  else
    some (leI (lenL r_1) 20)
def ref06_Light.l0 : Nat → (List (Int × (Int × ByteArray))) → Int → Option (Bool)
  | 0 => fun _ _ => none
  | n + 1 => ref06_Light.S0 (ref06_Light.l0 n)

def ref06_Light.S (j0 : (List (Int × (Int × ByteArray))) → Int → Option (Bool)) (r : (List (Int × (Int × ByteArray)))) : Option (Bool) :=
  j0 r 0
def ref06_Light (r : (List (Int × (Int × ByteArray)))) : Option (Bool) := ref06_Light.S (ref06_Light.l0 fu) r

/-! peristyle/peristyleref01.Of -/
def ref01_Of.S0 (self : Int → Int → (List Bool) → (List Bool) → Option ((List Bool))) (word_1 : Int) (k_2 : Int) (t2_3 : (List Bool)) (out_4 : (List Bool)) : Option ((List Bool)) :=
  bif (ltI k_2 64) then
    bif (leI 0 k_2) then
      bif ((inB k_2 64) && (decide (64 = (List.length out_4)))) then
        self word_1 (addI .i64 k_2 1) t2_3 (List.set out_4 (Int.toNat k_2) (eqI (andI .i64 (shrI .i64 word_1 k_2) 1) 1))
      else none
    else none
  else
    bif (decide ((List.length out_4) = 64)) then
      bif (decide ((List.length t2_3) = 64)) then
        bif (decide ((List.length out_4) = 64)) then
          some out_4
        else none
      else none
    else none
def ref01_Of.l0 : Nat → Int → Int → (List Bool) → (List Bool) → Option ((List Bool))
  | 0 => fun _ _ _ _ => none
  | n + 1 => ref01_Of.S0 (ref01_Of.l0 n)

def ref01_Of.S (j0 : Int → Int → (List Bool) → (List Bool) → Option ((List Bool))) (word : Int) : Option ((List Bool)) :=
  j0 word 0 (List.replicate 64 false) (List.replicate 64 false)
def ref01_Of (word : Int) : Option ((List Bool)) := ref01_Of.S (ref01_Of.l0 fu) word

/-! peristyle/peristyleref01.Word -/
def ref01_Word.S0 (self : Int → Int → (List Bool) → Option (Int)) (n_1 : Int) (k_2 : Int) (b_3 : (List Bool)) : Option (Int) :=
  bif (ltI k_2 64) then
    bif ((inB k_2 64) && (decide (64 = (List.length b_3)))) then
      bif (List.getD b_3 (Int.toNat k_2) false) then
        bif (leI 0 k_2) then
          self (orI .i64 n_1 (shlI .i64 1 k_2)) (addI .i64 k_2 1) b_3
        else none
      else
        self n_1 (addI .i64 k_2 1) b_3
    else none
  else
    some n_1
def ref01_Word.l0 : Nat → Int → Int → (List Bool) → Option (Int)
  | 0 => fun _ _ _ => none
  | n + 1 => ref01_Word.S0 (ref01_Word.l0 n)

def ref01_Word.S (j0 : Int → Int → (List Bool) → Option (Int)) (b : (List Bool)) : Option (Int) :=
  j0 0 0 b
def ref01_Word (b : (List Bool)) : Option (Int) := ref01_Word.S (ref01_Word.l0 fu) b

/-! peristyle/peristyleref01.Zig -/
def ref01_Zig.S0 (self : Int → (List Bool) → (List Bool) → Option (Int)) (k_2 : Int) (b_3 : (List Bool)) (out_4 : (List Bool)) : Option (Int) :=
  bif (ltI k_2 64) then
    bif ((inB (subI .i64 k_2 1) 64) && (decide (64 = (List.length b_3)))) then
      bif (decide (64 = (List.length b_3))) then
        bif ((inB k_2 64) && (decide (64 = (List.length out_4)))) then
          self (addI .i64 k_2 1) b_3 (List.set out_4 (Int.toNat k_2) (!(eqB (List.getD b_3 (Int.toNat (subI .i64 k_2 1)) false) (List.getD b_3 63 false))))
        else none
      else none
    else none
  else
    bif (decide ((List.length out_4) = 64)) then
      ((ref01_Word out_4)).bind fun r_5 =>
      some r_5
    else none
def ref01_Zig.l0 : Nat → Int → (List Bool) → (List Bool) → Option (Int)
  | 0 => fun _ _ _ => none
  | n + 1 => ref01_Zig.S0 (ref01_Zig.l0 n)

def ref01_Zig.S (j0 : Int → (List Bool) → (List Bool) → Option (Int)) (xn : Int) : Option (Int) :=
  ((ref01_Of xn)).bind fun r_1 =>
  bif (decide (64 = (List.length r_1))) then
    j0 1 r_1 (List.set (List.replicate 64 false) 0 (List.getD r_1 63 false))
  else none
def ref01_Zig (xn : Int) : Option (Int) := ref01_Zig.S (ref01_Zig.l0 fu) xn

/-! peristyle/peristyleref01.Field -/
def ref01_Field.S0 (self : Int → Int → Int → (List Bool) → (List Bool) → Option (Int)) (at_2 : Int) (w_3 : Int) (k_4 : Int) (b_5 : (List Bool)) (out_6 : (List Bool)) : Option (Int) :=
  bif (ltI k_4 64) then
    bif (ltI k_4 w_3) then
      bif (leI 0 at_2) then
        bif (ltI at_2 64) then
          bif (ltI k_4 (subI .i64 64 at_2)) then
            bif ((inB (addI .i64 at_2 k_4) 64) && (decide (64 = (List.length b_5)))) then
              bif ((inB k_4 64) && (decide (64 = (List.length out_6)))) then
                self at_2 w_3 (addI .i64 k_4 1) b_5 (List.set out_6 (Int.toNat k_4) (List.getD b_5 (Int.toNat (addI .i64 at_2 k_4)) false))
              else none
            else none
          else
            bif (decide ((List.length out_6) = 64)) then
              ((ref01_Word out_6)).bind fun r_7 =>
              some r_7
            else none
        else
          bif (decide ((List.length out_6) = 64)) then
            ((ref01_Word out_6)).bind fun r_8 =>
            some r_8
          else none
      else
        bif (decide ((List.length out_6) = 64)) then
          ((ref01_Word out_6)).bind fun r_9 =>
          some r_9
        else none
    else
      bif (decide ((List.length out_6) = 64)) then
        ((ref01_Word out_6)).bind fun r_10 =>
        some r_10
      else none
  else
    bif (decide ((List.length out_6) = 64)) then
      ((ref01_Word out_6)).bind fun r_11 =>
      some r_11
    else none
def ref01_Field.l0 : Nat → Int → Int → Int → (List Bool) → (List Bool) → Option (Int)
  | 0 => fun _ _ _ _ _ => none
  | n + 1 => ref01_Field.S0 (ref01_Field.l0 n)

def ref01_Field.S (j0 : Int → Int → Int → (List Bool) → (List Bool) → Option (Int)) (word : Int) (xat : Int) (w : Int) : Option (Int) :=
  ((ref01_Of word)).bind fun r_1 =>
  j0 xat w 0 r_1 (List.replicate 64 false)
def ref01_Field (word : Int) (xat : Int) (w : Int) : Option (Int) := ref01_Field.S (ref01_Field.l0 fu) word xat w

/-! peristyle/peristyleref02.Put -/
def ref02_Put.S0 (self : Int → (List Int) → Option (ByteArray)) (w_2 : Int) (out_3 : (List Int)) : Option (ByteArray) :=
  ((ref01_Field w_2 0 7)).bind fun r_4 =>
  ((ref01_Field w_2 7 64)).bind fun r_5 =>
  bif (eqI r_5 0) then
    bif (roomB ((List.length out_3) + 1) 1) then
      some (ofBytes (out_3 ++ [(IntKind.wrap .u8 r_4)]))
    else none
  else
    bif (roomB ((List.length out_3) + 1) 1) then
      self r_5 (out_3 ++ [(IntKind.wrap .u8 (addI .i64 128 r_4))])
    else none
def ref02_Put.l0 : Nat → Int → (List Int) → Option (ByteArray)
  | 0 => fun _ _ => none
  | n + 1 => ref02_Put.S0 (ref02_Put.l0 n)

def ref02_Put.S (j0 : Int → (List Int) → Option (ByteArray)) (xn : Int) : Option (ByteArray) :=
  ((ref01_Zig xn)).bind fun r_1 =>
  j0 r_1 []
def ref02_Put (xn : Int) : Option (ByteArray) := ref02_Put.S (ref02_Put.l0 fu) xn

/-! peristyle/peristyleref06.bytes -/
def ref06_bytes (c : (Int × (Int × ByteArray))) : Option (ByteArray) :=
  bif (eqI c.1 1) then
    ((ref02_Put c.2.1)).bind fun r_1 =>
    bif (roomS (ofBytes [(IntKind.wrap .u8 c.1)]) r_1) then
      some (addS (ofBytes [(IntKind.wrap .u8 c.1)]) r_1)
    else none
  else
    bif (eqI c.1 2) then
      bif (roomS (ofBytes [(IntKind.wrap .u8 c.1)]) (ofBytes [(IntKind.wrap .u8 (lenS c.2.2))])) then
        bif (roomS (addS (ofBytes [(IntKind.wrap .u8 c.1)]) (ofBytes [(IntKind.wrap .u8 (lenS c.2.2))])) c.2.2) then
          some (addS (addS (ofBytes [(IntKind.wrap .u8 c.1)]) (ofBytes [(IntKind.wrap .u8 (lenS c.2.2))])) c.2.2)
        else none
      else none
    else
      some (ofBytes [(IntKind.wrap .u8 c.1)])

/-! peristyle/peristyleref06.Put -/
def ref06_Put.S0 (self : (List (Int × (Int × ByteArray))) → ByteArray → Int → Option (ByteArray × Int)) (r_1 : (List (Int × (Int × ByteArray)))) (s_2 : ByteArray) (i_3 : Int) : Option (ByteArray × Int) :=
  bif (ltI i_3 (lenL r_1)) then
    bif (inB i_3 (lenL r_1)) then
      bif (!(ref06_May (nth r_1 i_3 (0, 0, eB)))) then
        some (eB, 1)
      else
        bif (inB i_3 (lenL r_1)) then
          ((ref06_bytes (nth r_1 i_3 (0, 0, eB)))).bind fun r_5 =>
          bif (roomS s_2 r_5) then
            self r_1 (addS s_2 r_5) (addI .i64 i_3 1)
          else none
        else none
    else none
  else
    some (s_2, 0)
def ref06_Put.l0 : Nat → (List (Int × (Int × ByteArray))) → ByteArray → Int → Option (ByteArray × Int)
  | 0 => fun _ _ _ => none
  | n + 1 => ref06_Put.S0 (ref06_Put.l0 n)

def ref06_Put.S (j0 : (List (Int × (Int × ByteArray))) → ByteArray → Int → Option (ByteArray × Int)) (r : (List (Int × (Int × ByteArray)))) : Option (ByteArray × Int) :=
  bif (ltI 255 (lenL r)) then
    some (eB, 1)
  else
    j0 r (ofBytes [(IntKind.wrap .u8 (lenL r))]) 0
def ref06_Put (r : (List (Int × (Int × ByteArray)))) : Option (ByteArray × Int) := ref06_Put.S (ref06_Put.l0 fu) r

/-! peristyle/peristyleref01.With -/
def ref01_With.S0 (self : Int → Int → Int → (List Bool) → (List Bool) → Option (Int)) (at_3 : Int) (w_4 : Int) (k_5 : Int) (b_6 : (List Bool)) (c_7 : (List Bool)) : Option (Int) :=
  bif (ltI k_5 64) then
    bif (ltI k_5 w_4) then
      bif (leI 0 at_3) then
        bif (ltI at_3 64) then
          bif (ltI k_5 (subI .i64 64 at_3)) then
            bif ((inB k_5 64) && (decide (64 = (List.length c_7)))) then
              bif ((inB (addI .i64 at_3 k_5) 64) && (decide (64 = (List.length b_6)))) then
                self at_3 w_4 (addI .i64 k_5 1) (List.set b_6 (Int.toNat (addI .i64 at_3 k_5)) (List.getD c_7 (Int.toNat k_5) false)) c_7
              else none
            else none
          else
            bif (decide ((List.length b_6) = 64)) then
              ((ref01_Word b_6)).bind fun r_8 =>
              some r_8
            else none
        else
          bif (decide ((List.length b_6) = 64)) then
            ((ref01_Word b_6)).bind fun r_9 =>
            some r_9
          else none
      else
        bif (decide ((List.length b_6) = 64)) then
          ((ref01_Word b_6)).bind fun r_10 =>
          some r_10
        else none
    else
      bif (decide ((List.length b_6) = 64)) then
        ((ref01_Word b_6)).bind fun r_11 =>
        some r_11
      else none
  else
    bif (decide ((List.length b_6) = 64)) then
      ((ref01_Word b_6)).bind fun r_12 =>
      some r_12
    else none
def ref01_With.l0 : Nat → Int → Int → Int → (List Bool) → (List Bool) → Option (Int)
  | 0 => fun _ _ _ _ _ => none
  | n + 1 => ref01_With.S0 (ref01_With.l0 n)

def ref01_With.S (j0 : Int → Int → Int → (List Bool) → (List Bool) → Option (Int)) (word : Int) (xat : Int) (w : Int) (v : Int) : Option (Int) :=
  ((ref01_Of word)).bind fun r_1 =>
  ((ref01_Of v)).bind fun r_2 =>
  j0 xat w 0 r_1 r_2
def ref01_With (word : Int) (xat : Int) (w : Int) (v : Int) : Option (Int) := ref01_With.S (ref01_With.l0 fu) word xat w v

/-! peristyle/peristyleref01.Zag -/
def ref01_Zag.S1 (b_5 : (List Bool)) (out_6 : (List Bool)) : Option (Int) :=
  bif (decide (64 = (List.length b_5))) then
    bif (decide (64 = (List.length out_6))) then
      bif (decide ((List.length (List.set out_6 63 (List.getD b_5 0 false))) = 64)) then
        ((ref01_Word (List.set out_6 63 (List.getD b_5 0 false)))).bind fun r_7 =>
        some r_7
      else none
    else none
  else none
def ref01_Zag.t1 : Nat → (List Bool) → (List Bool) → Option (Int)
  | 0 => fun _ _ => none
  | _ + 1 => ref01_Zag.S1

def ref01_Zag.S0 (o1_0 : (List Bool) → (List Bool) → Option (Int)) (self : Int → (List Bool) → (List Bool) → Option (Int)) (k_2 : Int) (b_3 : (List Bool)) (out_4 : (List Bool)) : Option (Int) :=
  bif (ltI k_2 63) then
    bif ((inB (addI .i64 k_2 1) 64) && (decide (64 = (List.length b_3)))) then
      bif (decide (64 = (List.length b_3))) then
        bif ((inB k_2 64) && (decide (64 = (List.length out_4)))) then
          self (addI .i64 k_2 1) b_3 (List.set out_4 (Int.toNat k_2) (!(eqB (List.getD b_3 (Int.toNat (addI .i64 k_2 1)) false) (List.getD b_3 0 false))))
        else none
      else none
    else none
  else
    o1_0 b_3 out_4
def ref01_Zag.l0 (o1_0 : (List Bool) → (List Bool) → Option (Int)) : Nat → Int → (List Bool) → (List Bool) → Option (Int)
  | 0 => fun _ _ _ => none
  | n + 1 => ref01_Zag.S0 o1_0 (ref01_Zag.l0 o1_0 n)

def ref01_Zag.S (j0 : Int → (List Bool) → (List Bool) → Option (Int)) (word : Int) : Option (Int) :=
  ((ref01_Of word)).bind fun r_1 =>
  j0 0 r_1 (List.replicate 64 false)
def ref01_Zag (word : Int) : Option (Int) := ref01_Zag.S (ref01_Zag.l0 (ref01_Zag.t1 fu) fu) word

/-! peristyle/peristyleref02.Take -/
def ref02_Take.S0 (self : ByteArray → Int → Int → Option (Int × Int × Int)) (s_1 : ByteArray) (w_2 : Int) (i_3 : Int) : Option (Int × Int × Int) :=
  bif (ltI i_3 (lenS s_1)) then
    bif (ltI i_3 10) then
      bif (inB i_3 (lenS s_1)) then
        ((ref01_With w_2 (mulI .i64 7 i_3) 7 (IntKind.wrap .i64 (andI .u8 (byteAt s_1 i_3) 127)))).bind fun r_4 =>
        bif (inB i_3 (lenS s_1)) then
          bif (ltI (byteAt s_1 i_3) 128) then
            ((ref01_Zag r_4)).bind fun r_5 =>
            ((ref02_Put r_5)).bind fun r_6 =>
            bif (inC 0 (addI .i64 i_3 1) (lenS s_1)) then
              bif (!(eqS r_6 (cutS s_1 0 (addI .i64 i_3 1)))) then
                some (0, 0, 20)
              else
                some (r_5, (addI .i64 i_3 1), 0)
            else none
          else
            self s_1 r_4 (addI .i64 i_3 1)
        else none
      else none
    else
      some (0, 0, 20)
  else
    some (0, 0, 20)
def ref02_Take.l0 : Nat → ByteArray → Int → Int → Option (Int × Int × Int)
  | 0 => fun _ _ _ => none
  | n + 1 => ref02_Take.S0 (ref02_Take.l0 n)

def ref02_Take.S (j0 : ByteArray → Int → Int → Option (Int × Int × Int)) (s : ByteArray) : Option (Int × Int × Int) :=
  j0 s 0 0
def ref02_Take (s : ByteArray) : Option (Int × Int × Int) := ref02_Take.S (ref02_Take.l0 fu) s

/-! peristyle/peristyleref06.one -/
def ref06_one (s : ByteArray) : Option ((Int × (Int × ByteArray)) × Int) :=
  bif (eqS s eB) then
    some ((0, 0, eB), 0)
  else
    bif (inB 0 (lenS s)) then
      bif (eqI (IntKind.wrap .i64 (byteAt s 0)) 0) then
        some (((IntKind.wrap .i64 (byteAt s 0)), 0, eB), 1)
      else
        bif (eqI (IntKind.wrap .i64 (byteAt s 0)) 1) then
          bif (inC 1 (lenS s) (lenS s)) then
            ((ref02_Take (cutS s 1 (lenS s)))).bind fun r_1 =>
            bif (neI r_1.2.2 0) then
              some ((0, 0, eB), 0)
            else
              some (((IntKind.wrap .i64 (byteAt s 0)), r_1.1, eB), (addI .i64 1 r_1.2.1))
          else none
        else
          bif (eqI (IntKind.wrap .i64 (byteAt s 0)) 2) then
            bif (ltI (lenS s) 2) then
              some ((0, 0, eB), 0)
            else
              bif (inB 1 (lenS s)) then
                bif (ltI 32 (byteAt s 1)) then
                  some ((0, 0, eB), 0)
                else
                  bif (inB 1 (lenS s)) then
                    bif (ltI (subI .i64 (lenS s) 2) (IntKind.wrap .i64 (byteAt s 1))) then
                      some ((0, 0, eB), 0)
                    else
                      bif (inB 1 (lenS s)) then
                        bif (inC 2 (addI .i64 2 (IntKind.wrap .i64 (byteAt s 1))) (lenS s)) then
                          bif (inB 1 (lenS s)) then
                            some (((IntKind.wrap .i64 (byteAt s 0)), 0, (cutS s 2 (addI .i64 2 (IntKind.wrap .i64 (byteAt s 1))))), (addI .i64 2 (IntKind.wrap .i64 (byteAt s 1))))
                          else none
                        else none
                      else none
                  else none
              else none
          else
            some ((0, 0, eB), 0)
    else none

/-! peristyle/peristyleref06.Take -/
def ref06_Take.S0 (self : ByteArray → Int → (List (Int × (Int × ByteArray))) → Int → Option ((List (Int × (Int × ByteArray))) × Int × Int)) (s_1 : ByteArray) (at_2 : Int) (out_3 : (List (Int × (Int × ByteArray)))) (i_4 : Int) : Option ((List (Int × (Int × ByteArray))) × Int × Int) :=
  bif (inB 0 (lenS s_1)) then
    bif (ltI i_4 (IntKind.wrap .i64 (byteAt s_1 0))) then
      bif (inC at_2 (lenS s_1) (lenS s_1)) then
        ((ref06_one (cutS s_1 at_2 (lenS s_1)))).bind fun r_5 =>
        bif (eqI r_5.2 0) then
          some ([], 0, 20)
        else
          bif (roomB ((List.length out_3) + 1) 32) then
            self s_1 (addI .i64 at_2 r_5.2) (out_3 ++ [r_5.1]) (addI .i64 i_4 1)
          else none
      else none
    else
      some (out_3, at_2, 0)
  else none
def ref06_Take.l0 : Nat → ByteArray → Int → (List (Int × (Int × ByteArray))) → Int → Option ((List (Int × (Int × ByteArray))) × Int × Int)
  | 0 => fun _ _ _ _ => none
  | n + 1 => ref06_Take.S0 (ref06_Take.l0 n)

def ref06_Take.S (j0 : ByteArray → Int → (List (Int × (Int × ByteArray))) → Int → Option ((List (Int × (Int × ByteArray))) × Int × Int)) (s : ByteArray) : Option ((List (Int × (Int × ByteArray))) × Int × Int) :=
  bif (eqS s eB) then
    some ([], 0, 20)
  else
    j0 s 1 [] 0
def ref06_Take (s : ByteArray) : Option ((List (Int × (Int × ByteArray))) × Int × Int) := ref06_Take.S (ref06_Take.l0 fu) s

/-! peristyle/peristylelaw06.CellBytes -/
def law06_CellBytes (r : (List (Int × (Int × ByteArray)))) (s : ByteArray) : Option (Bool) :=
  ((ref06_Light r)).bind fun r_1 =>
  bif (!r_1) then
    (law06_awake).bind fun r_2 =>
    some r_2
  else
    bif (ltI 512 (lenS s)) then
      (law06_awake).bind fun r_3 =>
      some r_3
    else
      ((cell_Put r)).bind fun r_4 =>
      ((ref06_Put r)).bind fun r_5 =>
      ((cell_Take s)).bind fun r_6 =>
      ((ref06_Take s)).bind fun r_7 =>
      bif (!(eqS r_4.1 r_5.1)) then
        some false
      else
        bif (neI r_4.2 r_5.2) then
          some false
        else
          ((ref06_Same r_6.1 r_7.1)).bind fun r_8 =>
          bif (!r_8) then
            some false
          else
            bif (neI r_6.2.1 r_7.2.1) then
              some false
            else
              bif (neI r_6.2.2 r_7.2.2) then
                some false
              else
                bif (roomS r_4.1 s) then
                  ((cell_Take (addS r_4.1 s))).bind fun r_9 =>
                  bif (neI r_4.2 0) then
                    (law06_awake).bind fun r_10 =>
                    some r_10
                  else
                    bif (eqI r_9.2.2 0) then
                      ((ref06_Same r_9.1 r)).bind fun r_11 =>
                      bif r_11 then
                        bif (eqI r_9.2.1 (lenS r_4.1)) then
                          (law06_awake).bind fun r_12 =>
                          some r_12
                        else
                          some false
                      else
                        some false
                    else
                      some false
                else none

/-! peristyle/peristyleref06.digits -/
def ref06_digits.S1 (s_3 : ByteArray) : Option (ByteArray) :=
  bif (eqS s_3 eB) then
    some (bs [48])
  else
    some s_3
def ref06_digits.t1 : Nat → ByteArray → Option (ByteArray)
  | 0 => fun _ => none
  | _ + 1 => ref06_digits.S1

def ref06_digits.S0 (o1_0 : ByteArray → Option (ByteArray)) (self : Int → ByteArray → Option (ByteArray)) (n_1 : Int) (s_2 : ByteArray) : Option (ByteArray) :=
  bif (ltI n_1 0) then
    bif (roomS (ofBytes [(IntKind.wrap .u8 (subI .i64 48 (remI n_1 10)))]) s_2) then
      self (quoI .i64 n_1 10) (addS (ofBytes [(IntKind.wrap .u8 (subI .i64 48 (remI n_1 10)))]) s_2)
    else none
  else
    o1_0 s_2
def ref06_digits.l0 (o1_0 : ByteArray → Option (ByteArray)) : Nat → Int → ByteArray → Option (ByteArray)
  | 0 => fun _ _ => none
  | n + 1 => ref06_digits.S0 o1_0 (ref06_digits.l0 o1_0 n)

def ref06_digits.S (j0 : Int → ByteArray → Option (ByteArray)) (xn : Int) : Option (ByteArray) :=
  j0 xn eB
def ref06_digits (xn : Int) : Option (ByteArray) := ref06_digits.S (ref06_digits.l0 (ref06_digits.t1 fu) fu) xn

/-! peristyle/peristyleref06.Show -/
def ref06_Show.S0 (self : (List Int) → Int → (Int × (Int × ByteArray)) → Option (ByteArray)) (out_3 : (List Int)) (i_4 : Int) (c_5 : (Int × (Int × ByteArray))) : Option (ByteArray) :=
  bif (ltI i_4 (lenS c_5.2.2)) then
    bif (inB i_4 (lenS c_5.2.2)) then
      bif (eqI (byteAt c_5.2.2 i_4) 39) then
        bif (roomB ((List.length out_3) + 1) 1) then
          bif (inB i_4 (lenS c_5.2.2)) then
            bif (roomB ((List.length (out_3 ++ [39])) + 1) 1) then
              self ((out_3 ++ [39]) ++ [(byteAt c_5.2.2 i_4)]) (addI .i64 i_4 1) c_5
            else none
          else none
        else none
      else
        bif (inB i_4 (lenS c_5.2.2)) then
          bif (roomB ((List.length out_3) + 1) 1) then
            self (out_3 ++ [(byteAt c_5.2.2 i_4)]) (addI .i64 i_4 1) c_5
          else none
        else none
    else none
  else
    bif (roomB ((List.length out_3) + 1) 1) then
      some (ofBytes (out_3 ++ [39]))
    else none
def ref06_Show.l0 : Nat → (List Int) → Int → (Int × (Int × ByteArray)) → Option (ByteArray)
  | 0 => fun _ _ _ => none
  | n + 1 => ref06_Show.S0 (ref06_Show.l0 n)

def ref06_Show.S (j0 : (List Int) → Int → (Int × (Int × ByteArray)) → Option (ByteArray)) (c : (Int × (Int × ByteArray))) : Option (ByteArray) :=
  bif (eqI c.1 0) then
    some (bs [110, 117, 108, 108])
  else
    bif (eqI c.1 1) then
      bif (ltI c.2.1 0) then
        ((ref06_digits c.2.1)).bind fun r_1 =>
        bif (roomS (bs [45]) r_1) then
          some (addS (bs [45]) r_1)
        else none
      else
        ((ref06_digits (subI .i64 0 c.2.1))).bind fun r_2 =>
        some r_2
    else
      bif (eqI c.1 2) then
        j0 [39] 0 c
      else
        some (bs [63])
def ref06_Show (c : (Int × (Int × ByteArray))) : Option (ByteArray) := ref06_Show.S (ref06_Show.l0 fu) c

/-! peristyle/peristyleref06.number -/
def ref06_number.S3 (s_11 : ByteArray) (down_12 : Bool) (n_13 : Int) : Option (Int × Bool) :=
  bif (!down_12) then
    ((ref06_Show (1, (subI .i64 0 n_13), eB))).bind fun r_14 =>
    some ((subI .i64 0 n_13), (eqS r_14 s_11))
  else
    ((ref06_Show (1, n_13, eB))).bind fun r_15 =>
    some (n_13, (eqS r_15 s_11))
def ref06_number.t3 : Nat → ByteArray → Bool → Int → Option (Int × Bool)
  | 0 => fun _ _ _ => none
  | _ + 1 => ref06_number.S3

def ref06_number.S2 (j3 : ByteArray → Bool → Int → Option (Int × Bool)) (s_8 : ByteArray) (down_9 : Bool) (n_10 : Int) : Option (Int × Bool) :=
  bif (!down_9) then
    bif (eqI n_10 (-9223372036854775808)) then
      some (0, false)
    else
      j3 s_8 down_9 n_10
  else
    j3 s_8 down_9 n_10
def ref06_number.t2 : Nat → ByteArray → Bool → Int → Option (Int × Bool)
  | 0 => fun _ _ _ => none
  | n + 1 => ref06_number.S2 (ref06_number.t3 n)

def ref06_number.S1 (o2_1 : ByteArray → Bool → Int → Option (Int × Bool)) (self : ByteArray → Bool → Int → Int → Option (Int × Bool)) (s_4 : ByteArray) (down_5 : Bool) (n_6 : Int) (i_7 : Int) : Option (Int × Bool) :=
  bif (ltI i_7 (lenS s_4)) then
    bif (inB i_7 (lenS s_4)) then
      bif (ltI (subI .i64 (IntKind.wrap .i64 (byteAt s_4 i_7)) 48) 0) then
        some (0, false)
      else
        bif (ltI 9 (subI .i64 (IntKind.wrap .i64 (byteAt s_4 i_7)) 48)) then
          some (0, false)
        else
          bif (ltI n_6 (quoI .i64 (addI .i64 (-9223372036854775808) (subI .i64 (IntKind.wrap .i64 (byteAt s_4 i_7)) 48)) 10)) then
            some (0, false)
          else
            self s_4 down_5 (subI .i64 (mulI .i64 10 n_6) (subI .i64 (IntKind.wrap .i64 (byteAt s_4 i_7)) 48)) (addI .i64 i_7 1)
    else none
  else
    o2_1 s_4 down_5 n_6
def ref06_number.l1 (o2_1 : ByteArray → Bool → Int → Option (Int × Bool)) : Nat → ByteArray → Bool → Int → Int → Option (Int × Bool)
  | 0 => fun _ _ _ _ => none
  | n + 1 => ref06_number.S1 o2_1 (ref06_number.l1 o2_1 n)

def ref06_number.S0 (j1 : ByteArray → Bool → Int → Int → Option (Int × Bool)) (s_1 : ByteArray) (down_2 : Bool) (from_3 : Int) : Option (Int × Bool) :=
  j1 s_1 down_2 0 from_3
def ref06_number.t0 : Nat → ByteArray → Bool → Int → Option (Int × Bool)
  | 0 => fun _ _ _ => none
  | n + 1 => ref06_number.S0 (ref06_number.l1 (ref06_number.t2 n) n)

def ref06_number.S (j0 : ByteArray → Bool → Int → Option (Int × Bool)) (s : ByteArray) : Option (Int × Bool) :=
  bif (ltI 0 (lenS s)) then
    bif (inB 0 (lenS s)) then
      bif (eqI (byteAt s 0) 45) then
        j0 s (eqI (byteAt s 0) 45) 1
      else
        j0 s (eqI (byteAt s 0) 45) 0
    else none
  else
    j0 s false 0
def ref06_number (s : ByteArray) : Option (Int × Bool) := ref06_number.S (ref06_number.t0 fu) s

/-! peristyle/peristyleref06.Read -/
def ref06_Read.S1 (s_6 : ByteArray) (out_7 : (List Int)) (t2_8 : (Int × (Int × ByteArray))) : Option ((Int × (Int × ByteArray)) × Int) :=
  bif (!(ref06_May (2, 0, (ofBytes out_7)))) then
    some ((0, 0, eB), 20)
  else
    ((ref06_Show (2, 0, (ofBytes out_7)))).bind fun r_10 =>
    bif (!(eqS r_10 s_6)) then
      some ((0, 0, eB), 20)
    else
      some ((2, 0, (ofBytes out_7)), 0)
def ref06_Read.t1 : Nat → ByteArray → (List Int) → (Int × (Int × ByteArray)) → Option ((Int × (Int × ByteArray)) × Int)
  | 0 => fun _ _ _ => none
  | _ + 1 => ref06_Read.S1

def ref06_Read.S0 (o1_0 : ByteArray → (List Int) → (Int × (Int × ByteArray)) → Option ((Int × (Int × ByteArray)) × Int)) (self : ByteArray → (List Int) → Int → (Int × (Int × ByteArray)) → Option ((Int × (Int × ByteArray)) × Int)) (s_2 : ByteArray) (out_3 : (List Int)) (i_4 : Int) (t2_5 : (Int × (Int × ByteArray))) : Option ((Int × (Int × ByteArray)) × Int) :=
  bif (ltI i_4 (subI .i64 (lenS s_2) 1)) then
    bif (inB i_4 (lenS s_2)) then
      bif (roomB ((List.length out_3) + 1) 1) then
        bif (inB i_4 (lenS s_2)) then
          bif (eqI (byteAt s_2 i_4) 39) then
            self s_2 (out_3 ++ [(byteAt s_2 i_4)]) (addI .i64 (addI .i64 i_4 1) 1) t2_5
          else
            self s_2 (out_3 ++ [(byteAt s_2 i_4)]) (addI .i64 i_4 1) t2_5
        else none
      else none
    else none
  else
    o1_0 s_2 out_3 t2_5
def ref06_Read.l0 (o1_0 : ByteArray → (List Int) → (Int × (Int × ByteArray)) → Option ((Int × (Int × ByteArray)) × Int)) : Nat → ByteArray → (List Int) → Int → (Int × (Int × ByteArray)) → Option ((Int × (Int × ByteArray)) × Int)
  | 0 => fun _ _ _ _ => none
  | n + 1 => ref06_Read.S0 o1_0 (ref06_Read.l0 o1_0 n)

def ref06_Read.S (j0 : ByteArray → (List Int) → Int → (Int × (Int × ByteArray)) → Option ((Int × (Int × ByteArray)) × Int)) (s : ByteArray) : Option ((Int × (Int × ByteArray)) × Int) :=
  bif (eqS s (bs [110, 117, 108, 108])) then
    some ((0, 0, eB), 0)
  else
    ((ref06_number s)).bind fun r_1 =>
    bif r_1.2 then
      some ((1, r_1.1, eB), 0)
    else
      bif (ltI (lenS s) 2) then
        some ((0, 0, eB), 20)
      else
        bif (inB 0 (lenS s)) then
          bif (neI (byteAt s 0) 39) then
            some ((0, 0, eB), 20)
          else
            j0 s [] 1 (0, 0, eB)
        else none
def ref06_Read (s : ByteArray) : Option ((Int × (Int × ByteArray)) × Int) := ref06_Read.S (ref06_Read.l0 (ref06_Read.t1 fu) fu) s

/-! peristyle/peristylelaw06.CellShows -/
def law06_CellShows (c : (Int × (Int × ByteArray))) (s : ByteArray) : Option (Bool) :=
  bif (ltI 256 (lenS c.2.2)) then
    (law06_awake).bind fun r_1 =>
    some r_1
  else
    bif (ltI 256 (lenS s)) then
      (law06_awake).bind fun r_2 =>
      some r_2
    else
      ((cell_Read s)).bind fun r_3 =>
      ((ref06_Read s)).bind fun r_4 =>
      ((cell_Show c)).bind fun r_5 =>
      ((ref06_Show c)).bind fun r_6 =>
      bif (!(eqS r_5 r_6)) then
        some false
      else
        bif (!((eqI r_3.1.1 r_4.1.1) && ((eqI r_3.1.2.1 r_4.1.2.1) && (eqS r_3.1.2.2 r_4.1.2.2)))) then
          some false
        else
          bif (neI r_3.2 r_4.2) then
            some false
          else
            ((cell_Show c)).bind fun r_7 =>
            ((cell_Read r_7)).bind fun r_8 =>
            bif (!(ref06_May c)) then
              (law06_awake).bind fun r_10 =>
              some r_10
            else
              bif ((eqI r_8.1.1 c.1) && ((eqI r_8.1.2.1 c.2.1) && (eqS r_8.1.2.2 c.2.2))) then
                bif (eqI r_8.2 0) then
                  (law06_awake).bind fun r_11 =>
                  some r_11
                else
                  some false
              else
                some false

/-! peristyle/cell.Fits -/
def cell_Fits.S0 (self : (List (ByteArray × (Int × Bool))) → (List (Int × (Int × ByteArray))) → Int → Int → Option (Int)) (columns_1 : (List (ByteArray × (Int × Bool)))) (t12_2 : (List (Int × (Int × ByteArray)))) (t13_3 : Int) (t14_4 : Int) : Option (Int) :=
  bif (ltI t14_4 t13_3) then
    bif (inB t14_4 (lenL t12_2)) then
      bif (neI (cell_Check (nth t12_2 t14_4 (0, 0, eB))) 0) then
        some 1
      else
        bif (eqI (nth t12_2 t14_4 (0, 0, eB)).1 0) then
          bif (inB t14_4 (lenL columns_1)) then
            bif (!(nth columns_1 t14_4 (eB, 0, false)).2.2) then
              some 1
            else
              self columns_1 t12_2 t13_3 (addI .i64 t14_4 1)
          else none
        else
          bif (inB t14_4 (lenL columns_1)) then
            bif (neI (nth t12_2 t14_4 (0, 0, eB)).1 (nth columns_1 t14_4 (eB, 0, false)).2.1) then
              some 1
            else
              self columns_1 t12_2 t13_3 (addI .i64 t14_4 1)
          else none
    else none
  else
    some 0
def cell_Fits.l0 : Nat → (List (ByteArray × (Int × Bool))) → (List (Int × (Int × ByteArray))) → Int → Int → Option (Int)
  | 0 => fun _ _ _ _ => none
  | n + 1 => cell_Fits.S0 (cell_Fits.l0 n)

def cell_Fits.S (j0 : (List (ByteArray × (Int × Bool))) → (List (Int × (Int × ByteArray))) → Int → Int → Option (Int)) (r : (List (Int × (Int × ByteArray)))) (columns : (List (ByteArray × (Int × Bool)))) : Option (Int) :=
  bif (neI (lenL r) (lenL columns)) then
    some 1
  else
    j0 columns r (lenL r) 0
def cell_Fits (r : (List (Int × (Int × ByteArray)))) (columns : (List (ByteArray × (Int × Bool)))) : Option (Int) := cell_Fits.S (cell_Fits.l0 fu) r columns

/-! peristyle/peristyleref06.Fits -/
def ref06_Fits.S0 (self : (List (Int × (Int × ByteArray))) → (List (ByteArray × (Int × Bool))) → Int → Option (Bool)) (r_1 : (List (Int × (Int × ByteArray)))) (columns_2 : (List (ByteArray × (Int × Bool)))) (i_3 : Int) : Option (Bool) :=
  bif (ltI i_3 (lenL r_1)) then
    bif (ltI i_3 (lenL columns_2)) then
      bif (inB i_3 (lenL columns_2)) then
        bif (inB i_3 (lenL r_1)) then
          bif (!(ref06_May (nth r_1 i_3 (0, 0, eB)))) then
            some false
          else
            bif (inB i_3 (lenL r_1)) then
              bif (neI (nth r_1 i_3 (0, 0, eB)).1 (nth columns_2 i_3 (eB, 0, false)).2.1) then
                bif (inB i_3 (lenL r_1)) then
                  bif (neI (nth r_1 i_3 (0, 0, eB)).1 0) then
                    some false
                  else
                    bif (!(nth columns_2 i_3 (eB, 0, false)).2.2) then
                      some false
                    else
                      bif (inB i_3 (lenL r_1)) then
                        bif (eqI (nth r_1 i_3 (0, 0, eB)).1 0) then
                          bif (!(nth columns_2 i_3 (eB, 0, false)).2.2) then
                            some false
                          else
                            self r_1 columns_2 (addI .i64 i_3 1)
                        else
                          self r_1 columns_2 (addI .i64 i_3 1)
                      else none
                else none
              else
                bif (inB i_3 (lenL r_1)) then
                  bif (eqI (nth r_1 i_3 (0, 0, eB)).1 0) then
                    bif (!(nth columns_2 i_3 (eB, 0, false)).2.2) then
                      some false
                    else
                      self r_1 columns_2 (addI .i64 i_3 1)
                  else
                    self r_1 columns_2 (addI .i64 i_3 1)
                else none
            else none
        else none
      else none
    else
      some true
  else
    some true
def ref06_Fits.l0 : Nat → (List (Int × (Int × ByteArray))) → (List (ByteArray × (Int × Bool))) → Int → Option (Bool)
  | 0 => fun _ _ _ => none
  | n + 1 => ref06_Fits.S0 (ref06_Fits.l0 n)

def ref06_Fits.S (j0 : (List (Int × (Int × ByteArray))) → (List (ByteArray × (Int × Bool))) → Int → Option (Bool)) (r : (List (Int × (Int × ByteArray)))) (columns : (List (ByteArray × (Int × Bool)))) : Option (Bool) :=
  bif (neI (lenL r) (lenL columns)) then
    some false
  else
    j0 r columns 0
def ref06_Fits (r : (List (Int × (Int × ByteArray)))) (columns : (List (ByteArray × (Int × Bool)))) : Option (Bool) := ref06_Fits.S (ref06_Fits.l0 fu) r columns

/-! peristyle/peristylelaw06.CellFits -/
def law06_CellFits (r : (List (Int × (Int × ByteArray)))) (columns : (List (ByteArray × (Int × Bool)))) : Option (Bool) :=
  ((ref06_Light r)).bind fun r_1 =>
  bif (!r_1) then
    (law06_awake).bind fun r_2 =>
    some r_2
  else
    bif (ltI 20 (lenL columns)) then
      (law06_awake).bind fun r_3 =>
      some r_3
    else
      ((cell_Fits r columns)).bind fun r_4 =>
      ((ref06_Fits r columns)).bind fun r_5 =>
      bif (eqB (eqI r_4 0) r_5) then
        bif (eqI r_4 0) then
          (law06_awake).bind fun r_6 =>
          some r_6
        else
          bif (eqI r_4 1) then
            (law06_awake).bind fun r_7 =>
            some r_7
          else
            some false
      else
        some false
end Go.AM.Pure
