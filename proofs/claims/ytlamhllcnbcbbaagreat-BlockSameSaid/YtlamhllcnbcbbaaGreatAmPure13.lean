import Derived.Test.YtlamhllcnbcbbaaGreatAmPrimW
import Derived.Test.YtlamhllcnbcbbaaGreatAmPure06
/- PRINTED by gen/ of this repo: the functions of the seat as pure functions. -/
namespace Go.AM.Pure
open Go.AM
def law13_num (xn : Int) : (Int × (Int × ByteArray)) :=
  (1, xn, eB)
def block_may_1 (c : (Int × (Int × ByteArray))) (t1 : Int) : Bool :=
  bif (neI (cell_Check c) 0) then
    true
  else
    bif (neI c.1 0) then
      (neI c.1 t1)
    else
      false
def block_may_1.o (c : (Int × (Int × ByteArray))) (t1 : Int) : Option (Bool) :=
  bif (neI (cell_Check c) 0) then
    some true
  else
    bif (neI c.1 0) then
      some (neI c.1 t1)
    else
      some false
def slices_IndexFunc_api_Cell_api_Cell__block_may_1.S0 (self : (List (Int × (Int × ByteArray))) → Int → Int → Int → Option (Int)) (s_1 : (List (Int × (Int × ByteArray)))) (f_2 : Int) (t7_3 : Int) (t8_4 : Int) : Option (Int) :=
  bif (ltI t8_4 t7_3) then
    bif (inB t8_4 (lenL s_1)) then
      bif (block_may_1 (nth s_1 t8_4 (0, 0, eB)) f_2) then
        some t8_4
      else
        self s_1 f_2 t7_3 (addI .i64 t8_4 1)
    else none
  else
    some (-1)
def slices_IndexFunc_api_Cell_api_Cell__block_may_1.l0 : Nat → (List (Int × (Int × ByteArray))) → Int → Int → Int → Option (Int)
  | 0 => fun _ _ _ _ => none
  | n + 1 => slices_IndexFunc_api_Cell_api_Cell__block_may_1.S0 (slices_IndexFunc_api_Cell_api_Cell__block_may_1.l0 n)
def slices_IndexFunc_api_Cell_api_Cell__block_may_1.S (j0 : (List (Int × (Int × ByteArray))) → Int → Int → Int → Option (Int)) (s : (List (Int × (Int × ByteArray)))) (f0 : Int) : Option (Int) :=
  j0 s f0 (lenL s) 0
def slices_IndexFunc_api_Cell_api_Cell__block_may_1 (s : (List (Int × (Int × ByteArray)))) (f0 : Int) : Option (Int) := slices_IndexFunc_api_Cell_api_Cell__block_may_1.S (slices_IndexFunc_api_Cell_api_Cell__block_may_1.l0 fu) s f0
def slices_ContainsFunc_api_Cell_api_Cell__block_may_1 (s : (List (Int × (Int × ByteArray)))) (f0 : Int) : Option (Bool) :=
  ((slices_IndexFunc_api_Cell_api_Cell__block_may_1 s f0)).bind fun r_1 =>
  some (leI 0 r_1)
def block_may (l : (List (Int × (Int × ByteArray)))) (kind : Int) : Option (Bool) :=
  bif (ltI (lenL l) 1) then
    some false
  else
    bif (ltI 64 (lenL l)) then
      some false
    else
      bif (neI kind 1) then
        bif (neI kind 2) then
          some false
        else
          ((slices_ContainsFunc_api_Cell_api_Cell__block_may_1 l kind)).bind fun r_1 =>
          some (!r_1)
      else
        ((slices_ContainsFunc_api_Cell_api_Cell__block_may_1 l kind)).bind fun r_2 =>
        some (!r_2)
def nulls_null (c : (Int × (Int × ByteArray))) : Bool :=
  (eqI c.1 0)
def nulls_Split_1 (c : (Int × (Int × ByteArray))) : Bool :=
  (nulls_null c)
def slices_IndexFunc_api_Cell_api_Cell__nulls_Split_1_a0.S0 (self : Int → Int → (List (Int × (Int × ByteArray))) → Option (Int × (List (Int × (Int × ByteArray))))) (t7_1 : Int) (t8_2 : Int) (t1000000_3 : (List (Int × (Int × ByteArray)))) : Option (Int × (List (Int × (Int × ByteArray)))) :=
  bif (ltI t8_2 t7_1) then
    bif (inB t8_2 (lenL t1000000_3)) then
      bif (nulls_Split_1 (List.getD t1000000_3 (Int.toNat t8_2) (0, 0, eB))) then
        bif (decide (0 < (List.length t1000000_3))) then
          some (t8_2, t1000000_3)
        else none
      else
        self t7_1 (addI .i64 t8_2 1) t1000000_3
    else none
  else
    bif (decide (0 < (List.length t1000000_3))) then
      some ((-1), t1000000_3)
    else none
def slices_IndexFunc_api_Cell_api_Cell__nulls_Split_1_a0.l0 : Nat → Int → Int → (List (Int × (Int × ByteArray))) → Option (Int × (List (Int × (Int × ByteArray))))
  | 0 => fun _ _ _ => none
  | n + 1 => slices_IndexFunc_api_Cell_api_Cell__nulls_Split_1_a0.S0 (slices_IndexFunc_api_Cell_api_Cell__nulls_Split_1_a0.l0 n)
def slices_IndexFunc_api_Cell_api_Cell__nulls_Split_1_a0.S (j0 : Int → Int → (List (Int × (Int × ByteArray))) → Option (Int × (List (Int × (Int × ByteArray))))) (s : (List (Int × (Int × ByteArray)))) : Option (Int × (List (Int × (Int × ByteArray)))) :=
  j0 (lenL s) 0 s
def slices_IndexFunc_api_Cell_api_Cell__nulls_Split_1_a0 (s : (List (Int × (Int × ByteArray)))) : Option (Int × (List (Int × (Int × ByteArray)))) := slices_IndexFunc_api_Cell_api_Cell__nulls_Split_1_a0.S (slices_IndexFunc_api_Cell_api_Cell__nulls_Split_1_a0.l0 fu) s
def slices_DeleteFunc_api_Cell_api_Cell__nulls_Split_1_a0.S1 (i_6 : Int) (t1000000_7 : (List (Int × (Int × ByteArray)))) : Option (Int × (List (Int × (Int × ByteArray)))) :=
  bif (inC i_6 (lenL t1000000_7) (lenL t1000000_7)) then
    bif (inC 0 i_6 (lenL (splA t1000000_7 (Int.toNat i_6) (List.replicate ((Int.toNat (lenL t1000000_7)) - (Int.toNat i_6)) ((0 : Int), ((0 : Int), eB)))))) then
      bif (decide (0 < (List.length (splA t1000000_7 (Int.toNat i_6) (List.replicate ((Int.toNat (lenL t1000000_7)) - (Int.toNat i_6)) ((0 : Int), ((0 : Int), eB))))))) then
        some (((((Int.toNat i_6) - 0) : Nat) : Int), (splA t1000000_7 (Int.toNat i_6) (List.replicate ((Int.toNat (lenL t1000000_7)) - (Int.toNat i_6)) ((0 : Int), ((0 : Int), eB)))))
      else none
    else none
  else none
def slices_DeleteFunc_api_Cell_api_Cell__nulls_Split_1_a0.t1 : Nat → Int → (List (Int × (Int × ByteArray))) → Option (Int × (List (Int × (Int × ByteArray))))
  | 0 => fun _ _ => none
  | _ + 1 => slices_DeleteFunc_api_Cell_api_Cell__nulls_Split_1_a0.S1
def slices_DeleteFunc_api_Cell_api_Cell__nulls_Split_1_a0.S0 (o1_0 : Int → (List (Int × (Int × ByteArray))) → Option (Int × (List (Int × (Int × ByteArray))))) (self : Int → Int → (List (Int × (Int × ByteArray))) → Option (Int × (List (Int × (Int × ByteArray))))) (i_2 : Int) (j_3 : Int) (t1000000_4 : (List (Int × (Int × ByteArray)))) : Option (Int × (List (Int × (Int × ByteArray)))) :=
  bif (ltI j_3 (lenL t1000000_4)) then
    bif (inB j_3 (lenL t1000000_4)) then
      bif (!(nulls_Split_1 (List.getD t1000000_4 (Int.toNat j_3) (0, 0, eB)))) then
        bif (inB i_2 (lenL t1000000_4)) then
          self (addI .i64 i_2 1) (addI .i64 j_3 1) (List.set t1000000_4 (Int.toNat i_2) (List.getD t1000000_4 (Int.toNat j_3) (0, 0, eB)))
        else none
      else
        self i_2 (addI .i64 j_3 1) t1000000_4
    else none
  else
    o1_0 i_2 t1000000_4
def slices_DeleteFunc_api_Cell_api_Cell__nulls_Split_1_a0.l0 (o1_0 : Int → (List (Int × (Int × ByteArray))) → Option (Int × (List (Int × (Int × ByteArray))))) : Nat → Int → Int → (List (Int × (Int × ByteArray))) → Option (Int × (List (Int × (Int × ByteArray))))
  | 0 => fun _ _ _ => none
  | n + 1 => slices_DeleteFunc_api_Cell_api_Cell__nulls_Split_1_a0.S0 o1_0 (slices_DeleteFunc_api_Cell_api_Cell__nulls_Split_1_a0.l0 o1_0 n)
def slices_DeleteFunc_api_Cell_api_Cell__nulls_Split_1_a0.S (j0 : Int → Int → (List (Int × (Int × ByteArray))) → Option (Int × (List (Int × (Int × ByteArray))))) (s : (List (Int × (Int × ByteArray)))) : Option (Int × (List (Int × (Int × ByteArray)))) :=
  ((guardA ((decide (0 < (List.length s))) && true) (slices_IndexFunc_api_Cell_api_Cell__nulls_Split_1_a0 s) fun _x => ((decide ((List.length _x.2) = (List.length s))) && true))).bind fun r_1 =>
  bif (eqI r_1.1 (-1)) then
    bif (decide (0 < (List.length r_1.2))) then
      some ((lenL r_1.2), r_1.2)
    else none
  else
    j0 r_1.1 (addI .i64 r_1.1 1) r_1.2
def slices_DeleteFunc_api_Cell_api_Cell__nulls_Split_1_a0 (s : (List (Int × (Int × ByteArray)))) : Option (Int × (List (Int × (Int × ByteArray)))) := slices_DeleteFunc_api_Cell_api_Cell__nulls_Split_1_a0.S (slices_DeleteFunc_api_Cell_api_Cell__nulls_Split_1_a0.l0 (slices_DeleteFunc_api_Cell_api_Cell__nulls_Split_1_a0.t1 fu) fu) s
def pack_Width.S0 (self : Int → (List Int) → Int → Int → Option (Int)) (all_1 : Int) (t6_2 : (List Int)) (t7_3 : Int) (t8_4 : Int) : Option (Int) :=
  bif (ltI t8_4 t7_3) then
    bif (inB t8_4 (lenL t6_2)) then
      self (orI .i64 all_1 (nth t6_2 t8_4 0)) t6_2 t7_3 (addI .i64 t8_4 1)
    else none
  else
    ((bits_Width all_1)).bind fun r_5 =>
    some r_5
def pack_Width.l0 : Nat → Int → (List Int) → Int → Int → Option (Int)
  | 0 => fun _ _ _ _ => none
  | n + 1 => pack_Width.S0 (pack_Width.l0 n)
def pack_Width.S (j0 : Int → (List Int) → Int → Int → Option (Int)) (l : (List Int)) : Option (Int) :=
  j0 0 l (lenL l) 0
def pack_Width (l : (List Int)) : Option (Int) := pack_Width.S (pack_Width.l0 fu) l
def pack_Bytes (xn : Int) (width : Int) : Int :=
  bif (ltI xn 1) then
    0
  else
    bif (ltI 65536 xn) then
      0
    else
      bif (ltI width 1) then
        0
      else
        bif (ltI 64 width) then
          0
        else
          (shrI .i64 (addI .i64 (mulI .i64 xn width) 7) 3)
def pack_Bytes.o (xn : Int) (width : Int) : Option (Int) :=
  bif (ltI xn 1) then
    some 0
  else
    bif (ltI 65536 xn) then
      some 0
    else
      bif (ltI width 1) then
        some 0
      else
        bif (ltI 64 width) then
          some 0
        else
          some (shrI .i64 (addI .i64 (mulI .i64 xn width) 7) 3)
def bits_Mask (w : Int) : Option (Int) :=
  bif (leI w 0) then
    some 0
  else
    bif (leI 64 w) then
      some (-1)
    else
      bif (leI 0 w) then
        some (IntKind.wrap .i64 (subI .u64 (shlI .u64 1 w) 1))
      else none
def pack_Put.S2 (out_20 : (List Int)) (kept_21 : Int) (n_22 : Int) : Option (ByteArray × Int) :=
  bif (ltI 0 n_22) then
    bif (roomB ((List.length out_20) + 1) 1) then
      some ((ofBytes (out_20 ++ [(IntKind.wrap .u8 kept_21)])), 0)
    else none
  else
    some ((ofBytes out_20), 0)
def pack_Put.t2 : Nat → (List Int) → Int → Int → Option (ByteArray × Int)
  | 0 => fun _ _ _ => none
  | _ + 1 => pack_Put.S2
def pack_Put.S1 (o0_1 : Int → (List Int) → Int → Int → (List Int) → Int → Int → Option (ByteArray × Int)) (self : Int → (List Int) → Int → Int → Int → Int → (List Int) → Int → Int → Option (ByteArray × Int)) (width_10 : Int) (out_11 : (List Int)) (kept_12 : Int) (n_13 : Int) (w_14 : Int) (left_15 : Int) (t37_16 : (List Int)) (t38_17 : Int) (t39_18 : Int) : Option (ByteArray × Int) :=
  bif (ltI 0 left_15) then
    ((bits_Mask (minI (subI .i64 8 n_13) left_15))).bind fun r_19 =>
    bif (leI 0 n_13) then
      bif (leI 0 (minI (subI .i64 8 n_13) left_15)) then
        bif (eqI (addI .i64 n_13 (minI (subI .i64 8 n_13) left_15)) 8) then
          bif (roomB ((List.length out_11) + 1) 1) then
            self width_10 (out_11 ++ [(IntKind.wrap .u8 (orI .u64 kept_12 (shlI .u64 (andI .u64 w_14 (IntKind.wrap .u64 r_19)) n_13)))]) 0 0 (shrI .u64 w_14 (minI (subI .i64 8 n_13) left_15)) (subI .i64 left_15 (minI (subI .i64 8 n_13) left_15)) t37_16 t38_17 t39_18
          else none
        else
          self width_10 out_11 (orI .u64 kept_12 (shlI .u64 (andI .u64 w_14 (IntKind.wrap .u64 r_19)) n_13)) (addI .i64 n_13 (minI (subI .i64 8 n_13) left_15)) (shrI .u64 w_14 (minI (subI .i64 8 n_13) left_15)) (subI .i64 left_15 (minI (subI .i64 8 n_13) left_15)) t37_16 t38_17 t39_18
      else none
    else none
  else
    o0_1 width_10 out_11 kept_12 n_13 t37_16 t38_17 (addI .i64 t39_18 1)
def pack_Put.l1 (o0_1 : Int → (List Int) → Int → Int → (List Int) → Int → Int → Option (ByteArray × Int)) : Nat → Int → (List Int) → Int → Int → Int → Int → (List Int) → Int → Int → Option (ByteArray × Int)
  | 0 => fun _ _ _ _ _ _ _ _ _ => none
  | n + 1 => pack_Put.S1 o0_1 (pack_Put.l1 o0_1 n)
def pack_Put.S0 (o2_0 : (List Int) → Int → Int → Option (ByteArray × Int)) (j1 : Int → (List Int) → Int → Int → Int → Int → (List Int) → Int → Int → Option (ByteArray × Int)) (width_3 : Int) (out_4 : (List Int)) (kept_5 : Int) (n_6 : Int) (t37_7 : (List Int)) (t38_8 : Int) (t39_9 : Int) : Option (ByteArray × Int) :=
  bif (ltI t39_9 t38_8) then
    bif (inB t39_9 (lenL t37_7)) then
      j1 width_3 out_4 kept_5 n_6 (IntKind.wrap .u64 (nth t37_7 t39_9 0)) width_3 t37_7 t38_8 t39_9
    else none
  else
    o2_0 out_4 kept_5 n_6
def pack_Put.l0 (o2_0 : (List Int) → Int → Int → Option (ByteArray × Int)) : Nat → Int → (List Int) → Int → Int → (List Int) → Int → Int → Option (ByteArray × Int)
  | 0 => fun _ _ _ _ _ _ _ => none
  | n + 1 => pack_Put.S0 o2_0 (pack_Put.l1 (pack_Put.l0 o2_0 n) n)
def pack_Put.S (j0 : Int → (List Int) → Int → Int → (List Int) → Int → Int → Option (ByteArray × Int)) (l : (List Int)) (width : Int) : Option (ByteArray × Int) :=
  bif (ltI width 0) then
    some (eB, 1)
  else
    bif (ltI 64 width) then
      some (eB, 1)
    else
      bif (ltI 65536 (lenL l)) then
        some (eB, 1)
      else
        ((pack_Width l)).bind fun r_1 =>
        bif (ltI width r_1) then
          some (eB, 1)
        else
          let r_2 := (pack_Bytes (lenL l) width)
          bif ((leI 0 (addI .i64 r_2 1)) && (roomB (Int.toNat (addI .i64 r_2 1)) 1)) then
            j0 width [] 0 0 l (lenL l) 0
          else none
def pack_Put (l : (List Int)) (width : Int) : Option (ByteArray × Int) := pack_Put.S (pack_Put.l0 (pack_Put.t2 fu) fu) l width
def nulls_Split.S1 (restlo_11 : Nat) (restn_12 : Nat) (t11_13 : (List (Int × (Int × ByteArray)))) (t21_14 : (List Int)) : Option (ByteArray × (List (Int × (Int × ByteArray)))) :=
  ((pack_Put t21_14 1)).bind fun r_15 =>
  some (r_15.1, (List.take restn_12 (List.drop restlo_11 t11_13)))
def nulls_Split.t1 : Nat → Nat → Nat → (List (Int × (Int × ByteArray))) → (List Int) → Option (ByteArray × (List (Int × (Int × ByteArray))))
  | 0 => fun _ _ _ _ => none
  | _ + 1 => nulls_Split.S1
def nulls_Split.S0 (o1_0 : Nat → Nat → (List (Int × (Int × ByteArray))) → (List Int) → Option (ByteArray × (List (Int × (Int × ByteArray))))) (self : Nat → Nat → (List (Int × (Int × ByteArray))) → Int → Int → (List (Int × (Int × ByteArray))) → (List Int) → Option (ByteArray × (List (Int × (Int × ByteArray))))) (restlo_3 : Nat) (restn_4 : Nat) (t22_5 : (List (Int × (Int × ByteArray)))) (t23_6 : Int) (t24_7 : Int) (t11_8 : (List (Int × (Int × ByteArray)))) (t21_9 : (List Int)) : Option (ByteArray × (List (Int × (Int × ByteArray)))) :=
  bif (ltI t24_7 t23_6) then
    bif (inB t24_7 (lenL t22_5)) then
      bif (nulls_null (nth t22_5 t24_7 (0, 0, eB))) then
        bif (inB t24_7 (lenL t21_9)) then
          self restlo_3 restn_4 t22_5 t23_6 (addI .i64 t24_7 1) t11_8 (List.set t21_9 (Int.toNat t24_7) 1)
        else none
      else
        self restlo_3 restn_4 t22_5 t23_6 (addI .i64 t24_7 1) t11_8 t21_9
    else none
  else
    o1_0 restlo_3 restn_4 t11_8 t21_9
def nulls_Split.l0 (o1_0 : Nat → Nat → (List (Int × (Int × ByteArray))) → (List Int) → Option (ByteArray × (List (Int × (Int × ByteArray))))) : Nat → Nat → Nat → (List (Int × (Int × ByteArray))) → Int → Int → (List (Int × (Int × ByteArray))) → (List Int) → Option (ByteArray × (List (Int × (Int × ByteArray))))
  | 0 => fun _ _ _ _ _ _ _ => none
  | n + 1 => nulls_Split.S0 o1_0 (nulls_Split.l0 o1_0 n)
def nulls_Split.S (j0 : Nat → Nat → (List (Int × (Int × ByteArray))) → Int → Int → (List (Int × (Int × ByteArray))) → (List Int) → Option (ByteArray × (List (Int × (Int × ByteArray))))) (l : (List (Int × (Int × ByteArray)))) : Option (ByteArray × (List (Int × (Int × ByteArray)))) :=
  ((cloneL 32 l)).bind fun r_1 =>
  ((guardA ((decide (0 < (List.length r_1))) && true) (slices_DeleteFunc_api_Cell_api_Cell__nulls_Split_1_a0 r_1) fun _x => ((decide ((List.length _x.2) = (List.length r_1))) && true))).bind fun r_2 =>
  bif (eqI (((Int.toNat r_2.1) : Nat) : Int) (lenL l)) then
    some (eB, (List.take (Int.toNat r_2.1) (List.drop 0 r_2.2)))
  else
    bif ((leI 0 (lenL l)) && (roomB (Int.toNat (lenL l)) 8)) then
      j0 0 (Int.toNat r_2.1) l (lenL l) 0 r_2.2 (List.replicate (Int.toNat (lenL l)) (0 : Int))
    else none
def nulls_Split (l : (List (Int × (Int × ByteArray)))) : Option (ByteArray × (List (Int × (Int × ByteArray)))) := nulls_Split.S (nulls_Split.l0 (nulls_Split.t1 fu) fu) l
def plain_PutInts.S1 (o0_1 : (List Int) → (List Int) → Int → Int → Option (ByteArray)) (self : (List Int) → Int → (List Int) → Int → Int → Int → Option (ByteArray)) (b_5 : (List Int)) (w_6 : Int) (t11_7 : (List Int)) (t12_8 : Int) (t13_9 : Int) (t19_10 : Int) : Option (ByteArray) :=
  bif (ltI t19_10 8) then
    bif (roomB ((List.length b_5) + 1) 1) then
      self (b_5 ++ [(IntKind.wrap .u8 w_6)]) (shrI .u64 w_6 8) t11_7 t12_8 t13_9 (addI .i64 t19_10 1)
    else none
  else
    o0_1 b_5 t11_7 t12_8 (addI .i64 t13_9 1)
def plain_PutInts.l1 (o0_1 : (List Int) → (List Int) → Int → Int → Option (ByteArray)) : Nat → (List Int) → Int → (List Int) → Int → Int → Int → Option (ByteArray)
  | 0 => fun _ _ _ _ _ _ => none
  | n + 1 => plain_PutInts.S1 o0_1 (plain_PutInts.l1 o0_1 n)
def plain_PutInts.S0 (j1 : (List Int) → Int → (List Int) → Int → Int → Int → Option (ByteArray)) (b_1 : (List Int)) (t11_2 : (List Int)) (t12_3 : Int) (t13_4 : Int) : Option (ByteArray) :=
  bif (ltI t13_4 t12_3) then
    bif (inB t13_4 (lenL t11_2)) then
      j1 b_1 (IntKind.wrap .u64 (nth t11_2 t13_4 0)) t11_2 t12_3 t13_4 0
    else none
  else
    some (ofBytes b_1)
def plain_PutInts.l0 : Nat → (List Int) → (List Int) → Int → Int → Option (ByteArray)
  | 0 => fun _ _ _ _ => none
  | n + 1 => plain_PutInts.S0 (plain_PutInts.l1 (plain_PutInts.l0 n) n)
def plain_PutInts.S (j0 : (List Int) → (List Int) → Int → Int → Option (ByteArray)) (l : (List Int)) : Option (ByteArray) :=
  bif ((leI 0 (mulI .i64 8 (lenL l))) && (roomB (Int.toNat (mulI .i64 8 (lenL l))) 1)) then
    j0 [] l (lenL l) 0
  else none
def plain_PutInts (l : (List Int)) : Option (ByteArray) := plain_PutInts.S (plain_PutInts.l0 fu) l
def runs_Of.S0 (self : (List Int) → (List Int) → Int → Int → (List (Int × (Int × Int))) → Option ((List (Int × (Int × Int))))) (l_1 : (List Int)) (t9_2 : (List Int)) (t10_3 : Int) (t11_4 : Int) (out_5 : (List (Int × (Int × Int)))) : Option ((List (Int × (Int × Int)))) :=
  bif (ltI t11_4 t10_3) then
    bif (inB t11_4 (lenL t9_2)) then
      bif (eqI t11_4 0) then
        bif (roomB ((List.length out_5) + 1) 24) then
          bif (inB (subI .i64 (lenL (out_5 ++ [((nth t9_2 t11_4 0), t11_4, 0)])) 1) (lenL (out_5 ++ [((nth t9_2 t11_4 0), t11_4, 0)]))) then
            bif (inB (subI .i64 (lenL (out_5 ++ [((nth t9_2 t11_4 0), t11_4, 0)])) 1) (lenL (out_5 ++ [((nth t9_2 t11_4 0), t11_4, 0)]))) then
              self l_1 t9_2 t10_3 (addI .i64 t11_4 1) (List.set (out_5 ++ [((nth t9_2 t11_4 0), t11_4, 0)]) (Int.toNat (subI .i64 (lenL (out_5 ++ [((nth t9_2 t11_4 0), t11_4, 0)])) 1)) ((List.getD (out_5 ++ [((nth t9_2 t11_4 0), t11_4, 0)]) (Int.toNat (subI .i64 (lenL (out_5 ++ [((nth t9_2 t11_4 0), t11_4, 0)])) 1)) (0, 0, 0)).1, (List.getD (out_5 ++ [((nth t9_2 t11_4 0), t11_4, 0)]) (Int.toNat (subI .i64 (lenL (out_5 ++ [((nth t9_2 t11_4 0), t11_4, 0)])) 1)) (0, 0, 0)).2.1, (addI .i64 (List.getD (out_5 ++ [((nth t9_2 t11_4 0), t11_4, 0)]) (Int.toNat (subI .i64 (lenL (out_5 ++ [((nth t9_2 t11_4 0), t11_4, 0)])) 1)) (0, 0, 0)).2.2 1)))
            else none
          else none
        else none
      else
        bif (inB (subI .i64 t11_4 1) (lenL l_1)) then
          bif (neI (nth t9_2 t11_4 0) (nth l_1 (subI .i64 t11_4 1) 0)) then
            bif (roomB ((List.length out_5) + 1) 24) then
              bif (inB (subI .i64 (lenL (out_5 ++ [((nth t9_2 t11_4 0), t11_4, 0)])) 1) (lenL (out_5 ++ [((nth t9_2 t11_4 0), t11_4, 0)]))) then
                bif (inB (subI .i64 (lenL (out_5 ++ [((nth t9_2 t11_4 0), t11_4, 0)])) 1) (lenL (out_5 ++ [((nth t9_2 t11_4 0), t11_4, 0)]))) then
                  self l_1 t9_2 t10_3 (addI .i64 t11_4 1) (List.set (out_5 ++ [((nth t9_2 t11_4 0), t11_4, 0)]) (Int.toNat (subI .i64 (lenL (out_5 ++ [((nth t9_2 t11_4 0), t11_4, 0)])) 1)) ((List.getD (out_5 ++ [((nth t9_2 t11_4 0), t11_4, 0)]) (Int.toNat (subI .i64 (lenL (out_5 ++ [((nth t9_2 t11_4 0), t11_4, 0)])) 1)) (0, 0, 0)).1, (List.getD (out_5 ++ [((nth t9_2 t11_4 0), t11_4, 0)]) (Int.toNat (subI .i64 (lenL (out_5 ++ [((nth t9_2 t11_4 0), t11_4, 0)])) 1)) (0, 0, 0)).2.1, (addI .i64 (List.getD (out_5 ++ [((nth t9_2 t11_4 0), t11_4, 0)]) (Int.toNat (subI .i64 (lenL (out_5 ++ [((nth t9_2 t11_4 0), t11_4, 0)])) 1)) (0, 0, 0)).2.2 1)))
                else none
              else none
            else none
          else
            bif (inB (subI .i64 (lenL out_5) 1) (lenL out_5)) then
              bif (inB (subI .i64 (lenL out_5) 1) (lenL out_5)) then
                self l_1 t9_2 t10_3 (addI .i64 t11_4 1) (List.set out_5 (Int.toNat (subI .i64 (lenL out_5) 1)) ((List.getD out_5 (Int.toNat (subI .i64 (lenL out_5) 1)) (0, 0, 0)).1, (List.getD out_5 (Int.toNat (subI .i64 (lenL out_5) 1)) (0, 0, 0)).2.1, (addI .i64 (List.getD out_5 (Int.toNat (subI .i64 (lenL out_5) 1)) (0, 0, 0)).2.2 1)))
              else none
            else none
        else none
    else none
  else
    some out_5
def runs_Of.l0 : Nat → (List Int) → (List Int) → Int → Int → (List (Int × (Int × Int))) → Option ((List (Int × (Int × Int))))
  | 0 => fun _ _ _ _ _ => none
  | n + 1 => runs_Of.S0 (runs_Of.l0 n)
def runs_Of.S (j0 : (List Int) → (List Int) → Int → Int → (List (Int × (Int × Int))) → Option ((List (Int × (Int × Int))))) (l : (List Int)) : Option ((List (Int × (Int × Int)))) :=
  bif (ltI 65536 (lenL l)) then
    some []
  else
    j0 l l (lenL l) 0 []
def runs_Of (l : (List Int)) : Option ((List (Int × (Int × Int)))) := runs_Of.S (runs_Of.l0 fu) l
def runs_count.S0 (self : (List (Int × (Int × Int))) → Int → (List (Int × (Int × Int))) → Int → Int → Option (Int × Bool)) (l_1 : (List (Int × (Int × Int)))) (n_2 : Int) (t7_3 : (List (Int × (Int × Int)))) (t8_4 : Int) (t9_5 : Int) : Option (Int × Bool) :=
  bif (ltI t9_5 t8_4) then
    bif (inB t9_5 (lenL t7_3)) then
      bif (neI (nth t7_3 t9_5 (0, 0, 0)).2.1 n_2) then
        some (0, false)
      else
        bif (ltI (nth t7_3 t9_5 (0, 0, 0)).2.2 1) then
          some (0, false)
        else
          bif (ltI (subI .i64 65536 n_2) (nth t7_3 t9_5 (0, 0, 0)).2.2) then
            some (0, false)
          else
            bif (ltI 0 t9_5) then
              bif (inB (subI .i64 t9_5 1) (lenL l_1)) then
                bif (eqI (nth t7_3 t9_5 (0, 0, 0)).1 (nth l_1 (subI .i64 t9_5 1) (0, 0, 0)).1) then
                  some (0, false)
                else
                  self l_1 (addI .i64 n_2 (nth t7_3 t9_5 (0, 0, 0)).2.2) t7_3 t8_4 (addI .i64 t9_5 1)
              else none
            else
              self l_1 (addI .i64 n_2 (nth t7_3 t9_5 (0, 0, 0)).2.2) t7_3 t8_4 (addI .i64 t9_5 1)
    else none
  else
    some (n_2, true)
def runs_count.l0 : Nat → (List (Int × (Int × Int))) → Int → (List (Int × (Int × Int))) → Int → Int → Option (Int × Bool)
  | 0 => fun _ _ _ _ _ => none
  | n + 1 => runs_count.S0 (runs_count.l0 n)
def runs_count.S (j0 : (List (Int × (Int × Int))) → Int → (List (Int × (Int × Int))) → Int → Int → Option (Int × Bool)) (l : (List (Int × (Int × Int)))) : Option (Int × Bool) :=
  j0 l 0 l (lenL l) 0
def runs_count (l : (List (Int × (Int × Int)))) : Option (Int × Bool) := runs_count.S (runs_count.l0 fu) l
def strings_Builder_WriteString_w1 (b : (Bool × (List Int))) (s : ByteArray) : Option (Int × Bool × (Bool × (List Int))) :=
  bif (roomB ((List.length (bldUse b).2) + (ByteArray.size s)) 1) then
    some ((lenS s), true, (bldUse b).1, ((bldUse b).2 ++ (toBytes s)))
  else none
def runs_Put.S0 (self : (List (Int × (Int × Int))) → Int → Int → (Bool × (List Int)) → Option (ByteArray × Int)) (t16_2 : (List (Int × (Int × Int)))) (t17_3 : Int) (t18_4 : Int) (b_5 : (Bool × (List Int))) : Option (ByteArray × Int) :=
  bif (ltI t18_4 t17_3) then
    bif (inB t18_4 (lenL t16_2)) then
      ((vint_Put (nth t16_2 t18_4 (0, 0, 0)).1)).bind fun r_6 =>
      ((strings_Builder_WriteString_w1 b_5 r_6)).bind fun r_7 =>
      ((vint_Put (nth t16_2 t18_4 (0, 0, 0)).2.2)).bind fun r_8 =>
      ((strings_Builder_WriteString_w1 r_7.2.2 r_8)).bind fun r_9 =>
      self t16_2 t17_3 (addI .i64 t18_4 1) r_9.2.2
    else none
  else
    ((bldStr b_5)).bind fun r_10 =>
    some (r_10.1, 0)
def runs_Put.l0 : Nat → (List (Int × (Int × Int))) → Int → Int → (Bool × (List Int)) → Option (ByteArray × Int)
  | 0 => fun _ _ _ _ => none
  | n + 1 => runs_Put.S0 (runs_Put.l0 n)
def runs_Put.S (j0 : (List (Int × (Int × Int))) → Int → Int → (Bool × (List Int)) → Option (ByteArray × Int)) (l : (List (Int × (Int × Int)))) : Option (ByteArray × Int) :=
  ((runs_count l)).bind fun r_1 =>
  bif (!r_1.2) then
    some (eB, 1)
  else
    j0 l (lenL l) 0 (true, [])
def runs_Put (l : (List (Int × (Int × Int)))) : Option (ByteArray × Int) := runs_Put.S (runs_Put.l0 fu) l
def frame_far (xfrom : Int) (xto : Int) : Int :=
  (IntKind.wrap .i64 (subI .u64 (IntKind.wrap .u64 xto) (IntKind.wrap .u64 xfrom)))
def slices_Min_int_int.S1 (self : (List Int) → Int → Int → Option (Int)) (x_2 : (List Int)) (m_3 : Int) (i_4 : Int) : Option (Int) :=
  bif (ltI i_4 (lenL x_2)) then
    bif (inB i_4 (lenL x_2)) then
      self x_2 (minI m_3 (nth x_2 i_4 0)) (addI .i64 i_4 1)
    else none
  else
    some m_3
def slices_Min_int_int.l1 : Nat → (List Int) → Int → Int → Option (Int)
  | 0 => fun _ _ _ => none
  | n + 1 => slices_Min_int_int.S1 (slices_Min_int_int.l1 n)
def slices_Min_int_int.S0 (j1 : (List Int) → Int → Int → Option (Int)) (x_1 : (List Int)) : Option (Int) :=
  bif (inB 0 (lenL x_1)) then
    j1 x_1 (nth x_1 0 0) 1
  else none
def slices_Min_int_int.t0 : Nat → (List Int) → Option (Int)
  | 0 => fun _ => none
  | n + 1 => slices_Min_int_int.S0 (slices_Min_int_int.l1 n)
def slices_Min_int_int.S (j0 : (List Int) → Option (Int)) (x : (List Int)) : Option (Int) :=
  bif (ltI (lenL x) 1) then
    none
  else
    j0 x
def slices_Min_int_int (x : (List Int)) : Option (Int) := slices_Min_int_int.S (slices_Min_int_int.t0 fu) x
def frame_steps.S2 (self : Int → Int → Int → (List Int) → Option ((List Int) × Int)) (least_7 : Int) (t33_8 : Int) (t34_9 : Int) (t10_10 : (List Int)) : Option ((List Int) × Int) :=
  bif (ltI t34_9 t33_8) then
    bif (inB t34_9 (lenL t10_10)) then
      bif (inB t34_9 (lenL t10_10)) then
        self least_7 t33_8 (addI .i64 t34_9 1) (List.set t10_10 (Int.toNat t34_9) (frame_far least_7 (List.getD t10_10 (Int.toNat t34_9) 0)))
      else none
    else none
  else
    some (t10_10, least_7)
def frame_steps.l2 : Nat → Int → Int → Int → (List Int) → Option ((List Int) × Int)
  | 0 => fun _ _ _ _ => none
  | n + 1 => frame_steps.S2 (frame_steps.l2 n)
def frame_steps.S1 (j2 : Int → Int → Int → (List Int) → Option ((List Int) × Int)) (t10_5 : (List Int)) : Option ((List Int) × Int) :=
  ((slices_Min_int_int t10_5)).bind fun r_6 =>
  j2 r_6 (lenL t10_5) 0 t10_5
def frame_steps.t1 : Nat → (List Int) → Option ((List Int) × Int)
  | 0 => fun _ => none
  | n + 1 => frame_steps.S1 (frame_steps.l2 n)
def frame_steps.S0 (o1_0 : (List Int) → Option ((List Int) × Int)) (self : (List Int) → Int → (List Int) → Option ((List Int) × Int)) (l_1 : (List Int)) (k_2 : Int) (t10_3 : (List Int)) : Option ((List Int) × Int) :=
  bif (ltI k_2 (lenL l_1)) then
    bif (inB (subI .i64 k_2 1) (lenL l_1)) then
      bif (inB k_2 (lenL l_1)) then
        bif (roomB ((List.length t10_3) + 1) 8) then
          self l_1 (addI .i64 k_2 1) (t10_3 ++ [(frame_far (nth l_1 (subI .i64 k_2 1) 0) (nth l_1 k_2 0))])
        else none
      else none
    else none
  else
    o1_0 t10_3
def frame_steps.l0 (o1_0 : (List Int) → Option ((List Int) × Int)) : Nat → (List Int) → Int → (List Int) → Option ((List Int) × Int)
  | 0 => fun _ _ _ => none
  | n + 1 => frame_steps.S0 o1_0 (frame_steps.l0 o1_0 n)
def frame_steps.S (j0 : (List Int) → Int → (List Int) → Option ((List Int) × Int)) (l : (List Int)) : Option ((List Int) × Int) :=
  bif ((leI 0 (lenL l)) && (roomB (Int.toNat (lenL l)) 8)) then
    j0 l 1 []
  else none
def frame_steps (l : (List Int)) : Option ((List Int) × Int) := frame_steps.S (frame_steps.l0 (frame_steps.t1 fu) fu) l
def frame_Put (l : (List Int)) : Option (ByteArray × Int) :=
  bif (ltI 65536 (lenL l)) then
    some (eB, 1)
  else
    bif (eqI (lenL l) 0) then
      some (eB, 0)
    else
      bif (eqI (lenL l) 1) then
        bif (inB 0 (lenL l)) then
          ((vint_Put (nth l 0 0))).bind fun r_1 =>
          some (r_1, 0)
        else none
      else
        ((frame_steps l)).bind fun r_2 =>
        ((pack_Width r_2.1)).bind fun r_3 =>
        ((pack_Put r_2.1 r_3)).bind fun r_4 =>
        bif (inB 0 (lenL l)) then
          ((vint_Put (nth l 0 0))).bind fun r_5 =>
          ((vint_Put r_2.2)).bind fun r_6 =>
          bif (roomS r_5 r_6) then
            bif (roomS (addS r_5 r_6) (ofBytes [(IntKind.wrap .u8 r_3)])) then
              bif (roomS (addS (addS r_5 r_6) (ofBytes [(IntKind.wrap .u8 r_3)])) r_4.1) then
                some ((addS (addS (addS r_5 r_6) (ofBytes [(IntKind.wrap .u8 r_3)])) r_4.1), r_4.2)
              else none
            else none
          else none
        else none
def cmp_Less_int (x : Int) (y : Int) : Bool :=
  bif (cmp_isNaN_int x) then
    bif (!(cmp_isNaN_int y)) then
      true
    else
      (ltI x y)
  else
    (ltI x y)
def cmp_Less_int.o (x : Int) (y : Int) : Option (Bool) :=
  bif (cmp_isNaN_int x) then
    bif (!(cmp_isNaN_int y)) then
      some true
    else
      some (ltI x y)
  else
    some (ltI x y)
def slices_isNaN_int (x : Int) : Bool :=
  (neI x x)
def slices_BinarySearch_int_int.S1 (x_7 : (List Int)) (target_8 : Int) (n_9 : Int) (i_10 : Int) : Option (Int × Bool) :=
  bif (ltI i_10 n_9) then
    bif (inB i_10 (lenL x_7)) then
      bif (eqI (nth x_7 i_10 0) target_8) then
        some (i_10, true)
      else
        bif (inB i_10 (lenL x_7)) then
          bif (slices_isNaN_int (nth x_7 i_10 0)) then
            some (i_10, (slices_isNaN_int target_8))
          else
            some (i_10, false)
        else none
    else none
  else
    some (i_10, false)
def slices_BinarySearch_int_int.t1 : Nat → (List Int) → Int → Int → Int → Option (Int × Bool)
  | 0 => fun _ _ _ _ => none
  | _ + 1 => slices_BinarySearch_int_int.S1
def slices_BinarySearch_int_int.S0 (o1_0 : (List Int) → Int → Int → Int → Option (Int × Bool)) (self : (List Int) → Int → Int → Int → Int → Option (Int × Bool)) (x_1 : (List Int)) (target_2 : Int) (n_3 : Int) (i_4 : Int) (j_5 : Int) : Option (Int × Bool) :=
  bif (ltI i_4 j_5) then
    bif (inB (IntKind.wrap .i64 (shrI .u64 (IntKind.wrap .u64 (addI .i64 i_4 j_5)) 1)) (lenL x_1)) then
      bif (cmp_Less_int (nth x_1 (IntKind.wrap .i64 (shrI .u64 (IntKind.wrap .u64 (addI .i64 i_4 j_5)) 1)) 0) target_2) then
        self x_1 target_2 n_3 (addI .i64 (IntKind.wrap .i64 (shrI .u64 (IntKind.wrap .u64 (addI .i64 i_4 j_5)) 1)) 1) j_5
      else
        self x_1 target_2 n_3 i_4 (IntKind.wrap .i64 (shrI .u64 (IntKind.wrap .u64 (addI .i64 i_4 j_5)) 1))
    else none
  else
    o1_0 x_1 target_2 n_3 i_4
def slices_BinarySearch_int_int.l0 (o1_0 : (List Int) → Int → Int → Int → Option (Int × Bool)) : Nat → (List Int) → Int → Int → Int → Int → Option (Int × Bool)
  | 0 => fun _ _ _ _ _ => none
  | n + 1 => slices_BinarySearch_int_int.S0 o1_0 (slices_BinarySearch_int_int.l0 o1_0 n)
def slices_BinarySearch_int_int.S (j0 : (List Int) → Int → Int → Int → Int → Option (Int × Bool)) (x : (List Int)) (target : Int) : Option (Int × Bool) :=
  j0 x target (lenL x) 0 (lenL x)
def slices_BinarySearch_int_int (x : (List Int)) (target : Int) : Option (Int × Bool) := slices_BinarySearch_int_int.S (slices_BinarySearch_int_int.l0 (slices_BinarySearch_int_int.t1 fu) fu) x target
def dict_Of_int.S0 (self : Nat → Nat → (List Int) → (List Int) → Int → Int → (List Int) → Option ((List Int) × (List Int))) (dlo_4 : Nat) (dn_5 : Nat) (places_6 : (List Int)) (t16_7 : (List Int)) (t17_8 : Int) (t18_9 : Int) (t11_10 : (List Int)) : Option ((List Int) × (List Int)) :=
  bif (ltI t18_9 t17_8) then
    bif (inB t18_9 (lenL t16_7)) then
      ((slices_BinarySearch_int_int (List.take dn_5 (List.drop dlo_4 t11_10)) (nth t16_7 t18_9 0))).bind fun r_11 =>
      bif (roomB ((List.length places_6) + 1) 8) then
        self dlo_4 dn_5 (places_6 ++ [r_11.1]) t16_7 t17_8 (addI .i64 t18_9 1) t11_10
      else none
    else none
  else
    some ((List.take dn_5 (List.drop dlo_4 t11_10)), places_6)
def dict_Of_int.l0 : Nat → Nat → Nat → (List Int) → (List Int) → Int → Int → (List Int) → Option ((List Int) × (List Int))
  | 0 => fun _ _ _ _ _ _ _ => none
  | n + 1 => dict_Of_int.S0 (dict_Of_int.l0 n)
def dict_Of_int.S (j0 : Nat → Nat → (List Int) → (List Int) → Int → Int → (List Int) → Option ((List Int) × (List Int))) (l : (List Int)) : Option ((List Int) × (List Int)) :=
  ((cloneL 8 l)).bind fun r_1 =>
  ((guardA ((decide (0 < (List.length r_1))) && true) (sortI r_1) fun _x => ((decide ((List.length _x) = (List.length r_1))) && true))).bind fun r_2 =>
  ((guardA ((decide (0 < (List.length r_2))) && true) (compI r_2) fun _x => ((decide ((List.length _x.2) = (List.length r_2))) && true))).bind fun r_3 =>
  j0 0 (Int.toNat r_3.1) [] l (lenL l) 0 r_3.2
def dict_Of_int (l : (List Int)) : Option ((List Int) × (List Int)) := dict_Of_int.S (dict_Of_int.l0 fu) l
def dict_ints.S0 (self : (List Int) → Int → Int → (Bool × (List Int)) → Option (ByteArray × Int)) (t7_1 : (List Int)) (t8_2 : Int) (t9_3 : Int) (b_4 : (Bool × (List Int))) : Option (ByteArray × Int) :=
  bif (ltI t9_3 t8_2) then
    bif (inB t9_3 (lenL t7_1)) then
      ((vint_Put (nth t7_1 t9_3 0))).bind fun r_5 =>
      ((strings_Builder_WriteString_w1 b_4 r_5)).bind fun r_6 =>
      self t7_1 t8_2 (addI .i64 t9_3 1) r_6.2.2
    else none
  else
    ((bldStr b_4)).bind fun r_7 =>
    some (r_7.1, 0)
def dict_ints.l0 : Nat → (List Int) → Int → Int → (Bool × (List Int)) → Option (ByteArray × Int)
  | 0 => fun _ _ _ _ => none
  | n + 1 => dict_ints.S0 (dict_ints.l0 n)
def dict_ints.S (j0 : (List Int) → Int → Int → (Bool × (List Int)) → Option (ByteArray × Int)) (d : (List Int)) : Option (ByteArray × Int) :=
  j0 d (lenL d) 0 (true, [])
def dict_ints (d : (List Int)) : Option (ByteArray × Int) := dict_ints.S (dict_ints.l0 fu) d
def dict_put_int__dict_ints (l : (List Int)) : Option (ByteArray × Int) :=
  bif (ltI 65536 (lenL l)) then
    some (eB, 1)
  else
    bif (eqI (lenL l) 0) then
      some (eB, 0)
    else
      ((dict_Of_int l)).bind fun r_1 =>
      ((dict_ints r_1.1)).bind fun r_2 =>
      bif (neI r_2.2 0) then
        some (eB, r_2.2)
      else
        ((pack_Width r_1.2)).bind fun r_3 =>
        ((pack_Put r_1.2 r_3)).bind fun r_4 =>
        ((vint_Put (lenL r_1.1))).bind fun r_5 =>
        bif (roomS r_5 r_2.1) then
          bif (roomS (addS r_5 r_2.1) r_4.1) then
            some ((addS (addS r_5 r_2.1) r_4.1), r_4.2)
          else none
        else none
def dict_PutInts (l : (List Int)) : Option (ByteArray × Int) :=
  ((dict_put_int__dict_ints l)).bind fun r_1 =>
  some r_1
def block_numbers (l : (List Int)) (code : Int) : Option (ByteArray × Int) :=
  bif (eqI code 1) then
    ((plain_PutInts l)).bind fun r_1 =>
    some (r_1, 0)
  else
    bif (eqI code 2) then
      ((runs_Of l)).bind fun r_2 =>
      ((runs_Put r_2)).bind fun r_3 =>
      some r_3
    else
      bif (eqI code 3) then
        ((frame_Put l)).bind fun r_4 =>
        some r_4
      else
        bif (eqI code 4) then
          ((dict_PutInts l)).bind fun r_5 =>
          some r_5
        else
          bif (eqI code 5) then
            ((pack_Width l)).bind fun r_6 =>
            ((pack_Put l r_6)).bind fun r_7 =>
            bif (roomS (ofBytes [(IntKind.wrap .u8 r_6)]) r_7.1) then
              some ((addS (ofBytes [(IntKind.wrap .u8 r_6)]) r_7.1), r_7.2)
            else none
          else
            some (eB, 1)
def strings_Builder_WriteByte_w1 (b : (Bool × (List Int))) (c : Int) : Option (Bool × (Bool × (List Int))) :=
  bif (roomB ((List.length (bldUse b).2) + 1) 1) then
    some (true, (bldUse b).1, ((bldUse b).2 ++ [c]))
  else none
def plain_PutTexts.S0 (self : (List ByteArray) → Int → Int → (Bool × (List Int)) → Option (ByteArray × Int)) (t7_1 : (List ByteArray)) (t8_2 : Int) (t9_3 : Int) (b_4 : (Bool × (List Int))) : Option (ByteArray × Int) :=
  bif (ltI t9_3 t8_2) then
    bif (inB t9_3 (lenL t7_1)) then
      bif (ltI 32 (lenS (nth t7_1 t9_3 eB))) then
        some (eB, 1)
      else
        ((strings_Builder_WriteByte_w1 b_4 (IntKind.wrap .u8 (lenS (nth t7_1 t9_3 eB))))).bind fun r_5 =>
        ((strings_Builder_WriteString_w1 r_5.2 (nth t7_1 t9_3 eB))).bind fun r_6 =>
        self t7_1 t8_2 (addI .i64 t9_3 1) r_6.2.2
    else none
  else
    ((bldStr b_4)).bind fun r_7 =>
    some (r_7.1, 0)
def plain_PutTexts.l0 : Nat → (List ByteArray) → Int → Int → (Bool × (List Int)) → Option (ByteArray × Int)
  | 0 => fun _ _ _ _ => none
  | n + 1 => plain_PutTexts.S0 (plain_PutTexts.l0 n)
def plain_PutTexts.S (j0 : (List ByteArray) → Int → Int → (Bool × (List Int)) → Option (ByteArray × Int)) (l : (List ByteArray)) : Option (ByteArray × Int) :=
  j0 l (lenL l) 0 (true, [])
def plain_PutTexts (l : (List ByteArray)) : Option (ByteArray × Int) := plain_PutTexts.S (plain_PutTexts.l0 fu) l
def cmp_isNaN_string (x : ByteArray) : Bool :=
  (!(eqS x x))
def cmp_Less_string (x : ByteArray) (y : ByteArray) : Bool :=
  bif (cmp_isNaN_string x) then
    bif (!(cmp_isNaN_string y)) then
      true
    else
      (ltS x y)
  else
    (ltS x y)
def cmp_Less_string.o (x : ByteArray) (y : ByteArray) : Option (Bool) :=
  bif (cmp_isNaN_string x) then
    bif (!(cmp_isNaN_string y)) then
      some true
    else
      some (ltS x y)
  else
    some (ltS x y)
def slices_isNaN_string (x : ByteArray) : Bool :=
  (!(eqS x x))
def slices_BinarySearch_string_string.S1 (x_7 : (List ByteArray)) (target_8 : ByteArray) (n_9 : Int) (i_10 : Int) : Option (Int × Bool) :=
  bif (ltI i_10 n_9) then
    bif (inB i_10 (lenL x_7)) then
      bif (eqS (nth x_7 i_10 eB) target_8) then
        some (i_10, true)
      else
        bif (inB i_10 (lenL x_7)) then
          bif (slices_isNaN_string (nth x_7 i_10 eB)) then
            some (i_10, (slices_isNaN_string target_8))
          else
            some (i_10, false)
        else none
    else none
  else
    some (i_10, false)
def slices_BinarySearch_string_string.t1 : Nat → (List ByteArray) → ByteArray → Int → Int → Option (Int × Bool)
  | 0 => fun _ _ _ _ => none
  | _ + 1 => slices_BinarySearch_string_string.S1
def slices_BinarySearch_string_string.S0 (o1_0 : (List ByteArray) → ByteArray → Int → Int → Option (Int × Bool)) (self : (List ByteArray) → ByteArray → Int → Int → Int → Option (Int × Bool)) (x_1 : (List ByteArray)) (target_2 : ByteArray) (n_3 : Int) (i_4 : Int) (j_5 : Int) : Option (Int × Bool) :=
  bif (ltI i_4 j_5) then
    bif (inB (IntKind.wrap .i64 (shrI .u64 (IntKind.wrap .u64 (addI .i64 i_4 j_5)) 1)) (lenL x_1)) then
      bif (cmp_Less_string (nth x_1 (IntKind.wrap .i64 (shrI .u64 (IntKind.wrap .u64 (addI .i64 i_4 j_5)) 1)) eB) target_2) then
        self x_1 target_2 n_3 (addI .i64 (IntKind.wrap .i64 (shrI .u64 (IntKind.wrap .u64 (addI .i64 i_4 j_5)) 1)) 1) j_5
      else
        self x_1 target_2 n_3 i_4 (IntKind.wrap .i64 (shrI .u64 (IntKind.wrap .u64 (addI .i64 i_4 j_5)) 1))
    else none
  else
    o1_0 x_1 target_2 n_3 i_4
def slices_BinarySearch_string_string.l0 (o1_0 : (List ByteArray) → ByteArray → Int → Int → Option (Int × Bool)) : Nat → (List ByteArray) → ByteArray → Int → Int → Int → Option (Int × Bool)
  | 0 => fun _ _ _ _ _ => none
  | n + 1 => slices_BinarySearch_string_string.S0 o1_0 (slices_BinarySearch_string_string.l0 o1_0 n)
def slices_BinarySearch_string_string.S (j0 : (List ByteArray) → ByteArray → Int → Int → Int → Option (Int × Bool)) (x : (List ByteArray)) (target : ByteArray) : Option (Int × Bool) :=
  j0 x target (lenL x) 0 (lenL x)
def slices_BinarySearch_string_string (x : (List ByteArray)) (target : ByteArray) : Option (Int × Bool) := slices_BinarySearch_string_string.S (slices_BinarySearch_string_string.l0 (slices_BinarySearch_string_string.t1 fu) fu) x target
def dict_Of_string.S0 (self : Nat → Nat → (List Int) → (List ByteArray) → Int → Int → (List ByteArray) → Option ((List ByteArray) × (List Int))) (dlo_4 : Nat) (dn_5 : Nat) (places_6 : (List Int)) (t16_7 : (List ByteArray)) (t17_8 : Int) (t18_9 : Int) (t11_10 : (List ByteArray)) : Option ((List ByteArray) × (List Int)) :=
  bif (ltI t18_9 t17_8) then
    bif (inB t18_9 (lenL t16_7)) then
      ((slices_BinarySearch_string_string (List.take dn_5 (List.drop dlo_4 t11_10)) (nth t16_7 t18_9 eB))).bind fun r_11 =>
      bif (roomB ((List.length places_6) + 1) 8) then
        self dlo_4 dn_5 (places_6 ++ [r_11.1]) t16_7 t17_8 (addI .i64 t18_9 1) t11_10
      else none
    else none
  else
    some ((List.take dn_5 (List.drop dlo_4 t11_10)), places_6)
def dict_Of_string.l0 : Nat → Nat → Nat → (List Int) → (List ByteArray) → Int → Int → (List ByteArray) → Option ((List ByteArray) × (List Int))
  | 0 => fun _ _ _ _ _ _ _ => none
  | n + 1 => dict_Of_string.S0 (dict_Of_string.l0 n)
def dict_Of_string.S (j0 : Nat → Nat → (List Int) → (List ByteArray) → Int → Int → (List ByteArray) → Option ((List ByteArray) × (List Int))) (l : (List ByteArray)) : Option ((List ByteArray) × (List Int)) :=
  ((cloneL 16 l)).bind fun r_1 =>
  ((guardA ((decide (0 < (List.length r_1))) && true) (sortS r_1) fun _x => ((decide ((List.length _x) = (List.length r_1))) && true))).bind fun r_2 =>
  ((guardA ((decide (0 < (List.length r_2))) && true) (compS r_2) fun _x => ((decide ((List.length _x.2) = (List.length r_2))) && true))).bind fun r_3 =>
  j0 0 (Int.toNat r_3.1) [] l (lenL l) 0 r_3.2
def dict_Of_string (l : (List ByteArray)) : Option ((List ByteArray) × (List Int)) := dict_Of_string.S (dict_Of_string.l0 fu) l
def dict_put_string__plain_PutTexts (l : (List ByteArray)) : Option (ByteArray × Int) :=
  bif (ltI 65536 (lenL l)) then
    some (eB, 1)
  else
    bif (eqI (lenL l) 0) then
      some (eB, 0)
    else
      ((dict_Of_string l)).bind fun r_1 =>
      ((plain_PutTexts r_1.1)).bind fun r_2 =>
      bif (neI r_2.2 0) then
        some (eB, r_2.2)
      else
        ((pack_Width r_1.2)).bind fun r_3 =>
        ((pack_Put r_1.2 r_3)).bind fun r_4 =>
        ((vint_Put (lenL r_1.1))).bind fun r_5 =>
        bif (roomS r_5 r_2.1) then
          bif (roomS (addS r_5 r_2.1) r_4.1) then
            some ((addS (addS r_5 r_2.1) r_4.1), r_4.2)
          else none
        else none
def dict_PutTexts (l : (List ByteArray)) : Option (ByteArray × Int) :=
  ((dict_put_string__plain_PutTexts l)).bind fun r_1 =>
  some r_1
def block_words (l : (List ByteArray)) (code : Int) : Option (ByteArray × Int) :=
  bif (eqI code 1) then
    ((plain_PutTexts l)).bind fun r_1 =>
    some r_1
  else
    bif (eqI code 4) then
      ((dict_PutTexts l)).bind fun r_2 =>
      some r_2
    else
      bif (eqI code 2) then
        bif (eqI (lenL l) 0) then
          some (eB, 0)
        else
          ((dict_Of_string l)).bind fun r_3 =>
          ((plain_PutTexts r_3.1)).bind fun r_4 =>
          bif (neI r_4.2 0) then
            some (eB, r_4.2)
          else
            ((runs_Of r_3.2)).bind fun r_5 =>
            ((runs_Put r_5)).bind fun r_6 =>
            ((vint_Put (lenL r_3.1))).bind fun r_7 =>
            bif (roomS r_7 r_4.1) then
              bif (roomS (addS r_7 r_4.1) r_6.1) then
                some ((addS (addS r_7 r_4.1) r_6.1), r_6.2)
              else none
            else none
      else
        some (eB, 1)
def block_values.S1 (kind_8 : Int) (code_9 : Int) (n_10 : (List Int)) (t_11 : (List ByteArray)) : Option (ByteArray × Int) :=
  bif (eqI kind_8 1) then
    ((block_numbers n_10 code_9)).bind fun r_12 =>
    some r_12
  else
    ((block_words t_11 code_9)).bind fun r_13 =>
    some r_13
def block_values.t1 : Nat → Int → Int → (List Int) → (List ByteArray) → Option (ByteArray × Int)
  | 0 => fun _ _ _ _ => none
  | _ + 1 => block_values.S1
def block_values.S0 (o1_0 : Int → Int → (List Int) → (List ByteArray) → Option (ByteArray × Int)) (self : Int → Int → (List Int) → (List ByteArray) → (List (Int × (Int × ByteArray))) → Int → Int → Option (ByteArray × Int)) (kind_1 : Int) (code_2 : Int) (n_3 : (List Int)) (t_4 : (List ByteArray)) (t12_5 : (List (Int × (Int × ByteArray)))) (t13_6 : Int) (t14_7 : Int) : Option (ByteArray × Int) :=
  bif (ltI t14_7 t13_6) then
    bif (inB t14_7 (lenL t12_5)) then
      bif (roomB ((List.length n_3) + 1) 8) then
        bif (roomB ((List.length t_4) + 1) 16) then
          self kind_1 code_2 (n_3 ++ [(nth t12_5 t14_7 (0, 0, eB)).2.1]) (t_4 ++ [(nth t12_5 t14_7 (0, 0, eB)).2.2]) t12_5 t13_6 (addI .i64 t14_7 1)
        else none
      else none
    else none
  else
    o1_0 kind_1 code_2 n_3 t_4
def block_values.l0 (o1_0 : Int → Int → (List Int) → (List ByteArray) → Option (ByteArray × Int)) : Nat → Int → Int → (List Int) → (List ByteArray) → (List (Int × (Int × ByteArray))) → Int → Int → Option (ByteArray × Int)
  | 0 => fun _ _ _ _ _ _ _ => none
  | n + 1 => block_values.S0 o1_0 (block_values.l0 o1_0 n)
def block_values.S (j0 : Int → Int → (List Int) → (List ByteArray) → (List (Int × (Int × ByteArray))) → Int → Int → Option (ByteArray × Int)) (l : (List (Int × (Int × ByteArray)))) (kind : Int) (code : Int) : Option (ByteArray × Int) :=
  j0 kind code [] [] l (lenL l) 0
def block_values (l : (List (Int × (Int × ByteArray)))) (kind : Int) (code : Int) : Option (ByteArray × Int) := block_values.S (block_values.l0 (block_values.t1 fu) fu) l kind code
def check_More.S1 (o0_1 : ByteArray → Int → Int → Int → Option (Int)) (self : ByteArray → Int → Int → Int → Int → Option (Int)) (s_5 : ByteArray) (n_6 : Int) (t11_7 : Int) (t12_8 : Int) (t21_9 : Int) : Option (Int) :=
  bif (ltI t21_9 8) then
    self s_5 (xorI .u32 (shrI .u32 n_6 1) (andI .u32 2197175160 (subI .u32 0 (andI .u32 n_6 1)))) t11_7 t12_8 (addI .i64 t21_9 1)
  else
    o0_1 s_5 n_6 t11_7 (addI .i64 t12_8 1)
def check_More.l1 (o0_1 : ByteArray → Int → Int → Int → Option (Int)) : Nat → ByteArray → Int → Int → Int → Int → Option (Int)
  | 0 => fun _ _ _ _ _ => none
  | n + 1 => check_More.S1 o0_1 (check_More.l1 o0_1 n)
def check_More.S0 (j1 : ByteArray → Int → Int → Int → Int → Option (Int)) (s_1 : ByteArray) (n_2 : Int) (t11_3 : Int) (t12_4 : Int) : Option (Int) :=
  bif (ltI t12_4 t11_3) then
    bif (inB t12_4 (lenS s_1)) then
      j1 s_1 (xorI .u32 n_2 (IntKind.wrap .u32 (byteAt s_1 t12_4))) t11_3 t12_4 0
    else none
  else
    some (IntKind.wrap .i64 (xorI .u32 4294967295 n_2))
def check_More.l0 : Nat → ByteArray → Int → Int → Int → Option (Int)
  | 0 => fun _ _ _ _ => none
  | n + 1 => check_More.S0 (check_More.l1 (check_More.l0 n) n)
def check_More.S (j0 : ByteArray → Int → Int → Int → Option (Int)) (sum : Int) (s : ByteArray) : Option (Int) :=
  j0 s (xorI .u32 4294967295 (IntKind.wrap .u32 sum)) (lenS s) 0
def check_More (sum : Int) (s : ByteArray) : Option (Int) := check_More.S (check_More.l0 fu) sum s
def check_Sum (s : ByteArray) : Option (Int) :=
  ((check_More 0 s)).bind fun r_1 =>
  some r_1
def check_Seal.S0 (self : Int → (List Int) → Int → Option (ByteArray)) (n_2 : Int) (b_3 : (List Int)) (t16_4 : Int) : Option (ByteArray) :=
  bif (ltI t16_4 4) then
    bif (leI 0 (mulI .i64 8 t16_4)) then
      bif (roomB ((List.length b_3) + 1) 1) then
        self n_2 (b_3 ++ [(IntKind.wrap .u8 (shrI .u32 n_2 (mulI .i64 8 t16_4)))]) (addI .i64 t16_4 1)
      else none
    else none
  else
    some (ofBytes b_3)
def check_Seal.l0 : Nat → Int → (List Int) → Int → Option (ByteArray)
  | 0 => fun _ _ _ => none
  | n + 1 => check_Seal.S0 (check_Seal.l0 n)
def check_Seal.S (j0 : Int → (List Int) → Int → Option (ByteArray)) (s : ByteArray) : Option (ByteArray) :=
  ((check_Sum s)).bind fun r_1 =>
  bif ((leI 0 (addI .i64 (lenS s) 4)) && (roomB (Int.toNat (addI .i64 (lenS s) 4)) 1)) then
    bif (roomB (0 + (ByteArray.size s)) 1) then
      j0 (IntKind.wrap .u32 r_1) (toBytes s) 0
    else none
  else none
def check_Seal (s : ByteArray) : Option (ByteArray) := check_Seal.S (check_Seal.l0 fu) s
def block_Put (l : (List (Int × (Int × ByteArray)))) (kind : Int) (code : Int) : Option (ByteArray × Int) :=
  ((block_may l kind)).bind fun r_1 =>
  bif (!r_1) then
    some (eB, 1)
  else
    ((nulls_Split l)).bind fun r_2 =>
    ((block_values r_2.2 kind code)).bind fun r_3 =>
    bif (neI r_3.2 0) then
      some (eB, 1)
    else
      bif (roomS (ofBytes [(IntKind.wrap .u8 kind), (IntKind.wrap .u8 code), (IntKind.wrap .u8 (lenL l)), (IntKind.wrap .u8 (lenS r_2.1))]) r_2.1) then
        bif (roomS (addS (ofBytes [(IntKind.wrap .u8 kind), (IntKind.wrap .u8 code), (IntKind.wrap .u8 (lenL l)), (IntKind.wrap .u8 (lenS r_2.1))]) r_2.1) r_3.1) then
          ((check_Seal (addS (addS (ofBytes [(IntKind.wrap .u8 kind), (IntKind.wrap .u8 code), (IntKind.wrap .u8 (lenL l)), (IntKind.wrap .u8 (lenS r_2.1))]) r_2.1) r_3.1))).bind fun r_4 =>
          some (r_4, 0)
        else none
      else none
def check_Open (s : ByteArray) : Option (ByteArray × Int) :=
  bif (ltI (subI .i64 (lenS s) 4) 0) then
    some (eB, 5)
  else
    bif (inC 0 (subI .i64 (lenS s) 4) (lenS s)) then
      ((check_Seal (cutS s 0 (subI .i64 (lenS s) 4)))).bind fun r_1 =>
      bif (!(eqS r_1 s)) then
        some (eB, 5)
      else
        bif (inC 0 (subI .i64 (lenS s) 4) (lenS s)) then
          some ((cutS s 0 (subI .i64 (lenS s) 4)), 0)
        else none
    else none
def pack_word.S0 (self : ByteArray → Int → Int → Int → Int → Option (Int)) (s_1 : ByteArray) (width_2 : Int) (w_3 : Int) (at_4 : Int) (got_5 : Int) : Option (Int) :=
  bif (ltI got_5 width_2) then
    bif (inB (shrI .i64 at_4 3) (lenS s_1)) then
      bif (leI 0 (andI .i64 at_4 7)) then
        ((bits_Mask (minI (subI .i64 8 (andI .i64 at_4 7)) (subI .i64 width_2 got_5)))).bind fun r_6 =>
        bif (leI 0 got_5) then
          self s_1 width_2 (orI .u64 w_3 (shlI .u64 (andI .u64 (shrI .u64 (IntKind.wrap .u64 (byteAt s_1 (shrI .i64 at_4 3))) (andI .i64 at_4 7)) (IntKind.wrap .u64 r_6)) got_5)) (addI .i64 at_4 (minI (subI .i64 8 (andI .i64 at_4 7)) (subI .i64 width_2 got_5))) (addI .i64 got_5 (minI (subI .i64 8 (andI .i64 at_4 7)) (subI .i64 width_2 got_5)))
        else none
      else none
    else none
  else
    some (IntKind.wrap .i64 w_3)
def pack_word.l0 : Nat → ByteArray → Int → Int → Int → Int → Option (Int)
  | 0 => fun _ _ _ _ _ => none
  | n + 1 => pack_word.S0 (pack_word.l0 n)
def pack_word.S (j0 : ByteArray → Int → Int → Int → Int → Option (Int)) (s : ByteArray) (xk : Int) (width : Int) : Option (Int) :=
  j0 s width 0 (mulI .i64 xk width) 0
def pack_word (s : ByteArray) (xk : Int) (width : Int) : Option (Int) := pack_word.S (pack_word.l0 fu) s xk width
def pack_Take.S1 (self : ByteArray → Int → Int → Int → (List Int) → Option ((List Int) × Int)) (s_5 : ByteArray) (width_6 : Int) (t49_7 : Int) (t50_8 : Int) (t48_9 : (List Int)) : Option ((List Int) × Int) :=
  bif (ltI t50_8 t49_7) then
    ((pack_word s_5 t50_8 width_6)).bind fun r_10 =>
    bif (inB t50_8 (lenL t48_9)) then
      self s_5 width_6 t49_7 (addI .i64 t50_8 1) (List.set t48_9 (Int.toNat t50_8) r_10)
    else none
  else
    some (t48_9, 0)
def pack_Take.l1 : Nat → ByteArray → Int → Int → Int → (List Int) → Option ((List Int) × Int)
  | 0 => fun _ _ _ _ _ => none
  | n + 1 => pack_Take.S1 (pack_Take.l1 n)
def pack_Take.S0 (j1 : ByteArray → Int → Int → Int → (List Int) → Option ((List Int) × Int)) (s_2 : ByteArray) (n_3 : Int) (width_4 : Int) : Option ((List Int) × Int) :=
  bif ((leI 0 n_3) && (roomB (Int.toNat n_3) 8)) then
    j1 s_2 width_4 n_3 0 (List.replicate (Int.toNat n_3) (0 : Int))
  else none
def pack_Take.t0 : Nat → ByteArray → Int → Int → Option ((List Int) × Int)
  | 0 => fun _ _ _ => none
  | n + 1 => pack_Take.S0 (pack_Take.l1 n)
def pack_Take.S (j0 : ByteArray → Int → Int → Option ((List Int) × Int)) (s : ByteArray) (xn : Int) (width : Int) : Option ((List Int) × Int) :=
  bif (ltI width 0) then
    some ([], 1)
  else
    bif (ltI 64 width) then
      some ([], 1)
    else
      bif (ltI xn 0) then
        some ([], 1)
      else
        bif (ltI 65536 xn) then
          some ([], 1)
        else
          bif (neI (lenS s) (pack_Bytes xn width)) then
            some ([], 20)
          else
            bif (ltI 0 (andI .i64 (mulI .i64 xn width) 7)) then
              bif (inB (subI .i64 (lenS s) 1) (lenS s)) then
                bif (leI 0 (andI .i64 (mulI .i64 xn width) 7)) then
                  bif (ltI 0 (shrI .u8 (byteAt s (subI .i64 (lenS s) 1)) (andI .i64 (mulI .i64 xn width) 7))) then
                    some ([], 20)
                  else
                    j0 s xn width
                else none
              else none
            else
              j0 s xn width
def pack_Take (s : ByteArray) (xn : Int) (width : Int) : Option ((List Int) × Int) := pack_Take.S (pack_Take.t0 fu) s xn width
def slices_Index_int_int.S0 (self : (List Int) → Int → Int → Int → Option (Int)) (s_1 : (List Int)) (v_2 : Int) (t7_3 : Int) (t8_4 : Int) : Option (Int) :=
  bif (ltI t8_4 t7_3) then
    bif (inB t8_4 (lenL s_1)) then
      bif (eqI v_2 (nth s_1 t8_4 0)) then
        some t8_4
      else
        self s_1 v_2 t7_3 (addI .i64 t8_4 1)
    else none
  else
    some (-1)
def slices_Index_int_int.l0 : Nat → (List Int) → Int → Int → Int → Option (Int)
  | 0 => fun _ _ _ _ => none
  | n + 1 => slices_Index_int_int.S0 (slices_Index_int_int.l0 n)
def slices_Index_int_int.S (j0 : (List Int) → Int → Int → Int → Option (Int)) (s : (List Int)) (v : Int) : Option (Int) :=
  j0 s v (lenL s) 0
def slices_Index_int_int (s : (List Int)) (v : Int) : Option (Int) := slices_Index_int_int.S (slices_Index_int_int.l0 fu) s v
def slices_Contains_int_int (s : (List Int)) (v : Int) : Option (Bool) :=
  ((slices_Index_int_int s v)).bind fun r_1 =>
  some (leI 0 r_1)
def nulls_bits (s : ByteArray) (xn : Int) : Option ((List Int) × Int) :=
  bif (ltI xn 0) then
    some ([], 1)
  else
    bif (ltI 65536 xn) then
      some ([], 1)
    else
      bif (eqS s eB) then
        bif ((leI 0 xn) && (roomB (Int.toNat xn) 8)) then
          some ((List.replicate (Int.toNat xn) (0 : Int)), 0)
        else none
      else
        ((pack_Take s xn 1)).bind fun r_1 =>
        bif (neI r_1.2 0) then
          some ([], 20)
        else
          ((slices_Contains_int_int r_1.1 1)).bind fun r_2 =>
          bif (!r_2) then
            some ([], 20)
          else
            some (r_1.1, 0)
def nulls_Count.S0 (self : Int → Int → (List Int) → Int → Int → Option (Int × Int)) (e_2 : Int) (k_3 : Int) (t17_4 : (List Int)) (t18_5 : Int) (t19_6 : Int) : Option (Int × Int) :=
  bif (ltI t19_6 t18_5) then
    bif (inB t19_6 (lenL t17_4)) then
      self e_2 (addI .i64 k_3 (nth t17_4 t19_6 0)) t17_4 t18_5 (addI .i64 t19_6 1)
    else none
  else
    some (k_3, e_2)
def nulls_Count.l0 : Nat → Int → Int → (List Int) → Int → Int → Option (Int × Int)
  | 0 => fun _ _ _ _ _ => none
  | n + 1 => nulls_Count.S0 (nulls_Count.l0 n)
def nulls_Count.S (j0 : Int → Int → (List Int) → Int → Int → Option (Int × Int)) (s : ByteArray) (xn : Int) : Option (Int × Int) :=
  ((nulls_bits s xn)).bind fun r_1 =>
  j0 r_1.2 0 r_1.1 (lenL r_1.1) 0
def nulls_Count (s : ByteArray) (xn : Int) : Option (Int × Int) := nulls_Count.S (nulls_Count.l0 fu) s xn
def plain_TakeInts.S1 (o0_1 : ByteArray → Int → Int → (List Int) → Option ((List Int) × Int)) (self : ByteArray → Int → Int → Int → Int → Int → (List Int) → Option ((List Int) × Int)) (s_5 : ByteArray) (k_6 : Int) (w_7 : Int) (t27_8 : Int) (t28_9 : Int) (t31_10 : Int) (t26_11 : (List Int)) : Option ((List Int) × Int) :=
  bif (ltI t31_10 8) then
    bif (inB (addI .i64 (mulI .i64 8 k_6) t31_10) (lenS s_5)) then
      bif (leI 0 (mulI .i64 8 t31_10)) then
        self s_5 k_6 (orI .u64 w_7 (shlI .u64 (IntKind.wrap .u64 (byteAt s_5 (addI .i64 (mulI .i64 8 k_6) t31_10))) (mulI .i64 8 t31_10))) t27_8 t28_9 (addI .i64 t31_10 1) t26_11
      else none
    else none
  else
    bif (inB k_6 (lenL t26_11)) then
      o0_1 s_5 t27_8 (addI .i64 t28_9 1) (List.set t26_11 (Int.toNat k_6) (IntKind.wrap .i64 w_7))
    else none
def plain_TakeInts.l1 (o0_1 : ByteArray → Int → Int → (List Int) → Option ((List Int) × Int)) : Nat → ByteArray → Int → Int → Int → Int → Int → (List Int) → Option ((List Int) × Int)
  | 0 => fun _ _ _ _ _ _ _ => none
  | n + 1 => plain_TakeInts.S1 o0_1 (plain_TakeInts.l1 o0_1 n)
def plain_TakeInts.S0 (j1 : ByteArray → Int → Int → Int → Int → Int → (List Int) → Option ((List Int) × Int)) (s_1 : ByteArray) (t27_2 : Int) (t28_3 : Int) (t26_4 : (List Int)) : Option ((List Int) × Int) :=
  bif (ltI t28_3 t27_2) then
    j1 s_1 t28_3 0 t27_2 t28_3 0 t26_4
  else
    some (t26_4, 0)
def plain_TakeInts.l0 : Nat → ByteArray → Int → Int → (List Int) → Option ((List Int) × Int)
  | 0 => fun _ _ _ _ => none
  | n + 1 => plain_TakeInts.S0 (plain_TakeInts.l1 (plain_TakeInts.l0 n) n)
def plain_TakeInts.S (j0 : ByteArray → Int → Int → (List Int) → Option ((List Int) × Int)) (s : ByteArray) (xn : Int) : Option ((List Int) × Int) :=
  bif (ltI xn 0) then
    some ([], 20)
  else
    bif (neI (remI (lenS s) 8) 0) then
      some ([], 20)
    else
      bif (neI xn (quoI .i64 (lenS s) 8)) then
        some ([], 20)
      else
        bif ((leI 0 xn) && (roomB (Int.toNat xn) 8)) then
          j0 s xn 0 (List.replicate (Int.toNat xn) (0 : Int))
        else none
def plain_TakeInts (s : ByteArray) (xn : Int) : Option ((List Int) × Int) := plain_TakeInts.S (plain_TakeInts.l0 fu) s xn
def runs_Take.S1 (n_7 : Int) (out_8 : (List (Int × (Int × Int)))) (first_9 : Int) : Option ((List (Int × (Int × Int))) × Int) :=
  ((runs_count out_8)).bind fun r_10 =>
  bif (!r_10.2) then
    some ([], 20)
  else
    bif (neI first_9 n_7) then
      some ([], 20)
    else
      some (out_8, 0)
def runs_Take.t1 : Nat → Int → (List (Int × (Int × Int))) → Int → Option ((List (Int × (Int × Int))) × Int)
  | 0 => fun _ _ _ => none
  | _ + 1 => runs_Take.S1
def runs_Take.S0 (o1_0 : Int → (List (Int × (Int × Int))) → Int → Option ((List (Int × (Int × Int))) × Int)) (self : ByteArray → Int → (List (Int × (Int × Int))) → Int → Option ((List (Int × (Int × Int))) × Int)) (s_1 : ByteArray) (n_2 : Int) (out_3 : (List (Int × (Int × Int)))) (first_4 : Int) : Option ((List (Int × (Int × Int))) × Int) :=
  bif (!(eqS s_1 eB)) then
    ((vint_Take s_1)).bind fun r_5 =>
    bif (neI r_5.2.2 0) then
      some ([], 20)
    else
      bif (inC r_5.2.1 (lenS s_1) (lenS s_1)) then
        ((vint_Take (cutS s_1 r_5.2.1 (lenS s_1)))).bind fun r_6 =>
        bif (neI r_6.2.2 0) then
          some ([], 20)
        else
          bif (ltI r_6.1 1) then
            some ([], 20)
          else
            bif (ltI (subI .i64 n_2 first_4) r_6.1) then
              some ([], 20)
            else
              bif (roomB ((List.length out_3) + 1) 24) then
                bif (inC (addI .i64 r_5.2.1 r_6.2.1) (lenS s_1) (lenS s_1)) then
                  self (cutS s_1 (addI .i64 r_5.2.1 r_6.2.1) (lenS s_1)) n_2 (out_3 ++ [(r_5.1, first_4, r_6.1)]) (addI .i64 first_4 r_6.1)
                else none
              else none
      else none
  else
    o1_0 n_2 out_3 first_4
def runs_Take.l0 (o1_0 : Int → (List (Int × (Int × Int))) → Int → Option ((List (Int × (Int × Int))) × Int)) : Nat → ByteArray → Int → (List (Int × (Int × Int))) → Int → Option ((List (Int × (Int × Int))) × Int)
  | 0 => fun _ _ _ _ => none
  | n + 1 => runs_Take.S0 o1_0 (runs_Take.l0 o1_0 n)
def runs_Take.S (j0 : ByteArray → Int → (List (Int × (Int × Int))) → Int → Option ((List (Int × (Int × Int))) × Int)) (s : ByteArray) (xn : Int) : Option ((List (Int × (Int × Int))) × Int) :=
  bif (ltI xn 0) then
    some ([], 1)
  else
    bif (ltI 65536 xn) then
      some ([], 1)
    else
      j0 s xn [] 0
def runs_Take (s : ByteArray) (xn : Int) : Option ((List (Int × (Int × Int))) × Int) := runs_Take.S (runs_Take.l0 (runs_Take.t1 fu) fu) s xn
def math_bits_Mul64 (x : Int) (y : Int) : Int × Int :=
  ((addI .u64 (addI .u64 (mulI .u64 (shrI .u64 x 32) (shrI .u64 y 32)) (shrI .u64 (addI .u64 (mulI .u64 (shrI .u64 x 32) (andI .u64 y 4294967295)) (shrI .u64 (mulI .u64 (andI .u64 x 4294967295) (andI .u64 y 4294967295)) 32)) 32)) (shrI .u64 (addI .u64 (andI .u64 (addI .u64 (mulI .u64 (shrI .u64 x 32) (andI .u64 y 4294967295)) (shrI .u64 (mulI .u64 (andI .u64 x 4294967295) (andI .u64 y 4294967295)) 32)) 4294967295) (mulI .u64 (andI .u64 x 4294967295) (shrI .u64 y 32))) 32)), (mulI .u64 x y))
def math_bits_Mul (x : Int) (y : Int) : Int × Int :=
  (math_bits_Mul64 x y)
def slices_Repeat_int_int.S2 (self : Int → (List Int) → Option ((List Int))) (n_6 : Int) (t30_7 : (List Int)) : Option ((List Int)) :=
  bif (ltI n_6 (lenL t30_7)) then
    bif (inC n_6 (lenL t30_7) (lenL t30_7)) then
      bif (inC 0 n_6 (lenL t30_7)) then
        self (addI .i64 n_6 (((List.length (List.take ((Int.toNat (lenL t30_7)) - (Int.toNat n_6)) (List.take ((Int.toNat n_6) - 0) (List.drop 0 t30_7)))) : Nat) : Int)) (splA t30_7 (Int.toNat n_6) (List.take ((Int.toNat (lenL t30_7)) - (Int.toNat n_6)) (List.take ((Int.toNat n_6) - 0) (List.drop 0 t30_7))))
      else none
    else none
  else
    some t30_7
def slices_Repeat_int_int.l2 : Nat → Int → (List Int) → Option ((List Int))
  | 0 => fun _ _ => none
  | n + 1 => slices_Repeat_int_int.S2 (slices_Repeat_int_int.l2 n)
def slices_Repeat_int_int.S1 (j2 : Int → (List Int) → Option ((List Int))) (x_4 : (List Int)) (lo_5 : Int) : Option ((List Int)) :=
  bif ((leI 0 (IntKind.wrap .i64 lo_5)) && (roomB (Int.toNat (IntKind.wrap .i64 lo_5)) 8)) then
    j2 (((List.length (List.take (List.length (List.replicate (Int.toNat (IntKind.wrap .i64 lo_5)) (0 : Int))) x_4)) : Nat) : Int) (splA (List.replicate (Int.toNat (IntKind.wrap .i64 lo_5)) (0 : Int)) 0 (List.take (List.length (List.replicate (Int.toNat (IntKind.wrap .i64 lo_5)) (0 : Int))) x_4))
  else none
def slices_Repeat_int_int.t1 : Nat → (List Int) → Int → Option ((List Int))
  | 0 => fun _ _ => none
  | n + 1 => slices_Repeat_int_int.S1 (slices_Repeat_int_int.l2 n)
def slices_Repeat_int_int.S0 (j1 : (List Int) → Int → Option ((List Int))) (x_1 : (List Int)) (count_2 : Int) : Option ((List Int)) :=
  let r_3 := (math_bits_Mul (IntKind.wrap .u64 (lenL x_1)) (IntKind.wrap .u64 count_2))
  bif (ltI 0 r_3.1) then
    none
  else
    bif (ltI 9223372036854775807 r_3.2) then
      none
    else
      j1 x_1 r_3.2
def slices_Repeat_int_int.t0 : Nat → (List Int) → Int → Option ((List Int))
  | 0 => fun _ _ => none
  | n + 1 => slices_Repeat_int_int.S0 (slices_Repeat_int_int.t1 n)
def slices_Repeat_int_int.S (j0 : (List Int) → Int → Option ((List Int))) (x : (List Int)) (count : Int) : Option ((List Int)) :=
  bif (ltI count 0) then
    none
  else
    j0 x count
def slices_Repeat_int_int (x : (List Int)) (count : Int) : Option ((List Int)) := slices_Repeat_int_int.S (slices_Repeat_int_int.t0 fu) x count
def runs_Flat.S0 (self : (List Int) → (List (Int × (Int × Int))) → Int → Int → Option ((List Int) × Int)) (out_2 : (List Int)) (t18_3 : (List (Int × (Int × Int)))) (t19_4 : Int) (t20_5 : Int) : Option ((List Int) × Int) :=
  bif (ltI t20_5 t19_4) then
    bif (inB t20_5 (lenL t18_3)) then
      ((slices_Repeat_int_int [(nth t18_3 t20_5 (0, 0, 0)).1] (nth t18_3 t20_5 (0, 0, 0)).2.2)).bind fun r_6 =>
      bif (roomB ((List.length out_2) + (List.length r_6)) 8) then
        self (out_2 ++ r_6) t18_3 t19_4 (addI .i64 t20_5 1)
      else none
    else none
  else
    some (out_2, 0)
def runs_Flat.l0 : Nat → (List Int) → (List (Int × (Int × Int))) → Int → Int → Option ((List Int) × Int)
  | 0 => fun _ _ _ _ => none
  | n + 1 => runs_Flat.S0 (runs_Flat.l0 n)
def runs_Flat.S (j0 : (List Int) → (List (Int × (Int × Int))) → Int → Int → Option ((List Int) × Int)) (l : (List (Int × (Int × Int)))) : Option ((List Int) × Int) :=
  ((runs_count l)).bind fun r_1 =>
  bif (!r_1.2) then
    some ([], 1)
  else
    bif ((leI 0 r_1.1) && (roomB (Int.toNat r_1.1) 8)) then
      j0 [] l (lenL l) 0
    else none
def runs_Flat (l : (List (Int × (Int × Int)))) : Option ((List Int) × Int) := runs_Flat.S (runs_Flat.l0 fu) l
def frame_Take_1_w (t0 : ByteArray) (t1 : Bool) : Option (Int × ByteArray × Bool) :=
  ((vint_Take t0)).bind fun r_1 =>
  bif t1 then
    bif (inC r_1.2.1 (lenS t0) (lenS t0)) then
      some (r_1.1, (cutS t0 r_1.2.1 (lenS t0)), true)
    else none
  else
    bif (inC r_1.2.1 (lenS t0) (lenS t0)) then
      some (r_1.1, (cutS t0 r_1.2.1 (lenS t0)), (neI r_1.2.2 0))
    else none
def frame_moved (xfrom : Int) (xby : Int) : Int :=
  (IntKind.wrap .i64 (addI .u64 (IntKind.wrap .u64 xfrom) (IntKind.wrap .u64 xby)))
def frame_Take.S2 (s_18 : ByteArray) (out_19 : (List Int)) (bad_20 : Bool) : Option ((List Int) × Int) :=
  ((frame_Put out_19)).bind fun r_21 =>
  bif bad_20 then
    some ([], 20)
  else
    bif (neI r_21.2 0) then
      some ([], 20)
    else
      bif (!(eqS r_21.1 s_18)) then
        some ([], 20)
      else
        some (out_19, 0)
def frame_Take.t2 : Nat → ByteArray → (List Int) → Bool → Option ((List Int) × Int)
  | 0 => fun _ _ _ => none
  | _ + 1 => frame_Take.S2
def frame_Take.S1 (o2_1 : ByteArray → (List Int) → Bool → Option ((List Int) × Int)) (self : ByteArray → (List Int) → Int → (List Int) → Int → Int → Bool → Option ((List Int) × Int)) (s_9 : ByteArray) (out_10 : (List Int)) (least_11 : Int) (t54_12 : (List Int)) (t55_13 : Int) (t56_14 : Int) (bad_15 : Bool) : Option ((List Int) × Int) :=
  bif (ltI t56_14 t55_13) then
    bif (inB t56_14 (lenL t54_12)) then
      bif (inB (subI .i64 (lenL out_10) 1) (lenL out_10)) then
        bif (roomB ((List.length out_10) + 1) 8) then
          self s_9 (out_10 ++ [(frame_moved (frame_moved (nth out_10 (subI .i64 (lenL out_10) 1) 0) least_11) (nth t54_12 t56_14 0))]) least_11 t54_12 t55_13 (addI .i64 t56_14 1) bad_15
        else none
      else none
    else none
  else
    o2_1 s_9 out_10 bad_15
def frame_Take.l1 (o2_1 : ByteArray → (List Int) → Bool → Option ((List Int) × Int)) : Nat → ByteArray → (List Int) → Int → (List Int) → Int → Int → Bool → Option ((List Int) × Int)
  | 0 => fun _ _ _ _ _ _ _ => none
  | n + 1 => frame_Take.S1 o2_1 (frame_Take.l1 o2_1 n)
def frame_Take.S0 (j1 : ByteArray → (List Int) → Int → (List Int) → Int → Int → Bool → Option ((List Int) × Int)) (j2 : ByteArray → (List Int) → Bool → Option ((List Int) × Int)) (s_2 : ByteArray) (n_3 : Int) (out_4 : (List Int)) (rest_5 : ByteArray) (bad_6 : Bool) : Option ((List Int) × Int) :=
  bif (ltI 1 n_3) then
    ((frame_Take_1_w rest_5 bad_6)).bind fun r_7 =>
    bif r_7.2.2 then
      some ([], 20)
    else
      bif (eqS r_7.2.1 eB) then
        some ([], 20)
      else
        bif (inC 1 (lenS r_7.2.1) (lenS r_7.2.1)) then
          bif (inB 0 (lenS r_7.2.1)) then
            ((pack_Take (cutS r_7.2.1 1 (lenS r_7.2.1)) (subI .i64 n_3 1) (IntKind.wrap .i64 (byteAt r_7.2.1 0)))).bind fun r_8 =>
            bif (neI r_8.2 0) then
              some ([], 20)
            else
              j1 s_2 out_4 r_7.1 r_8.1 (lenL r_8.1) 0 r_7.2.2
          else none
        else none
  else
    j2 s_2 out_4 bad_6
def frame_Take.t0 : Nat → ByteArray → Int → (List Int) → ByteArray → Bool → Option ((List Int) × Int)
  | 0 => fun _ _ _ _ _ => none
  | n + 1 => frame_Take.S0 (frame_Take.l1 (frame_Take.t2 n) n) (frame_Take.t2 n)
def frame_Take.S (j0 : ByteArray → Int → (List Int) → ByteArray → Bool → Option ((List Int) × Int)) (s : ByteArray) (xn : Int) : Option ((List Int) × Int) :=
  bif (ltI xn 0) then
    some ([], 1)
  else
    bif (ltI 65536 xn) then
      some ([], 1)
    else
      bif (ltI 0 xn) then
        ((frame_Take_1_w s false)).bind fun r_1 =>
        j0 s xn [r_1.1] r_1.2.1 r_1.2.2
      else
        j0 s xn [] s false
def frame_Take (s : ByteArray) (xn : Int) : Option ((List Int) × Int) := frame_Take.S (frame_Take.t0 fu) s xn
def dict_TakeInts_1 (s : ByteArray) : Option (Int × Int) :=
  ((vint_Take s)).bind fun r_1 =>
  bif (neI r_1.2.2 0) then
    some (0, 0)
  else
    some (r_1.1, r_1.2.1)
def slices_Index_bool_bool.S0 (self : (List Bool) → Bool → Int → Int → Option (Int)) (s_1 : (List Bool)) (v_2 : Bool) (t7_3 : Int) (t8_4 : Int) : Option (Int) :=
  bif (ltI t8_4 t7_3) then
    bif (inB t8_4 (lenL s_1)) then
      bif (eqB v_2 (nth s_1 t8_4 false)) then
        some t8_4
      else
        self s_1 v_2 t7_3 (addI .i64 t8_4 1)
    else none
  else
    some (-1)
def slices_Index_bool_bool.l0 : Nat → (List Bool) → Bool → Int → Int → Option (Int)
  | 0 => fun _ _ _ _ => none
  | n + 1 => slices_Index_bool_bool.S0 (slices_Index_bool_bool.l0 n)
def slices_Index_bool_bool.S (j0 : (List Bool) → Bool → Int → Int → Option (Int)) (s : (List Bool)) (v : Bool) : Option (Int) :=
  j0 s v (lenL s) 0
def slices_Index_bool_bool (s : (List Bool)) (v : Bool) : Option (Int) := slices_Index_bool_bool.S (slices_Index_bool_bool.l0 fu) s v
def slices_Contains_bool_bool (s : (List Bool)) (v : Bool) : Option (Bool) :=
  ((slices_Index_bool_bool s v)).bind fun r_1 =>
  some (leI 0 r_1)
def dict_take_int__dict_TakeInts_1.S3 (d_24 : (List Int)) (places_25 : (List Int)) (t97_26 : (List Bool)) : Option ((List Int) × (List Int) × Int) :=
  ((slices_Contains_bool_bool t97_26 false)).bind fun r_27 =>
  bif r_27 then
    some ([], [], 20)
  else
    some (d_24, places_25, 0)
def dict_take_int__dict_TakeInts_1.t3 : Nat → (List Int) → (List Int) → (List Bool) → Option ((List Int) × (List Int) × Int)
  | 0 => fun _ _ _ => none
  | _ + 1 => dict_take_int__dict_TakeInts_1.S3
def dict_take_int__dict_TakeInts_1.S2 (o3_1 : (List Int) → (List Int) → (List Bool) → Option ((List Int) × (List Int) × Int)) (self : Int → (List Int) → (List Int) → (List Int) → Int → Int → (List Bool) → Option ((List Int) × (List Int) × Int)) (size_17 : Int) (d_18 : (List Int)) (places_19 : (List Int)) (t98_20 : (List Int)) (t99_21 : Int) (t100_22 : Int) (t97_23 : (List Bool)) : Option ((List Int) × (List Int) × Int) :=
  bif (ltI t100_22 t99_21) then
    bif (inB t100_22 (lenL t98_20)) then
      bif (ltI (nth t98_20 t100_22 0) 0) then
        some ([], [], 20)
      else
        bif (leI size_17 (nth t98_20 t100_22 0)) then
          some ([], [], 20)
        else
          bif (inB (nth t98_20 t100_22 0) (lenL t97_23)) then
            self size_17 d_18 places_19 t98_20 t99_21 (addI .i64 t100_22 1) (List.set t97_23 (Int.toNat (nth t98_20 t100_22 0)) true)
          else none
    else none
  else
    o3_1 d_18 places_19 t97_23
def dict_take_int__dict_TakeInts_1.l2 (o3_1 : (List Int) → (List Int) → (List Bool) → Option ((List Int) × (List Int) × Int)) : Nat → Int → (List Int) → (List Int) → (List Int) → Int → Int → (List Bool) → Option ((List Int) × (List Int) × Int)
  | 0 => fun _ _ _ _ _ _ _ => none
  | n + 1 => dict_take_int__dict_TakeInts_1.S2 o3_1 (dict_take_int__dict_TakeInts_1.l2 o3_1 n)
def dict_take_int__dict_TakeInts_1.S1 (j2 : Int → (List Int) → (List Int) → (List Int) → Int → Int → (List Bool) → Option ((List Int) × (List Int) × Int)) (s_10 : ByteArray) (n_11 : Int) (size_12 : Int) (at_13 : Int) (d_14 : (List Int)) : Option ((List Int) × (List Int) × Int) :=
  bif (inC at_13 (lenS s_10) (lenS s_10)) then
    ((pack_Width [(subI .i64 size_12 1)])).bind fun r_15 =>
    ((pack_Take (cutS s_10 at_13 (lenS s_10)) n_11 r_15)).bind fun r_16 =>
    bif (neI r_16.2 0) then
      some ([], [], 20)
    else
      bif ((leI 0 size_12) && (roomB (Int.toNat size_12) 1)) then
        j2 size_12 d_14 r_16.1 r_16.1 (lenL r_16.1) 0 (List.replicate (Int.toNat size_12) false)
      else none
  else none
def dict_take_int__dict_TakeInts_1.t1 : Nat → ByteArray → Int → Int → Int → (List Int) → Option ((List Int) × (List Int) × Int)
  | 0 => fun _ _ _ _ _ => none
  | n + 1 => dict_take_int__dict_TakeInts_1.S1 (dict_take_int__dict_TakeInts_1.l2 (dict_take_int__dict_TakeInts_1.t3 n) n)
def dict_take_int__dict_TakeInts_1.S0 (o1_0 : ByteArray → Int → Int → Int → (List Int) → Option ((List Int) × (List Int) × Int)) (self : ByteArray → Int → Int → Int → (List Int) → Int → Int → Option ((List Int) × (List Int) × Int)) (s_2 : ByteArray) (n_3 : Int) (size_4 : Int) (at_5 : Int) (d_6 : (List Int)) (t47_7 : Int) (t48_8 : Int) : Option ((List Int) × (List Int) × Int) :=
  bif (ltI t48_8 t47_7) then
    bif (inC at_5 (lenS s_2) (lenS s_2)) then
      ((dict_TakeInts_1 (cutS s_2 at_5 (lenS s_2)))).bind fun r_9 =>
      bif (eqI r_9.2 0) then
        some ([], [], 20)
      else
        bif (ltI 0 t48_8) then
          bif (inB (subI .i64 t48_8 1) (lenL d_6)) then
            bif (leI r_9.1 (nth d_6 (subI .i64 t48_8 1) 0)) then
              some ([], [], 20)
            else
              bif (roomB ((List.length d_6) + 1) 8) then
                self s_2 n_3 size_4 (addI .i64 at_5 r_9.2) (d_6 ++ [r_9.1]) t47_7 (addI .i64 t48_8 1)
              else none
          else none
        else
          bif (roomB ((List.length d_6) + 1) 8) then
            self s_2 n_3 size_4 (addI .i64 at_5 r_9.2) (d_6 ++ [r_9.1]) t47_7 (addI .i64 t48_8 1)
          else none
    else none
  else
    o1_0 s_2 n_3 size_4 at_5 d_6
def dict_take_int__dict_TakeInts_1.l0 (o1_0 : ByteArray → Int → Int → Int → (List Int) → Option ((List Int) × (List Int) × Int)) : Nat → ByteArray → Int → Int → Int → (List Int) → Int → Int → Option ((List Int) × (List Int) × Int)
  | 0 => fun _ _ _ _ _ _ _ => none
  | n + 1 => dict_take_int__dict_TakeInts_1.S0 o1_0 (dict_take_int__dict_TakeInts_1.l0 o1_0 n)
def dict_take_int__dict_TakeInts_1.S (j0 : ByteArray → Int → Int → Int → (List Int) → Int → Int → Option ((List Int) × (List Int) × Int)) (s : ByteArray) (xn : Int) : Option ((List Int) × (List Int) × Int) :=
  bif (ltI xn 0) then
    some ([], [], 1)
  else
    bif (ltI 65536 xn) then
      some ([], [], 1)
    else
      bif (eqI xn 0) then
        bif (!(eqS s eB)) then
          some ([], [], 20)
        else
          some ([], [], 0)
      else
        ((vint_Take s)).bind fun r_1 =>
        bif (neI r_1.2.2 0) then
          some ([], [], 20)
        else
          bif (ltI r_1.1 1) then
            some ([], [], 20)
          else
            bif (ltI xn r_1.1) then
              some ([], [], 20)
            else
              j0 s xn r_1.1 r_1.2.1 [] r_1.1 0
def dict_take_int__dict_TakeInts_1 (s : ByteArray) (xn : Int) : Option ((List Int) × (List Int) × Int) := dict_take_int__dict_TakeInts_1.S (dict_take_int__dict_TakeInts_1.l0 (dict_take_int__dict_TakeInts_1.t1 fu) fu) s xn
def dict_flat_int.S0 (self : (List Int) → (List Int) → (List Int) → Int → Int → Option ((List Int))) (d_1 : (List Int)) (out_2 : (List Int)) (t8_3 : (List Int)) (t9_4 : Int) (t10_5 : Int) : Option ((List Int)) :=
  bif (ltI t10_5 t9_4) then
    bif (inB t10_5 (lenL t8_3)) then
      bif (inB (nth t8_3 t10_5 0) (lenL d_1)) then
        bif (roomB ((List.length out_2) + 1) 8) then
          self d_1 (out_2 ++ [(nth d_1 (nth t8_3 t10_5 0) 0)]) t8_3 t9_4 (addI .i64 t10_5 1)
        else none
      else none
    else none
  else
    some out_2
def dict_flat_int.l0 : Nat → (List Int) → (List Int) → (List Int) → Int → Int → Option ((List Int))
  | 0 => fun _ _ _ _ _ => none
  | n + 1 => dict_flat_int.S0 (dict_flat_int.l0 n)
def dict_flat_int.S (j0 : (List Int) → (List Int) → (List Int) → Int → Int → Option ((List Int))) (d : (List Int)) (places : (List Int)) : Option ((List Int)) :=
  j0 d [] places (lenL places) 0
def dict_flat_int (d : (List Int)) (places : (List Int)) : Option ((List Int)) := dict_flat_int.S (dict_flat_int.l0 fu) d places
def dict_TakeInts (s : ByteArray) (xn : Int) : Option ((List Int) × Int) :=
  ((dict_take_int__dict_TakeInts_1 s xn)).bind fun r_1 =>
  bif (neI r_1.2.2 0) then
    some ([], r_1.2.2)
  else
    ((dict_flat_int r_1.1 r_1.2.1)).bind fun r_2 =>
    some (r_2, 0)
def block_ints (s : ByteArray) (xn : Int) (code : Int) : Option ((List Int) × Int) :=
  bif (eqI code 1) then
    ((plain_TakeInts s xn)).bind fun r_1 =>
    some r_1
  else
    bif (eqI code 2) then
      ((runs_Take s xn)).bind fun r_2 =>
      bif (neI r_2.2 0) then
        some ([], r_2.2)
      else
        ((runs_Flat r_2.1)).bind fun r_3 =>
        some r_3
    else
      bif (eqI code 3) then
        ((frame_Take s xn)).bind fun r_4 =>
        some r_4
      else
        bif (eqI code 4) then
          ((dict_TakeInts s xn)).bind fun r_5 =>
          some r_5
        else
          bif (eqI code 5) then
            bif (!(eqS s eB)) then
              bif (inC 1 (lenS s) (lenS s)) then
                bif (inB 0 (lenS s)) then
                  ((pack_Take (cutS s 1 (lenS s)) xn (IntKind.wrap .i64 (byteAt s 0)))).bind fun r_6 =>
                  some r_6
                else none
              else none
            else
              some ([], 5)
          else
            some ([], 5)
def plain_TakeTexts.S1 (n_4 : Int) (out_5 : (List ByteArray)) : Option ((List ByteArray) × Int) :=
  bif (neI (lenL out_5) n_4) then
    some ([], 20)
  else
    some (out_5, 0)
def plain_TakeTexts.t1 : Nat → Int → (List ByteArray) → Option ((List ByteArray) × Int)
  | 0 => fun _ _ => none
  | _ + 1 => plain_TakeTexts.S1
def plain_TakeTexts.S0 (o1_0 : Int → (List ByteArray) → Option ((List ByteArray) × Int)) (self : ByteArray → Int → (List ByteArray) → Option ((List ByteArray) × Int)) (s_1 : ByteArray) (n_2 : Int) (out_3 : (List ByteArray)) : Option ((List ByteArray) × Int) :=
  bif (!(eqS s_1 eB)) then
    bif (inB 0 (lenS s_1)) then
      bif (ltI 32 (IntKind.wrap .i64 (byteAt s_1 0))) then
        some ([], 20)
      else
        bif (leI (lenS s_1) (IntKind.wrap .i64 (byteAt s_1 0))) then
          some ([], 20)
        else
          bif (inC 1 (addI .i64 1 (IntKind.wrap .i64 (byteAt s_1 0))) (lenS s_1)) then
            bif (roomB ((List.length out_3) + 1) 16) then
              bif (inC (addI .i64 1 (IntKind.wrap .i64 (byteAt s_1 0))) (lenS s_1) (lenS s_1)) then
                self (cutS s_1 (addI .i64 1 (IntKind.wrap .i64 (byteAt s_1 0))) (lenS s_1)) n_2 (out_3 ++ [(cutS s_1 1 (addI .i64 1 (IntKind.wrap .i64 (byteAt s_1 0))))])
              else none
            else none
          else none
    else none
  else
    o1_0 n_2 out_3
def plain_TakeTexts.l0 (o1_0 : Int → (List ByteArray) → Option ((List ByteArray) × Int)) : Nat → ByteArray → Int → (List ByteArray) → Option ((List ByteArray) × Int)
  | 0 => fun _ _ _ => none
  | n + 1 => plain_TakeTexts.S0 o1_0 (plain_TakeTexts.l0 o1_0 n)
def plain_TakeTexts.S (j0 : ByteArray → Int → (List ByteArray) → Option ((List ByteArray) × Int)) (s : ByteArray) (xn : Int) : Option ((List ByteArray) × Int) :=
  j0 s xn []
def plain_TakeTexts (s : ByteArray) (xn : Int) : Option ((List ByteArray) × Int) := plain_TakeTexts.S (plain_TakeTexts.l0 (plain_TakeTexts.t1 fu) fu) s xn
def block_running.S2 (self : Int → (List ByteArray) → (List ByteArray) → (List Int) → Int → Int → Option ((List ByteArray) × Int)) (size_16 : Int) (d_17 : (List ByteArray)) (out_18 : (List ByteArray)) (t91_19 : (List Int)) (t92_20 : Int) (t93_21 : Int) : Option ((List ByteArray) × Int) :=
  bif (ltI t93_21 t92_20) then
    bif (inB t93_21 (lenL t91_19)) then
      bif (ltI (nth t91_19 t93_21 0) 0) then
        some ([], 5)
      else
        bif (leI size_16 (nth t91_19 t93_21 0)) then
          some ([], 5)
        else
          bif (inB (nth t91_19 t93_21 0) (lenL d_17)) then
            bif (roomB ((List.length out_18) + 1) 16) then
              self size_16 d_17 (out_18 ++ [(nth d_17 (nth t91_19 t93_21 0) eB)]) t91_19 t92_20 (addI .i64 t93_21 1)
            else none
          else none
    else none
  else
    some (out_18, 0)
def block_running.l2 : Nat → Int → (List ByteArray) → (List ByteArray) → (List Int) → Int → Int → Option ((List ByteArray) × Int)
  | 0 => fun _ _ _ _ _ _ => none
  | n + 1 => block_running.S2 (block_running.l2 n)
def block_running.S1 (j2 : Int → (List ByteArray) → (List ByteArray) → (List Int) → Int → Int → Option ((List ByteArray) × Int)) (s_9 : ByteArray) (n_10 : Int) (size_11 : Int) (at_12 : Int) (d_13 : (List ByteArray)) : Option ((List ByteArray) × Int) :=
  bif (inC at_12 (lenS s_9) (lenS s_9)) then
    ((runs_Take (cutS s_9 at_12 (lenS s_9)) n_10)).bind fun r_14 =>
    bif (neI r_14.2 0) then
      some ([], r_14.2)
    else
      ((runs_Flat r_14.1)).bind fun r_15 =>
      bif (neI r_15.2 0) then
        some ([], r_15.2)
      else
        j2 size_11 d_13 [] r_15.1 (lenL r_15.1) 0
  else none
def block_running.t1 : Nat → ByteArray → Int → Int → Int → (List ByteArray) → Option ((List ByteArray) × Int)
  | 0 => fun _ _ _ _ _ => none
  | n + 1 => block_running.S1 (block_running.l2 n)
def block_running.S0 (o1_0 : ByteArray → Int → Int → Int → (List ByteArray) → Option ((List ByteArray) × Int)) (self : ByteArray → Int → Int → Int → (List ByteArray) → Int → Int → Option ((List ByteArray) × Int)) (s_2 : ByteArray) (n_3 : Int) (size_4 : Int) (at_5 : Int) (d_6 : (List ByteArray)) (t37_7 : Int) (t38_8 : Int) : Option ((List ByteArray) × Int) :=
  bif (ltI t38_8 t37_7) then
    bif (leI (lenS s_2) at_5) then
      some ([], 5)
    else
      bif (inB at_5 (lenS s_2)) then
        bif (leI (subI .i64 (lenS s_2) at_5) (IntKind.wrap .i64 (byteAt s_2 at_5))) then
          some ([], 5)
        else
          bif (inB at_5 (lenS s_2)) then
            bif (inC (addI .i64 at_5 1) (addI .i64 (addI .i64 at_5 1) (IntKind.wrap .i64 (byteAt s_2 at_5))) (lenS s_2)) then
              bif (roomB ((List.length d_6) + 1) 16) then
                self s_2 n_3 size_4 (addI .i64 (addI .i64 at_5 1) (IntKind.wrap .i64 (byteAt s_2 at_5))) (d_6 ++ [(cutS s_2 (addI .i64 at_5 1) (addI .i64 (addI .i64 at_5 1) (IntKind.wrap .i64 (byteAt s_2 at_5))))]) t37_7 (addI .i64 t38_8 1)
              else none
            else none
          else none
      else none
  else
    o1_0 s_2 n_3 size_4 at_5 d_6
def block_running.l0 (o1_0 : ByteArray → Int → Int → Int → (List ByteArray) → Option ((List ByteArray) × Int)) : Nat → ByteArray → Int → Int → Int → (List ByteArray) → Int → Int → Option ((List ByteArray) × Int)
  | 0 => fun _ _ _ _ _ _ _ => none
  | n + 1 => block_running.S0 o1_0 (block_running.l0 o1_0 n)
def block_running.S (j0 : ByteArray → Int → Int → Int → (List ByteArray) → Int → Int → Option ((List ByteArray) × Int)) (s : ByteArray) (xn : Int) : Option ((List ByteArray) × Int) :=
  bif (eqI xn 0) then
    bif (!(eqS s eB)) then
      some ([], 5)
    else
      some ([], 0)
  else
    ((vint_Take s)).bind fun r_1 =>
    bif (neI r_1.2.2 0) then
      some ([], 5)
    else
      bif (ltI r_1.1 1) then
        some ([], 5)
      else
        bif (ltI xn r_1.1) then
          some ([], 5)
        else
          j0 s xn r_1.1 r_1.2.1 [] r_1.1 0
def block_running (s : ByteArray) (xn : Int) : Option ((List ByteArray) × Int) := block_running.S (block_running.l0 (block_running.t1 fu) fu) s xn
def dict_Places_1 (s : ByteArray) : Option (ByteArray × Int) :=
  bif (eqS s eB) then
    some (eB, 0)
  else
    bif (inB 0 (lenS s)) then
      bif (ltI 32 (IntKind.wrap .i64 (byteAt s 0))) then
        some (eB, 0)
      else
        bif (leI (lenS s) (IntKind.wrap .i64 (byteAt s 0))) then
          some (eB, 0)
        else
          bif (inC 1 (addI .i64 1 (IntKind.wrap .i64 (byteAt s 0))) (lenS s)) then
            some ((cutS s 1 (addI .i64 1 (IntKind.wrap .i64 (byteAt s 0)))), (addI .i64 1 (IntKind.wrap .i64 (byteAt s 0))))
          else none
    else none
def dict_take_string__dict_Places_1.S3 (d_24 : (List ByteArray)) (places_25 : (List Int)) (t97_26 : (List Bool)) : Option ((List ByteArray) × (List Int) × Int) :=
  ((slices_Contains_bool_bool t97_26 false)).bind fun r_27 =>
  bif r_27 then
    some ([], [], 20)
  else
    some (d_24, places_25, 0)
def dict_take_string__dict_Places_1.t3 : Nat → (List ByteArray) → (List Int) → (List Bool) → Option ((List ByteArray) × (List Int) × Int)
  | 0 => fun _ _ _ => none
  | _ + 1 => dict_take_string__dict_Places_1.S3
def dict_take_string__dict_Places_1.S2 (o3_1 : (List ByteArray) → (List Int) → (List Bool) → Option ((List ByteArray) × (List Int) × Int)) (self : Int → (List ByteArray) → (List Int) → (List Int) → Int → Int → (List Bool) → Option ((List ByteArray) × (List Int) × Int)) (size_17 : Int) (d_18 : (List ByteArray)) (places_19 : (List Int)) (t98_20 : (List Int)) (t99_21 : Int) (t100_22 : Int) (t97_23 : (List Bool)) : Option ((List ByteArray) × (List Int) × Int) :=
  bif (ltI t100_22 t99_21) then
    bif (inB t100_22 (lenL t98_20)) then
      bif (ltI (nth t98_20 t100_22 0) 0) then
        some ([], [], 20)
      else
        bif (leI size_17 (nth t98_20 t100_22 0)) then
          some ([], [], 20)
        else
          bif (inB (nth t98_20 t100_22 0) (lenL t97_23)) then
            self size_17 d_18 places_19 t98_20 t99_21 (addI .i64 t100_22 1) (List.set t97_23 (Int.toNat (nth t98_20 t100_22 0)) true)
          else none
    else none
  else
    o3_1 d_18 places_19 t97_23
def dict_take_string__dict_Places_1.l2 (o3_1 : (List ByteArray) → (List Int) → (List Bool) → Option ((List ByteArray) × (List Int) × Int)) : Nat → Int → (List ByteArray) → (List Int) → (List Int) → Int → Int → (List Bool) → Option ((List ByteArray) × (List Int) × Int)
  | 0 => fun _ _ _ _ _ _ _ => none
  | n + 1 => dict_take_string__dict_Places_1.S2 o3_1 (dict_take_string__dict_Places_1.l2 o3_1 n)
def dict_take_string__dict_Places_1.S1 (j2 : Int → (List ByteArray) → (List Int) → (List Int) → Int → Int → (List Bool) → Option ((List ByteArray) × (List Int) × Int)) (s_10 : ByteArray) (n_11 : Int) (size_12 : Int) (at_13 : Int) (d_14 : (List ByteArray)) : Option ((List ByteArray) × (List Int) × Int) :=
  bif (inC at_13 (lenS s_10) (lenS s_10)) then
    ((pack_Width [(subI .i64 size_12 1)])).bind fun r_15 =>
    ((pack_Take (cutS s_10 at_13 (lenS s_10)) n_11 r_15)).bind fun r_16 =>
    bif (neI r_16.2 0) then
      some ([], [], 20)
    else
      bif ((leI 0 size_12) && (roomB (Int.toNat size_12) 1)) then
        j2 size_12 d_14 r_16.1 r_16.1 (lenL r_16.1) 0 (List.replicate (Int.toNat size_12) false)
      else none
  else none
def dict_take_string__dict_Places_1.t1 : Nat → ByteArray → Int → Int → Int → (List ByteArray) → Option ((List ByteArray) × (List Int) × Int)
  | 0 => fun _ _ _ _ _ => none
  | n + 1 => dict_take_string__dict_Places_1.S1 (dict_take_string__dict_Places_1.l2 (dict_take_string__dict_Places_1.t3 n) n)
def dict_take_string__dict_Places_1.S0 (o1_0 : ByteArray → Int → Int → Int → (List ByteArray) → Option ((List ByteArray) × (List Int) × Int)) (self : ByteArray → Int → Int → Int → (List ByteArray) → Int → Int → Option ((List ByteArray) × (List Int) × Int)) (s_2 : ByteArray) (n_3 : Int) (size_4 : Int) (at_5 : Int) (d_6 : (List ByteArray)) (t47_7 : Int) (t48_8 : Int) : Option ((List ByteArray) × (List Int) × Int) :=
  bif (ltI t48_8 t47_7) then
    bif (inC at_5 (lenS s_2) (lenS s_2)) then
      ((dict_Places_1 (cutS s_2 at_5 (lenS s_2)))).bind fun r_9 =>
      bif (eqI r_9.2 0) then
        some ([], [], 20)
      else
        bif (ltI 0 t48_8) then
          bif (inB (subI .i64 t48_8 1) (lenL d_6)) then
            bif ((ltS r_9.1 (nth d_6 (subI .i64 t48_8 1) eB)) || (eqS r_9.1 (nth d_6 (subI .i64 t48_8 1) eB))) then
              some ([], [], 20)
            else
              bif (roomB ((List.length d_6) + 1) 16) then
                self s_2 n_3 size_4 (addI .i64 at_5 r_9.2) (d_6 ++ [r_9.1]) t47_7 (addI .i64 t48_8 1)
              else none
          else none
        else
          bif (roomB ((List.length d_6) + 1) 16) then
            self s_2 n_3 size_4 (addI .i64 at_5 r_9.2) (d_6 ++ [r_9.1]) t47_7 (addI .i64 t48_8 1)
          else none
    else none
  else
    o1_0 s_2 n_3 size_4 at_5 d_6
def dict_take_string__dict_Places_1.l0 (o1_0 : ByteArray → Int → Int → Int → (List ByteArray) → Option ((List ByteArray) × (List Int) × Int)) : Nat → ByteArray → Int → Int → Int → (List ByteArray) → Int → Int → Option ((List ByteArray) × (List Int) × Int)
  | 0 => fun _ _ _ _ _ _ _ => none
  | n + 1 => dict_take_string__dict_Places_1.S0 o1_0 (dict_take_string__dict_Places_1.l0 o1_0 n)
def dict_take_string__dict_Places_1.S (j0 : ByteArray → Int → Int → Int → (List ByteArray) → Int → Int → Option ((List ByteArray) × (List Int) × Int)) (s : ByteArray) (xn : Int) : Option ((List ByteArray) × (List Int) × Int) :=
  bif (ltI xn 0) then
    some ([], [], 1)
  else
    bif (ltI 65536 xn) then
      some ([], [], 1)
    else
      bif (eqI xn 0) then
        bif (!(eqS s eB)) then
          some ([], [], 20)
        else
          some ([], [], 0)
      else
        ((vint_Take s)).bind fun r_1 =>
        bif (neI r_1.2.2 0) then
          some ([], [], 20)
        else
          bif (ltI r_1.1 1) then
            some ([], [], 20)
          else
            bif (ltI xn r_1.1) then
              some ([], [], 20)
            else
              j0 s xn r_1.1 r_1.2.1 [] r_1.1 0
def dict_take_string__dict_Places_1 (s : ByteArray) (xn : Int) : Option ((List ByteArray) × (List Int) × Int) := dict_take_string__dict_Places_1.S (dict_take_string__dict_Places_1.l0 (dict_take_string__dict_Places_1.t1 fu) fu) s xn
def dict_Places (s : ByteArray) (xn : Int) : Option ((List ByteArray) × (List Int) × Int) :=
  ((dict_take_string__dict_Places_1 s xn)).bind fun r_1 =>
  some r_1
def dict_flat_string.S0 (self : (List ByteArray) → (List ByteArray) → (List Int) → Int → Int → Option ((List ByteArray))) (d_1 : (List ByteArray)) (out_2 : (List ByteArray)) (t8_3 : (List Int)) (t9_4 : Int) (t10_5 : Int) : Option ((List ByteArray)) :=
  bif (ltI t10_5 t9_4) then
    bif (inB t10_5 (lenL t8_3)) then
      bif (inB (nth t8_3 t10_5 0) (lenL d_1)) then
        bif (roomB ((List.length out_2) + 1) 16) then
          self d_1 (out_2 ++ [(nth d_1 (nth t8_3 t10_5 0) eB)]) t8_3 t9_4 (addI .i64 t10_5 1)
        else none
      else none
    else none
  else
    some out_2
def dict_flat_string.l0 : Nat → (List ByteArray) → (List ByteArray) → (List Int) → Int → Int → Option ((List ByteArray))
  | 0 => fun _ _ _ _ _ => none
  | n + 1 => dict_flat_string.S0 (dict_flat_string.l0 n)
def dict_flat_string.S (j0 : (List ByteArray) → (List ByteArray) → (List Int) → Int → Int → Option ((List ByteArray))) (d : (List ByteArray)) (places : (List Int)) : Option ((List ByteArray)) :=
  j0 d [] places (lenL places) 0
def dict_flat_string (d : (List ByteArray)) (places : (List Int)) : Option ((List ByteArray)) := dict_flat_string.S (dict_flat_string.l0 fu) d places
def dict_TakeTexts (s : ByteArray) (xn : Int) : Option ((List ByteArray) × Int) :=
  ((dict_Places s xn)).bind fun r_1 =>
  bif (neI r_1.2.2 0) then
    some ([], r_1.2.2)
  else
    ((dict_flat_string r_1.1 r_1.2.1)).bind fun r_2 =>
    some (r_2, 0)
def block_texts (s : ByteArray) (xn : Int) (code : Int) : Option ((List ByteArray) × Int) :=
  bif (eqI code 1) then
    ((plain_TakeTexts s xn)).bind fun r_1 =>
    some r_1
  else
    bif (eqI code 2) then
      ((block_running s xn)).bind fun r_2 =>
      some r_2
    else
      bif (eqI code 4) then
        ((dict_TakeTexts s xn)).bind fun r_3 =>
        some r_3
      else
        some ([], 5)
def block_cells.S0 (self : (List (Int × (Int × ByteArray))) → Int → (List Int) → Int → Int → (Int × (Int × (Int × Int))) → Option ((List (Int × (Int × ByteArray))) × Int)) (out_2 : (List (Int × (Int × ByteArray)))) (e_3 : Int) (t29_4 : (List Int)) (t30_5 : Int) (t31_6 : Int) (h_7 : (Int × (Int × (Int × Int)))) : Option ((List (Int × (Int × ByteArray))) × Int) :=
  bif (ltI t31_6 t30_5) then
    bif (inB t31_6 (lenL t29_4)) then
      bif (roomB ((List.length out_2) + 1) 32) then
        self (out_2 ++ [(h_7.1, (nth t29_4 t31_6 0), eB)]) e_3 t29_4 t30_5 (addI .i64 t31_6 1) h_7
      else none
    else none
  else
    some (out_2, e_3)
def block_cells.l0 : Nat → (List (Int × (Int × ByteArray))) → Int → (List Int) → Int → Int → (Int × (Int × (Int × Int))) → Option ((List (Int × (Int × ByteArray))) × Int)
  | 0 => fun _ _ _ _ _ _ => none
  | n + 1 => block_cells.S0 (block_cells.l0 n)
def block_cells.S1 (self : (List (Int × (Int × ByteArray))) → Int → (List ByteArray) → Int → Int → (Int × (Int × (Int × Int))) → Option ((List (Int × (Int × ByteArray))) × Int)) (out_9 : (List (Int × (Int × ByteArray)))) (e_10 : Int) (t55_11 : (List ByteArray)) (t56_12 : Int) (t57_13 : Int) (h_14 : (Int × (Int × (Int × Int)))) : Option ((List (Int × (Int × ByteArray))) × Int) :=
  bif (ltI t57_13 t56_12) then
    bif (inB t57_13 (lenL t55_11)) then
      bif (roomB ((List.length out_9) + 1) 32) then
        self (out_9 ++ [(h_14.1, 0, (nth t55_11 t57_13 eB))]) e_10 t55_11 t56_12 (addI .i64 t57_13 1) h_14
      else none
    else none
  else
    some (out_9, e_10)
def block_cells.l1 : Nat → (List (Int × (Int × ByteArray))) → Int → (List ByteArray) → Int → Int → (Int × (Int × (Int × Int))) → Option ((List (Int × (Int × ByteArray))) × Int)
  | 0 => fun _ _ _ _ _ _ => none
  | n + 1 => block_cells.S1 (block_cells.l1 n)
def block_cells.S (j0 : (List (Int × (Int × ByteArray))) → Int → (List Int) → Int → Int → (Int × (Int × (Int × Int))) → Option ((List (Int × (Int × ByteArray))) × Int)) (j1 : (List (Int × (Int × ByteArray))) → Int → (List ByteArray) → Int → Int → (Int × (Int × (Int × Int))) → Option ((List (Int × (Int × ByteArray))) × Int)) (s : ByteArray) (xn : Int) (h : (Int × (Int × (Int × Int)))) : Option ((List (Int × (Int × ByteArray))) × Int) :=
  bif (eqI h.1 1) then
    ((block_ints s xn h.2.1)).bind fun r_1 =>
    j0 [] r_1.2 r_1.1 (lenL r_1.1) 0 h
  else
    bif (eqI h.1 2) then
      ((block_texts s xn h.2.1)).bind fun r_8 =>
      j1 [] r_8.2 r_8.1 (lenL r_8.1) 0 h
    else
      some ([], 5)
def block_cells (s : ByteArray) (xn : Int) (h : (Int × (Int × (Int × Int)))) : Option ((List (Int × (Int × ByteArray))) × Int) := block_cells.S (block_cells.l0 fu) (block_cells.l1 fu) s xn h
def slices_IndexFunc_api_Cell_api_Cell__nulls_null.S0 (self : (List (Int × (Int × ByteArray))) → Int → Int → Option (Int)) (s_1 : (List (Int × (Int × ByteArray)))) (t7_2 : Int) (t8_3 : Int) : Option (Int) :=
  bif (ltI t8_3 t7_2) then
    bif (inB t8_3 (lenL s_1)) then
      bif (nulls_null (nth s_1 t8_3 (0, 0, eB))) then
        some t8_3
      else
        self s_1 t7_2 (addI .i64 t8_3 1)
    else none
  else
    some (-1)
def slices_IndexFunc_api_Cell_api_Cell__nulls_null.l0 : Nat → (List (Int × (Int × ByteArray))) → Int → Int → Option (Int)
  | 0 => fun _ _ _ => none
  | n + 1 => slices_IndexFunc_api_Cell_api_Cell__nulls_null.S0 (slices_IndexFunc_api_Cell_api_Cell__nulls_null.l0 n)
def slices_IndexFunc_api_Cell_api_Cell__nulls_null.S (j0 : (List (Int × (Int × ByteArray))) → Int → Int → Option (Int)) (s : (List (Int × (Int × ByteArray)))) : Option (Int) :=
  j0 s (lenL s) 0
def slices_IndexFunc_api_Cell_api_Cell__nulls_null (s : (List (Int × (Int × ByteArray)))) : Option (Int) := slices_IndexFunc_api_Cell_api_Cell__nulls_null.S (slices_IndexFunc_api_Cell_api_Cell__nulls_null.l0 fu) s
def slices_ContainsFunc_api_Cell_api_Cell__nulls_null (s : (List (Int × (Int × ByteArray)))) : Option (Bool) :=
  ((slices_IndexFunc_api_Cell_api_Cell__nulls_null s)).bind fun r_1 =>
  some (leI 0 r_1)
def nulls_Join.S0 (self : (List (Int × (Int × ByteArray))) → (List Int) → Int → Int → (List (Int × (Int × ByteArray))) → Option ((List (Int × (Int × ByteArray))) × Int)) (l_4 : (List (Int × (Int × ByteArray)))) (b_5 : (List Int)) (t42_6 : Int) (t43_7 : Int) (t40_8 : (List (Int × (Int × ByteArray)))) : Option ((List (Int × (Int × ByteArray))) × Int) :=
  bif (ltI t43_7 t42_6) then
    bif (inB t43_7 (lenL b_5)) then
      bif (eqI (nth b_5 t43_7 0) 0) then
        bif (inB 0 (lenL l_4)) then
          bif (inC 1 (lenL l_4) (lenL l_4)) then
            bif (inB t43_7 (lenL t40_8)) then
              self (List.drop 1 l_4) b_5 t42_6 (addI .i64 t43_7 1) (List.set t40_8 (Int.toNat t43_7) (nth l_4 0 (0, 0, eB)))
            else none
          else none
        else none
      else
        self l_4 b_5 t42_6 (addI .i64 t43_7 1) t40_8
    else none
  else
    some (t40_8, 0)
def nulls_Join.l0 : Nat → (List (Int × (Int × ByteArray))) → (List Int) → Int → Int → (List (Int × (Int × ByteArray))) → Option ((List (Int × (Int × ByteArray))) × Int)
  | 0 => fun _ _ _ _ _ => none
  | n + 1 => nulls_Join.S0 (nulls_Join.l0 n)
def nulls_Join.S (j0 : (List (Int × (Int × ByteArray))) → (List Int) → Int → Int → (List (Int × (Int × ByteArray))) → Option ((List (Int × (Int × ByteArray))) × Int)) (s : ByteArray) (xn : Int) (l : (List (Int × (Int × ByteArray)))) : Option ((List (Int × (Int × ByteArray))) × Int) :=
  ((nulls_bits s xn)).bind fun r_1 =>
  bif (neI r_1.2 0) then
    some ([], r_1.2)
  else
    ((nulls_Count s xn)).bind fun r_2 =>
    bif (neI (lenL l) (subI .i64 xn r_2.1)) then
      some ([], 20)
    else
      ((slices_ContainsFunc_api_Cell_api_Cell__nulls_null l)).bind fun r_3 =>
      bif r_3 then
        some ([], 20)
      else
        bif ((leI 0 xn) && (roomB (Int.toNat xn) 32)) then
          j0 l r_1.1 (lenL (List.replicate (Int.toNat xn) ((0 : Int), ((0 : Int), eB)))) 0 (List.replicate (Int.toNat xn) ((0 : Int), ((0 : Int), eB)))
        else none
def nulls_Join (s : ByteArray) (xn : Int) (l : (List (Int × (Int × ByteArray)))) : Option ((List (Int × (Int × ByteArray))) × Int) := nulls_Join.S (nulls_Join.l0 fu) s xn l
def block_read (s : ByteArray) : Option (((Int × (Int × (Int × Int))) × (ByteArray × (ByteArray × (List (Int × (Int × ByteArray)))))) × Bool) :=
  ((check_Open s)).bind fun r_1 =>
  bif (neI r_1.2 0) then
    some (((0, 0, 0, 0), eB, eB, []), false)
  else
    bif (ltI (lenS r_1.1) 4) then
      some (((0, 0, 0, 0), eB, eB, []), false)
    else
      bif (inB 3 (lenS r_1.1)) then
        bif (ltI (subI .i64 (lenS r_1.1) 4) (IntKind.wrap .i64 (byteAt r_1.1 3))) then
          some (((0, 0, 0, 0), eB, eB, []), false)
        else
          bif (inB 3 (lenS r_1.1)) then
            bif (inB 0 (lenS r_1.1)) then
              bif (inB 1 (lenS r_1.1)) then
                bif (inB 2 (lenS r_1.1)) then
                  bif (inC 4 (addI .i64 4 (IntKind.wrap .i64 (byteAt r_1.1 3))) (lenS r_1.1)) then
                    bif (inC (addI .i64 4 (IntKind.wrap .i64 (byteAt r_1.1 3))) (lenS r_1.1) (lenS r_1.1)) then
                      ((nulls_Count (cutS r_1.1 4 (addI .i64 4 (IntKind.wrap .i64 (byteAt r_1.1 3)))) (IntKind.wrap .i64 (byteAt r_1.1 2)))).bind fun r_2 =>
                      bif (neI r_2.2 0) then
                        some ((((IntKind.wrap .i64 (byteAt r_1.1 0)), (IntKind.wrap .i64 (byteAt r_1.1 1)), (IntKind.wrap .i64 (byteAt r_1.1 2)), r_2.1), (cutS r_1.1 4 (addI .i64 4 (IntKind.wrap .i64 (byteAt r_1.1 3)))), (cutS r_1.1 (addI .i64 4 (IntKind.wrap .i64 (byteAt r_1.1 3))) (lenS r_1.1)), []), false)
                      else
                        ((block_cells (cutS r_1.1 (addI .i64 4 (IntKind.wrap .i64 (byteAt r_1.1 3))) (lenS r_1.1)) (subI .i64 (IntKind.wrap .i64 (byteAt r_1.1 2)) r_2.1) ((IntKind.wrap .i64 (byteAt r_1.1 0)), (IntKind.wrap .i64 (byteAt r_1.1 1)), (IntKind.wrap .i64 (byteAt r_1.1 2)), r_2.1))).bind fun r_3 =>
                        bif (neI r_3.2 0) then
                          some ((((IntKind.wrap .i64 (byteAt r_1.1 0)), (IntKind.wrap .i64 (byteAt r_1.1 1)), (IntKind.wrap .i64 (byteAt r_1.1 2)), r_2.1), (cutS r_1.1 4 (addI .i64 4 (IntKind.wrap .i64 (byteAt r_1.1 3)))), (cutS r_1.1 (addI .i64 4 (IntKind.wrap .i64 (byteAt r_1.1 3))) (lenS r_1.1)), []), false)
                        else
                          ((nulls_Join (cutS r_1.1 4 (addI .i64 4 (IntKind.wrap .i64 (byteAt r_1.1 3)))) (IntKind.wrap .i64 (byteAt r_1.1 2)) r_3.1)).bind fun r_4 =>
                          bif (neI r_4.2 0) then
                            some ((((IntKind.wrap .i64 (byteAt r_1.1 0)), (IntKind.wrap .i64 (byteAt r_1.1 1)), (IntKind.wrap .i64 (byteAt r_1.1 2)), r_2.1), (cutS r_1.1 4 (addI .i64 4 (IntKind.wrap .i64 (byteAt r_1.1 3)))), (cutS r_1.1 (addI .i64 4 (IntKind.wrap .i64 (byteAt r_1.1 3))) (lenS r_1.1)), r_4.1), false)
                          else
                            ((block_Put r_4.1 (IntKind.wrap .i64 (byteAt r_1.1 0)) (IntKind.wrap .i64 (byteAt r_1.1 1)))).bind fun r_5 =>
                            bif (eqI r_5.2 0) then
                              some ((((IntKind.wrap .i64 (byteAt r_1.1 0)), (IntKind.wrap .i64 (byteAt r_1.1 1)), (IntKind.wrap .i64 (byteAt r_1.1 2)), r_2.1), (cutS r_1.1 4 (addI .i64 4 (IntKind.wrap .i64 (byteAt r_1.1 3)))), (cutS r_1.1 (addI .i64 4 (IntKind.wrap .i64 (byteAt r_1.1 3))) (lenS r_1.1)), r_4.1), (eqS r_5.1 s))
                            else
                              some ((((IntKind.wrap .i64 (byteAt r_1.1 0)), (IntKind.wrap .i64 (byteAt r_1.1 1)), (IntKind.wrap .i64 (byteAt r_1.1 2)), r_2.1), (cutS r_1.1 4 (addI .i64 4 (IntKind.wrap .i64 (byteAt r_1.1 3)))), (cutS r_1.1 (addI .i64 4 (IntKind.wrap .i64 (byteAt r_1.1 3))) (lenS r_1.1)), r_4.1), false)
                    else none
                  else none
                else none
              else none
            else none
          else none
      else none
def block_Take (s : ByteArray) : Option ((List (Int × (Int × ByteArray))) × Int) :=
  ((block_read s)).bind fun r_1 =>
  bif (!r_1.2) then
    some ([], 5)
  else
    some (r_1.1.2.2.2, 0)
def block_Look (s : ByteArray) : Option ((Int × (Int × (Int × Int))) × Int) :=
  ((block_read s)).bind fun r_1 =>
  bif (!r_1.2) then
    some ((0, 0, 0, 0), 5)
  else
    some (r_1.1.1, 0)
def ref12_Same.S0 (self : (List (Int × (Int × ByteArray))) → (List (Int × (Int × ByteArray))) → Int → Option (Bool)) (a_1 : (List (Int × (Int × ByteArray)))) (b_2 : (List (Int × (Int × ByteArray)))) (i_3 : Int) : Option (Bool) :=
  bif (ltI i_3 (lenL a_1)) then
    bif (inB i_3 (lenL a_1)) then
      bif (inB i_3 (lenL b_2)) then
        bif (!((eqI (nth a_1 i_3 (0, 0, eB)).1 (nth b_2 i_3 (0, 0, eB)).1) && ((eqI (nth a_1 i_3 (0, 0, eB)).2.1 (nth b_2 i_3 (0, 0, eB)).2.1) && (eqS (nth a_1 i_3 (0, 0, eB)).2.2 (nth b_2 i_3 (0, 0, eB)).2.2)))) then
          some false
        else
          self a_1 b_2 (addI .i64 i_3 1)
      else none
    else none
  else
    some true
def ref12_Same.l0 : Nat → (List (Int × (Int × ByteArray))) → (List (Int × (Int × ByteArray))) → Int → Option (Bool)
  | 0 => fun _ _ _ => none
  | n + 1 => ref12_Same.S0 (ref12_Same.l0 n)
def ref12_Same.S (j0 : (List (Int × (Int × ByteArray))) → (List (Int × (Int × ByteArray))) → Int → Option (Bool)) (a : (List (Int × (Int × ByteArray)))) (b : (List (Int × (Int × ByteArray)))) : Option (Bool) :=
  bif (neI (lenL a) (lenL b)) then
    some false
  else
    j0 a b 0
def ref12_Same (a : (List (Int × (Int × ByteArray)))) (b : (List (Int × (Int × ByteArray)))) : Option (Bool) := ref12_Same.S (ref12_Same.l0 fu) a b
def law13_awake : Option (Bool) :=
  ((block_Put [(law13_num 7), (0, 0, eB), (law13_num 7)] 1 2)).bind fun r_3 =>
  ((block_Take r_3.1)).bind fun r_4 =>
  ((block_Look r_3.1)).bind fun r_5 =>
  bif (eqI r_3.2 0) then
    bif (eqI (lenS r_3.1) 11) then
      ((ref12_Same r_4.1 [(law13_num 7), (0, 0, eB), (law13_num 7)])).bind fun r_6 =>
      bif r_6 then
        bif (eqI r_4.2 0) then
          bif ((eqI r_5.1.1 1) && ((eqI r_5.1.2.1 2) && ((eqI r_5.1.2.2.1 3) && (eqI r_5.1.2.2.2 1)))) then
            some (eqI r_5.2 0)
          else
            some false
        else
          some false
      else
        some false
    else
      some false
  else
    some false
def law13_BlockSame.S2 (self : (List Int) → (List (Int × (Int × ByteArray))) → Int → Int → Option (Bool)) (l_12 : (List Int)) (cells_13 : (List (Int × (Int × ByteArray)))) (n_14 : Int) (code_15 : Int) : Option (Bool) :=
  bif (leI code_15 5) then
    ((block_Put cells_13 1 code_15)).bind fun r_16 =>
    ((block_Take r_16.1)).bind fun r_17 =>
    ((block_Look r_16.1)).bind fun r_18 =>
    bif (neI r_16.2 0) then
      some false
    else
      bif (neI r_17.2 0) then
        some false
      else
        bif (neI r_18.2 0) then
          some false
        else
          ((ref12_Same r_17.1 cells_13)).bind fun r_19 =>
          bif (!r_19) then
            some false
          else
            bif (neI r_18.1.2.2.1 (lenL l_12)) then
              some false
            else
              bif (neI r_18.1.2.2.2 n_14) then
                some false
              else
                bif (neI r_18.1.2.1 code_15) then
                  some false
                else
                  self l_12 cells_13 n_14 (addI .i64 code_15 1)
  else
    (law13_awake).bind fun r_20 =>
    some r_20
def law13_BlockSame.l2 : Nat → (List Int) → (List (Int × (Int × ByteArray))) → Int → Int → Option (Bool)
  | 0 => fun _ _ _ _ => none
  | n + 1 => law13_BlockSame.S2 (law13_BlockSame.l2 n)
def law13_BlockSame.S1 (j2 : (List Int) → (List (Int × (Int × ByteArray))) → Int → Int → Option (Bool)) (l_9 : (List Int)) (cells_10 : (List (Int × (Int × ByteArray)))) (n_11 : Int) : Option (Bool) :=
  j2 l_9 cells_10 n_11 1
def law13_BlockSame.t1 : Nat → (List Int) → (List (Int × (Int × ByteArray))) → Int → Option (Bool)
  | 0 => fun _ _ _ => none
  | n + 1 => law13_BlockSame.S1 (law13_BlockSame.l2 n)
def law13_BlockSame.S0 (o1_0 : (List Int) → (List (Int × (Int × ByteArray))) → Int → Option (Bool)) (self : (List Int) → Int → (List (Int × (Int × ByteArray))) → Int → Int → Option (Bool)) (l_3 : (List Int)) (nulls_4 : Int) (cells_5 : (List (Int × (Int × ByteArray)))) (n_6 : Int) (i_7 : Int) : Option (Bool) :=
  bif (ltI i_7 (lenL l_3)) then
    bif (inB i_7 (lenL l_3)) then
      bif (leI 0 i_7) then
        bif (eqI (andI .i64 (shrI .i64 nulls_4 i_7) 1) 1) then
          bif (roomB ((List.length cells_5) + 1) 32) then
            self l_3 nulls_4 (cells_5 ++ [(0, 0, eB)]) (addI .i64 n_6 1) (addI .i64 i_7 1)
          else none
        else
          bif (roomB ((List.length cells_5) + 1) 32) then
            self l_3 nulls_4 (cells_5 ++ [(law13_num (nth l_3 i_7 0))]) n_6 (addI .i64 i_7 1)
          else none
      else none
    else none
  else
    o1_0 l_3 cells_5 n_6
def law13_BlockSame.l0 (o1_0 : (List Int) → (List (Int × (Int × ByteArray))) → Int → Option (Bool)) : Nat → (List Int) → Int → (List (Int × (Int × ByteArray))) → Int → Int → Option (Bool)
  | 0 => fun _ _ _ _ _ => none
  | n + 1 => law13_BlockSame.S0 o1_0 (law13_BlockSame.l0 o1_0 n)
def law13_BlockSame.S (j0 : (List Int) → Int → (List (Int × (Int × ByteArray))) → Int → Int → Option (Bool)) (l : (List Int)) (nulls : Int) : Option (Bool) :=
  bif (ltI 64 (lenL l)) then
    (law13_awake).bind fun r_1 =>
    some r_1
  else
    bif (eqI (lenL l) 0) then
      (law13_awake).bind fun r_2 =>
      some r_2
    else
      j0 l nulls [] 0 0
def law13_BlockSame (l : (List Int)) (nulls : Int) : Option (Bool) := law13_BlockSame.S (law13_BlockSame.l0 (law13_BlockSame.t1 fu) fu) l nulls
def block_Body (s : ByteArray) : Option (ByteArray × ByteArray × Int) :=
  ((block_read s)).bind fun r_1 =>
  bif (!r_1.2) then
    some (eB, eB, 5)
  else
    some (r_1.1.2.2.1, r_1.1.2.1, 0)
end Go.AM.Pure
