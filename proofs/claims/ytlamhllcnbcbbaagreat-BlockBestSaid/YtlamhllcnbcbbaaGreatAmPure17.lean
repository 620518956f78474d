import Derived.Test.YtlamhllcnbcbbaaGreatAmWords
/- PRINTED by gen/ of this repo: the functions of the seat as pure functions. -/
namespace Go.AM.Pure
open Go.AM
def cmp_isNaN_int (x : Int) : Bool :=
  (neI x x)
def Zpf (c : (Int × (Int × ByteArray))) : Int :=
  bif (eqI c.1 0) then
    bif (!((eqI c.1 c.1) && ((eqI c.2.1 0) && (eqS c.2.2 eB)))) then
      1
    else
      bif (ltI 32 (lenS c.2.2)) then
        1
      else
        0
  else
    bif (eqI c.1 1) then
      bif (!((eqI c.1 c.1) && ((eqI c.2.1 c.2.1) && (eqS c.2.2 eB)))) then
        1
      else
        bif (ltI 32 (lenS c.2.2)) then
          1
        else
          0
    else
      bif (eqI c.1 2) then
        bif (!((eqI c.1 c.1) && ((eqI c.2.1 0) && (eqS c.2.2 c.2.2)))) then
          1
        else
          bif (ltI 32 (lenS c.2.2)) then
            1
          else
            0
      else
        1
def Zpf.o (c : (Int × (Int × ByteArray))) : Option (Int) :=
  bif (eqI c.1 0) then
    bif (!((eqI c.1 c.1) && ((eqI c.2.1 0) && (eqS c.2.2 eB)))) then
      some 1
    else
      bif (ltI 32 (lenS c.2.2)) then
        some 1
      else
        some 0
  else
    bif (eqI c.1 1) then
      bif (!((eqI c.1 c.1) && ((eqI c.2.1 c.2.1) && (eqS c.2.2 eB)))) then
        some 1
      else
        bif (ltI 32 (lenS c.2.2)) then
          some 1
        else
          some 0
    else
      bif (eqI c.1 2) then
        bif (!((eqI c.1 c.1) && ((eqI c.2.1 0) && (eqS c.2.2 c.2.2)))) then
          some 1
        else
          bif (ltI 32 (lenS c.2.2)) then
            some 1
          else
            some 0
      else
        some 1
def Zfd (c : (Int × (Int × ByteArray))) : Bool :=
  bif (eqI c.1 0) then
    bif (eqI c.2.1 0) then
      (eqS c.2.2 eB)
    else
      false
  else
    bif (eqI c.1 1) then
      (eqS c.2.2 eB)
    else
      bif (eqI c.1 2) then
        bif (eqI c.2.1 0) then
          (leI (lenS c.2.2) 32)
        else
          false
      else
        false
def Zfd.o (c : (Int × (Int × ByteArray))) : Option (Bool) :=
  bif (eqI c.1 0) then
    bif (eqI c.2.1 0) then
      some (eqS c.2.2 eB)
    else
      some false
  else
    bif (eqI c.1 1) then
      some (eqS c.2.2 eB)
    else
      bif (eqI c.1 2) then
        bif (eqI c.2.1 0) then
          some (leI (lenS c.2.2) 32)
        else
          some false
      else
        some false
def Znc.S0 (self : (List (Int × (Int × ByteArray))) → Int → Int → Option (Bool)) (l_1 : (List (Int × (Int × ByteArray)))) (most_2 : Int) (i_3 : Int) : Option (Bool) :=
  bif (ltI i_3 (lenL l_1)) then
    bif (ltI i_3 most_2) then
      bif (inB i_3 (lenL l_1)) then
        bif (ltI 100 (lenS (nth l_1 i_3 (0, 0, eB)).2.2)) then
          some false
        else
          self l_1 most_2 (addI .i64 i_3 1)
      else none
    else
      some (leI (lenL l_1) most_2)
  else
    some (leI (lenL l_1) most_2)
def Znc.l0 : Nat → (List (Int × (Int × ByteArray))) → Int → Int → Option (Bool)
  | 0 => fun _ _ _ => none
  | n + 1 => Znc.S0 (Znc.l0 n)
def Znc.S (j0 : (List (Int × (Int × ByteArray))) → Int → Int → Option (Bool)) (l : (List (Int × (Int × ByteArray)))) (most : Int) : Option (Bool) :=
  j0 l most 0
def Znc (l : (List (Int × (Int × ByteArray)))) (most : Int) : Option (Bool) := Znc.S (Znc.l0 fu) l most
end Go.AM.Pure
