import Derived.Test.YtboihdnijlilpaaDoorAmPrimW
import Derived.Test.YtboihdnijlilpaaDoorAmPure06
/- PRINTED by gen/ of this repo: the functions of the seat as pure functions. -/
namespace Go.AM.Pure
open Go.AM

/-! peristyle/lex.kind -/
def lex_kind.S0 (c_1 : Int) : Option (Int) :=
  bif (eqI c_1 32) then
    bif (eqI c_1 32) then
      some 1
    else
      bif (eqI c_1 45) then
        some 4
      else
        bif (eqI c_1 39) then
          some 5
        else
          bif (eqI c_1 40) then
            bif (eqI c_1 40) then
              some 6
            else
              some 0
          else
            bif (eqI c_1 41) then
              bif (eqI c_1 41) then
                some 6
              else
                some 0
            else
              bif (eqI c_1 44) then
                bif (eqI c_1 44) then
                  some 6
                else
                  some 0
              else
                bif (eqI c_1 46) then
                  bif (eqI c_1 46) then
                    some 6
                  else
                    some 0
                else
                  bif (eqI c_1 42) then
                    bif (eqI c_1 42) then
                      some 6
                    else
                      some 0
                  else
                    bif (eqI c_1 61) then
                      bif (eqI c_1 61) then
                        some 6
                      else
                        some 0
                    else
                      bif (eqI c_1 60) then
                        bif (eqI c_1 60) then
                          some 6
                        else
                          some 0
                      else
                        bif (eqI c_1 62) then
                          some 6
                        else
                          some 0
  else
    bif (eqI c_1 9) then
      bif (eqI c_1 9) then
        some 1
      else
        bif (eqI c_1 45) then
          some 4
        else
          bif (eqI c_1 39) then
            some 5
          else
            bif (eqI c_1 40) then
              bif (eqI c_1 40) then
                some 6
              else
                some 0
            else
              bif (eqI c_1 41) then
                bif (eqI c_1 41) then
                  some 6
                else
                  some 0
              else
                bif (eqI c_1 44) then
                  bif (eqI c_1 44) then
                    some 6
                  else
                    some 0
                else
                  bif (eqI c_1 46) then
                    bif (eqI c_1 46) then
                      some 6
                    else
                      some 0
                  else
                    bif (eqI c_1 42) then
                      bif (eqI c_1 42) then
                        some 6
                      else
                        some 0
                    else
                      bif (eqI c_1 61) then
                        bif (eqI c_1 61) then
                          some 6
                        else
                          some 0
                      else
                        bif (eqI c_1 60) then
                          bif (eqI c_1 60) then
                            some 6
                          else
                            some 0
                        else
                          bif (eqI c_1 62) then
                            some 6
                          else
                            some 0
    else
      bif (eqI c_1 10) then
        bif (eqI c_1 10) then
          some 1
        else
          bif (eqI c_1 45) then
            some 4
          else
            bif (eqI c_1 39) then
              some 5
            else
              bif (eqI c_1 40) then
                bif (eqI c_1 40) then
                  some 6
                else
                  some 0
              else
                bif (eqI c_1 41) then
                  bif (eqI c_1 41) then
                    some 6
                  else
                    some 0
                else
                  bif (eqI c_1 44) then
                    bif (eqI c_1 44) then
                      some 6
                    else
                      some 0
                  else
                    bif (eqI c_1 46) then
                      bif (eqI c_1 46) then
                        some 6
                      else
                        some 0
                    else
                      bif (eqI c_1 42) then
                        bif (eqI c_1 42) then
                          some 6
                        else
                          some 0
                      else
                        bif (eqI c_1 61) then
                          bif (eqI c_1 61) then
                            some 6
                          else
                            some 0
                        else
                          bif (eqI c_1 60) then
                            bif (eqI c_1 60) then
                              some 6
                            else
                              some 0
                          else
                            bif (eqI c_1 62) then
                              some 6
                            else
                              some 0
      else
        bif (eqI c_1 13) then
          some 1
        else
          bif (eqI c_1 45) then
            some 4
          else
            bif (eqI c_1 39) then
              some 5
            else
              bif (eqI c_1 40) then
                bif (eqI c_1 40) then
                  some 6
                else
                  some 0
              else
                bif (eqI c_1 41) then
                  bif (eqI c_1 41) then
                    some 6
                  else
                    some 0
                else
                  bif (eqI c_1 44) then
                    bif (eqI c_1 44) then
                      some 6
                    else
                      some 0
                  else
                    bif (eqI c_1 46) then
                      bif (eqI c_1 46) then
                        some 6
                      else
                        some 0
                    else
                      bif (eqI c_1 42) then
                        bif (eqI c_1 42) then
                          some 6
                        else
                          some 0
                      else
                        bif (eqI c_1 61) then
                          bif (eqI c_1 61) then
                            some 6
                          else
                            some 0
                        else
                          bif (eqI c_1 60) then
                            bif (eqI c_1 60) then
                              some 6
                            else
                              some 0
                          else
                            bif (eqI c_1 62) then
                              some 6
                            else
                              some 0
def lex_kind.t0 : Nat → Int → Option (Int)
  | 0 => fun _ => none
  | _ + 1 => lex_kind.S0

def lex_kind.S (j0 : Int → Option (Int)) (c : Int) : Option (Int) :=
  bif (leI 97 c) then
    bif (leI c 122) then
      some 2
    else
      bif (leI 48 c) then
        bif (leI c 57) then
          some 3
        else
          j0 c
      else
        j0 c
  else
    bif (leI 48 c) then
      bif (leI c 57) then
        some 3
      else
        j0 c
    else
      j0 c
def lex_kind (c : Int) : Option (Int) := lex_kind.S (lex_kind.t0 fu) c

/-! peristyle/lex.Tokens$1 -/
def lex_Tokens_1 (c : Int) : Option (Bool) :=
  ((lex_kind c)).bind fun r_1 =>
  some (eqI r_1 1)

/-! (*peristyle/lex.lexer).while -/
def lex_lexer_while__lex_Tokens_1_w.S1 (k_4 : Int) (t1000000_5 : (ByteArray × Int)) : Option (ByteArray × (ByteArray × Int)) :=
  bif (inC t1000000_5.2 k_4 (lenS t1000000_5.1)) then
    some ((cutS t1000000_5.1 t1000000_5.2 k_4), t1000000_5.1, k_4)
  else none
def lex_lexer_while__lex_Tokens_1_w.t1 : Nat → Int → (ByteArray × Int) → Option (ByteArray × (ByteArray × Int))
  | 0 => fun _ _ => none
  | _ + 1 => lex_lexer_while__lex_Tokens_1_w.S1

def lex_lexer_while__lex_Tokens_1_w.S0 (o1_0 : Int → (ByteArray × Int) → Option (ByteArray × (ByteArray × Int))) (self : Int → (ByteArray × Int) → Option (ByteArray × (ByteArray × Int))) (k_1 : Int) (t1000000_2 : (ByteArray × Int)) : Option (ByteArray × (ByteArray × Int)) :=
  bif (ltI k_1 (lenS t1000000_2.1)) then
    bif (inB k_1 (lenS t1000000_2.1)) then
      ((lex_Tokens_1 (byteAt t1000000_2.1 k_1))).bind fun r_3 =>
      bif r_3 then
        self (addI .i64 k_1 1) t1000000_2
      else
        o1_0 k_1 t1000000_2
    else none
  else
    o1_0 k_1 t1000000_2
def lex_lexer_while__lex_Tokens_1_w.l0 (o1_0 : Int → (ByteArray × Int) → Option (ByteArray × (ByteArray × Int))) : Nat → Int → (ByteArray × Int) → Option (ByteArray × (ByteArray × Int))
  | 0 => fun _ _ => none
  | n + 1 => lex_lexer_while__lex_Tokens_1_w.S0 o1_0 (lex_lexer_while__lex_Tokens_1_w.l0 o1_0 n)

def lex_lexer_while__lex_Tokens_1_w.S (j0 : Int → (ByteArray × Int) → Option (ByteArray × (ByteArray × Int))) (l : (ByteArray × Int)) : Option (ByteArray × (ByteArray × Int)) :=
  j0 l.2 l
def lex_lexer_while__lex_Tokens_1_w (l : (ByteArray × Int)) : Option (ByteArray × (ByteArray × Int)) := lex_lexer_while__lex_Tokens_1_w.S (lex_lexer_while__lex_Tokens_1_w.l0 (lex_lexer_while__lex_Tokens_1_w.t1 fu) fu) l

/-! (*peristyle/lex.lexer).next$1 -/
def lex_lexer_next_1 (c : Int) : Option (Bool) :=
  ((lex_kind c)).bind fun r_1 =>
  bif (eqI r_1 2) then
    some true
  else
    ((lex_kind c)).bind fun r_2 =>
    bif (eqI r_2 3) then
      some true
    else
      some (eqI c 95)

/-! (*peristyle/lex.lexer).while -/
def lex_lexer_while__lex_lexer_next_1_w.S1 (k_4 : Int) (t1000000_5 : (ByteArray × Int)) : Option (ByteArray × (ByteArray × Int)) :=
  bif (inC t1000000_5.2 k_4 (lenS t1000000_5.1)) then
    some ((cutS t1000000_5.1 t1000000_5.2 k_4), t1000000_5.1, k_4)
  else none
def lex_lexer_while__lex_lexer_next_1_w.t1 : Nat → Int → (ByteArray × Int) → Option (ByteArray × (ByteArray × Int))
  | 0 => fun _ _ => none
  | _ + 1 => lex_lexer_while__lex_lexer_next_1_w.S1

def lex_lexer_while__lex_lexer_next_1_w.S0 (o1_0 : Int → (ByteArray × Int) → Option (ByteArray × (ByteArray × Int))) (self : Int → (ByteArray × Int) → Option (ByteArray × (ByteArray × Int))) (k_1 : Int) (t1000000_2 : (ByteArray × Int)) : Option (ByteArray × (ByteArray × Int)) :=
  bif (ltI k_1 (lenS t1000000_2.1)) then
    bif (inB k_1 (lenS t1000000_2.1)) then
      ((lex_lexer_next_1 (byteAt t1000000_2.1 k_1))).bind fun r_3 =>
      bif r_3 then
        self (addI .i64 k_1 1) t1000000_2
      else
        o1_0 k_1 t1000000_2
    else none
  else
    o1_0 k_1 t1000000_2
def lex_lexer_while__lex_lexer_next_1_w.l0 (o1_0 : Int → (ByteArray × Int) → Option (ByteArray × (ByteArray × Int))) : Nat → Int → (ByteArray × Int) → Option (ByteArray × (ByteArray × Int))
  | 0 => fun _ _ => none
  | n + 1 => lex_lexer_while__lex_lexer_next_1_w.S0 o1_0 (lex_lexer_while__lex_lexer_next_1_w.l0 o1_0 n)

def lex_lexer_while__lex_lexer_next_1_w.S (j0 : Int → (ByteArray × Int) → Option (ByteArray × (ByteArray × Int))) (l : (ByteArray × Int)) : Option (ByteArray × (ByteArray × Int)) :=
  j0 l.2 l
def lex_lexer_while__lex_lexer_next_1_w (l : (ByteArray × Int)) : Option (ByteArray × (ByteArray × Int)) := lex_lexer_while__lex_lexer_next_1_w.S (lex_lexer_while__lex_lexer_next_1_w.l0 (lex_lexer_while__lex_lexer_next_1_w.t1 fu) fu) l

/-! (*peristyle/lex.lexer).number$1 -/
def lex_lexer_number_1 (c : Int) : Option (Bool) :=
  ((lex_kind c)).bind fun r_1 =>
  some (eqI r_1 3)

/-! (*peristyle/lex.lexer).while -/
def lex_lexer_while__lex_lexer_number_1_w.S1 (k_4 : Int) (t1000000_5 : (ByteArray × Int)) : Option (ByteArray × (ByteArray × Int)) :=
  bif (inC t1000000_5.2 k_4 (lenS t1000000_5.1)) then
    some ((cutS t1000000_5.1 t1000000_5.2 k_4), t1000000_5.1, k_4)
  else none
def lex_lexer_while__lex_lexer_number_1_w.t1 : Nat → Int → (ByteArray × Int) → Option (ByteArray × (ByteArray × Int))
  | 0 => fun _ _ => none
  | _ + 1 => lex_lexer_while__lex_lexer_number_1_w.S1

def lex_lexer_while__lex_lexer_number_1_w.S0 (o1_0 : Int → (ByteArray × Int) → Option (ByteArray × (ByteArray × Int))) (self : Int → (ByteArray × Int) → Option (ByteArray × (ByteArray × Int))) (k_1 : Int) (t1000000_2 : (ByteArray × Int)) : Option (ByteArray × (ByteArray × Int)) :=
  bif (ltI k_1 (lenS t1000000_2.1)) then
    bif (inB k_1 (lenS t1000000_2.1)) then
      ((lex_lexer_number_1 (byteAt t1000000_2.1 k_1))).bind fun r_3 =>
      bif r_3 then
        self (addI .i64 k_1 1) t1000000_2
      else
        o1_0 k_1 t1000000_2
    else none
  else
    o1_0 k_1 t1000000_2
def lex_lexer_while__lex_lexer_number_1_w.l0 (o1_0 : Int → (ByteArray × Int) → Option (ByteArray × (ByteArray × Int))) : Nat → Int → (ByteArray × Int) → Option (ByteArray × (ByteArray × Int))
  | 0 => fun _ _ => none
  | n + 1 => lex_lexer_while__lex_lexer_number_1_w.S0 o1_0 (lex_lexer_while__lex_lexer_number_1_w.l0 o1_0 n)

def lex_lexer_while__lex_lexer_number_1_w.S (j0 : Int → (ByteArray × Int) → Option (ByteArray × (ByteArray × Int))) (l : (ByteArray × Int)) : Option (ByteArray × (ByteArray × Int)) :=
  j0 l.2 l
def lex_lexer_while__lex_lexer_number_1_w (l : (ByteArray × Int)) : Option (ByteArray × (ByteArray × Int)) := lex_lexer_while__lex_lexer_number_1_w.S (lex_lexer_while__lex_lexer_number_1_w.l0 (lex_lexer_while__lex_lexer_number_1_w.t1 fu) fu) l

/-! (*peristyle/lex.lexer).number -/
def lex_lexer_number_w.S1 (d_5 : ByteArray) (t1000000_6 : (ByteArray × Int)) : Option (Int × Bool × (ByteArray × Int)) :=
  ((cell_Read d_5)).bind fun r_7 =>
  some (r_7.1.2.1, (eqI r_7.2 0), t1000000_6)
def lex_lexer_number_w.t1 : Nat → ByteArray → (ByteArray × Int) → Option (Int × Bool × (ByteArray × Int))
  | 0 => fun _ _ => none
  | _ + 1 => lex_lexer_number_w.S1

def lex_lexer_number_w.S0 (j1 : ByteArray → (ByteArray × Int) → Option (Int × Bool × (ByteArray × Int))) (down_1 : Bool) (t1000000_2 : (ByteArray × Int)) : Option (Int × Bool × (ByteArray × Int)) :=
  ((lex_lexer_while__lex_lexer_number_1_w t1000000_2)).bind fun r_3 =>
  bif (eqS r_3.1 eB) then
    some (0, false, r_3.2)
  else
    bif (inC 0 (subI .i64 (lenS r_3.1) 1) (lenS r_3.1)) then
      ((trimS (cutS r_3.1 0 (subI .i64 (lenS r_3.1) 1)) (bs [48]))).bind fun r_4 =>
      bif (inC (subI .i64 (lenS r_3.1) 1) (lenS r_3.1) (lenS r_3.1)) then
        bif (roomS r_4 (cutS r_3.1 (subI .i64 (lenS r_3.1) 1) (lenS r_3.1))) then
          bif down_1 then
            bif (!(eqS (addS r_4 (cutS r_3.1 (subI .i64 (lenS r_3.1) 1) (lenS r_3.1))) (bs [48]))) then
              bif (roomS (bs [45]) (addS r_4 (cutS r_3.1 (subI .i64 (lenS r_3.1) 1) (lenS r_3.1)))) then
                j1 (addS (bs [45]) (addS r_4 (cutS r_3.1 (subI .i64 (lenS r_3.1) 1) (lenS r_3.1)))) r_3.2
              else none
            else
              j1 (addS r_4 (cutS r_3.1 (subI .i64 (lenS r_3.1) 1) (lenS r_3.1))) r_3.2
          else
            j1 (addS r_4 (cutS r_3.1 (subI .i64 (lenS r_3.1) 1) (lenS r_3.1))) r_3.2
        else none
      else none
    else none
def lex_lexer_number_w.t0 : Nat → Bool → (ByteArray × Int) → Option (Int × Bool × (ByteArray × Int))
  | 0 => fun _ _ => none
  | n + 1 => lex_lexer_number_w.S0 (lex_lexer_number_w.t1 n)

def lex_lexer_number_w.S (j0 : Bool → (ByteArray × Int) → Option (Int × Bool × (ByteArray × Int))) (l : (ByteArray × Int)) : Option (Int × Bool × (ByteArray × Int)) :=
  bif (inB l.2 (lenS l.1)) then
    bif (eqI (byteAt l.1 l.2) 45) then
      j0 (eqI (byteAt l.1 l.2) 45) (l.1, (addI .i64 l.2 1))
    else
      j0 (eqI (byteAt l.1 l.2) 45) l
  else none
def lex_lexer_number_w (l : (ByteArray × Int)) : Option (Int × Bool × (ByteArray × Int)) := lex_lexer_number_w.S (lex_lexer_number_w.t0 fu) l

/-! (*strings.Builder).Len -/
def strings_Builder_Len_w (b : (Bool × (List Int))) : Int × (Bool × (List Int)) :=
  ((lenL b.2), b)

/-! (*strings.Builder).WriteByte -/
def strings_Builder_WriteByte_w1 (b : (Bool × (List Int))) (c : Int) : Option (Bool × (Bool × (List Int))) :=
  bif (roomB ((List.length (bldUse b).2) + 1) 1) then
    some (true, (bldUse b).1, ((bldUse b).2 ++ [c]))
  else none

/-! (*peristyle/lex.lexer).text -/
def lex_lexer_text_w.S0 (self : (Bool × (List Int)) → (ByteArray × Int) → Option (ByteArray × Bool × (ByteArray × Int))) (b_1 : (Bool × (List Int))) (t1000000_2 : (ByteArray × Int)) : Option (ByteArray × Bool × (ByteArray × Int)) :=
  bif (ltI t1000000_2.2 (lenS t1000000_2.1)) then
    bif (inB t1000000_2.2 (lenS t1000000_2.1)) then
      bif (eqI (byteAt t1000000_2.1 t1000000_2.2) 39) then
        bif (leI (lenS t1000000_2.1) (addI .i64 t1000000_2.2 1)) then
          ((bldStr b_1)).bind fun r_3 =>
          some (r_3.1, (leI (strings_Builder_Len_w r_3.2).1 32), t1000000_2.1, (addI .i64 t1000000_2.2 1))
        else
          bif (inB (addI .i64 t1000000_2.2 1) (lenS t1000000_2.1)) then
            bif (neI (byteAt t1000000_2.1 (addI .i64 t1000000_2.2 1)) 39) then
              ((bldStr b_1)).bind fun r_5 =>
              some (r_5.1, (leI (strings_Builder_Len_w r_5.2).1 32), t1000000_2.1, (addI .i64 t1000000_2.2 1))
            else
              bif (inB (addI .i64 t1000000_2.2 1) (lenS t1000000_2.1)) then
                ((strings_Builder_WriteByte_w1 b_1 (byteAt t1000000_2.1 (addI .i64 t1000000_2.2 1)))).bind fun r_7 =>
                self r_7.2 (t1000000_2.1, (addI .i64 (addI .i64 t1000000_2.2 1) 1))
              else none
          else none
      else
        bif (inB t1000000_2.2 (lenS t1000000_2.1)) then
          ((strings_Builder_WriteByte_w1 b_1 (byteAt t1000000_2.1 t1000000_2.2))).bind fun r_8 =>
          self r_8.2 (t1000000_2.1, (addI .i64 t1000000_2.2 1))
        else none
    else none
  else
    some (eB, false, t1000000_2)
def lex_lexer_text_w.l0 : Nat → (Bool × (List Int)) → (ByteArray × Int) → Option (ByteArray × Bool × (ByteArray × Int))
  | 0 => fun _ _ => none
  | n + 1 => lex_lexer_text_w.S0 (lex_lexer_text_w.l0 n)

def lex_lexer_text_w.S (j0 : (Bool × (List Int)) → (ByteArray × Int) → Option (ByteArray × Bool × (ByteArray × Int))) (l : (ByteArray × Int)) : Option (ByteArray × Bool × (ByteArray × Int)) :=
  j0 (true, []) (l.1, (addI .i64 l.2 1))
def lex_lexer_text_w (l : (ByteArray × Int)) : Option (ByteArray × Bool × (ByteArray × Int)) := lex_lexer_text_w.S (lex_lexer_text_w.l0 fu) l

/-! (*peristyle/lex.lexer).sign -/
def lex_lexer_sign_w.S0 (n_1 : Int) (t1000000_2 : (ByteArray × Int)) : Option (ByteArray × (ByteArray × Int)) :=
  bif (inC (subI .i64 (addI .i64 t1000000_2.2 n_1) n_1) (addI .i64 t1000000_2.2 n_1) (lenS t1000000_2.1)) then
    some ((cutS t1000000_2.1 (subI .i64 (addI .i64 t1000000_2.2 n_1) n_1) (addI .i64 t1000000_2.2 n_1)), t1000000_2.1, (addI .i64 t1000000_2.2 n_1))
  else none
def lex_lexer_sign_w.t0 : Nat → Int → (ByteArray × Int) → Option (ByteArray × (ByteArray × Int))
  | 0 => fun _ _ => none
  | _ + 1 => lex_lexer_sign_w.S0

def lex_lexer_sign_w.S (j0 : Int → (ByteArray × Int) → Option (ByteArray × (ByteArray × Int))) (l : (ByteArray × Int)) : Option (ByteArray × (ByteArray × Int)) :=
  bif (ltI (addI .i64 l.2 1) (lenS l.1)) then
    bif (inC l.2 (addI .i64 l.2 2) (lenS l.1)) then
      bif (eqS (cutS l.1 l.2 (addI .i64 l.2 2)) (bs [60, 61])) then
        bif (eqS (cutS l.1 l.2 (addI .i64 l.2 2)) (bs [60, 61])) then
          j0 2 l
        else
          j0 1 l
      else
        bif (eqS (cutS l.1 l.2 (addI .i64 l.2 2)) (bs [62, 61])) then
          bif (eqS (cutS l.1 l.2 (addI .i64 l.2 2)) (bs [62, 61])) then
            j0 2 l
          else
            j0 1 l
        else
          bif (eqS (cutS l.1 l.2 (addI .i64 l.2 2)) (bs [60, 62])) then
            j0 2 l
          else
            j0 1 l
    else none
  else
    j0 1 l
def lex_lexer_sign_w (l : (ByteArray × Int)) : Option (ByteArray × (ByteArray × Int)) := lex_lexer_sign_w.S (lex_lexer_sign_w.t0 fu) l

/-! (*peristyle/lex.lexer).next -/
def lex_lexer_next_w (l : (ByteArray × Int)) : Option ((Int × (ByteArray × (Int × Int))) × Bool × (ByteArray × Int)) :=
  bif (inB l.2 (lenS l.1)) then
    ((lex_kind (byteAt l.1 l.2))).bind fun r_1 =>
    bif (eqI r_1 2) then
      ((lex_lexer_while__lex_lexer_next_1_w l)).bind fun r_2 =>
      some ((1, r_2.1, 0, l.2), true, r_2.2)
    else
      bif (eqI r_1 4) then
        ((lex_lexer_number_w l)).bind fun r_3 =>
        some ((2, eB, r_3.1, l.2), r_3.2)
      else
        bif (eqI r_1 3) then
          ((lex_lexer_number_w l)).bind fun r_4 =>
          some ((2, eB, r_4.1, l.2), r_4.2)
        else
          bif (eqI r_1 5) then
            ((lex_lexer_text_w l)).bind fun r_5 =>
            some ((3, r_5.1, 0, l.2), r_5.2)
          else
            bif (eqI r_1 6) then
              ((lex_lexer_sign_w l)).bind fun r_6 =>
              some ((4, r_6.1, 0, l.2), true, r_6.2)
            else
              some ((0, eB, 0, l.2), false, l)
  else none

/-! peristyle/lex.Tokens -/
def lex_Tokens.S0 (self : ByteArray → (List (Int × (ByteArray × (Int × Int)))) → (ByteArray × Int) → Option ((List (Int × (ByteArray × (Int × Int)))) × Int × Int)) (s_1 : ByteArray) (out_2 : (List (Int × (ByteArray × (Int × Int))))) (t14_3 : (ByteArray × Int)) : Option ((List (Int × (ByteArray × (Int × Int)))) × Int × Int) :=
  ((lex_lexer_while__lex_Tokens_1_w t14_3)).bind fun r_4 =>
  bif (eqI r_4.2.2 (lenS s_1)) then
    bif (roomB ((List.length out_2) + 1) 40) then
      some ((out_2 ++ [(0, eB, 0, r_4.2.2)]), 0, 0)
    else none
  else
    ((lex_lexer_next_w r_4.2)).bind fun r_5 =>
    bif (!r_5.2.1) then
      some ([], r_5.1.2.2.2, 300)
    else
      bif (roomB ((List.length out_2) + 1) 40) then
        self s_1 (out_2 ++ [r_5.1]) r_5.2.2
      else none
def lex_Tokens.l0 : Nat → ByteArray → (List (Int × (ByteArray × (Int × Int)))) → (ByteArray × Int) → Option ((List (Int × (ByteArray × (Int × Int)))) × Int × Int)
  | 0 => fun _ _ _ => none
  | n + 1 => lex_Tokens.S0 (lex_Tokens.l0 n)

def lex_Tokens.S (j0 : ByteArray → (List (Int × (ByteArray × (Int × Int)))) → (ByteArray × Int) → Option ((List (Int × (ByteArray × (Int × Int)))) × Int × Int)) (s : ByteArray) : Option ((List (Int × (ByteArray × (Int × Int)))) × Int × Int) :=
  bif (ltI 1024 (lenS s)) then
    some ([], 0, 4)
  else
    j0 s [] (s, 0)
def lex_Tokens (s : ByteArray) : Option ((List (Int × (ByteArray × (Int × Int)))) × Int × Int) := lex_Tokens.S (lex_Tokens.l0 fu) s

/-! peristyle/lex.Keyword -/
def lex_Keyword (s : ByteArray) : Option (Bool) :=
  bif (!(eqS s eB)) then
    ((hasS s (bs [32]))).bind fun r_1 =>
    bif (!r_1) then
      bif (roomS (bs [32]) s) then
        bif (roomS (addS (bs [32]) s) (bs [32])) then
          ((hasS (⟨List.toArray (List.append (List.append [32, 97, 100, 118, 97, 110, 99, 101, 32, 97, 110, 100, 32, 97, 116, 32, 98, 121, 32, 99, 111, 117, 110, 116, 32, 99, 114, 101, 97, 116, 101, 32, 100, 101, 108, 101, 116, 101, 32, 100, 101, 115, 99, 32, 100, 114, 111, 112] [32, 102, 111, 114, 103, 101, 116, 32, 102, 114, 111, 109, 32, 103, 114, 111, 117, 112, 32, 104, 105, 110, 116, 32, 105, 110, 115, 101, 114, 116, 32, 105, 110, 116, 32, 105, 110, 116, 111, 32, 105, 115, 32, 106, 111, 105, 110, 32]) (List.append [107, 101, 121, 115, 32, 108, 105, 109, 105, 116, 32, 109, 97, 120, 32, 109, 105, 110, 32, 109, 111, 118, 101, 32, 110, 111, 116, 32, 110, 117, 108, 108, 32, 111, 110, 32, 111, 114, 32, 111, 114, 100, 101, 114, 32, 112, 114, 111] [106, 101, 99, 116, 105, 111, 110, 32, 115, 101, 108, 101, 99, 116, 32, 115, 117, 109, 32, 116, 97, 98, 108, 101, 32, 116, 101, 120, 116, 32, 117, 115, 105, 110, 103, 32, 118, 97, 108, 117, 101, 115, 32, 119, 104, 101, 114, 101, 32]))⟩ : ByteArray) (addS (addS (bs [32]) s) (bs [32])))).bind fun r_2 =>
          some r_2
        else none
      else none
    else
      some false
  else
    some false

/-! peristyle/peristylelaw29.awake -/
def law29_awake : Option (Bool) :=
  ((lex_Tokens (bs [97, 60, 61, 39, 105, 116, 39, 39, 115, 39, 32, 45, 48, 55]))).bind fun r_1 =>
  ((lex_Tokens (bs [97, 32, 35, 32, 98]))).bind fun r_2 =>
  bif (eqI r_1.2.2 0) then
    bif (eqI (lenL r_1.1) 5) then
      bif (inB 1 (lenL r_1.1)) then
        bif (eqS (nth r_1.1 1 (0, eB, 0, 0)).2.1 (bs [60, 61])) then
          bif (inB 2 (lenL r_1.1)) then
            bif (eqS (nth r_1.1 2 (0, eB, 0, 0)).2.1 (bs [105, 116, 39, 115])) then
              bif (inB 3 (lenL r_1.1)) then
                bif (eqI (nth r_1.1 3 (0, eB, 0, 0)).2.2.1 (-7)) then
                  bif (inB 4 (lenL r_1.1)) then
                    bif (eqI (nth r_1.1 4 (0, eB, 0, 0)).2.2.2 14) then
                      bif (eqI r_2.2.2 300) then
                        bif (eqI r_2.2.1 2) then
                          ((lex_Keyword (bs [115, 101, 108, 101, 99, 116]))).bind fun r_3 =>
                          bif r_3 then
                            ((lex_Keyword (bs [115, 101, 108, 101, 99, 116, 115]))).bind fun r_4 =>
                            some (!r_4)
                          else
                            some false
                        else
                          some false
                      else
                        some false
                    else
                      some false
                  else none
                else
                  some false
              else none
            else
              some false
          else none
        else
          some false
      else none
    else
      some false
  else
    some false

/-! peristyle/peristyleref29.letter -/
def ref29_letter (c : Int) : Bool :=
  bif (leI 97 c) then
    (leI c 122)
  else
    false

def ref29_letter.o (c : Int) : Option (Bool) :=
  bif (leI 97 c) then
    some (leI c 122)
  else
    some false

/-! peristyle/peristyleref29.digit -/
def ref29_digit (c : Int) : Bool :=
  bif (leI 48 c) then
    (leI c 57)
  else
    false

def ref29_digit.o (c : Int) : Option (Bool) :=
  bif (leI 48 c) then
    some (leI c 57)
  else
    some false

/-! peristyle/peristyleref29.span -/
def ref29_span.S0 (self : ByteArray → Int → Bool → Int → Option (Int)) (s_1 : ByteArray) (at_2 : Int) (words_3 : Bool) (n_4 : Int) : Option (Int) :=
  bif (ltI (addI .i64 at_2 n_4) (lenS s_1)) then
    bif (inB (addI .i64 at_2 n_4) (lenS s_1)) then
      bif (ref29_digit (byteAt s_1 (addI .i64 at_2 n_4))) then
        self s_1 at_2 words_3 (addI .i64 n_4 1)
      else
        bif words_3 then
          bif (inB (addI .i64 at_2 n_4) (lenS s_1)) then
            bif (ref29_letter (byteAt s_1 (addI .i64 at_2 n_4))) then
              self s_1 at_2 words_3 (addI .i64 n_4 1)
            else
              bif (inB (addI .i64 at_2 n_4) (lenS s_1)) then
                bif (eqI (byteAt s_1 (addI .i64 at_2 n_4)) 95) then
                  self s_1 at_2 words_3 (addI .i64 n_4 1)
                else
                  some n_4
              else none
          else none
        else
          some n_4
    else none
  else
    some n_4
def ref29_span.l0 : Nat → ByteArray → Int → Bool → Int → Option (Int)
  | 0 => fun _ _ _ _ => none
  | n + 1 => ref29_span.S0 (ref29_span.l0 n)

def ref29_span.S (j0 : ByteArray → Int → Bool → Int → Option (Int)) (s : ByteArray) (xat : Int) (words : Bool) : Option (Int) :=
  j0 s xat words 0
def ref29_span (s : ByteArray) (xat : Int) (words : Bool) : Option (Int) := ref29_span.S (ref29_span.l0 fu) s xat words

/-! peristyle/peristyleref29.number -/
def ref29_number.S3 (at_18 : Int) (from_19 : Int) (n_20 : Int) (t_21 : ByteArray) (t4_22 : (Int × (ByteArray × (Int × Int)))) : Option ((Int × (ByteArray × (Int × Int))) × Int) :=
  ((ref06_Read t_21)).bind fun r_23 =>
  bif (neI r_23.2 0) then
    some ((0, eB, 0, 0), 0)
  else
    some ((2, eB, r_23.1.2.1, at_18), (subI .i64 (addI .i64 from_19 n_20) at_18))
def ref29_number.t3 : Nat → Int → Int → Int → ByteArray → (Int × (ByteArray × (Int × Int))) → Option ((Int × (ByteArray × (Int × Int))) × Int)
  | 0 => fun _ _ _ _ _ => none
  | _ + 1 => ref29_number.S3

def ref29_number.S2 (j3 : Int → Int → Int → ByteArray → (Int × (ByteArray × (Int × Int))) → Option ((Int × (ByteArray × (Int × Int))) × Int)) (s_12 : ByteArray) (at_13 : Int) (from_14 : Int) (n_15 : Int) (first_16 : Int) (t4_17 : (Int × (ByteArray × (Int × Int)))) : Option ((Int × (ByteArray × (Int × Int))) × Int) :=
  bif (inC first_16 (addI .i64 from_14 n_15) (lenS s_12)) then
    bif (inB at_13 (lenS s_12)) then
      bif (eqI (byteAt s_12 at_13) 45) then
        bif (!(eqS (cutS s_12 first_16 (addI .i64 from_14 n_15)) (bs [48]))) then
          bif (roomS (bs [45]) (cutS s_12 first_16 (addI .i64 from_14 n_15))) then
            j3 at_13 from_14 n_15 (addS (bs [45]) (cutS s_12 first_16 (addI .i64 from_14 n_15))) t4_17
          else none
        else
          j3 at_13 from_14 n_15 (cutS s_12 first_16 (addI .i64 from_14 n_15)) t4_17
      else
        j3 at_13 from_14 n_15 (cutS s_12 first_16 (addI .i64 from_14 n_15)) t4_17
    else none
  else none
def ref29_number.t2 : Nat → ByteArray → Int → Int → Int → Int → (Int × (ByteArray × (Int × Int))) → Option ((Int × (ByteArray × (Int × Int))) × Int)
  | 0 => fun _ _ _ _ _ _ => none
  | n + 1 => ref29_number.S2 (ref29_number.t3 n)

def ref29_number.S1 (o2_1 : ByteArray → Int → Int → Int → Int → (Int × (ByteArray × (Int × Int))) → Option ((Int × (ByteArray × (Int × Int))) × Int)) (self : ByteArray → Int → Int → Int → Int → (Int × (ByteArray × (Int × Int))) → Option ((Int × (ByteArray × (Int × Int))) × Int)) (s_6 : ByteArray) (at_7 : Int) (from_8 : Int) (n_9 : Int) (first_10 : Int) (t4_11 : (Int × (ByteArray × (Int × Int)))) : Option ((Int × (ByteArray × (Int × Int))) × Int) :=
  bif (ltI first_10 (subI .i64 (addI .i64 from_8 n_9) 1)) then
    bif (inB first_10 (lenS s_6)) then
      bif (eqI (byteAt s_6 first_10) 48) then
        self s_6 at_7 from_8 n_9 (addI .i64 first_10 1) t4_11
      else
        o2_1 s_6 at_7 from_8 n_9 first_10 t4_11
    else none
  else
    o2_1 s_6 at_7 from_8 n_9 first_10 t4_11
def ref29_number.l1 (o2_1 : ByteArray → Int → Int → Int → Int → (Int × (ByteArray × (Int × Int))) → Option ((Int × (ByteArray × (Int × Int))) × Int)) : Nat → ByteArray → Int → Int → Int → Int → (Int × (ByteArray × (Int × Int))) → Option ((Int × (ByteArray × (Int × Int))) × Int)
  | 0 => fun _ _ _ _ _ _ => none
  | n + 1 => ref29_number.S1 o2_1 (ref29_number.l1 o2_1 n)

def ref29_number.S0 (j1 : ByteArray → Int → Int → Int → Int → (Int × (ByteArray × (Int × Int))) → Option ((Int × (ByteArray × (Int × Int))) × Int)) (s_1 : ByteArray) (at_2 : Int) (from_3 : Int) (t4_4 : (Int × (ByteArray × (Int × Int)))) : Option ((Int × (ByteArray × (Int × Int))) × Int) :=
  ((ref29_span s_1 from_3 false)).bind fun r_5 =>
  bif (eqI r_5 0) then
    some ((0, eB, 0, 0), 0)
  else
    j1 s_1 at_2 from_3 r_5 from_3 t4_4
def ref29_number.t0 : Nat → ByteArray → Int → Int → (Int × (ByteArray × (Int × Int))) → Option ((Int × (ByteArray × (Int × Int))) × Int)
  | 0 => fun _ _ _ _ => none
  | n + 1 => ref29_number.S0 (ref29_number.l1 (ref29_number.t2 n) n)

def ref29_number.S (j0 : ByteArray → Int → Int → (Int × (ByteArray × (Int × Int))) → Option ((Int × (ByteArray × (Int × Int))) × Int)) (s : ByteArray) (xat : Int) : Option ((Int × (ByteArray × (Int × Int))) × Int) :=
  bif (inB xat (lenS s)) then
    bif (eqI (byteAt s xat) 45) then
      j0 s xat (addI .i64 xat 1) (0, eB, 0, 0)
    else
      j0 s xat xat (0, eB, 0, 0)
  else none
def ref29_number (s : ByteArray) (xat : Int) : Option ((Int × (ByteArray × (Int × Int))) × Int) := ref29_number.S (ref29_number.t0 fu) s xat

/-! peristyle/peristyleref29.text -/
def ref29_text.S1 (s_6 : ByteArray) (at_7 : Int) (out_8 : (List Int)) (i_9 : Int) (t4_10 : (Int × (ByteArray × (Int × Int)))) : Option ((Int × (ByteArray × (Int × Int))) × Int) :=
  bif (leI (lenS s_6) i_9) then
    some ((0, eB, 0, 0), 0)
  else
    bif (ltI 32 (lenL out_8)) then
      some ((0, eB, 0, 0), 0)
    else
      some ((3, (ofBytes out_8), 0, at_7), (subI .i64 (addI .i64 i_9 1) at_7))
def ref29_text.t1 : Nat → ByteArray → Int → (List Int) → Int → (Int × (ByteArray × (Int × Int))) → Option ((Int × (ByteArray × (Int × Int))) × Int)
  | 0 => fun _ _ _ _ _ => none
  | _ + 1 => ref29_text.S1

def ref29_text.S0 (o1_0 : ByteArray → Int → (List Int) → Int → (Int × (ByteArray × (Int × Int))) → Option ((Int × (ByteArray × (Int × Int))) × Int)) (self : ByteArray → Int → (List Int) → Int → (Int × (ByteArray × (Int × Int))) → Option ((Int × (ByteArray × (Int × Int))) × Int)) (s_1 : ByteArray) (at_2 : Int) (out_3 : (List Int)) (i_4 : Int) (t4_5 : (Int × (ByteArray × (Int × Int)))) : Option ((Int × (ByteArray × (Int × Int))) × Int) :=
  bif (ltI i_4 (lenS s_1)) then
    bif (inB i_4 (lenS s_1)) then
      bif (eqI (byteAt s_1 i_4) 39) then
        bif (leI (lenS s_1) (addI .i64 i_4 1)) then
          o1_0 s_1 at_2 out_3 i_4 t4_5
        else
          bif (inB (addI .i64 i_4 1) (lenS s_1)) then
            bif (neI (byteAt s_1 (addI .i64 i_4 1)) 39) then
              o1_0 s_1 at_2 out_3 i_4 t4_5
            else
              bif (inB (addI .i64 i_4 1) (lenS s_1)) then
                bif (roomB ((List.length out_3) + 1) 1) then
                  self s_1 at_2 (out_3 ++ [(byteAt s_1 (addI .i64 i_4 1))]) (addI .i64 (addI .i64 i_4 1) 1) t4_5
                else none
              else none
          else none
      else
        bif (inB i_4 (lenS s_1)) then
          bif (roomB ((List.length out_3) + 1) 1) then
            self s_1 at_2 (out_3 ++ [(byteAt s_1 i_4)]) (addI .i64 i_4 1) t4_5
          else none
        else none
    else none
  else
    o1_0 s_1 at_2 out_3 i_4 t4_5
def ref29_text.l0 (o1_0 : ByteArray → Int → (List Int) → Int → (Int × (ByteArray × (Int × Int))) → Option ((Int × (ByteArray × (Int × Int))) × Int)) : Nat → ByteArray → Int → (List Int) → Int → (Int × (ByteArray × (Int × Int))) → Option ((Int × (ByteArray × (Int × Int))) × Int)
  | 0 => fun _ _ _ _ _ => none
  | n + 1 => ref29_text.S0 o1_0 (ref29_text.l0 o1_0 n)

def ref29_text.S (j0 : ByteArray → Int → (List Int) → Int → (Int × (ByteArray × (Int × Int))) → Option ((Int × (ByteArray × (Int × Int))) × Int)) (s : ByteArray) (xat : Int) : Option ((Int × (ByteArray × (Int × Int))) × Int) :=
  j0 s xat [] (addI .i64 xat 1) (0, eB, 0, 0)
def ref29_text (s : ByteArray) (xat : Int) : Option ((Int × (ByteArray × (Int × Int))) × Int) := ref29_text.S (ref29_text.l0 (ref29_text.t1 fu) fu) s xat

/-! peristyle/peristyleref29.sign -/
def ref29_sign.S0 (self : ByteArray → Int → (List ByteArray) → Int → (Int × (ByteArray × (Int × Int))) → Option ((Int × (ByteArray × (Int × Int))) × Int)) (s_1 : ByteArray) (at_2 : Int) (l_3 : (List ByteArray)) (i_4 : Int) (t4_5 : (Int × (ByteArray × (Int × Int)))) : Option ((Int × (ByteArray × (Int × Int))) × Int) :=
  bif (ltI i_4 (lenL l_3)) then
    bif (inB i_4 (lenL l_3)) then
      bif (leI (lenS (nth l_3 i_4 eB)) (subI .i64 (lenS s_1) at_2)) then
        bif (inB i_4 (lenL l_3)) then
          bif (inC at_2 (addI .i64 at_2 (lenS (nth l_3 i_4 eB))) (lenS s_1)) then
            bif (inB i_4 (lenL l_3)) then
              bif (eqS (cutS s_1 at_2 (addI .i64 at_2 (lenS (nth l_3 i_4 eB)))) (nth l_3 i_4 eB)) then
                bif (inB i_4 (lenL l_3)) then
                  bif (inB i_4 (lenL l_3)) then
                    some ((4, (nth l_3 i_4 eB), 0, at_2), (lenS (nth l_3 i_4 eB)))
                  else none
                else none
              else
                self s_1 at_2 l_3 (addI .i64 i_4 1) t4_5
            else none
          else none
        else none
      else
        self s_1 at_2 l_3 (addI .i64 i_4 1) t4_5
    else none
  else
    some ((0, eB, 0, 0), 0)
def ref29_sign.l0 : Nat → ByteArray → Int → (List ByteArray) → Int → (Int × (ByteArray × (Int × Int))) → Option ((Int × (ByteArray × (Int × Int))) × Int)
  | 0 => fun _ _ _ _ _ => none
  | n + 1 => ref29_sign.S0 (ref29_sign.l0 n)

def ref29_sign.S (j0 : ByteArray → Int → (List ByteArray) → Int → (Int × (ByteArray × (Int × Int))) → Option ((Int × (ByteArray × (Int × Int))) × Int)) (s : ByteArray) (xat : Int) : Option ((Int × (ByteArray × (Int × Int))) × Int) :=
  j0 s xat [(bs [60, 61]), (bs [62, 61]), (bs [60, 62]), (bs [40]), (bs [41]), (bs [44]), (bs [46]), (bs [42]), (bs [61]), (bs [60]), (bs [62])] 0 (0, eB, 0, 0)
def ref29_sign (s : ByteArray) (xat : Int) : Option ((Int × (ByteArray × (Int × Int))) × Int) := ref29_sign.S (ref29_sign.l0 fu) s xat

/-! peristyle/peristyleref29.one -/
def ref29_one (s : ByteArray) (xat : Int) : Option ((Int × (ByteArray × (Int × Int))) × Int) :=
  bif (inB xat (lenS s)) then
    bif (ref29_letter (byteAt s xat)) then
      ((ref29_span s xat true)).bind fun r_2 =>
      bif (inC xat (addI .i64 xat r_2) (lenS s)) then
        some ((1, (cutS s xat (addI .i64 xat r_2)), 0, xat), r_2)
      else none
    else
      bif (ref29_digit (byteAt s xat)) then
        ((ref29_number s xat)).bind fun r_4 =>
        some r_4
      else
        bif (eqI (byteAt s xat) 45) then
          ((ref29_number s xat)).bind fun r_5 =>
          some r_5
        else
          bif (eqI (byteAt s xat) 39) then
            ((ref29_text s xat)).bind fun r_6 =>
            some r_6
          else
            ((ref29_sign s xat)).bind fun r_7 =>
            some r_7
  else none

/-! peristyle/peristyleref29.Tokens -/
def ref29_Tokens.S1 (out_5 : (List (Int × (ByteArray × (Int × Int))))) (at_6 : Int) : Option ((List (Int × (ByteArray × (Int × Int)))) × Int × Int) :=
  bif (roomB ((List.length out_5) + 1) 40) then
    some ((out_5 ++ [(0, eB, 0, at_6)]), 0, 0)
  else none
def ref29_Tokens.t1 : Nat → (List (Int × (ByteArray × (Int × Int)))) → Int → Option ((List (Int × (ByteArray × (Int × Int)))) × Int × Int)
  | 0 => fun _ _ => none
  | _ + 1 => ref29_Tokens.S1

def ref29_Tokens.S0 (o1_0 : (List (Int × (ByteArray × (Int × Int)))) → Int → Option ((List (Int × (ByteArray × (Int × Int)))) × Int × Int)) (self : ByteArray → (List (Int × (ByteArray × (Int × Int)))) → Int → Option ((List (Int × (ByteArray × (Int × Int)))) × Int × Int)) (s_1 : ByteArray) (out_2 : (List (Int × (ByteArray × (Int × Int))))) (at_3 : Int) : Option ((List (Int × (ByteArray × (Int × Int)))) × Int × Int) :=
  bif (ltI at_3 (lenS s_1)) then
    bif (inB at_3 (lenS s_1)) then
      bif (eqI (byteAt s_1 at_3) 32) then
        self s_1 out_2 (addI .i64 at_3 1)
      else
        bif (inB at_3 (lenS s_1)) then
          bif (eqI (byteAt s_1 at_3) 9) then
            self s_1 out_2 (addI .i64 at_3 1)
          else
            bif (inB at_3 (lenS s_1)) then
              bif (eqI (byteAt s_1 at_3) 10) then
                self s_1 out_2 (addI .i64 at_3 1)
              else
                bif (inB at_3 (lenS s_1)) then
                  bif (eqI (byteAt s_1 at_3) 13) then
                    self s_1 out_2 (addI .i64 at_3 1)
                  else
                    ((ref29_one s_1 at_3)).bind fun r_4 =>
                    bif (eqI r_4.2 0) then
                      some ([], at_3, 300)
                    else
                      bif (roomB ((List.length out_2) + 1) 40) then
                        self s_1 (out_2 ++ [r_4.1]) (addI .i64 at_3 r_4.2)
                      else none
                else none
            else none
        else none
    else none
  else
    o1_0 out_2 at_3
def ref29_Tokens.l0 (o1_0 : (List (Int × (ByteArray × (Int × Int)))) → Int → Option ((List (Int × (ByteArray × (Int × Int)))) × Int × Int)) : Nat → ByteArray → (List (Int × (ByteArray × (Int × Int)))) → Int → Option ((List (Int × (ByteArray × (Int × Int)))) × Int × Int)
  | 0 => fun _ _ _ => none
  | n + 1 => ref29_Tokens.S0 o1_0 (ref29_Tokens.l0 o1_0 n)

def ref29_Tokens.S (j0 : ByteArray → (List (Int × (ByteArray × (Int × Int)))) → Int → Option ((List (Int × (ByteArray × (Int × Int)))) × Int × Int)) (s : ByteArray) : Option ((List (Int × (ByteArray × (Int × Int)))) × Int × Int) :=
  bif (ltI 1024 (lenS s)) then
    some ([], 0, 4)
  else
    j0 s [] 0
def ref29_Tokens (s : ByteArray) : Option ((List (Int × (ByteArray × (Int × Int)))) × Int × Int) := ref29_Tokens.S (ref29_Tokens.l0 (ref29_Tokens.t1 fu) fu) s

/-! peristyle/peristyleref29.Same -/
def ref29_Same.S0 (self : (List (Int × (ByteArray × (Int × Int)))) → (List (Int × (ByteArray × (Int × Int)))) → Int → Option (Bool)) (a_1 : (List (Int × (ByteArray × (Int × Int))))) (b_2 : (List (Int × (ByteArray × (Int × Int))))) (i_3 : Int) : Option (Bool) :=
  bif (ltI i_3 (lenL a_1)) then
    bif (inB i_3 (lenL a_1)) then
      bif (inB i_3 (lenL b_2)) then
        bif (!((eqI (nth a_1 i_3 (0, eB, 0, 0)).1 (nth b_2 i_3 (0, eB, 0, 0)).1) && ((eqS (nth a_1 i_3 (0, eB, 0, 0)).2.1 (nth b_2 i_3 (0, eB, 0, 0)).2.1) && ((eqI (nth a_1 i_3 (0, eB, 0, 0)).2.2.1 (nth b_2 i_3 (0, eB, 0, 0)).2.2.1) && (eqI (nth a_1 i_3 (0, eB, 0, 0)).2.2.2 (nth b_2 i_3 (0, eB, 0, 0)).2.2.2))))) then
          some false
        else
          self a_1 b_2 (addI .i64 i_3 1)
      else none
    else none
  else
    some true
def ref29_Same.l0 : Nat → (List (Int × (ByteArray × (Int × Int)))) → (List (Int × (ByteArray × (Int × Int)))) → Int → Option (Bool)
  | 0 => fun _ _ _ => none
  | n + 1 => ref29_Same.S0 (ref29_Same.l0 n)

def ref29_Same.S (j0 : (List (Int × (ByteArray × (Int × Int)))) → (List (Int × (ByteArray × (Int × Int)))) → Int → Option (Bool)) (a : (List (Int × (ByteArray × (Int × Int))))) (b : (List (Int × (ByteArray × (Int × Int))))) : Option (Bool) :=
  bif (neI (lenL a) (lenL b)) then
    some false
  else
    j0 a b 0
def ref29_Same (a : (List (Int × (ByteArray × (Int × Int))))) (b : (List (Int × (ByteArray × (Int × Int))))) : Option (Bool) := ref29_Same.S (ref29_Same.l0 fu) a b

/-! peristyle/peristyleref29.Words -/
def ref29_Words : (List ByteArray) :=
  [(bs [97, 100, 118, 97, 110, 99, 101]), (bs [97, 110, 100]), (bs [97, 116]), (bs [98, 121]), (bs [99, 111, 117, 110, 116]), (bs [99, 114, 101, 97, 116, 101]), (bs [100, 101, 108, 101, 116, 101]), (bs [100, 101, 115, 99]), (bs [100, 114, 111, 112]), (bs [102, 111, 114, 103, 101, 116]), (bs [102, 114, 111, 109]), (bs [103, 114, 111, 117, 112]), (bs [104, 105, 110, 116]), (bs [105, 110, 115, 101, 114, 116]), (bs [105, 110, 116]), (bs [105, 110, 116, 111]), (bs [105, 115]), (bs [106, 111, 105, 110]), (bs [107, 101, 121, 115]), (bs [108, 105, 109, 105, 116]), (bs [109, 97, 120]), (bs [109, 105, 110]), (bs [109, 111, 118, 101]), (bs [110, 111, 116]), (bs [110, 117, 108, 108]), (bs [111, 110]), (bs [111, 114]), (bs [111, 114, 100, 101, 114]), (bs [112, 114, 111, 106, 101, 99, 116, 105, 111, 110]), (bs [115, 101, 108, 101, 99, 116]), (bs [115, 117, 109]), (bs [116, 97, 98, 108, 101]), (bs [116, 101, 120, 116]), (bs [117, 115, 105, 110, 103]), (bs [118, 97, 108, 117, 101, 115]), (bs [119, 104, 101, 114, 101])]

/-! peristyle/peristyleref29.Keyword -/
def ref29_Keyword.S0 (self : ByteArray → (List ByteArray) → Int → Option (Bool)) (s_2 : ByteArray) (l_3 : (List ByteArray)) (i_4 : Int) : Option (Bool) :=
  bif (ltI i_4 (lenL l_3)) then
    bif (inB i_4 (lenL l_3)) then
      bif (eqS (nth l_3 i_4 eB) s_2) then
        some true
      else
        self s_2 l_3 (addI .i64 i_4 1)
    else none
  else
    some false
def ref29_Keyword.l0 : Nat → ByteArray → (List ByteArray) → Int → Option (Bool)
  | 0 => fun _ _ _ => none
  | n + 1 => ref29_Keyword.S0 (ref29_Keyword.l0 n)

def ref29_Keyword.S (j0 : ByteArray → (List ByteArray) → Int → Option (Bool)) (s : ByteArray) : Option (Bool) :=
  j0 s ref29_Words 0
def ref29_Keyword (s : ByteArray) : Option (Bool) := ref29_Keyword.S (ref29_Keyword.l0 fu) s

/-! peristyle/peristylelaw29.LexTokens -/
def law29_LexTokens (s : ByteArray) : Option (Bool) :=
  bif (ltI 2048 (lenS s)) then
    (law29_awake).bind fun r_1 =>
    some r_1
  else
    ((lex_Tokens s)).bind fun r_2 =>
    ((ref29_Tokens s)).bind fun r_3 =>
    ((ref29_Same r_2.1 r_3.1)).bind fun r_4 =>
    bif r_4 then
      bif (eqI r_2.2.1 r_3.2.1) then
        bif (eqI r_2.2.2 r_3.2.2) then
          ((lex_Keyword s)).bind fun r_5 =>
          ((ref29_Keyword s)).bind fun r_6 =>
          bif (eqB r_5 r_6) then
            (law29_awake).bind fun r_7 =>
            some r_7
          else
            some false
        else
          some false
      else
        some false
    else
      some false
end Go.AM.Pure
