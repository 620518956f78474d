import Derived.Test.YtboihdnijlilpaaDoorAmPrimW
import Derived.Test.YtboihdnijlilpaaDoorAmPure29
/- PRINTED by gen/ of this repo: the functions of the seat as pure functions. -/
namespace Go.AM.Pure
open Go.AM

/-! peristyle/peristylelaw29.shown -/
def law29_shown (t : (Int × (ByteArray × (Int × Int)))) : Option (ByteArray) :=
  bif (eqI t.1 2) then
    ((ref06_Show (1, t.2.2.1, eB))).bind fun r_1 =>
    some r_1
  else
    bif (eqI t.1 3) then
      ((ref06_Show (2, 0, t.2.1))).bind fun r_2 =>
      some r_2
    else
      some t.2.1

/-! peristyle/peristylelaw29.LexBlanks -/
def law29_LexBlanks.S2 (self : (List (Int × (ByteArray × (Int × Int)))) → (List (Int × (ByteArray × (Int × Int)))) → Int → Option (Bool)) (l_14 : (List (Int × (ByteArray × (Int × Int))))) (m_15 : (List (Int × (ByteArray × (Int × Int))))) (i_16 : Int) : Option (Bool) :=
  bif (ltI i_16 (lenL l_14)) then
    bif (ltI i_16 (lenL m_15)) then
      bif (inB i_16 (lenL m_15)) then
        bif (inB i_16 (lenL l_14)) then
          bif (neI (nth m_15 i_16 (0, eB, 0, 0)).1 (nth l_14 i_16 (0, eB, 0, 0)).1) then
            some false
          else
            bif (inB i_16 (lenL m_15)) then
              bif (inB i_16 (lenL l_14)) then
                bif (!(eqS (nth m_15 i_16 (0, eB, 0, 0)).2.1 (nth l_14 i_16 (0, eB, 0, 0)).2.1)) then
                  some false
                else
                  bif (inB i_16 (lenL m_15)) then
                    bif (inB i_16 (lenL l_14)) then
                      bif (neI (nth m_15 i_16 (0, eB, 0, 0)).2.2.1 (nth l_14 i_16 (0, eB, 0, 0)).2.2.1) then
                        some false
                      else
                        self l_14 m_15 (addI .i64 i_16 1)
                    else none
                  else none
              else none
            else none
        else none
      else none
    else
      (law29_awake).bind fun r_17 =>
      some r_17
  else
    (law29_awake).bind fun r_18 =>
    some r_18
def law29_LexBlanks.l2 : Nat → (List (Int × (ByteArray × (Int × Int)))) → (List (Int × (ByteArray × (Int × Int)))) → Int → Option (Bool)
  | 0 => fun _ _ _ => none
  | n + 1 => law29_LexBlanks.S2 (law29_LexBlanks.l2 n)

def law29_LexBlanks.S1 (j2 : (List (Int × (ByteArray × (Int × Int)))) → (List (Int × (ByteArray × (Int × Int)))) → Int → Option (Bool)) (l_10 : (List (Int × (ByteArray × (Int × Int))))) (t_11 : ByteArray) : Option (Bool) :=
  bif (ltI 1024 (lenS t_11)) then
    (law29_awake).bind fun r_12 =>
    some r_12
  else
    ((lex_Tokens t_11)).bind fun r_13 =>
    bif (neI r_13.2.2 0) then
      some false
    else
      bif (neI (lenL r_13.1) (lenL l_10)) then
        some false
      else
        j2 l_10 r_13.1 0
def law29_LexBlanks.t1 : Nat → (List (Int × (ByteArray × (Int × Int)))) → ByteArray → Option (Bool)
  | 0 => fun _ _ => none
  | n + 1 => law29_LexBlanks.S1 (law29_LexBlanks.l2 n)

def law29_LexBlanks.S0 (o1_0 : (List (Int × (ByteArray × (Int × Int)))) → ByteArray → Option (Bool)) (self : Int → (List (Int × (ByteArray × (Int × Int)))) → ByteArray → (List ByteArray) → Int → Option (Bool)) (blanks_4 : Int) (l_5 : (List (Int × (ByteArray × (Int × Int))))) (t_6 : ByteArray) (kinds_7 : (List ByteArray)) (i_8 : Int) : Option (Bool) :=
  bif (ltI i_8 (lenL l_5)) then
    bif (inB i_8 (lenL l_5)) then
      ((law29_shown (nth l_5 i_8 (0, eB, 0, 0)))).bind fun r_9 =>
      bif (roomS t_6 r_9) then
        bif (leI 0 (mulI .i64 2 (andI .i64 i_8 15))) then
          bif (inB (andI .i64 (shrI .i64 blanks_4 (mulI .i64 2 (andI .i64 i_8 15))) 3) (lenL kinds_7)) then
            bif (roomS (addS t_6 r_9) (nth kinds_7 (andI .i64 (shrI .i64 blanks_4 (mulI .i64 2 (andI .i64 i_8 15))) 3) eB)) then
              self blanks_4 l_5 (addS (addS t_6 r_9) (nth kinds_7 (andI .i64 (shrI .i64 blanks_4 (mulI .i64 2 (andI .i64 i_8 15))) 3) eB)) kinds_7 (addI .i64 i_8 1)
            else none
          else none
        else none
      else none
    else none
  else
    o1_0 l_5 t_6
def law29_LexBlanks.l0 (o1_0 : (List (Int × (ByteArray × (Int × Int)))) → ByteArray → Option (Bool)) : Nat → Int → (List (Int × (ByteArray × (Int × Int)))) → ByteArray → (List ByteArray) → Int → Option (Bool)
  | 0 => fun _ _ _ _ _ => none
  | n + 1 => law29_LexBlanks.S0 o1_0 (law29_LexBlanks.l0 o1_0 n)

def law29_LexBlanks.S (j0 : Int → (List (Int × (ByteArray × (Int × Int)))) → ByteArray → (List ByteArray) → Int → Option (Bool)) (s : ByteArray) (blanks : Int) : Option (Bool) :=
  bif (ltI 200 (lenS s)) then
    (law29_awake).bind fun r_1 =>
    some r_1
  else
    ((lex_Tokens s)).bind fun r_2 =>
    bif (neI r_2.2.2 0) then
      (law29_awake).bind fun r_3 =>
      some r_3
    else
      j0 blanks r_2.1 eB [(bs [32]), (bs [10]), (bs [9]), (bs [13, 10])] 0
def law29_LexBlanks (s : ByteArray) (blanks : Int) : Option (Bool) := law29_LexBlanks.S (law29_LexBlanks.l0 (law29_LexBlanks.t1 fu) fu) s blanks

/-! peristyle/peristylelaw29.LexPlaces -/
def law29_LexPlaces.S0 (self : ByteArray → (List (Int × (ByteArray × (Int × Int)))) → Int → Option (Bool)) (s_4 : ByteArray) (l_5 : (List (Int × (ByteArray × (Int × Int))))) (i_6 : Int) : Option (Bool) :=
  bif (ltI (addI .i64 i_6 1) (lenL l_5)) then
    bif (inB i_6 (lenL l_5)) then
      bif (inB (addI .i64 i_6 1) (lenL l_5)) then
        bif (ltI (nth l_5 i_6 (0, eB, 0, 0)).2.2.2 0) then
          some false
        else
          bif (leI (nth l_5 (addI .i64 i_6 1) (0, eB, 0, 0)).2.2.2 (nth l_5 i_6 (0, eB, 0, 0)).2.2.2) then
            some false
          else
            bif (ltI (lenS s_4) (nth l_5 (addI .i64 i_6 1) (0, eB, 0, 0)).2.2.2) then
              some false
            else
              bif (inB i_6 (lenL l_5)) then
                bif (eqI (nth l_5 i_6 (0, eB, 0, 0)).1 0) then
                  some false
                else
                  bif (inB i_6 (lenL l_5)) then
                    bif (eqI (nth l_5 i_6 (0, eB, 0, 0)).1 1) then
                      bif (inB i_6 (lenL l_5)) then
                        bif (ltI (subI .i64 (nth l_5 (addI .i64 i_6 1) (0, eB, 0, 0)).2.2.2 (nth l_5 i_6 (0, eB, 0, 0)).2.2.2) (lenS (nth l_5 i_6 (0, eB, 0, 0)).2.1)) then
                          some false
                        else
                          bif (inB i_6 (lenL l_5)) then
                            bif (inC (nth l_5 i_6 (0, eB, 0, 0)).2.2.2 (addI .i64 (nth l_5 i_6 (0, eB, 0, 0)).2.2.2 (lenS (nth l_5 i_6 (0, eB, 0, 0)).2.1)) (lenS s_4)) then
                              bif (inB i_6 (lenL l_5)) then
                                bif (!(eqS (cutS s_4 (nth l_5 i_6 (0, eB, 0, 0)).2.2.2 (addI .i64 (nth l_5 i_6 (0, eB, 0, 0)).2.2.2 (lenS (nth l_5 i_6 (0, eB, 0, 0)).2.1))) (nth l_5 i_6 (0, eB, 0, 0)).2.1)) then
                                  some false
                                else
                                  self s_4 l_5 (addI .i64 i_6 1)
                              else none
                            else none
                          else none
                      else none
                    else
                      bif (inB i_6 (lenL l_5)) then
                        bif (eqI (nth l_5 i_6 (0, eB, 0, 0)).1 4) then
                          bif (inB i_6 (lenL l_5)) then
                            bif (ltI (subI .i64 (nth l_5 (addI .i64 i_6 1) (0, eB, 0, 0)).2.2.2 (nth l_5 i_6 (0, eB, 0, 0)).2.2.2) (lenS (nth l_5 i_6 (0, eB, 0, 0)).2.1)) then
                              some false
                            else
                              bif (inB i_6 (lenL l_5)) then
                                bif (inC (nth l_5 i_6 (0, eB, 0, 0)).2.2.2 (addI .i64 (nth l_5 i_6 (0, eB, 0, 0)).2.2.2 (lenS (nth l_5 i_6 (0, eB, 0, 0)).2.1)) (lenS s_4)) then
                                  bif (inB i_6 (lenL l_5)) then
                                    bif (!(eqS (cutS s_4 (nth l_5 i_6 (0, eB, 0, 0)).2.2.2 (addI .i64 (nth l_5 i_6 (0, eB, 0, 0)).2.2.2 (lenS (nth l_5 i_6 (0, eB, 0, 0)).2.1))) (nth l_5 i_6 (0, eB, 0, 0)).2.1)) then
                                      some false
                                    else
                                      self s_4 l_5 (addI .i64 i_6 1)
                                  else none
                                else none
                              else none
                          else none
                        else
                          self s_4 l_5 (addI .i64 i_6 1)
                      else none
                  else none
              else none
      else none
    else none
  else
    (law29_awake).bind fun r_7 =>
    some r_7
def law29_LexPlaces.l0 : Nat → ByteArray → (List (Int × (ByteArray × (Int × Int)))) → Int → Option (Bool)
  | 0 => fun _ _ _ => none
  | n + 1 => law29_LexPlaces.S0 (law29_LexPlaces.l0 n)

def law29_LexPlaces.S (j0 : ByteArray → (List (Int × (ByteArray × (Int × Int)))) → Int → Option (Bool)) (s : ByteArray) : Option (Bool) :=
  bif (ltI 200 (lenS s)) then
    (law29_awake).bind fun r_1 =>
    some r_1
  else
    ((lex_Tokens s)).bind fun r_2 =>
    bif (neI r_2.2.2 0) then
      (law29_awake).bind fun r_3 =>
      some r_3
    else
      bif (eqI (lenL r_2.1) 0) then
        some false
      else
        bif (inB (subI .i64 (lenL r_2.1) 1) (lenL r_2.1)) then
          bif (!((eqI (nth r_2.1 (subI .i64 (lenL r_2.1) 1) (0, eB, 0, 0)).1 0) && ((eqS (nth r_2.1 (subI .i64 (lenL r_2.1) 1) (0, eB, 0, 0)).2.1 eB) && ((eqI (nth r_2.1 (subI .i64 (lenL r_2.1) 1) (0, eB, 0, 0)).2.2.1 0) && (eqI (nth r_2.1 (subI .i64 (lenL r_2.1) 1) (0, eB, 0, 0)).2.2.2 (lenS s)))))) then
            some false
          else
            j0 s r_2.1 0
        else none
def law29_LexPlaces (s : ByteArray) : Option (Bool) := law29_LexPlaces.S (law29_LexPlaces.l0 fu) s
end Go.AM.Pure
