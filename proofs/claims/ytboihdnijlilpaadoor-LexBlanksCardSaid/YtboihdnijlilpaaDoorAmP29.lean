import Derived.Test.YtboihdnijlilpaaDoorAmPure29
import Derived.Test.YtboihdnijlilpaaDoorAmPShow
section
/- The lexer's kinds of bytes, and what goes on as long as something is true of bytes. -/
namespace Go.AM.Pure
open Go.AM

theorem awake29 : law29_awake = some true := by kernel_rfl

def isLow (c : Int) : Bool := ref29_letter c
def isDig (c : Int) : Bool := ref29_digit c
def isBlank (c : Int) : Bool := eqI c 32 || (eqI c 9 || (eqI c 10 || eqI c 13))
def isName (c : Int) : Bool := ref29_digit c || (ref29_letter c || eqI c 95)
def kindN (c : Int) : Int :=
  if ref29_letter c then 2 else if ref29_digit c then 3 else if isBlank c then 1 else if c = 45 then 4 else if c = 39 then 5 else
  if c = 40 ∨ c = 41 ∨ c = 44 ∨ c = 46 ∨ c = 42 ∨ c = 61 ∨ c = 60 ∨ c = 62 then 6 else 0

theorem kind_fin : ∀ c : Fin 256, lex_kind (c.val : Int) = some (kindN c.val) := by decide +kernel
theorem blank_fin : ∀ c : Fin 256, lex_Tokens_1 (c.val : Int) = some (isBlank c.val) := by decide +kernel
theorem name_fin : ∀ c : Fin 256, lex_lexer_next_1 (c.val : Int) = some (isName c.val) := by decide +kernel
theorem dig_fin : ∀ c : Fin 256, lex_lexer_number_1 (c.val : Int) = some (isDig c.val) := by decide +kernel

theorem byte_fin (s : ByteArray) (i : Int) : ∃ c : Fin 256, byteAt s i = (c.val : Int) := by
  have h := byteAt_rng s i
  exact ⟨⟨(byteAt s i).toNat, by omega⟩, by show _ = ((byteAt s i).toNat : Int); omega⟩

end Go.AM.Pure
end

section
/- The lexer reads on as long as something is true of bytes; the reference's span. -/
namespace Go.AM.Pure
open Go.AM

/-- How many bytes, from i on, are so. -/
def runN (p : Int → Bool) (s : ByteArray) (i : Nat) : Nat := (((toBytes s).drop i).takeWhile p).length

theorem runN_end {p : Int → Bool} {s : ByteArray} {i : Nat} (h : s.size ≤ i) : runN p s i = 0 := by
  unfold runN
  rw [List.drop_of_length_le (by rw [toBytes_len]; exact h)]
  rfl
theorem drop_byte {s : ByteArray} {i : Nat} (h : i < s.size) : (toBytes s).drop i = byteAt s (i : Int) :: (toBytes s).drop (i + 1) := by
  have hb := byteAt_get s i h
  have hl : i < (toBytes s).length := by rw [toBytes_len]; exact h
  rw [List.drop_eq_getElem_cons hl]
  rw [List.getElem?_eq_getElem hl] at hb
  injection hb with hb
  rw [hb]
theorem runN_step {p : Int → Bool} {s : ByteArray} {i : Nat} (h : i < s.size) : runN p s i = if p (byteAt s (i : Int)) then runN p s (i + 1) + 1 else 0 := by
  unfold runN
  rw [drop_byte h, List.takeWhile_cons]
  cases p (byteAt s (i : Int)) <;> rfl
theorem runN_le (p : Int → Bool) (s : ByteArray) (i : Nat) : runN p s i ≤ s.size - i := by
  have h := (List.takeWhile_sublist p (l := (toBytes s).drop i)).length_le
  rw [List.length_drop, toBytes_len] at h
  exact h
theorem runN_stop {p : Int → Bool} {s : ByteArray} : ∀ (d i : Nat), d = s.size - i → i + runN p s i < s.size → p (byteAt s ((i + runN p s i : Nat) : Int)) = false := by
  intro d
  induction d with
  | zero => intro i hd h; rw [runN_end (by omega)] at h; omega
  | succ d ih =>
    intro i hd h
    rw [runN_step (by omega)] at h ⊢
    cases hp : p (byteAt s (i : Int)) with
    | false => exact hp
    | true =>
      rw [hp] at h
      simp only [if_true] at h ⊢
      have := ih (i + 1) (by omega) (by omega)
      rw [show i + (runN p s (i + 1) + 1) = i + 1 + runN p s (i + 1) by omega]
      exact this

/-! ### while -/

def wS1 (k : Int) (t : ByteArray × Int) : Option (ByteArray × (ByteArray × Int)) :=
  bif (inC t.2 k (lenS t.1)) then some ((cutS t.1 t.2 k), t.1, k) else none
def wS0 (q : Int → Option Bool) (o1 self : Int → ByteArray × Int → Option (ByteArray × (ByteArray × Int))) (k : Int) (t : ByteArray × Int) : Option (ByteArray × (ByteArray × Int)) :=
  bif (ltI k (lenS t.1)) then
    bif (inB k (lenS t.1)) then
      (q (byteAt t.1 k)).bind fun r_3 =>
      bif r_3 then self (addI .i64 k 1) t else o1 k t
    else none
  else
    o1 k t
def wl (q : Int → Option Bool) : Nat → Int → ByteArray × Int → Option (ByteArray × (ByteArray × Int))
  | 0 => fun _ _ => none
  | n + 1 => wS0 q wS1 (wl q n)

theorem while_loop {q : Int → Option Bool} {p : Int → Bool} (hq : ∀ c : Fin 256, q (c.val : Int) = some (p c.val)) (s : ByteArray) (hs : s.size < 1000000) (at0 : Nat) : ∀ (d k n : Nat), d = s.size - k → at0 ≤ k → k ≤ s.size → d < n →
    wl q n (k : Int) (s, (at0 : Int)) = some (cutS s (at0 : Int) ((k + runN p s k : Nat) : Int), s, ((k + runN p s k : Nat) : Int)) := by
  have fin : ∀ k : Nat, at0 ≤ k → k ≤ s.size → wS1 (k : Int) (s, (at0 : Int)) = some (cutS s (at0 : Int) (k : Int), s, (k : Int)) := by
    intro k h1 h2
    unfold wS1
    rw [inC_of (show 0 ≤ ((s, (at0 : Int)) : ByteArray × Int).2 ∧ _ ≤ (k : Int) ∧ (k : Int) ≤ lenS s by rw [lenS_d]; exact ⟨by show 0 ≤ (at0 : Int); omega, by show (at0 : Int) ≤ _; omega, by omega⟩)]
    rfl
  intro d
  induction d with
  | zero =>
    intro k n hd ha hk hn
    obtain ⟨n, rfl⟩ : ∃ m, n = m + 1 := ⟨n - 1, by omega⟩
    show wS0 q wS1 (wl q n) _ _ = _
    unfold wS0
    rw [lt_f (show lenS s ≤ (k : Int) by rw [lenS_d]; omega), runN_end (by omega)]
    exact fin k ha hk
  | succ d ih =>
    intro k n hd ha hk hn
    obtain ⟨n, rfl⟩ : ∃ m, n = m + 1 := ⟨n - 1, by omega⟩
    show wS0 q wS1 (wl q n) _ _ = _
    unfold wS0
    have hb : q (byteAt s (k : Int)) = some (p (byteAt s (k : Int))) := by
      obtain ⟨c, e⟩ := byte_fin s (k : Int)
      rw [e]; exact hq c
    show (bif ltI (k : Int) (lenS s) then (bif inB (k : Int) (lenS s) then (q (byteAt s (k : Int))).bind fun r_3 => bif r_3 then wl q n (addI .i64 (k : Int) 1) (s, (at0 : Int)) else wS1 (k : Int) (s, (at0 : Int)) else none) else wS1 (k : Int) (s, (at0 : Int))) = _
    rw [lt_t (show (k : Int) < lenS s by rw [lenS_d]; omega), inB_of (show 0 ≤ (k : Int) ∧ (k : Int) < lenS s by rw [lenS_d]; omega), hb, runN_step (by omega)]
    simp only [cond_true, Option.bind_some]
    cases p (byteAt s (k : Int)) with
    | false => exact fin k ha hk
    | true =>
      simp only [cond_true, if_true]
      have := ih (k + 1) n (by omega) (by omega) (by omega) (by omega)
      rw [add_of (by omega), show (k : Int) + 1 = ((k + 1 : Nat) : Int) by omega, this, show k + 1 + runN p s (k + 1) = k + (runN p s (k + 1) + 1) by omega]

theorem wl_blank (n : Nat) : lex_lexer_while__lex_Tokens_1_w.l0 lex_lexer_while__lex_Tokens_1_w.S1 n = wl lex_Tokens_1 n := by
  induction n with
  | zero => rfl
  | succ n ih => show lex_lexer_while__lex_Tokens_1_w.S0 _ (lex_lexer_while__lex_Tokens_1_w.l0 _ n) = _; rw [ih]; rfl
theorem wl_name (n : Nat) : lex_lexer_while__lex_lexer_next_1_w.l0 lex_lexer_while__lex_lexer_next_1_w.S1 n = wl lex_lexer_next_1 n := by
  induction n with
  | zero => rfl
  | succ n ih => show lex_lexer_while__lex_lexer_next_1_w.S0 _ (lex_lexer_while__lex_lexer_next_1_w.l0 _ n) = _; rw [ih]; rfl
theorem wl_dig (n : Nat) : lex_lexer_while__lex_lexer_number_1_w.l0 lex_lexer_while__lex_lexer_number_1_w.S1 n = wl lex_lexer_number_1 n := by
  induction n with
  | zero => rfl
  | succ n ih => show lex_lexer_while__lex_lexer_number_1_w.S0 _ (lex_lexer_while__lex_lexer_number_1_w.l0 _ n) = _; rw [ih]; rfl

theorem while_blank (s : ByteArray) (hs : s.size < 1000000) (i : Nat) (hi : i ≤ s.size) : lex_lexer_while__lex_Tokens_1_w (s, (i : Int)) = some (cutS s (i : Int) ((i + runN isBlank s i : Nat) : Int), s, ((i + runN isBlank s i : Nat) : Int)) := by
  show lex_lexer_while__lex_Tokens_1_w.S (lex_lexer_while__lex_Tokens_1_w.l0 (lex_lexer_while__lex_Tokens_1_w.t1 fu) fu) (s, (i : Int)) = _
  rw [show lex_lexer_while__lex_Tokens_1_w.t1 fu = lex_lexer_while__lex_Tokens_1_w.S1 from rfl]
  unfold lex_lexer_while__lex_Tokens_1_w.S
  rw [wl_blank]
  exact while_loop blank_fin s hs i _ i fu rfl (Nat.le_refl _) hi (by unfold fu; omega)
theorem while_name (s : ByteArray) (hs : s.size < 1000000) (i : Nat) (hi : i ≤ s.size) : lex_lexer_while__lex_lexer_next_1_w (s, (i : Int)) = some (cutS s (i : Int) ((i + runN isName s i : Nat) : Int), s, ((i + runN isName s i : Nat) : Int)) := by
  show lex_lexer_while__lex_lexer_next_1_w.S (lex_lexer_while__lex_lexer_next_1_w.l0 (lex_lexer_while__lex_lexer_next_1_w.t1 fu) fu) (s, (i : Int)) = _
  rw [show lex_lexer_while__lex_lexer_next_1_w.t1 fu = lex_lexer_while__lex_lexer_next_1_w.S1 from rfl]
  unfold lex_lexer_while__lex_lexer_next_1_w.S
  rw [wl_name]
  exact while_loop name_fin s hs i _ i fu rfl (Nat.le_refl _) hi (by unfold fu; omega)
theorem while_dig (s : ByteArray) (hs : s.size < 1000000) (i : Nat) (hi : i ≤ s.size) : lex_lexer_while__lex_lexer_number_1_w (s, (i : Int)) = some (cutS s (i : Int) ((i + runN isDig s i : Nat) : Int), s, ((i + runN isDig s i : Nat) : Int)) := by
  show lex_lexer_while__lex_lexer_number_1_w.S (lex_lexer_while__lex_lexer_number_1_w.l0 (lex_lexer_while__lex_lexer_number_1_w.t1 fu) fu) (s, (i : Int)) = _
  rw [show lex_lexer_while__lex_lexer_number_1_w.t1 fu = lex_lexer_while__lex_lexer_number_1_w.S1 from rfl]
  unfold lex_lexer_while__lex_lexer_number_1_w.S
  rw [wl_dig]
  exact while_loop dig_fin s hs i _ i fu rfl (Nat.le_refl _) hi (by unfold fu; omega)

/-! ### span -/

theorem span_loop (words : Bool) (s : ByteArray) (hs : s.size < 1000000) (i : Nat) : ∀ (d k n : Nat), d = s.size - (i + k) → i + k ≤ s.size → d < n →
    ref29_span.l0 n s (i : Int) words (k : Int) = some ((k + runN (if words then isName else isDig) s (i + k) : Nat) : Int) := by
  intro d
  induction d with
  | zero =>
    intro k n hd hk hn
    obtain ⟨n, rfl⟩ : ∃ m, n = m + 1 := ⟨n - 1, by omega⟩
    show ref29_span.S0 (ref29_span.l0 n) _ _ _ _ = _
    unfold ref29_span.S0
    rw [add_of (by omega), lt_f (show lenS s ≤ (i : Int) + k by rw [lenS_d]; omega), runN_end (by omega)]
    rfl
  | succ d ih =>
    intro k n hd hk hn
    obtain ⟨n, rfl⟩ : ∃ m, n = m + 1 := ⟨n - 1, by omega⟩
    show ref29_span.S0 (ref29_span.l0 n) _ _ _ _ = _
    unfold ref29_span.S0
    have ih' := ih (k + 1) n (by omega) (by omega) (by omega)
    rw [add_of (show _ ∧ (i : Int) + k < _ by omega), add_of (show _ ∧ (k : Int) + 1 < _ by omega), lt_t (show (i : Int) + k < lenS s by rw [lenS_d]; omega), inB_of (show 0 ≤ (i : Int) + k ∧ (i : Int) + k < lenS s by rw [lenS_d]; omega),
      show (i : Int) + k = ((i + k : Nat) : Int) by omega, runN_step (show i + k < s.size by omega), show (k : Int) + 1 = ((k + 1 : Nat) : Int) by omega, ih']
    rw [show i + (k + 1) = i + k + 1 by omega, show k + 1 + runN (if words then isName else isDig) s (i + k + 1) = k + (runN (if words then isName else isDig) s (i + k + 1) + 1) by omega]
    generalize byteAt s ((i + k : Nat) : Int) = c
    cases words with
    | false =>
      show (bif ref29_digit c then _ else _) = _
      simp only [Bool.false_eq_true, if_false]
      unfold isDig
      cases ref29_digit c <;> rfl
    | true =>
      simp only [if_true]
      unfold isName
      cases ref29_digit c <;> cases ref29_letter c <;> cases eqI c 95 <;> rfl

theorem span_eq (words : Bool) (s : ByteArray) (hs : s.size < 1000000) (i : Nat) (hi : i ≤ s.size) : ref29_span s (i : Int) words = some ((runN (if words then isName else isDig) s i : Nat) : Int) := by
  have := span_loop words s hs i (s.size - i) 0 fu (by omega) (by omega) (by unfold fu; omega)
  rw [Nat.zero_add] at this
  exact this

end Go.AM.Pure
end

section
/- The lexer's token and the reference's: numbers and texts. -/
namespace Go.AM.Pure
open Go.AM

abbrev Tok := Int × (ByteArray × (Int × Int))

def signs : List ByteArray := [(bs [60, 61]), (bs [62, 61]), (bs [60, 62]), (bs [40]), (bs [41]), (bs [44]), (bs [46]), (bs [42]), (bs [61]), (bs [60]), (bs [62])]
/-- A word's bytes. -/
def Word (w : ByteArray) : Prop := ∃ c r, w.data.toList = c :: r ∧ ref29_letter (c.toNat : Int) = true ∧ ∀ b ∈ r, isName ((b : UInt8).toNat : Int) = true
/-- What a token is, the end left out. -/
def TokIs (t : Tok) : Prop :=
  (t.1 = 1 ∧ t.2.2.1 = 0 ∧ Word t.2.1) ∨ (t.1 = 2 ∧ t.2.1 = eB ∧ in64 t.2.2.1) ∨ (t.1 = 3 ∧ t.2.2.1 = 0 ∧ t.2.1.size ≤ 32) ∨ (t.1 = 4 ∧ t.2.2.1 = 0 ∧ t.2.1 ∈ signs)

/-- The token that the lexer reads at a place, and the reference's. -/
def OneTok (s : ByteArray) (i : Nat) (a : Option (Tok × Bool × (ByteArray × Int))) (b : Option (Tok × Int)) : Prop :=
  ∃ (t : Tok) (ok : Bool) (l : ByteArray × Int) (r : Tok × Int), a = some (t, ok, l) ∧ b = some r ∧ t.2.2.2 = (i : Int) ∧
    ((ok = false ∧ r.2 = 0) ∨ (ok = true ∧ r.1 = t ∧ ∃ n : Nat, r.2 = (n : Int) ∧ 1 ≤ n ∧ i + n ≤ s.size ∧ l = (s, ((i + n : Nat) : Int)) ∧
      TokIs t ∧ (t.1 = 1 ∨ t.1 = 4 → t.2.1 = cutS s (i : Int) ((i + n : Nat) : Int))))

theorem cutS_list (s : ByteArray) (a b : Nat) : cutS s (a : Int) (b : Int) = mkB ((s.data.toList.drop a).take (b - a)) := by
  have := cutS_mk s.data.toList a b
  rw [mkB_of] at this
  exact this

/-! ### Numbers -/

def zeros (l : List UInt8) : Nat := (l.takeWhile (· == 48)).length

theorem byte48 (s : ByteArray) (i : Nat) : eqI (byteAt s (i : Int)) 48 = (s.data.toList.getD i 0 == 48) := by
  have : byteAt s (i : Int) = ((s.data.toList.getD i 0).toNat : Int) := rfl
  rw [this]
  generalize s.data.toList.getD i 0 = c
  by_cases h : c = 48
  · subst h; rfl
  · rw [eq_f, beq_eq_false_iff_ne.2 h]
    intro e
    apply h
    apply UInt8.toNat_inj.1
    have : (48 : UInt8).toNat = 48 := by decide
    omega

theorem zero_loop (o2 : ByteArray → Int → Int → Int → Int → Tok → Option (Tok × Int)) (s : ByteArray) (hs : s.size < 1000000) (at0 fr m : Nat) (hm : 1 ≤ m) (hf : fr + m ≤ s.size) (z : Tok) : ∀ (d k n : Nat), d = m - 1 - k → k ≤ m - 1 → d < n →
    ref29_number.l1 o2 n s (at0 : Int) (fr : Int) (m : Int) ((fr + k : Nat) : Int) z = o2 s (at0 : Int) (fr : Int) (m : Int) ((fr + k + zeros ((s.data.toList.drop (fr + k)).take (m - 1 - k)) : Nat) : Int) z := by
  intro d
  induction d with
  | zero =>
    intro k n hd hk hn
    obtain ⟨n, rfl⟩ : ∃ q, n = q + 1 := ⟨n - 1, by omega⟩
    show ref29_number.S1 o2 (ref29_number.l1 o2 n) _ _ _ _ _ _ = _
    unfold ref29_number.S1
    rw [add_of (by omega), sub_of (by omega), lt_f (by omega), show m - 1 - k = 0 by omega, List.take_zero]
    rfl
  | succ d ih =>
    intro k n hd hk hn
    obtain ⟨n, rfl⟩ : ∃ q, n = q + 1 := ⟨n - 1, by omega⟩
    show ref29_number.S1 o2 (ref29_number.l1 o2 n) _ _ _ _ _ _ = _
    unfold ref29_number.S1
    have hl : fr + k < s.data.toList.length := by rw [← size_list]; omega
    rw [add_of (show _ ∧ (fr : Int) + m < _ by omega), sub_of (show _ ∧ (fr : Int) + m - 1 < _ by omega), lt_t (show ((fr + k : Nat) : Int) < _ by omega), inB_of (show 0 ≤ ((fr + k : Nat) : Int) ∧ ((fr + k : Nat) : Int) < lenS s by rw [lenS_d]; omega), byte48,
      add_of (show _ ∧ ((fr + k : Nat) : Int) + 1 < _ by omega), getD_drop hl, show m - 1 - k = (m - 1 - (k + 1)) + 1 by omega, List.take_succ_cons]
    simp only [cond_true]
    unfold zeros
    rw [List.takeWhile_cons]
    cases s.data.toList.getD (fr + k) 0 == 48 with
    | false => rfl
    | true =>
      simp only [cond_true, if_true, List.length_cons]
      have := ih (k + 1) n (by omega) (by omega) (by omega)
      rw [show fr + (k + 1) = fr + k + 1 by omega] at this
      rw [show ((fr + k : Nat) : Int) + 1 = ((fr + k + 1 : Nat) : Int) by omega, this]
      unfold zeros
      rw [show fr + k + 1 + (List.takeWhile (fun x => x == 48) (List.take (m - 1 - (k + 1)) (List.drop (fr + k + 1) s.data.toList))).length = fr + k + ((List.takeWhile (fun x => x == 48) (List.take (m - 1 - (k + 1)) (List.drop (fr + k + 1) s.data.toList))).length + 1) by omega]

theorem drop_zeros (A B : List UInt8) : (A ++ B).drop (zeros A) = A.dropWhile (· == 48) ++ B := by
  unfold zeros
  induction A with
  | nil => rfl
  | cons a A ih =>
    rw [List.takeWhile_cons, List.dropWhile_cons]
    cases a == 48 with
    | false => rfl
    | true => exact ih

theorem trimS_eq (l : List UInt8) : trimS (mkB l) (bs [48]) = some (mkB (l.dropWhile (· == 48))) := rfl

theorem n29a : lex_lexer_number_w.t0 fu = lex_lexer_number_w.S0 lex_lexer_number_w.S1 := rfl
theorem n29b : ref29_number.t0 fu = ref29_number.S0 (ref29_number.l1 (ref29_number.S2 ref29_number.S3) (fu - 1)) := rfl

theorem number_rel (s : ByteArray) (hs : s.size < 800000) (i : Nat) (hi : i < s.size) :
    OneTok s i ((lex_lexer_number_w (s, (i : Int))).bind fun r => some ((2, eB, r.1, (i : Int)), r.2)) (ref29_number s (i : Int)) := by
  show OneTok s i ((lex_lexer_number_w.S (lex_lexer_number_w.t0 fu) (s, (i : Int))).bind _) (ref29_number.S (ref29_number.t0 fu) s (i : Int))
  rw [n29a, n29b]
  -- behind the sign
  have main : ∀ (down : Bool) (fr : Nat), down = eqI (byteAt s (i : Int)) 45 → fr ≤ s.size → i ≤ fr →
      OneTok s i ((lex_lexer_number_w.S0 lex_lexer_number_w.S1 down (s, (fr : Int))).bind fun r => some ((2, eB, r.1, (i : Int)), r.2)) (ref29_number.S0 (ref29_number.l1 (ref29_number.S2 ref29_number.S3) (fu - 1)) s (i : Int) (fr : Int) (0, eB, 0, 0)) := by
    intro down fr hdown hfr hif
    unfold lex_lexer_number_w.S0 ref29_number.S0
    rw [while_dig s (by omega) fr hfr, span_eq false s (by omega) fr hfr]
    simp only [Option.bind_some, Bool.false_eq_true, if_false]
    have hle := runN_le isDig s fr
    generalize runN isDig s fr = m at hle
    have hcut := cutS_list s fr (fr + m)
    rw [show fr + m - fr = m by omega] at hcut
    by_cases hm : m = 0
    · subst hm
      rw [hcut, List.take_zero, eqS_t (show mkB _ = eB from rfl), eq_t (show ((0 : Nat) : Int) = 0 from rfl)]
      exact ⟨_, _, _, _, rfl, rfl, rfl, Or.inl ⟨rfl, rfl⟩⟩
    rw [eq_f (show ¬ (m : Int) = 0 by omega)]
    simp only [cond_false]
    have hz := zero_loop (ref29_number.S2 ref29_number.S3) s (by omega) i fr m (by omega) (by omega) (0, eB, 0, 0) (m - 1) 0 (fu - 1) (by omega) (by omega) (by unfold fu; omega)
    rw [Nat.add_zero, Nat.sub_zero] at hz
    rw [hz]
    -- the digits
    have hD : ((s.data.toList.drop fr).take m).length = m := by rw [List.length_take, List.length_drop, ← size_list]; omega
    have hTake : (s.data.toList.drop fr).take (m - 1) = ((s.data.toList.drop fr).take m).take (m - 1) := by rw [List.take_take]; congr 1; omega
    have hzz : zeros ((s.data.toList.drop fr).take (m - 1)) ≤ m - 1 := by
      have h := (List.takeWhile_sublist (· == (48 : UInt8)) (l := (s.data.toList.drop fr).take (m - 1))).length_le
      rw [List.length_take] at h
      unfold zeros
      omega
    have hT : cutS s ((fr + zeros ((s.data.toList.drop fr).take (m - 1)) : Nat) : Int) ((fr + m : Nat) : Int) = mkB (((s.data.toList.drop fr).take m).drop (zeros ((s.data.toList.drop fr).take (m - 1)))) := by
      rw [cutS_list, List.drop_take, List.drop_drop, Nat.add_sub_add_left]
    rw [hTake] at hT hzz hz ⊢
    rw [hcut]
    generalize hDe : (s.data.toList.drop fr).take m = D at hD hT hzz hcut ⊢
    have hDT : D.drop (zeros (D.take (m - 1))) = (D.take (m - 1)).dropWhile (· == 48) ++ D.drop (m - 1) := by
      conv => lhs; rw [← List.take_append_drop (m - 1) D]
      rw [List.take_append_of_le_length (by rw [List.length_take]; omega), List.take_take, Nat.min_self, drop_zeros]
    rw [hDT] at hT
    have hne : eqS (mkB D) eB = false := eqS_f fun e => by
      have := congrArg ByteArray.size e
      rw [mkB_size, hD] at this
      exact hm this
    have c0 : cutS (mkB D) 0 ((m : Int) - 1) = mkB (D.take (m - 1)) := by
      have := cutS_mk D 0 (m - 1)
      rw [show ((m - 1 : Nat) : Int) = (m : Int) - 1 by omega] at this
      exact this
    have c1 : cutS (mkB D) ((m : Int) - 1) (m : Int) = mkB (D.drop (m - 1)) := by
      have := cutS_mk D (m - 1) m
      rw [show ((m - 1 : Nat) : Int) = (m : Int) - 1 by omega, List.take_of_length_le (by rw [List.length_drop]; omega)] at this
      exact this
    have hl : lenS (mkB D) = (m : Int) := by rw [lenS_mk, hD]
    rw [hne, hl, sub_of (show _ ∧ (m : Int) - 1 < _ by omega), inC_of (show 0 ≤ (0 : Int) ∧ 0 ≤ (m : Int) - 1 ∧ (m : Int) - 1 ≤ (m : Int) by omega), c0, trimS_eq, c1,
      inC_of (show 0 ≤ (m : Int) - 1 ∧ (m : Int) - 1 ≤ (m : Int) ∧ (m : Int) ≤ (m : Int) by omega)]
    simp only [cond_true, cond_false, Option.bind_some]
    have hsz : ((D.take (m - 1)).dropWhile (· == 48)).length ≤ m := by
      have := (List.dropWhile_sublist (· == (48 : UInt8)) (l := D.take (m - 1))).length_le
      rw [List.length_take] at this
      omega
    rw [show roomS (mkB ((D.take (m - 1)).dropWhile (· == 48))) (mkB (D.drop (m - 1))) = true from decide_eq_true (by rw [mkB_size, mkB_size, List.length_drop]; omega), addS_mk]
    simp only [cond_true]
    have hTl : ((D.take (m - 1)).dropWhile (· == 48) ++ D.drop (m - 1)).length ≤ m + 1 := by rw [List.length_append, List.length_drop]; omega
    generalize (D.take (m - 1)).dropWhile (· == 48) ++ D.drop (m - 1) = T at hT hTl ⊢
    unfold ref29_number.S2
    rw [add_of (show _ ∧ (fr : Int) + m < _ by omega), show (fr : Int) + m = ((fr + m : Nat) : Int) by omega, inC_of (show 0 ≤ ((fr + zeros (D.take (m - 1)) : Nat) : Int) ∧ ((fr + zeros (D.take (m - 1)) : Nat) : Int) ≤ ((fr + m : Nat) : Int) ∧ ((fr + m : Nat) : Int) ≤ lenS s by rw [lenS_d]; omega),
      inB_of (show 0 ≤ (i : Int) ∧ (i : Int) < lenS s by rw [lenS_d]; omega), hT, ← hdown]
    simp only [cond_true]
    have fin : ∀ x : ByteArray, x.size < 900000 → OneTok s i ((lex_lexer_number_w.S1 x (s, ((fr + m : Nat) : Int))).bind fun r => some ((2, eB, r.1, (i : Int)), r.2)) (ref29_number.S3 (i : Int) (fr : Int) (m : Int) x (0, eB, 0, 0)) := by
      intro x hx
      obtain ⟨he, r, hr, ht⟩ := read_eq x hx
      unfold lex_lexer_number_w.S1 ref29_number.S3
      rw [← he, hr]
      simp only [Option.bind_some]
      by_cases h0 : r.2 = 0
      · rw [eq_t h0, ne_f h0]
        have hin : in64 r.1.2.1 := by
          rcases ht with rfl | ⟨c, _, hc, _, rfl⟩
          · exact absurd h0 (by decide)
          · exact hc
        refine ⟨_, _, _, _, rfl, rfl, rfl, Or.inr ⟨rfl, rfl, fr + m - i, ?_, by omega, by omega, ?_, Or.inr (Or.inl ⟨rfl, rfl, hin⟩), fun h => by rcases h with h | h <;> simp at h⟩⟩
        · show subI .i64 (addI .i64 (fr : Int) m) (i : Int) = _
          rw [add_of (by omega), sub_of (by omega)]; omega
        · rw [show i + (fr + m - i) = fr + m by omega]
      · rw [eq_f h0, ne_t h0]
        exact ⟨_, _, _, _, rfl, rfl, rfl, Or.inl ⟨rfl, rfl⟩⟩
    cases down with
    | false => exact fin (mkB T) (by rw [mkB_size]; omega)
    | true =>
      simp only [cond_true]
      cases eqS (mkB T) (bs [48]) with
      | true => exact fin (mkB T) (by rw [mkB_size]; omega)
      | false =>
        simp only [Bool.not_false, cond_true]
        rw [show roomS (bs [45]) (mkB T) = true from decide_eq_true (by show 1 + T.length ≤ _; omega)]
        exact fin (addS (bs [45]) (mkB T)) (by show (addS (mkB [45]) (mkB T)).size < _; rw [addS_mk, mkB_size, List.length_append]; show 1 + T.length < _; omega)
  unfold lex_lexer_number_w.S ref29_number.S
  show OneTok s i ((bif inB (i : Int) (lenS s) then (bif eqI (byteAt s (i : Int)) 45 then lex_lexer_number_w.S0 lex_lexer_number_w.S1 (eqI (byteAt s (i : Int)) 45) (s, addI .i64 (i : Int) 1) else lex_lexer_number_w.S0 lex_lexer_number_w.S1 (eqI (byteAt s (i : Int)) 45) (s, (i : Int))) else none).bind _) _
  rw [inB_of (show 0 ≤ (i : Int) ∧ (i : Int) < lenS s by rw [lenS_d]; omega), add_of (show _ ∧ (i : Int) + 1 < _ by omega), show (i : Int) + 1 = ((i + 1 : Nat) : Int) by omega]
  cases hd : eqI (byteAt s (i : Int)) 45 with
  | true => exact main true (i + 1) hd.symm (by omega) (by omega)
  | false => exact main false i hd.symm (by omega) (by omega)

end Go.AM.Pure
end

section
/- The lexer's token and the reference's: texts, signs, any. -/
namespace Go.AM.Pure
open Go.AM

/-! ### Texts -/

theorem bldStr_eq {fl : Bool} {l : List Int} (h : ∀ b ∈ l, 0 ≤ b ∧ b < 256) : bldStr (fl, l) = some (ofBytes l, (fl, l)) := by
  unfold bldStr
  rw [show l.all isByte = true from List.all_eq_true.2 fun b hb => by
    have := h b hb
    unfold isByte
    rw [le_t this.1, lt_t this.2]; rfl]
  rfl

theorem snoc_rng {l : List Int} (h : ∀ b ∈ l, 0 ≤ b ∧ b < 256) {c : Int} (hc : 0 ≤ c ∧ c < 256) : ∀ b ∈ l ++ [c], 0 ≤ b ∧ b < 256 := fun b hb => by
  rcases List.mem_append.1 hb with hb | hb
  · exact h b hb
  · rw [List.mem_singleton.1 hb]; exact hc

theorem text_loop (o1 : ByteArray → Int → List Int → Int → Tok → Option (Tok × Int)) (s : ByteArray) (hs : s.size < 1000000) (i : Nat) (z : Tok) : ∀ (n k : Nat) (fl : Bool) (out : List Int), s.size - k < n → k ≤ s.size → out.length ≤ k → (∀ b ∈ out, 0 ≤ b ∧ b < 256) →
    ∃ (out' : List Int) (k' : Nat), k ≤ k' ∧ ref29_text.l0 o1 n s (i : Int) out (k : Int) z = o1 s (i : Int) out' (k' : Int) z ∧
      ((k' < s.size ∧ lex_lexer_text_w.l0 n (fl, out) (s, (k : Int)) = some (ofBytes out', leI (lenL out') 32, s, ((k' + 1 : Nat) : Int))) ∨
       (s.size ≤ k' ∧ lex_lexer_text_w.l0 n (fl, out) (s, (k : Int)) = some (eB, false, s, (k' : Int)))) := by
  intro n
  induction n with
  | zero => intro k fl out h; exact absurd h (Nat.not_lt_zero _)
  | succ n ih =>
    intro k fl out hn hk ho hb
    show ∃ (out' : List Int) (k' : Nat), k ≤ k' ∧ ref29_text.S0 o1 (ref29_text.l0 o1 n) s (i : Int) out (k : Int) z = o1 s (i : Int) out' (k' : Int) z ∧
      ((k' < s.size ∧ lex_lexer_text_w.S0 (lex_lexer_text_w.l0 n) (fl, out) (s, (k : Int)) = some (ofBytes out', leI (lenL out') 32, s, ((k' + 1 : Nat) : Int))) ∨
       (s.size ≤ k' ∧ lex_lexer_text_w.S0 (lex_lexer_text_w.l0 n) (fl, out) (s, (k : Int)) = some (eB, false, s, (k' : Int))))
    unfold ref29_text.S0 lex_lexer_text_w.S0
    simp only
    by_cases hlt : k < s.size
    · have w1 : ∀ c : Int, strings_Builder_WriteByte_w1 (fl, out) c = some (true, false, out ++ [c]) := fun c => by
        unfold strings_Builder_WriteByte_w1 bldUse
        rw [roomB_of (show (out.length + 1) * 1 ≤ 140737488355328 by omega)]; rfl
      have fin : ∃ (out' : List Int) (k' : Nat), k ≤ k' ∧ o1 s (i : Int) out (k : Int) z = o1 s (i : Int) out' (k' : Int) z ∧
          ((k' < s.size ∧ ((bldStr (fl, out)).bind fun r_3 => some (r_3.1, (leI (strings_Builder_Len_w r_3.2).1 32), s, (k : Int) + 1)) = some (ofBytes out', leI (lenL out') 32, s, ((k' + 1 : Nat) : Int))) ∨
           (s.size ≤ k' ∧ ((bldStr (fl, out)).bind fun r_3 => some (r_3.1, (leI (strings_Builder_Len_w r_3.2).1 32), s, (k : Int) + 1)) = some (eB, false, s, (k' : Int)))) :=
        ⟨out, k, Nat.le_refl _, rfl, Or.inl ⟨hlt, by rw [bldStr_eq hb]; rfl⟩⟩
      rw [lt_t (show (k : Int) < lenS s by rw [lenS_d]; omega), inB_of (show 0 ≤ (k : Int) ∧ (k : Int) < lenS s by rw [lenS_d]; omega), add_of (show _ ∧ (k : Int) + 1 < _ by omega), roomB_of (show (out.length + 1) * 1 ≤ _ by omega), w1, w1]
      simp only [cond_true]
      cases eqI (byteAt s (k : Int)) 39 with
      | true =>
        simp only [cond_true]
        by_cases h1 : s.size ≤ k + 1
        · rw [le_t (show lenS s ≤ (k : Int) + 1 by rw [lenS_d]; omega)]
          exact fin
        · rw [le_f (show (k : Int) + 1 < lenS s by rw [lenS_d]; omega), inB_of (show 0 ≤ (k : Int) + 1 ∧ (k : Int) + 1 < lenS s by rw [lenS_d]; omega)]
          simp only [cond_true, cond_false]
          cases neI (byteAt s ((k : Int) + 1)) 39 with
          | true => exact fin
          | false =>
            simp only [cond_false, Option.bind_some]
            rw [add_of (show _ ∧ (k : Int) + 1 + 1 < _ by omega), show (k : Int) + 1 + 1 = ((k + 2 : Nat) : Int) by omega]
            obtain ⟨out', k', e1, e2, e3⟩ := ih (k + 2) false (out ++ [byteAt s ((k : Int) + 1)]) (by omega) (by omega) (by rw [List.length_append]; simp only [List.length_cons, List.length_nil]; omega) (snoc_rng hb (byteAt_rng _ _))
            exact ⟨out', k', by omega, e2, e3⟩
      | false =>
        simp only [cond_false, Option.bind_some]
        obtain ⟨out', k', e1, e2, e3⟩ := ih (k + 1) false (out ++ [byteAt s (k : Int)]) (by omega) (by omega) (by rw [List.length_append]; simp only [List.length_cons, List.length_nil]; omega) (snoc_rng hb (byteAt_rng _ _))
        exact ⟨out', k', by omega, e2, e3⟩
    · rw [lt_f (show lenS s ≤ (k : Int) by rw [lenS_d]; omega)]
      exact ⟨out, k, Nat.le_refl _, rfl, Or.inr ⟨by omega, rfl⟩⟩

theorem text_rel (s : ByteArray) (hs : s.size < 800000) (i : Nat) (hi : i < s.size) :
    OneTok s i ((lex_lexer_text_w (s, (i : Int))).bind fun r => some ((3, r.1, 0, (i : Int)), r.2)) (ref29_text s (i : Int)) := by
  show OneTok s i ((lex_lexer_text_w.S (lex_lexer_text_w.l0 fu) (s, (i : Int))).bind _) (ref29_text.S (ref29_text.l0 (ref29_text.t1 fu) fu) s (i : Int))
  rw [show ref29_text.t1 fu = ref29_text.S1 from rfl]
  unfold lex_lexer_text_w.S ref29_text.S
  simp only
  rw [add_of (show _ ∧ (i : Int) + 1 < _ by omega), show (i : Int) + 1 = ((i + 1 : Nat) : Int) by omega]
  obtain ⟨out, k, hk, e1, e2⟩ := text_loop ref29_text.S1 s (by omega) i (0, eB, 0, 0) fu (i + 1) true [] (by unfold fu; omega) (by omega) (by simp) (fun b hb => by cases hb)
  rw [e1]
  unfold ref29_text.S1
  rcases e2 with ⟨h, e2⟩ | ⟨h, e2⟩
  · rw [e2, le_f (show (k : Int) < lenS s by rw [lenS_d]; omega), lenL_d]
    simp only [cond_false, Option.bind_some]
    by_cases h32 : out.length ≤ 32
    · rw [le_t (show (out.length : Int) ≤ 32 by omega), lt_f (show (out.length : Int) ≤ 32 by omega)]
      refine ⟨_, _, _, _, rfl, rfl, rfl, Or.inr ⟨rfl, rfl, k + 1 - i, ?_, by omega, by omega, ?_, Or.inr (Or.inr (Or.inl ⟨rfl, rfl, by show (ofBytes out).size ≤ 32; rw [ofBytes_size]; exact h32⟩)), fun h => by rcases h with h | h <;> simp at h⟩⟩
      · show subI .i64 (addI .i64 (k : Int) 1) (i : Int) = _
        rw [add_of (by omega), sub_of (by omega)]; omega
      · rw [show i + (k + 1 - i) = k + 1 by omega]
    · rw [le_f (show 32 < (out.length : Int) by omega), lt_t (show 32 < (out.length : Int) by omega)]
      exact ⟨_, _, _, _, rfl, rfl, rfl, Or.inl ⟨rfl, rfl⟩⟩
  · rw [e2, le_t (show lenS s ≤ (k : Int) by rw [lenS_d]; omega)]
    exact ⟨_, _, _, _, rfl, rfl, rfl, Or.inl ⟨rfl, rfl⟩⟩

/-! ### Signs -/

/-- Does a sign stand here? -/
def stands (B : List UInt8) (w : ByteArray) : Bool := w.data.toList.isPrefixOf B

theorem stands_eq (s : ByteArray) (i : Nat) (hi : i ≤ s.size) (w : ByteArray) : stands (s.data.toList.drop i) w = (leI (lenS w) (subI .i64 (lenS s) (i : Int)) && eqS (cutS s (i : Int) ((i + w.size : Nat) : Int)) w) ∨ 1000000 ≤ s.size := by
  by_cases hs : s.size < 1000000
  · left
    rw [lenS_d, lenS_d, sub_of (by omega), cutS_list, Nat.add_sub_cancel_left]
    unfold stands
    by_cases hw : w.size ≤ s.size - i
    · rw [le_t (show (w.size : Int) ≤ (s.size : Int) - i by omega), Bool.true_and, eqS_d, size_list w]
      cases hp : w.data.toList.isPrefixOf (s.data.toList.drop i) with
      | true =>
        obtain ⟨q, hq⟩ := List.isPrefixOf_iff_prefix.1 hp
        rw [← hq, List.take_left' rfl, mkB_of]
        exact (decide_eq_true rfl).symm
      | false =>
        refine (decide_eq_false fun e => ?_).symm
        have e2 := congrArg (fun x : ByteArray => x.data.toList) e
        simp only at e2
        have : w.data.toList.isPrefixOf (s.data.toList.drop i) = true := by
          rw [List.isPrefixOf_iff_prefix]
          exact ⟨(s.data.toList.drop i).drop w.data.toList.length, by
            conv => lhs; lhs; rw [← e2]
            exact List.take_append_drop _ _⟩
        rw [hp] at this
        cases this
    · rw [le_f (show (s.size : Int) - i < (w.size : Int) by omega), Bool.false_and]
      cases hp : w.data.toList.isPrefixOf (s.data.toList.drop i) with
      | false => rfl
      | true =>
        have := (List.isPrefixOf_iff_prefix.1 hp).length_le
        rw [List.length_drop, ← size_list, ← size_list] at this
        omega
  · exact Or.inr (by omega)

theorem sign_loop (s : ByteArray) (hs : s.size < 800000) (i : Nat) (hi : i ≤ s.size) (l : List ByteArray) (hl : l.length < 1000) (hw : ∀ w ∈ l, w.size < 1000) (z : Tok) : ∀ (d k n : Nat), d = l.length - k → k ≤ l.length → d < n →
    ref29_sign.l0 n s (i : Int) l (k : Int) z = some (match (l.drop k).find? (stands (s.data.toList.drop i)) with | some w => ((4, w, 0, (i : Int)), lenS w) | none => ((0, eB, 0, 0), 0)) := by
  intro d
  induction d with
  | zero =>
    intro k n hd hk hn
    obtain ⟨n, rfl⟩ : ∃ q, n = q + 1 := ⟨n - 1, by omega⟩
    show ref29_sign.S0 (ref29_sign.l0 n) _ _ _ _ _ = _
    unfold ref29_sign.S0
    rw [lt_f (show lenL l ≤ (k : Int) by rw [lenL_d]; omega), (List.drop_of_length_le (show l.length ≤ k by omega) : l.drop k = [])]
    rfl
  | succ d ih =>
    intro k n hd hk hn
    obtain ⟨n, rfl⟩ : ∃ q, n = q + 1 := ⟨n - 1, by omega⟩
    show ref29_sign.S0 (ref29_sign.l0 n) _ _ _ _ _ = _
    unfold ref29_sign.S0
    have hkl : k < l.length := by omega
    have ih' := ih (k + 1) n (by omega) (by omega) (by omega)
    have hm := hw _ (List.getElem_mem hkl)
    rw [lt_t (show (k : Int) < lenL l by rw [lenL_d]; omega), inB_of (show 0 ≤ (k : Int) ∧ (k : Int) < lenL l by rw [lenL_d]; omega), nth_get hkl, List.drop_eq_getElem_cons hkl, List.find?_cons,
      add_of (show _ ∧ (k : Int) + 1 < _ by omega), show (k : Int) + 1 = ((k + 1 : Nat) : Int) by omega, ih']
    generalize l[k] = w at hm
    have hst := (stands_eq s i hi w).resolve_right (by omega)
    rw [hst, show addI .i64 (i : Int) (lenS w) = ((i + w.size : Nat) : Int) by rw [lenS_d, add_of (by omega)]; omega]
    cases hle : leI (lenS w) (subI .i64 (lenS s) (i : Int)) with
    | false => rfl
    | true =>
      have hle' : lenS w ≤ subI .i64 (lenS s) (i : Int) := of_decide_eq_true hle
      rw [lenS_d, lenS_d, sub_of (by omega)] at hle'
      rw [inC_of (show 0 ≤ (i : Int) ∧ (i : Int) ≤ ((i + w.size : Nat) : Int) ∧ ((i + w.size : Nat) : Int) ≤ lenS s by rw [lenS_d]; omega)]
      simp only [cond_true, Bool.true_and]
      cases eqS (cutS s (i : Int) ((i + w.size : Nat) : Int)) w <;> rfl

/-- The first sign that stands here. -/
def signOf (c : UInt8) (r : List UInt8) : Option ByteArray :=
  if c = 60 then (if r.head? = some 61 then some (bs [60, 61]) else if r.head? = some 62 then some (bs [60, 62]) else some (bs [60]))
  else if c = 62 then (if r.head? = some 61 then some (bs [62, 61]) else some (bs [62]))
  else if c = 40 ∨ c = 41 ∨ c = 44 ∨ c = 46 ∨ c = 42 ∨ c = 61 then some (mkB [c]) else none

theorem find_sign (c : UInt8) (r : List UInt8) : signs.find? (stands (c :: r)) = signOf c r := by
  have h1 : ∀ a : Nat, stands (c :: r) (bs [a]) = decide (c = UInt8.ofNat a) := fun a => by
    show List.isPrefixOf [UInt8.ofNat a] (c :: r) = _
    simp only [List.isPrefixOf, Bool.and_true]
    by_cases h : c = UInt8.ofNat a
    · rw [decide_eq_true h, h]; exact beq_self_eq_true _
    · rw [decide_eq_false h]; exact beq_eq_false_iff_ne.2 (Ne.symm h)
  have h2 : ∀ a b : Nat, stands (c :: r) (bs [a, b]) = (decide (c = UInt8.ofNat a) && decide (r.head? = some (UInt8.ofNat b))) := fun a b => by
    show List.isPrefixOf [UInt8.ofNat a, UInt8.ofNat b] (c :: r) = _
    cases r with
    | nil => simp [List.isPrefixOf]
    | cons d r =>
      rw [show decide ((d :: r).head? = some (UInt8.ofNat b)) = decide (d = UInt8.ofNat b) from by simp]
      simp only [List.isPrefixOf, Bool.and_true]
      congr 1
      · by_cases h : c = UInt8.ofNat a
        · rw [decide_eq_true h, h]; exact beq_self_eq_true _
        · rw [decide_eq_false h]; exact beq_eq_false_iff_ne.2 (Ne.symm h)
      · by_cases h : d = UInt8.ofNat b
        · rw [decide_eq_true h, h]; exact beq_self_eq_true _
        · rw [decide_eq_false h]; exact beq_eq_false_iff_ne.2 (Ne.symm h)
  unfold signs signOf
  simp only [List.find?_cons, List.find?_nil, h1, h2]
  by_cases a : c = 60
  · subst a
    by_cases b : r.head? = some 61
    · simp [b]
    · by_cases d : r.head? = some 62
      · simp [d]
      · simp [b, d]
  by_cases a2 : c = 62
  · subst a2
    by_cases b : r.head? = some 61
    · simp [b]
    · simp [b]
  rw [if_neg a, if_neg a2]
  by_cases e : c = 40
  · subst e; rfl
  by_cases e : c = 41
  · subst e; rfl
  by_cases e : c = 44
  · subst e; rfl
  by_cases e : c = 46
  · subst e; rfl
  by_cases e : c = 42
  · subst e; rfl
  by_cases e : c = 61
  · subst e; rfl
  simp [*]

end Go.AM.Pure
end

section
/- The lexer's token and the reference's: any; all tokens of a text. -/
namespace Go.AM.Pure
open Go.AM

theorem drop_cons {s : ByteArray} {i : Nat} (hi : i < s.size) : ∃ c r, s.data.toList.drop i = c :: r ∧ byteAt s (i : Int) = (c.toNat : Int) :=
  ⟨_, _, getD_drop (by rw [← size_list]; exact hi), rfl⟩

def signN (c : UInt8) (r : List UInt8) : Nat := if (c = 60 ∧ r.head? = some 61) ∨ (c = 62 ∧ r.head? = some 61) ∨ (c = 60 ∧ r.head? = some 62) then 2 else 1

theorem sign_lex (s : ByteArray) (hs : s.size < 800000) (i : Nat) (hi : i < s.size) {c : UInt8} {r : List UInt8} (e : s.data.toList.drop i = c :: r) :
    lex_lexer_sign_w (s, (i : Int)) = some (mkB ((c :: r).take (signN c r)), s, ((i + signN c r : Nat) : Int)) ∧ i + signN c r ≤ s.size := by
  have hlen : s.size - i = r.length + 1 := by
    have := congrArg List.length e
    rw [List.length_drop, ← size_list] at this
    exact this
  have fin : ∀ n : Nat, i + n ≤ s.size → n ≤ 2 → lex_lexer_sign_w.S0 (n : Int) (s, (i : Int)) = some (mkB ((c :: r).take n), s, ((i + n : Nat) : Int)) := by
    intro n hn h2
    unfold lex_lexer_sign_w.S0
    simp only
    rw [add_of (show _ ∧ (i : Int) + n < _ by omega), sub_of (show _ ∧ (i : Int) + n - n < _ by omega), show (i : Int) + n - n = (i : Int) by omega, show (i : Int) + n = ((i + n : Nat) : Int) by omega,
      inC_of (show 0 ≤ (i : Int) ∧ (i : Int) ≤ ((i + n : Nat) : Int) ∧ ((i + n : Nat) : Int) ≤ lenS s by rw [lenS_d]; omega), cutS_list, e, Nat.add_sub_cancel_left]
    rfl
  have hN : i + signN c r ≤ s.size := by
    unfold signN
    split
    · rename_i h
      have : r ≠ [] := by rintro rfl; simp at h
      have := List.length_pos_iff.2 this
      omega
    · omega
  refine ⟨?_, hN⟩
  show lex_lexer_sign_w.S (lex_lexer_sign_w.t0 fu) (s, (i : Int)) = _
  rw [show lex_lexer_sign_w.t0 fu = lex_lexer_sign_w.S0 from rfl]
  unfold lex_lexer_sign_w.S
  simp only
  rw [add_of (show _ ∧ (i : Int) + 1 < _ by omega), add_of (show _ ∧ (i : Int) + 2 < _ by omega), show (i : Int) + 2 = ((i + 2 : Nat) : Int) by omega]
  cases r with
  | nil =>
    rw [List.length_nil] at hlen
    rw [lt_f (show lenS s ≤ (i : Int) + 1 by rw [lenS_d]; omega)]
    have : signN c [] = 1 := by unfold signN; simp
    rw [this]
    exact fin 1 (by omega) (by omega)
  | cons d r =>
    rw [List.length_cons] at hlen
    rw [lt_t (show (i : Int) + 1 < lenS s by rw [lenS_d]; omega), inC_of (show 0 ≤ (i : Int) ∧ (i : Int) ≤ ((i + 2 : Nat) : Int) ∧ ((i + 2 : Nat) : Int) ≤ lenS s by rw [lenS_d]; omega), cutS_list, e, Nat.add_sub_cancel_left]
    have h2 : ∀ a b : Nat, eqS (mkB ((c :: d :: r).take 2)) (bs [a, b]) = decide (c = UInt8.ofNat a ∧ d = UInt8.ofNat b) := fun a b => by
      rw [eqS_d]
      apply decide_eq_decide.2
      constructor
      · intro h
        have := mkB_inj (show mkB [c, d] = mkB [UInt8.ofNat a, UInt8.ofNat b] from h)
        simpa using this
      · rintro ⟨rfl, rfl⟩; rfl
    rw [h2, h2, h2]
    simp only [cond_true]
    have hsN : signN c (d :: r) = if (c = UInt8.ofNat 60 ∧ d = UInt8.ofNat 61) ∨ (c = UInt8.ofNat 62 ∧ d = UInt8.ofNat 61) ∨ (c = UInt8.ofNat 60 ∧ d = UInt8.ofNat 62) then 2 else 1 := by
      have h : signN c (d :: r) = if (c = 60 ∧ d = 61) ∨ (c = 62 ∧ d = 61) ∨ (c = 60 ∧ d = 62) then 2 else 1 := by unfold signN; simp
      exact h
    rw [hsN]
    by_cases x1 : c = UInt8.ofNat 60 ∧ d = UInt8.ofNat 61
    · rw [decide_eq_true x1, if_pos (Or.inl x1)]
      exact fin 2 (by omega) (by omega)
    rw [decide_eq_false x1]
    by_cases x2 : c = UInt8.ofNat 62 ∧ d = UInt8.ofNat 61
    · rw [decide_eq_true x2, if_pos (Or.inr (Or.inl x2))]
      exact fin 2 (by omega) (by omega)
    rw [decide_eq_false x2]
    by_cases x3 : c = UInt8.ofNat 60 ∧ d = UInt8.ofNat 62
    · rw [decide_eq_true x3, if_pos (Or.inr (Or.inr x3))]
      exact fin 2 (by omega) (by omega)
    rw [decide_eq_false x3, if_neg (by rintro (h | h | h); exact x1 h; exact x2 h; exact x3 h)]
    exact fin 1 (by omega) (by omega)

theorem signOf_N {c : UInt8} {r : List UInt8} (h : c = 40 ∨ c = 41 ∨ c = 44 ∨ c = 46 ∨ c = 42 ∨ c = 61 ∨ c = 60 ∨ c = 62) : signOf c r = some (mkB ((c :: r).take (signN c r))) ∧ ((c :: r).take (signN c r)).length = signN c r := by
  unfold signOf signN
  rcases h with rfl | rfl | rfl | rfl | rfl | rfl | rfl | rfl
  · simp
  · simp
  · simp
  · simp
  · simp
  · simp
  · cases r with
    | nil => exact ⟨rfl, rfl⟩
    | cons d r =>
      by_cases b : d = 61
      · subst b; exact ⟨rfl, rfl⟩
      by_cases e : d = 62
      · subst e; exact ⟨rfl, rfl⟩
      refine ⟨?_, ?_⟩ <;> simp [b, e] <;> rfl
  · cases r with
    | nil => exact ⟨rfl, rfl⟩
    | cons d r =>
      by_cases b : d = 61
      · subst b; exact ⟨rfl, rfl⟩
      refine ⟨?_, ?_⟩ <;> simp [b] <;> rfl

theorem sign_ref (s : ByteArray) (hs : s.size < 800000) (i : Nat) (hi : i < s.size) {c : UInt8} {r : List UInt8} (e : s.data.toList.drop i = c :: r) :
    ref29_sign s (i : Int) = some (match signOf c r with | some w => ((4, w, 0, (i : Int)), lenS w) | none => ((0, eB, 0, 0), 0)) := by
  have := sign_loop s hs i (by omega) signs (by decide) (by decide) (0, eB, 0, 0) 11 0 fu rfl (by decide) (by unfold fu; omega)
  rw [List.drop_zero, e, find_sign] at this
  exact this

theorem toNat_is {c : UInt8} {n : Nat} (hn : n < 256) (h : (c.toNat : Int) = (n : Int)) : c = UInt8.ofNat n := by
  apply UInt8.toNat_inj.1
  rw [UInt8.toNat_ofNat']
  omega

theorem next_rel (s : ByteArray) (hs : s.size < 800000) (i : Nat) (hi : i < s.size) : OneTok s i (lex_lexer_next_w (s, (i : Int))) (ref29_one s (i : Int)) := by
  obtain ⟨c, r, e, hc⟩ := drop_cons hi
  have hk : lex_kind (byteAt s (i : Int)) = some (kindN (byteAt s (i : Int))) := by
    obtain ⟨f, ef⟩ := byte_fin s (i : Int)
    rw [ef]; exact kind_fin f
  unfold lex_lexer_next_w ref29_one
  simp only
  rw [inB_of (show 0 ≤ (i : Int) ∧ (i : Int) < lenS s by rw [lenS_d]; omega), hk]
  simp only [cond_true, Option.bind_some]
  by_cases hL : ref29_letter (byteAt s (i : Int)) = true
  · have hkn : kindN (byteAt s (i : Int)) = 2 := by unfold kindN; rw [if_pos hL]
    rw [hkn, hL, while_name s (by omega) i (by omega), span_eq true s (by omega) i (by omega)]
    have h1 : 1 ≤ runN isName s i := by
      rw [runN_step hi]
      have : isName (byteAt s (i : Int)) = true := by unfold isName; rw [hL]; cases ref29_digit (byteAt s (i : Int)) <;> rfl
      rw [this, if_pos rfl]; omega
    have h2 := runN_le isName s i
    simp only [Option.bind_some, if_true]
    rw [add_of (show _ ∧ (i : Int) + (runN isName s i : Int) < _ by omega), show (i : Int) + (runN isName s i : Int) = ((i + runN isName s i : Nat) : Int) by omega,
      inC_of (show 0 ≤ (i : Int) ∧ (i : Int) ≤ ((i + runN isName s i : Nat) : Int) ∧ ((i + runN isName s i : Nat) : Int) ≤ lenS s by rw [lenS_d]; omega)]
    refine ⟨_, _, _, _, rfl, rfl, rfl, Or.inr ⟨rfl, rfl, _, rfl, h1, by omega, rfl, Or.inl ⟨rfl, rfl, ?_⟩, fun _ => rfl⟩⟩
    have hw := cutS_list s i (i + runN isName s i)
    rw [e, Nat.add_sub_cancel_left] at hw
    obtain ⟨m, hm⟩ : ∃ m, runN isName s i = m + 1 := ⟨runN isName s i - 1, by omega⟩
    refine ⟨c, r.take m, by show (cutS _ _ _).data.toList = _; rw [hw, hm]; rfl, by rw [← hc]; exact hL, fun b hb => ?_⟩
    have ht : ((toBytes s).drop i).take (runN isName s i) = ((toBytes s).drop i).takeWhile isName := by
      unfold runN
      conv => lhs; arg 2; rw [← List.takeWhile_append_dropWhile (p := isName) (l := (toBytes s).drop i)]
      exact List.take_left' rfl
    have hd : (toBytes s).drop i = (c :: r).map fun b => (b.toNat : Int) := by rw [← e, List.map_drop]; rfl
    rw [hm, hd, List.map_cons, List.take_succ_cons, ← List.map_take] at ht
    have : (b.toNat : Int) ∈ ((c :: r).map fun b => (b.toNat : Int)).takeWhile isName := by
      rw [List.map_cons, ← ht]
      exact List.mem_cons_of_mem _ (List.mem_map.2 ⟨b, hb, rfl⟩)
    exact List.all_eq_true.1 List.all_takeWhile _ this
  have hL' : ref29_letter (byteAt s (i : Int)) = false := by simpa using hL
  by_cases hD : ref29_digit (byteAt s (i : Int)) = true
  · have hkn : kindN (byteAt s (i : Int)) = 3 := by unfold kindN; rw [if_neg hL, if_pos hD]
    rw [hkn, hL', hD, bind_some']
    exact number_rel s hs i hi
  have hD' : ref29_digit (byteAt s (i : Int)) = false := by simpa using hD
  rw [hL', hD', bind_some', bind_some', bind_some', cond_false, cond_false]
  by_cases h45 : byteAt s (i : Int) = 45
  · rw [h45]
    exact number_rel s hs i hi
  by_cases h39 : byteAt s (i : Int) = 39
  · rw [h39]
    exact text_rel s hs i hi
  rw [eq_f h45, eq_f h39, cond_false, cond_false, sign_ref s hs i hi e]
  rw [hc] at h45 h39 hL hD ⊢
  by_cases h6 : c = 40 ∨ c = 41 ∨ c = 44 ∨ c = 46 ∨ c = 42 ∨ c = 61 ∨ c = 60 ∨ c = 62
  · have hkn : kindN (c.toNat : Int) = 6 := by rcases h6 with rfl | rfl | rfl | rfl | rfl | rfl | rfl | rfl <;> rfl
    obtain ⟨l1, l2⟩ := sign_lex s hs i hi e
    obtain ⟨l3, l4⟩ := signOf_N (r := r) h6
    rw [hkn, l1, l3]
    have hcut : mkB ((c :: r).take (signN c r)) = cutS s (i : Int) ((i + signN c r : Nat) : Int) := by rw [cutS_list, e, Nat.add_sub_cancel_left]
    have hmem : mkB ((c :: r).take (signN c r)) ∈ signs := List.mem_of_find?_eq_some ((find_sign c r).trans l3)
    refine ⟨_, _, _, _, rfl, rfl, rfl, Or.inr ⟨rfl, rfl, signN c r, ?_, ?_, l2, rfl, Or.inr (Or.inr (Or.inr ⟨rfl, rfl, hmem⟩)), fun _ => hcut⟩⟩
    · show lenS (mkB _) = _
      rw [lenS_mk, l4]
    · unfold signN; split <;> omega
  · have hn : signOf c r = none := by
      unfold signOf
      rw [if_neg (fun x => h6 (by simp [x])), if_neg (fun x => h6 (by simp [x])), if_neg (fun x => h6 (by rcases x with x | x | x | x | x | x <;> simp [x]))]
    have ne : ∀ n : Nat, n < 256 → c ≠ UInt8.ofNat n → (c.toNat : Int) ≠ (n : Int) := fun n hn h x => h (toNat_is hn x)
    have hkn : kindN (c.toNat : Int) = 0 ∨ kindN (c.toNat : Int) = 1 := by
      unfold kindN
      rw [if_neg hL, if_neg hD]
      by_cases hb : isBlank (c.toNat : Int) = true
      · rw [if_pos hb]; exact Or.inr rfl
      · rw [if_neg hb, if_neg h45, if_neg h39, if_neg]
        · exact Or.inl rfl
        · rintro (x | x | x | x | x | x | x | x)
          · exact h6 (Or.inl (toNat_is (n := 40) (by omega) x))
          · exact h6 (Or.inr (Or.inl (toNat_is (n := 41) (by omega) x)))
          · exact h6 (Or.inr (Or.inr (Or.inl (toNat_is (n := 44) (by omega) x))))
          · exact h6 (Or.inr (Or.inr (Or.inr (Or.inl (toNat_is (n := 46) (by omega) x)))))
          · exact h6 (Or.inr (Or.inr (Or.inr (Or.inr (Or.inl (toNat_is (n := 42) (by omega) x))))))
          · exact h6 (Or.inr (Or.inr (Or.inr (Or.inr (Or.inr (Or.inl (toNat_is (n := 61) (by omega) x)))))))
          · exact h6 (Or.inr (Or.inr (Or.inr (Or.inr (Or.inr (Or.inr (Or.inl (toNat_is (n := 60) (by omega) x))))))))
          · exact h6 (Or.inr (Or.inr (Or.inr (Or.inr (Or.inr (Or.inr (Or.inr (toNat_is (n := 62) (by omega) x))))))))
    rw [hn]
    rcases hkn with h | h <;> rw [h] <;> exact ⟨_, _, _, _, rfl, rfl, rfl, Or.inl ⟨rfl, rfl⟩⟩

/-! ### All tokens -/

abbrev Toks := List Tok × Int × Int

theorem skip_step (o : List Tok → Int → Option Toks) (s : ByteArray) (hs : s.size < 800000) (out : List Tok) (i n : Nat) (hi : i < s.size) : ref29_Tokens.l0 o (n + 1) s out (i : Int) =
    bif isBlank (byteAt s (i : Int)) then ref29_Tokens.l0 o n s out ((i + 1 : Nat) : Int) else
      (ref29_one s (i : Int)).bind fun r_4 => bif (eqI r_4.2 0) then some ([], (i : Int), 300) else bif (roomB ((List.length out) + 1) 40) then ref29_Tokens.l0 o n s (out ++ [r_4.1]) (addI .i64 (i : Int) r_4.2) else none := by
  show ref29_Tokens.S0 o (ref29_Tokens.l0 o n) _ _ _ = _
  unfold ref29_Tokens.S0
  rw [lt_t (show (i : Int) < lenS s by rw [lenS_d]; omega), inB_of (show 0 ≤ (i : Int) ∧ (i : Int) < lenS s by rw [lenS_d]; omega), add_of (show _ ∧ (i : Int) + 1 < _ by omega), show (i : Int) + 1 = ((i + 1 : Nat) : Int) by omega]
  simp only [cond_true]
  unfold isBlank
  cases eqI (byteAt s (i : Int)) 32 <;> cases eqI (byteAt s (i : Int)) 9 <;> cases eqI (byteAt s (i : Int)) 10 <;> cases eqI (byteAt s (i : Int)) 13 <;> rfl

theorem skip_all (o : List Tok → Int → Option Toks) (s : ByteArray) (hs : s.size < 800000) (out : List Tok) : ∀ (k i n : Nat), runN isBlank s i = k → i ≤ s.size → ref29_Tokens.l0 o (n + k) s out (i : Int) = ref29_Tokens.l0 o n s out ((i + k : Nat) : Int) := by
  intro k
  induction k with
  | zero => intro i n _ _; rfl
  | succ k ih =>
    intro i n hk hi
    have hlt : i < s.size := by
      rcases Nat.lt_or_ge i s.size with h | h
      · exact h
      · rw [runN_end h] at hk; omega
    rw [runN_step hlt] at hk
    rw [show n + (k + 1) = (n + k) + 1 by omega, skip_step o s hs out i (n + k) hlt]
    cases hb : isBlank (byteAt s (i : Int)) with
    | false => rw [hb] at hk; simp at hk
    | true =>
      rw [hb] at hk
      simp only [if_true] at hk
      rw [cond_true, ih (i + 1) n (by omega) (by omega), show i + 1 + k = i + (k + 1) by omega]

/-- The tokens from a place on, to the end. -/
inductive Laid (s : ByteArray) : Nat → List Tok → Prop
  | fin (i : Nat) : i ≤ s.size → Laid s i [(0, eB, 0, (s.size : Int))]
  | tok (i a n : Nat) (t : Tok) (l : List Tok) : i ≤ a → 1 ≤ n → a + n ≤ s.size → t.2.2.2 = (a : Int) → TokIs t → (t.1 = 1 ∨ t.1 = 4 → t.2.1 = cutS s (a : Int) ((a + n : Nat) : Int)) → Laid s (a + n) l → Laid s i (t :: l)

theorem toks_loop (s : ByteArray) (hs : s.size < 800000) : ∀ (d i n1 n2 : Nat) (out : List Tok), s.size - i ≤ d → i ≤ s.size → s.size - i < n1 → s.size - i < n2 → out.length ≤ i →
    ∃ x : Toks, lex_Tokens.l0 n1 s out (s, (i : Int)) = some x ∧ ref29_Tokens.l0 ref29_Tokens.S1 n2 s out (i : Int) = some x ∧ x.1.length ≤ s.size + 1 ∧ (x.2.2 = 0 → ∃ l, x.1 = out ++ l ∧ Laid s i l) := by
  intro d
  induction d with
  | zero =>
    intro i n1 n2 out hd hi h1 h2 ho
    obtain ⟨n1, rfl⟩ : ∃ m, n1 = m + 1 := ⟨n1 - 1, by omega⟩
    obtain ⟨n2, rfl⟩ : ∃ m, n2 = m + 1 := ⟨n2 - 1, by omega⟩
    refine ⟨(out ++ [(0, eB, 0, (i : Int))], 0, 0), ?_, ?_, by rw [List.length_append]; simp only [List.length_cons, List.length_nil]; omega, fun _ => ⟨_, rfl, by rw [show (i : Int) = (s.size : Int) by omega]; exact .fin i hi⟩⟩
    · show lex_Tokens.S0 (lex_Tokens.l0 n1) _ _ _ = _
      unfold lex_Tokens.S0
      rw [while_blank s (by omega) i hi, runN_end (by omega), Nat.add_zero]
      simp only [Option.bind_some]
      rw [eq_t (show (i : Int) = lenS s by rw [lenS_d]; omega), roomB_of (show (out.length + 1) * 40 ≤ _ by omega)]
      rfl
    · show ref29_Tokens.S0 ref29_Tokens.S1 (ref29_Tokens.l0 _ n2) _ _ _ = _
      unfold ref29_Tokens.S0 ref29_Tokens.S1
      rw [lt_f (show lenS s ≤ (i : Int) by rw [lenS_d]; omega), roomB_of (show (out.length + 1) * 40 ≤ _ by omega)]
      rfl
  | succ d ih =>
    intro i n1 n2 out hd hi h1 h2 ho
    obtain ⟨n1, rfl⟩ : ∃ m, n1 = m + 1 := ⟨n1 - 1, by omega⟩
    have hk := runN_le isBlank s i
    have hstop := runN_stop (p := isBlank) (s := s) (s.size - i) i rfl
    obtain ⟨n2, rfl⟩ : ∃ m, n2 = (m + 1) + runN isBlank s i := ⟨n2 - 1 - runN isBlank s i, by omega⟩
    rw [skip_all _ s hs out _ i (n2 + 1) rfl hi]
    show ∃ x : Toks, lex_Tokens.S0 (lex_Tokens.l0 n1) s out (s, (i : Int)) = some x ∧ _ ∧ _
    unfold lex_Tokens.S0
    rw [while_blank s (by omega) i hi]
    generalize hkk : runN isBlank s i = k at hk hstop h2
    simp only [Option.bind_some]
    by_cases he : i + k = s.size
    · rw [eq_t (show ((i + k : Nat) : Int) = lenS s by rw [lenS_d]; omega), roomB_of (show (out.length + 1) * 40 ≤ _ by omega)]
      refine ⟨(out ++ [(0, eB, 0, ((i + k : Nat) : Int))], 0, 0), rfl, ?_, by rw [List.length_append]; simp only [List.length_cons, List.length_nil]; omega, fun _ => ⟨_, rfl, by rw [he]; exact .fin i hi⟩⟩
      show ref29_Tokens.S0 ref29_Tokens.S1 (ref29_Tokens.l0 _ n2) _ _ _ = _
      unfold ref29_Tokens.S0 ref29_Tokens.S1
      rw [lt_f (show lenS s ≤ ((i + k : Nat) : Int) by rw [lenS_d]; omega), roomB_of (show (out.length + 1) * 40 ≤ _ by omega)]
      rfl
    · rw [eq_f (show ¬ ((i + k : Nat) : Int) = lenS s by rw [lenS_d]; omega), skip_step _ s hs out (i + k) n2 (by omega), hstop (by omega)]
      simp only [cond_false]
      obtain ⟨t, ok, l, q, a1, a2, a3, a4⟩ := next_rel s hs (i + k) (by omega)
      rw [a1, a2]
      simp only [Option.bind_some]
      rcases a4 with ⟨rfl, b2⟩ | ⟨rfl, b1, n, b2, b3, b4, b5, b6, b7⟩
      · rw [b2, a3]
        exact ⟨_, rfl, rfl, Nat.zero_le _, fun h => absurd h (by show ¬ (300 : Int) = 0; omega)⟩
      · rw [eq_f (show ¬ q.2 = 0 by omega), b1, b2, b5, roomB_of (show (out.length + 1) * 40 ≤ _ by omega), add_of (show _ ∧ ((i + k : Nat) : Int) + (n : Int) < _ by omega), show ((i + k : Nat) : Int) + (n : Int) = ((i + k + n : Nat) : Int) by omega]
        obtain ⟨x, x1, x2, x3, x4⟩ := ih (i + k + n) n1 n2 (out ++ [t]) (by omega) (by omega) (by omega) (by omega) (by rw [List.length_append]; simp only [List.length_cons, List.length_nil]; omega)
        refine ⟨x, x1, x2, x3, fun h => ?_⟩
        obtain ⟨l', y1, y2⟩ := x4 h
        exact ⟨t :: l', by rw [y1, List.append_assoc]; rfl, .tok i (i + k) n t l' (by omega) b3 b4 a3 b6 b7 y2⟩

theorem tokens_eq (s : ByteArray) (hs : s.size < 800000) : ∃ x : Toks, lex_Tokens s = some x ∧ ref29_Tokens s = some x ∧ x.1.length ≤ s.size + 1 ∧ (x.2.2 = 0 → Laid s 0 x.1) := by
  show ∃ x : Toks, lex_Tokens.S (lex_Tokens.l0 fu) s = some x ∧ ref29_Tokens.S (ref29_Tokens.l0 (ref29_Tokens.t1 fu) fu) s = some x ∧ _
  rw [show ref29_Tokens.t1 fu = ref29_Tokens.S1 from rfl]
  unfold lex_Tokens.S ref29_Tokens.S
  cases ltI 1024 (lenS s) with
  | true => exact ⟨_, rfl, rfl, Nat.zero_le _, fun h => absurd h (by show ¬ (4 : Int) = 0; omega)⟩
  | false =>
    obtain ⟨x, x1, x2, x3, x4⟩ := toks_loop s hs s.size 0 fu fu [] (by omega) (by omega) (by unfold fu; omega) (by unfold fu; omega) (Nat.zero_le _)
    refine ⟨x, x1, x2, x3, fun h => ?_⟩
    obtain ⟨l, y1, y2⟩ := x4 h
    rw [y1]; exact y2

theorem same29_loop (r : List Tok) (hr : r.length < 4611686018427387904) : ∀ (d i n : Nat), d = r.length - i → i ≤ r.length → d < n → ref29_Same.l0 n r r (i : Int) = some true := by
  intro d
  induction d with
  | zero =>
    intro i n hd hi hn
    obtain ⟨n, rfl⟩ : ∃ k, n = k + 1 := ⟨n - 1, by omega⟩
    show ref29_Same.S0 (ref29_Same.l0 n) _ _ _ = _
    unfold ref29_Same.S0
    rw [lt_f (show lenL r ≤ (i : Int) by rw [lenL_d]; omega)]
    rfl
  | succ d ih =>
    intro i n hd hi hn
    obtain ⟨n, rfl⟩ : ∃ k, n = k + 1 := ⟨n - 1, by omega⟩
    show ref29_Same.S0 (ref29_Same.l0 n) _ _ _ = _
    unfold ref29_Same.S0
    rw [lt_t (show (i : Int) < lenL r by rw [lenL_d]; omega), inB_of (show 0 ≤ (i : Int) ∧ (i : Int) < lenL r by rw [lenL_d]; omega), eq_t rfl, eq_t rfl, eq_t rfl, eqS_t rfl, add_of (show _ ∧ (i : Int) + 1 < _ by omega)]
    exact ih (i + 1) n (by omega) (by omega) (by omega)
theorem ref29_Same_refl (r : List Tok) (hr : r.length < 4611686018427387904) : ref29_Same r r = some true := by
  show ref29_Same.S (ref29_Same.l0 fu) r r = _
  unfold ref29_Same.S
  rw [ne_f rfl]
  exact same29_loop r hr r.length 0 fu (by omega) (by omega) (by unfold fu; omega)

end Go.AM.Pure
end

section
/- Keywords; the law LexTokens. -/
namespace Go.AM.Pure
open Go.AM

theorem contains_cons (b : UInt8) (l sub : List UInt8) : Lib.contains (b :: l) sub = (sub.isPrefixOf (b :: l) || Lib.contains l sub) := by
  unfold Lib.contains
  rw [Lib.index]
  have h := Lib.index_ge l sub
  cases sub.isPrefixOf (b :: l) with
  | true => simp
  | false =>
    simp only [Bool.false_eq_true, if_false, Bool.false_or]
    by_cases hm : Lib.index l sub = -1
    · rw [hm]; rfl
    · rw [if_neg (by simpa using hm)]
      apply decide_eq_decide.2
      omega
theorem contains_nil (b : UInt8) (sub : List UInt8) : Lib.contains [] (b :: sub) = false := rfl

/-- The words, a blank ahead of each, a blank at the end. -/
def kws : List (List UInt8) → List UInt8
  | [] => [32]
  | w :: ws => 32 :: w ++ kws ws
theorem kws_head : ∀ ws, ∃ q, kws ws = 32 :: q
  | [] => ⟨[], rfl⟩
  | w :: ws => ⟨w ++ kws ws, rfl⟩

theorem contains_skip (sub : List UInt8) : ∀ (w k : List UInt8), 32 ∉ w → Lib.contains (w ++ k) (32 :: sub) = Lib.contains k (32 :: sub)
  | [], k, _ => rfl
  | b :: w, k, h => by
    simp only [List.mem_cons, not_or] at h
    show Lib.contains (b :: (w ++ k)) _ = _
    rw [contains_cons, contains_skip sub w k h.2]
    have : List.isPrefixOf (32 :: sub) (b :: (w ++ k)) = false := by simp [List.isPrefixOf, h.1]
    rw [this, Bool.false_or]

theorem prefix_word : ∀ (s w k : List UInt8), 32 ∉ s → 32 ∉ w → List.isPrefixOf (s ++ [32]) (w ++ 32 :: k) = decide (s = w)
  | [], [], k, _, _ => by simp [List.isPrefixOf]
  | [], b :: w, k, _, h => by
    simp only [List.mem_cons, not_or] at h
    simp [List.isPrefixOf, h.1]
  | a :: s, [], k, h, _ => by
    simp only [List.mem_cons, not_or] at h
    simp [List.isPrefixOf, Ne.symm h.1]
  | a :: s, b :: w, k, h1, h2 => by
    simp only [List.mem_cons, not_or] at h1 h2
    have := prefix_word s w k h1.2 h2.2
    show (a == b && List.isPrefixOf (s ++ [32]) (w ++ 32 :: k)) = _
    rw [this]
    by_cases e : a = b
    · subst e; simp
    · rw [beq_eq_false_iff_ne.2 e, Bool.false_and]
      exact (decide_eq_false fun x => e (List.cons.inj x).1).symm

theorem contains_kws (s : List UInt8) (hs : 32 ∉ s) : ∀ ws : List (List UInt8), (∀ w ∈ ws, 32 ∉ w) → Lib.contains (kws ws) (32 :: s ++ [32]) = decide (s ∈ ws)
  | [], _ => by
    show Lib.contains [32] (32 :: (s ++ [32])) = _
    rw [contains_cons, contains_nil, Bool.or_false]
    simp [List.isPrefixOf]
  | w :: ws, h => by
    obtain ⟨q, hq⟩ := kws_head ws
    show Lib.contains (32 :: (w ++ kws ws)) (32 :: (s ++ [32])) = _
    have h1 := h w (by simp)
    rw [contains_cons, contains_skip _ w _ h1]
    have ih := contains_kws s hs ws (fun x hx => h x (by simp [hx]))
    rw [show (32 :: (s ++ [32]) : List UInt8) = 32 :: s ++ [32] from rfl, ih]
    have : List.isPrefixOf (32 :: s ++ [32]) (32 :: (w ++ kws ws)) = decide (s = w) := by
      rw [hq, ← prefix_word s w q hs h1]
      rfl
    rw [this]
    by_cases e : s = w
    · simp [e]
    · simp [e]

theorem contains_one : ∀ l : List UInt8, Lib.contains l [32] = decide (32 ∈ l)
  | [] => rfl
  | b :: l => by
    rw [contains_cons, contains_one l]
    by_cases e : b = 32
    · subst e; simp [List.isPrefixOf]
    · have : List.isPrefixOf [32] (b :: l) = false := by simp [List.isPrefixOf, Ne.symm e]
      rw [this, Bool.false_or]
      apply decide_eq_decide.2
      simp [Ne.symm e]

def words : List (List UInt8) := ref29_Words.map fun w => w.data.toList
theorem kws_text : ((List.append (List.append [32, 97, 100, 118, 97, 110, 99, 101, 32, 97, 110, 100, 32, 97, 116, 32, 98, 121, 32, 99, 111, 117, 110, 116, 32, 99, 114, 101, 97, 116, 101, 32, 100, 101, 108, 101, 116, 101, 32, 100, 101, 115, 99, 32, 100, 114, 111, 112] [32, 102, 111, 114, 103, 101, 116, 32, 102, 114, 111, 109, 32, 103, 114, 111, 117, 112, 32, 104, 105, 110, 116, 32, 105, 110, 115, 101, 114, 116, 32, 105, 110, 116, 32, 105, 110, 116, 111, 32, 105, 115, 32, 106, 111, 105, 110, 32]) (List.append [107, 101, 121, 115, 32, 108, 105, 109, 105, 116, 32, 109, 97, 120, 32, 109, 105, 110, 32, 109, 111, 118, 101, 32, 110, 111, 116, 32, 110, 117, 108, 108, 32, 111, 110, 32, 111, 114, 32, 111, 114, 100, 101, 114, 32, 112, 114, 111] [106, 101, 99, 116, 105, 111, 110, 32, 115, 101, 108, 101, 99, 116, 32, 115, 117, 109, 32, 116, 97, 98, 108, 101, 32, 116, 101, 120, 116, 32, 117, 115, 105, 110, 103, 32, 118, 97, 108, 117, 101, 115, 32, 119, 104, 101, 114, 101, 32])) : List UInt8) = kws words := by decide +kernel
theorem words_no : ∀ w ∈ words, 32 ∉ w := by decide +kernel
theorem words_nil : ([] : List UInt8) ∉ words := by decide +kernel

theorem kw_loop (s : ByteArray) (l : List ByteArray) (hl : l.length < 1000) : ∀ (d i n : Nat), d = l.length - i → i ≤ l.length → d < n → ref29_Keyword.l0 n s l (i : Int) = some ((l.drop i).any fun w => eqS w s) := by
  intro d
  induction d with
  | zero =>
    intro i n hd hi hn
    obtain ⟨n, rfl⟩ : ∃ k, n = k + 1 := ⟨n - 1, by omega⟩
    show ref29_Keyword.S0 (ref29_Keyword.l0 n) _ _ _ = _
    unfold ref29_Keyword.S0
    rw [lt_f (show lenL l ≤ (i : Int) by rw [lenL_d]; omega), (List.drop_of_length_le (show l.length ≤ i by omega) : l.drop i = [])]
    rfl
  | succ d ih =>
    intro i n hd hi hn
    obtain ⟨n, rfl⟩ : ∃ k, n = k + 1 := ⟨n - 1, by omega⟩
    show ref29_Keyword.S0 (ref29_Keyword.l0 n) _ _ _ = _
    unfold ref29_Keyword.S0
    have hil : i < l.length := by omega
    rw [lt_t (show (i : Int) < lenL l by rw [lenL_d]; omega), inB_of (show 0 ≤ (i : Int) ∧ (i : Int) < lenL l by rw [lenL_d]; omega), nth_get hil, add_of (show _ ∧ (i : Int) + 1 < _ by omega), show (i : Int) + 1 = ((i + 1 : Nat) : Int) by omega,
      ih (i + 1) n (by omega) (by omega) (by omega), List.drop_eq_getElem_cons hil, List.any_cons]
    cases eqS l[i] s <;> rfl

theorem hasS_eq {a b : ByteArray} (ha : a.size < 4294967281) (hb : b.size < 4294967281) : hasS a b = some (Lib.contains a.data.toList b.data.toList) := by
  unfold hasS
  rw [decide_eq_true ha, decide_eq_true hb]
  rfl

theorem keyword_eq (s : ByteArray) (hs : s.size < 800000) : ∃ b : Bool, lex_Keyword s = some b ∧ ref29_Keyword s = some b := by
  have hr : ref29_Keyword s = some (decide (s.data.toList ∈ words)) := by
    show ref29_Keyword.S (ref29_Keyword.l0 fu) s = _
    unfold ref29_Keyword.S
    have := kw_loop s ref29_Words (by decide) 36 0 fu rfl (by decide) (by unfold fu; omega)
    refine this.trans ?_
    congr 1
    rw [Bool.eq_iff_iff, decide_eq_true_iff, List.drop_zero, List.any_eq_true]
    unfold words
    rw [List.mem_map]
    constructor
    · rintro ⟨w, hw, e⟩
      rw [eqS_d] at e
      exact ⟨w, hw, by rw [of_decide_eq_true e]⟩
    · rintro ⟨w, hw, e⟩
      exact ⟨w, hw, eqS_t (bytes_ext.1 e)⟩
  refine ⟨_, ?_, hr⟩
  refine ret_eq ?_
  unfold lex_Keyword
  refine ret_not (ret_eqS (fun h => ?_) (fun _ => ?_))
  · subst h
    exact ret_some (decide_eq_false words_nil).symm
  refine ret_bind_eq (hasS_eq (by omega) (by decide)) ?_
  rw [show (bs [32]).data.toList = [32] from rfl, contains_one]
  refine ret_not (ret_bif (fun h => ?_) (fun h => ?_))
  · refine ret_some (decide_eq_false fun hm => ?_).symm
    exact words_no _ hm (of_decide_eq_true h)
  have h32 : 32 ∉ s.data.toList := of_decide_eq_false h
  refine ret_gd (show (bs [32]).size + s.size ≤ 9223372036854775807 by show 1 + s.size ≤ _; omega) ?_
  have e1 : addS (bs [32]) s = mkB (32 :: s.data.toList) := by
    conv => lhs; rw [← mkB_of s]
    exact addS_mk [32] s.data.toList
  have e2 : addS (mkB (32 :: s.data.toList)) (bs [32]) = mkB (32 :: s.data.toList ++ [32]) := addS_mk _ [32]
  have hl : s.data.toList.length < 800000 := by rw [← size_list]; exact hs
  rw [e1, e2]
  refine ret_gd (show (mkB (32 :: s.data.toList)).size + (bs [32]).size ≤ 9223372036854775807 by rw [mkB_size, List.length_cons]; show _ + 1 ≤ _; omega) ?_
  refine ret_bind_eq (hasS_eq (by decide +kernel) (by rw [mkB_size, List.length_append, List.length_cons]; simp only [List.length_cons, List.length_nil]; omega)) (ret_some ?_)
  rw [mkB_list]
  show Lib.contains ((List.append (List.append [32, 97, 100, 118, 97, 110, 99, 101, 32, 97, 110, 100, 32, 97, 116, 32, 98, 121, 32, 99, 111, 117, 110, 116, 32, 99, 114, 101, 97, 116, 101, 32, 100, 101, 108, 101, 116, 101, 32, 100, 101, 115, 99, 32, 100, 114, 111, 112] [32, 102, 111, 114, 103, 101, 116, 32, 102, 114, 111, 109, 32, 103, 114, 111, 117, 112, 32, 104, 105, 110, 116, 32, 105, 110, 115, 101, 114, 116, 32, 105, 110, 116, 32, 105, 110, 116, 111, 32, 105, 115, 32, 106, 111, 105, 110, 32]) (List.append [107, 101, 121, 115, 32, 108, 105, 109, 105, 116, 32, 109, 97, 120, 32, 109, 105, 110, 32, 109, 111, 118, 101, 32, 110, 111, 116, 32, 110, 117, 108, 108, 32, 111, 110, 32, 111, 114, 32, 111, 114, 100, 101, 114, 32, 112, 114, 111] [106, 101, 99, 116, 105, 111, 110, 32, 115, 101, 108, 101, 99, 116, 32, 115, 117, 109, 32, 116, 97, 98, 108, 101, 32, 116, 101, 120, 116, 32, 117, 115, 105, 110, 103, 32, 118, 97, 108, 117, 101, 115, 32, 119, 104, 101, 114, 101, 32]))) _ = _
  rw [kws_text, contains_kws _ h32 _ words_no]

theorem lexTokens_law (s : ByteArray) : law29_LexTokens s = some true := by
  refine ret_eq ?_
  unfold law29_LexTokens
  have aw : Ret (law29_awake.bind fun r => some r) fun r => r = true := by rw [awake29]; exact ret_some rfl
  refine ret_lt (fun _ => aw) (fun h => ?_)
  rw [lenS_d] at h
  obtain ⟨x, h1, h2, h3, _⟩ := tokens_eq s (by omega)
  refine ret_bind_eq h1 (ret_bind_eq h2 (ret_bind_eq (ref29_Same_refl x.1 (by omega)) (ret_true ?_)))
  rw [eq_t rfl, eq_t rfl]
  obtain ⟨b, k1, k2⟩ := keyword_eq s (by omega)
  refine ret_true (ret_true (ret_bind_eq k1 (ret_bind_eq k2 ?_)))
  rw [show eqB b b = true by cases b <;> rfl]
  exact aw

end Go.AM.Pure
end
