/- Each operation does what the abstract machine says: those that only compute. -/
import Derived.Test.YtkfffcnililmkaaDoorAmInv
namespace Go.AM
open Go.RowKit (Below)
set_option linter.unusedSectionVars false
variable [Lay]

def Und (P : Program) (T : TypeId) : Ty → Prop
  | .int k => P.underlying T = some (.int k)
  | .bool => P.underlying T = some .bool
  | .str => P.underlying T = some .string
  | .sl e => ∃ ET ie, P.underlying T = some (.slice ET) ∧ P.info? ET = some ie ∧ ie.size = e.sz ∧ ie.zero = some (valOf e e.zcells) ∧
      (∀ k, e = .int k → P.underlying ET = some (.int k)) ∧ (e = .int .u8 → ie.bytes = 1)
  | .wrap _ | .pair _ _ | .arr _ _ => ∃ d, P.underlying T = some d ∧ (match d with | .struct _ | .array _ _ => true | _ => false) = true

structure Fit (P : Program) (T : TypeId) (t : Ty) : Prop where
  info : ∃ i, P.info? T = some i ∧ i.size = t.sz ∧ i.zero = some (valOf t t.zcells)
  und : Und P T t

section
variable {P : Program} {B : Bd} {ok0 : Nat → Nat → Prop} {w0 w : World} {g : G} {σ : St} {a : Act} {o : Oper}

/-- What an operation's step owes. -/
def StepOk (P : Program) (B : Bd) (ok0 : Nat → Nat → Prop) (w0 : World) (s : Step) (o : Oper) (a : Act) (w : World) : Prop :=
  ∀ (next : Act → World → Prop) (Q : Exit → Act → World → Prop),
    match s with
    | .no => True
    | .go c σ' => c = true → (∀ g' a' w', Inv B ok0 w0 g' σ' a' w' → a'.tmps.size = a.tmps.size → next a' w') → o.wp P a w next Q
    | .call _ m f => ∀ x, m = some x → (∀ g' a' w', Inv B ok0 w0 g' (f x) a' w' → a'.tmps.size = a.tmps.size → next a' w') → o.wp P a w next Q

theorem put_size (a : Act) (d : Option Nat) (v : Value) : (a.put d v).tmps.size = a.tmps.size := by cases d <;> simp [Act.put]

theorem chk_ok (hI : Inv B ok0 w0 g σ a w) (hd : ∀ d, o.dst = some d → d < a.tmps.size) {c : Bool} {av : AV}
    (h : c = true → ∃ v, (execOp a.eval o).run P w = .ok (.value v) w ∧ RepA (okG B ok0 g w) g σ w av v) : StepOk P B ok0 w0 (chk o c σ av) o a w := by
  intro next Q hc hn
  obtain ⟨v, hr, hv⟩ := h hc
  unfold Oper.wp
  rw [hr]
  exact hn g _ _ (hI.put hv hd) (put_size _ _ _)

theorem put_ok (hI : Inv B ok0 w0 g σ a w) (hd : ∀ d, o.dst = some d → d < a.tmps.size) {av : AV} {v : Value}
    (hr : (execOp a.eval o).run P w = .ok (.value v) w) (hv : RepA (okG B ok0 g w) g σ w av v) : StepOk P B ok0 w0 (put o σ av) o a w :=
  chk_ok hI hd fun _ => ⟨v, hr, hv⟩

theorem no_ok : StepOk P B ok0 w0 .no o a w := fun _ _ => trivial

theorem rep_dat {t : Ty} {x : t.D} {ok : Nat → Nat → Prop} {cs : List Value} (h : RepD ok w t x cs) : RepA ok g σ w (.dat t x []) (valOf t cs) :=
  ⟨cs, h, rfl, fun _ ht => by cases ht⟩

theorem rep_int {ok : Nat → Nat → Prop} (k : IntKind) (n : Int) : RepA ok g σ w (.dat (.int k) n []) (.int k n) := rep_dat (t := .int k) (cs := [.int k n]) rfl
theorem rep_bool {ok : Nat → Nat → Prop} (b : Bool) : RepA ok g σ w (.dat .bool b []) (.bool b) := rep_dat (t := .bool) (cs := [.bool b]) rfl
theorem rep_str {ok : Nat → Nat → Prop} (s : ByteArray) : RepA ok g σ w (.dat .str s []) (.string s) := rep_dat (t := .str) (cs := [.string s]) rfl

theorem of_int {ok : Nat → Nat → Prop} {k : IntKind} {n : Int} {gs : List Tag} {v : Value} (h : RepA ok g σ w (.dat (.int k) n gs) v) : v = .int k n := by
  obtain ⟨cs, h1, h2, _⟩ := h; simp only [RepD] at h1; subst h1; exact h2
theorem of_bool {ok : Nat → Nat → Prop} {b : Bool} {gs : List Tag} {v : Value} (h : RepA ok g σ w (.dat .bool b gs) v) : v = .bool b := by
  obtain ⟨cs, h1, h2, _⟩ := h; simp only [RepD] at h1; subst h1; exact h2
theorem of_str {ok : Nat → Nat → Prop} {s : ByteArray} {gs : List Tag} {v : Value} (h : RepA ok g σ w (.dat .str s gs) v) : v = .string s := by
  obtain ⟨cs, h1, h2, _⟩ := h; simp only [RepD] at h1; subst h1; exact h2
theorem of_sl {ok : Nat → Nat → Prop} {e : Ty} {l : List e.D} {gs : List Tag} {v : Value} (h : RepA ok g σ w (.dat (.sl e) l gs) v) :
    ∃ p n cap, v = .slice p n cap ∧ RepD ok w (.sl e) l [v] ∧ l.length = n ∧ n ≤ cap ∧ cap ≤ maxLen ∧ TagsOk g σ.r w gs [v] := by
  obtain ⟨cs, h1, h2, h3⟩ := h
  have hh := h1
  obtain ⟨p, n, cap, rfl, hl, hn, hm, _⟩ := h1
  have hv : v = .slice p n cap := h2
  subst hv
  exact ⟨p, n, cap, rfl, hh, hl, hn, hm, h3⟩

theorem opd_ok (hI : Inv B ok0 w0 g σ a w) (x : Operand) : RepA (okG B ok0 g w) g σ w (opd σ x) (a.eval x) := by
  cases x with
  | tmp t => exact hI.slots t
  | func f => exact ⟨[], rfl, trivial⟩
  | global n => trivial
  | const v =>
    unfold opd
    split
    · rename_i h; cases h
    · rename_i k n h; cases h; exact rep_int k n
    · rename_i b h; cases h; exact rep_bool b
    · rename_i s h; cases h; exact rep_str s
    · rename_i h; cases h; rfl
    · rename_i h; cases h
    · trivial

theorem coe_ok {E : Env} {ok : Nat → Nat → Prop} {T : Nat} {av : AV} {v : Value} (h : RepA ok g σ w av v) : RepA ok g σ w (coe E T av) v := by
  unfold coe
  split
  · split
    · rename_i e _
      have hv : v = .slice none 0 0 := h
      subst hv
      refine ⟨[.slice none 0 0], ⟨none, 0, 0, rfl, rfl, Nat.le_refl _, Nat.zero_le _, fun i x hi => by simp at hi⟩, rfl, fun t ht => ?_⟩
      have : t = ⟨0, 0, 0, e.sz⟩ := by simpa using ht
      subst this
      exact ⟨fun _ => rfl, fun h0 => absurd rfl h0⟩
    · trivial
  · exact h

theorem move_ok {E : Env} (hI : Inv B ok0 w0 g σ a w) (hd : ∀ d, o.dst = some d → d < a.tmps.size) {x : Operand} (ho : o.op = .move x ∨ o.op = .assign x) :
    StepOk P B ok0 w0 (put o σ (coe E o.type (opd σ x))) o a w := by
  refine put_ok hI hd (v := a.eval x) ?_ (coe_ok (opd_ok hI x))
  rcases ho with ho | ho <;> · unfold execOp; rw [ho]; rfl

theorem eval_int (hI : Inv B ok0 w0 g σ a w) {x : Operand} {k : IntKind} {n : Int} {gs : List Tag} (h : opd σ x = .dat (.int k) n gs) : a.eval x = .int k n :=
  of_int (by have := opd_ok hI x; rw [h] at this; exact this)
theorem eval_bool (hI : Inv B ok0 w0 g σ a w) {x : Operand} {b : Bool} {gs : List Tag} (h : opd σ x = .dat .bool b gs) : a.eval x = .bool b :=
  of_bool (by have := opd_ok hI x; rw [h] at this; exact this)
theorem eval_str (hI : Inv B ok0 w0 g σ a w) {x : Operand} {s : ByteArray} {gs : List Tag} (h : opd σ x = .dat .str s gs) : a.eval x = .string s :=
  of_str (by have := opd_ok hI x; rw [h] at this; exact this)

theorem binInt_ok (hI : Inv B ok0 w0 g σ a w) (hd : ∀ d, o.dst = some d → d < a.tmps.size) {op : BinOp} {T U : Nat} {x y : Operand} (ho : o.op = .binOp op T x y U)
    {k j : IntKind} {m n : Int} {g1 g2 : List Tag} (hx : opd σ x = .dat (.int k) m g1) (hy : opd σ y = .dat (.int j) n g2) : StepOk P B ok0 w0 (binInt op o σ k j m n) o a w := by
  have ex := eval_int hI hx
  have ey := eval_int hI hy
  have hrun : ∀ v, (binOp op T (.int k m) (.int j n)).run P w = .ok v w → (execOp a.eval o).run P w = .ok (.value v) w := by
    intro v hv
    unfold execOp
    rw [ho]
    simp only [ex, ey]
    have hg : eqGuard op T x y (.int k m) (.int j n) = pure () := by unfold eqGuard; cases op <;> rfl
    rw [hg]
    simp only [Sem.run_bind, Sem.run_pure, Result.andThen_ok, hv]
  have hne : ∀ c : Int, neI n 0 = true → ¬ n = 0 := fun _ h => by simpa [neI] using h
  have hnl : leI 0 n = true → ¬ n < 0 := fun h => by
    have h1 : 0 ≤ n := of_decide_eq_true h
    omega
  unfold binInt
  split
  · exact chk_ok hI hd fun h => ⟨_, hrun _ (by simp only [binOp, Op.shift, if_neg (hnl h)]; rfl), rep_int _ _⟩
  · exact chk_ok hI hd fun h => ⟨_, hrun _ (by simp only [binOp, Op.shift, if_neg (hnl h)]; rfl), rep_int _ _⟩
  · split
    · rename_i hkj
      subst hkj
      split
      · exact put_ok hI hd (hrun (.int k (addI k m n)) (by simp [binOp, Op.intArith, addI])) (rep_int _ _)
      · exact put_ok hI hd (hrun (.int k (subI k m n)) (by simp [binOp, Op.intArith, subI])) (rep_int _ _)
      · exact put_ok hI hd (hrun (.int k (mulI k m n)) (by simp [binOp, Op.intArith, mulI])) (rep_int _ _)
      · exact chk_ok hI hd fun h => ⟨.int k (quoI k m n), hrun _ (by simp [binOp, Op.intDiv, quoI, hne 0 h]), rep_int _ _⟩
      · exact chk_ok hI hd fun h => ⟨.int k (remI m n), hrun _ (by simp [binOp, Op.intDiv, remI, hne 0 h]), rep_int _ _⟩
      · exact put_ok hI hd (hrun (.int k (andI k m n)) (by simp [binOp, Op.intBits, andI])) (rep_int _ _)
      · exact put_ok hI hd (hrun (.int k (orI k m n)) (by simp [binOp, Op.intBits, orI])) (rep_int _ _)
      · exact put_ok hI hd (hrun (.int k (xorI k m n)) (by simp [binOp, Op.intBits, xorI])) (rep_int _ _)
      · exact put_ok hI hd (hrun (.int k (anotI k m n)) (by simp [binOp, Op.intBits, anotI])) (rep_int _ _)
      · exact put_ok hI hd (hrun (.bool (eqI m n)) (by simp [binOp, Op.intCmp, eqI])) (rep_bool _)
      · exact put_ok hI hd (hrun (.bool (neI m n)) (by simp [binOp, Op.intCmp, neI])) (rep_bool _)
      · exact put_ok hI hd (hrun (.bool (ltI m n)) (by simp [binOp, Op.intCmp, ltI])) (rep_bool _)
      · exact put_ok hI hd (hrun (.bool (leI m n)) (by simp [binOp, Op.intCmp, leI])) (rep_bool _)
      · exact put_ok hI hd (hrun (.bool (ltI n m)) (by simp [binOp, Op.intCmp, ltI])) (rep_bool _)
      · exact put_ok hI hd (hrun (.bool (leI n m)) (by simp [binOp, Op.intCmp, leI])) (rep_bool _)
      · exact no_ok
    · exact no_ok

theorem binStr_ok (hI : Inv B ok0 w0 g σ a w) (hd : ∀ d, o.dst = some d → d < a.tmps.size) {op : BinOp} {T U : Nat} {x y : Operand} (ho : o.op = .binOp op T x y U)
    {m n : ByteArray} {g1 g2 : List Tag} (hx : opd σ x = .dat .str m g1) (hy : opd σ y = .dat .str n g2) : StepOk P B ok0 w0 (binStr op o σ m n) o a w := by
  have ex := eval_str hI hx
  have ey := eval_str hI hy
  have hrun : ∀ v, (Op.stringOp op m n).run P w = .ok v w → (execOp a.eval o).run P w = .ok (.value v) w := by
    intro v hv
    unfold execOp
    rw [ho]
    simp only [ex, ey]
    have hg : eqGuard op T x y (.string m) (.string n) = pure () := by unfold eqGuard; cases op <;> rfl
    have hb : binOp op T (.string m) (.string n) = Op.stringOp op m n := by cases op <;> rfl
    rw [hg, hb]
    simp only [Sem.run_bind, Sem.run_pure, Result.andThen_ok, hv]
  unfold binStr
  split
  · refine chk_ok hI hd fun h => ⟨.string (addS m n), hrun _ ?_, rep_str _⟩
    have h' : (m.size : Int) + n.size ≤ 9223372036854775807 := of_decide_eq_true h
    have : ¬ (((m.size + n.size : Nat) : Int) > IntKind.i64.max) := by
      have : IntKind.i64.max = 9223372036854775807 := rfl
      omega
    simp only [Op.stringOp, if_neg this, addS]
    rfl
  · exact put_ok hI hd (hrun (.bool (eqS m n)) rfl) (rep_bool _)
  · exact put_ok hI hd (hrun (.bool (!eqS m n)) rfl) (rep_bool _)
  · exact put_ok hI hd (hrun (.bool (ltS m n)) rfl) (rep_bool _)
  · exact put_ok hI hd (hrun (.bool (ltS m n || eqS m n)) rfl) (rep_bool _)
  · exact put_ok hI hd (hrun (.bool (!(ltS m n || eqS m n))) rfl) (rep_bool _)
  · exact put_ok hI hd (hrun (.bool (!ltS m n)) rfl) (rep_bool _)
  · exact no_ok

theorem unOp_ok (hI : Inv B ok0 w0 g σ a w) (hd : ∀ d, o.dst = some d → d < a.tmps.size) {op : UnOp} {T : Nat} {x : Operand} (ho : o.op = .unOp op T x) :
    StepOk P B ok0 w0 (unOp' op o σ (opd σ x)) o a w := by
  have hrun : ∀ v, (Op.unary op (a.eval x)).run P w = .ok v w → (execOp a.eval o).run P w = .ok (.value v) w := by
    intro v hv
    unfold execOp
    rw [ho]
    simp only [Sem.run_bind, Sem.run_pure, Result.andThen_ok, hv]
  unfold unOp'
  split
  · rename_i hx; exact put_ok hI hd (hrun _ (by rw [eval_int hI hx]; rfl)) (rep_int _ _)
  · rename_i hx; exact put_ok hI hd (hrun _ (by rw [eval_int hI hx]; rfl)) (rep_int _ _)
  · rename_i hx; exact put_ok hI hd (hrun _ (by rw [eval_bool hI hx]; rfl)) (rep_bool _)
  · exact no_ok


/-! Types' facts, as the model asks them. -/
theorem Fit.size {T : TypeId} {t : Ty} (h : Fit P T t) : (sizeOf T).run P w = .ok t.sz w := by
  obtain ⟨i, hi, hs, _⟩ := h.info
  simp [sizeOf, typeInfo, hi, hs]

theorem Fit.agg {T : TypeId} {t : Ty} (h : Fit P T t) : (isAgg T).run P w = .ok t.isAgg w := by
  have hu := h.und
  cases t with
  | int k => simp only [Und] at hu; simp [isAgg, run_underlying hu, Ty.isAgg]
  | bool => simp only [Und] at hu; simp [isAgg, run_underlying hu, Ty.isAgg]
  | str => simp only [Und] at hu; simp [isAgg, run_underlying hu, Ty.isAgg]
  | sl e => obtain ⟨ET, ie, hu, _⟩ := hu; simp [isAgg, run_underlying hu, Ty.isAgg]
  | wrap a => obtain ⟨d, hu, hd⟩ := hu; cases d <;> simp_all [isAgg, run_underlying hu, Ty.isAgg]
  | pair a b => obtain ⟨d, hu, hd⟩ := hu; cases d <;> simp_all [isAgg, run_underlying hu, Ty.isAgg]
  | arr m e => obtain ⟨d, hu, hd⟩ := hu; cases d <;> simp_all [isAgg, run_underlying hu, Ty.isAgg]

/-- A variable's value, out of its cells. -/
theorem Fit.load {T : TypeId} {t : Ty} (h : Fit P T t) {ok : Nat → Nat → Prop} {x : t.D} {cs : List Value} (hr : RepD ok w t x cs) {b o : Nat}
    (hc : ∀ j u, cs[j]? = some u → w.cell? ⟨b, o + j, none⟩ = some u) : (loadVar T ⟨b, o, none⟩).run P w = .ok (valOf t cs) w := by
  have hl := run_loadCells_list (P := P) w ⟨b, o, none⟩ cs (fun j u hj => by rw [add_at _ rfl]; exact hc j u hj)
  unfold loadVar
  simp only [Sem.run_bind, h.agg, Result.andThen_ok]
  cases ha : t.isAgg with
  | true =>
    simp only [if_true, Sem.run_bind, h.size, Result.andThen_ok]
    rw [hr.len] at hl
    rw [hl]
    simp [valOf, ha]
  | false =>
    have h1 := valOf_one hr ha
    have h2 := hc 0 (valOf t cs) (by rw [h1]; simp [valOf, ha])
    simp only [Nat.add_zero] at h2
    simp [h2]

structure EnvOk (P : Program) (E : Env) : Prop where
  ty : ∀ T t, E.ty T = some t → Fit P T t
  fo : ∀ S f d u, E.fo S f = some (d, u) → ∃ fs fl, P.underlying S = some (.struct fs) ∧ fs[f]? = some fl ∧ fl.offset = d ∧ Fit P fl.type u
  ar : ∀ T n e, E.ar T = some (n, e) → ∃ ET, P.underlying T = some (.array n ET) ∧ Fit P ET e ∧ n ≤ maxLen ∧
    ∃ i, P.info? T = some i ∧ i.zero = some (.agg (List.replicate n e.zcells).flatten.toArray)
  arMax : ∀ T m e, E.ty T = some (.arr m e) → m + 1 ≤ maxLen
  by_ : ∀ T e ET ie, E.ty T = some (.sl e) → P.underlying T = some (.slice ET) → P.info? ET = some ie → ie.bytes = E.by_ T ∧ 0 < E.by_ T
  pl : ∀ T t, E.ty T = some t → t.isAgg = true → ∃ place : Nat → Option (Nat × Nat), (∀ i d u, E.pl T i = some (d, u) → place i = some (d, u.sz)) ∧
    ∀ (w : World) (parts : Array (Nat × Value)) (cells : Array Value), Instr.fill place t.zcells.toArray parts.toList = some cells → (Instr.build T parts).run P w = .ok (.agg cells) w
  eq : ∀ T t, E.eq T = some t → ∀ (ok : Nat → Nat → Prop) (w : World) (x y : t.D) (cs ds : List Value) (p q : Operand), RepD ok w t x cs → RepD ok w t y ds →
    (eqGuard .eql T p q (valOf t cs) (valOf t ds)).run P w = .ok () w ∧ (eqGuard .neq T p q (valOf t cs) (valOf t ds)).run P w = .ok () w ∧
    (binOp .eql T (valOf t cs) (valOf t ds)).run P w = .ok (.bool (eqD t x y)) w ∧ (binOp .neq T (valOf t cs) (valOf t ds)).run P w = .ok (.bool (!eqD t x y)) w
  mixed : P.follows .mixedOrders = true

variable {E : Env}

theorem binOp_ok (hE : EnvOk P E) (hI : Inv B ok0 w0 g σ a w) (hd : ∀ d, o.dst = some d → d < a.tmps.size) {op : BinOp} {T U : Nat} {x y : Operand} (ho : o.op = .binOp op T x y U) :
    StepOk P B ok0 w0 (binOp' E T op o σ (opd σ x) (opd σ y)) o a w := by
  unfold binOp'
  split
  · rename_i t m g1 u n g2 hx hy
    split
    · exact binInt_ok hI hd ho hx hy
    · exact binStr_ok hI hd ho hx hy
    · split
      · rename_i e he
        split
        · rename_i m' n' hm hn
          have rx := opd_ok hI x; rw [hx] at rx
          have ry := opd_ok hI y; rw [hy] at ry
          obtain ⟨cs, r1, v1, _⟩ := rx
          obtain ⟨ds, r2, v2, _⟩ := ry
          obtain ⟨e1, h1⟩ := cast_some hm
          obtain ⟨e2, h2⟩ := cast_some hn
          subst e1; subst h1
          subst e2
          have h2' : n = n' := h2
          subst h2'
          obtain ⟨q1, q2, q3, q4⟩ := hE.eq T _ he _ w _ _ cs ds x y r1 r2
          split
          · refine put_ok hI hd ?_ (rep_bool _)
            unfold execOp; rw [ho]
            simp only [v1, v2, Sem.run_bind, q1, Result.andThen_ok, q3, Sem.run_pure]
          · refine put_ok hI hd ?_ (rep_bool _)
            unfold execOp; rw [ho]
            simp only [v1, v2, Sem.run_bind, q2, Result.andThen_ok, q4, Sem.run_pure]
          · exact no_ok
        · exact no_ok
      · exact no_ok
  · exact no_ok

theorem extract_ok (hI : Inv B ok0 w0 g σ a w) (hd : ∀ d, o.dst = some d → d < a.tmps.size) {i : Nat} {x : Operand} (ho : o.op = .extract x i) :
    StepOk P B ok0 w0 (extract' i o σ (opd σ x)) o a w := by
  unfold extract'
  split
  · rename_i ds hx
    have rx := opd_ok hI x; rw [hx] at rx
    obtain ⟨vs, hv, hf⟩ := rx
    split
    · rename_i d hdi
      obtain ⟨v, hvi, hr⟩ := hf.get hdi
      refine put_ok hI hd (v := v) ?_ hr
      unfold execOp; rw [ho]
      simp only [hv, Instr.extract, List.getElem?_toArray, hvi, Sem.run_bind, Sem.run_pure, Result.andThen_ok]
    · exact no_ok
  · exact no_ok

theorem inB_of {i n : Int} (h : inB i n = true) : 0 ≤ i ∧ i < n := by
  unfold inB at h
  rw [Bool.and_eq_true] at h
  exact ⟨of_decide_eq_true h.1, of_decide_eq_true h.2⟩
theorem inC_of {l h n : Int} (hc : inC l h n = true) : 0 ≤ l ∧ l ≤ h ∧ h ≤ n := by
  unfold inC at hc
  rw [Bool.and_eq_true, Bool.and_eq_true] at hc
  exact ⟨of_decide_eq_true hc.1, of_decide_eq_true hc.2.1, of_decide_eq_true hc.2.2⟩

theorem byteAt_get (s : ByteArray) (i : Int) (h0 : 0 ≤ i) (h1 : i < s.size) : ∃ b, s[i.toNat]? = some b ∧ (b.toNat : Int) = byteAt s i := by
  have hlt : i.toNat < s.size := by omega
  have hlt' : i.toNat < s.data.toList.length := by simpa using hlt
  refine ⟨s[i.toNat], by simp [getElem?_pos, hlt], ?_⟩
  unfold byteAt
  rw [List.getD_eq_getElem?_getD, List.getElem?_eq_getElem hlt']
  rfl

theorem index_ok (hE : EnvOk P E) (hI : Inv B ok0 w0 g σ a w) (hd : ∀ d, o.dst = some d → d < a.tmps.size) {T : Nat} {x i : Operand} (ho : o.op = .index T x i) :
    StepOk P B ok0 w0 (index' E T o σ (opd σ x) (opd σ i)) o a w := by
  unfold index'
  split
  · rename_i s g1 k n g2 hT hx hi
    refine chk_ok hI hd fun hc => ?_
    have h01 : 0 ≤ n ∧ n < (s.size : Int) := inB_of hc
    obtain ⟨b, hb, hbn⟩ := byteAt_get s n h01.1 h01.2
    refine ⟨.int .u8 (byteAt s n), ?_, rep_int _ _⟩
    have hu : P.underlying T = some .string := (hE.ty T _ hT).und
    unfold execOp; rw [ho]
    simp only [eval_str hI hx, eval_int hI hi, Instr.index, asIntOf, Sem.run_bind, Sem.run_pure, Result.andThen_ok, run_underlying hu, if_pos h01.1, hb, hbn]
  · exact no_ok

theorem fieldAddr_ok (hE : EnvOk P E) (hI : Inv B ok0 w0 g σ a w) (hd : ∀ d, o.dst = some d → d < a.tmps.size) {S f : Nat} {x : Operand} (ho : o.op = .fieldAddr S x f) :
    StepOk P B ok0 w0 (fieldAddr' E S f o σ (opd σ x)) o a w := by
  unfold fieldAddr'
  split
  · rename_i d u hfo
    obtain ⟨fs, fl, hu, hf, hoff, hfit⟩ := hE.fo S f d u hfo
    have hrun : ∀ b o', a.eval x = .pointer (some ⟨b, o', none⟩) → (execOp a.eval o).run P w = .ok (.value (.pointer (some ⟨b, o' + d, none⟩))) w := by
      intro b o' hx
      have hsz : ¬ u.sz = 0 := by have := u.sz_pos; omega
      unfold execOp; rw [ho]
      simp only [hx, Instr.fieldAt, Sem.run_bind, run_underlying hu, Result.andThen_ok, hf, Instr.sureAddr, Sem.run_pure, fieldPlace, hfit.size, if_neg hsz, add_at ⟨b, o', none⟩ rfl, hoff]
    have rx := opd_ok hI x
    split
    · rename_i id ver off hx
      rw [hx] at rx
      obtain ⟨h1, h2⟩ := rx
      split
      · rename_i hv
        obtain ⟨b, ff, hb, hp⟩ := h2 hv
        exact put_ok hI hd (hrun b off hp) ⟨h1, fun _ => ⟨b, ff, hb, rfl⟩⟩
      · exact no_ok
    · rename_i id ver i off hx
      rw [hx] at rx
      obtain ⟨h1, h2⟩ := rx
      split
      · rename_i hv
        obtain ⟨b, ff, e, l, fz, hb, hc, hi, hp⟩ := h2 hv
        exact put_ok hI hd (hrun b _ hp) ⟨h1, fun _ => ⟨b, ff, e, l, fz, hb, hc, hi, by rw [Nat.add_assoc]⟩⟩
      · exact no_ok
    · rename_i t y off hx
      rw [hx] at rx
      obtain ⟨b, o', ys, hp, hr, hc⟩ := rx
      exact put_ok hI hd (hrun b _ hp) ⟨b, o', ys, by rw [Nat.add_assoc], hr, hc⟩
    · exact no_ok
  · exact no_ok

theorem nilCheck_ok (hI : Inv B ok0 w0 g σ a w) (hd : ∀ d, o.dst = some d → d < a.tmps.size) {x : Operand} (ho : o.op = .nilCheck x) :
    StepOk P B ok0 w0 (evOp E σ o) o a w := by
  have hrun : ∀ A : Addr, a.eval x = .pointer (some A) → (execOp a.eval o).run P w = .ok (.value (.pointer (some A))) w := by
    intro A hx
    unfold execOp; rw [ho]
    simp only [hx]; rfl
  have rx := opd_ok hI x
  unfold evOp
  rw [ho]
  dsimp only
  split
  · rename_i id ver off hx
    rw [hx] at rx
    split
    · rename_i hv
      obtain ⟨b, ff, hb, hp⟩ := rx.2 hv
      exact put_ok hI hd (hrun _ hp) ⟨rx.1, fun _ => ⟨b, ff, hb, rfl⟩⟩
    · exact no_ok
  · rename_i id ver i off hx
    rw [hx] at rx
    split
    · rename_i hv
      obtain ⟨b, ff, e, l, fz, hb, hc, hi, hp⟩ := rx.2 hv
      exact put_ok hI hd (hrun _ hp) ⟨rx.1, fun _ => ⟨b, ff, e, l, fz, hb, hc, hi, rfl⟩⟩
    · exact no_ok
  · rename_i t y off hx
    rw [hx] at rx
    obtain ⟨b, o', ys, hp, hr, hc⟩ := rx
    exact put_ok hI hd (hrun _ hp) ⟨b, o', ys, rfl, hr, hc⟩
  · exact no_ok

theorem gsub_ok {gs : List Tag} {cs : List Value} {off sz : Nat} (h : TagsOk g σ.r w gs cs) : TagsOk g σ.r w (gsub gs off sz) ((cs.drop off).take sz) := by
  intro t ht
  unfold gsub at ht
  obtain ⟨u, hu, he⟩ := List.mem_filterMap.1 ht
  split at he
  · rename_i hin
    have he' := Option.some.inj he
    subst he'
    obtain ⟨h1, h2⟩ := h u hu
    have hget : ((cs.drop off).take sz)[u.off - off]? = cs[u.off]? := by
      rw [List.getElem?_take, if_pos (by omega), List.getElem?_drop]
      congr 1
      omega
    unfold TagOk
    simp only [hget]
    exact ⟨h1, h2⟩
  · cases he

theorem part_ok {u : Ty} {T : Nat} (hfit : Fit P T u) {ok : Nat → Nat → Prop} {y : u.D} {cs : List Value} {off : Nat} (hs : RepD ok w u y ((cs.drop off).take u.sz)) :
    (part T cs.toArray off).run P w = .ok (valOf u ((cs.drop off).take u.sz)) w := by
  unfold part
  simp only [Sem.run_bind, hfit.agg, Result.andThen_ok]
  cases ha : u.isAgg with
  | true =>
    simp only [if_true, Sem.run_bind, hfit.size, Result.andThen_ok, Sem.run_pure, valOf, ha]
    congr 2
    simp [Nat.add_sub_cancel_left]
  | false =>
    have h1 := valOf_one hs ha
    have h2 : cs[off]? = some (valOf u ((cs.drop off).take u.sz)) := by
      have h3 : ((cs.drop off).take u.sz)[0]? = some (valOf u ((cs.drop off).take u.sz)) := by
        generalize hq : (cs.drop off).take u.sz = q at h1 ⊢
        rw [h1]; simp [valOf, ha]
      rw [List.getElem?_take, if_pos u.sz_pos, List.getElem?_drop, Nat.add_zero] at h3
      exact h3
    simp [h2]

theorem field_ok (hE : EnvOk P E) (hI : Inv B ok0 w0 g σ a w) (hd : ∀ d, o.dst = some d → d < a.tmps.size) {S f : Nat} {x : Operand} (ho : o.op = .field S x f) :
    StepOk P B ok0 w0 (field' E S f o σ (opd σ x)) o a w := by
  unfold field'
  split
  · rename_i d u hfo
    obtain ⟨fs, fl, hu, hf, hoff, hfit⟩ := hE.fo S f d u hfo
    have rx := opd_ok hI x
    split
    · rename_i t y gs hx
      rw [hx] at rx
      obtain ⟨cs, hr, hv, ht⟩ := rx
      split
      · rename_i hagg
        split
        · rename_i z hz
          obtain ⟨hs, hb⟩ := sub_sound hz hr
          refine put_ok hI hd ?_ ⟨_, hs, rfl, gsub_ok ht⟩
          unfold execOp; rw [ho]
          simp only [hv, Instr.field, Sem.run_bind, run_underlying hu, Result.andThen_ok, hf, hoff]
          rw [show asAgg (valOf t cs) = pure cs.toArray by simp [valOf, hagg, asAgg]]
          simp only [Sem.run_pure, Result.andThen_ok, part_ok hfit hs]
        · exact no_ok
      · exact no_ok
    · exact no_ok
  · exact no_ok

theorem run_indexAt_sl {T ET : Nat} {ie : TypeInfo} (hu : P.underlying T = some (.slice ET)) (hi : P.info? ET = some ie) {A : Addr} (hA : A.spot = none) {n cap : Nat} {k : IntKind} {i : Int} (h0 : 0 ≤ i) (h1 : i < n) :
    (Instr.indexAt T (.slice (some A) n cap) (.int k i)).run P w = .ok (.pointer (some ⟨A.block, A.off + i.toNat * ie.size, none⟩)) w := by
  have hlt : 0 ≤ i ∧ i < (n : Int) := ⟨h0, h1⟩
  simp [Instr.indexAt, asIntOf, run_underlying hu, sizeOf, typeInfo, hi, hlt, add_at A hA]

theorem run_indexAt_ar {T ET : Nat} {ie : TypeInfo} {n : Nat} (hu : P.underlying T = some (.array n ET)) (hi : P.info? ET = some ie) {A : Addr} (hA : A.spot = none) {k : IntKind} {i : Int} (h0 : 0 ≤ i) (h1 : i < n) :
    (Instr.indexAt T (.pointer (some A)) (.int k i)).run P w = .ok (.pointer (some ⟨A.block, A.off + i.toNat * ie.size, none⟩)) w := by
  have hlt : 0 ≤ i ∧ i < (n : Int) := ⟨h0, h1⟩
  simp [Instr.indexAt, asIntOf, Instr.sureAddr, run_underlying hu, sizeOf, typeInfo, hi, hlt, add_at A hA]

theorem at_rep {e : Ty} {l : List e.D} {i : Int} (h0 : 0 ≤ i) (h1 : i < (l.length : Int)) : l[i.toNat]? = some (at' l i) := by
  have : i.toNat < l.length := by omega
  unfold at'
  rw [List.getD_eq_getElem?_getD, List.getElem?_eq_getElem this]
  rfl

theorem indexAddr_ok (hE : EnvOk P E) (hI : Inv B ok0 w0 g σ a w) (hd : ∀ d, o.dst = some d → d < a.tmps.size) {T : Nat} {x i : Operand} (ho : o.op = .indexAddr T x i) :
    StepOk P B ok0 w0 (indexAddr' E T o σ (opd σ x) (opd σ i)) o a w := by
  unfold indexAddr'
  have hrun : ∀ u v, a.eval x = u → (Instr.indexAt T u (a.eval i)).run P w = .ok v w → (execOp a.eval o).run P w = .ok (.value v) w := by
    intro u v hu hv
    unfold execOp; rw [ho]
    subst hu
    simp only [Sem.run_bind, hv, Result.andThen_ok, Sem.run_pure]
  split
  · rename_i k n gi hi
    have hie := eval_int hI hi
    have rx := opd_ok hI x
    split
    · rename_i e l gs hx
      rw [hx] at rx
      split
      · rename_i e' hT
        obtain ⟨ET, ie, hu, hie2, hsz, _⟩ := (hE.ty T _ hT).und
        split
        · rename_i hes
          obtain ⟨p, m, cap, hv, hr, hl, _⟩ := of_sl rx
          refine chk_ok hI hd fun hc => ?_
          obtain ⟨h0, h1⟩ := inB_of hc
          unfold lenL at h1
          obtain ⟨p', m', cap', hv', hl', _, _, hcell⟩ := hr
          have hpe : (Value.slice p m cap) = .slice p' m' cap' := by rw [← hv]; exact (List.cons.inj hv').1
          cases hpe
          obtain ⟨A, hA, hsp, ys, hy, hyc⟩ := hcell n.toNat (at' l n) (at_rep h0 h1)
          subst hA
          refine ⟨_, hrun _ _ hv (by rw [hie]; exact run_indexAt_sl hu hie2 hsp h0 (by omega)), A.block, A.off + n.toNat * e.sz, ys, by rw [hsz, ← hes]; rfl, hy, fun j u hj => ?_⟩
          have := hyc j u hj
          rw [← Nat.add_assoc] at this
          exact this
        · exact no_ok
      · exact no_ok
    · rename_i id ver hx
      rw [hx] at rx
      split
      · rename_i m e e' l fz hT hc
        split
        · rename_i hve
          obtain ⟨b, f, hb, hp⟩ := rx.2 hve.1
          obtain ⟨ET, hu, hfit, _⟩ := hE.ar T m e hT
          obtain ⟨ie, hie2, hsz, _⟩ := hfit.info
          refine chk_ok hI hd fun hck => ?_
          rw [Bool.and_eq_true] at hck
          obtain ⟨h0, h1⟩ := inB_of hck.1
          have hml : m = l.length := of_decide_eq_true hck.2
          refine ⟨_, hrun _ _ hp (by rw [hie]; exact run_indexAt_ar hu hie2 rfl h0 h1), rx.1, fun _ => ⟨b, f, e', l, fz, hb, hc, by omega, ?_⟩⟩
          simp [hsz, hve.2]
        · exact no_ok
      · exact no_ok
    · rename_i id ver hx
      rw [hx] at rx
      split
      · rename_i e e' l fz hT hc
        split
        · rename_i hve
          obtain ⟨e2, l2, fz2, hc2, hsw⟩ := rx.2 hve.1
          rw [hc] at hc2
          cases hc2
          obtain ⟨ET, ie, hu, hie2, hsz, _⟩ := (hE.ty T _ hT).und
          refine chk_ok hI hd fun hck => ?_
          obtain ⟨h0, h1⟩ := inB_of hck
          unfold lenL at h1
          obtain ⟨b, f, cap, hb, _, _, hp⟩ := hsw.get (by omega)
          refine ⟨_, hrun _ _ hp (by rw [hie]; exact run_indexAt_sl hu hie2 rfl h0 h1), rx.1, fun _ => ⟨b, f, e', l, fz, hb, hc, by omega, ?_⟩⟩
          simp [hsz, hve.2]
        · exact no_ok
      · exact no_ok
    · rename_i id ver lo m hx
      rw [hx] at rx
      split
      · rename_i e e' l fz hT hc
        split
        · rename_i hve
          obtain ⟨e2, l2, fz2, A, cap, hc2, hlo, hcap, hmx, hA, hAs, hp⟩ := rx.2 hve.1
          rw [hc] at hc2
          cases hc2
          obtain ⟨ET, ie, hu, hie2, hsz, _⟩ := (hE.ty T _ hT).und
          refine chk_ok hI hd fun hck => ?_
          obtain ⟨h0, h1⟩ := inB_of hck
          obtain ⟨b, f, hb, hA'⟩ := hA (by omega)
          subst hA'
          refine ⟨_, hrun _ _ hp (by rw [hie]; exact run_indexAt_sl hu hie2 rfl h0 h1), rx.1, fun _ => ⟨b, f, e', l, fz, hb, hc, by omega, ?_⟩⟩
          simp [hsz, hve.2, Nat.add_mul]
        · exact no_ok
      · exact no_ok
    · exact no_ok
  · exact no_ok

end
end Go.AM
