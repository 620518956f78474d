/- Tables of types: what the seat's facts must say for the environment to be sound. -/
import Derived.Test.YtkfffcnililmkaaDoorAmFun
import Derived.Laws.StructEq
namespace Go.AM
set_option linter.unusedSectionVars false
variable [Lay]

universe u
def look {α : Type u} : List (Nat × α) → Nat → Option α
  | [], _ => none
  | (i, a) :: r, k => bif Nat.beq k i then some a else look r k

def AllL {α : Type} (p : α → Prop) : List α → Prop
  | [] => True
  | a :: l => p a ∧ AllL p l

theorem AllL.mem {α : Type} {p : α → Prop} : ∀ {l : List α}, AllL p l → ∀ a ∈ l, p a
  | a :: l, h, b, hb => by
    rcases List.mem_cons.1 hb with rfl | hb
    · exact h.1
    · exact AllL.mem h.2 b hb

theorem look_mem {α : Type u} : ∀ {l : List (Nat × α)} {k : Nat} {a : α}, look l k = some a → (k, a) ∈ l
  | [], _, _, h => by cases h
  | (i, b) :: l, k, a, h => by
    unfold look at h
    cases hb : Nat.beq k i with
    | true =>
      rw [hb] at h
      have := Nat.eq_of_beq_eq_true hb
      subst this
      cases h
      exact List.mem_cons_self ..
    | false => rw [hb] at h; exact List.mem_cons_of_mem _ (look_mem h)

structure Tab where
  ty : List (Nat × Ty)
  fo : List (Nat × List (Nat × Ty))
  ar : List (Nat × (Nat × Ty))
  by_ : List (Nat × Nat)
  eq : List (Nat × Ty)

/-- What is told of one function: its meeting points. -/
structure Keeps where
  loop : List (Nat × Keep)
  blk : List (Nat × Keep)
  cut : List (Nat × Keep)
  ret : Keep
  bx : List Nat
  lend : List Nat

def Tab.env (tb : Tab) (call : Nat → Option Spec) (ks : Keeps) : Env where
  ty := look tb.ty
  fo := fun S f => (look tb.fo S).bind fun l => l[f]?
  pl := fun S f => (look tb.fo S).bind fun l => l[f]?
  ar := look tb.ar
  by_ := fun T => (look tb.by_ T).getD 0
  eq := look tb.eq
  call := call
  loop := fun b => (look ks.loop b).getD ⟨[], []⟩
  blk := look ks.blk
  cut := look ks.cut
  ret := ks.ret
  bx := fun d => ks.bx.any fun i => Nat.beq i d
  lend := fun d => ks.lend.any fun i => Nat.beq i d

section
variable (P : Program)

/-- A struct's fields: where each lies, and its kind. -/
def SFact (S : Nat) (fl : List (Nat × Ty)) : Prop := ∃ fs, P.underlying S = some (.struct fs) ∧ All2 (fun (f : Field) (p : Nat × Ty) => f.offset = p.1 ∧ Fit P f.type p.2) fs.toList fl

def ArFact (T n : Nat) (e : Ty) : Prop := ∃ ET, P.underlying T = some (.array n ET) ∧ Fit P ET e ∧ n ≤ maxLen ∧
    ∃ i, P.info? T = some i ∧ i.zero = some (.agg (List.replicate n e.zcells).flatten.toArray)

def ByFact (tb : Tab) (T : Nat) : Ty → Prop
  | .sl _ => ∃ ET ie, P.underlying T = some (.slice ET) ∧ P.info? ET = some ie ∧ ie.bytes = (look tb.by_ T).getD 0 ∧ 0 < (look tb.by_ T).getD 0
  | _ => True

def AggFact (tb : Tab) (T : Nat) : Ty → Prop
  | .arr m e => look tb.fo T = none ∧ look tb.ar T = some (m + 1, e)
  | t => t.isAgg = true → ∃ fl, look tb.fo T = some fl

def EqAt (d : Nat) (T : Nat) (t : Ty) : Prop := ∀ (ok : Nat → Nat → Prop) (w : World) (x y : t.D) (cs ds : List Value), RepD ok w t x cs → RepD ok w t y ds →
  (Op.equalIn d T (valOf t cs) (valOf t ds)).run P w = .ok (eqD t x y) w

def EqOk (n : Nat) (T : Nat) (t : Ty) : Prop := ∀ d, n ≤ d → EqAt P d T t

def EqFact (T : Nat) (t : Ty) : Prop := (t.isAgg = true ∧ P.eqGuardType P.depth T = false ∧ EqOk P 10000 T t) ∨ (t = .bool ∧ P.underlying T = some .bool)

structure TabOk (tb : Tab) : Prop where
  ty : AllL (fun p => Fit P p.1 p.2 ∧ ByFact P tb p.1 p.2 ∧ AggFact tb p.1 p.2) tb.ty
  fo : AllL (fun p => SFact P p.1 p.2) tb.fo
  ar : AllL (fun p => ArFact P p.1 p.2.1 p.2.2) tb.ar
  eq : AllL (fun p => EqFact P p.1 p.2) tb.eq
  mixed : P.follows .mixedOrders = true
end

section
variable {P : Program} {tb : Tab}

theorem places_of : ∀ {fs : List Field} {fl : List (Nat × Ty)}, All2 (fun (f : Field) (p : Nat × Ty) => f.offset = p.1 ∧ Fit P f.type p.2) fs fl →
    fs.mapM (fun f => (P.info? f.type).map fun i => (f.offset, i.size)) = some (fl.map fun p => (p.1, p.2.sz))
  | [], [], _ => rfl
  | f :: fs, p :: fl, h => by
    obtain ⟨⟨h1, h2⟩, h3⟩ := h
    obtain ⟨i, hi, hs, _⟩ := h2.info
    simp only [List.mapM_cons, hi, places_of h3, Option.map_some, h1, hs, List.map_cons]
    rfl
  | [], _ :: _, h => h.elim
  | _ :: _, [], h => h.elim

theorem eq_int {T : Nat} {k : IntKind} (h : P.underlying T = some (.int k)) : EqOk P 1 T (.int k) := by
  intro d hd ok w x y cs ds hx hy
  obtain ⟨d, rfl⟩ : ∃ e, d = e + 1 := ⟨d - 1, by omega⟩
  simp only [RepD] at hx hy
  subst hx; subst hy
  exact run_equalIn_int w d T k k x y h

theorem eq_bool {T : Nat} (h : P.underlying T = some .bool) : EqOk P 1 T .bool := by
  intro d hd ok w x y cs ds hx hy
  obtain ⟨d, rfl⟩ : ∃ e, d = e + 1 := ⟨d - 1, by omega⟩
  simp only [RepD] at hx hy
  subst hx; subst hy
  exact run_equalIn_bool' w d T x y h

theorem eq_str {T : Nat} (h : P.underlying T = some .string) : EqOk P 1 T .str := by
  intro d hd ok w x y cs ds hx hy
  obtain ⟨d, rfl⟩ : ∃ e, d = e + 1 := ⟨d - 1, by omega⟩
  simp only [RepD] at hx hy
  subst hx; subst hy
  exact run_equalIn_string w d T x y h

theorem EqOk.mono {n m T : Nat} {t : Ty} (h : EqOk P n T t) (hm : n ≤ m) : EqOk P m T t := fun d hd => h d (by omega)

/-- Fields, one behind the other, that are compared in turn. -/
def FEq (P : Program) (n : Nat) : List Field → Nat → Ty → Prop
  | [f], off, a => f.name ≠ "_" ∧ f.offset = off ∧ Fit P f.type a ∧ EqOk P n f.type a
  | f :: g :: fs, off, .pair a b => (f.name ≠ "_" ∧ f.offset = off ∧ Fit P f.type a ∧ EqOk P n f.type a) ∧ FEq P n (g :: fs) (off + a.sz) b
  | _, _, _ => False

theorem part_at {f : Field} {u : Ty} (hf : Fit P f.type u) {ok : Nat → Nat → Prop} {w : World} {y : u.D} {c pre post : List Value} (hr : RepD ok w u y c) (hp : pre.length = f.offset) :
    (part f.type (pre ++ (c ++ post)).toArray f.offset).run P w = .ok (valOf u c) w := by
  have hc : ((pre ++ (c ++ post)).drop f.offset).take u.sz = c := by
    rw [← hp, List.drop_left, ← hr.len, List.take_left]
  have := part_ok (P := P) (w := w) hf (ok := ok) (y := y) (cs := pre ++ (c ++ post)) (off := f.offset) (by rw [hc]; exact hr)
  rw [hc] at this
  exact this

theorem eq_fields {n : Nat} : ∀ {fs : List Field} {off : Nat} {t : Ty}, FEq P n fs off t → ∀ {d : Nat}, n ≤ d → ∀ {ok : Nat → Nat → Prop} {w : World} {x y : t.D} {cs ds pre pre' : List Value}, RepD ok w t x cs → RepD ok w t y ds →
    pre.length = off → pre'.length = off → (Op.eqFields d (pre ++ cs).toArray (pre' ++ ds).toArray fs).run P w = .ok (eqD t x y) w
  | [f], off, a, h, d, hd, ok, w, x, y, cs, ds, pre, pre', hx, hy, hp, hp' => by
    obtain ⟨h1, h2, h3, h4⟩ := h
    have e1 := part_at h3 (post := []) (pre := pre) hx (by rw [hp, h2])
    have e2 := part_at h3 (post := []) (pre := pre') hy (by rw [hp', h2])
    rw [List.append_nil] at e1 e2
    have e3 := h4 d hd ok w x y cs ds hx hy
    simp only [Op.eqFields, if_pos h1, Sem.run_bind, e1, e2, e3, Result.andThen_ok]
    cases eqD a x y <;> simp
  | f :: g :: fs, off, .pair a b, h, d, hd, ok, w, x, y, cs, ds, pre, pre', hx, hy, hp, hp' => by
    obtain ⟨⟨h1, h2, h3, h4⟩, h5⟩ := h
    obtain ⟨c1, c2, rfl, hx1, hx2⟩ := hx
    obtain ⟨d1, d2, rfl, hy1, hy2⟩ := hy
    have e1 := part_at h3 (post := c2) (pre := pre) hx1 (by rw [hp, h2])
    have e2 := part_at h3 (post := d2) (pre := pre') hy1 (by rw [hp', h2])
    have e3 := h4 d hd ok w x.1 y.1 c1 d1 hx1 hy1
    have e4 := eq_fields h5 hd (pre := pre ++ c1) (pre' := pre' ++ d1) hx2 hy2 (by rw [List.length_append, hp, hx1.len]) (by rw [List.length_append, hp', hy1.len])
    rw [List.append_assoc, List.append_assoc] at e4
    rw [Op.eqFields]
    simp only [if_pos h1, Sem.run_bind, e1, e2, e3, Result.andThen_ok]
    show _ = Result.ok (eqD a x.1 y.1 && eqD b x.2 y.2) w
    cases eqD a x.1 y.1
    · simp
    · simpa using e4
  | [], _, _, h, _, _, _, _, _, _, _, _, _, _, _, _, _, _ => h.elim
  | _ :: _ :: _, _, .int _, h, _, _, _, _, _, _, _, _, _, _, _, _, _, _ => h.elim
  | _ :: _ :: _, _, .bool, h, _, _, _, _, _, _, _, _, _, _, _, _, _, _ => h.elim
  | _ :: _ :: _, _, .str, h, _, _, _, _, _, _, _, _, _, _, _, _, _, _ => h.elim
  | _ :: _ :: _, _, .sl _, h, _, _, _, _, _, _, _, _, _, _, _, _, _, _ => h.elim
  | _ :: _ :: _, _, .wrap _, h, _, _, _, _, _, _, _, _, _, _, _, _, _, _ => h.elim
  | _ :: _ :: _, _, .arr _ _, h, _, _, _, _, _, _, _, _, _, _, _, _, _, _ => h.elim

theorem eq_struct {n T : Nat} {fs : Array Field} {a b : Ty} (hu : P.underlying T = some (.struct fs)) (hp : P.stoodInHeld T = false) (hf : FEq P n fs.toList 0 (.pair a b)) : EqOk P (n + 1) T (.pair a b) := by
  intro d hd ok w x y cs ds hx hy
  obtain ⟨d, rfl⟩ : ∃ e, d = e + 1 := ⟨d - 1, by omega⟩
  have hfo : P.fieldsOf T = fs := by simp [Program.fieldsOf, hu]
  show (Op.equalIn (d + 1) T (.agg cs.toArray) (.agg ds.toArray)).run P w = _
  rw [run_equalIn_struct (P := P) w d T _ _ (by rw [hfo]; exact hu) hp, hfo]
  exact eq_fields hf (by omega) (pre := []) (pre' := []) hx hy rfl rfl

theorem eq_wrap {n T : Nat} {fs : Array Field} {a : Ty} {f : Field} (hu : P.underlying T = some (.struct fs)) (hp : P.stoodInHeld T = false) (h1 : fs.toList = [f]) (hf : FEq P n [f] 0 a) : EqOk P (n + 1) T (.wrap a) := by
  intro d hd ok w x y cs ds hx hy
  obtain ⟨d, rfl⟩ : ∃ e, d = e + 1 := ⟨d - 1, by omega⟩
  have hfo : P.fieldsOf T = fs := by simp [Program.fieldsOf, hu]
  show (Op.equalIn (d + 1) T (.agg cs.toArray) (.agg ds.toArray)).run P w = _
  rw [run_equalIn_struct (P := P) w d T _ _ (by rw [hfo]; exact hu) hp, hfo, h1]
  exact eq_fields (t := a) hf (by omega) (pre := []) (pre' := []) hx hy rfl rfl

theorem valOf_agg {t : Ty} (h : t.isAgg = true) (cs : List Value) : valOf t cs = .agg cs.toArray := by simp [valOf, h]

theorem Tab.envOk (h : TabOk P tb) (call : Nat → Option Spec) (ks : Keeps) : EnvOk P (tb.env call ks) where
  ty := fun T t ht => (h.ty.mem _ (look_mem ht)).1
  fo := fun S f d u hf => by
    obtain ⟨fl, h1, h2⟩ := Option.bind_eq_some_iff.1 hf
    obtain ⟨fs, h3, h4⟩ := h.fo.mem _ (look_mem h1)
    have hlen : fs.toList.length = fl.length := h4.len
    have hlt : f < fl.length := (List.getElem?_eq_some_iff.1 h2).1
    have hfs : fs.toList[f]? = some fs.toList[f] := List.getElem?_eq_getElem (by omega)
    obtain ⟨p, hp, h5, h6⟩ := h4.get hfs
    rw [h2] at hp
    cases hp
    exact ⟨fs, _, h3, by rw [← Array.getElem?_toList]; exact hfs, h5, h6⟩
  ar := fun T n e ha => h.ar.mem _ (look_mem ha)
  by_ := fun T e ET ie ht hu hi => by
    obtain ⟨ET', ie', h1, h2, h3, h4⟩ := (h.ty.mem _ (look_mem ht)).2.1
    rw [hu] at h1
    cases h1
    rw [hi] at h2
    cases h2
    exact ⟨h3, h4⟩
  arMax := fun T m e ht => by
    obtain ⟨_, h2⟩ := (h.ty.mem _ (look_mem ht)).2.2
    obtain ⟨_, _, _, h3, _⟩ := h.ar.mem _ (look_mem h2)
    exact h3
  pl := fun T t ht ha => by
    obtain ⟨hfit, _, hagg⟩ := h.ty.mem _ (look_mem ht)
    have hst : ∀ fl, look tb.fo T = some fl → ∃ place : Nat → Option (Nat × Nat), (∀ i d u, (tb.env call ks).pl T i = some (d, u) → place i = some (d, u.sz)) ∧
        ∀ (w : World) (parts : Array (Nat × Value)) (cells : Array Value), Instr.fill place t.zcells.toArray parts.toList = some cells → (Instr.build T parts).run P w = .ok (.agg cells) w := fun fl hfl => by
      obtain ⟨fs, h3, h4⟩ := h.fo.mem _ (look_mem hfl)
      refine ⟨fun i => (fl.map fun p => (p.1, p.2.sz)).toArray[i]?, fun i d u hi => ?_, fun w parts cells hc => ?_⟩
      · have hi' : (look tb.fo T).bind (fun l => l[i]?) = some (d, u) := hi
        rw [hfl] at hi'
        have hi2 : fl[i]? = some (d, u) := hi'
        simp [hi2]
      · obtain ⟨it, hit, _, hz⟩ := hfit.info
        refine run_build w T parts cells ?_
        unfold Program.built
        rw [hit, h3]
        dsimp only
        rw [hz, places_of h4]
        dsimp only
        rw [valOf_agg ha]
        exact hc
    cases t with
    | arr m e =>
      obtain ⟨hfo, har⟩ := hagg
      obtain ⟨ET, hu, hfe, _, it, hit, hz⟩ := h.ar.mem _ (look_mem har)
      obtain ⟨ie, hie, _, _⟩ := hfe.info
      refine ⟨fun i => some (i * ie.size, ie.size), fun i d u hi => ?_, fun w parts cells hc => ?_⟩
      · have hi' : (look tb.fo T).bind (fun l => l[i]?) = some (d, u) := hi
        rw [hfo] at hi'
        cases hi'
      · refine run_build w T parts cells ?_
        unfold Program.built
        rw [hit, hu]
        dsimp only
        rw [hz, hie]
        exact hc
    | pair a b => obtain ⟨fl, hfl⟩ := hagg ha; exact hst fl hfl
    | wrap a => obtain ⟨fl, hfl⟩ := hagg ha; exact hst fl hfl
    | _ => cases ha
  eq := fun T t he ok w x y cs ds p q hx hy => by
    rcases h.eq.mem _ (look_mem he) with ⟨ha, hg, he⟩ | ⟨hb, hu⟩
    · have := he 10000 (Nat.le_refl _) ok w x y cs ds hx hy
      rw [valOf_agg ha, valOf_agg ha] at this ⊢
      refine ⟨run_eqGuard_agg w _ T p q _ _ hg, run_eqGuard_agg w _ T p q _ _ hg, ?_, ?_⟩
      · rw [run_eql_struct, this]; rfl
      · rw [run_neq_struct, this]; rfl
    · dsimp only at hb
      subst hb
      simp only [RepD] at hx hy
      subst hx; subst hy
      exact ⟨rfl, rfl, run_eql_bool w T x y hu, run_neq_bool w T x y hu⟩
  mixed := h.mixed

end
end Go.AM
