/- A law's row: arguments that can be read as data are represented; the call's answer. -/
import Derived.Test.YtkfffcnililmkaaDoorAmTab
import Derived.DataElems
import Derived.WideShapes
import Derived.ChangeOld
namespace Go.AM
open Go.RowKit (Below)
set_option linter.unusedSectionVars false
variable [Lay]

mutual
/-- A type whose values are plain data of kind t, through and through. -/
inductive Deep (P : Program) : Nat → Ty → Prop
  | int {T : Nat} {k : IntKind} : P.underlying T = some (.int k) → Deep P T (.int k)
  | bool {T : Nat} : P.underlying T = some .bool → Deep P T .bool
  | str {T : Nat} : P.underlying T = some .string → Deep P T .str
  | sl {T ET : Nat} {e : Ty} : P.underlying T = some (.slice ET) → P.cellsOf ET = e.sz → Deep P ET e → Deep P T (.sl e)
  | wrap {T : Nat} {fs : Array Field} {a : Ty} : P.underlying T = some (.struct fs) → P.cellsOf T = a.sz → fs.size = 1 → DeepF P fs.toList 0 a → Deep P T (.wrap a)
  | pair {T : Nat} {fs : Array Field} {a b : Ty} : P.underlying T = some (.struct fs) → P.cellsOf T = a.sz + b.sz → DeepF P fs.toList 0 (.pair a b) → Deep P T (.pair a b)
inductive DeepF (P : Program) : List Field → Nat → Ty → Prop
  | last {f : Field} {off : Nat} {a : Ty} : f.offset = off → P.cellsOf f.type = a.sz → Deep P f.type a → DeepF P [f] off a
  | cons {f g : Field} {fs : List Field} {off : Nat} {a b : Ty} : f.offset = off → P.cellsOf f.type = a.sz → Deep P f.type a → DeepF P (g :: fs) (off + a.sz) b → DeepF P (f :: g :: fs) off (.pair a b)
end

/-- Such data as may come in. -/
def okD : (t : Ty) → t.D → Prop
  | .int k, n => (Lit.int k n).wf = true
  | .bool, _ => True
  | .str, s => s.size ≤ maxLen
  | .sl e, l => List.length (α := e.D) l ≤ maxLen ∧ ∀ x ∈ l, okD e x
  | .wrap a, x => okD a x
  | .pair a b, x => okD a x.1 ∧ okD b x.2
  | .arr m e, l => List.length (α := e.D) l = m + 1 ∧ ∀ x ∈ l, okD e x

def cellOk (w : World) (b _o : Nat) : Prop := b < w.heap.size

theorem cells?_get {w : World} {base : Nat} {a : Addr} {n : Nat} {cs : List Value} (h : w.cells? base a n = some cs) : cs.length = n ∧ ∀ j v, cs[j]? = some v → w.cell? (a.add j) = some v := by
  unfold World.cells? at h
  split at h
  · have hl := mapM_some_length h
    rw [List.length_range] at hl
    refine ⟨hl, fun j v hj => ?_⟩
    have hjn : j < n := by have := (List.getElem?_eq_some_iff.1 hj).1; omega
    have := mapM_some_get h j j (by simp [hjn])
    rw [this, hj]
  · cases h

theorem cell?_lt {w : World} {a : Addr} {v : Value} (h : w.cell? a = some v) : a.block < w.heap.size := by
  unfold World.cell? at h
  cases hb : w.heap[a.block]? with
  | none => simp [hb] at h
  | some b => exact (Array.getElem?_eq_some_iff.1 hb).1

section
variable {P : Program} {H : Type} {enc : TypeId × Value → H} {w : World} {base : Nat} {spare : Nat → Bool} {held : Bool}

theorem trod_int {T : Nat} {k : IntKind} {fuel : Nat} {cs : List Value} {p : DataW H × List MemPlace} (hu : P.underlying T = some (.int k)) (h : DataW.trod enc P w base spare held (fuel + 1) T cs = some p) : ∃ n, cs = [.int k n] ∧ (Lit.int k n).wf = true := by
  unfold DataW.trod at h
  rw [hu] at h
  dsimp only at h
  split at h <;> simp_all
theorem trod_bool {T : Nat} {fuel : Nat} {cs : List Value} {p : DataW H × List MemPlace} (hu : P.underlying T = some .bool) (h : DataW.trod enc P w base spare held (fuel + 1) T cs = some p) : ∃ n, cs = [.bool n] := by
  unfold DataW.trod at h
  rw [hu] at h
  dsimp only at h
  split at h <;> simp_all
theorem trod_str {T : Nat} {fuel : Nat} {cs : List Value} {p : DataW H × List MemPlace} (hu : P.underlying T = some .string) (h : DataW.trod enc P w base spare held (fuel + 1) T cs = some p) : ∃ n, cs = [.string n] ∧ n.size ≤ maxLen := by
  unfold DataW.trod at h
  rw [hu] at h
  dsimp only at h
  split at h <;> simp_all
theorem trod_sl {T ET : Nat} {fuel : Nat} {cs : List Value} {p : DataW H × List MemPlace} (hu : P.underlying T = some (.slice ET)) (h : DataW.trod enc P w base spare held (fuel + 1) T cs = some p) :
   cs = [.slice none 0 0] ∨ ∃ a len cap elems, cs = [.slice (some a) len cap] ∧ len ≤ cap ∧ cap ≤ maxLen ∧ (List.range len).mapM (fun i => (w.cells? base (a.add (i * P.cellsOf ET)) (P.cellsOf ET)).bind (DataW.trod enc P w base spare held fuel ET)) = some elems := by
  unfold DataW.trod at h
  rw [hu] at h
  dsimp only at h
  split at h <;> simp_all
  obtain ⟨⟨_, h1, h2⟩, h3⟩ := h
  obtain ⟨el, he, _⟩ := Option.bind_eq_some_iff.1 h3
  exact ⟨_, _, _, ⟨rfl, rfl, rfl⟩, h1, h2, el, he⟩
theorem trod_st {T : Nat} {fuel : Nat} {fs : Array Field} {cs : List Value} {p : DataW H × List MemPlace} (hu : P.underlying T = some (.struct fs)) (h : DataW.trod enc P w base spare held (fuel + 1) T cs = some p) :
   cs.length = P.cellsOf T ∧ ∃ xs, (fs.toList.mapM fun f => DataW.trod enc P w base spare held fuel f.type ((cs.drop f.offset).take (P.cellsOf f.type))) = some xs := by
  unfold DataW.trod at h
  rw [hu] at h
  dsimp only at h
  split at h <;> simp_all
  exact ⟨h.choose, h.choose_spec.1⟩

mutual
theorem open_data {T : Nat} {t : Ty} {fuel : Nat} {cs : List Value} {p : DataW H × List MemPlace} (hd : Deep P T t) (h : DataW.trod enc P w base spare held fuel T cs = some p) :
    ∃ x, RepD (cellOk w) w t x cs ∧ okD t x := by
  cases fuel with
  | zero => cases h
  | succ fuel =>
    cases hd with
    | int hu => obtain ⟨n, rfl, hw⟩ := trod_int hu h; exact ⟨n, rfl, hw⟩
    | bool hu => obtain ⟨n, rfl⟩ := trod_bool hu h; exact ⟨n, rfl, trivial⟩
    | str hu => obtain ⟨n, rfl, hw⟩ := trod_str hu h; exact ⟨n, rfl, hw⟩
    | @sl _ ET e hu hc hde =>
      rcases trod_sl hu h with rfl | ⟨a, len, cap, elems, rfl, hlc, hcm, hel⟩
      · exact ⟨[], ⟨none, 0, 0, rfl, rfl, Nat.le_refl _, Nat.zero_le _, fun i x h => by simp at h⟩, Nat.zero_le _, fun x hx => by cases hx⟩
      · have hlen := mapM_some_length hel
        rw [List.length_range] at hlen
        rw [hc] at hel
        have key : ∀ i, i < len → ∃ ys, w.cells? base (a.add (i * e.sz)) e.sz = some ys ∧ ∃ x, RepD (cellOk w) w e x ys ∧ okD e x := fun i hi => by
          have h1 := mapM_some_get hel i i (by simp [hi])
          obtain ⟨q, hq⟩ : ∃ q, elems[i]? = some q := ⟨elems[i], List.getElem?_eq_getElem (by omega)⟩
          rw [hq] at h1
          obtain ⟨ys, hy, hq2⟩ := Option.bind_eq_some_iff.1 h1
          exact ⟨ys, hy, open_data hde hq2⟩
        obtain ⟨l, hl⟩ : ∃ l : List e.D, l.length = len ∧ ∀ (i : Nat) x, l[i]? = some x → ∃ ys, w.cells? base (a.add (i * e.sz)) e.sz = some ys ∧ RepD (cellOk w) w e x ys ∧ okD e x := by
          have : ∀ n, n ≤ len → ∃ l : List e.D, l.length = n ∧ ∀ (i : Nat) x, l[i]? = some x → ∃ ys, w.cells? base (a.add (i * e.sz)) e.sz = some ys ∧ RepD (cellOk w) w e x ys ∧ okD e x := by
            intro n
            induction n with
            | zero => intro _; exact ⟨[], rfl, fun i x h => by simp at h⟩
            | succ n ih =>
              intro hn
              obtain ⟨l, hl, hx⟩ := ih (by omega)
              obtain ⟨ys, hy, x, hr, hk⟩ := key n (by omega)
              refine ⟨l ++ [x], by simp [hl], fun i z hz => ?_⟩
              by_cases hi : i < n
              · rw [List.getElem?_append_left (by omega)] at hz
                exact hx i z hz
              · rw [List.getElem?_append_right (by omega)] at hz
                have : i = n := by
                  have := (List.getElem?_eq_some_iff.1 hz).1
                  simp at this
                  omega
                subst this
                rw [hl, Nat.sub_self] at hz
                simp at hz
                subst hz
                exact ⟨ys, hy, hr, hk⟩
          exact this len (Nat.le_refl _)
        refine ⟨l, ⟨some a, len, cap, rfl, hl.1, hlc, hcm, fun i x hi => ?_⟩, ?_, fun x hx => ?_⟩
        · obtain ⟨ys, hy, hr, _⟩ := hl.2 i x hi
          obtain ⟨hly, hcell⟩ := cells?_get hy
          have hspot : a.spot = none := by
            obtain ⟨x0, hx0⟩ : ∃ x0, l[0]? = some x0 := ⟨l[0]'(by have := (List.getElem?_eq_some_iff.1 hi).1; omega), List.getElem?_eq_getElem _⟩
            obtain ⟨ys0, hy0, hr0, _⟩ := hl.2 0 x0 hx0
            have hpos0 : 0 < ys0.length := by rw [hr0.len]; exact Ty.sz_pos e
            have := (cells?_get hy0).2 0 ys0[0] (List.getElem?_eq_getElem hpos0)
            rw [Addr.add_add, Nat.zero_mul, Nat.zero_add] at this
            have h0 : a.add 0 = a := by simp [Addr.add]
            rw [h0] at this
            exact World.cell?_spot this
          refine ⟨a, rfl, hspot, ys, hr, fun j v hj => ?_⟩
          have h1 := hcell j v hj
          rw [Addr.add_add, add_at a hspot] at h1
          exact ⟨cell?_lt (a := ⟨a.block, a.off + (i * e.sz + j), none⟩) h1, h1⟩
        · have := hl.1; show List.length (α := e.D) l ≤ maxLen; omega
        · obtain ⟨i, hi⟩ := List.mem_iff_getElem?.1 hx
          obtain ⟨_, _, _, hk⟩ := hl.2 i x hi
          exact hk
    | wrap hu hc h1 hf =>
      obtain ⟨hlen, xs, hxs⟩ := trod_st hu h
      obtain ⟨x, hx, hk⟩ := open_fields hf (pre := []) (cs := cs) (by rw [hlen, hc]) rfl hxs
      exact ⟨x, hx, hk⟩
    | pair hu hc hf =>
      obtain ⟨hlen, xs, hxs⟩ := trod_st hu h
      obtain ⟨x, hx, hk⟩ := open_fields hf (pre := []) (cs := cs) (by rw [hlen, hc]; rfl) rfl hxs
      exact ⟨x, hx, hk⟩
  termination_by (fuel, 0)

theorem open_fields {fs : List Field} {off : Nat} {t : Ty} {fuel : Nat} {pre cs : List Value} {xs : List (DataW H × List MemPlace)} (hd : DeepF P fs off t) (hl : cs.length = t.sz) (hp : pre.length = off)
    (h : (fs.mapM fun f => DataW.trod enc P w base spare held fuel f.type (((pre ++ cs).drop f.offset).take (P.cellsOf f.type))) = some xs) : ∃ x, RepD (cellOk w) w t x cs ∧ okD t x := by
  cases hd with
  | @last f _ _ ho hc hde =>
    simp only [List.mapM_cons, List.mapM_nil, Option.bind_eq_bind, Option.pure_def] at h
    obtain ⟨q, hq, _⟩ := Option.bind_eq_some_iff.1 h
    rw [ho, ← hp, List.drop_left, hc, List.take_of_length_le (by omega)] at hq
    exact open_data hde hq
  | @cons f g fs _ a b ho hc hde hr =>
    rw [List.mapM_cons] at h
    obtain ⟨q, hq, h2⟩ := Option.bind_eq_some_iff.1 h
    obtain ⟨qs, hqs, _⟩ := Option.bind_eq_some_iff.1 h2
    rw [ho, ← hp, List.drop_left, hc] at hq
    have hl' : cs.length = a.sz + b.sz := hl
    obtain ⟨x, hx, hk⟩ := open_data hde hq
    have hcs : cs = cs.take a.sz ++ cs.drop a.sz := (List.take_append_drop _ _).symm
    have hpre : pre ++ cs = (pre ++ cs.take a.sz) ++ cs.drop a.sz := by rw [List.append_assoc, ← hcs]
    rw [hpre] at hqs
    obtain ⟨y, hy, hky⟩ := open_fields hr (pre := pre ++ cs.take a.sz) (cs := cs.drop a.sz) (by rw [List.length_drop]; omega) (by rw [List.length_append, List.length_take, hp]; omega) hqs
    exact ⟨(x, y), ⟨_, _, hcs, hx, hy⟩, hk, hky⟩
  termination_by (fuel, fs.length + 1)
end

end
end Go.AM
