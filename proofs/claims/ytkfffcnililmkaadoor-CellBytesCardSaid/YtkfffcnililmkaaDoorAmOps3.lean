/- Operations that make memory or write it. -/
import Derived.Test.YtkfffcnililmkaaDoorAmMem
namespace Go.AM
open Go.RowKit (Below)
set_option linter.unusedSectionVars false
variable [Lay]
section
variable {P : Program} {B : Bd} {ok0 : Nat → Nat → Prop} {w0 w w' : World} {g g' : G} {σ σ1 : St} {a : Act} {o : Oper} {E : Env}

theorem go_ok {c : Bool} {av : AV} (hd : ∀ d, o.dst = some d → d < a.tmps.size)
    (h : c = true → ∃ g' w' v, (execOp a.eval o).run P w = .ok (.value v) w' ∧ Inv B ok0 w0 g' σ1 a w' ∧ RepA (okG B ok0 g' w') g' σ1 w' av v) :
    StepOk P B ok0 w0 (.go c (σ1.setT o.dst av)) o a w := by
  intro next Q hc hn
  obtain ⟨g', w', v, hr, hI, hv⟩ := h hc
  unfold Oper.wp
  rw [hr]
  exact hn g' _ _ (hI.put hv hd) (put_size _ _ _)

theorem skip_ok (hd : ∀ d, o.dst = some d → d < a.tmps.size)
    (h : ∃ g' w', (execOp a.eval o).run P w = .ok .skip w' ∧ Inv B ok0 w0 g' σ1 a w') :
    StepOk P B ok0 w0 (.go true (σ1.setT o.dst .none)) o a w := by
  intro next Q _ hn
  obtain ⟨g', w', hr, hI⟩ := h
  unfold Oper.wp
  rw [hr]
  exact hn g' _ _ (hI.put (av := .none) rfl hd) (put_size _ _ _)

theorem heap_new (w : World) (ob : Obj) : (w.alloc ob).heap[w.heap.size]? = some ob := heap_alloc_new w ob

theorem ztags_ok {r : Nat → Nat} : ∀ (t : Ty) (pre : List Value), TagsOk g r w (ztags t pre.length) (pre ++ t.zcells)
  | .int _, _ => fun _ h => by cases h
  | .bool, _ => fun _ h => by cases h
  | .str, _ => fun _ h => by cases h
  | .sl e, pre => fun τ h => by
    have : τ = ⟨pre.length, 0, 0, e.sz⟩ := by simpa [ztags] using h
    subst this
    exact ⟨fun _ => by simp [Ty.zcells], fun h0 => absurd rfl h0⟩
  | .wrap a, pre => ztags_ok a pre
  | .arr _ _, _ => fun _ h => by cases h
  | .pair a b, pre => fun τ h => by
    rcases List.mem_append.1 h with h | h
    · have h5 : TagOk g r w (pre ++ a.zcells) τ := ztags_ok a pre τ h
      obtain ⟨h1, h2⟩ := h5
      have hlen : ∀ v, (pre ++ a.zcells)[τ.off]? = some v → (pre ++ (a.zcells ++ b.zcells))[τ.off]? = some v := by
        intro v hv
        have := (List.getElem?_eq_some_iff.1 hv).1
        rw [← List.append_assoc, List.getElem?_append_left this]
        exact hv
      have h0 : τ.id = 0 := by
        have : ∀ (t : Ty) (o : Nat) (τ : Tag), τ ∈ ztags t o → τ.id = 0 := by
          intro t
          induction t with
          | int k => intro o τ h; cases h
          | bool => intro o τ h; cases h
          | str => intro o τ h; cases h
          | sl e _ => intro o τ h; simp [ztags] at h; subst h; rfl
          | wrap a ih => intro o τ h; exact ih o τ h
          | pair a b iha ihb => intro o τ h; rcases List.mem_append.1 h with h | h; exact iha _ _ h; exact ihb _ _ h
          | arr m e _ => intro o τ h; cases h
        exact this a _ τ h
      exact ⟨fun _ => hlen _ (h1 h0), fun hn => absurd h0 hn⟩
    · have hl : (pre ++ a.zcells).length = pre.length + a.sz := by rw [List.length_append, (zero_rep (fun _ _ => True) w a).len]
      have h5 : TagOk g r w ((pre ++ a.zcells) ++ b.zcells) τ := ztags_ok b (pre ++ a.zcells) τ (by rw [hl]; exact h)
      rw [List.append_assoc] at h5
      exact h5

theorem arr_zero {ok : Nat → Nat → Prop} {e : Ty} : ∀ (n i : Nat) (x : e.D), (List.replicate n e.zero)[i]? = some x → ∃ ys, RepD ok w e x ys ∧ ∀ j u, ys[j]? = some u → ((List.replicate n e.zcells).flatten)[i * e.sz + j]? = some u := by
  intro n
  have hl := (zero_rep ok w e).len
  induction n with
  | zero => intro i x h; simp at h
  | succ n ih =>
    intro i x h
    cases i with
    | zero =>
      simp only [List.replicate_succ, List.getElem?_cons_zero, Option.some.injEq] at h
      subst h
      refine ⟨e.zcells, zero_rep ok w e, fun j u hj => ?_⟩
      have := (List.getElem?_eq_some_iff.1 hj).1
      rw [List.replicate_succ, List.flatten_cons, List.getElem?_append_left (by omega)]
      simpa using hj
    | succ i =>
      obtain ⟨ys, hy, hc⟩ := ih i x (by simpa [List.replicate_succ] using h)
      refine ⟨ys, hy, fun j u hj => ?_⟩
      rw [List.replicate_succ, List.flatten_cons, List.getElem?_append_right (by rw [Nat.add_mul]; omega), show (i + 1) * e.sz + j - e.zcells.length = i * e.sz + j by rw [hl, Nat.add_mul]; omega]
      exact hc j u hj

theorem flat_len {e : Ty} (n : Nat) : ((List.replicate n e.zcells).flatten).length = n * e.sz := by
  have hl := (zero_rep (fun _ _ => True) (default : World) e).len
  induction n with
  | zero => simp
  | succ n ih => rw [List.replicate_succ, List.flatten_cons, List.length_append, ih, hl, Nat.add_mul]; omega

theorem alloc_ok (hE : EnvOk P E) (hI : Inv B ok0 w0 g σ a w) (hd : ∀ d, o.dst = some d → d < a.tmps.size) {T : Nat} (ho : o.op = .alloc T) :
    StepOk P B ok0 w0 (alloc' E T o σ) o a w := by
  unfold alloc'
  have hrun : ∀ i z, P.info? T = some i → i.zero = some z → (execOp a.eval o).run P w = .ok (.value (.pointer (some ⟨w.heap.size, 0, none⟩))) (w.alloc (.cells z.cells T)) := by
    intro i z hi hz
    unfold execOp; rw [ho]
    simp [Instr.alloc, zeroValue, typeInfo, hi, hz, newVar, newRow]
  split
  · rename_i d hdst
    split
    · rename_i n e hT
      obtain ⟨ET, hu, hfit, hmx, i, hi, hz⟩ := hE.ar T n e hT
      refine go_ok hd fun _ => ⟨g.setBx d w.heap.size false, _, _, hrun i _ hi hz, hI.newBox (Nat.lt_of_lt_of_le (hd _ (by assumption)) hI.tm) (below_alloc w _) (Nat.le_refl _) (by simp) (fun ok g' σ' hx => ?_), ?_⟩
      · refine ⟨rfl, _, T, heap_new w _, ?_, by simpa using hmx, fun i x hix => ?_⟩
        · rw [List.length_replicate, ← flat_len (e := e) n]; simp [Value.cells]
        · obtain ⟨ys, hy, hc⟩ := arr_zero (ok := ok) (w := w.alloc (.cells (Value.agg (List.replicate n e.zcells).flatten.toArray).cells T)) n i x hix
          exact ⟨ys, hy, fun j u hj => by simpa [Value.cells] using hc j u hj⟩
      · exact ⟨by simp [St.newBox, fset_eq], fun _ => ⟨w.heap.size, false, by simp [G.setBx, fset_eq], rfl⟩⟩
    · split
      · rename_i t hT
        obtain ⟨i, hi, hs, hz⟩ := (hE.ty T t hT).info
        refine go_ok hd fun _ => ⟨g.setBx d w.heap.size false, _, _, hrun i _ hi hz, hI.newBox (Nat.lt_of_lt_of_le (hd _ (by assumption)) hI.tm) (below_alloc w _) (Nat.le_refl _) (by simp) (fun ok g' σ' hx => ?_), ?_⟩
        · refine ⟨rfl, t.zcells, T, ?_, zero_rep _ _ _, ztags_ok t []⟩
          rw [heap_new, valOf_cells (zero_rep (fun _ _ => True) w t)]
        · exact ⟨by simp [St.newBox, fset_eq], fun _ => ⟨w.heap.size, false, by simp [G.setBx, fset_eq], rfl⟩⟩
      · exact no_ok
  · exact no_ok

theorem as_ok {ok : Nat → Nat → Prop} {u : Ty} {av : AV} {y : u.D} {v : Value} (h : av.as u = some y) (hr : RepA ok g σ w av v) : RepDat ok g σ w u y (av.tags u) v := by
  cases av with
  | dat t x gs =>
    obtain ⟨e, he⟩ := cast_some (h : cast? (t := t) u x = some y)
    subst e
    have he' : x = y := he
    subst he'
    exact hr
  | nils =>
    cases u with
    | sl e =>
      have hy := Option.some.inj (h : some ([] : List e.D) = some y)
      subst hy
      have hv : v = .slice none 0 0 := hr
      subst hv
      refine ⟨[.slice none 0 0], ⟨none, 0, 0, rfl, rfl, Nat.le_refl _, Nat.zero_le _, fun i x hi => by simp at hi⟩, rfl, fun t ht => ?_⟩
      have : t = ⟨0, 0, 0, e.sz⟩ := by simpa [AV.tags] using ht
      subst this
      exact ⟨fun _ => rfl, fun h0 => absurd rfl h0⟩
    | _ => cases h
  | _ => cases h

theorem box_ok (hE : EnvOk P E) (hI : Inv B ok0 w0 g σ a w) (hd : ∀ d, o.dst = some d → d < a.tmps.size) {T : Nat} {x : Operand} (ho : o.op = .box T x) :
    StepOk P B ok0 w0 (box' E T o σ (opd σ x)) o a w := by
  unfold box'
  split
  · rename_i d hdst
    split
    · rename_i t hT
      split
      · rename_i y hy
        obtain ⟨cs, hr, hv, ht⟩ := as_ok hy (opd_ok hI x)
        have hrun : (execOp a.eval o).run P w = .ok (.value (.pointer (some ⟨w.heap.size, 0, none⟩))) (w.alloc (.cells cs.toArray T)) := by
          unfold execOp; rw [ho]
          simp [Instr.box, newVar, newRow, hv, valOf_cells hr]
        unfold boxTo
        split
        · rename_i m e l gs
          refine go_ok hd fun _ => ⟨g.setBx d w.heap.size false, _, _, hrun, hI.newBox (Nat.lt_of_lt_of_le (hd _ (by assumption)) hI.tm) (below_alloc w _) (Nat.le_refl _) (by simp) (fun ok g' σ' hx => ?_), ?_⟩
          · obtain ⟨h1, h2, h3⟩ := hr.mono hx.cell
            have hmx := hE.arMax T m e hT
            refine ⟨rfl, _, T, heap_new w _, by rw [h1]; simp [h2], by omega, fun i x hi => ⟨_, h3 i x hi, fun j u hj => ?_⟩⟩
            rw [List.getElem?_take] at hj
            split at hj
            · rw [List.getElem?_drop] at hj; simpa using hj
            · cases hj
          · exact ⟨by simp [St.newBox, fset_eq], fun _ => ⟨w.heap.size, false, by simp [G.setBx, fset_eq], rfl⟩⟩
        · refine go_ok hd fun _ => ⟨g.setBx d w.heap.size false, _, _, hrun, hI.newBox (Nat.lt_of_lt_of_le (hd _ (by assumption)) hI.tm) (below_alloc w _) (Nat.le_refl _) (by simp) (fun ok g' σ' hx => ?_), ?_⟩
          · exact ⟨rfl, cs, T, heap_new w _, hr.mono hx.cell, ht.ext hx⟩
          · exact ⟨by simp [St.newBox, fset_eq], fun _ => ⟨w.heap.size, false, by simp [G.setBx, fset_eq], rfl⟩⟩
      · exact no_ok
    · exact no_ok
  · exact no_ok

/-! Values built. -/
theorem fold_splice (off : Nat) : ∀ (ys : List Value) (k : Nat) (cells : Array Value), off + k + ys.length ≤ cells.size →
    ((ys.zipIdx k).foldl (fun cs (p : Value × Nat) => cs.setIfInBounds (off + p.2) p.1) cells).toList = splice cells.toList (off + k) ys
  | [], k, cells, _ => by simp [splice]
  | y :: ys, k, cells, h => by
    simp only [List.length_cons] at h
    rw [List.zipIdx_cons, List.foldl_cons, fold_splice off ys (k + 1) _ (by simp; omega)]
    unfold splice
    simp only [Array.toList_setIfInBounds, List.length_cons]
    have hlen : cells.toList.length = cells.size := by simp
    have h1 : (cells.toList.set (off + k) y).take (off + (k + 1)) = cells.toList.take (off + k) ++ [y] := by
      rw [show off + (k + 1) = (off + k) + 1 by omega, List.take_add_one, List.take_set_of_le (by omega), List.getElem?_set_self (by omega)]
      rfl
    rw [h1, List.drop_set_of_lt (by omega), show off + (k + 1) + ys.length = off + k + (ys.length + 1) by omega]
    simp

theorem fill_step {place : Nat → Option (Nat × Nat)} {cells : Array Value} {f off : Nat} {v : Value} {ys : List Value} {rest : List (Nat × Value)} (hp : place f = some (off, ys.length)) (hv : v.cells = ys.toArray)
    (hle : off + ys.length ≤ cells.size) : Instr.fill place cells ((f, v) :: rest) = Instr.fill place (splice cells.toList off ys).toArray rest := by
  have hf := fold_splice off ys 0 cells (by omega)
  rw [Nat.add_zero] at hf
  conv => lhs; unfold Instr.fill
  simp only [hp, hv, List.size_toArray]
  rw [if_neg (by simp; omega)]
  congr 1
  rw [← hf]
  simp [Array.zipIdx_toArray]

theorem splice_len {cs ys : List Value} {off : Nat} (h : off + ys.length ≤ cs.length) : (splice cs off ys).length = cs.length := by
  unfold splice
  simp only [List.length_append, List.length_take, List.length_drop]
  omega

theorem gupd_ok {r : Nat → Nat} {gs hs : List Tag} {cs ys : List Value} {off : Nat} (h : TagsOk g r w gs cs) (h' : TagsOk g r w hs ys) (hle : off + ys.length ≤ cs.length) :
    TagsOk g r w (gupd gs off ys.length hs) (splice cs off ys) := by
  intro t ht
  unfold gupd at ht
  rcases List.mem_append.1 ht with ht | ht
  · obtain ⟨h1, h2⟩ := List.mem_filter.1 ht
    obtain ⟨h3, h4⟩ := h t h1
    have hout : ¬ (off ≤ t.off ∧ t.off < off + ys.length) := by
      intro hin
      simp [hin.1, hin.2] at h2
    have hg : (splice cs off ys)[t.off]? = cs[t.off]? := by
      unfold splice
      by_cases hlt : t.off < off
      · rw [List.append_assoc, List.getElem?_append_left (by rw [List.length_take]; omega), List.getElem?_take, if_pos hlt]
      · rw [List.getElem?_append_right (by rw [List.length_append, List.length_take]; omega), List.getElem?_drop]
        congr 1
        rw [List.length_append, List.length_take]
        omega
    unfold TagOk
    rw [hg]
    exact ⟨h3, h4⟩
  · obtain ⟨u, hu, he⟩ := List.mem_map.1 ht
    subst he
    obtain ⟨h3, h4⟩ := h' u hu
    have hg : ∀ v, ys[u.off]? = some v → (splice cs off ys)[u.off + off]? = some v := by
      intro v hv
      have := (List.getElem?_eq_some_iff.1 hv).1
      unfold splice
      rw [List.append_assoc, List.getElem?_append_right (by rw [List.length_take]; omega), List.getElem?_append_left (by rw [List.length_take]; omega), ← hv]
      congr 1
      rw [List.length_take]
      omega
    refine ⟨fun h0 => hg _ (h3 h0), fun h0 => ⟨(h4 h0).1, fun he => ?_⟩⟩
    rcases (h4 h0).2 he with hv | ⟨b, n, cap, cur, T, hv, rest⟩
    · exact .inl (hg _ hv)
    · exact .inr ⟨b, n, cap, cur, T, hg _ hv, rest⟩

theorem build_sound (hI : Inv B ok0 w0 g σ a w) {T : Nat} {t : Ty} {place : Nat → Option (Nat × Nat)} (hpl : ∀ i d u, E.pl T i = some (d, u) → place i = some (d, u.sz)) :
    ∀ (ps : List (Nat × Operand)) (z z' : t.D) (gs gs' : List Tag) (cs : List Value), build' E T σ t ps z gs = some (z', gs') → RepD (okG B ok0 g w) w t z cs → TagsOk g σ.r w gs cs →
      ∃ cs', Instr.fill place cs.toArray (ps.map fun p => (p.1, a.eval p.2)) = some cs'.toArray ∧ RepD (okG B ok0 g w) w t z' cs' ∧ TagsOk g σ.r w gs' cs'
  | [], z, z', gs, gs', cs, h, hr, ht => by
    simp only [build', Option.some.injEq, Prod.mk.injEq] at h
    obtain ⟨rfl, rfl⟩ := h
    exact ⟨cs, rfl, hr, ht⟩
  | (f, x) :: ps, z, z', gs, gs', cs, h, hr, ht => by
    unfold build' at h
    split at h
    · rename_i d u hfo
      split at h
      · rename_i y hy
        split at h
        · rename_i z1 hz1
          obtain ⟨ys, hyr, hyv, hyt⟩ := as_ok hy (opd_ok hI x)
          obtain ⟨hs, hle⟩ := upd_sound hyr hz1 hr
          have hyl := hyr.len
          have hcl := hr.len
          obtain ⟨cs', h1, h2, h3⟩ := build_sound hI hpl ps z1 z' _ gs' (splice cs d ys) h hs (by rw [← hyl]; exact gupd_ok ht hyt (by omega))
          refine ⟨cs', ?_, h2, h3⟩
          rw [List.map_cons, fill_step (ys := ys) (by rw [hyl]; exact hpl f d u hfo) (by rw [hyv, valOf_cells hyr]) (by simp; omega)]
          exact h1
        · cases h
      · cases h
    · cases h

theorem build_ok (hE : EnvOk P E) (hI : Inv B ok0 w0 g σ a w) (hd : ∀ d, o.dst = some d → d < a.tmps.size) {T : Nat} {ps : Array (Nat × Operand)} (ho : o.op = .build T ps)
    {t : Ty} (hT : E.ty T = some t) (hagg : t.isAgg = true) {z : t.D} {gs : List Tag} (h : build' E T σ t ps.toList t.zero (ztags t 0) = some (z, gs)) :
    StepOk P B ok0 w0 (put o σ (.dat t z gs)) o a w := by
  obtain ⟨place, hpl, hrun⟩ := hE.pl T t hT hagg
  obtain ⟨cs', h1, h2, h3⟩ := build_sound hI hpl ps.toList t.zero z (ztags t 0) gs t.zcells h (zero_rep _ _ _) (ztags_ok t [])
  refine put_ok hI hd (v := valOf t cs') ?_ ⟨cs', h2, rfl, h3⟩
  unfold execOp; rw [ho]
  have := hrun w (ps.map fun p => (p.1, a.eval p.2)) cs'.toArray (by simpa using h1)
  simp [this, valOf, hagg]


/-! Rows. -/
theorem lit_rep (hI : Inv B ok0 w0 g σ a w) {e : Ty} : ∀ (ps : List (Nat × Operand)) (i : Nat) (l : List e.D) (pre : List Value), lit' σ e i ps = some l → pre.length = i * e.sz →
    ∃ cs, cs.length = l.length * e.sz ∧ l.length = ps.length ∧ RowsOf (okG B ok0 g w) w e l cs ∧
      ∀ tail : List Value, (ps.length * e.sz ≤ tail.length) → Instr.fill (fun i => some (i * e.sz, e.sz)) (pre ++ tail).toArray (ps.map fun p => (p.1, a.eval p.2)) = some (pre ++ cs ++ tail.drop (ps.length * e.sz)).toArray
  | [], i, l, pre, h, hp => by
    simp only [lit', Option.some.injEq] at h
    subst h
    exact ⟨[], by simp, rfl, ⟨by simp, fun i x hi => by simp at hi⟩, fun tail _ => by simp [Instr.fill]⟩
  | (j, x) :: ps, i, l, pre, h, hp => by
    unfold lit' at h
    split at h
    · rename_i hji
      subst hji
      split at h
      · rename_i y hy
        split at h
        · rename_i l' hl'
          cases h
          obtain ⟨ys, hyr, hyv, _⟩ := as_ok hy (opd_ok hI x)
          have hyl := hyr.len
          obtain ⟨cs, h1, h2, ⟨h3a, h3b⟩, h4⟩ := lit_rep hI ps (j + 1) l' (pre ++ ys) hl' (by rw [List.length_append, hp, hyl, Nat.add_mul]; omega)
          refine ⟨ys ++ cs, by rw [List.length_append, h1, hyl, List.length_cons, Nat.add_mul]; omega, by simp [h2], ⟨by rw [List.length_append, h1, hyl, List.length_cons, Nat.add_mul]; omega, fun i x hi => ?_⟩, fun tail ht => ?_⟩
          · cases i with
            | zero =>
              simp only [List.getElem?_cons_zero, Option.some.injEq] at hi
              subst hi
              refine ⟨ys, hyr, fun k u hk => ?_⟩
              have := (List.getElem?_eq_some_iff.1 hk).1
              rw [Nat.zero_mul, Nat.zero_add, List.getElem?_append_left (by omega)]
              exact hk
            | succ i =>
              obtain ⟨zs, hz, hzc⟩ := h3b i x (by simpa using hi)
              refine ⟨zs, hz, fun k u hk => ?_⟩
              rw [List.getElem?_append_right (by rw [Nat.add_mul]; omega), show (i + 1) * e.sz + k - ys.length = i * e.sz + k by rw [Nat.add_mul]; omega]
              exact hzc k u hk
          · simp only [List.length_cons, Nat.add_mul, Nat.one_mul] at ht
            rw [List.map_cons, fill_step (off := j * e.sz) (ys := ys) (by rw [hyl]) (by rw [hyv, valOf_cells hyr]) (by simp [hp, hyl]; omega)]
            have hsp : splice (pre ++ tail) (j * e.sz) ys = pre ++ ys ++ tail.drop e.sz := by
              unfold splice
              rw [← hp, List.take_left, hyl, show pre.length + e.sz = pre.length + e.sz from rfl, List.drop_append, List.drop_eq_nil_of_le (by omega), List.nil_append, Nat.add_sub_cancel_left]
            have := h4 (tail.drop e.sz) (by rw [List.length_drop]; omega)
            rw [show (pre ++ tail).toArray.toList = pre ++ tail by simp, hsp, this]
            congr 2
            rw [List.drop_drop, List.length_cons, Nat.add_mul, Nat.one_mul]
            simp [List.append_assoc, Nat.add_comm]
        · cases h
      · cases h
    · cases h

/-- A row that was just made, and may be appended to. -/
theorem new_row (hI : Inv B ok0 w0 g σ a w) (hb : Below w.heap.size w w') {nb id n cap : Nat} {cur : Array Value} {TT : TypeId} (h1 : w.heap.size ≤ nb) (hh : w'.heap[nb]? = some (.cells cur TT (0, 0)))
    {e : Ty} {l : List e.D} {cs : List Value} (hr : RowsOf (okG B ok0 g w) w e l cs) (hl : l.length = n) (hcur : ∀ (j : Nat) u, cs[j]? = some u → cur[j]? = some u) (hsz : cur.size = cap * e.sz) (hn : n ≤ cap) (hm : cap ≤ maxLen) (hid : id ≠ 0) :
    ∃ g', Inv B ok0 w0 g' (σ.bump id) a w' ∧ RepA (okG B ok0 g' w') g' (σ.bump id) w' (.dat (.sl e) l [⟨0, id, σ.r id + 1, e.sz⟩]) (.slice (some ⟨nb, 0, none⟩) n cap) := by
  have h2 : nb < w'.heap.size := (Array.getElem?_eq_some_iff.1 hh).1
  have hρ : ∀ (i b u : Nat), (if i = id then some (some (nb, n * e.sz)) else none : Option (Option (Nat × Nat))) = some (some (b, u)) → i = id ∧ b = nb ∧ u = n * e.sz := by
    intro i b u hi
    split at hi
    · rename_i hid'; cases hi; exact ⟨hid', rfl, rfl⟩
    · cases hi
  obtain ⟨hI', hx⟩ := hI.newRows hb (ρ := fun i => if i = id then some (some (nb, n * e.sz)) else none) (σ' := σ.bump id) (g' := g.setRw id (some (nb, n * e.sz)))
    (by
      unfold G.setRw
      congr 1
      funext i
      rw [fset_eq]
      by_cases hi : i = id <;> simp [hi])
    (by
      unfold St.bump
      congr 1
      funext i
      rw [fset_eq]
      by_cases hi : i = id <;> simp [hi])
    (fun i b u hi => by obtain ⟨_, rfl, _⟩ := hρ i b u hi; exact ⟨h1, h2⟩)
    (fun i j b u u' hi hj => by rw [(hρ i b u hi).1, (hρ j b u' hj).1])
  refine ⟨_, hI', ⟨[.slice (some ⟨nb, 0, none⟩) n cap], ⟨_, _, _, rfl, hl, hn, hm, fun i x hi => ?_⟩, rfl, fun t ht => ?_⟩⟩
  · obtain ⟨ys, hy, hyc⟩ := hr.2 i x hi
    refine ⟨_, rfl, rfl, ys, hy.mono hx.cell, fun j u hj => ?_⟩
    have hj' := hyc j u hj
    have hlt := (List.getElem?_eq_some_iff.1 hj').1
    rw [hr.1, hl] at hlt
    have hBw : B.n ≤ w.heap.size := by have := hI.below.size; have := hI.hB; omega
    refine ⟨.inr ⟨by simp only; omega, h2, fun id' he => ?_, fun id' u' he => ?_⟩, ?_⟩
    · have := (hI.bb id' nb false he).2; omega
    · simp only [G.setRw, fset_eq] at he
      split at he
      · cases he; simp only [Nat.zero_add]; exact hlt
      · have := (hI.rb id' nb u' he).2.1; omega
    · simp only [World.cell?, hh, Nat.zero_add]
      exact hcur _ _ hj'
  · have ht' : t = ⟨0, id, σ.r id + 1, e.sz⟩ := by simpa using ht
    subst ht'
    refine ⟨fun h0 => absurd h0 hid, fun _ => ⟨by simp [St.bump, fset_eq], fun _ => .inr ⟨nb, n, cap, cur, TT, rfl, by simp [G.setRw, fset_eq], hh, hsz, hn, hm⟩⟩⟩

theorem rid_ne (d j : Nat) : rid d j ≠ 0 := by unfold rid; omega

theorem buildSlice_ok (hE : EnvOk P E) (hI : Inv B ok0 w0 g σ a w) (hd : ∀ d, o.dst = some d → d < a.tmps.size) {T n : Nat} {ps : Array (Nat × Operand)} (ho : o.op = .buildSlice T n ps) :
    StepOk P B ok0 w0 (buildSlice' E T n ps o σ) o a w := by
  unfold buildSlice'
  split
  · rename_i d e hdst hT
    obtain ⟨ET, ie, hu, hie, hsz, hz, _⟩ := (hE.ty T _ hT).und
    split
    · rename_i l hl
      split
      · rename_i hlen
        obtain ⟨cs, h1, h2, h3, h4⟩ := lit_rep hI ps.toList 0 l [] hl (by simp)
        have hzc : (valOf e e.zcells).cells = e.zcells.toArray := valOf_cells (zero_rep (fun _ _ => True) w e)
        have hzl := (zero_rep (fun _ _ => True) w e).len
        -- the model's row of zeros has the length that is asked
        refine go_ok hd fun hc => ?_
        rw [Bool.and_eq_true] at hc
        have hroom : n * e.sz ≤ 16777216 := of_decide_eq_true hc.1
        have hnm : n ≤ maxLen := by have := e.sz_pos; have : n * 1 ≤ n * e.sz := Nat.mul_le_mul_left n this; unfold maxLen; omega
        have hrun : (execOp a.eval o).run P w = .ok (.value (.slice (some ⟨w.heap.size, 0, none⟩) n n)) (w.alloc (.cells cs.toArray ET)) := by
          unfold execOp; rw [ho]
          have hf : ∀ z : Array Value, z.size = n * e.sz → Instr.fill (fun i => some (i * e.sz, e.sz)) z (ps.toList.map fun p => (p.1, a.eval p.2)) = some cs.toArray := by
            intro z hzz
            have := h4 z.toList (by rw [hlen]; simp [hzz])
            rw [hlen, List.drop_eq_nil_of_le (by simp [hzz])] at this
            simpa using this
          have hroom' : ¬ (n * e.sz > 2 ^ 24) := by omega
          simp only [Instr.buildSlice, Sem.run_bind, run_underlying hu, Result.andThen_ok, sizeOf, typeInfo, run_program, hie, Sem.run_pure, hsz, if_neg hroom', zeroValue]
          by_cases h0 : n * e.sz = 0
          · simp only [if_pos h0, Sem.run_bind, Sem.run_pure, Result.andThen_ok]
            rw [show (Array.map (fun x => match x with | (i, x) => (i, a.eval x)) ps).toList = ps.toList.map fun p => (p.1, a.eval p.2) by simp]
            rw [hf _ (by simp [h0])]
            simp [newRow]
          · simp only [if_neg h0, Sem.run_bind, Sem.run_pure, Result.andThen_ok, run_program, hie, hz]
            rw [show (Array.map (fun x => match x with | (i, x) => (i, a.eval x)) ps).toList = ps.toList.map fun p => (p.1, a.eval p.2) by simp]
            rw [hf _ (by simp)]
            simp [newRow]
        obtain ⟨g', hI', hrep⟩ := new_row hI (below_alloc w (.cells cs.toArray ET)) (id := rid d 0) (n := n) (cap := n) (cur := cs.toArray) (TT := ET) (Nat.le_refl _) (heap_new w _) h3 (by rw [h2, hlen]) (fun j u hj => by simpa using hj)
          (by simp [h1, h2, hlen]) (Nat.le_refl _) hnm (rid_ne d 0)
        exact ⟨g', _, _, hrun, hI', hrep⟩
      · exact no_ok
    · exact no_ok
  · exact no_ok


theorem madeRow {e : Ty} {n : Nat} : madeCells e.zcells.toArray (n * e.sz) = ((List.replicate n e.zcells).flatten).toArray := by
  have hl := (zero_rep (fun _ _ => True) (default : World) e).len
  have hp := e.sz_pos
  have hz : ∀ (n k : Nat), k < n * e.sz → ((List.replicate n e.zcells).flatten)[k]? = e.zcells[k % e.sz]? := by
    intro n
    induction n with
    | zero => intro k hk; simp at hk
    | succ n ih =>
      intro k hk
      rw [List.replicate_succ, List.flatten_cons]
      by_cases hlt : k < e.sz
      · rw [List.getElem?_append_left (by omega), Nat.mod_eq_of_lt hlt]
      · rw [List.getElem?_append_right (by omega), hl, ih (k - e.sz) (by rw [Nat.add_mul] at hk; omega)]
        congr 1
        exact (Nat.mod_eq_sub_mod (by omega)).symm
  apply Array.ext
  · rw [size_madeCells, List.size_toArray, flat_len]
  · intro i h1 h2
    rw [size_madeCells] at h1
    have hmod : i % e.sz < e.sz := Nat.mod_lt _ hp
    have := hz n i h1
    rw [List.getElem?_eq_getElem (by rw [flat_len]; exact h1), List.getElem?_eq_getElem (by omega)] at this
    simp only [madeCells, Array.getElem_map, Array.getElem_range, List.size_toArray, hl, List.getElem_toArray]
    rw [Option.some.inj this, getElem!_pos e.zcells.toArray (i % e.sz) (by simp; omega)]
    rfl

theorem makeSlice_ok (hE : EnvOk P E) (hI : Inv B ok0 w0 g σ a w) (hd : ∀ d, o.dst = some d → d < a.tmps.size) {T : Nat} {x y : Operand} (ho : o.op = .makeSlice T x y) :
    StepOk P B ok0 w0 (makeSlice' E T o σ x y) o a w := by
  unfold makeSlice'
  split
  · rename_i d e k n g1 j m g2 hdst hT hx hy
    obtain ⟨ET, ie, hu, hie, hsz, hz, _⟩ := (hE.ty T _ hT).und
    obtain ⟨hby, hbp⟩ := hE.by_ T e ET ie hT hu hie
    have hrun : ∀ l c : Int, a.eval x = .int k l → a.eval y = .int j c → 0 ≤ l → l ≤ c → c.toNat * E.by_ T ≤ 140737488355328 →
        (execOp a.eval o).run P w = .ok (.value (.slice (some ⟨w.heap.size, 0, none⟩) l.toNat c.toNat)) (w.alloc (.cells ((List.replicate c.toNat e.zcells).flatten).toArray ET)) ∧ c.toNat ≤ 140737488355328 := by
      intro l c hl hc h0 hlc hroom
      have hcle : c.toNat ≤ 140737488355328 := Nat.le_trans (Nat.le_mul_of_pos_right _ hbp) hroom
      have hbn : (ie.bytes : Int) * c ≤ 281474976710656 := by
        have h1 : ((c.toNat * E.by_ T : Nat) : Int) ≤ ((140737488355328 : Nat) : Int) := Int.ofNat_le.mpr hroom
        rw [Int.natCast_mul, Int.toNat_of_nonneg (by omega), Int.mul_comm] at h1
        rw [hby]
        omega
      have hr := run_make (P := P) w T ET ie (valOf e e.zcells) hu hie hz k j l c h0 hlc hbn (by omega)
      rw [valOf_cells (zero_rep (fun _ _ => True) w e), hsz, madeRow] at hr
      refine ⟨?_, hcle⟩
      unfold execOp; rw [ho]
      simp only [hl, hc, Sem.run_bind, hr, Result.andThen_ok, Sem.run_pure]
    split
    · rename_i hsame
      have hmn : a.eval y = .int j n := by
        have h1 := eval_int hI hx
        have h2 := eval_int hI hy
        have : a.eval x = a.eval y ∨ (∃ i i' q, a.eval x = .int i q ∧ a.eval y = .int i' q) := by
          unfold sameOpd at hsame
          split at hsame
          · rw [Nat.eq_of_beq_eq_true hsame]; exact .inl rfl
          · have := of_decide_eq_true hsame; subst this; exact .inr ⟨_, _, _, rfl, rfl⟩
          · cases hsame
        rcases this with h | ⟨i, i', q, e1, e2⟩
        · rw [h1, h2] at h; cases h; exact h2
        · rw [h1] at e1; rw [h2] at e2; cases e1; cases e2; exact h2
      refine go_ok hd fun hc => ?_
      rw [Bool.and_eq_true] at hc
      have h0 : 0 ≤ n := of_decide_eq_true hc.1
      obtain ⟨hr, hle⟩ := hrun n n (eval_int hI hx) hmn h0 (Int.le_refl _) (of_decide_eq_true hc.2)
      refine ⟨g.setBx d w.heap.size false, _, _, hr, hI.newBox (Nat.lt_of_lt_of_le (hd _ (by assumption)) hI.tm) (below_alloc w _) (Nat.le_refl _) (by simp) (fun ok g' σ' hx => ?_), ?_⟩
      · refine ⟨rfl, _, ET, heap_new w _, ?_, ?_, fun i z hi => ?_⟩
        · rw [List.length_replicate, List.size_toArray, flat_len]; omega
        · rw [List.length_replicate]; unfold maxLen; omega
        · obtain ⟨ys, hy', hcc⟩ := arr_zero (ok := ok) (w := w.alloc (.cells ((List.replicate n.toNat e.zcells).flatten).toArray ET)) n.toNat i z hi
          exact ⟨ys, hy', fun j u hj => by simpa using hcc j u hj⟩
      · exact ⟨by simp [St.newBox, fset_eq], fun _ => ⟨e, List.replicate n.toNat e.zero, false, by simp [St.newBox, fset_eq], .inr ⟨w.heap.size, false, n.toNat, _, ET, by simp [G.setBx, fset_eq], heap_new w _, by rw [List.size_toArray, flat_len], by rw [List.length_replicate]; omega, by unfold maxLen; omega, by rw [List.length_replicate]⟩⟩⟩
    · split
      · rename_i hn0
        subst hn0
        cases hbx : E.bx d with
        | true =>
          dsimp only [cond_true]
          refine go_ok hd fun hc => ?_
          rw [Bool.and_eq_true] at hc
          have h0 : 0 ≤ m := of_decide_eq_true hc.1
          obtain ⟨hr, hle⟩ := hrun 0 m (eval_int hI hx) (eval_int hI hy) (Int.le_refl _) h0 (of_decide_eq_true hc.2)
          refine ⟨g.setBx d w.heap.size false, _, _, hr, hI.newBox (Nat.lt_of_lt_of_le (hd _ (by assumption)) hI.tm) (below_alloc w _) (Nat.le_refl _) (by simp) (fun ok g' σ' hx => ?_), ?_⟩
          · exact ⟨rfl, _, ET, heap_new w _, by simp, by simp, fun i z hi => by simp at hi⟩
          · exact ⟨by simp [St.newBox, fset_eq], fun _ => ⟨e, [], false, by simp [St.newBox, fset_eq], .inr ⟨w.heap.size, false, m.toNat, _, ET, by simp [G.setBx, fset_eq], heap_new w _, by rw [List.size_toArray, flat_len], Nat.zero_le _, by unfold maxLen; omega, rfl⟩⟩⟩
        | false =>
        dsimp only [cond_false]
        refine go_ok hd fun hc => ?_
        rw [Bool.and_eq_true] at hc
        have h0 : 0 ≤ m := of_decide_eq_true hc.1
        obtain ⟨hr, hle⟩ := hrun 0 m (eval_int hI hx) (eval_int hI hy) (Int.le_refl _) h0 (of_decide_eq_true hc.2)
        obtain ⟨g', hI', hrep⟩ := new_row hI (below_alloc w (.cells ((List.replicate m.toNat e.zcells).flatten).toArray ET)) (id := rid d 0) (n := 0) (cap := m.toNat) (TT := ET) (Nat.le_refl _) (heap_new w _) (e := e) (l := []) (cs := [])
          ⟨by simp, fun i x hi => by simp at hi⟩ rfl (fun j u hj => by simp at hj) (by rw [List.size_toArray, flat_len]) (Nat.zero_le _) (by unfold maxLen; omega) (rid_ne d 0)
        exact ⟨g', _, _, hr, hI', hrep⟩
      · exact no_ok
  · exact no_ok

theorem run_storeVar {T : Nat} {u : Ty} (hfit : Fit P T u) {ok : Nat → Nat → Prop} {y : u.D} {ys : List Value} (hy : RepD ok w u y ys) {b off : Nat} {cur : Array Value} {TT : TypeId}
    (hh : w.heap[b]? = some (.cells cur TT (0, 0))) (hle : off + ys.length ≤ cur.size) :
    (storeVar T ⟨b, off, none⟩ (valOf u ys)).run P w = .ok () (w.setRow b (splice cur.toList off ys).toArray) := by
  have h := run_storeCells_at P b off TT ys 0 cur w hh (by omega) hy.one
  simp only [Nat.add_zero] at h
  unfold storeVar
  have hsz : ¬ ys.length ≠ u.sz := by rw [hy.len]; simp
  simp only [valOf_cells hy, Sem.run_bind, hfit.size, Result.andThen_ok, List.size_toArray, if_neg hsz, h]
  rfl

theorem store_ok (hE : EnvOk P E) (hI : Inv B ok0 w0 g σ a w) (hd : ∀ d, o.dst = some d → d < a.tmps.size) {T : Nat} {x y : Operand} (ho : o.op = .store T x y) :
    StepOk P B ok0 w0 (store' E T o σ (opd σ x) (opd σ y)) o a w := by
  have rx := opd_ok hI x
  have hrun : ∀ b o' w', a.eval x = .pointer (some ⟨b, o', none⟩) → (storeVar T ⟨b, o', none⟩ (a.eval y)).run P w = .ok () w' → (execOp a.eval o).run P w = .ok .skip w' := by
    intro b o' w' hx hv
    unfold execOp; rw [ho]
    simp only [hx, Instr.storeAt, Instr.sureAddr, Sem.run_bind, Sem.run_pure, Result.andThen_ok, hv]
  unfold store'
  split
  · rename_i id ver off hx
    rw [hx] at rx
    split
    · rename_i hv
      obtain ⟨b, f, hb, hp⟩ := rx.2 hv
      split
      · rename_i t z gs hc
        obtain ⟨hf', cs, TT, hh, hr, ht⟩ := hI.conB hb hc
        subst hf'
        split
        · rename_i u hu
          split
          · rename_i q hq
            split
            · rename_i z' hz'
              obtain ⟨ys, hyr, hyv, hyt⟩ := as_ok hq (opd_ok hI y)
              obtain ⟨hs, hle⟩ := upd_sound hyr hz' hr
              have hyl := hyr.len
              have hcl := hr.len
              have hst := run_storeVar (hE.ty T u hu) hyr (b := b) (off := off) hh (by simp; omega)
              rw [← hyv] at hst
              refine skip_ok hd ⟨g, _, hrun b off _ hp hst, hI.writeBox hc hb (fun e l fz he => by cases he) (fun cur T hh' => by rw [hh] at hh'; cases hh'; simp only [List.size_toArray]; exact splice_len (by omega)) (fun ok σ' hx' => ?_)⟩
              refine ⟨rfl, splice cs off ys, TT, ?_, hs.mono hx'.cell, ?_⟩
              · rw [setRow_heap w b _ _ _ _ hh]
              · have := gupd_ok (off := off) (ht.ext hx') (hyt.ext hx') (by omega)
                rw [hyl] at this
                exact this
            · exact no_ok
          · exact no_ok
        · exact no_ok
      · rename_i e l hc
        obtain ⟨hf', cur, TT, hh, hsz, hmx, hrow⟩ := hI.conB hb hc
        have hf0 : f = false := hf'
        subst hf0
        split
        · rename_i m e' hT
          split
          · rename_i h0
            subst h0
            split
            · rename_i q hq
              split
              · rename_i q' hq'
                obtain ⟨ee, hx'⟩ := cast_some hq'
                have ee2 : e' = e := by cases ee; rfl
                subst ee2
                have hx'' : q = q' := hx'
                subst hx''
                obtain ⟨ys, hyr, hyv, _⟩ := as_ok hq (opd_ok hI y)
                have hyl := hyr.len
                have hyr' := hyr
                obtain ⟨r1, r2, r3⟩ := hyr
                intro next Q hck hn
                have hlm : List.length (α := e'.D) l = m + 1 := of_decide_eq_true hck
                rw [hlm] at hsz
                have hfit : 0 + ys.length ≤ cur.size := by rw [r2]; omega
                have hst := run_storeVar (hE.ty T _ hT) hyr' (b := b) (off := 0) hh hfit
                rw [← hyv] at hst
                have hstep : StepOk P B ok0 w0 (.go true ((σ.setBox id (.arr e' q false)).setT o.dst .none)) o a w := skip_ok hd ⟨g, _, hrun b 0 _ hp hst, hI.writeBox hc hb (fun e'' l'' fz he => by cases he; exact ⟨q, false, rfl, by omega⟩)
                    (fun cur' T' hh' => by rw [hh] at hh'; cases hh'; rw [List.size_toArray, splice_len (by rw [Array.length_toList]; exact hfit), Array.length_toList]) (fun ok σ' hx' => by
                  refine ⟨rfl, _, TT, setRow_heap w b _ _ _ _ hh, by rw [r1, List.size_toArray, splice_len (by rw [Array.length_toList]; exact hfit), Array.length_toList]; omega, by omega, fun i x hi => ⟨_, (r3 i x hi).mono hx'.cell, fun j u hj => ?_⟩⟩
                  rw [List.getElem?_take] at hj
                  split at hj
                  · rw [List.getElem?_drop] at hj
                    have hlt := (List.getElem?_eq_some_iff.1 hj).1
                    rw [List.getElem?_toArray]
                    unfold splice
                    rw [List.take_zero, List.nil_append, List.getElem?_append_left hlt]
                    exact hj
                  · cases hj)⟩
                exact hstep next Q rfl hn
              · exact no_ok
            · exact no_ok
          · exact no_ok
        · exact no_ok
      · exact no_ok
    · exact no_ok
  · rename_i id ver i off hx
    rw [hx] at rx
    split
    · rename_i hv
      split
      · rename_i e l hc
        obtain ⟨b, f, e2, l2, fz2, hb, hc2, hi, hp⟩ := rx.2 hv
        rw [hc] at hc2; cases hc2
        obtain ⟨hf', cur, TT, hh, hsz, hmx, hrow⟩ := hI.conB hb hc
        have hf0 : f = false := hf'
        subst hf0
        split
        · rename_i u hu
          split
          · rename_i q hq
            split
            · rename_i z' hz'
              obtain ⟨ys, hyr, hyv, hyt⟩ := as_ok hq (opd_ok hI y)
              have hli : l[i]? = some (l.getD i e.zero) := by rw [List.getD_eq_getElem?_getD, List.getElem?_eq_getElem hi]; rfl
              obtain ⟨zs, hzr, hzc⟩ := hrow i _ hli
              obtain ⟨hs, hle⟩ := upd_sound hyr hz' hzr
              have hyl := hyr.len
              have hzl := hzr.len
              have hile : i * e.sz + e.sz ≤ cur.size := by rw [← Nat.succ_mul]; exact Nat.le_trans (Nat.mul_le_mul_right _ hi) hsz
              have hst := run_storeVar (hE.ty T u hu) hyr (b := b) (off := i * e.sz + off) hh (by omega)
              rw [← hyv] at hst
              refine skip_ok hd ⟨g, _, hrun b _ _ hp hst, hI.writeBox hc hb (fun e' l' fz he => by cases he; exact ⟨_, false, rfl, by simp⟩) (fun cur' T' hh' => by rw [hh] at hh'; cases hh'; rw [List.size_toArray, splice_len (by simp; omega), Array.length_toList]) (fun ok σ' hx' => ?_)⟩
              refine ⟨rfl, _, TT, setRow_heap w b _ _ _ _ hh, ?_, by simpa using hmx, fun k x hk => ?_⟩
              · rw [List.size_toArray, splice_len (by simp; omega), List.length_set]; simpa using hsz
              · by_cases hki : k = i
                · subst hki
                  rw [List.getElem?_set_self hi] at hk
                  cases hk
                  refine ⟨_, hs.mono hx'.cell, fun j v hj => ?_⟩
                  -- inside the element that was written
                  have hjl : j < e.sz := by have := (List.getElem?_eq_some_iff.1 hj).1; rw [splice_len (by omega), hzl] at this; exact this
                  rw [List.getElem?_toArray]
                  unfold splice at hj ⊢
                  by_cases h1 : j < off
                  · rw [List.append_assoc, List.getElem?_append_left (by rw [List.length_take]; simp; omega), List.getElem?_take, if_pos (by omega)]
                    rw [List.append_assoc, List.getElem?_append_left (by rw [List.length_take]; omega), List.getElem?_take, if_pos h1] at hj
                    have := hzc _ _ hj
                    simpa using this
                  · by_cases h2 : j < off + ys.length
                    · rw [List.append_assoc, List.getElem?_append_right (by rw [List.length_take]; simp; omega), List.getElem?_append_left (by rw [List.length_take]; simp; omega)]
                      rw [List.append_assoc, List.getElem?_append_right (by rw [List.length_take]; omega), List.getElem?_append_left (by rw [List.length_take]; omega)] at hj
                      rw [← hj]
                      congr 1
                      rw [List.length_take, List.length_take]
                      simp
                      omega
                    · rw [List.getElem?_append_right (by rw [List.length_append, List.length_take]; simp; omega), List.getElem?_drop]
                      rw [List.getElem?_append_right (by rw [List.length_append, List.length_take]; omega), List.getElem?_drop] at hj
                      have := hzc _ _ hj
                      rw [show off + ys.length + (j - (List.take off zs ++ ys).length) = j by rw [List.length_append, List.length_take]; omega] at this
                      rw [show k * e.sz + off + ys.length + (k * e.sz + j - (List.take (k * e.sz + off) cur.toList ++ ys).length) = k * e.sz + j by rw [List.length_append, List.length_take]; simp; omega]
                      simpa using this
                · rw [List.getElem?_set_ne (Ne.symm hki)] at hk
                  obtain ⟨ks, hkr, hkc⟩ := hrow k x hk
                  refine ⟨ks, hkr.mono hx'.cell, fun j v hj => ?_⟩
                  have hjl : j < e.sz := by have := (List.getElem?_eq_some_iff.1 hj).1; rw [hkr.len] at this; exact this
                  have := hkc j v hj
                  rw [List.getElem?_toArray]
                  unfold splice
                  have hcase : k * e.sz + j < i * e.sz + off ∨ i * e.sz + off + ys.length ≤ k * e.sz + j := by
                    rcases Nat.lt_or_gt_of_ne hki with hlt | hgt
                    · left
                      have : (k + 1) * e.sz ≤ i * e.sz := Nat.mul_le_mul_right _ hlt
                      rw [Nat.add_mul] at this
                      omega
                    · right
                      have : (i + 1) * e.sz ≤ k * e.sz := Nat.mul_le_mul_right _ hgt
                      rw [Nat.add_mul] at this
                      omega
                  rcases hcase with hlt | hge
                  · rw [List.append_assoc, List.getElem?_append_left (by rw [List.length_take]; simp; omega), List.getElem?_take, if_pos hlt]
                    simpa using this
                  · rw [List.getElem?_append_right (by rw [List.length_append, List.length_take]; simp; omega), List.getElem?_drop]
                    rw [show i * e.sz + off + ys.length + (k * e.sz + j - (List.take (i * e.sz + off) cur.toList ++ ys).length) = k * e.sz + j by rw [List.length_append, List.length_take]; simp; omega]
                    simpa using this
            · exact no_ok
          · exact no_ok
        · exact no_ok
      · exact no_ok
    · exact no_ok
  · exact no_ok

end
end Go.AM
