/- Operations that read memory: loads, slices, conversions. -/
import Derived.Test.YtkfffcnililmkaaDoorAmOps
import Derived.Laws.BytesString
namespace Go.AM
open Go.RowKit (Below)
set_option linter.unusedSectionVars false
variable [Lay]
section
variable {P : Program} {B : Bd} {ok0 : Nat → Nat → Prop} {w0 w : World} {g : G} {σ : St} {a : Act} {o : Oper} {E : Env}

/-- A list's elements, cell behind cell. -/
def RowsOf (ok : Nat → Nat → Prop) (w : World) (e : Ty) (l : List e.D) (cs : List Value) : Prop :=
  cs.length = l.length * e.sz ∧ ∀ (i : Nat) (x : e.D), l[i]? = some x → ∃ ys, RepD ok w e x ys ∧ ∀ j u, ys[j]? = some u → cs[i * e.sz + j]? = some u

theorem rows_of_cells {ok : Nat → Nat → Prop} {e : Ty} {c : Nat → Option Value} : ∀ {l : List e.D} {base : Nat},
    (∀ (i : Nat) (x : e.D), l[i]? = some x → ∃ ys, RepD ok w e x ys ∧ ∀ j u, ys[j]? = some u → c (base + (i * e.sz + j)) = some u) →
    ∃ cs, RowsOf ok w e l cs ∧ (∀ j u, cs[j]? = some u → c (base + j) = some u) ∧ ∀ u ∈ cs, u.oneCell' = true
  | [], base, _ => ⟨[], ⟨by simp, fun i x h => by simp at h⟩, fun j u h => by simp at h, fun u h => by cases h⟩
  | x :: l, base, h => by
    obtain ⟨ys, hy, hc⟩ := h 0 x rfl
    obtain ⟨cs, ⟨hl, hr⟩, h2, h3⟩ := rows_of_cells (l := l) (base := base + e.sz) (fun i z hi => by
      obtain ⟨zs, hz, hzc⟩ := h (i + 1) z (by simpa using hi)
      exact ⟨zs, hz, fun j u hj => by have := hzc j u hj; rw [show base + e.sz + (i * e.sz + j) = base + ((i + 1) * e.sz + j) by rw [Nat.add_mul]; omega]; exact this⟩)
    have hyl := hy.len
    refine ⟨ys ++ cs, ⟨by rw [List.length_append, hyl, hl, List.length_cons, Nat.add_mul]; omega, fun i z hi => ?_⟩, fun j u hj => ?_, fun u hu => ?_⟩
    · cases i with
      | zero =>
        simp only [List.getElem?_cons_zero, Option.some.injEq] at hi
        subst hi
        refine ⟨ys, hy, fun j u hj => ?_⟩
        have := (List.getElem?_eq_some_iff.1 hj).1
        rw [Nat.zero_mul, Nat.zero_add, List.getElem?_append_left (by omega)]
        exact hj
      | succ i =>
        obtain ⟨zs, hz, hzc⟩ := hr i z (by simpa using hi)
        refine ⟨zs, hz, fun j u hj => ?_⟩
        rw [List.getElem?_append_right (by rw [Nat.add_mul]; omega), show (i + 1) * e.sz + j - ys.length = i * e.sz + j by rw [Nat.add_mul]; omega]
        exact hzc j u hj
    · by_cases hlt : j < ys.length
      · rw [List.getElem?_append_left hlt] at hj
        have := hc j u hj
        rw [Nat.zero_mul, Nat.zero_add] at this
        exact this
      · rw [List.getElem?_append_right (by omega)] at hj
        have := h2 _ _ hj
        rw [show base + e.sz + (j - ys.length) = base + j by omega] at this
        exact this
    · rcases List.mem_append.1 hu with hu | hu
      · exact hy.one u hu
      · exact h3 u hu

theorem getElem?_take_drop {α : Type} {l : List α} {lo n i : Nat} {x : α} (h : ((l.drop lo).take n)[i]? = some x) : i < n ∧ l[lo + i]? = some x := by
  rw [List.getElem?_take] at h
  split at h
  · rw [List.getElem?_drop] at h; exact ⟨by assumption, h⟩
  · cases h

/-- What a slice holds, wherever it lies. -/
theorem content_ok (hI : Inv B ok0 w0 g σ a w) {e : Ty} {av : AV} {v : Value} {l : List e.D} (h : content σ e av = some l) (hr : RepA (okG B ok0 g w) g σ w av v) :
    ∃ p n cap, v = .slice p n cap ∧ l.length = n ∧ n ≤ cap ∧ cap ≤ maxLen ∧ ∀ (i : Nat) (x : e.D), l[i]? = some x → ∃ A : Addr, p = some A ∧ A.spot = none ∧
      ∃ ys, RepD (okG B ok0 g w) w e x ys ∧ ∀ j u, ys[j]? = some u → w.cell? ⟨A.block, A.off + (i * e.sz + j), none⟩ = some u := by
  unfold content at h
  split at h
  · rename_i t x gs
    obtain ⟨ht, hx⟩ := cast_some h
    subst ht
    have hx' : x = l := hx
    subst hx'
    obtain ⟨p, n, cap, hv, hrep, hl, hn, hm, _⟩ := of_sl hr
    subst hv
    obtain ⟨p', n', cap', hv', _, _, _, hc⟩ := hrep
    cases hv'
    refine ⟨p, n, cap, rfl, hl, hn, hm, fun i x hi => ?_⟩
    obtain ⟨A, hA, hs, ys, hy, hyc⟩ := hc i x hi
    exact ⟨A, hA, hs, ys, hy, fun j u hj => (hyc j u hj).2⟩
  · have hl := Option.some.inj h
    subst hl
    exact ⟨none, 0, 0, hr, rfl, Nat.le_refl _, Nat.zero_le _, fun i x hi => by simp at hi⟩
  · rename_i id ver
    split at h
    · rename_i hv
      split at h
      · rename_i e' l' fz hc
        obtain ⟨ht, hx⟩ := cast_some h
        cases ht
        have hx' : l' = l := hx
        subst hx'
        obtain ⟨e2, l2, fz2, hc2, hsw⟩ := hr.2 hv
        rw [hc] at hc2
        cases hc2
        obtain ⟨p, cap, hp, hcap, hmx2, hA, _⟩ := hsw.form
        refine ⟨_, _, _, hp, rfl, hcap, hmx2, fun i x hi => ?_⟩
        obtain ⟨b, f, hb, hA'⟩ := hA (by have := (List.getElem?_eq_some_iff.1 hi).1; omega)
        subst hA'
        obtain ⟨hf', cur, T, hh, hsz, hmx, hrow⟩ := hI.conB hb hc
        obtain ⟨ys, hy, hyc⟩ := hrow i x hi
        refine ⟨_, rfl, rfl, ys, hy, fun j u hj => ?_⟩
        simp only [World.cell?, hh, Nat.zero_add]
        exact hyc j u hj
      · cases h
    · cases h
  · rename_i id ver lo n
    split at h
    · rename_i hv
      split at h
      · rename_i e' l' fz hc
        obtain ⟨ht, hx⟩ := cast_some h
        cases ht
        have hx' : (l'.drop lo).take n = l := hx
        subst hx'
        obtain ⟨e2, l2, fz2, A, cap, hc2, hlo, hcap, hmx2, hA, hAs, hp⟩ := hr.2 hv
        rw [hc] at hc2
        cases hc2
        refine ⟨A, n, cap, hp, by rw [List.length_take, List.length_drop]; omega, hcap, hmx2, fun i x hi => ?_⟩
        obtain ⟨hin, hi'⟩ := getElem?_take_drop hi
        obtain ⟨b, f, hb, hA'⟩ := hA (by omega)
        obtain ⟨hf', cur, T, hh, hsz, hmx, hrow⟩ := hI.conB hb hc
        obtain ⟨ys, hy, hyc⟩ := hrow _ x hi'
        refine ⟨_, hA', rfl, ys, hy, fun j u hj => ?_⟩
        simp only [World.cell?, hh]
        rw [show lo * e.sz + (i * e.sz + j) = (lo + i) * e.sz + j by rw [Nat.add_mul]; omega]
        exact hyc j u hj
      · cases h
    · cases h
  · cases h

/-- The same, cell behind cell. -/
theorem content_rows (hI : Inv B ok0 w0 g σ a w) {e : Ty} {av : AV} {v : Value} {l : List e.D} (h : content σ e av = some l) (hr : RepA (okG B ok0 g w) g σ w av v) :
    ∃ p n cap cs, v = .slice p n cap ∧ l.length = n ∧ n ≤ cap ∧ cap ≤ maxLen ∧ RowsOf (okG B ok0 g w) w e l cs ∧ (∀ u ∈ cs, u.oneCell' = true) ∧
      (n = 0 ∨ ∃ A : Addr, p = some A ∧ A.spot = none ∧ ∀ j u, cs[j]? = some u → w.cell? ⟨A.block, A.off + j, none⟩ = some u) := by
  obtain ⟨p, n, cap, hv, hl, hn, hm, hc⟩ := content_ok hI h hr
  cases hlz : l with
  | nil => exact ⟨p, n, cap, [], hv, by rw [hlz] at hl; exact hl, hn, hm, ⟨by simp, fun i x hi => by simp at hi⟩, (fun u hu => by cases hu), .inl (by rw [hlz] at hl; exact hl.symm)⟩
  | cons x0 l0 =>
    obtain ⟨A, hA, hs, _⟩ := hc 0 x0 (by rw [hlz]; rfl)
    obtain ⟨cs, h1, h2, h3⟩ := rows_of_cells (ok := okG B ok0 g w) (w := w) (e := e) (c := fun k => w.cell? ⟨A.block, k, none⟩) (l := l) (base := A.off) (fun i x hi => by
      obtain ⟨A', hA', _, ys, hy, hyc⟩ := hc i x hi
      rw [hA] at hA'; cases hA'
      exact ⟨ys, hy, hyc⟩)
    rw [hlz] at hl h1
    exact ⟨p, n, cap, cs, hv, hl, hn, hm, h1, h3, .inr ⟨A, hA, hs, h2⟩⟩

theorem load_ok (hE : EnvOk P E) (hI : Inv B ok0 w0 g σ a w) (hd : ∀ d, o.dst = some d → d < a.tmps.size) {T : Nat} {x : Operand} (ho : o.op = .load T x) :
    StepOk P B ok0 w0 (load' E T o σ (opd σ x)) o a w := by
  have rx := opd_ok hI x
  have hrun : ∀ b o' v, a.eval x = .pointer (some ⟨b, o', none⟩) → (loadVar T ⟨b, o', none⟩).run P w = .ok v w → (execOp a.eval o).run P w = .ok (.value v) w := by
    intro b o' v hx hv
    unfold execOp; rw [ho]
    simp only [hx, Instr.loadAt, Instr.sureAddr, Sem.run_bind, Sem.run_pure, Result.andThen_ok, hv]
  unfold load'
  split
  · rename_i id ver off hx
    rw [hx] at rx
    split
    · rename_i hv
      obtain ⟨b, f, hb, hp⟩ := rx.2 hv
      split
      · rename_i t z gs hc
        obtain ⟨hf', cs, TT, hh, hr, ht⟩ := hI.conB hb hc
        split
        · rename_i u hu
          split
          · rename_i y hy
            obtain ⟨hs, hbd⟩ := sub_sound hy hr
            have hl := (hE.ty T u hu).load (b := b) (o := off) hs (fun j v hj => by
              rw [List.getElem?_take] at hj
              split at hj
              · rw [List.getElem?_drop] at hj
                simp only [World.cell?, hh]
                simpa using hj
              · cases hj)
            exact put_ok hI hd (hrun b off _ hp hl) ⟨_, hs, rfl, gsub_ok ht⟩
          · exact no_ok
        · exact no_ok
      · rename_i e l fz hc
        obtain ⟨hf', cur, TT, hh, hsz, hmx, hrow⟩ := hI.conB hb hc
        have one : StepOk P B ok0 w0 (loadOne E T o σ e l off) o a w := by
          unfold loadOne
          split
          · rename_i z
            split
            · rename_i u hu
              split
              · rename_i y hy
                obtain ⟨ys, hr, hcur⟩ := hrow 0 z rfl
                obtain ⟨hs, hbd⟩ := sub_sound hy hr
                have hl := (hE.ty T u hu).load (b := b) (o := off) hs (fun j v hj => by
                  rw [List.getElem?_take] at hj
                  split at hj
                  · rw [List.getElem?_drop] at hj
                    simp only [World.cell?, hh]
                    simpa using hcur (off + j) v hj
                  · cases hj)
                exact put_ok hI hd (hrun b off _ hp hl) (rep_dat hs)
              · exact no_ok
            · exact no_ok
          · exact no_ok
        split
        · rename_i m e' hT
          split
          · rename_i h0
            obtain ⟨rfl, rfl⟩ := h0
            unfold loadArr
            split
            · rename_i l' hl'
              obtain ⟨_, hx'⟩ := cast_some hl'
              have hx'' : l = l' := hx'
              subst hx''
              refine chk_ok hI hd fun hck => ?_
              have hlen : List.length (α := e'.D) l = m + 1 := of_decide_eq_true hck
              obtain ⟨cs, hrows, hcs, _⟩ := rows_of_cells (ok := okG B ok0 g w) (w := w) (e := e') (c := fun k => cur[k]?) (l := l) (base := 0) (fun i x hi => by
                obtain ⟨ys, hy, hyc⟩ := hrow i x hi
                exact ⟨ys, hy, fun j u hj => by rw [Nat.zero_add]; exact hyc j u hj⟩)
              have hrep : RepD (okG B ok0 g w) w (.arr m e') l cs := by
                refine ⟨hlen, by rw [hrows.1, hlen], fun i x hi => ?_⟩
                obtain ⟨ys, hy, hyc⟩ := hrows.2 i x hi
                have hyl := hy.len
                have : (cs.drop (i * e'.sz)).take e'.sz = ys := by
                  apply List.ext_getElem?
                  intro j
                  rw [List.getElem?_take]
                  split
                  · rename_i hj
                    rw [List.getElem?_drop, List.getElem?_eq_getElem (show j < ys.length by omega)]
                    exact hyc j _ (List.getElem?_eq_getElem (by omega))
                  · rw [List.getElem?_eq_none (by omega)]
                rw [this]
                exact hy
              refine ⟨_, hrun b 0 _ hp ((hE.ty T _ hT).load (b := b) (o := 0) hrep (fun j v hj => ?_)), ⟨cs, hrep, rfl, fun t ht => by cases ht⟩⟩
              have := hcs j v hj
              simp only [World.cell?, hh]
              simpa using this
            · exact no_ok
          · exact one
        · exact one
      · exact no_ok
    · exact no_ok
  · rename_i id ver i off hx
    rw [hx] at rx
    split
    · rename_i hv
      split
      · rename_i e l fz hc
        obtain ⟨b, f, e2, l2, fz2, hb, hc2, hi, hp⟩ := rx.2 hv
        rw [hc] at hc2; cases hc2
        obtain ⟨hf', cur, TT, hh, hsz, hmx, hrow⟩ := hI.conB hb hc
        split
        · rename_i u hu
          split
          · rename_i y hy
            have hli : l[i]? = some (l.getD i e.zero) := by rw [List.getD_eq_getElem?_getD, List.getElem?_eq_getElem hi]; rfl
            obtain ⟨ys, hyr, hyc⟩ := hrow i _ hli
            obtain ⟨hs, hbd⟩ := sub_sound hy hyr
            have hl := (hE.ty T u hu).load (b := b) (o := i * e.sz + off) hs (fun j v hj => by
              rw [List.getElem?_take] at hj
              split at hj
              · rw [List.getElem?_drop] at hj
                simp only [World.cell?, hh]
                have := hyc _ _ hj
                rw [← Nat.add_assoc] at this
                simpa using this
              · cases hj)
            exact put_ok hI hd (hrun b _ _ hp hl) (rep_dat hs)
          · exact no_ok
        · exact no_ok
      · exact no_ok
    · exact no_ok
  · rename_i t z off hx
    rw [hx] at rx
    obtain ⟨b, o', ys, hp, hr, hc⟩ := rx
    split
    · rename_i u hu
      split
      · rename_i y hy
        obtain ⟨hs, hbd⟩ := sub_sound hy hr
        have hl := (hE.ty T u hu).load (b := b) (o := o' + off) hs (fun j v hj => by
          rw [List.getElem?_take] at hj
          split at hj
          · rw [List.getElem?_drop] at hj
            have := (hc _ _ hj).2
            rw [← Nat.add_assoc] at this
            exact this
          · cases hj)
        exact put_ok hI hd (hrun b _ _ hp hl) (rep_dat hs)
      · exact no_ok
    · exact no_ok
  · exact no_ok


theorem foldl_bytes : ∀ (l : List Int) (r : ByteArray), l.foldl (fun r n => r.push (UInt8.ofNat n.toNat)) r = ⟨r.data ++ (l.map fun n => UInt8.ofNat n.toNat).toArray⟩
  | [], r => by simp
  | n :: l, r => by
    rw [List.foldl_cons, foldl_bytes l]
    simp [ByteArray.push]

/-- Lists of whole numbers, cell by cell. -/
theorem rows_ints {ok : Nat → Nat → Prop} {k : IntKind} : ∀ {l : List Int} {cs : List Value}, RowsOf ok w (.int k) l cs → cs = l.map (Value.int k) := by
  intro l cs h
  obtain ⟨hl, hr⟩ := h
  apply List.ext_getElem?
  intro i
  by_cases hi : i < l.length
  · obtain ⟨ys, hy, hyc⟩ := hr i l[i] (List.getElem?_eq_getElem hi)
    simp only [RepD] at hy
    subst hy
    have := hyc 0 _ rfl
    simp only [Ty.sz, Nat.mul_one, Nat.add_zero] at this
    rw [this, List.getElem?_map, List.getElem?_eq_getElem hi]
    rfl
  · simp only [Ty.sz, Nat.mul_one] at hl
    rw [List.getElem?_eq_none (by omega), List.getElem?_eq_none (by rw [List.length_map]; omega)]

theorem convert_ok (hE : EnvOk P E) (hI : Inv B ok0 w0 g σ a w) (hd : ∀ d, o.dst = some d → d < a.tmps.size) {src dst : Nat} {x : Operand} (ho : o.op = .convert src dst x)
    (hs : ¬ (E.ty src = some .str ∧ E.ty dst = some (.sl (.int .u8)))) :
    StepOk P B ok0 w0 (convert' E src dst o σ (opd σ x)) o a w := by
  have hrun : ∀ v, (convert src dst (a.eval x)).run P w = .ok v w → (execOp a.eval o).run P w = .ok (.value v) w := by
    intro v hv
    unfold execOp; rw [ho]
    simp only [Sem.run_bind, hv, Result.andThen_ok, Sem.run_pure]
  unfold convert'
  split
  · rename_i j k hsrc hdst
    have u1 : P.underlying src = some (.int j) := (hE.ty _ _ hsrc).und
    have u2 : P.underlying dst = some (.int k) := (hE.ty _ _ hdst).und
    split
    · rename_i n gs hx
      refine put_ok hI hd (hrun _ ?_) (rep_int _ _)
      rw [eval_int hI hx]
      simp [convert, run_underlying u1, run_underlying u2, Conv.intToInt]
    · exact no_ok
  · rename_i hsrc hdst
    have u1 : P.underlying src = some .string := (hE.ty _ _ hsrc).und
    have u2 : P.underlying dst = some .string := (hE.ty _ _ hdst).und
    split
    · rename_i s gs hx
      refine put_ok hI hd (hrun _ ?_) (rep_str _)
      rw [eval_str hI hx]
      simp [convert, run_underlying u1, run_underlying u2]
    · exact no_ok
  · rename_i hsrc hdst
    obtain ⟨ET, ie, u1, hie, hsz, hz, hk, _⟩ := (hE.ty _ _ hsrc).und
    have u2 : P.underlying dst = some .string := (hE.ty _ _ hdst).und
    have u3 := hk .u8 rfl
    split
    · rename_i l hl
      obtain ⟨p, n, cap, cs, hv, hln, _, _, hrow, _, hcell⟩ := content_rows hI hl (opd_ok hI x)
      have hcs := rows_ints hrow
      refine put_ok hI hd (hrun _ ?_) (rep_str _)
      rw [hv, run_convert_bytes_string w src dst ET p n cap u1 u3 u2]
      cases p with
      | none =>
        have hn0 : n = 0 := by
          rcases hcell with h | ⟨A, hA, _⟩
          · exact h
          · cases hA
        subst hn0
        have : l = [] := List.eq_nil_of_length_eq_zero hln
        subst this
        simp [Conv.bytesToString, ofBytes]
        rfl
      | some A =>
        have hlc : (loadCells A n).run P w = .ok (l.map (Value.int .u8)).toArray w := by
          rw [← hcs]
          have hcl : cs.length = n := by rw [hcs, List.length_map]; exact hln
          rw [← hcl]
          refine run_loadCells_list (P := P) w A cs fun j u hj => ?_
          rcases hcell with h | ⟨A', hA, hs', hc'⟩
          · have := (List.getElem?_eq_some_iff.1 hj).1; omega
          · cases hA; rw [add_at A hs']; exact hc' j u hj
        rw [run_bytesToString w A n cap l hlc, foldl_bytes]
        simp [ofBytes]
    · exact no_ok
  · rename_i h1 h2; exact absurd ⟨h1, h2⟩ hs
  · exact no_ok

/-! Cuts. -/
/-- A bound as it is given: the number, and what it stands for. -/
def bval (d : Int) : Option Value → Option Int
  | none => some d
  | some (.int _ n) => some n
  | _ => none

theorem bnd_ok (hI : Inv B ok0 w0 g σ a w) {d n : Int} {x : Option Operand} (h : bnd σ d x = some n) : bval d (x.map a.eval) = some n := by
  cases x with
  | none => exact h
  | some x =>
    unfold bnd at h
    simp only at h
    split at h
    · rename_i k m gs hx
      have := eval_int hI hx
      simp only [Option.map_some, this, bval]
      exact h
    · cases h

theorem run_bounds {isSlice : Bool} {len cap : Nat} {lo hi : Option Value} {l h : Int} (hl : bval 0 lo = some l) (hh : bval len hi = some h) (hlc : len ≤ cap) (hc : inC l h len = true) :
    (Instr.sliceBounds isSlice len cap lo hi none).run P w = .ok (l.toNat, h.toNat, cap) w := by
  obtain ⟨h0, h1, h2⟩ := inC_of hc
  have hb : ∀ (k : IntKind) (i : Int) (y : Nat) (code : BoundsCode), 0 ≤ i → i ≤ y → (Instr.sliceBound (.int k i) y code).run P w = .ok i.toNat w := by
    intro k i y code h3 h4
    have : 0 ≤ i ∧ i ≤ (y : Int) := ⟨h3, h4⟩
    simp [Instr.sliceBound, asIntOf, this]
  unfold Instr.sliceBounds
  cases hi with
  | none =>
    simp only [bval, Option.some.injEq] at hh
    subst hh
    cases lo with
    | none =>
      simp only [bval, Option.some.injEq] at hl
      subst hl
      simp
    | some lv =>
      cases lv <;> simp only [bval] at hl <;> first | cases hl | skip
      simp [hb _ l len _ h0 h1]
  | some hv =>
    cases hv <;> simp only [bval] at hh <;> first | cases hh | skip
    cases lo with
    | none =>
      simp only [bval, Option.some.injEq] at hl
      subst hl
      simp [hb _ h cap _ h1 (by omega)]
    | some lv =>
      cases lv <;> simp only [bval] at hl <;> first | cases hl | skip
      simp [hb _ h cap _ (by omega) (by omega), hb _ l h.toNat _ h0 (by omega)]


theorem run_slice_sl {T ET : Nat} {ie : TypeInfo} (hu : P.underlying T = some (.slice ET)) (hi : P.info? ET = some ie) {p : Option Addr} {n cap : Nat} {lo hi' : Option Value} {l h : Int}
    (hl : bval 0 lo = some l) (hh : bval n hi' = some h) (hn : n ≤ cap) (hc : inC l h n = true) :
    (Instr.sliceAt T (.slice p n cap) lo hi' none).run P w = .ok (.slice (if cap = l.toNat then p else p.map (·.add (l.toNat * ie.size))) (h.toNat - l.toNat) (cap - l.toNat)) w := by
  simp [Instr.sliceAt, Instr.slice, run_underlying hu, run_bounds hl hh hn hc, sizeOf, typeInfo, hi]

/-- A cut of a slice that is read. -/
theorem cut_rep {ok : Nat → Nat → Prop} {e : Ty} {s : List e.D} {p : Option Addr} {n cap lo hi : Nat} (hr : RepD ok w (.sl e) s [.slice p n cap]) (h1 : lo ≤ hi) (h2 : hi ≤ n) :
    RepD ok w (.sl e) ((s.take hi).drop lo) [.slice (if cap = lo then p else p.map (·.add (lo * e.sz))) (hi - lo) (cap - lo)] := by
  obtain ⟨p', n', cap', hv, hl, hn, hm, hc⟩ := hr
  cases hv
  refine ⟨_, _, _, rfl, by rw [List.length_drop, List.length_take]; omega, by omega, by omega, fun i x hi' => ?_⟩
  rw [List.getElem?_drop, List.getElem?_take] at hi'
  split at hi'
  · rename_i hlt
    obtain ⟨A, hA, hs, ys, hy, hyc⟩ := hc _ x hi'
    subst hA
    refine ⟨⟨A.block, A.off + lo * e.sz, none⟩, by rw [if_neg (by omega)]; simp [add_at A hs], rfl, ys, hy, fun j u hj => ?_⟩
    have := hyc j u hj
    simp only
    rw [show A.off + lo * e.sz + (i * e.sz + j) = A.off + ((lo + i) * e.sz + j) by rw [Nat.add_mul]; omega]
    exact this
  · cases hi'

theorem slice_ok (hE : EnvOk P E) (hI : Inv B ok0 w0 g σ a w) (hd : ∀ d, o.dst = some d → d < a.tmps.size) {T : Nat} {x : Operand} {lo hi : Option Operand} (ho : o.op = .slice T x lo hi none) :
    StepOk P B ok0 w0 (slice' E T o σ (opd σ x) lo hi) o a w := by
  have hrun : ∀ u v, a.eval x = u → (Instr.sliceAt T u (lo.map a.eval) (hi.map a.eval) none).run P w = .ok v w → (execOp a.eval o).run P w = .ok (.value v) w := by
    intro u v hu hv
    unfold execOp; rw [ho]
    subst hu
    simp only [Option.map_none, Sem.run_bind, hv, Result.andThen_ok, Sem.run_pure]
  have rx := opd_ok hI x
  unfold slice'
  split
  · rename_i t y gs hx
    rw [hx] at rx
    split
    · rename_i s hT
      have hu : P.underlying T = some .string := (hE.ty _ _ hT).und
      split
      · rename_i l h hl hh
        refine chk_ok hI hd fun hc => ⟨_, hrun _ _ (of_str rx) ?_, rep_str _⟩
        have hb := run_bounds (P := P) (w := w) (isSlice := false) (cap := s.size) (bnd_ok hI hl) (bnd_ok hI hh) (Nat.le_refl _) hc
        simp [Instr.sliceAt, Instr.slice, run_underlying hu, hb, cutS]
      · exact no_ok
    · rename_i e s e' hT
      obtain ⟨ET, ie, hu, hie, hsz, _⟩ := (hE.ty _ _ hT).und
      split
      · rename_i hes
        obtain ⟨p, n, cap, hv, hr, hln, hn, hm, ht⟩ := of_sl rx
        rw [hv] at hr ht
        have go : ∀ (l h : Int) (z : List e.D), bnd σ 0 lo = some l → bnd σ (n : Int) hi = some h → inC l h (n : Int) = true → z = (s.take h.toNat).drop l.toNat →
            ∃ v, (execOp a.eval o).run P w = .ok (.value v) w ∧ RepA (okG B ok0 g w) g σ w (.dat (.sl e) z []) v := by
          intro l h z hl hh hc hz
          obtain ⟨c0, c1, c2⟩ := inC_of hc
          refine ⟨_, hrun _ _ hv (run_slice_sl hu hie (bnd_ok hI hl) (bnd_ok hI hh) hn hc), ?_⟩
          rw [hsz, ← hes, hz]
          exact rep_dat (t := .sl e) (cut_rep hr (by omega) (by omega))
        split
        · -- the whole: nothing is cut off
          rename_i _ _
          have hr' := run_slice_sl (P := P) (w := w) (T := T) hu hie (p := p) (n := n) (cap := cap) (lo := none) (hi' := none) (l := 0) (h := n) rfl rfl hn
            (by unfold inC; simp)
          refine put_ok hI hd (v := .slice p n cap) (hrun _ _ hv ?_) ⟨_, hr, rfl, ht⟩
          rw [show (Option.map a.eval none : Option Value) = none from rfl, hr']
          cases p with
          | none => simp
          | some A => simp [Addr.add]
        · rename_i lo1
          split
          · rename_i l hl
            refine chk_ok hI hd fun hc => go l (n : Int) _ hl rfl (by unfold lenL at hc; rw [hln] at hc; obtain ⟨c0, c1, c2⟩ := inC_of hc; unfold inC; simp; omega) ?_
            rw [show ((n : Int)).toNat = n from rfl, ← hln, List.take_length]
          · exact no_ok
        · split
          · rename_i h hh
            refine chk_ok hI hd fun hc => go 0 h _ rfl (by simpa [bnd] using hh) (by unfold lenL at hc; rw [hln] at hc; exact hc) rfl
          · exact no_ok
        · split
          · rename_i l h hl hh
            refine chk_ok hI hd fun hc => go l h _ hl (by simpa [bnd] using hh) (by unfold lenL at hc; rw [hln] at hc; exact hc) rfl
          · exact no_ok
      · exact no_ok
    · exact no_ok
  · rename_i id ver hx
    rw [hx] at rx
    split
    · rename_i n e e' s fz hT hc
      split
      · rename_i hve
        obtain ⟨b, f, hb, hp⟩ := rx.2 hve.1
        obtain ⟨ET, hu, hfit, hmx, _⟩ := hE.ar T n e hT
        obtain ⟨ie, hie, hsz, _⟩ := hfit.info
        split
        · rename_i l h hl hh
          refine chk_ok hI hd fun hck => ?_
          rw [Bool.and_eq_true] at hck
          have hml : n = s.length := of_decide_eq_true hck.2
          obtain ⟨c0, c1, c2⟩ := inC_of hck.1
          have hbb := run_bounds (P := P) (w := w) (isSlice := false) (cap := n) (bnd_ok hI hl) (bnd_ok hI hh) (Nat.le_refl _) hck.1
          refine ⟨.slice (some (if n = l.toNat then ⟨b, 0, none⟩ else (⟨b, 0, none⟩ : Addr).add (l.toNat * ie.size))) (h.toNat - l.toNat) (n - l.toNat), hrun _ _ hp ?_, rx.1, fun _ => ?_⟩
          · simp only [Instr.sliceAt, Sem.run_bind, run_underlying hu, Result.andThen_ok, Instr.sureAddr, Sem.run_pure, hbb, sizeOf, typeInfo, run_program, hie]
          · refine ⟨e', s, fz, _, _, hc, by omega, by omega, by omega, fun hne => ⟨b, f, hb, ?_⟩, fun A hA => ?_, rfl⟩
            · rw [if_neg (by omega), add_at ⟨b, 0, none⟩ rfl, hsz, hve.2]; simp
            · cases hA; split
              · rfl
              · rw [add_at ⟨b, 0, none⟩ rfl]
        · exact no_ok
      · exact no_ok
    · exact no_ok
  · rename_i id ver lo' n hx
    rw [hx] at rx
    split
    · rename_i e e' s fz hT hc
      split
      · rename_i hve
        obtain ⟨e2, s2, fz2, A, cap, hc2, hlo, hcap, hmx, hA, hAs, hp⟩ := rx.2 hve.1
        rw [hc] at hc2; cases hc2
        obtain ⟨ET, ie, hu, hie, hsz, _⟩ := (hE.ty _ _ hT).und
        split
        · rename_i l h hl hh
          refine chk_ok hI hd fun hck => ?_
          obtain ⟨c0, c1, c2⟩ := inC_of hck
          refine ⟨_, hrun _ _ hp (run_slice_sl hu hie (bnd_ok hI hl) (bnd_ok hI hh) hcap hck), rx.1, fun _ => ?_⟩
          refine ⟨e', s, fz, _, _, hc, by omega, by omega, by omega, fun hne => ?_, fun A' hA' => ?_, rfl⟩
          · obtain ⟨b, f, hb, hA1⟩ := hA (by omega)
            refine ⟨b, f, hb, ?_⟩
            rw [if_neg (by omega), hA1]
            simp [add_at ⟨b, lo' * e'.sz, none⟩ rfl, hsz, hve.2, Nat.add_mul]
          · split at hA'
            · exact hAs A' hA'
            · cases A with
              | none => cases hA'
              | some A0 =>
                simp only [Option.map_some, Option.some.injEq] at hA'
                rw [← hA', add_at A0 (hAs A0 rfl)]
        · exact no_ok
      · exact no_ok
    · exact no_ok
  · rename_i id ver hx
    rw [hx] at rx
    split
    · rename_i e e' s fz hT hc
      split
      · rename_i hve
        obtain ⟨e2, s2, fz2, hc2, hsw⟩ := rx.2 hve.1
        rw [hc] at hc2; cases hc2
        obtain ⟨A, cap, hp, hcap, hmx, hA, hAs⟩ := hsw.form
        obtain ⟨ET, ie, hu, hie, hsz, _⟩ := (hE.ty _ _ hT).und
        split
        · rename_i l h hl hh
          refine chk_ok hI hd fun hck => ?_
          unfold lenL at hck
          obtain ⟨c0, c1, c2⟩ := inC_of hck
          refine ⟨_, hrun _ _ hp (run_slice_sl hu hie (bnd_ok hI hl) (bnd_ok hI hh) hcap hck), rx.1, fun _ => ?_⟩
          refine ⟨e', s, fz, _, _, hc, by omega, by omega, by omega, fun hne => ?_, fun A' hA' => ?_, rfl⟩
          · obtain ⟨b, f, hb, hA1⟩ := hA (by omega)
            refine ⟨b, f, hb, ?_⟩
            rw [if_neg (by omega), hA1]
            simp [add_at ⟨b, 0, none⟩ rfl, hsz, hve.2]
          · split at hA'
            · exact hAs A' hA'
            · cases A with
              | none => cases hA'
              | some A0 =>
                simp only [Option.map_some, Option.some.injEq] at hA'
                rw [← hA', add_at A0 (hAs A0 rfl)]
        · exact no_ok
      · exact no_ok
    · exact no_ok
  · exact no_ok

theorem len_ok (hE : EnvOk P E) (hI : Inv B ok0 w0 g σ a w) (hd : ∀ d, o.dst = some d → d < a.tmps.size) {x : Operand} {T : Nat} {c : Call} (ho : o.op = .call c)
    (hc : c.callee = .builtin .len) (ha : c.args.toList = [x]) (hat : c.argTypes.toList = [T]) :
    StepOk P B ok0 w0 (len' (E.ty T) o σ (opd σ x)) o a w := by
  have ha' : c.args = #[x] := by rw [← Array.toArray_toList (xs := c.args), ha]
  have hat' : c.argTypes = #[T] := by rw [← Array.toArray_toList (xs := c.argTypes), hat]
  have hrun : ∀ u v, a.eval x = u → (Builtin.len_ #[T] o.type #[u]).run P w = .ok v w → (execOp a.eval o).run P w = .ok (.value v) w := by
    intro u v hu hv
    unfold execOp; rw [ho]
    subst hu
    simp [resolve, hc, ha', hat', invoke, builtin, hv]
  have rx := opd_ok hI x
  unfold len'
  split
  · rename_i hT
    have hu : P.underlying T = some .string := (hE.ty _ _ hT).und
    split
    · rename_i s gs hx
      exact put_ok hI hd (hrun _ _ (eval_str hI hx) (by simp [Builtin.len_, run_underlying hu, goInt]; rfl)) (rep_int _ _)
    · exact no_ok
  · rename_i e hT
    obtain ⟨ET, ie, hu, _⟩ := (hE.ty _ _ hT).und
    have go : ∀ p n cap, a.eval x = .slice p n cap → (execOp a.eval o).run P w = .ok (.value (.int .i64 (n : Int))) w :=
      fun p n cap hx => hrun _ _ hx (by simp [Builtin.len_, run_underlying hu, goInt])
    split
    · rename_i e' l gs hx
      rw [hx] at rx
      obtain ⟨p, n, cap, hv, hr, hln, _⟩ := of_sl rx
      exact put_ok hI hd (go p n cap hv) (by unfold lenL; rw [hln]; exact rep_int _ _)
    · rename_i hx
      rw [hx] at rx
      exact put_ok hI hd (go none 0 0 rx) (rep_int _ _)
    · rename_i id ver hx
      rw [hx] at rx
      split
      · rename_i hv
        split
        · rename_i e' l fz hcc
          obtain ⟨e2, l2, fz2, hc2, hsw⟩ := rx.2 hv
          rw [hcc] at hc2; cases hc2
          obtain ⟨p, cap, hp, _⟩ := hsw.form
          exact put_ok hI hd (go _ _ _ hp) (rep_int _ _)
        · exact no_ok
      · exact no_ok
    · rename_i id ver lo n hx
      rw [hx] at rx
      split
      · rename_i hv
        obtain ⟨e2, l2, fz2, A, cap, hc2, _, _, _, _, _, hp⟩ := rx.2 hv
        exact put_ok hI hd (go _ _ _ hp) (rep_int _ _)
      · exact no_ok
    · exact no_ok
  · exact no_ok

theorem fold2_run {f : Int → Int → Int} {F : Value → Value → Sem Value} (hF : ∀ (k j : IntKind) (x y : Int), F (.int k x) (.int j y) = pure (.int k (f x y))) (hI : Inv B ok0 w0 g σ a w) {k : IntKind} :
    ∀ (xs : List Operand) (m n : Int), fold2 f k m (xs.map (opd σ)) = some n → ((xs.map a.eval).foldlM F (.int k m)).run P w = .ok (.int k n) w
  | [], m, n, h => by
    simp only [List.map_nil, fold2, Option.some.injEq] at h
    subst h
    rfl
  | x :: xs, m, n, h => by
    simp only [List.map_cons] at h ⊢
    unfold fold2 at h
    split at h
    · rename_i heq; cases heq
    · rename_i b hb heq
      obtain ⟨h1, h2⟩ := List.cons.inj heq
      split at h
      · rename_i hj
        subst hj
        rw [← h2] at h
        rw [List.foldlM_cons, eval_int hI h1, hF]
        simp only [Sem.run_bind, Sem.run_pure, Result.andThen_ok]
        exact fold2_run hF hI xs _ n h
      · cases h
    · cases h

theorem minmax_ok (hI : Inv B ok0 w0 g σ a w) (hd : ∀ d, o.dst = some d → d < a.tmps.size) {f : Int → Int → Int} {F : Value → Value → Sem Value} (hF : ∀ (k j : IntKind) (x y : Int), F (.int k x) (.int j y) = pure (.int k (f x y)))
    {xs : List Operand} (hrun : ∀ v r, xs.map a.eval = v :: r → ∀ u, (r.foldlM F v).run P w = .ok u w → (execOp a.eval o).run P w = .ok (.value u) w) :
    StepOk P B ok0 w0 (minmax' f o σ (xs.map (opd σ))) o a w := by
  cases xs with
  | nil => exact no_ok
  | cons x xs =>
    unfold minmax'
    simp only [List.map_cons]
    split
    · rename_i k m gs r heq
      obtain ⟨h1, h2⟩ := List.cons.inj heq
      split
      · rename_i n hn
        rw [← h2] at hn
        have hx := eval_int hI h1
        exact put_ok hI hd (hrun (a.eval x) (xs.map a.eval) rfl (.int k n) (by rw [hx]; exact fold2_run hF hI xs m n hn)) (rep_int _ _)
      · exact no_ok
    · exact no_ok

end
end Go.AM
