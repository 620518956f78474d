/- Appends: in place, or into a new row; strings as bytes. -/
import Derived.Test.YtkfffcnililmkaaDoorAmOps3
import Derived.Lib.ConvBytes
namespace Go.AM
open Go.RowKit (Below)
set_option linter.unusedSectionVars false
variable [Lay]
section
variable {P : Program} {B : Bd} {ok0 : Nat → Nat → Prop} {w0 w w' : World} {g g' : G} {σ σ1 : St} {a : Act} {o : Oper} {E : Env}

/-- What an append makes of a slice that is nil or a row of one's own. -/
theorem run_append {T U ty ET : TypeId} {ie : TypeInfo} {z : Value} {sz by_ : Nat} (ht : P.underlying T = some (.slice ET)) (hi : P.info? ET = some ie) (hz : ie.zero = some z) (hsz : ie.size = sz) (hby : ie.bytes = by_)
    (hu : (∃ EU, P.underlying U = some (.slice EU)) ∨ P.underlying U = some .string)
    {p : Option Addr} {n cap m : Nat} {x : Value} {olds news : List Value} (hlen : ∀ w, (Builtin.lenOf x).run P w = .ok m w)
    (hx : ∀ w', w'.heap = w.heap → (Builtin.firstCells sz m x).run P w' = .ok news.toArray w') (hnl : news.length = m * sz) (h1 : ∀ u ∈ news, u.oneCell' = true)
    (hp : (p = none ∧ n = 0 ∧ cap = 0 ∧ olds = []) ∨ ∃ b cur TT, p = some ⟨b, 0, none⟩ ∧ w.heap[b]? = some (.cells cur TT (0, 0)) ∧ cur.size = cap * sz ∧ n ≤ cap ∧ olds = cur.toList.take (n * sz))
    (hroom : (n + m) * by_ ≤ 140737488355328) (hb0 : 0 < by_) :
    (∃ b cur TT, p = some ⟨b, 0, none⟩ ∧ w.heap[b]? = some (.cells cur TT (0, 0)) ∧ n + m ≤ cap ∧
      (Builtin.append_ #[T, U] ty #[.slice p n cap, x]).run P w = .ok (.slice p (n + m) cap) (w.setRow b (splice cur.toList (n * sz) news).toArray)) ∨
    (p = none ∧ m = 0 ∧ (Builtin.append_ #[T, U] ty #[.slice p n cap, x]).run P w = .ok (.slice none 0 0) w) ∨
    (∃ ncap, n + m ≤ ncap ∧ ncap ≤ maxLen ∧ (Builtin.append_ #[T, U] ty #[.slice p n cap, x]).run P w =
      .ok (.slice (some ⟨w.heap.size, 0, none⟩) (n + m) ncap) (w.drew.alloc (.cells (olds.toArray ++ news.toArray ++ Builtin.zeroCells z.cells (ncap - (n + m))) ET))) := by
  have hle : n + m ≤ 140737488355328 := Nat.le_trans (Nat.le_mul_of_pos_right _ hb0) hroom
  have hmx : n + m ≤ maxLen := by unfold maxLen; omega
  by_cases hroomc : n + m ≤ cap
  · rcases hp with ⟨rfl, rfl, rfl, rfl⟩ | ⟨b, cur, TT, rfl, hh, hcs, hnc, rfl⟩
    · have hm : m = 0 := by omega
      subst hm
      refine .inr (.inl ⟨rfl, rfl, ?_⟩)
      have hn0 : news = [] := List.eq_nil_of_length_eq_zero (by simpa using hnl)
      subst hn0
      have hx' := hx w rfl
      rcases hu with ⟨EU, hu⟩ | hu <;>
        simp [Builtin.append_, run_underlying ht, run_underlying hu, sizeOf, typeInfo, hi, hsz, hlen, hx']
    · refine .inl ⟨b, cur, TT, rfl, hh, hroomc, ?_⟩
      have hx' := hx w rfl
      have hst := run_storeCells_at P b (n * sz) TT news 0 cur w hh (by rw [Nat.add_zero, hnl, hcs, ← Nat.add_mul]; exact Nat.mul_le_mul_right _ hroomc) h1
      simp only [Nat.add_zero] at hst
      have hadd : (⟨b, 0, none⟩ : Addr).add (n * sz) = ⟨b, n * sz, none⟩ := by rw [add_at ⟨b, 0, none⟩ rfl]; simp
      rcases hu with ⟨EU, hu⟩ | hu <;>
        simp [Builtin.append_, run_underlying ht, run_underlying hu, sizeOf, typeInfo, hi, hsz, hlen, hroomc, hx', hadd, hst, splice]
  · have hlt : cap < n + m := by omega
    have hge := grownCap_ge w (n + m) cap ET
    have hgm := grownCap_le_maxLen w (n + m) cap ET hmx
    refine .inr (.inr ⟨grownCap w (n + m) cap ET, hge, hgm, ?_⟩)
    have h63 : ¬ (9223372036854775807 < ((n : Int) + (m : Int))) := by omega
    have hfit := growslice_fits (bytes := by_) hlt hroom
    have h48 : ¬ (281474976710656 < Builtin.nextslicecap (n + m) cap * by_) := by omega
    have hx' := hx w.drew rfl
    have hold : (Builtin.firstCells sz n (.slice p n cap)).run P w.drew = .ok olds.toArray w.drew := by
      rcases hp with ⟨rfl, rfl, rfl, rfl⟩ | ⟨b, cur, TT, rfl, hh, hcs, hnc, rfl⟩
      · simp [Builtin.firstCells]
      · refine run_firstCells_some (P := P) w.drew sz n ⟨b, 0, none⟩ n cap _ ?_ fun j u hj => ?_
        · rw [List.length_take]
          have : n * sz ≤ cap * sz := Nat.mul_le_mul_right _ hnc
          simp; omega
        · rw [add_at ⟨b, 0, none⟩ rfl]
          rw [List.getElem?_take] at hj
          split at hj
          · simp only [World.cell?, Nat.zero_add]
            rw [show w.drew.heap = w.heap from rfl, hh]
            simpa using hj
          · cases hj
    rcases hu with ⟨EU, hu⟩ | hu
    · simp [Builtin.append_, run_underlying ht, run_underlying hu, sizeOf, typeInfo, zeroValue, hi, hz, hsz, hby, hlen, hroomc, h63, h48, Question.forced, hold, hx', newRow, grownCap]
      congr 2
      apply Array.ext'
      simp [List.append_assoc]
    · simp [Builtin.append_, run_underlying ht, run_underlying hu, sizeOf, typeInfo, zeroValue, hi, hz, hsz, hby, hlen, hroomc, h63, h48, Question.forced, hold, hx', newRow, grownCap]
      congr 2
      apply Array.ext'
      simp [List.append_assoc]


theorem RowsOf.append {ok : Nat → Nat → Prop} {e : Ty} {l1 l2 : List e.D} {c1 c2 : List Value} (h1 : RowsOf ok w e l1 c1) (h2 : RowsOf ok w e l2 c2) : RowsOf ok w e (l1 ++ l2) (c1 ++ c2) := by
  refine ⟨by rw [List.length_append, List.length_append, h1.1, h2.1, Nat.add_mul], fun i x hi => ?_⟩
  by_cases hlt : i < l1.length
  · rw [List.getElem?_append_left hlt] at hi
    obtain ⟨ys, hy, hc⟩ := h1.2 i x hi
    refine ⟨ys, hy, fun j u hj => ?_⟩
    have h3 := hc j u hj
    rw [List.getElem?_append_left (List.getElem?_eq_some_iff.1 h3).1]
    exact h3
  · rw [List.getElem?_append_right (by omega)] at hi
    obtain ⟨ys, hy, hc⟩ := h2.2 _ x hi
    refine ⟨ys, hy, fun j u hj => ?_⟩
    have h3 := hc j u hj
    have hle : l1.length * e.sz ≤ i * e.sz := Nat.mul_le_mul_right _ (by omega)
    rw [List.getElem?_append_right (by rw [h1.1]; omega), h1.1, show i * e.sz + j - l1.length * e.sz = (i - l1.length) * e.sz + j by rw [Nat.sub_mul]; omega]
    exact h3

/-- More at the end of a row, in place. -/
theorem Inv.appendRow (h : Inv B ok0 w0 g σ a w) {id b n m cap : Nat} {e : Ty} {l l' : List e.D} {news : List Value} {cur : Array Value} {TT : TypeId} (hrw : g.rw id = some (b, n * e.sz))
    (hh : w.heap[b]? = some (.cells cur TT (0, 0))) (hsz : cur.size = cap * e.sz) (hroom : n + m ≤ cap) (hcm : cap ≤ maxLen) (hid : id ≠ 0) (hl : RepD (okG B ok0 g w) w (.sl e) l [.slice (some ⟨b, 0, none⟩) n cap])
    (hl' : RowsOf (okG B ok0 g w) w e l' news) (hm : l'.length = m) :
    ∃ g', Inv B ok0 w0 g' (σ.bump id) a (w.setRow b (splice cur.toList (n * e.sz) news).toArray) ∧
      RepA (okG B ok0 g' (w.setRow b (splice cur.toList (n * e.sz) news).toArray)) g' (σ.bump id) (w.setRow b (splice cur.toList (n * e.sz) news).toArray)
        (.dat (.sl e) (l ++ l') [⟨0, id, σ.r id + 1, e.sz⟩]) (.slice (some ⟨b, 0, none⟩) (n + m) cap) := by
  obtain ⟨hBb, hbs, hnb⟩ := h.rb id b _ hrw
  have hnl : news.length = m * e.sz := by rw [hl'.1, hm]
  have hfit : n * e.sz + news.length ≤ cur.toList.length := by
    rw [hnl, Array.length_toList, hsz, ← Nat.add_mul]; exact Nat.mul_le_mul_right _ hroom
  generalize hw' : w.setRow b (splice cur.toList (n * e.sz) news).toArray = w'
  have hsize : w'.heap.size = w.heap.size := by rw [← hw']; exact setRow_size _ _ _
  have hother : ∀ k, k ≠ b → w'.heap[k]? = w.heap[k]? := fun k hk => by rw [← hw']; exact setRow_other w b k _ hk
  have hnew : w'.heap[b]? = some (.cells (splice cur.toList (n * e.sz) news).toArray TT (0, 0)) := by rw [← hw']; exact setRow_heap w b _ _ _ _ hh
  have hcell : ∀ b' off, okG B ok0 g w b' off → w'.cell? ⟨b', off, none⟩ = w.cell? ⟨b', off, none⟩ := by
    intro b' off hk
    by_cases hbb : b' = b
    · subst hbb
      have hlt : off < n * e.sz := by
        rcases hk with hk | ⟨_, _, _, q4⟩
        · have := (h.h0 _ _ hk).1; omega
        · exact q4 id _ hrw
      simp only [World.cell?, hnew, hh]
      unfold splice
      simp only [Option.isSome_none, Bool.false_eq_true, if_false, List.getElem?_toArray]
      rw [List.append_assoc, List.getElem?_append_left (by rw [List.length_take]; omega), List.getElem?_take, if_pos hlt]
      simp
    · simp only [World.cell?, hother b' hbb]
  have hx : Ext (okG B ok0 g w) (okG B ok0 (g.setRw id (some (b, (n + m) * e.sz))) w') g (g.setRw id (some (b, (n + m) * e.sz))) σ (σ.bump id) w w' :=
    { cell := fun b' off hk => by
        refine ⟨?_, hcell b' off hk⟩
        rcases hk with hk | ⟨q1, q2, q3, q4⟩
        · exact .inl hk
        · refine .inr ⟨q1, by rw [hsize]; exact q2, q3, fun id' u he => ?_⟩
          simp only [G.setRw, fset_eq] at he
          split at he
          · cases he
            have := q4 id _ hrw
            rw [Nat.add_mul]
            omega
          · exact q4 id' u he
      box := fun id' ver hv => ⟨hv, fun he => ⟨he, fun b' f hb => ⟨f, hb⟩, fun e' l2 fz hc => ⟨l2, fz, hc, rfl⟩, fun hn => hn, fun b' f cur' T _ hb hh' => ⟨cur', (hother b' (fun e => by subst e; exact hnb id' f hb)).trans hh', rfl⟩⟩⟩
      row := fun id' ver h0 hv => by
        simp only [St.bump, fset_eq, G.setRw]
        by_cases hi : id' = id
        · subst hi
          simp only [if_true]
          exact ⟨by omega, fun he => by omega⟩
        · simp only [if_neg hi]
          exact ⟨hv, fun he => ⟨he, fun b' u hbu => ⟨hbu, hother b' (fun e => by subst e; exact hi (h.ri _ _ _ _ _ hbu hrw))⟩⟩⟩ }
  refine ⟨g.setRw id (some (b, (n + m) * e.sz)), ?_, ?_⟩
  · exact {
      below := by rw [← hw']; exact setRow_below (.inl hBb) h.below
      hB := h.hB, h0 := h.h0, defers := h.defers, lay := h.lay, tm := h.tm, nm := h.nm
      bb := fun id' b' f hb => by rw [hsize]; exact h.bb id' b' f hb
      bi := h.bi
      rb := fun id' b' u hb => by
        simp only [G.setRw, fset_eq] at hb
        split at hb
        · cases hb; exact ⟨hBb, by rw [hsize]; exact hbs, hnb⟩
        · rw [hsize]; exact h.rb id' b' u hb
      ri := fun i1 i2 b' u1 u2 e1 e2 => by
        simp only [G.setRw, fset_eq] at e1 e2
        split at e1 <;> split at e2
        · simp_all
        · cases e1; rename_i q1 q2; rw [q1]; exact (h.ri _ _ _ _ _ e2 hrw).symm
        · cases e2; rename_i q1 q2; rw [q2]; exact h.ri _ _ _ _ _ e1 hrw
        · exact h.ri _ _ _ _ _ e1 e2
      con := fun id' c hc => by
        rcases h.con id' c hc with hn | ⟨b', f, hb, hk⟩
        · exact .inl hn
        exact .inr ⟨b', f, hb, hk.ext hx (hother b' (fun e => by subst e; exact hnb id' f hb))⟩
      slots := fun t => (h.slots t).ext hx }
  · obtain ⟨p', n', cap', hv, hln, hn, hm', hc⟩ := hl
    cases hv
    refine ⟨_, ⟨_, _, _, rfl, by rw [List.length_append, hln, hm], hroom, hcm, fun i x hi => ?_⟩, rfl, fun t ht => ?_⟩
    · by_cases hlt : i < l.length
      · rw [List.getElem?_append_left hlt] at hi
        obtain ⟨A, hA, hs, ys, hy, hyc⟩ := hc i x hi
        refine ⟨A, hA, hs, ys, hy.mono hx.cell, fun j u hj => ?_⟩
        obtain ⟨h1, h2⟩ := hyc j u hj
        exact ⟨(hx.cell _ _ h1).1, (hcell _ _ h1).trans h2⟩
      · rw [List.getElem?_append_right (by omega)] at hi
        obtain ⟨ys, hy, hyc⟩ := hl'.2 _ x hi
        refine ⟨_, rfl, rfl, ys, hy.mono hx.cell, fun j u hj => ?_⟩
        have h1 := hyc j u hj
        have h2 := (List.getElem?_eq_some_iff.1 h1).1
        have hle : n * e.sz ≤ i * e.sz := Nat.mul_le_mul_right _ (by omega)
        rw [hln] at h1 h2
        rw [Nat.sub_mul] at h1 h2
        refine ⟨.inr ⟨hBb, by rw [hsize]; exact hbs, fun id' => hnb id' false, fun id' u' he => ?_⟩, ?_⟩
        · simp only [G.setRw, fset_eq] at he
          split at he
          · cases he; show 0 + (i * e.sz + j) < _; rw [Nat.add_mul]; omega
          · rename_i hne; exact absurd (h.ri _ _ _ _ _ he hrw) hne
        · simp only [World.cell?, hnew, Nat.zero_add]
          unfold splice
          simp only [Option.isSome_none, Bool.false_eq_true, if_false, List.getElem?_toArray]
          rw [List.append_assoc, List.getElem?_append_right (by rw [List.length_take]; omega), List.getElem?_append_left (by rw [List.length_take]; omega), ← h1]
          congr 1
          rw [List.length_take]
          omega
    · have ht' : t = ⟨0, id, σ.r id + 1, e.sz⟩ := by simpa using ht
      subst ht'
      refine ⟨fun h0 => absurd h0 hid, fun _ => ⟨by simp [St.bump, fset_eq], fun _ => .inr ⟨b, n + m, cap, _, TT, rfl, by simp [G.setRw, fset_eq], hnew, ?_, hroom, hcm⟩⟩⟩
      rw [List.size_toArray, splice_len hfit, Array.length_toList, hsz]

theorem appTag_some {d sz id : Nat} : ∀ {gs : List Tag}, appTag σ d sz gs = some id → ∃ τ ∈ gs, τ.off = 0 ∧ τ.sz = sz ∧ ((τ.id = 0 ∧ id = rid d 0) ∨ (τ.id ≠ 0 ∧ σ.r τ.id = τ.ver ∧ id = τ.id))
  | [], h => by cases h
  | t :: ts, h => by
    unfold appTag at h
    split at h
    · rename_i h1
      split at h
      · rename_i h2; cases h; exact ⟨t, by simp, h1.1, h1.2, .inl ⟨h2, rfl⟩⟩
      · rename_i h2
        split at h
        · rename_i h3; cases h; exact ⟨t, by simp, h1.1, h1.2, .inr ⟨h2, h3, rfl⟩⟩
        · cases h
    · obtain ⟨τ, hm, hr⟩ := appTag_some h
      exact ⟨τ, by simp [hm], hr⟩

/-- What both kinds of appends come to. -/
theorem append_core (hE : EnvOk P E) (hI : Inv B ok0 w0 g σ a w) (hd : ∀ d, o.dst = some d → d < a.tmps.size) {T U ET : TypeId} {ie : TypeInfo} {c : Call} (ho : o.op = .call c) (hc : c.callee = .builtin .append) {s x : Operand}
    (ha : c.args.toList = [s, x]) (hat : c.argTypes.toList = [T, U]) {e : Ty} (hT : E.ty T = some (.sl e)) (hu : P.underlying T = some (.slice ET)) (hie : P.info? ET = some ie)
    (hU : (∃ EU, P.underlying U = some (.slice EU)) ∨ P.underlying U = some .string)
    {l : List e.D} (hl : (opd σ s).as (.sl e) = some l) {d id : Nat} (hid : appTag σ d e.sz ((opd σ s).tags (.sl e)) = some id) {l' : List e.D} {news : List Value} {m : Nat} (hrows : RowsOf (okG B ok0 g w) w e l' news) (hm : l'.length = m)
    (hlen : ∀ w, (Builtin.lenOf (a.eval x)).run P w = .ok m w) (hx : ∀ w', w'.heap = w.heap → (Builtin.firstCells e.sz m (a.eval x)).run P w' = .ok news.toArray w') (h1 : ∀ u ∈ news, u.oneCell' = true) :
    StepOk P B ok0 w0 (.go (roomB (l.length + m) (E.by_ T)) ((σ.bump id).setT o.dst (.dat (.sl e) (l ++ l') [⟨0, id, σ.r id + 1, e.sz⟩]))) o a w := by
  have ha' : c.args = #[s, x] := by rw [← Array.toArray_toList (xs := c.args), ha]
  have hat' : c.argTypes = #[T, U] := by rw [← Array.toArray_toList (xs := c.argTypes), hat]
  obtain ⟨ET', ie', hu', hie', hsz, hz, _⟩ := (hE.ty T _ hT).und
  rw [hu] at hu'; cases hu'
  rw [hie] at hie'; cases hie'
  obtain ⟨hby, hbp⟩ := hE.by_ T e ET ie hT hu hie
  obtain ⟨τ, hτ, hoff, hτs, hτid⟩ := appTag_some hid
  obtain ⟨cs, hrep, hv, htags⟩ := as_ok hl (opd_ok hI s)
  have hrep' := hrep
  obtain ⟨p, n, cap, rfl, hln, hn, hcm, hcc⟩ := hrep
  have hvs : a.eval s = .slice p n cap := hv
  have hid0 : id ≠ 0 := by
    rcases hτid with ⟨_, rfl⟩ | ⟨h, _, rfl⟩
    · exact rid_ne d 0
    · exact h
  -- nil, or a row of one's own
  have hown : (p = none ∧ n = 0 ∧ cap = 0) ∨ ∃ b cur TT, p = some ⟨b, 0, none⟩ ∧ g.rw id = some (b, n * e.sz) ∧ w.heap[b]? = some (.cells cur TT (0, 0)) ∧ cur.size = cap * e.sz := by
    obtain ⟨q1, q2⟩ := htags τ hτ
    rw [hoff] at q1 q2
    rcases hτid with ⟨h0, _⟩ | ⟨h0, hr, rfl⟩
    · have := q1 h0
      simp at this
      exact .inl ⟨this.1, this.2.1, this.2.2⟩
    · rcases (q2 h0).2 hr with hv | ⟨b, n', cap', cur, TT, hv, hrw, hh, hcs, _⟩
      · simp at hv
        exact .inl ⟨hv.1, hv.2.1, hv.2.2⟩
      · simp at hv
        obtain ⟨rfl, rfl, rfl⟩ := hv
        rw [hτs] at hrw hcs
        exact .inr ⟨b, cur, TT, rfl, hrw, hh, hcs⟩
  refine go_ok hd fun hcnd => ?_
  have hroom : (n + m) * E.by_ T ≤ 140737488355328 := by rw [← hln]; exact of_decide_eq_true hcnd
  have hzc : (valOf e e.zcells).cells.size = e.sz := by
    rw [valOf_cells (zero_rep (fun _ _ => True) w e), List.size_toArray, (zero_rep (fun _ _ => True) w e).len]
  have hrun : ∀ v w', (Builtin.append_ #[T, U] o.type #[.slice p n cap, a.eval x]).run P w = .ok v w' → (execOp a.eval o).run P w = .ok (.value v) w' := by
    intro v w' hv'
    unfold execOp; rw [ho]
    simp [resolve, hc, ha', hat', invoke, builtin, hvs, hv']
  -- the old row's cells
  have holds : ∃ olds, ((p = none ∧ n = 0 ∧ cap = 0 ∧ olds = []) ∨ ∃ b cur TT, p = some ⟨b, 0, none⟩ ∧ w.heap[b]? = some (.cells cur TT (0, 0)) ∧ cur.size = cap * e.sz ∧ n ≤ cap ∧ olds = cur.toList.take (n * e.sz)) ∧
      RowsOf (okG B ok0 g w) w e l olds := by
    rcases hown with ⟨rfl, rfl, rfl⟩ | ⟨b, cur, TT, rfl, hrw, hh, hcs⟩
    · have : l = [] := List.eq_nil_of_length_eq_zero hln
      subst this
      exact ⟨[], .inl ⟨rfl, rfl, rfl, rfl⟩, ⟨by simp, fun i x hi => by simp at hi⟩⟩
    · refine ⟨_, .inr ⟨b, cur, TT, rfl, hh, hcs, hn, rfl⟩, ⟨?_, fun i x hi => ?_⟩⟩
      · rw [List.length_take, hln, Array.length_toList, hcs]
        have : n * e.sz ≤ cap * e.sz := Nat.mul_le_mul_right _ hn
        omega
      · obtain ⟨A, hA, hs, ys, hy, hyc⟩ := hcc i x hi
        cases hA
        refine ⟨ys, hy, fun j u hj => ?_⟩
        obtain ⟨k1, k2⟩ := hyc j u hj
        simp only [World.cell?, hh, Nat.zero_add] at k2
        have hlt : i * e.sz + j < n * e.sz := by
          have := (List.getElem?_eq_some_iff.1 hj).1
          rw [hy.len] at this
          have hin := (List.getElem?_eq_some_iff.1 hi).1
          have : (i + 1) * e.sz ≤ n * e.sz := Nat.mul_le_mul_right _ (by omega)
          rw [Nat.add_mul] at this
          omega
        rw [List.getElem?_take, if_pos hlt]
        simpa using k2
  obtain ⟨olds, hpo, hro⟩ := holds
  have hnl : news.length = m * e.sz := by rw [hrows.1, hm]
  rcases run_append (P := P) (ty := o.type) hu hie hz hsz hby hU hlen hx hnl h1 hpo hroom hbp with ⟨b, cur, TT, rfl, hh, hrm, hr⟩ | ⟨rfl, rfl, hr⟩ | ⟨ncap, hge, hgm, hr⟩
  · rcases hown with ⟨hp, _⟩ | ⟨b', cur', TT', hp, hrw, hh', hcs⟩
    · cases hp
    · cases hp
      rw [hh] at hh'; cases hh'
      obtain ⟨g', hI', hR⟩ := hI.appendRow hrw hh hcs hrm hcm hid0 hrep' hrows hm
      exact ⟨g', _, _, hrun _ _ hr, hI', hR⟩
  · -- nothing behind nothing
    have hn0 : n = 0 ∧ cap = 0 := by
      rcases hown with ⟨_, h2, h3⟩ | ⟨b, cur, TT, hp, _⟩
      · exact ⟨h2, h3⟩
      · cases hp
    obtain ⟨rfl, rfl⟩ := hn0
    have hl0 : l = [] := List.eq_nil_of_length_eq_zero hln
    have hl0' : l' = [] := List.eq_nil_of_length_eq_zero hm
    subst hl0; subst hl0'
    obtain ⟨hI', hx'⟩ := hI.newRows (Below.refl w.heap.size w) (ρ := fun i => if i = id then some none else none) (σ' := σ.bump id) (g' := g.setRw id none)
      (by unfold G.setRw; congr 1; funext i; rw [fset_eq]; by_cases hi : i = id <;> simp [hi])
      (by unfold St.bump; congr 1; funext i; rw [fset_eq]; by_cases hi : i = id <;> simp [hi])
      (fun i b u hi => by split at hi <;> cases hi)
      (fun i j b u u' hi hj => by split at hi <;> cases hi)
    refine ⟨_, _, _, hrun _ _ hr, hI', [.slice none 0 0], ⟨none, 0, 0, rfl, rfl, Nat.le_refl _, Nat.zero_le _, fun i x hi => by simp at hi⟩, rfl, fun t ht => ?_⟩
    have ht' : t = ⟨0, id, σ.r id + 1, e.sz⟩ := by simpa using ht
    subst ht'
    exact ⟨fun h0 => absurd h0 hid0, fun _ => ⟨by simp [St.bump, fset_eq], fun _ => .inl rfl⟩⟩
  · obtain ⟨g', hI', hR⟩ := new_row hI (w' := w.drew.alloc (.cells (olds.toArray ++ news.toArray ++ Builtin.zeroCells (valOf e e.zcells).cells (ncap - (n + m))) ET)) (nb := w.heap.size) (id := id) (n := n + m) (cap := ncap)
      ((below_drew w).trans (below_alloc w.drew _)) (Nat.le_refl _) (heap_new w.drew _) (hro.append hrows) (by rw [List.length_append, hln, hm]) (fun j u hj => by
        rw [Array.getElem?_append_left (by simpa using (List.getElem?_eq_some_iff.1 hj).1)]
        simpa using hj)
      (by
        rw [Array.size_append, Array.size_append, List.size_toArray, List.size_toArray, size_zeroCells, hzc, hro.1, hln, hnl, ← Nat.add_mul, ← Nat.add_mul]
        congr 1
        omega) hge hgm hid0
    exact ⟨g', _, _, hrun _ _ hr, hI', hR⟩

/-- Appends to a box. -/
theorem appendB_ok (hE : EnvOk P E) (hI : Inv B ok0 w0 g σ a w) (hd : ∀ d, o.dst = some d → d < a.tmps.size) {T U : TypeId} {c : Call} (ho : o.op = .call c) (hc : c.callee = .builtin .append) {s x : Operand}
    (ha : c.args.toList = [s, x]) (hat : c.argTypes.toList = [T, U]) {id ver : Nat} (hs : opd σ s = .slw id ver) : StepOk P B ok0 w0 (appendB E T U o σ id ver (opd σ x)) o a w := by
  unfold appendB
  split
  · rename_i d e e' l hdst hT hcon
    split
    · rename_i hvp
      have hver := hvp.1
      have hidp : id < pid0 := Nat.le_of_ble_eq_true hvp.2
      split
      · rename_i l' y hl hy
        obtain ⟨ee, hll⟩ := cast_some hl
        have ee2 : e' = e := by cases ee; rfl
        subst ee2
        have hll' : l = l' := hll
        subst hll'
        unfold appWhat at hy
        split at hy
        · rename_i eU hU
          obtain ⟨EU, _, huU, _⟩ := (hE.ty U _ hU).und
          obtain ⟨ET, ie, hu, hie, hsz, hz, _⟩ := (hE.ty T _ hT).und
          obtain ⟨hby, hbp⟩ := hE.by_ T e' ET ie hT hu hie
          have rs := opd_ok hI s
          rw [hs] at rs
          obtain ⟨e2, l2, fz2, hc2, hsw⟩ := rs.2 hver
          rw [hcon] at hc2; cases hc2
          obtain ⟨px, nx, capx, news, hvx, hlx, _, _, hrows, h1, hcell⟩ := content_rows hI hy (opd_ok hI x)
          have ha' : c.args = #[s, x] := by rw [← Array.toArray_toList (xs := c.args), ha]
          have hat' : c.argTypes = #[T, U] := by rw [← Array.toArray_toList (xs := c.argTypes), hat]
          refine go_ok hd fun hcnd => ?_
          have hroom : (List.length (α := e'.D) l + nx) * E.by_ T ≤ 140737488355328 := by rw [← hlx]; exact of_decide_eq_true hcnd
          have hnl : news.length = nx * e'.sz := by rw [hrows.1, hlx]
          have hzc : (valOf e' e'.zcells).cells.size = e'.sz := by
            rw [valOf_cells (zero_rep (fun _ _ => True) w e'), List.size_toArray, (zero_rep (fun _ _ => True) w e').len]
          have hfirst : ∀ w', w'.heap = w.heap → (Builtin.firstCells e'.sz nx (a.eval x)).run P w' = .ok news.toArray w' := by
            intro w' hw'
            rw [hvx]
            rcases hcell with h0 | ⟨A, hA, hsA, hc'⟩
            · subst h0
              have : news = [] := List.eq_nil_of_length_eq_zero (by rw [hnl, Nat.zero_mul])
              subst this
              cases px with
              | none => simp [Builtin.firstCells]
              | some A => exact run_firstCells_some (P := P) w' e'.sz 0 A 0 capx [] (by simp) (fun j u hj => by simp at hj)
            · subst hA
              refine run_firstCells_some (P := P) w' e'.sz nx A nx capx news (by rw [hnl]) fun j u hj => ?_
              rw [add_at A hsA]
              have := hc' j u hj
              simp only [World.cell?, hw'] at this ⊢
              exact this
          have hrun : ∀ sv v w', a.eval s = sv → (Builtin.append_ #[T, U] o.type #[sv, a.eval x]).run P w = .ok v w' → (execOp a.eval o).run P w = .ok (.value v) w' := by
            intro sv v w' hsv hv'
            unfold execOp; rw [ho]
            simp [resolve, hc, ha', hat', invoke, builtin, hsv, hv']
          -- the rows of the old content, for whatever cells hold them
          have hver' : (σ.newBox id (.arr e' (l ++ y) false)).v id = σ.v id + 1 := by simp [St.newBox, fset_eq]
          have hcon' : (σ.newBox id (.arr e' (l ++ y) false)).c id = some (.arr e' (l ++ y) false) := by simp [St.newBox, fset_eq]
          rcases hsw with ⟨hbn, hl0, hvs⟩ | ⟨b, f, cap, cur, TT, hb, hh, hcs, hn, hcm, hvs⟩
          · -- nil
            have hl00 : l = [] := List.eq_nil_of_length_eq_zero hl0
            subst hl00
            rcases run_append (P := P) (ty := o.type) hu hie hz hsz hby (.inl ⟨EU, huU⟩) (p := none) (n := 0) (cap := 0) (olds := []) (fun w => by rw [hvx]; rfl) hfirst hnl h1 (.inl ⟨rfl, rfl, rfl, rfl⟩) hroom hbp with
              ⟨b, cur, TT, hp, _⟩ | ⟨_, hm0, hr⟩ | ⟨ncap, hge, hgm, hr⟩
            · cases hp
            · subst hm0
              have hy0 : y = [] := List.eq_nil_of_length_eq_zero hlx
              subst hy0
              exact ⟨_, _, _, hrun _ _ _ hvs hr, hI.nilBox id e', by rw [hver']; exact Nat.le_refl _, fun _ => ⟨e', [], false, hcon', .inl ⟨by simp [fset_eq], rfl, rfl⟩⟩⟩
            · refine ⟨g.setBx id w.heap.size false, _, _, hrun _ _ _ hvs hr, hI.newBox hidp (w' := w.drew.alloc (.cells ((([] : List Value).toArray ++ news.toArray ++ Builtin.zeroCells (valOf e' e'.zcells).cells (ncap - (0 + nx)))) ET)) ((below_drew w).trans (below_alloc w.drew _)) (Nat.le_refl _) ((Array.getElem?_eq_some_iff.1 (heap_new w.drew _)).1) (fun ok g' σ' hx' => ?_), ?_⟩
              · refine ⟨rfl, _, ET, heap_new w.drew _, ?_, by rw [List.nil_append]; omega, fun i z hi => ?_⟩
                · rw [List.nil_append, hlx]; simp [hnl]
                · rw [List.nil_append] at hi
                  obtain ⟨ys, hyr, hyc⟩ := hrows.2 i z hi
                  refine ⟨ys, hyr.mono hx'.cell, fun j u hj => ?_⟩
                  have := hyc j u hj
                  have hlt := (List.getElem?_eq_some_iff.1 this).1
                  rw [Array.getElem?_append_left (by simpa using hlt)]
                  simpa using this
              · refine ⟨by rw [hver']; exact Nat.le_refl _, fun _ => ⟨e', _, false, hcon', .inr ⟨w.heap.size, false, ncap, _, ET, by simp [G.setBx, fset_eq], heap_new w.drew _, ?_, by rw [List.nil_append, hlx]; omega, hgm, by rw [List.nil_append, hlx]; simp⟩⟩⟩
                rw [Array.size_append, Array.size_append, List.size_toArray, List.size_toArray, size_zeroCells, hzc, hnl, List.length_nil, Nat.zero_add, ← Nat.add_mul]
                congr 1
                omega
          · obtain ⟨hf', cur2, TT2, hh2, hsz2, hmx2, hrow⟩ := hI.conB hb hcon
            rw [hh] at hh2; cases hh2
            have hff : f = false := hf'
            subst hff
            have hctl : cur.toList.length = cur.size := Array.length_toList
            have hnc : List.length (α := e'.D) l * e'.sz ≤ cap * e'.sz := Nat.mul_le_mul_right _ hn
            have hold : ∀ (i : Nat) (z : e'.D), l[i]? = some z → ∀ (ys : List Value), ys.length = e'.sz → ∀ j, j < ys.length → i * e'.sz + j < List.length (α := e'.D) l * e'.sz := by
              intro i z hi ys hys j hj
              have h3 := (List.getElem?_eq_some_iff.1 hi).1
              have : (i + 1) * e'.sz ≤ List.length (α := e'.D) l * e'.sz := Nat.mul_le_mul_right _ h3
              rw [Nat.add_mul] at this
              omega
            rcases run_append (P := P) (ty := o.type) hu hie hz hsz hby (.inl ⟨EU, huU⟩) (p := some ⟨b, 0, none⟩) (n := List.length (α := e'.D) l) (cap := cap) (olds := cur.toList.take (List.length (α := e'.D) l * e'.sz)) (fun w => by rw [hvx]; rfl) hfirst hnl h1 (.inr ⟨b, cur, TT, rfl, hh, hcs, hn, rfl⟩) hroom hbp with
              ⟨b', cur', TT', hp, hh', hrm, hr⟩ | ⟨hp, _⟩ | ⟨ncap, hge, hgm, hr⟩
            · cases hp
              rw [hh] at hh'; cases hh'
              have hfit : List.length (α := e'.D) l * e'.sz + news.length ≤ cur.toList.length := by
                rw [hnl, hctl, hcs, ← Nat.add_mul]; exact Nat.mul_le_mul_right _ hrm
              have hnew := setRow_heap w b _ (splice cur.toList (List.length (α := e'.D) l * e'.sz) news).toArray _ _ hh
              refine ⟨g, _, _, hrun _ _ _ hvs hr, hI.regrow hb (fun ok σ' hx' => ?_) (fun cur' T' hh3 => by rw [hh] at hh3; cases hh3; rw [List.size_toArray, splice_len hfit, hctl]), ?_⟩
              · refine ⟨rfl, _, TT, hnew, ?_, by rw [List.length_append, hlx]; omega, fun i z hi => ?_⟩
                · rw [List.length_append, hlx, Nat.add_mul, List.size_toArray, splice_len hfit, hctl, hcs, ← Nat.add_mul]; exact Nat.mul_le_mul_right _ hrm
                · by_cases hlt : i < List.length (α := e'.D) l
                  · rw [List.getElem?_append_left hlt] at hi
                    obtain ⟨ys, hyr, hyc⟩ := hrow i z hi
                    refine ⟨ys, hyr.mono hx'.cell, fun j u hj => ?_⟩
                    have h3 := hold i z hi ys hyr.len j (List.getElem?_eq_some_iff.1 hj).1
                    rw [List.getElem?_toArray]
                    unfold splice
                    rw [List.append_assoc, List.getElem?_append_left (by rw [List.length_take]; omega), List.getElem?_take, if_pos h3]
                    simpa using hyc j u hj
                  · rw [List.getElem?_append_right (by omega)] at hi
                    obtain ⟨ys, hyr, hyc⟩ := hrows.2 _ z hi
                    refine ⟨ys, hyr.mono hx'.cell, fun j u hj => ?_⟩
                    have h3 := hyc j u hj
                    have h4 := (List.getElem?_eq_some_iff.1 h3).1
                    have h5 : List.length (α := e'.D) l * e'.sz ≤ i * e'.sz := Nat.mul_le_mul_right _ (by omega)
                    rw [Nat.sub_mul] at h3 h4
                    rw [List.getElem?_toArray]
                    unfold splice
                    rw [List.append_assoc, List.getElem?_append_right (by rw [List.length_take]; omega), List.getElem?_append_left (by rw [List.length_take]; omega), ← h3]
                    congr 1
                    rw [List.length_take]
                    omega
              · refine ⟨by rw [hver']; exact Nat.le_refl _, fun _ => ⟨e', _, false, hcon', .inr ⟨b, false, cap, _, TT, hb, hnew, ?_, by rw [List.length_append, hlx]; exact hrm, hcm, by rw [List.length_append, hlx]⟩⟩⟩
                rw [List.size_toArray, splice_len hfit, hctl, hcs]
            · cases hp
            · refine ⟨g.setBx id w.heap.size false, _, _, hrun _ _ _ hvs hr, hI.newBox hidp (w' := w.drew.alloc (.cells (((cur.toList.take (List.length (α := e'.D) l * e'.sz)).toArray ++ news.toArray ++ Builtin.zeroCells (valOf e' e'.zcells).cells (ncap - (List.length (α := e'.D) l + nx)))) ET)) ((below_drew w).trans (below_alloc w.drew _)) (Nat.le_refl _) ((Array.getElem?_eq_some_iff.1 (heap_new w.drew _)).1) (fun ok g' σ' hx' => ?_), ?_⟩
              · have hol : (cur.toList.take (List.length (α := e'.D) l * e'.sz)).length = List.length (α := e'.D) l * e'.sz := by rw [List.length_take, hctl]; omega
                refine ⟨rfl, _, ET, heap_new w.drew _, ?_, by rw [List.length_append, hlx]; omega, fun i z hi => ?_⟩
                · rw [List.length_append, hlx, Nat.add_mul, Array.size_append, Array.size_append, List.size_toArray, List.size_toArray, hol, hnl]; omega
                · by_cases hlt : i < List.length (α := e'.D) l
                  · rw [List.getElem?_append_left hlt] at hi
                    obtain ⟨ys, hyr, hyc⟩ := hrow i z hi
                    refine ⟨ys, hyr.mono hx'.cell, fun j u hj => ?_⟩
                    have h3 := hold i z hi ys hyr.len j (List.getElem?_eq_some_iff.1 hj).1
                    rw [Array.getElem?_append_left (by rw [Array.size_append, List.size_toArray, hol]; omega), Array.getElem?_append_left (by rw [List.size_toArray, hol]; omega), List.getElem?_toArray, List.getElem?_take, if_pos h3]
                    simpa using hyc j u hj
                  · rw [List.getElem?_append_right (by omega)] at hi
                    obtain ⟨ys, hyr, hyc⟩ := hrows.2 _ z hi
                    refine ⟨ys, hyr.mono hx'.cell, fun j u hj => ?_⟩
                    have h3 := hyc j u hj
                    have h4 := (List.getElem?_eq_some_iff.1 h3).1
                    have h5 : List.length (α := e'.D) l * e'.sz ≤ i * e'.sz := Nat.mul_le_mul_right _ (by omega)
                    rw [Nat.sub_mul] at h3 h4
                    rw [Array.getElem?_append_left (by rw [Array.size_append, List.size_toArray, List.size_toArray, hol]; omega), Array.getElem?_append_right (by rw [List.size_toArray, hol]; omega), List.size_toArray, hol, List.getElem?_toArray, ← h3]
                    congr 1
                    omega
              · refine ⟨by rw [hver']; exact Nat.le_refl _, fun _ => ⟨e', _, false, hcon', .inr ⟨w.heap.size, false, ncap, _, ET, by simp [G.setBx, fset_eq], heap_new w.drew _, ?_, by rw [List.length_append, hlx]; exact hge, hgm, by rw [List.length_append, hlx]⟩⟩⟩
                have hol : (cur.toList.take (List.length (α := e'.D) l * e'.sz)).length = List.length (α := e'.D) l * e'.sz := by rw [List.length_take, hctl]; omega
                rw [Array.size_append, Array.size_append, List.size_toArray, List.size_toArray, size_zeroCells, hzc, hol, hnl, ← Nat.add_mul, ← Nat.add_mul]
                congr 1
                omega
        · cases hy
      · exact no_ok
    · exact no_ok
  · exact no_ok

/-- A slot's value; nil may become a box. -/
theorem move'_ok (hI : Inv B ok0 w0 g σ a w) (hd : ∀ d, o.dst = some d → d < a.tmps.size) {x : Operand} (ho : o.op = .move x ∨ o.op = .assign x) :
    StepOk P B ok0 w0 (move' E o σ (opd σ x)) o a w := by
  have hold := move_ok (P := P) (E := E) hI hd ho
  unfold move'
  split
  · rename_i d hx hdst
    rw [hx] at hold
    cases hbx : E.bx d with
    | false => exact hold
    | true =>
      dsimp only [cond_true]
      split
      · rename_i e hT
        have rx := opd_ok hI x
        rw [hx] at rx
        have hv : a.eval x = .slice none 0 0 := rx
        refine go_ok hd fun _ => ⟨_, w, .slice none 0 0, ?_, hI.nilBox d e, by simp [St.newBox, fset_eq], fun _ => ⟨e, [], false, by simp [St.newBox, fset_eq], .inl ⟨by simp [fset_eq], rfl, rfl⟩⟩⟩
        have hr : (execOp a.eval o).run P w = .ok (.value (a.eval x)) w := by rcases ho with ho | ho <;> · unfold execOp; rw [ho]; rfl
        rw [hr, hv]
      · exact no_ok
  · exact hold

end
end Go.AM
