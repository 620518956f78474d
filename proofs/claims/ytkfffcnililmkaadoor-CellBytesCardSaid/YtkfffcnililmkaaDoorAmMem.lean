/- New boxes, new rows, writes: what the invariant becomes. -/
import Derived.Test.YtkfffcnililmkaaDoorAmOps2
namespace Go.AM
open Go.RowKit (Below)
set_option linter.unusedSectionVars false
variable [Lay]
section
variable {P : Program} {B : Bd} {ok0 : Nat → Nat → Prop} {w0 w w' : World} {g : G} {σ : St} {a : Act} {o : Oper} {E : Env}

theorem below_alloc (w : World) (ob : Obj) : Below w.heap.size w (w.alloc ob) := (Below.refl _ _).alloc (Nat.le_refl _) ob
theorem below_drew (w : World) : Below w.heap.size w w.drew := (Below.refl _ _).drew

def G.setBx (g : G) (id b : Nat) (f : Bool) : G := { g with bx := fset g.bx id (some (b, f)) }
def G.setRw (g : G) (id : Nat) (r : Option (Nat × Nat)) : G := { g with rw := fset g.rw id r }

/-- A new box in a new block. -/
theorem Inv.newBox (h : Inv B ok0 w0 g σ a w) {nb id : Nat} (hidp : id < pid0) (hb : Below w.heap.size w w') (h1 : w.heap.size ≤ nb) (h2 : nb < w'.heap.size) {c : Con}
    (hc : ∀ ok g' σ', Ext (okG B ok0 g w) ok g g' σ σ' w w' → ConOk ok g' σ' w' nb false c) :
    Inv B ok0 w0 (g.setBx id nb false) (σ.newBox id c) a w' := by
  have hnb : ∀ id' b f, g.bx id' = some (b, f) → b ≠ nb := fun id' b f hh => by have := (h.bb id' b f hh).2; omega
  have hnr : ∀ id' b u, g.rw id' = some (b, u) → b ≠ nb := fun id' b u hh => by have := (h.rb id' b u hh).2.1; omega
  have hx0 := Ext.of_below h hb
  have hBw : B.n ≤ w.heap.size := by have := h.below.size; have := h.hB; omega
  have hx : Ext (okG B ok0 g w) (okG B ok0 (g.setBx id nb false) w') g (g.setBx id nb false) σ (σ.newBox id c) w w' :=
    { cell := fun b off hk => by
        refine ⟨?_, (hx0.cell b off hk).2⟩
        rcases (hx0.cell b off hk).1 with hk' | ⟨q1, q2, q3, q4⟩
        · exact .inl hk'
        · refine .inr ⟨q1, q2, fun id' he => ?_, q4⟩
          unfold G.setBx at he
          simp only [fset_eq] at he
          split at he
          · cases he
            have := h.okB hk
            omega
          · exact q3 id' he
      box := fun id' ver hv => by
        simp only [St.newBox, G.setBx, fset_eq]
        by_cases hid : id' = id
        · subst hid
          simp only [if_true]
          exact ⟨by omega, fun he => by omega⟩
        · simp only [if_neg hid]
          exact ⟨hv, fun he => ⟨he, fun b f hh => ⟨f, hh⟩, fun e l fz hcc => ⟨l, fz, hcc, rfl⟩, fun hn => hn, fun b f cur T _ hbf hh => ⟨cur, (hb.block b (h.bb id' b f hbf).2).trans hh, rfl⟩⟩⟩
      row := fun id' ver h0 hv => hx0.row id' ver h0 hv }
  have hg := h.grown hb
  exact {
    below := hg.below, hB := h.hB, h0 := h.h0, defers := h.defers, lay := h.lay, tm := h.tm
    nm := fun id' b f hi hh => by
      simp only [G.setBx, fset_eq] at hh
      split at hh
      · omega
      · exact h.nm id' b f hi hh
    bb := fun id' b f hh => by
      simp only [G.setBx, fset_eq] at hh
      split at hh
      · cases hh; exact ⟨.inl (by omega), h2⟩
      · exact hg.bb id' b f hh
    bi := fun i1 i2 b f f' e1 e2 => by
      simp only [G.setBx, fset_eq] at e1 e2
      split at e1 <;> split at e2
      · simp_all
      · cases e1; exact absurd rfl (hnb _ _ _ e2)
      · cases e2; exact absurd rfl (hnb _ _ _ e1)
      · exact h.bi _ _ _ _ _ e1 e2
    rb := fun id' b u hh => by
      obtain ⟨q1, q2, q3⟩ := hg.rb id' b u hh
      refine ⟨q1, q2, fun i2 f he => ?_⟩
      simp only [G.setBx, fset_eq] at he
      split at he
      · cases he; exact hnr id' _ u hh rfl
      · exact q3 i2 f he
    ri := h.ri
    con := fun id' c' hcc => by
      simp only [St.newBox, fset_eq] at hcc
      split at hcc
      · rename_i hid
        cases hcc
        exact .inr ⟨nb, false, by simp [G.setBx, fset_eq, hid], hc _ _ _ hx⟩
      · rename_i hid
        rcases h.con id' c' hcc with ⟨hn, he⟩ | ⟨b, f, hbf, hk⟩
        · exact .inl ⟨by simp [G.setBx, fset_eq, hid, hn], he⟩
        exact .inr ⟨b, f, by simp [G.setBx, fset_eq, hid, hbf], hk.ext hx (hb.block b (h.bb id' b f hbf).2)⟩
    slots := fun t => (h.slots t).ext hx }

/-- New rows in new blocks: of each name that ρ tells, block and cells in use. -/
theorem Inv.newRows (h : Inv B ok0 w0 g σ a w) (hb : Below w.heap.size w w') {ρ : Nat → Option (Option (Nat × Nat))} {σ' : St} {g' : G}
    (hg' : g' = { g with rw := fun id => match ρ id with | some r => r | none => g.rw id })
    (hs : σ' = { σ with r := fun id => match ρ id with | some _ => σ.r id + 1 | none => σ.r id })
    (h1 : ∀ id b u, ρ id = some (some (b, u)) → w.heap.size ≤ b ∧ b < w'.heap.size)
    (h2 : ∀ id id' b u u', ρ id = some (some (b, u)) → ρ id' = some (some (b, u')) → id = id') :
    Inv B ok0 w0 g' σ' a w' ∧ Ext (okG B ok0 g w) (okG B ok0 g' w') g g' σ σ' w w' := by
  have hx0 := Ext.of_below h hb
  have hg := h.grown hb
  have hBw : B.n ≤ w.heap.size := by have := h.below.size; have := h.hB; omega
  subst hg'
  subst hs
  have hx : Ext (okG B ok0 g w) (okG B ok0 { g with rw := fun id => match ρ id with | some r => r | none => g.rw id } w') g { g with rw := fun id => match ρ id with | some r => r | none => g.rw id } σ
      { σ with r := fun id => match ρ id with | some _ => σ.r id + 1 | none => σ.r id } w w' :=
    { cell := fun b off hk => by
        refine ⟨?_, (hx0.cell b off hk).2⟩
        rcases (hx0.cell b off hk).1 with hk' | ⟨q1, q2, q3, q4⟩
        · exact .inl hk'
        · refine .inr ⟨q1, q2, q3, fun id u he => ?_⟩
          simp only at he
          split at he
          · rename_i r hr
            rw [he] at hr
            have := (h1 id b u hr).1
            have := h.okB hk
            omega
          · exact q4 id u he
      box := fun id ver hv => ⟨hv, fun he => ⟨he, fun b f hh => ⟨f, hh⟩, fun e l fz hcc => ⟨l, fz, hcc, rfl⟩, fun hn => hn, fun b f cur T _ hbf hh => ⟨cur, (hb.block b (h.bb id b f hbf).2).trans hh, rfl⟩⟩⟩
      row := fun id ver h0 hv => by
        simp only
        cases hr : ρ id with
        | some r => simp only; exact ⟨by omega, fun he => by omega⟩
        | none => simp only; exact hx0.row id ver h0 hv }
  refine ⟨?_, hx⟩
  exact {
    below := hg.below, hB := h.hB, h0 := h.h0, defers := h.defers, lay := h.lay, tm := h.tm, nm := h.nm, bb := hg.bb, bi := h.bi
    rb := fun id b u hh => by
      simp only at hh
      split at hh
      · rename_i r hr
        rw [hh] at hr
        obtain ⟨q1, q2⟩ := h1 id b u hr
        exact ⟨by omega, q2, fun id' f he => by have := (h.bb id' b f he).2; omega⟩
      · exact hg.rb id b u hh
    ri := fun id id' b u u' e1 e2 => by
      cases q1 : ρ id with
      | some r1 =>
        simp only [q1] at e1
        subst e1
        cases q2 : ρ id' with
        | some r2 => simp only [q2] at e2; subst e2; exact h2 _ _ _ _ _ q1 q2
        | none => simp only [q2] at e2; have := (h1 _ _ _ q1).1; have := (h.rb _ _ _ e2).2.1; omega
      | none =>
        simp only [q1] at e1
        cases q2 : ρ id' with
        | some r2 => simp only [q2] at e2; subst e2; have := (h1 _ _ _ q2).1; have := (h.rb _ _ _ e1).2.1; omega
        | none => simp only [q2] at e2; exact h.ri _ _ _ _ _ e1 e2
    con := fun id c hcc => by
      rcases h.con id c hcc with hn | ⟨b, f, hbf, hk⟩
      · exact .inl hn
      exact .inr ⟨b, f, hbf, hk.ext hx (hb.block b (h.bb id b f hbf).2)⟩
    slots := fun t => (h.slots t).ext hx }

/-- One block's cells are written: the block of box id, or cells behind those in use of row id. -/
theorem setRow_below {b : Nat} {cs : Array Value} (hb : B.n ≤ b ∨ b ∈ B.io) (h : BelowX B w0 w) : BelowX B w0 (w.setRow b cs) where
  os := h.os
  tape := h.tape
  output := h.output
  size := by have := h.size; simp [World.setRow]; exact this
  block := fun k hk hn => (setRow_other w b k cs (by rintro rfl; rcases hb with hb | hb; omega; exact hn hb)).trans (h.block k hk hn)

theorem setRow_size (w : World) (b : Nat) (cs : Array Value) : (w.setRow b cs).heap.size = w.heap.size := by simp [World.setRow]

/-- A box's content is written anew. -/
theorem Inv.writeBox (h : Inv B ok0 w0 g σ a w) {id b : Nat} {c0 c : Con} (hc0 : σ.c id = some c0) (hbx : g.bx id = some (b, false)) {cs : Array Value}
    (harr : ∀ e l fz, c0 = .arr e l fz → ∃ l' fz', c = .arr e l' fz' ∧ List.length (α := e.D) l' = List.length (α := e.D) l) (hcs : ∀ cur T, w.heap[b]? = some (.cells cur T (0, 0)) → cs.size = cur.size)
    (hc : ∀ ok σ', Ext (okG B ok0 g w) ok g g σ σ' w (w.setRow b cs) → ConOk ok g σ' (w.setRow b cs) b false c) :
    Inv B ok0 w0 g (σ.setBox id c) a (w.setRow b cs) := by
  have hBb : B.n ≤ b ∨ b ∈ B.io := by rcases (h.bb id b false hbx).1 with h | h; exact .inl h; exact .inr h.1
  have hx : Ext (okG B ok0 g w) (okG B ok0 g (w.setRow b cs)) g g σ (σ.setBox id c) w (w.setRow b cs) :=
    { cell := fun b' off hk => by
        have hne : b' ≠ b := by
          rcases hk with hk | ⟨_, _, q3, _⟩
          · have := h.h0 _ _ hk
            rintro rfl
            rcases hBb with hBb | hBb
            · omega
            · exact this.2 hBb
          · intro e; subst e; exact q3 id hbx
        refine ⟨?_, ?_⟩
        · rcases hk with hk | ⟨q1, q2, q3, q4⟩
          · exact .inl hk
          · exact .inr ⟨q1, by rw [setRow_size]; exact q2, q3, q4⟩
        · exact cell_setRow_other w b cs _ hne
      box := fun id' ver hv => by
        refine ⟨hv, fun he => ⟨he, fun b f hh => ⟨f, hh⟩, fun e l fz hcc => ?_, fun hn => hn, fun b1 f cur T _ hbf hh => ?_⟩⟩
        · simp only [St.setBox, fset_eq]
          by_cases hid : id' = id
          · subst hid
            rw [hc0] at hcc
            cases hcc
            obtain ⟨l', fz', e1, e2⟩ := harr e l fz rfl
            exact ⟨l', fz', by simp [e1], e2⟩
          · exact ⟨l, fz, by rw [if_neg hid]; exact hcc, rfl⟩
        · by_cases hb1 : b1 = b
          · subst hb1
            exact ⟨cs, setRow_heap w b1 _ _ _ _ hh, hcs cur T hh⟩
          · exact ⟨cur, (setRow_other w b b1 cs hb1).trans hh, rfl⟩
      row := fun id' ver h0 hv => ⟨hv, fun he => ⟨he, fun b' u hh => ⟨hh, setRow_other w b b' cs (fun e => by subst e; exact (h.rb id' _ u hh).2.2 id false hbx)⟩⟩⟩ }
  exact {
    below := setRow_below hBb h.below, hB := h.hB, h0 := h.h0, defers := h.defers, lay := h.lay, tm := h.tm, nm := h.nm
    bb := fun id' b' f' hh => by rw [setRow_size]; exact h.bb id' b' f' hh
    bi := h.bi
    rb := fun id' b' u hh => by rw [setRow_size]; exact h.rb id' b' u hh
    ri := h.ri
    con := fun id' c' hcc => by
      simp only [St.setBox, fset_eq] at hcc
      split at hcc
      · rename_i hid
        cases hcc
        subst hid
        exact .inr ⟨b, false, hbx, hc _ _ hx⟩
      · rename_i hid
        rcases h.con id' c' hcc with hn | ⟨b', f', hbf, hk⟩
        · exact .inl hn
        exact .inr ⟨b', f', hbf, hk.ext hx (setRow_other w b b' cs (fun e => by subst e; exact hid (h.bi _ _ _ _ _ hbf hbx)))⟩
    slots := fun t => (h.slots t).ext hx }

/-- A box's content stays as it is from now on. -/
theorem Inv.freezeTo (h : Inv B ok0 w0 g σ a w) {id b : Nat} {f : Bool} {c0 c1 : Con} (hc0 : σ.c id = some c0) (hbf : g.bx id = some (b, f)) (hid : id < pid0) (harr : ∀ e l fz, c0 = .arr e l fz → ∃ l' fz', c1 = .arr e l' fz' ∧ List.length (α := e.D) l' = List.length (α := e.D) l)
    (hto : ∀ b f ok g' σ', ConOk ok g' σ' w b f c0 → ConOk ok g' σ' w b true c1) :
    ∃ g', g'.bx id = some (b, true) ∧ Inv B ok0 w0 g' (σ.setBox id c1) a w ∧ Ext (okG B ok0 g w) (okG B ok0 g' w) g g' σ (σ.setBox id c1) w w ∧
      ∀ o, okG B ok0 g' w b o := by
  have hk := h.conB hbf hc0
  have hbb : B.n ≤ b ∧ b < w.heap.size := by
    obtain ⟨h1, h2⟩ := h.bb id b f hbf
    rcases h1 with h1 | h1
    · exact ⟨h1, h2⟩
    · omega
  have hx : Ext (okG B ok0 g w) (okG B ok0 (g.setBx id b true) w) g (g.setBx id b true) σ (σ.setBox id c1) w w :=
    { cell := fun b' off hk' => by
        refine ⟨?_, rfl⟩
        rcases hk' with hk' | ⟨q1, q2, q3, q4⟩
        · exact .inl hk'
        · refine .inr ⟨q1, q2, fun id' he => ?_, q4⟩
          simp only [G.setBx, fset_eq] at he
          split at he
          · cases he
          · exact q3 id' he
      box := fun id' ver hv => by
        refine ⟨hv, fun he => ⟨he, fun b' f' hh => ?_, fun e' l' fz' hcc => ?_, fun hn => ?_, fun b' f' cur T _ _ hh => ⟨cur, hh, rfl⟩⟩⟩
        · simp only [G.setBx, fset_eq]
          by_cases hid : id' = id
          · subst hid; rw [hbf] at hh; cases hh; exact ⟨true, by simp⟩
          · exact ⟨f', by rw [if_neg hid]; exact hh⟩
        · simp only [St.setBox, fset_eq]
          by_cases hid : id' = id
          · subst hid; rw [hc0] at hcc; cases hcc; obtain ⟨l', fz'', e1, e2⟩ := harr _ _ _ rfl; exact ⟨l', fz'', by simp [e1], e2⟩
          · exact ⟨l', fz', by rw [if_neg hid]; exact hcc, rfl⟩
        · simp only [G.setBx, fset_eq]
          by_cases hid : id' = id
          · subst hid; rw [hbf] at hn; cases hn
          · rw [if_neg hid]; exact hn
      row := fun id' ver h0 hv => ⟨hv, fun he => ⟨he, fun b' u hh => ⟨hh, rfl⟩⟩⟩ }
  refine ⟨g.setBx id b true, by simp [G.setBx, fset_eq], ?_, hx, fun o => .inr ⟨hbb.1, hbb.2, fun id' he => ?_, fun id' u he => ?_⟩⟩
  · exact {
      below := h.below, hB := h.hB, h0 := h.h0, defers := h.defers, lay := h.lay, tm := h.tm
      nm := fun id' b' f' hi hh => by
        simp only [G.setBx, fset_eq] at hh
        split at hh
        · omega
        · exact h.nm id' b' f' hi hh
      bb := fun id' b' f' hh => by
        simp only [G.setBx, fset_eq] at hh
        split at hh
        · cases hh; exact ⟨.inl hbb.1, hbb.2⟩
        · exact h.bb id' b' f' hh
      bi := fun i1 i2 b' f1 f2 e1 e2 => by
        simp only [G.setBx, fset_eq] at e1 e2
        split at e1 <;> split at e2
        · simp_all
        · cases e1; rename_i q1 q2; rw [q1]; exact (h.bi _ _ _ _ _ e2 hbf).symm
        · cases e2; rename_i q1 q2; rw [q2]; exact h.bi _ _ _ _ _ e1 hbf
        · exact h.bi _ _ _ _ _ e1 e2
      rb := fun id' b' u hh => by
        obtain ⟨q1, q2, q3⟩ := h.rb id' b' u hh
        refine ⟨q1, q2, fun i2 f' he => ?_⟩
        simp only [G.setBx, fset_eq] at he
        split at he
        · cases he; exact q3 id f hbf
        · exact q3 i2 f' he
      ri := h.ri
      con := fun id' c' hcc => by
        simp only [St.setBox, fset_eq] at hcc
        split at hcc
        · rename_i hid
          cases hcc
          exact .inr ⟨b, true, by simp [G.setBx, fset_eq, hid], hto _ _ _ _ _ (hk.ext hx rfl)⟩
        · rename_i hid
          rcases h.con id' c' hcc with ⟨hn, he⟩ | ⟨b', f', hbf', hk'⟩
          · exact .inl ⟨by simp [G.setBx, fset_eq, hid, hn], he⟩
          exact .inr ⟨b', f', by simp [G.setBx, fset_eq, hid, hbf'], hk'.ext hx rfl⟩
      slots := fun t => (h.slots t).ext hx }
  · simp only [G.setBx, fset_eq] at he
    split at he
    · cases he
    · rename_i hid; exact hid (h.bi _ _ _ _ _ he hbf)
  · exact absurd hbf ((h.rb id' b u he).2.2 id f)

theorem Inv.freeze (h : Inv B ok0 w0 g σ a w) {id b : Nat} {f : Bool} {e : Ty} {l : List e.D} {fz : Bool} (hc0 : σ.c id = some (.arr e l fz)) (hbf : g.bx id = some (b, f)) (hid : id < pid0) :
    ∃ g', g'.bx id = some (b, true) ∧ Inv B ok0 w0 g' (σ.setBox id (.arr e l true)) a w ∧ Ext (okG B ok0 g w) (okG B ok0 g' w) g g' σ (σ.setBox id (.arr e l true)) w w ∧
      ∀ o, okG B ok0 g' w b o :=
  h.freezeTo hc0 hbf hid (fun e' l' fz' he => by cases he; exact ⟨l, true, rfl, rfl⟩) fun b f ok g' σ' hk => ⟨rfl, hk.2⟩

/-- A nil slice's box. -/
theorem Inv.freezeNil (h : Inv B ok0 w0 g σ a w) {id : Nat} {e : Ty} {l : List e.D} {fz : Bool} (hc0 : σ.c id = some (.arr e l fz)) (hn : g.bx id = none) :
    Inv B ok0 w0 g (σ.setBox id (.arr e l true)) a w ∧ Ext (okG B ok0 g w) (okG B ok0 g w) g g σ (σ.setBox id (.arr e l true)) w w := by
  have hx : Ext (okG B ok0 g w) (okG B ok0 g w) g g σ (σ.setBox id (.arr e l true)) w w :=
    { cell := fun b' off hk' => ⟨hk', rfl⟩
      box := fun id' ver hv => by
        refine ⟨hv, fun he => ⟨he, fun b' f' hh => ⟨f', hh⟩, fun e' l' fz' hcc => ?_, fun hn => hn, fun b' f' cur T _ _ hh => ⟨cur, hh, rfl⟩⟩⟩
        simp only [St.setBox, fset_eq]
        by_cases hid : id' = id
        · subst hid; rw [hc0] at hcc; cases hcc; exact ⟨l, true, by simp, rfl⟩
        · exact ⟨l', fz', by rw [if_neg hid]; exact hcc, rfl⟩
      row := fun id' ver h0 hv => ⟨hv, fun he => ⟨he, fun b' u hh => ⟨hh, rfl⟩⟩⟩ }
  refine ⟨?_, hx⟩
  exact {
    below := h.below, hB := h.hB, h0 := h.h0, defers := h.defers, lay := h.lay, tm := h.tm, nm := h.nm, bb := h.bb, bi := h.bi, rb := h.rb, ri := h.ri
    con := fun id' c' hcc => by
      simp only [St.setBox, fset_eq] at hcc
      split at hcc
      · rename_i hid
        cases hcc
        subst hid
        rcases h.con id' _ hc0 with ⟨_, e', fz', he⟩ | ⟨b, f, hb, _⟩
        · cases he; exact .inl ⟨hn, e, true, rfl⟩
        · rw [hn] at hb; cases hb
      · rcases h.con id' c' hcc with hn | ⟨b', f', hbf', hk'⟩
        · exact .inl hn
        · exact .inr ⟨b', f', hbf', hk'.ext hx rfl⟩
    slots := fun t => (h.slots t).ext hx }

/-- A variable that is captured. -/
theorem Inv.capture (h : Inv B ok0 w0 g σ a w) {id b : Nat} {f : Bool} {t : Ty} {x : t.D} {gs : List Tag} (hc0 : σ.c id = some (.var t x gs)) (hbf : g.bx id = some (b, f)) (hid : id < pid0) :
    ∃ g', g'.bx id = some (b, true) ∧ Inv B ok0 w0 g' (σ.setBox id (.arr t [x] true)) a w ∧ Ext (okG B ok0 g w) (okG B ok0 g' w) g g' σ (σ.setBox id (.arr t [x] true)) w w ∧
      ∀ o, okG B ok0 g' w b o :=
  h.freezeTo hc0 hbf hid (fun e' l' fz' he => by cases he) fun b f ok g' σ' hk => by
    obtain ⟨_, cs, T, h1, h2, _⟩ := hk
    refine ⟨rfl, cs.toArray, T, h1, by simp [h2.len], by show 1 ≤ maxLen; unfold maxLen; exact of_decide_eq_true rfl, fun i y hi => ?_⟩
    cases i with
    | zero =>
      simp at hi
      subst hi
      exact ⟨cs, h2, fun j u hj => by simpa using hj⟩
    | succ i => simp at hi

/-- A nil slice, as a box. -/
theorem Inv.nilBox (h : Inv B ok0 w0 g σ a w) (id : Nat) (e : Ty) :
    Inv B ok0 w0 { g with bx := fset g.bx id none } (σ.newBox id (.arr e [] false)) a w := by
  have hx : Ext (okG B ok0 g w) (okG B ok0 { g with bx := fset g.bx id none } w) g { g with bx := fset g.bx id none } σ (σ.newBox id (.arr e [] false)) w w :=
    { cell := fun b' off hk' => by
        refine ⟨?_, rfl⟩
        rcases hk' with hk' | ⟨q1, q2, q3, q4⟩
        · exact .inl hk'
        · refine .inr ⟨q1, q2, fun id' he => ?_, q4⟩
          simp only [fset_eq] at he
          split at he
          · cases he
          · exact q3 id' he
      box := fun id' ver hv => by
        simp only [St.newBox, fset_eq]
        by_cases hid : id' = id
        · subst hid
          simp only [if_true]
          exact ⟨by omega, fun he => by omega⟩
        · simp only [if_neg hid]
          exact ⟨hv, fun he => ⟨he, fun b f hh => ⟨f, hh⟩, fun e l fz hcc => ⟨l, fz, hcc, rfl⟩, fun hn => hn, fun b f cur T _ hbf hh => ⟨cur, hh, rfl⟩⟩⟩
      row := fun id' ver h0 hv => ⟨hv, fun he => ⟨he, fun b' u hh => ⟨hh, rfl⟩⟩⟩ }
  exact {
    below := h.below, hB := h.hB, h0 := h.h0, defers := h.defers, lay := h.lay, tm := h.tm
    nm := fun id' b f hi hh => by
      simp only [fset_eq] at hh
      split at hh
      · cases hh
      · exact h.nm id' b f hi hh
    bb := fun id' b f hh => by
      simp only [fset_eq] at hh
      split at hh
      · cases hh
      · exact h.bb id' b f hh
    bi := fun i1 i2 b f f' e1 e2 => by
      simp only [fset_eq] at e1 e2
      split at e1 <;> split at e2 <;> first | cases e1 | cases e2 | exact h.bi _ _ _ _ _ e1 e2
    rb := fun id' b u hh => by
      obtain ⟨q1, q2, q3⟩ := h.rb id' b u hh
      refine ⟨q1, q2, fun i2 f he => ?_⟩
      simp only [fset_eq] at he
      split at he
      · cases he
      · exact q3 i2 f he
    ri := h.ri
    con := fun id' c' hcc => by
      simp only [St.newBox, fset_eq] at hcc
      split at hcc
      · rename_i hid
        cases hcc
        exact .inl ⟨by simp [fset_eq, hid], e, false, rfl⟩
      · rename_i hid
        rcases h.con id' c' hcc with ⟨hn, he⟩ | ⟨b, f, hbf, hk⟩
        · exact .inl ⟨by simp [fset_eq, hid, hn], he⟩
        · exact .inr ⟨b, f, by simp [fset_eq, hid, hbf], hk.ext hx rfl⟩
    slots := fun t => (h.slots t).ext hx }

/-- A box's block is written, and the box is another one from then on. -/
theorem Inv.regrow (h : Inv B ok0 w0 g σ a w) {id b : Nat} {c : Con} (hbx : g.bx id = some (b, false)) {cs : Array Value}
    (hc : ∀ ok σ', Ext (okG B ok0 g w) ok g g σ σ' w (w.setRow b cs) → ConOk ok g σ' (w.setRow b cs) b false c) (hcs : ∀ cur T, w.heap[b]? = some (.cells cur T (0, 0)) → cs.size = cur.size) :
    Inv B ok0 w0 g (σ.newBox id c) a (w.setRow b cs) := by
  have hBb : B.n ≤ b ∨ b ∈ B.io := by rcases (h.bb id b false hbx).1 with h | h; exact .inl h; exact .inr h.1
  have hx : Ext (okG B ok0 g w) (okG B ok0 g (w.setRow b cs)) g g σ (σ.newBox id c) w (w.setRow b cs) :=
    { cell := fun b' off hk => by
        have hne : b' ≠ b := by
          rcases hk with hk | ⟨_, _, q3, _⟩
          · have := h.h0 _ _ hk
            rintro rfl
            rcases hBb with hBb | hBb
            · omega
            · exact this.2 hBb
          · intro e; subst e; exact q3 id hbx
        refine ⟨?_, cell_setRow_other w b cs _ hne⟩
        rcases hk with hk | ⟨q1, q2, q3, q4⟩
        · exact .inl hk
        · exact .inr ⟨q1, by rw [setRow_size]; exact q2, q3, q4⟩
      box := fun id' ver hv => by
        simp only [St.newBox, fset_eq]
        by_cases hid : id' = id
        · subst hid
          simp only [if_true]
          exact ⟨by omega, fun he => by omega⟩
        · simp only [if_neg hid]
          refine ⟨hv, fun he => ⟨he, fun b f hh => ⟨f, hh⟩, fun e l fz hcc => ⟨l, fz, hcc, rfl⟩, fun hn => hn, fun b1 f cur T _ hbf hh => ?_⟩⟩
          by_cases hb1 : b1 = b
          · subst hb1
            exact ⟨cs, setRow_heap w b1 _ _ _ _ hh, hcs cur T hh⟩
          · exact ⟨cur, (setRow_other w b b1 cs hb1).trans hh, rfl⟩
      row := fun id' ver h0 hv => ⟨hv, fun he => ⟨he, fun b' u hh => ⟨hh, setRow_other w b b' cs (fun e => by subst e; exact (h.rb id' _ u hh).2.2 id false hbx)⟩⟩⟩ }
  exact {
    below := setRow_below hBb h.below, hB := h.hB, h0 := h.h0, defers := h.defers, lay := h.lay, tm := h.tm, nm := h.nm
    bb := fun id' b' f' hh => by rw [setRow_size]; exact h.bb id' b' f' hh
    bi := h.bi
    rb := fun id' b' u hh => by rw [setRow_size]; exact h.rb id' b' u hh
    ri := h.ri
    con := fun id' c' hcc => by
      simp only [St.newBox, fset_eq] at hcc
      split at hcc
      · rename_i hid
        cases hcc
        subst hid
        exact .inr ⟨b, false, hbx, hc _ _ hx⟩
      · rename_i hid
        rcases h.con id' c' hcc with hn | ⟨b', f', hbf, hk⟩
        · exact .inl hn
        exact .inr ⟨b', f', hbf, hk.ext hx (setRow_other w b b' cs (fun e => by subst e; exact hid (h.bi _ _ _ _ _ hbf hbx)))⟩
    slots := fun t => (h.slots t).ext hx }

end
end Go.AM
