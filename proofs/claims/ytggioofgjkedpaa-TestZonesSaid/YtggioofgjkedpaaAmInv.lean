/- What a state of the abstract machine says of slots and memory; how it is kept when memory grows or a part of it is written. -/
import Derived.Test.YtggioofgjkedpaaAmRep
namespace Go.AM
open Go.RowKit (Below)

/-- Where boxes lie (and whether they stay as they are from now on), and rows that may be appended to (and how many of their cells are in use). -/
structure G where
  bx : Nat → Option (Nat × Bool)
  rw : Nat → Option (Nat × Nat)

def okG (B : Nat) (ok0 : Nat → Nat → Prop) (g : G) (w : World) (b o : Nat) : Prop :=
  ok0 b o ∨ (B ≤ b ∧ b < w.heap.size ∧ (∀ id, g.bx id ≠ some (b, false)) ∧ ∀ id u, g.rw id = some (b, u) → o < u)

/-- A slice that may be appended to: nil, or the row 'id'. -/
def OwnSl (g : G) (w : World) (sz id : Nat) (v : Option Value) : Prop :=
  v = some (.slice none 0 0) ∨ ∃ b n cap cur T, v = some (.slice (some ⟨b, 0, none⟩) n cap) ∧ g.rw id = some (b, n * sz) ∧
    w.heap[b]? = some (.cells cur T (0, 0)) ∧ cur.size = cap * sz ∧ n ≤ cap ∧ cap ≤ maxLen

def TagOk (g : G) (r : Nat → Nat) (w : World) (cs : List Value) (t : Tag) : Prop :=
  (t.id = 0 → cs[t.off]? = some (.slice none 0 0)) ∧ (t.id ≠ 0 → t.ver ≤ r t.id ∧ (r t.id = t.ver → OwnSl g w t.sz t.id cs[t.off]?))

def TagsOk (g : G) (r : Nat → Nat) (w : World) (gs : List Tag) (cs : List Value) : Prop := ∀ t ∈ gs, TagOk g r w cs t

section
variable (ok : Nat → Nat → Prop) (g : G) (σ : St) (w : World)

def RepP (id ver off : Nat) (v : Value) : Prop := ver ≤ σ.v id ∧ (σ.v id = ver → ∃ b f, g.bx id = some (b, f) ∧ v = .pointer (some ⟨b, off, none⟩))

def RepDat (t : Ty) (x : t.D) (gs : List Tag) (v : Value) : Prop := ∃ cs, RepD ok w t x cs ∧ v = valOf t cs ∧ TagsOk g σ.r w gs cs

/-- A pointer into what is never written. -/
def RepE (t : Ty) (x : t.D) (off : Nat) (v : Value) : Prop := ∃ b o ys, v = .pointer (some ⟨b, o + off, none⟩) ∧ RepD ok w t x ys ∧ ∀ j u, ys[j]? = some u → ok b (o + j) ∧ w.cell? ⟨b, o + j, none⟩ = some u

def RepA : AV → Value → Prop
  | .undef, _ => True
  | .none, v => v = undef
  | .dat t x gs, v => RepDat ok g σ w t x gs v
  | .nils, v => v = .slice none 0 0
  | .ptr id ver off, v => RepP g σ id ver off v
  | .aptr id ver i off, v => ver ≤ σ.v id ∧ (σ.v id = ver → ∃ b f e l fz, g.bx id = some (b, f) ∧ σ.c id = some (.arr e l fz) ∧ i < l.length ∧ v = .pointer (some ⟨b, i * e.sz + off, none⟩))
  | .ept t x off, v => RepE ok w t x off v
  | .slw id ver, v => ver ≤ σ.v id ∧ (σ.v id = ver → ∃ b f e l fz, g.bx id = some (b, f) ∧ σ.c id = some (.arr e l fz) ∧ v = .slice (some ⟨b, 0, none⟩) l.length l.length)
  | .slm id ver lo n, v => ver ≤ σ.v id ∧ (σ.v id = ver → ∃ b f e l fz A cap, g.bx id = some (b, f) ∧ σ.c id = some (.arr e l fz) ∧ lo + n ≤ l.length ∧ n ≤ cap ∧ cap ≤ maxLen ∧
      (n ≠ 0 → A = some ⟨b, lo * e.sz, none⟩) ∧ (∀ a, A = some a → a.spot = none) ∧ v = .slice A n cap)
  | .fn f caps, v => ∃ vs : List Value, v = .func (.func f) #[] vs.toArray ∧ All2 (fun (d : Dat) u => RepE ok w d.t d.x 0 u) caps vs
  | .tup ds, v => ∃ vs : List Value, v = .tuple vs.toArray ∧ All2 (fun (d : Dat) u => RepDat ok g σ w d.t d.x d.g u) ds vs

/-- What box b holds; f: it stays as it is. -/
def ConOk (b : Nat) (f : Bool) : Con → Prop
  | .var t x gs => f = false ∧ ∃ cs T, w.heap[b]? = some (.cells cs.toArray T (0, 0)) ∧ RepD ok w t x cs ∧ TagsOk g σ.r w gs cs
  | .arr e l fz => f = fz ∧ ∃ cur T, w.heap[b]? = some (.cells cur T (0, 0)) ∧ cur.size = l.length * e.sz ∧ l.length ≤ maxLen ∧
      ∀ (i : Nat) (x : e.D), l[i]? = some x → ∃ ys, RepD ok w e x ys ∧ ∀ j u, ys[j]? = some u → cur[i * e.sz + j]? = some u
  | .val a => f = false ∧ ∃ v T, w.heap[b]? = some (.cells #[v] T (0, 0)) ∧ RepA ok g σ w a v

end

/-- The whole: since w0 nothing below B has turned. -/
structure Inv (B : Nat) (ok0 : Nat → Nat → Prop) (w0 : World) (g : G) (σ : St) (a : Act) (w : World) : Prop where
  below : Below B w0 w
  hB : B = w0.heap.size
  h0 : ∀ b o, ok0 b o → b < B
  defers : a.defers = []
  bb : ∀ id b f, g.bx id = some (b, f) → B ≤ b ∧ b < w.heap.size
  bi : ∀ id id' b f f', g.bx id = some (b, f) → g.bx id' = some (b, f') → id = id'
  rb : ∀ id b u, g.rw id = some (b, u) → B ≤ b ∧ b < w.heap.size ∧ ∀ id' f, g.bx id' ≠ some (b, f)
  ri : ∀ id id' b u u', g.rw id = some (b, u) → g.rw id' = some (b, u') → id = id'
  con : ∀ id c, σ.c id = some c → ∃ b f, g.bx id = some (b, f) ∧ ConOk (okG B ok0 g w) g σ w b f c
  slots : ∀ t, RepA (okG B ok0 g w) g σ w (σ.t t) (a.tmps.getD t undef)

/-- From one state of memory to another: what was told of slots is still so. -/
structure Ext (ok ok' : Nat → Nat → Prop) (g g' : G) (σ σ' : St) (w w' : World) : Prop where
  cell : ∀ b o, ok b o → ok' b o ∧ w'.cell? ⟨b, o, none⟩ = w.cell? ⟨b, o, none⟩
  box : ∀ id ver, ver ≤ σ.v id → ver ≤ σ'.v id ∧ (σ'.v id = ver → σ.v id = ver ∧ (∀ b f, g.bx id = some (b, f) → ∃ f', g'.bx id = some (b, f')) ∧
    (∀ e l fz, σ.c id = some (.arr e l fz) → ∃ l' fz', σ'.c id = some (.arr e l' fz') ∧ List.length (α := e.D) l' = List.length (α := e.D) l))
  row : ∀ id ver, id ≠ 0 → ver ≤ σ.r id → ver ≤ σ'.r id ∧ (σ'.r id = ver → σ.r id = ver ∧ (∀ b u, g.rw id = some (b, u) → g'.rw id = some (b, u) ∧ w'.heap[b]? = w.heap[b]?))

section
variable {ok ok' : Nat → Nat → Prop} {g g' : G} {σ σ' : St} {w w' : World}

theorem OwnSl.ext {sz id : Nat} {v : Option Value} (h : OwnSl g w sz id v) (hr : ∀ b u, g.rw id = some (b, u) → g'.rw id = some (b, u) ∧ w'.heap[b]? = w.heap[b]?) : OwnSl g' w' sz id v := by
  rcases h with h | ⟨b, n, cap, cur, T, hv, h1, h2, rest⟩
  · exact .inl h
  · obtain ⟨h3, h4⟩ := hr _ _ h1
    exact .inr ⟨b, n, cap, cur, T, hv, h3, h4.trans h2, rest⟩

theorem TagsOk.ext {gs : List Tag} {cs : List Value} (hx : Ext ok ok' g g' σ σ' w w') (h : TagsOk g σ.r w gs cs) : TagsOk g' σ'.r w' gs cs := by
  intro t ht
  obtain ⟨h1, h2⟩ := h t ht
  refine ⟨h1, fun h0 => ?_⟩
  obtain ⟨h3, h4⟩ := h2 h0
  obtain ⟨h5, h6⟩ := hx.row t.id t.ver h0 h3
  exact ⟨h5, fun he => (h4 (h6 he).1).ext (h6 he).2⟩

theorem RepP.ext {id ver off : Nat} {v : Value} (hx : Ext ok ok' g g' σ σ' w w') (h : RepP g σ id ver off v) : RepP g' σ' id ver off v := by
  obtain ⟨h1, h2⟩ := h
  obtain ⟨h3, h4⟩ := hx.box id ver h1
  refine ⟨h3, fun he => ?_⟩
  obtain ⟨h5, h6, _⟩ := h4 he
  obtain ⟨b, f, hb, hv⟩ := h2 h5
  obtain ⟨f', hb'⟩ := h6 b f hb
  exact ⟨b, f', hb', hv⟩

theorem RepDat.ext {t : Ty} {x : t.D} {gs : List Tag} {v : Value} (hx : Ext ok ok' g g' σ σ' w w') (h : RepDat ok g σ w t x gs v) : RepDat ok' g' σ' w' t x gs v := by
  obtain ⟨cs, h1, h2, h3⟩ := h
  exact ⟨cs, h1.mono hx.cell, h2, h3.ext hx⟩

theorem RepE.ext {t : Ty} {x : t.D} {off : Nat} {v : Value} (hx : Ext ok ok' g g' σ σ' w w') (h : RepE ok w t x off v) : RepE ok' w' t x off v := by
  obtain ⟨b, o, ys, hv, hr, hc⟩ := h
  refine ⟨b, o, ys, hv, hr.mono hx.cell, fun j u hj => ?_⟩
  obtain ⟨h1, h2⟩ := hc j u hj
  obtain ⟨h3, h4⟩ := hx.cell _ _ h1
  exact ⟨h3, h4.trans h2⟩

theorem RepE.mono (hm : ∀ b o, ok b o → ok' b o) {t : Ty} {x : t.D} {off : Nat} {v : Value} (h : RepE ok w t x off v) : RepE ok' w t x off v := by
  obtain ⟨b, o, ys, h1, h2, h3⟩ := h
  exact ⟨b, o, ys, h1, h2.mono fun b o hk => ⟨hm b o hk, rfl⟩, fun j u hj => ⟨hm _ _ (h3 j u hj).1, (h3 j u hj).2⟩⟩

theorem RepA.ext {a : AV} {v : Value} (hx : Ext ok ok' g g' σ σ' w w') (h : RepA ok g σ w a v) : RepA ok' g' σ' w' a v := by
  cases a with
  | undef => trivial
  | none => exact h
  | dat t x gs => exact RepDat.ext hx h
  | nils => exact h
  | ptr id ver off => exact RepP.ext hx h
  | aptr id ver i off =>
    obtain ⟨h1, h2⟩ := h
    obtain ⟨h3, h4⟩ := hx.box id ver h1
    refine ⟨h3, fun he => ?_⟩
    obtain ⟨h5, h6, h7⟩ := h4 he
    obtain ⟨b, f, e, l, fz, hb, hc, hi, hv⟩ := h2 h5
    obtain ⟨f', hb'⟩ := h6 b f hb
    obtain ⟨l', fz', hc', hl'⟩ := h7 e l fz hc
    exact ⟨b, f', e, l', fz', hb', hc', by rw [hl']; exact hi, hv⟩
  | ept t x off => exact RepE.ext hx h
  | slw id ver =>
    obtain ⟨h1, h2⟩ := h
    obtain ⟨h3, h4⟩ := hx.box id ver h1
    refine ⟨h3, fun he => ?_⟩
    obtain ⟨h5, h6, h7⟩ := h4 he
    obtain ⟨b, f, e, l, fz, hb, hc, hv⟩ := h2 h5
    obtain ⟨f', hb'⟩ := h6 b f hb
    obtain ⟨l', fz', hc', hl'⟩ := h7 e l fz hc
    exact ⟨b, f', e, l', fz', hb', hc', by rw [hl']; exact hv⟩
  | slm id ver lo n =>
    obtain ⟨h1, h2⟩ := h
    obtain ⟨h3, h4⟩ := hx.box id ver h1
    refine ⟨h3, fun he => ?_⟩
    obtain ⟨h5, h6, h7⟩ := h4 he
    obtain ⟨b, f, e, l, fz, A, cap, hb, hc, hl, rest⟩ := h2 h5
    obtain ⟨f', hb'⟩ := h6 b f hb
    obtain ⟨l', fz', hc', hl'⟩ := h7 e l fz hc
    exact ⟨b, f', e, l', fz', A, cap, hb', hc', by rw [hl']; exact hl, rest⟩
  | fn f caps =>
    obtain ⟨vs, hv, hf⟩ := h
    exact ⟨vs, hv, hf.imp fun _ _ hp => hp.ext hx⟩
  | tup ds =>
    obtain ⟨vs, hv, hf⟩ := h
    exact ⟨vs, hv, hf.imp fun _ _ hp => hp.ext hx⟩

theorem ConOk.ext {b : Nat} {f : Bool} {c : Con} (hx : Ext ok ok' g g' σ σ' w w') (hb : w'.heap[b]? = w.heap[b]?) (h : ConOk ok g σ w b f c) : ConOk ok' g' σ' w' b f c := by
  cases c with
  | var t x gs =>
    obtain ⟨hf, cs, T, h1, h2, h3⟩ := h
    exact ⟨hf, cs, T, hb.trans h1, h2.mono hx.cell, h3.ext hx⟩
  | arr e l fz =>
    obtain ⟨hf, cur, T, h1, h2, hm, h3⟩ := h
    refine ⟨hf, cur, T, hb.trans h1, h2, hm, fun i x hi => ?_⟩
    obtain ⟨ys, h4, h5⟩ := h3 i x hi
    exact ⟨ys, h4.mono hx.cell, h5⟩
  | val a =>
    obtain ⟨hf, v, T, h1, h2⟩ := h
    exact ⟨hf, v, T, hb.trans h1, h2.ext hx⟩

end

section
variable {B : Nat} {ok0 : Nat → Nat → Prop} {w0 w w' : World} {g g' : G} {σ σ' : St} {a a' : Act}

theorem Inv.okB (h : Inv B ok0 w0 g σ a w) {b o : Nat} (hk : okG B ok0 g w b o) : b < w.heap.size := by
  rcases hk with hk | ⟨_, hk, _⟩
  · have := h.h0 b o hk; have := h.below.size; have := h.hB; omega
  · exact hk

/-- Only new blocks: nothing that was told turns. -/
theorem Ext.of_below (h : Inv B ok0 w0 g σ a w) (hb : Below w.heap.size w w') : Ext (okG B ok0 g w) (okG B ok0 g w') g g σ σ w w' where
  cell := fun b o hk => by
    have hlt := h.okB hk
    refine ⟨?_, hb.cell (p := ⟨b, o, none⟩) hlt⟩
    rcases hk with hk | ⟨h1, h2, h3⟩
    · exact .inl hk
    · exact .inr ⟨h1, Nat.lt_of_lt_of_le h2 hb.size, h3⟩
  box := fun id ver hv => ⟨hv, fun he => ⟨he, fun b f hbf => ⟨f, hbf⟩, fun e l fz hc => ⟨l, fz, hc, rfl⟩⟩⟩
  row := fun id ver _ hv => ⟨hv, fun he => ⟨he, fun b u hbu => ⟨hbu, hb.block b (h.rb id b u hbu).2.1⟩⟩⟩

theorem Inv.grown (h : Inv B ok0 w0 g σ a w) (hb : Below w.heap.size w w') : Inv B ok0 w0 g σ a w' where
  below := h.below.trans (hb.mono (by have := h.below.size; have := h.hB; omega))
  hB := h.hB
  h0 := h.h0
  defers := h.defers
  bb := fun id b f hbf => ⟨(h.bb id b f hbf).1, Nat.lt_of_lt_of_le (h.bb id b f hbf).2 hb.size⟩
  bi := h.bi
  rb := fun id b u hbu => ⟨(h.rb id b u hbu).1, Nat.lt_of_lt_of_le (h.rb id b u hbu).2.1 hb.size, (h.rb id b u hbu).2.2⟩
  ri := h.ri
  con := fun id c hc => by
    obtain ⟨b, f, hbf, hk⟩ := h.con id c hc
    exact ⟨b, f, hbf, hk.ext (Ext.of_below h hb) (hb.block b (h.bb id b f hbf).2)⟩
  slots := fun t => (h.slots t).ext (Ext.of_below h hb)

theorem getD_set {xs : Array Value} {d t : Nat} {v : Value} (hd : d < xs.size) : (xs.setIfInBounds d v).getD t undef = if t = d then v else xs.getD t undef := by
  by_cases h : t = d
  · subst h; simp [Array.getD_eq_getD_getElem?, hd]
  · rw [if_neg h]; simp [Array.getD_eq_getD_getElem?, Array.getElem?_setIfInBounds_ne (Ne.symm h)]

theorem fset_eq {α : Type} (f : Nat → α) (k : Nat) (x : α) (i : Nat) : fset f k x i = if i = k then x else f i := by
  unfold fset
  by_cases h : i = k
  · subst h; simp
  · have : Nat.beq i k = false := by rw [Bool.eq_false_iff]; intro e; exact h (Nat.eq_of_beq_eq_true e)
    simp [this, h]

/-- A slot is written. -/
theorem Inv.put (h : Inv B ok0 w0 g σ a w) {dst : Option Nat} {av : AV} {v : Value} (hv : RepA (okG B ok0 g w) g σ w av v) (hd : ∀ d, dst = some d → d < a.tmps.size) :
    Inv B ok0 w0 g (σ.setT dst av) (a.put dst v) w := by
  cases dst with
  | none => exact h
  | some d =>
    exact { below := h.below, hB := h.hB, h0 := h.h0, defers := h.defers, bb := h.bb, bi := h.bi, rb := h.rb, ri := h.ri, con := h.con,
            slots := fun t => by
              show RepA _ g _ w (fset σ.t d av t) ((a.tmps.setIfInBounds d v).getD t undef)
              rw [getD_set (hd d rfl), fset_eq]
              by_cases ht : t = d
              · rw [if_pos ht, if_pos ht]; exact hv
              · rw [if_neg ht, if_neg ht]; exact h.slots t }

end
end Go.AM
