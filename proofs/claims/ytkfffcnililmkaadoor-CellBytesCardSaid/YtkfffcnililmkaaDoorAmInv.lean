/- What a state of the abstract machine says of slots and memory; how it is kept when memory grows or a part of it is written. -/
import Derived.Test.YtkfffcnililmkaaDoorAmRep
namespace Go.AM
open Go.RowKit (Below)

/-- Where boxes lie (and whether they stay as they are from now on), and rows that may be appended to (and how many of their cells are in use). -/
structure G where
  bx : Nat → Option (Nat × Bool)
  rw : Nat → Option (Nat × Nat)

/-- What was there when the call began: so many blocks; of these the ones that were handed over to be written. -/
structure Bd where
  n : Nat
  io : List Nat

/-- Nothing has turned below B but in the blocks that may be written. -/
structure BelowX (B : Bd) (w w' : World) : Prop where
  os : w'.os = w.os
  tape : w'.tape = w.tape
  output : w'.output = w.output
  size : w.heap.size ≤ w'.heap.size
  block : ∀ k, k < B.n → k ∉ B.io → w'.heap[k]? = w.heap[k]?

theorem BelowX.trans_below {B : Bd} {a b c : World} (h : BelowX B a b) (k : Below B.n b c) : BelowX B a c :=
  ⟨k.os.trans h.os, k.tape.trans h.tape, k.output.trans h.output, Nat.le_trans h.size k.size, fun i hi hn => (k.block i hi).trans (h.block i hi hn)⟩

theorem BelowX.trans_io {B : Bd} {bs : List Nat} {a b c : World} (h : BelowX B a b) (k : BelowX ⟨b.heap.size, bs⟩ b c) (hB : B.n ≤ b.heap.size) (hs : ∀ x ∈ bs, B.n ≤ x ∨ x ∈ B.io) : BelowX B a c :=
  ⟨k.os.trans h.os, k.tape.trans h.tape, k.output.trans h.output, Nat.le_trans h.size k.size, fun i hi hn => (k.block i (by show i < b.heap.size; omega) fun hm => by rcases hs i hm with h | h; omega; exact hn h).trans (h.block i hi hn)⟩

theorem BelowX.refl (B : Bd) (w : World) : BelowX B w w := ⟨rfl, rfl, rfl, Nat.le_refl _, fun _ _ _ => rfl⟩

theorem BelowX.below {n : Nat} {w w' : World} (h : BelowX ⟨n, []⟩ w w') : Below n w w' := ⟨h.os, h.tape, h.output, h.size, fun k hk => h.block k hk (by simp)⟩
theorem BelowX.of_below {n : Nat} {io : List Nat} {w w' : World} (h : Below n w w') : BelowX ⟨n, io⟩ w w' := ⟨h.os, h.tape, h.output, h.size, fun k hk _ => h.block k hk⟩

def okG (B : Bd) (ok0 : Nat → Nat → Prop) (g : G) (w : World) (b o : Nat) : Prop :=
  ok0 b o ∨ (B.n ≤ b ∧ b < w.heap.size ∧ (∀ id, g.bx id ≠ some (b, false)) ∧ ∀ id u, g.rw id = some (b, u) → o < u)

/-- A slice that may be appended to: nil, or the row 'id'. -/
def OwnSl (g : G) (w : World) (sz id : Nat) (v : Option Value) : Prop :=
  v = some (.slice none 0 0) ∨ ∃ b n cap cur T, v = some (.slice (some ⟨b, 0, none⟩) n cap) ∧ g.rw id = some (b, n * sz) ∧
    w.heap[b]? = some (.cells cur T (0, 0)) ∧ cur.size = cap * sz ∧ n ≤ cap ∧ cap ≤ maxLen

def TagOk (g : G) (r : Nat → Nat) (w : World) (cs : List Value) (t : Tag) : Prop :=
  (t.id = 0 → cs[t.off]? = some (.slice none 0 0)) ∧ (t.id ≠ 0 → t.ver ≤ r t.id ∧ (r t.id = t.ver → OwnSl g w t.sz t.id cs[t.off]?))

def TagsOk (g : G) (r : Nat → Nat) (w : World) (gs : List Tag) (cs : List Value) : Prop := ∀ t ∈ gs, TagOk g r w cs t

/-- A slice of a whole box: nil, or its block. -/
def SlwOk (g : G) (w : World) (id sz n : Nat) (v : Value) : Prop :=
  (g.bx id = none ∧ n = 0 ∧ v = .slice none 0 0) ∨ ∃ b f cap cur T, g.bx id = some (b, f) ∧ w.heap[b]? = some (.cells cur T (0, 0)) ∧ cur.size = cap * sz ∧ n ≤ cap ∧ cap ≤ maxLen ∧ v = .slice (some ⟨b, 0, none⟩) n cap

section
variable (ok : Nat → Nat → Prop) (g : G) (σ : St) (w : World)

def RepP (id ver off : Nat) (v : Value) : Prop := ver ≤ σ.v id ∧ (σ.v id = ver → ∃ b f, g.bx id = some (b, f) ∧ v = .pointer (some ⟨b, off, none⟩))

def RepDat (t : Ty) (x : t.D) (gs : List Tag) (v : Value) : Prop := ∃ cs, RepD ok w t x cs ∧ v = valOf t cs ∧ TagsOk g σ.r w gs cs

/-- A pointer into what is never written. -/
def RepE (t : Ty) (x : t.D) (off : Nat) (v : Value) : Prop := ∃ b o ys, v = .pointer (some ⟨b, o + off, none⟩) ∧ RepD ok w t x ys ∧ ∀ j u, ys[j]? = some u → ok b (o + j) ∧ w.cell? ⟨b, o + j, none⟩ = some u

def RepA : AV → Value → Prop
  | .undef, _ => True
  | .none, v => v = undef
  | .dat t x gs, v => RepDat ok g σ w t x gs v
  | .nils, v => v = .slice none 0 0
  | .ptr id ver off, v => RepP g σ id ver off v
  | .aptr id ver i off, v => ver ≤ σ.v id ∧ (σ.v id = ver → ∃ b f e l fz, g.bx id = some (b, f) ∧ σ.c id = some (.arr e l fz) ∧ i < l.length ∧ v = .pointer (some ⟨b, i * e.sz + off, none⟩))
  | .ept t x off, v => RepE ok w t x off v
  | .slw id ver, v => ver ≤ σ.v id ∧ (σ.v id = ver → ∃ e l fz, σ.c id = some (.arr e l fz) ∧ SlwOk g w id e.sz (List.length (α := e.D) l) v)
  | .slm id ver lo n, v => ver ≤ σ.v id ∧ (σ.v id = ver → ∃ e l fz A cap, σ.c id = some (.arr e l fz) ∧ lo + n ≤ List.length (α := e.D) l ∧ n ≤ cap ∧ cap ≤ maxLen ∧
      (n ≠ 0 → ∃ b f, g.bx id = some (b, f) ∧ A = some ⟨b, lo * e.sz, none⟩) ∧ (∀ a, A = some a → a.spot = none) ∧ v = .slice A n cap)
  | .fn f caps, v => ∃ vs : List Value, v = .func (.func f) #[] vs.toArray ∧ All2 (fun (d : Dat) u => RepE ok w d.t d.x 0 u) caps vs
  | .clo f ps, v => ∃ vs : List Value, v = .func (.func f) #[] vs.toArray ∧ All2 (fun (p : Nat × Nat) u => RepP g σ p.1 p.2 0 u) ps vs
  | .iov _ _, _ => False
  | .tup ds, v => ∃ vs : List Value, v = .tuple vs.toArray ∧ All2 (fun (d : Dat) u => RepDat ok g σ w d.t d.x d.g u) ds vs

/-- What box b holds; f: it stays as it is. -/
def ConOk (b : Nat) (f : Bool) : Con → Prop
  | .var t x gs => f = false ∧ ∃ cs T, w.heap[b]? = some (.cells cs.toArray T (0, 0)) ∧ RepD ok w t x cs ∧ TagsOk g σ.r w gs cs
  | .arr e l fz => f = fz ∧ ∃ cur T, w.heap[b]? = some (.cells cur T (0, 0)) ∧ l.length * e.sz ≤ cur.size ∧ l.length ≤ maxLen ∧
      ∀ (i : Nat) (x : e.D), l[i]? = some x → ∃ ys, RepD ok w e x ys ∧ ∀ j u, ys[j]? = some u → cur[i * e.sz + j]? = some u
  | .val a => f = false ∧ ∃ v T, w.heap[b]? = some (.cells #[v] T (0, 0)) ∧ RepA ok g σ w a v

end

/-- A box without a block: a nil slice. -/
def NilC (g : G) (id : Nat) (c : Con) : Prop := g.bx id = none ∧ ∃ e fz, c = .arr e [] fz

/-- What is known of package variables while the program runs; it hangs on blocks below z alone. -/
class Lay where
  ok : Nat → World → Prop
  lt : ∀ z w, ok z w → z ≤ w.heap.size
  keep : ∀ z w w', ok z w → w.heap.size ≤ w'.heap.size → (∀ k, k < z → w'.heap[k]? = w.heap[k]?) → ok z w'

set_option linter.unusedSectionVars false
variable [Lay]

/-- The whole: since w0 nothing below B has turned. -/
structure Inv (B : Bd) (ok0 : Nat → Nat → Prop) (w0 : World) (g : G) (σ : St) (a : Act) (w : World) : Prop where
  below : BelowX B w0 w
  hB : B.n = w0.heap.size
  h0 : ∀ b o, ok0 b o → b < B.n ∧ b ∉ B.io
  defers : a.defers = []
  lay : ∃ z, Lay.ok z w0 ∧ ∀ b ∈ B.io, z ≤ b
  tm : a.tmps.size ≤ pid0
  nm : ∀ id b f, pid0 ≤ id → g.bx id = some (b, f) → B.io[id - pid0]? = some b
  bb : ∀ id b f, g.bx id = some (b, f) → (B.n ≤ b ∨ b ∈ B.io ∧ f = false ∧ pid0 ≤ id) ∧ b < w.heap.size
  bi : ∀ id id' b f f', g.bx id = some (b, f) → g.bx id' = some (b, f') → id = id'
  rb : ∀ id b u, g.rw id = some (b, u) → B.n ≤ b ∧ b < w.heap.size ∧ ∀ id' f, g.bx id' ≠ some (b, f)
  ri : ∀ id id' b u u', g.rw id = some (b, u) → g.rw id' = some (b, u') → id = id'
  con : ∀ id c, σ.c id = some c → NilC g id c ∨ ∃ b f, g.bx id = some (b, f) ∧ ConOk (okG B ok0 g w) g σ w b f c
  slots : ∀ t, RepA (okG B ok0 g w) g σ w (σ.t t) (a.tmps.getD t undef)

/-- From one state of memory to another: what was told of slots is still so. -/
structure Ext (ok ok' : Nat → Nat → Prop) (g g' : G) (σ σ' : St) (w w' : World) : Prop where
  cell : ∀ b o, ok b o → ok' b o ∧ w'.cell? ⟨b, o, none⟩ = w.cell? ⟨b, o, none⟩
  box : ∀ id ver, ver ≤ σ.v id → ver ≤ σ'.v id ∧ (σ'.v id = ver → σ.v id = ver ∧ (∀ b f, g.bx id = some (b, f) → ∃ f', g'.bx id = some (b, f')) ∧
    (∀ e l fz, σ.c id = some (.arr e l fz) → ∃ l' fz', σ'.c id = some (.arr e l' fz') ∧ List.length (α := e.D) l' = List.length (α := e.D) l) ∧
    (g.bx id = none → g'.bx id = none) ∧ ∀ b f cur T, (∃ e l fz, σ.c id = some (.arr e l fz)) → g.bx id = some (b, f) → w.heap[b]? = some (.cells cur T (0, 0)) → ∃ cur', w'.heap[b]? = some (.cells cur' T (0, 0)) ∧ cur'.size = cur.size)
  row : ∀ id ver, id ≠ 0 → ver ≤ σ.r id → ver ≤ σ'.r id ∧ (σ'.r id = ver → σ.r id = ver ∧ (∀ b u, g.rw id = some (b, u) → g'.rw id = some (b, u) ∧ w'.heap[b]? = w.heap[b]?))

section
variable {ok ok' : Nat → Nat → Prop} {g g' : G} {σ σ' : St} {w w' : World}

theorem OwnSl.ext {sz id : Nat} {v : Option Value} (h : OwnSl g w sz id v) (hr : ∀ b u, g.rw id = some (b, u) → g'.rw id = some (b, u) ∧ w'.heap[b]? = w.heap[b]?) : OwnSl g' w' sz id v := by
  rcases h with h | ⟨b, n, cap, cur, T, hv, h1, h2, rest⟩
  · exact .inl h
  · obtain ⟨h3, h4⟩ := hr _ _ h1
    exact .inr ⟨b, n, cap, cur, T, hv, h3, h4.trans h2, rest⟩

theorem TagsOk.ext {gs : List Tag} {cs : List Value} (hx : Ext ok ok' g g' σ σ' w w') (h : TagsOk g σ.r w gs cs) : TagsOk g' σ'.r w' gs cs := by
  intro t ht
  obtain ⟨h1, h2⟩ := h t ht
  refine ⟨h1, fun h0 => ?_⟩
  obtain ⟨h3, h4⟩ := h2 h0
  obtain ⟨h5, h6⟩ := hx.row t.id t.ver h0 h3
  exact ⟨h5, fun he => (h4 (h6 he).1).ext (h6 he).2⟩

theorem RepP.ext {id ver off : Nat} {v : Value} (hx : Ext ok ok' g g' σ σ' w w') (h : RepP g σ id ver off v) : RepP g' σ' id ver off v := by
  obtain ⟨h1, h2⟩ := h
  obtain ⟨h3, h4⟩ := hx.box id ver h1
  refine ⟨h3, fun he => ?_⟩
  obtain ⟨h5, h6, _⟩ := h4 he
  obtain ⟨b, f, hb, hv⟩ := h2 h5
  obtain ⟨f', hb'⟩ := h6 b f hb
  exact ⟨b, f', hb', hv⟩

theorem RepDat.ext {t : Ty} {x : t.D} {gs : List Tag} {v : Value} (hx : Ext ok ok' g g' σ σ' w w') (h : RepDat ok g σ w t x gs v) : RepDat ok' g' σ' w' t x gs v := by
  obtain ⟨cs, h1, h2, h3⟩ := h
  exact ⟨cs, h1.mono hx.cell, h2, h3.ext hx⟩

theorem RepE.ext {t : Ty} {x : t.D} {off : Nat} {v : Value} (hx : Ext ok ok' g g' σ σ' w w') (h : RepE ok w t x off v) : RepE ok' w' t x off v := by
  obtain ⟨b, o, ys, hv, hr, hc⟩ := h
  refine ⟨b, o, ys, hv, hr.mono hx.cell, fun j u hj => ?_⟩
  obtain ⟨h1, h2⟩ := hc j u hj
  obtain ⟨h3, h4⟩ := hx.cell _ _ h1
  exact ⟨h3, h4.trans h2⟩

theorem RepE.mono (hm : ∀ b o, ok b o → ok' b o) {t : Ty} {x : t.D} {off : Nat} {v : Value} (h : RepE ok w t x off v) : RepE ok' w t x off v := by
  obtain ⟨b, o, ys, h1, h2, h3⟩ := h
  exact ⟨b, o, ys, h1, h2.mono fun b o hk => ⟨hm b o hk, rfl⟩, fun j u hj => ⟨hm _ _ (h3 j u hj).1, (h3 j u hj).2⟩⟩

theorem SlwOk.ext {id sz n : Nat} {v : Value} (h : SlwOk g w id sz n v) (h6 : ∀ b f, g.bx id = some (b, f) → ∃ f', g'.bx id = some (b, f')) (h8 : g.bx id = none → g'.bx id = none)
    (h9 : ∀ b f cur T, g.bx id = some (b, f) → w.heap[b]? = some (.cells cur T (0, 0)) → ∃ cur', w'.heap[b]? = some (.cells cur' T (0, 0)) ∧ cur'.size = cur.size) : SlwOk g' w' id sz n v := by
  rcases h with ⟨h1, h2⟩ | ⟨b, f, cap, cur, T, hb, hh, hs, rest⟩
  · exact .inl ⟨h8 h1, h2⟩
  · obtain ⟨f', hb'⟩ := h6 b f hb
    obtain ⟨cur', hh', hs'⟩ := h9 b f cur T hb hh
    exact .inr ⟨b, f', cap, cur', T, hb', hh', hs'.trans hs, rest⟩

theorem SlwOk.get {id sz n : Nat} {v : Value} (h : SlwOk g w id sz n v) (hn : 0 < n) : ∃ b f cap, g.bx id = some (b, f) ∧ n ≤ cap ∧ cap ≤ maxLen ∧ v = .slice (some ⟨b, 0, none⟩) n cap := by
  rcases h with ⟨_, h0, _⟩ | ⟨b, f, cap, cur, T, hb, _, _, h1, h2, h3⟩
  · omega
  · exact ⟨b, f, cap, hb, h1, h2, h3⟩

/-- Its outer form. -/
theorem SlwOk.form {id sz n : Nat} {v : Value} (h : SlwOk g w id sz n v) : ∃ p cap, v = .slice p n cap ∧ n ≤ cap ∧ cap ≤ maxLen ∧ (0 < n → ∃ b f, g.bx id = some (b, f) ∧ p = some ⟨b, 0, none⟩) ∧ ∀ a, p = some a → a.spot = none := by
  rcases h with ⟨_, rfl, rfl⟩ | ⟨b, f, cap, cur, T, hb, _, _, h1, h2, rfl⟩
  · exact ⟨none, 0, rfl, Nat.le_refl _, Nat.zero_le _, fun h => by omega, fun a h => by cases h⟩
  · exact ⟨_, cap, rfl, h1, h2, fun _ => ⟨b, f, hb, rfl⟩, fun a h => by cases h; rfl⟩

theorem RepA.ext {a : AV} {v : Value} (hx : Ext ok ok' g g' σ σ' w w') (h : RepA ok g σ w a v) : RepA ok' g' σ' w' a v := by
  cases a with
  | undef => trivial
  | none => exact h
  | dat t x gs => exact RepDat.ext hx h
  | nils => exact h
  | ptr id ver off => exact RepP.ext hx h
  | aptr id ver i off =>
    obtain ⟨h1, h2⟩ := h
    obtain ⟨h3, h4⟩ := hx.box id ver h1
    refine ⟨h3, fun he => ?_⟩
    obtain ⟨h5, h6, h7, _⟩ := h4 he
    obtain ⟨b, f, e, l, fz, hb, hc, hi, hv⟩ := h2 h5
    obtain ⟨f', hb'⟩ := h6 b f hb
    obtain ⟨l', fz', hc', hl'⟩ := h7 e l fz hc
    exact ⟨b, f', e, l', fz', hb', hc', by rw [hl']; exact hi, hv⟩
  | ept t x off => exact RepE.ext hx h
  | slw id ver =>
    obtain ⟨h1, h2⟩ := h
    obtain ⟨h3, h4⟩ := hx.box id ver h1
    refine ⟨h3, fun he => ?_⟩
    obtain ⟨h5, h6, h7, h8, h9⟩ := h4 he
    obtain ⟨e, l, fz, hc, hv⟩ := h2 h5
    obtain ⟨l', fz', hc', hl'⟩ := h7 e l fz hc
    exact ⟨e, l', fz', hc', by rw [hl']; exact hv.ext h6 h8 fun b f cur T => h9 b f cur T ⟨e, l, fz, hc⟩⟩
  | slm id ver lo n =>
    obtain ⟨h1, h2⟩ := h
    obtain ⟨h3, h4⟩ := hx.box id ver h1
    refine ⟨h3, fun he => ?_⟩
    obtain ⟨h5, h6, h7, _⟩ := h4 he
    obtain ⟨e, l, fz, A, cap, hc, hl, h10, h11, h12, rest⟩ := h2 h5
    obtain ⟨l', fz', hc', hl'⟩ := h7 e l fz hc
    refine ⟨e, l', fz', A, cap, hc', by rw [hl']; exact hl, h10, h11, fun hn => ?_, rest⟩
    obtain ⟨b, f, hb, hA⟩ := h12 hn
    obtain ⟨f', hb'⟩ := h6 b f hb
    exact ⟨b, f', hb', hA⟩
  | fn f caps =>
    obtain ⟨vs, hv, hf⟩ := h
    exact ⟨vs, hv, hf.imp fun _ _ hp => hp.ext hx⟩
  | clo f ps =>
    obtain ⟨vs, hv, hf⟩ := h
    exact ⟨vs, hv, hf.imp fun _ _ hp => hp.ext hx⟩
  | iov t x => exact h
  | tup ds =>
    obtain ⟨vs, hv, hf⟩ := h
    exact ⟨vs, hv, hf.imp fun _ _ hp => hp.ext hx⟩

theorem ConOk.ext {b : Nat} {f : Bool} {c : Con} (hx : Ext ok ok' g g' σ σ' w w') (hb : w'.heap[b]? = w.heap[b]?) (h : ConOk ok g σ w b f c) : ConOk ok' g' σ' w' b f c := by
  cases c with
  | var t x gs =>
    obtain ⟨hf, cs, T, h1, h2, h3⟩ := h
    exact ⟨hf, cs, T, hb.trans h1, h2.mono hx.cell, h3.ext hx⟩
  | arr e l fz =>
    obtain ⟨hf, cur, T, h1, h2, hm, h3⟩ := h
    refine ⟨hf, cur, T, hb.trans h1, h2, hm, fun i x hi => ?_⟩
    obtain ⟨ys, h4, h5⟩ := h3 i x hi
    exact ⟨ys, h4.mono hx.cell, h5⟩
  | val a =>
    obtain ⟨hf, v, T, h1, h2⟩ := h
    exact ⟨hf, v, T, hb.trans h1, h2.ext hx⟩

end

section
variable {B : Bd} {ok0 : Nat → Nat → Prop} {w0 w w' : World} {g g' : G} {σ σ' : St} {a a' : Act}

theorem Inv.okB (h : Inv B ok0 w0 g σ a w) {b o : Nat} (hk : okG B ok0 g w b o) : b < w.heap.size := by
  rcases hk with hk | ⟨_, hk, _⟩
  · have := (h.h0 b o hk).1; have := h.below.size; have := h.hB; omega
  · exact hk

/-- What is known of package variables is known still. -/
theorem Inv.layAt (h : Inv B ok0 w0 g σ a w) {bs : List Nat} (hbs : ∀ b ∈ bs, B.n ≤ b ∨ b ∈ B.io) : ∃ z, Lay.ok z w ∧ ∀ b ∈ bs, z ≤ b := by
  obtain ⟨z, h1, h2⟩ := h.lay
  have hz := Lay.lt z w0 h1
  refine ⟨z, Lay.keep z w0 w h1 h.below.size (fun k hk => h.below.block k (by rw [h.hB]; omega) fun hm => by have := h2 k hm; omega), fun b hb => ?_⟩
  rcases hbs b hb with h3 | h3
  · rw [h.hB] at h3; omega
  · exact h2 b h3

/-- Only new blocks: nothing that was told turns. -/
theorem Ext.of_below (h : Inv B ok0 w0 g σ a w) (hb : Below w.heap.size w w') : Ext (okG B ok0 g w) (okG B ok0 g w') g g σ σ w w' where
  cell := fun b o hk => by
    have hlt := h.okB hk
    refine ⟨?_, hb.cell (p := ⟨b, o, none⟩) hlt⟩
    rcases hk with hk | ⟨h1, h2, h3⟩
    · exact .inl hk
    · exact .inr ⟨h1, Nat.lt_of_lt_of_le h2 hb.size, h3⟩
  box := fun id ver hv => ⟨hv, fun he => ⟨he, fun b f hbf => ⟨f, hbf⟩, fun e l fz hc => ⟨l, fz, hc, rfl⟩, fun hn => hn, fun b f cur T _ hbf hh => ⟨cur, (hb.block b (h.bb id b f hbf).2).trans hh, rfl⟩⟩⟩
  row := fun id ver _ hv => ⟨hv, fun he => ⟨he, fun b u hbu => ⟨hbu, hb.block b (h.rb id b u hbu).2.1⟩⟩⟩

theorem Inv.grown (h : Inv B ok0 w0 g σ a w) (hb : Below w.heap.size w w') : Inv B ok0 w0 g σ a w' where
  below := h.below.trans_below (hb.mono (by have := h.below.size; have := h.hB; omega))
  hB := h.hB
  h0 := h.h0
  defers := h.defers
  lay := h.lay
  tm := h.tm
  nm := h.nm
  bb := fun id b f hbf => ⟨(h.bb id b f hbf).1, Nat.lt_of_lt_of_le (h.bb id b f hbf).2 hb.size⟩
  bi := h.bi
  rb := fun id b u hbu => ⟨(h.rb id b u hbu).1, Nat.lt_of_lt_of_le (h.rb id b u hbu).2.1 hb.size, (h.rb id b u hbu).2.2⟩
  ri := h.ri
  con := fun id c hc => by
    rcases h.con id c hc with hn | ⟨b, f, hbf, hk⟩
    · exact .inl hn
    exact .inr ⟨b, f, hbf, hk.ext (Ext.of_below h hb) (hb.block b (h.bb id b f hbf).2)⟩
  slots := fun t => (h.slots t).ext (Ext.of_below h hb)

/-- A box that isn't a nil slice's. -/
theorem Inv.con' (h : Inv B ok0 w0 g σ a w) {id : Nat} {c : Con} (hc : σ.c id = some c) (hn : ∀ e l fz, c ≠ .arr e l fz) : ∃ b f, g.bx id = some (b, f) ∧ ConOk (okG B ok0 g w) g σ w b f c := by
  rcases h.con id c hc with ⟨_, e, fz, rfl⟩ | h
  · exact absurd rfl (hn _ _ _)
  · exact h

theorem Inv.conB (h : Inv B ok0 w0 g σ a w) {id b : Nat} {f : Bool} {c : Con} (hb : g.bx id = some (b, f)) (hc : σ.c id = some c) : ConOk (okG B ok0 g w) g σ w b f c := by
  rcases h.con id c hc with ⟨hn, _⟩ | ⟨b', f', hb', hk⟩
  · rw [hb] at hn; cases hn
  · rw [hb] at hb'; cases hb'; exact hk

theorem getD_set {xs : Array Value} {d t : Nat} {v : Value} (hd : d < xs.size) : (xs.setIfInBounds d v).getD t undef = if t = d then v else xs.getD t undef := by
  by_cases h : t = d
  · subst h; simp [Array.getD_eq_getD_getElem?, hd]
  · rw [if_neg h]; simp [Array.getD_eq_getD_getElem?, Array.getElem?_setIfInBounds_ne (Ne.symm h)]

theorem fset_eq {α : Type} (f : Nat → α) (k : Nat) (x : α) (i : Nat) : fset f k x i = if i = k then x else f i := by
  unfold fset
  by_cases h : i = k
  · subst h; simp
  · have : Nat.beq i k = false := by rw [Bool.eq_false_iff]; intro e; exact h (Nat.eq_of_beq_eq_true e)
    simp [this, h]

/-- A slot is written. -/
theorem Inv.put (h : Inv B ok0 w0 g σ a w) {dst : Option Nat} {av : AV} {v : Value} (hv : RepA (okG B ok0 g w) g σ w av v) (hd : ∀ d, dst = some d → d < a.tmps.size) :
    Inv B ok0 w0 g (σ.setT dst av) (a.put dst v) w := by
  cases dst with
  | none => exact h
  | some d =>
    exact { below := h.below, hB := h.hB, h0 := h.h0, defers := h.defers, lay := h.lay, tm := by show (a.tmps.setIfInBounds d v).size ≤ pid0; rw [Array.size_setIfInBounds]; exact h.tm, nm := h.nm, bb := h.bb, bi := h.bi, rb := h.rb, ri := h.ri, con := h.con,
            slots := fun t => by
              show RepA _ g _ w (fset σ.t d av t) ((a.tmps.setIfInBounds d v).getD t undef)
              rw [getD_set (hd d rfl), fset_eq]
              by_cases ht : t = d
              · rw [if_pos ht, if_pos ht]; exact hv
              · rw [if_neg ht, if_neg ht]; exact h.slots t }

end
end Go.AM
