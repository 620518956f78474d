/- Plain data in the model's memory: what it is that cells hold a value of a kind; parts of it read and written. -/
import Derived.Test.YtkfffcnililmkaaDoorAmDef
import Derived.Laws.AppendOwn
import Derived.Laws.OwnMore
import Derived.Laws.Rows
import Derived.Laws.Tables
namespace Go.AM
open Go.RowKit (Below)

theorem add_at (A : Addr) (h : A.spot = none) (k : Nat) : A.add k = ⟨A.block, A.off + k, none⟩ := by
  cases A with | mk b o s => simp only at h; subst h; unfold Addr.add; split <;> simp_all

def All2 {α β : Type} (p : α → β → Prop) : List α → List β → Prop
  | [], [] => True
  | a :: l, b :: m => p a b ∧ All2 p l m
  | _, _ => False

theorem All2.imp {α β : Type} {p q : α → β → Prop} (hpq : ∀ a b, p a b → q a b) : ∀ {l : List α} {m : List β}, All2 p l m → All2 q l m
  | [], [], _ => trivial
  | _ :: _, _ :: _, h => ⟨hpq _ _ h.1, All2.imp hpq h.2⟩
  | [], _ :: _, h => h.elim
  | _ :: _, [], h => h.elim

theorem All2.len {α β : Type} {p : α → β → Prop} : ∀ {l : List α} {m : List β}, All2 p l m → l.length = m.length
  | [], [], _ => rfl
  | _ :: _, _ :: _, h => by simp [All2.len h.2]
  | [], _ :: _, h => h.elim
  | _ :: _, [], h => h.elim

theorem All2.get {α β : Type} {p : α → β → Prop} : ∀ {l : List α} {m : List β} {i : Nat} {a : α}, All2 p l m → l[i]? = some a → ∃ b, m[i]? = some b ∧ p a b
  | a :: _, b :: _, 0, _, h, hi => by simp at hi; subst hi; exact ⟨b, rfl, h.1⟩
  | _ :: _, _ :: _, i + 1, _, h, hi => by
    simp only [List.getElem?_cons_succ] at hi ⊢
    exact All2.get h.2 hi
  | [], _, i, _, _, hi => by simp at hi
  | _ :: _, [], _, _, h, _ => h.elim

def valOf (t : Ty) (cs : List Value) : Value := if t.isAgg then .agg cs.toArray else cs.headD undef

/-- The cells 'cs' hold x; what they lead to lies where 'ok' tells. -/
def RepD (ok : Nat → Nat → Prop) (w : World) : (t : Ty) → t.D → List Value → Prop
  | .int k, n, cs => cs = [.int k n]
  | .bool, b, cs => cs = [.bool b]
  | .str, s, cs => cs = [.string s]
  | .sl e, l, cs => ∃ a n cap, cs = [.slice a n cap] ∧ List.length (α := e.D) l = n ∧ n ≤ cap ∧ cap ≤ maxLen ∧
      ∀ (i : Nat) (x : e.D), l[i]? = some x → ∃ A : Addr, a = some A ∧ A.spot = none ∧ ∃ ys, RepD ok w e x ys ∧
        ∀ j v, ys[j]? = some v → ok A.block (A.off + (i * e.sz + j)) ∧ w.cell? ⟨A.block, A.off + (i * e.sz + j), none⟩ = some v
  | .wrap a, x, cs => RepD ok w a x cs
  | .pair a b, x, cs => ∃ c1 c2, cs = c1 ++ c2 ∧ RepD ok w a x.1 c1 ∧ RepD ok w b x.2 c2
  | .arr m e, l, cs => List.length (α := e.D) l = m + 1 ∧ cs.length = (m + 1) * e.sz ∧ ∀ (i : Nat) (x : e.D), l[i]? = some x → RepD ok w e x ((cs.drop (i * e.sz)).take e.sz)

section
variable {ok ok' : Nat → Nat → Prop} {w w' : World}

theorem RepD.len : ∀ {t : Ty} {x : t.D} {cs : List Value}, RepD ok w t x cs → cs.length = t.sz
  | .int _, _, _, h => by simp only [RepD] at h; subst h; rfl
  | .bool, _, _, h => by simp only [RepD] at h; subst h; rfl
  | .str, _, _, h => by simp only [RepD] at h; subst h; rfl
  | .sl _, _, _, h => by obtain ⟨a, n, cap, rfl, _⟩ := h; rfl
  | .wrap a, _, _, h => RepD.len (t := a) h
  | .pair a b, _, _, h => by obtain ⟨c1, c2, rfl, h1, h2⟩ := h; simp [Ty.sz, h1.len, h2.len]
  | .arr m e, _, _, h => h.2.1

theorem Ty.sz_pos : ∀ t : Ty, 0 < t.sz
  | .int _ | .bool | .str | .sl _ => Nat.one_pos
  | .wrap a => a.sz_pos
  | .pair a b => by have := a.sz_pos; simp only [Ty.sz]; omega
  | .arr m e => by have := e.sz_pos; simp only [Ty.sz]; exact Nat.mul_pos (Nat.succ_pos _) this

theorem RepD.one : ∀ {t : Ty} {x : t.D} {cs : List Value}, RepD ok w t x cs → ∀ v ∈ cs, v.oneCell' = true
  | .int _, _, _, h => by simp only [RepD] at h; subst h; simp [Value.oneCell']
  | .bool, _, _, h => by simp only [RepD] at h; subst h; simp [Value.oneCell']
  | .str, _, _, h => by simp only [RepD] at h; subst h; simp [Value.oneCell']
  | .sl _, _, _, h => by obtain ⟨a, n, cap, rfl, _⟩ := h; simp [Value.oneCell']
  | .wrap a, _, _, h => RepD.one (t := a) h
  | .pair a b, _, _, h => by
    obtain ⟨c1, c2, rfl, h1, h2⟩ := h
    intro v hv
    rcases List.mem_append.1 hv with hv | hv
    · exact h1.one v hv
    · exact h2.one v hv
  | .arr m e, l, cs, h => by
    obtain ⟨h1, h2, h3⟩ := h
    intro v hv
    obtain ⟨k, hk⟩ := List.mem_iff_getElem?.1 hv
    have hlt := (List.getElem?_eq_some_iff.1 hk).1
    have hp := e.sz_pos
    have hi : k / e.sz < m + 1 := by rw [Nat.div_lt_iff_lt_mul hp]; omega
    have hli : k / e.sz < List.length (α := e.D) l := by omega
    have hr := h3 (k / e.sz) _ (List.getElem?_eq_getElem hli)
    have hmod : k % e.sz < e.sz := Nat.mod_lt _ hp
    refine hr.one v (List.mem_iff_getElem?.2 ⟨k % e.sz, ?_⟩)
    rw [List.getElem?_take, if_pos hmod, List.getElem?_drop, Nat.mul_comm, Nat.div_add_mod]
    exact hk

theorem RepD.mono (hm : ∀ b o, ok b o → ok' b o ∧ w'.cell? ⟨b, o, none⟩ = w.cell? ⟨b, o, none⟩) : ∀ {t : Ty} {x : t.D} {cs : List Value}, RepD ok w t x cs → RepD ok' w' t x cs
  | .int _, _, _, h => h
  | .bool, _, _, h => h
  | .str, _, _, h => h
  | .sl e, _, _, h => by
    obtain ⟨a, n, cap, rfl, hl, h1, h2, hc⟩ := h
    refine ⟨a, n, cap, rfl, hl, h1, h2, fun i x hi => ?_⟩
    obtain ⟨A, ha, hs, ys, hy, hcell⟩ := hc i x hi
    refine ⟨A, ha, hs, ys, hy.mono hm, fun j v hj => ?_⟩
    obtain ⟨h3, h4⟩ := hcell j v hj
    obtain ⟨h5, h6⟩ := hm _ _ h3
    exact ⟨h5, h6.trans h4⟩
  | .wrap a, _, _, h => RepD.mono (t := a) hm h
  | .pair a b, _, _, h => by
    obtain ⟨c1, c2, rfl, h1, h2⟩ := h
    exact ⟨c1, c2, rfl, h1.mono hm, h2.mono hm⟩
  | .arr m e, _, _, h => ⟨h.1, h.2.1, fun i x hi => (h.2.2 i x hi).mono hm⟩

theorem cast_some {t u : Ty} {x : t.D} {y : u.D} (h : cast? u x = some y) : ∃ e : t = u, e ▸ x = y := by
  unfold cast? at h
  split at h
  · rename_i e; exact ⟨e, Option.some.inj h⟩
  · cases h

theorem RepD.cast {t u : Ty} {x : t.D} {y : u.D} {cs : List Value} (h : cast? u x = some y) (hr : RepD ok w t x cs) : RepD ok w u y cs := by
  obtain ⟨e, he⟩ := cast_some h; subst e; subst he; exact hr

theorem sub_leaf {t u : Ty} {x : t.D} {off : Nat} {y : u.D} {cs : List Value} (h : (if off = 0 then cast? u x else none) = some y) (hr : RepD ok w t x cs) :
    RepD ok w u y ((cs.drop off).take u.sz) ∧ off + u.sz ≤ t.sz := by
  split at h
  · subst off
    obtain ⟨e, he⟩ := cast_some h; subst e; subst he
    have := hr.len
    refine ⟨?_, by omega⟩
    rw [List.drop_zero, List.take_of_length_le (by omega)]
    exact hr
  · cases h

theorem sub_sound {u : Ty} : ∀ {t : Ty} {x : t.D} {off : Nat} {y : u.D} {cs : List Value}, sub u t x off = some y → RepD ok w t x cs →
    RepD ok w u y ((cs.drop off).take u.sz) ∧ off + u.sz ≤ t.sz
  | .int k, x, off, y, cs, h, hr => sub_leaf (t := .int k) h hr
  | .bool, x, off, y, cs, h, hr => sub_leaf (t := .bool) h hr
  | .str, x, off, y, cs, h, hr => sub_leaf (t := .str) h hr
  | .sl e, x, off, y, cs, h, hr => sub_leaf (t := .sl e) h hr
  | .arr m e, x, off, y, cs, h, hr => sub_leaf (t := .arr m e) h hr
  | .wrap a, x, off, y, cs, h, hr => by
    rw [sub] at h
    split at h
    · rename_i h0; exact sub_leaf (t := .wrap a) (off := off) (by rw [if_pos h0.1]; exact h) hr
    · exact sub_sound (t := a) h hr
  | .pair a b, x, off, y, cs, h, hr => by
    rw [sub] at h
    split at h
    · rename_i h0; exact sub_leaf (t := .pair a b) (off := off) (by rw [if_pos h0.1]; exact h) hr
    · obtain ⟨c1, c2, rfl, h1, h2⟩ := hr
      have l1 := h1.len
      have l2 := h2.len
      split at h
      · rename_i hlt
        obtain ⟨hs, hb⟩ := sub_sound (t := a) h h1
        refine ⟨?_, by simp only [Ty.sz]; omega⟩
        rw [List.drop_append_of_le_length (by omega), List.take_append_of_le_length (by rw [List.length_drop]; omega)]
        exact hs
      · rename_i hge
        obtain ⟨hs, hb⟩ := sub_sound (t := b) h h2
        refine ⟨?_, by simp only [Ty.sz]; omega⟩
        rw [List.drop_append, List.drop_eq_nil_of_le (by omega), List.nil_append, l1]
        exact hs

/-- Cells with others in some places. -/
def splice (cs : List Value) (off : Nat) (ys : List Value) : List Value := cs.take off ++ ys ++ cs.drop (off + ys.length)

theorem upd_leaf {t u : Ty} {off : Nat} {y : u.D} {z : t.D} {cs ys : List Value} (h : (if off = 0 then cast? t y else none) = some z) (hl : cs.length = t.sz) (hy : RepD ok w u y ys) :
    RepD ok w t z (splice cs off ys) ∧ off + u.sz ≤ t.sz := by
  split at h
  · subst off
    obtain ⟨e, he⟩ := cast_some h; subst e; subst he
    have := hy.len
    refine ⟨?_, by omega⟩
    unfold splice
    rw [List.take_zero, List.nil_append, List.drop_eq_nil_of_le (by omega), List.append_nil]
    exact hy
  · cases h

theorem upd_sound {u : Ty} {y : u.D} {ys : List Value} (hy : RepD ok w u y ys) : ∀ {t : Ty} {x : t.D} {off : Nat} {z : t.D} {cs : List Value}, upd u y t x off = some z → RepD ok w t x cs →
    RepD ok w t z (splice cs off ys) ∧ off + u.sz ≤ t.sz
  | .int k, x, off, z, cs, h, hr => upd_leaf (t := .int k) h hr.len hy
  | .bool, x, off, z, cs, h, hr => upd_leaf (t := .bool) h hr.len hy
  | .str, x, off, z, cs, h, hr => upd_leaf (t := .str) h hr.len hy
  | .sl e, x, off, z, cs, h, hr => upd_leaf (t := .sl e) h hr.len hy
  | .arr m e, x, off, z, cs, h, hr => upd_leaf (t := .arr m e) h hr.len hy
  | .wrap a, x, off, z, cs, h, hr => by
    rw [upd] at h
    split at h
    · rename_i h0; exact upd_leaf (t := .wrap a) (off := off) (by rw [if_pos h0.1]; exact h) hr.len hy
    · exact upd_sound hy (t := a) h hr
  | .pair a b, x, off, z, cs, h, hr => by
    rw [upd] at h
    split at h
    · rename_i h0; exact upd_leaf (t := .pair a b) (off := off) (by rw [if_pos h0.1]; exact h) hr.len hy
    · obtain ⟨c1, c2, rfl, h1, h2⟩ := hr
      have l1 := h1.len
      have l2 := h2.len
      have ly := hy.len
      split at h
      · rename_i hlt
        cases hz : upd u y a x.1 off with
        | none => simp [hz] at h
        | some z1 =>
          simp only [hz, Option.map_some, Option.some.injEq] at h
          subst h
          obtain ⟨hs, hb⟩ := upd_sound hy (t := a) hz h1
          refine ⟨⟨splice c1 off ys, c2, ?_, hs, h2⟩, by simp only [Ty.sz]; omega⟩
          unfold splice
          rw [List.take_append_of_le_length (by omega), List.drop_append_of_le_length (by omega)]
          simp only [List.append_assoc]
      · rename_i hge
        cases hz : upd u y b x.2 (off - a.sz) with
        | none => simp [hz] at h
        | some z1 =>
          simp only [hz, Option.map_some, Option.some.injEq] at h
          subst h
          obtain ⟨hs, hb⟩ := upd_sound hy (t := b) hz h2
          refine ⟨⟨c1, splice c2 (off - a.sz) ys, ?_, h1, hs⟩, by simp only [Ty.sz]; omega⟩
          unfold splice
          rw [List.take_append, List.take_of_length_le (by omega), List.drop_append, List.drop_eq_nil_of_le (by omega), List.nil_append, l1,
            show off + ys.length - a.sz = off - a.sz + ys.length by omega]
          simp only [List.append_assoc]

/-- A zero value's cells. -/
def Ty.zcells : Ty → List Value
  | .int k => [.int k 0]
  | .bool => [.bool false]
  | .str => [.string ⟨#[]⟩]
  | .sl _ => [.slice none 0 0]
  | .wrap a => a.zcells
  | .pair a b => a.zcells ++ b.zcells
  | .arr m e => (List.replicate (m + 1) e.zcells).flatten

theorem flat_chunk {z : List Value} {k : Nat} (hz : z.length = k) : ∀ (n i : Nat), i < n → (((List.replicate n z).flatten).drop (i * k)).take k = z
  | 0, i, h => by omega
  | n + 1, 0, _ => by rw [List.replicate_succ, List.flatten_cons, Nat.zero_mul, List.drop_zero, ← hz, List.take_left]
  | n + 1, i + 1, h => by
    rw [List.replicate_succ, List.flatten_cons, Nat.add_mul, Nat.one_mul, Nat.add_comm, ← List.drop_drop, show List.drop k (z ++ (List.replicate n z).flatten) = (List.replicate n z).flatten by rw [← hz, List.drop_left]]
    exact flat_chunk hz n i (by omega)

theorem flat_size {z : List Value} {k : Nat} (hz : z.length = k) : ∀ n : Nat, ((List.replicate n z).flatten).length = n * k
  | 0 => by simp
  | n + 1 => by rw [List.replicate_succ, List.flatten_cons, List.length_append, flat_size hz n, hz, Nat.add_mul]; omega

theorem zero_rep (ok : Nat → Nat → Prop) (w : World) : ∀ t : Ty, RepD ok w t t.zero t.zcells
  | .int _ => rfl
  | .bool => rfl
  | .str => rfl
  | .sl e => ⟨none, 0, 0, rfl, rfl, Nat.le_refl _, Nat.zero_le _, fun i x h => by simp [Ty.zero] at h⟩
  | .wrap a => zero_rep ok w a
  | .pair a b => ⟨_, _, rfl, zero_rep ok w a, zero_rep ok w b⟩
  | .arr m e => by
    have hz := zero_rep ok w e
    refine ⟨by simp [Ty.zero], flat_size hz.len _, fun i x hi => ?_⟩
    have hi' : (List.replicate (m + 1) e.zero)[i]? = some x := hi
    rw [List.getElem?_replicate] at hi'
    split at hi'
    · rename_i hlt
      cases hi'
      show RepD ok w e e.zero ((((List.replicate (m + 1) e.zcells).flatten).drop (i * e.sz)).take e.sz)
      rw [flat_chunk hz.len _ _ hlt]
      exact hz
    · cases hi'

theorem valOf_cells {t : Ty} {x : t.D} {cs : List Value} (h : RepD ok w t x cs) : (valOf t cs).cells = cs.toArray := by
  cases t with
  | wrap a => rfl
  | pair a b => rfl
  | arr m e => rfl
  | int k => simp only [RepD] at h; subst h; rfl
  | bool => simp only [RepD] at h; subst h; rfl
  | str => simp only [RepD] at h; subst h; rfl
  | sl e => obtain ⟨a, n, cap, rfl, _⟩ := h; rfl

theorem valOf_one {t : Ty} {x : t.D} {cs : List Value} (h : RepD ok w t x cs) (ha : t.isAgg = false) : cs = [valOf t cs] := by
  cases t with
  | wrap a => cases ha
  | pair a b => cases ha
  | arr m e => cases ha
  | int k => simp only [RepD] at h; subst h; rfl
  | bool => simp only [RepD] at h; subst h; rfl
  | str => simp only [RepD] at h; subst h; rfl
  | sl e => obtain ⟨a, n, cap, rfl, _⟩ := h; rfl

end
end Go.AM
