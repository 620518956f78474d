/- Operations look at slots by their operands alone. -/
import Derived.Test.YtkfffcnililmkaaDoorAmCtl
namespace Go.AM
open Go.RowKit (Below)
set_option linter.unusedSectionVars false
variable [Lay]

def St.onT (σ : St) (t : Nat → AV) : St := { σ with t := t }
def tset (t : Nat → AV) (d : Option Nat) (a : AV) : Nat → AV := match d with | some d => fset t d a | none => t
def dv (σ : St) (d : Option Nat) : AV := match d with | some d => σ.t d | none => .undef

/-- The step from other slots. -/
def Step.reT (t' : Nat → AV) (d : Option Nat) : Step → Step
  | .no => .no
  | .go c σ => .go c (σ.onT (tset t' d (dv σ d)))
  | .call α m f => .call α m fun x => (f x).onT (tset t' d (dv (f x) d))

section
variable {E : Env} {o : Oper} {σ : St} {t' : Nat → AV}

theorem fset_self {α : Type} (f : Nat → α) (k : Nat) (a : α) : fset f k a k = a := by rw [fset_eq, if_pos rfl]

theorem setT_onT (ρ : St) (d : Option Nat) (a : AV) : (ρ.onT t').setT d a = (ρ.setT d a).onT (tset t' d (dv (ρ.setT d a) d)) := by
  cases d with
  | none => rfl
  | some d =>
    show St.mk (fset t' d a) _ _ _ = St.mk (fset t' d (fset ρ.t d a d)) _ _ _
    rw [fset_self]
    rfl

theorem go_onT (c : Bool) (ρ : St) (d : Option Nat) (a : AV) : Step.go c ((ρ.onT t').setT d a) = (Step.go c (ρ.setT d a)).reT t' d := by
  rw [setT_onT]; rfl

theorem put_onT (a : AV) : put o (σ.onT t') a = (put o σ a).reT t' o.dst := go_onT _ _ _ _
theorem chk_onT (c : Bool) (a : AV) : chk o c (σ.onT t') a = (chk o c σ a).reT t' o.dst := go_onT _ _ _ _

section
variable {t : Nat → AV} {c : Nat → Option Con} {v r : Nat → Nat}
theorem putL (a : AV) : put o ⟨t', c, v, r⟩ a = (put o ⟨t, c, v, r⟩ a).reT t' o.dst := put_onT (σ := ⟨t, c, v, r⟩) a
theorem chkL (b : Bool) (a : AV) : chk o b ⟨t', c, v, r⟩ a = (chk o b ⟨t, c, v, r⟩ a).reT t' o.dst := chk_onT (σ := ⟨t, c, v, r⟩) b a
theorem boxL (b : Bool) (d : Option Nat) (id : Nat) (k : Con) (a : AV) : Step.go b ((St.setBox ⟨t', c, v, r⟩ id k).setT d a) = (Step.go b ((St.setBox ⟨t, c, v, r⟩ id k).setT d a)).reT t' d :=
  go_onT (t' := t') b (St.setBox ⟨t, c, v, r⟩ id k) d a
theorem newL (b : Bool) (d : Option Nat) (id : Nat) (k : Con) (a : AV) : Step.go b ((St.newBox ⟨t', c, v, r⟩ id k).setT d a) = (Step.go b ((St.newBox ⟨t, c, v, r⟩ id k).setT d a)).reT t' d :=
  go_onT (t' := t') b (St.newBox ⟨t, c, v, r⟩ id k) d a
theorem bumpL (b : Bool) (d : Option Nat) (id : Nat) (a : AV) : Step.go b ((St.bump ⟨t', c, v, r⟩ id).setT d a) = (Step.go b ((St.bump ⟨t, c, v, r⟩ id).setT d a)).reT t' d :=
  go_onT (t' := t') b (St.bump ⟨t, c, v, r⟩ id) d a
end


theorem load_onT (T : Nat) (a : AV) : load' E T o (σ.onT t') a = (load' E T o σ a).reT t' o.dst := by
  obtain ⟨t, c, v, r⟩ := σ
  show load' E T o ⟨t', c, v, r⟩ a = _
  unfold load' loadOne loadArr
  try dsimp only
  ((repeat' split) <;> first | rfl | exact putL _ | exact chkL _ _ | exact boxL _ _ _ _ _ | exact newL _ _ _ _ _ | exact bumpL _ _ _ _ | (simp_all; done))

theorem store_onT (T : Nat) (a x : AV) : store' E T o (σ.onT t') a x = (store' E T o σ a x).reT t' o.dst := by
  obtain ⟨t, c, v, r⟩ := σ
  show store' E T o ⟨t', c, v, r⟩ a x = _
  unfold store'
  try dsimp only
  ((repeat' split) <;> first | rfl | exact putL _ | exact chkL _ _ | exact boxL _ _ _ _ _ | exact newL _ _ _ _ _ | exact bumpL _ _ _ _ | (simp_all; done))

theorem fieldAddr_onT (S f : Nat) (x : AV) : fieldAddr' E S f o (σ.onT t') x = (fieldAddr' E S f o σ x).reT t' o.dst := by
  obtain ⟨t, c, v, r⟩ := σ
  show fieldAddr' E S f o ⟨t', c, v, r⟩ x = _
  unfold fieldAddr'
  try dsimp only
  ((repeat' split) <;> first | rfl | exact putL _ | exact chkL _ _ | exact boxL _ _ _ _ _ | exact newL _ _ _ _ _ | exact bumpL _ _ _ _ | (simp_all; done))

theorem field_onT (S f : Nat) (x : AV) : field' E S f o (σ.onT t') x = (field' E S f o σ x).reT t' o.dst := by
  obtain ⟨t, c, v, r⟩ := σ
  show field' E S f o ⟨t', c, v, r⟩ x = _
  unfold field'
  try dsimp only
  ((repeat' split) <;> first | rfl | exact putL _ | exact chkL _ _ | exact boxL _ _ _ _ _ | exact newL _ _ _ _ _ | exact bumpL _ _ _ _ | (simp_all; done))

theorem extract_onT (i : Nat) (x : AV) : extract' i o (σ.onT t') x = (extract' i o σ x).reT t' o.dst := by
  obtain ⟨t, c, v, r⟩ := σ
  show extract' i o ⟨t', c, v, r⟩ x = _
  unfold extract'
  try dsimp only
  ((repeat' split) <;> first | rfl | exact putL _ | exact chkL _ _ | exact boxL _ _ _ _ _ | exact newL _ _ _ _ _ | exact bumpL _ _ _ _ | (simp_all; done))

theorem indexAddr_onT (T : Nat) (x i : AV) : indexAddr' E T o (σ.onT t') x i = (indexAddr' E T o σ x i).reT t' o.dst := by
  obtain ⟨t, c, v, r⟩ := σ
  show indexAddr' E T o ⟨t', c, v, r⟩ x i = _
  unfold indexAddr'
  try dsimp only
  ((repeat' split) <;> first | rfl | exact putL _ | exact chkL _ _ | exact boxL _ _ _ _ _ | exact newL _ _ _ _ _ | exact bumpL _ _ _ _ | (simp_all; done))

theorem index_onT (T : Nat) (x i : AV) : index' E T o (σ.onT t') x i = (index' E T o σ x i).reT t' o.dst := by
  obtain ⟨t, c, v, r⟩ := σ
  show index' E T o ⟨t', c, v, r⟩ x i = _
  unfold index'
  try dsimp only
  ((repeat' split) <;> first | rfl | exact putL _ | exact chkL _ _ | exact boxL _ _ _ _ _ | exact newL _ _ _ _ _ | exact bumpL _ _ _ _ | (simp_all; done))

theorem alloc_onT (T : Nat) : alloc' E T o (σ.onT t') = (alloc' E T o σ).reT t' o.dst := by
  obtain ⟨t, c, v, r⟩ := σ
  show alloc' E T o ⟨t', c, v, r⟩ = _
  unfold alloc'
  try dsimp only
  ((repeat' split) <;> first | rfl | exact putL _ | exact chkL _ _ | exact boxL _ _ _ _ _ | exact newL _ _ _ _ _ | exact bumpL _ _ _ _ | (simp_all; done))

theorem box_onT (T : Nat) (x : AV) : box' E T o (σ.onT t') x = (box' E T o σ x).reT t' o.dst := by
  obtain ⟨t, c, v, r⟩ := σ
  show box' E T o ⟨t', c, v, r⟩ x = _
  unfold box' boxTo
  try dsimp only
  ((repeat' split) <;> first | rfl | exact putL _ | exact chkL _ _ | exact boxL _ _ _ _ _ | exact newL _ _ _ _ _ | exact bumpL _ _ _ _ | (simp_all; done))

theorem content_t (t t' : Nat → AV) (c : Nat → Option Con) (v r : Nat → Nat) : content ⟨t', c, v, r⟩ = content ⟨t, c, v, r⟩ := by
  funext e x; cases x <;> rfl

theorem appTag_t (t t' : Nat → AV) (c : Nat → Option Con) (v r : Nat → Nat) (d sz : Nat) : ∀ g : List Tag, appTag ⟨t', c, v, r⟩ d sz g = appTag ⟨t, c, v, r⟩ d sz g
  | [] => rfl
  | x :: g => by unfold appTag; rw [appTag_t t t' c v r d sz g]

theorem append_onT (T U : Nat) (s x : AV) : append' E T U o (σ.onT t') s x = (append' E T U o σ s x).reT t' o.dst := by
  obtain ⟨t, c, v, r⟩ := σ
  show append' E T U o ⟨t', c, v, r⟩ s x = _
  unfold append'
  simp only [content_t t t' c v r, appTag_t t t' c v r]
  ((repeat' split) <;> first | rfl | exact putL _ | exact chkL _ _ | exact boxL _ _ _ _ _ | exact newL _ _ _ _ _ | exact bumpL _ _ _ _ | (simp_all; done))

theorem appendB_onT (T U id ver : Nat) (x : AV) : appendB E T U o (σ.onT t') id ver x = (appendB E T U o σ id ver x).reT t' o.dst := by
  obtain ⟨t, c, v, r⟩ := σ
  show appendB E T U o ⟨t', c, v, r⟩ id ver x = _
  unfold appendB appWhat
  simp only [content_t t t' c v r]
  ((repeat' split) <;> first | rfl | exact putL _ | exact chkL _ _ | exact boxL _ _ _ _ _ | exact newL _ _ _ _ _ | exact bumpL _ _ _ _ | (simp_all; done))

theorem move_onT (x : AV) : move' E o (σ.onT t') x = (move' E o σ x).reT t' o.dst := by
  unfold move'
  split
  · rename_i d hd
    cases E.bx d with
    | true =>
      dsimp only [cond]
      split
      · exact go_onT _ (σ.newBox _ _) _ _
      · rfl
    | false => exact put_onT _
  · exact put_onT _

theorem convert_onT (src dst : Nat) (x : AV) : convert' E src dst o (σ.onT t') x = (convert' E src dst o σ x).reT t' o.dst := by
  obtain ⟨t, c, v, r⟩ := σ
  show convert' E src dst o ⟨t', c, v, r⟩ x = _
  unfold convert'
  simp only [content_t t t' c v r]
  ((repeat' split) <;> first | rfl | exact putL _ | exact chkL _ _ | exact boxL _ _ _ _ _ | exact newL _ _ _ _ _ | exact bumpL _ _ _ _ | (simp_all; done))

theorem binInt_onT (op : BinOp) (k j : IntKind) (a b : Int) : binInt op o (σ.onT t') k j a b = (binInt op o σ k j a b).reT t' o.dst := by
  obtain ⟨t, c, v, r⟩ := σ
  show binInt op o ⟨t', c, v, r⟩ k j a b = _
  unfold binInt
  ((repeat' split) <;> first | rfl | exact putL _ | exact chkL _ _ | exact boxL _ _ _ _ _ | exact newL _ _ _ _ _ | exact bumpL _ _ _ _ | (simp_all; done))

theorem binStr_onT (op : BinOp) (a b : ByteArray) : binStr op o (σ.onT t') a b = (binStr op o σ a b).reT t' o.dst := by
  obtain ⟨t, c, v, r⟩ := σ
  show binStr op o ⟨t', c, v, r⟩ a b = _
  unfold binStr
  ((repeat' split) <;> first | rfl | exact putL _ | exact chkL _ _ | exact boxL _ _ _ _ _ | exact newL _ _ _ _ _ | exact bumpL _ _ _ _ | (simp_all; done))

theorem binOp_onT (T : Nat) (op : BinOp) (x y : AV) : binOp' E T op o (σ.onT t') x y = (binOp' E T op o σ x y).reT t' o.dst := by
  unfold binOp'
  split
  · split
    · exact binInt_onT _ _ _ _ _
    · exact binStr_onT _ _ _
    · split
      · split
        · split
          · exact put_onT _
          · exact put_onT _
          · rfl
        · rfl
      · rfl
  · rfl

theorem unOp_onT (op : UnOp) (x : AV) : unOp' op o (σ.onT t') x = (unOp' op o σ x).reT t' o.dst := by
  obtain ⟨t, c, v, r⟩ := σ
  show unOp' op o ⟨t', c, v, r⟩ x = _
  unfold unOp'
  ((repeat' split) <;> first | rfl | exact putL _ | exact chkL _ _ | exact boxL _ _ _ _ _ | exact newL _ _ _ _ _ | exact bumpL _ _ _ _ | (simp_all; done))

theorem len_onT (T : Option Ty) (x : AV) : len' T o (σ.onT t') x = (len' T o σ x).reT t' o.dst := by
  obtain ⟨t, c, v, r⟩ := σ
  show len' T o ⟨t', c, v, r⟩ x = _
  unfold len'
  try dsimp only
  ((repeat' split) <;> first | rfl | exact putL _ | exact chkL _ _ | exact boxL _ _ _ _ _ | exact newL _ _ _ _ _ | exact bumpL _ _ _ _ | (simp_all; done))

theorem minmax_onT (f : Int → Int → Int) (xs : List AV) : minmax' f o (σ.onT t') xs = (minmax' f o σ xs).reT t' o.dst := by
  unfold minmax'
  split
  · split
    · exact put_onT _
    · rfl
  · rfl

theorem bnd_onT {x : Option Operand} (d : Int) (h : ∀ y, x = some y → opd (σ.onT t') y = opd σ y) : bnd (σ.onT t') d x = bnd σ d x := by
  cases x with
  | none => rfl
  | some y => unfold bnd; dsimp only; rw [h y rfl]

theorem slice_onT (T : Nat) (x : AV) (lo hi : Option Operand) (h1 : ∀ y, lo = some y → opd (σ.onT t') y = opd σ y) (h2 : ∀ y, hi = some y → opd (σ.onT t') y = opd σ y) :
    slice' E T o (σ.onT t') x lo hi = (slice' E T o σ x lo hi).reT t' o.dst := by
  unfold slice'
  simp only [bnd_onT _ h1, bnd_onT _ h2]
  obtain ⟨t, c, v, r⟩ := σ
  simp only [show St.onT ⟨t, c, v, r⟩ t' = ⟨t', c, v, r⟩ from rfl]
  ((repeat' split) <;> first | rfl | exact putL _ | exact chkL _ _ | exact boxL _ _ _ _ _ | exact newL _ _ _ _ _ | exact bumpL _ _ _ _ | (simp_all; done))

theorem build_onT (T : Nat) : ∀ (ps : List (Nat × Operand)) (t : Ty) (z : t.D) (g : List Tag), (∀ p ∈ ps, opd (σ.onT t') p.2 = opd σ p.2) → build' E T (σ.onT t') t ps z g = build' E T σ t ps z g
  | [], t, z, g, _ => rfl
  | (f, x) :: ps, t, z, g, h => by
    have ih := fun z g => build_onT T ps t z g fun p hp => h p (List.mem_cons_of_mem _ hp)
    unfold build'
    rw [show opd (σ.onT t') x = opd σ x from h (f, x) (List.mem_cons_self ..)]
    simp only [ih]

theorem lit_onT (e : Ty) : ∀ (ps : List (Nat × Operand)) (i : Nat), (∀ p ∈ ps, opd (σ.onT t') p.2 = opd σ p.2) → lit' (σ.onT t') e i ps = lit' σ e i ps
  | [], _, _ => rfl
  | (j, x) :: ps, i, h => by
    unfold lit'
    rw [show opd (σ.onT t') x = opd σ x from h (j, x) (List.mem_cons_self ..), lit_onT e ps (i + 1) fun p hp => h p (List.mem_cons_of_mem _ hp)]

theorem buildSlice_onT (T n : Nat) (ps : Array (Nat × Operand)) (h : ∀ p ∈ ps.toList, opd (σ.onT t') p.2 = opd σ p.2) : buildSlice' E T n ps o (σ.onT t') = (buildSlice' E T n ps o σ).reT t' o.dst := by
  unfold buildSlice'
  split
  · rw [lit_onT _ _ _ h]
    split
    · split
      · exact go_onT _ (σ.bump _) _ _
      · rfl
    · rfl
  · rfl

theorem makeSlice_onT (T : Nat) (x y : Operand) (hx : opd (σ.onT t') x = opd σ x) (hy : opd (σ.onT t') y = opd σ y) : makeSlice' E T o (σ.onT t') x y = (makeSlice' E T o σ x y).reT t' o.dst := by
  unfold makeSlice'
  rw [hx, hy]
  split
  · rename_i d e k n g1 j m g2 hd hT hn hm
    split
    · exact go_onT _ (σ.newBox _ _) _ _
    · split
      · cases E.bx d with
        | true => exact go_onT _ (σ.newBox _ _) _ _
        | false => exact go_onT _ (σ.bump _) _ _
      · rfl
  · rfl

theorem arg_onT (T : Nat) (x : AV) : arg' E T (σ.onT t') x = (arg' E T σ x).map fun p => (p.1, p.2.onT t') := by
  obtain ⟨t, c, v, r⟩ := σ
  show arg' E T ⟨t', c, v, r⟩ x = _
  unfold arg'
  try dsimp only
  (repeat' split) <;> first | rfl | (simp_all; done)

theorem arg_t {T : Nat} {x a : AV} {σ1 : St} (h : arg' E T σ x = some (a, σ1)) : σ1.t = σ.t := by
  unfold arg' at h
  (repeat' split at h) <;> first | (cases h; rfl) | cases h

theorem opd_t {σ ρ : St} (h : σ.t = ρ.t) (x : Operand) : opd σ x = opd ρ x := by
  cases x <;> first | rfl | (unfold opd; rw [h])
  
theorem args_onT : ∀ (ps : List (Operand × Nat)) (σ : St), (∀ p ∈ ps, opd (σ.onT t') p.1 = opd σ p.1) → args' E ps (σ.onT t') = (args' E ps σ).map fun p => (p.1, p.2.onT t')
  | [], σ, _ => rfl
  | (x, T) :: ps, σ, h => by
    unfold args'
    rw [show opd (σ.onT t') x = opd σ x from h (x, T) (List.mem_cons_self ..), arg_onT]
    cases ha : arg' E T σ (opd σ x) with
    | none => rfl
    | some p =>
      obtain ⟨a, σ1⟩ := p
      simp only [Option.map_some]
      have ht := arg_t ha
      rw [args_onT ps σ1 fun p hp => by
        rw [show opd (σ1.onT t') p.1 = opd (σ.onT t') p.1 from opd_t (σ := σ1.onT t') (ρ := σ.onT t') rfl _, h p (List.mem_cons_of_mem _ hp)]; exact (opd_t ht _).symm]
      cases args' E ps σ1 with
      | none => rfl
      | some q => rfl

theorem args_t : ∀ {ps : List (Operand × Nat)} {σ σ1 : St} {l : List AV}, args' E ps σ = some (l, σ1) → σ1.t = σ.t
  | [], σ, σ1, l, h => by cases h; rfl
  | (x, T) :: ps, σ, σ1, l, h => by
    unfold args' at h
    split at h
    · rename_i a σ2 ha
      split at h
      · rename_i l2 σ3 hl
        cases h
        exact (args_t hl).trans (arg_t ha)
      · cases h
    · cases h

theorem cap_onT (x : AV) : cap' (σ.onT t') x = (cap' σ x).map fun p => (p.1, p.2.onT t') := by
  obtain ⟨t, c, v, r⟩ := σ
  show cap' ⟨t', c, v, r⟩ x = _
  unfold cap'
  try dsimp only
  (repeat' split) <;> first | rfl | (simp_all; done)

theorem cap_t {x : AV} {a : Dat} {σ1 : St} (h : cap' σ x = some (a, σ1)) : σ1.t = σ.t := by
  unfold cap' at h
  (repeat' split at h) <;> first | (cases h; rfl) | cases h

theorem caps_onT : ∀ (ps : List Operand) (σ : St), (∀ p ∈ ps, opd (σ.onT t') p = opd σ p) → caps' ps (σ.onT t') = (caps' ps σ).map fun p => (p.1, p.2.onT t')
  | [], σ, _ => rfl
  | x :: ps, σ, h => by
    unfold caps'
    rw [show opd (σ.onT t') x = opd σ x from h x (List.mem_cons_self ..), cap_onT]
    cases ha : cap' σ (opd σ x) with
    | none => rfl
    | some p =>
      obtain ⟨a, σ1⟩ := p
      simp only [Option.map_some]
      have ht := cap_t ha
      rw [caps_onT ps σ1 fun p hp => by
        rw [show opd (σ1.onT t') p = opd (σ.onT t') p from opd_t (σ := σ1.onT t') (ρ := σ.onT t') rfl _, h p (List.mem_cons_of_mem _ hp)]; exact (opd_t ht _).symm]
      cases caps' ps σ1 with
      | none => rfl
      | some q => rfl

theorem capsB_onT : ∀ (ps : List Operand), (∀ p ∈ ps, opd (σ.onT t') p = opd σ p) → capsB (σ.onT t') ps = capsB σ ps
  | [], _ => rfl
  | x :: ps, h => by
    unfold capsB
    rw [show opd (σ.onT t') x = opd σ x from h x (List.mem_cons_self ..), capsB_onT ps fun p hp => h p (List.mem_cons_of_mem _ hp)]
    rfl

theorem cloA_onT : ∀ (ps : List (Nat × Nat)), cloA (σ.onT t') ps = cloA σ ps
  | [] => rfl
  | (id, ver) :: ps => by
    unfold cloA
    rw [cloA_onT ps]
    rfl

theorem ioFree_onT : ∀ (ids : List Nat), ioFree (σ.onT t') ids = ioFree σ ids
  | [] => rfl
  | id :: ids => by
    unfold ioFree
    rw [ioFree_onT ids]
    rfl

theorem setIos_onT : ∀ (ids : List Nat) (ds : List Dat) (σ : St), setIos ids ds (σ.onT t') = (setIos ids ds σ).onT t'
  | [], _, _ => rfl
  | _ :: _, [], _ => rfl
  | id :: ids, d :: ds, σ => setIos_onT ids ds (σ.setBox id (.var d.t d.x []))

theorem argIds_onT (xs : List Operand) (h : ∀ x ∈ xs, opd (σ.onT t') x = opd σ x) : argIds (σ.onT t') xs = argIds σ xs := by
  unfold argIds
  induction xs with
  | nil => rfl
  | cons x xs ih => rw [List.flatMap_cons, List.flatMap_cons, h x (List.mem_cons_self ..), ih fun y hy => h y (List.mem_cons_of_mem _ hy)]

end
end Go.AM
