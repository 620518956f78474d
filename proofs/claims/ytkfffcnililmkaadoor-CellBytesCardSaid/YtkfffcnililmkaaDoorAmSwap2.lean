/- Two operations that do not meddle with one another may change places: the law. -/
import Derived.Test.YtkfffcnililmkaaDoorAmSwap
namespace Go.AM
open Go.RowKit (Below)
set_option linter.unusedSectionVars false
variable [Lay]
section
variable {E : Env} {o : Oper} {σ ρ σ' : St} {ops : Array Oper}


theorem Kept.mono {W W' : List Nat} {a b : St} (h : Kept W a b) (hw : ∀ x ∈ W, x ∈ W') : Kept W' a b := fun id hid => h id fun hx => hid (hw id hx)

theorem cap_kept {x : AV} {d : Dat} {σ σ1 : St} (h : cap' σ x = some (d, σ1)) : Kept (idsA x) σ σ1 := by
  unfold cap' at h
  split at h
  · split at h
    · split at h
      · cases h; exact kept_setBox _
      · cases h; exact kept_refl _ _
      · cases h
    · cases h
  · cases h; exact kept_refl _ _
  · cases h

theorem caps_kept : ∀ {xs : List Operand} {σ σ1 : St} {ds : List Dat}, caps' xs σ = some (ds, σ1) → Kept (xs.flatMap fun x => idsA (opd σ x)) σ σ1
  | [], σ, σ1, ds, h => by cases h; exact kept_refl _ _
  | x :: xs, σ, σ1, ds, h => by
    unfold caps' at h
    split at h
    · rename_i d σ2 h1
      split at h
      · rename_i ds2 σ3 h2
        cases h
        have ht := cap_t h1
        have he : (xs.flatMap fun x => idsA (opd σ2 x)) = xs.flatMap fun x => idsA (opd σ x) := by
          have : (fun x => idsA (opd σ2 x)) = fun x => idsA (opd σ x) := funext fun x => by rw [opd_t ht]
          rw [this]
        have k1 := (cap_kept h1).mono (W' := (x :: xs).flatMap fun x => idsA (opd σ x)) fun y hy => by rw [List.flatMap_cons]; exact List.mem_append_left _ hy
        have k2 := (caps_kept h2).mono (W' := (x :: xs).flatMap fun x => idsA (opd σ x)) fun y hy => by rw [he] at hy; rw [List.flatMap_cons]; exact List.mem_append_right _ hy
        exact k1.trans k2
      · cases h
    · cases h

theorem move_kept {x : AV} (h : bxAt E o.dst = true) : StepKept (bif bxAt E o.dst then o.dst.toList else []) σ (move' E o σ x) := by
  unfold move'
  split
  · rename_i d hd
    rw [hd] at h ⊢
    simp only [bxAt] at h ⊢
    rw [h]
    dsimp only [cond]
    split
    · exact go_kept (kept_newBox _)
    · exact no_kept _
  · exact put_kept _ _

theorem lent_kept {W : List Nat} {b : Bool} {σ σ1 : St} (h : Kept W σ σ1) : Kept W σ (lent b σ σ1) := by
  cases b
  · exact h
  · exact kept_refl _ _

theorem call_kept {c : Call} (ho : o.op = .call c) : StepKept (wr E σ o) σ (call' E c o σ) := by
  unfold wr
  rw [ho]
  obtain ⟨cl, as, ats⟩ := c
  cases cl with
  | builtin b =>
    unfold call'
    have hlen : ∀ W T x, StepKept W σ (len' T o σ x) := fun W T x => by unfold len'; ((repeat' split) <;> first | exact no_kept _ | exact go_kept (kept_bump _ _ _) | exact go_kept (kept_refl _ _) | exact put_kept _ _ | exact chk_kept _ _ _)
    have happ : ∀ W T U s x, StepKept W σ (append' E T U o σ s x) := fun W T U s x => by unfold append'; ((repeat' split) <;> first | exact no_kept _ | exact go_kept (kept_bump _ _ _) | exact go_kept (kept_refl _ _) | exact put_kept _ _ | exact chk_kept _ _ _)
    have happB : ∀ T U id ver x, StepKept [id] σ (appendB E T U o σ id ver x) := fun T U id ver x => by unfold appendB; ((repeat' split) <;> first | exact no_kept _ | exact go_kept (kept_newBox _))
    have hmm : ∀ W f xs, StepKept W σ (minmax' f o σ xs) := fun W f xs => by unfold minmax'; ((repeat' split) <;> first | exact no_kept _ | exact go_kept (kept_bump _ _ _) | exact go_kept (kept_refl _ _) | exact put_kept _ _ | exact chk_kept _ _ _)
    clear ho
    dsimp only
    generalize as.toList = al
    generalize ats.toList = tl
    cases b <;> dsimp only
    case len => rcases al with _ | ⟨s, _ | ⟨x, al⟩⟩ <;> rcases tl with _ | ⟨T, _ | ⟨U, tl⟩⟩ <;> first | exact hlen _ _ _ | exact no_kept _
    case append =>
      rcases al with _ | ⟨s, _ | ⟨x, _ | ⟨y, al⟩⟩⟩ <;> rcases tl with _ | ⟨T, _ | ⟨U, _ | ⟨V, tl⟩⟩⟩ <;> (try exact no_kept _)
      dsimp only
      cases opd σ s <;> first | exact happB _ _ _ _ _ | exact happ _ _ _ _ _
    case min => exact hmm _ _ _
    case max => exact hmm _ _ _
    all_goals exact no_kept _
  | value f =>
    unfold call'
    dsimp only
    split
    · split
      · split
        · split
          · rename_i l σ1 hl
            split
            · rename_i r hr
              cases ioFree (lent (E.lend _) σ σ1) (argIds σ as.toList) with
              | false => exact no_kept _
              | true =>
                rintro _ ⟨x, _, rfl⟩
                exact ((lent_kept (args_kept hl)).trans ((kept_setIos _ _ _).mono fun y hy => List.mem_append_left _ hy)).trans (imp_kept _ _)
            · exact no_kept _
          · exact no_kept _
        · exact no_kept _
      · exact no_kept _
    · rename_i fn ps hfn
      rw [hfn]
      split
      · split
        · split
          · rename_i l σ1 cs hl hcs
            split
            · rename_i r hr
              cases ioFree (lent (E.lend _) σ σ1) (argIds σ as.toList ++ ps.map (·.1)) with
              | false => exact no_kept _
              | true =>
                rintro _ ⟨x, _, rfl⟩
                exact ((lent_kept (args_kept hl)).trans (kept_setIos _ _ _)).trans (imp_kept _ _)
            · exact no_kept _
          · exact no_kept _
        · exact no_kept _
      · exact no_kept _
    · exact no_kept _
  | _ => exact no_kept _

theorem evOp_kept : StepKept (wr E σ o) σ (evOp E σ o) := by
  by_cases hp : pureOp E o = true
  · by_cases hnp : ∀ c x y, o.op ≠ .pick c x y
    · have h1 := evOp_reM (E := E) hp hnp (ρ := σ) rfl (near_refl _ _)
      intro σ' h
      have h2 := Step.reM_to (ρ := σ) (o := o) h
      rw [← h1] at h2
      rw [Step.to_unique h h2]
      exact (kept_refl _ _).set _ _ _ _
    · have : ∃ c x y, o.op = .pick c x y := by
        by_cases h : ∃ c x y, o.op = .pick c x y
        · exact h
        · exact absurd (fun c x y he => h ⟨c, x, y, he⟩) hnp
      obtain ⟨c, x, y, ho⟩ := this
      unfold evOp
      rw [ho]
      exact no_kept _
  · unfold pureOp at hp
    unfold evOp wr
    cases ho : o.op <;> rw [ho] at hp <;> (try dsimp only) <;> (try (exact absurd rfl hp)) <;> (try (exact no_kept _))
    case move x => exact move_kept (by simpa using hp)
    case assign x => exact move_kept (by simpa using hp)
    case alloc T =>
      unfold alloc'
      split
      · rename_i d hd
        split
        · rw [hd]; exact go_kept (kept_newBox _)
        · split
          · rw [hd]; exact go_kept (kept_newBox _)
          · exact no_kept _
      · exact no_kept _
    case box T x =>
      unfold box'
      split
      · rename_i d hd
        split
        · split
          · unfold boxTo; rw [hd]; split <;> exact go_kept (kept_newBox _)
          · exact no_kept _
        · exact no_kept _
      · exact no_kept _
    case buildSlice T n ps => unfold buildSlice'; ((repeat' split) <;> first | exact no_kept _ | exact go_kept (kept_bump _ _ _) | exact go_kept (kept_refl _ _) | exact put_kept _ _ | exact chk_kept _ _ _)
    case makeFunc fn p q =>
      cases fn with
      | func f =>
        dsimp only
        split
        · cases bxAt E o.dst with
          | true =>
            dsimp only [cond]
            split
            · exact put_kept _ _
            · exact no_kept _
          | false =>
            dsimp only [cond]
            split
            · rename_i ds σ1 hq; exact go_kept (caps_kept hq)
            · exact no_kept _
        · exact no_kept _
      | _ => exact no_kept _
    case makeSlice T x y =>
      unfold makeSlice'
      split
      · rename_i d e k n g k2 m g2 hd _ _ _
        split
        · rw [hd]; exact go_kept (kept_newBox _)
        · split
          · cases E.bx d with
            | true => rw [hd]; exact go_kept (kept_newBox _)
            | false => exact go_kept (kept_bump _ _ _)
          · exact no_kept _
      · exact no_kept _
    case store T a x =>
      unfold store'
      split
      · rename_i id ver off ha
        rw [show idsA (opd σ a) = [id] by rw [ha]; rfl]
        (repeat' split) <;> first | exact no_kept _ | exact go_kept (kept_setBox _)
      · rename_i id ver i off ha
        rw [show idsA (opd σ a) = [id] by rw [ha]; rfl]
        (repeat' split) <;> first | exact no_kept _ | exact go_kept (kept_setBox _)
      · exact no_kept _
    case call c =>
      have := call_kept (E := E) (σ := σ) ho
      unfold wr at this
      rw [ho] at this
      exact this

theorem gto_kept (h : GTo E ops o σ σ') : Kept (wr E σ o) σ σ' := by
  have hs : ∀ a, Kept (wr E σ o) σ (σ.setT o.dst a) := fun a => (kept_refl _ _).set _ _ _ _
  have h1 : OneTo E σ o σ' → Kept (wr E σ o) σ σ' := fun h => by
    unfold OneTo at h
    split at h
    · obtain ⟨t, gs, _, rfl⟩ := h; exact hs _
    · exact evOp_kept _ h
  unfold GTo at h
  split at h
  · exact h1 h
  · split at h
    · subst h; exact hs _
    · split at h
      · subst h; exact hs _
      · split at h
        · exact h1 h
        · subst h; exact hs _
      · exact h.elim

/-- Slots but the one that is written are as they were. -/
theorem gto_t (h : GTo E ops o σ σ') : σ'.t = tset σ.t o.dst (dv σ' o.dst) := by
  have hs : ∀ a, (σ.setT o.dst a).t = tset σ.t o.dst (dv (σ.setT o.dst a) o.dst) := fun a => by
    cases o.dst with
    | none => rfl
    | some d => show fset σ.t d a = fset σ.t d (fset σ.t d a d); rw [fset_self]
  have h1 : OneTo E σ o σ' → σ'.t = tset σ.t o.dst (dv σ' o.dst) := fun h => by
    unfold OneTo at h
    split at h
    · obtain ⟨t, gs, _, rfl⟩ := h; exact hs _
    · have h2 := evOp_onT (E := E) (σ := σ) (o := o) (t' := σ.t) fun _ _ => rfl
      have h3 := Step.reT_to (t' := σ.t) (d := o.dst) h
      rw [← h2] at h3
      have h4 := Step.to_unique h h3
      exact congrArg St.t h4
  unfold GTo at h
  split at h
  · exact h1 h
  · split at h
    · subst h; exact hs _
    · split at h
      · subst h; exact hs _
      · split at h
        · exact h1 h
        · subst h; exact hs _
      · exact h.elim

theorem tset_ne {t : Nat → AV} {d : Option Nat} {a : AV} {i : Nat} (h : d ≠ some i) : tset t d a i = t i := by
  cases d with
  | none => rfl
  | some d => show fset t d a i = t i; rw [fset_eq, if_neg fun e => h (by rw [e])]

theorem tset_comm {t : Nat → AV} {d e : Option Nat} {a b : AV} (h : ∀ i, d = some i → e ≠ some i) : tset (tset t d a) e b = tset (tset t e b) d a := by
  funext i
  cases d with
  | none => rfl
  | some d =>
    cases e with
    | none => rfl
    | some e =>
      have hne : d ≠ e := fun he => h d rfl (by rw [he])
      show fset (fset t d a) e b i = fset (fset t e b) d a i
      simp only [fset_eq]
      by_cases h1 : i = e
      · rw [if_pos h1, if_neg (by omega), if_pos h1]
      · rw [if_neg h1, if_neg h1]

theorem reads_congr (E : Env) (h : ∀ d ∈ o.looksAt ops, ρ.t d = σ.t d) : reads ρ o = reads σ o ∧ wr E ρ o = wr E σ o := by
  have hop : ∀ x ∈ o.op.operands, opd ρ x = opd σ x := fun x hx => by
    cases x with
    | tmp d => exact h d (List.mem_append_left _ (List.mem_filterMap.2 ⟨.tmp d, by simpa using hx, rfl⟩))
    | _ => unfold opd; split <;> simp_all
  constructor
  · unfold reads
    have : ∀ (l : List Operand), (∀ x ∈ l, opd ρ x = opd σ x) → (l.flatMap fun x => idsA (opd ρ x)) = l.flatMap fun x => idsA (opd σ x) := fun l => by
      induction l with
      | nil => intro _; rfl
      | cons x l ih => intro hl; rw [List.flatMap_cons, List.flatMap_cons, hl x (List.mem_cons_self ..), ih fun y hy => hl y (List.mem_cons_of_mem _ hy)]
    exact this o.op.operands.toList fun x hx => hop x (by simpa using hx)
  · have hfl : ∀ (f : AV → List Nat) (l : List Operand), (∀ x ∈ l, opd ρ x = opd σ x) → (l.flatMap fun x => f (opd ρ x)) = l.flatMap fun x => f (opd σ x) := fun f l => by
      induction l with
      | nil => intro _; rfl
      | cons x l ih => intro hl; rw [List.flatMap_cons, List.flatMap_cons, hl x (List.mem_cons_self ..), ih fun y hy => hl y (List.mem_cons_of_mem _ hy)]
    unfold wr
    cases ho : o.op <;> (try rfl)
    case store T a x =>
      dsimp only
      rw [hop a (by rw [ho]; simp [Op.operands])]
    case makeFunc fn p q =>
      dsimp only
      exact hfl idsA q.toList fun x hx => hop x (by rw [ho]; simp only [Op.operands]; exact Array.mem_append.2 (.inr (Array.mem_toList_iff.1 hx)))
    case call c =>
      have hargs : ∀ x ∈ c.args.toList, opd ρ x = opd σ x := fun x hx => hop x (by rw [ho]; simp only [Op.operands]; unfold Call.operands; exact Array.mem_append.2 (.inr (Array.mem_toList_iff.1 hx)))
      have hfn : ∀ f, c.callee = .value f → opd ρ f = opd σ f := fun f hc => hop f (by rw [ho]; simp only [Op.operands]; unfold Call.operands; rw [hc]; exact Array.mem_append.2 (.inl (by simp)))
      clear ho
      obtain ⟨cl, as, ats⟩ := c
      cases cl with
      | builtin b =>
        dsimp only at hargs ⊢
        generalize as.toList = al at hargs ⊢
        cases b <;> dsimp only
        cases al with
        | nil => rfl
        | cons s r => dsimp only; rw [hargs s (List.mem_cons_self ..)]
      | value f =>
        dsimp only
        rw [hfn f rfl]
        congr 1
        exact hfl ioId _ hargs
      | _ => rfl

theorem onT_self (σ : St) : σ.onT σ.t = σ := rfl
theorem setT_eq_onT (σ : St) (d : Option Nat) (a : AV) : σ.setT d a = σ.onT (tset σ.t d a) := by cases d <;> rfl

def disj (I W : List Nat) : Bool := I.all fun x => W.all fun y => !Nat.beq x y

theorem disj_spec {I W : List Nat} (h : disj I W = true) : ∀ x ∈ I, x ∉ W := fun x hx hw => by
  have := List.all_eq_true.1 (List.all_eq_true.1 h x hx) x hw
  simp at this

theorem tset_dv (t : Nat → AV) (ρ : St) (d : Option Nat) (a : AV) : tset t d (dv (ρ.setT d a) d) = tset t d a := by
  cases d with
  | none => rfl
  | some d => show fset t d (fset ρ.t d a d) = _; rw [fset_self]; rfl

theorem swap {i j : Oper} {σ σ1 σ2 : St} (hap : i.apart ops j = true) (hj : GTo E ops j σ σ1) (hi : GTo E ops i σ1 σ2)
    (hind : (pureOp E i = true ∧ disj (reads σ1 i) (wr E σ j) = true) ∨ (pureOp E j = true ∧ disj (reads σ j) (wr E σ1 i) = true)) :
    ∃ ρ, GTo E ops i σ ρ ∧ GTo E ops j ρ σ2 ∧ reads σ i = reads σ1 i ∧ wr E σ i = wr E σ1 i ∧ reads ρ j = reads σ j ∧ wr E ρ j = wr E σ j := by
  obtain ⟨a1, a2, a3⟩ := Oper.apart_spec hap
  have htj := gto_t hj
  have hti := gto_t hi
  have ci : ∀ d ∈ i.looksAt ops, σ.t d = σ1.t d := fun d hd => by rw [htj, tset_ne fun e => a3 d e hd]
  have key : ∀ ρ : St, ρ.t = tset σ.t i.dst (dv σ2 i.dst) → ∀ d ∈ j.looksAt ops, ρ.t d = σ.t d := fun ρ hρ d hd => by rw [hρ, tset_ne fun e => a1 d e hd]
  rcases hind with ⟨hp, hdis⟩ | ⟨hp, hdis⟩
  · obtain ⟨e1, st⟩ := gto_pure hp hi
    have hk := gto_kept hj
    have n1 : Near (reads σ1 i) σ1 (σ.onT σ1.t) := fun id hid =>
      ⟨(hk id (disj_spec hdis id hid)).1.symm, (hk id (disj_spec hdis id hid)).2.symm⟩
    have g1 := st (σ.onT σ1.t) rfl n1
    have g2 := gto_onT (σ := σ.onT σ1.t) (t' := σ.t) ci g1
    rw [tset_dv] at g2
    have e2 : (St.setT (σ.onT σ1.t) i.dst (dv σ2 i.dst)).onT (tset σ.t i.dst (dv σ2 i.dst)) = σ.setT i.dst (dv σ2 i.dst) := by
      rw [setT_eq_onT, setT_eq_onT]; rfl
    rw [e2] at g2
    have hρt : (σ.setT i.dst (dv σ2 i.dst)).t = tset σ.t i.dst (dv σ2 i.dst) := by rw [setT_eq_onT]; rfl
    refine ⟨_, g2, ?_, (reads_congr E ci).1, (reads_congr E ci).2, (reads_congr E (key _ hρt)).1, (reads_congr E (key _ hρt)).2⟩
    have g3 := gto_onT (t' := tset σ.t i.dst (dv σ2 i.dst)) (fun d hd => tset_ne fun e => a1 d e hd) hj
    rw [setT_eq_onT]
    rw [tset_comm a2, ← htj] at g3
    have e7 : σ2 = σ1.onT (tset σ1.t i.dst (dv σ2 i.dst)) := e1.trans (setT_eq_onT _ _ _)
    rw [← e7] at g3
    exact g3
  · obtain ⟨e1, st⟩ := gto_pure hp hj
    have hk := gto_kept hi
    have g1 := gto_onT (t' := σ.t) ci hi
    have e3 : σ1.onT σ.t = σ := by rw [e1, setT_eq_onT]; rfl
    rw [e3] at g1
    refine ⟨_, g1, ?_, (reads_congr E ci).1, (reads_congr E ci).2, (reads_congr E (key _ rfl)).1, (reads_congr E (key _ rfl)).2⟩
    have n1 : Near (reads σ j) σ (σ2.onT σ.t) := fun id hid => by
      have := hk id (disj_spec hdis id hid)
      have e4 : σ1.v = σ.v := by rw [e1, setT_eq_onT]; rfl
      have e5 : σ1.c = σ.c := by rw [e1, setT_eq_onT]; rfl
      rw [e4, e5] at this
      exact this
    have g2 := st (σ2.onT σ.t) rfl n1
    have g3 := gto_onT (σ := σ2.onT σ.t) (t' := tset σ.t i.dst (dv σ2 i.dst)) (fun d hd => tset_ne (t := σ.t) fun e => a1 d e hd) g2
    rw [tset_dv] at g3
    rw [tset_comm a2, ← htj, ← hti] at g3
    have e6 : (St.setT (σ2.onT σ.t) j.dst (dv σ1 j.dst)).onT σ2.t = σ2 := by rw [setT_eq_onT]; rfl
    rw [e6] at g3
    exact g3

end
end Go.AM
