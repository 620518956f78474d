/- Operations look at slots by their operands alone: all of them. -/
import Derived.Test.YtkfffcnililmkaaDoorAmLoc
namespace Go.AM
open Go.RowKit (Below)
set_option linter.unusedSectionVars false
variable [Lay]
section
variable {E : Env} {o : Oper} {σ : St} {t' : Nat → AV}

theorem impG_onT (d : Nat) : ∀ (g : List Tag) (j : Nat) (σ : St), impG d g j (σ.onT t') = ((impG d g j σ).1, (impG d g j σ).2.1, (impG d g j σ).2.2.onT t')
  | [], _, _ => rfl
  | x :: g, j, σ => by
    unfold impG
    split
    · simp only [impG_onT d g j σ]
    · have := impG_onT d g (j + 1) (σ.bump (rid d j))
      simp only [show (σ.onT t').bump (rid d j) = (σ.bump (rid d j)).onT t' from rfl, this]
      rfl

theorem impD_onT (d : Nat) : ∀ (ds : List Dat) (j : Nat) (σ : St), impD d ds j (σ.onT t') = ((impD d ds j σ).1, (impD d ds j σ).2.1, (impD d ds j σ).2.2.onT t')
  | [], _, _ => rfl
  | x :: ds, j, σ => by
    unfold impD
    simp only [impG_onT d x.g j σ, impD_onT d ds _ (impG d x.g j σ).2.2]

theorem imp_onT (a : AV) : imp o (σ.onT t') a = (imp o σ a).onT (tset t' o.dst (dv (imp o σ a) o.dst)) := by
  unfold imp
  cases hd : o.dst with
  | none => rfl
  | some d =>
    dsimp only
    split
    · simp only [impG_onT]
      exact setT_onT _ _ _
    · simp only [impD_onT]
      exact setT_onT _ _ _
    · exact setT_onT _ _ _

theorem lent_onT (b : Bool) (σ σ1 : St) : lent b (σ.onT t') (σ1.onT t') = (lent b σ σ1).onT t' := by cases b <;> rfl

theorem call_onT {c : Call} (h : ∀ x ∈ c.operands, opd (σ.onT t') x = opd σ x) : call' E c o (σ.onT t') = (call' E c o σ).reT t' o.dst := by
  have hargs : ∀ x ∈ c.args.toList, opd (σ.onT t') x = opd σ x := fun x hx => h x (by unfold Call.operands; exact Array.mem_append.2 (.inr (Array.mem_toList_iff.1 hx)))
  have hmap : ∀ xs : List Operand, (∀ x ∈ xs, opd (σ.onT t') x = opd σ x) → xs.map (opd (σ.onT t')) = xs.map (opd σ) := fun xs hx => List.map_congr_left hx
  unfold call'
  split
  · rename_i b hb
    split
    · rename_i x T ha hat
      rw [hargs x (by rw [ha]; exact List.mem_cons_self ..)]
      exact len_onT _ _
    · rename_i s x T U ha hat
      rw [hargs x (by rw [ha]; simp), hargs s (by rw [ha]; simp)]
      split
      · exact appendB_onT _ _ _ _ _
      · exact append_onT _ _ _ _
    · rw [hmap _ hargs]; exact minmax_onT _ _
    · rw [hmap _ hargs]; exact minmax_onT _ _
    · rfl
  · rename_i f hf
    rw [h f (by unfold Call.operands; rw [hf]; exact Array.mem_append.2 (.inl (by simp)))]
    split
    · rename_i fn ds hfn
      split
      · rename_i s hs
        split
        · rename_i hlen
          rw [args_onT _ _ fun p hp => hargs p.1 (List.of_mem_zip hp).1]
          cases ha : args' E (c.args.toList.zip c.argTypes.toList) σ with
          | none => rfl
          | some q =>
            obtain ⟨l, σ1⟩ := q
            simp only [Option.map_some]
            split
            · rename_i r hr
              rw [argIds_onT _ hargs, lent_onT, ioFree_onT]
              cases ioFree (lent (E.lend fn) σ σ1) (argIds σ c.args.toList) with
              | false => rfl
              | true =>
                dsimp only [cond]
                unfold Step.reT
                simp only [setIos_onT, imp_onT]
            · rfl
        · rfl
      · rfl
    · rename_i fn ps hfn
      split
      · rename_i s hs
        split
        · rename_i hlen
          rw [args_onT _ _ fun p hp => hargs p.1 (List.of_mem_zip hp).1, cloA_onT]
          cases ha : args' E (c.args.toList.zip c.argTypes.toList) σ with
          | none => rfl
          | some q =>
            obtain ⟨l, σ1⟩ := q
            cases hcl : cloA σ ps with
            | none => rfl
            | some cs =>
              simp only [Option.map_some]
              split
              · rename_i r hr
                rw [argIds_onT _ hargs, lent_onT, ioFree_onT]
                cases ioFree (lent (E.lend fn) σ σ1) (argIds σ c.args.toList ++ ps.map (·.1)) with
                | false => rfl
                | true =>
                  dsimp only [cond]
                  unfold Step.reT
                  simp only [setIos_onT, imp_onT]
              · rfl
        · rfl
      · rfl
    · rfl
  · rfl

theorem coe_same (T : Nat) (a : AV) : coe E T a = coe E T a := rfl

theorem evOp_onT (h : ∀ x ∈ o.op.operands, opd (σ.onT t') x = opd σ x) : evOp E (σ.onT t') o = (evOp E σ o).reT t' o.dst := by
  unfold evOp
  cases ho : o.op <;> rw [ho] at h <;> (try dsimp only)
  case move x => rw [h x (by simp [Op.operands])]; exact move_onT _
  case assign x => rw [h x (by simp [Op.operands])]; exact move_onT _
  case alloc T => exact alloc_onT T
  case box T x => rw [h x (by simp [Op.operands])]; exact box_onT T _
  case build T ps =>
    split
    · split
      · rw [build_onT T ps.toList _ _ _ fun p hp => h p.2 (by simp only [Op.operands, List.mem_toArray, List.mem_map]; exact ⟨p, hp, rfl⟩)]
        split
        · exact put_onT _
        · rfl
      · rfl
    · rfl
  case buildSlice T n ps => exact buildSlice_onT T n ps fun p hp => h p.2 (by simp only [Op.operands, List.mem_toArray, List.mem_map]; exact ⟨p, hp, rfl⟩)
  case load T x => rw [h x (by simp [Op.operands])]; exact load_onT T _
  case store T x y => rw [h x (by simp [Op.operands]), h y (by simp [Op.operands])]; exact store_onT T _ _
  case nilCheck x =>
    rw [h x (by simp [Op.operands])]
    obtain ⟨t, c, v, r⟩ := σ
    simp only [show St.onT ⟨t, c, v, r⟩ t' = ⟨t', c, v, r⟩ from rfl]
    ((repeat' split) <;> first | rfl | exact putL _ | exact chkL _ _ | exact boxL _ _ _ _ _ | exact newL _ _ _ _ _ | exact bumpL _ _ _ _ | (simp_all; done))
  case binOp op T x y U => rw [h x (by simp [Op.operands]), h y (by simp [Op.operands])]; exact binOp_onT T op _ _
  case unOp op T x => rw [h x (by simp [Op.operands])]; exact unOp_onT op _
  case convert s d x => rw [h x (by simp [Op.operands])]; exact convert_onT s d _
  case makeFunc fn p q =>
    cases fn with
    | func f =>
      dsimp only
      split
      · have hq : ∀ x ∈ q.toList, opd (σ.onT t') x = opd σ x := fun x hx => h x (by simp only [Op.operands]; exact Array.mem_append.2 (.inr (Array.mem_toList_iff.1 hx)))
        cases bxAt E o.dst with
        | true =>
          dsimp only [cond]
          rw [capsB_onT q.toList hq]
          cases capsB σ q.toList with
          | none => rfl
          | some z => exact put_onT _
        | false =>
          dsimp only [cond]
          rw [caps_onT q.toList σ hq]
          cases caps' q.toList σ with
          | none => rfl
          | some z => exact go_onT _ _ _ _
      · rfl
    | _ => rfl
  case makeSlice T x y => exact makeSlice_onT T x y (h x (by simp [Op.operands])) (h y (by simp [Op.operands]))
  case slice T x lo hi mx =>
    cases mx with
    | none =>
      dsimp only
      rw [h x (by simp [Op.operands])]
      exact slice_onT T _ lo hi (fun y hy => h y (by simp [Op.operands, hy])) (fun y hy => h y (by simp [Op.operands, hy]))
    | some m => rfl
  case fieldAddr S x f => rw [h x (by simp [Op.operands])]; exact fieldAddr_onT S f _
  case field S x f => rw [h x (by simp [Op.operands])]; exact field_onT S f _
  case indexAddr T x i => rw [h x (by simp [Op.operands]), h i (by simp [Op.operands])]; exact indexAddr_onT T _ _
  case index T x i => rw [h x (by simp [Op.operands]), h i (by simp [Op.operands])]; exact index_onT T _ _
  case extract x i => rw [h x (by simp [Op.operands])]; exact extract_onT i _
  case call c => exact call_onT h
  all_goals rfl

theorem Step.reT_to {s : Step} {σ' : St} {d : Option Nat} (h : s.to σ') : (s.reT t' d).to (σ'.onT (tset t' d (dv σ' d))) := by
  cases s with
  | no => exact h
  | go c σ1 => obtain ⟨rfl, rfl⟩ := h; exact ⟨rfl, rfl⟩
  | call α m f => obtain ⟨x, hx, rfl⟩ := h; exact ⟨x, hx, rfl⟩

theorem one_onT {σ' : St} (h : ∀ x ∈ o.op.operands, opd (σ.onT t') x = opd σ x) (hg : OneTo E σ o σ') : OneTo E (σ.onT t') o (σ'.onT (tset t' o.dst (dv σ' o.dst))) := by
  unfold OneTo at *
  split at hg
  · rename_i c x y ho
    obtain ⟨t, gs, hc, rfl⟩ := hg
    rw [ho] at h
    refine ⟨t, gs, (h c (by simp [Op.operands])).trans hc, ?_⟩
    rw [h x (by simp [Op.operands]), h y (by simp [Op.operands])]
    exact (setT_onT _ _ _).symm
  · rename_i hno
    rw [evOp_onT h]
    exact Step.reT_to hg

/-- Under its guard: what is looked at may be told by the kit's own list. -/
theorem gto_onT {ops : Array Oper} {σ' : St} (h : ∀ d ∈ o.looksAt ops, t' d = σ.t d) (hg : GTo E ops o σ σ') : GTo E ops o (σ.onT t') (σ'.onT (tset t' o.dst (dv σ' o.dst))) := by
  have hop : ∀ x ∈ o.op.operands, opd (σ.onT t') x = opd σ x := fun x hx => by
    cases x with
    | tmp d => exact h d (List.mem_append_left _ (List.mem_filterMap.2 ⟨.tmp d, by simpa using hx, rfl⟩))
    | _ => unfold opd; split <;> simp_all
  unfold GTo at *
  split at hg
  · exact one_onT hop hg
  · rename_i j want hgd
    split at hg
    · rename_i hs
      subst hg
      exact (setT_onT _ _ _).symm
    · rename_i s hs
      rw [show (σ.onT t').t s = σ.t s from h s (List.mem_append_right _ (by rw [hgd]; have h' : (ops[j]?).bind (fun (o : Oper) => o.dst) = some s := hs; simp only [h']; simp))]
      split at hg
      · subst hg; exact (setT_onT _ _ _).symm
      · split at hg
        · rename_i he; subst he; rw [if_pos rfl]; exact one_onT hop hg
        · rename_i he; rw [if_neg he]; subst hg; exact (setT_onT _ _ _).symm
      · exact hg

end
end Go.AM
