/- Every operation, put together; guards, regions in the text's order. -/
import Derived.Test.YtkfffcnililmkaaDoorAmCall
namespace Go.AM
open Go.RowKit (Below)
set_option linter.unusedSectionVars false
variable [Lay]
section
variable {P : Program} {B : Bd} {ok0 : Nat → Nat → Prop} {w0 w w' : World} {g g' : G} {σ σ1 : St} {a : Act} {o : Oper} {E : Env}

theorem call'_ok (hE : EnvOk P E) (hC : CallsOk P E) (hI : Inv B ok0 w0 g σ a w) (hd : ∀ d, o.dst = some d → d < a.tmps.size) {c : Call} (ho : o.op = .call c) :
    StepOk P B ok0 w0 (call' E c o σ) o a w := by
  unfold call'
  split
  · rename_i b hb
    split
    · rename_i x T ha hat
      exact len_ok hE hI hd ho hb ha hat
    · rename_i s x T U ha hat
      split
      · rename_i id ver hs
        exact appendB_ok hE hI hd ho hb ha hat hs
      · exact append_ok hE hI hd ho hb ha hat
    · rename_i ha
      refine minmax_ok (F := Builtin.min2) hI hd (fun k j x y => rfl) fun v r hv u hu => ?_
      unfold execOp; rw [ho]
      simp [resolve, hb, invoke, builtin, Builtin.min_, hv, hu]
    · rename_i ha
      refine minmax_ok (F := Builtin.max2) hI hd (fun k j x y => rfl) fun v r hv u hu => ?_
      unfold execOp; rw [ho]
      simp [resolve, hb, invoke, builtin, Builtin.max_, hv, hu]
    · exact no_ok
  · rename_i x hx
    split
    · rename_i f ds hf
      split
      · rename_i s hs
        split
        · rename_i hlen
          split
          · rename_i l σ' hl
            split
            · rename_i r hr
              cases hfree : ioFree (lent (E.lend f) σ σ') (argIds σ c.args.toList) with
              | true => exact call_ok hC hI hd ho hx hf hs hl hlen hr hfree
              | false => exact no_ok
            · exact no_ok
          · exact no_ok
        · exact no_ok
      · exact no_ok
    · rename_i f ps hf
      split
      · rename_i s hs
        split
        · rename_i hlen
          split
          · rename_i l σ' cs hl hcs
            split
            · rename_i r hr
              cases hfree : ioFree (lent (E.lend f) σ σ') (argIds σ c.args.toList ++ ps.map (·.1)) with
              | true => exact clo_ok hC hI hd ho hx hf hs hl hcs hlen hr hfree
              | false => exact no_ok
            · exact no_ok
          · exact no_ok
        · exact no_ok
      · exact no_ok
    · exact no_ok
  · exact no_ok

theorem evOp_ok (hE : EnvOk P E) (hC : CallsOk P E) (hI : Inv B ok0 w0 g σ a w) (hd : ∀ d, o.dst = some d → d < a.tmps.size) : StepOk P B ok0 w0 (evOp E σ o) o a w := by
  cases ho : o.op with
  | nilCheck x => exact nilCheck_ok hI hd ho
  | move x => unfold evOp; rw [ho]; exact move'_ok hI hd (.inl ho)
  | assign x => unfold evOp; rw [ho]; exact move'_ok hI hd (.inr ho)
  | alloc T => unfold evOp; rw [ho]; exact alloc_ok hE hI hd ho
  | box T x => unfold evOp; rw [ho]; exact box_ok hE hI hd ho
  | build T ps =>
    unfold evOp; rw [ho]
    dsimp only
    split
    · rename_i t hT
      split
      · rename_i hagg
        split
        · rename_i z gs h; exact build_ok hE hI hd ho hT hagg h
        · exact no_ok
      · exact no_ok
    · exact no_ok
  | buildSlice T n ps => unfold evOp; rw [ho]; exact buildSlice_ok hE hI hd ho
  | load T x => unfold evOp; rw [ho]; exact load_ok hE hI hd ho
  | store T x y => unfold evOp; rw [ho]; exact store_ok hE hI hd ho
  | binOp op T x y U => unfold evOp; rw [ho]; exact binOp_ok hE hI hd ho
  | unOp op T x => unfold evOp; rw [ho]; exact unOp_ok hI hd ho
  | convert src dst x =>
    unfold evOp; rw [ho]
    by_cases h : E.ty src = some .str ∧ E.ty dst = some (.sl (.int .u8))
    · exact bytes_ok hE hI hd ho h.1 h.2
    · exact convert_ok hE hI hd ho h
  | makeFunc fn p q =>
    unfold evOp; rw [ho]
    cases fn with
    | func f =>
      dsimp only
      split
      · rename_i h
        cases hbx : bxAt E o.dst with
        | true =>
          dsimp only [cond]
          split
          · rename_i ps hq; exact makeClo_ok hI hd ho h hq
          · exact no_ok
        | false =>
          dsimp only [cond]
          split
          · rename_i ds σ' hq; exact makeFunc_ok hI hd ho h hq
          · exact no_ok
      · exact no_ok
    | _ => exact no_ok
  | makeSlice T x y => unfold evOp; rw [ho]; exact makeSlice_ok hE hI hd ho
  | slice T x lo hi mx =>
    unfold evOp; rw [ho]
    cases mx with
    | none => exact slice_ok hE hI hd ho
    | some m => exact no_ok
  | fieldAddr S x f => unfold evOp; rw [ho]; exact fieldAddr_ok hE hI hd ho
  | field S x f => unfold evOp; rw [ho]; exact field_ok hE hI hd ho
  | indexAddr T x i => unfold evOp; rw [ho]; exact indexAddr_ok hE hI hd ho
  | index T x i => unfold evOp; rw [ho]; exact index_ok hE hI hd ho
  | extract x i => unfold evOp; rw [ho]; exact extract_ok hI hd ho
  | call c => unfold evOp; rw [ho]; exact call'_ok hE hC hI hd ho
  | _ => unfold evOp; rw [ho]; exact no_ok

/-- A step that comes to a state. -/
def Step.to (s : Step) (σ' : St) : Prop :=
  match s with
  | .no => False
  | .go c σ1 => c = true ∧ σ' = σ1
  | .call _ m f => ∃ x, m = some x ∧ σ' = f x

theorem Step.run_some {R : Type} {s : Step} {k : St → Option R} {r : R} (h : s.run k = some r) : ∃ σ', s.to σ' ∧ k σ' = some r := by
  cases s with
  | no => cases h
  | go c σ1 =>
    cases c with
    | true => exact ⟨σ1, ⟨rfl, rfl⟩, h⟩
    | false => cases h
  | call α m f =>
    obtain ⟨x, hx, hk⟩ := Option.bind_eq_some_iff.1 h
    exact ⟨f x, ⟨x, hx, rfl⟩, hk⟩

/-- What one operation comes to, 'pick' among them. -/
def OneTo (E : Env) (σ : St) (o : Oper) (σ' : St) : Prop :=
  match o.op with
  | .pick c x y => ∃ t gs, opd σ c = .dat .bool t gs ∧ σ' = σ.setT o.dst (if t = true then opd σ x else opd σ y)
  | _ => (evOp E σ o).to σ'

theorem evOne_some {R : Type} {k : St → Option R} {r : R} (h : evOne E σ o k = some r) : ∃ σ', OneTo E σ o σ' ∧ k σ' = some r := by
  unfold evOne at h
  unfold OneTo
  split at h
  · rename_i c x y ho
    rw [ho]
    dsimp only
    split at h
    · rename_i t gs hc
      cases t with
      | true => exact ⟨_, ⟨true, gs, hc, rfl⟩, h⟩
      | false => exact ⟨_, ⟨false, gs, hc, rfl⟩, h⟩
    · cases h
  · rename_i hno
    obtain ⟨σ', h1, h2⟩ := Step.run_some h
    refine ⟨σ', ?_, h2⟩
    split
    · rename_i c x y ho; exact absurd ho (hno c x y)
    · exact h1

theorem one_wp (hE : EnvOk P E) (hC : CallsOk P E) (hI : Inv B ok0 w0 g σ a w) (hd : ∀ d, o.dst = some d → d < a.tmps.size) {σ' : St} (h : OneTo E σ o σ') {next : Act → World → Prop} {Q : Exit → Act → World → Prop}
    (hn : ∀ g' a' w', Inv B ok0 w0 g' σ' a' w' → a'.tmps.size = a.tmps.size → next a' w') : o.wp P a w next Q := by
  unfold OneTo at h
  split at h
  · rename_i c x y ho
    obtain ⟨t, gs, hc, rfl⟩ := h
    have hcb := eval_bool hI hc
    have hrun : (execOp a.eval o).run P w = .ok (.value (if t = true then a.eval x else a.eval y)) w := by
      unfold execOp; rw [ho]
      simp [hcb, asBool]
    unfold Oper.wp
    rw [hrun]
    refine hn g _ _ (hI.put ?_ hd) (put_size _ _ _)
    cases t with
    | true => exact opd_ok hI x
    | false => exact opd_ok hI y
  · have hs := evOp_ok hE hC hI hd next Q
    revert h hs
    cases evOp E σ o with
    | no => intro h _; exact h.elim
    | go c σ1 => intro h hs; obtain ⟨rfl, rfl⟩ := h; exact hs rfl hn
    | call α m f => intro h hs; obtain ⟨x, hx, rfl⟩ := h; exact hs x hx hn

end
end Go.AM
