/- Calls of functions whose contracts are known; appends and strings' bytes, put together. -/
import Derived.Test.YtggioofgjkedpaaAmApp
namespace Go.AM
open Go.RowKit (Below)

def RepArg (ok : Nat → Nat → Prop) (w : World) : AV → Value → Prop
  | .dat t x _, v => ∃ cs, RepD ok w t x cs ∧ v = valOf t cs
  | .ept t x off, v => RepE ok w t x off v
  | .fn f caps, v => ∃ vs : List Value, v = .func (.func f) #[] vs.toArray ∧ All2 (fun (d : Dat) u => RepE ok w d.t d.x 0 u) caps vs
  | _, _ => False

def cnt : List Tag → Nat
  | [] => 0
  | t :: r => if t.id = 0 then cnt r else cnt r + 1

/-- The marks of a result: of those that aren't nil the j-th row is told by ρ. -/
def RetTags (ρ : Nat → Option (Nat × Nat)) (w : World) (cs : List Value) : Nat → List Tag → Prop
  | _, [] => True
  | j, t :: r => if t.id = 0 then cs[t.off]? = some (.slice none 0 0) ∧ RetTags ρ w cs j r else OwnSl ⟨fun _ => none, ρ⟩ w t.sz j cs[t.off]? ∧ RetTags ρ w cs (j + 1) r

def okR (ok0 : Nat → Nat → Prop) (w w' : World) (ρ : Nat → Option (Nat × Nat)) (b o : Nat) : Prop :=
  ok0 b o ∨ (w.heap.size ≤ b ∧ b < w'.heap.size ∧ ∀ j u, ρ j = some (b, u) → o < u)

def RetDs (ok : Nat → Nat → Prop) (ρ : Nat → Option (Nat × Nat)) (w : World) : Nat → List Dat → List Value → Prop
  | _, [], [] => True
  | j, d :: ds, v :: vs => (∃ cs, RepD ok w d.t d.x cs ∧ v = valOf d.t cs ∧ RetTags ρ w cs j d.g) ∧ RetDs ok ρ w (j + cnt d.g) ds vs
  | _, _, _ => False

def RepRet (ok0 : Nat → Nat → Prop) (w w' : World) (av : AV) (v : Value) : Prop :=
  ∃ ρ : Nat → Option (Nat × Nat), (∀ j b u, ρ j = some (b, u) → w.heap.size ≤ b ∧ b < w'.heap.size) ∧ (∀ j k b u u', ρ j = some (b, u) → ρ k = some (b, u') → j = k) ∧
    match av with
    | .dat t x g => ∃ cs, RepD (okR ok0 w w' ρ) w' t x cs ∧ v = valOf t cs ∧ RetTags ρ w' cs 0 g
    | .tup ds => ∃ vs : List Value, v = .tuple vs.toArray ∧ RetDs (okR ok0 w w' ρ) ρ w' 0 ds vs
    | _ => False

/-- What a function whose contract is 's' owes. -/
def Contract (P : Program) (f : FuncId) (s : Spec) : Prop :=
  ∀ l r x, s l = some r → r.m = some x → ∀ (ok0 : Nat → Nat → Prop) (w : World) (vs : List Value), (∀ b o, ok0 b o → b < w.heap.size) → All2 (RepArg ok0 w) l vs →
    Calls P f vs.toArray w fun e w' => ∃ v, e = .returned v ∧ Below w.heap.size w w' ∧ RepRet ok0 w w' (r.enc x) v

def Enters (P : Program) (f : FuncId) : Prop := ∀ args w, (callFunc f args).run P w = .ok (.enter f args) w

def CallsOk (P : Program) (E : Env) : Prop := ∀ f s, E.call f = some s → Contract P f s ∧ Enters P f

section
variable {P : Program} {B : Nat} {ok0 : Nat → Nat → Prop} {w0 w w' : World} {g g' : G} {σ σ1 : St} {a : Act} {o : Oper} {E : Env}

theorem lenOf_slice (p : Option Addr) (n c : Nat) (w : World) : (Builtin.lenOf (.slice p n c)).run P w = .ok n w := rfl

theorem append_ok (hE : EnvOk P E) (hI : Inv B ok0 w0 g σ a w) (hd : ∀ d, o.dst = some d → d < a.tmps.size) {T U : Nat} {c : Call} (ho : o.op = .call c) (hc : c.callee = .builtin .append) {s x : Operand}
    (ha : c.args.toList = [s, x]) (hat : c.argTypes.toList = [T, U]) : StepOk P B ok0 w0 (append' E T U o σ (opd σ s) (opd σ x)) o a w := by
  unfold append'
  split
  · rename_i d e hdst hT
    obtain ⟨ET, ie, hu, hie, _⟩ := (hE.ty T _ hT).und
    split
    · rename_i l hl
      split
      · rename_i id hid
        split
        · rename_i hU
          have huU : P.underlying U = some .string := (hE.ty U _ hU).und
          split
          · rename_i l2 hl2
            split
            · rename_i y gs hx
              have hev := eval_str hI hx
              have hsz : (toBytes y).length = y.size := by unfold toBytes; rw [List.length_map, Array.length_toList]; rfl
              have hcore := append_core (news := (toBytes y).map (Value.int .u8)) (l' := toBytes y) (m := y.size) hE hI hd ho hc ha hat hT hu hie (.inr huU) hl hid
                ⟨by simp [Ty.sz], fun i x hi => ⟨[.int .u8 x], rfl, fun j u hj => by
                  have hj0 : j = 0 := by have := (List.getElem?_eq_some_iff.1 hj).1; simp at this; exact this
                  subst hj0
                  simp at hj
                  subst hj
                  simp only [Ty.sz, Nat.mul_one, Nat.add_zero, List.getElem?_map, hi]
                  rfl⟩⟩ hsz (fun w => by rw [hev]; rfl) (fun w' _ => by
                    rw [hev]
                    simp only [Builtin.firstCells, Sem.run_pure, toBytes, List.map_map]
                    rw [show y.extract 0 y.size = y from ByteArray.extract_zero_size]
                    congr 1
                    apply Array.ext'
                    rw [Array.toList_map]
                    rfl) (fun u hu => by
                    obtain ⟨n, _, rfl⟩ := List.mem_map.1 hu
                    rfl)
              exact hcore
            · exact no_ok
          · exact no_ok
        · rename_i e2 hU
          split
          · rename_i y hy
            obtain ⟨EU, _, huU, _⟩ := (hE.ty U _ hU).und
            obtain ⟨p, n, cap, cs, hv, hln, _, _, hrow, h1, hcell⟩ := content_rows hI hy (opd_ok hI x)
            refine append_core (news := cs) (l' := y) (m := y.length) hE hI hd ho hc ha hat hT hu hie (.inl ⟨EU, huU⟩) hl hid hrow rfl (fun w => by rw [hv, hln]; rfl) (fun w' hw' => ?_) h1
            rw [hv, hln]
            rcases hcell with h0 | ⟨A, hA, hs, hc'⟩
            · subst h0
              have : cs = [] := List.eq_nil_of_length_eq_zero (by rw [hrow.1, hln, Nat.zero_mul])
              subst this
              cases p with
              | none => simp [Builtin.firstCells]
              | some A => exact run_firstCells_some (P := P) w' e.sz 0 A 0 cap [] (by simp) (fun j u hj => by simp at hj)
            · subst hA
              refine run_firstCells_some (P := P) w' e.sz n A n cap cs (by rw [hrow.1, hln]) fun j u hj => ?_
              rw [add_at A hs]
              have := hc' j u hj
              simp only [World.cell?, hw'] at this ⊢
              exact this
          · exact no_ok
        · exact no_ok
      · exact no_ok
    · exact no_ok
  · exact no_ok


theorem bytes_ok (hE : EnvOk P E) (hI : Inv B ok0 w0 g σ a w) (hd : ∀ d, o.dst = some d → d < a.tmps.size) {src dst : Nat} {x : Operand} (ho : o.op = .convert src dst x) (hs : E.ty src = some .str) (hds : E.ty dst = some (.sl (.int .u8))) :
    StepOk P B ok0 w0 (convert' E src dst o σ (opd σ x)) o a w := by
  have u1 : P.underlying src = some .string := (hE.ty _ _ hs).und
  obtain ⟨ET, ie, u2, _, _, _, hk, _⟩ := (hE.ty _ _ hds).und
  unfold convert'
  rw [hs, hds]
  dsimp only
  split
  · rename_i s gs hx
    refine go_ok hd fun hc => ?_
    have hroom : s.size * 1 ≤ 140737488355328 := of_decide_eq_true hc
    have hr := Lib.run_convert_string_bytes (P := P) w src dst ET s u1 u2 (hk .u8 rfl)
    have hrun : (execOp a.eval o).run P w = .ok (.value (.slice (some ⟨w.heap.size, 0, none⟩) s.size (grownCap w s.size 0 ET))) (Lib.bytesWorld w ET s) := by
      unfold execOp; rw [ho]
      simp only [eval_str hI hx, Sem.run_bind, hr, Result.andThen_ok, Sem.run_pure]
    have hb : Below w.heap.size w (Lib.bytesWorld w ET s) := ⟨rfl, rfl, rfl, by rw [Lib.bytesWorld_size]; omega, fun k hk => Lib.bytesWorld_at_old w ET s k hk⟩
    have hBw : B ≤ w.heap.size := by have := hI.below.size; have := hI.hB; omega
    have hlen : (toBytes s).length = s.size := by unfold toBytes; rw [List.length_map, Array.length_toList]; rfl
    refine ⟨g, _, _, hrun, hI.grown hb, [_], ⟨_, _, _, rfl, hlen, grownCap_ge w s.size 0 ET, grownCap_le_maxLen w s.size 0 ET (by unfold maxLen; omega), fun i n hi => ?_⟩, rfl, fun t ht => by cases ht⟩
    have hin : i < s.size := by rw [← hlen]; exact (List.getElem?_eq_some_iff.1 hi).1
    refine ⟨_, rfl, rfl, [.int .u8 n], rfl, fun j u hj => ?_⟩
    have hj0 : j = 0 := by have := (List.getElem?_eq_some_iff.1 hj).1; simp at this; exact this
    subst hj0
    simp at hj
    subst hj
    simp only [Ty.sz, Nat.mul_one, Nat.add_zero, Nat.zero_add]
    refine ⟨.inr ⟨hBw, by rw [Lib.bytesWorld_size]; omega, fun id he => by have := (hI.bb id _ _ he).2; omega, fun id u he => by have := (hI.rb id _ _ he).2.1; omega⟩, ?_⟩
    rw [Lib.bytesWorld_cell w ET s i hin]
    unfold toBytes at hi
    rw [List.getElem?_map] at hi
    cases hq : s.data.toList[i]? with
    | none => rw [hq] at hi; cases hi
    | some b =>
      rw [hq] at hi
      simp only [Option.map_some, Option.some.injEq] at hi
      subst hi
      rw [List.getD_eq_getElem?_getD, hq]
      rfl
  · exact no_ok


/-! Arguments. -/
theorem RepArg.mono {ok ok' : Nat → Nat → Prop} (hm : ∀ b o, ok b o → ok' b o) {av : AV} {v : Value} (h : RepArg ok w av v) : RepArg ok' w av v := by
  cases av with
  | dat t x g => obtain ⟨cs, h1, h2⟩ := h; exact ⟨cs, h1.mono (fun b o hk => ⟨hm b o hk, rfl⟩), h2⟩
  | ept t x off => exact RepE.mono hm h
  | fn f caps => obtain ⟨vs, h1, h2⟩ := h; exact ⟨vs, h1, h2.imp fun _ _ hp => hp.mono hm⟩
  | _ => exact h

theorem arg_ok (hI : Inv B ok0 w0 g σ a w) {T : Nat} {av av' : AV} {v : Value} (h : arg' E T σ av = some (av', σ1)) (hr : RepA (okG B ok0 g w) g σ w av v) :
    ∃ g', Inv B ok0 w0 g' σ1 a w ∧ RepArg (okG B ok0 g' w) w av' v ∧ ∀ b o, okG B ok0 g w b o → okG B ok0 g' w b o := by
  unfold arg' at h
  split at h
  · cases h
    obtain ⟨cs, h1, h2, _⟩ := hr
    exact ⟨g, hI, ⟨cs, h1, h2⟩, fun _ _ hk => hk⟩
  · split at h
    · cases h
      have hv : v = .slice none 0 0 := hr
      subst hv
      exact ⟨g, hI, ⟨[.slice none 0 0], ⟨none, 0, 0, rfl, rfl, Nat.le_refl _, Nat.zero_le _, fun i x hi => by simp at hi⟩, rfl⟩, fun _ _ hk => hk⟩
    · cases h
  · rename_i id ver
    split at h
    · rename_i hv
      split at h
      · rename_i e l fz hc
        cases h
        obtain ⟨b0, f0, e2, l2, fz2, hb0, hc2, hp⟩ := hr.2 hv
        rw [hc] at hc2; cases hc2
        obtain ⟨g', b, hb, hI', hx, hok⟩ := hI.freeze hc
        obtain ⟨f', hb'⟩ := ((hx.box id ver (by omega)).2 hv).2.1 b0 f0 hb0
        rw [hb] at hb'; cases hb'
        obtain ⟨b', f'', hb'', _, cur, TT, hh, hsz, hmx, hrow⟩ := hI'.con id (.arr e l true) (by simp [St.setBox, fset_eq])
        rw [hb] at hb''; cases hb''
        refine ⟨g', hI', ⟨[v], ?_, rfl⟩, fun b o hk => (hx.cell b o hk).1⟩
        rw [hp]
        refine ⟨_, _, _, rfl, rfl, Nat.le_refl _, hmx, fun i x hi => ?_⟩
        obtain ⟨ys, hy, hyc⟩ := hrow i x hi
        refine ⟨_, rfl, rfl, ys, hy, fun j u hj => ⟨hok _, ?_⟩⟩
        simp only [World.cell?, hh, Nat.zero_add]
        exact hyc j u hj
      · cases h
    · cases h
  · rename_i id ver lo n
    split at h
    · rename_i hv
      split at h
      · rename_i e l fz hc
        cases h
        obtain ⟨b0, f0, e2, l2, fz2, A, cap, hb0, hc2, hlo, hcap, hmx2, hA, hAs, hp⟩ := hr.2 hv
        rw [hc] at hc2; cases hc2
        obtain ⟨g', b, hb, hI', hx, hok⟩ := hI.freeze hc
        obtain ⟨f', hb'⟩ := ((hx.box id ver (by omega)).2 hv).2.1 b0 f0 hb0
        rw [hb] at hb'; cases hb'
        obtain ⟨b', f'', hb'', _, cur, TT, hh, hsz, hmx, hrow⟩ := hI'.con id (.arr e l true) (by simp [St.setBox, fset_eq])
        rw [hb] at hb''; cases hb''
        refine ⟨g', hI', ⟨[v], ?_, rfl⟩, fun b o hk => (hx.cell b o hk).1⟩
        rw [hp]
        refine ⟨_, _, _, rfl, by rw [List.length_take, List.length_drop]; omega, hcap, hmx2, fun i x hi => ?_⟩
        obtain ⟨hin, hi'⟩ := getElem?_take_drop hi
        obtain ⟨ys, hy, hyc⟩ := hrow _ x hi'
        refine ⟨_, hA (by omega), rfl, ys, hy, fun j u hj => ⟨hok _, ?_⟩⟩
        simp only [World.cell?, hh]
        rw [show lo * e.sz + (i * e.sz + j) = (lo + i) * e.sz + j by rw [Nat.add_mul]; omega]
        exact hyc j u hj
      · cases h
    · cases h
  · cases h
    exact ⟨g, hI, hr, fun _ _ hk => hk⟩
  · cases h
    exact ⟨g, hI, hr, fun _ _ hk => hk⟩
  · cases h

theorem caps_ok : ∀ {xs : List Operand} {σ σ1 : St} {g : G} {ds : List Dat}, Inv B ok0 w0 g σ a w → caps' xs σ = some (ds, σ1) →
    ∃ g', Inv B ok0 w0 g' σ1 a w ∧ All2 (fun (d : Dat) u => RepE (okG B ok0 g' w) w d.t d.x 0 u) ds (xs.map a.eval) ∧ ∀ b o, okG B ok0 g w b o → okG B ok0 g' w b o
  | [], σ, σ1, g, ds, hI, h => by cases h; exact ⟨g, hI, trivial, fun _ _ hk => hk⟩
  | x :: xs, σ, σ1, g, ds, hI, h => by
    unfold caps' at h
    split at h
    · rename_i d σ2 h1
      split at h
      · rename_i ds2 σ3 h2
        cases h
        have hone : ∃ g', Inv B ok0 w0 g' σ2 a w ∧ RepE (okG B ok0 g' w) w d.t d.x 0 (a.eval x) ∧ ∀ b o, okG B ok0 g w b o → okG B ok0 g' w b o := by
          have rx := opd_ok hI x
          unfold cap' at h1
          split at h1
          · rename_i id ver hx
            rw [hx] at rx
            have frozen : ∀ (g' : G) (σ' : St) (t : Ty) (y : t.D), Inv B ok0 w0 g' σ' a w → σ'.c id = some (.arr t [y] true) → ∀ b, g'.bx id = some (b, true) → a.eval x = .pointer (some ⟨b, 0, none⟩) →
                (∀ o, okG B ok0 g' w b o) → RepE (okG B ok0 g' w) w t y 0 (a.eval x) := by
              intro g' σ' t y hI' hc' b hb hp hok
              obtain ⟨b', f', hb', hf', cur, TT, hh, hsz, hmx, hrow⟩ := hI'.con id _ hc'
              rw [hb] at hb'; cases hb'
              obtain ⟨ys, hr, hcur⟩ := hrow 0 y rfl
              exact ⟨b, 0, ys, hp, hr, fun j u hj => ⟨hok _, by simp only [World.cell?, hh]; simpa using hcur j u hj⟩⟩
            split at h1
            · rename_i hv
              obtain ⟨b, f, hb, hp⟩ := rx.2 hv
              split at h1
              · rename_i t y gs hc
                cases h1
                obtain ⟨g', b2, hb2, hI', hx', hok⟩ := hI.capture hc
                obtain ⟨f', hb'⟩ := ((hx'.box id ver (by omega)).2 hv).2.1 b f hb
                rw [hb2] at hb'; cases hb'
                exact ⟨g', hI', frozen g' _ t y hI' (by simp [St.setBox, fset_eq]) b hb2 hp hok, fun b o hk => (hx'.cell b o hk).1⟩
              · rename_i t y hc
                cases h1
                obtain ⟨b', f', hb', hf', rest⟩ := hI.con id _ hc
                rw [hb] at hb'; cases hb'
                have hf : f = true := hf'
                subst hf
                have hbb := hI.bb id b true hb
                refine ⟨g, hI, frozen g _ t y hI hc b hb hp fun o => .inr ⟨hbb.1, hbb.2, fun id' he => ?_, fun id' u he => ?_⟩, fun _ _ hk => hk⟩
                · have := hI.bi _ _ _ _ _ he hb
                  subst this
                  rw [hb] at he
                  cases he
                · exact absurd hb ((hI.rb id' b u he).2.2 id true)
              · cases h1
            · cases h1
          · rename_i t y hx
            rw [hx] at rx
            cases h1
            exact ⟨g, hI, rx, fun _ _ hk => hk⟩
          · cases h1
        obtain ⟨g2, hI2, hr2, hm2⟩ := hone
        obtain ⟨g3, hI3, hr3, hm3⟩ := caps_ok hI2 h2
        exact ⟨g3, hI3, ⟨hr2.mono hm3, hr3⟩, fun b o hk => hm3 b o (hm2 b o hk)⟩
      · cases h
    · cases h

theorem makeFunc_ok (hI : Inv B ok0 w0 g σ a w) (hd : ∀ d, o.dst = some d → d < a.tmps.size) {f : Nat} {p q : Array Operand} (ho : o.op = .makeFunc (.func f) p q) (hp : p.size = 0) {ds : List Dat} (hq : caps' q.toList σ = some (ds, σ1)) :
    StepOk P B ok0 w0 (.go true (σ1.setT o.dst (.fn f ds))) o a w := by
  intro next Q _ hn
  have hp' : p = #[] := Array.eq_empty_of_size_eq_zero hp
  obtain ⟨g', hI', hr, _⟩ := caps_ok hI hq
  unfold Oper.wp
  have hrun : (execOp a.eval o).run P w = .ok (.value (.func (.func f) #[] (q.map a.eval))) w := by
    unfold execOp; rw [ho, hp']
    simp [Instr.makeFunc]
  rw [hrun]
  refine hn g' _ _ (hI'.put ⟨(q.map a.eval).toList, by rw [Array.toArray_toList], by rw [Array.toList_map]; exact hr⟩ hd) (put_size _ _ _)

theorem args_ok : ∀ {ps : List (Operand × Nat)} {σ σ1 : St} {g : G} {l : List AV}, Inv B ok0 w0 g σ a w → args' E ps σ = some (l, σ1) →
    ∃ g', Inv B ok0 w0 g' σ1 a w ∧ All2 (RepArg (okG B ok0 g' w) w) l (ps.map fun p => a.eval p.1) ∧ ∀ b o, okG B ok0 g w b o → okG B ok0 g' w b o
  | [], σ, σ1, g, l, hI, h => by
    simp only [args', Option.some.injEq, Prod.mk.injEq] at h
    obtain ⟨rfl, rfl⟩ := h
    exact ⟨g, hI, trivial, fun _ _ hk => hk⟩
  | (x, T) :: ps, σ, σ1, g, l, hI, h => by
    unfold args' at h
    split at h
    · rename_i av σ2 h1
      split at h
      · rename_i l2 σ3 h2
        cases h
        obtain ⟨g2, hI2, hr2, hm2⟩ := arg_ok hI h1 (opd_ok hI x)
        obtain ⟨g3, hI3, hr3, hm3⟩ := args_ok hI2 h2
        exact ⟨g3, hI3, ⟨hr2.mono hm3, hr3⟩, fun b o hk => hm3 b o (hm2 b o hk)⟩
      · cases h
    · cases h

/-! Results. -/
def bumpN (d j n : Nat) (σ : St) : St := { σ with r := fun i => if rid d j ≤ i ∧ i < rid d (j + n) then σ.r i + 1 else σ.r i }

def mapTags (d : Nat) (σ : St) : Nat → List Tag → List Tag
  | _, [] => []
  | j, t :: r => if t.id = 0 then t :: mapTags d σ j r else ⟨t.off, rid d j, σ.r (rid d j) + 1, t.sz⟩ :: mapTags d σ (j + 1) r

def mapDs (d : Nat) (σ : St) : Nat → List Dat → List Dat
  | _, [] => []
  | j, x :: r => ⟨x.t, x.x, mapTags d σ j x.g⟩ :: mapDs d σ (j + cnt x.g) r

def cntD : List Dat → Nat
  | [] => 0
  | x :: r => cnt x.g + cntD r

theorem rid_add (d j n : Nat) : rid d (j + n) = rid d j + n := by unfold rid; omega

theorem bumpN_zero (d j : Nat) (σ : St) : bumpN d j 0 σ = σ := by
  unfold bumpN
  cases σ
  congr 1
  funext i
  rw [if_neg (by rw [rid_add]; omega)]

theorem bumpN_succ (d j n : Nat) (σ : St) : bumpN d (j + 1) n (σ.bump (rid d j)) = bumpN d j (n + 1) σ := by
  unfold bumpN St.bump
  congr 1
  funext i
  simp only [fset_eq, rid_add]
  by_cases h1 : i = rid d j
  · subst h1
    rw [if_neg (by omega), if_pos rfl, if_pos (by omega)]
  · rw [if_neg h1]
    by_cases h2 : rid d j + 1 ≤ i ∧ i < rid d j + 1 + n
    · rw [if_pos h2, if_pos (by omega)]
    · rw [if_neg h2, if_neg (by omega)]

theorem mapTags_after (d : Nat) (σ : St) {j0 : Nat} : ∀ (g : List Tag) (j : Nat), j0 < j → mapTags d (σ.bump (rid d j0)) j g = mapTags d σ j g
  | [], _, _ => rfl
  | t :: r, j, h => by
    unfold mapTags
    split
    · rw [mapTags_after d σ r j h]
    · rw [mapTags_after d σ r (j + 1) (by omega)]
      congr 2
      simp only [St.bump, fset_eq]
      rw [if_neg (by unfold rid; omega)]

theorem impG_eq (d : Nat) : ∀ (g : List Tag) (j : Nat) (σ : St), impG d g j σ = (mapTags d σ j g, j + cnt g, bumpN d j (cnt g) σ)
  | [], j, σ => by simp [impG, mapTags, cnt, bumpN_zero]
  | t :: r, j, σ => by
    unfold impG mapTags cnt
    split
    · rw [impG_eq d r j σ]
    · rw [impG_eq d r (j + 1) (σ.bump (rid d j)), mapTags_after d σ r (j + 1) (by omega), bumpN_succ]
      simp only [Prod.mk.injEq, true_and, and_true]
      omega

theorem bumpN_bumpN (d j m n : Nat) (σ : St) : bumpN d (j + m) n (bumpN d j m σ) = bumpN d j (m + n) σ := by
  unfold bumpN
  congr 1
  funext i
  simp only [rid_add]
  by_cases h1 : rid d j ≤ i ∧ i < rid d j + m
  · rw [if_neg (by omega), if_pos h1, if_pos (by omega)]
  · rw [if_neg h1]
    by_cases h2 : rid d j + m ≤ i ∧ i < rid d j + (m + n)
    · rw [if_pos (by omega), if_pos (by omega)]
    · rw [if_neg (by omega), if_neg (by omega)]

theorem mapTags_bumpN (d : Nat) (σ : St) {j0 n : Nat} : ∀ (g : List Tag) (j : Nat), j0 + n ≤ j → mapTags d (bumpN d j0 n σ) j g = mapTags d σ j g
  | [], _, _ => rfl
  | t :: r, j, h => by
    unfold mapTags
    split
    · rw [mapTags_bumpN d σ r j h]
    · rw [mapTags_bumpN d σ r (j + 1) (by omega)]
      congr 2
      simp only [bumpN]
      rw [if_neg (by simp only [rid_add]; unfold rid; omega)]

theorem mapDs_bumpN (d : Nat) (σ : St) {j0 n : Nat} : ∀ (ds : List Dat) (j : Nat), j0 + n ≤ j → mapDs d (bumpN d j0 n σ) j ds = mapDs d σ j ds
  | [], _, _ => rfl
  | x :: r, j, h => by
    unfold mapDs
    rw [mapTags_bumpN d σ x.g j h, mapDs_bumpN d σ r (j + cnt x.g) (by omega)]

theorem impD_eq (d : Nat) : ∀ (ds : List Dat) (j : Nat) (σ : St), impD d ds j σ = (mapDs d σ j ds, j + cntD ds, bumpN d j (cntD ds) σ)
  | [], j, σ => by simp [impD, mapDs, cntD, bumpN_zero]
  | x :: r, j, σ => by
    unfold impD mapDs cntD
    simp only [impG_eq]
    rw [impD_eq d r]
    simp only [bumpN_bumpN, mapDs_bumpN d σ r (j + cnt x.g) (Nat.le_refl _), Nat.add_assoc]

/-- Results come into the caller's state. -/
theorem import_rows (hI : Inv B ok0 w0 g σ a w) (hb : Below w.heap.size w w') {ρ : Nat → Option (Nat × Nat)} (h1 : ∀ j b u, ρ j = some (b, u) → w.heap.size ≤ b ∧ b < w'.heap.size)
    (h2 : ∀ j k b u u', ρ j = some (b, u) → ρ k = some (b, u') → j = k) (d N : Nat) :
    ∃ g', Inv B ok0 w0 g' (bumpN d 0 N σ) a w' ∧ (∀ b o, okR (okG B ok0 g w) w w' ρ b o → okG B ok0 g' w' b o) ∧ (∀ j, j < N → g'.rw (rid d j) = ρ j) := by
  have hρ : ∀ (i b u : Nat), (if rid d 0 ≤ i ∧ i < rid d (0 + N) then some (ρ (i - rid d 0)) else none : Option (Option (Nat × Nat))) = some (some (b, u)) → ρ (i - rid d 0) = some (b, u) ∧ rid d 0 ≤ i := by
    intro i b u hi
    split at hi
    · rename_i hin; exact ⟨Option.some.inj hi, hin.1⟩
    · cases hi
  obtain ⟨hI', hx⟩ := hI.newRows hb (ρ := fun i => if rid d 0 ≤ i ∧ i < rid d (0 + N) then some (ρ (i - rid d 0)) else none) (σ' := bumpN d 0 N σ)
    (g' := { g with rw := fun i => if rid d 0 ≤ i ∧ i < rid d (0 + N) then ρ (i - rid d 0) else g.rw i })
    (by congr 1; funext i; by_cases hi : rid d 0 ≤ i ∧ i < rid d (0 + N) <;> first | simp only [if_pos hi] | simp only [if_neg hi])
    (by unfold bumpN; congr 1; funext i; by_cases hi : rid d 0 ≤ i ∧ i < rid d (0 + N) <;> first | simp only [if_pos hi] | simp only [if_neg hi])
    (fun i b u hi => h1 _ _ _ (hρ i b u hi).1)
    (fun i j b u u' hi hj => by have := h2 _ _ _ _ _ (hρ i b u hi).1 (hρ j b u' hj).1; have := (hρ i b u hi).2; have := (hρ j b u' hj).2; omega)
  have hBw : B ≤ w.heap.size := by have := hI.below.size; have := hI.hB; omega
  refine ⟨_, hI', fun b o hk => ?_, fun j hj => ?_⟩
  · rcases hk with hk | ⟨q1, q2, q3⟩
    · exact (hx.cell b o hk).1
    · refine .inr ⟨by omega, q2, fun id he => by have := (hI.bb id b false he).2; omega, fun id u he => ?_⟩
      simp only at he
      split at he
      · exact q3 _ u he
      · have := (hI.rb id b u he).2.1; omega
  · simp only
    rw [if_pos (by simp only [rid_add]; unfold rid; omega)]
    congr 1
    unfold rid; omega

theorem retTags_ok {ρ : Nat → Option (Nat × Nat)} {cs : List Value} {d N : Nat} (hrw : ∀ j, j < N → g'.rw (rid d j) = ρ j) : ∀ (g : List Tag) (j : Nat), j + cnt g ≤ N → RetTags ρ w' cs j g →
    TagsOk g' (bumpN d 0 N σ).r w' (mapTags d σ j g) cs
  | [], j, _, _ => fun t ht => by cases ht
  | t :: r, j, hN, h => by
    intro τ hτ
    unfold RetTags at h
    unfold mapTags at hτ
    unfold cnt at hN
    split at h
    · rename_i h0
      rw [if_pos h0] at hτ hN
      rcases List.mem_cons.1 hτ with rfl | hτ
      · exact ⟨fun _ => h.1, fun hn => absurd h0 hn⟩
      · exact retTags_ok hrw r j hN h.2 τ hτ
    · rename_i h0
      rw [if_neg h0] at hτ hN
      rcases List.mem_cons.1 hτ with rfl | hτ
      · have hin : rid d 0 ≤ rid d j ∧ rid d j < rid d (0 + N) := by simp only [rid_add]; unfold rid; omega
        refine ⟨fun hz => absurd hz (rid_ne d j), fun _ => ⟨by simp only [bumpN, if_pos hin]; omega, fun _ => ?_⟩⟩
        rcases h.1 with hv | ⟨b, n, cap, cur, T, hv, hr, rest⟩
        · exact .inl hv
        · exact .inr ⟨b, n, cap, cur, T, hv, by rw [hrw j (by omega)]; exact hr, rest⟩
      · exact retTags_ok hrw r (j + 1) (by omega) h.2 τ hτ

theorem joinA_eq : ∀ l m : List AV, joinA l m = l ++ m
  | [], _ => rfl
  | a :: l, m => by unfold joinA; rw [joinA_eq l m]; rfl

theorem All2.append {α β : Type} {p : α → β → Prop} : ∀ {l l' : List α} {m m' : List β}, All2 p l m → All2 p l' m' → All2 p (l ++ l') (m ++ m')
  | [], _, [], _, _, h => h
  | _ :: _, _, _ :: _, _, h, h' => ⟨h.1, All2.append h.2 h'⟩
  | [], _, _ :: _, _, h, _ => h.elim
  | _ :: _, _, [], _, h, _ => h.elim

theorem call_ok (hC : CallsOk P E) (hI : Inv B ok0 w0 g σ a w) (hd : ∀ d, o.dst = some d → d < a.tmps.size) {c : Call} (ho : o.op = .call c) {x : Operand} (hc : c.callee = .value x) {f : Nat} {ds0 : List Dat} (hf : opd σ x = .fn f ds0) {s : Spec} (hs : E.call f = some s)
    {l : List AV} (hl : args' E (c.args.toList.zip c.argTypes.toList) σ = some (l, σ1)) (hlen : c.args.toList.length = c.argTypes.toList.length) {r : CallRes} (hr : s (joinA l (capsA ds0)) = some r) :
    StepOk P B ok0 w0 (.call r.α r.m fun x => imp o σ1 (r.enc x)) o a w := by
  rw [joinA_eq] at hr
  intro next Q y hy hn
  obtain ⟨hcon, hent⟩ := hC f s hs
  obtain ⟨g1, hI1, hargs, hm1⟩ := args_ok hI hl
  have hfx := opd_ok hI x
  rw [hf] at hfx
  obtain ⟨vs, hv, h2⟩ := hfx
  have hmap : (c.args.toList.zip c.argTypes.toList).map (fun p => a.eval p.1) = (c.args.map a.eval).toList := by
    rw [Array.toList_map, ← List.map_fst_zip (l₁ := c.args.toList) (l₂ := c.argTypes.toList) (by omega), List.map_map, List.map_fst_zip (by omega)]
    rfl
  rw [hmap] at hargs
  have hcaps : All2 (RepArg (okG B ok0 g1 w) w) (capsA ds0) vs := by
    have : ∀ (ds : List Dat) (us : List Value), All2 (fun (d : Dat) u => RepE (okG B ok0 g w) w d.t d.x 0 u) ds us → All2 (RepArg (okG B ok0 g1 w) w) (capsA ds) us := by
      intro ds
      induction ds with
      | nil => intro us h; cases us with
        | nil => trivial
        | cons _ _ => exact h.elim
      | cons d ds ih => intro us h; cases us with
        | nil => exact h.elim
        | cons u us => exact ⟨h.1.mono hm1, ih us h.2⟩
    exact this ds0 vs h2
  have hcalls := hcon (l ++ capsA ds0) r y hr hy (okG B ok0 g1 w) w _ (fun b o hk => hI1.okB hk) (hargs.append hcaps)
  unfold Oper.wp
  have hrun : (execOp a.eval o).run P w = .ok (.enter f (c.args.map a.eval ++ vs.toArray)) w := by
    unfold execOp; rw [ho]
    simp [resolve, hc, hv, Deferred.ofValue, invoke]
    exact hent _ _
  rw [hrun]
  show Calls P f _ w _
  have hca : c.args.map a.eval ++ vs.toArray = ((c.args.map a.eval).toList ++ vs).toArray := by simp
  rw [hca]
  refine hcalls.mono fun e w' h => ?_
  obtain ⟨v, rfl, hb, ρ, h1, h2, hav⟩ := h
  simp only
  unfold imp at hn
  cases hdst : o.dst with
  | none =>
    rw [hdst] at hn
    simp only at hn
    exact hn g1 _ _ (hI1.grown hb) (by simp [Act.put])
  | some d =>
    rw [hdst] at hn
    simp only at hn
    split at hav
    · rename_i t x gs heq
      obtain ⟨cs, hrep, hv, htg⟩ := hav
      rw [heq] at hn
      simp only [impG_eq] at hn
      obtain ⟨g2, hI2, hok, hrw⟩ := import_rows hI1 hb h1 h2 d (cnt gs)
      refine hn g2 _ _ (hI2.put (dst := some d) ⟨cs, hrep.mono (fun b o hk => ⟨hok b o hk, rfl⟩), hv, retTags_ok hrw gs 0 (by omega) htg⟩ (fun d' hd' => hd d' (by rw [hdst]; exact hd'))) (put_size _ _ _)
    · rename_i ds heq
      obtain ⟨vs, hv, hds⟩ := hav
      rw [heq] at hn
      simp only [impD_eq] at hn
      obtain ⟨g2, hI2, hok, hrw⟩ := import_rows hI1 hb h1 h2 d (cntD ds)
      refine hn g2 _ _ (hI2.put (dst := some d) ⟨vs, hv, ?_⟩ (fun d' hd' => hd d' (by rw [hdst]; exact hd'))) (put_size _ _ _)
      have key : ∀ (N : Nat) (hN : ∀ k, k < N → g2.rw (rid d k) = ρ k) (ds : List Dat) (vs : List Value) (j : Nat), j + cntD ds ≤ N → RetDs (okR (okG B ok0 g1 w) w w' ρ) ρ w' j ds vs →
          All2 (fun (q : Dat) u => RepDat (okG B ok0 g2 w') g2 (bumpN d 0 N σ1) w' q.t q.x q.g u) (mapDs d σ1 j ds) vs := by
        intro N hN ds
        induction ds with
        | nil => intro vs j _ h; cases vs with
          | nil => trivial
          | cons _ _ => exact h.elim
        | cons q ds ih =>
          intro vs j hj h
          cases vs with
          | nil => exact h.elim
          | cons v vs =>
            obtain ⟨⟨cs, h3, h4, h5⟩, h6⟩ := h
            unfold cntD at hj
            exact ⟨⟨cs, h3.mono (fun b o hk => ⟨hok b o hk, rfl⟩), h4, retTags_ok hN q.g j (by omega) h5⟩, ih vs _ (by omega) h6⟩
      exact key (cntD ds) hrw ds vs 0 (by omega) hds
    · exact hav.elim

end
end Go.AM
