/- Calls of functions whose contracts are known; appends and strings' bytes, put together. -/
import Derived.Test.YtkfffcnililmkaaDoorAmApp
namespace Go.AM
open Go.RowKit (Below)
set_option linter.unusedSectionVars false
variable [Lay]

def RepArg (ok : Nat → Nat → Prop) (w : World) : AV → Value → Prop
  | .dat t x _, v => ∃ cs, RepD ok w t x cs ∧ v = valOf t cs
  | .ept t x off, v => RepE ok w t x off v
  | .fn f caps, v => ∃ vs : List Value, v = .func (.func f) #[] vs.toArray ∧ All2 (fun (d : Dat) u => RepE ok w d.t d.x 0 u) caps vs
  | _, _ => False

def cnt : List Tag → Nat
  | [] => 0
  | t :: r => if t.id = 0 then cnt r else cnt r + 1

/-- The marks of a result: of those that aren't nil the j-th row is told by ρ. -/
def RetTags (ρ : Nat → Option (Nat × Nat)) (w : World) (cs : List Value) : Nat → List Tag → Prop
  | _, [] => True
  | j, t :: r => if t.id = 0 then cs[t.off]? = some (.slice none 0 0) ∧ RetTags ρ w cs j r else OwnSl ⟨fun _ => none, ρ⟩ w t.sz j cs[t.off]? ∧ RetTags ρ w cs (j + 1) r

def okR (ok0 : Nat → Nat → Prop) (w w' : World) (ρ : Nat → Option (Nat × Nat)) (b o : Nat) : Prop :=
  ok0 b o ∨ (w.heap.size ≤ b ∧ b < w'.heap.size ∧ ∀ j u, ρ j = some (b, u) → o < u)

def RetDs (ok : Nat → Nat → Prop) (ρ : Nat → Option (Nat × Nat)) (w : World) : Nat → List Dat → List Value → Prop
  | _, [], [] => True
  | j, d :: ds, v :: vs => (∃ cs, RepD ok w d.t d.x cs ∧ v = valOf d.t cs ∧ RetTags ρ w cs j d.g) ∧ RetDs ok ρ w (j + cnt d.g) ds vs
  | _, _, _ => False

/-- One argument: a variable that is handed over to be written takes a block. -/
def ArgOk (ok : Nat → Nat → Prop) (w : World) (a : AV) (v : Value) (bs r : List Nat) : Prop :=
  match a with
  | .iov t x => ∃ b, bs = b :: r ∧ v = .pointer (some ⟨b, 0, none⟩) ∧ ∃ cs T, w.heap[b]? = some (.cells cs.toArray T (0, 0)) ∧ RepD ok w t x cs
  | a => RepArg ok w a v ∧ bs = r

def ArgsOk (ok : Nat → Nat → Prop) (w : World) : List AV → List Value → List Nat → Prop
  | [], [], bs => bs = []
  | a :: l, v :: vs, bs => ∃ r, ArgOk ok w a v bs r ∧ ArgsOk ok w l vs r
  | _, _, _ => False

/-- What such variables hold in the end. -/
def IoDs (ok : Nat → Nat → Prop) (w : World) : List Dat → List Nat → Prop
  | [], [] => True
  | d :: ds, b :: bs => (∃ cs T, w.heap[b]? = some (.cells cs.toArray T (0, 0)) ∧ RepD ok w d.t d.x cs) ∧ IoDs ok w ds bs
  | _, _ => False

def RepRet (ok0 : Nat → Nat → Prop) (w w' : World) (av : AV) (ios : List Dat) (bs : List Nat) (v : Value) : Prop :=
  ∃ ρ : Nat → Option (Nat × Nat), (∀ j b u, ρ j = some (b, u) → w.heap.size ≤ b ∧ b < w'.heap.size) ∧ (∀ j k b u u', ρ j = some (b, u) → ρ k = some (b, u') → j = k) ∧ IoDs (okR ok0 w w' ρ) w' ios bs ∧
    match av with
    | .dat t x g => ∃ cs, RepD (okR ok0 w w' ρ) w' t x cs ∧ v = valOf t cs ∧ RetTags ρ w' cs 0 g
    | .tup ds => ∃ vs : List Value, v = .tuple vs.toArray ∧ RetDs (okR ok0 w w' ρ) ρ w' 0 ds vs
    | _ => False

/-- What a function whose contract is 's' owes. -/
def Contract (P : Program) (f : FuncId) (s : Spec) : Prop :=
  ∀ l r x, s l = some r → r.m = some x → ∀ (ok0 : Nat → Nat → Prop) (w : World) (vs : List Value) (bs : List Nat), (∃ z, Lay.ok z w ∧ ∀ b ∈ bs, z ≤ b) → (∀ b o, ok0 b o → b < w.heap.size ∧ b ∉ bs) → bs.Nodup → (∀ b ∈ bs, b < w.heap.size) → ArgsOk ok0 w l vs bs →
    Calls P f vs.toArray w fun e w' => ∃ v, e = .returned v ∧ BelowX ⟨w.heap.size, bs⟩ w w' ∧ RepRet ok0 w w' (r.enc x) (r.io x) bs v

def Enters (P : Program) (f : FuncId) : Prop := ∀ args w, (callFunc f args).run P w = .ok (.enter f args) w

def CallsOk (P : Program) (E : Env) : Prop := ∀ f s, E.call f = some s → Contract P f s ∧ Enters P f ∧ (E.lend f = true → Words s)

section
variable {P : Program} {B : Bd} {ok0 : Nat → Nat → Prop} {w0 w w' : World} {g g' : G} {σ σ1 : St} {a : Act} {o : Oper} {E : Env}

theorem lenOf_slice (p : Option Addr) (n c : Nat) (w : World) : (Builtin.lenOf (.slice p n c)).run P w = .ok n w := rfl

theorem append_ok (hE : EnvOk P E) (hI : Inv B ok0 w0 g σ a w) (hd : ∀ d, o.dst = some d → d < a.tmps.size) {T U : Nat} {c : Call} (ho : o.op = .call c) (hc : c.callee = .builtin .append) {s x : Operand}
    (ha : c.args.toList = [s, x]) (hat : c.argTypes.toList = [T, U]) : StepOk P B ok0 w0 (append' E T U o σ (opd σ s) (opd σ x)) o a w := by
  unfold append'
  split
  · rename_i d e hdst hT
    obtain ⟨ET, ie, hu, hie, _⟩ := (hE.ty T _ hT).und
    split
    · rename_i l hl
      split
      · rename_i id hid
        split
        · rename_i hU
          have huU : P.underlying U = some .string := (hE.ty U _ hU).und
          split
          · rename_i l2 hl2
            split
            · rename_i y gs hx
              have hev := eval_str hI hx
              have hsz : (toBytes y).length = y.size := by unfold toBytes; rw [List.length_map, Array.length_toList]; rfl
              have hcore := append_core (news := (toBytes y).map (Value.int .u8)) (l' := toBytes y) (m := y.size) hE hI hd ho hc ha hat hT hu hie (.inr huU) hl hid
                ⟨by simp [Ty.sz], fun i x hi => ⟨[.int .u8 x], rfl, fun j u hj => by
                  have hj0 : j = 0 := by have := (List.getElem?_eq_some_iff.1 hj).1; simp at this; exact this
                  subst hj0
                  simp at hj
                  subst hj
                  simp only [Ty.sz, Nat.mul_one, Nat.add_zero, List.getElem?_map, hi]
                  rfl⟩⟩ hsz (fun w => by rw [hev]; rfl) (fun w' _ => by
                    rw [hev]
                    simp only [Builtin.firstCells, Sem.run_pure, toBytes, List.map_map]
                    rw [show y.extract 0 y.size = y from ByteArray.extract_zero_size]
                    congr 1
                    apply Array.ext'
                    rw [Array.toList_map]
                    rfl) (fun u hu => by
                    obtain ⟨n, _, rfl⟩ := List.mem_map.1 hu
                    rfl)
              exact hcore
            · exact no_ok
          · exact no_ok
        · rename_i e2 hU
          split
          · rename_i y hy
            obtain ⟨EU, _, huU, _⟩ := (hE.ty U _ hU).und
            obtain ⟨p, n, cap, cs, hv, hln, _, _, hrow, h1, hcell⟩ := content_rows hI hy (opd_ok hI x)
            refine append_core (news := cs) (l' := y) (m := y.length) hE hI hd ho hc ha hat hT hu hie (.inl ⟨EU, huU⟩) hl hid hrow rfl (fun w => by rw [hv, hln]; rfl) (fun w' hw' => ?_) h1
            rw [hv, hln]
            rcases hcell with h0 | ⟨A, hA, hs, hc'⟩
            · subst h0
              have : cs = [] := List.eq_nil_of_length_eq_zero (by rw [hrow.1, hln, Nat.zero_mul])
              subst this
              cases p with
              | none => simp [Builtin.firstCells]
              | some A => exact run_firstCells_some (P := P) w' e.sz 0 A 0 cap [] (by simp) (fun j u hj => by simp at hj)
            · subst hA
              refine run_firstCells_some (P := P) w' e.sz n A n cap cs (by rw [hrow.1, hln]) fun j u hj => ?_
              rw [add_at A hs]
              have := hc' j u hj
              simp only [World.cell?, hw'] at this ⊢
              exact this
          · exact no_ok
        · exact no_ok
      · exact no_ok
    · exact no_ok
  · exact no_ok


theorem bytes_ok (hE : EnvOk P E) (hI : Inv B ok0 w0 g σ a w) (hd : ∀ d, o.dst = some d → d < a.tmps.size) {src dst : Nat} {x : Operand} (ho : o.op = .convert src dst x) (hs : E.ty src = some .str) (hds : E.ty dst = some (.sl (.int .u8))) :
    StepOk P B ok0 w0 (convert' E src dst o σ (opd σ x)) o a w := by
  have u1 : P.underlying src = some .string := (hE.ty _ _ hs).und
  obtain ⟨ET, ie, u2, _, _, _, hk, _⟩ := (hE.ty _ _ hds).und
  unfold convert'
  rw [hs, hds]
  dsimp only
  split
  · rename_i s gs hx
    refine go_ok hd fun hc => ?_
    have hroom : s.size * 1 ≤ 140737488355328 := of_decide_eq_true hc
    have hr := Lib.run_convert_string_bytes (P := P) w src dst ET s u1 u2 (hk .u8 rfl)
    have hrun : (execOp a.eval o).run P w = .ok (.value (.slice (some ⟨w.heap.size, 0, none⟩) s.size (grownCap w s.size 0 ET))) (Lib.bytesWorld w ET s) := by
      unfold execOp; rw [ho]
      simp only [eval_str hI hx, Sem.run_bind, hr, Result.andThen_ok, Sem.run_pure]
    have hb : Below w.heap.size w (Lib.bytesWorld w ET s) := ⟨rfl, rfl, rfl, by rw [Lib.bytesWorld_size]; omega, fun k hk => Lib.bytesWorld_at_old w ET s k hk⟩
    have hBw : B.n ≤ w.heap.size := by have := hI.below.size; have := hI.hB; omega
    have hlen : (toBytes s).length = s.size := by unfold toBytes; rw [List.length_map, Array.length_toList]; rfl
    refine ⟨g, _, _, hrun, hI.grown hb, [_], ⟨_, _, _, rfl, hlen, grownCap_ge w s.size 0 ET, grownCap_le_maxLen w s.size 0 ET (by unfold maxLen; omega), fun i n hi => ?_⟩, rfl, fun t ht => by cases ht⟩
    have hin : i < s.size := by rw [← hlen]; exact (List.getElem?_eq_some_iff.1 hi).1
    refine ⟨_, rfl, rfl, [.int .u8 n], rfl, fun j u hj => ?_⟩
    have hj0 : j = 0 := by have := (List.getElem?_eq_some_iff.1 hj).1; simp at this; exact this
    subst hj0
    simp at hj
    subst hj
    simp only [Ty.sz, Nat.mul_one, Nat.add_zero, Nat.zero_add]
    refine ⟨.inr ⟨hBw, by rw [Lib.bytesWorld_size]; omega, fun id he => by have := (hI.bb id _ _ he).2; omega, fun id u he => by have := (hI.rb id _ _ he).2.1; omega⟩, ?_⟩
    rw [Lib.bytesWorld_cell w ET s i hin]
    unfold toBytes at hi
    rw [List.getElem?_map] at hi
    cases hq : s.data.toList[i]? with
    | none => rw [hq] at hi; cases hi
    | some b =>
      rw [hq] at hi
      simp only [Option.map_some, Option.some.injEq] at hi
      subst hi
      rw [List.getD_eq_getElem?_getD, hq]
      rfl
  · exact no_ok


/-! Arguments. -/
theorem RepArg.mono {ok ok' : Nat → Nat → Prop} (hm : ∀ b o, ok b o → ok' b o) {av : AV} {v : Value} (h : RepArg ok w av v) : RepArg ok' w av v := by
  cases av with
  | dat t x g => obtain ⟨cs, h1, h2⟩ := h; exact ⟨cs, h1.mono (fun b o hk => ⟨hm b o hk, rfl⟩), h2⟩
  | ept t x off => exact RepE.mono hm h
  | fn f caps => obtain ⟨vs, h1, h2⟩ := h; exact ⟨vs, h1, h2.imp fun _ _ hp => hp.mono hm⟩
  | _ => exact h

/-- One argument, while boxes are still told by name. -/
def ArgG (ok : Nat → Nat → Prop) (g : G) (σ : St) (w : World) (a : AV) (v : Value) (ids r : List Nat) : Prop :=
  match a with
  | .iov t x => ∃ id b f gs, ids = id :: r ∧ v = .pointer (some ⟨b, 0, none⟩) ∧ g.bx id = some (b, f) ∧ σ.c id = some (.var t x gs)
  | a => RepArg ok w a v ∧ ids = r

def ArgsG (ok : Nat → Nat → Prop) (g : G) (σ : St) (w : World) : List AV → List Value → List Nat → Prop
  | [], [], ids => ids = []
  | a :: l, v :: vs, ids => ∃ r, ArgG ok g σ w a v ids r ∧ ArgsG ok g σ w l vs r
  | _, _, _ => False

/-- From one state to another, in the same memory: versions stay, variables stay. -/
structure Still (B : Bd) (ok0 : Nat → Nat → Prop) (g g' : G) (σ σ' : St) (w : World) : Prop where
  ext : Ext (okG B ok0 g w) (okG B ok0 g' w) g g' σ σ' w w
  v : σ'.v = σ.v
  t : σ'.t = σ.t
  var : ∀ id t x gs, σ.c id = some (.var t x gs) → σ'.c id = some (.var t x gs)

theorem Still.refl (B : Bd) (ok0 : Nat → Nat → Prop) (g : G) (σ : St) (w : World) : Still B ok0 g g σ σ w where
  ext := { cell := fun _ _ hk => ⟨hk, rfl⟩
           box := fun _ _ hv => ⟨hv, fun he => ⟨he, fun _ f hh => ⟨f, hh⟩, fun _ l fz hc => ⟨l, fz, hc, rfl⟩, fun hn => hn, fun _ _ cur _ _ _ hh => ⟨cur, hh, rfl⟩⟩⟩
           row := fun id ver _ hv => ⟨hv, fun he => ⟨he, fun b u hh => ⟨hh, rfl⟩⟩⟩ }
  v := rfl
  t := rfl
  var := fun _ _ _ _ h => h

theorem Still.bx {g g' : G} {σ σ' : St} (h : Still B ok0 g g' σ σ' w) {id b : Nat} {f : Bool} (hb : g.bx id = some (b, f)) : ∃ f', g'.bx id = some (b, f') :=
  ((h.ext.box id (σ.v id) (Nat.le_refl _)).2 (by rw [h.v])).2.1 b f hb

theorem ArgG.still {g g' : G} {σ σ' : St} (h : Still B ok0 g g' σ σ' w) {a : AV} {v : Value} {ids r : List Nat} (ha : ArgG (okG B ok0 g w) g σ w a v ids r) : ArgG (okG B ok0 g' w) g' σ' w a v ids r := by
  unfold ArgG at *
  split at ha
  · obtain ⟨id, b, f, gs, h1, h2, h3, h4⟩ := ha
    obtain ⟨f', h5⟩ := h.bx h3
    exact ⟨id, b, f', gs, h1, h2, h5, h.var _ _ _ _ h4⟩
  · exact ⟨ha.1.mono fun b o hk => (h.ext.cell b o hk).1, ha.2⟩

theorem ArgsG.still {g g' : G} {σ σ' : St} (h : Still B ok0 g g' σ σ' w) : ∀ {l : List AV} {vs : List Value} {ids : List Nat}, ArgsG (okG B ok0 g w) g σ w l vs ids → ArgsG (okG B ok0 g' w) g' σ' w l vs ids
  | [], [], _, ha => ha
  | _ :: _, _ :: _, _, ⟨r, h1, h2⟩ => ⟨r, h1.still h, ArgsG.still h h2⟩
  | [], _ :: _, _, ha => ha.elim
  | _ :: _, [], _, ha => ha.elim

theorem Still.trans {g g1 g2 : G} {σ σ1 σ2 : St} (h : Still B ok0 g g1 σ σ1 w) (k : Still B ok0 g1 g2 σ1 σ2 w) : Still B ok0 g g2 σ σ2 w where
  ext := { cell := fun b o hk => ⟨(k.ext.cell b o (h.ext.cell b o hk).1).1, rfl⟩
           box := fun id ver hv => by
             obtain ⟨a1, a2⟩ := h.ext.box id ver hv
             obtain ⟨b1, b2⟩ := k.ext.box id ver a1
             refine ⟨b1, fun he => ?_⟩
             obtain ⟨c1, c2, c3, c4, c5⟩ := b2 he
             obtain ⟨d1, d2, d3, d4, d5⟩ := a2 c1
             refine ⟨d1, fun b f hb => ?_, fun e l fz hc => ?_, fun hn => c4 (d4 hn), fun b f cur T _ _ hh => ⟨cur, hh, rfl⟩⟩
             · obtain ⟨f1, h1⟩ := d2 b f hb; exact c2 b f1 h1
             · obtain ⟨l1, z1, h1, h2⟩ := d3 e l fz hc
               obtain ⟨l2, z2, h3, h4⟩ := c3 e l1 z1 h1
               exact ⟨l2, z2, h3, h4.trans h2⟩
           row := fun id ver h0 hv => by
             obtain ⟨a1, a2⟩ := h.ext.row id ver h0 hv
             obtain ⟨b1, b2⟩ := k.ext.row id ver h0 a1
             refine ⟨b1, fun he => ?_⟩
             obtain ⟨c1, c2⟩ := b2 he
             obtain ⟨d1, d2⟩ := a2 c1
             exact ⟨d1, fun b u hb => ⟨(c2 b u (d2 b u hb).1).1, rfl⟩⟩ }
  v := k.v.trans h.v
  t := k.t.trans h.t
  var := fun id t x gs hc => k.var _ _ _ _ (h.var _ _ _ _ hc)

theorem setBox_still {id : Nat} {e : Ty} {l : List e.D} {fz : Bool} (hc : σ.c id = some (.arr e l fz)) (hx : Ext (okG B ok0 g w) (okG B ok0 g' w) g g' σ (σ.setBox id (.arr e l true)) w w) :
    Still B ok0 g g' σ (σ.setBox id (.arr e l true)) w :=
  ⟨hx, rfl, rfl, fun id' t x gs hc' => by
    simp only [St.setBox, fset_eq]
    by_cases hi : id' = id
    · subst hi; rw [hc] at hc'; cases hc'
    · rw [if_neg hi]; exact hc'⟩

theorem arg_ok (hI : Inv B ok0 w0 g σ a w) {T : Nat} {av av' : AV} {v : Value} (h : arg' E T σ av = some (av', σ1)) (hr : RepA (okG B ok0 g w) g σ w av v) :
    ∃ g', Inv B ok0 w0 g' σ1 a w ∧ Still B ok0 g g' σ σ1 w ∧ ∀ r, ArgG (okG B ok0 g' w) g' σ1 w av' v (ioId av ++ r) r := by
  unfold arg' at h
  split at h
  · cases h
    obtain ⟨cs, h1, h2, _⟩ := hr
    exact ⟨g, hI, Still.refl .., fun r => ⟨⟨cs, h1, h2⟩, rfl⟩⟩
  · split at h
    · cases h
      have hv : v = .slice none 0 0 := hr
      subst hv
      exact ⟨g, hI, Still.refl .., fun r => ⟨⟨[.slice none 0 0], ⟨none, 0, 0, rfl, rfl, Nat.le_refl _, Nat.zero_le _, fun i x hi => by simp at hi⟩, rfl⟩, rfl⟩⟩
    · cases h
  · rename_i id ver
    split at h
    · rename_i hvp
      have hid : id < pid0 := Nat.le_of_ble_eq_true hvp.2
      split at h
      · rename_i e l fz hc
        cases h
        obtain ⟨e2, l2, fz2, hc2, hsw⟩ := hr.2 hvp.1
        rw [hc] at hc2; cases hc2
        rcases hsw with ⟨hn, hl0, hv⟩ | ⟨b, f, cap, cur, T, hb, hh, hcs, hle, hmx, hv⟩
        · obtain ⟨hI', hx⟩ := hI.freezeNil hc hn
          have hl00 : l = [] := List.eq_nil_of_length_eq_zero hl0
          subst hl00
          exact ⟨g, hI', setBox_still hc hx, fun r => ⟨⟨[v], by rw [hv]; exact ⟨none, 0, 0, rfl, rfl, Nat.le_refl _, Nat.zero_le _, fun i x hi => by simp at hi⟩, rfl⟩, rfl⟩⟩
        · obtain ⟨g', hb', hI', hx, hok⟩ := hI.freeze hc hb hid
          obtain ⟨_, cur', TT, hh', hsz, hmx', hrow⟩ := hI'.conB (c := .arr e l true) hb' (by simp [St.setBox, fset_eq])
          refine ⟨g', hI', setBox_still hc hx, fun r => ⟨⟨[v], ?_, rfl⟩, rfl⟩⟩
          rw [hv]
          refine ⟨_, _, _, rfl, rfl, hle, hmx, fun i x hi => ?_⟩
          obtain ⟨ys, hy, hyc⟩ := hrow i x hi
          refine ⟨_, rfl, rfl, ys, hy, fun j u hj => ⟨hok _, ?_⟩⟩
          simp only [World.cell?, hh', Nat.zero_add]
          exact hyc j u hj
      · cases h
    · cases h
  · rename_i id ver lo n
    split at h
    · rename_i hvp
      have hid : id < pid0 := Nat.le_of_ble_eq_true hvp.2
      split at h
      · rename_i e l fz hc
        cases h
        obtain ⟨e2, l2, fz2, A, cap, hc2, hlo, hcap, hmx2, hA, hAs, hp⟩ := hr.2 hvp.1
        rw [hc] at hc2; cases hc2
        cases hbx : g.bx id with
        | none =>
          obtain ⟨hI', hx⟩ := hI.freezeNil hc hbx
          have hn0 : n = 0 := by
            by_cases h0 : n = 0
            · exact h0
            · obtain ⟨b, f, hb, _⟩ := hA h0; rw [hbx] at hb; cases hb
          subst hn0
          exact ⟨g, hI', setBox_still hc hx, fun r => ⟨⟨[v], by rw [hp]; exact ⟨_, _, _, rfl, by simp, hcap, hmx2, fun i x hi => by simp at hi⟩, rfl⟩, rfl⟩⟩
        | some q =>
          obtain ⟨b, f⟩ := q
          obtain ⟨g', hb', hI', hx, hok⟩ := hI.freeze hc hbx hid
          obtain ⟨_, cur', TT, hh', hsz, hmx', hrow⟩ := hI'.conB (c := .arr e l true) hb' (by simp [St.setBox, fset_eq])
          refine ⟨g', hI', setBox_still hc hx, fun r => ⟨⟨[v], ?_, rfl⟩, rfl⟩⟩
          rw [hp]
          refine ⟨_, _, _, rfl, by rw [List.length_take, List.length_drop]; omega, hcap, hmx2, fun i x hi => ?_⟩
          obtain ⟨hin, hi'⟩ := getElem?_take_drop hi
          obtain ⟨b2, f2, hb2, hA2⟩ := hA (by omega)
          rw [hbx] at hb2; cases hb2
          obtain ⟨ys, hy, hyc⟩ := hrow _ x hi'
          refine ⟨_, hA2, rfl, ys, hy, fun j u hj => ⟨hok _, ?_⟩⟩
          simp only [World.cell?, hh']
          rw [show lo * e.sz + (i * e.sz + j) = (lo + i) * e.sz + j by rw [Nat.add_mul]; omega]
          exact hyc j u hj
      · cases h
    · cases h
  · cases h
    exact ⟨g, hI, Still.refl .., fun r => ⟨hr, rfl⟩⟩
  · cases h
    exact ⟨g, hI, Still.refl .., fun r => ⟨hr, rfl⟩⟩
  · rename_i id ver
    split at h
    · rename_i hv
      split at h
      · rename_i t x gs hc
        cases h
        obtain ⟨b, f, hb, hp⟩ := hr.2 hv
        exact ⟨g, hI, Still.refl .., fun r => ⟨id, b, f, gs, rfl, hp, hb, hc⟩⟩
      · cases h
    · cases h
  · cases h

theorem caps_ok : ∀ {xs : List Operand} {σ σ1 : St} {g : G} {ds : List Dat}, Inv B ok0 w0 g σ a w → caps' xs σ = some (ds, σ1) →
    ∃ g', Inv B ok0 w0 g' σ1 a w ∧ All2 (fun (d : Dat) u => RepE (okG B ok0 g' w) w d.t d.x 0 u) ds (xs.map a.eval) ∧ ∀ b o, okG B ok0 g w b o → okG B ok0 g' w b o
  | [], σ, σ1, g, ds, hI, h => by cases h; exact ⟨g, hI, trivial, fun _ _ hk => hk⟩
  | x :: xs, σ, σ1, g, ds, hI, h => by
    unfold caps' at h
    split at h
    · rename_i d σ2 h1
      split at h
      · rename_i ds2 σ3 h2
        cases h
        have hone : ∃ g', Inv B ok0 w0 g' σ2 a w ∧ RepE (okG B ok0 g' w) w d.t d.x 0 (a.eval x) ∧ ∀ b o, okG B ok0 g w b o → okG B ok0 g' w b o := by
          have rx := opd_ok hI x
          unfold cap' at h1
          split at h1
          · rename_i id ver hx
            rw [hx] at rx
            have frozen : ∀ (g' : G) (σ' : St) (t : Ty) (y : t.D), Inv B ok0 w0 g' σ' a w → σ'.c id = some (.arr t [y] true) → ∀ b, g'.bx id = some (b, true) → a.eval x = .pointer (some ⟨b, 0, none⟩) →
                (∀ o, okG B ok0 g' w b o) → RepE (okG B ok0 g' w) w t y 0 (a.eval x) := by
              intro g' σ' t y hI' hc' b hb hp hok
              obtain ⟨hf', cur, TT, hh, hsz, hmx, hrow⟩ := hI'.conB hb hc'
              obtain ⟨ys, hr, hcur⟩ := hrow 0 y rfl
              exact ⟨b, 0, ys, hp, hr, fun j u hj => ⟨hok _, by simp only [World.cell?, hh]; simpa using hcur j u hj⟩⟩
            split at h1
            · rename_i hvp
              have hid : id < pid0 := Nat.le_of_ble_eq_true hvp.2
              obtain ⟨b, f, hb, hp⟩ := rx.2 hvp.1
              split at h1
              · rename_i t y gs hc
                cases h1
                obtain ⟨g', hb2, hI', hx', hok⟩ := hI.capture hc hb hid
                exact ⟨g', hI', frozen g' _ t y hI' (by simp [St.setBox, fset_eq]) b hb2 hp hok, fun b o hk => (hx'.cell b o hk).1⟩
              · rename_i t y hc
                cases h1
                have hcon := hI.conB hb hc
                have hf : f = true := hcon.1
                subst hf
                have hbb := hI.bb id b true hb
                have hBb : B.n ≤ b := by rcases hbb.1 with h | h; exact h; exact absurd h.2.1 (by simp)
                refine ⟨g, hI, frozen g _ t y hI hc b hb hp fun o => .inr ⟨hBb, hbb.2, fun id' he => ?_, fun id' u he => ?_⟩, fun _ _ hk => hk⟩
                · have := hI.bi _ _ _ _ _ he hb
                  subst this
                  rw [hb] at he
                  cases he
                · exact absurd hb ((hI.rb id' b u he).2.2 id true)
              · cases h1
            · cases h1
          · rename_i t y hx
            rw [hx] at rx
            cases h1
            exact ⟨g, hI, rx, fun _ _ hk => hk⟩
          · cases h1
        obtain ⟨g2, hI2, hr2, hm2⟩ := hone
        obtain ⟨g3, hI3, hr3, hm3⟩ := caps_ok hI2 h2
        exact ⟨g3, hI3, ⟨hr2.mono hm3, hr3⟩, fun b o hk => hm3 b o (hm2 b o hk)⟩
      · cases h
    · cases h

theorem makeFunc_ok (hI : Inv B ok0 w0 g σ a w) (hd : ∀ d, o.dst = some d → d < a.tmps.size) {f : Nat} {p q : Array Operand} (ho : o.op = .makeFunc (.func f) p q) (hp : p.size = 0) {ds : List Dat} (hq : caps' q.toList σ = some (ds, σ1)) :
    StepOk P B ok0 w0 (.go true (σ1.setT o.dst (.fn f ds))) o a w := by
  intro next Q _ hn
  have hp' : p = #[] := Array.eq_empty_of_size_eq_zero hp
  obtain ⟨g', hI', hr, _⟩ := caps_ok hI hq
  unfold Oper.wp
  have hrun : (execOp a.eval o).run P w = .ok (.value (.func (.func f) #[] (q.map a.eval))) w := by
    unfold execOp; rw [ho, hp']
    simp [Instr.makeFunc]
  rw [hrun]
  refine hn g' _ _ (hI'.put ⟨(q.map a.eval).toList, by rw [Array.toArray_toList], by rw [Array.toList_map]; exact hr⟩ hd) (put_size _ _ _)

theorem capsB_ok (hI : Inv B ok0 w0 g σ a w) : ∀ {xs : List Operand} {ps : List (Nat × Nat)}, capsB σ xs = some ps → All2 (fun (p : Nat × Nat) u => RepP g σ p.1 p.2 0 u) ps (xs.map a.eval)
  | [], ps, h => by cases h; trivial
  | x :: xs, ps, h => by
    unfold capsB at h
    split at h
    · rename_i id ver hx
      split at h
      · rename_i hv
        split at h
        · rename_i l hl
          cases h
          have rx := opd_ok hI x
          rw [hx] at rx
          exact ⟨rx, capsB_ok hI hl⟩
        · cases h
      · cases h
    · cases h

theorem makeClo_ok (hI : Inv B ok0 w0 g σ a w) (hd : ∀ d, o.dst = some d → d < a.tmps.size) {f : Nat} {p q : Array Operand} (ho : o.op = .makeFunc (.func f) p q) (hp : p.size = 0) {ps : List (Nat × Nat)} (hq : capsB σ q.toList = some ps) :
    StepOk P B ok0 w0 (put o σ (.clo f ps)) o a w := by
  have hp' : p = #[] := Array.eq_empty_of_size_eq_zero hp
  refine put_ok hI hd (v := .func (.func f) #[] (q.map a.eval)) ?_ ⟨(q.map a.eval).toList, by rw [Array.toArray_toList], by rw [Array.toList_map]; exact capsB_ok hI hq⟩
  unfold execOp; rw [ho, hp']
  simp [Instr.makeFunc]

theorem args_ok : ∀ {ps : List (Operand × Nat)} {σ σ1 : St} {g : G} {l : List AV}, Inv B ok0 w0 g σ a w → args' E ps σ = some (l, σ1) →
    ∃ g', Inv B ok0 w0 g' σ1 a w ∧ Still B ok0 g g' σ σ1 w ∧ ArgsG (okG B ok0 g' w) g' σ1 w l (ps.map fun p => a.eval p.1) (argIds σ (ps.map (·.1)))
  | [], σ, σ1, g, l, hI, h => by
    simp only [args', Option.some.injEq, Prod.mk.injEq] at h
    obtain ⟨rfl, rfl⟩ := h
    exact ⟨g, hI, Still.refl .., rfl⟩
  | (x, T) :: ps, σ, σ1, g, l, hI, h => by
    unfold args' at h
    split at h
    · rename_i av σ2 h1
      split at h
      · rename_i l2 σ3 h2
        cases h
        obtain ⟨g2, hI2, hs2, hr2⟩ := arg_ok hI h1 (opd_ok hI x)
        obtain ⟨g3, hI3, hs3, hr3⟩ := args_ok hI2 h2
        have he : argIds σ2 (ps.map (·.1)) = argIds σ (ps.map (·.1)) := by
          unfold argIds
          have : (fun x => ioId (opd σ2 x)) = fun x => ioId (opd σ x) := funext fun x => by
            congr 1
            cases x <;> first | rfl | (unfold opd; rw [hs2.t])
          rw [this]
        rw [he] at hr3
        refine ⟨g3, hI3, hs2.trans hs3, _, ?_, hr3⟩
        have := (hr2 (argIds σ (ps.map (·.1)))).still hs3
        unfold argIds at this ⊢
        rw [List.map_cons, List.flatMap_cons]
        exact this
      · cases h
    · cases h

/-! Results. -/
def bumpN (d j n : Nat) (σ : St) : St := { σ with r := fun i => if rid d j ≤ i ∧ i < rid d (j + n) then σ.r i + 1 else σ.r i }

def mapTags (d : Nat) (σ : St) : Nat → List Tag → List Tag
  | _, [] => []
  | j, t :: r => if t.id = 0 then t :: mapTags d σ j r else ⟨t.off, rid d j, σ.r (rid d j) + 1, t.sz⟩ :: mapTags d σ (j + 1) r

def mapDs (d : Nat) (σ : St) : Nat → List Dat → List Dat
  | _, [] => []
  | j, x :: r => ⟨x.t, x.x, mapTags d σ j x.g⟩ :: mapDs d σ (j + cnt x.g) r

def cntD : List Dat → Nat
  | [] => 0
  | x :: r => cnt x.g + cntD r

theorem rid_add (d j n : Nat) : rid d (j + n) = rid d j + n := by unfold rid; omega

theorem bumpN_zero (d j : Nat) (σ : St) : bumpN d j 0 σ = σ := by
  unfold bumpN
  cases σ
  congr 1
  funext i
  rw [if_neg (by rw [rid_add]; omega)]

theorem bumpN_succ (d j n : Nat) (σ : St) : bumpN d (j + 1) n (σ.bump (rid d j)) = bumpN d j (n + 1) σ := by
  unfold bumpN St.bump
  congr 1
  funext i
  simp only [fset_eq, rid_add]
  by_cases h1 : i = rid d j
  · subst h1
    rw [if_neg (by omega), if_pos rfl, if_pos (by omega)]
  · rw [if_neg h1]
    by_cases h2 : rid d j + 1 ≤ i ∧ i < rid d j + 1 + n
    · rw [if_pos h2, if_pos (by omega)]
    · rw [if_neg h2, if_neg (by omega)]

theorem mapTags_after (d : Nat) (σ : St) {j0 : Nat} : ∀ (g : List Tag) (j : Nat), j0 < j → mapTags d (σ.bump (rid d j0)) j g = mapTags d σ j g
  | [], _, _ => rfl
  | t :: r, j, h => by
    unfold mapTags
    split
    · rw [mapTags_after d σ r j h]
    · rw [mapTags_after d σ r (j + 1) (by omega)]
      congr 2
      simp only [St.bump, fset_eq]
      rw [if_neg (by unfold rid; omega)]

theorem impG_eq (d : Nat) : ∀ (g : List Tag) (j : Nat) (σ : St), impG d g j σ = (mapTags d σ j g, j + cnt g, bumpN d j (cnt g) σ)
  | [], j, σ => by simp [impG, mapTags, cnt, bumpN_zero]
  | t :: r, j, σ => by
    unfold impG mapTags cnt
    split
    · rw [impG_eq d r j σ]
    · rw [impG_eq d r (j + 1) (σ.bump (rid d j)), mapTags_after d σ r (j + 1) (by omega), bumpN_succ]
      simp only [Prod.mk.injEq, true_and, and_true]
      omega

theorem bumpN_bumpN (d j m n : Nat) (σ : St) : bumpN d (j + m) n (bumpN d j m σ) = bumpN d j (m + n) σ := by
  unfold bumpN
  congr 1
  funext i
  simp only [rid_add]
  by_cases h1 : rid d j ≤ i ∧ i < rid d j + m
  · rw [if_neg (by omega), if_pos h1, if_pos (by omega)]
  · rw [if_neg h1]
    by_cases h2 : rid d j + m ≤ i ∧ i < rid d j + (m + n)
    · rw [if_pos (by omega), if_pos (by omega)]
    · rw [if_neg (by omega), if_neg (by omega)]

theorem mapTags_bumpN (d : Nat) (σ : St) {j0 n : Nat} : ∀ (g : List Tag) (j : Nat), j0 + n ≤ j → mapTags d (bumpN d j0 n σ) j g = mapTags d σ j g
  | [], _, _ => rfl
  | t :: r, j, h => by
    unfold mapTags
    split
    · rw [mapTags_bumpN d σ r j h]
    · rw [mapTags_bumpN d σ r (j + 1) (by omega)]
      congr 2
      simp only [bumpN]
      rw [if_neg (by simp only [rid_add]; unfold rid; omega)]

theorem mapDs_bumpN (d : Nat) (σ : St) {j0 n : Nat} : ∀ (ds : List Dat) (j : Nat), j0 + n ≤ j → mapDs d (bumpN d j0 n σ) j ds = mapDs d σ j ds
  | [], _, _ => rfl
  | x :: r, j, h => by
    unfold mapDs
    rw [mapTags_bumpN d σ x.g j h, mapDs_bumpN d σ r (j + cnt x.g) (by omega)]

theorem impD_eq (d : Nat) : ∀ (ds : List Dat) (j : Nat) (σ : St), impD d ds j σ = (mapDs d σ j ds, j + cntD ds, bumpN d j (cntD ds) σ)
  | [], j, σ => by simp [impD, mapDs, cntD, bumpN_zero]
  | x :: r, j, σ => by
    unfold impD mapDs cntD
    simp only [impG_eq]
    rw [impD_eq d r]
    simp only [bumpN_bumpN, mapDs_bumpN d σ r (j + cnt x.g) (Nat.le_refl _), Nat.add_assoc]

theorem setIos_same : ∀ (ids : List Nat) (ds : List Dat) (σ : St), (setIos ids ds σ).t = σ.t ∧ (setIos ids ds σ).v = σ.v ∧ (setIos ids ds σ).r = σ.r
  | [], _, _ => ⟨rfl, rfl, rfl⟩
  | _ :: _, [], _ => ⟨rfl, rfl, rfl⟩
  | _ :: ids, _ :: ds, σ => setIos_same ids ds _

theorem setIos_not {id : Nat} : ∀ (ids : List Nat) (ds : List Dat) (σ : St), id ∉ ids → (setIos ids ds σ).c id = σ.c id
  | [], _, _, _ => rfl
  | _ :: _, [], _, _ => rfl
  | i :: ids, d :: ds, σ, h => by
    unfold setIos
    rw [setIos_not ids ds _ (fun hm => h (List.mem_cons_of_mem _ hm))]
    simp only [St.setBox, fset_eq]
    rw [if_neg (fun he => h (by rw [he]; exact List.mem_cons_self ..))]

theorem setIos_mem {ok : Nat → Nat → Prop} {R : Nat → Nat → Prop} {id : Nat} : ∀ {ids bs : List Nat} {ds : List Dat} {σ : St}, IoDs ok w ds bs → All2 R ids bs → ids.Nodup → id ∈ ids →
    ∃ (d : Dat) (b : Nat), R id b ∧ (setIos ids ds σ).c id = some (.var d.t d.x []) ∧ ∃ cs T, w.heap[b]? = some (.cells cs.toArray T (0, 0)) ∧ RepD ok w d.t d.x cs
  | [], _, _, _, _, _, _, h => by cases h
  | _ :: _, [], _, _, _, h, _, _ => h.elim
  | _ :: _, _ :: _, [], _, h, _, _, _ => h.elim
  | i :: ids, b :: bs, d :: ds, σ, hi, ha, hn, hm => by
    rcases List.mem_cons.1 hm with rfl | hm
    · refine ⟨d, b, ha.1, ?_, hi.1⟩
      unfold setIos
      rw [setIos_not ids ds _ (List.nodup_cons.1 hn).1]
      simp [St.setBox, fset_eq]
    · exact setIos_mem (ds := ds) (σ := σ.setBox i (.var d.t d.x [])) hi.2 ha.2 (List.nodup_cons.1 hn).2 hm

theorem All2.right {α β : Type} {p : α → β → Prop} : ∀ {l : List α} {m : List β} {b : β}, All2 p l m → b ∈ m → ∃ a, a ∈ l ∧ p a b
  | a :: _, _ :: _, _, h, hm => by
    rcases List.mem_cons.1 hm with rfl | hm
    · exact ⟨a, List.mem_cons_self .., h.1⟩
    · obtain ⟨x, h1, h2⟩ := All2.right h.2 hm; exact ⟨x, List.mem_cons_of_mem _ h1, h2⟩
  | [], [], _, _, hm => by cases hm
  | [], _ :: _, _, h, _ => h.elim
  | _ :: _, [], _, h, _ => h.elim

theorem All2.left {α β : Type} {p : α → β → Prop} : ∀ {l : List α} {m : List β} {a : α}, All2 p l m → a ∈ l → ∃ b, b ∈ m ∧ p a b
  | _ :: _, b :: _, _, h, hm => by
    rcases List.mem_cons.1 hm with rfl | hm
    · exact ⟨b, List.mem_cons_self .., h.1⟩
    · obtain ⟨x, h1, h2⟩ := All2.left h.2 hm; exact ⟨x, List.mem_cons_of_mem _ h1, h2⟩
  | [], _, _, _, hm => by cases hm
  | _ :: _, [], _, h, _ => h.elim

/-- What may be read lies in no block that is handed over to be written. -/
theorem Inv.okNot (hI : Inv B ok0 w0 g σ a w) {b o id : Nat} (hk : okG B ok0 g w b o) : g.bx id ≠ some (b, false) := by
  intro he
  rcases hk with hk | ⟨_, _, h3, _⟩
  · obtain ⟨h1, h2⟩ := hI.h0 b o hk
    rcases (hI.bb id b false he).1 with h | h
    · omega
    · exact h2 h.1
  · exact h3 id he

/-- Results come into the caller's state, and so does what the callee left in the variables it was handed. -/
theorem import_io (hI : Inv B ok0 w0 g σ a w) {bs ids : List Nat} {ds : List Dat} (hb : BelowX ⟨w.heap.size, bs⟩ w w') {ρ : Nat → Option (Nat × Nat)} (h1 : ∀ j b u, ρ j = some (b, u) → w.heap.size ≤ b ∧ b < w'.heap.size)
    (h2 : ∀ j k b u u', ρ j = some (b, u) → ρ k = some (b, u') → j = k) (hids : All2 (fun id b => g.bx id = some (b, false)) ids bs) (hnd : ids.Nodup) (hvar : ∀ id ∈ ids, ∃ t x gs, σ.c id = some (.var t x gs))
    (hio : IoDs (okR (okG B ok0 g w) w w' ρ) w' ds bs) (d N : Nat) :
    ∃ g', Inv B ok0 w0 g' (bumpN d 0 N (setIos ids ds σ)) a w' ∧ (∀ b o, okR (okG B ok0 g w) w w' ρ b o → okG B ok0 g' w' b o) ∧ (∀ j, j < N → g'.rw (rid d j) = ρ j) := by
  obtain ⟨st, sv, sr⟩ := setIos_same ids ds σ
  have hBw : B.n ≤ w.heap.size := by have := hI.below.size; have := hI.hB; omega
  have hsz := hb.size
  have hkeep : ∀ k, k < w.heap.size → k ∉ bs → w'.heap[k]? = w.heap[k]? := hb.block
  have hokbs : ∀ b o, okG B ok0 g w b o → b ∉ bs := fun b o hk hm => by
    obtain ⟨id, _, he⟩ := hids.right hm
    exact hI.okNot hk he
  have hin : ∀ {id b f}, g.bx id = some (b, f) → b ∈ bs → id ∈ ids := fun he hm => by
    obtain ⟨id', h3, h4⟩ := hids.right hm
    exact hI.bi _ _ _ _ _ he h4 ▸ h3
  let ρ' : Nat → Option (Nat × Nat) := fun i => if rid d 0 ≤ i ∧ i < rid d (0 + N) then ρ (i - rid d 0) else g.rw i
  have hρ' : ∀ i b u, ρ' i = some (b, u) → (ρ (i - rid d 0) = some (b, u) ∧ rid d 0 ≤ i ∧ i < rid d (0 + N)) ∨ g.rw i = some (b, u) := by
    intro i b u hi
    simp only [ρ'] at hi
    split at hi
    · rename_i hq; exact .inl ⟨hi, hq⟩
    · exact .inr hi
  have hokR : ∀ b o, okR (okG B ok0 g w) w w' ρ b o → okG B ok0 ⟨g.bx, ρ'⟩ w' b o := by
    intro b o hk
    rcases hk with hk | ⟨q1, q2, q3⟩
    · rcases hk with hk | ⟨q1, q2, q3, q4⟩
      · exact .inl hk
      · refine .inr ⟨q1, by omega, q3, fun id u he => ?_⟩
        rcases hρ' id b u he with ⟨h, _⟩ | h
        · have := (h1 _ _ _ h).1; omega
        · exact q4 id u h
    · refine .inr ⟨by omega, q2, fun id he => by have := (hI.bb id b false he).2; omega, fun id u he => ?_⟩
      rcases hρ' id b u he with ⟨h, _⟩ | h
      · exact q3 _ u h
      · have := (hI.rb id b u h).2.1; omega
  have hx : Ext (okG B ok0 g w) (okG B ok0 ⟨g.bx, ρ'⟩ w') g ⟨g.bx, ρ'⟩ σ (bumpN d 0 N (setIos ids ds σ)) w w' :=
    { cell := fun b o hk => by
        refine ⟨hokR b o (.inl hk), ?_⟩
        unfold World.cell?
        simp only [hkeep b (hI.okB hk) (hokbs b o hk)]
      box := fun id ver hv => by
        show ver ≤ (setIos ids ds σ).v id ∧ ((setIos ids ds σ).v id = ver → _)
        rw [sv]
        refine ⟨hv, fun he => ⟨he, fun b f hh => ⟨f, hh⟩, fun e l fz hc => ⟨l, fz, ?_, rfl⟩, fun hn => hn, fun b f cur T hc hbf hh => ⟨cur, ?_, rfl⟩⟩⟩
        · show (setIos ids ds σ).c id = _
          rw [setIos_not ids ds σ (fun hm => by obtain ⟨t, x, gs, h⟩ := hvar id hm; rw [h] at hc; cases hc)]
          exact hc
        · refine (hkeep b (hI.bb id b f hbf).2 fun hm => ?_).trans hh
          obtain ⟨e, l, fz, hc⟩ := hc
          obtain ⟨t, x, gs, h⟩ := hvar id (hin hbf hm)
          rw [h] at hc; cases hc
      row := fun id ver h0 hv => by
        simp only [bumpN, sr]
        split
        · exact ⟨by omega, fun he => by omega⟩
        · rename_i hq
          refine ⟨hv, fun he => ⟨he, fun b u hh => ⟨?_, hkeep b (hI.rb id b u hh).2.1 fun hm => ?_⟩⟩⟩
          · show ρ' id = _
            simp only [ρ']
            rw [if_neg hq]; exact hh
          · obtain ⟨id', _, h4⟩ := hids.right hm
            exact (hI.rb id b u hh).2.2 id' false h4 }
  refine ⟨⟨g.bx, ρ'⟩, ?_, hokR, fun j hj => ?_⟩
  · exact {
      below := hI.below.trans_io hb hBw (fun x hm => by
        obtain ⟨id, _, h4⟩ := hids.right hm
        rcases (hI.bb id x false h4).1 with h | h
        · exact .inl h
        · exact .inr h.1)
      hB := hI.hB, h0 := hI.h0, defers := hI.defers, lay := hI.lay, tm := hI.tm, nm := hI.nm
      bb := fun id b f hbf => ⟨(hI.bb id b f hbf).1, Nat.lt_of_lt_of_le (hI.bb id b f hbf).2 hsz⟩
      bi := hI.bi
      rb := fun id b u hh => by
        rcases hρ' id b u hh with ⟨h, _⟩ | h
        · obtain ⟨q1, q2⟩ := h1 _ _ _ h
          exact ⟨by omega, q2, fun id' f he => by have := (hI.bb id' b f he).2; omega⟩
        · obtain ⟨q1, q2, q3⟩ := hI.rb id b u h
          exact ⟨q1, by omega, q3⟩
      ri := fun id id' b u u' e1 e2 => by
        rcases hρ' id b u e1 with ⟨k1, k2⟩ | k1
        · rcases hρ' id' b u' e2 with ⟨k3, k4⟩ | k3
          · have := h2 _ _ _ _ _ k1 k3; omega
          · have := (h1 _ _ _ k1).1; have := (hI.rb _ _ _ k3).2.1; omega
        · rcases hρ' id' b u' e2 with ⟨k3, k4⟩ | k3
          · have := (h1 _ _ _ k3).1; have := (hI.rb _ _ _ k1).2.1; omega
          · exact hI.ri _ _ _ _ _ k1 k3
      con := fun id c hc => by
        by_cases hm : id ∈ ids
        · obtain ⟨q, b, hb', hc', cs, T, hh, hr⟩ := setIos_mem (σ := σ) hio hids hnd hm
          have hc2 : (setIos ids ds σ).c id = some c := hc
          rw [hc'] at hc2; cases hc2
          exact .inr ⟨b, false, hb', rfl, cs, T, hh, hr.mono (fun b o hk => ⟨hokR b o hk, rfl⟩), fun t ht => by cases ht⟩
        · have hc2 : (setIos ids ds σ).c id = some c := hc
          rw [setIos_not ids ds σ hm] at hc2
          rcases hI.con id c hc2 with hn | ⟨b, f, hbf, hk⟩
          · exact .inl hn
          exact .inr ⟨b, f, hbf, hk.ext hx (hkeep b (hI.bb id b f hbf).2 fun hmb => hm (hin hbf hmb))⟩
      slots := fun t => by
        show RepA _ _ _ _ ((setIos ids ds σ).t t) _
        rw [st]
        exact (hI.slots t).ext hx }
  · show ρ' (rid d j) = ρ j
    simp only [ρ']
    rw [if_pos (by simp only [rid_add]; unfold rid; omega)]
    congr 1
    unfold rid; omega

theorem retTags_ok {ρ : Nat → Option (Nat × Nat)} {cs : List Value} {d N : Nat} (hrw : ∀ j, j < N → g'.rw (rid d j) = ρ j) : ∀ (g : List Tag) (j : Nat), j + cnt g ≤ N → RetTags ρ w' cs j g →
    TagsOk g' (bumpN d 0 N σ).r w' (mapTags d σ j g) cs
  | [], j, _, _ => fun t ht => by cases ht
  | t :: r, j, hN, h => by
    intro τ hτ
    unfold RetTags at h
    unfold mapTags at hτ
    unfold cnt at hN
    split at h
    · rename_i h0
      rw [if_pos h0] at hτ hN
      rcases List.mem_cons.1 hτ with rfl | hτ
      · exact ⟨fun _ => h.1, fun hn => absurd h0 hn⟩
      · exact retTags_ok hrw r j hN h.2 τ hτ
    · rename_i h0
      rw [if_neg h0] at hτ hN
      rcases List.mem_cons.1 hτ with rfl | hτ
      · have hin : rid d 0 ≤ rid d j ∧ rid d j < rid d (0 + N) := by simp only [rid_add]; unfold rid; omega
        refine ⟨fun hz => absurd hz (rid_ne d j), fun _ => ⟨by simp only [bumpN, if_pos hin]; omega, fun _ => ?_⟩⟩
        rcases h.1 with hv | ⟨b, n, cap, cur, T, hv, hr, rest⟩
        · exact .inl hv
        · exact .inr ⟨b, n, cap, cur, T, hv, by rw [hrw j (by omega)]; exact hr, rest⟩
      · exact retTags_ok hrw r (j + 1) (by omega) h.2 τ hτ

theorem joinA_eq : ∀ l m : List AV, joinA l m = l ++ m
  | [], _ => rfl
  | a :: l, m => by unfold joinA; rw [joinA_eq l m]; rfl

theorem All2.append {α β : Type} {p : α → β → Prop} : ∀ {l l' : List α} {m m' : List β}, All2 p l m → All2 p l' m' → All2 p (l ++ l') (m ++ m')
  | [], _, [], _, _, h => h
  | _ :: _, _, _ :: _, _, h, h' => ⟨h.1, All2.append h.2 h'⟩
  | [], _, _ :: _, _, h, _ => h.elim
  | _ :: _, _, [], _, h, _ => h.elim

theorem ioFree_nodup : ∀ {ids : List Nat}, ioFree σ ids = true → ids.Nodup ∧ ∀ id ∈ ids, ∃ t x gs, σ.c id = some (.var t x gs)
  | [], _ => ⟨List.nodup_nil, fun _ h => by cases h⟩
  | id :: r, h => by
    unfold ioFree at h
    rw [Bool.and_eq_true, Bool.and_eq_true] at h
    obtain ⟨⟨h1, h2⟩, h3⟩ := h
    obtain ⟨k1, k2⟩ := ioFree_nodup h3
    refine ⟨List.nodup_cons.2 ⟨fun hm => ?_, k1⟩, fun i hi => ?_⟩
    · have := List.all_eq_true.1 h2 id hm
      simp at this
    · rcases List.mem_cons.1 hi with rfl | hi
      · split at h1
        · rename_i t x gs hc; exact ⟨t, x, gs, hc⟩
        · cases h1
      · exact k2 i hi

theorem bs_of (hI : Inv B ok0 w0 g σ a w) : ∀ {l : List AV} {vs : List Value} {ids : List Nat}, ArgsG (okG B ok0 g w) g σ w l vs ids →
    ∃ bs, ArgsOk (okG B ok0 g w) w l vs bs ∧ All2 (fun id b => g.bx id = some (b, false)) ids bs
  | [], [], _, h => by cases h; exact ⟨[], rfl, trivial⟩
  | av :: l, v :: vs, ids, ⟨r, h1, h2⟩ => by
    obtain ⟨bs, k1, k2⟩ := bs_of hI h2
    by_cases hq : ∃ t x, av = .iov t x
    · obtain ⟨t, x, rfl⟩ := hq
      obtain ⟨id, b, f, gs, rfl, hv, hb, hc⟩ := h1
      obtain ⟨rfl, cs, T, hh, hr, _⟩ := hI.conB hb hc
      exact ⟨b :: bs, ⟨bs, ⟨b, rfl, hv, cs, T, hh, hr⟩, k1⟩, hb, k2⟩
    · have e1 : ∀ i r, ArgG (okG B ok0 g w) g σ w av v i r = (RepArg (okG B ok0 g w) w av v ∧ i = r) := by
        intro i r
        unfold ArgG
        split
        · exact absurd ⟨_, _, rfl⟩ hq
        · rfl
      have e2 : ∀ i r, ArgOk (okG B ok0 g w) w av v i r = (RepArg (okG B ok0 g w) w av v ∧ i = r) := by
        intro i r
        unfold ArgOk
        split
        · exact absurd ⟨_, _, rfl⟩ hq
        · rfl
      rw [e1] at h1
      obtain ⟨h1, rfl⟩ := h1
      exact ⟨bs, ⟨bs, by rw [e2]; exact ⟨h1, rfl⟩, k1⟩, k2⟩
  | [], _ :: _, _, h => h.elim
  | _ :: _, [], _, h => h.elim

theorem bs_nodup (hI : Inv B ok0 w0 g σ a w) : ∀ {ids bs : List Nat}, All2 (fun id b => g.bx id = some (b, false)) ids bs → ids.Nodup → bs.Nodup
  | [], [], _, _ => List.nodup_nil
  | id :: ids, b :: bs, h, hn => by
    refine List.nodup_cons.2 ⟨fun hm => ?_, bs_nodup hI h.2 (List.nodup_cons.1 hn).2⟩
    obtain ⟨id', h1, h2⟩ := All2.right h.2 hm
    exact (List.nodup_cons.1 hn).1 (hI.bi _ _ _ _ _ h.1 h2 ▸ h1)
  | [], _ :: _, h, _ => h.elim
  | _ :: _, [], h, _ => h.elim

theorem ArgG.more {ok : Nat → Nat → Prop} {av : AV} {v : Value} {ids r : List Nat} (s : List Nat) (h : ArgG ok g σ w av v ids r) : ArgG ok g σ w av v (ids ++ s) (r ++ s) := by
  unfold ArgG at *
  split at h
  · obtain ⟨id, b, f, gs, h1, h2⟩ := h
    exact ⟨id, b, f, gs, by rw [h1]; rfl, h2⟩
  · exact ⟨h.1, by rw [h.2]⟩

theorem ArgsG.append {ok : Nat → Nat → Prop} : ∀ {l l' : List AV} {vs vs' : List Value} {ids ids' : List Nat}, ArgsG ok g σ w l vs ids → ArgsG ok g σ w l' vs' ids' → ArgsG ok g σ w (l ++ l') (vs ++ vs') (ids ++ ids')
  | [], _, [], _, _, _, h, h' => by cases h; exact h'
  | _ :: _, _, _ :: _, _, _, _, ⟨r, h1, h2⟩, h' => ⟨_, h1.more _, ArgsG.append h2 h'⟩
  | [], _, _ :: _, _, _, _, h, _ => h.elim
  | _ :: _, _, [], _, _, _, h, _ => h.elim

theorem argsG_caps {ok : Nat → Nat → Prop} : ∀ {ds : List Dat} {us : List Value}, All2 (fun (d : Dat) u => RepE ok w d.t d.x 0 u) ds us → ArgsG ok g σ w (capsA ds) us []
  | [], [], _ => rfl
  | _ :: _, _ :: _, h => ⟨_, ⟨h.1, rfl⟩, argsG_caps h.2⟩
  | [], _ :: _, h => h.elim
  | _ :: _, [], h => h.elim

theorem argsG_clo {ok : Nat → Nat → Prop} : ∀ {ps : List (Nat × Nat)} {us : List Value} {cs : List AV}, All2 (fun (p : Nat × Nat) u => RepP g σ p.1 p.2 0 u) ps us → cloA σ ps = some cs → ArgsG ok g σ w cs us (ps.map (·.1))
  | [], [], _, _, h => by cases h; rfl
  | (id, ver) :: ps, u :: us, cs, h, hc => by
    unfold cloA at hc
    split at hc
    · rename_i hv
      split at hc
      · rename_i t x gs hx
        split at hc
        · rename_i l hl
          cases hc
          obtain ⟨b, f, hb, hp⟩ := h.1.2 hv
          exact ⟨_, ⟨id, b, f, gs, rfl, hp, hb, hx⟩, argsG_clo h.2 hl⟩
        · cases hc
      · cases hc
    · cases hc
  | [], _ :: _, _, h, _ => h.elim
  | _ :: _, [], _, h, _ => h.elim

theorem word_rep {ok ok' : Nat → Nat → Prop} {w : World} : ∀ {t : Ty} {x : t.D} {cs : List Value}, wordT t = true → RepD ok w t x cs → RepD ok' w t x cs
  | .int _, _, _, _, h => h
  | .bool, _, _, _, h => h
  | .str, _, _, _, h => h
  | .sl _, _, _, hw, _ => by cases hw
  | .wrap a, _, _, hw, h => word_rep (t := a) hw h
  | .pair a b, _, _, hw, h => by
    unfold wordT at hw
    rw [Bool.and_eq_true] at hw
    obtain ⟨c1, c2, rfl, h1, h2⟩ := h
    exact ⟨c1, c2, rfl, word_rep hw.1 h1, word_rep hw.2 h2⟩
  | .arr m e, _, _, hw, h => ⟨h.1, h.2.1, fun i x hi => word_rep (t := e) hw (h.2.2 i x hi)⟩

theorem word_io {ok ok' : Nat → Nat → Prop} : ∀ {ds : List Dat} {bs : List Nat}, (∀ d ∈ ds, wordT d.t = true) → IoDs ok w ds bs → IoDs ok' w ds bs
  | [], [], _, _ => trivial
  | d :: ds, b :: bs, hw, ⟨⟨cs, T, h1, h2⟩, h3⟩ => ⟨⟨cs, T, h1, word_rep (hw d (List.mem_cons_self ..)) h2⟩, word_io (fun x hx => hw x (List.mem_cons_of_mem _ hx)) h3⟩
  | [], _ :: _, _, h => h.elim
  | _ :: _, [], _, h => h.elim

theorem word_ds {ok ok' : Nat → Nat → Prop} {ρ ρ' : Nat → Option (Nat × Nat)} : ∀ {ds : List Dat} {vs : List Value} {j : Nat}, (ds.all fun d => wordT d.t && d.g.isEmpty) = true → RetDs ok ρ w j ds vs → RetDs ok' ρ' w j ds vs
  | [], [], _, _, _ => trivial
  | d :: ds, v :: vs, j, hw, ⟨⟨cs, h1, h2, h3⟩, h4⟩ => by
    rw [List.all_cons, Bool.and_eq_true, Bool.and_eq_true] at hw
    obtain ⟨⟨hw1, hw2⟩, hw3⟩ := hw
    have hg : d.g = [] := List.isEmpty_iff.1 hw2
    rw [hg] at h4
    refine ⟨⟨cs, word_rep hw1 h1, h2, by rw [hg]; trivial⟩, ?_⟩
    rw [hg]
    exact word_ds hw3 h4
  | [], _ :: _, _, _, h => h.elim
  | _ :: _, [], _, _, h => h.elim

/-- Words hang on no cells. -/
theorem word_ret {ok ok' : Nat → Nat → Prop} {av : AV} {ios : List Dat} {bs : List Nat} {v : Value} (ha : wordA av = true) (hi : ∀ d ∈ ios, wordT d.t = true) (h : RepRet ok w w' av ios bs v) : RepRet ok' w w' av ios bs v := by
  obtain ⟨ρ, h1, h2, h3, h4⟩ := h
  refine ⟨ρ, h1, h2, word_io hi h3, ?_⟩
  cases av with
  | dat t x g =>
    unfold wordA at ha
    rw [Bool.and_eq_true] at ha
    have hg : g = [] := List.isEmpty_iff.1 ha.2
    subst hg
    obtain ⟨cs, k1, k2, _⟩ := h4
    exact ⟨cs, word_rep ha.1 k1, k2, trivial⟩
  | tup ds =>
    obtain ⟨vs, k1, k2⟩ := h4
    exact ⟨vs, k1, word_ds ha k2⟩
  | _ => cases ha

/-- Results put in their place. -/
theorem call_put (hI1 : Inv B ok0 w0 g σ1 a w) (hd : ∀ d, o.dst = some d → d < a.tmps.size) {ids bs : List Nat} (hids : All2 (fun id b => g.bx id = some (b, false)) ids bs) (hfree : ioFree σ1 ids = true) {av : AV} {ios : List Dat} {v : Value} {next : Act → World → Prop}
    (hn : ∀ g' a' w', Inv B ok0 w0 g' (imp o (setIos ids ios σ1) av) a' w' → a'.tmps.size = a.tmps.size → next a' w') (hb : BelowX ⟨w.heap.size, bs⟩ w w') (hret : RepRet (okG B ok0 g w) w w' av ios bs v) : next (a.put o.dst v) w' := by
  obtain ⟨hnd, hvar⟩ := ioFree_nodup hfree
  obtain ⟨ρ, h1, h2, hio, hav⟩ := hret
  unfold imp at hn
  cases hdst : o.dst with
  | none =>
    rw [hdst] at hn
    simp only at hn
    obtain ⟨g2, hI2, _, _⟩ := import_io hI1 hb h1 h2 hids hnd hvar hio 0 0
    rw [bumpN_zero] at hI2
    exact hn g2 _ _ hI2 (by simp [Act.put])
  | some d =>
    rw [hdst] at hn
    simp only at hn
    split at hav
    · rename_i t x gs
      obtain ⟨cs, hrep, hv, htg⟩ := hav
      simp only [impG_eq] at hn
      obtain ⟨g2, hI2, hok, hrw⟩ := import_io hI1 hb h1 h2 hids hnd hvar hio d (cnt gs)
      refine hn g2 _ _ (hI2.put (dst := some d) ⟨cs, hrep.mono (fun b o hk => ⟨hok b o hk, rfl⟩), hv, retTags_ok hrw gs 0 (by omega) htg⟩ (fun d' hd' => hd d' (by rw [hdst]; exact hd'))) (put_size _ _ _)
    · rename_i ds
      obtain ⟨vs, hv, hds⟩ := hav
      simp only [impD_eq] at hn
      obtain ⟨g2, hI2, hok, hrw⟩ := import_io hI1 hb h1 h2 hids hnd hvar hio d (cntD ds)
      refine hn g2 _ _ (hI2.put (dst := some d) ⟨vs, hv, ?_⟩ (fun d' hd' => hd d' (by rw [hdst]; exact hd'))) (put_size _ _ _)
      have key : ∀ (σ1 : St) (N : Nat) (hN : ∀ k, k < N → g2.rw (rid d k) = ρ k) (ds : List Dat) (vs : List Value) (j : Nat), j + cntD ds ≤ N → RetDs (okR (okG B ok0 g w) w w' ρ) ρ w' j ds vs →
          All2 (fun (q : Dat) u => RepDat (okG B ok0 g2 w') g2 (bumpN d 0 N σ1) w' q.t q.x q.g u) (mapDs d σ1 j ds) vs := by
        intro σ1 N hN ds
        induction ds with
        | nil => intro vs j _ h; cases vs with
          | nil => trivial
          | cons _ _ => exact h.elim
        | cons q ds ih =>
          intro vs j hj h
          cases vs with
          | nil => exact h.elim
          | cons v vs =>
            obtain ⟨⟨cs, h3, h4, h5⟩, h6⟩ := h
            unfold cntD at hj
            exact ⟨⟨cs, h3.mono (fun b o hk => ⟨hok b o hk, rfl⟩), h4, retTags_ok hN q.g j (by omega) h5⟩, ih vs _ (by omega) h6⟩
      exact key _ (cntD ds) hrw ds vs 0 (by omega) hds
    · exact hav.elim

/-- Boxes of variables stand where they stood before rows were handed over. -/
theorem ids_back (hI : Inv B ok0 w0 g σ a w) (hs : Still B ok0 g g' σ σ1 w) : ∀ {ids bs : List Nat}, All2 (fun id b => g'.bx id = some (b, false)) ids bs → (∀ id ∈ ids, ∃ t x gs, σ.c id = some (.var t x gs)) →
    All2 (fun id b => g.bx id = some (b, false)) ids bs
  | [], [], _, _ => trivial
  | id :: ids, b :: bs, ⟨h1, h2⟩, hv => by
    refine ⟨?_, ids_back hI hs h2 fun i hi => hv i (List.mem_cons_of_mem _ hi)⟩
    obtain ⟨t, x, gs, hc⟩ := hv id (List.mem_cons_self ..)
    obtain ⟨b0, f0, hb0, hf0, _⟩ := hI.con' hc (fun _ _ _ he => by cases he)
    obtain ⟨f', hb'⟩ := hs.bx hb0
    rw [h1] at hb'
    cases hb'
    rw [hb0, hf0]
  | [], _ :: _, h, _ => h.elim
  | _ :: _, [], h, _ => h.elim

theorem call_core (hC : CallsOk P E) (hI : Inv B ok0 w0 g σ a w) (hI1 : Inv B ok0 w0 g' σ1 a w) (hst : Still B ok0 g g' σ σ1 w) (hd : ∀ d, o.dst = some d → d < a.tmps.size) {f : Nat} {s : Spec} (hs : E.call f = some s) {l : List AV} {vs : List Value} {ids : List Nat}
    (hargs : ArgsG (okG B ok0 g' w) g' σ1 w l vs ids) (hfree : ioFree (lent (E.lend f) σ σ1) ids = true) {r : CallRes} (hr : s l = some r) (hrun : (execOp a.eval o).run P w = .ok (.enter f vs.toArray) w) :
    StepOk P B ok0 w0 (.call r.α r.m fun x => imp o (setIos ids (r.io x) (lent (E.lend f) σ σ1)) (r.enc x)) o a w := by
  intro next Q y hy hn
  obtain ⟨hcon, _, hlend⟩ := hC f s hs
  obtain ⟨bs, hbs, hids⟩ := bs_of hI1 hargs
  have hnd := (ioFree_nodup hfree).1
  have hcalls := hcon l r y hr hy (okG B ok0 g' w) w vs bs (hI1.layAt fun b hm => by obtain ⟨id, _, he⟩ := hids.right hm; rcases (hI1.bb id b false he).1 with h | h; exact .inl h; exact .inr h.1) (fun b o hk => ⟨hI1.okB hk, fun hm => by
    obtain ⟨id, _, he⟩ := hids.right hm
    exact hI1.okNot hk he⟩) (bs_nodup hI1 hids hnd) (fun b hm => by
    obtain ⟨id, _, he⟩ := hids.right hm
    exact (hI1.bb id b false he).2) hbs
  unfold Oper.wp
  rw [hrun]
  show Calls P f _ w _
  refine hcalls.mono fun e w' h => ?_
  obtain ⟨v, rfl, hb, hret⟩ := h
  simp only
  revert hfree hn
  cases hle : E.lend f with
  | false =>
    intro hfree hn
    exact call_put hI1 hd hids hfree hn hb hret
  | true =>
    intro hfree hn
    obtain ⟨hw1, hw2⟩ := hlend hle l r y hr
    exact call_put hI hd (ids_back hI hst hids (ioFree_nodup hfree).2) hfree hn hb (word_ret hw1 hw2 hret)

theorem args_eval {c : Call} (hlen : c.args.toList.length = c.argTypes.toList.length) : (c.args.toList.zip c.argTypes.toList).map (fun p => a.eval p.1) = (c.args.map a.eval).toList := by
  rw [Array.toList_map, ← List.map_fst_zip (l₁ := c.args.toList) (l₂ := c.argTypes.toList) (by omega), List.map_map, List.map_fst_zip (by omega)]
  rfl

theorem call_ok (hC : CallsOk P E) (hI : Inv B ok0 w0 g σ a w) (hd : ∀ d, o.dst = some d → d < a.tmps.size) {c : Call} (ho : o.op = .call c) {x : Operand} (hc : c.callee = .value x) {f : Nat} {ds0 : List Dat} (hf : opd σ x = .fn f ds0) {s : Spec} (hs : E.call f = some s)
    {l : List AV} (hl : args' E (c.args.toList.zip c.argTypes.toList) σ = some (l, σ1)) (hlen : c.args.toList.length = c.argTypes.toList.length) {r : CallRes} (hr : s (joinA l (capsA ds0)) = some r) (hfree : ioFree (lent (E.lend f) σ σ1) (argIds σ c.args.toList) = true) :
    StepOk P B ok0 w0 (.call r.α r.m fun x => imp o (setIos (argIds σ c.args.toList) (r.io x) (lent (E.lend f) σ σ1)) (r.enc x)) o a w := by
  rw [joinA_eq] at hr
  obtain ⟨g1, hI1, hs1, hargs⟩ := args_ok hI hl
  have hfx := opd_ok hI x
  rw [hf] at hfx
  obtain ⟨vs, hv, h2⟩ := hfx
  rw [args_eval hlen, List.map_fst_zip (by omega)] at hargs
  have := hargs.append (argsG_caps (g := g1) (σ := σ1) (w := w) (h2.imp fun d u h => h.mono fun b o hk => (hs1.ext.cell b o hk).1))
  rw [List.append_nil] at this
  refine call_core hC hI hI1 hs1 hd hs this hfree hr ?_
  unfold execOp; rw [ho]
  simp [resolve, hc, hv, Deferred.ofValue, invoke]
  rw [show c.args.map a.eval ++ vs.toArray = ((c.args.map a.eval).toList ++ vs).toArray by simp]
  simpa using (hC f s hs).2.1 ((c.args.map a.eval).toList ++ vs).toArray w

theorem clo_ok (hC : CallsOk P E) (hI : Inv B ok0 w0 g σ a w) (hd : ∀ d, o.dst = some d → d < a.tmps.size) {c : Call} (ho : o.op = .call c) {x : Operand} (hc : c.callee = .value x) {f : Nat} {ps : List (Nat × Nat)} (hf : opd σ x = .clo f ps) {s : Spec} (hs : E.call f = some s)
    {l cs : List AV} (hl : args' E (c.args.toList.zip c.argTypes.toList) σ = some (l, σ1)) (hcs : cloA σ ps = some cs) (hlen : c.args.toList.length = c.argTypes.toList.length) {r : CallRes} (hr : s (joinA l cs) = some r)
    (hfree : ioFree (lent (E.lend f) σ σ1) (argIds σ c.args.toList ++ ps.map (·.1)) = true) :
    StepOk P B ok0 w0 (.call r.α r.m fun x => imp o (setIos (argIds σ c.args.toList ++ ps.map (·.1)) (r.io x) (lent (E.lend f) σ σ1)) (r.enc x)) o a w := by
  rw [joinA_eq] at hr
  obtain ⟨g1, hI1, hs1, hargs⟩ := args_ok hI hl
  have hfx := opd_ok hI x
  rw [hf] at hfx
  obtain ⟨vs, hv, h2⟩ := hfx
  rw [args_eval hlen, List.map_fst_zip (by omega)] at hargs
  have := hargs.append ((argsG_clo (ok := okG B ok0 g w) (w := w) h2 hcs).still hs1)
  refine call_core hC hI hI1 hs1 hd hs this hfree hr ?_
  unfold execOp; rw [ho]
  simp [resolve, hc, hv, Deferred.ofValue, invoke]
  rw [show c.args.map a.eval ++ vs.toArray = ((c.args.map a.eval).toList ++ vs).toArray by simp]
  simpa using (hC f s hs).2.1 ((c.args.map a.eval).toList ++ vs).toArray w

end
end Go.AM
