import Derived.Test.YtkfffcnililmkaaDoorAmPure06
import Derived.Test.YtkfffcnililmkaaDoorSPrim
/- PRINTED by gen/ of this repo: the code comes to the pure functions. -/
namespace Go.Proofs.YtkfffcnililmkaaDoor.Am
open Go.AM Go.AM.Pure
set_option linter.unusedVariables false

/-! peristyle/cell.Check -/
@[reducible] noncomputable def E_cell_Check : Env := tab.env (AM.look []) ⟨[], [], [], ⟨[(2, true)], []⟩, [], []⟩
theorem calls_cell_Check : CallsOk Tryd.prog E_cell_Check := callsOk_of trivial
noncomputable def b_cell_Check : Code := (Tryd.f22.body).getD .skip
theorem st_cell_Check_o (m0 : Nat) (c : (Int × (Int × ByteArray))) : evC E_cell_Check (evJ E_cell_Check (drE E_cell_Check) m0) (drE E_cell_Check) b_cell_Check 0 (st0 [.val (.pair (.int .i64) (.pair (.int .i64) .str))] (c, ())) (fin E_cell_Check [.tmp 2] 0 [((.int .i64), [])]) = cell_Check.o c := by kernel_rfl
theorem st_cell_Check (m0 : Nat) (c : (Int × (Int × ByteArray))) : evC E_cell_Check (evJ E_cell_Check (drE E_cell_Check) m0) (drE E_cell_Check) b_cell_Check 0 (st0 [.val (.pair (.int .i64) (.pair (.int .i64) .str))] (c, ())) (fin E_cell_Check [.tmp 2] 0 [((.int .i64), [])]) = some (cell_Check c) := (st_cell_Check_o m0 c).trans (by unfold cell_Check.o cell_Check; simp only [cond_some])
theorem ev_cell_Check (c : (Int × (Int × ByteArray))) : evC E_cell_Check (evJ E_cell_Check (drE E_cell_Check) fu) (drE E_cell_Check) b_cell_Check 0 (st0 [.val (.pair (.int .i64) (.pair (.int .i64) .str))] (c, ())) (fin E_cell_Check [.tmp 2] 0 [((.int .i64), [])]) = some (cell_Check c) := st_cell_Check fu c
@[reducible] def sp_cell_Check   : AM.Spec := AM.spec [.val (.pair (.int .i64) (.pair (.int .i64) .str))] [((.int .i64), [])] (fun x => some (cell_Check x.1))
theorem c_cell_Check : Contract Tryd.prog 22 sp_cell_Check :=
  contract_of (Tab.envOk tabOk _ _) calls_cell_Check tabOk.mixed (fn := Tryd.f22) (c := b_cell_Check) (ts := [.tmp 2]) (by kernel_rfl) (by kernel_rfl) (by kernel_rfl) (by decide) (by kernel_rfl) (by decide) rfl fun x _ h => ⟨fu, (ev_cell_Check x.1).trans h⟩

/-! peristyle/bits.Zig -/
@[reducible] noncomputable def E_bits_Zig : Env := tab.env (AM.look []) ⟨[], [], [], ⟨[(2, true)], []⟩, [], []⟩
theorem calls_bits_Zig : CallsOk Tryd.prog E_bits_Zig := callsOk_of trivial
noncomputable def b_bits_Zig : Code := (Tryd.f39.body).getD .skip
theorem st_bits_Zig (m0 : Nat) (xn : Int) : evC E_bits_Zig (evJ E_bits_Zig (drE E_bits_Zig) m0) (drE E_bits_Zig) b_bits_Zig 0 (st0 [.val (.int .i64)] (xn, ())) (fin E_bits_Zig [.tmp 2] 0 [((.int .i64), [])]) = some (bits_Zig xn) := by kernel_rfl
theorem ev_bits_Zig (xn : Int) : evC E_bits_Zig (evJ E_bits_Zig (drE E_bits_Zig) fu) (drE E_bits_Zig) b_bits_Zig 0 (st0 [.val (.int .i64)] (xn, ())) (fin E_bits_Zig [.tmp 2] 0 [((.int .i64), [])]) = some (bits_Zig xn) := st_bits_Zig fu xn
@[reducible] def sp_bits_Zig   : AM.Spec := AM.spec [.val (.int .i64)] [((.int .i64), [])] (fun x => some (bits_Zig x.1))
theorem c_bits_Zig : Contract Tryd.prog 39 sp_bits_Zig :=
  contract_of (Tab.envOk tabOk _ _) calls_bits_Zig tabOk.mixed (fn := Tryd.f39) (c := b_bits_Zig) (ts := [.tmp 2]) (by kernel_rfl) (by kernel_rfl) (by kernel_rfl) (by decide) (by kernel_rfl) (by decide) rfl fun x _ h => ⟨fu, (ev_bits_Zig x.1).trans h⟩

/-! peristyle/vint.Put -/
@[reducible] noncomputable def E_vint_Put : Env := tab.env (AM.look [(39, sp_bits_Zig)]) ⟨[(0, ⟨[(3, true), (4, true), (5, true)], [(3, true)]⟩)], [], [(7, ⟨[(3, true), (4, true), (5, true)], [(3, true)]⟩)], ⟨[(2, true)], []⟩, [], [39]⟩
theorem calls_vint_Put : CallsOk Tryd.prog E_vint_Put := callsOk_of ⟨⟨c_bits_Zig, Tryd.call39, fun _ => words_spec rfl⟩, trivial⟩
noncomputable def b_vint_Put : Code := (Tryd.f26.body).getD .skip
noncomputable def sg_vint_Put_1 (w_5 : Int) (k_6 : Int) (out_7 : (List Int)) : St := mk [(3, .ptr 3 0 0), (4, .dat (.int .u64) w_5 []), (5, .dat (.int .i64) k_6 [])] [(3, some (.arr (.int .u8) out_7 false))]
noncomputable def sg_vint_Put_0 (w_2 : Int) (k_3 : Int) (out_4 : (List Int)) : St := mk [(3, .ptr 3 0 0), (4, .dat (.int .u64) w_2 []), (5, .dat (.int .i64) k_3 [])] [(3, some (.arr (.int .u8) out_4 false))]
noncomputable def q_vint_Put_0 (m0 : Nat) : K (ResD [(.str, [])]) := fin E_vint_Put [.tmp 2] 0 [(.str, [])]
noncomputable def cd_vint_Put_1 : Code := (rgt (rgt (rgt (rgt b_vint_Put))))
theorem st_vint_Put_j1 (m0 : Nat) (n : Nat) (w_5 : Int) (k_6 : Int) (out_7 : (List Int)) : evJ E_vint_Put (drE E_vint_Put) (n + 1) (.tail cd_vint_Put_1) 0 (sg_vint_Put_1 w_5 k_6 out_7) (q_vint_Put_0 m0) = vint_Put.S1 w_5 k_6 out_7 := by kernel_rfl
theorem J_vint_Put_1 (m0 : Nat) : ∀ (n : Nat) (w_5 : Int) (k_6 : Int) (out_7 : (List Int)), evJ E_vint_Put (drE E_vint_Put) n (.tail cd_vint_Put_1) 0 (sg_vint_Put_1 w_5 k_6 out_7) (q_vint_Put_0 m0) = vint_Put.t1 n w_5 k_6 out_7 := by
  intro n
  induction n with
  | zero => intros; rfl
  | succ n ih =>
    intro w_5 k_6 out_7
    have e1 : (fun w_5 k_6 out_7 => evJ E_vint_Put (drE E_vint_Put) n (.tail cd_vint_Put_1) 0 (sg_vint_Put_1 w_5 k_6 out_7) (q_vint_Put_0 m0)) = (vint_Put.t1 n) := by funext w_5 k_6 out_7; exact ih w_5 k_6 out_7
    refine (st_vint_Put_j1 m0 n w_5 k_6 out_7).trans ?_
    rfl
noncomputable def q_vint_Put_1 (m0 : Nat) : K (ResD [(.str, [])]) := seqK E_vint_Put (evJ E_vint_Put (drE E_vint_Put) m0) cd_vint_Put_1 0 (evC E_vint_Put (evJ E_vint_Put (drE E_vint_Put) m0) (drE E_vint_Put) cd_vint_Put_1 0) (q_vint_Put_0 m0)
noncomputable def q_vint_Put_2 (m0 : Nat) : K (ResD [(.str, [])]) := blockK 0 (q_vint_Put_1 m0)
noncomputable def cd_vint_Put_2 : Code := (lft (lft (lft (rgt (rgt (rgt b_vint_Put))))))
theorem st_vint_Put_j0 (m0 : Nat) (n : Nat) (w_2 : Int) (k_3 : Int) (out_4 : (List Int)) : evJ E_vint_Put (drE E_vint_Put) (n + 1) (.loop cd_vint_Put_2) 0 (sg_vint_Put_0 w_2 k_3 out_4) (q_vint_Put_2 m0) = vint_Put.S0 (fun w_5 k_6 out_7 => evJ E_vint_Put (drE E_vint_Put) m0 (.tail cd_vint_Put_1) 0 (sg_vint_Put_1 w_5 k_6 out_7) (q_vint_Put_0 m0)) (fun w_2 k_3 out_4 => evJ E_vint_Put (drE E_vint_Put) n (.loop cd_vint_Put_2) 0 (sg_vint_Put_0 w_2 k_3 out_4) (q_vint_Put_2 m0)) w_2 k_3 out_4 := by kernel_rfl
theorem J_vint_Put_0 (m0 : Nat) : ∀ (n : Nat) (w_2 : Int) (k_3 : Int) (out_4 : (List Int)), evJ E_vint_Put (drE E_vint_Put) n (.loop cd_vint_Put_2) 0 (sg_vint_Put_0 w_2 k_3 out_4) (q_vint_Put_2 m0) = vint_Put.l0 (fun w_5 k_6 out_7 => evJ E_vint_Put (drE E_vint_Put) m0 (.tail cd_vint_Put_1) 0 (sg_vint_Put_1 w_5 k_6 out_7) (q_vint_Put_0 m0)) n w_2 k_3 out_4 := by
  intro n
  induction n with
  | zero => intros; rfl
  | succ n ih =>
    intro w_2 k_3 out_4
    have e0 : (fun w_2 k_3 out_4 => evJ E_vint_Put (drE E_vint_Put) n (.loop cd_vint_Put_2) 0 (sg_vint_Put_0 w_2 k_3 out_4) (q_vint_Put_2 m0)) = (vint_Put.l0 (fun w_5 k_6 out_7 => evJ E_vint_Put (drE E_vint_Put) m0 (.tail cd_vint_Put_1) 0 (sg_vint_Put_1 w_5 k_6 out_7) (q_vint_Put_0 m0)) n) := by funext w_2 k_3 out_4; exact ih w_2 k_3 out_4
    refine (st_vint_Put_j0 m0 n w_2 k_3 out_4).trans ?_
    rw [e0]; rfl
theorem st_vint_Put (m0 : Nat) (xn : Int) : evC E_vint_Put (evJ E_vint_Put (drE E_vint_Put) m0) (drE E_vint_Put) b_vint_Put 0 (st0 [.val (.int .i64)] (xn, ())) (fin E_vint_Put [.tmp 2] 0 [(.str, [])]) = vint_Put.S (fun w_2 k_3 out_4 => evJ E_vint_Put (drE E_vint_Put) m0 (.loop cd_vint_Put_2) 0 (sg_vint_Put_0 w_2 k_3 out_4) (q_vint_Put_2 m0)) xn := by kernel_rfl
theorem ev_vint_Put (xn : Int) : evC E_vint_Put (evJ E_vint_Put (drE E_vint_Put) fu) (drE E_vint_Put) b_vint_Put 0 (st0 [.val (.int .i64)] (xn, ())) (fin E_vint_Put [.tmp 2] 0 [(.str, [])]) = vint_Put xn := by
  have e1 : (fun w_5 k_6 out_7 => evJ E_vint_Put (drE E_vint_Put) fu (.tail cd_vint_Put_1) 0 (sg_vint_Put_1 w_5 k_6 out_7) (q_vint_Put_0 fu)) = (vint_Put.t1 fu) := by funext w_5 k_6 out_7; exact J_vint_Put_1 fu fu w_5 k_6 out_7
  have e0 : (fun w_2 k_3 out_4 => evJ E_vint_Put (drE E_vint_Put) fu (.loop cd_vint_Put_2) 0 (sg_vint_Put_0 w_2 k_3 out_4) (q_vint_Put_2 fu)) = (vint_Put.l0 (vint_Put.t1 fu) fu) := by rw [← e1]; funext w_2 k_3 out_4; exact J_vint_Put_0 fu fu w_2 k_3 out_4
  refine (st_vint_Put fu xn).trans ?_
  rw [e0]; rfl
@[reducible] def sp_vint_Put   : AM.Spec := AM.spec [.val (.int .i64)] [(.str, [])] (fun x => vint_Put x.1)
theorem c_vint_Put : Contract Tryd.prog 26 sp_vint_Put :=
  contract_of (Tab.envOk tabOk _ _) calls_vint_Put tabOk.mixed (fn := Tryd.f26) (c := b_vint_Put) (ts := [.tmp 2]) (by kernel_rfl) (by kernel_rfl) (by kernel_rfl) (by decide) (by kernel_rfl) (by decide) rfl fun x _ h => ⟨fu, (ev_vint_Put x.1).trans h⟩

/-! peristyle/cell.Put -/
@[reducible] noncomputable def E_cell_Put : Env := tab.env (AM.look [(22, sp_cell_Check), (26, sp_vint_Put)]) ⟨[(0, ⟨[(4, true), (14, true), (15, true), (16, true)], []⟩)], [], [], ⟨[(2, true), (3, true)], []⟩, [], [22, 26]⟩
theorem calls_cell_Put : CallsOk Tryd.prog E_cell_Put := callsOk_of ⟨⟨c_cell_Check, Tryd.call22, fun _ => words_spec rfl⟩, ⟨⟨c_vint_Put, Tryd.call26, fun _ => words_spec rfl⟩, trivial⟩⟩
noncomputable def b_cell_Put : Code := (Tryd.f10.body).getD .skip
noncomputable def sg_cell_Put_0 (b_1 : (List Int)) (t14_2 : (List (Int × (Int × ByteArray)))) (t15_3 : Int) (t16_4 : Int) : St := mk [(4, .dat (.sl (.int .u8)) b_1 [⟨0, 257, 0, 0⟩]), (14, .dat (.sl (.pair (.int .i64) (.pair (.int .i64) .str))) t14_2 []), (15, .dat (.int .i64) t15_3 []), (16, .dat (.int .i64) t16_4 [])] []
noncomputable def q_cell_Put_0 (m0 : Nat) : K (ResD [(.str, []), ((.int .i64), [])]) := fin E_cell_Put [.tmp 2, .tmp 3] 0 [(.str, []), ((.int .i64), [])]
noncomputable def cd_cell_Put_1 : Code := (rgt (rgt (rgt (rgt b_cell_Put))))
noncomputable def q_cell_Put_1 (m0 : Nat) : K (ResD [(.str, []), ((.int .i64), [])]) := seqK E_cell_Put (evJ E_cell_Put (drE E_cell_Put) m0) cd_cell_Put_1 0 (evC E_cell_Put (evJ E_cell_Put (drE E_cell_Put) m0) (drE E_cell_Put) cd_cell_Put_1 0) (q_cell_Put_0 m0)
noncomputable def q_cell_Put_2 (m0 : Nat) : K (ResD [(.str, []), ((.int .i64), [])]) := blockK 0 (q_cell_Put_1 m0)
noncomputable def cd_cell_Put_2 : Code := (lft (lft (rgt (lft (rgt (rgt (rgt b_cell_Put)))))))
theorem st_cell_Put_j0 (m0 : Nat) (n : Nat) (b_1 : (List Int)) (t14_2 : (List (Int × (Int × ByteArray)))) (t15_3 : Int) (t16_4 : Int) : evJ E_cell_Put (drE E_cell_Put) (n + 1) (.loop cd_cell_Put_2) 0 (sg_cell_Put_0 b_1 t14_2 t15_3 t16_4) (q_cell_Put_2 m0) = cell_Put.S0 (fun b_1 t14_2 t15_3 t16_4 => evJ E_cell_Put (drE E_cell_Put) n (.loop cd_cell_Put_2) 0 (sg_cell_Put_0 b_1 t14_2 t15_3 t16_4) (q_cell_Put_2 m0)) b_1 t14_2 t15_3 t16_4 := by kernel_rfl
theorem J_cell_Put_0 (m0 : Nat) : ∀ (n : Nat) (b_1 : (List Int)) (t14_2 : (List (Int × (Int × ByteArray)))) (t15_3 : Int) (t16_4 : Int), evJ E_cell_Put (drE E_cell_Put) n (.loop cd_cell_Put_2) 0 (sg_cell_Put_0 b_1 t14_2 t15_3 t16_4) (q_cell_Put_2 m0) = cell_Put.l0 n b_1 t14_2 t15_3 t16_4 := by
  intro n
  induction n with
  | zero => intros; rfl
  | succ n ih =>
    intro b_1 t14_2 t15_3 t16_4
    have e0 : (fun b_1 t14_2 t15_3 t16_4 => evJ E_cell_Put (drE E_cell_Put) n (.loop cd_cell_Put_2) 0 (sg_cell_Put_0 b_1 t14_2 t15_3 t16_4) (q_cell_Put_2 m0)) = (cell_Put.l0 n) := by funext b_1 t14_2 t15_3 t16_4; exact ih b_1 t14_2 t15_3 t16_4
    refine (st_cell_Put_j0 m0 n b_1 t14_2 t15_3 t16_4).trans ?_
    rw [e0]; rfl
theorem st_cell_Put (m0 : Nat) (r : (List (Int × (Int × ByteArray)))) : evC E_cell_Put (evJ E_cell_Put (drE E_cell_Put) m0) (drE E_cell_Put) b_cell_Put 0 (st0 [.val (.sl (.pair (.int .i64) (.pair (.int .i64) .str)))] (r, ())) (fin E_cell_Put [.tmp 2, .tmp 3] 0 [(.str, []), ((.int .i64), [])]) = cell_Put.S (fun b_1 t14_2 t15_3 t16_4 => evJ E_cell_Put (drE E_cell_Put) m0 (.loop cd_cell_Put_2) 0 (sg_cell_Put_0 b_1 t14_2 t15_3 t16_4) (q_cell_Put_2 m0)) r := by kernel_rfl
theorem ev_cell_Put (r : (List (Int × (Int × ByteArray)))) : evC E_cell_Put (evJ E_cell_Put (drE E_cell_Put) fu) (drE E_cell_Put) b_cell_Put 0 (st0 [.val (.sl (.pair (.int .i64) (.pair (.int .i64) .str)))] (r, ())) (fin E_cell_Put [.tmp 2, .tmp 3] 0 [(.str, []), ((.int .i64), [])]) = cell_Put r := by
  have e0 : (fun b_1 t14_2 t15_3 t16_4 => evJ E_cell_Put (drE E_cell_Put) fu (.loop cd_cell_Put_2) 0 (sg_cell_Put_0 b_1 t14_2 t15_3 t16_4) (q_cell_Put_2 fu)) = (cell_Put.l0 fu) := by funext b_1 t14_2 t15_3 t16_4; exact J_cell_Put_0 fu fu b_1 t14_2 t15_3 t16_4
  refine (st_cell_Put fu r).trans ?_
  rw [e0]; rfl
@[reducible] def sp_cell_Put   : AM.Spec := AM.spec [.val (.sl (.pair (.int .i64) (.pair (.int .i64) .str)))] [(.str, []), ((.int .i64), [])] (fun x => cell_Put x.1)
theorem c_cell_Put : Contract Tryd.prog 10 sp_cell_Put :=
  contract_of (Tab.envOk tabOk _ _) calls_cell_Put tabOk.mixed (fn := Tryd.f10) (c := b_cell_Put) (ts := [.tmp 2, .tmp 3]) (by kernel_rfl) (by kernel_rfl) (by kernel_rfl) (by decide) (by kernel_rfl) (by decide) rfl fun x _ h => ⟨fu, (ev_cell_Put x.1).trans h⟩

/-! peristyle/bits.Zag -/
@[reducible] noncomputable def E_bits_Zag : Env := tab.env (AM.look []) ⟨[], [], [], ⟨[(2, true)], []⟩, [], []⟩
theorem calls_bits_Zag : CallsOk Tryd.prog E_bits_Zag := callsOk_of trivial
noncomputable def b_bits_Zag : Code := (Tryd.f52.body).getD .skip
theorem st_bits_Zag (m0 : Nat) (word : Int) : evC E_bits_Zag (evJ E_bits_Zag (drE E_bits_Zag) m0) (drE E_bits_Zag) b_bits_Zag 0 (st0 [.val (.int .i64)] (word, ())) (fin E_bits_Zag [.tmp 2] 0 [((.int .i64), [])]) = some (bits_Zag word) := by kernel_rfl
theorem ev_bits_Zag (word : Int) : evC E_bits_Zag (evJ E_bits_Zag (drE E_bits_Zag) fu) (drE E_bits_Zag) b_bits_Zag 0 (st0 [.val (.int .i64)] (word, ())) (fin E_bits_Zag [.tmp 2] 0 [((.int .i64), [])]) = some (bits_Zag word) := st_bits_Zag fu word
@[reducible] def sp_bits_Zag   : AM.Spec := AM.spec [.val (.int .i64)] [((.int .i64), [])] (fun x => some (bits_Zag x.1))
theorem c_bits_Zag : Contract Tryd.prog 52 sp_bits_Zag :=
  contract_of (Tab.envOk tabOk _ _) calls_bits_Zag tabOk.mixed (fn := Tryd.f52) (c := b_bits_Zag) (ts := [.tmp 2]) (by kernel_rfl) (by kernel_rfl) (by kernel_rfl) (by decide) (by kernel_rfl) (by decide) rfl fun x _ h => ⟨fu, (ev_bits_Zag x.1).trans h⟩

/-! peristyle/bits.Width -/
@[reducible] noncomputable def E_bits_Width : Env := tab.env (AM.look []) ⟨[(0, ⟨[(3, true), (4, true), (5, true)], []⟩)], [], [], ⟨[(2, true)], []⟩, [], []⟩
theorem calls_bits_Width : CallsOk Tryd.prog E_bits_Width := callsOk_of trivial
noncomputable def b_bits_Width : Code := (Tryd.f72.body).getD .skip
noncomputable def sg_bits_Width_0 (w_1 : Int) (n_2 : Int) (step_3 : Int) : St := mk [(3, .dat (.int .u64) w_1 []), (4, .dat (.int .i64) n_2 []), (5, .dat (.int .i64) step_3 [])] []
noncomputable def q_bits_Width_0 (m0 : Nat) : K (ResD [((.int .i64), [])]) := fin E_bits_Width [.tmp 2] 0 [((.int .i64), [])]
noncomputable def cd_bits_Width_1 : Code := (rgt (rgt (rgt b_bits_Width)))
noncomputable def q_bits_Width_1 (m0 : Nat) : K (ResD [((.int .i64), [])]) := seqK E_bits_Width (evJ E_bits_Width (drE E_bits_Width) m0) cd_bits_Width_1 0 (evC E_bits_Width (evJ E_bits_Width (drE E_bits_Width) m0) (drE E_bits_Width) cd_bits_Width_1 0) (q_bits_Width_0 m0)
noncomputable def q_bits_Width_2 (m0 : Nat) : K (ResD [((.int .i64), [])]) := blockK 0 (q_bits_Width_1 m0)
noncomputable def cd_bits_Width_2 : Code := (lft (lft (rgt (lft (rgt (rgt b_bits_Width))))))
theorem st_bits_Width_j0 (m0 : Nat) (n : Nat) (w_1 : Int) (n_2 : Int) (step_3 : Int) : evJ E_bits_Width (drE E_bits_Width) (n + 1) (.loop cd_bits_Width_2) 0 (sg_bits_Width_0 w_1 n_2 step_3) (q_bits_Width_2 m0) = bits_Width.S0 (fun w_1 n_2 step_3 => evJ E_bits_Width (drE E_bits_Width) n (.loop cd_bits_Width_2) 0 (sg_bits_Width_0 w_1 n_2 step_3) (q_bits_Width_2 m0)) w_1 n_2 step_3 := by kernel_rfl
theorem J_bits_Width_0 (m0 : Nat) : ∀ (n : Nat) (w_1 : Int) (n_2 : Int) (step_3 : Int), evJ E_bits_Width (drE E_bits_Width) n (.loop cd_bits_Width_2) 0 (sg_bits_Width_0 w_1 n_2 step_3) (q_bits_Width_2 m0) = bits_Width.l0 n w_1 n_2 step_3 := by
  intro n
  induction n with
  | zero => intros; rfl
  | succ n ih =>
    intro w_1 n_2 step_3
    have e0 : (fun w_1 n_2 step_3 => evJ E_bits_Width (drE E_bits_Width) n (.loop cd_bits_Width_2) 0 (sg_bits_Width_0 w_1 n_2 step_3) (q_bits_Width_2 m0)) = (bits_Width.l0 n) := by funext w_1 n_2 step_3; exact ih w_1 n_2 step_3
    refine (st_bits_Width_j0 m0 n w_1 n_2 step_3).trans ?_
    rw [e0]; rfl
theorem st_bits_Width (m0 : Nat) (word : Int) : evC E_bits_Width (evJ E_bits_Width (drE E_bits_Width) m0) (drE E_bits_Width) b_bits_Width 0 (st0 [.val (.int .i64)] (word, ())) (fin E_bits_Width [.tmp 2] 0 [((.int .i64), [])]) = bits_Width.S (fun w_1 n_2 step_3 => evJ E_bits_Width (drE E_bits_Width) m0 (.loop cd_bits_Width_2) 0 (sg_bits_Width_0 w_1 n_2 step_3) (q_bits_Width_2 m0)) word := by kernel_rfl
theorem ev_bits_Width (word : Int) : evC E_bits_Width (evJ E_bits_Width (drE E_bits_Width) fu) (drE E_bits_Width) b_bits_Width 0 (st0 [.val (.int .i64)] (word, ())) (fin E_bits_Width [.tmp 2] 0 [((.int .i64), [])]) = bits_Width word := by
  have e0 : (fun w_1 n_2 step_3 => evJ E_bits_Width (drE E_bits_Width) fu (.loop cd_bits_Width_2) 0 (sg_bits_Width_0 w_1 n_2 step_3) (q_bits_Width_2 fu)) = (bits_Width.l0 fu) := by funext w_1 n_2 step_3; exact J_bits_Width_0 fu fu w_1 n_2 step_3
  refine (st_bits_Width fu word).trans ?_
  rw [e0]; rfl
@[reducible] def sp_bits_Width   : AM.Spec := AM.spec [.val (.int .i64)] [((.int .i64), [])] (fun x => bits_Width x.1)
theorem c_bits_Width : Contract Tryd.prog 72 sp_bits_Width :=
  contract_of (Tab.envOk tabOk _ _) calls_bits_Width tabOk.mixed (fn := Tryd.f72) (c := b_bits_Width) (ts := [.tmp 2]) (by kernel_rfl) (by kernel_rfl) (by kernel_rfl) (by decide) (by kernel_rfl) (by decide) rfl fun x _ h => ⟨fu, (ev_bits_Width x.1).trans h⟩

/-! peristyle/vint.Len -/
@[reducible] noncomputable def E_vint_Len : Env := tab.env (AM.look [(39, sp_bits_Zig), (72, sp_bits_Width)]) ⟨[], [], [], ⟨[(2, true)], []⟩, [], [39, 72]⟩
theorem calls_vint_Len : CallsOk Tryd.prog E_vint_Len := callsOk_of ⟨⟨c_bits_Zig, Tryd.call39, fun _ => words_spec rfl⟩, ⟨⟨c_bits_Width, Tryd.call72, fun _ => words_spec rfl⟩, trivial⟩⟩
noncomputable def b_vint_Len : Code := (Tryd.f53.body).getD .skip
theorem st_vint_Len (m0 : Nat) (xn : Int) : evC E_vint_Len (evJ E_vint_Len (drE E_vint_Len) m0) (drE E_vint_Len) b_vint_Len 0 (st0 [.val (.int .i64)] (xn, ())) (fin E_vint_Len [.tmp 2] 0 [((.int .i64), [])]) = vint_Len xn := by kernel_rfl
theorem ev_vint_Len (xn : Int) : evC E_vint_Len (evJ E_vint_Len (drE E_vint_Len) fu) (drE E_vint_Len) b_vint_Len 0 (st0 [.val (.int .i64)] (xn, ())) (fin E_vint_Len [.tmp 2] 0 [((.int .i64), [])]) = vint_Len xn := st_vint_Len fu xn
@[reducible] def sp_vint_Len   : AM.Spec := AM.spec [.val (.int .i64)] [((.int .i64), [])] (fun x => vint_Len x.1)
theorem c_vint_Len : Contract Tryd.prog 53 sp_vint_Len :=
  contract_of (Tab.envOk tabOk _ _) calls_vint_Len tabOk.mixed (fn := Tryd.f53) (c := b_vint_Len) (ts := [.tmp 2]) (by kernel_rfl) (by kernel_rfl) (by kernel_rfl) (by decide) (by kernel_rfl) (by decide) rfl fun x _ h => ⟨fu, (ev_vint_Len x.1).trans h⟩

/-! peristyle/vint.Take -/
@[reducible] noncomputable def E_vint_Take : Env := tab.env (AM.look [(52, sp_bits_Zag), (53, sp_vint_Len)]) ⟨[(0, ⟨[(0, true), (5, true), (11, true), (12, true)], []⟩)], [], [], ⟨[(2, true), (3, true), (4, true)], []⟩, [], [52, 53]⟩
theorem calls_vint_Take : CallsOk Tryd.prog E_vint_Take := callsOk_of ⟨⟨c_bits_Zag, Tryd.call52, fun _ => words_spec rfl⟩, ⟨⟨c_vint_Len, Tryd.call53, fun _ => words_spec rfl⟩, trivial⟩⟩
noncomputable def b_vint_Take : Code := (Tryd.f41.body).getD .skip
noncomputable def sg_vint_Take_0 (s_1 : ByteArray) (w_2 : Int) (t11_3 : Int) (t12_4 : Int) : St := mk [(0, .dat .str s_1 []), (5, .dat (.int .u64) w_2 []), (11, .dat (.int .i64) t11_3 []), (12, .dat (.int .i64) t12_4 [])] []
noncomputable def q_vint_Take_0 (m0 : Nat) : K (ResD [((.int .i64), []), ((.int .i64), []), ((.int .i64), [])]) := fin E_vint_Take [.tmp 2, .tmp 3, .tmp 4] 0 [((.int .i64), []), ((.int .i64), []), ((.int .i64), [])]
noncomputable def cd_vint_Take_1 : Code := (rgt (rgt (rgt b_vint_Take)))
noncomputable def q_vint_Take_1 (m0 : Nat) : K (ResD [((.int .i64), []), ((.int .i64), []), ((.int .i64), [])]) := seqK E_vint_Take (evJ E_vint_Take (drE E_vint_Take) m0) cd_vint_Take_1 0 (evC E_vint_Take (evJ E_vint_Take (drE E_vint_Take) m0) (drE E_vint_Take) cd_vint_Take_1 0) (q_vint_Take_0 m0)
noncomputable def q_vint_Take_2 (m0 : Nat) : K (ResD [((.int .i64), []), ((.int .i64), []), ((.int .i64), [])]) := blockK 0 (q_vint_Take_1 m0)
noncomputable def cd_vint_Take_2 : Code := (lft (lft (rgt (lft (rgt (rgt b_vint_Take))))))
theorem st_vint_Take_j0 (m0 : Nat) (n : Nat) (s_1 : ByteArray) (w_2 : Int) (t11_3 : Int) (t12_4 : Int) : evJ E_vint_Take (drE E_vint_Take) (n + 1) (.loop cd_vint_Take_2) 0 (sg_vint_Take_0 s_1 w_2 t11_3 t12_4) (q_vint_Take_2 m0) = vint_Take.S0 (fun s_1 w_2 t11_3 t12_4 => evJ E_vint_Take (drE E_vint_Take) n (.loop cd_vint_Take_2) 0 (sg_vint_Take_0 s_1 w_2 t11_3 t12_4) (q_vint_Take_2 m0)) s_1 w_2 t11_3 t12_4 := by kernel_rfl
theorem J_vint_Take_0 (m0 : Nat) : ∀ (n : Nat) (s_1 : ByteArray) (w_2 : Int) (t11_3 : Int) (t12_4 : Int), evJ E_vint_Take (drE E_vint_Take) n (.loop cd_vint_Take_2) 0 (sg_vint_Take_0 s_1 w_2 t11_3 t12_4) (q_vint_Take_2 m0) = vint_Take.l0 n s_1 w_2 t11_3 t12_4 := by
  intro n
  induction n with
  | zero => intros; rfl
  | succ n ih =>
    intro s_1 w_2 t11_3 t12_4
    have e0 : (fun s_1 w_2 t11_3 t12_4 => evJ E_vint_Take (drE E_vint_Take) n (.loop cd_vint_Take_2) 0 (sg_vint_Take_0 s_1 w_2 t11_3 t12_4) (q_vint_Take_2 m0)) = (vint_Take.l0 n) := by funext s_1 w_2 t11_3 t12_4; exact ih s_1 w_2 t11_3 t12_4
    refine (st_vint_Take_j0 m0 n s_1 w_2 t11_3 t12_4).trans ?_
    rw [e0]; rfl
theorem st_vint_Take (m0 : Nat) (s : ByteArray) : evC E_vint_Take (evJ E_vint_Take (drE E_vint_Take) m0) (drE E_vint_Take) b_vint_Take 0 (st0 [.val .str] (s, ())) (fin E_vint_Take [.tmp 2, .tmp 3, .tmp 4] 0 [((.int .i64), []), ((.int .i64), []), ((.int .i64), [])]) = vint_Take.S (fun s_1 w_2 t11_3 t12_4 => evJ E_vint_Take (drE E_vint_Take) m0 (.loop cd_vint_Take_2) 0 (sg_vint_Take_0 s_1 w_2 t11_3 t12_4) (q_vint_Take_2 m0)) s := by kernel_rfl
theorem ev_vint_Take (s : ByteArray) : evC E_vint_Take (evJ E_vint_Take (drE E_vint_Take) fu) (drE E_vint_Take) b_vint_Take 0 (st0 [.val .str] (s, ())) (fin E_vint_Take [.tmp 2, .tmp 3, .tmp 4] 0 [((.int .i64), []), ((.int .i64), []), ((.int .i64), [])]) = vint_Take s := by
  have e0 : (fun s_1 w_2 t11_3 t12_4 => evJ E_vint_Take (drE E_vint_Take) fu (.loop cd_vint_Take_2) 0 (sg_vint_Take_0 s_1 w_2 t11_3 t12_4) (q_vint_Take_2 fu)) = (vint_Take.l0 fu) := by funext s_1 w_2 t11_3 t12_4; exact J_vint_Take_0 fu fu s_1 w_2 t11_3 t12_4
  refine (st_vint_Take fu s).trans ?_
  rw [e0]; rfl
@[reducible] def sp_vint_Take   : AM.Spec := AM.spec [.val .str] [((.int .i64), []), ((.int .i64), []), ((.int .i64), [])] (fun x => vint_Take x.1)
theorem c_vint_Take : Contract Tryd.prog 41 sp_vint_Take :=
  contract_of (Tab.envOk tabOk _ _) calls_vint_Take tabOk.mixed (fn := Tryd.f41) (c := b_vint_Take) (ts := [.tmp 2, .tmp 3, .tmp 4]) (by kernel_rfl) (by kernel_rfl) (by kernel_rfl) (by decide) (by kernel_rfl) (by decide) rfl fun x _ h => ⟨fu, (ev_vint_Take x.1).trans h⟩

/-! peristyle/cell.one -/
@[reducible] noncomputable def E_cell_one : Env := tab.env (AM.look [(41, sp_vint_Take)]) ⟨[], [], [], ⟨[(2, true), (3, true)], [(2, true)]⟩, [], [41]⟩
theorem calls_cell_one : CallsOk Tryd.prog E_cell_one := callsOk_of ⟨⟨c_vint_Take, Tryd.call41, fun _ => words_spec rfl⟩, trivial⟩
noncomputable def b_cell_one : Code := (Tryd.f28.body).getD .skip
theorem st_cell_one (m0 : Nat) (s : ByteArray) : evC E_cell_one (evJ E_cell_one (drE E_cell_one) m0) (drE E_cell_one) b_cell_one 0 (st0 [.val .str] (s, ())) (fin E_cell_one [.cell 2 23, .tmp 3] 0 [((.pair (.int .i64) (.pair (.int .i64) .str)), []), ((.int .i64), [])]) = cell_one s := by kernel_rfl
theorem ev_cell_one (s : ByteArray) : evC E_cell_one (evJ E_cell_one (drE E_cell_one) fu) (drE E_cell_one) b_cell_one 0 (st0 [.val .str] (s, ())) (fin E_cell_one [.cell 2 23, .tmp 3] 0 [((.pair (.int .i64) (.pair (.int .i64) .str)), []), ((.int .i64), [])]) = cell_one s := st_cell_one fu s
@[reducible] def sp_cell_one   : AM.Spec := AM.spec [.val .str] [((.pair (.int .i64) (.pair (.int .i64) .str)), []), ((.int .i64), [])] (fun x => cell_one x.1)
theorem c_cell_one : Contract Tryd.prog 28 sp_cell_one :=
  contract_of (Tab.envOk tabOk _ _) calls_cell_one tabOk.mixed (fn := Tryd.f28) (c := b_cell_one) (ts := [.cell 2 23, .tmp 3]) (by kernel_rfl) (by kernel_rfl) (by kernel_rfl) (by decide) (by kernel_rfl) (by decide) rfl fun x _ h => ⟨fu, (ev_cell_one x.1).trans h⟩

/-! peristyle/cell.Take -/
@[reducible] noncomputable def E_cell_Take : Env := tab.env (AM.look [(28, sp_cell_one)]) ⟨[(0, ⟨[(0, true), (5, true), (6, true), (13, true), (14, true)], []⟩)], [], [], ⟨[(2, true), (3, true), (4, true)], []⟩, [], [28]⟩
theorem calls_cell_Take : CallsOk Tryd.prog E_cell_Take := callsOk_of ⟨⟨c_cell_one, Tryd.call28, fun _ => words_spec rfl⟩, trivial⟩
noncomputable def b_cell_Take : Code := (Tryd.f12.body).getD .skip
noncomputable def sg_cell_Take_0 (s_1 : ByteArray) (out_2 : (List (Int × (Int × ByteArray)))) (k_3 : Int) (t13_4 : Int) (t14_5 : Int) : St := mk [(0, .dat .str s_1 []), (5, .dat (.sl (.pair (.int .i64) (.pair (.int .i64) .str))) out_2 [⟨0, 321, 0, 3⟩]), (6, .dat (.int .i64) k_3 []), (13, .dat (.int .i64) t13_4 []), (14, .dat (.int .i64) t14_5 [])] []
noncomputable def q_cell_Take_0 (m0 : Nat) : K (ResD [((.sl (.pair (.int .i64) (.pair (.int .i64) .str))), [⟨0, 1, 0, 3⟩]), ((.int .i64), []), ((.int .i64), [])]) := fin E_cell_Take [.tmp 2, .tmp 3, .tmp 4] 0 [((.sl (.pair (.int .i64) (.pair (.int .i64) .str))), [⟨0, 1, 0, 3⟩]), ((.int .i64), []), ((.int .i64), [])]
noncomputable def cd_cell_Take_1 : Code := (rgt (rgt (rgt (rgt (rgt b_cell_Take)))))
noncomputable def q_cell_Take_1 (m0 : Nat) : K (ResD [((.sl (.pair (.int .i64) (.pair (.int .i64) .str))), [⟨0, 1, 0, 3⟩]), ((.int .i64), []), ((.int .i64), [])]) := seqK E_cell_Take (evJ E_cell_Take (drE E_cell_Take) m0) cd_cell_Take_1 0 (evC E_cell_Take (evJ E_cell_Take (drE E_cell_Take) m0) (drE E_cell_Take) cd_cell_Take_1 0) (q_cell_Take_0 m0)
noncomputable def q_cell_Take_2 (m0 : Nat) : K (ResD [((.sl (.pair (.int .i64) (.pair (.int .i64) .str))), [⟨0, 1, 0, 3⟩]), ((.int .i64), []), ((.int .i64), [])]) := blockK 0 (q_cell_Take_1 m0)
noncomputable def cd_cell_Take_2 : Code := (lft (lft (rgt (lft (rgt (rgt (rgt (rgt b_cell_Take))))))))
theorem st_cell_Take_j0 (m0 : Nat) (n : Nat) (s_1 : ByteArray) (out_2 : (List (Int × (Int × ByteArray)))) (k_3 : Int) (t13_4 : Int) (t14_5 : Int) : evJ E_cell_Take (drE E_cell_Take) (n + 1) (.loop cd_cell_Take_2) 0 (sg_cell_Take_0 s_1 out_2 k_3 t13_4 t14_5) (q_cell_Take_2 m0) = cell_Take.S0 (fun s_1 out_2 k_3 t13_4 t14_5 => evJ E_cell_Take (drE E_cell_Take) n (.loop cd_cell_Take_2) 0 (sg_cell_Take_0 s_1 out_2 k_3 t13_4 t14_5) (q_cell_Take_2 m0)) s_1 out_2 k_3 t13_4 t14_5 := by kernel_rfl
theorem J_cell_Take_0 (m0 : Nat) : ∀ (n : Nat) (s_1 : ByteArray) (out_2 : (List (Int × (Int × ByteArray)))) (k_3 : Int) (t13_4 : Int) (t14_5 : Int), evJ E_cell_Take (drE E_cell_Take) n (.loop cd_cell_Take_2) 0 (sg_cell_Take_0 s_1 out_2 k_3 t13_4 t14_5) (q_cell_Take_2 m0) = cell_Take.l0 n s_1 out_2 k_3 t13_4 t14_5 := by
  intro n
  induction n with
  | zero => intros; rfl
  | succ n ih =>
    intro s_1 out_2 k_3 t13_4 t14_5
    have e0 : (fun s_1 out_2 k_3 t13_4 t14_5 => evJ E_cell_Take (drE E_cell_Take) n (.loop cd_cell_Take_2) 0 (sg_cell_Take_0 s_1 out_2 k_3 t13_4 t14_5) (q_cell_Take_2 m0)) = (cell_Take.l0 n) := by funext s_1 out_2 k_3 t13_4 t14_5; exact ih s_1 out_2 k_3 t13_4 t14_5
    refine (st_cell_Take_j0 m0 n s_1 out_2 k_3 t13_4 t14_5).trans ?_
    rw [e0]; rfl
theorem st_cell_Take (m0 : Nat) (s : ByteArray) : evC E_cell_Take (evJ E_cell_Take (drE E_cell_Take) m0) (drE E_cell_Take) b_cell_Take 0 (st0 [.val .str] (s, ())) (fin E_cell_Take [.tmp 2, .tmp 3, .tmp 4] 0 [((.sl (.pair (.int .i64) (.pair (.int .i64) .str))), [⟨0, 1, 0, 3⟩]), ((.int .i64), []), ((.int .i64), [])]) = cell_Take.S (fun s_1 out_2 k_3 t13_4 t14_5 => evJ E_cell_Take (drE E_cell_Take) m0 (.loop cd_cell_Take_2) 0 (sg_cell_Take_0 s_1 out_2 k_3 t13_4 t14_5) (q_cell_Take_2 m0)) s := by kernel_rfl
theorem ev_cell_Take (s : ByteArray) : evC E_cell_Take (evJ E_cell_Take (drE E_cell_Take) fu) (drE E_cell_Take) b_cell_Take 0 (st0 [.val .str] (s, ())) (fin E_cell_Take [.tmp 2, .tmp 3, .tmp 4] 0 [((.sl (.pair (.int .i64) (.pair (.int .i64) .str))), [⟨0, 1, 0, 3⟩]), ((.int .i64), []), ((.int .i64), [])]) = cell_Take s := by
  have e0 : (fun s_1 out_2 k_3 t13_4 t14_5 => evJ E_cell_Take (drE E_cell_Take) fu (.loop cd_cell_Take_2) 0 (sg_cell_Take_0 s_1 out_2 k_3 t13_4 t14_5) (q_cell_Take_2 fu)) = (cell_Take.l0 fu) := by funext s_1 out_2 k_3 t13_4 t14_5; exact J_cell_Take_0 fu fu s_1 out_2 k_3 t13_4 t14_5
  refine (st_cell_Take fu s).trans ?_
  rw [e0]; rfl
@[reducible] def sp_cell_Take   : AM.Spec := AM.spec [.val .str] [((.sl (.pair (.int .i64) (.pair (.int .i64) .str))), [⟨0, 1, 0, 3⟩]), ((.int .i64), []), ((.int .i64), [])] (fun x => cell_Take x.1)
theorem c_cell_Take : Contract Tryd.prog 12 sp_cell_Take :=
  contract_of (Tab.envOk tabOk _ _) calls_cell_Take tabOk.mixed (fn := Tryd.f12) (c := b_cell_Take) (ts := [.tmp 2, .tmp 3, .tmp 4]) (by kernel_rfl) (by kernel_rfl) (by kernel_rfl) (by decide) (by kernel_rfl) (by decide) rfl fun x _ h => ⟨fu, (ev_cell_Take x.1).trans h⟩

/-! internal/stringslite.HasPrefix -/
@[reducible] noncomputable def E_istringslite_HasPrefix : Env := tab.env (AM.look []) ⟨[], [], [], ⟨[(4, true)], []⟩, [], []⟩
theorem calls_istringslite_HasPrefix : CallsOk Tryd.prog E_istringslite_HasPrefix := callsOk_of trivial
noncomputable def b_istringslite_HasPrefix : Code := (Tryd.f56.body).getD .skip
theorem st_istringslite_HasPrefix (m0 : Nat) (s : ByteArray) (xprefix : ByteArray) : evC E_istringslite_HasPrefix (evJ E_istringslite_HasPrefix (drE E_istringslite_HasPrefix) m0) (drE E_istringslite_HasPrefix) b_istringslite_HasPrefix 0 (st0 [.val .str, .val .str] (s, xprefix, ())) (fin E_istringslite_HasPrefix [.tmp 4] 0 [(.bool, [])]) = istringslite_HasPrefix s xprefix := by kernel_rfl
theorem ev_istringslite_HasPrefix (s : ByteArray) (xprefix : ByteArray) : evC E_istringslite_HasPrefix (evJ E_istringslite_HasPrefix (drE E_istringslite_HasPrefix) fu) (drE E_istringslite_HasPrefix) b_istringslite_HasPrefix 0 (st0 [.val .str, .val .str] (s, xprefix, ())) (fin E_istringslite_HasPrefix [.tmp 4] 0 [(.bool, [])]) = istringslite_HasPrefix s xprefix := st_istringslite_HasPrefix fu s xprefix
@[reducible] def sp_istringslite_HasPrefix   : AM.Spec := AM.spec [.val .str, .val .str] [(.bool, [])] (fun x => istringslite_HasPrefix x.1 x.2.1)
theorem c_istringslite_HasPrefix : Contract Tryd.prog 56 sp_istringslite_HasPrefix :=
  contract_of (Tab.envOk tabOk _ _) calls_istringslite_HasPrefix tabOk.mixed (fn := Tryd.f56) (c := b_istringslite_HasPrefix) (ts := [.tmp 4]) (by kernel_rfl) (by kernel_rfl) (by kernel_rfl) (by decide) (by kernel_rfl) (by decide) rfl fun x _ h => ⟨fu, (ev_istringslite_HasPrefix x.1 x.2.1).trans h⟩

/-! internal/stringslite.CutPrefix -/
@[reducible] noncomputable def E_istringslite_CutPrefix : Env := tab.env (AM.look [(56, sp_istringslite_HasPrefix)]) ⟨[], [], [], ⟨[(4, true), (5, true)], []⟩, [], [56]⟩
theorem calls_istringslite_CutPrefix : CallsOk Tryd.prog E_istringslite_CutPrefix := callsOk_of ⟨⟨c_istringslite_HasPrefix, Tryd.call56, fun _ => words_spec rfl⟩, trivial⟩
noncomputable def b_istringslite_CutPrefix : Code := (Tryd.f43.body).getD .skip
theorem st_istringslite_CutPrefix (m0 : Nat) (s : ByteArray) (xprefix : ByteArray) : evC E_istringslite_CutPrefix (evJ E_istringslite_CutPrefix (drE E_istringslite_CutPrefix) m0) (drE E_istringslite_CutPrefix) b_istringslite_CutPrefix 0 (st0 [.val .str, .val .str] (s, xprefix, ())) (fin E_istringslite_CutPrefix [.tmp 4, .tmp 5] 0 [(.str, []), (.bool, [])]) = istringslite_CutPrefix s xprefix := by kernel_rfl
theorem ev_istringslite_CutPrefix (s : ByteArray) (xprefix : ByteArray) : evC E_istringslite_CutPrefix (evJ E_istringslite_CutPrefix (drE E_istringslite_CutPrefix) fu) (drE E_istringslite_CutPrefix) b_istringslite_CutPrefix 0 (st0 [.val .str, .val .str] (s, xprefix, ())) (fin E_istringslite_CutPrefix [.tmp 4, .tmp 5] 0 [(.str, []), (.bool, [])]) = istringslite_CutPrefix s xprefix := st_istringslite_CutPrefix fu s xprefix
@[reducible] def sp_istringslite_CutPrefix   : AM.Spec := AM.spec [.val .str, .val .str] [(.str, []), (.bool, [])] (fun x => istringslite_CutPrefix x.1 x.2.1)
theorem c_istringslite_CutPrefix : Contract Tryd.prog 43 sp_istringslite_CutPrefix :=
  contract_of (Tab.envOk tabOk _ _) calls_istringslite_CutPrefix tabOk.mixed (fn := Tryd.f43) (c := b_istringslite_CutPrefix) (ts := [.tmp 4, .tmp 5]) (by kernel_rfl) (by kernel_rfl) (by kernel_rfl) (by decide) (by kernel_rfl) (by decide) rfl fun x _ h => ⟨fu, (ev_istringslite_CutPrefix x.1 x.2.1).trans h⟩

/-! strings.CutPrefix -/
@[reducible] noncomputable def E_strings_CutPrefix : Env := tab.env (AM.look [(43, sp_istringslite_CutPrefix)]) ⟨[], [], [], ⟨[(4, true), (5, true)], []⟩, [], [43]⟩
theorem calls_strings_CutPrefix : CallsOk Tryd.prog E_strings_CutPrefix := callsOk_of ⟨⟨c_istringslite_CutPrefix, Tryd.call43, fun _ => words_spec rfl⟩, trivial⟩
noncomputable def b_strings_CutPrefix : Code := (Tryd.f30.body).getD .skip
theorem st_strings_CutPrefix (m0 : Nat) (s : ByteArray) (xprefix : ByteArray) : evC E_strings_CutPrefix (evJ E_strings_CutPrefix (drE E_strings_CutPrefix) m0) (drE E_strings_CutPrefix) b_strings_CutPrefix 0 (st0 [.val .str, .val .str] (s, xprefix, ())) (fin E_strings_CutPrefix [.tmp 4, .tmp 5] 0 [(.str, []), (.bool, [])]) = strings_CutPrefix s xprefix := by kernel_rfl
theorem ev_strings_CutPrefix (s : ByteArray) (xprefix : ByteArray) : evC E_strings_CutPrefix (evJ E_strings_CutPrefix (drE E_strings_CutPrefix) fu) (drE E_strings_CutPrefix) b_strings_CutPrefix 0 (st0 [.val .str, .val .str] (s, xprefix, ())) (fin E_strings_CutPrefix [.tmp 4, .tmp 5] 0 [(.str, []), (.bool, [])]) = strings_CutPrefix s xprefix := st_strings_CutPrefix fu s xprefix
@[reducible] def sp_strings_CutPrefix   : AM.Spec := AM.spec [.val .str, .val .str] [(.str, []), (.bool, [])] (fun x => strings_CutPrefix x.1 x.2.1)
theorem c_strings_CutPrefix : Contract Tryd.prog 30 sp_strings_CutPrefix :=
  contract_of (Tab.envOk tabOk _ _) calls_strings_CutPrefix tabOk.mixed (fn := Tryd.f30) (c := b_strings_CutPrefix) (ts := [.tmp 4, .tmp 5]) (by kernel_rfl) (by kernel_rfl) (by kernel_rfl) (by decide) (by kernel_rfl) (by decide) rfl fun x _ h => ⟨fu, (ev_strings_CutPrefix x.1 x.2.1).trans h⟩

/-! internal/stringslite.HasSuffix -/
@[reducible] noncomputable def E_istringslite_HasSuffix : Env := tab.env (AM.look []) ⟨[], [], [], ⟨[(4, true)], []⟩, [], []⟩
theorem calls_istringslite_HasSuffix : CallsOk Tryd.prog E_istringslite_HasSuffix := callsOk_of trivial
noncomputable def b_istringslite_HasSuffix : Code := (Tryd.f57.body).getD .skip
theorem st_istringslite_HasSuffix (m0 : Nat) (s : ByteArray) (suffix : ByteArray) : evC E_istringslite_HasSuffix (evJ E_istringslite_HasSuffix (drE E_istringslite_HasSuffix) m0) (drE E_istringslite_HasSuffix) b_istringslite_HasSuffix 0 (st0 [.val .str, .val .str] (s, suffix, ())) (fin E_istringslite_HasSuffix [.tmp 4] 0 [(.bool, [])]) = istringslite_HasSuffix s suffix := by kernel_rfl
theorem ev_istringslite_HasSuffix (s : ByteArray) (suffix : ByteArray) : evC E_istringslite_HasSuffix (evJ E_istringslite_HasSuffix (drE E_istringslite_HasSuffix) fu) (drE E_istringslite_HasSuffix) b_istringslite_HasSuffix 0 (st0 [.val .str, .val .str] (s, suffix, ())) (fin E_istringslite_HasSuffix [.tmp 4] 0 [(.bool, [])]) = istringslite_HasSuffix s suffix := st_istringslite_HasSuffix fu s suffix
@[reducible] def sp_istringslite_HasSuffix   : AM.Spec := AM.spec [.val .str, .val .str] [(.bool, [])] (fun x => istringslite_HasSuffix x.1 x.2.1)
theorem c_istringslite_HasSuffix : Contract Tryd.prog 57 sp_istringslite_HasSuffix :=
  contract_of (Tab.envOk tabOk _ _) calls_istringslite_HasSuffix tabOk.mixed (fn := Tryd.f57) (c := b_istringslite_HasSuffix) (ts := [.tmp 4]) (by kernel_rfl) (by kernel_rfl) (by kernel_rfl) (by decide) (by kernel_rfl) (by decide) rfl fun x _ h => ⟨fu, (ev_istringslite_HasSuffix x.1 x.2.1).trans h⟩

/-! internal/stringslite.CutSuffix -/
@[reducible] noncomputable def E_istringslite_CutSuffix : Env := tab.env (AM.look [(57, sp_istringslite_HasSuffix)]) ⟨[], [], [], ⟨[(4, true), (5, true)], []⟩, [], [57]⟩
theorem calls_istringslite_CutSuffix : CallsOk Tryd.prog E_istringslite_CutSuffix := callsOk_of ⟨⟨c_istringslite_HasSuffix, Tryd.call57, fun _ => words_spec rfl⟩, trivial⟩
noncomputable def b_istringslite_CutSuffix : Code := (Tryd.f44.body).getD .skip
theorem st_istringslite_CutSuffix (m0 : Nat) (s : ByteArray) (suffix : ByteArray) : evC E_istringslite_CutSuffix (evJ E_istringslite_CutSuffix (drE E_istringslite_CutSuffix) m0) (drE E_istringslite_CutSuffix) b_istringslite_CutSuffix 0 (st0 [.val .str, .val .str] (s, suffix, ())) (fin E_istringslite_CutSuffix [.tmp 4, .tmp 5] 0 [(.str, []), (.bool, [])]) = istringslite_CutSuffix s suffix := by kernel_rfl
theorem ev_istringslite_CutSuffix (s : ByteArray) (suffix : ByteArray) : evC E_istringslite_CutSuffix (evJ E_istringslite_CutSuffix (drE E_istringslite_CutSuffix) fu) (drE E_istringslite_CutSuffix) b_istringslite_CutSuffix 0 (st0 [.val .str, .val .str] (s, suffix, ())) (fin E_istringslite_CutSuffix [.tmp 4, .tmp 5] 0 [(.str, []), (.bool, [])]) = istringslite_CutSuffix s suffix := st_istringslite_CutSuffix fu s suffix
@[reducible] def sp_istringslite_CutSuffix   : AM.Spec := AM.spec [.val .str, .val .str] [(.str, []), (.bool, [])] (fun x => istringslite_CutSuffix x.1 x.2.1)
theorem c_istringslite_CutSuffix : Contract Tryd.prog 44 sp_istringslite_CutSuffix :=
  contract_of (Tab.envOk tabOk _ _) calls_istringslite_CutSuffix tabOk.mixed (fn := Tryd.f44) (c := b_istringslite_CutSuffix) (ts := [.tmp 4, .tmp 5]) (by kernel_rfl) (by kernel_rfl) (by kernel_rfl) (by decide) (by kernel_rfl) (by decide) rfl fun x _ h => ⟨fu, (ev_istringslite_CutSuffix x.1 x.2.1).trans h⟩

/-! strings.CutSuffix -/
@[reducible] noncomputable def E_strings_CutSuffix : Env := tab.env (AM.look [(44, sp_istringslite_CutSuffix)]) ⟨[], [], [], ⟨[(4, true), (5, true)], []⟩, [], [44]⟩
theorem calls_strings_CutSuffix : CallsOk Tryd.prog E_strings_CutSuffix := callsOk_of ⟨⟨c_istringslite_CutSuffix, Tryd.call44, fun _ => words_spec rfl⟩, trivial⟩
noncomputable def b_strings_CutSuffix : Code := (Tryd.f31.body).getD .skip
theorem st_strings_CutSuffix (m0 : Nat) (s : ByteArray) (suffix : ByteArray) : evC E_strings_CutSuffix (evJ E_strings_CutSuffix (drE E_strings_CutSuffix) m0) (drE E_strings_CutSuffix) b_strings_CutSuffix 0 (st0 [.val .str, .val .str] (s, suffix, ())) (fin E_strings_CutSuffix [.tmp 4, .tmp 5] 0 [(.str, []), (.bool, [])]) = strings_CutSuffix s suffix := by kernel_rfl
theorem ev_strings_CutSuffix (s : ByteArray) (suffix : ByteArray) : evC E_strings_CutSuffix (evJ E_strings_CutSuffix (drE E_strings_CutSuffix) fu) (drE E_strings_CutSuffix) b_strings_CutSuffix 0 (st0 [.val .str, .val .str] (s, suffix, ())) (fin E_strings_CutSuffix [.tmp 4, .tmp 5] 0 [(.str, []), (.bool, [])]) = strings_CutSuffix s suffix := st_strings_CutSuffix fu s suffix
@[reducible] def sp_strings_CutSuffix   : AM.Spec := AM.spec [.val .str, .val .str] [(.str, []), (.bool, [])] (fun x => strings_CutSuffix x.1 x.2.1)
theorem c_strings_CutSuffix : Contract Tryd.prog 31 sp_strings_CutSuffix :=
  contract_of (Tab.envOk tabOk _ _) calls_strings_CutSuffix tabOk.mixed (fn := Tryd.f31) (c := b_strings_CutSuffix) (ts := [.tmp 4, .tmp 5]) (by kernel_rfl) (by kernel_rfl) (by kernel_rfl) (by decide) (by kernel_rfl) (by decide) rfl fun x _ h => ⟨fu, (ev_strings_CutSuffix x.1 x.2.1).trans h⟩

/-! peristyle/cell.Show -/
@[reducible] noncomputable def E_cell_Show : Env := tab.env (AM.look [(35, sp_strconv_Itoa), (32, sp_strings_ReplaceAll)]) ⟨[], [], [], ⟨[(2, true)], []⟩, [], [32, 35]⟩
theorem calls_cell_Show : CallsOk Tryd.prog E_cell_Show := callsOk_of ⟨⟨c_strconv_Itoa, Tryd.call35, fun _ => words_spec rfl⟩, ⟨⟨c_strings_ReplaceAll, Tryd.call32, fun _ => words_spec rfl⟩, trivial⟩⟩
noncomputable def b_cell_Show : Code := (Tryd.f17.body).getD .skip
theorem st_cell_Show (m0 : Nat) (c : (Int × (Int × ByteArray))) : evC E_cell_Show (evJ E_cell_Show (drE E_cell_Show) m0) (drE E_cell_Show) b_cell_Show 0 (st0 [.val (.pair (.int .i64) (.pair (.int .i64) .str))] (c, ())) (fin E_cell_Show [.tmp 2] 0 [(.str, [])]) = cell_Show c := by kernel_rfl
theorem ev_cell_Show (c : (Int × (Int × ByteArray))) : evC E_cell_Show (evJ E_cell_Show (drE E_cell_Show) fu) (drE E_cell_Show) b_cell_Show 0 (st0 [.val (.pair (.int .i64) (.pair (.int .i64) .str))] (c, ())) (fin E_cell_Show [.tmp 2] 0 [(.str, [])]) = cell_Show c := st_cell_Show fu c
@[reducible] def sp_cell_Show   : AM.Spec := AM.spec [.val (.pair (.int .i64) (.pair (.int .i64) .str))] [(.str, [])] (fun x => cell_Show x.1)
theorem c_cell_Show : Contract Tryd.prog 17 sp_cell_Show :=
  contract_of (Tab.envOk tabOk _ _) calls_cell_Show tabOk.mixed (fn := Tryd.f17) (c := b_cell_Show) (ts := [.tmp 2]) (by kernel_rfl) (by kernel_rfl) (by kernel_rfl) (by decide) (by kernel_rfl) (by decide) rfl fun x _ h => ⟨fu, (ev_cell_Show x.1).trans h⟩

/-! peristyle/cell.Read -/
@[reducible] noncomputable def E_cell_Read : Env := tab.env (AM.look [(30, sp_strings_CutPrefix), (31, sp_strings_CutSuffix), (32, sp_strings_ReplaceAll), (22, sp_cell_Check), (17, sp_cell_Show), (33, sp_strconv_Atoi)]) ⟨[], [], [(11, ⟨[(0, true), (2, true), (4, true)], [(2, true), (4, true)]⟩)], ⟨[(2, true), (3, true)], [(2, true)]⟩, [], [17, 22, 30, 31, 32, 33]⟩
theorem calls_cell_Read : CallsOk Tryd.prog E_cell_Read := callsOk_of ⟨⟨c_strings_CutPrefix, Tryd.call30, fun _ => words_spec rfl⟩, ⟨⟨c_strings_CutSuffix, Tryd.call31, fun _ => words_spec rfl⟩, ⟨⟨c_strings_ReplaceAll, Tryd.call32, fun _ => words_spec rfl⟩, ⟨⟨c_cell_Check, Tryd.call22, fun _ => words_spec rfl⟩, ⟨⟨c_cell_Show, Tryd.call17, fun _ => words_spec rfl⟩, ⟨⟨c_strconv_Atoi, Tryd.call33, fun _ => words_spec rfl⟩, trivial⟩⟩⟩⟩⟩⟩
noncomputable def b_cell_Read : Code := (Tryd.f15.body).getD .skip
noncomputable def sg_cell_Read_0 (s_4 : ByteArray) (t2_5 : (Int × (Int × ByteArray))) (c_6 : (Int × (Int × ByteArray))) : St := mk [(0, .dat .str s_4 []), (2, .ptr 2 0 0), (4, .ptr 4 0 0)] [(2, some (.var (.pair (.int .i64) (.pair (.int .i64) .str)) t2_5 [])), (4, some (.var (.pair (.int .i64) (.pair (.int .i64) .str)) c_6 []))]
noncomputable def q_cell_Read_0 (m0 : Nat) : K (ResD [((.pair (.int .i64) (.pair (.int .i64) .str)), []), ((.int .i64), [])]) := fin E_cell_Read [.cell 2 23, .tmp 3] 0 [((.pair (.int .i64) (.pair (.int .i64) .str)), []), ((.int .i64), [])]
noncomputable def cd_cell_Read_1 : Code := (rgt (rgt (rgt b_cell_Read)))
theorem st_cell_Read_j0 (m0 : Nat) (n : Nat) (s_4 : ByteArray) (t2_5 : (Int × (Int × ByteArray))) (c_6 : (Int × (Int × ByteArray))) : evJ E_cell_Read (drE E_cell_Read) (n + 1) (.tail cd_cell_Read_1) 0 (sg_cell_Read_0 s_4 t2_5 c_6) (q_cell_Read_0 m0) = cell_Read.S0 s_4 t2_5 c_6 := by kernel_rfl
theorem J_cell_Read_0 (m0 : Nat) : ∀ (n : Nat) (s_4 : ByteArray) (t2_5 : (Int × (Int × ByteArray))) (c_6 : (Int × (Int × ByteArray))), evJ E_cell_Read (drE E_cell_Read) n (.tail cd_cell_Read_1) 0 (sg_cell_Read_0 s_4 t2_5 c_6) (q_cell_Read_0 m0) = cell_Read.t0 n s_4 t2_5 c_6 := by
  intro n
  induction n with
  | zero => intros; rfl
  | succ n ih =>
    intro s_4 t2_5 c_6
    have e0 : (fun s_4 t2_5 c_6 => evJ E_cell_Read (drE E_cell_Read) n (.tail cd_cell_Read_1) 0 (sg_cell_Read_0 s_4 t2_5 c_6) (q_cell_Read_0 m0)) = (cell_Read.t0 n) := by funext s_4 t2_5 c_6; exact ih s_4 t2_5 c_6
    refine (st_cell_Read_j0 m0 n s_4 t2_5 c_6).trans ?_
    rfl
theorem st_cell_Read (m0 : Nat) (s : ByteArray) : evC E_cell_Read (evJ E_cell_Read (drE E_cell_Read) m0) (drE E_cell_Read) b_cell_Read 0 (st0 [.val .str] (s, ())) (fin E_cell_Read [.cell 2 23, .tmp 3] 0 [((.pair (.int .i64) (.pair (.int .i64) .str)), []), ((.int .i64), [])]) = cell_Read.S (fun s_4 t2_5 c_6 => evJ E_cell_Read (drE E_cell_Read) m0 (.tail cd_cell_Read_1) 0 (sg_cell_Read_0 s_4 t2_5 c_6) (q_cell_Read_0 m0)) s := by kernel_rfl
theorem ev_cell_Read (s : ByteArray) : evC E_cell_Read (evJ E_cell_Read (drE E_cell_Read) fu) (drE E_cell_Read) b_cell_Read 0 (st0 [.val .str] (s, ())) (fin E_cell_Read [.cell 2 23, .tmp 3] 0 [((.pair (.int .i64) (.pair (.int .i64) .str)), []), ((.int .i64), [])]) = cell_Read s := by
  have e0 : (fun s_4 t2_5 c_6 => evJ E_cell_Read (drE E_cell_Read) fu (.tail cd_cell_Read_1) 0 (sg_cell_Read_0 s_4 t2_5 c_6) (q_cell_Read_0 fu)) = (cell_Read.t0 fu) := by funext s_4 t2_5 c_6; exact J_cell_Read_0 fu fu s_4 t2_5 c_6
  refine (st_cell_Read fu s).trans ?_
  rw [e0]; rfl
@[reducible] def sp_cell_Read   : AM.Spec := AM.spec [.val .str] [((.pair (.int .i64) (.pair (.int .i64) .str)), []), ((.int .i64), [])] (fun x => cell_Read x.1)
theorem c_cell_Read : Contract Tryd.prog 15 sp_cell_Read :=
  contract_of (Tab.envOk tabOk _ _) calls_cell_Read tabOk.mixed (fn := Tryd.f15) (c := b_cell_Read) (ts := [.cell 2 23, .tmp 3]) (by kernel_rfl) (by kernel_rfl) (by kernel_rfl) (by decide) (by kernel_rfl) (by decide) rfl fun x _ h => ⟨fu, (ev_cell_Read x.1).trans h⟩

/-! peristyle/peristyleref06.Same -/
@[reducible] noncomputable def E_ref06_Same : Env := tab.env (AM.look []) ⟨[(0, ⟨[(0, true), (1, true), (5, true)], []⟩)], [], [], ⟨[(4, true)], []⟩, [], []⟩
theorem calls_ref06_Same : CallsOk Tryd.prog E_ref06_Same := callsOk_of trivial
noncomputable def b_ref06_Same : Code := (Tryd.f14.body).getD .skip
noncomputable def sg_ref06_Same_0 (a_1 : (List (Int × (Int × ByteArray)))) (b_2 : (List (Int × (Int × ByteArray)))) (i_3 : Int) : St := mk [(0, .dat (.sl (.pair (.int .i64) (.pair (.int .i64) .str))) a_1 []), (1, .dat (.sl (.pair (.int .i64) (.pair (.int .i64) .str))) b_2 []), (5, .dat (.int .i64) i_3 [])] []
noncomputable def q_ref06_Same_0 (m0 : Nat) : K (ResD [(.bool, [])]) := fin E_ref06_Same [.tmp 4] 0 [(.bool, [])]
noncomputable def cd_ref06_Same_1 : Code := (rgt (rgt (rgt b_ref06_Same)))
noncomputable def q_ref06_Same_1 (m0 : Nat) : K (ResD [(.bool, [])]) := seqK E_ref06_Same (evJ E_ref06_Same (drE E_ref06_Same) m0) cd_ref06_Same_1 0 (evC E_ref06_Same (evJ E_ref06_Same (drE E_ref06_Same) m0) (drE E_ref06_Same) cd_ref06_Same_1 0) (q_ref06_Same_0 m0)
noncomputable def q_ref06_Same_2 (m0 : Nat) : K (ResD [(.bool, [])]) := blockK 0 (q_ref06_Same_1 m0)
noncomputable def cd_ref06_Same_2 : Code := (lft (lft (rgt (lft (rgt (rgt b_ref06_Same))))))
theorem st_ref06_Same_j0 (m0 : Nat) (n : Nat) (a_1 : (List (Int × (Int × ByteArray)))) (b_2 : (List (Int × (Int × ByteArray)))) (i_3 : Int) : evJ E_ref06_Same (drE E_ref06_Same) (n + 1) (.loop cd_ref06_Same_2) 0 (sg_ref06_Same_0 a_1 b_2 i_3) (q_ref06_Same_2 m0) = ref06_Same.S0 (fun a_1 b_2 i_3 => evJ E_ref06_Same (drE E_ref06_Same) n (.loop cd_ref06_Same_2) 0 (sg_ref06_Same_0 a_1 b_2 i_3) (q_ref06_Same_2 m0)) a_1 b_2 i_3 := by kernel_rfl
theorem J_ref06_Same_0 (m0 : Nat) : ∀ (n : Nat) (a_1 : (List (Int × (Int × ByteArray)))) (b_2 : (List (Int × (Int × ByteArray)))) (i_3 : Int), evJ E_ref06_Same (drE E_ref06_Same) n (.loop cd_ref06_Same_2) 0 (sg_ref06_Same_0 a_1 b_2 i_3) (q_ref06_Same_2 m0) = ref06_Same.l0 n a_1 b_2 i_3 := by
  intro n
  induction n with
  | zero => intros; rfl
  | succ n ih =>
    intro a_1 b_2 i_3
    have e0 : (fun a_1 b_2 i_3 => evJ E_ref06_Same (drE E_ref06_Same) n (.loop cd_ref06_Same_2) 0 (sg_ref06_Same_0 a_1 b_2 i_3) (q_ref06_Same_2 m0)) = (ref06_Same.l0 n) := by funext a_1 b_2 i_3; exact ih a_1 b_2 i_3
    refine (st_ref06_Same_j0 m0 n a_1 b_2 i_3).trans ?_
    rw [e0]; rfl
theorem st_ref06_Same (m0 : Nat) (a : (List (Int × (Int × ByteArray)))) (b : (List (Int × (Int × ByteArray)))) : evC E_ref06_Same (evJ E_ref06_Same (drE E_ref06_Same) m0) (drE E_ref06_Same) b_ref06_Same 0 (st0 [.val (.sl (.pair (.int .i64) (.pair (.int .i64) .str))), .val (.sl (.pair (.int .i64) (.pair (.int .i64) .str)))] (a, b, ())) (fin E_ref06_Same [.tmp 4] 0 [(.bool, [])]) = ref06_Same.S (fun a_1 b_2 i_3 => evJ E_ref06_Same (drE E_ref06_Same) m0 (.loop cd_ref06_Same_2) 0 (sg_ref06_Same_0 a_1 b_2 i_3) (q_ref06_Same_2 m0)) a b := by kernel_rfl
theorem ev_ref06_Same (a : (List (Int × (Int × ByteArray)))) (b : (List (Int × (Int × ByteArray)))) : evC E_ref06_Same (evJ E_ref06_Same (drE E_ref06_Same) fu) (drE E_ref06_Same) b_ref06_Same 0 (st0 [.val (.sl (.pair (.int .i64) (.pair (.int .i64) .str))), .val (.sl (.pair (.int .i64) (.pair (.int .i64) .str)))] (a, b, ())) (fin E_ref06_Same [.tmp 4] 0 [(.bool, [])]) = ref06_Same a b := by
  have e0 : (fun a_1 b_2 i_3 => evJ E_ref06_Same (drE E_ref06_Same) fu (.loop cd_ref06_Same_2) 0 (sg_ref06_Same_0 a_1 b_2 i_3) (q_ref06_Same_2 fu)) = (ref06_Same.l0 fu) := by funext a_1 b_2 i_3; exact J_ref06_Same_0 fu fu a_1 b_2 i_3
  refine (st_ref06_Same fu a b).trans ?_
  rw [e0]; rfl
@[reducible] def sp_ref06_Same   : AM.Spec := AM.spec [.val (.sl (.pair (.int .i64) (.pair (.int .i64) .str))), .val (.sl (.pair (.int .i64) (.pair (.int .i64) .str)))] [(.bool, [])] (fun x => ref06_Same x.1 x.2.1)
theorem c_ref06_Same : Contract Tryd.prog 14 sp_ref06_Same :=
  contract_of (Tab.envOk tabOk _ _) calls_ref06_Same tabOk.mixed (fn := Tryd.f14) (c := b_ref06_Same) (ts := [.tmp 4]) (by kernel_rfl) (by kernel_rfl) (by kernel_rfl) (by decide) (by kernel_rfl) (by decide) rfl fun x _ h => ⟨fu, (ev_ref06_Same x.1 x.2.1).trans h⟩

/-! cmp.isNaN[int] -/
@[reducible] noncomputable def E_cmp_isNaN_int : Env := tab.env (AM.look []) ⟨[], [], [], ⟨[(2, true)], []⟩, [], []⟩
theorem calls_cmp_isNaN_int : CallsOk Tryd.prog E_cmp_isNaN_int := callsOk_of trivial
noncomputable def b_cmp_isNaN_int : Code := (Tryd.f37.body).getD .skip
theorem st_cmp_isNaN_int (m0 : Nat) (x : Int) : evC E_cmp_isNaN_int (evJ E_cmp_isNaN_int (drE E_cmp_isNaN_int) m0) (drE E_cmp_isNaN_int) b_cmp_isNaN_int 0 (st0 [.val (.int .i64)] (x, ())) (fin E_cmp_isNaN_int [.tmp 2] 0 [(.bool, [])]) = some (cmp_isNaN_int x) := by kernel_rfl
theorem ev_cmp_isNaN_int (x : Int) : evC E_cmp_isNaN_int (evJ E_cmp_isNaN_int (drE E_cmp_isNaN_int) fu) (drE E_cmp_isNaN_int) b_cmp_isNaN_int 0 (st0 [.val (.int .i64)] (x, ())) (fin E_cmp_isNaN_int [.tmp 2] 0 [(.bool, [])]) = some (cmp_isNaN_int x) := st_cmp_isNaN_int fu x
@[reducible] def sp_cmp_isNaN_int   : AM.Spec := AM.spec [.val (.int .i64)] [(.bool, [])] (fun x => some (cmp_isNaN_int x.1))
theorem c_cmp_isNaN_int : Contract Tryd.prog 37 sp_cmp_isNaN_int :=
  contract_of (Tab.envOk tabOk _ _) calls_cmp_isNaN_int tabOk.mixed (fn := Tryd.f37) (c := b_cmp_isNaN_int) (ts := [.tmp 2]) (by kernel_rfl) (by kernel_rfl) (by kernel_rfl) (by decide) (by kernel_rfl) (by decide) rfl fun x _ h => ⟨fu, (ev_cmp_isNaN_int x.1).trans h⟩

/-! cmp.Compare[int] -/
@[reducible] noncomputable def E_cmp_Compare_int : Env := tab.env (AM.look [(37, sp_cmp_isNaN_int)]) ⟨[], [], [], ⟨[(4, true)], []⟩, [], [37]⟩
theorem calls_cmp_Compare_int : CallsOk Tryd.prog E_cmp_Compare_int := callsOk_of ⟨⟨c_cmp_isNaN_int, Tryd.call37, fun _ => words_spec rfl⟩, trivial⟩
noncomputable def b_cmp_Compare_int : Code := (Tryd.f24.body).getD .skip
theorem st_cmp_Compare_int_o (m0 : Nat) (x : Int) (y : Int) : evC E_cmp_Compare_int (evJ E_cmp_Compare_int (drE E_cmp_Compare_int) m0) (drE E_cmp_Compare_int) b_cmp_Compare_int 0 (st0 [.val (.int .i64), .val (.int .i64)] (x, y, ())) (fin E_cmp_Compare_int [.tmp 4] 0 [((.int .i64), [])]) = cmp_Compare_int.o x y := by kernel_rfl
theorem st_cmp_Compare_int (m0 : Nat) (x : Int) (y : Int) : evC E_cmp_Compare_int (evJ E_cmp_Compare_int (drE E_cmp_Compare_int) m0) (drE E_cmp_Compare_int) b_cmp_Compare_int 0 (st0 [.val (.int .i64), .val (.int .i64)] (x, y, ())) (fin E_cmp_Compare_int [.tmp 4] 0 [((.int .i64), [])]) = some (cmp_Compare_int x y) := (st_cmp_Compare_int_o m0 x y).trans (by unfold cmp_Compare_int.o cmp_Compare_int; simp only [cond_some])
theorem ev_cmp_Compare_int (x : Int) (y : Int) : evC E_cmp_Compare_int (evJ E_cmp_Compare_int (drE E_cmp_Compare_int) fu) (drE E_cmp_Compare_int) b_cmp_Compare_int 0 (st0 [.val (.int .i64), .val (.int .i64)] (x, y, ())) (fin E_cmp_Compare_int [.tmp 4] 0 [((.int .i64), [])]) = some (cmp_Compare_int x y) := st_cmp_Compare_int fu x y
@[reducible] def sp_cmp_Compare_int   : AM.Spec := AM.spec [.val (.int .i64), .val (.int .i64)] [((.int .i64), [])] (fun x => some (cmp_Compare_int x.1 x.2.1))
theorem c_cmp_Compare_int : Contract Tryd.prog 24 sp_cmp_Compare_int :=
  contract_of (Tab.envOk tabOk _ _) calls_cmp_Compare_int tabOk.mixed (fn := Tryd.f24) (c := b_cmp_Compare_int) (ts := [.tmp 4]) (by kernel_rfl) (by kernel_rfl) (by kernel_rfl) (by decide) (by kernel_rfl) (by decide) rfl fun x _ h => ⟨fu, (ev_cmp_Compare_int x.1 x.2.1).trans h⟩

/-! cmp.Or[int] -/
@[reducible] noncomputable def E_cmp_Or_int : Env := tab.env (AM.look []) ⟨[(0, ⟨[(3, true), (6, true), (7, true), (8, true)], []⟩)], [], [], ⟨[(2, true)], []⟩, [], []⟩
theorem calls_cmp_Or_int : CallsOk Tryd.prog E_cmp_Or_int := callsOk_of trivial
noncomputable def b_cmp_Or_int : Code := (Tryd.f23.body).getD .skip
noncomputable def sg_cmp_Or_int_0 (zero_1 : Int) (t6_2 : (List Int)) (t7_3 : Int) (t8_4 : Int) : St := mk [(3, .dat (.int .i64) zero_1 []), (6, .dat (.sl (.int .i64)) t6_2 []), (7, .dat (.int .i64) t7_3 []), (8, .dat (.int .i64) t8_4 [])] []
noncomputable def q_cmp_Or_int_0 (m0 : Nat) : K (ResD [((.int .i64), [])]) := fin E_cmp_Or_int [.tmp 2] 0 [((.int .i64), [])]
noncomputable def cd_cmp_Or_int_1 : Code := (rgt (rgt (rgt b_cmp_Or_int)))
noncomputable def q_cmp_Or_int_1 (m0 : Nat) : K (ResD [((.int .i64), [])]) := seqK E_cmp_Or_int (evJ E_cmp_Or_int (drE E_cmp_Or_int) m0) cd_cmp_Or_int_1 0 (evC E_cmp_Or_int (evJ E_cmp_Or_int (drE E_cmp_Or_int) m0) (drE E_cmp_Or_int) cd_cmp_Or_int_1 0) (q_cmp_Or_int_0 m0)
noncomputable def q_cmp_Or_int_2 (m0 : Nat) : K (ResD [((.int .i64), [])]) := blockK 0 (q_cmp_Or_int_1 m0)
noncomputable def cd_cmp_Or_int_2 : Code := (lft (lft (rgt (lft (rgt (rgt b_cmp_Or_int))))))
theorem st_cmp_Or_int_j0 (m0 : Nat) (n : Nat) (zero_1 : Int) (t6_2 : (List Int)) (t7_3 : Int) (t8_4 : Int) : evJ E_cmp_Or_int (drE E_cmp_Or_int) (n + 1) (.loop cd_cmp_Or_int_2) 0 (sg_cmp_Or_int_0 zero_1 t6_2 t7_3 t8_4) (q_cmp_Or_int_2 m0) = cmp_Or_int.S0 (fun zero_1 t6_2 t7_3 t8_4 => evJ E_cmp_Or_int (drE E_cmp_Or_int) n (.loop cd_cmp_Or_int_2) 0 (sg_cmp_Or_int_0 zero_1 t6_2 t7_3 t8_4) (q_cmp_Or_int_2 m0)) zero_1 t6_2 t7_3 t8_4 := by kernel_rfl
theorem J_cmp_Or_int_0 (m0 : Nat) : ∀ (n : Nat) (zero_1 : Int) (t6_2 : (List Int)) (t7_3 : Int) (t8_4 : Int), evJ E_cmp_Or_int (drE E_cmp_Or_int) n (.loop cd_cmp_Or_int_2) 0 (sg_cmp_Or_int_0 zero_1 t6_2 t7_3 t8_4) (q_cmp_Or_int_2 m0) = cmp_Or_int.l0 n zero_1 t6_2 t7_3 t8_4 := by
  intro n
  induction n with
  | zero => intros; rfl
  | succ n ih =>
    intro zero_1 t6_2 t7_3 t8_4
    have e0 : (fun zero_1 t6_2 t7_3 t8_4 => evJ E_cmp_Or_int (drE E_cmp_Or_int) n (.loop cd_cmp_Or_int_2) 0 (sg_cmp_Or_int_0 zero_1 t6_2 t7_3 t8_4) (q_cmp_Or_int_2 m0)) = (cmp_Or_int.l0 n) := by funext zero_1 t6_2 t7_3 t8_4; exact ih zero_1 t6_2 t7_3 t8_4
    refine (st_cmp_Or_int_j0 m0 n zero_1 t6_2 t7_3 t8_4).trans ?_
    rw [e0]; rfl
theorem st_cmp_Or_int (m0 : Nat) (vals : (List Int)) : evC E_cmp_Or_int (evJ E_cmp_Or_int (drE E_cmp_Or_int) m0) (drE E_cmp_Or_int) b_cmp_Or_int 0 (st0 [.val (.sl (.int .i64))] (vals, ())) (fin E_cmp_Or_int [.tmp 2] 0 [((.int .i64), [])]) = cmp_Or_int.S (fun zero_1 t6_2 t7_3 t8_4 => evJ E_cmp_Or_int (drE E_cmp_Or_int) m0 (.loop cd_cmp_Or_int_2) 0 (sg_cmp_Or_int_0 zero_1 t6_2 t7_3 t8_4) (q_cmp_Or_int_2 m0)) vals := by kernel_rfl
theorem ev_cmp_Or_int (vals : (List Int)) : evC E_cmp_Or_int (evJ E_cmp_Or_int (drE E_cmp_Or_int) fu) (drE E_cmp_Or_int) b_cmp_Or_int 0 (st0 [.val (.sl (.int .i64))] (vals, ())) (fin E_cmp_Or_int [.tmp 2] 0 [((.int .i64), [])]) = cmp_Or_int vals := by
  have e0 : (fun zero_1 t6_2 t7_3 t8_4 => evJ E_cmp_Or_int (drE E_cmp_Or_int) fu (.loop cd_cmp_Or_int_2) 0 (sg_cmp_Or_int_0 zero_1 t6_2 t7_3 t8_4) (q_cmp_Or_int_2 fu)) = (cmp_Or_int.l0 fu) := by funext zero_1 t6_2 t7_3 t8_4; exact J_cmp_Or_int_0 fu fu zero_1 t6_2 t7_3 t8_4
  refine (st_cmp_Or_int fu vals).trans ?_
  rw [e0]; rfl
@[reducible] def sp_cmp_Or_int   : AM.Spec := AM.spec [.val (.sl (.int .i64))] [((.int .i64), [])] (fun x => cmp_Or_int x.1)
theorem c_cmp_Or_int : Contract Tryd.prog 23 sp_cmp_Or_int :=
  contract_of (Tab.envOk tabOk _ _) calls_cmp_Or_int tabOk.mixed (fn := Tryd.f23) (c := b_cmp_Or_int) (ts := [.tmp 2]) (by kernel_rfl) (by kernel_rfl) (by kernel_rfl) (by decide) (by kernel_rfl) (by decide) rfl fun x _ h => ⟨fu, (ev_cmp_Or_int x.1).trans h⟩

/-! peristyle/cell.Compare -/
@[reducible] noncomputable def E_cell_Compare : Env := tab.env (AM.look [(24, sp_cmp_Compare_int), (25, sp_strings_Compare), (23, sp_cmp_Or_int)]) ⟨[], [], [], ⟨[(4, true)], []⟩, [], [23, 24, 25]⟩
theorem calls_cell_Compare : CallsOk Tryd.prog E_cell_Compare := callsOk_of ⟨⟨c_cmp_Compare_int, Tryd.call24, fun _ => words_spec rfl⟩, ⟨⟨c_strings_Compare, Tryd.call25, fun _ => words_spec rfl⟩, ⟨⟨c_cmp_Or_int, Tryd.call23, fun _ => words_spec rfl⟩, trivial⟩⟩⟩
noncomputable def b_cell_Compare : Code := (Tryd.f8.body).getD .skip
theorem st_cell_Compare (m0 : Nat) (a : (Int × (Int × ByteArray))) (b : (Int × (Int × ByteArray))) : evC E_cell_Compare (evJ E_cell_Compare (drE E_cell_Compare) m0) (drE E_cell_Compare) b_cell_Compare 0 (st0 [.val (.pair (.int .i64) (.pair (.int .i64) .str)), .val (.pair (.int .i64) (.pair (.int .i64) .str))] (a, b, ())) (fin E_cell_Compare [.tmp 4] 0 [((.int .i64), [])]) = cell_Compare a b := by kernel_rfl
theorem ev_cell_Compare (a : (Int × (Int × ByteArray))) (b : (Int × (Int × ByteArray))) : evC E_cell_Compare (evJ E_cell_Compare (drE E_cell_Compare) fu) (drE E_cell_Compare) b_cell_Compare 0 (st0 [.val (.pair (.int .i64) (.pair (.int .i64) .str)), .val (.pair (.int .i64) (.pair (.int .i64) .str))] (a, b, ())) (fin E_cell_Compare [.tmp 4] 0 [((.int .i64), [])]) = cell_Compare a b := st_cell_Compare fu a b
@[reducible] def sp_cell_Compare   : AM.Spec := AM.spec [.val (.pair (.int .i64) (.pair (.int .i64) .str)), .val (.pair (.int .i64) (.pair (.int .i64) .str))] [((.int .i64), [])] (fun x => cell_Compare x.1 x.2.1)
theorem c_cell_Compare : Contract Tryd.prog 8 sp_cell_Compare :=
  contract_of (Tab.envOk tabOk _ _) calls_cell_Compare tabOk.mixed (fn := Tryd.f8) (c := b_cell_Compare) (ts := [.tmp 4]) (by kernel_rfl) (by kernel_rfl) (by kernel_rfl) (by decide) (by kernel_rfl) (by decide) rfl fun x _ h => ⟨fu, (ev_cell_Compare x.1 x.2.1).trans h⟩

/-! peristyle/peristylelaw06.awake -/
@[reducible] noncomputable def E_law06_awake : Env := tab.env (AM.look [(10, sp_cell_Put), (12, sp_cell_Take), (15, sp_cell_Read), (14, sp_ref06_Same), (8, sp_cell_Compare), (17, sp_cell_Show), (22, sp_cell_Check)]) ⟨[], [], [], ⟨[(0, true)], []⟩, [], [8, 10, 14, 15, 17, 22]⟩
theorem calls_law06_awake : CallsOk Tryd.prog E_law06_awake := callsOk_of ⟨⟨c_cell_Put, Tryd.call10, fun _ => words_spec rfl⟩, ⟨⟨c_cell_Take, Tryd.call12, fun h => nomatch (show false = true from h)⟩, ⟨⟨c_cell_Read, Tryd.call15, fun _ => words_spec rfl⟩, ⟨⟨c_ref06_Same, Tryd.call14, fun _ => words_spec rfl⟩, ⟨⟨c_cell_Compare, Tryd.call8, fun _ => words_spec rfl⟩, ⟨⟨c_cell_Show, Tryd.call17, fun _ => words_spec rfl⟩, ⟨⟨c_cell_Check, Tryd.call22, fun _ => words_spec rfl⟩, trivial⟩⟩⟩⟩⟩⟩⟩
noncomputable def b_law06_awake : Code := (Tryd.f7.body).getD .skip
theorem st_law06_awake (m0 : Nat) : evC E_law06_awake (evJ E_law06_awake (drE E_law06_awake) m0) (drE E_law06_awake) b_law06_awake 0 (st0 [] ()) (fin E_law06_awake [.tmp 0] 0 [(.bool, [])]) = law06_awake := by kernel_rfl
theorem ev_law06_awake : evC E_law06_awake (evJ E_law06_awake (drE E_law06_awake) fu) (drE E_law06_awake) b_law06_awake 0 (st0 [] ()) (fin E_law06_awake [.tmp 0] 0 [(.bool, [])]) = law06_awake := st_law06_awake fu
@[reducible] def sp_law06_awake   : AM.Spec := AM.spec [] [(.bool, [])] (fun x => law06_awake)
theorem c_law06_awake : Contract Tryd.prog 7 sp_law06_awake :=
  contract_of (Tab.envOk tabOk _ _) calls_law06_awake tabOk.mixed (fn := Tryd.f7) (c := b_law06_awake) (ts := [.tmp 0]) (by kernel_rfl) (by kernel_rfl) (by kernel_rfl) (by decide) (by kernel_rfl) (by decide) rfl fun x _ h => ⟨fu, (ev_law06_awake).trans h⟩

/-! peristyle/peristylelaw06.CellTotal -/
@[reducible] noncomputable def E_law06_CellTotal : Env := tab.env (AM.look [(7, sp_law06_awake), (8, sp_cell_Compare)]) ⟨[], [], [], ⟨[(6, true)], []⟩, [], [7, 8]⟩
theorem calls_law06_CellTotal : CallsOk Tryd.prog E_law06_CellTotal := callsOk_of ⟨⟨c_law06_awake, Tryd.call7, fun _ => words_spec rfl⟩, ⟨⟨c_cell_Compare, Tryd.call8, fun _ => words_spec rfl⟩, trivial⟩⟩
noncomputable def b_law06_CellTotal : Code := (Tryd.f3.body).getD .skip
theorem st_law06_CellTotal (m0 : Nat) (a : (Int × (Int × ByteArray))) (b : (Int × (Int × ByteArray))) (c : (Int × (Int × ByteArray))) : evC E_law06_CellTotal (evJ E_law06_CellTotal (drE E_law06_CellTotal) m0) (drE E_law06_CellTotal) b_law06_CellTotal 0 (st0 [.val (.pair (.int .i64) (.pair (.int .i64) .str)), .val (.pair (.int .i64) (.pair (.int .i64) .str)), .val (.pair (.int .i64) (.pair (.int .i64) .str))] (a, b, c, ())) (fin E_law06_CellTotal [.tmp 6] 0 [(.bool, [])]) = law06_CellTotal a b c := by kernel_rfl
theorem ev_law06_CellTotal (a : (Int × (Int × ByteArray))) (b : (Int × (Int × ByteArray))) (c : (Int × (Int × ByteArray))) : evC E_law06_CellTotal (evJ E_law06_CellTotal (drE E_law06_CellTotal) fu) (drE E_law06_CellTotal) b_law06_CellTotal 0 (st0 [.val (.pair (.int .i64) (.pair (.int .i64) .str)), .val (.pair (.int .i64) (.pair (.int .i64) .str)), .val (.pair (.int .i64) (.pair (.int .i64) .str))] (a, b, c, ())) (fin E_law06_CellTotal [.tmp 6] 0 [(.bool, [])]) = law06_CellTotal a b c := st_law06_CellTotal fu a b c
@[reducible] def sp_law06_CellTotal   : AM.Spec := AM.spec [.val (.pair (.int .i64) (.pair (.int .i64) .str)), .val (.pair (.int .i64) (.pair (.int .i64) .str)), .val (.pair (.int .i64) (.pair (.int .i64) .str))] [(.bool, [])] (fun x => law06_CellTotal x.1 x.2.1 x.2.2.1)
theorem c_law06_CellTotal : Contract Tryd.prog 3 sp_law06_CellTotal :=
  contract_of (Tab.envOk tabOk _ _) calls_law06_CellTotal tabOk.mixed (fn := Tryd.f3) (c := b_law06_CellTotal) (ts := [.tmp 6]) (by kernel_rfl) (by kernel_rfl) (by kernel_rfl) (by decide) (by kernel_rfl) (by decide) rfl fun x _ h => ⟨fu, (ev_law06_CellTotal x.1 x.2.1 x.2.2.1).trans h⟩

/-! peristyle/peristyleref06.Light -/
@[reducible] noncomputable def E_ref06_Light : Env := tab.env (AM.look []) ⟨[(0, ⟨[(0, true), (3, true)], []⟩)], [], [], ⟨[(2, true)], []⟩, [], []⟩
theorem calls_ref06_Light : CallsOk Tryd.prog E_ref06_Light := callsOk_of trivial
noncomputable def b_ref06_Light : Code := (Tryd.f9.body).getD .skip
noncomputable def sg_ref06_Light_0 (r_1 : (List (Int × (Int × ByteArray)))) (i_2 : Int) : St := mk [(0, .dat (.sl (.pair (.int .i64) (.pair (.int .i64) .str))) r_1 []), (3, .dat (.int .i64) i_2 [])] []
noncomputable def q_ref06_Light_0 (m0 : Nat) : K (ResD [(.bool, [])]) := fin E_ref06_Light [.tmp 2] 0 [(.bool, [])]
noncomputable def cd_ref06_Light_1 : Code := (rgt (rgt b_ref06_Light))
noncomputable def q_ref06_Light_1 (m0 : Nat) : K (ResD [(.bool, [])]) := seqK E_ref06_Light (evJ E_ref06_Light (drE E_ref06_Light) m0) cd_ref06_Light_1 0 (evC E_ref06_Light (evJ E_ref06_Light (drE E_ref06_Light) m0) (drE E_ref06_Light) cd_ref06_Light_1 0) (q_ref06_Light_0 m0)
noncomputable def q_ref06_Light_2 (m0 : Nat) : K (ResD [(.bool, [])]) := blockK 0 (q_ref06_Light_1 m0)
noncomputable def cd_ref06_Light_2 : Code := (lft (lft (rgt (lft (rgt b_ref06_Light)))))
theorem st_ref06_Light_j0 (m0 : Nat) (n : Nat) (r_1 : (List (Int × (Int × ByteArray)))) (i_2 : Int) : evJ E_ref06_Light (drE E_ref06_Light) (n + 1) (.loop cd_ref06_Light_2) 0 (sg_ref06_Light_0 r_1 i_2) (q_ref06_Light_2 m0) = ref06_Light.S0 (fun r_1 i_2 => evJ E_ref06_Light (drE E_ref06_Light) n (.loop cd_ref06_Light_2) 0 (sg_ref06_Light_0 r_1 i_2) (q_ref06_Light_2 m0)) r_1 i_2 := by kernel_rfl
theorem J_ref06_Light_0 (m0 : Nat) : ∀ (n : Nat) (r_1 : (List (Int × (Int × ByteArray)))) (i_2 : Int), evJ E_ref06_Light (drE E_ref06_Light) n (.loop cd_ref06_Light_2) 0 (sg_ref06_Light_0 r_1 i_2) (q_ref06_Light_2 m0) = ref06_Light.l0 n r_1 i_2 := by
  intro n
  induction n with
  | zero => intros; rfl
  | succ n ih =>
    intro r_1 i_2
    have e0 : (fun r_1 i_2 => evJ E_ref06_Light (drE E_ref06_Light) n (.loop cd_ref06_Light_2) 0 (sg_ref06_Light_0 r_1 i_2) (q_ref06_Light_2 m0)) = (ref06_Light.l0 n) := by funext r_1 i_2; exact ih r_1 i_2
    refine (st_ref06_Light_j0 m0 n r_1 i_2).trans ?_
    rw [e0]; rfl
theorem st_ref06_Light (m0 : Nat) (r : (List (Int × (Int × ByteArray)))) : evC E_ref06_Light (evJ E_ref06_Light (drE E_ref06_Light) m0) (drE E_ref06_Light) b_ref06_Light 0 (st0 [.val (.sl (.pair (.int .i64) (.pair (.int .i64) .str)))] (r, ())) (fin E_ref06_Light [.tmp 2] 0 [(.bool, [])]) = ref06_Light.S (fun r_1 i_2 => evJ E_ref06_Light (drE E_ref06_Light) m0 (.loop cd_ref06_Light_2) 0 (sg_ref06_Light_0 r_1 i_2) (q_ref06_Light_2 m0)) r := by kernel_rfl
theorem ev_ref06_Light (r : (List (Int × (Int × ByteArray)))) : evC E_ref06_Light (evJ E_ref06_Light (drE E_ref06_Light) fu) (drE E_ref06_Light) b_ref06_Light 0 (st0 [.val (.sl (.pair (.int .i64) (.pair (.int .i64) .str)))] (r, ())) (fin E_ref06_Light [.tmp 2] 0 [(.bool, [])]) = ref06_Light r := by
  have e0 : (fun r_1 i_2 => evJ E_ref06_Light (drE E_ref06_Light) fu (.loop cd_ref06_Light_2) 0 (sg_ref06_Light_0 r_1 i_2) (q_ref06_Light_2 fu)) = (ref06_Light.l0 fu) := by funext r_1 i_2; exact J_ref06_Light_0 fu fu r_1 i_2
  refine (st_ref06_Light fu r).trans ?_
  rw [e0]; rfl
@[reducible] def sp_ref06_Light   : AM.Spec := AM.spec [.val (.sl (.pair (.int .i64) (.pair (.int .i64) .str)))] [(.bool, [])] (fun x => ref06_Light x.1)
theorem c_ref06_Light : Contract Tryd.prog 9 sp_ref06_Light :=
  contract_of (Tab.envOk tabOk _ _) calls_ref06_Light tabOk.mixed (fn := Tryd.f9) (c := b_ref06_Light) (ts := [.tmp 2]) (by kernel_rfl) (by kernel_rfl) (by kernel_rfl) (by decide) (by kernel_rfl) (by decide) rfl fun x _ h => ⟨fu, (ev_ref06_Light x.1).trans h⟩

/-! peristyle/peristyleref06.May -/
@[reducible] noncomputable def E_ref06_May : Env := tab.env (AM.look []) ⟨[], [], [], ⟨[(2, true)], []⟩, [], []⟩
theorem calls_ref06_May : CallsOk Tryd.prog E_ref06_May := callsOk_of trivial
noncomputable def b_ref06_May : Code := (Tryd.f19.body).getD .skip
theorem st_ref06_May_o (m0 : Nat) (c : (Int × (Int × ByteArray))) : evC E_ref06_May (evJ E_ref06_May (drE E_ref06_May) m0) (drE E_ref06_May) b_ref06_May 0 (st0 [.val (.pair (.int .i64) (.pair (.int .i64) .str))] (c, ())) (fin E_ref06_May [.tmp 2] 0 [(.bool, [])]) = ref06_May.o c := by kernel_rfl
theorem st_ref06_May (m0 : Nat) (c : (Int × (Int × ByteArray))) : evC E_ref06_May (evJ E_ref06_May (drE E_ref06_May) m0) (drE E_ref06_May) b_ref06_May 0 (st0 [.val (.pair (.int .i64) (.pair (.int .i64) .str))] (c, ())) (fin E_ref06_May [.tmp 2] 0 [(.bool, [])]) = some (ref06_May c) := (st_ref06_May_o m0 c).trans (by unfold ref06_May.o ref06_May; simp only [cond_some])
theorem ev_ref06_May (c : (Int × (Int × ByteArray))) : evC E_ref06_May (evJ E_ref06_May (drE E_ref06_May) fu) (drE E_ref06_May) b_ref06_May 0 (st0 [.val (.pair (.int .i64) (.pair (.int .i64) .str))] (c, ())) (fin E_ref06_May [.tmp 2] 0 [(.bool, [])]) = some (ref06_May c) := st_ref06_May fu c
@[reducible] def sp_ref06_May   : AM.Spec := AM.spec [.val (.pair (.int .i64) (.pair (.int .i64) .str))] [(.bool, [])] (fun x => some (ref06_May x.1))
theorem c_ref06_May : Contract Tryd.prog 19 sp_ref06_May :=
  contract_of (Tab.envOk tabOk _ _) calls_ref06_May tabOk.mixed (fn := Tryd.f19) (c := b_ref06_May) (ts := [.tmp 2]) (by kernel_rfl) (by kernel_rfl) (by kernel_rfl) (by decide) (by kernel_rfl) (by decide) rfl fun x _ h => ⟨fu, (ev_ref06_May x.1).trans h⟩

/-! peristyle/peristyleref01.Of -/
@[reducible] noncomputable def E_ref01_Of : Env := tab.env (AM.look []) ⟨[(0, ⟨[(0, true), (2, true), (3, true), (4, true)], [(2, true), (3, true)]⟩)], [], [], ⟨[(2, true)], [(2, true)]⟩, [], []⟩
theorem calls_ref01_Of : CallsOk Tryd.prog E_ref01_Of := callsOk_of trivial
noncomputable def b_ref01_Of : Code := (Tryd.f70.body).getD .skip
noncomputable def sg_ref01_Of_0 (word_1 : Int) (k_2 : Int) (t2_3 : (List Bool)) (out_4 : (List Bool)) : St := mk [(0, .dat (.int .i64) word_1 []), (2, .ptr 2 0 0), (3, .ptr 3 0 0), (4, .dat (.int .i64) k_2 [])] [(2, some (.arr .bool t2_3 false)), (3, some (.arr .bool out_4 false))]
noncomputable def q_ref01_Of_0 (m0 : Nat) : K (ResD [((.arr 63 .bool), [])]) := fin E_ref01_Of [.cell 2 92] 0 [((.arr 63 .bool), [])]
noncomputable def cd_ref01_Of_1 : Code := (rgt (rgt (rgt b_ref01_Of)))
noncomputable def q_ref01_Of_1 (m0 : Nat) : K (ResD [((.arr 63 .bool), [])]) := seqK E_ref01_Of (evJ E_ref01_Of (drE E_ref01_Of) m0) cd_ref01_Of_1 0 (evC E_ref01_Of (evJ E_ref01_Of (drE E_ref01_Of) m0) (drE E_ref01_Of) cd_ref01_Of_1 0) (q_ref01_Of_0 m0)
noncomputable def q_ref01_Of_2 (m0 : Nat) : K (ResD [((.arr 63 .bool), [])]) := blockK 0 (q_ref01_Of_1 m0)
noncomputable def cd_ref01_Of_2 : Code := (lft (lft (rgt (lft (rgt (rgt b_ref01_Of))))))
theorem st_ref01_Of_j0 (m0 : Nat) (n : Nat) (word_1 : Int) (k_2 : Int) (t2_3 : (List Bool)) (out_4 : (List Bool)) : evJ E_ref01_Of (drE E_ref01_Of) (n + 1) (.loop cd_ref01_Of_2) 0 (sg_ref01_Of_0 word_1 k_2 t2_3 out_4) (q_ref01_Of_2 m0) = ref01_Of.S0 (fun word_1 k_2 t2_3 out_4 => evJ E_ref01_Of (drE E_ref01_Of) n (.loop cd_ref01_Of_2) 0 (sg_ref01_Of_0 word_1 k_2 t2_3 out_4) (q_ref01_Of_2 m0)) word_1 k_2 t2_3 out_4 := by kernel_rfl
theorem J_ref01_Of_0 (m0 : Nat) : ∀ (n : Nat) (word_1 : Int) (k_2 : Int) (t2_3 : (List Bool)) (out_4 : (List Bool)), evJ E_ref01_Of (drE E_ref01_Of) n (.loop cd_ref01_Of_2) 0 (sg_ref01_Of_0 word_1 k_2 t2_3 out_4) (q_ref01_Of_2 m0) = ref01_Of.l0 n word_1 k_2 t2_3 out_4 := by
  intro n
  induction n with
  | zero => intros; rfl
  | succ n ih =>
    intro word_1 k_2 t2_3 out_4
    have e0 : (fun word_1 k_2 t2_3 out_4 => evJ E_ref01_Of (drE E_ref01_Of) n (.loop cd_ref01_Of_2) 0 (sg_ref01_Of_0 word_1 k_2 t2_3 out_4) (q_ref01_Of_2 m0)) = (ref01_Of.l0 n) := by funext word_1 k_2 t2_3 out_4; exact ih word_1 k_2 t2_3 out_4
    refine (st_ref01_Of_j0 m0 n word_1 k_2 t2_3 out_4).trans ?_
    rw [e0]; rfl
theorem st_ref01_Of (m0 : Nat) (word : Int) : evC E_ref01_Of (evJ E_ref01_Of (drE E_ref01_Of) m0) (drE E_ref01_Of) b_ref01_Of 0 (st0 [.val (.int .i64)] (word, ())) (fin E_ref01_Of [.cell 2 92] 0 [((.arr 63 .bool), [])]) = ref01_Of.S (fun word_1 k_2 t2_3 out_4 => evJ E_ref01_Of (drE E_ref01_Of) m0 (.loop cd_ref01_Of_2) 0 (sg_ref01_Of_0 word_1 k_2 t2_3 out_4) (q_ref01_Of_2 m0)) word := by kernel_rfl
theorem ev_ref01_Of (word : Int) : evC E_ref01_Of (evJ E_ref01_Of (drE E_ref01_Of) fu) (drE E_ref01_Of) b_ref01_Of 0 (st0 [.val (.int .i64)] (word, ())) (fin E_ref01_Of [.cell 2 92] 0 [((.arr 63 .bool), [])]) = ref01_Of word := by
  have e0 : (fun word_1 k_2 t2_3 out_4 => evJ E_ref01_Of (drE E_ref01_Of) fu (.loop cd_ref01_Of_2) 0 (sg_ref01_Of_0 word_1 k_2 t2_3 out_4) (q_ref01_Of_2 fu)) = (ref01_Of.l0 fu) := by funext word_1 k_2 t2_3 out_4; exact J_ref01_Of_0 fu fu word_1 k_2 t2_3 out_4
  refine (st_ref01_Of fu word).trans ?_
  rw [e0]; rfl
@[reducible] def sp_ref01_Of   : AM.Spec := AM.spec [.val (.int .i64)] [((.arr 63 .bool), [])] (fun x => ref01_Of x.1)
theorem c_ref01_Of : Contract Tryd.prog 70 sp_ref01_Of :=
  contract_of (Tab.envOk tabOk _ _) calls_ref01_Of tabOk.mixed (fn := Tryd.f70) (c := b_ref01_Of) (ts := [.cell 2 92]) (by kernel_rfl) (by kernel_rfl) (by kernel_rfl) (by decide) (by kernel_rfl) (by decide) rfl fun x _ h => ⟨fu, (ev_ref01_Of x.1).trans h⟩

/-! peristyle/peristyleref01.Word -/
@[reducible] noncomputable def E_ref01_Word : Env := tab.env (AM.look []) ⟨[(0, ⟨[(1, true), (3, true), (4, true)], [(1, true)]⟩)], [], [], ⟨[(2, true)], []⟩, [], []⟩
theorem calls_ref01_Word : CallsOk Tryd.prog E_ref01_Word := callsOk_of trivial
noncomputable def b_ref01_Word : Code := (Tryd.f71.body).getD .skip
noncomputable def sg_ref01_Word_0 (n_1 : Int) (k_2 : Int) (b_3 : (List Bool)) : St := mk [(1, .ptr 1 0 0), (3, .dat (.int .i64) n_1 []), (4, .dat (.int .i64) k_2 [])] [(1, some (.arr .bool b_3 false))]
noncomputable def q_ref01_Word_0 (m0 : Nat) : K (ResD [((.int .i64), [])]) := fin E_ref01_Word [.tmp 2] 0 [((.int .i64), [])]
noncomputable def cd_ref01_Word_1 : Code := (rgt (rgt (rgt b_ref01_Word)))
noncomputable def q_ref01_Word_1 (m0 : Nat) : K (ResD [((.int .i64), [])]) := seqK E_ref01_Word (evJ E_ref01_Word (drE E_ref01_Word) m0) cd_ref01_Word_1 0 (evC E_ref01_Word (evJ E_ref01_Word (drE E_ref01_Word) m0) (drE E_ref01_Word) cd_ref01_Word_1 0) (q_ref01_Word_0 m0)
noncomputable def q_ref01_Word_2 (m0 : Nat) : K (ResD [((.int .i64), [])]) := blockK 0 (q_ref01_Word_1 m0)
noncomputable def cd_ref01_Word_2 : Code := (lft (lft (rgt (lft (rgt (rgt b_ref01_Word))))))
theorem st_ref01_Word_j0 (m0 : Nat) (n : Nat) (n_1 : Int) (k_2 : Int) (b_3 : (List Bool)) : evJ E_ref01_Word (drE E_ref01_Word) (n + 1) (.loop cd_ref01_Word_2) 0 (sg_ref01_Word_0 n_1 k_2 b_3) (q_ref01_Word_2 m0) = ref01_Word.S0 (fun n_1 k_2 b_3 => evJ E_ref01_Word (drE E_ref01_Word) n (.loop cd_ref01_Word_2) 0 (sg_ref01_Word_0 n_1 k_2 b_3) (q_ref01_Word_2 m0)) n_1 k_2 b_3 := by kernel_rfl
theorem J_ref01_Word_0 (m0 : Nat) : ∀ (n : Nat) (n_1 : Int) (k_2 : Int) (b_3 : (List Bool)), evJ E_ref01_Word (drE E_ref01_Word) n (.loop cd_ref01_Word_2) 0 (sg_ref01_Word_0 n_1 k_2 b_3) (q_ref01_Word_2 m0) = ref01_Word.l0 n n_1 k_2 b_3 := by
  intro n
  induction n with
  | zero => intros; rfl
  | succ n ih =>
    intro n_1 k_2 b_3
    have e0 : (fun n_1 k_2 b_3 => evJ E_ref01_Word (drE E_ref01_Word) n (.loop cd_ref01_Word_2) 0 (sg_ref01_Word_0 n_1 k_2 b_3) (q_ref01_Word_2 m0)) = (ref01_Word.l0 n) := by funext n_1 k_2 b_3; exact ih n_1 k_2 b_3
    refine (st_ref01_Word_j0 m0 n n_1 k_2 b_3).trans ?_
    rw [e0]; rfl
theorem st_ref01_Word (m0 : Nat) (b : (List Bool)) : evC E_ref01_Word (evJ E_ref01_Word (drE E_ref01_Word) m0) (drE E_ref01_Word) b_ref01_Word 0 (st0 [.val (.arr 63 .bool)] (b, ())) (fin E_ref01_Word [.tmp 2] 0 [((.int .i64), [])]) = ref01_Word.S (fun n_1 k_2 b_3 => evJ E_ref01_Word (drE E_ref01_Word) m0 (.loop cd_ref01_Word_2) 0 (sg_ref01_Word_0 n_1 k_2 b_3) (q_ref01_Word_2 m0)) b := by kernel_rfl
theorem ev_ref01_Word (b : (List Bool)) : evC E_ref01_Word (evJ E_ref01_Word (drE E_ref01_Word) fu) (drE E_ref01_Word) b_ref01_Word 0 (st0 [.val (.arr 63 .bool)] (b, ())) (fin E_ref01_Word [.tmp 2] 0 [((.int .i64), [])]) = ref01_Word b := by
  have e0 : (fun n_1 k_2 b_3 => evJ E_ref01_Word (drE E_ref01_Word) fu (.loop cd_ref01_Word_2) 0 (sg_ref01_Word_0 n_1 k_2 b_3) (q_ref01_Word_2 fu)) = (ref01_Word.l0 fu) := by funext n_1 k_2 b_3; exact J_ref01_Word_0 fu fu n_1 k_2 b_3
  refine (st_ref01_Word fu b).trans ?_
  rw [e0]; rfl
@[reducible] def sp_ref01_Word   : AM.Spec := AM.spec [.val (.arr 63 .bool)] [((.int .i64), [])] (fun x => ref01_Word x.1)
theorem c_ref01_Word : Contract Tryd.prog 71 sp_ref01_Word :=
  contract_of (Tab.envOk tabOk _ _) calls_ref01_Word tabOk.mixed (fn := Tryd.f71) (c := b_ref01_Word) (ts := [.tmp 2]) (by kernel_rfl) (by kernel_rfl) (by kernel_rfl) (by decide) (by kernel_rfl) (by decide) rfl fun x _ h => ⟨fu, (ev_ref01_Word x.1).trans h⟩

/-! peristyle/peristyleref01.Zig -/
@[reducible] noncomputable def E_ref01_Zig : Env := tab.env (AM.look [(70, sp_ref01_Of), (71, sp_ref01_Word)]) ⟨[(0, ⟨[(3, true), (4, true), (5, true)], [(3, true), (4, true)]⟩)], [], [], ⟨[(2, true)], []⟩, [], [70, 71]⟩
theorem calls_ref01_Zig : CallsOk Tryd.prog E_ref01_Zig := callsOk_of ⟨⟨c_ref01_Of, Tryd.call70, fun _ => words_spec rfl⟩, ⟨⟨c_ref01_Word, Tryd.call71, fun _ => words_spec rfl⟩, trivial⟩⟩
noncomputable def b_ref01_Zig : Code := (Tryd.f50.body).getD .skip
noncomputable def sg_ref01_Zig_0 (k_2 : Int) (b_3 : (List Bool)) (out_4 : (List Bool)) : St := mk [(3, .ptr 3 0 0), (4, .ptr 4 0 0), (5, .dat (.int .i64) k_2 [])] [(3, some (.arr .bool b_3 false)), (4, some (.arr .bool out_4 false))]
noncomputable def q_ref01_Zig_0 (m0 : Nat) : K (ResD [((.int .i64), [])]) := fin E_ref01_Zig [.tmp 2] 0 [((.int .i64), [])]
noncomputable def cd_ref01_Zig_1 : Code := (rgt (rgt (rgt (rgt (rgt b_ref01_Zig)))))
noncomputable def q_ref01_Zig_1 (m0 : Nat) : K (ResD [((.int .i64), [])]) := seqK E_ref01_Zig (evJ E_ref01_Zig (drE E_ref01_Zig) m0) cd_ref01_Zig_1 0 (evC E_ref01_Zig (evJ E_ref01_Zig (drE E_ref01_Zig) m0) (drE E_ref01_Zig) cd_ref01_Zig_1 0) (q_ref01_Zig_0 m0)
noncomputable def q_ref01_Zig_2 (m0 : Nat) : K (ResD [((.int .i64), [])]) := blockK 0 (q_ref01_Zig_1 m0)
noncomputable def cd_ref01_Zig_2 : Code := (lft (lft (rgt (lft (rgt (rgt (rgt (rgt b_ref01_Zig))))))))
theorem st_ref01_Zig_j0 (m0 : Nat) (n : Nat) (k_2 : Int) (b_3 : (List Bool)) (out_4 : (List Bool)) : evJ E_ref01_Zig (drE E_ref01_Zig) (n + 1) (.loop cd_ref01_Zig_2) 0 (sg_ref01_Zig_0 k_2 b_3 out_4) (q_ref01_Zig_2 m0) = ref01_Zig.S0 (fun k_2 b_3 out_4 => evJ E_ref01_Zig (drE E_ref01_Zig) n (.loop cd_ref01_Zig_2) 0 (sg_ref01_Zig_0 k_2 b_3 out_4) (q_ref01_Zig_2 m0)) k_2 b_3 out_4 := by kernel_rfl
theorem J_ref01_Zig_0 (m0 : Nat) : ∀ (n : Nat) (k_2 : Int) (b_3 : (List Bool)) (out_4 : (List Bool)), evJ E_ref01_Zig (drE E_ref01_Zig) n (.loop cd_ref01_Zig_2) 0 (sg_ref01_Zig_0 k_2 b_3 out_4) (q_ref01_Zig_2 m0) = ref01_Zig.l0 n k_2 b_3 out_4 := by
  intro n
  induction n with
  | zero => intros; rfl
  | succ n ih =>
    intro k_2 b_3 out_4
    have e0 : (fun k_2 b_3 out_4 => evJ E_ref01_Zig (drE E_ref01_Zig) n (.loop cd_ref01_Zig_2) 0 (sg_ref01_Zig_0 k_2 b_3 out_4) (q_ref01_Zig_2 m0)) = (ref01_Zig.l0 n) := by funext k_2 b_3 out_4; exact ih k_2 b_3 out_4
    refine (st_ref01_Zig_j0 m0 n k_2 b_3 out_4).trans ?_
    rw [e0]; rfl
theorem st_ref01_Zig (m0 : Nat) (xn : Int) : evC E_ref01_Zig (evJ E_ref01_Zig (drE E_ref01_Zig) m0) (drE E_ref01_Zig) b_ref01_Zig 0 (st0 [.val (.int .i64)] (xn, ())) (fin E_ref01_Zig [.tmp 2] 0 [((.int .i64), [])]) = ref01_Zig.S (fun k_2 b_3 out_4 => evJ E_ref01_Zig (drE E_ref01_Zig) m0 (.loop cd_ref01_Zig_2) 0 (sg_ref01_Zig_0 k_2 b_3 out_4) (q_ref01_Zig_2 m0)) xn := by kernel_rfl
theorem ev_ref01_Zig (xn : Int) : evC E_ref01_Zig (evJ E_ref01_Zig (drE E_ref01_Zig) fu) (drE E_ref01_Zig) b_ref01_Zig 0 (st0 [.val (.int .i64)] (xn, ())) (fin E_ref01_Zig [.tmp 2] 0 [((.int .i64), [])]) = ref01_Zig xn := by
  have e0 : (fun k_2 b_3 out_4 => evJ E_ref01_Zig (drE E_ref01_Zig) fu (.loop cd_ref01_Zig_2) 0 (sg_ref01_Zig_0 k_2 b_3 out_4) (q_ref01_Zig_2 fu)) = (ref01_Zig.l0 fu) := by funext k_2 b_3 out_4; exact J_ref01_Zig_0 fu fu k_2 b_3 out_4
  refine (st_ref01_Zig fu xn).trans ?_
  rw [e0]; rfl
@[reducible] def sp_ref01_Zig   : AM.Spec := AM.spec [.val (.int .i64)] [((.int .i64), [])] (fun x => ref01_Zig x.1)
theorem c_ref01_Zig : Contract Tryd.prog 50 sp_ref01_Zig :=
  contract_of (Tab.envOk tabOk _ _) calls_ref01_Zig tabOk.mixed (fn := Tryd.f50) (c := b_ref01_Zig) (ts := [.tmp 2]) (by kernel_rfl) (by kernel_rfl) (by kernel_rfl) (by decide) (by kernel_rfl) (by decide) rfl fun x _ h => ⟨fu, (ev_ref01_Zig x.1).trans h⟩

/-! peristyle/peristyleref01.Field -/
@[reducible] noncomputable def E_ref01_Field : Env := tab.env (AM.look [(70, sp_ref01_Of), (71, sp_ref01_Word)]) ⟨[(0, ⟨[(1, true), (2, true), (7, true), (8, true), (9, true)], [(7, true), (8, true)]⟩)], [], [], ⟨[(6, true)], []⟩, [], [70, 71]⟩
theorem calls_ref01_Field : CallsOk Tryd.prog E_ref01_Field := callsOk_of ⟨⟨c_ref01_Of, Tryd.call70, fun _ => words_spec rfl⟩, ⟨⟨c_ref01_Word, Tryd.call71, fun _ => words_spec rfl⟩, trivial⟩⟩
noncomputable def b_ref01_Field : Code := (Tryd.f51.body).getD .skip
noncomputable def sg_ref01_Field_0 (at_2 : Int) (w_3 : Int) (k_4 : Int) (b_5 : (List Bool)) (out_6 : (List Bool)) : St := mk [(1, .dat (.int .i64) at_2 []), (2, .dat (.int .i64) w_3 []), (7, .ptr 7 0 0), (8, .ptr 8 0 0), (9, .dat (.int .i64) k_4 [])] [(7, some (.arr .bool b_5 false)), (8, some (.arr .bool out_6 false))]
noncomputable def q_ref01_Field_0 (m0 : Nat) : K (ResD [((.int .i64), [])]) := fin E_ref01_Field [.tmp 6] 0 [((.int .i64), [])]
noncomputable def cd_ref01_Field_1 : Code := (rgt (rgt (rgt (rgt b_ref01_Field))))
noncomputable def q_ref01_Field_1 (m0 : Nat) : K (ResD [((.int .i64), [])]) := seqK E_ref01_Field (evJ E_ref01_Field (drE E_ref01_Field) m0) cd_ref01_Field_1 0 (evC E_ref01_Field (evJ E_ref01_Field (drE E_ref01_Field) m0) (drE E_ref01_Field) cd_ref01_Field_1 0) (q_ref01_Field_0 m0)
noncomputable def q_ref01_Field_2 (m0 : Nat) : K (ResD [((.int .i64), [])]) := blockK 0 (q_ref01_Field_1 m0)
noncomputable def cd_ref01_Field_2 : Code := (lft (lft (rgt (lft (rgt (rgt (rgt b_ref01_Field)))))))
theorem st_ref01_Field_j0 (m0 : Nat) (n : Nat) (at_2 : Int) (w_3 : Int) (k_4 : Int) (b_5 : (List Bool)) (out_6 : (List Bool)) : evJ E_ref01_Field (drE E_ref01_Field) (n + 1) (.loop cd_ref01_Field_2) 0 (sg_ref01_Field_0 at_2 w_3 k_4 b_5 out_6) (q_ref01_Field_2 m0) = ref01_Field.S0 (fun at_2 w_3 k_4 b_5 out_6 => evJ E_ref01_Field (drE E_ref01_Field) n (.loop cd_ref01_Field_2) 0 (sg_ref01_Field_0 at_2 w_3 k_4 b_5 out_6) (q_ref01_Field_2 m0)) at_2 w_3 k_4 b_5 out_6 := by kernel_rfl
theorem J_ref01_Field_0 (m0 : Nat) : ∀ (n : Nat) (at_2 : Int) (w_3 : Int) (k_4 : Int) (b_5 : (List Bool)) (out_6 : (List Bool)), evJ E_ref01_Field (drE E_ref01_Field) n (.loop cd_ref01_Field_2) 0 (sg_ref01_Field_0 at_2 w_3 k_4 b_5 out_6) (q_ref01_Field_2 m0) = ref01_Field.l0 n at_2 w_3 k_4 b_5 out_6 := by
  intro n
  induction n with
  | zero => intros; rfl
  | succ n ih =>
    intro at_2 w_3 k_4 b_5 out_6
    have e0 : (fun at_2 w_3 k_4 b_5 out_6 => evJ E_ref01_Field (drE E_ref01_Field) n (.loop cd_ref01_Field_2) 0 (sg_ref01_Field_0 at_2 w_3 k_4 b_5 out_6) (q_ref01_Field_2 m0)) = (ref01_Field.l0 n) := by funext at_2 w_3 k_4 b_5 out_6; exact ih at_2 w_3 k_4 b_5 out_6
    refine (st_ref01_Field_j0 m0 n at_2 w_3 k_4 b_5 out_6).trans ?_
    rw [e0]; rfl
theorem st_ref01_Field (m0 : Nat) (word : Int) (xat : Int) (w : Int) : evC E_ref01_Field (evJ E_ref01_Field (drE E_ref01_Field) m0) (drE E_ref01_Field) b_ref01_Field 0 (st0 [.val (.int .i64), .val (.int .i64), .val (.int .i64)] (word, xat, w, ())) (fin E_ref01_Field [.tmp 6] 0 [((.int .i64), [])]) = ref01_Field.S (fun at_2 w_3 k_4 b_5 out_6 => evJ E_ref01_Field (drE E_ref01_Field) m0 (.loop cd_ref01_Field_2) 0 (sg_ref01_Field_0 at_2 w_3 k_4 b_5 out_6) (q_ref01_Field_2 m0)) word xat w := by kernel_rfl
theorem ev_ref01_Field (word : Int) (xat : Int) (w : Int) : evC E_ref01_Field (evJ E_ref01_Field (drE E_ref01_Field) fu) (drE E_ref01_Field) b_ref01_Field 0 (st0 [.val (.int .i64), .val (.int .i64), .val (.int .i64)] (word, xat, w, ())) (fin E_ref01_Field [.tmp 6] 0 [((.int .i64), [])]) = ref01_Field word xat w := by
  have e0 : (fun at_2 w_3 k_4 b_5 out_6 => evJ E_ref01_Field (drE E_ref01_Field) fu (.loop cd_ref01_Field_2) 0 (sg_ref01_Field_0 at_2 w_3 k_4 b_5 out_6) (q_ref01_Field_2 fu)) = (ref01_Field.l0 fu) := by funext at_2 w_3 k_4 b_5 out_6; exact J_ref01_Field_0 fu fu at_2 w_3 k_4 b_5 out_6
  refine (st_ref01_Field fu word xat w).trans ?_
  rw [e0]; rfl
@[reducible] def sp_ref01_Field   : AM.Spec := AM.spec [.val (.int .i64), .val (.int .i64), .val (.int .i64)] [((.int .i64), [])] (fun x => ref01_Field x.1 x.2.1 x.2.2.1)
theorem c_ref01_Field : Contract Tryd.prog 51 sp_ref01_Field :=
  contract_of (Tab.envOk tabOk _ _) calls_ref01_Field tabOk.mixed (fn := Tryd.f51) (c := b_ref01_Field) (ts := [.tmp 6]) (by kernel_rfl) (by kernel_rfl) (by kernel_rfl) (by decide) (by kernel_rfl) (by decide) rfl fun x _ h => ⟨fu, (ev_ref01_Field x.1 x.2.1 x.2.2.1).trans h⟩

/-! peristyle/peristyleref02.Put -/
@[reducible] noncomputable def E_ref02_Put : Env := tab.env (AM.look [(50, sp_ref01_Zig), (51, sp_ref01_Field)]) ⟨[(0, ⟨[(3, true), (4, true)], []⟩)], [], [], ⟨[(2, true)], []⟩, [], [50, 51]⟩
theorem calls_ref02_Put : CallsOk Tryd.prog E_ref02_Put := callsOk_of ⟨⟨c_ref01_Zig, Tryd.call50, fun _ => words_spec rfl⟩, ⟨⟨c_ref01_Field, Tryd.call51, fun _ => words_spec rfl⟩, trivial⟩⟩
noncomputable def b_ref02_Put : Code := (Tryd.f40.body).getD .skip
noncomputable def sg_ref02_Put_0 (w_2 : Int) (out_3 : (List Int)) : St := mk [(3, .dat (.int .i64) w_2 []), (4, .dat (.sl (.int .u8)) out_3 [⟨0, 257, 0, 0⟩])] []
noncomputable def q_ref02_Put_0 (m0 : Nat) : K (ResD [(.str, [])]) := fin E_ref02_Put [.tmp 2] 0 [(.str, [])]
noncomputable def q_ref02_Put_1 (m0 : Nat) : K (ResD [(.str, [])]) := blockK 0 (q_ref02_Put_0 m0)
noncomputable def cd_ref02_Put_1 : Code := (lft (lft (rgt (rgt (rgt b_ref02_Put)))))
theorem st_ref02_Put_j0 (m0 : Nat) (n : Nat) (w_2 : Int) (out_3 : (List Int)) : evJ E_ref02_Put (drE E_ref02_Put) (n + 1) (.loop cd_ref02_Put_1) 0 (sg_ref02_Put_0 w_2 out_3) (q_ref02_Put_1 m0) = ref02_Put.S0 (fun w_2 out_3 => evJ E_ref02_Put (drE E_ref02_Put) n (.loop cd_ref02_Put_1) 0 (sg_ref02_Put_0 w_2 out_3) (q_ref02_Put_1 m0)) w_2 out_3 := by kernel_rfl
theorem J_ref02_Put_0 (m0 : Nat) : ∀ (n : Nat) (w_2 : Int) (out_3 : (List Int)), evJ E_ref02_Put (drE E_ref02_Put) n (.loop cd_ref02_Put_1) 0 (sg_ref02_Put_0 w_2 out_3) (q_ref02_Put_1 m0) = ref02_Put.l0 n w_2 out_3 := by
  intro n
  induction n with
  | zero => intros; rfl
  | succ n ih =>
    intro w_2 out_3
    have e0 : (fun w_2 out_3 => evJ E_ref02_Put (drE E_ref02_Put) n (.loop cd_ref02_Put_1) 0 (sg_ref02_Put_0 w_2 out_3) (q_ref02_Put_1 m0)) = (ref02_Put.l0 n) := by funext w_2 out_3; exact ih w_2 out_3
    refine (st_ref02_Put_j0 m0 n w_2 out_3).trans ?_
    rw [e0]; rfl
theorem st_ref02_Put (m0 : Nat) (xn : Int) : evC E_ref02_Put (evJ E_ref02_Put (drE E_ref02_Put) m0) (drE E_ref02_Put) b_ref02_Put 0 (st0 [.val (.int .i64)] (xn, ())) (fin E_ref02_Put [.tmp 2] 0 [(.str, [])]) = ref02_Put.S (fun w_2 out_3 => evJ E_ref02_Put (drE E_ref02_Put) m0 (.loop cd_ref02_Put_1) 0 (sg_ref02_Put_0 w_2 out_3) (q_ref02_Put_1 m0)) xn := by kernel_rfl
theorem ev_ref02_Put (xn : Int) : evC E_ref02_Put (evJ E_ref02_Put (drE E_ref02_Put) fu) (drE E_ref02_Put) b_ref02_Put 0 (st0 [.val (.int .i64)] (xn, ())) (fin E_ref02_Put [.tmp 2] 0 [(.str, [])]) = ref02_Put xn := by
  have e0 : (fun w_2 out_3 => evJ E_ref02_Put (drE E_ref02_Put) fu (.loop cd_ref02_Put_1) 0 (sg_ref02_Put_0 w_2 out_3) (q_ref02_Put_1 fu)) = (ref02_Put.l0 fu) := by funext w_2 out_3; exact J_ref02_Put_0 fu fu w_2 out_3
  refine (st_ref02_Put fu xn).trans ?_
  rw [e0]; rfl
@[reducible] def sp_ref02_Put   : AM.Spec := AM.spec [.val (.int .i64)] [(.str, [])] (fun x => ref02_Put x.1)
theorem c_ref02_Put : Contract Tryd.prog 40 sp_ref02_Put :=
  contract_of (Tab.envOk tabOk _ _) calls_ref02_Put tabOk.mixed (fn := Tryd.f40) (c := b_ref02_Put) (ts := [.tmp 2]) (by kernel_rfl) (by kernel_rfl) (by kernel_rfl) (by decide) (by kernel_rfl) (by decide) rfl fun x _ h => ⟨fu, (ev_ref02_Put x.1).trans h⟩

/-! peristyle/peristyleref06.bytes -/
@[reducible] noncomputable def E_ref06_bytes : Env := tab.env (AM.look [(40, sp_ref02_Put)]) ⟨[], [], [], ⟨[(2, true)], []⟩, [], [40]⟩
theorem calls_ref06_bytes : CallsOk Tryd.prog E_ref06_bytes := callsOk_of ⟨⟨c_ref02_Put, Tryd.call40, fun _ => words_spec rfl⟩, trivial⟩
noncomputable def b_ref06_bytes : Code := (Tryd.f27.body).getD .skip
theorem st_ref06_bytes (m0 : Nat) (c : (Int × (Int × ByteArray))) : evC E_ref06_bytes (evJ E_ref06_bytes (drE E_ref06_bytes) m0) (drE E_ref06_bytes) b_ref06_bytes 0 (st0 [.val (.pair (.int .i64) (.pair (.int .i64) .str))] (c, ())) (fin E_ref06_bytes [.tmp 2] 0 [(.str, [])]) = ref06_bytes c := by kernel_rfl
theorem ev_ref06_bytes (c : (Int × (Int × ByteArray))) : evC E_ref06_bytes (evJ E_ref06_bytes (drE E_ref06_bytes) fu) (drE E_ref06_bytes) b_ref06_bytes 0 (st0 [.val (.pair (.int .i64) (.pair (.int .i64) .str))] (c, ())) (fin E_ref06_bytes [.tmp 2] 0 [(.str, [])]) = ref06_bytes c := st_ref06_bytes fu c
@[reducible] def sp_ref06_bytes   : AM.Spec := AM.spec [.val (.pair (.int .i64) (.pair (.int .i64) .str))] [(.str, [])] (fun x => ref06_bytes x.1)
theorem c_ref06_bytes : Contract Tryd.prog 27 sp_ref06_bytes :=
  contract_of (Tab.envOk tabOk _ _) calls_ref06_bytes tabOk.mixed (fn := Tryd.f27) (c := b_ref06_bytes) (ts := [.tmp 2]) (by kernel_rfl) (by kernel_rfl) (by kernel_rfl) (by decide) (by kernel_rfl) (by decide) rfl fun x _ h => ⟨fu, (ev_ref06_bytes x.1).trans h⟩

/-! peristyle/peristyleref06.Put -/
@[reducible] noncomputable def E_ref06_Put : Env := tab.env (AM.look [(19, sp_ref06_May), (27, sp_ref06_bytes)]) ⟨[(0, ⟨[(0, true), (4, true), (5, true)], []⟩)], [], [], ⟨[(2, true), (3, true)], []⟩, [], [19, 27]⟩
theorem calls_ref06_Put : CallsOk Tryd.prog E_ref06_Put := callsOk_of ⟨⟨c_ref06_May, Tryd.call19, fun _ => words_spec rfl⟩, ⟨⟨c_ref06_bytes, Tryd.call27, fun _ => words_spec rfl⟩, trivial⟩⟩
noncomputable def b_ref06_Put : Code := (Tryd.f11.body).getD .skip
noncomputable def sg_ref06_Put_0 (r_1 : (List (Int × (Int × ByteArray)))) (s_2 : ByteArray) (i_3 : Int) : St := mk [(0, .dat (.sl (.pair (.int .i64) (.pair (.int .i64) .str))) r_1 []), (4, .dat .str s_2 []), (5, .dat (.int .i64) i_3 [])] []
noncomputable def q_ref06_Put_0 (m0 : Nat) : K (ResD [(.str, []), ((.int .i64), [])]) := fin E_ref06_Put [.tmp 2, .tmp 3] 0 [(.str, []), ((.int .i64), [])]
noncomputable def cd_ref06_Put_1 : Code := (rgt (rgt (rgt (rgt b_ref06_Put))))
noncomputable def q_ref06_Put_1 (m0 : Nat) : K (ResD [(.str, []), ((.int .i64), [])]) := seqK E_ref06_Put (evJ E_ref06_Put (drE E_ref06_Put) m0) cd_ref06_Put_1 0 (evC E_ref06_Put (evJ E_ref06_Put (drE E_ref06_Put) m0) (drE E_ref06_Put) cd_ref06_Put_1 0) (q_ref06_Put_0 m0)
noncomputable def q_ref06_Put_2 (m0 : Nat) : K (ResD [(.str, []), ((.int .i64), [])]) := blockK 0 (q_ref06_Put_1 m0)
noncomputable def cd_ref06_Put_2 : Code := (lft (lft (rgt (lft (rgt (rgt (rgt b_ref06_Put)))))))
theorem st_ref06_Put_j0 (m0 : Nat) (n : Nat) (r_1 : (List (Int × (Int × ByteArray)))) (s_2 : ByteArray) (i_3 : Int) : evJ E_ref06_Put (drE E_ref06_Put) (n + 1) (.loop cd_ref06_Put_2) 0 (sg_ref06_Put_0 r_1 s_2 i_3) (q_ref06_Put_2 m0) = ref06_Put.S0 (fun r_1 s_2 i_3 => evJ E_ref06_Put (drE E_ref06_Put) n (.loop cd_ref06_Put_2) 0 (sg_ref06_Put_0 r_1 s_2 i_3) (q_ref06_Put_2 m0)) r_1 s_2 i_3 := by kernel_rfl
theorem J_ref06_Put_0 (m0 : Nat) : ∀ (n : Nat) (r_1 : (List (Int × (Int × ByteArray)))) (s_2 : ByteArray) (i_3 : Int), evJ E_ref06_Put (drE E_ref06_Put) n (.loop cd_ref06_Put_2) 0 (sg_ref06_Put_0 r_1 s_2 i_3) (q_ref06_Put_2 m0) = ref06_Put.l0 n r_1 s_2 i_3 := by
  intro n
  induction n with
  | zero => intros; rfl
  | succ n ih =>
    intro r_1 s_2 i_3
    have e0 : (fun r_1 s_2 i_3 => evJ E_ref06_Put (drE E_ref06_Put) n (.loop cd_ref06_Put_2) 0 (sg_ref06_Put_0 r_1 s_2 i_3) (q_ref06_Put_2 m0)) = (ref06_Put.l0 n) := by funext r_1 s_2 i_3; exact ih r_1 s_2 i_3
    refine (st_ref06_Put_j0 m0 n r_1 s_2 i_3).trans ?_
    rw [e0]; rfl
theorem st_ref06_Put (m0 : Nat) (r : (List (Int × (Int × ByteArray)))) : evC E_ref06_Put (evJ E_ref06_Put (drE E_ref06_Put) m0) (drE E_ref06_Put) b_ref06_Put 0 (st0 [.val (.sl (.pair (.int .i64) (.pair (.int .i64) .str)))] (r, ())) (fin E_ref06_Put [.tmp 2, .tmp 3] 0 [(.str, []), ((.int .i64), [])]) = ref06_Put.S (fun r_1 s_2 i_3 => evJ E_ref06_Put (drE E_ref06_Put) m0 (.loop cd_ref06_Put_2) 0 (sg_ref06_Put_0 r_1 s_2 i_3) (q_ref06_Put_2 m0)) r := by kernel_rfl
theorem ev_ref06_Put (r : (List (Int × (Int × ByteArray)))) : evC E_ref06_Put (evJ E_ref06_Put (drE E_ref06_Put) fu) (drE E_ref06_Put) b_ref06_Put 0 (st0 [.val (.sl (.pair (.int .i64) (.pair (.int .i64) .str)))] (r, ())) (fin E_ref06_Put [.tmp 2, .tmp 3] 0 [(.str, []), ((.int .i64), [])]) = ref06_Put r := by
  have e0 : (fun r_1 s_2 i_3 => evJ E_ref06_Put (drE E_ref06_Put) fu (.loop cd_ref06_Put_2) 0 (sg_ref06_Put_0 r_1 s_2 i_3) (q_ref06_Put_2 fu)) = (ref06_Put.l0 fu) := by funext r_1 s_2 i_3; exact J_ref06_Put_0 fu fu r_1 s_2 i_3
  refine (st_ref06_Put fu r).trans ?_
  rw [e0]; rfl
@[reducible] def sp_ref06_Put   : AM.Spec := AM.spec [.val (.sl (.pair (.int .i64) (.pair (.int .i64) .str)))] [(.str, []), ((.int .i64), [])] (fun x => ref06_Put x.1)
theorem c_ref06_Put : Contract Tryd.prog 11 sp_ref06_Put :=
  contract_of (Tab.envOk tabOk _ _) calls_ref06_Put tabOk.mixed (fn := Tryd.f11) (c := b_ref06_Put) (ts := [.tmp 2, .tmp 3]) (by kernel_rfl) (by kernel_rfl) (by kernel_rfl) (by decide) (by kernel_rfl) (by decide) rfl fun x _ h => ⟨fu, (ev_ref06_Put x.1).trans h⟩

/-! peristyle/peristyleref01.With -/
@[reducible] noncomputable def E_ref01_With : Env := tab.env (AM.look [(70, sp_ref01_Of), (71, sp_ref01_Word)]) ⟨[(0, ⟨[(1, true), (2, true), (9, true), (10, true), (11, true)], [(9, true), (10, true)]⟩)], [], [], ⟨[(8, true)], []⟩, [], [70, 71]⟩
theorem calls_ref01_With : CallsOk Tryd.prog E_ref01_With := callsOk_of ⟨⟨c_ref01_Of, Tryd.call70, fun _ => words_spec rfl⟩, ⟨⟨c_ref01_Word, Tryd.call71, fun _ => words_spec rfl⟩, trivial⟩⟩
noncomputable def b_ref01_With : Code := (Tryd.f54.body).getD .skip
noncomputable def sg_ref01_With_0 (at_3 : Int) (w_4 : Int) (k_5 : Int) (b_6 : (List Bool)) (c_7 : (List Bool)) : St := mk [(1, .dat (.int .i64) at_3 []), (2, .dat (.int .i64) w_4 []), (9, .ptr 9 0 0), (10, .ptr 10 0 0), (11, .dat (.int .i64) k_5 [])] [(9, some (.arr .bool b_6 false)), (10, some (.arr .bool c_7 false))]
noncomputable def q_ref01_With_0 (m0 : Nat) : K (ResD [((.int .i64), [])]) := fin E_ref01_With [.tmp 8] 0 [((.int .i64), [])]
noncomputable def cd_ref01_With_1 : Code := (rgt (rgt (rgt b_ref01_With)))
noncomputable def q_ref01_With_1 (m0 : Nat) : K (ResD [((.int .i64), [])]) := seqK E_ref01_With (evJ E_ref01_With (drE E_ref01_With) m0) cd_ref01_With_1 0 (evC E_ref01_With (evJ E_ref01_With (drE E_ref01_With) m0) (drE E_ref01_With) cd_ref01_With_1 0) (q_ref01_With_0 m0)
noncomputable def q_ref01_With_2 (m0 : Nat) : K (ResD [((.int .i64), [])]) := blockK 0 (q_ref01_With_1 m0)
noncomputable def cd_ref01_With_2 : Code := (lft (lft (rgt (lft (rgt (rgt b_ref01_With))))))
theorem st_ref01_With_j0 (m0 : Nat) (n : Nat) (at_3 : Int) (w_4 : Int) (k_5 : Int) (b_6 : (List Bool)) (c_7 : (List Bool)) : evJ E_ref01_With (drE E_ref01_With) (n + 1) (.loop cd_ref01_With_2) 0 (sg_ref01_With_0 at_3 w_4 k_5 b_6 c_7) (q_ref01_With_2 m0) = ref01_With.S0 (fun at_3 w_4 k_5 b_6 c_7 => evJ E_ref01_With (drE E_ref01_With) n (.loop cd_ref01_With_2) 0 (sg_ref01_With_0 at_3 w_4 k_5 b_6 c_7) (q_ref01_With_2 m0)) at_3 w_4 k_5 b_6 c_7 := by kernel_rfl
theorem J_ref01_With_0 (m0 : Nat) : ∀ (n : Nat) (at_3 : Int) (w_4 : Int) (k_5 : Int) (b_6 : (List Bool)) (c_7 : (List Bool)), evJ E_ref01_With (drE E_ref01_With) n (.loop cd_ref01_With_2) 0 (sg_ref01_With_0 at_3 w_4 k_5 b_6 c_7) (q_ref01_With_2 m0) = ref01_With.l0 n at_3 w_4 k_5 b_6 c_7 := by
  intro n
  induction n with
  | zero => intros; rfl
  | succ n ih =>
    intro at_3 w_4 k_5 b_6 c_7
    have e0 : (fun at_3 w_4 k_5 b_6 c_7 => evJ E_ref01_With (drE E_ref01_With) n (.loop cd_ref01_With_2) 0 (sg_ref01_With_0 at_3 w_4 k_5 b_6 c_7) (q_ref01_With_2 m0)) = (ref01_With.l0 n) := by funext at_3 w_4 k_5 b_6 c_7; exact ih at_3 w_4 k_5 b_6 c_7
    refine (st_ref01_With_j0 m0 n at_3 w_4 k_5 b_6 c_7).trans ?_
    rw [e0]; rfl
theorem st_ref01_With (m0 : Nat) (word : Int) (xat : Int) (w : Int) (v : Int) : evC E_ref01_With (evJ E_ref01_With (drE E_ref01_With) m0) (drE E_ref01_With) b_ref01_With 0 (st0 [.val (.int .i64), .val (.int .i64), .val (.int .i64), .val (.int .i64)] (word, xat, w, v, ())) (fin E_ref01_With [.tmp 8] 0 [((.int .i64), [])]) = ref01_With.S (fun at_3 w_4 k_5 b_6 c_7 => evJ E_ref01_With (drE E_ref01_With) m0 (.loop cd_ref01_With_2) 0 (sg_ref01_With_0 at_3 w_4 k_5 b_6 c_7) (q_ref01_With_2 m0)) word xat w v := by kernel_rfl
theorem ev_ref01_With (word : Int) (xat : Int) (w : Int) (v : Int) : evC E_ref01_With (evJ E_ref01_With (drE E_ref01_With) fu) (drE E_ref01_With) b_ref01_With 0 (st0 [.val (.int .i64), .val (.int .i64), .val (.int .i64), .val (.int .i64)] (word, xat, w, v, ())) (fin E_ref01_With [.tmp 8] 0 [((.int .i64), [])]) = ref01_With word xat w v := by
  have e0 : (fun at_3 w_4 k_5 b_6 c_7 => evJ E_ref01_With (drE E_ref01_With) fu (.loop cd_ref01_With_2) 0 (sg_ref01_With_0 at_3 w_4 k_5 b_6 c_7) (q_ref01_With_2 fu)) = (ref01_With.l0 fu) := by funext at_3 w_4 k_5 b_6 c_7; exact J_ref01_With_0 fu fu at_3 w_4 k_5 b_6 c_7
  refine (st_ref01_With fu word xat w v).trans ?_
  rw [e0]; rfl
@[reducible] def sp_ref01_With   : AM.Spec := AM.spec [.val (.int .i64), .val (.int .i64), .val (.int .i64), .val (.int .i64)] [((.int .i64), [])] (fun x => ref01_With x.1 x.2.1 x.2.2.1 x.2.2.2.1)
theorem c_ref01_With : Contract Tryd.prog 54 sp_ref01_With :=
  contract_of (Tab.envOk tabOk _ _) calls_ref01_With tabOk.mixed (fn := Tryd.f54) (c := b_ref01_With) (ts := [.tmp 8]) (by kernel_rfl) (by kernel_rfl) (by kernel_rfl) (by decide) (by kernel_rfl) (by decide) rfl fun x _ h => ⟨fu, (ev_ref01_With x.1 x.2.1 x.2.2.1 x.2.2.2.1).trans h⟩

/-! peristyle/peristyleref01.Zag -/
@[reducible] noncomputable def E_ref01_Zag : Env := tab.env (AM.look [(70, sp_ref01_Of), (71, sp_ref01_Word)]) ⟨[(0, ⟨[(3, true), (4, true), (5, true)], [(3, true), (4, true)]⟩)], [], [(7, ⟨[(3, true), (4, true)], [(3, true), (4, true)]⟩)], ⟨[(2, true)], []⟩, [], [70, 71]⟩
theorem calls_ref01_Zag : CallsOk Tryd.prog E_ref01_Zag := callsOk_of ⟨⟨c_ref01_Of, Tryd.call70, fun _ => words_spec rfl⟩, ⟨⟨c_ref01_Word, Tryd.call71, fun _ => words_spec rfl⟩, trivial⟩⟩
noncomputable def b_ref01_Zag : Code := (Tryd.f55.body).getD .skip
noncomputable def sg_ref01_Zag_1 (b_5 : (List Bool)) (out_6 : (List Bool)) : St := mk [(3, .ptr 3 0 0), (4, .ptr 4 0 0)] [(3, some (.arr .bool b_5 false)), (4, some (.arr .bool out_6 false))]
noncomputable def sg_ref01_Zag_0 (k_2 : Int) (b_3 : (List Bool)) (out_4 : (List Bool)) : St := mk [(3, .ptr 3 0 0), (4, .ptr 4 0 0), (5, .dat (.int .i64) k_2 [])] [(3, some (.arr .bool b_3 false)), (4, some (.arr .bool out_4 false))]
noncomputable def q_ref01_Zag_0 (m0 : Nat) : K (ResD [((.int .i64), [])]) := fin E_ref01_Zag [.tmp 2] 0 [((.int .i64), [])]
noncomputable def cd_ref01_Zag_1 : Code := (rgt (rgt (rgt (rgt b_ref01_Zag))))
theorem st_ref01_Zag_j1 (m0 : Nat) (n : Nat) (b_5 : (List Bool)) (out_6 : (List Bool)) : evJ E_ref01_Zag (drE E_ref01_Zag) (n + 1) (.tail cd_ref01_Zag_1) 0 (sg_ref01_Zag_1 b_5 out_6) (q_ref01_Zag_0 m0) = ref01_Zag.S1 b_5 out_6 := by kernel_rfl
theorem J_ref01_Zag_1 (m0 : Nat) : ∀ (n : Nat) (b_5 : (List Bool)) (out_6 : (List Bool)), evJ E_ref01_Zag (drE E_ref01_Zag) n (.tail cd_ref01_Zag_1) 0 (sg_ref01_Zag_1 b_5 out_6) (q_ref01_Zag_0 m0) = ref01_Zag.t1 n b_5 out_6 := by
  intro n
  induction n with
  | zero => intros; rfl
  | succ n ih =>
    intro b_5 out_6
    have e1 : (fun b_5 out_6 => evJ E_ref01_Zag (drE E_ref01_Zag) n (.tail cd_ref01_Zag_1) 0 (sg_ref01_Zag_1 b_5 out_6) (q_ref01_Zag_0 m0)) = (ref01_Zag.t1 n) := by funext b_5 out_6; exact ih b_5 out_6
    refine (st_ref01_Zag_j1 m0 n b_5 out_6).trans ?_
    rfl
noncomputable def q_ref01_Zag_1 (m0 : Nat) : K (ResD [((.int .i64), [])]) := seqK E_ref01_Zag (evJ E_ref01_Zag (drE E_ref01_Zag) m0) cd_ref01_Zag_1 0 (evC E_ref01_Zag (evJ E_ref01_Zag (drE E_ref01_Zag) m0) (drE E_ref01_Zag) cd_ref01_Zag_1 0) (q_ref01_Zag_0 m0)
noncomputable def q_ref01_Zag_2 (m0 : Nat) : K (ResD [((.int .i64), [])]) := blockK 0 (q_ref01_Zag_1 m0)
noncomputable def cd_ref01_Zag_2 : Code := (lft (lft (rgt (lft (rgt (rgt (rgt b_ref01_Zag)))))))
theorem st_ref01_Zag_j0 (m0 : Nat) (n : Nat) (k_2 : Int) (b_3 : (List Bool)) (out_4 : (List Bool)) : evJ E_ref01_Zag (drE E_ref01_Zag) (n + 1) (.loop cd_ref01_Zag_2) 0 (sg_ref01_Zag_0 k_2 b_3 out_4) (q_ref01_Zag_2 m0) = ref01_Zag.S0 (fun b_5 out_6 => evJ E_ref01_Zag (drE E_ref01_Zag) m0 (.tail cd_ref01_Zag_1) 0 (sg_ref01_Zag_1 b_5 out_6) (q_ref01_Zag_0 m0)) (fun k_2 b_3 out_4 => evJ E_ref01_Zag (drE E_ref01_Zag) n (.loop cd_ref01_Zag_2) 0 (sg_ref01_Zag_0 k_2 b_3 out_4) (q_ref01_Zag_2 m0)) k_2 b_3 out_4 := by kernel_rfl
theorem J_ref01_Zag_0 (m0 : Nat) : ∀ (n : Nat) (k_2 : Int) (b_3 : (List Bool)) (out_4 : (List Bool)), evJ E_ref01_Zag (drE E_ref01_Zag) n (.loop cd_ref01_Zag_2) 0 (sg_ref01_Zag_0 k_2 b_3 out_4) (q_ref01_Zag_2 m0) = ref01_Zag.l0 (fun b_5 out_6 => evJ E_ref01_Zag (drE E_ref01_Zag) m0 (.tail cd_ref01_Zag_1) 0 (sg_ref01_Zag_1 b_5 out_6) (q_ref01_Zag_0 m0)) n k_2 b_3 out_4 := by
  intro n
  induction n with
  | zero => intros; rfl
  | succ n ih =>
    intro k_2 b_3 out_4
    have e0 : (fun k_2 b_3 out_4 => evJ E_ref01_Zag (drE E_ref01_Zag) n (.loop cd_ref01_Zag_2) 0 (sg_ref01_Zag_0 k_2 b_3 out_4) (q_ref01_Zag_2 m0)) = (ref01_Zag.l0 (fun b_5 out_6 => evJ E_ref01_Zag (drE E_ref01_Zag) m0 (.tail cd_ref01_Zag_1) 0 (sg_ref01_Zag_1 b_5 out_6) (q_ref01_Zag_0 m0)) n) := by funext k_2 b_3 out_4; exact ih k_2 b_3 out_4
    refine (st_ref01_Zag_j0 m0 n k_2 b_3 out_4).trans ?_
    rw [e0]; rfl
theorem st_ref01_Zag (m0 : Nat) (word : Int) : evC E_ref01_Zag (evJ E_ref01_Zag (drE E_ref01_Zag) m0) (drE E_ref01_Zag) b_ref01_Zag 0 (st0 [.val (.int .i64)] (word, ())) (fin E_ref01_Zag [.tmp 2] 0 [((.int .i64), [])]) = ref01_Zag.S (fun k_2 b_3 out_4 => evJ E_ref01_Zag (drE E_ref01_Zag) m0 (.loop cd_ref01_Zag_2) 0 (sg_ref01_Zag_0 k_2 b_3 out_4) (q_ref01_Zag_2 m0)) word := by kernel_rfl
theorem ev_ref01_Zag (word : Int) : evC E_ref01_Zag (evJ E_ref01_Zag (drE E_ref01_Zag) fu) (drE E_ref01_Zag) b_ref01_Zag 0 (st0 [.val (.int .i64)] (word, ())) (fin E_ref01_Zag [.tmp 2] 0 [((.int .i64), [])]) = ref01_Zag word := by
  have e1 : (fun b_5 out_6 => evJ E_ref01_Zag (drE E_ref01_Zag) fu (.tail cd_ref01_Zag_1) 0 (sg_ref01_Zag_1 b_5 out_6) (q_ref01_Zag_0 fu)) = (ref01_Zag.t1 fu) := by funext b_5 out_6; exact J_ref01_Zag_1 fu fu b_5 out_6
  have e0 : (fun k_2 b_3 out_4 => evJ E_ref01_Zag (drE E_ref01_Zag) fu (.loop cd_ref01_Zag_2) 0 (sg_ref01_Zag_0 k_2 b_3 out_4) (q_ref01_Zag_2 fu)) = (ref01_Zag.l0 (ref01_Zag.t1 fu) fu) := by rw [← e1]; funext k_2 b_3 out_4; exact J_ref01_Zag_0 fu fu k_2 b_3 out_4
  refine (st_ref01_Zag fu word).trans ?_
  rw [e0]; rfl
@[reducible] def sp_ref01_Zag   : AM.Spec := AM.spec [.val (.int .i64)] [((.int .i64), [])] (fun x => ref01_Zag x.1)
theorem c_ref01_Zag : Contract Tryd.prog 55 sp_ref01_Zag :=
  contract_of (Tab.envOk tabOk _ _) calls_ref01_Zag tabOk.mixed (fn := Tryd.f55) (c := b_ref01_Zag) (ts := [.tmp 2]) (by kernel_rfl) (by kernel_rfl) (by kernel_rfl) (by decide) (by kernel_rfl) (by decide) rfl fun x _ h => ⟨fu, (ev_ref01_Zag x.1).trans h⟩

/-! peristyle/peristyleref02.Take -/
@[reducible] noncomputable def E_ref02_Take : Env := tab.env (AM.look [(54, sp_ref01_With), (55, sp_ref01_Zag), (40, sp_ref02_Put)]) ⟨[(0, ⟨[(0, true), (5, true), (6, true)], []⟩)], [], [], ⟨[(2, true), (3, true), (4, true)], []⟩, [], [40, 54, 55]⟩
theorem calls_ref02_Take : CallsOk Tryd.prog E_ref02_Take := callsOk_of ⟨⟨c_ref01_With, Tryd.call54, fun _ => words_spec rfl⟩, ⟨⟨c_ref01_Zag, Tryd.call55, fun _ => words_spec rfl⟩, ⟨⟨c_ref02_Put, Tryd.call40, fun _ => words_spec rfl⟩, trivial⟩⟩⟩
noncomputable def b_ref02_Take : Code := (Tryd.f42.body).getD .skip
noncomputable def sg_ref02_Take_0 (s_1 : ByteArray) (w_2 : Int) (i_3 : Int) : St := mk [(0, .dat .str s_1 []), (5, .dat (.int .i64) w_2 []), (6, .dat (.int .i64) i_3 [])] []
noncomputable def q_ref02_Take_0 (m0 : Nat) : K (ResD [((.int .i64), []), ((.int .i64), []), ((.int .i64), [])]) := fin E_ref02_Take [.tmp 2, .tmp 3, .tmp 4] 0 [((.int .i64), []), ((.int .i64), []), ((.int .i64), [])]
noncomputable def cd_ref02_Take_1 : Code := (rgt (rgt (rgt b_ref02_Take)))
noncomputable def q_ref02_Take_1 (m0 : Nat) : K (ResD [((.int .i64), []), ((.int .i64), []), ((.int .i64), [])]) := seqK E_ref02_Take (evJ E_ref02_Take (drE E_ref02_Take) m0) cd_ref02_Take_1 0 (evC E_ref02_Take (evJ E_ref02_Take (drE E_ref02_Take) m0) (drE E_ref02_Take) cd_ref02_Take_1 0) (q_ref02_Take_0 m0)
noncomputable def q_ref02_Take_2 (m0 : Nat) : K (ResD [((.int .i64), []), ((.int .i64), []), ((.int .i64), [])]) := blockK 0 (q_ref02_Take_1 m0)
noncomputable def cd_ref02_Take_2 : Code := (lft (lft (rgt (lft (rgt (rgt b_ref02_Take))))))
theorem st_ref02_Take_j0 (m0 : Nat) (n : Nat) (s_1 : ByteArray) (w_2 : Int) (i_3 : Int) : evJ E_ref02_Take (drE E_ref02_Take) (n + 1) (.loop cd_ref02_Take_2) 0 (sg_ref02_Take_0 s_1 w_2 i_3) (q_ref02_Take_2 m0) = ref02_Take.S0 (fun s_1 w_2 i_3 => evJ E_ref02_Take (drE E_ref02_Take) n (.loop cd_ref02_Take_2) 0 (sg_ref02_Take_0 s_1 w_2 i_3) (q_ref02_Take_2 m0)) s_1 w_2 i_3 := by kernel_rfl
theorem J_ref02_Take_0 (m0 : Nat) : ∀ (n : Nat) (s_1 : ByteArray) (w_2 : Int) (i_3 : Int), evJ E_ref02_Take (drE E_ref02_Take) n (.loop cd_ref02_Take_2) 0 (sg_ref02_Take_0 s_1 w_2 i_3) (q_ref02_Take_2 m0) = ref02_Take.l0 n s_1 w_2 i_3 := by
  intro n
  induction n with
  | zero => intros; rfl
  | succ n ih =>
    intro s_1 w_2 i_3
    have e0 : (fun s_1 w_2 i_3 => evJ E_ref02_Take (drE E_ref02_Take) n (.loop cd_ref02_Take_2) 0 (sg_ref02_Take_0 s_1 w_2 i_3) (q_ref02_Take_2 m0)) = (ref02_Take.l0 n) := by funext s_1 w_2 i_3; exact ih s_1 w_2 i_3
    refine (st_ref02_Take_j0 m0 n s_1 w_2 i_3).trans ?_
    rw [e0]; rfl
theorem st_ref02_Take (m0 : Nat) (s : ByteArray) : evC E_ref02_Take (evJ E_ref02_Take (drE E_ref02_Take) m0) (drE E_ref02_Take) b_ref02_Take 0 (st0 [.val .str] (s, ())) (fin E_ref02_Take [.tmp 2, .tmp 3, .tmp 4] 0 [((.int .i64), []), ((.int .i64), []), ((.int .i64), [])]) = ref02_Take.S (fun s_1 w_2 i_3 => evJ E_ref02_Take (drE E_ref02_Take) m0 (.loop cd_ref02_Take_2) 0 (sg_ref02_Take_0 s_1 w_2 i_3) (q_ref02_Take_2 m0)) s := by kernel_rfl
theorem ev_ref02_Take (s : ByteArray) : evC E_ref02_Take (evJ E_ref02_Take (drE E_ref02_Take) fu) (drE E_ref02_Take) b_ref02_Take 0 (st0 [.val .str] (s, ())) (fin E_ref02_Take [.tmp 2, .tmp 3, .tmp 4] 0 [((.int .i64), []), ((.int .i64), []), ((.int .i64), [])]) = ref02_Take s := by
  have e0 : (fun s_1 w_2 i_3 => evJ E_ref02_Take (drE E_ref02_Take) fu (.loop cd_ref02_Take_2) 0 (sg_ref02_Take_0 s_1 w_2 i_3) (q_ref02_Take_2 fu)) = (ref02_Take.l0 fu) := by funext s_1 w_2 i_3; exact J_ref02_Take_0 fu fu s_1 w_2 i_3
  refine (st_ref02_Take fu s).trans ?_
  rw [e0]; rfl
@[reducible] def sp_ref02_Take   : AM.Spec := AM.spec [.val .str] [((.int .i64), []), ((.int .i64), []), ((.int .i64), [])] (fun x => ref02_Take x.1)
theorem c_ref02_Take : Contract Tryd.prog 42 sp_ref02_Take :=
  contract_of (Tab.envOk tabOk _ _) calls_ref02_Take tabOk.mixed (fn := Tryd.f42) (c := b_ref02_Take) (ts := [.tmp 2, .tmp 3, .tmp 4]) (by kernel_rfl) (by kernel_rfl) (by kernel_rfl) (by decide) (by kernel_rfl) (by decide) rfl fun x _ h => ⟨fu, (ev_ref02_Take x.1).trans h⟩

/-! peristyle/peristyleref06.one -/
@[reducible] noncomputable def E_ref06_one : Env := tab.env (AM.look [(42, sp_ref02_Take)]) ⟨[], [], [], ⟨[(2, true), (3, true)], [(2, true)]⟩, [], [42]⟩
theorem calls_ref06_one : CallsOk Tryd.prog E_ref06_one := callsOk_of ⟨⟨c_ref02_Take, Tryd.call42, fun _ => words_spec rfl⟩, trivial⟩
noncomputable def b_ref06_one : Code := (Tryd.f29.body).getD .skip
theorem st_ref06_one (m0 : Nat) (s : ByteArray) : evC E_ref06_one (evJ E_ref06_one (drE E_ref06_one) m0) (drE E_ref06_one) b_ref06_one 0 (st0 [.val .str] (s, ())) (fin E_ref06_one [.cell 2 23, .tmp 3] 0 [((.pair (.int .i64) (.pair (.int .i64) .str)), []), ((.int .i64), [])]) = ref06_one s := by kernel_rfl
theorem ev_ref06_one (s : ByteArray) : evC E_ref06_one (evJ E_ref06_one (drE E_ref06_one) fu) (drE E_ref06_one) b_ref06_one 0 (st0 [.val .str] (s, ())) (fin E_ref06_one [.cell 2 23, .tmp 3] 0 [((.pair (.int .i64) (.pair (.int .i64) .str)), []), ((.int .i64), [])]) = ref06_one s := st_ref06_one fu s
@[reducible] def sp_ref06_one   : AM.Spec := AM.spec [.val .str] [((.pair (.int .i64) (.pair (.int .i64) .str)), []), ((.int .i64), [])] (fun x => ref06_one x.1)
theorem c_ref06_one : Contract Tryd.prog 29 sp_ref06_one :=
  contract_of (Tab.envOk tabOk _ _) calls_ref06_one tabOk.mixed (fn := Tryd.f29) (c := b_ref06_one) (ts := [.cell 2 23, .tmp 3]) (by kernel_rfl) (by kernel_rfl) (by kernel_rfl) (by decide) (by kernel_rfl) (by decide) rfl fun x _ h => ⟨fu, (ev_ref06_one x.1).trans h⟩

/-! peristyle/peristyleref06.Take -/
@[reducible] noncomputable def E_ref06_Take : Env := tab.env (AM.look [(29, sp_ref06_one)]) ⟨[(0, ⟨[(0, true), (5, true), (6, true), (7, true)], []⟩)], [], [], ⟨[(2, true), (3, true), (4, true)], []⟩, [], [29]⟩
theorem calls_ref06_Take : CallsOk Tryd.prog E_ref06_Take := callsOk_of ⟨⟨c_ref06_one, Tryd.call29, fun _ => words_spec rfl⟩, trivial⟩
noncomputable def b_ref06_Take : Code := (Tryd.f13.body).getD .skip
noncomputable def sg_ref06_Take_0 (s_1 : ByteArray) (at_2 : Int) (out_3 : (List (Int × (Int × ByteArray)))) (i_4 : Int) : St := mk [(0, .dat .str s_1 []), (5, .dat (.int .i64) at_2 []), (6, .dat (.sl (.pair (.int .i64) (.pair (.int .i64) .str))) out_3 [⟨0, 385, 0, 3⟩]), (7, .dat (.int .i64) i_4 [])] []
noncomputable def q_ref06_Take_0 (m0 : Nat) : K (ResD [((.sl (.pair (.int .i64) (.pair (.int .i64) .str))), [⟨0, 1, 0, 3⟩]), ((.int .i64), []), ((.int .i64), [])]) := fin E_ref06_Take [.tmp 2, .tmp 3, .tmp 4] 0 [((.sl (.pair (.int .i64) (.pair (.int .i64) .str))), [⟨0, 1, 0, 3⟩]), ((.int .i64), []), ((.int .i64), [])]
noncomputable def cd_ref06_Take_1 : Code := (rgt (rgt (rgt (rgt (rgt b_ref06_Take)))))
noncomputable def q_ref06_Take_1 (m0 : Nat) : K (ResD [((.sl (.pair (.int .i64) (.pair (.int .i64) .str))), [⟨0, 1, 0, 3⟩]), ((.int .i64), []), ((.int .i64), [])]) := seqK E_ref06_Take (evJ E_ref06_Take (drE E_ref06_Take) m0) cd_ref06_Take_1 0 (evC E_ref06_Take (evJ E_ref06_Take (drE E_ref06_Take) m0) (drE E_ref06_Take) cd_ref06_Take_1 0) (q_ref06_Take_0 m0)
noncomputable def q_ref06_Take_2 (m0 : Nat) : K (ResD [((.sl (.pair (.int .i64) (.pair (.int .i64) .str))), [⟨0, 1, 0, 3⟩]), ((.int .i64), []), ((.int .i64), [])]) := blockK 0 (q_ref06_Take_1 m0)
noncomputable def cd_ref06_Take_2 : Code := (lft (lft (rgt (lft (rgt (rgt (rgt (rgt b_ref06_Take))))))))
theorem st_ref06_Take_j0 (m0 : Nat) (n : Nat) (s_1 : ByteArray) (at_2 : Int) (out_3 : (List (Int × (Int × ByteArray)))) (i_4 : Int) : evJ E_ref06_Take (drE E_ref06_Take) (n + 1) (.loop cd_ref06_Take_2) 0 (sg_ref06_Take_0 s_1 at_2 out_3 i_4) (q_ref06_Take_2 m0) = ref06_Take.S0 (fun s_1 at_2 out_3 i_4 => evJ E_ref06_Take (drE E_ref06_Take) n (.loop cd_ref06_Take_2) 0 (sg_ref06_Take_0 s_1 at_2 out_3 i_4) (q_ref06_Take_2 m0)) s_1 at_2 out_3 i_4 := by kernel_rfl
theorem J_ref06_Take_0 (m0 : Nat) : ∀ (n : Nat) (s_1 : ByteArray) (at_2 : Int) (out_3 : (List (Int × (Int × ByteArray)))) (i_4 : Int), evJ E_ref06_Take (drE E_ref06_Take) n (.loop cd_ref06_Take_2) 0 (sg_ref06_Take_0 s_1 at_2 out_3 i_4) (q_ref06_Take_2 m0) = ref06_Take.l0 n s_1 at_2 out_3 i_4 := by
  intro n
  induction n with
  | zero => intros; rfl
  | succ n ih =>
    intro s_1 at_2 out_3 i_4
    have e0 : (fun s_1 at_2 out_3 i_4 => evJ E_ref06_Take (drE E_ref06_Take) n (.loop cd_ref06_Take_2) 0 (sg_ref06_Take_0 s_1 at_2 out_3 i_4) (q_ref06_Take_2 m0)) = (ref06_Take.l0 n) := by funext s_1 at_2 out_3 i_4; exact ih s_1 at_2 out_3 i_4
    refine (st_ref06_Take_j0 m0 n s_1 at_2 out_3 i_4).trans ?_
    rw [e0]; rfl
theorem st_ref06_Take (m0 : Nat) (s : ByteArray) : evC E_ref06_Take (evJ E_ref06_Take (drE E_ref06_Take) m0) (drE E_ref06_Take) b_ref06_Take 0 (st0 [.val .str] (s, ())) (fin E_ref06_Take [.tmp 2, .tmp 3, .tmp 4] 0 [((.sl (.pair (.int .i64) (.pair (.int .i64) .str))), [⟨0, 1, 0, 3⟩]), ((.int .i64), []), ((.int .i64), [])]) = ref06_Take.S (fun s_1 at_2 out_3 i_4 => evJ E_ref06_Take (drE E_ref06_Take) m0 (.loop cd_ref06_Take_2) 0 (sg_ref06_Take_0 s_1 at_2 out_3 i_4) (q_ref06_Take_2 m0)) s := by kernel_rfl
theorem ev_ref06_Take (s : ByteArray) : evC E_ref06_Take (evJ E_ref06_Take (drE E_ref06_Take) fu) (drE E_ref06_Take) b_ref06_Take 0 (st0 [.val .str] (s, ())) (fin E_ref06_Take [.tmp 2, .tmp 3, .tmp 4] 0 [((.sl (.pair (.int .i64) (.pair (.int .i64) .str))), [⟨0, 1, 0, 3⟩]), ((.int .i64), []), ((.int .i64), [])]) = ref06_Take s := by
  have e0 : (fun s_1 at_2 out_3 i_4 => evJ E_ref06_Take (drE E_ref06_Take) fu (.loop cd_ref06_Take_2) 0 (sg_ref06_Take_0 s_1 at_2 out_3 i_4) (q_ref06_Take_2 fu)) = (ref06_Take.l0 fu) := by funext s_1 at_2 out_3 i_4; exact J_ref06_Take_0 fu fu s_1 at_2 out_3 i_4
  refine (st_ref06_Take fu s).trans ?_
  rw [e0]; rfl
@[reducible] def sp_ref06_Take   : AM.Spec := AM.spec [.val .str] [((.sl (.pair (.int .i64) (.pair (.int .i64) .str))), [⟨0, 1, 0, 3⟩]), ((.int .i64), []), ((.int .i64), [])] (fun x => ref06_Take x.1)
theorem c_ref06_Take : Contract Tryd.prog 13 sp_ref06_Take :=
  contract_of (Tab.envOk tabOk _ _) calls_ref06_Take tabOk.mixed (fn := Tryd.f13) (c := b_ref06_Take) (ts := [.tmp 2, .tmp 3, .tmp 4]) (by kernel_rfl) (by kernel_rfl) (by kernel_rfl) (by decide) (by kernel_rfl) (by decide) rfl fun x _ h => ⟨fu, (ev_ref06_Take x.1).trans h⟩

/-! peristyle/peristylelaw06.CellBytes -/
@[reducible] noncomputable def E_law06_CellBytes : Env := tab.env (AM.look [(9, sp_ref06_Light), (7, sp_law06_awake), (10, sp_cell_Put), (11, sp_ref06_Put), (12, sp_cell_Take), (13, sp_ref06_Take), (14, sp_ref06_Same)]) ⟨[], [], [], ⟨[(4, true)], []⟩, [], [7, 9, 10, 11, 14]⟩
theorem calls_law06_CellBytes : CallsOk Tryd.prog E_law06_CellBytes := callsOk_of ⟨⟨c_ref06_Light, Tryd.call9, fun _ => words_spec rfl⟩, ⟨⟨c_law06_awake, Tryd.call7, fun _ => words_spec rfl⟩, ⟨⟨c_cell_Put, Tryd.call10, fun _ => words_spec rfl⟩, ⟨⟨c_ref06_Put, Tryd.call11, fun _ => words_spec rfl⟩, ⟨⟨c_cell_Take, Tryd.call12, fun h => nomatch (show false = true from h)⟩, ⟨⟨c_ref06_Take, Tryd.call13, fun h => nomatch (show false = true from h)⟩, ⟨⟨c_ref06_Same, Tryd.call14, fun _ => words_spec rfl⟩, trivial⟩⟩⟩⟩⟩⟩⟩
noncomputable def b_law06_CellBytes : Code := (Tryd.f4.body).getD .skip
theorem st_law06_CellBytes (m0 : Nat) (r : (List (Int × (Int × ByteArray)))) (s : ByteArray) : evC E_law06_CellBytes (evJ E_law06_CellBytes (drE E_law06_CellBytes) m0) (drE E_law06_CellBytes) b_law06_CellBytes 0 (st0 [.val (.sl (.pair (.int .i64) (.pair (.int .i64) .str))), .val .str] (r, s, ())) (fin E_law06_CellBytes [.tmp 4] 0 [(.bool, [])]) = law06_CellBytes r s := by kernel_rfl
theorem ev_law06_CellBytes (r : (List (Int × (Int × ByteArray)))) (s : ByteArray) : evC E_law06_CellBytes (evJ E_law06_CellBytes (drE E_law06_CellBytes) fu) (drE E_law06_CellBytes) b_law06_CellBytes 0 (st0 [.val (.sl (.pair (.int .i64) (.pair (.int .i64) .str))), .val .str] (r, s, ())) (fin E_law06_CellBytes [.tmp 4] 0 [(.bool, [])]) = law06_CellBytes r s := st_law06_CellBytes fu r s
@[reducible] def sp_law06_CellBytes   : AM.Spec := AM.spec [.val (.sl (.pair (.int .i64) (.pair (.int .i64) .str))), .val .str] [(.bool, [])] (fun x => law06_CellBytes x.1 x.2.1)
theorem c_law06_CellBytes : Contract Tryd.prog 4 sp_law06_CellBytes :=
  contract_of (Tab.envOk tabOk _ _) calls_law06_CellBytes tabOk.mixed (fn := Tryd.f4) (c := b_law06_CellBytes) (ts := [.tmp 4]) (by kernel_rfl) (by kernel_rfl) (by kernel_rfl) (by decide) (by kernel_rfl) (by decide) rfl fun x _ h => ⟨fu, (ev_law06_CellBytes x.1 x.2.1).trans h⟩

/-! peristyle/peristyleref06.digits -/
@[reducible] noncomputable def E_ref06_digits : Env := tab.env (AM.look []) ⟨[(0, ⟨[(0, true), (3, true)], []⟩)], [], [(5, ⟨[(3, true)], []⟩)], ⟨[(2, true)], []⟩, [], []⟩
theorem calls_ref06_digits : CallsOk Tryd.prog E_ref06_digits := callsOk_of trivial
noncomputable def b_ref06_digits : Code := (Tryd.f36.body).getD .skip
noncomputable def sg_ref06_digits_1 (s_3 : ByteArray) : St := mk [(3, .dat .str s_3 [])] []
noncomputable def sg_ref06_digits_0 (n_1 : Int) (s_2 : ByteArray) : St := mk [(0, .dat (.int .i64) n_1 []), (3, .dat .str s_2 [])] []
noncomputable def q_ref06_digits_0 (m0 : Nat) : K (ResD [(.str, [])]) := fin E_ref06_digits [.tmp 2] 0 [(.str, [])]
noncomputable def cd_ref06_digits_1 : Code := (rgt (rgt (rgt b_ref06_digits)))
theorem st_ref06_digits_j1 (m0 : Nat) (n : Nat) (s_3 : ByteArray) : evJ E_ref06_digits (drE E_ref06_digits) (n + 1) (.tail cd_ref06_digits_1) 0 (sg_ref06_digits_1 s_3) (q_ref06_digits_0 m0) = ref06_digits.S1 s_3 := by kernel_rfl
theorem J_ref06_digits_1 (m0 : Nat) : ∀ (n : Nat) (s_3 : ByteArray), evJ E_ref06_digits (drE E_ref06_digits) n (.tail cd_ref06_digits_1) 0 (sg_ref06_digits_1 s_3) (q_ref06_digits_0 m0) = ref06_digits.t1 n s_3 := by
  intro n
  induction n with
  | zero => intros; rfl
  | succ n ih =>
    intro s_3
    have e1 : (fun s_3 => evJ E_ref06_digits (drE E_ref06_digits) n (.tail cd_ref06_digits_1) 0 (sg_ref06_digits_1 s_3) (q_ref06_digits_0 m0)) = (ref06_digits.t1 n) := by funext s_3; exact ih s_3
    refine (st_ref06_digits_j1 m0 n s_3).trans ?_
    rfl
noncomputable def q_ref06_digits_1 (m0 : Nat) : K (ResD [(.str, [])]) := seqK E_ref06_digits (evJ E_ref06_digits (drE E_ref06_digits) m0) cd_ref06_digits_1 0 (evC E_ref06_digits (evJ E_ref06_digits (drE E_ref06_digits) m0) (drE E_ref06_digits) cd_ref06_digits_1 0) (q_ref06_digits_0 m0)
noncomputable def q_ref06_digits_2 (m0 : Nat) : K (ResD [(.str, [])]) := blockK 0 (q_ref06_digits_1 m0)
noncomputable def cd_ref06_digits_2 : Code := (lft (lft (lft (rgt (rgt b_ref06_digits)))))
theorem st_ref06_digits_j0 (m0 : Nat) (n : Nat) (n_1 : Int) (s_2 : ByteArray) : evJ E_ref06_digits (drE E_ref06_digits) (n + 1) (.loop cd_ref06_digits_2) 0 (sg_ref06_digits_0 n_1 s_2) (q_ref06_digits_2 m0) = ref06_digits.S0 (fun s_3 => evJ E_ref06_digits (drE E_ref06_digits) m0 (.tail cd_ref06_digits_1) 0 (sg_ref06_digits_1 s_3) (q_ref06_digits_0 m0)) (fun n_1 s_2 => evJ E_ref06_digits (drE E_ref06_digits) n (.loop cd_ref06_digits_2) 0 (sg_ref06_digits_0 n_1 s_2) (q_ref06_digits_2 m0)) n_1 s_2 := by kernel_rfl
theorem J_ref06_digits_0 (m0 : Nat) : ∀ (n : Nat) (n_1 : Int) (s_2 : ByteArray), evJ E_ref06_digits (drE E_ref06_digits) n (.loop cd_ref06_digits_2) 0 (sg_ref06_digits_0 n_1 s_2) (q_ref06_digits_2 m0) = ref06_digits.l0 (fun s_3 => evJ E_ref06_digits (drE E_ref06_digits) m0 (.tail cd_ref06_digits_1) 0 (sg_ref06_digits_1 s_3) (q_ref06_digits_0 m0)) n n_1 s_2 := by
  intro n
  induction n with
  | zero => intros; rfl
  | succ n ih =>
    intro n_1 s_2
    have e0 : (fun n_1 s_2 => evJ E_ref06_digits (drE E_ref06_digits) n (.loop cd_ref06_digits_2) 0 (sg_ref06_digits_0 n_1 s_2) (q_ref06_digits_2 m0)) = (ref06_digits.l0 (fun s_3 => evJ E_ref06_digits (drE E_ref06_digits) m0 (.tail cd_ref06_digits_1) 0 (sg_ref06_digits_1 s_3) (q_ref06_digits_0 m0)) n) := by funext n_1 s_2; exact ih n_1 s_2
    refine (st_ref06_digits_j0 m0 n n_1 s_2).trans ?_
    rw [e0]; rfl
theorem st_ref06_digits (m0 : Nat) (xn : Int) : evC E_ref06_digits (evJ E_ref06_digits (drE E_ref06_digits) m0) (drE E_ref06_digits) b_ref06_digits 0 (st0 [.val (.int .i64)] (xn, ())) (fin E_ref06_digits [.tmp 2] 0 [(.str, [])]) = ref06_digits.S (fun n_1 s_2 => evJ E_ref06_digits (drE E_ref06_digits) m0 (.loop cd_ref06_digits_2) 0 (sg_ref06_digits_0 n_1 s_2) (q_ref06_digits_2 m0)) xn := by kernel_rfl
theorem ev_ref06_digits (xn : Int) : evC E_ref06_digits (evJ E_ref06_digits (drE E_ref06_digits) fu) (drE E_ref06_digits) b_ref06_digits 0 (st0 [.val (.int .i64)] (xn, ())) (fin E_ref06_digits [.tmp 2] 0 [(.str, [])]) = ref06_digits xn := by
  have e1 : (fun s_3 => evJ E_ref06_digits (drE E_ref06_digits) fu (.tail cd_ref06_digits_1) 0 (sg_ref06_digits_1 s_3) (q_ref06_digits_0 fu)) = (ref06_digits.t1 fu) := by funext s_3; exact J_ref06_digits_1 fu fu s_3
  have e0 : (fun n_1 s_2 => evJ E_ref06_digits (drE E_ref06_digits) fu (.loop cd_ref06_digits_2) 0 (sg_ref06_digits_0 n_1 s_2) (q_ref06_digits_2 fu)) = (ref06_digits.l0 (ref06_digits.t1 fu) fu) := by rw [← e1]; funext n_1 s_2; exact J_ref06_digits_0 fu fu n_1 s_2
  refine (st_ref06_digits fu xn).trans ?_
  rw [e0]; rfl
@[reducible] def sp_ref06_digits   : AM.Spec := AM.spec [.val (.int .i64)] [(.str, [])] (fun x => ref06_digits x.1)
theorem c_ref06_digits : Contract Tryd.prog 36 sp_ref06_digits :=
  contract_of (Tab.envOk tabOk _ _) calls_ref06_digits tabOk.mixed (fn := Tryd.f36) (c := b_ref06_digits) (ts := [.tmp 2]) (by kernel_rfl) (by kernel_rfl) (by kernel_rfl) (by decide) (by kernel_rfl) (by decide) rfl fun x _ h => ⟨fu, (ev_ref06_digits x.1).trans h⟩

/-! peristyle/peristyleref06.Show -/
@[reducible] noncomputable def E_ref06_Show : Env := tab.env (AM.look [(36, sp_ref06_digits)]) ⟨[(1, ⟨[(1, true), (3, true), (4, true)], [(1, true)]⟩)], [], [], ⟨[(2, true)], []⟩, [], [36]⟩
theorem calls_ref06_Show : CallsOk Tryd.prog E_ref06_Show := callsOk_of ⟨⟨c_ref06_digits, Tryd.call36, fun _ => words_spec rfl⟩, trivial⟩
noncomputable def b_ref06_Show : Code := (Tryd.f18.body).getD .skip
noncomputable def sg_ref06_Show_0 (out_3 : (List Int)) (i_4 : Int) (c_5 : (Int × (Int × ByteArray))) : St := mk [(1, .ptr 1 0 0), (3, .dat (.sl (.int .u8)) out_3 [⟨0, 193, 0, 0⟩]), (4, .dat (.int .i64) i_4 [])] [(1, some (.var (.pair (.int .i64) (.pair (.int .i64) .str)) c_5 []))]
noncomputable def q_ref06_Show_0 (m0 : Nat) : K (ResD [(.str, [])]) := fin E_ref06_Show [.tmp 2] 0 [(.str, [])]
noncomputable def cd_ref06_Show_1 : Code := (rgt (rgt b_ref06_Show))
noncomputable def q_ref06_Show_1 (m0 : Nat) : K (ResD [(.str, [])]) := seqK E_ref06_Show (evJ E_ref06_Show (drE E_ref06_Show) m0) cd_ref06_Show_1 0 (evC E_ref06_Show (evJ E_ref06_Show (drE E_ref06_Show) m0) (drE E_ref06_Show) cd_ref06_Show_1 0) (q_ref06_Show_0 m0)
noncomputable def q_ref06_Show_2 (m0 : Nat) : K (ResD [(.str, [])]) := blockK 0 (q_ref06_Show_1 m0)
noncomputable def cd_ref06_Show_2 : Code := (rgt (rgt (lft (rgt (rgt (rgt (rgt (rgt (lft (rgt (lft (rgt b_ref06_Show))))))))))))
noncomputable def q_ref06_Show_3 (m0 : Nat) : K (ResD [(.str, [])]) := seqK E_ref06_Show (evJ E_ref06_Show (drE E_ref06_Show) m0) cd_ref06_Show_2 0 (evC E_ref06_Show (evJ E_ref06_Show (drE E_ref06_Show) m0) (drE E_ref06_Show) cd_ref06_Show_2 0) (q_ref06_Show_2 m0)
noncomputable def q_ref06_Show_4 (m0 : Nat) : K (ResD [(.str, [])]) := blockK 1 (q_ref06_Show_3 m0)
noncomputable def cd_ref06_Show_3 : Code := (lft (lft (rgt (lft (rgt (lft (rgt (rgt (rgt (rgt (rgt (lft (rgt (lft (rgt b_ref06_Show)))))))))))))))
theorem st_ref06_Show_j0 (m0 : Nat) (n : Nat) (out_3 : (List Int)) (i_4 : Int) (c_5 : (Int × (Int × ByteArray))) : evJ E_ref06_Show (drE E_ref06_Show) (n + 1) (.loop cd_ref06_Show_3) 1 (sg_ref06_Show_0 out_3 i_4 c_5) (q_ref06_Show_4 m0) = ref06_Show.S0 (fun out_3 i_4 c_5 => evJ E_ref06_Show (drE E_ref06_Show) n (.loop cd_ref06_Show_3) 1 (sg_ref06_Show_0 out_3 i_4 c_5) (q_ref06_Show_4 m0)) out_3 i_4 c_5 := by kernel_rfl
theorem J_ref06_Show_0 (m0 : Nat) : ∀ (n : Nat) (out_3 : (List Int)) (i_4 : Int) (c_5 : (Int × (Int × ByteArray))), evJ E_ref06_Show (drE E_ref06_Show) n (.loop cd_ref06_Show_3) 1 (sg_ref06_Show_0 out_3 i_4 c_5) (q_ref06_Show_4 m0) = ref06_Show.l0 n out_3 i_4 c_5 := by
  intro n
  induction n with
  | zero => intros; rfl
  | succ n ih =>
    intro out_3 i_4 c_5
    have e0 : (fun out_3 i_4 c_5 => evJ E_ref06_Show (drE E_ref06_Show) n (.loop cd_ref06_Show_3) 1 (sg_ref06_Show_0 out_3 i_4 c_5) (q_ref06_Show_4 m0)) = (ref06_Show.l0 n) := by funext out_3 i_4 c_5; exact ih out_3 i_4 c_5
    refine (st_ref06_Show_j0 m0 n out_3 i_4 c_5).trans ?_
    rw [e0]; rfl
theorem st_ref06_Show (m0 : Nat) (c : (Int × (Int × ByteArray))) : evC E_ref06_Show (evJ E_ref06_Show (drE E_ref06_Show) m0) (drE E_ref06_Show) b_ref06_Show 0 (st0 [.val (.pair (.int .i64) (.pair (.int .i64) .str))] (c, ())) (fin E_ref06_Show [.tmp 2] 0 [(.str, [])]) = ref06_Show.S (fun out_3 i_4 c_5 => evJ E_ref06_Show (drE E_ref06_Show) m0 (.loop cd_ref06_Show_3) 1 (sg_ref06_Show_0 out_3 i_4 c_5) (q_ref06_Show_4 m0)) c := by kernel_rfl
theorem ev_ref06_Show (c : (Int × (Int × ByteArray))) : evC E_ref06_Show (evJ E_ref06_Show (drE E_ref06_Show) fu) (drE E_ref06_Show) b_ref06_Show 0 (st0 [.val (.pair (.int .i64) (.pair (.int .i64) .str))] (c, ())) (fin E_ref06_Show [.tmp 2] 0 [(.str, [])]) = ref06_Show c := by
  have e0 : (fun out_3 i_4 c_5 => evJ E_ref06_Show (drE E_ref06_Show) fu (.loop cd_ref06_Show_3) 1 (sg_ref06_Show_0 out_3 i_4 c_5) (q_ref06_Show_4 fu)) = (ref06_Show.l0 fu) := by funext out_3 i_4 c_5; exact J_ref06_Show_0 fu fu out_3 i_4 c_5
  refine (st_ref06_Show fu c).trans ?_
  rw [e0]; rfl
@[reducible] def sp_ref06_Show   : AM.Spec := AM.spec [.val (.pair (.int .i64) (.pair (.int .i64) .str))] [(.str, [])] (fun x => ref06_Show x.1)
theorem c_ref06_Show : Contract Tryd.prog 18 sp_ref06_Show :=
  contract_of (Tab.envOk tabOk _ _) calls_ref06_Show tabOk.mixed (fn := Tryd.f18) (c := b_ref06_Show) (ts := [.tmp 2]) (by kernel_rfl) (by kernel_rfl) (by kernel_rfl) (by decide) (by kernel_rfl) (by decide) rfl fun x _ h => ⟨fu, (ev_ref06_Show x.1).trans h⟩

/-! peristyle/peristyleref06.number -/
@[reducible] noncomputable def E_ref06_number : Env := tab.env (AM.look [(18, sp_ref06_Show)]) ⟨[(0, ⟨[(0, true), (4, true), (6, true), (7, true)], []⟩)], [], [(5, ⟨[(0, true), (4, true), (5, true)], []⟩), (13, ⟨[(0, true), (4, true), (6, true)], []⟩), (15, ⟨[(0, true), (4, true), (6, true)], []⟩)], ⟨[(2, true), (3, true)], []⟩, [], [18]⟩
theorem calls_ref06_number : CallsOk Tryd.prog E_ref06_number := callsOk_of ⟨⟨c_ref06_Show, Tryd.call18, fun _ => words_spec rfl⟩, trivial⟩
noncomputable def b_ref06_number : Code := (Tryd.f34.body).getD .skip
noncomputable def sg_ref06_number_3 (s_11 : ByteArray) (down_12 : Bool) (n_13 : Int) : St := mk [(0, .dat .str s_11 []), (4, .dat .bool down_12 []), (6, .dat (.int .i64) n_13 [])] []
noncomputable def sg_ref06_number_2 (s_8 : ByteArray) (down_9 : Bool) (n_10 : Int) : St := mk [(0, .dat .str s_8 []), (4, .dat .bool down_9 []), (6, .dat (.int .i64) n_10 [])] []
noncomputable def sg_ref06_number_1 (s_4 : ByteArray) (down_5 : Bool) (n_6 : Int) (i_7 : Int) : St := mk [(0, .dat .str s_4 []), (4, .dat .bool down_5 []), (6, .dat (.int .i64) n_6 []), (7, .dat (.int .i64) i_7 [])] []
noncomputable def sg_ref06_number_0 (s_1 : ByteArray) (down_2 : Bool) (from_3 : Int) : St := mk [(0, .dat .str s_1 []), (4, .dat .bool down_2 []), (5, .dat (.int .i64) from_3 [])] []
noncomputable def q_ref06_number_0 (m0 : Nat) : K (ResD [((.int .i64), []), (.bool, [])]) := fin E_ref06_number [.tmp 2, .tmp 3] 0 [((.int .i64), []), (.bool, [])]
noncomputable def cd_ref06_number_1 : Code := (rgt (rgt (rgt (rgt (rgt (rgt (rgt b_ref06_number)))))))
theorem st_ref06_number_j3 (m0 : Nat) (m1 : Nat) (m2 : Nat) (n : Nat) (s_11 : ByteArray) (down_12 : Bool) (n_13 : Int) : evJ E_ref06_number (drE E_ref06_number) (n + 1) (.tail cd_ref06_number_1) 0 (sg_ref06_number_3 s_11 down_12 n_13) (q_ref06_number_0 m0) = ref06_number.S3 s_11 down_12 n_13 := by kernel_rfl
theorem J_ref06_number_3 (m0 : Nat) (m1 : Nat) (m2 : Nat) : ∀ (n : Nat) (s_11 : ByteArray) (down_12 : Bool) (n_13 : Int), evJ E_ref06_number (drE E_ref06_number) n (.tail cd_ref06_number_1) 0 (sg_ref06_number_3 s_11 down_12 n_13) (q_ref06_number_0 m0) = ref06_number.t3 n s_11 down_12 n_13 := by
  intro n
  induction n with
  | zero => intros; rfl
  | succ n ih =>
    intro s_11 down_12 n_13
    have e3 : (fun s_11 down_12 n_13 => evJ E_ref06_number (drE E_ref06_number) n (.tail cd_ref06_number_1) 0 (sg_ref06_number_3 s_11 down_12 n_13) (q_ref06_number_0 m0)) = (ref06_number.t3 n) := by funext s_11 down_12 n_13; exact ih s_11 down_12 n_13
    refine (st_ref06_number_j3 m0 m1 m2 n s_11 down_12 n_13).trans ?_
    rfl
noncomputable def cd_ref06_number_2 : Code := (rgt (rgt (rgt (rgt (rgt (rgt b_ref06_number))))))
theorem st_ref06_number_j2 (m0 : Nat) (m1 : Nat) (n : Nat) (s_8 : ByteArray) (down_9 : Bool) (n_10 : Int) : evJ E_ref06_number (drE E_ref06_number) (n + 1) (.tail cd_ref06_number_2) 0 (sg_ref06_number_2 s_8 down_9 n_10) (q_ref06_number_0 m0) = ref06_number.S2 (fun s_11 down_12 n_13 => evJ E_ref06_number (drE E_ref06_number) n (.tail cd_ref06_number_1) 0 (sg_ref06_number_3 s_11 down_12 n_13) (q_ref06_number_0 m0)) s_8 down_9 n_10 := by kernel_rfl
theorem J_ref06_number_2 (m0 : Nat) (m1 : Nat) : ∀ (n : Nat) (s_8 : ByteArray) (down_9 : Bool) (n_10 : Int), evJ E_ref06_number (drE E_ref06_number) n (.tail cd_ref06_number_2) 0 (sg_ref06_number_2 s_8 down_9 n_10) (q_ref06_number_0 m0) = ref06_number.t2 n s_8 down_9 n_10 := by
  intro n
  induction n with
  | zero => intros; rfl
  | succ n ih =>
    intro s_8 down_9 n_10
    have e2 : (fun s_8 down_9 n_10 => evJ E_ref06_number (drE E_ref06_number) n (.tail cd_ref06_number_2) 0 (sg_ref06_number_2 s_8 down_9 n_10) (q_ref06_number_0 m0)) = (ref06_number.t2 n) := by funext s_8 down_9 n_10; exact ih s_8 down_9 n_10
    have e3 : (fun s_11 down_12 n_13 => evJ E_ref06_number (drE E_ref06_number) n (.tail cd_ref06_number_1) 0 (sg_ref06_number_3 s_11 down_12 n_13) (q_ref06_number_0 m0)) = (ref06_number.t3 n) := by funext s_11 down_12 n_13; exact J_ref06_number_3 m0 m1 n n s_11 down_12 n_13
    refine (st_ref06_number_j2 m0 m1 n s_8 down_9 n_10).trans ?_
    rw [e3]; rfl
noncomputable def q_ref06_number_1 (m0 : Nat) (m1 : Nat) : K (ResD [((.int .i64), []), (.bool, [])]) := seqK E_ref06_number (evJ E_ref06_number (drE E_ref06_number) m1) cd_ref06_number_2 0 (evC E_ref06_number (evJ E_ref06_number (drE E_ref06_number) m1) (drE E_ref06_number) cd_ref06_number_2 0) (q_ref06_number_0 m0)
noncomputable def q_ref06_number_2 (m0 : Nat) (m1 : Nat) : K (ResD [((.int .i64), []), (.bool, [])]) := blockK 0 (q_ref06_number_1 m0 m1)
noncomputable def cd_ref06_number_3 : Code := (lft (lft (rgt (lft (rgt (rgt (rgt (rgt (rgt b_ref06_number)))))))))
theorem st_ref06_number_j1 (m0 : Nat) (m1 : Nat) (n : Nat) (s_4 : ByteArray) (down_5 : Bool) (n_6 : Int) (i_7 : Int) : evJ E_ref06_number (drE E_ref06_number) (n + 1) (.loop cd_ref06_number_3) 0 (sg_ref06_number_1 s_4 down_5 n_6 i_7) (q_ref06_number_2 m0 m1) = ref06_number.S1 (fun s_8 down_9 n_10 => evJ E_ref06_number (drE E_ref06_number) m1 (.tail cd_ref06_number_2) 0 (sg_ref06_number_2 s_8 down_9 n_10) (q_ref06_number_0 m0)) (fun s_4 down_5 n_6 i_7 => evJ E_ref06_number (drE E_ref06_number) n (.loop cd_ref06_number_3) 0 (sg_ref06_number_1 s_4 down_5 n_6 i_7) (q_ref06_number_2 m0 m1)) s_4 down_5 n_6 i_7 := by kernel_rfl
theorem J_ref06_number_1 (m0 : Nat) (m1 : Nat) : ∀ (n : Nat) (s_4 : ByteArray) (down_5 : Bool) (n_6 : Int) (i_7 : Int), evJ E_ref06_number (drE E_ref06_number) n (.loop cd_ref06_number_3) 0 (sg_ref06_number_1 s_4 down_5 n_6 i_7) (q_ref06_number_2 m0 m1) = ref06_number.l1 (fun s_8 down_9 n_10 => evJ E_ref06_number (drE E_ref06_number) m1 (.tail cd_ref06_number_2) 0 (sg_ref06_number_2 s_8 down_9 n_10) (q_ref06_number_0 m0)) n s_4 down_5 n_6 i_7 := by
  intro n
  induction n with
  | zero => intros; rfl
  | succ n ih =>
    intro s_4 down_5 n_6 i_7
    have e1 : (fun s_4 down_5 n_6 i_7 => evJ E_ref06_number (drE E_ref06_number) n (.loop cd_ref06_number_3) 0 (sg_ref06_number_1 s_4 down_5 n_6 i_7) (q_ref06_number_2 m0 m1)) = (ref06_number.l1 (fun s_8 down_9 n_10 => evJ E_ref06_number (drE E_ref06_number) m1 (.tail cd_ref06_number_2) 0 (sg_ref06_number_2 s_8 down_9 n_10) (q_ref06_number_0 m0)) n) := by funext s_4 down_5 n_6 i_7; exact ih s_4 down_5 n_6 i_7
    refine (st_ref06_number_j1 m0 m1 n s_4 down_5 n_6 i_7).trans ?_
    rw [e1]; rfl
noncomputable def cd_ref06_number_4 : Code := (rgt (rgt (rgt (rgt b_ref06_number))))
theorem st_ref06_number_j0 (m0 : Nat) (n : Nat) (s_1 : ByteArray) (down_2 : Bool) (from_3 : Int) : evJ E_ref06_number (drE E_ref06_number) (n + 1) (.tail cd_ref06_number_4) 0 (sg_ref06_number_0 s_1 down_2 from_3) (q_ref06_number_0 m0) = ref06_number.S0 (fun s_4 down_5 n_6 i_7 => evJ E_ref06_number (drE E_ref06_number) n (.loop cd_ref06_number_3) 0 (sg_ref06_number_1 s_4 down_5 n_6 i_7) (q_ref06_number_2 m0 n)) s_1 down_2 from_3 := by kernel_rfl
theorem J_ref06_number_0 (m0 : Nat) : ∀ (n : Nat) (s_1 : ByteArray) (down_2 : Bool) (from_3 : Int), evJ E_ref06_number (drE E_ref06_number) n (.tail cd_ref06_number_4) 0 (sg_ref06_number_0 s_1 down_2 from_3) (q_ref06_number_0 m0) = ref06_number.t0 n s_1 down_2 from_3 := by
  intro n
  induction n with
  | zero => intros; rfl
  | succ n ih =>
    intro s_1 down_2 from_3
    have e0 : (fun s_1 down_2 from_3 => evJ E_ref06_number (drE E_ref06_number) n (.tail cd_ref06_number_4) 0 (sg_ref06_number_0 s_1 down_2 from_3) (q_ref06_number_0 m0)) = (ref06_number.t0 n) := by funext s_1 down_2 from_3; exact ih s_1 down_2 from_3
    have e2 : (fun s_8 down_9 n_10 => evJ E_ref06_number (drE E_ref06_number) n (.tail cd_ref06_number_2) 0 (sg_ref06_number_2 s_8 down_9 n_10) (q_ref06_number_0 m0)) = (ref06_number.t2 n) := by funext s_8 down_9 n_10; exact J_ref06_number_2 m0 n n s_8 down_9 n_10
    have e1 : (fun s_4 down_5 n_6 i_7 => evJ E_ref06_number (drE E_ref06_number) n (.loop cd_ref06_number_3) 0 (sg_ref06_number_1 s_4 down_5 n_6 i_7) (q_ref06_number_2 m0 n)) = (ref06_number.l1 (ref06_number.t2 n) n) := by rw [← e2]; funext s_4 down_5 n_6 i_7; exact J_ref06_number_1 m0 n n s_4 down_5 n_6 i_7
    refine (st_ref06_number_j0 m0 n s_1 down_2 from_3).trans ?_
    rw [e1]; rfl
theorem st_ref06_number (m0 : Nat) (s : ByteArray) : evC E_ref06_number (evJ E_ref06_number (drE E_ref06_number) m0) (drE E_ref06_number) b_ref06_number 0 (st0 [.val .str] (s, ())) (fin E_ref06_number [.tmp 2, .tmp 3] 0 [((.int .i64), []), (.bool, [])]) = ref06_number.S (fun s_1 down_2 from_3 => evJ E_ref06_number (drE E_ref06_number) m0 (.tail cd_ref06_number_4) 0 (sg_ref06_number_0 s_1 down_2 from_3) (q_ref06_number_0 m0)) s := by kernel_rfl
theorem ev_ref06_number (s : ByteArray) : evC E_ref06_number (evJ E_ref06_number (drE E_ref06_number) fu) (drE E_ref06_number) b_ref06_number 0 (st0 [.val .str] (s, ())) (fin E_ref06_number [.tmp 2, .tmp 3] 0 [((.int .i64), []), (.bool, [])]) = ref06_number s := by
  have e0 : (fun s_1 down_2 from_3 => evJ E_ref06_number (drE E_ref06_number) fu (.tail cd_ref06_number_4) 0 (sg_ref06_number_0 s_1 down_2 from_3) (q_ref06_number_0 fu)) = (ref06_number.t0 fu) := by funext s_1 down_2 from_3; exact J_ref06_number_0 fu fu s_1 down_2 from_3
  refine (st_ref06_number fu s).trans ?_
  rw [e0]; rfl
@[reducible] def sp_ref06_number   : AM.Spec := AM.spec [.val .str] [((.int .i64), []), (.bool, [])] (fun x => ref06_number x.1)
theorem c_ref06_number : Contract Tryd.prog 34 sp_ref06_number :=
  contract_of (Tab.envOk tabOk _ _) calls_ref06_number tabOk.mixed (fn := Tryd.f34) (c := b_ref06_number) (ts := [.tmp 2, .tmp 3]) (by kernel_rfl) (by kernel_rfl) (by kernel_rfl) (by decide) (by kernel_rfl) (by decide) rfl fun x _ h => ⟨fu, (ev_ref06_number x.1).trans h⟩

/-! peristyle/peristyleref06.Read -/
@[reducible] noncomputable def E_ref06_Read : Env := tab.env (AM.look [(34, sp_ref06_number), (19, sp_ref06_May), (18, sp_ref06_Show)]) ⟨[(0, ⟨[(0, true), (2, true), (6, true), (7, true)], [(2, true)]⟩)], [], [(15, ⟨[(0, true), (2, true), (6, true)], [(2, true)]⟩)], ⟨[(2, true), (3, true)], [(2, true)]⟩, [], [18, 19, 34]⟩
theorem calls_ref06_Read : CallsOk Tryd.prog E_ref06_Read := callsOk_of ⟨⟨c_ref06_number, Tryd.call34, fun _ => words_spec rfl⟩, ⟨⟨c_ref06_May, Tryd.call19, fun _ => words_spec rfl⟩, ⟨⟨c_ref06_Show, Tryd.call18, fun _ => words_spec rfl⟩, trivial⟩⟩⟩
noncomputable def b_ref06_Read : Code := (Tryd.f16.body).getD .skip
noncomputable def sg_ref06_Read_1 (s_6 : ByteArray) (out_7 : (List Int)) (t2_8 : (Int × (Int × ByteArray))) : St := mk [(0, .dat .str s_6 []), (2, .ptr 2 0 0), (6, .dat (.sl (.int .u8)) out_7 [⟨0, 385, 0, 0⟩])] [(2, some (.var (.pair (.int .i64) (.pair (.int .i64) .str)) t2_8 []))]
noncomputable def sg_ref06_Read_0 (s_2 : ByteArray) (out_3 : (List Int)) (i_4 : Int) (t2_5 : (Int × (Int × ByteArray))) : St := mk [(0, .dat .str s_2 []), (2, .ptr 2 0 0), (6, .dat (.sl (.int .u8)) out_3 [⟨0, 385, 0, 0⟩]), (7, .dat (.int .i64) i_4 [])] [(2, some (.var (.pair (.int .i64) (.pair (.int .i64) .str)) t2_5 []))]
noncomputable def q_ref06_Read_0 (m0 : Nat) : K (ResD [((.pair (.int .i64) (.pair (.int .i64) .str)), []), ((.int .i64), [])]) := fin E_ref06_Read [.cell 2 23, .tmp 3] 0 [((.pair (.int .i64) (.pair (.int .i64) .str)), []), ((.int .i64), [])]
noncomputable def cd_ref06_Read_1 : Code := (rgt (rgt (rgt (rgt (rgt (rgt b_ref06_Read))))))
theorem st_ref06_Read_j1 (m0 : Nat) (n : Nat) (s_6 : ByteArray) (out_7 : (List Int)) (t2_8 : (Int × (Int × ByteArray))) : evJ E_ref06_Read (drE E_ref06_Read) (n + 1) (.tail cd_ref06_Read_1) 0 (sg_ref06_Read_1 s_6 out_7 t2_8) (q_ref06_Read_0 m0) = ref06_Read.S1 s_6 out_7 t2_8 := by kernel_rfl
theorem J_ref06_Read_1 (m0 : Nat) : ∀ (n : Nat) (s_6 : ByteArray) (out_7 : (List Int)) (t2_8 : (Int × (Int × ByteArray))), evJ E_ref06_Read (drE E_ref06_Read) n (.tail cd_ref06_Read_1) 0 (sg_ref06_Read_1 s_6 out_7 t2_8) (q_ref06_Read_0 m0) = ref06_Read.t1 n s_6 out_7 t2_8 := by
  intro n
  induction n with
  | zero => intros; rfl
  | succ n ih =>
    intro s_6 out_7 t2_8
    have e1 : (fun s_6 out_7 t2_8 => evJ E_ref06_Read (drE E_ref06_Read) n (.tail cd_ref06_Read_1) 0 (sg_ref06_Read_1 s_6 out_7 t2_8) (q_ref06_Read_0 m0)) = (ref06_Read.t1 n) := by funext s_6 out_7 t2_8; exact ih s_6 out_7 t2_8
    refine (st_ref06_Read_j1 m0 n s_6 out_7 t2_8).trans ?_
    rfl
noncomputable def q_ref06_Read_1 (m0 : Nat) : K (ResD [((.pair (.int .i64) (.pair (.int .i64) .str)), []), ((.int .i64), [])]) := seqK E_ref06_Read (evJ E_ref06_Read (drE E_ref06_Read) m0) cd_ref06_Read_1 0 (evC E_ref06_Read (evJ E_ref06_Read (drE E_ref06_Read) m0) (drE E_ref06_Read) cd_ref06_Read_1 0) (q_ref06_Read_0 m0)
noncomputable def q_ref06_Read_2 (m0 : Nat) : K (ResD [((.pair (.int .i64) (.pair (.int .i64) .str)), []), ((.int .i64), [])]) := blockK 0 (q_ref06_Read_1 m0)
noncomputable def cd_ref06_Read_2 : Code := (lft (lft (rgt (lft (rgt (rgt (rgt (rgt (rgt b_ref06_Read)))))))))
theorem st_ref06_Read_j0 (m0 : Nat) (n : Nat) (s_2 : ByteArray) (out_3 : (List Int)) (i_4 : Int) (t2_5 : (Int × (Int × ByteArray))) : evJ E_ref06_Read (drE E_ref06_Read) (n + 1) (.loop cd_ref06_Read_2) 0 (sg_ref06_Read_0 s_2 out_3 i_4 t2_5) (q_ref06_Read_2 m0) = ref06_Read.S0 (fun s_6 out_7 t2_8 => evJ E_ref06_Read (drE E_ref06_Read) m0 (.tail cd_ref06_Read_1) 0 (sg_ref06_Read_1 s_6 out_7 t2_8) (q_ref06_Read_0 m0)) (fun s_2 out_3 i_4 t2_5 => evJ E_ref06_Read (drE E_ref06_Read) n (.loop cd_ref06_Read_2) 0 (sg_ref06_Read_0 s_2 out_3 i_4 t2_5) (q_ref06_Read_2 m0)) s_2 out_3 i_4 t2_5 := by kernel_rfl
theorem J_ref06_Read_0 (m0 : Nat) : ∀ (n : Nat) (s_2 : ByteArray) (out_3 : (List Int)) (i_4 : Int) (t2_5 : (Int × (Int × ByteArray))), evJ E_ref06_Read (drE E_ref06_Read) n (.loop cd_ref06_Read_2) 0 (sg_ref06_Read_0 s_2 out_3 i_4 t2_5) (q_ref06_Read_2 m0) = ref06_Read.l0 (fun s_6 out_7 t2_8 => evJ E_ref06_Read (drE E_ref06_Read) m0 (.tail cd_ref06_Read_1) 0 (sg_ref06_Read_1 s_6 out_7 t2_8) (q_ref06_Read_0 m0)) n s_2 out_3 i_4 t2_5 := by
  intro n
  induction n with
  | zero => intros; rfl
  | succ n ih =>
    intro s_2 out_3 i_4 t2_5
    have e0 : (fun s_2 out_3 i_4 t2_5 => evJ E_ref06_Read (drE E_ref06_Read) n (.loop cd_ref06_Read_2) 0 (sg_ref06_Read_0 s_2 out_3 i_4 t2_5) (q_ref06_Read_2 m0)) = (ref06_Read.l0 (fun s_6 out_7 t2_8 => evJ E_ref06_Read (drE E_ref06_Read) m0 (.tail cd_ref06_Read_1) 0 (sg_ref06_Read_1 s_6 out_7 t2_8) (q_ref06_Read_0 m0)) n) := by funext s_2 out_3 i_4 t2_5; exact ih s_2 out_3 i_4 t2_5
    refine (st_ref06_Read_j0 m0 n s_2 out_3 i_4 t2_5).trans ?_
    rw [e0]; rfl
theorem st_ref06_Read (m0 : Nat) (s : ByteArray) : evC E_ref06_Read (evJ E_ref06_Read (drE E_ref06_Read) m0) (drE E_ref06_Read) b_ref06_Read 0 (st0 [.val .str] (s, ())) (fin E_ref06_Read [.cell 2 23, .tmp 3] 0 [((.pair (.int .i64) (.pair (.int .i64) .str)), []), ((.int .i64), [])]) = ref06_Read.S (fun s_2 out_3 i_4 t2_5 => evJ E_ref06_Read (drE E_ref06_Read) m0 (.loop cd_ref06_Read_2) 0 (sg_ref06_Read_0 s_2 out_3 i_4 t2_5) (q_ref06_Read_2 m0)) s := by kernel_rfl
theorem ev_ref06_Read (s : ByteArray) : evC E_ref06_Read (evJ E_ref06_Read (drE E_ref06_Read) fu) (drE E_ref06_Read) b_ref06_Read 0 (st0 [.val .str] (s, ())) (fin E_ref06_Read [.cell 2 23, .tmp 3] 0 [((.pair (.int .i64) (.pair (.int .i64) .str)), []), ((.int .i64), [])]) = ref06_Read s := by
  have e1 : (fun s_6 out_7 t2_8 => evJ E_ref06_Read (drE E_ref06_Read) fu (.tail cd_ref06_Read_1) 0 (sg_ref06_Read_1 s_6 out_7 t2_8) (q_ref06_Read_0 fu)) = (ref06_Read.t1 fu) := by funext s_6 out_7 t2_8; exact J_ref06_Read_1 fu fu s_6 out_7 t2_8
  have e0 : (fun s_2 out_3 i_4 t2_5 => evJ E_ref06_Read (drE E_ref06_Read) fu (.loop cd_ref06_Read_2) 0 (sg_ref06_Read_0 s_2 out_3 i_4 t2_5) (q_ref06_Read_2 fu)) = (ref06_Read.l0 (ref06_Read.t1 fu) fu) := by rw [← e1]; funext s_2 out_3 i_4 t2_5; exact J_ref06_Read_0 fu fu s_2 out_3 i_4 t2_5
  refine (st_ref06_Read fu s).trans ?_
  rw [e0]; rfl
@[reducible] def sp_ref06_Read   : AM.Spec := AM.spec [.val .str] [((.pair (.int .i64) (.pair (.int .i64) .str)), []), ((.int .i64), [])] (fun x => ref06_Read x.1)
theorem c_ref06_Read : Contract Tryd.prog 16 sp_ref06_Read :=
  contract_of (Tab.envOk tabOk _ _) calls_ref06_Read tabOk.mixed (fn := Tryd.f16) (c := b_ref06_Read) (ts := [.cell 2 23, .tmp 3]) (by kernel_rfl) (by kernel_rfl) (by kernel_rfl) (by decide) (by kernel_rfl) (by decide) rfl fun x _ h => ⟨fu, (ev_ref06_Read x.1).trans h⟩

/-! peristyle/peristylelaw06.CellShows -/
@[reducible] noncomputable def E_law06_CellShows : Env := tab.env (AM.look [(7, sp_law06_awake), (15, sp_cell_Read), (16, sp_ref06_Read), (17, sp_cell_Show), (18, sp_ref06_Show), (19, sp_ref06_May)]) ⟨[], [], [], ⟨[(4, true)], []⟩, [], [7, 15, 16, 17, 18, 19]⟩
theorem calls_law06_CellShows : CallsOk Tryd.prog E_law06_CellShows := callsOk_of ⟨⟨c_law06_awake, Tryd.call7, fun _ => words_spec rfl⟩, ⟨⟨c_cell_Read, Tryd.call15, fun _ => words_spec rfl⟩, ⟨⟨c_ref06_Read, Tryd.call16, fun _ => words_spec rfl⟩, ⟨⟨c_cell_Show, Tryd.call17, fun _ => words_spec rfl⟩, ⟨⟨c_ref06_Show, Tryd.call18, fun _ => words_spec rfl⟩, ⟨⟨c_ref06_May, Tryd.call19, fun _ => words_spec rfl⟩, trivial⟩⟩⟩⟩⟩⟩
noncomputable def b_law06_CellShows : Code := (Tryd.f5.body).getD .skip
theorem st_law06_CellShows (m0 : Nat) (c : (Int × (Int × ByteArray))) (s : ByteArray) : evC E_law06_CellShows (evJ E_law06_CellShows (drE E_law06_CellShows) m0) (drE E_law06_CellShows) b_law06_CellShows 0 (st0 [.val (.pair (.int .i64) (.pair (.int .i64) .str)), .val .str] (c, s, ())) (fin E_law06_CellShows [.tmp 4] 0 [(.bool, [])]) = law06_CellShows c s := by kernel_rfl
theorem ev_law06_CellShows (c : (Int × (Int × ByteArray))) (s : ByteArray) : evC E_law06_CellShows (evJ E_law06_CellShows (drE E_law06_CellShows) fu) (drE E_law06_CellShows) b_law06_CellShows 0 (st0 [.val (.pair (.int .i64) (.pair (.int .i64) .str)), .val .str] (c, s, ())) (fin E_law06_CellShows [.tmp 4] 0 [(.bool, [])]) = law06_CellShows c s := st_law06_CellShows fu c s
@[reducible] def sp_law06_CellShows   : AM.Spec := AM.spec [.val (.pair (.int .i64) (.pair (.int .i64) .str)), .val .str] [(.bool, [])] (fun x => law06_CellShows x.1 x.2.1)
theorem c_law06_CellShows : Contract Tryd.prog 5 sp_law06_CellShows :=
  contract_of (Tab.envOk tabOk _ _) calls_law06_CellShows tabOk.mixed (fn := Tryd.f5) (c := b_law06_CellShows) (ts := [.tmp 4]) (by kernel_rfl) (by kernel_rfl) (by kernel_rfl) (by decide) (by kernel_rfl) (by decide) rfl fun x _ h => ⟨fu, (ev_law06_CellShows x.1 x.2.1).trans h⟩

/-! peristyle/cell.Fits -/
@[reducible] noncomputable def E_cell_Fits : Env := tab.env (AM.look [(22, sp_cell_Check)]) ⟨[(0, ⟨[(1, true), (12, true), (13, true), (14, true)], []⟩)], [], [], ⟨[(4, true)], []⟩, [], [22]⟩
theorem calls_cell_Fits : CallsOk Tryd.prog E_cell_Fits := callsOk_of ⟨⟨c_cell_Check, Tryd.call22, fun _ => words_spec rfl⟩, trivial⟩
noncomputable def b_cell_Fits : Code := (Tryd.f20.body).getD .skip
noncomputable def sg_cell_Fits_0 (columns_1 : (List (ByteArray × (Int × Bool)))) (t12_2 : (List (Int × (Int × ByteArray)))) (t13_3 : Int) (t14_4 : Int) : St := mk [(1, .dat (.sl (.pair .str (.pair (.int .i64) .bool))) columns_1 []), (12, .dat (.sl (.pair (.int .i64) (.pair (.int .i64) .str))) t12_2 []), (13, .dat (.int .i64) t13_3 []), (14, .dat (.int .i64) t14_4 [])] []
noncomputable def q_cell_Fits_0 (m0 : Nat) : K (ResD [((.int .i64), [])]) := fin E_cell_Fits [.tmp 4] 0 [((.int .i64), [])]
noncomputable def cd_cell_Fits_1 : Code := (rgt (rgt (rgt b_cell_Fits)))
noncomputable def q_cell_Fits_1 (m0 : Nat) : K (ResD [((.int .i64), [])]) := seqK E_cell_Fits (evJ E_cell_Fits (drE E_cell_Fits) m0) cd_cell_Fits_1 0 (evC E_cell_Fits (evJ E_cell_Fits (drE E_cell_Fits) m0) (drE E_cell_Fits) cd_cell_Fits_1 0) (q_cell_Fits_0 m0)
noncomputable def q_cell_Fits_2 (m0 : Nat) : K (ResD [((.int .i64), [])]) := blockK 0 (q_cell_Fits_1 m0)
noncomputable def cd_cell_Fits_2 : Code := (lft (lft (rgt (lft (rgt (rgt b_cell_Fits))))))
theorem st_cell_Fits_j0 (m0 : Nat) (n : Nat) (columns_1 : (List (ByteArray × (Int × Bool)))) (t12_2 : (List (Int × (Int × ByteArray)))) (t13_3 : Int) (t14_4 : Int) : evJ E_cell_Fits (drE E_cell_Fits) (n + 1) (.loop cd_cell_Fits_2) 0 (sg_cell_Fits_0 columns_1 t12_2 t13_3 t14_4) (q_cell_Fits_2 m0) = cell_Fits.S0 (fun columns_1 t12_2 t13_3 t14_4 => evJ E_cell_Fits (drE E_cell_Fits) n (.loop cd_cell_Fits_2) 0 (sg_cell_Fits_0 columns_1 t12_2 t13_3 t14_4) (q_cell_Fits_2 m0)) columns_1 t12_2 t13_3 t14_4 := by kernel_rfl
theorem J_cell_Fits_0 (m0 : Nat) : ∀ (n : Nat) (columns_1 : (List (ByteArray × (Int × Bool)))) (t12_2 : (List (Int × (Int × ByteArray)))) (t13_3 : Int) (t14_4 : Int), evJ E_cell_Fits (drE E_cell_Fits) n (.loop cd_cell_Fits_2) 0 (sg_cell_Fits_0 columns_1 t12_2 t13_3 t14_4) (q_cell_Fits_2 m0) = cell_Fits.l0 n columns_1 t12_2 t13_3 t14_4 := by
  intro n
  induction n with
  | zero => intros; rfl
  | succ n ih =>
    intro columns_1 t12_2 t13_3 t14_4
    have e0 : (fun columns_1 t12_2 t13_3 t14_4 => evJ E_cell_Fits (drE E_cell_Fits) n (.loop cd_cell_Fits_2) 0 (sg_cell_Fits_0 columns_1 t12_2 t13_3 t14_4) (q_cell_Fits_2 m0)) = (cell_Fits.l0 n) := by funext columns_1 t12_2 t13_3 t14_4; exact ih columns_1 t12_2 t13_3 t14_4
    refine (st_cell_Fits_j0 m0 n columns_1 t12_2 t13_3 t14_4).trans ?_
    rw [e0]; rfl
theorem st_cell_Fits (m0 : Nat) (r : (List (Int × (Int × ByteArray)))) (columns : (List (ByteArray × (Int × Bool)))) : evC E_cell_Fits (evJ E_cell_Fits (drE E_cell_Fits) m0) (drE E_cell_Fits) b_cell_Fits 0 (st0 [.val (.sl (.pair (.int .i64) (.pair (.int .i64) .str))), .val (.sl (.pair .str (.pair (.int .i64) .bool)))] (r, columns, ())) (fin E_cell_Fits [.tmp 4] 0 [((.int .i64), [])]) = cell_Fits.S (fun columns_1 t12_2 t13_3 t14_4 => evJ E_cell_Fits (drE E_cell_Fits) m0 (.loop cd_cell_Fits_2) 0 (sg_cell_Fits_0 columns_1 t12_2 t13_3 t14_4) (q_cell_Fits_2 m0)) r columns := by kernel_rfl
theorem ev_cell_Fits (r : (List (Int × (Int × ByteArray)))) (columns : (List (ByteArray × (Int × Bool)))) : evC E_cell_Fits (evJ E_cell_Fits (drE E_cell_Fits) fu) (drE E_cell_Fits) b_cell_Fits 0 (st0 [.val (.sl (.pair (.int .i64) (.pair (.int .i64) .str))), .val (.sl (.pair .str (.pair (.int .i64) .bool)))] (r, columns, ())) (fin E_cell_Fits [.tmp 4] 0 [((.int .i64), [])]) = cell_Fits r columns := by
  have e0 : (fun columns_1 t12_2 t13_3 t14_4 => evJ E_cell_Fits (drE E_cell_Fits) fu (.loop cd_cell_Fits_2) 0 (sg_cell_Fits_0 columns_1 t12_2 t13_3 t14_4) (q_cell_Fits_2 fu)) = (cell_Fits.l0 fu) := by funext columns_1 t12_2 t13_3 t14_4; exact J_cell_Fits_0 fu fu columns_1 t12_2 t13_3 t14_4
  refine (st_cell_Fits fu r columns).trans ?_
  rw [e0]; rfl
@[reducible] def sp_cell_Fits   : AM.Spec := AM.spec [.val (.sl (.pair (.int .i64) (.pair (.int .i64) .str))), .val (.sl (.pair .str (.pair (.int .i64) .bool)))] [((.int .i64), [])] (fun x => cell_Fits x.1 x.2.1)
theorem c_cell_Fits : Contract Tryd.prog 20 sp_cell_Fits :=
  contract_of (Tab.envOk tabOk _ _) calls_cell_Fits tabOk.mixed (fn := Tryd.f20) (c := b_cell_Fits) (ts := [.tmp 4]) (by kernel_rfl) (by kernel_rfl) (by kernel_rfl) (by decide) (by kernel_rfl) (by decide) rfl fun x _ h => ⟨fu, (ev_cell_Fits x.1 x.2.1).trans h⟩

/-! peristyle/peristyleref06.Fits -/
@[reducible] noncomputable def E_ref06_Fits : Env := tab.env (AM.look [(19, sp_ref06_May)]) ⟨[(0, ⟨[(0, true), (1, true), (5, true)], []⟩)], [], [], ⟨[(4, true)], []⟩, [], [19]⟩
theorem calls_ref06_Fits : CallsOk Tryd.prog E_ref06_Fits := callsOk_of ⟨⟨c_ref06_May, Tryd.call19, fun _ => words_spec rfl⟩, trivial⟩
noncomputable def b_ref06_Fits : Code := (Tryd.f21.body).getD .skip
noncomputable def sg_ref06_Fits_0 (r_1 : (List (Int × (Int × ByteArray)))) (columns_2 : (List (ByteArray × (Int × Bool)))) (i_3 : Int) : St := mk [(0, .dat (.sl (.pair (.int .i64) (.pair (.int .i64) .str))) r_1 []), (1, .dat (.sl (.pair .str (.pair (.int .i64) .bool))) columns_2 []), (5, .dat (.int .i64) i_3 [])] []
noncomputable def q_ref06_Fits_0 (m0 : Nat) : K (ResD [(.bool, [])]) := fin E_ref06_Fits [.tmp 4] 0 [(.bool, [])]
noncomputable def cd_ref06_Fits_1 : Code := (rgt (rgt (rgt b_ref06_Fits)))
noncomputable def q_ref06_Fits_1 (m0 : Nat) : K (ResD [(.bool, [])]) := seqK E_ref06_Fits (evJ E_ref06_Fits (drE E_ref06_Fits) m0) cd_ref06_Fits_1 0 (evC E_ref06_Fits (evJ E_ref06_Fits (drE E_ref06_Fits) m0) (drE E_ref06_Fits) cd_ref06_Fits_1 0) (q_ref06_Fits_0 m0)
noncomputable def q_ref06_Fits_2 (m0 : Nat) : K (ResD [(.bool, [])]) := blockK 0 (q_ref06_Fits_1 m0)
noncomputable def cd_ref06_Fits_2 : Code := (lft (lft (rgt (lft (rgt (rgt b_ref06_Fits))))))
theorem st_ref06_Fits_j0 (m0 : Nat) (n : Nat) (r_1 : (List (Int × (Int × ByteArray)))) (columns_2 : (List (ByteArray × (Int × Bool)))) (i_3 : Int) : evJ E_ref06_Fits (drE E_ref06_Fits) (n + 1) (.loop cd_ref06_Fits_2) 0 (sg_ref06_Fits_0 r_1 columns_2 i_3) (q_ref06_Fits_2 m0) = ref06_Fits.S0 (fun r_1 columns_2 i_3 => evJ E_ref06_Fits (drE E_ref06_Fits) n (.loop cd_ref06_Fits_2) 0 (sg_ref06_Fits_0 r_1 columns_2 i_3) (q_ref06_Fits_2 m0)) r_1 columns_2 i_3 := by kernel_rfl
theorem J_ref06_Fits_0 (m0 : Nat) : ∀ (n : Nat) (r_1 : (List (Int × (Int × ByteArray)))) (columns_2 : (List (ByteArray × (Int × Bool)))) (i_3 : Int), evJ E_ref06_Fits (drE E_ref06_Fits) n (.loop cd_ref06_Fits_2) 0 (sg_ref06_Fits_0 r_1 columns_2 i_3) (q_ref06_Fits_2 m0) = ref06_Fits.l0 n r_1 columns_2 i_3 := by
  intro n
  induction n with
  | zero => intros; rfl
  | succ n ih =>
    intro r_1 columns_2 i_3
    have e0 : (fun r_1 columns_2 i_3 => evJ E_ref06_Fits (drE E_ref06_Fits) n (.loop cd_ref06_Fits_2) 0 (sg_ref06_Fits_0 r_1 columns_2 i_3) (q_ref06_Fits_2 m0)) = (ref06_Fits.l0 n) := by funext r_1 columns_2 i_3; exact ih r_1 columns_2 i_3
    refine (st_ref06_Fits_j0 m0 n r_1 columns_2 i_3).trans ?_
    rw [e0]; rfl
theorem st_ref06_Fits (m0 : Nat) (r : (List (Int × (Int × ByteArray)))) (columns : (List (ByteArray × (Int × Bool)))) : evC E_ref06_Fits (evJ E_ref06_Fits (drE E_ref06_Fits) m0) (drE E_ref06_Fits) b_ref06_Fits 0 (st0 [.val (.sl (.pair (.int .i64) (.pair (.int .i64) .str))), .val (.sl (.pair .str (.pair (.int .i64) .bool)))] (r, columns, ())) (fin E_ref06_Fits [.tmp 4] 0 [(.bool, [])]) = ref06_Fits.S (fun r_1 columns_2 i_3 => evJ E_ref06_Fits (drE E_ref06_Fits) m0 (.loop cd_ref06_Fits_2) 0 (sg_ref06_Fits_0 r_1 columns_2 i_3) (q_ref06_Fits_2 m0)) r columns := by kernel_rfl
theorem ev_ref06_Fits (r : (List (Int × (Int × ByteArray)))) (columns : (List (ByteArray × (Int × Bool)))) : evC E_ref06_Fits (evJ E_ref06_Fits (drE E_ref06_Fits) fu) (drE E_ref06_Fits) b_ref06_Fits 0 (st0 [.val (.sl (.pair (.int .i64) (.pair (.int .i64) .str))), .val (.sl (.pair .str (.pair (.int .i64) .bool)))] (r, columns, ())) (fin E_ref06_Fits [.tmp 4] 0 [(.bool, [])]) = ref06_Fits r columns := by
  have e0 : (fun r_1 columns_2 i_3 => evJ E_ref06_Fits (drE E_ref06_Fits) fu (.loop cd_ref06_Fits_2) 0 (sg_ref06_Fits_0 r_1 columns_2 i_3) (q_ref06_Fits_2 fu)) = (ref06_Fits.l0 fu) := by funext r_1 columns_2 i_3; exact J_ref06_Fits_0 fu fu r_1 columns_2 i_3
  refine (st_ref06_Fits fu r columns).trans ?_
  rw [e0]; rfl
@[reducible] def sp_ref06_Fits   : AM.Spec := AM.spec [.val (.sl (.pair (.int .i64) (.pair (.int .i64) .str))), .val (.sl (.pair .str (.pair (.int .i64) .bool)))] [(.bool, [])] (fun x => ref06_Fits x.1 x.2.1)
theorem c_ref06_Fits : Contract Tryd.prog 21 sp_ref06_Fits :=
  contract_of (Tab.envOk tabOk _ _) calls_ref06_Fits tabOk.mixed (fn := Tryd.f21) (c := b_ref06_Fits) (ts := [.tmp 4]) (by kernel_rfl) (by kernel_rfl) (by kernel_rfl) (by decide) (by kernel_rfl) (by decide) rfl fun x _ h => ⟨fu, (ev_ref06_Fits x.1 x.2.1).trans h⟩

/-! peristyle/peristylelaw06.CellFits -/
@[reducible] noncomputable def E_law06_CellFits : Env := tab.env (AM.look [(9, sp_ref06_Light), (7, sp_law06_awake), (20, sp_cell_Fits), (21, sp_ref06_Fits)]) ⟨[], [], [], ⟨[(4, true)], []⟩, [], [7, 9, 20, 21]⟩
theorem calls_law06_CellFits : CallsOk Tryd.prog E_law06_CellFits := callsOk_of ⟨⟨c_ref06_Light, Tryd.call9, fun _ => words_spec rfl⟩, ⟨⟨c_law06_awake, Tryd.call7, fun _ => words_spec rfl⟩, ⟨⟨c_cell_Fits, Tryd.call20, fun _ => words_spec rfl⟩, ⟨⟨c_ref06_Fits, Tryd.call21, fun _ => words_spec rfl⟩, trivial⟩⟩⟩⟩
noncomputable def b_law06_CellFits : Code := (Tryd.f6.body).getD .skip
theorem st_law06_CellFits (m0 : Nat) (r : (List (Int × (Int × ByteArray)))) (columns : (List (ByteArray × (Int × Bool)))) : evC E_law06_CellFits (evJ E_law06_CellFits (drE E_law06_CellFits) m0) (drE E_law06_CellFits) b_law06_CellFits 0 (st0 [.val (.sl (.pair (.int .i64) (.pair (.int .i64) .str))), .val (.sl (.pair .str (.pair (.int .i64) .bool)))] (r, columns, ())) (fin E_law06_CellFits [.tmp 4] 0 [(.bool, [])]) = law06_CellFits r columns := by kernel_rfl
theorem ev_law06_CellFits (r : (List (Int × (Int × ByteArray)))) (columns : (List (ByteArray × (Int × Bool)))) : evC E_law06_CellFits (evJ E_law06_CellFits (drE E_law06_CellFits) fu) (drE E_law06_CellFits) b_law06_CellFits 0 (st0 [.val (.sl (.pair (.int .i64) (.pair (.int .i64) .str))), .val (.sl (.pair .str (.pair (.int .i64) .bool)))] (r, columns, ())) (fin E_law06_CellFits [.tmp 4] 0 [(.bool, [])]) = law06_CellFits r columns := st_law06_CellFits fu r columns
@[reducible] def sp_law06_CellFits   : AM.Spec := AM.spec [.val (.sl (.pair (.int .i64) (.pair (.int .i64) .str))), .val (.sl (.pair .str (.pair (.int .i64) .bool)))] [(.bool, [])] (fun x => law06_CellFits x.1 x.2.1)
theorem c_law06_CellFits : Contract Tryd.prog 6 sp_law06_CellFits :=
  contract_of (Tab.envOk tabOk _ _) calls_law06_CellFits tabOk.mixed (fn := Tryd.f6) (c := b_law06_CellFits) (ts := [.tmp 4]) (by kernel_rfl) (by kernel_rfl) (by kernel_rfl) (by decide) (by kernel_rfl) (by decide) rfl fun x _ h => ⟨fu, (ev_law06_CellFits x.1 x.2.1).trans h⟩
end Go.Proofs.YtkfffcnililmkaaDoor.Am
