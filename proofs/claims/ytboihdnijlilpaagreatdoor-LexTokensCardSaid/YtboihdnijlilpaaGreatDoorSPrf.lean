import Derived.Test.YtboihdnijlilpaaGreatDoorAmPure29
import Derived.Test.YtboihdnijlilpaaGreatDoorSPrim
/- PRINTED by gen/ of this repo: the code comes to the pure functions. -/
namespace Go.Proofs.YtboihdnijlilpaaGreatDoor.Am
open Go.AM Go.AM.Pure
set_option linter.unusedVariables false

/-! peristyle/lex.kind -/
@[reducible] noncomputable def E_lex_kind : Env := tab.env (AM.look []) ⟨[], [], [(5, ⟨[(0, true)], []⟩)], ⟨[(2, true)], []⟩, [], []⟩
theorem calls_lex_kind : CallsOk Tryz.prog E_lex_kind := callsOk_of trivial
noncomputable def b_lex_kind : Code := (Tryz.f12.body).getD .skip
noncomputable def sg_lex_kind_0 (c_1 : Int) : St := mk [(0, .dat (.int .u8) c_1 [])] []
noncomputable def q_lex_kind_0 (m0 : Nat) : K (ResD [((.int .i64), [])]) := fin E_lex_kind [.tmp 2] 0 [((.int .i64), [])]
noncomputable def cd_lex_kind_1 : Code := (rgt (rgt b_lex_kind))
theorem st_lex_kind_j0 (m0 : Nat) (n : Nat) (c_1 : Int) : evJ E_lex_kind (drE E_lex_kind) (n + 1) (.tail cd_lex_kind_1) 0 (sg_lex_kind_0 c_1) (q_lex_kind_0 m0) = lex_kind.S0 c_1 := by kernel_rfl
theorem J_lex_kind_0 (m0 : Nat) : ∀ (n : Nat) (c_1 : Int), evJ E_lex_kind (drE E_lex_kind) n (.tail cd_lex_kind_1) 0 (sg_lex_kind_0 c_1) (q_lex_kind_0 m0) = lex_kind.t0 n c_1 := by
  intro n
  induction n with
  | zero => intros; rfl
  | succ n ih =>
    intro c_1
    have e0 : (fun c_1 => evJ E_lex_kind (drE E_lex_kind) n (.tail cd_lex_kind_1) 0 (sg_lex_kind_0 c_1) (q_lex_kind_0 m0)) = (lex_kind.t0 n) := by funext c_1; exact ih c_1
    refine (st_lex_kind_j0 m0 n c_1).trans ?_
    rfl
theorem st_lex_kind (m0 : Nat) (c : Int) : evC E_lex_kind (evJ E_lex_kind (drE E_lex_kind) m0) (drE E_lex_kind) b_lex_kind 0 (st0 [.val (.int .u8)] (c, ())) (fin E_lex_kind [.tmp 2] 0 [((.int .i64), [])]) = lex_kind.S (fun c_1 => evJ E_lex_kind (drE E_lex_kind) m0 (.tail cd_lex_kind_1) 0 (sg_lex_kind_0 c_1) (q_lex_kind_0 m0)) c := by kernel_rfl
theorem ev_lex_kind (c : Int) : evC E_lex_kind (evJ E_lex_kind (drE E_lex_kind) fu) (drE E_lex_kind) b_lex_kind 0 (st0 [.val (.int .u8)] (c, ())) (fin E_lex_kind [.tmp 2] 0 [((.int .i64), [])]) = lex_kind c := by
  have e0 : (fun c_1 => evJ E_lex_kind (drE E_lex_kind) fu (.tail cd_lex_kind_1) 0 (sg_lex_kind_0 c_1) (q_lex_kind_0 fu)) = (lex_kind.t0 fu) := by funext c_1; exact J_lex_kind_0 fu fu c_1
  refine (st_lex_kind fu c).trans ?_
  rw [e0]; rfl
@[reducible] def sp_lex_kind   : AM.Spec := AM.spec [.val (.int .u8)] [((.int .i64), [])] (fun x => lex_kind x.1)
theorem c_lex_kind : Contract Tryz.prog 12 sp_lex_kind :=
  contract_of (Tab.envOk tabOk _ _) calls_lex_kind tabOk.mixed (fn := Tryz.f12) (c := b_lex_kind) (ts := [.tmp 2]) (by kernel_rfl) (by kernel_rfl) (by kernel_rfl) (by decide) (by kernel_rfl) (by decide) rfl fun x _ h => ⟨fu, (ev_lex_kind x.1).trans h⟩

/-! peristyle/lex.Tokens$1 -/
@[reducible] noncomputable def E_lex_Tokens_1 : Env := tab.env (AM.look [(12, sp_lex_kind)]) ⟨[], [], [], ⟨[(2, true)], []⟩, [], [12]⟩
theorem calls_lex_Tokens_1 : CallsOk Tryz.prog E_lex_Tokens_1 := callsOk_of ⟨⟨c_lex_kind, Tryz.call12, fun _ => words_spec rfl⟩, trivial⟩
noncomputable def b_lex_Tokens_1 : Code := (Tryz.f11.body).getD .skip
theorem st_lex_Tokens_1 (m0 : Nat) (c : Int) : evC E_lex_Tokens_1 (evJ E_lex_Tokens_1 (drE E_lex_Tokens_1) m0) (drE E_lex_Tokens_1) b_lex_Tokens_1 0 (st0 [.val (.int .u8)] (c, ())) (fin E_lex_Tokens_1 [.tmp 2] 0 [(.bool, [])]) = lex_Tokens_1 c := by kernel_rfl
theorem ev_lex_Tokens_1 (c : Int) : evC E_lex_Tokens_1 (evJ E_lex_Tokens_1 (drE E_lex_Tokens_1) fu) (drE E_lex_Tokens_1) b_lex_Tokens_1 0 (st0 [.val (.int .u8)] (c, ())) (fin E_lex_Tokens_1 [.tmp 2] 0 [(.bool, [])]) = lex_Tokens_1 c := st_lex_Tokens_1 fu c
@[reducible] def sp_lex_Tokens_1   : AM.Spec := AM.spec [.val (.int .u8)] [(.bool, [])] (fun x => lex_Tokens_1 x.1)
theorem c_lex_Tokens_1 : Contract Tryz.prog 11 sp_lex_Tokens_1 :=
  contract_of (Tab.envOk tabOk _ _) calls_lex_Tokens_1 tabOk.mixed (fn := Tryz.f11) (c := b_lex_Tokens_1) (ts := [.tmp 2]) (by kernel_rfl) (by kernel_rfl) (by kernel_rfl) (by decide) (by kernel_rfl) (by decide) rfl fun x _ h => ⟨fu, (ev_lex_Tokens_1 x.1).trans h⟩

/-! (*peristyle/lex.lexer).while -/
@[reducible] noncomputable def E_lex_lexer_while__lex_Tokens_1_w : Env := tab.env (AM.look [(11, sp_lex_Tokens_1)]) ⟨[(0, ⟨[(0, true), (1, true), (5, true)], [(1000000, true)]⟩)], [], [(4, ⟨[(0, true), (5, true)], [(1000000, true)]⟩)], ⟨[(4, true)], [(1000000, true)]⟩, [], [11]⟩
theorem calls_lex_lexer_while__lex_Tokens_1_w : CallsOk Tryz.prog E_lex_lexer_while__lex_Tokens_1_w := callsOk_of ⟨⟨c_lex_Tokens_1, Tryz.call11, fun _ => words_spec rfl⟩, trivial⟩
noncomputable def b_lex_lexer_while__lex_Tokens_1_w : Code := (Tryz.f10.body).getD .skip
noncomputable def sg_lex_lexer_while__lex_Tokens_1_w_1 (k_4 : Int) (t1000000_5 : (ByteArray × Int)) : St := mk [(0, .ptr 1000000 0 0), (5, .dat (.int .i64) k_4 [])] [(1000000, some (.var (.pair .str (.int .i64)) t1000000_5 []))]
noncomputable def sg_lex_lexer_while__lex_Tokens_1_w_0 (k_1 : Int) (t1000000_2 : (ByteArray × Int)) : St := mk [(0, .ptr 1000000 0 0), (1, .fn 11 []), (5, .dat (.int .i64) k_1 [])] [(1000000, some (.var (.pair .str (.int .i64)) t1000000_2 []))]
noncomputable def q_lex_lexer_while__lex_Tokens_1_w_0 (m0 : Nat) : K (ResD [(.str, []), ((.pair .str (.int .i64)), [])]) := fin E_lex_lexer_while__lex_Tokens_1_w [.tmp 4] 1 [(.str, []), ((.pair .str (.int .i64)), [])]
noncomputable def cd_lex_lexer_while__lex_Tokens_1_w_1 : Code := (rgt (rgt (rgt b_lex_lexer_while__lex_Tokens_1_w)))
theorem st_lex_lexer_while__lex_Tokens_1_w_j1 (m0 : Nat) (n : Nat) (k_4 : Int) (t1000000_5 : (ByteArray × Int)) : evJ E_lex_lexer_while__lex_Tokens_1_w (drE E_lex_lexer_while__lex_Tokens_1_w) (n + 1) (.tail cd_lex_lexer_while__lex_Tokens_1_w_1) 0 (sg_lex_lexer_while__lex_Tokens_1_w_1 k_4 t1000000_5) (q_lex_lexer_while__lex_Tokens_1_w_0 m0) = lex_lexer_while__lex_Tokens_1_w.S1 k_4 t1000000_5 := by kernel_rfl
theorem J_lex_lexer_while__lex_Tokens_1_w_1 (m0 : Nat) : ∀ (n : Nat) (k_4 : Int) (t1000000_5 : (ByteArray × Int)), evJ E_lex_lexer_while__lex_Tokens_1_w (drE E_lex_lexer_while__lex_Tokens_1_w) n (.tail cd_lex_lexer_while__lex_Tokens_1_w_1) 0 (sg_lex_lexer_while__lex_Tokens_1_w_1 k_4 t1000000_5) (q_lex_lexer_while__lex_Tokens_1_w_0 m0) = lex_lexer_while__lex_Tokens_1_w.t1 n k_4 t1000000_5 := by
  intro n
  induction n with
  | zero => intros; rfl
  | succ n ih =>
    intro k_4 t1000000_5
    have e1 : (fun k_4 t1000000_5 => evJ E_lex_lexer_while__lex_Tokens_1_w (drE E_lex_lexer_while__lex_Tokens_1_w) n (.tail cd_lex_lexer_while__lex_Tokens_1_w_1) 0 (sg_lex_lexer_while__lex_Tokens_1_w_1 k_4 t1000000_5) (q_lex_lexer_while__lex_Tokens_1_w_0 m0)) = (lex_lexer_while__lex_Tokens_1_w.t1 n) := by funext k_4 t1000000_5; exact ih k_4 t1000000_5
    refine (st_lex_lexer_while__lex_Tokens_1_w_j1 m0 n k_4 t1000000_5).trans ?_
    rfl
noncomputable def q_lex_lexer_while__lex_Tokens_1_w_1 (m0 : Nat) : K (ResD [(.str, []), ((.pair .str (.int .i64)), [])]) := seqK E_lex_lexer_while__lex_Tokens_1_w (evJ E_lex_lexer_while__lex_Tokens_1_w (drE E_lex_lexer_while__lex_Tokens_1_w) m0) cd_lex_lexer_while__lex_Tokens_1_w_1 0 (evC E_lex_lexer_while__lex_Tokens_1_w (evJ E_lex_lexer_while__lex_Tokens_1_w (drE E_lex_lexer_while__lex_Tokens_1_w) m0) (drE E_lex_lexer_while__lex_Tokens_1_w) cd_lex_lexer_while__lex_Tokens_1_w_1 0) (q_lex_lexer_while__lex_Tokens_1_w_0 m0)
noncomputable def q_lex_lexer_while__lex_Tokens_1_w_2 (m0 : Nat) : K (ResD [(.str, []), ((.pair .str (.int .i64)), [])]) := blockK 0 (q_lex_lexer_while__lex_Tokens_1_w_1 m0)
noncomputable def cd_lex_lexer_while__lex_Tokens_1_w_2 : Code := (lft (lft (lft (rgt (rgt b_lex_lexer_while__lex_Tokens_1_w)))))
theorem st_lex_lexer_while__lex_Tokens_1_w_j0 (m0 : Nat) (n : Nat) (k_1 : Int) (t1000000_2 : (ByteArray × Int)) : evJ E_lex_lexer_while__lex_Tokens_1_w (drE E_lex_lexer_while__lex_Tokens_1_w) (n + 1) (.loop cd_lex_lexer_while__lex_Tokens_1_w_2) 0 (sg_lex_lexer_while__lex_Tokens_1_w_0 k_1 t1000000_2) (q_lex_lexer_while__lex_Tokens_1_w_2 m0) = lex_lexer_while__lex_Tokens_1_w.S0 (fun k_4 t1000000_5 => evJ E_lex_lexer_while__lex_Tokens_1_w (drE E_lex_lexer_while__lex_Tokens_1_w) m0 (.tail cd_lex_lexer_while__lex_Tokens_1_w_1) 0 (sg_lex_lexer_while__lex_Tokens_1_w_1 k_4 t1000000_5) (q_lex_lexer_while__lex_Tokens_1_w_0 m0)) (fun k_1 t1000000_2 => evJ E_lex_lexer_while__lex_Tokens_1_w (drE E_lex_lexer_while__lex_Tokens_1_w) n (.loop cd_lex_lexer_while__lex_Tokens_1_w_2) 0 (sg_lex_lexer_while__lex_Tokens_1_w_0 k_1 t1000000_2) (q_lex_lexer_while__lex_Tokens_1_w_2 m0)) k_1 t1000000_2 := by kernel_rfl
theorem J_lex_lexer_while__lex_Tokens_1_w_0 (m0 : Nat) : ∀ (n : Nat) (k_1 : Int) (t1000000_2 : (ByteArray × Int)), evJ E_lex_lexer_while__lex_Tokens_1_w (drE E_lex_lexer_while__lex_Tokens_1_w) n (.loop cd_lex_lexer_while__lex_Tokens_1_w_2) 0 (sg_lex_lexer_while__lex_Tokens_1_w_0 k_1 t1000000_2) (q_lex_lexer_while__lex_Tokens_1_w_2 m0) = lex_lexer_while__lex_Tokens_1_w.l0 (fun k_4 t1000000_5 => evJ E_lex_lexer_while__lex_Tokens_1_w (drE E_lex_lexer_while__lex_Tokens_1_w) m0 (.tail cd_lex_lexer_while__lex_Tokens_1_w_1) 0 (sg_lex_lexer_while__lex_Tokens_1_w_1 k_4 t1000000_5) (q_lex_lexer_while__lex_Tokens_1_w_0 m0)) n k_1 t1000000_2 := by
  intro n
  induction n with
  | zero => intros; rfl
  | succ n ih =>
    intro k_1 t1000000_2
    have e0 : (fun k_1 t1000000_2 => evJ E_lex_lexer_while__lex_Tokens_1_w (drE E_lex_lexer_while__lex_Tokens_1_w) n (.loop cd_lex_lexer_while__lex_Tokens_1_w_2) 0 (sg_lex_lexer_while__lex_Tokens_1_w_0 k_1 t1000000_2) (q_lex_lexer_while__lex_Tokens_1_w_2 m0)) = (lex_lexer_while__lex_Tokens_1_w.l0 (fun k_4 t1000000_5 => evJ E_lex_lexer_while__lex_Tokens_1_w (drE E_lex_lexer_while__lex_Tokens_1_w) m0 (.tail cd_lex_lexer_while__lex_Tokens_1_w_1) 0 (sg_lex_lexer_while__lex_Tokens_1_w_1 k_4 t1000000_5) (q_lex_lexer_while__lex_Tokens_1_w_0 m0)) n) := by funext k_1 t1000000_2; exact ih k_1 t1000000_2
    refine (st_lex_lexer_while__lex_Tokens_1_w_j0 m0 n k_1 t1000000_2).trans ?_
    rw [e0]; rfl
theorem st_lex_lexer_while__lex_Tokens_1_w (m0 : Nat) (l : (ByteArray × Int)) : evC E_lex_lexer_while__lex_Tokens_1_w (evJ E_lex_lexer_while__lex_Tokens_1_w (drE E_lex_lexer_while__lex_Tokens_1_w) m0) (drE E_lex_lexer_while__lex_Tokens_1_w) b_lex_lexer_while__lex_Tokens_1_w 0 (st0 [.io (.pair .str (.int .i64)) [], .fn 11 []] (l, (), ())) (fin E_lex_lexer_while__lex_Tokens_1_w [.tmp 4] 1 [(.str, []), ((.pair .str (.int .i64)), [])]) = lex_lexer_while__lex_Tokens_1_w.S (fun k_1 t1000000_2 => evJ E_lex_lexer_while__lex_Tokens_1_w (drE E_lex_lexer_while__lex_Tokens_1_w) m0 (.loop cd_lex_lexer_while__lex_Tokens_1_w_2) 0 (sg_lex_lexer_while__lex_Tokens_1_w_0 k_1 t1000000_2) (q_lex_lexer_while__lex_Tokens_1_w_2 m0)) l := by kernel_rfl
theorem ev_lex_lexer_while__lex_Tokens_1_w (l : (ByteArray × Int)) : evC E_lex_lexer_while__lex_Tokens_1_w (evJ E_lex_lexer_while__lex_Tokens_1_w (drE E_lex_lexer_while__lex_Tokens_1_w) fu) (drE E_lex_lexer_while__lex_Tokens_1_w) b_lex_lexer_while__lex_Tokens_1_w 0 (st0 [.io (.pair .str (.int .i64)) [], .fn 11 []] (l, (), ())) (fin E_lex_lexer_while__lex_Tokens_1_w [.tmp 4] 1 [(.str, []), ((.pair .str (.int .i64)), [])]) = lex_lexer_while__lex_Tokens_1_w l := by
  have e1 : (fun k_4 t1000000_5 => evJ E_lex_lexer_while__lex_Tokens_1_w (drE E_lex_lexer_while__lex_Tokens_1_w) fu (.tail cd_lex_lexer_while__lex_Tokens_1_w_1) 0 (sg_lex_lexer_while__lex_Tokens_1_w_1 k_4 t1000000_5) (q_lex_lexer_while__lex_Tokens_1_w_0 fu)) = (lex_lexer_while__lex_Tokens_1_w.t1 fu) := by funext k_4 t1000000_5; exact J_lex_lexer_while__lex_Tokens_1_w_1 fu fu k_4 t1000000_5
  have e0 : (fun k_1 t1000000_2 => evJ E_lex_lexer_while__lex_Tokens_1_w (drE E_lex_lexer_while__lex_Tokens_1_w) fu (.loop cd_lex_lexer_while__lex_Tokens_1_w_2) 0 (sg_lex_lexer_while__lex_Tokens_1_w_0 k_1 t1000000_2) (q_lex_lexer_while__lex_Tokens_1_w_2 fu)) = (lex_lexer_while__lex_Tokens_1_w.l0 (lex_lexer_while__lex_Tokens_1_w.t1 fu) fu) := by rw [← e1]; funext k_1 t1000000_2; exact J_lex_lexer_while__lex_Tokens_1_w_0 fu fu k_1 t1000000_2
  refine (st_lex_lexer_while__lex_Tokens_1_w fu l).trans ?_
  rw [e0]; rfl
@[reducible] def sp_lex_lexer_while__lex_Tokens_1_w   : AM.Spec := AM.specIo 1 [.io (.pair .str (.int .i64)) [], .fn 11 []] [(.str, []), ((.pair .str (.int .i64)), [])] (fun x => lex_lexer_while__lex_Tokens_1_w x.1)
theorem c_lex_lexer_while__lex_Tokens_1_w : Contract Tryz.prog 10 sp_lex_lexer_while__lex_Tokens_1_w :=
  contract_io (Tab.envOk tabOk _ _) calls_lex_lexer_while__lex_Tokens_1_w tabOk.mixed (fn := Tryz.f10) (c := b_lex_lexer_while__lex_Tokens_1_w) (ts := [.tmp 4]) (by kernel_rfl) (by kernel_rfl) (by kernel_rfl) (by decide) (by kernel_rfl) (by decide) fun x _ h => ⟨fu, (ev_lex_lexer_while__lex_Tokens_1_w x.1).trans h⟩

/-! (*peristyle/lex.lexer).next$1 -/
@[reducible] noncomputable def E_lex_lexer_next_1 : Env := tab.env (AM.look [(12, sp_lex_kind)]) ⟨[], [], [], ⟨[(2, true)], []⟩, [], [12]⟩
theorem calls_lex_lexer_next_1 : CallsOk Tryz.prog E_lex_lexer_next_1 := callsOk_of ⟨⟨c_lex_kind, Tryz.call12, fun _ => words_spec rfl⟩, trivial⟩
noncomputable def b_lex_lexer_next_1 : Code := (Tryz.f17.body).getD .skip
theorem st_lex_lexer_next_1 (m0 : Nat) (c : Int) : evC E_lex_lexer_next_1 (evJ E_lex_lexer_next_1 (drE E_lex_lexer_next_1) m0) (drE E_lex_lexer_next_1) b_lex_lexer_next_1 0 (st0 [.val (.int .u8)] (c, ())) (fin E_lex_lexer_next_1 [.tmp 2] 0 [(.bool, [])]) = lex_lexer_next_1 c := by kernel_rfl
theorem ev_lex_lexer_next_1 (c : Int) : evC E_lex_lexer_next_1 (evJ E_lex_lexer_next_1 (drE E_lex_lexer_next_1) fu) (drE E_lex_lexer_next_1) b_lex_lexer_next_1 0 (st0 [.val (.int .u8)] (c, ())) (fin E_lex_lexer_next_1 [.tmp 2] 0 [(.bool, [])]) = lex_lexer_next_1 c := st_lex_lexer_next_1 fu c
@[reducible] def sp_lex_lexer_next_1   : AM.Spec := AM.spec [.val (.int .u8)] [(.bool, [])] (fun x => lex_lexer_next_1 x.1)
theorem c_lex_lexer_next_1 : Contract Tryz.prog 17 sp_lex_lexer_next_1 :=
  contract_of (Tab.envOk tabOk _ _) calls_lex_lexer_next_1 tabOk.mixed (fn := Tryz.f17) (c := b_lex_lexer_next_1) (ts := [.tmp 2]) (by kernel_rfl) (by kernel_rfl) (by kernel_rfl) (by decide) (by kernel_rfl) (by decide) rfl fun x _ h => ⟨fu, (ev_lex_lexer_next_1 x.1).trans h⟩

/-! (*peristyle/lex.lexer).while -/
@[reducible] noncomputable def E_lex_lexer_while__lex_lexer_next_1_w : Env := tab.env (AM.look [(17, sp_lex_lexer_next_1)]) ⟨[(0, ⟨[(0, true), (1, true), (5, true)], [(1000000, true)]⟩)], [], [(4, ⟨[(0, true), (5, true)], [(1000000, true)]⟩)], ⟨[(4, true)], [(1000000, true)]⟩, [], [17]⟩
theorem calls_lex_lexer_while__lex_lexer_next_1_w : CallsOk Tryz.prog E_lex_lexer_while__lex_lexer_next_1_w := callsOk_of ⟨⟨c_lex_lexer_next_1, Tryz.call17, fun _ => words_spec rfl⟩, trivial⟩
noncomputable def b_lex_lexer_while__lex_lexer_next_1_w : Code := (Tryz.f10.body).getD .skip
noncomputable def sg_lex_lexer_while__lex_lexer_next_1_w_1 (k_4 : Int) (t1000000_5 : (ByteArray × Int)) : St := mk [(0, .ptr 1000000 0 0), (5, .dat (.int .i64) k_4 [])] [(1000000, some (.var (.pair .str (.int .i64)) t1000000_5 []))]
noncomputable def sg_lex_lexer_while__lex_lexer_next_1_w_0 (k_1 : Int) (t1000000_2 : (ByteArray × Int)) : St := mk [(0, .ptr 1000000 0 0), (1, .fn 17 []), (5, .dat (.int .i64) k_1 [])] [(1000000, some (.var (.pair .str (.int .i64)) t1000000_2 []))]
noncomputable def q_lex_lexer_while__lex_lexer_next_1_w_0 (m0 : Nat) : K (ResD [(.str, []), ((.pair .str (.int .i64)), [])]) := fin E_lex_lexer_while__lex_lexer_next_1_w [.tmp 4] 1 [(.str, []), ((.pair .str (.int .i64)), [])]
noncomputable def cd_lex_lexer_while__lex_lexer_next_1_w_1 : Code := (rgt (rgt (rgt b_lex_lexer_while__lex_lexer_next_1_w)))
theorem st_lex_lexer_while__lex_lexer_next_1_w_j1 (m0 : Nat) (n : Nat) (k_4 : Int) (t1000000_5 : (ByteArray × Int)) : evJ E_lex_lexer_while__lex_lexer_next_1_w (drE E_lex_lexer_while__lex_lexer_next_1_w) (n + 1) (.tail cd_lex_lexer_while__lex_lexer_next_1_w_1) 0 (sg_lex_lexer_while__lex_lexer_next_1_w_1 k_4 t1000000_5) (q_lex_lexer_while__lex_lexer_next_1_w_0 m0) = lex_lexer_while__lex_lexer_next_1_w.S1 k_4 t1000000_5 := by kernel_rfl
theorem J_lex_lexer_while__lex_lexer_next_1_w_1 (m0 : Nat) : ∀ (n : Nat) (k_4 : Int) (t1000000_5 : (ByteArray × Int)), evJ E_lex_lexer_while__lex_lexer_next_1_w (drE E_lex_lexer_while__lex_lexer_next_1_w) n (.tail cd_lex_lexer_while__lex_lexer_next_1_w_1) 0 (sg_lex_lexer_while__lex_lexer_next_1_w_1 k_4 t1000000_5) (q_lex_lexer_while__lex_lexer_next_1_w_0 m0) = lex_lexer_while__lex_lexer_next_1_w.t1 n k_4 t1000000_5 := by
  intro n
  induction n with
  | zero => intros; rfl
  | succ n ih =>
    intro k_4 t1000000_5
    have e1 : (fun k_4 t1000000_5 => evJ E_lex_lexer_while__lex_lexer_next_1_w (drE E_lex_lexer_while__lex_lexer_next_1_w) n (.tail cd_lex_lexer_while__lex_lexer_next_1_w_1) 0 (sg_lex_lexer_while__lex_lexer_next_1_w_1 k_4 t1000000_5) (q_lex_lexer_while__lex_lexer_next_1_w_0 m0)) = (lex_lexer_while__lex_lexer_next_1_w.t1 n) := by funext k_4 t1000000_5; exact ih k_4 t1000000_5
    refine (st_lex_lexer_while__lex_lexer_next_1_w_j1 m0 n k_4 t1000000_5).trans ?_
    rfl
noncomputable def q_lex_lexer_while__lex_lexer_next_1_w_1 (m0 : Nat) : K (ResD [(.str, []), ((.pair .str (.int .i64)), [])]) := seqK E_lex_lexer_while__lex_lexer_next_1_w (evJ E_lex_lexer_while__lex_lexer_next_1_w (drE E_lex_lexer_while__lex_lexer_next_1_w) m0) cd_lex_lexer_while__lex_lexer_next_1_w_1 0 (evC E_lex_lexer_while__lex_lexer_next_1_w (evJ E_lex_lexer_while__lex_lexer_next_1_w (drE E_lex_lexer_while__lex_lexer_next_1_w) m0) (drE E_lex_lexer_while__lex_lexer_next_1_w) cd_lex_lexer_while__lex_lexer_next_1_w_1 0) (q_lex_lexer_while__lex_lexer_next_1_w_0 m0)
noncomputable def q_lex_lexer_while__lex_lexer_next_1_w_2 (m0 : Nat) : K (ResD [(.str, []), ((.pair .str (.int .i64)), [])]) := blockK 0 (q_lex_lexer_while__lex_lexer_next_1_w_1 m0)
noncomputable def cd_lex_lexer_while__lex_lexer_next_1_w_2 : Code := (lft (lft (lft (rgt (rgt b_lex_lexer_while__lex_lexer_next_1_w)))))
theorem st_lex_lexer_while__lex_lexer_next_1_w_j0 (m0 : Nat) (n : Nat) (k_1 : Int) (t1000000_2 : (ByteArray × Int)) : evJ E_lex_lexer_while__lex_lexer_next_1_w (drE E_lex_lexer_while__lex_lexer_next_1_w) (n + 1) (.loop cd_lex_lexer_while__lex_lexer_next_1_w_2) 0 (sg_lex_lexer_while__lex_lexer_next_1_w_0 k_1 t1000000_2) (q_lex_lexer_while__lex_lexer_next_1_w_2 m0) = lex_lexer_while__lex_lexer_next_1_w.S0 (fun k_4 t1000000_5 => evJ E_lex_lexer_while__lex_lexer_next_1_w (drE E_lex_lexer_while__lex_lexer_next_1_w) m0 (.tail cd_lex_lexer_while__lex_lexer_next_1_w_1) 0 (sg_lex_lexer_while__lex_lexer_next_1_w_1 k_4 t1000000_5) (q_lex_lexer_while__lex_lexer_next_1_w_0 m0)) (fun k_1 t1000000_2 => evJ E_lex_lexer_while__lex_lexer_next_1_w (drE E_lex_lexer_while__lex_lexer_next_1_w) n (.loop cd_lex_lexer_while__lex_lexer_next_1_w_2) 0 (sg_lex_lexer_while__lex_lexer_next_1_w_0 k_1 t1000000_2) (q_lex_lexer_while__lex_lexer_next_1_w_2 m0)) k_1 t1000000_2 := by kernel_rfl
theorem J_lex_lexer_while__lex_lexer_next_1_w_0 (m0 : Nat) : ∀ (n : Nat) (k_1 : Int) (t1000000_2 : (ByteArray × Int)), evJ E_lex_lexer_while__lex_lexer_next_1_w (drE E_lex_lexer_while__lex_lexer_next_1_w) n (.loop cd_lex_lexer_while__lex_lexer_next_1_w_2) 0 (sg_lex_lexer_while__lex_lexer_next_1_w_0 k_1 t1000000_2) (q_lex_lexer_while__lex_lexer_next_1_w_2 m0) = lex_lexer_while__lex_lexer_next_1_w.l0 (fun k_4 t1000000_5 => evJ E_lex_lexer_while__lex_lexer_next_1_w (drE E_lex_lexer_while__lex_lexer_next_1_w) m0 (.tail cd_lex_lexer_while__lex_lexer_next_1_w_1) 0 (sg_lex_lexer_while__lex_lexer_next_1_w_1 k_4 t1000000_5) (q_lex_lexer_while__lex_lexer_next_1_w_0 m0)) n k_1 t1000000_2 := by
  intro n
  induction n with
  | zero => intros; rfl
  | succ n ih =>
    intro k_1 t1000000_2
    have e0 : (fun k_1 t1000000_2 => evJ E_lex_lexer_while__lex_lexer_next_1_w (drE E_lex_lexer_while__lex_lexer_next_1_w) n (.loop cd_lex_lexer_while__lex_lexer_next_1_w_2) 0 (sg_lex_lexer_while__lex_lexer_next_1_w_0 k_1 t1000000_2) (q_lex_lexer_while__lex_lexer_next_1_w_2 m0)) = (lex_lexer_while__lex_lexer_next_1_w.l0 (fun k_4 t1000000_5 => evJ E_lex_lexer_while__lex_lexer_next_1_w (drE E_lex_lexer_while__lex_lexer_next_1_w) m0 (.tail cd_lex_lexer_while__lex_lexer_next_1_w_1) 0 (sg_lex_lexer_while__lex_lexer_next_1_w_1 k_4 t1000000_5) (q_lex_lexer_while__lex_lexer_next_1_w_0 m0)) n) := by funext k_1 t1000000_2; exact ih k_1 t1000000_2
    refine (st_lex_lexer_while__lex_lexer_next_1_w_j0 m0 n k_1 t1000000_2).trans ?_
    rw [e0]; rfl
theorem st_lex_lexer_while__lex_lexer_next_1_w (m0 : Nat) (l : (ByteArray × Int)) : evC E_lex_lexer_while__lex_lexer_next_1_w (evJ E_lex_lexer_while__lex_lexer_next_1_w (drE E_lex_lexer_while__lex_lexer_next_1_w) m0) (drE E_lex_lexer_while__lex_lexer_next_1_w) b_lex_lexer_while__lex_lexer_next_1_w 0 (st0 [.io (.pair .str (.int .i64)) [], .fn 17 []] (l, (), ())) (fin E_lex_lexer_while__lex_lexer_next_1_w [.tmp 4] 1 [(.str, []), ((.pair .str (.int .i64)), [])]) = lex_lexer_while__lex_lexer_next_1_w.S (fun k_1 t1000000_2 => evJ E_lex_lexer_while__lex_lexer_next_1_w (drE E_lex_lexer_while__lex_lexer_next_1_w) m0 (.loop cd_lex_lexer_while__lex_lexer_next_1_w_2) 0 (sg_lex_lexer_while__lex_lexer_next_1_w_0 k_1 t1000000_2) (q_lex_lexer_while__lex_lexer_next_1_w_2 m0)) l := by kernel_rfl
theorem ev_lex_lexer_while__lex_lexer_next_1_w (l : (ByteArray × Int)) : evC E_lex_lexer_while__lex_lexer_next_1_w (evJ E_lex_lexer_while__lex_lexer_next_1_w (drE E_lex_lexer_while__lex_lexer_next_1_w) fu) (drE E_lex_lexer_while__lex_lexer_next_1_w) b_lex_lexer_while__lex_lexer_next_1_w 0 (st0 [.io (.pair .str (.int .i64)) [], .fn 17 []] (l, (), ())) (fin E_lex_lexer_while__lex_lexer_next_1_w [.tmp 4] 1 [(.str, []), ((.pair .str (.int .i64)), [])]) = lex_lexer_while__lex_lexer_next_1_w l := by
  have e1 : (fun k_4 t1000000_5 => evJ E_lex_lexer_while__lex_lexer_next_1_w (drE E_lex_lexer_while__lex_lexer_next_1_w) fu (.tail cd_lex_lexer_while__lex_lexer_next_1_w_1) 0 (sg_lex_lexer_while__lex_lexer_next_1_w_1 k_4 t1000000_5) (q_lex_lexer_while__lex_lexer_next_1_w_0 fu)) = (lex_lexer_while__lex_lexer_next_1_w.t1 fu) := by funext k_4 t1000000_5; exact J_lex_lexer_while__lex_lexer_next_1_w_1 fu fu k_4 t1000000_5
  have e0 : (fun k_1 t1000000_2 => evJ E_lex_lexer_while__lex_lexer_next_1_w (drE E_lex_lexer_while__lex_lexer_next_1_w) fu (.loop cd_lex_lexer_while__lex_lexer_next_1_w_2) 0 (sg_lex_lexer_while__lex_lexer_next_1_w_0 k_1 t1000000_2) (q_lex_lexer_while__lex_lexer_next_1_w_2 fu)) = (lex_lexer_while__lex_lexer_next_1_w.l0 (lex_lexer_while__lex_lexer_next_1_w.t1 fu) fu) := by rw [← e1]; funext k_1 t1000000_2; exact J_lex_lexer_while__lex_lexer_next_1_w_0 fu fu k_1 t1000000_2
  refine (st_lex_lexer_while__lex_lexer_next_1_w fu l).trans ?_
  rw [e0]; rfl
@[reducible] def sp_lex_lexer_while__lex_lexer_next_1_w   : AM.Spec := AM.specIo 1 [.io (.pair .str (.int .i64)) [], .fn 17 []] [(.str, []), ((.pair .str (.int .i64)), [])] (fun x => lex_lexer_while__lex_lexer_next_1_w x.1)
theorem c_lex_lexer_while__lex_lexer_next_1_w : Contract Tryz.prog 10 sp_lex_lexer_while__lex_lexer_next_1_w :=
  contract_io (Tab.envOk tabOk _ _) calls_lex_lexer_while__lex_lexer_next_1_w tabOk.mixed (fn := Tryz.f10) (c := b_lex_lexer_while__lex_lexer_next_1_w) (ts := [.tmp 4]) (by kernel_rfl) (by kernel_rfl) (by kernel_rfl) (by decide) (by kernel_rfl) (by decide) fun x _ h => ⟨fu, (ev_lex_lexer_while__lex_lexer_next_1_w x.1).trans h⟩

/-! (*peristyle/lex.lexer).number$1 -/
@[reducible] noncomputable def E_lex_lexer_number_1 : Env := tab.env (AM.look [(12, sp_lex_kind)]) ⟨[], [], [], ⟨[(2, true)], []⟩, [], [12]⟩
theorem calls_lex_lexer_number_1 : CallsOk Tryz.prog E_lex_lexer_number_1 := callsOk_of ⟨⟨c_lex_kind, Tryz.call12, fun _ => words_spec rfl⟩, trivial⟩
noncomputable def b_lex_lexer_number_1 : Code := (Tryz.f28.body).getD .skip
theorem st_lex_lexer_number_1 (m0 : Nat) (c : Int) : evC E_lex_lexer_number_1 (evJ E_lex_lexer_number_1 (drE E_lex_lexer_number_1) m0) (drE E_lex_lexer_number_1) b_lex_lexer_number_1 0 (st0 [.val (.int .u8)] (c, ())) (fin E_lex_lexer_number_1 [.tmp 2] 0 [(.bool, [])]) = lex_lexer_number_1 c := by kernel_rfl
theorem ev_lex_lexer_number_1 (c : Int) : evC E_lex_lexer_number_1 (evJ E_lex_lexer_number_1 (drE E_lex_lexer_number_1) fu) (drE E_lex_lexer_number_1) b_lex_lexer_number_1 0 (st0 [.val (.int .u8)] (c, ())) (fin E_lex_lexer_number_1 [.tmp 2] 0 [(.bool, [])]) = lex_lexer_number_1 c := st_lex_lexer_number_1 fu c
@[reducible] def sp_lex_lexer_number_1   : AM.Spec := AM.spec [.val (.int .u8)] [(.bool, [])] (fun x => lex_lexer_number_1 x.1)
theorem c_lex_lexer_number_1 : Contract Tryz.prog 28 sp_lex_lexer_number_1 :=
  contract_of (Tab.envOk tabOk _ _) calls_lex_lexer_number_1 tabOk.mixed (fn := Tryz.f28) (c := b_lex_lexer_number_1) (ts := [.tmp 2]) (by kernel_rfl) (by kernel_rfl) (by kernel_rfl) (by decide) (by kernel_rfl) (by decide) rfl fun x _ h => ⟨fu, (ev_lex_lexer_number_1 x.1).trans h⟩

/-! (*peristyle/lex.lexer).while -/
@[reducible] noncomputable def E_lex_lexer_while__lex_lexer_number_1_w : Env := tab.env (AM.look [(28, sp_lex_lexer_number_1)]) ⟨[(0, ⟨[(0, true), (1, true), (5, true)], [(1000000, true)]⟩)], [], [(4, ⟨[(0, true), (5, true)], [(1000000, true)]⟩)], ⟨[(4, true)], [(1000000, true)]⟩, [], [28]⟩
theorem calls_lex_lexer_while__lex_lexer_number_1_w : CallsOk Tryz.prog E_lex_lexer_while__lex_lexer_number_1_w := callsOk_of ⟨⟨c_lex_lexer_number_1, Tryz.call28, fun _ => words_spec rfl⟩, trivial⟩
noncomputable def b_lex_lexer_while__lex_lexer_number_1_w : Code := (Tryz.f10.body).getD .skip
noncomputable def sg_lex_lexer_while__lex_lexer_number_1_w_1 (k_4 : Int) (t1000000_5 : (ByteArray × Int)) : St := mk [(0, .ptr 1000000 0 0), (5, .dat (.int .i64) k_4 [])] [(1000000, some (.var (.pair .str (.int .i64)) t1000000_5 []))]
noncomputable def sg_lex_lexer_while__lex_lexer_number_1_w_0 (k_1 : Int) (t1000000_2 : (ByteArray × Int)) : St := mk [(0, .ptr 1000000 0 0), (1, .fn 28 []), (5, .dat (.int .i64) k_1 [])] [(1000000, some (.var (.pair .str (.int .i64)) t1000000_2 []))]
noncomputable def q_lex_lexer_while__lex_lexer_number_1_w_0 (m0 : Nat) : K (ResD [(.str, []), ((.pair .str (.int .i64)), [])]) := fin E_lex_lexer_while__lex_lexer_number_1_w [.tmp 4] 1 [(.str, []), ((.pair .str (.int .i64)), [])]
noncomputable def cd_lex_lexer_while__lex_lexer_number_1_w_1 : Code := (rgt (rgt (rgt b_lex_lexer_while__lex_lexer_number_1_w)))
theorem st_lex_lexer_while__lex_lexer_number_1_w_j1 (m0 : Nat) (n : Nat) (k_4 : Int) (t1000000_5 : (ByteArray × Int)) : evJ E_lex_lexer_while__lex_lexer_number_1_w (drE E_lex_lexer_while__lex_lexer_number_1_w) (n + 1) (.tail cd_lex_lexer_while__lex_lexer_number_1_w_1) 0 (sg_lex_lexer_while__lex_lexer_number_1_w_1 k_4 t1000000_5) (q_lex_lexer_while__lex_lexer_number_1_w_0 m0) = lex_lexer_while__lex_lexer_number_1_w.S1 k_4 t1000000_5 := by kernel_rfl
theorem J_lex_lexer_while__lex_lexer_number_1_w_1 (m0 : Nat) : ∀ (n : Nat) (k_4 : Int) (t1000000_5 : (ByteArray × Int)), evJ E_lex_lexer_while__lex_lexer_number_1_w (drE E_lex_lexer_while__lex_lexer_number_1_w) n (.tail cd_lex_lexer_while__lex_lexer_number_1_w_1) 0 (sg_lex_lexer_while__lex_lexer_number_1_w_1 k_4 t1000000_5) (q_lex_lexer_while__lex_lexer_number_1_w_0 m0) = lex_lexer_while__lex_lexer_number_1_w.t1 n k_4 t1000000_5 := by
  intro n
  induction n with
  | zero => intros; rfl
  | succ n ih =>
    intro k_4 t1000000_5
    have e1 : (fun k_4 t1000000_5 => evJ E_lex_lexer_while__lex_lexer_number_1_w (drE E_lex_lexer_while__lex_lexer_number_1_w) n (.tail cd_lex_lexer_while__lex_lexer_number_1_w_1) 0 (sg_lex_lexer_while__lex_lexer_number_1_w_1 k_4 t1000000_5) (q_lex_lexer_while__lex_lexer_number_1_w_0 m0)) = (lex_lexer_while__lex_lexer_number_1_w.t1 n) := by funext k_4 t1000000_5; exact ih k_4 t1000000_5
    refine (st_lex_lexer_while__lex_lexer_number_1_w_j1 m0 n k_4 t1000000_5).trans ?_
    rfl
noncomputable def q_lex_lexer_while__lex_lexer_number_1_w_1 (m0 : Nat) : K (ResD [(.str, []), ((.pair .str (.int .i64)), [])]) := seqK E_lex_lexer_while__lex_lexer_number_1_w (evJ E_lex_lexer_while__lex_lexer_number_1_w (drE E_lex_lexer_while__lex_lexer_number_1_w) m0) cd_lex_lexer_while__lex_lexer_number_1_w_1 0 (evC E_lex_lexer_while__lex_lexer_number_1_w (evJ E_lex_lexer_while__lex_lexer_number_1_w (drE E_lex_lexer_while__lex_lexer_number_1_w) m0) (drE E_lex_lexer_while__lex_lexer_number_1_w) cd_lex_lexer_while__lex_lexer_number_1_w_1 0) (q_lex_lexer_while__lex_lexer_number_1_w_0 m0)
noncomputable def q_lex_lexer_while__lex_lexer_number_1_w_2 (m0 : Nat) : K (ResD [(.str, []), ((.pair .str (.int .i64)), [])]) := blockK 0 (q_lex_lexer_while__lex_lexer_number_1_w_1 m0)
noncomputable def cd_lex_lexer_while__lex_lexer_number_1_w_2 : Code := (lft (lft (lft (rgt (rgt b_lex_lexer_while__lex_lexer_number_1_w)))))
theorem st_lex_lexer_while__lex_lexer_number_1_w_j0 (m0 : Nat) (n : Nat) (k_1 : Int) (t1000000_2 : (ByteArray × Int)) : evJ E_lex_lexer_while__lex_lexer_number_1_w (drE E_lex_lexer_while__lex_lexer_number_1_w) (n + 1) (.loop cd_lex_lexer_while__lex_lexer_number_1_w_2) 0 (sg_lex_lexer_while__lex_lexer_number_1_w_0 k_1 t1000000_2) (q_lex_lexer_while__lex_lexer_number_1_w_2 m0) = lex_lexer_while__lex_lexer_number_1_w.S0 (fun k_4 t1000000_5 => evJ E_lex_lexer_while__lex_lexer_number_1_w (drE E_lex_lexer_while__lex_lexer_number_1_w) m0 (.tail cd_lex_lexer_while__lex_lexer_number_1_w_1) 0 (sg_lex_lexer_while__lex_lexer_number_1_w_1 k_4 t1000000_5) (q_lex_lexer_while__lex_lexer_number_1_w_0 m0)) (fun k_1 t1000000_2 => evJ E_lex_lexer_while__lex_lexer_number_1_w (drE E_lex_lexer_while__lex_lexer_number_1_w) n (.loop cd_lex_lexer_while__lex_lexer_number_1_w_2) 0 (sg_lex_lexer_while__lex_lexer_number_1_w_0 k_1 t1000000_2) (q_lex_lexer_while__lex_lexer_number_1_w_2 m0)) k_1 t1000000_2 := by kernel_rfl
theorem J_lex_lexer_while__lex_lexer_number_1_w_0 (m0 : Nat) : ∀ (n : Nat) (k_1 : Int) (t1000000_2 : (ByteArray × Int)), evJ E_lex_lexer_while__lex_lexer_number_1_w (drE E_lex_lexer_while__lex_lexer_number_1_w) n (.loop cd_lex_lexer_while__lex_lexer_number_1_w_2) 0 (sg_lex_lexer_while__lex_lexer_number_1_w_0 k_1 t1000000_2) (q_lex_lexer_while__lex_lexer_number_1_w_2 m0) = lex_lexer_while__lex_lexer_number_1_w.l0 (fun k_4 t1000000_5 => evJ E_lex_lexer_while__lex_lexer_number_1_w (drE E_lex_lexer_while__lex_lexer_number_1_w) m0 (.tail cd_lex_lexer_while__lex_lexer_number_1_w_1) 0 (sg_lex_lexer_while__lex_lexer_number_1_w_1 k_4 t1000000_5) (q_lex_lexer_while__lex_lexer_number_1_w_0 m0)) n k_1 t1000000_2 := by
  intro n
  induction n with
  | zero => intros; rfl
  | succ n ih =>
    intro k_1 t1000000_2
    have e0 : (fun k_1 t1000000_2 => evJ E_lex_lexer_while__lex_lexer_number_1_w (drE E_lex_lexer_while__lex_lexer_number_1_w) n (.loop cd_lex_lexer_while__lex_lexer_number_1_w_2) 0 (sg_lex_lexer_while__lex_lexer_number_1_w_0 k_1 t1000000_2) (q_lex_lexer_while__lex_lexer_number_1_w_2 m0)) = (lex_lexer_while__lex_lexer_number_1_w.l0 (fun k_4 t1000000_5 => evJ E_lex_lexer_while__lex_lexer_number_1_w (drE E_lex_lexer_while__lex_lexer_number_1_w) m0 (.tail cd_lex_lexer_while__lex_lexer_number_1_w_1) 0 (sg_lex_lexer_while__lex_lexer_number_1_w_1 k_4 t1000000_5) (q_lex_lexer_while__lex_lexer_number_1_w_0 m0)) n) := by funext k_1 t1000000_2; exact ih k_1 t1000000_2
    refine (st_lex_lexer_while__lex_lexer_number_1_w_j0 m0 n k_1 t1000000_2).trans ?_
    rw [e0]; rfl
theorem st_lex_lexer_while__lex_lexer_number_1_w (m0 : Nat) (l : (ByteArray × Int)) : evC E_lex_lexer_while__lex_lexer_number_1_w (evJ E_lex_lexer_while__lex_lexer_number_1_w (drE E_lex_lexer_while__lex_lexer_number_1_w) m0) (drE E_lex_lexer_while__lex_lexer_number_1_w) b_lex_lexer_while__lex_lexer_number_1_w 0 (st0 [.io (.pair .str (.int .i64)) [], .fn 28 []] (l, (), ())) (fin E_lex_lexer_while__lex_lexer_number_1_w [.tmp 4] 1 [(.str, []), ((.pair .str (.int .i64)), [])]) = lex_lexer_while__lex_lexer_number_1_w.S (fun k_1 t1000000_2 => evJ E_lex_lexer_while__lex_lexer_number_1_w (drE E_lex_lexer_while__lex_lexer_number_1_w) m0 (.loop cd_lex_lexer_while__lex_lexer_number_1_w_2) 0 (sg_lex_lexer_while__lex_lexer_number_1_w_0 k_1 t1000000_2) (q_lex_lexer_while__lex_lexer_number_1_w_2 m0)) l := by kernel_rfl
theorem ev_lex_lexer_while__lex_lexer_number_1_w (l : (ByteArray × Int)) : evC E_lex_lexer_while__lex_lexer_number_1_w (evJ E_lex_lexer_while__lex_lexer_number_1_w (drE E_lex_lexer_while__lex_lexer_number_1_w) fu) (drE E_lex_lexer_while__lex_lexer_number_1_w) b_lex_lexer_while__lex_lexer_number_1_w 0 (st0 [.io (.pair .str (.int .i64)) [], .fn 28 []] (l, (), ())) (fin E_lex_lexer_while__lex_lexer_number_1_w [.tmp 4] 1 [(.str, []), ((.pair .str (.int .i64)), [])]) = lex_lexer_while__lex_lexer_number_1_w l := by
  have e1 : (fun k_4 t1000000_5 => evJ E_lex_lexer_while__lex_lexer_number_1_w (drE E_lex_lexer_while__lex_lexer_number_1_w) fu (.tail cd_lex_lexer_while__lex_lexer_number_1_w_1) 0 (sg_lex_lexer_while__lex_lexer_number_1_w_1 k_4 t1000000_5) (q_lex_lexer_while__lex_lexer_number_1_w_0 fu)) = (lex_lexer_while__lex_lexer_number_1_w.t1 fu) := by funext k_4 t1000000_5; exact J_lex_lexer_while__lex_lexer_number_1_w_1 fu fu k_4 t1000000_5
  have e0 : (fun k_1 t1000000_2 => evJ E_lex_lexer_while__lex_lexer_number_1_w (drE E_lex_lexer_while__lex_lexer_number_1_w) fu (.loop cd_lex_lexer_while__lex_lexer_number_1_w_2) 0 (sg_lex_lexer_while__lex_lexer_number_1_w_0 k_1 t1000000_2) (q_lex_lexer_while__lex_lexer_number_1_w_2 fu)) = (lex_lexer_while__lex_lexer_number_1_w.l0 (lex_lexer_while__lex_lexer_number_1_w.t1 fu) fu) := by rw [← e1]; funext k_1 t1000000_2; exact J_lex_lexer_while__lex_lexer_number_1_w_0 fu fu k_1 t1000000_2
  refine (st_lex_lexer_while__lex_lexer_number_1_w fu l).trans ?_
  rw [e0]; rfl
@[reducible] def sp_lex_lexer_while__lex_lexer_number_1_w   : AM.Spec := AM.specIo 1 [.io (.pair .str (.int .i64)) [], .fn 28 []] [(.str, []), ((.pair .str (.int .i64)), [])] (fun x => lex_lexer_while__lex_lexer_number_1_w x.1)
theorem c_lex_lexer_while__lex_lexer_number_1_w : Contract Tryz.prog 10 sp_lex_lexer_while__lex_lexer_number_1_w :=
  contract_io (Tab.envOk tabOk _ _) calls_lex_lexer_while__lex_lexer_number_1_w tabOk.mixed (fn := Tryz.f10) (c := b_lex_lexer_while__lex_lexer_number_1_w) (ts := [.tmp 4]) (by kernel_rfl) (by kernel_rfl) (by kernel_rfl) (by decide) (by kernel_rfl) (by decide) fun x _ h => ⟨fu, (ev_lex_lexer_while__lex_lexer_number_1_w x.1).trans h⟩

/-! internal/stringslite.HasPrefix -/
@[reducible] noncomputable def E_istringslite_HasPrefix : Env := tab.env (AM.look []) ⟨[], [], [], ⟨[(4, true)], []⟩, [], []⟩
theorem calls_istringslite_HasPrefix : CallsOk Tryz.prog E_istringslite_HasPrefix := callsOk_of trivial
noncomputable def b_istringslite_HasPrefix : Code := (Tryz.f69.body).getD .skip
theorem st_istringslite_HasPrefix (m0 : Nat) (s : ByteArray) (xprefix : ByteArray) : evC E_istringslite_HasPrefix (evJ E_istringslite_HasPrefix (drE E_istringslite_HasPrefix) m0) (drE E_istringslite_HasPrefix) b_istringslite_HasPrefix 0 (st0 [.val .str, .val .str] (s, xprefix, ())) (fin E_istringslite_HasPrefix [.tmp 4] 0 [(.bool, [])]) = istringslite_HasPrefix s xprefix := by kernel_rfl
theorem ev_istringslite_HasPrefix (s : ByteArray) (xprefix : ByteArray) : evC E_istringslite_HasPrefix (evJ E_istringslite_HasPrefix (drE E_istringslite_HasPrefix) fu) (drE E_istringslite_HasPrefix) b_istringslite_HasPrefix 0 (st0 [.val .str, .val .str] (s, xprefix, ())) (fin E_istringslite_HasPrefix [.tmp 4] 0 [(.bool, [])]) = istringslite_HasPrefix s xprefix := st_istringslite_HasPrefix fu s xprefix
@[reducible] def sp_istringslite_HasPrefix   : AM.Spec := AM.spec [.val .str, .val .str] [(.bool, [])] (fun x => istringslite_HasPrefix x.1 x.2.1)
theorem c_istringslite_HasPrefix : Contract Tryz.prog 69 sp_istringslite_HasPrefix :=
  contract_of (Tab.envOk tabOk _ _) calls_istringslite_HasPrefix tabOk.mixed (fn := Tryz.f69) (c := b_istringslite_HasPrefix) (ts := [.tmp 4]) (by kernel_rfl) (by kernel_rfl) (by kernel_rfl) (by decide) (by kernel_rfl) (by decide) rfl fun x _ h => ⟨fu, (ev_istringslite_HasPrefix x.1 x.2.1).trans h⟩

/-! internal/stringslite.CutPrefix -/
@[reducible] noncomputable def E_istringslite_CutPrefix : Env := tab.env (AM.look [(69, sp_istringslite_HasPrefix)]) ⟨[], [], [], ⟨[(4, true), (5, true)], []⟩, [], [69]⟩
theorem calls_istringslite_CutPrefix : CallsOk Tryz.prog E_istringslite_CutPrefix := callsOk_of ⟨⟨c_istringslite_HasPrefix, Tryz.call69, fun _ => words_spec rfl⟩, trivial⟩
noncomputable def b_istringslite_CutPrefix : Code := (Tryz.f57.body).getD .skip
theorem st_istringslite_CutPrefix (m0 : Nat) (s : ByteArray) (xprefix : ByteArray) : evC E_istringslite_CutPrefix (evJ E_istringslite_CutPrefix (drE E_istringslite_CutPrefix) m0) (drE E_istringslite_CutPrefix) b_istringslite_CutPrefix 0 (st0 [.val .str, .val .str] (s, xprefix, ())) (fin E_istringslite_CutPrefix [.tmp 4, .tmp 5] 0 [(.str, []), (.bool, [])]) = istringslite_CutPrefix s xprefix := by kernel_rfl
theorem ev_istringslite_CutPrefix (s : ByteArray) (xprefix : ByteArray) : evC E_istringslite_CutPrefix (evJ E_istringslite_CutPrefix (drE E_istringslite_CutPrefix) fu) (drE E_istringslite_CutPrefix) b_istringslite_CutPrefix 0 (st0 [.val .str, .val .str] (s, xprefix, ())) (fin E_istringslite_CutPrefix [.tmp 4, .tmp 5] 0 [(.str, []), (.bool, [])]) = istringslite_CutPrefix s xprefix := st_istringslite_CutPrefix fu s xprefix
@[reducible] def sp_istringslite_CutPrefix   : AM.Spec := AM.spec [.val .str, .val .str] [(.str, []), (.bool, [])] (fun x => istringslite_CutPrefix x.1 x.2.1)
theorem c_istringslite_CutPrefix : Contract Tryz.prog 57 sp_istringslite_CutPrefix :=
  contract_of (Tab.envOk tabOk _ _) calls_istringslite_CutPrefix tabOk.mixed (fn := Tryz.f57) (c := b_istringslite_CutPrefix) (ts := [.tmp 4, .tmp 5]) (by kernel_rfl) (by kernel_rfl) (by kernel_rfl) (by decide) (by kernel_rfl) (by decide) rfl fun x _ h => ⟨fu, (ev_istringslite_CutPrefix x.1 x.2.1).trans h⟩

/-! strings.CutPrefix -/
@[reducible] noncomputable def E_strings_CutPrefix : Env := tab.env (AM.look [(57, sp_istringslite_CutPrefix)]) ⟨[], [], [], ⟨[(4, true), (5, true)], []⟩, [], [57]⟩
theorem calls_strings_CutPrefix : CallsOk Tryz.prog E_strings_CutPrefix := callsOk_of ⟨⟨c_istringslite_CutPrefix, Tryz.call57, fun _ => words_spec rfl⟩, trivial⟩
noncomputable def b_strings_CutPrefix : Code := (Tryz.f40.body).getD .skip
theorem st_strings_CutPrefix (m0 : Nat) (s : ByteArray) (xprefix : ByteArray) : evC E_strings_CutPrefix (evJ E_strings_CutPrefix (drE E_strings_CutPrefix) m0) (drE E_strings_CutPrefix) b_strings_CutPrefix 0 (st0 [.val .str, .val .str] (s, xprefix, ())) (fin E_strings_CutPrefix [.tmp 4, .tmp 5] 0 [(.str, []), (.bool, [])]) = strings_CutPrefix s xprefix := by kernel_rfl
theorem ev_strings_CutPrefix (s : ByteArray) (xprefix : ByteArray) : evC E_strings_CutPrefix (evJ E_strings_CutPrefix (drE E_strings_CutPrefix) fu) (drE E_strings_CutPrefix) b_strings_CutPrefix 0 (st0 [.val .str, .val .str] (s, xprefix, ())) (fin E_strings_CutPrefix [.tmp 4, .tmp 5] 0 [(.str, []), (.bool, [])]) = strings_CutPrefix s xprefix := st_strings_CutPrefix fu s xprefix
@[reducible] def sp_strings_CutPrefix   : AM.Spec := AM.spec [.val .str, .val .str] [(.str, []), (.bool, [])] (fun x => strings_CutPrefix x.1 x.2.1)
theorem c_strings_CutPrefix : Contract Tryz.prog 40 sp_strings_CutPrefix :=
  contract_of (Tab.envOk tabOk _ _) calls_strings_CutPrefix tabOk.mixed (fn := Tryz.f40) (c := b_strings_CutPrefix) (ts := [.tmp 4, .tmp 5]) (by kernel_rfl) (by kernel_rfl) (by kernel_rfl) (by decide) (by kernel_rfl) (by decide) rfl fun x _ h => ⟨fu, (ev_strings_CutPrefix x.1 x.2.1).trans h⟩

/-! internal/stringslite.HasSuffix -/
@[reducible] noncomputable def E_istringslite_HasSuffix : Env := tab.env (AM.look []) ⟨[], [], [], ⟨[(4, true)], []⟩, [], []⟩
theorem calls_istringslite_HasSuffix : CallsOk Tryz.prog E_istringslite_HasSuffix := callsOk_of trivial
noncomputable def b_istringslite_HasSuffix : Code := (Tryz.f70.body).getD .skip
theorem st_istringslite_HasSuffix (m0 : Nat) (s : ByteArray) (suffix : ByteArray) : evC E_istringslite_HasSuffix (evJ E_istringslite_HasSuffix (drE E_istringslite_HasSuffix) m0) (drE E_istringslite_HasSuffix) b_istringslite_HasSuffix 0 (st0 [.val .str, .val .str] (s, suffix, ())) (fin E_istringslite_HasSuffix [.tmp 4] 0 [(.bool, [])]) = istringslite_HasSuffix s suffix := by kernel_rfl
theorem ev_istringslite_HasSuffix (s : ByteArray) (suffix : ByteArray) : evC E_istringslite_HasSuffix (evJ E_istringslite_HasSuffix (drE E_istringslite_HasSuffix) fu) (drE E_istringslite_HasSuffix) b_istringslite_HasSuffix 0 (st0 [.val .str, .val .str] (s, suffix, ())) (fin E_istringslite_HasSuffix [.tmp 4] 0 [(.bool, [])]) = istringslite_HasSuffix s suffix := st_istringslite_HasSuffix fu s suffix
@[reducible] def sp_istringslite_HasSuffix   : AM.Spec := AM.spec [.val .str, .val .str] [(.bool, [])] (fun x => istringslite_HasSuffix x.1 x.2.1)
theorem c_istringslite_HasSuffix : Contract Tryz.prog 70 sp_istringslite_HasSuffix :=
  contract_of (Tab.envOk tabOk _ _) calls_istringslite_HasSuffix tabOk.mixed (fn := Tryz.f70) (c := b_istringslite_HasSuffix) (ts := [.tmp 4]) (by kernel_rfl) (by kernel_rfl) (by kernel_rfl) (by decide) (by kernel_rfl) (by decide) rfl fun x _ h => ⟨fu, (ev_istringslite_HasSuffix x.1 x.2.1).trans h⟩

/-! internal/stringslite.CutSuffix -/
@[reducible] noncomputable def E_istringslite_CutSuffix : Env := tab.env (AM.look [(70, sp_istringslite_HasSuffix)]) ⟨[], [], [], ⟨[(4, true), (5, true)], []⟩, [], [70]⟩
theorem calls_istringslite_CutSuffix : CallsOk Tryz.prog E_istringslite_CutSuffix := callsOk_of ⟨⟨c_istringslite_HasSuffix, Tryz.call70, fun _ => words_spec rfl⟩, trivial⟩
noncomputable def b_istringslite_CutSuffix : Code := (Tryz.f58.body).getD .skip
theorem st_istringslite_CutSuffix (m0 : Nat) (s : ByteArray) (suffix : ByteArray) : evC E_istringslite_CutSuffix (evJ E_istringslite_CutSuffix (drE E_istringslite_CutSuffix) m0) (drE E_istringslite_CutSuffix) b_istringslite_CutSuffix 0 (st0 [.val .str, .val .str] (s, suffix, ())) (fin E_istringslite_CutSuffix [.tmp 4, .tmp 5] 0 [(.str, []), (.bool, [])]) = istringslite_CutSuffix s suffix := by kernel_rfl
theorem ev_istringslite_CutSuffix (s : ByteArray) (suffix : ByteArray) : evC E_istringslite_CutSuffix (evJ E_istringslite_CutSuffix (drE E_istringslite_CutSuffix) fu) (drE E_istringslite_CutSuffix) b_istringslite_CutSuffix 0 (st0 [.val .str, .val .str] (s, suffix, ())) (fin E_istringslite_CutSuffix [.tmp 4, .tmp 5] 0 [(.str, []), (.bool, [])]) = istringslite_CutSuffix s suffix := st_istringslite_CutSuffix fu s suffix
@[reducible] def sp_istringslite_CutSuffix   : AM.Spec := AM.spec [.val .str, .val .str] [(.str, []), (.bool, [])] (fun x => istringslite_CutSuffix x.1 x.2.1)
theorem c_istringslite_CutSuffix : Contract Tryz.prog 58 sp_istringslite_CutSuffix :=
  contract_of (Tab.envOk tabOk _ _) calls_istringslite_CutSuffix tabOk.mixed (fn := Tryz.f58) (c := b_istringslite_CutSuffix) (ts := [.tmp 4, .tmp 5]) (by kernel_rfl) (by kernel_rfl) (by kernel_rfl) (by decide) (by kernel_rfl) (by decide) rfl fun x _ h => ⟨fu, (ev_istringslite_CutSuffix x.1 x.2.1).trans h⟩

/-! strings.CutSuffix -/
@[reducible] noncomputable def E_strings_CutSuffix : Env := tab.env (AM.look [(58, sp_istringslite_CutSuffix)]) ⟨[], [], [], ⟨[(4, true), (5, true)], []⟩, [], [58]⟩
theorem calls_strings_CutSuffix : CallsOk Tryz.prog E_strings_CutSuffix := callsOk_of ⟨⟨c_istringslite_CutSuffix, Tryz.call58, fun _ => words_spec rfl⟩, trivial⟩
noncomputable def b_strings_CutSuffix : Code := (Tryz.f41.body).getD .skip
theorem st_strings_CutSuffix (m0 : Nat) (s : ByteArray) (suffix : ByteArray) : evC E_strings_CutSuffix (evJ E_strings_CutSuffix (drE E_strings_CutSuffix) m0) (drE E_strings_CutSuffix) b_strings_CutSuffix 0 (st0 [.val .str, .val .str] (s, suffix, ())) (fin E_strings_CutSuffix [.tmp 4, .tmp 5] 0 [(.str, []), (.bool, [])]) = strings_CutSuffix s suffix := by kernel_rfl
theorem ev_strings_CutSuffix (s : ByteArray) (suffix : ByteArray) : evC E_strings_CutSuffix (evJ E_strings_CutSuffix (drE E_strings_CutSuffix) fu) (drE E_strings_CutSuffix) b_strings_CutSuffix 0 (st0 [.val .str, .val .str] (s, suffix, ())) (fin E_strings_CutSuffix [.tmp 4, .tmp 5] 0 [(.str, []), (.bool, [])]) = strings_CutSuffix s suffix := st_strings_CutSuffix fu s suffix
@[reducible] def sp_strings_CutSuffix   : AM.Spec := AM.spec [.val .str, .val .str] [(.str, []), (.bool, [])] (fun x => strings_CutSuffix x.1 x.2.1)
theorem c_strings_CutSuffix : Contract Tryz.prog 41 sp_strings_CutSuffix :=
  contract_of (Tab.envOk tabOk _ _) calls_strings_CutSuffix tabOk.mixed (fn := Tryz.f41) (c := b_strings_CutSuffix) (ts := [.tmp 4, .tmp 5]) (by kernel_rfl) (by kernel_rfl) (by kernel_rfl) (by decide) (by kernel_rfl) (by decide) rfl fun x _ h => ⟨fu, (ev_strings_CutSuffix x.1 x.2.1).trans h⟩

/-! peristyle/cell.Check -/
@[reducible] noncomputable def E_cell_Check : Env := tab.env (AM.look []) ⟨[], [], [], ⟨[(2, true)], []⟩, [], []⟩
theorem calls_cell_Check : CallsOk Tryz.prog E_cell_Check := callsOk_of trivial
noncomputable def b_cell_Check : Code := (Tryz.f44.body).getD .skip
theorem st_cell_Check_o (m0 : Nat) (c : (Int × (Int × ByteArray))) : evC E_cell_Check (evJ E_cell_Check (drE E_cell_Check) m0) (drE E_cell_Check) b_cell_Check 0 (st0 [.val (.pair (.int .i64) (.pair (.int .i64) .str))] (c, ())) (fin E_cell_Check [.tmp 2] 0 [((.int .i64), [])]) = cell_Check.o c := by kernel_rfl
theorem st_cell_Check (m0 : Nat) (c : (Int × (Int × ByteArray))) : evC E_cell_Check (evJ E_cell_Check (drE E_cell_Check) m0) (drE E_cell_Check) b_cell_Check 0 (st0 [.val (.pair (.int .i64) (.pair (.int .i64) .str))] (c, ())) (fin E_cell_Check [.tmp 2] 0 [((.int .i64), [])]) = some (cell_Check c) := (st_cell_Check_o m0 c).trans (by unfold cell_Check.o cell_Check; simp only [cond_some])
theorem ev_cell_Check (c : (Int × (Int × ByteArray))) : evC E_cell_Check (evJ E_cell_Check (drE E_cell_Check) fu) (drE E_cell_Check) b_cell_Check 0 (st0 [.val (.pair (.int .i64) (.pair (.int .i64) .str))] (c, ())) (fin E_cell_Check [.tmp 2] 0 [((.int .i64), [])]) = some (cell_Check c) := st_cell_Check fu c
@[reducible] def sp_cell_Check   : AM.Spec := AM.spec [.val (.pair (.int .i64) (.pair (.int .i64) .str))] [((.int .i64), [])] (fun x => some (cell_Check x.1))
theorem c_cell_Check : Contract Tryz.prog 44 sp_cell_Check :=
  contract_of (Tab.envOk tabOk _ _) calls_cell_Check tabOk.mixed (fn := Tryz.f44) (c := b_cell_Check) (ts := [.tmp 2]) (by kernel_rfl) (by kernel_rfl) (by kernel_rfl) (by decide) (by kernel_rfl) (by decide) rfl fun x _ h => ⟨fu, (ev_cell_Check x.1).trans h⟩

/-! peristyle/cell.Show -/
@[reducible] noncomputable def E_cell_Show : Env := tab.env (AM.look [(62, sp_strconv_Itoa), (42, sp_strings_ReplaceAll)]) ⟨[], [], [], ⟨[(2, true)], []⟩, [], [42, 62]⟩
theorem calls_cell_Show : CallsOk Tryz.prog E_cell_Show := callsOk_of ⟨⟨c_strconv_Itoa, Tryz.call62, fun _ => words_spec rfl⟩, ⟨⟨c_strings_ReplaceAll, Tryz.call42, fun _ => words_spec rfl⟩, trivial⟩⟩
noncomputable def b_cell_Show : Code := (Tryz.f45.body).getD .skip
theorem st_cell_Show (m0 : Nat) (c : (Int × (Int × ByteArray))) : evC E_cell_Show (evJ E_cell_Show (drE E_cell_Show) m0) (drE E_cell_Show) b_cell_Show 0 (st0 [.val (.pair (.int .i64) (.pair (.int .i64) .str))] (c, ())) (fin E_cell_Show [.tmp 2] 0 [(.str, [])]) = cell_Show c := by kernel_rfl
theorem ev_cell_Show (c : (Int × (Int × ByteArray))) : evC E_cell_Show (evJ E_cell_Show (drE E_cell_Show) fu) (drE E_cell_Show) b_cell_Show 0 (st0 [.val (.pair (.int .i64) (.pair (.int .i64) .str))] (c, ())) (fin E_cell_Show [.tmp 2] 0 [(.str, [])]) = cell_Show c := st_cell_Show fu c
@[reducible] def sp_cell_Show   : AM.Spec := AM.spec [.val (.pair (.int .i64) (.pair (.int .i64) .str))] [(.str, [])] (fun x => cell_Show x.1)
theorem c_cell_Show : Contract Tryz.prog 45 sp_cell_Show :=
  contract_of (Tab.envOk tabOk _ _) calls_cell_Show tabOk.mixed (fn := Tryz.f45) (c := b_cell_Show) (ts := [.tmp 2]) (by kernel_rfl) (by kernel_rfl) (by kernel_rfl) (by decide) (by kernel_rfl) (by decide) rfl fun x _ h => ⟨fu, (ev_cell_Show x.1).trans h⟩

/-! peristyle/cell.Read -/
@[reducible] noncomputable def E_cell_Read : Env := tab.env (AM.look [(40, sp_strings_CutPrefix), (41, sp_strings_CutSuffix), (42, sp_strings_ReplaceAll), (44, sp_cell_Check), (45, sp_cell_Show), (43, sp_strconv_Atoi)]) ⟨[], [], [(11, ⟨[(0, true), (2, true), (4, true)], [(2, true), (4, true)]⟩)], ⟨[(2, true), (3, true)], [(2, true)]⟩, [], [40, 41, 42, 43, 44, 45]⟩
theorem calls_cell_Read : CallsOk Tryz.prog E_cell_Read := callsOk_of ⟨⟨c_strings_CutPrefix, Tryz.call40, fun _ => words_spec rfl⟩, ⟨⟨c_strings_CutSuffix, Tryz.call41, fun _ => words_spec rfl⟩, ⟨⟨c_strings_ReplaceAll, Tryz.call42, fun _ => words_spec rfl⟩, ⟨⟨c_cell_Check, Tryz.call44, fun _ => words_spec rfl⟩, ⟨⟨c_cell_Show, Tryz.call45, fun _ => words_spec rfl⟩, ⟨⟨c_strconv_Atoi, Tryz.call43, fun _ => words_spec rfl⟩, trivial⟩⟩⟩⟩⟩⟩
noncomputable def b_cell_Read : Code := (Tryz.f30.body).getD .skip
noncomputable def sg_cell_Read_0 (s_4 : ByteArray) (t2_5 : (Int × (Int × ByteArray))) (c_6 : (Int × (Int × ByteArray))) : St := mk [(0, .dat .str s_4 []), (2, .ptr 2 0 0), (4, .ptr 4 0 0)] [(2, some (.var (.pair (.int .i64) (.pair (.int .i64) .str)) t2_5 [])), (4, some (.var (.pair (.int .i64) (.pair (.int .i64) .str)) c_6 []))]
noncomputable def q_cell_Read_0 (m0 : Nat) : K (ResD [((.pair (.int .i64) (.pair (.int .i64) .str)), []), ((.int .i64), [])]) := fin E_cell_Read [.cell 2 53, .tmp 3] 0 [((.pair (.int .i64) (.pair (.int .i64) .str)), []), ((.int .i64), [])]
noncomputable def cd_cell_Read_1 : Code := (rgt (rgt (rgt b_cell_Read)))
theorem st_cell_Read_j0 (m0 : Nat) (n : Nat) (s_4 : ByteArray) (t2_5 : (Int × (Int × ByteArray))) (c_6 : (Int × (Int × ByteArray))) : evJ E_cell_Read (drE E_cell_Read) (n + 1) (.tail cd_cell_Read_1) 0 (sg_cell_Read_0 s_4 t2_5 c_6) (q_cell_Read_0 m0) = cell_Read.S0 s_4 t2_5 c_6 := by kernel_rfl
theorem J_cell_Read_0 (m0 : Nat) : ∀ (n : Nat) (s_4 : ByteArray) (t2_5 : (Int × (Int × ByteArray))) (c_6 : (Int × (Int × ByteArray))), evJ E_cell_Read (drE E_cell_Read) n (.tail cd_cell_Read_1) 0 (sg_cell_Read_0 s_4 t2_5 c_6) (q_cell_Read_0 m0) = cell_Read.t0 n s_4 t2_5 c_6 := by
  intro n
  induction n with
  | zero => intros; rfl
  | succ n ih =>
    intro s_4 t2_5 c_6
    have e0 : (fun s_4 t2_5 c_6 => evJ E_cell_Read (drE E_cell_Read) n (.tail cd_cell_Read_1) 0 (sg_cell_Read_0 s_4 t2_5 c_6) (q_cell_Read_0 m0)) = (cell_Read.t0 n) := by funext s_4 t2_5 c_6; exact ih s_4 t2_5 c_6
    refine (st_cell_Read_j0 m0 n s_4 t2_5 c_6).trans ?_
    rfl
theorem st_cell_Read (m0 : Nat) (s : ByteArray) : evC E_cell_Read (evJ E_cell_Read (drE E_cell_Read) m0) (drE E_cell_Read) b_cell_Read 0 (st0 [.val .str] (s, ())) (fin E_cell_Read [.cell 2 53, .tmp 3] 0 [((.pair (.int .i64) (.pair (.int .i64) .str)), []), ((.int .i64), [])]) = cell_Read.S (fun s_4 t2_5 c_6 => evJ E_cell_Read (drE E_cell_Read) m0 (.tail cd_cell_Read_1) 0 (sg_cell_Read_0 s_4 t2_5 c_6) (q_cell_Read_0 m0)) s := by kernel_rfl
theorem ev_cell_Read (s : ByteArray) : evC E_cell_Read (evJ E_cell_Read (drE E_cell_Read) fu) (drE E_cell_Read) b_cell_Read 0 (st0 [.val .str] (s, ())) (fin E_cell_Read [.cell 2 53, .tmp 3] 0 [((.pair (.int .i64) (.pair (.int .i64) .str)), []), ((.int .i64), [])]) = cell_Read s := by
  have e0 : (fun s_4 t2_5 c_6 => evJ E_cell_Read (drE E_cell_Read) fu (.tail cd_cell_Read_1) 0 (sg_cell_Read_0 s_4 t2_5 c_6) (q_cell_Read_0 fu)) = (cell_Read.t0 fu) := by funext s_4 t2_5 c_6; exact J_cell_Read_0 fu fu s_4 t2_5 c_6
  refine (st_cell_Read fu s).trans ?_
  rw [e0]; rfl
@[reducible] def sp_cell_Read   : AM.Spec := AM.spec [.val .str] [((.pair (.int .i64) (.pair (.int .i64) .str)), []), ((.int .i64), [])] (fun x => cell_Read x.1)
theorem c_cell_Read : Contract Tryz.prog 30 sp_cell_Read :=
  contract_of (Tab.envOk tabOk _ _) calls_cell_Read tabOk.mixed (fn := Tryz.f30) (c := b_cell_Read) (ts := [.cell 2 53, .tmp 3]) (by kernel_rfl) (by kernel_rfl) (by kernel_rfl) (by decide) (by kernel_rfl) (by decide) rfl fun x _ h => ⟨fu, (ev_cell_Read x.1).trans h⟩

/-! (*peristyle/lex.lexer).number -/
@[reducible] noncomputable def E_lex_lexer_number_w : Env := tab.env (AM.look [(10, sp_lex_lexer_while__lex_lexer_number_1_w), (29, sp_strings_TrimLeft), (30, sp_cell_Read)]) ⟨[], [], [(4, ⟨[(0, true), (4, true)], [(1000000, true)]⟩), (10, ⟨[(5, true)], [(1000000, true)]⟩)], ⟨[(2, true), (3, true)], [(1000000, true)]⟩, [], [10, 29, 30]⟩
theorem calls_lex_lexer_number_w : CallsOk Tryz.prog E_lex_lexer_number_w := callsOk_of ⟨⟨c_lex_lexer_while__lex_lexer_number_1_w, Tryz.call10, fun _ => words_io rfl⟩, ⟨⟨c_strings_TrimLeft, Tryz.call29, fun _ => words_spec rfl⟩, ⟨⟨c_cell_Read, Tryz.call30, fun _ => words_spec rfl⟩, trivial⟩⟩⟩
noncomputable def b_lex_lexer_number_w : Code := (Tryz.f18.body).getD .skip
noncomputable def sg_lex_lexer_number_w_1 (d_5 : ByteArray) (t1000000_6 : (ByteArray × Int)) : St := mk [(5, .dat .str d_5 [])] [(1000000, some (.var (.pair .str (.int .i64)) t1000000_6 []))]
noncomputable def sg_lex_lexer_number_w_0 (down_1 : Bool) (t1000000_2 : (ByteArray × Int)) : St := mk [(0, .ptr 1000000 0 0), (4, .dat .bool down_1 [])] [(1000000, some (.var (.pair .str (.int .i64)) t1000000_2 []))]
noncomputable def q_lex_lexer_number_w_0 (m0 : Nat) : K (ResD [((.int .i64), []), (.bool, []), ((.pair .str (.int .i64)), [])]) := fin E_lex_lexer_number_w [.tmp 2, .tmp 3] 1 [((.int .i64), []), (.bool, []), ((.pair .str (.int .i64)), [])]
noncomputable def cd_lex_lexer_number_w_1 : Code := (rgt (rgt (rgt (rgt (rgt (rgt (rgt b_lex_lexer_number_w)))))))
theorem st_lex_lexer_number_w_j1 (m0 : Nat) (m1 : Nat) (n : Nat) (d_5 : ByteArray) (t1000000_6 : (ByteArray × Int)) : evJ E_lex_lexer_number_w (drE E_lex_lexer_number_w) (n + 1) (.tail cd_lex_lexer_number_w_1) 0 (sg_lex_lexer_number_w_1 d_5 t1000000_6) (q_lex_lexer_number_w_0 m0) = lex_lexer_number_w.S1 d_5 t1000000_6 := by kernel_rfl
theorem J_lex_lexer_number_w_1 (m0 : Nat) (m1 : Nat) : ∀ (n : Nat) (d_5 : ByteArray) (t1000000_6 : (ByteArray × Int)), evJ E_lex_lexer_number_w (drE E_lex_lexer_number_w) n (.tail cd_lex_lexer_number_w_1) 0 (sg_lex_lexer_number_w_1 d_5 t1000000_6) (q_lex_lexer_number_w_0 m0) = lex_lexer_number_w.t1 n d_5 t1000000_6 := by
  intro n
  induction n with
  | zero => intros; rfl
  | succ n ih =>
    intro d_5 t1000000_6
    have e1 : (fun d_5 t1000000_6 => evJ E_lex_lexer_number_w (drE E_lex_lexer_number_w) n (.tail cd_lex_lexer_number_w_1) 0 (sg_lex_lexer_number_w_1 d_5 t1000000_6) (q_lex_lexer_number_w_0 m0)) = (lex_lexer_number_w.t1 n) := by funext d_5 t1000000_6; exact ih d_5 t1000000_6
    refine (st_lex_lexer_number_w_j1 m0 m1 n d_5 t1000000_6).trans ?_
    rfl
noncomputable def cd_lex_lexer_number_w_2 : Code := (rgt (rgt (rgt b_lex_lexer_number_w)))
theorem st_lex_lexer_number_w_j0 (m0 : Nat) (n : Nat) (down_1 : Bool) (t1000000_2 : (ByteArray × Int)) : evJ E_lex_lexer_number_w (drE E_lex_lexer_number_w) (n + 1) (.tail cd_lex_lexer_number_w_2) 0 (sg_lex_lexer_number_w_0 down_1 t1000000_2) (q_lex_lexer_number_w_0 m0) = lex_lexer_number_w.S0 (fun d_5 t1000000_6 => evJ E_lex_lexer_number_w (drE E_lex_lexer_number_w) n (.tail cd_lex_lexer_number_w_1) 0 (sg_lex_lexer_number_w_1 d_5 t1000000_6) (q_lex_lexer_number_w_0 m0)) down_1 t1000000_2 := by kernel_rfl
theorem J_lex_lexer_number_w_0 (m0 : Nat) : ∀ (n : Nat) (down_1 : Bool) (t1000000_2 : (ByteArray × Int)), evJ E_lex_lexer_number_w (drE E_lex_lexer_number_w) n (.tail cd_lex_lexer_number_w_2) 0 (sg_lex_lexer_number_w_0 down_1 t1000000_2) (q_lex_lexer_number_w_0 m0) = lex_lexer_number_w.t0 n down_1 t1000000_2 := by
  intro n
  induction n with
  | zero => intros; rfl
  | succ n ih =>
    intro down_1 t1000000_2
    have e0 : (fun down_1 t1000000_2 => evJ E_lex_lexer_number_w (drE E_lex_lexer_number_w) n (.tail cd_lex_lexer_number_w_2) 0 (sg_lex_lexer_number_w_0 down_1 t1000000_2) (q_lex_lexer_number_w_0 m0)) = (lex_lexer_number_w.t0 n) := by funext down_1 t1000000_2; exact ih down_1 t1000000_2
    have e1 : (fun d_5 t1000000_6 => evJ E_lex_lexer_number_w (drE E_lex_lexer_number_w) n (.tail cd_lex_lexer_number_w_1) 0 (sg_lex_lexer_number_w_1 d_5 t1000000_6) (q_lex_lexer_number_w_0 m0)) = (lex_lexer_number_w.t1 n) := by funext d_5 t1000000_6; exact J_lex_lexer_number_w_1 m0 n n d_5 t1000000_6
    refine (st_lex_lexer_number_w_j0 m0 n down_1 t1000000_2).trans ?_
    rw [e1]; rfl
theorem st_lex_lexer_number_w (m0 : Nat) (l : (ByteArray × Int)) : evC E_lex_lexer_number_w (evJ E_lex_lexer_number_w (drE E_lex_lexer_number_w) m0) (drE E_lex_lexer_number_w) b_lex_lexer_number_w 0 (st0 [.io (.pair .str (.int .i64)) []] (l, ())) (fin E_lex_lexer_number_w [.tmp 2, .tmp 3] 1 [((.int .i64), []), (.bool, []), ((.pair .str (.int .i64)), [])]) = lex_lexer_number_w.S (fun down_1 t1000000_2 => evJ E_lex_lexer_number_w (drE E_lex_lexer_number_w) m0 (.tail cd_lex_lexer_number_w_2) 0 (sg_lex_lexer_number_w_0 down_1 t1000000_2) (q_lex_lexer_number_w_0 m0)) l := by kernel_rfl
theorem ev_lex_lexer_number_w (l : (ByteArray × Int)) : evC E_lex_lexer_number_w (evJ E_lex_lexer_number_w (drE E_lex_lexer_number_w) fu) (drE E_lex_lexer_number_w) b_lex_lexer_number_w 0 (st0 [.io (.pair .str (.int .i64)) []] (l, ())) (fin E_lex_lexer_number_w [.tmp 2, .tmp 3] 1 [((.int .i64), []), (.bool, []), ((.pair .str (.int .i64)), [])]) = lex_lexer_number_w l := by
  have e0 : (fun down_1 t1000000_2 => evJ E_lex_lexer_number_w (drE E_lex_lexer_number_w) fu (.tail cd_lex_lexer_number_w_2) 0 (sg_lex_lexer_number_w_0 down_1 t1000000_2) (q_lex_lexer_number_w_0 fu)) = (lex_lexer_number_w.t0 fu) := by funext down_1 t1000000_2; exact J_lex_lexer_number_w_0 fu fu down_1 t1000000_2
  refine (st_lex_lexer_number_w fu l).trans ?_
  rw [e0]; rfl
@[reducible] def sp_lex_lexer_number_w   : AM.Spec := AM.specIo 2 [.io (.pair .str (.int .i64)) []] [((.int .i64), []), (.bool, []), ((.pair .str (.int .i64)), [])] (fun x => lex_lexer_number_w x.1)
theorem c_lex_lexer_number_w : Contract Tryz.prog 18 sp_lex_lexer_number_w :=
  contract_io (Tab.envOk tabOk _ _) calls_lex_lexer_number_w tabOk.mixed (fn := Tryz.f18) (c := b_lex_lexer_number_w) (ts := [.tmp 2, .tmp 3]) (by kernel_rfl) (by kernel_rfl) (by kernel_rfl) (by decide) (by kernel_rfl) (by decide) fun x _ h => ⟨fu, (ev_lex_lexer_number_w x.1).trans h⟩

/-! (*strings.Builder).Len -/
@[reducible] noncomputable def E_strings_Builder_Len_w : Env := tab.env (AM.look []) ⟨[], [], [], ⟨[(2, true)], [(1000000, true)]⟩, [], []⟩
theorem calls_strings_Builder_Len_w : CallsOk Tryz.prog E_strings_Builder_Len_w := callsOk_of trivial
noncomputable def b_strings_Builder_Len_w : Code := (Tryz.f32.body).getD .skip
theorem st_strings_Builder_Len_w (m0 : Nat) (b : (Bool × (List Int))) : evC E_strings_Builder_Len_w (evJ E_strings_Builder_Len_w (drE E_strings_Builder_Len_w) m0) (drE E_strings_Builder_Len_w) b_strings_Builder_Len_w 0 (st0 [.io (.pair (.lk false) (.sl (.int .u8))) []] (b, ())) (fin E_strings_Builder_Len_w [.tmp 2] 1 [((.int .i64), []), ((.pair (.lk false) (.sl (.int .u8))), [])]) = some (strings_Builder_Len_w b) := by kernel_rfl
theorem ev_strings_Builder_Len_w (b : (Bool × (List Int))) : evC E_strings_Builder_Len_w (evJ E_strings_Builder_Len_w (drE E_strings_Builder_Len_w) fu) (drE E_strings_Builder_Len_w) b_strings_Builder_Len_w 0 (st0 [.io (.pair (.lk false) (.sl (.int .u8))) []] (b, ())) (fin E_strings_Builder_Len_w [.tmp 2] 1 [((.int .i64), []), ((.pair (.lk false) (.sl (.int .u8))), [])]) = some (strings_Builder_Len_w b) := st_strings_Builder_Len_w fu b
@[reducible] def sp_strings_Builder_Len_w   : AM.Spec := AM.specIo 1 [.io (.pair (.lk false) (.sl (.int .u8))) []] [((.int .i64), []), ((.pair (.lk false) (.sl (.int .u8))), [])] (fun x => some (strings_Builder_Len_w x.1))
theorem c_strings_Builder_Len_w : Contract Tryz.prog 32 sp_strings_Builder_Len_w :=
  contract_io (Tab.envOk tabOk _ _) calls_strings_Builder_Len_w tabOk.mixed (fn := Tryz.f32) (c := b_strings_Builder_Len_w) (ts := [.tmp 2]) (by kernel_rfl) (by kernel_rfl) (by kernel_rfl) (by decide) (by kernel_rfl) (by decide) fun x _ h => ⟨fu, (ev_strings_Builder_Len_w x.1).trans h⟩

/-! (*strings.Builder).WriteByte -/
@[reducible] noncomputable def E_strings_Builder_WriteByte_w1 : Env := tab.env (AM.look [(46, sp_bld_check)]) ⟨[], [], [], ⟨[(4, true)], [(1000000, true)]⟩, [], []⟩
theorem calls_strings_Builder_WriteByte_w1 : CallsOk Tryz.prog E_strings_Builder_WriteByte_w1 := callsOk_of ⟨⟨c_bld_check, Tryz.call46, fun h => nomatch (show false = true from h)⟩, trivial⟩
noncomputable def b_strings_Builder_WriteByte_w1 : Code := (Tryz.f33.body).getD .skip
theorem st_strings_Builder_WriteByte_w1 (m0 : Nat) (b : (Bool × (List Int))) (c : Int) : evC E_strings_Builder_WriteByte_w1 (evJ E_strings_Builder_WriteByte_w1 (drE E_strings_Builder_WriteByte_w1) m0) (drE E_strings_Builder_WriteByte_w1) b_strings_Builder_WriteByte_w1 0 (st0 [.io (.pair (.lk false) (.sl (.int .u8))) [(1, 0)], .val (.int .u8)] (b, c, ())) (fin E_strings_Builder_WriteByte_w1 [.tmp 4] 1 [((.lk true), []), ((.pair (.lk false) (.sl (.int .u8))), [⟨1, 1, 0, 0⟩])]) = strings_Builder_WriteByte_w1 b c := by kernel_rfl
theorem ev_strings_Builder_WriteByte_w1 (b : (Bool × (List Int))) (c : Int) : evC E_strings_Builder_WriteByte_w1 (evJ E_strings_Builder_WriteByte_w1 (drE E_strings_Builder_WriteByte_w1) fu) (drE E_strings_Builder_WriteByte_w1) b_strings_Builder_WriteByte_w1 0 (st0 [.io (.pair (.lk false) (.sl (.int .u8))) [(1, 0)], .val (.int .u8)] (b, c, ())) (fin E_strings_Builder_WriteByte_w1 [.tmp 4] 1 [((.lk true), []), ((.pair (.lk false) (.sl (.int .u8))), [⟨1, 1, 0, 0⟩])]) = strings_Builder_WriteByte_w1 b c := st_strings_Builder_WriteByte_w1 fu b c
@[reducible] def sp_strings_Builder_WriteByte_w1   : AM.Spec := AM.specIo 1 [.io (.pair (.lk false) (.sl (.int .u8))) [(1, 0)], .val (.int .u8)] [((.lk true), []), ((.pair (.lk false) (.sl (.int .u8))), [⟨1, 1, 0, 0⟩])] (fun x => strings_Builder_WriteByte_w1 x.1 x.2.1)
theorem c_strings_Builder_WriteByte_w1 : Contract Tryz.prog 33 sp_strings_Builder_WriteByte_w1 :=
  contract_io (Tab.envOk tabOk _ _) calls_strings_Builder_WriteByte_w1 tabOk.mixed (fn := Tryz.f33) (c := b_strings_Builder_WriteByte_w1) (ts := [.tmp 4]) (by kernel_rfl) (by kernel_rfl) (by kernel_rfl) (by decide) (by kernel_rfl) (by decide) fun x _ h => ⟨fu, (ev_strings_Builder_WriteByte_w1 x.1 x.2.1).trans h⟩

/-! (*peristyle/lex.lexer).text -/
@[reducible] noncomputable def E_lex_lexer_text_w : Env := tab.env (AM.look [(31, sp_bld_String), (32, sp_strings_Builder_Len_w), (33, sp_strings_Builder_WriteByte_w1)]) ⟨[(0, ⟨[(0, true), (4, true)], [(4, true), (1000000, true)]⟩)], [], [], ⟨[(2, true), (3, true)], [(1000000, true)]⟩, [], []⟩
theorem calls_lex_lexer_text_w : CallsOk Tryz.prog E_lex_lexer_text_w := callsOk_of ⟨⟨c_bld_String, Tryz.call31, fun h => nomatch (show false = true from h)⟩, ⟨⟨c_strings_Builder_Len_w, Tryz.call32, fun h => nomatch (show false = true from h)⟩, ⟨⟨c_strings_Builder_WriteByte_w1, Tryz.call33, fun h => nomatch (show false = true from h)⟩, trivial⟩⟩⟩
noncomputable def b_lex_lexer_text_w : Code := (Tryz.f19.body).getD .skip
noncomputable def sg_lex_lexer_text_w_0 (b_1 : (Bool × (List Int))) (t1000000_2 : (ByteArray × Int)) : St := mk [(0, .ptr 1000000 0 0), (4, .ptr 4 0 0)] [(4, some (.var (.pair (.lk false) (.sl (.int .u8))) b_1 [⟨1, 64258, 0, 0⟩])), (1000000, some (.var (.pair .str (.int .i64)) t1000000_2 []))]
noncomputable def q_lex_lexer_text_w_0 (m0 : Nat) : K (ResD [(.str, []), (.bool, []), ((.pair .str (.int .i64)), [])]) := fin E_lex_lexer_text_w [.tmp 2, .tmp 3] 1 [(.str, []), (.bool, []), ((.pair .str (.int .i64)), [])]
noncomputable def cd_lex_lexer_text_w_1 : Code := (rgt (rgt (rgt b_lex_lexer_text_w)))
noncomputable def q_lex_lexer_text_w_1 (m0 : Nat) : K (ResD [(.str, []), (.bool, []), ((.pair .str (.int .i64)), [])]) := seqK E_lex_lexer_text_w (evJ E_lex_lexer_text_w (drE E_lex_lexer_text_w) m0) cd_lex_lexer_text_w_1 0 (evC E_lex_lexer_text_w (evJ E_lex_lexer_text_w (drE E_lex_lexer_text_w) m0) (drE E_lex_lexer_text_w) cd_lex_lexer_text_w_1 0) (q_lex_lexer_text_w_0 m0)
noncomputable def q_lex_lexer_text_w_2 (m0 : Nat) : K (ResD [(.str, []), (.bool, []), ((.pair .str (.int .i64)), [])]) := blockK 0 (q_lex_lexer_text_w_1 m0)
noncomputable def cd_lex_lexer_text_w_2 : Code := (lft (lft (rgt (lft (rgt (rgt b_lex_lexer_text_w))))))
theorem st_lex_lexer_text_w_j0 (m0 : Nat) (n : Nat) (b_1 : (Bool × (List Int))) (t1000000_2 : (ByteArray × Int)) : evJ E_lex_lexer_text_w (drE E_lex_lexer_text_w) (n + 1) (.loop cd_lex_lexer_text_w_2) 0 (sg_lex_lexer_text_w_0 b_1 t1000000_2) (q_lex_lexer_text_w_2 m0) = lex_lexer_text_w.S0 (fun b_1 t1000000_2 => evJ E_lex_lexer_text_w (drE E_lex_lexer_text_w) n (.loop cd_lex_lexer_text_w_2) 0 (sg_lex_lexer_text_w_0 b_1 t1000000_2) (q_lex_lexer_text_w_2 m0)) b_1 t1000000_2 := by kernel_rfl
theorem J_lex_lexer_text_w_0 (m0 : Nat) : ∀ (n : Nat) (b_1 : (Bool × (List Int))) (t1000000_2 : (ByteArray × Int)), evJ E_lex_lexer_text_w (drE E_lex_lexer_text_w) n (.loop cd_lex_lexer_text_w_2) 0 (sg_lex_lexer_text_w_0 b_1 t1000000_2) (q_lex_lexer_text_w_2 m0) = lex_lexer_text_w.l0 n b_1 t1000000_2 := by
  intro n
  induction n with
  | zero => intros; rfl
  | succ n ih =>
    intro b_1 t1000000_2
    have e0 : (fun b_1 t1000000_2 => evJ E_lex_lexer_text_w (drE E_lex_lexer_text_w) n (.loop cd_lex_lexer_text_w_2) 0 (sg_lex_lexer_text_w_0 b_1 t1000000_2) (q_lex_lexer_text_w_2 m0)) = (lex_lexer_text_w.l0 n) := by funext b_1 t1000000_2; exact ih b_1 t1000000_2
    refine (st_lex_lexer_text_w_j0 m0 n b_1 t1000000_2).trans ?_
    rw [e0]; rfl
theorem st_lex_lexer_text_w (m0 : Nat) (l : (ByteArray × Int)) : evC E_lex_lexer_text_w (evJ E_lex_lexer_text_w (drE E_lex_lexer_text_w) m0) (drE E_lex_lexer_text_w) b_lex_lexer_text_w 0 (st0 [.io (.pair .str (.int .i64)) []] (l, ())) (fin E_lex_lexer_text_w [.tmp 2, .tmp 3] 1 [(.str, []), (.bool, []), ((.pair .str (.int .i64)), [])]) = lex_lexer_text_w.S (fun b_1 t1000000_2 => evJ E_lex_lexer_text_w (drE E_lex_lexer_text_w) m0 (.loop cd_lex_lexer_text_w_2) 0 (sg_lex_lexer_text_w_0 b_1 t1000000_2) (q_lex_lexer_text_w_2 m0)) l := by kernel_rfl
theorem ev_lex_lexer_text_w (l : (ByteArray × Int)) : evC E_lex_lexer_text_w (evJ E_lex_lexer_text_w (drE E_lex_lexer_text_w) fu) (drE E_lex_lexer_text_w) b_lex_lexer_text_w 0 (st0 [.io (.pair .str (.int .i64)) []] (l, ())) (fin E_lex_lexer_text_w [.tmp 2, .tmp 3] 1 [(.str, []), (.bool, []), ((.pair .str (.int .i64)), [])]) = lex_lexer_text_w l := by
  have e0 : (fun b_1 t1000000_2 => evJ E_lex_lexer_text_w (drE E_lex_lexer_text_w) fu (.loop cd_lex_lexer_text_w_2) 0 (sg_lex_lexer_text_w_0 b_1 t1000000_2) (q_lex_lexer_text_w_2 fu)) = (lex_lexer_text_w.l0 fu) := by funext b_1 t1000000_2; exact J_lex_lexer_text_w_0 fu fu b_1 t1000000_2
  refine (st_lex_lexer_text_w fu l).trans ?_
  rw [e0]; rfl
@[reducible] def sp_lex_lexer_text_w   : AM.Spec := AM.specIo 2 [.io (.pair .str (.int .i64)) []] [(.str, []), (.bool, []), ((.pair .str (.int .i64)), [])] (fun x => lex_lexer_text_w x.1)
theorem c_lex_lexer_text_w : Contract Tryz.prog 19 sp_lex_lexer_text_w :=
  contract_io (Tab.envOk tabOk _ _) calls_lex_lexer_text_w tabOk.mixed (fn := Tryz.f19) (c := b_lex_lexer_text_w) (ts := [.tmp 2, .tmp 3]) (by kernel_rfl) (by kernel_rfl) (by kernel_rfl) (by decide) (by kernel_rfl) (by decide) fun x _ h => ⟨fu, (ev_lex_lexer_text_w x.1).trans h⟩

/-! (*peristyle/lex.lexer).sign -/
@[reducible] noncomputable def E_lex_lexer_sign_w : Env := tab.env (AM.look []) ⟨[], [], [(8, ⟨[(0, true), (3, true)], [(1000000, true)]⟩)], ⟨[(2, true)], [(1000000, true)]⟩, [], []⟩
theorem calls_lex_lexer_sign_w : CallsOk Tryz.prog E_lex_lexer_sign_w := callsOk_of trivial
noncomputable def b_lex_lexer_sign_w : Code := (Tryz.f20.body).getD .skip
noncomputable def sg_lex_lexer_sign_w_0 (n_1 : Int) (t1000000_2 : (ByteArray × Int)) : St := mk [(0, .ptr 1000000 0 0), (3, .dat (.int .i64) n_1 [])] [(1000000, some (.var (.pair .str (.int .i64)) t1000000_2 []))]
noncomputable def q_lex_lexer_sign_w_0 (m0 : Nat) : K (ResD [(.str, []), ((.pair .str (.int .i64)), [])]) := fin E_lex_lexer_sign_w [.tmp 2] 1 [(.str, []), ((.pair .str (.int .i64)), [])]
noncomputable def cd_lex_lexer_sign_w_1 : Code := (rgt (rgt (rgt b_lex_lexer_sign_w)))
theorem st_lex_lexer_sign_w_j0 (m0 : Nat) (n : Nat) (n_1 : Int) (t1000000_2 : (ByteArray × Int)) : evJ E_lex_lexer_sign_w (drE E_lex_lexer_sign_w) (n + 1) (.tail cd_lex_lexer_sign_w_1) 0 (sg_lex_lexer_sign_w_0 n_1 t1000000_2) (q_lex_lexer_sign_w_0 m0) = lex_lexer_sign_w.S0 n_1 t1000000_2 := by kernel_rfl
theorem J_lex_lexer_sign_w_0 (m0 : Nat) : ∀ (n : Nat) (n_1 : Int) (t1000000_2 : (ByteArray × Int)), evJ E_lex_lexer_sign_w (drE E_lex_lexer_sign_w) n (.tail cd_lex_lexer_sign_w_1) 0 (sg_lex_lexer_sign_w_0 n_1 t1000000_2) (q_lex_lexer_sign_w_0 m0) = lex_lexer_sign_w.t0 n n_1 t1000000_2 := by
  intro n
  induction n with
  | zero => intros; rfl
  | succ n ih =>
    intro n_1 t1000000_2
    have e0 : (fun n_1 t1000000_2 => evJ E_lex_lexer_sign_w (drE E_lex_lexer_sign_w) n (.tail cd_lex_lexer_sign_w_1) 0 (sg_lex_lexer_sign_w_0 n_1 t1000000_2) (q_lex_lexer_sign_w_0 m0)) = (lex_lexer_sign_w.t0 n) := by funext n_1 t1000000_2; exact ih n_1 t1000000_2
    refine (st_lex_lexer_sign_w_j0 m0 n n_1 t1000000_2).trans ?_
    rfl
theorem st_lex_lexer_sign_w (m0 : Nat) (l : (ByteArray × Int)) : evC E_lex_lexer_sign_w (evJ E_lex_lexer_sign_w (drE E_lex_lexer_sign_w) m0) (drE E_lex_lexer_sign_w) b_lex_lexer_sign_w 0 (st0 [.io (.pair .str (.int .i64)) []] (l, ())) (fin E_lex_lexer_sign_w [.tmp 2] 1 [(.str, []), ((.pair .str (.int .i64)), [])]) = lex_lexer_sign_w.S (fun n_1 t1000000_2 => evJ E_lex_lexer_sign_w (drE E_lex_lexer_sign_w) m0 (.tail cd_lex_lexer_sign_w_1) 0 (sg_lex_lexer_sign_w_0 n_1 t1000000_2) (q_lex_lexer_sign_w_0 m0)) l := by kernel_rfl
theorem ev_lex_lexer_sign_w (l : (ByteArray × Int)) : evC E_lex_lexer_sign_w (evJ E_lex_lexer_sign_w (drE E_lex_lexer_sign_w) fu) (drE E_lex_lexer_sign_w) b_lex_lexer_sign_w 0 (st0 [.io (.pair .str (.int .i64)) []] (l, ())) (fin E_lex_lexer_sign_w [.tmp 2] 1 [(.str, []), ((.pair .str (.int .i64)), [])]) = lex_lexer_sign_w l := by
  have e0 : (fun n_1 t1000000_2 => evJ E_lex_lexer_sign_w (drE E_lex_lexer_sign_w) fu (.tail cd_lex_lexer_sign_w_1) 0 (sg_lex_lexer_sign_w_0 n_1 t1000000_2) (q_lex_lexer_sign_w_0 fu)) = (lex_lexer_sign_w.t0 fu) := by funext n_1 t1000000_2; exact J_lex_lexer_sign_w_0 fu fu n_1 t1000000_2
  refine (st_lex_lexer_sign_w fu l).trans ?_
  rw [e0]; rfl
@[reducible] def sp_lex_lexer_sign_w   : AM.Spec := AM.specIo 1 [.io (.pair .str (.int .i64)) []] [(.str, []), ((.pair .str (.int .i64)), [])] (fun x => lex_lexer_sign_w x.1)
theorem c_lex_lexer_sign_w : Contract Tryz.prog 20 sp_lex_lexer_sign_w :=
  contract_io (Tab.envOk tabOk _ _) calls_lex_lexer_sign_w tabOk.mixed (fn := Tryz.f20) (c := b_lex_lexer_sign_w) (ts := [.tmp 2]) (by kernel_rfl) (by kernel_rfl) (by kernel_rfl) (by decide) (by kernel_rfl) (by decide) fun x _ h => ⟨fu, (ev_lex_lexer_sign_w x.1).trans h⟩

/-! (*peristyle/lex.lexer).next -/
@[reducible] noncomputable def E_lex_lexer_next_w : Env := tab.env (AM.look [(12, sp_lex_kind), (10, sp_lex_lexer_while__lex_lexer_next_1_w), (18, sp_lex_lexer_number_w), (19, sp_lex_lexer_text_w), (20, sp_lex_lexer_sign_w)]) ⟨[], [], [], ⟨[(2, true), (3, true)], [(2, true), (1000000, true)]⟩, [], [10, 12, 18, 19, 20]⟩
theorem calls_lex_lexer_next_w : CallsOk Tryz.prog E_lex_lexer_next_w := callsOk_of ⟨⟨c_lex_kind, Tryz.call12, fun _ => words_spec rfl⟩, ⟨⟨c_lex_lexer_while__lex_lexer_next_1_w, Tryz.call10, fun _ => words_io rfl⟩, ⟨⟨c_lex_lexer_number_w, Tryz.call18, fun _ => words_io rfl⟩, ⟨⟨c_lex_lexer_text_w, Tryz.call19, fun _ => words_io rfl⟩, ⟨⟨c_lex_lexer_sign_w, Tryz.call20, fun _ => words_io rfl⟩, trivial⟩⟩⟩⟩⟩
noncomputable def b_lex_lexer_next_w : Code := (Tryz.f13.body).getD .skip
theorem st_lex_lexer_next_w (m0 : Nat) (l : (ByteArray × Int)) : evC E_lex_lexer_next_w (evJ E_lex_lexer_next_w (drE E_lex_lexer_next_w) m0) (drE E_lex_lexer_next_w) b_lex_lexer_next_w 0 (st0 [.io (.pair .str (.int .i64)) []] (l, ())) (fin E_lex_lexer_next_w [.cell 2 30, .tmp 3] 1 [((.pair (.int .i64) (.pair .str (.pair (.int .i64) (.int .i64)))), []), (.bool, []), ((.pair .str (.int .i64)), [])]) = lex_lexer_next_w l := by kernel_rfl
theorem ev_lex_lexer_next_w (l : (ByteArray × Int)) : evC E_lex_lexer_next_w (evJ E_lex_lexer_next_w (drE E_lex_lexer_next_w) fu) (drE E_lex_lexer_next_w) b_lex_lexer_next_w 0 (st0 [.io (.pair .str (.int .i64)) []] (l, ())) (fin E_lex_lexer_next_w [.cell 2 30, .tmp 3] 1 [((.pair (.int .i64) (.pair .str (.pair (.int .i64) (.int .i64)))), []), (.bool, []), ((.pair .str (.int .i64)), [])]) = lex_lexer_next_w l := st_lex_lexer_next_w fu l
@[reducible] def sp_lex_lexer_next_w   : AM.Spec := AM.specIo 2 [.io (.pair .str (.int .i64)) []] [((.pair (.int .i64) (.pair .str (.pair (.int .i64) (.int .i64)))), []), (.bool, []), ((.pair .str (.int .i64)), [])] (fun x => lex_lexer_next_w x.1)
theorem c_lex_lexer_next_w : Contract Tryz.prog 13 sp_lex_lexer_next_w :=
  contract_io (Tab.envOk tabOk _ _) calls_lex_lexer_next_w tabOk.mixed (fn := Tryz.f13) (c := b_lex_lexer_next_w) (ts := [.cell 2 30, .tmp 3]) (by kernel_rfl) (by kernel_rfl) (by kernel_rfl) (by decide) (by kernel_rfl) (by decide) fun x _ h => ⟨fu, (ev_lex_lexer_next_w x.1).trans h⟩

/-! peristyle/lex.Tokens -/
@[reducible] noncomputable def E_lex_Tokens : Env := tab.env (AM.look [(10, sp_lex_lexer_while__lex_Tokens_1_w), (13, sp_lex_lexer_next_w)]) ⟨[(0, ⟨[(0, true), (5, true), (6, true)], [(14, true)]⟩)], [], [], ⟨[(2, true), (3, true), (4, true)], []⟩, [], [10, 13]⟩
theorem calls_lex_Tokens : CallsOk Tryz.prog E_lex_Tokens := callsOk_of ⟨⟨c_lex_lexer_while__lex_Tokens_1_w, Tryz.call10, fun _ => words_io rfl⟩, ⟨⟨c_lex_lexer_next_w, Tryz.call13, fun _ => words_io rfl⟩, trivial⟩⟩
noncomputable def b_lex_Tokens : Code := (Tryz.f5.body).getD .skip
noncomputable def sg_lex_Tokens_0 (s_1 : ByteArray) (out_2 : (List (Int × (ByteArray × (Int × Int))))) (t14_3 : (ByteArray × Int)) : St := mk [(0, .dat .str s_1 []), (5, .ptr 14 0 0), (6, .dat (.sl (.pair (.int .i64) (.pair .str (.pair (.int .i64) (.int .i64))))) out_2 [⟨0, 385, 0, 4⟩])] [(14, some (.var (.pair .str (.int .i64)) t14_3 []))]
noncomputable def q_lex_Tokens_0 (m0 : Nat) : K (ResD [((.sl (.pair (.int .i64) (.pair .str (.pair (.int .i64) (.int .i64))))), [⟨0, 1, 0, 4⟩]), ((.int .i64), []), ((.int .i64), [])]) := fin E_lex_Tokens [.tmp 2, .tmp 3, .tmp 4] 0 [((.sl (.pair (.int .i64) (.pair .str (.pair (.int .i64) (.int .i64))))), [⟨0, 1, 0, 4⟩]), ((.int .i64), []), ((.int .i64), [])]
noncomputable def q_lex_Tokens_1 (m0 : Nat) : K (ResD [((.sl (.pair (.int .i64) (.pair .str (.pair (.int .i64) (.int .i64))))), [⟨0, 1, 0, 4⟩]), ((.int .i64), []), ((.int .i64), [])]) := blockK 0 (q_lex_Tokens_0 m0)
noncomputable def cd_lex_Tokens_1 : Code := (lft (lft (rgt (rgt (rgt (rgt b_lex_Tokens))))))
theorem st_lex_Tokens_j0 (m0 : Nat) (n : Nat) (s_1 : ByteArray) (out_2 : (List (Int × (ByteArray × (Int × Int))))) (t14_3 : (ByteArray × Int)) : evJ E_lex_Tokens (drE E_lex_Tokens) (n + 1) (.loop cd_lex_Tokens_1) 0 (sg_lex_Tokens_0 s_1 out_2 t14_3) (q_lex_Tokens_1 m0) = lex_Tokens.S0 (fun s_1 out_2 t14_3 => evJ E_lex_Tokens (drE E_lex_Tokens) n (.loop cd_lex_Tokens_1) 0 (sg_lex_Tokens_0 s_1 out_2 t14_3) (q_lex_Tokens_1 m0)) s_1 out_2 t14_3 := by kernel_rfl
theorem J_lex_Tokens_0 (m0 : Nat) : ∀ (n : Nat) (s_1 : ByteArray) (out_2 : (List (Int × (ByteArray × (Int × Int))))) (t14_3 : (ByteArray × Int)), evJ E_lex_Tokens (drE E_lex_Tokens) n (.loop cd_lex_Tokens_1) 0 (sg_lex_Tokens_0 s_1 out_2 t14_3) (q_lex_Tokens_1 m0) = lex_Tokens.l0 n s_1 out_2 t14_3 := by
  intro n
  induction n with
  | zero => intros; rfl
  | succ n ih =>
    intro s_1 out_2 t14_3
    have e0 : (fun s_1 out_2 t14_3 => evJ E_lex_Tokens (drE E_lex_Tokens) n (.loop cd_lex_Tokens_1) 0 (sg_lex_Tokens_0 s_1 out_2 t14_3) (q_lex_Tokens_1 m0)) = (lex_Tokens.l0 n) := by funext s_1 out_2 t14_3; exact ih s_1 out_2 t14_3
    refine (st_lex_Tokens_j0 m0 n s_1 out_2 t14_3).trans ?_
    rw [e0]; rfl
theorem st_lex_Tokens (m0 : Nat) (s : ByteArray) : evC E_lex_Tokens (evJ E_lex_Tokens (drE E_lex_Tokens) m0) (drE E_lex_Tokens) b_lex_Tokens 0 (st0 [.val .str] (s, ())) (fin E_lex_Tokens [.tmp 2, .tmp 3, .tmp 4] 0 [((.sl (.pair (.int .i64) (.pair .str (.pair (.int .i64) (.int .i64))))), [⟨0, 1, 0, 4⟩]), ((.int .i64), []), ((.int .i64), [])]) = lex_Tokens.S (fun s_1 out_2 t14_3 => evJ E_lex_Tokens (drE E_lex_Tokens) m0 (.loop cd_lex_Tokens_1) 0 (sg_lex_Tokens_0 s_1 out_2 t14_3) (q_lex_Tokens_1 m0)) s := by kernel_rfl
theorem ev_lex_Tokens (s : ByteArray) : evC E_lex_Tokens (evJ E_lex_Tokens (drE E_lex_Tokens) fu) (drE E_lex_Tokens) b_lex_Tokens 0 (st0 [.val .str] (s, ())) (fin E_lex_Tokens [.tmp 2, .tmp 3, .tmp 4] 0 [((.sl (.pair (.int .i64) (.pair .str (.pair (.int .i64) (.int .i64))))), [⟨0, 1, 0, 4⟩]), ((.int .i64), []), ((.int .i64), [])]) = lex_Tokens s := by
  have e0 : (fun s_1 out_2 t14_3 => evJ E_lex_Tokens (drE E_lex_Tokens) fu (.loop cd_lex_Tokens_1) 0 (sg_lex_Tokens_0 s_1 out_2 t14_3) (q_lex_Tokens_1 fu)) = (lex_Tokens.l0 fu) := by funext s_1 out_2 t14_3; exact J_lex_Tokens_0 fu fu s_1 out_2 t14_3
  refine (st_lex_Tokens fu s).trans ?_
  rw [e0]; rfl
@[reducible] def sp_lex_Tokens   : AM.Spec := AM.spec [.val .str] [((.sl (.pair (.int .i64) (.pair .str (.pair (.int .i64) (.int .i64))))), [⟨0, 1, 0, 4⟩]), ((.int .i64), []), ((.int .i64), [])] (fun x => lex_Tokens x.1)
theorem c_lex_Tokens : Contract Tryz.prog 5 sp_lex_Tokens :=
  contract_of (Tab.envOk tabOk _ _) calls_lex_Tokens tabOk.mixed (fn := Tryz.f5) (c := b_lex_Tokens) (ts := [.tmp 2, .tmp 3, .tmp 4]) (by kernel_rfl) (by kernel_rfl) (by kernel_rfl) (by decide) (by kernel_rfl) (by decide) rfl fun x _ h => ⟨fu, (ev_lex_Tokens x.1).trans h⟩

/-! peristyle/lex.Keyword -/
@[reducible] noncomputable def E_lex_Keyword : Env := tab.env (AM.look [(15, sp_strings_Contains)]) ⟨[], [], [], ⟨[(2, true)], []⟩, [], [15]⟩
theorem calls_lex_Keyword : CallsOk Tryz.prog E_lex_Keyword := callsOk_of ⟨⟨c_strings_Contains, Tryz.call15, fun _ => words_spec rfl⟩, trivial⟩
noncomputable def b_lex_Keyword : Code := (Tryz.f8.body).getD .skip
theorem st_lex_Keyword (m0 : Nat) (s : ByteArray) : evC E_lex_Keyword (evJ E_lex_Keyword (drE E_lex_Keyword) m0) (drE E_lex_Keyword) b_lex_Keyword 0 (st0 [.val .str] (s, ())) (fin E_lex_Keyword [.tmp 2] 0 [(.bool, [])]) = lex_Keyword s := by kernel_rfl
theorem ev_lex_Keyword (s : ByteArray) : evC E_lex_Keyword (evJ E_lex_Keyword (drE E_lex_Keyword) fu) (drE E_lex_Keyword) b_lex_Keyword 0 (st0 [.val .str] (s, ())) (fin E_lex_Keyword [.tmp 2] 0 [(.bool, [])]) = lex_Keyword s := st_lex_Keyword fu s
@[reducible] def sp_lex_Keyword   : AM.Spec := AM.spec [.val .str] [(.bool, [])] (fun x => lex_Keyword x.1)
theorem c_lex_Keyword : Contract Tryz.prog 8 sp_lex_Keyword :=
  contract_of (Tab.envOk tabOk _ _) calls_lex_Keyword tabOk.mixed (fn := Tryz.f8) (c := b_lex_Keyword) (ts := [.tmp 2]) (by kernel_rfl) (by kernel_rfl) (by kernel_rfl) (by decide) (by kernel_rfl) (by decide) rfl fun x _ h => ⟨fu, (ev_lex_Keyword x.1).trans h⟩

/-! peristyle/peristylelaw29.awake -/
@[reducible] noncomputable def E_law29_awake : Env := tab.env (AM.look [(5, sp_lex_Tokens), (8, sp_lex_Keyword)]) ⟨[], [], [], ⟨[(0, true)], []⟩, [], [8]⟩
theorem calls_law29_awake : CallsOk Tryz.prog E_law29_awake := callsOk_of ⟨⟨c_lex_Tokens, Tryz.call5, fun h => nomatch (show false = true from h)⟩, ⟨⟨c_lex_Keyword, Tryz.call8, fun _ => words_spec rfl⟩, trivial⟩⟩
noncomputable def b_law29_awake : Code := (Tryz.f4.body).getD .skip
theorem st_law29_awake (m0 : Nat) : evC E_law29_awake (evJ E_law29_awake (drE E_law29_awake) m0) (drE E_law29_awake) b_law29_awake 0 (st0 [] ()) (fin E_law29_awake [.tmp 0] 0 [(.bool, [])]) = law29_awake := by kernel_rfl
theorem ev_law29_awake : evC E_law29_awake (evJ E_law29_awake (drE E_law29_awake) fu) (drE E_law29_awake) b_law29_awake 0 (st0 [] ()) (fin E_law29_awake [.tmp 0] 0 [(.bool, [])]) = law29_awake := st_law29_awake fu
@[reducible] def sp_law29_awake   : AM.Spec := AM.spec [] [(.bool, [])] (fun x => law29_awake)
theorem c_law29_awake : Contract Tryz.prog 4 sp_law29_awake :=
  contract_of (Tab.envOk tabOk _ _) calls_law29_awake tabOk.mixed (fn := Tryz.f4) (c := b_law29_awake) (ts := [.tmp 0]) (by kernel_rfl) (by kernel_rfl) (by kernel_rfl) (by decide) (by kernel_rfl) (by decide) rfl fun x _ h => ⟨fu, (ev_law29_awake).trans h⟩

/-! peristyle/peristyleref29.letter -/
@[reducible] noncomputable def E_ref29_letter : Env := tab.env (AM.look []) ⟨[], [], [], ⟨[(2, true)], []⟩, [], []⟩
theorem calls_ref29_letter : CallsOk Tryz.prog E_ref29_letter := callsOk_of trivial
noncomputable def b_ref29_letter : Code := (Tryz.f21.body).getD .skip
theorem st_ref29_letter_o (m0 : Nat) (c : Int) : evC E_ref29_letter (evJ E_ref29_letter (drE E_ref29_letter) m0) (drE E_ref29_letter) b_ref29_letter 0 (st0 [.val (.int .u8)] (c, ())) (fin E_ref29_letter [.tmp 2] 0 [(.bool, [])]) = ref29_letter.o c := by kernel_rfl
theorem st_ref29_letter (m0 : Nat) (c : Int) : evC E_ref29_letter (evJ E_ref29_letter (drE E_ref29_letter) m0) (drE E_ref29_letter) b_ref29_letter 0 (st0 [.val (.int .u8)] (c, ())) (fin E_ref29_letter [.tmp 2] 0 [(.bool, [])]) = some (ref29_letter c) := (st_ref29_letter_o m0 c).trans (by unfold ref29_letter.o ref29_letter; simp only [cond_some])
theorem ev_ref29_letter (c : Int) : evC E_ref29_letter (evJ E_ref29_letter (drE E_ref29_letter) fu) (drE E_ref29_letter) b_ref29_letter 0 (st0 [.val (.int .u8)] (c, ())) (fin E_ref29_letter [.tmp 2] 0 [(.bool, [])]) = some (ref29_letter c) := st_ref29_letter fu c
@[reducible] def sp_ref29_letter   : AM.Spec := AM.spec [.val (.int .u8)] [(.bool, [])] (fun x => some (ref29_letter x.1))
theorem c_ref29_letter : Contract Tryz.prog 21 sp_ref29_letter :=
  contract_of (Tab.envOk tabOk _ _) calls_ref29_letter tabOk.mixed (fn := Tryz.f21) (c := b_ref29_letter) (ts := [.tmp 2]) (by kernel_rfl) (by kernel_rfl) (by kernel_rfl) (by decide) (by kernel_rfl) (by decide) rfl fun x _ h => ⟨fu, (ev_ref29_letter x.1).trans h⟩

/-! peristyle/peristyleref29.digit -/
@[reducible] noncomputable def E_ref29_digit : Env := tab.env (AM.look []) ⟨[], [], [], ⟨[(2, true)], []⟩, [], []⟩
theorem calls_ref29_digit : CallsOk Tryz.prog E_ref29_digit := callsOk_of trivial
noncomputable def b_ref29_digit : Code := (Tryz.f23.body).getD .skip
theorem st_ref29_digit_o (m0 : Nat) (c : Int) : evC E_ref29_digit (evJ E_ref29_digit (drE E_ref29_digit) m0) (drE E_ref29_digit) b_ref29_digit 0 (st0 [.val (.int .u8)] (c, ())) (fin E_ref29_digit [.tmp 2] 0 [(.bool, [])]) = ref29_digit.o c := by kernel_rfl
theorem st_ref29_digit (m0 : Nat) (c : Int) : evC E_ref29_digit (evJ E_ref29_digit (drE E_ref29_digit) m0) (drE E_ref29_digit) b_ref29_digit 0 (st0 [.val (.int .u8)] (c, ())) (fin E_ref29_digit [.tmp 2] 0 [(.bool, [])]) = some (ref29_digit c) := (st_ref29_digit_o m0 c).trans (by unfold ref29_digit.o ref29_digit; simp only [cond_some])
theorem ev_ref29_digit (c : Int) : evC E_ref29_digit (evJ E_ref29_digit (drE E_ref29_digit) fu) (drE E_ref29_digit) b_ref29_digit 0 (st0 [.val (.int .u8)] (c, ())) (fin E_ref29_digit [.tmp 2] 0 [(.bool, [])]) = some (ref29_digit c) := st_ref29_digit fu c
@[reducible] def sp_ref29_digit   : AM.Spec := AM.spec [.val (.int .u8)] [(.bool, [])] (fun x => some (ref29_digit x.1))
theorem c_ref29_digit : Contract Tryz.prog 23 sp_ref29_digit :=
  contract_of (Tab.envOk tabOk _ _) calls_ref29_digit tabOk.mixed (fn := Tryz.f23) (c := b_ref29_digit) (ts := [.tmp 2]) (by kernel_rfl) (by kernel_rfl) (by kernel_rfl) (by decide) (by kernel_rfl) (by decide) rfl fun x _ h => ⟨fu, (ev_ref29_digit x.1).trans h⟩

/-! peristyle/peristyleref29.span -/
@[reducible] noncomputable def E_ref29_span : Env := tab.env (AM.look [(23, sp_ref29_digit), (21, sp_ref29_letter)]) ⟨[(0, ⟨[(0, true), (1, true), (2, true), (7, true)], []⟩)], [], [], ⟨[(6, true)], []⟩, [], [21, 23]⟩
theorem calls_ref29_span : CallsOk Tryz.prog E_ref29_span := callsOk_of ⟨⟨c_ref29_digit, Tryz.call23, fun _ => words_spec rfl⟩, ⟨⟨c_ref29_letter, Tryz.call21, fun _ => words_spec rfl⟩, trivial⟩⟩
noncomputable def b_ref29_span : Code := (Tryz.f22.body).getD .skip
noncomputable def sg_ref29_span_0 (s_1 : ByteArray) (at_2 : Int) (words_3 : Bool) (n_4 : Int) : St := mk [(0, .dat .str s_1 []), (1, .dat (.int .i64) at_2 []), (2, .dat .bool words_3 []), (7, .dat (.int .i64) n_4 [])] []
noncomputable def q_ref29_span_0 (m0 : Nat) : K (ResD [((.int .i64), [])]) := fin E_ref29_span [.tmp 6] 0 [((.int .i64), [])]
noncomputable def cd_ref29_span_1 : Code := (rgt (rgt (rgt b_ref29_span)))
noncomputable def q_ref29_span_1 (m0 : Nat) : K (ResD [((.int .i64), [])]) := seqK E_ref29_span (evJ E_ref29_span (drE E_ref29_span) m0) cd_ref29_span_1 0 (evC E_ref29_span (evJ E_ref29_span (drE E_ref29_span) m0) (drE E_ref29_span) cd_ref29_span_1 0) (q_ref29_span_0 m0)
noncomputable def q_ref29_span_2 (m0 : Nat) : K (ResD [((.int .i64), [])]) := blockK 0 (q_ref29_span_1 m0)
noncomputable def cd_ref29_span_2 : Code := (lft (lft (lft (rgt (rgt b_ref29_span)))))
theorem st_ref29_span_j0 (m0 : Nat) (n : Nat) (s_1 : ByteArray) (at_2 : Int) (words_3 : Bool) (n_4 : Int) : evJ E_ref29_span (drE E_ref29_span) (n + 1) (.loop cd_ref29_span_2) 0 (sg_ref29_span_0 s_1 at_2 words_3 n_4) (q_ref29_span_2 m0) = ref29_span.S0 (fun s_1 at_2 words_3 n_4 => evJ E_ref29_span (drE E_ref29_span) n (.loop cd_ref29_span_2) 0 (sg_ref29_span_0 s_1 at_2 words_3 n_4) (q_ref29_span_2 m0)) s_1 at_2 words_3 n_4 := by kernel_rfl
theorem J_ref29_span_0 (m0 : Nat) : ∀ (n : Nat) (s_1 : ByteArray) (at_2 : Int) (words_3 : Bool) (n_4 : Int), evJ E_ref29_span (drE E_ref29_span) n (.loop cd_ref29_span_2) 0 (sg_ref29_span_0 s_1 at_2 words_3 n_4) (q_ref29_span_2 m0) = ref29_span.l0 n s_1 at_2 words_3 n_4 := by
  intro n
  induction n with
  | zero => intros; rfl
  | succ n ih =>
    intro s_1 at_2 words_3 n_4
    have e0 : (fun s_1 at_2 words_3 n_4 => evJ E_ref29_span (drE E_ref29_span) n (.loop cd_ref29_span_2) 0 (sg_ref29_span_0 s_1 at_2 words_3 n_4) (q_ref29_span_2 m0)) = (ref29_span.l0 n) := by funext s_1 at_2 words_3 n_4; exact ih s_1 at_2 words_3 n_4
    refine (st_ref29_span_j0 m0 n s_1 at_2 words_3 n_4).trans ?_
    rw [e0]; rfl
theorem st_ref29_span (m0 : Nat) (s : ByteArray) (xat : Int) (words : Bool) : evC E_ref29_span (evJ E_ref29_span (drE E_ref29_span) m0) (drE E_ref29_span) b_ref29_span 0 (st0 [.val .str, .val (.int .i64), .val .bool] (s, xat, words, ())) (fin E_ref29_span [.tmp 6] 0 [((.int .i64), [])]) = ref29_span.S (fun s_1 at_2 words_3 n_4 => evJ E_ref29_span (drE E_ref29_span) m0 (.loop cd_ref29_span_2) 0 (sg_ref29_span_0 s_1 at_2 words_3 n_4) (q_ref29_span_2 m0)) s xat words := by kernel_rfl
theorem ev_ref29_span (s : ByteArray) (xat : Int) (words : Bool) : evC E_ref29_span (evJ E_ref29_span (drE E_ref29_span) fu) (drE E_ref29_span) b_ref29_span 0 (st0 [.val .str, .val (.int .i64), .val .bool] (s, xat, words, ())) (fin E_ref29_span [.tmp 6] 0 [((.int .i64), [])]) = ref29_span s xat words := by
  have e0 : (fun s_1 at_2 words_3 n_4 => evJ E_ref29_span (drE E_ref29_span) fu (.loop cd_ref29_span_2) 0 (sg_ref29_span_0 s_1 at_2 words_3 n_4) (q_ref29_span_2 fu)) = (ref29_span.l0 fu) := by funext s_1 at_2 words_3 n_4; exact J_ref29_span_0 fu fu s_1 at_2 words_3 n_4
  refine (st_ref29_span fu s xat words).trans ?_
  rw [e0]; rfl
@[reducible] def sp_ref29_span   : AM.Spec := AM.spec [.val .str, .val (.int .i64), .val .bool] [((.int .i64), [])] (fun x => ref29_span x.1 x.2.1 x.2.2.1)
theorem c_ref29_span : Contract Tryz.prog 22 sp_ref29_span :=
  contract_of (Tab.envOk tabOk _ _) calls_ref29_span tabOk.mixed (fn := Tryz.f22) (c := b_ref29_span) (ts := [.tmp 6]) (by kernel_rfl) (by kernel_rfl) (by kernel_rfl) (by decide) (by kernel_rfl) (by decide) rfl fun x _ h => ⟨fu, (ev_ref29_span x.1 x.2.1 x.2.2.1).trans h⟩

/-! peristyle/peristyleref06.digits -/
@[reducible] noncomputable def E_ref06_digits : Env := tab.env (AM.look []) ⟨[(0, ⟨[(0, true), (3, true)], []⟩)], [], [(5, ⟨[(3, true)], []⟩)], ⟨[(2, true)], []⟩, [], []⟩
theorem calls_ref06_digits : CallsOk Tryz.prog E_ref06_digits := callsOk_of trivial
noncomputable def b_ref06_digits : Code := (Tryz.f64.body).getD .skip
noncomputable def sg_ref06_digits_1 (s_3 : ByteArray) : St := mk [(3, .dat .str s_3 [])] []
noncomputable def sg_ref06_digits_0 (n_1 : Int) (s_2 : ByteArray) : St := mk [(0, .dat (.int .i64) n_1 []), (3, .dat .str s_2 [])] []
noncomputable def q_ref06_digits_0 (m0 : Nat) : K (ResD [(.str, [])]) := fin E_ref06_digits [.tmp 2] 0 [(.str, [])]
noncomputable def cd_ref06_digits_1 : Code := (rgt (rgt (rgt b_ref06_digits)))
theorem st_ref06_digits_j1 (m0 : Nat) (n : Nat) (s_3 : ByteArray) : evJ E_ref06_digits (drE E_ref06_digits) (n + 1) (.tail cd_ref06_digits_1) 0 (sg_ref06_digits_1 s_3) (q_ref06_digits_0 m0) = ref06_digits.S1 s_3 := by kernel_rfl
theorem J_ref06_digits_1 (m0 : Nat) : ∀ (n : Nat) (s_3 : ByteArray), evJ E_ref06_digits (drE E_ref06_digits) n (.tail cd_ref06_digits_1) 0 (sg_ref06_digits_1 s_3) (q_ref06_digits_0 m0) = ref06_digits.t1 n s_3 := by
  intro n
  induction n with
  | zero => intros; rfl
  | succ n ih =>
    intro s_3
    have e1 : (fun s_3 => evJ E_ref06_digits (drE E_ref06_digits) n (.tail cd_ref06_digits_1) 0 (sg_ref06_digits_1 s_3) (q_ref06_digits_0 m0)) = (ref06_digits.t1 n) := by funext s_3; exact ih s_3
    refine (st_ref06_digits_j1 m0 n s_3).trans ?_
    rfl
noncomputable def q_ref06_digits_1 (m0 : Nat) : K (ResD [(.str, [])]) := seqK E_ref06_digits (evJ E_ref06_digits (drE E_ref06_digits) m0) cd_ref06_digits_1 0 (evC E_ref06_digits (evJ E_ref06_digits (drE E_ref06_digits) m0) (drE E_ref06_digits) cd_ref06_digits_1 0) (q_ref06_digits_0 m0)
noncomputable def q_ref06_digits_2 (m0 : Nat) : K (ResD [(.str, [])]) := blockK 0 (q_ref06_digits_1 m0)
noncomputable def cd_ref06_digits_2 : Code := (lft (lft (lft (rgt (rgt b_ref06_digits)))))
theorem st_ref06_digits_j0 (m0 : Nat) (n : Nat) (n_1 : Int) (s_2 : ByteArray) : evJ E_ref06_digits (drE E_ref06_digits) (n + 1) (.loop cd_ref06_digits_2) 0 (sg_ref06_digits_0 n_1 s_2) (q_ref06_digits_2 m0) = ref06_digits.S0 (fun s_3 => evJ E_ref06_digits (drE E_ref06_digits) m0 (.tail cd_ref06_digits_1) 0 (sg_ref06_digits_1 s_3) (q_ref06_digits_0 m0)) (fun n_1 s_2 => evJ E_ref06_digits (drE E_ref06_digits) n (.loop cd_ref06_digits_2) 0 (sg_ref06_digits_0 n_1 s_2) (q_ref06_digits_2 m0)) n_1 s_2 := by kernel_rfl
theorem J_ref06_digits_0 (m0 : Nat) : ∀ (n : Nat) (n_1 : Int) (s_2 : ByteArray), evJ E_ref06_digits (drE E_ref06_digits) n (.loop cd_ref06_digits_2) 0 (sg_ref06_digits_0 n_1 s_2) (q_ref06_digits_2 m0) = ref06_digits.l0 (fun s_3 => evJ E_ref06_digits (drE E_ref06_digits) m0 (.tail cd_ref06_digits_1) 0 (sg_ref06_digits_1 s_3) (q_ref06_digits_0 m0)) n n_1 s_2 := by
  intro n
  induction n with
  | zero => intros; rfl
  | succ n ih =>
    intro n_1 s_2
    have e0 : (fun n_1 s_2 => evJ E_ref06_digits (drE E_ref06_digits) n (.loop cd_ref06_digits_2) 0 (sg_ref06_digits_0 n_1 s_2) (q_ref06_digits_2 m0)) = (ref06_digits.l0 (fun s_3 => evJ E_ref06_digits (drE E_ref06_digits) m0 (.tail cd_ref06_digits_1) 0 (sg_ref06_digits_1 s_3) (q_ref06_digits_0 m0)) n) := by funext n_1 s_2; exact ih n_1 s_2
    refine (st_ref06_digits_j0 m0 n n_1 s_2).trans ?_
    rw [e0]; rfl
theorem st_ref06_digits (m0 : Nat) (xn : Int) : evC E_ref06_digits (evJ E_ref06_digits (drE E_ref06_digits) m0) (drE E_ref06_digits) b_ref06_digits 0 (st0 [.val (.int .i64)] (xn, ())) (fin E_ref06_digits [.tmp 2] 0 [(.str, [])]) = ref06_digits.S (fun n_1 s_2 => evJ E_ref06_digits (drE E_ref06_digits) m0 (.loop cd_ref06_digits_2) 0 (sg_ref06_digits_0 n_1 s_2) (q_ref06_digits_2 m0)) xn := by kernel_rfl
theorem ev_ref06_digits (xn : Int) : evC E_ref06_digits (evJ E_ref06_digits (drE E_ref06_digits) fu) (drE E_ref06_digits) b_ref06_digits 0 (st0 [.val (.int .i64)] (xn, ())) (fin E_ref06_digits [.tmp 2] 0 [(.str, [])]) = ref06_digits xn := by
  have e1 : (fun s_3 => evJ E_ref06_digits (drE E_ref06_digits) fu (.tail cd_ref06_digits_1) 0 (sg_ref06_digits_1 s_3) (q_ref06_digits_0 fu)) = (ref06_digits.t1 fu) := by funext s_3; exact J_ref06_digits_1 fu fu s_3
  have e0 : (fun n_1 s_2 => evJ E_ref06_digits (drE E_ref06_digits) fu (.loop cd_ref06_digits_2) 0 (sg_ref06_digits_0 n_1 s_2) (q_ref06_digits_2 fu)) = (ref06_digits.l0 (ref06_digits.t1 fu) fu) := by rw [← e1]; funext n_1 s_2; exact J_ref06_digits_0 fu fu n_1 s_2
  refine (st_ref06_digits fu xn).trans ?_
  rw [e0]; rfl
@[reducible] def sp_ref06_digits   : AM.Spec := AM.spec [.val (.int .i64)] [(.str, [])] (fun x => ref06_digits x.1)
theorem c_ref06_digits : Contract Tryz.prog 64 sp_ref06_digits :=
  contract_of (Tab.envOk tabOk _ _) calls_ref06_digits tabOk.mixed (fn := Tryz.f64) (c := b_ref06_digits) (ts := [.tmp 2]) (by kernel_rfl) (by kernel_rfl) (by kernel_rfl) (by decide) (by kernel_rfl) (by decide) rfl fun x _ h => ⟨fu, (ev_ref06_digits x.1).trans h⟩

/-! peristyle/peristyleref06.Show -/
@[reducible] noncomputable def E_ref06_Show : Env := tab.env (AM.look [(64, sp_ref06_digits)]) ⟨[(1, ⟨[(1, true), (3, true), (4, true)], [(1, true)]⟩)], [], [], ⟨[(2, true)], []⟩, [], [64]⟩
theorem calls_ref06_Show : CallsOk Tryz.prog E_ref06_Show := callsOk_of ⟨⟨c_ref06_digits, Tryz.call64, fun _ => words_spec rfl⟩, trivial⟩
noncomputable def b_ref06_Show : Code := (Tryz.f49.body).getD .skip
noncomputable def sg_ref06_Show_0 (out_3 : (List Int)) (i_4 : Int) (c_5 : (Int × (Int × ByteArray))) : St := mk [(1, .ptr 1 0 0), (3, .dat (.sl (.int .u8)) out_3 [⟨0, 193, 0, 0⟩]), (4, .dat (.int .i64) i_4 [])] [(1, some (.var (.pair (.int .i64) (.pair (.int .i64) .str)) c_5 []))]
noncomputable def q_ref06_Show_0 (m0 : Nat) : K (ResD [(.str, [])]) := fin E_ref06_Show [.tmp 2] 0 [(.str, [])]
noncomputable def cd_ref06_Show_1 : Code := (rgt (rgt b_ref06_Show))
noncomputable def q_ref06_Show_1 (m0 : Nat) : K (ResD [(.str, [])]) := seqK E_ref06_Show (evJ E_ref06_Show (drE E_ref06_Show) m0) cd_ref06_Show_1 0 (evC E_ref06_Show (evJ E_ref06_Show (drE E_ref06_Show) m0) (drE E_ref06_Show) cd_ref06_Show_1 0) (q_ref06_Show_0 m0)
noncomputable def q_ref06_Show_2 (m0 : Nat) : K (ResD [(.str, [])]) := blockK 0 (q_ref06_Show_1 m0)
noncomputable def cd_ref06_Show_2 : Code := (rgt (rgt (lft (rgt (rgt (rgt (rgt (rgt (lft (rgt (lft (rgt b_ref06_Show))))))))))))
noncomputable def q_ref06_Show_3 (m0 : Nat) : K (ResD [(.str, [])]) := seqK E_ref06_Show (evJ E_ref06_Show (drE E_ref06_Show) m0) cd_ref06_Show_2 0 (evC E_ref06_Show (evJ E_ref06_Show (drE E_ref06_Show) m0) (drE E_ref06_Show) cd_ref06_Show_2 0) (q_ref06_Show_2 m0)
noncomputable def q_ref06_Show_4 (m0 : Nat) : K (ResD [(.str, [])]) := blockK 1 (q_ref06_Show_3 m0)
noncomputable def cd_ref06_Show_3 : Code := (lft (lft (rgt (lft (rgt (lft (rgt (rgt (rgt (rgt (rgt (lft (rgt (lft (rgt b_ref06_Show)))))))))))))))
theorem st_ref06_Show_j0 (m0 : Nat) (n : Nat) (out_3 : (List Int)) (i_4 : Int) (c_5 : (Int × (Int × ByteArray))) : evJ E_ref06_Show (drE E_ref06_Show) (n + 1) (.loop cd_ref06_Show_3) 1 (sg_ref06_Show_0 out_3 i_4 c_5) (q_ref06_Show_4 m0) = ref06_Show.S0 (fun out_3 i_4 c_5 => evJ E_ref06_Show (drE E_ref06_Show) n (.loop cd_ref06_Show_3) 1 (sg_ref06_Show_0 out_3 i_4 c_5) (q_ref06_Show_4 m0)) out_3 i_4 c_5 := by kernel_rfl
theorem J_ref06_Show_0 (m0 : Nat) : ∀ (n : Nat) (out_3 : (List Int)) (i_4 : Int) (c_5 : (Int × (Int × ByteArray))), evJ E_ref06_Show (drE E_ref06_Show) n (.loop cd_ref06_Show_3) 1 (sg_ref06_Show_0 out_3 i_4 c_5) (q_ref06_Show_4 m0) = ref06_Show.l0 n out_3 i_4 c_5 := by
  intro n
  induction n with
  | zero => intros; rfl
  | succ n ih =>
    intro out_3 i_4 c_5
    have e0 : (fun out_3 i_4 c_5 => evJ E_ref06_Show (drE E_ref06_Show) n (.loop cd_ref06_Show_3) 1 (sg_ref06_Show_0 out_3 i_4 c_5) (q_ref06_Show_4 m0)) = (ref06_Show.l0 n) := by funext out_3 i_4 c_5; exact ih out_3 i_4 c_5
    refine (st_ref06_Show_j0 m0 n out_3 i_4 c_5).trans ?_
    rw [e0]; rfl
theorem st_ref06_Show (m0 : Nat) (c : (Int × (Int × ByteArray))) : evC E_ref06_Show (evJ E_ref06_Show (drE E_ref06_Show) m0) (drE E_ref06_Show) b_ref06_Show 0 (st0 [.val (.pair (.int .i64) (.pair (.int .i64) .str))] (c, ())) (fin E_ref06_Show [.tmp 2] 0 [(.str, [])]) = ref06_Show.S (fun out_3 i_4 c_5 => evJ E_ref06_Show (drE E_ref06_Show) m0 (.loop cd_ref06_Show_3) 1 (sg_ref06_Show_0 out_3 i_4 c_5) (q_ref06_Show_4 m0)) c := by kernel_rfl
theorem ev_ref06_Show (c : (Int × (Int × ByteArray))) : evC E_ref06_Show (evJ E_ref06_Show (drE E_ref06_Show) fu) (drE E_ref06_Show) b_ref06_Show 0 (st0 [.val (.pair (.int .i64) (.pair (.int .i64) .str))] (c, ())) (fin E_ref06_Show [.tmp 2] 0 [(.str, [])]) = ref06_Show c := by
  have e0 : (fun out_3 i_4 c_5 => evJ E_ref06_Show (drE E_ref06_Show) fu (.loop cd_ref06_Show_3) 1 (sg_ref06_Show_0 out_3 i_4 c_5) (q_ref06_Show_4 fu)) = (ref06_Show.l0 fu) := by funext out_3 i_4 c_5; exact J_ref06_Show_0 fu fu out_3 i_4 c_5
  refine (st_ref06_Show fu c).trans ?_
  rw [e0]; rfl
@[reducible] def sp_ref06_Show   : AM.Spec := AM.spec [.val (.pair (.int .i64) (.pair (.int .i64) .str))] [(.str, [])] (fun x => ref06_Show x.1)
theorem c_ref06_Show : Contract Tryz.prog 49 sp_ref06_Show :=
  contract_of (Tab.envOk tabOk _ _) calls_ref06_Show tabOk.mixed (fn := Tryz.f49) (c := b_ref06_Show) (ts := [.tmp 2]) (by kernel_rfl) (by kernel_rfl) (by kernel_rfl) (by decide) (by kernel_rfl) (by decide) rfl fun x _ h => ⟨fu, (ev_ref06_Show x.1).trans h⟩

/-! peristyle/peristyleref06.number -/
@[reducible] noncomputable def E_ref06_number : Env := tab.env (AM.look [(49, sp_ref06_Show)]) ⟨[(0, ⟨[(0, true), (4, true), (6, true), (7, true)], []⟩)], [], [(5, ⟨[(0, true), (4, true), (5, true)], []⟩), (13, ⟨[(0, true), (4, true), (6, true)], []⟩), (15, ⟨[(0, true), (4, true), (6, true)], []⟩)], ⟨[(2, true), (3, true)], []⟩, [], [49]⟩
theorem calls_ref06_number : CallsOk Tryz.prog E_ref06_number := callsOk_of ⟨⟨c_ref06_Show, Tryz.call49, fun _ => words_spec rfl⟩, trivial⟩
noncomputable def b_ref06_number : Code := (Tryz.f47.body).getD .skip
noncomputable def sg_ref06_number_3 (s_11 : ByteArray) (down_12 : Bool) (n_13 : Int) : St := mk [(0, .dat .str s_11 []), (4, .dat .bool down_12 []), (6, .dat (.int .i64) n_13 [])] []
noncomputable def sg_ref06_number_2 (s_8 : ByteArray) (down_9 : Bool) (n_10 : Int) : St := mk [(0, .dat .str s_8 []), (4, .dat .bool down_9 []), (6, .dat (.int .i64) n_10 [])] []
noncomputable def sg_ref06_number_1 (s_4 : ByteArray) (down_5 : Bool) (n_6 : Int) (i_7 : Int) : St := mk [(0, .dat .str s_4 []), (4, .dat .bool down_5 []), (6, .dat (.int .i64) n_6 []), (7, .dat (.int .i64) i_7 [])] []
noncomputable def sg_ref06_number_0 (s_1 : ByteArray) (down_2 : Bool) (from_3 : Int) : St := mk [(0, .dat .str s_1 []), (4, .dat .bool down_2 []), (5, .dat (.int .i64) from_3 [])] []
noncomputable def q_ref06_number_0 (m0 : Nat) : K (ResD [((.int .i64), []), (.bool, [])]) := fin E_ref06_number [.tmp 2, .tmp 3] 0 [((.int .i64), []), (.bool, [])]
noncomputable def cd_ref06_number_1 : Code := (rgt (rgt (rgt (rgt (rgt (rgt (rgt b_ref06_number)))))))
theorem st_ref06_number_j3 (m0 : Nat) (m1 : Nat) (m2 : Nat) (n : Nat) (s_11 : ByteArray) (down_12 : Bool) (n_13 : Int) : evJ E_ref06_number (drE E_ref06_number) (n + 1) (.tail cd_ref06_number_1) 0 (sg_ref06_number_3 s_11 down_12 n_13) (q_ref06_number_0 m0) = ref06_number.S3 s_11 down_12 n_13 := by kernel_rfl
theorem J_ref06_number_3 (m0 : Nat) (m1 : Nat) (m2 : Nat) : ∀ (n : Nat) (s_11 : ByteArray) (down_12 : Bool) (n_13 : Int), evJ E_ref06_number (drE E_ref06_number) n (.tail cd_ref06_number_1) 0 (sg_ref06_number_3 s_11 down_12 n_13) (q_ref06_number_0 m0) = ref06_number.t3 n s_11 down_12 n_13 := by
  intro n
  induction n with
  | zero => intros; rfl
  | succ n ih =>
    intro s_11 down_12 n_13
    have e3 : (fun s_11 down_12 n_13 => evJ E_ref06_number (drE E_ref06_number) n (.tail cd_ref06_number_1) 0 (sg_ref06_number_3 s_11 down_12 n_13) (q_ref06_number_0 m0)) = (ref06_number.t3 n) := by funext s_11 down_12 n_13; exact ih s_11 down_12 n_13
    refine (st_ref06_number_j3 m0 m1 m2 n s_11 down_12 n_13).trans ?_
    rfl
noncomputable def cd_ref06_number_2 : Code := (rgt (rgt (rgt (rgt (rgt (rgt b_ref06_number))))))
theorem st_ref06_number_j2 (m0 : Nat) (m1 : Nat) (n : Nat) (s_8 : ByteArray) (down_9 : Bool) (n_10 : Int) : evJ E_ref06_number (drE E_ref06_number) (n + 1) (.tail cd_ref06_number_2) 0 (sg_ref06_number_2 s_8 down_9 n_10) (q_ref06_number_0 m0) = ref06_number.S2 (fun s_11 down_12 n_13 => evJ E_ref06_number (drE E_ref06_number) n (.tail cd_ref06_number_1) 0 (sg_ref06_number_3 s_11 down_12 n_13) (q_ref06_number_0 m0)) s_8 down_9 n_10 := by kernel_rfl
theorem J_ref06_number_2 (m0 : Nat) (m1 : Nat) : ∀ (n : Nat) (s_8 : ByteArray) (down_9 : Bool) (n_10 : Int), evJ E_ref06_number (drE E_ref06_number) n (.tail cd_ref06_number_2) 0 (sg_ref06_number_2 s_8 down_9 n_10) (q_ref06_number_0 m0) = ref06_number.t2 n s_8 down_9 n_10 := by
  intro n
  induction n with
  | zero => intros; rfl
  | succ n ih =>
    intro s_8 down_9 n_10
    have e2 : (fun s_8 down_9 n_10 => evJ E_ref06_number (drE E_ref06_number) n (.tail cd_ref06_number_2) 0 (sg_ref06_number_2 s_8 down_9 n_10) (q_ref06_number_0 m0)) = (ref06_number.t2 n) := by funext s_8 down_9 n_10; exact ih s_8 down_9 n_10
    have e3 : (fun s_11 down_12 n_13 => evJ E_ref06_number (drE E_ref06_number) n (.tail cd_ref06_number_1) 0 (sg_ref06_number_3 s_11 down_12 n_13) (q_ref06_number_0 m0)) = (ref06_number.t3 n) := by funext s_11 down_12 n_13; exact J_ref06_number_3 m0 m1 n n s_11 down_12 n_13
    refine (st_ref06_number_j2 m0 m1 n s_8 down_9 n_10).trans ?_
    rw [e3]; rfl
noncomputable def q_ref06_number_1 (m0 : Nat) (m1 : Nat) : K (ResD [((.int .i64), []), (.bool, [])]) := seqK E_ref06_number (evJ E_ref06_number (drE E_ref06_number) m1) cd_ref06_number_2 0 (evC E_ref06_number (evJ E_ref06_number (drE E_ref06_number) m1) (drE E_ref06_number) cd_ref06_number_2 0) (q_ref06_number_0 m0)
noncomputable def q_ref06_number_2 (m0 : Nat) (m1 : Nat) : K (ResD [((.int .i64), []), (.bool, [])]) := blockK 0 (q_ref06_number_1 m0 m1)
noncomputable def cd_ref06_number_3 : Code := (lft (lft (rgt (lft (rgt (rgt (rgt (rgt (rgt b_ref06_number)))))))))
theorem st_ref06_number_j1 (m0 : Nat) (m1 : Nat) (n : Nat) (s_4 : ByteArray) (down_5 : Bool) (n_6 : Int) (i_7 : Int) : evJ E_ref06_number (drE E_ref06_number) (n + 1) (.loop cd_ref06_number_3) 0 (sg_ref06_number_1 s_4 down_5 n_6 i_7) (q_ref06_number_2 m0 m1) = ref06_number.S1 (fun s_8 down_9 n_10 => evJ E_ref06_number (drE E_ref06_number) m1 (.tail cd_ref06_number_2) 0 (sg_ref06_number_2 s_8 down_9 n_10) (q_ref06_number_0 m0)) (fun s_4 down_5 n_6 i_7 => evJ E_ref06_number (drE E_ref06_number) n (.loop cd_ref06_number_3) 0 (sg_ref06_number_1 s_4 down_5 n_6 i_7) (q_ref06_number_2 m0 m1)) s_4 down_5 n_6 i_7 := by kernel_rfl
theorem J_ref06_number_1 (m0 : Nat) (m1 : Nat) : ∀ (n : Nat) (s_4 : ByteArray) (down_5 : Bool) (n_6 : Int) (i_7 : Int), evJ E_ref06_number (drE E_ref06_number) n (.loop cd_ref06_number_3) 0 (sg_ref06_number_1 s_4 down_5 n_6 i_7) (q_ref06_number_2 m0 m1) = ref06_number.l1 (fun s_8 down_9 n_10 => evJ E_ref06_number (drE E_ref06_number) m1 (.tail cd_ref06_number_2) 0 (sg_ref06_number_2 s_8 down_9 n_10) (q_ref06_number_0 m0)) n s_4 down_5 n_6 i_7 := by
  intro n
  induction n with
  | zero => intros; rfl
  | succ n ih =>
    intro s_4 down_5 n_6 i_7
    have e1 : (fun s_4 down_5 n_6 i_7 => evJ E_ref06_number (drE E_ref06_number) n (.loop cd_ref06_number_3) 0 (sg_ref06_number_1 s_4 down_5 n_6 i_7) (q_ref06_number_2 m0 m1)) = (ref06_number.l1 (fun s_8 down_9 n_10 => evJ E_ref06_number (drE E_ref06_number) m1 (.tail cd_ref06_number_2) 0 (sg_ref06_number_2 s_8 down_9 n_10) (q_ref06_number_0 m0)) n) := by funext s_4 down_5 n_6 i_7; exact ih s_4 down_5 n_6 i_7
    refine (st_ref06_number_j1 m0 m1 n s_4 down_5 n_6 i_7).trans ?_
    rw [e1]; rfl
noncomputable def cd_ref06_number_4 : Code := (rgt (rgt (rgt (rgt b_ref06_number))))
theorem st_ref06_number_j0 (m0 : Nat) (n : Nat) (s_1 : ByteArray) (down_2 : Bool) (from_3 : Int) : evJ E_ref06_number (drE E_ref06_number) (n + 1) (.tail cd_ref06_number_4) 0 (sg_ref06_number_0 s_1 down_2 from_3) (q_ref06_number_0 m0) = ref06_number.S0 (fun s_4 down_5 n_6 i_7 => evJ E_ref06_number (drE E_ref06_number) n (.loop cd_ref06_number_3) 0 (sg_ref06_number_1 s_4 down_5 n_6 i_7) (q_ref06_number_2 m0 n)) s_1 down_2 from_3 := by kernel_rfl
theorem J_ref06_number_0 (m0 : Nat) : ∀ (n : Nat) (s_1 : ByteArray) (down_2 : Bool) (from_3 : Int), evJ E_ref06_number (drE E_ref06_number) n (.tail cd_ref06_number_4) 0 (sg_ref06_number_0 s_1 down_2 from_3) (q_ref06_number_0 m0) = ref06_number.t0 n s_1 down_2 from_3 := by
  intro n
  induction n with
  | zero => intros; rfl
  | succ n ih =>
    intro s_1 down_2 from_3
    have e0 : (fun s_1 down_2 from_3 => evJ E_ref06_number (drE E_ref06_number) n (.tail cd_ref06_number_4) 0 (sg_ref06_number_0 s_1 down_2 from_3) (q_ref06_number_0 m0)) = (ref06_number.t0 n) := by funext s_1 down_2 from_3; exact ih s_1 down_2 from_3
    have e2 : (fun s_8 down_9 n_10 => evJ E_ref06_number (drE E_ref06_number) n (.tail cd_ref06_number_2) 0 (sg_ref06_number_2 s_8 down_9 n_10) (q_ref06_number_0 m0)) = (ref06_number.t2 n) := by funext s_8 down_9 n_10; exact J_ref06_number_2 m0 n n s_8 down_9 n_10
    have e1 : (fun s_4 down_5 n_6 i_7 => evJ E_ref06_number (drE E_ref06_number) n (.loop cd_ref06_number_3) 0 (sg_ref06_number_1 s_4 down_5 n_6 i_7) (q_ref06_number_2 m0 n)) = (ref06_number.l1 (ref06_number.t2 n) n) := by rw [← e2]; funext s_4 down_5 n_6 i_7; exact J_ref06_number_1 m0 n n s_4 down_5 n_6 i_7
    refine (st_ref06_number_j0 m0 n s_1 down_2 from_3).trans ?_
    rw [e1]; rfl
theorem st_ref06_number (m0 : Nat) (s : ByteArray) : evC E_ref06_number (evJ E_ref06_number (drE E_ref06_number) m0) (drE E_ref06_number) b_ref06_number 0 (st0 [.val .str] (s, ())) (fin E_ref06_number [.tmp 2, .tmp 3] 0 [((.int .i64), []), (.bool, [])]) = ref06_number.S (fun s_1 down_2 from_3 => evJ E_ref06_number (drE E_ref06_number) m0 (.tail cd_ref06_number_4) 0 (sg_ref06_number_0 s_1 down_2 from_3) (q_ref06_number_0 m0)) s := by kernel_rfl
theorem ev_ref06_number (s : ByteArray) : evC E_ref06_number (evJ E_ref06_number (drE E_ref06_number) fu) (drE E_ref06_number) b_ref06_number 0 (st0 [.val .str] (s, ())) (fin E_ref06_number [.tmp 2, .tmp 3] 0 [((.int .i64), []), (.bool, [])]) = ref06_number s := by
  have e0 : (fun s_1 down_2 from_3 => evJ E_ref06_number (drE E_ref06_number) fu (.tail cd_ref06_number_4) 0 (sg_ref06_number_0 s_1 down_2 from_3) (q_ref06_number_0 fu)) = (ref06_number.t0 fu) := by funext s_1 down_2 from_3; exact J_ref06_number_0 fu fu s_1 down_2 from_3
  refine (st_ref06_number fu s).trans ?_
  rw [e0]; rfl
@[reducible] def sp_ref06_number   : AM.Spec := AM.spec [.val .str] [((.int .i64), []), (.bool, [])] (fun x => ref06_number x.1)
theorem c_ref06_number : Contract Tryz.prog 47 sp_ref06_number :=
  contract_of (Tab.envOk tabOk _ _) calls_ref06_number tabOk.mixed (fn := Tryz.f47) (c := b_ref06_number) (ts := [.tmp 2, .tmp 3]) (by kernel_rfl) (by kernel_rfl) (by kernel_rfl) (by decide) (by kernel_rfl) (by decide) rfl fun x _ h => ⟨fu, (ev_ref06_number x.1).trans h⟩

/-! peristyle/peristyleref06.May -/
@[reducible] noncomputable def E_ref06_May : Env := tab.env (AM.look []) ⟨[], [], [], ⟨[(2, true)], []⟩, [], []⟩
theorem calls_ref06_May : CallsOk Tryz.prog E_ref06_May := callsOk_of trivial
noncomputable def b_ref06_May : Code := (Tryz.f48.body).getD .skip
theorem st_ref06_May_o (m0 : Nat) (c : (Int × (Int × ByteArray))) : evC E_ref06_May (evJ E_ref06_May (drE E_ref06_May) m0) (drE E_ref06_May) b_ref06_May 0 (st0 [.val (.pair (.int .i64) (.pair (.int .i64) .str))] (c, ())) (fin E_ref06_May [.tmp 2] 0 [(.bool, [])]) = ref06_May.o c := by kernel_rfl
theorem st_ref06_May (m0 : Nat) (c : (Int × (Int × ByteArray))) : evC E_ref06_May (evJ E_ref06_May (drE E_ref06_May) m0) (drE E_ref06_May) b_ref06_May 0 (st0 [.val (.pair (.int .i64) (.pair (.int .i64) .str))] (c, ())) (fin E_ref06_May [.tmp 2] 0 [(.bool, [])]) = some (ref06_May c) := (st_ref06_May_o m0 c).trans (by unfold ref06_May.o ref06_May; simp only [cond_some])
theorem ev_ref06_May (c : (Int × (Int × ByteArray))) : evC E_ref06_May (evJ E_ref06_May (drE E_ref06_May) fu) (drE E_ref06_May) b_ref06_May 0 (st0 [.val (.pair (.int .i64) (.pair (.int .i64) .str))] (c, ())) (fin E_ref06_May [.tmp 2] 0 [(.bool, [])]) = some (ref06_May c) := st_ref06_May fu c
@[reducible] def sp_ref06_May   : AM.Spec := AM.spec [.val (.pair (.int .i64) (.pair (.int .i64) .str))] [(.bool, [])] (fun x => some (ref06_May x.1))
theorem c_ref06_May : Contract Tryz.prog 48 sp_ref06_May :=
  contract_of (Tab.envOk tabOk _ _) calls_ref06_May tabOk.mixed (fn := Tryz.f48) (c := b_ref06_May) (ts := [.tmp 2]) (by kernel_rfl) (by kernel_rfl) (by kernel_rfl) (by decide) (by kernel_rfl) (by decide) rfl fun x _ h => ⟨fu, (ev_ref06_May x.1).trans h⟩

/-! peristyle/peristyleref06.Read -/
@[reducible] noncomputable def E_ref06_Read : Env := tab.env (AM.look [(47, sp_ref06_number), (48, sp_ref06_May), (49, sp_ref06_Show)]) ⟨[(0, ⟨[(0, true), (2, true), (6, true), (7, true)], [(2, true)]⟩)], [], [(15, ⟨[(0, true), (2, true), (6, true)], [(2, true)]⟩)], ⟨[(2, true), (3, true)], [(2, true)]⟩, [], [47, 48, 49]⟩
theorem calls_ref06_Read : CallsOk Tryz.prog E_ref06_Read := callsOk_of ⟨⟨c_ref06_number, Tryz.call47, fun _ => words_spec rfl⟩, ⟨⟨c_ref06_May, Tryz.call48, fun _ => words_spec rfl⟩, ⟨⟨c_ref06_Show, Tryz.call49, fun _ => words_spec rfl⟩, trivial⟩⟩⟩
noncomputable def b_ref06_Read : Code := (Tryz.f34.body).getD .skip
noncomputable def sg_ref06_Read_1 (s_6 : ByteArray) (out_7 : (List Int)) (t2_8 : (Int × (Int × ByteArray))) : St := mk [(0, .dat .str s_6 []), (2, .ptr 2 0 0), (6, .dat (.sl (.int .u8)) out_7 [⟨0, 385, 0, 0⟩])] [(2, some (.var (.pair (.int .i64) (.pair (.int .i64) .str)) t2_8 []))]
noncomputable def sg_ref06_Read_0 (s_2 : ByteArray) (out_3 : (List Int)) (i_4 : Int) (t2_5 : (Int × (Int × ByteArray))) : St := mk [(0, .dat .str s_2 []), (2, .ptr 2 0 0), (6, .dat (.sl (.int .u8)) out_3 [⟨0, 385, 0, 0⟩]), (7, .dat (.int .i64) i_4 [])] [(2, some (.var (.pair (.int .i64) (.pair (.int .i64) .str)) t2_5 []))]
noncomputable def q_ref06_Read_0 (m0 : Nat) : K (ResD [((.pair (.int .i64) (.pair (.int .i64) .str)), []), ((.int .i64), [])]) := fin E_ref06_Read [.cell 2 53, .tmp 3] 0 [((.pair (.int .i64) (.pair (.int .i64) .str)), []), ((.int .i64), [])]
noncomputable def cd_ref06_Read_1 : Code := (rgt (rgt (rgt (rgt (rgt (rgt b_ref06_Read))))))
theorem st_ref06_Read_j1 (m0 : Nat) (n : Nat) (s_6 : ByteArray) (out_7 : (List Int)) (t2_8 : (Int × (Int × ByteArray))) : evJ E_ref06_Read (drE E_ref06_Read) (n + 1) (.tail cd_ref06_Read_1) 0 (sg_ref06_Read_1 s_6 out_7 t2_8) (q_ref06_Read_0 m0) = ref06_Read.S1 s_6 out_7 t2_8 := by kernel_rfl
theorem J_ref06_Read_1 (m0 : Nat) : ∀ (n : Nat) (s_6 : ByteArray) (out_7 : (List Int)) (t2_8 : (Int × (Int × ByteArray))), evJ E_ref06_Read (drE E_ref06_Read) n (.tail cd_ref06_Read_1) 0 (sg_ref06_Read_1 s_6 out_7 t2_8) (q_ref06_Read_0 m0) = ref06_Read.t1 n s_6 out_7 t2_8 := by
  intro n
  induction n with
  | zero => intros; rfl
  | succ n ih =>
    intro s_6 out_7 t2_8
    have e1 : (fun s_6 out_7 t2_8 => evJ E_ref06_Read (drE E_ref06_Read) n (.tail cd_ref06_Read_1) 0 (sg_ref06_Read_1 s_6 out_7 t2_8) (q_ref06_Read_0 m0)) = (ref06_Read.t1 n) := by funext s_6 out_7 t2_8; exact ih s_6 out_7 t2_8
    refine (st_ref06_Read_j1 m0 n s_6 out_7 t2_8).trans ?_
    rfl
noncomputable def q_ref06_Read_1 (m0 : Nat) : K (ResD [((.pair (.int .i64) (.pair (.int .i64) .str)), []), ((.int .i64), [])]) := seqK E_ref06_Read (evJ E_ref06_Read (drE E_ref06_Read) m0) cd_ref06_Read_1 0 (evC E_ref06_Read (evJ E_ref06_Read (drE E_ref06_Read) m0) (drE E_ref06_Read) cd_ref06_Read_1 0) (q_ref06_Read_0 m0)
noncomputable def q_ref06_Read_2 (m0 : Nat) : K (ResD [((.pair (.int .i64) (.pair (.int .i64) .str)), []), ((.int .i64), [])]) := blockK 0 (q_ref06_Read_1 m0)
noncomputable def cd_ref06_Read_2 : Code := (lft (lft (rgt (lft (rgt (rgt (rgt (rgt (rgt b_ref06_Read)))))))))
theorem st_ref06_Read_j0 (m0 : Nat) (n : Nat) (s_2 : ByteArray) (out_3 : (List Int)) (i_4 : Int) (t2_5 : (Int × (Int × ByteArray))) : evJ E_ref06_Read (drE E_ref06_Read) (n + 1) (.loop cd_ref06_Read_2) 0 (sg_ref06_Read_0 s_2 out_3 i_4 t2_5) (q_ref06_Read_2 m0) = ref06_Read.S0 (fun s_6 out_7 t2_8 => evJ E_ref06_Read (drE E_ref06_Read) m0 (.tail cd_ref06_Read_1) 0 (sg_ref06_Read_1 s_6 out_7 t2_8) (q_ref06_Read_0 m0)) (fun s_2 out_3 i_4 t2_5 => evJ E_ref06_Read (drE E_ref06_Read) n (.loop cd_ref06_Read_2) 0 (sg_ref06_Read_0 s_2 out_3 i_4 t2_5) (q_ref06_Read_2 m0)) s_2 out_3 i_4 t2_5 := by kernel_rfl
theorem J_ref06_Read_0 (m0 : Nat) : ∀ (n : Nat) (s_2 : ByteArray) (out_3 : (List Int)) (i_4 : Int) (t2_5 : (Int × (Int × ByteArray))), evJ E_ref06_Read (drE E_ref06_Read) n (.loop cd_ref06_Read_2) 0 (sg_ref06_Read_0 s_2 out_3 i_4 t2_5) (q_ref06_Read_2 m0) = ref06_Read.l0 (fun s_6 out_7 t2_8 => evJ E_ref06_Read (drE E_ref06_Read) m0 (.tail cd_ref06_Read_1) 0 (sg_ref06_Read_1 s_6 out_7 t2_8) (q_ref06_Read_0 m0)) n s_2 out_3 i_4 t2_5 := by
  intro n
  induction n with
  | zero => intros; rfl
  | succ n ih =>
    intro s_2 out_3 i_4 t2_5
    have e0 : (fun s_2 out_3 i_4 t2_5 => evJ E_ref06_Read (drE E_ref06_Read) n (.loop cd_ref06_Read_2) 0 (sg_ref06_Read_0 s_2 out_3 i_4 t2_5) (q_ref06_Read_2 m0)) = (ref06_Read.l0 (fun s_6 out_7 t2_8 => evJ E_ref06_Read (drE E_ref06_Read) m0 (.tail cd_ref06_Read_1) 0 (sg_ref06_Read_1 s_6 out_7 t2_8) (q_ref06_Read_0 m0)) n) := by funext s_2 out_3 i_4 t2_5; exact ih s_2 out_3 i_4 t2_5
    refine (st_ref06_Read_j0 m0 n s_2 out_3 i_4 t2_5).trans ?_
    rw [e0]; rfl
theorem st_ref06_Read (m0 : Nat) (s : ByteArray) : evC E_ref06_Read (evJ E_ref06_Read (drE E_ref06_Read) m0) (drE E_ref06_Read) b_ref06_Read 0 (st0 [.val .str] (s, ())) (fin E_ref06_Read [.cell 2 53, .tmp 3] 0 [((.pair (.int .i64) (.pair (.int .i64) .str)), []), ((.int .i64), [])]) = ref06_Read.S (fun s_2 out_3 i_4 t2_5 => evJ E_ref06_Read (drE E_ref06_Read) m0 (.loop cd_ref06_Read_2) 0 (sg_ref06_Read_0 s_2 out_3 i_4 t2_5) (q_ref06_Read_2 m0)) s := by kernel_rfl
theorem ev_ref06_Read (s : ByteArray) : evC E_ref06_Read (evJ E_ref06_Read (drE E_ref06_Read) fu) (drE E_ref06_Read) b_ref06_Read 0 (st0 [.val .str] (s, ())) (fin E_ref06_Read [.cell 2 53, .tmp 3] 0 [((.pair (.int .i64) (.pair (.int .i64) .str)), []), ((.int .i64), [])]) = ref06_Read s := by
  have e1 : (fun s_6 out_7 t2_8 => evJ E_ref06_Read (drE E_ref06_Read) fu (.tail cd_ref06_Read_1) 0 (sg_ref06_Read_1 s_6 out_7 t2_8) (q_ref06_Read_0 fu)) = (ref06_Read.t1 fu) := by funext s_6 out_7 t2_8; exact J_ref06_Read_1 fu fu s_6 out_7 t2_8
  have e0 : (fun s_2 out_3 i_4 t2_5 => evJ E_ref06_Read (drE E_ref06_Read) fu (.loop cd_ref06_Read_2) 0 (sg_ref06_Read_0 s_2 out_3 i_4 t2_5) (q_ref06_Read_2 fu)) = (ref06_Read.l0 (ref06_Read.t1 fu) fu) := by rw [← e1]; funext s_2 out_3 i_4 t2_5; exact J_ref06_Read_0 fu fu s_2 out_3 i_4 t2_5
  refine (st_ref06_Read fu s).trans ?_
  rw [e0]; rfl
@[reducible] def sp_ref06_Read   : AM.Spec := AM.spec [.val .str] [((.pair (.int .i64) (.pair (.int .i64) .str)), []), ((.int .i64), [])] (fun x => ref06_Read x.1)
theorem c_ref06_Read : Contract Tryz.prog 34 sp_ref06_Read :=
  contract_of (Tab.envOk tabOk _ _) calls_ref06_Read tabOk.mixed (fn := Tryz.f34) (c := b_ref06_Read) (ts := [.cell 2 53, .tmp 3]) (by kernel_rfl) (by kernel_rfl) (by kernel_rfl) (by decide) (by kernel_rfl) (by decide) rfl fun x _ h => ⟨fu, (ev_ref06_Read x.1).trans h⟩

/-! peristyle/peristyleref29.number -/
@[reducible] noncomputable def E_ref29_number : Env := tab.env (AM.look [(22, sp_ref29_span), (34, sp_ref06_Read)]) ⟨[(0, ⟨[(0, true), (1, true), (4, true), (6, true), (7, true), (8, true)], [(4, true)]⟩)], [], [(4, ⟨[(0, true), (1, true), (4, true), (6, true)], [(4, true)]⟩), (10, ⟨[(0, true), (1, true), (4, true), (6, true), (7, true), (8, true)], [(4, true)]⟩), (13, ⟨[(1, true), (4, true), (6, true), (7, true), (9, true)], [(4, true)]⟩)], ⟨[(4, true), (5, true)], [(4, true)]⟩, [], [22, 34]⟩
theorem calls_ref29_number : CallsOk Tryz.prog E_ref29_number := callsOk_of ⟨⟨c_ref29_span, Tryz.call22, fun _ => words_spec rfl⟩, ⟨⟨c_ref06_Read, Tryz.call34, fun _ => words_spec rfl⟩, trivial⟩⟩
noncomputable def b_ref29_number : Code := (Tryz.f24.body).getD .skip
noncomputable def sg_ref29_number_3 (at_18 : Int) (from_19 : Int) (n_20 : Int) (t_21 : ByteArray) (t4_22 : (Int × (ByteArray × (Int × Int)))) : St := mk [(1, .dat (.int .i64) at_18 []), (4, .ptr 4 0 0), (6, .dat (.int .i64) from_19 []), (7, .dat (.int .i64) n_20 []), (9, .dat .str t_21 [])] [(4, some (.var (.pair (.int .i64) (.pair .str (.pair (.int .i64) (.int .i64)))) t4_22 []))]
noncomputable def sg_ref29_number_2 (s_12 : ByteArray) (at_13 : Int) (from_14 : Int) (n_15 : Int) (first_16 : Int) (t4_17 : (Int × (ByteArray × (Int × Int)))) : St := mk [(0, .dat .str s_12 []), (1, .dat (.int .i64) at_13 []), (4, .ptr 4 0 0), (6, .dat (.int .i64) from_14 []), (7, .dat (.int .i64) n_15 []), (8, .dat (.int .i64) first_16 [])] [(4, some (.var (.pair (.int .i64) (.pair .str (.pair (.int .i64) (.int .i64)))) t4_17 []))]
noncomputable def sg_ref29_number_1 (s_6 : ByteArray) (at_7 : Int) (from_8 : Int) (n_9 : Int) (first_10 : Int) (t4_11 : (Int × (ByteArray × (Int × Int)))) : St := mk [(0, .dat .str s_6 []), (1, .dat (.int .i64) at_7 []), (4, .ptr 4 0 0), (6, .dat (.int .i64) from_8 []), (7, .dat (.int .i64) n_9 []), (8, .dat (.int .i64) first_10 [])] [(4, some (.var (.pair (.int .i64) (.pair .str (.pair (.int .i64) (.int .i64)))) t4_11 []))]
noncomputable def sg_ref29_number_0 (s_1 : ByteArray) (at_2 : Int) (from_3 : Int) (t4_4 : (Int × (ByteArray × (Int × Int)))) : St := mk [(0, .dat .str s_1 []), (1, .dat (.int .i64) at_2 []), (4, .ptr 4 0 0), (6, .dat (.int .i64) from_3 [])] [(4, some (.var (.pair (.int .i64) (.pair .str (.pair (.int .i64) (.int .i64)))) t4_4 []))]
noncomputable def q_ref29_number_0 (m0 : Nat) : K (ResD [((.pair (.int .i64) (.pair .str (.pair (.int .i64) (.int .i64)))), []), ((.int .i64), [])]) := fin E_ref29_number [.cell 4 30, .tmp 5] 0 [((.pair (.int .i64) (.pair .str (.pair (.int .i64) (.int .i64)))), []), ((.int .i64), [])]
noncomputable def cd_ref29_number_1 : Code := (rgt (rgt (rgt (rgt (rgt (rgt (rgt (rgt (rgt b_ref29_number)))))))))
theorem st_ref29_number_j3 (m0 : Nat) (m1 : Nat) (m2 : Nat) (n : Nat) (at_18 : Int) (from_19 : Int) (n_20 : Int) (t_21 : ByteArray) (t4_22 : (Int × (ByteArray × (Int × Int)))) : evJ E_ref29_number (drE E_ref29_number) (n + 1) (.tail cd_ref29_number_1) 0 (sg_ref29_number_3 at_18 from_19 n_20 t_21 t4_22) (q_ref29_number_0 m0) = ref29_number.S3 at_18 from_19 n_20 t_21 t4_22 := by kernel_rfl
theorem J_ref29_number_3 (m0 : Nat) (m1 : Nat) (m2 : Nat) : ∀ (n : Nat) (at_18 : Int) (from_19 : Int) (n_20 : Int) (t_21 : ByteArray) (t4_22 : (Int × (ByteArray × (Int × Int)))), evJ E_ref29_number (drE E_ref29_number) n (.tail cd_ref29_number_1) 0 (sg_ref29_number_3 at_18 from_19 n_20 t_21 t4_22) (q_ref29_number_0 m0) = ref29_number.t3 n at_18 from_19 n_20 t_21 t4_22 := by
  intro n
  induction n with
  | zero => intros; rfl
  | succ n ih =>
    intro at_18 from_19 n_20 t_21 t4_22
    have e3 : (fun at_18 from_19 n_20 t_21 t4_22 => evJ E_ref29_number (drE E_ref29_number) n (.tail cd_ref29_number_1) 0 (sg_ref29_number_3 at_18 from_19 n_20 t_21 t4_22) (q_ref29_number_0 m0)) = (ref29_number.t3 n) := by funext at_18 from_19 n_20 t_21 t4_22; exact ih at_18 from_19 n_20 t_21 t4_22
    refine (st_ref29_number_j3 m0 m1 m2 n at_18 from_19 n_20 t_21 t4_22).trans ?_
    rfl
noncomputable def cd_ref29_number_2 : Code := (rgt (rgt (rgt (rgt (rgt (rgt (rgt b_ref29_number)))))))
theorem st_ref29_number_j2 (m0 : Nat) (m1 : Nat) (n : Nat) (s_12 : ByteArray) (at_13 : Int) (from_14 : Int) (n_15 : Int) (first_16 : Int) (t4_17 : (Int × (ByteArray × (Int × Int)))) : evJ E_ref29_number (drE E_ref29_number) (n + 1) (.tail cd_ref29_number_2) 0 (sg_ref29_number_2 s_12 at_13 from_14 n_15 first_16 t4_17) (q_ref29_number_0 m0) = ref29_number.S2 (fun at_18 from_19 n_20 t_21 t4_22 => evJ E_ref29_number (drE E_ref29_number) n (.tail cd_ref29_number_1) 0 (sg_ref29_number_3 at_18 from_19 n_20 t_21 t4_22) (q_ref29_number_0 m0)) s_12 at_13 from_14 n_15 first_16 t4_17 := by kernel_rfl
theorem J_ref29_number_2 (m0 : Nat) (m1 : Nat) : ∀ (n : Nat) (s_12 : ByteArray) (at_13 : Int) (from_14 : Int) (n_15 : Int) (first_16 : Int) (t4_17 : (Int × (ByteArray × (Int × Int)))), evJ E_ref29_number (drE E_ref29_number) n (.tail cd_ref29_number_2) 0 (sg_ref29_number_2 s_12 at_13 from_14 n_15 first_16 t4_17) (q_ref29_number_0 m0) = ref29_number.t2 n s_12 at_13 from_14 n_15 first_16 t4_17 := by
  intro n
  induction n with
  | zero => intros; rfl
  | succ n ih =>
    intro s_12 at_13 from_14 n_15 first_16 t4_17
    have e2 : (fun s_12 at_13 from_14 n_15 first_16 t4_17 => evJ E_ref29_number (drE E_ref29_number) n (.tail cd_ref29_number_2) 0 (sg_ref29_number_2 s_12 at_13 from_14 n_15 first_16 t4_17) (q_ref29_number_0 m0)) = (ref29_number.t2 n) := by funext s_12 at_13 from_14 n_15 first_16 t4_17; exact ih s_12 at_13 from_14 n_15 first_16 t4_17
    have e3 : (fun at_18 from_19 n_20 t_21 t4_22 => evJ E_ref29_number (drE E_ref29_number) n (.tail cd_ref29_number_1) 0 (sg_ref29_number_3 at_18 from_19 n_20 t_21 t4_22) (q_ref29_number_0 m0)) = (ref29_number.t3 n) := by funext at_18 from_19 n_20 t_21 t4_22; exact J_ref29_number_3 m0 m1 n n at_18 from_19 n_20 t_21 t4_22
    refine (st_ref29_number_j2 m0 m1 n s_12 at_13 from_14 n_15 first_16 t4_17).trans ?_
    rw [e3]; rfl
noncomputable def q_ref29_number_1 (m0 : Nat) (m1 : Nat) : K (ResD [((.pair (.int .i64) (.pair .str (.pair (.int .i64) (.int .i64)))), []), ((.int .i64), [])]) := seqK E_ref29_number (evJ E_ref29_number (drE E_ref29_number) m1) cd_ref29_number_2 0 (evC E_ref29_number (evJ E_ref29_number (drE E_ref29_number) m1) (drE E_ref29_number) cd_ref29_number_2 0) (q_ref29_number_0 m0)
noncomputable def q_ref29_number_2 (m0 : Nat) (m1 : Nat) : K (ResD [((.pair (.int .i64) (.pair .str (.pair (.int .i64) (.int .i64)))), []), ((.int .i64), [])]) := blockK 0 (q_ref29_number_1 m0 m1)
noncomputable def cd_ref29_number_3 : Code := (lft (lft (lft (rgt (rgt (rgt (rgt (rgt (rgt b_ref29_number)))))))))
theorem st_ref29_number_j1 (m0 : Nat) (m1 : Nat) (n : Nat) (s_6 : ByteArray) (at_7 : Int) (from_8 : Int) (n_9 : Int) (first_10 : Int) (t4_11 : (Int × (ByteArray × (Int × Int)))) : evJ E_ref29_number (drE E_ref29_number) (n + 1) (.loop cd_ref29_number_3) 0 (sg_ref29_number_1 s_6 at_7 from_8 n_9 first_10 t4_11) (q_ref29_number_2 m0 m1) = ref29_number.S1 (fun s_12 at_13 from_14 n_15 first_16 t4_17 => evJ E_ref29_number (drE E_ref29_number) m1 (.tail cd_ref29_number_2) 0 (sg_ref29_number_2 s_12 at_13 from_14 n_15 first_16 t4_17) (q_ref29_number_0 m0)) (fun s_6 at_7 from_8 n_9 first_10 t4_11 => evJ E_ref29_number (drE E_ref29_number) n (.loop cd_ref29_number_3) 0 (sg_ref29_number_1 s_6 at_7 from_8 n_9 first_10 t4_11) (q_ref29_number_2 m0 m1)) s_6 at_7 from_8 n_9 first_10 t4_11 := by kernel_rfl
theorem J_ref29_number_1 (m0 : Nat) (m1 : Nat) : ∀ (n : Nat) (s_6 : ByteArray) (at_7 : Int) (from_8 : Int) (n_9 : Int) (first_10 : Int) (t4_11 : (Int × (ByteArray × (Int × Int)))), evJ E_ref29_number (drE E_ref29_number) n (.loop cd_ref29_number_3) 0 (sg_ref29_number_1 s_6 at_7 from_8 n_9 first_10 t4_11) (q_ref29_number_2 m0 m1) = ref29_number.l1 (fun s_12 at_13 from_14 n_15 first_16 t4_17 => evJ E_ref29_number (drE E_ref29_number) m1 (.tail cd_ref29_number_2) 0 (sg_ref29_number_2 s_12 at_13 from_14 n_15 first_16 t4_17) (q_ref29_number_0 m0)) n s_6 at_7 from_8 n_9 first_10 t4_11 := by
  intro n
  induction n with
  | zero => intros; rfl
  | succ n ih =>
    intro s_6 at_7 from_8 n_9 first_10 t4_11
    have e1 : (fun s_6 at_7 from_8 n_9 first_10 t4_11 => evJ E_ref29_number (drE E_ref29_number) n (.loop cd_ref29_number_3) 0 (sg_ref29_number_1 s_6 at_7 from_8 n_9 first_10 t4_11) (q_ref29_number_2 m0 m1)) = (ref29_number.l1 (fun s_12 at_13 from_14 n_15 first_16 t4_17 => evJ E_ref29_number (drE E_ref29_number) m1 (.tail cd_ref29_number_2) 0 (sg_ref29_number_2 s_12 at_13 from_14 n_15 first_16 t4_17) (q_ref29_number_0 m0)) n) := by funext s_6 at_7 from_8 n_9 first_10 t4_11; exact ih s_6 at_7 from_8 n_9 first_10 t4_11
    refine (st_ref29_number_j1 m0 m1 n s_6 at_7 from_8 n_9 first_10 t4_11).trans ?_
    rw [e1]; rfl
noncomputable def cd_ref29_number_4 : Code := (rgt (rgt (rgt b_ref29_number)))
theorem st_ref29_number_j0 (m0 : Nat) (n : Nat) (s_1 : ByteArray) (at_2 : Int) (from_3 : Int) (t4_4 : (Int × (ByteArray × (Int × Int)))) : evJ E_ref29_number (drE E_ref29_number) (n + 1) (.tail cd_ref29_number_4) 0 (sg_ref29_number_0 s_1 at_2 from_3 t4_4) (q_ref29_number_0 m0) = ref29_number.S0 (fun s_6 at_7 from_8 n_9 first_10 t4_11 => evJ E_ref29_number (drE E_ref29_number) n (.loop cd_ref29_number_3) 0 (sg_ref29_number_1 s_6 at_7 from_8 n_9 first_10 t4_11) (q_ref29_number_2 m0 n)) s_1 at_2 from_3 t4_4 := by kernel_rfl
theorem J_ref29_number_0 (m0 : Nat) : ∀ (n : Nat) (s_1 : ByteArray) (at_2 : Int) (from_3 : Int) (t4_4 : (Int × (ByteArray × (Int × Int)))), evJ E_ref29_number (drE E_ref29_number) n (.tail cd_ref29_number_4) 0 (sg_ref29_number_0 s_1 at_2 from_3 t4_4) (q_ref29_number_0 m0) = ref29_number.t0 n s_1 at_2 from_3 t4_4 := by
  intro n
  induction n with
  | zero => intros; rfl
  | succ n ih =>
    intro s_1 at_2 from_3 t4_4
    have e0 : (fun s_1 at_2 from_3 t4_4 => evJ E_ref29_number (drE E_ref29_number) n (.tail cd_ref29_number_4) 0 (sg_ref29_number_0 s_1 at_2 from_3 t4_4) (q_ref29_number_0 m0)) = (ref29_number.t0 n) := by funext s_1 at_2 from_3 t4_4; exact ih s_1 at_2 from_3 t4_4
    have e2 : (fun s_12 at_13 from_14 n_15 first_16 t4_17 => evJ E_ref29_number (drE E_ref29_number) n (.tail cd_ref29_number_2) 0 (sg_ref29_number_2 s_12 at_13 from_14 n_15 first_16 t4_17) (q_ref29_number_0 m0)) = (ref29_number.t2 n) := by funext s_12 at_13 from_14 n_15 first_16 t4_17; exact J_ref29_number_2 m0 n n s_12 at_13 from_14 n_15 first_16 t4_17
    have e1 : (fun s_6 at_7 from_8 n_9 first_10 t4_11 => evJ E_ref29_number (drE E_ref29_number) n (.loop cd_ref29_number_3) 0 (sg_ref29_number_1 s_6 at_7 from_8 n_9 first_10 t4_11) (q_ref29_number_2 m0 n)) = (ref29_number.l1 (ref29_number.t2 n) n) := by rw [← e2]; funext s_6 at_7 from_8 n_9 first_10 t4_11; exact J_ref29_number_1 m0 n n s_6 at_7 from_8 n_9 first_10 t4_11
    refine (st_ref29_number_j0 m0 n s_1 at_2 from_3 t4_4).trans ?_
    rw [e1]; rfl
theorem st_ref29_number (m0 : Nat) (s : ByteArray) (xat : Int) : evC E_ref29_number (evJ E_ref29_number (drE E_ref29_number) m0) (drE E_ref29_number) b_ref29_number 0 (st0 [.val .str, .val (.int .i64)] (s, xat, ())) (fin E_ref29_number [.cell 4 30, .tmp 5] 0 [((.pair (.int .i64) (.pair .str (.pair (.int .i64) (.int .i64)))), []), ((.int .i64), [])]) = ref29_number.S (fun s_1 at_2 from_3 t4_4 => evJ E_ref29_number (drE E_ref29_number) m0 (.tail cd_ref29_number_4) 0 (sg_ref29_number_0 s_1 at_2 from_3 t4_4) (q_ref29_number_0 m0)) s xat := by kernel_rfl
theorem ev_ref29_number (s : ByteArray) (xat : Int) : evC E_ref29_number (evJ E_ref29_number (drE E_ref29_number) fu) (drE E_ref29_number) b_ref29_number 0 (st0 [.val .str, .val (.int .i64)] (s, xat, ())) (fin E_ref29_number [.cell 4 30, .tmp 5] 0 [((.pair (.int .i64) (.pair .str (.pair (.int .i64) (.int .i64)))), []), ((.int .i64), [])]) = ref29_number s xat := by
  have e0 : (fun s_1 at_2 from_3 t4_4 => evJ E_ref29_number (drE E_ref29_number) fu (.tail cd_ref29_number_4) 0 (sg_ref29_number_0 s_1 at_2 from_3 t4_4) (q_ref29_number_0 fu)) = (ref29_number.t0 fu) := by funext s_1 at_2 from_3 t4_4; exact J_ref29_number_0 fu fu s_1 at_2 from_3 t4_4
  refine (st_ref29_number fu s xat).trans ?_
  rw [e0]; rfl
@[reducible] def sp_ref29_number   : AM.Spec := AM.spec [.val .str, .val (.int .i64)] [((.pair (.int .i64) (.pair .str (.pair (.int .i64) (.int .i64)))), []), ((.int .i64), [])] (fun x => ref29_number x.1 x.2.1)
theorem c_ref29_number : Contract Tryz.prog 24 sp_ref29_number :=
  contract_of (Tab.envOk tabOk _ _) calls_ref29_number tabOk.mixed (fn := Tryz.f24) (c := b_ref29_number) (ts := [.cell 4 30, .tmp 5]) (by kernel_rfl) (by kernel_rfl) (by kernel_rfl) (by decide) (by kernel_rfl) (by decide) rfl fun x _ h => ⟨fu, (ev_ref29_number x.1 x.2.1).trans h⟩

/-! peristyle/peristyleref29.text -/
@[reducible] noncomputable def E_ref29_text : Env := tab.env (AM.look []) ⟨[(0, ⟨[(0, true), (1, true), (4, true), (6, true), (7, true)], [(4, true)]⟩)], [], [(9, ⟨[(0, true), (1, true), (4, true), (6, true), (7, true)], [(4, true)]⟩)], ⟨[(4, true), (5, true)], [(4, true)]⟩, [], []⟩
theorem calls_ref29_text : CallsOk Tryz.prog E_ref29_text := callsOk_of trivial
noncomputable def b_ref29_text : Code := (Tryz.f25.body).getD .skip
noncomputable def sg_ref29_text_1 (s_6 : ByteArray) (at_7 : Int) (out_8 : (List Int)) (i_9 : Int) (t4_10 : (Int × (ByteArray × (Int × Int)))) : St := mk [(0, .dat .str s_6 []), (1, .dat (.int .i64) at_7 []), (4, .ptr 4 0 0), (6, .dat (.sl (.int .u8)) out_8 [⟨0, 385, 0, 0⟩]), (7, .dat (.int .i64) i_9 [])] [(4, some (.var (.pair (.int .i64) (.pair .str (.pair (.int .i64) (.int .i64)))) t4_10 []))]
noncomputable def sg_ref29_text_0 (s_1 : ByteArray) (at_2 : Int) (out_3 : (List Int)) (i_4 : Int) (t4_5 : (Int × (ByteArray × (Int × Int)))) : St := mk [(0, .dat .str s_1 []), (1, .dat (.int .i64) at_2 []), (4, .ptr 4 0 0), (6, .dat (.sl (.int .u8)) out_3 [⟨0, 385, 0, 0⟩]), (7, .dat (.int .i64) i_4 [])] [(4, some (.var (.pair (.int .i64) (.pair .str (.pair (.int .i64) (.int .i64)))) t4_5 []))]
noncomputable def q_ref29_text_0 (m0 : Nat) : K (ResD [((.pair (.int .i64) (.pair .str (.pair (.int .i64) (.int .i64)))), []), ((.int .i64), [])]) := fin E_ref29_text [.cell 4 30, .tmp 5] 0 [((.pair (.int .i64) (.pair .str (.pair (.int .i64) (.int .i64)))), []), ((.int .i64), [])]
noncomputable def cd_ref29_text_1 : Code := (rgt (rgt (rgt (rgt b_ref29_text))))
theorem st_ref29_text_j1 (m0 : Nat) (n : Nat) (s_6 : ByteArray) (at_7 : Int) (out_8 : (List Int)) (i_9 : Int) (t4_10 : (Int × (ByteArray × (Int × Int)))) : evJ E_ref29_text (drE E_ref29_text) (n + 1) (.tail cd_ref29_text_1) 0 (sg_ref29_text_1 s_6 at_7 out_8 i_9 t4_10) (q_ref29_text_0 m0) = ref29_text.S1 s_6 at_7 out_8 i_9 t4_10 := by kernel_rfl
theorem J_ref29_text_1 (m0 : Nat) : ∀ (n : Nat) (s_6 : ByteArray) (at_7 : Int) (out_8 : (List Int)) (i_9 : Int) (t4_10 : (Int × (ByteArray × (Int × Int)))), evJ E_ref29_text (drE E_ref29_text) n (.tail cd_ref29_text_1) 0 (sg_ref29_text_1 s_6 at_7 out_8 i_9 t4_10) (q_ref29_text_0 m0) = ref29_text.t1 n s_6 at_7 out_8 i_9 t4_10 := by
  intro n
  induction n with
  | zero => intros; rfl
  | succ n ih =>
    intro s_6 at_7 out_8 i_9 t4_10
    have e1 : (fun s_6 at_7 out_8 i_9 t4_10 => evJ E_ref29_text (drE E_ref29_text) n (.tail cd_ref29_text_1) 0 (sg_ref29_text_1 s_6 at_7 out_8 i_9 t4_10) (q_ref29_text_0 m0)) = (ref29_text.t1 n) := by funext s_6 at_7 out_8 i_9 t4_10; exact ih s_6 at_7 out_8 i_9 t4_10
    refine (st_ref29_text_j1 m0 n s_6 at_7 out_8 i_9 t4_10).trans ?_
    rfl
noncomputable def q_ref29_text_1 (m0 : Nat) : K (ResD [((.pair (.int .i64) (.pair .str (.pair (.int .i64) (.int .i64)))), []), ((.int .i64), [])]) := seqK E_ref29_text (evJ E_ref29_text (drE E_ref29_text) m0) cd_ref29_text_1 0 (evC E_ref29_text (evJ E_ref29_text (drE E_ref29_text) m0) (drE E_ref29_text) cd_ref29_text_1 0) (q_ref29_text_0 m0)
noncomputable def q_ref29_text_2 (m0 : Nat) : K (ResD [((.pair (.int .i64) (.pair .str (.pair (.int .i64) (.int .i64)))), []), ((.int .i64), [])]) := blockK 0 (q_ref29_text_1 m0)
noncomputable def cd_ref29_text_2 : Code := (lft (lft (lft (rgt (rgt (rgt b_ref29_text))))))
theorem st_ref29_text_j0 (m0 : Nat) (n : Nat) (s_1 : ByteArray) (at_2 : Int) (out_3 : (List Int)) (i_4 : Int) (t4_5 : (Int × (ByteArray × (Int × Int)))) : evJ E_ref29_text (drE E_ref29_text) (n + 1) (.loop cd_ref29_text_2) 0 (sg_ref29_text_0 s_1 at_2 out_3 i_4 t4_5) (q_ref29_text_2 m0) = ref29_text.S0 (fun s_6 at_7 out_8 i_9 t4_10 => evJ E_ref29_text (drE E_ref29_text) m0 (.tail cd_ref29_text_1) 0 (sg_ref29_text_1 s_6 at_7 out_8 i_9 t4_10) (q_ref29_text_0 m0)) (fun s_1 at_2 out_3 i_4 t4_5 => evJ E_ref29_text (drE E_ref29_text) n (.loop cd_ref29_text_2) 0 (sg_ref29_text_0 s_1 at_2 out_3 i_4 t4_5) (q_ref29_text_2 m0)) s_1 at_2 out_3 i_4 t4_5 := by kernel_rfl
theorem J_ref29_text_0 (m0 : Nat) : ∀ (n : Nat) (s_1 : ByteArray) (at_2 : Int) (out_3 : (List Int)) (i_4 : Int) (t4_5 : (Int × (ByteArray × (Int × Int)))), evJ E_ref29_text (drE E_ref29_text) n (.loop cd_ref29_text_2) 0 (sg_ref29_text_0 s_1 at_2 out_3 i_4 t4_5) (q_ref29_text_2 m0) = ref29_text.l0 (fun s_6 at_7 out_8 i_9 t4_10 => evJ E_ref29_text (drE E_ref29_text) m0 (.tail cd_ref29_text_1) 0 (sg_ref29_text_1 s_6 at_7 out_8 i_9 t4_10) (q_ref29_text_0 m0)) n s_1 at_2 out_3 i_4 t4_5 := by
  intro n
  induction n with
  | zero => intros; rfl
  | succ n ih =>
    intro s_1 at_2 out_3 i_4 t4_5
    have e0 : (fun s_1 at_2 out_3 i_4 t4_5 => evJ E_ref29_text (drE E_ref29_text) n (.loop cd_ref29_text_2) 0 (sg_ref29_text_0 s_1 at_2 out_3 i_4 t4_5) (q_ref29_text_2 m0)) = (ref29_text.l0 (fun s_6 at_7 out_8 i_9 t4_10 => evJ E_ref29_text (drE E_ref29_text) m0 (.tail cd_ref29_text_1) 0 (sg_ref29_text_1 s_6 at_7 out_8 i_9 t4_10) (q_ref29_text_0 m0)) n) := by funext s_1 at_2 out_3 i_4 t4_5; exact ih s_1 at_2 out_3 i_4 t4_5
    refine (st_ref29_text_j0 m0 n s_1 at_2 out_3 i_4 t4_5).trans ?_
    rw [e0]; rfl
theorem st_ref29_text (m0 : Nat) (s : ByteArray) (xat : Int) : evC E_ref29_text (evJ E_ref29_text (drE E_ref29_text) m0) (drE E_ref29_text) b_ref29_text 0 (st0 [.val .str, .val (.int .i64)] (s, xat, ())) (fin E_ref29_text [.cell 4 30, .tmp 5] 0 [((.pair (.int .i64) (.pair .str (.pair (.int .i64) (.int .i64)))), []), ((.int .i64), [])]) = ref29_text.S (fun s_1 at_2 out_3 i_4 t4_5 => evJ E_ref29_text (drE E_ref29_text) m0 (.loop cd_ref29_text_2) 0 (sg_ref29_text_0 s_1 at_2 out_3 i_4 t4_5) (q_ref29_text_2 m0)) s xat := by kernel_rfl
theorem ev_ref29_text (s : ByteArray) (xat : Int) : evC E_ref29_text (evJ E_ref29_text (drE E_ref29_text) fu) (drE E_ref29_text) b_ref29_text 0 (st0 [.val .str, .val (.int .i64)] (s, xat, ())) (fin E_ref29_text [.cell 4 30, .tmp 5] 0 [((.pair (.int .i64) (.pair .str (.pair (.int .i64) (.int .i64)))), []), ((.int .i64), [])]) = ref29_text s xat := by
  have e1 : (fun s_6 at_7 out_8 i_9 t4_10 => evJ E_ref29_text (drE E_ref29_text) fu (.tail cd_ref29_text_1) 0 (sg_ref29_text_1 s_6 at_7 out_8 i_9 t4_10) (q_ref29_text_0 fu)) = (ref29_text.t1 fu) := by funext s_6 at_7 out_8 i_9 t4_10; exact J_ref29_text_1 fu fu s_6 at_7 out_8 i_9 t4_10
  have e0 : (fun s_1 at_2 out_3 i_4 t4_5 => evJ E_ref29_text (drE E_ref29_text) fu (.loop cd_ref29_text_2) 0 (sg_ref29_text_0 s_1 at_2 out_3 i_4 t4_5) (q_ref29_text_2 fu)) = (ref29_text.l0 (ref29_text.t1 fu) fu) := by rw [← e1]; funext s_1 at_2 out_3 i_4 t4_5; exact J_ref29_text_0 fu fu s_1 at_2 out_3 i_4 t4_5
  refine (st_ref29_text fu s xat).trans ?_
  rw [e0]; rfl
@[reducible] def sp_ref29_text   : AM.Spec := AM.spec [.val .str, .val (.int .i64)] [((.pair (.int .i64) (.pair .str (.pair (.int .i64) (.int .i64)))), []), ((.int .i64), [])] (fun x => ref29_text x.1 x.2.1)
theorem c_ref29_text : Contract Tryz.prog 25 sp_ref29_text :=
  contract_of (Tab.envOk tabOk _ _) calls_ref29_text tabOk.mixed (fn := Tryz.f25) (c := b_ref29_text) (ts := [.cell 4 30, .tmp 5]) (by kernel_rfl) (by kernel_rfl) (by kernel_rfl) (by decide) (by kernel_rfl) (by decide) rfl fun x _ h => ⟨fu, (ev_ref29_text x.1 x.2.1).trans h⟩

/-! peristyle/peristyleref29.sign -/
@[reducible] noncomputable def E_ref29_sign : Env := tab.env (AM.look []) ⟨[(0, ⟨[(0, true), (1, true), (4, true), (6, true), (7, true)], [(4, true)]⟩)], [], [], ⟨[(4, true), (5, true)], [(4, true)]⟩, [], []⟩
theorem calls_ref29_sign : CallsOk Tryz.prog E_ref29_sign := callsOk_of trivial
noncomputable def b_ref29_sign : Code := (Tryz.f26.body).getD .skip
noncomputable def sg_ref29_sign_0 (s_1 : ByteArray) (at_2 : Int) (l_3 : (List ByteArray)) (i_4 : Int) (t4_5 : (Int × (ByteArray × (Int × Int)))) : St := mk [(0, .dat .str s_1 []), (1, .dat (.int .i64) at_2 []), (4, .ptr 4 0 0), (6, .dat (.sl .str) l_3 [⟨0, 385, 0, 1⟩]), (7, .dat (.int .i64) i_4 [])] [(4, some (.var (.pair (.int .i64) (.pair .str (.pair (.int .i64) (.int .i64)))) t4_5 []))]
noncomputable def q_ref29_sign_0 (m0 : Nat) : K (ResD [((.pair (.int .i64) (.pair .str (.pair (.int .i64) (.int .i64)))), []), ((.int .i64), [])]) := fin E_ref29_sign [.cell 4 30, .tmp 5] 0 [((.pair (.int .i64) (.pair .str (.pair (.int .i64) (.int .i64)))), []), ((.int .i64), [])]
noncomputable def cd_ref29_sign_1 : Code := (rgt (rgt (rgt b_ref29_sign)))
noncomputable def q_ref29_sign_1 (m0 : Nat) : K (ResD [((.pair (.int .i64) (.pair .str (.pair (.int .i64) (.int .i64)))), []), ((.int .i64), [])]) := seqK E_ref29_sign (evJ E_ref29_sign (drE E_ref29_sign) m0) cd_ref29_sign_1 0 (evC E_ref29_sign (evJ E_ref29_sign (drE E_ref29_sign) m0) (drE E_ref29_sign) cd_ref29_sign_1 0) (q_ref29_sign_0 m0)
noncomputable def q_ref29_sign_2 (m0 : Nat) : K (ResD [((.pair (.int .i64) (.pair .str (.pair (.int .i64) (.int .i64)))), []), ((.int .i64), [])]) := blockK 0 (q_ref29_sign_1 m0)
noncomputable def cd_ref29_sign_2 : Code := (lft (lft (rgt (lft (rgt (rgt b_ref29_sign))))))
theorem st_ref29_sign_j0 (m0 : Nat) (n : Nat) (s_1 : ByteArray) (at_2 : Int) (l_3 : (List ByteArray)) (i_4 : Int) (t4_5 : (Int × (ByteArray × (Int × Int)))) : evJ E_ref29_sign (drE E_ref29_sign) (n + 1) (.loop cd_ref29_sign_2) 0 (sg_ref29_sign_0 s_1 at_2 l_3 i_4 t4_5) (q_ref29_sign_2 m0) = ref29_sign.S0 (fun s_1 at_2 l_3 i_4 t4_5 => evJ E_ref29_sign (drE E_ref29_sign) n (.loop cd_ref29_sign_2) 0 (sg_ref29_sign_0 s_1 at_2 l_3 i_4 t4_5) (q_ref29_sign_2 m0)) s_1 at_2 l_3 i_4 t4_5 := by kernel_rfl
theorem J_ref29_sign_0 (m0 : Nat) : ∀ (n : Nat) (s_1 : ByteArray) (at_2 : Int) (l_3 : (List ByteArray)) (i_4 : Int) (t4_5 : (Int × (ByteArray × (Int × Int)))), evJ E_ref29_sign (drE E_ref29_sign) n (.loop cd_ref29_sign_2) 0 (sg_ref29_sign_0 s_1 at_2 l_3 i_4 t4_5) (q_ref29_sign_2 m0) = ref29_sign.l0 n s_1 at_2 l_3 i_4 t4_5 := by
  intro n
  induction n with
  | zero => intros; rfl
  | succ n ih =>
    intro s_1 at_2 l_3 i_4 t4_5
    have e0 : (fun s_1 at_2 l_3 i_4 t4_5 => evJ E_ref29_sign (drE E_ref29_sign) n (.loop cd_ref29_sign_2) 0 (sg_ref29_sign_0 s_1 at_2 l_3 i_4 t4_5) (q_ref29_sign_2 m0)) = (ref29_sign.l0 n) := by funext s_1 at_2 l_3 i_4 t4_5; exact ih s_1 at_2 l_3 i_4 t4_5
    refine (st_ref29_sign_j0 m0 n s_1 at_2 l_3 i_4 t4_5).trans ?_
    rw [e0]; rfl
theorem st_ref29_sign (m0 : Nat) (s : ByteArray) (xat : Int) : evC E_ref29_sign (evJ E_ref29_sign (drE E_ref29_sign) m0) (drE E_ref29_sign) b_ref29_sign 0 (st0 [.val .str, .val (.int .i64)] (s, xat, ())) (fin E_ref29_sign [.cell 4 30, .tmp 5] 0 [((.pair (.int .i64) (.pair .str (.pair (.int .i64) (.int .i64)))), []), ((.int .i64), [])]) = ref29_sign.S (fun s_1 at_2 l_3 i_4 t4_5 => evJ E_ref29_sign (drE E_ref29_sign) m0 (.loop cd_ref29_sign_2) 0 (sg_ref29_sign_0 s_1 at_2 l_3 i_4 t4_5) (q_ref29_sign_2 m0)) s xat := by kernel_rfl
theorem ev_ref29_sign (s : ByteArray) (xat : Int) : evC E_ref29_sign (evJ E_ref29_sign (drE E_ref29_sign) fu) (drE E_ref29_sign) b_ref29_sign 0 (st0 [.val .str, .val (.int .i64)] (s, xat, ())) (fin E_ref29_sign [.cell 4 30, .tmp 5] 0 [((.pair (.int .i64) (.pair .str (.pair (.int .i64) (.int .i64)))), []), ((.int .i64), [])]) = ref29_sign s xat := by
  have e0 : (fun s_1 at_2 l_3 i_4 t4_5 => evJ E_ref29_sign (drE E_ref29_sign) fu (.loop cd_ref29_sign_2) 0 (sg_ref29_sign_0 s_1 at_2 l_3 i_4 t4_5) (q_ref29_sign_2 fu)) = (ref29_sign.l0 fu) := by funext s_1 at_2 l_3 i_4 t4_5; exact J_ref29_sign_0 fu fu s_1 at_2 l_3 i_4 t4_5
  refine (st_ref29_sign fu s xat).trans ?_
  rw [e0]; rfl
@[reducible] def sp_ref29_sign   : AM.Spec := AM.spec [.val .str, .val (.int .i64)] [((.pair (.int .i64) (.pair .str (.pair (.int .i64) (.int .i64)))), []), ((.int .i64), [])] (fun x => ref29_sign x.1 x.2.1)
theorem c_ref29_sign : Contract Tryz.prog 26 sp_ref29_sign :=
  contract_of (Tab.envOk tabOk _ _) calls_ref29_sign tabOk.mixed (fn := Tryz.f26) (c := b_ref29_sign) (ts := [.cell 4 30, .tmp 5]) (by kernel_rfl) (by kernel_rfl) (by kernel_rfl) (by decide) (by kernel_rfl) (by decide) rfl fun x _ h => ⟨fu, (ev_ref29_sign x.1 x.2.1).trans h⟩

/-! peristyle/peristyleref29.one -/
@[reducible] noncomputable def E_ref29_one : Env := tab.env (AM.look [(21, sp_ref29_letter), (22, sp_ref29_span), (23, sp_ref29_digit), (24, sp_ref29_number), (25, sp_ref29_text), (26, sp_ref29_sign)]) ⟨[], [], [], ⟨[(4, true), (5, true)], [(4, true)]⟩, [], [21, 22, 23, 24, 25, 26]⟩
theorem calls_ref29_one : CallsOk Tryz.prog E_ref29_one := callsOk_of ⟨⟨c_ref29_letter, Tryz.call21, fun _ => words_spec rfl⟩, ⟨⟨c_ref29_span, Tryz.call22, fun _ => words_spec rfl⟩, ⟨⟨c_ref29_digit, Tryz.call23, fun _ => words_spec rfl⟩, ⟨⟨c_ref29_number, Tryz.call24, fun _ => words_spec rfl⟩, ⟨⟨c_ref29_text, Tryz.call25, fun _ => words_spec rfl⟩, ⟨⟨c_ref29_sign, Tryz.call26, fun _ => words_spec rfl⟩, trivial⟩⟩⟩⟩⟩⟩
noncomputable def b_ref29_one : Code := (Tryz.f14.body).getD .skip
theorem st_ref29_one (m0 : Nat) (s : ByteArray) (xat : Int) : evC E_ref29_one (evJ E_ref29_one (drE E_ref29_one) m0) (drE E_ref29_one) b_ref29_one 0 (st0 [.val .str, .val (.int .i64)] (s, xat, ())) (fin E_ref29_one [.cell 4 30, .tmp 5] 0 [((.pair (.int .i64) (.pair .str (.pair (.int .i64) (.int .i64)))), []), ((.int .i64), [])]) = ref29_one s xat := by kernel_rfl
theorem ev_ref29_one (s : ByteArray) (xat : Int) : evC E_ref29_one (evJ E_ref29_one (drE E_ref29_one) fu) (drE E_ref29_one) b_ref29_one 0 (st0 [.val .str, .val (.int .i64)] (s, xat, ())) (fin E_ref29_one [.cell 4 30, .tmp 5] 0 [((.pair (.int .i64) (.pair .str (.pair (.int .i64) (.int .i64)))), []), ((.int .i64), [])]) = ref29_one s xat := st_ref29_one fu s xat
@[reducible] def sp_ref29_one   : AM.Spec := AM.spec [.val .str, .val (.int .i64)] [((.pair (.int .i64) (.pair .str (.pair (.int .i64) (.int .i64)))), []), ((.int .i64), [])] (fun x => ref29_one x.1 x.2.1)
theorem c_ref29_one : Contract Tryz.prog 14 sp_ref29_one :=
  contract_of (Tab.envOk tabOk _ _) calls_ref29_one tabOk.mixed (fn := Tryz.f14) (c := b_ref29_one) (ts := [.cell 4 30, .tmp 5]) (by kernel_rfl) (by kernel_rfl) (by kernel_rfl) (by decide) (by kernel_rfl) (by decide) rfl fun x _ h => ⟨fu, (ev_ref29_one x.1 x.2.1).trans h⟩

/-! peristyle/peristyleref29.Tokens -/
@[reducible] noncomputable def E_ref29_Tokens : Env := tab.env (AM.look [(14, sp_ref29_one)]) ⟨[(0, ⟨[(0, true), (5, true), (6, true)], []⟩)], [], [(13, ⟨[(5, true), (6, true)], []⟩)], ⟨[(2, true), (3, true), (4, true)], []⟩, [], [14]⟩
theorem calls_ref29_Tokens : CallsOk Tryz.prog E_ref29_Tokens := callsOk_of ⟨⟨c_ref29_one, Tryz.call14, fun _ => words_spec rfl⟩, trivial⟩
noncomputable def b_ref29_Tokens : Code := (Tryz.f6.body).getD .skip
noncomputable def sg_ref29_Tokens_1 (out_5 : (List (Int × (ByteArray × (Int × Int))))) (at_6 : Int) : St := mk [(5, .dat (.sl (.pair (.int .i64) (.pair .str (.pair (.int .i64) (.int .i64))))) out_5 [⟨0, 321, 0, 4⟩]), (6, .dat (.int .i64) at_6 [])] []
noncomputable def sg_ref29_Tokens_0 (s_1 : ByteArray) (out_2 : (List (Int × (ByteArray × (Int × Int))))) (at_3 : Int) : St := mk [(0, .dat .str s_1 []), (5, .dat (.sl (.pair (.int .i64) (.pair .str (.pair (.int .i64) (.int .i64))))) out_2 [⟨0, 321, 0, 4⟩]), (6, .dat (.int .i64) at_3 [])] []
noncomputable def q_ref29_Tokens_0 (m0 : Nat) : K (ResD [((.sl (.pair (.int .i64) (.pair .str (.pair (.int .i64) (.int .i64))))), [⟨0, 1, 0, 4⟩]), ((.int .i64), []), ((.int .i64), [])]) := fin E_ref29_Tokens [.tmp 2, .tmp 3, .tmp 4] 0 [((.sl (.pair (.int .i64) (.pair .str (.pair (.int .i64) (.int .i64))))), [⟨0, 1, 0, 4⟩]), ((.int .i64), []), ((.int .i64), [])]
noncomputable def cd_ref29_Tokens_1 : Code := (rgt (rgt (rgt (rgt (rgt b_ref29_Tokens)))))
theorem st_ref29_Tokens_j1 (m0 : Nat) (n : Nat) (out_5 : (List (Int × (ByteArray × (Int × Int))))) (at_6 : Int) : evJ E_ref29_Tokens (drE E_ref29_Tokens) (n + 1) (.tail cd_ref29_Tokens_1) 0 (sg_ref29_Tokens_1 out_5 at_6) (q_ref29_Tokens_0 m0) = ref29_Tokens.S1 out_5 at_6 := by kernel_rfl
theorem J_ref29_Tokens_1 (m0 : Nat) : ∀ (n : Nat) (out_5 : (List (Int × (ByteArray × (Int × Int))))) (at_6 : Int), evJ E_ref29_Tokens (drE E_ref29_Tokens) n (.tail cd_ref29_Tokens_1) 0 (sg_ref29_Tokens_1 out_5 at_6) (q_ref29_Tokens_0 m0) = ref29_Tokens.t1 n out_5 at_6 := by
  intro n
  induction n with
  | zero => intros; rfl
  | succ n ih =>
    intro out_5 at_6
    have e1 : (fun out_5 at_6 => evJ E_ref29_Tokens (drE E_ref29_Tokens) n (.tail cd_ref29_Tokens_1) 0 (sg_ref29_Tokens_1 out_5 at_6) (q_ref29_Tokens_0 m0)) = (ref29_Tokens.t1 n) := by funext out_5 at_6; exact ih out_5 at_6
    refine (st_ref29_Tokens_j1 m0 n out_5 at_6).trans ?_
    rfl
noncomputable def q_ref29_Tokens_1 (m0 : Nat) : K (ResD [((.sl (.pair (.int .i64) (.pair .str (.pair (.int .i64) (.int .i64))))), [⟨0, 1, 0, 4⟩]), ((.int .i64), []), ((.int .i64), [])]) := seqK E_ref29_Tokens (evJ E_ref29_Tokens (drE E_ref29_Tokens) m0) cd_ref29_Tokens_1 0 (evC E_ref29_Tokens (evJ E_ref29_Tokens (drE E_ref29_Tokens) m0) (drE E_ref29_Tokens) cd_ref29_Tokens_1 0) (q_ref29_Tokens_0 m0)
noncomputable def q_ref29_Tokens_2 (m0 : Nat) : K (ResD [((.sl (.pair (.int .i64) (.pair .str (.pair (.int .i64) (.int .i64))))), [⟨0, 1, 0, 4⟩]), ((.int .i64), []), ((.int .i64), [])]) := blockK 0 (q_ref29_Tokens_1 m0)
noncomputable def cd_ref29_Tokens_2 : Code := (lft (lft (lft (rgt (rgt (rgt (rgt b_ref29_Tokens)))))))
theorem st_ref29_Tokens_j0 (m0 : Nat) (n : Nat) (s_1 : ByteArray) (out_2 : (List (Int × (ByteArray × (Int × Int))))) (at_3 : Int) : evJ E_ref29_Tokens (drE E_ref29_Tokens) (n + 1) (.loop cd_ref29_Tokens_2) 0 (sg_ref29_Tokens_0 s_1 out_2 at_3) (q_ref29_Tokens_2 m0) = ref29_Tokens.S0 (fun out_5 at_6 => evJ E_ref29_Tokens (drE E_ref29_Tokens) m0 (.tail cd_ref29_Tokens_1) 0 (sg_ref29_Tokens_1 out_5 at_6) (q_ref29_Tokens_0 m0)) (fun s_1 out_2 at_3 => evJ E_ref29_Tokens (drE E_ref29_Tokens) n (.loop cd_ref29_Tokens_2) 0 (sg_ref29_Tokens_0 s_1 out_2 at_3) (q_ref29_Tokens_2 m0)) s_1 out_2 at_3 := by kernel_rfl
theorem J_ref29_Tokens_0 (m0 : Nat) : ∀ (n : Nat) (s_1 : ByteArray) (out_2 : (List (Int × (ByteArray × (Int × Int))))) (at_3 : Int), evJ E_ref29_Tokens (drE E_ref29_Tokens) n (.loop cd_ref29_Tokens_2) 0 (sg_ref29_Tokens_0 s_1 out_2 at_3) (q_ref29_Tokens_2 m0) = ref29_Tokens.l0 (fun out_5 at_6 => evJ E_ref29_Tokens (drE E_ref29_Tokens) m0 (.tail cd_ref29_Tokens_1) 0 (sg_ref29_Tokens_1 out_5 at_6) (q_ref29_Tokens_0 m0)) n s_1 out_2 at_3 := by
  intro n
  induction n with
  | zero => intros; rfl
  | succ n ih =>
    intro s_1 out_2 at_3
    have e0 : (fun s_1 out_2 at_3 => evJ E_ref29_Tokens (drE E_ref29_Tokens) n (.loop cd_ref29_Tokens_2) 0 (sg_ref29_Tokens_0 s_1 out_2 at_3) (q_ref29_Tokens_2 m0)) = (ref29_Tokens.l0 (fun out_5 at_6 => evJ E_ref29_Tokens (drE E_ref29_Tokens) m0 (.tail cd_ref29_Tokens_1) 0 (sg_ref29_Tokens_1 out_5 at_6) (q_ref29_Tokens_0 m0)) n) := by funext s_1 out_2 at_3; exact ih s_1 out_2 at_3
    refine (st_ref29_Tokens_j0 m0 n s_1 out_2 at_3).trans ?_
    rw [e0]; rfl
theorem st_ref29_Tokens (m0 : Nat) (s : ByteArray) : evC E_ref29_Tokens (evJ E_ref29_Tokens (drE E_ref29_Tokens) m0) (drE E_ref29_Tokens) b_ref29_Tokens 0 (st0 [.val .str] (s, ())) (fin E_ref29_Tokens [.tmp 2, .tmp 3, .tmp 4] 0 [((.sl (.pair (.int .i64) (.pair .str (.pair (.int .i64) (.int .i64))))), [⟨0, 1, 0, 4⟩]), ((.int .i64), []), ((.int .i64), [])]) = ref29_Tokens.S (fun s_1 out_2 at_3 => evJ E_ref29_Tokens (drE E_ref29_Tokens) m0 (.loop cd_ref29_Tokens_2) 0 (sg_ref29_Tokens_0 s_1 out_2 at_3) (q_ref29_Tokens_2 m0)) s := by kernel_rfl
theorem ev_ref29_Tokens (s : ByteArray) : evC E_ref29_Tokens (evJ E_ref29_Tokens (drE E_ref29_Tokens) fu) (drE E_ref29_Tokens) b_ref29_Tokens 0 (st0 [.val .str] (s, ())) (fin E_ref29_Tokens [.tmp 2, .tmp 3, .tmp 4] 0 [((.sl (.pair (.int .i64) (.pair .str (.pair (.int .i64) (.int .i64))))), [⟨0, 1, 0, 4⟩]), ((.int .i64), []), ((.int .i64), [])]) = ref29_Tokens s := by
  have e1 : (fun out_5 at_6 => evJ E_ref29_Tokens (drE E_ref29_Tokens) fu (.tail cd_ref29_Tokens_1) 0 (sg_ref29_Tokens_1 out_5 at_6) (q_ref29_Tokens_0 fu)) = (ref29_Tokens.t1 fu) := by funext out_5 at_6; exact J_ref29_Tokens_1 fu fu out_5 at_6
  have e0 : (fun s_1 out_2 at_3 => evJ E_ref29_Tokens (drE E_ref29_Tokens) fu (.loop cd_ref29_Tokens_2) 0 (sg_ref29_Tokens_0 s_1 out_2 at_3) (q_ref29_Tokens_2 fu)) = (ref29_Tokens.l0 (ref29_Tokens.t1 fu) fu) := by rw [← e1]; funext s_1 out_2 at_3; exact J_ref29_Tokens_0 fu fu s_1 out_2 at_3
  refine (st_ref29_Tokens fu s).trans ?_
  rw [e0]; rfl
@[reducible] def sp_ref29_Tokens   : AM.Spec := AM.spec [.val .str] [((.sl (.pair (.int .i64) (.pair .str (.pair (.int .i64) (.int .i64))))), [⟨0, 1, 0, 4⟩]), ((.int .i64), []), ((.int .i64), [])] (fun x => ref29_Tokens x.1)
theorem c_ref29_Tokens : Contract Tryz.prog 6 sp_ref29_Tokens :=
  contract_of (Tab.envOk tabOk _ _) calls_ref29_Tokens tabOk.mixed (fn := Tryz.f6) (c := b_ref29_Tokens) (ts := [.tmp 2, .tmp 3, .tmp 4]) (by kernel_rfl) (by kernel_rfl) (by kernel_rfl) (by decide) (by kernel_rfl) (by decide) rfl fun x _ h => ⟨fu, (ev_ref29_Tokens x.1).trans h⟩

/-! peristyle/peristyleref29.Same -/
@[reducible] noncomputable def E_ref29_Same : Env := tab.env (AM.look []) ⟨[(0, ⟨[(0, true), (1, true), (5, true)], []⟩)], [], [], ⟨[(4, true)], []⟩, [], []⟩
theorem calls_ref29_Same : CallsOk Tryz.prog E_ref29_Same := callsOk_of trivial
noncomputable def b_ref29_Same : Code := (Tryz.f7.body).getD .skip
noncomputable def sg_ref29_Same_0 (a_1 : (List (Int × (ByteArray × (Int × Int))))) (b_2 : (List (Int × (ByteArray × (Int × Int))))) (i_3 : Int) : St := mk [(0, .dat (.sl (.pair (.int .i64) (.pair .str (.pair (.int .i64) (.int .i64))))) a_1 []), (1, .dat (.sl (.pair (.int .i64) (.pair .str (.pair (.int .i64) (.int .i64))))) b_2 []), (5, .dat (.int .i64) i_3 [])] []
noncomputable def q_ref29_Same_0 (m0 : Nat) : K (ResD [(.bool, [])]) := fin E_ref29_Same [.tmp 4] 0 [(.bool, [])]
noncomputable def cd_ref29_Same_1 : Code := (rgt (rgt (rgt b_ref29_Same)))
noncomputable def q_ref29_Same_1 (m0 : Nat) : K (ResD [(.bool, [])]) := seqK E_ref29_Same (evJ E_ref29_Same (drE E_ref29_Same) m0) cd_ref29_Same_1 0 (evC E_ref29_Same (evJ E_ref29_Same (drE E_ref29_Same) m0) (drE E_ref29_Same) cd_ref29_Same_1 0) (q_ref29_Same_0 m0)
noncomputable def q_ref29_Same_2 (m0 : Nat) : K (ResD [(.bool, [])]) := blockK 0 (q_ref29_Same_1 m0)
noncomputable def cd_ref29_Same_2 : Code := (lft (lft (rgt (lft (rgt (rgt b_ref29_Same))))))
theorem st_ref29_Same_j0 (m0 : Nat) (n : Nat) (a_1 : (List (Int × (ByteArray × (Int × Int))))) (b_2 : (List (Int × (ByteArray × (Int × Int))))) (i_3 : Int) : evJ E_ref29_Same (drE E_ref29_Same) (n + 1) (.loop cd_ref29_Same_2) 0 (sg_ref29_Same_0 a_1 b_2 i_3) (q_ref29_Same_2 m0) = ref29_Same.S0 (fun a_1 b_2 i_3 => evJ E_ref29_Same (drE E_ref29_Same) n (.loop cd_ref29_Same_2) 0 (sg_ref29_Same_0 a_1 b_2 i_3) (q_ref29_Same_2 m0)) a_1 b_2 i_3 := by kernel_rfl
theorem J_ref29_Same_0 (m0 : Nat) : ∀ (n : Nat) (a_1 : (List (Int × (ByteArray × (Int × Int))))) (b_2 : (List (Int × (ByteArray × (Int × Int))))) (i_3 : Int), evJ E_ref29_Same (drE E_ref29_Same) n (.loop cd_ref29_Same_2) 0 (sg_ref29_Same_0 a_1 b_2 i_3) (q_ref29_Same_2 m0) = ref29_Same.l0 n a_1 b_2 i_3 := by
  intro n
  induction n with
  | zero => intros; rfl
  | succ n ih =>
    intro a_1 b_2 i_3
    have e0 : (fun a_1 b_2 i_3 => evJ E_ref29_Same (drE E_ref29_Same) n (.loop cd_ref29_Same_2) 0 (sg_ref29_Same_0 a_1 b_2 i_3) (q_ref29_Same_2 m0)) = (ref29_Same.l0 n) := by funext a_1 b_2 i_3; exact ih a_1 b_2 i_3
    refine (st_ref29_Same_j0 m0 n a_1 b_2 i_3).trans ?_
    rw [e0]; rfl
theorem st_ref29_Same (m0 : Nat) (a : (List (Int × (ByteArray × (Int × Int))))) (b : (List (Int × (ByteArray × (Int × Int))))) : evC E_ref29_Same (evJ E_ref29_Same (drE E_ref29_Same) m0) (drE E_ref29_Same) b_ref29_Same 0 (st0 [.val (.sl (.pair (.int .i64) (.pair .str (.pair (.int .i64) (.int .i64))))), .val (.sl (.pair (.int .i64) (.pair .str (.pair (.int .i64) (.int .i64)))))] (a, b, ())) (fin E_ref29_Same [.tmp 4] 0 [(.bool, [])]) = ref29_Same.S (fun a_1 b_2 i_3 => evJ E_ref29_Same (drE E_ref29_Same) m0 (.loop cd_ref29_Same_2) 0 (sg_ref29_Same_0 a_1 b_2 i_3) (q_ref29_Same_2 m0)) a b := by kernel_rfl
theorem ev_ref29_Same (a : (List (Int × (ByteArray × (Int × Int))))) (b : (List (Int × (ByteArray × (Int × Int))))) : evC E_ref29_Same (evJ E_ref29_Same (drE E_ref29_Same) fu) (drE E_ref29_Same) b_ref29_Same 0 (st0 [.val (.sl (.pair (.int .i64) (.pair .str (.pair (.int .i64) (.int .i64))))), .val (.sl (.pair (.int .i64) (.pair .str (.pair (.int .i64) (.int .i64)))))] (a, b, ())) (fin E_ref29_Same [.tmp 4] 0 [(.bool, [])]) = ref29_Same a b := by
  have e0 : (fun a_1 b_2 i_3 => evJ E_ref29_Same (drE E_ref29_Same) fu (.loop cd_ref29_Same_2) 0 (sg_ref29_Same_0 a_1 b_2 i_3) (q_ref29_Same_2 fu)) = (ref29_Same.l0 fu) := by funext a_1 b_2 i_3; exact J_ref29_Same_0 fu fu a_1 b_2 i_3
  refine (st_ref29_Same fu a b).trans ?_
  rw [e0]; rfl
@[reducible] def sp_ref29_Same   : AM.Spec := AM.spec [.val (.sl (.pair (.int .i64) (.pair .str (.pair (.int .i64) (.int .i64))))), .val (.sl (.pair (.int .i64) (.pair .str (.pair (.int .i64) (.int .i64)))))] [(.bool, [])] (fun x => ref29_Same x.1 x.2.1)
theorem c_ref29_Same : Contract Tryz.prog 7 sp_ref29_Same :=
  contract_of (Tab.envOk tabOk _ _) calls_ref29_Same tabOk.mixed (fn := Tryz.f7) (c := b_ref29_Same) (ts := [.tmp 4]) (by kernel_rfl) (by kernel_rfl) (by kernel_rfl) (by decide) (by kernel_rfl) (by decide) rfl fun x _ h => ⟨fu, (ev_ref29_Same x.1 x.2.1).trans h⟩

/-! peristyle/peristyleref29.Words -/
@[reducible] noncomputable def E_ref29_Words : Env := tab.env (AM.look []) ⟨[], [], [], ⟨[(0, true)], []⟩, [], []⟩
theorem calls_ref29_Words : CallsOk Tryz.prog E_ref29_Words := callsOk_of trivial
noncomputable def b_ref29_Words : Code := (Tryz.f16.body).getD .skip
theorem st_ref29_Words (m0 : Nat) : evC E_ref29_Words (evJ E_ref29_Words (drE E_ref29_Words) m0) (drE E_ref29_Words) b_ref29_Words 0 (st0 [] ()) (fin E_ref29_Words [.tmp 0] 0 [((.sl .str), [⟨0, 1, 0, 1⟩])]) = some (ref29_Words) := by kernel_rfl
theorem ev_ref29_Words : evC E_ref29_Words (evJ E_ref29_Words (drE E_ref29_Words) fu) (drE E_ref29_Words) b_ref29_Words 0 (st0 [] ()) (fin E_ref29_Words [.tmp 0] 0 [((.sl .str), [⟨0, 1, 0, 1⟩])]) = some (ref29_Words) := st_ref29_Words fu
@[reducible] def sp_ref29_Words   : AM.Spec := AM.spec [] [((.sl .str), [⟨0, 1, 0, 1⟩])] (fun x => some (ref29_Words))
theorem c_ref29_Words : Contract Tryz.prog 16 sp_ref29_Words :=
  contract_of (Tab.envOk tabOk _ _) calls_ref29_Words tabOk.mixed (fn := Tryz.f16) (c := b_ref29_Words) (ts := [.tmp 0]) (by kernel_rfl) (by kernel_rfl) (by kernel_rfl) (by decide) (by kernel_rfl) (by decide) rfl fun x _ h => ⟨fu, (ev_ref29_Words).trans h⟩

/-! peristyle/peristyleref29.Keyword -/
@[reducible] noncomputable def E_ref29_Keyword : Env := tab.env (AM.look [(16, sp_ref29_Words)]) ⟨[(0, ⟨[(0, true), (3, true), (4, true)], []⟩)], [], [], ⟨[(2, true)], []⟩, [], []⟩
theorem calls_ref29_Keyword : CallsOk Tryz.prog E_ref29_Keyword := callsOk_of ⟨⟨c_ref29_Words, Tryz.call16, fun h => nomatch (show false = true from h)⟩, trivial⟩
noncomputable def b_ref29_Keyword : Code := (Tryz.f9.body).getD .skip
noncomputable def sg_ref29_Keyword_0 (s_2 : ByteArray) (l_3 : (List ByteArray)) (i_4 : Int) : St := mk [(0, .dat .str s_2 []), (3, .dat (.sl .str) l_3 [⟨0, 193, 0, 1⟩]), (4, .dat (.int .i64) i_4 [])] []
noncomputable def q_ref29_Keyword_0 (m0 : Nat) : K (ResD [(.bool, [])]) := fin E_ref29_Keyword [.tmp 2] 0 [(.bool, [])]
noncomputable def cd_ref29_Keyword_1 : Code := (rgt (rgt (rgt b_ref29_Keyword)))
noncomputable def q_ref29_Keyword_1 (m0 : Nat) : K (ResD [(.bool, [])]) := seqK E_ref29_Keyword (evJ E_ref29_Keyword (drE E_ref29_Keyword) m0) cd_ref29_Keyword_1 0 (evC E_ref29_Keyword (evJ E_ref29_Keyword (drE E_ref29_Keyword) m0) (drE E_ref29_Keyword) cd_ref29_Keyword_1 0) (q_ref29_Keyword_0 m0)
noncomputable def q_ref29_Keyword_2 (m0 : Nat) : K (ResD [(.bool, [])]) := blockK 0 (q_ref29_Keyword_1 m0)
noncomputable def cd_ref29_Keyword_2 : Code := (lft (lft (rgt (lft (rgt (rgt b_ref29_Keyword))))))
theorem st_ref29_Keyword_j0 (m0 : Nat) (n : Nat) (s_2 : ByteArray) (l_3 : (List ByteArray)) (i_4 : Int) : evJ E_ref29_Keyword (drE E_ref29_Keyword) (n + 1) (.loop cd_ref29_Keyword_2) 0 (sg_ref29_Keyword_0 s_2 l_3 i_4) (q_ref29_Keyword_2 m0) = ref29_Keyword.S0 (fun s_2 l_3 i_4 => evJ E_ref29_Keyword (drE E_ref29_Keyword) n (.loop cd_ref29_Keyword_2) 0 (sg_ref29_Keyword_0 s_2 l_3 i_4) (q_ref29_Keyword_2 m0)) s_2 l_3 i_4 := by kernel_rfl
theorem J_ref29_Keyword_0 (m0 : Nat) : ∀ (n : Nat) (s_2 : ByteArray) (l_3 : (List ByteArray)) (i_4 : Int), evJ E_ref29_Keyword (drE E_ref29_Keyword) n (.loop cd_ref29_Keyword_2) 0 (sg_ref29_Keyword_0 s_2 l_3 i_4) (q_ref29_Keyword_2 m0) = ref29_Keyword.l0 n s_2 l_3 i_4 := by
  intro n
  induction n with
  | zero => intros; rfl
  | succ n ih =>
    intro s_2 l_3 i_4
    have e0 : (fun s_2 l_3 i_4 => evJ E_ref29_Keyword (drE E_ref29_Keyword) n (.loop cd_ref29_Keyword_2) 0 (sg_ref29_Keyword_0 s_2 l_3 i_4) (q_ref29_Keyword_2 m0)) = (ref29_Keyword.l0 n) := by funext s_2 l_3 i_4; exact ih s_2 l_3 i_4
    refine (st_ref29_Keyword_j0 m0 n s_2 l_3 i_4).trans ?_
    rw [e0]; rfl
theorem st_ref29_Keyword (m0 : Nat) (s : ByteArray) : evC E_ref29_Keyword (evJ E_ref29_Keyword (drE E_ref29_Keyword) m0) (drE E_ref29_Keyword) b_ref29_Keyword 0 (st0 [.val .str] (s, ())) (fin E_ref29_Keyword [.tmp 2] 0 [(.bool, [])]) = ref29_Keyword.S (fun s_2 l_3 i_4 => evJ E_ref29_Keyword (drE E_ref29_Keyword) m0 (.loop cd_ref29_Keyword_2) 0 (sg_ref29_Keyword_0 s_2 l_3 i_4) (q_ref29_Keyword_2 m0)) s := by kernel_rfl
theorem ev_ref29_Keyword (s : ByteArray) : evC E_ref29_Keyword (evJ E_ref29_Keyword (drE E_ref29_Keyword) fu) (drE E_ref29_Keyword) b_ref29_Keyword 0 (st0 [.val .str] (s, ())) (fin E_ref29_Keyword [.tmp 2] 0 [(.bool, [])]) = ref29_Keyword s := by
  have e0 : (fun s_2 l_3 i_4 => evJ E_ref29_Keyword (drE E_ref29_Keyword) fu (.loop cd_ref29_Keyword_2) 0 (sg_ref29_Keyword_0 s_2 l_3 i_4) (q_ref29_Keyword_2 fu)) = (ref29_Keyword.l0 fu) := by funext s_2 l_3 i_4; exact J_ref29_Keyword_0 fu fu s_2 l_3 i_4
  refine (st_ref29_Keyword fu s).trans ?_
  rw [e0]; rfl
@[reducible] def sp_ref29_Keyword   : AM.Spec := AM.spec [.val .str] [(.bool, [])] (fun x => ref29_Keyword x.1)
theorem c_ref29_Keyword : Contract Tryz.prog 9 sp_ref29_Keyword :=
  contract_of (Tab.envOk tabOk _ _) calls_ref29_Keyword tabOk.mixed (fn := Tryz.f9) (c := b_ref29_Keyword) (ts := [.tmp 2]) (by kernel_rfl) (by kernel_rfl) (by kernel_rfl) (by decide) (by kernel_rfl) (by decide) rfl fun x _ h => ⟨fu, (ev_ref29_Keyword x.1).trans h⟩

/-! peristyle/peristylelaw29.LexTokens -/
@[reducible] noncomputable def E_law29_LexTokens : Env := tab.env (AM.look [(4, sp_law29_awake), (5, sp_lex_Tokens), (6, sp_ref29_Tokens), (7, sp_ref29_Same), (8, sp_lex_Keyword), (9, sp_ref29_Keyword)]) ⟨[], [], [], ⟨[(2, true)], []⟩, [], [4, 7, 8, 9]⟩
theorem calls_law29_LexTokens : CallsOk Tryz.prog E_law29_LexTokens := callsOk_of ⟨⟨c_law29_awake, Tryz.call4, fun _ => words_spec rfl⟩, ⟨⟨c_lex_Tokens, Tryz.call5, fun h => nomatch (show false = true from h)⟩, ⟨⟨c_ref29_Tokens, Tryz.call6, fun h => nomatch (show false = true from h)⟩, ⟨⟨c_ref29_Same, Tryz.call7, fun _ => words_spec rfl⟩, ⟨⟨c_lex_Keyword, Tryz.call8, fun _ => words_spec rfl⟩, ⟨⟨c_ref29_Keyword, Tryz.call9, fun _ => words_spec rfl⟩, trivial⟩⟩⟩⟩⟩⟩
noncomputable def b_law29_LexTokens : Code := (Tryz.f3.body).getD .skip
theorem st_law29_LexTokens (m0 : Nat) (s : ByteArray) : evC E_law29_LexTokens (evJ E_law29_LexTokens (drE E_law29_LexTokens) m0) (drE E_law29_LexTokens) b_law29_LexTokens 0 (st0 [.val .str] (s, ())) (fin E_law29_LexTokens [.tmp 2] 0 [(.bool, [])]) = law29_LexTokens s := by kernel_rfl
theorem ev_law29_LexTokens (s : ByteArray) : evC E_law29_LexTokens (evJ E_law29_LexTokens (drE E_law29_LexTokens) fu) (drE E_law29_LexTokens) b_law29_LexTokens 0 (st0 [.val .str] (s, ())) (fin E_law29_LexTokens [.tmp 2] 0 [(.bool, [])]) = law29_LexTokens s := st_law29_LexTokens fu s
@[reducible] def sp_law29_LexTokens   : AM.Spec := AM.spec [.val .str] [(.bool, [])] (fun x => law29_LexTokens x.1)
theorem c_law29_LexTokens : Contract Tryz.prog 3 sp_law29_LexTokens :=
  contract_of (Tab.envOk tabOk _ _) calls_law29_LexTokens tabOk.mixed (fn := Tryz.f3) (c := b_law29_LexTokens) (ts := [.tmp 2]) (by kernel_rfl) (by kernel_rfl) (by kernel_rfl) (by decide) (by kernel_rfl) (by decide) rfl fun x _ h => ⟨fu, (ev_law29_LexTokens x.1).trans h⟩
end Go.Proofs.YtboihdnijlilpaaGreatDoor.Am
