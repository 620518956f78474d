import Derived.Test.YtboihdnijlilpaaDoorAmPure28
import Derived.Test.YtboihdnijlilpaaDoorSPrim
/- PRINTED by gen/ of this repo: the code comes to the pure functions. -/
namespace Go.Proofs.YtboihdnijlilpaaDoor.Am
open Go.AM Go.AM.Pure
set_option linter.unusedVariables false

/-! peristyle/lex.kind -/
@[reducible] noncomputable def E_lex_kind : Env := tab.env (AM.look []) ⟨[], [], [(5, ⟨[(0, true)], []⟩)], ⟨[(2, true)], []⟩, [], []⟩
theorem calls_lex_kind : CallsOk Tryd.prog E_lex_kind := callsOk_of trivial
noncomputable def b_lex_kind : Code := (Tryd.f11.body).getD .skip
noncomputable def sg_lex_kind_0 (c_1 : Int) : St := mk [(0, .dat (.int .u8) c_1 [])] []
noncomputable def q_lex_kind_0 (m0 : Nat) : K (ResD [((.int .i64), [])]) := fin E_lex_kind [.tmp 2] 0 [((.int .i64), [])]
noncomputable def cd_lex_kind_1 : Code := (rgt (rgt b_lex_kind))
theorem st_lex_kind_j0 (m0 : Nat) (n : Nat) (c_1 : Int) : evJ E_lex_kind (drE E_lex_kind) (n + 1) (.tail cd_lex_kind_1) 0 (sg_lex_kind_0 c_1) (q_lex_kind_0 m0) = lex_kind.S0 c_1 := by kernel_rfl
theorem J_lex_kind_0 (m0 : Nat) : ∀ (n : Nat) (c_1 : Int), evJ E_lex_kind (drE E_lex_kind) n (.tail cd_lex_kind_1) 0 (sg_lex_kind_0 c_1) (q_lex_kind_0 m0) = lex_kind.t0 n c_1 := by
  intro n
  induction n with
  | zero => intros; rfl
  | succ n ih =>
    intro c_1
    have e0 : (fun c_1 => evJ E_lex_kind (drE E_lex_kind) n (.tail cd_lex_kind_1) 0 (sg_lex_kind_0 c_1) (q_lex_kind_0 m0)) = (lex_kind.t0 n) := by funext c_1; exact ih c_1
    refine (st_lex_kind_j0 m0 n c_1).trans ?_
    rfl
theorem st_lex_kind (m0 : Nat) (c : Int) : evC E_lex_kind (evJ E_lex_kind (drE E_lex_kind) m0) (drE E_lex_kind) b_lex_kind 0 (st0 [.val (.int .u8)] (c, ())) (fin E_lex_kind [.tmp 2] 0 [((.int .i64), [])]) = lex_kind.S (fun c_1 => evJ E_lex_kind (drE E_lex_kind) m0 (.tail cd_lex_kind_1) 0 (sg_lex_kind_0 c_1) (q_lex_kind_0 m0)) c := by kernel_rfl
theorem ev_lex_kind (c : Int) : evC E_lex_kind (evJ E_lex_kind (drE E_lex_kind) fu) (drE E_lex_kind) b_lex_kind 0 (st0 [.val (.int .u8)] (c, ())) (fin E_lex_kind [.tmp 2] 0 [((.int .i64), [])]) = lex_kind c := by
  have e0 : (fun c_1 => evJ E_lex_kind (drE E_lex_kind) fu (.tail cd_lex_kind_1) 0 (sg_lex_kind_0 c_1) (q_lex_kind_0 fu)) = (lex_kind.t0 fu) := by funext c_1; exact J_lex_kind_0 fu fu c_1
  refine (st_lex_kind fu c).trans ?_
  rw [e0]; rfl
@[reducible] def sp_lex_kind   : AM.Spec := AM.spec [.val (.int .u8)] [((.int .i64), [])] (fun x => lex_kind x.1)
theorem c_lex_kind : Contract Tryd.prog 11 sp_lex_kind :=
  contract_of (Tab.envOk tabOk _ _) calls_lex_kind tabOk.mixed (fn := Tryd.f11) (c := b_lex_kind) (ts := [.tmp 2]) (by kernel_rfl) (by kernel_rfl) (by kernel_rfl) (by decide) (by kernel_rfl) (by decide) rfl fun x _ h => ⟨fu, (ev_lex_kind x.1).trans h⟩

/-! peristyle/lex.Tokens$1 -/
@[reducible] noncomputable def E_lex_Tokens_1 : Env := tab.env (AM.look [(11, sp_lex_kind)]) ⟨[], [], [], ⟨[(2, true)], []⟩, [], [11]⟩
theorem calls_lex_Tokens_1 : CallsOk Tryd.prog E_lex_Tokens_1 := callsOk_of ⟨⟨c_lex_kind, Tryd.call11, fun _ => words_spec rfl⟩, trivial⟩
noncomputable def b_lex_Tokens_1 : Code := (Tryd.f10.body).getD .skip
theorem st_lex_Tokens_1 (m0 : Nat) (c : Int) : evC E_lex_Tokens_1 (evJ E_lex_Tokens_1 (drE E_lex_Tokens_1) m0) (drE E_lex_Tokens_1) b_lex_Tokens_1 0 (st0 [.val (.int .u8)] (c, ())) (fin E_lex_Tokens_1 [.tmp 2] 0 [(.bool, [])]) = lex_Tokens_1 c := by kernel_rfl
theorem ev_lex_Tokens_1 (c : Int) : evC E_lex_Tokens_1 (evJ E_lex_Tokens_1 (drE E_lex_Tokens_1) fu) (drE E_lex_Tokens_1) b_lex_Tokens_1 0 (st0 [.val (.int .u8)] (c, ())) (fin E_lex_Tokens_1 [.tmp 2] 0 [(.bool, [])]) = lex_Tokens_1 c := st_lex_Tokens_1 fu c
@[reducible] def sp_lex_Tokens_1   : AM.Spec := AM.spec [.val (.int .u8)] [(.bool, [])] (fun x => lex_Tokens_1 x.1)
theorem c_lex_Tokens_1 : Contract Tryd.prog 10 sp_lex_Tokens_1 :=
  contract_of (Tab.envOk tabOk _ _) calls_lex_Tokens_1 tabOk.mixed (fn := Tryd.f10) (c := b_lex_Tokens_1) (ts := [.tmp 2]) (by kernel_rfl) (by kernel_rfl) (by kernel_rfl) (by decide) (by kernel_rfl) (by decide) rfl fun x _ h => ⟨fu, (ev_lex_Tokens_1 x.1).trans h⟩

/-! (*peristyle/lex.lexer).while -/
@[reducible] noncomputable def E_lex_lexer_while__lex_Tokens_1_w : Env := tab.env (AM.look [(10, sp_lex_Tokens_1)]) ⟨[(0, ⟨[(0, true), (1, true), (5, true)], [(1000000, true)]⟩)], [], [(4, ⟨[(0, true), (5, true)], [(1000000, true)]⟩)], ⟨[(4, true)], [(1000000, true)]⟩, [], [10]⟩
theorem calls_lex_lexer_while__lex_Tokens_1_w : CallsOk Tryd.prog E_lex_lexer_while__lex_Tokens_1_w := callsOk_of ⟨⟨c_lex_Tokens_1, Tryd.call10, fun _ => words_spec rfl⟩, trivial⟩
noncomputable def b_lex_lexer_while__lex_Tokens_1_w : Code := (Tryd.f9.body).getD .skip
noncomputable def sg_lex_lexer_while__lex_Tokens_1_w_1 (k_4 : Int) (t1000000_5 : (ByteArray × Int)) : St := mk [(0, .ptr 1000000 0 0), (5, .dat (.int .i64) k_4 [])] [(1000000, some (.var (.pair .str (.int .i64)) t1000000_5 []))]
noncomputable def sg_lex_lexer_while__lex_Tokens_1_w_0 (k_1 : Int) (t1000000_2 : (ByteArray × Int)) : St := mk [(0, .ptr 1000000 0 0), (1, .fn 10 []), (5, .dat (.int .i64) k_1 [])] [(1000000, some (.var (.pair .str (.int .i64)) t1000000_2 []))]
noncomputable def q_lex_lexer_while__lex_Tokens_1_w_0 (m0 : Nat) : K (ResD [(.str, []), ((.pair .str (.int .i64)), [])]) := fin E_lex_lexer_while__lex_Tokens_1_w [.tmp 4] 1 [(.str, []), ((.pair .str (.int .i64)), [])]
noncomputable def cd_lex_lexer_while__lex_Tokens_1_w_1 : Code := (rgt (rgt (rgt b_lex_lexer_while__lex_Tokens_1_w)))
theorem st_lex_lexer_while__lex_Tokens_1_w_j1 (m0 : Nat) (n : Nat) (k_4 : Int) (t1000000_5 : (ByteArray × Int)) : evJ E_lex_lexer_while__lex_Tokens_1_w (drE E_lex_lexer_while__lex_Tokens_1_w) (n + 1) (.tail cd_lex_lexer_while__lex_Tokens_1_w_1) 0 (sg_lex_lexer_while__lex_Tokens_1_w_1 k_4 t1000000_5) (q_lex_lexer_while__lex_Tokens_1_w_0 m0) = lex_lexer_while__lex_Tokens_1_w.S1 k_4 t1000000_5 := by kernel_rfl
theorem J_lex_lexer_while__lex_Tokens_1_w_1 (m0 : Nat) : ∀ (n : Nat) (k_4 : Int) (t1000000_5 : (ByteArray × Int)), evJ E_lex_lexer_while__lex_Tokens_1_w (drE E_lex_lexer_while__lex_Tokens_1_w) n (.tail cd_lex_lexer_while__lex_Tokens_1_w_1) 0 (sg_lex_lexer_while__lex_Tokens_1_w_1 k_4 t1000000_5) (q_lex_lexer_while__lex_Tokens_1_w_0 m0) = lex_lexer_while__lex_Tokens_1_w.t1 n k_4 t1000000_5 := by
  intro n
  induction n with
  | zero => intros; rfl
  | succ n ih =>
    intro k_4 t1000000_5
    have e1 : (fun k_4 t1000000_5 => evJ E_lex_lexer_while__lex_Tokens_1_w (drE E_lex_lexer_while__lex_Tokens_1_w) n (.tail cd_lex_lexer_while__lex_Tokens_1_w_1) 0 (sg_lex_lexer_while__lex_Tokens_1_w_1 k_4 t1000000_5) (q_lex_lexer_while__lex_Tokens_1_w_0 m0)) = (lex_lexer_while__lex_Tokens_1_w.t1 n) := by funext k_4 t1000000_5; exact ih k_4 t1000000_5
    refine (st_lex_lexer_while__lex_Tokens_1_w_j1 m0 n k_4 t1000000_5).trans ?_
    rfl
noncomputable def q_lex_lexer_while__lex_Tokens_1_w_1 (m0 : Nat) : K (ResD [(.str, []), ((.pair .str (.int .i64)), [])]) := seqK E_lex_lexer_while__lex_Tokens_1_w (evJ E_lex_lexer_while__lex_Tokens_1_w (drE E_lex_lexer_while__lex_Tokens_1_w) m0) cd_lex_lexer_while__lex_Tokens_1_w_1 0 (evC E_lex_lexer_while__lex_Tokens_1_w (evJ E_lex_lexer_while__lex_Tokens_1_w (drE E_lex_lexer_while__lex_Tokens_1_w) m0) (drE E_lex_lexer_while__lex_Tokens_1_w) cd_lex_lexer_while__lex_Tokens_1_w_1 0) (q_lex_lexer_while__lex_Tokens_1_w_0 m0)
noncomputable def q_lex_lexer_while__lex_Tokens_1_w_2 (m0 : Nat) : K (ResD [(.str, []), ((.pair .str (.int .i64)), [])]) := blockK 0 (q_lex_lexer_while__lex_Tokens_1_w_1 m0)
noncomputable def cd_lex_lexer_while__lex_Tokens_1_w_2 : Code := (lft (lft (lft (rgt (rgt b_lex_lexer_while__lex_Tokens_1_w)))))
theorem st_lex_lexer_while__lex_Tokens_1_w_j0 (m0 : Nat) (n : Nat) (k_1 : Int) (t1000000_2 : (ByteArray × Int)) : evJ E_lex_lexer_while__lex_Tokens_1_w (drE E_lex_lexer_while__lex_Tokens_1_w) (n + 1) (.loop cd_lex_lexer_while__lex_Tokens_1_w_2) 0 (sg_lex_lexer_while__lex_Tokens_1_w_0 k_1 t1000000_2) (q_lex_lexer_while__lex_Tokens_1_w_2 m0) = lex_lexer_while__lex_Tokens_1_w.S0 (fun k_4 t1000000_5 => evJ E_lex_lexer_while__lex_Tokens_1_w (drE E_lex_lexer_while__lex_Tokens_1_w) m0 (.tail cd_lex_lexer_while__lex_Tokens_1_w_1) 0 (sg_lex_lexer_while__lex_Tokens_1_w_1 k_4 t1000000_5) (q_lex_lexer_while__lex_Tokens_1_w_0 m0)) (fun k_1 t1000000_2 => evJ E_lex_lexer_while__lex_Tokens_1_w (drE E_lex_lexer_while__lex_Tokens_1_w) n (.loop cd_lex_lexer_while__lex_Tokens_1_w_2) 0 (sg_lex_lexer_while__lex_Tokens_1_w_0 k_1 t1000000_2) (q_lex_lexer_while__lex_Tokens_1_w_2 m0)) k_1 t1000000_2 := by kernel_rfl
theorem J_lex_lexer_while__lex_Tokens_1_w_0 (m0 : Nat) : ∀ (n : Nat) (k_1 : Int) (t1000000_2 : (ByteArray × Int)), evJ E_lex_lexer_while__lex_Tokens_1_w (drE E_lex_lexer_while__lex_Tokens_1_w) n (.loop cd_lex_lexer_while__lex_Tokens_1_w_2) 0 (sg_lex_lexer_while__lex_Tokens_1_w_0 k_1 t1000000_2) (q_lex_lexer_while__lex_Tokens_1_w_2 m0) = lex_lexer_while__lex_Tokens_1_w.l0 (fun k_4 t1000000_5 => evJ E_lex_lexer_while__lex_Tokens_1_w (drE E_lex_lexer_while__lex_Tokens_1_w) m0 (.tail cd_lex_lexer_while__lex_Tokens_1_w_1) 0 (sg_lex_lexer_while__lex_Tokens_1_w_1 k_4 t1000000_5) (q_lex_lexer_while__lex_Tokens_1_w_0 m0)) n k_1 t1000000_2 := by
  intro n
  induction n with
  | zero => intros; rfl
  | succ n ih =>
    intro k_1 t1000000_2
    have e0 : (fun k_1 t1000000_2 => evJ E_lex_lexer_while__lex_Tokens_1_w (drE E_lex_lexer_while__lex_Tokens_1_w) n (.loop cd_lex_lexer_while__lex_Tokens_1_w_2) 0 (sg_lex_lexer_while__lex_Tokens_1_w_0 k_1 t1000000_2) (q_lex_lexer_while__lex_Tokens_1_w_2 m0)) = (lex_lexer_while__lex_Tokens_1_w.l0 (fun k_4 t1000000_5 => evJ E_lex_lexer_while__lex_Tokens_1_w (drE E_lex_lexer_while__lex_Tokens_1_w) m0 (.tail cd_lex_lexer_while__lex_Tokens_1_w_1) 0 (sg_lex_lexer_while__lex_Tokens_1_w_1 k_4 t1000000_5) (q_lex_lexer_while__lex_Tokens_1_w_0 m0)) n) := by funext k_1 t1000000_2; exact ih k_1 t1000000_2
    refine (st_lex_lexer_while__lex_Tokens_1_w_j0 m0 n k_1 t1000000_2).trans ?_
    rw [e0]; rfl
theorem st_lex_lexer_while__lex_Tokens_1_w (m0 : Nat) (l : (ByteArray × Int)) : evC E_lex_lexer_while__lex_Tokens_1_w (evJ E_lex_lexer_while__lex_Tokens_1_w (drE E_lex_lexer_while__lex_Tokens_1_w) m0) (drE E_lex_lexer_while__lex_Tokens_1_w) b_lex_lexer_while__lex_Tokens_1_w 0 (st0 [.io (.pair .str (.int .i64)) [], .fn 10 []] (l, (), ())) (fin E_lex_lexer_while__lex_Tokens_1_w [.tmp 4] 1 [(.str, []), ((.pair .str (.int .i64)), [])]) = lex_lexer_while__lex_Tokens_1_w.S (fun k_1 t1000000_2 => evJ E_lex_lexer_while__lex_Tokens_1_w (drE E_lex_lexer_while__lex_Tokens_1_w) m0 (.loop cd_lex_lexer_while__lex_Tokens_1_w_2) 0 (sg_lex_lexer_while__lex_Tokens_1_w_0 k_1 t1000000_2) (q_lex_lexer_while__lex_Tokens_1_w_2 m0)) l := by kernel_rfl
theorem ev_lex_lexer_while__lex_Tokens_1_w (l : (ByteArray × Int)) : evC E_lex_lexer_while__lex_Tokens_1_w (evJ E_lex_lexer_while__lex_Tokens_1_w (drE E_lex_lexer_while__lex_Tokens_1_w) fu) (drE E_lex_lexer_while__lex_Tokens_1_w) b_lex_lexer_while__lex_Tokens_1_w 0 (st0 [.io (.pair .str (.int .i64)) [], .fn 10 []] (l, (), ())) (fin E_lex_lexer_while__lex_Tokens_1_w [.tmp 4] 1 [(.str, []), ((.pair .str (.int .i64)), [])]) = lex_lexer_while__lex_Tokens_1_w l := by
  have e1 : (fun k_4 t1000000_5 => evJ E_lex_lexer_while__lex_Tokens_1_w (drE E_lex_lexer_while__lex_Tokens_1_w) fu (.tail cd_lex_lexer_while__lex_Tokens_1_w_1) 0 (sg_lex_lexer_while__lex_Tokens_1_w_1 k_4 t1000000_5) (q_lex_lexer_while__lex_Tokens_1_w_0 fu)) = (lex_lexer_while__lex_Tokens_1_w.t1 fu) := by funext k_4 t1000000_5; exact J_lex_lexer_while__lex_Tokens_1_w_1 fu fu k_4 t1000000_5
  have e0 : (fun k_1 t1000000_2 => evJ E_lex_lexer_while__lex_Tokens_1_w (drE E_lex_lexer_while__lex_Tokens_1_w) fu (.loop cd_lex_lexer_while__lex_Tokens_1_w_2) 0 (sg_lex_lexer_while__lex_Tokens_1_w_0 k_1 t1000000_2) (q_lex_lexer_while__lex_Tokens_1_w_2 fu)) = (lex_lexer_while__lex_Tokens_1_w.l0 (lex_lexer_while__lex_Tokens_1_w.t1 fu) fu) := by rw [← e1]; funext k_1 t1000000_2; exact J_lex_lexer_while__lex_Tokens_1_w_0 fu fu k_1 t1000000_2
  refine (st_lex_lexer_while__lex_Tokens_1_w fu l).trans ?_
  rw [e0]; rfl
@[reducible] def sp_lex_lexer_while__lex_Tokens_1_w   : AM.Spec := AM.specIo 1 [.io (.pair .str (.int .i64)) [], .fn 10 []] [(.str, []), ((.pair .str (.int .i64)), [])] (fun x => lex_lexer_while__lex_Tokens_1_w x.1)
theorem c_lex_lexer_while__lex_Tokens_1_w : Contract Tryd.prog 9 sp_lex_lexer_while__lex_Tokens_1_w :=
  contract_io (Tab.envOk tabOk _ _) calls_lex_lexer_while__lex_Tokens_1_w tabOk.mixed (fn := Tryd.f9) (c := b_lex_lexer_while__lex_Tokens_1_w) (ts := [.tmp 4]) (by kernel_rfl) (by kernel_rfl) (by kernel_rfl) (by decide) (by kernel_rfl) (by decide) fun x _ h => ⟨fu, (ev_lex_lexer_while__lex_Tokens_1_w x.1).trans h⟩

/-! (*peristyle/lex.lexer).next$1 -/
@[reducible] noncomputable def E_lex_lexer_next_1 : Env := tab.env (AM.look [(11, sp_lex_kind)]) ⟨[], [], [], ⟨[(2, true)], []⟩, [], [11]⟩
theorem calls_lex_lexer_next_1 : CallsOk Tryd.prog E_lex_lexer_next_1 := callsOk_of ⟨⟨c_lex_kind, Tryd.call11, fun _ => words_spec rfl⟩, trivial⟩
noncomputable def b_lex_lexer_next_1 : Code := (Tryd.f15.body).getD .skip
theorem st_lex_lexer_next_1 (m0 : Nat) (c : Int) : evC E_lex_lexer_next_1 (evJ E_lex_lexer_next_1 (drE E_lex_lexer_next_1) m0) (drE E_lex_lexer_next_1) b_lex_lexer_next_1 0 (st0 [.val (.int .u8)] (c, ())) (fin E_lex_lexer_next_1 [.tmp 2] 0 [(.bool, [])]) = lex_lexer_next_1 c := by kernel_rfl
theorem ev_lex_lexer_next_1 (c : Int) : evC E_lex_lexer_next_1 (evJ E_lex_lexer_next_1 (drE E_lex_lexer_next_1) fu) (drE E_lex_lexer_next_1) b_lex_lexer_next_1 0 (st0 [.val (.int .u8)] (c, ())) (fin E_lex_lexer_next_1 [.tmp 2] 0 [(.bool, [])]) = lex_lexer_next_1 c := st_lex_lexer_next_1 fu c
@[reducible] def sp_lex_lexer_next_1   : AM.Spec := AM.spec [.val (.int .u8)] [(.bool, [])] (fun x => lex_lexer_next_1 x.1)
theorem c_lex_lexer_next_1 : Contract Tryd.prog 15 sp_lex_lexer_next_1 :=
  contract_of (Tab.envOk tabOk _ _) calls_lex_lexer_next_1 tabOk.mixed (fn := Tryd.f15) (c := b_lex_lexer_next_1) (ts := [.tmp 2]) (by kernel_rfl) (by kernel_rfl) (by kernel_rfl) (by decide) (by kernel_rfl) (by decide) rfl fun x _ h => ⟨fu, (ev_lex_lexer_next_1 x.1).trans h⟩

/-! (*peristyle/lex.lexer).while -/
@[reducible] noncomputable def E_lex_lexer_while__lex_lexer_next_1_w : Env := tab.env (AM.look [(15, sp_lex_lexer_next_1)]) ⟨[(0, ⟨[(0, true), (1, true), (5, true)], [(1000000, true)]⟩)], [], [(4, ⟨[(0, true), (5, true)], [(1000000, true)]⟩)], ⟨[(4, true)], [(1000000, true)]⟩, [], [15]⟩
theorem calls_lex_lexer_while__lex_lexer_next_1_w : CallsOk Tryd.prog E_lex_lexer_while__lex_lexer_next_1_w := callsOk_of ⟨⟨c_lex_lexer_next_1, Tryd.call15, fun _ => words_spec rfl⟩, trivial⟩
noncomputable def b_lex_lexer_while__lex_lexer_next_1_w : Code := (Tryd.f9.body).getD .skip
noncomputable def sg_lex_lexer_while__lex_lexer_next_1_w_1 (k_4 : Int) (t1000000_5 : (ByteArray × Int)) : St := mk [(0, .ptr 1000000 0 0), (5, .dat (.int .i64) k_4 [])] [(1000000, some (.var (.pair .str (.int .i64)) t1000000_5 []))]
noncomputable def sg_lex_lexer_while__lex_lexer_next_1_w_0 (k_1 : Int) (t1000000_2 : (ByteArray × Int)) : St := mk [(0, .ptr 1000000 0 0), (1, .fn 15 []), (5, .dat (.int .i64) k_1 [])] [(1000000, some (.var (.pair .str (.int .i64)) t1000000_2 []))]
noncomputable def q_lex_lexer_while__lex_lexer_next_1_w_0 (m0 : Nat) : K (ResD [(.str, []), ((.pair .str (.int .i64)), [])]) := fin E_lex_lexer_while__lex_lexer_next_1_w [.tmp 4] 1 [(.str, []), ((.pair .str (.int .i64)), [])]
noncomputable def cd_lex_lexer_while__lex_lexer_next_1_w_1 : Code := (rgt (rgt (rgt b_lex_lexer_while__lex_lexer_next_1_w)))
theorem st_lex_lexer_while__lex_lexer_next_1_w_j1 (m0 : Nat) (n : Nat) (k_4 : Int) (t1000000_5 : (ByteArray × Int)) : evJ E_lex_lexer_while__lex_lexer_next_1_w (drE E_lex_lexer_while__lex_lexer_next_1_w) (n + 1) (.tail cd_lex_lexer_while__lex_lexer_next_1_w_1) 0 (sg_lex_lexer_while__lex_lexer_next_1_w_1 k_4 t1000000_5) (q_lex_lexer_while__lex_lexer_next_1_w_0 m0) = lex_lexer_while__lex_lexer_next_1_w.S1 k_4 t1000000_5 := by kernel_rfl
theorem J_lex_lexer_while__lex_lexer_next_1_w_1 (m0 : Nat) : ∀ (n : Nat) (k_4 : Int) (t1000000_5 : (ByteArray × Int)), evJ E_lex_lexer_while__lex_lexer_next_1_w (drE E_lex_lexer_while__lex_lexer_next_1_w) n (.tail cd_lex_lexer_while__lex_lexer_next_1_w_1) 0 (sg_lex_lexer_while__lex_lexer_next_1_w_1 k_4 t1000000_5) (q_lex_lexer_while__lex_lexer_next_1_w_0 m0) = lex_lexer_while__lex_lexer_next_1_w.t1 n k_4 t1000000_5 := by
  intro n
  induction n with
  | zero => intros; rfl
  | succ n ih =>
    intro k_4 t1000000_5
    have e1 : (fun k_4 t1000000_5 => evJ E_lex_lexer_while__lex_lexer_next_1_w (drE E_lex_lexer_while__lex_lexer_next_1_w) n (.tail cd_lex_lexer_while__lex_lexer_next_1_w_1) 0 (sg_lex_lexer_while__lex_lexer_next_1_w_1 k_4 t1000000_5) (q_lex_lexer_while__lex_lexer_next_1_w_0 m0)) = (lex_lexer_while__lex_lexer_next_1_w.t1 n) := by funext k_4 t1000000_5; exact ih k_4 t1000000_5
    refine (st_lex_lexer_while__lex_lexer_next_1_w_j1 m0 n k_4 t1000000_5).trans ?_
    rfl
noncomputable def q_lex_lexer_while__lex_lexer_next_1_w_1 (m0 : Nat) : K (ResD [(.str, []), ((.pair .str (.int .i64)), [])]) := seqK E_lex_lexer_while__lex_lexer_next_1_w (evJ E_lex_lexer_while__lex_lexer_next_1_w (drE E_lex_lexer_while__lex_lexer_next_1_w) m0) cd_lex_lexer_while__lex_lexer_next_1_w_1 0 (evC E_lex_lexer_while__lex_lexer_next_1_w (evJ E_lex_lexer_while__lex_lexer_next_1_w (drE E_lex_lexer_while__lex_lexer_next_1_w) m0) (drE E_lex_lexer_while__lex_lexer_next_1_w) cd_lex_lexer_while__lex_lexer_next_1_w_1 0) (q_lex_lexer_while__lex_lexer_next_1_w_0 m0)
noncomputable def q_lex_lexer_while__lex_lexer_next_1_w_2 (m0 : Nat) : K (ResD [(.str, []), ((.pair .str (.int .i64)), [])]) := blockK 0 (q_lex_lexer_while__lex_lexer_next_1_w_1 m0)
noncomputable def cd_lex_lexer_while__lex_lexer_next_1_w_2 : Code := (lft (lft (lft (rgt (rgt b_lex_lexer_while__lex_lexer_next_1_w)))))
theorem st_lex_lexer_while__lex_lexer_next_1_w_j0 (m0 : Nat) (n : Nat) (k_1 : Int) (t1000000_2 : (ByteArray × Int)) : evJ E_lex_lexer_while__lex_lexer_next_1_w (drE E_lex_lexer_while__lex_lexer_next_1_w) (n + 1) (.loop cd_lex_lexer_while__lex_lexer_next_1_w_2) 0 (sg_lex_lexer_while__lex_lexer_next_1_w_0 k_1 t1000000_2) (q_lex_lexer_while__lex_lexer_next_1_w_2 m0) = lex_lexer_while__lex_lexer_next_1_w.S0 (fun k_4 t1000000_5 => evJ E_lex_lexer_while__lex_lexer_next_1_w (drE E_lex_lexer_while__lex_lexer_next_1_w) m0 (.tail cd_lex_lexer_while__lex_lexer_next_1_w_1) 0 (sg_lex_lexer_while__lex_lexer_next_1_w_1 k_4 t1000000_5) (q_lex_lexer_while__lex_lexer_next_1_w_0 m0)) (fun k_1 t1000000_2 => evJ E_lex_lexer_while__lex_lexer_next_1_w (drE E_lex_lexer_while__lex_lexer_next_1_w) n (.loop cd_lex_lexer_while__lex_lexer_next_1_w_2) 0 (sg_lex_lexer_while__lex_lexer_next_1_w_0 k_1 t1000000_2) (q_lex_lexer_while__lex_lexer_next_1_w_2 m0)) k_1 t1000000_2 := by kernel_rfl
theorem J_lex_lexer_while__lex_lexer_next_1_w_0 (m0 : Nat) : ∀ (n : Nat) (k_1 : Int) (t1000000_2 : (ByteArray × Int)), evJ E_lex_lexer_while__lex_lexer_next_1_w (drE E_lex_lexer_while__lex_lexer_next_1_w) n (.loop cd_lex_lexer_while__lex_lexer_next_1_w_2) 0 (sg_lex_lexer_while__lex_lexer_next_1_w_0 k_1 t1000000_2) (q_lex_lexer_while__lex_lexer_next_1_w_2 m0) = lex_lexer_while__lex_lexer_next_1_w.l0 (fun k_4 t1000000_5 => evJ E_lex_lexer_while__lex_lexer_next_1_w (drE E_lex_lexer_while__lex_lexer_next_1_w) m0 (.tail cd_lex_lexer_while__lex_lexer_next_1_w_1) 0 (sg_lex_lexer_while__lex_lexer_next_1_w_1 k_4 t1000000_5) (q_lex_lexer_while__lex_lexer_next_1_w_0 m0)) n k_1 t1000000_2 := by
  intro n
  induction n with
  | zero => intros; rfl
  | succ n ih =>
    intro k_1 t1000000_2
    have e0 : (fun k_1 t1000000_2 => evJ E_lex_lexer_while__lex_lexer_next_1_w (drE E_lex_lexer_while__lex_lexer_next_1_w) n (.loop cd_lex_lexer_while__lex_lexer_next_1_w_2) 0 (sg_lex_lexer_while__lex_lexer_next_1_w_0 k_1 t1000000_2) (q_lex_lexer_while__lex_lexer_next_1_w_2 m0)) = (lex_lexer_while__lex_lexer_next_1_w.l0 (fun k_4 t1000000_5 => evJ E_lex_lexer_while__lex_lexer_next_1_w (drE E_lex_lexer_while__lex_lexer_next_1_w) m0 (.tail cd_lex_lexer_while__lex_lexer_next_1_w_1) 0 (sg_lex_lexer_while__lex_lexer_next_1_w_1 k_4 t1000000_5) (q_lex_lexer_while__lex_lexer_next_1_w_0 m0)) n) := by funext k_1 t1000000_2; exact ih k_1 t1000000_2
    refine (st_lex_lexer_while__lex_lexer_next_1_w_j0 m0 n k_1 t1000000_2).trans ?_
    rw [e0]; rfl
theorem st_lex_lexer_while__lex_lexer_next_1_w (m0 : Nat) (l : (ByteArray × Int)) : evC E_lex_lexer_while__lex_lexer_next_1_w (evJ E_lex_lexer_while__lex_lexer_next_1_w (drE E_lex_lexer_while__lex_lexer_next_1_w) m0) (drE E_lex_lexer_while__lex_lexer_next_1_w) b_lex_lexer_while__lex_lexer_next_1_w 0 (st0 [.io (.pair .str (.int .i64)) [], .fn 15 []] (l, (), ())) (fin E_lex_lexer_while__lex_lexer_next_1_w [.tmp 4] 1 [(.str, []), ((.pair .str (.int .i64)), [])]) = lex_lexer_while__lex_lexer_next_1_w.S (fun k_1 t1000000_2 => evJ E_lex_lexer_while__lex_lexer_next_1_w (drE E_lex_lexer_while__lex_lexer_next_1_w) m0 (.loop cd_lex_lexer_while__lex_lexer_next_1_w_2) 0 (sg_lex_lexer_while__lex_lexer_next_1_w_0 k_1 t1000000_2) (q_lex_lexer_while__lex_lexer_next_1_w_2 m0)) l := by kernel_rfl
theorem ev_lex_lexer_while__lex_lexer_next_1_w (l : (ByteArray × Int)) : evC E_lex_lexer_while__lex_lexer_next_1_w (evJ E_lex_lexer_while__lex_lexer_next_1_w (drE E_lex_lexer_while__lex_lexer_next_1_w) fu) (drE E_lex_lexer_while__lex_lexer_next_1_w) b_lex_lexer_while__lex_lexer_next_1_w 0 (st0 [.io (.pair .str (.int .i64)) [], .fn 15 []] (l, (), ())) (fin E_lex_lexer_while__lex_lexer_next_1_w [.tmp 4] 1 [(.str, []), ((.pair .str (.int .i64)), [])]) = lex_lexer_while__lex_lexer_next_1_w l := by
  have e1 : (fun k_4 t1000000_5 => evJ E_lex_lexer_while__lex_lexer_next_1_w (drE E_lex_lexer_while__lex_lexer_next_1_w) fu (.tail cd_lex_lexer_while__lex_lexer_next_1_w_1) 0 (sg_lex_lexer_while__lex_lexer_next_1_w_1 k_4 t1000000_5) (q_lex_lexer_while__lex_lexer_next_1_w_0 fu)) = (lex_lexer_while__lex_lexer_next_1_w.t1 fu) := by funext k_4 t1000000_5; exact J_lex_lexer_while__lex_lexer_next_1_w_1 fu fu k_4 t1000000_5
  have e0 : (fun k_1 t1000000_2 => evJ E_lex_lexer_while__lex_lexer_next_1_w (drE E_lex_lexer_while__lex_lexer_next_1_w) fu (.loop cd_lex_lexer_while__lex_lexer_next_1_w_2) 0 (sg_lex_lexer_while__lex_lexer_next_1_w_0 k_1 t1000000_2) (q_lex_lexer_while__lex_lexer_next_1_w_2 fu)) = (lex_lexer_while__lex_lexer_next_1_w.l0 (lex_lexer_while__lex_lexer_next_1_w.t1 fu) fu) := by rw [← e1]; funext k_1 t1000000_2; exact J_lex_lexer_while__lex_lexer_next_1_w_0 fu fu k_1 t1000000_2
  refine (st_lex_lexer_while__lex_lexer_next_1_w fu l).trans ?_
  rw [e0]; rfl
@[reducible] def sp_lex_lexer_while__lex_lexer_next_1_w   : AM.Spec := AM.specIo 1 [.io (.pair .str (.int .i64)) [], .fn 15 []] [(.str, []), ((.pair .str (.int .i64)), [])] (fun x => lex_lexer_while__lex_lexer_next_1_w x.1)
theorem c_lex_lexer_while__lex_lexer_next_1_w : Contract Tryd.prog 9 sp_lex_lexer_while__lex_lexer_next_1_w :=
  contract_io (Tab.envOk tabOk _ _) calls_lex_lexer_while__lex_lexer_next_1_w tabOk.mixed (fn := Tryd.f9) (c := b_lex_lexer_while__lex_lexer_next_1_w) (ts := [.tmp 4]) (by kernel_rfl) (by kernel_rfl) (by kernel_rfl) (by decide) (by kernel_rfl) (by decide) fun x _ h => ⟨fu, (ev_lex_lexer_while__lex_lexer_next_1_w x.1).trans h⟩

/-! (*peristyle/lex.lexer).number$1 -/
@[reducible] noncomputable def E_lex_lexer_number_1 : Env := tab.env (AM.look [(11, sp_lex_kind)]) ⟨[], [], [], ⟨[(2, true)], []⟩, [], [11]⟩
theorem calls_lex_lexer_number_1 : CallsOk Tryd.prog E_lex_lexer_number_1 := callsOk_of ⟨⟨c_lex_kind, Tryd.call11, fun _ => words_spec rfl⟩, trivial⟩
noncomputable def b_lex_lexer_number_1 : Code := (Tryd.f21.body).getD .skip
theorem st_lex_lexer_number_1 (m0 : Nat) (c : Int) : evC E_lex_lexer_number_1 (evJ E_lex_lexer_number_1 (drE E_lex_lexer_number_1) m0) (drE E_lex_lexer_number_1) b_lex_lexer_number_1 0 (st0 [.val (.int .u8)] (c, ())) (fin E_lex_lexer_number_1 [.tmp 2] 0 [(.bool, [])]) = lex_lexer_number_1 c := by kernel_rfl
theorem ev_lex_lexer_number_1 (c : Int) : evC E_lex_lexer_number_1 (evJ E_lex_lexer_number_1 (drE E_lex_lexer_number_1) fu) (drE E_lex_lexer_number_1) b_lex_lexer_number_1 0 (st0 [.val (.int .u8)] (c, ())) (fin E_lex_lexer_number_1 [.tmp 2] 0 [(.bool, [])]) = lex_lexer_number_1 c := st_lex_lexer_number_1 fu c
@[reducible] def sp_lex_lexer_number_1   : AM.Spec := AM.spec [.val (.int .u8)] [(.bool, [])] (fun x => lex_lexer_number_1 x.1)
theorem c_lex_lexer_number_1 : Contract Tryd.prog 21 sp_lex_lexer_number_1 :=
  contract_of (Tab.envOk tabOk _ _) calls_lex_lexer_number_1 tabOk.mixed (fn := Tryd.f21) (c := b_lex_lexer_number_1) (ts := [.tmp 2]) (by kernel_rfl) (by kernel_rfl) (by kernel_rfl) (by decide) (by kernel_rfl) (by decide) rfl fun x _ h => ⟨fu, (ev_lex_lexer_number_1 x.1).trans h⟩

/-! (*peristyle/lex.lexer).while -/
@[reducible] noncomputable def E_lex_lexer_while__lex_lexer_number_1_w : Env := tab.env (AM.look [(21, sp_lex_lexer_number_1)]) ⟨[(0, ⟨[(0, true), (1, true), (5, true)], [(1000000, true)]⟩)], [], [(4, ⟨[(0, true), (5, true)], [(1000000, true)]⟩)], ⟨[(4, true)], [(1000000, true)]⟩, [], [21]⟩
theorem calls_lex_lexer_while__lex_lexer_number_1_w : CallsOk Tryd.prog E_lex_lexer_while__lex_lexer_number_1_w := callsOk_of ⟨⟨c_lex_lexer_number_1, Tryd.call21, fun _ => words_spec rfl⟩, trivial⟩
noncomputable def b_lex_lexer_while__lex_lexer_number_1_w : Code := (Tryd.f9.body).getD .skip
noncomputable def sg_lex_lexer_while__lex_lexer_number_1_w_1 (k_4 : Int) (t1000000_5 : (ByteArray × Int)) : St := mk [(0, .ptr 1000000 0 0), (5, .dat (.int .i64) k_4 [])] [(1000000, some (.var (.pair .str (.int .i64)) t1000000_5 []))]
noncomputable def sg_lex_lexer_while__lex_lexer_number_1_w_0 (k_1 : Int) (t1000000_2 : (ByteArray × Int)) : St := mk [(0, .ptr 1000000 0 0), (1, .fn 21 []), (5, .dat (.int .i64) k_1 [])] [(1000000, some (.var (.pair .str (.int .i64)) t1000000_2 []))]
noncomputable def q_lex_lexer_while__lex_lexer_number_1_w_0 (m0 : Nat) : K (ResD [(.str, []), ((.pair .str (.int .i64)), [])]) := fin E_lex_lexer_while__lex_lexer_number_1_w [.tmp 4] 1 [(.str, []), ((.pair .str (.int .i64)), [])]
noncomputable def cd_lex_lexer_while__lex_lexer_number_1_w_1 : Code := (rgt (rgt (rgt b_lex_lexer_while__lex_lexer_number_1_w)))
theorem st_lex_lexer_while__lex_lexer_number_1_w_j1 (m0 : Nat) (n : Nat) (k_4 : Int) (t1000000_5 : (ByteArray × Int)) : evJ E_lex_lexer_while__lex_lexer_number_1_w (drE E_lex_lexer_while__lex_lexer_number_1_w) (n + 1) (.tail cd_lex_lexer_while__lex_lexer_number_1_w_1) 0 (sg_lex_lexer_while__lex_lexer_number_1_w_1 k_4 t1000000_5) (q_lex_lexer_while__lex_lexer_number_1_w_0 m0) = lex_lexer_while__lex_lexer_number_1_w.S1 k_4 t1000000_5 := by kernel_rfl
theorem J_lex_lexer_while__lex_lexer_number_1_w_1 (m0 : Nat) : ∀ (n : Nat) (k_4 : Int) (t1000000_5 : (ByteArray × Int)), evJ E_lex_lexer_while__lex_lexer_number_1_w (drE E_lex_lexer_while__lex_lexer_number_1_w) n (.tail cd_lex_lexer_while__lex_lexer_number_1_w_1) 0 (sg_lex_lexer_while__lex_lexer_number_1_w_1 k_4 t1000000_5) (q_lex_lexer_while__lex_lexer_number_1_w_0 m0) = lex_lexer_while__lex_lexer_number_1_w.t1 n k_4 t1000000_5 := by
  intro n
  induction n with
  | zero => intros; rfl
  | succ n ih =>
    intro k_4 t1000000_5
    have e1 : (fun k_4 t1000000_5 => evJ E_lex_lexer_while__lex_lexer_number_1_w (drE E_lex_lexer_while__lex_lexer_number_1_w) n (.tail cd_lex_lexer_while__lex_lexer_number_1_w_1) 0 (sg_lex_lexer_while__lex_lexer_number_1_w_1 k_4 t1000000_5) (q_lex_lexer_while__lex_lexer_number_1_w_0 m0)) = (lex_lexer_while__lex_lexer_number_1_w.t1 n) := by funext k_4 t1000000_5; exact ih k_4 t1000000_5
    refine (st_lex_lexer_while__lex_lexer_number_1_w_j1 m0 n k_4 t1000000_5).trans ?_
    rfl
noncomputable def q_lex_lexer_while__lex_lexer_number_1_w_1 (m0 : Nat) : K (ResD [(.str, []), ((.pair .str (.int .i64)), [])]) := seqK E_lex_lexer_while__lex_lexer_number_1_w (evJ E_lex_lexer_while__lex_lexer_number_1_w (drE E_lex_lexer_while__lex_lexer_number_1_w) m0) cd_lex_lexer_while__lex_lexer_number_1_w_1 0 (evC E_lex_lexer_while__lex_lexer_number_1_w (evJ E_lex_lexer_while__lex_lexer_number_1_w (drE E_lex_lexer_while__lex_lexer_number_1_w) m0) (drE E_lex_lexer_while__lex_lexer_number_1_w) cd_lex_lexer_while__lex_lexer_number_1_w_1 0) (q_lex_lexer_while__lex_lexer_number_1_w_0 m0)
noncomputable def q_lex_lexer_while__lex_lexer_number_1_w_2 (m0 : Nat) : K (ResD [(.str, []), ((.pair .str (.int .i64)), [])]) := blockK 0 (q_lex_lexer_while__lex_lexer_number_1_w_1 m0)
noncomputable def cd_lex_lexer_while__lex_lexer_number_1_w_2 : Code := (lft (lft (lft (rgt (rgt b_lex_lexer_while__lex_lexer_number_1_w)))))
theorem st_lex_lexer_while__lex_lexer_number_1_w_j0 (m0 : Nat) (n : Nat) (k_1 : Int) (t1000000_2 : (ByteArray × Int)) : evJ E_lex_lexer_while__lex_lexer_number_1_w (drE E_lex_lexer_while__lex_lexer_number_1_w) (n + 1) (.loop cd_lex_lexer_while__lex_lexer_number_1_w_2) 0 (sg_lex_lexer_while__lex_lexer_number_1_w_0 k_1 t1000000_2) (q_lex_lexer_while__lex_lexer_number_1_w_2 m0) = lex_lexer_while__lex_lexer_number_1_w.S0 (fun k_4 t1000000_5 => evJ E_lex_lexer_while__lex_lexer_number_1_w (drE E_lex_lexer_while__lex_lexer_number_1_w) m0 (.tail cd_lex_lexer_while__lex_lexer_number_1_w_1) 0 (sg_lex_lexer_while__lex_lexer_number_1_w_1 k_4 t1000000_5) (q_lex_lexer_while__lex_lexer_number_1_w_0 m0)) (fun k_1 t1000000_2 => evJ E_lex_lexer_while__lex_lexer_number_1_w (drE E_lex_lexer_while__lex_lexer_number_1_w) n (.loop cd_lex_lexer_while__lex_lexer_number_1_w_2) 0 (sg_lex_lexer_while__lex_lexer_number_1_w_0 k_1 t1000000_2) (q_lex_lexer_while__lex_lexer_number_1_w_2 m0)) k_1 t1000000_2 := by kernel_rfl
theorem J_lex_lexer_while__lex_lexer_number_1_w_0 (m0 : Nat) : ∀ (n : Nat) (k_1 : Int) (t1000000_2 : (ByteArray × Int)), evJ E_lex_lexer_while__lex_lexer_number_1_w (drE E_lex_lexer_while__lex_lexer_number_1_w) n (.loop cd_lex_lexer_while__lex_lexer_number_1_w_2) 0 (sg_lex_lexer_while__lex_lexer_number_1_w_0 k_1 t1000000_2) (q_lex_lexer_while__lex_lexer_number_1_w_2 m0) = lex_lexer_while__lex_lexer_number_1_w.l0 (fun k_4 t1000000_5 => evJ E_lex_lexer_while__lex_lexer_number_1_w (drE E_lex_lexer_while__lex_lexer_number_1_w) m0 (.tail cd_lex_lexer_while__lex_lexer_number_1_w_1) 0 (sg_lex_lexer_while__lex_lexer_number_1_w_1 k_4 t1000000_5) (q_lex_lexer_while__lex_lexer_number_1_w_0 m0)) n k_1 t1000000_2 := by
  intro n
  induction n with
  | zero => intros; rfl
  | succ n ih =>
    intro k_1 t1000000_2
    have e0 : (fun k_1 t1000000_2 => evJ E_lex_lexer_while__lex_lexer_number_1_w (drE E_lex_lexer_while__lex_lexer_number_1_w) n (.loop cd_lex_lexer_while__lex_lexer_number_1_w_2) 0 (sg_lex_lexer_while__lex_lexer_number_1_w_0 k_1 t1000000_2) (q_lex_lexer_while__lex_lexer_number_1_w_2 m0)) = (lex_lexer_while__lex_lexer_number_1_w.l0 (fun k_4 t1000000_5 => evJ E_lex_lexer_while__lex_lexer_number_1_w (drE E_lex_lexer_while__lex_lexer_number_1_w) m0 (.tail cd_lex_lexer_while__lex_lexer_number_1_w_1) 0 (sg_lex_lexer_while__lex_lexer_number_1_w_1 k_4 t1000000_5) (q_lex_lexer_while__lex_lexer_number_1_w_0 m0)) n) := by funext k_1 t1000000_2; exact ih k_1 t1000000_2
    refine (st_lex_lexer_while__lex_lexer_number_1_w_j0 m0 n k_1 t1000000_2).trans ?_
    rw [e0]; rfl
theorem st_lex_lexer_while__lex_lexer_number_1_w (m0 : Nat) (l : (ByteArray × Int)) : evC E_lex_lexer_while__lex_lexer_number_1_w (evJ E_lex_lexer_while__lex_lexer_number_1_w (drE E_lex_lexer_while__lex_lexer_number_1_w) m0) (drE E_lex_lexer_while__lex_lexer_number_1_w) b_lex_lexer_while__lex_lexer_number_1_w 0 (st0 [.io (.pair .str (.int .i64)) [], .fn 21 []] (l, (), ())) (fin E_lex_lexer_while__lex_lexer_number_1_w [.tmp 4] 1 [(.str, []), ((.pair .str (.int .i64)), [])]) = lex_lexer_while__lex_lexer_number_1_w.S (fun k_1 t1000000_2 => evJ E_lex_lexer_while__lex_lexer_number_1_w (drE E_lex_lexer_while__lex_lexer_number_1_w) m0 (.loop cd_lex_lexer_while__lex_lexer_number_1_w_2) 0 (sg_lex_lexer_while__lex_lexer_number_1_w_0 k_1 t1000000_2) (q_lex_lexer_while__lex_lexer_number_1_w_2 m0)) l := by kernel_rfl
theorem ev_lex_lexer_while__lex_lexer_number_1_w (l : (ByteArray × Int)) : evC E_lex_lexer_while__lex_lexer_number_1_w (evJ E_lex_lexer_while__lex_lexer_number_1_w (drE E_lex_lexer_while__lex_lexer_number_1_w) fu) (drE E_lex_lexer_while__lex_lexer_number_1_w) b_lex_lexer_while__lex_lexer_number_1_w 0 (st0 [.io (.pair .str (.int .i64)) [], .fn 21 []] (l, (), ())) (fin E_lex_lexer_while__lex_lexer_number_1_w [.tmp 4] 1 [(.str, []), ((.pair .str (.int .i64)), [])]) = lex_lexer_while__lex_lexer_number_1_w l := by
  have e1 : (fun k_4 t1000000_5 => evJ E_lex_lexer_while__lex_lexer_number_1_w (drE E_lex_lexer_while__lex_lexer_number_1_w) fu (.tail cd_lex_lexer_while__lex_lexer_number_1_w_1) 0 (sg_lex_lexer_while__lex_lexer_number_1_w_1 k_4 t1000000_5) (q_lex_lexer_while__lex_lexer_number_1_w_0 fu)) = (lex_lexer_while__lex_lexer_number_1_w.t1 fu) := by funext k_4 t1000000_5; exact J_lex_lexer_while__lex_lexer_number_1_w_1 fu fu k_4 t1000000_5
  have e0 : (fun k_1 t1000000_2 => evJ E_lex_lexer_while__lex_lexer_number_1_w (drE E_lex_lexer_while__lex_lexer_number_1_w) fu (.loop cd_lex_lexer_while__lex_lexer_number_1_w_2) 0 (sg_lex_lexer_while__lex_lexer_number_1_w_0 k_1 t1000000_2) (q_lex_lexer_while__lex_lexer_number_1_w_2 fu)) = (lex_lexer_while__lex_lexer_number_1_w.l0 (lex_lexer_while__lex_lexer_number_1_w.t1 fu) fu) := by rw [← e1]; funext k_1 t1000000_2; exact J_lex_lexer_while__lex_lexer_number_1_w_0 fu fu k_1 t1000000_2
  refine (st_lex_lexer_while__lex_lexer_number_1_w fu l).trans ?_
  rw [e0]; rfl
@[reducible] def sp_lex_lexer_while__lex_lexer_number_1_w   : AM.Spec := AM.specIo 1 [.io (.pair .str (.int .i64)) [], .fn 21 []] [(.str, []), ((.pair .str (.int .i64)), [])] (fun x => lex_lexer_while__lex_lexer_number_1_w x.1)
theorem c_lex_lexer_while__lex_lexer_number_1_w : Contract Tryd.prog 9 sp_lex_lexer_while__lex_lexer_number_1_w :=
  contract_io (Tab.envOk tabOk _ _) calls_lex_lexer_while__lex_lexer_number_1_w tabOk.mixed (fn := Tryd.f9) (c := b_lex_lexer_while__lex_lexer_number_1_w) (ts := [.tmp 4]) (by kernel_rfl) (by kernel_rfl) (by kernel_rfl) (by decide) (by kernel_rfl) (by decide) fun x _ h => ⟨fu, (ev_lex_lexer_while__lex_lexer_number_1_w x.1).trans h⟩

/-! internal/stringslite.HasPrefix -/
@[reducible] noncomputable def E_istringslite_HasPrefix : Env := tab.env (AM.look []) ⟨[], [], [], ⟨[(4, true)], []⟩, [], []⟩
theorem calls_istringslite_HasPrefix : CallsOk Tryd.prog E_istringslite_HasPrefix := callsOk_of trivial
noncomputable def b_istringslite_HasPrefix : Code := (Tryd.f57.body).getD .skip
theorem st_istringslite_HasPrefix (m0 : Nat) (s : ByteArray) (xprefix : ByteArray) : evC E_istringslite_HasPrefix (evJ E_istringslite_HasPrefix (drE E_istringslite_HasPrefix) m0) (drE E_istringslite_HasPrefix) b_istringslite_HasPrefix 0 (st0 [.val .str, .val .str] (s, xprefix, ())) (fin E_istringslite_HasPrefix [.tmp 4] 0 [(.bool, [])]) = istringslite_HasPrefix s xprefix := by kernel_rfl
theorem ev_istringslite_HasPrefix (s : ByteArray) (xprefix : ByteArray) : evC E_istringslite_HasPrefix (evJ E_istringslite_HasPrefix (drE E_istringslite_HasPrefix) fu) (drE E_istringslite_HasPrefix) b_istringslite_HasPrefix 0 (st0 [.val .str, .val .str] (s, xprefix, ())) (fin E_istringslite_HasPrefix [.tmp 4] 0 [(.bool, [])]) = istringslite_HasPrefix s xprefix := st_istringslite_HasPrefix fu s xprefix
@[reducible] def sp_istringslite_HasPrefix   : AM.Spec := AM.spec [.val .str, .val .str] [(.bool, [])] (fun x => istringslite_HasPrefix x.1 x.2.1)
theorem c_istringslite_HasPrefix : Contract Tryd.prog 57 sp_istringslite_HasPrefix :=
  contract_of (Tab.envOk tabOk _ _) calls_istringslite_HasPrefix tabOk.mixed (fn := Tryd.f57) (c := b_istringslite_HasPrefix) (ts := [.tmp 4]) (by kernel_rfl) (by kernel_rfl) (by kernel_rfl) (by decide) (by kernel_rfl) (by decide) rfl fun x _ h => ⟨fu, (ev_istringslite_HasPrefix x.1 x.2.1).trans h⟩

/-! internal/stringslite.CutPrefix -/
@[reducible] noncomputable def E_istringslite_CutPrefix : Env := tab.env (AM.look [(57, sp_istringslite_HasPrefix)]) ⟨[], [], [], ⟨[(4, true), (5, true)], []⟩, [], [57]⟩
theorem calls_istringslite_CutPrefix : CallsOk Tryd.prog E_istringslite_CutPrefix := callsOk_of ⟨⟨c_istringslite_HasPrefix, Tryd.call57, fun _ => words_spec rfl⟩, trivial⟩
noncomputable def b_istringslite_CutPrefix : Code := (Tryd.f46.body).getD .skip
theorem st_istringslite_CutPrefix (m0 : Nat) (s : ByteArray) (xprefix : ByteArray) : evC E_istringslite_CutPrefix (evJ E_istringslite_CutPrefix (drE E_istringslite_CutPrefix) m0) (drE E_istringslite_CutPrefix) b_istringslite_CutPrefix 0 (st0 [.val .str, .val .str] (s, xprefix, ())) (fin E_istringslite_CutPrefix [.tmp 4, .tmp 5] 0 [(.str, []), (.bool, [])]) = istringslite_CutPrefix s xprefix := by kernel_rfl
theorem ev_istringslite_CutPrefix (s : ByteArray) (xprefix : ByteArray) : evC E_istringslite_CutPrefix (evJ E_istringslite_CutPrefix (drE E_istringslite_CutPrefix) fu) (drE E_istringslite_CutPrefix) b_istringslite_CutPrefix 0 (st0 [.val .str, .val .str] (s, xprefix, ())) (fin E_istringslite_CutPrefix [.tmp 4, .tmp 5] 0 [(.str, []), (.bool, [])]) = istringslite_CutPrefix s xprefix := st_istringslite_CutPrefix fu s xprefix
@[reducible] def sp_istringslite_CutPrefix   : AM.Spec := AM.spec [.val .str, .val .str] [(.str, []), (.bool, [])] (fun x => istringslite_CutPrefix x.1 x.2.1)
theorem c_istringslite_CutPrefix : Contract Tryd.prog 46 sp_istringslite_CutPrefix :=
  contract_of (Tab.envOk tabOk _ _) calls_istringslite_CutPrefix tabOk.mixed (fn := Tryd.f46) (c := b_istringslite_CutPrefix) (ts := [.tmp 4, .tmp 5]) (by kernel_rfl) (by kernel_rfl) (by kernel_rfl) (by decide) (by kernel_rfl) (by decide) rfl fun x _ h => ⟨fu, (ev_istringslite_CutPrefix x.1 x.2.1).trans h⟩

/-! strings.CutPrefix -/
@[reducible] noncomputable def E_strings_CutPrefix : Env := tab.env (AM.look [(46, sp_istringslite_CutPrefix)]) ⟨[], [], [], ⟨[(4, true), (5, true)], []⟩, [], [46]⟩
theorem calls_strings_CutPrefix : CallsOk Tryd.prog E_strings_CutPrefix := callsOk_of ⟨⟨c_istringslite_CutPrefix, Tryd.call46, fun _ => words_spec rfl⟩, trivial⟩
noncomputable def b_strings_CutPrefix : Code := (Tryd.f32.body).getD .skip
theorem st_strings_CutPrefix (m0 : Nat) (s : ByteArray) (xprefix : ByteArray) : evC E_strings_CutPrefix (evJ E_strings_CutPrefix (drE E_strings_CutPrefix) m0) (drE E_strings_CutPrefix) b_strings_CutPrefix 0 (st0 [.val .str, .val .str] (s, xprefix, ())) (fin E_strings_CutPrefix [.tmp 4, .tmp 5] 0 [(.str, []), (.bool, [])]) = strings_CutPrefix s xprefix := by kernel_rfl
theorem ev_strings_CutPrefix (s : ByteArray) (xprefix : ByteArray) : evC E_strings_CutPrefix (evJ E_strings_CutPrefix (drE E_strings_CutPrefix) fu) (drE E_strings_CutPrefix) b_strings_CutPrefix 0 (st0 [.val .str, .val .str] (s, xprefix, ())) (fin E_strings_CutPrefix [.tmp 4, .tmp 5] 0 [(.str, []), (.bool, [])]) = strings_CutPrefix s xprefix := st_strings_CutPrefix fu s xprefix
@[reducible] def sp_strings_CutPrefix   : AM.Spec := AM.spec [.val .str, .val .str] [(.str, []), (.bool, [])] (fun x => strings_CutPrefix x.1 x.2.1)
theorem c_strings_CutPrefix : Contract Tryd.prog 32 sp_strings_CutPrefix :=
  contract_of (Tab.envOk tabOk _ _) calls_strings_CutPrefix tabOk.mixed (fn := Tryd.f32) (c := b_strings_CutPrefix) (ts := [.tmp 4, .tmp 5]) (by kernel_rfl) (by kernel_rfl) (by kernel_rfl) (by decide) (by kernel_rfl) (by decide) rfl fun x _ h => ⟨fu, (ev_strings_CutPrefix x.1 x.2.1).trans h⟩

/-! internal/stringslite.HasSuffix -/
@[reducible] noncomputable def E_istringslite_HasSuffix : Env := tab.env (AM.look []) ⟨[], [], [], ⟨[(4, true)], []⟩, [], []⟩
theorem calls_istringslite_HasSuffix : CallsOk Tryd.prog E_istringslite_HasSuffix := callsOk_of trivial
noncomputable def b_istringslite_HasSuffix : Code := (Tryd.f58.body).getD .skip
theorem st_istringslite_HasSuffix (m0 : Nat) (s : ByteArray) (suffix : ByteArray) : evC E_istringslite_HasSuffix (evJ E_istringslite_HasSuffix (drE E_istringslite_HasSuffix) m0) (drE E_istringslite_HasSuffix) b_istringslite_HasSuffix 0 (st0 [.val .str, .val .str] (s, suffix, ())) (fin E_istringslite_HasSuffix [.tmp 4] 0 [(.bool, [])]) = istringslite_HasSuffix s suffix := by kernel_rfl
theorem ev_istringslite_HasSuffix (s : ByteArray) (suffix : ByteArray) : evC E_istringslite_HasSuffix (evJ E_istringslite_HasSuffix (drE E_istringslite_HasSuffix) fu) (drE E_istringslite_HasSuffix) b_istringslite_HasSuffix 0 (st0 [.val .str, .val .str] (s, suffix, ())) (fin E_istringslite_HasSuffix [.tmp 4] 0 [(.bool, [])]) = istringslite_HasSuffix s suffix := st_istringslite_HasSuffix fu s suffix
@[reducible] def sp_istringslite_HasSuffix   : AM.Spec := AM.spec [.val .str, .val .str] [(.bool, [])] (fun x => istringslite_HasSuffix x.1 x.2.1)
theorem c_istringslite_HasSuffix : Contract Tryd.prog 58 sp_istringslite_HasSuffix :=
  contract_of (Tab.envOk tabOk _ _) calls_istringslite_HasSuffix tabOk.mixed (fn := Tryd.f58) (c := b_istringslite_HasSuffix) (ts := [.tmp 4]) (by kernel_rfl) (by kernel_rfl) (by kernel_rfl) (by decide) (by kernel_rfl) (by decide) rfl fun x _ h => ⟨fu, (ev_istringslite_HasSuffix x.1 x.2.1).trans h⟩

/-! internal/stringslite.CutSuffix -/
@[reducible] noncomputable def E_istringslite_CutSuffix : Env := tab.env (AM.look [(58, sp_istringslite_HasSuffix)]) ⟨[], [], [], ⟨[(4, true), (5, true)], []⟩, [], [58]⟩
theorem calls_istringslite_CutSuffix : CallsOk Tryd.prog E_istringslite_CutSuffix := callsOk_of ⟨⟨c_istringslite_HasSuffix, Tryd.call58, fun _ => words_spec rfl⟩, trivial⟩
noncomputable def b_istringslite_CutSuffix : Code := (Tryd.f47.body).getD .skip
theorem st_istringslite_CutSuffix (m0 : Nat) (s : ByteArray) (suffix : ByteArray) : evC E_istringslite_CutSuffix (evJ E_istringslite_CutSuffix (drE E_istringslite_CutSuffix) m0) (drE E_istringslite_CutSuffix) b_istringslite_CutSuffix 0 (st0 [.val .str, .val .str] (s, suffix, ())) (fin E_istringslite_CutSuffix [.tmp 4, .tmp 5] 0 [(.str, []), (.bool, [])]) = istringslite_CutSuffix s suffix := by kernel_rfl
theorem ev_istringslite_CutSuffix (s : ByteArray) (suffix : ByteArray) : evC E_istringslite_CutSuffix (evJ E_istringslite_CutSuffix (drE E_istringslite_CutSuffix) fu) (drE E_istringslite_CutSuffix) b_istringslite_CutSuffix 0 (st0 [.val .str, .val .str] (s, suffix, ())) (fin E_istringslite_CutSuffix [.tmp 4, .tmp 5] 0 [(.str, []), (.bool, [])]) = istringslite_CutSuffix s suffix := st_istringslite_CutSuffix fu s suffix
@[reducible] def sp_istringslite_CutSuffix   : AM.Spec := AM.spec [.val .str, .val .str] [(.str, []), (.bool, [])] (fun x => istringslite_CutSuffix x.1 x.2.1)
theorem c_istringslite_CutSuffix : Contract Tryd.prog 47 sp_istringslite_CutSuffix :=
  contract_of (Tab.envOk tabOk _ _) calls_istringslite_CutSuffix tabOk.mixed (fn := Tryd.f47) (c := b_istringslite_CutSuffix) (ts := [.tmp 4, .tmp 5]) (by kernel_rfl) (by kernel_rfl) (by kernel_rfl) (by decide) (by kernel_rfl) (by decide) rfl fun x _ h => ⟨fu, (ev_istringslite_CutSuffix x.1 x.2.1).trans h⟩

/-! strings.CutSuffix -/
@[reducible] noncomputable def E_strings_CutSuffix : Env := tab.env (AM.look [(47, sp_istringslite_CutSuffix)]) ⟨[], [], [], ⟨[(4, true), (5, true)], []⟩, [], [47]⟩
theorem calls_strings_CutSuffix : CallsOk Tryd.prog E_strings_CutSuffix := callsOk_of ⟨⟨c_istringslite_CutSuffix, Tryd.call47, fun _ => words_spec rfl⟩, trivial⟩
noncomputable def b_strings_CutSuffix : Code := (Tryd.f33.body).getD .skip
theorem st_strings_CutSuffix (m0 : Nat) (s : ByteArray) (suffix : ByteArray) : evC E_strings_CutSuffix (evJ E_strings_CutSuffix (drE E_strings_CutSuffix) m0) (drE E_strings_CutSuffix) b_strings_CutSuffix 0 (st0 [.val .str, .val .str] (s, suffix, ())) (fin E_strings_CutSuffix [.tmp 4, .tmp 5] 0 [(.str, []), (.bool, [])]) = strings_CutSuffix s suffix := by kernel_rfl
theorem ev_strings_CutSuffix (s : ByteArray) (suffix : ByteArray) : evC E_strings_CutSuffix (evJ E_strings_CutSuffix (drE E_strings_CutSuffix) fu) (drE E_strings_CutSuffix) b_strings_CutSuffix 0 (st0 [.val .str, .val .str] (s, suffix, ())) (fin E_strings_CutSuffix [.tmp 4, .tmp 5] 0 [(.str, []), (.bool, [])]) = strings_CutSuffix s suffix := st_strings_CutSuffix fu s suffix
@[reducible] def sp_strings_CutSuffix   : AM.Spec := AM.spec [.val .str, .val .str] [(.str, []), (.bool, [])] (fun x => strings_CutSuffix x.1 x.2.1)
theorem c_strings_CutSuffix : Contract Tryd.prog 33 sp_strings_CutSuffix :=
  contract_of (Tab.envOk tabOk _ _) calls_strings_CutSuffix tabOk.mixed (fn := Tryd.f33) (c := b_strings_CutSuffix) (ts := [.tmp 4, .tmp 5]) (by kernel_rfl) (by kernel_rfl) (by kernel_rfl) (by decide) (by kernel_rfl) (by decide) rfl fun x _ h => ⟨fu, (ev_strings_CutSuffix x.1 x.2.1).trans h⟩

/-! peristyle/cell.Check -/
@[reducible] noncomputable def E_cell_Check : Env := tab.env (AM.look []) ⟨[], [], [], ⟨[(2, true)], []⟩, [], []⟩
theorem calls_cell_Check : CallsOk Tryd.prog E_cell_Check := callsOk_of trivial
noncomputable def b_cell_Check : Code := (Tryd.f36.body).getD .skip
theorem st_cell_Check_o (m0 : Nat) (c : (Int × (Int × ByteArray))) : evC E_cell_Check (evJ E_cell_Check (drE E_cell_Check) m0) (drE E_cell_Check) b_cell_Check 0 (st0 [.val (.pair (.int .i64) (.pair (.int .i64) .str))] (c, ())) (fin E_cell_Check [.tmp 2] 0 [((.int .i64), [])]) = cell_Check.o c := by kernel_rfl
theorem st_cell_Check (m0 : Nat) (c : (Int × (Int × ByteArray))) : evC E_cell_Check (evJ E_cell_Check (drE E_cell_Check) m0) (drE E_cell_Check) b_cell_Check 0 (st0 [.val (.pair (.int .i64) (.pair (.int .i64) .str))] (c, ())) (fin E_cell_Check [.tmp 2] 0 [((.int .i64), [])]) = some (cell_Check c) := (st_cell_Check_o m0 c).trans (by unfold cell_Check.o cell_Check; simp only [cond_some])
theorem ev_cell_Check (c : (Int × (Int × ByteArray))) : evC E_cell_Check (evJ E_cell_Check (drE E_cell_Check) fu) (drE E_cell_Check) b_cell_Check 0 (st0 [.val (.pair (.int .i64) (.pair (.int .i64) .str))] (c, ())) (fin E_cell_Check [.tmp 2] 0 [((.int .i64), [])]) = some (cell_Check c) := st_cell_Check fu c
@[reducible] def sp_cell_Check   : AM.Spec := AM.spec [.val (.pair (.int .i64) (.pair (.int .i64) .str))] [((.int .i64), [])] (fun x => some (cell_Check x.1))
theorem c_cell_Check : Contract Tryd.prog 36 sp_cell_Check :=
  contract_of (Tab.envOk tabOk _ _) calls_cell_Check tabOk.mixed (fn := Tryd.f36) (c := b_cell_Check) (ts := [.tmp 2]) (by kernel_rfl) (by kernel_rfl) (by kernel_rfl) (by decide) (by kernel_rfl) (by decide) rfl fun x _ h => ⟨fu, (ev_cell_Check x.1).trans h⟩

/-! peristyle/cell.Show -/
@[reducible] noncomputable def E_cell_Show : Env := tab.env (AM.look [(51, sp_strconv_Itoa), (34, sp_strings_ReplaceAll)]) ⟨[], [], [], ⟨[(2, true)], []⟩, [], [34, 51]⟩
theorem calls_cell_Show : CallsOk Tryd.prog E_cell_Show := callsOk_of ⟨⟨c_strconv_Itoa, Tryd.call51, fun _ => words_spec rfl⟩, ⟨⟨c_strings_ReplaceAll, Tryd.call34, fun _ => words_spec rfl⟩, trivial⟩⟩
noncomputable def b_cell_Show : Code := (Tryd.f37.body).getD .skip
theorem st_cell_Show (m0 : Nat) (c : (Int × (Int × ByteArray))) : evC E_cell_Show (evJ E_cell_Show (drE E_cell_Show) m0) (drE E_cell_Show) b_cell_Show 0 (st0 [.val (.pair (.int .i64) (.pair (.int .i64) .str))] (c, ())) (fin E_cell_Show [.tmp 2] 0 [(.str, [])]) = cell_Show c := by kernel_rfl
theorem ev_cell_Show (c : (Int × (Int × ByteArray))) : evC E_cell_Show (evJ E_cell_Show (drE E_cell_Show) fu) (drE E_cell_Show) b_cell_Show 0 (st0 [.val (.pair (.int .i64) (.pair (.int .i64) .str))] (c, ())) (fin E_cell_Show [.tmp 2] 0 [(.str, [])]) = cell_Show c := st_cell_Show fu c
@[reducible] def sp_cell_Show   : AM.Spec := AM.spec [.val (.pair (.int .i64) (.pair (.int .i64) .str))] [(.str, [])] (fun x => cell_Show x.1)
theorem c_cell_Show : Contract Tryd.prog 37 sp_cell_Show :=
  contract_of (Tab.envOk tabOk _ _) calls_cell_Show tabOk.mixed (fn := Tryd.f37) (c := b_cell_Show) (ts := [.tmp 2]) (by kernel_rfl) (by kernel_rfl) (by kernel_rfl) (by decide) (by kernel_rfl) (by decide) rfl fun x _ h => ⟨fu, (ev_cell_Show x.1).trans h⟩

/-! peristyle/cell.Read -/
@[reducible] noncomputable def E_cell_Read : Env := tab.env (AM.look [(32, sp_strings_CutPrefix), (33, sp_strings_CutSuffix), (34, sp_strings_ReplaceAll), (36, sp_cell_Check), (37, sp_cell_Show), (35, sp_strconv_Atoi)]) ⟨[], [], [(11, ⟨[(0, true), (2, true), (4, true)], [(2, true), (4, true)]⟩)], ⟨[(2, true), (3, true)], [(2, true)]⟩, [], [32, 33, 34, 35, 36, 37]⟩
theorem calls_cell_Read : CallsOk Tryd.prog E_cell_Read := callsOk_of ⟨⟨c_strings_CutPrefix, Tryd.call32, fun _ => words_spec rfl⟩, ⟨⟨c_strings_CutSuffix, Tryd.call33, fun _ => words_spec rfl⟩, ⟨⟨c_strings_ReplaceAll, Tryd.call34, fun _ => words_spec rfl⟩, ⟨⟨c_cell_Check, Tryd.call36, fun _ => words_spec rfl⟩, ⟨⟨c_cell_Show, Tryd.call37, fun _ => words_spec rfl⟩, ⟨⟨c_strconv_Atoi, Tryd.call35, fun _ => words_spec rfl⟩, trivial⟩⟩⟩⟩⟩⟩
noncomputable def b_cell_Read : Code := (Tryd.f23.body).getD .skip
noncomputable def sg_cell_Read_0 (s_4 : ByteArray) (t2_5 : (Int × (Int × ByteArray))) (c_6 : (Int × (Int × ByteArray))) : St := mk [(0, .dat .str s_4 []), (2, .ptr 2 0 0), (4, .ptr 4 0 0)] [(2, some (.var (.pair (.int .i64) (.pair (.int .i64) .str)) t2_5 [])), (4, some (.var (.pair (.int .i64) (.pair (.int .i64) .str)) c_6 []))]
noncomputable def q_cell_Read_0 (m0 : Nat) : K (ResD [((.pair (.int .i64) (.pair (.int .i64) .str)), []), ((.int .i64), [])]) := fin E_cell_Read [.cell 2 43, .tmp 3] 0 [((.pair (.int .i64) (.pair (.int .i64) .str)), []), ((.int .i64), [])]
noncomputable def cd_cell_Read_1 : Code := (rgt (rgt (rgt b_cell_Read)))
theorem st_cell_Read_j0 (m0 : Nat) (n : Nat) (s_4 : ByteArray) (t2_5 : (Int × (Int × ByteArray))) (c_6 : (Int × (Int × ByteArray))) : evJ E_cell_Read (drE E_cell_Read) (n + 1) (.tail cd_cell_Read_1) 0 (sg_cell_Read_0 s_4 t2_5 c_6) (q_cell_Read_0 m0) = cell_Read.S0 s_4 t2_5 c_6 := by kernel_rfl
theorem J_cell_Read_0 (m0 : Nat) : ∀ (n : Nat) (s_4 : ByteArray) (t2_5 : (Int × (Int × ByteArray))) (c_6 : (Int × (Int × ByteArray))), evJ E_cell_Read (drE E_cell_Read) n (.tail cd_cell_Read_1) 0 (sg_cell_Read_0 s_4 t2_5 c_6) (q_cell_Read_0 m0) = cell_Read.t0 n s_4 t2_5 c_6 := by
  intro n
  induction n with
  | zero => intros; rfl
  | succ n ih =>
    intro s_4 t2_5 c_6
    have e0 : (fun s_4 t2_5 c_6 => evJ E_cell_Read (drE E_cell_Read) n (.tail cd_cell_Read_1) 0 (sg_cell_Read_0 s_4 t2_5 c_6) (q_cell_Read_0 m0)) = (cell_Read.t0 n) := by funext s_4 t2_5 c_6; exact ih s_4 t2_5 c_6
    refine (st_cell_Read_j0 m0 n s_4 t2_5 c_6).trans ?_
    rfl
theorem st_cell_Read (m0 : Nat) (s : ByteArray) : evC E_cell_Read (evJ E_cell_Read (drE E_cell_Read) m0) (drE E_cell_Read) b_cell_Read 0 (st0 [.val .str] (s, ())) (fin E_cell_Read [.cell 2 43, .tmp 3] 0 [((.pair (.int .i64) (.pair (.int .i64) .str)), []), ((.int .i64), [])]) = cell_Read.S (fun s_4 t2_5 c_6 => evJ E_cell_Read (drE E_cell_Read) m0 (.tail cd_cell_Read_1) 0 (sg_cell_Read_0 s_4 t2_5 c_6) (q_cell_Read_0 m0)) s := by kernel_rfl
theorem ev_cell_Read (s : ByteArray) : evC E_cell_Read (evJ E_cell_Read (drE E_cell_Read) fu) (drE E_cell_Read) b_cell_Read 0 (st0 [.val .str] (s, ())) (fin E_cell_Read [.cell 2 43, .tmp 3] 0 [((.pair (.int .i64) (.pair (.int .i64) .str)), []), ((.int .i64), [])]) = cell_Read s := by
  have e0 : (fun s_4 t2_5 c_6 => evJ E_cell_Read (drE E_cell_Read) fu (.tail cd_cell_Read_1) 0 (sg_cell_Read_0 s_4 t2_5 c_6) (q_cell_Read_0 fu)) = (cell_Read.t0 fu) := by funext s_4 t2_5 c_6; exact J_cell_Read_0 fu fu s_4 t2_5 c_6
  refine (st_cell_Read fu s).trans ?_
  rw [e0]; rfl
@[reducible] def sp_cell_Read   : AM.Spec := AM.spec [.val .str] [((.pair (.int .i64) (.pair (.int .i64) .str)), []), ((.int .i64), [])] (fun x => cell_Read x.1)
theorem c_cell_Read : Contract Tryd.prog 23 sp_cell_Read :=
  contract_of (Tab.envOk tabOk _ _) calls_cell_Read tabOk.mixed (fn := Tryd.f23) (c := b_cell_Read) (ts := [.cell 2 43, .tmp 3]) (by kernel_rfl) (by kernel_rfl) (by kernel_rfl) (by decide) (by kernel_rfl) (by decide) rfl fun x _ h => ⟨fu, (ev_cell_Read x.1).trans h⟩

/-! (*peristyle/lex.lexer).number -/
@[reducible] noncomputable def E_lex_lexer_number_w : Env := tab.env (AM.look [(9, sp_lex_lexer_while__lex_lexer_number_1_w), (22, sp_strings_TrimLeft), (23, sp_cell_Read)]) ⟨[], [], [(4, ⟨[(0, true), (4, true)], [(1000000, true)]⟩), (10, ⟨[(5, true)], [(1000000, true)]⟩)], ⟨[(2, true), (3, true)], [(1000000, true)]⟩, [], [9, 22, 23]⟩
theorem calls_lex_lexer_number_w : CallsOk Tryd.prog E_lex_lexer_number_w := callsOk_of ⟨⟨c_lex_lexer_while__lex_lexer_number_1_w, Tryd.call9, fun _ => words_io rfl⟩, ⟨⟨c_strings_TrimLeft, Tryd.call22, fun _ => words_spec rfl⟩, ⟨⟨c_cell_Read, Tryd.call23, fun _ => words_spec rfl⟩, trivial⟩⟩⟩
noncomputable def b_lex_lexer_number_w : Code := (Tryd.f16.body).getD .skip
noncomputable def sg_lex_lexer_number_w_1 (d_5 : ByteArray) (t1000000_6 : (ByteArray × Int)) : St := mk [(5, .dat .str d_5 [])] [(1000000, some (.var (.pair .str (.int .i64)) t1000000_6 []))]
noncomputable def sg_lex_lexer_number_w_0 (down_1 : Bool) (t1000000_2 : (ByteArray × Int)) : St := mk [(0, .ptr 1000000 0 0), (4, .dat .bool down_1 [])] [(1000000, some (.var (.pair .str (.int .i64)) t1000000_2 []))]
noncomputable def q_lex_lexer_number_w_0 (m0 : Nat) : K (ResD [((.int .i64), []), (.bool, []), ((.pair .str (.int .i64)), [])]) := fin E_lex_lexer_number_w [.tmp 2, .tmp 3] 1 [((.int .i64), []), (.bool, []), ((.pair .str (.int .i64)), [])]
noncomputable def cd_lex_lexer_number_w_1 : Code := (rgt (rgt (rgt (rgt (rgt (rgt (rgt b_lex_lexer_number_w)))))))
theorem st_lex_lexer_number_w_j1 (m0 : Nat) (m1 : Nat) (n : Nat) (d_5 : ByteArray) (t1000000_6 : (ByteArray × Int)) : evJ E_lex_lexer_number_w (drE E_lex_lexer_number_w) (n + 1) (.tail cd_lex_lexer_number_w_1) 0 (sg_lex_lexer_number_w_1 d_5 t1000000_6) (q_lex_lexer_number_w_0 m0) = lex_lexer_number_w.S1 d_5 t1000000_6 := by kernel_rfl
theorem J_lex_lexer_number_w_1 (m0 : Nat) (m1 : Nat) : ∀ (n : Nat) (d_5 : ByteArray) (t1000000_6 : (ByteArray × Int)), evJ E_lex_lexer_number_w (drE E_lex_lexer_number_w) n (.tail cd_lex_lexer_number_w_1) 0 (sg_lex_lexer_number_w_1 d_5 t1000000_6) (q_lex_lexer_number_w_0 m0) = lex_lexer_number_w.t1 n d_5 t1000000_6 := by
  intro n
  induction n with
  | zero => intros; rfl
  | succ n ih =>
    intro d_5 t1000000_6
    have e1 : (fun d_5 t1000000_6 => evJ E_lex_lexer_number_w (drE E_lex_lexer_number_w) n (.tail cd_lex_lexer_number_w_1) 0 (sg_lex_lexer_number_w_1 d_5 t1000000_6) (q_lex_lexer_number_w_0 m0)) = (lex_lexer_number_w.t1 n) := by funext d_5 t1000000_6; exact ih d_5 t1000000_6
    refine (st_lex_lexer_number_w_j1 m0 m1 n d_5 t1000000_6).trans ?_
    rfl
noncomputable def cd_lex_lexer_number_w_2 : Code := (rgt (rgt (rgt b_lex_lexer_number_w)))
theorem st_lex_lexer_number_w_j0 (m0 : Nat) (n : Nat) (down_1 : Bool) (t1000000_2 : (ByteArray × Int)) : evJ E_lex_lexer_number_w (drE E_lex_lexer_number_w) (n + 1) (.tail cd_lex_lexer_number_w_2) 0 (sg_lex_lexer_number_w_0 down_1 t1000000_2) (q_lex_lexer_number_w_0 m0) = lex_lexer_number_w.S0 (fun d_5 t1000000_6 => evJ E_lex_lexer_number_w (drE E_lex_lexer_number_w) n (.tail cd_lex_lexer_number_w_1) 0 (sg_lex_lexer_number_w_1 d_5 t1000000_6) (q_lex_lexer_number_w_0 m0)) down_1 t1000000_2 := by kernel_rfl
theorem J_lex_lexer_number_w_0 (m0 : Nat) : ∀ (n : Nat) (down_1 : Bool) (t1000000_2 : (ByteArray × Int)), evJ E_lex_lexer_number_w (drE E_lex_lexer_number_w) n (.tail cd_lex_lexer_number_w_2) 0 (sg_lex_lexer_number_w_0 down_1 t1000000_2) (q_lex_lexer_number_w_0 m0) = lex_lexer_number_w.t0 n down_1 t1000000_2 := by
  intro n
  induction n with
  | zero => intros; rfl
  | succ n ih =>
    intro down_1 t1000000_2
    have e0 : (fun down_1 t1000000_2 => evJ E_lex_lexer_number_w (drE E_lex_lexer_number_w) n (.tail cd_lex_lexer_number_w_2) 0 (sg_lex_lexer_number_w_0 down_1 t1000000_2) (q_lex_lexer_number_w_0 m0)) = (lex_lexer_number_w.t0 n) := by funext down_1 t1000000_2; exact ih down_1 t1000000_2
    have e1 : (fun d_5 t1000000_6 => evJ E_lex_lexer_number_w (drE E_lex_lexer_number_w) n (.tail cd_lex_lexer_number_w_1) 0 (sg_lex_lexer_number_w_1 d_5 t1000000_6) (q_lex_lexer_number_w_0 m0)) = (lex_lexer_number_w.t1 n) := by funext d_5 t1000000_6; exact J_lex_lexer_number_w_1 m0 n n d_5 t1000000_6
    refine (st_lex_lexer_number_w_j0 m0 n down_1 t1000000_2).trans ?_
    rw [e1]; rfl
theorem st_lex_lexer_number_w (m0 : Nat) (l : (ByteArray × Int)) : evC E_lex_lexer_number_w (evJ E_lex_lexer_number_w (drE E_lex_lexer_number_w) m0) (drE E_lex_lexer_number_w) b_lex_lexer_number_w 0 (st0 [.io (.pair .str (.int .i64)) []] (l, ())) (fin E_lex_lexer_number_w [.tmp 2, .tmp 3] 1 [((.int .i64), []), (.bool, []), ((.pair .str (.int .i64)), [])]) = lex_lexer_number_w.S (fun down_1 t1000000_2 => evJ E_lex_lexer_number_w (drE E_lex_lexer_number_w) m0 (.tail cd_lex_lexer_number_w_2) 0 (sg_lex_lexer_number_w_0 down_1 t1000000_2) (q_lex_lexer_number_w_0 m0)) l := by kernel_rfl
theorem ev_lex_lexer_number_w (l : (ByteArray × Int)) : evC E_lex_lexer_number_w (evJ E_lex_lexer_number_w (drE E_lex_lexer_number_w) fu) (drE E_lex_lexer_number_w) b_lex_lexer_number_w 0 (st0 [.io (.pair .str (.int .i64)) []] (l, ())) (fin E_lex_lexer_number_w [.tmp 2, .tmp 3] 1 [((.int .i64), []), (.bool, []), ((.pair .str (.int .i64)), [])]) = lex_lexer_number_w l := by
  have e0 : (fun down_1 t1000000_2 => evJ E_lex_lexer_number_w (drE E_lex_lexer_number_w) fu (.tail cd_lex_lexer_number_w_2) 0 (sg_lex_lexer_number_w_0 down_1 t1000000_2) (q_lex_lexer_number_w_0 fu)) = (lex_lexer_number_w.t0 fu) := by funext down_1 t1000000_2; exact J_lex_lexer_number_w_0 fu fu down_1 t1000000_2
  refine (st_lex_lexer_number_w fu l).trans ?_
  rw [e0]; rfl
@[reducible] def sp_lex_lexer_number_w   : AM.Spec := AM.specIo 2 [.io (.pair .str (.int .i64)) []] [((.int .i64), []), (.bool, []), ((.pair .str (.int .i64)), [])] (fun x => lex_lexer_number_w x.1)
theorem c_lex_lexer_number_w : Contract Tryd.prog 16 sp_lex_lexer_number_w :=
  contract_io (Tab.envOk tabOk _ _) calls_lex_lexer_number_w tabOk.mixed (fn := Tryd.f16) (c := b_lex_lexer_number_w) (ts := [.tmp 2, .tmp 3]) (by kernel_rfl) (by kernel_rfl) (by kernel_rfl) (by decide) (by kernel_rfl) (by decide) fun x _ h => ⟨fu, (ev_lex_lexer_number_w x.1).trans h⟩

/-! (*strings.Builder).Len -/
@[reducible] noncomputable def E_strings_Builder_Len_w : Env := tab.env (AM.look []) ⟨[], [], [], ⟨[(2, true)], [(1000000, true)]⟩, [], []⟩
theorem calls_strings_Builder_Len_w : CallsOk Tryd.prog E_strings_Builder_Len_w := callsOk_of trivial
noncomputable def b_strings_Builder_Len_w : Code := (Tryd.f25.body).getD .skip
theorem st_strings_Builder_Len_w (m0 : Nat) (b : (Bool × (List Int))) : evC E_strings_Builder_Len_w (evJ E_strings_Builder_Len_w (drE E_strings_Builder_Len_w) m0) (drE E_strings_Builder_Len_w) b_strings_Builder_Len_w 0 (st0 [.io (.pair (.lk false) (.sl (.int .u8))) []] (b, ())) (fin E_strings_Builder_Len_w [.tmp 2] 1 [((.int .i64), []), ((.pair (.lk false) (.sl (.int .u8))), [])]) = some (strings_Builder_Len_w b) := by kernel_rfl
theorem ev_strings_Builder_Len_w (b : (Bool × (List Int))) : evC E_strings_Builder_Len_w (evJ E_strings_Builder_Len_w (drE E_strings_Builder_Len_w) fu) (drE E_strings_Builder_Len_w) b_strings_Builder_Len_w 0 (st0 [.io (.pair (.lk false) (.sl (.int .u8))) []] (b, ())) (fin E_strings_Builder_Len_w [.tmp 2] 1 [((.int .i64), []), ((.pair (.lk false) (.sl (.int .u8))), [])]) = some (strings_Builder_Len_w b) := st_strings_Builder_Len_w fu b
@[reducible] def sp_strings_Builder_Len_w   : AM.Spec := AM.specIo 1 [.io (.pair (.lk false) (.sl (.int .u8))) []] [((.int .i64), []), ((.pair (.lk false) (.sl (.int .u8))), [])] (fun x => some (strings_Builder_Len_w x.1))
theorem c_strings_Builder_Len_w : Contract Tryd.prog 25 sp_strings_Builder_Len_w :=
  contract_io (Tab.envOk tabOk _ _) calls_strings_Builder_Len_w tabOk.mixed (fn := Tryd.f25) (c := b_strings_Builder_Len_w) (ts := [.tmp 2]) (by kernel_rfl) (by kernel_rfl) (by kernel_rfl) (by decide) (by kernel_rfl) (by decide) fun x _ h => ⟨fu, (ev_strings_Builder_Len_w x.1).trans h⟩

/-! (*strings.Builder).WriteByte -/
@[reducible] noncomputable def E_strings_Builder_WriteByte_w1 : Env := tab.env (AM.look [(38, sp_bld_check)]) ⟨[], [], [], ⟨[(4, true)], [(1000000, true)]⟩, [], []⟩
theorem calls_strings_Builder_WriteByte_w1 : CallsOk Tryd.prog E_strings_Builder_WriteByte_w1 := callsOk_of ⟨⟨c_bld_check, Tryd.call38, fun h => nomatch (show false = true from h)⟩, trivial⟩
noncomputable def b_strings_Builder_WriteByte_w1 : Code := (Tryd.f26.body).getD .skip
theorem st_strings_Builder_WriteByte_w1 (m0 : Nat) (b : (Bool × (List Int))) (c : Int) : evC E_strings_Builder_WriteByte_w1 (evJ E_strings_Builder_WriteByte_w1 (drE E_strings_Builder_WriteByte_w1) m0) (drE E_strings_Builder_WriteByte_w1) b_strings_Builder_WriteByte_w1 0 (st0 [.io (.pair (.lk false) (.sl (.int .u8))) [(1, 0)], .val (.int .u8)] (b, c, ())) (fin E_strings_Builder_WriteByte_w1 [.tmp 4] 1 [((.lk true), []), ((.pair (.lk false) (.sl (.int .u8))), [⟨1, 1, 0, 0⟩])]) = strings_Builder_WriteByte_w1 b c := by kernel_rfl
theorem ev_strings_Builder_WriteByte_w1 (b : (Bool × (List Int))) (c : Int) : evC E_strings_Builder_WriteByte_w1 (evJ E_strings_Builder_WriteByte_w1 (drE E_strings_Builder_WriteByte_w1) fu) (drE E_strings_Builder_WriteByte_w1) b_strings_Builder_WriteByte_w1 0 (st0 [.io (.pair (.lk false) (.sl (.int .u8))) [(1, 0)], .val (.int .u8)] (b, c, ())) (fin E_strings_Builder_WriteByte_w1 [.tmp 4] 1 [((.lk true), []), ((.pair (.lk false) (.sl (.int .u8))), [⟨1, 1, 0, 0⟩])]) = strings_Builder_WriteByte_w1 b c := st_strings_Builder_WriteByte_w1 fu b c
@[reducible] def sp_strings_Builder_WriteByte_w1   : AM.Spec := AM.specIo 1 [.io (.pair (.lk false) (.sl (.int .u8))) [(1, 0)], .val (.int .u8)] [((.lk true), []), ((.pair (.lk false) (.sl (.int .u8))), [⟨1, 1, 0, 0⟩])] (fun x => strings_Builder_WriteByte_w1 x.1 x.2.1)
theorem c_strings_Builder_WriteByte_w1 : Contract Tryd.prog 26 sp_strings_Builder_WriteByte_w1 :=
  contract_io (Tab.envOk tabOk _ _) calls_strings_Builder_WriteByte_w1 tabOk.mixed (fn := Tryd.f26) (c := b_strings_Builder_WriteByte_w1) (ts := [.tmp 4]) (by kernel_rfl) (by kernel_rfl) (by kernel_rfl) (by decide) (by kernel_rfl) (by decide) fun x _ h => ⟨fu, (ev_strings_Builder_WriteByte_w1 x.1 x.2.1).trans h⟩

/-! (*peristyle/lex.lexer).text -/
@[reducible] noncomputable def E_lex_lexer_text_w : Env := tab.env (AM.look [(24, sp_bld_String), (25, sp_strings_Builder_Len_w), (26, sp_strings_Builder_WriteByte_w1)]) ⟨[(0, ⟨[(0, true), (4, true)], [(4, true), (1000000, true)]⟩)], [], [], ⟨[(2, true), (3, true)], [(1000000, true)]⟩, [], []⟩
theorem calls_lex_lexer_text_w : CallsOk Tryd.prog E_lex_lexer_text_w := callsOk_of ⟨⟨c_bld_String, Tryd.call24, fun h => nomatch (show false = true from h)⟩, ⟨⟨c_strings_Builder_Len_w, Tryd.call25, fun h => nomatch (show false = true from h)⟩, ⟨⟨c_strings_Builder_WriteByte_w1, Tryd.call26, fun h => nomatch (show false = true from h)⟩, trivial⟩⟩⟩
noncomputable def b_lex_lexer_text_w : Code := (Tryd.f17.body).getD .skip
noncomputable def sg_lex_lexer_text_w_0 (b_1 : (Bool × (List Int))) (t1000000_2 : (ByteArray × Int)) : St := mk [(0, .ptr 1000000 0 0), (4, .ptr 4 0 0)] [(4, some (.var (.pair (.lk false) (.sl (.int .u8))) b_1 [⟨1, 64258, 0, 0⟩])), (1000000, some (.var (.pair .str (.int .i64)) t1000000_2 []))]
noncomputable def q_lex_lexer_text_w_0 (m0 : Nat) : K (ResD [(.str, []), (.bool, []), ((.pair .str (.int .i64)), [])]) := fin E_lex_lexer_text_w [.tmp 2, .tmp 3] 1 [(.str, []), (.bool, []), ((.pair .str (.int .i64)), [])]
noncomputable def cd_lex_lexer_text_w_1 : Code := (rgt (rgt (rgt b_lex_lexer_text_w)))
noncomputable def q_lex_lexer_text_w_1 (m0 : Nat) : K (ResD [(.str, []), (.bool, []), ((.pair .str (.int .i64)), [])]) := seqK E_lex_lexer_text_w (evJ E_lex_lexer_text_w (drE E_lex_lexer_text_w) m0) cd_lex_lexer_text_w_1 0 (evC E_lex_lexer_text_w (evJ E_lex_lexer_text_w (drE E_lex_lexer_text_w) m0) (drE E_lex_lexer_text_w) cd_lex_lexer_text_w_1 0) (q_lex_lexer_text_w_0 m0)
noncomputable def q_lex_lexer_text_w_2 (m0 : Nat) : K (ResD [(.str, []), (.bool, []), ((.pair .str (.int .i64)), [])]) := blockK 0 (q_lex_lexer_text_w_1 m0)
noncomputable def cd_lex_lexer_text_w_2 : Code := (lft (lft (rgt (lft (rgt (rgt b_lex_lexer_text_w))))))
theorem st_lex_lexer_text_w_j0 (m0 : Nat) (n : Nat) (b_1 : (Bool × (List Int))) (t1000000_2 : (ByteArray × Int)) : evJ E_lex_lexer_text_w (drE E_lex_lexer_text_w) (n + 1) (.loop cd_lex_lexer_text_w_2) 0 (sg_lex_lexer_text_w_0 b_1 t1000000_2) (q_lex_lexer_text_w_2 m0) = lex_lexer_text_w.S0 (fun b_1 t1000000_2 => evJ E_lex_lexer_text_w (drE E_lex_lexer_text_w) n (.loop cd_lex_lexer_text_w_2) 0 (sg_lex_lexer_text_w_0 b_1 t1000000_2) (q_lex_lexer_text_w_2 m0)) b_1 t1000000_2 := by kernel_rfl
theorem J_lex_lexer_text_w_0 (m0 : Nat) : ∀ (n : Nat) (b_1 : (Bool × (List Int))) (t1000000_2 : (ByteArray × Int)), evJ E_lex_lexer_text_w (drE E_lex_lexer_text_w) n (.loop cd_lex_lexer_text_w_2) 0 (sg_lex_lexer_text_w_0 b_1 t1000000_2) (q_lex_lexer_text_w_2 m0) = lex_lexer_text_w.l0 n b_1 t1000000_2 := by
  intro n
  induction n with
  | zero => intros; rfl
  | succ n ih =>
    intro b_1 t1000000_2
    have e0 : (fun b_1 t1000000_2 => evJ E_lex_lexer_text_w (drE E_lex_lexer_text_w) n (.loop cd_lex_lexer_text_w_2) 0 (sg_lex_lexer_text_w_0 b_1 t1000000_2) (q_lex_lexer_text_w_2 m0)) = (lex_lexer_text_w.l0 n) := by funext b_1 t1000000_2; exact ih b_1 t1000000_2
    refine (st_lex_lexer_text_w_j0 m0 n b_1 t1000000_2).trans ?_
    rw [e0]; rfl
theorem st_lex_lexer_text_w (m0 : Nat) (l : (ByteArray × Int)) : evC E_lex_lexer_text_w (evJ E_lex_lexer_text_w (drE E_lex_lexer_text_w) m0) (drE E_lex_lexer_text_w) b_lex_lexer_text_w 0 (st0 [.io (.pair .str (.int .i64)) []] (l, ())) (fin E_lex_lexer_text_w [.tmp 2, .tmp 3] 1 [(.str, []), (.bool, []), ((.pair .str (.int .i64)), [])]) = lex_lexer_text_w.S (fun b_1 t1000000_2 => evJ E_lex_lexer_text_w (drE E_lex_lexer_text_w) m0 (.loop cd_lex_lexer_text_w_2) 0 (sg_lex_lexer_text_w_0 b_1 t1000000_2) (q_lex_lexer_text_w_2 m0)) l := by kernel_rfl
theorem ev_lex_lexer_text_w (l : (ByteArray × Int)) : evC E_lex_lexer_text_w (evJ E_lex_lexer_text_w (drE E_lex_lexer_text_w) fu) (drE E_lex_lexer_text_w) b_lex_lexer_text_w 0 (st0 [.io (.pair .str (.int .i64)) []] (l, ())) (fin E_lex_lexer_text_w [.tmp 2, .tmp 3] 1 [(.str, []), (.bool, []), ((.pair .str (.int .i64)), [])]) = lex_lexer_text_w l := by
  have e0 : (fun b_1 t1000000_2 => evJ E_lex_lexer_text_w (drE E_lex_lexer_text_w) fu (.loop cd_lex_lexer_text_w_2) 0 (sg_lex_lexer_text_w_0 b_1 t1000000_2) (q_lex_lexer_text_w_2 fu)) = (lex_lexer_text_w.l0 fu) := by funext b_1 t1000000_2; exact J_lex_lexer_text_w_0 fu fu b_1 t1000000_2
  refine (st_lex_lexer_text_w fu l).trans ?_
  rw [e0]; rfl
@[reducible] def sp_lex_lexer_text_w   : AM.Spec := AM.specIo 2 [.io (.pair .str (.int .i64)) []] [(.str, []), (.bool, []), ((.pair .str (.int .i64)), [])] (fun x => lex_lexer_text_w x.1)
theorem c_lex_lexer_text_w : Contract Tryd.prog 17 sp_lex_lexer_text_w :=
  contract_io (Tab.envOk tabOk _ _) calls_lex_lexer_text_w tabOk.mixed (fn := Tryd.f17) (c := b_lex_lexer_text_w) (ts := [.tmp 2, .tmp 3]) (by kernel_rfl) (by kernel_rfl) (by kernel_rfl) (by decide) (by kernel_rfl) (by decide) fun x _ h => ⟨fu, (ev_lex_lexer_text_w x.1).trans h⟩

/-! (*peristyle/lex.lexer).sign -/
@[reducible] noncomputable def E_lex_lexer_sign_w : Env := tab.env (AM.look []) ⟨[], [], [(8, ⟨[(0, true), (3, true)], [(1000000, true)]⟩)], ⟨[(2, true)], [(1000000, true)]⟩, [], []⟩
theorem calls_lex_lexer_sign_w : CallsOk Tryd.prog E_lex_lexer_sign_w := callsOk_of trivial
noncomputable def b_lex_lexer_sign_w : Code := (Tryd.f18.body).getD .skip
noncomputable def sg_lex_lexer_sign_w_0 (n_1 : Int) (t1000000_2 : (ByteArray × Int)) : St := mk [(0, .ptr 1000000 0 0), (3, .dat (.int .i64) n_1 [])] [(1000000, some (.var (.pair .str (.int .i64)) t1000000_2 []))]
noncomputable def q_lex_lexer_sign_w_0 (m0 : Nat) : K (ResD [(.str, []), ((.pair .str (.int .i64)), [])]) := fin E_lex_lexer_sign_w [.tmp 2] 1 [(.str, []), ((.pair .str (.int .i64)), [])]
noncomputable def cd_lex_lexer_sign_w_1 : Code := (rgt (rgt (rgt b_lex_lexer_sign_w)))
theorem st_lex_lexer_sign_w_j0 (m0 : Nat) (n : Nat) (n_1 : Int) (t1000000_2 : (ByteArray × Int)) : evJ E_lex_lexer_sign_w (drE E_lex_lexer_sign_w) (n + 1) (.tail cd_lex_lexer_sign_w_1) 0 (sg_lex_lexer_sign_w_0 n_1 t1000000_2) (q_lex_lexer_sign_w_0 m0) = lex_lexer_sign_w.S0 n_1 t1000000_2 := by kernel_rfl
theorem J_lex_lexer_sign_w_0 (m0 : Nat) : ∀ (n : Nat) (n_1 : Int) (t1000000_2 : (ByteArray × Int)), evJ E_lex_lexer_sign_w (drE E_lex_lexer_sign_w) n (.tail cd_lex_lexer_sign_w_1) 0 (sg_lex_lexer_sign_w_0 n_1 t1000000_2) (q_lex_lexer_sign_w_0 m0) = lex_lexer_sign_w.t0 n n_1 t1000000_2 := by
  intro n
  induction n with
  | zero => intros; rfl
  | succ n ih =>
    intro n_1 t1000000_2
    have e0 : (fun n_1 t1000000_2 => evJ E_lex_lexer_sign_w (drE E_lex_lexer_sign_w) n (.tail cd_lex_lexer_sign_w_1) 0 (sg_lex_lexer_sign_w_0 n_1 t1000000_2) (q_lex_lexer_sign_w_0 m0)) = (lex_lexer_sign_w.t0 n) := by funext n_1 t1000000_2; exact ih n_1 t1000000_2
    refine (st_lex_lexer_sign_w_j0 m0 n n_1 t1000000_2).trans ?_
    rfl
theorem st_lex_lexer_sign_w (m0 : Nat) (l : (ByteArray × Int)) : evC E_lex_lexer_sign_w (evJ E_lex_lexer_sign_w (drE E_lex_lexer_sign_w) m0) (drE E_lex_lexer_sign_w) b_lex_lexer_sign_w 0 (st0 [.io (.pair .str (.int .i64)) []] (l, ())) (fin E_lex_lexer_sign_w [.tmp 2] 1 [(.str, []), ((.pair .str (.int .i64)), [])]) = lex_lexer_sign_w.S (fun n_1 t1000000_2 => evJ E_lex_lexer_sign_w (drE E_lex_lexer_sign_w) m0 (.tail cd_lex_lexer_sign_w_1) 0 (sg_lex_lexer_sign_w_0 n_1 t1000000_2) (q_lex_lexer_sign_w_0 m0)) l := by kernel_rfl
theorem ev_lex_lexer_sign_w (l : (ByteArray × Int)) : evC E_lex_lexer_sign_w (evJ E_lex_lexer_sign_w (drE E_lex_lexer_sign_w) fu) (drE E_lex_lexer_sign_w) b_lex_lexer_sign_w 0 (st0 [.io (.pair .str (.int .i64)) []] (l, ())) (fin E_lex_lexer_sign_w [.tmp 2] 1 [(.str, []), ((.pair .str (.int .i64)), [])]) = lex_lexer_sign_w l := by
  have e0 : (fun n_1 t1000000_2 => evJ E_lex_lexer_sign_w (drE E_lex_lexer_sign_w) fu (.tail cd_lex_lexer_sign_w_1) 0 (sg_lex_lexer_sign_w_0 n_1 t1000000_2) (q_lex_lexer_sign_w_0 fu)) = (lex_lexer_sign_w.t0 fu) := by funext n_1 t1000000_2; exact J_lex_lexer_sign_w_0 fu fu n_1 t1000000_2
  refine (st_lex_lexer_sign_w fu l).trans ?_
  rw [e0]; rfl
@[reducible] def sp_lex_lexer_sign_w   : AM.Spec := AM.specIo 1 [.io (.pair .str (.int .i64)) []] [(.str, []), ((.pair .str (.int .i64)), [])] (fun x => lex_lexer_sign_w x.1)
theorem c_lex_lexer_sign_w : Contract Tryd.prog 18 sp_lex_lexer_sign_w :=
  contract_io (Tab.envOk tabOk _ _) calls_lex_lexer_sign_w tabOk.mixed (fn := Tryd.f18) (c := b_lex_lexer_sign_w) (ts := [.tmp 2]) (by kernel_rfl) (by kernel_rfl) (by kernel_rfl) (by decide) (by kernel_rfl) (by decide) fun x _ h => ⟨fu, (ev_lex_lexer_sign_w x.1).trans h⟩

/-! (*peristyle/lex.lexer).next -/
@[reducible] noncomputable def E_lex_lexer_next_w : Env := tab.env (AM.look [(11, sp_lex_kind), (9, sp_lex_lexer_while__lex_lexer_next_1_w), (16, sp_lex_lexer_number_w), (17, sp_lex_lexer_text_w), (18, sp_lex_lexer_sign_w)]) ⟨[], [], [], ⟨[(2, true), (3, true)], [(2, true), (1000000, true)]⟩, [], [9, 11, 16, 17, 18]⟩
theorem calls_lex_lexer_next_w : CallsOk Tryd.prog E_lex_lexer_next_w := callsOk_of ⟨⟨c_lex_kind, Tryd.call11, fun _ => words_spec rfl⟩, ⟨⟨c_lex_lexer_while__lex_lexer_next_1_w, Tryd.call9, fun _ => words_io rfl⟩, ⟨⟨c_lex_lexer_number_w, Tryd.call16, fun _ => words_io rfl⟩, ⟨⟨c_lex_lexer_text_w, Tryd.call17, fun _ => words_io rfl⟩, ⟨⟨c_lex_lexer_sign_w, Tryd.call18, fun _ => words_io rfl⟩, trivial⟩⟩⟩⟩⟩
noncomputable def b_lex_lexer_next_w : Code := (Tryd.f12.body).getD .skip
theorem st_lex_lexer_next_w (m0 : Nat) (l : (ByteArray × Int)) : evC E_lex_lexer_next_w (evJ E_lex_lexer_next_w (drE E_lex_lexer_next_w) m0) (drE E_lex_lexer_next_w) b_lex_lexer_next_w 0 (st0 [.io (.pair .str (.int .i64)) []] (l, ())) (fin E_lex_lexer_next_w [.cell 2 30, .tmp 3] 1 [((.pair (.int .i64) (.pair .str (.pair (.int .i64) (.int .i64)))), []), (.bool, []), ((.pair .str (.int .i64)), [])]) = lex_lexer_next_w l := by kernel_rfl
theorem ev_lex_lexer_next_w (l : (ByteArray × Int)) : evC E_lex_lexer_next_w (evJ E_lex_lexer_next_w (drE E_lex_lexer_next_w) fu) (drE E_lex_lexer_next_w) b_lex_lexer_next_w 0 (st0 [.io (.pair .str (.int .i64)) []] (l, ())) (fin E_lex_lexer_next_w [.cell 2 30, .tmp 3] 1 [((.pair (.int .i64) (.pair .str (.pair (.int .i64) (.int .i64)))), []), (.bool, []), ((.pair .str (.int .i64)), [])]) = lex_lexer_next_w l := st_lex_lexer_next_w fu l
@[reducible] def sp_lex_lexer_next_w   : AM.Spec := AM.specIo 2 [.io (.pair .str (.int .i64)) []] [((.pair (.int .i64) (.pair .str (.pair (.int .i64) (.int .i64)))), []), (.bool, []), ((.pair .str (.int .i64)), [])] (fun x => lex_lexer_next_w x.1)
theorem c_lex_lexer_next_w : Contract Tryd.prog 12 sp_lex_lexer_next_w :=
  contract_io (Tab.envOk tabOk _ _) calls_lex_lexer_next_w tabOk.mixed (fn := Tryd.f12) (c := b_lex_lexer_next_w) (ts := [.cell 2 30, .tmp 3]) (by kernel_rfl) (by kernel_rfl) (by kernel_rfl) (by decide) (by kernel_rfl) (by decide) fun x _ h => ⟨fu, (ev_lex_lexer_next_w x.1).trans h⟩

/-! peristyle/lex.Tokens -/
@[reducible] noncomputable def E_lex_Tokens : Env := tab.env (AM.look [(9, sp_lex_lexer_while__lex_Tokens_1_w), (12, sp_lex_lexer_next_w)]) ⟨[(0, ⟨[(0, true), (5, true), (6, true)], [(14, true)]⟩)], [], [], ⟨[(2, true), (3, true), (4, true)], []⟩, [], [9, 12]⟩
theorem calls_lex_Tokens : CallsOk Tryd.prog E_lex_Tokens := callsOk_of ⟨⟨c_lex_lexer_while__lex_Tokens_1_w, Tryd.call9, fun _ => words_io rfl⟩, ⟨⟨c_lex_lexer_next_w, Tryd.call12, fun _ => words_io rfl⟩, trivial⟩⟩
noncomputable def b_lex_Tokens : Code := (Tryd.f6.body).getD .skip
noncomputable def sg_lex_Tokens_0 (s_1 : ByteArray) (out_2 : (List (Int × (ByteArray × (Int × Int))))) (t14_3 : (ByteArray × Int)) : St := mk [(0, .dat .str s_1 []), (5, .ptr 14 0 0), (6, .dat (.sl (.pair (.int .i64) (.pair .str (.pair (.int .i64) (.int .i64))))) out_2 [⟨0, 385, 0, 4⟩])] [(14, some (.var (.pair .str (.int .i64)) t14_3 []))]
noncomputable def q_lex_Tokens_0 (m0 : Nat) : K (ResD [((.sl (.pair (.int .i64) (.pair .str (.pair (.int .i64) (.int .i64))))), [⟨0, 1, 0, 4⟩]), ((.int .i64), []), ((.int .i64), [])]) := fin E_lex_Tokens [.tmp 2, .tmp 3, .tmp 4] 0 [((.sl (.pair (.int .i64) (.pair .str (.pair (.int .i64) (.int .i64))))), [⟨0, 1, 0, 4⟩]), ((.int .i64), []), ((.int .i64), [])]
noncomputable def q_lex_Tokens_1 (m0 : Nat) : K (ResD [((.sl (.pair (.int .i64) (.pair .str (.pair (.int .i64) (.int .i64))))), [⟨0, 1, 0, 4⟩]), ((.int .i64), []), ((.int .i64), [])]) := blockK 0 (q_lex_Tokens_0 m0)
noncomputable def cd_lex_Tokens_1 : Code := (lft (lft (rgt (rgt (rgt (rgt b_lex_Tokens))))))
theorem st_lex_Tokens_j0 (m0 : Nat) (n : Nat) (s_1 : ByteArray) (out_2 : (List (Int × (ByteArray × (Int × Int))))) (t14_3 : (ByteArray × Int)) : evJ E_lex_Tokens (drE E_lex_Tokens) (n + 1) (.loop cd_lex_Tokens_1) 0 (sg_lex_Tokens_0 s_1 out_2 t14_3) (q_lex_Tokens_1 m0) = lex_Tokens.S0 (fun s_1 out_2 t14_3 => evJ E_lex_Tokens (drE E_lex_Tokens) n (.loop cd_lex_Tokens_1) 0 (sg_lex_Tokens_0 s_1 out_2 t14_3) (q_lex_Tokens_1 m0)) s_1 out_2 t14_3 := by kernel_rfl
theorem J_lex_Tokens_0 (m0 : Nat) : ∀ (n : Nat) (s_1 : ByteArray) (out_2 : (List (Int × (ByteArray × (Int × Int))))) (t14_3 : (ByteArray × Int)), evJ E_lex_Tokens (drE E_lex_Tokens) n (.loop cd_lex_Tokens_1) 0 (sg_lex_Tokens_0 s_1 out_2 t14_3) (q_lex_Tokens_1 m0) = lex_Tokens.l0 n s_1 out_2 t14_3 := by
  intro n
  induction n with
  | zero => intros; rfl
  | succ n ih =>
    intro s_1 out_2 t14_3
    have e0 : (fun s_1 out_2 t14_3 => evJ E_lex_Tokens (drE E_lex_Tokens) n (.loop cd_lex_Tokens_1) 0 (sg_lex_Tokens_0 s_1 out_2 t14_3) (q_lex_Tokens_1 m0)) = (lex_Tokens.l0 n) := by funext s_1 out_2 t14_3; exact ih s_1 out_2 t14_3
    refine (st_lex_Tokens_j0 m0 n s_1 out_2 t14_3).trans ?_
    rw [e0]; rfl
theorem st_lex_Tokens (m0 : Nat) (s : ByteArray) : evC E_lex_Tokens (evJ E_lex_Tokens (drE E_lex_Tokens) m0) (drE E_lex_Tokens) b_lex_Tokens 0 (st0 [.val .str] (s, ())) (fin E_lex_Tokens [.tmp 2, .tmp 3, .tmp 4] 0 [((.sl (.pair (.int .i64) (.pair .str (.pair (.int .i64) (.int .i64))))), [⟨0, 1, 0, 4⟩]), ((.int .i64), []), ((.int .i64), [])]) = lex_Tokens.S (fun s_1 out_2 t14_3 => evJ E_lex_Tokens (drE E_lex_Tokens) m0 (.loop cd_lex_Tokens_1) 0 (sg_lex_Tokens_0 s_1 out_2 t14_3) (q_lex_Tokens_1 m0)) s := by kernel_rfl
theorem ev_lex_Tokens (s : ByteArray) : evC E_lex_Tokens (evJ E_lex_Tokens (drE E_lex_Tokens) fu) (drE E_lex_Tokens) b_lex_Tokens 0 (st0 [.val .str] (s, ())) (fin E_lex_Tokens [.tmp 2, .tmp 3, .tmp 4] 0 [((.sl (.pair (.int .i64) (.pair .str (.pair (.int .i64) (.int .i64))))), [⟨0, 1, 0, 4⟩]), ((.int .i64), []), ((.int .i64), [])]) = lex_Tokens s := by
  have e0 : (fun s_1 out_2 t14_3 => evJ E_lex_Tokens (drE E_lex_Tokens) fu (.loop cd_lex_Tokens_1) 0 (sg_lex_Tokens_0 s_1 out_2 t14_3) (q_lex_Tokens_1 fu)) = (lex_Tokens.l0 fu) := by funext s_1 out_2 t14_3; exact J_lex_Tokens_0 fu fu s_1 out_2 t14_3
  refine (st_lex_Tokens fu s).trans ?_
  rw [e0]; rfl
@[reducible] def sp_lex_Tokens   : AM.Spec := AM.spec [.val .str] [((.sl (.pair (.int .i64) (.pair .str (.pair (.int .i64) (.int .i64))))), [⟨0, 1, 0, 4⟩]), ((.int .i64), []), ((.int .i64), [])] (fun x => lex_Tokens x.1)
theorem c_lex_Tokens : Contract Tryd.prog 6 sp_lex_Tokens :=
  contract_of (Tab.envOk tabOk _ _) calls_lex_Tokens tabOk.mixed (fn := Tryd.f6) (c := b_lex_Tokens) (ts := [.tmp 2, .tmp 3, .tmp 4]) (by kernel_rfl) (by kernel_rfl) (by kernel_rfl) (by decide) (by kernel_rfl) (by decide) rfl fun x _ h => ⟨fu, (ev_lex_Tokens x.1).trans h⟩

/-! peristyle/lex.Keyword -/
@[reducible] noncomputable def E_lex_Keyword : Env := tab.env (AM.look [(14, sp_strings_Contains)]) ⟨[], [], [], ⟨[(2, true)], []⟩, [], [14]⟩
theorem calls_lex_Keyword : CallsOk Tryd.prog E_lex_Keyword := callsOk_of ⟨⟨c_strings_Contains, Tryd.call14, fun _ => words_spec rfl⟩, trivial⟩
noncomputable def b_lex_Keyword : Code := (Tryd.f8.body).getD .skip
theorem st_lex_Keyword (m0 : Nat) (s : ByteArray) : evC E_lex_Keyword (evJ E_lex_Keyword (drE E_lex_Keyword) m0) (drE E_lex_Keyword) b_lex_Keyword 0 (st0 [.val .str] (s, ())) (fin E_lex_Keyword [.tmp 2] 0 [(.bool, [])]) = lex_Keyword s := by kernel_rfl
theorem ev_lex_Keyword (s : ByteArray) : evC E_lex_Keyword (evJ E_lex_Keyword (drE E_lex_Keyword) fu) (drE E_lex_Keyword) b_lex_Keyword 0 (st0 [.val .str] (s, ())) (fin E_lex_Keyword [.tmp 2] 0 [(.bool, [])]) = lex_Keyword s := st_lex_Keyword fu s
@[reducible] def sp_lex_Keyword   : AM.Spec := AM.spec [.val .str] [(.bool, [])] (fun x => lex_Keyword x.1)
theorem c_lex_Keyword : Contract Tryd.prog 8 sp_lex_Keyword :=
  contract_of (Tab.envOk tabOk _ _) calls_lex_Keyword tabOk.mixed (fn := Tryd.f8) (c := b_lex_Keyword) (ts := [.tmp 2]) (by kernel_rfl) (by kernel_rfl) (by kernel_rfl) (by decide) (by kernel_rfl) (by decide) rfl fun x _ h => ⟨fu, (ev_lex_Keyword x.1).trans h⟩

/-! peristyle/peristylelaw29.awake -/
@[reducible] noncomputable def E_law29_awake : Env := tab.env (AM.look [(6, sp_lex_Tokens), (8, sp_lex_Keyword)]) ⟨[], [], [], ⟨[(0, true)], []⟩, [], [8]⟩
theorem calls_law29_awake : CallsOk Tryd.prog E_law29_awake := callsOk_of ⟨⟨c_lex_Tokens, Tryd.call6, fun h => nomatch (show false = true from h)⟩, ⟨⟨c_lex_Keyword, Tryd.call8, fun _ => words_spec rfl⟩, trivial⟩⟩
noncomputable def b_law29_awake : Code := (Tryd.f5.body).getD .skip
theorem st_law29_awake (m0 : Nat) : evC E_law29_awake (evJ E_law29_awake (drE E_law29_awake) m0) (drE E_law29_awake) b_law29_awake 0 (st0 [] ()) (fin E_law29_awake [.tmp 0] 0 [(.bool, [])]) = law29_awake := by kernel_rfl
theorem ev_law29_awake : evC E_law29_awake (evJ E_law29_awake (drE E_law29_awake) fu) (drE E_law29_awake) b_law29_awake 0 (st0 [] ()) (fin E_law29_awake [.tmp 0] 0 [(.bool, [])]) = law29_awake := st_law29_awake fu
@[reducible] def sp_law29_awake   : AM.Spec := AM.spec [] [(.bool, [])] (fun x => law29_awake)
theorem c_law29_awake : Contract Tryd.prog 5 sp_law29_awake :=
  contract_of (Tab.envOk tabOk _ _) calls_law29_awake tabOk.mixed (fn := Tryd.f5) (c := b_law29_awake) (ts := [.tmp 0]) (by kernel_rfl) (by kernel_rfl) (by kernel_rfl) (by decide) (by kernel_rfl) (by decide) rfl fun x _ h => ⟨fu, (ev_law29_awake).trans h⟩

/-! peristyle/peristyleref06.digits -/
@[reducible] noncomputable def E_ref06_digits : Env := tab.env (AM.look []) ⟨[(0, ⟨[(0, true), (3, true)], []⟩)], [], [(5, ⟨[(3, true)], []⟩)], ⟨[(2, true)], []⟩, [], []⟩
theorem calls_ref06_digits : CallsOk Tryd.prog E_ref06_digits := callsOk_of trivial
noncomputable def b_ref06_digits : Code := (Tryd.f19.body).getD .skip
noncomputable def sg_ref06_digits_1 (s_3 : ByteArray) : St := mk [(3, .dat .str s_3 [])] []
noncomputable def sg_ref06_digits_0 (n_1 : Int) (s_2 : ByteArray) : St := mk [(0, .dat (.int .i64) n_1 []), (3, .dat .str s_2 [])] []
noncomputable def q_ref06_digits_0 (m0 : Nat) : K (ResD [(.str, [])]) := fin E_ref06_digits [.tmp 2] 0 [(.str, [])]
noncomputable def cd_ref06_digits_1 : Code := (rgt (rgt (rgt b_ref06_digits)))
theorem st_ref06_digits_j1 (m0 : Nat) (n : Nat) (s_3 : ByteArray) : evJ E_ref06_digits (drE E_ref06_digits) (n + 1) (.tail cd_ref06_digits_1) 0 (sg_ref06_digits_1 s_3) (q_ref06_digits_0 m0) = ref06_digits.S1 s_3 := by kernel_rfl
theorem J_ref06_digits_1 (m0 : Nat) : ∀ (n : Nat) (s_3 : ByteArray), evJ E_ref06_digits (drE E_ref06_digits) n (.tail cd_ref06_digits_1) 0 (sg_ref06_digits_1 s_3) (q_ref06_digits_0 m0) = ref06_digits.t1 n s_3 := by
  intro n
  induction n with
  | zero => intros; rfl
  | succ n ih =>
    intro s_3
    have e1 : (fun s_3 => evJ E_ref06_digits (drE E_ref06_digits) n (.tail cd_ref06_digits_1) 0 (sg_ref06_digits_1 s_3) (q_ref06_digits_0 m0)) = (ref06_digits.t1 n) := by funext s_3; exact ih s_3
    refine (st_ref06_digits_j1 m0 n s_3).trans ?_
    rfl
noncomputable def q_ref06_digits_1 (m0 : Nat) : K (ResD [(.str, [])]) := seqK E_ref06_digits (evJ E_ref06_digits (drE E_ref06_digits) m0) cd_ref06_digits_1 0 (evC E_ref06_digits (evJ E_ref06_digits (drE E_ref06_digits) m0) (drE E_ref06_digits) cd_ref06_digits_1 0) (q_ref06_digits_0 m0)
noncomputable def q_ref06_digits_2 (m0 : Nat) : K (ResD [(.str, [])]) := blockK 0 (q_ref06_digits_1 m0)
noncomputable def cd_ref06_digits_2 : Code := (lft (lft (lft (rgt (rgt b_ref06_digits)))))
theorem st_ref06_digits_j0 (m0 : Nat) (n : Nat) (n_1 : Int) (s_2 : ByteArray) : evJ E_ref06_digits (drE E_ref06_digits) (n + 1) (.loop cd_ref06_digits_2) 0 (sg_ref06_digits_0 n_1 s_2) (q_ref06_digits_2 m0) = ref06_digits.S0 (fun s_3 => evJ E_ref06_digits (drE E_ref06_digits) m0 (.tail cd_ref06_digits_1) 0 (sg_ref06_digits_1 s_3) (q_ref06_digits_0 m0)) (fun n_1 s_2 => evJ E_ref06_digits (drE E_ref06_digits) n (.loop cd_ref06_digits_2) 0 (sg_ref06_digits_0 n_1 s_2) (q_ref06_digits_2 m0)) n_1 s_2 := by kernel_rfl
theorem J_ref06_digits_0 (m0 : Nat) : ∀ (n : Nat) (n_1 : Int) (s_2 : ByteArray), evJ E_ref06_digits (drE E_ref06_digits) n (.loop cd_ref06_digits_2) 0 (sg_ref06_digits_0 n_1 s_2) (q_ref06_digits_2 m0) = ref06_digits.l0 (fun s_3 => evJ E_ref06_digits (drE E_ref06_digits) m0 (.tail cd_ref06_digits_1) 0 (sg_ref06_digits_1 s_3) (q_ref06_digits_0 m0)) n n_1 s_2 := by
  intro n
  induction n with
  | zero => intros; rfl
  | succ n ih =>
    intro n_1 s_2
    have e0 : (fun n_1 s_2 => evJ E_ref06_digits (drE E_ref06_digits) n (.loop cd_ref06_digits_2) 0 (sg_ref06_digits_0 n_1 s_2) (q_ref06_digits_2 m0)) = (ref06_digits.l0 (fun s_3 => evJ E_ref06_digits (drE E_ref06_digits) m0 (.tail cd_ref06_digits_1) 0 (sg_ref06_digits_1 s_3) (q_ref06_digits_0 m0)) n) := by funext n_1 s_2; exact ih n_1 s_2
    refine (st_ref06_digits_j0 m0 n n_1 s_2).trans ?_
    rw [e0]; rfl
theorem st_ref06_digits (m0 : Nat) (xn : Int) : evC E_ref06_digits (evJ E_ref06_digits (drE E_ref06_digits) m0) (drE E_ref06_digits) b_ref06_digits 0 (st0 [.val (.int .i64)] (xn, ())) (fin E_ref06_digits [.tmp 2] 0 [(.str, [])]) = ref06_digits.S (fun n_1 s_2 => evJ E_ref06_digits (drE E_ref06_digits) m0 (.loop cd_ref06_digits_2) 0 (sg_ref06_digits_0 n_1 s_2) (q_ref06_digits_2 m0)) xn := by kernel_rfl
theorem ev_ref06_digits (xn : Int) : evC E_ref06_digits (evJ E_ref06_digits (drE E_ref06_digits) fu) (drE E_ref06_digits) b_ref06_digits 0 (st0 [.val (.int .i64)] (xn, ())) (fin E_ref06_digits [.tmp 2] 0 [(.str, [])]) = ref06_digits xn := by
  have e1 : (fun s_3 => evJ E_ref06_digits (drE E_ref06_digits) fu (.tail cd_ref06_digits_1) 0 (sg_ref06_digits_1 s_3) (q_ref06_digits_0 fu)) = (ref06_digits.t1 fu) := by funext s_3; exact J_ref06_digits_1 fu fu s_3
  have e0 : (fun n_1 s_2 => evJ E_ref06_digits (drE E_ref06_digits) fu (.loop cd_ref06_digits_2) 0 (sg_ref06_digits_0 n_1 s_2) (q_ref06_digits_2 fu)) = (ref06_digits.l0 (ref06_digits.t1 fu) fu) := by rw [← e1]; funext n_1 s_2; exact J_ref06_digits_0 fu fu n_1 s_2
  refine (st_ref06_digits fu xn).trans ?_
  rw [e0]; rfl
@[reducible] def sp_ref06_digits   : AM.Spec := AM.spec [.val (.int .i64)] [(.str, [])] (fun x => ref06_digits x.1)
theorem c_ref06_digits : Contract Tryd.prog 19 sp_ref06_digits :=
  contract_of (Tab.envOk tabOk _ _) calls_ref06_digits tabOk.mixed (fn := Tryd.f19) (c := b_ref06_digits) (ts := [.tmp 2]) (by kernel_rfl) (by kernel_rfl) (by kernel_rfl) (by decide) (by kernel_rfl) (by decide) rfl fun x _ h => ⟨fu, (ev_ref06_digits x.1).trans h⟩

/-! peristyle/peristyleref06.Show -/
@[reducible] noncomputable def E_ref06_Show : Env := tab.env (AM.look [(19, sp_ref06_digits)]) ⟨[(1, ⟨[(1, true), (3, true), (4, true)], [(1, true)]⟩)], [], [], ⟨[(2, true)], []⟩, [], [19]⟩
theorem calls_ref06_Show : CallsOk Tryd.prog E_ref06_Show := callsOk_of ⟨⟨c_ref06_digits, Tryd.call19, fun _ => words_spec rfl⟩, trivial⟩
noncomputable def b_ref06_Show : Code := (Tryd.f13.body).getD .skip
noncomputable def sg_ref06_Show_0 (out_3 : (List Int)) (i_4 : Int) (c_5 : (Int × (Int × ByteArray))) : St := mk [(1, .ptr 1 0 0), (3, .dat (.sl (.int .u8)) out_3 [⟨0, 193, 0, 0⟩]), (4, .dat (.int .i64) i_4 [])] [(1, some (.var (.pair (.int .i64) (.pair (.int .i64) .str)) c_5 []))]
noncomputable def q_ref06_Show_0 (m0 : Nat) : K (ResD [(.str, [])]) := fin E_ref06_Show [.tmp 2] 0 [(.str, [])]
noncomputable def cd_ref06_Show_1 : Code := (rgt (rgt b_ref06_Show))
noncomputable def q_ref06_Show_1 (m0 : Nat) : K (ResD [(.str, [])]) := seqK E_ref06_Show (evJ E_ref06_Show (drE E_ref06_Show) m0) cd_ref06_Show_1 0 (evC E_ref06_Show (evJ E_ref06_Show (drE E_ref06_Show) m0) (drE E_ref06_Show) cd_ref06_Show_1 0) (q_ref06_Show_0 m0)
noncomputable def q_ref06_Show_2 (m0 : Nat) : K (ResD [(.str, [])]) := blockK 0 (q_ref06_Show_1 m0)
noncomputable def cd_ref06_Show_2 : Code := (rgt (rgt (lft (rgt (rgt (rgt (rgt (rgt (lft (rgt (lft (rgt b_ref06_Show))))))))))))
noncomputable def q_ref06_Show_3 (m0 : Nat) : K (ResD [(.str, [])]) := seqK E_ref06_Show (evJ E_ref06_Show (drE E_ref06_Show) m0) cd_ref06_Show_2 0 (evC E_ref06_Show (evJ E_ref06_Show (drE E_ref06_Show) m0) (drE E_ref06_Show) cd_ref06_Show_2 0) (q_ref06_Show_2 m0)
noncomputable def q_ref06_Show_4 (m0 : Nat) : K (ResD [(.str, [])]) := blockK 1 (q_ref06_Show_3 m0)
noncomputable def cd_ref06_Show_3 : Code := (lft (lft (rgt (lft (rgt (lft (rgt (rgt (rgt (rgt (rgt (lft (rgt (lft (rgt b_ref06_Show)))))))))))))))
theorem st_ref06_Show_j0 (m0 : Nat) (n : Nat) (out_3 : (List Int)) (i_4 : Int) (c_5 : (Int × (Int × ByteArray))) : evJ E_ref06_Show (drE E_ref06_Show) (n + 1) (.loop cd_ref06_Show_3) 1 (sg_ref06_Show_0 out_3 i_4 c_5) (q_ref06_Show_4 m0) = ref06_Show.S0 (fun out_3 i_4 c_5 => evJ E_ref06_Show (drE E_ref06_Show) n (.loop cd_ref06_Show_3) 1 (sg_ref06_Show_0 out_3 i_4 c_5) (q_ref06_Show_4 m0)) out_3 i_4 c_5 := by kernel_rfl
theorem J_ref06_Show_0 (m0 : Nat) : ∀ (n : Nat) (out_3 : (List Int)) (i_4 : Int) (c_5 : (Int × (Int × ByteArray))), evJ E_ref06_Show (drE E_ref06_Show) n (.loop cd_ref06_Show_3) 1 (sg_ref06_Show_0 out_3 i_4 c_5) (q_ref06_Show_4 m0) = ref06_Show.l0 n out_3 i_4 c_5 := by
  intro n
  induction n with
  | zero => intros; rfl
  | succ n ih =>
    intro out_3 i_4 c_5
    have e0 : (fun out_3 i_4 c_5 => evJ E_ref06_Show (drE E_ref06_Show) n (.loop cd_ref06_Show_3) 1 (sg_ref06_Show_0 out_3 i_4 c_5) (q_ref06_Show_4 m0)) = (ref06_Show.l0 n) := by funext out_3 i_4 c_5; exact ih out_3 i_4 c_5
    refine (st_ref06_Show_j0 m0 n out_3 i_4 c_5).trans ?_
    rw [e0]; rfl
theorem st_ref06_Show (m0 : Nat) (c : (Int × (Int × ByteArray))) : evC E_ref06_Show (evJ E_ref06_Show (drE E_ref06_Show) m0) (drE E_ref06_Show) b_ref06_Show 0 (st0 [.val (.pair (.int .i64) (.pair (.int .i64) .str))] (c, ())) (fin E_ref06_Show [.tmp 2] 0 [(.str, [])]) = ref06_Show.S (fun out_3 i_4 c_5 => evJ E_ref06_Show (drE E_ref06_Show) m0 (.loop cd_ref06_Show_3) 1 (sg_ref06_Show_0 out_3 i_4 c_5) (q_ref06_Show_4 m0)) c := by kernel_rfl
theorem ev_ref06_Show (c : (Int × (Int × ByteArray))) : evC E_ref06_Show (evJ E_ref06_Show (drE E_ref06_Show) fu) (drE E_ref06_Show) b_ref06_Show 0 (st0 [.val (.pair (.int .i64) (.pair (.int .i64) .str))] (c, ())) (fin E_ref06_Show [.tmp 2] 0 [(.str, [])]) = ref06_Show c := by
  have e0 : (fun out_3 i_4 c_5 => evJ E_ref06_Show (drE E_ref06_Show) fu (.loop cd_ref06_Show_3) 1 (sg_ref06_Show_0 out_3 i_4 c_5) (q_ref06_Show_4 fu)) = (ref06_Show.l0 fu) := by funext out_3 i_4 c_5; exact J_ref06_Show_0 fu fu out_3 i_4 c_5
  refine (st_ref06_Show fu c).trans ?_
  rw [e0]; rfl
@[reducible] def sp_ref06_Show   : AM.Spec := AM.spec [.val (.pair (.int .i64) (.pair (.int .i64) .str))] [(.str, [])] (fun x => ref06_Show x.1)
theorem c_ref06_Show : Contract Tryd.prog 13 sp_ref06_Show :=
  contract_of (Tab.envOk tabOk _ _) calls_ref06_Show tabOk.mixed (fn := Tryd.f13) (c := b_ref06_Show) (ts := [.tmp 2]) (by kernel_rfl) (by kernel_rfl) (by kernel_rfl) (by decide) (by kernel_rfl) (by decide) rfl fun x _ h => ⟨fu, (ev_ref06_Show x.1).trans h⟩

/-! peristyle/peristylelaw29.shown -/
@[reducible] noncomputable def E_law29_shown : Env := tab.env (AM.look [(13, sp_ref06_Show)]) ⟨[], [], [], ⟨[(2, true)], []⟩, [], [13]⟩
theorem calls_law29_shown : CallsOk Tryd.prog E_law29_shown := callsOk_of ⟨⟨c_ref06_Show, Tryd.call13, fun _ => words_spec rfl⟩, trivial⟩
noncomputable def b_law29_shown : Code := (Tryd.f7.body).getD .skip
theorem st_law29_shown (m0 : Nat) (t : (Int × (ByteArray × (Int × Int)))) : evC E_law29_shown (evJ E_law29_shown (drE E_law29_shown) m0) (drE E_law29_shown) b_law29_shown 0 (st0 [.val (.pair (.int .i64) (.pair .str (.pair (.int .i64) (.int .i64))))] (t, ())) (fin E_law29_shown [.tmp 2] 0 [(.str, [])]) = law29_shown t := by kernel_rfl
theorem ev_law29_shown (t : (Int × (ByteArray × (Int × Int)))) : evC E_law29_shown (evJ E_law29_shown (drE E_law29_shown) fu) (drE E_law29_shown) b_law29_shown 0 (st0 [.val (.pair (.int .i64) (.pair .str (.pair (.int .i64) (.int .i64))))] (t, ())) (fin E_law29_shown [.tmp 2] 0 [(.str, [])]) = law29_shown t := st_law29_shown fu t
@[reducible] def sp_law29_shown   : AM.Spec := AM.spec [.val (.pair (.int .i64) (.pair .str (.pair (.int .i64) (.int .i64))))] [(.str, [])] (fun x => law29_shown x.1)
theorem c_law29_shown : Contract Tryd.prog 7 sp_law29_shown :=
  contract_of (Tab.envOk tabOk _ _) calls_law29_shown tabOk.mixed (fn := Tryd.f7) (c := b_law29_shown) (ts := [.tmp 2]) (by kernel_rfl) (by kernel_rfl) (by kernel_rfl) (by decide) (by kernel_rfl) (by decide) rfl fun x _ h => ⟨fu, (ev_law29_shown x.1).trans h⟩

/-! peristyle/peristylelaw29.LexBlanks -/
@[reducible] noncomputable def E_law29_LexBlanks : Env := tab.env (AM.look [(5, sp_law29_awake), (6, sp_lex_Tokens), (7, sp_law29_shown)]) ⟨[(0, ⟨[(1, true), (5, true), (8, true), (9, true), (10, true)], []⟩), (2, ⟨[(5, true), (11, true), (14, true)], []⟩)], [], [(12, ⟨[(5, true), (8, true)], []⟩)], ⟨[(4, true)], []⟩, [], [5, 7]⟩
theorem calls_law29_LexBlanks : CallsOk Tryd.prog E_law29_LexBlanks := callsOk_of ⟨⟨c_law29_awake, Tryd.call5, fun _ => words_spec rfl⟩, ⟨⟨c_lex_Tokens, Tryd.call6, fun h => nomatch (show false = true from h)⟩, ⟨⟨c_law29_shown, Tryd.call7, fun _ => words_spec rfl⟩, trivial⟩⟩⟩
noncomputable def b_law29_LexBlanks : Code := (Tryd.f3.body).getD .skip
noncomputable def sg_law29_LexBlanks_2 (l_14 : (List (Int × (ByteArray × (Int × Int))))) (m_15 : (List (Int × (ByteArray × (Int × Int))))) (i_16 : Int) : St := mk [(5, .dat (.sl (.pair (.int .i64) (.pair .str (.pair (.int .i64) (.int .i64))))) l_14 [⟨0, 321, 0, 4⟩]), (11, .dat (.sl (.pair (.int .i64) (.pair .str (.pair (.int .i64) (.int .i64))))) m_15 [⟨0, 705, 0, 4⟩]), (14, .dat (.int .i64) i_16 [])] []
noncomputable def sg_law29_LexBlanks_1 (l_10 : (List (Int × (ByteArray × (Int × Int))))) (t_11 : ByteArray) : St := mk [(5, .dat (.sl (.pair (.int .i64) (.pair .str (.pair (.int .i64) (.int .i64))))) l_10 [⟨0, 321, 0, 4⟩]), (8, .dat .str t_11 [])] []
noncomputable def sg_law29_LexBlanks_0 (blanks_4 : Int) (l_5 : (List (Int × (ByteArray × (Int × Int))))) (t_6 : ByteArray) (kinds_7 : (List ByteArray)) (i_8 : Int) : St := mk [(1, .dat (.int .i64) blanks_4 []), (5, .dat (.sl (.pair (.int .i64) (.pair .str (.pair (.int .i64) (.int .i64))))) l_5 [⟨0, 321, 0, 4⟩]), (8, .dat .str t_6 []), (9, .dat (.sl .str) kinds_7 [⟨0, 577, 0, 1⟩]), (10, .dat (.int .i64) i_8 [])] []
noncomputable def q_law29_LexBlanks_0 (m0 : Nat) : K (ResD [(.bool, [])]) := fin E_law29_LexBlanks [.tmp 4] 0 [(.bool, [])]
noncomputable def cd_law29_LexBlanks_1 : Code := (rgt (rgt (rgt (rgt (rgt (rgt (rgt (rgt (rgt (rgt (rgt b_law29_LexBlanks)))))))))))
noncomputable def q_law29_LexBlanks_1 (m0 : Nat) (m1 : Nat) : K (ResD [(.bool, [])]) := seqK E_law29_LexBlanks (evJ E_law29_LexBlanks (drE E_law29_LexBlanks) m1) cd_law29_LexBlanks_1 0 (evC E_law29_LexBlanks (evJ E_law29_LexBlanks (drE E_law29_LexBlanks) m1) (drE E_law29_LexBlanks) cd_law29_LexBlanks_1 0) (q_law29_LexBlanks_0 m0)
noncomputable def q_law29_LexBlanks_2 (m0 : Nat) (m1 : Nat) : K (ResD [(.bool, [])]) := blockK 2 (q_law29_LexBlanks_1 m0 m1)
noncomputable def cd_law29_LexBlanks_2 : Code := (lft (lft (rgt (lft (rgt (rgt (rgt (rgt (rgt (rgt (rgt (rgt (rgt (rgt b_law29_LexBlanks))))))))))))))
theorem st_law29_LexBlanks_j2 (m0 : Nat) (m1 : Nat) (n : Nat) (l_14 : (List (Int × (ByteArray × (Int × Int))))) (m_15 : (List (Int × (ByteArray × (Int × Int))))) (i_16 : Int) : evJ E_law29_LexBlanks (drE E_law29_LexBlanks) (n + 1) (.loop cd_law29_LexBlanks_2) 2 (sg_law29_LexBlanks_2 l_14 m_15 i_16) (q_law29_LexBlanks_2 m0 m1) = law29_LexBlanks.S2 (fun l_14 m_15 i_16 => evJ E_law29_LexBlanks (drE E_law29_LexBlanks) n (.loop cd_law29_LexBlanks_2) 2 (sg_law29_LexBlanks_2 l_14 m_15 i_16) (q_law29_LexBlanks_2 m0 m1)) l_14 m_15 i_16 := by kernel_rfl
theorem J_law29_LexBlanks_2 (m0 : Nat) (m1 : Nat) : ∀ (n : Nat) (l_14 : (List (Int × (ByteArray × (Int × Int))))) (m_15 : (List (Int × (ByteArray × (Int × Int))))) (i_16 : Int), evJ E_law29_LexBlanks (drE E_law29_LexBlanks) n (.loop cd_law29_LexBlanks_2) 2 (sg_law29_LexBlanks_2 l_14 m_15 i_16) (q_law29_LexBlanks_2 m0 m1) = law29_LexBlanks.l2 n l_14 m_15 i_16 := by
  intro n
  induction n with
  | zero => intros; rfl
  | succ n ih =>
    intro l_14 m_15 i_16
    have e2 : (fun l_14 m_15 i_16 => evJ E_law29_LexBlanks (drE E_law29_LexBlanks) n (.loop cd_law29_LexBlanks_2) 2 (sg_law29_LexBlanks_2 l_14 m_15 i_16) (q_law29_LexBlanks_2 m0 m1)) = (law29_LexBlanks.l2 n) := by funext l_14 m_15 i_16; exact ih l_14 m_15 i_16
    refine (st_law29_LexBlanks_j2 m0 m1 n l_14 m_15 i_16).trans ?_
    rw [e2]; rfl
noncomputable def cd_law29_LexBlanks_3 : Code := (rgt (rgt (rgt (rgt (rgt (rgt (rgt b_law29_LexBlanks)))))))
theorem st_law29_LexBlanks_j1 (m0 : Nat) (n : Nat) (l_10 : (List (Int × (ByteArray × (Int × Int))))) (t_11 : ByteArray) : evJ E_law29_LexBlanks (drE E_law29_LexBlanks) (n + 1) (.tail cd_law29_LexBlanks_3) 0 (sg_law29_LexBlanks_1 l_10 t_11) (q_law29_LexBlanks_0 m0) = law29_LexBlanks.S1 (fun l_14 m_15 i_16 => evJ E_law29_LexBlanks (drE E_law29_LexBlanks) n (.loop cd_law29_LexBlanks_2) 2 (sg_law29_LexBlanks_2 l_14 m_15 i_16) (q_law29_LexBlanks_2 m0 n)) l_10 t_11 := by kernel_rfl
theorem J_law29_LexBlanks_1 (m0 : Nat) : ∀ (n : Nat) (l_10 : (List (Int × (ByteArray × (Int × Int))))) (t_11 : ByteArray), evJ E_law29_LexBlanks (drE E_law29_LexBlanks) n (.tail cd_law29_LexBlanks_3) 0 (sg_law29_LexBlanks_1 l_10 t_11) (q_law29_LexBlanks_0 m0) = law29_LexBlanks.t1 n l_10 t_11 := by
  intro n
  induction n with
  | zero => intros; rfl
  | succ n ih =>
    intro l_10 t_11
    have e1 : (fun l_10 t_11 => evJ E_law29_LexBlanks (drE E_law29_LexBlanks) n (.tail cd_law29_LexBlanks_3) 0 (sg_law29_LexBlanks_1 l_10 t_11) (q_law29_LexBlanks_0 m0)) = (law29_LexBlanks.t1 n) := by funext l_10 t_11; exact ih l_10 t_11
    have e2 : (fun l_14 m_15 i_16 => evJ E_law29_LexBlanks (drE E_law29_LexBlanks) n (.loop cd_law29_LexBlanks_2) 2 (sg_law29_LexBlanks_2 l_14 m_15 i_16) (q_law29_LexBlanks_2 m0 n)) = (law29_LexBlanks.l2 n) := by funext l_14 m_15 i_16; exact J_law29_LexBlanks_2 m0 n n l_14 m_15 i_16
    refine (st_law29_LexBlanks_j1 m0 n l_10 t_11).trans ?_
    rw [e2]; rfl
noncomputable def q_law29_LexBlanks_3 (m0 : Nat) : K (ResD [(.bool, [])]) := seqK E_law29_LexBlanks (evJ E_law29_LexBlanks (drE E_law29_LexBlanks) m0) cd_law29_LexBlanks_3 0 (evC E_law29_LexBlanks (evJ E_law29_LexBlanks (drE E_law29_LexBlanks) m0) (drE E_law29_LexBlanks) cd_law29_LexBlanks_3 0) (q_law29_LexBlanks_0 m0)
noncomputable def q_law29_LexBlanks_4 (m0 : Nat) : K (ResD [(.bool, [])]) := blockK 0 (q_law29_LexBlanks_3 m0)
noncomputable def cd_law29_LexBlanks_4 : Code := (lft (lft (rgt (lft (rgt (rgt (rgt (rgt (rgt (rgt b_law29_LexBlanks))))))))))
theorem st_law29_LexBlanks_j0 (m0 : Nat) (n : Nat) (blanks_4 : Int) (l_5 : (List (Int × (ByteArray × (Int × Int))))) (t_6 : ByteArray) (kinds_7 : (List ByteArray)) (i_8 : Int) : evJ E_law29_LexBlanks (drE E_law29_LexBlanks) (n + 1) (.loop cd_law29_LexBlanks_4) 0 (sg_law29_LexBlanks_0 blanks_4 l_5 t_6 kinds_7 i_8) (q_law29_LexBlanks_4 m0) = law29_LexBlanks.S0 (fun l_10 t_11 => evJ E_law29_LexBlanks (drE E_law29_LexBlanks) m0 (.tail cd_law29_LexBlanks_3) 0 (sg_law29_LexBlanks_1 l_10 t_11) (q_law29_LexBlanks_0 m0)) (fun blanks_4 l_5 t_6 kinds_7 i_8 => evJ E_law29_LexBlanks (drE E_law29_LexBlanks) n (.loop cd_law29_LexBlanks_4) 0 (sg_law29_LexBlanks_0 blanks_4 l_5 t_6 kinds_7 i_8) (q_law29_LexBlanks_4 m0)) blanks_4 l_5 t_6 kinds_7 i_8 := by kernel_rfl
theorem J_law29_LexBlanks_0 (m0 : Nat) : ∀ (n : Nat) (blanks_4 : Int) (l_5 : (List (Int × (ByteArray × (Int × Int))))) (t_6 : ByteArray) (kinds_7 : (List ByteArray)) (i_8 : Int), evJ E_law29_LexBlanks (drE E_law29_LexBlanks) n (.loop cd_law29_LexBlanks_4) 0 (sg_law29_LexBlanks_0 blanks_4 l_5 t_6 kinds_7 i_8) (q_law29_LexBlanks_4 m0) = law29_LexBlanks.l0 (fun l_10 t_11 => evJ E_law29_LexBlanks (drE E_law29_LexBlanks) m0 (.tail cd_law29_LexBlanks_3) 0 (sg_law29_LexBlanks_1 l_10 t_11) (q_law29_LexBlanks_0 m0)) n blanks_4 l_5 t_6 kinds_7 i_8 := by
  intro n
  induction n with
  | zero => intros; rfl
  | succ n ih =>
    intro blanks_4 l_5 t_6 kinds_7 i_8
    have e0 : (fun blanks_4 l_5 t_6 kinds_7 i_8 => evJ E_law29_LexBlanks (drE E_law29_LexBlanks) n (.loop cd_law29_LexBlanks_4) 0 (sg_law29_LexBlanks_0 blanks_4 l_5 t_6 kinds_7 i_8) (q_law29_LexBlanks_4 m0)) = (law29_LexBlanks.l0 (fun l_10 t_11 => evJ E_law29_LexBlanks (drE E_law29_LexBlanks) m0 (.tail cd_law29_LexBlanks_3) 0 (sg_law29_LexBlanks_1 l_10 t_11) (q_law29_LexBlanks_0 m0)) n) := by funext blanks_4 l_5 t_6 kinds_7 i_8; exact ih blanks_4 l_5 t_6 kinds_7 i_8
    refine (st_law29_LexBlanks_j0 m0 n blanks_4 l_5 t_6 kinds_7 i_8).trans ?_
    rw [e0]; rfl
theorem st_law29_LexBlanks (m0 : Nat) (s : ByteArray) (blanks : Int) : evC E_law29_LexBlanks (evJ E_law29_LexBlanks (drE E_law29_LexBlanks) m0) (drE E_law29_LexBlanks) b_law29_LexBlanks 0 (st0 [.val .str, .val (.int .i64)] (s, blanks, ())) (fin E_law29_LexBlanks [.tmp 4] 0 [(.bool, [])]) = law29_LexBlanks.S (fun blanks_4 l_5 t_6 kinds_7 i_8 => evJ E_law29_LexBlanks (drE E_law29_LexBlanks) m0 (.loop cd_law29_LexBlanks_4) 0 (sg_law29_LexBlanks_0 blanks_4 l_5 t_6 kinds_7 i_8) (q_law29_LexBlanks_4 m0)) s blanks := by kernel_rfl
theorem ev_law29_LexBlanks (s : ByteArray) (blanks : Int) : evC E_law29_LexBlanks (evJ E_law29_LexBlanks (drE E_law29_LexBlanks) fu) (drE E_law29_LexBlanks) b_law29_LexBlanks 0 (st0 [.val .str, .val (.int .i64)] (s, blanks, ())) (fin E_law29_LexBlanks [.tmp 4] 0 [(.bool, [])]) = law29_LexBlanks s blanks := by
  have e1 : (fun l_10 t_11 => evJ E_law29_LexBlanks (drE E_law29_LexBlanks) fu (.tail cd_law29_LexBlanks_3) 0 (sg_law29_LexBlanks_1 l_10 t_11) (q_law29_LexBlanks_0 fu)) = (law29_LexBlanks.t1 fu) := by funext l_10 t_11; exact J_law29_LexBlanks_1 fu fu l_10 t_11
  have e0 : (fun blanks_4 l_5 t_6 kinds_7 i_8 => evJ E_law29_LexBlanks (drE E_law29_LexBlanks) fu (.loop cd_law29_LexBlanks_4) 0 (sg_law29_LexBlanks_0 blanks_4 l_5 t_6 kinds_7 i_8) (q_law29_LexBlanks_4 fu)) = (law29_LexBlanks.l0 (law29_LexBlanks.t1 fu) fu) := by rw [← e1]; funext blanks_4 l_5 t_6 kinds_7 i_8; exact J_law29_LexBlanks_0 fu fu blanks_4 l_5 t_6 kinds_7 i_8
  refine (st_law29_LexBlanks fu s blanks).trans ?_
  rw [e0]; rfl
@[reducible] def sp_law29_LexBlanks   : AM.Spec := AM.spec [.val .str, .val (.int .i64)] [(.bool, [])] (fun x => law29_LexBlanks x.1 x.2.1)
theorem c_law29_LexBlanks : Contract Tryd.prog 3 sp_law29_LexBlanks :=
  contract_of (Tab.envOk tabOk _ _) calls_law29_LexBlanks tabOk.mixed (fn := Tryd.f3) (c := b_law29_LexBlanks) (ts := [.tmp 4]) (by kernel_rfl) (by kernel_rfl) (by kernel_rfl) (by decide) (by kernel_rfl) (by decide) rfl fun x _ h => ⟨fu, (ev_law29_LexBlanks x.1 x.2.1).trans h⟩

/-! peristyle/peristylelaw29.LexPlaces -/
@[reducible] noncomputable def E_law29_LexPlaces : Env := tab.env (AM.look [(5, sp_law29_awake), (6, sp_lex_Tokens)]) ⟨[(0, ⟨[(0, true), (3, true), (6, true)], []⟩)], [], [], ⟨[(2, true)], []⟩, [], [5]⟩
theorem calls_law29_LexPlaces : CallsOk Tryd.prog E_law29_LexPlaces := callsOk_of ⟨⟨c_law29_awake, Tryd.call5, fun _ => words_spec rfl⟩, ⟨⟨c_lex_Tokens, Tryd.call6, fun h => nomatch (show false = true from h)⟩, trivial⟩⟩
noncomputable def b_law29_LexPlaces : Code := (Tryd.f4.body).getD .skip
noncomputable def sg_law29_LexPlaces_0 (s_4 : ByteArray) (l_5 : (List (Int × (ByteArray × (Int × Int))))) (i_6 : Int) : St := mk [(0, .dat .str s_4 []), (3, .dat (.sl (.pair (.int .i64) (.pair .str (.pair (.int .i64) (.int .i64))))) l_5 [⟨0, 193, 0, 4⟩]), (6, .dat (.int .i64) i_6 [])] []
noncomputable def q_law29_LexPlaces_0 (m0 : Nat) : K (ResD [(.bool, [])]) := fin E_law29_LexPlaces [.tmp 2] 0 [(.bool, [])]
noncomputable def cd_law29_LexPlaces_1 : Code := (rgt (rgt (rgt (rgt (rgt (rgt b_law29_LexPlaces))))))
noncomputable def q_law29_LexPlaces_1 (m0 : Nat) : K (ResD [(.bool, [])]) := seqK E_law29_LexPlaces (evJ E_law29_LexPlaces (drE E_law29_LexPlaces) m0) cd_law29_LexPlaces_1 0 (evC E_law29_LexPlaces (evJ E_law29_LexPlaces (drE E_law29_LexPlaces) m0) (drE E_law29_LexPlaces) cd_law29_LexPlaces_1 0) (q_law29_LexPlaces_0 m0)
noncomputable def q_law29_LexPlaces_2 (m0 : Nat) : K (ResD [(.bool, [])]) := blockK 0 (q_law29_LexPlaces_1 m0)
noncomputable def cd_law29_LexPlaces_2 : Code := (lft (lft (rgt (lft (rgt (rgt (rgt (rgt (rgt b_law29_LexPlaces)))))))))
theorem st_law29_LexPlaces_j0 (m0 : Nat) (n : Nat) (s_4 : ByteArray) (l_5 : (List (Int × (ByteArray × (Int × Int))))) (i_6 : Int) : evJ E_law29_LexPlaces (drE E_law29_LexPlaces) (n + 1) (.loop cd_law29_LexPlaces_2) 0 (sg_law29_LexPlaces_0 s_4 l_5 i_6) (q_law29_LexPlaces_2 m0) = law29_LexPlaces.S0 (fun s_4 l_5 i_6 => evJ E_law29_LexPlaces (drE E_law29_LexPlaces) n (.loop cd_law29_LexPlaces_2) 0 (sg_law29_LexPlaces_0 s_4 l_5 i_6) (q_law29_LexPlaces_2 m0)) s_4 l_5 i_6 := by kernel_rfl
theorem J_law29_LexPlaces_0 (m0 : Nat) : ∀ (n : Nat) (s_4 : ByteArray) (l_5 : (List (Int × (ByteArray × (Int × Int))))) (i_6 : Int), evJ E_law29_LexPlaces (drE E_law29_LexPlaces) n (.loop cd_law29_LexPlaces_2) 0 (sg_law29_LexPlaces_0 s_4 l_5 i_6) (q_law29_LexPlaces_2 m0) = law29_LexPlaces.l0 n s_4 l_5 i_6 := by
  intro n
  induction n with
  | zero => intros; rfl
  | succ n ih =>
    intro s_4 l_5 i_6
    have e0 : (fun s_4 l_5 i_6 => evJ E_law29_LexPlaces (drE E_law29_LexPlaces) n (.loop cd_law29_LexPlaces_2) 0 (sg_law29_LexPlaces_0 s_4 l_5 i_6) (q_law29_LexPlaces_2 m0)) = (law29_LexPlaces.l0 n) := by funext s_4 l_5 i_6; exact ih s_4 l_5 i_6
    refine (st_law29_LexPlaces_j0 m0 n s_4 l_5 i_6).trans ?_
    rw [e0]; rfl
theorem st_law29_LexPlaces (m0 : Nat) (s : ByteArray) : evC E_law29_LexPlaces (evJ E_law29_LexPlaces (drE E_law29_LexPlaces) m0) (drE E_law29_LexPlaces) b_law29_LexPlaces 0 (st0 [.val .str] (s, ())) (fin E_law29_LexPlaces [.tmp 2] 0 [(.bool, [])]) = law29_LexPlaces.S (fun s_4 l_5 i_6 => evJ E_law29_LexPlaces (drE E_law29_LexPlaces) m0 (.loop cd_law29_LexPlaces_2) 0 (sg_law29_LexPlaces_0 s_4 l_5 i_6) (q_law29_LexPlaces_2 m0)) s := by kernel_rfl
theorem ev_law29_LexPlaces (s : ByteArray) : evC E_law29_LexPlaces (evJ E_law29_LexPlaces (drE E_law29_LexPlaces) fu) (drE E_law29_LexPlaces) b_law29_LexPlaces 0 (st0 [.val .str] (s, ())) (fin E_law29_LexPlaces [.tmp 2] 0 [(.bool, [])]) = law29_LexPlaces s := by
  have e0 : (fun s_4 l_5 i_6 => evJ E_law29_LexPlaces (drE E_law29_LexPlaces) fu (.loop cd_law29_LexPlaces_2) 0 (sg_law29_LexPlaces_0 s_4 l_5 i_6) (q_law29_LexPlaces_2 fu)) = (law29_LexPlaces.l0 fu) := by funext s_4 l_5 i_6; exact J_law29_LexPlaces_0 fu fu s_4 l_5 i_6
  refine (st_law29_LexPlaces fu s).trans ?_
  rw [e0]; rfl
@[reducible] def sp_law29_LexPlaces   : AM.Spec := AM.spec [.val .str] [(.bool, [])] (fun x => law29_LexPlaces x.1)
theorem c_law29_LexPlaces : Contract Tryd.prog 4 sp_law29_LexPlaces :=
  contract_of (Tab.envOk tabOk _ _) calls_law29_LexPlaces tabOk.mixed (fn := Tryd.f4) (c := b_law29_LexPlaces) (ts := [.tmp 2]) (by kernel_rfl) (by kernel_rfl) (by kernel_rfl) (by decide) (by kernel_rfl) (by decide) rfl fun x _ h => ⟨fu, (ev_law29_LexPlaces x.1).trans h⟩
end Go.Proofs.YtboihdnijlilpaaDoor.Am
