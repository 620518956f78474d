import Derived.Test.YtlamhllcnbcbbaaGreatAmPure13
import Derived.Test.YtlamhllcnbcbbaaGreatSPrim
/- PRINTED by gen/ of this repo: the code comes to the pure functions. -/
namespace Go.Proofs.YtlamhllcnbcbbaaGreat.Am
open Go.AM Go.AM.Pure
set_option linter.unusedVariables false
set_option maxRecDepth 100000
@[reducible] noncomputable def E_f14 : Env := tab.env (AM.look []) ⟨[], [], [], ⟨[(2, true)], [(2, true)]⟩, [], [], [], []⟩
theorem calls_f14 : CallsOk Tryz.prog E_f14 := callsOk_of trivial
noncomputable def b_f14 : Code := (Tryz.f14.body).getD .skip
@[reducible] def R_f14 : List (Ty × List Tag) := [((.pair (.int .i64) (.pair (.int .i64) .str)), [])]
theorem st_f14 (m0 : Nat) (xn : Int) : evC E_f14 (evJ E_f14 (drE E_f14) m0) (drE E_f14) b_f14 0 (st0 [.val (.int .i64)] (xn, ())) (fin E_f14 [.cell 2 34] [] R_f14) = some (law13_num xn) := by kernel_rfl
theorem ev_f14 (xn : Int) : evC E_f14 (evJ E_f14 (drE E_f14) fu) (drE E_f14) b_f14 0 (st0 [.val (.int .i64)] (xn, ())) (fin E_f14 [.cell 2 34] [] R_f14) = some (law13_num xn) := st_f14 fu xn
@[reducible] def sp_f14   : AM.Spec := AM.spec [.val (.int .i64)] R_f14 (fun x => some (law13_num x.1))
theorem c_f14 : Contract Tryz.prog 14 sp_f14 :=
  contract_of (Tab.envOk tabOk _ _) calls_f14 tabOk.mixed (fn := Tryz.f14) (c := b_f14) (ts := [.cell 2 34]) (by kernel_rfl) (by kernel_rfl) (by kernel_rfl) (by decide) (by kernel_rfl) (by decide) rfl fun x _ h => ⟨fu, (ev_f14 x.1).trans h⟩
@[reducible] noncomputable def E_f39 : Env := tab.env (AM.look []) ⟨[], [], [], ⟨[(2, true)], []⟩, [], [], [], []⟩
theorem calls_f39 : CallsOk Tryz.prog E_f39 := callsOk_of trivial
noncomputable def b_f39 : Code := (Tryz.f39.body).getD .skip
@[reducible] def R_f39 : List (Ty × List Tag) := [((.int .i64), [])]
theorem st_f39_o (m0 : Nat) (c : (Int × (Int × ByteArray))) : evC E_f39 (evJ E_f39 (drE E_f39) m0) (drE E_f39) b_f39 0 (st0 [.val (.pair (.int .i64) (.pair (.int .i64) .str))] (c, ())) (fin E_f39 [.tmp 2] [] R_f39) = cell_Check.o c := by kernel_rfl
theorem st_f39 (m0 : Nat) (c : (Int × (Int × ByteArray))) : evC E_f39 (evJ E_f39 (drE E_f39) m0) (drE E_f39) b_f39 0 (st0 [.val (.pair (.int .i64) (.pair (.int .i64) .str))] (c, ())) (fin E_f39 [.tmp 2] [] R_f39) = some (cell_Check c) := (st_f39_o m0 c).trans (by unfold cell_Check.o cell_Check; simp only [cond_some])
theorem ev_f39 (c : (Int × (Int × ByteArray))) : evC E_f39 (evJ E_f39 (drE E_f39) fu) (drE E_f39) b_f39 0 (st0 [.val (.pair (.int .i64) (.pair (.int .i64) .str))] (c, ())) (fin E_f39 [.tmp 2] [] R_f39) = some (cell_Check c) := st_f39 fu c
@[reducible] def sp_f39   : AM.Spec := AM.spec [.val (.pair (.int .i64) (.pair (.int .i64) .str))] R_f39 (fun x => some (cell_Check x.1))
theorem c_f39 : Contract Tryz.prog 39 sp_f39 :=
  contract_of (Tab.envOk tabOk _ _) calls_f39 tabOk.mixed (fn := Tryz.f39) (c := b_f39) (ts := [.tmp 2]) (by kernel_rfl) (by kernel_rfl) (by kernel_rfl) (by decide) (by kernel_rfl) (by decide) rfl fun x _ h => ⟨fu, (ev_f39 x.1).trans h⟩
@[reducible] noncomputable def E_f38 : Env := tab.env (AM.look [(39, sp_f39)]) ⟨[], [], [], ⟨[(3, true)], []⟩, [], [39], [], []⟩
theorem calls_f38 : CallsOk Tryz.prog E_f38 := callsOk_of ⟨⟨c_f39, Tryz.call39, fun _ => words_spec rfl⟩, trivial⟩
noncomputable def b_f38 : Code := (Tryz.f38.body).getD .skip
@[reducible] def R_f38 : List (Ty × List Tag) := [(.bool, [])]
theorem st_f38_o (m0 : Nat) (c : (Int × (Int × ByteArray))) (t1 : Int) : evC E_f38 (evJ E_f38 (drE E_f38) m0) (drE E_f38) b_f38 0 (st0 [.val (.pair (.int .i64) (.pair (.int .i64) .str)), .ref (.int .i64)] (c, t1, ())) (fin E_f38 [.tmp 3] [] R_f38) = block_may_1.o c t1 := by kernel_rfl
theorem st_f38 (m0 : Nat) (c : (Int × (Int × ByteArray))) (t1 : Int) : evC E_f38 (evJ E_f38 (drE E_f38) m0) (drE E_f38) b_f38 0 (st0 [.val (.pair (.int .i64) (.pair (.int .i64) .str)), .ref (.int .i64)] (c, t1, ())) (fin E_f38 [.tmp 3] [] R_f38) = some (block_may_1 c t1) := (st_f38_o m0 c t1).trans (by unfold block_may_1.o block_may_1; simp only [cond_some])
theorem ev_f38 (c : (Int × (Int × ByteArray))) (t1 : Int) : evC E_f38 (evJ E_f38 (drE E_f38) fu) (drE E_f38) b_f38 0 (st0 [.val (.pair (.int .i64) (.pair (.int .i64) .str)), .ref (.int .i64)] (c, t1, ())) (fin E_f38 [.tmp 3] [] R_f38) = some (block_may_1 c t1) := st_f38 fu c t1
@[reducible] def sp_f38   : AM.Spec := AM.spec [.val (.pair (.int .i64) (.pair (.int .i64) .str)), .ref (.int .i64)] R_f38 (fun x => some (block_may_1 x.1 x.2.1))
theorem c_f38 : Contract Tryz.prog 38 sp_f38 :=
  contract_of (Tab.envOk tabOk _ _) calls_f38 tabOk.mixed (fn := Tryz.f38) (c := b_f38) (ts := [.tmp 3]) (by kernel_rfl) (by kernel_rfl) (by kernel_rfl) (by decide) (by kernel_rfl) (by decide) rfl fun x _ h => ⟨fu, (ev_f38 x.1 x.2.1).trans h⟩
@[reducible] noncomputable def E_f69a : Env := tab.env (AM.look [(38, sp_f38)]) ⟨[(0, ⟨[(0, true), (1, true), (7, true), (8, true)], []⟩)], [], [], ⟨[(4, true)], []⟩, [], [38], [], []⟩
theorem calls_f69a : CallsOk Tryz.prog E_f69a := callsOk_of ⟨⟨c_f38, Tryz.call38, fun _ => words_spec rfl⟩, trivial⟩
noncomputable def b_f69a : Code := (Tryz.f69.body).getD .skip
@[reducible] def R_f69a : List (Ty × List Tag) := [((.int .i64), [])]
noncomputable def sg_f69a_0 (s_1 : (List (Int × (Int × ByteArray)))) (f_2 : Int) (t7_3 : Int) (t8_4 : Int) : St := mk [(0, .dat (.sl (.pair (.int .i64) (.pair (.int .i64) .str))) s_1 []), (1, .fn 38 [⟨(.int .i64), f_2, []⟩]), (7, .dat (.int .i64) t7_3 []), (8, .dat (.int .i64) t8_4 [])] []
noncomputable def q_f69a_0 (m0 : Nat) : K (ResD R_f69a) := fin E_f69a [.tmp 4] [] R_f69a
noncomputable def cd_f69a_1 : Code := (rgt (rgt b_f69a))
noncomputable def q_f69a_1 (m0 : Nat) : K (ResD R_f69a) := seqK E_f69a (evJ E_f69a (drE E_f69a) m0) cd_f69a_1 0 (evC E_f69a (evJ E_f69a (drE E_f69a) m0) (drE E_f69a) cd_f69a_1 0) (q_f69a_0 m0)
noncomputable def q_f69a_2 (m0 : Nat) : K (ResD R_f69a) := blockK 0 (q_f69a_1 m0)
noncomputable def cd_f69a_2 : Code := (lft (lft (rgt (lft (rgt b_f69a)))))
noncomputable def j0_f69a (m0 : Nat) (n : Nat) : (List (Int × (Int × ByteArray))) → Int → Int → Int → Option (Int) := fun s_1 f_2 t7_3 t8_4 => evJ E_f69a (drE E_f69a) n (.loop cd_f69a_2) 0 (sg_f69a_0 s_1 f_2 t7_3 t8_4) (q_f69a_2 m0)
theorem st_f69a_j0 (m0 : Nat) (n : Nat) (s_1 : (List (Int × (Int × ByteArray)))) (f_2 : Int) (t7_3 : Int) (t8_4 : Int) : j0_f69a m0 (n + 1) s_1 f_2 t7_3 t8_4 = slices_IndexFunc_api_Cell_api_Cell__block_may_1.S0 (j0_f69a m0 n) s_1 f_2 t7_3 t8_4 := by kernel_rfl
theorem J_f69a_0 (m0 : Nat) : ∀ (n : Nat) (s_1 : (List (Int × (Int × ByteArray)))) (f_2 : Int) (t7_3 : Int) (t8_4 : Int), j0_f69a m0 n s_1 f_2 t7_3 t8_4 = slices_IndexFunc_api_Cell_api_Cell__block_may_1.l0 n s_1 f_2 t7_3 t8_4 := by
  intro n
  induction n with
  | zero => intros; rfl
  | succ n ih =>
    intro s_1 f_2 t7_3 t8_4
    have e0 : (j0_f69a m0 n) = (slices_IndexFunc_api_Cell_api_Cell__block_may_1.l0 n) := by funext s_1 f_2 t7_3 t8_4; exact ih s_1 f_2 t7_3 t8_4
    refine (st_f69a_j0 m0 n s_1 f_2 t7_3 t8_4).trans ?_
    rw [e0]; rfl
theorem st_f69a (m0 : Nat) (s : (List (Int × (Int × ByteArray)))) (f0 : Int) : evC E_f69a (evJ E_f69a (drE E_f69a) m0) (drE E_f69a) b_f69a 0 (st0 [.val (.sl (.pair (.int .i64) (.pair (.int .i64) .str))), .fn 38 [(.int .i64)]] (s, (f0, ()), ())) (fin E_f69a [.tmp 4] [] R_f69a) = slices_IndexFunc_api_Cell_api_Cell__block_may_1.S (j0_f69a m0 m0) s f0 := by kernel_rfl
theorem ev_f69a (s : (List (Int × (Int × ByteArray)))) (f0 : Int) : evC E_f69a (evJ E_f69a (drE E_f69a) fu) (drE E_f69a) b_f69a 0 (st0 [.val (.sl (.pair (.int .i64) (.pair (.int .i64) .str))), .fn 38 [(.int .i64)]] (s, (f0, ()), ())) (fin E_f69a [.tmp 4] [] R_f69a) = slices_IndexFunc_api_Cell_api_Cell__block_may_1 s f0 := by
  have e0 : (j0_f69a fu fu) = (slices_IndexFunc_api_Cell_api_Cell__block_may_1.l0 fu) := by funext s_1 f_2 t7_3 t8_4; exact J_f69a_0 fu fu s_1 f_2 t7_3 t8_4
  refine (st_f69a fu s f0).trans ?_
  rw [e0]; rfl
@[reducible] def sp_f69a   : AM.Spec := AM.spec [.val (.sl (.pair (.int .i64) (.pair (.int .i64) .str))), .fn 38 [(.int .i64)]] R_f69a (fun x => slices_IndexFunc_api_Cell_api_Cell__block_may_1 x.1 x.2.1.1)
theorem c_f69a : Contract Tryz.prog 69 sp_f69a :=
  contract_of (Tab.envOk tabOk _ _) calls_f69a tabOk.mixed (fn := Tryz.f69) (c := b_f69a) (ts := [.tmp 4]) (by kernel_rfl) (by kernel_rfl) (by kernel_rfl) (by decide) (by kernel_rfl) (by decide) rfl fun x _ h => ⟨fu, (ev_f69a x.1 x.2.1.1).trans h⟩
@[reducible] noncomputable def E_f37a : Env := tab.env (AM.look [(69, sp_f69a)]) ⟨[], [], [], ⟨[(4, true)], []⟩, [], [69], [], []⟩
theorem calls_f37a : CallsOk Tryz.prog E_f37a := callsOk_of ⟨⟨c_f69a, Tryz.call69, fun _ => words_spec rfl⟩, trivial⟩
noncomputable def b_f37a : Code := (Tryz.f37.body).getD .skip
@[reducible] def R_f37a : List (Ty × List Tag) := [(.bool, [])]
theorem st_f37a (m0 : Nat) (s : (List (Int × (Int × ByteArray)))) (f0 : Int) : evC E_f37a (evJ E_f37a (drE E_f37a) m0) (drE E_f37a) b_f37a 0 (st0 [.val (.sl (.pair (.int .i64) (.pair (.int .i64) .str))), .fn 38 [(.int .i64)]] (s, (f0, ()), ())) (fin E_f37a [.tmp 4] [] R_f37a) = slices_ContainsFunc_api_Cell_api_Cell__block_may_1 s f0 := by kernel_rfl
theorem ev_f37a (s : (List (Int × (Int × ByteArray)))) (f0 : Int) : evC E_f37a (evJ E_f37a (drE E_f37a) fu) (drE E_f37a) b_f37a 0 (st0 [.val (.sl (.pair (.int .i64) (.pair (.int .i64) .str))), .fn 38 [(.int .i64)]] (s, (f0, ()), ())) (fin E_f37a [.tmp 4] [] R_f37a) = slices_ContainsFunc_api_Cell_api_Cell__block_may_1 s f0 := st_f37a fu s f0
@[reducible] def sp_f37a   : AM.Spec := AM.spec [.val (.sl (.pair (.int .i64) (.pair (.int .i64) .str))), .fn 38 [(.int .i64)]] R_f37a (fun x => slices_ContainsFunc_api_Cell_api_Cell__block_may_1 x.1 x.2.1.1)
theorem c_f37a : Contract Tryz.prog 37 sp_f37a :=
  contract_of (Tab.envOk tabOk _ _) calls_f37a tabOk.mixed (fn := Tryz.f37) (c := b_f37a) (ts := [.tmp 4]) (by kernel_rfl) (by kernel_rfl) (by kernel_rfl) (by decide) (by kernel_rfl) (by decide) rfl fun x _ h => ⟨fu, (ev_f37a x.1 x.2.1.1).trans h⟩
@[reducible] noncomputable def E_f23 : Env := tab.env (AM.look [(37, sp_f37a)]) ⟨[], [], [], ⟨[(4, true)], []⟩, [], [37], [], []⟩
theorem calls_f23 : CallsOk Tryz.prog E_f23 := callsOk_of ⟨⟨c_f37a, Tryz.call37, fun _ => words_spec rfl⟩, trivial⟩
noncomputable def b_f23 : Code := (Tryz.f23.body).getD .skip
@[reducible] def R_f23 : List (Ty × List Tag) := [(.bool, [])]
theorem st_f23 (m0 : Nat) (l : (List (Int × (Int × ByteArray)))) (kind : Int) : evC E_f23 (evJ E_f23 (drE E_f23) m0) (drE E_f23) b_f23 0 (st0 [.val (.sl (.pair (.int .i64) (.pair (.int .i64) .str))), .val (.int .i64)] (l, kind, ())) (fin E_f23 [.tmp 4] [] R_f23) = block_may l kind := by kernel_rfl
theorem ev_f23 (l : (List (Int × (Int × ByteArray)))) (kind : Int) : evC E_f23 (evJ E_f23 (drE E_f23) fu) (drE E_f23) b_f23 0 (st0 [.val (.sl (.pair (.int .i64) (.pair (.int .i64) .str))), .val (.int .i64)] (l, kind, ())) (fin E_f23 [.tmp 4] [] R_f23) = block_may l kind := st_f23 fu l kind
@[reducible] def sp_f23   : AM.Spec := AM.spec [.val (.sl (.pair (.int .i64) (.pair (.int .i64) .str))), .val (.int .i64)] R_f23 (fun x => block_may x.1 x.2.1)
theorem c_f23 : Contract Tryz.prog 23 sp_f23 :=
  contract_of (Tab.envOk tabOk _ _) calls_f23 tabOk.mixed (fn := Tryz.f23) (c := b_f23) (ts := [.tmp 4]) (by kernel_rfl) (by kernel_rfl) (by kernel_rfl) (by decide) (by kernel_rfl) (by decide) rfl fun x _ h => ⟨fu, (ev_f23 x.1 x.2.1).trans h⟩
@[reducible] noncomputable def E_f43 : Env := tab.env (AM.look []) ⟨[], [], [], ⟨[(2, true)], []⟩, [], [], [], []⟩
theorem calls_f43 : CallsOk Tryz.prog E_f43 := callsOk_of trivial
noncomputable def b_f43 : Code := (Tryz.f43.body).getD .skip
@[reducible] def R_f43 : List (Ty × List Tag) := [(.bool, [])]
theorem st_f43 (m0 : Nat) (c : (Int × (Int × ByteArray))) : evC E_f43 (evJ E_f43 (drE E_f43) m0) (drE E_f43) b_f43 0 (st0 [.val (.pair (.int .i64) (.pair (.int .i64) .str))] (c, ())) (fin E_f43 [.tmp 2] [] R_f43) = some (nulls_null c) := by kernel_rfl
theorem ev_f43 (c : (Int × (Int × ByteArray))) : evC E_f43 (evJ E_f43 (drE E_f43) fu) (drE E_f43) b_f43 0 (st0 [.val (.pair (.int .i64) (.pair (.int .i64) .str))] (c, ())) (fin E_f43 [.tmp 2] [] R_f43) = some (nulls_null c) := st_f43 fu c
@[reducible] def sp_f43   : AM.Spec := AM.spec [.val (.pair (.int .i64) (.pair (.int .i64) .str))] R_f43 (fun x => some (nulls_null x.1))
theorem c_f43 : Contract Tryz.prog 43 sp_f43 :=
  contract_of (Tab.envOk tabOk _ _) calls_f43 tabOk.mixed (fn := Tryz.f43) (c := b_f43) (ts := [.tmp 2]) (by kernel_rfl) (by kernel_rfl) (by kernel_rfl) (by decide) (by kernel_rfl) (by decide) rfl fun x _ h => ⟨fu, (ev_f43 x.1).trans h⟩
@[reducible] noncomputable def E_f42 : Env := tab.env (AM.look [(43, sp_f43)]) ⟨[], [], [], ⟨[(2, true)], []⟩, [], [43], [], []⟩
theorem calls_f42 : CallsOk Tryz.prog E_f42 := callsOk_of ⟨⟨c_f43, Tryz.call43, fun _ => words_spec rfl⟩, trivial⟩
noncomputable def b_f42 : Code := (Tryz.f42.body).getD .skip
@[reducible] def R_f42 : List (Ty × List Tag) := [(.bool, [])]
theorem st_f42 (m0 : Nat) (c : (Int × (Int × ByteArray))) : evC E_f42 (evJ E_f42 (drE E_f42) m0) (drE E_f42) b_f42 0 (st0 [.val (.pair (.int .i64) (.pair (.int .i64) .str))] (c, ())) (fin E_f42 [.tmp 2] [] R_f42) = some (nulls_Split_1 c) := by kernel_rfl
theorem ev_f42 (c : (Int × (Int × ByteArray))) : evC E_f42 (evJ E_f42 (drE E_f42) fu) (drE E_f42) b_f42 0 (st0 [.val (.pair (.int .i64) (.pair (.int .i64) .str))] (c, ())) (fin E_f42 [.tmp 2] [] R_f42) = some (nulls_Split_1 c) := st_f42 fu c
@[reducible] def sp_f42   : AM.Spec := AM.spec [.val (.pair (.int .i64) (.pair (.int .i64) .str))] R_f42 (fun x => some (nulls_Split_1 x.1))
theorem c_f42 : Contract Tryz.prog 42 sp_f42 :=
  contract_of (Tab.envOk tabOk _ _) calls_f42 tabOk.mixed (fn := Tryz.f42) (c := b_f42) (ts := [.tmp 2]) (by kernel_rfl) (by kernel_rfl) (by kernel_rfl) (by decide) (by kernel_rfl) (by decide) rfl fun x _ h => ⟨fu, (ev_f42 x.1).trans h⟩
@[reducible] noncomputable def E_f69b : Env := tab.env (AM.look [(42, sp_f42)]) ⟨[(0, ⟨[(0, true), (1, true), (7, true), (8, true)], [(1000000, true)]⟩)], [], [], ⟨[(4, true)], [(1000000, true)]⟩, [], [42], [], []⟩
theorem calls_f69b : CallsOk Tryz.prog E_f69b := callsOk_of ⟨⟨c_f42, Tryz.call42, fun _ => words_spec rfl⟩, trivial⟩
noncomputable def b_f69b : Code := (Tryz.f69.body).getD .skip
@[reducible] def R_f69b : List (Ty × List Tag) := [((.int .i64), []), ((.sl (.pair (.int .i64) (.pair (.int .i64) .str))), [])]
noncomputable def sg_f69b_0 (t7_1 : Int) (t8_2 : Int) (t1000000_3 : (List (Int × (Int × ByteArray)))) : St := mk [(0, .slw 1000000 0), (1, .fn 42 []), (7, .dat (.int .i64) t7_1 []), (8, .dat (.int .i64) t8_2 [])] [(1000000, some (.arr (.pair (.int .i64) (.pair (.int .i64) .str)) t1000000_3 false))]
noncomputable def q_f69b_0 (m0 : Nat) : K (ResD R_f69b) := fin E_f69b [.tmp 4] [.ioa (.pair (.int .i64) (.pair (.int .i64) .str))] R_f69b
noncomputable def cd_f69b_1 : Code := (rgt (rgt b_f69b))
noncomputable def q_f69b_1 (m0 : Nat) : K (ResD R_f69b) := seqK E_f69b (evJ E_f69b (drE E_f69b) m0) cd_f69b_1 0 (evC E_f69b (evJ E_f69b (drE E_f69b) m0) (drE E_f69b) cd_f69b_1 0) (q_f69b_0 m0)
noncomputable def q_f69b_2 (m0 : Nat) : K (ResD R_f69b) := blockK 0 (q_f69b_1 m0)
noncomputable def cd_f69b_2 : Code := (lft (lft (rgt (lft (rgt b_f69b)))))
noncomputable def j0_f69b (m0 : Nat) (n : Nat) : Int → Int → (List (Int × (Int × ByteArray))) → Option (Int × (List (Int × (Int × ByteArray)))) := fun t7_1 t8_2 t1000000_3 => evJ E_f69b (drE E_f69b) n (.loop cd_f69b_2) 0 (sg_f69b_0 t7_1 t8_2 t1000000_3) (q_f69b_2 m0)
theorem st_f69b_j0 (m0 : Nat) (n : Nat) (t7_1 : Int) (t8_2 : Int) (t1000000_3 : (List (Int × (Int × ByteArray)))) : j0_f69b m0 (n + 1) t7_1 t8_2 t1000000_3 = slices_IndexFunc_api_Cell_api_Cell__nulls_Split_1_a0.S0 (j0_f69b m0 n) t7_1 t8_2 t1000000_3 := by kernel_rfl
theorem J_f69b_0 (m0 : Nat) : ∀ (n : Nat) (t7_1 : Int) (t8_2 : Int) (t1000000_3 : (List (Int × (Int × ByteArray)))), j0_f69b m0 n t7_1 t8_2 t1000000_3 = slices_IndexFunc_api_Cell_api_Cell__nulls_Split_1_a0.l0 n t7_1 t8_2 t1000000_3 := by
  intro n
  induction n with
  | zero => intros; rfl
  | succ n ih =>
    intro t7_1 t8_2 t1000000_3
    have e0 : (j0_f69b m0 n) = (slices_IndexFunc_api_Cell_api_Cell__nulls_Split_1_a0.l0 n) := by funext t7_1 t8_2 t1000000_3; exact ih t7_1 t8_2 t1000000_3
    refine (st_f69b_j0 m0 n t7_1 t8_2 t1000000_3).trans ?_
    rw [e0]; rfl
theorem st_f69b (m0 : Nat) (s : (List (Int × (Int × ByteArray)))) : evC E_f69b (evJ E_f69b (drE E_f69b) m0) (drE E_f69b) b_f69b 0 (st0 [.ioa (.pair (.int .i64) (.pair (.int .i64) .str)), .fn 42 []] (s, (), ())) (fin E_f69b [.tmp 4] [.ioa (.pair (.int .i64) (.pair (.int .i64) .str))] R_f69b) = slices_IndexFunc_api_Cell_api_Cell__nulls_Split_1_a0.S (j0_f69b m0 m0) s := by kernel_rfl
theorem ev_f69b (s : (List (Int × (Int × ByteArray)))) : evC E_f69b (evJ E_f69b (drE E_f69b) fu) (drE E_f69b) b_f69b 0 (st0 [.ioa (.pair (.int .i64) (.pair (.int .i64) .str)), .fn 42 []] (s, (), ())) (fin E_f69b [.tmp 4] [.ioa (.pair (.int .i64) (.pair (.int .i64) .str))] R_f69b) = slices_IndexFunc_api_Cell_api_Cell__nulls_Split_1_a0 s := by
  have e0 : (j0_f69b fu fu) = (slices_IndexFunc_api_Cell_api_Cell__nulls_Split_1_a0.l0 fu) := by funext t7_1 t8_2 t1000000_3; exact J_f69b_0 fu fu t7_1 t8_2 t1000000_3
  refine (st_f69b fu s).trans ?_
  rw [e0]; rfl
@[reducible] def sp_f69b   : AM.Spec := AM.specIo 1 [.ioa (.pair (.int .i64) (.pair (.int .i64) .str)), .fn 42 []] R_f69b (fun x => slices_IndexFunc_api_Cell_api_Cell__nulls_Split_1_a0 x.1)
theorem c_f69b : Contract Tryz.prog 69 sp_f69b :=
  contract_io (Tab.envOk tabOk _ _) calls_f69b tabOk.mixed (fn := Tryz.f69) (c := b_f69b) (ts := [.tmp 4]) (by kernel_rfl) (by kernel_rfl) (by kernel_rfl) (by decide) (by kernel_rfl) (by decide) fun x _ h => ⟨fu, (ev_f69b x.1).trans h⟩
@[reducible] noncomputable def E_f40 : Env := tab.env (AM.look [(69, sp_f69b), (42, sp_f42)]) ⟨[(0, ⟨[(0, true), (1, true), (5, true), (6, true)], [(1000000, true)]⟩)], [], [(11, ⟨[(0, true), (5, true)], [(1000000, true)]⟩)], ⟨[(4, true)], [(1000000, true)]⟩, [0, 4, 8, 13, 17, 22, 30, 36, 38, 39, 41], [42], [(69, [true])], []⟩
theorem calls_f40 : CallsOk Tryz.prog E_f40 := callsOk_of ⟨⟨c_f69b, Tryz.call69, fun h => nomatch (show false = true from h)⟩, ⟨⟨c_f42, Tryz.call42, fun _ => words_spec rfl⟩, trivial⟩⟩
noncomputable def b_f40 : Code := (Tryz.f40.body).getD .skip
@[reducible] def R_f40 : List (Ty × List Tag) := [((.int .i64), []), ((.sl (.pair (.int .i64) (.pair (.int .i64) .str))), [])]
noncomputable def sg_f40_1 (i_6 : Int) (t1000000_7 : (List (Int × (Int × ByteArray)))) : St := mk [(0, .slw 1000000 0), (5, .dat (.int .i64) i_6 [])] [(1000000, some (.arr (.pair (.int .i64) (.pair (.int .i64) .str)) t1000000_7 false))]
noncomputable def sg_f40_0 (i_2 : Int) (j_3 : Int) (t1000000_4 : (List (Int × (Int × ByteArray)))) : St := mk [(0, .slw 1000000 0), (1, .fn 42 []), (5, .dat (.int .i64) i_2 []), (6, .dat (.int .i64) j_3 [])] [(1000000, some (.arr (.pair (.int .i64) (.pair (.int .i64) .str)) t1000000_4 false))]
noncomputable def q_f40_0 (m0 : Nat) : K (ResD R_f40) := finS 0 4 [.ioa (.pair (.int .i64) (.pair (.int .i64) .str))] R_f40
noncomputable def cd_f40_1 : Code := (rgt (rgt (rgt (rgt b_f40))))
noncomputable def j1_f40 (m0 : Nat) (n : Nat) : Int → (List (Int × (Int × ByteArray))) → Option (Int × (List (Int × (Int × ByteArray)))) := fun i_6 t1000000_7 => evJ E_f40 (drE E_f40) n (.tail cd_f40_1) 0 (sg_f40_1 i_6 t1000000_7) (q_f40_0 m0)
theorem st_f40_j1 (m0 : Nat) (n : Nat) (i_6 : Int) (t1000000_7 : (List (Int × (Int × ByteArray)))) : j1_f40 m0 (n + 1) i_6 t1000000_7 = slices_DeleteFunc_api_Cell_api_Cell__nulls_Split_1_a0.S1 i_6 t1000000_7 := by kernel_rfl
theorem J_f40_1 (m0 : Nat) : ∀ (n : Nat) (i_6 : Int) (t1000000_7 : (List (Int × (Int × ByteArray)))), j1_f40 m0 n i_6 t1000000_7 = slices_DeleteFunc_api_Cell_api_Cell__nulls_Split_1_a0.t1 n i_6 t1000000_7 := by
  intro n
  induction n with
  | zero => intros; rfl
  | succ n ih =>
    intro i_6 t1000000_7
    have e1 : (j1_f40 m0 n) = (slices_DeleteFunc_api_Cell_api_Cell__nulls_Split_1_a0.t1 n) := by funext i_6 t1000000_7; exact ih i_6 t1000000_7
    refine (st_f40_j1 m0 n i_6 t1000000_7).trans ?_
    rfl
noncomputable def q_f40_1 (m0 : Nat) : K (ResD R_f40) := seqK E_f40 (evJ E_f40 (drE E_f40) m0) cd_f40_1 0 (evC E_f40 (evJ E_f40 (drE E_f40) m0) (drE E_f40) cd_f40_1 0) (q_f40_0 m0)
noncomputable def q_f40_2 (m0 : Nat) : K (ResD R_f40) := blockK 0 (q_f40_1 m0)
noncomputable def cd_f40_2 : Code := (lft (lft (rgt (lft (rgt (rgt (rgt b_f40)))))))
noncomputable def j0_f40 (m0 : Nat) (n : Nat) : Int → Int → (List (Int × (Int × ByteArray))) → Option (Int × (List (Int × (Int × ByteArray)))) := fun i_2 j_3 t1000000_4 => evJ E_f40 (drE E_f40) n (.loop cd_f40_2) 0 (sg_f40_0 i_2 j_3 t1000000_4) (q_f40_2 m0)
theorem st_f40_j0 (m0 : Nat) (n : Nat) (i_2 : Int) (j_3 : Int) (t1000000_4 : (List (Int × (Int × ByteArray)))) : j0_f40 m0 (n + 1) i_2 j_3 t1000000_4 = slices_DeleteFunc_api_Cell_api_Cell__nulls_Split_1_a0.S0 (j1_f40 m0 m0) (j0_f40 m0 n) i_2 j_3 t1000000_4 := by kernel_rfl
theorem J_f40_0 (m0 : Nat) : ∀ (n : Nat) (i_2 : Int) (j_3 : Int) (t1000000_4 : (List (Int × (Int × ByteArray)))), j0_f40 m0 n i_2 j_3 t1000000_4 = slices_DeleteFunc_api_Cell_api_Cell__nulls_Split_1_a0.l0 (j1_f40 m0 m0) n i_2 j_3 t1000000_4 := by
  intro n
  induction n with
  | zero => intros; rfl
  | succ n ih =>
    intro i_2 j_3 t1000000_4
    have e0 : (j0_f40 m0 n) = (slices_DeleteFunc_api_Cell_api_Cell__nulls_Split_1_a0.l0 (j1_f40 m0 m0) n) := by funext i_2 j_3 t1000000_4; exact ih i_2 j_3 t1000000_4
    refine (st_f40_j0 m0 n i_2 j_3 t1000000_4).trans ?_
    rw [e0]; rfl
theorem st_f40 (m0 : Nat) (s : (List (Int × (Int × ByteArray)))) : evC E_f40 (evJ E_f40 (drE E_f40) m0) (drE E_f40) b_f40 0 (st0 [.ioa (.pair (.int .i64) (.pair (.int .i64) .str)), .fn 42 []] (s, (), ())) (finS 0 4 [.ioa (.pair (.int .i64) (.pair (.int .i64) .str))] R_f40) = slices_DeleteFunc_api_Cell_api_Cell__nulls_Split_1_a0.S (j0_f40 m0 m0) s := by kernel_rfl
theorem ev_f40 (s : (List (Int × (Int × ByteArray)))) : evC E_f40 (evJ E_f40 (drE E_f40) fu) (drE E_f40) b_f40 0 (st0 [.ioa (.pair (.int .i64) (.pair (.int .i64) .str)), .fn 42 []] (s, (), ())) (finS 0 4 [.ioa (.pair (.int .i64) (.pair (.int .i64) .str))] R_f40) = slices_DeleteFunc_api_Cell_api_Cell__nulls_Split_1_a0 s := by
  have e1 : (j1_f40 fu fu) = (slices_DeleteFunc_api_Cell_api_Cell__nulls_Split_1_a0.t1 fu) := by funext i_6 t1000000_7; exact J_f40_1 fu fu i_6 t1000000_7
  have e0 : (j0_f40 fu fu) = (slices_DeleteFunc_api_Cell_api_Cell__nulls_Split_1_a0.l0 (slices_DeleteFunc_api_Cell_api_Cell__nulls_Split_1_a0.t1 fu) fu) := by rw [← e1]; funext i_2 j_3 t1000000_4; exact J_f40_0 fu fu i_2 j_3 t1000000_4
  refine (st_f40 fu s).trans ?_
  rw [e0]; rfl
@[reducible] def sp_f40   : AM.Spec := AM.specSl 0 [.ioa (.pair (.int .i64) (.pair (.int .i64) .str)), .fn 42 []] R_f40 (fun x => slices_DeleteFunc_api_Cell_api_Cell__nulls_Split_1_a0 x.1)
theorem c_f40 : Contract Tryz.prog 40 sp_f40 :=
  contract_sl (Tab.envOk tabOk _ _) calls_f40 tabOk.mixed (fn := Tryz.f40) (c := b_f40) (by kernel_rfl) (by kernel_rfl) (by kernel_rfl) (by kernel_rfl) (by decide) (by decide) fun x _ h => ⟨fu, (ev_f40 x.1).trans h⟩
@[reducible] noncomputable def E_f105 : Env := tab.env (AM.look []) ⟨[(0, ⟨[(3, true), (4, true), (5, true)], []⟩)], [], [], ⟨[(2, true)], []⟩, [], [], [], []⟩
theorem calls_f105 : CallsOk Tryz.prog E_f105 := callsOk_of trivial
noncomputable def b_f105 : Code := (Tryz.f105.body).getD .skip
@[reducible] def R_f105 : List (Ty × List Tag) := [((.int .i64), [])]
noncomputable def sg_f105_0 (w_1 : Int) (n_2 : Int) (step_3 : Int) : St := mk [(3, .dat (.int .u64) w_1 []), (4, .dat (.int .i64) n_2 []), (5, .dat (.int .i64) step_3 [])] []
noncomputable def q_f105_0 (m0 : Nat) : K (ResD R_f105) := fin E_f105 [.tmp 2] [] R_f105
noncomputable def cd_f105_1 : Code := (rgt (rgt (rgt b_f105)))
noncomputable def q_f105_1 (m0 : Nat) : K (ResD R_f105) := seqK E_f105 (evJ E_f105 (drE E_f105) m0) cd_f105_1 0 (evC E_f105 (evJ E_f105 (drE E_f105) m0) (drE E_f105) cd_f105_1 0) (q_f105_0 m0)
noncomputable def q_f105_2 (m0 : Nat) : K (ResD R_f105) := blockK 0 (q_f105_1 m0)
noncomputable def cd_f105_2 : Code := (lft (lft (rgt (lft (rgt (rgt b_f105))))))
noncomputable def j0_f105 (m0 : Nat) (n : Nat) : Int → Int → Int → Option (Int) := fun w_1 n_2 step_3 => evJ E_f105 (drE E_f105) n (.loop cd_f105_2) 0 (sg_f105_0 w_1 n_2 step_3) (q_f105_2 m0)
theorem st_f105_j0 (m0 : Nat) (n : Nat) (w_1 : Int) (n_2 : Int) (step_3 : Int) : j0_f105 m0 (n + 1) w_1 n_2 step_3 = bits_Width.S0 (j0_f105 m0 n) w_1 n_2 step_3 := by kernel_rfl
theorem J_f105_0 (m0 : Nat) : ∀ (n : Nat) (w_1 : Int) (n_2 : Int) (step_3 : Int), j0_f105 m0 n w_1 n_2 step_3 = bits_Width.l0 n w_1 n_2 step_3 := by
  intro n
  induction n with
  | zero => intros; rfl
  | succ n ih =>
    intro w_1 n_2 step_3
    have e0 : (j0_f105 m0 n) = (bits_Width.l0 n) := by funext w_1 n_2 step_3; exact ih w_1 n_2 step_3
    refine (st_f105_j0 m0 n w_1 n_2 step_3).trans ?_
    rw [e0]; rfl
theorem st_f105 (m0 : Nat) (word : Int) : evC E_f105 (evJ E_f105 (drE E_f105) m0) (drE E_f105) b_f105 0 (st0 [.val (.int .i64)] (word, ())) (fin E_f105 [.tmp 2] [] R_f105) = bits_Width.S (j0_f105 m0 m0) word := by kernel_rfl
theorem ev_f105 (word : Int) : evC E_f105 (evJ E_f105 (drE E_f105) fu) (drE E_f105) b_f105 0 (st0 [.val (.int .i64)] (word, ())) (fin E_f105 [.tmp 2] [] R_f105) = bits_Width word := by
  have e0 : (j0_f105 fu fu) = (bits_Width.l0 fu) := by funext w_1 n_2 step_3; exact J_f105_0 fu fu w_1 n_2 step_3
  refine (st_f105 fu word).trans ?_
  rw [e0]; rfl
@[reducible] def sp_f105   : AM.Spec := AM.spec [.val (.int .i64)] R_f105 (fun x => bits_Width x.1)
theorem c_f105 : Contract Tryz.prog 105 sp_f105 :=
  contract_of (Tab.envOk tabOk _ _) calls_f105 tabOk.mixed (fn := Tryz.f105) (c := b_f105) (ts := [.tmp 2]) (by kernel_rfl) (by kernel_rfl) (by kernel_rfl) (by decide) (by kernel_rfl) (by decide) rfl fun x _ h => ⟨fu, (ev_f105 x.1).trans h⟩
@[reducible] noncomputable def E_f70 : Env := tab.env (AM.look [(105, sp_f105)]) ⟨[(0, ⟨[(3, true), (6, true), (7, true), (8, true)], []⟩)], [], [], ⟨[(2, true)], []⟩, [], [105], [], []⟩
theorem calls_f70 : CallsOk Tryz.prog E_f70 := callsOk_of ⟨⟨c_f105, Tryz.call105, fun _ => words_spec rfl⟩, trivial⟩
noncomputable def b_f70 : Code := (Tryz.f70.body).getD .skip
@[reducible] def R_f70 : List (Ty × List Tag) := [((.int .i64), [])]
noncomputable def sg_f70_0 (all_1 : Int) (t6_2 : (List Int)) (t7_3 : Int) (t8_4 : Int) : St := mk [(3, .dat (.int .i64) all_1 []), (6, .dat (.sl (.int .i64)) t6_2 []), (7, .dat (.int .i64) t7_3 []), (8, .dat (.int .i64) t8_4 [])] []
noncomputable def q_f70_0 (m0 : Nat) : K (ResD R_f70) := fin E_f70 [.tmp 2] [] R_f70
noncomputable def cd_f70_1 : Code := (rgt (rgt (rgt b_f70)))
noncomputable def q_f70_1 (m0 : Nat) : K (ResD R_f70) := seqK E_f70 (evJ E_f70 (drE E_f70) m0) cd_f70_1 0 (evC E_f70 (evJ E_f70 (drE E_f70) m0) (drE E_f70) cd_f70_1 0) (q_f70_0 m0)
noncomputable def q_f70_2 (m0 : Nat) : K (ResD R_f70) := blockK 0 (q_f70_1 m0)
noncomputable def cd_f70_2 : Code := (lft (lft (rgt (lft (rgt (rgt b_f70))))))
noncomputable def j0_f70 (m0 : Nat) (n : Nat) : Int → (List Int) → Int → Int → Option (Int) := fun all_1 t6_2 t7_3 t8_4 => evJ E_f70 (drE E_f70) n (.loop cd_f70_2) 0 (sg_f70_0 all_1 t6_2 t7_3 t8_4) (q_f70_2 m0)
theorem st_f70_j0 (m0 : Nat) (n : Nat) (all_1 : Int) (t6_2 : (List Int)) (t7_3 : Int) (t8_4 : Int) : j0_f70 m0 (n + 1) all_1 t6_2 t7_3 t8_4 = pack_Width.S0 (j0_f70 m0 n) all_1 t6_2 t7_3 t8_4 := by kernel_rfl
theorem J_f70_0 (m0 : Nat) : ∀ (n : Nat) (all_1 : Int) (t6_2 : (List Int)) (t7_3 : Int) (t8_4 : Int), j0_f70 m0 n all_1 t6_2 t7_3 t8_4 = pack_Width.l0 n all_1 t6_2 t7_3 t8_4 := by
  intro n
  induction n with
  | zero => intros; rfl
  | succ n ih =>
    intro all_1 t6_2 t7_3 t8_4
    have e0 : (j0_f70 m0 n) = (pack_Width.l0 n) := by funext all_1 t6_2 t7_3 t8_4; exact ih all_1 t6_2 t7_3 t8_4
    refine (st_f70_j0 m0 n all_1 t6_2 t7_3 t8_4).trans ?_
    rw [e0]; rfl
theorem st_f70 (m0 : Nat) (l : (List Int)) : evC E_f70 (evJ E_f70 (drE E_f70) m0) (drE E_f70) b_f70 0 (st0 [.val (.sl (.int .i64))] (l, ())) (fin E_f70 [.tmp 2] [] R_f70) = pack_Width.S (j0_f70 m0 m0) l := by kernel_rfl
theorem ev_f70 (l : (List Int)) : evC E_f70 (evJ E_f70 (drE E_f70) fu) (drE E_f70) b_f70 0 (st0 [.val (.sl (.int .i64))] (l, ())) (fin E_f70 [.tmp 2] [] R_f70) = pack_Width l := by
  have e0 : (j0_f70 fu fu) = (pack_Width.l0 fu) := by funext all_1 t6_2 t7_3 t8_4; exact J_f70_0 fu fu all_1 t6_2 t7_3 t8_4
  refine (st_f70 fu l).trans ?_
  rw [e0]; rfl
@[reducible] def sp_f70   : AM.Spec := AM.spec [.val (.sl (.int .i64))] R_f70 (fun x => pack_Width x.1)
theorem c_f70 : Contract Tryz.prog 70 sp_f70 :=
  contract_of (Tab.envOk tabOk _ _) calls_f70 tabOk.mixed (fn := Tryz.f70) (c := b_f70) (ts := [.tmp 2]) (by kernel_rfl) (by kernel_rfl) (by kernel_rfl) (by decide) (by kernel_rfl) (by decide) rfl fun x _ h => ⟨fu, (ev_f70 x.1).trans h⟩
@[reducible] noncomputable def E_f71 : Env := tab.env (AM.look []) ⟨[], [], [], ⟨[(4, true)], []⟩, [], [], [], []⟩
theorem calls_f71 : CallsOk Tryz.prog E_f71 := callsOk_of trivial
noncomputable def b_f71 : Code := (Tryz.f71.body).getD .skip
@[reducible] def R_f71 : List (Ty × List Tag) := [((.int .i64), [])]
theorem st_f71_o (m0 : Nat) (xn : Int) (width : Int) : evC E_f71 (evJ E_f71 (drE E_f71) m0) (drE E_f71) b_f71 0 (st0 [.val (.int .i64), .val (.int .i64)] (xn, width, ())) (fin E_f71 [.tmp 4] [] R_f71) = pack_Bytes.o xn width := by kernel_rfl
theorem st_f71 (m0 : Nat) (xn : Int) (width : Int) : evC E_f71 (evJ E_f71 (drE E_f71) m0) (drE E_f71) b_f71 0 (st0 [.val (.int .i64), .val (.int .i64)] (xn, width, ())) (fin E_f71 [.tmp 4] [] R_f71) = some (pack_Bytes xn width) := (st_f71_o m0 xn width).trans (by unfold pack_Bytes.o pack_Bytes; simp only [cond_some])
theorem ev_f71 (xn : Int) (width : Int) : evC E_f71 (evJ E_f71 (drE E_f71) fu) (drE E_f71) b_f71 0 (st0 [.val (.int .i64), .val (.int .i64)] (xn, width, ())) (fin E_f71 [.tmp 4] [] R_f71) = some (pack_Bytes xn width) := st_f71 fu xn width
@[reducible] def sp_f71   : AM.Spec := AM.spec [.val (.int .i64), .val (.int .i64)] R_f71 (fun x => some (pack_Bytes x.1 x.2.1))
theorem c_f71 : Contract Tryz.prog 71 sp_f71 :=
  contract_of (Tab.envOk tabOk _ _) calls_f71 tabOk.mixed (fn := Tryz.f71) (c := b_f71) (ts := [.tmp 4]) (by kernel_rfl) (by kernel_rfl) (by kernel_rfl) (by decide) (by kernel_rfl) (by decide) rfl fun x _ h => ⟨fu, (ev_f71 x.1 x.2.1).trans h⟩
@[reducible] noncomputable def E_f72 : Env := tab.env (AM.look []) ⟨[], [], [], ⟨[(2, true)], []⟩, [], [], [], []⟩
theorem calls_f72 : CallsOk Tryz.prog E_f72 := callsOk_of trivial
noncomputable def b_f72 : Code := (Tryz.f72.body).getD .skip
@[reducible] def R_f72 : List (Ty × List Tag) := [((.int .i64), [])]
theorem st_f72 (m0 : Nat) (w : Int) : evC E_f72 (evJ E_f72 (drE E_f72) m0) (drE E_f72) b_f72 0 (st0 [.val (.int .i64)] (w, ())) (fin E_f72 [.tmp 2] [] R_f72) = bits_Mask w := by kernel_rfl
theorem ev_f72 (w : Int) : evC E_f72 (evJ E_f72 (drE E_f72) fu) (drE E_f72) b_f72 0 (st0 [.val (.int .i64)] (w, ())) (fin E_f72 [.tmp 2] [] R_f72) = bits_Mask w := st_f72 fu w
@[reducible] def sp_f72   : AM.Spec := AM.spec [.val (.int .i64)] R_f72 (fun x => bits_Mask x.1)
theorem c_f72 : Contract Tryz.prog 72 sp_f72 :=
  contract_of (Tab.envOk tabOk _ _) calls_f72 tabOk.mixed (fn := Tryz.f72) (c := b_f72) (ts := [.tmp 2]) (by kernel_rfl) (by kernel_rfl) (by kernel_rfl) (by decide) (by kernel_rfl) (by decide) rfl fun x _ h => ⟨fu, (ev_f72 x.1).trans h⟩
@[reducible] noncomputable def E_f44 : Env := tab.env (AM.look [(70, sp_f70), (71, sp_f71), (72, sp_f72)]) ⟨[(0, ⟨[(1, true), (6, true), (7, true), (8, true), (37, true), (38, true), (39, true)], []⟩), (2, ⟨[(1, true), (6, true), (7, true), (8, true), (11, true), (12, true), (37, true), (38, true), (39, true)], []⟩)], [], [(20, ⟨[(6, true), (7, true), (8, true)], []⟩)], ⟨[(4, true), (5, true)], []⟩, [], [70, 71, 72], [], []⟩
theorem calls_f44 : CallsOk Tryz.prog E_f44 := callsOk_of ⟨⟨c_f70, Tryz.call70, fun _ => words_spec rfl⟩, ⟨⟨c_f71, Tryz.call71, fun _ => words_spec rfl⟩, ⟨⟨c_f72, Tryz.call72, fun _ => words_spec rfl⟩, trivial⟩⟩⟩
noncomputable def b_f44 : Code := (Tryz.f44.body).getD .skip
@[reducible] def R_f44 : List (Ty × List Tag) := [(.str, []), ((.int .i64), [])]
noncomputable def sg_f44_2 (out_20 : (List Int)) (kept_21 : Int) (n_22 : Int) : St := mk [(6, .dat (.sl (.int .u8)) out_20 [⟨0, 385, 0, 0⟩]), (7, .dat (.int .u64) kept_21 []), (8, .dat (.int .i64) n_22 [])] []
noncomputable def sg_f44_1 (width_10 : Int) (out_11 : (List Int)) (kept_12 : Int) (n_13 : Int) (w_14 : Int) (left_15 : Int) (t37_16 : (List Int)) (t38_17 : Int) (t39_18 : Int) : St := mk [(1, .dat (.int .i64) width_10 []), (6, .dat (.sl (.int .u8)) out_11 [⟨0, 385, 0, 0⟩]), (7, .dat (.int .u64) kept_12 []), (8, .dat (.int .i64) n_13 []), (11, .dat (.int .u64) w_14 []), (12, .dat (.int .i64) left_15 []), (37, .dat (.sl (.int .i64)) t37_16 []), (38, .dat (.int .i64) t38_17 []), (39, .dat (.int .i64) t39_18 [])] []
noncomputable def sg_f44_0 (width_3 : Int) (out_4 : (List Int)) (kept_5 : Int) (n_6 : Int) (t37_7 : (List Int)) (t38_8 : Int) (t39_9 : Int) : St := mk [(1, .dat (.int .i64) width_3 []), (6, .dat (.sl (.int .u8)) out_4 [⟨0, 385, 0, 0⟩]), (7, .dat (.int .u64) kept_5 []), (8, .dat (.int .i64) n_6 []), (37, .dat (.sl (.int .i64)) t37_7 []), (38, .dat (.int .i64) t38_8 []), (39, .dat (.int .i64) t39_9 [])] []
noncomputable def q_f44_0 (m0 : Nat) : K (ResD R_f44) := fin E_f44 [.tmp 4, .tmp 5] [] R_f44
noncomputable def cd_f44_1 : Code := (rgt (rgt (rgt (rgt (rgt (rgt b_f44))))))
noncomputable def j2_f44 (m0 : Nat) (n : Nat) : (List Int) → Int → Int → Option (ByteArray × Int) := fun out_20 kept_21 n_22 => evJ E_f44 (drE E_f44) n (.tail cd_f44_1) 0 (sg_f44_2 out_20 kept_21 n_22) (q_f44_0 m0)
theorem st_f44_j2 (m0 : Nat) (n : Nat) (out_20 : (List Int)) (kept_21 : Int) (n_22 : Int) : j2_f44 m0 (n + 1) out_20 kept_21 n_22 = pack_Put.S2 out_20 kept_21 n_22 := by kernel_rfl
theorem J_f44_2 (m0 : Nat) : ∀ (n : Nat) (out_20 : (List Int)) (kept_21 : Int) (n_22 : Int), j2_f44 m0 n out_20 kept_21 n_22 = pack_Put.t2 n out_20 kept_21 n_22 := by
  intro n
  induction n with
  | zero => intros; rfl
  | succ n ih =>
    intro out_20 kept_21 n_22
    have e2 : (j2_f44 m0 n) = (pack_Put.t2 n) := by funext out_20 kept_21 n_22; exact ih out_20 kept_21 n_22
    refine (st_f44_j2 m0 n out_20 kept_21 n_22).trans ?_
    rfl
noncomputable def q_f44_1 (m0 : Nat) : K (ResD R_f44) := seqK E_f44 (evJ E_f44 (drE E_f44) m0) cd_f44_1 0 (evC E_f44 (evJ E_f44 (drE E_f44) m0) (drE E_f44) cd_f44_1 0) (q_f44_0 m0)
noncomputable def q_f44_2 (m0 : Nat) : K (ResD R_f44) := blockK 0 (q_f44_1 m0)
noncomputable def cd_f44_2 : Code := (lft (lft (rgt (lft (rgt (rgt (rgt (rgt (rgt b_f44)))))))))
noncomputable def j0_f44 (m0 : Nat) (n : Nat) : Int → (List Int) → Int → Int → (List Int) → Int → Int → Option (ByteArray × Int) := fun width_3 out_4 kept_5 n_6 t37_7 t38_8 t39_9 => evJ E_f44 (drE E_f44) n (.loop cd_f44_2) 0 (sg_f44_0 width_3 out_4 kept_5 n_6 t37_7 t38_8 t39_9) (q_f44_2 m0)
noncomputable def q_f44_3 (m0 : Nat) (m1 : Nat) : K (ResD R_f44) := loopK (E_f44.loop 0) (fun s => evJ E_f44 (drE E_f44) m1 (.loop cd_f44_2) 0 s (q_f44_2 m0)) (q_f44_2 m0)
noncomputable def cd_f44_3 : Code := (rgt (rgt (rgt cd_f44_2)))
noncomputable def q_f44_4 (m0 : Nat) (m1 : Nat) : K (ResD R_f44) := seqK E_f44 (evJ E_f44 (drE E_f44) m1) cd_f44_3 0 (evC E_f44 (evJ E_f44 (drE E_f44) m1) (drE E_f44) cd_f44_3 0) (q_f44_3 m0 m1)
noncomputable def q_f44_5 (m0 : Nat) (m1 : Nat) : K (ResD R_f44) := blockK 1 (q_f44_4 m0 m1)
noncomputable def q_f44_6 (m0 : Nat) (m1 : Nat) : K (ResD R_f44) := blockK 2 (q_f44_5 m0 m1)
noncomputable def cd_f44_4 : Code := (lft (lft (rgt (rgt (lft (lft (rgt (rgt cd_f44_2))))))))
noncomputable def j1_f44 (m0 : Nat) (m1 : Nat) (n : Nat) : Int → (List Int) → Int → Int → Int → Int → (List Int) → Int → Int → Option (ByteArray × Int) := fun width_10 out_11 kept_12 n_13 w_14 left_15 t37_16 t38_17 t39_18 => evJ E_f44 (drE E_f44) n (.loop cd_f44_4) 2 (sg_f44_1 width_10 out_11 kept_12 n_13 w_14 left_15 t37_16 t38_17 t39_18) (q_f44_6 m0 m1)
theorem st_f44_j1 (m0 : Nat) (m1 : Nat) (n : Nat) (width_10 : Int) (out_11 : (List Int)) (kept_12 : Int) (n_13 : Int) (w_14 : Int) (left_15 : Int) (t37_16 : (List Int)) (t38_17 : Int) (t39_18 : Int) : j1_f44 m0 m1 (n + 1) width_10 out_11 kept_12 n_13 w_14 left_15 t37_16 t38_17 t39_18 = pack_Put.S1 (j0_f44 m0 m1) (j1_f44 m0 m1 n) width_10 out_11 kept_12 n_13 w_14 left_15 t37_16 t38_17 t39_18 := by kernel_rfl
theorem J_f44_1 (m0 : Nat) (m1 : Nat) : ∀ (n : Nat) (width_10 : Int) (out_11 : (List Int)) (kept_12 : Int) (n_13 : Int) (w_14 : Int) (left_15 : Int) (t37_16 : (List Int)) (t38_17 : Int) (t39_18 : Int), j1_f44 m0 m1 n width_10 out_11 kept_12 n_13 w_14 left_15 t37_16 t38_17 t39_18 = pack_Put.l1 (j0_f44 m0 m1) n width_10 out_11 kept_12 n_13 w_14 left_15 t37_16 t38_17 t39_18 := by
  intro n
  induction n with
  | zero => intros; rfl
  | succ n ih =>
    intro width_10 out_11 kept_12 n_13 w_14 left_15 t37_16 t38_17 t39_18
    have e1 : (j1_f44 m0 m1 n) = (pack_Put.l1 (j0_f44 m0 m1) n) := by funext width_10 out_11 kept_12 n_13 w_14 left_15 t37_16 t38_17 t39_18; exact ih width_10 out_11 kept_12 n_13 w_14 left_15 t37_16 t38_17 t39_18
    refine (st_f44_j1 m0 m1 n width_10 out_11 kept_12 n_13 w_14 left_15 t37_16 t38_17 t39_18).trans ?_
    rw [e1]; rfl
theorem st_f44_j0 (m0 : Nat) (n : Nat) (width_3 : Int) (out_4 : (List Int)) (kept_5 : Int) (n_6 : Int) (t37_7 : (List Int)) (t38_8 : Int) (t39_9 : Int) : j0_f44 m0 (n + 1) width_3 out_4 kept_5 n_6 t37_7 t38_8 t39_9 = pack_Put.S0 (j2_f44 m0 m0) (j1_f44 m0 n n) width_3 out_4 kept_5 n_6 t37_7 t38_8 t39_9 := by kernel_rfl
theorem J_f44_0 (m0 : Nat) : ∀ (n : Nat) (width_3 : Int) (out_4 : (List Int)) (kept_5 : Int) (n_6 : Int) (t37_7 : (List Int)) (t38_8 : Int) (t39_9 : Int), j0_f44 m0 n width_3 out_4 kept_5 n_6 t37_7 t38_8 t39_9 = pack_Put.l0 (j2_f44 m0 m0) n width_3 out_4 kept_5 n_6 t37_7 t38_8 t39_9 := by
  intro n
  induction n with
  | zero => intros; rfl
  | succ n ih =>
    intro width_3 out_4 kept_5 n_6 t37_7 t38_8 t39_9
    have e0 : (j0_f44 m0 n) = (pack_Put.l0 (j2_f44 m0 m0) n) := by funext width_3 out_4 kept_5 n_6 t37_7 t38_8 t39_9; exact ih width_3 out_4 kept_5 n_6 t37_7 t38_8 t39_9
    have e1 : (j1_f44 m0 n n) = (pack_Put.l1 (pack_Put.l0 (j2_f44 m0 m0) n) n) := by rw [← e0]; funext width_10 out_11 kept_12 n_13 w_14 left_15 t37_16 t38_17 t39_18; exact J_f44_1 m0 n n width_10 out_11 kept_12 n_13 w_14 left_15 t37_16 t38_17 t39_18
    refine (st_f44_j0 m0 n width_3 out_4 kept_5 n_6 t37_7 t38_8 t39_9).trans ?_
    rw [e1]; rfl
theorem st_f44 (m0 : Nat) (l : (List Int)) (width : Int) : evC E_f44 (evJ E_f44 (drE E_f44) m0) (drE E_f44) b_f44 0 (st0 [.val (.sl (.int .i64)), .val (.int .i64)] (l, width, ())) (fin E_f44 [.tmp 4, .tmp 5] [] R_f44) = pack_Put.S (j0_f44 m0 m0) l width := by kernel_rfl
theorem ev_f44 (l : (List Int)) (width : Int) : evC E_f44 (evJ E_f44 (drE E_f44) fu) (drE E_f44) b_f44 0 (st0 [.val (.sl (.int .i64)), .val (.int .i64)] (l, width, ())) (fin E_f44 [.tmp 4, .tmp 5] [] R_f44) = pack_Put l width := by
  have e2 : (j2_f44 fu fu) = (pack_Put.t2 fu) := by funext out_20 kept_21 n_22; exact J_f44_2 fu fu out_20 kept_21 n_22
  have e0 : (j0_f44 fu fu) = (pack_Put.l0 (pack_Put.t2 fu) fu) := by rw [← e2]; funext width_3 out_4 kept_5 n_6 t37_7 t38_8 t39_9; exact J_f44_0 fu fu width_3 out_4 kept_5 n_6 t37_7 t38_8 t39_9
  refine (st_f44 fu l width).trans ?_
  rw [e0]; rfl
@[reducible] def sp_f44   : AM.Spec := AM.spec [.val (.sl (.int .i64)), .val (.int .i64)] R_f44 (fun x => pack_Put x.1 x.2.1)
theorem c_f44 : Contract Tryz.prog 44 sp_f44 :=
  contract_of (Tab.envOk tabOk _ _) calls_f44 tabOk.mixed (fn := Tryz.f44) (c := b_f44) (ts := [.tmp 4, .tmp 5]) (by kernel_rfl) (by kernel_rfl) (by kernel_rfl) (by decide) (by kernel_rfl) (by decide) rfl fun x _ h => ⟨fu, (ev_f44 x.1 x.2.1).trans h⟩
@[reducible] noncomputable def E_f24 : Env := tab.env (AM.look [(41, sp_slices_Clone_t41), (40, sp_f40), (43, sp_f43), (44, sp_f44)]) ⟨[(0, ⟨[(4, true), (5, true), (22, true), (23, true), (24, true)], [(11, true), (21, true)]⟩)], [], [(11, ⟨[(4, true), (5, true)], [(11, true), (21, true)]⟩)], ⟨[(2, true), (3, true)], [(11, true)]⟩, [5, 11, 21, 31, 36], [43, 44], [(40, [true])], []⟩
theorem calls_f24 : CallsOk Tryz.prog E_f24 := callsOk_of ⟨⟨c_slices_Clone_t41, Tryz.call41, fun h => nomatch (show false = true from h)⟩, ⟨⟨c_f40, Tryz.call40, fun h => nomatch (show false = true from h)⟩, ⟨⟨c_f43, Tryz.call43, fun _ => words_spec rfl⟩, ⟨⟨c_f44, Tryz.call44, fun _ => words_spec rfl⟩, trivial⟩⟩⟩⟩
noncomputable def b_f24 : Code := (Tryz.f24.body).getD .skip
@[reducible] def R_f24 : List (Ty × List Tag) := [(.str, []), ((.sl (.pair (.int .i64) (.pair (.int .i64) .str))), [])]
noncomputable def sg_f42 (restlo_11 : Nat) (restn_12 : Nat) (t11_13 : (List (Int × (Int × ByteArray)))) (t21_14 : (List Int)) : St := mk [(4, .slm 11 0 restlo_11 restn_12), (5, .slw 21 0)] [(11, some (.arr (.pair (.int .i64) (.pair (.int .i64) .str)) t11_13 false)), (21, some (.arr (.int .i64) t21_14 false))]
noncomputable def sg_f24_0 (restlo_3 : Nat) (restn_4 : Nat) (t22_5 : (List (Int × (Int × ByteArray)))) (t23_6 : Int) (t24_7 : Int) (t11_8 : (List (Int × (Int × ByteArray)))) (t21_9 : (List Int)) : St := mk [(4, .slm 11 0 restlo_3 restn_4), (5, .slw 21 0), (22, .dat (.sl (.pair (.int .i64) (.pair (.int .i64) .str))) t22_5 []), (23, .dat (.int .i64) t23_6 []), (24, .dat (.int .i64) t24_7 [])] [(11, some (.arr (.pair (.int .i64) (.pair (.int .i64) .str)) t11_8 false)), (21, some (.arr (.int .i64) t21_9 false))]
noncomputable def q_f24_0 (m0 : Nat) : K (ResD R_f24) := fin E_f24 [.tmp 2, .tmp 3] [] R_f24
noncomputable def cd_f42 : Code := (rgt (rgt (rgt (rgt (rgt b_f24)))))
noncomputable def j1_f24 (m0 : Nat) (n : Nat) : Nat → Nat → (List (Int × (Int × ByteArray))) → (List Int) → Option (ByteArray × (List (Int × (Int × ByteArray)))) := fun restlo_11 restn_12 t11_13 t21_14 => evJ E_f24 (drE E_f24) n (.tail cd_f42) 0 (sg_f42 restlo_11 restn_12 t11_13 t21_14) (q_f24_0 m0)
theorem st_f24_j1 (m0 : Nat) (n : Nat) (restlo_11 : Nat) (restn_12 : Nat) (t11_13 : (List (Int × (Int × ByteArray)))) (t21_14 : (List Int)) : j1_f24 m0 (n + 1) restlo_11 restn_12 t11_13 t21_14 = nulls_Split.S1 restlo_11 restn_12 t11_13 t21_14 := by kernel_rfl
theorem J_f42 (m0 : Nat) : ∀ (n : Nat) (restlo_11 : Nat) (restn_12 : Nat) (t11_13 : (List (Int × (Int × ByteArray)))) (t21_14 : (List Int)), j1_f24 m0 n restlo_11 restn_12 t11_13 t21_14 = nulls_Split.t1 n restlo_11 restn_12 t11_13 t21_14 := by
  intro n
  induction n with
  | zero => intros; rfl
  | succ n ih =>
    intro restlo_11 restn_12 t11_13 t21_14
    have e1 : (j1_f24 m0 n) = (nulls_Split.t1 n) := by funext restlo_11 restn_12 t11_13 t21_14; exact ih restlo_11 restn_12 t11_13 t21_14
    refine (st_f24_j1 m0 n restlo_11 restn_12 t11_13 t21_14).trans ?_
    rfl
noncomputable def q_f42 (m0 : Nat) : K (ResD R_f24) := seqK E_f24 (evJ E_f24 (drE E_f24) m0) cd_f42 0 (evC E_f24 (evJ E_f24 (drE E_f24) m0) (drE E_f24) cd_f42 0) (q_f24_0 m0)
noncomputable def q_f24_2 (m0 : Nat) : K (ResD R_f24) := blockK 0 (q_f42 m0)
noncomputable def cd_f24_2 : Code := (lft (lft (rgt (lft (rgt (rgt (rgt (rgt b_f24))))))))
noncomputable def j0_f24 (m0 : Nat) (n : Nat) : Nat → Nat → (List (Int × (Int × ByteArray))) → Int → Int → (List (Int × (Int × ByteArray))) → (List Int) → Option (ByteArray × (List (Int × (Int × ByteArray)))) := fun restlo_3 restn_4 t22_5 t23_6 t24_7 t11_8 t21_9 => evJ E_f24 (drE E_f24) n (.loop cd_f24_2) 0 (sg_f24_0 restlo_3 restn_4 t22_5 t23_6 t24_7 t11_8 t21_9) (q_f24_2 m0)
theorem st_f24_j0 (m0 : Nat) (n : Nat) (restlo_3 : Nat) (restn_4 : Nat) (t22_5 : (List (Int × (Int × ByteArray)))) (t23_6 : Int) (t24_7 : Int) (t11_8 : (List (Int × (Int × ByteArray)))) (t21_9 : (List Int)) : j0_f24 m0 (n + 1) restlo_3 restn_4 t22_5 t23_6 t24_7 t11_8 t21_9 = nulls_Split.S0 (j1_f24 m0 m0) (j0_f24 m0 n) restlo_3 restn_4 t22_5 t23_6 t24_7 t11_8 t21_9 := by kernel_rfl
theorem J_f24_0 (m0 : Nat) : ∀ (n : Nat) (restlo_3 : Nat) (restn_4 : Nat) (t22_5 : (List (Int × (Int × ByteArray)))) (t23_6 : Int) (t24_7 : Int) (t11_8 : (List (Int × (Int × ByteArray)))) (t21_9 : (List Int)), j0_f24 m0 n restlo_3 restn_4 t22_5 t23_6 t24_7 t11_8 t21_9 = nulls_Split.l0 (j1_f24 m0 m0) n restlo_3 restn_4 t22_5 t23_6 t24_7 t11_8 t21_9 := by
  intro n
  induction n with
  | zero => intros; rfl
  | succ n ih =>
    intro restlo_3 restn_4 t22_5 t23_6 t24_7 t11_8 t21_9
    have e0 : (j0_f24 m0 n) = (nulls_Split.l0 (j1_f24 m0 m0) n) := by funext restlo_3 restn_4 t22_5 t23_6 t24_7 t11_8 t21_9; exact ih restlo_3 restn_4 t22_5 t23_6 t24_7 t11_8 t21_9
    refine (st_f24_j0 m0 n restlo_3 restn_4 t22_5 t23_6 t24_7 t11_8 t21_9).trans ?_
    rw [e0]; rfl
theorem st_f24 (m0 : Nat) (l : (List (Int × (Int × ByteArray)))) : evC E_f24 (evJ E_f24 (drE E_f24) m0) (drE E_f24) b_f24 0 (st0 [.val (.sl (.pair (.int .i64) (.pair (.int .i64) .str)))] (l, ())) (fin E_f24 [.tmp 2, .tmp 3] [] R_f24) = nulls_Split.S (j0_f24 m0 m0) l := by kernel_rfl
theorem ev_f24 (l : (List (Int × (Int × ByteArray)))) : evC E_f24 (evJ E_f24 (drE E_f24) fu) (drE E_f24) b_f24 0 (st0 [.val (.sl (.pair (.int .i64) (.pair (.int .i64) .str)))] (l, ())) (fin E_f24 [.tmp 2, .tmp 3] [] R_f24) = nulls_Split l := by
  have e1 : (j1_f24 fu fu) = (nulls_Split.t1 fu) := by funext restlo_11 restn_12 t11_13 t21_14; exact J_f42 fu fu restlo_11 restn_12 t11_13 t21_14
  have e0 : (j0_f24 fu fu) = (nulls_Split.l0 (nulls_Split.t1 fu) fu) := by rw [← e1]; funext restlo_3 restn_4 t22_5 t23_6 t24_7 t11_8 t21_9; exact J_f24_0 fu fu restlo_3 restn_4 t22_5 t23_6 t24_7 t11_8 t21_9
  refine (st_f24 fu l).trans ?_
  rw [e0]; rfl
@[reducible] def sp_f24   : AM.Spec := AM.spec [.val (.sl (.pair (.int .i64) (.pair (.int .i64) .str)))] R_f24 (fun x => nulls_Split x.1)
theorem c_f24 : Contract Tryz.prog 24 sp_f24 :=
  contract_of (Tab.envOk tabOk _ _) calls_f24 tabOk.mixed (fn := Tryz.f24) (c := b_f24) (ts := [.tmp 2, .tmp 3]) (by kernel_rfl) (by kernel_rfl) (by kernel_rfl) (by decide) (by kernel_rfl) (by decide) rfl fun x _ h => ⟨fu, (ev_f24 x.1).trans h⟩
@[reducible] noncomputable def E_f73 : Env := tab.env (AM.look []) ⟨[(0, ⟨[(3, true), (11, true), (12, true), (13, true)], []⟩), (2, ⟨[(3, true), (6, true), (11, true), (12, true), (13, true), (19, true)], []⟩)], [], [], ⟨[(2, true)], []⟩, [], [], [], []⟩
theorem calls_f73 : CallsOk Tryz.prog E_f73 := callsOk_of trivial
noncomputable def b_f73 : Code := (Tryz.f73.body).getD .skip
@[reducible] def R_f73 : List (Ty × List Tag) := [(.str, [])]
noncomputable def sg_f73_1 (b_5 : (List Int)) (w_6 : Int) (t11_7 : (List Int)) (t12_8 : Int) (t13_9 : Int) (t19_10 : Int) : St := mk [(3, .dat (.sl (.int .u8)) b_5 [⟨0, 193, 0, 0⟩]), (6, .dat (.int .u64) w_6 []), (11, .dat (.sl (.int .i64)) t11_7 []), (12, .dat (.int .i64) t12_8 []), (13, .dat (.int .i64) t13_9 []), (19, .dat (.int .i64) t19_10 [])] []
noncomputable def sg_f73_0 (b_1 : (List Int)) (t11_2 : (List Int)) (t12_3 : Int) (t13_4 : Int) : St := mk [(3, .dat (.sl (.int .u8)) b_1 [⟨0, 193, 0, 0⟩]), (11, .dat (.sl (.int .i64)) t11_2 []), (12, .dat (.int .i64) t12_3 []), (13, .dat (.int .i64) t13_4 [])] []
noncomputable def q_f73_0 (m0 : Nat) : K (ResD R_f73) := fin E_f73 [.tmp 2] [] R_f73
noncomputable def cd_f73_1 : Code := (rgt (rgt (rgt b_f73)))
noncomputable def q_f73_1 (m0 : Nat) : K (ResD R_f73) := seqK E_f73 (evJ E_f73 (drE E_f73) m0) cd_f73_1 0 (evC E_f73 (evJ E_f73 (drE E_f73) m0) (drE E_f73) cd_f73_1 0) (q_f73_0 m0)
noncomputable def q_f73_2 (m0 : Nat) : K (ResD R_f73) := blockK 0 (q_f73_1 m0)
noncomputable def cd_f73_2 : Code := (lft (lft (rgt (lft (rgt (rgt b_f73))))))
noncomputable def j0_f73 (m0 : Nat) (n : Nat) : (List Int) → (List Int) → Int → Int → Option (ByteArray) := fun b_1 t11_2 t12_3 t13_4 => evJ E_f73 (drE E_f73) n (.loop cd_f73_2) 0 (sg_f73_0 b_1 t11_2 t12_3 t13_4) (q_f73_2 m0)
noncomputable def q_f73_3 (m0 : Nat) (m1 : Nat) : K (ResD R_f73) := loopK (E_f73.loop 0) (fun s => evJ E_f73 (drE E_f73) m1 (.loop cd_f73_2) 0 s (q_f73_2 m0)) (q_f73_2 m0)
noncomputable def cd_f73_3 : Code := (rgt (rgt (rgt cd_f73_2)))
noncomputable def q_f73_4 (m0 : Nat) (m1 : Nat) : K (ResD R_f73) := seqK E_f73 (evJ E_f73 (drE E_f73) m1) cd_f73_3 0 (evC E_f73 (evJ E_f73 (drE E_f73) m1) (drE E_f73) cd_f73_3 0) (q_f73_3 m0 m1)
noncomputable def q_f73_5 (m0 : Nat) (m1 : Nat) : K (ResD R_f73) := blockK 1 (q_f73_4 m0 m1)
noncomputable def q_f73_6 (m0 : Nat) (m1 : Nat) : K (ResD R_f73) := blockK 2 (q_f73_5 m0 m1)
noncomputable def cd_f73_4 : Code := (lft (lft (rgt (rgt (rgt (lft (lft (rgt (rgt cd_f73_2)))))))))
noncomputable def j1_f73 (m0 : Nat) (m1 : Nat) (n : Nat) : (List Int) → Int → (List Int) → Int → Int → Int → Option (ByteArray) := fun b_5 w_6 t11_7 t12_8 t13_9 t19_10 => evJ E_f73 (drE E_f73) n (.loop cd_f73_4) 2 (sg_f73_1 b_5 w_6 t11_7 t12_8 t13_9 t19_10) (q_f73_6 m0 m1)
theorem st_f73_j1 (m0 : Nat) (m1 : Nat) (n : Nat) (b_5 : (List Int)) (w_6 : Int) (t11_7 : (List Int)) (t12_8 : Int) (t13_9 : Int) (t19_10 : Int) : j1_f73 m0 m1 (n + 1) b_5 w_6 t11_7 t12_8 t13_9 t19_10 = plain_PutInts.S1 (j0_f73 m0 m1) (j1_f73 m0 m1 n) b_5 w_6 t11_7 t12_8 t13_9 t19_10 := by kernel_rfl
theorem J_f73_1 (m0 : Nat) (m1 : Nat) : ∀ (n : Nat) (b_5 : (List Int)) (w_6 : Int) (t11_7 : (List Int)) (t12_8 : Int) (t13_9 : Int) (t19_10 : Int), j1_f73 m0 m1 n b_5 w_6 t11_7 t12_8 t13_9 t19_10 = plain_PutInts.l1 (j0_f73 m0 m1) n b_5 w_6 t11_7 t12_8 t13_9 t19_10 := by
  intro n
  induction n with
  | zero => intros; rfl
  | succ n ih =>
    intro b_5 w_6 t11_7 t12_8 t13_9 t19_10
    have e1 : (j1_f73 m0 m1 n) = (plain_PutInts.l1 (j0_f73 m0 m1) n) := by funext b_5 w_6 t11_7 t12_8 t13_9 t19_10; exact ih b_5 w_6 t11_7 t12_8 t13_9 t19_10
    refine (st_f73_j1 m0 m1 n b_5 w_6 t11_7 t12_8 t13_9 t19_10).trans ?_
    rw [e1]; rfl
theorem st_f73_j0 (m0 : Nat) (n : Nat) (b_1 : (List Int)) (t11_2 : (List Int)) (t12_3 : Int) (t13_4 : Int) : j0_f73 m0 (n + 1) b_1 t11_2 t12_3 t13_4 = plain_PutInts.S0 (j1_f73 m0 n n) b_1 t11_2 t12_3 t13_4 := by kernel_rfl
theorem J_f73_0 (m0 : Nat) : ∀ (n : Nat) (b_1 : (List Int)) (t11_2 : (List Int)) (t12_3 : Int) (t13_4 : Int), j0_f73 m0 n b_1 t11_2 t12_3 t13_4 = plain_PutInts.l0 n b_1 t11_2 t12_3 t13_4 := by
  intro n
  induction n with
  | zero => intros; rfl
  | succ n ih =>
    intro b_1 t11_2 t12_3 t13_4
    have e0 : (j0_f73 m0 n) = (plain_PutInts.l0 n) := by funext b_1 t11_2 t12_3 t13_4; exact ih b_1 t11_2 t12_3 t13_4
    have e1 : (j1_f73 m0 n n) = (plain_PutInts.l1 (plain_PutInts.l0 n) n) := by rw [← e0]; funext b_5 w_6 t11_7 t12_8 t13_9 t19_10; exact J_f73_1 m0 n n b_5 w_6 t11_7 t12_8 t13_9 t19_10
    refine (st_f73_j0 m0 n b_1 t11_2 t12_3 t13_4).trans ?_
    rw [e1]; rfl
theorem st_f73 (m0 : Nat) (l : (List Int)) : evC E_f73 (evJ E_f73 (drE E_f73) m0) (drE E_f73) b_f73 0 (st0 [.val (.sl (.int .i64))] (l, ())) (fin E_f73 [.tmp 2] [] R_f73) = plain_PutInts.S (j0_f73 m0 m0) l := by kernel_rfl
theorem ev_f73 (l : (List Int)) : evC E_f73 (evJ E_f73 (drE E_f73) fu) (drE E_f73) b_f73 0 (st0 [.val (.sl (.int .i64))] (l, ())) (fin E_f73 [.tmp 2] [] R_f73) = plain_PutInts l := by
  have e0 : (j0_f73 fu fu) = (plain_PutInts.l0 fu) := by funext b_1 t11_2 t12_3 t13_4; exact J_f73_0 fu fu b_1 t11_2 t12_3 t13_4
  refine (st_f73 fu l).trans ?_
  rw [e0]; rfl
@[reducible] def sp_f73   : AM.Spec := AM.spec [.val (.sl (.int .i64))] R_f73 (fun x => plain_PutInts x.1)
theorem c_f73 : Contract Tryz.prog 73 sp_f73 :=
  contract_of (Tab.envOk tabOk _ _) calls_f73 tabOk.mixed (fn := Tryz.f73) (c := b_f73) (ts := [.tmp 2]) (by kernel_rfl) (by kernel_rfl) (by kernel_rfl) (by decide) (by kernel_rfl) (by decide) rfl fun x _ h => ⟨fu, (ev_f73 x.1).trans h⟩
@[reducible] noncomputable def E_f75 : Env := tab.env (AM.look []) ⟨[(0, ⟨[(0, true), (3, true), (9, true), (10, true), (11, true)], [(3, true)]⟩)], [], [], ⟨[(2, true)], [(2, true), (3, true)]⟩, [2, 3, 27, 32, 33, 34, 44], [], [], []⟩
theorem calls_f75 : CallsOk Tryz.prog E_f75 := callsOk_of trivial
noncomputable def b_f75 : Code := (Tryz.f75.body).getD .skip
@[reducible] def R_f75 : List (Ty × List Tag) := [((.sl (.pair (.int .i64) (.pair (.int .i64) (.int .i64)))), [])]
noncomputable def sg_f75_0 (l_1 : (List Int)) (t9_2 : (List Int)) (t10_3 : Int) (t11_4 : Int) (out_5 : (List (Int × (Int × Int)))) : St := mk [(0, .dat (.sl (.int .i64)) l_1 []), (3, .slw 3 0), (9, .dat (.sl (.int .i64)) t9_2 []), (10, .dat (.int .i64) t10_3 []), (11, .dat (.int .i64) t11_4 [])] [(3, some (.arr (.pair (.int .i64) (.pair (.int .i64) (.int .i64))) out_5 false))]
noncomputable def q_f75_0 (m0 : Nat) : K (ResD R_f75) := fin E_f75 [.tmp 2] [] R_f75
noncomputable def cd_f75_1 : Code := (rgt (rgt (rgt (rgt b_f75))))
noncomputable def q_f75_1 (m0 : Nat) : K (ResD R_f75) := seqK E_f75 (evJ E_f75 (drE E_f75) m0) cd_f75_1 0 (evC E_f75 (evJ E_f75 (drE E_f75) m0) (drE E_f75) cd_f75_1 0) (q_f75_0 m0)
noncomputable def q_f75_2 (m0 : Nat) : K (ResD R_f75) := blockK 0 (q_f75_1 m0)
noncomputable def cd_f75_2 : Code := (lft (lft (rgt (lft (rgt (rgt (rgt b_f75)))))))
noncomputable def j0_f75 (m0 : Nat) (n : Nat) : (List Int) → (List Int) → Int → Int → (List (Int × (Int × Int))) → Option ((List (Int × (Int × Int)))) := fun l_1 t9_2 t10_3 t11_4 out_5 => evJ E_f75 (drE E_f75) n (.loop cd_f75_2) 0 (sg_f75_0 l_1 t9_2 t10_3 t11_4 out_5) (q_f75_2 m0)
theorem st_f75_j0 (m0 : Nat) (n : Nat) (l_1 : (List Int)) (t9_2 : (List Int)) (t10_3 : Int) (t11_4 : Int) (out_5 : (List (Int × (Int × Int)))) : j0_f75 m0 (n + 1) l_1 t9_2 t10_3 t11_4 out_5 = runs_Of.S0 (j0_f75 m0 n) l_1 t9_2 t10_3 t11_4 out_5 := by kernel_rfl
theorem J_f75_0 (m0 : Nat) : ∀ (n : Nat) (l_1 : (List Int)) (t9_2 : (List Int)) (t10_3 : Int) (t11_4 : Int) (out_5 : (List (Int × (Int × Int)))), j0_f75 m0 n l_1 t9_2 t10_3 t11_4 out_5 = runs_Of.l0 n l_1 t9_2 t10_3 t11_4 out_5 := by
  intro n
  induction n with
  | zero => intros; rfl
  | succ n ih =>
    intro l_1 t9_2 t10_3 t11_4 out_5
    have e0 : (j0_f75 m0 n) = (runs_Of.l0 n) := by funext l_1 t9_2 t10_3 t11_4 out_5; exact ih l_1 t9_2 t10_3 t11_4 out_5
    refine (st_f75_j0 m0 n l_1 t9_2 t10_3 t11_4 out_5).trans ?_
    rw [e0]; rfl
theorem st_f75 (m0 : Nat) (l : (List Int)) : evC E_f75 (evJ E_f75 (drE E_f75) m0) (drE E_f75) b_f75 0 (st0 [.val (.sl (.int .i64))] (l, ())) (fin E_f75 [.tmp 2] [] R_f75) = runs_Of.S (j0_f75 m0 m0) l := by kernel_rfl
theorem ev_f75 (l : (List Int)) : evC E_f75 (evJ E_f75 (drE E_f75) fu) (drE E_f75) b_f75 0 (st0 [.val (.sl (.int .i64))] (l, ())) (fin E_f75 [.tmp 2] [] R_f75) = runs_Of l := by
  have e0 : (j0_f75 fu fu) = (runs_Of.l0 fu) := by funext l_1 t9_2 t10_3 t11_4 out_5; exact J_f75_0 fu fu l_1 t9_2 t10_3 t11_4 out_5
  refine (st_f75 fu l).trans ?_
  rw [e0]; rfl
@[reducible] def sp_f75   : AM.Spec := AM.spec [.val (.sl (.int .i64))] R_f75 (fun x => runs_Of x.1)
theorem c_f75 : Contract Tryz.prog 75 sp_f75 :=
  contract_of (Tab.envOk tabOk _ _) calls_f75 tabOk.mixed (fn := Tryz.f75) (c := b_f75) (ts := [.tmp 2]) (by kernel_rfl) (by kernel_rfl) (by kernel_rfl) (by decide) (by kernel_rfl) (by decide) rfl fun x _ h => ⟨fu, (ev_f75 x.1).trans h⟩
@[reducible] noncomputable def E_f106 : Env := tab.env (AM.look []) ⟨[(0, ⟨[(0, true), (4, true), (7, true), (8, true), (9, true)], []⟩)], [], [], ⟨[(2, true), (3, true)], []⟩, [], [], [], []⟩
theorem calls_f106 : CallsOk Tryz.prog E_f106 := callsOk_of trivial
noncomputable def b_f106 : Code := (Tryz.f106.body).getD .skip
@[reducible] def R_f106 : List (Ty × List Tag) := [((.int .i64), []), (.bool, [])]
noncomputable def sg_f106_0 (l_1 : (List (Int × (Int × Int)))) (n_2 : Int) (t7_3 : (List (Int × (Int × Int)))) (t8_4 : Int) (t9_5 : Int) : St := mk [(0, .dat (.sl (.pair (.int .i64) (.pair (.int .i64) (.int .i64)))) l_1 []), (4, .dat (.int .i64) n_2 []), (7, .dat (.sl (.pair (.int .i64) (.pair (.int .i64) (.int .i64)))) t7_3 []), (8, .dat (.int .i64) t8_4 []), (9, .dat (.int .i64) t9_5 [])] []
noncomputable def q_f106_0 (m0 : Nat) : K (ResD R_f106) := fin E_f106 [.tmp 2, .tmp 3] [] R_f106
noncomputable def cd_f106_1 : Code := (rgt (rgt (rgt b_f106)))
noncomputable def q_f106_1 (m0 : Nat) : K (ResD R_f106) := seqK E_f106 (evJ E_f106 (drE E_f106) m0) cd_f106_1 0 (evC E_f106 (evJ E_f106 (drE E_f106) m0) (drE E_f106) cd_f106_1 0) (q_f106_0 m0)
noncomputable def q_f106_2 (m0 : Nat) : K (ResD R_f106) := blockK 0 (q_f106_1 m0)
noncomputable def cd_f106_2 : Code := (lft (lft (rgt (lft (rgt (rgt b_f106))))))
noncomputable def j0_f106 (m0 : Nat) (n : Nat) : (List (Int × (Int × Int))) → Int → (List (Int × (Int × Int))) → Int → Int → Option (Int × Bool) := fun l_1 n_2 t7_3 t8_4 t9_5 => evJ E_f106 (drE E_f106) n (.loop cd_f106_2) 0 (sg_f106_0 l_1 n_2 t7_3 t8_4 t9_5) (q_f106_2 m0)
theorem st_f106_j0 (m0 : Nat) (n : Nat) (l_1 : (List (Int × (Int × Int)))) (n_2 : Int) (t7_3 : (List (Int × (Int × Int)))) (t8_4 : Int) (t9_5 : Int) : j0_f106 m0 (n + 1) l_1 n_2 t7_3 t8_4 t9_5 = runs_count.S0 (j0_f106 m0 n) l_1 n_2 t7_3 t8_4 t9_5 := by kernel_rfl
theorem J_f106_0 (m0 : Nat) : ∀ (n : Nat) (l_1 : (List (Int × (Int × Int)))) (n_2 : Int) (t7_3 : (List (Int × (Int × Int)))) (t8_4 : Int) (t9_5 : Int), j0_f106 m0 n l_1 n_2 t7_3 t8_4 t9_5 = runs_count.l0 n l_1 n_2 t7_3 t8_4 t9_5 := by
  intro n
  induction n with
  | zero => intros; rfl
  | succ n ih =>
    intro l_1 n_2 t7_3 t8_4 t9_5
    have e0 : (j0_f106 m0 n) = (runs_count.l0 n) := by funext l_1 n_2 t7_3 t8_4 t9_5; exact ih l_1 n_2 t7_3 t8_4 t9_5
    refine (st_f106_j0 m0 n l_1 n_2 t7_3 t8_4 t9_5).trans ?_
    rw [e0]; rfl
theorem st_f106 (m0 : Nat) (l : (List (Int × (Int × Int)))) : evC E_f106 (evJ E_f106 (drE E_f106) m0) (drE E_f106) b_f106 0 (st0 [.val (.sl (.pair (.int .i64) (.pair (.int .i64) (.int .i64))))] (l, ())) (fin E_f106 [.tmp 2, .tmp 3] [] R_f106) = runs_count.S (j0_f106 m0 m0) l := by kernel_rfl
theorem ev_f106 (l : (List (Int × (Int × Int)))) : evC E_f106 (evJ E_f106 (drE E_f106) fu) (drE E_f106) b_f106 0 (st0 [.val (.sl (.pair (.int .i64) (.pair (.int .i64) (.int .i64))))] (l, ())) (fin E_f106 [.tmp 2, .tmp 3] [] R_f106) = runs_count l := by
  have e0 : (j0_f106 fu fu) = (runs_count.l0 fu) := by funext l_1 n_2 t7_3 t8_4 t9_5; exact J_f106_0 fu fu l_1 n_2 t7_3 t8_4 t9_5
  refine (st_f106 fu l).trans ?_
  rw [e0]; rfl
@[reducible] def sp_f106   : AM.Spec := AM.spec [.val (.sl (.pair (.int .i64) (.pair (.int .i64) (.int .i64))))] R_f106 (fun x => runs_count x.1)
theorem c_f106 : Contract Tryz.prog 106 sp_f106 :=
  contract_of (Tab.envOk tabOk _ _) calls_f106 tabOk.mixed (fn := Tryz.f106) (c := b_f106) (ts := [.tmp 2, .tmp 3]) (by kernel_rfl) (by kernel_rfl) (by kernel_rfl) (by decide) (by kernel_rfl) (by decide) rfl fun x _ h => ⟨fu, (ev_f106 x.1).trans h⟩
@[reducible] noncomputable def E_f118 : Env := tab.env (AM.look []) ⟨[], [], [], ⟨[(2, true)], []⟩, [], [], [], []⟩
theorem calls_f118 : CallsOk Tryz.prog E_f118 := callsOk_of trivial
noncomputable def b_f118 : Code := (Tryz.f118.body).getD .skip
@[reducible] def R_f118 : List (Ty × List Tag) := [((.int .i64), [])]
theorem st_f118 (m0 : Nat) (xn : Int) : evC E_f118 (evJ E_f118 (drE E_f118) m0) (drE E_f118) b_f118 0 (st0 [.val (.int .i64)] (xn, ())) (fin E_f118 [.tmp 2] [] R_f118) = some (bits_Zig xn) := by kernel_rfl
theorem ev_f118 (xn : Int) : evC E_f118 (evJ E_f118 (drE E_f118) fu) (drE E_f118) b_f118 0 (st0 [.val (.int .i64)] (xn, ())) (fin E_f118 [.tmp 2] [] R_f118) = some (bits_Zig xn) := st_f118 fu xn
@[reducible] def sp_f118   : AM.Spec := AM.spec [.val (.int .i64)] R_f118 (fun x => some (bits_Zig x.1))
theorem c_f118 : Contract Tryz.prog 118 sp_f118 :=
  contract_of (Tab.envOk tabOk _ _) calls_f118 tabOk.mixed (fn := Tryz.f118) (c := b_f118) (ts := [.tmp 2]) (by kernel_rfl) (by kernel_rfl) (by kernel_rfl) (by decide) (by kernel_rfl) (by decide) rfl fun x _ h => ⟨fu, (ev_f118 x.1).trans h⟩
@[reducible] noncomputable def E_f81 : Env := tab.env (AM.look [(118, sp_f118)]) ⟨[(0, ⟨[(3, true), (4, true), (5, true)], [(3, true)]⟩)], [], [(7, ⟨[(3, true), (4, true), (5, true)], [(3, true)]⟩)], ⟨[(2, true)], []⟩, [], [118], [], []⟩
theorem calls_f81 : CallsOk Tryz.prog E_f81 := callsOk_of ⟨⟨c_f118, Tryz.call118, fun _ => words_spec rfl⟩, trivial⟩
noncomputable def b_f81 : Code := (Tryz.f81.body).getD .skip
@[reducible] def R_f81 : List (Ty × List Tag) := [(.str, [])]
noncomputable def sg_f81_1 (w_5 : Int) (k_6 : Int) (out_7 : (List Int)) : St := mk [(3, .ptr 3 0 0), (4, .dat (.int .u64) w_5 []), (5, .dat (.int .i64) k_6 [])] [(3, some (.arr (.int .u8) out_7 false))]
noncomputable def sg_f81_0 (w_2 : Int) (k_3 : Int) (out_4 : (List Int)) : St := mk [(3, .ptr 3 0 0), (4, .dat (.int .u64) w_2 []), (5, .dat (.int .i64) k_3 [])] [(3, some (.arr (.int .u8) out_4 false))]
noncomputable def q_f81_0 (m0 : Nat) : K (ResD R_f81) := fin E_f81 [.tmp 2] [] R_f81
noncomputable def cd_f81_1 : Code := (rgt (rgt (rgt (rgt b_f81))))
noncomputable def j1_f81 (m0 : Nat) (n : Nat) : Int → Int → (List Int) → Option (ByteArray) := fun w_5 k_6 out_7 => evJ E_f81 (drE E_f81) n (.tail cd_f81_1) 0 (sg_f81_1 w_5 k_6 out_7) (q_f81_0 m0)
theorem st_f81_j1 (m0 : Nat) (n : Nat) (w_5 : Int) (k_6 : Int) (out_7 : (List Int)) : j1_f81 m0 (n + 1) w_5 k_6 out_7 = vint_Put.S1 w_5 k_6 out_7 := by kernel_rfl
theorem J_f81_1 (m0 : Nat) : ∀ (n : Nat) (w_5 : Int) (k_6 : Int) (out_7 : (List Int)), j1_f81 m0 n w_5 k_6 out_7 = vint_Put.t1 n w_5 k_6 out_7 := by
  intro n
  induction n with
  | zero => intros; rfl
  | succ n ih =>
    intro w_5 k_6 out_7
    have e1 : (j1_f81 m0 n) = (vint_Put.t1 n) := by funext w_5 k_6 out_7; exact ih w_5 k_6 out_7
    refine (st_f81_j1 m0 n w_5 k_6 out_7).trans ?_
    rfl
noncomputable def q_f81_1 (m0 : Nat) : K (ResD R_f81) := seqK E_f81 (evJ E_f81 (drE E_f81) m0) cd_f81_1 0 (evC E_f81 (evJ E_f81 (drE E_f81) m0) (drE E_f81) cd_f81_1 0) (q_f81_0 m0)
noncomputable def q_f81_2 (m0 : Nat) : K (ResD R_f81) := blockK 0 (q_f81_1 m0)
noncomputable def cd_f81_2 : Code := (lft (lft (lft (rgt (rgt (rgt b_f81))))))
noncomputable def j0_f81 (m0 : Nat) (n : Nat) : Int → Int → (List Int) → Option (ByteArray) := fun w_2 k_3 out_4 => evJ E_f81 (drE E_f81) n (.loop cd_f81_2) 0 (sg_f81_0 w_2 k_3 out_4) (q_f81_2 m0)
theorem st_f81_j0 (m0 : Nat) (n : Nat) (w_2 : Int) (k_3 : Int) (out_4 : (List Int)) : j0_f81 m0 (n + 1) w_2 k_3 out_4 = vint_Put.S0 (j1_f81 m0 m0) (j0_f81 m0 n) w_2 k_3 out_4 := by kernel_rfl
theorem J_f81_0 (m0 : Nat) : ∀ (n : Nat) (w_2 : Int) (k_3 : Int) (out_4 : (List Int)), j0_f81 m0 n w_2 k_3 out_4 = vint_Put.l0 (j1_f81 m0 m0) n w_2 k_3 out_4 := by
  intro n
  induction n with
  | zero => intros; rfl
  | succ n ih =>
    intro w_2 k_3 out_4
    have e0 : (j0_f81 m0 n) = (vint_Put.l0 (j1_f81 m0 m0) n) := by funext w_2 k_3 out_4; exact ih w_2 k_3 out_4
    refine (st_f81_j0 m0 n w_2 k_3 out_4).trans ?_
    rw [e0]; rfl
theorem st_f81 (m0 : Nat) (xn : Int) : evC E_f81 (evJ E_f81 (drE E_f81) m0) (drE E_f81) b_f81 0 (st0 [.val (.int .i64)] (xn, ())) (fin E_f81 [.tmp 2] [] R_f81) = vint_Put.S (j0_f81 m0 m0) xn := by kernel_rfl
theorem ev_f81 (xn : Int) : evC E_f81 (evJ E_f81 (drE E_f81) fu) (drE E_f81) b_f81 0 (st0 [.val (.int .i64)] (xn, ())) (fin E_f81 [.tmp 2] [] R_f81) = vint_Put xn := by
  have e1 : (j1_f81 fu fu) = (vint_Put.t1 fu) := by funext w_5 k_6 out_7; exact J_f81_1 fu fu w_5 k_6 out_7
  have e0 : (j0_f81 fu fu) = (vint_Put.l0 (vint_Put.t1 fu) fu) := by rw [← e1]; funext w_2 k_3 out_4; exact J_f81_0 fu fu w_2 k_3 out_4
  refine (st_f81 fu xn).trans ?_
  rw [e0]; rfl
@[reducible] def sp_f81   : AM.Spec := AM.spec [.val (.int .i64)] R_f81 (fun x => vint_Put x.1)
theorem c_f81 : Contract Tryz.prog 81 sp_f81 :=
  contract_of (Tab.envOk tabOk _ _) calls_f81 tabOk.mixed (fn := Tryz.f81) (c := b_f81) (ts := [.tmp 2]) (by kernel_rfl) (by kernel_rfl) (by kernel_rfl) (by decide) (by kernel_rfl) (by decide) rfl fun x _ h => ⟨fu, (ev_f81 x.1).trans h⟩
@[reducible] noncomputable def E_f107 : Env := tab.env (AM.look [(138, sp_bld_check)]) ⟨[], [], [], ⟨[(4, true), (5, true)], [(1000000, true)]⟩, [], [], [], []⟩
theorem calls_f107 : CallsOk Tryz.prog E_f107 := callsOk_of ⟨⟨c_bld_check, Tryz.call138, fun h => nomatch (show false = true from h)⟩, trivial⟩
noncomputable def b_f107 : Code := (Tryz.f107.body).getD .skip
@[reducible] def R_f107 : List (Ty × List Tag) := [((.int .i64), []), ((.lk true), []), ((.pair (.lk false) (.sl (.int .u8))), [⟨1, 1, 0, 0⟩])]
theorem st_f107 (m0 : Nat) (b : (Bool × (List Int))) (s : ByteArray) : evC E_f107 (evJ E_f107 (drE E_f107) m0) (drE E_f107) b_f107 0 (st0 [.io (.pair (.lk false) (.sl (.int .u8))) [(1, 0)], .val .str] (b, s, ())) (fin E_f107 [.tmp 4, .tmp 5] [.io (.pair (.lk false) (.sl (.int .u8))) [(1, 0)]] R_f107) = strings_Builder_WriteString_w1 b s := by kernel_rfl
theorem ev_f107 (b : (Bool × (List Int))) (s : ByteArray) : evC E_f107 (evJ E_f107 (drE E_f107) fu) (drE E_f107) b_f107 0 (st0 [.io (.pair (.lk false) (.sl (.int .u8))) [(1, 0)], .val .str] (b, s, ())) (fin E_f107 [.tmp 4, .tmp 5] [.io (.pair (.lk false) (.sl (.int .u8))) [(1, 0)]] R_f107) = strings_Builder_WriteString_w1 b s := st_f107 fu b s
@[reducible] def sp_f107   : AM.Spec := AM.specIo 2 [.io (.pair (.lk false) (.sl (.int .u8))) [(1, 0)], .val .str] R_f107 (fun x => strings_Builder_WriteString_w1 x.1 x.2.1)
theorem c_f107 : Contract Tryz.prog 107 sp_f107 :=
  contract_io (Tab.envOk tabOk _ _) calls_f107 tabOk.mixed (fn := Tryz.f107) (c := b_f107) (ts := [.tmp 4, .tmp 5]) (by kernel_rfl) (by kernel_rfl) (by kernel_rfl) (by decide) (by kernel_rfl) (by decide) fun x _ h => ⟨fu, (ev_f107 x.1 x.2.1).trans h⟩
@[reducible] noncomputable def E_f74 : Env := tab.env (AM.look [(106, sp_f106), (81, sp_f81), (107, sp_f107), (108, sp_bld_String)]) ⟨[(0, ⟨[(6, true), (16, true), (17, true), (18, true)], [(6, true)]⟩)], [], [], ⟨[(2, true), (3, true)], []⟩, [], [81, 106], [], []⟩
theorem calls_f74 : CallsOk Tryz.prog E_f74 := callsOk_of ⟨⟨c_f106, Tryz.call106, fun _ => words_spec rfl⟩, ⟨⟨c_f81, Tryz.call81, fun _ => words_spec rfl⟩, ⟨⟨c_f107, Tryz.call107, fun h => nomatch (show false = true from h)⟩, ⟨⟨c_bld_String, Tryz.call108, fun h => nomatch (show false = true from h)⟩, trivial⟩⟩⟩⟩
noncomputable def b_f74 : Code := (Tryz.f74.body).getD .skip
@[reducible] def R_f74 : List (Ty × List Tag) := [(.str, []), ((.int .i64), [])]
noncomputable def sg_f74_0 (t16_2 : (List (Int × (Int × Int)))) (t17_3 : Int) (t18_4 : Int) (b_5 : (Bool × (List Int))) : St := mk [(6, .ptr 6 0 0), (16, .dat (.sl (.pair (.int .i64) (.pair (.int .i64) (.int .i64)))) t16_2 []), (17, .dat (.int .i64) t17_3 []), (18, .dat (.int .i64) t18_4 [])] [(6, some (.var (.pair (.lk false) (.sl (.int .u8))) b_5 [⟨1, 64386, 0, 0⟩]))]
noncomputable def q_f74_0 (m0 : Nat) : K (ResD R_f74) := fin E_f74 [.tmp 2, .tmp 3] [] R_f74
noncomputable def cd_f74_1 : Code := (rgt (rgt (rgt (rgt b_f74))))
noncomputable def q_f74_1 (m0 : Nat) : K (ResD R_f74) := seqK E_f74 (evJ E_f74 (drE E_f74) m0) cd_f74_1 0 (evC E_f74 (evJ E_f74 (drE E_f74) m0) (drE E_f74) cd_f74_1 0) (q_f74_0 m0)
noncomputable def q_f74_2 (m0 : Nat) : K (ResD R_f74) := blockK 0 (q_f74_1 m0)
noncomputable def cd_f74_2 : Code := (lft (lft (rgt (lft (rgt (rgt (rgt b_f74)))))))
noncomputable def j0_f74 (m0 : Nat) (n : Nat) : (List (Int × (Int × Int))) → Int → Int → (Bool × (List Int)) → Option (ByteArray × Int) := fun t16_2 t17_3 t18_4 b_5 => evJ E_f74 (drE E_f74) n (.loop cd_f74_2) 0 (sg_f74_0 t16_2 t17_3 t18_4 b_5) (q_f74_2 m0)
theorem st_f74_j0 (m0 : Nat) (n : Nat) (t16_2 : (List (Int × (Int × Int)))) (t17_3 : Int) (t18_4 : Int) (b_5 : (Bool × (List Int))) : j0_f74 m0 (n + 1) t16_2 t17_3 t18_4 b_5 = runs_Put.S0 (j0_f74 m0 n) t16_2 t17_3 t18_4 b_5 := by kernel_rfl
theorem J_f74_0 (m0 : Nat) : ∀ (n : Nat) (t16_2 : (List (Int × (Int × Int)))) (t17_3 : Int) (t18_4 : Int) (b_5 : (Bool × (List Int))), j0_f74 m0 n t16_2 t17_3 t18_4 b_5 = runs_Put.l0 n t16_2 t17_3 t18_4 b_5 := by
  intro n
  induction n with
  | zero => intros; rfl
  | succ n ih =>
    intro t16_2 t17_3 t18_4 b_5
    have e0 : (j0_f74 m0 n) = (runs_Put.l0 n) := by funext t16_2 t17_3 t18_4 b_5; exact ih t16_2 t17_3 t18_4 b_5
    refine (st_f74_j0 m0 n t16_2 t17_3 t18_4 b_5).trans ?_
    rw [e0]; rfl
theorem st_f74 (m0 : Nat) (l : (List (Int × (Int × Int)))) : evC E_f74 (evJ E_f74 (drE E_f74) m0) (drE E_f74) b_f74 0 (st0 [.val (.sl (.pair (.int .i64) (.pair (.int .i64) (.int .i64))))] (l, ())) (fin E_f74 [.tmp 2, .tmp 3] [] R_f74) = runs_Put.S (j0_f74 m0 m0) l := by kernel_rfl
theorem ev_f74 (l : (List (Int × (Int × Int)))) : evC E_f74 (evJ E_f74 (drE E_f74) fu) (drE E_f74) b_f74 0 (st0 [.val (.sl (.pair (.int .i64) (.pair (.int .i64) (.int .i64))))] (l, ())) (fin E_f74 [.tmp 2, .tmp 3] [] R_f74) = runs_Put l := by
  have e0 : (j0_f74 fu fu) = (runs_Put.l0 fu) := by funext t16_2 t17_3 t18_4 b_5; exact J_f74_0 fu fu t16_2 t17_3 t18_4 b_5
  refine (st_f74 fu l).trans ?_
  rw [e0]; rfl
@[reducible] def sp_f74   : AM.Spec := AM.spec [.val (.sl (.pair (.int .i64) (.pair (.int .i64) (.int .i64))))] R_f74 (fun x => runs_Put x.1)
theorem c_f74 : Contract Tryz.prog 74 sp_f74 :=
  contract_of (Tab.envOk tabOk _ _) calls_f74 tabOk.mixed (fn := Tryz.f74) (c := b_f74) (ts := [.tmp 2, .tmp 3]) (by kernel_rfl) (by kernel_rfl) (by kernel_rfl) (by decide) (by kernel_rfl) (by decide) rfl fun x _ h => ⟨fu, (ev_f74 x.1).trans h⟩
@[reducible] noncomputable def E_f139 : Env := tab.env (AM.look []) ⟨[], [], [], ⟨[(4, true)], []⟩, [], [], [], []⟩
theorem calls_f139 : CallsOk Tryz.prog E_f139 := callsOk_of trivial
noncomputable def b_f139 : Code := (Tryz.f139.body).getD .skip
@[reducible] def R_f139 : List (Ty × List Tag) := [((.int .i64), [])]
theorem st_f139 (m0 : Nat) (xfrom : Int) (xto : Int) : evC E_f139 (evJ E_f139 (drE E_f139) m0) (drE E_f139) b_f139 0 (st0 [.val (.int .i64), .val (.int .i64)] (xfrom, xto, ())) (fin E_f139 [.tmp 4] [] R_f139) = some (frame_far xfrom xto) := by kernel_rfl
theorem ev_f139 (xfrom : Int) (xto : Int) : evC E_f139 (evJ E_f139 (drE E_f139) fu) (drE E_f139) b_f139 0 (st0 [.val (.int .i64), .val (.int .i64)] (xfrom, xto, ())) (fin E_f139 [.tmp 4] [] R_f139) = some (frame_far xfrom xto) := st_f139 fu xfrom xto
@[reducible] def sp_f139   : AM.Spec := AM.spec [.val (.int .i64), .val (.int .i64)] R_f139 (fun x => some (frame_far x.1 x.2.1))
theorem c_f139 : Contract Tryz.prog 139 sp_f139 :=
  contract_of (Tab.envOk tabOk _ _) calls_f139 tabOk.mixed (fn := Tryz.f139) (c := b_f139) (ts := [.tmp 4]) (by kernel_rfl) (by kernel_rfl) (by kernel_rfl) (by decide) (by kernel_rfl) (by decide) rfl fun x _ h => ⟨fu, (ev_f139 x.1 x.2.1).trans h⟩
@[reducible] noncomputable def E_f140 : Env := tab.env (AM.look []) ⟨[(0, ⟨[(0, true), (3, true), (4, true)], []⟩)], [], [(3, ⟨[(0, true)], []⟩)], ⟨[(2, true)], []⟩, [], [], [], []⟩
theorem calls_f140 : CallsOk Tryz.prog E_f140 := callsOk_of trivial
noncomputable def b_f140 : Code := (Tryz.f140.body).getD .skip
@[reducible] def R_f140 : List (Ty × List Tag) := [((.int .i64), [])]
noncomputable def sg_f140_1 (x_2 : (List Int)) (m_3 : Int) (i_4 : Int) : St := mk [(0, .dat (.sl (.int .i64)) x_2 []), (3, .dat (.int .i64) m_3 []), (4, .dat (.int .i64) i_4 [])] []
noncomputable def sg_f140_0 (x_1 : (List Int)) : St := mk [(0, .dat (.sl (.int .i64)) x_1 [])] []
noncomputable def q_f140_0 (m0 : Nat) : K (ResD R_f140) := fin E_f140 [.tmp 2] [] R_f140
noncomputable def cd_f140_1 : Code := (rgt (rgt (rgt (rgt b_f140))))
noncomputable def q_f140_1 (m0 : Nat) (m1 : Nat) : K (ResD R_f140) := seqK E_f140 (evJ E_f140 (drE E_f140) m1) cd_f140_1 0 (evC E_f140 (evJ E_f140 (drE E_f140) m1) (drE E_f140) cd_f140_1 0) (q_f140_0 m0)
noncomputable def q_f140_2 (m0 : Nat) (m1 : Nat) : K (ResD R_f140) := blockK 0 (q_f140_1 m0 m1)
noncomputable def cd_f140_2 : Code := (lft (lft (rgt (lft (rgt (rgt (rgt b_f140)))))))
noncomputable def j1_f140 (m0 : Nat) (m1 : Nat) (n : Nat) : (List Int) → Int → Int → Option (Int) := fun x_2 m_3 i_4 => evJ E_f140 (drE E_f140) n (.loop cd_f140_2) 0 (sg_f140_1 x_2 m_3 i_4) (q_f140_2 m0 m1)
theorem st_f140_j1 (m0 : Nat) (m1 : Nat) (n : Nat) (x_2 : (List Int)) (m_3 : Int) (i_4 : Int) : j1_f140 m0 m1 (n + 1) x_2 m_3 i_4 = slices_Min_int_int.S1 (j1_f140 m0 m1 n) x_2 m_3 i_4 := by kernel_rfl
theorem J_f140_1 (m0 : Nat) (m1 : Nat) : ∀ (n : Nat) (x_2 : (List Int)) (m_3 : Int) (i_4 : Int), j1_f140 m0 m1 n x_2 m_3 i_4 = slices_Min_int_int.l1 n x_2 m_3 i_4 := by
  intro n
  induction n with
  | zero => intros; rfl
  | succ n ih =>
    intro x_2 m_3 i_4
    have e1 : (j1_f140 m0 m1 n) = (slices_Min_int_int.l1 n) := by funext x_2 m_3 i_4; exact ih x_2 m_3 i_4
    refine (st_f140_j1 m0 m1 n x_2 m_3 i_4).trans ?_
    rw [e1]; rfl
noncomputable def cd_f140_3 : Code := (rgt (rgt b_f140))
noncomputable def j0_f140 (m0 : Nat) (n : Nat) : (List Int) → Option (Int) := fun x_1 => evJ E_f140 (drE E_f140) n (.tail cd_f140_3) 0 (sg_f140_0 x_1) (q_f140_0 m0)
theorem st_f140_j0 (m0 : Nat) (n : Nat) (x_1 : (List Int)) : j0_f140 m0 (n + 1) x_1 = slices_Min_int_int.S0 (j1_f140 m0 n n) x_1 := by kernel_rfl
theorem J_f140_0 (m0 : Nat) : ∀ (n : Nat) (x_1 : (List Int)), j0_f140 m0 n x_1 = slices_Min_int_int.t0 n x_1 := by
  intro n
  induction n with
  | zero => intros; rfl
  | succ n ih =>
    intro x_1
    have e0 : (j0_f140 m0 n) = (slices_Min_int_int.t0 n) := by funext x_1; exact ih x_1
    have e1 : (j1_f140 m0 n n) = (slices_Min_int_int.l1 n) := by funext x_2 m_3 i_4; exact J_f140_1 m0 n n x_2 m_3 i_4
    refine (st_f140_j0 m0 n x_1).trans ?_
    rw [e1]; rfl
theorem st_f140 (m0 : Nat) (x : (List Int)) : evC E_f140 (evJ E_f140 (drE E_f140) m0) (drE E_f140) b_f140 0 (st0 [.val (.sl (.int .i64))] (x, ())) (fin E_f140 [.tmp 2] [] R_f140) = slices_Min_int_int.S (j0_f140 m0 m0) x := by kernel_rfl
theorem ev_f140 (x : (List Int)) : evC E_f140 (evJ E_f140 (drE E_f140) fu) (drE E_f140) b_f140 0 (st0 [.val (.sl (.int .i64))] (x, ())) (fin E_f140 [.tmp 2] [] R_f140) = slices_Min_int_int x := by
  have e0 : (j0_f140 fu fu) = (slices_Min_int_int.t0 fu) := by funext x_1; exact J_f140_0 fu fu x_1
  refine (st_f140 fu x).trans ?_
  rw [e0]; rfl
@[reducible] def sp_f140   : AM.Spec := AM.spec [.val (.sl (.int .i64))] R_f140 (fun x => slices_Min_int_int x.1)
theorem c_f140 : Contract Tryz.prog 140 sp_f140 :=
  contract_of (Tab.envOk tabOk _ _) calls_f140 tabOk.mixed (fn := Tryz.f140) (c := b_f140) (ts := [.tmp 2]) (by kernel_rfl) (by kernel_rfl) (by kernel_rfl) (by decide) (by kernel_rfl) (by decide) rfl fun x _ h => ⟨fu, (ev_f140 x.1).trans h⟩
@[reducible] noncomputable def E_f109 : Env := tab.env (AM.look [(139, sp_f139), (140, sp_f140)]) ⟨[(0, ⟨[(0, true), (4, true), (5, true)], [(10, true)]⟩), (2, ⟨[(4, true), (6, true), (33, true), (34, true)], [(10, true)]⟩)], [], [(6, ⟨[(4, true)], [(10, true)]⟩)], ⟨[(2, true), (3, true)], [(10, true)]⟩, [2, 4, 10, 17, 29, 30, 32, 37, 40, 47], [139, 140], [], [28]⟩
theorem calls_f109 : CallsOk Tryz.prog E_f109 := callsOk_of ⟨⟨c_f139, Tryz.call139, fun _ => words_spec rfl⟩, ⟨⟨c_f140, Tryz.call140, fun _ => words_spec rfl⟩, trivial⟩⟩
noncomputable def b_f109 : Code := (Tryz.f109.body).getD .skip
@[reducible] def R_f109 : List (Ty × List Tag) := [((.sl (.int .i64)), []), ((.int .i64), [])]
noncomputable def sg_f109_2 (least_7 : Int) (t33_8 : Int) (t34_9 : Int) (t10_10 : (List Int)) : St := mk [(4, .slw 10 0), (6, .dat (.int .i64) least_7 []), (33, .dat (.int .i64) t33_8 []), (34, .dat (.int .i64) t34_9 [])] [(10, some (.arr (.int .i64) t10_10 false))]
noncomputable def sg_f109_1 (t10_5 : (List Int)) : St := mk [(4, .slw 10 0)] [(10, some (.arr (.int .i64) t10_5 false))]
noncomputable def sg_f109_0 (l_1 : (List Int)) (k_2 : Int) (t10_3 : (List Int)) : St := mk [(0, .dat (.sl (.int .i64)) l_1 []), (4, .slw 10 0), (5, .dat (.int .i64) k_2 [])] [(10, some (.arr (.int .i64) t10_3 false))]
noncomputable def q_f109_0 (m0 : Nat) : K (ResD R_f109) := fin E_f109 [.tmp 2, .tmp 3] [] R_f109
noncomputable def cd_f109_1 : Code := (rgt (rgt (rgt (rgt (rgt b_f109)))))
noncomputable def q_f109_1 (m0 : Nat) (m1 : Nat) : K (ResD R_f109) := seqK E_f109 (evJ E_f109 (drE E_f109) m1) cd_f109_1 0 (evC E_f109 (evJ E_f109 (drE E_f109) m1) (drE E_f109) cd_f109_1 0) (q_f109_0 m0)
noncomputable def q_f109_2 (m0 : Nat) (m1 : Nat) : K (ResD R_f109) := blockK 2 (q_f109_1 m0 m1)
noncomputable def cd_f109_2 : Code := (lft (lft (rgt (lft (rgt (rgt (rgt (rgt b_f109))))))))
noncomputable def j2_f109 (m0 : Nat) (m1 : Nat) (n : Nat) : Int → Int → Int → (List Int) → Option ((List Int) × Int) := fun least_7 t33_8 t34_9 t10_10 => evJ E_f109 (drE E_f109) n (.loop cd_f109_2) 2 (sg_f109_2 least_7 t33_8 t34_9 t10_10) (q_f109_2 m0 m1)
theorem st_f109_j2 (m0 : Nat) (m1 : Nat) (n : Nat) (least_7 : Int) (t33_8 : Int) (t34_9 : Int) (t10_10 : (List Int)) : j2_f109 m0 m1 (n + 1) least_7 t33_8 t34_9 t10_10 = frame_steps.S2 (j2_f109 m0 m1 n) least_7 t33_8 t34_9 t10_10 := by kernel_rfl
theorem J_f109_2 (m0 : Nat) (m1 : Nat) : ∀ (n : Nat) (least_7 : Int) (t33_8 : Int) (t34_9 : Int) (t10_10 : (List Int)), j2_f109 m0 m1 n least_7 t33_8 t34_9 t10_10 = frame_steps.l2 n least_7 t33_8 t34_9 t10_10 := by
  intro n
  induction n with
  | zero => intros; rfl
  | succ n ih =>
    intro least_7 t33_8 t34_9 t10_10
    have e2 : (j2_f109 m0 m1 n) = (frame_steps.l2 n) := by funext least_7 t33_8 t34_9 t10_10; exact ih least_7 t33_8 t34_9 t10_10
    refine (st_f109_j2 m0 m1 n least_7 t33_8 t34_9 t10_10).trans ?_
    rw [e2]; rfl
noncomputable def cd_f109_3 : Code := (rgt (rgt (rgt b_f109)))
noncomputable def j1_f109 (m0 : Nat) (n : Nat) : (List Int) → Option ((List Int) × Int) := fun t10_5 => evJ E_f109 (drE E_f109) n (.tail cd_f109_3) 0 (sg_f109_1 t10_5) (q_f109_0 m0)
theorem st_f109_j1 (m0 : Nat) (n : Nat) (t10_5 : (List Int)) : j1_f109 m0 (n + 1) t10_5 = frame_steps.S1 (j2_f109 m0 n n) t10_5 := by kernel_rfl
theorem J_f109_1 (m0 : Nat) : ∀ (n : Nat) (t10_5 : (List Int)), j1_f109 m0 n t10_5 = frame_steps.t1 n t10_5 := by
  intro n
  induction n with
  | zero => intros; rfl
  | succ n ih =>
    intro t10_5
    have e1 : (j1_f109 m0 n) = (frame_steps.t1 n) := by funext t10_5; exact ih t10_5
    have e2 : (j2_f109 m0 n n) = (frame_steps.l2 n) := by funext least_7 t33_8 t34_9 t10_10; exact J_f109_2 m0 n n least_7 t33_8 t34_9 t10_10
    refine (st_f109_j1 m0 n t10_5).trans ?_
    rw [e2]; rfl
noncomputable def q_f109_3 (m0 : Nat) : K (ResD R_f109) := seqK E_f109 (evJ E_f109 (drE E_f109) m0) cd_f109_3 0 (evC E_f109 (evJ E_f109 (drE E_f109) m0) (drE E_f109) cd_f109_3 0) (q_f109_0 m0)
noncomputable def q_f109_4 (m0 : Nat) : K (ResD R_f109) := blockK 0 (q_f109_3 m0)
noncomputable def cd_f109_4 : Code := (lft (lft (rgt (lft (rgt (rgt b_f109))))))
noncomputable def j0_f109 (m0 : Nat) (n : Nat) : (List Int) → Int → (List Int) → Option ((List Int) × Int) := fun l_1 k_2 t10_3 => evJ E_f109 (drE E_f109) n (.loop cd_f109_4) 0 (sg_f109_0 l_1 k_2 t10_3) (q_f109_4 m0)
theorem st_f109_j0 (m0 : Nat) (n : Nat) (l_1 : (List Int)) (k_2 : Int) (t10_3 : (List Int)) : j0_f109 m0 (n + 1) l_1 k_2 t10_3 = frame_steps.S0 (j1_f109 m0 m0) (j0_f109 m0 n) l_1 k_2 t10_3 := by kernel_rfl
theorem J_f109_0 (m0 : Nat) : ∀ (n : Nat) (l_1 : (List Int)) (k_2 : Int) (t10_3 : (List Int)), j0_f109 m0 n l_1 k_2 t10_3 = frame_steps.l0 (j1_f109 m0 m0) n l_1 k_2 t10_3 := by
  intro n
  induction n with
  | zero => intros; rfl
  | succ n ih =>
    intro l_1 k_2 t10_3
    have e0 : (j0_f109 m0 n) = (frame_steps.l0 (j1_f109 m0 m0) n) := by funext l_1 k_2 t10_3; exact ih l_1 k_2 t10_3
    refine (st_f109_j0 m0 n l_1 k_2 t10_3).trans ?_
    rw [e0]; rfl
theorem st_f109 (m0 : Nat) (l : (List Int)) : evC E_f109 (evJ E_f109 (drE E_f109) m0) (drE E_f109) b_f109 0 (st0 [.val (.sl (.int .i64))] (l, ())) (fin E_f109 [.tmp 2, .tmp 3] [] R_f109) = frame_steps.S (j0_f109 m0 m0) l := by kernel_rfl
theorem ev_f109 (l : (List Int)) : evC E_f109 (evJ E_f109 (drE E_f109) fu) (drE E_f109) b_f109 0 (st0 [.val (.sl (.int .i64))] (l, ())) (fin E_f109 [.tmp 2, .tmp 3] [] R_f109) = frame_steps l := by
  have e1 : (j1_f109 fu fu) = (frame_steps.t1 fu) := by funext t10_5; exact J_f109_1 fu fu t10_5
  have e0 : (j0_f109 fu fu) = (frame_steps.l0 (frame_steps.t1 fu) fu) := by rw [← e1]; funext l_1 k_2 t10_3; exact J_f109_0 fu fu l_1 k_2 t10_3
  refine (st_f109 fu l).trans ?_
  rw [e0]; rfl
@[reducible] def sp_f109   : AM.Spec := AM.spec [.val (.sl (.int .i64))] R_f109 (fun x => frame_steps x.1)
theorem c_f109 : Contract Tryz.prog 109 sp_f109 :=
  contract_of (Tab.envOk tabOk _ _) calls_f109 tabOk.mixed (fn := Tryz.f109) (c := b_f109) (ts := [.tmp 2, .tmp 3]) (by kernel_rfl) (by kernel_rfl) (by kernel_rfl) (by decide) (by kernel_rfl) (by decide) rfl fun x _ h => ⟨fu, (ev_f109 x.1).trans h⟩
@[reducible] noncomputable def E_f76 : Env := tab.env (AM.look [(81, sp_f81), (109, sp_f109), (70, sp_f70), (44, sp_f44)]) ⟨[], [], [], ⟨[(2, true), (3, true)], []⟩, [], [44, 70, 81], [], [47]⟩
theorem calls_f76 : CallsOk Tryz.prog E_f76 := callsOk_of ⟨⟨c_f81, Tryz.call81, fun _ => words_spec rfl⟩, ⟨⟨c_f109, Tryz.call109, fun h => nomatch (show false = true from h)⟩, ⟨⟨c_f70, Tryz.call70, fun _ => words_spec rfl⟩, ⟨⟨c_f44, Tryz.call44, fun _ => words_spec rfl⟩, trivial⟩⟩⟩⟩
noncomputable def b_f76 : Code := (Tryz.f76.body).getD .skip
@[reducible] def R_f76 : List (Ty × List Tag) := [(.str, []), ((.int .i64), [])]
theorem st_f76 (m0 : Nat) (l : (List Int)) : evC E_f76 (evJ E_f76 (drE E_f76) m0) (drE E_f76) b_f76 0 (st0 [.val (.sl (.int .i64))] (l, ())) (fin E_f76 [.tmp 2, .tmp 3] [] R_f76) = frame_Put l := by kernel_rfl
theorem ev_f76 (l : (List Int)) : evC E_f76 (evJ E_f76 (drE E_f76) fu) (drE E_f76) b_f76 0 (st0 [.val (.sl (.int .i64))] (l, ())) (fin E_f76 [.tmp 2, .tmp 3] [] R_f76) = frame_Put l := st_f76 fu l
@[reducible] def sp_f76   : AM.Spec := AM.spec [.val (.sl (.int .i64))] R_f76 (fun x => frame_Put x.1)
theorem c_f76 : Contract Tryz.prog 76 sp_f76 :=
  contract_of (Tab.envOk tabOk _ _) calls_f76 tabOk.mixed (fn := Tryz.f76) (c := b_f76) (ts := [.tmp 2, .tmp 3]) (by kernel_rfl) (by kernel_rfl) (by kernel_rfl) (by decide) (by kernel_rfl) (by decide) rfl fun x _ h => ⟨fu, (ev_f76 x.1).trans h⟩
@[reducible] noncomputable def E_f200 : Env := tab.env (AM.look []) ⟨[], [], [], ⟨[(2, true)], []⟩, [], [], [], []⟩
theorem calls_f200 : CallsOk Tryz.prog E_f200 := callsOk_of trivial
noncomputable def b_f200 : Code := (Tryz.f200.body).getD .skip
@[reducible] def R_f200 : List (Ty × List Tag) := [(.bool, [])]
theorem st_f200 (m0 : Nat) (x : Int) : evC E_f200 (evJ E_f200 (drE E_f200) m0) (drE E_f200) b_f200 0 (st0 [.val (.int .i64)] (x, ())) (fin E_f200 [.tmp 2] [] R_f200) = some (cmp_isNaN_int x) := by kernel_rfl
theorem ev_f200 (x : Int) : evC E_f200 (evJ E_f200 (drE E_f200) fu) (drE E_f200) b_f200 0 (st0 [.val (.int .i64)] (x, ())) (fin E_f200 [.tmp 2] [] R_f200) = some (cmp_isNaN_int x) := st_f200 fu x
@[reducible] def sp_f200   : AM.Spec := AM.spec [.val (.int .i64)] R_f200 (fun x => some (cmp_isNaN_int x.1))
theorem c_f200 : Contract Tryz.prog 200 sp_f200 :=
  contract_of (Tab.envOk tabOk _ _) calls_f200 tabOk.mixed (fn := Tryz.f200) (c := b_f200) (ts := [.tmp 2]) (by kernel_rfl) (by kernel_rfl) (by kernel_rfl) (by decide) (by kernel_rfl) (by decide) rfl fun x _ h => ⟨fu, (ev_f200 x.1).trans h⟩
@[reducible] noncomputable def E_f182 : Env := tab.env (AM.look [(200, sp_f200)]) ⟨[], [], [], ⟨[(4, true)], []⟩, [], [200], [], []⟩
theorem calls_f182 : CallsOk Tryz.prog E_f182 := callsOk_of ⟨⟨c_f200, Tryz.call200, fun _ => words_spec rfl⟩, trivial⟩
noncomputable def b_f182 : Code := (Tryz.f182.body).getD .skip
@[reducible] def R_f182 : List (Ty × List Tag) := [(.bool, [])]
theorem st_f182_o (m0 : Nat) (x : Int) (y : Int) : evC E_f182 (evJ E_f182 (drE E_f182) m0) (drE E_f182) b_f182 0 (st0 [.val (.int .i64), .val (.int .i64)] (x, y, ())) (fin E_f182 [.tmp 4] [] R_f182) = cmp_Less_int.o x y := by kernel_rfl
theorem st_f182 (m0 : Nat) (x : Int) (y : Int) : evC E_f182 (evJ E_f182 (drE E_f182) m0) (drE E_f182) b_f182 0 (st0 [.val (.int .i64), .val (.int .i64)] (x, y, ())) (fin E_f182 [.tmp 4] [] R_f182) = some (cmp_Less_int x y) := (st_f182_o m0 x y).trans (by unfold cmp_Less_int.o cmp_Less_int; simp only [cond_some])
theorem ev_f182 (x : Int) (y : Int) : evC E_f182 (evJ E_f182 (drE E_f182) fu) (drE E_f182) b_f182 0 (st0 [.val (.int .i64), .val (.int .i64)] (x, y, ())) (fin E_f182 [.tmp 4] [] R_f182) = some (cmp_Less_int x y) := st_f182 fu x y
@[reducible] def sp_f182   : AM.Spec := AM.spec [.val (.int .i64), .val (.int .i64)] R_f182 (fun x => some (cmp_Less_int x.1 x.2.1))
theorem c_f182 : Contract Tryz.prog 182 sp_f182 :=
  contract_of (Tab.envOk tabOk _ _) calls_f182 tabOk.mixed (fn := Tryz.f182) (c := b_f182) (ts := [.tmp 4]) (by kernel_rfl) (by kernel_rfl) (by kernel_rfl) (by decide) (by kernel_rfl) (by decide) rfl fun x _ h => ⟨fu, (ev_f182 x.1 x.2.1).trans h⟩
@[reducible] noncomputable def E_f183 : Env := tab.env (AM.look []) ⟨[], [], [], ⟨[(2, true)], []⟩, [], [], [], []⟩
theorem calls_f183 : CallsOk Tryz.prog E_f183 := callsOk_of trivial
noncomputable def b_f183 : Code := (Tryz.f183.body).getD .skip
@[reducible] def R_f183 : List (Ty × List Tag) := [(.bool, [])]
theorem st_f183 (m0 : Nat) (x : Int) : evC E_f183 (evJ E_f183 (drE E_f183) m0) (drE E_f183) b_f183 0 (st0 [.val (.int .i64)] (x, ())) (fin E_f183 [.tmp 2] [] R_f183) = some (slices_isNaN_int x) := by kernel_rfl
theorem ev_f183 (x : Int) : evC E_f183 (evJ E_f183 (drE E_f183) fu) (drE E_f183) b_f183 0 (st0 [.val (.int .i64)] (x, ())) (fin E_f183 [.tmp 2] [] R_f183) = some (slices_isNaN_int x) := st_f183 fu x
@[reducible] def sp_f183   : AM.Spec := AM.spec [.val (.int .i64)] R_f183 (fun x => some (slices_isNaN_int x.1))
theorem c_f183 : Contract Tryz.prog 183 sp_f183 :=
  contract_of (Tab.envOk tabOk _ _) calls_f183 tabOk.mixed (fn := Tryz.f183) (c := b_f183) (ts := [.tmp 2]) (by kernel_rfl) (by kernel_rfl) (by kernel_rfl) (by decide) (by kernel_rfl) (by decide) rfl fun x _ h => ⟨fu, (ev_f183 x.1).trans h⟩
@[reducible] noncomputable def E_f163 : Env := tab.env (AM.look [(182, sp_f182), (183, sp_f183)]) ⟨[(0, ⟨[(0, true), (1, true), (6, true), (7, true), (8, true)], []⟩)], [], [(8, ⟨[(0, true), (1, true), (6, true), (7, true)], []⟩)], ⟨[(4, true), (5, true)], []⟩, [], [182, 183], [], []⟩
theorem calls_f163 : CallsOk Tryz.prog E_f163 := callsOk_of ⟨⟨c_f182, Tryz.call182, fun _ => words_spec rfl⟩, ⟨⟨c_f183, Tryz.call183, fun _ => words_spec rfl⟩, trivial⟩⟩
noncomputable def b_f163 : Code := (Tryz.f163.body).getD .skip
@[reducible] def R_f163 : List (Ty × List Tag) := [((.int .i64), []), (.bool, [])]
noncomputable def sg_f163_1 (x_7 : (List Int)) (target_8 : Int) (n_9 : Int) (i_10 : Int) : St := mk [(0, .dat (.sl (.int .i64)) x_7 []), (1, .dat (.int .i64) target_8 []), (6, .dat (.int .i64) n_9 []), (7, .dat (.int .i64) i_10 [])] []
noncomputable def sg_f163_0 (x_1 : (List Int)) (target_2 : Int) (n_3 : Int) (i_4 : Int) (j_5 : Int) : St := mk [(0, .dat (.sl (.int .i64)) x_1 []), (1, .dat (.int .i64) target_2 []), (6, .dat (.int .i64) n_3 []), (7, .dat (.int .i64) i_4 []), (8, .dat (.int .i64) j_5 [])] []
noncomputable def q_f163_0 (m0 : Nat) : K (ResD R_f163) := fin E_f163 [.tmp 4, .tmp 5] [] R_f163
noncomputable def cd_f163_1 : Code := (rgt (rgt (rgt (rgt b_f163))))
noncomputable def j1_f163 (m0 : Nat) (n : Nat) : (List Int) → Int → Int → Int → Option (Int × Bool) := fun x_7 target_8 n_9 i_10 => evJ E_f163 (drE E_f163) n (.tail cd_f163_1) 0 (sg_f163_1 x_7 target_8 n_9 i_10) (q_f163_0 m0)
theorem st_f163_j1 (m0 : Nat) (n : Nat) (x_7 : (List Int)) (target_8 : Int) (n_9 : Int) (i_10 : Int) : j1_f163 m0 (n + 1) x_7 target_8 n_9 i_10 = slices_BinarySearch_int_int.S1 x_7 target_8 n_9 i_10 := by kernel_rfl
theorem J_f163_1 (m0 : Nat) : ∀ (n : Nat) (x_7 : (List Int)) (target_8 : Int) (n_9 : Int) (i_10 : Int), j1_f163 m0 n x_7 target_8 n_9 i_10 = slices_BinarySearch_int_int.t1 n x_7 target_8 n_9 i_10 := by
  intro n
  induction n with
  | zero => intros; rfl
  | succ n ih =>
    intro x_7 target_8 n_9 i_10
    have e1 : (j1_f163 m0 n) = (slices_BinarySearch_int_int.t1 n) := by funext x_7 target_8 n_9 i_10; exact ih x_7 target_8 n_9 i_10
    refine (st_f163_j1 m0 n x_7 target_8 n_9 i_10).trans ?_
    rfl
noncomputable def q_f163_1 (m0 : Nat) : K (ResD R_f163) := seqK E_f163 (evJ E_f163 (drE E_f163) m0) cd_f163_1 0 (evC E_f163 (evJ E_f163 (drE E_f163) m0) (drE E_f163) cd_f163_1 0) (q_f163_0 m0)
noncomputable def q_f163_2 (m0 : Nat) : K (ResD R_f163) := blockK 0 (q_f163_1 m0)
noncomputable def cd_f163_2 : Code := (lft (lft (lft (rgt (rgt (rgt b_f163))))))
noncomputable def j0_f163 (m0 : Nat) (n : Nat) : (List Int) → Int → Int → Int → Int → Option (Int × Bool) := fun x_1 target_2 n_3 i_4 j_5 => evJ E_f163 (drE E_f163) n (.loop cd_f163_2) 0 (sg_f163_0 x_1 target_2 n_3 i_4 j_5) (q_f163_2 m0)
theorem st_f163_j0 (m0 : Nat) (n : Nat) (x_1 : (List Int)) (target_2 : Int) (n_3 : Int) (i_4 : Int) (j_5 : Int) : j0_f163 m0 (n + 1) x_1 target_2 n_3 i_4 j_5 = slices_BinarySearch_int_int.S0 (j1_f163 m0 m0) (j0_f163 m0 n) x_1 target_2 n_3 i_4 j_5 := by kernel_rfl
theorem J_f163_0 (m0 : Nat) : ∀ (n : Nat) (x_1 : (List Int)) (target_2 : Int) (n_3 : Int) (i_4 : Int) (j_5 : Int), j0_f163 m0 n x_1 target_2 n_3 i_4 j_5 = slices_BinarySearch_int_int.l0 (j1_f163 m0 m0) n x_1 target_2 n_3 i_4 j_5 := by
  intro n
  induction n with
  | zero => intros; rfl
  | succ n ih =>
    intro x_1 target_2 n_3 i_4 j_5
    have e0 : (j0_f163 m0 n) = (slices_BinarySearch_int_int.l0 (j1_f163 m0 m0) n) := by funext x_1 target_2 n_3 i_4 j_5; exact ih x_1 target_2 n_3 i_4 j_5
    refine (st_f163_j0 m0 n x_1 target_2 n_3 i_4 j_5).trans ?_
    rw [e0]; rfl
theorem st_f163 (m0 : Nat) (x : (List Int)) (target : Int) : evC E_f163 (evJ E_f163 (drE E_f163) m0) (drE E_f163) b_f163 0 (st0 [.val (.sl (.int .i64)), .val (.int .i64)] (x, target, ())) (fin E_f163 [.tmp 4, .tmp 5] [] R_f163) = slices_BinarySearch_int_int.S (j0_f163 m0 m0) x target := by kernel_rfl
theorem ev_f163 (x : (List Int)) (target : Int) : evC E_f163 (evJ E_f163 (drE E_f163) fu) (drE E_f163) b_f163 0 (st0 [.val (.sl (.int .i64)), .val (.int .i64)] (x, target, ())) (fin E_f163 [.tmp 4, .tmp 5] [] R_f163) = slices_BinarySearch_int_int x target := by
  have e1 : (j1_f163 fu fu) = (slices_BinarySearch_int_int.t1 fu) := by funext x_7 target_8 n_9 i_10; exact J_f163_1 fu fu x_7 target_8 n_9 i_10
  have e0 : (j0_f163 fu fu) = (slices_BinarySearch_int_int.l0 (slices_BinarySearch_int_int.t1 fu) fu) := by rw [← e1]; funext x_1 target_2 n_3 i_4 j_5; exact J_f163_0 fu fu x_1 target_2 n_3 i_4 j_5
  refine (st_f163 fu x target).trans ?_
  rw [e0]; rfl
@[reducible] def sp_f163   : AM.Spec := AM.spec [.val (.sl (.int .i64)), .val (.int .i64)] R_f163 (fun x => slices_BinarySearch_int_int x.1 x.2.1)
theorem c_f163 : Contract Tryz.prog 163 sp_f163 :=
  contract_of (Tab.envOk tabOk _ _) calls_f163 tabOk.mixed (fn := Tryz.f163) (c := b_f163) (ts := [.tmp 4, .tmp 5]) (by kernel_rfl) (by kernel_rfl) (by kernel_rfl) (by decide) (by kernel_rfl) (by decide) rfl fun x _ h => ⟨fu, (ev_f163 x.1 x.2.1).trans h⟩
@[reducible] noncomputable def E_f141 : Env := tab.env (AM.look [(160, sp_slices_Clone_int), (161, sp_slices_Sort_int), (162, sp_slices_Compact_int), (163, sp_f163)]) ⟨[(0, ⟨[(4, true), (5, true), (16, true), (17, true), (18, true)], [(11, true)]⟩)], [], [], ⟨[(2, true), (3, true)], [(11, true)]⟩, [2, 4, 11, 12, 14, 15, 23, 33], [163], [(161, [true]), (162, [true])], []⟩
theorem calls_f141 : CallsOk Tryz.prog E_f141 := callsOk_of ⟨⟨c_slices_Clone_int, Tryz.call160, fun h => nomatch (show false = true from h)⟩, ⟨⟨c_slices_Sort_int, Tryz.call161, fun h => nomatch (show false = true from h)⟩, ⟨⟨c_slices_Compact_int, Tryz.call162, fun h => nomatch (show false = true from h)⟩, ⟨⟨c_f163, Tryz.call163, fun _ => words_spec rfl⟩, trivial⟩⟩⟩⟩
noncomputable def b_f141 : Code := (Tryz.f141.body).getD .skip
@[reducible] def R_f141 : List (Ty × List Tag) := [((.sl (.int .i64)), []), ((.sl (.int .i64)), [⟨0, 1, 0, 1⟩])]
noncomputable def sg_f141_0 (dlo_4 : Nat) (dn_5 : Nat) (places_6 : (List Int)) (t16_7 : (List Int)) (t17_8 : Int) (t18_9 : Int) (t11_10 : (List Int)) : St := mk [(4, .slm 11 0 dlo_4 dn_5), (5, .dat (.sl (.int .i64)) places_6 [⟨0, 321, 0, 1⟩]), (16, .dat (.sl (.int .i64)) t16_7 []), (17, .dat (.int .i64) t17_8 []), (18, .dat (.int .i64) t18_9 [])] [(11, some (.arr (.int .i64) t11_10 false))]
noncomputable def q_f141_0 (m0 : Nat) : K (ResD R_f141) := fin E_f141 [.tmp 2, .tmp 3] [] R_f141
noncomputable def cd_f141_1 : Code := (rgt (rgt (rgt (rgt (rgt (rgt b_f141))))))
noncomputable def q_f141_1 (m0 : Nat) : K (ResD R_f141) := seqK E_f141 (evJ E_f141 (drE E_f141) m0) cd_f141_1 0 (evC E_f141 (evJ E_f141 (drE E_f141) m0) (drE E_f141) cd_f141_1 0) (q_f141_0 m0)
noncomputable def q_f141_2 (m0 : Nat) : K (ResD R_f141) := blockK 0 (q_f141_1 m0)
noncomputable def cd_f141_2 : Code := (lft (lft (rgt (lft (rgt (rgt (rgt (rgt (rgt b_f141)))))))))
noncomputable def j0_f141 (m0 : Nat) (n : Nat) : Nat → Nat → (List Int) → (List Int) → Int → Int → (List Int) → Option ((List Int) × (List Int)) := fun dlo_4 dn_5 places_6 t16_7 t17_8 t18_9 t11_10 => evJ E_f141 (drE E_f141) n (.loop cd_f141_2) 0 (sg_f141_0 dlo_4 dn_5 places_6 t16_7 t17_8 t18_9 t11_10) (q_f141_2 m0)
theorem st_f141_j0 (m0 : Nat) (n : Nat) (dlo_4 : Nat) (dn_5 : Nat) (places_6 : (List Int)) (t16_7 : (List Int)) (t17_8 : Int) (t18_9 : Int) (t11_10 : (List Int)) : j0_f141 m0 (n + 1) dlo_4 dn_5 places_6 t16_7 t17_8 t18_9 t11_10 = dict_Of_int.S0 (j0_f141 m0 n) dlo_4 dn_5 places_6 t16_7 t17_8 t18_9 t11_10 := by kernel_rfl
theorem J_f141_0 (m0 : Nat) : ∀ (n : Nat) (dlo_4 : Nat) (dn_5 : Nat) (places_6 : (List Int)) (t16_7 : (List Int)) (t17_8 : Int) (t18_9 : Int) (t11_10 : (List Int)), j0_f141 m0 n dlo_4 dn_5 places_6 t16_7 t17_8 t18_9 t11_10 = dict_Of_int.l0 n dlo_4 dn_5 places_6 t16_7 t17_8 t18_9 t11_10 := by
  intro n
  induction n with
  | zero => intros; rfl
  | succ n ih =>
    intro dlo_4 dn_5 places_6 t16_7 t17_8 t18_9 t11_10
    have e0 : (j0_f141 m0 n) = (dict_Of_int.l0 n) := by funext dlo_4 dn_5 places_6 t16_7 t17_8 t18_9 t11_10; exact ih dlo_4 dn_5 places_6 t16_7 t17_8 t18_9 t11_10
    refine (st_f141_j0 m0 n dlo_4 dn_5 places_6 t16_7 t17_8 t18_9 t11_10).trans ?_
    rw [e0]; rfl
theorem st_f141 (m0 : Nat) (l : (List Int)) : evC E_f141 (evJ E_f141 (drE E_f141) m0) (drE E_f141) b_f141 0 (st0 [.val (.sl (.int .i64))] (l, ())) (fin E_f141 [.tmp 2, .tmp 3] [] R_f141) = dict_Of_int.S (j0_f141 m0 m0) l := by kernel_rfl
theorem ev_f141 (l : (List Int)) : evC E_f141 (evJ E_f141 (drE E_f141) fu) (drE E_f141) b_f141 0 (st0 [.val (.sl (.int .i64))] (l, ())) (fin E_f141 [.tmp 2, .tmp 3] [] R_f141) = dict_Of_int l := by
  have e0 : (j0_f141 fu fu) = (dict_Of_int.l0 fu) := by funext dlo_4 dn_5 places_6 t16_7 t17_8 t18_9 t11_10; exact J_f141_0 fu fu dlo_4 dn_5 places_6 t16_7 t17_8 t18_9 t11_10
  refine (st_f141 fu l).trans ?_
  rw [e0]; rfl
@[reducible] def sp_f141   : AM.Spec := AM.spec [.val (.sl (.int .i64))] R_f141 (fun x => dict_Of_int x.1)
theorem c_f141 : Contract Tryz.prog 141 sp_f141 :=
  contract_of (Tab.envOk tabOk _ _) calls_f141 tabOk.mixed (fn := Tryz.f141) (c := b_f141) (ts := [.tmp 2, .tmp 3]) (by kernel_rfl) (by kernel_rfl) (by kernel_rfl) (by decide) (by kernel_rfl) (by decide) rfl fun x _ h => ⟨fu, (ev_f141 x.1).trans h⟩
@[reducible] noncomputable def E_f111 : Env := tab.env (AM.look [(81, sp_f81), (107, sp_f107), (108, sp_bld_String)]) ⟨[(0, ⟨[(4, true), (7, true), (8, true), (9, true)], [(4, true)]⟩)], [], [], ⟨[(2, true), (3, true)], []⟩, [], [81], [], []⟩
theorem calls_f111 : CallsOk Tryz.prog E_f111 := callsOk_of ⟨⟨c_f81, Tryz.call81, fun _ => words_spec rfl⟩, ⟨⟨c_f107, Tryz.call107, fun h => nomatch (show false = true from h)⟩, ⟨⟨c_bld_String, Tryz.call108, fun h => nomatch (show false = true from h)⟩, trivial⟩⟩⟩
noncomputable def b_f111 : Code := (Tryz.f111.body).getD .skip
@[reducible] def R_f111 : List (Ty × List Tag) := [(.str, []), ((.int .i64), [])]
noncomputable def sg_f111_0 (t7_1 : (List Int)) (t8_2 : Int) (t9_3 : Int) (b_4 : (Bool × (List Int))) : St := mk [(4, .ptr 4 0 0), (7, .dat (.sl (.int .i64)) t7_1 []), (8, .dat (.int .i64) t8_2 []), (9, .dat (.int .i64) t9_3 [])] [(4, some (.var (.pair (.lk false) (.sl (.int .u8))) b_4 [⟨1, 64258, 0, 0⟩]))]
noncomputable def q_f111_0 (m0 : Nat) : K (ResD R_f111) := fin E_f111 [.tmp 2, .tmp 3] [] R_f111
noncomputable def cd_f111_1 : Code := (rgt (rgt (rgt b_f111)))
noncomputable def q_f111_1 (m0 : Nat) : K (ResD R_f111) := seqK E_f111 (evJ E_f111 (drE E_f111) m0) cd_f111_1 0 (evC E_f111 (evJ E_f111 (drE E_f111) m0) (drE E_f111) cd_f111_1 0) (q_f111_0 m0)
noncomputable def q_f111_2 (m0 : Nat) : K (ResD R_f111) := blockK 0 (q_f111_1 m0)
noncomputable def cd_f111_2 : Code := (lft (lft (rgt (lft (rgt (rgt b_f111))))))
noncomputable def j0_f111 (m0 : Nat) (n : Nat) : (List Int) → Int → Int → (Bool × (List Int)) → Option (ByteArray × Int) := fun t7_1 t8_2 t9_3 b_4 => evJ E_f111 (drE E_f111) n (.loop cd_f111_2) 0 (sg_f111_0 t7_1 t8_2 t9_3 b_4) (q_f111_2 m0)
theorem st_f111_j0 (m0 : Nat) (n : Nat) (t7_1 : (List Int)) (t8_2 : Int) (t9_3 : Int) (b_4 : (Bool × (List Int))) : j0_f111 m0 (n + 1) t7_1 t8_2 t9_3 b_4 = dict_ints.S0 (j0_f111 m0 n) t7_1 t8_2 t9_3 b_4 := by kernel_rfl
theorem J_f111_0 (m0 : Nat) : ∀ (n : Nat) (t7_1 : (List Int)) (t8_2 : Int) (t9_3 : Int) (b_4 : (Bool × (List Int))), j0_f111 m0 n t7_1 t8_2 t9_3 b_4 = dict_ints.l0 n t7_1 t8_2 t9_3 b_4 := by
  intro n
  induction n with
  | zero => intros; rfl
  | succ n ih =>
    intro t7_1 t8_2 t9_3 b_4
    have e0 : (j0_f111 m0 n) = (dict_ints.l0 n) := by funext t7_1 t8_2 t9_3 b_4; exact ih t7_1 t8_2 t9_3 b_4
    refine (st_f111_j0 m0 n t7_1 t8_2 t9_3 b_4).trans ?_
    rw [e0]; rfl
theorem st_f111 (m0 : Nat) (d : (List Int)) : evC E_f111 (evJ E_f111 (drE E_f111) m0) (drE E_f111) b_f111 0 (st0 [.val (.sl (.int .i64))] (d, ())) (fin E_f111 [.tmp 2, .tmp 3] [] R_f111) = dict_ints.S (j0_f111 m0 m0) d := by kernel_rfl
theorem ev_f111 (d : (List Int)) : evC E_f111 (evJ E_f111 (drE E_f111) fu) (drE E_f111) b_f111 0 (st0 [.val (.sl (.int .i64))] (d, ())) (fin E_f111 [.tmp 2, .tmp 3] [] R_f111) = dict_ints d := by
  have e0 : (j0_f111 fu fu) = (dict_ints.l0 fu) := by funext t7_1 t8_2 t9_3 b_4; exact J_f111_0 fu fu t7_1 t8_2 t9_3 b_4
  refine (st_f111 fu d).trans ?_
  rw [e0]; rfl
@[reducible] def sp_f111   : AM.Spec := AM.spec [.val (.sl (.int .i64))] R_f111 (fun x => dict_ints x.1)
theorem c_f111 : Contract Tryz.prog 111 sp_f111 :=
  contract_of (Tab.envOk tabOk _ _) calls_f111 tabOk.mixed (fn := Tryz.f111) (c := b_f111) (ts := [.tmp 2, .tmp 3]) (by kernel_rfl) (by kernel_rfl) (by kernel_rfl) (by decide) (by kernel_rfl) (by decide) rfl fun x _ h => ⟨fu, (ev_f111 x.1).trans h⟩
@[reducible] noncomputable def E_f110 : Env := tab.env (AM.look [(141, sp_f141), (111, sp_f111), (70, sp_f70), (44, sp_f44), (81, sp_f81)]) ⟨[], [], [], ⟨[(4, true), (5, true)], []⟩, [], [44, 70, 81, 111], [], []⟩
theorem calls_f110 : CallsOk Tryz.prog E_f110 := callsOk_of ⟨⟨c_f141, Tryz.call141, fun h => nomatch (show false = true from h)⟩, ⟨⟨c_f111, Tryz.call111, fun _ => words_spec rfl⟩, ⟨⟨c_f70, Tryz.call70, fun _ => words_spec rfl⟩, ⟨⟨c_f44, Tryz.call44, fun _ => words_spec rfl⟩, ⟨⟨c_f81, Tryz.call81, fun _ => words_spec rfl⟩, trivial⟩⟩⟩⟩⟩
noncomputable def b_f110 : Code := (Tryz.f110.body).getD .skip
@[reducible] def R_f110 : List (Ty × List Tag) := [(.str, []), ((.int .i64), [])]
theorem st_f110 (m0 : Nat) (l : (List Int)) : evC E_f110 (evJ E_f110 (drE E_f110) m0) (drE E_f110) b_f110 0 (st0 [.val (.sl (.int .i64)), .fn 111 []] (l, (), ())) (fin E_f110 [.tmp 4, .tmp 5] [] R_f110) = dict_put_int__dict_ints l := by kernel_rfl
theorem ev_f110 (l : (List Int)) : evC E_f110 (evJ E_f110 (drE E_f110) fu) (drE E_f110) b_f110 0 (st0 [.val (.sl (.int .i64)), .fn 111 []] (l, (), ())) (fin E_f110 [.tmp 4, .tmp 5] [] R_f110) = dict_put_int__dict_ints l := st_f110 fu l
@[reducible] def sp_f110   : AM.Spec := AM.spec [.val (.sl (.int .i64)), .fn 111 []] R_f110 (fun x => dict_put_int__dict_ints x.1)
theorem c_f110 : Contract Tryz.prog 110 sp_f110 :=
  contract_of (Tab.envOk tabOk _ _) calls_f110 tabOk.mixed (fn := Tryz.f110) (c := b_f110) (ts := [.tmp 4, .tmp 5]) (by kernel_rfl) (by kernel_rfl) (by kernel_rfl) (by decide) (by kernel_rfl) (by decide) rfl fun x _ h => ⟨fu, (ev_f110 x.1).trans h⟩
@[reducible] noncomputable def E_f77 : Env := tab.env (AM.look [(110, sp_f110)]) ⟨[], [], [], ⟨[(2, true), (3, true)], []⟩, [], [110], [], []⟩
theorem calls_f77 : CallsOk Tryz.prog E_f77 := callsOk_of ⟨⟨c_f110, Tryz.call110, fun _ => words_spec rfl⟩, trivial⟩
noncomputable def b_f77 : Code := (Tryz.f77.body).getD .skip
@[reducible] def R_f77 : List (Ty × List Tag) := [(.str, []), ((.int .i64), [])]
theorem st_f77 (m0 : Nat) (l : (List Int)) : evC E_f77 (evJ E_f77 (drE E_f77) m0) (drE E_f77) b_f77 0 (st0 [.val (.sl (.int .i64))] (l, ())) (fin E_f77 [.tmp 2, .tmp 3] [] R_f77) = dict_PutInts l := by kernel_rfl
theorem ev_f77 (l : (List Int)) : evC E_f77 (evJ E_f77 (drE E_f77) fu) (drE E_f77) b_f77 0 (st0 [.val (.sl (.int .i64))] (l, ())) (fin E_f77 [.tmp 2, .tmp 3] [] R_f77) = dict_PutInts l := st_f77 fu l
@[reducible] def sp_f77   : AM.Spec := AM.spec [.val (.sl (.int .i64))] R_f77 (fun x => dict_PutInts x.1)
theorem c_f77 : Contract Tryz.prog 77 sp_f77 :=
  contract_of (Tab.envOk tabOk _ _) calls_f77 tabOk.mixed (fn := Tryz.f77) (c := b_f77) (ts := [.tmp 2, .tmp 3]) (by kernel_rfl) (by kernel_rfl) (by kernel_rfl) (by decide) (by kernel_rfl) (by decide) rfl fun x _ h => ⟨fu, (ev_f77 x.1).trans h⟩
@[reducible] noncomputable def E_f45 : Env := tab.env (AM.look [(73, sp_f73), (75, sp_f75), (74, sp_f74), (76, sp_f76), (77, sp_f77), (70, sp_f70), (44, sp_f44)]) ⟨[], [], [], ⟨[(4, true), (5, true)], []⟩, [], [44, 70, 73, 74, 76, 77], [], []⟩
theorem calls_f45 : CallsOk Tryz.prog E_f45 := callsOk_of ⟨⟨c_f73, Tryz.call73, fun _ => words_spec rfl⟩, ⟨⟨c_f75, Tryz.call75, fun h => nomatch (show false = true from h)⟩, ⟨⟨c_f74, Tryz.call74, fun _ => words_spec rfl⟩, ⟨⟨c_f76, Tryz.call76, fun _ => words_spec rfl⟩, ⟨⟨c_f77, Tryz.call77, fun _ => words_spec rfl⟩, ⟨⟨c_f70, Tryz.call70, fun _ => words_spec rfl⟩, ⟨⟨c_f44, Tryz.call44, fun _ => words_spec rfl⟩, trivial⟩⟩⟩⟩⟩⟩⟩
noncomputable def b_f45 : Code := (Tryz.f45.body).getD .skip
@[reducible] def R_f45 : List (Ty × List Tag) := [(.str, []), ((.int .i64), [])]
theorem st_f45 (m0 : Nat) (l : (List Int)) (code : Int) : evC E_f45 (evJ E_f45 (drE E_f45) m0) (drE E_f45) b_f45 0 (st0 [.val (.sl (.int .i64)), .val (.int .i64)] (l, code, ())) (fin E_f45 [.tmp 4, .tmp 5] [] R_f45) = block_numbers l code := by kernel_rfl
theorem ev_f45 (l : (List Int)) (code : Int) : evC E_f45 (evJ E_f45 (drE E_f45) fu) (drE E_f45) b_f45 0 (st0 [.val (.sl (.int .i64)), .val (.int .i64)] (l, code, ())) (fin E_f45 [.tmp 4, .tmp 5] [] R_f45) = block_numbers l code := st_f45 fu l code
@[reducible] def sp_f45   : AM.Spec := AM.spec [.val (.sl (.int .i64)), .val (.int .i64)] R_f45 (fun x => block_numbers x.1 x.2.1)
theorem c_f45 : Contract Tryz.prog 45 sp_f45 :=
  contract_of (Tab.envOk tabOk _ _) calls_f45 tabOk.mixed (fn := Tryz.f45) (c := b_f45) (ts := [.tmp 4, .tmp 5]) (by kernel_rfl) (by kernel_rfl) (by kernel_rfl) (by decide) (by kernel_rfl) (by decide) rfl fun x _ h => ⟨fu, (ev_f45 x.1 x.2.1).trans h⟩
@[reducible] noncomputable def E_f112 : Env := tab.env (AM.look [(138, sp_bld_check)]) ⟨[], [], [], ⟨[(4, true)], [(1000000, true)]⟩, [], [], [], []⟩
theorem calls_f112 : CallsOk Tryz.prog E_f112 := callsOk_of ⟨⟨c_bld_check, Tryz.call138, fun h => nomatch (show false = true from h)⟩, trivial⟩
noncomputable def b_f112 : Code := (Tryz.f112.body).getD .skip
@[reducible] def R_f112 : List (Ty × List Tag) := [((.lk true), []), ((.pair (.lk false) (.sl (.int .u8))), [⟨1, 1, 0, 0⟩])]
theorem st_f112 (m0 : Nat) (b : (Bool × (List Int))) (c : Int) : evC E_f112 (evJ E_f112 (drE E_f112) m0) (drE E_f112) b_f112 0 (st0 [.io (.pair (.lk false) (.sl (.int .u8))) [(1, 0)], .val (.int .u8)] (b, c, ())) (fin E_f112 [.tmp 4] [.io (.pair (.lk false) (.sl (.int .u8))) [(1, 0)]] R_f112) = strings_Builder_WriteByte_w1 b c := by kernel_rfl
theorem ev_f112 (b : (Bool × (List Int))) (c : Int) : evC E_f112 (evJ E_f112 (drE E_f112) fu) (drE E_f112) b_f112 0 (st0 [.io (.pair (.lk false) (.sl (.int .u8))) [(1, 0)], .val (.int .u8)] (b, c, ())) (fin E_f112 [.tmp 4] [.io (.pair (.lk false) (.sl (.int .u8))) [(1, 0)]] R_f112) = strings_Builder_WriteByte_w1 b c := st_f112 fu b c
@[reducible] def sp_f112   : AM.Spec := AM.specIo 1 [.io (.pair (.lk false) (.sl (.int .u8))) [(1, 0)], .val (.int .u8)] R_f112 (fun x => strings_Builder_WriteByte_w1 x.1 x.2.1)
theorem c_f112 : Contract Tryz.prog 112 sp_f112 :=
  contract_io (Tab.envOk tabOk _ _) calls_f112 tabOk.mixed (fn := Tryz.f112) (c := b_f112) (ts := [.tmp 4]) (by kernel_rfl) (by kernel_rfl) (by kernel_rfl) (by decide) (by kernel_rfl) (by decide) fun x _ h => ⟨fu, (ev_f112 x.1 x.2.1).trans h⟩
@[reducible] noncomputable def E_f78 : Env := tab.env (AM.look [(112, sp_f112), (107, sp_f107), (108, sp_bld_String)]) ⟨[(0, ⟨[(4, true), (7, true), (8, true), (9, true)], [(4, true)]⟩)], [], [], ⟨[(2, true), (3, true)], []⟩, [], [], [], []⟩
theorem calls_f78 : CallsOk Tryz.prog E_f78 := callsOk_of ⟨⟨c_f112, Tryz.call112, fun h => nomatch (show false = true from h)⟩, ⟨⟨c_f107, Tryz.call107, fun h => nomatch (show false = true from h)⟩, ⟨⟨c_bld_String, Tryz.call108, fun h => nomatch (show false = true from h)⟩, trivial⟩⟩⟩
noncomputable def b_f78 : Code := (Tryz.f78.body).getD .skip
@[reducible] def R_f78 : List (Ty × List Tag) := [(.str, []), ((.int .i64), [])]
noncomputable def sg_f78_0 (t7_1 : (List ByteArray)) (t8_2 : Int) (t9_3 : Int) (b_4 : (Bool × (List Int))) : St := mk [(4, .ptr 4 0 0), (7, .dat (.sl .str) t7_1 []), (8, .dat (.int .i64) t8_2 []), (9, .dat (.int .i64) t9_3 [])] [(4, some (.var (.pair (.lk false) (.sl (.int .u8))) b_4 [⟨1, 64258, 0, 0⟩]))]
noncomputable def q_f78_0 (m0 : Nat) : K (ResD R_f78) := fin E_f78 [.tmp 2, .tmp 3] [] R_f78
noncomputable def cd_f78_1 : Code := (rgt (rgt (rgt b_f78)))
noncomputable def q_f78_1 (m0 : Nat) : K (ResD R_f78) := seqK E_f78 (evJ E_f78 (drE E_f78) m0) cd_f78_1 0 (evC E_f78 (evJ E_f78 (drE E_f78) m0) (drE E_f78) cd_f78_1 0) (q_f78_0 m0)
noncomputable def q_f78_2 (m0 : Nat) : K (ResD R_f78) := blockK 0 (q_f78_1 m0)
noncomputable def cd_f78_2 : Code := (lft (lft (rgt (lft (rgt (rgt b_f78))))))
noncomputable def j0_f78 (m0 : Nat) (n : Nat) : (List ByteArray) → Int → Int → (Bool × (List Int)) → Option (ByteArray × Int) := fun t7_1 t8_2 t9_3 b_4 => evJ E_f78 (drE E_f78) n (.loop cd_f78_2) 0 (sg_f78_0 t7_1 t8_2 t9_3 b_4) (q_f78_2 m0)
theorem st_f78_j0 (m0 : Nat) (n : Nat) (t7_1 : (List ByteArray)) (t8_2 : Int) (t9_3 : Int) (b_4 : (Bool × (List Int))) : j0_f78 m0 (n + 1) t7_1 t8_2 t9_3 b_4 = plain_PutTexts.S0 (j0_f78 m0 n) t7_1 t8_2 t9_3 b_4 := by kernel_rfl
theorem J_f78_0 (m0 : Nat) : ∀ (n : Nat) (t7_1 : (List ByteArray)) (t8_2 : Int) (t9_3 : Int) (b_4 : (Bool × (List Int))), j0_f78 m0 n t7_1 t8_2 t9_3 b_4 = plain_PutTexts.l0 n t7_1 t8_2 t9_3 b_4 := by
  intro n
  induction n with
  | zero => intros; rfl
  | succ n ih =>
    intro t7_1 t8_2 t9_3 b_4
    have e0 : (j0_f78 m0 n) = (plain_PutTexts.l0 n) := by funext t7_1 t8_2 t9_3 b_4; exact ih t7_1 t8_2 t9_3 b_4
    refine (st_f78_j0 m0 n t7_1 t8_2 t9_3 b_4).trans ?_
    rw [e0]; rfl
theorem st_f78 (m0 : Nat) (l : (List ByteArray)) : evC E_f78 (evJ E_f78 (drE E_f78) m0) (drE E_f78) b_f78 0 (st0 [.val (.sl .str)] (l, ())) (fin E_f78 [.tmp 2, .tmp 3] [] R_f78) = plain_PutTexts.S (j0_f78 m0 m0) l := by kernel_rfl
theorem ev_f78 (l : (List ByteArray)) : evC E_f78 (evJ E_f78 (drE E_f78) fu) (drE E_f78) b_f78 0 (st0 [.val (.sl .str)] (l, ())) (fin E_f78 [.tmp 2, .tmp 3] [] R_f78) = plain_PutTexts l := by
  have e0 : (j0_f78 fu fu) = (plain_PutTexts.l0 fu) := by funext t7_1 t8_2 t9_3 b_4; exact J_f78_0 fu fu t7_1 t8_2 t9_3 b_4
  refine (st_f78 fu l).trans ?_
  rw [e0]; rfl
@[reducible] def sp_f78   : AM.Spec := AM.spec [.val (.sl .str)] R_f78 (fun x => plain_PutTexts x.1)
theorem c_f78 : Contract Tryz.prog 78 sp_f78 :=
  contract_of (Tab.envOk tabOk _ _) calls_f78 tabOk.mixed (fn := Tryz.f78) (c := b_f78) (ts := [.tmp 2, .tmp 3]) (by kernel_rfl) (by kernel_rfl) (by kernel_rfl) (by decide) (by kernel_rfl) (by decide) rfl fun x _ h => ⟨fu, (ev_f78 x.1).trans h⟩
@[reducible] noncomputable def E_f174 : Env := tab.env (AM.look []) ⟨[], [], [], ⟨[(2, true)], []⟩, [], [], [], []⟩
theorem calls_f174 : CallsOk Tryz.prog E_f174 := callsOk_of trivial
noncomputable def b_f174 : Code := (Tryz.f174.body).getD .skip
@[reducible] def R_f174 : List (Ty × List Tag) := [(.bool, [])]
theorem st_f174 (m0 : Nat) (x : ByteArray) : evC E_f174 (evJ E_f174 (drE E_f174) m0) (drE E_f174) b_f174 0 (st0 [.val .str] (x, ())) (fin E_f174 [.tmp 2] [] R_f174) = some (cmp_isNaN_string x) := by kernel_rfl
theorem ev_f174 (x : ByteArray) : evC E_f174 (evJ E_f174 (drE E_f174) fu) (drE E_f174) b_f174 0 (st0 [.val .str] (x, ())) (fin E_f174 [.tmp 2] [] R_f174) = some (cmp_isNaN_string x) := st_f174 fu x
@[reducible] def sp_f174   : AM.Spec := AM.spec [.val .str] R_f174 (fun x => some (cmp_isNaN_string x.1))
theorem c_f174 : Contract Tryz.prog 174 sp_f174 :=
  contract_of (Tab.envOk tabOk _ _) calls_f174 tabOk.mixed (fn := Tryz.f174) (c := b_f174) (ts := [.tmp 2]) (by kernel_rfl) (by kernel_rfl) (by kernel_rfl) (by decide) (by kernel_rfl) (by decide) rfl fun x _ h => ⟨fu, (ev_f174 x.1).trans h⟩
@[reducible] noncomputable def E_f144 : Env := tab.env (AM.look [(174, sp_f174)]) ⟨[], [], [], ⟨[(4, true)], []⟩, [], [174], [], []⟩
theorem calls_f144 : CallsOk Tryz.prog E_f144 := callsOk_of ⟨⟨c_f174, Tryz.call174, fun _ => words_spec rfl⟩, trivial⟩
noncomputable def b_f144 : Code := (Tryz.f144.body).getD .skip
@[reducible] def R_f144 : List (Ty × List Tag) := [(.bool, [])]
theorem st_f144_o (m0 : Nat) (x : ByteArray) (y : ByteArray) : evC E_f144 (evJ E_f144 (drE E_f144) m0) (drE E_f144) b_f144 0 (st0 [.val .str, .val .str] (x, y, ())) (fin E_f144 [.tmp 4] [] R_f144) = cmp_Less_string.o x y := by kernel_rfl
theorem st_f144 (m0 : Nat) (x : ByteArray) (y : ByteArray) : evC E_f144 (evJ E_f144 (drE E_f144) m0) (drE E_f144) b_f144 0 (st0 [.val .str, .val .str] (x, y, ())) (fin E_f144 [.tmp 4] [] R_f144) = some (cmp_Less_string x y) := (st_f144_o m0 x y).trans (by unfold cmp_Less_string.o cmp_Less_string; simp only [cond_some])
theorem ev_f144 (x : ByteArray) (y : ByteArray) : evC E_f144 (evJ E_f144 (drE E_f144) fu) (drE E_f144) b_f144 0 (st0 [.val .str, .val .str] (x, y, ())) (fin E_f144 [.tmp 4] [] R_f144) = some (cmp_Less_string x y) := st_f144 fu x y
@[reducible] def sp_f144   : AM.Spec := AM.spec [.val .str, .val .str] R_f144 (fun x => some (cmp_Less_string x.1 x.2.1))
theorem c_f144 : Contract Tryz.prog 144 sp_f144 :=
  contract_of (Tab.envOk tabOk _ _) calls_f144 tabOk.mixed (fn := Tryz.f144) (c := b_f144) (ts := [.tmp 4]) (by kernel_rfl) (by kernel_rfl) (by kernel_rfl) (by decide) (by kernel_rfl) (by decide) rfl fun x _ h => ⟨fu, (ev_f144 x.1 x.2.1).trans h⟩
@[reducible] noncomputable def E_f145 : Env := tab.env (AM.look []) ⟨[], [], [], ⟨[(2, true)], []⟩, [], [], [], []⟩
theorem calls_f145 : CallsOk Tryz.prog E_f145 := callsOk_of trivial
noncomputable def b_f145 : Code := (Tryz.f145.body).getD .skip
@[reducible] def R_f145 : List (Ty × List Tag) := [(.bool, [])]
theorem st_f145 (m0 : Nat) (x : ByteArray) : evC E_f145 (evJ E_f145 (drE E_f145) m0) (drE E_f145) b_f145 0 (st0 [.val .str] (x, ())) (fin E_f145 [.tmp 2] [] R_f145) = some (slices_isNaN_string x) := by kernel_rfl
theorem ev_f145 (x : ByteArray) : evC E_f145 (evJ E_f145 (drE E_f145) fu) (drE E_f145) b_f145 0 (st0 [.val .str] (x, ())) (fin E_f145 [.tmp 2] [] R_f145) = some (slices_isNaN_string x) := st_f145 fu x
@[reducible] def sp_f145   : AM.Spec := AM.spec [.val .str] R_f145 (fun x => some (slices_isNaN_string x.1))
theorem c_f145 : Contract Tryz.prog 145 sp_f145 :=
  contract_of (Tab.envOk tabOk _ _) calls_f145 tabOk.mixed (fn := Tryz.f145) (c := b_f145) (ts := [.tmp 2]) (by kernel_rfl) (by kernel_rfl) (by kernel_rfl) (by decide) (by kernel_rfl) (by decide) rfl fun x _ h => ⟨fu, (ev_f145 x.1).trans h⟩
@[reducible] noncomputable def E_f117 : Env := tab.env (AM.look [(144, sp_f144), (145, sp_f145)]) ⟨[(0, ⟨[(0, true), (1, true), (6, true), (7, true), (8, true)], []⟩)], [], [(8, ⟨[(0, true), (1, true), (6, true), (7, true)], []⟩)], ⟨[(4, true), (5, true)], []⟩, [], [144, 145], [], []⟩
theorem calls_f117 : CallsOk Tryz.prog E_f117 := callsOk_of ⟨⟨c_f144, Tryz.call144, fun _ => words_spec rfl⟩, ⟨⟨c_f145, Tryz.call145, fun _ => words_spec rfl⟩, trivial⟩⟩
noncomputable def b_f117 : Code := (Tryz.f117.body).getD .skip
@[reducible] def R_f117 : List (Ty × List Tag) := [((.int .i64), []), (.bool, [])]
noncomputable def sg_f117_1 (x_7 : (List ByteArray)) (target_8 : ByteArray) (n_9 : Int) (i_10 : Int) : St := mk [(0, .dat (.sl .str) x_7 []), (1, .dat .str target_8 []), (6, .dat (.int .i64) n_9 []), (7, .dat (.int .i64) i_10 [])] []
noncomputable def sg_f117_0 (x_1 : (List ByteArray)) (target_2 : ByteArray) (n_3 : Int) (i_4 : Int) (j_5 : Int) : St := mk [(0, .dat (.sl .str) x_1 []), (1, .dat .str target_2 []), (6, .dat (.int .i64) n_3 []), (7, .dat (.int .i64) i_4 []), (8, .dat (.int .i64) j_5 [])] []
noncomputable def q_f117_0 (m0 : Nat) : K (ResD R_f117) := fin E_f117 [.tmp 4, .tmp 5] [] R_f117
noncomputable def cd_f117_1 : Code := (rgt (rgt (rgt (rgt b_f117))))
noncomputable def j1_f117 (m0 : Nat) (n : Nat) : (List ByteArray) → ByteArray → Int → Int → Option (Int × Bool) := fun x_7 target_8 n_9 i_10 => evJ E_f117 (drE E_f117) n (.tail cd_f117_1) 0 (sg_f117_1 x_7 target_8 n_9 i_10) (q_f117_0 m0)
theorem st_f117_j1 (m0 : Nat) (n : Nat) (x_7 : (List ByteArray)) (target_8 : ByteArray) (n_9 : Int) (i_10 : Int) : j1_f117 m0 (n + 1) x_7 target_8 n_9 i_10 = slices_BinarySearch_string_string.S1 x_7 target_8 n_9 i_10 := by kernel_rfl
theorem J_f117_1 (m0 : Nat) : ∀ (n : Nat) (x_7 : (List ByteArray)) (target_8 : ByteArray) (n_9 : Int) (i_10 : Int), j1_f117 m0 n x_7 target_8 n_9 i_10 = slices_BinarySearch_string_string.t1 n x_7 target_8 n_9 i_10 := by
  intro n
  induction n with
  | zero => intros; rfl
  | succ n ih =>
    intro x_7 target_8 n_9 i_10
    have e1 : (j1_f117 m0 n) = (slices_BinarySearch_string_string.t1 n) := by funext x_7 target_8 n_9 i_10; exact ih x_7 target_8 n_9 i_10
    refine (st_f117_j1 m0 n x_7 target_8 n_9 i_10).trans ?_
    rfl
noncomputable def q_f117_1 (m0 : Nat) : K (ResD R_f117) := seqK E_f117 (evJ E_f117 (drE E_f117) m0) cd_f117_1 0 (evC E_f117 (evJ E_f117 (drE E_f117) m0) (drE E_f117) cd_f117_1 0) (q_f117_0 m0)
noncomputable def q_f117_2 (m0 : Nat) : K (ResD R_f117) := blockK 0 (q_f117_1 m0)
noncomputable def cd_f117_2 : Code := (lft (lft (lft (rgt (rgt (rgt b_f117))))))
noncomputable def j0_f117 (m0 : Nat) (n : Nat) : (List ByteArray) → ByteArray → Int → Int → Int → Option (Int × Bool) := fun x_1 target_2 n_3 i_4 j_5 => evJ E_f117 (drE E_f117) n (.loop cd_f117_2) 0 (sg_f117_0 x_1 target_2 n_3 i_4 j_5) (q_f117_2 m0)
theorem st_f117_j0 (m0 : Nat) (n : Nat) (x_1 : (List ByteArray)) (target_2 : ByteArray) (n_3 : Int) (i_4 : Int) (j_5 : Int) : j0_f117 m0 (n + 1) x_1 target_2 n_3 i_4 j_5 = slices_BinarySearch_string_string.S0 (j1_f117 m0 m0) (j0_f117 m0 n) x_1 target_2 n_3 i_4 j_5 := by kernel_rfl
theorem J_f117_0 (m0 : Nat) : ∀ (n : Nat) (x_1 : (List ByteArray)) (target_2 : ByteArray) (n_3 : Int) (i_4 : Int) (j_5 : Int), j0_f117 m0 n x_1 target_2 n_3 i_4 j_5 = slices_BinarySearch_string_string.l0 (j1_f117 m0 m0) n x_1 target_2 n_3 i_4 j_5 := by
  intro n
  induction n with
  | zero => intros; rfl
  | succ n ih =>
    intro x_1 target_2 n_3 i_4 j_5
    have e0 : (j0_f117 m0 n) = (slices_BinarySearch_string_string.l0 (j1_f117 m0 m0) n) := by funext x_1 target_2 n_3 i_4 j_5; exact ih x_1 target_2 n_3 i_4 j_5
    refine (st_f117_j0 m0 n x_1 target_2 n_3 i_4 j_5).trans ?_
    rw [e0]; rfl
theorem st_f117 (m0 : Nat) (x : (List ByteArray)) (target : ByteArray) : evC E_f117 (evJ E_f117 (drE E_f117) m0) (drE E_f117) b_f117 0 (st0 [.val (.sl .str), .val .str] (x, target, ())) (fin E_f117 [.tmp 4, .tmp 5] [] R_f117) = slices_BinarySearch_string_string.S (j0_f117 m0 m0) x target := by kernel_rfl
theorem ev_f117 (x : (List ByteArray)) (target : ByteArray) : evC E_f117 (evJ E_f117 (drE E_f117) fu) (drE E_f117) b_f117 0 (st0 [.val (.sl .str), .val .str] (x, target, ())) (fin E_f117 [.tmp 4, .tmp 5] [] R_f117) = slices_BinarySearch_string_string x target := by
  have e1 : (j1_f117 fu fu) = (slices_BinarySearch_string_string.t1 fu) := by funext x_7 target_8 n_9 i_10; exact J_f117_1 fu fu x_7 target_8 n_9 i_10
  have e0 : (j0_f117 fu fu) = (slices_BinarySearch_string_string.l0 (slices_BinarySearch_string_string.t1 fu) fu) := by rw [← e1]; funext x_1 target_2 n_3 i_4 j_5; exact J_f117_0 fu fu x_1 target_2 n_3 i_4 j_5
  refine (st_f117 fu x target).trans ?_
  rw [e0]; rfl
@[reducible] def sp_f117   : AM.Spec := AM.spec [.val (.sl .str), .val .str] R_f117 (fun x => slices_BinarySearch_string_string x.1 x.2.1)
theorem c_f117 : Contract Tryz.prog 117 sp_f117 :=
  contract_of (Tab.envOk tabOk _ _) calls_f117 tabOk.mixed (fn := Tryz.f117) (c := b_f117) (ts := [.tmp 4, .tmp 5]) (by kernel_rfl) (by kernel_rfl) (by kernel_rfl) (by decide) (by kernel_rfl) (by decide) rfl fun x _ h => ⟨fu, (ev_f117 x.1 x.2.1).trans h⟩
@[reducible] noncomputable def E_f80 : Env := tab.env (AM.look [(114, sp_slices_Clone_string), (115, sp_slices_Sort_string), (116, sp_slices_Compact_string), (117, sp_f117)]) ⟨[(0, ⟨[(4, true), (5, true), (16, true), (17, true), (18, true)], [(11, true)]⟩)], [], [], ⟨[(2, true), (3, true)], [(11, true)]⟩, [2, 4, 11, 12, 14, 15, 23, 33], [117], [(115, [true]), (116, [true])], []⟩
theorem calls_f80 : CallsOk Tryz.prog E_f80 := callsOk_of ⟨⟨c_slices_Clone_string, Tryz.call114, fun h => nomatch (show false = true from h)⟩, ⟨⟨c_slices_Sort_string, Tryz.call115, fun h => nomatch (show false = true from h)⟩, ⟨⟨c_slices_Compact_string, Tryz.call116, fun h => nomatch (show false = true from h)⟩, ⟨⟨c_f117, Tryz.call117, fun _ => words_spec rfl⟩, trivial⟩⟩⟩⟩
noncomputable def b_f80 : Code := (Tryz.f80.body).getD .skip
@[reducible] def R_f80 : List (Ty × List Tag) := [((.sl .str), []), ((.sl (.int .i64)), [⟨0, 1, 0, 1⟩])]
noncomputable def sg_f80_0 (dlo_4 : Nat) (dn_5 : Nat) (places_6 : (List Int)) (t16_7 : (List ByteArray)) (t17_8 : Int) (t18_9 : Int) (t11_10 : (List ByteArray)) : St := mk [(4, .slm 11 0 dlo_4 dn_5), (5, .dat (.sl (.int .i64)) places_6 [⟨0, 321, 0, 1⟩]), (16, .dat (.sl .str) t16_7 []), (17, .dat (.int .i64) t17_8 []), (18, .dat (.int .i64) t18_9 [])] [(11, some (.arr .str t11_10 false))]
noncomputable def q_f80_0 (m0 : Nat) : K (ResD R_f80) := fin E_f80 [.tmp 2, .tmp 3] [] R_f80
noncomputable def cd_f80_1 : Code := (rgt (rgt (rgt (rgt (rgt (rgt b_f80))))))
noncomputable def q_f80_1 (m0 : Nat) : K (ResD R_f80) := seqK E_f80 (evJ E_f80 (drE E_f80) m0) cd_f80_1 0 (evC E_f80 (evJ E_f80 (drE E_f80) m0) (drE E_f80) cd_f80_1 0) (q_f80_0 m0)
noncomputable def q_f80_2 (m0 : Nat) : K (ResD R_f80) := blockK 0 (q_f80_1 m0)
noncomputable def cd_f80_2 : Code := (lft (lft (rgt (lft (rgt (rgt (rgt (rgt (rgt b_f80)))))))))
noncomputable def j0_f80 (m0 : Nat) (n : Nat) : Nat → Nat → (List Int) → (List ByteArray) → Int → Int → (List ByteArray) → Option ((List ByteArray) × (List Int)) := fun dlo_4 dn_5 places_6 t16_7 t17_8 t18_9 t11_10 => evJ E_f80 (drE E_f80) n (.loop cd_f80_2) 0 (sg_f80_0 dlo_4 dn_5 places_6 t16_7 t17_8 t18_9 t11_10) (q_f80_2 m0)
theorem st_f80_j0 (m0 : Nat) (n : Nat) (dlo_4 : Nat) (dn_5 : Nat) (places_6 : (List Int)) (t16_7 : (List ByteArray)) (t17_8 : Int) (t18_9 : Int) (t11_10 : (List ByteArray)) : j0_f80 m0 (n + 1) dlo_4 dn_5 places_6 t16_7 t17_8 t18_9 t11_10 = dict_Of_string.S0 (j0_f80 m0 n) dlo_4 dn_5 places_6 t16_7 t17_8 t18_9 t11_10 := by kernel_rfl
theorem J_f80_0 (m0 : Nat) : ∀ (n : Nat) (dlo_4 : Nat) (dn_5 : Nat) (places_6 : (List Int)) (t16_7 : (List ByteArray)) (t17_8 : Int) (t18_9 : Int) (t11_10 : (List ByteArray)), j0_f80 m0 n dlo_4 dn_5 places_6 t16_7 t17_8 t18_9 t11_10 = dict_Of_string.l0 n dlo_4 dn_5 places_6 t16_7 t17_8 t18_9 t11_10 := by
  intro n
  induction n with
  | zero => intros; rfl
  | succ n ih =>
    intro dlo_4 dn_5 places_6 t16_7 t17_8 t18_9 t11_10
    have e0 : (j0_f80 m0 n) = (dict_Of_string.l0 n) := by funext dlo_4 dn_5 places_6 t16_7 t17_8 t18_9 t11_10; exact ih dlo_4 dn_5 places_6 t16_7 t17_8 t18_9 t11_10
    refine (st_f80_j0 m0 n dlo_4 dn_5 places_6 t16_7 t17_8 t18_9 t11_10).trans ?_
    rw [e0]; rfl
theorem st_f80 (m0 : Nat) (l : (List ByteArray)) : evC E_f80 (evJ E_f80 (drE E_f80) m0) (drE E_f80) b_f80 0 (st0 [.val (.sl .str)] (l, ())) (fin E_f80 [.tmp 2, .tmp 3] [] R_f80) = dict_Of_string.S (j0_f80 m0 m0) l := by kernel_rfl
theorem ev_f80 (l : (List ByteArray)) : evC E_f80 (evJ E_f80 (drE E_f80) fu) (drE E_f80) b_f80 0 (st0 [.val (.sl .str)] (l, ())) (fin E_f80 [.tmp 2, .tmp 3] [] R_f80) = dict_Of_string l := by
  have e0 : (j0_f80 fu fu) = (dict_Of_string.l0 fu) := by funext dlo_4 dn_5 places_6 t16_7 t17_8 t18_9 t11_10; exact J_f80_0 fu fu dlo_4 dn_5 places_6 t16_7 t17_8 t18_9 t11_10
  refine (st_f80 fu l).trans ?_
  rw [e0]; rfl
@[reducible] def sp_f80   : AM.Spec := AM.spec [.val (.sl .str)] R_f80 (fun x => dict_Of_string x.1)
theorem c_f80 : Contract Tryz.prog 80 sp_f80 :=
  contract_of (Tab.envOk tabOk _ _) calls_f80 tabOk.mixed (fn := Tryz.f80) (c := b_f80) (ts := [.tmp 2, .tmp 3]) (by kernel_rfl) (by kernel_rfl) (by kernel_rfl) (by decide) (by kernel_rfl) (by decide) rfl fun x _ h => ⟨fu, (ev_f80 x.1).trans h⟩
@[reducible] noncomputable def E_f113 : Env := tab.env (AM.look [(80, sp_f80), (78, sp_f78), (70, sp_f70), (44, sp_f44), (81, sp_f81)]) ⟨[], [], [], ⟨[(4, true), (5, true)], []⟩, [], [44, 70, 78, 81], [], []⟩
theorem calls_f113 : CallsOk Tryz.prog E_f113 := callsOk_of ⟨⟨c_f80, Tryz.call80, fun h => nomatch (show false = true from h)⟩, ⟨⟨c_f78, Tryz.call78, fun _ => words_spec rfl⟩, ⟨⟨c_f70, Tryz.call70, fun _ => words_spec rfl⟩, ⟨⟨c_f44, Tryz.call44, fun _ => words_spec rfl⟩, ⟨⟨c_f81, Tryz.call81, fun _ => words_spec rfl⟩, trivial⟩⟩⟩⟩⟩
noncomputable def b_f113 : Code := (Tryz.f113.body).getD .skip
@[reducible] def R_f113 : List (Ty × List Tag) := [(.str, []), ((.int .i64), [])]
theorem st_f113 (m0 : Nat) (l : (List ByteArray)) : evC E_f113 (evJ E_f113 (drE E_f113) m0) (drE E_f113) b_f113 0 (st0 [.val (.sl .str), .fn 78 []] (l, (), ())) (fin E_f113 [.tmp 4, .tmp 5] [] R_f113) = dict_put_string__plain_PutTexts l := by kernel_rfl
theorem ev_f113 (l : (List ByteArray)) : evC E_f113 (evJ E_f113 (drE E_f113) fu) (drE E_f113) b_f113 0 (st0 [.val (.sl .str), .fn 78 []] (l, (), ())) (fin E_f113 [.tmp 4, .tmp 5] [] R_f113) = dict_put_string__plain_PutTexts l := st_f113 fu l
@[reducible] def sp_f113   : AM.Spec := AM.spec [.val (.sl .str), .fn 78 []] R_f113 (fun x => dict_put_string__plain_PutTexts x.1)
theorem c_f113 : Contract Tryz.prog 113 sp_f113 :=
  contract_of (Tab.envOk tabOk _ _) calls_f113 tabOk.mixed (fn := Tryz.f113) (c := b_f113) (ts := [.tmp 4, .tmp 5]) (by kernel_rfl) (by kernel_rfl) (by kernel_rfl) (by decide) (by kernel_rfl) (by decide) rfl fun x _ h => ⟨fu, (ev_f113 x.1).trans h⟩
@[reducible] noncomputable def E_f79 : Env := tab.env (AM.look [(113, sp_f113)]) ⟨[], [], [], ⟨[(2, true), (3, true)], []⟩, [], [113], [], []⟩
theorem calls_f79 : CallsOk Tryz.prog E_f79 := callsOk_of ⟨⟨c_f113, Tryz.call113, fun _ => words_spec rfl⟩, trivial⟩
noncomputable def b_f79 : Code := (Tryz.f79.body).getD .skip
@[reducible] def R_f79 : List (Ty × List Tag) := [(.str, []), ((.int .i64), [])]
theorem st_f79 (m0 : Nat) (l : (List ByteArray)) : evC E_f79 (evJ E_f79 (drE E_f79) m0) (drE E_f79) b_f79 0 (st0 [.val (.sl .str)] (l, ())) (fin E_f79 [.tmp 2, .tmp 3] [] R_f79) = dict_PutTexts l := by kernel_rfl
theorem ev_f79 (l : (List ByteArray)) : evC E_f79 (evJ E_f79 (drE E_f79) fu) (drE E_f79) b_f79 0 (st0 [.val (.sl .str)] (l, ())) (fin E_f79 [.tmp 2, .tmp 3] [] R_f79) = dict_PutTexts l := st_f79 fu l
@[reducible] def sp_f79   : AM.Spec := AM.spec [.val (.sl .str)] R_f79 (fun x => dict_PutTexts x.1)
theorem c_f79 : Contract Tryz.prog 79 sp_f79 :=
  contract_of (Tab.envOk tabOk _ _) calls_f79 tabOk.mixed (fn := Tryz.f79) (c := b_f79) (ts := [.tmp 2, .tmp 3]) (by kernel_rfl) (by kernel_rfl) (by kernel_rfl) (by decide) (by kernel_rfl) (by decide) rfl fun x _ h => ⟨fu, (ev_f79 x.1).trans h⟩
@[reducible] noncomputable def E_f46 : Env := tab.env (AM.look [(78, sp_f78), (79, sp_f79), (80, sp_f80), (75, sp_f75), (74, sp_f74), (81, sp_f81)]) ⟨[], [], [], ⟨[(4, true), (5, true)], []⟩, [], [74, 78, 79, 81], [], []⟩
theorem calls_f46 : CallsOk Tryz.prog E_f46 := callsOk_of ⟨⟨c_f78, Tryz.call78, fun _ => words_spec rfl⟩, ⟨⟨c_f79, Tryz.call79, fun _ => words_spec rfl⟩, ⟨⟨c_f80, Tryz.call80, fun h => nomatch (show false = true from h)⟩, ⟨⟨c_f75, Tryz.call75, fun h => nomatch (show false = true from h)⟩, ⟨⟨c_f74, Tryz.call74, fun _ => words_spec rfl⟩, ⟨⟨c_f81, Tryz.call81, fun _ => words_spec rfl⟩, trivial⟩⟩⟩⟩⟩⟩
noncomputable def b_f46 : Code := (Tryz.f46.body).getD .skip
@[reducible] def R_f46 : List (Ty × List Tag) := [(.str, []), ((.int .i64), [])]
theorem st_f46 (m0 : Nat) (l : (List ByteArray)) (code : Int) : evC E_f46 (evJ E_f46 (drE E_f46) m0) (drE E_f46) b_f46 0 (st0 [.val (.sl .str), .val (.int .i64)] (l, code, ())) (fin E_f46 [.tmp 4, .tmp 5] [] R_f46) = block_words l code := by kernel_rfl
theorem ev_f46 (l : (List ByteArray)) (code : Int) : evC E_f46 (evJ E_f46 (drE E_f46) fu) (drE E_f46) b_f46 0 (st0 [.val (.sl .str), .val (.int .i64)] (l, code, ())) (fin E_f46 [.tmp 4, .tmp 5] [] R_f46) = block_words l code := st_f46 fu l code
@[reducible] def sp_f46   : AM.Spec := AM.spec [.val (.sl .str), .val (.int .i64)] R_f46 (fun x => block_words x.1 x.2.1)
theorem c_f46 : Contract Tryz.prog 46 sp_f46 :=
  contract_of (Tab.envOk tabOk _ _) calls_f46 tabOk.mixed (fn := Tryz.f46) (c := b_f46) (ts := [.tmp 4, .tmp 5]) (by kernel_rfl) (by kernel_rfl) (by kernel_rfl) (by decide) (by kernel_rfl) (by decide) rfl fun x _ h => ⟨fu, (ev_f46 x.1 x.2.1).trans h⟩
@[reducible] noncomputable def E_f25 : Env := tab.env (AM.look [(45, sp_f45), (46, sp_f46)]) ⟨[(0, ⟨[(1, true), (2, true), (8, true), (9, true), (12, true), (13, true), (14, true)], []⟩)], [], [(8, ⟨[(1, true), (2, true), (8, true), (9, true)], []⟩)], ⟨[(6, true), (7, true)], []⟩, [], [45, 46], [], [21, 26]⟩
theorem calls_f25 : CallsOk Tryz.prog E_f25 := callsOk_of ⟨⟨c_f45, Tryz.call45, fun _ => words_spec rfl⟩, ⟨⟨c_f46, Tryz.call46, fun _ => words_spec rfl⟩, trivial⟩⟩
noncomputable def b_f25 : Code := (Tryz.f25.body).getD .skip
@[reducible] def R_f25 : List (Ty × List Tag) := [(.str, []), ((.int .i64), [])]
noncomputable def sg_f25_1 (kind_8 : Int) (code_9 : Int) (n_10 : (List Int)) (t_11 : (List ByteArray)) : St := mk [(1, .dat (.int .i64) kind_8 []), (2, .dat (.int .i64) code_9 []), (8, .dat (.sl (.int .i64)) n_10 [⟨0, 513, 0, 1⟩]), (9, .dat (.sl .str) t_11 [⟨0, 577, 0, 1⟩])] []
noncomputable def sg_f25_0 (kind_1 : Int) (code_2 : Int) (n_3 : (List Int)) (t_4 : (List ByteArray)) (t12_5 : (List (Int × (Int × ByteArray)))) (t13_6 : Int) (t14_7 : Int) : St := mk [(1, .dat (.int .i64) kind_1 []), (2, .dat (.int .i64) code_2 []), (8, .dat (.sl (.int .i64)) n_3 [⟨0, 513, 0, 1⟩]), (9, .dat (.sl .str) t_4 [⟨0, 577, 0, 1⟩]), (12, .dat (.sl (.pair (.int .i64) (.pair (.int .i64) .str))) t12_5 []), (13, .dat (.int .i64) t13_6 []), (14, .dat (.int .i64) t14_7 [])] []
noncomputable def q_f25_0 (m0 : Nat) : K (ResD R_f25) := fin E_f25 [.tmp 6, .tmp 7] [] R_f25
noncomputable def cd_f25_1 : Code := (rgt (rgt (rgt (rgt b_f25))))
noncomputable def j1_f25 (m0 : Nat) (n : Nat) : Int → Int → (List Int) → (List ByteArray) → Option (ByteArray × Int) := fun kind_8 code_9 n_10 t_11 => evJ E_f25 (drE E_f25) n (.tail cd_f25_1) 0 (sg_f25_1 kind_8 code_9 n_10 t_11) (q_f25_0 m0)
theorem st_f25_j1 (m0 : Nat) (n : Nat) (kind_8 : Int) (code_9 : Int) (n_10 : (List Int)) (t_11 : (List ByteArray)) : j1_f25 m0 (n + 1) kind_8 code_9 n_10 t_11 = block_values.S1 kind_8 code_9 n_10 t_11 := by kernel_rfl
theorem J_f25_1 (m0 : Nat) : ∀ (n : Nat) (kind_8 : Int) (code_9 : Int) (n_10 : (List Int)) (t_11 : (List ByteArray)), j1_f25 m0 n kind_8 code_9 n_10 t_11 = block_values.t1 n kind_8 code_9 n_10 t_11 := by
  intro n
  induction n with
  | zero => intros; rfl
  | succ n ih =>
    intro kind_8 code_9 n_10 t_11
    have e1 : (j1_f25 m0 n) = (block_values.t1 n) := by funext kind_8 code_9 n_10 t_11; exact ih kind_8 code_9 n_10 t_11
    refine (st_f25_j1 m0 n kind_8 code_9 n_10 t_11).trans ?_
    rfl
noncomputable def q_f25_1 (m0 : Nat) : K (ResD R_f25) := seqK E_f25 (evJ E_f25 (drE E_f25) m0) cd_f25_1 0 (evC E_f25 (evJ E_f25 (drE E_f25) m0) (drE E_f25) cd_f25_1 0) (q_f25_0 m0)
noncomputable def q_f25_2 (m0 : Nat) : K (ResD R_f25) := blockK 0 (q_f25_1 m0)
noncomputable def cd_f25_2 : Code := (lft (lft (rgt (lft (rgt (rgt (rgt b_f25)))))))
noncomputable def j0_f25 (m0 : Nat) (n : Nat) : Int → Int → (List Int) → (List ByteArray) → (List (Int × (Int × ByteArray))) → Int → Int → Option (ByteArray × Int) := fun kind_1 code_2 n_3 t_4 t12_5 t13_6 t14_7 => evJ E_f25 (drE E_f25) n (.loop cd_f25_2) 0 (sg_f25_0 kind_1 code_2 n_3 t_4 t12_5 t13_6 t14_7) (q_f25_2 m0)
theorem st_f25_j0 (m0 : Nat) (n : Nat) (kind_1 : Int) (code_2 : Int) (n_3 : (List Int)) (t_4 : (List ByteArray)) (t12_5 : (List (Int × (Int × ByteArray)))) (t13_6 : Int) (t14_7 : Int) : j0_f25 m0 (n + 1) kind_1 code_2 n_3 t_4 t12_5 t13_6 t14_7 = block_values.S0 (j1_f25 m0 m0) (j0_f25 m0 n) kind_1 code_2 n_3 t_4 t12_5 t13_6 t14_7 := by kernel_rfl
theorem J_f25_0 (m0 : Nat) : ∀ (n : Nat) (kind_1 : Int) (code_2 : Int) (n_3 : (List Int)) (t_4 : (List ByteArray)) (t12_5 : (List (Int × (Int × ByteArray)))) (t13_6 : Int) (t14_7 : Int), j0_f25 m0 n kind_1 code_2 n_3 t_4 t12_5 t13_6 t14_7 = block_values.l0 (j1_f25 m0 m0) n kind_1 code_2 n_3 t_4 t12_5 t13_6 t14_7 := by
  intro n
  induction n with
  | zero => intros; rfl
  | succ n ih =>
    intro kind_1 code_2 n_3 t_4 t12_5 t13_6 t14_7
    have e0 : (j0_f25 m0 n) = (block_values.l0 (j1_f25 m0 m0) n) := by funext kind_1 code_2 n_3 t_4 t12_5 t13_6 t14_7; exact ih kind_1 code_2 n_3 t_4 t12_5 t13_6 t14_7
    refine (st_f25_j0 m0 n kind_1 code_2 n_3 t_4 t12_5 t13_6 t14_7).trans ?_
    rw [e0]; rfl
theorem st_f25 (m0 : Nat) (l : (List (Int × (Int × ByteArray)))) (kind : Int) (code : Int) : evC E_f25 (evJ E_f25 (drE E_f25) m0) (drE E_f25) b_f25 0 (st0 [.val (.sl (.pair (.int .i64) (.pair (.int .i64) .str))), .val (.int .i64), .val (.int .i64)] (l, kind, code, ())) (fin E_f25 [.tmp 6, .tmp 7] [] R_f25) = block_values.S (j0_f25 m0 m0) l kind code := by kernel_rfl
theorem ev_f25 (l : (List (Int × (Int × ByteArray)))) (kind : Int) (code : Int) : evC E_f25 (evJ E_f25 (drE E_f25) fu) (drE E_f25) b_f25 0 (st0 [.val (.sl (.pair (.int .i64) (.pair (.int .i64) .str))), .val (.int .i64), .val (.int .i64)] (l, kind, code, ())) (fin E_f25 [.tmp 6, .tmp 7] [] R_f25) = block_values l kind code := by
  have e1 : (j1_f25 fu fu) = (block_values.t1 fu) := by funext kind_8 code_9 n_10 t_11; exact J_f25_1 fu fu kind_8 code_9 n_10 t_11
  have e0 : (j0_f25 fu fu) = (block_values.l0 (block_values.t1 fu) fu) := by rw [← e1]; funext kind_1 code_2 n_3 t_4 t12_5 t13_6 t14_7; exact J_f25_0 fu fu kind_1 code_2 n_3 t_4 t12_5 t13_6 t14_7
  refine (st_f25 fu l kind code).trans ?_
  rw [e0]; rfl
@[reducible] def sp_f25   : AM.Spec := AM.spec [.val (.sl (.pair (.int .i64) (.pair (.int .i64) .str))), .val (.int .i64), .val (.int .i64)] R_f25 (fun x => block_values x.1 x.2.1 x.2.2.1)
theorem c_f25 : Contract Tryz.prog 25 sp_f25 :=
  contract_of (Tab.envOk tabOk _ _) calls_f25 tabOk.mixed (fn := Tryz.f25) (c := b_f25) (ts := [.tmp 6, .tmp 7]) (by kernel_rfl) (by kernel_rfl) (by kernel_rfl) (by decide) (by kernel_rfl) (by decide) rfl fun x _ h => ⟨fu, (ev_f25 x.1 x.2.1 x.2.2.1).trans h⟩
@[reducible] noncomputable def E_f82 : Env := tab.env (AM.look []) ⟨[(0, ⟨[(1, true), (5, true), (11, true), (12, true)], []⟩), (2, ⟨[(1, true), (5, true), (11, true), (12, true), (21, true)], []⟩)], [], [], ⟨[(4, true)], []⟩, [], [], [], []⟩
theorem calls_f82 : CallsOk Tryz.prog E_f82 := callsOk_of trivial
noncomputable def b_f82 : Code := (Tryz.f82.body).getD .skip
@[reducible] def R_f82 : List (Ty × List Tag) := [((.int .i64), [])]
noncomputable def sg_f82_1 (s_5 : ByteArray) (n_6 : Int) (t11_7 : Int) (t12_8 : Int) (t21_9 : Int) : St := mk [(1, .dat .str s_5 []), (5, .dat (.int .u32) n_6 []), (11, .dat (.int .i64) t11_7 []), (12, .dat (.int .i64) t12_8 []), (21, .dat (.int .i64) t21_9 [])] []
noncomputable def sg_f82_0 (s_1 : ByteArray) (n_2 : Int) (t11_3 : Int) (t12_4 : Int) : St := mk [(1, .dat .str s_1 []), (5, .dat (.int .u32) n_2 []), (11, .dat (.int .i64) t11_3 []), (12, .dat (.int .i64) t12_4 [])] []
noncomputable def q_f82_0 (m0 : Nat) : K (ResD R_f82) := fin E_f82 [.tmp 4] [] R_f82
noncomputable def cd_f82_1 : Code := (rgt (rgt (rgt b_f82)))
noncomputable def q_f82_1 (m0 : Nat) : K (ResD R_f82) := seqK E_f82 (evJ E_f82 (drE E_f82) m0) cd_f82_1 0 (evC E_f82 (evJ E_f82 (drE E_f82) m0) (drE E_f82) cd_f82_1 0) (q_f82_0 m0)
noncomputable def q_f82_2 (m0 : Nat) : K (ResD R_f82) := blockK 0 (q_f82_1 m0)
noncomputable def cd_f82_2 : Code := (lft (lft (rgt (lft (rgt (rgt b_f82))))))
noncomputable def j0_f82 (m0 : Nat) (n : Nat) : ByteArray → Int → Int → Int → Option (Int) := fun s_1 n_2 t11_3 t12_4 => evJ E_f82 (drE E_f82) n (.loop cd_f82_2) 0 (sg_f82_0 s_1 n_2 t11_3 t12_4) (q_f82_2 m0)
noncomputable def q_f82_3 (m0 : Nat) (m1 : Nat) : K (ResD R_f82) := loopK (E_f82.loop 0) (fun s => evJ E_f82 (drE E_f82) m1 (.loop cd_f82_2) 0 s (q_f82_2 m0)) (q_f82_2 m0)
noncomputable def cd_f82_3 : Code := (rgt (rgt (rgt cd_f82_2)))
noncomputable def q_f82_4 (m0 : Nat) (m1 : Nat) : K (ResD R_f82) := seqK E_f82 (evJ E_f82 (drE E_f82) m1) cd_f82_3 0 (evC E_f82 (evJ E_f82 (drE E_f82) m1) (drE E_f82) cd_f82_3 0) (q_f82_3 m0 m1)
noncomputable def q_f82_5 (m0 : Nat) (m1 : Nat) : K (ResD R_f82) := blockK 1 (q_f82_4 m0 m1)
noncomputable def q_f82_6 (m0 : Nat) (m1 : Nat) : K (ResD R_f82) := blockK 2 (q_f82_5 m0 m1)
noncomputable def cd_f82_4 : Code := (lft (lft (rgt (rgt (rgt (lft (lft (rgt (rgt cd_f82_2)))))))))
noncomputable def j1_f82 (m0 : Nat) (m1 : Nat) (n : Nat) : ByteArray → Int → Int → Int → Int → Option (Int) := fun s_5 n_6 t11_7 t12_8 t21_9 => evJ E_f82 (drE E_f82) n (.loop cd_f82_4) 2 (sg_f82_1 s_5 n_6 t11_7 t12_8 t21_9) (q_f82_6 m0 m1)
theorem st_f82_j1 (m0 : Nat) (m1 : Nat) (n : Nat) (s_5 : ByteArray) (n_6 : Int) (t11_7 : Int) (t12_8 : Int) (t21_9 : Int) : j1_f82 m0 m1 (n + 1) s_5 n_6 t11_7 t12_8 t21_9 = check_More.S1 (j0_f82 m0 m1) (j1_f82 m0 m1 n) s_5 n_6 t11_7 t12_8 t21_9 := by kernel_rfl
theorem J_f82_1 (m0 : Nat) (m1 : Nat) : ∀ (n : Nat) (s_5 : ByteArray) (n_6 : Int) (t11_7 : Int) (t12_8 : Int) (t21_9 : Int), j1_f82 m0 m1 n s_5 n_6 t11_7 t12_8 t21_9 = check_More.l1 (j0_f82 m0 m1) n s_5 n_6 t11_7 t12_8 t21_9 := by
  intro n
  induction n with
  | zero => intros; rfl
  | succ n ih =>
    intro s_5 n_6 t11_7 t12_8 t21_9
    have e1 : (j1_f82 m0 m1 n) = (check_More.l1 (j0_f82 m0 m1) n) := by funext s_5 n_6 t11_7 t12_8 t21_9; exact ih s_5 n_6 t11_7 t12_8 t21_9
    refine (st_f82_j1 m0 m1 n s_5 n_6 t11_7 t12_8 t21_9).trans ?_
    rw [e1]; rfl
theorem st_f82_j0 (m0 : Nat) (n : Nat) (s_1 : ByteArray) (n_2 : Int) (t11_3 : Int) (t12_4 : Int) : j0_f82 m0 (n + 1) s_1 n_2 t11_3 t12_4 = check_More.S0 (j1_f82 m0 n n) s_1 n_2 t11_3 t12_4 := by kernel_rfl
theorem J_f82_0 (m0 : Nat) : ∀ (n : Nat) (s_1 : ByteArray) (n_2 : Int) (t11_3 : Int) (t12_4 : Int), j0_f82 m0 n s_1 n_2 t11_3 t12_4 = check_More.l0 n s_1 n_2 t11_3 t12_4 := by
  intro n
  induction n with
  | zero => intros; rfl
  | succ n ih =>
    intro s_1 n_2 t11_3 t12_4
    have e0 : (j0_f82 m0 n) = (check_More.l0 n) := by funext s_1 n_2 t11_3 t12_4; exact ih s_1 n_2 t11_3 t12_4
    have e1 : (j1_f82 m0 n n) = (check_More.l1 (check_More.l0 n) n) := by rw [← e0]; funext s_5 n_6 t11_7 t12_8 t21_9; exact J_f82_1 m0 n n s_5 n_6 t11_7 t12_8 t21_9
    refine (st_f82_j0 m0 n s_1 n_2 t11_3 t12_4).trans ?_
    rw [e1]; rfl
theorem st_f82 (m0 : Nat) (sum : Int) (s : ByteArray) : evC E_f82 (evJ E_f82 (drE E_f82) m0) (drE E_f82) b_f82 0 (st0 [.val (.int .i64), .val .str] (sum, s, ())) (fin E_f82 [.tmp 4] [] R_f82) = check_More.S (j0_f82 m0 m0) sum s := by kernel_rfl
theorem ev_f82 (sum : Int) (s : ByteArray) : evC E_f82 (evJ E_f82 (drE E_f82) fu) (drE E_f82) b_f82 0 (st0 [.val (.int .i64), .val .str] (sum, s, ())) (fin E_f82 [.tmp 4] [] R_f82) = check_More sum s := by
  have e0 : (j0_f82 fu fu) = (check_More.l0 fu) := by funext s_1 n_2 t11_3 t12_4; exact J_f82_0 fu fu s_1 n_2 t11_3 t12_4
  refine (st_f82 fu sum s).trans ?_
  rw [e0]; rfl
@[reducible] def sp_f82   : AM.Spec := AM.spec [.val (.int .i64), .val .str] R_f82 (fun x => check_More x.1 x.2.1)
theorem c_f82 : Contract Tryz.prog 82 sp_f82 :=
  contract_of (Tab.envOk tabOk _ _) calls_f82 tabOk.mixed (fn := Tryz.f82) (c := b_f82) (ts := [.tmp 4]) (by kernel_rfl) (by kernel_rfl) (by kernel_rfl) (by decide) (by kernel_rfl) (by decide) rfl fun x _ h => ⟨fu, (ev_f82 x.1 x.2.1).trans h⟩
@[reducible] noncomputable def E_f47 : Env := tab.env (AM.look [(82, sp_f82)]) ⟨[], [], [], ⟨[(2, true)], []⟩, [], [82], [], []⟩
theorem calls_f47 : CallsOk Tryz.prog E_f47 := callsOk_of ⟨⟨c_f82, Tryz.call82, fun _ => words_spec rfl⟩, trivial⟩
noncomputable def b_f47 : Code := (Tryz.f47.body).getD .skip
@[reducible] def R_f47 : List (Ty × List Tag) := [((.int .i64), [])]
theorem st_f47 (m0 : Nat) (s : ByteArray) : evC E_f47 (evJ E_f47 (drE E_f47) m0) (drE E_f47) b_f47 0 (st0 [.val .str] (s, ())) (fin E_f47 [.tmp 2] [] R_f47) = check_Sum s := by kernel_rfl
theorem ev_f47 (s : ByteArray) : evC E_f47 (evJ E_f47 (drE E_f47) fu) (drE E_f47) b_f47 0 (st0 [.val .str] (s, ())) (fin E_f47 [.tmp 2] [] R_f47) = check_Sum s := st_f47 fu s
@[reducible] def sp_f47   : AM.Spec := AM.spec [.val .str] R_f47 (fun x => check_Sum x.1)
theorem c_f47 : Contract Tryz.prog 47 sp_f47 :=
  contract_of (Tab.envOk tabOk _ _) calls_f47 tabOk.mixed (fn := Tryz.f47) (c := b_f47) (ts := [.tmp 2]) (by kernel_rfl) (by kernel_rfl) (by kernel_rfl) (by decide) (by kernel_rfl) (by decide) rfl fun x _ h => ⟨fu, (ev_f47 x.1).trans h⟩
@[reducible] noncomputable def E_f26 : Env := tab.env (AM.look [(47, sp_f47)]) ⟨[(0, ⟨[(3, true), (4, true), (16, true)], []⟩)], [], [], ⟨[(2, true)], []⟩, [], [47], [], []⟩
theorem calls_f26 : CallsOk Tryz.prog E_f26 := callsOk_of ⟨⟨c_f47, Tryz.call47, fun _ => words_spec rfl⟩, trivial⟩
noncomputable def b_f26 : Code := (Tryz.f26.body).getD .skip
@[reducible] def R_f26 : List (Ty × List Tag) := [(.str, [])]
noncomputable def sg_f26_0 (n_2 : Int) (b_3 : (List Int)) (t16_4 : Int) : St := mk [(3, .dat (.int .u32) n_2 []), (4, .dat (.sl (.int .u8)) b_3 [⟨0, 257, 0, 0⟩]), (16, .dat (.int .i64) t16_4 [])] []
noncomputable def q_f26_0 (m0 : Nat) : K (ResD R_f26) := fin E_f26 [.tmp 2] [] R_f26
noncomputable def cd_f26_1 : Code := (rgt (rgt (rgt (rgt (rgt b_f26)))))
noncomputable def q_f26_1 (m0 : Nat) : K (ResD R_f26) := seqK E_f26 (evJ E_f26 (drE E_f26) m0) cd_f26_1 0 (evC E_f26 (evJ E_f26 (drE E_f26) m0) (drE E_f26) cd_f26_1 0) (q_f26_0 m0)
noncomputable def q_f26_2 (m0 : Nat) : K (ResD R_f26) := blockK 0 (q_f26_1 m0)
noncomputable def cd_f26_2 : Code := (lft (lft (rgt (lft (rgt (rgt (rgt (rgt b_f26))))))))
noncomputable def j0_f26 (m0 : Nat) (n : Nat) : Int → (List Int) → Int → Option (ByteArray) := fun n_2 b_3 t16_4 => evJ E_f26 (drE E_f26) n (.loop cd_f26_2) 0 (sg_f26_0 n_2 b_3 t16_4) (q_f26_2 m0)
theorem st_f26_j0 (m0 : Nat) (n : Nat) (n_2 : Int) (b_3 : (List Int)) (t16_4 : Int) : j0_f26 m0 (n + 1) n_2 b_3 t16_4 = check_Seal.S0 (j0_f26 m0 n) n_2 b_3 t16_4 := by kernel_rfl
theorem J_f26_0 (m0 : Nat) : ∀ (n : Nat) (n_2 : Int) (b_3 : (List Int)) (t16_4 : Int), j0_f26 m0 n n_2 b_3 t16_4 = check_Seal.l0 n n_2 b_3 t16_4 := by
  intro n
  induction n with
  | zero => intros; rfl
  | succ n ih =>
    intro n_2 b_3 t16_4
    have e0 : (j0_f26 m0 n) = (check_Seal.l0 n) := by funext n_2 b_3 t16_4; exact ih n_2 b_3 t16_4
    refine (st_f26_j0 m0 n n_2 b_3 t16_4).trans ?_
    rw [e0]; rfl
theorem st_f26 (m0 : Nat) (s : ByteArray) : evC E_f26 (evJ E_f26 (drE E_f26) m0) (drE E_f26) b_f26 0 (st0 [.val .str] (s, ())) (fin E_f26 [.tmp 2] [] R_f26) = check_Seal.S (j0_f26 m0 m0) s := by kernel_rfl
theorem ev_f26 (s : ByteArray) : evC E_f26 (evJ E_f26 (drE E_f26) fu) (drE E_f26) b_f26 0 (st0 [.val .str] (s, ())) (fin E_f26 [.tmp 2] [] R_f26) = check_Seal s := by
  have e0 : (j0_f26 fu fu) = (check_Seal.l0 fu) := by funext n_2 b_3 t16_4; exact J_f26_0 fu fu n_2 b_3 t16_4
  refine (st_f26 fu s).trans ?_
  rw [e0]; rfl
@[reducible] def sp_f26   : AM.Spec := AM.spec [.val .str] R_f26 (fun x => check_Seal x.1)
theorem c_f26 : Contract Tryz.prog 26 sp_f26 :=
  contract_of (Tab.envOk tabOk _ _) calls_f26 tabOk.mixed (fn := Tryz.f26) (c := b_f26) (ts := [.tmp 2]) (by kernel_rfl) (by kernel_rfl) (by kernel_rfl) (by decide) (by kernel_rfl) (by decide) rfl fun x _ h => ⟨fu, (ev_f26 x.1).trans h⟩
@[reducible] noncomputable def E_f10 : Env := tab.env (AM.look [(23, sp_f23), (24, sp_f24), (25, sp_f25), (26, sp_f26)]) ⟨[], [], [], ⟨[(6, true), (7, true)], []⟩, [], [23, 25, 26], [], []⟩
theorem calls_f10 : CallsOk Tryz.prog E_f10 := callsOk_of ⟨⟨c_f23, Tryz.call23, fun _ => words_spec rfl⟩, ⟨⟨c_f24, Tryz.call24, fun h => nomatch (show false = true from h)⟩, ⟨⟨c_f25, Tryz.call25, fun _ => words_spec rfl⟩, ⟨⟨c_f26, Tryz.call26, fun _ => words_spec rfl⟩, trivial⟩⟩⟩⟩
noncomputable def b_f10 : Code := (Tryz.f10.body).getD .skip
@[reducible] def R_f10 : List (Ty × List Tag) := [(.str, []), ((.int .i64), [])]
theorem st_f10 (m0 : Nat) (l : (List (Int × (Int × ByteArray)))) (kind : Int) (code : Int) : evC E_f10 (evJ E_f10 (drE E_f10) m0) (drE E_f10) b_f10 0 (st0 [.val (.sl (.pair (.int .i64) (.pair (.int .i64) .str))), .val (.int .i64), .val (.int .i64)] (l, kind, code, ())) (fin E_f10 [.tmp 6, .tmp 7] [] R_f10) = block_Put l kind code := by kernel_rfl
theorem ev_f10 (l : (List (Int × (Int × ByteArray)))) (kind : Int) (code : Int) : evC E_f10 (evJ E_f10 (drE E_f10) fu) (drE E_f10) b_f10 0 (st0 [.val (.sl (.pair (.int .i64) (.pair (.int .i64) .str))), .val (.int .i64), .val (.int .i64)] (l, kind, code, ())) (fin E_f10 [.tmp 6, .tmp 7] [] R_f10) = block_Put l kind code := st_f10 fu l kind code
@[reducible] def sp_f10   : AM.Spec := AM.spec [.val (.sl (.pair (.int .i64) (.pair (.int .i64) .str))), .val (.int .i64), .val (.int .i64)] R_f10 (fun x => block_Put x.1 x.2.1 x.2.2.1)
theorem c_f10 : Contract Tryz.prog 10 sp_f10 :=
  contract_of (Tab.envOk tabOk _ _) calls_f10 tabOk.mixed (fn := Tryz.f10) (c := b_f10) (ts := [.tmp 6, .tmp 7]) (by kernel_rfl) (by kernel_rfl) (by kernel_rfl) (by decide) (by kernel_rfl) (by decide) rfl fun x _ h => ⟨fu, (ev_f10 x.1 x.2.1 x.2.2.1).trans h⟩
@[reducible] noncomputable def E_f54 : Env := tab.env (AM.look [(26, sp_f26)]) ⟨[], [], [], ⟨[(2, true), (3, true)], []⟩, [], [26], [], []⟩
theorem calls_f54 : CallsOk Tryz.prog E_f54 := callsOk_of ⟨⟨c_f26, Tryz.call26, fun _ => words_spec rfl⟩, trivial⟩
noncomputable def b_f54 : Code := (Tryz.f54.body).getD .skip
@[reducible] def R_f54 : List (Ty × List Tag) := [(.str, []), ((.int .i64), [])]
theorem st_f54 (m0 : Nat) (s : ByteArray) : evC E_f54 (evJ E_f54 (drE E_f54) m0) (drE E_f54) b_f54 0 (st0 [.val .str] (s, ())) (fin E_f54 [.tmp 2, .tmp 3] [] R_f54) = check_Open s := by kernel_rfl
theorem ev_f54 (s : ByteArray) : evC E_f54 (evJ E_f54 (drE E_f54) fu) (drE E_f54) b_f54 0 (st0 [.val .str] (s, ())) (fin E_f54 [.tmp 2, .tmp 3] [] R_f54) = check_Open s := st_f54 fu s
@[reducible] def sp_f54   : AM.Spec := AM.spec [.val .str] R_f54 (fun x => check_Open x.1)
theorem c_f54 : Contract Tryz.prog 54 sp_f54 :=
  contract_of (Tab.envOk tabOk _ _) calls_f54 tabOk.mixed (fn := Tryz.f54) (c := b_f54) (ts := [.tmp 2, .tmp 3]) (by kernel_rfl) (by kernel_rfl) (by kernel_rfl) (by decide) (by kernel_rfl) (by decide) rfl fun x _ h => ⟨fu, (ev_f54 x.1).trans h⟩
@[reducible] noncomputable def E_f148 : Env := tab.env (AM.look [(72, sp_f72)]) ⟨[(0, ⟨[(0, true), (2, true), (7, true), (8, true), (9, true)], []⟩)], [], [], ⟨[(6, true)], []⟩, [], [72], [], []⟩
theorem calls_f148 : CallsOk Tryz.prog E_f148 := callsOk_of ⟨⟨c_f72, Tryz.call72, fun _ => words_spec rfl⟩, trivial⟩
noncomputable def b_f148 : Code := (Tryz.f148.body).getD .skip
@[reducible] def R_f148 : List (Ty × List Tag) := [((.int .i64), [])]
noncomputable def sg_f148_0 (s_1 : ByteArray) (width_2 : Int) (w_3 : Int) (at_4 : Int) (got_5 : Int) : St := mk [(0, .dat .str s_1 []), (2, .dat (.int .i64) width_2 []), (7, .dat (.int .u64) w_3 []), (8, .dat (.int .i64) at_4 []), (9, .dat (.int .i64) got_5 [])] []
noncomputable def q_f148_0 (m0 : Nat) : K (ResD R_f148) := fin E_f148 [.tmp 6] [] R_f148
noncomputable def cd_f148_1 : Code := (rgt (rgt (rgt (rgt b_f148))))
noncomputable def q_f148_1 (m0 : Nat) : K (ResD R_f148) := seqK E_f148 (evJ E_f148 (drE E_f148) m0) cd_f148_1 0 (evC E_f148 (evJ E_f148 (drE E_f148) m0) (drE E_f148) cd_f148_1 0) (q_f148_0 m0)
noncomputable def q_f148_2 (m0 : Nat) : K (ResD R_f148) := blockK 0 (q_f148_1 m0)
noncomputable def cd_f148_2 : Code := (lft (lft (lft (rgt (rgt (rgt b_f148))))))
noncomputable def j0_f148 (m0 : Nat) (n : Nat) : ByteArray → Int → Int → Int → Int → Option (Int) := fun s_1 width_2 w_3 at_4 got_5 => evJ E_f148 (drE E_f148) n (.loop cd_f148_2) 0 (sg_f148_0 s_1 width_2 w_3 at_4 got_5) (q_f148_2 m0)
theorem st_f148_j0 (m0 : Nat) (n : Nat) (s_1 : ByteArray) (width_2 : Int) (w_3 : Int) (at_4 : Int) (got_5 : Int) : j0_f148 m0 (n + 1) s_1 width_2 w_3 at_4 got_5 = pack_word.S0 (j0_f148 m0 n) s_1 width_2 w_3 at_4 got_5 := by kernel_rfl
theorem J_f148_0 (m0 : Nat) : ∀ (n : Nat) (s_1 : ByteArray) (width_2 : Int) (w_3 : Int) (at_4 : Int) (got_5 : Int), j0_f148 m0 n s_1 width_2 w_3 at_4 got_5 = pack_word.l0 n s_1 width_2 w_3 at_4 got_5 := by
  intro n
  induction n with
  | zero => intros; rfl
  | succ n ih =>
    intro s_1 width_2 w_3 at_4 got_5
    have e0 : (j0_f148 m0 n) = (pack_word.l0 n) := by funext s_1 width_2 w_3 at_4 got_5; exact ih s_1 width_2 w_3 at_4 got_5
    refine (st_f148_j0 m0 n s_1 width_2 w_3 at_4 got_5).trans ?_
    rw [e0]; rfl
theorem st_f148 (m0 : Nat) (s : ByteArray) (xk : Int) (width : Int) : evC E_f148 (evJ E_f148 (drE E_f148) m0) (drE E_f148) b_f148 0 (st0 [.val .str, .val (.int .i64), .val (.int .i64)] (s, xk, width, ())) (fin E_f148 [.tmp 6] [] R_f148) = pack_word.S (j0_f148 m0 m0) s xk width := by kernel_rfl
theorem ev_f148 (s : ByteArray) (xk : Int) (width : Int) : evC E_f148 (evJ E_f148 (drE E_f148) fu) (drE E_f148) b_f148 0 (st0 [.val .str, .val (.int .i64), .val (.int .i64)] (s, xk, width, ())) (fin E_f148 [.tmp 6] [] R_f148) = pack_word s xk width := by
  have e0 : (j0_f148 fu fu) = (pack_word.l0 fu) := by funext s_1 width_2 w_3 at_4 got_5; exact J_f148_0 fu fu s_1 width_2 w_3 at_4 got_5
  refine (st_f148 fu s xk width).trans ?_
  rw [e0]; rfl
@[reducible] def sp_f148   : AM.Spec := AM.spec [.val .str, .val (.int .i64), .val (.int .i64)] R_f148 (fun x => pack_word x.1 x.2.1 x.2.2.1)
theorem c_f148 : Contract Tryz.prog 148 sp_f148 :=
  contract_of (Tab.envOk tabOk _ _) calls_f148 tabOk.mixed (fn := Tryz.f148) (c := b_f148) (ts := [.tmp 6]) (by kernel_rfl) (by kernel_rfl) (by kernel_rfl) (by decide) (by kernel_rfl) (by decide) rfl fun x _ h => ⟨fu, (ev_f148 x.1 x.2.1 x.2.2.1).trans h⟩
@[reducible] noncomputable def E_f126 : Env := tab.env (AM.look [(71, sp_f71), (148, sp_f148)]) ⟨[(0, ⟨[(0, true), (2, true), (9, true), (49, true), (50, true)], [(48, true)]⟩)], [], [(8, ⟨[(0, true), (1, true), (2, true)], []⟩)], ⟨[(6, true), (7, true)], [(6, true), (48, true)]⟩, [6, 9, 48, 53, 61], [71, 148], [], []⟩
theorem calls_f126 : CallsOk Tryz.prog E_f126 := callsOk_of ⟨⟨c_f71, Tryz.call71, fun _ => words_spec rfl⟩, ⟨⟨c_f148, Tryz.call148, fun _ => words_spec rfl⟩, trivial⟩⟩
noncomputable def b_f126 : Code := (Tryz.f126.body).getD .skip
@[reducible] def R_f126 : List (Ty × List Tag) := [((.sl (.int .i64)), []), ((.int .i64), [])]
noncomputable def sg_f126_1 (s_5 : ByteArray) (width_6 : Int) (t49_7 : Int) (t50_8 : Int) (t48_9 : (List Int)) : St := mk [(0, .dat .str s_5 []), (2, .dat (.int .i64) width_6 []), (9, .slw 48 0), (49, .dat (.int .i64) t49_7 []), (50, .dat (.int .i64) t50_8 [])] [(48, some (.arr (.int .i64) t48_9 false))]
noncomputable def sg_f126_0 (s_2 : ByteArray) (n_3 : Int) (width_4 : Int) : St := mk [(0, .dat .str s_2 []), (1, .dat (.int .i64) n_3 []), (2, .dat (.int .i64) width_4 [])] []
noncomputable def q_f126_0 (m0 : Nat) : K (ResD R_f126) := fin E_f126 [.tmp 6, .tmp 7] [] R_f126
noncomputable def cd_f126_1 : Code := (rgt (rgt (rgt (rgt (rgt (rgt b_f126))))))
noncomputable def q_f126_1 (m0 : Nat) (m1 : Nat) : K (ResD R_f126) := seqK E_f126 (evJ E_f126 (drE E_f126) m1) cd_f126_1 0 (evC E_f126 (evJ E_f126 (drE E_f126) m1) (drE E_f126) cd_f126_1 0) (q_f126_0 m0)
noncomputable def q_f126_2 (m0 : Nat) (m1 : Nat) : K (ResD R_f126) := blockK 0 (q_f126_1 m0 m1)
noncomputable def cd_f126_2 : Code := (lft (lft (rgt (lft (rgt (rgt (rgt (rgt (rgt b_f126)))))))))
noncomputable def j1_f126 (m0 : Nat) (m1 : Nat) (n : Nat) : ByteArray → Int → Int → Int → (List Int) → Option ((List Int) × Int) := fun s_5 width_6 t49_7 t50_8 t48_9 => evJ E_f126 (drE E_f126) n (.loop cd_f126_2) 0 (sg_f126_1 s_5 width_6 t49_7 t50_8 t48_9) (q_f126_2 m0 m1)
theorem st_f126_j1 (m0 : Nat) (m1 : Nat) (n : Nat) (s_5 : ByteArray) (width_6 : Int) (t49_7 : Int) (t50_8 : Int) (t48_9 : (List Int)) : j1_f126 m0 m1 (n + 1) s_5 width_6 t49_7 t50_8 t48_9 = pack_Take.S1 (j1_f126 m0 m1 n) s_5 width_6 t49_7 t50_8 t48_9 := by kernel_rfl
theorem J_f126_1 (m0 : Nat) (m1 : Nat) : ∀ (n : Nat) (s_5 : ByteArray) (width_6 : Int) (t49_7 : Int) (t50_8 : Int) (t48_9 : (List Int)), j1_f126 m0 m1 n s_5 width_6 t49_7 t50_8 t48_9 = pack_Take.l1 n s_5 width_6 t49_7 t50_8 t48_9 := by
  intro n
  induction n with
  | zero => intros; rfl
  | succ n ih =>
    intro s_5 width_6 t49_7 t50_8 t48_9
    have e1 : (j1_f126 m0 m1 n) = (pack_Take.l1 n) := by funext s_5 width_6 t49_7 t50_8 t48_9; exact ih s_5 width_6 t49_7 t50_8 t48_9
    refine (st_f126_j1 m0 m1 n s_5 width_6 t49_7 t50_8 t48_9).trans ?_
    rw [e1]; rfl
noncomputable def cd_f126_3 : Code := (rgt (rgt (rgt (rgt b_f126))))
noncomputable def j0_f126 (m0 : Nat) (n : Nat) : ByteArray → Int → Int → Option ((List Int) × Int) := fun s_2 n_3 width_4 => evJ E_f126 (drE E_f126) n (.tail cd_f126_3) 0 (sg_f126_0 s_2 n_3 width_4) (q_f126_0 m0)
theorem st_f126_j0 (m0 : Nat) (n : Nat) (s_2 : ByteArray) (n_3 : Int) (width_4 : Int) : j0_f126 m0 (n + 1) s_2 n_3 width_4 = pack_Take.S0 (j1_f126 m0 n n) s_2 n_3 width_4 := by kernel_rfl
theorem J_f126_0 (m0 : Nat) : ∀ (n : Nat) (s_2 : ByteArray) (n_3 : Int) (width_4 : Int), j0_f126 m0 n s_2 n_3 width_4 = pack_Take.t0 n s_2 n_3 width_4 := by
  intro n
  induction n with
  | zero => intros; rfl
  | succ n ih =>
    intro s_2 n_3 width_4
    have e0 : (j0_f126 m0 n) = (pack_Take.t0 n) := by funext s_2 n_3 width_4; exact ih s_2 n_3 width_4
    have e1 : (j1_f126 m0 n n) = (pack_Take.l1 n) := by funext s_5 width_6 t49_7 t50_8 t48_9; exact J_f126_1 m0 n n s_5 width_6 t49_7 t50_8 t48_9
    refine (st_f126_j0 m0 n s_2 n_3 width_4).trans ?_
    rw [e1]; rfl
theorem st_f126 (m0 : Nat) (s : ByteArray) (xn : Int) (width : Int) : evC E_f126 (evJ E_f126 (drE E_f126) m0) (drE E_f126) b_f126 0 (st0 [.val .str, .val (.int .i64), .val (.int .i64)] (s, xn, width, ())) (fin E_f126 [.tmp 6, .tmp 7] [] R_f126) = pack_Take.S (j0_f126 m0 m0) s xn width := by kernel_rfl
theorem ev_f126 (s : ByteArray) (xn : Int) (width : Int) : evC E_f126 (evJ E_f126 (drE E_f126) fu) (drE E_f126) b_f126 0 (st0 [.val .str, .val (.int .i64), .val (.int .i64)] (s, xn, width, ())) (fin E_f126 [.tmp 6, .tmp 7] [] R_f126) = pack_Take s xn width := by
  have e0 : (j0_f126 fu fu) = (pack_Take.t0 fu) := by funext s_2 n_3 width_4; exact J_f126_0 fu fu s_2 n_3 width_4
  refine (st_f126 fu s xn width).trans ?_
  rw [e0]; rfl
@[reducible] def sp_f126   : AM.Spec := AM.spec [.val .str, .val (.int .i64), .val (.int .i64)] R_f126 (fun x => pack_Take x.1 x.2.1 x.2.2.1)
theorem c_f126 : Contract Tryz.prog 126 sp_f126 :=
  contract_of (Tab.envOk tabOk _ _) calls_f126 tabOk.mixed (fn := Tryz.f126) (c := b_f126) (ts := [.tmp 6, .tmp 7]) (by kernel_rfl) (by kernel_rfl) (by kernel_rfl) (by decide) (by kernel_rfl) (by decide) rfl fun x _ h => ⟨fu, (ev_f126 x.1 x.2.1 x.2.2.1).trans h⟩
@[reducible] noncomputable def E_f149 : Env := tab.env (AM.look []) ⟨[(0, ⟨[(0, true), (1, true), (7, true), (8, true)], []⟩)], [], [], ⟨[(4, true)], []⟩, [], [], [], []⟩
theorem calls_f149 : CallsOk Tryz.prog E_f149 := callsOk_of trivial
noncomputable def b_f149 : Code := (Tryz.f149.body).getD .skip
@[reducible] def R_f149 : List (Ty × List Tag) := [((.int .i64), [])]
noncomputable def sg_f149_0 (s_1 : (List Int)) (v_2 : Int) (t7_3 : Int) (t8_4 : Int) : St := mk [(0, .dat (.sl (.int .i64)) s_1 []), (1, .dat (.int .i64) v_2 []), (7, .dat (.int .i64) t7_3 []), (8, .dat (.int .i64) t8_4 [])] []
noncomputable def q_f149_0 (m0 : Nat) : K (ResD R_f149) := fin E_f149 [.tmp 4] [] R_f149
noncomputable def cd_f149_1 : Code := (rgt (rgt b_f149))
noncomputable def q_f149_1 (m0 : Nat) : K (ResD R_f149) := seqK E_f149 (evJ E_f149 (drE E_f149) m0) cd_f149_1 0 (evC E_f149 (evJ E_f149 (drE E_f149) m0) (drE E_f149) cd_f149_1 0) (q_f149_0 m0)
noncomputable def q_f149_2 (m0 : Nat) : K (ResD R_f149) := blockK 0 (q_f149_1 m0)
noncomputable def cd_f149_2 : Code := (lft (lft (rgt (lft (rgt b_f149)))))
noncomputable def j0_f149 (m0 : Nat) (n : Nat) : (List Int) → Int → Int → Int → Option (Int) := fun s_1 v_2 t7_3 t8_4 => evJ E_f149 (drE E_f149) n (.loop cd_f149_2) 0 (sg_f149_0 s_1 v_2 t7_3 t8_4) (q_f149_2 m0)
theorem st_f149_j0 (m0 : Nat) (n : Nat) (s_1 : (List Int)) (v_2 : Int) (t7_3 : Int) (t8_4 : Int) : j0_f149 m0 (n + 1) s_1 v_2 t7_3 t8_4 = slices_Index_int_int.S0 (j0_f149 m0 n) s_1 v_2 t7_3 t8_4 := by kernel_rfl
theorem J_f149_0 (m0 : Nat) : ∀ (n : Nat) (s_1 : (List Int)) (v_2 : Int) (t7_3 : Int) (t8_4 : Int), j0_f149 m0 n s_1 v_2 t7_3 t8_4 = slices_Index_int_int.l0 n s_1 v_2 t7_3 t8_4 := by
  intro n
  induction n with
  | zero => intros; rfl
  | succ n ih =>
    intro s_1 v_2 t7_3 t8_4
    have e0 : (j0_f149 m0 n) = (slices_Index_int_int.l0 n) := by funext s_1 v_2 t7_3 t8_4; exact ih s_1 v_2 t7_3 t8_4
    refine (st_f149_j0 m0 n s_1 v_2 t7_3 t8_4).trans ?_
    rw [e0]; rfl
theorem st_f149 (m0 : Nat) (s : (List Int)) (v : Int) : evC E_f149 (evJ E_f149 (drE E_f149) m0) (drE E_f149) b_f149 0 (st0 [.val (.sl (.int .i64)), .val (.int .i64)] (s, v, ())) (fin E_f149 [.tmp 4] [] R_f149) = slices_Index_int_int.S (j0_f149 m0 m0) s v := by kernel_rfl
theorem ev_f149 (s : (List Int)) (v : Int) : evC E_f149 (evJ E_f149 (drE E_f149) fu) (drE E_f149) b_f149 0 (st0 [.val (.sl (.int .i64)), .val (.int .i64)] (s, v, ())) (fin E_f149 [.tmp 4] [] R_f149) = slices_Index_int_int s v := by
  have e0 : (j0_f149 fu fu) = (slices_Index_int_int.l0 fu) := by funext s_1 v_2 t7_3 t8_4; exact J_f149_0 fu fu s_1 v_2 t7_3 t8_4
  refine (st_f149 fu s v).trans ?_
  rw [e0]; rfl
@[reducible] def sp_f149   : AM.Spec := AM.spec [.val (.sl (.int .i64)), .val (.int .i64)] R_f149 (fun x => slices_Index_int_int x.1 x.2.1)
theorem c_f149 : Contract Tryz.prog 149 sp_f149 :=
  contract_of (Tab.envOk tabOk _ _) calls_f149 tabOk.mixed (fn := Tryz.f149) (c := b_f149) (ts := [.tmp 4]) (by kernel_rfl) (by kernel_rfl) (by kernel_rfl) (by decide) (by kernel_rfl) (by decide) rfl fun x _ h => ⟨fu, (ev_f149 x.1 x.2.1).trans h⟩
@[reducible] noncomputable def E_f127 : Env := tab.env (AM.look [(149, sp_f149)]) ⟨[], [], [], ⟨[(4, true)], []⟩, [], [149], [], []⟩
theorem calls_f127 : CallsOk Tryz.prog E_f127 := callsOk_of ⟨⟨c_f149, Tryz.call149, fun _ => words_spec rfl⟩, trivial⟩
noncomputable def b_f127 : Code := (Tryz.f127.body).getD .skip
@[reducible] def R_f127 : List (Ty × List Tag) := [(.bool, [])]
theorem st_f127 (m0 : Nat) (s : (List Int)) (v : Int) : evC E_f127 (evJ E_f127 (drE E_f127) m0) (drE E_f127) b_f127 0 (st0 [.val (.sl (.int .i64)), .val (.int .i64)] (s, v, ())) (fin E_f127 [.tmp 4] [] R_f127) = slices_Contains_int_int s v := by kernel_rfl
theorem ev_f127 (s : (List Int)) (v : Int) : evC E_f127 (evJ E_f127 (drE E_f127) fu) (drE E_f127) b_f127 0 (st0 [.val (.sl (.int .i64)), .val (.int .i64)] (s, v, ())) (fin E_f127 [.tmp 4] [] R_f127) = slices_Contains_int_int s v := st_f127 fu s v
@[reducible] def sp_f127   : AM.Spec := AM.spec [.val (.sl (.int .i64)), .val (.int .i64)] R_f127 (fun x => slices_Contains_int_int x.1 x.2.1)
theorem c_f127 : Contract Tryz.prog 127 sp_f127 :=
  contract_of (Tab.envOk tabOk _ _) calls_f127 tabOk.mixed (fn := Tryz.f127) (c := b_f127) (ts := [.tmp 4]) (by kernel_rfl) (by kernel_rfl) (by kernel_rfl) (by decide) (by kernel_rfl) (by decide) rfl fun x _ h => ⟨fu, (ev_f127 x.1 x.2.1).trans h⟩
@[reducible] noncomputable def E_f95 : Env := tab.env (AM.look [(126, sp_f126), (127, sp_f127)]) ⟨[], [], [], ⟨[(4, true), (5, true)], [(17, true)]⟩, [], [127], [], []⟩
theorem calls_f95 : CallsOk Tryz.prog E_f95 := callsOk_of ⟨⟨c_f126, Tryz.call126, fun h => nomatch (show false = true from h)⟩, ⟨⟨c_f127, Tryz.call127, fun _ => words_spec rfl⟩, trivial⟩⟩
noncomputable def b_f95 : Code := (Tryz.f95.body).getD .skip
@[reducible] def R_f95 : List (Ty × List Tag) := [((.sl (.int .i64)), []), ((.int .i64), [])]
theorem st_f95 (m0 : Nat) (s : ByteArray) (xn : Int) : evC E_f95 (evJ E_f95 (drE E_f95) m0) (drE E_f95) b_f95 0 (st0 [.val .str, .val (.int .i64)] (s, xn, ())) (fin E_f95 [.tmp 4, .tmp 5] [] R_f95) = nulls_bits s xn := by kernel_rfl
theorem ev_f95 (s : ByteArray) (xn : Int) : evC E_f95 (evJ E_f95 (drE E_f95) fu) (drE E_f95) b_f95 0 (st0 [.val .str, .val (.int .i64)] (s, xn, ())) (fin E_f95 [.tmp 4, .tmp 5] [] R_f95) = nulls_bits s xn := st_f95 fu s xn
@[reducible] def sp_f95   : AM.Spec := AM.spec [.val .str, .val (.int .i64)] R_f95 (fun x => nulls_bits x.1 x.2.1)
theorem c_f95 : Contract Tryz.prog 95 sp_f95 :=
  contract_of (Tab.envOk tabOk _ _) calls_f95 tabOk.mixed (fn := Tryz.f95) (c := b_f95) (ts := [.tmp 4, .tmp 5]) (by kernel_rfl) (by kernel_rfl) (by kernel_rfl) (by decide) (by kernel_rfl) (by decide) rfl fun x _ h => ⟨fu, (ev_f95 x.1 x.2.1).trans h⟩
@[reducible] noncomputable def E_f55 : Env := tab.env (AM.look [(95, sp_f95)]) ⟨[(0, ⟨[(7, true), (8, true), (17, true), (18, true), (19, true)], []⟩)], [], [], ⟨[(4, true), (5, true)], []⟩, [], [], [], []⟩
theorem calls_f55 : CallsOk Tryz.prog E_f55 := callsOk_of ⟨⟨c_f95, Tryz.call95, fun h => nomatch (show false = true from h)⟩, trivial⟩
noncomputable def b_f55 : Code := (Tryz.f55.body).getD .skip
@[reducible] def R_f55 : List (Ty × List Tag) := [((.int .i64), []), ((.int .i64), [])]
noncomputable def sg_f55_0 (e_2 : Int) (k_3 : Int) (t17_4 : (List Int)) (t18_5 : Int) (t19_6 : Int) : St := mk [(7, .dat (.int .i64) e_2 []), (8, .dat (.int .i64) k_3 []), (17, .dat (.sl (.int .i64)) t17_4 []), (18, .dat (.int .i64) t18_5 []), (19, .dat (.int .i64) t19_6 [])] []
noncomputable def q_f55_0 (m0 : Nat) : K (ResD R_f55) := fin E_f55 [.tmp 4, .tmp 5] [] R_f55
noncomputable def cd_f55_1 : Code := (rgt (rgt (rgt (rgt b_f55))))
noncomputable def q_f55_1 (m0 : Nat) : K (ResD R_f55) := seqK E_f55 (evJ E_f55 (drE E_f55) m0) cd_f55_1 0 (evC E_f55 (evJ E_f55 (drE E_f55) m0) (drE E_f55) cd_f55_1 0) (q_f55_0 m0)
noncomputable def q_f55_2 (m0 : Nat) : K (ResD R_f55) := blockK 0 (q_f55_1 m0)
noncomputable def cd_f55_2 : Code := (lft (lft (rgt (lft (rgt (rgt (rgt b_f55)))))))
noncomputable def j0_f55 (m0 : Nat) (n : Nat) : Int → Int → (List Int) → Int → Int → Option (Int × Int) := fun e_2 k_3 t17_4 t18_5 t19_6 => evJ E_f55 (drE E_f55) n (.loop cd_f55_2) 0 (sg_f55_0 e_2 k_3 t17_4 t18_5 t19_6) (q_f55_2 m0)
theorem st_f55_j0 (m0 : Nat) (n : Nat) (e_2 : Int) (k_3 : Int) (t17_4 : (List Int)) (t18_5 : Int) (t19_6 : Int) : j0_f55 m0 (n + 1) e_2 k_3 t17_4 t18_5 t19_6 = nulls_Count.S0 (j0_f55 m0 n) e_2 k_3 t17_4 t18_5 t19_6 := by kernel_rfl
theorem J_f55_0 (m0 : Nat) : ∀ (n : Nat) (e_2 : Int) (k_3 : Int) (t17_4 : (List Int)) (t18_5 : Int) (t19_6 : Int), j0_f55 m0 n e_2 k_3 t17_4 t18_5 t19_6 = nulls_Count.l0 n e_2 k_3 t17_4 t18_5 t19_6 := by
  intro n
  induction n with
  | zero => intros; rfl
  | succ n ih =>
    intro e_2 k_3 t17_4 t18_5 t19_6
    have e0 : (j0_f55 m0 n) = (nulls_Count.l0 n) := by funext e_2 k_3 t17_4 t18_5 t19_6; exact ih e_2 k_3 t17_4 t18_5 t19_6
    refine (st_f55_j0 m0 n e_2 k_3 t17_4 t18_5 t19_6).trans ?_
    rw [e0]; rfl
theorem st_f55 (m0 : Nat) (s : ByteArray) (xn : Int) : evC E_f55 (evJ E_f55 (drE E_f55) m0) (drE E_f55) b_f55 0 (st0 [.val .str, .val (.int .i64)] (s, xn, ())) (fin E_f55 [.tmp 4, .tmp 5] [] R_f55) = nulls_Count.S (j0_f55 m0 m0) s xn := by kernel_rfl
theorem ev_f55 (s : ByteArray) (xn : Int) : evC E_f55 (evJ E_f55 (drE E_f55) fu) (drE E_f55) b_f55 0 (st0 [.val .str, .val (.int .i64)] (s, xn, ())) (fin E_f55 [.tmp 4, .tmp 5] [] R_f55) = nulls_Count s xn := by
  have e0 : (j0_f55 fu fu) = (nulls_Count.l0 fu) := by funext e_2 k_3 t17_4 t18_5 t19_6; exact J_f55_0 fu fu e_2 k_3 t17_4 t18_5 t19_6
  refine (st_f55 fu s xn).trans ?_
  rw [e0]; rfl
@[reducible] def sp_f55   : AM.Spec := AM.spec [.val .str, .val (.int .i64)] R_f55 (fun x => nulls_Count x.1 x.2.1)
theorem c_f55 : Contract Tryz.prog 55 sp_f55 :=
  contract_of (Tab.envOk tabOk _ _) calls_f55 tabOk.mixed (fn := Tryz.f55) (c := b_f55) (ts := [.tmp 4, .tmp 5]) (by kernel_rfl) (by kernel_rfl) (by kernel_rfl) (by decide) (by kernel_rfl) (by decide) rfl fun x _ h => ⟨fu, (ev_f55 x.1 x.2.1).trans h⟩
@[reducible] noncomputable def E_f128 : Env := tab.env (AM.look []) ⟨[(0, ⟨[(0, true), (6, true), (27, true), (28, true)], [(26, true)]⟩), (2, ⟨[(0, true), (6, true), (7, true), (8, true), (27, true), (28, true), (31, true)], [(26, true)]⟩)], [], [], ⟨[(4, true), (5, true)], [(4, true), (26, true)]⟩, [4, 6, 26, 47, 53], [], [], []⟩
theorem calls_f128 : CallsOk Tryz.prog E_f128 := callsOk_of trivial
noncomputable def b_f128 : Code := (Tryz.f128.body).getD .skip
@[reducible] def R_f128 : List (Ty × List Tag) := [((.sl (.int .i64)), []), ((.int .i64), [])]
noncomputable def sg_f128_1 (s_5 : ByteArray) (k_6 : Int) (w_7 : Int) (t27_8 : Int) (t28_9 : Int) (t31_10 : Int) (t26_11 : (List Int)) : St := mk [(0, .dat .str s_5 []), (6, .slw 26 0), (7, .dat (.int .i64) k_6 []), (8, .dat (.int .u64) w_7 []), (27, .dat (.int .i64) t27_8 []), (28, .dat (.int .i64) t28_9 []), (31, .dat (.int .i64) t31_10 [])] [(26, some (.arr (.int .i64) t26_11 false))]
noncomputable def sg_f128_0 (s_1 : ByteArray) (t27_2 : Int) (t28_3 : Int) (t26_4 : (List Int)) : St := mk [(0, .dat .str s_1 []), (6, .slw 26 0), (27, .dat (.int .i64) t27_2 []), (28, .dat (.int .i64) t28_3 [])] [(26, some (.arr (.int .i64) t26_4 false))]
noncomputable def q_f128_0 (m0 : Nat) : K (ResD R_f128) := fin E_f128 [.tmp 4, .tmp 5] [] R_f128
noncomputable def cd_f128_1 : Code := (rgt (rgt (rgt (rgt b_f128))))
noncomputable def q_f128_1 (m0 : Nat) : K (ResD R_f128) := seqK E_f128 (evJ E_f128 (drE E_f128) m0) cd_f128_1 0 (evC E_f128 (evJ E_f128 (drE E_f128) m0) (drE E_f128) cd_f128_1 0) (q_f128_0 m0)
noncomputable def q_f128_2 (m0 : Nat) : K (ResD R_f128) := blockK 0 (q_f128_1 m0)
noncomputable def cd_f128_2 : Code := (lft (lft (rgt (lft (rgt (rgt (rgt b_f128)))))))
noncomputable def j0_f128 (m0 : Nat) (n : Nat) : ByteArray → Int → Int → (List Int) → Option ((List Int) × Int) := fun s_1 t27_2 t28_3 t26_4 => evJ E_f128 (drE E_f128) n (.loop cd_f128_2) 0 (sg_f128_0 s_1 t27_2 t28_3 t26_4) (q_f128_2 m0)
noncomputable def q_f128_3 (m0 : Nat) (m1 : Nat) : K (ResD R_f128) := loopK (E_f128.loop 0) (fun s => evJ E_f128 (drE E_f128) m1 (.loop cd_f128_2) 0 s (q_f128_2 m0)) (q_f128_2 m0)
noncomputable def cd_f128_3 : Code := (rgt (rgt (rgt cd_f128_2)))
noncomputable def q_f128_4 (m0 : Nat) (m1 : Nat) : K (ResD R_f128) := seqK E_f128 (evJ E_f128 (drE E_f128) m1) cd_f128_3 0 (evC E_f128 (evJ E_f128 (drE E_f128) m1) (drE E_f128) cd_f128_3 0) (q_f128_3 m0 m1)
noncomputable def q_f128_5 (m0 : Nat) (m1 : Nat) : K (ResD R_f128) := blockK 1 (q_f128_4 m0 m1)
noncomputable def cd_f128_4 : Code := (rgt (rgt (rgt (lft (lft (rgt (rgt cd_f128_2)))))))
noncomputable def q_f128_6 (m0 : Nat) (m1 : Nat) : K (ResD R_f128) := seqK E_f128 (evJ E_f128 (drE E_f128) m1) cd_f128_4 1 (evC E_f128 (evJ E_f128 (drE E_f128) m1) (drE E_f128) cd_f128_4 1) (q_f128_5 m0 m1)
noncomputable def q_f128_7 (m0 : Nat) (m1 : Nat) : K (ResD R_f128) := blockK 2 (q_f128_6 m0 m1)
noncomputable def cd_f128_5 : Code := (lft (lft (rgt (lft (rgt (rgt (lft (lft (rgt (rgt cd_f128_2))))))))))
noncomputable def j1_f128 (m0 : Nat) (m1 : Nat) (n : Nat) : ByteArray → Int → Int → Int → Int → Int → (List Int) → Option ((List Int) × Int) := fun s_5 k_6 w_7 t27_8 t28_9 t31_10 t26_11 => evJ E_f128 (drE E_f128) n (.loop cd_f128_5) 2 (sg_f128_1 s_5 k_6 w_7 t27_8 t28_9 t31_10 t26_11) (q_f128_7 m0 m1)
theorem st_f128_j1 (m0 : Nat) (m1 : Nat) (n : Nat) (s_5 : ByteArray) (k_6 : Int) (w_7 : Int) (t27_8 : Int) (t28_9 : Int) (t31_10 : Int) (t26_11 : (List Int)) : j1_f128 m0 m1 (n + 1) s_5 k_6 w_7 t27_8 t28_9 t31_10 t26_11 = plain_TakeInts.S1 (j0_f128 m0 m1) (j1_f128 m0 m1 n) s_5 k_6 w_7 t27_8 t28_9 t31_10 t26_11 := by kernel_rfl
theorem J_f128_1 (m0 : Nat) (m1 : Nat) : ∀ (n : Nat) (s_5 : ByteArray) (k_6 : Int) (w_7 : Int) (t27_8 : Int) (t28_9 : Int) (t31_10 : Int) (t26_11 : (List Int)), j1_f128 m0 m1 n s_5 k_6 w_7 t27_8 t28_9 t31_10 t26_11 = plain_TakeInts.l1 (j0_f128 m0 m1) n s_5 k_6 w_7 t27_8 t28_9 t31_10 t26_11 := by
  intro n
  induction n with
  | zero => intros; rfl
  | succ n ih =>
    intro s_5 k_6 w_7 t27_8 t28_9 t31_10 t26_11
    have e1 : (j1_f128 m0 m1 n) = (plain_TakeInts.l1 (j0_f128 m0 m1) n) := by funext s_5 k_6 w_7 t27_8 t28_9 t31_10 t26_11; exact ih s_5 k_6 w_7 t27_8 t28_9 t31_10 t26_11
    refine (st_f128_j1 m0 m1 n s_5 k_6 w_7 t27_8 t28_9 t31_10 t26_11).trans ?_
    rw [e1]; rfl
theorem st_f128_j0 (m0 : Nat) (n : Nat) (s_1 : ByteArray) (t27_2 : Int) (t28_3 : Int) (t26_4 : (List Int)) : j0_f128 m0 (n + 1) s_1 t27_2 t28_3 t26_4 = plain_TakeInts.S0 (j1_f128 m0 n n) s_1 t27_2 t28_3 t26_4 := by kernel_rfl
theorem J_f128_0 (m0 : Nat) : ∀ (n : Nat) (s_1 : ByteArray) (t27_2 : Int) (t28_3 : Int) (t26_4 : (List Int)), j0_f128 m0 n s_1 t27_2 t28_3 t26_4 = plain_TakeInts.l0 n s_1 t27_2 t28_3 t26_4 := by
  intro n
  induction n with
  | zero => intros; rfl
  | succ n ih =>
    intro s_1 t27_2 t28_3 t26_4
    have e0 : (j0_f128 m0 n) = (plain_TakeInts.l0 n) := by funext s_1 t27_2 t28_3 t26_4; exact ih s_1 t27_2 t28_3 t26_4
    have e1 : (j1_f128 m0 n n) = (plain_TakeInts.l1 (plain_TakeInts.l0 n) n) := by rw [← e0]; funext s_5 k_6 w_7 t27_8 t28_9 t31_10 t26_11; exact J_f128_1 m0 n n s_5 k_6 w_7 t27_8 t28_9 t31_10 t26_11
    refine (st_f128_j0 m0 n s_1 t27_2 t28_3 t26_4).trans ?_
    rw [e1]; rfl
theorem st_f128 (m0 : Nat) (s : ByteArray) (xn : Int) : evC E_f128 (evJ E_f128 (drE E_f128) m0) (drE E_f128) b_f128 0 (st0 [.val .str, .val (.int .i64)] (s, xn, ())) (fin E_f128 [.tmp 4, .tmp 5] [] R_f128) = plain_TakeInts.S (j0_f128 m0 m0) s xn := by kernel_rfl
theorem ev_f128 (s : ByteArray) (xn : Int) : evC E_f128 (evJ E_f128 (drE E_f128) fu) (drE E_f128) b_f128 0 (st0 [.val .str, .val (.int .i64)] (s, xn, ())) (fin E_f128 [.tmp 4, .tmp 5] [] R_f128) = plain_TakeInts s xn := by
  have e0 : (j0_f128 fu fu) = (plain_TakeInts.l0 fu) := by funext s_1 t27_2 t28_3 t26_4; exact J_f128_0 fu fu s_1 t27_2 t28_3 t26_4
  refine (st_f128 fu s xn).trans ?_
  rw [e0]; rfl
@[reducible] def sp_f128   : AM.Spec := AM.spec [.val .str, .val (.int .i64)] R_f128 (fun x => plain_TakeInts x.1 x.2.1)
theorem c_f128 : Contract Tryz.prog 128 sp_f128 :=
  contract_of (Tab.envOk tabOk _ _) calls_f128 tabOk.mixed (fn := Tryz.f128) (c := b_f128) (ts := [.tmp 4, .tmp 5]) (by kernel_rfl) (by kernel_rfl) (by kernel_rfl) (by decide) (by kernel_rfl) (by decide) rfl fun x _ h => ⟨fu, (ev_f128 x.1 x.2.1).trans h⟩
@[reducible] noncomputable def E_f175 : Env := tab.env (AM.look []) ⟨[], [], [], ⟨[(2, true)], []⟩, [], [], [], []⟩
theorem calls_f175 : CallsOk Tryz.prog E_f175 := callsOk_of trivial
noncomputable def b_f175 : Code := (Tryz.f175.body).getD .skip
@[reducible] def R_f175 : List (Ty × List Tag) := [((.int .i64), [])]
theorem st_f175 (m0 : Nat) (word : Int) : evC E_f175 (evJ E_f175 (drE E_f175) m0) (drE E_f175) b_f175 0 (st0 [.val (.int .i64)] (word, ())) (fin E_f175 [.tmp 2] [] R_f175) = some (bits_Zag word) := by kernel_rfl
theorem ev_f175 (word : Int) : evC E_f175 (evJ E_f175 (drE E_f175) fu) (drE E_f175) b_f175 0 (st0 [.val (.int .i64)] (word, ())) (fin E_f175 [.tmp 2] [] R_f175) = some (bits_Zag word) := st_f175 fu word
@[reducible] def sp_f175   : AM.Spec := AM.spec [.val (.int .i64)] R_f175 (fun x => some (bits_Zag x.1))
theorem c_f175 : Contract Tryz.prog 175 sp_f175 :=
  contract_of (Tab.envOk tabOk _ _) calls_f175 tabOk.mixed (fn := Tryz.f175) (c := b_f175) (ts := [.tmp 2]) (by kernel_rfl) (by kernel_rfl) (by kernel_rfl) (by decide) (by kernel_rfl) (by decide) rfl fun x _ h => ⟨fu, (ev_f175 x.1).trans h⟩
@[reducible] noncomputable def E_f176 : Env := tab.env (AM.look [(118, sp_f118), (105, sp_f105)]) ⟨[], [], [], ⟨[(2, true)], []⟩, [], [105, 118], [], []⟩
theorem calls_f176 : CallsOk Tryz.prog E_f176 := callsOk_of ⟨⟨c_f118, Tryz.call118, fun _ => words_spec rfl⟩, ⟨⟨c_f105, Tryz.call105, fun _ => words_spec rfl⟩, trivial⟩⟩
noncomputable def b_f176 : Code := (Tryz.f176.body).getD .skip
@[reducible] def R_f176 : List (Ty × List Tag) := [((.int .i64), [])]
theorem st_f176 (m0 : Nat) (xn : Int) : evC E_f176 (evJ E_f176 (drE E_f176) m0) (drE E_f176) b_f176 0 (st0 [.val (.int .i64)] (xn, ())) (fin E_f176 [.tmp 2] [] R_f176) = vint_Len xn := by kernel_rfl
theorem ev_f176 (xn : Int) : evC E_f176 (evJ E_f176 (drE E_f176) fu) (drE E_f176) b_f176 0 (st0 [.val (.int .i64)] (xn, ())) (fin E_f176 [.tmp 2] [] R_f176) = vint_Len xn := st_f176 fu xn
@[reducible] def sp_f176   : AM.Spec := AM.spec [.val (.int .i64)] R_f176 (fun x => vint_Len x.1)
theorem c_f176 : Contract Tryz.prog 176 sp_f176 :=
  contract_of (Tab.envOk tabOk _ _) calls_f176 tabOk.mixed (fn := Tryz.f176) (c := b_f176) (ts := [.tmp 2]) (by kernel_rfl) (by kernel_rfl) (by kernel_rfl) (by decide) (by kernel_rfl) (by decide) rfl fun x _ h => ⟨fu, (ev_f176 x.1).trans h⟩
@[reducible] noncomputable def E_f150 : Env := tab.env (AM.look [(175, sp_f175), (176, sp_f176)]) ⟨[(0, ⟨[(0, true), (5, true), (11, true), (12, true)], []⟩)], [], [], ⟨[(2, true), (3, true), (4, true)], []⟩, [], [175, 176], [], []⟩
theorem calls_f150 : CallsOk Tryz.prog E_f150 := callsOk_of ⟨⟨c_f175, Tryz.call175, fun _ => words_spec rfl⟩, ⟨⟨c_f176, Tryz.call176, fun _ => words_spec rfl⟩, trivial⟩⟩
noncomputable def b_f150 : Code := (Tryz.f150.body).getD .skip
@[reducible] def R_f150 : List (Ty × List Tag) := [((.int .i64), []), ((.int .i64), []), ((.int .i64), [])]
noncomputable def sg_f150_0 (s_1 : ByteArray) (w_2 : Int) (t11_3 : Int) (t12_4 : Int) : St := mk [(0, .dat .str s_1 []), (5, .dat (.int .u64) w_2 []), (11, .dat (.int .i64) t11_3 []), (12, .dat (.int .i64) t12_4 [])] []
noncomputable def q_f150_0 (m0 : Nat) : K (ResD R_f150) := fin E_f150 [.tmp 2, .tmp 3, .tmp 4] [] R_f150
noncomputable def cd_f150_1 : Code := (rgt (rgt (rgt b_f150)))
noncomputable def q_f150_1 (m0 : Nat) : K (ResD R_f150) := seqK E_f150 (evJ E_f150 (drE E_f150) m0) cd_f150_1 0 (evC E_f150 (evJ E_f150 (drE E_f150) m0) (drE E_f150) cd_f150_1 0) (q_f150_0 m0)
noncomputable def q_f150_2 (m0 : Nat) : K (ResD R_f150) := blockK 0 (q_f150_1 m0)
noncomputable def cd_f150_2 : Code := (lft (lft (rgt (lft (rgt (rgt b_f150))))))
noncomputable def j0_f150 (m0 : Nat) (n : Nat) : ByteArray → Int → Int → Int → Option (Int × Int × Int) := fun s_1 w_2 t11_3 t12_4 => evJ E_f150 (drE E_f150) n (.loop cd_f150_2) 0 (sg_f150_0 s_1 w_2 t11_3 t12_4) (q_f150_2 m0)
theorem st_f150_j0 (m0 : Nat) (n : Nat) (s_1 : ByteArray) (w_2 : Int) (t11_3 : Int) (t12_4 : Int) : j0_f150 m0 (n + 1) s_1 w_2 t11_3 t12_4 = vint_Take.S0 (j0_f150 m0 n) s_1 w_2 t11_3 t12_4 := by kernel_rfl
theorem J_f150_0 (m0 : Nat) : ∀ (n : Nat) (s_1 : ByteArray) (w_2 : Int) (t11_3 : Int) (t12_4 : Int), j0_f150 m0 n s_1 w_2 t11_3 t12_4 = vint_Take.l0 n s_1 w_2 t11_3 t12_4 := by
  intro n
  induction n with
  | zero => intros; rfl
  | succ n ih =>
    intro s_1 w_2 t11_3 t12_4
    have e0 : (j0_f150 m0 n) = (vint_Take.l0 n) := by funext s_1 w_2 t11_3 t12_4; exact ih s_1 w_2 t11_3 t12_4
    refine (st_f150_j0 m0 n s_1 w_2 t11_3 t12_4).trans ?_
    rw [e0]; rfl
theorem st_f150 (m0 : Nat) (s : ByteArray) : evC E_f150 (evJ E_f150 (drE E_f150) m0) (drE E_f150) b_f150 0 (st0 [.val .str] (s, ())) (fin E_f150 [.tmp 2, .tmp 3, .tmp 4] [] R_f150) = vint_Take.S (j0_f150 m0 m0) s := by kernel_rfl
theorem ev_f150 (s : ByteArray) : evC E_f150 (evJ E_f150 (drE E_f150) fu) (drE E_f150) b_f150 0 (st0 [.val .str] (s, ())) (fin E_f150 [.tmp 2, .tmp 3, .tmp 4] [] R_f150) = vint_Take s := by
  have e0 : (j0_f150 fu fu) = (vint_Take.l0 fu) := by funext s_1 w_2 t11_3 t12_4; exact J_f150_0 fu fu s_1 w_2 t11_3 t12_4
  refine (st_f150 fu s).trans ?_
  rw [e0]; rfl
@[reducible] def sp_f150   : AM.Spec := AM.spec [.val .str] R_f150 (fun x => vint_Take x.1)
theorem c_f150 : Contract Tryz.prog 150 sp_f150 :=
  contract_of (Tab.envOk tabOk _ _) calls_f150 tabOk.mixed (fn := Tryz.f150) (c := b_f150) (ts := [.tmp 2, .tmp 3, .tmp 4]) (by kernel_rfl) (by kernel_rfl) (by kernel_rfl) (by decide) (by kernel_rfl) (by decide) rfl fun x _ h => ⟨fu, (ev_f150 x.1).trans h⟩
@[reducible] noncomputable def E_f129 : Env := tab.env (AM.look [(150, sp_f150), (106, sp_f106)]) ⟨[(0, ⟨[(0, true), (1, true), (6, true), (7, true)], []⟩)], [], [(15, ⟨[(1, true), (6, true), (7, true)], []⟩)], ⟨[(4, true), (5, true)], []⟩, [], [106, 150], [], []⟩
theorem calls_f129 : CallsOk Tryz.prog E_f129 := callsOk_of ⟨⟨c_f150, Tryz.call150, fun _ => words_spec rfl⟩, ⟨⟨c_f106, Tryz.call106, fun _ => words_spec rfl⟩, trivial⟩⟩
noncomputable def b_f129 : Code := (Tryz.f129.body).getD .skip
@[reducible] def R_f129 : List (Ty × List Tag) := [((.sl (.pair (.int .i64) (.pair (.int .i64) (.int .i64)))), [⟨0, 1, 0, 3⟩]), ((.int .i64), [])]
noncomputable def sg_f129_1 (n_7 : Int) (out_8 : (List (Int × (Int × Int)))) (first_9 : Int) : St := mk [(1, .dat (.int .i64) n_7 []), (6, .dat (.sl (.pair (.int .i64) (.pair (.int .i64) (.int .i64)))) out_8 [⟨0, 385, 0, 3⟩]), (7, .dat (.int .i64) first_9 [])] []
noncomputable def sg_f129_0 (s_1 : ByteArray) (n_2 : Int) (out_3 : (List (Int × (Int × Int)))) (first_4 : Int) : St := mk [(0, .dat .str s_1 []), (1, .dat (.int .i64) n_2 []), (6, .dat (.sl (.pair (.int .i64) (.pair (.int .i64) (.int .i64)))) out_3 [⟨0, 385, 0, 3⟩]), (7, .dat (.int .i64) first_4 [])] []
noncomputable def q_f129_0 (m0 : Nat) : K (ResD R_f129) := fin E_f129 [.tmp 4, .tmp 5] [] R_f129
noncomputable def cd_f129_1 : Code := (rgt (rgt (rgt (rgt (rgt b_f129)))))
noncomputable def j1_f129 (m0 : Nat) (n : Nat) : Int → (List (Int × (Int × Int))) → Int → Option ((List (Int × (Int × Int))) × Int) := fun n_7 out_8 first_9 => evJ E_f129 (drE E_f129) n (.tail cd_f129_1) 0 (sg_f129_1 n_7 out_8 first_9) (q_f129_0 m0)
theorem st_f129_j1 (m0 : Nat) (n : Nat) (n_7 : Int) (out_8 : (List (Int × (Int × Int)))) (first_9 : Int) : j1_f129 m0 (n + 1) n_7 out_8 first_9 = runs_Take.S1 n_7 out_8 first_9 := by kernel_rfl
theorem J_f129_1 (m0 : Nat) : ∀ (n : Nat) (n_7 : Int) (out_8 : (List (Int × (Int × Int)))) (first_9 : Int), j1_f129 m0 n n_7 out_8 first_9 = runs_Take.t1 n n_7 out_8 first_9 := by
  intro n
  induction n with
  | zero => intros; rfl
  | succ n ih =>
    intro n_7 out_8 first_9
    have e1 : (j1_f129 m0 n) = (runs_Take.t1 n) := by funext n_7 out_8 first_9; exact ih n_7 out_8 first_9
    refine (st_f129_j1 m0 n n_7 out_8 first_9).trans ?_
    rfl
noncomputable def q_f129_1 (m0 : Nat) : K (ResD R_f129) := seqK E_f129 (evJ E_f129 (drE E_f129) m0) cd_f129_1 0 (evC E_f129 (evJ E_f129 (drE E_f129) m0) (drE E_f129) cd_f129_1 0) (q_f129_0 m0)
noncomputable def q_f129_2 (m0 : Nat) : K (ResD R_f129) := blockK 0 (q_f129_1 m0)
noncomputable def cd_f129_2 : Code := (lft (lft (lft (rgt (rgt (rgt (rgt b_f129)))))))
noncomputable def j0_f129 (m0 : Nat) (n : Nat) : ByteArray → Int → (List (Int × (Int × Int))) → Int → Option ((List (Int × (Int × Int))) × Int) := fun s_1 n_2 out_3 first_4 => evJ E_f129 (drE E_f129) n (.loop cd_f129_2) 0 (sg_f129_0 s_1 n_2 out_3 first_4) (q_f129_2 m0)
theorem st_f129_j0 (m0 : Nat) (n : Nat) (s_1 : ByteArray) (n_2 : Int) (out_3 : (List (Int × (Int × Int)))) (first_4 : Int) : j0_f129 m0 (n + 1) s_1 n_2 out_3 first_4 = runs_Take.S0 (j1_f129 m0 m0) (j0_f129 m0 n) s_1 n_2 out_3 first_4 := by kernel_rfl
theorem J_f129_0 (m0 : Nat) : ∀ (n : Nat) (s_1 : ByteArray) (n_2 : Int) (out_3 : (List (Int × (Int × Int)))) (first_4 : Int), j0_f129 m0 n s_1 n_2 out_3 first_4 = runs_Take.l0 (j1_f129 m0 m0) n s_1 n_2 out_3 first_4 := by
  intro n
  induction n with
  | zero => intros; rfl
  | succ n ih =>
    intro s_1 n_2 out_3 first_4
    have e0 : (j0_f129 m0 n) = (runs_Take.l0 (j1_f129 m0 m0) n) := by funext s_1 n_2 out_3 first_4; exact ih s_1 n_2 out_3 first_4
    refine (st_f129_j0 m0 n s_1 n_2 out_3 first_4).trans ?_
    rw [e0]; rfl
theorem st_f129 (m0 : Nat) (s : ByteArray) (xn : Int) : evC E_f129 (evJ E_f129 (drE E_f129) m0) (drE E_f129) b_f129 0 (st0 [.val .str, .val (.int .i64)] (s, xn, ())) (fin E_f129 [.tmp 4, .tmp 5] [] R_f129) = runs_Take.S (j0_f129 m0 m0) s xn := by kernel_rfl
theorem ev_f129 (s : ByteArray) (xn : Int) : evC E_f129 (evJ E_f129 (drE E_f129) fu) (drE E_f129) b_f129 0 (st0 [.val .str, .val (.int .i64)] (s, xn, ())) (fin E_f129 [.tmp 4, .tmp 5] [] R_f129) = runs_Take s xn := by
  have e1 : (j1_f129 fu fu) = (runs_Take.t1 fu) := by funext n_7 out_8 first_9; exact J_f129_1 fu fu n_7 out_8 first_9
  have e0 : (j0_f129 fu fu) = (runs_Take.l0 (runs_Take.t1 fu) fu) := by rw [← e1]; funext s_1 n_2 out_3 first_4; exact J_f129_0 fu fu s_1 n_2 out_3 first_4
  refine (st_f129 fu s xn).trans ?_
  rw [e0]; rfl
@[reducible] def sp_f129   : AM.Spec := AM.spec [.val .str, .val (.int .i64)] R_f129 (fun x => runs_Take x.1 x.2.1)
theorem c_f129 : Contract Tryz.prog 129 sp_f129 :=
  contract_of (Tab.envOk tabOk _ _) calls_f129 tabOk.mixed (fn := Tryz.f129) (c := b_f129) (ts := [.tmp 4, .tmp 5]) (by kernel_rfl) (by kernel_rfl) (by kernel_rfl) (by decide) (by kernel_rfl) (by decide) rfl fun x _ h => ⟨fu, (ev_f129 x.1 x.2.1).trans h⟩
@[reducible] noncomputable def E_f190 : Env := tab.env (AM.look []) ⟨[], [], [], ⟨[(4, true), (5, true)], []⟩, [], [], [], []⟩
theorem calls_f190 : CallsOk Tryz.prog E_f190 := callsOk_of trivial
noncomputable def b_f190 : Code := (Tryz.f190.body).getD .skip
@[reducible] def R_f190 : List (Ty × List Tag) := [((.int .u64), []), ((.int .u64), [])]
theorem st_f190 (m0 : Nat) (x : Int) (y : Int) : evC E_f190 (evJ E_f190 (drE E_f190) m0) (drE E_f190) b_f190 0 (st0 [.val (.int .u64), .val (.int .u64)] (x, y, ())) (fin E_f190 [.tmp 4, .tmp 5] [] R_f190) = some (math_bits_Mul64 x y) := by kernel_rfl
theorem ev_f190 (x : Int) (y : Int) : evC E_f190 (evJ E_f190 (drE E_f190) fu) (drE E_f190) b_f190 0 (st0 [.val (.int .u64), .val (.int .u64)] (x, y, ())) (fin E_f190 [.tmp 4, .tmp 5] [] R_f190) = some (math_bits_Mul64 x y) := st_f190 fu x y
@[reducible] def sp_f190   : AM.Spec := AM.spec [.val (.int .u64), .val (.int .u64)] R_f190 (fun x => some (math_bits_Mul64 x.1 x.2.1))
theorem c_f190 : Contract Tryz.prog 190 sp_f190 :=
  contract_of (Tab.envOk tabOk _ _) calls_f190 tabOk.mixed (fn := Tryz.f190) (c := b_f190) (ts := [.tmp 4, .tmp 5]) (by kernel_rfl) (by kernel_rfl) (by kernel_rfl) (by decide) (by kernel_rfl) (by decide) rfl fun x _ h => ⟨fu, (ev_f190 x.1 x.2.1).trans h⟩
@[reducible] noncomputable def E_f177 : Env := tab.env (AM.look [(190, sp_f190)]) ⟨[], [], [], ⟨[(4, true), (5, true)], []⟩, [], [190], [], []⟩
theorem calls_f177 : CallsOk Tryz.prog E_f177 := callsOk_of ⟨⟨c_f190, Tryz.call190, fun _ => words_spec rfl⟩, trivial⟩
noncomputable def b_f177 : Code := (Tryz.f177.body).getD .skip
@[reducible] def R_f177 : List (Ty × List Tag) := [((.int .u64), []), ((.int .u64), [])]
theorem st_f177 (m0 : Nat) (x : Int) (y : Int) : evC E_f177 (evJ E_f177 (drE E_f177) m0) (drE E_f177) b_f177 0 (st0 [.val (.int .u64), .val (.int .u64)] (x, y, ())) (fin E_f177 [.tmp 4, .tmp 5] [] R_f177) = some (math_bits_Mul x y) := by kernel_rfl
theorem ev_f177 (x : Int) (y : Int) : evC E_f177 (evJ E_f177 (drE E_f177) fu) (drE E_f177) b_f177 0 (st0 [.val (.int .u64), .val (.int .u64)] (x, y, ())) (fin E_f177 [.tmp 4, .tmp 5] [] R_f177) = some (math_bits_Mul x y) := st_f177 fu x y
@[reducible] def sp_f177   : AM.Spec := AM.spec [.val (.int .u64), .val (.int .u64)] R_f177 (fun x => some (math_bits_Mul x.1 x.2.1))
theorem c_f177 : Contract Tryz.prog 177 sp_f177 :=
  contract_of (Tab.envOk tabOk _ _) calls_f177 tabOk.mixed (fn := Tryz.f177) (c := b_f177) (ts := [.tmp 4, .tmp 5]) (by kernel_rfl) (by kernel_rfl) (by kernel_rfl) (by decide) (by kernel_rfl) (by decide) rfl fun x _ h => ⟨fu, (ev_f177 x.1 x.2.1).trans h⟩
@[reducible] noncomputable def E_f151 : Env := tab.env (AM.look [(177, sp_f177)]) ⟨[(0, ⟨[(7, true), (8, true)], [(30, true)]⟩)], [], [(3, ⟨[(0, true), (1, true)], []⟩), (6, ⟨[(0, true), (6, true)], []⟩)], ⟨[(4, true)], [(30, true)]⟩, [4, 7, 30, 31, 35, 39, 41, 42, 44, 47], [177], [], []⟩
theorem calls_f151 : CallsOk Tryz.prog E_f151 := callsOk_of ⟨⟨c_f177, Tryz.call177, fun _ => words_spec rfl⟩, trivial⟩
noncomputable def b_f151 : Code := (Tryz.f151.body).getD .skip
@[reducible] def R_f151 : List (Ty × List Tag) := [((.sl (.int .i64)), [])]
noncomputable def sg_f151_2 (n_6 : Int) (t30_7 : (List Int)) : St := mk [(7, .slw 30 0), (8, .dat (.int .i64) n_6 [])] [(30, some (.arr (.int .i64) t30_7 false))]
noncomputable def sg_f151_1 (x_4 : (List Int)) (lo_5 : Int) : St := mk [(0, .dat (.sl (.int .i64)) x_4 []), (6, .dat (.int .u64) lo_5 [])] []
noncomputable def sg_f151_0 (x_1 : (List Int)) (count_2 : Int) : St := mk [(0, .dat (.sl (.int .i64)) x_1 []), (1, .dat (.int .i64) count_2 [])] []
noncomputable def q_f151_0 (m0 : Nat) : K (ResD R_f151) := fin E_f151 [.tmp 4] [] R_f151
noncomputable def cd_f151_1 : Code := (rgt (rgt (rgt (rgt (rgt (rgt (rgt b_f151)))))))
noncomputable def q_f151_1 (m0 : Nat) (m1 : Nat) (m2 : Nat) : K (ResD R_f151) := seqK E_f151 (evJ E_f151 (drE E_f151) m2) cd_f151_1 0 (evC E_f151 (evJ E_f151 (drE E_f151) m2) (drE E_f151) cd_f151_1 0) (q_f151_0 m0)
noncomputable def q_f151_2 (m0 : Nat) (m1 : Nat) (m2 : Nat) : K (ResD R_f151) := blockK 0 (q_f151_1 m0 m1 m2)
noncomputable def cd_f151_2 : Code := (lft (lft (lft (rgt (rgt (rgt (rgt (rgt (rgt b_f151)))))))))
noncomputable def j2_f151 (m0 : Nat) (m1 : Nat) (m2 : Nat) (n : Nat) : Int → (List Int) → Option ((List Int)) := fun n_6 t30_7 => evJ E_f151 (drE E_f151) n (.loop cd_f151_2) 0 (sg_f151_2 n_6 t30_7) (q_f151_2 m0 m1 m2)
theorem st_f151_j2 (m0 : Nat) (m1 : Nat) (m2 : Nat) (n : Nat) (n_6 : Int) (t30_7 : (List Int)) : j2_f151 m0 m1 m2 (n + 1) n_6 t30_7 = slices_Repeat_int_int.S2 (j2_f151 m0 m1 m2 n) n_6 t30_7 := by kernel_rfl
theorem J_f151_2 (m0 : Nat) (m1 : Nat) (m2 : Nat) : ∀ (n : Nat) (n_6 : Int) (t30_7 : (List Int)), j2_f151 m0 m1 m2 n n_6 t30_7 = slices_Repeat_int_int.l2 n n_6 t30_7 := by
  intro n
  induction n with
  | zero => intros; rfl
  | succ n ih =>
    intro n_6 t30_7
    have e2 : (j2_f151 m0 m1 m2 n) = (slices_Repeat_int_int.l2 n) := by funext n_6 t30_7; exact ih n_6 t30_7
    refine (st_f151_j2 m0 m1 m2 n n_6 t30_7).trans ?_
    rw [e2]; rfl
noncomputable def cd_f151_3 : Code := (rgt (rgt (rgt (rgt b_f151))))
noncomputable def j1_f151 (m0 : Nat) (n : Nat) : (List Int) → Int → Option ((List Int)) := fun x_4 lo_5 => evJ E_f151 (drE E_f151) n (.tail cd_f151_3) 0 (sg_f151_1 x_4 lo_5) (q_f151_0 m0)
theorem st_f151_j1 (m0 : Nat) (m1 : Nat) (n : Nat) (x_4 : (List Int)) (lo_5 : Int) : j1_f151 m0 (n + 1) x_4 lo_5 = slices_Repeat_int_int.S1 (j2_f151 m0 m1 n n) x_4 lo_5 := by kernel_rfl
theorem J_f151_1 (m0 : Nat) (m1 : Nat) : ∀ (n : Nat) (x_4 : (List Int)) (lo_5 : Int), j1_f151 m0 n x_4 lo_5 = slices_Repeat_int_int.t1 n x_4 lo_5 := by
  intro n
  induction n with
  | zero => intros; rfl
  | succ n ih =>
    intro x_4 lo_5
    have e1 : (j1_f151 m0 n) = (slices_Repeat_int_int.t1 n) := by funext x_4 lo_5; exact ih x_4 lo_5
    have e2 : (j2_f151 m0 m1 n n) = (slices_Repeat_int_int.l2 n) := by funext n_6 t30_7; exact J_f151_2 m0 m1 n n n_6 t30_7
    refine (st_f151_j1 m0 m1 n x_4 lo_5).trans ?_
    rw [e2]; rfl
noncomputable def cd_f151_4 : Code := (rgt (rgt b_f151))
noncomputable def j0_f151 (m0 : Nat) (n : Nat) : (List Int) → Int → Option ((List Int)) := fun x_1 count_2 => evJ E_f151 (drE E_f151) n (.tail cd_f151_4) 0 (sg_f151_0 x_1 count_2) (q_f151_0 m0)
theorem st_f151_j0 (m0 : Nat) (n : Nat) (x_1 : (List Int)) (count_2 : Int) : j0_f151 m0 (n + 1) x_1 count_2 = slices_Repeat_int_int.S0 (j1_f151 m0 n) x_1 count_2 := by kernel_rfl
theorem J_f151_0 (m0 : Nat) : ∀ (n : Nat) (x_1 : (List Int)) (count_2 : Int), j0_f151 m0 n x_1 count_2 = slices_Repeat_int_int.t0 n x_1 count_2 := by
  intro n
  induction n with
  | zero => intros; rfl
  | succ n ih =>
    intro x_1 count_2
    have e0 : (j0_f151 m0 n) = (slices_Repeat_int_int.t0 n) := by funext x_1 count_2; exact ih x_1 count_2
    have e1 : (j1_f151 m0 n) = (slices_Repeat_int_int.t1 n) := by funext x_4 lo_5; exact J_f151_1 m0 n n x_4 lo_5
    refine (st_f151_j0 m0 n x_1 count_2).trans ?_
    rw [e1]; rfl
theorem st_f151 (m0 : Nat) (x : (List Int)) (count : Int) : evC E_f151 (evJ E_f151 (drE E_f151) m0) (drE E_f151) b_f151 0 (st0 [.val (.sl (.int .i64)), .val (.int .i64)] (x, count, ())) (fin E_f151 [.tmp 4] [] R_f151) = slices_Repeat_int_int.S (j0_f151 m0 m0) x count := by kernel_rfl
theorem ev_f151 (x : (List Int)) (count : Int) : evC E_f151 (evJ E_f151 (drE E_f151) fu) (drE E_f151) b_f151 0 (st0 [.val (.sl (.int .i64)), .val (.int .i64)] (x, count, ())) (fin E_f151 [.tmp 4] [] R_f151) = slices_Repeat_int_int x count := by
  have e0 : (j0_f151 fu fu) = (slices_Repeat_int_int.t0 fu) := by funext x_1 count_2; exact J_f151_0 fu fu x_1 count_2
  refine (st_f151 fu x count).trans ?_
  rw [e0]; rfl
@[reducible] def sp_f151   : AM.Spec := AM.spec [.val (.sl (.int .i64)), .val (.int .i64)] R_f151 (fun x => slices_Repeat_int_int x.1 x.2.1)
theorem c_f151 : Contract Tryz.prog 151 sp_f151 :=
  contract_of (Tab.envOk tabOk _ _) calls_f151 tabOk.mixed (fn := Tryz.f151) (c := b_f151) (ts := [.tmp 4]) (by kernel_rfl) (by kernel_rfl) (by kernel_rfl) (by decide) (by kernel_rfl) (by decide) rfl fun x _ h => ⟨fu, (ev_f151 x.1 x.2.1).trans h⟩
@[reducible] noncomputable def E_f130 : Env := tab.env (AM.look [(106, sp_f106), (151, sp_f151)]) ⟨[(0, ⟨[(6, true), (18, true), (19, true), (20, true)], []⟩)], [], [], ⟨[(2, true), (3, true)], []⟩, [], [106], [], []⟩
theorem calls_f130 : CallsOk Tryz.prog E_f130 := callsOk_of ⟨⟨c_f106, Tryz.call106, fun _ => words_spec rfl⟩, ⟨⟨c_f151, Tryz.call151, fun h => nomatch (show false = true from h)⟩, trivial⟩⟩
noncomputable def b_f130 : Code := (Tryz.f130.body).getD .skip
@[reducible] def R_f130 : List (Ty × List Tag) := [((.sl (.int .i64)), [⟨0, 1, 0, 1⟩]), ((.int .i64), [])]
noncomputable def sg_f130_0 (out_2 : (List Int)) (t18_3 : (List (Int × (Int × Int)))) (t19_4 : Int) (t20_5 : Int) : St := mk [(6, .dat (.sl (.int .i64)) out_2 [⟨0, 385, 0, 1⟩]), (18, .dat (.sl (.pair (.int .i64) (.pair (.int .i64) (.int .i64)))) t18_3 []), (19, .dat (.int .i64) t19_4 []), (20, .dat (.int .i64) t20_5 [])] []
noncomputable def q_f130_0 (m0 : Nat) : K (ResD R_f130) := fin E_f130 [.tmp 2, .tmp 3] [] R_f130
noncomputable def cd_f130_1 : Code := (rgt (rgt (rgt (rgt (rgt b_f130)))))
noncomputable def q_f130_1 (m0 : Nat) : K (ResD R_f130) := seqK E_f130 (evJ E_f130 (drE E_f130) m0) cd_f130_1 0 (evC E_f130 (evJ E_f130 (drE E_f130) m0) (drE E_f130) cd_f130_1 0) (q_f130_0 m0)
noncomputable def q_f130_2 (m0 : Nat) : K (ResD R_f130) := blockK 0 (q_f130_1 m0)
noncomputable def cd_f130_2 : Code := (lft (lft (rgt (lft (rgt (rgt (rgt (rgt b_f130))))))))
noncomputable def j0_f130 (m0 : Nat) (n : Nat) : (List Int) → (List (Int × (Int × Int))) → Int → Int → Option ((List Int) × Int) := fun out_2 t18_3 t19_4 t20_5 => evJ E_f130 (drE E_f130) n (.loop cd_f130_2) 0 (sg_f130_0 out_2 t18_3 t19_4 t20_5) (q_f130_2 m0)
theorem st_f130_j0 (m0 : Nat) (n : Nat) (out_2 : (List Int)) (t18_3 : (List (Int × (Int × Int)))) (t19_4 : Int) (t20_5 : Int) : j0_f130 m0 (n + 1) out_2 t18_3 t19_4 t20_5 = runs_Flat.S0 (j0_f130 m0 n) out_2 t18_3 t19_4 t20_5 := by kernel_rfl
theorem J_f130_0 (m0 : Nat) : ∀ (n : Nat) (out_2 : (List Int)) (t18_3 : (List (Int × (Int × Int)))) (t19_4 : Int) (t20_5 : Int), j0_f130 m0 n out_2 t18_3 t19_4 t20_5 = runs_Flat.l0 n out_2 t18_3 t19_4 t20_5 := by
  intro n
  induction n with
  | zero => intros; rfl
  | succ n ih =>
    intro out_2 t18_3 t19_4 t20_5
    have e0 : (j0_f130 m0 n) = (runs_Flat.l0 n) := by funext out_2 t18_3 t19_4 t20_5; exact ih out_2 t18_3 t19_4 t20_5
    refine (st_f130_j0 m0 n out_2 t18_3 t19_4 t20_5).trans ?_
    rw [e0]; rfl
theorem st_f130 (m0 : Nat) (l : (List (Int × (Int × Int)))) : evC E_f130 (evJ E_f130 (drE E_f130) m0) (drE E_f130) b_f130 0 (st0 [.val (.sl (.pair (.int .i64) (.pair (.int .i64) (.int .i64))))] (l, ())) (fin E_f130 [.tmp 2, .tmp 3] [] R_f130) = runs_Flat.S (j0_f130 m0 m0) l := by kernel_rfl
theorem ev_f130 (l : (List (Int × (Int × Int)))) : evC E_f130 (evJ E_f130 (drE E_f130) fu) (drE E_f130) b_f130 0 (st0 [.val (.sl (.pair (.int .i64) (.pair (.int .i64) (.int .i64))))] (l, ())) (fin E_f130 [.tmp 2, .tmp 3] [] R_f130) = runs_Flat l := by
  have e0 : (j0_f130 fu fu) = (runs_Flat.l0 fu) := by funext out_2 t18_3 t19_4 t20_5; exact J_f130_0 fu fu out_2 t18_3 t19_4 t20_5
  refine (st_f130 fu l).trans ?_
  rw [e0]; rfl
@[reducible] def sp_f130   : AM.Spec := AM.spec [.val (.sl (.pair (.int .i64) (.pair (.int .i64) (.int .i64))))] R_f130 (fun x => runs_Flat x.1)
theorem c_f130 : Contract Tryz.prog 130 sp_f130 :=
  contract_of (Tab.envOk tabOk _ _) calls_f130 tabOk.mixed (fn := Tryz.f130) (c := b_f130) (ts := [.tmp 2, .tmp 3]) (by kernel_rfl) (by kernel_rfl) (by kernel_rfl) (by decide) (by kernel_rfl) (by decide) rfl fun x _ h => ⟨fu, (ev_f130 x.1).trans h⟩
@[reducible] noncomputable def E_f152 : Env := tab.env (AM.look [(150, sp_f150)]) ⟨[], [], [], ⟨[(2, true)], [(1000000, true), (1000001, true)]⟩, [], [150], [], []⟩
theorem calls_f152 : CallsOk Tryz.prog E_f152 := callsOk_of ⟨⟨c_f150, Tryz.call150, fun _ => words_spec rfl⟩, trivial⟩
noncomputable def b_f152 : Code := (Tryz.f152.body).getD .skip
@[reducible] def R_f152 : List (Ty × List Tag) := [((.int .i64), []), (.str, []), (.bool, [])]
theorem st_f152 (m0 : Nat) (t0 : ByteArray) (t1 : Bool) : evC E_f152 (evJ E_f152 (drE E_f152) m0) (drE E_f152) b_f152 0 (st0 [.io .str [], .io .bool []] (t0, t1, ())) (fin E_f152 [.tmp 2] [.io .str [], .io .bool []] R_f152) = frame_Take_1_w t0 t1 := by kernel_rfl
theorem ev_f152 (t0 : ByteArray) (t1 : Bool) : evC E_f152 (evJ E_f152 (drE E_f152) fu) (drE E_f152) b_f152 0 (st0 [.io .str [], .io .bool []] (t0, t1, ())) (fin E_f152 [.tmp 2] [.io .str [], .io .bool []] R_f152) = frame_Take_1_w t0 t1 := st_f152 fu t0 t1
@[reducible] def sp_f152   : AM.Spec := AM.specIo 1 [.io .str [], .io .bool []] R_f152 (fun x => frame_Take_1_w x.1 x.2.1)
theorem c_f152 : Contract Tryz.prog 152 sp_f152 :=
  contract_io (Tab.envOk tabOk _ _) calls_f152 tabOk.mixed (fn := Tryz.f152) (c := b_f152) (ts := [.tmp 2]) (by kernel_rfl) (by kernel_rfl) (by kernel_rfl) (by decide) (by kernel_rfl) (by decide) fun x _ h => ⟨fu, (ev_f152 x.1 x.2.1).trans h⟩
@[reducible] noncomputable def E_f153 : Env := tab.env (AM.look []) ⟨[], [], [], ⟨[(4, true)], []⟩, [], [], [], []⟩
theorem calls_f153 : CallsOk Tryz.prog E_f153 := callsOk_of trivial
noncomputable def b_f153 : Code := (Tryz.f153.body).getD .skip
@[reducible] def R_f153 : List (Ty × List Tag) := [((.int .i64), [])]
theorem st_f153 (m0 : Nat) (xfrom : Int) (xby : Int) : evC E_f153 (evJ E_f153 (drE E_f153) m0) (drE E_f153) b_f153 0 (st0 [.val (.int .i64), .val (.int .i64)] (xfrom, xby, ())) (fin E_f153 [.tmp 4] [] R_f153) = some (frame_moved xfrom xby) := by kernel_rfl
theorem ev_f153 (xfrom : Int) (xby : Int) : evC E_f153 (evJ E_f153 (drE E_f153) fu) (drE E_f153) b_f153 0 (st0 [.val (.int .i64), .val (.int .i64)] (xfrom, xby, ())) (fin E_f153 [.tmp 4] [] R_f153) = some (frame_moved xfrom xby) := st_f153 fu xfrom xby
@[reducible] def sp_f153   : AM.Spec := AM.spec [.val (.int .i64), .val (.int .i64)] R_f153 (fun x => some (frame_moved x.1 x.2.1))
theorem c_f153 : Contract Tryz.prog 153 sp_f153 :=
  contract_of (Tab.envOk tabOk _ _) calls_f153 tabOk.mixed (fn := Tryz.f153) (c := b_f153) (ts := [.tmp 4]) (by kernel_rfl) (by kernel_rfl) (by kernel_rfl) (by decide) (by kernel_rfl) (by decide) rfl fun x _ h => ⟨fu, (ev_f153 x.1 x.2.1).trans h⟩
@[reducible] noncomputable def E_f131 : Env := tab.env (AM.look [(152, sp_f152), (126, sp_f126), (153, sp_f153), (76, sp_f76)]) ⟨[(0, ⟨[(0, true), (6, true), (8, true), (10, true), (54, true), (55, true), (56, true)], [(8, true)]⟩)], [], [(8, ⟨[(0, true), (1, true), (6, true), (7, true), (8, true), (9, true)], [(7, true), (8, true)]⟩), (20, ⟨[(0, true), (6, true), (8, true)], [(8, true)]⟩)], ⟨[(4, true), (5, true)], []⟩, [24], [76, 152, 153], [], []⟩
theorem calls_f131 : CallsOk Tryz.prog E_f131 := callsOk_of ⟨⟨c_f152, Tryz.call152, fun _ => words_io rfl⟩, ⟨⟨c_f126, Tryz.call126, fun h => nomatch (show false = true from h)⟩, ⟨⟨c_f153, Tryz.call153, fun _ => words_spec rfl⟩, ⟨⟨c_f76, Tryz.call76, fun _ => words_spec rfl⟩, trivial⟩⟩⟩⟩
noncomputable def b_f131 : Code := (Tryz.f131.body).getD .skip
@[reducible] def R_f131 : List (Ty × List Tag) := [((.sl (.int .i64)), [⟨0, 1, 0, 1⟩]), ((.int .i64), [])]
noncomputable def sg_f131_2 (s_18 : ByteArray) (out_19 : (List Int)) (bad_20 : Bool) : St := mk [(0, .dat .str s_18 []), (6, .dat (.sl (.int .i64)) out_19 [⟨0, 385, 0, 1⟩]), (8, .ptr 8 0 0)] [(8, some (.var .bool bad_20 []))]
noncomputable def sg_f131_1 (s_9 : ByteArray) (out_10 : (List Int)) (least_11 : Int) (t54_12 : (List Int)) (t55_13 : Int) (t56_14 : Int) (bad_15 : Bool) : St := mk [(0, .dat .str s_9 []), (6, .dat (.sl (.int .i64)) out_10 [⟨0, 385, 0, 1⟩]), (8, .ptr 8 0 0), (10, .dat (.int .i64) least_11 []), (54, .dat (.sl (.int .i64)) t54_12 []), (55, .dat (.int .i64) t55_13 []), (56, .dat (.int .i64) t56_14 [])] [(8, some (.var .bool bad_15 []))]
noncomputable def sg_f131_0 (s_2 : ByteArray) (n_3 : Int) (out_4 : (List Int)) (rest_5 : ByteArray) (bad_6 : Bool) : St := mk [(0, .dat .str s_2 []), (1, .dat (.int .i64) n_3 []), (6, .dat (.sl (.int .i64)) out_4 [⟨0, 385, 0, 1⟩]), (7, .ptr 7 0 0), (8, .ptr 8 0 0), (9, .clo 152 [(7, 0), (8, 0)])] [(7, some (.var .str rest_5 [])), (8, some (.var .bool bad_6 []))]
noncomputable def q_f131_0 (m0 : Nat) : K (ResD R_f131) := fin E_f131 [.tmp 4, .tmp 5] [] R_f131
noncomputable def cd_f131_1 : Code := (rgt (rgt (rgt (rgt (rgt (rgt (rgt b_f131)))))))
noncomputable def j2_f131 (m0 : Nat) (n : Nat) : ByteArray → (List Int) → Bool → Option ((List Int) × Int) := fun s_18 out_19 bad_20 => evJ E_f131 (drE E_f131) n (.tail cd_f131_1) 0 (sg_f131_2 s_18 out_19 bad_20) (q_f131_0 m0)
theorem st_f131_j2 (m0 : Nat) (m1 : Nat) (n : Nat) (s_18 : ByteArray) (out_19 : (List Int)) (bad_20 : Bool) : j2_f131 m0 (n + 1) s_18 out_19 bad_20 = frame_Take.S2 s_18 out_19 bad_20 := by kernel_rfl
theorem J_f131_2 (m0 : Nat) (m1 : Nat) : ∀ (n : Nat) (s_18 : ByteArray) (out_19 : (List Int)) (bad_20 : Bool), j2_f131 m0 n s_18 out_19 bad_20 = frame_Take.t2 n s_18 out_19 bad_20 := by
  intro n
  induction n with
  | zero => intros; rfl
  | succ n ih =>
    intro s_18 out_19 bad_20
    have e2 : (j2_f131 m0 n) = (frame_Take.t2 n) := by funext s_18 out_19 bad_20; exact ih s_18 out_19 bad_20
    refine (st_f131_j2 m0 m1 n s_18 out_19 bad_20).trans ?_
    rfl
noncomputable def q_f131_1 (m0 : Nat) (m1 : Nat) : K (ResD R_f131) := seqK E_f131 (evJ E_f131 (drE E_f131) m1) cd_f131_1 0 (evC E_f131 (evJ E_f131 (drE E_f131) m1) (drE E_f131) cd_f131_1 0) (q_f131_0 m0)
noncomputable def q_f131_2 (m0 : Nat) (m1 : Nat) : K (ResD R_f131) := blockK 0 (q_f131_1 m0 m1)
noncomputable def cd_f131_2 : Code := (lft (lft (rgt (rgt (rgt (rgt (rgt (lft (rgt (lft (rgt (rgt (rgt (rgt (rgt (rgt b_f131))))))))))))))))
noncomputable def j1_f131 (m0 : Nat) (m1 : Nat) (n : Nat) : ByteArray → (List Int) → Int → (List Int) → Int → Int → Bool → Option ((List Int) × Int) := fun s_9 out_10 least_11 t54_12 t55_13 t56_14 bad_15 => evJ E_f131 (drE E_f131) n (.loop cd_f131_2) 0 (sg_f131_1 s_9 out_10 least_11 t54_12 t55_13 t56_14 bad_15) (q_f131_2 m0 m1)
theorem st_f131_j1 (m0 : Nat) (m1 : Nat) (n : Nat) (s_9 : ByteArray) (out_10 : (List Int)) (least_11 : Int) (t54_12 : (List Int)) (t55_13 : Int) (t56_14 : Int) (bad_15 : Bool) : j1_f131 m0 m1 (n + 1) s_9 out_10 least_11 t54_12 t55_13 t56_14 bad_15 = frame_Take.S1 (j2_f131 m0 m1) (j1_f131 m0 m1 n) s_9 out_10 least_11 t54_12 t55_13 t56_14 bad_15 := by kernel_rfl
theorem J_f131_1 (m0 : Nat) (m1 : Nat) : ∀ (n : Nat) (s_9 : ByteArray) (out_10 : (List Int)) (least_11 : Int) (t54_12 : (List Int)) (t55_13 : Int) (t56_14 : Int) (bad_15 : Bool), j1_f131 m0 m1 n s_9 out_10 least_11 t54_12 t55_13 t56_14 bad_15 = frame_Take.l1 (j2_f131 m0 m1) n s_9 out_10 least_11 t54_12 t55_13 t56_14 bad_15 := by
  intro n
  induction n with
  | zero => intros; rfl
  | succ n ih =>
    intro s_9 out_10 least_11 t54_12 t55_13 t56_14 bad_15
    have e1 : (j1_f131 m0 m1 n) = (frame_Take.l1 (j2_f131 m0 m1) n) := by funext s_9 out_10 least_11 t54_12 t55_13 t56_14 bad_15; exact ih s_9 out_10 least_11 t54_12 t55_13 t56_14 bad_15
    refine (st_f131_j1 m0 m1 n s_9 out_10 least_11 t54_12 t55_13 t56_14 bad_15).trans ?_
    rw [e1]; rfl
noncomputable def cd_f131_3 : Code := (rgt (rgt (rgt (rgt (rgt (rgt b_f131))))))
noncomputable def j0_f131 (m0 : Nat) (n : Nat) : ByteArray → Int → (List Int) → ByteArray → Bool → Option ((List Int) × Int) := fun s_2 n_3 out_4 rest_5 bad_6 => evJ E_f131 (drE E_f131) n (.tail cd_f131_3) 0 (sg_f131_0 s_2 n_3 out_4 rest_5 bad_6) (q_f131_0 m0)
theorem st_f131_j0 (m0 : Nat) (n : Nat) (s_2 : ByteArray) (n_3 : Int) (out_4 : (List Int)) (rest_5 : ByteArray) (bad_6 : Bool) : j0_f131 m0 (n + 1) s_2 n_3 out_4 rest_5 bad_6 = frame_Take.S0 (j1_f131 m0 n n) (j2_f131 m0 n) s_2 n_3 out_4 rest_5 bad_6 := by kernel_rfl
theorem J_f131_0 (m0 : Nat) : ∀ (n : Nat) (s_2 : ByteArray) (n_3 : Int) (out_4 : (List Int)) (rest_5 : ByteArray) (bad_6 : Bool), j0_f131 m0 n s_2 n_3 out_4 rest_5 bad_6 = frame_Take.t0 n s_2 n_3 out_4 rest_5 bad_6 := by
  intro n
  induction n with
  | zero => intros; rfl
  | succ n ih =>
    intro s_2 n_3 out_4 rest_5 bad_6
    have e0 : (j0_f131 m0 n) = (frame_Take.t0 n) := by funext s_2 n_3 out_4 rest_5 bad_6; exact ih s_2 n_3 out_4 rest_5 bad_6
    have e2 : (j2_f131 m0 n) = (frame_Take.t2 n) := by funext s_18 out_19 bad_20; exact J_f131_2 m0 n n s_18 out_19 bad_20
    have e1 : (j1_f131 m0 n n) = (frame_Take.l1 (frame_Take.t2 n) n) := by rw [← e2]; funext s_9 out_10 least_11 t54_12 t55_13 t56_14 bad_15; exact J_f131_1 m0 n n s_9 out_10 least_11 t54_12 t55_13 t56_14 bad_15
    refine (st_f131_j0 m0 n s_2 n_3 out_4 rest_5 bad_6).trans ?_
    rw [e1, e2]; rfl
theorem st_f131 (m0 : Nat) (s : ByteArray) (xn : Int) : evC E_f131 (evJ E_f131 (drE E_f131) m0) (drE E_f131) b_f131 0 (st0 [.val .str, .val (.int .i64)] (s, xn, ())) (fin E_f131 [.tmp 4, .tmp 5] [] R_f131) = frame_Take.S (j0_f131 m0 m0) s xn := by kernel_rfl
theorem ev_f131 (s : ByteArray) (xn : Int) : evC E_f131 (evJ E_f131 (drE E_f131) fu) (drE E_f131) b_f131 0 (st0 [.val .str, .val (.int .i64)] (s, xn, ())) (fin E_f131 [.tmp 4, .tmp 5] [] R_f131) = frame_Take s xn := by
  have e0 : (j0_f131 fu fu) = (frame_Take.t0 fu) := by funext s_2 n_3 out_4 rest_5 bad_6; exact J_f131_0 fu fu s_2 n_3 out_4 rest_5 bad_6
  refine (st_f131 fu s xn).trans ?_
  rw [e0]; rfl
@[reducible] def sp_f131   : AM.Spec := AM.spec [.val .str, .val (.int .i64)] R_f131 (fun x => frame_Take x.1 x.2.1)
theorem c_f131 : Contract Tryz.prog 131 sp_f131 :=
  contract_of (Tab.envOk tabOk _ _) calls_f131 tabOk.mixed (fn := Tryz.f131) (c := b_f131) (ts := [.tmp 4, .tmp 5]) (by kernel_rfl) (by kernel_rfl) (by kernel_rfl) (by decide) (by kernel_rfl) (by decide) rfl fun x _ h => ⟨fu, (ev_f131 x.1 x.2.1).trans h⟩
@[reducible] noncomputable def E_f155 : Env := tab.env (AM.look [(150, sp_f150)]) ⟨[], [], [], ⟨[(2, true), (3, true)], []⟩, [], [150], [], []⟩
theorem calls_f155 : CallsOk Tryz.prog E_f155 := callsOk_of ⟨⟨c_f150, Tryz.call150, fun _ => words_spec rfl⟩, trivial⟩
noncomputable def b_f155 : Code := (Tryz.f155.body).getD .skip
@[reducible] def R_f155 : List (Ty × List Tag) := [((.int .i64), []), ((.int .i64), [])]
theorem st_f155 (m0 : Nat) (s : ByteArray) : evC E_f155 (evJ E_f155 (drE E_f155) m0) (drE E_f155) b_f155 0 (st0 [.val .str] (s, ())) (fin E_f155 [.tmp 2, .tmp 3] [] R_f155) = dict_TakeInts_1 s := by kernel_rfl
theorem ev_f155 (s : ByteArray) : evC E_f155 (evJ E_f155 (drE E_f155) fu) (drE E_f155) b_f155 0 (st0 [.val .str] (s, ())) (fin E_f155 [.tmp 2, .tmp 3] [] R_f155) = dict_TakeInts_1 s := st_f155 fu s
@[reducible] def sp_f155   : AM.Spec := AM.spec [.val .str] R_f155 (fun x => dict_TakeInts_1 x.1)
theorem c_f155 : Contract Tryz.prog 155 sp_f155 :=
  contract_of (Tab.envOk tabOk _ _) calls_f155 tabOk.mixed (fn := Tryz.f155) (c := b_f155) (ts := [.tmp 2, .tmp 3]) (by kernel_rfl) (by kernel_rfl) (by kernel_rfl) (by decide) (by kernel_rfl) (by decide) rfl fun x _ h => ⟨fu, (ev_f155 x.1).trans h⟩
@[reducible] noncomputable def E_f191 : Env := tab.env (AM.look []) ⟨[(0, ⟨[(0, true), (1, true), (7, true), (8, true)], []⟩)], [], [], ⟨[(4, true)], []⟩, [], [], [], []⟩
theorem calls_f191 : CallsOk Tryz.prog E_f191 := callsOk_of trivial
noncomputable def b_f191 : Code := (Tryz.f191.body).getD .skip
@[reducible] def R_f191 : List (Ty × List Tag) := [((.int .i64), [])]
noncomputable def sg_f191_0 (s_1 : (List Bool)) (v_2 : Bool) (t7_3 : Int) (t8_4 : Int) : St := mk [(0, .dat (.sl .bool) s_1 []), (1, .dat .bool v_2 []), (7, .dat (.int .i64) t7_3 []), (8, .dat (.int .i64) t8_4 [])] []
noncomputable def q_f191_0 (m0 : Nat) : K (ResD R_f191) := fin E_f191 [.tmp 4] [] R_f191
noncomputable def cd_f191_1 : Code := (rgt (rgt b_f191))
noncomputable def q_f191_1 (m0 : Nat) : K (ResD R_f191) := seqK E_f191 (evJ E_f191 (drE E_f191) m0) cd_f191_1 0 (evC E_f191 (evJ E_f191 (drE E_f191) m0) (drE E_f191) cd_f191_1 0) (q_f191_0 m0)
noncomputable def q_f191_2 (m0 : Nat) : K (ResD R_f191) := blockK 0 (q_f191_1 m0)
noncomputable def cd_f191_2 : Code := (lft (lft (rgt (lft (rgt b_f191)))))
noncomputable def j0_f191 (m0 : Nat) (n : Nat) : (List Bool) → Bool → Int → Int → Option (Int) := fun s_1 v_2 t7_3 t8_4 => evJ E_f191 (drE E_f191) n (.loop cd_f191_2) 0 (sg_f191_0 s_1 v_2 t7_3 t8_4) (q_f191_2 m0)
theorem st_f191_j0 (m0 : Nat) (n : Nat) (s_1 : (List Bool)) (v_2 : Bool) (t7_3 : Int) (t8_4 : Int) : j0_f191 m0 (n + 1) s_1 v_2 t7_3 t8_4 = slices_Index_bool_bool.S0 (j0_f191 m0 n) s_1 v_2 t7_3 t8_4 := by kernel_rfl
theorem J_f191_0 (m0 : Nat) : ∀ (n : Nat) (s_1 : (List Bool)) (v_2 : Bool) (t7_3 : Int) (t8_4 : Int), j0_f191 m0 n s_1 v_2 t7_3 t8_4 = slices_Index_bool_bool.l0 n s_1 v_2 t7_3 t8_4 := by
  intro n
  induction n with
  | zero => intros; rfl
  | succ n ih =>
    intro s_1 v_2 t7_3 t8_4
    have e0 : (j0_f191 m0 n) = (slices_Index_bool_bool.l0 n) := by funext s_1 v_2 t7_3 t8_4; exact ih s_1 v_2 t7_3 t8_4
    refine (st_f191_j0 m0 n s_1 v_2 t7_3 t8_4).trans ?_
    rw [e0]; rfl
theorem st_f191 (m0 : Nat) (s : (List Bool)) (v : Bool) : evC E_f191 (evJ E_f191 (drE E_f191) m0) (drE E_f191) b_f191 0 (st0 [.val (.sl .bool), .val .bool] (s, v, ())) (fin E_f191 [.tmp 4] [] R_f191) = slices_Index_bool_bool.S (j0_f191 m0 m0) s v := by kernel_rfl
theorem ev_f191 (s : (List Bool)) (v : Bool) : evC E_f191 (evJ E_f191 (drE E_f191) fu) (drE E_f191) b_f191 0 (st0 [.val (.sl .bool), .val .bool] (s, v, ())) (fin E_f191 [.tmp 4] [] R_f191) = slices_Index_bool_bool s v := by
  have e0 : (j0_f191 fu fu) = (slices_Index_bool_bool.l0 fu) := by funext s_1 v_2 t7_3 t8_4; exact J_f191_0 fu fu s_1 v_2 t7_3 t8_4
  refine (st_f191 fu s v).trans ?_
  rw [e0]; rfl
@[reducible] def sp_f191   : AM.Spec := AM.spec [.val (.sl .bool), .val .bool] R_f191 (fun x => slices_Index_bool_bool x.1 x.2.1)
theorem c_f191 : Contract Tryz.prog 191 sp_f191 :=
  contract_of (Tab.envOk tabOk _ _) calls_f191 tabOk.mixed (fn := Tryz.f191) (c := b_f191) (ts := [.tmp 4]) (by kernel_rfl) (by kernel_rfl) (by kernel_rfl) (by decide) (by kernel_rfl) (by decide) rfl fun x _ h => ⟨fu, (ev_f191 x.1 x.2.1).trans h⟩
@[reducible] noncomputable def E_f178 : Env := tab.env (AM.look [(191, sp_f191)]) ⟨[], [], [], ⟨[(4, true)], []⟩, [], [191], [], []⟩
theorem calls_f178 : CallsOk Tryz.prog E_f178 := callsOk_of ⟨⟨c_f191, Tryz.call191, fun _ => words_spec rfl⟩, trivial⟩
noncomputable def b_f178 : Code := (Tryz.f178.body).getD .skip
@[reducible] def R_f178 : List (Ty × List Tag) := [(.bool, [])]
theorem st_f178 (m0 : Nat) (s : (List Bool)) (v : Bool) : evC E_f178 (evJ E_f178 (drE E_f178) m0) (drE E_f178) b_f178 0 (st0 [.val (.sl .bool), .val .bool] (s, v, ())) (fin E_f178 [.tmp 4] [] R_f178) = slices_Contains_bool_bool s v := by kernel_rfl
theorem ev_f178 (s : (List Bool)) (v : Bool) : evC E_f178 (evJ E_f178 (drE E_f178) fu) (drE E_f178) b_f178 0 (st0 [.val (.sl .bool), .val .bool] (s, v, ())) (fin E_f178 [.tmp 4] [] R_f178) = slices_Contains_bool_bool s v := st_f178 fu s v
@[reducible] def sp_f178   : AM.Spec := AM.spec [.val (.sl .bool), .val .bool] R_f178 (fun x => slices_Contains_bool_bool x.1 x.2.1)
theorem c_f178 : Contract Tryz.prog 178 sp_f178 :=
  contract_of (Tab.envOk tabOk _ _) calls_f178 tabOk.mixed (fn := Tryz.f178) (c := b_f178) (ts := [.tmp 4]) (by kernel_rfl) (by kernel_rfl) (by kernel_rfl) (by decide) (by kernel_rfl) (by decide) rfl fun x _ h => ⟨fu, (ev_f178 x.1 x.2.1).trans h⟩
@[reducible] noncomputable def E_f154 : Env := tab.env (AM.look [(150, sp_f150), (155, sp_f155), (70, sp_f70), (126, sp_f126), (178, sp_f178)]) ⟨[(0, ⟨[(0, true), (1, true), (2, true), (9, true), (10, true), (12, true), (47, true), (48, true)], []⟩), (2, ⟨[(9, true), (12, true), (16, true), (17, true), (98, true), (99, true), (100, true)], [(97, true)]⟩)], [], [(20, ⟨[(0, true), (1, true), (9, true), (10, true), (12, true)], []⟩), (31, ⟨[(12, true), (16, true), (17, true)], [(97, true)]⟩)], ⟨[(6, true), (7, true), (8, true)], []⟩, [17, 97, 111, 115], [70, 150, 155, 178], [], [89]⟩
theorem calls_f154 : CallsOk Tryz.prog E_f154 := callsOk_of ⟨⟨c_f150, Tryz.call150, fun _ => words_spec rfl⟩, ⟨⟨c_f155, Tryz.call155, fun _ => words_spec rfl⟩, ⟨⟨c_f70, Tryz.call70, fun _ => words_spec rfl⟩, ⟨⟨c_f126, Tryz.call126, fun h => nomatch (show false = true from h)⟩, ⟨⟨c_f178, Tryz.call178, fun _ => words_spec rfl⟩, trivial⟩⟩⟩⟩⟩
noncomputable def b_f154 : Code := (Tryz.f154.body).getD .skip
@[reducible] def R_f154 : List (Ty × List Tag) := [((.sl (.int .i64)), [⟨0, 1, 0, 1⟩]), ((.sl (.int .i64)), []), ((.int .i64), [])]
noncomputable def sg_f154_3 (d_24 : (List Int)) (places_25 : (List Int)) (t97_26 : (List Bool)) : St := mk [(12, .dat (.sl (.int .i64)) d_24 [⟨0, 769, 0, 1⟩]), (16, .dat (.sl (.int .i64)) places_25 []), (17, .slw 97 0)] [(97, some (.arr .bool t97_26 false))]
noncomputable def sg_f154_2 (size_17 : Int) (d_18 : (List Int)) (places_19 : (List Int)) (t98_20 : (List Int)) (t99_21 : Int) (t100_22 : Int) (t97_23 : (List Bool)) : St := mk [(9, .dat (.int .i64) size_17 []), (12, .dat (.sl (.int .i64)) d_18 [⟨0, 769, 0, 1⟩]), (16, .dat (.sl (.int .i64)) places_19 []), (17, .slw 97 0), (98, .dat (.sl (.int .i64)) t98_20 []), (99, .dat (.int .i64) t99_21 []), (100, .dat (.int .i64) t100_22 [])] [(97, some (.arr .bool t97_23 false))]
noncomputable def sg_f154_1 (s_10 : ByteArray) (n_11 : Int) (size_12 : Int) (at_13 : Int) (d_14 : (List Int)) : St := mk [(0, .dat .str s_10 []), (1, .dat (.int .i64) n_11 []), (9, .dat (.int .i64) size_12 []), (10, .dat (.int .i64) at_13 []), (12, .dat (.sl (.int .i64)) d_14 [⟨0, 769, 0, 1⟩])] []
noncomputable def sg_f154_0 (s_2 : ByteArray) (n_3 : Int) (size_4 : Int) (at_5 : Int) (d_6 : (List Int)) (t47_7 : Int) (t48_8 : Int) : St := mk [(0, .dat .str s_2 []), (1, .dat (.int .i64) n_3 []), (2, .fn 155 []), (9, .dat (.int .i64) size_4 []), (10, .dat (.int .i64) at_5 []), (12, .dat (.sl (.int .i64)) d_6 [⟨0, 769, 0, 1⟩]), (47, .dat (.int .i64) t47_7 []), (48, .dat (.int .i64) t48_8 [])] []
noncomputable def q_f154_0 (m0 : Nat) : K (ResD R_f154) := fin E_f154 [.tmp 6, .tmp 7, .tmp 8] [] R_f154
noncomputable def cd_f154_1 : Code := (rgt (rgt (rgt (rgt (rgt (rgt (rgt (rgt (rgt (rgt (rgt b_f154)))))))))))
noncomputable def j3_f154 (m0 : Nat) (n : Nat) : (List Int) → (List Int) → (List Bool) → Option ((List Int) × (List Int) × Int) := fun d_24 places_25 t97_26 => evJ E_f154 (drE E_f154) n (.tail cd_f154_1) 0 (sg_f154_3 d_24 places_25 t97_26) (q_f154_0 m0)
theorem st_f154_j3 (m0 : Nat) (m1 : Nat) (n : Nat) (d_24 : (List Int)) (places_25 : (List Int)) (t97_26 : (List Bool)) : j3_f154 m0 (n + 1) d_24 places_25 t97_26 = dict_take_int__dict_TakeInts_1.S3 d_24 places_25 t97_26 := by kernel_rfl
theorem J_f154_3 (m0 : Nat) (m1 : Nat) : ∀ (n : Nat) (d_24 : (List Int)) (places_25 : (List Int)) (t97_26 : (List Bool)), j3_f154 m0 n d_24 places_25 t97_26 = dict_take_int__dict_TakeInts_1.t3 n d_24 places_25 t97_26 := by
  intro n
  induction n with
  | zero => intros; rfl
  | succ n ih =>
    intro d_24 places_25 t97_26
    have e3 : (j3_f154 m0 n) = (dict_take_int__dict_TakeInts_1.t3 n) := by funext d_24 places_25 t97_26; exact ih d_24 places_25 t97_26
    refine (st_f154_j3 m0 m1 n d_24 places_25 t97_26).trans ?_
    rfl
noncomputable def q_f154_1 (m0 : Nat) (m1 : Nat) : K (ResD R_f154) := seqK E_f154 (evJ E_f154 (drE E_f154) m1) cd_f154_1 0 (evC E_f154 (evJ E_f154 (drE E_f154) m1) (drE E_f154) cd_f154_1 0) (q_f154_0 m0)
noncomputable def q_f154_2 (m0 : Nat) (m1 : Nat) : K (ResD R_f154) := blockK 2 (q_f154_1 m0 m1)
noncomputable def cd_f154_2 : Code := (lft (lft (rgt (lft (rgt (rgt (rgt (rgt (rgt (rgt (rgt (rgt (rgt (rgt b_f154))))))))))))))
noncomputable def j2_f154 (m0 : Nat) (m1 : Nat) (n : Nat) : Int → (List Int) → (List Int) → (List Int) → Int → Int → (List Bool) → Option ((List Int) × (List Int) × Int) := fun size_17 d_18 places_19 t98_20 t99_21 t100_22 t97_23 => evJ E_f154 (drE E_f154) n (.loop cd_f154_2) 2 (sg_f154_2 size_17 d_18 places_19 t98_20 t99_21 t100_22 t97_23) (q_f154_2 m0 m1)
theorem st_f154_j2 (m0 : Nat) (m1 : Nat) (n : Nat) (size_17 : Int) (d_18 : (List Int)) (places_19 : (List Int)) (t98_20 : (List Int)) (t99_21 : Int) (t100_22 : Int) (t97_23 : (List Bool)) : j2_f154 m0 m1 (n + 1) size_17 d_18 places_19 t98_20 t99_21 t100_22 t97_23 = dict_take_int__dict_TakeInts_1.S2 (j3_f154 m0 m1) (j2_f154 m0 m1 n) size_17 d_18 places_19 t98_20 t99_21 t100_22 t97_23 := by kernel_rfl
theorem J_f154_2 (m0 : Nat) (m1 : Nat) : ∀ (n : Nat) (size_17 : Int) (d_18 : (List Int)) (places_19 : (List Int)) (t98_20 : (List Int)) (t99_21 : Int) (t100_22 : Int) (t97_23 : (List Bool)), j2_f154 m0 m1 n size_17 d_18 places_19 t98_20 t99_21 t100_22 t97_23 = dict_take_int__dict_TakeInts_1.l2 (j3_f154 m0 m1) n size_17 d_18 places_19 t98_20 t99_21 t100_22 t97_23 := by
  intro n
  induction n with
  | zero => intros; rfl
  | succ n ih =>
    intro size_17 d_18 places_19 t98_20 t99_21 t100_22 t97_23
    have e2 : (j2_f154 m0 m1 n) = (dict_take_int__dict_TakeInts_1.l2 (j3_f154 m0 m1) n) := by funext size_17 d_18 places_19 t98_20 t99_21 t100_22 t97_23; exact ih size_17 d_18 places_19 t98_20 t99_21 t100_22 t97_23
    refine (st_f154_j2 m0 m1 n size_17 d_18 places_19 t98_20 t99_21 t100_22 t97_23).trans ?_
    rw [e2]; rfl
noncomputable def cd_f154_3 : Code := (rgt (rgt (rgt (rgt (rgt (rgt (rgt b_f154)))))))
noncomputable def j1_f154 (m0 : Nat) (n : Nat) : ByteArray → Int → Int → Int → (List Int) → Option ((List Int) × (List Int) × Int) := fun s_10 n_11 size_12 at_13 d_14 => evJ E_f154 (drE E_f154) n (.tail cd_f154_3) 0 (sg_f154_1 s_10 n_11 size_12 at_13 d_14) (q_f154_0 m0)
theorem st_f154_j1 (m0 : Nat) (n : Nat) (s_10 : ByteArray) (n_11 : Int) (size_12 : Int) (at_13 : Int) (d_14 : (List Int)) : j1_f154 m0 (n + 1) s_10 n_11 size_12 at_13 d_14 = dict_take_int__dict_TakeInts_1.S1 (j2_f154 m0 n n) s_10 n_11 size_12 at_13 d_14 := by kernel_rfl
theorem J_f154_1 (m0 : Nat) : ∀ (n : Nat) (s_10 : ByteArray) (n_11 : Int) (size_12 : Int) (at_13 : Int) (d_14 : (List Int)), j1_f154 m0 n s_10 n_11 size_12 at_13 d_14 = dict_take_int__dict_TakeInts_1.t1 n s_10 n_11 size_12 at_13 d_14 := by
  intro n
  induction n with
  | zero => intros; rfl
  | succ n ih =>
    intro s_10 n_11 size_12 at_13 d_14
    have e1 : (j1_f154 m0 n) = (dict_take_int__dict_TakeInts_1.t1 n) := by funext s_10 n_11 size_12 at_13 d_14; exact ih s_10 n_11 size_12 at_13 d_14
    have e3 : (j3_f154 m0 n) = (dict_take_int__dict_TakeInts_1.t3 n) := by funext d_24 places_25 t97_26; exact J_f154_3 m0 n n d_24 places_25 t97_26
    have e2 : (j2_f154 m0 n n) = (dict_take_int__dict_TakeInts_1.l2 (dict_take_int__dict_TakeInts_1.t3 n) n) := by rw [← e3]; funext size_17 d_18 places_19 t98_20 t99_21 t100_22 t97_23; exact J_f154_2 m0 n n size_17 d_18 places_19 t98_20 t99_21 t100_22 t97_23
    refine (st_f154_j1 m0 n s_10 n_11 size_12 at_13 d_14).trans ?_
    rw [e2]; rfl
noncomputable def q_f154_3 (m0 : Nat) : K (ResD R_f154) := seqK E_f154 (evJ E_f154 (drE E_f154) m0) cd_f154_3 0 (evC E_f154 (evJ E_f154 (drE E_f154) m0) (drE E_f154) cd_f154_3 0) (q_f154_0 m0)
noncomputable def q_f154_4 (m0 : Nat) : K (ResD R_f154) := blockK 0 (q_f154_3 m0)
noncomputable def cd_f154_4 : Code := (lft (lft (rgt (lft (rgt (rgt (rgt (rgt (rgt (rgt b_f154))))))))))
noncomputable def j0_f154 (m0 : Nat) (n : Nat) : ByteArray → Int → Int → Int → (List Int) → Int → Int → Option ((List Int) × (List Int) × Int) := fun s_2 n_3 size_4 at_5 d_6 t47_7 t48_8 => evJ E_f154 (drE E_f154) n (.loop cd_f154_4) 0 (sg_f154_0 s_2 n_3 size_4 at_5 d_6 t47_7 t48_8) (q_f154_4 m0)
theorem st_f154_j0 (m0 : Nat) (n : Nat) (s_2 : ByteArray) (n_3 : Int) (size_4 : Int) (at_5 : Int) (d_6 : (List Int)) (t47_7 : Int) (t48_8 : Int) : j0_f154 m0 (n + 1) s_2 n_3 size_4 at_5 d_6 t47_7 t48_8 = dict_take_int__dict_TakeInts_1.S0 (j1_f154 m0 m0) (j0_f154 m0 n) s_2 n_3 size_4 at_5 d_6 t47_7 t48_8 := by kernel_rfl
theorem J_f154_0 (m0 : Nat) : ∀ (n : Nat) (s_2 : ByteArray) (n_3 : Int) (size_4 : Int) (at_5 : Int) (d_6 : (List Int)) (t47_7 : Int) (t48_8 : Int), j0_f154 m0 n s_2 n_3 size_4 at_5 d_6 t47_7 t48_8 = dict_take_int__dict_TakeInts_1.l0 (j1_f154 m0 m0) n s_2 n_3 size_4 at_5 d_6 t47_7 t48_8 := by
  intro n
  induction n with
  | zero => intros; rfl
  | succ n ih =>
    intro s_2 n_3 size_4 at_5 d_6 t47_7 t48_8
    have e0 : (j0_f154 m0 n) = (dict_take_int__dict_TakeInts_1.l0 (j1_f154 m0 m0) n) := by funext s_2 n_3 size_4 at_5 d_6 t47_7 t48_8; exact ih s_2 n_3 size_4 at_5 d_6 t47_7 t48_8
    refine (st_f154_j0 m0 n s_2 n_3 size_4 at_5 d_6 t47_7 t48_8).trans ?_
    rw [e0]; rfl
theorem st_f154 (m0 : Nat) (s : ByteArray) (xn : Int) : evC E_f154 (evJ E_f154 (drE E_f154) m0) (drE E_f154) b_f154 0 (st0 [.val .str, .val (.int .i64), .fn 155 []] (s, xn, (), ())) (fin E_f154 [.tmp 6, .tmp 7, .tmp 8] [] R_f154) = dict_take_int__dict_TakeInts_1.S (j0_f154 m0 m0) s xn := by kernel_rfl
theorem ev_f154 (s : ByteArray) (xn : Int) : evC E_f154 (evJ E_f154 (drE E_f154) fu) (drE E_f154) b_f154 0 (st0 [.val .str, .val (.int .i64), .fn 155 []] (s, xn, (), ())) (fin E_f154 [.tmp 6, .tmp 7, .tmp 8] [] R_f154) = dict_take_int__dict_TakeInts_1 s xn := by
  have e1 : (j1_f154 fu fu) = (dict_take_int__dict_TakeInts_1.t1 fu) := by funext s_10 n_11 size_12 at_13 d_14; exact J_f154_1 fu fu s_10 n_11 size_12 at_13 d_14
  have e0 : (j0_f154 fu fu) = (dict_take_int__dict_TakeInts_1.l0 (dict_take_int__dict_TakeInts_1.t1 fu) fu) := by rw [← e1]; funext s_2 n_3 size_4 at_5 d_6 t47_7 t48_8; exact J_f154_0 fu fu s_2 n_3 size_4 at_5 d_6 t47_7 t48_8
  refine (st_f154 fu s xn).trans ?_
  rw [e0]; rfl
@[reducible] def sp_f154   : AM.Spec := AM.spec [.val .str, .val (.int .i64), .fn 155 []] R_f154 (fun x => dict_take_int__dict_TakeInts_1 x.1 x.2.1)
theorem c_f154 : Contract Tryz.prog 154 sp_f154 :=
  contract_of (Tab.envOk tabOk _ _) calls_f154 tabOk.mixed (fn := Tryz.f154) (c := b_f154) (ts := [.tmp 6, .tmp 7, .tmp 8]) (by kernel_rfl) (by kernel_rfl) (by kernel_rfl) (by decide) (by kernel_rfl) (by decide) rfl fun x _ h => ⟨fu, (ev_f154 x.1 x.2.1).trans h⟩
@[reducible] noncomputable def E_f156 : Env := tab.env (AM.look []) ⟨[(0, ⟨[(0, true), (5, true), (8, true), (9, true), (10, true)], []⟩)], [], [], ⟨[(4, true)], []⟩, [], [], [], []⟩
theorem calls_f156 : CallsOk Tryz.prog E_f156 := callsOk_of trivial
noncomputable def b_f156 : Code := (Tryz.f156.body).getD .skip
@[reducible] def R_f156 : List (Ty × List Tag) := [((.sl (.int .i64)), [⟨0, 1, 0, 1⟩])]
noncomputable def sg_f156_0 (d_1 : (List Int)) (out_2 : (List Int)) (t8_3 : (List Int)) (t9_4 : Int) (t10_5 : Int) : St := mk [(0, .dat (.sl (.int .i64)) d_1 []), (5, .dat (.sl (.int .i64)) out_2 [⟨0, 321, 0, 1⟩]), (8, .dat (.sl (.int .i64)) t8_3 []), (9, .dat (.int .i64) t9_4 []), (10, .dat (.int .i64) t10_5 [])] []
noncomputable def q_f156_0 (m0 : Nat) : K (ResD R_f156) := fin E_f156 [.tmp 4] [] R_f156
noncomputable def cd_f156_1 : Code := (rgt (rgt (rgt b_f156)))
noncomputable def q_f156_1 (m0 : Nat) : K (ResD R_f156) := seqK E_f156 (evJ E_f156 (drE E_f156) m0) cd_f156_1 0 (evC E_f156 (evJ E_f156 (drE E_f156) m0) (drE E_f156) cd_f156_1 0) (q_f156_0 m0)
noncomputable def q_f156_2 (m0 : Nat) : K (ResD R_f156) := blockK 0 (q_f156_1 m0)
noncomputable def cd_f156_2 : Code := (lft (lft (rgt (lft (rgt (rgt b_f156))))))
noncomputable def j0_f156 (m0 : Nat) (n : Nat) : (List Int) → (List Int) → (List Int) → Int → Int → Option ((List Int)) := fun d_1 out_2 t8_3 t9_4 t10_5 => evJ E_f156 (drE E_f156) n (.loop cd_f156_2) 0 (sg_f156_0 d_1 out_2 t8_3 t9_4 t10_5) (q_f156_2 m0)
theorem st_f156_j0 (m0 : Nat) (n : Nat) (d_1 : (List Int)) (out_2 : (List Int)) (t8_3 : (List Int)) (t9_4 : Int) (t10_5 : Int) : j0_f156 m0 (n + 1) d_1 out_2 t8_3 t9_4 t10_5 = dict_flat_int.S0 (j0_f156 m0 n) d_1 out_2 t8_3 t9_4 t10_5 := by kernel_rfl
theorem J_f156_0 (m0 : Nat) : ∀ (n : Nat) (d_1 : (List Int)) (out_2 : (List Int)) (t8_3 : (List Int)) (t9_4 : Int) (t10_5 : Int), j0_f156 m0 n d_1 out_2 t8_3 t9_4 t10_5 = dict_flat_int.l0 n d_1 out_2 t8_3 t9_4 t10_5 := by
  intro n
  induction n with
  | zero => intros; rfl
  | succ n ih =>
    intro d_1 out_2 t8_3 t9_4 t10_5
    have e0 : (j0_f156 m0 n) = (dict_flat_int.l0 n) := by funext d_1 out_2 t8_3 t9_4 t10_5; exact ih d_1 out_2 t8_3 t9_4 t10_5
    refine (st_f156_j0 m0 n d_1 out_2 t8_3 t9_4 t10_5).trans ?_
    rw [e0]; rfl
theorem st_f156 (m0 : Nat) (d : (List Int)) (places : (List Int)) : evC E_f156 (evJ E_f156 (drE E_f156) m0) (drE E_f156) b_f156 0 (st0 [.val (.sl (.int .i64)), .val (.sl (.int .i64))] (d, places, ())) (fin E_f156 [.tmp 4] [] R_f156) = dict_flat_int.S (j0_f156 m0 m0) d places := by kernel_rfl
theorem ev_f156 (d : (List Int)) (places : (List Int)) : evC E_f156 (evJ E_f156 (drE E_f156) fu) (drE E_f156) b_f156 0 (st0 [.val (.sl (.int .i64)), .val (.sl (.int .i64))] (d, places, ())) (fin E_f156 [.tmp 4] [] R_f156) = dict_flat_int d places := by
  have e0 : (j0_f156 fu fu) = (dict_flat_int.l0 fu) := by funext d_1 out_2 t8_3 t9_4 t10_5; exact J_f156_0 fu fu d_1 out_2 t8_3 t9_4 t10_5
  refine (st_f156 fu d places).trans ?_
  rw [e0]; rfl
@[reducible] def sp_f156   : AM.Spec := AM.spec [.val (.sl (.int .i64)), .val (.sl (.int .i64))] R_f156 (fun x => dict_flat_int x.1 x.2.1)
theorem c_f156 : Contract Tryz.prog 156 sp_f156 :=
  contract_of (Tab.envOk tabOk _ _) calls_f156 tabOk.mixed (fn := Tryz.f156) (c := b_f156) (ts := [.tmp 4]) (by kernel_rfl) (by kernel_rfl) (by kernel_rfl) (by decide) (by kernel_rfl) (by decide) rfl fun x _ h => ⟨fu, (ev_f156 x.1 x.2.1).trans h⟩
@[reducible] noncomputable def E_f132 : Env := tab.env (AM.look [(154, sp_f154), (156, sp_f156)]) ⟨[], [], [], ⟨[(4, true), (5, true)], []⟩, [], [], [], []⟩
theorem calls_f132 : CallsOk Tryz.prog E_f132 := callsOk_of ⟨⟨c_f154, Tryz.call154, fun h => nomatch (show false = true from h)⟩, ⟨⟨c_f156, Tryz.call156, fun h => nomatch (show false = true from h)⟩, trivial⟩⟩
noncomputable def b_f132 : Code := (Tryz.f132.body).getD .skip
@[reducible] def R_f132 : List (Ty × List Tag) := [((.sl (.int .i64)), [⟨0, 1, 0, 1⟩]), ((.int .i64), [])]
theorem st_f132 (m0 : Nat) (s : ByteArray) (xn : Int) : evC E_f132 (evJ E_f132 (drE E_f132) m0) (drE E_f132) b_f132 0 (st0 [.val .str, .val (.int .i64)] (s, xn, ())) (fin E_f132 [.tmp 4, .tmp 5] [] R_f132) = dict_TakeInts s xn := by kernel_rfl
theorem ev_f132 (s : ByteArray) (xn : Int) : evC E_f132 (evJ E_f132 (drE E_f132) fu) (drE E_f132) b_f132 0 (st0 [.val .str, .val (.int .i64)] (s, xn, ())) (fin E_f132 [.tmp 4, .tmp 5] [] R_f132) = dict_TakeInts s xn := st_f132 fu s xn
@[reducible] def sp_f132   : AM.Spec := AM.spec [.val .str, .val (.int .i64)] R_f132 (fun x => dict_TakeInts x.1 x.2.1)
theorem c_f132 : Contract Tryz.prog 132 sp_f132 :=
  contract_of (Tab.envOk tabOk _ _) calls_f132 tabOk.mixed (fn := Tryz.f132) (c := b_f132) (ts := [.tmp 4, .tmp 5]) (by kernel_rfl) (by kernel_rfl) (by kernel_rfl) (by decide) (by kernel_rfl) (by decide) rfl fun x _ h => ⟨fu, (ev_f132 x.1 x.2.1).trans h⟩
@[reducible] noncomputable def E_f96 : Env := tab.env (AM.look [(128, sp_f128), (129, sp_f129), (130, sp_f130), (131, sp_f131), (132, sp_f132), (126, sp_f126)]) ⟨[], [], [], ⟨[(6, true), (7, true)], []⟩, [], [], [], []⟩
theorem calls_f96 : CallsOk Tryz.prog E_f96 := callsOk_of ⟨⟨c_f128, Tryz.call128, fun h => nomatch (show false = true from h)⟩, ⟨⟨c_f129, Tryz.call129, fun h => nomatch (show false = true from h)⟩, ⟨⟨c_f130, Tryz.call130, fun h => nomatch (show false = true from h)⟩, ⟨⟨c_f131, Tryz.call131, fun h => nomatch (show false = true from h)⟩, ⟨⟨c_f132, Tryz.call132, fun h => nomatch (show false = true from h)⟩, ⟨⟨c_f126, Tryz.call126, fun h => nomatch (show false = true from h)⟩, trivial⟩⟩⟩⟩⟩⟩
noncomputable def b_f96 : Code := (Tryz.f96.body).getD .skip
@[reducible] def R_f96 : List (Ty × List Tag) := [((.sl (.int .i64)), []), ((.int .i64), [])]
theorem st_f96 (m0 : Nat) (s : ByteArray) (xn : Int) (code : Int) : evC E_f96 (evJ E_f96 (drE E_f96) m0) (drE E_f96) b_f96 0 (st0 [.val .str, .val (.int .i64), .val (.int .i64)] (s, xn, code, ())) (fin E_f96 [.tmp 6, .tmp 7] [] R_f96) = block_ints s xn code := by kernel_rfl
theorem ev_f96 (s : ByteArray) (xn : Int) (code : Int) : evC E_f96 (evJ E_f96 (drE E_f96) fu) (drE E_f96) b_f96 0 (st0 [.val .str, .val (.int .i64), .val (.int .i64)] (s, xn, code, ())) (fin E_f96 [.tmp 6, .tmp 7] [] R_f96) = block_ints s xn code := st_f96 fu s xn code
@[reducible] def sp_f96   : AM.Spec := AM.spec [.val .str, .val (.int .i64), .val (.int .i64)] R_f96 (fun x => block_ints x.1 x.2.1 x.2.2.1)
theorem c_f96 : Contract Tryz.prog 96 sp_f96 :=
  contract_of (Tab.envOk tabOk _ _) calls_f96 tabOk.mixed (fn := Tryz.f96) (c := b_f96) (ts := [.tmp 6, .tmp 7]) (by kernel_rfl) (by kernel_rfl) (by kernel_rfl) (by decide) (by kernel_rfl) (by decide) rfl fun x _ h => ⟨fu, (ev_f96 x.1 x.2.1 x.2.2.1).trans h⟩
@[reducible] noncomputable def E_f133 : Env := tab.env (AM.look []) ⟨[(0, ⟨[(0, true), (1, true), (6, true)], []⟩)], [], [(8, ⟨[(1, true), (6, true)], []⟩)], ⟨[(4, true), (5, true)], []⟩, [], [], [], []⟩
theorem calls_f133 : CallsOk Tryz.prog E_f133 := callsOk_of trivial
noncomputable def b_f133 : Code := (Tryz.f133.body).getD .skip
@[reducible] def R_f133 : List (Ty × List Tag) := [((.sl .str), [⟨0, 1, 0, 1⟩]), ((.int .i64), [])]
noncomputable def sg_f133_1 (n_4 : Int) (out_5 : (List ByteArray)) : St := mk [(1, .dat (.int .i64) n_4 []), (6, .dat (.sl .str) out_5 [⟨0, 385, 0, 1⟩])] []
noncomputable def sg_f133_0 (s_1 : ByteArray) (n_2 : Int) (out_3 : (List ByteArray)) : St := mk [(0, .dat .str s_1 []), (1, .dat (.int .i64) n_2 []), (6, .dat (.sl .str) out_3 [⟨0, 385, 0, 1⟩])] []
noncomputable def q_f133_0 (m0 : Nat) : K (ResD R_f133) := fin E_f133 [.tmp 4, .tmp 5] [] R_f133
noncomputable def cd_f133_1 : Code := (rgt (rgt (rgt b_f133)))
noncomputable def j1_f133 (m0 : Nat) (n : Nat) : Int → (List ByteArray) → Option ((List ByteArray) × Int) := fun n_4 out_5 => evJ E_f133 (drE E_f133) n (.tail cd_f133_1) 0 (sg_f133_1 n_4 out_5) (q_f133_0 m0)
theorem st_f133_j1 (m0 : Nat) (n : Nat) (n_4 : Int) (out_5 : (List ByteArray)) : j1_f133 m0 (n + 1) n_4 out_5 = plain_TakeTexts.S1 n_4 out_5 := by kernel_rfl
theorem J_f133_1 (m0 : Nat) : ∀ (n : Nat) (n_4 : Int) (out_5 : (List ByteArray)), j1_f133 m0 n n_4 out_5 = plain_TakeTexts.t1 n n_4 out_5 := by
  intro n
  induction n with
  | zero => intros; rfl
  | succ n ih =>
    intro n_4 out_5
    have e1 : (j1_f133 m0 n) = (plain_TakeTexts.t1 n) := by funext n_4 out_5; exact ih n_4 out_5
    refine (st_f133_j1 m0 n n_4 out_5).trans ?_
    rfl
noncomputable def q_f133_1 (m0 : Nat) : K (ResD R_f133) := seqK E_f133 (evJ E_f133 (drE E_f133) m0) cd_f133_1 0 (evC E_f133 (evJ E_f133 (drE E_f133) m0) (drE E_f133) cd_f133_1 0) (q_f133_0 m0)
noncomputable def q_f133_2 (m0 : Nat) : K (ResD R_f133) := blockK 0 (q_f133_1 m0)
noncomputable def cd_f133_2 : Code := (lft (lft (lft (rgt (rgt b_f133)))))
noncomputable def j0_f133 (m0 : Nat) (n : Nat) : ByteArray → Int → (List ByteArray) → Option ((List ByteArray) × Int) := fun s_1 n_2 out_3 => evJ E_f133 (drE E_f133) n (.loop cd_f133_2) 0 (sg_f133_0 s_1 n_2 out_3) (q_f133_2 m0)
theorem st_f133_j0 (m0 : Nat) (n : Nat) (s_1 : ByteArray) (n_2 : Int) (out_3 : (List ByteArray)) : j0_f133 m0 (n + 1) s_1 n_2 out_3 = plain_TakeTexts.S0 (j1_f133 m0 m0) (j0_f133 m0 n) s_1 n_2 out_3 := by kernel_rfl
theorem J_f133_0 (m0 : Nat) : ∀ (n : Nat) (s_1 : ByteArray) (n_2 : Int) (out_3 : (List ByteArray)), j0_f133 m0 n s_1 n_2 out_3 = plain_TakeTexts.l0 (j1_f133 m0 m0) n s_1 n_2 out_3 := by
  intro n
  induction n with
  | zero => intros; rfl
  | succ n ih =>
    intro s_1 n_2 out_3
    have e0 : (j0_f133 m0 n) = (plain_TakeTexts.l0 (j1_f133 m0 m0) n) := by funext s_1 n_2 out_3; exact ih s_1 n_2 out_3
    refine (st_f133_j0 m0 n s_1 n_2 out_3).trans ?_
    rw [e0]; rfl
theorem st_f133 (m0 : Nat) (s : ByteArray) (xn : Int) : evC E_f133 (evJ E_f133 (drE E_f133) m0) (drE E_f133) b_f133 0 (st0 [.val .str, .val (.int .i64)] (s, xn, ())) (fin E_f133 [.tmp 4, .tmp 5] [] R_f133) = plain_TakeTexts.S (j0_f133 m0 m0) s xn := by kernel_rfl
theorem ev_f133 (s : ByteArray) (xn : Int) : evC E_f133 (evJ E_f133 (drE E_f133) fu) (drE E_f133) b_f133 0 (st0 [.val .str, .val (.int .i64)] (s, xn, ())) (fin E_f133 [.tmp 4, .tmp 5] [] R_f133) = plain_TakeTexts s xn := by
  have e1 : (j1_f133 fu fu) = (plain_TakeTexts.t1 fu) := by funext n_4 out_5; exact J_f133_1 fu fu n_4 out_5
  have e0 : (j0_f133 fu fu) = (plain_TakeTexts.l0 (plain_TakeTexts.t1 fu) fu) := by rw [← e1]; funext s_1 n_2 out_3; exact J_f133_0 fu fu s_1 n_2 out_3
  refine (st_f133 fu s xn).trans ?_
  rw [e0]; rfl
@[reducible] def sp_f133   : AM.Spec := AM.spec [.val .str, .val (.int .i64)] R_f133 (fun x => plain_TakeTexts x.1 x.2.1)
theorem c_f133 : Contract Tryz.prog 133 sp_f133 :=
  contract_of (Tab.envOk tabOk _ _) calls_f133 tabOk.mixed (fn := Tryz.f133) (c := b_f133) (ts := [.tmp 4, .tmp 5]) (by kernel_rfl) (by kernel_rfl) (by kernel_rfl) (by decide) (by kernel_rfl) (by decide) rfl fun x _ h => ⟨fu, (ev_f133 x.1 x.2.1).trans h⟩
@[reducible] noncomputable def E_f134 : Env := tab.env (AM.look [(150, sp_f150), (129, sp_f129), (130, sp_f130)]) ⟨[(0, ⟨[(0, true), (1, true), (6, true), (7, true), (9, true), (37, true), (38, true)], []⟩), (2, ⟨[(6, true), (9, true), (13, true), (91, true), (92, true), (93, true)], []⟩)], [], [(17, ⟨[(0, true), (1, true), (6, true), (7, true), (9, true)], []⟩)], ⟨[(4, true), (5, true)], []⟩, [], [150], [], []⟩
theorem calls_f134 : CallsOk Tryz.prog E_f134 := callsOk_of ⟨⟨c_f150, Tryz.call150, fun _ => words_spec rfl⟩, ⟨⟨c_f129, Tryz.call129, fun h => nomatch (show false = true from h)⟩, ⟨⟨c_f130, Tryz.call130, fun h => nomatch (show false = true from h)⟩, trivial⟩⟩⟩
noncomputable def b_f134 : Code := (Tryz.f134.body).getD .skip
@[reducible] def R_f134 : List (Ty × List Tag) := [((.sl .str), [⟨0, 1, 0, 1⟩]), ((.int .i64), [])]
noncomputable def sg_f134_2 (size_16 : Int) (d_17 : (List ByteArray)) (out_18 : (List ByteArray)) (t91_19 : (List Int)) (t92_20 : Int) (t93_21 : Int) : St := mk [(6, .dat (.int .i64) size_16 []), (9, .dat (.sl .str) d_17 [⟨0, 577, 0, 1⟩]), (13, .dat (.sl .str) out_18 [⟨0, 833, 0, 1⟩]), (91, .dat (.sl (.int .i64)) t91_19 [⟨0, 5825, 0, 1⟩]), (92, .dat (.int .i64) t92_20 []), (93, .dat (.int .i64) t93_21 [])] []
noncomputable def sg_f134_1 (s_9 : ByteArray) (n_10 : Int) (size_11 : Int) (at_12 : Int) (d_13 : (List ByteArray)) : St := mk [(0, .dat .str s_9 []), (1, .dat (.int .i64) n_10 []), (6, .dat (.int .i64) size_11 []), (7, .dat (.int .i64) at_12 []), (9, .dat (.sl .str) d_13 [⟨0, 577, 0, 1⟩])] []
noncomputable def sg_f134_0 (s_2 : ByteArray) (n_3 : Int) (size_4 : Int) (at_5 : Int) (d_6 : (List ByteArray)) (t37_7 : Int) (t38_8 : Int) : St := mk [(0, .dat .str s_2 []), (1, .dat (.int .i64) n_3 []), (6, .dat (.int .i64) size_4 []), (7, .dat (.int .i64) at_5 []), (9, .dat (.sl .str) d_6 [⟨0, 577, 0, 1⟩]), (37, .dat (.int .i64) t37_7 []), (38, .dat (.int .i64) t38_8 [])] []
noncomputable def q_f134_0 (m0 : Nat) : K (ResD R_f134) := fin E_f134 [.tmp 4, .tmp 5] [] R_f134
noncomputable def cd_f134_1 : Code := (rgt (rgt (rgt (rgt (rgt (rgt (rgt (rgt (rgt (rgt (rgt (rgt b_f134))))))))))))
noncomputable def q_f134_1 (m0 : Nat) (m1 : Nat) : K (ResD R_f134) := seqK E_f134 (evJ E_f134 (drE E_f134) m1) cd_f134_1 0 (evC E_f134 (evJ E_f134 (drE E_f134) m1) (drE E_f134) cd_f134_1 0) (q_f134_0 m0)
noncomputable def q_f134_2 (m0 : Nat) (m1 : Nat) : K (ResD R_f134) := blockK 2 (q_f134_1 m0 m1)
noncomputable def cd_f134_2 : Code := (lft (lft (rgt (lft (rgt (rgt (rgt (rgt (rgt (rgt (rgt (rgt (rgt (rgt (rgt b_f134)))))))))))))))
noncomputable def j2_f134 (m0 : Nat) (m1 : Nat) (n : Nat) : Int → (List ByteArray) → (List ByteArray) → (List Int) → Int → Int → Option ((List ByteArray) × Int) := fun size_16 d_17 out_18 t91_19 t92_20 t93_21 => evJ E_f134 (drE E_f134) n (.loop cd_f134_2) 2 (sg_f134_2 size_16 d_17 out_18 t91_19 t92_20 t93_21) (q_f134_2 m0 m1)
theorem st_f134_j2 (m0 : Nat) (m1 : Nat) (n : Nat) (size_16 : Int) (d_17 : (List ByteArray)) (out_18 : (List ByteArray)) (t91_19 : (List Int)) (t92_20 : Int) (t93_21 : Int) : j2_f134 m0 m1 (n + 1) size_16 d_17 out_18 t91_19 t92_20 t93_21 = block_running.S2 (j2_f134 m0 m1 n) size_16 d_17 out_18 t91_19 t92_20 t93_21 := by kernel_rfl
theorem J_f134_2 (m0 : Nat) (m1 : Nat) : ∀ (n : Nat) (size_16 : Int) (d_17 : (List ByteArray)) (out_18 : (List ByteArray)) (t91_19 : (List Int)) (t92_20 : Int) (t93_21 : Int), j2_f134 m0 m1 n size_16 d_17 out_18 t91_19 t92_20 t93_21 = block_running.l2 n size_16 d_17 out_18 t91_19 t92_20 t93_21 := by
  intro n
  induction n with
  | zero => intros; rfl
  | succ n ih =>
    intro size_16 d_17 out_18 t91_19 t92_20 t93_21
    have e2 : (j2_f134 m0 m1 n) = (block_running.l2 n) := by funext size_16 d_17 out_18 t91_19 t92_20 t93_21; exact ih size_16 d_17 out_18 t91_19 t92_20 t93_21
    refine (st_f134_j2 m0 m1 n size_16 d_17 out_18 t91_19 t92_20 t93_21).trans ?_
    rw [e2]; rfl
noncomputable def cd_f134_3 : Code := (rgt (rgt (rgt (rgt (rgt (rgt b_f134))))))
noncomputable def j1_f134 (m0 : Nat) (n : Nat) : ByteArray → Int → Int → Int → (List ByteArray) → Option ((List ByteArray) × Int) := fun s_9 n_10 size_11 at_12 d_13 => evJ E_f134 (drE E_f134) n (.tail cd_f134_3) 0 (sg_f134_1 s_9 n_10 size_11 at_12 d_13) (q_f134_0 m0)
theorem st_f134_j1 (m0 : Nat) (n : Nat) (s_9 : ByteArray) (n_10 : Int) (size_11 : Int) (at_12 : Int) (d_13 : (List ByteArray)) : j1_f134 m0 (n + 1) s_9 n_10 size_11 at_12 d_13 = block_running.S1 (j2_f134 m0 n n) s_9 n_10 size_11 at_12 d_13 := by kernel_rfl
theorem J_f134_1 (m0 : Nat) : ∀ (n : Nat) (s_9 : ByteArray) (n_10 : Int) (size_11 : Int) (at_12 : Int) (d_13 : (List ByteArray)), j1_f134 m0 n s_9 n_10 size_11 at_12 d_13 = block_running.t1 n s_9 n_10 size_11 at_12 d_13 := by
  intro n
  induction n with
  | zero => intros; rfl
  | succ n ih =>
    intro s_9 n_10 size_11 at_12 d_13
    have e1 : (j1_f134 m0 n) = (block_running.t1 n) := by funext s_9 n_10 size_11 at_12 d_13; exact ih s_9 n_10 size_11 at_12 d_13
    have e2 : (j2_f134 m0 n n) = (block_running.l2 n) := by funext size_16 d_17 out_18 t91_19 t92_20 t93_21; exact J_f134_2 m0 n n size_16 d_17 out_18 t91_19 t92_20 t93_21
    refine (st_f134_j1 m0 n s_9 n_10 size_11 at_12 d_13).trans ?_
    rw [e2]; rfl
noncomputable def q_f134_3 (m0 : Nat) : K (ResD R_f134) := seqK E_f134 (evJ E_f134 (drE E_f134) m0) cd_f134_3 0 (evC E_f134 (evJ E_f134 (drE E_f134) m0) (drE E_f134) cd_f134_3 0) (q_f134_0 m0)
noncomputable def q_f134_4 (m0 : Nat) : K (ResD R_f134) := blockK 0 (q_f134_3 m0)
noncomputable def cd_f134_4 : Code := (lft (lft (rgt (lft (rgt (rgt (rgt (rgt (rgt b_f134)))))))))
noncomputable def j0_f134 (m0 : Nat) (n : Nat) : ByteArray → Int → Int → Int → (List ByteArray) → Int → Int → Option ((List ByteArray) × Int) := fun s_2 n_3 size_4 at_5 d_6 t37_7 t38_8 => evJ E_f134 (drE E_f134) n (.loop cd_f134_4) 0 (sg_f134_0 s_2 n_3 size_4 at_5 d_6 t37_7 t38_8) (q_f134_4 m0)
theorem st_f134_j0 (m0 : Nat) (n : Nat) (s_2 : ByteArray) (n_3 : Int) (size_4 : Int) (at_5 : Int) (d_6 : (List ByteArray)) (t37_7 : Int) (t38_8 : Int) : j0_f134 m0 (n + 1) s_2 n_3 size_4 at_5 d_6 t37_7 t38_8 = block_running.S0 (j1_f134 m0 m0) (j0_f134 m0 n) s_2 n_3 size_4 at_5 d_6 t37_7 t38_8 := by kernel_rfl
theorem J_f134_0 (m0 : Nat) : ∀ (n : Nat) (s_2 : ByteArray) (n_3 : Int) (size_4 : Int) (at_5 : Int) (d_6 : (List ByteArray)) (t37_7 : Int) (t38_8 : Int), j0_f134 m0 n s_2 n_3 size_4 at_5 d_6 t37_7 t38_8 = block_running.l0 (j1_f134 m0 m0) n s_2 n_3 size_4 at_5 d_6 t37_7 t38_8 := by
  intro n
  induction n with
  | zero => intros; rfl
  | succ n ih =>
    intro s_2 n_3 size_4 at_5 d_6 t37_7 t38_8
    have e0 : (j0_f134 m0 n) = (block_running.l0 (j1_f134 m0 m0) n) := by funext s_2 n_3 size_4 at_5 d_6 t37_7 t38_8; exact ih s_2 n_3 size_4 at_5 d_6 t37_7 t38_8
    refine (st_f134_j0 m0 n s_2 n_3 size_4 at_5 d_6 t37_7 t38_8).trans ?_
    rw [e0]; rfl
theorem st_f134 (m0 : Nat) (s : ByteArray) (xn : Int) : evC E_f134 (evJ E_f134 (drE E_f134) m0) (drE E_f134) b_f134 0 (st0 [.val .str, .val (.int .i64)] (s, xn, ())) (fin E_f134 [.tmp 4, .tmp 5] [] R_f134) = block_running.S (j0_f134 m0 m0) s xn := by kernel_rfl
theorem ev_f134 (s : ByteArray) (xn : Int) : evC E_f134 (evJ E_f134 (drE E_f134) fu) (drE E_f134) b_f134 0 (st0 [.val .str, .val (.int .i64)] (s, xn, ())) (fin E_f134 [.tmp 4, .tmp 5] [] R_f134) = block_running s xn := by
  have e1 : (j1_f134 fu fu) = (block_running.t1 fu) := by funext s_9 n_10 size_11 at_12 d_13; exact J_f134_1 fu fu s_9 n_10 size_11 at_12 d_13
  have e0 : (j0_f134 fu fu) = (block_running.l0 (block_running.t1 fu) fu) := by rw [← e1]; funext s_2 n_3 size_4 at_5 d_6 t37_7 t38_8; exact J_f134_0 fu fu s_2 n_3 size_4 at_5 d_6 t37_7 t38_8
  refine (st_f134 fu s xn).trans ?_
  rw [e0]; rfl
@[reducible] def sp_f134   : AM.Spec := AM.spec [.val .str, .val (.int .i64)] R_f134 (fun x => block_running x.1 x.2.1)
theorem c_f134 : Contract Tryz.prog 134 sp_f134 :=
  contract_of (Tab.envOk tabOk _ _) calls_f134 tabOk.mixed (fn := Tryz.f134) (c := b_f134) (ts := [.tmp 4, .tmp 5]) (by kernel_rfl) (by kernel_rfl) (by kernel_rfl) (by decide) (by kernel_rfl) (by decide) rfl fun x _ h => ⟨fu, (ev_f134 x.1 x.2.1).trans h⟩
@[reducible] noncomputable def E_f180 : Env := tab.env (AM.look []) ⟨[], [], [], ⟨[(2, true), (3, true)], []⟩, [], [], [], []⟩
theorem calls_f180 : CallsOk Tryz.prog E_f180 := callsOk_of trivial
noncomputable def b_f180 : Code := (Tryz.f180.body).getD .skip
@[reducible] def R_f180 : List (Ty × List Tag) := [(.str, []), ((.int .i64), [])]
theorem st_f180 (m0 : Nat) (s : ByteArray) : evC E_f180 (evJ E_f180 (drE E_f180) m0) (drE E_f180) b_f180 0 (st0 [.val .str] (s, ())) (fin E_f180 [.tmp 2, .tmp 3] [] R_f180) = dict_Places_1 s := by kernel_rfl
theorem ev_f180 (s : ByteArray) : evC E_f180 (evJ E_f180 (drE E_f180) fu) (drE E_f180) b_f180 0 (st0 [.val .str] (s, ())) (fin E_f180 [.tmp 2, .tmp 3] [] R_f180) = dict_Places_1 s := st_f180 fu s
@[reducible] def sp_f180   : AM.Spec := AM.spec [.val .str] R_f180 (fun x => dict_Places_1 x.1)
theorem c_f180 : Contract Tryz.prog 180 sp_f180 :=
  contract_of (Tab.envOk tabOk _ _) calls_f180 tabOk.mixed (fn := Tryz.f180) (c := b_f180) (ts := [.tmp 2, .tmp 3]) (by kernel_rfl) (by kernel_rfl) (by kernel_rfl) (by decide) (by kernel_rfl) (by decide) rfl fun x _ h => ⟨fu, (ev_f180 x.1).trans h⟩
@[reducible] noncomputable def E_f179 : Env := tab.env (AM.look [(150, sp_f150), (180, sp_f180), (70, sp_f70), (126, sp_f126), (178, sp_f178)]) ⟨[(0, ⟨[(0, true), (1, true), (2, true), (9, true), (10, true), (12, true), (47, true), (48, true)], []⟩), (2, ⟨[(9, true), (12, true), (16, true), (17, true), (98, true), (99, true), (100, true)], [(97, true)]⟩)], [], [(20, ⟨[(0, true), (1, true), (9, true), (10, true), (12, true)], []⟩), (31, ⟨[(12, true), (16, true), (17, true)], [(97, true)]⟩)], ⟨[(6, true), (7, true), (8, true)], []⟩, [17, 97, 111, 115], [70, 150, 178, 180], [], [89]⟩
theorem calls_f179 : CallsOk Tryz.prog E_f179 := callsOk_of ⟨⟨c_f150, Tryz.call150, fun _ => words_spec rfl⟩, ⟨⟨c_f180, Tryz.call180, fun _ => words_spec rfl⟩, ⟨⟨c_f70, Tryz.call70, fun _ => words_spec rfl⟩, ⟨⟨c_f126, Tryz.call126, fun h => nomatch (show false = true from h)⟩, ⟨⟨c_f178, Tryz.call178, fun _ => words_spec rfl⟩, trivial⟩⟩⟩⟩⟩
noncomputable def b_f179 : Code := (Tryz.f179.body).getD .skip
@[reducible] def R_f179 : List (Ty × List Tag) := [((.sl .str), [⟨0, 1, 0, 1⟩]), ((.sl (.int .i64)), []), ((.int .i64), [])]
noncomputable def sg_f179_3 (d_24 : (List ByteArray)) (places_25 : (List Int)) (t97_26 : (List Bool)) : St := mk [(12, .dat (.sl .str) d_24 [⟨0, 769, 0, 1⟩]), (16, .dat (.sl (.int .i64)) places_25 []), (17, .slw 97 0)] [(97, some (.arr .bool t97_26 false))]
noncomputable def sg_f179_2 (size_17 : Int) (d_18 : (List ByteArray)) (places_19 : (List Int)) (t98_20 : (List Int)) (t99_21 : Int) (t100_22 : Int) (t97_23 : (List Bool)) : St := mk [(9, .dat (.int .i64) size_17 []), (12, .dat (.sl .str) d_18 [⟨0, 769, 0, 1⟩]), (16, .dat (.sl (.int .i64)) places_19 []), (17, .slw 97 0), (98, .dat (.sl (.int .i64)) t98_20 []), (99, .dat (.int .i64) t99_21 []), (100, .dat (.int .i64) t100_22 [])] [(97, some (.arr .bool t97_23 false))]
noncomputable def sg_f179_1 (s_10 : ByteArray) (n_11 : Int) (size_12 : Int) (at_13 : Int) (d_14 : (List ByteArray)) : St := mk [(0, .dat .str s_10 []), (1, .dat (.int .i64) n_11 []), (9, .dat (.int .i64) size_12 []), (10, .dat (.int .i64) at_13 []), (12, .dat (.sl .str) d_14 [⟨0, 769, 0, 1⟩])] []
noncomputable def sg_f179_0 (s_2 : ByteArray) (n_3 : Int) (size_4 : Int) (at_5 : Int) (d_6 : (List ByteArray)) (t47_7 : Int) (t48_8 : Int) : St := mk [(0, .dat .str s_2 []), (1, .dat (.int .i64) n_3 []), (2, .fn 180 []), (9, .dat (.int .i64) size_4 []), (10, .dat (.int .i64) at_5 []), (12, .dat (.sl .str) d_6 [⟨0, 769, 0, 1⟩]), (47, .dat (.int .i64) t47_7 []), (48, .dat (.int .i64) t48_8 [])] []
noncomputable def q_f179_0 (m0 : Nat) : K (ResD R_f179) := fin E_f179 [.tmp 6, .tmp 7, .tmp 8] [] R_f179
noncomputable def cd_f179_1 : Code := (rgt (rgt (rgt (rgt (rgt (rgt (rgt (rgt (rgt (rgt (rgt b_f179)))))))))))
noncomputable def j3_f179 (m0 : Nat) (n : Nat) : (List ByteArray) → (List Int) → (List Bool) → Option ((List ByteArray) × (List Int) × Int) := fun d_24 places_25 t97_26 => evJ E_f179 (drE E_f179) n (.tail cd_f179_1) 0 (sg_f179_3 d_24 places_25 t97_26) (q_f179_0 m0)
theorem st_f179_j3 (m0 : Nat) (m1 : Nat) (n : Nat) (d_24 : (List ByteArray)) (places_25 : (List Int)) (t97_26 : (List Bool)) : j3_f179 m0 (n + 1) d_24 places_25 t97_26 = dict_take_string__dict_Places_1.S3 d_24 places_25 t97_26 := by kernel_rfl
theorem J_f179_3 (m0 : Nat) (m1 : Nat) : ∀ (n : Nat) (d_24 : (List ByteArray)) (places_25 : (List Int)) (t97_26 : (List Bool)), j3_f179 m0 n d_24 places_25 t97_26 = dict_take_string__dict_Places_1.t3 n d_24 places_25 t97_26 := by
  intro n
  induction n with
  | zero => intros; rfl
  | succ n ih =>
    intro d_24 places_25 t97_26
    have e3 : (j3_f179 m0 n) = (dict_take_string__dict_Places_1.t3 n) := by funext d_24 places_25 t97_26; exact ih d_24 places_25 t97_26
    refine (st_f179_j3 m0 m1 n d_24 places_25 t97_26).trans ?_
    rfl
noncomputable def q_f179_1 (m0 : Nat) (m1 : Nat) : K (ResD R_f179) := seqK E_f179 (evJ E_f179 (drE E_f179) m1) cd_f179_1 0 (evC E_f179 (evJ E_f179 (drE E_f179) m1) (drE E_f179) cd_f179_1 0) (q_f179_0 m0)
noncomputable def q_f179_2 (m0 : Nat) (m1 : Nat) : K (ResD R_f179) := blockK 2 (q_f179_1 m0 m1)
noncomputable def cd_f179_2 : Code := (lft (lft (rgt (lft (rgt (rgt (rgt (rgt (rgt (rgt (rgt (rgt (rgt (rgt b_f179))))))))))))))
noncomputable def j2_f179 (m0 : Nat) (m1 : Nat) (n : Nat) : Int → (List ByteArray) → (List Int) → (List Int) → Int → Int → (List Bool) → Option ((List ByteArray) × (List Int) × Int) := fun size_17 d_18 places_19 t98_20 t99_21 t100_22 t97_23 => evJ E_f179 (drE E_f179) n (.loop cd_f179_2) 2 (sg_f179_2 size_17 d_18 places_19 t98_20 t99_21 t100_22 t97_23) (q_f179_2 m0 m1)
theorem st_f179_j2 (m0 : Nat) (m1 : Nat) (n : Nat) (size_17 : Int) (d_18 : (List ByteArray)) (places_19 : (List Int)) (t98_20 : (List Int)) (t99_21 : Int) (t100_22 : Int) (t97_23 : (List Bool)) : j2_f179 m0 m1 (n + 1) size_17 d_18 places_19 t98_20 t99_21 t100_22 t97_23 = dict_take_string__dict_Places_1.S2 (j3_f179 m0 m1) (j2_f179 m0 m1 n) size_17 d_18 places_19 t98_20 t99_21 t100_22 t97_23 := by kernel_rfl
theorem J_f179_2 (m0 : Nat) (m1 : Nat) : ∀ (n : Nat) (size_17 : Int) (d_18 : (List ByteArray)) (places_19 : (List Int)) (t98_20 : (List Int)) (t99_21 : Int) (t100_22 : Int) (t97_23 : (List Bool)), j2_f179 m0 m1 n size_17 d_18 places_19 t98_20 t99_21 t100_22 t97_23 = dict_take_string__dict_Places_1.l2 (j3_f179 m0 m1) n size_17 d_18 places_19 t98_20 t99_21 t100_22 t97_23 := by
  intro n
  induction n with
  | zero => intros; rfl
  | succ n ih =>
    intro size_17 d_18 places_19 t98_20 t99_21 t100_22 t97_23
    have e2 : (j2_f179 m0 m1 n) = (dict_take_string__dict_Places_1.l2 (j3_f179 m0 m1) n) := by funext size_17 d_18 places_19 t98_20 t99_21 t100_22 t97_23; exact ih size_17 d_18 places_19 t98_20 t99_21 t100_22 t97_23
    refine (st_f179_j2 m0 m1 n size_17 d_18 places_19 t98_20 t99_21 t100_22 t97_23).trans ?_
    rw [e2]; rfl
noncomputable def cd_f179_3 : Code := (rgt (rgt (rgt (rgt (rgt (rgt (rgt b_f179)))))))
noncomputable def j1_f179 (m0 : Nat) (n : Nat) : ByteArray → Int → Int → Int → (List ByteArray) → Option ((List ByteArray) × (List Int) × Int) := fun s_10 n_11 size_12 at_13 d_14 => evJ E_f179 (drE E_f179) n (.tail cd_f179_3) 0 (sg_f179_1 s_10 n_11 size_12 at_13 d_14) (q_f179_0 m0)
theorem st_f179_j1 (m0 : Nat) (n : Nat) (s_10 : ByteArray) (n_11 : Int) (size_12 : Int) (at_13 : Int) (d_14 : (List ByteArray)) : j1_f179 m0 (n + 1) s_10 n_11 size_12 at_13 d_14 = dict_take_string__dict_Places_1.S1 (j2_f179 m0 n n) s_10 n_11 size_12 at_13 d_14 := by kernel_rfl
theorem J_f179_1 (m0 : Nat) : ∀ (n : Nat) (s_10 : ByteArray) (n_11 : Int) (size_12 : Int) (at_13 : Int) (d_14 : (List ByteArray)), j1_f179 m0 n s_10 n_11 size_12 at_13 d_14 = dict_take_string__dict_Places_1.t1 n s_10 n_11 size_12 at_13 d_14 := by
  intro n
  induction n with
  | zero => intros; rfl
  | succ n ih =>
    intro s_10 n_11 size_12 at_13 d_14
    have e1 : (j1_f179 m0 n) = (dict_take_string__dict_Places_1.t1 n) := by funext s_10 n_11 size_12 at_13 d_14; exact ih s_10 n_11 size_12 at_13 d_14
    have e3 : (j3_f179 m0 n) = (dict_take_string__dict_Places_1.t3 n) := by funext d_24 places_25 t97_26; exact J_f179_3 m0 n n d_24 places_25 t97_26
    have e2 : (j2_f179 m0 n n) = (dict_take_string__dict_Places_1.l2 (dict_take_string__dict_Places_1.t3 n) n) := by rw [← e3]; funext size_17 d_18 places_19 t98_20 t99_21 t100_22 t97_23; exact J_f179_2 m0 n n size_17 d_18 places_19 t98_20 t99_21 t100_22 t97_23
    refine (st_f179_j1 m0 n s_10 n_11 size_12 at_13 d_14).trans ?_
    rw [e2]; rfl
noncomputable def q_f179_3 (m0 : Nat) : K (ResD R_f179) := seqK E_f179 (evJ E_f179 (drE E_f179) m0) cd_f179_3 0 (evC E_f179 (evJ E_f179 (drE E_f179) m0) (drE E_f179) cd_f179_3 0) (q_f179_0 m0)
noncomputable def q_f179_4 (m0 : Nat) : K (ResD R_f179) := blockK 0 (q_f179_3 m0)
noncomputable def cd_f179_4 : Code := (lft (lft (rgt (lft (rgt (rgt (rgt (rgt (rgt (rgt b_f179))))))))))
noncomputable def j0_f179 (m0 : Nat) (n : Nat) : ByteArray → Int → Int → Int → (List ByteArray) → Int → Int → Option ((List ByteArray) × (List Int) × Int) := fun s_2 n_3 size_4 at_5 d_6 t47_7 t48_8 => evJ E_f179 (drE E_f179) n (.loop cd_f179_4) 0 (sg_f179_0 s_2 n_3 size_4 at_5 d_6 t47_7 t48_8) (q_f179_4 m0)
theorem st_f179_j0 (m0 : Nat) (n : Nat) (s_2 : ByteArray) (n_3 : Int) (size_4 : Int) (at_5 : Int) (d_6 : (List ByteArray)) (t47_7 : Int) (t48_8 : Int) : j0_f179 m0 (n + 1) s_2 n_3 size_4 at_5 d_6 t47_7 t48_8 = dict_take_string__dict_Places_1.S0 (j1_f179 m0 m0) (j0_f179 m0 n) s_2 n_3 size_4 at_5 d_6 t47_7 t48_8 := by kernel_rfl
theorem J_f179_0 (m0 : Nat) : ∀ (n : Nat) (s_2 : ByteArray) (n_3 : Int) (size_4 : Int) (at_5 : Int) (d_6 : (List ByteArray)) (t47_7 : Int) (t48_8 : Int), j0_f179 m0 n s_2 n_3 size_4 at_5 d_6 t47_7 t48_8 = dict_take_string__dict_Places_1.l0 (j1_f179 m0 m0) n s_2 n_3 size_4 at_5 d_6 t47_7 t48_8 := by
  intro n
  induction n with
  | zero => intros; rfl
  | succ n ih =>
    intro s_2 n_3 size_4 at_5 d_6 t47_7 t48_8
    have e0 : (j0_f179 m0 n) = (dict_take_string__dict_Places_1.l0 (j1_f179 m0 m0) n) := by funext s_2 n_3 size_4 at_5 d_6 t47_7 t48_8; exact ih s_2 n_3 size_4 at_5 d_6 t47_7 t48_8
    refine (st_f179_j0 m0 n s_2 n_3 size_4 at_5 d_6 t47_7 t48_8).trans ?_
    rw [e0]; rfl
theorem st_f179 (m0 : Nat) (s : ByteArray) (xn : Int) : evC E_f179 (evJ E_f179 (drE E_f179) m0) (drE E_f179) b_f179 0 (st0 [.val .str, .val (.int .i64), .fn 180 []] (s, xn, (), ())) (fin E_f179 [.tmp 6, .tmp 7, .tmp 8] [] R_f179) = dict_take_string__dict_Places_1.S (j0_f179 m0 m0) s xn := by kernel_rfl
theorem ev_f179 (s : ByteArray) (xn : Int) : evC E_f179 (evJ E_f179 (drE E_f179) fu) (drE E_f179) b_f179 0 (st0 [.val .str, .val (.int .i64), .fn 180 []] (s, xn, (), ())) (fin E_f179 [.tmp 6, .tmp 7, .tmp 8] [] R_f179) = dict_take_string__dict_Places_1 s xn := by
  have e1 : (j1_f179 fu fu) = (dict_take_string__dict_Places_1.t1 fu) := by funext s_10 n_11 size_12 at_13 d_14; exact J_f179_1 fu fu s_10 n_11 size_12 at_13 d_14
  have e0 : (j0_f179 fu fu) = (dict_take_string__dict_Places_1.l0 (dict_take_string__dict_Places_1.t1 fu) fu) := by rw [← e1]; funext s_2 n_3 size_4 at_5 d_6 t47_7 t48_8; exact J_f179_0 fu fu s_2 n_3 size_4 at_5 d_6 t47_7 t48_8
  refine (st_f179 fu s xn).trans ?_
  rw [e0]; rfl
@[reducible] def sp_f179   : AM.Spec := AM.spec [.val .str, .val (.int .i64), .fn 180 []] R_f179 (fun x => dict_take_string__dict_Places_1 x.1 x.2.1)
theorem c_f179 : Contract Tryz.prog 179 sp_f179 :=
  contract_of (Tab.envOk tabOk _ _) calls_f179 tabOk.mixed (fn := Tryz.f179) (c := b_f179) (ts := [.tmp 6, .tmp 7, .tmp 8]) (by kernel_rfl) (by kernel_rfl) (by kernel_rfl) (by decide) (by kernel_rfl) (by decide) rfl fun x _ h => ⟨fu, (ev_f179 x.1 x.2.1).trans h⟩
@[reducible] noncomputable def E_f157 : Env := tab.env (AM.look [(179, sp_f179)]) ⟨[], [], [], ⟨[(4, true), (5, true), (6, true)], []⟩, [], [], [], []⟩
theorem calls_f157 : CallsOk Tryz.prog E_f157 := callsOk_of ⟨⟨c_f179, Tryz.call179, fun h => nomatch (show false = true from h)⟩, trivial⟩
noncomputable def b_f157 : Code := (Tryz.f157.body).getD .skip
@[reducible] def R_f157 : List (Ty × List Tag) := [((.sl .str), [⟨0, 1, 0, 1⟩]), ((.sl (.int .i64)), []), ((.int .i64), [])]
theorem st_f157 (m0 : Nat) (s : ByteArray) (xn : Int) : evC E_f157 (evJ E_f157 (drE E_f157) m0) (drE E_f157) b_f157 0 (st0 [.val .str, .val (.int .i64)] (s, xn, ())) (fin E_f157 [.tmp 4, .tmp 5, .tmp 6] [] R_f157) = dict_Places s xn := by kernel_rfl
theorem ev_f157 (s : ByteArray) (xn : Int) : evC E_f157 (evJ E_f157 (drE E_f157) fu) (drE E_f157) b_f157 0 (st0 [.val .str, .val (.int .i64)] (s, xn, ())) (fin E_f157 [.tmp 4, .tmp 5, .tmp 6] [] R_f157) = dict_Places s xn := st_f157 fu s xn
@[reducible] def sp_f157   : AM.Spec := AM.spec [.val .str, .val (.int .i64)] R_f157 (fun x => dict_Places x.1 x.2.1)
theorem c_f157 : Contract Tryz.prog 157 sp_f157 :=
  contract_of (Tab.envOk tabOk _ _) calls_f157 tabOk.mixed (fn := Tryz.f157) (c := b_f157) (ts := [.tmp 4, .tmp 5, .tmp 6]) (by kernel_rfl) (by kernel_rfl) (by kernel_rfl) (by decide) (by kernel_rfl) (by decide) rfl fun x _ h => ⟨fu, (ev_f157 x.1 x.2.1).trans h⟩
@[reducible] noncomputable def E_f158 : Env := tab.env (AM.look []) ⟨[(0, ⟨[(0, true), (5, true), (8, true), (9, true), (10, true)], []⟩)], [], [], ⟨[(4, true)], []⟩, [], [], [], []⟩
theorem calls_f158 : CallsOk Tryz.prog E_f158 := callsOk_of trivial
noncomputable def b_f158 : Code := (Tryz.f158.body).getD .skip
@[reducible] def R_f158 : List (Ty × List Tag) := [((.sl .str), [⟨0, 1, 0, 1⟩])]
noncomputable def sg_f158_0 (d_1 : (List ByteArray)) (out_2 : (List ByteArray)) (t8_3 : (List Int)) (t9_4 : Int) (t10_5 : Int) : St := mk [(0, .dat (.sl .str) d_1 []), (5, .dat (.sl .str) out_2 [⟨0, 321, 0, 1⟩]), (8, .dat (.sl (.int .i64)) t8_3 []), (9, .dat (.int .i64) t9_4 []), (10, .dat (.int .i64) t10_5 [])] []
noncomputable def q_f158_0 (m0 : Nat) : K (ResD R_f158) := fin E_f158 [.tmp 4] [] R_f158
noncomputable def cd_f158_1 : Code := (rgt (rgt (rgt b_f158)))
noncomputable def q_f158_1 (m0 : Nat) : K (ResD R_f158) := seqK E_f158 (evJ E_f158 (drE E_f158) m0) cd_f158_1 0 (evC E_f158 (evJ E_f158 (drE E_f158) m0) (drE E_f158) cd_f158_1 0) (q_f158_0 m0)
noncomputable def q_f158_2 (m0 : Nat) : K (ResD R_f158) := blockK 0 (q_f158_1 m0)
noncomputable def cd_f158_2 : Code := (lft (lft (rgt (lft (rgt (rgt b_f158))))))
noncomputable def j0_f158 (m0 : Nat) (n : Nat) : (List ByteArray) → (List ByteArray) → (List Int) → Int → Int → Option ((List ByteArray)) := fun d_1 out_2 t8_3 t9_4 t10_5 => evJ E_f158 (drE E_f158) n (.loop cd_f158_2) 0 (sg_f158_0 d_1 out_2 t8_3 t9_4 t10_5) (q_f158_2 m0)
theorem st_f158_j0 (m0 : Nat) (n : Nat) (d_1 : (List ByteArray)) (out_2 : (List ByteArray)) (t8_3 : (List Int)) (t9_4 : Int) (t10_5 : Int) : j0_f158 m0 (n + 1) d_1 out_2 t8_3 t9_4 t10_5 = dict_flat_string.S0 (j0_f158 m0 n) d_1 out_2 t8_3 t9_4 t10_5 := by kernel_rfl
theorem J_f158_0 (m0 : Nat) : ∀ (n : Nat) (d_1 : (List ByteArray)) (out_2 : (List ByteArray)) (t8_3 : (List Int)) (t9_4 : Int) (t10_5 : Int), j0_f158 m0 n d_1 out_2 t8_3 t9_4 t10_5 = dict_flat_string.l0 n d_1 out_2 t8_3 t9_4 t10_5 := by
  intro n
  induction n with
  | zero => intros; rfl
  | succ n ih =>
    intro d_1 out_2 t8_3 t9_4 t10_5
    have e0 : (j0_f158 m0 n) = (dict_flat_string.l0 n) := by funext d_1 out_2 t8_3 t9_4 t10_5; exact ih d_1 out_2 t8_3 t9_4 t10_5
    refine (st_f158_j0 m0 n d_1 out_2 t8_3 t9_4 t10_5).trans ?_
    rw [e0]; rfl
theorem st_f158 (m0 : Nat) (d : (List ByteArray)) (places : (List Int)) : evC E_f158 (evJ E_f158 (drE E_f158) m0) (drE E_f158) b_f158 0 (st0 [.val (.sl .str), .val (.sl (.int .i64))] (d, places, ())) (fin E_f158 [.tmp 4] [] R_f158) = dict_flat_string.S (j0_f158 m0 m0) d places := by kernel_rfl
theorem ev_f158 (d : (List ByteArray)) (places : (List Int)) : evC E_f158 (evJ E_f158 (drE E_f158) fu) (drE E_f158) b_f158 0 (st0 [.val (.sl .str), .val (.sl (.int .i64))] (d, places, ())) (fin E_f158 [.tmp 4] [] R_f158) = dict_flat_string d places := by
  have e0 : (j0_f158 fu fu) = (dict_flat_string.l0 fu) := by funext d_1 out_2 t8_3 t9_4 t10_5; exact J_f158_0 fu fu d_1 out_2 t8_3 t9_4 t10_5
  refine (st_f158 fu d places).trans ?_
  rw [e0]; rfl
@[reducible] def sp_f158   : AM.Spec := AM.spec [.val (.sl .str), .val (.sl (.int .i64))] R_f158 (fun x => dict_flat_string x.1 x.2.1)
theorem c_f158 : Contract Tryz.prog 158 sp_f158 :=
  contract_of (Tab.envOk tabOk _ _) calls_f158 tabOk.mixed (fn := Tryz.f158) (c := b_f158) (ts := [.tmp 4]) (by kernel_rfl) (by kernel_rfl) (by kernel_rfl) (by decide) (by kernel_rfl) (by decide) rfl fun x _ h => ⟨fu, (ev_f158 x.1 x.2.1).trans h⟩
@[reducible] noncomputable def E_f135 : Env := tab.env (AM.look [(157, sp_f157), (158, sp_f158)]) ⟨[], [], [], ⟨[(4, true), (5, true)], []⟩, [], [], [], []⟩
theorem calls_f135 : CallsOk Tryz.prog E_f135 := callsOk_of ⟨⟨c_f157, Tryz.call157, fun h => nomatch (show false = true from h)⟩, ⟨⟨c_f158, Tryz.call158, fun h => nomatch (show false = true from h)⟩, trivial⟩⟩
noncomputable def b_f135 : Code := (Tryz.f135.body).getD .skip
@[reducible] def R_f135 : List (Ty × List Tag) := [((.sl .str), [⟨0, 1, 0, 1⟩]), ((.int .i64), [])]
theorem st_f135 (m0 : Nat) (s : ByteArray) (xn : Int) : evC E_f135 (evJ E_f135 (drE E_f135) m0) (drE E_f135) b_f135 0 (st0 [.val .str, .val (.int .i64)] (s, xn, ())) (fin E_f135 [.tmp 4, .tmp 5] [] R_f135) = dict_TakeTexts s xn := by kernel_rfl
theorem ev_f135 (s : ByteArray) (xn : Int) : evC E_f135 (evJ E_f135 (drE E_f135) fu) (drE E_f135) b_f135 0 (st0 [.val .str, .val (.int .i64)] (s, xn, ())) (fin E_f135 [.tmp 4, .tmp 5] [] R_f135) = dict_TakeTexts s xn := st_f135 fu s xn
@[reducible] def sp_f135   : AM.Spec := AM.spec [.val .str, .val (.int .i64)] R_f135 (fun x => dict_TakeTexts x.1 x.2.1)
theorem c_f135 : Contract Tryz.prog 135 sp_f135 :=
  contract_of (Tab.envOk tabOk _ _) calls_f135 tabOk.mixed (fn := Tryz.f135) (c := b_f135) (ts := [.tmp 4, .tmp 5]) (by kernel_rfl) (by kernel_rfl) (by kernel_rfl) (by decide) (by kernel_rfl) (by decide) rfl fun x _ h => ⟨fu, (ev_f135 x.1 x.2.1).trans h⟩
@[reducible] noncomputable def E_f97 : Env := tab.env (AM.look [(133, sp_f133), (134, sp_f134), (135, sp_f135)]) ⟨[], [], [], ⟨[(6, true), (7, true)], []⟩, [], [], [], []⟩
theorem calls_f97 : CallsOk Tryz.prog E_f97 := callsOk_of ⟨⟨c_f133, Tryz.call133, fun h => nomatch (show false = true from h)⟩, ⟨⟨c_f134, Tryz.call134, fun h => nomatch (show false = true from h)⟩, ⟨⟨c_f135, Tryz.call135, fun h => nomatch (show false = true from h)⟩, trivial⟩⟩⟩
noncomputable def b_f97 : Code := (Tryz.f97.body).getD .skip
@[reducible] def R_f97 : List (Ty × List Tag) := [((.sl .str), [⟨0, 1, 0, 1⟩]), ((.int .i64), [])]
theorem st_f97 (m0 : Nat) (s : ByteArray) (xn : Int) (code : Int) : evC E_f97 (evJ E_f97 (drE E_f97) m0) (drE E_f97) b_f97 0 (st0 [.val .str, .val (.int .i64), .val (.int .i64)] (s, xn, code, ())) (fin E_f97 [.tmp 6, .tmp 7] [] R_f97) = block_texts s xn code := by kernel_rfl
theorem ev_f97 (s : ByteArray) (xn : Int) (code : Int) : evC E_f97 (evJ E_f97 (drE E_f97) fu) (drE E_f97) b_f97 0 (st0 [.val .str, .val (.int .i64), .val (.int .i64)] (s, xn, code, ())) (fin E_f97 [.tmp 6, .tmp 7] [] R_f97) = block_texts s xn code := st_f97 fu s xn code
@[reducible] def sp_f97   : AM.Spec := AM.spec [.val .str, .val (.int .i64), .val (.int .i64)] R_f97 (fun x => block_texts x.1 x.2.1 x.2.2.1)
theorem c_f97 : Contract Tryz.prog 97 sp_f97 :=
  contract_of (Tab.envOk tabOk _ _) calls_f97 tabOk.mixed (fn := Tryz.f97) (c := b_f97) (ts := [.tmp 6, .tmp 7]) (by kernel_rfl) (by kernel_rfl) (by kernel_rfl) (by decide) (by kernel_rfl) (by decide) rfl fun x _ h => ⟨fu, (ev_f97 x.1 x.2.1 x.2.2.1).trans h⟩
@[reducible] noncomputable def E_f56 : Env := tab.env (AM.look [(96, sp_f96), (97, sp_f97)]) ⟨[(1, ⟨[(5, true), (8, true), (10, true), (29, true), (30, true), (31, true)], [(5, true)]⟩), (3, ⟨[(5, true), (8, true), (14, true), (55, true), (56, true), (57, true)], [(5, true)]⟩)], [], [], ⟨[(6, true), (7, true)], []⟩, [], [], [], []⟩
theorem calls_f56 : CallsOk Tryz.prog E_f56 := callsOk_of ⟨⟨c_f96, Tryz.call96, fun h => nomatch (show false = true from h)⟩, ⟨⟨c_f97, Tryz.call97, fun h => nomatch (show false = true from h)⟩, trivial⟩⟩
noncomputable def b_f56 : Code := (Tryz.f56.body).getD .skip
@[reducible] def R_f56 : List (Ty × List Tag) := [((.sl (.pair (.int .i64) (.pair (.int .i64) .str))), [⟨0, 1, 0, 3⟩]), ((.int .i64), [])]
noncomputable def sg_f56_0 (out_2 : (List (Int × (Int × ByteArray)))) (e_3 : Int) (t29_4 : (List Int)) (t30_5 : Int) (t31_6 : Int) (h_7 : (Int × (Int × (Int × Int)))) : St := mk [(5, .ptr 5 0 0), (8, .dat (.sl (.pair (.int .i64) (.pair (.int .i64) .str))) out_2 [⟨0, 513, 0, 3⟩]), (10, .dat (.int .i64) e_3 []), (29, .dat (.sl (.int .i64)) t29_4 []), (30, .dat (.int .i64) t30_5 []), (31, .dat (.int .i64) t31_6 [])] [(5, some (.var (.pair (.int .i64) (.pair (.int .i64) (.pair (.int .i64) (.int .i64)))) h_7 []))]
noncomputable def sg_f56_1 (out_9 : (List (Int × (Int × ByteArray)))) (e_10 : Int) (t55_11 : (List ByteArray)) (t56_12 : Int) (t57_13 : Int) (h_14 : (Int × (Int × (Int × Int)))) : St := mk [(5, .ptr 5 0 0), (8, .dat (.sl (.pair (.int .i64) (.pair (.int .i64) .str))) out_9 [⟨0, 513, 0, 3⟩]), (14, .dat (.int .i64) e_10 []), (55, .dat (.sl .str) t55_11 [⟨0, 3521, 0, 1⟩]), (56, .dat (.int .i64) t56_12 []), (57, .dat (.int .i64) t57_13 [])] [(5, some (.var (.pair (.int .i64) (.pair (.int .i64) (.pair (.int .i64) (.int .i64)))) h_14 []))]
noncomputable def q_f56_0 (m0 : Nat) : K (ResD R_f56) := fin E_f56 [.tmp 6, .tmp 7] [] R_f56
noncomputable def cd_f56_1 : Code := (rgt (rgt (rgt b_f56)))
noncomputable def q_f56_1 (m0 : Nat) : K (ResD R_f56) := seqK E_f56 (evJ E_f56 (drE E_f56) m0) cd_f56_1 0 (evC E_f56 (evJ E_f56 (drE E_f56) m0) (drE E_f56) cd_f56_1 0) (q_f56_0 m0)
noncomputable def q_f56_2 (m0 : Nat) : K (ResD R_f56) := blockK 0 (q_f56_1 m0)
noncomputable def cd_f56_2 : Code := (rgt (rgt (lft (rgt (lft (rgt (lft (rgt (rgt b_f56)))))))))
noncomputable def q_f56_3 (m0 : Nat) : K (ResD R_f56) := seqK E_f56 (evJ E_f56 (drE E_f56) m0) cd_f56_2 0 (evC E_f56 (evJ E_f56 (drE E_f56) m0) (drE E_f56) cd_f56_2 0) (q_f56_2 m0)
noncomputable def q_f56_4 (m0 : Nat) : K (ResD R_f56) := blockK 1 (q_f56_3 m0)
noncomputable def cd_f56_3 : Code := (lft (lft (rgt (lft (rgt (lft (rgt (lft (rgt (lft (rgt (rgt b_f56))))))))))))
noncomputable def j0_f56 (m0 : Nat) (n : Nat) : (List (Int × (Int × ByteArray))) → Int → (List Int) → Int → Int → (Int × (Int × (Int × Int))) → Option ((List (Int × (Int × ByteArray))) × Int) := fun out_2 e_3 t29_4 t30_5 t31_6 h_7 => evJ E_f56 (drE E_f56) n (.loop cd_f56_3) 1 (sg_f56_0 out_2 e_3 t29_4 t30_5 t31_6 h_7) (q_f56_4 m0)
theorem st_f56_j0 (m0 : Nat) (n : Nat) (out_2 : (List (Int × (Int × ByteArray)))) (e_3 : Int) (t29_4 : (List Int)) (t30_5 : Int) (t31_6 : Int) (h_7 : (Int × (Int × (Int × Int)))) : j0_f56 m0 (n + 1) out_2 e_3 t29_4 t30_5 t31_6 h_7 = block_cells.S0 (j0_f56 m0 n) out_2 e_3 t29_4 t30_5 t31_6 h_7 := by kernel_rfl
theorem J_f56_0 (m0 : Nat) : ∀ (n : Nat) (out_2 : (List (Int × (Int × ByteArray)))) (e_3 : Int) (t29_4 : (List Int)) (t30_5 : Int) (t31_6 : Int) (h_7 : (Int × (Int × (Int × Int)))), j0_f56 m0 n out_2 e_3 t29_4 t30_5 t31_6 h_7 = block_cells.l0 n out_2 e_3 t29_4 t30_5 t31_6 h_7 := by
  intro n
  induction n with
  | zero => intros; rfl
  | succ n ih =>
    intro out_2 e_3 t29_4 t30_5 t31_6 h_7
    have e0 : (j0_f56 m0 n) = (block_cells.l0 n) := by funext out_2 e_3 t29_4 t30_5 t31_6 h_7; exact ih out_2 e_3 t29_4 t30_5 t31_6 h_7
    refine (st_f56_j0 m0 n out_2 e_3 t29_4 t30_5 t31_6 h_7).trans ?_
    rw [e0]; rfl
noncomputable def cd_f56_4 : Code := (rgt (rgt (lft (rgt (rgt (rgt (lft (rgt (lft (rgt (rgt b_f56)))))))))))
noncomputable def q_f56_5 (m0 : Nat) : K (ResD R_f56) := seqK E_f56 (evJ E_f56 (drE E_f56) m0) cd_f56_4 0 (evC E_f56 (evJ E_f56 (drE E_f56) m0) (drE E_f56) cd_f56_4 0) (q_f56_2 m0)
noncomputable def q_f56_6 (m0 : Nat) : K (ResD R_f56) := blockK 3 (q_f56_5 m0)
noncomputable def cd_f56_5 : Code := (lft (lft (rgt (lft (rgt (lft (rgt (rgt (rgt (lft (rgt (lft (rgt (rgt b_f56))))))))))))))
noncomputable def j1_f56 (m0 : Nat) (n : Nat) : (List (Int × (Int × ByteArray))) → Int → (List ByteArray) → Int → Int → (Int × (Int × (Int × Int))) → Option ((List (Int × (Int × ByteArray))) × Int) := fun out_9 e_10 t55_11 t56_12 t57_13 h_14 => evJ E_f56 (drE E_f56) n (.loop cd_f56_5) 3 (sg_f56_1 out_9 e_10 t55_11 t56_12 t57_13 h_14) (q_f56_6 m0)
theorem st_f56_j1 (m0 : Nat) (n : Nat) (out_9 : (List (Int × (Int × ByteArray)))) (e_10 : Int) (t55_11 : (List ByteArray)) (t56_12 : Int) (t57_13 : Int) (h_14 : (Int × (Int × (Int × Int)))) : j1_f56 m0 (n + 1) out_9 e_10 t55_11 t56_12 t57_13 h_14 = block_cells.S1 (j1_f56 m0 n) out_9 e_10 t55_11 t56_12 t57_13 h_14 := by kernel_rfl
theorem J_f56_1 (m0 : Nat) : ∀ (n : Nat) (out_9 : (List (Int × (Int × ByteArray)))) (e_10 : Int) (t55_11 : (List ByteArray)) (t56_12 : Int) (t57_13 : Int) (h_14 : (Int × (Int × (Int × Int)))), j1_f56 m0 n out_9 e_10 t55_11 t56_12 t57_13 h_14 = block_cells.l1 n out_9 e_10 t55_11 t56_12 t57_13 h_14 := by
  intro n
  induction n with
  | zero => intros; rfl
  | succ n ih =>
    intro out_9 e_10 t55_11 t56_12 t57_13 h_14
    have e1 : (j1_f56 m0 n) = (block_cells.l1 n) := by funext out_9 e_10 t55_11 t56_12 t57_13 h_14; exact ih out_9 e_10 t55_11 t56_12 t57_13 h_14
    refine (st_f56_j1 m0 n out_9 e_10 t55_11 t56_12 t57_13 h_14).trans ?_
    rw [e1]; rfl
theorem st_f56 (m0 : Nat) (s : ByteArray) (xn : Int) (h : (Int × (Int × (Int × Int)))) : evC E_f56 (evJ E_f56 (drE E_f56) m0) (drE E_f56) b_f56 0 (st0 [.val .str, .val (.int .i64), .val (.pair (.int .i64) (.pair (.int .i64) (.pair (.int .i64) (.int .i64))))] (s, xn, h, ())) (fin E_f56 [.tmp 6, .tmp 7] [] R_f56) = block_cells.S (j0_f56 m0 m0) (j1_f56 m0 m0) s xn h := by kernel_rfl
theorem ev_f56 (s : ByteArray) (xn : Int) (h : (Int × (Int × (Int × Int)))) : evC E_f56 (evJ E_f56 (drE E_f56) fu) (drE E_f56) b_f56 0 (st0 [.val .str, .val (.int .i64), .val (.pair (.int .i64) (.pair (.int .i64) (.pair (.int .i64) (.int .i64))))] (s, xn, h, ())) (fin E_f56 [.tmp 6, .tmp 7] [] R_f56) = block_cells s xn h := by
  have e0 : (j0_f56 fu fu) = (block_cells.l0 fu) := by funext out_2 e_3 t29_4 t30_5 t31_6 h_7; exact J_f56_0 fu fu out_2 e_3 t29_4 t30_5 t31_6 h_7
  have e1 : (j1_f56 fu fu) = (block_cells.l1 fu) := by funext out_9 e_10 t55_11 t56_12 t57_13 h_14; exact J_f56_1 fu fu out_9 e_10 t55_11 t56_12 t57_13 h_14
  refine (st_f56 fu s xn h).trans ?_
  rw [e0, e1]; rfl
@[reducible] def sp_f56   : AM.Spec := AM.spec [.val .str, .val (.int .i64), .val (.pair (.int .i64) (.pair (.int .i64) (.pair (.int .i64) (.int .i64))))] R_f56 (fun x => block_cells x.1 x.2.1 x.2.2.1)
theorem c_f56 : Contract Tryz.prog 56 sp_f56 :=
  contract_of (Tab.envOk tabOk _ _) calls_f56 tabOk.mixed (fn := Tryz.f56) (c := b_f56) (ts := [.tmp 6, .tmp 7]) (by kernel_rfl) (by kernel_rfl) (by kernel_rfl) (by decide) (by kernel_rfl) (by decide) rfl fun x _ h => ⟨fu, (ev_f56 x.1 x.2.1 x.2.2.1).trans h⟩
@[reducible] noncomputable def E_f69c : Env := tab.env (AM.look [(43, sp_f43)]) ⟨[(0, ⟨[(0, true), (1, true), (7, true), (8, true)], []⟩)], [], [], ⟨[(4, true)], []⟩, [], [43], [], []⟩
theorem calls_f69c : CallsOk Tryz.prog E_f69c := callsOk_of ⟨⟨c_f43, Tryz.call43, fun _ => words_spec rfl⟩, trivial⟩
noncomputable def b_f69c : Code := (Tryz.f69.body).getD .skip
@[reducible] def R_f69c : List (Ty × List Tag) := [((.int .i64), [])]
noncomputable def sg_f69c_0 (s_1 : (List (Int × (Int × ByteArray)))) (t7_2 : Int) (t8_3 : Int) : St := mk [(0, .dat (.sl (.pair (.int .i64) (.pair (.int .i64) .str))) s_1 []), (1, .fn 43 []), (7, .dat (.int .i64) t7_2 []), (8, .dat (.int .i64) t8_3 [])] []
noncomputable def q_f69c_0 (m0 : Nat) : K (ResD R_f69c) := fin E_f69c [.tmp 4] [] R_f69c
noncomputable def cd_f69c_1 : Code := (rgt (rgt b_f69c))
noncomputable def q_f69c_1 (m0 : Nat) : K (ResD R_f69c) := seqK E_f69c (evJ E_f69c (drE E_f69c) m0) cd_f69c_1 0 (evC E_f69c (evJ E_f69c (drE E_f69c) m0) (drE E_f69c) cd_f69c_1 0) (q_f69c_0 m0)
noncomputable def q_f69c_2 (m0 : Nat) : K (ResD R_f69c) := blockK 0 (q_f69c_1 m0)
noncomputable def cd_f69c_2 : Code := (lft (lft (rgt (lft (rgt b_f69c)))))
noncomputable def j0_f69c (m0 : Nat) (n : Nat) : (List (Int × (Int × ByteArray))) → Int → Int → Option (Int) := fun s_1 t7_2 t8_3 => evJ E_f69c (drE E_f69c) n (.loop cd_f69c_2) 0 (sg_f69c_0 s_1 t7_2 t8_3) (q_f69c_2 m0)
theorem st_f69c_j0 (m0 : Nat) (n : Nat) (s_1 : (List (Int × (Int × ByteArray)))) (t7_2 : Int) (t8_3 : Int) : j0_f69c m0 (n + 1) s_1 t7_2 t8_3 = slices_IndexFunc_api_Cell_api_Cell__nulls_null.S0 (j0_f69c m0 n) s_1 t7_2 t8_3 := by kernel_rfl
theorem J_f69c_0 (m0 : Nat) : ∀ (n : Nat) (s_1 : (List (Int × (Int × ByteArray)))) (t7_2 : Int) (t8_3 : Int), j0_f69c m0 n s_1 t7_2 t8_3 = slices_IndexFunc_api_Cell_api_Cell__nulls_null.l0 n s_1 t7_2 t8_3 := by
  intro n
  induction n with
  | zero => intros; rfl
  | succ n ih =>
    intro s_1 t7_2 t8_3
    have e0 : (j0_f69c m0 n) = (slices_IndexFunc_api_Cell_api_Cell__nulls_null.l0 n) := by funext s_1 t7_2 t8_3; exact ih s_1 t7_2 t8_3
    refine (st_f69c_j0 m0 n s_1 t7_2 t8_3).trans ?_
    rw [e0]; rfl
theorem st_f69c (m0 : Nat) (s : (List (Int × (Int × ByteArray)))) : evC E_f69c (evJ E_f69c (drE E_f69c) m0) (drE E_f69c) b_f69c 0 (st0 [.val (.sl (.pair (.int .i64) (.pair (.int .i64) .str))), .fn 43 []] (s, (), ())) (fin E_f69c [.tmp 4] [] R_f69c) = slices_IndexFunc_api_Cell_api_Cell__nulls_null.S (j0_f69c m0 m0) s := by kernel_rfl
theorem ev_f69c (s : (List (Int × (Int × ByteArray)))) : evC E_f69c (evJ E_f69c (drE E_f69c) fu) (drE E_f69c) b_f69c 0 (st0 [.val (.sl (.pair (.int .i64) (.pair (.int .i64) .str))), .fn 43 []] (s, (), ())) (fin E_f69c [.tmp 4] [] R_f69c) = slices_IndexFunc_api_Cell_api_Cell__nulls_null s := by
  have e0 : (j0_f69c fu fu) = (slices_IndexFunc_api_Cell_api_Cell__nulls_null.l0 fu) := by funext s_1 t7_2 t8_3; exact J_f69c_0 fu fu s_1 t7_2 t8_3
  refine (st_f69c fu s).trans ?_
  rw [e0]; rfl
@[reducible] def sp_f69c   : AM.Spec := AM.spec [.val (.sl (.pair (.int .i64) (.pair (.int .i64) .str))), .fn 43 []] R_f69c (fun x => slices_IndexFunc_api_Cell_api_Cell__nulls_null x.1)
theorem c_f69c : Contract Tryz.prog 69 sp_f69c :=
  contract_of (Tab.envOk tabOk _ _) calls_f69c tabOk.mixed (fn := Tryz.f69) (c := b_f69c) (ts := [.tmp 4]) (by kernel_rfl) (by kernel_rfl) (by kernel_rfl) (by decide) (by kernel_rfl) (by decide) rfl fun x _ h => ⟨fu, (ev_f69c x.1).trans h⟩
@[reducible] noncomputable def E_f37b : Env := tab.env (AM.look [(69, sp_f69c)]) ⟨[], [], [], ⟨[(4, true)], []⟩, [], [69], [], []⟩
theorem calls_f37b : CallsOk Tryz.prog E_f37b := callsOk_of ⟨⟨c_f69c, Tryz.call69, fun _ => words_spec rfl⟩, trivial⟩
noncomputable def b_f37b : Code := (Tryz.f37.body).getD .skip
@[reducible] def R_f37b : List (Ty × List Tag) := [(.bool, [])]
theorem st_f37b (m0 : Nat) (s : (List (Int × (Int × ByteArray)))) : evC E_f37b (evJ E_f37b (drE E_f37b) m0) (drE E_f37b) b_f37b 0 (st0 [.val (.sl (.pair (.int .i64) (.pair (.int .i64) .str))), .fn 43 []] (s, (), ())) (fin E_f37b [.tmp 4] [] R_f37b) = slices_ContainsFunc_api_Cell_api_Cell__nulls_null s := by kernel_rfl
theorem ev_f37b (s : (List (Int × (Int × ByteArray)))) : evC E_f37b (evJ E_f37b (drE E_f37b) fu) (drE E_f37b) b_f37b 0 (st0 [.val (.sl (.pair (.int .i64) (.pair (.int .i64) .str))), .fn 43 []] (s, (), ())) (fin E_f37b [.tmp 4] [] R_f37b) = slices_ContainsFunc_api_Cell_api_Cell__nulls_null s := st_f37b fu s
@[reducible] def sp_f37b   : AM.Spec := AM.spec [.val (.sl (.pair (.int .i64) (.pair (.int .i64) .str))), .fn 43 []] R_f37b (fun x => slices_ContainsFunc_api_Cell_api_Cell__nulls_null x.1)
theorem c_f37b : Contract Tryz.prog 37 sp_f37b :=
  contract_of (Tab.envOk tabOk _ _) calls_f37b tabOk.mixed (fn := Tryz.f37) (c := b_f37b) (ts := [.tmp 4]) (by kernel_rfl) (by kernel_rfl) (by kernel_rfl) (by decide) (by kernel_rfl) (by decide) rfl fun x _ h => ⟨fu, (ev_f37b x.1).trans h⟩
@[reducible] noncomputable def E_f57 : Env := tab.env (AM.look [(95, sp_f95), (55, sp_f55), (37, sp_f37b)]) ⟨[(0, ⟨[(2, true), (8, true), (12, true), (42, true), (43, true)], [(40, true)]⟩)], [], [], ⟨[(6, true), (7, true)], [(6, true), (40, true)]⟩, [6, 12, 40, 41, 51, 60], [37, 55], [], []⟩
theorem calls_f57 : CallsOk Tryz.prog E_f57 := callsOk_of ⟨⟨c_f95, Tryz.call95, fun h => nomatch (show false = true from h)⟩, ⟨⟨c_f55, Tryz.call55, fun _ => words_spec rfl⟩, ⟨⟨c_f37b, Tryz.call37, fun _ => words_spec rfl⟩, trivial⟩⟩⟩
noncomputable def b_f57 : Code := (Tryz.f57.body).getD .skip
@[reducible] def R_f57 : List (Ty × List Tag) := [((.sl (.pair (.int .i64) (.pair (.int .i64) .str))), []), ((.int .i64), [])]
noncomputable def sg_f57_0 (l_4 : (List (Int × (Int × ByteArray)))) (b_5 : (List Int)) (t42_6 : Int) (t43_7 : Int) (t40_8 : (List (Int × (Int × ByteArray)))) : St := mk [(2, .dat (.sl (.pair (.int .i64) (.pair (.int .i64) .str))) l_4 []), (8, .dat (.sl (.int .i64)) b_5 []), (12, .slw 40 0), (42, .dat (.int .i64) t42_6 []), (43, .dat (.int .i64) t43_7 [])] [(40, some (.arr (.pair (.int .i64) (.pair (.int .i64) .str)) t40_8 false))]
noncomputable def q_f57_0 (m0 : Nat) : K (ResD R_f57) := fin E_f57 [.tmp 6, .tmp 7] [] R_f57
noncomputable def cd_f57_1 : Code := (rgt (rgt (rgt (rgt (rgt (rgt (rgt b_f57)))))))
noncomputable def q_f57_1 (m0 : Nat) : K (ResD R_f57) := seqK E_f57 (evJ E_f57 (drE E_f57) m0) cd_f57_1 0 (evC E_f57 (evJ E_f57 (drE E_f57) m0) (drE E_f57) cd_f57_1 0) (q_f57_0 m0)
noncomputable def q_f57_2 (m0 : Nat) : K (ResD R_f57) := blockK 0 (q_f57_1 m0)
noncomputable def cd_f57_2 : Code := (lft (lft (rgt (lft (rgt (rgt (rgt (rgt (rgt (rgt b_f57))))))))))
noncomputable def j0_f57 (m0 : Nat) (n : Nat) : (List (Int × (Int × ByteArray))) → (List Int) → Int → Int → (List (Int × (Int × ByteArray))) → Option ((List (Int × (Int × ByteArray))) × Int) := fun l_4 b_5 t42_6 t43_7 t40_8 => evJ E_f57 (drE E_f57) n (.loop cd_f57_2) 0 (sg_f57_0 l_4 b_5 t42_6 t43_7 t40_8) (q_f57_2 m0)
theorem st_f57_j0 (m0 : Nat) (n : Nat) (l_4 : (List (Int × (Int × ByteArray)))) (b_5 : (List Int)) (t42_6 : Int) (t43_7 : Int) (t40_8 : (List (Int × (Int × ByteArray)))) : j0_f57 m0 (n + 1) l_4 b_5 t42_6 t43_7 t40_8 = nulls_Join.S0 (j0_f57 m0 n) l_4 b_5 t42_6 t43_7 t40_8 := by kernel_rfl
theorem J_f57_0 (m0 : Nat) : ∀ (n : Nat) (l_4 : (List (Int × (Int × ByteArray)))) (b_5 : (List Int)) (t42_6 : Int) (t43_7 : Int) (t40_8 : (List (Int × (Int × ByteArray)))), j0_f57 m0 n l_4 b_5 t42_6 t43_7 t40_8 = nulls_Join.l0 n l_4 b_5 t42_6 t43_7 t40_8 := by
  intro n
  induction n with
  | zero => intros; rfl
  | succ n ih =>
    intro l_4 b_5 t42_6 t43_7 t40_8
    have e0 : (j0_f57 m0 n) = (nulls_Join.l0 n) := by funext l_4 b_5 t42_6 t43_7 t40_8; exact ih l_4 b_5 t42_6 t43_7 t40_8
    refine (st_f57_j0 m0 n l_4 b_5 t42_6 t43_7 t40_8).trans ?_
    rw [e0]; rfl
theorem st_f57 (m0 : Nat) (s : ByteArray) (xn : Int) (l : (List (Int × (Int × ByteArray)))) : evC E_f57 (evJ E_f57 (drE E_f57) m0) (drE E_f57) b_f57 0 (st0 [.val .str, .val (.int .i64), .val (.sl (.pair (.int .i64) (.pair (.int .i64) .str)))] (s, xn, l, ())) (fin E_f57 [.tmp 6, .tmp 7] [] R_f57) = nulls_Join.S (j0_f57 m0 m0) s xn l := by kernel_rfl
theorem ev_f57 (s : ByteArray) (xn : Int) (l : (List (Int × (Int × ByteArray)))) : evC E_f57 (evJ E_f57 (drE E_f57) fu) (drE E_f57) b_f57 0 (st0 [.val .str, .val (.int .i64), .val (.sl (.pair (.int .i64) (.pair (.int .i64) .str)))] (s, xn, l, ())) (fin E_f57 [.tmp 6, .tmp 7] [] R_f57) = nulls_Join s xn l := by
  have e0 : (j0_f57 fu fu) = (nulls_Join.l0 fu) := by funext l_4 b_5 t42_6 t43_7 t40_8; exact J_f57_0 fu fu l_4 b_5 t42_6 t43_7 t40_8
  refine (st_f57 fu s xn l).trans ?_
  rw [e0]; rfl
@[reducible] def sp_f57   : AM.Spec := AM.spec [.val .str, .val (.int .i64), .val (.sl (.pair (.int .i64) (.pair (.int .i64) .str)))] R_f57 (fun x => nulls_Join x.1 x.2.1 x.2.2.1)
theorem c_f57 : Contract Tryz.prog 57 sp_f57 :=
  contract_of (Tab.envOk tabOk _ _) calls_f57 tabOk.mixed (fn := Tryz.f57) (c := b_f57) (ts := [.tmp 6, .tmp 7]) (by kernel_rfl) (by kernel_rfl) (by kernel_rfl) (by decide) (by kernel_rfl) (by decide) rfl fun x _ h => ⟨fu, (ev_f57 x.1 x.2.1 x.2.2.1).trans h⟩
@[reducible] noncomputable def E_f30 : Env := tab.env (AM.look [(54, sp_f54), (55, sp_f55), (56, sp_f56), (57, sp_f57), (10, sp_f10)]) ⟨[], [], [], ⟨[(2, true), (3, true)], [(2, true)]⟩, [], [10, 54, 55], [], []⟩
theorem calls_f30 : CallsOk Tryz.prog E_f30 := callsOk_of ⟨⟨c_f54, Tryz.call54, fun _ => words_spec rfl⟩, ⟨⟨c_f55, Tryz.call55, fun _ => words_spec rfl⟩, ⟨⟨c_f56, Tryz.call56, fun h => nomatch (show false = true from h)⟩, ⟨⟨c_f57, Tryz.call57, fun h => nomatch (show false = true from h)⟩, ⟨⟨c_f10, Tryz.call10, fun _ => words_spec rfl⟩, trivial⟩⟩⟩⟩⟩
noncomputable def b_f30 : Code := (Tryz.f30.body).getD .skip
@[reducible] def R_f30 : List (Ty × List Tag) := [((.pair (.pair (.int .i64) (.pair (.int .i64) (.pair (.int .i64) (.int .i64)))) (.pair .str (.pair .str (.sl (.pair (.int .i64) (.pair (.int .i64) .str)))))), []), (.bool, [])]
theorem st_f30 (m0 : Nat) (s : ByteArray) : evC E_f30 (evJ E_f30 (drE E_f30) m0) (drE E_f30) b_f30 0 (st0 [.val .str] (s, ())) (fin E_f30 [.cell 2 54, .tmp 3] [] R_f30) = block_read s := by kernel_rfl
theorem ev_f30 (s : ByteArray) : evC E_f30 (evJ E_f30 (drE E_f30) fu) (drE E_f30) b_f30 0 (st0 [.val .str] (s, ())) (fin E_f30 [.cell 2 54, .tmp 3] [] R_f30) = block_read s := st_f30 fu s
@[reducible] def sp_f30   : AM.Spec := AM.spec [.val .str] R_f30 (fun x => block_read x.1)
theorem c_f30 : Contract Tryz.prog 30 sp_f30 :=
  contract_of (Tab.envOk tabOk _ _) calls_f30 tabOk.mixed (fn := Tryz.f30) (c := b_f30) (ts := [.cell 2 54, .tmp 3]) (by kernel_rfl) (by kernel_rfl) (by kernel_rfl) (by decide) (by kernel_rfl) (by decide) rfl fun x _ h => ⟨fu, (ev_f30 x.1).trans h⟩
@[reducible] noncomputable def E_f12 : Env := tab.env (AM.look [(30, sp_f30)]) ⟨[], [], [], ⟨[(2, true), (3, true)], []⟩, [], [], [], []⟩
theorem calls_f12 : CallsOk Tryz.prog E_f12 := callsOk_of ⟨⟨c_f30, Tryz.call30, fun h => nomatch (show false = true from h)⟩, trivial⟩
noncomputable def b_f12 : Code := (Tryz.f12.body).getD .skip
@[reducible] def R_f12 : List (Ty × List Tag) := [((.sl (.pair (.int .i64) (.pair (.int .i64) .str))), []), ((.int .i64), [])]
theorem st_f12 (m0 : Nat) (s : ByteArray) : evC E_f12 (evJ E_f12 (drE E_f12) m0) (drE E_f12) b_f12 0 (st0 [.val .str] (s, ())) (fin E_f12 [.tmp 2, .tmp 3] [] R_f12) = block_Take s := by kernel_rfl
theorem ev_f12 (s : ByteArray) : evC E_f12 (evJ E_f12 (drE E_f12) fu) (drE E_f12) b_f12 0 (st0 [.val .str] (s, ())) (fin E_f12 [.tmp 2, .tmp 3] [] R_f12) = block_Take s := st_f12 fu s
@[reducible] def sp_f12   : AM.Spec := AM.spec [.val .str] R_f12 (fun x => block_Take x.1)
theorem c_f12 : Contract Tryz.prog 12 sp_f12 :=
  contract_of (Tab.envOk tabOk _ _) calls_f12 tabOk.mixed (fn := Tryz.f12) (c := b_f12) (ts := [.tmp 2, .tmp 3]) (by kernel_rfl) (by kernel_rfl) (by kernel_rfl) (by decide) (by kernel_rfl) (by decide) rfl fun x _ h => ⟨fu, (ev_f12 x.1).trans h⟩
@[reducible] noncomputable def E_f15 : Env := tab.env (AM.look [(30, sp_f30)]) ⟨[], [], [], ⟨[(2, true), (3, true)], [(2, true)]⟩, [], [], [], []⟩
theorem calls_f15 : CallsOk Tryz.prog E_f15 := callsOk_of ⟨⟨c_f30, Tryz.call30, fun h => nomatch (show false = true from h)⟩, trivial⟩
noncomputable def b_f15 : Code := (Tryz.f15.body).getD .skip
@[reducible] def R_f15 : List (Ty × List Tag) := [((.pair (.int .i64) (.pair (.int .i64) (.pair (.int .i64) (.int .i64)))), []), ((.int .i64), [])]
theorem st_f15 (m0 : Nat) (s : ByteArray) : evC E_f15 (evJ E_f15 (drE E_f15) m0) (drE E_f15) b_f15 0 (st0 [.val .str] (s, ())) (fin E_f15 [.cell 2 37, .tmp 3] [] R_f15) = block_Look s := by kernel_rfl
theorem ev_f15 (s : ByteArray) : evC E_f15 (evJ E_f15 (drE E_f15) fu) (drE E_f15) b_f15 0 (st0 [.val .str] (s, ())) (fin E_f15 [.cell 2 37, .tmp 3] [] R_f15) = block_Look s := st_f15 fu s
@[reducible] def sp_f15   : AM.Spec := AM.spec [.val .str] R_f15 (fun x => block_Look x.1)
theorem c_f15 : Contract Tryz.prog 15 sp_f15 :=
  contract_of (Tab.envOk tabOk _ _) calls_f15 tabOk.mixed (fn := Tryz.f15) (c := b_f15) (ts := [.cell 2 37, .tmp 3]) (by kernel_rfl) (by kernel_rfl) (by kernel_rfl) (by decide) (by kernel_rfl) (by decide) rfl fun x _ h => ⟨fu, (ev_f15 x.1).trans h⟩
@[reducible] noncomputable def E_f13 : Env := tab.env (AM.look []) ⟨[(0, ⟨[(0, true), (1, true), (5, true)], []⟩)], [], [], ⟨[(4, true)], []⟩, [], [], [], []⟩
theorem calls_f13 : CallsOk Tryz.prog E_f13 := callsOk_of trivial
noncomputable def b_f13 : Code := (Tryz.f13.body).getD .skip
@[reducible] def R_f13 : List (Ty × List Tag) := [(.bool, [])]
noncomputable def sg_f13_0 (a_1 : (List (Int × (Int × ByteArray)))) (b_2 : (List (Int × (Int × ByteArray)))) (i_3 : Int) : St := mk [(0, .dat (.sl (.pair (.int .i64) (.pair (.int .i64) .str))) a_1 []), (1, .dat (.sl (.pair (.int .i64) (.pair (.int .i64) .str))) b_2 []), (5, .dat (.int .i64) i_3 [])] []
noncomputable def q_f13_0 (m0 : Nat) : K (ResD R_f13) := fin E_f13 [.tmp 4] [] R_f13
noncomputable def cd_f13_1 : Code := (rgt (rgt (rgt b_f13)))
noncomputable def q_f13_1 (m0 : Nat) : K (ResD R_f13) := seqK E_f13 (evJ E_f13 (drE E_f13) m0) cd_f13_1 0 (evC E_f13 (evJ E_f13 (drE E_f13) m0) (drE E_f13) cd_f13_1 0) (q_f13_0 m0)
noncomputable def q_f13_2 (m0 : Nat) : K (ResD R_f13) := blockK 0 (q_f13_1 m0)
noncomputable def cd_f13_2 : Code := (lft (lft (rgt (lft (rgt (rgt b_f13))))))
noncomputable def j0_f13 (m0 : Nat) (n : Nat) : (List (Int × (Int × ByteArray))) → (List (Int × (Int × ByteArray))) → Int → Option (Bool) := fun a_1 b_2 i_3 => evJ E_f13 (drE E_f13) n (.loop cd_f13_2) 0 (sg_f13_0 a_1 b_2 i_3) (q_f13_2 m0)
theorem st_f13_j0 (m0 : Nat) (n : Nat) (a_1 : (List (Int × (Int × ByteArray)))) (b_2 : (List (Int × (Int × ByteArray)))) (i_3 : Int) : j0_f13 m0 (n + 1) a_1 b_2 i_3 = ref12_Same.S0 (j0_f13 m0 n) a_1 b_2 i_3 := by kernel_rfl
theorem J_f13_0 (m0 : Nat) : ∀ (n : Nat) (a_1 : (List (Int × (Int × ByteArray)))) (b_2 : (List (Int × (Int × ByteArray)))) (i_3 : Int), j0_f13 m0 n a_1 b_2 i_3 = ref12_Same.l0 n a_1 b_2 i_3 := by
  intro n
  induction n with
  | zero => intros; rfl
  | succ n ih =>
    intro a_1 b_2 i_3
    have e0 : (j0_f13 m0 n) = (ref12_Same.l0 n) := by funext a_1 b_2 i_3; exact ih a_1 b_2 i_3
    refine (st_f13_j0 m0 n a_1 b_2 i_3).trans ?_
    rw [e0]; rfl
theorem st_f13 (m0 : Nat) (a : (List (Int × (Int × ByteArray)))) (b : (List (Int × (Int × ByteArray)))) : evC E_f13 (evJ E_f13 (drE E_f13) m0) (drE E_f13) b_f13 0 (st0 [.val (.sl (.pair (.int .i64) (.pair (.int .i64) .str))), .val (.sl (.pair (.int .i64) (.pair (.int .i64) .str)))] (a, b, ())) (fin E_f13 [.tmp 4] [] R_f13) = ref12_Same.S (j0_f13 m0 m0) a b := by kernel_rfl
theorem ev_f13 (a : (List (Int × (Int × ByteArray)))) (b : (List (Int × (Int × ByteArray)))) : evC E_f13 (evJ E_f13 (drE E_f13) fu) (drE E_f13) b_f13 0 (st0 [.val (.sl (.pair (.int .i64) (.pair (.int .i64) .str))), .val (.sl (.pair (.int .i64) (.pair (.int .i64) .str)))] (a, b, ())) (fin E_f13 [.tmp 4] [] R_f13) = ref12_Same a b := by
  have e0 : (j0_f13 fu fu) = (ref12_Same.l0 fu) := by funext a_1 b_2 i_3; exact J_f13_0 fu fu a_1 b_2 i_3
  refine (st_f13 fu a b).trans ?_
  rw [e0]; rfl
@[reducible] def sp_f13   : AM.Spec := AM.spec [.val (.sl (.pair (.int .i64) (.pair (.int .i64) .str))), .val (.sl (.pair (.int .i64) (.pair (.int .i64) .str)))] R_f13 (fun x => ref12_Same x.1 x.2.1)
theorem c_f13 : Contract Tryz.prog 13 sp_f13 :=
  contract_of (Tab.envOk tabOk _ _) calls_f13 tabOk.mixed (fn := Tryz.f13) (c := b_f13) (ts := [.tmp 4]) (by kernel_rfl) (by kernel_rfl) (by kernel_rfl) (by decide) (by kernel_rfl) (by decide) rfl fun x _ h => ⟨fu, (ev_f13 x.1 x.2.1).trans h⟩
@[reducible] noncomputable def E_f9 : Env := tab.env (AM.look [(14, sp_f14), (10, sp_f10), (12, sp_f12), (15, sp_f15), (13, sp_f13)]) ⟨[], [], [], ⟨[(0, true)], []⟩, [], [10, 13, 14, 15], [], []⟩
theorem calls_f9 : CallsOk Tryz.prog E_f9 := callsOk_of ⟨⟨c_f14, Tryz.call14, fun _ => words_spec rfl⟩, ⟨⟨c_f10, Tryz.call10, fun _ => words_spec rfl⟩, ⟨⟨c_f12, Tryz.call12, fun h => nomatch (show false = true from h)⟩, ⟨⟨c_f15, Tryz.call15, fun _ => words_spec rfl⟩, ⟨⟨c_f13, Tryz.call13, fun _ => words_spec rfl⟩, trivial⟩⟩⟩⟩⟩
noncomputable def b_f9 : Code := (Tryz.f9.body).getD .skip
@[reducible] def R_f9 : List (Ty × List Tag) := [(.bool, [])]
theorem st_f9 (m0 : Nat) : evC E_f9 (evJ E_f9 (drE E_f9) m0) (drE E_f9) b_f9 0 (st0 [] ()) (fin E_f9 [.tmp 0] [] R_f9) = law13_awake := by kernel_rfl
theorem ev_f9 : evC E_f9 (evJ E_f9 (drE E_f9) fu) (drE E_f9) b_f9 0 (st0 [] ()) (fin E_f9 [.tmp 0] [] R_f9) = law13_awake := st_f9 fu
@[reducible] def sp_f9   : AM.Spec := AM.spec [] R_f9 (fun x => law13_awake)
theorem c_f9 : Contract Tryz.prog 9 sp_f9 :=
  contract_of (Tab.envOk tabOk _ _) calls_f9 tabOk.mixed (fn := Tryz.f9) (c := b_f9) (ts := [.tmp 0]) (by kernel_rfl) (by kernel_rfl) (by kernel_rfl) (by decide) (by kernel_rfl) (by decide) rfl fun x _ h => ⟨fu, (ev_f9).trans h⟩
@[reducible] noncomputable def E_f4 : Env := tab.env (AM.look [(9, sp_f9), (14, sp_f14), (10, sp_f10), (12, sp_f12), (15, sp_f15), (13, sp_f13)]) ⟨[(0, ⟨[(0, true), (1, true), (5, true), (6, true), (7, true)], []⟩), (2, ⟨[(0, true), (5, true), (6, true), (9, true)], []⟩)], [], [(13, ⟨[(0, true), (5, true), (6, true)], []⟩)], ⟨[(4, true)], []⟩, [], [9, 10, 13, 14, 15], [], []⟩
theorem calls_f4 : CallsOk Tryz.prog E_f4 := callsOk_of ⟨⟨c_f9, Tryz.call9, fun _ => words_spec rfl⟩, ⟨⟨c_f14, Tryz.call14, fun _ => words_spec rfl⟩, ⟨⟨c_f10, Tryz.call10, fun _ => words_spec rfl⟩, ⟨⟨c_f12, Tryz.call12, fun h => nomatch (show false = true from h)⟩, ⟨⟨c_f15, Tryz.call15, fun _ => words_spec rfl⟩, ⟨⟨c_f13, Tryz.call13, fun _ => words_spec rfl⟩, trivial⟩⟩⟩⟩⟩⟩
noncomputable def b_f4 : Code := (Tryz.f4.body).getD .skip
@[reducible] def R_f4 : List (Ty × List Tag) := [(.bool, [])]
noncomputable def sg_f4_2 (l_12 : (List Int)) (cells_13 : (List (Int × (Int × ByteArray)))) (n_14 : Int) (code_15 : Int) : St := mk [(0, .dat (.sl (.int .i64)) l_12 []), (5, .dat (.sl (.pair (.int .i64) (.pair (.int .i64) .str))) cells_13 [⟨0, 321, 0, 3⟩]), (6, .dat (.int .i64) n_14 []), (9, .dat (.int .i64) code_15 [])] []
noncomputable def sg_f4_1 (l_9 : (List Int)) (cells_10 : (List (Int × (Int × ByteArray)))) (n_11 : Int) : St := mk [(0, .dat (.sl (.int .i64)) l_9 []), (5, .dat (.sl (.pair (.int .i64) (.pair (.int .i64) .str))) cells_10 [⟨0, 321, 0, 3⟩]), (6, .dat (.int .i64) n_11 [])] []
noncomputable def sg_f4_0 (l_3 : (List Int)) (nulls_4 : Int) (cells_5 : (List (Int × (Int × ByteArray)))) (n_6 : Int) (i_7 : Int) : St := mk [(0, .dat (.sl (.int .i64)) l_3 []), (1, .dat (.int .i64) nulls_4 []), (5, .dat (.sl (.pair (.int .i64) (.pair (.int .i64) .str))) cells_5 [⟨0, 321, 0, 3⟩]), (6, .dat (.int .i64) n_6 []), (7, .dat (.int .i64) i_7 [])] []
noncomputable def q_f4_0 (m0 : Nat) : K (ResD R_f4) := fin E_f4 [.tmp 4] [] R_f4
noncomputable def cd_f4_1 : Code := (rgt (rgt (rgt (rgt (rgt (rgt b_f4))))))
noncomputable def q_f4_1 (m0 : Nat) (m1 : Nat) : K (ResD R_f4) := seqK E_f4 (evJ E_f4 (drE E_f4) m1) cd_f4_1 0 (evC E_f4 (evJ E_f4 (drE E_f4) m1) (drE E_f4) cd_f4_1 0) (q_f4_0 m0)
noncomputable def q_f4_2 (m0 : Nat) (m1 : Nat) : K (ResD R_f4) := blockK 2 (q_f4_1 m0 m1)
noncomputable def cd_f4_2 : Code := (lft (lft (rgt (lft (rgt (rgt (rgt (rgt (rgt b_f4)))))))))
noncomputable def j2_f4 (m0 : Nat) (m1 : Nat) (n : Nat) : (List Int) → (List (Int × (Int × ByteArray))) → Int → Int → Option (Bool) := fun l_12 cells_13 n_14 code_15 => evJ E_f4 (drE E_f4) n (.loop cd_f4_2) 2 (sg_f4_2 l_12 cells_13 n_14 code_15) (q_f4_2 m0 m1)
theorem st_f4_j2 (m0 : Nat) (m1 : Nat) (n : Nat) (l_12 : (List Int)) (cells_13 : (List (Int × (Int × ByteArray)))) (n_14 : Int) (code_15 : Int) : j2_f4 m0 m1 (n + 1) l_12 cells_13 n_14 code_15 = law13_BlockSame.S2 (j2_f4 m0 m1 n) l_12 cells_13 n_14 code_15 := by kernel_rfl
theorem J_f4_2 (m0 : Nat) (m1 : Nat) : ∀ (n : Nat) (l_12 : (List Int)) (cells_13 : (List (Int × (Int × ByteArray)))) (n_14 : Int) (code_15 : Int), j2_f4 m0 m1 n l_12 cells_13 n_14 code_15 = law13_BlockSame.l2 n l_12 cells_13 n_14 code_15 := by
  intro n
  induction n with
  | zero => intros; rfl
  | succ n ih =>
    intro l_12 cells_13 n_14 code_15
    have e2 : (j2_f4 m0 m1 n) = (law13_BlockSame.l2 n) := by funext l_12 cells_13 n_14 code_15; exact ih l_12 cells_13 n_14 code_15
    refine (st_f4_j2 m0 m1 n l_12 cells_13 n_14 code_15).trans ?_
    rw [e2]; rfl
noncomputable def cd_f4_3 : Code := (rgt (rgt (rgt (rgt (rgt b_f4)))))
noncomputable def j1_f4 (m0 : Nat) (n : Nat) : (List Int) → (List (Int × (Int × ByteArray))) → Int → Option (Bool) := fun l_9 cells_10 n_11 => evJ E_f4 (drE E_f4) n (.tail cd_f4_3) 0 (sg_f4_1 l_9 cells_10 n_11) (q_f4_0 m0)
theorem st_f4_j1 (m0 : Nat) (n : Nat) (l_9 : (List Int)) (cells_10 : (List (Int × (Int × ByteArray)))) (n_11 : Int) : j1_f4 m0 (n + 1) l_9 cells_10 n_11 = law13_BlockSame.S1 (j2_f4 m0 n n) l_9 cells_10 n_11 := by kernel_rfl
theorem J_f4_1 (m0 : Nat) : ∀ (n : Nat) (l_9 : (List Int)) (cells_10 : (List (Int × (Int × ByteArray)))) (n_11 : Int), j1_f4 m0 n l_9 cells_10 n_11 = law13_BlockSame.t1 n l_9 cells_10 n_11 := by
  intro n
  induction n with
  | zero => intros; rfl
  | succ n ih =>
    intro l_9 cells_10 n_11
    have e1 : (j1_f4 m0 n) = (law13_BlockSame.t1 n) := by funext l_9 cells_10 n_11; exact ih l_9 cells_10 n_11
    have e2 : (j2_f4 m0 n n) = (law13_BlockSame.l2 n) := by funext l_12 cells_13 n_14 code_15; exact J_f4_2 m0 n n l_12 cells_13 n_14 code_15
    refine (st_f4_j1 m0 n l_9 cells_10 n_11).trans ?_
    rw [e2]; rfl
noncomputable def q_f4_3 (m0 : Nat) : K (ResD R_f4) := seqK E_f4 (evJ E_f4 (drE E_f4) m0) cd_f4_3 0 (evC E_f4 (evJ E_f4 (drE E_f4) m0) (drE E_f4) cd_f4_3 0) (q_f4_0 m0)
noncomputable def q_f4_4 (m0 : Nat) : K (ResD R_f4) := blockK 0 (q_f4_3 m0)
noncomputable def cd_f4_4 : Code := (lft (lft (rgt (lft (rgt (rgt (rgt (rgt b_f4))))))))
noncomputable def j0_f4 (m0 : Nat) (n : Nat) : (List Int) → Int → (List (Int × (Int × ByteArray))) → Int → Int → Option (Bool) := fun l_3 nulls_4 cells_5 n_6 i_7 => evJ E_f4 (drE E_f4) n (.loop cd_f4_4) 0 (sg_f4_0 l_3 nulls_4 cells_5 n_6 i_7) (q_f4_4 m0)
theorem st_f4_j0 (m0 : Nat) (n : Nat) (l_3 : (List Int)) (nulls_4 : Int) (cells_5 : (List (Int × (Int × ByteArray)))) (n_6 : Int) (i_7 : Int) : j0_f4 m0 (n + 1) l_3 nulls_4 cells_5 n_6 i_7 = law13_BlockSame.S0 (j1_f4 m0 m0) (j0_f4 m0 n) l_3 nulls_4 cells_5 n_6 i_7 := by kernel_rfl
theorem J_f4_0 (m0 : Nat) : ∀ (n : Nat) (l_3 : (List Int)) (nulls_4 : Int) (cells_5 : (List (Int × (Int × ByteArray)))) (n_6 : Int) (i_7 : Int), j0_f4 m0 n l_3 nulls_4 cells_5 n_6 i_7 = law13_BlockSame.l0 (j1_f4 m0 m0) n l_3 nulls_4 cells_5 n_6 i_7 := by
  intro n
  induction n with
  | zero => intros; rfl
  | succ n ih =>
    intro l_3 nulls_4 cells_5 n_6 i_7
    have e0 : (j0_f4 m0 n) = (law13_BlockSame.l0 (j1_f4 m0 m0) n) := by funext l_3 nulls_4 cells_5 n_6 i_7; exact ih l_3 nulls_4 cells_5 n_6 i_7
    refine (st_f4_j0 m0 n l_3 nulls_4 cells_5 n_6 i_7).trans ?_
    rw [e0]; rfl
theorem st_f4 (m0 : Nat) (l : (List Int)) (nulls : Int) : evC E_f4 (evJ E_f4 (drE E_f4) m0) (drE E_f4) b_f4 0 (st0 [.val (.sl (.int .i64)), .val (.int .i64)] (l, nulls, ())) (fin E_f4 [.tmp 4] [] R_f4) = law13_BlockSame.S (j0_f4 m0 m0) l nulls := by kernel_rfl
theorem ev_f4 (l : (List Int)) (nulls : Int) : evC E_f4 (evJ E_f4 (drE E_f4) fu) (drE E_f4) b_f4 0 (st0 [.val (.sl (.int .i64)), .val (.int .i64)] (l, nulls, ())) (fin E_f4 [.tmp 4] [] R_f4) = law13_BlockSame l nulls := by
  have e1 : (j1_f4 fu fu) = (law13_BlockSame.t1 fu) := by funext l_9 cells_10 n_11; exact J_f4_1 fu fu l_9 cells_10 n_11
  have e0 : (j0_f4 fu fu) = (law13_BlockSame.l0 (law13_BlockSame.t1 fu) fu) := by rw [← e1]; funext l_3 nulls_4 cells_5 n_6 i_7; exact J_f4_0 fu fu l_3 nulls_4 cells_5 n_6 i_7
  refine (st_f4 fu l nulls).trans ?_
  rw [e0]; rfl
@[reducible] def sp_law13_BlockSame   : AM.Spec := AM.spec [.val (.sl (.int .i64)), .val (.int .i64)] R_f4 (fun x => law13_BlockSame x.1 x.2.1)
theorem c_law13_BlockSame : Contract Tryz.prog 4 sp_law13_BlockSame :=
  contract_of (Tab.envOk tabOk _ _) calls_f4 tabOk.mixed (fn := Tryz.f4) (c := b_f4) (ts := [.tmp 4]) (by kernel_rfl) (by kernel_rfl) (by kernel_rfl) (by decide) (by kernel_rfl) (by decide) rfl fun x _ h => ⟨fu, (ev_f4 x.1 x.2.1).trans h⟩
end Go.Proofs.YtlamhllcnbcbbaaGreat.Am
