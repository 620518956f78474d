/- PRINTED by gen/ of this repo: the code comes to the pure functions. -/
import Derived.Test.YtggioofgjkedpaaAmPure17
import Derived.Test.YtggioofgjkedpaaSPrim
namespace Go.Proofs.Ytggioofgjkedpaa.Am
open Go.AM Go.AM.Pure
set_option linter.unusedVariables false

/-! peristyle/peristylelaw17.num -/
@[reducible] noncomputable def E_law17_num : Env := tab.env (AM.look []) ⟨[], [], [], ⟨[(2, true)], [(2, true)]⟩⟩
theorem calls_law17_num : CallsOk Try.prog E_law17_num := callsOk_of trivial
noncomputable def b_law17_num : Code := (Try.f20.body).getD .skip
theorem st_law17_num (m0 : Nat) (xn : Int) : evC E_law17_num (evJ E_law17_num (drE E_law17_num) m0) (drE E_law17_num) b_law17_num 0 (st0 [.val (.int .i64)] (xn, ())) (fin E_law17_num [.cell 2 23] [((.pair (.int .i64) (.pair (.int .i64) .str)), [])]) = some (law17_num xn) := by kernel_rfl
theorem ev_law17_num (xn : Int) : evC E_law17_num (evJ E_law17_num (drE E_law17_num) fu) (drE E_law17_num) b_law17_num 0 (st0 [.val (.int .i64)] (xn, ())) (fin E_law17_num [.cell 2 23] [((.pair (.int .i64) (.pair (.int .i64) .str)), [])]) = some (law17_num xn) := st_law17_num fu xn
@[reducible] def sp_law17_num   : AM.Spec := AM.spec [.val (.int .i64)] [((.pair (.int .i64) (.pair (.int .i64) .str)), [])] (fun x => some (law17_num x.1))
theorem c_law17_num : Contract Try.prog 20 sp_law17_num :=
  contract_of (Tab.envOk tabOk _ _) calls_law17_num tabOk.mixed (fn := Try.f20) (c := b_law17_num) (ts := [.cell 2 23]) (by kernel_rfl) (by kernel_rfl) (by kernel_rfl) (by decide) (by kernel_rfl) (by decide) fun x _ h => ⟨fu, (ev_law17_num x.1).trans h⟩

/-! cmp.isNaN[int] -/
@[reducible] noncomputable def E_cmp_isNaN_int : Env := tab.env (AM.look []) ⟨[], [], [], ⟨[(2, true)], []⟩⟩
theorem calls_cmp_isNaN_int : CallsOk Try.prog E_cmp_isNaN_int := callsOk_of trivial
noncomputable def b_cmp_isNaN_int : Code := (Try.f33.body).getD .skip
theorem st_cmp_isNaN_int (m0 : Nat) (x : Int) : evC E_cmp_isNaN_int (evJ E_cmp_isNaN_int (drE E_cmp_isNaN_int) m0) (drE E_cmp_isNaN_int) b_cmp_isNaN_int 0 (st0 [.val (.int .i64)] (x, ())) (fin E_cmp_isNaN_int [.tmp 2] [(.bool, [])]) = some (cmp_isNaN_int x) := by kernel_rfl
theorem ev_cmp_isNaN_int (x : Int) : evC E_cmp_isNaN_int (evJ E_cmp_isNaN_int (drE E_cmp_isNaN_int) fu) (drE E_cmp_isNaN_int) b_cmp_isNaN_int 0 (st0 [.val (.int .i64)] (x, ())) (fin E_cmp_isNaN_int [.tmp 2] [(.bool, [])]) = some (cmp_isNaN_int x) := st_cmp_isNaN_int fu x
@[reducible] def sp_cmp_isNaN_int   : AM.Spec := AM.spec [.val (.int .i64)] [(.bool, [])] (fun x => some (cmp_isNaN_int x.1))
theorem c_cmp_isNaN_int : Contract Try.prog 33 sp_cmp_isNaN_int :=
  contract_of (Tab.envOk tabOk _ _) calls_cmp_isNaN_int tabOk.mixed (fn := Try.f33) (c := b_cmp_isNaN_int) (ts := [.tmp 2]) (by kernel_rfl) (by kernel_rfl) (by kernel_rfl) (by decide) (by kernel_rfl) (by decide) fun x _ h => ⟨fu, (ev_cmp_isNaN_int x.1).trans h⟩

/-! cmp.Compare[int] -/
@[reducible] noncomputable def E_cmp_Compare_int : Env := tab.env (AM.look [(33, sp_cmp_isNaN_int)]) ⟨[], [], [], ⟨[(4, true)], []⟩⟩
theorem calls_cmp_Compare_int : CallsOk Try.prog E_cmp_Compare_int := callsOk_of ⟨⟨c_cmp_isNaN_int, Try.call33⟩, trivial⟩
noncomputable def b_cmp_Compare_int : Code := (Try.f31.body).getD .skip
theorem st_cmp_Compare_int_o (m0 : Nat) (x : Int) (y : Int) : evC E_cmp_Compare_int (evJ E_cmp_Compare_int (drE E_cmp_Compare_int) m0) (drE E_cmp_Compare_int) b_cmp_Compare_int 0 (st0 [.val (.int .i64), .val (.int .i64)] (x, y, ())) (fin E_cmp_Compare_int [.tmp 4] [((.int .i64), [])]) = cmp_Compare_int.o x y := by kernel_rfl
theorem st_cmp_Compare_int (m0 : Nat) (x : Int) (y : Int) : evC E_cmp_Compare_int (evJ E_cmp_Compare_int (drE E_cmp_Compare_int) m0) (drE E_cmp_Compare_int) b_cmp_Compare_int 0 (st0 [.val (.int .i64), .val (.int .i64)] (x, y, ())) (fin E_cmp_Compare_int [.tmp 4] [((.int .i64), [])]) = some (cmp_Compare_int x y) := (st_cmp_Compare_int_o m0 x y).trans (by unfold cmp_Compare_int.o cmp_Compare_int; simp only [cond_some])
theorem ev_cmp_Compare_int (x : Int) (y : Int) : evC E_cmp_Compare_int (evJ E_cmp_Compare_int (drE E_cmp_Compare_int) fu) (drE E_cmp_Compare_int) b_cmp_Compare_int 0 (st0 [.val (.int .i64), .val (.int .i64)] (x, y, ())) (fin E_cmp_Compare_int [.tmp 4] [((.int .i64), [])]) = some (cmp_Compare_int x y) := st_cmp_Compare_int fu x y
@[reducible] def sp_cmp_Compare_int   : AM.Spec := AM.spec [.val (.int .i64), .val (.int .i64)] [((.int .i64), [])] (fun x => some (cmp_Compare_int x.1 x.2.1))
theorem c_cmp_Compare_int : Contract Try.prog 31 sp_cmp_Compare_int :=
  contract_of (Tab.envOk tabOk _ _) calls_cmp_Compare_int tabOk.mixed (fn := Try.f31) (c := b_cmp_Compare_int) (ts := [.tmp 4]) (by kernel_rfl) (by kernel_rfl) (by kernel_rfl) (by decide) (by kernel_rfl) (by decide) fun x _ h => ⟨fu, (ev_cmp_Compare_int x.1 x.2.1).trans h⟩

/-! cmp.Or[int] -/
@[reducible] noncomputable def E_cmp_Or_int : Env := tab.env (AM.look []) ⟨[(0, ⟨[(3, true), (6, true), (7, true), (8, true)], []⟩)], [], [], ⟨[(2, true)], []⟩⟩
theorem calls_cmp_Or_int : CallsOk Try.prog E_cmp_Or_int := callsOk_of trivial
noncomputable def b_cmp_Or_int : Code := (Try.f30.body).getD .skip
noncomputable def sg_cmp_Or_int_0 (zero_1 : Int) (t6_2 : (List Int)) (t7_3 : Int) (t8_4 : Int) : St := mk [(3, .dat (.int .i64) zero_1 []), (6, .dat (.sl (.int .i64)) t6_2 []), (7, .dat (.int .i64) t7_3 []), (8, .dat (.int .i64) t8_4 [])] []
noncomputable def q_cmp_Or_int_0 (m0 : Nat) : K (ResD [((.int .i64), [])]) := fin E_cmp_Or_int [.tmp 2] [((.int .i64), [])]
noncomputable def cd_cmp_Or_int_1 : Code := (rgt (rgt (rgt b_cmp_Or_int)))
noncomputable def q_cmp_Or_int_1 (m0 : Nat) : K (ResD [((.int .i64), [])]) := seqK E_cmp_Or_int (evJ E_cmp_Or_int (drE E_cmp_Or_int) m0) cd_cmp_Or_int_1 0 (evC E_cmp_Or_int (evJ E_cmp_Or_int (drE E_cmp_Or_int) m0) (drE E_cmp_Or_int) cd_cmp_Or_int_1 0) (q_cmp_Or_int_0 m0)
noncomputable def q_cmp_Or_int_2 (m0 : Nat) : K (ResD [((.int .i64), [])]) := blockK 0 (q_cmp_Or_int_1 m0)
noncomputable def cd_cmp_Or_int_2 : Code := (lft (lft (rgt (lft (rgt (rgt b_cmp_Or_int))))))
theorem st_cmp_Or_int_j0 (m0 : Nat) (n : Nat) (zero_1 : Int) (t6_2 : (List Int)) (t7_3 : Int) (t8_4 : Int) : evJ E_cmp_Or_int (drE E_cmp_Or_int) (n + 1) (.loop cd_cmp_Or_int_2) 0 (sg_cmp_Or_int_0 zero_1 t6_2 t7_3 t8_4) (q_cmp_Or_int_2 m0) = cmp_Or_int.S0 (fun zero_1 t6_2 t7_3 t8_4 => evJ E_cmp_Or_int (drE E_cmp_Or_int) n (.loop cd_cmp_Or_int_2) 0 (sg_cmp_Or_int_0 zero_1 t6_2 t7_3 t8_4) (q_cmp_Or_int_2 m0)) zero_1 t6_2 t7_3 t8_4 := by kernel_rfl
theorem J_cmp_Or_int_0 (m0 : Nat) : ∀ (n : Nat) (zero_1 : Int) (t6_2 : (List Int)) (t7_3 : Int) (t8_4 : Int), evJ E_cmp_Or_int (drE E_cmp_Or_int) n (.loop cd_cmp_Or_int_2) 0 (sg_cmp_Or_int_0 zero_1 t6_2 t7_3 t8_4) (q_cmp_Or_int_2 m0) = cmp_Or_int.l0 n zero_1 t6_2 t7_3 t8_4 := by
  intro n
  induction n with
  | zero => intros; rfl
  | succ n ih =>
    intro zero_1 t6_2 t7_3 t8_4
    have e0 : (fun zero_1 t6_2 t7_3 t8_4 => evJ E_cmp_Or_int (drE E_cmp_Or_int) n (.loop cd_cmp_Or_int_2) 0 (sg_cmp_Or_int_0 zero_1 t6_2 t7_3 t8_4) (q_cmp_Or_int_2 m0)) = (cmp_Or_int.l0 n) := by funext zero_1 t6_2 t7_3 t8_4; exact ih zero_1 t6_2 t7_3 t8_4
    refine (st_cmp_Or_int_j0 m0 n zero_1 t6_2 t7_3 t8_4).trans ?_
    rw [e0]; rfl
theorem st_cmp_Or_int (m0 : Nat) (vals : (List Int)) : evC E_cmp_Or_int (evJ E_cmp_Or_int (drE E_cmp_Or_int) m0) (drE E_cmp_Or_int) b_cmp_Or_int 0 (st0 [.val (.sl (.int .i64))] (vals, ())) (fin E_cmp_Or_int [.tmp 2] [((.int .i64), [])]) = cmp_Or_int.S (fun zero_1 t6_2 t7_3 t8_4 => evJ E_cmp_Or_int (drE E_cmp_Or_int) m0 (.loop cd_cmp_Or_int_2) 0 (sg_cmp_Or_int_0 zero_1 t6_2 t7_3 t8_4) (q_cmp_Or_int_2 m0)) vals := by kernel_rfl
theorem ev_cmp_Or_int (vals : (List Int)) : evC E_cmp_Or_int (evJ E_cmp_Or_int (drE E_cmp_Or_int) fu) (drE E_cmp_Or_int) b_cmp_Or_int 0 (st0 [.val (.sl (.int .i64))] (vals, ())) (fin E_cmp_Or_int [.tmp 2] [((.int .i64), [])]) = cmp_Or_int vals := by
  have e0 : (fun zero_1 t6_2 t7_3 t8_4 => evJ E_cmp_Or_int (drE E_cmp_Or_int) fu (.loop cd_cmp_Or_int_2) 0 (sg_cmp_Or_int_0 zero_1 t6_2 t7_3 t8_4) (q_cmp_Or_int_2 fu)) = (cmp_Or_int.l0 fu) := by funext zero_1 t6_2 t7_3 t8_4; exact J_cmp_Or_int_0 fu fu zero_1 t6_2 t7_3 t8_4
  refine (st_cmp_Or_int fu vals).trans ?_
  rw [e0]; rfl
@[reducible] def sp_cmp_Or_int   : AM.Spec := AM.spec [.val (.sl (.int .i64))] [((.int .i64), [])] (fun x => cmp_Or_int x.1)
theorem c_cmp_Or_int : Contract Try.prog 30 sp_cmp_Or_int :=
  contract_of (Tab.envOk tabOk _ _) calls_cmp_Or_int tabOk.mixed (fn := Try.f30) (c := b_cmp_Or_int) (ts := [.tmp 2]) (by kernel_rfl) (by kernel_rfl) (by kernel_rfl) (by decide) (by kernel_rfl) (by decide) fun x _ h => ⟨fu, (ev_cmp_Or_int x.1).trans h⟩

/-! peristyle/cell.Compare -/
@[reducible] noncomputable def E_cell_Compare : Env := tab.env (AM.look [(31, sp_cmp_Compare_int), (32, sp_strings_Compare), (30, sp_cmp_Or_int)]) ⟨[], [], [], ⟨[(4, true)], []⟩⟩
theorem calls_cell_Compare : CallsOk Try.prog E_cell_Compare := callsOk_of ⟨⟨c_cmp_Compare_int, Try.call31⟩, ⟨⟨c_strings_Compare, Try.call32⟩, ⟨⟨c_cmp_Or_int, Try.call30⟩, trivial⟩⟩⟩
noncomputable def b_cell_Compare : Code := (Try.f24.body).getD .skip
theorem st_cell_Compare (m0 : Nat) (a : (Int × (Int × ByteArray))) (b : (Int × (Int × ByteArray))) : evC E_cell_Compare (evJ E_cell_Compare (drE E_cell_Compare) m0) (drE E_cell_Compare) b_cell_Compare 0 (st0 [.val (.pair (.int .i64) (.pair (.int .i64) .str)), .val (.pair (.int .i64) (.pair (.int .i64) .str))] (a, b, ())) (fin E_cell_Compare [.tmp 4] [((.int .i64), [])]) = cell_Compare a b := by kernel_rfl
theorem ev_cell_Compare (a : (Int × (Int × ByteArray))) (b : (Int × (Int × ByteArray))) : evC E_cell_Compare (evJ E_cell_Compare (drE E_cell_Compare) fu) (drE E_cell_Compare) b_cell_Compare 0 (st0 [.val (.pair (.int .i64) (.pair (.int .i64) .str)), .val (.pair (.int .i64) (.pair (.int .i64) .str))] (a, b, ())) (fin E_cell_Compare [.tmp 4] [((.int .i64), [])]) = cell_Compare a b := st_cell_Compare fu a b
@[reducible] def sp_cell_Compare   : AM.Spec := AM.spec [.val (.pair (.int .i64) (.pair (.int .i64) .str)), .val (.pair (.int .i64) (.pair (.int .i64) .str))] [((.int .i64), [])] (fun x => cell_Compare x.1 x.2.1)
theorem c_cell_Compare : Contract Try.prog 24 sp_cell_Compare :=
  contract_of (Tab.envOk tabOk _ _) calls_cell_Compare tabOk.mixed (fn := Try.f24) (c := b_cell_Compare) (ts := [.tmp 4]) (by kernel_rfl) (by kernel_rfl) (by kernel_rfl) (by decide) (by kernel_rfl) (by decide) fun x _ h => ⟨fu, (ev_cell_Compare x.1 x.2.1).trans h⟩

/-! peristyle/test.Merge -/
@[reducible] noncomputable def E_test_Merge : Env := tab.env (AM.look [(24, sp_cell_Compare)]) ⟨[], [], [], ⟨[(4, true)], [(4, true)]⟩⟩
theorem calls_test_Merge : CallsOk Try.prog E_test_Merge := callsOk_of ⟨⟨c_cell_Compare, Try.call24⟩, trivial⟩
noncomputable def b_test_Merge : Code := (Try.f15.body).getD .skip
theorem st_test_Merge (m0 : Nat) (a : ((Int × (Int × ByteArray)) × ((Int × (Int × ByteArray)) × (Int × Int)))) (b : ((Int × (Int × ByteArray)) × ((Int × (Int × ByteArray)) × (Int × Int)))) : evC E_test_Merge (evJ E_test_Merge (drE E_test_Merge) m0) (drE E_test_Merge) b_test_Merge 0 (st0 [.val (.pair (.pair (.int .i64) (.pair (.int .i64) .str)) (.pair (.pair (.int .i64) (.pair (.int .i64) .str)) (.pair (.int .i64) (.int .i64)))), .val (.pair (.pair (.int .i64) (.pair (.int .i64) .str)) (.pair (.pair (.int .i64) (.pair (.int .i64) .str)) (.pair (.int .i64) (.int .i64))))] (a, b, ())) (fin E_test_Merge [.cell 4 34] [((.pair (.pair (.int .i64) (.pair (.int .i64) .str)) (.pair (.pair (.int .i64) (.pair (.int .i64) .str)) (.pair (.int .i64) (.int .i64)))), [])]) = test_Merge a b := by kernel_rfl
theorem ev_test_Merge (a : ((Int × (Int × ByteArray)) × ((Int × (Int × ByteArray)) × (Int × Int)))) (b : ((Int × (Int × ByteArray)) × ((Int × (Int × ByteArray)) × (Int × Int)))) : evC E_test_Merge (evJ E_test_Merge (drE E_test_Merge) fu) (drE E_test_Merge) b_test_Merge 0 (st0 [.val (.pair (.pair (.int .i64) (.pair (.int .i64) .str)) (.pair (.pair (.int .i64) (.pair (.int .i64) .str)) (.pair (.int .i64) (.int .i64)))), .val (.pair (.pair (.int .i64) (.pair (.int .i64) .str)) (.pair (.pair (.int .i64) (.pair (.int .i64) .str)) (.pair (.int .i64) (.int .i64))))] (a, b, ())) (fin E_test_Merge [.cell 4 34] [((.pair (.pair (.int .i64) (.pair (.int .i64) .str)) (.pair (.pair (.int .i64) (.pair (.int .i64) .str)) (.pair (.int .i64) (.int .i64)))), [])]) = test_Merge a b := st_test_Merge fu a b
@[reducible] def sp_test_Merge   : AM.Spec := AM.spec [.val (.pair (.pair (.int .i64) (.pair (.int .i64) .str)) (.pair (.pair (.int .i64) (.pair (.int .i64) .str)) (.pair (.int .i64) (.int .i64)))), .val (.pair (.pair (.int .i64) (.pair (.int .i64) .str)) (.pair (.pair (.int .i64) (.pair (.int .i64) .str)) (.pair (.int .i64) (.int .i64))))] [((.pair (.pair (.int .i64) (.pair (.int .i64) .str)) (.pair (.pair (.int .i64) (.pair (.int .i64) .str)) (.pair (.int .i64) (.int .i64)))), [])] (fun x => test_Merge x.1 x.2.1)
theorem c_test_Merge : Contract Try.prog 15 sp_test_Merge :=
  contract_of (Tab.envOk tabOk _ _) calls_test_Merge tabOk.mixed (fn := Try.f15) (c := b_test_Merge) (ts := [.cell 4 34]) (by kernel_rfl) (by kernel_rfl) (by kernel_rfl) (by decide) (by kernel_rfl) (by decide) fun x _ h => ⟨fu, (ev_test_Merge x.1 x.2.1).trans h⟩

/-! peristyle/test.Zone -/
@[reducible] noncomputable def E_test_Zone : Env := tab.env (AM.look [(15, sp_test_Merge)]) ⟨[(0, ⟨[(2, true), (3, true), (7, true), (8, true), (9, true)], [(2, true), (3, true)]⟩)], [], [], ⟨[(2, true)], [(2, true)]⟩⟩
theorem calls_test_Zone : CallsOk Try.prog E_test_Zone := callsOk_of ⟨⟨c_test_Merge, Try.call15⟩, trivial⟩
noncomputable def b_test_Zone : Code := (Try.f13.body).getD .skip
noncomputable def sg_test_Zone_0 (t7_1 : (List (Int × (Int × ByteArray)))) (t8_2 : Int) (t9_3 : Int) (t2_4 : ((Int × (Int × ByteArray)) × ((Int × (Int × ByteArray)) × (Int × Int)))) (z_5 : ((Int × (Int × ByteArray)) × ((Int × (Int × ByteArray)) × (Int × Int)))) : St := mk [(2, .ptr 2 0 0), (3, .ptr 3 0 0), (7, .dat (.sl (.pair (.int .i64) (.pair (.int .i64) .str))) t7_1 []), (8, .dat (.int .i64) t8_2 []), (9, .dat (.int .i64) t9_3 [])] [(2, some (.var (.pair (.pair (.int .i64) (.pair (.int .i64) .str)) (.pair (.pair (.int .i64) (.pair (.int .i64) .str)) (.pair (.int .i64) (.int .i64)))) t2_4 [])), (3, some (.var (.pair (.pair (.int .i64) (.pair (.int .i64) .str)) (.pair (.pair (.int .i64) (.pair (.int .i64) .str)) (.pair (.int .i64) (.int .i64)))) z_5 []))]
noncomputable def q_test_Zone_0 (m0 : Nat) : K (ResD [((.pair (.pair (.int .i64) (.pair (.int .i64) .str)) (.pair (.pair (.int .i64) (.pair (.int .i64) .str)) (.pair (.int .i64) (.int .i64)))), [])]) := fin E_test_Zone [.cell 2 34] [((.pair (.pair (.int .i64) (.pair (.int .i64) .str)) (.pair (.pair (.int .i64) (.pair (.int .i64) .str)) (.pair (.int .i64) (.int .i64)))), [])]
noncomputable def cd_test_Zone_1 : Code := (rgt (rgt (rgt b_test_Zone)))
noncomputable def q_test_Zone_1 (m0 : Nat) : K (ResD [((.pair (.pair (.int .i64) (.pair (.int .i64) .str)) (.pair (.pair (.int .i64) (.pair (.int .i64) .str)) (.pair (.int .i64) (.int .i64)))), [])]) := seqK E_test_Zone (evJ E_test_Zone (drE E_test_Zone) m0) cd_test_Zone_1 0 (evC E_test_Zone (evJ E_test_Zone (drE E_test_Zone) m0) (drE E_test_Zone) cd_test_Zone_1 0) (q_test_Zone_0 m0)
noncomputable def q_test_Zone_2 (m0 : Nat) : K (ResD [((.pair (.pair (.int .i64) (.pair (.int .i64) .str)) (.pair (.pair (.int .i64) (.pair (.int .i64) .str)) (.pair (.int .i64) (.int .i64)))), [])]) := blockK 0 (q_test_Zone_1 m0)
noncomputable def cd_test_Zone_2 : Code := (lft (lft (rgt (lft (rgt (rgt b_test_Zone))))))
theorem st_test_Zone_j0 (m0 : Nat) (n : Nat) (t7_1 : (List (Int × (Int × ByteArray)))) (t8_2 : Int) (t9_3 : Int) (t2_4 : ((Int × (Int × ByteArray)) × ((Int × (Int × ByteArray)) × (Int × Int)))) (z_5 : ((Int × (Int × ByteArray)) × ((Int × (Int × ByteArray)) × (Int × Int)))) : evJ E_test_Zone (drE E_test_Zone) (n + 1) (.loop cd_test_Zone_2) 0 (sg_test_Zone_0 t7_1 t8_2 t9_3 t2_4 z_5) (q_test_Zone_2 m0) = test_Zone.S0 (fun t7_1 t8_2 t9_3 t2_4 z_5 => evJ E_test_Zone (drE E_test_Zone) n (.loop cd_test_Zone_2) 0 (sg_test_Zone_0 t7_1 t8_2 t9_3 t2_4 z_5) (q_test_Zone_2 m0)) t7_1 t8_2 t9_3 t2_4 z_5 := by kernel_rfl
theorem J_test_Zone_0 (m0 : Nat) : ∀ (n : Nat) (t7_1 : (List (Int × (Int × ByteArray)))) (t8_2 : Int) (t9_3 : Int) (t2_4 : ((Int × (Int × ByteArray)) × ((Int × (Int × ByteArray)) × (Int × Int)))) (z_5 : ((Int × (Int × ByteArray)) × ((Int × (Int × ByteArray)) × (Int × Int)))), evJ E_test_Zone (drE E_test_Zone) n (.loop cd_test_Zone_2) 0 (sg_test_Zone_0 t7_1 t8_2 t9_3 t2_4 z_5) (q_test_Zone_2 m0) = test_Zone.l0 n t7_1 t8_2 t9_3 t2_4 z_5 := by
  intro n
  induction n with
  | zero => intros; rfl
  | succ n ih =>
    intro t7_1 t8_2 t9_3 t2_4 z_5
    have e0 : (fun t7_1 t8_2 t9_3 t2_4 z_5 => evJ E_test_Zone (drE E_test_Zone) n (.loop cd_test_Zone_2) 0 (sg_test_Zone_0 t7_1 t8_2 t9_3 t2_4 z_5) (q_test_Zone_2 m0)) = (test_Zone.l0 n) := by funext t7_1 t8_2 t9_3 t2_4 z_5; exact ih t7_1 t8_2 t9_3 t2_4 z_5
    refine (st_test_Zone_j0 m0 n t7_1 t8_2 t9_3 t2_4 z_5).trans ?_
    rw [e0]; rfl
theorem st_test_Zone (m0 : Nat) (l : (List (Int × (Int × ByteArray)))) : evC E_test_Zone (evJ E_test_Zone (drE E_test_Zone) m0) (drE E_test_Zone) b_test_Zone 0 (st0 [.val (.sl (.pair (.int .i64) (.pair (.int .i64) .str)))] (l, ())) (fin E_test_Zone [.cell 2 34] [((.pair (.pair (.int .i64) (.pair (.int .i64) .str)) (.pair (.pair (.int .i64) (.pair (.int .i64) .str)) (.pair (.int .i64) (.int .i64)))), [])]) = test_Zone.S (fun t7_1 t8_2 t9_3 t2_4 z_5 => evJ E_test_Zone (drE E_test_Zone) m0 (.loop cd_test_Zone_2) 0 (sg_test_Zone_0 t7_1 t8_2 t9_3 t2_4 z_5) (q_test_Zone_2 m0)) l := by kernel_rfl
theorem ev_test_Zone (l : (List (Int × (Int × ByteArray)))) : evC E_test_Zone (evJ E_test_Zone (drE E_test_Zone) fu) (drE E_test_Zone) b_test_Zone 0 (st0 [.val (.sl (.pair (.int .i64) (.pair (.int .i64) .str)))] (l, ())) (fin E_test_Zone [.cell 2 34] [((.pair (.pair (.int .i64) (.pair (.int .i64) .str)) (.pair (.pair (.int .i64) (.pair (.int .i64) .str)) (.pair (.int .i64) (.int .i64)))), [])]) = test_Zone l := by
  have e0 : (fun t7_1 t8_2 t9_3 t2_4 z_5 => evJ E_test_Zone (drE E_test_Zone) fu (.loop cd_test_Zone_2) 0 (sg_test_Zone_0 t7_1 t8_2 t9_3 t2_4 z_5) (q_test_Zone_2 fu)) = (test_Zone.l0 fu) := by funext t7_1 t8_2 t9_3 t2_4 z_5; exact J_test_Zone_0 fu fu t7_1 t8_2 t9_3 t2_4 z_5
  refine (st_test_Zone fu l).trans ?_
  rw [e0]; rfl
@[reducible] def sp_test_Zone   : AM.Spec := AM.spec [.val (.sl (.pair (.int .i64) (.pair (.int .i64) .str)))] [((.pair (.pair (.int .i64) (.pair (.int .i64) .str)) (.pair (.pair (.int .i64) (.pair (.int .i64) .str)) (.pair (.int .i64) (.int .i64)))), [])] (fun x => test_Zone x.1)
theorem c_test_Zone : Contract Try.prog 13 sp_test_Zone :=
  contract_of (Tab.envOk tabOk _ _) calls_test_Zone tabOk.mixed (fn := Try.f13) (c := b_test_Zone) (ts := [.cell 2 34]) (by kernel_rfl) (by kernel_rfl) (by kernel_rfl) (by decide) (by kernel_rfl) (by decide) fun x _ h => ⟨fu, (ev_test_Zone x.1).trans h⟩

/-! peristyle/cell.Check -/
@[reducible] noncomputable def E_cell_Check : Env := tab.env (AM.look []) ⟨[], [], [], ⟨[(2, true)], []⟩⟩
theorem calls_cell_Check : CallsOk Try.prog E_cell_Check := callsOk_of trivial
noncomputable def b_cell_Check : Code := (Try.f21.body).getD .skip
theorem st_cell_Check_o (m0 : Nat) (c : (Int × (Int × ByteArray))) : evC E_cell_Check (evJ E_cell_Check (drE E_cell_Check) m0) (drE E_cell_Check) b_cell_Check 0 (st0 [.val (.pair (.int .i64) (.pair (.int .i64) .str))] (c, ())) (fin E_cell_Check [.tmp 2] [((.int .i64), [])]) = cell_Check.o c := by kernel_rfl
theorem st_cell_Check (m0 : Nat) (c : (Int × (Int × ByteArray))) : evC E_cell_Check (evJ E_cell_Check (drE E_cell_Check) m0) (drE E_cell_Check) b_cell_Check 0 (st0 [.val (.pair (.int .i64) (.pair (.int .i64) .str))] (c, ())) (fin E_cell_Check [.tmp 2] [((.int .i64), [])]) = some (cell_Check c) := (st_cell_Check_o m0 c).trans (by unfold cell_Check.o cell_Check; simp only [cond_some])
theorem ev_cell_Check (c : (Int × (Int × ByteArray))) : evC E_cell_Check (evJ E_cell_Check (drE E_cell_Check) fu) (drE E_cell_Check) b_cell_Check 0 (st0 [.val (.pair (.int .i64) (.pair (.int .i64) .str))] (c, ())) (fin E_cell_Check [.tmp 2] [((.int .i64), [])]) = some (cell_Check c) := st_cell_Check fu c
@[reducible] def sp_cell_Check   : AM.Spec := AM.spec [.val (.pair (.int .i64) (.pair (.int .i64) .str))] [((.int .i64), [])] (fun x => some (cell_Check x.1))
theorem c_cell_Check : Contract Try.prog 21 sp_cell_Check :=
  contract_of (Tab.envOk tabOk _ _) calls_cell_Check tabOk.mixed (fn := Try.f21) (c := b_cell_Check) (ts := [.tmp 2]) (by kernel_rfl) (by kernel_rfl) (by kernel_rfl) (by decide) (by kernel_rfl) (by decide) fun x _ h => ⟨fu, (ev_cell_Check x.1).trans h⟩

/-! peristyle/test.Check -/
@[reducible] noncomputable def E_test_Check : Env := tab.env (AM.look [(21, sp_cell_Check)]) ⟨[], [], [], ⟨[(2, true)], []⟩⟩
theorem calls_test_Check : CallsOk Try.prog E_test_Check := callsOk_of ⟨⟨c_cell_Check, Try.call21⟩, trivial⟩
noncomputable def b_test_Check : Code := (Try.f8.body).getD .skip
theorem st_test_Check_o (m0 : Nat) (t : (Int × (Int × (Int × ByteArray)))) : evC E_test_Check (evJ E_test_Check (drE E_test_Check) m0) (drE E_test_Check) b_test_Check 0 (st0 [.val (.pair (.int .i64) (.pair (.int .i64) (.pair (.int .i64) .str)))] (t, ())) (fin E_test_Check [.tmp 2] [((.int .i64), [])]) = test_Check.o t := by kernel_rfl
theorem st_test_Check (m0 : Nat) (t : (Int × (Int × (Int × ByteArray)))) : evC E_test_Check (evJ E_test_Check (drE E_test_Check) m0) (drE E_test_Check) b_test_Check 0 (st0 [.val (.pair (.int .i64) (.pair (.int .i64) (.pair (.int .i64) .str)))] (t, ())) (fin E_test_Check [.tmp 2] [((.int .i64), [])]) = some (test_Check t) := (st_test_Check_o m0 t).trans (by unfold test_Check.o test_Check; simp only [cond_some])
theorem ev_test_Check (t : (Int × (Int × (Int × ByteArray)))) : evC E_test_Check (evJ E_test_Check (drE E_test_Check) fu) (drE E_test_Check) b_test_Check 0 (st0 [.val (.pair (.int .i64) (.pair (.int .i64) (.pair (.int .i64) .str)))] (t, ())) (fin E_test_Check [.tmp 2] [((.int .i64), [])]) = some (test_Check t) := st_test_Check fu t
@[reducible] def sp_test_Check   : AM.Spec := AM.spec [.val (.pair (.int .i64) (.pair (.int .i64) (.pair (.int .i64) .str)))] [((.int .i64), [])] (fun x => some (test_Check x.1))
theorem c_test_Check : Contract Try.prog 8 sp_test_Check :=
  contract_of (Tab.envOk tabOk _ _) calls_test_Check tabOk.mixed (fn := Try.f8) (c := b_test_Check) (ts := [.tmp 2]) (by kernel_rfl) (by kernel_rfl) (by kernel_rfl) (by decide) (by kernel_rfl) (by decide) fun x _ h => ⟨fu, (ev_test_Check x.1).trans h⟩

/-! peristyle/test.stands -/
@[reducible] noncomputable def E_test_stands : Env := tab.env (AM.look [(24, sp_cell_Compare)]) ⟨[], [], [], ⟨[(4, true)], []⟩⟩
theorem calls_test_stands : CallsOk Try.prog E_test_stands := callsOk_of ⟨⟨c_cell_Compare, Try.call24⟩, trivial⟩
noncomputable def b_test_stands : Code := (Try.f22.body).getD .skip
theorem st_test_stands (m0 : Nat) (t : (Int × (Int × (Int × ByteArray)))) (c : (Int × (Int × ByteArray))) : evC E_test_stands (evJ E_test_stands (drE E_test_stands) m0) (drE E_test_stands) b_test_stands 0 (st0 [.val (.pair (.int .i64) (.pair (.int .i64) (.pair (.int .i64) .str))), .val (.pair (.int .i64) (.pair (.int .i64) .str))] (t, c, ())) (fin E_test_stands [.tmp 4] [(.bool, [])]) = test_stands t c := by kernel_rfl
theorem ev_test_stands (t : (Int × (Int × (Int × ByteArray)))) (c : (Int × (Int × ByteArray))) : evC E_test_stands (evJ E_test_stands (drE E_test_stands) fu) (drE E_test_stands) b_test_stands 0 (st0 [.val (.pair (.int .i64) (.pair (.int .i64) (.pair (.int .i64) .str))), .val (.pair (.int .i64) (.pair (.int .i64) .str))] (t, c, ())) (fin E_test_stands [.tmp 4] [(.bool, [])]) = test_stands t c := st_test_stands fu t c
@[reducible] def sp_test_stands   : AM.Spec := AM.spec [.val (.pair (.int .i64) (.pair (.int .i64) (.pair (.int .i64) .str))), .val (.pair (.int .i64) (.pair (.int .i64) .str))] [(.bool, [])] (fun x => test_stands x.1 x.2.1)
theorem c_test_stands : Contract Try.prog 22 sp_test_stands :=
  contract_of (Tab.envOk tabOk _ _) calls_test_stands tabOk.mixed (fn := Try.f22) (c := b_test_stands) (ts := [.tmp 4]) (by kernel_rfl) (by kernel_rfl) (by kernel_rfl) (by decide) (by kernel_rfl) (by decide) fun x _ h => ⟨fu, (ev_test_stands x.1 x.2.1).trans h⟩

/-! peristyle/test.Match -/
@[reducible] noncomputable def E_test_Match : Env := tab.env (AM.look [(8, sp_test_Check), (22, sp_test_stands)]) ⟨[], [], [], ⟨[(4, true)], []⟩⟩
theorem calls_test_Match : CallsOk Try.prog E_test_Match := callsOk_of ⟨⟨c_test_Check, Try.call8⟩, ⟨⟨c_test_stands, Try.call22⟩, trivial⟩⟩
noncomputable def b_test_Match : Code := (Try.f9.body).getD .skip
theorem st_test_Match (m0 : Nat) (t : (Int × (Int × (Int × ByteArray)))) (c : (Int × (Int × ByteArray))) : evC E_test_Match (evJ E_test_Match (drE E_test_Match) m0) (drE E_test_Match) b_test_Match 0 (st0 [.val (.pair (.int .i64) (.pair (.int .i64) (.pair (.int .i64) .str))), .val (.pair (.int .i64) (.pair (.int .i64) .str))] (t, c, ())) (fin E_test_Match [.tmp 4] [(.bool, [])]) = test_Match t c := by kernel_rfl
theorem ev_test_Match (t : (Int × (Int × (Int × ByteArray)))) (c : (Int × (Int × ByteArray))) : evC E_test_Match (evJ E_test_Match (drE E_test_Match) fu) (drE E_test_Match) b_test_Match 0 (st0 [.val (.pair (.int .i64) (.pair (.int .i64) (.pair (.int .i64) .str))), .val (.pair (.int .i64) (.pair (.int .i64) .str))] (t, c, ())) (fin E_test_Match [.tmp 4] [(.bool, [])]) = test_Match t c := st_test_Match fu t c
@[reducible] def sp_test_Match   : AM.Spec := AM.spec [.val (.pair (.int .i64) (.pair (.int .i64) (.pair (.int .i64) .str))), .val (.pair (.int .i64) (.pair (.int .i64) .str))] [(.bool, [])] (fun x => test_Match x.1 x.2.1)
theorem c_test_Match : Contract Try.prog 9 sp_test_Match :=
  contract_of (Tab.envOk tabOk _ _) calls_test_Match tabOk.mixed (fn := Try.f9) (c := b_test_Match) (ts := [.tmp 4]) (by kernel_rfl) (by kernel_rfl) (by kernel_rfl) (by decide) (by kernel_rfl) (by decide) fun x _ h => ⟨fu, (ev_test_Match x.1 x.2.1).trans h⟩

/-! peristyle/test.Bounds$1$1 -/
@[reducible] noncomputable def E_test_Bounds_1_1 : Env := tab.env (AM.look [(9, sp_test_Match)]) ⟨[], [], [], ⟨[(5, true)], []⟩⟩
theorem calls_test_Bounds_1_1 : CallsOk Try.prog E_test_Bounds_1_1 := callsOk_of ⟨⟨c_test_Match, Try.call9⟩, trivial⟩
noncomputable def b_test_Bounds_1_1 : Code := (Try.f29.body).getD .skip
theorem st_test_Bounds_1_1 (m0 : Nat) (xk : Int) (t1 : Int) (t2 : (Int × (Int × (Int × ByteArray)))) (t3 : (List Int)) : evC E_test_Bounds_1_1 (evJ E_test_Bounds_1_1 (drE E_test_Bounds_1_1) m0) (drE E_test_Bounds_1_1) b_test_Bounds_1_1 0 (st0 [.val (.int .i64), .ref (.int .i64), .ref (.pair (.int .i64) (.pair (.int .i64) (.pair (.int .i64) .str))), .ref (.sl (.int .i64))] (xk, t1, t2, t3, ())) (fin E_test_Bounds_1_1 [.tmp 5] [(.bool, [])]) = test_Bounds_1_1 xk t1 t2 t3 := by kernel_rfl
theorem ev_test_Bounds_1_1 (xk : Int) (t1 : Int) (t2 : (Int × (Int × (Int × ByteArray)))) (t3 : (List Int)) : evC E_test_Bounds_1_1 (evJ E_test_Bounds_1_1 (drE E_test_Bounds_1_1) fu) (drE E_test_Bounds_1_1) b_test_Bounds_1_1 0 (st0 [.val (.int .i64), .ref (.int .i64), .ref (.pair (.int .i64) (.pair (.int .i64) (.pair (.int .i64) .str))), .ref (.sl (.int .i64))] (xk, t1, t2, t3, ())) (fin E_test_Bounds_1_1 [.tmp 5] [(.bool, [])]) = test_Bounds_1_1 xk t1 t2 t3 := st_test_Bounds_1_1 fu xk t1 t2 t3
@[reducible] def sp_test_Bounds_1_1   : AM.Spec := AM.spec [.val (.int .i64), .ref (.int .i64), .ref (.pair (.int .i64) (.pair (.int .i64) (.pair (.int .i64) .str))), .ref (.sl (.int .i64))] [(.bool, [])] (fun x => test_Bounds_1_1 x.1 x.2.1 x.2.2.1 x.2.2.2.1)
theorem c_test_Bounds_1_1 : Contract Try.prog 29 sp_test_Bounds_1_1 :=
  contract_of (Tab.envOk tabOk _ _) calls_test_Bounds_1_1 tabOk.mixed (fn := Try.f29) (c := b_test_Bounds_1_1) (ts := [.tmp 5]) (by kernel_rfl) (by kernel_rfl) (by kernel_rfl) (by decide) (by kernel_rfl) (by decide) fun x _ h => ⟨fu, (ev_test_Bounds_1_1 x.1 x.2.1 x.2.2.1 x.2.2.2.1).trans h⟩

/-! sort.Search -/
@[reducible] noncomputable def E_sort_Search__test_Bounds_1_1 : Env := tab.env (AM.look [(29, sp_test_Bounds_1_1)]) ⟨[(0, ⟨[(1, true), (5, true), (6, true)], []⟩)], [], [], ⟨[(4, true)], []⟩⟩
theorem calls_sort_Search__test_Bounds_1_1 : CallsOk Try.prog E_sort_Search__test_Bounds_1_1 := callsOk_of ⟨⟨c_test_Bounds_1_1, Try.call29⟩, trivial⟩
noncomputable def b_sort_Search__test_Bounds_1_1 : Code := (Try.f28.body).getD .skip
noncomputable def sg_sort_Search__test_Bounds_1_1_0 (f_1 : Int) (f_2 : (Int × (Int × (Int × ByteArray)))) (f_3 : (List Int)) (i_4 : Int) (j_5 : Int) : St := mk [(1, .fn 29 [⟨(.int .i64), f_1, []⟩, ⟨(.pair (.int .i64) (.pair (.int .i64) (.pair (.int .i64) .str))), f_2, []⟩, ⟨(.sl (.int .i64)), f_3, []⟩]), (5, .dat (.int .i64) i_4 []), (6, .dat (.int .i64) j_5 [])] []
noncomputable def q_sort_Search__test_Bounds_1_1_0 (m0 : Nat) : K (ResD [((.int .i64), [])]) := fin E_sort_Search__test_Bounds_1_1 [.tmp 4] [((.int .i64), [])]
noncomputable def cd_sort_Search__test_Bounds_1_1_1 : Code := (rgt (rgt (rgt b_sort_Search__test_Bounds_1_1)))
noncomputable def q_sort_Search__test_Bounds_1_1_1 (m0 : Nat) : K (ResD [((.int .i64), [])]) := seqK E_sort_Search__test_Bounds_1_1 (evJ E_sort_Search__test_Bounds_1_1 (drE E_sort_Search__test_Bounds_1_1) m0) cd_sort_Search__test_Bounds_1_1_1 0 (evC E_sort_Search__test_Bounds_1_1 (evJ E_sort_Search__test_Bounds_1_1 (drE E_sort_Search__test_Bounds_1_1) m0) (drE E_sort_Search__test_Bounds_1_1) cd_sort_Search__test_Bounds_1_1_1 0) (q_sort_Search__test_Bounds_1_1_0 m0)
noncomputable def q_sort_Search__test_Bounds_1_1_2 (m0 : Nat) : K (ResD [((.int .i64), [])]) := blockK 0 (q_sort_Search__test_Bounds_1_1_1 m0)
noncomputable def cd_sort_Search__test_Bounds_1_1_2 : Code := (lft (lft (lft (rgt (rgt b_sort_Search__test_Bounds_1_1)))))
theorem st_sort_Search__test_Bounds_1_1_j0 (m0 : Nat) (n : Nat) (f_1 : Int) (f_2 : (Int × (Int × (Int × ByteArray)))) (f_3 : (List Int)) (i_4 : Int) (j_5 : Int) : evJ E_sort_Search__test_Bounds_1_1 (drE E_sort_Search__test_Bounds_1_1) (n + 1) (.loop cd_sort_Search__test_Bounds_1_1_2) 0 (sg_sort_Search__test_Bounds_1_1_0 f_1 f_2 f_3 i_4 j_5) (q_sort_Search__test_Bounds_1_1_2 m0) = sort_Search__test_Bounds_1_1.S0 (fun f_1 f_2 f_3 i_4 j_5 => evJ E_sort_Search__test_Bounds_1_1 (drE E_sort_Search__test_Bounds_1_1) n (.loop cd_sort_Search__test_Bounds_1_1_2) 0 (sg_sort_Search__test_Bounds_1_1_0 f_1 f_2 f_3 i_4 j_5) (q_sort_Search__test_Bounds_1_1_2 m0)) f_1 f_2 f_3 i_4 j_5 := by kernel_rfl
theorem J_sort_Search__test_Bounds_1_1_0 (m0 : Nat) : ∀ (n : Nat) (f_1 : Int) (f_2 : (Int × (Int × (Int × ByteArray)))) (f_3 : (List Int)) (i_4 : Int) (j_5 : Int), evJ E_sort_Search__test_Bounds_1_1 (drE E_sort_Search__test_Bounds_1_1) n (.loop cd_sort_Search__test_Bounds_1_1_2) 0 (sg_sort_Search__test_Bounds_1_1_0 f_1 f_2 f_3 i_4 j_5) (q_sort_Search__test_Bounds_1_1_2 m0) = sort_Search__test_Bounds_1_1.l0 n f_1 f_2 f_3 i_4 j_5 := by
  intro n
  induction n with
  | zero => intros; rfl
  | succ n ih =>
    intro f_1 f_2 f_3 i_4 j_5
    have e0 : (fun f_1 f_2 f_3 i_4 j_5 => evJ E_sort_Search__test_Bounds_1_1 (drE E_sort_Search__test_Bounds_1_1) n (.loop cd_sort_Search__test_Bounds_1_1_2) 0 (sg_sort_Search__test_Bounds_1_1_0 f_1 f_2 f_3 i_4 j_5) (q_sort_Search__test_Bounds_1_1_2 m0)) = (sort_Search__test_Bounds_1_1.l0 n) := by funext f_1 f_2 f_3 i_4 j_5; exact ih f_1 f_2 f_3 i_4 j_5
    refine (st_sort_Search__test_Bounds_1_1_j0 m0 n f_1 f_2 f_3 i_4 j_5).trans ?_
    rw [e0]; rfl
theorem st_sort_Search__test_Bounds_1_1 (m0 : Nat) (xn : Int) (f0 : Int) (f1 : (Int × (Int × (Int × ByteArray)))) (f2 : (List Int)) : evC E_sort_Search__test_Bounds_1_1 (evJ E_sort_Search__test_Bounds_1_1 (drE E_sort_Search__test_Bounds_1_1) m0) (drE E_sort_Search__test_Bounds_1_1) b_sort_Search__test_Bounds_1_1 0 (st0 [.val (.int .i64), .fn 29 [(.int .i64), (.pair (.int .i64) (.pair (.int .i64) (.pair (.int .i64) .str))), (.sl (.int .i64))]] (xn, (f0, f1, f2, ()), ())) (fin E_sort_Search__test_Bounds_1_1 [.tmp 4] [((.int .i64), [])]) = sort_Search__test_Bounds_1_1.S (fun f_1 f_2 f_3 i_4 j_5 => evJ E_sort_Search__test_Bounds_1_1 (drE E_sort_Search__test_Bounds_1_1) m0 (.loop cd_sort_Search__test_Bounds_1_1_2) 0 (sg_sort_Search__test_Bounds_1_1_0 f_1 f_2 f_3 i_4 j_5) (q_sort_Search__test_Bounds_1_1_2 m0)) xn f0 f1 f2 := by kernel_rfl
theorem ev_sort_Search__test_Bounds_1_1 (xn : Int) (f0 : Int) (f1 : (Int × (Int × (Int × ByteArray)))) (f2 : (List Int)) : evC E_sort_Search__test_Bounds_1_1 (evJ E_sort_Search__test_Bounds_1_1 (drE E_sort_Search__test_Bounds_1_1) fu) (drE E_sort_Search__test_Bounds_1_1) b_sort_Search__test_Bounds_1_1 0 (st0 [.val (.int .i64), .fn 29 [(.int .i64), (.pair (.int .i64) (.pair (.int .i64) (.pair (.int .i64) .str))), (.sl (.int .i64))]] (xn, (f0, f1, f2, ()), ())) (fin E_sort_Search__test_Bounds_1_1 [.tmp 4] [((.int .i64), [])]) = sort_Search__test_Bounds_1_1 xn f0 f1 f2 := by
  have e0 : (fun f_1 f_2 f_3 i_4 j_5 => evJ E_sort_Search__test_Bounds_1_1 (drE E_sort_Search__test_Bounds_1_1) fu (.loop cd_sort_Search__test_Bounds_1_1_2) 0 (sg_sort_Search__test_Bounds_1_1_0 f_1 f_2 f_3 i_4 j_5) (q_sort_Search__test_Bounds_1_1_2 fu)) = (sort_Search__test_Bounds_1_1.l0 fu) := by funext f_1 f_2 f_3 i_4 j_5; exact J_sort_Search__test_Bounds_1_1_0 fu fu f_1 f_2 f_3 i_4 j_5
  refine (st_sort_Search__test_Bounds_1_1 fu xn f0 f1 f2).trans ?_
  rw [e0]; rfl
@[reducible] def sp_sort_Search__test_Bounds_1_1   : AM.Spec := AM.spec [.val (.int .i64), .fn 29 [(.int .i64), (.pair (.int .i64) (.pair (.int .i64) (.pair (.int .i64) .str))), (.sl (.int .i64))]] [((.int .i64), [])] (fun x => sort_Search__test_Bounds_1_1 x.1 x.2.1.1 x.2.1.2.1 x.2.1.2.2.1)
theorem c_sort_Search__test_Bounds_1_1 : Contract Try.prog 28 sp_sort_Search__test_Bounds_1_1 :=
  contract_of (Tab.envOk tabOk _ _) calls_sort_Search__test_Bounds_1_1 tabOk.mixed (fn := Try.f28) (c := b_sort_Search__test_Bounds_1_1) (ts := [.tmp 4]) (by kernel_rfl) (by kernel_rfl) (by kernel_rfl) (by decide) (by kernel_rfl) (by decide) fun x _ h => ⟨fu, (ev_sort_Search__test_Bounds_1_1 x.1 x.2.1.1 x.2.1.2.1 x.2.1.2.2.1).trans h⟩

/-! peristyle/test.Bounds$1 -/
@[reducible] noncomputable def E_test_Bounds_1 : Env := tab.env (AM.look [(28, sp_sort_Search__test_Bounds_1_1)]) ⟨[], [], [], ⟨[(4, true)], []⟩⟩
theorem calls_test_Bounds_1 : CallsOk Try.prog E_test_Bounds_1 := callsOk_of ⟨⟨c_sort_Search__test_Bounds_1_1, Try.call28⟩, trivial⟩
noncomputable def b_test_Bounds_1 : Code := (Try.f27.body).getD .skip
theorem st_test_Bounds_1 (m0 : Nat) (op : Int) (t1 : (List Int)) (t2 : (Int × (Int × (Int × ByteArray)))) : evC E_test_Bounds_1 (evJ E_test_Bounds_1 (drE E_test_Bounds_1) m0) (drE E_test_Bounds_1) b_test_Bounds_1 0 (st0 [.val (.int .i64), .ref (.sl (.int .i64)), .ref (.pair (.int .i64) (.pair (.int .i64) (.pair (.int .i64) .str)))] (op, t1, t2, ())) (fin E_test_Bounds_1 [.tmp 4] [((.int .i64), [])]) = test_Bounds_1 op t1 t2 := by kernel_rfl
theorem ev_test_Bounds_1 (op : Int) (t1 : (List Int)) (t2 : (Int × (Int × (Int × ByteArray)))) : evC E_test_Bounds_1 (evJ E_test_Bounds_1 (drE E_test_Bounds_1) fu) (drE E_test_Bounds_1) b_test_Bounds_1 0 (st0 [.val (.int .i64), .ref (.sl (.int .i64)), .ref (.pair (.int .i64) (.pair (.int .i64) (.pair (.int .i64) .str)))] (op, t1, t2, ())) (fin E_test_Bounds_1 [.tmp 4] [((.int .i64), [])]) = test_Bounds_1 op t1 t2 := st_test_Bounds_1 fu op t1 t2
@[reducible] def sp_test_Bounds_1   : AM.Spec := AM.spec [.val (.int .i64), .ref (.sl (.int .i64)), .ref (.pair (.int .i64) (.pair (.int .i64) (.pair (.int .i64) .str)))] [((.int .i64), [])] (fun x => test_Bounds_1 x.1 x.2.1 x.2.2.1)
theorem c_test_Bounds_1 : Contract Try.prog 27 sp_test_Bounds_1 :=
  contract_of (Tab.envOk tabOk _ _) calls_test_Bounds_1 tabOk.mixed (fn := Try.f27) (c := b_test_Bounds_1) (ts := [.tmp 4]) (by kernel_rfl) (by kernel_rfl) (by kernel_rfl) (by decide) (by kernel_rfl) (by decide) fun x _ h => ⟨fu, (ev_test_Bounds_1 x.1 x.2.1 x.2.2.1).trans h⟩

/-! peristyle/test.Bounds -/
@[reducible] noncomputable def E_test_Bounds : Env := tab.env (AM.look [(8, sp_test_Check), (27, sp_test_Bounds_1)]) ⟨[], [], [(15, ⟨[(7, true), (8, true)], []⟩)], ⟨[(4, true), (5, true)], []⟩⟩
theorem calls_test_Bounds : CallsOk Try.prog E_test_Bounds := callsOk_of ⟨⟨c_test_Check, Try.call8⟩, ⟨⟨c_test_Bounds_1, Try.call27⟩, trivial⟩⟩
noncomputable def b_test_Bounds : Code := (Try.f19.body).getD .skip
noncomputable def sg_test_Bounds_0 (from_4 : Int) (to_5 : Int) : St := mk [(7, .dat (.int .i64) from_4 []), (8, .dat (.int .i64) to_5 [])] []
noncomputable def q_test_Bounds_0 (m0 : Nat) : K (ResD [((.int .i64), []), ((.int .i64), [])]) := fin E_test_Bounds [.tmp 4, .tmp 5] [((.int .i64), []), ((.int .i64), [])]
noncomputable def cd_test_Bounds_1 : Code := (rgt (rgt (rgt (rgt (rgt b_test_Bounds)))))
theorem st_test_Bounds_j0 (m0 : Nat) (n : Nat) (from_4 : Int) (to_5 : Int) : evJ E_test_Bounds (drE E_test_Bounds) (n + 1) (.tail cd_test_Bounds_1) 0 (sg_test_Bounds_0 from_4 to_5) (q_test_Bounds_0 m0) = test_Bounds.S0 from_4 to_5 := by kernel_rfl
theorem J_test_Bounds_0 (m0 : Nat) : ∀ (n : Nat) (from_4 : Int) (to_5 : Int), evJ E_test_Bounds (drE E_test_Bounds) n (.tail cd_test_Bounds_1) 0 (sg_test_Bounds_0 from_4 to_5) (q_test_Bounds_0 m0) = test_Bounds.t0 n from_4 to_5 := by
  intro n
  induction n with
  | zero => intros; rfl
  | succ n ih =>
    intro from_4 to_5
    have e0 : (fun from_4 to_5 => evJ E_test_Bounds (drE E_test_Bounds) n (.tail cd_test_Bounds_1) 0 (sg_test_Bounds_0 from_4 to_5) (q_test_Bounds_0 m0)) = (test_Bounds.t0 n) := by funext from_4 to_5; exact ih from_4 to_5
    refine (st_test_Bounds_j0 m0 n from_4 to_5).trans ?_
    rfl
theorem st_test_Bounds (m0 : Nat) (t : (Int × (Int × (Int × ByteArray)))) (l : (List Int)) : evC E_test_Bounds (evJ E_test_Bounds (drE E_test_Bounds) m0) (drE E_test_Bounds) b_test_Bounds 0 (st0 [.val (.pair (.int .i64) (.pair (.int .i64) (.pair (.int .i64) .str))), .val (.sl (.int .i64))] (t, l, ())) (fin E_test_Bounds [.tmp 4, .tmp 5] [((.int .i64), []), ((.int .i64), [])]) = test_Bounds.S (fun from_4 to_5 => evJ E_test_Bounds (drE E_test_Bounds) m0 (.tail cd_test_Bounds_1) 0 (sg_test_Bounds_0 from_4 to_5) (q_test_Bounds_0 m0)) t l := by kernel_rfl
theorem ev_test_Bounds (t : (Int × (Int × (Int × ByteArray)))) (l : (List Int)) : evC E_test_Bounds (evJ E_test_Bounds (drE E_test_Bounds) fu) (drE E_test_Bounds) b_test_Bounds 0 (st0 [.val (.pair (.int .i64) (.pair (.int .i64) (.pair (.int .i64) .str))), .val (.sl (.int .i64))] (t, l, ())) (fin E_test_Bounds [.tmp 4, .tmp 5] [((.int .i64), []), ((.int .i64), [])]) = test_Bounds t l := by
  have e0 : (fun from_4 to_5 => evJ E_test_Bounds (drE E_test_Bounds) fu (.tail cd_test_Bounds_1) 0 (sg_test_Bounds_0 from_4 to_5) (q_test_Bounds_0 fu)) = (test_Bounds.t0 fu) := by funext from_4 to_5; exact J_test_Bounds_0 fu fu from_4 to_5
  refine (st_test_Bounds fu t l).trans ?_
  rw [e0]; rfl
@[reducible] def sp_test_Bounds   : AM.Spec := AM.spec [.val (.pair (.int .i64) (.pair (.int .i64) (.pair (.int .i64) .str))), .val (.sl (.int .i64))] [((.int .i64), []), ((.int .i64), [])] (fun x => test_Bounds x.1 x.2.1)
theorem c_test_Bounds : Contract Try.prog 19 sp_test_Bounds :=
  contract_of (Tab.envOk tabOk _ _) calls_test_Bounds tabOk.mixed (fn := Try.f19) (c := b_test_Bounds) (ts := [.tmp 4, .tmp 5]) (by kernel_rfl) (by kernel_rfl) (by kernel_rfl) (by decide) (by kernel_rfl) (by decide) fun x _ h => ⟨fu, (ev_test_Bounds x.1 x.2.1).trans h⟩

/-! peristyle/test.outside -/
@[reducible] noncomputable def E_test_outside : Env := tab.env (AM.look [(24, sp_cell_Compare)]) ⟨[], [], [], ⟨[(4, true)], []⟩⟩
theorem calls_test_outside : CallsOk Try.prog E_test_outside := callsOk_of ⟨⟨c_cell_Compare, Try.call24⟩, trivial⟩
noncomputable def b_test_outside : Code := (Try.f25.body).getD .skip
theorem st_test_outside (m0 : Nat) (t : (Int × (Int × (Int × ByteArray)))) (z : ((Int × (Int × ByteArray)) × ((Int × (Int × ByteArray)) × (Int × Int)))) : evC E_test_outside (evJ E_test_outside (drE E_test_outside) m0) (drE E_test_outside) b_test_outside 0 (st0 [.val (.pair (.int .i64) (.pair (.int .i64) (.pair (.int .i64) .str))), .val (.pair (.pair (.int .i64) (.pair (.int .i64) .str)) (.pair (.pair (.int .i64) (.pair (.int .i64) .str)) (.pair (.int .i64) (.int .i64))))] (t, z, ())) (fin E_test_outside [.tmp 4] [(.bool, [])]) = test_outside t z := by kernel_rfl
theorem ev_test_outside (t : (Int × (Int × (Int × ByteArray)))) (z : ((Int × (Int × ByteArray)) × ((Int × (Int × ByteArray)) × (Int × Int)))) : evC E_test_outside (evJ E_test_outside (drE E_test_outside) fu) (drE E_test_outside) b_test_outside 0 (st0 [.val (.pair (.int .i64) (.pair (.int .i64) (.pair (.int .i64) .str))), .val (.pair (.pair (.int .i64) (.pair (.int .i64) .str)) (.pair (.pair (.int .i64) (.pair (.int .i64) .str)) (.pair (.int .i64) (.int .i64))))] (t, z, ())) (fin E_test_outside [.tmp 4] [(.bool, [])]) = test_outside t z := st_test_outside fu t z
@[reducible] def sp_test_outside   : AM.Spec := AM.spec [.val (.pair (.int .i64) (.pair (.int .i64) (.pair (.int .i64) .str))), .val (.pair (.pair (.int .i64) (.pair (.int .i64) .str)) (.pair (.pair (.int .i64) (.pair (.int .i64) .str)) (.pair (.int .i64) (.int .i64))))] [(.bool, [])] (fun x => test_outside x.1 x.2.1)
theorem c_test_outside : Contract Try.prog 25 sp_test_outside :=
  contract_of (Tab.envOk tabOk _ _) calls_test_outside tabOk.mixed (fn := Try.f25) (c := b_test_outside) (ts := [.tmp 4]) (by kernel_rfl) (by kernel_rfl) (by kernel_rfl) (by decide) (by kernel_rfl) (by decide) fun x _ h => ⟨fu, (ev_test_outside x.1 x.2.1).trans h⟩

/-! peristyle/test.alone -/
@[reducible] noncomputable def E_test_alone : Env := tab.env (AM.look []) ⟨[], [], [], ⟨[(4, true)], []⟩⟩
theorem calls_test_alone : CallsOk Try.prog E_test_alone := callsOk_of trivial
noncomputable def b_test_alone : Code := (Try.f26.body).getD .skip
theorem st_test_alone_o (m0 : Nat) (t : (Int × (Int × (Int × ByteArray)))) (z : ((Int × (Int × ByteArray)) × ((Int × (Int × ByteArray)) × (Int × Int)))) : evC E_test_alone (evJ E_test_alone (drE E_test_alone) m0) (drE E_test_alone) b_test_alone 0 (st0 [.val (.pair (.int .i64) (.pair (.int .i64) (.pair (.int .i64) .str))), .val (.pair (.pair (.int .i64) (.pair (.int .i64) .str)) (.pair (.pair (.int .i64) (.pair (.int .i64) .str)) (.pair (.int .i64) (.int .i64))))] (t, z, ())) (fin E_test_alone [.tmp 4] [(.bool, [])]) = test_alone.o t z := by kernel_rfl
theorem st_test_alone (m0 : Nat) (t : (Int × (Int × (Int × ByteArray)))) (z : ((Int × (Int × ByteArray)) × ((Int × (Int × ByteArray)) × (Int × Int)))) : evC E_test_alone (evJ E_test_alone (drE E_test_alone) m0) (drE E_test_alone) b_test_alone 0 (st0 [.val (.pair (.int .i64) (.pair (.int .i64) (.pair (.int .i64) .str))), .val (.pair (.pair (.int .i64) (.pair (.int .i64) .str)) (.pair (.pair (.int .i64) (.pair (.int .i64) .str)) (.pair (.int .i64) (.int .i64))))] (t, z, ())) (fin E_test_alone [.tmp 4] [(.bool, [])]) = some (test_alone t z) := (st_test_alone_o m0 t z).trans (by unfold test_alone.o test_alone; simp only [cond_some])
theorem ev_test_alone (t : (Int × (Int × (Int × ByteArray)))) (z : ((Int × (Int × ByteArray)) × ((Int × (Int × ByteArray)) × (Int × Int)))) : evC E_test_alone (evJ E_test_alone (drE E_test_alone) fu) (drE E_test_alone) b_test_alone 0 (st0 [.val (.pair (.int .i64) (.pair (.int .i64) (.pair (.int .i64) .str))), .val (.pair (.pair (.int .i64) (.pair (.int .i64) .str)) (.pair (.pair (.int .i64) (.pair (.int .i64) .str)) (.pair (.int .i64) (.int .i64))))] (t, z, ())) (fin E_test_alone [.tmp 4] [(.bool, [])]) = some (test_alone t z) := st_test_alone fu t z
@[reducible] def sp_test_alone   : AM.Spec := AM.spec [.val (.pair (.int .i64) (.pair (.int .i64) (.pair (.int .i64) .str))), .val (.pair (.pair (.int .i64) (.pair (.int .i64) .str)) (.pair (.pair (.int .i64) (.pair (.int .i64) .str)) (.pair (.int .i64) (.int .i64))))] [(.bool, [])] (fun x => some (test_alone x.1 x.2.1))
theorem c_test_alone : Contract Try.prog 26 sp_test_alone :=
  contract_of (Tab.envOk tabOk _ _) calls_test_alone tabOk.mixed (fn := Try.f26) (c := b_test_alone) (ts := [.tmp 4]) (by kernel_rfl) (by kernel_rfl) (by kernel_rfl) (by decide) (by kernel_rfl) (by decide) fun x _ h => ⟨fu, (ev_test_alone x.1 x.2.1).trans h⟩

/-! peristyle/test.None -/
@[reducible] noncomputable def E_test_None : Env := tab.env (AM.look [(8, sp_test_Check), (25, sp_test_outside), (26, sp_test_alone), (9, sp_test_Match)]) ⟨[], [], [], ⟨[(4, true)], []⟩⟩
theorem calls_test_None : CallsOk Try.prog E_test_None := callsOk_of ⟨⟨c_test_Check, Try.call8⟩, ⟨⟨c_test_outside, Try.call25⟩, ⟨⟨c_test_alone, Try.call26⟩, ⟨⟨c_test_Match, Try.call9⟩, trivial⟩⟩⟩⟩
noncomputable def b_test_None : Code := (Try.f16.body).getD .skip
theorem st_test_None (m0 : Nat) (t : (Int × (Int × (Int × ByteArray)))) (z : ((Int × (Int × ByteArray)) × ((Int × (Int × ByteArray)) × (Int × Int)))) : evC E_test_None (evJ E_test_None (drE E_test_None) m0) (drE E_test_None) b_test_None 0 (st0 [.val (.pair (.int .i64) (.pair (.int .i64) (.pair (.int .i64) .str))), .val (.pair (.pair (.int .i64) (.pair (.int .i64) .str)) (.pair (.pair (.int .i64) (.pair (.int .i64) .str)) (.pair (.int .i64) (.int .i64))))] (t, z, ())) (fin E_test_None [.tmp 4] [(.bool, [])]) = test_None t z := by kernel_rfl
theorem ev_test_None (t : (Int × (Int × (Int × ByteArray)))) (z : ((Int × (Int × ByteArray)) × ((Int × (Int × ByteArray)) × (Int × Int)))) : evC E_test_None (evJ E_test_None (drE E_test_None) fu) (drE E_test_None) b_test_None 0 (st0 [.val (.pair (.int .i64) (.pair (.int .i64) (.pair (.int .i64) .str))), .val (.pair (.pair (.int .i64) (.pair (.int .i64) .str)) (.pair (.pair (.int .i64) (.pair (.int .i64) .str)) (.pair (.int .i64) (.int .i64))))] (t, z, ())) (fin E_test_None [.tmp 4] [(.bool, [])]) = test_None t z := st_test_None fu t z
@[reducible] def sp_test_None   : AM.Spec := AM.spec [.val (.pair (.int .i64) (.pair (.int .i64) (.pair (.int .i64) .str))), .val (.pair (.pair (.int .i64) (.pair (.int .i64) .str)) (.pair (.pair (.int .i64) (.pair (.int .i64) .str)) (.pair (.int .i64) (.int .i64))))] [(.bool, [])] (fun x => test_None x.1 x.2.1)
theorem c_test_None : Contract Try.prog 16 sp_test_None :=
  contract_of (Tab.envOk tabOk _ _) calls_test_None tabOk.mixed (fn := Try.f16) (c := b_test_None) (ts := [.tmp 4]) (by kernel_rfl) (by kernel_rfl) (by kernel_rfl) (by decide) (by kernel_rfl) (by decide) fun x _ h => ⟨fu, (ev_test_None x.1 x.2.1).trans h⟩

/-! peristyle/test.All -/
@[reducible] noncomputable def E_test_All : Env := tab.env (AM.look [(8, sp_test_Check), (26, sp_test_alone), (25, sp_test_outside), (9, sp_test_Match)]) ⟨[], [], [], ⟨[(4, true)], []⟩⟩
theorem calls_test_All : CallsOk Try.prog E_test_All := callsOk_of ⟨⟨c_test_Check, Try.call8⟩, ⟨⟨c_test_alone, Try.call26⟩, ⟨⟨c_test_outside, Try.call25⟩, ⟨⟨c_test_Match, Try.call9⟩, trivial⟩⟩⟩⟩
noncomputable def b_test_All : Code := (Try.f17.body).getD .skip
theorem st_test_All (m0 : Nat) (t : (Int × (Int × (Int × ByteArray)))) (z : ((Int × (Int × ByteArray)) × ((Int × (Int × ByteArray)) × (Int × Int)))) : evC E_test_All (evJ E_test_All (drE E_test_All) m0) (drE E_test_All) b_test_All 0 (st0 [.val (.pair (.int .i64) (.pair (.int .i64) (.pair (.int .i64) .str))), .val (.pair (.pair (.int .i64) (.pair (.int .i64) .str)) (.pair (.pair (.int .i64) (.pair (.int .i64) .str)) (.pair (.int .i64) (.int .i64))))] (t, z, ())) (fin E_test_All [.tmp 4] [(.bool, [])]) = test_All t z := by kernel_rfl
theorem ev_test_All (t : (Int × (Int × (Int × ByteArray)))) (z : ((Int × (Int × ByteArray)) × ((Int × (Int × ByteArray)) × (Int × Int)))) : evC E_test_All (evJ E_test_All (drE E_test_All) fu) (drE E_test_All) b_test_All 0 (st0 [.val (.pair (.int .i64) (.pair (.int .i64) (.pair (.int .i64) .str))), .val (.pair (.pair (.int .i64) (.pair (.int .i64) .str)) (.pair (.pair (.int .i64) (.pair (.int .i64) .str)) (.pair (.int .i64) (.int .i64))))] (t, z, ())) (fin E_test_All [.tmp 4] [(.bool, [])]) = test_All t z := st_test_All fu t z
@[reducible] def sp_test_All   : AM.Spec := AM.spec [.val (.pair (.int .i64) (.pair (.int .i64) (.pair (.int .i64) .str))), .val (.pair (.pair (.int .i64) (.pair (.int .i64) .str)) (.pair (.pair (.int .i64) (.pair (.int .i64) .str)) (.pair (.int .i64) (.int .i64))))] [(.bool, [])] (fun x => test_All x.1 x.2.1)
theorem c_test_All : Contract Try.prog 17 sp_test_All :=
  contract_of (Tab.envOk tabOk _ _) calls_test_All tabOk.mixed (fn := Try.f17) (c := b_test_All) (ts := [.tmp 4]) (by kernel_rfl) (by kernel_rfl) (by kernel_rfl) (by decide) (by kernel_rfl) (by decide) fun x _ h => ⟨fu, (ev_test_All x.1 x.2.1).trans h⟩

/-! peristyle/peristylelaw17.awake -/
@[reducible] noncomputable def E_law17_awake : Env := tab.env (AM.look [(20, sp_law17_num), (13, sp_test_Zone), (19, sp_test_Bounds), (16, sp_test_None), (17, sp_test_All), (9, sp_test_Match), (8, sp_test_Check)]) ⟨[], [], [], ⟨[(0, true)], []⟩⟩
theorem calls_law17_awake : CallsOk Try.prog E_law17_awake := callsOk_of ⟨⟨c_law17_num, Try.call20⟩, ⟨⟨c_test_Zone, Try.call13⟩, ⟨⟨c_test_Bounds, Try.call19⟩, ⟨⟨c_test_None, Try.call16⟩, ⟨⟨c_test_All, Try.call17⟩, ⟨⟨c_test_Match, Try.call9⟩, ⟨⟨c_test_Check, Try.call8⟩, trivial⟩⟩⟩⟩⟩⟩⟩
noncomputable def b_law17_awake : Code := (Try.f7.body).getD .skip
theorem st_law17_awake (m0 : Nat) : evC E_law17_awake (evJ E_law17_awake (drE E_law17_awake) m0) (drE E_law17_awake) b_law17_awake 0 (st0 [] ()) (fin E_law17_awake [.tmp 0] [(.bool, [])]) = law17_awake := by kernel_rfl
theorem ev_law17_awake : evC E_law17_awake (evJ E_law17_awake (drE E_law17_awake) fu) (drE E_law17_awake) b_law17_awake 0 (st0 [] ()) (fin E_law17_awake [.tmp 0] [(.bool, [])]) = law17_awake := st_law17_awake fu
@[reducible] def sp_law17_awake   : AM.Spec := AM.spec [] [(.bool, [])] (fun x => law17_awake)
theorem c_law17_awake : Contract Try.prog 7 sp_law17_awake :=
  contract_of (Tab.envOk tabOk _ _) calls_law17_awake tabOk.mixed (fn := Try.f7) (c := b_law17_awake) (ts := [.tmp 0]) (by kernel_rfl) (by kernel_rfl) (by kernel_rfl) (by decide) (by kernel_rfl) (by decide) fun x _ h => ⟨fu, (ev_law17_awake).trans h⟩

/-! peristyle/peristyleref06.May -/
@[reducible] noncomputable def E_ref06_May : Env := tab.env (AM.look []) ⟨[], [], [], ⟨[(2, true)], []⟩⟩
theorem calls_ref06_May : CallsOk Try.prog E_ref06_May := callsOk_of trivial
noncomputable def b_ref06_May : Code := (Try.f18.body).getD .skip
theorem st_ref06_May_o (m0 : Nat) (c : (Int × (Int × ByteArray))) : evC E_ref06_May (evJ E_ref06_May (drE E_ref06_May) m0) (drE E_ref06_May) b_ref06_May 0 (st0 [.val (.pair (.int .i64) (.pair (.int .i64) .str))] (c, ())) (fin E_ref06_May [.tmp 2] [(.bool, [])]) = ref06_May.o c := by kernel_rfl
theorem st_ref06_May (m0 : Nat) (c : (Int × (Int × ByteArray))) : evC E_ref06_May (evJ E_ref06_May (drE E_ref06_May) m0) (drE E_ref06_May) b_ref06_May 0 (st0 [.val (.pair (.int .i64) (.pair (.int .i64) .str))] (c, ())) (fin E_ref06_May [.tmp 2] [(.bool, [])]) = some (ref06_May c) := (st_ref06_May_o m0 c).trans (by unfold ref06_May.o ref06_May; simp only [cond_some])
theorem ev_ref06_May (c : (Int × (Int × ByteArray))) : evC E_ref06_May (evJ E_ref06_May (drE E_ref06_May) fu) (drE E_ref06_May) b_ref06_May 0 (st0 [.val (.pair (.int .i64) (.pair (.int .i64) .str))] (c, ())) (fin E_ref06_May [.tmp 2] [(.bool, [])]) = some (ref06_May c) := st_ref06_May fu c
@[reducible] def sp_ref06_May   : AM.Spec := AM.spec [.val (.pair (.int .i64) (.pair (.int .i64) .str))] [(.bool, [])] (fun x => some (ref06_May x.1))
theorem c_ref06_May : Contract Try.prog 18 sp_ref06_May :=
  contract_of (Tab.envOk tabOk _ _) calls_ref06_May tabOk.mixed (fn := Try.f18) (c := b_ref06_May) (ts := [.tmp 2]) (by kernel_rfl) (by kernel_rfl) (by kernel_rfl) (by decide) (by kernel_rfl) (by decide) fun x _ h => ⟨fu, (ev_ref06_May x.1).trans h⟩

/-! peristyle/peristyleref17.May -/
@[reducible] noncomputable def E_ref17_May : Env := tab.env (AM.look [(18, sp_ref06_May)]) ⟨[], [], [], ⟨[(2, true)], []⟩⟩
theorem calls_ref17_May : CallsOk Try.prog E_ref17_May := callsOk_of ⟨⟨c_ref06_May, Try.call18⟩, trivial⟩
noncomputable def b_ref17_May : Code := (Try.f11.body).getD .skip
theorem st_ref17_May_o (m0 : Nat) (t : (Int × (Int × (Int × ByteArray)))) : evC E_ref17_May (evJ E_ref17_May (drE E_ref17_May) m0) (drE E_ref17_May) b_ref17_May 0 (st0 [.val (.pair (.int .i64) (.pair (.int .i64) (.pair (.int .i64) .str)))] (t, ())) (fin E_ref17_May [.tmp 2] [(.bool, [])]) = ref17_May.o t := by kernel_rfl
theorem st_ref17_May (m0 : Nat) (t : (Int × (Int × (Int × ByteArray)))) : evC E_ref17_May (evJ E_ref17_May (drE E_ref17_May) m0) (drE E_ref17_May) b_ref17_May 0 (st0 [.val (.pair (.int .i64) (.pair (.int .i64) (.pair (.int .i64) .str)))] (t, ())) (fin E_ref17_May [.tmp 2] [(.bool, [])]) = some (ref17_May t) := (st_ref17_May_o m0 t).trans (by unfold ref17_May.o ref17_May; simp only [cond_some])
theorem ev_ref17_May (t : (Int × (Int × (Int × ByteArray)))) : evC E_ref17_May (evJ E_ref17_May (drE E_ref17_May) fu) (drE E_ref17_May) b_ref17_May 0 (st0 [.val (.pair (.int .i64) (.pair (.int .i64) (.pair (.int .i64) .str)))] (t, ())) (fin E_ref17_May [.tmp 2] [(.bool, [])]) = some (ref17_May t) := st_ref17_May fu t
@[reducible] def sp_ref17_May   : AM.Spec := AM.spec [.val (.pair (.int .i64) (.pair (.int .i64) (.pair (.int .i64) .str)))] [(.bool, [])] (fun x => some (ref17_May x.1))
theorem c_ref17_May : Contract Try.prog 11 sp_ref17_May :=
  contract_of (Tab.envOk tabOk _ _) calls_ref17_May tabOk.mixed (fn := Try.f11) (c := b_ref17_May) (ts := [.tmp 2]) (by kernel_rfl) (by kernel_rfl) (by kernel_rfl) (by decide) (by kernel_rfl) (by decide) fun x _ h => ⟨fu, (ev_ref17_May x.1).trans h⟩

/-! peristyle/peristyleref06.Compare -/
@[reducible] noncomputable def E_ref06_Compare : Env := tab.env (AM.look []) ⟨[], [], [], ⟨[(4, true)], []⟩⟩
theorem calls_ref06_Compare : CallsOk Try.prog E_ref06_Compare := callsOk_of trivial
noncomputable def b_ref06_Compare : Code := (Try.f23.body).getD .skip
theorem st_ref06_Compare_o (m0 : Nat) (a : (Int × (Int × ByteArray))) (b : (Int × (Int × ByteArray))) : evC E_ref06_Compare (evJ E_ref06_Compare (drE E_ref06_Compare) m0) (drE E_ref06_Compare) b_ref06_Compare 0 (st0 [.val (.pair (.int .i64) (.pair (.int .i64) .str)), .val (.pair (.int .i64) (.pair (.int .i64) .str))] (a, b, ())) (fin E_ref06_Compare [.tmp 4] [((.int .i64), [])]) = ref06_Compare.o a b := by kernel_rfl
theorem st_ref06_Compare (m0 : Nat) (a : (Int × (Int × ByteArray))) (b : (Int × (Int × ByteArray))) : evC E_ref06_Compare (evJ E_ref06_Compare (drE E_ref06_Compare) m0) (drE E_ref06_Compare) b_ref06_Compare 0 (st0 [.val (.pair (.int .i64) (.pair (.int .i64) .str)), .val (.pair (.int .i64) (.pair (.int .i64) .str))] (a, b, ())) (fin E_ref06_Compare [.tmp 4] [((.int .i64), [])]) = some (ref06_Compare a b) := (st_ref06_Compare_o m0 a b).trans (by unfold ref06_Compare.o ref06_Compare; simp only [cond_some])
theorem ev_ref06_Compare (a : (Int × (Int × ByteArray))) (b : (Int × (Int × ByteArray))) : evC E_ref06_Compare (evJ E_ref06_Compare (drE E_ref06_Compare) fu) (drE E_ref06_Compare) b_ref06_Compare 0 (st0 [.val (.pair (.int .i64) (.pair (.int .i64) .str)), .val (.pair (.int .i64) (.pair (.int .i64) .str))] (a, b, ())) (fin E_ref06_Compare [.tmp 4] [((.int .i64), [])]) = some (ref06_Compare a b) := st_ref06_Compare fu a b
@[reducible] def sp_ref06_Compare   : AM.Spec := AM.spec [.val (.pair (.int .i64) (.pair (.int .i64) .str)), .val (.pair (.int .i64) (.pair (.int .i64) .str))] [((.int .i64), [])] (fun x => some (ref06_Compare x.1 x.2.1))
theorem c_ref06_Compare : Contract Try.prog 23 sp_ref06_Compare :=
  contract_of (Tab.envOk tabOk _ _) calls_ref06_Compare tabOk.mixed (fn := Try.f23) (c := b_ref06_Compare) (ts := [.tmp 4]) (by kernel_rfl) (by kernel_rfl) (by kernel_rfl) (by decide) (by kernel_rfl) (by decide) fun x _ h => ⟨fu, (ev_ref06_Compare x.1 x.2.1).trans h⟩

/-! peristyle/peristyleref17.Match -/
@[reducible] noncomputable def E_ref17_Match : Env := tab.env (AM.look [(11, sp_ref17_May), (23, sp_ref06_Compare)]) ⟨[], [], [], ⟨[(4, true)], []⟩⟩
theorem calls_ref17_Match : CallsOk Try.prog E_ref17_Match := callsOk_of ⟨⟨c_ref17_May, Try.call11⟩, ⟨⟨c_ref06_Compare, Try.call23⟩, trivial⟩⟩
noncomputable def b_ref17_Match : Code := (Try.f10.body).getD .skip
theorem st_ref17_Match_o (m0 : Nat) (t : (Int × (Int × (Int × ByteArray)))) (c : (Int × (Int × ByteArray))) : evC E_ref17_Match (evJ E_ref17_Match (drE E_ref17_Match) m0) (drE E_ref17_Match) b_ref17_Match 0 (st0 [.val (.pair (.int .i64) (.pair (.int .i64) (.pair (.int .i64) .str))), .val (.pair (.int .i64) (.pair (.int .i64) .str))] (t, c, ())) (fin E_ref17_Match [.tmp 4] [(.bool, [])]) = ref17_Match.o t c := by kernel_rfl
theorem st_ref17_Match (m0 : Nat) (t : (Int × (Int × (Int × ByteArray)))) (c : (Int × (Int × ByteArray))) : evC E_ref17_Match (evJ E_ref17_Match (drE E_ref17_Match) m0) (drE E_ref17_Match) b_ref17_Match 0 (st0 [.val (.pair (.int .i64) (.pair (.int .i64) (.pair (.int .i64) .str))), .val (.pair (.int .i64) (.pair (.int .i64) .str))] (t, c, ())) (fin E_ref17_Match [.tmp 4] [(.bool, [])]) = some (ref17_Match t c) := (st_ref17_Match_o m0 t c).trans (by unfold ref17_Match.o ref17_Match; simp only [cond_some])
theorem ev_ref17_Match (t : (Int × (Int × (Int × ByteArray)))) (c : (Int × (Int × ByteArray))) : evC E_ref17_Match (evJ E_ref17_Match (drE E_ref17_Match) fu) (drE E_ref17_Match) b_ref17_Match 0 (st0 [.val (.pair (.int .i64) (.pair (.int .i64) (.pair (.int .i64) .str))), .val (.pair (.int .i64) (.pair (.int .i64) .str))] (t, c, ())) (fin E_ref17_Match [.tmp 4] [(.bool, [])]) = some (ref17_Match t c) := st_ref17_Match fu t c
@[reducible] def sp_ref17_Match   : AM.Spec := AM.spec [.val (.pair (.int .i64) (.pair (.int .i64) (.pair (.int .i64) .str))), .val (.pair (.int .i64) (.pair (.int .i64) .str))] [(.bool, [])] (fun x => some (ref17_Match x.1 x.2.1))
theorem c_ref17_Match : Contract Try.prog 10 sp_ref17_Match :=
  contract_of (Tab.envOk tabOk _ _) calls_ref17_Match tabOk.mixed (fn := Try.f10) (c := b_ref17_Match) (ts := [.tmp 4]) (by kernel_rfl) (by kernel_rfl) (by kernel_rfl) (by decide) (by kernel_rfl) (by decide) fun x _ h => ⟨fu, (ev_ref17_Match x.1 x.2.1).trans h⟩

/-! peristyle/peristylelaw17.TestMatches -/
@[reducible] noncomputable def E_law17_TestMatches : Env := tab.env (AM.look [(7, sp_law17_awake), (8, sp_test_Check), (9, sp_test_Match), (10, sp_ref17_Match), (11, sp_ref17_May)]) ⟨[], [], [], ⟨[(4, true)], []⟩⟩
theorem calls_law17_TestMatches : CallsOk Try.prog E_law17_TestMatches := callsOk_of ⟨⟨c_law17_awake, Try.call7⟩, ⟨⟨c_test_Check, Try.call8⟩, ⟨⟨c_test_Match, Try.call9⟩, ⟨⟨c_ref17_Match, Try.call10⟩, ⟨⟨c_ref17_May, Try.call11⟩, trivial⟩⟩⟩⟩⟩
noncomputable def b_law17_TestMatches : Code := (Try.f3.body).getD .skip
theorem st_law17_TestMatches (m0 : Nat) (t : (Int × (Int × (Int × ByteArray)))) (c : (Int × (Int × ByteArray))) : evC E_law17_TestMatches (evJ E_law17_TestMatches (drE E_law17_TestMatches) m0) (drE E_law17_TestMatches) b_law17_TestMatches 0 (st0 [.val (.pair (.int .i64) (.pair (.int .i64) (.pair (.int .i64) .str))), .val (.pair (.int .i64) (.pair (.int .i64) .str))] (t, c, ())) (fin E_law17_TestMatches [.tmp 4] [(.bool, [])]) = law17_TestMatches t c := by kernel_rfl
theorem ev_law17_TestMatches (t : (Int × (Int × (Int × ByteArray)))) (c : (Int × (Int × ByteArray))) : evC E_law17_TestMatches (evJ E_law17_TestMatches (drE E_law17_TestMatches) fu) (drE E_law17_TestMatches) b_law17_TestMatches 0 (st0 [.val (.pair (.int .i64) (.pair (.int .i64) (.pair (.int .i64) .str))), .val (.pair (.int .i64) (.pair (.int .i64) .str))] (t, c, ())) (fin E_law17_TestMatches [.tmp 4] [(.bool, [])]) = law17_TestMatches t c := st_law17_TestMatches fu t c
@[reducible] def sp_law17_TestMatches   : AM.Spec := AM.spec [.val (.pair (.int .i64) (.pair (.int .i64) (.pair (.int .i64) .str))), .val (.pair (.int .i64) (.pair (.int .i64) .str))] [(.bool, [])] (fun x => law17_TestMatches x.1 x.2.1)
theorem c_law17_TestMatches : Contract Try.prog 3 sp_law17_TestMatches :=
  contract_of (Tab.envOk tabOk _ _) calls_law17_TestMatches tabOk.mixed (fn := Try.f3) (c := b_law17_TestMatches) (ts := [.tmp 4]) (by kernel_rfl) (by kernel_rfl) (by kernel_rfl) (by decide) (by kernel_rfl) (by decide) fun x _ h => ⟨fu, (ev_law17_TestMatches x.1 x.2.1).trans h⟩

/-! peristyle/peristyleref12.Light -/
@[reducible] noncomputable def E_ref12_Light : Env := tab.env (AM.look []) ⟨[(0, ⟨[(0, true), (1, true), (5, true)], []⟩)], [], [], ⟨[(4, true)], []⟩⟩
theorem calls_ref12_Light : CallsOk Try.prog E_ref12_Light := callsOk_of trivial
noncomputable def b_ref12_Light : Code := (Try.f12.body).getD .skip
noncomputable def sg_ref12_Light_0 (l_1 : (List (Int × (Int × ByteArray)))) (most_2 : Int) (i_3 : Int) : St := mk [(0, .dat (.sl (.pair (.int .i64) (.pair (.int .i64) .str))) l_1 []), (1, .dat (.int .i64) most_2 []), (5, .dat (.int .i64) i_3 [])] []
noncomputable def q_ref12_Light_0 (m0 : Nat) : K (ResD [(.bool, [])]) := fin E_ref12_Light [.tmp 4] [(.bool, [])]
noncomputable def cd_ref12_Light_1 : Code := (rgt (rgt b_ref12_Light))
noncomputable def q_ref12_Light_1 (m0 : Nat) : K (ResD [(.bool, [])]) := seqK E_ref12_Light (evJ E_ref12_Light (drE E_ref12_Light) m0) cd_ref12_Light_1 0 (evC E_ref12_Light (evJ E_ref12_Light (drE E_ref12_Light) m0) (drE E_ref12_Light) cd_ref12_Light_1 0) (q_ref12_Light_0 m0)
noncomputable def q_ref12_Light_2 (m0 : Nat) : K (ResD [(.bool, [])]) := blockK 0 (q_ref12_Light_1 m0)
noncomputable def cd_ref12_Light_2 : Code := (lft (lft (rgt (lft (rgt b_ref12_Light)))))
theorem st_ref12_Light_j0 (m0 : Nat) (n : Nat) (l_1 : (List (Int × (Int × ByteArray)))) (most_2 : Int) (i_3 : Int) : evJ E_ref12_Light (drE E_ref12_Light) (n + 1) (.loop cd_ref12_Light_2) 0 (sg_ref12_Light_0 l_1 most_2 i_3) (q_ref12_Light_2 m0) = ref12_Light.S0 (fun l_1 most_2 i_3 => evJ E_ref12_Light (drE E_ref12_Light) n (.loop cd_ref12_Light_2) 0 (sg_ref12_Light_0 l_1 most_2 i_3) (q_ref12_Light_2 m0)) l_1 most_2 i_3 := by kernel_rfl
theorem J_ref12_Light_0 (m0 : Nat) : ∀ (n : Nat) (l_1 : (List (Int × (Int × ByteArray)))) (most_2 : Int) (i_3 : Int), evJ E_ref12_Light (drE E_ref12_Light) n (.loop cd_ref12_Light_2) 0 (sg_ref12_Light_0 l_1 most_2 i_3) (q_ref12_Light_2 m0) = ref12_Light.l0 n l_1 most_2 i_3 := by
  intro n
  induction n with
  | zero => intros; rfl
  | succ n ih =>
    intro l_1 most_2 i_3
    have e0 : (fun l_1 most_2 i_3 => evJ E_ref12_Light (drE E_ref12_Light) n (.loop cd_ref12_Light_2) 0 (sg_ref12_Light_0 l_1 most_2 i_3) (q_ref12_Light_2 m0)) = (ref12_Light.l0 n) := by funext l_1 most_2 i_3; exact ih l_1 most_2 i_3
    refine (st_ref12_Light_j0 m0 n l_1 most_2 i_3).trans ?_
    rw [e0]; rfl
theorem st_ref12_Light (m0 : Nat) (l : (List (Int × (Int × ByteArray)))) (most : Int) : evC E_ref12_Light (evJ E_ref12_Light (drE E_ref12_Light) m0) (drE E_ref12_Light) b_ref12_Light 0 (st0 [.val (.sl (.pair (.int .i64) (.pair (.int .i64) .str))), .val (.int .i64)] (l, most, ())) (fin E_ref12_Light [.tmp 4] [(.bool, [])]) = ref12_Light.S (fun l_1 most_2 i_3 => evJ E_ref12_Light (drE E_ref12_Light) m0 (.loop cd_ref12_Light_2) 0 (sg_ref12_Light_0 l_1 most_2 i_3) (q_ref12_Light_2 m0)) l most := by kernel_rfl
theorem ev_ref12_Light (l : (List (Int × (Int × ByteArray)))) (most : Int) : evC E_ref12_Light (evJ E_ref12_Light (drE E_ref12_Light) fu) (drE E_ref12_Light) b_ref12_Light 0 (st0 [.val (.sl (.pair (.int .i64) (.pair (.int .i64) .str))), .val (.int .i64)] (l, most, ())) (fin E_ref12_Light [.tmp 4] [(.bool, [])]) = ref12_Light l most := by
  have e0 : (fun l_1 most_2 i_3 => evJ E_ref12_Light (drE E_ref12_Light) fu (.loop cd_ref12_Light_2) 0 (sg_ref12_Light_0 l_1 most_2 i_3) (q_ref12_Light_2 fu)) = (ref12_Light.l0 fu) := by funext l_1 most_2 i_3; exact J_ref12_Light_0 fu fu l_1 most_2 i_3
  refine (st_ref12_Light fu l most).trans ?_
  rw [e0]; rfl
@[reducible] def sp_ref12_Light   : AM.Spec := AM.spec [.val (.sl (.pair (.int .i64) (.pair (.int .i64) .str))), .val (.int .i64)] [(.bool, [])] (fun x => ref12_Light x.1 x.2.1)
theorem c_ref12_Light : Contract Try.prog 12 sp_ref12_Light :=
  contract_of (Tab.envOk tabOk _ _) calls_ref12_Light tabOk.mixed (fn := Try.f12) (c := b_ref12_Light) (ts := [.tmp 4]) (by kernel_rfl) (by kernel_rfl) (by kernel_rfl) (by decide) (by kernel_rfl) (by decide) fun x _ h => ⟨fu, (ev_ref12_Light x.1 x.2.1).trans h⟩

/-! peristyle/peristyleref17.Zone -/
@[reducible] noncomputable def E_ref17_Zone : Env := tab.env (AM.look [(23, sp_ref06_Compare)]) ⟨[(0, ⟨[(0, true), (2, true), (3, true), (4, true), (5, true)], [(2, true), (3, true)]⟩)], [], [(10, ⟨[(0, true), (2, true), (3, true), (4, true), (5, true)], [(2, true), (3, true)]⟩)], ⟨[(2, true)], [(2, true)]⟩⟩
theorem calls_ref17_Zone : CallsOk Try.prog E_ref17_Zone := callsOk_of ⟨⟨c_ref06_Compare, Try.call23⟩, trivial⟩
noncomputable def b_ref17_Zone : Code := (Try.f14.body).getD .skip
noncomputable def sg_ref17_Zone_1 (l_6 : (List (Int × (Int × ByteArray)))) (some_7 : Bool) (i_8 : Int) (t2_9 : ((Int × (Int × ByteArray)) × ((Int × (Int × ByteArray)) × (Int × Int)))) (z_10 : ((Int × (Int × ByteArray)) × ((Int × (Int × ByteArray)) × (Int × Int)))) : St := mk [(0, .dat (.sl (.pair (.int .i64) (.pair (.int .i64) .str))) l_6 []), (2, .ptr 2 0 0), (3, .ptr 3 0 0), (4, .dat .bool some_7 []), (5, .dat (.int .i64) i_8 [])] [(2, some (.var (.pair (.pair (.int .i64) (.pair (.int .i64) .str)) (.pair (.pair (.int .i64) (.pair (.int .i64) .str)) (.pair (.int .i64) (.int .i64)))) t2_9 [])), (3, some (.var (.pair (.pair (.int .i64) (.pair (.int .i64) .str)) (.pair (.pair (.int .i64) (.pair (.int .i64) .str)) (.pair (.int .i64) (.int .i64)))) z_10 []))]
noncomputable def sg_ref17_Zone_0 (l_1 : (List (Int × (Int × ByteArray)))) (some_2 : Bool) (i_3 : Int) (t2_4 : ((Int × (Int × ByteArray)) × ((Int × (Int × ByteArray)) × (Int × Int)))) (z_5 : ((Int × (Int × ByteArray)) × ((Int × (Int × ByteArray)) × (Int × Int)))) : St := mk [(0, .dat (.sl (.pair (.int .i64) (.pair (.int .i64) .str))) l_1 []), (2, .ptr 2 0 0), (3, .ptr 3 0 0), (4, .dat .bool some_2 []), (5, .dat (.int .i64) i_3 [])] [(2, some (.var (.pair (.pair (.int .i64) (.pair (.int .i64) .str)) (.pair (.pair (.int .i64) (.pair (.int .i64) .str)) (.pair (.int .i64) (.int .i64)))) t2_4 [])), (3, some (.var (.pair (.pair (.int .i64) (.pair (.int .i64) .str)) (.pair (.pair (.int .i64) (.pair (.int .i64) .str)) (.pair (.int .i64) (.int .i64)))) z_5 []))]
noncomputable def q_ref17_Zone_0 (m0 : Nat) : K (ResD [((.pair (.pair (.int .i64) (.pair (.int .i64) .str)) (.pair (.pair (.int .i64) (.pair (.int .i64) .str)) (.pair (.int .i64) (.int .i64)))), [])]) := fin E_ref17_Zone [.cell 2 34] [((.pair (.pair (.int .i64) (.pair (.int .i64) .str)) (.pair (.pair (.int .i64) (.pair (.int .i64) .str)) (.pair (.int .i64) (.int .i64)))), [])]
noncomputable def cd_ref17_Zone_1 : Code := (rgt (rgt (rgt (rgt b_ref17_Zone))))
noncomputable def q_ref17_Zone_1 (m0 : Nat) : K (ResD [((.pair (.pair (.int .i64) (.pair (.int .i64) .str)) (.pair (.pair (.int .i64) (.pair (.int .i64) .str)) (.pair (.int .i64) (.int .i64)))), [])]) := seqK E_ref17_Zone (evJ E_ref17_Zone (drE E_ref17_Zone) m0) cd_ref17_Zone_1 0 (evC E_ref17_Zone (evJ E_ref17_Zone (drE E_ref17_Zone) m0) (drE E_ref17_Zone) cd_ref17_Zone_1 0) (q_ref17_Zone_0 m0)
noncomputable def q_ref17_Zone_2 (m0 : Nat) : K (ResD [((.pair (.pair (.int .i64) (.pair (.int .i64) .str)) (.pair (.pair (.int .i64) (.pair (.int .i64) .str)) (.pair (.int .i64) (.int .i64)))), [])]) := blockK 0 (q_ref17_Zone_1 m0)
noncomputable def cd_ref17_Zone_2 : Code := (lft (lft (rgt (lft (rgt (rgt (rgt b_ref17_Zone)))))))
noncomputable def q_ref17_Zone_3 (m0 : Nat) (m1 : Nat) : K (ResD [((.pair (.pair (.int .i64) (.pair (.int .i64) .str)) (.pair (.pair (.int .i64) (.pair (.int .i64) .str)) (.pair (.int .i64) (.int .i64)))), [])]) := loopK (E_ref17_Zone.loop 0) (fun s => evJ E_ref17_Zone (drE E_ref17_Zone) m1 (.loop cd_ref17_Zone_2) 0 s (q_ref17_Zone_2 m0)) (q_ref17_Zone_2 m0)
noncomputable def cd_ref17_Zone_3 : Code := (rgt (rgt cd_ref17_Zone_2))
noncomputable def q_ref17_Zone_4 (m0 : Nat) (m1 : Nat) : K (ResD [((.pair (.pair (.int .i64) (.pair (.int .i64) .str)) (.pair (.pair (.int .i64) (.pair (.int .i64) .str)) (.pair (.int .i64) (.int .i64)))), [])]) := seqK E_ref17_Zone (evJ E_ref17_Zone (drE E_ref17_Zone) m1) cd_ref17_Zone_3 0 (evC E_ref17_Zone (evJ E_ref17_Zone (drE E_ref17_Zone) m1) (drE E_ref17_Zone) cd_ref17_Zone_3 0) (q_ref17_Zone_3 m0 m1)
noncomputable def q_ref17_Zone_5 (m0 : Nat) (m1 : Nat) : K (ResD [((.pair (.pair (.int .i64) (.pair (.int .i64) .str)) (.pair (.pair (.int .i64) (.pair (.int .i64) .str)) (.pair (.int .i64) (.int .i64)))), [])]) := blockK 1 (q_ref17_Zone_4 m0 m1)
noncomputable def cd_ref17_Zone_4 : Code := (rgt (rgt (lft (lft (rgt cd_ref17_Zone_2)))))
theorem st_ref17_Zone_j1 (m0 : Nat) (m1 : Nat) (n : Nat) (l_6 : (List (Int × (Int × ByteArray)))) (some_7 : Bool) (i_8 : Int) (t2_9 : ((Int × (Int × ByteArray)) × ((Int × (Int × ByteArray)) × (Int × Int)))) (z_10 : ((Int × (Int × ByteArray)) × ((Int × (Int × ByteArray)) × (Int × Int)))) : evJ E_ref17_Zone (drE E_ref17_Zone) (n + 1) (.tail cd_ref17_Zone_4) 1 (sg_ref17_Zone_1 l_6 some_7 i_8 t2_9 z_10) (q_ref17_Zone_5 m0 m1) = ref17_Zone.S1 (fun l_1 some_2 i_3 t2_4 z_5 => evJ E_ref17_Zone (drE E_ref17_Zone) m1 (.loop cd_ref17_Zone_2) 0 (sg_ref17_Zone_0 l_1 some_2 i_3 t2_4 z_5) (q_ref17_Zone_2 m0)) l_6 some_7 i_8 t2_9 z_10 := by kernel_rfl
theorem J_ref17_Zone_1 (m0 : Nat) (m1 : Nat) : ∀ (n : Nat) (l_6 : (List (Int × (Int × ByteArray)))) (some_7 : Bool) (i_8 : Int) (t2_9 : ((Int × (Int × ByteArray)) × ((Int × (Int × ByteArray)) × (Int × Int)))) (z_10 : ((Int × (Int × ByteArray)) × ((Int × (Int × ByteArray)) × (Int × Int)))), evJ E_ref17_Zone (drE E_ref17_Zone) n (.tail cd_ref17_Zone_4) 1 (sg_ref17_Zone_1 l_6 some_7 i_8 t2_9 z_10) (q_ref17_Zone_5 m0 m1) = ref17_Zone.t1 (fun l_1 some_2 i_3 t2_4 z_5 => evJ E_ref17_Zone (drE E_ref17_Zone) m1 (.loop cd_ref17_Zone_2) 0 (sg_ref17_Zone_0 l_1 some_2 i_3 t2_4 z_5) (q_ref17_Zone_2 m0)) n l_6 some_7 i_8 t2_9 z_10 := by
  intro n
  induction n with
  | zero => intros; rfl
  | succ n ih =>
    intro l_6 some_7 i_8 t2_9 z_10
    have e1 : (fun l_6 some_7 i_8 t2_9 z_10 => evJ E_ref17_Zone (drE E_ref17_Zone) n (.tail cd_ref17_Zone_4) 1 (sg_ref17_Zone_1 l_6 some_7 i_8 t2_9 z_10) (q_ref17_Zone_5 m0 m1)) = (ref17_Zone.t1 (fun l_1 some_2 i_3 t2_4 z_5 => evJ E_ref17_Zone (drE E_ref17_Zone) m1 (.loop cd_ref17_Zone_2) 0 (sg_ref17_Zone_0 l_1 some_2 i_3 t2_4 z_5) (q_ref17_Zone_2 m0)) n) := by funext l_6 some_7 i_8 t2_9 z_10; exact ih l_6 some_7 i_8 t2_9 z_10
    refine (st_ref17_Zone_j1 m0 m1 n l_6 some_7 i_8 t2_9 z_10).trans ?_
    rfl
theorem st_ref17_Zone_j0 (m0 : Nat) (n : Nat) (l_1 : (List (Int × (Int × ByteArray)))) (some_2 : Bool) (i_3 : Int) (t2_4 : ((Int × (Int × ByteArray)) × ((Int × (Int × ByteArray)) × (Int × Int)))) (z_5 : ((Int × (Int × ByteArray)) × ((Int × (Int × ByteArray)) × (Int × Int)))) : evJ E_ref17_Zone (drE E_ref17_Zone) (n + 1) (.loop cd_ref17_Zone_2) 0 (sg_ref17_Zone_0 l_1 some_2 i_3 t2_4 z_5) (q_ref17_Zone_2 m0) = ref17_Zone.S0 (fun l_1 some_2 i_3 t2_4 z_5 => evJ E_ref17_Zone (drE E_ref17_Zone) n (.loop cd_ref17_Zone_2) 0 (sg_ref17_Zone_0 l_1 some_2 i_3 t2_4 z_5) (q_ref17_Zone_2 m0)) (fun l_6 some_7 i_8 t2_9 z_10 => evJ E_ref17_Zone (drE E_ref17_Zone) n (.tail cd_ref17_Zone_4) 1 (sg_ref17_Zone_1 l_6 some_7 i_8 t2_9 z_10) (q_ref17_Zone_5 m0 n)) l_1 some_2 i_3 t2_4 z_5 := by kernel_rfl
theorem J_ref17_Zone_0 (m0 : Nat) : ∀ (n : Nat) (l_1 : (List (Int × (Int × ByteArray)))) (some_2 : Bool) (i_3 : Int) (t2_4 : ((Int × (Int × ByteArray)) × ((Int × (Int × ByteArray)) × (Int × Int)))) (z_5 : ((Int × (Int × ByteArray)) × ((Int × (Int × ByteArray)) × (Int × Int)))), evJ E_ref17_Zone (drE E_ref17_Zone) n (.loop cd_ref17_Zone_2) 0 (sg_ref17_Zone_0 l_1 some_2 i_3 t2_4 z_5) (q_ref17_Zone_2 m0) = ref17_Zone.l0 n l_1 some_2 i_3 t2_4 z_5 := by
  intro n
  induction n with
  | zero => intros; rfl
  | succ n ih =>
    intro l_1 some_2 i_3 t2_4 z_5
    have e0 : (fun l_1 some_2 i_3 t2_4 z_5 => evJ E_ref17_Zone (drE E_ref17_Zone) n (.loop cd_ref17_Zone_2) 0 (sg_ref17_Zone_0 l_1 some_2 i_3 t2_4 z_5) (q_ref17_Zone_2 m0)) = (ref17_Zone.l0 n) := by funext l_1 some_2 i_3 t2_4 z_5; exact ih l_1 some_2 i_3 t2_4 z_5
    have e1 : (fun l_6 some_7 i_8 t2_9 z_10 => evJ E_ref17_Zone (drE E_ref17_Zone) n (.tail cd_ref17_Zone_4) 1 (sg_ref17_Zone_1 l_6 some_7 i_8 t2_9 z_10) (q_ref17_Zone_5 m0 n)) = (ref17_Zone.t1 (ref17_Zone.l0 n) n) := by rw [← e0]; funext l_6 some_7 i_8 t2_9 z_10; exact J_ref17_Zone_1 m0 n n l_6 some_7 i_8 t2_9 z_10
    refine (st_ref17_Zone_j0 m0 n l_1 some_2 i_3 t2_4 z_5).trans ?_
    rw [e0, e1]; rfl
theorem st_ref17_Zone (m0 : Nat) (l : (List (Int × (Int × ByteArray)))) : evC E_ref17_Zone (evJ E_ref17_Zone (drE E_ref17_Zone) m0) (drE E_ref17_Zone) b_ref17_Zone 0 (st0 [.val (.sl (.pair (.int .i64) (.pair (.int .i64) .str)))] (l, ())) (fin E_ref17_Zone [.cell 2 34] [((.pair (.pair (.int .i64) (.pair (.int .i64) .str)) (.pair (.pair (.int .i64) (.pair (.int .i64) .str)) (.pair (.int .i64) (.int .i64)))), [])]) = ref17_Zone.S (fun l_1 some_2 i_3 t2_4 z_5 => evJ E_ref17_Zone (drE E_ref17_Zone) m0 (.loop cd_ref17_Zone_2) 0 (sg_ref17_Zone_0 l_1 some_2 i_3 t2_4 z_5) (q_ref17_Zone_2 m0)) l := by kernel_rfl
theorem ev_ref17_Zone (l : (List (Int × (Int × ByteArray)))) : evC E_ref17_Zone (evJ E_ref17_Zone (drE E_ref17_Zone) fu) (drE E_ref17_Zone) b_ref17_Zone 0 (st0 [.val (.sl (.pair (.int .i64) (.pair (.int .i64) .str)))] (l, ())) (fin E_ref17_Zone [.cell 2 34] [((.pair (.pair (.int .i64) (.pair (.int .i64) .str)) (.pair (.pair (.int .i64) (.pair (.int .i64) .str)) (.pair (.int .i64) (.int .i64)))), [])]) = ref17_Zone l := by
  have e0 : (fun l_1 some_2 i_3 t2_4 z_5 => evJ E_ref17_Zone (drE E_ref17_Zone) fu (.loop cd_ref17_Zone_2) 0 (sg_ref17_Zone_0 l_1 some_2 i_3 t2_4 z_5) (q_ref17_Zone_2 fu)) = (ref17_Zone.l0 fu) := by funext l_1 some_2 i_3 t2_4 z_5; exact J_ref17_Zone_0 fu fu l_1 some_2 i_3 t2_4 z_5
  refine (st_ref17_Zone fu l).trans ?_
  rw [e0]; rfl
@[reducible] def sp_ref17_Zone   : AM.Spec := AM.spec [.val (.sl (.pair (.int .i64) (.pair (.int .i64) .str)))] [((.pair (.pair (.int .i64) (.pair (.int .i64) .str)) (.pair (.pair (.int .i64) (.pair (.int .i64) .str)) (.pair (.int .i64) (.int .i64)))), [])] (fun x => ref17_Zone x.1)
theorem c_ref17_Zone : Contract Try.prog 14 sp_ref17_Zone :=
  contract_of (Tab.envOk tabOk _ _) calls_ref17_Zone tabOk.mixed (fn := Try.f14) (c := b_ref17_Zone) (ts := [.cell 2 34]) (by kernel_rfl) (by kernel_rfl) (by kernel_rfl) (by decide) (by kernel_rfl) (by decide) fun x _ h => ⟨fu, (ev_ref17_Zone x.1).trans h⟩

/-! peristyle/peristylelaw17.TestZones -/
@[reducible] noncomputable def E_law17_TestZones : Env := tab.env (AM.look [(12, sp_ref12_Light), (7, sp_law17_awake), (13, sp_test_Zone), (14, sp_ref17_Zone), (15, sp_test_Merge)]) ⟨[], [], [], ⟨[(4, true)], []⟩⟩
theorem calls_law17_TestZones : CallsOk Try.prog E_law17_TestZones := callsOk_of ⟨⟨c_ref12_Light, Try.call12⟩, ⟨⟨c_law17_awake, Try.call7⟩, ⟨⟨c_test_Zone, Try.call13⟩, ⟨⟨c_ref17_Zone, Try.call14⟩, ⟨⟨c_test_Merge, Try.call15⟩, trivial⟩⟩⟩⟩⟩
noncomputable def b_law17_TestZones : Code := (Try.f4.body).getD .skip
theorem st_law17_TestZones (m0 : Nat) (a : (List (Int × (Int × ByteArray)))) (b : (List (Int × (Int × ByteArray)))) : evC E_law17_TestZones (evJ E_law17_TestZones (drE E_law17_TestZones) m0) (drE E_law17_TestZones) b_law17_TestZones 0 (st0 [.val (.sl (.pair (.int .i64) (.pair (.int .i64) .str))), .val (.sl (.pair (.int .i64) (.pair (.int .i64) .str)))] (a, b, ())) (fin E_law17_TestZones [.tmp 4] [(.bool, [])]) = law17_TestZones a b := by kernel_rfl
theorem ev_law17_TestZones (a : (List (Int × (Int × ByteArray)))) (b : (List (Int × (Int × ByteArray)))) : evC E_law17_TestZones (evJ E_law17_TestZones (drE E_law17_TestZones) fu) (drE E_law17_TestZones) b_law17_TestZones 0 (st0 [.val (.sl (.pair (.int .i64) (.pair (.int .i64) .str))), .val (.sl (.pair (.int .i64) (.pair (.int .i64) .str)))] (a, b, ())) (fin E_law17_TestZones [.tmp 4] [(.bool, [])]) = law17_TestZones a b := st_law17_TestZones fu a b
@[reducible] def sp_law17_TestZones   : AM.Spec := AM.spec [.val (.sl (.pair (.int .i64) (.pair (.int .i64) .str))), .val (.sl (.pair (.int .i64) (.pair (.int .i64) .str)))] [(.bool, [])] (fun x => law17_TestZones x.1 x.2.1)
theorem c_law17_TestZones : Contract Try.prog 4 sp_law17_TestZones :=
  contract_of (Tab.envOk tabOk _ _) calls_law17_TestZones tabOk.mixed (fn := Try.f4) (c := b_law17_TestZones) (ts := [.tmp 4]) (by kernel_rfl) (by kernel_rfl) (by kernel_rfl) (by decide) (by kernel_rfl) (by decide) fun x _ h => ⟨fu, (ev_law17_TestZones x.1 x.2.1).trans h⟩

/-! peristyle/peristylelaw17.TestSound -/
@[reducible] noncomputable def E_law17_TestSound : Env := tab.env (AM.look [(12, sp_ref12_Light), (7, sp_law17_awake), (8, sp_test_Check), (13, sp_test_Zone), (16, sp_test_None), (17, sp_test_All), (18, sp_ref06_May), (9, sp_test_Match)]) ⟨[(0, ⟨[(1, true), (2, true), (6, true), (7, true), (8, true), (10, true)], [(2, true), (8, true)]⟩)], [], [(9, ⟨[(1, true), (2, true), (6, true), (7, true), (8, true)], [(2, true), (8, true)]⟩)], ⟨[(4, true)], []⟩⟩
theorem calls_law17_TestSound : CallsOk Try.prog E_law17_TestSound := callsOk_of ⟨⟨c_ref12_Light, Try.call12⟩, ⟨⟨c_law17_awake, Try.call7⟩, ⟨⟨c_test_Check, Try.call8⟩, ⟨⟨c_test_Zone, Try.call13⟩, ⟨⟨c_test_None, Try.call16⟩, ⟨⟨c_test_All, Try.call17⟩, ⟨⟨c_ref06_May, Try.call18⟩, ⟨⟨c_test_Match, Try.call9⟩, trivial⟩⟩⟩⟩⟩⟩⟩⟩
noncomputable def b_law17_TestSound : Code := (Try.f5.body).getD .skip
noncomputable def sg_law17_TestSound_1 (l_14 : (List (Int × (Int × ByteArray)))) (none_15 : Bool) (all_16 : Bool) (i_17 : Int) (t_18 : (Int × (Int × (Int × ByteArray)))) (not_19 : (Int × (Int × (Int × ByteArray)))) : St := mk [(1, .dat (.sl (.pair (.int .i64) (.pair (.int .i64) .str))) l_14 []), (2, .ptr 2 0 0), (6, .dat .bool none_15 []), (7, .dat .bool all_16 []), (8, .ptr 8 0 0), (10, .dat (.int .i64) i_17 [])] [(2, some (.var (.pair (.int .i64) (.pair (.int .i64) (.pair (.int .i64) .str))) t_18 [])), (8, some (.var (.pair (.int .i64) (.pair (.int .i64) (.pair (.int .i64) .str))) not_19 []))]
noncomputable def sg_law17_TestSound_0 (l_9 : (List (Int × (Int × ByteArray)))) (none_10 : Bool) (all_11 : Bool) (t_12 : (Int × (Int × (Int × ByteArray)))) (not_13 : (Int × (Int × (Int × ByteArray)))) : St := mk [(1, .dat (.sl (.pair (.int .i64) (.pair (.int .i64) .str))) l_9 []), (2, .ptr 2 0 0), (6, .dat .bool none_10 []), (7, .dat .bool all_11 []), (8, .ptr 8 0 0)] [(2, some (.var (.pair (.int .i64) (.pair (.int .i64) (.pair (.int .i64) .str))) t_12 [])), (8, some (.var (.pair (.int .i64) (.pair (.int .i64) (.pair (.int .i64) .str))) not_13 []))]
noncomputable def q_law17_TestSound_0 (m0 : Nat) : K (ResD [(.bool, [])]) := fin E_law17_TestSound [.tmp 4] [(.bool, [])]
noncomputable def cd_law17_TestSound_1 : Code := (rgt (rgt (rgt (rgt (rgt (rgt (rgt (rgt b_law17_TestSound))))))))
noncomputable def q_law17_TestSound_1 (m0 : Nat) (m1 : Nat) : K (ResD [(.bool, [])]) := seqK E_law17_TestSound (evJ E_law17_TestSound (drE E_law17_TestSound) m1) cd_law17_TestSound_1 0 (evC E_law17_TestSound (evJ E_law17_TestSound (drE E_law17_TestSound) m1) (drE E_law17_TestSound) cd_law17_TestSound_1 0) (q_law17_TestSound_0 m0)
noncomputable def q_law17_TestSound_2 (m0 : Nat) (m1 : Nat) : K (ResD [(.bool, [])]) := blockK 0 (q_law17_TestSound_1 m0 m1)
noncomputable def cd_law17_TestSound_2 : Code := (lft (lft (rgt (lft (rgt (rgt (rgt (rgt (rgt (rgt (rgt b_law17_TestSound)))))))))))
theorem st_law17_TestSound_j1 (m0 : Nat) (m1 : Nat) (n : Nat) (l_14 : (List (Int × (Int × ByteArray)))) (none_15 : Bool) (all_16 : Bool) (i_17 : Int) (t_18 : (Int × (Int × (Int × ByteArray)))) (not_19 : (Int × (Int × (Int × ByteArray)))) : evJ E_law17_TestSound (drE E_law17_TestSound) (n + 1) (.loop cd_law17_TestSound_2) 0 (sg_law17_TestSound_1 l_14 none_15 all_16 i_17 t_18 not_19) (q_law17_TestSound_2 m0 m1) = law17_TestSound.S1 (fun l_14 none_15 all_16 i_17 t_18 not_19 => evJ E_law17_TestSound (drE E_law17_TestSound) n (.loop cd_law17_TestSound_2) 0 (sg_law17_TestSound_1 l_14 none_15 all_16 i_17 t_18 not_19) (q_law17_TestSound_2 m0 m1)) l_14 none_15 all_16 i_17 t_18 not_19 := by kernel_rfl
theorem J_law17_TestSound_1 (m0 : Nat) (m1 : Nat) : ∀ (n : Nat) (l_14 : (List (Int × (Int × ByteArray)))) (none_15 : Bool) (all_16 : Bool) (i_17 : Int) (t_18 : (Int × (Int × (Int × ByteArray)))) (not_19 : (Int × (Int × (Int × ByteArray)))), evJ E_law17_TestSound (drE E_law17_TestSound) n (.loop cd_law17_TestSound_2) 0 (sg_law17_TestSound_1 l_14 none_15 all_16 i_17 t_18 not_19) (q_law17_TestSound_2 m0 m1) = law17_TestSound.l1 n l_14 none_15 all_16 i_17 t_18 not_19 := by
  intro n
  induction n with
  | zero => intros; rfl
  | succ n ih =>
    intro l_14 none_15 all_16 i_17 t_18 not_19
    have e1 : (fun l_14 none_15 all_16 i_17 t_18 not_19 => evJ E_law17_TestSound (drE E_law17_TestSound) n (.loop cd_law17_TestSound_2) 0 (sg_law17_TestSound_1 l_14 none_15 all_16 i_17 t_18 not_19) (q_law17_TestSound_2 m0 m1)) = (law17_TestSound.l1 n) := by funext l_14 none_15 all_16 i_17 t_18 not_19; exact ih l_14 none_15 all_16 i_17 t_18 not_19
    refine (st_law17_TestSound_j1 m0 m1 n l_14 none_15 all_16 i_17 t_18 not_19).trans ?_
    rw [e1]; rfl
noncomputable def cd_law17_TestSound_3 : Code := (rgt (rgt (rgt (rgt (rgt (rgt (rgt b_law17_TestSound)))))))
theorem st_law17_TestSound_j0 (m0 : Nat) (n : Nat) (l_9 : (List (Int × (Int × ByteArray)))) (none_10 : Bool) (all_11 : Bool) (t_12 : (Int × (Int × (Int × ByteArray)))) (not_13 : (Int × (Int × (Int × ByteArray)))) : evJ E_law17_TestSound (drE E_law17_TestSound) (n + 1) (.tail cd_law17_TestSound_3) 0 (sg_law17_TestSound_0 l_9 none_10 all_11 t_12 not_13) (q_law17_TestSound_0 m0) = law17_TestSound.S0 (fun l_14 none_15 all_16 i_17 t_18 not_19 => evJ E_law17_TestSound (drE E_law17_TestSound) n (.loop cd_law17_TestSound_2) 0 (sg_law17_TestSound_1 l_14 none_15 all_16 i_17 t_18 not_19) (q_law17_TestSound_2 m0 n)) l_9 none_10 all_11 t_12 not_13 := by kernel_rfl
theorem J_law17_TestSound_0 (m0 : Nat) : ∀ (n : Nat) (l_9 : (List (Int × (Int × ByteArray)))) (none_10 : Bool) (all_11 : Bool) (t_12 : (Int × (Int × (Int × ByteArray)))) (not_13 : (Int × (Int × (Int × ByteArray)))), evJ E_law17_TestSound (drE E_law17_TestSound) n (.tail cd_law17_TestSound_3) 0 (sg_law17_TestSound_0 l_9 none_10 all_11 t_12 not_13) (q_law17_TestSound_0 m0) = law17_TestSound.t0 n l_9 none_10 all_11 t_12 not_13 := by
  intro n
  induction n with
  | zero => intros; rfl
  | succ n ih =>
    intro l_9 none_10 all_11 t_12 not_13
    have e0 : (fun l_9 none_10 all_11 t_12 not_13 => evJ E_law17_TestSound (drE E_law17_TestSound) n (.tail cd_law17_TestSound_3) 0 (sg_law17_TestSound_0 l_9 none_10 all_11 t_12 not_13) (q_law17_TestSound_0 m0)) = (law17_TestSound.t0 n) := by funext l_9 none_10 all_11 t_12 not_13; exact ih l_9 none_10 all_11 t_12 not_13
    have e1 : (fun l_14 none_15 all_16 i_17 t_18 not_19 => evJ E_law17_TestSound (drE E_law17_TestSound) n (.loop cd_law17_TestSound_2) 0 (sg_law17_TestSound_1 l_14 none_15 all_16 i_17 t_18 not_19) (q_law17_TestSound_2 m0 n)) = (law17_TestSound.l1 n) := by funext l_14 none_15 all_16 i_17 t_18 not_19; exact J_law17_TestSound_1 m0 n n l_14 none_15 all_16 i_17 t_18 not_19
    refine (st_law17_TestSound_j0 m0 n l_9 none_10 all_11 t_12 not_13).trans ?_
    rw [e1]; rfl
theorem st_law17_TestSound (m0 : Nat) (t : (Int × (Int × (Int × ByteArray)))) (l : (List (Int × (Int × ByteArray)))) : evC E_law17_TestSound (evJ E_law17_TestSound (drE E_law17_TestSound) m0) (drE E_law17_TestSound) b_law17_TestSound 0 (st0 [.val (.pair (.int .i64) (.pair (.int .i64) (.pair (.int .i64) .str))), .val (.sl (.pair (.int .i64) (.pair (.int .i64) .str)))] (t, l, ())) (fin E_law17_TestSound [.tmp 4] [(.bool, [])]) = law17_TestSound.S (fun l_9 none_10 all_11 t_12 not_13 => evJ E_law17_TestSound (drE E_law17_TestSound) m0 (.tail cd_law17_TestSound_3) 0 (sg_law17_TestSound_0 l_9 none_10 all_11 t_12 not_13) (q_law17_TestSound_0 m0)) t l := by kernel_rfl
theorem ev_law17_TestSound (t : (Int × (Int × (Int × ByteArray)))) (l : (List (Int × (Int × ByteArray)))) : evC E_law17_TestSound (evJ E_law17_TestSound (drE E_law17_TestSound) fu) (drE E_law17_TestSound) b_law17_TestSound 0 (st0 [.val (.pair (.int .i64) (.pair (.int .i64) (.pair (.int .i64) .str))), .val (.sl (.pair (.int .i64) (.pair (.int .i64) .str)))] (t, l, ())) (fin E_law17_TestSound [.tmp 4] [(.bool, [])]) = law17_TestSound t l := by
  have e0 : (fun l_9 none_10 all_11 t_12 not_13 => evJ E_law17_TestSound (drE E_law17_TestSound) fu (.tail cd_law17_TestSound_3) 0 (sg_law17_TestSound_0 l_9 none_10 all_11 t_12 not_13) (q_law17_TestSound_0 fu)) = (law17_TestSound.t0 fu) := by funext l_9 none_10 all_11 t_12 not_13; exact J_law17_TestSound_0 fu fu l_9 none_10 all_11 t_12 not_13
  refine (st_law17_TestSound fu t l).trans ?_
  rw [e0]; rfl
@[reducible] def sp_law17_TestSound   : AM.Spec := AM.spec [.val (.pair (.int .i64) (.pair (.int .i64) (.pair (.int .i64) .str))), .val (.sl (.pair (.int .i64) (.pair (.int .i64) .str)))] [(.bool, [])] (fun x => law17_TestSound x.1 x.2.1)
theorem c_law17_TestSound : Contract Try.prog 5 sp_law17_TestSound :=
  contract_of (Tab.envOk tabOk _ _) calls_law17_TestSound tabOk.mixed (fn := Try.f5) (c := b_law17_TestSound) (ts := [.tmp 4]) (by kernel_rfl) (by kernel_rfl) (by kernel_rfl) (by decide) (by kernel_rfl) (by decide) fun x _ h => ⟨fu, (ev_law17_TestSound x.1 x.2.1).trans h⟩

/-! peristyle/peristylelaw17.TestBounds -/
@[reducible] noncomputable def E_law17_TestBounds : Env := tab.env (AM.look [(7, sp_law17_awake), (19, sp_test_Bounds), (11, sp_ref17_May), (20, sp_law17_num), (10, sp_ref17_Match)]) ⟨[(0, ⟨[(1, true), (2, true), (5, true)], [(2, true)]⟩), (2, ⟨[(1, true), (2, true), (6, true), (7, true), (8, true), (9, true)], [(2, true)]⟩)], [], [(8, ⟨[(1, true), (2, true)], [(2, true)]⟩), (19, ⟨[(6, true), (7, true), (8, true)], []⟩)], ⟨[(4, true)], []⟩⟩
theorem calls_law17_TestBounds : CallsOk Try.prog E_law17_TestBounds := callsOk_of ⟨⟨c_law17_awake, Try.call7⟩, ⟨⟨c_test_Bounds, Try.call19⟩, ⟨⟨c_ref17_May, Try.call11⟩, ⟨⟨c_law17_num, Try.call20⟩, ⟨⟨c_ref17_Match, Try.call10⟩, trivial⟩⟩⟩⟩⟩
noncomputable def b_law17_TestBounds : Code := (Try.f6.body).getD .skip
noncomputable def sg_law17_TestBounds_3 (from_21 : Int) (to_22 : Int) (some_23 : Bool) : St := mk [(6, .dat (.int .i64) from_21 []), (7, .dat (.int .i64) to_22 []), (8, .dat .bool some_23 [])] []
noncomputable def sg_law17_TestBounds_2 (l_13 : (List Int)) (from_14 : Int) (to_15 : Int) (some_16 : Bool) (i_17 : Int) (t_18 : (Int × (Int × (Int × ByteArray)))) : St := mk [(1, .dat (.sl (.int .i64)) l_13 []), (2, .ptr 2 0 0), (6, .dat (.int .i64) from_14 []), (7, .dat (.int .i64) to_15 []), (8, .dat .bool some_16 []), (9, .dat (.int .i64) i_17 [])] [(2, some (.var (.pair (.int .i64) (.pair (.int .i64) (.pair (.int .i64) .str))) t_18 []))]
noncomputable def sg_law17_TestBounds_1 (l_7 : (List Int)) (t_8 : (Int × (Int × (Int × ByteArray)))) : St := mk [(1, .dat (.sl (.int .i64)) l_7 []), (2, .ptr 2 0 0)] [(2, some (.var (.pair (.int .i64) (.pair (.int .i64) (.pair (.int .i64) .str))) t_8 []))]
noncomputable def sg_law17_TestBounds_0 (l_3 : (List Int)) (i_4 : Int) (t_5 : (Int × (Int × (Int × ByteArray)))) : St := mk [(1, .dat (.sl (.int .i64)) l_3 []), (2, .ptr 2 0 0), (5, .dat (.int .i64) i_4 [])] [(2, some (.var (.pair (.int .i64) (.pair (.int .i64) (.pair (.int .i64) .str))) t_5 []))]
noncomputable def q_law17_TestBounds_0 (m0 : Nat) : K (ResD [(.bool, [])]) := fin E_law17_TestBounds [.tmp 4] [(.bool, [])]
noncomputable def cd_law17_TestBounds_1 : Code := (rgt (rgt (rgt (rgt (rgt (rgt (rgt b_law17_TestBounds)))))))
theorem st_law17_TestBounds_j3 (m0 : Nat) (m1 : Nat) (n : Nat) (from_21 : Int) (to_22 : Int) (some_23 : Bool) : evJ E_law17_TestBounds (drE E_law17_TestBounds) (n + 1) (.tail cd_law17_TestBounds_1) 0 (sg_law17_TestBounds_3 from_21 to_22 some_23) (q_law17_TestBounds_0 m0) = law17_TestBounds.S3 from_21 to_22 some_23 := by kernel_rfl
theorem J_law17_TestBounds_3 (m0 : Nat) (m1 : Nat) : ∀ (n : Nat) (from_21 : Int) (to_22 : Int) (some_23 : Bool), evJ E_law17_TestBounds (drE E_law17_TestBounds) n (.tail cd_law17_TestBounds_1) 0 (sg_law17_TestBounds_3 from_21 to_22 some_23) (q_law17_TestBounds_0 m0) = law17_TestBounds.t3 n from_21 to_22 some_23 := by
  intro n
  induction n with
  | zero => intros; rfl
  | succ n ih =>
    intro from_21 to_22 some_23
    have e3 : (fun from_21 to_22 some_23 => evJ E_law17_TestBounds (drE E_law17_TestBounds) n (.tail cd_law17_TestBounds_1) 0 (sg_law17_TestBounds_3 from_21 to_22 some_23) (q_law17_TestBounds_0 m0)) = (law17_TestBounds.t3 n) := by funext from_21 to_22 some_23; exact ih from_21 to_22 some_23
    refine (st_law17_TestBounds_j3 m0 m1 n from_21 to_22 some_23).trans ?_
    rfl
noncomputable def q_law17_TestBounds_1 (m0 : Nat) (m1 : Nat) : K (ResD [(.bool, [])]) := seqK E_law17_TestBounds (evJ E_law17_TestBounds (drE E_law17_TestBounds) m1) cd_law17_TestBounds_1 0 (evC E_law17_TestBounds (evJ E_law17_TestBounds (drE E_law17_TestBounds) m1) (drE E_law17_TestBounds) cd_law17_TestBounds_1 0) (q_law17_TestBounds_0 m0)
noncomputable def q_law17_TestBounds_2 (m0 : Nat) (m1 : Nat) : K (ResD [(.bool, [])]) := blockK 2 (q_law17_TestBounds_1 m0 m1)
noncomputable def cd_law17_TestBounds_2 : Code := (lft (lft (rgt (lft (rgt (rgt (rgt (rgt (rgt (rgt b_law17_TestBounds))))))))))
theorem st_law17_TestBounds_j2 (m0 : Nat) (m1 : Nat) (n : Nat) (l_13 : (List Int)) (from_14 : Int) (to_15 : Int) (some_16 : Bool) (i_17 : Int) (t_18 : (Int × (Int × (Int × ByteArray)))) : evJ E_law17_TestBounds (drE E_law17_TestBounds) (n + 1) (.loop cd_law17_TestBounds_2) 2 (sg_law17_TestBounds_2 l_13 from_14 to_15 some_16 i_17 t_18) (q_law17_TestBounds_2 m0 m1) = law17_TestBounds.S2 (fun from_21 to_22 some_23 => evJ E_law17_TestBounds (drE E_law17_TestBounds) m1 (.tail cd_law17_TestBounds_1) 0 (sg_law17_TestBounds_3 from_21 to_22 some_23) (q_law17_TestBounds_0 m0)) (fun l_13 from_14 to_15 some_16 i_17 t_18 => evJ E_law17_TestBounds (drE E_law17_TestBounds) n (.loop cd_law17_TestBounds_2) 2 (sg_law17_TestBounds_2 l_13 from_14 to_15 some_16 i_17 t_18) (q_law17_TestBounds_2 m0 m1)) l_13 from_14 to_15 some_16 i_17 t_18 := by kernel_rfl
theorem J_law17_TestBounds_2 (m0 : Nat) (m1 : Nat) : ∀ (n : Nat) (l_13 : (List Int)) (from_14 : Int) (to_15 : Int) (some_16 : Bool) (i_17 : Int) (t_18 : (Int × (Int × (Int × ByteArray)))), evJ E_law17_TestBounds (drE E_law17_TestBounds) n (.loop cd_law17_TestBounds_2) 2 (sg_law17_TestBounds_2 l_13 from_14 to_15 some_16 i_17 t_18) (q_law17_TestBounds_2 m0 m1) = law17_TestBounds.l2 (fun from_21 to_22 some_23 => evJ E_law17_TestBounds (drE E_law17_TestBounds) m1 (.tail cd_law17_TestBounds_1) 0 (sg_law17_TestBounds_3 from_21 to_22 some_23) (q_law17_TestBounds_0 m0)) n l_13 from_14 to_15 some_16 i_17 t_18 := by
  intro n
  induction n with
  | zero => intros; rfl
  | succ n ih =>
    intro l_13 from_14 to_15 some_16 i_17 t_18
    have e2 : (fun l_13 from_14 to_15 some_16 i_17 t_18 => evJ E_law17_TestBounds (drE E_law17_TestBounds) n (.loop cd_law17_TestBounds_2) 2 (sg_law17_TestBounds_2 l_13 from_14 to_15 some_16 i_17 t_18) (q_law17_TestBounds_2 m0 m1)) = (law17_TestBounds.l2 (fun from_21 to_22 some_23 => evJ E_law17_TestBounds (drE E_law17_TestBounds) m1 (.tail cd_law17_TestBounds_1) 0 (sg_law17_TestBounds_3 from_21 to_22 some_23) (q_law17_TestBounds_0 m0)) n) := by funext l_13 from_14 to_15 some_16 i_17 t_18; exact ih l_13 from_14 to_15 some_16 i_17 t_18
    refine (st_law17_TestBounds_j2 m0 m1 n l_13 from_14 to_15 some_16 i_17 t_18).trans ?_
    rw [e2]; rfl
noncomputable def cd_law17_TestBounds_3 : Code := (rgt (rgt (rgt b_law17_TestBounds)))
theorem st_law17_TestBounds_j1 (m0 : Nat) (n : Nat) (l_7 : (List Int)) (t_8 : (Int × (Int × (Int × ByteArray)))) : evJ E_law17_TestBounds (drE E_law17_TestBounds) (n + 1) (.tail cd_law17_TestBounds_3) 0 (sg_law17_TestBounds_1 l_7 t_8) (q_law17_TestBounds_0 m0) = law17_TestBounds.S1 (fun l_13 from_14 to_15 some_16 i_17 t_18 => evJ E_law17_TestBounds (drE E_law17_TestBounds) n (.loop cd_law17_TestBounds_2) 2 (sg_law17_TestBounds_2 l_13 from_14 to_15 some_16 i_17 t_18) (q_law17_TestBounds_2 m0 n)) l_7 t_8 := by kernel_rfl
theorem J_law17_TestBounds_1 (m0 : Nat) : ∀ (n : Nat) (l_7 : (List Int)) (t_8 : (Int × (Int × (Int × ByteArray)))), evJ E_law17_TestBounds (drE E_law17_TestBounds) n (.tail cd_law17_TestBounds_3) 0 (sg_law17_TestBounds_1 l_7 t_8) (q_law17_TestBounds_0 m0) = law17_TestBounds.t1 n l_7 t_8 := by
  intro n
  induction n with
  | zero => intros; rfl
  | succ n ih =>
    intro l_7 t_8
    have e1 : (fun l_7 t_8 => evJ E_law17_TestBounds (drE E_law17_TestBounds) n (.tail cd_law17_TestBounds_3) 0 (sg_law17_TestBounds_1 l_7 t_8) (q_law17_TestBounds_0 m0)) = (law17_TestBounds.t1 n) := by funext l_7 t_8; exact ih l_7 t_8
    have e3 : (fun from_21 to_22 some_23 => evJ E_law17_TestBounds (drE E_law17_TestBounds) n (.tail cd_law17_TestBounds_1) 0 (sg_law17_TestBounds_3 from_21 to_22 some_23) (q_law17_TestBounds_0 m0)) = (law17_TestBounds.t3 n) := by funext from_21 to_22 some_23; exact J_law17_TestBounds_3 m0 n n from_21 to_22 some_23
    have e2 : (fun l_13 from_14 to_15 some_16 i_17 t_18 => evJ E_law17_TestBounds (drE E_law17_TestBounds) n (.loop cd_law17_TestBounds_2) 2 (sg_law17_TestBounds_2 l_13 from_14 to_15 some_16 i_17 t_18) (q_law17_TestBounds_2 m0 n)) = (law17_TestBounds.l2 (law17_TestBounds.t3 n) n) := by rw [← e3]; funext l_13 from_14 to_15 some_16 i_17 t_18; exact J_law17_TestBounds_2 m0 n n l_13 from_14 to_15 some_16 i_17 t_18
    refine (st_law17_TestBounds_j1 m0 n l_7 t_8).trans ?_
    rw [e2]; rfl
noncomputable def q_law17_TestBounds_3 (m0 : Nat) : K (ResD [(.bool, [])]) := seqK E_law17_TestBounds (evJ E_law17_TestBounds (drE E_law17_TestBounds) m0) cd_law17_TestBounds_3 0 (evC E_law17_TestBounds (evJ E_law17_TestBounds (drE E_law17_TestBounds) m0) (drE E_law17_TestBounds) cd_law17_TestBounds_3 0) (q_law17_TestBounds_0 m0)
noncomputable def q_law17_TestBounds_4 (m0 : Nat) : K (ResD [(.bool, [])]) := blockK 0 (q_law17_TestBounds_3 m0)
noncomputable def cd_law17_TestBounds_4 : Code := (lft (lft (rgt (lft (rgt (rgt b_law17_TestBounds))))))
theorem st_law17_TestBounds_j0 (m0 : Nat) (n : Nat) (l_3 : (List Int)) (i_4 : Int) (t_5 : (Int × (Int × (Int × ByteArray)))) : evJ E_law17_TestBounds (drE E_law17_TestBounds) (n + 1) (.loop cd_law17_TestBounds_4) 0 (sg_law17_TestBounds_0 l_3 i_4 t_5) (q_law17_TestBounds_4 m0) = law17_TestBounds.S0 (fun l_7 t_8 => evJ E_law17_TestBounds (drE E_law17_TestBounds) m0 (.tail cd_law17_TestBounds_3) 0 (sg_law17_TestBounds_1 l_7 t_8) (q_law17_TestBounds_0 m0)) (fun l_3 i_4 t_5 => evJ E_law17_TestBounds (drE E_law17_TestBounds) n (.loop cd_law17_TestBounds_4) 0 (sg_law17_TestBounds_0 l_3 i_4 t_5) (q_law17_TestBounds_4 m0)) l_3 i_4 t_5 := by kernel_rfl
theorem J_law17_TestBounds_0 (m0 : Nat) : ∀ (n : Nat) (l_3 : (List Int)) (i_4 : Int) (t_5 : (Int × (Int × (Int × ByteArray)))), evJ E_law17_TestBounds (drE E_law17_TestBounds) n (.loop cd_law17_TestBounds_4) 0 (sg_law17_TestBounds_0 l_3 i_4 t_5) (q_law17_TestBounds_4 m0) = law17_TestBounds.l0 (fun l_7 t_8 => evJ E_law17_TestBounds (drE E_law17_TestBounds) m0 (.tail cd_law17_TestBounds_3) 0 (sg_law17_TestBounds_1 l_7 t_8) (q_law17_TestBounds_0 m0)) n l_3 i_4 t_5 := by
  intro n
  induction n with
  | zero => intros; rfl
  | succ n ih =>
    intro l_3 i_4 t_5
    have e0 : (fun l_3 i_4 t_5 => evJ E_law17_TestBounds (drE E_law17_TestBounds) n (.loop cd_law17_TestBounds_4) 0 (sg_law17_TestBounds_0 l_3 i_4 t_5) (q_law17_TestBounds_4 m0)) = (law17_TestBounds.l0 (fun l_7 t_8 => evJ E_law17_TestBounds (drE E_law17_TestBounds) m0 (.tail cd_law17_TestBounds_3) 0 (sg_law17_TestBounds_1 l_7 t_8) (q_law17_TestBounds_0 m0)) n) := by funext l_3 i_4 t_5; exact ih l_3 i_4 t_5
    refine (st_law17_TestBounds_j0 m0 n l_3 i_4 t_5).trans ?_
    rw [e0]; rfl
theorem st_law17_TestBounds (m0 : Nat) (t : (Int × (Int × (Int × ByteArray)))) (l : (List Int)) : evC E_law17_TestBounds (evJ E_law17_TestBounds (drE E_law17_TestBounds) m0) (drE E_law17_TestBounds) b_law17_TestBounds 0 (st0 [.val (.pair (.int .i64) (.pair (.int .i64) (.pair (.int .i64) .str))), .val (.sl (.int .i64))] (t, l, ())) (fin E_law17_TestBounds [.tmp 4] [(.bool, [])]) = law17_TestBounds.S (fun l_3 i_4 t_5 => evJ E_law17_TestBounds (drE E_law17_TestBounds) m0 (.loop cd_law17_TestBounds_4) 0 (sg_law17_TestBounds_0 l_3 i_4 t_5) (q_law17_TestBounds_4 m0)) t l := by kernel_rfl
theorem ev_law17_TestBounds (t : (Int × (Int × (Int × ByteArray)))) (l : (List Int)) : evC E_law17_TestBounds (evJ E_law17_TestBounds (drE E_law17_TestBounds) fu) (drE E_law17_TestBounds) b_law17_TestBounds 0 (st0 [.val (.pair (.int .i64) (.pair (.int .i64) (.pair (.int .i64) .str))), .val (.sl (.int .i64))] (t, l, ())) (fin E_law17_TestBounds [.tmp 4] [(.bool, [])]) = law17_TestBounds t l := by
  have e1 : (fun l_7 t_8 => evJ E_law17_TestBounds (drE E_law17_TestBounds) fu (.tail cd_law17_TestBounds_3) 0 (sg_law17_TestBounds_1 l_7 t_8) (q_law17_TestBounds_0 fu)) = (law17_TestBounds.t1 fu) := by funext l_7 t_8; exact J_law17_TestBounds_1 fu fu l_7 t_8
  have e0 : (fun l_3 i_4 t_5 => evJ E_law17_TestBounds (drE E_law17_TestBounds) fu (.loop cd_law17_TestBounds_4) 0 (sg_law17_TestBounds_0 l_3 i_4 t_5) (q_law17_TestBounds_4 fu)) = (law17_TestBounds.l0 (law17_TestBounds.t1 fu) fu) := by rw [← e1]; funext l_3 i_4 t_5; exact J_law17_TestBounds_0 fu fu l_3 i_4 t_5
  refine (st_law17_TestBounds fu t l).trans ?_
  rw [e0]; rfl
@[reducible] def sp_law17_TestBounds   : AM.Spec := AM.spec [.val (.pair (.int .i64) (.pair (.int .i64) (.pair (.int .i64) .str))), .val (.sl (.int .i64))] [(.bool, [])] (fun x => law17_TestBounds x.1 x.2.1)
theorem c_law17_TestBounds : Contract Try.prog 6 sp_law17_TestBounds :=
  contract_of (Tab.envOk tabOk _ _) calls_law17_TestBounds tabOk.mixed (fn := Try.f6) (c := b_law17_TestBounds) (ts := [.tmp 4]) (by kernel_rfl) (by kernel_rfl) (by kernel_rfl) (by decide) (by kernel_rfl) (by decide) fun x _ h => ⟨fu, (ev_law17_TestBounds x.1 x.2.1).trans h⟩
end Go.Proofs.Ytggioofgjkedpaa.Am
