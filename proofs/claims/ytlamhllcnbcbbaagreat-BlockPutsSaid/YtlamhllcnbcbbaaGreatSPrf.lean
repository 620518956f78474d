import Derived.Test.YtlamhllcnbcbbaaGreatAmPure13
import Derived.Test.YtlamhllcnbcbbaaGreatSPrim
/- PRINTED by gen/ of this repo: the code comes to the pure functions. -/
namespace Go.Proofs.YtlamhllcnbcbbaaGreat.Am
open Go.AM Go.AM.Pure
set_option linter.unusedVariables false
set_option maxRecDepth 100000
noncomputable section
abbrev k13a : Ty := .sl .str
abbrev k13b : Ty := .int .i64
abbrev k13c : Ty := .sl (.int .u8)
abbrev k13d : Ty := .sl k13b
abbrev k13e : Ty := .pair k13b .str
abbrev k13f : Ty := .pair k13b k13b
abbrev k13g : Ty := .pair k13b k13e
abbrev k13h : Ty := .sl k13g
abbrev k13i : Ty := .pair k13b k13f
abbrev k13j : Ty := .sl k13i
abbrev k13k : Ty := .pair k13b k13i
abbrev E_f8 : Env := tab.env (AM.look []) ⟨[(0, ⟨tt [0, 1, 5], []⟩)], [], [], ⟨tt [4], []⟩, [], [], [], []⟩
def b_f8 : Code := bd Tryz.f8
abbrev R_f8 : List (Ty × List Tag) := [(.bool, [])]
abbrev P_f8 : List PK := [.val k13h, .val k13b]
abbrev K_f8 : K (ResD R_f8) := fin E_f8 [.tmp 4] [] R_f8
def sg_f8_0 (x1 : D13u) (x2 x3 : Int) : St := mk [(0, .dat k13h x1 []), (1, .dat k13b x2 []), (5, .dat k13b x3 [])] []
def cd_f8_1 : Code := (rgt (rgt b_f8))
def q_f8_1 (m0 : Nat) : K (ResD R_f8) := sqK E_f8 m0 cd_f8_1 0 K_f8
def q_f8_2 (m0 : Nat) : K (ResD R_f8) := blockK 0 (q_f8_1 m0)
def cd_f8_2 : Code := (lft (lft (rgt (lft (rgt b_f8)))))
def j0_f8 (m0 n : Nat) : D13u → Int → Int → Option Bool := fun x1 x2 x3 => ej E_f8 n (.loop cd_f8_2) 0 (sg_f8_0 x1 x2 x3) (q_f8_2 m0)
theorem st_f8_j0 (m0 n : Nat) : j0_f8 m0 (n + 1) = ref12_Light.S0 (j0_f8 m0 n) := by kernel_rfl
theorem J_f8_0 (m0 : Nat) : ∀ n : Nat, j0_f8 m0 n = ref12_Light.l0 n :=
  ind rfl fun n e0 => (st_f8_j0 m0 n).trans (by rw [e0]; rfl)
theorem st_f8 (m0 : Nat) (x : ArgsD P_f8) : run E_f8 b_f8 m0 x K_f8 = ref12_Light.S (j0_f8 m0 m0) x.1 x.2.1 := by kernel_rfl
abbrev sp_f8 : AM.Spec := AM.spec P_f8 R_f8 (fun x => ref12_Light x.1 x.2.1)
theorem c_f8 : Contract Tryz.prog 8 sp_f8 := ctrC tabOk (fn := Tryz.f8) (fun x => (st_f8 fu x).trans (by rw [J_f8_0 fu fu]; rfl)) (callsOk_of trivial)
abbrev E_f14 : Env := tab.env (AM.look []) ⟨[], [], [], ⟨tt [2], tt [2]⟩, [], [], [], []⟩
def b_f14 : Code := bd Tryz.f14
abbrev R_f14 : List (Ty × List Tag) := [(k13g, [])]
abbrev P_f14 : List PK := [.val k13b]
abbrev K_f14 : K (ResD R_f14) := fin E_f14 [.cell 2 34] [] R_f14
abbrev sp_f14 : AM.Spec := AM.spec P_f14 R_f14 (fun x => some (law13_num x.1))
theorem c_f14 : Contract Tryz.prog 14 sp_f14 := ctrC tabOk (fn := Tryz.f14) (show ∀ x, run E_f14 b_f14 fu x K_f14 = _ from fun x => by kernel_rfl) (callsOk_of trivial)
abbrev E_f39 : Env := tab.env (AM.look []) ⟨[], [], [], ⟨tt [2], []⟩, [], [], [], []⟩
def b_f39 : Code := bd Tryz.f39
abbrev R_f39 : List (Ty × List Tag) := [(k13b, [])]
abbrev P_f39 : List PK := [.val k13g]
abbrev K_f39 : K (ResD R_f39) := fin E_f39 [.tmp 2] [] R_f39
theorem st_f39_o (m0 : Nat) (x : ArgsD P_f39) : run E_f39 b_f39 m0 x K_f39 = cell_Check.o x.1 := by kernel_rfl
theorem st_f39 (m0 : Nat) (x : ArgsD P_f39) : run E_f39 b_f39 m0 x K_f39 = some (cell_Check x.1) := (st_f39_o m0 x).trans (by unfold cell_Check.o cell_Check; simp only [cond_some])
abbrev sp_f39 : AM.Spec := AM.spec P_f39 R_f39 (fun x => some (cell_Check x.1))
theorem c_f39 : Contract Tryz.prog 39 sp_f39 := ctrC tabOk (fn := Tryz.f39) (fun x => st_f39 fu x) (callsOk_of trivial)
abbrev E_f38 : Env := tab.env (AM.look [(39, sp_f39)]) ⟨[], [], [], ⟨tt [3], []⟩, [], [39], [], []⟩
def b_f38 : Code := bd Tryz.f38
abbrev R_f38 : List (Ty × List Tag) := [(.bool, [])]
abbrev P_f38 : List PK := [.val k13g, .ref k13b]
abbrev K_f38 : K (ResD R_f38) := fin E_f38 [.tmp 3] [] R_f38
theorem st_f38_o (m0 : Nat) (x : ArgsD P_f38) : run E_f38 b_f38 m0 x K_f38 = block_may_1.o x.1 x.2.1 := by kernel_rfl
theorem st_f38 (m0 : Nat) (x : ArgsD P_f38) : run E_f38 b_f38 m0 x K_f38 = some (block_may_1 x.1 x.2.1) := (st_f38_o m0 x).trans (by unfold block_may_1.o block_may_1; simp only [cond_some])
abbrev sp_f38 : AM.Spec := AM.spec P_f38 R_f38 (fun x => some (block_may_1 x.1 x.2.1))
theorem c_f38 : Contract Tryz.prog 38 sp_f38 := ctrC tabOk (fn := Tryz.f38) (fun x => st_f38 fu x) (callsOk_of ⟨⟨c_f39, Tryz.call39, fun _ => words_spec rfl⟩, trivial⟩)
abbrev E_f69a : Env := tab.env (AM.look [(38, sp_f38)]) ⟨[(0, ⟨tt [0, 1, 7, 8], []⟩)], [], [], ⟨tt [4], []⟩, [], [38], [], []⟩
def b_f69a : Code := bd Tryz.f69
abbrev R_f69a : List (Ty × List Tag) := [(k13b, [])]
abbrev P_f69a : List PK := [.val k13h, .fn 38 [k13b]]
abbrev K_f69a : K (ResD R_f69a) := fin E_f69a [.tmp 4] [] R_f69a
def sg_f69a_0 (x1 : D13u) (x2 x3 x4 : Int) : St := mk [(0, .dat k13h x1 []), (1, .fn 38 [⟨k13b, x2, []⟩]), (7, .dat k13b x3 []), (8, .dat k13b x4 [])] []
def cd_f69a_1 : Code := (rgt (rgt b_f69a))
def q_f69a_1 (m0 : Nat) : K (ResD R_f69a) := sqK E_f69a m0 cd_f69a_1 0 K_f69a
def q_f69a_2 (m0 : Nat) : K (ResD R_f69a) := blockK 0 (q_f69a_1 m0)
def cd_f69a_2 : Code := (lft (lft (rgt (lft (rgt b_f69a)))))
def j0_f69a (m0 n : Nat) : D13u → Int → Int → Int → Option Int := fun x1 x2 x3 x4 => ej E_f69a n (.loop cd_f69a_2) 0 (sg_f69a_0 x1 x2 x3 x4) (q_f69a_2 m0)
theorem st_f69a_j0 (m0 n : Nat) : j0_f69a m0 (n + 1) = slices_IndexFunc_api_Cell_api_Cell__block_may_1.S0 (j0_f69a m0 n) := by kernel_rfl
theorem J_f69a_0 (m0 : Nat) : ∀ n : Nat, j0_f69a m0 n = slices_IndexFunc_api_Cell_api_Cell__block_may_1.l0 n :=
  ind rfl fun n e0 => (st_f69a_j0 m0 n).trans (by rw [e0]; rfl)
theorem st_f69a (m0 : Nat) (x : ArgsD P_f69a) : run E_f69a b_f69a m0 x K_f69a = slices_IndexFunc_api_Cell_api_Cell__block_may_1.S (j0_f69a m0 m0) x.1 x.2.1.1 := by kernel_rfl
abbrev sp_f69a : AM.Spec := AM.spec P_f69a R_f69a (fun x => slices_IndexFunc_api_Cell_api_Cell__block_may_1 x.1 x.2.1.1)
theorem c_f69a : Contract Tryz.prog 69 sp_f69a := ctrC tabOk (fn := Tryz.f69) (fun x => (st_f69a fu x).trans (by rw [J_f69a_0 fu fu]; rfl)) (callsOk_of ⟨⟨c_f38, Tryz.call38, fun _ => words_spec rfl⟩, trivial⟩)
abbrev E_f37a : Env := tab.env (AM.look [(69, sp_f69a)]) ⟨[], [], [], ⟨tt [4], []⟩, [], [69], [], []⟩
def b_f37a : Code := bd Tryz.f37
abbrev R_f37a : List (Ty × List Tag) := [(.bool, [])]
abbrev P_f37a : List PK := [.val k13h, .fn 38 [k13b]]
abbrev K_f37a : K (ResD R_f37a) := fin E_f37a [.tmp 4] [] R_f37a
abbrev sp_f37a : AM.Spec := AM.spec P_f37a R_f37a (fun x => slices_ContainsFunc_api_Cell_api_Cell__block_may_1 x.1 x.2.1.1)
theorem c_f37a : Contract Tryz.prog 37 sp_f37a := ctrC tabOk (fn := Tryz.f37) (show ∀ x, run E_f37a b_f37a fu x K_f37a = _ from fun x => by kernel_rfl) (callsOk_of ⟨⟨c_f69a, Tryz.call69, fun _ => words_spec rfl⟩, trivial⟩)
abbrev E_f23 : Env := tab.env (AM.look [(37, sp_f37a)]) ⟨[], [], [], ⟨tt [4], []⟩, [], [37], [], []⟩
def b_f23 : Code := bd Tryz.f23
abbrev R_f23 : List (Ty × List Tag) := [(.bool, [])]
abbrev P_f23 : List PK := [.val k13h, .val k13b]
abbrev K_f23 : K (ResD R_f23) := fin E_f23 [.tmp 4] [] R_f23
abbrev sp_f23 : AM.Spec := AM.spec P_f23 R_f23 (fun x => block_may x.1 x.2.1)
theorem c_f23 : Contract Tryz.prog 23 sp_f23 := ctrC tabOk (fn := Tryz.f23) (show ∀ x, run E_f23 b_f23 fu x K_f23 = _ from fun x => by kernel_rfl) (callsOk_of ⟨⟨c_f37a, Tryz.call37, fun _ => words_spec rfl⟩, trivial⟩)
abbrev E_f43 : Env := tab.env (AM.look []) ⟨[], [], [], ⟨tt [2], []⟩, [], [], [], []⟩
def b_f43 : Code := bd Tryz.f43
abbrev R_f43 : List (Ty × List Tag) := [(.bool, [])]
abbrev P_f43 : List PK := [.val k13g]
abbrev K_f43 : K (ResD R_f43) := fin E_f43 [.tmp 2] [] R_f43
abbrev sp_f43 : AM.Spec := AM.spec P_f43 R_f43 (fun x => some (nulls_null x.1))
theorem c_f43 : Contract Tryz.prog 43 sp_f43 := ctrC tabOk (fn := Tryz.f43) (show ∀ x, run E_f43 b_f43 fu x K_f43 = _ from fun x => by kernel_rfl) (callsOk_of trivial)
abbrev E_f42 : Env := tab.env (AM.look [(43, sp_f43)]) ⟨[], [], [], ⟨tt [2], []⟩, [], [43], [], []⟩
def b_f42 : Code := bd Tryz.f42
abbrev R_f42 : List (Ty × List Tag) := [(.bool, [])]
abbrev P_f42 : List PK := [.val k13g]
abbrev K_f42 : K (ResD R_f42) := fin E_f42 [.tmp 2] [] R_f42
abbrev sp_f42 : AM.Spec := AM.spec P_f42 R_f42 (fun x => some (nulls_Split_1 x.1))
theorem c_f42 : Contract Tryz.prog 42 sp_f42 := ctrC tabOk (fn := Tryz.f42) (show ∀ x, run E_f42 b_f42 fu x K_f42 = _ from fun x => by kernel_rfl) (callsOk_of ⟨⟨c_f43, Tryz.call43, fun _ => words_spec rfl⟩, trivial⟩)
abbrev E_f69b : Env := tab.env (AM.look [(42, sp_f42)]) ⟨[(0, ⟨tt [0, 1, 7, 8], tt [1000000]⟩)], [], [], ⟨tt [4], tt [1000000]⟩, [], [42], [], []⟩
def b_f69b : Code := bd Tryz.f69
abbrev R_f69b : List (Ty × List Tag) := [(k13b, []), (k13h, [])]
abbrev P_f69b : List PK := [.ioa k13g, .fn 42 []]
abbrev K_f69b : K (ResD R_f69b) := fin E_f69b [.tmp 4] [.ioa k13g] R_f69b
def sg_f69b_0 (x1 x2 : Int) (x3 : D13u) : St := mk [(0, .slw 1000000 0), (1, .fn 42 []), (7, .dat k13b x1 []), (8, .dat k13b x2 [])] [(1000000, some (.arr k13g x3 false))]
def cd_f69b_1 : Code := (rgt (rgt b_f69b))
def q_f69b_1 (m0 : Nat) : K (ResD R_f69b) := sqK E_f69b m0 cd_f69b_1 0 K_f69b
def q_f69b_2 (m0 : Nat) : K (ResD R_f69b) := blockK 0 (q_f69b_1 m0)
def cd_f69b_2 : Code := (lft (lft (rgt (lft (rgt b_f69b)))))
def j0_f69b (m0 n : Nat) : Int → Int → D13u → Option D13y := fun x1 x2 x3 => ej E_f69b n (.loop cd_f69b_2) 0 (sg_f69b_0 x1 x2 x3) (q_f69b_2 m0)
theorem st_f69b_j0 (m0 n : Nat) : j0_f69b m0 (n + 1) = slices_IndexFunc_api_Cell_api_Cell__nulls_Split_1_a0.S0 (j0_f69b m0 n) := by kernel_rfl
theorem J_f69b_0 (m0 : Nat) : ∀ n : Nat, j0_f69b m0 n = slices_IndexFunc_api_Cell_api_Cell__nulls_Split_1_a0.l0 n :=
  ind rfl fun n e0 => (st_f69b_j0 m0 n).trans (by rw [e0]; rfl)
theorem st_f69b (m0 : Nat) (x : ArgsD P_f69b) : run E_f69b b_f69b m0 x K_f69b = slices_IndexFunc_api_Cell_api_Cell__nulls_Split_1_a0.S (j0_f69b m0 m0) x.1 := by kernel_rfl
abbrev sp_f69b : AM.Spec := AM.specIo 1 P_f69b R_f69b (fun x => slices_IndexFunc_api_Cell_api_Cell__nulls_Split_1_a0 x.1)
theorem c_f69b : Contract Tryz.prog 69 sp_f69b := ctrI tabOk (fn := Tryz.f69) (fun x => (st_f69b fu x).trans (by rw [J_f69b_0 fu fu]; rfl)) (callsOk_of ⟨⟨c_f42, Tryz.call42, fun _ => words_spec rfl⟩, trivial⟩)
abbrev E_f40 : Env := tab.env (AM.look [(69, sp_f69b), (42, sp_f42)]) ⟨[(0, ⟨tt [0, 1, 5, 6], tt [1000000]⟩)], [], [(11, ⟨tt [0, 5], tt [1000000]⟩)], ⟨tt [4], tt [1000000]⟩, [0, 4, 8, 13, 17, 22, 30, 36, 38, 39, 41], [42], [(69, [true])], []⟩
def b_f40 : Code := bd Tryz.f40
abbrev R_f40 : List (Ty × List Tag) := [(k13b, []), (k13h, [])]
abbrev P_f40 : List PK := [.ioa k13g, .fn 42 []]
abbrev K_f40 : K (ResD R_f40) := finS 0 4 [.ioa k13g] R_f40
def sg_f40_1 (x6 : Int) (x7 : D13u) : St := mk [(0, .slw 1000000 0), (5, .dat k13b x6 [])] [(1000000, some (.arr k13g x7 false))]
def sg_f40_0 (x2 x3 : Int) (x4 : D13u) : St := mk [(0, .slw 1000000 0), (1, .fn 42 []), (5, .dat k13b x2 []), (6, .dat k13b x3 [])] [(1000000, some (.arr k13g x4 false))]
def cd_f40_1 : Code := (rgt (rgt (rgt (rgt b_f40))))
def j1_f40 (m0 n : Nat) : Int → D13u → Option D13y := fun x6 x7 => ej E_f40 n (.tail cd_f40_1) 0 (sg_f40_1 x6 x7) K_f40
theorem st_f40_j1 (m0 n : Nat) : j1_f40 m0 (n + 1) = slices_DeleteFunc_api_Cell_api_Cell__nulls_Split_1_a0.S1 := by kernel_rfl
theorem J_f40_1 (m0 : Nat) : ∀ n : Nat, j1_f40 m0 n = slices_DeleteFunc_api_Cell_api_Cell__nulls_Split_1_a0.t1 n :=
  ind rfl fun n _ => st_f40_j1 m0 n
def q_f40_1 (m0 : Nat) : K (ResD R_f40) := sqK E_f40 m0 cd_f40_1 0 K_f40
def q_f40_2 (m0 : Nat) : K (ResD R_f40) := blockK 0 (q_f40_1 m0)
def cd_f40_2 : Code := (lft (lft (rgt (lft (rgt (rgt (rgt b_f40)))))))
def j0_f40 (m0 n : Nat) : Int → Int → D13u → Option D13y := fun x2 x3 x4 => ej E_f40 n (.loop cd_f40_2) 0 (sg_f40_0 x2 x3 x4) (q_f40_2 m0)
theorem st_f40_j0 (m0 n : Nat) : j0_f40 m0 (n + 1) = slices_DeleteFunc_api_Cell_api_Cell__nulls_Split_1_a0.S0 (j1_f40 m0 m0) (j0_f40 m0 n) := by kernel_rfl
theorem J_f40_0 (m0 : Nat) : ∀ n : Nat, j0_f40 m0 n = slices_DeleteFunc_api_Cell_api_Cell__nulls_Split_1_a0.l0 (j1_f40 m0 m0) n :=
  ind rfl fun n e0 => (st_f40_j0 m0 n).trans (by rw [e0]; rfl)
theorem st_f40 (m0 : Nat) (x : ArgsD P_f40) : run E_f40 b_f40 m0 x K_f40 = slices_DeleteFunc_api_Cell_api_Cell__nulls_Split_1_a0.S (j0_f40 m0 m0) x.1 := by kernel_rfl
abbrev sp_f40 : AM.Spec := AM.specSl 0 P_f40 R_f40 (fun x => slices_DeleteFunc_api_Cell_api_Cell__nulls_Split_1_a0 x.1)
theorem c_f40 : Contract Tryz.prog 40 sp_f40 := ctrS tabOk (fn := Tryz.f40) (show ∀ x, run E_f40 b_f40 fu x K_f40 = _ from fun x => by
  have e1 : j1_f40 fu fu = slices_DeleteFunc_api_Cell_api_Cell__nulls_Split_1_a0.t1 fu := J_f40_1 fu fu
  have e0 : j0_f40 fu fu = slices_DeleteFunc_api_Cell_api_Cell__nulls_Split_1_a0.l0 (slices_DeleteFunc_api_Cell_api_Cell__nulls_Split_1_a0.t1 fu) fu := by rw [← e1]; exact J_f40_0 fu fu
  refine (st_f40 fu x).trans ?_
  rw [e0]; rfl) (callsOk_of ⟨⟨c_f69b, Tryz.call69, nw⟩, ⟨⟨c_f42, Tryz.call42, fun _ => words_spec rfl⟩, trivial⟩⟩)
abbrev E_f105 : Env := tab.env (AM.look []) ⟨[(0, ⟨tt [3, 4, 5], []⟩)], [], [], ⟨tt [2], []⟩, [], [], [], []⟩
def b_f105 : Code := bd Tryz.f105
abbrev R_f105 : List (Ty × List Tag) := [(k13b, [])]
abbrev P_f105 : List PK := [.val k13b]
abbrev K_f105 : K (ResD R_f105) := fin E_f105 [.tmp 2] [] R_f105
def sg_f105_0 (x1 x2 x3 : Int) : St := mk [(3, .dat (.int .u64) x1 []), (4, .dat k13b x2 []), (5, .dat k13b x3 [])] []
def cd_f105_1 : Code := (rgt (rgt (rgt b_f105)))
def q_f105_1 (m0 : Nat) : K (ResD R_f105) := sqK E_f105 m0 cd_f105_1 0 K_f105
def q_f105_2 (m0 : Nat) : K (ResD R_f105) := blockK 0 (q_f105_1 m0)
def cd_f105_2 : Code := (lft (lft (rgt (lft (rgt (rgt b_f105))))))
def j0_f105 (m0 n : Nat) : Int → Int → Int → Option Int := fun x1 x2 x3 => ej E_f105 n (.loop cd_f105_2) 0 (sg_f105_0 x1 x2 x3) (q_f105_2 m0)
theorem st_f105_j0 (m0 n : Nat) : j0_f105 m0 (n + 1) = bits_Width.S0 (j0_f105 m0 n) := by kernel_rfl
theorem J_f105_0 (m0 : Nat) : ∀ n : Nat, j0_f105 m0 n = bits_Width.l0 n :=
  ind rfl fun n e0 => (st_f105_j0 m0 n).trans (by rw [e0]; rfl)
theorem st_f105 (m0 : Nat) (x : ArgsD P_f105) : run E_f105 b_f105 m0 x K_f105 = bits_Width.S (j0_f105 m0 m0) x.1 := by kernel_rfl
abbrev sp_f105 : AM.Spec := AM.spec P_f105 R_f105 (fun x => bits_Width x.1)
theorem c_f105 : Contract Tryz.prog 105 sp_f105 := ctrC tabOk (fn := Tryz.f105) (fun x => (st_f105 fu x).trans (by rw [J_f105_0 fu fu]; rfl)) (callsOk_of trivial)
abbrev E_f70 : Env := tab.env (AM.look [(105, sp_f105)]) ⟨[(0, ⟨tt [3, 6, 7, 8], []⟩)], [], [], ⟨tt [2], []⟩, [], [105], [], []⟩
def b_f70 : Code := bd Tryz.f70
abbrev R_f70 : List (Ty × List Tag) := [(k13b, [])]
abbrev P_f70 : List PK := [.val k13d]
abbrev K_f70 : K (ResD R_f70) := fin E_f70 [.tmp 2] [] R_f70
def sg_f70_0 (x1 : Int) (x2 : D13a) (x3 x4 : Int) : St := mk [(3, .dat k13b x1 []), (6, .dat k13d x2 []), (7, .dat k13b x3 []), (8, .dat k13b x4 [])] []
def cd_f70_1 : Code := (rgt (rgt (rgt b_f70)))
def q_f70_1 (m0 : Nat) : K (ResD R_f70) := sqK E_f70 m0 cd_f70_1 0 K_f70
def q_f70_2 (m0 : Nat) : K (ResD R_f70) := blockK 0 (q_f70_1 m0)
def cd_f70_2 : Code := (lft (lft (rgt (lft (rgt (rgt b_f70))))))
def j0_f70 (m0 n : Nat) : Int → D13a → Int → Int → Option Int := fun x1 x2 x3 x4 => ej E_f70 n (.loop cd_f70_2) 0 (sg_f70_0 x1 x2 x3 x4) (q_f70_2 m0)
theorem st_f70_j0 (m0 n : Nat) : j0_f70 m0 (n + 1) = pack_Width.S0 (j0_f70 m0 n) := by kernel_rfl
theorem J_f70_0 (m0 : Nat) : ∀ n : Nat, j0_f70 m0 n = pack_Width.l0 n :=
  ind rfl fun n e0 => (st_f70_j0 m0 n).trans (by rw [e0]; rfl)
theorem st_f70 (m0 : Nat) (x : ArgsD P_f70) : run E_f70 b_f70 m0 x K_f70 = pack_Width.S (j0_f70 m0 m0) x.1 := by kernel_rfl
abbrev sp_f70 : AM.Spec := AM.spec P_f70 R_f70 (fun x => pack_Width x.1)
theorem c_f70 : Contract Tryz.prog 70 sp_f70 := ctrC tabOk (fn := Tryz.f70) (fun x => (st_f70 fu x).trans (by rw [J_f70_0 fu fu]; rfl)) (callsOk_of ⟨⟨c_f105, Tryz.call105, fun _ => words_spec rfl⟩, trivial⟩)
abbrev E_f71 : Env := tab.env (AM.look []) ⟨[], [], [], ⟨tt [4], []⟩, [], [], [], []⟩
def b_f71 : Code := bd Tryz.f71
abbrev R_f71 : List (Ty × List Tag) := [(k13b, [])]
abbrev P_f71 : List PK := [.val k13b, .val k13b]
abbrev K_f71 : K (ResD R_f71) := fin E_f71 [.tmp 4] [] R_f71
theorem st_f71_o (m0 : Nat) (x : ArgsD P_f71) : run E_f71 b_f71 m0 x K_f71 = pack_Bytes.o x.1 x.2.1 := by kernel_rfl
theorem st_f71 (m0 : Nat) (x : ArgsD P_f71) : run E_f71 b_f71 m0 x K_f71 = some (pack_Bytes x.1 x.2.1) := (st_f71_o m0 x).trans (by unfold pack_Bytes.o pack_Bytes; simp only [cond_some])
abbrev sp_f71 : AM.Spec := AM.spec P_f71 R_f71 (fun x => some (pack_Bytes x.1 x.2.1))
theorem c_f71 : Contract Tryz.prog 71 sp_f71 := ctrC tabOk (fn := Tryz.f71) (fun x => st_f71 fu x) (callsOk_of trivial)
abbrev E_f72 : Env := tab.env (AM.look []) ⟨[], [], [], ⟨tt [2], []⟩, [], [], [], []⟩
def b_f72 : Code := bd Tryz.f72
abbrev R_f72 : List (Ty × List Tag) := [(k13b, [])]
abbrev P_f72 : List PK := [.val k13b]
abbrev K_f72 : K (ResD R_f72) := fin E_f72 [.tmp 2] [] R_f72
abbrev sp_f72 : AM.Spec := AM.spec P_f72 R_f72 (fun x => bits_Mask x.1)
theorem c_f72 : Contract Tryz.prog 72 sp_f72 := ctrC tabOk (fn := Tryz.f72) (show ∀ x, run E_f72 b_f72 fu x K_f72 = _ from fun x => by kernel_rfl) (callsOk_of trivial)
abbrev E_f44 : Env := tab.env (AM.look [(70, sp_f70), (71, sp_f71), (72, sp_f72)]) ⟨[(0, ⟨tt [1, 6, 7, 8, 37, 38, 39], []⟩), (2, ⟨tt [1, 6, 7, 8, 11, 12, 37, 38, 39], []⟩)], [], [(20, ⟨tt [6, 7, 8], []⟩)], ⟨tt [4, 5], []⟩, [], [70, 71, 72], [], []⟩
def b_f44 : Code := bd Tryz.f44
abbrev R_f44 : List (Ty × List Tag) := [(.str, []), (k13b, [])]
abbrev P_f44 : List PK := [.val k13d, .val k13b]
abbrev K_f44 : K (ResD R_f44) := fin E_f44 [.tmp 4, .tmp 5] [] R_f44
def sg_f44_2 (x20 : D13a) (x21 x22 : Int) : St := mk [(6, .dat k13c x20 [⟨0, 385, 0, 0⟩]), (7, .dat (.int .u64) x21 []), (8, .dat k13b x22 [])] []
def sg_f44_1 (x10 : Int) (x11 : D13a) (x12 x13 : Int) (x14 x15 : Int) (x16 : D13a) (x17 x18 : Int) : St := mk [(1, .dat k13b x10 []), (6, .dat k13c x11 [⟨0, 385, 0, 0⟩]), (7, .dat (.int .u64) x12 []), (8, .dat k13b x13 []), (11, .dat (.int .u64) x14 []), (12, .dat k13b x15 []), (37, .dat k13d x16 []), (38, .dat k13b x17 []), (39, .dat k13b x18 [])] []
def sg_f44_0 (x3 : Int) (x4 : D13a) (x5 x6 : Int) (x7 : D13a) (x8 x9 : Int) : St := mk [(1, .dat k13b x3 []), (6, .dat k13c x4 [⟨0, 385, 0, 0⟩]), (7, .dat (.int .u64) x5 []), (8, .dat k13b x6 []), (37, .dat k13d x7 []), (38, .dat k13b x8 []), (39, .dat k13b x9 [])] []
def cd_f44_1 : Code := (rgt (rgt (rgt (rgt (rgt (rgt b_f44))))))
def j2_f44 (m0 n : Nat) : D13a → Int → Int → Option D13g := fun x20 x21 x22 => ej E_f44 n (.tail cd_f44_1) 0 (sg_f44_2 x20 x21 x22) K_f44
theorem st_f44_j2 (m0 n : Nat) : j2_f44 m0 (n + 1) = pack_Put.S2 := by kernel_rfl
theorem J_f44_2 (m0 : Nat) : ∀ n : Nat, j2_f44 m0 n = pack_Put.t2 n :=
  ind rfl fun n _ => st_f44_j2 m0 n
def q_f44_1 (m0 : Nat) : K (ResD R_f44) := sqK E_f44 m0 cd_f44_1 0 K_f44
def q_f44_2 (m0 : Nat) : K (ResD R_f44) := blockK 0 (q_f44_1 m0)
def cd_f44_2 : Code := (lft (lft (rgt (lft (rgt (rgt (rgt (rgt (rgt b_f44)))))))))
def j0_f44 (m0 n : Nat) : Int → D13a → Int → Int → D13a → Int → Int → Option D13g := fun x3 x4 x5 x6 x7 x8 x9 => ej E_f44 n (.loop cd_f44_2) 0 (sg_f44_0 x3 x4 x5 x6 x7 x8 x9) (q_f44_2 m0)
def q_f44_3 (m0 m1 : Nat) : K (ResD R_f44) := lpK E_f44 m1 cd_f44_2 0 (q_f44_2 m0)
def cd_f44_3 : Code := (rgt (rgt (rgt cd_f44_2)))
def q_f44_4 (m0 m1 : Nat) : K (ResD R_f44) := sqK E_f44 m1 cd_f44_3 0 (q_f44_3 m0 m1)
def q_f44_5 (m0 m1 : Nat) : K (ResD R_f44) := blockK 1 (q_f44_4 m0 m1)
def q_f44_6 (m0 m1 : Nat) : K (ResD R_f44) := blockK 2 (q_f44_5 m0 m1)
def cd_f44_4 : Code := (lft (lft (rgt (rgt (lft (lft (rgt (rgt cd_f44_2))))))))
def j1_f44 (m0 m1 n : Nat) : Int → D13a → Int → Int → Int → Int → D13a → Int → Int → Option D13g := fun x10 x11 x12 x13 x14 x15 x16 x17 x18 => ej E_f44 n (.loop cd_f44_4) 2 (sg_f44_1 x10 x11 x12 x13 x14 x15 x16 x17 x18) (q_f44_6 m0 m1)
theorem st_f44_j1 (m0 m1 n : Nat) : j1_f44 m0 m1 (n + 1) = pack_Put.S1 (j0_f44 m0 m1) (j1_f44 m0 m1 n) := by kernel_rfl
theorem J_f44_1 (m0 m1 : Nat) : ∀ n : Nat, j1_f44 m0 m1 n = pack_Put.l1 (j0_f44 m0 m1) n :=
  ind rfl fun n e1 => (st_f44_j1 m0 m1 n).trans (by rw [e1]; rfl)
theorem st_f44_j0 (m0 n : Nat) : j0_f44 m0 (n + 1) = pack_Put.S0 (j2_f44 m0 m0) (j1_f44 m0 n n) := by kernel_rfl
theorem J_f44_0 (m0 : Nat) : ∀ n : Nat, j0_f44 m0 n = pack_Put.l0 (j2_f44 m0 m0) n :=
  ind rfl fun n e0 => by
    have e1 : j1_f44 m0 n n = pack_Put.l1 (pack_Put.l0 (j2_f44 m0 m0) n) n := by rw [← e0]; exact J_f44_1 m0 n n
    rw [st_f44_j0 m0 n, e1]; rfl
theorem st_f44 (m0 : Nat) (x : ArgsD P_f44) : run E_f44 b_f44 m0 x K_f44 = pack_Put.S (j0_f44 m0 m0) x.1 x.2.1 := by kernel_rfl
abbrev sp_f44 : AM.Spec := AM.spec P_f44 R_f44 (fun x => pack_Put x.1 x.2.1)
theorem c_f44 : Contract Tryz.prog 44 sp_f44 := ctrC tabOk (fn := Tryz.f44) (show ∀ x, run E_f44 b_f44 fu x K_f44 = _ from fun x => by
  have e2 : j2_f44 fu fu = pack_Put.t2 fu := J_f44_2 fu fu
  have e0 : j0_f44 fu fu = pack_Put.l0 (pack_Put.t2 fu) fu := by rw [← e2]; exact J_f44_0 fu fu
  refine (st_f44 fu x).trans ?_
  rw [e0]; rfl) (callsOk_of ⟨⟨c_f70, Tryz.call70, fun _ => words_spec rfl⟩, ⟨⟨c_f71, Tryz.call71, fun _ => words_spec rfl⟩, ⟨⟨c_f72, Tryz.call72, fun _ => words_spec rfl⟩, trivial⟩⟩⟩)
abbrev E_f24 : Env := tab.env (AM.look [(41, sp_slices_Clone_t41), (40, sp_f40), (43, sp_f43), (44, sp_f44)]) ⟨[(0, ⟨tt [4, 5, 22, 23, 24], tt [11, 21]⟩)], [], [(11, ⟨tt [4, 5], tt [11, 21]⟩)], ⟨tt [2, 3], tt [11]⟩, [5, 11, 21, 31, 36], [43, 44], [(40, [true])], []⟩
def b_f24 : Code := bd Tryz.f24
abbrev R_f24 : List (Ty × List Tag) := [(.str, []), (k13h, [])]
abbrev P_f24 : List PK := [.val k13h]
abbrev K_f24 : K (ResD R_f24) := fin E_f24 [.tmp 2, .tmp 3] [] R_f24
def sg_f42 (x11 x12 : Nat) (x13 : D13u) (x14 : D13a) : St := mk [(4, .slm 11 0 x11 x12), (5, .slw 21 0)] [(11, some (.arr k13g x13 false)), (21, some (.arr k13b x14 false))]
def sg_f24_0 (x3 x4 : Nat) (x5 : D13u) (x6 x7 : Int) (x8 : D13u) (x9 : D13a) : St := mk [(4, .slm 11 0 x3 x4), (5, .slw 21 0), (22, .dat k13h x5 []), (23, .dat k13b x6 []), (24, .dat k13b x7 [])] [(11, some (.arr k13g x8 false)), (21, some (.arr k13b x9 false))]
def cd_f42 : Code := (rgt (rgt (rgt (rgt (rgt b_f24)))))
def j1_f24 (m0 n : Nat) : Nat → Nat → D13u → D13a → Option D13z := fun x11 x12 x13 x14 => ej E_f24 n (.tail cd_f42) 0 (sg_f42 x11 x12 x13 x14) K_f24
theorem st_f24_j1 (m0 n : Nat) : j1_f24 m0 (n + 1) = nulls_Split.S1 := by kernel_rfl
theorem J_f42 (m0 : Nat) : ∀ n : Nat, j1_f24 m0 n = nulls_Split.t1 n :=
  ind rfl fun n _ => st_f24_j1 m0 n
def q_f42 (m0 : Nat) : K (ResD R_f24) := sqK E_f24 m0 cd_f42 0 K_f24
def q_f24_2 (m0 : Nat) : K (ResD R_f24) := blockK 0 (q_f42 m0)
def cd_f24_2 : Code := (lft (lft (rgt (lft (rgt (rgt (rgt (rgt b_f24))))))))
def j0_f24 (m0 n : Nat) : Nat → Nat → D13u → Int → Int → D13u → D13a → Option D13z := fun x3 x4 x5 x6 x7 x8 x9 => ej E_f24 n (.loop cd_f24_2) 0 (sg_f24_0 x3 x4 x5 x6 x7 x8 x9) (q_f24_2 m0)
theorem st_f24_j0 (m0 n : Nat) : j0_f24 m0 (n + 1) = nulls_Split.S0 (j1_f24 m0 m0) (j0_f24 m0 n) := by kernel_rfl
theorem J_f24_0 (m0 : Nat) : ∀ n : Nat, j0_f24 m0 n = nulls_Split.l0 (j1_f24 m0 m0) n :=
  ind rfl fun n e0 => (st_f24_j0 m0 n).trans (by rw [e0]; rfl)
theorem st_f24 (m0 : Nat) (x : ArgsD P_f24) : run E_f24 b_f24 m0 x K_f24 = nulls_Split.S (j0_f24 m0 m0) x.1 := by kernel_rfl
abbrev sp_f24 : AM.Spec := AM.spec P_f24 R_f24 (fun x => nulls_Split x.1)
theorem c_f24 : Contract Tryz.prog 24 sp_f24 := ctrC tabOk (fn := Tryz.f24) (show ∀ x, run E_f24 b_f24 fu x K_f24 = _ from fun x => by
  have e1 : j1_f24 fu fu = nulls_Split.t1 fu := J_f42 fu fu
  have e0 : j0_f24 fu fu = nulls_Split.l0 (nulls_Split.t1 fu) fu := by rw [← e1]; exact J_f24_0 fu fu
  refine (st_f24 fu x).trans ?_
  rw [e0]; rfl) (callsOk_of ⟨⟨c_slices_Clone_t41, Tryz.call41, nw⟩, ⟨⟨c_f40, Tryz.call40, nw⟩, ⟨⟨c_f43, Tryz.call43, fun _ => words_spec rfl⟩, ⟨⟨c_f44, Tryz.call44, fun _ => words_spec rfl⟩, trivial⟩⟩⟩⟩)
abbrev E_f73 : Env := tab.env (AM.look []) ⟨[(0, ⟨tt [3, 11, 12, 13], []⟩), (2, ⟨tt [3, 6, 11, 12, 13, 19], []⟩)], [], [], ⟨tt [2], []⟩, [], [], [], []⟩
def b_f73 : Code := bd Tryz.f73
abbrev R_f73 : List (Ty × List Tag) := [(.str, [])]
abbrev P_f73 : List PK := [.val k13d]
abbrev K_f73 : K (ResD R_f73) := fin E_f73 [.tmp 2] [] R_f73
def sg_f73_1 (x5 : D13a) (x6 : Int) (x7 : D13a) (x8 x9 x10 : Int) : St := mk [(3, .dat k13c x5 [⟨0, 193, 0, 0⟩]), (6, .dat (.int .u64) x6 []), (11, .dat k13d x7 []), (12, .dat k13b x8 []), (13, .dat k13b x9 []), (19, .dat k13b x10 [])] []
def sg_f73_0 (x1 x2 : D13a) (x3 x4 : Int) : St := mk [(3, .dat k13c x1 [⟨0, 193, 0, 0⟩]), (11, .dat k13d x2 []), (12, .dat k13b x3 []), (13, .dat k13b x4 [])] []
def cd_f73_1 : Code := (rgt (rgt (rgt b_f73)))
def q_f73_1 (m0 : Nat) : K (ResD R_f73) := sqK E_f73 m0 cd_f73_1 0 K_f73
def q_f73_2 (m0 : Nat) : K (ResD R_f73) := blockK 0 (q_f73_1 m0)
def cd_f73_2 : Code := (lft (lft (rgt (lft (rgt (rgt b_f73))))))
def j0_f73 (m0 n : Nat) : D13a → D13a → Int → Int → Option ByteArray := fun x1 x2 x3 x4 => ej E_f73 n (.loop cd_f73_2) 0 (sg_f73_0 x1 x2 x3 x4) (q_f73_2 m0)
def q_f73_3 (m0 m1 : Nat) : K (ResD R_f73) := lpK E_f73 m1 cd_f73_2 0 (q_f73_2 m0)
def cd_f73_3 : Code := (rgt (rgt (rgt cd_f73_2)))
def q_f73_4 (m0 m1 : Nat) : K (ResD R_f73) := sqK E_f73 m1 cd_f73_3 0 (q_f73_3 m0 m1)
def q_f73_5 (m0 m1 : Nat) : K (ResD R_f73) := blockK 1 (q_f73_4 m0 m1)
def q_f73_6 (m0 m1 : Nat) : K (ResD R_f73) := blockK 2 (q_f73_5 m0 m1)
def cd_f73_4 : Code := (lft (lft (rgt (rgt (rgt (lft (lft (rgt (rgt cd_f73_2)))))))))
def j1_f73 (m0 m1 n : Nat) : D13a → Int → D13a → Int → Int → Int → Option ByteArray := fun x5 x6 x7 x8 x9 x10 => ej E_f73 n (.loop cd_f73_4) 2 (sg_f73_1 x5 x6 x7 x8 x9 x10) (q_f73_6 m0 m1)
theorem st_f73_j1 (m0 m1 n : Nat) : j1_f73 m0 m1 (n + 1) = plain_PutInts.S1 (j0_f73 m0 m1) (j1_f73 m0 m1 n) := by kernel_rfl
theorem J_f73_1 (m0 m1 : Nat) : ∀ n : Nat, j1_f73 m0 m1 n = plain_PutInts.l1 (j0_f73 m0 m1) n :=
  ind rfl fun n e1 => (st_f73_j1 m0 m1 n).trans (by rw [e1]; rfl)
theorem st_f73_j0 (m0 n : Nat) : j0_f73 m0 (n + 1) = plain_PutInts.S0 (j1_f73 m0 n n) := by kernel_rfl
theorem J_f73_0 (m0 : Nat) : ∀ n : Nat, j0_f73 m0 n = plain_PutInts.l0 n :=
  ind rfl fun n e0 => by
    have e1 : j1_f73 m0 n n = plain_PutInts.l1 (plain_PutInts.l0 n) n := by rw [← e0]; exact J_f73_1 m0 n n
    rw [st_f73_j0 m0 n, e1]; rfl
theorem st_f73 (m0 : Nat) (x : ArgsD P_f73) : run E_f73 b_f73 m0 x K_f73 = plain_PutInts.S (j0_f73 m0 m0) x.1 := by kernel_rfl
abbrev sp_f73 : AM.Spec := AM.spec P_f73 R_f73 (fun x => plain_PutInts x.1)
theorem c_f73 : Contract Tryz.prog 73 sp_f73 := ctrC tabOk (fn := Tryz.f73) (fun x => (st_f73 fu x).trans (by rw [J_f73_0 fu fu]; rfl)) (callsOk_of trivial)
abbrev E_f75 : Env := tab.env (AM.look []) ⟨[(0, ⟨tt [0, 3, 9, 10, 11], tt [3]⟩)], [], [], ⟨tt [2], tt [2, 3]⟩, [2, 3, 27, 32, 33, 34, 44], [], [], []⟩
def b_f75 : Code := bd Tryz.f75
abbrev R_f75 : List (Ty × List Tag) := [(k13j, [])]
abbrev P_f75 : List PK := [.val k13d]
abbrev K_f75 : K (ResD R_f75) := fin E_f75 [.tmp 2] [] R_f75
def sg_f75_0 (x1 x2 : D13a) (x3 x4 : Int) (x5 : D13o) : St := mk [(0, .dat k13d x1 []), (3, .slw 3 0), (9, .dat k13d x2 []), (10, .dat k13b x3 []), (11, .dat k13b x4 [])] [(3, some (.arr k13i x5 false))]
def cd_f75_1 : Code := (rgt (rgt (rgt (rgt b_f75))))
def q_f75_1 (m0 : Nat) : K (ResD R_f75) := sqK E_f75 m0 cd_f75_1 0 K_f75
def q_f75_2 (m0 : Nat) : K (ResD R_f75) := blockK 0 (q_f75_1 m0)
def cd_f75_2 : Code := (lft (lft (rgt (lft (rgt (rgt (rgt b_f75)))))))
def j0_f75 (m0 n : Nat) : D13a → D13a → Int → Int → D13o → Option D13q := fun x1 x2 x3 x4 x5 => ej E_f75 n (.loop cd_f75_2) 0 (sg_f75_0 x1 x2 x3 x4 x5) (q_f75_2 m0)
theorem st_f75_j0 (m0 n : Nat) : j0_f75 m0 (n + 1) = runs_Of.S0 (j0_f75 m0 n) := by kernel_rfl
theorem J_f75_0 (m0 : Nat) : ∀ n : Nat, j0_f75 m0 n = runs_Of.l0 n :=
  ind rfl fun n e0 => (st_f75_j0 m0 n).trans (by rw [e0]; rfl)
theorem st_f75 (m0 : Nat) (x : ArgsD P_f75) : run E_f75 b_f75 m0 x K_f75 = runs_Of.S (j0_f75 m0 m0) x.1 := by kernel_rfl
abbrev sp_f75 : AM.Spec := AM.spec P_f75 R_f75 (fun x => runs_Of x.1)
theorem c_f75 : Contract Tryz.prog 75 sp_f75 := ctrC tabOk (fn := Tryz.f75) (fun x => (st_f75 fu x).trans (by rw [J_f75_0 fu fu]; rfl)) (callsOk_of trivial)
abbrev E_f106 : Env := tab.env (AM.look []) ⟨[(0, ⟨tt [0, 4, 7, 8, 9], []⟩)], [], [], ⟨tt [2, 3], []⟩, [], [], [], []⟩
def b_f106 : Code := bd Tryz.f106
abbrev R_f106 : List (Ty × List Tag) := [(k13b, []), (.bool, [])]
abbrev P_f106 : List PK := [.val k13j]
abbrev K_f106 : K (ResD R_f106) := fin E_f106 [.tmp 2, .tmp 3] [] R_f106
def sg_f106_0 (x1 : D13o) (x2 : Int) (x3 : D13o) (x4 x5 : Int) : St := mk [(0, .dat k13j x1 []), (4, .dat k13b x2 []), (7, .dat k13j x3 []), (8, .dat k13b x4 []), (9, .dat k13b x5 [])] []
def cd_f106_1 : Code := (rgt (rgt (rgt b_f106)))
def q_f106_1 (m0 : Nat) : K (ResD R_f106) := sqK E_f106 m0 cd_f106_1 0 K_f106
def q_f106_2 (m0 : Nat) : K (ResD R_f106) := blockK 0 (q_f106_1 m0)
def cd_f106_2 : Code := (lft (lft (rgt (lft (rgt (rgt b_f106))))))
def j0_f106 (m0 n : Nat) : D13o → Int → D13o → Int → Int → Option (Int × Bool) := fun x1 x2 x3 x4 x5 => ej E_f106 n (.loop cd_f106_2) 0 (sg_f106_0 x1 x2 x3 x4 x5) (q_f106_2 m0)
theorem st_f106_j0 (m0 n : Nat) : j0_f106 m0 (n + 1) = runs_count.S0 (j0_f106 m0 n) := by kernel_rfl
theorem J_f106_0 (m0 : Nat) : ∀ n : Nat, j0_f106 m0 n = runs_count.l0 n :=
  ind rfl fun n e0 => (st_f106_j0 m0 n).trans (by rw [e0]; rfl)
theorem st_f106 (m0 : Nat) (x : ArgsD P_f106) : run E_f106 b_f106 m0 x K_f106 = runs_count.S (j0_f106 m0 m0) x.1 := by kernel_rfl
abbrev sp_f106 : AM.Spec := AM.spec P_f106 R_f106 (fun x => runs_count x.1)
theorem c_f106 : Contract Tryz.prog 106 sp_f106 := ctrC tabOk (fn := Tryz.f106) (fun x => (st_f106 fu x).trans (by rw [J_f106_0 fu fu]; rfl)) (callsOk_of trivial)
abbrev E_f118 : Env := tab.env (AM.look []) ⟨[], [], [], ⟨tt [2], []⟩, [], [], [], []⟩
def b_f118 : Code := bd Tryz.f118
abbrev R_f118 : List (Ty × List Tag) := [(k13b, [])]
abbrev P_f118 : List PK := [.val k13b]
abbrev K_f118 : K (ResD R_f118) := fin E_f118 [.tmp 2] [] R_f118
abbrev sp_f118 : AM.Spec := AM.spec P_f118 R_f118 (fun x => some (bits_Zig x.1))
theorem c_f118 : Contract Tryz.prog 118 sp_f118 := ctrC tabOk (fn := Tryz.f118) (show ∀ x, run E_f118 b_f118 fu x K_f118 = _ from fun x => by kernel_rfl) (callsOk_of trivial)
abbrev E_f81 : Env := tab.env (AM.look [(118, sp_f118)]) ⟨[(0, ⟨tt [3, 4, 5], tt [3]⟩)], [], [(7, ⟨tt [3, 4, 5], tt [3]⟩)], ⟨tt [2], []⟩, [], [118], [], []⟩
def b_f81 : Code := bd Tryz.f81
abbrev R_f81 : List (Ty × List Tag) := [(.str, [])]
abbrev P_f81 : List PK := [.val k13b]
abbrev K_f81 : K (ResD R_f81) := fin E_f81 [.tmp 2] [] R_f81
def sg_f81_1 (x5 x6 : Int) (x7 : D13a) : St := mk [(3, .ptr 3 0 0), (4, .dat (.int .u64) x5 []), (5, .dat k13b x6 [])] [(3, some (.arr (.int .u8) x7 false))]
def sg_f81_0 (x2 x3 : Int) (x4 : D13a) : St := mk [(3, .ptr 3 0 0), (4, .dat (.int .u64) x2 []), (5, .dat k13b x3 [])] [(3, some (.arr (.int .u8) x4 false))]
def cd_f81_1 : Code := (rgt (rgt (rgt (rgt b_f81))))
def j1_f81 (m0 n : Nat) : Int → Int → D13a → Option ByteArray := fun x5 x6 x7 => ej E_f81 n (.tail cd_f81_1) 0 (sg_f81_1 x5 x6 x7) K_f81
theorem st_f81_j1 (m0 n : Nat) : j1_f81 m0 (n + 1) = vint_Put.S1 := by kernel_rfl
theorem J_f81_1 (m0 : Nat) : ∀ n : Nat, j1_f81 m0 n = vint_Put.t1 n :=
  ind rfl fun n _ => st_f81_j1 m0 n
def q_f81_1 (m0 : Nat) : K (ResD R_f81) := sqK E_f81 m0 cd_f81_1 0 K_f81
def q_f81_2 (m0 : Nat) : K (ResD R_f81) := blockK 0 (q_f81_1 m0)
def cd_f81_2 : Code := (lft (lft (lft (rgt (rgt (rgt b_f81))))))
def j0_f81 (m0 n : Nat) : Int → Int → D13a → Option ByteArray := fun x2 x3 x4 => ej E_f81 n (.loop cd_f81_2) 0 (sg_f81_0 x2 x3 x4) (q_f81_2 m0)
theorem st_f81_j0 (m0 n : Nat) : j0_f81 m0 (n + 1) = vint_Put.S0 (j1_f81 m0 m0) (j0_f81 m0 n) := by kernel_rfl
theorem J_f81_0 (m0 : Nat) : ∀ n : Nat, j0_f81 m0 n = vint_Put.l0 (j1_f81 m0 m0) n :=
  ind rfl fun n e0 => (st_f81_j0 m0 n).trans (by rw [e0]; rfl)
theorem st_f81 (m0 : Nat) (x : ArgsD P_f81) : run E_f81 b_f81 m0 x K_f81 = vint_Put.S (j0_f81 m0 m0) x.1 := by kernel_rfl
abbrev sp_f81 : AM.Spec := AM.spec P_f81 R_f81 (fun x => vint_Put x.1)
theorem c_f81 : Contract Tryz.prog 81 sp_f81 := ctrC tabOk (fn := Tryz.f81) (show ∀ x, run E_f81 b_f81 fu x K_f81 = _ from fun x => by
  have e1 : j1_f81 fu fu = vint_Put.t1 fu := J_f81_1 fu fu
  have e0 : j0_f81 fu fu = vint_Put.l0 (vint_Put.t1 fu) fu := by rw [← e1]; exact J_f81_0 fu fu
  refine (st_f81 fu x).trans ?_
  rw [e0]; rfl) (callsOk_of ⟨⟨c_f118, Tryz.call118, fun _ => words_spec rfl⟩, trivial⟩)
abbrev E_f107 : Env := tab.env (AM.look [(138, sp_bld_check)]) ⟨[], [], [], ⟨tt [4, 5], tt [1000000]⟩, [], [], [], []⟩
def b_f107 : Code := bd Tryz.f107
abbrev R_f107 : List (Ty × List Tag) := [(k13b, []), ((.lk true), []), ((.pair (.lk false) k13c), [⟨1, 1, 0, 0⟩])]
abbrev P_f107 : List PK := [.io (.pair (.lk false) k13c) [(1, 0)], .val .str]
abbrev K_f107 : K (ResD R_f107) := fin E_f107 [.tmp 4, .tmp 5] [.io (.pair (.lk false) k13c) [(1, 0)]] R_f107
abbrev sp_f107 : AM.Spec := AM.specIo 2 P_f107 R_f107 (fun x => strings_Builder_WriteString_w1 x.1 x.2.1)
theorem c_f107 : Contract Tryz.prog 107 sp_f107 := ctrI tabOk (fn := Tryz.f107) (show ∀ x, run E_f107 b_f107 fu x K_f107 = _ from fun x => by kernel_rfl) (callsOk_of ⟨⟨c_bld_check, Tryz.call138, nw⟩, trivial⟩)
abbrev E_f74 : Env := tab.env (AM.look [(106, sp_f106), (81, sp_f81), (107, sp_f107), (108, sp_bld_String)]) ⟨[(0, ⟨tt [6, 16, 17, 18], tt [6]⟩)], [], [], ⟨tt [2, 3], []⟩, [], [81, 106], [], []⟩
def b_f74 : Code := bd Tryz.f74
abbrev R_f74 : List (Ty × List Tag) := [(.str, []), (k13b, [])]
abbrev P_f74 : List PK := [.val k13j]
abbrev K_f74 : K (ResD R_f74) := fin E_f74 [.tmp 2, .tmp 3] [] R_f74
def sg_f74_0 (x2 : D13o) (x3 x4 : Int) (x5 : D13j) : St := mk [(6, .ptr 6 0 0), (16, .dat k13j x2 []), (17, .dat k13b x3 []), (18, .dat k13b x4 [])] [(6, some (.var (.pair (.lk false) k13c) x5 [⟨1, 64386, 0, 0⟩]))]
def cd_f74_1 : Code := (rgt (rgt (rgt (rgt b_f74))))
def q_f74_1 (m0 : Nat) : K (ResD R_f74) := sqK E_f74 m0 cd_f74_1 0 K_f74
def q_f74_2 (m0 : Nat) : K (ResD R_f74) := blockK 0 (q_f74_1 m0)
def cd_f74_2 : Code := (lft (lft (rgt (lft (rgt (rgt (rgt b_f74)))))))
def j0_f74 (m0 n : Nat) : D13o → Int → Int → D13j → Option D13g := fun x2 x3 x4 x5 => ej E_f74 n (.loop cd_f74_2) 0 (sg_f74_0 x2 x3 x4 x5) (q_f74_2 m0)
theorem st_f74_j0 (m0 n : Nat) : j0_f74 m0 (n + 1) = runs_Put.S0 (j0_f74 m0 n) := by kernel_rfl
theorem J_f74_0 (m0 : Nat) : ∀ n : Nat, j0_f74 m0 n = runs_Put.l0 n :=
  ind rfl fun n e0 => (st_f74_j0 m0 n).trans (by rw [e0]; rfl)
theorem st_f74 (m0 : Nat) (x : ArgsD P_f74) : run E_f74 b_f74 m0 x K_f74 = runs_Put.S (j0_f74 m0 m0) x.1 := by kernel_rfl
abbrev sp_f74 : AM.Spec := AM.spec P_f74 R_f74 (fun x => runs_Put x.1)
theorem c_f74 : Contract Tryz.prog 74 sp_f74 := ctrC tabOk (fn := Tryz.f74) (fun x => (st_f74 fu x).trans (by rw [J_f74_0 fu fu]; rfl)) (callsOk_of ⟨⟨c_f106, Tryz.call106, fun _ => words_spec rfl⟩, ⟨⟨c_f81, Tryz.call81, fun _ => words_spec rfl⟩, ⟨⟨c_f107, Tryz.call107, nw⟩, ⟨⟨c_bld_String, Tryz.call108, nw⟩, trivial⟩⟩⟩⟩)
abbrev E_f139 : Env := tab.env (AM.look []) ⟨[], [], [], ⟨tt [4], []⟩, [], [], [], []⟩
def b_f139 : Code := bd Tryz.f139
abbrev R_f139 : List (Ty × List Tag) := [(k13b, [])]
abbrev P_f139 : List PK := [.val k13b, .val k13b]
abbrev K_f139 : K (ResD R_f139) := fin E_f139 [.tmp 4] [] R_f139
abbrev sp_f139 : AM.Spec := AM.spec P_f139 R_f139 (fun x => some (frame_far x.1 x.2.1))
theorem c_f139 : Contract Tryz.prog 139 sp_f139 := ctrC tabOk (fn := Tryz.f139) (show ∀ x, run E_f139 b_f139 fu x K_f139 = _ from fun x => by kernel_rfl) (callsOk_of trivial)
abbrev E_f140 : Env := tab.env (AM.look []) ⟨[(0, ⟨tt [0, 3, 4], []⟩)], [], [(3, ⟨tt [0], []⟩)], ⟨tt [2], []⟩, [], [], [], []⟩
def b_f140 : Code := bd Tryz.f140
abbrev R_f140 : List (Ty × List Tag) := [(k13b, [])]
abbrev P_f140 : List PK := [.val k13d]
abbrev K_f140 : K (ResD R_f140) := fin E_f140 [.tmp 2] [] R_f140
def sg_f140_1 (x2 : D13a) (x3 x4 : Int) : St := mk [(0, .dat k13d x2 []), (3, .dat k13b x3 []), (4, .dat k13b x4 [])] []
def sg_f140_0 (x1 : D13a) : St := mk [(0, .dat k13d x1 [])] []
def cd_f140_1 : Code := (rgt (rgt (rgt (rgt b_f140))))
def q_f140_1 (m0 m1 : Nat) : K (ResD R_f140) := sqK E_f140 m1 cd_f140_1 0 K_f140
def q_f140_2 (m0 m1 : Nat) : K (ResD R_f140) := blockK 0 (q_f140_1 m0 m1)
def cd_f140_2 : Code := (lft (lft (rgt (lft (rgt (rgt (rgt b_f140)))))))
def j1_f140 (m0 m1 n : Nat) : D13a → Int → Int → Option Int := fun x2 x3 x4 => ej E_f140 n (.loop cd_f140_2) 0 (sg_f140_1 x2 x3 x4) (q_f140_2 m0 m1)
theorem st_f140_j1 (m0 m1 n : Nat) : j1_f140 m0 m1 (n + 1) = slices_Min_int_int.S1 (j1_f140 m0 m1 n) := by kernel_rfl
theorem J_f140_1 (m0 m1 : Nat) : ∀ n : Nat, j1_f140 m0 m1 n = slices_Min_int_int.l1 n :=
  ind rfl fun n e1 => (st_f140_j1 m0 m1 n).trans (by rw [e1]; rfl)
def cd_f140_3 : Code := (rgt (rgt b_f140))
def j0_f140 (m0 n : Nat) : D13a → Option Int := fun x1 => ej E_f140 n (.tail cd_f140_3) 0 (sg_f140_0 x1) K_f140
theorem st_f140_j0 (m0 n : Nat) : j0_f140 m0 (n + 1) = slices_Min_int_int.S0 (j1_f140 m0 n n) := by kernel_rfl
theorem J_f140_0 (m0 : Nat) : ∀ n : Nat, j0_f140 m0 n = slices_Min_int_int.t0 n :=
  ind rfl fun n e0 => by
    have e1 : j1_f140 m0 n n = slices_Min_int_int.l1 n := J_f140_1 m0 n n
    rw [st_f140_j0 m0 n, e1]; rfl
theorem st_f140 (m0 : Nat) (x : ArgsD P_f140) : run E_f140 b_f140 m0 x K_f140 = slices_Min_int_int.S (j0_f140 m0 m0) x.1 := by kernel_rfl
abbrev sp_f140 : AM.Spec := AM.spec P_f140 R_f140 (fun x => slices_Min_int_int x.1)
theorem c_f140 : Contract Tryz.prog 140 sp_f140 := ctrC tabOk (fn := Tryz.f140) (fun x => (st_f140 fu x).trans (by rw [J_f140_0 fu fu]; rfl)) (callsOk_of trivial)
abbrev E_f109 : Env := tab.env (AM.look [(139, sp_f139), (140, sp_f140)]) ⟨[(0, ⟨tt [0, 4, 5], tt [10]⟩), (2, ⟨tt [4, 6, 33, 34], tt [10]⟩)], [], [(6, ⟨tt [4], tt [10]⟩)], ⟨tt [2, 3], tt [10]⟩, [2, 4, 10, 17, 29, 30, 32, 37, 40, 47], [139, 140], [], [28]⟩
def b_f109 : Code := bd Tryz.f109
abbrev R_f109 : List (Ty × List Tag) := [(k13d, []), (k13b, [])]
abbrev P_f109 : List PK := [.val k13d]
abbrev K_f109 : K (ResD R_f109) := fin E_f109 [.tmp 2, .tmp 3] [] R_f109
def sg_f109_2 (x7 x8 x9 : Int) (x10 : D13a) : St := mk [(4, .slw 10 0), (6, .dat k13b x7 []), (33, .dat k13b x8 []), (34, .dat k13b x9 [])] [(10, some (.arr k13b x10 false))]
def sg_f109_1 (x5 : D13a) : St := mk [(4, .slw 10 0)] [(10, some (.arr k13b x5 false))]
def sg_f109_0 (x1 : D13a) (x2 : Int) (x3 : D13a) : St := mk [(0, .dat k13d x1 []), (4, .slw 10 0), (5, .dat k13b x2 [])] [(10, some (.arr k13b x3 false))]
def cd_f109_1 : Code := (rgt (rgt (rgt (rgt (rgt b_f109)))))
def q_f109_1 (m0 m1 : Nat) : K (ResD R_f109) := sqK E_f109 m1 cd_f109_1 0 K_f109
def q_f109_2 (m0 m1 : Nat) : K (ResD R_f109) := blockK 2 (q_f109_1 m0 m1)
def cd_f109_2 : Code := (lft (lft (rgt (lft (rgt (rgt (rgt (rgt b_f109))))))))
def j2_f109 (m0 m1 n : Nat) : Int → Int → Int → D13a → Option D13h := fun x7 x8 x9 x10 => ej E_f109 n (.loop cd_f109_2) 2 (sg_f109_2 x7 x8 x9 x10) (q_f109_2 m0 m1)
theorem st_f109_j2 (m0 m1 n : Nat) : j2_f109 m0 m1 (n + 1) = frame_steps.S2 (j2_f109 m0 m1 n) := by kernel_rfl
theorem J_f109_2 (m0 m1 : Nat) : ∀ n : Nat, j2_f109 m0 m1 n = frame_steps.l2 n :=
  ind rfl fun n e2 => (st_f109_j2 m0 m1 n).trans (by rw [e2]; rfl)
def cd_f109_3 : Code := (rgt (rgt (rgt b_f109)))
def j1_f109 (m0 n : Nat) : D13a → Option D13h := fun x5 => ej E_f109 n (.tail cd_f109_3) 0 (sg_f109_1 x5) K_f109
theorem st_f109_j1 (m0 n : Nat) : j1_f109 m0 (n + 1) = frame_steps.S1 (j2_f109 m0 n n) := by kernel_rfl
theorem J_f109_1 (m0 : Nat) : ∀ n : Nat, j1_f109 m0 n = frame_steps.t1 n :=
  ind rfl fun n e1 => by
    have e2 : j2_f109 m0 n n = frame_steps.l2 n := J_f109_2 m0 n n
    rw [st_f109_j1 m0 n, e2]; rfl
def q_f109_3 (m0 : Nat) : K (ResD R_f109) := sqK E_f109 m0 cd_f109_3 0 K_f109
def q_f109_4 (m0 : Nat) : K (ResD R_f109) := blockK 0 (q_f109_3 m0)
def cd_f109_4 : Code := (lft (lft (rgt (lft (rgt (rgt b_f109))))))
def j0_f109 (m0 n : Nat) : D13a → Int → D13a → Option D13h := fun x1 x2 x3 => ej E_f109 n (.loop cd_f109_4) 0 (sg_f109_0 x1 x2 x3) (q_f109_4 m0)
theorem st_f109_j0 (m0 n : Nat) : j0_f109 m0 (n + 1) = frame_steps.S0 (j1_f109 m0 m0) (j0_f109 m0 n) := by kernel_rfl
theorem J_f109_0 (m0 : Nat) : ∀ n : Nat, j0_f109 m0 n = frame_steps.l0 (j1_f109 m0 m0) n :=
  ind rfl fun n e0 => (st_f109_j0 m0 n).trans (by rw [e0]; rfl)
theorem st_f109 (m0 : Nat) (x : ArgsD P_f109) : run E_f109 b_f109 m0 x K_f109 = frame_steps.S (j0_f109 m0 m0) x.1 := by kernel_rfl
abbrev sp_f109 : AM.Spec := AM.spec P_f109 R_f109 (fun x => frame_steps x.1)
theorem c_f109 : Contract Tryz.prog 109 sp_f109 := ctrC tabOk (fn := Tryz.f109) (show ∀ x, run E_f109 b_f109 fu x K_f109 = _ from fun x => by
  have e1 : j1_f109 fu fu = frame_steps.t1 fu := J_f109_1 fu fu
  have e0 : j0_f109 fu fu = frame_steps.l0 (frame_steps.t1 fu) fu := by rw [← e1]; exact J_f109_0 fu fu
  refine (st_f109 fu x).trans ?_
  rw [e0]; rfl) (callsOk_of ⟨⟨c_f139, Tryz.call139, fun _ => words_spec rfl⟩, ⟨⟨c_f140, Tryz.call140, fun _ => words_spec rfl⟩, trivial⟩⟩)
abbrev E_f76 : Env := tab.env (AM.look [(81, sp_f81), (109, sp_f109), (70, sp_f70), (44, sp_f44)]) ⟨[], [], [], ⟨tt [2, 3], []⟩, [], [44, 70, 81], [], [47]⟩
def b_f76 : Code := bd Tryz.f76
abbrev R_f76 : List (Ty × List Tag) := [(.str, []), (k13b, [])]
abbrev P_f76 : List PK := [.val k13d]
abbrev K_f76 : K (ResD R_f76) := fin E_f76 [.tmp 2, .tmp 3] [] R_f76
abbrev sp_f76 : AM.Spec := AM.spec P_f76 R_f76 (fun x => frame_Put x.1)
theorem c_f76 : Contract Tryz.prog 76 sp_f76 := ctrC tabOk (fn := Tryz.f76) (show ∀ x, run E_f76 b_f76 fu x K_f76 = _ from fun x => by kernel_rfl) (callsOk_of ⟨⟨c_f81, Tryz.call81, fun _ => words_spec rfl⟩, ⟨⟨c_f109, Tryz.call109, nw⟩, ⟨⟨c_f70, Tryz.call70, fun _ => words_spec rfl⟩, ⟨⟨c_f44, Tryz.call44, fun _ => words_spec rfl⟩, trivial⟩⟩⟩⟩)
abbrev E_f200 : Env := tab.env (AM.look []) ⟨[], [], [], ⟨tt [2], []⟩, [], [], [], []⟩
def b_f200 : Code := bd Tryz.f200
abbrev R_f200 : List (Ty × List Tag) := [(.bool, [])]
abbrev P_f200 : List PK := [.val k13b]
abbrev K_f200 : K (ResD R_f200) := fin E_f200 [.tmp 2] [] R_f200
abbrev sp_f200 : AM.Spec := AM.spec P_f200 R_f200 (fun x => some (cmp_isNaN_int x.1))
theorem c_f200 : Contract Tryz.prog 200 sp_f200 := ctrC tabOk (fn := Tryz.f200) (show ∀ x, run E_f200 b_f200 fu x K_f200 = _ from fun x => by kernel_rfl) (callsOk_of trivial)
abbrev E_f182 : Env := tab.env (AM.look [(200, sp_f200)]) ⟨[], [], [], ⟨tt [4], []⟩, [], [200], [], []⟩
def b_f182 : Code := bd Tryz.f182
abbrev R_f182 : List (Ty × List Tag) := [(.bool, [])]
abbrev P_f182 : List PK := [.val k13b, .val k13b]
abbrev K_f182 : K (ResD R_f182) := fin E_f182 [.tmp 4] [] R_f182
theorem st_f182_o (m0 : Nat) (x : ArgsD P_f182) : run E_f182 b_f182 m0 x K_f182 = cmp_Less_int.o x.1 x.2.1 := by kernel_rfl
theorem st_f182 (m0 : Nat) (x : ArgsD P_f182) : run E_f182 b_f182 m0 x K_f182 = some (cmp_Less_int x.1 x.2.1) := (st_f182_o m0 x).trans (by unfold cmp_Less_int.o cmp_Less_int; simp only [cond_some])
abbrev sp_f182 : AM.Spec := AM.spec P_f182 R_f182 (fun x => some (cmp_Less_int x.1 x.2.1))
theorem c_f182 : Contract Tryz.prog 182 sp_f182 := ctrC tabOk (fn := Tryz.f182) (fun x => st_f182 fu x) (callsOk_of ⟨⟨c_f200, Tryz.call200, fun _ => words_spec rfl⟩, trivial⟩)
abbrev E_f183 : Env := tab.env (AM.look []) ⟨[], [], [], ⟨tt [2], []⟩, [], [], [], []⟩
def b_f183 : Code := bd Tryz.f183
abbrev R_f183 : List (Ty × List Tag) := [(.bool, [])]
abbrev P_f183 : List PK := [.val k13b]
abbrev K_f183 : K (ResD R_f183) := fin E_f183 [.tmp 2] [] R_f183
abbrev sp_f183 : AM.Spec := AM.spec P_f183 R_f183 (fun x => some (slices_isNaN_int x.1))
theorem c_f183 : Contract Tryz.prog 183 sp_f183 := ctrC tabOk (fn := Tryz.f183) (show ∀ x, run E_f183 b_f183 fu x K_f183 = _ from fun x => by kernel_rfl) (callsOk_of trivial)
abbrev E_f163 : Env := tab.env (AM.look [(182, sp_f182), (183, sp_f183)]) ⟨[(0, ⟨tt [0, 1, 6, 7, 8], []⟩)], [], [(8, ⟨tt [0, 1, 6, 7], []⟩)], ⟨tt [4, 5], []⟩, [], [182, 183], [], []⟩
def b_f163 : Code := bd Tryz.f163
abbrev R_f163 : List (Ty × List Tag) := [(k13b, []), (.bool, [])]
abbrev P_f163 : List PK := [.val k13d, .val k13b]
abbrev K_f163 : K (ResD R_f163) := fin E_f163 [.tmp 4, .tmp 5] [] R_f163
def sg_f163_1 (x7 : D13a) (x8 x9 x10 : Int) : St := mk [(0, .dat k13d x7 []), (1, .dat k13b x8 []), (6, .dat k13b x9 []), (7, .dat k13b x10 [])] []
def sg_f163_0 (x1 : D13a) (x2 x3 : Int) (x4 x5 : Int) : St := mk [(0, .dat k13d x1 []), (1, .dat k13b x2 []), (6, .dat k13b x3 []), (7, .dat k13b x4 []), (8, .dat k13b x5 [])] []
def cd_f163_1 : Code := (rgt (rgt (rgt (rgt b_f163))))
def j1_f163 (m0 n : Nat) : D13a → Int → Int → Int → Option (Int × Bool) := fun x7 x8 x9 x10 => ej E_f163 n (.tail cd_f163_1) 0 (sg_f163_1 x7 x8 x9 x10) K_f163
theorem st_f163_j1 (m0 n : Nat) : j1_f163 m0 (n + 1) = slices_BinarySearch_int_int.S1 := by kernel_rfl
theorem J_f163_1 (m0 : Nat) : ∀ n : Nat, j1_f163 m0 n = slices_BinarySearch_int_int.t1 n :=
  ind rfl fun n _ => st_f163_j1 m0 n
def q_f163_1 (m0 : Nat) : K (ResD R_f163) := sqK E_f163 m0 cd_f163_1 0 K_f163
def q_f163_2 (m0 : Nat) : K (ResD R_f163) := blockK 0 (q_f163_1 m0)
def cd_f163_2 : Code := (lft (lft (lft (rgt (rgt (rgt b_f163))))))
def j0_f163 (m0 n : Nat) : D13a → Int → Int → Int → Int → Option (Int × Bool) := fun x1 x2 x3 x4 x5 => ej E_f163 n (.loop cd_f163_2) 0 (sg_f163_0 x1 x2 x3 x4 x5) (q_f163_2 m0)
theorem st_f163_j0 (m0 n : Nat) : j0_f163 m0 (n + 1) = slices_BinarySearch_int_int.S0 (j1_f163 m0 m0) (j0_f163 m0 n) := by kernel_rfl
theorem J_f163_0 (m0 : Nat) : ∀ n : Nat, j0_f163 m0 n = slices_BinarySearch_int_int.l0 (j1_f163 m0 m0) n :=
  ind rfl fun n e0 => (st_f163_j0 m0 n).trans (by rw [e0]; rfl)
theorem st_f163 (m0 : Nat) (x : ArgsD P_f163) : run E_f163 b_f163 m0 x K_f163 = slices_BinarySearch_int_int.S (j0_f163 m0 m0) x.1 x.2.1 := by kernel_rfl
abbrev sp_f163 : AM.Spec := AM.spec P_f163 R_f163 (fun x => slices_BinarySearch_int_int x.1 x.2.1)
theorem c_f163 : Contract Tryz.prog 163 sp_f163 := ctrC tabOk (fn := Tryz.f163) (show ∀ x, run E_f163 b_f163 fu x K_f163 = _ from fun x => by
  have e1 : j1_f163 fu fu = slices_BinarySearch_int_int.t1 fu := J_f163_1 fu fu
  have e0 : j0_f163 fu fu = slices_BinarySearch_int_int.l0 (slices_BinarySearch_int_int.t1 fu) fu := by rw [← e1]; exact J_f163_0 fu fu
  refine (st_f163 fu x).trans ?_
  rw [e0]; rfl) (callsOk_of ⟨⟨c_f182, Tryz.call182, fun _ => words_spec rfl⟩, ⟨⟨c_f183, Tryz.call183, fun _ => words_spec rfl⟩, trivial⟩⟩)
abbrev E_f141 : Env := tab.env (AM.look [(160, sp_slices_Clone_int), (161, sp_slices_Sort_int), (162, sp_slices_Compact_int), (163, sp_f163)]) ⟨[(0, ⟨tt [4, 5, 16, 17, 18], tt [11]⟩)], [], [], ⟨tt [2, 3], tt [11]⟩, [2, 4, 11, 12, 14, 15, 23, 33], [163], [(161, [true]), (162, [true])], []⟩
def b_f141 : Code := bd Tryz.f141
abbrev R_f141 : List (Ty × List Tag) := [(k13d, []), (k13d, [⟨0, 1, 0, 1⟩])]
abbrev P_f141 : List PK := [.val k13d]
abbrev K_f141 : K (ResD R_f141) := fin E_f141 [.tmp 2, .tmp 3] [] R_f141
def sg_f141_0 (x4 x5 : Nat) (x6 x7 : D13a) (x8 x9 : Int) (x10 : D13a) : St := mk [(4, .slm 11 0 x4 x5), (5, .dat k13d x6 [⟨0, 321, 0, 1⟩]), (16, .dat k13d x7 []), (17, .dat k13b x8 []), (18, .dat k13b x9 [])] [(11, some (.arr k13b x10 false))]
def cd_f141_1 : Code := (rgt (rgt (rgt (rgt (rgt (rgt b_f141))))))
def q_f141_1 (m0 : Nat) : K (ResD R_f141) := sqK E_f141 m0 cd_f141_1 0 K_f141
def q_f141_2 (m0 : Nat) : K (ResD R_f141) := blockK 0 (q_f141_1 m0)
def cd_f141_2 : Code := (lft (lft (rgt (lft (rgt (rgt (rgt (rgt (rgt b_f141)))))))))
def j0_f141 (m0 n : Nat) : Nat → Nat → D13a → D13a → Int → Int → D13a → Option D13n := fun x4 x5 x6 x7 x8 x9 x10 => ej E_f141 n (.loop cd_f141_2) 0 (sg_f141_0 x4 x5 x6 x7 x8 x9 x10) (q_f141_2 m0)
theorem st_f141_j0 (m0 n : Nat) : j0_f141 m0 (n + 1) = dict_Of_int.S0 (j0_f141 m0 n) := by kernel_rfl
theorem J_f141_0 (m0 : Nat) : ∀ n : Nat, j0_f141 m0 n = dict_Of_int.l0 n :=
  ind rfl fun n e0 => (st_f141_j0 m0 n).trans (by rw [e0]; rfl)
theorem st_f141 (m0 : Nat) (x : ArgsD P_f141) : run E_f141 b_f141 m0 x K_f141 = dict_Of_int.S (j0_f141 m0 m0) x.1 := by kernel_rfl
abbrev sp_f141 : AM.Spec := AM.spec P_f141 R_f141 (fun x => dict_Of_int x.1)
theorem c_f141 : Contract Tryz.prog 141 sp_f141 := ctrC tabOk (fn := Tryz.f141) (fun x => (st_f141 fu x).trans (by rw [J_f141_0 fu fu]; rfl)) (callsOk_of ⟨⟨c_slices_Clone_int, Tryz.call160, nw⟩, ⟨⟨c_slices_Sort_int, Tryz.call161, nw⟩, ⟨⟨c_slices_Compact_int, Tryz.call162, nw⟩, ⟨⟨c_f163, Tryz.call163, fun _ => words_spec rfl⟩, trivial⟩⟩⟩⟩)
abbrev E_f111 : Env := tab.env (AM.look [(81, sp_f81), (107, sp_f107), (108, sp_bld_String)]) ⟨[(0, ⟨tt [4, 7, 8, 9], tt [4]⟩)], [], [], ⟨tt [2, 3], []⟩, [], [81], [], []⟩
def b_f111 : Code := bd Tryz.f111
abbrev R_f111 : List (Ty × List Tag) := [(.str, []), (k13b, [])]
abbrev P_f111 : List PK := [.val k13d]
abbrev K_f111 : K (ResD R_f111) := fin E_f111 [.tmp 2, .tmp 3] [] R_f111
def sg_f111_0 (x1 : D13a) (x2 x3 : Int) (x4 : D13j) : St := mk [(4, .ptr 4 0 0), (7, .dat k13d x1 []), (8, .dat k13b x2 []), (9, .dat k13b x3 [])] [(4, some (.var (.pair (.lk false) k13c) x4 [⟨1, 64258, 0, 0⟩]))]
def cd_f111_1 : Code := (rgt (rgt (rgt b_f111)))
def q_f111_1 (m0 : Nat) : K (ResD R_f111) := sqK E_f111 m0 cd_f111_1 0 K_f111
def q_f111_2 (m0 : Nat) : K (ResD R_f111) := blockK 0 (q_f111_1 m0)
def cd_f111_2 : Code := (lft (lft (rgt (lft (rgt (rgt b_f111))))))
def j0_f111 (m0 n : Nat) : D13a → Int → Int → D13j → Option D13g := fun x1 x2 x3 x4 => ej E_f111 n (.loop cd_f111_2) 0 (sg_f111_0 x1 x2 x3 x4) (q_f111_2 m0)
theorem st_f111_j0 (m0 n : Nat) : j0_f111 m0 (n + 1) = dict_ints.S0 (j0_f111 m0 n) := by kernel_rfl
theorem J_f111_0 (m0 : Nat) : ∀ n : Nat, j0_f111 m0 n = dict_ints.l0 n :=
  ind rfl fun n e0 => (st_f111_j0 m0 n).trans (by rw [e0]; rfl)
theorem st_f111 (m0 : Nat) (x : ArgsD P_f111) : run E_f111 b_f111 m0 x K_f111 = dict_ints.S (j0_f111 m0 m0) x.1 := by kernel_rfl
abbrev sp_f111 : AM.Spec := AM.spec P_f111 R_f111 (fun x => dict_ints x.1)
theorem c_f111 : Contract Tryz.prog 111 sp_f111 := ctrC tabOk (fn := Tryz.f111) (fun x => (st_f111 fu x).trans (by rw [J_f111_0 fu fu]; rfl)) (callsOk_of ⟨⟨c_f81, Tryz.call81, fun _ => words_spec rfl⟩, ⟨⟨c_f107, Tryz.call107, nw⟩, ⟨⟨c_bld_String, Tryz.call108, nw⟩, trivial⟩⟩⟩)
abbrev E_f110 : Env := tab.env (AM.look [(141, sp_f141), (111, sp_f111), (70, sp_f70), (44, sp_f44), (81, sp_f81)]) ⟨[], [], [], ⟨tt [4, 5], []⟩, [], [44, 70, 81, 111], [], []⟩
def b_f110 : Code := bd Tryz.f110
abbrev R_f110 : List (Ty × List Tag) := [(.str, []), (k13b, [])]
abbrev P_f110 : List PK := [.val k13d, .fn 111 []]
abbrev K_f110 : K (ResD R_f110) := fin E_f110 [.tmp 4, .tmp 5] [] R_f110
abbrev sp_f110 : AM.Spec := AM.spec P_f110 R_f110 (fun x => dict_put_int__dict_ints x.1)
theorem c_f110 : Contract Tryz.prog 110 sp_f110 := ctrC tabOk (fn := Tryz.f110) (show ∀ x, run E_f110 b_f110 fu x K_f110 = _ from fun x => by kernel_rfl) (callsOk_of ⟨⟨c_f141, Tryz.call141, nw⟩, ⟨⟨c_f111, Tryz.call111, fun _ => words_spec rfl⟩, ⟨⟨c_f70, Tryz.call70, fun _ => words_spec rfl⟩, ⟨⟨c_f44, Tryz.call44, fun _ => words_spec rfl⟩, ⟨⟨c_f81, Tryz.call81, fun _ => words_spec rfl⟩, trivial⟩⟩⟩⟩⟩)
abbrev E_f77 : Env := tab.env (AM.look [(110, sp_f110)]) ⟨[], [], [], ⟨tt [2, 3], []⟩, [], [110], [], []⟩
def b_f77 : Code := bd Tryz.f77
abbrev R_f77 : List (Ty × List Tag) := [(.str, []), (k13b, [])]
abbrev P_f77 : List PK := [.val k13d]
abbrev K_f77 : K (ResD R_f77) := fin E_f77 [.tmp 2, .tmp 3] [] R_f77
abbrev sp_f77 : AM.Spec := AM.spec P_f77 R_f77 (fun x => dict_PutInts x.1)
theorem c_f77 : Contract Tryz.prog 77 sp_f77 := ctrC tabOk (fn := Tryz.f77) (show ∀ x, run E_f77 b_f77 fu x K_f77 = _ from fun x => by kernel_rfl) (callsOk_of ⟨⟨c_f110, Tryz.call110, fun _ => words_spec rfl⟩, trivial⟩)
abbrev E_f45 : Env := tab.env (AM.look [(73, sp_f73), (75, sp_f75), (74, sp_f74), (76, sp_f76), (77, sp_f77), (70, sp_f70), (44, sp_f44)]) ⟨[], [], [], ⟨tt [4, 5], []⟩, [], [44, 70, 73, 74, 76, 77], [], []⟩
def b_f45 : Code := bd Tryz.f45
abbrev R_f45 : List (Ty × List Tag) := [(.str, []), (k13b, [])]
abbrev P_f45 : List PK := [.val k13d, .val k13b]
abbrev K_f45 : K (ResD R_f45) := fin E_f45 [.tmp 4, .tmp 5] [] R_f45
abbrev sp_f45 : AM.Spec := AM.spec P_f45 R_f45 (fun x => block_numbers x.1 x.2.1)
theorem c_f45 : Contract Tryz.prog 45 sp_f45 := ctrC tabOk (fn := Tryz.f45) (show ∀ x, run E_f45 b_f45 fu x K_f45 = _ from fun x => by kernel_rfl) (callsOk_of ⟨⟨c_f73, Tryz.call73, fun _ => words_spec rfl⟩, ⟨⟨c_f75, Tryz.call75, nw⟩, ⟨⟨c_f74, Tryz.call74, fun _ => words_spec rfl⟩, ⟨⟨c_f76, Tryz.call76, fun _ => words_spec rfl⟩, ⟨⟨c_f77, Tryz.call77, fun _ => words_spec rfl⟩, ⟨⟨c_f70, Tryz.call70, fun _ => words_spec rfl⟩, ⟨⟨c_f44, Tryz.call44, fun _ => words_spec rfl⟩, trivial⟩⟩⟩⟩⟩⟩⟩)
abbrev E_f112 : Env := tab.env (AM.look [(138, sp_bld_check)]) ⟨[], [], [], ⟨tt [4], tt [1000000]⟩, [], [], [], []⟩
def b_f112 : Code := bd Tryz.f112
abbrev R_f112 : List (Ty × List Tag) := [((.lk true), []), ((.pair (.lk false) k13c), [⟨1, 1, 0, 0⟩])]
abbrev P_f112 : List PK := [.io (.pair (.lk false) k13c) [(1, 0)], .val (.int .u8)]
abbrev K_f112 : K (ResD R_f112) := fin E_f112 [.tmp 4] [.io (.pair (.lk false) k13c) [(1, 0)]] R_f112
abbrev sp_f112 : AM.Spec := AM.specIo 1 P_f112 R_f112 (fun x => strings_Builder_WriteByte_w1 x.1 x.2.1)
theorem c_f112 : Contract Tryz.prog 112 sp_f112 := ctrI tabOk (fn := Tryz.f112) (show ∀ x, run E_f112 b_f112 fu x K_f112 = _ from fun x => by kernel_rfl) (callsOk_of ⟨⟨c_bld_check, Tryz.call138, nw⟩, trivial⟩)
abbrev E_f78 : Env := tab.env (AM.look [(112, sp_f112), (107, sp_f107), (108, sp_bld_String)]) ⟨[(0, ⟨tt [4, 7, 8, 9], tt [4]⟩)], [], [], ⟨tt [2, 3], []⟩, [], [], [], []⟩
def b_f78 : Code := bd Tryz.f78
abbrev R_f78 : List (Ty × List Tag) := [(.str, []), (k13b, [])]
abbrev P_f78 : List PK := [.val k13a]
abbrev K_f78 : K (ResD R_f78) := fin E_f78 [.tmp 2, .tmp 3] [] R_f78
def sg_f78_0 (x1 : D13e) (x2 x3 : Int) (x4 : D13j) : St := mk [(4, .ptr 4 0 0), (7, .dat k13a x1 []), (8, .dat k13b x2 []), (9, .dat k13b x3 [])] [(4, some (.var (.pair (.lk false) k13c) x4 [⟨1, 64258, 0, 0⟩]))]
def cd_f78_1 : Code := (rgt (rgt (rgt b_f78)))
def q_f78_1 (m0 : Nat) : K (ResD R_f78) := sqK E_f78 m0 cd_f78_1 0 K_f78
def q_f78_2 (m0 : Nat) : K (ResD R_f78) := blockK 0 (q_f78_1 m0)
def cd_f78_2 : Code := (lft (lft (rgt (lft (rgt (rgt b_f78))))))
def j0_f78 (m0 n : Nat) : D13e → Int → Int → D13j → Option D13g := fun x1 x2 x3 x4 => ej E_f78 n (.loop cd_f78_2) 0 (sg_f78_0 x1 x2 x3 x4) (q_f78_2 m0)
theorem st_f78_j0 (m0 n : Nat) : j0_f78 m0 (n + 1) = plain_PutTexts.S0 (j0_f78 m0 n) := by kernel_rfl
theorem J_f78_0 (m0 : Nat) : ∀ n : Nat, j0_f78 m0 n = plain_PutTexts.l0 n :=
  ind rfl fun n e0 => (st_f78_j0 m0 n).trans (by rw [e0]; rfl)
theorem st_f78 (m0 : Nat) (x : ArgsD P_f78) : run E_f78 b_f78 m0 x K_f78 = plain_PutTexts.S (j0_f78 m0 m0) x.1 := by kernel_rfl
abbrev sp_f78 : AM.Spec := AM.spec P_f78 R_f78 (fun x => plain_PutTexts x.1)
theorem c_f78 : Contract Tryz.prog 78 sp_f78 := ctrC tabOk (fn := Tryz.f78) (fun x => (st_f78 fu x).trans (by rw [J_f78_0 fu fu]; rfl)) (callsOk_of ⟨⟨c_f112, Tryz.call112, nw⟩, ⟨⟨c_f107, Tryz.call107, nw⟩, ⟨⟨c_bld_String, Tryz.call108, nw⟩, trivial⟩⟩⟩)
abbrev E_f174 : Env := tab.env (AM.look []) ⟨[], [], [], ⟨tt [2], []⟩, [], [], [], []⟩
def b_f174 : Code := bd Tryz.f174
abbrev R_f174 : List (Ty × List Tag) := [(.bool, [])]
abbrev P_f174 : List PK := [.val .str]
abbrev K_f174 : K (ResD R_f174) := fin E_f174 [.tmp 2] [] R_f174
abbrev sp_f174 : AM.Spec := AM.spec P_f174 R_f174 (fun x => some (cmp_isNaN_string x.1))
theorem c_f174 : Contract Tryz.prog 174 sp_f174 := ctrC tabOk (fn := Tryz.f174) (show ∀ x, run E_f174 b_f174 fu x K_f174 = _ from fun x => by kernel_rfl) (callsOk_of trivial)
abbrev E_f144 : Env := tab.env (AM.look [(174, sp_f174)]) ⟨[], [], [], ⟨tt [4], []⟩, [], [174], [], []⟩
def b_f144 : Code := bd Tryz.f144
abbrev R_f144 : List (Ty × List Tag) := [(.bool, [])]
abbrev P_f144 : List PK := [.val .str, .val .str]
abbrev K_f144 : K (ResD R_f144) := fin E_f144 [.tmp 4] [] R_f144
theorem st_f144_o (m0 : Nat) (x : ArgsD P_f144) : run E_f144 b_f144 m0 x K_f144 = cmp_Less_string.o x.1 x.2.1 := by kernel_rfl
theorem st_f144 (m0 : Nat) (x : ArgsD P_f144) : run E_f144 b_f144 m0 x K_f144 = some (cmp_Less_string x.1 x.2.1) := (st_f144_o m0 x).trans (by unfold cmp_Less_string.o cmp_Less_string; simp only [cond_some])
abbrev sp_f144 : AM.Spec := AM.spec P_f144 R_f144 (fun x => some (cmp_Less_string x.1 x.2.1))
theorem c_f144 : Contract Tryz.prog 144 sp_f144 := ctrC tabOk (fn := Tryz.f144) (fun x => st_f144 fu x) (callsOk_of ⟨⟨c_f174, Tryz.call174, fun _ => words_spec rfl⟩, trivial⟩)
abbrev E_f145 : Env := tab.env (AM.look []) ⟨[], [], [], ⟨tt [2], []⟩, [], [], [], []⟩
def b_f145 : Code := bd Tryz.f145
abbrev R_f145 : List (Ty × List Tag) := [(.bool, [])]
abbrev P_f145 : List PK := [.val .str]
abbrev K_f145 : K (ResD R_f145) := fin E_f145 [.tmp 2] [] R_f145
abbrev sp_f145 : AM.Spec := AM.spec P_f145 R_f145 (fun x => some (slices_isNaN_string x.1))
theorem c_f145 : Contract Tryz.prog 145 sp_f145 := ctrC tabOk (fn := Tryz.f145) (show ∀ x, run E_f145 b_f145 fu x K_f145 = _ from fun x => by kernel_rfl) (callsOk_of trivial)
abbrev E_f117 : Env := tab.env (AM.look [(144, sp_f144), (145, sp_f145)]) ⟨[(0, ⟨tt [0, 1, 6, 7, 8], []⟩)], [], [(8, ⟨tt [0, 1, 6, 7], []⟩)], ⟨tt [4, 5], []⟩, [], [144, 145], [], []⟩
def b_f117 : Code := bd Tryz.f117
abbrev R_f117 : List (Ty × List Tag) := [(k13b, []), (.bool, [])]
abbrev P_f117 : List PK := [.val k13a, .val .str]
abbrev K_f117 : K (ResD R_f117) := fin E_f117 [.tmp 4, .tmp 5] [] R_f117
def sg_f117_1 (x7 : D13e) (x8 : ByteArray) (x9 x10 : Int) : St := mk [(0, .dat k13a x7 []), (1, .dat .str x8 []), (6, .dat k13b x9 []), (7, .dat k13b x10 [])] []
def sg_f117_0 (x1 : D13e) (x2 : ByteArray) (x3 x4 x5 : Int) : St := mk [(0, .dat k13a x1 []), (1, .dat .str x2 []), (6, .dat k13b x3 []), (7, .dat k13b x4 []), (8, .dat k13b x5 [])] []
def cd_f117_1 : Code := (rgt (rgt (rgt (rgt b_f117))))
def j1_f117 (m0 n : Nat) : D13e → ByteArray → Int → Int → Option (Int × Bool) := fun x7 x8 x9 x10 => ej E_f117 n (.tail cd_f117_1) 0 (sg_f117_1 x7 x8 x9 x10) K_f117
theorem st_f117_j1 (m0 n : Nat) : j1_f117 m0 (n + 1) = slices_BinarySearch_string_string.S1 := by kernel_rfl
theorem J_f117_1 (m0 : Nat) : ∀ n : Nat, j1_f117 m0 n = slices_BinarySearch_string_string.t1 n :=
  ind rfl fun n _ => st_f117_j1 m0 n
def q_f117_1 (m0 : Nat) : K (ResD R_f117) := sqK E_f117 m0 cd_f117_1 0 K_f117
def q_f117_2 (m0 : Nat) : K (ResD R_f117) := blockK 0 (q_f117_1 m0)
def cd_f117_2 : Code := (lft (lft (lft (rgt (rgt (rgt b_f117))))))
def j0_f117 (m0 n : Nat) : D13e → ByteArray → Int → Int → Int → Option (Int × Bool) := fun x1 x2 x3 x4 x5 => ej E_f117 n (.loop cd_f117_2) 0 (sg_f117_0 x1 x2 x3 x4 x5) (q_f117_2 m0)
theorem st_f117_j0 (m0 n : Nat) : j0_f117 m0 (n + 1) = slices_BinarySearch_string_string.S0 (j1_f117 m0 m0) (j0_f117 m0 n) := by kernel_rfl
theorem J_f117_0 (m0 : Nat) : ∀ n : Nat, j0_f117 m0 n = slices_BinarySearch_string_string.l0 (j1_f117 m0 m0) n :=
  ind rfl fun n e0 => (st_f117_j0 m0 n).trans (by rw [e0]; rfl)
theorem st_f117 (m0 : Nat) (x : ArgsD P_f117) : run E_f117 b_f117 m0 x K_f117 = slices_BinarySearch_string_string.S (j0_f117 m0 m0) x.1 x.2.1 := by kernel_rfl
abbrev sp_f117 : AM.Spec := AM.spec P_f117 R_f117 (fun x => slices_BinarySearch_string_string x.1 x.2.1)
theorem c_f117 : Contract Tryz.prog 117 sp_f117 := ctrC tabOk (fn := Tryz.f117) (show ∀ x, run E_f117 b_f117 fu x K_f117 = _ from fun x => by
  have e1 : j1_f117 fu fu = slices_BinarySearch_string_string.t1 fu := J_f117_1 fu fu
  have e0 : j0_f117 fu fu = slices_BinarySearch_string_string.l0 (slices_BinarySearch_string_string.t1 fu) fu := by rw [← e1]; exact J_f117_0 fu fu
  refine (st_f117 fu x).trans ?_
  rw [e0]; rfl) (callsOk_of ⟨⟨c_f144, Tryz.call144, fun _ => words_spec rfl⟩, ⟨⟨c_f145, Tryz.call145, fun _ => words_spec rfl⟩, trivial⟩⟩)
abbrev E_f80 : Env := tab.env (AM.look [(114, sp_slices_Clone_string), (115, sp_slices_Sort_string), (116, sp_slices_Compact_string), (117, sp_f117)]) ⟨[(0, ⟨tt [4, 5, 16, 17, 18], tt [11]⟩)], [], [], ⟨tt [2, 3], tt [11]⟩, [2, 4, 11, 12, 14, 15, 23, 33], [117], [(115, [true]), (116, [true])], []⟩
def b_f80 : Code := bd Tryz.f80
abbrev R_f80 : List (Ty × List Tag) := [(k13a, []), (k13d, [⟨0, 1, 0, 1⟩])]
abbrev P_f80 : List PK := [.val k13a]
abbrev K_f80 : K (ResD R_f80) := fin E_f80 [.tmp 2, .tmp 3] [] R_f80
def sg_f80_0 (x4 x5 : Nat) (x6 : D13a) (x7 : D13e) (x8 x9 : Int) (x10 : D13e) : St := mk [(4, .slm 11 0 x4 x5), (5, .dat k13d x6 [⟨0, 321, 0, 1⟩]), (16, .dat k13a x7 []), (17, .dat k13b x8 []), (18, .dat k13b x9 [])] [(11, some (.arr .str x10 false))]
def cd_f80_1 : Code := (rgt (rgt (rgt (rgt (rgt (rgt b_f80))))))
def q_f80_1 (m0 : Nat) : K (ResD R_f80) := sqK E_f80 m0 cd_f80_1 0 K_f80
def q_f80_2 (m0 : Nat) : K (ResD R_f80) := blockK 0 (q_f80_1 m0)
def cd_f80_2 : Code := (lft (lft (rgt (lft (rgt (rgt (rgt (rgt (rgt b_f80)))))))))
def j0_f80 (m0 n : Nat) : Nat → Nat → D13a → D13e → Int → Int → D13e → Option D13r := fun x4 x5 x6 x7 x8 x9 x10 => ej E_f80 n (.loop cd_f80_2) 0 (sg_f80_0 x4 x5 x6 x7 x8 x9 x10) (q_f80_2 m0)
theorem st_f80_j0 (m0 n : Nat) : j0_f80 m0 (n + 1) = dict_Of_string.S0 (j0_f80 m0 n) := by kernel_rfl
theorem J_f80_0 (m0 : Nat) : ∀ n : Nat, j0_f80 m0 n = dict_Of_string.l0 n :=
  ind rfl fun n e0 => (st_f80_j0 m0 n).trans (by rw [e0]; rfl)
theorem st_f80 (m0 : Nat) (x : ArgsD P_f80) : run E_f80 b_f80 m0 x K_f80 = dict_Of_string.S (j0_f80 m0 m0) x.1 := by kernel_rfl
abbrev sp_f80 : AM.Spec := AM.spec P_f80 R_f80 (fun x => dict_Of_string x.1)
theorem c_f80 : Contract Tryz.prog 80 sp_f80 := ctrC tabOk (fn := Tryz.f80) (fun x => (st_f80 fu x).trans (by rw [J_f80_0 fu fu]; rfl)) (callsOk_of ⟨⟨c_slices_Clone_string, Tryz.call114, nw⟩, ⟨⟨c_slices_Sort_string, Tryz.call115, nw⟩, ⟨⟨c_slices_Compact_string, Tryz.call116, nw⟩, ⟨⟨c_f117, Tryz.call117, fun _ => words_spec rfl⟩, trivial⟩⟩⟩⟩)
abbrev E_f113 : Env := tab.env (AM.look [(80, sp_f80), (78, sp_f78), (70, sp_f70), (44, sp_f44), (81, sp_f81)]) ⟨[], [], [], ⟨tt [4, 5], []⟩, [], [44, 70, 78, 81], [], []⟩
def b_f113 : Code := bd Tryz.f113
abbrev R_f113 : List (Ty × List Tag) := [(.str, []), (k13b, [])]
abbrev P_f113 : List PK := [.val k13a, .fn 78 []]
abbrev K_f113 : K (ResD R_f113) := fin E_f113 [.tmp 4, .tmp 5] [] R_f113
abbrev sp_f113 : AM.Spec := AM.spec P_f113 R_f113 (fun x => dict_put_string__plain_PutTexts x.1)
theorem c_f113 : Contract Tryz.prog 113 sp_f113 := ctrC tabOk (fn := Tryz.f113) (show ∀ x, run E_f113 b_f113 fu x K_f113 = _ from fun x => by kernel_rfl) (callsOk_of ⟨⟨c_f80, Tryz.call80, nw⟩, ⟨⟨c_f78, Tryz.call78, fun _ => words_spec rfl⟩, ⟨⟨c_f70, Tryz.call70, fun _ => words_spec rfl⟩, ⟨⟨c_f44, Tryz.call44, fun _ => words_spec rfl⟩, ⟨⟨c_f81, Tryz.call81, fun _ => words_spec rfl⟩, trivial⟩⟩⟩⟩⟩)
abbrev E_f79 : Env := tab.env (AM.look [(113, sp_f113)]) ⟨[], [], [], ⟨tt [2, 3], []⟩, [], [113], [], []⟩
def b_f79 : Code := bd Tryz.f79
abbrev R_f79 : List (Ty × List Tag) := [(.str, []), (k13b, [])]
abbrev P_f79 : List PK := [.val k13a]
abbrev K_f79 : K (ResD R_f79) := fin E_f79 [.tmp 2, .tmp 3] [] R_f79
abbrev sp_f79 : AM.Spec := AM.spec P_f79 R_f79 (fun x => dict_PutTexts x.1)
theorem c_f79 : Contract Tryz.prog 79 sp_f79 := ctrC tabOk (fn := Tryz.f79) (show ∀ x, run E_f79 b_f79 fu x K_f79 = _ from fun x => by kernel_rfl) (callsOk_of ⟨⟨c_f113, Tryz.call113, fun _ => words_spec rfl⟩, trivial⟩)
abbrev E_f46 : Env := tab.env (AM.look [(78, sp_f78), (79, sp_f79), (80, sp_f80), (75, sp_f75), (74, sp_f74), (81, sp_f81)]) ⟨[], [], [], ⟨tt [4, 5], []⟩, [], [74, 78, 79, 81], [], []⟩
def b_f46 : Code := bd Tryz.f46
abbrev R_f46 : List (Ty × List Tag) := [(.str, []), (k13b, [])]
abbrev P_f46 : List PK := [.val k13a, .val k13b]
abbrev K_f46 : K (ResD R_f46) := fin E_f46 [.tmp 4, .tmp 5] [] R_f46
abbrev sp_f46 : AM.Spec := AM.spec P_f46 R_f46 (fun x => block_words x.1 x.2.1)
theorem c_f46 : Contract Tryz.prog 46 sp_f46 := ctrC tabOk (fn := Tryz.f46) (show ∀ x, run E_f46 b_f46 fu x K_f46 = _ from fun x => by kernel_rfl) (callsOk_of ⟨⟨c_f78, Tryz.call78, fun _ => words_spec rfl⟩, ⟨⟨c_f79, Tryz.call79, fun _ => words_spec rfl⟩, ⟨⟨c_f80, Tryz.call80, nw⟩, ⟨⟨c_f75, Tryz.call75, nw⟩, ⟨⟨c_f74, Tryz.call74, fun _ => words_spec rfl⟩, ⟨⟨c_f81, Tryz.call81, fun _ => words_spec rfl⟩, trivial⟩⟩⟩⟩⟩⟩)
abbrev E_f25 : Env := tab.env (AM.look [(45, sp_f45), (46, sp_f46)]) ⟨[(0, ⟨tt [1, 2, 8, 9, 12, 13, 14], []⟩)], [], [(8, ⟨tt [1, 2, 8, 9], []⟩)], ⟨tt [6, 7], []⟩, [], [45, 46], [], [21, 26]⟩
def b_f25 : Code := bd Tryz.f25
abbrev R_f25 : List (Ty × List Tag) := [(.str, []), (k13b, [])]
abbrev P_f25 : List PK := [.val k13h, .val k13b, .val k13b]
abbrev K_f25 : K (ResD R_f25) := fin E_f25 [.tmp 6, .tmp 7] [] R_f25
def sg_f25_1 (x8 x9 : Int) (x10 : D13a) (x11 : D13e) : St := mk [(1, .dat k13b x8 []), (2, .dat k13b x9 []), (8, .dat k13d x10 [⟨0, 513, 0, 1⟩]), (9, .dat k13a x11 [⟨0, 577, 0, 1⟩])] []
def sg_f25_0 (x1 x2 : Int) (x3 : D13a) (x4 : D13e) (x5 : D13u) (x6 x7 : Int) : St := mk [(1, .dat k13b x1 []), (2, .dat k13b x2 []), (8, .dat k13d x3 [⟨0, 513, 0, 1⟩]), (9, .dat k13a x4 [⟨0, 577, 0, 1⟩]), (12, .dat k13h x5 []), (13, .dat k13b x6 []), (14, .dat k13b x7 [])] []
def cd_f25_1 : Code := (rgt (rgt (rgt (rgt b_f25))))
def j1_f25 (m0 n : Nat) : Int → Int → D13a → D13e → Option D13g := fun x8 x9 x10 x11 => ej E_f25 n (.tail cd_f25_1) 0 (sg_f25_1 x8 x9 x10 x11) K_f25
theorem st_f25_j1 (m0 n : Nat) : j1_f25 m0 (n + 1) = block_values.S1 := by kernel_rfl
theorem J_f25_1 (m0 : Nat) : ∀ n : Nat, j1_f25 m0 n = block_values.t1 n :=
  ind rfl fun n _ => st_f25_j1 m0 n
def q_f25_1 (m0 : Nat) : K (ResD R_f25) := sqK E_f25 m0 cd_f25_1 0 K_f25
def q_f25_2 (m0 : Nat) : K (ResD R_f25) := blockK 0 (q_f25_1 m0)
def cd_f25_2 : Code := (lft (lft (rgt (lft (rgt (rgt (rgt b_f25)))))))
def j0_f25 (m0 n : Nat) : Int → Int → D13a → D13e → D13u → Int → Int → Option D13g := fun x1 x2 x3 x4 x5 x6 x7 => ej E_f25 n (.loop cd_f25_2) 0 (sg_f25_0 x1 x2 x3 x4 x5 x6 x7) (q_f25_2 m0)
theorem st_f25_j0 (m0 n : Nat) : j0_f25 m0 (n + 1) = block_values.S0 (j1_f25 m0 m0) (j0_f25 m0 n) := by kernel_rfl
theorem J_f25_0 (m0 : Nat) : ∀ n : Nat, j0_f25 m0 n = block_values.l0 (j1_f25 m0 m0) n :=
  ind rfl fun n e0 => (st_f25_j0 m0 n).trans (by rw [e0]; rfl)
theorem st_f25 (m0 : Nat) (x : ArgsD P_f25) : run E_f25 b_f25 m0 x K_f25 = block_values.S (j0_f25 m0 m0) x.1 x.2.1 x.2.2.1 := by kernel_rfl
abbrev sp_f25 : AM.Spec := AM.spec P_f25 R_f25 (fun x => block_values x.1 x.2.1 x.2.2.1)
theorem c_f25 : Contract Tryz.prog 25 sp_f25 := ctrC tabOk (fn := Tryz.f25) (show ∀ x, run E_f25 b_f25 fu x K_f25 = _ from fun x => by
  have e1 : j1_f25 fu fu = block_values.t1 fu := J_f25_1 fu fu
  have e0 : j0_f25 fu fu = block_values.l0 (block_values.t1 fu) fu := by rw [← e1]; exact J_f25_0 fu fu
  refine (st_f25 fu x).trans ?_
  rw [e0]; rfl) (callsOk_of ⟨⟨c_f45, Tryz.call45, fun _ => words_spec rfl⟩, ⟨⟨c_f46, Tryz.call46, fun _ => words_spec rfl⟩, trivial⟩⟩)
abbrev E_f82 : Env := tab.env (AM.look []) ⟨[(0, ⟨tt [1, 5, 11, 12], []⟩), (2, ⟨tt [1, 5, 11, 12, 21], []⟩)], [], [], ⟨tt [4], []⟩, [], [], [], []⟩
def b_f82 : Code := bd Tryz.f82
abbrev R_f82 : List (Ty × List Tag) := [(k13b, [])]
abbrev P_f82 : List PK := [.val k13b, .val .str]
abbrev K_f82 : K (ResD R_f82) := fin E_f82 [.tmp 4] [] R_f82
def sg_f82_1 (x5 : ByteArray) (x6 x7 : Int) (x8 x9 : Int) : St := mk [(1, .dat .str x5 []), (5, .dat (.int .u32) x6 []), (11, .dat k13b x7 []), (12, .dat k13b x8 []), (21, .dat k13b x9 [])] []
def sg_f82_0 (x1 : ByteArray) (x2 x3 x4 : Int) : St := mk [(1, .dat .str x1 []), (5, .dat (.int .u32) x2 []), (11, .dat k13b x3 []), (12, .dat k13b x4 [])] []
def cd_f82_1 : Code := (rgt (rgt (rgt b_f82)))
def q_f82_1 (m0 : Nat) : K (ResD R_f82) := sqK E_f82 m0 cd_f82_1 0 K_f82
def q_f82_2 (m0 : Nat) : K (ResD R_f82) := blockK 0 (q_f82_1 m0)
def cd_f82_2 : Code := (lft (lft (rgt (lft (rgt (rgt b_f82))))))
def j0_f82 (m0 n : Nat) : ByteArray → Int → Int → Int → Option Int := fun x1 x2 x3 x4 => ej E_f82 n (.loop cd_f82_2) 0 (sg_f82_0 x1 x2 x3 x4) (q_f82_2 m0)
def q_f82_3 (m0 m1 : Nat) : K (ResD R_f82) := lpK E_f82 m1 cd_f82_2 0 (q_f82_2 m0)
def cd_f82_3 : Code := (rgt (rgt (rgt cd_f82_2)))
def q_f82_4 (m0 m1 : Nat) : K (ResD R_f82) := sqK E_f82 m1 cd_f82_3 0 (q_f82_3 m0 m1)
def q_f82_5 (m0 m1 : Nat) : K (ResD R_f82) := blockK 1 (q_f82_4 m0 m1)
def q_f82_6 (m0 m1 : Nat) : K (ResD R_f82) := blockK 2 (q_f82_5 m0 m1)
def cd_f82_4 : Code := (lft (lft (rgt (rgt (rgt (lft (lft (rgt (rgt cd_f82_2)))))))))
def j1_f82 (m0 m1 n : Nat) : ByteArray → Int → Int → Int → Int → Option Int := fun x5 x6 x7 x8 x9 => ej E_f82 n (.loop cd_f82_4) 2 (sg_f82_1 x5 x6 x7 x8 x9) (q_f82_6 m0 m1)
theorem st_f82_j1 (m0 m1 n : Nat) : j1_f82 m0 m1 (n + 1) = check_More.S1 (j0_f82 m0 m1) (j1_f82 m0 m1 n) := by kernel_rfl
theorem J_f82_1 (m0 m1 : Nat) : ∀ n : Nat, j1_f82 m0 m1 n = check_More.l1 (j0_f82 m0 m1) n :=
  ind rfl fun n e1 => (st_f82_j1 m0 m1 n).trans (by rw [e1]; rfl)
theorem st_f82_j0 (m0 n : Nat) : j0_f82 m0 (n + 1) = check_More.S0 (j1_f82 m0 n n) := by kernel_rfl
theorem J_f82_0 (m0 : Nat) : ∀ n : Nat, j0_f82 m0 n = check_More.l0 n :=
  ind rfl fun n e0 => by
    have e1 : j1_f82 m0 n n = check_More.l1 (check_More.l0 n) n := by rw [← e0]; exact J_f82_1 m0 n n
    rw [st_f82_j0 m0 n, e1]; rfl
theorem st_f82 (m0 : Nat) (x : ArgsD P_f82) : run E_f82 b_f82 m0 x K_f82 = check_More.S (j0_f82 m0 m0) x.1 x.2.1 := by kernel_rfl
abbrev sp_f82 : AM.Spec := AM.spec P_f82 R_f82 (fun x => check_More x.1 x.2.1)
theorem c_f82 : Contract Tryz.prog 82 sp_f82 := ctrC tabOk (fn := Tryz.f82) (fun x => (st_f82 fu x).trans (by rw [J_f82_0 fu fu]; rfl)) (callsOk_of trivial)
abbrev E_f47 : Env := tab.env (AM.look [(82, sp_f82)]) ⟨[], [], [], ⟨tt [2], []⟩, [], [82], [], []⟩
def b_f47 : Code := bd Tryz.f47
abbrev R_f47 : List (Ty × List Tag) := [(k13b, [])]
abbrev P_f47 : List PK := [.val .str]
abbrev K_f47 : K (ResD R_f47) := fin E_f47 [.tmp 2] [] R_f47
abbrev sp_f47 : AM.Spec := AM.spec P_f47 R_f47 (fun x => check_Sum x.1)
theorem c_f47 : Contract Tryz.prog 47 sp_f47 := ctrC tabOk (fn := Tryz.f47) (show ∀ x, run E_f47 b_f47 fu x K_f47 = _ from fun x => by kernel_rfl) (callsOk_of ⟨⟨c_f82, Tryz.call82, fun _ => words_spec rfl⟩, trivial⟩)
abbrev E_f26 : Env := tab.env (AM.look [(47, sp_f47)]) ⟨[(0, ⟨tt [3, 4, 16], []⟩)], [], [], ⟨tt [2], []⟩, [], [47], [], []⟩
def b_f26 : Code := bd Tryz.f26
abbrev R_f26 : List (Ty × List Tag) := [(.str, [])]
abbrev P_f26 : List PK := [.val .str]
abbrev K_f26 : K (ResD R_f26) := fin E_f26 [.tmp 2] [] R_f26
def sg_f26_0 (x2 : Int) (x3 : D13a) (x4 : Int) : St := mk [(3, .dat (.int .u32) x2 []), (4, .dat k13c x3 [⟨0, 257, 0, 0⟩]), (16, .dat k13b x4 [])] []
def cd_f26_1 : Code := (rgt (rgt (rgt (rgt (rgt b_f26)))))
def q_f26_1 (m0 : Nat) : K (ResD R_f26) := sqK E_f26 m0 cd_f26_1 0 K_f26
def q_f26_2 (m0 : Nat) : K (ResD R_f26) := blockK 0 (q_f26_1 m0)
def cd_f26_2 : Code := (lft (lft (rgt (lft (rgt (rgt (rgt (rgt b_f26))))))))
def j0_f26 (m0 n : Nat) : Int → D13a → Int → Option ByteArray := fun x2 x3 x4 => ej E_f26 n (.loop cd_f26_2) 0 (sg_f26_0 x2 x3 x4) (q_f26_2 m0)
theorem st_f26_j0 (m0 n : Nat) : j0_f26 m0 (n + 1) = check_Seal.S0 (j0_f26 m0 n) := by kernel_rfl
theorem J_f26_0 (m0 : Nat) : ∀ n : Nat, j0_f26 m0 n = check_Seal.l0 n :=
  ind rfl fun n e0 => (st_f26_j0 m0 n).trans (by rw [e0]; rfl)
theorem st_f26 (m0 : Nat) (x : ArgsD P_f26) : run E_f26 b_f26 m0 x K_f26 = check_Seal.S (j0_f26 m0 m0) x.1 := by kernel_rfl
abbrev sp_f26 : AM.Spec := AM.spec P_f26 R_f26 (fun x => check_Seal x.1)
theorem c_f26 : Contract Tryz.prog 26 sp_f26 := ctrC tabOk (fn := Tryz.f26) (fun x => (st_f26 fu x).trans (by rw [J_f26_0 fu fu]; rfl)) (callsOk_of ⟨⟨c_f47, Tryz.call47, fun _ => words_spec rfl⟩, trivial⟩)
abbrev E_f10 : Env := tab.env (AM.look [(23, sp_f23), (24, sp_f24), (25, sp_f25), (26, sp_f26)]) ⟨[], [], [], ⟨tt [6, 7], []⟩, [], [23, 25, 26], [], []⟩
def b_f10 : Code := bd Tryz.f10
abbrev R_f10 : List (Ty × List Tag) := [(.str, []), (k13b, [])]
abbrev P_f10 : List PK := [.val k13h, .val k13b, .val k13b]
abbrev K_f10 : K (ResD R_f10) := fin E_f10 [.tmp 6, .tmp 7] [] R_f10
abbrev sp_f10 : AM.Spec := AM.spec P_f10 R_f10 (fun x => block_Put x.1 x.2.1 x.2.2.1)
theorem c_f10 : Contract Tryz.prog 10 sp_f10 := ctrC tabOk (fn := Tryz.f10) (show ∀ x, run E_f10 b_f10 fu x K_f10 = _ from fun x => by kernel_rfl) (callsOk_of ⟨⟨c_f23, Tryz.call23, fun _ => words_spec rfl⟩, ⟨⟨c_f24, Tryz.call24, nw⟩, ⟨⟨c_f25, Tryz.call25, fun _ => words_spec rfl⟩, ⟨⟨c_f26, Tryz.call26, fun _ => words_spec rfl⟩, trivial⟩⟩⟩⟩)
abbrev E_f54 : Env := tab.env (AM.look [(26, sp_f26)]) ⟨[], [], [], ⟨tt [2, 3], []⟩, [], [26], [], []⟩
def b_f54 : Code := bd Tryz.f54
abbrev R_f54 : List (Ty × List Tag) := [(.str, []), (k13b, [])]
abbrev P_f54 : List PK := [.val .str]
abbrev K_f54 : K (ResD R_f54) := fin E_f54 [.tmp 2, .tmp 3] [] R_f54
abbrev sp_f54 : AM.Spec := AM.spec P_f54 R_f54 (fun x => check_Open x.1)
theorem c_f54 : Contract Tryz.prog 54 sp_f54 := ctrC tabOk (fn := Tryz.f54) (show ∀ x, run E_f54 b_f54 fu x K_f54 = _ from fun x => by kernel_rfl) (callsOk_of ⟨⟨c_f26, Tryz.call26, fun _ => words_spec rfl⟩, trivial⟩)
abbrev E_f148 : Env := tab.env (AM.look [(72, sp_f72)]) ⟨[(0, ⟨tt [0, 2, 7, 8, 9], []⟩)], [], [], ⟨tt [6], []⟩, [], [72], [], []⟩
def b_f148 : Code := bd Tryz.f148
abbrev R_f148 : List (Ty × List Tag) := [(k13b, [])]
abbrev P_f148 : List PK := [.val .str, .val k13b, .val k13b]
abbrev K_f148 : K (ResD R_f148) := fin E_f148 [.tmp 6] [] R_f148
def sg_f148_0 (x1 : ByteArray) (x2 x3 : Int) (x4 x5 : Int) : St := mk [(0, .dat .str x1 []), (2, .dat k13b x2 []), (7, .dat (.int .u64) x3 []), (8, .dat k13b x4 []), (9, .dat k13b x5 [])] []
def cd_f148_1 : Code := (rgt (rgt (rgt (rgt b_f148))))
def q_f148_1 (m0 : Nat) : K (ResD R_f148) := sqK E_f148 m0 cd_f148_1 0 K_f148
def q_f148_2 (m0 : Nat) : K (ResD R_f148) := blockK 0 (q_f148_1 m0)
def cd_f148_2 : Code := (lft (lft (lft (rgt (rgt (rgt b_f148))))))
def j0_f148 (m0 n : Nat) : ByteArray → Int → Int → Int → Int → Option Int := fun x1 x2 x3 x4 x5 => ej E_f148 n (.loop cd_f148_2) 0 (sg_f148_0 x1 x2 x3 x4 x5) (q_f148_2 m0)
theorem st_f148_j0 (m0 n : Nat) : j0_f148 m0 (n + 1) = pack_word.S0 (j0_f148 m0 n) := by kernel_rfl
theorem J_f148_0 (m0 : Nat) : ∀ n : Nat, j0_f148 m0 n = pack_word.l0 n :=
  ind rfl fun n e0 => (st_f148_j0 m0 n).trans (by rw [e0]; rfl)
theorem st_f148 (m0 : Nat) (x : ArgsD P_f148) : run E_f148 b_f148 m0 x K_f148 = pack_word.S (j0_f148 m0 m0) x.1 x.2.1 x.2.2.1 := by kernel_rfl
abbrev sp_f148 : AM.Spec := AM.spec P_f148 R_f148 (fun x => pack_word x.1 x.2.1 x.2.2.1)
theorem c_f148 : Contract Tryz.prog 148 sp_f148 := ctrC tabOk (fn := Tryz.f148) (fun x => (st_f148 fu x).trans (by rw [J_f148_0 fu fu]; rfl)) (callsOk_of ⟨⟨c_f72, Tryz.call72, fun _ => words_spec rfl⟩, trivial⟩)
abbrev E_f126 : Env := tab.env (AM.look [(71, sp_f71), (148, sp_f148)]) ⟨[(0, ⟨tt [0, 2, 9, 49, 50], tt [48]⟩)], [], [(8, ⟨tt [0, 1, 2], []⟩)], ⟨tt [6, 7], tt [6, 48]⟩, [6, 9, 48, 53, 61], [71, 148], [], []⟩
def b_f126 : Code := bd Tryz.f126
abbrev R_f126 : List (Ty × List Tag) := [(k13d, []), (k13b, [])]
abbrev P_f126 : List PK := [.val .str, .val k13b, .val k13b]
abbrev K_f126 : K (ResD R_f126) := fin E_f126 [.tmp 6, .tmp 7] [] R_f126
def sg_f126_1 (x5 : ByteArray) (x6 x7 x8 : Int) (x9 : D13a) : St := mk [(0, .dat .str x5 []), (2, .dat k13b x6 []), (9, .slw 48 0), (49, .dat k13b x7 []), (50, .dat k13b x8 [])] [(48, some (.arr k13b x9 false))]
def sg_f126_0 (x2 : ByteArray) (x3 x4 : Int) : St := mk [(0, .dat .str x2 []), (1, .dat k13b x3 []), (2, .dat k13b x4 [])] []
def cd_f126_1 : Code := (rgt (rgt (rgt (rgt (rgt (rgt b_f126))))))
def q_f126_1 (m0 m1 : Nat) : K (ResD R_f126) := sqK E_f126 m1 cd_f126_1 0 K_f126
def q_f126_2 (m0 m1 : Nat) : K (ResD R_f126) := blockK 0 (q_f126_1 m0 m1)
def cd_f126_2 : Code := (lft (lft (rgt (lft (rgt (rgt (rgt (rgt (rgt b_f126)))))))))
def j1_f126 (m0 m1 n : Nat) : ByteArray → Int → Int → Int → D13a → Option D13h := fun x5 x6 x7 x8 x9 => ej E_f126 n (.loop cd_f126_2) 0 (sg_f126_1 x5 x6 x7 x8 x9) (q_f126_2 m0 m1)
theorem st_f126_j1 (m0 m1 n : Nat) : j1_f126 m0 m1 (n + 1) = pack_Take.S1 (j1_f126 m0 m1 n) := by kernel_rfl
theorem J_f126_1 (m0 m1 : Nat) : ∀ n : Nat, j1_f126 m0 m1 n = pack_Take.l1 n :=
  ind rfl fun n e1 => (st_f126_j1 m0 m1 n).trans (by rw [e1]; rfl)
def cd_f126_3 : Code := (rgt (rgt (rgt (rgt b_f126))))
def j0_f126 (m0 n : Nat) : ByteArray → Int → Int → Option D13h := fun x2 x3 x4 => ej E_f126 n (.tail cd_f126_3) 0 (sg_f126_0 x2 x3 x4) K_f126
theorem st_f126_j0 (m0 n : Nat) : j0_f126 m0 (n + 1) = pack_Take.S0 (j1_f126 m0 n n) := by kernel_rfl
theorem J_f126_0 (m0 : Nat) : ∀ n : Nat, j0_f126 m0 n = pack_Take.t0 n :=
  ind rfl fun n e0 => by
    have e1 : j1_f126 m0 n n = pack_Take.l1 n := J_f126_1 m0 n n
    rw [st_f126_j0 m0 n, e1]; rfl
theorem st_f126 (m0 : Nat) (x : ArgsD P_f126) : run E_f126 b_f126 m0 x K_f126 = pack_Take.S (j0_f126 m0 m0) x.1 x.2.1 x.2.2.1 := by kernel_rfl
abbrev sp_f126 : AM.Spec := AM.spec P_f126 R_f126 (fun x => pack_Take x.1 x.2.1 x.2.2.1)
theorem c_f126 : Contract Tryz.prog 126 sp_f126 := ctrC tabOk (fn := Tryz.f126) (fun x => (st_f126 fu x).trans (by rw [J_f126_0 fu fu]; rfl)) (callsOk_of ⟨⟨c_f71, Tryz.call71, fun _ => words_spec rfl⟩, ⟨⟨c_f148, Tryz.call148, fun _ => words_spec rfl⟩, trivial⟩⟩)
abbrev E_f149 : Env := tab.env (AM.look []) ⟨[(0, ⟨tt [0, 1, 7, 8], []⟩)], [], [], ⟨tt [4], []⟩, [], [], [], []⟩
def b_f149 : Code := bd Tryz.f149
abbrev R_f149 : List (Ty × List Tag) := [(k13b, [])]
abbrev P_f149 : List PK := [.val k13d, .val k13b]
abbrev K_f149 : K (ResD R_f149) := fin E_f149 [.tmp 4] [] R_f149
def sg_f149_0 (x1 : D13a) (x2 x3 x4 : Int) : St := mk [(0, .dat k13d x1 []), (1, .dat k13b x2 []), (7, .dat k13b x3 []), (8, .dat k13b x4 [])] []
def cd_f149_1 : Code := (rgt (rgt b_f149))
def q_f149_1 (m0 : Nat) : K (ResD R_f149) := sqK E_f149 m0 cd_f149_1 0 K_f149
def q_f149_2 (m0 : Nat) : K (ResD R_f149) := blockK 0 (q_f149_1 m0)
def cd_f149_2 : Code := (lft (lft (rgt (lft (rgt b_f149)))))
def j0_f149 (m0 n : Nat) : D13a → Int → Int → Int → Option Int := fun x1 x2 x3 x4 => ej E_f149 n (.loop cd_f149_2) 0 (sg_f149_0 x1 x2 x3 x4) (q_f149_2 m0)
theorem st_f149_j0 (m0 n : Nat) : j0_f149 m0 (n + 1) = slices_Index_int_int.S0 (j0_f149 m0 n) := by kernel_rfl
theorem J_f149_0 (m0 : Nat) : ∀ n : Nat, j0_f149 m0 n = slices_Index_int_int.l0 n :=
  ind rfl fun n e0 => (st_f149_j0 m0 n).trans (by rw [e0]; rfl)
theorem st_f149 (m0 : Nat) (x : ArgsD P_f149) : run E_f149 b_f149 m0 x K_f149 = slices_Index_int_int.S (j0_f149 m0 m0) x.1 x.2.1 := by kernel_rfl
abbrev sp_f149 : AM.Spec := AM.spec P_f149 R_f149 (fun x => slices_Index_int_int x.1 x.2.1)
theorem c_f149 : Contract Tryz.prog 149 sp_f149 := ctrC tabOk (fn := Tryz.f149) (fun x => (st_f149 fu x).trans (by rw [J_f149_0 fu fu]; rfl)) (callsOk_of trivial)
abbrev E_f127 : Env := tab.env (AM.look [(149, sp_f149)]) ⟨[], [], [], ⟨tt [4], []⟩, [], [149], [], []⟩
def b_f127 : Code := bd Tryz.f127
abbrev R_f127 : List (Ty × List Tag) := [(.bool, [])]
abbrev P_f127 : List PK := [.val k13d, .val k13b]
abbrev K_f127 : K (ResD R_f127) := fin E_f127 [.tmp 4] [] R_f127
abbrev sp_f127 : AM.Spec := AM.spec P_f127 R_f127 (fun x => slices_Contains_int_int x.1 x.2.1)
theorem c_f127 : Contract Tryz.prog 127 sp_f127 := ctrC tabOk (fn := Tryz.f127) (show ∀ x, run E_f127 b_f127 fu x K_f127 = _ from fun x => by kernel_rfl) (callsOk_of ⟨⟨c_f149, Tryz.call149, fun _ => words_spec rfl⟩, trivial⟩)
abbrev E_f95 : Env := tab.env (AM.look [(126, sp_f126), (127, sp_f127)]) ⟨[], [], [], ⟨tt [4, 5], tt [17]⟩, [], [127], [], []⟩
def b_f95 : Code := bd Tryz.f95
abbrev R_f95 : List (Ty × List Tag) := [(k13d, []), (k13b, [])]
abbrev P_f95 : List PK := [.val .str, .val k13b]
abbrev K_f95 : K (ResD R_f95) := fin E_f95 [.tmp 4, .tmp 5] [] R_f95
abbrev sp_f95 : AM.Spec := AM.spec P_f95 R_f95 (fun x => nulls_bits x.1 x.2.1)
theorem c_f95 : Contract Tryz.prog 95 sp_f95 := ctrC tabOk (fn := Tryz.f95) (show ∀ x, run E_f95 b_f95 fu x K_f95 = _ from fun x => by kernel_rfl) (callsOk_of ⟨⟨c_f126, Tryz.call126, nw⟩, ⟨⟨c_f127, Tryz.call127, fun _ => words_spec rfl⟩, trivial⟩⟩)
abbrev E_f55 : Env := tab.env (AM.look [(95, sp_f95)]) ⟨[(0, ⟨tt [7, 8, 17, 18, 19], []⟩)], [], [], ⟨tt [4, 5], []⟩, [], [], [], []⟩
def b_f55 : Code := bd Tryz.f55
abbrev R_f55 : List (Ty × List Tag) := [(k13b, []), (k13b, [])]
abbrev P_f55 : List PK := [.val .str, .val k13b]
abbrev K_f55 : K (ResD R_f55) := fin E_f55 [.tmp 4, .tmp 5] [] R_f55
def sg_f55_0 (x2 x3 : Int) (x4 : D13a) (x5 x6 : Int) : St := mk [(7, .dat k13b x2 []), (8, .dat k13b x3 []), (17, .dat k13d x4 []), (18, .dat k13b x5 []), (19, .dat k13b x6 [])] []
def cd_f55_1 : Code := (rgt (rgt (rgt (rgt b_f55))))
def q_f55_1 (m0 : Nat) : K (ResD R_f55) := sqK E_f55 m0 cd_f55_1 0 K_f55
def q_f55_2 (m0 : Nat) : K (ResD R_f55) := blockK 0 (q_f55_1 m0)
def cd_f55_2 : Code := (lft (lft (rgt (lft (rgt (rgt (rgt b_f55)))))))
def j0_f55 (m0 n : Nat) : Int → Int → D13a → Int → Int → Option D13b := fun x2 x3 x4 x5 x6 => ej E_f55 n (.loop cd_f55_2) 0 (sg_f55_0 x2 x3 x4 x5 x6) (q_f55_2 m0)
theorem st_f55_j0 (m0 n : Nat) : j0_f55 m0 (n + 1) = nulls_Count.S0 (j0_f55 m0 n) := by kernel_rfl
theorem J_f55_0 (m0 : Nat) : ∀ n : Nat, j0_f55 m0 n = nulls_Count.l0 n :=
  ind rfl fun n e0 => (st_f55_j0 m0 n).trans (by rw [e0]; rfl)
theorem st_f55 (m0 : Nat) (x : ArgsD P_f55) : run E_f55 b_f55 m0 x K_f55 = nulls_Count.S (j0_f55 m0 m0) x.1 x.2.1 := by kernel_rfl
abbrev sp_f55 : AM.Spec := AM.spec P_f55 R_f55 (fun x => nulls_Count x.1 x.2.1)
theorem c_f55 : Contract Tryz.prog 55 sp_f55 := ctrC tabOk (fn := Tryz.f55) (fun x => (st_f55 fu x).trans (by rw [J_f55_0 fu fu]; rfl)) (callsOk_of ⟨⟨c_f95, Tryz.call95, nw⟩, trivial⟩)
abbrev E_f128 : Env := tab.env (AM.look []) ⟨[(0, ⟨tt [0, 6, 27, 28], tt [26]⟩), (2, ⟨tt [0, 6, 7, 8, 27, 28, 31], tt [26]⟩)], [], [], ⟨tt [4, 5], tt [4, 26]⟩, [4, 6, 26, 47, 53], [], [], []⟩
def b_f128 : Code := bd Tryz.f128
abbrev R_f128 : List (Ty × List Tag) := [(k13d, []), (k13b, [])]
abbrev P_f128 : List PK := [.val .str, .val k13b]
abbrev K_f128 : K (ResD R_f128) := fin E_f128 [.tmp 4, .tmp 5] [] R_f128
def sg_f128_1 (x5 : ByteArray) (x6 x7 : Int) (x8 x9 x10 : Int) (x11 : D13a) : St := mk [(0, .dat .str x5 []), (6, .slw 26 0), (7, .dat k13b x6 []), (8, .dat (.int .u64) x7 []), (27, .dat k13b x8 []), (28, .dat k13b x9 []), (31, .dat k13b x10 [])] [(26, some (.arr k13b x11 false))]
def sg_f128_0 (x1 : ByteArray) (x2 x3 : Int) (x4 : D13a) : St := mk [(0, .dat .str x1 []), (6, .slw 26 0), (27, .dat k13b x2 []), (28, .dat k13b x3 [])] [(26, some (.arr k13b x4 false))]
def cd_f128_1 : Code := (rgt (rgt (rgt (rgt b_f128))))
def q_f128_1 (m0 : Nat) : K (ResD R_f128) := sqK E_f128 m0 cd_f128_1 0 K_f128
def q_f128_2 (m0 : Nat) : K (ResD R_f128) := blockK 0 (q_f128_1 m0)
def cd_f128_2 : Code := (lft (lft (rgt (lft (rgt (rgt (rgt b_f128)))))))
def j0_f128 (m0 n : Nat) : ByteArray → Int → Int → D13a → Option D13h := fun x1 x2 x3 x4 => ej E_f128 n (.loop cd_f128_2) 0 (sg_f128_0 x1 x2 x3 x4) (q_f128_2 m0)
def q_f128_3 (m0 m1 : Nat) : K (ResD R_f128) := lpK E_f128 m1 cd_f128_2 0 (q_f128_2 m0)
def cd_f128_3 : Code := (rgt (rgt (rgt cd_f128_2)))
def q_f128_4 (m0 m1 : Nat) : K (ResD R_f128) := sqK E_f128 m1 cd_f128_3 0 (q_f128_3 m0 m1)
def q_f128_5 (m0 m1 : Nat) : K (ResD R_f128) := blockK 1 (q_f128_4 m0 m1)
def cd_f128_4 : Code := (rgt (rgt (rgt (lft (lft (rgt (rgt cd_f128_2)))))))
def q_f128_6 (m0 m1 : Nat) : K (ResD R_f128) := sqK E_f128 m1 cd_f128_4 1 (q_f128_5 m0 m1)
def q_f128_7 (m0 m1 : Nat) : K (ResD R_f128) := blockK 2 (q_f128_6 m0 m1)
def cd_f128_5 : Code := (lft (lft (rgt (lft (rgt (rgt (lft (lft (rgt (rgt cd_f128_2))))))))))
def j1_f128 (m0 m1 n : Nat) : ByteArray → Int → Int → Int → Int → Int → D13a → Option D13h := fun x5 x6 x7 x8 x9 x10 x11 => ej E_f128 n (.loop cd_f128_5) 2 (sg_f128_1 x5 x6 x7 x8 x9 x10 x11) (q_f128_7 m0 m1)
theorem st_f128_j1 (m0 m1 n : Nat) : j1_f128 m0 m1 (n + 1) = plain_TakeInts.S1 (j0_f128 m0 m1) (j1_f128 m0 m1 n) := by kernel_rfl
theorem J_f128_1 (m0 m1 : Nat) : ∀ n : Nat, j1_f128 m0 m1 n = plain_TakeInts.l1 (j0_f128 m0 m1) n :=
  ind rfl fun n e1 => (st_f128_j1 m0 m1 n).trans (by rw [e1]; rfl)
theorem st_f128_j0 (m0 n : Nat) : j0_f128 m0 (n + 1) = plain_TakeInts.S0 (j1_f128 m0 n n) := by kernel_rfl
theorem J_f128_0 (m0 : Nat) : ∀ n : Nat, j0_f128 m0 n = plain_TakeInts.l0 n :=
  ind rfl fun n e0 => by
    have e1 : j1_f128 m0 n n = plain_TakeInts.l1 (plain_TakeInts.l0 n) n := by rw [← e0]; exact J_f128_1 m0 n n
    rw [st_f128_j0 m0 n, e1]; rfl
theorem st_f128 (m0 : Nat) (x : ArgsD P_f128) : run E_f128 b_f128 m0 x K_f128 = plain_TakeInts.S (j0_f128 m0 m0) x.1 x.2.1 := by kernel_rfl
abbrev sp_f128 : AM.Spec := AM.spec P_f128 R_f128 (fun x => plain_TakeInts x.1 x.2.1)
theorem c_f128 : Contract Tryz.prog 128 sp_f128 := ctrC tabOk (fn := Tryz.f128) (fun x => (st_f128 fu x).trans (by rw [J_f128_0 fu fu]; rfl)) (callsOk_of trivial)
abbrev E_f175 : Env := tab.env (AM.look []) ⟨[], [], [], ⟨tt [2], []⟩, [], [], [], []⟩
def b_f175 : Code := bd Tryz.f175
abbrev R_f175 : List (Ty × List Tag) := [(k13b, [])]
abbrev P_f175 : List PK := [.val k13b]
abbrev K_f175 : K (ResD R_f175) := fin E_f175 [.tmp 2] [] R_f175
abbrev sp_f175 : AM.Spec := AM.spec P_f175 R_f175 (fun x => some (bits_Zag x.1))
theorem c_f175 : Contract Tryz.prog 175 sp_f175 := ctrC tabOk (fn := Tryz.f175) (show ∀ x, run E_f175 b_f175 fu x K_f175 = _ from fun x => by kernel_rfl) (callsOk_of trivial)
abbrev E_f176 : Env := tab.env (AM.look [(118, sp_f118), (105, sp_f105)]) ⟨[], [], [], ⟨tt [2], []⟩, [], [105, 118], [], []⟩
def b_f176 : Code := bd Tryz.f176
abbrev R_f176 : List (Ty × List Tag) := [(k13b, [])]
abbrev P_f176 : List PK := [.val k13b]
abbrev K_f176 : K (ResD R_f176) := fin E_f176 [.tmp 2] [] R_f176
abbrev sp_f176 : AM.Spec := AM.spec P_f176 R_f176 (fun x => vint_Len x.1)
theorem c_f176 : Contract Tryz.prog 176 sp_f176 := ctrC tabOk (fn := Tryz.f176) (show ∀ x, run E_f176 b_f176 fu x K_f176 = _ from fun x => by kernel_rfl) (callsOk_of ⟨⟨c_f118, Tryz.call118, fun _ => words_spec rfl⟩, ⟨⟨c_f105, Tryz.call105, fun _ => words_spec rfl⟩, trivial⟩⟩)
abbrev E_f150 : Env := tab.env (AM.look [(175, sp_f175), (176, sp_f176)]) ⟨[(0, ⟨tt [0, 5, 11, 12], []⟩)], [], [], ⟨tt [2, 3, 4], []⟩, [], [175, 176], [], []⟩
def b_f150 : Code := bd Tryz.f150
abbrev R_f150 : List (Ty × List Tag) := [(k13b, []), (k13b, []), (k13b, [])]
abbrev P_f150 : List PK := [.val .str]
abbrev K_f150 : K (ResD R_f150) := fin E_f150 [.tmp 2, .tmp 3, .tmp 4] [] R_f150
def sg_f150_0 (x1 : ByteArray) (x2 x3 x4 : Int) : St := mk [(0, .dat .str x1 []), (5, .dat (.int .u64) x2 []), (11, .dat k13b x3 []), (12, .dat k13b x4 [])] []
def cd_f150_1 : Code := (rgt (rgt (rgt b_f150)))
def q_f150_1 (m0 : Nat) : K (ResD R_f150) := sqK E_f150 m0 cd_f150_1 0 K_f150
def q_f150_2 (m0 : Nat) : K (ResD R_f150) := blockK 0 (q_f150_1 m0)
def cd_f150_2 : Code := (lft (lft (rgt (lft (rgt (rgt b_f150))))))
def j0_f150 (m0 n : Nat) : ByteArray → Int → Int → Int → Option (Int × Int × Int) := fun x1 x2 x3 x4 => ej E_f150 n (.loop cd_f150_2) 0 (sg_f150_0 x1 x2 x3 x4) (q_f150_2 m0)
theorem st_f150_j0 (m0 n : Nat) : j0_f150 m0 (n + 1) = vint_Take.S0 (j0_f150 m0 n) := by kernel_rfl
theorem J_f150_0 (m0 : Nat) : ∀ n : Nat, j0_f150 m0 n = vint_Take.l0 n :=
  ind rfl fun n e0 => (st_f150_j0 m0 n).trans (by rw [e0]; rfl)
theorem st_f150 (m0 : Nat) (x : ArgsD P_f150) : run E_f150 b_f150 m0 x K_f150 = vint_Take.S (j0_f150 m0 m0) x.1 := by kernel_rfl
abbrev sp_f150 : AM.Spec := AM.spec P_f150 R_f150 (fun x => vint_Take x.1)
theorem c_f150 : Contract Tryz.prog 150 sp_f150 := ctrC tabOk (fn := Tryz.f150) (fun x => (st_f150 fu x).trans (by rw [J_f150_0 fu fu]; rfl)) (callsOk_of ⟨⟨c_f175, Tryz.call175, fun _ => words_spec rfl⟩, ⟨⟨c_f176, Tryz.call176, fun _ => words_spec rfl⟩, trivial⟩⟩)
abbrev E_f129 : Env := tab.env (AM.look [(150, sp_f150), (106, sp_f106)]) ⟨[(0, ⟨tt [0, 1, 6, 7], []⟩)], [], [(15, ⟨tt [1, 6, 7], []⟩)], ⟨tt [4, 5], []⟩, [], [106, 150], [], []⟩
def b_f129 : Code := bd Tryz.f129
abbrev R_f129 : List (Ty × List Tag) := [(k13j, [⟨0, 1, 0, 3⟩]), (k13b, [])]
abbrev P_f129 : List PK := [.val .str, .val k13b]
abbrev K_f129 : K (ResD R_f129) := fin E_f129 [.tmp 4, .tmp 5] [] R_f129
def sg_f129_1 (x7 : Int) (x8 : D13o) (x9 : Int) : St := mk [(1, .dat k13b x7 []), (6, .dat k13j x8 [⟨0, 385, 0, 3⟩]), (7, .dat k13b x9 [])] []
def sg_f129_0 (x1 : ByteArray) (x2 : Int) (x3 : D13o) (x4 : Int) : St := mk [(0, .dat .str x1 []), (1, .dat k13b x2 []), (6, .dat k13j x3 [⟨0, 385, 0, 3⟩]), (7, .dat k13b x4 [])] []
def cd_f129_1 : Code := (rgt (rgt (rgt (rgt (rgt b_f129)))))
def j1_f129 (m0 n : Nat) : Int → D13o → Int → Option D13v := fun x7 x8 x9 => ej E_f129 n (.tail cd_f129_1) 0 (sg_f129_1 x7 x8 x9) K_f129
theorem st_f129_j1 (m0 n : Nat) : j1_f129 m0 (n + 1) = runs_Take.S1 := by kernel_rfl
theorem J_f129_1 (m0 : Nat) : ∀ n : Nat, j1_f129 m0 n = runs_Take.t1 n :=
  ind rfl fun n _ => st_f129_j1 m0 n
def q_f129_1 (m0 : Nat) : K (ResD R_f129) := sqK E_f129 m0 cd_f129_1 0 K_f129
def q_f129_2 (m0 : Nat) : K (ResD R_f129) := blockK 0 (q_f129_1 m0)
def cd_f129_2 : Code := (lft (lft (lft (rgt (rgt (rgt (rgt b_f129)))))))
def j0_f129 (m0 n : Nat) : ByteArray → Int → D13o → Int → Option D13v := fun x1 x2 x3 x4 => ej E_f129 n (.loop cd_f129_2) 0 (sg_f129_0 x1 x2 x3 x4) (q_f129_2 m0)
theorem st_f129_j0 (m0 n : Nat) : j0_f129 m0 (n + 1) = runs_Take.S0 (j1_f129 m0 m0) (j0_f129 m0 n) := by kernel_rfl
theorem J_f129_0 (m0 : Nat) : ∀ n : Nat, j0_f129 m0 n = runs_Take.l0 (j1_f129 m0 m0) n :=
  ind rfl fun n e0 => (st_f129_j0 m0 n).trans (by rw [e0]; rfl)
theorem st_f129 (m0 : Nat) (x : ArgsD P_f129) : run E_f129 b_f129 m0 x K_f129 = runs_Take.S (j0_f129 m0 m0) x.1 x.2.1 := by kernel_rfl
abbrev sp_f129 : AM.Spec := AM.spec P_f129 R_f129 (fun x => runs_Take x.1 x.2.1)
theorem c_f129 : Contract Tryz.prog 129 sp_f129 := ctrC tabOk (fn := Tryz.f129) (show ∀ x, run E_f129 b_f129 fu x K_f129 = _ from fun x => by
  have e1 : j1_f129 fu fu = runs_Take.t1 fu := J_f129_1 fu fu
  have e0 : j0_f129 fu fu = runs_Take.l0 (runs_Take.t1 fu) fu := by rw [← e1]; exact J_f129_0 fu fu
  refine (st_f129 fu x).trans ?_
  rw [e0]; rfl) (callsOk_of ⟨⟨c_f150, Tryz.call150, fun _ => words_spec rfl⟩, ⟨⟨c_f106, Tryz.call106, fun _ => words_spec rfl⟩, trivial⟩⟩)
abbrev E_f190 : Env := tab.env (AM.look []) ⟨[], [], [], ⟨tt [4, 5], []⟩, [], [], [], []⟩
def b_f190 : Code := bd Tryz.f190
abbrev R_f190 : List (Ty × List Tag) := [((.int .u64), []), ((.int .u64), [])]
abbrev P_f190 : List PK := [.val (.int .u64), .val (.int .u64)]
abbrev K_f190 : K (ResD R_f190) := fin E_f190 [.tmp 4, .tmp 5] [] R_f190
abbrev sp_f190 : AM.Spec := AM.spec P_f190 R_f190 (fun x => some (math_bits_Mul64 x.1 x.2.1))
theorem c_f190 : Contract Tryz.prog 190 sp_f190 := ctrC tabOk (fn := Tryz.f190) (show ∀ x, run E_f190 b_f190 fu x K_f190 = _ from fun x => by kernel_rfl) (callsOk_of trivial)
abbrev E_f177 : Env := tab.env (AM.look [(190, sp_f190)]) ⟨[], [], [], ⟨tt [4, 5], []⟩, [], [190], [], []⟩
def b_f177 : Code := bd Tryz.f177
abbrev R_f177 : List (Ty × List Tag) := [((.int .u64), []), ((.int .u64), [])]
abbrev P_f177 : List PK := [.val (.int .u64), .val (.int .u64)]
abbrev K_f177 : K (ResD R_f177) := fin E_f177 [.tmp 4, .tmp 5] [] R_f177
abbrev sp_f177 : AM.Spec := AM.spec P_f177 R_f177 (fun x => some (math_bits_Mul x.1 x.2.1))
theorem c_f177 : Contract Tryz.prog 177 sp_f177 := ctrC tabOk (fn := Tryz.f177) (show ∀ x, run E_f177 b_f177 fu x K_f177 = _ from fun x => by kernel_rfl) (callsOk_of ⟨⟨c_f190, Tryz.call190, fun _ => words_spec rfl⟩, trivial⟩)
abbrev E_f151 : Env := tab.env (AM.look [(177, sp_f177)]) ⟨[(0, ⟨tt [7, 8], tt [30]⟩)], [], [(3, ⟨tt [0, 1], []⟩), (6, ⟨tt [0, 6], []⟩)], ⟨tt [4], tt [30]⟩, [4, 7, 30, 31, 35, 39, 41, 42, 44, 47], [177], [], []⟩
def b_f151 : Code := bd Tryz.f151
abbrev R_f151 : List (Ty × List Tag) := [(k13d, [])]
abbrev P_f151 : List PK := [.val k13d, .val k13b]
abbrev K_f151 : K (ResD R_f151) := fin E_f151 [.tmp 4] [] R_f151
def sg_f151_2 (x6 : Int) (x7 : D13a) : St := mk [(7, .slw 30 0), (8, .dat k13b x6 [])] [(30, some (.arr k13b x7 false))]
def sg_f151_1 (x4 : D13a) (x5 : Int) : St := mk [(0, .dat k13d x4 []), (6, .dat (.int .u64) x5 [])] []
def sg_f151_0 (x1 : D13a) (x2 : Int) : St := mk [(0, .dat k13d x1 []), (1, .dat k13b x2 [])] []
def cd_f151_1 : Code := (rgt (rgt (rgt (rgt (rgt (rgt (rgt b_f151)))))))
def q_f151_1 (m0 m1 m2 : Nat) : K (ResD R_f151) := sqK E_f151 m2 cd_f151_1 0 K_f151
def q_f151_2 (m0 m1 m2 : Nat) : K (ResD R_f151) := blockK 0 (q_f151_1 m0 m1 m2)
def cd_f151_2 : Code := (lft (lft (lft (rgt (rgt (rgt (rgt (rgt (rgt b_f151)))))))))
def j2_f151 (m0 m1 : Nat) (m2 n : Nat) : Int → D13a → Option D13d := fun x6 x7 => ej E_f151 n (.loop cd_f151_2) 0 (sg_f151_2 x6 x7) (q_f151_2 m0 m1 m2)
theorem st_f151_j2 (m0 m1 : Nat) (m2 n : Nat) : j2_f151 m0 m1 m2 (n + 1) = slices_Repeat_int_int.S2 (j2_f151 m0 m1 m2 n) := by kernel_rfl
theorem J_f151_2 (m0 m1 m2 : Nat) : ∀ n : Nat, j2_f151 m0 m1 m2 n = slices_Repeat_int_int.l2 n :=
  ind rfl fun n e2 => (st_f151_j2 m0 m1 m2 n).trans (by rw [e2]; rfl)
def cd_f151_3 : Code := (rgt (rgt (rgt (rgt b_f151))))
def j1_f151 (m0 n : Nat) : D13a → Int → Option D13d := fun x4 x5 => ej E_f151 n (.tail cd_f151_3) 0 (sg_f151_1 x4 x5) K_f151
theorem st_f151_j1 (m0 m1 n : Nat) : j1_f151 m0 (n + 1) = slices_Repeat_int_int.S1 (j2_f151 m0 m1 n n) := by kernel_rfl
theorem J_f151_1 (m0 m1 : Nat) : ∀ n : Nat, j1_f151 m0 n = slices_Repeat_int_int.t1 n :=
  ind rfl fun n e1 => by
    have e2 : j2_f151 m0 m1 n n = slices_Repeat_int_int.l2 n := J_f151_2 m0 m1 n n
    rw [st_f151_j1 m0 m1 n, e2]; rfl
def cd_f151_4 : Code := (rgt (rgt b_f151))
def j0_f151 (m0 n : Nat) : D13a → Int → Option D13d := fun x1 x2 => ej E_f151 n (.tail cd_f151_4) 0 (sg_f151_0 x1 x2) K_f151
theorem st_f151_j0 (m0 n : Nat) : j0_f151 m0 (n + 1) = slices_Repeat_int_int.S0 (j1_f151 m0 n) := by kernel_rfl
theorem J_f151_0 (m0 : Nat) : ∀ n : Nat, j0_f151 m0 n = slices_Repeat_int_int.t0 n :=
  ind rfl fun n e0 => by
    have e1 : j1_f151 m0 n = slices_Repeat_int_int.t1 n := J_f151_1 m0 n n
    rw [st_f151_j0 m0 n, e1]; rfl
theorem st_f151 (m0 : Nat) (x : ArgsD P_f151) : run E_f151 b_f151 m0 x K_f151 = slices_Repeat_int_int.S (j0_f151 m0 m0) x.1 x.2.1 := by kernel_rfl
abbrev sp_f151 : AM.Spec := AM.spec P_f151 R_f151 (fun x => slices_Repeat_int_int x.1 x.2.1)
theorem c_f151 : Contract Tryz.prog 151 sp_f151 := ctrC tabOk (fn := Tryz.f151) (fun x => (st_f151 fu x).trans (by rw [J_f151_0 fu fu]; rfl)) (callsOk_of ⟨⟨c_f177, Tryz.call177, fun _ => words_spec rfl⟩, trivial⟩)
abbrev E_f130 : Env := tab.env (AM.look [(106, sp_f106), (151, sp_f151)]) ⟨[(0, ⟨tt [6, 18, 19, 20], []⟩)], [], [], ⟨tt [2, 3], []⟩, [], [106], [], []⟩
def b_f130 : Code := bd Tryz.f130
abbrev R_f130 : List (Ty × List Tag) := [(k13d, [⟨0, 1, 0, 1⟩]), (k13b, [])]
abbrev P_f130 : List PK := [.val k13j]
abbrev K_f130 : K (ResD R_f130) := fin E_f130 [.tmp 2, .tmp 3] [] R_f130
def sg_f130_0 (x2 : D13a) (x3 : D13o) (x4 x5 : Int) : St := mk [(6, .dat k13d x2 [⟨0, 385, 0, 1⟩]), (18, .dat k13j x3 []), (19, .dat k13b x4 []), (20, .dat k13b x5 [])] []
def cd_f130_1 : Code := (rgt (rgt (rgt (rgt (rgt b_f130)))))
def q_f130_1 (m0 : Nat) : K (ResD R_f130) := sqK E_f130 m0 cd_f130_1 0 K_f130
def q_f130_2 (m0 : Nat) : K (ResD R_f130) := blockK 0 (q_f130_1 m0)
def cd_f130_2 : Code := (lft (lft (rgt (lft (rgt (rgt (rgt (rgt b_f130))))))))
def j0_f130 (m0 n : Nat) : D13a → D13o → Int → Int → Option D13h := fun x2 x3 x4 x5 => ej E_f130 n (.loop cd_f130_2) 0 (sg_f130_0 x2 x3 x4 x5) (q_f130_2 m0)
theorem st_f130_j0 (m0 n : Nat) : j0_f130 m0 (n + 1) = runs_Flat.S0 (j0_f130 m0 n) := by kernel_rfl
theorem J_f130_0 (m0 : Nat) : ∀ n : Nat, j0_f130 m0 n = runs_Flat.l0 n :=
  ind rfl fun n e0 => (st_f130_j0 m0 n).trans (by rw [e0]; rfl)
theorem st_f130 (m0 : Nat) (x : ArgsD P_f130) : run E_f130 b_f130 m0 x K_f130 = runs_Flat.S (j0_f130 m0 m0) x.1 := by kernel_rfl
abbrev sp_f130 : AM.Spec := AM.spec P_f130 R_f130 (fun x => runs_Flat x.1)
theorem c_f130 : Contract Tryz.prog 130 sp_f130 := ctrC tabOk (fn := Tryz.f130) (fun x => (st_f130 fu x).trans (by rw [J_f130_0 fu fu]; rfl)) (callsOk_of ⟨⟨c_f106, Tryz.call106, fun _ => words_spec rfl⟩, ⟨⟨c_f151, Tryz.call151, nw⟩, trivial⟩⟩)
abbrev E_f152 : Env := tab.env (AM.look [(150, sp_f150)]) ⟨[], [], [], ⟨tt [2], tt [1000000, 1000001]⟩, [], [150], [], []⟩
def b_f152 : Code := bd Tryz.f152
abbrev R_f152 : List (Ty × List Tag) := [(k13b, []), (.str, []), (.bool, [])]
abbrev P_f152 : List PK := [.io .str [], .io .bool []]
abbrev K_f152 : K (ResD R_f152) := fin E_f152 [.tmp 2] [.io .str [], .io .bool []] R_f152
abbrev sp_f152 : AM.Spec := AM.specIo 1 P_f152 R_f152 (fun x => frame_Take_1_w x.1 x.2.1)
theorem c_f152 : Contract Tryz.prog 152 sp_f152 := ctrI tabOk (fn := Tryz.f152) (show ∀ x, run E_f152 b_f152 fu x K_f152 = _ from fun x => by kernel_rfl) (callsOk_of ⟨⟨c_f150, Tryz.call150, fun _ => words_spec rfl⟩, trivial⟩)
abbrev E_f153 : Env := tab.env (AM.look []) ⟨[], [], [], ⟨tt [4], []⟩, [], [], [], []⟩
def b_f153 : Code := bd Tryz.f153
abbrev R_f153 : List (Ty × List Tag) := [(k13b, [])]
abbrev P_f153 : List PK := [.val k13b, .val k13b]
abbrev K_f153 : K (ResD R_f153) := fin E_f153 [.tmp 4] [] R_f153
abbrev sp_f153 : AM.Spec := AM.spec P_f153 R_f153 (fun x => some (frame_moved x.1 x.2.1))
theorem c_f153 : Contract Tryz.prog 153 sp_f153 := ctrC tabOk (fn := Tryz.f153) (show ∀ x, run E_f153 b_f153 fu x K_f153 = _ from fun x => by kernel_rfl) (callsOk_of trivial)
abbrev E_f131 : Env := tab.env (AM.look [(152, sp_f152), (126, sp_f126), (153, sp_f153), (76, sp_f76)]) ⟨[(0, ⟨tt [0, 6, 8, 10, 54, 55, 56], tt [8]⟩)], [], [(8, ⟨tt [0, 1, 6, 7, 8, 9], tt [7, 8]⟩), (20, ⟨tt [0, 6, 8], tt [8]⟩)], ⟨tt [4, 5], []⟩, [24], [76, 152, 153], [], []⟩
def b_f131 : Code := bd Tryz.f131
abbrev R_f131 : List (Ty × List Tag) := [(k13d, [⟨0, 1, 0, 1⟩]), (k13b, [])]
abbrev P_f131 : List PK := [.val .str, .val k13b]
abbrev K_f131 : K (ResD R_f131) := fin E_f131 [.tmp 4, .tmp 5] [] R_f131
def sg_f131_2 (x18 : ByteArray) (x19 : D13a) (x20 : Bool) : St := mk [(0, .dat .str x18 []), (6, .dat k13d x19 [⟨0, 385, 0, 1⟩]), (8, .ptr 8 0 0)] [(8, some (.var .bool x20 []))]
def sg_f131_1 (x9 : ByteArray) (x10 : D13a) (x11 : Int) (x12 : D13a) (x13 x14 : Int) (x15 : Bool) : St := mk [(0, .dat .str x9 []), (6, .dat k13d x10 [⟨0, 385, 0, 1⟩]), (8, .ptr 8 0 0), (10, .dat k13b x11 []), (54, .dat k13d x12 []), (55, .dat k13b x13 []), (56, .dat k13b x14 [])] [(8, some (.var .bool x15 []))]
def sg_f131_0 (x2 : ByteArray) (x3 : Int) (x4 : D13a) (x5 : ByteArray) (x6 : Bool) : St := mk [(0, .dat .str x2 []), (1, .dat k13b x3 []), (6, .dat k13d x4 [⟨0, 385, 0, 1⟩]), (7, .ptr 7 0 0), (8, .ptr 8 0 0), (9, .clo 152 [(7, 0), (8, 0)])] [(7, some (.var .str x5 [])), (8, some (.var .bool x6 []))]
def cd_f131_1 : Code := (rgt (rgt (rgt (rgt (rgt (rgt (rgt b_f131)))))))
def j2_f131 (m0 n : Nat) : ByteArray → D13a → Bool → Option D13h := fun x18 x19 x20 => ej E_f131 n (.tail cd_f131_1) 0 (sg_f131_2 x18 x19 x20) K_f131
theorem st_f131_j2 (m0 m1 n : Nat) : j2_f131 m0 (n + 1) = frame_Take.S2 := by kernel_rfl
theorem J_f131_2 (m0 m1 : Nat) : ∀ n : Nat, j2_f131 m0 n = frame_Take.t2 n :=
  ind rfl fun n _ => st_f131_j2 m0 m1 n
def q_f131_1 (m0 m1 : Nat) : K (ResD R_f131) := sqK E_f131 m1 cd_f131_1 0 K_f131
def q_f131_2 (m0 m1 : Nat) : K (ResD R_f131) := blockK 0 (q_f131_1 m0 m1)
def cd_f131_2 : Code := (lft (lft (rgt (rgt (rgt (rgt (rgt (lft (rgt (lft (rgt (rgt (rgt (rgt (rgt (rgt b_f131))))))))))))))))
def j1_f131 (m0 m1 n : Nat) : ByteArray → D13a → Int → D13a → Int → Int → Bool → Option D13h := fun x9 x10 x11 x12 x13 x14 x15 => ej E_f131 n (.loop cd_f131_2) 0 (sg_f131_1 x9 x10 x11 x12 x13 x14 x15) (q_f131_2 m0 m1)
theorem st_f131_j1 (m0 m1 n : Nat) : j1_f131 m0 m1 (n + 1) = frame_Take.S1 (j2_f131 m0 m1) (j1_f131 m0 m1 n) := by kernel_rfl
theorem J_f131_1 (m0 m1 : Nat) : ∀ n : Nat, j1_f131 m0 m1 n = frame_Take.l1 (j2_f131 m0 m1) n :=
  ind rfl fun n e1 => (st_f131_j1 m0 m1 n).trans (by rw [e1]; rfl)
def cd_f131_3 : Code := (rgt (rgt (rgt (rgt (rgt (rgt b_f131))))))
def j0_f131 (m0 n : Nat) : ByteArray → Int → D13a → ByteArray → Bool → Option D13h := fun x2 x3 x4 x5 x6 => ej E_f131 n (.tail cd_f131_3) 0 (sg_f131_0 x2 x3 x4 x5 x6) K_f131
theorem st_f131_j0 (m0 n : Nat) : j0_f131 m0 (n + 1) = frame_Take.S0 (j1_f131 m0 n n) (j2_f131 m0 n) := by kernel_rfl
theorem J_f131_0 (m0 : Nat) : ∀ n : Nat, j0_f131 m0 n = frame_Take.t0 n :=
  ind rfl fun n e0 => by
    have e2 : j2_f131 m0 n = frame_Take.t2 n := J_f131_2 m0 n n
    have e1 : j1_f131 m0 n n = frame_Take.l1 (frame_Take.t2 n) n := by rw [← e2]; exact J_f131_1 m0 n n
    rw [st_f131_j0 m0 n, e1, e2]; rfl
theorem st_f131 (m0 : Nat) (x : ArgsD P_f131) : run E_f131 b_f131 m0 x K_f131 = frame_Take.S (j0_f131 m0 m0) x.1 x.2.1 := by kernel_rfl
abbrev sp_f131 : AM.Spec := AM.spec P_f131 R_f131 (fun x => frame_Take x.1 x.2.1)
theorem c_f131 : Contract Tryz.prog 131 sp_f131 := ctrC tabOk (fn := Tryz.f131) (fun x => (st_f131 fu x).trans (by rw [J_f131_0 fu fu]; rfl)) (callsOk_of ⟨⟨c_f152, Tryz.call152, fun _ => words_io rfl⟩, ⟨⟨c_f126, Tryz.call126, nw⟩, ⟨⟨c_f153, Tryz.call153, fun _ => words_spec rfl⟩, ⟨⟨c_f76, Tryz.call76, fun _ => words_spec rfl⟩, trivial⟩⟩⟩⟩)
abbrev E_f155 : Env := tab.env (AM.look [(150, sp_f150)]) ⟨[], [], [], ⟨tt [2, 3], []⟩, [], [150], [], []⟩
def b_f155 : Code := bd Tryz.f155
abbrev R_f155 : List (Ty × List Tag) := [(k13b, []), (k13b, [])]
abbrev P_f155 : List PK := [.val .str]
abbrev K_f155 : K (ResD R_f155) := fin E_f155 [.tmp 2, .tmp 3] [] R_f155
abbrev sp_f155 : AM.Spec := AM.spec P_f155 R_f155 (fun x => dict_TakeInts_1 x.1)
theorem c_f155 : Contract Tryz.prog 155 sp_f155 := ctrC tabOk (fn := Tryz.f155) (show ∀ x, run E_f155 b_f155 fu x K_f155 = _ from fun x => by kernel_rfl) (callsOk_of ⟨⟨c_f150, Tryz.call150, fun _ => words_spec rfl⟩, trivial⟩)
abbrev E_f191 : Env := tab.env (AM.look []) ⟨[(0, ⟨tt [0, 1, 7, 8], []⟩)], [], [], ⟨tt [4], []⟩, [], [], [], []⟩
def b_f191 : Code := bd Tryz.f191
abbrev R_f191 : List (Ty × List Tag) := [(k13b, [])]
abbrev P_f191 : List PK := [.val (.sl .bool), .val .bool]
abbrev K_f191 : K (ResD R_f191) := fin E_f191 [.tmp 4] [] R_f191
def sg_f191_0 (x1 : D13c) (x2 : Bool) (x3 x4 : Int) : St := mk [(0, .dat (.sl .bool) x1 []), (1, .dat .bool x2 []), (7, .dat k13b x3 []), (8, .dat k13b x4 [])] []
def cd_f191_1 : Code := (rgt (rgt b_f191))
def q_f191_1 (m0 : Nat) : K (ResD R_f191) := sqK E_f191 m0 cd_f191_1 0 K_f191
def q_f191_2 (m0 : Nat) : K (ResD R_f191) := blockK 0 (q_f191_1 m0)
def cd_f191_2 : Code := (lft (lft (rgt (lft (rgt b_f191)))))
def j0_f191 (m0 n : Nat) : D13c → Bool → Int → Int → Option Int := fun x1 x2 x3 x4 => ej E_f191 n (.loop cd_f191_2) 0 (sg_f191_0 x1 x2 x3 x4) (q_f191_2 m0)
theorem st_f191_j0 (m0 n : Nat) : j0_f191 m0 (n + 1) = slices_Index_bool_bool.S0 (j0_f191 m0 n) := by kernel_rfl
theorem J_f191_0 (m0 : Nat) : ∀ n : Nat, j0_f191 m0 n = slices_Index_bool_bool.l0 n :=
  ind rfl fun n e0 => (st_f191_j0 m0 n).trans (by rw [e0]; rfl)
theorem st_f191 (m0 : Nat) (x : ArgsD P_f191) : run E_f191 b_f191 m0 x K_f191 = slices_Index_bool_bool.S (j0_f191 m0 m0) x.1 x.2.1 := by kernel_rfl
abbrev sp_f191 : AM.Spec := AM.spec P_f191 R_f191 (fun x => slices_Index_bool_bool x.1 x.2.1)
theorem c_f191 : Contract Tryz.prog 191 sp_f191 := ctrC tabOk (fn := Tryz.f191) (fun x => (st_f191 fu x).trans (by rw [J_f191_0 fu fu]; rfl)) (callsOk_of trivial)
abbrev E_f178 : Env := tab.env (AM.look [(191, sp_f191)]) ⟨[], [], [], ⟨tt [4], []⟩, [], [191], [], []⟩
def b_f178 : Code := bd Tryz.f178
abbrev R_f178 : List (Ty × List Tag) := [(.bool, [])]
abbrev P_f178 : List PK := [.val (.sl .bool), .val .bool]
abbrev K_f178 : K (ResD R_f178) := fin E_f178 [.tmp 4] [] R_f178
abbrev sp_f178 : AM.Spec := AM.spec P_f178 R_f178 (fun x => slices_Contains_bool_bool x.1 x.2.1)
theorem c_f178 : Contract Tryz.prog 178 sp_f178 := ctrC tabOk (fn := Tryz.f178) (show ∀ x, run E_f178 b_f178 fu x K_f178 = _ from fun x => by kernel_rfl) (callsOk_of ⟨⟨c_f191, Tryz.call191, fun _ => words_spec rfl⟩, trivial⟩)
abbrev E_f154 : Env := tab.env (AM.look [(150, sp_f150), (155, sp_f155), (70, sp_f70), (126, sp_f126), (178, sp_f178)]) ⟨[(0, ⟨tt [0, 1, 2, 9, 10, 12, 47, 48], []⟩), (2, ⟨tt [9, 12, 16, 17, 98, 99, 100], tt [97]⟩)], [], [(20, ⟨tt [0, 1, 9, 10, 12], []⟩), (31, ⟨tt [12, 16, 17], tt [97]⟩)], ⟨tt [6, 7, 8], []⟩, [17, 97, 111, 115], [70, 150, 155, 178], [], [89]⟩
def b_f154 : Code := bd Tryz.f154
abbrev R_f154 : List (Ty × List Tag) := [(k13d, [⟨0, 1, 0, 1⟩]), (k13d, []), (k13b, [])]
abbrev P_f154 : List PK := [.val .str, .val k13b, .fn 155 []]
abbrev K_f154 : K (ResD R_f154) := fin E_f154 [.tmp 6, .tmp 7, .tmp 8] [] R_f154
def sg_f154_3 (x24 x25 : D13a) (x26 : D13c) : St := mk [(12, .dat k13d x24 [⟨0, 769, 0, 1⟩]), (16, .dat k13d x25 []), (17, .slw 97 0)] [(97, some (.arr .bool x26 false))]
def sg_f154_2 (x17 : Int) (x18 x19 x20 : D13a) (x21 x22 : Int) (x23 : D13c) : St := mk [(9, .dat k13b x17 []), (12, .dat k13d x18 [⟨0, 769, 0, 1⟩]), (16, .dat k13d x19 []), (17, .slw 97 0), (98, .dat k13d x20 []), (99, .dat k13b x21 []), (100, .dat k13b x22 [])] [(97, some (.arr .bool x23 false))]
def sg_f154_1 (x10 : ByteArray) (x11 x12 x13 : Int) (x14 : D13a) : St := mk [(0, .dat .str x10 []), (1, .dat k13b x11 []), (9, .dat k13b x12 []), (10, .dat k13b x13 []), (12, .dat k13d x14 [⟨0, 769, 0, 1⟩])] []
def sg_f154_0 (x2 : ByteArray) (x3 x4 x5 : Int) (x6 : D13a) (x7 x8 : Int) : St := mk [(0, .dat .str x2 []), (1, .dat k13b x3 []), (2, .fn 155 []), (9, .dat k13b x4 []), (10, .dat k13b x5 []), (12, .dat k13d x6 [⟨0, 769, 0, 1⟩]), (47, .dat k13b x7 []), (48, .dat k13b x8 [])] []
def cd_f154_1 : Code := (rgt (rgt (rgt (rgt (rgt (rgt (rgt (rgt (rgt (rgt (rgt b_f154)))))))))))
def j3_f154 (m0 n : Nat) : D13a → D13a → D13c → Option D13s := fun x24 x25 x26 => ej E_f154 n (.tail cd_f154_1) 0 (sg_f154_3 x24 x25 x26) K_f154
theorem st_f154_j3 (m0 m1 n : Nat) : j3_f154 m0 (n + 1) = dict_take_int__dict_TakeInts_1.S3 := by kernel_rfl
theorem J_f154_3 (m0 m1 : Nat) : ∀ n : Nat, j3_f154 m0 n = dict_take_int__dict_TakeInts_1.t3 n :=
  ind rfl fun n _ => st_f154_j3 m0 m1 n
def q_f154_1 (m0 m1 : Nat) : K (ResD R_f154) := sqK E_f154 m1 cd_f154_1 0 K_f154
def q_f154_2 (m0 m1 : Nat) : K (ResD R_f154) := blockK 2 (q_f154_1 m0 m1)
def cd_f154_2 : Code := (lft (lft (rgt (lft (rgt (rgt (rgt (rgt (rgt (rgt (rgt (rgt (rgt (rgt b_f154))))))))))))))
def j2_f154 (m0 m1 n : Nat) : Int → D13a → D13a → D13a → Int → Int → D13c → Option D13s := fun x17 x18 x19 x20 x21 x22 x23 => ej E_f154 n (.loop cd_f154_2) 2 (sg_f154_2 x17 x18 x19 x20 x21 x22 x23) (q_f154_2 m0 m1)
theorem st_f154_j2 (m0 m1 n : Nat) : j2_f154 m0 m1 (n + 1) = dict_take_int__dict_TakeInts_1.S2 (j3_f154 m0 m1) (j2_f154 m0 m1 n) := by kernel_rfl
theorem J_f154_2 (m0 m1 : Nat) : ∀ n : Nat, j2_f154 m0 m1 n = dict_take_int__dict_TakeInts_1.l2 (j3_f154 m0 m1) n :=
  ind rfl fun n e2 => (st_f154_j2 m0 m1 n).trans (by rw [e2]; rfl)
def cd_f154_3 : Code := (rgt (rgt (rgt (rgt (rgt (rgt (rgt b_f154)))))))
def j1_f154 (m0 n : Nat) : ByteArray → Int → Int → Int → D13a → Option D13s := fun x10 x11 x12 x13 x14 => ej E_f154 n (.tail cd_f154_3) 0 (sg_f154_1 x10 x11 x12 x13 x14) K_f154
theorem st_f154_j1 (m0 n : Nat) : j1_f154 m0 (n + 1) = dict_take_int__dict_TakeInts_1.S1 (j2_f154 m0 n n) := by kernel_rfl
theorem J_f154_1 (m0 : Nat) : ∀ n : Nat, j1_f154 m0 n = dict_take_int__dict_TakeInts_1.t1 n :=
  ind rfl fun n e1 => by
    have e3 : j3_f154 m0 n = dict_take_int__dict_TakeInts_1.t3 n := J_f154_3 m0 n n
    have e2 : j2_f154 m0 n n = dict_take_int__dict_TakeInts_1.l2 (dict_take_int__dict_TakeInts_1.t3 n) n := by rw [← e3]; exact J_f154_2 m0 n n
    rw [st_f154_j1 m0 n, e2]; rfl
def q_f154_3 (m0 : Nat) : K (ResD R_f154) := sqK E_f154 m0 cd_f154_3 0 K_f154
def q_f154_4 (m0 : Nat) : K (ResD R_f154) := blockK 0 (q_f154_3 m0)
def cd_f154_4 : Code := (lft (lft (rgt (lft (rgt (rgt (rgt (rgt (rgt (rgt b_f154))))))))))
def j0_f154 (m0 n : Nat) : ByteArray → Int → Int → Int → D13a → Int → Int → Option D13s := fun x2 x3 x4 x5 x6 x7 x8 => ej E_f154 n (.loop cd_f154_4) 0 (sg_f154_0 x2 x3 x4 x5 x6 x7 x8) (q_f154_4 m0)
theorem st_f154_j0 (m0 n : Nat) : j0_f154 m0 (n + 1) = dict_take_int__dict_TakeInts_1.S0 (j1_f154 m0 m0) (j0_f154 m0 n) := by kernel_rfl
theorem J_f154_0 (m0 : Nat) : ∀ n : Nat, j0_f154 m0 n = dict_take_int__dict_TakeInts_1.l0 (j1_f154 m0 m0) n :=
  ind rfl fun n e0 => (st_f154_j0 m0 n).trans (by rw [e0]; rfl)
theorem st_f154 (m0 : Nat) (x : ArgsD P_f154) : run E_f154 b_f154 m0 x K_f154 = dict_take_int__dict_TakeInts_1.S (j0_f154 m0 m0) x.1 x.2.1 := by kernel_rfl
abbrev sp_f154 : AM.Spec := AM.spec P_f154 R_f154 (fun x => dict_take_int__dict_TakeInts_1 x.1 x.2.1)
theorem c_f154 : Contract Tryz.prog 154 sp_f154 := ctrC tabOk (fn := Tryz.f154) (show ∀ x, run E_f154 b_f154 fu x K_f154 = _ from fun x => by
  have e1 : j1_f154 fu fu = dict_take_int__dict_TakeInts_1.t1 fu := J_f154_1 fu fu
  have e0 : j0_f154 fu fu = dict_take_int__dict_TakeInts_1.l0 (dict_take_int__dict_TakeInts_1.t1 fu) fu := by rw [← e1]; exact J_f154_0 fu fu
  refine (st_f154 fu x).trans ?_
  rw [e0]; rfl) (callsOk_of ⟨⟨c_f150, Tryz.call150, fun _ => words_spec rfl⟩, ⟨⟨c_f155, Tryz.call155, fun _ => words_spec rfl⟩, ⟨⟨c_f70, Tryz.call70, fun _ => words_spec rfl⟩, ⟨⟨c_f126, Tryz.call126, nw⟩, ⟨⟨c_f178, Tryz.call178, fun _ => words_spec rfl⟩, trivial⟩⟩⟩⟩⟩)
abbrev E_f156 : Env := tab.env (AM.look []) ⟨[(0, ⟨tt [0, 5, 8, 9, 10], []⟩)], [], [], ⟨tt [4], []⟩, [], [], [], []⟩
def b_f156 : Code := bd Tryz.f156
abbrev R_f156 : List (Ty × List Tag) := [(k13d, [⟨0, 1, 0, 1⟩])]
abbrev P_f156 : List PK := [.val k13d, .val k13d]
abbrev K_f156 : K (ResD R_f156) := fin E_f156 [.tmp 4] [] R_f156
def sg_f156_0 (x1 x2 x3 : D13a) (x4 x5 : Int) : St := mk [(0, .dat k13d x1 []), (5, .dat k13d x2 [⟨0, 321, 0, 1⟩]), (8, .dat k13d x3 []), (9, .dat k13b x4 []), (10, .dat k13b x5 [])] []
def cd_f156_1 : Code := (rgt (rgt (rgt b_f156)))
def q_f156_1 (m0 : Nat) : K (ResD R_f156) := sqK E_f156 m0 cd_f156_1 0 K_f156
def q_f156_2 (m0 : Nat) : K (ResD R_f156) := blockK 0 (q_f156_1 m0)
def cd_f156_2 : Code := (lft (lft (rgt (lft (rgt (rgt b_f156))))))
def j0_f156 (m0 n : Nat) : D13a → D13a → D13a → Int → Int → Option D13d := fun x1 x2 x3 x4 x5 => ej E_f156 n (.loop cd_f156_2) 0 (sg_f156_0 x1 x2 x3 x4 x5) (q_f156_2 m0)
theorem st_f156_j0 (m0 n : Nat) : j0_f156 m0 (n + 1) = dict_flat_int.S0 (j0_f156 m0 n) := by kernel_rfl
theorem J_f156_0 (m0 : Nat) : ∀ n : Nat, j0_f156 m0 n = dict_flat_int.l0 n :=
  ind rfl fun n e0 => (st_f156_j0 m0 n).trans (by rw [e0]; rfl)
theorem st_f156 (m0 : Nat) (x : ArgsD P_f156) : run E_f156 b_f156 m0 x K_f156 = dict_flat_int.S (j0_f156 m0 m0) x.1 x.2.1 := by kernel_rfl
abbrev sp_f156 : AM.Spec := AM.spec P_f156 R_f156 (fun x => dict_flat_int x.1 x.2.1)
theorem c_f156 : Contract Tryz.prog 156 sp_f156 := ctrC tabOk (fn := Tryz.f156) (fun x => (st_f156 fu x).trans (by rw [J_f156_0 fu fu]; rfl)) (callsOk_of trivial)
abbrev E_f132 : Env := tab.env (AM.look [(154, sp_f154), (156, sp_f156)]) ⟨[], [], [], ⟨tt [4, 5], []⟩, [], [], [], []⟩
def b_f132 : Code := bd Tryz.f132
abbrev R_f132 : List (Ty × List Tag) := [(k13d, [⟨0, 1, 0, 1⟩]), (k13b, [])]
abbrev P_f132 : List PK := [.val .str, .val k13b]
abbrev K_f132 : K (ResD R_f132) := fin E_f132 [.tmp 4, .tmp 5] [] R_f132
abbrev sp_f132 : AM.Spec := AM.spec P_f132 R_f132 (fun x => dict_TakeInts x.1 x.2.1)
theorem c_f132 : Contract Tryz.prog 132 sp_f132 := ctrC tabOk (fn := Tryz.f132) (show ∀ x, run E_f132 b_f132 fu x K_f132 = _ from fun x => by kernel_rfl) (callsOk_of ⟨⟨c_f154, Tryz.call154, nw⟩, ⟨⟨c_f156, Tryz.call156, nw⟩, trivial⟩⟩)
abbrev E_f96 : Env := tab.env (AM.look [(128, sp_f128), (129, sp_f129), (130, sp_f130), (131, sp_f131), (132, sp_f132), (126, sp_f126)]) ⟨[], [], [], ⟨tt [6, 7], []⟩, [], [], [], []⟩
def b_f96 : Code := bd Tryz.f96
abbrev R_f96 : List (Ty × List Tag) := [(k13d, []), (k13b, [])]
abbrev P_f96 : List PK := [.val .str, .val k13b, .val k13b]
abbrev K_f96 : K (ResD R_f96) := fin E_f96 [.tmp 6, .tmp 7] [] R_f96
abbrev sp_f96 : AM.Spec := AM.spec P_f96 R_f96 (fun x => block_ints x.1 x.2.1 x.2.2.1)
theorem c_f96 : Contract Tryz.prog 96 sp_f96 := ctrC tabOk (fn := Tryz.f96) (show ∀ x, run E_f96 b_f96 fu x K_f96 = _ from fun x => by kernel_rfl) (callsOk_of ⟨⟨c_f128, Tryz.call128, nw⟩, ⟨⟨c_f129, Tryz.call129, nw⟩, ⟨⟨c_f130, Tryz.call130, nw⟩, ⟨⟨c_f131, Tryz.call131, nw⟩, ⟨⟨c_f132, Tryz.call132, nw⟩, ⟨⟨c_f126, Tryz.call126, nw⟩, trivial⟩⟩⟩⟩⟩⟩)
abbrev E_f133 : Env := tab.env (AM.look []) ⟨[(0, ⟨tt [0, 1, 6], []⟩)], [], [(8, ⟨tt [1, 6], []⟩)], ⟨tt [4, 5], []⟩, [], [], [], []⟩
def b_f133 : Code := bd Tryz.f133
abbrev R_f133 : List (Ty × List Tag) := [(k13a, [⟨0, 1, 0, 1⟩]), (k13b, [])]
abbrev P_f133 : List PK := [.val .str, .val k13b]
abbrev K_f133 : K (ResD R_f133) := fin E_f133 [.tmp 4, .tmp 5] [] R_f133
def sg_f133_1 (x4 : Int) (x5 : D13e) : St := mk [(1, .dat k13b x4 []), (6, .dat k13a x5 [⟨0, 385, 0, 1⟩])] []
def sg_f133_0 (x1 : ByteArray) (x2 : Int) (x3 : D13e) : St := mk [(0, .dat .str x1 []), (1, .dat k13b x2 []), (6, .dat k13a x3 [⟨0, 385, 0, 1⟩])] []
def cd_f133_1 : Code := (rgt (rgt (rgt b_f133)))
def j1_f133 (m0 n : Nat) : Int → D13e → Option D13l := fun x4 x5 => ej E_f133 n (.tail cd_f133_1) 0 (sg_f133_1 x4 x5) K_f133
theorem st_f133_j1 (m0 n : Nat) : j1_f133 m0 (n + 1) = plain_TakeTexts.S1 := by kernel_rfl
theorem J_f133_1 (m0 : Nat) : ∀ n : Nat, j1_f133 m0 n = plain_TakeTexts.t1 n :=
  ind rfl fun n _ => st_f133_j1 m0 n
def q_f133_1 (m0 : Nat) : K (ResD R_f133) := sqK E_f133 m0 cd_f133_1 0 K_f133
def q_f133_2 (m0 : Nat) : K (ResD R_f133) := blockK 0 (q_f133_1 m0)
def cd_f133_2 : Code := (lft (lft (lft (rgt (rgt b_f133)))))
def j0_f133 (m0 n : Nat) : ByteArray → Int → D13e → Option D13l := fun x1 x2 x3 => ej E_f133 n (.loop cd_f133_2) 0 (sg_f133_0 x1 x2 x3) (q_f133_2 m0)
theorem st_f133_j0 (m0 n : Nat) : j0_f133 m0 (n + 1) = plain_TakeTexts.S0 (j1_f133 m0 m0) (j0_f133 m0 n) := by kernel_rfl
theorem J_f133_0 (m0 : Nat) : ∀ n : Nat, j0_f133 m0 n = plain_TakeTexts.l0 (j1_f133 m0 m0) n :=
  ind rfl fun n e0 => (st_f133_j0 m0 n).trans (by rw [e0]; rfl)
theorem st_f133 (m0 : Nat) (x : ArgsD P_f133) : run E_f133 b_f133 m0 x K_f133 = plain_TakeTexts.S (j0_f133 m0 m0) x.1 x.2.1 := by kernel_rfl
abbrev sp_f133 : AM.Spec := AM.spec P_f133 R_f133 (fun x => plain_TakeTexts x.1 x.2.1)
theorem c_f133 : Contract Tryz.prog 133 sp_f133 := ctrC tabOk (fn := Tryz.f133) (show ∀ x, run E_f133 b_f133 fu x K_f133 = _ from fun x => by
  have e1 : j1_f133 fu fu = plain_TakeTexts.t1 fu := J_f133_1 fu fu
  have e0 : j0_f133 fu fu = plain_TakeTexts.l0 (plain_TakeTexts.t1 fu) fu := by rw [← e1]; exact J_f133_0 fu fu
  refine (st_f133 fu x).trans ?_
  rw [e0]; rfl) (callsOk_of trivial)
abbrev E_f134 : Env := tab.env (AM.look [(150, sp_f150), (129, sp_f129), (130, sp_f130)]) ⟨[(0, ⟨tt [0, 1, 6, 7, 9, 37, 38], []⟩), (2, ⟨tt [6, 9, 13, 91, 92, 93], []⟩)], [], [(17, ⟨tt [0, 1, 6, 7, 9], []⟩)], ⟨tt [4, 5], []⟩, [], [150], [], []⟩
def b_f134 : Code := bd Tryz.f134
abbrev R_f134 : List (Ty × List Tag) := [(k13a, [⟨0, 1, 0, 1⟩]), (k13b, [])]
abbrev P_f134 : List PK := [.val .str, .val k13b]
abbrev K_f134 : K (ResD R_f134) := fin E_f134 [.tmp 4, .tmp 5] [] R_f134
def sg_f134_2 (x16 : Int) (x17 x18 : D13e) (x19 : D13a) (x20 x21 : Int) : St := mk [(6, .dat k13b x16 []), (9, .dat k13a x17 [⟨0, 577, 0, 1⟩]), (13, .dat k13a x18 [⟨0, 833, 0, 1⟩]), (91, .dat k13d x19 [⟨0, 5825, 0, 1⟩]), (92, .dat k13b x20 []), (93, .dat k13b x21 [])] []
def sg_f134_1 (x9 : ByteArray) (x10 x11 x12 : Int) (x13 : D13e) : St := mk [(0, .dat .str x9 []), (1, .dat k13b x10 []), (6, .dat k13b x11 []), (7, .dat k13b x12 []), (9, .dat k13a x13 [⟨0, 577, 0, 1⟩])] []
def sg_f134_0 (x2 : ByteArray) (x3 x4 x5 : Int) (x6 : D13e) (x7 x8 : Int) : St := mk [(0, .dat .str x2 []), (1, .dat k13b x3 []), (6, .dat k13b x4 []), (7, .dat k13b x5 []), (9, .dat k13a x6 [⟨0, 577, 0, 1⟩]), (37, .dat k13b x7 []), (38, .dat k13b x8 [])] []
def cd_f134_1 : Code := (rgt (rgt (rgt (rgt (rgt (rgt (rgt (rgt (rgt (rgt (rgt (rgt b_f134))))))))))))
def q_f134_1 (m0 m1 : Nat) : K (ResD R_f134) := sqK E_f134 m1 cd_f134_1 0 K_f134
def q_f134_2 (m0 m1 : Nat) : K (ResD R_f134) := blockK 2 (q_f134_1 m0 m1)
def cd_f134_2 : Code := (lft (lft (rgt (lft (rgt (rgt (rgt (rgt (rgt (rgt (rgt (rgt (rgt (rgt (rgt b_f134)))))))))))))))
def j2_f134 (m0 m1 n : Nat) : Int → D13e → D13e → D13a → Int → Int → Option D13l := fun x16 x17 x18 x19 x20 x21 => ej E_f134 n (.loop cd_f134_2) 2 (sg_f134_2 x16 x17 x18 x19 x20 x21) (q_f134_2 m0 m1)
theorem st_f134_j2 (m0 m1 n : Nat) : j2_f134 m0 m1 (n + 1) = block_running.S2 (j2_f134 m0 m1 n) := by kernel_rfl
theorem J_f134_2 (m0 m1 : Nat) : ∀ n : Nat, j2_f134 m0 m1 n = block_running.l2 n :=
  ind rfl fun n e2 => (st_f134_j2 m0 m1 n).trans (by rw [e2]; rfl)
def cd_f134_3 : Code := (rgt (rgt (rgt (rgt (rgt (rgt b_f134))))))
def j1_f134 (m0 n : Nat) : ByteArray → Int → Int → Int → D13e → Option D13l := fun x9 x10 x11 x12 x13 => ej E_f134 n (.tail cd_f134_3) 0 (sg_f134_1 x9 x10 x11 x12 x13) K_f134
theorem st_f134_j1 (m0 n : Nat) : j1_f134 m0 (n + 1) = block_running.S1 (j2_f134 m0 n n) := by kernel_rfl
theorem J_f134_1 (m0 : Nat) : ∀ n : Nat, j1_f134 m0 n = block_running.t1 n :=
  ind rfl fun n e1 => by
    have e2 : j2_f134 m0 n n = block_running.l2 n := J_f134_2 m0 n n
    rw [st_f134_j1 m0 n, e2]; rfl
def q_f134_3 (m0 : Nat) : K (ResD R_f134) := sqK E_f134 m0 cd_f134_3 0 K_f134
def q_f134_4 (m0 : Nat) : K (ResD R_f134) := blockK 0 (q_f134_3 m0)
def cd_f134_4 : Code := (lft (lft (rgt (lft (rgt (rgt (rgt (rgt (rgt b_f134)))))))))
def j0_f134 (m0 n : Nat) : ByteArray → Int → Int → Int → D13e → Int → Int → Option D13l := fun x2 x3 x4 x5 x6 x7 x8 => ej E_f134 n (.loop cd_f134_4) 0 (sg_f134_0 x2 x3 x4 x5 x6 x7 x8) (q_f134_4 m0)
theorem st_f134_j0 (m0 n : Nat) : j0_f134 m0 (n + 1) = block_running.S0 (j1_f134 m0 m0) (j0_f134 m0 n) := by kernel_rfl
theorem J_f134_0 (m0 : Nat) : ∀ n : Nat, j0_f134 m0 n = block_running.l0 (j1_f134 m0 m0) n :=
  ind rfl fun n e0 => (st_f134_j0 m0 n).trans (by rw [e0]; rfl)
theorem st_f134 (m0 : Nat) (x : ArgsD P_f134) : run E_f134 b_f134 m0 x K_f134 = block_running.S (j0_f134 m0 m0) x.1 x.2.1 := by kernel_rfl
abbrev sp_f134 : AM.Spec := AM.spec P_f134 R_f134 (fun x => block_running x.1 x.2.1)
theorem c_f134 : Contract Tryz.prog 134 sp_f134 := ctrC tabOk (fn := Tryz.f134) (show ∀ x, run E_f134 b_f134 fu x K_f134 = _ from fun x => by
  have e1 : j1_f134 fu fu = block_running.t1 fu := J_f134_1 fu fu
  have e0 : j0_f134 fu fu = block_running.l0 (block_running.t1 fu) fu := by rw [← e1]; exact J_f134_0 fu fu
  refine (st_f134 fu x).trans ?_
  rw [e0]; rfl) (callsOk_of ⟨⟨c_f150, Tryz.call150, fun _ => words_spec rfl⟩, ⟨⟨c_f129, Tryz.call129, nw⟩, ⟨⟨c_f130, Tryz.call130, nw⟩, trivial⟩⟩⟩)
abbrev E_f180 : Env := tab.env (AM.look []) ⟨[], [], [], ⟨tt [2, 3], []⟩, [], [], [], []⟩
def b_f180 : Code := bd Tryz.f180
abbrev R_f180 : List (Ty × List Tag) := [(.str, []), (k13b, [])]
abbrev P_f180 : List PK := [.val .str]
abbrev K_f180 : K (ResD R_f180) := fin E_f180 [.tmp 2, .tmp 3] [] R_f180
abbrev sp_f180 : AM.Spec := AM.spec P_f180 R_f180 (fun x => dict_Places_1 x.1)
theorem c_f180 : Contract Tryz.prog 180 sp_f180 := ctrC tabOk (fn := Tryz.f180) (show ∀ x, run E_f180 b_f180 fu x K_f180 = _ from fun x => by kernel_rfl) (callsOk_of trivial)
abbrev E_f179 : Env := tab.env (AM.look [(150, sp_f150), (180, sp_f180), (70, sp_f70), (126, sp_f126), (178, sp_f178)]) ⟨[(0, ⟨tt [0, 1, 2, 9, 10, 12, 47, 48], []⟩), (2, ⟨tt [9, 12, 16, 17, 98, 99, 100], tt [97]⟩)], [], [(20, ⟨tt [0, 1, 9, 10, 12], []⟩), (31, ⟨tt [12, 16, 17], tt [97]⟩)], ⟨tt [6, 7, 8], []⟩, [17, 97, 111, 115], [70, 150, 178, 180], [], [89]⟩
def b_f179 : Code := bd Tryz.f179
abbrev R_f179 : List (Ty × List Tag) := [(k13a, [⟨0, 1, 0, 1⟩]), (k13d, []), (k13b, [])]
abbrev P_f179 : List PK := [.val .str, .val k13b, .fn 180 []]
abbrev K_f179 : K (ResD R_f179) := fin E_f179 [.tmp 6, .tmp 7, .tmp 8] [] R_f179
def sg_f179_3 (x24 : D13e) (x25 : D13a) (x26 : D13c) : St := mk [(12, .dat k13a x24 [⟨0, 769, 0, 1⟩]), (16, .dat k13d x25 []), (17, .slw 97 0)] [(97, some (.arr .bool x26 false))]
def sg_f179_2 (x17 : Int) (x18 : D13e) (x19 x20 : D13a) (x21 x22 : Int) (x23 : D13c) : St := mk [(9, .dat k13b x17 []), (12, .dat k13a x18 [⟨0, 769, 0, 1⟩]), (16, .dat k13d x19 []), (17, .slw 97 0), (98, .dat k13d x20 []), (99, .dat k13b x21 []), (100, .dat k13b x22 [])] [(97, some (.arr .bool x23 false))]
def sg_f179_1 (x10 : ByteArray) (x11 x12 x13 : Int) (x14 : D13e) : St := mk [(0, .dat .str x10 []), (1, .dat k13b x11 []), (9, .dat k13b x12 []), (10, .dat k13b x13 []), (12, .dat k13a x14 [⟨0, 769, 0, 1⟩])] []
def sg_f179_0 (x2 : ByteArray) (x3 x4 x5 : Int) (x6 : D13e) (x7 x8 : Int) : St := mk [(0, .dat .str x2 []), (1, .dat k13b x3 []), (2, .fn 180 []), (9, .dat k13b x4 []), (10, .dat k13b x5 []), (12, .dat k13a x6 [⟨0, 769, 0, 1⟩]), (47, .dat k13b x7 []), (48, .dat k13b x8 [])] []
def cd_f179_1 : Code := (rgt (rgt (rgt (rgt (rgt (rgt (rgt (rgt (rgt (rgt (rgt b_f179)))))))))))
def j3_f179 (m0 n : Nat) : D13e → D13a → D13c → Option D13w := fun x24 x25 x26 => ej E_f179 n (.tail cd_f179_1) 0 (sg_f179_3 x24 x25 x26) K_f179
theorem st_f179_j3 (m0 m1 n : Nat) : j3_f179 m0 (n + 1) = dict_take_string__dict_Places_1.S3 := by kernel_rfl
theorem J_f179_3 (m0 m1 : Nat) : ∀ n : Nat, j3_f179 m0 n = dict_take_string__dict_Places_1.t3 n :=
  ind rfl fun n _ => st_f179_j3 m0 m1 n
def q_f179_1 (m0 m1 : Nat) : K (ResD R_f179) := sqK E_f179 m1 cd_f179_1 0 K_f179
def q_f179_2 (m0 m1 : Nat) : K (ResD R_f179) := blockK 2 (q_f179_1 m0 m1)
def cd_f179_2 : Code := (lft (lft (rgt (lft (rgt (rgt (rgt (rgt (rgt (rgt (rgt (rgt (rgt (rgt b_f179))))))))))))))
def j2_f179 (m0 m1 n : Nat) : Int → D13e → D13a → D13a → Int → Int → D13c → Option D13w := fun x17 x18 x19 x20 x21 x22 x23 => ej E_f179 n (.loop cd_f179_2) 2 (sg_f179_2 x17 x18 x19 x20 x21 x22 x23) (q_f179_2 m0 m1)
theorem st_f179_j2 (m0 m1 n : Nat) : j2_f179 m0 m1 (n + 1) = dict_take_string__dict_Places_1.S2 (j3_f179 m0 m1) (j2_f179 m0 m1 n) := by kernel_rfl
theorem J_f179_2 (m0 m1 : Nat) : ∀ n : Nat, j2_f179 m0 m1 n = dict_take_string__dict_Places_1.l2 (j3_f179 m0 m1) n :=
  ind rfl fun n e2 => (st_f179_j2 m0 m1 n).trans (by rw [e2]; rfl)
def cd_f179_3 : Code := (rgt (rgt (rgt (rgt (rgt (rgt (rgt b_f179)))))))
def j1_f179 (m0 n : Nat) : ByteArray → Int → Int → Int → D13e → Option D13w := fun x10 x11 x12 x13 x14 => ej E_f179 n (.tail cd_f179_3) 0 (sg_f179_1 x10 x11 x12 x13 x14) K_f179
theorem st_f179_j1 (m0 n : Nat) : j1_f179 m0 (n + 1) = dict_take_string__dict_Places_1.S1 (j2_f179 m0 n n) := by kernel_rfl
theorem J_f179_1 (m0 : Nat) : ∀ n : Nat, j1_f179 m0 n = dict_take_string__dict_Places_1.t1 n :=
  ind rfl fun n e1 => by
    have e3 : j3_f179 m0 n = dict_take_string__dict_Places_1.t3 n := J_f179_3 m0 n n
    have e2 : j2_f179 m0 n n = dict_take_string__dict_Places_1.l2 (dict_take_string__dict_Places_1.t3 n) n := by rw [← e3]; exact J_f179_2 m0 n n
    rw [st_f179_j1 m0 n, e2]; rfl
def q_f179_3 (m0 : Nat) : K (ResD R_f179) := sqK E_f179 m0 cd_f179_3 0 K_f179
def q_f179_4 (m0 : Nat) : K (ResD R_f179) := blockK 0 (q_f179_3 m0)
def cd_f179_4 : Code := (lft (lft (rgt (lft (rgt (rgt (rgt (rgt (rgt (rgt b_f179))))))))))
def j0_f179 (m0 n : Nat) : ByteArray → Int → Int → Int → D13e → Int → Int → Option D13w := fun x2 x3 x4 x5 x6 x7 x8 => ej E_f179 n (.loop cd_f179_4) 0 (sg_f179_0 x2 x3 x4 x5 x6 x7 x8) (q_f179_4 m0)
theorem st_f179_j0 (m0 n : Nat) : j0_f179 m0 (n + 1) = dict_take_string__dict_Places_1.S0 (j1_f179 m0 m0) (j0_f179 m0 n) := by kernel_rfl
theorem J_f179_0 (m0 : Nat) : ∀ n : Nat, j0_f179 m0 n = dict_take_string__dict_Places_1.l0 (j1_f179 m0 m0) n :=
  ind rfl fun n e0 => (st_f179_j0 m0 n).trans (by rw [e0]; rfl)
theorem st_f179 (m0 : Nat) (x : ArgsD P_f179) : run E_f179 b_f179 m0 x K_f179 = dict_take_string__dict_Places_1.S (j0_f179 m0 m0) x.1 x.2.1 := by kernel_rfl
abbrev sp_f179 : AM.Spec := AM.spec P_f179 R_f179 (fun x => dict_take_string__dict_Places_1 x.1 x.2.1)
theorem c_f179 : Contract Tryz.prog 179 sp_f179 := ctrC tabOk (fn := Tryz.f179) (show ∀ x, run E_f179 b_f179 fu x K_f179 = _ from fun x => by
  have e1 : j1_f179 fu fu = dict_take_string__dict_Places_1.t1 fu := J_f179_1 fu fu
  have e0 : j0_f179 fu fu = dict_take_string__dict_Places_1.l0 (dict_take_string__dict_Places_1.t1 fu) fu := by rw [← e1]; exact J_f179_0 fu fu
  refine (st_f179 fu x).trans ?_
  rw [e0]; rfl) (callsOk_of ⟨⟨c_f150, Tryz.call150, fun _ => words_spec rfl⟩, ⟨⟨c_f180, Tryz.call180, fun _ => words_spec rfl⟩, ⟨⟨c_f70, Tryz.call70, fun _ => words_spec rfl⟩, ⟨⟨c_f126, Tryz.call126, nw⟩, ⟨⟨c_f178, Tryz.call178, fun _ => words_spec rfl⟩, trivial⟩⟩⟩⟩⟩)
abbrev E_f157 : Env := tab.env (AM.look [(179, sp_f179)]) ⟨[], [], [], ⟨tt [4, 5, 6], []⟩, [], [], [], []⟩
def b_f157 : Code := bd Tryz.f157
abbrev R_f157 : List (Ty × List Tag) := [(k13a, [⟨0, 1, 0, 1⟩]), (k13d, []), (k13b, [])]
abbrev P_f157 : List PK := [.val .str, .val k13b]
abbrev K_f157 : K (ResD R_f157) := fin E_f157 [.tmp 4, .tmp 5, .tmp 6] [] R_f157
abbrev sp_f157 : AM.Spec := AM.spec P_f157 R_f157 (fun x => dict_Places x.1 x.2.1)
theorem c_f157 : Contract Tryz.prog 157 sp_f157 := ctrC tabOk (fn := Tryz.f157) (show ∀ x, run E_f157 b_f157 fu x K_f157 = _ from fun x => by kernel_rfl) (callsOk_of ⟨⟨c_f179, Tryz.call179, nw⟩, trivial⟩)
abbrev E_f158 : Env := tab.env (AM.look []) ⟨[(0, ⟨tt [0, 5, 8, 9, 10], []⟩)], [], [], ⟨tt [4], []⟩, [], [], [], []⟩
def b_f158 : Code := bd Tryz.f158
abbrev R_f158 : List (Ty × List Tag) := [(k13a, [⟨0, 1, 0, 1⟩])]
abbrev P_f158 : List PK := [.val k13a, .val k13d]
abbrev K_f158 : K (ResD R_f158) := fin E_f158 [.tmp 4] [] R_f158
def sg_f158_0 (x1 x2 : D13e) (x3 : D13a) (x4 x5 : Int) : St := mk [(0, .dat k13a x1 []), (5, .dat k13a x2 [⟨0, 321, 0, 1⟩]), (8, .dat k13d x3 []), (9, .dat k13b x4 []), (10, .dat k13b x5 [])] []
def cd_f158_1 : Code := (rgt (rgt (rgt b_f158)))
def q_f158_1 (m0 : Nat) : K (ResD R_f158) := sqK E_f158 m0 cd_f158_1 0 K_f158
def q_f158_2 (m0 : Nat) : K (ResD R_f158) := blockK 0 (q_f158_1 m0)
def cd_f158_2 : Code := (lft (lft (rgt (lft (rgt (rgt b_f158))))))
def j0_f158 (m0 n : Nat) : D13e → D13e → D13a → Int → Int → Option (D13e) := fun x1 x2 x3 x4 x5 => ej E_f158 n (.loop cd_f158_2) 0 (sg_f158_0 x1 x2 x3 x4 x5) (q_f158_2 m0)
theorem st_f158_j0 (m0 n : Nat) : j0_f158 m0 (n + 1) = dict_flat_string.S0 (j0_f158 m0 n) := by kernel_rfl
theorem J_f158_0 (m0 : Nat) : ∀ n : Nat, j0_f158 m0 n = dict_flat_string.l0 n :=
  ind rfl fun n e0 => (st_f158_j0 m0 n).trans (by rw [e0]; rfl)
theorem st_f158 (m0 : Nat) (x : ArgsD P_f158) : run E_f158 b_f158 m0 x K_f158 = dict_flat_string.S (j0_f158 m0 m0) x.1 x.2.1 := by kernel_rfl
abbrev sp_f158 : AM.Spec := AM.spec P_f158 R_f158 (fun x => dict_flat_string x.1 x.2.1)
theorem c_f158 : Contract Tryz.prog 158 sp_f158 := ctrC tabOk (fn := Tryz.f158) (fun x => (st_f158 fu x).trans (by rw [J_f158_0 fu fu]; rfl)) (callsOk_of trivial)
abbrev E_f135 : Env := tab.env (AM.look [(157, sp_f157), (158, sp_f158)]) ⟨[], [], [], ⟨tt [4, 5], []⟩, [], [], [], []⟩
def b_f135 : Code := bd Tryz.f135
abbrev R_f135 : List (Ty × List Tag) := [(k13a, [⟨0, 1, 0, 1⟩]), (k13b, [])]
abbrev P_f135 : List PK := [.val .str, .val k13b]
abbrev K_f135 : K (ResD R_f135) := fin E_f135 [.tmp 4, .tmp 5] [] R_f135
abbrev sp_f135 : AM.Spec := AM.spec P_f135 R_f135 (fun x => dict_TakeTexts x.1 x.2.1)
theorem c_f135 : Contract Tryz.prog 135 sp_f135 := ctrC tabOk (fn := Tryz.f135) (show ∀ x, run E_f135 b_f135 fu x K_f135 = _ from fun x => by kernel_rfl) (callsOk_of ⟨⟨c_f157, Tryz.call157, nw⟩, ⟨⟨c_f158, Tryz.call158, nw⟩, trivial⟩⟩)
abbrev E_f97 : Env := tab.env (AM.look [(133, sp_f133), (134, sp_f134), (135, sp_f135)]) ⟨[], [], [], ⟨tt [6, 7], []⟩, [], [], [], []⟩
def b_f97 : Code := bd Tryz.f97
abbrev R_f97 : List (Ty × List Tag) := [(k13a, [⟨0, 1, 0, 1⟩]), (k13b, [])]
abbrev P_f97 : List PK := [.val .str, .val k13b, .val k13b]
abbrev K_f97 : K (ResD R_f97) := fin E_f97 [.tmp 6, .tmp 7] [] R_f97
abbrev sp_f97 : AM.Spec := AM.spec P_f97 R_f97 (fun x => block_texts x.1 x.2.1 x.2.2.1)
theorem c_f97 : Contract Tryz.prog 97 sp_f97 := ctrC tabOk (fn := Tryz.f97) (show ∀ x, run E_f97 b_f97 fu x K_f97 = _ from fun x => by kernel_rfl) (callsOk_of ⟨⟨c_f133, Tryz.call133, nw⟩, ⟨⟨c_f134, Tryz.call134, nw⟩, ⟨⟨c_f135, Tryz.call135, nw⟩, trivial⟩⟩⟩)
abbrev E_f56 : Env := tab.env (AM.look [(96, sp_f96), (97, sp_f97)]) ⟨[(1, ⟨tt [5, 8, 10, 29, 30, 31], tt [5]⟩), (3, ⟨tt [5, 8, 14, 55, 56, 57], tt [5]⟩)], [], [], ⟨tt [6, 7], []⟩, [], [], [], []⟩
def b_f56 : Code := bd Tryz.f56
abbrev R_f56 : List (Ty × List Tag) := [(k13h, [⟨0, 1, 0, 3⟩]), (k13b, [])]
abbrev P_f56 : List PK := [.val .str, .val k13b, .val k13k]
abbrev K_f56 : K (ResD R_f56) := fin E_f56 [.tmp 6, .tmp 7] [] R_f56
def sg_f56_0 (x2 : D13u) (x3 : Int) (x4 : D13a) (x5 x6 : Int) (x7 : D13p) : St := mk [(5, .ptr 5 0 0), (8, .dat k13h x2 [⟨0, 513, 0, 3⟩]), (10, .dat k13b x3 []), (29, .dat k13d x4 []), (30, .dat k13b x5 []), (31, .dat k13b x6 [])] [(5, some (.var k13k x7 []))]
def sg_f56_1 (x9 : D13u) (x10 : Int) (x11 : D13e) (x12 x13 : Int) (x14 : D13p) : St := mk [(5, .ptr 5 0 0), (8, .dat k13h x9 [⟨0, 513, 0, 3⟩]), (14, .dat k13b x10 []), (55, .dat k13a x11 [⟨0, 3521, 0, 1⟩]), (56, .dat k13b x12 []), (57, .dat k13b x13 [])] [(5, some (.var k13k x14 []))]
def cd_f56_1 : Code := (rgt (rgt (rgt b_f56)))
def q_f56_1 (m0 : Nat) : K (ResD R_f56) := sqK E_f56 m0 cd_f56_1 0 K_f56
def q_f56_2 (m0 : Nat) : K (ResD R_f56) := blockK 0 (q_f56_1 m0)
def cd_f56_2 : Code := (rgt (rgt (lft (rgt (lft (rgt (lft (rgt (rgt b_f56)))))))))
def q_f56_3 (m0 : Nat) : K (ResD R_f56) := sqK E_f56 m0 cd_f56_2 0 (q_f56_2 m0)
def q_f56_4 (m0 : Nat) : K (ResD R_f56) := blockK 1 (q_f56_3 m0)
def cd_f56_3 : Code := (lft (lft (rgt (lft (rgt (lft (rgt (lft (rgt (lft (rgt (rgt b_f56))))))))))))
def j0_f56 (m0 n : Nat) : D13u → Int → D13a → Int → Int → D13p → Option D13x := fun x2 x3 x4 x5 x6 x7 => ej E_f56 n (.loop cd_f56_3) 1 (sg_f56_0 x2 x3 x4 x5 x6 x7) (q_f56_4 m0)
theorem st_f56_j0 (m0 n : Nat) : j0_f56 m0 (n + 1) = block_cells.S0 (j0_f56 m0 n) := by kernel_rfl
theorem J_f56_0 (m0 : Nat) : ∀ n : Nat, j0_f56 m0 n = block_cells.l0 n :=
  ind rfl fun n e0 => (st_f56_j0 m0 n).trans (by rw [e0]; rfl)
def cd_f56_4 : Code := (rgt (rgt (lft (rgt (rgt (rgt (lft (rgt (lft (rgt (rgt b_f56)))))))))))
def q_f56_5 (m0 : Nat) : K (ResD R_f56) := sqK E_f56 m0 cd_f56_4 0 (q_f56_2 m0)
def q_f56_6 (m0 : Nat) : K (ResD R_f56) := blockK 3 (q_f56_5 m0)
def cd_f56_5 : Code := (lft (lft (rgt (lft (rgt (lft (rgt (rgt (rgt (lft (rgt (lft (rgt (rgt b_f56))))))))))))))
def j1_f56 (m0 n : Nat) : D13u → Int → D13e → Int → Int → D13p → Option D13x := fun x9 x10 x11 x12 x13 x14 => ej E_f56 n (.loop cd_f56_5) 3 (sg_f56_1 x9 x10 x11 x12 x13 x14) (q_f56_6 m0)
theorem st_f56_j1 (m0 n : Nat) : j1_f56 m0 (n + 1) = block_cells.S1 (j1_f56 m0 n) := by kernel_rfl
theorem J_f56_1 (m0 : Nat) : ∀ n : Nat, j1_f56 m0 n = block_cells.l1 n :=
  ind rfl fun n e1 => (st_f56_j1 m0 n).trans (by rw [e1]; rfl)
theorem st_f56 (m0 : Nat) (x : ArgsD P_f56) : run E_f56 b_f56 m0 x K_f56 = block_cells.S (j0_f56 m0 m0) (j1_f56 m0 m0) x.1 x.2.1 x.2.2.1 := by kernel_rfl
abbrev sp_f56 : AM.Spec := AM.spec P_f56 R_f56 (fun x => block_cells x.1 x.2.1 x.2.2.1)
theorem c_f56 : Contract Tryz.prog 56 sp_f56 := ctrC tabOk (fn := Tryz.f56) (show ∀ x, run E_f56 b_f56 fu x K_f56 = _ from fun x => by
  have e0 : j0_f56 fu fu = block_cells.l0 fu := J_f56_0 fu fu
  have e1 : j1_f56 fu fu = block_cells.l1 fu := J_f56_1 fu fu
  refine (st_f56 fu x).trans ?_
  rw [e0, e1]; rfl) (callsOk_of ⟨⟨c_f96, Tryz.call96, nw⟩, ⟨⟨c_f97, Tryz.call97, nw⟩, trivial⟩⟩)
abbrev E_f69c : Env := tab.env (AM.look [(43, sp_f43)]) ⟨[(0, ⟨tt [0, 1, 7, 8], []⟩)], [], [], ⟨tt [4], []⟩, [], [43], [], []⟩
def b_f69c : Code := bd Tryz.f69
abbrev R_f69c : List (Ty × List Tag) := [(k13b, [])]
abbrev P_f69c : List PK := [.val k13h, .fn 43 []]
abbrev K_f69c : K (ResD R_f69c) := fin E_f69c [.tmp 4] [] R_f69c
def sg_f69c_0 (x1 : D13u) (x2 x3 : Int) : St := mk [(0, .dat k13h x1 []), (1, .fn 43 []), (7, .dat k13b x2 []), (8, .dat k13b x3 [])] []
def cd_f69c_1 : Code := (rgt (rgt b_f69c))
def q_f69c_1 (m0 : Nat) : K (ResD R_f69c) := sqK E_f69c m0 cd_f69c_1 0 K_f69c
def q_f69c_2 (m0 : Nat) : K (ResD R_f69c) := blockK 0 (q_f69c_1 m0)
def cd_f69c_2 : Code := (lft (lft (rgt (lft (rgt b_f69c)))))
def j0_f69c (m0 n : Nat) : D13u → Int → Int → Option Int := fun x1 x2 x3 => ej E_f69c n (.loop cd_f69c_2) 0 (sg_f69c_0 x1 x2 x3) (q_f69c_2 m0)
theorem st_f69c_j0 (m0 n : Nat) : j0_f69c m0 (n + 1) = slices_IndexFunc_api_Cell_api_Cell__nulls_null.S0 (j0_f69c m0 n) := by kernel_rfl
theorem J_f69c_0 (m0 : Nat) : ∀ n : Nat, j0_f69c m0 n = slices_IndexFunc_api_Cell_api_Cell__nulls_null.l0 n :=
  ind rfl fun n e0 => (st_f69c_j0 m0 n).trans (by rw [e0]; rfl)
theorem st_f69c (m0 : Nat) (x : ArgsD P_f69c) : run E_f69c b_f69c m0 x K_f69c = slices_IndexFunc_api_Cell_api_Cell__nulls_null.S (j0_f69c m0 m0) x.1 := by kernel_rfl
abbrev sp_f69c : AM.Spec := AM.spec P_f69c R_f69c (fun x => slices_IndexFunc_api_Cell_api_Cell__nulls_null x.1)
theorem c_f69c : Contract Tryz.prog 69 sp_f69c := ctrC tabOk (fn := Tryz.f69) (fun x => (st_f69c fu x).trans (by rw [J_f69c_0 fu fu]; rfl)) (callsOk_of ⟨⟨c_f43, Tryz.call43, fun _ => words_spec rfl⟩, trivial⟩)
abbrev E_f37b : Env := tab.env (AM.look [(69, sp_f69c)]) ⟨[], [], [], ⟨tt [4], []⟩, [], [69], [], []⟩
def b_f37b : Code := bd Tryz.f37
abbrev R_f37b : List (Ty × List Tag) := [(.bool, [])]
abbrev P_f37b : List PK := [.val k13h, .fn 43 []]
abbrev K_f37b : K (ResD R_f37b) := fin E_f37b [.tmp 4] [] R_f37b
abbrev sp_f37b : AM.Spec := AM.spec P_f37b R_f37b (fun x => slices_ContainsFunc_api_Cell_api_Cell__nulls_null x.1)
theorem c_f37b : Contract Tryz.prog 37 sp_f37b := ctrC tabOk (fn := Tryz.f37) (show ∀ x, run E_f37b b_f37b fu x K_f37b = _ from fun x => by kernel_rfl) (callsOk_of ⟨⟨c_f69c, Tryz.call69, fun _ => words_spec rfl⟩, trivial⟩)
abbrev E_f57 : Env := tab.env (AM.look [(95, sp_f95), (55, sp_f55), (37, sp_f37b)]) ⟨[(0, ⟨tt [2, 8, 12, 42, 43], tt [40]⟩)], [], [], ⟨tt [6, 7], tt [6, 40]⟩, [6, 12, 40, 41, 51, 60], [37, 55], [], []⟩
def b_f57 : Code := bd Tryz.f57
abbrev R_f57 : List (Ty × List Tag) := [(k13h, []), (k13b, [])]
abbrev P_f57 : List PK := [.val .str, .val k13b, .val k13h]
abbrev K_f57 : K (ResD R_f57) := fin E_f57 [.tmp 6, .tmp 7] [] R_f57
def sg_f57_0 (x4 : D13u) (x5 : D13a) (x6 x7 : Int) (x8 : D13u) : St := mk [(2, .dat k13h x4 []), (8, .dat k13d x5 []), (12, .slw 40 0), (42, .dat k13b x6 []), (43, .dat k13b x7 [])] [(40, some (.arr k13g x8 false))]
def cd_f57_1 : Code := (rgt (rgt (rgt (rgt (rgt (rgt (rgt b_f57)))))))
def q_f57_1 (m0 : Nat) : K (ResD R_f57) := sqK E_f57 m0 cd_f57_1 0 K_f57
def q_f57_2 (m0 : Nat) : K (ResD R_f57) := blockK 0 (q_f57_1 m0)
def cd_f57_2 : Code := (lft (lft (rgt (lft (rgt (rgt (rgt (rgt (rgt (rgt b_f57))))))))))
def j0_f57 (m0 n : Nat) : D13u → D13a → Int → Int → D13u → Option D13x := fun x4 x5 x6 x7 x8 => ej E_f57 n (.loop cd_f57_2) 0 (sg_f57_0 x4 x5 x6 x7 x8) (q_f57_2 m0)
theorem st_f57_j0 (m0 n : Nat) : j0_f57 m0 (n + 1) = nulls_Join.S0 (j0_f57 m0 n) := by kernel_rfl
theorem J_f57_0 (m0 : Nat) : ∀ n : Nat, j0_f57 m0 n = nulls_Join.l0 n :=
  ind rfl fun n e0 => (st_f57_j0 m0 n).trans (by rw [e0]; rfl)
theorem st_f57 (m0 : Nat) (x : ArgsD P_f57) : run E_f57 b_f57 m0 x K_f57 = nulls_Join.S (j0_f57 m0 m0) x.1 x.2.1 x.2.2.1 := by kernel_rfl
abbrev sp_f57 : AM.Spec := AM.spec P_f57 R_f57 (fun x => nulls_Join x.1 x.2.1 x.2.2.1)
theorem c_f57 : Contract Tryz.prog 57 sp_f57 := ctrC tabOk (fn := Tryz.f57) (fun x => (st_f57 fu x).trans (by rw [J_f57_0 fu fu]; rfl)) (callsOk_of ⟨⟨c_f95, Tryz.call95, nw⟩, ⟨⟨c_f55, Tryz.call55, fun _ => words_spec rfl⟩, ⟨⟨c_f37b, Tryz.call37, fun _ => words_spec rfl⟩, trivial⟩⟩⟩)
abbrev E_f30 : Env := tab.env (AM.look [(54, sp_f54), (55, sp_f55), (56, sp_f56), (57, sp_f57), (10, sp_f10)]) ⟨[], [], [], ⟨tt [2, 3], tt [2]⟩, [], [10, 54, 55], [], []⟩
def b_f30 : Code := bd Tryz.f30
abbrev R_f30 : List (Ty × List Tag) := [((.pair k13k (.pair .str (.pair .str k13h))), []), (.bool, [])]
abbrev P_f30 : List PK := [.val .str]
abbrev K_f30 : K (ResD R_f30) := fin E_f30 [.cell 2 54, .tmp 3] [] R_f30
abbrev sp_f30 : AM.Spec := AM.spec P_f30 R_f30 (fun x => block_read x.1)
theorem c_f30 : Contract Tryz.prog 30 sp_f30 := ctrC tabOk (fn := Tryz.f30) (show ∀ x, run E_f30 b_f30 fu x K_f30 = _ from fun x => by kernel_rfl) (callsOk_of ⟨⟨c_f54, Tryz.call54, fun _ => words_spec rfl⟩, ⟨⟨c_f55, Tryz.call55, fun _ => words_spec rfl⟩, ⟨⟨c_f56, Tryz.call56, nw⟩, ⟨⟨c_f57, Tryz.call57, nw⟩, ⟨⟨c_f10, Tryz.call10, fun _ => words_spec rfl⟩, trivial⟩⟩⟩⟩⟩)
abbrev E_f12 : Env := tab.env (AM.look [(30, sp_f30)]) ⟨[], [], [], ⟨tt [2, 3], []⟩, [], [], [], []⟩
def b_f12 : Code := bd Tryz.f12
abbrev R_f12 : List (Ty × List Tag) := [(k13h, []), (k13b, [])]
abbrev P_f12 : List PK := [.val .str]
abbrev K_f12 : K (ResD R_f12) := fin E_f12 [.tmp 2, .tmp 3] [] R_f12
abbrev sp_f12 : AM.Spec := AM.spec P_f12 R_f12 (fun x => block_Take x.1)
theorem c_f12 : Contract Tryz.prog 12 sp_f12 := ctrC tabOk (fn := Tryz.f12) (show ∀ x, run E_f12 b_f12 fu x K_f12 = _ from fun x => by kernel_rfl) (callsOk_of ⟨⟨c_f30, Tryz.call30, nw⟩, trivial⟩)
abbrev E_f15 : Env := tab.env (AM.look [(30, sp_f30)]) ⟨[], [], [], ⟨tt [2, 3], tt [2]⟩, [], [], [], []⟩
def b_f15 : Code := bd Tryz.f15
abbrev R_f15 : List (Ty × List Tag) := [(k13k, []), (k13b, [])]
abbrev P_f15 : List PK := [.val .str]
abbrev K_f15 : K (ResD R_f15) := fin E_f15 [.cell 2 37, .tmp 3] [] R_f15
abbrev sp_f15 : AM.Spec := AM.spec P_f15 R_f15 (fun x => block_Look x.1)
theorem c_f15 : Contract Tryz.prog 15 sp_f15 := ctrC tabOk (fn := Tryz.f15) (show ∀ x, run E_f15 b_f15 fu x K_f15 = _ from fun x => by kernel_rfl) (callsOk_of ⟨⟨c_f30, Tryz.call30, nw⟩, trivial⟩)
abbrev E_f13 : Env := tab.env (AM.look []) ⟨[(0, ⟨tt [0, 1, 5], []⟩)], [], [], ⟨tt [4], []⟩, [], [], [], []⟩
def b_f13 : Code := bd Tryz.f13
abbrev R_f13 : List (Ty × List Tag) := [(.bool, [])]
abbrev P_f13 : List PK := [.val k13h, .val k13h]
abbrev K_f13 : K (ResD R_f13) := fin E_f13 [.tmp 4] [] R_f13
def sg_f13_0 (x1 x2 : D13u) (x3 : Int) : St := mk [(0, .dat k13h x1 []), (1, .dat k13h x2 []), (5, .dat k13b x3 [])] []
def cd_f13_1 : Code := (rgt (rgt (rgt b_f13)))
def q_f13_1 (m0 : Nat) : K (ResD R_f13) := sqK E_f13 m0 cd_f13_1 0 K_f13
def q_f13_2 (m0 : Nat) : K (ResD R_f13) := blockK 0 (q_f13_1 m0)
def cd_f13_2 : Code := (lft (lft (rgt (lft (rgt (rgt b_f13))))))
def j0_f13 (m0 n : Nat) : D13u → D13u → Int → Option Bool := fun x1 x2 x3 => ej E_f13 n (.loop cd_f13_2) 0 (sg_f13_0 x1 x2 x3) (q_f13_2 m0)
theorem st_f13_j0 (m0 n : Nat) : j0_f13 m0 (n + 1) = ref12_Same.S0 (j0_f13 m0 n) := by kernel_rfl
theorem J_f13_0 (m0 : Nat) : ∀ n : Nat, j0_f13 m0 n = ref12_Same.l0 n :=
  ind rfl fun n e0 => (st_f13_j0 m0 n).trans (by rw [e0]; rfl)
theorem st_f13 (m0 : Nat) (x : ArgsD P_f13) : run E_f13 b_f13 m0 x K_f13 = ref12_Same.S (j0_f13 m0 m0) x.1 x.2.1 := by kernel_rfl
abbrev sp_f13 : AM.Spec := AM.spec P_f13 R_f13 (fun x => ref12_Same x.1 x.2.1)
theorem c_f13 : Contract Tryz.prog 13 sp_f13 := ctrC tabOk (fn := Tryz.f13) (fun x => (st_f13 fu x).trans (by rw [J_f13_0 fu fu]; rfl)) (callsOk_of trivial)
abbrev E_f9 : Env := tab.env (AM.look [(14, sp_f14), (10, sp_f10), (12, sp_f12), (15, sp_f15), (13, sp_f13)]) ⟨[], [], [], ⟨tt [0], []⟩, [], [10, 13, 14, 15], [], []⟩
def b_f9 : Code := bd Tryz.f9
abbrev R_f9 : List (Ty × List Tag) := [(.bool, [])]
abbrev P_f9 : List PK := []
abbrev K_f9 : K (ResD R_f9) := fin E_f9 [.tmp 0] [] R_f9
abbrev sp_f9 : AM.Spec := AM.spec P_f9 R_f9 (fun x => law13_awake)
theorem c_f9 : Contract Tryz.prog 9 sp_f9 := ctrC tabOk (fn := Tryz.f9) (show ∀ x, run E_f9 b_f9 fu x K_f9 = _ from fun x => by kernel_rfl) (callsOk_of ⟨⟨c_f14, Tryz.call14, fun _ => words_spec rfl⟩, ⟨⟨c_f10, Tryz.call10, fun _ => words_spec rfl⟩, ⟨⟨c_f12, Tryz.call12, nw⟩, ⟨⟨c_f15, Tryz.call15, fun _ => words_spec rfl⟩, ⟨⟨c_f13, Tryz.call13, fun _ => words_spec rfl⟩, trivial⟩⟩⟩⟩⟩)
abbrev E_f36 : Env := tab.env (AM.look []) ⟨[], [], [], ⟨tt [2], []⟩, [], [], [], []⟩
def b_f36 : Code := bd Tryz.f36
abbrev R_f36 : List (Ty × List Tag) := [(.bool, [])]
abbrev P_f36 : List PK := [.val k13g]
abbrev K_f36 : K (ResD R_f36) := fin E_f36 [.tmp 2] [] R_f36
theorem st_f36_o (m0 : Nat) (x : ArgsD P_f36) : run E_f36 b_f36 m0 x K_f36 = ref06_May.o x.1 := by kernel_rfl
theorem st_f36 (m0 : Nat) (x : ArgsD P_f36) : run E_f36 b_f36 m0 x K_f36 = some (ref06_May x.1) := (st_f36_o m0 x).trans (by unfold ref06_May.o ref06_May; simp only [cond_some])
abbrev sp_f36 : AM.Spec := AM.spec P_f36 R_f36 (fun x => some (ref06_May x.1))
theorem c_f36 : Contract Tryz.prog 36 sp_f36 := ctrC tabOk (fn := Tryz.f36) (fun x => st_f36 fu x) (callsOk_of trivial)
abbrev E_f22 : Env := tab.env (AM.look [(36, sp_f36)]) ⟨[(0, ⟨tt [0, 1, 5], []⟩)], [], [(3, ⟨tt [0, 1], []⟩)], ⟨tt [4], []⟩, [], [36], [], []⟩
def b_f22 : Code := bd Tryz.f22
abbrev R_f22 : List (Ty × List Tag) := [(.bool, [])]
abbrev P_f22 : List PK := [.val k13h, .val k13b]
abbrev K_f22 : K (ResD R_f22) := fin E_f22 [.tmp 4] [] R_f22
def sg_f22_1 (x3 : D13u) (x4 x5 : Int) : St := mk [(0, .dat k13h x3 []), (1, .dat k13b x4 []), (5, .dat k13b x5 [])] []
def sg_f22_0 (x1 : D13u) (x2 : Int) : St := mk [(0, .dat k13h x1 []), (1, .dat k13b x2 [])] []
def cd_f22_1 : Code := (rgt (rgt (rgt b_f22)))
def q_f22_1 (m0 m1 : Nat) : K (ResD R_f22) := sqK E_f22 m1 cd_f22_1 0 K_f22
def q_f22_2 (m0 m1 : Nat) : K (ResD R_f22) := blockK 0 (q_f22_1 m0 m1)
def cd_f22_2 : Code := (lft (lft (rgt (lft (rgt (rgt b_f22))))))
def j1_f22 (m0 m1 n : Nat) : D13u → Int → Int → Option Bool := fun x3 x4 x5 => ej E_f22 n (.loop cd_f22_2) 0 (sg_f22_1 x3 x4 x5) (q_f22_2 m0 m1)
theorem st_f22_j1 (m0 m1 n : Nat) : j1_f22 m0 m1 (n + 1) = ref13_May.S1 (j1_f22 m0 m1 n) := by kernel_rfl
theorem J_f22_1 (m0 m1 : Nat) : ∀ n : Nat, j1_f22 m0 m1 n = ref13_May.l1 n :=
  ind rfl fun n e1 => (st_f22_j1 m0 m1 n).trans (by rw [e1]; rfl)
def cd_f22_3 : Code := (rgt (rgt b_f22))
def j0_f22 (m0 n : Nat) : D13u → Int → Option Bool := fun x1 x2 => ej E_f22 n (.tail cd_f22_3) 0 (sg_f22_0 x1 x2) K_f22
theorem st_f22_j0 (m0 n : Nat) : j0_f22 m0 (n + 1) = ref13_May.S0 (j1_f22 m0 n n) := by kernel_rfl
theorem J_f22_0 (m0 : Nat) : ∀ n : Nat, j0_f22 m0 n = ref13_May.t0 n :=
  ind rfl fun n e0 => by
    have e1 : j1_f22 m0 n n = ref13_May.l1 n := J_f22_1 m0 n n
    rw [st_f22_j0 m0 n, e1]; rfl
theorem st_f22 (m0 : Nat) (x : ArgsD P_f22) : run E_f22 b_f22 m0 x K_f22 = ref13_May.S (j0_f22 m0 m0) x.1 x.2.1 := by kernel_rfl
abbrev sp_f22 : AM.Spec := AM.spec P_f22 R_f22 (fun x => ref13_May x.1 x.2.1)
theorem c_f22 : Contract Tryz.prog 22 sp_f22 := ctrC tabOk (fn := Tryz.f22) (fun x => (st_f22 fu x).trans (by rw [J_f22_0 fu fu]; rfl)) (callsOk_of ⟨⟨c_f36, Tryz.call36, fun _ => words_spec rfl⟩, trivial⟩)
abbrev E_f146 : Env := tab.env (AM.look []) ⟨[(0, ⟨tt [0, 2, 3, 4], tt [2, 3]⟩)], [], [], ⟨tt [2], tt [2]⟩, [], [], [], []⟩
def b_f146 : Code := bd Tryz.f146
abbrev R_f146 : List (Ty × List Tag) := [((.arr 63 .bool), [])]
abbrev P_f146 : List PK := [.val k13b]
abbrev K_f146 : K (ResD R_f146) := fin E_f146 [.cell 2 147] [] R_f146
def sg_f146_0 (x1 x2 : Int) (x3 x4 : D13c) : St := mk [(0, .dat k13b x1 []), (2, .ptr 2 0 0), (3, .ptr 3 0 0), (4, .dat k13b x2 [])] [(2, some (.arr .bool x3 false)), (3, some (.arr .bool x4 false))]
def cd_f146_1 : Code := (rgt (rgt (rgt b_f146)))
def q_f146_1 (m0 : Nat) : K (ResD R_f146) := sqK E_f146 m0 cd_f146_1 0 K_f146
def q_f146_2 (m0 : Nat) : K (ResD R_f146) := blockK 0 (q_f146_1 m0)
def cd_f146_2 : Code := (lft (lft (rgt (lft (rgt (rgt b_f146))))))
def j0_f146 (m0 n : Nat) : Int → Int → D13c → D13c → Option (D13c) := fun x1 x2 x3 x4 => ej E_f146 n (.loop cd_f146_2) 0 (sg_f146_0 x1 x2 x3 x4) (q_f146_2 m0)
theorem st_f146_j0 (m0 n : Nat) : j0_f146 m0 (n + 1) = ref01_Of.S0 (j0_f146 m0 n) := by kernel_rfl
theorem J_f146_0 (m0 : Nat) : ∀ n : Nat, j0_f146 m0 n = ref01_Of.l0 n :=
  ind rfl fun n e0 => (st_f146_j0 m0 n).trans (by rw [e0]; rfl)
theorem st_f146 (m0 : Nat) (x : ArgsD P_f146) : run E_f146 b_f146 m0 x K_f146 = ref01_Of.S (j0_f146 m0 m0) x.1 := by kernel_rfl
abbrev sp_f146 : AM.Spec := AM.spec P_f146 R_f146 (fun x => ref01_Of x.1)
theorem c_f146 : Contract Tryz.prog 146 sp_f146 := ctrC tabOk (fn := Tryz.f146) (fun x => (st_f146 fu x).trans (by rw [J_f146_0 fu fu]; rfl)) (callsOk_of trivial)
abbrev E_f119 : Env := tab.env (AM.look [(146, sp_f146)]) ⟨[(0, ⟨tt [3, 4], tt [3]⟩)], [], [], ⟨tt [2], []⟩, [], [146], [], []⟩
def b_f119 : Code := bd Tryz.f119
abbrev R_f119 : List (Ty × List Tag) := [(k13b, [])]
abbrev P_f119 : List PK := [.val k13b]
abbrev K_f119 : K (ResD R_f119) := fin E_f119 [.tmp 2] [] R_f119
def sg_f119_0 (x2 : Int) (x3 : D13c) : St := mk [(3, .ptr 3 0 0), (4, .dat k13b x2 [])] [(3, some (.arr .bool x3 false))]
def cd_f119_1 : Code := (rgt (rgt (rgt b_f119)))
def q_f119_1 (m0 : Nat) : K (ResD R_f119) := sqK E_f119 m0 cd_f119_1 0 K_f119
def q_f119_2 (m0 : Nat) : K (ResD R_f119) := blockK 0 (q_f119_1 m0)
def cd_f119_2 : Code := (lft (lft (rgt (lft (rgt (rgt b_f119))))))
def j0_f119 (m0 n : Nat) : Int → D13c → Option Int := fun x2 x3 => ej E_f119 n (.loop cd_f119_2) 0 (sg_f119_0 x2 x3) (q_f119_2 m0)
theorem st_f119_j0 (m0 n : Nat) : j0_f119 m0 (n + 1) = ref01_Width.S0 (j0_f119 m0 n) := by kernel_rfl
theorem J_f119_0 (m0 : Nat) : ∀ n : Nat, j0_f119 m0 n = ref01_Width.l0 n :=
  ind rfl fun n e0 => (st_f119_j0 m0 n).trans (by rw [e0]; rfl)
theorem st_f119 (m0 : Nat) (x : ArgsD P_f119) : run E_f119 b_f119 m0 x K_f119 = ref01_Width.S (j0_f119 m0 m0) x.1 := by kernel_rfl
abbrev sp_f119 : AM.Spec := AM.spec P_f119 R_f119 (fun x => ref01_Width x.1)
theorem c_f119 : Contract Tryz.prog 119 sp_f119 := ctrC tabOk (fn := Tryz.f119) (fun x => (st_f119 fu x).trans (by rw [J_f119_0 fu fu]; rfl)) (callsOk_of ⟨⟨c_f146, Tryz.call146, fun _ => words_spec rfl⟩, trivial⟩)
abbrev E_f83 : Env := tab.env (AM.look [(119, sp_f119)]) ⟨[(0, ⟨tt [0, 3, 4], []⟩)], [], [], ⟨tt [2], []⟩, [], [119], [], []⟩
def b_f83 : Code := bd Tryz.f83
abbrev R_f83 : List (Ty × List Tag) := [(k13b, [])]
abbrev P_f83 : List PK := [.val k13d]
abbrev K_f83 : K (ResD R_f83) := fin E_f83 [.tmp 2] [] R_f83
def sg_f83_0 (x1 : D13a) (x2 x3 : Int) : St := mk [(0, .dat k13d x1 []), (3, .dat k13b x2 []), (4, .dat k13b x3 [])] []
def cd_f83_1 : Code := (rgt (rgt (rgt b_f83)))
def q_f83_1 (m0 : Nat) : K (ResD R_f83) := sqK E_f83 m0 cd_f83_1 0 K_f83
def q_f83_2 (m0 : Nat) : K (ResD R_f83) := blockK 0 (q_f83_1 m0)
def cd_f83_2 : Code := (lft (lft (rgt (lft (rgt (rgt b_f83))))))
def j0_f83 (m0 n : Nat) : D13a → Int → Int → Option Int := fun x1 x2 x3 => ej E_f83 n (.loop cd_f83_2) 0 (sg_f83_0 x1 x2 x3) (q_f83_2 m0)
theorem st_f83_j0 (m0 n : Nat) : j0_f83 m0 (n + 1) = ref08_Width.S0 (j0_f83 m0 n) := by kernel_rfl
theorem J_f83_0 (m0 : Nat) : ∀ n : Nat, j0_f83 m0 n = ref08_Width.l0 n :=
  ind rfl fun n e0 => (st_f83_j0 m0 n).trans (by rw [e0]; rfl)
theorem st_f83 (m0 : Nat) (x : ArgsD P_f83) : run E_f83 b_f83 m0 x K_f83 = ref08_Width.S (j0_f83 m0 m0) x.1 := by kernel_rfl
abbrev sp_f83 : AM.Spec := AM.spec P_f83 R_f83 (fun x => ref08_Width x.1)
theorem c_f83 : Contract Tryz.prog 83 sp_f83 := ctrC tabOk (fn := Tryz.f83) (fun x => (st_f83 fu x).trans (by rw [J_f83_0 fu fu]; rfl)) (callsOk_of ⟨⟨c_f119, Tryz.call119, fun _ => words_spec rfl⟩, trivial⟩)
abbrev E_f84 : Env := tab.env (AM.look []) ⟨[], [], [], ⟨tt [4], []⟩, [], [], [], []⟩
def b_f84 : Code := bd Tryz.f84
abbrev R_f84 : List (Ty × List Tag) := [(k13b, [])]
abbrev P_f84 : List PK := [.val k13b, .val k13b]
abbrev K_f84 : K (ResD R_f84) := fin E_f84 [.tmp 4] [] R_f84
theorem st_f84_o (m0 : Nat) (x : ArgsD P_f84) : run E_f84 b_f84 m0 x K_f84 = ref08_Bytes.o x.1 x.2.1 := by kernel_rfl
theorem st_f84 (m0 : Nat) (x : ArgsD P_f84) : run E_f84 b_f84 m0 x K_f84 = some (ref08_Bytes x.1 x.2.1) := (st_f84_o m0 x).trans (by unfold ref08_Bytes.o ref08_Bytes; simp only [cond_some])
abbrev sp_f84 : AM.Spec := AM.spec P_f84 R_f84 (fun x => some (ref08_Bytes x.1 x.2.1))
theorem c_f84 : Contract Tryz.prog 84 sp_f84 := ctrC tabOk (fn := Tryz.f84) (fun x => st_f84 fu x) (callsOk_of trivial)
abbrev E_f48 : Env := tab.env (AM.look [(83, sp_f83), (84, sp_f84)]) ⟨[(0, ⟨tt [0, 1, 6, 7], tt [31]⟩), (2, ⟨tt [0, 1, 6, 7, 8], tt [31]⟩)], [], [], ⟨tt [4, 5], []⟩, [6, 31, 56, 59, 69], [83, 84], [], []⟩
def b_f48 : Code := bd Tryz.f48
abbrev R_f48 : List (Ty × List Tag) := [(.str, []), (k13b, [])]
abbrev P_f48 : List PK := [.val k13d, .val k13b]
abbrev K_f48 : K (ResD R_f48) := fin E_f48 [.tmp 4, .tmp 5] [] R_f48
def sg_f48_1 (x7 : D13a) (x8 x9 x10 : Int) (x11 : D13a) : St := mk [(0, .dat k13d x7 []), (1, .dat k13b x8 []), (6, .slw 31 0), (7, .dat k13b x9 []), (8, .dat k13b x10 [])] [(31, some (.arr (.int .u8) x11 false))]
def sg_f48_0 (x3 : D13a) (x4 x5 : Int) (x6 : D13a) : St := mk [(0, .dat k13d x3 []), (1, .dat k13b x4 []), (6, .slw 31 0), (7, .dat k13b x5 [])] [(31, some (.arr (.int .u8) x6 false))]
def cd_f48_1 : Code := (rgt (rgt (rgt (rgt b_f48))))
def q_f48_1 (m0 : Nat) : K (ResD R_f48) := sqK E_f48 m0 cd_f48_1 0 K_f48
def q_f48_2 (m0 : Nat) : K (ResD R_f48) := blockK 0 (q_f48_1 m0)
def cd_f48_2 : Code := (lft (lft (rgt (lft (rgt (rgt (rgt b_f48)))))))
def j0_f48 (m0 n : Nat) : D13a → Int → Int → D13a → Option D13g := fun x3 x4 x5 x6 => ej E_f48 n (.loop cd_f48_2) 0 (sg_f48_0 x3 x4 x5 x6) (q_f48_2 m0)
def q_f48_3 (m0 m1 : Nat) : K (ResD R_f48) := lpK E_f48 m1 cd_f48_2 0 (q_f48_2 m0)
def cd_f48_3 : Code := (rgt (rgt cd_f48_2))
def q_f48_4 (m0 m1 : Nat) : K (ResD R_f48) := sqK E_f48 m1 cd_f48_3 0 (q_f48_3 m0 m1)
def q_f48_5 (m0 m1 : Nat) : K (ResD R_f48) := blockK 1 (q_f48_4 m0 m1)
def q_f48_6 (m0 m1 : Nat) : K (ResD R_f48) := blockK 2 (q_f48_5 m0 m1)
def cd_f48_4 : Code := (lft (lft (rgt (lft (lft (rgt cd_f48_2))))))
def j1_f48 (m0 m1 n : Nat) : D13a → Int → Int → Int → D13a → Option D13g := fun x7 x8 x9 x10 x11 => ej E_f48 n (.loop cd_f48_4) 2 (sg_f48_1 x7 x8 x9 x10 x11) (q_f48_6 m0 m1)
theorem st_f48_j1 (m0 m1 n : Nat) : j1_f48 m0 m1 (n + 1) = ref08_Put.S1 (j0_f48 m0 m1) (j1_f48 m0 m1 n) := by kernel_rfl
theorem J_f48_1 (m0 m1 : Nat) : ∀ n : Nat, j1_f48 m0 m1 n = ref08_Put.l1 (j0_f48 m0 m1) n :=
  ind rfl fun n e1 => (st_f48_j1 m0 m1 n).trans (by rw [e1]; rfl)
theorem st_f48_j0 (m0 n : Nat) : j0_f48 m0 (n + 1) = ref08_Put.S0 (j1_f48 m0 n n) := by kernel_rfl
theorem J_f48_0 (m0 : Nat) : ∀ n : Nat, j0_f48 m0 n = ref08_Put.l0 n :=
  ind rfl fun n e0 => by
    have e1 : j1_f48 m0 n n = ref08_Put.l1 (ref08_Put.l0 n) n := by rw [← e0]; exact J_f48_1 m0 n n
    rw [st_f48_j0 m0 n, e1]; rfl
theorem st_f48 (m0 : Nat) (x : ArgsD P_f48) : run E_f48 b_f48 m0 x K_f48 = ref08_Put.S (j0_f48 m0 m0) x.1 x.2.1 := by kernel_rfl
abbrev sp_f48 : AM.Spec := AM.spec P_f48 R_f48 (fun x => ref08_Put x.1 x.2.1)
theorem c_f48 : Contract Tryz.prog 48 sp_f48 := ctrC tabOk (fn := Tryz.f48) (fun x => (st_f48 fu x).trans (by rw [J_f48_0 fu fu]; rfl)) (callsOk_of ⟨⟨c_f83, Tryz.call83, fun _ => words_spec rfl⟩, ⟨⟨c_f84, Tryz.call84, fun _ => words_spec rfl⟩, trivial⟩⟩)
abbrev E_f27 : Env := tab.env (AM.look [(48, sp_f48)]) ⟨[(0, ⟨tt [0, 4, 5, 6], []⟩)], [], [(10, ⟨tt [0, 4, 5], []⟩)], ⟨tt [2, 3], []⟩, [], [48], [], []⟩
def b_f27 : Code := bd Tryz.f27
abbrev R_f27 : List (Ty × List Tag) := [(.str, []), (k13h, [⟨0, 1, 0, 3⟩])]
abbrev P_f27 : List PK := [.val k13h]
abbrev K_f27 : K (ResD R_f27) := fin E_f27 [.tmp 2, .tmp 3] [] R_f27
def sg_f27_1 (x5 x6 : D13u) (x7 : D13a) : St := mk [(0, .dat k13h x5 []), (4, .dat k13h x6 [⟨0, 257, 0, 3⟩]), (5, .dat k13d x7 [⟨0, 321, 0, 1⟩])] []
def sg_f27_0 (x1 x2 : D13u) (x3 : D13a) (x4 : Int) : St := mk [(0, .dat k13h x1 []), (4, .dat k13h x2 [⟨0, 257, 0, 3⟩]), (5, .dat k13d x3 [⟨0, 321, 0, 1⟩]), (6, .dat k13b x4 [])] []
def cd_f27_1 : Code := (rgt (rgt (rgt (rgt b_f27))))
def j1_f27 (m0 n : Nat) : D13u → D13u → D13a → Option D13z := fun x5 x6 x7 => ej E_f27 n (.tail cd_f27_1) 0 (sg_f27_1 x5 x6 x7) K_f27
theorem st_f27_j1 (m0 n : Nat) : j1_f27 m0 (n + 1) = ref12_Split.S1 := by kernel_rfl
theorem J_f27_1 (m0 : Nat) : ∀ n : Nat, j1_f27 m0 n = ref12_Split.t1 n :=
  ind rfl fun n _ => st_f27_j1 m0 n
def q_f27_1 (m0 : Nat) : K (ResD R_f27) := sqK E_f27 m0 cd_f27_1 0 K_f27
def q_f27_2 (m0 : Nat) : K (ResD R_f27) := blockK 0 (q_f27_1 m0)
def cd_f27_2 : Code := (lft (lft (rgt (lft (rgt (rgt (rgt b_f27)))))))
def j0_f27 (m0 n : Nat) : D13u → D13u → D13a → Int → Option D13z := fun x1 x2 x3 x4 => ej E_f27 n (.loop cd_f27_2) 0 (sg_f27_0 x1 x2 x3 x4) (q_f27_2 m0)
theorem st_f27_j0 (m0 n : Nat) : j0_f27 m0 (n + 1) = ref12_Split.S0 (j1_f27 m0 m0) (j0_f27 m0 n) := by kernel_rfl
theorem J_f27_0 (m0 : Nat) : ∀ n : Nat, j0_f27 m0 n = ref12_Split.l0 (j1_f27 m0 m0) n :=
  ind rfl fun n e0 => (st_f27_j0 m0 n).trans (by rw [e0]; rfl)
theorem st_f27 (m0 : Nat) (x : ArgsD P_f27) : run E_f27 b_f27 m0 x K_f27 = ref12_Split.S (j0_f27 m0 m0) x.1 := by kernel_rfl
abbrev sp_f27 : AM.Spec := AM.spec P_f27 R_f27 (fun x => ref12_Split x.1)
theorem c_f27 : Contract Tryz.prog 27 sp_f27 := ctrC tabOk (fn := Tryz.f27) (show ∀ x, run E_f27 b_f27 fu x K_f27 = _ from fun x => by
  have e1 : j1_f27 fu fu = ref12_Split.t1 fu := J_f27_1 fu fu
  have e0 : j0_f27 fu fu = ref12_Split.l0 (ref12_Split.t1 fu) fu := by rw [← e1]; exact J_f27_0 fu fu
  refine (st_f27 fu x).trans ?_
  rw [e0]; rfl) (callsOk_of ⟨⟨c_f48, Tryz.call48, fun _ => words_spec rfl⟩, trivial⟩)
abbrev E_f50 : Env := tab.env (AM.look []) ⟨[(0, ⟨tt [0, 3, 4], []⟩)], [], [], ⟨tt [2], []⟩, [], [], [], []⟩
def b_f50 : Code := bd Tryz.f50
abbrev R_f50 : List (Ty × List Tag) := [(k13d, [⟨0, 1, 0, 1⟩])]
abbrev P_f50 : List PK := [.val k13h]
abbrev K_f50 : K (ResD R_f50) := fin E_f50 [.tmp 2] [] R_f50
def sg_f50_0 (x1 : D13u) (x2 : D13a) (x3 : Int) : St := mk [(0, .dat k13h x1 []), (3, .dat k13d x2 [⟨0, 193, 0, 1⟩]), (4, .dat k13b x3 [])] []
def cd_f50_1 : Code := (rgt (rgt (rgt b_f50)))
def q_f50_1 (m0 : Nat) : K (ResD R_f50) := sqK E_f50 m0 cd_f50_1 0 K_f50
def q_f50_2 (m0 : Nat) : K (ResD R_f50) := blockK 0 (q_f50_1 m0)
def cd_f50_2 : Code := (lft (lft (rgt (lft (rgt (rgt b_f50))))))
def j0_f50 (m0 n : Nat) : D13u → D13a → Int → Option D13d := fun x1 x2 x3 => ej E_f50 n (.loop cd_f50_2) 0 (sg_f50_0 x1 x2 x3) (q_f50_2 m0)
theorem st_f50_j0 (m0 n : Nat) : j0_f50 m0 (n + 1) = ref13_ints.S0 (j0_f50 m0 n) := by kernel_rfl
theorem J_f50_0 (m0 : Nat) : ∀ n : Nat, j0_f50 m0 n = ref13_ints.l0 n :=
  ind rfl fun n e0 => (st_f50_j0 m0 n).trans (by rw [e0]; rfl)
theorem st_f50 (m0 : Nat) (x : ArgsD P_f50) : run E_f50 b_f50 m0 x K_f50 = ref13_ints.S (j0_f50 m0 m0) x.1 := by kernel_rfl
abbrev sp_f50 : AM.Spec := AM.spec P_f50 R_f50 (fun x => ref13_ints x.1)
theorem c_f50 : Contract Tryz.prog 50 sp_f50 := ctrC tabOk (fn := Tryz.f50) (fun x => (st_f50 fu x).trans (by rw [J_f50_0 fu fu]; rfl)) (callsOk_of trivial)
abbrev E_f85 : Env := tab.env (AM.look []) ⟨[(0, ⟨tt [0, 3, 4], []⟩), (2, ⟨tt [0, 3, 4, 5], []⟩)], [], [], ⟨tt [2], []⟩, [], [], [], []⟩
def b_f85 : Code := bd Tryz.f85
abbrev R_f85 : List (Ty × List Tag) := [(.str, [])]
abbrev P_f85 : List PK := [.val k13d]
abbrev K_f85 : K (ResD R_f85) := fin E_f85 [.tmp 2] [] R_f85
def sg_f85_1 (x4 x5 : D13a) (x6 x7 : Int) : St := mk [(0, .dat k13d x4 []), (3, .dat k13c x5 [⟨0, 193, 0, 0⟩]), (4, .dat k13b x6 []), (5, .dat k13b x7 [])] []
def sg_f85_0 (x1 x2 : D13a) (x3 : Int) : St := mk [(0, .dat k13d x1 []), (3, .dat k13c x2 [⟨0, 193, 0, 0⟩]), (4, .dat k13b x3 [])] []
def cd_f85_1 : Code := (rgt (rgt (rgt b_f85)))
def q_f85_1 (m0 : Nat) : K (ResD R_f85) := sqK E_f85 m0 cd_f85_1 0 K_f85
def q_f85_2 (m0 : Nat) : K (ResD R_f85) := blockK 0 (q_f85_1 m0)
def cd_f85_2 : Code := (lft (lft (rgt (lft (rgt (rgt b_f85))))))
def j0_f85 (m0 n : Nat) : D13a → D13a → Int → Option ByteArray := fun x1 x2 x3 => ej E_f85 n (.loop cd_f85_2) 0 (sg_f85_0 x1 x2 x3) (q_f85_2 m0)
def q_f85_3 (m0 m1 : Nat) : K (ResD R_f85) := lpK E_f85 m1 cd_f85_2 0 (q_f85_2 m0)
def cd_f85_3 : Code := (rgt (rgt cd_f85_2))
def q_f85_4 (m0 m1 : Nat) : K (ResD R_f85) := sqK E_f85 m1 cd_f85_3 0 (q_f85_3 m0 m1)
def q_f85_5 (m0 m1 : Nat) : K (ResD R_f85) := blockK 1 (q_f85_4 m0 m1)
def q_f85_6 (m0 m1 : Nat) : K (ResD R_f85) := blockK 2 (q_f85_5 m0 m1)
def cd_f85_4 : Code := (lft (lft (rgt (lft (lft (rgt cd_f85_2))))))
def j1_f85 (m0 m1 n : Nat) : D13a → D13a → Int → Int → Option ByteArray := fun x4 x5 x6 x7 => ej E_f85 n (.loop cd_f85_4) 2 (sg_f85_1 x4 x5 x6 x7) (q_f85_6 m0 m1)
theorem st_f85_j1 (m0 m1 n : Nat) : j1_f85 m0 m1 (n + 1) = ref07_PutInts.S1 (j0_f85 m0 m1) (j1_f85 m0 m1 n) := by kernel_rfl
theorem J_f85_1 (m0 m1 : Nat) : ∀ n : Nat, j1_f85 m0 m1 n = ref07_PutInts.l1 (j0_f85 m0 m1) n :=
  ind rfl fun n e1 => (st_f85_j1 m0 m1 n).trans (by rw [e1]; rfl)
theorem st_f85_j0 (m0 n : Nat) : j0_f85 m0 (n + 1) = ref07_PutInts.S0 (j1_f85 m0 n n) := by kernel_rfl
theorem J_f85_0 (m0 : Nat) : ∀ n : Nat, j0_f85 m0 n = ref07_PutInts.l0 n :=
  ind rfl fun n e0 => by
    have e1 : j1_f85 m0 n n = ref07_PutInts.l1 (ref07_PutInts.l0 n) n := by rw [← e0]; exact J_f85_1 m0 n n
    rw [st_f85_j0 m0 n, e1]; rfl
theorem st_f85 (m0 : Nat) (x : ArgsD P_f85) : run E_f85 b_f85 m0 x K_f85 = ref07_PutInts.S (j0_f85 m0 m0) x.1 := by kernel_rfl
abbrev sp_f85 : AM.Spec := AM.spec P_f85 R_f85 (fun x => ref07_PutInts x.1)
theorem c_f85 : Contract Tryz.prog 85 sp_f85 := ctrC tabOk (fn := Tryz.f85) (fun x => (st_f85 fu x).trans (by rw [J_f85_0 fu fu]; rfl)) (callsOk_of trivial)
abbrev E_f87 : Env := tab.env (AM.look []) ⟨[(0, ⟨tt [0, 3, 4], tt [3]⟩)], [], [], ⟨tt [2], tt [3]⟩, [2, 3, 30, 31, 40, 48, 49], [], [], []⟩
def b_f87 : Code := bd Tryz.f87
abbrev R_f87 : List (Ty × List Tag) := [(k13j, [])]
abbrev P_f87 : List PK := [.val k13d]
abbrev K_f87 : K (ResD R_f87) := fin E_f87 [.tmp 2] [] R_f87
def sg_f87_0 (x1 : D13a) (x2 : Int) (x3 : D13o) : St := mk [(0, .dat k13d x1 []), (3, .slw 3 0), (4, .dat k13b x2 [])] [(3, some (.arr k13i x3 false))]
def cd_f87_1 : Code := (rgt (rgt (rgt b_f87)))
def q_f87_1 (m0 : Nat) : K (ResD R_f87) := sqK E_f87 m0 cd_f87_1 0 K_f87
def q_f87_2 (m0 : Nat) : K (ResD R_f87) := blockK 0 (q_f87_1 m0)
def cd_f87_2 : Code := (lft (lft (rgt (lft (rgt (rgt b_f87))))))
def j0_f87 (m0 n : Nat) : D13a → Int → D13o → Option D13q := fun x1 x2 x3 => ej E_f87 n (.loop cd_f87_2) 0 (sg_f87_0 x1 x2 x3) (q_f87_2 m0)
theorem st_f87_j0 (m0 n : Nat) : j0_f87 m0 (n + 1) = ref10_Of.S0 (j0_f87 m0 n) := by kernel_rfl
theorem J_f87_0 (m0 : Nat) : ∀ n : Nat, j0_f87 m0 n = ref10_Of.l0 n :=
  ind rfl fun n e0 => (st_f87_j0 m0 n).trans (by rw [e0]; rfl)
theorem st_f87 (m0 : Nat) (x : ArgsD P_f87) : run E_f87 b_f87 m0 x K_f87 = ref10_Of.S (j0_f87 m0 m0) x.1 := by kernel_rfl
abbrev sp_f87 : AM.Spec := AM.spec P_f87 R_f87 (fun x => ref10_Of x.1)
theorem c_f87 : Contract Tryz.prog 87 sp_f87 := ctrC tabOk (fn := Tryz.f87) (fun x => (st_f87 fu x).trans (by rw [J_f87_0 fu fu]; rfl)) (callsOk_of trivial)
abbrev E_f99 : Env := tab.env (AM.look []) ⟨[(0, ⟨tt [0, 3, 4], []⟩)], [], [], ⟨tt [2], []⟩, [], [], [], []⟩
def b_f99 : Code := bd Tryz.f99
abbrev R_f99 : List (Ty × List Tag) := [(.bool, [])]
abbrev P_f99 : List PK := [.val k13j]
abbrev K_f99 : K (ResD R_f99) := fin E_f99 [.tmp 2] [] R_f99
def sg_f99_0 (x1 : D13o) (x2 x3 : Int) : St := mk [(0, .dat k13j x1 []), (3, .dat k13b x2 []), (4, .dat k13b x3 [])] []
def cd_f99_1 : Code := (rgt (rgt (rgt b_f99)))
def q_f99_1 (m0 : Nat) : K (ResD R_f99) := sqK E_f99 m0 cd_f99_1 0 K_f99
def q_f99_2 (m0 : Nat) : K (ResD R_f99) := blockK 0 (q_f99_1 m0)
def cd_f99_2 : Code := (lft (lft (rgt (lft (rgt (rgt b_f99))))))
def j0_f99 (m0 n : Nat) : D13o → Int → Int → Option Bool := fun x1 x2 x3 => ej E_f99 n (.loop cd_f99_2) 0 (sg_f99_0 x1 x2 x3) (q_f99_2 m0)
theorem st_f99_j0 (m0 n : Nat) : j0_f99 m0 (n + 1) = ref10_May.S0 (j0_f99 m0 n) := by kernel_rfl
theorem J_f99_0 (m0 : Nat) : ∀ n : Nat, j0_f99 m0 n = ref10_May.l0 n :=
  ind rfl fun n e0 => (st_f99_j0 m0 n).trans (by rw [e0]; rfl)
theorem st_f99 (m0 : Nat) (x : ArgsD P_f99) : run E_f99 b_f99 m0 x K_f99 = ref10_May.S (j0_f99 m0 m0) x.1 := by kernel_rfl
abbrev sp_f99 : AM.Spec := AM.spec P_f99 R_f99 (fun x => ref10_May x.1)
theorem c_f99 : Contract Tryz.prog 99 sp_f99 := ctrC tabOk (fn := Tryz.f99) (fun x => (st_f99 fu x).trans (by rw [J_f99_0 fu fu]; rfl)) (callsOk_of trivial)
abbrev E_f147 : Env := tab.env (AM.look []) ⟨[(0, ⟨tt [1, 3, 4], tt [1]⟩)], [], [], ⟨tt [2], []⟩, [], [], [], []⟩
def b_f147 : Code := bd Tryz.f147
abbrev R_f147 : List (Ty × List Tag) := [(k13b, [])]
abbrev P_f147 : List PK := [.val (.arr 63 .bool)]
abbrev K_f147 : K (ResD R_f147) := fin E_f147 [.tmp 2] [] R_f147
def sg_f147_0 (x1 x2 : Int) (x3 : D13c) : St := mk [(1, .ptr 1 0 0), (3, .dat k13b x1 []), (4, .dat k13b x2 [])] [(1, some (.arr .bool x3 false))]
def cd_f147_1 : Code := (rgt (rgt (rgt b_f147)))
def q_f147_1 (m0 : Nat) : K (ResD R_f147) := sqK E_f147 m0 cd_f147_1 0 K_f147
def q_f147_2 (m0 : Nat) : K (ResD R_f147) := blockK 0 (q_f147_1 m0)
def cd_f147_2 : Code := (lft (lft (rgt (lft (rgt (rgt b_f147))))))
def j0_f147 (m0 n : Nat) : Int → Int → D13c → Option Int := fun x1 x2 x3 => ej E_f147 n (.loop cd_f147_2) 0 (sg_f147_0 x1 x2 x3) (q_f147_2 m0)
theorem st_f147_j0 (m0 n : Nat) : j0_f147 m0 (n + 1) = ref01_Word.S0 (j0_f147 m0 n) := by kernel_rfl
theorem J_f147_0 (m0 : Nat) : ∀ n : Nat, j0_f147 m0 n = ref01_Word.l0 n :=
  ind rfl fun n e0 => (st_f147_j0 m0 n).trans (by rw [e0]; rfl)
theorem st_f147 (m0 : Nat) (x : ArgsD P_f147) : run E_f147 b_f147 m0 x K_f147 = ref01_Word.S (j0_f147 m0 m0) x.1 := by kernel_rfl
abbrev sp_f147 : AM.Spec := AM.spec P_f147 R_f147 (fun x => ref01_Word x.1)
theorem c_f147 : Contract Tryz.prog 147 sp_f147 := ctrC tabOk (fn := Tryz.f147) (fun x => (st_f147 fu x).trans (by rw [J_f147_0 fu fu]; rfl)) (callsOk_of trivial)
abbrev E_f124 : Env := tab.env (AM.look [(146, sp_f146), (147, sp_f147)]) ⟨[(0, ⟨tt [3, 4, 5], tt [3, 4]⟩)], [], [], ⟨tt [2], []⟩, [], [146, 147], [], []⟩
def b_f124 : Code := bd Tryz.f124
abbrev R_f124 : List (Ty × List Tag) := [(k13b, [])]
abbrev P_f124 : List PK := [.val k13b]
abbrev K_f124 : K (ResD R_f124) := fin E_f124 [.tmp 2] [] R_f124
def sg_f124_0 (x2 : Int) (x3 x4 : D13c) : St := mk [(3, .ptr 3 0 0), (4, .ptr 4 0 0), (5, .dat k13b x2 [])] [(3, some (.arr .bool x3 false)), (4, some (.arr .bool x4 false))]
def cd_f124_1 : Code := (rgt (rgt (rgt (rgt (rgt b_f124)))))
def q_f124_1 (m0 : Nat) : K (ResD R_f124) := sqK E_f124 m0 cd_f124_1 0 K_f124
def q_f124_2 (m0 : Nat) : K (ResD R_f124) := blockK 0 (q_f124_1 m0)
def cd_f124_2 : Code := (lft (lft (rgt (lft (rgt (rgt (rgt (rgt b_f124))))))))
def j0_f124 (m0 n : Nat) : Int → D13c → D13c → Option Int := fun x2 x3 x4 => ej E_f124 n (.loop cd_f124_2) 0 (sg_f124_0 x2 x3 x4) (q_f124_2 m0)
theorem st_f124_j0 (m0 n : Nat) : j0_f124 m0 (n + 1) = ref01_Zig.S0 (j0_f124 m0 n) := by kernel_rfl
theorem J_f124_0 (m0 : Nat) : ∀ n : Nat, j0_f124 m0 n = ref01_Zig.l0 n :=
  ind rfl fun n e0 => (st_f124_j0 m0 n).trans (by rw [e0]; rfl)
theorem st_f124 (m0 : Nat) (x : ArgsD P_f124) : run E_f124 b_f124 m0 x K_f124 = ref01_Zig.S (j0_f124 m0 m0) x.1 := by kernel_rfl
abbrev sp_f124 : AM.Spec := AM.spec P_f124 R_f124 (fun x => ref01_Zig x.1)
theorem c_f124 : Contract Tryz.prog 124 sp_f124 := ctrC tabOk (fn := Tryz.f124) (fun x => (st_f124 fu x).trans (by rw [J_f124_0 fu fu]; rfl)) (callsOk_of ⟨⟨c_f146, Tryz.call146, fun _ => words_spec rfl⟩, ⟨⟨c_f147, Tryz.call147, fun _ => words_spec rfl⟩, trivial⟩⟩)
abbrev E_f125 : Env := tab.env (AM.look [(146, sp_f146), (147, sp_f147)]) ⟨[(0, ⟨tt [1, 2, 7, 8, 9], tt [7, 8]⟩)], [], [], ⟨tt [6], []⟩, [], [146, 147], [], []⟩
def b_f125 : Code := bd Tryz.f125
abbrev R_f125 : List (Ty × List Tag) := [(k13b, [])]
abbrev P_f125 : List PK := [.val k13b, .val k13b, .val k13b]
abbrev K_f125 : K (ResD R_f125) := fin E_f125 [.tmp 6] [] R_f125
def sg_f125_0 (x2 x3 x4 : Int) (x5 x6 : D13c) : St := mk [(1, .dat k13b x2 []), (2, .dat k13b x3 []), (7, .ptr 7 0 0), (8, .ptr 8 0 0), (9, .dat k13b x4 [])] [(7, some (.arr .bool x5 false)), (8, some (.arr .bool x6 false))]
def cd_f125_1 : Code := (rgt (rgt (rgt (rgt b_f125))))
def q_f125_1 (m0 : Nat) : K (ResD R_f125) := sqK E_f125 m0 cd_f125_1 0 K_f125
def q_f125_2 (m0 : Nat) : K (ResD R_f125) := blockK 0 (q_f125_1 m0)
def cd_f125_2 : Code := (lft (lft (rgt (lft (rgt (rgt (rgt b_f125)))))))
def j0_f125 (m0 n : Nat) : Int → Int → Int → D13c → D13c → Option Int := fun x2 x3 x4 x5 x6 => ej E_f125 n (.loop cd_f125_2) 0 (sg_f125_0 x2 x3 x4 x5 x6) (q_f125_2 m0)
theorem st_f125_j0 (m0 n : Nat) : j0_f125 m0 (n + 1) = ref01_Field.S0 (j0_f125 m0 n) := by kernel_rfl
theorem J_f125_0 (m0 : Nat) : ∀ n : Nat, j0_f125 m0 n = ref01_Field.l0 n :=
  ind rfl fun n e0 => (st_f125_j0 m0 n).trans (by rw [e0]; rfl)
theorem st_f125 (m0 : Nat) (x : ArgsD P_f125) : run E_f125 b_f125 m0 x K_f125 = ref01_Field.S (j0_f125 m0 m0) x.1 x.2.1 x.2.2.1 := by kernel_rfl
abbrev sp_f125 : AM.Spec := AM.spec P_f125 R_f125 (fun x => ref01_Field x.1 x.2.1 x.2.2.1)
theorem c_f125 : Contract Tryz.prog 125 sp_f125 := ctrC tabOk (fn := Tryz.f125) (fun x => (st_f125 fu x).trans (by rw [J_f125_0 fu fu]; rfl)) (callsOk_of ⟨⟨c_f146, Tryz.call146, fun _ => words_spec rfl⟩, ⟨⟨c_f147, Tryz.call147, fun _ => words_spec rfl⟩, trivial⟩⟩)
abbrev E_f92 : Env := tab.env (AM.look [(124, sp_f124), (125, sp_f125)]) ⟨[(0, ⟨tt [3, 4], []⟩)], [], [], ⟨tt [2], []⟩, [], [124, 125], [], []⟩
def b_f92 : Code := bd Tryz.f92
abbrev R_f92 : List (Ty × List Tag) := [(.str, [])]
abbrev P_f92 : List PK := [.val k13b]
abbrev K_f92 : K (ResD R_f92) := fin E_f92 [.tmp 2] [] R_f92
def sg_f92_0 (x2 : Int) (x3 : D13a) : St := mk [(3, .dat k13b x2 []), (4, .dat k13c x3 [⟨0, 257, 0, 0⟩])] []
def q_f92_1 (m0 : Nat) : K (ResD R_f92) := blockK 0 K_f92
def cd_f92_1 : Code := (lft (lft (rgt (rgt (rgt b_f92)))))
def j0_f92 (m0 n : Nat) : Int → D13a → Option ByteArray := fun x2 x3 => ej E_f92 n (.loop cd_f92_1) 0 (sg_f92_0 x2 x3) (q_f92_1 m0)
theorem st_f92_j0 (m0 n : Nat) : j0_f92 m0 (n + 1) = ref02_Put.S0 (j0_f92 m0 n) := by kernel_rfl
theorem J_f92_0 (m0 : Nat) : ∀ n : Nat, j0_f92 m0 n = ref02_Put.l0 n :=
  ind rfl fun n e0 => (st_f92_j0 m0 n).trans (by rw [e0]; rfl)
theorem st_f92 (m0 : Nat) (x : ArgsD P_f92) : run E_f92 b_f92 m0 x K_f92 = ref02_Put.S (j0_f92 m0 m0) x.1 := by kernel_rfl
abbrev sp_f92 : AM.Spec := AM.spec P_f92 R_f92 (fun x => ref02_Put x.1)
theorem c_f92 : Contract Tryz.prog 92 sp_f92 := ctrC tabOk (fn := Tryz.f92) (fun x => (st_f92 fu x).trans (by rw [J_f92_0 fu fu]; rfl)) (callsOk_of ⟨⟨c_f124, Tryz.call124, fun _ => words_spec rfl⟩, ⟨⟨c_f125, Tryz.call125, fun _ => words_spec rfl⟩, trivial⟩⟩)
abbrev E_f86 : Env := tab.env (AM.look [(99, sp_f99), (92, sp_f92)]) ⟨[(0, ⟨tt [0, 4, 5], []⟩)], [], [], ⟨tt [2, 3], []⟩, [], [92, 99], [], []⟩
def b_f86 : Code := bd Tryz.f86
abbrev R_f86 : List (Ty × List Tag) := [(.str, []), (k13b, [])]
abbrev P_f86 : List PK := [.val k13j]
abbrev K_f86 : K (ResD R_f86) := fin E_f86 [.tmp 2, .tmp 3] [] R_f86
def sg_f86_0 (x2 : D13o) (x3 : ByteArray) (x4 : Int) : St := mk [(0, .dat k13j x2 []), (4, .dat .str x3 []), (5, .dat k13b x4 [])] []
def cd_f86_1 : Code := (rgt (rgt (rgt (rgt b_f86))))
def q_f86_1 (m0 : Nat) : K (ResD R_f86) := sqK E_f86 m0 cd_f86_1 0 K_f86
def q_f86_2 (m0 : Nat) : K (ResD R_f86) := blockK 0 (q_f86_1 m0)
def cd_f86_2 : Code := (lft (lft (rgt (lft (rgt (rgt (rgt b_f86)))))))
def j0_f86 (m0 n : Nat) : D13o → ByteArray → Int → Option D13g := fun x2 x3 x4 => ej E_f86 n (.loop cd_f86_2) 0 (sg_f86_0 x2 x3 x4) (q_f86_2 m0)
theorem st_f86_j0 (m0 n : Nat) : j0_f86 m0 (n + 1) = ref10_Put.S0 (j0_f86 m0 n) := by kernel_rfl
theorem J_f86_0 (m0 : Nat) : ∀ n : Nat, j0_f86 m0 n = ref10_Put.l0 n :=
  ind rfl fun n e0 => (st_f86_j0 m0 n).trans (by rw [e0]; rfl)
theorem st_f86 (m0 : Nat) (x : ArgsD P_f86) : run E_f86 b_f86 m0 x K_f86 = ref10_Put.S (j0_f86 m0 m0) x.1 := by kernel_rfl
abbrev sp_f86 : AM.Spec := AM.spec P_f86 R_f86 (fun x => ref10_Put x.1)
theorem c_f86 : Contract Tryz.prog 86 sp_f86 := ctrC tabOk (fn := Tryz.f86) (fun x => (st_f86 fu x).trans (by rw [J_f86_0 fu fu]; rfl)) (callsOk_of ⟨⟨c_f99, Tryz.call99, fun _ => words_spec rfl⟩, ⟨⟨c_f92, Tryz.call92, fun _ => words_spec rfl⟩, trivial⟩⟩)
abbrev E_f120 : Env := tab.env (AM.look []) ⟨[(0, ⟨tt [0, 3, 4], []⟩)], [], [], ⟨tt [2], []⟩, [], [], [], [22]⟩
def b_f120 : Code := bd Tryz.f120
abbrev R_f120 : List (Ty × List Tag) := [(k13d, [⟨0, 1, 0, 1⟩])]
abbrev P_f120 : List PK := [.val k13d]
abbrev K_f120 : K (ResD R_f120) := fin E_f120 [.tmp 2] [] R_f120
def sg_f120_0 (x1 x2 : D13a) (x3 : Int) : St := mk [(0, .dat k13d x1 []), (3, .dat k13d x2 [⟨0, 193, 0, 1⟩]), (4, .dat k13b x3 [])] []
def cd_f120_1 : Code := (rgt (rgt (rgt b_f120)))
def q_f120_1 (m0 : Nat) : K (ResD R_f120) := sqK E_f120 m0 cd_f120_1 0 K_f120
def q_f120_2 (m0 : Nat) : K (ResD R_f120) := blockK 0 (q_f120_1 m0)
def cd_f120_2 : Code := (lft (lft (rgt (lft (rgt (rgt b_f120))))))
def j0_f120 (m0 n : Nat) : D13a → D13a → Int → Option D13d := fun x1 x2 x3 => ej E_f120 n (.loop cd_f120_2) 0 (sg_f120_0 x1 x2 x3) (q_f120_2 m0)
theorem st_f120_j0 (m0 n : Nat) : j0_f120 m0 (n + 1) = ref09_steps.S0 (j0_f120 m0 n) := by kernel_rfl
theorem J_f120_0 (m0 : Nat) : ∀ n : Nat, j0_f120 m0 n = ref09_steps.l0 n :=
  ind rfl fun n e0 => (st_f120_j0 m0 n).trans (by rw [e0]; rfl)
theorem st_f120 (m0 : Nat) (x : ArgsD P_f120) : run E_f120 b_f120 m0 x K_f120 = ref09_steps.S (j0_f120 m0 m0) x.1 := by kernel_rfl
abbrev sp_f120 : AM.Spec := AM.spec P_f120 R_f120 (fun x => ref09_steps x.1)
theorem c_f120 : Contract Tryz.prog 120 sp_f120 := ctrC tabOk (fn := Tryz.f120) (fun x => (st_f120 fu x).trans (by rw [J_f120_0 fu fu]; rfl)) (callsOk_of trivial)
abbrev E_f121 : Env := tab.env (AM.look []) ⟨[(0, ⟨tt [0, 3, 4], []⟩)], [], [], ⟨tt [2], []⟩, [], [], [], []⟩
def b_f121 : Code := bd Tryz.f121
abbrev R_f121 : List (Ty × List Tag) := [(k13b, [])]
abbrev P_f121 : List PK := [.val k13d]
abbrev K_f121 : K (ResD R_f121) := fin E_f121 [.tmp 2] [] R_f121
def sg_f121_0 (x1 : D13a) (x2 x3 : Int) : St := mk [(0, .dat k13d x1 []), (3, .dat k13b x2 []), (4, .dat k13b x3 [])] []
def cd_f121_1 : Code := (rgt (rgt (rgt b_f121)))
def q_f121_1 (m0 : Nat) : K (ResD R_f121) := sqK E_f121 m0 cd_f121_1 0 K_f121
def q_f121_2 (m0 : Nat) : K (ResD R_f121) := blockK 0 (q_f121_1 m0)
def cd_f121_2 : Code := (lft (lft (rgt (lft (rgt (rgt b_f121))))))
def j0_f121 (m0 n : Nat) : D13a → Int → Int → Option Int := fun x1 x2 x3 => ej E_f121 n (.loop cd_f121_2) 0 (sg_f121_0 x1 x2 x3) (q_f121_2 m0)
theorem st_f121_j0 (m0 n : Nat) : j0_f121 m0 (n + 1) = ref09_least.S0 (j0_f121 m0 n) := by kernel_rfl
theorem J_f121_0 (m0 : Nat) : ∀ n : Nat, j0_f121 m0 n = ref09_least.l0 n :=
  ind rfl fun n e0 => (st_f121_j0 m0 n).trans (by rw [e0]; rfl)
theorem st_f121 (m0 : Nat) (x : ArgsD P_f121) : run E_f121 b_f121 m0 x K_f121 = ref09_least.S (j0_f121 m0 m0) x.1 := by kernel_rfl
abbrev sp_f121 : AM.Spec := AM.spec P_f121 R_f121 (fun x => ref09_least x.1)
theorem c_f121 : Contract Tryz.prog 121 sp_f121 := ctrC tabOk (fn := Tryz.f121) (fun x => (st_f121 fu x).trans (by rw [J_f121_0 fu fu]; rfl)) (callsOk_of trivial)
abbrev E_f88 : Env := tab.env (AM.look [(92, sp_f92), (120, sp_f120), (121, sp_f121), (83, sp_f83), (48, sp_f48)]) ⟨[(0, ⟨tt [4, 5, 6, 7, 8], []⟩)], [], [(15, ⟨tt [4, 6, 7], []⟩)], ⟨tt [2, 3], []⟩, [], [48, 83, 92, 121], [], [59]⟩
def b_f88 : Code := bd Tryz.f88
abbrev R_f88 : List (Ty × List Tag) := [(.str, []), (k13b, [])]
abbrev P_f88 : List PK := [.val k13d]
abbrev K_f88 : K (ResD R_f88) := fin E_f88 [.tmp 2, .tmp 3] [] R_f88
def sg_f88_1 (x9 : ByteArray) (x10 : Int) (x11 : D13a) : St := mk [(4, .dat .str x9 []), (6, .dat k13b x10 []), (7, .dat k13d x11 [⟨0, 449, 0, 1⟩])] []
def sg_f88_0 (x4 : ByteArray) (x5 : D13a) (x6 : Int) (x7 : D13a) (x8 : Int) : St := mk [(4, .dat .str x4 []), (5, .dat k13d x5 [⟨0, 321, 0, 1⟩]), (6, .dat k13b x6 []), (7, .dat k13d x7 [⟨0, 449, 0, 1⟩]), (8, .dat k13b x8 [])] []
def cd_f88_1 : Code := (rgt (rgt (rgt (rgt (rgt (rgt (rgt (rgt (rgt b_f88)))))))))
def j1_f88 (m0 n : Nat) : ByteArray → Int → D13a → Option D13g := fun x9 x10 x11 => ej E_f88 n (.tail cd_f88_1) 0 (sg_f88_1 x9 x10 x11) K_f88
theorem st_f88_j1 (m0 n : Nat) : j1_f88 m0 (n + 1) = ref09_Put.S1 := by kernel_rfl
theorem J_f88_1 (m0 : Nat) : ∀ n : Nat, j1_f88 m0 n = ref09_Put.t1 n :=
  ind rfl fun n _ => st_f88_j1 m0 n
def q_f88_1 (m0 : Nat) : K (ResD R_f88) := sqK E_f88 m0 cd_f88_1 0 K_f88
def q_f88_2 (m0 : Nat) : K (ResD R_f88) := blockK 0 (q_f88_1 m0)
def cd_f88_2 : Code := (lft (lft (rgt (lft (rgt (rgt (rgt (rgt (rgt (rgt (rgt (rgt b_f88))))))))))))
def j0_f88 (m0 n : Nat) : ByteArray → D13a → Int → D13a → Int → Option D13g := fun x4 x5 x6 x7 x8 => ej E_f88 n (.loop cd_f88_2) 0 (sg_f88_0 x4 x5 x6 x7 x8) (q_f88_2 m0)
theorem st_f88_j0 (m0 n : Nat) : j0_f88 m0 (n + 1) = ref09_Put.S0 (j1_f88 m0 m0) (j0_f88 m0 n) := by kernel_rfl
theorem J_f88_0 (m0 : Nat) : ∀ n : Nat, j0_f88 m0 n = ref09_Put.l0 (j1_f88 m0 m0) n :=
  ind rfl fun n e0 => (st_f88_j0 m0 n).trans (by rw [e0]; rfl)
theorem st_f88 (m0 : Nat) (x : ArgsD P_f88) : run E_f88 b_f88 m0 x K_f88 = ref09_Put.S (j0_f88 m0 m0) x.1 := by kernel_rfl
abbrev sp_f88 : AM.Spec := AM.spec P_f88 R_f88 (fun x => ref09_Put x.1)
theorem c_f88 : Contract Tryz.prog 88 sp_f88 := ctrC tabOk (fn := Tryz.f88) (show ∀ x, run E_f88 b_f88 fu x K_f88 = _ from fun x => by
  have e1 : j1_f88 fu fu = ref09_Put.t1 fu := J_f88_1 fu fu
  have e0 : j0_f88 fu fu = ref09_Put.l0 (ref09_Put.t1 fu) fu := by rw [← e1]; exact J_f88_0 fu fu
  refine (st_f88 fu x).trans ?_
  rw [e0]; rfl) (callsOk_of ⟨⟨c_f92, Tryz.call92, fun _ => words_spec rfl⟩, ⟨⟨c_f120, Tryz.call120, nw⟩, ⟨⟨c_f121, Tryz.call121, fun _ => words_spec rfl⟩, ⟨⟨c_f83, Tryz.call83, fun _ => words_spec rfl⟩, ⟨⟨c_f48, Tryz.call48, fun _ => words_spec rfl⟩, trivial⟩⟩⟩⟩⟩)
abbrev E_f122 : Env := tab.env (AM.look []) ⟨[(0, ⟨tt [0, 4, 5, 6], []⟩), (2, ⟨tt [0, 4, 5, 6, 7], []⟩), (4, ⟨tt [0, 4, 5, 9], []⟩), (6, ⟨tt [0, 4, 5, 9, 10], []⟩)], [], [(8, ⟨tt [0, 4, 5, 6, 7], []⟩), (9, ⟨tt [0, 4, 5, 6, 7], []⟩), (13, ⟨tt [0, 4, 5], []⟩)], ⟨tt [2, 3], []⟩, [], [], [], []⟩
def b_f122 : Code := bd Tryz.f122
abbrev R_f122 : List (Ty × List Tag) := [(k13d, [⟨0, 1, 0, 1⟩]), (k13d, [⟨0, 1, 0, 1⟩])]
abbrev P_f122 : List PK := [.val k13d]
abbrev K_f122 : K (ResD R_f122) := fin E_f122 [.tmp 2, .tmp 3] [] R_f122
def sg_f122_6 (x27 x28 x29 : D13a) (x30 x31 : Int) : St := mk [(0, .dat k13d x27 []), (4, .dat k13d x28 [⟨0, 257, 0, 1⟩]), (5, .dat k13d x29 [⟨0, 321, 0, 1⟩]), (9, .dat k13b x30 []), (10, .dat k13b x31 [])] []
def sg_f122_5 (x23 x24 x25 : D13a) (x26 : Int) : St := mk [(0, .dat k13d x23 []), (4, .dat k13d x24 [⟨0, 257, 0, 1⟩]), (5, .dat k13d x25 [⟨0, 321, 0, 1⟩]), (9, .dat k13b x26 [])] []
def sg_f122_4 (x20 x21 x22 : D13a) : St := mk [(0, .dat k13d x20 []), (4, .dat k13d x21 [⟨0, 257, 0, 1⟩]), (5, .dat k13d x22 [⟨0, 321, 0, 1⟩])] []
def sg_f122_3 (x15 x16 x17 : D13a) (x18 x19 : Int) : St := mk [(0, .dat k13d x15 []), (4, .dat k13d x16 [⟨0, 257, 0, 1⟩]), (5, .dat k13d x17 [⟨0, 321, 0, 1⟩]), (6, .dat k13b x18 []), (7, .dat k13b x19 [])] []
def sg_f122_2 (x10 x11 x12 : D13a) (x13 x14 : Int) : St := mk [(0, .dat k13d x10 []), (4, .dat k13d x11 [⟨0, 257, 0, 1⟩]), (5, .dat k13d x12 [⟨0, 321, 0, 1⟩]), (6, .dat k13b x13 []), (7, .dat k13b x14 [])] []
def sg_f122_1 (x5 x6 x7 : D13a) (x8 x9 : Int) : St := mk [(0, .dat k13d x5 []), (4, .dat k13d x6 [⟨0, 257, 0, 1⟩]), (5, .dat k13d x7 [⟨0, 321, 0, 1⟩]), (6, .dat k13b x8 []), (7, .dat k13b x9 [])] []
def sg_f122_0 (x1 x2 x3 : D13a) (x4 : Int) : St := mk [(0, .dat k13d x1 []), (4, .dat k13d x2 [⟨0, 257, 0, 1⟩]), (5, .dat k13d x3 [⟨0, 321, 0, 1⟩]), (6, .dat k13b x4 [])] []
def cd_f122_1 : Code := (rgt (rgt (rgt (rgt b_f122))))
def q_f122_1 (m0 m1 : Nat) : K (ResD R_f122) := sqK E_f122 m1 cd_f122_1 0 K_f122
def q_f122_2 (m0 m1 : Nat) : K (ResD R_f122) := blockK 4 (q_f122_1 m0 m1)
def cd_f122_2 : Code := (lft (lft (rgt (lft (rgt (rgt (rgt b_f122)))))))
def j5_f122 (m0 m1 n : Nat) : D13a → D13a → D13a → Int → Option D13n := fun x23 x24 x25 x26 => ej E_f122 n (.loop cd_f122_2) 4 (sg_f122_5 x23 x24 x25 x26) (q_f122_2 m0 m1)
def q_f122_3 (m0 m1 m2 : Nat) : K (ResD R_f122) := lpK E_f122 m2 cd_f122_2 4 (q_f122_2 m0 m1)
def cd_f122_3 : Code := (rgt (rgt cd_f122_2))
def q_f122_4 (m0 m1 m2 : Nat) : K (ResD R_f122) := sqK E_f122 m2 cd_f122_3 4 (q_f122_3 m0 m1 m2)
def q_f122_5 (m0 m1 m2 : Nat) : K (ResD R_f122) := blockK 5 (q_f122_4 m0 m1 m2)
def cd_f122_4 : Code := (rgt (rgt (lft (lft (rgt cd_f122_2)))))
def q_f122_6 (m0 m1 m2 : Nat) : K (ResD R_f122) := sqK E_f122 m2 cd_f122_4 5 (q_f122_5 m0 m1 m2)
def q_f122_7 (m0 m1 m2 : Nat) : K (ResD R_f122) := blockK 6 (q_f122_6 m0 m1 m2)
def cd_f122_5 : Code := (lft (lft (lft (rgt (lft (lft (rgt cd_f122_2)))))))
def j6_f122 (m0 m1 : Nat) (m2 n : Nat) : D13a → D13a → D13a → Int → Int → Option D13n := fun x27 x28 x29 x30 x31 => ej E_f122 n (.loop cd_f122_5) 6 (sg_f122_6 x27 x28 x29 x30 x31) (q_f122_7 m0 m1 m2)
theorem st_f122_j6 (m0 m1 : Nat) (m2 n : Nat) : j6_f122 m0 m1 m2 (n + 1) = ref11_Ints.S6 (j5_f122 m0 m1 m2) (j6_f122 m0 m1 m2 n) := by kernel_rfl
theorem J_f122_6 (m0 m1 m2 : Nat) : ∀ n : Nat, j6_f122 m0 m1 m2 n = ref11_Ints.l6 (j5_f122 m0 m1 m2) n :=
  ind rfl fun n e6 => (st_f122_j6 m0 m1 m2 n).trans (by rw [e6]; rfl)
theorem st_f122_j5 (m0 m1 n : Nat) : j5_f122 m0 m1 (n + 1) = ref11_Ints.S5 (j6_f122 m0 m1 n n) := by kernel_rfl
theorem J_f122_5 (m0 m1 : Nat) : ∀ n : Nat, j5_f122 m0 m1 n = ref11_Ints.l5 n :=
  ind rfl fun n e5 => by
    have e6 : j6_f122 m0 m1 n n = ref11_Ints.l6 (ref11_Ints.l5 n) n := by rw [← e5]; exact J_f122_6 m0 m1 n n
    rw [st_f122_j5 m0 m1 n, e6]; rfl
def cd_f122_6 : Code := (rgt (rgt (rgt b_f122)))
def j4_f122 (m0 n : Nat) : D13a → D13a → D13a → Option D13n := fun x20 x21 x22 => ej E_f122 n (.tail cd_f122_6) 0 (sg_f122_4 x20 x21 x22) K_f122
theorem st_f122_j4 (m0 n : Nat) : j4_f122 m0 (n + 1) = ref11_Ints.S4 (j5_f122 m0 n n) := by kernel_rfl
theorem J_f122_4 (m0 : Nat) : ∀ n : Nat, j4_f122 m0 n = ref11_Ints.t4 n :=
  ind rfl fun n e4 => by
    have e5 : j5_f122 m0 n n = ref11_Ints.l5 n := J_f122_5 m0 n n
    rw [st_f122_j4 m0 n, e5]; rfl
def q_f122_8 (m0 : Nat) : K (ResD R_f122) := sqK E_f122 m0 cd_f122_6 0 K_f122
def q_f122_9 (m0 : Nat) : K (ResD R_f122) := blockK 0 (q_f122_8 m0)
def cd_f122_7 : Code := (lft (lft (rgt (lft (rgt (rgt b_f122))))))
def j0_f122 (m0 n : Nat) : D13a → D13a → D13a → Int → Option D13n := fun x1 x2 x3 x4 => ej E_f122 n (.loop cd_f122_7) 0 (sg_f122_0 x1 x2 x3 x4) (q_f122_9 m0)
def q_f122_10 (m0 m1 : Nat) : K (ResD R_f122) := lpK E_f122 m1 cd_f122_7 0 (q_f122_9 m0)
def cd_f122_8 : Code := (rgt (rgt cd_f122_7))
def q_f122_11 (m0 m1 : Nat) : K (ResD R_f122) := sqK E_f122 m1 cd_f122_8 0 (q_f122_10 m0 m1)
def q_f122_12 (m0 m1 : Nat) : K (ResD R_f122) := blockK 1 (q_f122_11 m0 m1)
def cd_f122_9 : Code := (rgt (rgt (rgt (lft (lft (rgt cd_f122_7))))))
def j3_f122 (m0 m1 n : Nat) : D13a → D13a → D13a → Int → Int → Option D13n := fun x15 x16 x17 x18 x19 => ej E_f122 n (.tail cd_f122_9) 1 (sg_f122_3 x15 x16 x17 x18 x19) (q_f122_12 m0 m1)
theorem st_f122_j3 (m0 m1 : Nat) (m2 n : Nat) : j3_f122 m0 m1 (n + 1) = ref11_Ints.S3 (j0_f122 m0 m1) := by kernel_rfl
theorem J_f122_3 (m0 m1 m2 : Nat) : ∀ n : Nat, j3_f122 m0 m1 n = ref11_Ints.t3 (j0_f122 m0 m1) n :=
  ind rfl fun n _ => st_f122_j3 m0 m1 m2 n
def cd_f122_10 : Code := (rgt (rgt (lft (lft (rgt cd_f122_7)))))
def j2_f122 (m0 m1 n : Nat) : D13a → D13a → D13a → Int → Int → Option D13n := fun x10 x11 x12 x13 x14 => ej E_f122 n (.tail cd_f122_10) 1 (sg_f122_2 x10 x11 x12 x13 x14) (q_f122_12 m0 m1)
theorem st_f122_j2 (m0 m1 n : Nat) : j2_f122 m0 m1 (n + 1) = ref11_Ints.S2 (j0_f122 m0 m1) (j3_f122 m0 m1 n) := by kernel_rfl
theorem J_f122_2 (m0 m1 : Nat) : ∀ n : Nat, j2_f122 m0 m1 n = ref11_Ints.t2 (j0_f122 m0 m1) n :=
  ind rfl fun n e2 => by
    have e3 : j3_f122 m0 m1 n = ref11_Ints.t3 (j0_f122 m0 m1) n := J_f122_3 m0 m1 n n
    rw [st_f122_j2 m0 m1 n, e3]; rfl
def q_f122_13 (m0 m1 : Nat) : K (ResD R_f122) := sqK E_f122 m1 cd_f122_10 1 (q_f122_12 m0 m1)
def q_f122_14 (m0 m1 : Nat) : K (ResD R_f122) := blockK 2 (q_f122_13 m0 m1)
def cd_f122_11 : Code := (lft (lft (lft (rgt (lft (lft (rgt cd_f122_7)))))))
def j1_f122 (m0 m1 n : Nat) : D13a → D13a → D13a → Int → Int → Option D13n := fun x5 x6 x7 x8 x9 => ej E_f122 n (.loop cd_f122_11) 2 (sg_f122_1 x5 x6 x7 x8 x9) (q_f122_14 m0 m1)
theorem st_f122_j1 (m0 m1 n : Nat) : j1_f122 m0 m1 (n + 1) = ref11_Ints.S1 (j2_f122 m0 m1 m1) (j1_f122 m0 m1 n) := by kernel_rfl
theorem J_f122_1 (m0 m1 : Nat) : ∀ n : Nat, j1_f122 m0 m1 n = ref11_Ints.l1 (j2_f122 m0 m1 m1) n :=
  ind rfl fun n e1 => (st_f122_j1 m0 m1 n).trans (by rw [e1]; rfl)
theorem st_f122_j0 (m0 n : Nat) : j0_f122 m0 (n + 1) = ref11_Ints.S0 (j4_f122 m0 m0) (j1_f122 m0 n n) := by kernel_rfl
theorem J_f122_0 (m0 : Nat) : ∀ n : Nat, j0_f122 m0 n = ref11_Ints.l0 (j4_f122 m0 m0) n :=
  ind rfl fun n e0 => by
    have e2 : j2_f122 m0 n n = ref11_Ints.t2 (ref11_Ints.l0 (j4_f122 m0 m0) n) n := by rw [← e0]; exact J_f122_2 m0 n n
    have e1 : j1_f122 m0 n n = ref11_Ints.l1 (ref11_Ints.t2 (ref11_Ints.l0 (j4_f122 m0 m0) n) n) n := by rw [← e2]; exact J_f122_1 m0 n n
    rw [st_f122_j0 m0 n, e1]; rfl
theorem st_f122 (m0 : Nat) (x : ArgsD P_f122) : run E_f122 b_f122 m0 x K_f122 = ref11_Ints.S (j0_f122 m0 m0) x.1 := by kernel_rfl
abbrev sp_f122 : AM.Spec := AM.spec P_f122 R_f122 (fun x => ref11_Ints x.1)
theorem c_f122 : Contract Tryz.prog 122 sp_f122 := ctrC tabOk (fn := Tryz.f122) (show ∀ x, run E_f122 b_f122 fu x K_f122 = _ from fun x => by
  have e4 : j4_f122 fu fu = ref11_Ints.t4 fu := J_f122_4 fu fu
  have e0 : j0_f122 fu fu = ref11_Ints.l0 (ref11_Ints.t4 fu) fu := by rw [← e4]; exact J_f122_0 fu fu
  refine (st_f122 fu x).trans ?_
  rw [e0]; rfl) (callsOk_of trivial)
abbrev E_f123 : Env := tab.env (AM.look [(83, sp_f83), (48, sp_f48)]) ⟨[], [], [], ⟨tt [2], []⟩, [], [48, 83], [], []⟩
def b_f123 : Code := bd Tryz.f123
abbrev R_f123 : List (Ty × List Tag) := [(.str, [])]
abbrev P_f123 : List PK := [.val k13d]
abbrev K_f123 : K (ResD R_f123) := fin E_f123 [.tmp 2] [] R_f123
abbrev sp_f123 : AM.Spec := AM.spec P_f123 R_f123 (fun x => ref11_packed x.1)
theorem c_f123 : Contract Tryz.prog 123 sp_f123 := ctrC tabOk (fn := Tryz.f123) (show ∀ x, run E_f123 b_f123 fu x K_f123 = _ from fun x => by kernel_rfl) (callsOk_of ⟨⟨c_f83, Tryz.call83, fun _ => words_spec rfl⟩, ⟨⟨c_f48, Tryz.call48, fun _ => words_spec rfl⟩, trivial⟩⟩)
abbrev E_f89 : Env := tab.env (AM.look [(122, sp_f122), (92, sp_f92), (123, sp_f123)]) ⟨[(0, ⟨tt [4, 5, 6, 7], []⟩)], [], [(11, ⟨tt [5, 6], []⟩)], ⟨tt [2, 3], []⟩, [], [92, 123], [], []⟩
def b_f89 : Code := bd Tryz.f89
abbrev R_f89 : List (Ty × List Tag) := [(.str, []), (k13b, [])]
abbrev P_f89 : List PK := [.val k13d]
abbrev K_f89 : K (ResD R_f89) := fin E_f89 [.tmp 2, .tmp 3] [] R_f89
def sg_f89_1 (x8 : D13a) (x9 : ByteArray) : St := mk [(5, .dat k13d x8 [⟨0, 321, 0, 1⟩]), (6, .dat .str x9 [])] []
def sg_f89_0 (x3 x4 : D13a) (x5 : ByteArray) (x6 : Int) : St := mk [(4, .dat k13d x3 [⟨0, 257, 0, 1⟩]), (5, .dat k13d x4 [⟨0, 321, 0, 1⟩]), (6, .dat .str x5 []), (7, .dat k13b x6 [])] []
def cd_f89_1 : Code := (rgt (rgt (rgt (rgt (rgt (rgt b_f89))))))
def j1_f89 (m0 n : Nat) : D13a → ByteArray → Option D13g := fun x8 x9 => ej E_f89 n (.tail cd_f89_1) 0 (sg_f89_1 x8 x9) K_f89
theorem st_f89_j1 (m0 n : Nat) : j1_f89 m0 (n + 1) = ref11_PutInts.S1 := by kernel_rfl
theorem J_f89_1 (m0 : Nat) : ∀ n : Nat, j1_f89 m0 n = ref11_PutInts.t1 n :=
  ind rfl fun n _ => st_f89_j1 m0 n
def q_f89_1 (m0 : Nat) : K (ResD R_f89) := sqK E_f89 m0 cd_f89_1 0 K_f89
def q_f89_2 (m0 : Nat) : K (ResD R_f89) := blockK 0 (q_f89_1 m0)
def cd_f89_2 : Code := (lft (lft (rgt (lft (rgt (rgt (rgt (rgt (rgt b_f89)))))))))
def j0_f89 (m0 n : Nat) : D13a → D13a → ByteArray → Int → Option D13g := fun x3 x4 x5 x6 => ej E_f89 n (.loop cd_f89_2) 0 (sg_f89_0 x3 x4 x5 x6) (q_f89_2 m0)
theorem st_f89_j0 (m0 n : Nat) : j0_f89 m0 (n + 1) = ref11_PutInts.S0 (j1_f89 m0 m0) (j0_f89 m0 n) := by kernel_rfl
theorem J_f89_0 (m0 : Nat) : ∀ n : Nat, j0_f89 m0 n = ref11_PutInts.l0 (j1_f89 m0 m0) n :=
  ind rfl fun n e0 => (st_f89_j0 m0 n).trans (by rw [e0]; rfl)
theorem st_f89 (m0 : Nat) (x : ArgsD P_f89) : run E_f89 b_f89 m0 x K_f89 = ref11_PutInts.S (j0_f89 m0 m0) x.1 := by kernel_rfl
abbrev sp_f89 : AM.Spec := AM.spec P_f89 R_f89 (fun x => ref11_PutInts x.1)
theorem c_f89 : Contract Tryz.prog 89 sp_f89 := ctrC tabOk (fn := Tryz.f89) (show ∀ x, run E_f89 b_f89 fu x K_f89 = _ from fun x => by
  have e1 : j1_f89 fu fu = ref11_PutInts.t1 fu := J_f89_1 fu fu
  have e0 : j0_f89 fu fu = ref11_PutInts.l0 (ref11_PutInts.t1 fu) fu := by rw [← e1]; exact J_f89_0 fu fu
  refine (st_f89 fu x).trans ?_
  rw [e0]; rfl) (callsOk_of ⟨⟨c_f122, Tryz.call122, nw⟩, ⟨⟨c_f92, Tryz.call92, fun _ => words_spec rfl⟩, ⟨⟨c_f123, Tryz.call123, fun _ => words_spec rfl⟩, trivial⟩⟩⟩)
abbrev E_f49 : Env := tab.env (AM.look [(85, sp_f85), (87, sp_f87), (86, sp_f86), (88, sp_f88), (89, sp_f89), (83, sp_f83), (48, sp_f48)]) ⟨[], [], [], ⟨tt [4, 5], []⟩, [], [48, 83, 85, 86, 88, 89], [], []⟩
def b_f49 : Code := bd Tryz.f49
abbrev R_f49 : List (Ty × List Tag) := [(.str, []), (.bool, [])]
abbrev P_f49 : List PK := [.val k13d, .val k13b]
abbrev K_f49 : K (ResD R_f49) := fin E_f49 [.tmp 4, .tmp 5] [] R_f49
abbrev sp_f49 : AM.Spec := AM.spec P_f49 R_f49 (fun x => ref13_numbers x.1 x.2.1)
theorem c_f49 : Contract Tryz.prog 49 sp_f49 := ctrC tabOk (fn := Tryz.f49) (show ∀ x, run E_f49 b_f49 fu x K_f49 = _ from fun x => by kernel_rfl) (callsOk_of ⟨⟨c_f85, Tryz.call85, fun _ => words_spec rfl⟩, ⟨⟨c_f87, Tryz.call87, nw⟩, ⟨⟨c_f86, Tryz.call86, fun _ => words_spec rfl⟩, ⟨⟨c_f88, Tryz.call88, fun _ => words_spec rfl⟩, ⟨⟨c_f89, Tryz.call89, fun _ => words_spec rfl⟩, ⟨⟨c_f83, Tryz.call83, fun _ => words_spec rfl⟩, ⟨⟨c_f48, Tryz.call48, fun _ => words_spec rfl⟩, trivial⟩⟩⟩⟩⟩⟩⟩)
abbrev E_f52 : Env := tab.env (AM.look []) ⟨[(0, ⟨tt [0, 3, 4], []⟩)], [], [], ⟨tt [2], []⟩, [], [], [], []⟩
def b_f52 : Code := bd Tryz.f52
abbrev R_f52 : List (Ty × List Tag) := [(k13a, [⟨0, 1, 0, 1⟩])]
abbrev P_f52 : List PK := [.val k13h]
abbrev K_f52 : K (ResD R_f52) := fin E_f52 [.tmp 2] [] R_f52
def sg_f52_0 (x1 : D13u) (x2 : D13e) (x3 : Int) : St := mk [(0, .dat k13h x1 []), (3, .dat k13a x2 [⟨0, 193, 0, 1⟩]), (4, .dat k13b x3 [])] []
def cd_f52_1 : Code := (rgt (rgt (rgt b_f52)))
def q_f52_1 (m0 : Nat) : K (ResD R_f52) := sqK E_f52 m0 cd_f52_1 0 K_f52
def q_f52_2 (m0 : Nat) : K (ResD R_f52) := blockK 0 (q_f52_1 m0)
def cd_f52_2 : Code := (lft (lft (rgt (lft (rgt (rgt b_f52))))))
def j0_f52 (m0 n : Nat) : D13u → D13e → Int → Option (D13e) := fun x1 x2 x3 => ej E_f52 n (.loop cd_f52_2) 0 (sg_f52_0 x1 x2 x3) (q_f52_2 m0)
theorem st_f52_j0 (m0 n : Nat) : j0_f52 m0 (n + 1) = ref13_texts.S0 (j0_f52 m0 n) := by kernel_rfl
theorem J_f52_0 (m0 : Nat) : ∀ n : Nat, j0_f52 m0 n = ref13_texts.l0 n :=
  ind rfl fun n e0 => (st_f52_j0 m0 n).trans (by rw [e0]; rfl)
theorem st_f52 (m0 : Nat) (x : ArgsD P_f52) : run E_f52 b_f52 m0 x K_f52 = ref13_texts.S (j0_f52 m0 m0) x.1 := by kernel_rfl
abbrev sp_f52 : AM.Spec := AM.spec P_f52 R_f52 (fun x => ref13_texts x.1)
theorem c_f52 : Contract Tryz.prog 52 sp_f52 := ctrC tabOk (fn := Tryz.f52) (fun x => (st_f52 fu x).trans (by rw [J_f52_0 fu fu]; rfl)) (callsOk_of trivial)
abbrev E_f90 : Env := tab.env (AM.look []) ⟨[(0, ⟨tt [0, 4, 5], []⟩)], [], [], ⟨tt [2, 3], []⟩, [], [], [], []⟩
def b_f90 : Code := bd Tryz.f90
abbrev R_f90 : List (Ty × List Tag) := [(.str, []), (k13b, [])]
abbrev P_f90 : List PK := [.val k13a]
abbrev K_f90 : K (ResD R_f90) := fin E_f90 [.tmp 2, .tmp 3] [] R_f90
def sg_f90_0 (x1 : D13e) (x2 : D13a) (x3 : Int) : St := mk [(0, .dat k13a x1 []), (4, .dat k13c x2 [⟨0, 257, 0, 0⟩]), (5, .dat k13b x3 [])] []
def cd_f90_1 : Code := (rgt (rgt (rgt b_f90)))
def q_f90_1 (m0 : Nat) : K (ResD R_f90) := sqK E_f90 m0 cd_f90_1 0 K_f90
def q_f90_2 (m0 : Nat) : K (ResD R_f90) := blockK 0 (q_f90_1 m0)
def cd_f90_2 : Code := (lft (lft (rgt (lft (rgt (rgt b_f90))))))
def j0_f90 (m0 n : Nat) : D13e → D13a → Int → Option D13g := fun x1 x2 x3 => ej E_f90 n (.loop cd_f90_2) 0 (sg_f90_0 x1 x2 x3) (q_f90_2 m0)
theorem st_f90_j0 (m0 n : Nat) : j0_f90 m0 (n + 1) = ref07_PutTexts.S0 (j0_f90 m0 n) := by kernel_rfl
theorem J_f90_0 (m0 : Nat) : ∀ n : Nat, j0_f90 m0 n = ref07_PutTexts.l0 n :=
  ind rfl fun n e0 => (st_f90_j0 m0 n).trans (by rw [e0]; rfl)
theorem st_f90 (m0 : Nat) (x : ArgsD P_f90) : run E_f90 b_f90 m0 x K_f90 = ref07_PutTexts.S (j0_f90 m0 m0) x.1 := by kernel_rfl
abbrev sp_f90 : AM.Spec := AM.spec P_f90 R_f90 (fun x => ref07_PutTexts x.1)
theorem c_f90 : Contract Tryz.prog 90 sp_f90 := ctrC tabOk (fn := Tryz.f90) (fun x => (st_f90 fu x).trans (by rw [J_f90_0 fu fu]; rfl)) (callsOk_of trivial)
abbrev E_f91 : Env := tab.env (AM.look []) ⟨[(0, ⟨tt [0, 4, 5, 6], []⟩), (2, ⟨tt [0, 4, 5, 6, 7], []⟩), (4, ⟨tt [0, 4, 5, 9], []⟩), (6, ⟨tt [0, 4, 5, 9, 10], []⟩)], [], [(9, ⟨tt [0, 4, 5, 6, 7], []⟩), (10, ⟨tt [0, 4, 5, 6, 7], []⟩), (14, ⟨tt [0, 4, 5], []⟩)], ⟨tt [2, 3], []⟩, [], [], [], []⟩
def b_f91 : Code := bd Tryz.f91
abbrev R_f91 : List (Ty × List Tag) := [(k13a, [⟨0, 1, 0, 1⟩]), (k13d, [⟨0, 1, 0, 1⟩])]
abbrev P_f91 : List PK := [.val k13a]
abbrev K_f91 : K (ResD R_f91) := fin E_f91 [.tmp 2, .tmp 3] [] R_f91
def sg_f91_6 (x27 x28 : D13e) (x29 : D13a) (x30 x31 : Int) : St := mk [(0, .dat k13a x27 []), (4, .dat k13a x28 [⟨0, 257, 0, 1⟩]), (5, .dat k13d x29 [⟨0, 321, 0, 1⟩]), (9, .dat k13b x30 []), (10, .dat k13b x31 [])] []
def sg_f91_5 (x23 x24 : D13e) (x25 : D13a) (x26 : Int) : St := mk [(0, .dat k13a x23 []), (4, .dat k13a x24 [⟨0, 257, 0, 1⟩]), (5, .dat k13d x25 [⟨0, 321, 0, 1⟩]), (9, .dat k13b x26 [])] []
def sg_f91_4 (x20 x21 : D13e) (x22 : D13a) : St := mk [(0, .dat k13a x20 []), (4, .dat k13a x21 [⟨0, 257, 0, 1⟩]), (5, .dat k13d x22 [⟨0, 321, 0, 1⟩])] []
def sg_f91_3 (x15 x16 : D13e) (x17 : D13a) (x18 x19 : Int) : St := mk [(0, .dat k13a x15 []), (4, .dat k13a x16 [⟨0, 257, 0, 1⟩]), (5, .dat k13d x17 [⟨0, 321, 0, 1⟩]), (6, .dat k13b x18 []), (7, .dat k13b x19 [])] []
def sg_f91_2 (x10 x11 : D13e) (x12 : D13a) (x13 x14 : Int) : St := mk [(0, .dat k13a x10 []), (4, .dat k13a x11 [⟨0, 257, 0, 1⟩]), (5, .dat k13d x12 [⟨0, 321, 0, 1⟩]), (6, .dat k13b x13 []), (7, .dat k13b x14 [])] []
def sg_f91_1 (x5 x6 : D13e) (x7 : D13a) (x8 x9 : Int) : St := mk [(0, .dat k13a x5 []), (4, .dat k13a x6 [⟨0, 257, 0, 1⟩]), (5, .dat k13d x7 [⟨0, 321, 0, 1⟩]), (6, .dat k13b x8 []), (7, .dat k13b x9 [])] []
def sg_f91_0 (x1 x2 : D13e) (x3 : D13a) (x4 : Int) : St := mk [(0, .dat k13a x1 []), (4, .dat k13a x2 [⟨0, 257, 0, 1⟩]), (5, .dat k13d x3 [⟨0, 321, 0, 1⟩]), (6, .dat k13b x4 [])] []
def cd_f91_1 : Code := (rgt (rgt (rgt (rgt (rgt b_f91)))))
def q_f91_1 (m0 m1 : Nat) : K (ResD R_f91) := sqK E_f91 m1 cd_f91_1 0 K_f91
def q_f91_2 (m0 m1 : Nat) : K (ResD R_f91) := blockK 4 (q_f91_1 m0 m1)
def cd_f91_2 : Code := (lft (lft (rgt (lft (rgt (rgt (rgt (rgt b_f91))))))))
def j5_f91 (m0 m1 n : Nat) : D13e → D13e → D13a → Int → Option D13r := fun x23 x24 x25 x26 => ej E_f91 n (.loop cd_f91_2) 4 (sg_f91_5 x23 x24 x25 x26) (q_f91_2 m0 m1)
def q_f91_3 (m0 m1 m2 : Nat) : K (ResD R_f91) := lpK E_f91 m2 cd_f91_2 4 (q_f91_2 m0 m1)
def cd_f91_3 : Code := (rgt (rgt cd_f91_2))
def q_f91_4 (m0 m1 m2 : Nat) : K (ResD R_f91) := sqK E_f91 m2 cd_f91_3 4 (q_f91_3 m0 m1 m2)
def q_f91_5 (m0 m1 m2 : Nat) : K (ResD R_f91) := blockK 5 (q_f91_4 m0 m1 m2)
def cd_f91_4 : Code := (rgt (rgt (lft (lft (rgt cd_f91_2)))))
def q_f91_6 (m0 m1 m2 : Nat) : K (ResD R_f91) := sqK E_f91 m2 cd_f91_4 5 (q_f91_5 m0 m1 m2)
def q_f91_7 (m0 m1 m2 : Nat) : K (ResD R_f91) := blockK 6 (q_f91_6 m0 m1 m2)
def cd_f91_5 : Code := (lft (lft (lft (rgt (lft (lft (rgt cd_f91_2)))))))
def j6_f91 (m0 m1 : Nat) (m2 n : Nat) : D13e → D13e → D13a → Int → Int → Option D13r := fun x27 x28 x29 x30 x31 => ej E_f91 n (.loop cd_f91_5) 6 (sg_f91_6 x27 x28 x29 x30 x31) (q_f91_7 m0 m1 m2)
theorem st_f91_j6 (m0 m1 : Nat) (m2 n : Nat) : j6_f91 m0 m1 m2 (n + 1) = ref11_Texts.S6 (j5_f91 m0 m1 m2) (j6_f91 m0 m1 m2 n) := by kernel_rfl
theorem J_f91_6 (m0 m1 m2 : Nat) : ∀ n : Nat, j6_f91 m0 m1 m2 n = ref11_Texts.l6 (j5_f91 m0 m1 m2) n :=
  ind rfl fun n e6 => (st_f91_j6 m0 m1 m2 n).trans (by rw [e6]; rfl)
theorem st_f91_j5 (m0 m1 n : Nat) : j5_f91 m0 m1 (n + 1) = ref11_Texts.S5 (j6_f91 m0 m1 n n) := by kernel_rfl
theorem J_f91_5 (m0 m1 : Nat) : ∀ n : Nat, j5_f91 m0 m1 n = ref11_Texts.l5 n :=
  ind rfl fun n e5 => by
    have e6 : j6_f91 m0 m1 n n = ref11_Texts.l6 (ref11_Texts.l5 n) n := by rw [← e5]; exact J_f91_6 m0 m1 n n
    rw [st_f91_j5 m0 m1 n, e6]; rfl
def cd_f91_6 : Code := (rgt (rgt (rgt (rgt b_f91))))
def j4_f91 (m0 n : Nat) : D13e → D13e → D13a → Option D13r := fun x20 x21 x22 => ej E_f91 n (.tail cd_f91_6) 0 (sg_f91_4 x20 x21 x22) K_f91
theorem st_f91_j4 (m0 n : Nat) : j4_f91 m0 (n + 1) = ref11_Texts.S4 (j5_f91 m0 n n) := by kernel_rfl
theorem J_f91_4 (m0 : Nat) : ∀ n : Nat, j4_f91 m0 n = ref11_Texts.t4 n :=
  ind rfl fun n e4 => by
    have e5 : j5_f91 m0 n n = ref11_Texts.l5 n := J_f91_5 m0 n n
    rw [st_f91_j4 m0 n, e5]; rfl
def q_f91_8 (m0 : Nat) : K (ResD R_f91) := sqK E_f91 m0 cd_f91_6 0 K_f91
def q_f91_9 (m0 : Nat) : K (ResD R_f91) := blockK 0 (q_f91_8 m0)
def cd_f91_7 : Code := (lft (lft (rgt (lft (rgt (rgt (rgt b_f91)))))))
def j0_f91 (m0 n : Nat) : D13e → D13e → D13a → Int → Option D13r := fun x1 x2 x3 x4 => ej E_f91 n (.loop cd_f91_7) 0 (sg_f91_0 x1 x2 x3 x4) (q_f91_9 m0)
def q_f91_10 (m0 m1 : Nat) : K (ResD R_f91) := lpK E_f91 m1 cd_f91_7 0 (q_f91_9 m0)
def cd_f91_8 : Code := (rgt (rgt cd_f91_7))
def q_f91_11 (m0 m1 : Nat) : K (ResD R_f91) := sqK E_f91 m1 cd_f91_8 0 (q_f91_10 m0 m1)
def q_f91_12 (m0 m1 : Nat) : K (ResD R_f91) := blockK 1 (q_f91_11 m0 m1)
def cd_f91_9 : Code := (rgt (rgt (rgt (lft (lft (rgt cd_f91_7))))))
def j3_f91 (m0 m1 n : Nat) : D13e → D13e → D13a → Int → Int → Option D13r := fun x15 x16 x17 x18 x19 => ej E_f91 n (.tail cd_f91_9) 1 (sg_f91_3 x15 x16 x17 x18 x19) (q_f91_12 m0 m1)
theorem st_f91_j3 (m0 m1 : Nat) (m2 n : Nat) : j3_f91 m0 m1 (n + 1) = ref11_Texts.S3 (j0_f91 m0 m1) := by kernel_rfl
theorem J_f91_3 (m0 m1 m2 : Nat) : ∀ n : Nat, j3_f91 m0 m1 n = ref11_Texts.t3 (j0_f91 m0 m1) n :=
  ind rfl fun n _ => st_f91_j3 m0 m1 m2 n
def cd_f91_10 : Code := (rgt (rgt (lft (lft (rgt cd_f91_7)))))
def j2_f91 (m0 m1 n : Nat) : D13e → D13e → D13a → Int → Int → Option D13r := fun x10 x11 x12 x13 x14 => ej E_f91 n (.tail cd_f91_10) 1 (sg_f91_2 x10 x11 x12 x13 x14) (q_f91_12 m0 m1)
theorem st_f91_j2 (m0 m1 n : Nat) : j2_f91 m0 m1 (n + 1) = ref11_Texts.S2 (j0_f91 m0 m1) (j3_f91 m0 m1 n) := by kernel_rfl
theorem J_f91_2 (m0 m1 : Nat) : ∀ n : Nat, j2_f91 m0 m1 n = ref11_Texts.t2 (j0_f91 m0 m1) n :=
  ind rfl fun n e2 => by
    have e3 : j3_f91 m0 m1 n = ref11_Texts.t3 (j0_f91 m0 m1) n := J_f91_3 m0 m1 n n
    rw [st_f91_j2 m0 m1 n, e3]; rfl
def q_f91_13 (m0 m1 : Nat) : K (ResD R_f91) := sqK E_f91 m1 cd_f91_10 1 (q_f91_12 m0 m1)
def q_f91_14 (m0 m1 : Nat) : K (ResD R_f91) := blockK 2 (q_f91_13 m0 m1)
def cd_f91_11 : Code := (lft (lft (lft (rgt (lft (lft (rgt cd_f91_7)))))))
def j1_f91 (m0 m1 n : Nat) : D13e → D13e → D13a → Int → Int → Option D13r := fun x5 x6 x7 x8 x9 => ej E_f91 n (.loop cd_f91_11) 2 (sg_f91_1 x5 x6 x7 x8 x9) (q_f91_14 m0 m1)
theorem st_f91_j1 (m0 m1 n : Nat) : j1_f91 m0 m1 (n + 1) = ref11_Texts.S1 (j2_f91 m0 m1 m1) (j1_f91 m0 m1 n) := by kernel_rfl
theorem J_f91_1 (m0 m1 : Nat) : ∀ n : Nat, j1_f91 m0 m1 n = ref11_Texts.l1 (j2_f91 m0 m1 m1) n :=
  ind rfl fun n e1 => (st_f91_j1 m0 m1 n).trans (by rw [e1]; rfl)
theorem st_f91_j0 (m0 n : Nat) : j0_f91 m0 (n + 1) = ref11_Texts.S0 (j4_f91 m0 m0) (j1_f91 m0 n n) := by kernel_rfl
theorem J_f91_0 (m0 : Nat) : ∀ n : Nat, j0_f91 m0 n = ref11_Texts.l0 (j4_f91 m0 m0) n :=
  ind rfl fun n e0 => by
    have e2 : j2_f91 m0 n n = ref11_Texts.t2 (ref11_Texts.l0 (j4_f91 m0 m0) n) n := by rw [← e0]; exact J_f91_2 m0 n n
    have e1 : j1_f91 m0 n n = ref11_Texts.l1 (ref11_Texts.t2 (ref11_Texts.l0 (j4_f91 m0 m0) n) n) n := by rw [← e2]; exact J_f91_1 m0 n n
    rw [st_f91_j0 m0 n, e1]; rfl
theorem st_f91 (m0 : Nat) (x : ArgsD P_f91) : run E_f91 b_f91 m0 x K_f91 = ref11_Texts.S (j0_f91 m0 m0) x.1 := by kernel_rfl
abbrev sp_f91 : AM.Spec := AM.spec P_f91 R_f91 (fun x => ref11_Texts x.1)
theorem c_f91 : Contract Tryz.prog 91 sp_f91 := ctrC tabOk (fn := Tryz.f91) (show ∀ x, run E_f91 b_f91 fu x K_f91 = _ from fun x => by
  have e4 : j4_f91 fu fu = ref11_Texts.t4 fu := J_f91_4 fu fu
  have e0 : j0_f91 fu fu = ref11_Texts.l0 (ref11_Texts.t4 fu) fu := by rw [← e4]; exact J_f91_0 fu fu
  refine (st_f91 fu x).trans ?_
  rw [e0]; rfl) (callsOk_of trivial)
abbrev E_f93 : Env := tab.env (AM.look [(91, sp_f91), (90, sp_f90), (92, sp_f92), (123, sp_f123)]) ⟨[], [], [], ⟨tt [2, 3], []⟩, [], [90, 92, 123], [], []⟩
def b_f93 : Code := bd Tryz.f93
abbrev R_f93 : List (Ty × List Tag) := [(.str, []), (k13b, [])]
abbrev P_f93 : List PK := [.val k13a]
abbrev K_f93 : K (ResD R_f93) := fin E_f93 [.tmp 2, .tmp 3] [] R_f93
abbrev sp_f93 : AM.Spec := AM.spec P_f93 R_f93 (fun x => ref11_PutTexts x.1)
theorem c_f93 : Contract Tryz.prog 93 sp_f93 := ctrC tabOk (fn := Tryz.f93) (show ∀ x, run E_f93 b_f93 fu x K_f93 = _ from fun x => by kernel_rfl) (callsOk_of ⟨⟨c_f91, Tryz.call91, nw⟩, ⟨⟨c_f90, Tryz.call90, fun _ => words_spec rfl⟩, ⟨⟨c_f92, Tryz.call92, fun _ => words_spec rfl⟩, ⟨⟨c_f123, Tryz.call123, fun _ => words_spec rfl⟩, trivial⟩⟩⟩⟩)
abbrev E_f51 : Env := tab.env (AM.look [(90, sp_f90), (91, sp_f91), (87, sp_f87), (86, sp_f86), (92, sp_f92), (93, sp_f93)]) ⟨[], [], [], ⟨tt [4, 5], []⟩, [], [86, 90, 92, 93], [], []⟩
def b_f51 : Code := bd Tryz.f51
abbrev R_f51 : List (Ty × List Tag) := [(.str, []), (.bool, [])]
abbrev P_f51 : List PK := [.val k13a, .val k13b]
abbrev K_f51 : K (ResD R_f51) := fin E_f51 [.tmp 4, .tmp 5] [] R_f51
abbrev sp_f51 : AM.Spec := AM.spec P_f51 R_f51 (fun x => ref13_words x.1 x.2.1)
theorem c_f51 : Contract Tryz.prog 51 sp_f51 := ctrC tabOk (fn := Tryz.f51) (show ∀ x, run E_f51 b_f51 fu x K_f51 = _ from fun x => by kernel_rfl) (callsOk_of ⟨⟨c_f90, Tryz.call90, fun _ => words_spec rfl⟩, ⟨⟨c_f91, Tryz.call91, nw⟩, ⟨⟨c_f87, Tryz.call87, nw⟩, ⟨⟨c_f86, Tryz.call86, fun _ => words_spec rfl⟩, ⟨⟨c_f92, Tryz.call92, fun _ => words_spec rfl⟩, ⟨⟨c_f93, Tryz.call93, fun _ => words_spec rfl⟩, trivial⟩⟩⟩⟩⟩⟩)
abbrev E_f28 : Env := tab.env (AM.look [(50, sp_f50), (49, sp_f49), (52, sp_f52), (51, sp_f51)]) ⟨[], [], [], ⟨tt [6, 7], []⟩, [], [49, 51], [], []⟩
def b_f28 : Code := bd Tryz.f28
abbrev R_f28 : List (Ty × List Tag) := [(.str, []), (.bool, [])]
abbrev P_f28 : List PK := [.val k13h, .val k13b, .val k13b]
abbrev K_f28 : K (ResD R_f28) := fin E_f28 [.tmp 6, .tmp 7] [] R_f28
abbrev sp_f28 : AM.Spec := AM.spec P_f28 R_f28 (fun x => ref13_Values x.1 x.2.1 x.2.2.1)
theorem c_f28 : Contract Tryz.prog 28 sp_f28 := ctrC tabOk (fn := Tryz.f28) (show ∀ x, run E_f28 b_f28 fu x K_f28 = _ from fun x => by kernel_rfl) (callsOk_of ⟨⟨c_f50, Tryz.call50, nw⟩, ⟨⟨c_f49, Tryz.call49, fun _ => words_spec rfl⟩, ⟨⟨c_f52, Tryz.call52, nw⟩, ⟨⟨c_f51, Tryz.call51, fun _ => words_spec rfl⟩, trivial⟩⟩⟩⟩)
abbrev E_f94 : Env := tab.env (AM.look []) ⟨[(0, ⟨tt [1, 5, 6], []⟩), (2, ⟨tt [1, 5, 6, 7], []⟩)], [], [], ⟨tt [4], []⟩, [], [], [], []⟩
def b_f94 : Code := bd Tryz.f94
abbrev R_f94 : List (Ty × List Tag) := [(k13b, [])]
abbrev P_f94 : List PK := [.val k13b, .val .str]
abbrev K_f94 : K (ResD R_f94) := fin E_f94 [.tmp 4] [] R_f94
def sg_f94_1 (x4 : ByteArray) (x5 x6 x7 : Int) : St := mk [(1, .dat .str x4 []), (5, .dat k13b x5 []), (6, .dat k13b x6 []), (7, .dat k13b x7 [])] []
def sg_f94_0 (x1 : ByteArray) (x2 x3 : Int) : St := mk [(1, .dat .str x1 []), (5, .dat k13b x2 []), (6, .dat k13b x3 [])] []
def cd_f94_1 : Code := (rgt (rgt (rgt b_f94)))
def q_f94_1 (m0 : Nat) : K (ResD R_f94) := sqK E_f94 m0 cd_f94_1 0 K_f94
def q_f94_2 (m0 : Nat) : K (ResD R_f94) := blockK 0 (q_f94_1 m0)
def cd_f94_2 : Code := (lft (lft (rgt (lft (rgt (rgt b_f94))))))
def j0_f94 (m0 n : Nat) : ByteArray → Int → Int → Option Int := fun x1 x2 x3 => ej E_f94 n (.loop cd_f94_2) 0 (sg_f94_0 x1 x2 x3) (q_f94_2 m0)
def q_f94_3 (m0 m1 : Nat) : K (ResD R_f94) := lpK E_f94 m1 cd_f94_2 0 (q_f94_2 m0)
def cd_f94_3 : Code := (rgt (rgt cd_f94_2))
def q_f94_4 (m0 m1 : Nat) : K (ResD R_f94) := sqK E_f94 m1 cd_f94_3 0 (q_f94_3 m0 m1)
def q_f94_5 (m0 m1 : Nat) : K (ResD R_f94) := blockK 1 (q_f94_4 m0 m1)
def q_f94_6 (m0 m1 : Nat) : K (ResD R_f94) := blockK 2 (q_f94_5 m0 m1)
def cd_f94_4 : Code := (lft (lft (rgt (lft (lft (rgt cd_f94_2))))))
def j1_f94 (m0 m1 n : Nat) : ByteArray → Int → Int → Int → Option Int := fun x4 x5 x6 x7 => ej E_f94 n (.loop cd_f94_4) 2 (sg_f94_1 x4 x5 x6 x7) (q_f94_6 m0 m1)
theorem st_f94_j1 (m0 m1 n : Nat) : j1_f94 m0 m1 (n + 1) = ref03_More.S1 (j0_f94 m0 m1) (j1_f94 m0 m1 n) := by kernel_rfl
theorem J_f94_1 (m0 m1 : Nat) : ∀ n : Nat, j1_f94 m0 m1 n = ref03_More.l1 (j0_f94 m0 m1) n :=
  ind rfl fun n e1 => (st_f94_j1 m0 m1 n).trans (by rw [e1]; rfl)
theorem st_f94_j0 (m0 n : Nat) : j0_f94 m0 (n + 1) = ref03_More.S0 (j1_f94 m0 n n) := by kernel_rfl
theorem J_f94_0 (m0 : Nat) : ∀ n : Nat, j0_f94 m0 n = ref03_More.l0 n :=
  ind rfl fun n e0 => by
    have e1 : j1_f94 m0 n n = ref03_More.l1 (ref03_More.l0 n) n := by rw [← e0]; exact J_f94_1 m0 n n
    rw [st_f94_j0 m0 n, e1]; rfl
theorem st_f94 (m0 : Nat) (x : ArgsD P_f94) : run E_f94 b_f94 m0 x K_f94 = ref03_More.S (j0_f94 m0 m0) x.1 x.2.1 := by kernel_rfl
abbrev sp_f94 : AM.Spec := AM.spec P_f94 R_f94 (fun x => ref03_More x.1 x.2.1)
theorem c_f94 : Contract Tryz.prog 94 sp_f94 := ctrC tabOk (fn := Tryz.f94) (fun x => (st_f94 fu x).trans (by rw [J_f94_0 fu fu]; rfl)) (callsOk_of trivial)
abbrev E_f53 : Env := tab.env (AM.look [(94, sp_f94)]) ⟨[], [], [], ⟨tt [2], []⟩, [], [94], [], []⟩
def b_f53 : Code := bd Tryz.f53
abbrev R_f53 : List (Ty × List Tag) := [(k13b, [])]
abbrev P_f53 : List PK := [.val .str]
abbrev K_f53 : K (ResD R_f53) := fin E_f53 [.tmp 2] [] R_f53
abbrev sp_f53 : AM.Spec := AM.spec P_f53 R_f53 (fun x => ref03_Sum x.1)
theorem c_f53 : Contract Tryz.prog 53 sp_f53 := ctrC tabOk (fn := Tryz.f53) (show ∀ x, run E_f53 b_f53 fu x K_f53 = _ from fun x => by kernel_rfl) (callsOk_of ⟨⟨c_f94, Tryz.call94, fun _ => words_spec rfl⟩, trivial⟩)
abbrev E_f29 : Env := tab.env (AM.look [(53, sp_f53)]) ⟨[], [], [], ⟨tt [2], []⟩, [], [53], [], []⟩
def b_f29 : Code := bd Tryz.f29
abbrev R_f29 : List (Ty × List Tag) := [(.str, [])]
abbrev P_f29 : List PK := [.val .str]
abbrev K_f29 : K (ResD R_f29) := fin E_f29 [.tmp 2] [] R_f29
abbrev sp_f29 : AM.Spec := AM.spec P_f29 R_f29 (fun x => ref03_Seal x.1)
theorem c_f29 : Contract Tryz.prog 29 sp_f29 := ctrC tabOk (fn := Tryz.f29) (show ∀ x, run E_f29 b_f29 fu x K_f29 = _ from fun x => by kernel_rfl) (callsOk_of ⟨⟨c_f53, Tryz.call53, fun _ => words_spec rfl⟩, trivial⟩)
abbrev E_f11 : Env := tab.env (AM.look [(22, sp_f22), (27, sp_f27), (28, sp_f28), (29, sp_f29)]) ⟨[], [], [], ⟨tt [6, 7], []⟩, [], [22, 28, 29], [], []⟩
def b_f11 : Code := bd Tryz.f11
abbrev R_f11 : List (Ty × List Tag) := [(.str, []), (k13b, [])]
abbrev P_f11 : List PK := [.val k13h, .val k13b, .val k13b]
abbrev K_f11 : K (ResD R_f11) := fin E_f11 [.tmp 6, .tmp 7] [] R_f11
abbrev sp_f11 : AM.Spec := AM.spec P_f11 R_f11 (fun x => ref13_Put x.1 x.2.1 x.2.2.1)
theorem c_f11 : Contract Tryz.prog 11 sp_f11 := ctrC tabOk (fn := Tryz.f11) (show ∀ x, run E_f11 b_f11 fu x K_f11 = _ from fun x => by kernel_rfl) (callsOk_of ⟨⟨c_f22, Tryz.call22, fun _ => words_spec rfl⟩, ⟨⟨c_f27, Tryz.call27, nw⟩, ⟨⟨c_f28, Tryz.call28, fun _ => words_spec rfl⟩, ⟨⟨c_f29, Tryz.call29, fun _ => words_spec rfl⟩, trivial⟩⟩⟩⟩)
abbrev E_f3 : Env := tab.env (AM.look [(8, sp_f8), (9, sp_f9), (10, sp_f10), (11, sp_f11), (12, sp_f12), (13, sp_f13)]) ⟨[], [], [], ⟨tt [6], []⟩, [], [8, 9, 10, 11, 13], [], []⟩
def b_f3 : Code := bd Tryz.f3
abbrev R_f3 : List (Ty × List Tag) := [(.bool, [])]
abbrev P_f3 : List PK := [.val k13h, .val k13b, .val k13b]
abbrev K_f3 : K (ResD R_f3) := fin E_f3 [.tmp 6] [] R_f3
abbrev sp_law13_BlockPuts : AM.Spec := AM.spec P_f3 R_f3 (fun x => law13_BlockPuts x.1 x.2.1 x.2.2.1)
theorem c_law13_BlockPuts : Contract Tryz.prog 3 sp_law13_BlockPuts := ctrC tabOk (fn := Tryz.f3) (show ∀ x, run E_f3 b_f3 fu x K_f3 = _ from fun x => by kernel_rfl) (callsOk_of ⟨⟨c_f8, Tryz.call8, fun _ => words_spec rfl⟩, ⟨⟨c_f9, Tryz.call9, fun _ => words_spec rfl⟩, ⟨⟨c_f10, Tryz.call10, fun _ => words_spec rfl⟩, ⟨⟨c_f11, Tryz.call11, fun _ => words_spec rfl⟩, ⟨⟨c_f12, Tryz.call12, nw⟩, ⟨⟨c_f13, Tryz.call13, fun _ => words_spec rfl⟩, trivial⟩⟩⟩⟩⟩⟩)
end
end Go.Proofs.YtlamhllcnbcbbaaGreat.Am
