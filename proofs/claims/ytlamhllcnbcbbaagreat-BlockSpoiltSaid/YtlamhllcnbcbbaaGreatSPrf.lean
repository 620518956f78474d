import Derived.Test.YtlamhllcnbcbbaaGreatAmPure13
import Derived.Test.YtlamhllcnbcbbaaGreatSPrim
/- PRINTED by gen/ of this repo: the code comes to the pure functions. -/
namespace Go.Proofs.YtlamhllcnbcbbaaGreat.Am
open Go.AM Go.AM.Pure
set_option linter.unusedVariables false
set_option maxRecDepth 100000
noncomputable section
abbrev k13a : Ty := .sl .str
abbrev k13b : Ty := .int .i64
abbrev k13c : Ty := .sl k13b
abbrev k13d : Ty := .pair k13b .str
abbrev k13e : Ty := .pair k13b k13b
abbrev k13f : Ty := .pair k13b k13d
abbrev k13g : Ty := .sl k13f
abbrev k13h : Ty := .pair k13b k13e
abbrev k13i : Ty := .sl k13h
abbrev k13j : Ty := .pair k13b k13h
abbrev E_f14 : Env := tab.env (AM.look []) ⟨[], [], [], ⟨tt [2], tt [2]⟩, [], [], [], []⟩
def b_f14 : Code := bd Tryz.f14
abbrev R_f14 : List (Ty × List Tag) := [(k13f, [])]
abbrev P_f14 : List PK := [.val k13b]
abbrev K_f14 : K (ResD R_f14) := fin E_f14 [.cell 2 34] [] R_f14
abbrev Zto1 : AM.Spec := AM.spec P_f14 R_f14 (fun x => some (Zjn x.1))
theorem c_f14 : Zj Tryz.prog 14 Zto1 := ctrC tabOk (fn := Tryz.f14) (show ∀ x, run E_f14 b_f14 fu x K_f14 = _ from fun x => by kernel_rfl) (Zi trivial)
abbrev E_f39 : Env := tab.env (AM.look []) ⟨[], [], [], ⟨tt [2], []⟩, [], [], [], []⟩
def b_f39 : Code := bd Tryz.f39
abbrev R_f39 : List (Ty × List Tag) := [(k13b, [])]
abbrev P_f39 : List PK := [.val k13f]
abbrev K_f39 : K (ResD R_f39) := fin E_f39 [.tmp 2] [] R_f39
theorem Zj01 (m0 : Nat) (x : ArgsD P_f39) : run E_f39 b_f39 m0 x K_f39 = Zrf.o x.1 := by kernel_rfl
theorem Zsg2 (m0 : Nat) (x : ArgsD P_f39) : run E_f39 b_f39 m0 x K_f39 = some (Zrf x.1) := (Zj01 m0 x).trans (by unfold Zrf.o Zrf; simp only [Zfl])
abbrev Zuo1 : AM.Spec := AM.spec P_f39 R_f39 (fun x => some (Zrf x.1))
theorem c_f39 : Zj Tryz.prog 39 Zuo1 := ctrC tabOk (fn := Tryz.f39) (fun x => Zsg2 fu x) (Zi trivial)
abbrev E_f38 : Env := tab.env (AM.look [(39, Zuo1)]) ⟨[], [], [], ⟨tt [3], []⟩, [], [39], [], []⟩
def b_f38 : Code := bd Tryz.f38
abbrev R_f38 : List (Ty × List Tag) := [(.bool, [])]
abbrev P_f38 : List PK := [.val k13f, .ref k13b]
abbrev K_f38 : K (ResD R_f38) := fin E_f38 [.tmp 3] [] R_f38
theorem Zk01 (m0 : Nat) (x : ArgsD P_f38) : run E_f38 b_f38 m0 x K_f38 = Zod.o x.1 x.2.1 := by kernel_rfl
theorem Ztg2 (m0 : Nat) (x : ArgsD P_f38) : run E_f38 b_f38 m0 x K_f38 = some (Zod x.1 x.2.1) := (Zk01 m0 x).trans (by unfold Zod.o Zod; simp only [Zfl])
abbrev Zvo1 : AM.Spec := AM.spec P_f38 R_f38 (fun x => some (Zod x.1 x.2.1))
theorem c_f38 : Zj Tryz.prog 38 Zvo1 := ctrC tabOk (fn := Tryz.f38) (fun x => Ztg2 fu x) (Zi ⟨⟨c_f39, Tryz.call39, fun _ => Zg rfl⟩, trivial⟩)
abbrev Zq1 : Env := tab.env (AM.look [(38, Zvo1)]) ⟨[(0, ⟨tt [0, 1, 7, 8], []⟩)], [], [], ⟨tt [4], []⟩, [], [38], [], []⟩
def Zm9 : Code := bd Tryz.f69
abbrev Zev : List (Ty × List Tag) := [(k13b, [])]
abbrev Zwo1 : List PK := [.val k13g, .fn 38 [k13b]]
abbrev Zxo1 : K (ResD Zev) := fin Zq1 [.tmp 4] [] Zev
def Zyo1 (x1 : D13u) (x2 x3 x4 : Int) : St := mk [(0, .dat k13g x1 []), (1, .fn 38 [⟨k13b, x2, []⟩]), (7, .dat k13b x3 []), (8, .dat k13b x4 [])] []
def Zzo1 : Code := (rgt (rgt Zm9))
def Zl01 (m0 : Nat) : K (ResD Zev) := sqK Zq1 m0 Zzo1 0 Zxo1
def Zm01 (m0 : Nat) : K (ResD Zev) := Zqa 0 (Zl01 m0)
def Zap1 : Code := (lft (lft (rgt (lft (rgt Zm9)))))
def Zay (m0 n : Nat) : D13u → Int → Int → Int → Option Int := fun x1 x2 x3 x4 => ej Zq1 n (.loop Zap1) 0 (Zyo1 x1 x2 x3 x4) (Zm01 m0)
theorem Zik1 (m0 n : Nat) : Zay m0 (n + 1) = Zl.S0 (Zay m0 n) := by kernel_rfl
theorem Zn01 (m0 : Nat) : ∀ n : Nat, Zay m0 n = Zl.l0 n :=
  ind rfl fun n e0 => (Zik1 m0 n).trans (by rw [e0]; rfl)
theorem Zw91 (m0 : Nat) (x : ArgsD Zwo1) : run Zq1 Zm9 m0 x Zxo1 = Zl.S (Zay m0 m0) x.1 x.2.1.1 := by kernel_rfl
abbrev Zcg1 : AM.Spec := AM.spec Zwo1 Zev (fun x => Zl x.1 x.2.1.1)
theorem Zug2 : Zj Tryz.prog 69 Zcg1 := ctrC tabOk (fn := Tryz.f69) (fun x => (Zw91 fu x).trans (by rw [Zn01 fu fu]; rfl)) (Zi ⟨⟨c_f38, Tryz.call38, fun _ => Zg rfl⟩, trivial⟩)
abbrev Zbp1 : Env := tab.env (AM.look [(69, Zcg1)]) ⟨[], [], [], ⟨tt [4], []⟩, [], [69], [], []⟩
def Zvg2 : Code := bd Tryz.f37
abbrev Zn9 : List (Ty × List Tag) := [(.bool, [])]
abbrev Zwg2 : List PK := [.val k13g, .fn 38 [k13b]]
abbrev Zxg2 : K (ResD Zn9) := fin Zbp1 [.tmp 4] [] Zn9
abbrev Zdg1 : AM.Spec := AM.spec Zwg2 Zn9 (fun x => Zmb x.1 x.2.1.1)
theorem Zyg2 : Zj Tryz.prog 37 Zdg1 := ctrC tabOk (fn := Tryz.f37) (show ∀ x, run Zbp1 Zvg2 fu x Zxg2 = _ from fun x => by kernel_rfl) (Zi ⟨⟨Zug2, Tryz.call69, fun _ => Zg rfl⟩, trivial⟩)
abbrev E_f23 : Env := tab.env (AM.look [(37, Zdg1)]) ⟨[], [], [], ⟨tt [4], []⟩, [], [37], [], []⟩
def b_f23 : Code := bd Tryz.f23
abbrev R_f23 : List (Ty × List Tag) := [(.bool, [])]
abbrev P_f23 : List PK := [.val k13g, .val k13b]
abbrev K_f23 : K (ResD R_f23) := fin E_f23 [.tmp 4] [] R_f23
abbrev Zcp1 : AM.Spec := AM.spec P_f23 R_f23 (fun x => Zbl x.1 x.2.1)
theorem c_f23 : Zj Tryz.prog 23 Zcp1 := ctrC tabOk (fn := Tryz.f23) (show ∀ x, run E_f23 b_f23 fu x K_f23 = _ from fun x => by kernel_rfl) (Zi ⟨⟨Zyg2, Tryz.call37, fun _ => Zg rfl⟩, trivial⟩)
abbrev E_f43 : Env := tab.env (AM.look []) ⟨[], [], [], ⟨tt [2], []⟩, [], [], [], []⟩
def b_f43 : Code := bd Tryz.f43
abbrev R_f43 : List (Ty × List Tag) := [(.bool, [])]
abbrev P_f43 : List PK := [.val k13f]
abbrev K_f43 : K (ResD R_f43) := fin E_f43 [.tmp 2] [] R_f43
abbrev Zr1 : AM.Spec := AM.spec P_f43 R_f43 (fun x => some (Zcg x.1))
theorem c_f43 : Zj Tryz.prog 43 Zr1 := ctrC tabOk (fn := Tryz.f43) (show ∀ x, run E_f43 b_f43 fu x K_f43 = _ from fun x => by kernel_rfl) (Zi trivial)
abbrev E_f42 : Env := tab.env (AM.look [(43, Zr1)]) ⟨[], [], [], ⟨tt [2], []⟩, [], [43], [], []⟩
def b_f42 : Code := bd Tryz.f42
abbrev R_f42 : List (Ty × List Tag) := [(.bool, [])]
abbrev P_f42 : List PK := [.val k13f]
abbrev K_f42 : K (ResD R_f42) := fin E_f42 [.tmp 2] [] R_f42
abbrev Zo9 : AM.Spec := AM.spec P_f42 R_f42 (fun x => some (Zai x.1))
theorem c_f42 : Zj Tryz.prog 42 Zo9 := ctrC tabOk (fn := Tryz.f42) (show ∀ x, run E_f42 b_f42 fu x K_f42 = _ from fun x => by kernel_rfl) (Zi ⟨⟨c_f43, Tryz.call43, fun _ => Zg rfl⟩, trivial⟩)
abbrev Zs1 : Env := tab.env (AM.look [(42, Zo9)]) ⟨[(0, ⟨tt [0, 1, 7, 8], tt [1000000]⟩)], [], [], ⟨tt [4], tt [1000000]⟩, [], [42], [], []⟩
def Zp9 : Code := bd Tryz.f69
abbrev Zfv : List (Ty × List Tag) := [(k13b, []), (k13g, [])]
abbrev Zdp1 : List PK := [.ioa k13f, .fn 42 []]
abbrev Zep1 : K (ResD Zfv) := fin Zs1 [.tmp 4] [.ioa k13f] Zfv
def Zfp1 (x1 x2 : Int) (x3 : D13u) : St := mk [(0, .slw 1000000 0), (1, .fn 42 []), (7, .dat k13b x1 []), (8, .dat k13b x2 [])] [(1000000, some (.arr k13f x3 false))]
def Zgp1 : Code := (rgt (rgt Zp9))
def Zo01 (m0 : Nat) : K (ResD Zfv) := sqK Zs1 m0 Zgp1 0 Zep1
def Zp01 (m0 : Nat) : K (ResD Zfv) := Zqa 0 (Zo01 m0)
def Zhp1 : Code := (lft (lft (rgt (lft (rgt Zp9)))))
def Zby (m0 n : Nat) : Int → Int → D13u → Option D13y := fun x1 x2 x3 => ej Zs1 n (.loop Zhp1) 0 (Zfp1 x1 x2 x3) (Zp01 m0)
theorem Zjk1 (m0 n : Nat) : Zby m0 (n + 1) = Ze.S0 (Zby m0 n) := by kernel_rfl
theorem Zq01 (m0 : Nat) : ∀ n : Nat, Zby m0 n = Ze.l0 n :=
  ind rfl fun n e0 => (Zjk1 m0 n).trans (by rw [e0]; rfl)
theorem Zx91 (m0 : Nat) (x : ArgsD Zdp1) : run Zs1 Zp9 m0 x Zep1 = Ze.S (Zby m0 m0) x.1 := by kernel_rfl
abbrev Zeg1 : AM.Spec := AM.Zdf 1 Zdp1 Zfv (fun x => Ze x.1)
theorem Zzg2 : Zj Tryz.prog 69 Zeg1 := ctrI tabOk (fn := Tryz.f69) (fun x => (Zx91 fu x).trans (by rw [Zq01 fu fu]; rfl)) (Zi ⟨⟨c_f42, Tryz.call42, fun _ => Zg rfl⟩, trivial⟩)
abbrev E_f40 : Env := tab.env (AM.look [(69, Zeg1), (42, Zo9)]) ⟨[(0, ⟨tt [0, 1, 5, 6], tt [1000000]⟩)], [], [(11, ⟨tt [0, 5], tt [1000000]⟩)], ⟨tt [4], tt [1000000]⟩, [0, 4, 8, 13, 17, 22, 30, 36, 38, 39, 41], [42], [(69, [true])], []⟩
def b_f40 : Code := bd Tryz.f40
abbrev R_f40 : List (Ty × List Tag) := [(k13b, []), (k13g, [])]
abbrev P_f40 : List PK := [.ioa k13f, .fn 42 []]
abbrev K_f40 : K (ResD R_f40) := finS 0 4 [.ioa k13f] R_f40
def Zr01 (x6 : Int) (x7 : D13u) : St := mk [(0, .slw 1000000 0), (5, .dat k13b x6 [])] [(1000000, some (.arr k13f x7 false))]
def Zs01 (x2 x3 : Int) (x4 : D13u) : St := mk [(0, .slw 1000000 0), (1, .fn 42 []), (5, .dat k13b x2 []), (6, .dat k13b x3 [])] [(1000000, some (.arr k13f x4 false))]
def Zq9 : Code := (rgt (rgt (rgt (rgt b_f40))))
def Zgv (m0 n : Nat) : Int → D13u → Option D13y := fun x6 x7 => ej E_f40 n (.tail Zq9) 0 (Zr01 x6 x7) K_f40
theorem Zip1 (m0 n : Nat) : Zgv m0 (n + 1) = Zc.S1 := by kernel_rfl
theorem Zy91 (m0 : Nat) : ∀ n : Nat, Zgv m0 n = Zc.t1 n :=
  ind rfl fun n _ => Zip1 m0 n
def Zz91 (m0 : Nat) : K (ResD R_f40) := sqK E_f40 m0 Zq9 0 K_f40
def Zab2 (m0 : Nat) : K (ResD R_f40) := Zqa 0 (Zz91 m0)
def Zt01 : Code := (lft (lft (rgt (lft (rgt (rgt (rgt b_f40)))))))
def Zhv (m0 n : Nat) : Int → Int → D13u → Option D13y := fun x2 x3 x4 => ej E_f40 n (.loop Zt01) 0 (Zs01 x2 x3 x4) (Zab2 m0)
theorem Zjp1 (m0 n : Nat) : Zhv m0 (n + 1) = Zc.S0 (Zgv m0 m0) (Zhv m0 n) := by kernel_rfl
theorem Zbb2 (m0 : Nat) : ∀ n : Nat, Zhv m0 n = Zc.l0 (Zgv m0 m0) n :=
  ind rfl fun n e0 => (Zjp1 m0 n).trans (by rw [e0]; rfl)
theorem Zah2 (m0 : Nat) (x : ArgsD P_f40) : run E_f40 b_f40 m0 x K_f40 = Zc.S (Zhv m0 m0) x.1 := by kernel_rfl
abbrev Zkp1 : AM.Spec := AM.Zen 0 P_f40 R_f40 (fun x => Zc x.1)
theorem c_f40 : Zj Tryz.prog 40 Zkp1 := ctrS tabOk (fn := Tryz.f40) (show ∀ x, run E_f40 b_f40 fu x K_f40 = _ from fun x => by
  have e1 : Zgv fu fu = Zc.t1 fu := Zy91 fu fu
  have e0 : Zhv fu fu = Zc.l0 (Zc.t1 fu) fu := by rw [← e1]; exact Zbb2 fu fu
  refine (Zah2 fu x).trans ?_
  rw [e0]; rfl) (Zi ⟨⟨Zzg2, Tryz.call69, nw⟩, ⟨⟨c_f42, Tryz.call42, fun _ => Zg rfl⟩, trivial⟩⟩)
abbrev Zt1 : Env := tab.env (AM.look []) ⟨[(0, ⟨tt [3, 4, 5], []⟩)], [], [], ⟨tt [2], []⟩, [], [], [], []⟩
def Zr9 : Code := bd Tryz.f105
abbrev Ziv : List (Ty × List Tag) := [(k13b, [])]
abbrev Zlp1 : List PK := [.val k13b]
abbrev Zmp1 : K (ResD Ziv) := fin Zt1 [.tmp 2] [] Ziv
def Znp1 (x1 x2 x3 : Int) : St := mk [(3, .dat (.int .u64) x1 []), (4, .dat k13b x2 []), (5, .dat k13b x3 [])] []
def Zop1 : Code := (rgt (rgt (rgt Zr9)))
def Zu01 (m0 : Nat) : K (ResD Ziv) := sqK Zt1 m0 Zop1 0 Zmp1
def Zv01 (m0 : Nat) : K (ResD Ziv) := Zqa 0 (Zu01 m0)
def Zpp1 : Code := (lft (lft (rgt (lft (rgt (rgt Zr9))))))
def Zcy (m0 n : Nat) : Int → Int → Int → Option Int := fun x1 x2 x3 => ej Zt1 n (.loop Zpp1) 0 (Znp1 x1 x2 x3) (Zv01 m0)
theorem Zkk1 (m0 n : Nat) : Zcy m0 (n + 1) = Zob.S0 (Zcy m0 n) := by kernel_rfl
theorem Zw01 (m0 : Nat) : ∀ n : Nat, Zcy m0 n = Zob.l0 n :=
  ind rfl fun n e0 => (Zkk1 m0 n).trans (by rw [e0]; rfl)
theorem Zcb2 (m0 : Nat) (x : ArgsD Zlp1) : run Zt1 Zr9 m0 x Zmp1 = Zob.S (Zcy m0 m0) x.1 := by kernel_rfl
abbrev Zi4 : AM.Spec := AM.spec Zlp1 Ziv (fun x => Zob x.1)
theorem Zqp1 : Zj Tryz.prog 105 Zi4 := ctrC tabOk (fn := Tryz.f105) (fun x => (Zcb2 fu x).trans (by rw [Zw01 fu fu]; rfl)) (Zi trivial)
abbrev E_f70 : Env := tab.env (AM.look [(105, Zi4)]) ⟨[(0, ⟨tt [3, 6, 7, 8], []⟩)], [], [], ⟨tt [2], []⟩, [], [105], [], []⟩
def b_f70 : Code := bd Tryz.f70
abbrev R_f70 : List (Ty × List Tag) := [(k13b, [])]
abbrev P_f70 : List PK := [.val k13c]
abbrev K_f70 : K (ResD R_f70) := fin E_f70 [.tmp 2] [] R_f70
def Zx01 (x1 : Int) (x2 : D13a) (x3 x4 : Int) : St := mk [(3, .dat k13b x1 []), (6, .dat k13c x2 []), (7, .dat k13b x3 []), (8, .dat k13b x4 [])] []
def Zy01 : Code := (rgt (rgt (rgt b_f70)))
def Zdb2 (m0 : Nat) : K (ResD R_f70) := sqK E_f70 m0 Zy01 0 K_f70
def Zeb2 (m0 : Nat) : K (ResD R_f70) := Zqa 0 (Zdb2 m0)
def Zz01 : Code := (lft (lft (rgt (lft (rgt (rgt b_f70))))))
def Zu1 (m0 n : Nat) : Int → D13a → Int → Int → Option Int := fun x1 x2 x3 x4 => ej E_f70 n (.loop Zz01) 0 (Zx01 x1 x2 x3 x4) (Zeb2 m0)
theorem Zrp1 (m0 n : Nat) : Zu1 m0 (n + 1) = Zwa.S0 (Zu1 m0 n) := by kernel_rfl
theorem Zfb2 (m0 : Nat) : ∀ n : Nat, Zu1 m0 n = Zwa.l0 n :=
  ind rfl fun n e0 => (Zrp1 m0 n).trans (by rw [e0]; rfl)
theorem Zbh2 (m0 : Nat) (x : ArgsD P_f70) : run E_f70 b_f70 m0 x K_f70 = Zwa.S (Zu1 m0 m0) x.1 := by kernel_rfl
abbrev Znn : AM.Spec := AM.spec P_f70 R_f70 (fun x => Zwa x.1)
theorem c_f70 : Zj Tryz.prog 70 Znn := ctrC tabOk (fn := Tryz.f70) (fun x => (Zbh2 fu x).trans (by rw [Zfb2 fu fu]; rfl)) (Zi ⟨⟨Zqp1, Tryz.call105, fun _ => Zg rfl⟩, trivial⟩)
abbrev E_f71 : Env := tab.env (AM.look []) ⟨[], [], [], ⟨tt [4], []⟩, [], [], [], []⟩
def b_f71 : Code := bd Tryz.f71
abbrev R_f71 : List (Ty × List Tag) := [(k13b, [])]
abbrev P_f71 : List PK := [.val k13b, .val k13b]
abbrev K_f71 : K (ResD R_f71) := fin E_f71 [.tmp 4] [] R_f71
theorem Za11 (m0 : Nat) (x : ArgsD P_f71) : run E_f71 b_f71 m0 x K_f71 = Zsf.o x.1 x.2.1 := by kernel_rfl
theorem Zch2 (m0 : Nat) (x : ArgsD P_f71) : run E_f71 b_f71 m0 x K_f71 = some (Zsf x.1 x.2.1) := (Za11 m0 x).trans (by unfold Zsf.o Zsf; simp only [Zfl])
abbrev Zs9 : AM.Spec := AM.spec P_f71 R_f71 (fun x => some (Zsf x.1 x.2.1))
theorem c_f71 : Zj Tryz.prog 71 Zs9 := ctrC tabOk (fn := Tryz.f71) (fun x => Zch2 fu x) (Zi trivial)
abbrev E_f72 : Env := tab.env (AM.look []) ⟨[], [], [], ⟨tt [2], []⟩, [], [], [], []⟩
def b_f72 : Code := bd Tryz.f72
abbrev R_f72 : List (Ty × List Tag) := [(k13b, [])]
abbrev P_f72 : List PK := [.val k13b]
abbrev K_f72 : K (ResD R_f72) := fin E_f72 [.tmp 2] [] R_f72
abbrev Zt9 : AM.Spec := AM.spec P_f72 R_f72 (fun x => Zkn x.1)
theorem c_f72 : Zj Tryz.prog 72 Zt9 := ctrC tabOk (fn := Tryz.f72) (show ∀ x, run E_f72 b_f72 fu x K_f72 = _ from fun x => by kernel_rfl) (Zi trivial)
abbrev E_f44 : Env := tab.env (AM.look [(70, Znn), (71, Zs9), (72, Zt9)]) ⟨[(0, ⟨tt [1, 6, 7, 8, 37, 38, 39], []⟩), (2, ⟨tt [1, 6, 7, 8, 11, 12, 37, 38, 39], []⟩)], [], [(20, ⟨tt [6, 7, 8], []⟩)], ⟨tt [4, 5], []⟩, [], [70, 71, 72], [], []⟩
def b_f44 : Code := bd Tryz.f44
abbrev R_f44 : List (Ty × List Tag) := [(.str, []), (k13b, [])]
abbrev P_f44 : List PK := [.val k13c, .val k13b]
abbrev K_f44 : K (ResD R_f44) := fin E_f44 [.tmp 4, .tmp 5] [] R_f44
def Zb11 (x20 : D13a) (x21 x22 : Int) : St := mk [(6, .dat (.sl (.int .u8)) x20 [⟨0, 385, 0, 0⟩]), (7, .dat (.int .u64) x21 []), (8, .dat k13b x22 [])] []
def Zc11 (x10 : Int) (x11 : D13a) (x12 x13 : Int) (x14 x15 : Int) (x16 : D13a) (x17 x18 : Int) : St := mk [(1, .dat k13b x10 []), (6, .dat (.sl (.int .u8)) x11 [⟨0, 385, 0, 0⟩]), (7, .dat (.int .u64) x12 []), (8, .dat k13b x13 []), (11, .dat (.int .u64) x14 []), (12, .dat k13b x15 []), (37, .dat k13c x16 []), (38, .dat k13b x17 []), (39, .dat k13b x18 [])] []
def Zd11 (x3 : Int) (x4 : D13a) (x5 x6 : Int) (x7 : D13a) (x8 x9 : Int) : St := mk [(1, .dat k13b x3 []), (6, .dat (.sl (.int .u8)) x4 [⟨0, 385, 0, 0⟩]), (7, .dat (.int .u64) x5 []), (8, .dat k13b x6 []), (37, .dat k13c x7 []), (38, .dat k13b x8 []), (39, .dat k13b x9 [])] []
def Zu9 : Code := (rgt (rgt (rgt (rgt (rgt (rgt b_f44))))))
def Zzq (m0 n : Nat) : D13a → Int → Int → Option D13g := fun x20 x21 x22 => ej E_f44 n (.tail Zu9) 0 (Zb11 x20 x21 x22) K_f44
theorem Zsp1 (m0 n : Nat) : Zzq m0 (n + 1) = Zfa.S2 := by kernel_rfl
theorem Zgb2 (m0 : Nat) : ∀ n : Nat, Zzq m0 n = Zfa.t2 n :=
  ind rfl fun n _ => Zsp1 m0 n
def Zhb2 (m0 : Nat) : K (ResD R_f44) := sqK E_f44 m0 Zu9 0 K_f44
def Zfg1 (m0 : Nat) : K (ResD R_f44) := Zqa 0 (Zhb2 m0)
def Zgt : Code := (lft (lft (rgt (lft (rgt (rgt (rgt (rgt (rgt b_f44)))))))))
def Zar (m0 n : Nat) : Int → D13a → Int → Int → D13a → Int → Int → Option D13g := fun x3 x4 x5 x6 x7 x8 x9 => ej E_f44 n (.loop Zgt) 0 (Zd11 x3 x4 x5 x6 x7 x8 x9) (Zfg1 m0)
def Zib2 (m0 m1 : Nat) : K (ResD R_f44) := lpK E_f44 m1 Zgt 0 (Zfg1 m0)
def Ze11 : Code := (rgt (rgt (rgt Zgt)))
def Zjb2 (m0 m1 : Nat) : K (ResD R_f44) := sqK E_f44 m1 Ze11 0 (Zib2 m0 m1)
def Zkb2 (m0 m1 : Nat) : K (ResD R_f44) := Zqa 1 (Zjb2 m0 m1)
def Zlb2 (m0 m1 : Nat) : K (ResD R_f44) := Zqa 2 (Zkb2 m0 m1)
def Zf11 : Code := (lft (lft (rgt (rgt (lft (lft (rgt (rgt Zgt))))))))
def Zjv (m0 m1 n : Nat) : Int → D13a → Int → Int → Int → Int → D13a → Int → Int → Option D13g := fun x10 x11 x12 x13 x14 x15 x16 x17 x18 => ej E_f44 n (.loop Zf11) 2 (Zc11 x10 x11 x12 x13 x14 x15 x16 x17 x18) (Zlb2 m0 m1)
theorem Ztp1 (m0 m1 n : Nat) : Zjv m0 m1 (n + 1) = Zfa.S1 (Zar m0 m1) (Zjv m0 m1 n) := by kernel_rfl
theorem Zmb2 (m0 m1 : Nat) : ∀ n : Nat, Zjv m0 m1 n = Zfa.l1 (Zar m0 m1) n :=
  ind rfl fun n e1 => (Ztp1 m0 m1 n).trans (by rw [e1]; rfl)
theorem Zup1 (m0 n : Nat) : Zar m0 (n + 1) = Zfa.S0 (Zzq m0 m0) (Zjv m0 n n) := by kernel_rfl
theorem Znb2 (m0 : Nat) : ∀ n : Nat, Zar m0 n = Zfa.l0 (Zzq m0 m0) n :=
  ind rfl fun n e0 => by
    have e1 : Zjv m0 n n = Zfa.l1 (Zfa.l0 (Zzq m0 m0) n) n := by rw [← e0]; exact Zmb2 m0 n n
    rw [Zup1 m0 n, e1]; rfl
theorem Zdh2 (m0 : Nat) (x : ArgsD P_f44) : run E_f44 b_f44 m0 x K_f44 = Zfa.S (Zar m0 m0) x.1 x.2.1 := by kernel_rfl
abbrev Zbr : AM.Spec := AM.spec P_f44 R_f44 (fun x => Zfa x.1 x.2.1)
theorem c_f44 : Zj Tryz.prog 44 Zbr := ctrC tabOk (fn := Tryz.f44) (show ∀ x, run E_f44 b_f44 fu x K_f44 = _ from fun x => by
  have e2 : Zzq fu fu = Zfa.t2 fu := Zgb2 fu fu
  have e0 : Zar fu fu = Zfa.l0 (Zfa.t2 fu) fu := by rw [← e2]; exact Znb2 fu fu
  refine (Zdh2 fu x).trans ?_
  rw [e0]; rfl) (Zi ⟨⟨c_f70, Tryz.call70, fun _ => Zg rfl⟩, ⟨⟨c_f71, Tryz.call71, fun _ => Zg rfl⟩, ⟨⟨c_f72, Tryz.call72, fun _ => Zg rfl⟩, trivial⟩⟩⟩)
abbrev E_f24 : Env := tab.env (AM.look [(41, Zgm), (40, Zkp1), (43, Zr1), (44, Zbr)]) ⟨[(0, ⟨tt [4, 5, 22, 23, 24], tt [11, 21]⟩)], [], [(11, ⟨tt [4, 5], tt [11, 21]⟩)], ⟨tt [2, 3], tt [11]⟩, [5, 11, 21, 31, 36], [43, 44], [(40, [true])], []⟩
def b_f24 : Code := bd Tryz.f24
abbrev R_f24 : List (Ty × List Tag) := [(.str, []), (k13g, [])]
abbrev P_f24 : List PK := [.val k13g]
abbrev K_f24 : K (ResD R_f24) := fin E_f24 [.tmp 2, .tmp 3] [] R_f24
def Zeh2 (x11 x12 : Nat) (x13 : D13u) (x14 : D13a) : St := mk [(4, .slm 11 0 x11 x12), (5, .slw 21 0)] [(11, some (.arr k13f x13 false)), (21, some (.arr k13b x14 false))]
def Zg11 (x3 x4 : Nat) (x5 : D13u) (x6 x7 : Int) (x8 : D13u) (x9 : D13a) : St := mk [(4, .slm 11 0 x3 x4), (5, .slw 21 0), (22, .dat k13g x5 []), (23, .dat k13b x6 []), (24, .dat k13b x7 [])] [(11, some (.arr k13f x8 false)), (21, some (.arr k13b x9 false))]
def Zvp1 : Code := (rgt (rgt (rgt (rgt (rgt b_f24)))))
def Zkv (m0 n : Nat) : Nat → Nat → D13u → D13a → Option D13z := fun x11 x12 x13 x14 => ej E_f24 n (.tail Zvp1) 0 (Zeh2 x11 x12 x13 x14) K_f24
theorem Zwp1 (m0 n : Nat) : Zkv m0 (n + 1) = Zma.S1 := by kernel_rfl
theorem J_f42 (m0 : Nat) : ∀ n : Nat, Zkv m0 n = Zma.t1 n :=
  ind rfl fun n _ => Zwp1 m0 n
def q_f42 (m0 : Nat) : K (ResD R_f24) := sqK E_f24 m0 Zvp1 0 K_f24
def Zob2 (m0 : Nat) : K (ResD R_f24) := Zqa 0 (q_f42 m0)
def Zh11 : Code := (lft (lft (rgt (lft (rgt (rgt (rgt (rgt b_f24))))))))
def Zlv (m0 n : Nat) : Nat → Nat → D13u → Int → Int → D13u → D13a → Option D13z := fun x3 x4 x5 x6 x7 x8 x9 => ej E_f24 n (.loop Zh11) 0 (Zg11 x3 x4 x5 x6 x7 x8 x9) (Zob2 m0)
theorem Zxp1 (m0 n : Nat) : Zlv m0 (n + 1) = Zma.S0 (Zkv m0 m0) (Zlv m0 n) := by kernel_rfl
theorem Zpb2 (m0 : Nat) : ∀ n : Nat, Zlv m0 n = Zma.l0 (Zkv m0 m0) n :=
  ind rfl fun n e0 => (Zxp1 m0 n).trans (by rw [e0]; rfl)
theorem Zfh2 (m0 : Nat) (x : ArgsD P_f24) : run E_f24 b_f24 m0 x K_f24 = Zma.S (Zlv m0 m0) x.1 := by kernel_rfl
abbrev Zyp1 : AM.Spec := AM.spec P_f24 R_f24 (fun x => Zma x.1)
theorem c_f24 : Zj Tryz.prog 24 Zyp1 := ctrC tabOk (fn := Tryz.f24) (show ∀ x, run E_f24 b_f24 fu x K_f24 = _ from fun x => by
  have e1 : Zkv fu fu = Zma.t1 fu := J_f42 fu fu
  have e0 : Zlv fu fu = Zma.l0 (Zma.t1 fu) fu := by rw [← e1]; exact Zpb2 fu fu
  refine (Zfh2 fu x).trans ?_
  rw [e0]; rfl) (Zi ⟨⟨Zzw, Tryz.call41, nw⟩, ⟨⟨c_f40, Tryz.call40, nw⟩, ⟨⟨c_f43, Tryz.call43, fun _ => Zg rfl⟩, ⟨⟨c_f44, Tryz.call44, fun _ => Zg rfl⟩, trivial⟩⟩⟩⟩)
abbrev E_f73 : Env := tab.env (AM.look []) ⟨[(0, ⟨tt [3, 11, 12, 13], []⟩), (2, ⟨tt [3, 6, 11, 12, 13, 19], []⟩)], [], [], ⟨tt [2], []⟩, [], [], [], []⟩
def b_f73 : Code := bd Tryz.f73
abbrev R_f73 : List (Ty × List Tag) := [(.str, [])]
abbrev P_f73 : List PK := [.val k13c]
abbrev K_f73 : K (ResD R_f73) := fin E_f73 [.tmp 2] [] R_f73
def Zi11 (x5 : D13a) (x6 : Int) (x7 : D13a) (x8 x9 x10 : Int) : St := mk [(3, .dat (.sl (.int .u8)) x5 [⟨0, 193, 0, 0⟩]), (6, .dat (.int .u64) x6 []), (11, .dat k13c x7 []), (12, .dat k13b x8 []), (13, .dat k13b x9 []), (19, .dat k13b x10 [])] []
def Zj11 (x1 x2 : D13a) (x3 x4 : Int) : St := mk [(3, .dat (.sl (.int .u8)) x1 [⟨0, 193, 0, 0⟩]), (11, .dat k13c x2 []), (12, .dat k13b x3 []), (13, .dat k13b x4 [])] []
def Zk11 : Code := (rgt (rgt (rgt b_f73)))
def Zqb2 (m0 : Nat) : K (ResD R_f73) := sqK E_f73 m0 Zk11 0 K_f73
def Zgg1 (m0 : Nat) : K (ResD R_f73) := Zqa 0 (Zqb2 m0)
def Zht : Code := (lft (lft (rgt (lft (rgt (rgt b_f73))))))
def Zmv (m0 n : Nat) : D13a → D13a → Int → Int → Option ByteArray := fun x1 x2 x3 x4 => ej E_f73 n (.loop Zht) 0 (Zj11 x1 x2 x3 x4) (Zgg1 m0)
def Zrb2 (m0 m1 : Nat) : K (ResD R_f73) := lpK E_f73 m1 Zht 0 (Zgg1 m0)
def Zl11 : Code := (rgt (rgt (rgt Zht)))
def Zsb2 (m0 m1 : Nat) : K (ResD R_f73) := sqK E_f73 m1 Zl11 0 (Zrb2 m0 m1)
def Ztb2 (m0 m1 : Nat) : K (ResD R_f73) := Zqa 1 (Zsb2 m0 m1)
def Zub2 (m0 m1 : Nat) : K (ResD R_f73) := Zqa 2 (Ztb2 m0 m1)
def Zm11 : Code := (lft (lft (rgt (rgt (rgt (lft (lft (rgt (rgt Zht)))))))))
def Znv (m0 m1 n : Nat) : D13a → Int → D13a → Int → Int → Int → Option ByteArray := fun x5 x6 x7 x8 x9 x10 => ej E_f73 n (.loop Zm11) 2 (Zi11 x5 x6 x7 x8 x9 x10) (Zub2 m0 m1)
theorem Zzp1 (m0 m1 n : Nat) : Znv m0 m1 (n + 1) = Zca.S1 (Zmv m0 m1) (Znv m0 m1 n) := by kernel_rfl
theorem Zvb2 (m0 m1 : Nat) : ∀ n : Nat, Znv m0 m1 n = Zca.l1 (Zmv m0 m1) n :=
  ind rfl fun n e1 => (Zzp1 m0 m1 n).trans (by rw [e1]; rfl)
theorem Zaq1 (m0 n : Nat) : Zmv m0 (n + 1) = Zca.S0 (Znv m0 n n) := by kernel_rfl
theorem Zwb2 (m0 : Nat) : ∀ n : Nat, Zmv m0 n = Zca.l0 n :=
  ind rfl fun n e0 => by
    have e1 : Znv m0 n n = Zca.l1 (Zca.l0 n) n := by rw [← e0]; exact Zvb2 m0 n n
    rw [Zaq1 m0 n, e1]; rfl
theorem Zgh2 (m0 : Nat) (x : ArgsD P_f73) : run E_f73 b_f73 m0 x K_f73 = Zca.S (Zmv m0 m0) x.1 := by kernel_rfl
abbrev Zbq1 : AM.Spec := AM.spec P_f73 R_f73 (fun x => Zca x.1)
theorem c_f73 : Zj Tryz.prog 73 Zbq1 := ctrC tabOk (fn := Tryz.f73) (fun x => (Zgh2 fu x).trans (by rw [Zwb2 fu fu]; rfl)) (Zi trivial)
abbrev E_f75 : Env := tab.env (AM.look []) ⟨[(0, ⟨tt [0, 3, 9, 10, 11], tt [3]⟩)], [], [], ⟨tt [2], tt [2, 3]⟩, [2, 3, 27, 32, 33, 34, 44], [], [], []⟩
def b_f75 : Code := bd Tryz.f75
abbrev R_f75 : List (Ty × List Tag) := [(k13i, [])]
abbrev P_f75 : List PK := [.val k13c]
abbrev K_f75 : K (ResD R_f75) := fin E_f75 [.tmp 2] [] R_f75
def Zn11 (x1 x2 : D13a) (x3 x4 : Int) (x5 : D13o) : St := mk [(0, .dat k13c x1 []), (3, .slw 3 0), (9, .dat k13c x2 []), (10, .dat k13b x3 []), (11, .dat k13b x4 [])] [(3, some (.arr k13h x5 false))]
def Zo11 : Code := (rgt (rgt (rgt (rgt b_f75))))
def Zxb2 (m0 : Nat) : K (ResD R_f75) := sqK E_f75 m0 Zo11 0 K_f75
def Zyb2 (m0 : Nat) : K (ResD R_f75) := Zqa 0 (Zxb2 m0)
def Zp11 : Code := (lft (lft (rgt (lft (rgt (rgt (rgt b_f75)))))))
def Zv1 (m0 n : Nat) : D13a → D13a → Int → Int → D13o → Option D13q := fun x1 x2 x3 x4 x5 => ej E_f75 n (.loop Zp11) 0 (Zn11 x1 x2 x3 x4 x5) (Zyb2 m0)
theorem Zcq1 (m0 n : Nat) : Zv1 m0 (n + 1) = Zfd.S0 (Zv1 m0 n) := by kernel_rfl
theorem Zzb2 (m0 : Nat) : ∀ n : Nat, Zv1 m0 n = Zfd.l0 n :=
  ind rfl fun n e0 => (Zcq1 m0 n).trans (by rw [e0]; rfl)
theorem Zhh2 (m0 : Nat) (x : ArgsD P_f75) : run E_f75 b_f75 m0 x K_f75 = Zfd.S (Zv1 m0 m0) x.1 := by kernel_rfl
abbrev Zv9 : AM.Spec := AM.spec P_f75 R_f75 (fun x => Zfd x.1)
theorem c_f75 : Zj Tryz.prog 75 Zv9 := ctrC tabOk (fn := Tryz.f75) (fun x => (Zhh2 fu x).trans (by rw [Zzb2 fu fu]; rfl)) (Zi trivial)
abbrev Zw1 : Env := tab.env (AM.look []) ⟨[(0, ⟨tt [0, 4, 7, 8, 9], []⟩)], [], [], ⟨tt [2, 3], []⟩, [], [], [], []⟩
def Zw9 : Code := bd Tryz.f106
abbrev Zov : List (Ty × List Tag) := [(k13b, []), (.bool, [])]
abbrev Zdq1 : List PK := [.val k13i]
abbrev Zeq1 : K (ResD Zov) := fin Zw1 [.tmp 2, .tmp 3] [] Zov
def Zfq1 (x1 : D13o) (x2 : Int) (x3 : D13o) (x4 x5 : Int) : St := mk [(0, .dat k13i x1 []), (4, .dat k13b x2 []), (7, .dat k13i x3 []), (8, .dat k13b x4 []), (9, .dat k13b x5 [])] []
def Zgq1 : Code := (rgt (rgt (rgt Zw9)))
def Zq11 (m0 : Nat) : K (ResD Zov) := sqK Zw1 m0 Zgq1 0 Zeq1
def Zr11 (m0 : Nat) : K (ResD Zov) := Zqa 0 (Zq11 m0)
def Zhq1 : Code := (lft (lft (rgt (lft (rgt (rgt Zw9))))))
def Zdy (m0 n : Nat) : D13o → Int → D13o → Int → Int → Option (Int × Bool) := fun x1 x2 x3 x4 x5 => ej Zw1 n (.loop Zhq1) 0 (Zfq1 x1 x2 x3 x4 x5) (Zr11 m0)
theorem Zlk1 (m0 n : Nat) : Zdy m0 (n + 1) = Znc.S0 (Zdy m0 n) := by kernel_rfl
theorem Zs11 (m0 : Nat) : ∀ n : Nat, Zdy m0 n = Znc.l0 n :=
  ind rfl fun n e0 => (Zlk1 m0 n).trans (by rw [e0]; rfl)
theorem Zac2 (m0 : Nat) (x : ArgsD Zdq1) : run Zw1 Zw9 m0 x Zeq1 = Znc.S (Zdy m0 m0) x.1 := by kernel_rfl
abbrev Zey : AM.Spec := AM.spec Zdq1 Zov (fun x => Znc x.1)
theorem Zx9 : Zj Tryz.prog 106 Zey := ctrC tabOk (fn := Tryz.f106) (fun x => (Zac2 fu x).trans (by rw [Zs11 fu fu]; rfl)) (Zi trivial)
abbrev Ziq1 : Env := tab.env (AM.look []) ⟨[], [], [], ⟨tt [2], []⟩, [], [], [], []⟩
def Zih2 : Code := bd Tryz.f118
abbrev Zy9 : List (Ty × List Tag) := [(k13b, [])]
abbrev Zjh2 : List PK := [.val k13b]
abbrev Zkh2 : K (ResD Zy9) := fin Ziq1 [.tmp 2] [] Zy9
abbrev Zj4 : AM.Spec := AM.spec Zjh2 Zy9 (fun x => some (Zib x.1))
theorem Zjq1 : Zj Tryz.prog 118 Zj4 := ctrC tabOk (fn := Tryz.f118) (show ∀ x, run Ziq1 Zih2 fu x Zkh2 = _ from fun x => by kernel_rfl) (Zi trivial)
abbrev E_f81 : Env := tab.env (AM.look [(118, Zj4)]) ⟨[(0, ⟨tt [3, 4, 5], tt [3]⟩)], [], [(7, ⟨tt [3, 4, 5], tt [3]⟩)], ⟨tt [2], []⟩, [], [118], [], []⟩
def b_f81 : Code := bd Tryz.f81
abbrev R_f81 : List (Ty × List Tag) := [(.str, [])]
abbrev P_f81 : List PK := [.val k13b]
abbrev K_f81 : K (ResD R_f81) := fin E_f81 [.tmp 2] [] R_f81
def Zt11 (x5 x6 : Int) (x7 : D13a) : St := mk [(3, .ptr 3 0 0), (4, .dat (.int .u64) x5 []), (5, .dat k13b x6 [])] [(3, some (.arr (.int .u8) x7 false))]
def Zu11 (x2 x3 : Int) (x4 : D13a) : St := mk [(3, .ptr 3 0 0), (4, .dat (.int .u64) x2 []), (5, .dat k13b x3 [])] [(3, some (.arr (.int .u8) x4 false))]
def Zz9 : Code := (rgt (rgt (rgt (rgt b_f81))))
def Zpv (m0 n : Nat) : Int → Int → D13a → Option ByteArray := fun x5 x6 x7 => ej E_f81 n (.tail Zz9) 0 (Zt11 x5 x6 x7) K_f81
theorem Zkq1 (m0 n : Nat) : Zpv m0 (n + 1) = Zsa.S1 := by kernel_rfl
theorem Zbc2 (m0 : Nat) : ∀ n : Nat, Zpv m0 n = Zsa.t1 n :=
  ind rfl fun n _ => Zkq1 m0 n
def Zcc2 (m0 : Nat) : K (ResD R_f81) := sqK E_f81 m0 Zz9 0 K_f81
def Zdc2 (m0 : Nat) : K (ResD R_f81) := Zqa 0 (Zcc2 m0)
def Zv11 : Code := (lft (lft (lft (rgt (rgt (rgt b_f81))))))
def Zqv (m0 n : Nat) : Int → Int → D13a → Option ByteArray := fun x2 x3 x4 => ej E_f81 n (.loop Zv11) 0 (Zu11 x2 x3 x4) (Zdc2 m0)
theorem Zlq1 (m0 n : Nat) : Zqv m0 (n + 1) = Zsa.S0 (Zpv m0 m0) (Zqv m0 n) := by kernel_rfl
theorem Zec2 (m0 : Nat) : ∀ n : Nat, Zqv m0 n = Zsa.l0 (Zpv m0 m0) n :=
  ind rfl fun n e0 => (Zlq1 m0 n).trans (by rw [e0]; rfl)
theorem Zlh2 (m0 : Nat) (x : ArgsD P_f81) : run E_f81 b_f81 m0 x K_f81 = Zsa.S (Zqv m0 m0) x.1 := by kernel_rfl
abbrev Zxo : AM.Spec := AM.spec P_f81 R_f81 (fun x => Zsa x.1)
theorem c_f81 : Zj Tryz.prog 81 Zxo := ctrC tabOk (fn := Tryz.f81) (show ∀ x, run E_f81 b_f81 fu x K_f81 = _ from fun x => by
  have e1 : Zpv fu fu = Zsa.t1 fu := Zbc2 fu fu
  have e0 : Zqv fu fu = Zsa.l0 (Zsa.t1 fu) fu := by rw [← e1]; exact Zec2 fu fu
  refine (Zlh2 fu x).trans ?_
  rw [e0]; rfl) (Zi ⟨⟨Zjq1, Tryz.call118, fun _ => Zg rfl⟩, trivial⟩)
abbrev Zmq1 : Env := tab.env (AM.look [(138, Zcp)]) ⟨[], [], [], ⟨tt [4, 5], tt [1000000]⟩, [], [], [], []⟩
def Zmh2 : Code := bd Tryz.f107
abbrev Zaa1 : List (Ty × List Tag) := [(k13b, []), ((.lk true), []), ((.pair (.lk false) (.sl (.int .u8))), [⟨1, 1, 0, 0⟩])]
abbrev Znh2 : List PK := [.io (.pair (.lk false) (.sl (.int .u8))) [(1, 0)], .val .str]
abbrev Zoh2 : K (ResD Zaa1) := fin Zmq1 [.tmp 4, .tmp 5] [.io (.pair (.lk false) (.sl (.int .u8))) [(1, 0)]] Zaa1
abbrev Zfy : AM.Spec := AM.Zdf 2 Znh2 Zaa1 (fun x => Zic x.1 x.2.1)
theorem Zba1 : Zj Tryz.prog 107 Zfy := ctrI tabOk (fn := Tryz.f107) (show ∀ x, run Zmq1 Zmh2 fu x Zoh2 = _ from fun x => by kernel_rfl) (Zi ⟨⟨Zgz, Tryz.call138, nw⟩, trivial⟩)
abbrev E_f74 : Env := tab.env (AM.look [(106, Zey), (81, Zxo), (107, Zfy), (108, Zpk)]) ⟨[(0, ⟨tt [6, 16, 17, 18], tt [6]⟩)], [], [], ⟨tt [2, 3], []⟩, [], [81, 106], [], []⟩
def b_f74 : Code := bd Tryz.f74
abbrev R_f74 : List (Ty × List Tag) := [(.str, []), (k13b, [])]
abbrev P_f74 : List PK := [.val k13i]
abbrev K_f74 : K (ResD R_f74) := fin E_f74 [.tmp 2, .tmp 3] [] R_f74
def Zw11 (x2 : D13o) (x3 x4 : Int) (x5 : D13j) : St := mk [(6, .ptr 6 0 0), (16, .dat k13i x2 []), (17, .dat k13b x3 []), (18, .dat k13b x4 [])] [(6, some (.var (.pair (.lk false) (.sl (.int .u8))) x5 [⟨1, 64386, 0, 0⟩]))]
def Zx11 : Code := (rgt (rgt (rgt (rgt b_f74))))
def Zfc2 (m0 : Nat) : K (ResD R_f74) := sqK E_f74 m0 Zx11 0 K_f74
def Zgc2 (m0 : Nat) : K (ResD R_f74) := Zqa 0 (Zfc2 m0)
def Zy11 : Code := (lft (lft (rgt (lft (rgt (rgt (rgt b_f74)))))))
def Zx1 (m0 n : Nat) : D13o → Int → Int → D13j → Option D13g := fun x2 x3 x4 x5 => ej E_f74 n (.loop Zy11) 0 (Zw11 x2 x3 x4 x5) (Zgc2 m0)
theorem Znq1 (m0 n : Nat) : Zx1 m0 (n + 1) = Zvc.S0 (Zx1 m0 n) := by kernel_rfl
theorem Zhc2 (m0 : Nat) : ∀ n : Nat, Zx1 m0 n = Zvc.l0 n :=
  ind rfl fun n e0 => (Znq1 m0 n).trans (by rw [e0]; rfl)
theorem Zph2 (m0 : Nat) (x : ArgsD P_f74) : run E_f74 b_f74 m0 x K_f74 = Zvc.S (Zx1 m0 m0) x.1 := by kernel_rfl
abbrev Zca1 : AM.Spec := AM.spec P_f74 R_f74 (fun x => Zvc x.1)
theorem c_f74 : Zj Tryz.prog 74 Zca1 := ctrC tabOk (fn := Tryz.f74) (fun x => (Zph2 fu x).trans (by rw [Zhc2 fu fu]; rfl)) (Zi ⟨⟨Zx9, Tryz.call106, fun _ => Zg rfl⟩, ⟨⟨c_f81, Tryz.call81, fun _ => Zg rfl⟩, ⟨⟨Zba1, Tryz.call107, nw⟩, ⟨⟨Zdp, Tryz.call108, nw⟩, trivial⟩⟩⟩⟩)
abbrev Zoq1 : Env := tab.env (AM.look []) ⟨[], [], [], ⟨tt [4], []⟩, [], [], [], []⟩
def Zqh2 : Code := bd Tryz.f139
abbrev Zda1 : List (Ty × List Tag) := [(k13b, [])]
abbrev Zrh2 : List PK := [.val k13b, .val k13b]
abbrev Zsh2 : K (ResD Zda1) := fin Zoq1 [.tmp 4] [] Zda1
abbrev Zhg1 : AM.Spec := AM.spec Zrh2 Zda1 (fun x => some (Zln x.1 x.2.1))
theorem Zth2 : Zj Tryz.prog 139 Zhg1 := ctrC tabOk (fn := Tryz.f139) (show ∀ x, run Zoq1 Zqh2 fu x Zsh2 = _ from fun x => by kernel_rfl) (Zi trivial)
abbrev Zrv : Env := tab.env (AM.look []) ⟨[(0, ⟨tt [0, 3, 4], []⟩)], [], [(3, ⟨tt [0], []⟩)], ⟨tt [2], []⟩, [], [], [], []⟩
def Zy1 : Code := bd Tryz.f140
abbrev Zsv : List (Ty × List Tag) := [(k13b, [])]
abbrev Zpq1 : List PK := [.val k13c]
abbrev Zea1 : K (ResD Zsv) := fin Zrv [.tmp 2] [] Zsv
def Zqq1 (x2 : D13a) (x3 x4 : Int) : St := mk [(0, .dat k13c x2 []), (3, .dat k13b x3 []), (4, .dat k13b x4 [])] []
def Zrq1 (x1 : D13a) : St := mk [(0, .dat k13c x1 [])] []
def Zsq1 : Code := (rgt (rgt (rgt (rgt Zy1))))
def Zz11 (m0 m1 : Nat) : K (ResD Zsv) := sqK Zrv m1 Zsq1 0 Zea1
def Za21 (m0 m1 : Nat) : K (ResD Zsv) := Zqa 0 (Zz11 m0 m1)
def Ztq1 : Code := (lft (lft (rgt (lft (rgt (rgt (rgt Zy1)))))))
def Zcr (m0 m1 n : Nat) : D13a → Int → Int → Option Int := fun x2 x3 x4 => ej Zrv n (.loop Ztq1) 0 (Zqq1 x2 x3 x4) (Za21 m0 m1)
theorem Zmk1 (m0 m1 n : Nat) : Zcr m0 m1 (n + 1) = Zw.S1 (Zcr m0 m1 n) := by kernel_rfl
theorem Zb21 (m0 m1 : Nat) : ∀ n : Nat, Zcr m0 m1 n = Zw.l1 n :=
  ind rfl fun n e1 => (Zmk1 m0 m1 n).trans (by rw [e1]; rfl)
def Zuq1 : Code := (rgt (rgt Zy1))
def Zk4 (m0 n : Nat) : D13a → Option Int := fun x1 => ej Zrv n (.tail Zuq1) 0 (Zrq1 x1) Zea1
theorem Znk1 (m0 n : Nat) : Zk4 m0 (n + 1) = Zw.S0 (Zcr m0 n n) := by kernel_rfl
theorem Zc21 (m0 : Nat) : ∀ n : Nat, Zk4 m0 n = Zw.t0 n :=
  ind rfl fun n e0 => by
    have e1 : Zcr m0 n n = Zw.l1 n := Zb21 m0 n n
    rw [Znk1 m0 n, e1]; rfl
theorem Zic2 (m0 : Nat) (x : ArgsD Zpq1) : run Zrv Zy1 m0 x Zea1 = Zw.S (Zk4 m0 m0) x.1 := by kernel_rfl
abbrev Zig1 : AM.Spec := AM.spec Zpq1 Zsv (fun x => Zw x.1)
theorem Zuh2 : Zj Tryz.prog 140 Zig1 := ctrC tabOk (fn := Tryz.f140) (fun x => (Zic2 fu x).trans (by rw [Zc21 fu fu]; rfl)) (Zi trivial)
abbrev Zon : Env := tab.env (AM.look [(139, Zhg1), (140, Zig1)]) ⟨[(0, ⟨tt [0, 4, 5], tt [10]⟩), (2, ⟨tt [4, 6, 33, 34], tt [10]⟩)], [], [(6, ⟨tt [4], tt [10]⟩)], ⟨tt [2, 3], tt [10]⟩, [2, 4, 10, 17, 29, 30, 32, 37, 40, 47], [139, 140], [], [28]⟩
def Zdr : Code := bd Tryz.f109
abbrev Zyo : List (Ty × List Tag) := [(k13c, []), (k13b, [])]
abbrev Zvq1 : List PK := [.val k13c]
abbrev Ztv : K (ResD Zyo) := fin Zon [.tmp 2, .tmp 3] [] Zyo
def Zwq1 (x7 x8 x9 : Int) (x10 : D13a) : St := mk [(4, .slw 10 0), (6, .dat k13b x7 []), (33, .dat k13b x8 []), (34, .dat k13b x9 [])] [(10, some (.arr k13b x10 false))]
def Zxq1 (x5 : D13a) : St := mk [(4, .slw 10 0)] [(10, some (.arr k13b x5 false))]
def Zyq1 (x1 : D13a) (x2 : Int) (x3 : D13a) : St := mk [(0, .dat k13c x1 []), (4, .slw 10 0), (5, .dat k13b x2 [])] [(10, some (.arr k13b x3 false))]
def Zzq1 : Code := (rgt (rgt (rgt (rgt (rgt Zdr)))))
def Zd21 (m0 m1 : Nat) : K (ResD Zyo) := sqK Zon m1 Zzq1 0 Ztv
def Ze21 (m0 m1 : Nat) : K (ResD Zyo) := Zqa 2 (Zd21 m0 m1)
def Zar1 : Code := (lft (lft (rgt (lft (rgt (rgt (rgt (rgt Zdr))))))))
def Zer (m0 m1 n : Nat) : Int → Int → Int → D13a → Option D13h := fun x7 x8 x9 x10 => ej Zon n (.loop Zar1) 2 (Zwq1 x7 x8 x9 x10) (Ze21 m0 m1)
theorem Zok1 (m0 m1 n : Nat) : Zer m0 m1 (n + 1) = Zy.S2 (Zer m0 m1 n) := by kernel_rfl
theorem Zf21 (m0 m1 : Nat) : ∀ n : Nat, Zer m0 m1 n = Zy.l2 n :=
  ind rfl fun n e2 => (Zok1 m0 m1 n).trans (by rw [e2]; rfl)
def Zv5 : Code := (rgt (rgt (rgt Zdr)))
def Zfr (m0 n : Nat) : D13a → Option D13h := fun x5 => ej Zon n (.tail Zv5) 0 (Zxq1 x5) Ztv
theorem Zpk1 (m0 n : Nat) : Zfr m0 (n + 1) = Zy.S1 (Zer m0 n n) := by kernel_rfl
theorem Zg21 (m0 : Nat) : ∀ n : Nat, Zfr m0 n = Zy.t1 n :=
  ind rfl fun n e1 => by
    have e2 : Zer m0 n n = Zy.l2 n := Zf21 m0 n n
    rw [Zpk1 m0 n, e2]; rfl
def Zh21 (m0 : Nat) : K (ResD Zyo) := sqK Zon m0 Zv5 0 Ztv
def Zi21 (m0 : Nat) : K (ResD Zyo) := Zqa 0 (Zh21 m0)
def Zbr1 : Code := (lft (lft (rgt (lft (rgt (rgt Zdr))))))
def Zgr (m0 n : Nat) : D13a → Int → D13a → Option D13h := fun x1 x2 x3 => ej Zon n (.loop Zbr1) 0 (Zyq1 x1 x2 x3) (Zi21 m0)
theorem Zqk1 (m0 n : Nat) : Zgr m0 (n + 1) = Zy.S0 (Zfr m0 m0) (Zgr m0 n) := by kernel_rfl
theorem Zj21 (m0 : Nat) : ∀ n : Nat, Zgr m0 n = Zy.l0 (Zfr m0 m0) n :=
  ind rfl fun n e0 => (Zqk1 m0 n).trans (by rw [e0]; rfl)
theorem Zjc2 (m0 : Nat) (x : ArgsD Zvq1) : run Zon Zdr m0 x Ztv = Zy.S (Zgr m0 m0) x.1 := by kernel_rfl
abbrev Zjg1 : AM.Spec := AM.spec Zvq1 Zyo (fun x => Zy x.1)
theorem Zvh2 : Zj Tryz.prog 109 Zjg1 := ctrC tabOk (fn := Tryz.f109) (show ∀ x, run Zon Zdr fu x Ztv = _ from fun x => by
  have e1 : Zfr fu fu = Zy.t1 fu := Zg21 fu fu
  have e0 : Zgr fu fu = Zy.l0 (Zy.t1 fu) fu := by rw [← e1]; exact Zj21 fu fu
  refine (Zjc2 fu x).trans ?_
  rw [e0]; rfl) (Zi ⟨⟨Zth2, Tryz.call139, fun _ => Zg rfl⟩, ⟨⟨Zuh2, Tryz.call140, fun _ => Zg rfl⟩, trivial⟩⟩)
abbrev E_f76 : Env := tab.env (AM.look [(81, Zxo), (109, Zjg1), (70, Znn), (44, Zbr)]) ⟨[], [], [], ⟨tt [2, 3], []⟩, [], [44, 70, 81], [], [47]⟩
def b_f76 : Code := bd Tryz.f76
abbrev R_f76 : List (Ty × List Tag) := [(.str, []), (k13b, [])]
abbrev P_f76 : List PK := [.val k13c]
abbrev K_f76 : K (ResD R_f76) := fin E_f76 [.tmp 2, .tmp 3] [] R_f76
abbrev Zfa1 : AM.Spec := AM.spec P_f76 R_f76 (fun x => Zmn x.1)
theorem c_f76 : Zj Tryz.prog 76 Zfa1 := ctrC tabOk (fn := Tryz.f76) (show ∀ x, run E_f76 b_f76 fu x K_f76 = _ from fun x => by kernel_rfl) (Zi ⟨⟨c_f81, Tryz.call81, fun _ => Zg rfl⟩, ⟨⟨Zvh2, Tryz.call109, nw⟩, ⟨⟨c_f70, Tryz.call70, fun _ => Zg rfl⟩, ⟨⟨c_f44, Tryz.call44, fun _ => Zg rfl⟩, trivial⟩⟩⟩⟩)
abbrev Zcr1 : Env := tab.env (AM.look []) ⟨[], [], [], ⟨tt [2], []⟩, [], [], [], []⟩
def Zwh2 : Code := bd Tryz.f200
abbrev Zga1 : List (Ty × List Tag) := [(.bool, [])]
abbrev Zxh2 : List PK := [.val k13b]
abbrev Zyh2 : K (ResD Zga1) := fin Zcr1 [.tmp 2] [] Zga1
abbrev Zkg1 : AM.Spec := AM.spec Zxh2 Zga1 (fun x => some (cmp_isNaN_int x.1))
theorem Zzh2 : Zj Tryz.prog 200 Zkg1 := ctrC tabOk (fn := Tryz.f200) (show ∀ x, run Zcr1 Zwh2 fu x Zyh2 = _ from fun x => by kernel_rfl) (Zi trivial)
abbrev Zha1 : Env := tab.env (AM.look [(200, Zkg1)]) ⟨[], [], [], ⟨tt [4], []⟩, [], [200], [], []⟩
def Zdr1 : Code := bd Tryz.f182
abbrev Zia1 : List (Ty × List Tag) := [(.bool, [])]
abbrev Zja1 : List PK := [.val k13b, .val k13b]
abbrev Zer1 : K (ResD Zia1) := fin Zha1 [.tmp 4] [] Zia1
theorem Zfr1 (m0 : Nat) (x : ArgsD Zja1) : run Zha1 Zdr1 m0 x Zer1 = cmp_Less_int.o x.1 x.2.1 := by kernel_rfl
theorem Zkc2 (m0 : Nat) (x : ArgsD Zja1) : run Zha1 Zdr1 m0 x Zer1 = some (cmp_Less_int x.1 x.2.1) := (Zfr1 m0 x).trans (by unfold cmp_Less_int.o cmp_Less_int; simp only [Zfl])
abbrev Zlg1 : AM.Spec := AM.spec Zja1 Zia1 (fun x => some (cmp_Less_int x.1 x.2.1))
theorem Zai2 : Zj Tryz.prog 182 Zlg1 := ctrC tabOk (fn := Tryz.f182) (fun x => Zkc2 fu x) (Zi ⟨⟨Zzh2, Tryz.call200, fun _ => Zg rfl⟩, trivial⟩)
abbrev Zgr1 : Env := tab.env (AM.look []) ⟨[], [], [], ⟨tt [2], []⟩, [], [], [], []⟩
def Zbi2 : Code := bd Tryz.f183
abbrev Zka1 : List (Ty × List Tag) := [(.bool, [])]
abbrev Zci2 : List PK := [.val k13b]
abbrev Zdi2 : K (ResD Zka1) := fin Zgr1 [.tmp 2] [] Zka1
abbrev Zmg1 : AM.Spec := AM.spec Zci2 Zka1 (fun x => some (Ztk x.1))
theorem Zei2 : Zj Tryz.prog 183 Zmg1 := ctrC tabOk (fn := Tryz.f183) (show ∀ x, run Zgr1 Zbi2 fu x Zdi2 = _ from fun x => by kernel_rfl) (Zi trivial)
abbrev Zhr : Env := tab.env (AM.look [(182, Zlg1), (183, Zmg1)]) ⟨[(0, ⟨tt [0, 1, 6, 7, 8], []⟩)], [], [(8, ⟨tt [0, 1, 6, 7], []⟩)], ⟨tt [4, 5], []⟩, [], [182, 183], [], []⟩
def Zz1 : Code := bd Tryz.f163
abbrev Zuv : List (Ty × List Tag) := [(k13b, []), (.bool, [])]
abbrev Zhr1 : List PK := [.val k13c, .val k13b]
abbrev Za2 : K (ResD Zuv) := fin Zhr [.tmp 4, .tmp 5] [] Zuv
def Zir1 (x7 : D13a) (x8 x9 x10 : Int) : St := mk [(0, .dat k13c x7 []), (1, .dat k13b x8 []), (6, .dat k13b x9 []), (7, .dat k13b x10 [])] []
def Zjr1 (x1 : D13a) (x2 x3 : Int) (x4 x5 : Int) : St := mk [(0, .dat k13c x1 []), (1, .dat k13b x2 []), (6, .dat k13b x3 []), (7, .dat k13b x4 []), (8, .dat k13b x5 [])] []
def Zw5 : Code := (rgt (rgt (rgt (rgt Zz1))))
def Zir (m0 n : Nat) : D13a → Int → Int → Int → Option (Int × Bool) := fun x7 x8 x9 x10 => ej Zhr n (.tail Zw5) 0 (Zir1 x7 x8 x9 x10) Za2
theorem Zrk1 (m0 n : Nat) : Zir m0 (n + 1) = Zr.S1 := by kernel_rfl
theorem Zk21 (m0 : Nat) : ∀ n : Nat, Zir m0 n = Zr.t1 n :=
  ind rfl fun n _ => Zrk1 m0 n
def Zl21 (m0 : Nat) : K (ResD Zuv) := sqK Zhr m0 Zw5 0 Za2
def Zm21 (m0 : Nat) : K (ResD Zuv) := Zqa 0 (Zl21 m0)
def Zkr1 : Code := (lft (lft (lft (rgt (rgt (rgt Zz1))))))
def Zjr (m0 n : Nat) : D13a → Int → Int → Int → Int → Option (Int × Bool) := fun x1 x2 x3 x4 x5 => ej Zhr n (.loop Zkr1) 0 (Zjr1 x1 x2 x3 x4 x5) (Zm21 m0)
theorem Zsk1 (m0 n : Nat) : Zjr m0 (n + 1) = Zr.S0 (Zir m0 m0) (Zjr m0 n) := by kernel_rfl
theorem Zn21 (m0 : Nat) : ∀ n : Nat, Zjr m0 n = Zr.l0 (Zir m0 m0) n :=
  ind rfl fun n e0 => (Zsk1 m0 n).trans (by rw [e0]; rfl)
theorem Zlc2 (m0 : Nat) (x : ArgsD Zhr1) : run Zhr Zz1 m0 x Za2 = Zr.S (Zjr m0 m0) x.1 x.2.1 := by kernel_rfl
abbrev Zng1 : AM.Spec := AM.spec Zhr1 Zuv (fun x => Zr x.1 x.2.1)
theorem Zfi2 : Zj Tryz.prog 163 Zng1 := ctrC tabOk (fn := Tryz.f163) (show ∀ x, run Zhr Zz1 fu x Za2 = _ from fun x => by
  have e1 : Zir fu fu = Zr.t1 fu := Zk21 fu fu
  have e0 : Zjr fu fu = Zr.l0 (Zr.t1 fu) fu := by rw [← e1]; exact Zn21 fu fu
  refine (Zlc2 fu x).trans ?_
  rw [e0]; rfl) (Zi ⟨⟨Zai2, Tryz.call182, fun _ => Zg rfl⟩, ⟨⟨Zei2, Tryz.call183, fun _ => Zg rfl⟩, trivial⟩⟩)
abbrev Zb2 : Env := tab.env (AM.look [(160, Zfm), (161, Zsn), (162, Zel), (163, Zng1)]) ⟨[(0, ⟨tt [4, 5, 16, 17, 18], tt [11]⟩)], [], [], ⟨tt [2, 3], tt [11]⟩, [2, 4, 11, 12, 14, 15, 23, 33], [163], [(161, [true]), (162, [true])], []⟩
def Zla1 : Code := bd Tryz.f141
abbrev Zvv : List (Ty × List Tag) := [(k13c, []), (k13c, [⟨0, 1, 0, 1⟩])]
abbrev Zlr1 : List PK := [.val k13c]
abbrev Zmr1 : K (ResD Zvv) := fin Zb2 [.tmp 2, .tmp 3] [] Zvv
def Znr1 (x4 x5 : Nat) (x6 x7 : D13a) (x8 x9 : Int) (x10 : D13a) : St := mk [(4, .slm 11 0 x4 x5), (5, .dat k13c x6 [⟨0, 321, 0, 1⟩]), (16, .dat k13c x7 []), (17, .dat k13b x8 []), (18, .dat k13b x9 [])] [(11, some (.arr k13b x10 false))]
def Zor1 : Code := (rgt (rgt (rgt (rgt (rgt (rgt Zla1))))))
def Zo21 (m0 : Nat) : K (ResD Zvv) := sqK Zb2 m0 Zor1 0 Zmr1
def Zp21 (m0 : Nat) : K (ResD Zvv) := Zqa 0 (Zo21 m0)
def Zpr1 : Code := (lft (lft (rgt (lft (rgt (rgt (rgt (rgt (rgt Zla1)))))))))
def Zgy (m0 n : Nat) : Nat → Nat → D13a → D13a → Int → Int → D13a → Option D13n := fun x4 x5 x6 x7 x8 x9 x10 => ej Zb2 n (.loop Zpr1) 0 (Znr1 x4 x5 x6 x7 x8 x9 x10) (Zp21 m0)
theorem Ztk1 (m0 n : Nat) : Zgy m0 (n + 1) = Zac.S0 (Zgy m0 n) := by kernel_rfl
theorem Zq21 (m0 : Nat) : ∀ n : Nat, Zgy m0 n = Zac.l0 n :=
  ind rfl fun n e0 => (Ztk1 m0 n).trans (by rw [e0]; rfl)
theorem Zmc2 (m0 : Nat) (x : ArgsD Zlr1) : run Zb2 Zla1 m0 x Zmr1 = Zac.S (Zgy m0 m0) x.1 := by kernel_rfl
abbrev Zog1 : AM.Spec := AM.spec Zlr1 Zvv (fun x => Zac x.1)
theorem Zgi2 : Zj Tryz.prog 141 Zog1 := ctrC tabOk (fn := Tryz.f141) (fun x => (Zmc2 fu x).trans (by rw [Zq21 fu fu]; rfl)) (Zi ⟨⟨Zyw, Tryz.call160, nw⟩, ⟨⟨Zyy, Tryz.call161, nw⟩, ⟨⟨Zlt, Tryz.call162, nw⟩, ⟨⟨Zfi2, Tryz.call163, fun _ => Zg rfl⟩, trivial⟩⟩⟩⟩)
abbrev Zc2 : Env := tab.env (AM.look [(81, Zxo), (107, Zfy), (108, Zpk)]) ⟨[(0, ⟨tt [4, 7, 8, 9], tt [4]⟩)], [], [], ⟨tt [2, 3], []⟩, [], [81], [], []⟩
def Zma1 : Code := bd Tryz.f111
abbrev Zwv : List (Ty × List Tag) := [(.str, []), (k13b, [])]
abbrev Zqr1 : List PK := [.val k13c]
abbrev Zrr1 : K (ResD Zwv) := fin Zc2 [.tmp 2, .tmp 3] [] Zwv
def Zsr1 (x1 : D13a) (x2 x3 : Int) (x4 : D13j) : St := mk [(4, .ptr 4 0 0), (7, .dat k13c x1 []), (8, .dat k13b x2 []), (9, .dat k13b x3 [])] [(4, some (.var (.pair (.lk false) (.sl (.int .u8))) x4 [⟨1, 64258, 0, 0⟩]))]
def Ztr1 : Code := (rgt (rgt (rgt Zma1)))
def Zr21 (m0 : Nat) : K (ResD Zwv) := sqK Zc2 m0 Ztr1 0 Zrr1
def Zs21 (m0 : Nat) : K (ResD Zwv) := Zqa 0 (Zr21 m0)
def Zur1 : Code := (lft (lft (rgt (lft (rgt (rgt Zma1))))))
def Zhy (m0 n : Nat) : D13a → Int → Int → D13j → Option D13g := fun x1 x2 x3 x4 => ej Zc2 n (.loop Zur1) 0 (Zsr1 x1 x2 x3 x4) (Zs21 m0)
theorem Zuk1 (m0 n : Nat) : Zhy m0 (n + 1) = Zld.S0 (Zhy m0 n) := by kernel_rfl
theorem Zt21 (m0 : Nat) : ∀ n : Nat, Zhy m0 n = Zld.l0 n :=
  ind rfl fun n e0 => (Zuk1 m0 n).trans (by rw [e0]; rfl)
theorem Znc2 (m0 : Nat) (x : ArgsD Zqr1) : run Zc2 Zma1 m0 x Zrr1 = Zld.S (Zhy m0 m0) x.1 := by kernel_rfl
abbrev Zpg1 : AM.Spec := AM.spec Zqr1 Zwv (fun x => Zld x.1)
theorem Zhi2 : Zj Tryz.prog 111 Zpg1 := ctrC tabOk (fn := Tryz.f111) (fun x => (Znc2 fu x).trans (by rw [Zt21 fu fu]; rfl)) (Zi ⟨⟨c_f81, Tryz.call81, fun _ => Zg rfl⟩, ⟨⟨Zba1, Tryz.call107, nw⟩, ⟨⟨Zdp, Tryz.call108, nw⟩, trivial⟩⟩⟩)
abbrev Zvr1 : Env := tab.env (AM.look [(141, Zog1), (111, Zpg1), (70, Znn), (44, Zbr), (81, Zxo)]) ⟨[], [], [], ⟨tt [4, 5], []⟩, [], [44, 70, 81, 111], [], []⟩
def Zii2 : Code := bd Tryz.f110
abbrev Zna1 : List (Ty × List Tag) := [(.str, []), (k13b, [])]
abbrev Zji2 : List PK := [.val k13c, .fn 111 []]
abbrev Zki2 : K (ResD Zna1) := fin Zvr1 [.tmp 4, .tmp 5] [] Zna1
abbrev Zqg1 : AM.Spec := AM.spec Zji2 Zna1 (fun x => Zqg x.1)
theorem Zli2 : Zj Tryz.prog 110 Zqg1 := ctrC tabOk (fn := Tryz.f110) (show ∀ x, run Zvr1 Zii2 fu x Zki2 = _ from fun x => by kernel_rfl) (Zi ⟨⟨Zgi2, Tryz.call141, nw⟩, ⟨⟨Zhi2, Tryz.call111, fun _ => Zg rfl⟩, ⟨⟨c_f70, Tryz.call70, fun _ => Zg rfl⟩, ⟨⟨c_f44, Tryz.call44, fun _ => Zg rfl⟩, ⟨⟨c_f81, Tryz.call81, fun _ => Zg rfl⟩, trivial⟩⟩⟩⟩⟩)
abbrev E_f77 : Env := tab.env (AM.look [(110, Zqg1)]) ⟨[], [], [], ⟨tt [2, 3], []⟩, [], [110], [], []⟩
def b_f77 : Code := bd Tryz.f77
abbrev R_f77 : List (Ty × List Tag) := [(.str, []), (k13b, [])]
abbrev P_f77 : List PK := [.val k13c]
abbrev K_f77 : K (ResD R_f77) := fin E_f77 [.tmp 2, .tmp 3] [] R_f77
abbrev Zwr1 : AM.Spec := AM.spec P_f77 R_f77 (fun x => Zrl x.1)
theorem c_f77 : Zj Tryz.prog 77 Zwr1 := ctrC tabOk (fn := Tryz.f77) (show ∀ x, run E_f77 b_f77 fu x K_f77 = _ from fun x => by kernel_rfl) (Zi ⟨⟨Zli2, Tryz.call110, fun _ => Zg rfl⟩, trivial⟩)
abbrev E_f45 : Env := tab.env (AM.look [(73, Zbq1), (75, Zv9), (74, Zca1), (76, Zfa1), (77, Zwr1), (70, Znn), (44, Zbr)]) ⟨[], [], [], ⟨tt [4, 5], []⟩, [], [44, 70, 73, 74, 76, 77], [], []⟩
def b_f45 : Code := bd Tryz.f45
abbrev R_f45 : List (Ty × List Tag) := [(.str, []), (k13b, [])]
abbrev P_f45 : List PK := [.val k13c, .val k13b]
abbrev K_f45 : K (ResD R_f45) := fin E_f45 [.tmp 4, .tmp 5] [] R_f45
abbrev Zxr1 : AM.Spec := AM.spec P_f45 R_f45 (fun x => Zsg x.1 x.2.1)
theorem c_f45 : Zj Tryz.prog 45 Zxr1 := ctrC tabOk (fn := Tryz.f45) (show ∀ x, run E_f45 b_f45 fu x K_f45 = _ from fun x => by kernel_rfl) (Zi ⟨⟨c_f73, Tryz.call73, fun _ => Zg rfl⟩, ⟨⟨c_f75, Tryz.call75, nw⟩, ⟨⟨c_f74, Tryz.call74, fun _ => Zg rfl⟩, ⟨⟨c_f76, Tryz.call76, fun _ => Zg rfl⟩, ⟨⟨c_f77, Tryz.call77, fun _ => Zg rfl⟩, ⟨⟨c_f70, Tryz.call70, fun _ => Zg rfl⟩, ⟨⟨c_f44, Tryz.call44, fun _ => Zg rfl⟩, trivial⟩⟩⟩⟩⟩⟩⟩)
abbrev Zyr1 : Env := tab.env (AM.look [(138, Zcp)]) ⟨[], [], [], ⟨tt [4], tt [1000000]⟩, [], [], [], []⟩
def Zmi2 : Code := bd Tryz.f112
abbrev Zoa1 : List (Ty × List Tag) := [((.lk true), []), ((.pair (.lk false) (.sl (.int .u8))), [⟨1, 1, 0, 0⟩])]
abbrev Zni2 : List PK := [.io (.pair (.lk false) (.sl (.int .u8))) [(1, 0)], .val (.int .u8)]
abbrev Zoi2 : K (ResD Zoa1) := fin Zyr1 [.tmp 4] [.io (.pair (.lk false) (.sl (.int .u8))) [(1, 0)]] Zoa1
abbrev Zrg1 : AM.Spec := AM.Zdf 1 Zni2 Zoa1 (fun x => Zoe x.1 x.2.1)
theorem Zpi2 : Zj Tryz.prog 112 Zrg1 := ctrI tabOk (fn := Tryz.f112) (show ∀ x, run Zyr1 Zmi2 fu x Zoi2 = _ from fun x => by kernel_rfl) (Zi ⟨⟨Zgz, Tryz.call138, nw⟩, trivial⟩)
abbrev E_f78 : Env := tab.env (AM.look [(112, Zrg1), (107, Zfy), (108, Zpk)]) ⟨[(0, ⟨tt [4, 7, 8, 9], tt [4]⟩)], [], [], ⟨tt [2, 3], []⟩, [], [], [], []⟩
def b_f78 : Code := bd Tryz.f78
abbrev R_f78 : List (Ty × List Tag) := [(.str, []), (k13b, [])]
abbrev P_f78 : List PK := [.val k13a]
abbrev K_f78 : K (ResD R_f78) := fin E_f78 [.tmp 2, .tmp 3] [] R_f78
def Zu21 (x1 : D13e) (x2 x3 : Int) (x4 : D13j) : St := mk [(4, .ptr 4 0 0), (7, .dat k13a x1 []), (8, .dat k13b x2 []), (9, .dat k13b x3 [])] [(4, some (.var (.pair (.lk false) (.sl (.int .u8))) x4 [⟨1, 64258, 0, 0⟩]))]
def Zv21 : Code := (rgt (rgt (rgt b_f78)))
def Zoc2 (m0 : Nat) : K (ResD R_f78) := sqK E_f78 m0 Zv21 0 K_f78
def Zpc2 (m0 : Nat) : K (ResD R_f78) := Zqa 0 (Zoc2 m0)
def Zw21 : Code := (lft (lft (rgt (lft (rgt (rgt b_f78))))))
def Zd2 (m0 n : Nat) : D13e → Int → Int → D13j → Option D13g := fun x1 x2 x3 x4 => ej E_f78 n (.loop Zw21) 0 (Zu21 x1 x2 x3 x4) (Zpc2 m0)
theorem Zzr1 (m0 n : Nat) : Zd2 m0 (n + 1) = Zlb.S0 (Zd2 m0 n) := by kernel_rfl
theorem Zqc2 (m0 : Nat) : ∀ n : Nat, Zd2 m0 n = Zlb.l0 n :=
  ind rfl fun n e0 => (Zzr1 m0 n).trans (by rw [e0]; rfl)
theorem Zqi2 (m0 : Nat) (x : ArgsD P_f78) : run E_f78 b_f78 m0 x K_f78 = Zlb.S (Zd2 m0 m0) x.1 := by kernel_rfl
abbrev Zpa1 : AM.Spec := AM.spec P_f78 R_f78 (fun x => Zlb x.1)
theorem c_f78 : Zj Tryz.prog 78 Zpa1 := ctrC tabOk (fn := Tryz.f78) (fun x => (Zqi2 fu x).trans (by rw [Zqc2 fu fu]; rfl)) (Zi ⟨⟨Zpi2, Tryz.call112, nw⟩, ⟨⟨Zba1, Tryz.call107, nw⟩, ⟨⟨Zdp, Tryz.call108, nw⟩, trivial⟩⟩⟩)
abbrev Zas1 : Env := tab.env (AM.look []) ⟨[], [], [], ⟨tt [2], []⟩, [], [], [], []⟩
def Zri2 : Code := bd Tryz.f174
abbrev Zqa1 : List (Ty × List Tag) := [(.bool, [])]
abbrev Zsi2 : List PK := [.val .str]
abbrev Zti2 : K (ResD Zqa1) := fin Zas1 [.tmp 2] [] Zqa1
abbrev Zsg1 : AM.Spec := AM.spec Zsi2 Zqa1 (fun x => some (cmp_isNaN_string x.1))
theorem Zui2 : Zj Tryz.prog 174 Zsg1 := ctrC tabOk (fn := Tryz.f174) (show ∀ x, run Zas1 Zri2 fu x Zti2 = _ from fun x => by kernel_rfl) (Zi trivial)
abbrev Zra1 : Env := tab.env (AM.look [(174, Zsg1)]) ⟨[], [], [], ⟨tt [4], []⟩, [], [174], [], []⟩
def Zbs1 : Code := bd Tryz.f144
abbrev Zsa1 : List (Ty × List Tag) := [(.bool, [])]
abbrev Zta1 : List PK := [.val .str, .val .str]
abbrev Zcs1 : K (ResD Zsa1) := fin Zra1 [.tmp 4] [] Zsa1
theorem Zds1 (m0 : Nat) (x : ArgsD Zta1) : run Zra1 Zbs1 m0 x Zcs1 = cmp_Less_string.o x.1 x.2.1 := by kernel_rfl
theorem Zrc2 (m0 : Nat) (x : ArgsD Zta1) : run Zra1 Zbs1 m0 x Zcs1 = some (cmp_Less_string x.1 x.2.1) := (Zds1 m0 x).trans (by unfold cmp_Less_string.o cmp_Less_string; simp only [Zfl])
abbrev Ztg1 : AM.Spec := AM.spec Zta1 Zsa1 (fun x => some (cmp_Less_string x.1 x.2.1))
theorem Zvi2 : Zj Tryz.prog 144 Ztg1 := ctrC tabOk (fn := Tryz.f144) (fun x => Zrc2 fu x) (Zi ⟨⟨Zui2, Tryz.call174, fun _ => Zg rfl⟩, trivial⟩)
abbrev Zes1 : Env := tab.env (AM.look []) ⟨[], [], [], ⟨tt [2], []⟩, [], [], [], []⟩
def Zwi2 : Code := bd Tryz.f145
abbrev Zua1 : List (Ty × List Tag) := [(.bool, [])]
abbrev Zxi2 : List PK := [.val .str]
abbrev Zyi2 : K (ResD Zua1) := fin Zes1 [.tmp 2] [] Zua1
abbrev Zug1 : AM.Spec := AM.spec Zxi2 Zua1 (fun x => some (Zji x.1))
theorem Zzi2 : Zj Tryz.prog 145 Zug1 := ctrC tabOk (fn := Tryz.f145) (show ∀ x, run Zes1 Zwi2 fu x Zyi2 = _ from fun x => by kernel_rfl) (Zi trivial)
abbrev Zkr : Env := tab.env (AM.look [(144, Ztg1), (145, Zug1)]) ⟨[(0, ⟨tt [0, 1, 6, 7, 8], []⟩)], [], [(8, ⟨tt [0, 1, 6, 7], []⟩)], ⟨tt [4, 5], []⟩, [], [144, 145], [], []⟩
def Ze2 : Code := bd Tryz.f117
abbrev Zxv : List (Ty × List Tag) := [(k13b, []), (.bool, [])]
abbrev Zfs1 : List PK := [.val k13a, .val .str]
abbrev Zf2 : K (ResD Zxv) := fin Zkr [.tmp 4, .tmp 5] [] Zxv
def Zgs1 (x7 : D13e) (x8 : ByteArray) (x9 x10 : Int) : St := mk [(0, .dat k13a x7 []), (1, .dat .str x8 []), (6, .dat k13b x9 []), (7, .dat k13b x10 [])] []
def Zhs1 (x1 : D13e) (x2 : ByteArray) (x3 x4 x5 : Int) : St := mk [(0, .dat k13a x1 []), (1, .dat .str x2 []), (6, .dat k13b x3 []), (7, .dat k13b x4 []), (8, .dat k13b x5 [])] []
def Zx5 : Code := (rgt (rgt (rgt (rgt Ze2))))
def Zlr (m0 n : Nat) : D13e → ByteArray → Int → Int → Option (Int × Bool) := fun x7 x8 x9 x10 => ej Zkr n (.tail Zx5) 0 (Zgs1 x7 x8 x9 x10) Zf2
theorem Zvk1 (m0 n : Nat) : Zlr m0 (n + 1) = Zh.S1 := by kernel_rfl
theorem Zx21 (m0 : Nat) : ∀ n : Nat, Zlr m0 n = Zh.t1 n :=
  ind rfl fun n _ => Zvk1 m0 n
def Zy21 (m0 : Nat) : K (ResD Zxv) := sqK Zkr m0 Zx5 0 Zf2
def Zz21 (m0 : Nat) : K (ResD Zxv) := Zqa 0 (Zy21 m0)
def Zis1 : Code := (lft (lft (lft (rgt (rgt (rgt Ze2))))))
def Zmr (m0 n : Nat) : D13e → ByteArray → Int → Int → Int → Option (Int × Bool) := fun x1 x2 x3 x4 x5 => ej Zkr n (.loop Zis1) 0 (Zhs1 x1 x2 x3 x4 x5) (Zz21 m0)
theorem Zwk1 (m0 n : Nat) : Zmr m0 (n + 1) = Zh.S0 (Zlr m0 m0) (Zmr m0 n) := by kernel_rfl
theorem Za31 (m0 : Nat) : ∀ n : Nat, Zmr m0 n = Zh.l0 (Zlr m0 m0) n :=
  ind rfl fun n e0 => (Zwk1 m0 n).trans (by rw [e0]; rfl)
theorem Zsc2 (m0 : Nat) (x : ArgsD Zfs1) : run Zkr Ze2 m0 x Zf2 = Zh.S (Zmr m0 m0) x.1 x.2.1 := by kernel_rfl
abbrev Zvg1 : AM.Spec := AM.spec Zfs1 Zxv (fun x => Zh x.1 x.2.1)
theorem Zaj2 : Zj Tryz.prog 117 Zvg1 := ctrC tabOk (fn := Tryz.f117) (show ∀ x, run Zkr Ze2 fu x Zf2 = _ from fun x => by
  have e1 : Zlr fu fu = Zh.t1 fu := Zx21 fu fu
  have e0 : Zmr fu fu = Zh.l0 (Zh.t1 fu) fu := by rw [← e1]; exact Za31 fu fu
  refine (Zsc2 fu x).trans ?_
  rw [e0]; rfl) (Zi ⟨⟨Zvi2, Tryz.call144, fun _ => Zg rfl⟩, ⟨⟨Zzi2, Tryz.call145, fun _ => Zg rfl⟩, trivial⟩⟩)
abbrev E_f80 : Env := tab.env (AM.look [(114, Zbk), (115, Zdl), (116, Zui), (117, Zvg1)]) ⟨[(0, ⟨tt [4, 5, 16, 17, 18], tt [11]⟩)], [], [], ⟨tt [2, 3], tt [11]⟩, [2, 4, 11, 12, 14, 15, 23, 33], [117], [(115, [true]), (116, [true])], []⟩
def b_f80 : Code := bd Tryz.f80
abbrev R_f80 : List (Ty × List Tag) := [(k13a, []), (k13c, [⟨0, 1, 0, 1⟩])]
abbrev P_f80 : List PK := [.val k13a]
abbrev K_f80 : K (ResD R_f80) := fin E_f80 [.tmp 2, .tmp 3] [] R_f80
def Zb31 (x4 x5 : Nat) (x6 : D13a) (x7 : D13e) (x8 x9 : Int) (x10 : D13e) : St := mk [(4, .slm 11 0 x4 x5), (5, .dat k13c x6 [⟨0, 321, 0, 1⟩]), (16, .dat k13a x7 []), (17, .dat k13b x8 []), (18, .dat k13b x9 [])] [(11, some (.arr .str x10 false))]
def Zc31 : Code := (rgt (rgt (rgt (rgt (rgt (rgt b_f80))))))
def Ztc2 (m0 : Nat) : K (ResD R_f80) := sqK E_f80 m0 Zc31 0 K_f80
def Zuc2 (m0 : Nat) : K (ResD R_f80) := Zqa 0 (Ztc2 m0)
def Zd31 : Code := (lft (lft (rgt (lft (rgt (rgt (rgt (rgt (rgt b_f80)))))))))
def Zg2 (m0 n : Nat) : Nat → Nat → D13a → D13e → Int → Int → D13e → Option D13r := fun x4 x5 x6 x7 x8 x9 x10 => ej E_f80 n (.loop Zd31) 0 (Zb31 x4 x5 x6 x7 x8 x9 x10) (Zuc2 m0)
theorem Zjs1 (m0 n : Nat) : Zg2 m0 (n + 1) = Zza.S0 (Zg2 m0 n) := by kernel_rfl
theorem Zvc2 (m0 : Nat) : ∀ n : Nat, Zg2 m0 n = Zza.l0 n :=
  ind rfl fun n e0 => (Zjs1 m0 n).trans (by rw [e0]; rfl)
theorem Zbj2 (m0 : Nat) (x : ArgsD P_f80) : run E_f80 b_f80 m0 x K_f80 = Zza.S (Zg2 m0 m0) x.1 := by kernel_rfl
abbrev Zva1 : AM.Spec := AM.spec P_f80 R_f80 (fun x => Zza x.1)
theorem c_f80 : Zj Tryz.prog 80 Zva1 := ctrC tabOk (fn := Tryz.f80) (fun x => (Zbj2 fu x).trans (by rw [Zvc2 fu fu]; rfl)) (Zi ⟨⟨Zrs, Tryz.call114, nw⟩, ⟨⟨Zkt, Tryz.call115, nw⟩, ⟨⟨Zlp, Tryz.call116, nw⟩, ⟨⟨Zaj2, Tryz.call117, fun _ => Zg rfl⟩, trivial⟩⟩⟩⟩)
abbrev Zks1 : Env := tab.env (AM.look [(80, Zva1), (78, Zpa1), (70, Znn), (44, Zbr), (81, Zxo)]) ⟨[], [], [], ⟨tt [4, 5], []⟩, [], [44, 70, 78, 81], [], []⟩
def Zcj2 : Code := bd Tryz.f113
abbrev Zwa1 : List (Ty × List Tag) := [(.str, []), (k13b, [])]
abbrev Zdj2 : List PK := [.val k13a, .fn 78 []]
abbrev Zej2 : K (ResD Zwa1) := fin Zks1 [.tmp 4, .tmp 5] [] Zwa1
abbrev Zwg1 : AM.Spec := AM.spec Zdj2 Zwa1 (fun x => Zaf x.1)
theorem Zfj2 : Zj Tryz.prog 113 Zwg1 := ctrC tabOk (fn := Tryz.f113) (show ∀ x, run Zks1 Zcj2 fu x Zej2 = _ from fun x => by kernel_rfl) (Zi ⟨⟨c_f80, Tryz.call80, nw⟩, ⟨⟨c_f78, Tryz.call78, fun _ => Zg rfl⟩, ⟨⟨c_f70, Tryz.call70, fun _ => Zg rfl⟩, ⟨⟨c_f44, Tryz.call44, fun _ => Zg rfl⟩, ⟨⟨c_f81, Tryz.call81, fun _ => Zg rfl⟩, trivial⟩⟩⟩⟩⟩)
abbrev E_f79 : Env := tab.env (AM.look [(113, Zwg1)]) ⟨[], [], [], ⟨tt [2, 3], []⟩, [], [113], [], []⟩
def b_f79 : Code := bd Tryz.f79
abbrev R_f79 : List (Ty × List Tag) := [(.str, []), (k13b, [])]
abbrev P_f79 : List PK := [.val k13a]
abbrev K_f79 : K (ResD R_f79) := fin E_f79 [.tmp 2, .tmp 3] [] R_f79
abbrev Zls1 : AM.Spec := AM.spec P_f79 R_f79 (fun x => Zlk x.1)
theorem c_f79 : Zj Tryz.prog 79 Zls1 := ctrC tabOk (fn := Tryz.f79) (show ∀ x, run E_f79 b_f79 fu x K_f79 = _ from fun x => by kernel_rfl) (Zi ⟨⟨Zfj2, Tryz.call113, fun _ => Zg rfl⟩, trivial⟩)
abbrev E_f46 : Env := tab.env (AM.look [(78, Zpa1), (79, Zls1), (80, Zva1), (75, Zv9), (74, Zca1), (81, Zxo)]) ⟨[], [], [], ⟨tt [4, 5], []⟩, [], [74, 78, 79, 81], [], []⟩
def b_f46 : Code := bd Tryz.f46
abbrev R_f46 : List (Ty × List Tag) := [(.str, []), (k13b, [])]
abbrev P_f46 : List PK := [.val k13a, .val k13b]
abbrev K_f46 : K (ResD R_f46) := fin E_f46 [.tmp 4, .tmp 5] [] R_f46
abbrev Zms1 : AM.Spec := AM.spec P_f46 R_f46 (fun x => Zhi x.1 x.2.1)
theorem c_f46 : Zj Tryz.prog 46 Zms1 := ctrC tabOk (fn := Tryz.f46) (show ∀ x, run E_f46 b_f46 fu x K_f46 = _ from fun x => by kernel_rfl) (Zi ⟨⟨c_f78, Tryz.call78, fun _ => Zg rfl⟩, ⟨⟨c_f79, Tryz.call79, fun _ => Zg rfl⟩, ⟨⟨c_f80, Tryz.call80, nw⟩, ⟨⟨c_f75, Tryz.call75, nw⟩, ⟨⟨c_f74, Tryz.call74, fun _ => Zg rfl⟩, ⟨⟨c_f81, Tryz.call81, fun _ => Zg rfl⟩, trivial⟩⟩⟩⟩⟩⟩)
abbrev E_f25 : Env := tab.env (AM.look [(45, Zxr1), (46, Zms1)]) ⟨[(0, ⟨tt [1, 2, 8, 9, 12, 13, 14], []⟩)], [], [(8, ⟨tt [1, 2, 8, 9], []⟩)], ⟨tt [6, 7], []⟩, [], [45, 46], [], [21, 26]⟩
def b_f25 : Code := bd Tryz.f25
abbrev R_f25 : List (Ty × List Tag) := [(.str, []), (k13b, [])]
abbrev P_f25 : List PK := [.val k13g, .val k13b, .val k13b]
abbrev K_f25 : K (ResD R_f25) := fin E_f25 [.tmp 6, .tmp 7] [] R_f25
def Ze31 (x8 x9 : Int) (x10 : D13a) (x11 : D13e) : St := mk [(1, .dat k13b x8 []), (2, .dat k13b x9 []), (8, .dat k13c x10 [⟨0, 513, 0, 1⟩]), (9, .dat k13a x11 [⟨0, 577, 0, 1⟩])] []
def Zf31 (x1 x2 : Int) (x3 : D13a) (x4 : D13e) (x5 : D13u) (x6 x7 : Int) : St := mk [(1, .dat k13b x1 []), (2, .dat k13b x2 []), (8, .dat k13c x3 [⟨0, 513, 0, 1⟩]), (9, .dat k13a x4 [⟨0, 577, 0, 1⟩]), (12, .dat k13g x5 []), (13, .dat k13b x6 []), (14, .dat k13b x7 [])] []
def Zxa1 : Code := (rgt (rgt (rgt (rgt b_f25))))
def Zyv (m0 n : Nat) : Int → Int → D13a → D13e → Option D13g := fun x8 x9 x10 x11 => ej E_f25 n (.tail Zxa1) 0 (Ze31 x8 x9 x10 x11) K_f25
theorem Zns1 (m0 n : Nat) : Zyv m0 (n + 1) = Zla.S1 := by kernel_rfl
theorem Zwc2 (m0 : Nat) : ∀ n : Nat, Zyv m0 n = Zla.t1 n :=
  ind rfl fun n _ => Zns1 m0 n
def Zxc2 (m0 : Nat) : K (ResD R_f25) := sqK E_f25 m0 Zxa1 0 K_f25
def Zyc2 (m0 : Nat) : K (ResD R_f25) := Zqa 0 (Zxc2 m0)
def Zg31 : Code := (lft (lft (rgt (lft (rgt (rgt (rgt b_f25)))))))
def Zzv (m0 n : Nat) : Int → Int → D13a → D13e → D13u → Int → Int → Option D13g := fun x1 x2 x3 x4 x5 x6 x7 => ej E_f25 n (.loop Zg31) 0 (Zf31 x1 x2 x3 x4 x5 x6 x7) (Zyc2 m0)
theorem Zos1 (m0 n : Nat) : Zzv m0 (n + 1) = Zla.S0 (Zyv m0 m0) (Zzv m0 n) := by kernel_rfl
theorem Zzc2 (m0 : Nat) : ∀ n : Nat, Zzv m0 n = Zla.l0 (Zyv m0 m0) n :=
  ind rfl fun n e0 => (Zos1 m0 n).trans (by rw [e0]; rfl)
theorem Zgj2 (m0 : Nat) (x : ArgsD P_f25) : run E_f25 b_f25 m0 x K_f25 = Zla.S (Zzv m0 m0) x.1 x.2.1 x.2.2.1 := by kernel_rfl
abbrev Zps1 : AM.Spec := AM.spec P_f25 R_f25 (fun x => Zla x.1 x.2.1 x.2.2.1)
theorem c_f25 : Zj Tryz.prog 25 Zps1 := ctrC tabOk (fn := Tryz.f25) (show ∀ x, run E_f25 b_f25 fu x K_f25 = _ from fun x => by
  have e1 : Zyv fu fu = Zla.t1 fu := Zwc2 fu fu
  have e0 : Zzv fu fu = Zla.l0 (Zla.t1 fu) fu := by rw [← e1]; exact Zzc2 fu fu
  refine (Zgj2 fu x).trans ?_
  rw [e0]; rfl) (Zi ⟨⟨c_f45, Tryz.call45, fun _ => Zg rfl⟩, ⟨⟨c_f46, Tryz.call46, fun _ => Zg rfl⟩, trivial⟩⟩)
abbrev E_f82 : Env := tab.env (AM.look []) ⟨[(0, ⟨tt [1, 5, 11, 12], []⟩), (2, ⟨tt [1, 5, 11, 12, 21], []⟩)], [], [], ⟨tt [4], []⟩, [], [], [], []⟩
def b_f82 : Code := bd Tryz.f82
abbrev R_f82 : List (Ty × List Tag) := [(k13b, [])]
abbrev P_f82 : List PK := [.val k13b, .val .str]
abbrev K_f82 : K (ResD R_f82) := fin E_f82 [.tmp 4] [] R_f82
def Zh31 (x5 : ByteArray) (x6 x7 : Int) (x8 x9 : Int) : St := mk [(1, .dat .str x5 []), (5, .dat (.int .u32) x6 []), (11, .dat k13b x7 []), (12, .dat k13b x8 []), (21, .dat k13b x9 [])] []
def Zi31 (x1 : ByteArray) (x2 x3 x4 : Int) : St := mk [(1, .dat .str x1 []), (5, .dat (.int .u32) x2 []), (11, .dat k13b x3 []), (12, .dat k13b x4 [])] []
def Zj31 : Code := (rgt (rgt (rgt b_f82)))
def Zad2 (m0 : Nat) : K (ResD R_f82) := sqK E_f82 m0 Zj31 0 K_f82
def Zxg1 (m0 : Nat) : K (ResD R_f82) := Zqa 0 (Zad2 m0)
def Zit : Code := (lft (lft (rgt (lft (rgt (rgt b_f82))))))
def Zaw (m0 n : Nat) : ByteArray → Int → Int → Int → Option Int := fun x1 x2 x3 x4 => ej E_f82 n (.loop Zit) 0 (Zi31 x1 x2 x3 x4) (Zxg1 m0)
def Zbd2 (m0 m1 : Nat) : K (ResD R_f82) := lpK E_f82 m1 Zit 0 (Zxg1 m0)
def Zk31 : Code := (rgt (rgt (rgt Zit)))
def Zcd2 (m0 m1 : Nat) : K (ResD R_f82) := sqK E_f82 m1 Zk31 0 (Zbd2 m0 m1)
def Zdd2 (m0 m1 : Nat) : K (ResD R_f82) := Zqa 1 (Zcd2 m0 m1)
def Zed2 (m0 m1 : Nat) : K (ResD R_f82) := Zqa 2 (Zdd2 m0 m1)
def Zl31 : Code := (lft (lft (rgt (rgt (rgt (lft (lft (rgt (rgt Zit)))))))))
def Zbw (m0 m1 n : Nat) : ByteArray → Int → Int → Int → Int → Option Int := fun x5 x6 x7 x8 x9 => ej E_f82 n (.loop Zl31) 2 (Zh31 x5 x6 x7 x8 x9) (Zed2 m0 m1)
theorem Zqs1 (m0 m1 n : Nat) : Zbw m0 m1 (n + 1) = Zna.S1 (Zaw m0 m1) (Zbw m0 m1 n) := by kernel_rfl
theorem Zfd2 (m0 m1 : Nat) : ∀ n : Nat, Zbw m0 m1 n = Zna.l1 (Zaw m0 m1) n :=
  ind rfl fun n e1 => (Zqs1 m0 m1 n).trans (by rw [e1]; rfl)
theorem Zrs1 (m0 n : Nat) : Zaw m0 (n + 1) = Zna.S0 (Zbw m0 n n) := by kernel_rfl
theorem Zgd2 (m0 : Nat) : ∀ n : Nat, Zaw m0 n = Zna.l0 n :=
  ind rfl fun n e0 => by
    have e1 : Zbw m0 n n = Zna.l1 (Zna.l0 n) n := by rw [← e0]; exact Zfd2 m0 n n
    rw [Zrs1 m0 n, e1]; rfl
theorem Zhj2 (m0 : Nat) (x : ArgsD P_f82) : run E_f82 b_f82 m0 x K_f82 = Zna.S (Zaw m0 m0) x.1 x.2.1 := by kernel_rfl
abbrev Zss1 : AM.Spec := AM.spec P_f82 R_f82 (fun x => Zna x.1 x.2.1)
theorem c_f82 : Zj Tryz.prog 82 Zss1 := ctrC tabOk (fn := Tryz.f82) (fun x => (Zhj2 fu x).trans (by rw [Zgd2 fu fu]; rfl)) (Zi trivial)
abbrev E_f47 : Env := tab.env (AM.look [(82, Zss1)]) ⟨[], [], [], ⟨tt [2], []⟩, [], [82], [], []⟩
def b_f47 : Code := bd Tryz.f47
abbrev R_f47 : List (Ty × List Tag) := [(k13b, [])]
abbrev P_f47 : List PK := [.val .str]
abbrev K_f47 : K (ResD R_f47) := fin E_f47 [.tmp 2] [] R_f47
abbrev Zts1 : AM.Spec := AM.spec P_f47 R_f47 (fun x => Zsp x.1)
theorem c_f47 : Zj Tryz.prog 47 Zts1 := ctrC tabOk (fn := Tryz.f47) (show ∀ x, run E_f47 b_f47 fu x K_f47 = _ from fun x => by kernel_rfl) (Zi ⟨⟨c_f82, Tryz.call82, fun _ => Zg rfl⟩, trivial⟩)
abbrev E_f26 : Env := tab.env (AM.look [(47, Zts1)]) ⟨[(0, ⟨tt [3, 4, 16], []⟩)], [], [], ⟨tt [2], []⟩, [], [47], [], []⟩
def b_f26 : Code := bd Tryz.f26
abbrev R_f26 : List (Ty × List Tag) := [(.str, [])]
abbrev P_f26 : List PK := [.val .str]
abbrev K_f26 : K (ResD R_f26) := fin E_f26 [.tmp 2] [] R_f26
def Zm31 (x2 : Int) (x3 : D13a) (x4 : Int) : St := mk [(3, .dat (.int .u32) x2 []), (4, .dat (.sl (.int .u8)) x3 [⟨0, 257, 0, 0⟩]), (16, .dat k13b x4 [])] []
def Zn31 : Code := (rgt (rgt (rgt (rgt (rgt b_f26)))))
def Zhd2 (m0 : Nat) : K (ResD R_f26) := sqK E_f26 m0 Zn31 0 K_f26
def Zid2 (m0 : Nat) : K (ResD R_f26) := Zqa 0 (Zhd2 m0)
def Zo31 : Code := (lft (lft (rgt (lft (rgt (rgt (rgt (rgt b_f26))))))))
def Zh2 (m0 n : Nat) : Int → D13a → Int → Option ByteArray := fun x2 x3 x4 => ej E_f26 n (.loop Zo31) 0 (Zm31 x2 x3 x4) (Zid2 m0)
theorem Zus1 (m0 n : Nat) : Zh2 m0 (n + 1) = Ztb.S0 (Zh2 m0 n) := by kernel_rfl
theorem Zjd2 (m0 : Nat) : ∀ n : Nat, Zh2 m0 n = Ztb.l0 n :=
  ind rfl fun n e0 => (Zus1 m0 n).trans (by rw [e0]; rfl)
theorem Zij2 (m0 : Nat) (x : ArgsD P_f26) : run E_f26 b_f26 m0 x K_f26 = Ztb.S (Zh2 m0 m0) x.1 := by kernel_rfl
abbrev Zya1 : AM.Spec := AM.spec P_f26 R_f26 (fun x => Ztb x.1)
theorem c_f26 : Zj Tryz.prog 26 Zya1 := ctrC tabOk (fn := Tryz.f26) (fun x => (Zij2 fu x).trans (by rw [Zjd2 fu fu]; rfl)) (Zi ⟨⟨c_f47, Tryz.call47, fun _ => Zg rfl⟩, trivial⟩)
abbrev E_f10 : Env := tab.env (AM.look [(23, Zcp1), (24, Zyp1), (25, Zps1), (26, Zya1)]) ⟨[], [], [], ⟨tt [6, 7], []⟩, [], [23, 25, 26], [], []⟩
def b_f10 : Code := bd Tryz.f10
abbrev R_f10 : List (Ty × List Tag) := [(.str, []), (k13b, [])]
abbrev P_f10 : List PK := [.val k13g, .val k13b, .val k13b]
abbrev K_f10 : K (ResD R_f10) := fin E_f10 [.tmp 6, .tmp 7] [] R_f10
abbrev Zi2 : AM.Spec := AM.spec P_f10 R_f10 (fun x => Zqe x.1 x.2.1 x.2.2.1)
theorem c_f10 : Zj Tryz.prog 10 Zi2 := ctrC tabOk (fn := Tryz.f10) (show ∀ x, run E_f10 b_f10 fu x K_f10 = _ from fun x => by kernel_rfl) (Zi ⟨⟨c_f23, Tryz.call23, fun _ => Zg rfl⟩, ⟨⟨c_f24, Tryz.call24, nw⟩, ⟨⟨c_f25, Tryz.call25, fun _ => Zg rfl⟩, ⟨⟨c_f26, Tryz.call26, fun _ => Zg rfl⟩, trivial⟩⟩⟩⟩)
abbrev E_f54 : Env := tab.env (AM.look [(26, Zya1)]) ⟨[], [], [], ⟨tt [2, 3], []⟩, [], [26], [], []⟩
def b_f54 : Code := bd Tryz.f54
abbrev R_f54 : List (Ty × List Tag) := [(.str, []), (k13b, [])]
abbrev P_f54 : List PK := [.val .str]
abbrev K_f54 : K (ResD R_f54) := fin E_f54 [.tmp 2, .tmp 3] [] R_f54
abbrev Zvs1 : AM.Spec := AM.spec P_f54 R_f54 (fun x => Zsh x.1)
theorem c_f54 : Zj Tryz.prog 54 Zvs1 := ctrC tabOk (fn := Tryz.f54) (show ∀ x, run E_f54 b_f54 fu x K_f54 = _ from fun x => by kernel_rfl) (Zi ⟨⟨c_f26, Tryz.call26, fun _ => Zg rfl⟩, trivial⟩)
abbrev Zj2 : Env := tab.env (AM.look [(72, Zt9)]) ⟨[(0, ⟨tt [0, 2, 7, 8, 9], []⟩)], [], [], ⟨tt [6], []⟩, [], [72], [], []⟩
def Zza1 : Code := bd Tryz.f148
abbrev Zcw : List (Ty × List Tag) := [(k13b, [])]
abbrev Zws1 : List PK := [.val .str, .val k13b, .val k13b]
abbrev Zxs1 : K (ResD Zcw) := fin Zj2 [.tmp 6] [] Zcw
def Zys1 (x1 : ByteArray) (x2 x3 : Int) (x4 x5 : Int) : St := mk [(0, .dat .str x1 []), (2, .dat k13b x2 []), (7, .dat (.int .u64) x3 []), (8, .dat k13b x4 []), (9, .dat k13b x5 [])] []
def Zzs1 : Code := (rgt (rgt (rgt (rgt Zza1))))
def Zp31 (m0 : Nat) : K (ResD Zcw) := sqK Zj2 m0 Zzs1 0 Zxs1
def Zq31 (m0 : Nat) : K (ResD Zcw) := Zqa 0 (Zp31 m0)
def Zat1 : Code := (lft (lft (lft (rgt (rgt (rgt Zza1))))))
def Ziy (m0 n : Nat) : ByteArray → Int → Int → Int → Int → Option Int := fun x1 x2 x3 x4 x5 => ej Zj2 n (.loop Zat1) 0 (Zys1 x1 x2 x3 x4 x5) (Zq31 m0)
theorem Zxk1 (m0 n : Nat) : Ziy m0 (n + 1) = Zgd.S0 (Ziy m0 n) := by kernel_rfl
theorem Zr31 (m0 : Nat) : ∀ n : Nat, Ziy m0 n = Zgd.l0 n :=
  ind rfl fun n e0 => (Zxk1 m0 n).trans (by rw [e0]; rfl)
theorem Zkd2 (m0 : Nat) (x : ArgsD Zws1) : run Zj2 Zza1 m0 x Zxs1 = Zgd.S (Ziy m0 m0) x.1 x.2.1 x.2.2.1 := by kernel_rfl
abbrev Zyg1 : AM.Spec := AM.spec Zws1 Zcw (fun x => Zgd x.1 x.2.1 x.2.2.1)
theorem Zjj2 : Zj Tryz.prog 148 Zyg1 := ctrC tabOk (fn := Tryz.f148) (fun x => (Zkd2 fu x).trans (by rw [Zr31 fu fu]; rfl)) (Zi ⟨⟨c_f72, Tryz.call72, fun _ => Zg rfl⟩, trivial⟩)
abbrev Zdw : Env := tab.env (AM.look [(71, Zs9), (148, Zyg1)]) ⟨[(0, ⟨tt [0, 2, 9, 49, 50], tt [48]⟩)], [], [(8, ⟨tt [0, 1, 2], []⟩)], ⟨tt [6, 7], tt [6, 48]⟩, [6, 9, 48, 53, 61], [71, 148], [], []⟩
def Zk2 : Code := bd Tryz.f126
abbrev Zew : List (Ty × List Tag) := [(k13c, []), (k13b, [])]
abbrev Zbt1 : List PK := [.val .str, .val k13b, .val k13b]
abbrev Zab1 : K (ResD Zew) := fin Zdw [.tmp 6, .tmp 7] [] Zew
def Zct1 (x5 : ByteArray) (x6 x7 x8 : Int) (x9 : D13a) : St := mk [(0, .dat .str x5 []), (2, .dat k13b x6 []), (9, .slw 48 0), (49, .dat k13b x7 []), (50, .dat k13b x8 [])] [(48, some (.arr k13b x9 false))]
def Zdt1 (x2 : ByteArray) (x3 x4 : Int) : St := mk [(0, .dat .str x2 []), (1, .dat k13b x3 []), (2, .dat k13b x4 [])] []
def Zet1 : Code := (rgt (rgt (rgt (rgt (rgt (rgt Zk2))))))
def Zs31 (m0 m1 : Nat) : K (ResD Zew) := sqK Zdw m1 Zet1 0 Zab1
def Zt31 (m0 m1 : Nat) : K (ResD Zew) := Zqa 0 (Zs31 m0 m1)
def Zft1 : Code := (lft (lft (rgt (lft (rgt (rgt (rgt (rgt (rgt Zk2)))))))))
def Znr (m0 m1 n : Nat) : ByteArray → Int → Int → Int → D13a → Option D13h := fun x5 x6 x7 x8 x9 => ej Zdw n (.loop Zft1) 0 (Zct1 x5 x6 x7 x8 x9) (Zt31 m0 m1)
theorem Zyk1 (m0 m1 n : Nat) : Znr m0 m1 (n + 1) = Zva.S1 (Znr m0 m1 n) := by kernel_rfl
theorem Zu31 (m0 m1 : Nat) : ∀ n : Nat, Znr m0 m1 n = Zva.l1 n :=
  ind rfl fun n e1 => (Zyk1 m0 m1 n).trans (by rw [e1]; rfl)
def Zgt1 : Code := (rgt (rgt (rgt (rgt Zk2))))
def Zl4 (m0 n : Nat) : ByteArray → Int → Int → Option D13h := fun x2 x3 x4 => ej Zdw n (.tail Zgt1) 0 (Zdt1 x2 x3 x4) Zab1
theorem Zzk1 (m0 n : Nat) : Zl4 m0 (n + 1) = Zva.S0 (Znr m0 n n) := by kernel_rfl
theorem Zv31 (m0 : Nat) : ∀ n : Nat, Zl4 m0 n = Zva.t0 n :=
  ind rfl fun n e0 => by
    have e1 : Znr m0 n n = Zva.l1 n := Zu31 m0 n n
    rw [Zzk1 m0 n, e1]; rfl
theorem Zld2 (m0 : Nat) (x : ArgsD Zbt1) : run Zdw Zk2 m0 x Zab1 = Zva.S (Zl4 m0 m0) x.1 x.2.1 x.2.2.1 := by kernel_rfl
abbrev Zno : AM.Spec := AM.spec Zbt1 Zew (fun x => Zva x.1 x.2.1 x.2.2.1)
theorem Zfw : Zj Tryz.prog 126 Zno := ctrC tabOk (fn := Tryz.f126) (fun x => (Zld2 fu x).trans (by rw [Zv31 fu fu]; rfl)) (Zi ⟨⟨c_f71, Tryz.call71, fun _ => Zg rfl⟩, ⟨⟨Zjj2, Tryz.call148, fun _ => Zg rfl⟩, trivial⟩⟩)
abbrev Zl2 : Env := tab.env (AM.look []) ⟨[(0, ⟨tt [0, 1, 7, 8], []⟩)], [], [], ⟨tt [4], []⟩, [], [], [], []⟩
def Zbb1 : Code := bd Tryz.f149
abbrev Zgw : List (Ty × List Tag) := [(k13b, [])]
abbrev Zht1 : List PK := [.val k13c, .val k13b]
abbrev Zit1 : K (ResD Zgw) := fin Zl2 [.tmp 4] [] Zgw
def Zjt1 (x1 : D13a) (x2 x3 x4 : Int) : St := mk [(0, .dat k13c x1 []), (1, .dat k13b x2 []), (7, .dat k13b x3 []), (8, .dat k13b x4 [])] []
def Zkt1 : Code := (rgt (rgt Zbb1))
def Zw31 (m0 : Nat) : K (ResD Zgw) := sqK Zl2 m0 Zkt1 0 Zit1
def Zx31 (m0 : Nat) : K (ResD Zgw) := Zqa 0 (Zw31 m0)
def Zlt1 : Code := (lft (lft (rgt (lft (rgt Zbb1)))))
def Zjy (m0 n : Nat) : D13a → Int → Int → Int → Option Int := fun x1 x2 x3 x4 => ej Zl2 n (.loop Zlt1) 0 (Zjt1 x1 x2 x3 x4) (Zx31 m0)
theorem Zal1 (m0 n : Nat) : Zjy m0 (n + 1) = Zoa.S0 (Zjy m0 n) := by kernel_rfl
theorem Zy31 (m0 : Nat) : ∀ n : Nat, Zjy m0 n = Zoa.l0 n :=
  ind rfl fun n e0 => (Zal1 m0 n).trans (by rw [e0]; rfl)
theorem Zmd2 (m0 : Nat) (x : ArgsD Zht1) : run Zl2 Zbb1 m0 x Zit1 = Zoa.S (Zjy m0 m0) x.1 x.2.1 := by kernel_rfl
abbrev Zzg1 : AM.Spec := AM.spec Zht1 Zgw (fun x => Zoa x.1 x.2.1)
theorem Zkj2 : Zj Tryz.prog 149 Zzg1 := ctrC tabOk (fn := Tryz.f149) (fun x => (Zmd2 fu x).trans (by rw [Zy31 fu fu]; rfl)) (Zi trivial)
abbrev Zmt1 : Env := tab.env (AM.look [(149, Zzg1)]) ⟨[], [], [], ⟨tt [4], []⟩, [], [149], [], []⟩
def Zlj2 : Code := bd Tryz.f127
abbrev Zcb1 : List (Ty × List Tag) := [(.bool, [])]
abbrev Zmj2 : List PK := [.val k13c, .val k13b]
abbrev Znj2 : K (ResD Zcb1) := fin Zmt1 [.tmp 4] [] Zcb1
abbrev Zah1 : AM.Spec := AM.spec Zmj2 Zcb1 (fun x => Zif x.1 x.2.1)
theorem Zoj2 : Zj Tryz.prog 127 Zah1 := ctrC tabOk (fn := Tryz.f127) (show ∀ x, run Zmt1 Zlj2 fu x Znj2 = _ from fun x => by kernel_rfl) (Zi ⟨⟨Zkj2, Tryz.call149, fun _ => Zg rfl⟩, trivial⟩)
abbrev E_f95 : Env := tab.env (AM.look [(126, Zno), (127, Zah1)]) ⟨[], [], [], ⟨tt [4, 5], tt [17]⟩, [], [127], [], []⟩
def b_f95 : Code := bd Tryz.f95
abbrev R_f95 : List (Ty × List Tag) := [(k13c, []), (k13b, [])]
abbrev P_f95 : List PK := [.val .str, .val k13b]
abbrev K_f95 : K (ResD R_f95) := fin E_f95 [.tmp 4, .tmp 5] [] R_f95
abbrev Zdb1 : AM.Spec := AM.spec P_f95 R_f95 (fun x => Zsl x.1 x.2.1)
theorem c_f95 : Zj Tryz.prog 95 Zdb1 := ctrC tabOk (fn := Tryz.f95) (show ∀ x, run E_f95 b_f95 fu x K_f95 = _ from fun x => by kernel_rfl) (Zi ⟨⟨Zfw, Tryz.call126, nw⟩, ⟨⟨Zoj2, Tryz.call127, fun _ => Zg rfl⟩, trivial⟩⟩)
abbrev E_f55 : Env := tab.env (AM.look [(95, Zdb1)]) ⟨[(0, ⟨tt [7, 8, 17, 18, 19], []⟩)], [], [], ⟨tt [4, 5], []⟩, [], [], [], []⟩
def b_f55 : Code := bd Tryz.f55
abbrev R_f55 : List (Ty × List Tag) := [(k13b, []), (k13b, [])]
abbrev P_f55 : List PK := [.val .str, .val k13b]
abbrev K_f55 : K (ResD R_f55) := fin E_f55 [.tmp 4, .tmp 5] [] R_f55
def Zz31 (x2 x3 : Int) (x4 : D13a) (x5 x6 : Int) : St := mk [(7, .dat k13b x2 []), (8, .dat k13b x3 []), (17, .dat k13c x4 []), (18, .dat k13b x5 []), (19, .dat k13b x6 [])] []
def Za41 : Code := (rgt (rgt (rgt (rgt b_f55))))
def Znd2 (m0 : Nat) : K (ResD R_f55) := sqK E_f55 m0 Za41 0 K_f55
def Zod2 (m0 : Nat) : K (ResD R_f55) := Zqa 0 (Znd2 m0)
def Zb41 : Code := (lft (lft (rgt (lft (rgt (rgt (rgt b_f55)))))))
def Zm2 (m0 n : Nat) : Int → Int → D13a → Int → Int → Option D13b := fun x2 x3 x4 x5 x6 => ej E_f55 n (.loop Zb41) 0 (Zz31 x2 x3 x4 x5 x6) (Zod2 m0)
theorem Znt1 (m0 n : Nat) : Zm2 m0 (n + 1) = Zwb.S0 (Zm2 m0 n) := by kernel_rfl
theorem Zpd2 (m0 : Nat) : ∀ n : Nat, Zm2 m0 n = Zwb.l0 n :=
  ind rfl fun n e0 => (Znt1 m0 n).trans (by rw [e0]; rfl)
theorem Zpj2 (m0 : Nat) (x : ArgsD P_f55) : run E_f55 b_f55 m0 x K_f55 = Zwb.S (Zm2 m0 m0) x.1 x.2.1 := by kernel_rfl
abbrev Zeb1 : AM.Spec := AM.spec P_f55 R_f55 (fun x => Zwb x.1 x.2.1)
theorem c_f55 : Zj Tryz.prog 55 Zeb1 := ctrC tabOk (fn := Tryz.f55) (fun x => (Zpj2 fu x).trans (by rw [Zpd2 fu fu]; rfl)) (Zi ⟨⟨c_f95, Tryz.call95, nw⟩, trivial⟩)
abbrev Zpn : Env := tab.env (AM.look []) ⟨[(0, ⟨tt [0, 6, 27, 28], tt [26]⟩), (2, ⟨tt [0, 6, 7, 8, 27, 28, 31], tt [26]⟩)], [], [], ⟨tt [4, 5], tt [4, 26]⟩, [4, 6, 26, 47, 53], [], [], []⟩
def Zfb1 : Code := bd Tryz.f128
abbrev Zak : List (Ty × List Tag) := [(k13c, []), (k13b, [])]
abbrev Zot1 : List PK := [.val .str, .val k13b]
abbrev Zpt1 : K (ResD Zak) := fin Zpn [.tmp 4, .tmp 5] [] Zak
def Zqt1 (x5 : ByteArray) (x6 x7 : Int) (x8 x9 x10 : Int) (x11 : D13a) : St := mk [(0, .dat .str x5 []), (6, .slw 26 0), (7, .dat k13b x6 []), (8, .dat (.int .u64) x7 []), (27, .dat k13b x8 []), (28, .dat k13b x9 []), (31, .dat k13b x10 [])] [(26, some (.arr k13b x11 false))]
def Zrt1 (x1 : ByteArray) (x2 x3 : Int) (x4 : D13a) : St := mk [(0, .dat .str x1 []), (6, .slw 26 0), (27, .dat k13b x2 []), (28, .dat k13b x3 [])] [(26, some (.arr k13b x4 false))]
def Zst1 : Code := (rgt (rgt (rgt (rgt Zfb1))))
def Zc41 (m0 : Nat) : K (ResD Zak) := sqK Zpn m0 Zst1 0 Zpt1
def Zgb1 (m0 : Nat) : K (ResD Zak) := Zqa 0 (Zc41 m0)
def Zqn : Code := (lft (lft (rgt (lft (rgt (rgt (rgt Zfb1)))))))
def Zor (m0 n : Nat) : ByteArray → Int → Int → D13a → Option D13h := fun x1 x2 x3 x4 => ej Zpn n (.loop Zqn) 0 (Zrt1 x1 x2 x3 x4) (Zgb1 m0)
def Zd41 (m0 m1 : Nat) : K (ResD Zak) := lpK Zpn m1 Zqn 0 (Zgb1 m0)
def Ztt1 : Code := (rgt (rgt (rgt Zqn)))
def Ze41 (m0 m1 : Nat) : K (ResD Zak) := sqK Zpn m1 Ztt1 0 (Zd41 m0 m1)
def Zf41 (m0 m1 : Nat) : K (ResD Zak) := Zqa 1 (Ze41 m0 m1)
def Zut1 : Code := (rgt (rgt (rgt (lft (lft (rgt (rgt Zqn)))))))
def Zg41 (m0 m1 : Nat) : K (ResD Zak) := sqK Zpn m1 Zut1 1 (Zf41 m0 m1)
def Zh41 (m0 m1 : Nat) : K (ResD Zak) := Zqa 2 (Zg41 m0 m1)
def Zvt1 : Code := (lft (lft (rgt (lft (rgt (rgt (lft (lft (rgt (rgt Zqn))))))))))
def Zpr (m0 m1 n : Nat) : ByteArray → Int → Int → Int → Int → Int → D13a → Option D13h := fun x5 x6 x7 x8 x9 x10 x11 => ej Zpn n (.loop Zvt1) 2 (Zqt1 x5 x6 x7 x8 x9 x10 x11) (Zh41 m0 m1)
theorem Zbl1 (m0 m1 n : Nat) : Zpr m0 m1 (n + 1) = Zx.S1 (Zor m0 m1) (Zpr m0 m1 n) := by kernel_rfl
theorem Zi41 (m0 m1 : Nat) : ∀ n : Nat, Zpr m0 m1 n = Zx.l1 (Zor m0 m1) n :=
  ind rfl fun n e1 => (Zbl1 m0 m1 n).trans (by rw [e1]; rfl)
theorem Zcl1 (m0 n : Nat) : Zor m0 (n + 1) = Zx.S0 (Zpr m0 n n) := by kernel_rfl
theorem Zj41 (m0 : Nat) : ∀ n : Nat, Zor m0 n = Zx.l0 n :=
  ind rfl fun n e0 => by
    have e1 : Zpr m0 n n = Zx.l1 (Zx.l0 n) n := by rw [← e0]; exact Zi41 m0 n n
    rw [Zcl1 m0 n, e1]; rfl
theorem Zqd2 (m0 : Nat) (x : ArgsD Zot1) : run Zpn Zfb1 m0 x Zpt1 = Zx.S (Zor m0 m0) x.1 x.2.1 := by kernel_rfl
abbrev Zbh1 : AM.Spec := AM.spec Zot1 Zak (fun x => Zx x.1 x.2.1)
theorem Zqj2 : Zj Tryz.prog 128 Zbh1 := ctrC tabOk (fn := Tryz.f128) (fun x => (Zqd2 fu x).trans (by rw [Zj41 fu fu]; rfl)) (Zi trivial)
abbrev Zwt1 : Env := tab.env (AM.look []) ⟨[], [], [], ⟨tt [2], []⟩, [], [], [], []⟩
def Zrj2 : Code := bd Tryz.f175
abbrev Zhb1 : List (Ty × List Tag) := [(k13b, [])]
abbrev Zsj2 : List PK := [.val k13b]
abbrev Ztj2 : K (ResD Zhb1) := fin Zwt1 [.tmp 2] [] Zhb1
abbrev Zch1 : AM.Spec := AM.spec Zsj2 Zhb1 (fun x => some (Zrb x.1))
theorem Zuj2 : Zj Tryz.prog 175 Zch1 := ctrC tabOk (fn := Tryz.f175) (show ∀ x, run Zwt1 Zrj2 fu x Ztj2 = _ from fun x => by kernel_rfl) (Zi trivial)
abbrev Zxt1 : Env := tab.env (AM.look [(118, Zj4), (105, Zi4)]) ⟨[], [], [], ⟨tt [2], []⟩, [], [105, 118], [], []⟩
def Zvj2 : Code := bd Tryz.f176
abbrev Zib1 : List (Ty × List Tag) := [(k13b, [])]
abbrev Zwj2 : List PK := [.val k13b]
abbrev Zxj2 : K (ResD Zib1) := fin Zxt1 [.tmp 2] [] Zib1
abbrev Zdh1 : AM.Spec := AM.spec Zwj2 Zib1 (fun x => Zuo x.1)
theorem Zyj2 : Zj Tryz.prog 176 Zdh1 := ctrC tabOk (fn := Tryz.f176) (show ∀ x, run Zxt1 Zvj2 fu x Zxj2 = _ from fun x => by kernel_rfl) (Zi ⟨⟨Zjq1, Tryz.call118, fun _ => Zg rfl⟩, ⟨⟨Zqp1, Tryz.call105, fun _ => Zg rfl⟩, trivial⟩⟩)
abbrev Zn2 : Env := tab.env (AM.look [(175, Zch1), (176, Zdh1)]) ⟨[(0, ⟨tt [0, 5, 11, 12], []⟩)], [], [], ⟨tt [2, 3, 4], []⟩, [], [175, 176], [], []⟩
def Zjb1 : Code := bd Tryz.f150
abbrev Zhw : List (Ty × List Tag) := [(k13b, []), (k13b, []), (k13b, [])]
abbrev Zyt1 : List PK := [.val .str]
abbrev Zzt1 : K (ResD Zhw) := fin Zn2 [.tmp 2, .tmp 3, .tmp 4] [] Zhw
def Zau1 (x1 : ByteArray) (x2 x3 x4 : Int) : St := mk [(0, .dat .str x1 []), (5, .dat (.int .u64) x2 []), (11, .dat k13b x3 []), (12, .dat k13b x4 [])] []
def Zbu1 : Code := (rgt (rgt (rgt Zjb1)))
def Zk41 (m0 : Nat) : K (ResD Zhw) := sqK Zn2 m0 Zbu1 0 Zzt1
def Zl41 (m0 : Nat) : K (ResD Zhw) := Zqa 0 (Zk41 m0)
def Zcu1 : Code := (lft (lft (rgt (lft (rgt (rgt Zjb1))))))
def Zky (m0 n : Nat) : ByteArray → Int → Int → Int → Option (Int × Int × Int) := fun x1 x2 x3 x4 => ej Zn2 n (.loop Zcu1) 0 (Zau1 x1 x2 x3 x4) (Zl41 m0)
theorem Zdl1 (m0 n : Nat) : Zky m0 (n + 1) = Zbc.S0 (Zky m0 n) := by kernel_rfl
theorem Zm41 (m0 : Nat) : ∀ n : Nat, Zky m0 n = Zbc.l0 n :=
  ind rfl fun n e0 => (Zdl1 m0 n).trans (by rw [e0]; rfl)
theorem Zrd2 (m0 : Nat) (x : ArgsD Zyt1) : run Zn2 Zjb1 m0 x Zzt1 = Zbc.S (Zky m0 m0) x.1 := by kernel_rfl
abbrev Znm : AM.Spec := AM.spec Zyt1 Zhw (fun x => Zbc x.1)
theorem Zqr : Zj Tryz.prog 150 Znm := ctrC tabOk (fn := Tryz.f150) (fun x => (Zrd2 fu x).trans (by rw [Zm41 fu fu]; rfl)) (Zi ⟨⟨Zuj2, Tryz.call175, fun _ => Zg rfl⟩, ⟨⟨Zyj2, Tryz.call176, fun _ => Zg rfl⟩, trivial⟩⟩)
abbrev Zrr : Env := tab.env (AM.look [(150, Znm), (106, Zey)]) ⟨[(0, ⟨tt [0, 1, 6, 7], []⟩)], [], [(15, ⟨tt [1, 6, 7], []⟩)], ⟨tt [4, 5], []⟩, [], [106, 150], [], []⟩
def Zo2 : Code := bd Tryz.f129
abbrev Ziw : List (Ty × List Tag) := [(k13i, [⟨0, 1, 0, 3⟩]), (k13b, [])]
abbrev Zdu1 : List PK := [.val .str, .val k13b]
abbrev Zp2 : K (ResD Ziw) := fin Zrr [.tmp 4, .tmp 5] [] Ziw
def Zeu1 (x7 : Int) (x8 : D13o) (x9 : Int) : St := mk [(1, .dat k13b x7 []), (6, .dat k13i x8 [⟨0, 385, 0, 3⟩]), (7, .dat k13b x9 [])] []
def Zfu1 (x1 : ByteArray) (x2 : Int) (x3 : D13o) (x4 : Int) : St := mk [(0, .dat .str x1 []), (1, .dat k13b x2 []), (6, .dat k13i x3 [⟨0, 385, 0, 3⟩]), (7, .dat k13b x4 [])] []
def Zy5 : Code := (rgt (rgt (rgt (rgt (rgt Zo2)))))
def Zsr (m0 n : Nat) : Int → D13o → Int → Option D13v := fun x7 x8 x9 => ej Zrr n (.tail Zy5) 0 (Zeu1 x7 x8 x9) Zp2
theorem Zel1 (m0 n : Nat) : Zsr m0 (n + 1) = Zya.S1 := by kernel_rfl
theorem Zn41 (m0 : Nat) : ∀ n : Nat, Zsr m0 n = Zya.t1 n :=
  ind rfl fun n _ => Zel1 m0 n
def Zo41 (m0 : Nat) : K (ResD Ziw) := sqK Zrr m0 Zy5 0 Zp2
def Zp41 (m0 : Nat) : K (ResD Ziw) := Zqa 0 (Zo41 m0)
def Zgu1 : Code := (lft (lft (lft (rgt (rgt (rgt (rgt Zo2)))))))
def Ztr (m0 n : Nat) : ByteArray → Int → D13o → Int → Option D13v := fun x1 x2 x3 x4 => ej Zrr n (.loop Zgu1) 0 (Zfu1 x1 x2 x3 x4) (Zp41 m0)
theorem Zfl1 (m0 n : Nat) : Ztr m0 (n + 1) = Zya.S0 (Zsr m0 m0) (Ztr m0 n) := by kernel_rfl
theorem Zq41 (m0 : Nat) : ∀ n : Nat, Ztr m0 n = Zya.l0 (Zsr m0 m0) n :=
  ind rfl fun n e0 => (Zfl1 m0 n).trans (by rw [e0]; rfl)
theorem Zsd2 (m0 : Nat) (x : ArgsD Zdu1) : run Zrr Zo2 m0 x Zp2 = Zya.S (Ztr m0 m0) x.1 x.2.1 := by kernel_rfl
abbrev Zm4 : AM.Spec := AM.spec Zdu1 Ziw (fun x => Zya x.1 x.2.1)
theorem Zhu1 : Zj Tryz.prog 129 Zm4 := ctrC tabOk (fn := Tryz.f129) (show ∀ x, run Zrr Zo2 fu x Zp2 = _ from fun x => by
  have e1 : Zsr fu fu = Zya.t1 fu := Zn41 fu fu
  have e0 : Ztr fu fu = Zya.l0 (Zya.t1 fu) fu := by rw [← e1]; exact Zq41 fu fu
  refine (Zsd2 fu x).trans ?_
  rw [e0]; rfl) (Zi ⟨⟨Zqr, Tryz.call150, fun _ => Zg rfl⟩, ⟨⟨Zx9, Tryz.call106, fun _ => Zg rfl⟩, trivial⟩⟩)
abbrev Ziu1 : Env := tab.env (AM.look []) ⟨[], [], [], ⟨tt [4, 5], []⟩, [], [], [], []⟩
def Zzj2 : Code := bd Tryz.f190
abbrev Zkb1 : List (Ty × List Tag) := [((.int .u64), []), ((.int .u64), [])]
abbrev Zak2 : List PK := [.val (.int .u64), .val (.int .u64)]
abbrev Zbk2 : K (ResD Zkb1) := fin Ziu1 [.tmp 4, .tmp 5] [] Zkb1
abbrev Zeh1 : AM.Spec := AM.spec Zak2 Zkb1 (fun x => some (Ztl x.1 x.2.1))
theorem Zck2 : Zj Tryz.prog 190 Zeh1 := ctrC tabOk (fn := Tryz.f190) (show ∀ x, run Ziu1 Zzj2 fu x Zbk2 = _ from fun x => by kernel_rfl) (Zi trivial)
abbrev Zju1 : Env := tab.env (AM.look [(190, Zeh1)]) ⟨[], [], [], ⟨tt [4, 5], []⟩, [], [190], [], []⟩
def Zdk2 : Code := bd Tryz.f177
abbrev Zlb1 : List (Ty × List Tag) := [((.int .u64), []), ((.int .u64), [])]
abbrev Zek2 : List PK := [.val (.int .u64), .val (.int .u64)]
abbrev Zfk2 : K (ResD Zlb1) := fin Zju1 [.tmp 4, .tmp 5] [] Zlb1
abbrev Zfh1 : AM.Spec := AM.spec Zek2 Zlb1 (fun x => some (Zmk x.1 x.2.1))
theorem Zgk2 : Zj Tryz.prog 177 Zfh1 := ctrC tabOk (fn := Tryz.f177) (show ∀ x, run Zju1 Zdk2 fu x Zfk2 = _ from fun x => by kernel_rfl) (Zi ⟨⟨Zck2, Tryz.call190, fun _ => Zg rfl⟩, trivial⟩)
abbrev Zur : Env := tab.env (AM.look [(177, Zfh1)]) ⟨[(0, ⟨tt [7, 8], tt [30]⟩)], [], [(3, ⟨tt [0, 1], []⟩), (6, ⟨tt [0, 6], []⟩)], ⟨tt [4], tt [30]⟩, [4, 7, 30, 31, 35, 39, 41, 42, 44, 47], [177], [], []⟩
def Zjw : Code := bd Tryz.f151
abbrev Zkw : List (Ty × List Tag) := [(k13c, [])]
abbrev Zku1 : List PK := [.val k13c, .val k13b]
abbrev Zq2 : K (ResD Zkw) := fin Zur [.tmp 4] [] Zkw
def Zlu1 (x6 : Int) (x7 : D13a) : St := mk [(7, .slw 30 0), (8, .dat k13b x6 [])] [(30, some (.arr k13b x7 false))]
def Zmu1 (x4 : D13a) (x5 : Int) : St := mk [(0, .dat k13c x4 []), (6, .dat (.int .u64) x5 [])] []
def Znu1 (x1 : D13a) (x2 : Int) : St := mk [(0, .dat k13c x1 []), (1, .dat k13b x2 [])] []
def Zou1 : Code := (rgt (rgt (rgt (rgt (rgt (rgt (rgt Zjw)))))))
def Zr41 (m0 m1 m2 : Nat) : K (ResD Zkw) := sqK Zur m2 Zou1 0 Zq2
def Zs41 (m0 m1 m2 : Nat) : K (ResD Zkw) := Zqa 0 (Zr41 m0 m1 m2)
def Zpu1 : Code := (lft (lft (lft (rgt (rgt (rgt (rgt (rgt (rgt Zjw)))))))))
def Zvr (m0 m1 : Nat) (m2 n : Nat) : Int → D13a → Option D13d := fun x6 x7 => ej Zur n (.loop Zpu1) 0 (Zlu1 x6 x7) (Zs41 m0 m1 m2)
theorem Zgl1 (m0 m1 : Nat) (m2 n : Nat) : Zvr m0 m1 m2 (n + 1) = Zp.S2 (Zvr m0 m1 m2 n) := by kernel_rfl
theorem Zt41 (m0 m1 m2 : Nat) : ∀ n : Nat, Zvr m0 m1 m2 n = Zp.l2 n :=
  ind rfl fun n e2 => (Zgl1 m0 m1 m2 n).trans (by rw [e2]; rfl)
def Zqu1 : Code := (rgt (rgt (rgt (rgt Zjw))))
def Zly (m0 n : Nat) : D13a → Int → Option D13d := fun x4 x5 => ej Zur n (.tail Zqu1) 0 (Zmu1 x4 x5) Zq2
theorem Zhl1 (m0 m1 n : Nat) : Zly m0 (n + 1) = Zp.S1 (Zvr m0 m1 n n) := by kernel_rfl
theorem Zu41 (m0 m1 : Nat) : ∀ n : Nat, Zly m0 n = Zp.t1 n :=
  ind rfl fun n e1 => by
    have e2 : Zvr m0 m1 n n = Zp.l2 n := Zt41 m0 m1 n n
    rw [Zhl1 m0 m1 n, e2]; rfl
def Zru1 : Code := (rgt (rgt Zjw))
def Zn4 (m0 n : Nat) : D13a → Int → Option D13d := fun x1 x2 => ej Zur n (.tail Zru1) 0 (Znu1 x1 x2) Zq2
theorem Zil1 (m0 n : Nat) : Zn4 m0 (n + 1) = Zp.S0 (Zly m0 n) := by kernel_rfl
theorem Zv41 (m0 : Nat) : ∀ n : Nat, Zn4 m0 n = Zp.t0 n :=
  ind rfl fun n e0 => by
    have e1 : Zly m0 n = Zp.t1 n := Zu41 m0 n n
    rw [Zil1 m0 n, e1]; rfl
theorem Ztd2 (m0 : Nat) (x : ArgsD Zku1) : run Zur Zjw m0 x Zq2 = Zp.S (Zn4 m0 m0) x.1 x.2.1 := by kernel_rfl
abbrev Zgh1 : AM.Spec := AM.spec Zku1 Zkw (fun x => Zp x.1 x.2.1)
theorem Zhk2 : Zj Tryz.prog 151 Zgh1 := ctrC tabOk (fn := Tryz.f151) (fun x => (Ztd2 fu x).trans (by rw [Zv41 fu fu]; rfl)) (Zi ⟨⟨Zgk2, Tryz.call177, fun _ => Zg rfl⟩, trivial⟩)
abbrev Zr2 : Env := tab.env (AM.look [(106, Zey), (151, Zgh1)]) ⟨[(0, ⟨tt [6, 18, 19, 20], []⟩)], [], [], ⟨tt [2, 3], []⟩, [], [106], [], []⟩
def Zmb1 : Code := bd Tryz.f130
abbrev Zlw : List (Ty × List Tag) := [(k13c, [⟨0, 1, 0, 1⟩]), (k13b, [])]
abbrev Zsu1 : List PK := [.val k13i]
abbrev Ztu1 : K (ResD Zlw) := fin Zr2 [.tmp 2, .tmp 3] [] Zlw
def Zuu1 (x2 : D13a) (x3 : D13o) (x4 x5 : Int) : St := mk [(6, .dat k13c x2 [⟨0, 385, 0, 1⟩]), (18, .dat k13i x3 []), (19, .dat k13b x4 []), (20, .dat k13b x5 [])] []
def Zvu1 : Code := (rgt (rgt (rgt (rgt (rgt Zmb1)))))
def Zw41 (m0 : Nat) : K (ResD Zlw) := sqK Zr2 m0 Zvu1 0 Ztu1
def Zx41 (m0 : Nat) : K (ResD Zlw) := Zqa 0 (Zw41 m0)
def Zwu1 : Code := (lft (lft (rgt (lft (rgt (rgt (rgt (rgt Zmb1))))))))
def Zmy (m0 n : Nat) : D13a → D13o → Int → Int → Option D13h := fun x2 x3 x4 x5 => ej Zr2 n (.loop Zwu1) 0 (Zuu1 x2 x3 x4 x5) (Zx41 m0)
theorem Zjl1 (m0 n : Nat) : Zmy m0 (n + 1) = Zoc.S0 (Zmy m0 n) := by kernel_rfl
theorem Zy41 (m0 : Nat) : ∀ n : Nat, Zmy m0 n = Zoc.l0 n :=
  ind rfl fun n e0 => (Zjl1 m0 n).trans (by rw [e0]; rfl)
theorem Zud2 (m0 : Nat) (x : ArgsD Zsu1) : run Zr2 Zmb1 m0 x Ztu1 = Zoc.S (Zmy m0 m0) x.1 := by kernel_rfl
abbrev Zo4 : AM.Spec := AM.spec Zsu1 Zlw (fun x => Zoc x.1)
theorem Zxu1 : Zj Tryz.prog 130 Zo4 := ctrC tabOk (fn := Tryz.f130) (fun x => (Zud2 fu x).trans (by rw [Zy41 fu fu]; rfl)) (Zi ⟨⟨Zx9, Tryz.call106, fun _ => Zg rfl⟩, ⟨⟨Zhk2, Tryz.call151, nw⟩, trivial⟩⟩)
abbrev Zyu1 : Env := tab.env (AM.look [(150, Znm)]) ⟨[], [], [], ⟨tt [2], tt [1000000, 1000001]⟩, [], [150], [], []⟩
def Zik2 : Code := bd Tryz.f152
abbrev Znb1 : List (Ty × List Tag) := [(k13b, []), (.str, []), (.bool, [])]
abbrev Zjk2 : List PK := [.io .str [], .io .bool []]
abbrev Zkk2 : K (ResD Znb1) := fin Zyu1 [.tmp 2] [.io .str [], .io .bool []] Znb1
abbrev Zhh1 : AM.Spec := AM.Zdf 1 Zjk2 Znb1 (fun x => Zpe x.1 x.2.1)
theorem Zlk2 : Zj Tryz.prog 152 Zhh1 := ctrI tabOk (fn := Tryz.f152) (show ∀ x, run Zyu1 Zik2 fu x Zkk2 = _ from fun x => by kernel_rfl) (Zi ⟨⟨Zqr, Tryz.call150, fun _ => Zg rfl⟩, trivial⟩)
abbrev Zzu1 : Env := tab.env (AM.look []) ⟨[], [], [], ⟨tt [4], []⟩, [], [], [], []⟩
def Zmk2 : Code := bd Tryz.f153
abbrev Zob1 : List (Ty × List Tag) := [(k13b, [])]
abbrev Znk2 : List PK := [.val k13b, .val k13b]
abbrev Zok2 : K (ResD Zob1) := fin Zzu1 [.tmp 4] [] Zob1
abbrev Zih1 : AM.Spec := AM.spec Znk2 Zob1 (fun x => some (Zhh x.1 x.2.1))
theorem Zpk2 : Zj Tryz.prog 153 Zih1 := ctrC tabOk (fn := Tryz.f153) (show ∀ x, run Zzu1 Zmk2 fu x Zok2 = _ from fun x => by kernel_rfl) (Zi trivial)
abbrev Zwr : Env := tab.env (AM.look [(152, Zhh1), (126, Zno), (153, Zih1), (76, Zfa1)]) ⟨[(0, ⟨tt [0, 6, 8, 10, 54, 55, 56], tt [8]⟩)], [], [(8, ⟨tt [0, 1, 6, 7, 8, 9], tt [7, 8]⟩), (20, ⟨tt [0, 6, 8], tt [8]⟩)], ⟨tt [4, 5], []⟩, [24], [76, 152, 153], [], []⟩
def Zs2 : Code := bd Tryz.f131
abbrev Zmw : List (Ty × List Tag) := [(k13c, [⟨0, 1, 0, 1⟩]), (k13b, [])]
abbrev Zav1 : List PK := [.val .str, .val k13b]
abbrev Zt2 : K (ResD Zmw) := fin Zwr [.tmp 4, .tmp 5] [] Zmw
def Zbv1 (x18 : ByteArray) (x19 : D13a) (x20 : Bool) : St := mk [(0, .dat .str x18 []), (6, .dat k13c x19 [⟨0, 385, 0, 1⟩]), (8, .ptr 8 0 0)] [(8, some (.var .bool x20 []))]
def Zcv1 (x9 : ByteArray) (x10 : D13a) (x11 : Int) (x12 : D13a) (x13 x14 : Int) (x15 : Bool) : St := mk [(0, .dat .str x9 []), (6, .dat k13c x10 [⟨0, 385, 0, 1⟩]), (8, .ptr 8 0 0), (10, .dat k13b x11 []), (54, .dat k13c x12 []), (55, .dat k13b x13 []), (56, .dat k13b x14 [])] [(8, some (.var .bool x15 []))]
def Zdv1 (x2 : ByteArray) (x3 : Int) (x4 : D13a) (x5 : ByteArray) (x6 : Bool) : St := mk [(0, .dat .str x2 []), (1, .dat k13b x3 []), (6, .dat k13c x4 [⟨0, 385, 0, 1⟩]), (7, .ptr 7 0 0), (8, .ptr 8 0 0), (9, .clo 152 [(7, 0), (8, 0)])] [(7, some (.var .str x5 [])), (8, some (.var .bool x6 []))]
def Zz5 : Code := (rgt (rgt (rgt (rgt (rgt (rgt (rgt Zs2)))))))
def Zoo (m0 n : Nat) : ByteArray → D13a → Bool → Option D13h := fun x18 x19 x20 => ej Zwr n (.tail Zz5) 0 (Zbv1 x18 x19 x20) Zt2
theorem Zkl1 (m0 m1 n : Nat) : Zoo m0 (n + 1) = Zz.S2 := by kernel_rfl
theorem Zz41 (m0 m1 : Nat) : ∀ n : Nat, Zoo m0 n = Zz.t2 n :=
  ind rfl fun n _ => Zkl1 m0 m1 n
def Za51 (m0 m1 : Nat) : K (ResD Zmw) := sqK Zwr m1 Zz5 0 Zt2
def Zb51 (m0 m1 : Nat) : K (ResD Zmw) := Zqa 0 (Za51 m0 m1)
def Zev1 : Code := (lft (lft (rgt (rgt (rgt (rgt (rgt (lft (rgt (lft (rgt (rgt (rgt (rgt (rgt (rgt Zs2))))))))))))))))
def Zxr (m0 m1 n : Nat) : ByteArray → D13a → Int → D13a → Int → Int → Bool → Option D13h := fun x9 x10 x11 x12 x13 x14 x15 => ej Zwr n (.loop Zev1) 0 (Zcv1 x9 x10 x11 x12 x13 x14 x15) (Zb51 m0 m1)
theorem Zll1 (m0 m1 n : Nat) : Zxr m0 m1 (n + 1) = Zz.S1 (Zoo m0 m1) (Zxr m0 m1 n) := by kernel_rfl
theorem Zc51 (m0 m1 : Nat) : ∀ n : Nat, Zxr m0 m1 n = Zz.l1 (Zoo m0 m1) n :=
  ind rfl fun n e1 => (Zll1 m0 m1 n).trans (by rw [e1]; rfl)
def Zfv1 : Code := (rgt (rgt (rgt (rgt (rgt (rgt Zs2))))))
def Zp4 (m0 n : Nat) : ByteArray → Int → D13a → ByteArray → Bool → Option D13h := fun x2 x3 x4 x5 x6 => ej Zwr n (.tail Zfv1) 0 (Zdv1 x2 x3 x4 x5 x6) Zt2
theorem Zml1 (m0 n : Nat) : Zp4 m0 (n + 1) = Zz.S0 (Zxr m0 n n) (Zoo m0 n) := by kernel_rfl
theorem Zd51 (m0 : Nat) : ∀ n : Nat, Zp4 m0 n = Zz.t0 n :=
  ind rfl fun n e0 => by
    have e2 : Zoo m0 n = Zz.t2 n := Zz41 m0 n n
    have e1 : Zxr m0 n n = Zz.l1 (Zz.t2 n) n := by rw [← e2]; exact Zc51 m0 n n
    rw [Zml1 m0 n, e1, e2]; rfl
theorem Zvd2 (m0 : Nat) (x : ArgsD Zav1) : run Zwr Zs2 m0 x Zt2 = Zz.S (Zp4 m0 m0) x.1 x.2.1 := by kernel_rfl
abbrev Zjh1 : AM.Spec := AM.spec Zav1 Zmw (fun x => Zz x.1 x.2.1)
theorem Zqk2 : Zj Tryz.prog 131 Zjh1 := ctrC tabOk (fn := Tryz.f131) (fun x => (Zvd2 fu x).trans (by rw [Zd51 fu fu]; rfl)) (Zi ⟨⟨Zlk2, Tryz.call152, fun _ => Zs71 rfl⟩, ⟨⟨Zfw, Tryz.call126, nw⟩, ⟨⟨Zpk2, Tryz.call153, fun _ => Zg rfl⟩, ⟨⟨c_f76, Tryz.call76, fun _ => Zg rfl⟩, trivial⟩⟩⟩⟩)
abbrev Zgv1 : Env := tab.env (AM.look [(150, Znm)]) ⟨[], [], [], ⟨tt [2, 3], []⟩, [], [150], [], []⟩
def Zrk2 : Code := bd Tryz.f155
abbrev Zpb1 : List (Ty × List Tag) := [(k13b, []), (k13b, [])]
abbrev Zsk2 : List PK := [.val .str]
abbrev Ztk2 : K (ResD Zpb1) := fin Zgv1 [.tmp 2, .tmp 3] [] Zpb1
abbrev Zkh1 : AM.Spec := AM.spec Zsk2 Zpb1 (fun x => Zki x.1)
theorem Zuk2 : Zj Tryz.prog 155 Zkh1 := ctrC tabOk (fn := Tryz.f155) (show ∀ x, run Zgv1 Zrk2 fu x Ztk2 = _ from fun x => by kernel_rfl) (Zi ⟨⟨Zqr, Tryz.call150, fun _ => Zg rfl⟩, trivial⟩)
abbrev Zu2 : Env := tab.env (AM.look []) ⟨[(0, ⟨tt [0, 1, 7, 8], []⟩)], [], [], ⟨tt [4], []⟩, [], [], [], []⟩
def Zqb1 : Code := bd Tryz.f191
abbrev Znw : List (Ty × List Tag) := [(k13b, [])]
abbrev Zhv1 : List PK := [.val (.sl .bool), .val .bool]
abbrev Ziv1 : K (ResD Znw) := fin Zu2 [.tmp 4] [] Znw
def Zjv1 (x1 : D13c) (x2 : Bool) (x3 x4 : Int) : St := mk [(0, .dat (.sl .bool) x1 []), (1, .dat .bool x2 []), (7, .dat k13b x3 []), (8, .dat k13b x4 [])] []
def Zkv1 : Code := (rgt (rgt Zqb1))
def Ze51 (m0 : Nat) : K (ResD Znw) := sqK Zu2 m0 Zkv1 0 Ziv1
def Zf51 (m0 : Nat) : K (ResD Znw) := Zqa 0 (Ze51 m0)
def Zlv1 : Code := (lft (lft (rgt (lft (rgt Zqb1)))))
def Zny (m0 n : Nat) : D13c → Bool → Int → Int → Option Int := fun x1 x2 x3 x4 => ej Zu2 n (.loop Zlv1) 0 (Zjv1 x1 x2 x3 x4) (Zf51 m0)
theorem Znl1 (m0 n : Nat) : Zny m0 (n + 1) = Zka.S0 (Zny m0 n) := by kernel_rfl
theorem Zg51 (m0 : Nat) : ∀ n : Nat, Zny m0 n = Zka.l0 n :=
  ind rfl fun n e0 => (Znl1 m0 n).trans (by rw [e0]; rfl)
theorem Zwd2 (m0 : Nat) (x : ArgsD Zhv1) : run Zu2 Zqb1 m0 x Ziv1 = Zka.S (Zny m0 m0) x.1 x.2.1 := by kernel_rfl
abbrev Zlh1 : AM.Spec := AM.spec Zhv1 Znw (fun x => Zka x.1 x.2.1)
theorem Zvk2 : Zj Tryz.prog 191 Zlh1 := ctrC tabOk (fn := Tryz.f191) (fun x => (Zwd2 fu x).trans (by rw [Zg51 fu fu]; rfl)) (Zi trivial)
abbrev Zmv1 : Env := tab.env (AM.look [(191, Zlh1)]) ⟨[], [], [], ⟨tt [4], []⟩, [], [191], [], []⟩
def Zwk2 : Code := bd Tryz.f178
abbrev Zrb1 : List (Ty × List Tag) := [(.bool, [])]
abbrev Zxk2 : List PK := [.val (.sl .bool), .val .bool]
abbrev Zyk2 : K (ResD Zrb1) := fin Zmv1 [.tmp 4] [] Zrb1
abbrev Zq4 : AM.Spec := AM.spec Zxk2 Zrb1 (fun x => Zwc x.1 x.2.1)
theorem Znv1 : Zj Tryz.prog 178 Zq4 := ctrC tabOk (fn := Tryz.f178) (show ∀ x, run Zmv1 Zwk2 fu x Zyk2 = _ from fun x => by kernel_rfl) (Zi ⟨⟨Zvk2, Tryz.call191, fun _ => Zg rfl⟩, trivial⟩)
abbrev Zwl : Env := tab.env (AM.look [(150, Znm), (155, Zkh1), (70, Znn), (126, Zno), (178, Zq4)]) ⟨[(0, ⟨tt [0, 1, 2, 9, 10, 12, 47, 48], []⟩), (2, ⟨tt [9, 12, 16, 17, 98, 99, 100], tt [97]⟩)], [], [(20, ⟨tt [0, 1, 9, 10, 12], []⟩), (31, ⟨tt [12, 16, 17], tt [97]⟩)], ⟨tt [6, 7, 8], []⟩, [17, 97, 111, 115], [70, 150, 155, 178], [], [89]⟩
def Zyr : Code := bd Tryz.f154
abbrev Zzo : List (Ty × List Tag) := [(k13c, [⟨0, 1, 0, 1⟩]), (k13c, []), (k13b, [])]
abbrev Zov1 : List PK := [.val .str, .val k13b, .fn 155 []]
abbrev Zzr : K (ResD Zzo) := fin Zwl [.tmp 6, .tmp 7, .tmp 8] [] Zzo
def Zpv1 (x24 x25 : D13a) (x26 : D13c) : St := mk [(12, .dat k13c x24 [⟨0, 769, 0, 1⟩]), (16, .dat k13c x25 []), (17, .slw 97 0)] [(97, some (.arr .bool x26 false))]
def Zqv1 (x17 : Int) (x18 x19 x20 : D13a) (x21 x22 : Int) (x23 : D13c) : St := mk [(9, .dat k13b x17 []), (12, .dat k13c x18 [⟨0, 769, 0, 1⟩]), (16, .dat k13c x19 []), (17, .slw 97 0), (98, .dat k13c x20 []), (99, .dat k13b x21 []), (100, .dat k13b x22 [])] [(97, some (.arr .bool x23 false))]
def Zrv1 (x10 : ByteArray) (x11 x12 x13 : Int) (x14 : D13a) : St := mk [(0, .dat .str x10 []), (1, .dat k13b x11 []), (9, .dat k13b x12 []), (10, .dat k13b x13 []), (12, .dat k13c x14 [⟨0, 769, 0, 1⟩])] []
def Zsv1 (x2 : ByteArray) (x3 x4 x5 : Int) (x6 : D13a) (x7 x8 : Int) : St := mk [(0, .dat .str x2 []), (1, .dat k13b x3 []), (2, .fn 155 []), (9, .dat k13b x4 []), (10, .dat k13b x5 []), (12, .dat k13c x6 [⟨0, 769, 0, 1⟩]), (47, .dat k13b x7 []), (48, .dat k13b x8 [])] []
def Za6 : Code := (rgt (rgt (rgt (rgt (rgt (rgt (rgt (rgt (rgt (rgt (rgt Zyr)))))))))))
def Zas (m0 n : Nat) : D13a → D13a → D13c → Option D13s := fun x24 x25 x26 => ej Zwl n (.tail Za6) 0 (Zpv1 x24 x25 x26) Zzr
theorem Zol1 (m0 m1 n : Nat) : Zas m0 (n + 1) = Zb.S3 := by kernel_rfl
theorem Zh51 (m0 m1 : Nat) : ∀ n : Nat, Zas m0 n = Zb.t3 n :=
  ind rfl fun n _ => Zol1 m0 m1 n
def Zi51 (m0 m1 : Nat) : K (ResD Zzo) := sqK Zwl m1 Za6 0 Zzr
def Zj51 (m0 m1 : Nat) : K (ResD Zzo) := Zqa 2 (Zi51 m0 m1)
def Ztv1 : Code := (lft (lft (rgt (lft (rgt (rgt (rgt (rgt (rgt (rgt (rgt (rgt (rgt (rgt Zyr))))))))))))))
def Zbs (m0 m1 n : Nat) : Int → D13a → D13a → D13a → Int → Int → D13c → Option D13s := fun x17 x18 x19 x20 x21 x22 x23 => ej Zwl n (.loop Ztv1) 2 (Zqv1 x17 x18 x19 x20 x21 x22 x23) (Zj51 m0 m1)
theorem Zpl1 (m0 m1 n : Nat) : Zbs m0 m1 (n + 1) = Zb.S2 (Zas m0 m1) (Zbs m0 m1 n) := by kernel_rfl
theorem Zk51 (m0 m1 : Nat) : ∀ n : Nat, Zbs m0 m1 n = Zb.l2 (Zas m0 m1) n :=
  ind rfl fun n e2 => (Zpl1 m0 m1 n).trans (by rw [e2]; rfl)
def Zb6 : Code := (rgt (rgt (rgt (rgt (rgt (rgt (rgt Zyr)))))))
def Zcs (m0 n : Nat) : ByteArray → Int → Int → Int → D13a → Option D13s := fun x10 x11 x12 x13 x14 => ej Zwl n (.tail Zb6) 0 (Zrv1 x10 x11 x12 x13 x14) Zzr
theorem Zql1 (m0 n : Nat) : Zcs m0 (n + 1) = Zb.S1 (Zbs m0 n n) := by kernel_rfl
theorem Zl51 (m0 : Nat) : ∀ n : Nat, Zcs m0 n = Zb.t1 n :=
  ind rfl fun n e1 => by
    have e3 : Zas m0 n = Zb.t3 n := Zh51 m0 n n
    have e2 : Zbs m0 n n = Zb.l2 (Zb.t3 n) n := by rw [← e3]; exact Zk51 m0 n n
    rw [Zql1 m0 n, e2]; rfl
def Zm51 (m0 : Nat) : K (ResD Zzo) := sqK Zwl m0 Zb6 0 Zzr
def Zn51 (m0 : Nat) : K (ResD Zzo) := Zqa 0 (Zm51 m0)
def Zuv1 : Code := (lft (lft (rgt (lft (rgt (rgt (rgt (rgt (rgt (rgt Zyr))))))))))
def Zds (m0 n : Nat) : ByteArray → Int → Int → Int → D13a → Int → Int → Option D13s := fun x2 x3 x4 x5 x6 x7 x8 => ej Zwl n (.loop Zuv1) 0 (Zsv1 x2 x3 x4 x5 x6 x7 x8) (Zn51 m0)
theorem Zrl1 (m0 n : Nat) : Zds m0 (n + 1) = Zb.S0 (Zcs m0 m0) (Zds m0 n) := by kernel_rfl
theorem Zo51 (m0 : Nat) : ∀ n : Nat, Zds m0 n = Zb.l0 (Zcs m0 m0) n :=
  ind rfl fun n e0 => (Zrl1 m0 n).trans (by rw [e0]; rfl)
theorem Zxd2 (m0 : Nat) (x : ArgsD Zov1) : run Zwl Zyr m0 x Zzr = Zb.S (Zds m0 m0) x.1 x.2.1 := by kernel_rfl
abbrev Zmh1 : AM.Spec := AM.spec Zov1 Zzo (fun x => Zb x.1 x.2.1)
theorem Zzk2 : Zj Tryz.prog 154 Zmh1 := ctrC tabOk (fn := Tryz.f154) (show ∀ x, run Zwl Zyr fu x Zzr = _ from fun x => by
  have e1 : Zcs fu fu = Zb.t1 fu := Zl51 fu fu
  have e0 : Zds fu fu = Zb.l0 (Zb.t1 fu) fu := by rw [← e1]; exact Zo51 fu fu
  refine (Zxd2 fu x).trans ?_
  rw [e0]; rfl) (Zi ⟨⟨Zqr, Tryz.call150, fun _ => Zg rfl⟩, ⟨⟨Zuk2, Tryz.call155, fun _ => Zg rfl⟩, ⟨⟨c_f70, Tryz.call70, fun _ => Zg rfl⟩, ⟨⟨Zfw, Tryz.call126, nw⟩, ⟨⟨Znv1, Tryz.call178, fun _ => Zg rfl⟩, trivial⟩⟩⟩⟩⟩)
abbrev Zv2 : Env := tab.env (AM.look []) ⟨[(0, ⟨tt [0, 5, 8, 9, 10], []⟩)], [], [], ⟨tt [4], []⟩, [], [], [], []⟩
def Zsb1 : Code := bd Tryz.f156
abbrev Zow : List (Ty × List Tag) := [(k13c, [⟨0, 1, 0, 1⟩])]
abbrev Zvv1 : List PK := [.val k13c, .val k13c]
abbrev Zwv1 : K (ResD Zow) := fin Zv2 [.tmp 4] [] Zow
def Zxv1 (x1 x2 x3 : D13a) (x4 x5 : Int) : St := mk [(0, .dat k13c x1 []), (5, .dat k13c x2 [⟨0, 321, 0, 1⟩]), (8, .dat k13c x3 []), (9, .dat k13b x4 []), (10, .dat k13b x5 [])] []
def Zyv1 : Code := (rgt (rgt (rgt Zsb1)))
def Zp51 (m0 : Nat) : K (ResD Zow) := sqK Zv2 m0 Zyv1 0 Zwv1
def Zq51 (m0 : Nat) : K (ResD Zow) := Zqa 0 (Zp51 m0)
def Zzv1 : Code := (lft (lft (rgt (lft (rgt (rgt Zsb1))))))
def Zoy (m0 n : Nat) : D13a → D13a → D13a → Int → Int → Option D13d := fun x1 x2 x3 x4 x5 => ej Zv2 n (.loop Zzv1) 0 (Zxv1 x1 x2 x3 x4 x5) (Zq51 m0)
theorem Zsl1 (m0 n : Nat) : Zoy m0 (n + 1) = Zyb.S0 (Zoy m0 n) := by kernel_rfl
theorem Zr51 (m0 : Nat) : ∀ n : Nat, Zoy m0 n = Zyb.l0 n :=
  ind rfl fun n e0 => (Zsl1 m0 n).trans (by rw [e0]; rfl)
theorem Zyd2 (m0 : Nat) (x : ArgsD Zvv1) : run Zv2 Zsb1 m0 x Zwv1 = Zyb.S (Zoy m0 m0) x.1 x.2.1 := by kernel_rfl
abbrev Znh1 : AM.Spec := AM.spec Zvv1 Zow (fun x => Zyb x.1 x.2.1)
theorem Zal2 : Zj Tryz.prog 156 Znh1 := ctrC tabOk (fn := Tryz.f156) (fun x => (Zyd2 fu x).trans (by rw [Zr51 fu fu]; rfl)) (Zi trivial)
abbrev Zaw1 : Env := tab.env (AM.look [(154, Zmh1), (156, Znh1)]) ⟨[], [], [], ⟨tt [4, 5], []⟩, [], [], [], []⟩
def Zbl2 : Code := bd Tryz.f132
abbrev Ztb1 : List (Ty × List Tag) := [(k13c, [⟨0, 1, 0, 1⟩]), (k13b, [])]
abbrev Zcl2 : List PK := [.val .str, .val k13b]
abbrev Zdl2 : K (ResD Ztb1) := fin Zaw1 [.tmp 4, .tmp 5] [] Ztb1
abbrev Zoh1 : AM.Spec := AM.spec Zcl2 Ztb1 (fun x => Znk x.1 x.2.1)
theorem Zel2 : Zj Tryz.prog 132 Zoh1 := ctrC tabOk (fn := Tryz.f132) (show ∀ x, run Zaw1 Zbl2 fu x Zdl2 = _ from fun x => by kernel_rfl) (Zi ⟨⟨Zzk2, Tryz.call154, nw⟩, ⟨⟨Zal2, Tryz.call156, nw⟩, trivial⟩⟩)
abbrev E_f96 : Env := tab.env (AM.look [(128, Zbh1), (129, Zm4), (130, Zo4), (131, Zjh1), (132, Zoh1), (126, Zno)]) ⟨[], [], [], ⟨tt [6, 7], []⟩, [], [], [], []⟩
def b_f96 : Code := bd Tryz.f96
abbrev R_f96 : List (Ty × List Tag) := [(k13c, []), (k13b, [])]
abbrev P_f96 : List PK := [.val .str, .val k13b, .val k13b]
abbrev K_f96 : K (ResD R_f96) := fin E_f96 [.tmp 6, .tmp 7] [] R_f96
abbrev Zbw1 : AM.Spec := AM.spec P_f96 R_f96 (fun x => Zul x.1 x.2.1 x.2.2.1)
theorem c_f96 : Zj Tryz.prog 96 Zbw1 := ctrC tabOk (fn := Tryz.f96) (show ∀ x, run E_f96 b_f96 fu x K_f96 = _ from fun x => by kernel_rfl) (Zi ⟨⟨Zqj2, Tryz.call128, nw⟩, ⟨⟨Zhu1, Tryz.call129, nw⟩, ⟨⟨Zxu1, Tryz.call130, nw⟩, ⟨⟨Zqk2, Tryz.call131, nw⟩, ⟨⟨Zel2, Tryz.call132, nw⟩, ⟨⟨Zfw, Tryz.call126, nw⟩, trivial⟩⟩⟩⟩⟩⟩)
abbrev Zes : Env := tab.env (AM.look []) ⟨[(0, ⟨tt [0, 1, 6], []⟩)], [], [(8, ⟨tt [1, 6], []⟩)], ⟨tt [4, 5], []⟩, [], [], [], []⟩
def Zw2 : Code := bd Tryz.f133
abbrev Zpw : List (Ty × List Tag) := [(k13a, [⟨0, 1, 0, 1⟩]), (k13b, [])]
abbrev Zcw1 : List PK := [.val .str, .val k13b]
abbrev Zx2 : K (ResD Zpw) := fin Zes [.tmp 4, .tmp 5] [] Zpw
def Zdw1 (x4 : Int) (x5 : D13e) : St := mk [(1, .dat k13b x4 []), (6, .dat k13a x5 [⟨0, 385, 0, 1⟩])] []
def Zew1 (x1 : ByteArray) (x2 : Int) (x3 : D13e) : St := mk [(0, .dat .str x1 []), (1, .dat k13b x2 []), (6, .dat k13a x3 [⟨0, 385, 0, 1⟩])] []
def Zc6 : Code := (rgt (rgt (rgt Zw2)))
def Zfs (m0 n : Nat) : Int → D13e → Option D13l := fun x4 x5 => ej Zes n (.tail Zc6) 0 (Zdw1 x4 x5) Zx2
theorem Ztl1 (m0 n : Nat) : Zfs m0 (n + 1) = Zda.S1 := by kernel_rfl
theorem Zs51 (m0 : Nat) : ∀ n : Nat, Zfs m0 n = Zda.t1 n :=
  ind rfl fun n _ => Ztl1 m0 n
def Zt51 (m0 : Nat) : K (ResD Zpw) := sqK Zes m0 Zc6 0 Zx2
def Zu51 (m0 : Nat) : K (ResD Zpw) := Zqa 0 (Zt51 m0)
def Zfw1 : Code := (lft (lft (lft (rgt (rgt Zw2)))))
def Zgs (m0 n : Nat) : ByteArray → Int → D13e → Option D13l := fun x1 x2 x3 => ej Zes n (.loop Zfw1) 0 (Zew1 x1 x2 x3) (Zu51 m0)
theorem Zul1 (m0 n : Nat) : Zgs m0 (n + 1) = Zda.S0 (Zfs m0 m0) (Zgs m0 n) := by kernel_rfl
theorem Zv51 (m0 : Nat) : ∀ n : Nat, Zgs m0 n = Zda.l0 (Zfs m0 m0) n :=
  ind rfl fun n e0 => (Zul1 m0 n).trans (by rw [e0]; rfl)
theorem Zzd2 (m0 : Nat) (x : ArgsD Zcw1) : run Zes Zw2 m0 x Zx2 = Zda.S (Zgs m0 m0) x.1 x.2.1 := by kernel_rfl
abbrev Zph1 : AM.Spec := AM.spec Zcw1 Zpw (fun x => Zda x.1 x.2.1)
theorem Zfl2 : Zj Tryz.prog 133 Zph1 := ctrC tabOk (fn := Tryz.f133) (show ∀ x, run Zes Zw2 fu x Zx2 = _ from fun x => by
  have e1 : Zfs fu fu = Zda.t1 fu := Zs51 fu fu
  have e0 : Zgs fu fu = Zda.l0 (Zda.t1 fu) fu := by rw [← e1]; exact Zv51 fu fu
  refine (Zzd2 fu x).trans ?_
  rw [e0]; rfl) (Zi trivial)
abbrev Zrn : Env := tab.env (AM.look [(150, Znm), (129, Zm4), (130, Zo4)]) ⟨[(0, ⟨tt [0, 1, 6, 7, 9, 37, 38], []⟩), (2, ⟨tt [6, 9, 13, 91, 92, 93], []⟩)], [], [(17, ⟨tt [0, 1, 6, 7, 9], []⟩)], ⟨tt [4, 5], []⟩, [], [150], [], []⟩
def Zhs : Code := bd Tryz.f134
abbrev Zap : List (Ty × List Tag) := [(k13a, [⟨0, 1, 0, 1⟩]), (k13b, [])]
abbrev Zgw1 : List PK := [.val .str, .val k13b]
abbrev Zqw : K (ResD Zap) := fin Zrn [.tmp 4, .tmp 5] [] Zap
def Zhw1 (x16 : Int) (x17 x18 : D13e) (x19 : D13a) (x20 x21 : Int) : St := mk [(6, .dat k13b x16 []), (9, .dat k13a x17 [⟨0, 577, 0, 1⟩]), (13, .dat k13a x18 [⟨0, 833, 0, 1⟩]), (91, .dat k13c x19 [⟨0, 5825, 0, 1⟩]), (92, .dat k13b x20 []), (93, .dat k13b x21 [])] []
def Ziw1 (x9 : ByteArray) (x10 x11 x12 : Int) (x13 : D13e) : St := mk [(0, .dat .str x9 []), (1, .dat k13b x10 []), (6, .dat k13b x11 []), (7, .dat k13b x12 []), (9, .dat k13a x13 [⟨0, 577, 0, 1⟩])] []
def Zjw1 (x2 : ByteArray) (x3 x4 x5 : Int) (x6 : D13e) (x7 x8 : Int) : St := mk [(0, .dat .str x2 []), (1, .dat k13b x3 []), (6, .dat k13b x4 []), (7, .dat k13b x5 []), (9, .dat k13a x6 [⟨0, 577, 0, 1⟩]), (37, .dat k13b x7 []), (38, .dat k13b x8 [])] []
def Zkw1 : Code := (rgt (rgt (rgt (rgt (rgt (rgt (rgt (rgt (rgt (rgt (rgt (rgt Zhs))))))))))))
def Zw51 (m0 m1 : Nat) : K (ResD Zap) := sqK Zrn m1 Zkw1 0 Zqw
def Zx51 (m0 m1 : Nat) : K (ResD Zap) := Zqa 2 (Zw51 m0 m1)
def Zlw1 : Code := (lft (lft (rgt (lft (rgt (rgt (rgt (rgt (rgt (rgt (rgt (rgt (rgt (rgt (rgt Zhs)))))))))))))))
def Zis (m0 m1 n : Nat) : Int → D13e → D13e → D13a → Int → Int → Option D13l := fun x16 x17 x18 x19 x20 x21 => ej Zrn n (.loop Zlw1) 2 (Zhw1 x16 x17 x18 x19 x20 x21) (Zx51 m0 m1)
theorem Zvl1 (m0 m1 n : Nat) : Zis m0 m1 (n + 1) = Zu.S2 (Zis m0 m1 n) := by kernel_rfl
theorem Zy51 (m0 m1 : Nat) : ∀ n : Nat, Zis m0 m1 n = Zu.l2 n :=
  ind rfl fun n e2 => (Zvl1 m0 m1 n).trans (by rw [e2]; rfl)
def Zd6 : Code := (rgt (rgt (rgt (rgt (rgt (rgt Zhs))))))
def Zjs (m0 n : Nat) : ByteArray → Int → Int → Int → D13e → Option D13l := fun x9 x10 x11 x12 x13 => ej Zrn n (.tail Zd6) 0 (Ziw1 x9 x10 x11 x12 x13) Zqw
theorem Zwl1 (m0 n : Nat) : Zjs m0 (n + 1) = Zu.S1 (Zis m0 n n) := by kernel_rfl
theorem Zz51 (m0 : Nat) : ∀ n : Nat, Zjs m0 n = Zu.t1 n :=
  ind rfl fun n e1 => by
    have e2 : Zis m0 n n = Zu.l2 n := Zy51 m0 n n
    rw [Zwl1 m0 n, e2]; rfl
def Za61 (m0 : Nat) : K (ResD Zap) := sqK Zrn m0 Zd6 0 Zqw
def Zb61 (m0 : Nat) : K (ResD Zap) := Zqa 0 (Za61 m0)
def Zmw1 : Code := (lft (lft (rgt (lft (rgt (rgt (rgt (rgt (rgt Zhs)))))))))
def Zks (m0 n : Nat) : ByteArray → Int → Int → Int → D13e → Int → Int → Option D13l := fun x2 x3 x4 x5 x6 x7 x8 => ej Zrn n (.loop Zmw1) 0 (Zjw1 x2 x3 x4 x5 x6 x7 x8) (Zb61 m0)
theorem Zxl1 (m0 n : Nat) : Zks m0 (n + 1) = Zu.S0 (Zjs m0 m0) (Zks m0 n) := by kernel_rfl
theorem Zc61 (m0 : Nat) : ∀ n : Nat, Zks m0 n = Zu.l0 (Zjs m0 m0) n :=
  ind rfl fun n e0 => (Zxl1 m0 n).trans (by rw [e0]; rfl)
theorem Zae2 (m0 : Nat) (x : ArgsD Zgw1) : run Zrn Zhs m0 x Zqw = Zu.S (Zks m0 m0) x.1 x.2.1 := by kernel_rfl
abbrev Zqh1 : AM.Spec := AM.spec Zgw1 Zap (fun x => Zu x.1 x.2.1)
theorem Zgl2 : Zj Tryz.prog 134 Zqh1 := ctrC tabOk (fn := Tryz.f134) (show ∀ x, run Zrn Zhs fu x Zqw = _ from fun x => by
  have e1 : Zjs fu fu = Zu.t1 fu := Zz51 fu fu
  have e0 : Zks fu fu = Zu.l0 (Zu.t1 fu) fu := by rw [← e1]; exact Zc61 fu fu
  refine (Zae2 fu x).trans ?_
  rw [e0]; rfl) (Zi ⟨⟨Zqr, Tryz.call150, fun _ => Zg rfl⟩, ⟨⟨Zhu1, Tryz.call129, nw⟩, ⟨⟨Zxu1, Tryz.call130, nw⟩, trivial⟩⟩⟩)
abbrev Znw1 : Env := tab.env (AM.look []) ⟨[], [], [], ⟨tt [2, 3], []⟩, [], [], [], []⟩
def Zhl2 : Code := bd Tryz.f180
abbrev Zub1 : List (Ty × List Tag) := [(.str, []), (k13b, [])]
abbrev Zil2 : List PK := [.val .str]
abbrev Zjl2 : K (ResD Zub1) := fin Znw1 [.tmp 2, .tmp 3] [] Zub1
abbrev Zrh1 : AM.Spec := AM.spec Zil2 Zub1 (fun x => Zok x.1)
theorem Zkl2 : Zj Tryz.prog 180 Zrh1 := ctrC tabOk (fn := Tryz.f180) (show ∀ x, run Znw1 Zhl2 fu x Zjl2 = _ from fun x => by kernel_rfl) (Zi trivial)
abbrev Zxl : Env := tab.env (AM.look [(150, Znm), (180, Zrh1), (70, Znn), (126, Zno), (178, Zq4)]) ⟨[(0, ⟨tt [0, 1, 2, 9, 10, 12, 47, 48], []⟩), (2, ⟨tt [9, 12, 16, 17, 98, 99, 100], tt [97]⟩)], [], [(20, ⟨tt [0, 1, 9, 10, 12], []⟩), (31, ⟨tt [12, 16, 17], tt [97]⟩)], ⟨tt [6, 7, 8], []⟩, [17, 97, 111, 115], [70, 150, 178, 180], [], [89]⟩
def Zls : Code := bd Tryz.f179
abbrev Zbp : List (Ty × List Tag) := [(k13a, [⟨0, 1, 0, 1⟩]), (k13c, []), (k13b, [])]
abbrev Zow1 : List PK := [.val .str, .val k13b, .fn 180 []]
abbrev Zms : K (ResD Zbp) := fin Zxl [.tmp 6, .tmp 7, .tmp 8] [] Zbp
def Zpw1 (x24 : D13e) (x25 : D13a) (x26 : D13c) : St := mk [(12, .dat k13a x24 [⟨0, 769, 0, 1⟩]), (16, .dat k13c x25 []), (17, .slw 97 0)] [(97, some (.arr .bool x26 false))]
def Zqw1 (x17 : Int) (x18 : D13e) (x19 x20 : D13a) (x21 x22 : Int) (x23 : D13c) : St := mk [(9, .dat k13b x17 []), (12, .dat k13a x18 [⟨0, 769, 0, 1⟩]), (16, .dat k13c x19 []), (17, .slw 97 0), (98, .dat k13c x20 []), (99, .dat k13b x21 []), (100, .dat k13b x22 [])] [(97, some (.arr .bool x23 false))]
def Zrw1 (x10 : ByteArray) (x11 x12 x13 : Int) (x14 : D13e) : St := mk [(0, .dat .str x10 []), (1, .dat k13b x11 []), (9, .dat k13b x12 []), (10, .dat k13b x13 []), (12, .dat k13a x14 [⟨0, 769, 0, 1⟩])] []
def Zsw1 (x2 : ByteArray) (x3 x4 x5 : Int) (x6 : D13e) (x7 x8 : Int) : St := mk [(0, .dat .str x2 []), (1, .dat k13b x3 []), (2, .fn 180 []), (9, .dat k13b x4 []), (10, .dat k13b x5 []), (12, .dat k13a x6 [⟨0, 769, 0, 1⟩]), (47, .dat k13b x7 []), (48, .dat k13b x8 [])] []
def Ze6 : Code := (rgt (rgt (rgt (rgt (rgt (rgt (rgt (rgt (rgt (rgt (rgt Zls)))))))))))
def Zns (m0 n : Nat) : D13e → D13a → D13c → Option D13w := fun x24 x25 x26 => ej Zxl n (.tail Ze6) 0 (Zpw1 x24 x25 x26) Zms
theorem Zyl1 (m0 m1 n : Nat) : Zns m0 (n + 1) = Za.S3 := by kernel_rfl
theorem Zd61 (m0 m1 : Nat) : ∀ n : Nat, Zns m0 n = Za.t3 n :=
  ind rfl fun n _ => Zyl1 m0 m1 n
def Ze61 (m0 m1 : Nat) : K (ResD Zbp) := sqK Zxl m1 Ze6 0 Zms
def Zf61 (m0 m1 : Nat) : K (ResD Zbp) := Zqa 2 (Ze61 m0 m1)
def Ztw1 : Code := (lft (lft (rgt (lft (rgt (rgt (rgt (rgt (rgt (rgt (rgt (rgt (rgt (rgt Zls))))))))))))))
def Zos (m0 m1 n : Nat) : Int → D13e → D13a → D13a → Int → Int → D13c → Option D13w := fun x17 x18 x19 x20 x21 x22 x23 => ej Zxl n (.loop Ztw1) 2 (Zqw1 x17 x18 x19 x20 x21 x22 x23) (Zf61 m0 m1)
theorem Zzl1 (m0 m1 n : Nat) : Zos m0 m1 (n + 1) = Za.S2 (Zns m0 m1) (Zos m0 m1 n) := by kernel_rfl
theorem Zg61 (m0 m1 : Nat) : ∀ n : Nat, Zos m0 m1 n = Za.l2 (Zns m0 m1) n :=
  ind rfl fun n e2 => (Zzl1 m0 m1 n).trans (by rw [e2]; rfl)
def Zf6 : Code := (rgt (rgt (rgt (rgt (rgt (rgt (rgt Zls)))))))
def Zps (m0 n : Nat) : ByteArray → Int → Int → Int → D13e → Option D13w := fun x10 x11 x12 x13 x14 => ej Zxl n (.tail Zf6) 0 (Zrw1 x10 x11 x12 x13 x14) Zms
theorem Zam1 (m0 n : Nat) : Zps m0 (n + 1) = Za.S1 (Zos m0 n n) := by kernel_rfl
theorem Zh61 (m0 : Nat) : ∀ n : Nat, Zps m0 n = Za.t1 n :=
  ind rfl fun n e1 => by
    have e3 : Zns m0 n = Za.t3 n := Zd61 m0 n n
    have e2 : Zos m0 n n = Za.l2 (Za.t3 n) n := by rw [← e3]; exact Zg61 m0 n n
    rw [Zam1 m0 n, e2]; rfl
def Zi61 (m0 : Nat) : K (ResD Zbp) := sqK Zxl m0 Zf6 0 Zms
def Zj61 (m0 : Nat) : K (ResD Zbp) := Zqa 0 (Zi61 m0)
def Zuw1 : Code := (lft (lft (rgt (lft (rgt (rgt (rgt (rgt (rgt (rgt Zls))))))))))
def Zqs (m0 n : Nat) : ByteArray → Int → Int → Int → D13e → Int → Int → Option D13w := fun x2 x3 x4 x5 x6 x7 x8 => ej Zxl n (.loop Zuw1) 0 (Zsw1 x2 x3 x4 x5 x6 x7 x8) (Zj61 m0)
theorem Zbm1 (m0 n : Nat) : Zqs m0 (n + 1) = Za.S0 (Zps m0 m0) (Zqs m0 n) := by kernel_rfl
theorem Zk61 (m0 : Nat) : ∀ n : Nat, Zqs m0 n = Za.l0 (Zps m0 m0) n :=
  ind rfl fun n e0 => (Zbm1 m0 n).trans (by rw [e0]; rfl)
theorem Zbe2 (m0 : Nat) (x : ArgsD Zow1) : run Zxl Zls m0 x Zms = Za.S (Zqs m0 m0) x.1 x.2.1 := by kernel_rfl
abbrev Zsh1 : AM.Spec := AM.spec Zow1 Zbp (fun x => Za x.1 x.2.1)
theorem Zll2 : Zj Tryz.prog 179 Zsh1 := ctrC tabOk (fn := Tryz.f179) (show ∀ x, run Zxl Zls fu x Zms = _ from fun x => by
  have e1 : Zps fu fu = Za.t1 fu := Zh61 fu fu
  have e0 : Zqs fu fu = Za.l0 (Za.t1 fu) fu := by rw [← e1]; exact Zk61 fu fu
  refine (Zbe2 fu x).trans ?_
  rw [e0]; rfl) (Zi ⟨⟨Zqr, Tryz.call150, fun _ => Zg rfl⟩, ⟨⟨Zkl2, Tryz.call180, fun _ => Zg rfl⟩, ⟨⟨c_f70, Tryz.call70, fun _ => Zg rfl⟩, ⟨⟨Zfw, Tryz.call126, nw⟩, ⟨⟨Znv1, Tryz.call178, fun _ => Zg rfl⟩, trivial⟩⟩⟩⟩⟩)
abbrev Zvw1 : Env := tab.env (AM.look [(179, Zsh1)]) ⟨[], [], [], ⟨tt [4, 5, 6], []⟩, [], [], [], []⟩
def Zml2 : Code := bd Tryz.f157
abbrev Zvb1 : List (Ty × List Tag) := [(k13a, [⟨0, 1, 0, 1⟩]), (k13c, []), (k13b, [])]
abbrev Znl2 : List PK := [.val .str, .val k13b]
abbrev Zol2 : K (ResD Zvb1) := fin Zvw1 [.tmp 4, .tmp 5, .tmp 6] [] Zvb1
abbrev Zth1 : AM.Spec := AM.spec Znl2 Zvb1 (fun x => Zcq x.1 x.2.1)
theorem Zpl2 : Zj Tryz.prog 157 Zth1 := ctrC tabOk (fn := Tryz.f157) (show ∀ x, run Zvw1 Zml2 fu x Zol2 = _ from fun x => by kernel_rfl) (Zi ⟨⟨Zll2, Tryz.call179, nw⟩, trivial⟩)
abbrev Zy2 : Env := tab.env (AM.look []) ⟨[(0, ⟨tt [0, 5, 8, 9, 10], []⟩)], [], [], ⟨tt [4], []⟩, [], [], [], []⟩
def Zwb1 : Code := bd Tryz.f158
abbrev Zrw : List (Ty × List Tag) := [(k13a, [⟨0, 1, 0, 1⟩])]
abbrev Zww1 : List PK := [.val k13a, .val k13c]
abbrev Zxw1 : K (ResD Zrw) := fin Zy2 [.tmp 4] [] Zrw
def Zyw1 (x1 x2 : D13e) (x3 : D13a) (x4 x5 : Int) : St := mk [(0, .dat k13a x1 []), (5, .dat k13a x2 [⟨0, 321, 0, 1⟩]), (8, .dat k13c x3 []), (9, .dat k13b x4 []), (10, .dat k13b x5 [])] []
def Zzw1 : Code := (rgt (rgt (rgt Zwb1)))
def Zl61 (m0 : Nat) : K (ResD Zrw) := sqK Zy2 m0 Zzw1 0 Zxw1
def Zm61 (m0 : Nat) : K (ResD Zrw) := Zqa 0 (Zl61 m0)
def Zax1 : Code := (lft (lft (rgt (lft (rgt (rgt Zwb1))))))
def Zpy (m0 n : Nat) : D13e → D13e → D13a → Int → Int → Option (D13e) := fun x1 x2 x3 x4 x5 => ej Zy2 n (.loop Zax1) 0 (Zyw1 x1 x2 x3 x4 x5) (Zm61 m0)
theorem Zcm1 (m0 n : Nat) : Zpy m0 (n + 1) = Zeb.S0 (Zpy m0 n) := by kernel_rfl
theorem Zn61 (m0 : Nat) : ∀ n : Nat, Zpy m0 n = Zeb.l0 n :=
  ind rfl fun n e0 => (Zcm1 m0 n).trans (by rw [e0]; rfl)
theorem Zce2 (m0 : Nat) (x : ArgsD Zww1) : run Zy2 Zwb1 m0 x Zxw1 = Zeb.S (Zpy m0 m0) x.1 x.2.1 := by kernel_rfl
abbrev Zuh1 : AM.Spec := AM.spec Zww1 Zrw (fun x => Zeb x.1 x.2.1)
theorem Zql2 : Zj Tryz.prog 158 Zuh1 := ctrC tabOk (fn := Tryz.f158) (fun x => (Zce2 fu x).trans (by rw [Zn61 fu fu]; rfl)) (Zi trivial)
abbrev Zbx1 : Env := tab.env (AM.look [(157, Zth1), (158, Zuh1)]) ⟨[], [], [], ⟨tt [4, 5], []⟩, [], [], [], []⟩
def Zrl2 : Code := bd Tryz.f135
abbrev Zxb1 : List (Ty × List Tag) := [(k13a, [⟨0, 1, 0, 1⟩]), (k13b, [])]
abbrev Zsl2 : List PK := [.val .str, .val k13b]
abbrev Ztl2 : K (ResD Zxb1) := fin Zbx1 [.tmp 4, .tmp 5] [] Zxb1
abbrev Zvh1 : AM.Spec := AM.spec Zsl2 Zxb1 (fun x => Zjj x.1 x.2.1)
theorem Zul2 : Zj Tryz.prog 135 Zvh1 := ctrC tabOk (fn := Tryz.f135) (show ∀ x, run Zbx1 Zrl2 fu x Ztl2 = _ from fun x => by kernel_rfl) (Zi ⟨⟨Zpl2, Tryz.call157, nw⟩, ⟨⟨Zql2, Tryz.call158, nw⟩, trivial⟩⟩)
abbrev E_f97 : Env := tab.env (AM.look [(133, Zph1), (134, Zqh1), (135, Zvh1)]) ⟨[], [], [], ⟨tt [6, 7], []⟩, [], [], [], []⟩
def b_f97 : Code := bd Tryz.f97
abbrev R_f97 : List (Ty × List Tag) := [(k13a, [⟨0, 1, 0, 1⟩]), (k13b, [])]
abbrev P_f97 : List PK := [.val .str, .val k13b, .val k13b]
abbrev K_f97 : K (ResD R_f97) := fin E_f97 [.tmp 6, .tmp 7] [] R_f97
abbrev Zcx1 : AM.Spec := AM.spec P_f97 R_f97 (fun x => Zyj x.1 x.2.1 x.2.2.1)
theorem c_f97 : Zj Tryz.prog 97 Zcx1 := ctrC tabOk (fn := Tryz.f97) (show ∀ x, run E_f97 b_f97 fu x K_f97 = _ from fun x => by kernel_rfl) (Zi ⟨⟨Zfl2, Tryz.call133, nw⟩, ⟨⟨Zgl2, Tryz.call134, nw⟩, ⟨⟨Zul2, Tryz.call135, nw⟩, trivial⟩⟩⟩)
abbrev E_f56 : Env := tab.env (AM.look [(96, Zbw1), (97, Zcx1)]) ⟨[(1, ⟨tt [5, 8, 10, 29, 30, 31], tt [5]⟩), (3, ⟨tt [5, 8, 14, 55, 56, 57], tt [5]⟩)], [], [], ⟨tt [6, 7], []⟩, [], [], [], []⟩
def b_f56 : Code := bd Tryz.f56
abbrev R_f56 : List (Ty × List Tag) := [(k13g, [⟨0, 1, 0, 3⟩]), (k13b, [])]
abbrev P_f56 : List PK := [.val .str, .val k13b, .val k13j]
abbrev K_f56 : K (ResD R_f56) := fin E_f56 [.tmp 6, .tmp 7] [] R_f56
def Zo61 (x2 : D13u) (x3 : Int) (x4 : D13a) (x5 x6 : Int) (x7 : D13p) : St := mk [(5, .ptr 5 0 0), (8, .dat k13g x2 [⟨0, 513, 0, 3⟩]), (10, .dat k13b x3 []), (29, .dat k13c x4 []), (30, .dat k13b x5 []), (31, .dat k13b x6 [])] [(5, some (.var k13j x7 []))]
def Zp61 (x9 : D13u) (x10 : Int) (x11 : D13e) (x12 x13 : Int) (x14 : D13p) : St := mk [(5, .ptr 5 0 0), (8, .dat k13g x9 [⟨0, 513, 0, 3⟩]), (14, .dat k13b x10 []), (55, .dat k13a x11 [⟨0, 3521, 0, 1⟩]), (56, .dat k13b x12 []), (57, .dat k13b x13 [])] [(5, some (.var k13j x14 []))]
def Zq61 : Code := (rgt (rgt (rgt b_f56)))
def Zde2 (m0 : Nat) : K (ResD R_f56) := sqK E_f56 m0 Zq61 0 K_f56
def Zwh1 (m0 : Nat) : K (ResD R_f56) := Zqa 0 (Zde2 m0)
def Zr61 : Code := (rgt (rgt (lft (rgt (lft (rgt (lft (rgt (rgt b_f56)))))))))
def Zee2 (m0 : Nat) : K (ResD R_f56) := sqK E_f56 m0 Zr61 0 (Zwh1 m0)
def Zfe2 (m0 : Nat) : K (ResD R_f56) := Zqa 1 (Zee2 m0)
def Zs61 : Code := (lft (lft (rgt (lft (rgt (lft (rgt (lft (rgt (lft (rgt (rgt b_f56))))))))))))
def Zsw (m0 n : Nat) : D13u → Int → D13a → Int → Int → D13p → Option D13x := fun x2 x3 x4 x5 x6 x7 => ej E_f56 n (.loop Zs61) 1 (Zo61 x2 x3 x4 x5 x6 x7) (Zfe2 m0)
theorem Zdx1 (m0 n : Nat) : Zsw m0 (n + 1) = Zha.S0 (Zsw m0 n) := by kernel_rfl
theorem Zge2 (m0 : Nat) : ∀ n : Nat, Zsw m0 n = Zha.l0 n :=
  ind rfl fun n e0 => (Zdx1 m0 n).trans (by rw [e0]; rfl)
def Zt61 : Code := (rgt (rgt (lft (rgt (rgt (rgt (lft (rgt (lft (rgt (rgt b_f56)))))))))))
def Zhe2 (m0 : Nat) : K (ResD R_f56) := sqK E_f56 m0 Zt61 0 (Zwh1 m0)
def Zie2 (m0 : Nat) : K (ResD R_f56) := Zqa 3 (Zhe2 m0)
def Zu61 : Code := (lft (lft (rgt (lft (rgt (lft (rgt (rgt (rgt (lft (rgt (lft (rgt (rgt b_f56))))))))))))))
def Ztw (m0 n : Nat) : D13u → Int → D13e → Int → Int → D13p → Option D13x := fun x9 x10 x11 x12 x13 x14 => ej E_f56 n (.loop Zu61) 3 (Zp61 x9 x10 x11 x12 x13 x14) (Zie2 m0)
theorem Zex1 (m0 n : Nat) : Ztw m0 (n + 1) = Zha.S1 (Ztw m0 n) := by kernel_rfl
theorem Zje2 (m0 : Nat) : ∀ n : Nat, Ztw m0 n = Zha.l1 n :=
  ind rfl fun n e1 => (Zex1 m0 n).trans (by rw [e1]; rfl)
theorem Zvl2 (m0 : Nat) (x : ArgsD P_f56) : run E_f56 b_f56 m0 x K_f56 = Zha.S (Zsw m0 m0) (Ztw m0 m0) x.1 x.2.1 x.2.2.1 := by kernel_rfl
abbrev Zfx1 : AM.Spec := AM.spec P_f56 R_f56 (fun x => Zha x.1 x.2.1 x.2.2.1)
theorem c_f56 : Zj Tryz.prog 56 Zfx1 := ctrC tabOk (fn := Tryz.f56) (show ∀ x, run E_f56 b_f56 fu x K_f56 = _ from fun x => by
  have e0 : Zsw fu fu = Zha.l0 fu := Zge2 fu fu
  have e1 : Ztw fu fu = Zha.l1 fu := Zje2 fu fu
  refine (Zvl2 fu x).trans ?_
  rw [e0, e1]; rfl) (Zi ⟨⟨c_f96, Tryz.call96, nw⟩, ⟨⟨c_f97, Tryz.call97, nw⟩, trivial⟩⟩)
abbrev Zz2 : Env := tab.env (AM.look [(43, Zr1)]) ⟨[(0, ⟨tt [0, 1, 7, 8], []⟩)], [], [], ⟨tt [4], []⟩, [], [43], [], []⟩
def Zyb1 : Code := bd Tryz.f69
abbrev Zuw : List (Ty × List Tag) := [(k13b, [])]
abbrev Zgx1 : List PK := [.val k13g, .fn 43 []]
abbrev Zhx1 : K (ResD Zuw) := fin Zz2 [.tmp 4] [] Zuw
def Zix1 (x1 : D13u) (x2 x3 : Int) : St := mk [(0, .dat k13g x1 []), (1, .fn 43 []), (7, .dat k13b x2 []), (8, .dat k13b x3 [])] []
def Zjx1 : Code := (rgt (rgt Zyb1))
def Zv61 (m0 : Nat) : K (ResD Zuw) := sqK Zz2 m0 Zjx1 0 Zhx1
def Zw61 (m0 : Nat) : K (ResD Zuw) := Zqa 0 (Zv61 m0)
def Zkx1 : Code := (lft (lft (rgt (lft (rgt Zyb1)))))
def Zqy (m0 n : Nat) : D13u → Int → Int → Option Int := fun x1 x2 x3 => ej Zz2 n (.loop Zkx1) 0 (Zix1 x1 x2 x3) (Zw61 m0)
theorem Zdm1 (m0 n : Nat) : Zqy m0 (n + 1) = Zm.S0 (Zqy m0 n) := by kernel_rfl
theorem Zx61 (m0 : Nat) : ∀ n : Nat, Zqy m0 n = Zm.l0 n :=
  ind rfl fun n e0 => (Zdm1 m0 n).trans (by rw [e0]; rfl)
theorem Zke2 (m0 : Nat) (x : ArgsD Zgx1) : run Zz2 Zyb1 m0 x Zhx1 = Zm.S (Zqy m0 m0) x.1 := by kernel_rfl
abbrev Zxh1 : AM.Spec := AM.spec Zgx1 Zuw (fun x => Zm x.1)
theorem Zwl2 : Zj Tryz.prog 69 Zxh1 := ctrC tabOk (fn := Tryz.f69) (fun x => (Zke2 fu x).trans (by rw [Zx61 fu fu]; rfl)) (Zi ⟨⟨c_f43, Tryz.call43, fun _ => Zg rfl⟩, trivial⟩)
abbrev Zlx1 : Env := tab.env (AM.look [(69, Zxh1)]) ⟨[], [], [], ⟨tt [4], []⟩, [], [69], [], []⟩
def Zxl2 : Code := bd Tryz.f37
abbrev Zzb1 : List (Ty × List Tag) := [(.bool, [])]
abbrev Zyl2 : List PK := [.val k13g, .fn 43 []]
abbrev Zzl2 : K (ResD Zzb1) := fin Zlx1 [.tmp 4] [] Zzb1
abbrev Zyh1 : AM.Spec := AM.spec Zyl2 Zzb1 (fun x => Zec x.1)
theorem Zam2 : Zj Tryz.prog 37 Zyh1 := ctrC tabOk (fn := Tryz.f37) (show ∀ x, run Zlx1 Zxl2 fu x Zzl2 = _ from fun x => by kernel_rfl) (Zi ⟨⟨Zwl2, Tryz.call69, fun _ => Zg rfl⟩, trivial⟩)
abbrev E_f57 : Env := tab.env (AM.look [(95, Zdb1), (55, Zeb1), (37, Zyh1)]) ⟨[(0, ⟨tt [2, 8, 12, 42, 43], tt [40]⟩)], [], [], ⟨tt [6, 7], tt [6, 40]⟩, [6, 12, 40, 41, 51, 60], [37, 55], [], []⟩
def b_f57 : Code := bd Tryz.f57
abbrev R_f57 : List (Ty × List Tag) := [(k13g, []), (k13b, [])]
abbrev P_f57 : List PK := [.val .str, .val k13b, .val k13g]
abbrev K_f57 : K (ResD R_f57) := fin E_f57 [.tmp 6, .tmp 7] [] R_f57
def Zy61 (x4 : D13u) (x5 : D13a) (x6 x7 : Int) (x8 : D13u) : St := mk [(2, .dat k13g x4 []), (8, .dat k13c x5 []), (12, .slw 40 0), (42, .dat k13b x6 []), (43, .dat k13b x7 [])] [(40, some (.arr k13f x8 false))]
def Zz61 : Code := (rgt (rgt (rgt (rgt (rgt (rgt (rgt b_f57)))))))
def Zle2 (m0 : Nat) : K (ResD R_f57) := sqK E_f57 m0 Zz61 0 K_f57
def Zme2 (m0 : Nat) : K (ResD R_f57) := Zqa 0 (Zle2 m0)
def Za71 : Code := (lft (lft (rgt (lft (rgt (rgt (rgt (rgt (rgt (rgt b_f57))))))))))
def Za3 (m0 n : Nat) : D13u → D13a → Int → Int → D13u → Option D13x := fun x4 x5 x6 x7 x8 => ej E_f57 n (.loop Za71) 0 (Zy61 x4 x5 x6 x7 x8) (Zme2 m0)
theorem Zmx1 (m0 n : Nat) : Za3 m0 (n + 1) = Zlc.S0 (Za3 m0 n) := by kernel_rfl
theorem Zne2 (m0 : Nat) : ∀ n : Nat, Za3 m0 n = Zlc.l0 n :=
  ind rfl fun n e0 => (Zmx1 m0 n).trans (by rw [e0]; rfl)
theorem Zbm2 (m0 : Nat) (x : ArgsD P_f57) : run E_f57 b_f57 m0 x K_f57 = Zlc.S (Za3 m0 m0) x.1 x.2.1 x.2.2.1 := by kernel_rfl
abbrev Znx1 : AM.Spec := AM.spec P_f57 R_f57 (fun x => Zlc x.1 x.2.1 x.2.2.1)
theorem c_f57 : Zj Tryz.prog 57 Znx1 := ctrC tabOk (fn := Tryz.f57) (fun x => (Zbm2 fu x).trans (by rw [Zne2 fu fu]; rfl)) (Zi ⟨⟨c_f95, Tryz.call95, nw⟩, ⟨⟨c_f55, Tryz.call55, fun _ => Zg rfl⟩, ⟨⟨Zam2, Tryz.call37, fun _ => Zg rfl⟩, trivial⟩⟩⟩)
abbrev E_f30 : Env := tab.env (AM.look [(54, Zvs1), (55, Zeb1), (56, Zfx1), (57, Znx1), (10, Zi2)]) ⟨[], [], [], ⟨tt [2, 3], tt [2]⟩, [], [10, 54, 55], [], []⟩
def b_f30 : Code := bd Tryz.f30
abbrev R_f30 : List (Ty × List Tag) := [((.pair k13j (.pair .str (.pair .str k13g))), []), (.bool, [])]
abbrev P_f30 : List PK := [.val .str]
abbrev K_f30 : K (ResD R_f30) := fin E_f30 [.cell 2 54, .tmp 3] [] R_f30
abbrev Zac1 : AM.Spec := AM.spec P_f30 R_f30 (fun x => Ztf x.1)
theorem c_f30 : Zj Tryz.prog 30 Zac1 := ctrC tabOk (fn := Tryz.f30) (show ∀ x, run E_f30 b_f30 fu x K_f30 = _ from fun x => by kernel_rfl) (Zi ⟨⟨c_f54, Tryz.call54, fun _ => Zg rfl⟩, ⟨⟨c_f55, Tryz.call55, fun _ => Zg rfl⟩, ⟨⟨c_f56, Tryz.call56, nw⟩, ⟨⟨c_f57, Tryz.call57, nw⟩, ⟨⟨c_f10, Tryz.call10, fun _ => Zg rfl⟩, trivial⟩⟩⟩⟩⟩)
abbrev E_f12 : Env := tab.env (AM.look [(30, Zac1)]) ⟨[], [], [], ⟨tt [2, 3], []⟩, [], [], [], []⟩
def b_f12 : Code := bd Tryz.f12
abbrev R_f12 : List (Ty × List Tag) := [(k13g, []), (k13b, [])]
abbrev P_f12 : List PK := [.val .str]
abbrev K_f12 : K (ResD R_f12) := fin E_f12 [.tmp 2, .tmp 3] [] R_f12
abbrev Zbc1 : AM.Spec := AM.spec P_f12 R_f12 (fun x => Zth x.1)
theorem c_f12 : Zj Tryz.prog 12 Zbc1 := ctrC tabOk (fn := Tryz.f12) (show ∀ x, run E_f12 b_f12 fu x K_f12 = _ from fun x => by kernel_rfl) (Zi ⟨⟨c_f30, Tryz.call30, nw⟩, trivial⟩)
abbrev E_f15 : Env := tab.env (AM.look [(30, Zac1)]) ⟨[], [], [], ⟨tt [2, 3], tt [2]⟩, [], [], [], []⟩
def b_f15 : Code := bd Tryz.f15
abbrev R_f15 : List (Ty × List Tag) := [(k13j, []), (k13b, [])]
abbrev P_f15 : List PK := [.val .str]
abbrev K_f15 : K (ResD R_f15) := fin E_f15 [.cell 2 37, .tmp 3] [] R_f15
abbrev Zcc1 : AM.Spec := AM.spec P_f15 R_f15 (fun x => Zuh x.1)
theorem c_f15 : Zj Tryz.prog 15 Zcc1 := ctrC tabOk (fn := Tryz.f15) (show ∀ x, run E_f15 b_f15 fu x K_f15 = _ from fun x => by kernel_rfl) (Zi ⟨⟨c_f30, Tryz.call30, nw⟩, trivial⟩)
abbrev E_f13 : Env := tab.env (AM.look []) ⟨[(0, ⟨tt [0, 1, 5], []⟩)], [], [], ⟨tt [4], []⟩, [], [], [], []⟩
def b_f13 : Code := bd Tryz.f13
abbrev R_f13 : List (Ty × List Tag) := [(.bool, [])]
abbrev P_f13 : List PK := [.val k13g, .val k13g]
abbrev K_f13 : K (ResD R_f13) := fin E_f13 [.tmp 4] [] R_f13
def Zb71 (x1 x2 : D13u) (x3 : Int) : St := mk [(0, .dat k13g x1 []), (1, .dat k13g x2 []), (5, .dat k13b x3 [])] []
def Zc71 : Code := (rgt (rgt (rgt b_f13)))
def Zoe2 (m0 : Nat) : K (ResD R_f13) := sqK E_f13 m0 Zc71 0 K_f13
def Zpe2 (m0 : Nat) : K (ResD R_f13) := Zqa 0 (Zoe2 m0)
def Zd71 : Code := (lft (lft (rgt (lft (rgt (rgt b_f13))))))
def Zb3 (m0 n : Nat) : D13u → D13u → Int → Option Bool := fun x1 x2 x3 => ej E_f13 n (.loop Zd71) 0 (Zb71 x1 x2 x3) (Zpe2 m0)
theorem Zox1 (m0 n : Nat) : Zb3 m0 (n + 1) = Zye.S0 (Zb3 m0 n) := by kernel_rfl
theorem Zqe2 (m0 : Nat) : ∀ n : Nat, Zb3 m0 n = Zye.l0 n :=
  ind rfl fun n e0 => (Zox1 m0 n).trans (by rw [e0]; rfl)
theorem Zcm2 (m0 : Nat) (x : ArgsD P_f13) : run E_f13 b_f13 m0 x K_f13 = Zye.S (Zb3 m0 m0) x.1 x.2.1 := by kernel_rfl
abbrev Zpx1 : AM.Spec := AM.spec P_f13 R_f13 (fun x => Zye x.1 x.2.1)
theorem c_f13 : Zj Tryz.prog 13 Zpx1 := ctrC tabOk (fn := Tryz.f13) (fun x => (Zcm2 fu x).trans (by rw [Zqe2 fu fu]; rfl)) (Zi trivial)
abbrev E_f9 : Env := tab.env (AM.look [(14, Zto1), (10, Zi2), (12, Zbc1), (15, Zcc1), (13, Zpx1)]) ⟨[], [], [], ⟨tt [0], []⟩, [], [10, 13, 14, 15], [], []⟩
def b_f9 : Code := bd Tryz.f9
abbrev R_f9 : List (Ty × List Tag) := [(.bool, [])]
abbrev P_f9 : List PK := []
abbrev K_f9 : K (ResD R_f9) := fin E_f9 [.tmp 0] [] R_f9
abbrev sp_f9 : AM.Spec := AM.spec P_f9 R_f9 (fun x => Zzj)
theorem c_f9 : Zj Tryz.prog 9 sp_f9 := ctrC tabOk (fn := Tryz.f9) (show ∀ x, run E_f9 b_f9 fu x K_f9 = _ from fun x => by kernel_rfl) (Zi ⟨⟨c_f14, Tryz.call14, fun _ => Zg rfl⟩, ⟨⟨c_f10, Tryz.call10, fun _ => Zg rfl⟩, ⟨⟨c_f12, Tryz.call12, nw⟩, ⟨⟨c_f15, Tryz.call15, fun _ => Zg rfl⟩, ⟨⟨c_f13, Tryz.call13, fun _ => Zg rfl⟩, trivial⟩⟩⟩⟩⟩)
abbrev E_f36 : Env := tab.env (AM.look []) ⟨[], [], [], ⟨tt [2], []⟩, [], [], [], []⟩
def b_f36 : Code := bd Tryz.f36
abbrev R_f36 : List (Ty × List Tag) := [(.bool, [])]
abbrev P_f36 : List PK := [.val k13f]
abbrev K_f36 : K (ResD R_f36) := fin E_f36 [.tmp 2] [] R_f36
theorem Ze71 (m0 : Nat) (x : ArgsD P_f36) : run E_f36 b_f36 m0 x K_f36 = Zyc.o x.1 := by kernel_rfl
theorem Zdm2 (m0 : Nat) (x : ArgsD P_f36) : run E_f36 b_f36 m0 x K_f36 = some (Zyc x.1) := (Ze71 m0 x).trans (by unfold Zyc.o Zyc; simp only [Zfl])
abbrev Zqx1 : AM.Spec := AM.spec P_f36 R_f36 (fun x => some (Zyc x.1))
theorem c_f36 : Zj Tryz.prog 36 Zqx1 := ctrC tabOk (fn := Tryz.f36) (fun x => Zdm2 fu x) (Zi trivial)
abbrev E_f22 : Env := tab.env (AM.look [(36, Zqx1)]) ⟨[(0, ⟨tt [0, 1, 5], []⟩)], [], [(3, ⟨tt [0, 1], []⟩)], ⟨tt [4], []⟩, [], [36], [], []⟩
def b_f22 : Code := bd Tryz.f22
abbrev R_f22 : List (Ty × List Tag) := [(.bool, [])]
abbrev P_f22 : List PK := [.val k13g, .val k13b]
abbrev K_f22 : K (ResD R_f22) := fin E_f22 [.tmp 4] [] R_f22
def Zf71 (x3 : D13u) (x4 x5 : Int) : St := mk [(0, .dat k13g x3 []), (1, .dat k13b x4 []), (5, .dat k13b x5 [])] []
def Zg71 (x1 : D13u) (x2 : Int) : St := mk [(0, .dat k13g x1 []), (1, .dat k13b x2 [])] []
def Zh71 : Code := (rgt (rgt (rgt b_f22)))
def Zre2 (m0 m1 : Nat) : K (ResD R_f22) := sqK E_f22 m1 Zh71 0 K_f22
def Zse2 (m0 m1 : Nat) : K (ResD R_f22) := Zqa 0 (Zre2 m0 m1)
def Zi71 : Code := (lft (lft (rgt (lft (rgt (rgt b_f22))))))
def Zvw (m0 m1 n : Nat) : D13u → Int → Int → Option Bool := fun x3 x4 x5 => ej E_f22 n (.loop Zi71) 0 (Zf71 x3 x4 x5) (Zse2 m0 m1)
theorem Zrx1 (m0 m1 n : Nat) : Zvw m0 m1 (n + 1) = Zdb.S1 (Zvw m0 m1 n) := by kernel_rfl
theorem Zte2 (m0 m1 : Nat) : ∀ n : Nat, Zvw m0 m1 n = Zdb.l1 n :=
  ind rfl fun n e1 => (Zrx1 m0 m1 n).trans (by rw [e1]; rfl)
def Zj71 : Code := (rgt (rgt b_f22))
def Zdc1 (m0 n : Nat) : D13u → Int → Option Bool := fun x1 x2 => ej E_f22 n (.tail Zj71) 0 (Zg71 x1 x2) K_f22
theorem Zsx1 (m0 n : Nat) : Zdc1 m0 (n + 1) = Zdb.S0 (Zvw m0 n n) := by kernel_rfl
theorem Zue2 (m0 : Nat) : ∀ n : Nat, Zdc1 m0 n = Zdb.t0 n :=
  ind rfl fun n e0 => by
    have e1 : Zvw m0 n n = Zdb.l1 n := Zte2 m0 n n
    rw [Zsx1 m0 n, e1]; rfl
theorem Zem2 (m0 : Nat) (x : ArgsD P_f22) : run E_f22 b_f22 m0 x K_f22 = Zdb.S (Zdc1 m0 m0) x.1 x.2.1 := by kernel_rfl
abbrev Ztx1 : AM.Spec := AM.spec P_f22 R_f22 (fun x => Zdb x.1 x.2.1)
theorem c_f22 : Zj Tryz.prog 22 Ztx1 := ctrC tabOk (fn := Tryz.f22) (fun x => (Zem2 fu x).trans (by rw [Zue2 fu fu]; rfl)) (Zi ⟨⟨c_f36, Tryz.call36, fun _ => Zg rfl⟩, trivial⟩)
abbrev E_f20 : Env := tab.env (AM.look [(10, Zi2)]) ⟨[(0, ⟨tt [0, 1, 7, 8, 9], []⟩)], [], [(8, ⟨tt [7, 8], []⟩)], ⟨tt [4, 5, 6], []⟩, [], [10], [], []⟩
def b_f20 : Code := bd Tryz.f20
abbrev R_f20 : List (Ty × List Tag) := [(.str, []), (k13b, []), (k13b, [])]
abbrev P_f20 : List PK := [.val k13g, .val k13b]
abbrev K_f20 : K (ResD R_f20) := fin E_f20 [.tmp 4, .tmp 5, .tmp 6] [] R_f20
def Zk71 (x7 : ByteArray) (x8 : Int) : St := mk [(7, .dat .str x7 []), (8, .dat k13b x8 [])] []
def Zl71 (x1 : D13u) (x2 : Int) (x3 : ByteArray) (x4 x5 : Int) : St := mk [(0, .dat k13g x1 []), (1, .dat k13b x2 []), (7, .dat .str x3 []), (8, .dat k13b x4 []), (9, .dat k13b x5 [])] []
def Zec1 : Code := (rgt (rgt (rgt b_f20)))
def Zww (m0 n : Nat) : ByteArray → Int → Option D13k := fun x7 x8 => ej E_f20 n (.tail Zec1) 0 (Zk71 x7 x8) K_f20
theorem Zux1 (m0 n : Nat) : Zww m0 (n + 1) = Zga.S1 := by kernel_rfl
theorem Zve2 (m0 : Nat) : ∀ n : Nat, Zww m0 n = Zga.t1 n :=
  ind rfl fun n _ => Zux1 m0 n
def Zwe2 (m0 : Nat) : K (ResD R_f20) := sqK E_f20 m0 Zec1 0 K_f20
def Zxe2 (m0 : Nat) : K (ResD R_f20) := Zqa 0 (Zwe2 m0)
def Zm71 : Code := (lft (lft (rgt (lft (rgt (rgt b_f20))))))
def Zxw (m0 n : Nat) : D13u → Int → ByteArray → Int → Int → Option D13k := fun x1 x2 x3 x4 x5 => ej E_f20 n (.loop Zm71) 0 (Zl71 x1 x2 x3 x4 x5) (Zxe2 m0)
theorem Zvx1 (m0 n : Nat) : Zxw m0 (n + 1) = Zga.S0 (Zww m0 m0) (Zxw m0 n) := by kernel_rfl
theorem Zye2 (m0 : Nat) : ∀ n : Nat, Zxw m0 n = Zga.l0 (Zww m0 m0) n :=
  ind rfl fun n e0 => (Zvx1 m0 n).trans (by rw [e0]; rfl)
theorem Zfm2 (m0 : Nat) (x : ArgsD P_f20) : run E_f20 b_f20 m0 x K_f20 = Zga.S (Zxw m0 m0) x.1 x.2.1 := by kernel_rfl
abbrev Zwx1 : AM.Spec := AM.spec P_f20 R_f20 (fun x => Zga x.1 x.2.1)
theorem c_f20 : Zj Tryz.prog 20 Zwx1 := ctrC tabOk (fn := Tryz.f20) (show ∀ x, run E_f20 b_f20 fu x K_f20 = _ from fun x => by
  have e1 : Zww fu fu = Zga.t1 fu := Zve2 fu fu
  have e0 : Zxw fu fu = Zga.l0 (Zga.t1 fu) fu := by rw [← e1]; exact Zye2 fu fu
  refine (Zfm2 fu x).trans ?_
  rw [e0]; rfl) (Zi ⟨⟨c_f10, Tryz.call10, fun _ => Zg rfl⟩, trivial⟩)
abbrev E_f7 : Env := tab.env (AM.look [(22, Ztx1), (9, sp_f9), (20, Zwx1), (12, Zbc1), (15, Zcc1)]) ⟨[(0, ⟨tt [2, 8, 11, 12, 13], tt [47]⟩)], [], [(3, ⟨tt [0, 1, 2], []⟩), (6, ⟨tt [0, 1, 2, 7], []⟩), (17, ⟨tt [8, 11], tt [47]⟩)], ⟨tt [6], []⟩, [11, 47, 50, 60, 75, 78, 89, 95, 102], [9, 15, 20, 22], [], []⟩
def b_f7 : Code := bd Tryz.f7
abbrev R_f7 : List (Ty × List Tag) := [(.bool, [])]
abbrev P_f7 : List PK := [.val k13g, .val k13b, .val k13b]
abbrev K_f7 : K (ResD R_f7) := fin E_f7 [.tmp 6] [] R_f7
def Zze2 (x18 : ByteArray) (x19 : D13a) : St := mk [(8, .dat .str x18 []), (11, .slw 47 0)] [(47, some (.arr (.int .u8) x19 false))]
def Zaf2 (x13 : Int) (x14 : ByteArray) (x15 x16 : Int) (x17 : D13a) : St := mk [(2, .dat k13b x13 []), (8, .dat .str x14 []), (11, .slw 47 0), (12, .dat k13b x15 []), (13, .dat k13b x16 [])] [(47, some (.arr (.int .u8) x17 false))]
def Zbf2 (x8 : D13u) (x9 x10 x11 : Int) : St := mk [(0, .dat k13g x8 []), (1, .dat k13b x9 []), (2, .dat k13b x10 []), (7, .dat k13b x11 [])] []
def Zcf2 (x4 : D13u) (x5 x6 : Int) : St := mk [(0, .dat k13g x4 []), (1, .dat k13b x5 []), (2, .dat k13b x6 [])] []
def Zzh1 : Code := (rgt (rgt (rgt (rgt (rgt (rgt (rgt (rgt (rgt b_f7)))))))))
def j3_f7 (m0 n : Nat) : ByteArray → D13a → Option Bool := fun x18 x19 => ej E_f7 n (.tail Zzh1) 0 (Zze2 x18 x19) K_f7
theorem Zn71 (m0 m1 : Nat) (m2 n : Nat) : j3_f7 m0 (n + 1) = Zn.S3 := by kernel_rfl
theorem Zgm2 (m0 m1 m2 : Nat) : ∀ n : Nat, j3_f7 m0 n = Zn.t3 n :=
  ind rfl fun n _ => Zn71 m0 m1 m2 n
def Zhm2 (m0 m1 m2 : Nat) : K (ResD R_f7) := sqK E_f7 m2 Zzh1 0 K_f7
def Zim2 (m0 m1 m2 : Nat) : K (ResD R_f7) := Zqa 0 (Zhm2 m0 m1 m2)
def Zdf2 : Code := (lft (lft (rgt (lft (rgt (rgt (rgt (rgt (rgt (rgt (rgt (rgt b_f7))))))))))))
def j2_f7 (m0 m1 : Nat) (m2 n : Nat) : Int → ByteArray → Int → Int → D13a → Option Bool := fun x13 x14 x15 x16 x17 => ej E_f7 n (.loop Zdf2) 0 (Zaf2 x13 x14 x15 x16 x17) (Zim2 m0 m1 m2)
theorem Zo71 (m0 m1 : Nat) (m2 n : Nat) : j2_f7 m0 m1 m2 (n + 1) = Zn.S2 (j3_f7 m0 m2) (j2_f7 m0 m1 m2 n) := by kernel_rfl
theorem Zjm2 (m0 m1 m2 : Nat) : ∀ n : Nat, j2_f7 m0 m1 m2 n = Zn.l2 (j3_f7 m0 m2) n :=
  ind rfl fun n e2 => (Zo71 m0 m1 m2 n).trans (by rw [e2]; rfl)
def Zef2 : Code := (rgt (rgt (rgt (rgt b_f7))))
def j1_f7 (m0 n : Nat) : D13u → Int → Int → Int → Option Bool := fun x8 x9 x10 x11 => ej E_f7 n (.tail Zef2) 0 (Zbf2 x8 x9 x10 x11) K_f7
theorem Zp71 (m0 m1 n : Nat) : j1_f7 m0 (n + 1) = Zn.S1 (j2_f7 m0 m1 n n) := by kernel_rfl
theorem Zkm2 (m0 m1 : Nat) : ∀ n : Nat, j1_f7 m0 n = Zn.t1 n :=
  ind rfl fun n e1 => by
    have e3 : j3_f7 m0 n = Zn.t3 n := Zgm2 m0 m1 n n
    have e2 : j2_f7 m0 m1 n n = Zn.l2 (Zn.t3 n) n := by rw [← e3]; exact Zjm2 m0 m1 n n
    rw [Zp71 m0 m1 n, e2]; rfl
def Zff2 : Code := (rgt (rgt b_f7))
def j0_f7 (m0 n : Nat) : D13u → Int → Int → Option Bool := fun x4 x5 x6 => ej E_f7 n (.tail Zff2) 0 (Zcf2 x4 x5 x6) K_f7
theorem Zq71 (m0 n : Nat) : j0_f7 m0 (n + 1) = Zn.S0 (j1_f7 m0 n) := by kernel_rfl
theorem Zlm2 (m0 : Nat) : ∀ n : Nat, j0_f7 m0 n = Zn.t0 n :=
  ind rfl fun n e0 => by
    have e1 : j1_f7 m0 n = Zn.t1 n := Zkm2 m0 n n
    rw [Zq71 m0 n, e1]; rfl
theorem st_f7 (m0 : Nat) (x : ArgsD P_f7) : run E_f7 b_f7 m0 x K_f7 = Zn.S (j0_f7 m0 m0) x.1 x.2.1 x.2.2.1 := by kernel_rfl
abbrev Zjt : AM.Spec := AM.spec P_f7 R_f7 (fun x => Zn x.1 x.2.1 x.2.2.1)
theorem Zgu : Zj Tryz.prog 7 Zjt := ctrC tabOk (fn := Tryz.f7) (fun x => (st_f7 fu x).trans (by rw [Zlm2 fu fu]; rfl)) (Zi ⟨⟨c_f22, Tryz.call22, fun _ => Zg rfl⟩, ⟨⟨c_f9, Tryz.call9, fun _ => Zg rfl⟩, ⟨⟨c_f20, Tryz.call20, fun _ => Zg rfl⟩, ⟨⟨c_f12, Tryz.call12, nw⟩, ⟨⟨c_f15, Tryz.call15, fun _ => Zg rfl⟩, trivial⟩⟩⟩⟩⟩)
end
end Go.Proofs.YtlamhllcnbcbbaaGreat.Am
