import Derived.Test.YtlamhllcnbcbbaaGreatAmPure13
import Derived.Test.YtlamhllcnbcbbaaGreatSPrim
/- PRINTED by gen/ of this repo: the code comes to the pure functions. -/
namespace Go.Proofs.YtlamhllcnbcbbaaGreat.Am
open Go.AM Go.AM.Pure
set_option linter.unusedVariables false
set_option maxRecDepth 100000
noncomputable section
abbrev k13a : Ty := .sl .str
abbrev k13b : Ty := .int .i64
abbrev k13c : Ty := .sl (.int .u8)
abbrev k13d : Ty := .sl k13b
abbrev k13e : Ty := .pair k13b .str
abbrev k13f : Ty := .pair k13b k13b
abbrev k13g : Ty := .pair k13b k13e
abbrev k13h : Ty := .sl k13g
abbrev k13i : Ty := .pair k13b k13f
abbrev k13j : Ty := .sl k13i
abbrev k13k : Ty := .pair k13b k13i
abbrev E_f8 : Env := tab.env (AM.look []) ⟨[(0, ⟨tt [0, 1, 5], []⟩)], [], [], ⟨tt [4], []⟩, [], [], [], []⟩
def b_f8 : Code := bd Tryz.f8
abbrev R_f8 : List (Ty × List Tag) := [(.bool, [])]
abbrev P_f8 : List PK := [.val k13h, .val k13b]
abbrev K_f8 : K (ResD R_f8) := fin E_f8 [.tmp 4] [] R_f8
def Zgm2 (x1 : D13u) (x2 x3 : Int) : St := mk [(0, .dat k13h x1 []), (1, .dat k13b x2 []), (5, .dat k13b x3 [])] []
def Zhm2 : Code := (rgt (rgt b_f8))
def Zbv2 (m0 : Nat) : K (ResD R_f8) := sqK E_f8 m0 Zhm2 0 K_f8
def Zcv2 (m0 : Nat) : K (ResD R_f8) := Zv 0 (Zbv2 m0)
def Zim2 : Code := (lft (lft (rgt (lft (rgt b_f8)))))
def j0_f8 (m0 n : Nat) : D13u → Int → Int → Option Bool := fun x1 x2 x3 => ej E_f8 n (.loop Zim2) 0 (Zgm2 x1 x2 x3) (Zcv2 m0)
theorem Zz71 (m0 n : Nat) : j0_f8 m0 (n + 1) = Znc.S0 (j0_f8 m0 n) := by kernel_rfl
theorem Zdv2 (m0 : Nat) : ∀ n : Nat, j0_f8 m0 n = Znc.l0 n :=
  ind rfl fun n e0 => (Zz71 m0 n).trans (by rw [e0]; rfl)
theorem st_f8 (m0 : Nat) (x : ArgsD P_f8) : run E_f8 b_f8 m0 x K_f8 = Znc.S (j0_f8 m0 m0) x.1 x.2.1 := by kernel_rfl
abbrev sp_f8 : AM.Spec := AM.spec P_f8 R_f8 (fun x => Znc x.1 x.2.1)
theorem c_f8 : Zg Tryz.prog 8 sp_f8 := ctrC tabOk (fn := Tryz.f8) (fun x => (st_f8 fu x).trans (by rw [Zdv2 fu fu]; rfl)) (Ze trivial)
abbrev E_f14 : Env := tab.env (AM.look []) ⟨[], [], [], ⟨tt [2], tt [2]⟩, [], [], [], []⟩
def b_f14 : Code := bd Tryz.f14
abbrev R_f14 : List (Ty × List Tag) := [(k13g, [])]
abbrev P_f14 : List PK := [.val k13b]
abbrev K_f14 : K (ResD R_f14) := fin E_f14 [.cell 2 34] [] R_f14
abbrev Zos1 : AM.Spec := AM.spec P_f14 R_f14 (fun x => some (Zkn x.1))
theorem c_f14 : Zg Tryz.prog 14 Zos1 := ctrC tabOk (fn := Tryz.f14) (show ∀ x, run E_f14 b_f14 fu x K_f14 = _ from fun x => by kernel_rfl) (Ze trivial)
abbrev E_f39 : Env := tab.env (AM.look []) ⟨[], [], [], ⟨tt [2], []⟩, [], [], [], []⟩
def b_f39 : Code := bd Tryz.f39
abbrev R_f39 : List (Ty × List Tag) := [(k13b, [])]
abbrev P_f39 : List PK := [.val k13g]
abbrev K_f39 : K (ResD R_f39) := fin E_f39 [.tmp 2] [] R_f39
theorem Za81 (m0 : Nat) (x : ArgsD P_f39) : run E_f39 b_f39 m0 x K_f39 = Zpf.o x.1 := by kernel_rfl
theorem Zev2 (m0 : Nat) (x : ArgsD P_f39) : run E_f39 b_f39 m0 x K_f39 = some (Zpf x.1) := (Za81 m0 x).trans (by unfold Zpf.o Zpf; simp only [Zsi])
abbrev Zps1 : AM.Spec := AM.spec P_f39 R_f39 (fun x => some (Zpf x.1))
theorem c_f39 : Zg Tryz.prog 39 Zps1 := ctrC tabOk (fn := Tryz.f39) (fun x => Zev2 fu x) (Ze trivial)
abbrev E_f38 : Env := tab.env (AM.look [(39, Zps1)]) ⟨[], [], [], ⟨tt [3], []⟩, [], [39], [], []⟩
def b_f38 : Code := bd Tryz.f38
abbrev R_f38 : List (Ty × List Tag) := [(.bool, [])]
abbrev P_f38 : List PK := [.val k13g, .ref k13b]
abbrev K_f38 : K (ResD R_f38) := fin E_f38 [.tmp 3] [] R_f38
theorem Zb81 (m0 : Nat) (x : ArgsD P_f38) : run E_f38 b_f38 m0 x K_f38 = Zrd.o x.1 x.2.1 := by kernel_rfl
theorem Zfv2 (m0 : Nat) (x : ArgsD P_f38) : run E_f38 b_f38 m0 x K_f38 = some (Zrd x.1 x.2.1) := (Zb81 m0 x).trans (by unfold Zrd.o Zrd; simp only [Zsi])
abbrev Zqs1 : AM.Spec := AM.spec P_f38 R_f38 (fun x => some (Zrd x.1 x.2.1))
theorem c_f38 : Zg Tryz.prog 38 Zqs1 := ctrC tabOk (fn := Tryz.f38) (fun x => Zfv2 fu x) (Ze ⟨⟨c_f39, Tryz.call39, fun _ => Zd rfl⟩, trivial⟩)
abbrev Zj3 : Env := tab.env (AM.look [(38, Zqs1)]) ⟨[(0, ⟨tt [0, 1, 7, 8], []⟩)], [], [], ⟨tt [4], []⟩, [], [38], [], []⟩
def Zvb1 : Code := bd Tryz.f69
abbrev Zlv : List (Ty × List Tag) := [(k13b, [])]
abbrev Zrs1 : List PK := [.val k13h, .fn 38 [k13b]]
abbrev Zss1 : K (ResD Zlv) := fin Zj3 [.tmp 4] [] Zlv
def Zts1 (x1 : D13u) (x2 x3 x4 : Int) : St := mk [(0, .dat k13h x1 []), (1, .fn 38 [⟨k13b, x2, []⟩]), (7, .dat k13b x3 []), (8, .dat k13b x4 [])] []
def Zus1 : Code := (rgt (rgt Zvb1))
def Zc81 (m0 : Nat) : K (ResD Zlv) := sqK Zj3 m0 Zus1 0 Zss1
def Zd81 (m0 : Nat) : K (ResD Zlv) := Zv 0 (Zc81 m0)
def Zvs1 : Code := (lft (lft (rgt (lft (rgt Zvb1)))))
def Ziz (m0 n : Nat) : D13u → Int → Int → Int → Option Int := fun x1 x2 x3 x4 => ej Zj3 n (.loop Zvs1) 0 (Zts1 x1 x2 x3 x4) (Zd81 m0)
theorem Zpn1 (m0 n : Nat) : Ziz m0 (n + 1) = Zm.S0 (Ziz m0 n) := by kernel_rfl
theorem Ze81 (m0 : Nat) : ∀ n : Nat, Ziz m0 n = Zm.l0 n :=
  ind rfl fun n e0 => (Zpn1 m0 n).trans (by rw [e0]; rfl)
theorem Zjm2 (m0 : Nat) (x : ArgsD Zrs1) : run Zj3 Zvb1 m0 x Zss1 = Zm.S (Ziz m0 m0) x.1 x.2.1.1 := by kernel_rfl
abbrev Zzi1 : AM.Spec := AM.spec Zrs1 Zlv (fun x => Zm x.1 x.2.1.1)
theorem Zgv2 : Zg Tryz.prog 69 Zzi1 := ctrC tabOk (fn := Tryz.f69) (fun x => (Zjm2 fu x).trans (by rw [Ze81 fu fu]; rfl)) (Ze ⟨⟨c_f38, Tryz.call38, fun _ => Zd rfl⟩, trivial⟩)
abbrev Zws1 : Env := tab.env (AM.look [(69, Zzi1)]) ⟨[], [], [], ⟨tt [4], []⟩, [], [69], [], []⟩
def Zhv2 : Code := bd Tryz.f37
abbrev Zwb1 : List (Ty × List Tag) := [(.bool, [])]
abbrev Ziv2 : List PK := [.val k13h, .fn 38 [k13b]]
abbrev Zjv2 : K (ResD Zwb1) := fin Zws1 [.tmp 4] [] Zwb1
abbrev Zaj1 : AM.Spec := AM.spec Ziv2 Zwb1 (fun x => Znb x.1 x.2.1.1)
theorem Zkv2 : Zg Tryz.prog 37 Zaj1 := ctrC tabOk (fn := Tryz.f37) (show ∀ x, run Zws1 Zhv2 fu x Zjv2 = _ from fun x => by kernel_rfl) (Ze ⟨⟨Zgv2, Tryz.call69, fun _ => Zd rfl⟩, trivial⟩)
abbrev E_f23 : Env := tab.env (AM.look [(37, Zaj1)]) ⟨[], [], [], ⟨tt [4], []⟩, [], [37], [], []⟩
def b_f23 : Code := bd Tryz.f23
abbrev R_f23 : List (Ty × List Tag) := [(.bool, [])]
abbrev P_f23 : List PK := [.val k13h, .val k13b]
abbrev K_f23 : K (ResD R_f23) := fin E_f23 [.tmp 4] [] R_f23
abbrev Zxs1 : AM.Spec := AM.spec P_f23 R_f23 (fun x => Zzk x.1 x.2.1)
theorem c_f23 : Zg Tryz.prog 23 Zxs1 := ctrC tabOk (fn := Tryz.f23) (show ∀ x, run E_f23 b_f23 fu x K_f23 = _ from fun x => by kernel_rfl) (Ze ⟨⟨Zkv2, Tryz.call37, fun _ => Zd rfl⟩, trivial⟩)
abbrev E_f43 : Env := tab.env (AM.look []) ⟨[], [], [], ⟨tt [2], []⟩, [], [], [], []⟩
def b_f43 : Code := bd Tryz.f43
abbrev R_f43 : List (Ty × List Tag) := [(.bool, [])]
abbrev P_f43 : List PK := [.val k13g]
abbrev K_f43 : K (ResD R_f43) := fin E_f43 [.tmp 2] [] R_f43
abbrev Zk3 : AM.Spec := AM.spec P_f43 R_f43 (fun x => some (Zdg x.1))
theorem c_f43 : Zg Tryz.prog 43 Zk3 := ctrC tabOk (fn := Tryz.f43) (show ∀ x, run E_f43 b_f43 fu x K_f43 = _ from fun x => by kernel_rfl) (Ze trivial)
abbrev E_f42 : Env := tab.env (AM.look [(43, Zk3)]) ⟨[], [], [], ⟨tt [2], []⟩, [], [43], [], []⟩
def b_f42 : Code := bd Tryz.f42
abbrev R_f42 : List (Ty × List Tag) := [(.bool, [])]
abbrev P_f42 : List PK := [.val k13g]
abbrev K_f42 : K (ResD R_f42) := fin E_f42 [.tmp 2] [] R_f42
abbrev Zxb1 : AM.Spec := AM.spec P_f42 R_f42 (fun x => some (Zxh x.1))
theorem c_f42 : Zg Tryz.prog 42 Zxb1 := ctrC tabOk (fn := Tryz.f42) (show ∀ x, run E_f42 b_f42 fu x K_f42 = _ from fun x => by kernel_rfl) (Ze ⟨⟨c_f43, Tryz.call43, fun _ => Zd rfl⟩, trivial⟩)
abbrev Zl3 : Env := tab.env (AM.look [(42, Zxb1)]) ⟨[(0, ⟨tt [0, 1, 7, 8], tt [1000000]⟩)], [], [], ⟨tt [4], tt [1000000]⟩, [], [42], [], []⟩
def Zyb1 : Code := bd Tryz.f69
abbrev Zmv : List (Ty × List Tag) := [(k13b, []), (k13h, [])]
abbrev Zys1 : List PK := [.ioa k13g, .fn 42 []]
abbrev Zzs1 : K (ResD Zmv) := fin Zl3 [.tmp 4] [.ioa k13g] Zmv
def Zat1 (x1 x2 : Int) (x3 : D13u) : St := mk [(0, .slw 1000000 0), (1, .fn 42 []), (7, .dat k13b x1 []), (8, .dat k13b x2 [])] [(1000000, some (.arr k13g x3 false))]
def Zbt1 : Code := (rgt (rgt Zyb1))
def Zf81 (m0 : Nat) : K (ResD Zmv) := sqK Zl3 m0 Zbt1 0 Zzs1
def Zg81 (m0 : Nat) : K (ResD Zmv) := Zv 0 (Zf81 m0)
def Zct1 : Code := (lft (lft (rgt (lft (rgt Zyb1)))))
def Zjz (m0 n : Nat) : Int → Int → D13u → Option D13y := fun x1 x2 x3 => ej Zl3 n (.loop Zct1) 0 (Zat1 x1 x2 x3) (Zg81 m0)
theorem Zqn1 (m0 n : Nat) : Zjz m0 (n + 1) = Zj.S0 (Zjz m0 n) := by kernel_rfl
theorem Zh81 (m0 : Nat) : ∀ n : Nat, Zjz m0 n = Zj.l0 n :=
  ind rfl fun n e0 => (Zqn1 m0 n).trans (by rw [e0]; rfl)
theorem Zkm2 (m0 : Nat) (x : ArgsD Zys1) : run Zl3 Zyb1 m0 x Zzs1 = Zj.S (Zjz m0 m0) x.1 := by kernel_rfl
abbrev Zbj1 : AM.Spec := AM.Zaf 1 Zys1 Zmv (fun x => Zj x.1)
theorem Zlv2 : Zg Tryz.prog 69 Zbj1 := ctrI tabOk (fn := Tryz.f69) (fun x => (Zkm2 fu x).trans (by rw [Zh81 fu fu]; rfl)) (Ze ⟨⟨c_f42, Tryz.call42, fun _ => Zd rfl⟩, trivial⟩)
abbrev E_f40 : Env := tab.env (AM.look [(69, Zbj1), (42, Zxb1)]) ⟨[(0, ⟨tt [0, 1, 5, 6], tt [1000000]⟩)], [], [(11, ⟨tt [0, 5], tt [1000000]⟩)], ⟨tt [4], tt [1000000]⟩, [0, 4, 8, 13, 17, 22, 30, 36, 38, 39, 41], [42], [(69, [true])], []⟩
def b_f40 : Code := bd Tryz.f40
abbrev R_f40 : List (Ty × List Tag) := [(k13b, []), (k13h, [])]
abbrev P_f40 : List PK := [.ioa k13g, .fn 42 []]
abbrev K_f40 : K (ResD R_f40) := finS 0 4 [.ioa k13g] R_f40
def Zi81 (x6 : Int) (x7 : D13u) : St := mk [(0, .slw 1000000 0), (5, .dat k13b x6 [])] [(1000000, some (.arr k13g x7 false))]
def Zj81 (x2 x3 : Int) (x4 : D13u) : St := mk [(0, .slw 1000000 0), (1, .fn 42 []), (5, .dat k13b x2 []), (6, .dat k13b x3 [])] [(1000000, some (.arr k13g x4 false))]
def Zzb1 : Code := (rgt (rgt (rgt (rgt b_f40))))
def Znv (m0 n : Nat) : Int → D13u → Option D13y := fun x6 x7 => ej E_f40 n (.tail Zzb1) 0 (Zi81 x6 x7) K_f40
theorem Zdt1 (m0 n : Nat) : Znv m0 (n + 1) = Zc.S1 := by kernel_rfl
theorem Zlm2 (m0 : Nat) : ∀ n : Nat, Znv m0 n = Zc.t1 n :=
  ind rfl fun n _ => Zdt1 m0 n
def Zmm2 (m0 : Nat) : K (ResD R_f40) := sqK E_f40 m0 Zzb1 0 K_f40
def Znm2 (m0 : Nat) : K (ResD R_f40) := Zv 0 (Zmm2 m0)
def Zk81 : Code := (lft (lft (rgt (lft (rgt (rgt (rgt b_f40)))))))
def Zov (m0 n : Nat) : Int → Int → D13u → Option D13y := fun x2 x3 x4 => ej E_f40 n (.loop Zk81) 0 (Zj81 x2 x3 x4) (Znm2 m0)
theorem Zet1 (m0 n : Nat) : Zov m0 (n + 1) = Zc.S0 (Znv m0 m0) (Zov m0 n) := by kernel_rfl
theorem Zom2 (m0 : Nat) : ∀ n : Nat, Zov m0 n = Zc.l0 (Znv m0 m0) n :=
  ind rfl fun n e0 => (Zet1 m0 n).trans (by rw [e0]; rfl)
theorem Zmv2 (m0 : Nat) (x : ArgsD P_f40) : run E_f40 b_f40 m0 x K_f40 = Zc.S (Zov m0 m0) x.1 := by kernel_rfl
abbrev Zft1 : AM.Spec := AM.Zen 0 P_f40 R_f40 (fun x => Zc x.1)
theorem c_f40 : Zg Tryz.prog 40 Zft1 := ctrS tabOk (fn := Tryz.f40) (show ∀ x, run E_f40 b_f40 fu x K_f40 = _ from fun x => by
  have e1 : Znv fu fu = Zc.t1 fu := Zlm2 fu fu
  have e0 : Zov fu fu = Zc.l0 (Zc.t1 fu) fu := by rw [← e1]; exact Zom2 fu fu
  refine (Zmv2 fu x).trans ?_
  rw [e0]; rfl) (Ze ⟨⟨Zlv2, Tryz.call69, nw⟩, ⟨⟨c_f42, Tryz.call42, fun _ => Zd rfl⟩, trivial⟩⟩)
abbrev Zm3 : Env := tab.env (AM.look []) ⟨[(0, ⟨tt [3, 4, 5], []⟩)], [], [], ⟨tt [2], []⟩, [], [], [], []⟩
def Zac1 : Code := bd Tryz.f105
abbrev Zpv : List (Ty × List Tag) := [(k13b, [])]
abbrev Zgt1 : List PK := [.val k13b]
abbrev Zht1 : K (ResD Zpv) := fin Zm3 [.tmp 2] [] Zpv
def Zit1 (x1 x2 x3 : Int) : St := mk [(3, .dat (.int .u64) x1 []), (4, .dat k13b x2 []), (5, .dat k13b x3 [])] []
def Zjt1 : Code := (rgt (rgt (rgt Zac1)))
def Zl81 (m0 : Nat) : K (ResD Zpv) := sqK Zm3 m0 Zjt1 0 Zht1
def Zm81 (m0 : Nat) : K (ResD Zpv) := Zv 0 (Zl81 m0)
def Zkt1 : Code := (lft (lft (rgt (lft (rgt (rgt Zac1))))))
def Zkz (m0 n : Nat) : Int → Int → Int → Option Int := fun x1 x2 x3 => ej Zm3 n (.loop Zkt1) 0 (Zit1 x1 x2 x3) (Zm81 m0)
theorem Zrn1 (m0 n : Nat) : Zkz m0 (n + 1) = Zrb.S0 (Zkz m0 n) := by kernel_rfl
theorem Zn81 (m0 : Nat) : ∀ n : Nat, Zkz m0 n = Zrb.l0 n :=
  ind rfl fun n e0 => (Zrn1 m0 n).trans (by rw [e0]; rfl)
theorem Zpm2 (m0 : Nat) (x : ArgsD Zgt1) : run Zm3 Zac1 m0 x Zht1 = Zrb.S (Zkz m0 m0) x.1 := by kernel_rfl
abbrev Zs6 : AM.Spec := AM.spec Zgt1 Zpv (fun x => Zrb x.1)
theorem Zlt1 : Zg Tryz.prog 105 Zs6 := ctrC tabOk (fn := Tryz.f105) (fun x => (Zpm2 fu x).trans (by rw [Zn81 fu fu]; rfl)) (Ze trivial)
abbrev E_f70 : Env := tab.env (AM.look [(105, Zs6)]) ⟨[(0, ⟨tt [3, 6, 7, 8], []⟩)], [], [], ⟨tt [2], []⟩, [], [105], [], []⟩
def b_f70 : Code := bd Tryz.f70
abbrev R_f70 : List (Ty × List Tag) := [(k13b, [])]
abbrev P_f70 : List PK := [.val k13d]
abbrev K_f70 : K (ResD R_f70) := fin E_f70 [.tmp 2] [] R_f70
def Zo81 (x1 : Int) (x2 : D13a) (x3 x4 : Int) : St := mk [(3, .dat k13b x1 []), (6, .dat k13d x2 []), (7, .dat k13b x3 []), (8, .dat k13b x4 [])] []
def Zp81 : Code := (rgt (rgt (rgt b_f70)))
def Zqm2 (m0 : Nat) : K (ResD R_f70) := sqK E_f70 m0 Zp81 0 K_f70
def Zrm2 (m0 : Nat) : K (ResD R_f70) := Zv 0 (Zqm2 m0)
def Zq81 : Code := (lft (lft (rgt (lft (rgt (rgt b_f70))))))
def Zn3 (m0 n : Nat) : Int → D13a → Int → Int → Option Int := fun x1 x2 x3 x4 => ej E_f70 n (.loop Zq81) 0 (Zo81 x1 x2 x3 x4) (Zrm2 m0)
theorem Zmt1 (m0 n : Nat) : Zn3 m0 (n + 1) = Zza.S0 (Zn3 m0 n) := by kernel_rfl
theorem Zsm2 (m0 : Nat) : ∀ n : Nat, Zn3 m0 n = Zza.l0 n :=
  ind rfl fun n e0 => (Zmt1 m0 n).trans (by rw [e0]; rfl)
theorem Znv2 (m0 : Nat) (x : ArgsD P_f70) : run E_f70 b_f70 m0 x K_f70 = Zza.S (Zn3 m0 m0) x.1 := by kernel_rfl
abbrev Zon : AM.Spec := AM.spec P_f70 R_f70 (fun x => Zza x.1)
theorem c_f70 : Zg Tryz.prog 70 Zon := ctrC tabOk (fn := Tryz.f70) (fun x => (Znv2 fu x).trans (by rw [Zsm2 fu fu]; rfl)) (Ze ⟨⟨Zlt1, Tryz.call105, fun _ => Zd rfl⟩, trivial⟩)
abbrev E_f71 : Env := tab.env (AM.look []) ⟨[], [], [], ⟨tt [4], []⟩, [], [], [], []⟩
def b_f71 : Code := bd Tryz.f71
abbrev R_f71 : List (Ty × List Tag) := [(k13b, [])]
abbrev P_f71 : List PK := [.val k13b, .val k13b]
abbrev K_f71 : K (ResD R_f71) := fin E_f71 [.tmp 4] [] R_f71
theorem Zr81 (m0 : Nat) (x : ArgsD P_f71) : run E_f71 b_f71 m0 x K_f71 = Zqf.o x.1 x.2.1 := by kernel_rfl
theorem Zov2 (m0 : Nat) (x : ArgsD P_f71) : run E_f71 b_f71 m0 x K_f71 = some (Zqf x.1 x.2.1) := (Zr81 m0 x).trans (by unfold Zqf.o Zqf; simp only [Zsi])
abbrev Zbc1 : AM.Spec := AM.spec P_f71 R_f71 (fun x => some (Zqf x.1 x.2.1))
theorem c_f71 : Zg Tryz.prog 71 Zbc1 := ctrC tabOk (fn := Tryz.f71) (fun x => Zov2 fu x) (Ze trivial)
abbrev E_f72 : Env := tab.env (AM.look []) ⟨[], [], [], ⟨tt [2], []⟩, [], [], [], []⟩
def b_f72 : Code := bd Tryz.f72
abbrev R_f72 : List (Ty × List Tag) := [(k13b, [])]
abbrev P_f72 : List PK := [.val k13b]
abbrev K_f72 : K (ResD R_f72) := fin E_f72 [.tmp 2] [] R_f72
abbrev Zcc1 : AM.Spec := AM.spec P_f72 R_f72 (fun x => Zln x.1)
theorem c_f72 : Zg Tryz.prog 72 Zcc1 := ctrC tabOk (fn := Tryz.f72) (show ∀ x, run E_f72 b_f72 fu x K_f72 = _ from fun x => by kernel_rfl) (Ze trivial)
abbrev E_f44 : Env := tab.env (AM.look [(70, Zon), (71, Zbc1), (72, Zcc1)]) ⟨[(0, ⟨tt [1, 6, 7, 8, 37, 38, 39], []⟩), (2, ⟨tt [1, 6, 7, 8, 11, 12, 37, 38, 39], []⟩)], [], [(20, ⟨tt [6, 7, 8], []⟩)], ⟨tt [4, 5], []⟩, [], [70, 71, 72], [], []⟩
def b_f44 : Code := bd Tryz.f44
abbrev R_f44 : List (Ty × List Tag) := [(.str, []), (k13b, [])]
abbrev P_f44 : List PK := [.val k13d, .val k13b]
abbrev K_f44 : K (ResD R_f44) := fin E_f44 [.tmp 4, .tmp 5] [] R_f44
def Zs81 (x20 : D13a) (x21 x22 : Int) : St := mk [(6, .dat k13c x20 [⟨0, 385, 0, 0⟩]), (7, .dat (.int .u64) x21 []), (8, .dat k13b x22 [])] []
def Zt81 (x10 : Int) (x11 : D13a) (x12 x13 : Int) (x14 x15 : Int) (x16 : D13a) (x17 x18 : Int) : St := mk [(1, .dat k13b x10 []), (6, .dat k13c x11 [⟨0, 385, 0, 0⟩]), (7, .dat (.int .u64) x12 []), (8, .dat k13b x13 []), (11, .dat (.int .u64) x14 []), (12, .dat k13b x15 []), (37, .dat k13d x16 []), (38, .dat k13b x17 []), (39, .dat k13b x18 [])] []
def Zu81 (x3 : Int) (x4 : D13a) (x5 x6 : Int) (x7 : D13a) (x8 x9 : Int) : St := mk [(1, .dat k13b x3 []), (6, .dat k13c x4 [⟨0, 385, 0, 0⟩]), (7, .dat (.int .u64) x5 []), (8, .dat k13b x6 []), (37, .dat k13d x7 []), (38, .dat k13b x8 []), (39, .dat k13b x9 [])] []
def Zdc1 : Code := (rgt (rgt (rgt (rgt (rgt (rgt b_f44))))))
def Zar (m0 n : Nat) : D13a → Int → Int → Option D13g := fun x20 x21 x22 => ej E_f44 n (.tail Zdc1) 0 (Zs81 x20 x21 x22) K_f44
theorem Znt1 (m0 n : Nat) : Zar m0 (n + 1) = Zea.S2 := by kernel_rfl
theorem Ztm2 (m0 : Nat) : ∀ n : Nat, Zar m0 n = Zea.t2 n :=
  ind rfl fun n _ => Znt1 m0 n
def Zum2 (m0 : Nat) : K (ResD R_f44) := sqK E_f44 m0 Zdc1 0 K_f44
def Zcj1 (m0 : Nat) : K (ResD R_f44) := Zv 0 (Zum2 m0)
def Zmt : Code := (lft (lft (rgt (lft (rgt (rgt (rgt (rgt (rgt b_f44)))))))))
def Zbr (m0 n : Nat) : Int → D13a → Int → Int → D13a → Int → Int → Option D13g := fun x3 x4 x5 x6 x7 x8 x9 => ej E_f44 n (.loop Zmt) 0 (Zu81 x3 x4 x5 x6 x7 x8 x9) (Zcj1 m0)
def Zvm2 (m0 m1 : Nat) : K (ResD R_f44) := lpK E_f44 m1 Zmt 0 (Zcj1 m0)
def Zv81 : Code := (rgt (rgt (rgt Zmt)))
def Zwm2 (m0 m1 : Nat) : K (ResD R_f44) := sqK E_f44 m1 Zv81 0 (Zvm2 m0 m1)
def Zxm2 (m0 m1 : Nat) : K (ResD R_f44) := Zv 1 (Zwm2 m0 m1)
def Zym2 (m0 m1 : Nat) : K (ResD R_f44) := Zv 2 (Zxm2 m0 m1)
def Zw81 : Code := (lft (lft (rgt (rgt (lft (lft (rgt (rgt Zmt))))))))
def Zqv (m0 m1 n : Nat) : Int → D13a → Int → Int → Int → Int → D13a → Int → Int → Option D13g := fun x10 x11 x12 x13 x14 x15 x16 x17 x18 => ej E_f44 n (.loop Zw81) 2 (Zt81 x10 x11 x12 x13 x14 x15 x16 x17 x18) (Zym2 m0 m1)
theorem Zot1 (m0 m1 n : Nat) : Zqv m0 m1 (n + 1) = Zea.S1 (Zbr m0 m1) (Zqv m0 m1 n) := by kernel_rfl
theorem Zzm2 (m0 m1 : Nat) : ∀ n : Nat, Zqv m0 m1 n = Zea.l1 (Zbr m0 m1) n :=
  ind rfl fun n e1 => (Zot1 m0 m1 n).trans (by rw [e1]; rfl)
theorem Zpt1 (m0 n : Nat) : Zbr m0 (n + 1) = Zea.S0 (Zar m0 m0) (Zqv m0 n n) := by kernel_rfl
theorem Zan2 (m0 : Nat) : ∀ n : Nat, Zbr m0 n = Zea.l0 (Zar m0 m0) n :=
  ind rfl fun n e0 => by
    have e1 : Zqv m0 n n = Zea.l1 (Zea.l0 (Zar m0 m0) n) n := by rw [← e0]; exact Zzm2 m0 n n
    rw [Zpt1 m0 n, e1]; rfl
theorem Zpv2 (m0 : Nat) (x : ArgsD P_f44) : run E_f44 b_f44 m0 x K_f44 = Zea.S (Zbr m0 m0) x.1 x.2.1 := by kernel_rfl
abbrev Zcr : AM.Spec := AM.spec P_f44 R_f44 (fun x => Zea x.1 x.2.1)
theorem c_f44 : Zg Tryz.prog 44 Zcr := ctrC tabOk (fn := Tryz.f44) (show ∀ x, run E_f44 b_f44 fu x K_f44 = _ from fun x => by
  have e2 : Zar fu fu = Zea.t2 fu := Ztm2 fu fu
  have e0 : Zbr fu fu = Zea.l0 (Zea.t2 fu) fu := by rw [← e2]; exact Zan2 fu fu
  refine (Zpv2 fu x).trans ?_
  rw [e0]; rfl) (Ze ⟨⟨c_f70, Tryz.call70, fun _ => Zd rfl⟩, ⟨⟨c_f71, Tryz.call71, fun _ => Zd rfl⟩, ⟨⟨c_f72, Tryz.call72, fun _ => Zd rfl⟩, trivial⟩⟩⟩)
abbrev E_f24 : Env := tab.env (AM.look [(41, Zim), (40, Zft1), (43, Zk3), (44, Zcr)]) ⟨[(0, ⟨tt [4, 5, 22, 23, 24], tt [11, 21]⟩)], [], [(11, ⟨tt [4, 5], tt [11, 21]⟩)], ⟨tt [2, 3], tt [11]⟩, [5, 11, 21, 31, 36], [43, 44], [(40, [true])], []⟩
def b_f24 : Code := bd Tryz.f24
abbrev R_f24 : List (Ty × List Tag) := [(.str, []), (k13h, [])]
abbrev P_f24 : List PK := [.val k13h]
abbrev K_f24 : K (ResD R_f24) := fin E_f24 [.tmp 2, .tmp 3] [] R_f24
def Zqv2 (x11 x12 : Nat) (x13 : D13u) (x14 : D13a) : St := mk [(4, .slm 11 0 x11 x12), (5, .slw 21 0)] [(11, some (.arr k13g x13 false)), (21, some (.arr k13b x14 false))]
def Zx81 (x3 x4 : Nat) (x5 : D13u) (x6 x7 : Int) (x8 : D13u) (x9 : D13a) : St := mk [(4, .slm 11 0 x3 x4), (5, .slw 21 0), (22, .dat k13h x5 []), (23, .dat k13b x6 []), (24, .dat k13b x7 [])] [(11, some (.arr k13g x8 false)), (21, some (.arr k13b x9 false))]
def Zqt1 : Code := (rgt (rgt (rgt (rgt (rgt b_f24)))))
def Zrv (m0 n : Nat) : Nat → Nat → D13u → D13a → Option D13z := fun x11 x12 x13 x14 => ej E_f24 n (.tail Zqt1) 0 (Zqv2 x11 x12 x13 x14) K_f24
theorem Zrt1 (m0 n : Nat) : Zrv m0 (n + 1) = Zoa.S1 := by kernel_rfl
theorem J_f42 (m0 : Nat) : ∀ n : Nat, Zrv m0 n = Zoa.t1 n :=
  ind rfl fun n _ => Zrt1 m0 n
def q_f42 (m0 : Nat) : K (ResD R_f24) := sqK E_f24 m0 Zqt1 0 K_f24
def Zbn2 (m0 : Nat) : K (ResD R_f24) := Zv 0 (q_f42 m0)
def Zy81 : Code := (lft (lft (rgt (lft (rgt (rgt (rgt (rgt b_f24))))))))
def Zsv (m0 n : Nat) : Nat → Nat → D13u → Int → Int → D13u → D13a → Option D13z := fun x3 x4 x5 x6 x7 x8 x9 => ej E_f24 n (.loop Zy81) 0 (Zx81 x3 x4 x5 x6 x7 x8 x9) (Zbn2 m0)
theorem Zst1 (m0 n : Nat) : Zsv m0 (n + 1) = Zoa.S0 (Zrv m0 m0) (Zsv m0 n) := by kernel_rfl
theorem Zcn2 (m0 : Nat) : ∀ n : Nat, Zsv m0 n = Zoa.l0 (Zrv m0 m0) n :=
  ind rfl fun n e0 => (Zst1 m0 n).trans (by rw [e0]; rfl)
theorem Zrv2 (m0 : Nat) (x : ArgsD P_f24) : run E_f24 b_f24 m0 x K_f24 = Zoa.S (Zsv m0 m0) x.1 := by kernel_rfl
abbrev Ztt1 : AM.Spec := AM.spec P_f24 R_f24 (fun x => Zoa x.1)
theorem c_f24 : Zg Tryz.prog 24 Ztt1 := ctrC tabOk (fn := Tryz.f24) (show ∀ x, run E_f24 b_f24 fu x K_f24 = _ from fun x => by
  have e1 : Zrv fu fu = Zoa.t1 fu := J_f42 fu fu
  have e0 : Zsv fu fu = Zoa.l0 (Zoa.t1 fu) fu := by rw [← e1]; exact Zcn2 fu fu
  refine (Zrv2 fu x).trans ?_
  rw [e0]; rfl) (Ze ⟨⟨Ziy, Tryz.call41, nw⟩, ⟨⟨c_f40, Tryz.call40, nw⟩, ⟨⟨c_f43, Tryz.call43, fun _ => Zd rfl⟩, ⟨⟨c_f44, Tryz.call44, fun _ => Zd rfl⟩, trivial⟩⟩⟩⟩)
abbrev E_f73 : Env := tab.env (AM.look []) ⟨[(0, ⟨tt [3, 11, 12, 13], []⟩), (2, ⟨tt [3, 6, 11, 12, 13, 19], []⟩)], [], [], ⟨tt [2], []⟩, [], [], [], []⟩
def b_f73 : Code := bd Tryz.f73
abbrev R_f73 : List (Ty × List Tag) := [(.str, [])]
abbrev P_f73 : List PK := [.val k13d]
abbrev K_f73 : K (ResD R_f73) := fin E_f73 [.tmp 2] [] R_f73
def Zz81 (x5 : D13a) (x6 : Int) (x7 : D13a) (x8 x9 x10 : Int) : St := mk [(3, .dat k13c x5 [⟨0, 193, 0, 0⟩]), (6, .dat (.int .u64) x6 []), (11, .dat k13d x7 []), (12, .dat k13b x8 []), (13, .dat k13b x9 []), (19, .dat k13b x10 [])] []
def Za91 (x1 x2 : D13a) (x3 x4 : Int) : St := mk [(3, .dat k13c x1 [⟨0, 193, 0, 0⟩]), (11, .dat k13d x2 []), (12, .dat k13b x3 []), (13, .dat k13b x4 [])] []
def Zb91 : Code := (rgt (rgt (rgt b_f73)))
def Zdn2 (m0 : Nat) : K (ResD R_f73) := sqK E_f73 m0 Zb91 0 K_f73
def Zdj1 (m0 : Nat) : K (ResD R_f73) := Zv 0 (Zdn2 m0)
def Znt : Code := (lft (lft (rgt (lft (rgt (rgt b_f73))))))
def Ztv (m0 n : Nat) : D13a → D13a → Int → Int → Option ByteArray := fun x1 x2 x3 x4 => ej E_f73 n (.loop Znt) 0 (Za91 x1 x2 x3 x4) (Zdj1 m0)
def Zen2 (m0 m1 : Nat) : K (ResD R_f73) := lpK E_f73 m1 Znt 0 (Zdj1 m0)
def Zc91 : Code := (rgt (rgt (rgt Znt)))
def Zfn2 (m0 m1 : Nat) : K (ResD R_f73) := sqK E_f73 m1 Zc91 0 (Zen2 m0 m1)
def Zgn2 (m0 m1 : Nat) : K (ResD R_f73) := Zv 1 (Zfn2 m0 m1)
def Zhn2 (m0 m1 : Nat) : K (ResD R_f73) := Zv 2 (Zgn2 m0 m1)
def Zd91 : Code := (lft (lft (rgt (rgt (rgt (lft (lft (rgt (rgt Znt)))))))))
def Zuv (m0 m1 n : Nat) : D13a → Int → D13a → Int → Int → Int → Option ByteArray := fun x5 x6 x7 x8 x9 x10 => ej E_f73 n (.loop Zd91) 2 (Zz81 x5 x6 x7 x8 x9 x10) (Zhn2 m0 m1)
theorem Zut1 (m0 m1 n : Nat) : Zuv m0 m1 (n + 1) = Zca.S1 (Ztv m0 m1) (Zuv m0 m1 n) := by kernel_rfl
theorem Zin2 (m0 m1 : Nat) : ∀ n : Nat, Zuv m0 m1 n = Zca.l1 (Ztv m0 m1) n :=
  ind rfl fun n e1 => (Zut1 m0 m1 n).trans (by rw [e1]; rfl)
theorem Zvt1 (m0 n : Nat) : Ztv m0 (n + 1) = Zca.S0 (Zuv m0 n n) := by kernel_rfl
theorem Zjn2 (m0 : Nat) : ∀ n : Nat, Ztv m0 n = Zca.l0 n :=
  ind rfl fun n e0 => by
    have e1 : Zuv m0 n n = Zca.l1 (Zca.l0 n) n := by rw [← e0]; exact Zin2 m0 n n
    rw [Zvt1 m0 n, e1]; rfl
theorem Zsv2 (m0 : Nat) (x : ArgsD P_f73) : run E_f73 b_f73 m0 x K_f73 = Zca.S (Ztv m0 m0) x.1 := by kernel_rfl
abbrev Zwt1 : AM.Spec := AM.spec P_f73 R_f73 (fun x => Zca x.1)
theorem c_f73 : Zg Tryz.prog 73 Zwt1 := ctrC tabOk (fn := Tryz.f73) (fun x => (Zsv2 fu x).trans (by rw [Zjn2 fu fu]; rfl)) (Ze trivial)
abbrev E_f75 : Env := tab.env (AM.look []) ⟨[(0, ⟨tt [0, 3, 9, 10, 11], tt [3]⟩)], [], [], ⟨tt [2], tt [2, 3]⟩, [2, 3, 27, 32, 33, 34, 44], [], [], []⟩
def b_f75 : Code := bd Tryz.f75
abbrev R_f75 : List (Ty × List Tag) := [(k13j, [])]
abbrev P_f75 : List PK := [.val k13d]
abbrev K_f75 : K (ResD R_f75) := fin E_f75 [.tmp 2] [] R_f75
def Ze91 (x1 x2 : D13a) (x3 x4 : Int) (x5 : D13o) : St := mk [(0, .dat k13d x1 []), (3, .slw 3 0), (9, .dat k13d x2 []), (10, .dat k13b x3 []), (11, .dat k13b x4 [])] [(3, some (.arr k13i x5 false))]
def Zf91 : Code := (rgt (rgt (rgt (rgt b_f75))))
def Zkn2 (m0 : Nat) : K (ResD R_f75) := sqK E_f75 m0 Zf91 0 K_f75
def Zln2 (m0 : Nat) : K (ResD R_f75) := Zv 0 (Zkn2 m0)
def Zg91 : Code := (lft (lft (rgt (lft (rgt (rgt (rgt b_f75)))))))
def Zo3 (m0 n : Nat) : D13a → D13a → Int → Int → D13o → Option D13q := fun x1 x2 x3 x4 x5 => ej E_f75 n (.loop Zg91) 0 (Ze91 x1 x2 x3 x4 x5) (Zln2 m0)
theorem Zxt1 (m0 n : Nat) : Zo3 m0 (n + 1) = Zjd.S0 (Zo3 m0 n) := by kernel_rfl
theorem Zmn2 (m0 : Nat) : ∀ n : Nat, Zo3 m0 n = Zjd.l0 n :=
  ind rfl fun n e0 => (Zxt1 m0 n).trans (by rw [e0]; rfl)
theorem Ztv2 (m0 : Nat) (x : ArgsD P_f75) : run E_f75 b_f75 m0 x K_f75 = Zjd.S (Zo3 m0 m0) x.1 := by kernel_rfl
abbrev Zec1 : AM.Spec := AM.spec P_f75 R_f75 (fun x => Zjd x.1)
theorem c_f75 : Zg Tryz.prog 75 Zec1 := ctrC tabOk (fn := Tryz.f75) (fun x => (Ztv2 fu x).trans (by rw [Zmn2 fu fu]; rfl)) (Ze trivial)
abbrev Zp3 : Env := tab.env (AM.look []) ⟨[(0, ⟨tt [0, 4, 7, 8, 9], []⟩)], [], [], ⟨tt [2, 3], []⟩, [], [], [], []⟩
def Zfc1 : Code := bd Tryz.f106
abbrev Zvv : List (Ty × List Tag) := [(k13b, []), (.bool, [])]
abbrev Zyt1 : List PK := [.val k13j]
abbrev Zzt1 : K (ResD Zvv) := fin Zp3 [.tmp 2, .tmp 3] [] Zvv
def Zau1 (x1 : D13o) (x2 : Int) (x3 : D13o) (x4 x5 : Int) : St := mk [(0, .dat k13j x1 []), (4, .dat k13b x2 []), (7, .dat k13j x3 []), (8, .dat k13b x4 []), (9, .dat k13b x5 [])] []
def Zbu1 : Code := (rgt (rgt (rgt Zfc1)))
def Zh91 (m0 : Nat) : K (ResD Zvv) := sqK Zp3 m0 Zbu1 0 Zzt1
def Zi91 (m0 : Nat) : K (ResD Zvv) := Zv 0 (Zh91 m0)
def Zcu1 : Code := (lft (lft (rgt (lft (rgt (rgt Zfc1))))))
def Zlz (m0 n : Nat) : D13o → Int → D13o → Int → Int → Option (Int × Bool) := fun x1 x2 x3 x4 x5 => ej Zp3 n (.loop Zcu1) 0 (Zau1 x1 x2 x3 x4 x5) (Zi91 m0)
theorem Zsn1 (m0 n : Nat) : Zlz m0 (n + 1) = Zqc.S0 (Zlz m0 n) := by kernel_rfl
theorem Zj91 (m0 : Nat) : ∀ n : Nat, Zlz m0 n = Zqc.l0 n :=
  ind rfl fun n e0 => (Zsn1 m0 n).trans (by rw [e0]; rfl)
theorem Znn2 (m0 : Nat) (x : ArgsD Zyt1) : run Zp3 Zfc1 m0 x Zzt1 = Zqc.S (Zlz m0 m0) x.1 := by kernel_rfl
abbrev Zmz : AM.Spec := AM.spec Zyt1 Zvv (fun x => Zqc x.1)
theorem Zgc1 : Zg Tryz.prog 106 Zmz := ctrC tabOk (fn := Tryz.f106) (fun x => (Znn2 fu x).trans (by rw [Zj91 fu fu]; rfl)) (Ze trivial)
abbrev Zdu1 : Env := tab.env (AM.look []) ⟨[], [], [], ⟨tt [2], []⟩, [], [], [], []⟩
def Zuv2 : Code := bd Tryz.f118
abbrev Zhc1 : List (Ty × List Tag) := [(k13b, [])]
abbrev Zvv2 : List PK := [.val k13b]
abbrev Zwv2 : K (ResD Zhc1) := fin Zdu1 [.tmp 2] [] Zhc1
abbrev Zt6 : AM.Spec := AM.spec Zvv2 Zhc1 (fun x => some (Zjb x.1))
theorem Zeu1 : Zg Tryz.prog 118 Zt6 := ctrC tabOk (fn := Tryz.f118) (show ∀ x, run Zdu1 Zuv2 fu x Zwv2 = _ from fun x => by kernel_rfl) (Ze trivial)
abbrev E_f81 : Env := tab.env (AM.look [(118, Zt6)]) ⟨[(0, ⟨tt [3, 4, 5], tt [3]⟩)], [], [(7, ⟨tt [3, 4, 5], tt [3]⟩)], ⟨tt [2], []⟩, [], [118], [], []⟩
def b_f81 : Code := bd Tryz.f81
abbrev R_f81 : List (Ty × List Tag) := [(.str, [])]
abbrev P_f81 : List PK := [.val k13b]
abbrev K_f81 : K (ResD R_f81) := fin E_f81 [.tmp 2] [] R_f81
def Zk91 (x5 x6 : Int) (x7 : D13a) : St := mk [(3, .ptr 3 0 0), (4, .dat (.int .u64) x5 []), (5, .dat k13b x6 [])] [(3, some (.arr (.int .u8) x7 false))]
def Zl91 (x2 x3 : Int) (x4 : D13a) : St := mk [(3, .ptr 3 0 0), (4, .dat (.int .u64) x2 []), (5, .dat k13b x3 [])] [(3, some (.arr (.int .u8) x4 false))]
def Zic1 : Code := (rgt (rgt (rgt (rgt b_f81))))
def Zwv (m0 n : Nat) : Int → Int → D13a → Option ByteArray := fun x5 x6 x7 => ej E_f81 n (.tail Zic1) 0 (Zk91 x5 x6 x7) K_f81
theorem Zfu1 (m0 n : Nat) : Zwv m0 (n + 1) = Zva.S1 := by kernel_rfl
theorem Zon2 (m0 : Nat) : ∀ n : Nat, Zwv m0 n = Zva.t1 n :=
  ind rfl fun n _ => Zfu1 m0 n
def Zpn2 (m0 : Nat) : K (ResD R_f81) := sqK E_f81 m0 Zic1 0 K_f81
def Zqn2 (m0 : Nat) : K (ResD R_f81) := Zv 0 (Zpn2 m0)
def Zm91 : Code := (lft (lft (lft (rgt (rgt (rgt b_f81))))))
def Zxv (m0 n : Nat) : Int → Int → D13a → Option ByteArray := fun x2 x3 x4 => ej E_f81 n (.loop Zm91) 0 (Zl91 x2 x3 x4) (Zqn2 m0)
theorem Zgu1 (m0 n : Nat) : Zxv m0 (n + 1) = Zva.S0 (Zwv m0 m0) (Zxv m0 n) := by kernel_rfl
theorem Zrn2 (m0 : Nat) : ∀ n : Nat, Zxv m0 n = Zva.l0 (Zwv m0 m0) n :=
  ind rfl fun n e0 => (Zgu1 m0 n).trans (by rw [e0]; rfl)
theorem Zxv2 (m0 : Nat) (x : ArgsD P_f81) : run E_f81 b_f81 m0 x K_f81 = Zva.S (Zxv m0 m0) x.1 := by kernel_rfl
abbrev Zxo : AM.Spec := AM.spec P_f81 R_f81 (fun x => Zva x.1)
theorem c_f81 : Zg Tryz.prog 81 Zxo := ctrC tabOk (fn := Tryz.f81) (show ∀ x, run E_f81 b_f81 fu x K_f81 = _ from fun x => by
  have e1 : Zwv fu fu = Zva.t1 fu := Zon2 fu fu
  have e0 : Zxv fu fu = Zva.l0 (Zva.t1 fu) fu := by rw [← e1]; exact Zrn2 fu fu
  refine (Zxv2 fu x).trans ?_
  rw [e0]; rfl) (Ze ⟨⟨Zeu1, Tryz.call118, fun _ => Zd rfl⟩, trivial⟩)
abbrev Zhu1 : Env := tab.env (AM.look [(138, Zep)]) ⟨[], [], [], ⟨tt [4, 5], tt [1000000]⟩, [], [], [], []⟩
def Zyv2 : Code := bd Tryz.f107
abbrev Zjc1 : List (Ty × List Tag) := [(k13b, []), ((.lk true), []), ((.pair (.lk false) k13c), [⟨1, 1, 0, 0⟩])]
abbrev Zzv2 : List PK := [.io (.pair (.lk false) k13c) [(1, 0)], .val .str]
abbrev Zaw2 : K (ResD Zjc1) := fin Zhu1 [.tmp 4, .tmp 5] [.io (.pair (.lk false) k13c) [(1, 0)]] Zjc1
abbrev Znz : AM.Spec := AM.Zaf 2 Zzv2 Zjc1 (fun x => Zlc x.1 x.2.1)
theorem Zkc1 : Zg Tryz.prog 107 Znz := ctrI tabOk (fn := Tryz.f107) (show ∀ x, run Zhu1 Zyv2 fu x Zaw2 = _ from fun x => by kernel_rfl) (Ze ⟨⟨Zy0, Tryz.call138, nw⟩, trivial⟩)
abbrev E_f74 : Env := tab.env (AM.look [(106, Zmz), (81, Zxo), (107, Znz), (108, Zok)]) ⟨[(0, ⟨tt [6, 16, 17, 18], tt [6]⟩)], [], [], ⟨tt [2, 3], []⟩, [], [81, 106], [], []⟩
def b_f74 : Code := bd Tryz.f74
abbrev R_f74 : List (Ty × List Tag) := [(.str, []), (k13b, [])]
abbrev P_f74 : List PK := [.val k13j]
abbrev K_f74 : K (ResD R_f74) := fin E_f74 [.tmp 2, .tmp 3] [] R_f74
def Zn91 (x2 : D13o) (x3 x4 : Int) (x5 : D13j) : St := mk [(6, .ptr 6 0 0), (16, .dat k13j x2 []), (17, .dat k13b x3 []), (18, .dat k13b x4 [])] [(6, some (.var (.pair (.lk false) k13c) x5 [⟨1, 64386, 0, 0⟩]))]
def Zo91 : Code := (rgt (rgt (rgt (rgt b_f74))))
def Zsn2 (m0 : Nat) : K (ResD R_f74) := sqK E_f74 m0 Zo91 0 K_f74
def Ztn2 (m0 : Nat) : K (ResD R_f74) := Zv 0 (Zsn2 m0)
def Zp91 : Code := (lft (lft (rgt (lft (rgt (rgt (rgt b_f74)))))))
def Zq3 (m0 n : Nat) : D13o → Int → Int → D13j → Option D13g := fun x2 x3 x4 x5 => ej E_f74 n (.loop Zp91) 0 (Zn91 x2 x3 x4 x5) (Ztn2 m0)
theorem Ziu1 (m0 n : Nat) : Zq3 m0 (n + 1) = Zbd.S0 (Zq3 m0 n) := by kernel_rfl
theorem Zun2 (m0 : Nat) : ∀ n : Nat, Zq3 m0 n = Zbd.l0 n :=
  ind rfl fun n e0 => (Ziu1 m0 n).trans (by rw [e0]; rfl)
theorem Zbw2 (m0 : Nat) (x : ArgsD P_f74) : run E_f74 b_f74 m0 x K_f74 = Zbd.S (Zq3 m0 m0) x.1 := by kernel_rfl
abbrev Zlc1 : AM.Spec := AM.spec P_f74 R_f74 (fun x => Zbd x.1)
theorem c_f74 : Zg Tryz.prog 74 Zlc1 := ctrC tabOk (fn := Tryz.f74) (fun x => (Zbw2 fu x).trans (by rw [Zun2 fu fu]; rfl)) (Ze ⟨⟨Zgc1, Tryz.call106, fun _ => Zd rfl⟩, ⟨⟨c_f81, Tryz.call81, fun _ => Zd rfl⟩, ⟨⟨Zkc1, Tryz.call107, nw⟩, ⟨⟨Zfp, Tryz.call108, nw⟩, trivial⟩⟩⟩⟩)
abbrev Zju1 : Env := tab.env (AM.look []) ⟨[], [], [], ⟨tt [4], []⟩, [], [], [], []⟩
def Zcw2 : Code := bd Tryz.f139
abbrev Zmc1 : List (Ty × List Tag) := [(k13b, [])]
abbrev Zdw2 : List PK := [.val k13b, .val k13b]
abbrev Zew2 : K (ResD Zmc1) := fin Zju1 [.tmp 4] [] Zmc1
abbrev Zej1 : AM.Spec := AM.spec Zdw2 Zmc1 (fun x => some (Zmn x.1 x.2.1))
theorem Zfw2 : Zg Tryz.prog 139 Zej1 := ctrC tabOk (fn := Tryz.f139) (show ∀ x, run Zju1 Zcw2 fu x Zew2 = _ from fun x => by kernel_rfl) (Ze trivial)
abbrev Zyv : Env := tab.env (AM.look []) ⟨[(0, ⟨tt [0, 3, 4], []⟩)], [], [(3, ⟨tt [0], []⟩)], ⟨tt [2], []⟩, [], [], [], []⟩
def Zr3 : Code := bd Tryz.f140
abbrev Zzv : List (Ty × List Tag) := [(k13b, [])]
abbrev Zku1 : List PK := [.val k13d]
abbrev Znc1 : K (ResD Zzv) := fin Zyv [.tmp 2] [] Zzv
def Zlu1 (x2 : D13a) (x3 x4 : Int) : St := mk [(0, .dat k13d x2 []), (3, .dat k13b x3 []), (4, .dat k13b x4 [])] []
def Zmu1 (x1 : D13a) : St := mk [(0, .dat k13d x1 [])] []
def Znu1 : Code := (rgt (rgt (rgt (rgt Zr3))))
def Zq91 (m0 m1 : Nat) : K (ResD Zzv) := sqK Zyv m1 Znu1 0 Znc1
def Zr91 (m0 m1 : Nat) : K (ResD Zzv) := Zv 0 (Zq91 m0 m1)
def Zou1 : Code := (lft (lft (rgt (lft (rgt (rgt (rgt Zr3)))))))
def Zdr (m0 m1 n : Nat) : D13a → Int → Int → Option Int := fun x2 x3 x4 => ej Zyv n (.loop Zou1) 0 (Zlu1 x2 x3 x4) (Zr91 m0 m1)
theorem Ztn1 (m0 m1 n : Nat) : Zdr m0 m1 (n + 1) = Zw.S1 (Zdr m0 m1 n) := by kernel_rfl
theorem Zs91 (m0 m1 : Nat) : ∀ n : Nat, Zdr m0 m1 n = Zw.l1 n :=
  ind rfl fun n e1 => (Ztn1 m0 m1 n).trans (by rw [e1]; rfl)
def Zpu1 : Code := (rgt (rgt Zr3))
def Zu6 (m0 n : Nat) : D13a → Option Int := fun x1 => ej Zyv n (.tail Zpu1) 0 (Zmu1 x1) Znc1
theorem Zun1 (m0 n : Nat) : Zu6 m0 (n + 1) = Zw.S0 (Zdr m0 n n) := by kernel_rfl
theorem Zt91 (m0 : Nat) : ∀ n : Nat, Zu6 m0 n = Zw.t0 n :=
  ind rfl fun n e0 => by
    have e1 : Zdr m0 n n = Zw.l1 n := Zs91 m0 n n
    rw [Zun1 m0 n, e1]; rfl
theorem Zvn2 (m0 : Nat) (x : ArgsD Zku1) : run Zyv Zr3 m0 x Znc1 = Zw.S (Zu6 m0 m0) x.1 := by kernel_rfl
abbrev Zfj1 : AM.Spec := AM.spec Zku1 Zzv (fun x => Zw x.1)
theorem Zgw2 : Zg Tryz.prog 140 Zfj1 := ctrC tabOk (fn := Tryz.f140) (fun x => (Zvn2 fu x).trans (by rw [Zt91 fu fu]; rfl)) (Ze trivial)
abbrev Zpn : Env := tab.env (AM.look [(139, Zej1), (140, Zfj1)]) ⟨[(0, ⟨tt [0, 4, 5], tt [10]⟩), (2, ⟨tt [4, 6, 33, 34], tt [10]⟩)], [], [(6, ⟨tt [4], tt [10]⟩)], ⟨tt [2, 3], tt [10]⟩, [2, 4, 10, 17, 29, 30, 32, 37, 40, 47], [139, 140], [], [28]⟩
def Zer : Code := bd Tryz.f109
abbrev Zyo : List (Ty × List Tag) := [(k13d, []), (k13b, [])]
abbrev Zqu1 : List PK := [.val k13d]
abbrev Zaw : K (ResD Zyo) := fin Zpn [.tmp 2, .tmp 3] [] Zyo
def Zru1 (x7 x8 x9 : Int) (x10 : D13a) : St := mk [(4, .slw 10 0), (6, .dat k13b x7 []), (33, .dat k13b x8 []), (34, .dat k13b x9 [])] [(10, some (.arr k13b x10 false))]
def Zsu1 (x5 : D13a) : St := mk [(4, .slw 10 0)] [(10, some (.arr k13b x5 false))]
def Ztu1 (x1 : D13a) (x2 : Int) (x3 : D13a) : St := mk [(0, .dat k13d x1 []), (4, .slw 10 0), (5, .dat k13b x2 [])] [(10, some (.arr k13b x3 false))]
def Zuu1 : Code := (rgt (rgt (rgt (rgt (rgt Zer)))))
def Zu91 (m0 m1 : Nat) : K (ResD Zyo) := sqK Zpn m1 Zuu1 0 Zaw
def Zv91 (m0 m1 : Nat) : K (ResD Zyo) := Zv 2 (Zu91 m0 m1)
def Zvu1 : Code := (lft (lft (rgt (lft (rgt (rgt (rgt (rgt Zer))))))))
def Zfr (m0 m1 n : Nat) : Int → Int → Int → D13a → Option D13h := fun x7 x8 x9 x10 => ej Zpn n (.loop Zvu1) 2 (Zru1 x7 x8 x9 x10) (Zv91 m0 m1)
theorem Zvn1 (m0 m1 n : Nat) : Zfr m0 m1 (n + 1) = Zy.S2 (Zfr m0 m1 n) := by kernel_rfl
theorem Zw91 (m0 m1 : Nat) : ∀ n : Nat, Zfr m0 m1 n = Zy.l2 n :=
  ind rfl fun n e2 => (Zvn1 m0 m1 n).trans (by rw [e2]; rfl)
def Ze8 : Code := (rgt (rgt (rgt Zer)))
def Zgr (m0 n : Nat) : D13a → Option D13h := fun x5 => ej Zpn n (.tail Ze8) 0 (Zsu1 x5) Zaw
theorem Zwn1 (m0 n : Nat) : Zgr m0 (n + 1) = Zy.S1 (Zfr m0 n n) := by kernel_rfl
theorem Zx91 (m0 : Nat) : ∀ n : Nat, Zgr m0 n = Zy.t1 n :=
  ind rfl fun n e1 => by
    have e2 : Zfr m0 n n = Zy.l2 n := Zw91 m0 n n
    rw [Zwn1 m0 n, e2]; rfl
def Zy91 (m0 : Nat) : K (ResD Zyo) := sqK Zpn m0 Ze8 0 Zaw
def Zz91 (m0 : Nat) : K (ResD Zyo) := Zv 0 (Zy91 m0)
def Zwu1 : Code := (lft (lft (rgt (lft (rgt (rgt Zer))))))
def Zhr (m0 n : Nat) : D13a → Int → D13a → Option D13h := fun x1 x2 x3 => ej Zpn n (.loop Zwu1) 0 (Ztu1 x1 x2 x3) (Zz91 m0)
theorem Zxn1 (m0 n : Nat) : Zhr m0 (n + 1) = Zy.S0 (Zgr m0 m0) (Zhr m0 n) := by kernel_rfl
theorem Zab2 (m0 : Nat) : ∀ n : Nat, Zhr m0 n = Zy.l0 (Zgr m0 m0) n :=
  ind rfl fun n e0 => (Zxn1 m0 n).trans (by rw [e0]; rfl)
theorem Zwn2 (m0 : Nat) (x : ArgsD Zqu1) : run Zpn Zer m0 x Zaw = Zy.S (Zhr m0 m0) x.1 := by kernel_rfl
abbrev Zgj1 : AM.Spec := AM.spec Zqu1 Zyo (fun x => Zy x.1)
theorem Zhw2 : Zg Tryz.prog 109 Zgj1 := ctrC tabOk (fn := Tryz.f109) (show ∀ x, run Zpn Zer fu x Zaw = _ from fun x => by
  have e1 : Zgr fu fu = Zy.t1 fu := Zx91 fu fu
  have e0 : Zhr fu fu = Zy.l0 (Zy.t1 fu) fu := by rw [← e1]; exact Zab2 fu fu
  refine (Zwn2 fu x).trans ?_
  rw [e0]; rfl) (Ze ⟨⟨Zfw2, Tryz.call139, fun _ => Zd rfl⟩, ⟨⟨Zgw2, Tryz.call140, fun _ => Zd rfl⟩, trivial⟩⟩)
abbrev E_f76 : Env := tab.env (AM.look [(81, Zxo), (109, Zgj1), (70, Zon), (44, Zcr)]) ⟨[], [], [], ⟨tt [2, 3], []⟩, [], [44, 70, 81], [], [47]⟩
def b_f76 : Code := bd Tryz.f76
abbrev R_f76 : List (Ty × List Tag) := [(.str, []), (k13b, [])]
abbrev P_f76 : List PK := [.val k13d]
abbrev K_f76 : K (ResD R_f76) := fin E_f76 [.tmp 2, .tmp 3] [] R_f76
abbrev Zoc1 : AM.Spec := AM.spec P_f76 R_f76 (fun x => Znn x.1)
theorem c_f76 : Zg Tryz.prog 76 Zoc1 := ctrC tabOk (fn := Tryz.f76) (show ∀ x, run E_f76 b_f76 fu x K_f76 = _ from fun x => by kernel_rfl) (Ze ⟨⟨c_f81, Tryz.call81, fun _ => Zd rfl⟩, ⟨⟨Zhw2, Tryz.call109, nw⟩, ⟨⟨c_f70, Tryz.call70, fun _ => Zd rfl⟩, ⟨⟨c_f44, Tryz.call44, fun _ => Zd rfl⟩, trivial⟩⟩⟩⟩)
abbrev Zxu1 : Env := tab.env (AM.look []) ⟨[], [], [], ⟨tt [2], []⟩, [], [], [], []⟩
def Ziw2 : Code := bd Tryz.f200
abbrev Zpc1 : List (Ty × List Tag) := [(.bool, [])]
abbrev Zjw2 : List PK := [.val k13b]
abbrev Zkw2 : K (ResD Zpc1) := fin Zxu1 [.tmp 2] [] Zpc1
abbrev Zhj1 : AM.Spec := AM.spec Zjw2 Zpc1 (fun x => some (cmp_isNaN_int x.1))
theorem Zlw2 : Zg Tryz.prog 200 Zhj1 := ctrC tabOk (fn := Tryz.f200) (show ∀ x, run Zxu1 Ziw2 fu x Zkw2 = _ from fun x => by kernel_rfl) (Ze trivial)
abbrev Zqc1 : Env := tab.env (AM.look [(200, Zhj1)]) ⟨[], [], [], ⟨tt [4], []⟩, [], [200], [], []⟩
def Zyu1 : Code := bd Tryz.f182
abbrev Zrc1 : List (Ty × List Tag) := [(.bool, [])]
abbrev Zsc1 : List PK := [.val k13b, .val k13b]
abbrev Zzu1 : K (ResD Zrc1) := fin Zqc1 [.tmp 4] [] Zrc1
theorem Zav1 (m0 : Nat) (x : ArgsD Zsc1) : run Zqc1 Zyu1 m0 x Zzu1 = cmp_Less_int.o x.1 x.2.1 := by kernel_rfl
theorem Zxn2 (m0 : Nat) (x : ArgsD Zsc1) : run Zqc1 Zyu1 m0 x Zzu1 = some (cmp_Less_int x.1 x.2.1) := (Zav1 m0 x).trans (by unfold cmp_Less_int.o cmp_Less_int; simp only [Zsi])
abbrev Zij1 : AM.Spec := AM.spec Zsc1 Zrc1 (fun x => some (cmp_Less_int x.1 x.2.1))
theorem Zmw2 : Zg Tryz.prog 182 Zij1 := ctrC tabOk (fn := Tryz.f182) (fun x => Zxn2 fu x) (Ze ⟨⟨Zlw2, Tryz.call200, fun _ => Zd rfl⟩, trivial⟩)
abbrev Zbv1 : Env := tab.env (AM.look []) ⟨[], [], [], ⟨tt [2], []⟩, [], [], [], []⟩
def Znw2 : Code := bd Tryz.f183
abbrev Ztc1 : List (Ty × List Tag) := [(.bool, [])]
abbrev Zow2 : List PK := [.val k13b]
abbrev Zpw2 : K (ResD Ztc1) := fin Zbv1 [.tmp 2] [] Ztc1
abbrev Zjj1 : AM.Spec := AM.spec Zow2 Ztc1 (fun x => some (Ztk x.1))
theorem Zqw2 : Zg Tryz.prog 183 Zjj1 := ctrC tabOk (fn := Tryz.f183) (show ∀ x, run Zbv1 Znw2 fu x Zpw2 = _ from fun x => by kernel_rfl) (Ze trivial)
abbrev Zir : Env := tab.env (AM.look [(182, Zij1), (183, Zjj1)]) ⟨[(0, ⟨tt [0, 1, 6, 7, 8], []⟩)], [], [(8, ⟨tt [0, 1, 6, 7], []⟩)], ⟨tt [4, 5], []⟩, [], [182, 183], [], []⟩
def Zs3 : Code := bd Tryz.f163
abbrev Zbw : List (Ty × List Tag) := [(k13b, []), (.bool, [])]
abbrev Zcv1 : List PK := [.val k13d, .val k13b]
abbrev Zt3 : K (ResD Zbw) := fin Zir [.tmp 4, .tmp 5] [] Zbw
def Zdv1 (x7 : D13a) (x8 x9 x10 : Int) : St := mk [(0, .dat k13d x7 []), (1, .dat k13b x8 []), (6, .dat k13b x9 []), (7, .dat k13b x10 [])] []
def Zev1 (x1 : D13a) (x2 x3 : Int) (x4 x5 : Int) : St := mk [(0, .dat k13d x1 []), (1, .dat k13b x2 []), (6, .dat k13b x3 []), (7, .dat k13b x4 []), (8, .dat k13b x5 [])] []
def Zf8 : Code := (rgt (rgt (rgt (rgt Zs3))))
def Zjr (m0 n : Nat) : D13a → Int → Int → Int → Option (Int × Bool) := fun x7 x8 x9 x10 => ej Zir n (.tail Zf8) 0 (Zdv1 x7 x8 x9 x10) Zt3
theorem Zyn1 (m0 n : Nat) : Zjr m0 (n + 1) = Zq.S1 := by kernel_rfl
theorem Zbb2 (m0 : Nat) : ∀ n : Nat, Zjr m0 n = Zq.t1 n :=
  ind rfl fun n _ => Zyn1 m0 n
def Zcb2 (m0 : Nat) : K (ResD Zbw) := sqK Zir m0 Zf8 0 Zt3
def Zdb2 (m0 : Nat) : K (ResD Zbw) := Zv 0 (Zcb2 m0)
def Zfv1 : Code := (lft (lft (lft (rgt (rgt (rgt Zs3))))))
def Zkr (m0 n : Nat) : D13a → Int → Int → Int → Int → Option (Int × Bool) := fun x1 x2 x3 x4 x5 => ej Zir n (.loop Zfv1) 0 (Zev1 x1 x2 x3 x4 x5) (Zdb2 m0)
theorem Zzn1 (m0 n : Nat) : Zkr m0 (n + 1) = Zq.S0 (Zjr m0 m0) (Zkr m0 n) := by kernel_rfl
theorem Zeb2 (m0 : Nat) : ∀ n : Nat, Zkr m0 n = Zq.l0 (Zjr m0 m0) n :=
  ind rfl fun n e0 => (Zzn1 m0 n).trans (by rw [e0]; rfl)
theorem Zyn2 (m0 : Nat) (x : ArgsD Zcv1) : run Zir Zs3 m0 x Zt3 = Zq.S (Zkr m0 m0) x.1 x.2.1 := by kernel_rfl
abbrev Zkj1 : AM.Spec := AM.spec Zcv1 Zbw (fun x => Zq x.1 x.2.1)
theorem Zrw2 : Zg Tryz.prog 163 Zkj1 := ctrC tabOk (fn := Tryz.f163) (show ∀ x, run Zir Zs3 fu x Zt3 = _ from fun x => by
  have e1 : Zjr fu fu = Zq.t1 fu := Zbb2 fu fu
  have e0 : Zkr fu fu = Zq.l0 (Zq.t1 fu) fu := by rw [← e1]; exact Zeb2 fu fu
  refine (Zyn2 fu x).trans ?_
  rw [e0]; rfl) (Ze ⟨⟨Zmw2, Tryz.call182, fun _ => Zd rfl⟩, ⟨⟨Zqw2, Tryz.call183, fun _ => Zd rfl⟩, trivial⟩⟩)
abbrev Zu3 : Env := tab.env (AM.look [(160, Zhm), (161, Zun), (162, Zcl), (163, Zkj1)]) ⟨[(0, ⟨tt [4, 5, 16, 17, 18], tt [11]⟩)], [], [], ⟨tt [2, 3], tt [11]⟩, [2, 4, 11, 12, 14, 15, 23, 33], [163], [(161, [true]), (162, [true])], []⟩
def Zuc1 : Code := bd Tryz.f141
abbrev Zcw : List (Ty × List Tag) := [(k13d, []), (k13d, [⟨0, 1, 0, 1⟩])]
abbrev Zgv1 : List PK := [.val k13d]
abbrev Zhv1 : K (ResD Zcw) := fin Zu3 [.tmp 2, .tmp 3] [] Zcw
def Ziv1 (x4 x5 : Nat) (x6 x7 : D13a) (x8 x9 : Int) (x10 : D13a) : St := mk [(4, .slm 11 0 x4 x5), (5, .dat k13d x6 [⟨0, 321, 0, 1⟩]), (16, .dat k13d x7 []), (17, .dat k13b x8 []), (18, .dat k13b x9 [])] [(11, some (.arr k13b x10 false))]
def Zjv1 : Code := (rgt (rgt (rgt (rgt (rgt (rgt Zuc1))))))
def Zfb2 (m0 : Nat) : K (ResD Zcw) := sqK Zu3 m0 Zjv1 0 Zhv1
def Zgb2 (m0 : Nat) : K (ResD Zcw) := Zv 0 (Zfb2 m0)
def Zkv1 : Code := (lft (lft (rgt (lft (rgt (rgt (rgt (rgt (rgt Zuc1)))))))))
def Zoz (m0 n : Nat) : Nat → Nat → D13a → D13a → Int → Int → D13a → Option D13n := fun x4 x5 x6 x7 x8 x9 x10 => ej Zu3 n (.loop Zkv1) 0 (Ziv1 x4 x5 x6 x7 x8 x9 x10) (Zgb2 m0)
theorem Zao1 (m0 n : Nat) : Zoz m0 (n + 1) = Zbc.S0 (Zoz m0 n) := by kernel_rfl
theorem Zhb2 (m0 : Nat) : ∀ n : Nat, Zoz m0 n = Zbc.l0 n :=
  ind rfl fun n e0 => (Zao1 m0 n).trans (by rw [e0]; rfl)
theorem Zzn2 (m0 : Nat) (x : ArgsD Zgv1) : run Zu3 Zuc1 m0 x Zhv1 = Zbc.S (Zoz m0 m0) x.1 := by kernel_rfl
abbrev Zlj1 : AM.Spec := AM.spec Zgv1 Zcw (fun x => Zbc x.1)
theorem Zsw2 : Zg Tryz.prog 141 Zlj1 := ctrC tabOk (fn := Tryz.f141) (fun x => (Zzn2 fu x).trans (by rw [Zhb2 fu fu]; rfl)) (Ze ⟨⟨Zhy, Tryz.call160, nw⟩, ⟨⟨Zq0, Tryz.call161, nw⟩, ⟨⟨Ztt, Tryz.call162, nw⟩, ⟨⟨Zrw2, Tryz.call163, fun _ => Zd rfl⟩, trivial⟩⟩⟩⟩)
abbrev Zv3 : Env := tab.env (AM.look [(81, Zxo), (107, Znz), (108, Zok)]) ⟨[(0, ⟨tt [4, 7, 8, 9], tt [4]⟩)], [], [], ⟨tt [2, 3], []⟩, [], [81], [], []⟩
def Zvc1 : Code := bd Tryz.f111
abbrev Zdw : List (Ty × List Tag) := [(.str, []), (k13b, [])]
abbrev Zlv1 : List PK := [.val k13d]
abbrev Zmv1 : K (ResD Zdw) := fin Zv3 [.tmp 2, .tmp 3] [] Zdw
def Znv1 (x1 : D13a) (x2 x3 : Int) (x4 : D13j) : St := mk [(4, .ptr 4 0 0), (7, .dat k13d x1 []), (8, .dat k13b x2 []), (9, .dat k13b x3 [])] [(4, some (.var (.pair (.lk false) k13c) x4 [⟨1, 64258, 0, 0⟩]))]
def Zov1 : Code := (rgt (rgt (rgt Zvc1)))
def Zib2 (m0 : Nat) : K (ResD Zdw) := sqK Zv3 m0 Zov1 0 Zmv1
def Zjb2 (m0 : Nat) : K (ResD Zdw) := Zv 0 (Zib2 m0)
def Zpv1 : Code := (lft (lft (rgt (lft (rgt (rgt Zvc1))))))
def Zpz (m0 n : Nat) : D13a → Int → Int → D13j → Option D13g := fun x1 x2 x3 x4 => ej Zv3 n (.loop Zpv1) 0 (Znv1 x1 x2 x3 x4) (Zjb2 m0)
theorem Zbo1 (m0 n : Nat) : Zpz m0 (n + 1) = Zpd.S0 (Zpz m0 n) := by kernel_rfl
theorem Zkb2 (m0 : Nat) : ∀ n : Nat, Zpz m0 n = Zpd.l0 n :=
  ind rfl fun n e0 => (Zbo1 m0 n).trans (by rw [e0]; rfl)
theorem Zao2 (m0 : Nat) (x : ArgsD Zlv1) : run Zv3 Zvc1 m0 x Zmv1 = Zpd.S (Zpz m0 m0) x.1 := by kernel_rfl
abbrev Zmj1 : AM.Spec := AM.spec Zlv1 Zdw (fun x => Zpd x.1)
theorem Ztw2 : Zg Tryz.prog 111 Zmj1 := ctrC tabOk (fn := Tryz.f111) (fun x => (Zao2 fu x).trans (by rw [Zkb2 fu fu]; rfl)) (Ze ⟨⟨c_f81, Tryz.call81, fun _ => Zd rfl⟩, ⟨⟨Zkc1, Tryz.call107, nw⟩, ⟨⟨Zfp, Tryz.call108, nw⟩, trivial⟩⟩⟩)
abbrev Zqv1 : Env := tab.env (AM.look [(141, Zlj1), (111, Zmj1), (70, Zon), (44, Zcr), (81, Zxo)]) ⟨[], [], [], ⟨tt [4, 5], []⟩, [], [44, 70, 81, 111], [], []⟩
def Zuw2 : Code := bd Tryz.f110
abbrev Zwc1 : List (Ty × List Tag) := [(.str, []), (k13b, [])]
abbrev Zvw2 : List PK := [.val k13d, .fn 111 []]
abbrev Zww2 : K (ResD Zwc1) := fin Zqv1 [.tmp 4, .tmp 5] [] Zwc1
abbrev Znj1 : AM.Spec := AM.spec Zvw2 Zwc1 (fun x => Zsg x.1)
theorem Zxw2 : Zg Tryz.prog 110 Znj1 := ctrC tabOk (fn := Tryz.f110) (show ∀ x, run Zqv1 Zuw2 fu x Zww2 = _ from fun x => by kernel_rfl) (Ze ⟨⟨Zsw2, Tryz.call141, nw⟩, ⟨⟨Ztw2, Tryz.call111, fun _ => Zd rfl⟩, ⟨⟨c_f70, Tryz.call70, fun _ => Zd rfl⟩, ⟨⟨c_f44, Tryz.call44, fun _ => Zd rfl⟩, ⟨⟨c_f81, Tryz.call81, fun _ => Zd rfl⟩, trivial⟩⟩⟩⟩⟩)
abbrev E_f77 : Env := tab.env (AM.look [(110, Znj1)]) ⟨[], [], [], ⟨tt [2, 3], []⟩, [], [110], [], []⟩
def b_f77 : Code := bd Tryz.f77
abbrev R_f77 : List (Ty × List Tag) := [(.str, []), (k13b, [])]
abbrev P_f77 : List PK := [.val k13d]
abbrev K_f77 : K (ResD R_f77) := fin E_f77 [.tmp 2, .tmp 3] [] R_f77
abbrev Zrv1 : AM.Spec := AM.spec P_f77 R_f77 (fun x => Zpl x.1)
theorem c_f77 : Zg Tryz.prog 77 Zrv1 := ctrC tabOk (fn := Tryz.f77) (show ∀ x, run E_f77 b_f77 fu x K_f77 = _ from fun x => by kernel_rfl) (Ze ⟨⟨Zxw2, Tryz.call110, fun _ => Zd rfl⟩, trivial⟩)
abbrev E_f45 : Env := tab.env (AM.look [(73, Zwt1), (75, Zec1), (74, Zlc1), (76, Zoc1), (77, Zrv1), (70, Zon), (44, Zcr)]) ⟨[], [], [], ⟨tt [4, 5], []⟩, [], [44, 70, 73, 74, 76, 77], [], []⟩
def b_f45 : Code := bd Tryz.f45
abbrev R_f45 : List (Ty × List Tag) := [(.str, []), (k13b, [])]
abbrev P_f45 : List PK := [.val k13d, .val k13b]
abbrev K_f45 : K (ResD R_f45) := fin E_f45 [.tmp 4, .tmp 5] [] R_f45
abbrev Zsv1 : AM.Spec := AM.spec P_f45 R_f45 (fun x => Zug x.1 x.2.1)
theorem c_f45 : Zg Tryz.prog 45 Zsv1 := ctrC tabOk (fn := Tryz.f45) (show ∀ x, run E_f45 b_f45 fu x K_f45 = _ from fun x => by kernel_rfl) (Ze ⟨⟨c_f73, Tryz.call73, fun _ => Zd rfl⟩, ⟨⟨c_f75, Tryz.call75, nw⟩, ⟨⟨c_f74, Tryz.call74, fun _ => Zd rfl⟩, ⟨⟨c_f76, Tryz.call76, fun _ => Zd rfl⟩, ⟨⟨c_f77, Tryz.call77, fun _ => Zd rfl⟩, ⟨⟨c_f70, Tryz.call70, fun _ => Zd rfl⟩, ⟨⟨c_f44, Tryz.call44, fun _ => Zd rfl⟩, trivial⟩⟩⟩⟩⟩⟩⟩)
abbrev Ztv1 : Env := tab.env (AM.look [(138, Zep)]) ⟨[], [], [], ⟨tt [4], tt [1000000]⟩, [], [], [], []⟩
def Zyw2 : Code := bd Tryz.f112
abbrev Zxc1 : List (Ty × List Tag) := [((.lk true), []), ((.pair (.lk false) k13c), [⟨1, 1, 0, 0⟩])]
abbrev Zzw2 : List PK := [.io (.pair (.lk false) k13c) [(1, 0)], .val (.int .u8)]
abbrev Zax2 : K (ResD Zxc1) := fin Ztv1 [.tmp 4] [.io (.pair (.lk false) k13c) [(1, 0)]] Zxc1
abbrev Zoj1 : AM.Spec := AM.Zaf 1 Zzw2 Zxc1 (fun x => Zqe x.1 x.2.1)
theorem Zbx2 : Zg Tryz.prog 112 Zoj1 := ctrI tabOk (fn := Tryz.f112) (show ∀ x, run Ztv1 Zyw2 fu x Zax2 = _ from fun x => by kernel_rfl) (Ze ⟨⟨Zy0, Tryz.call138, nw⟩, trivial⟩)
abbrev E_f78 : Env := tab.env (AM.look [(112, Zoj1), (107, Znz), (108, Zok)]) ⟨[(0, ⟨tt [4, 7, 8, 9], tt [4]⟩)], [], [], ⟨tt [2, 3], []⟩, [], [], [], []⟩
def b_f78 : Code := bd Tryz.f78
abbrev R_f78 : List (Ty × List Tag) := [(.str, []), (k13b, [])]
abbrev P_f78 : List PK := [.val k13a]
abbrev K_f78 : K (ResD R_f78) := fin E_f78 [.tmp 2, .tmp 3] [] R_f78
def Zlb2 (x1 : D13e) (x2 x3 : Int) (x4 : D13j) : St := mk [(4, .ptr 4 0 0), (7, .dat k13a x1 []), (8, .dat k13b x2 []), (9, .dat k13b x3 [])] [(4, some (.var (.pair (.lk false) k13c) x4 [⟨1, 64258, 0, 0⟩]))]
def Zmb2 : Code := (rgt (rgt (rgt b_f78)))
def Zbo2 (m0 : Nat) : K (ResD R_f78) := sqK E_f78 m0 Zmb2 0 K_f78
def Zco2 (m0 : Nat) : K (ResD R_f78) := Zv 0 (Zbo2 m0)
def Znb2 : Code := (lft (lft (rgt (lft (rgt (rgt b_f78))))))
def Zw3 (m0 n : Nat) : D13e → Int → Int → D13j → Option D13g := fun x1 x2 x3 x4 => ej E_f78 n (.loop Znb2) 0 (Zlb2 x1 x2 x3 x4) (Zco2 m0)
theorem Zuv1 (m0 n : Nat) : Zw3 m0 (n + 1) = Zlb.S0 (Zw3 m0 n) := by kernel_rfl
theorem Zdo2 (m0 : Nat) : ∀ n : Nat, Zw3 m0 n = Zlb.l0 n :=
  ind rfl fun n e0 => (Zuv1 m0 n).trans (by rw [e0]; rfl)
theorem Zcx2 (m0 : Nat) (x : ArgsD P_f78) : run E_f78 b_f78 m0 x K_f78 = Zlb.S (Zw3 m0 m0) x.1 := by kernel_rfl
abbrev Zyc1 : AM.Spec := AM.spec P_f78 R_f78 (fun x => Zlb x.1)
theorem c_f78 : Zg Tryz.prog 78 Zyc1 := ctrC tabOk (fn := Tryz.f78) (fun x => (Zcx2 fu x).trans (by rw [Zdo2 fu fu]; rfl)) (Ze ⟨⟨Zbx2, Tryz.call112, nw⟩, ⟨⟨Zkc1, Tryz.call107, nw⟩, ⟨⟨Zfp, Tryz.call108, nw⟩, trivial⟩⟩⟩)
abbrev Zvv1 : Env := tab.env (AM.look []) ⟨[], [], [], ⟨tt [2], []⟩, [], [], [], []⟩
def Zdx2 : Code := bd Tryz.f174
abbrev Zzc1 : List (Ty × List Tag) := [(.bool, [])]
abbrev Zex2 : List PK := [.val .str]
abbrev Zfx2 : K (ResD Zzc1) := fin Zvv1 [.tmp 2] [] Zzc1
abbrev Zpj1 : AM.Spec := AM.spec Zex2 Zzc1 (fun x => some (cmp_isNaN_string x.1))
theorem Zgx2 : Zg Tryz.prog 174 Zpj1 := ctrC tabOk (fn := Tryz.f174) (show ∀ x, run Zvv1 Zdx2 fu x Zfx2 = _ from fun x => by kernel_rfl) (Ze trivial)
abbrev Zad1 : Env := tab.env (AM.look [(174, Zpj1)]) ⟨[], [], [], ⟨tt [4], []⟩, [], [174], [], []⟩
def Zwv1 : Code := bd Tryz.f144
abbrev Zbd1 : List (Ty × List Tag) := [(.bool, [])]
abbrev Zcd1 : List PK := [.val .str, .val .str]
abbrev Zxv1 : K (ResD Zbd1) := fin Zad1 [.tmp 4] [] Zbd1
theorem Zyv1 (m0 : Nat) (x : ArgsD Zcd1) : run Zad1 Zwv1 m0 x Zxv1 = cmp_Less_string.o x.1 x.2.1 := by kernel_rfl
theorem Zeo2 (m0 : Nat) (x : ArgsD Zcd1) : run Zad1 Zwv1 m0 x Zxv1 = some (cmp_Less_string x.1 x.2.1) := (Zyv1 m0 x).trans (by unfold cmp_Less_string.o cmp_Less_string; simp only [Zsi])
abbrev Zqj1 : AM.Spec := AM.spec Zcd1 Zbd1 (fun x => some (cmp_Less_string x.1 x.2.1))
theorem Zhx2 : Zg Tryz.prog 144 Zqj1 := ctrC tabOk (fn := Tryz.f144) (fun x => Zeo2 fu x) (Ze ⟨⟨Zgx2, Tryz.call174, fun _ => Zd rfl⟩, trivial⟩)
abbrev Zzv1 : Env := tab.env (AM.look []) ⟨[], [], [], ⟨tt [2], []⟩, [], [], [], []⟩
def Zix2 : Code := bd Tryz.f145
abbrev Zdd1 : List (Ty × List Tag) := [(.bool, [])]
abbrev Zjx2 : List PK := [.val .str]
abbrev Zkx2 : K (ResD Zdd1) := fin Zzv1 [.tmp 2] [] Zdd1
abbrev Zrj1 : AM.Spec := AM.spec Zjx2 Zdd1 (fun x => some (Zgi x.1))
theorem Zlx2 : Zg Tryz.prog 145 Zrj1 := ctrC tabOk (fn := Tryz.f145) (show ∀ x, run Zzv1 Zix2 fu x Zkx2 = _ from fun x => by kernel_rfl) (Ze trivial)
abbrev Zlr : Env := tab.env (AM.look [(144, Zqj1), (145, Zrj1)]) ⟨[(0, ⟨tt [0, 1, 6, 7, 8], []⟩)], [], [(8, ⟨tt [0, 1, 6, 7], []⟩)], ⟨tt [4, 5], []⟩, [], [144, 145], [], []⟩
def Zx3 : Code := bd Tryz.f117
abbrev Zew : List (Ty × List Tag) := [(k13b, []), (.bool, [])]
abbrev Zaw1 : List PK := [.val k13a, .val .str]
abbrev Zy3 : K (ResD Zew) := fin Zlr [.tmp 4, .tmp 5] [] Zew
def Zbw1 (x7 : D13e) (x8 : ByteArray) (x9 x10 : Int) : St := mk [(0, .dat k13a x7 []), (1, .dat .str x8 []), (6, .dat k13b x9 []), (7, .dat k13b x10 [])] []
def Zcw1 (x1 : D13e) (x2 : ByteArray) (x3 x4 x5 : Int) : St := mk [(0, .dat k13a x1 []), (1, .dat .str x2 []), (6, .dat k13b x3 []), (7, .dat k13b x4 []), (8, .dat k13b x5 [])] []
def Zg8 : Code := (rgt (rgt (rgt (rgt Zx3))))
def Zmr (m0 n : Nat) : D13e → ByteArray → Int → Int → Option (Int × Bool) := fun x7 x8 x9 x10 => ej Zlr n (.tail Zg8) 0 (Zbw1 x7 x8 x9 x10) Zy3
theorem Zco1 (m0 n : Nat) : Zmr m0 (n + 1) = Zk.S1 := by kernel_rfl
theorem Zob2 (m0 : Nat) : ∀ n : Nat, Zmr m0 n = Zk.t1 n :=
  ind rfl fun n _ => Zco1 m0 n
def Zpb2 (m0 : Nat) : K (ResD Zew) := sqK Zlr m0 Zg8 0 Zy3
def Zqb2 (m0 : Nat) : K (ResD Zew) := Zv 0 (Zpb2 m0)
def Zdw1 : Code := (lft (lft (lft (rgt (rgt (rgt Zx3))))))
def Znr (m0 n : Nat) : D13e → ByteArray → Int → Int → Int → Option (Int × Bool) := fun x1 x2 x3 x4 x5 => ej Zlr n (.loop Zdw1) 0 (Zcw1 x1 x2 x3 x4 x5) (Zqb2 m0)
theorem Zdo1 (m0 n : Nat) : Znr m0 (n + 1) = Zk.S0 (Zmr m0 m0) (Znr m0 n) := by kernel_rfl
theorem Zrb2 (m0 : Nat) : ∀ n : Nat, Znr m0 n = Zk.l0 (Zmr m0 m0) n :=
  ind rfl fun n e0 => (Zdo1 m0 n).trans (by rw [e0]; rfl)
theorem Zfo2 (m0 : Nat) (x : ArgsD Zaw1) : run Zlr Zx3 m0 x Zy3 = Zk.S (Znr m0 m0) x.1 x.2.1 := by kernel_rfl
abbrev Zsj1 : AM.Spec := AM.spec Zaw1 Zew (fun x => Zk x.1 x.2.1)
theorem Zmx2 : Zg Tryz.prog 117 Zsj1 := ctrC tabOk (fn := Tryz.f117) (show ∀ x, run Zlr Zx3 fu x Zy3 = _ from fun x => by
  have e1 : Zmr fu fu = Zk.t1 fu := Zob2 fu fu
  have e0 : Znr fu fu = Zk.l0 (Zk.t1 fu) fu := by rw [← e1]; exact Zrb2 fu fu
  refine (Zfo2 fu x).trans ?_
  rw [e0]; rfl) (Ze ⟨⟨Zhx2, Tryz.call144, fun _ => Zd rfl⟩, ⟨⟨Zlx2, Tryz.call145, fun _ => Zd rfl⟩, trivial⟩⟩)
abbrev E_f80 : Env := tab.env (AM.look [(114, Zzj), (115, Zbl), (116, Zri), (117, Zsj1)]) ⟨[(0, ⟨tt [4, 5, 16, 17, 18], tt [11]⟩)], [], [], ⟨tt [2, 3], tt [11]⟩, [2, 4, 11, 12, 14, 15, 23, 33], [117], [(115, [true]), (116, [true])], []⟩
def b_f80 : Code := bd Tryz.f80
abbrev R_f80 : List (Ty × List Tag) := [(k13a, []), (k13d, [⟨0, 1, 0, 1⟩])]
abbrev P_f80 : List PK := [.val k13a]
abbrev K_f80 : K (ResD R_f80) := fin E_f80 [.tmp 2, .tmp 3] [] R_f80
def Zsb2 (x4 x5 : Nat) (x6 : D13a) (x7 : D13e) (x8 x9 : Int) (x10 : D13e) : St := mk [(4, .slm 11 0 x4 x5), (5, .dat k13d x6 [⟨0, 321, 0, 1⟩]), (16, .dat k13a x7 []), (17, .dat k13b x8 []), (18, .dat k13b x9 [])] [(11, some (.arr .str x10 false))]
def Ztb2 : Code := (rgt (rgt (rgt (rgt (rgt (rgt b_f80))))))
def Zgo2 (m0 : Nat) : K (ResD R_f80) := sqK E_f80 m0 Ztb2 0 K_f80
def Zho2 (m0 : Nat) : K (ResD R_f80) := Zv 0 (Zgo2 m0)
def Zub2 : Code := (lft (lft (rgt (lft (rgt (rgt (rgt (rgt (rgt b_f80)))))))))
def Zz3 (m0 n : Nat) : Nat → Nat → D13a → D13e → Int → Int → D13e → Option D13r := fun x4 x5 x6 x7 x8 x9 x10 => ej E_f80 n (.loop Zub2) 0 (Zsb2 x4 x5 x6 x7 x8 x9 x10) (Zho2 m0)
theorem Zew1 (m0 n : Nat) : Zz3 m0 (n + 1) = Zdb.S0 (Zz3 m0 n) := by kernel_rfl
theorem Zio2 (m0 : Nat) : ∀ n : Nat, Zz3 m0 n = Zdb.l0 n :=
  ind rfl fun n e0 => (Zew1 m0 n).trans (by rw [e0]; rfl)
theorem Znx2 (m0 : Nat) (x : ArgsD P_f80) : run E_f80 b_f80 m0 x K_f80 = Zdb.S (Zz3 m0 m0) x.1 := by kernel_rfl
abbrev Zed1 : AM.Spec := AM.spec P_f80 R_f80 (fun x => Zdb x.1)
theorem c_f80 : Zg Tryz.prog 80 Zed1 := ctrC tabOk (fn := Tryz.f80) (fun x => (Znx2 fu x).trans (by rw [Zio2 fu fu]; rfl)) (Ze ⟨⟨Zys, Tryz.call114, nw⟩, ⟨⟨Zst, Tryz.call115, nw⟩, ⟨⟨Zop, Tryz.call116, nw⟩, ⟨⟨Zmx2, Tryz.call117, fun _ => Zd rfl⟩, trivial⟩⟩⟩⟩)
abbrev Zfw1 : Env := tab.env (AM.look [(80, Zed1), (78, Zyc1), (70, Zon), (44, Zcr), (81, Zxo)]) ⟨[], [], [], ⟨tt [4, 5], []⟩, [], [44, 70, 78, 81], [], []⟩
def Zox2 : Code := bd Tryz.f113
abbrev Zfd1 : List (Ty × List Tag) := [(.str, []), (k13b, [])]
abbrev Zpx2 : List PK := [.val k13a, .fn 78 []]
abbrev Zqx2 : K (ResD Zfd1) := fin Zfw1 [.tmp 4, .tmp 5] [] Zfd1
abbrev Ztj1 : AM.Spec := AM.spec Zpx2 Zfd1 (fun x => Zxe x.1)
theorem Zrx2 : Zg Tryz.prog 113 Ztj1 := ctrC tabOk (fn := Tryz.f113) (show ∀ x, run Zfw1 Zox2 fu x Zqx2 = _ from fun x => by kernel_rfl) (Ze ⟨⟨c_f80, Tryz.call80, nw⟩, ⟨⟨c_f78, Tryz.call78, fun _ => Zd rfl⟩, ⟨⟨c_f70, Tryz.call70, fun _ => Zd rfl⟩, ⟨⟨c_f44, Tryz.call44, fun _ => Zd rfl⟩, ⟨⟨c_f81, Tryz.call81, fun _ => Zd rfl⟩, trivial⟩⟩⟩⟩⟩)
abbrev E_f79 : Env := tab.env (AM.look [(113, Ztj1)]) ⟨[], [], [], ⟨tt [2, 3], []⟩, [], [113], [], []⟩
def b_f79 : Code := bd Tryz.f79
abbrev R_f79 : List (Ty × List Tag) := [(.str, []), (k13b, [])]
abbrev P_f79 : List PK := [.val k13a]
abbrev K_f79 : K (ResD R_f79) := fin E_f79 [.tmp 2, .tmp 3] [] R_f79
abbrev Zgw1 : AM.Spec := AM.spec P_f79 R_f79 (fun x => Zjk x.1)
theorem c_f79 : Zg Tryz.prog 79 Zgw1 := ctrC tabOk (fn := Tryz.f79) (show ∀ x, run E_f79 b_f79 fu x K_f79 = _ from fun x => by kernel_rfl) (Ze ⟨⟨Zrx2, Tryz.call113, fun _ => Zd rfl⟩, trivial⟩)
abbrev E_f46 : Env := tab.env (AM.look [(78, Zyc1), (79, Zgw1), (80, Zed1), (75, Zec1), (74, Zlc1), (81, Zxo)]) ⟨[], [], [], ⟨tt [4, 5], []⟩, [], [74, 78, 79, 81], [], []⟩
def b_f46 : Code := bd Tryz.f46
abbrev R_f46 : List (Ty × List Tag) := [(.str, []), (k13b, [])]
abbrev P_f46 : List PK := [.val k13a, .val k13b]
abbrev K_f46 : K (ResD R_f46) := fin E_f46 [.tmp 4, .tmp 5] [] R_f46
abbrev Zhw1 : AM.Spec := AM.spec P_f46 R_f46 (fun x => Zei x.1 x.2.1)
theorem c_f46 : Zg Tryz.prog 46 Zhw1 := ctrC tabOk (fn := Tryz.f46) (show ∀ x, run E_f46 b_f46 fu x K_f46 = _ from fun x => by kernel_rfl) (Ze ⟨⟨c_f78, Tryz.call78, fun _ => Zd rfl⟩, ⟨⟨c_f79, Tryz.call79, fun _ => Zd rfl⟩, ⟨⟨c_f80, Tryz.call80, nw⟩, ⟨⟨c_f75, Tryz.call75, nw⟩, ⟨⟨c_f74, Tryz.call74, fun _ => Zd rfl⟩, ⟨⟨c_f81, Tryz.call81, fun _ => Zd rfl⟩, trivial⟩⟩⟩⟩⟩⟩)
abbrev E_f25 : Env := tab.env (AM.look [(45, Zsv1), (46, Zhw1)]) ⟨[(0, ⟨tt [1, 2, 8, 9, 12, 13, 14], []⟩)], [], [(8, ⟨tt [1, 2, 8, 9], []⟩)], ⟨tt [6, 7], []⟩, [], [45, 46], [], [21, 26]⟩
def b_f25 : Code := bd Tryz.f25
abbrev R_f25 : List (Ty × List Tag) := [(.str, []), (k13b, [])]
abbrev P_f25 : List PK := [.val k13h, .val k13b, .val k13b]
abbrev K_f25 : K (ResD R_f25) := fin E_f25 [.tmp 6, .tmp 7] [] R_f25
def Zvb2 (x8 x9 : Int) (x10 : D13a) (x11 : D13e) : St := mk [(1, .dat k13b x8 []), (2, .dat k13b x9 []), (8, .dat k13d x10 [⟨0, 513, 0, 1⟩]), (9, .dat k13a x11 [⟨0, 577, 0, 1⟩])] []
def Zwb2 (x1 x2 : Int) (x3 : D13a) (x4 : D13e) (x5 : D13u) (x6 x7 : Int) : St := mk [(1, .dat k13b x1 []), (2, .dat k13b x2 []), (8, .dat k13d x3 [⟨0, 513, 0, 1⟩]), (9, .dat k13a x4 [⟨0, 577, 0, 1⟩]), (12, .dat k13h x5 []), (13, .dat k13b x6 []), (14, .dat k13b x7 [])] []
def Zgd1 : Code := (rgt (rgt (rgt (rgt b_f25))))
def Zfw (m0 n : Nat) : Int → Int → D13a → D13e → Option D13g := fun x8 x9 x10 x11 => ej E_f25 n (.tail Zgd1) 0 (Zvb2 x8 x9 x10 x11) K_f25
theorem Ziw1 (m0 n : Nat) : Zfw m0 (n + 1) = Zna.S1 := by kernel_rfl
theorem Zjo2 (m0 : Nat) : ∀ n : Nat, Zfw m0 n = Zna.t1 n :=
  ind rfl fun n _ => Ziw1 m0 n
def Zko2 (m0 : Nat) : K (ResD R_f25) := sqK E_f25 m0 Zgd1 0 K_f25
def Zlo2 (m0 : Nat) : K (ResD R_f25) := Zv 0 (Zko2 m0)
def Zxb2 : Code := (lft (lft (rgt (lft (rgt (rgt (rgt b_f25)))))))
def Zgw (m0 n : Nat) : Int → Int → D13a → D13e → D13u → Int → Int → Option D13g := fun x1 x2 x3 x4 x5 x6 x7 => ej E_f25 n (.loop Zxb2) 0 (Zwb2 x1 x2 x3 x4 x5 x6 x7) (Zlo2 m0)
theorem Zjw1 (m0 n : Nat) : Zgw m0 (n + 1) = Zna.S0 (Zfw m0 m0) (Zgw m0 n) := by kernel_rfl
theorem Zmo2 (m0 : Nat) : ∀ n : Nat, Zgw m0 n = Zna.l0 (Zfw m0 m0) n :=
  ind rfl fun n e0 => (Zjw1 m0 n).trans (by rw [e0]; rfl)
theorem Zsx2 (m0 : Nat) (x : ArgsD P_f25) : run E_f25 b_f25 m0 x K_f25 = Zna.S (Zgw m0 m0) x.1 x.2.1 x.2.2.1 := by kernel_rfl
abbrev Zkw1 : AM.Spec := AM.spec P_f25 R_f25 (fun x => Zna x.1 x.2.1 x.2.2.1)
theorem c_f25 : Zg Tryz.prog 25 Zkw1 := ctrC tabOk (fn := Tryz.f25) (show ∀ x, run E_f25 b_f25 fu x K_f25 = _ from fun x => by
  have e1 : Zfw fu fu = Zna.t1 fu := Zjo2 fu fu
  have e0 : Zgw fu fu = Zna.l0 (Zna.t1 fu) fu := by rw [← e1]; exact Zmo2 fu fu
  refine (Zsx2 fu x).trans ?_
  rw [e0]; rfl) (Ze ⟨⟨c_f45, Tryz.call45, fun _ => Zd rfl⟩, ⟨⟨c_f46, Tryz.call46, fun _ => Zd rfl⟩, trivial⟩⟩)
abbrev E_f82 : Env := tab.env (AM.look []) ⟨[(0, ⟨tt [1, 5, 11, 12], []⟩), (2, ⟨tt [1, 5, 11, 12, 21], []⟩)], [], [], ⟨tt [4], []⟩, [], [], [], []⟩
def b_f82 : Code := bd Tryz.f82
abbrev R_f82 : List (Ty × List Tag) := [(k13b, [])]
abbrev P_f82 : List PK := [.val k13b, .val .str]
abbrev K_f82 : K (ResD R_f82) := fin E_f82 [.tmp 4] [] R_f82
def Zyb2 (x5 : ByteArray) (x6 x7 : Int) (x8 x9 : Int) : St := mk [(1, .dat .str x5 []), (5, .dat (.int .u32) x6 []), (11, .dat k13b x7 []), (12, .dat k13b x8 []), (21, .dat k13b x9 [])] []
def Zzb2 (x1 : ByteArray) (x2 x3 x4 : Int) : St := mk [(1, .dat .str x1 []), (5, .dat (.int .u32) x2 []), (11, .dat k13b x3 []), (12, .dat k13b x4 [])] []
def Zac2 : Code := (rgt (rgt (rgt b_f82)))
def Zno2 (m0 : Nat) : K (ResD R_f82) := sqK E_f82 m0 Zac2 0 K_f82
def Zuj1 (m0 : Nat) : K (ResD R_f82) := Zv 0 (Zno2 m0)
def Zot : Code := (lft (lft (rgt (lft (rgt (rgt b_f82))))))
def Zhw (m0 n : Nat) : ByteArray → Int → Int → Int → Option Int := fun x1 x2 x3 x4 => ej E_f82 n (.loop Zot) 0 (Zzb2 x1 x2 x3 x4) (Zuj1 m0)
def Zoo2 (m0 m1 : Nat) : K (ResD R_f82) := lpK E_f82 m1 Zot 0 (Zuj1 m0)
def Zbc2 : Code := (rgt (rgt (rgt Zot)))
def Zpo2 (m0 m1 : Nat) : K (ResD R_f82) := sqK E_f82 m1 Zbc2 0 (Zoo2 m0 m1)
def Zqo2 (m0 m1 : Nat) : K (ResD R_f82) := Zv 1 (Zpo2 m0 m1)
def Zro2 (m0 m1 : Nat) : K (ResD R_f82) := Zv 2 (Zqo2 m0 m1)
def Zcc2 : Code := (lft (lft (rgt (rgt (rgt (lft (lft (rgt (rgt Zot)))))))))
def Ziw (m0 m1 n : Nat) : ByteArray → Int → Int → Int → Int → Option Int := fun x5 x6 x7 x8 x9 => ej E_f82 n (.loop Zcc2) 2 (Zyb2 x5 x6 x7 x8 x9) (Zro2 m0 m1)
theorem Zlw1 (m0 m1 n : Nat) : Ziw m0 m1 (n + 1) = Zpa.S1 (Zhw m0 m1) (Ziw m0 m1 n) := by kernel_rfl
theorem Zso2 (m0 m1 : Nat) : ∀ n : Nat, Ziw m0 m1 n = Zpa.l1 (Zhw m0 m1) n :=
  ind rfl fun n e1 => (Zlw1 m0 m1 n).trans (by rw [e1]; rfl)
theorem Zmw1 (m0 n : Nat) : Zhw m0 (n + 1) = Zpa.S0 (Ziw m0 n n) := by kernel_rfl
theorem Zto2 (m0 : Nat) : ∀ n : Nat, Zhw m0 n = Zpa.l0 n :=
  ind rfl fun n e0 => by
    have e1 : Ziw m0 n n = Zpa.l1 (Zpa.l0 n) n := by rw [← e0]; exact Zso2 m0 n n
    rw [Zmw1 m0 n, e1]; rfl
theorem Ztx2 (m0 : Nat) (x : ArgsD P_f82) : run E_f82 b_f82 m0 x K_f82 = Zpa.S (Zhw m0 m0) x.1 x.2.1 := by kernel_rfl
abbrev Znw1 : AM.Spec := AM.spec P_f82 R_f82 (fun x => Zpa x.1 x.2.1)
theorem c_f82 : Zg Tryz.prog 82 Znw1 := ctrC tabOk (fn := Tryz.f82) (fun x => (Ztx2 fu x).trans (by rw [Zto2 fu fu]; rfl)) (Ze trivial)
abbrev E_f47 : Env := tab.env (AM.look [(82, Znw1)]) ⟨[], [], [], ⟨tt [2], []⟩, [], [82], [], []⟩
def b_f47 : Code := bd Tryz.f47
abbrev R_f47 : List (Ty × List Tag) := [(k13b, [])]
abbrev P_f47 : List PK := [.val .str]
abbrev K_f47 : K (ResD R_f47) := fin E_f47 [.tmp 2] [] R_f47
abbrev Zow1 : AM.Spec := AM.spec P_f47 R_f47 (fun x => Zwp x.1)
theorem c_f47 : Zg Tryz.prog 47 Zow1 := ctrC tabOk (fn := Tryz.f47) (show ∀ x, run E_f47 b_f47 fu x K_f47 = _ from fun x => by kernel_rfl) (Ze ⟨⟨c_f82, Tryz.call82, fun _ => Zd rfl⟩, trivial⟩)
abbrev E_f26 : Env := tab.env (AM.look [(47, Zow1)]) ⟨[(0, ⟨tt [3, 4, 16], []⟩)], [], [], ⟨tt [2], []⟩, [], [47], [], []⟩
def b_f26 : Code := bd Tryz.f26
abbrev R_f26 : List (Ty × List Tag) := [(.str, [])]
abbrev P_f26 : List PK := [.val .str]
abbrev K_f26 : K (ResD R_f26) := fin E_f26 [.tmp 2] [] R_f26
def Zdc2 (x2 : Int) (x3 : D13a) (x4 : Int) : St := mk [(3, .dat (.int .u32) x2 []), (4, .dat k13c x3 [⟨0, 257, 0, 0⟩]), (16, .dat k13b x4 [])] []
def Zec2 : Code := (rgt (rgt (rgt (rgt (rgt b_f26)))))
def Zuo2 (m0 : Nat) : K (ResD R_f26) := sqK E_f26 m0 Zec2 0 K_f26
def Zvo2 (m0 : Nat) : K (ResD R_f26) := Zv 0 (Zuo2 m0)
def Zfc2 : Code := (lft (lft (rgt (lft (rgt (rgt (rgt (rgt b_f26))))))))
def Za4 (m0 n : Nat) : Int → D13a → Int → Option ByteArray := fun x2 x3 x4 => ej E_f26 n (.loop Zfc2) 0 (Zdc2 x2 x3 x4) (Zvo2 m0)
theorem Zpw1 (m0 n : Nat) : Za4 m0 (n + 1) = Zwb.S0 (Za4 m0 n) := by kernel_rfl
theorem Zwo2 (m0 : Nat) : ∀ n : Nat, Za4 m0 n = Zwb.l0 n :=
  ind rfl fun n e0 => (Zpw1 m0 n).trans (by rw [e0]; rfl)
theorem Zux2 (m0 : Nat) (x : ArgsD P_f26) : run E_f26 b_f26 m0 x K_f26 = Zwb.S (Za4 m0 m0) x.1 := by kernel_rfl
abbrev Zhd1 : AM.Spec := AM.spec P_f26 R_f26 (fun x => Zwb x.1)
theorem c_f26 : Zg Tryz.prog 26 Zhd1 := ctrC tabOk (fn := Tryz.f26) (fun x => (Zux2 fu x).trans (by rw [Zwo2 fu fu]; rfl)) (Ze ⟨⟨c_f47, Tryz.call47, fun _ => Zd rfl⟩, trivial⟩)
abbrev E_f10 : Env := tab.env (AM.look [(23, Zxs1), (24, Ztt1), (25, Zkw1), (26, Zhd1)]) ⟨[], [], [], ⟨tt [6, 7], []⟩, [], [23, 25, 26], [], []⟩
def b_f10 : Code := bd Tryz.f10
abbrev R_f10 : List (Ty × List Tag) := [(.str, []), (k13b, [])]
abbrev P_f10 : List PK := [.val k13h, .val k13b, .val k13b]
abbrev K_f10 : K (ResD R_f10) := fin E_f10 [.tmp 6, .tmp 7] [] R_f10
abbrev Zjw : AM.Spec := AM.spec P_f10 R_f10 (fun x => Zhe x.1 x.2.1 x.2.2.1)
theorem c_f10 : Zg Tryz.prog 10 Zjw := ctrC tabOk (fn := Tryz.f10) (show ∀ x, run E_f10 b_f10 fu x K_f10 = _ from fun x => by kernel_rfl) (Ze ⟨⟨c_f23, Tryz.call23, fun _ => Zd rfl⟩, ⟨⟨c_f24, Tryz.call24, nw⟩, ⟨⟨c_f25, Tryz.call25, fun _ => Zd rfl⟩, ⟨⟨c_f26, Tryz.call26, fun _ => Zd rfl⟩, trivial⟩⟩⟩⟩)
abbrev E_f54 : Env := tab.env (AM.look [(26, Zhd1)]) ⟨[], [], [], ⟨tt [2, 3], []⟩, [], [26], [], []⟩
def b_f54 : Code := bd Tryz.f54
abbrev R_f54 : List (Ty × List Tag) := [(.str, []), (k13b, [])]
abbrev P_f54 : List PK := [.val .str]
abbrev K_f54 : K (ResD R_f54) := fin E_f54 [.tmp 2, .tmp 3] [] R_f54
abbrev Zqw1 : AM.Spec := AM.spec P_f54 R_f54 (fun x => Zeo x.1)
theorem c_f54 : Zg Tryz.prog 54 Zqw1 := ctrC tabOk (fn := Tryz.f54) (show ∀ x, run E_f54 b_f54 fu x K_f54 = _ from fun x => by kernel_rfl) (Ze ⟨⟨c_f26, Tryz.call26, fun _ => Zd rfl⟩, trivial⟩)
abbrev Zb4 : Env := tab.env (AM.look [(72, Zcc1)]) ⟨[(0, ⟨tt [0, 2, 7, 8, 9], []⟩)], [], [], ⟨tt [6], []⟩, [], [72], [], []⟩
def Zid1 : Code := bd Tryz.f148
abbrev Zkw : List (Ty × List Tag) := [(k13b, [])]
abbrev Zrw1 : List PK := [.val .str, .val k13b, .val k13b]
abbrev Zsw1 : K (ResD Zkw) := fin Zb4 [.tmp 6] [] Zkw
def Ztw1 (x1 : ByteArray) (x2 x3 : Int) (x4 x5 : Int) : St := mk [(0, .dat .str x1 []), (2, .dat k13b x2 []), (7, .dat (.int .u64) x3 []), (8, .dat k13b x4 []), (9, .dat k13b x5 [])] []
def Zuw1 : Code := (rgt (rgt (rgt (rgt Zid1))))
def Zgc2 (m0 : Nat) : K (ResD Zkw) := sqK Zb4 m0 Zuw1 0 Zsw1
def Zhc2 (m0 : Nat) : K (ResD Zkw) := Zv 0 (Zgc2 m0)
def Zvw1 : Code := (lft (lft (lft (rgt (rgt (rgt Zid1))))))
def Zqz (m0 n : Nat) : ByteArray → Int → Int → Int → Int → Option Int := fun x1 x2 x3 x4 x5 => ej Zb4 n (.loop Zvw1) 0 (Ztw1 x1 x2 x3 x4 x5) (Zhc2 m0)
theorem Zeo1 (m0 n : Nat) : Zqz m0 (n + 1) = Zkd.S0 (Zqz m0 n) := by kernel_rfl
theorem Zic2 (m0 : Nat) : ∀ n : Nat, Zqz m0 n = Zkd.l0 n :=
  ind rfl fun n e0 => (Zeo1 m0 n).trans (by rw [e0]; rfl)
theorem Zxo2 (m0 : Nat) (x : ArgsD Zrw1) : run Zb4 Zid1 m0 x Zsw1 = Zkd.S (Zqz m0 m0) x.1 x.2.1 x.2.2.1 := by kernel_rfl
abbrev Zvj1 : AM.Spec := AM.spec Zrw1 Zkw (fun x => Zkd x.1 x.2.1 x.2.2.1)
theorem Zvx2 : Zg Tryz.prog 148 Zvj1 := ctrC tabOk (fn := Tryz.f148) (fun x => (Zxo2 fu x).trans (by rw [Zic2 fu fu]; rfl)) (Ze ⟨⟨c_f72, Tryz.call72, fun _ => Zd rfl⟩, trivial⟩)
abbrev Zlw : Env := tab.env (AM.look [(71, Zbc1), (148, Zvj1)]) ⟨[(0, ⟨tt [0, 2, 9, 49, 50], tt [48]⟩)], [], [(8, ⟨tt [0, 1, 2], []⟩)], ⟨tt [6, 7], tt [6, 48]⟩, [6, 9, 48, 53, 61], [71, 148], [], []⟩
def Zc4 : Code := bd Tryz.f126
abbrev Zmw : List (Ty × List Tag) := [(k13d, []), (k13b, [])]
abbrev Zww1 : List PK := [.val .str, .val k13b, .val k13b]
abbrev Zjd1 : K (ResD Zmw) := fin Zlw [.tmp 6, .tmp 7] [] Zmw
def Zxw1 (x5 : ByteArray) (x6 x7 x8 : Int) (x9 : D13a) : St := mk [(0, .dat .str x5 []), (2, .dat k13b x6 []), (9, .slw 48 0), (49, .dat k13b x7 []), (50, .dat k13b x8 [])] [(48, some (.arr k13b x9 false))]
def Zyw1 (x2 : ByteArray) (x3 x4 : Int) : St := mk [(0, .dat .str x2 []), (1, .dat k13b x3 []), (2, .dat k13b x4 [])] []
def Zzw1 : Code := (rgt (rgt (rgt (rgt (rgt (rgt Zc4))))))
def Zjc2 (m0 m1 : Nat) : K (ResD Zmw) := sqK Zlw m1 Zzw1 0 Zjd1
def Zkc2 (m0 m1 : Nat) : K (ResD Zmw) := Zv 0 (Zjc2 m0 m1)
def Zax1 : Code := (lft (lft (rgt (lft (rgt (rgt (rgt (rgt (rgt Zc4)))))))))
def Zor (m0 m1 n : Nat) : ByteArray → Int → Int → Int → D13a → Option D13h := fun x5 x6 x7 x8 x9 => ej Zlw n (.loop Zax1) 0 (Zxw1 x5 x6 x7 x8 x9) (Zkc2 m0 m1)
theorem Zfo1 (m0 m1 n : Nat) : Zor m0 m1 (n + 1) = Zwa.S1 (Zor m0 m1 n) := by kernel_rfl
theorem Zlc2 (m0 m1 : Nat) : ∀ n : Nat, Zor m0 m1 n = Zwa.l1 n :=
  ind rfl fun n e1 => (Zfo1 m0 m1 n).trans (by rw [e1]; rfl)
def Zbx1 : Code := (rgt (rgt (rgt (rgt Zc4))))
def Zv6 (m0 n : Nat) : ByteArray → Int → Int → Option D13h := fun x2 x3 x4 => ej Zlw n (.tail Zbx1) 0 (Zyw1 x2 x3 x4) Zjd1
theorem Zgo1 (m0 n : Nat) : Zv6 m0 (n + 1) = Zwa.S0 (Zor m0 n n) := by kernel_rfl
theorem Zmc2 (m0 : Nat) : ∀ n : Nat, Zv6 m0 n = Zwa.t0 n :=
  ind rfl fun n e0 => by
    have e1 : Zor m0 n n = Zwa.l1 n := Zlc2 m0 n n
    rw [Zgo1 m0 n, e1]; rfl
theorem Zyo2 (m0 : Nat) (x : ArgsD Zww1) : run Zlw Zc4 m0 x Zjd1 = Zwa.S (Zv6 m0 m0) x.1 x.2.1 x.2.2.1 := by kernel_rfl
abbrev Zoo : AM.Spec := AM.spec Zww1 Zmw (fun x => Zwa x.1 x.2.1 x.2.2.1)
theorem Znw : Zg Tryz.prog 126 Zoo := ctrC tabOk (fn := Tryz.f126) (fun x => (Zyo2 fu x).trans (by rw [Zmc2 fu fu]; rfl)) (Ze ⟨⟨c_f71, Tryz.call71, fun _ => Zd rfl⟩, ⟨⟨Zvx2, Tryz.call148, fun _ => Zd rfl⟩, trivial⟩⟩)
abbrev Zd4 : Env := tab.env (AM.look []) ⟨[(0, ⟨tt [0, 1, 7, 8], []⟩)], [], [], ⟨tt [4], []⟩, [], [], [], []⟩
def Zkd1 : Code := bd Tryz.f149
abbrev Zow : List (Ty × List Tag) := [(k13b, [])]
abbrev Zcx1 : List PK := [.val k13d, .val k13b]
abbrev Zdx1 : K (ResD Zow) := fin Zd4 [.tmp 4] [] Zow
def Zex1 (x1 : D13a) (x2 x3 x4 : Int) : St := mk [(0, .dat k13d x1 []), (1, .dat k13b x2 []), (7, .dat k13b x3 []), (8, .dat k13b x4 [])] []
def Zfx1 : Code := (rgt (rgt Zkd1))
def Znc2 (m0 : Nat) : K (ResD Zow) := sqK Zd4 m0 Zfx1 0 Zdx1
def Zoc2 (m0 : Nat) : K (ResD Zow) := Zv 0 (Znc2 m0)
def Zgx1 : Code := (lft (lft (rgt (lft (rgt Zkd1)))))
def Zrz (m0 n : Nat) : D13a → Int → Int → Int → Option Int := fun x1 x2 x3 x4 => ej Zd4 n (.loop Zgx1) 0 (Zex1 x1 x2 x3 x4) (Zoc2 m0)
theorem Zho1 (m0 n : Nat) : Zrz m0 (n + 1) = Zqa.S0 (Zrz m0 n) := by kernel_rfl
theorem Zpc2 (m0 : Nat) : ∀ n : Nat, Zrz m0 n = Zqa.l0 n :=
  ind rfl fun n e0 => (Zho1 m0 n).trans (by rw [e0]; rfl)
theorem Zzo2 (m0 : Nat) (x : ArgsD Zcx1) : run Zd4 Zkd1 m0 x Zdx1 = Zqa.S (Zrz m0 m0) x.1 x.2.1 := by kernel_rfl
abbrev Zwj1 : AM.Spec := AM.spec Zcx1 Zow (fun x => Zqa x.1 x.2.1)
theorem Zwx2 : Zg Tryz.prog 149 Zwj1 := ctrC tabOk (fn := Tryz.f149) (fun x => (Zzo2 fu x).trans (by rw [Zpc2 fu fu]; rfl)) (Ze trivial)
abbrev Zhx1 : Env := tab.env (AM.look [(149, Zwj1)]) ⟨[], [], [], ⟨tt [4], []⟩, [], [149], [], []⟩
def Zxx2 : Code := bd Tryz.f127
abbrev Zld1 : List (Ty × List Tag) := [(.bool, [])]
abbrev Zyx2 : List PK := [.val k13d, .val k13b]
abbrev Zzx2 : K (ResD Zld1) := fin Zhx1 [.tmp 4] [] Zld1
abbrev Zxj1 : AM.Spec := AM.spec Zyx2 Zld1 (fun x => Zgf x.1 x.2.1)
theorem Zay2 : Zg Tryz.prog 127 Zxj1 := ctrC tabOk (fn := Tryz.f127) (show ∀ x, run Zhx1 Zxx2 fu x Zzx2 = _ from fun x => by kernel_rfl) (Ze ⟨⟨Zwx2, Tryz.call149, fun _ => Zd rfl⟩, trivial⟩)
abbrev E_f95 : Env := tab.env (AM.look [(126, Zoo), (127, Zxj1)]) ⟨[], [], [], ⟨tt [4, 5], tt [17]⟩, [], [127], [], []⟩
def b_f95 : Code := bd Tryz.f95
abbrev R_f95 : List (Ty × List Tag) := [(k13d, []), (k13b, [])]
abbrev P_f95 : List PK := [.val .str, .val k13b]
abbrev K_f95 : K (ResD R_f95) := fin E_f95 [.tmp 4, .tmp 5] [] R_f95
abbrev Zmd1 : AM.Spec := AM.spec P_f95 R_f95 (fun x => Zql x.1 x.2.1)
theorem c_f95 : Zg Tryz.prog 95 Zmd1 := ctrC tabOk (fn := Tryz.f95) (show ∀ x, run E_f95 b_f95 fu x K_f95 = _ from fun x => by kernel_rfl) (Ze ⟨⟨Znw, Tryz.call126, nw⟩, ⟨⟨Zay2, Tryz.call127, fun _ => Zd rfl⟩, trivial⟩⟩)
abbrev E_f55 : Env := tab.env (AM.look [(95, Zmd1)]) ⟨[(0, ⟨tt [7, 8, 17, 18, 19], []⟩)], [], [], ⟨tt [4, 5], []⟩, [], [], [], []⟩
def b_f55 : Code := bd Tryz.f55
abbrev R_f55 : List (Ty × List Tag) := [(k13b, []), (k13b, [])]
abbrev P_f55 : List PK := [.val .str, .val k13b]
abbrev K_f55 : K (ResD R_f55) := fin E_f55 [.tmp 4, .tmp 5] [] R_f55
def Zqc2 (x2 x3 : Int) (x4 : D13a) (x5 x6 : Int) : St := mk [(7, .dat k13b x2 []), (8, .dat k13b x3 []), (17, .dat k13d x4 []), (18, .dat k13b x5 []), (19, .dat k13b x6 [])] []
def Zrc2 : Code := (rgt (rgt (rgt (rgt b_f55))))
def Zap2 (m0 : Nat) : K (ResD R_f55) := sqK E_f55 m0 Zrc2 0 K_f55
def Zbp2 (m0 : Nat) : K (ResD R_f55) := Zv 0 (Zap2 m0)
def Zsc2 : Code := (lft (lft (rgt (lft (rgt (rgt (rgt b_f55)))))))
def Ze4 (m0 n : Nat) : Int → Int → D13a → Int → Int → Option D13b := fun x2 x3 x4 x5 x6 => ej E_f55 n (.loop Zsc2) 0 (Zqc2 x2 x3 x4 x5 x6) (Zbp2 m0)
theorem Zix1 (m0 n : Nat) : Ze4 m0 (n + 1) = Zyb.S0 (Ze4 m0 n) := by kernel_rfl
theorem Zcp2 (m0 : Nat) : ∀ n : Nat, Ze4 m0 n = Zyb.l0 n :=
  ind rfl fun n e0 => (Zix1 m0 n).trans (by rw [e0]; rfl)
theorem Zby2 (m0 : Nat) (x : ArgsD P_f55) : run E_f55 b_f55 m0 x K_f55 = Zyb.S (Ze4 m0 m0) x.1 x.2.1 := by kernel_rfl
abbrev Znd1 : AM.Spec := AM.spec P_f55 R_f55 (fun x => Zyb x.1 x.2.1)
theorem c_f55 : Zg Tryz.prog 55 Znd1 := ctrC tabOk (fn := Tryz.f55) (fun x => (Zby2 fu x).trans (by rw [Zcp2 fu fu]; rfl)) (Ze ⟨⟨c_f95, Tryz.call95, nw⟩, trivial⟩)
abbrev Zqn : Env := tab.env (AM.look []) ⟨[(0, ⟨tt [0, 6, 27, 28], tt [26]⟩), (2, ⟨tt [0, 6, 7, 8, 27, 28, 31], tt [26]⟩)], [], [], ⟨tt [4, 5], tt [4, 26]⟩, [4, 6, 26, 47, 53], [], [], []⟩
def Zod1 : Code := bd Tryz.f128
abbrev Zyj : List (Ty × List Tag) := [(k13d, []), (k13b, [])]
abbrev Zjx1 : List PK := [.val .str, .val k13b]
abbrev Zkx1 : K (ResD Zyj) := fin Zqn [.tmp 4, .tmp 5] [] Zyj
def Zlx1 (x5 : ByteArray) (x6 x7 : Int) (x8 x9 x10 : Int) (x11 : D13a) : St := mk [(0, .dat .str x5 []), (6, .slw 26 0), (7, .dat k13b x6 []), (8, .dat (.int .u64) x7 []), (27, .dat k13b x8 []), (28, .dat k13b x9 []), (31, .dat k13b x10 [])] [(26, some (.arr k13b x11 false))]
def Zmx1 (x1 : ByteArray) (x2 x3 : Int) (x4 : D13a) : St := mk [(0, .dat .str x1 []), (6, .slw 26 0), (27, .dat k13b x2 []), (28, .dat k13b x3 [])] [(26, some (.arr k13b x4 false))]
def Znx1 : Code := (rgt (rgt (rgt (rgt Zod1))))
def Ztc2 (m0 : Nat) : K (ResD Zyj) := sqK Zqn m0 Znx1 0 Zkx1
def Zpd1 (m0 : Nat) : K (ResD Zyj) := Zv 0 (Ztc2 m0)
def Zrn : Code := (lft (lft (rgt (lft (rgt (rgt (rgt Zod1)))))))
def Zpr (m0 n : Nat) : ByteArray → Int → Int → D13a → Option D13h := fun x1 x2 x3 x4 => ej Zqn n (.loop Zrn) 0 (Zmx1 x1 x2 x3 x4) (Zpd1 m0)
def Zuc2 (m0 m1 : Nat) : K (ResD Zyj) := lpK Zqn m1 Zrn 0 (Zpd1 m0)
def Zox1 : Code := (rgt (rgt (rgt Zrn)))
def Zvc2 (m0 m1 : Nat) : K (ResD Zyj) := sqK Zqn m1 Zox1 0 (Zuc2 m0 m1)
def Zwc2 (m0 m1 : Nat) : K (ResD Zyj) := Zv 1 (Zvc2 m0 m1)
def Zpx1 : Code := (rgt (rgt (rgt (lft (lft (rgt (rgt Zrn)))))))
def Zxc2 (m0 m1 : Nat) : K (ResD Zyj) := sqK Zqn m1 Zpx1 1 (Zwc2 m0 m1)
def Zyc2 (m0 m1 : Nat) : K (ResD Zyj) := Zv 2 (Zxc2 m0 m1)
def Zqx1 : Code := (lft (lft (rgt (lft (rgt (rgt (lft (lft (rgt (rgt Zrn))))))))))
def Zqr (m0 m1 n : Nat) : ByteArray → Int → Int → Int → Int → Int → D13a → Option D13h := fun x5 x6 x7 x8 x9 x10 x11 => ej Zqn n (.loop Zqx1) 2 (Zlx1 x5 x6 x7 x8 x9 x10 x11) (Zyc2 m0 m1)
theorem Zio1 (m0 m1 n : Nat) : Zqr m0 m1 (n + 1) = Zx.S1 (Zpr m0 m1) (Zqr m0 m1 n) := by kernel_rfl
theorem Zzc2 (m0 m1 : Nat) : ∀ n : Nat, Zqr m0 m1 n = Zx.l1 (Zpr m0 m1) n :=
  ind rfl fun n e1 => (Zio1 m0 m1 n).trans (by rw [e1]; rfl)
theorem Zjo1 (m0 n : Nat) : Zpr m0 (n + 1) = Zx.S0 (Zqr m0 n n) := by kernel_rfl
theorem Zad2 (m0 : Nat) : ∀ n : Nat, Zpr m0 n = Zx.l0 n :=
  ind rfl fun n e0 => by
    have e1 : Zqr m0 n n = Zx.l1 (Zx.l0 n) n := by rw [← e0]; exact Zzc2 m0 n n
    rw [Zjo1 m0 n, e1]; rfl
theorem Zdp2 (m0 : Nat) (x : ArgsD Zjx1) : run Zqn Zod1 m0 x Zkx1 = Zx.S (Zpr m0 m0) x.1 x.2.1 := by kernel_rfl
abbrev Zyj1 : AM.Spec := AM.spec Zjx1 Zyj (fun x => Zx x.1 x.2.1)
theorem Zcy2 : Zg Tryz.prog 128 Zyj1 := ctrC tabOk (fn := Tryz.f128) (fun x => (Zdp2 fu x).trans (by rw [Zad2 fu fu]; rfl)) (Ze trivial)
abbrev Zrx1 : Env := tab.env (AM.look []) ⟨[], [], [], ⟨tt [2], []⟩, [], [], [], []⟩
def Zdy2 : Code := bd Tryz.f175
abbrev Zqd1 : List (Ty × List Tag) := [(k13b, [])]
abbrev Zey2 : List PK := [.val k13b]
abbrev Zfy2 : K (ResD Zqd1) := fin Zrx1 [.tmp 2] [] Zqd1
abbrev Zzj1 : AM.Spec := AM.spec Zey2 Zqd1 (fun x => some (Zub x.1))
theorem Zgy2 : Zg Tryz.prog 175 Zzj1 := ctrC tabOk (fn := Tryz.f175) (show ∀ x, run Zrx1 Zdy2 fu x Zfy2 = _ from fun x => by kernel_rfl) (Ze trivial)
abbrev Zsx1 : Env := tab.env (AM.look [(118, Zt6), (105, Zs6)]) ⟨[], [], [], ⟨tt [2], []⟩, [], [105, 118], [], []⟩
def Zhy2 : Code := bd Tryz.f176
abbrev Zrd1 : List (Ty × List Tag) := [(k13b, [])]
abbrev Ziy2 : List PK := [.val k13b]
abbrev Zjy2 : K (ResD Zrd1) := fin Zsx1 [.tmp 2] [] Zrd1
abbrev Zak1 : AM.Spec := AM.spec Ziy2 Zrd1 (fun x => Zvo x.1)
theorem Zky2 : Zg Tryz.prog 176 Zak1 := ctrC tabOk (fn := Tryz.f176) (show ∀ x, run Zsx1 Zhy2 fu x Zjy2 = _ from fun x => by kernel_rfl) (Ze ⟨⟨Zeu1, Tryz.call118, fun _ => Zd rfl⟩, ⟨⟨Zlt1, Tryz.call105, fun _ => Zd rfl⟩, trivial⟩⟩)
abbrev Zf4 : Env := tab.env (AM.look [(175, Zzj1), (176, Zak1)]) ⟨[(0, ⟨tt [0, 5, 11, 12], []⟩)], [], [], ⟨tt [2, 3, 4], []⟩, [], [175, 176], [], []⟩
def Zsd1 : Code := bd Tryz.f150
abbrev Zpw : List (Ty × List Tag) := [(k13b, []), (k13b, []), (k13b, [])]
abbrev Ztx1 : List PK := [.val .str]
abbrev Zux1 : K (ResD Zpw) := fin Zf4 [.tmp 2, .tmp 3, .tmp 4] [] Zpw
def Zvx1 (x1 : ByteArray) (x2 x3 x4 : Int) : St := mk [(0, .dat .str x1 []), (5, .dat (.int .u64) x2 []), (11, .dat k13b x3 []), (12, .dat k13b x4 [])] []
def Zwx1 : Code := (rgt (rgt (rgt Zsd1)))
def Zbd2 (m0 : Nat) : K (ResD Zpw) := sqK Zf4 m0 Zwx1 0 Zux1
def Zcd2 (m0 : Nat) : K (ResD Zpw) := Zv 0 (Zbd2 m0)
def Zxx1 : Code := (lft (lft (rgt (lft (rgt (rgt Zsd1))))))
def Zsz (m0 n : Nat) : ByteArray → Int → Int → Int → Option (Int × Int × Int) := fun x1 x2 x3 x4 => ej Zf4 n (.loop Zxx1) 0 (Zvx1 x1 x2 x3 x4) (Zcd2 m0)
theorem Zko1 (m0 n : Nat) : Zsz m0 (n + 1) = Zec.S0 (Zsz m0 n) := by kernel_rfl
theorem Zdd2 (m0 : Nat) : ∀ n : Nat, Zsz m0 n = Zec.l0 n :=
  ind rfl fun n e0 => (Zko1 m0 n).trans (by rw [e0]; rfl)
theorem Zep2 (m0 : Nat) (x : ArgsD Ztx1) : run Zf4 Zsd1 m0 x Zux1 = Zec.S (Zsz m0 m0) x.1 := by kernel_rfl
abbrev Zmm : AM.Spec := AM.spec Ztx1 Zpw (fun x => Zec x.1)
theorem Zrr : Zg Tryz.prog 150 Zmm := ctrC tabOk (fn := Tryz.f150) (fun x => (Zep2 fu x).trans (by rw [Zdd2 fu fu]; rfl)) (Ze ⟨⟨Zgy2, Tryz.call175, fun _ => Zd rfl⟩, ⟨⟨Zky2, Tryz.call176, fun _ => Zd rfl⟩, trivial⟩⟩)
abbrev Zsr : Env := tab.env (AM.look [(150, Zmm), (106, Zmz)]) ⟨[(0, ⟨tt [0, 1, 6, 7], []⟩)], [], [(15, ⟨tt [1, 6, 7], []⟩)], ⟨tt [4, 5], []⟩, [], [106, 150], [], []⟩
def Zg4 : Code := bd Tryz.f129
abbrev Zqw : List (Ty × List Tag) := [(k13j, [⟨0, 1, 0, 3⟩]), (k13b, [])]
abbrev Zyx1 : List PK := [.val .str, .val k13b]
abbrev Zh4 : K (ResD Zqw) := fin Zsr [.tmp 4, .tmp 5] [] Zqw
def Zzx1 (x7 : Int) (x8 : D13o) (x9 : Int) : St := mk [(1, .dat k13b x7 []), (6, .dat k13j x8 [⟨0, 385, 0, 3⟩]), (7, .dat k13b x9 [])] []
def Zay1 (x1 : ByteArray) (x2 : Int) (x3 : D13o) (x4 : Int) : St := mk [(0, .dat .str x1 []), (1, .dat k13b x2 []), (6, .dat k13j x3 [⟨0, 385, 0, 3⟩]), (7, .dat k13b x4 [])] []
def Zh8 : Code := (rgt (rgt (rgt (rgt (rgt Zg4)))))
def Ztr (m0 n : Nat) : Int → D13o → Int → Option D13v := fun x7 x8 x9 => ej Zsr n (.tail Zh8) 0 (Zzx1 x7 x8 x9) Zh4
theorem Zlo1 (m0 n : Nat) : Ztr m0 (n + 1) = Zcb.S1 := by kernel_rfl
theorem Zed2 (m0 : Nat) : ∀ n : Nat, Ztr m0 n = Zcb.t1 n :=
  ind rfl fun n _ => Zlo1 m0 n
def Zfd2 (m0 : Nat) : K (ResD Zqw) := sqK Zsr m0 Zh8 0 Zh4
def Zgd2 (m0 : Nat) : K (ResD Zqw) := Zv 0 (Zfd2 m0)
def Zby1 : Code := (lft (lft (lft (rgt (rgt (rgt (rgt Zg4)))))))
def Zur (m0 n : Nat) : ByteArray → Int → D13o → Int → Option D13v := fun x1 x2 x3 x4 => ej Zsr n (.loop Zby1) 0 (Zay1 x1 x2 x3 x4) (Zgd2 m0)
theorem Zmo1 (m0 n : Nat) : Zur m0 (n + 1) = Zcb.S0 (Ztr m0 m0) (Zur m0 n) := by kernel_rfl
theorem Zhd2 (m0 : Nat) : ∀ n : Nat, Zur m0 n = Zcb.l0 (Ztr m0 m0) n :=
  ind rfl fun n e0 => (Zmo1 m0 n).trans (by rw [e0]; rfl)
theorem Zfp2 (m0 : Nat) (x : ArgsD Zyx1) : run Zsr Zg4 m0 x Zh4 = Zcb.S (Zur m0 m0) x.1 x.2.1 := by kernel_rfl
abbrev Zw6 : AM.Spec := AM.spec Zyx1 Zqw (fun x => Zcb x.1 x.2.1)
theorem Zcy1 : Zg Tryz.prog 129 Zw6 := ctrC tabOk (fn := Tryz.f129) (show ∀ x, run Zsr Zg4 fu x Zh4 = _ from fun x => by
  have e1 : Ztr fu fu = Zcb.t1 fu := Zed2 fu fu
  have e0 : Zur fu fu = Zcb.l0 (Zcb.t1 fu) fu := by rw [← e1]; exact Zhd2 fu fu
  refine (Zfp2 fu x).trans ?_
  rw [e0]; rfl) (Ze ⟨⟨Zrr, Tryz.call150, fun _ => Zd rfl⟩, ⟨⟨Zgc1, Tryz.call106, fun _ => Zd rfl⟩, trivial⟩⟩)
abbrev Zdy1 : Env := tab.env (AM.look []) ⟨[], [], [], ⟨tt [4, 5], []⟩, [], [], [], []⟩
def Zly2 : Code := bd Tryz.f190
abbrev Ztd1 : List (Ty × List Tag) := [((.int .u64), []), ((.int .u64), [])]
abbrev Zmy2 : List PK := [.val (.int .u64), .val (.int .u64)]
abbrev Zny2 : K (ResD Ztd1) := fin Zdy1 [.tmp 4, .tmp 5] [] Ztd1
abbrev Zbk1 : AM.Spec := AM.spec Zmy2 Ztd1 (fun x => some (Zrl x.1 x.2.1))
theorem Zoy2 : Zg Tryz.prog 190 Zbk1 := ctrC tabOk (fn := Tryz.f190) (show ∀ x, run Zdy1 Zly2 fu x Zny2 = _ from fun x => by kernel_rfl) (Ze trivial)
abbrev Zey1 : Env := tab.env (AM.look [(190, Zbk1)]) ⟨[], [], [], ⟨tt [4, 5], []⟩, [], [190], [], []⟩
def Zpy2 : Code := bd Tryz.f177
abbrev Zud1 : List (Ty × List Tag) := [((.int .u64), []), ((.int .u64), [])]
abbrev Zqy2 : List PK := [.val (.int .u64), .val (.int .u64)]
abbrev Zry2 : K (ResD Zud1) := fin Zey1 [.tmp 4, .tmp 5] [] Zud1
abbrev Zck1 : AM.Spec := AM.spec Zqy2 Zud1 (fun x => some (Zkk x.1 x.2.1))
theorem Zsy2 : Zg Tryz.prog 177 Zck1 := ctrC tabOk (fn := Tryz.f177) (show ∀ x, run Zey1 Zpy2 fu x Zry2 = _ from fun x => by kernel_rfl) (Ze ⟨⟨Zoy2, Tryz.call190, fun _ => Zd rfl⟩, trivial⟩)
abbrev Zvr : Env := tab.env (AM.look [(177, Zck1)]) ⟨[(0, ⟨tt [7, 8], tt [30]⟩)], [], [(3, ⟨tt [0, 1], []⟩), (6, ⟨tt [0, 6], []⟩)], ⟨tt [4], tt [30]⟩, [4, 7, 30, 31, 35, 39, 41, 42, 44, 47], [177], [], []⟩
def Zrw : Code := bd Tryz.f151
abbrev Zsw : List (Ty × List Tag) := [(k13d, [])]
abbrev Zfy1 : List PK := [.val k13d, .val k13b]
abbrev Zi4 : K (ResD Zsw) := fin Zvr [.tmp 4] [] Zsw
def Zgy1 (x6 : Int) (x7 : D13a) : St := mk [(7, .slw 30 0), (8, .dat k13b x6 [])] [(30, some (.arr k13b x7 false))]
def Zhy1 (x4 : D13a) (x5 : Int) : St := mk [(0, .dat k13d x4 []), (6, .dat (.int .u64) x5 [])] []
def Ziy1 (x1 : D13a) (x2 : Int) : St := mk [(0, .dat k13d x1 []), (1, .dat k13b x2 [])] []
def Zjy1 : Code := (rgt (rgt (rgt (rgt (rgt (rgt (rgt Zrw)))))))
def Zid2 (m0 m1 m2 : Nat) : K (ResD Zsw) := sqK Zvr m2 Zjy1 0 Zi4
def Zjd2 (m0 m1 m2 : Nat) : K (ResD Zsw) := Zv 0 (Zid2 m0 m1 m2)
def Zky1 : Code := (lft (lft (lft (rgt (rgt (rgt (rgt (rgt (rgt Zrw)))))))))
def Zwr (m0 m1 : Nat) (m2 n : Nat) : Int → D13a → Option D13d := fun x6 x7 => ej Zvr n (.loop Zky1) 0 (Zgy1 x6 x7) (Zjd2 m0 m1 m2)
theorem Zno1 (m0 m1 : Nat) (m2 n : Nat) : Zwr m0 m1 m2 (n + 1) = Zo.S2 (Zwr m0 m1 m2 n) := by kernel_rfl
theorem Zkd2 (m0 m1 m2 : Nat) : ∀ n : Nat, Zwr m0 m1 m2 n = Zo.l2 n :=
  ind rfl fun n e2 => (Zno1 m0 m1 m2 n).trans (by rw [e2]; rfl)
def Zly1 : Code := (rgt (rgt (rgt (rgt Zrw))))
def Ztz (m0 n : Nat) : D13a → Int → Option D13d := fun x4 x5 => ej Zvr n (.tail Zly1) 0 (Zhy1 x4 x5) Zi4
theorem Zoo1 (m0 m1 n : Nat) : Ztz m0 (n + 1) = Zo.S1 (Zwr m0 m1 n n) := by kernel_rfl
theorem Zld2 (m0 m1 : Nat) : ∀ n : Nat, Ztz m0 n = Zo.t1 n :=
  ind rfl fun n e1 => by
    have e2 : Zwr m0 m1 n n = Zo.l2 n := Zkd2 m0 m1 n n
    rw [Zoo1 m0 m1 n, e2]; rfl
def Zmy1 : Code := (rgt (rgt Zrw))
def Zx6 (m0 n : Nat) : D13a → Int → Option D13d := fun x1 x2 => ej Zvr n (.tail Zmy1) 0 (Ziy1 x1 x2) Zi4
theorem Zpo1 (m0 n : Nat) : Zx6 m0 (n + 1) = Zo.S0 (Ztz m0 n) := by kernel_rfl
theorem Zmd2 (m0 : Nat) : ∀ n : Nat, Zx6 m0 n = Zo.t0 n :=
  ind rfl fun n e0 => by
    have e1 : Ztz m0 n = Zo.t1 n := Zld2 m0 n n
    rw [Zpo1 m0 n, e1]; rfl
theorem Zgp2 (m0 : Nat) (x : ArgsD Zfy1) : run Zvr Zrw m0 x Zi4 = Zo.S (Zx6 m0 m0) x.1 x.2.1 := by kernel_rfl
abbrev Zdk1 : AM.Spec := AM.spec Zfy1 Zsw (fun x => Zo x.1 x.2.1)
theorem Zty2 : Zg Tryz.prog 151 Zdk1 := ctrC tabOk (fn := Tryz.f151) (fun x => (Zgp2 fu x).trans (by rw [Zmd2 fu fu]; rfl)) (Ze ⟨⟨Zsy2, Tryz.call177, fun _ => Zd rfl⟩, trivial⟩)
abbrev Zj4 : Env := tab.env (AM.look [(106, Zmz), (151, Zdk1)]) ⟨[(0, ⟨tt [6, 18, 19, 20], []⟩)], [], [], ⟨tt [2, 3], []⟩, [], [106], [], []⟩
def Zvd1 : Code := bd Tryz.f130
abbrev Ztw : List (Ty × List Tag) := [(k13d, [⟨0, 1, 0, 1⟩]), (k13b, [])]
abbrev Zny1 : List PK := [.val k13j]
abbrev Zoy1 : K (ResD Ztw) := fin Zj4 [.tmp 2, .tmp 3] [] Ztw
def Zpy1 (x2 : D13a) (x3 : D13o) (x4 x5 : Int) : St := mk [(6, .dat k13d x2 [⟨0, 385, 0, 1⟩]), (18, .dat k13j x3 []), (19, .dat k13b x4 []), (20, .dat k13b x5 [])] []
def Zqy1 : Code := (rgt (rgt (rgt (rgt (rgt Zvd1)))))
def Znd2 (m0 : Nat) : K (ResD Ztw) := sqK Zj4 m0 Zqy1 0 Zoy1
def Zod2 (m0 : Nat) : K (ResD Ztw) := Zv 0 (Znd2 m0)
def Zry1 : Code := (lft (lft (rgt (lft (rgt (rgt (rgt (rgt Zvd1))))))))
def Zuz (m0 n : Nat) : D13a → D13o → Int → Int → Option D13h := fun x2 x3 x4 x5 => ej Zj4 n (.loop Zry1) 0 (Zpy1 x2 x3 x4 x5) (Zod2 m0)
theorem Zqo1 (m0 n : Nat) : Zuz m0 (n + 1) = Zvc.S0 (Zuz m0 n) := by kernel_rfl
theorem Zpd2 (m0 : Nat) : ∀ n : Nat, Zuz m0 n = Zvc.l0 n :=
  ind rfl fun n e0 => (Zqo1 m0 n).trans (by rw [e0]; rfl)
theorem Zhp2 (m0 : Nat) (x : ArgsD Zny1) : run Zj4 Zvd1 m0 x Zoy1 = Zvc.S (Zuz m0 m0) x.1 := by kernel_rfl
abbrev Zy6 : AM.Spec := AM.spec Zny1 Ztw (fun x => Zvc x.1)
theorem Zsy1 : Zg Tryz.prog 130 Zy6 := ctrC tabOk (fn := Tryz.f130) (fun x => (Zhp2 fu x).trans (by rw [Zpd2 fu fu]; rfl)) (Ze ⟨⟨Zgc1, Tryz.call106, fun _ => Zd rfl⟩, ⟨⟨Zty2, Tryz.call151, nw⟩, trivial⟩⟩)
abbrev Zty1 : Env := tab.env (AM.look [(150, Zmm)]) ⟨[], [], [], ⟨tt [2], tt [1000000, 1000001]⟩, [], [150], [], []⟩
def Zuy2 : Code := bd Tryz.f152
abbrev Zwd1 : List (Ty × List Tag) := [(k13b, []), (.str, []), (.bool, [])]
abbrev Zvy2 : List PK := [.io .str [], .io .bool []]
abbrev Zwy2 : K (ResD Zwd1) := fin Zty1 [.tmp 2] [.io .str [], .io .bool []] Zwd1
abbrev Zek1 : AM.Spec := AM.Zaf 1 Zvy2 Zwd1 (fun x => Zre x.1 x.2.1)
theorem Zxy2 : Zg Tryz.prog 152 Zek1 := ctrI tabOk (fn := Tryz.f152) (show ∀ x, run Zty1 Zuy2 fu x Zwy2 = _ from fun x => by kernel_rfl) (Ze ⟨⟨Zrr, Tryz.call150, fun _ => Zd rfl⟩, trivial⟩)
abbrev Zuy1 : Env := tab.env (AM.look []) ⟨[], [], [], ⟨tt [4], []⟩, [], [], [], []⟩
def Zyy2 : Code := bd Tryz.f153
abbrev Zxd1 : List (Ty × List Tag) := [(k13b, [])]
abbrev Zzy2 : List PK := [.val k13b, .val k13b]
abbrev Zaz2 : K (ResD Zxd1) := fin Zuy1 [.tmp 4] [] Zxd1
abbrev Zfk1 : AM.Spec := AM.spec Zzy2 Zxd1 (fun x => some (Zjh x.1 x.2.1))
theorem Zbz2 : Zg Tryz.prog 153 Zfk1 := ctrC tabOk (fn := Tryz.f153) (show ∀ x, run Zuy1 Zyy2 fu x Zaz2 = _ from fun x => by kernel_rfl) (Ze trivial)
abbrev Zxr : Env := tab.env (AM.look [(152, Zek1), (126, Zoo), (153, Zfk1), (76, Zoc1)]) ⟨[(0, ⟨tt [0, 6, 8, 10, 54, 55, 56], tt [8]⟩)], [], [(8, ⟨tt [0, 1, 6, 7, 8, 9], tt [7, 8]⟩), (20, ⟨tt [0, 6, 8], tt [8]⟩)], ⟨tt [4, 5], []⟩, [24], [76, 152, 153], [], []⟩
def Zk4 : Code := bd Tryz.f131
abbrev Zuw : List (Ty × List Tag) := [(k13d, [⟨0, 1, 0, 1⟩]), (k13b, [])]
abbrev Zvy1 : List PK := [.val .str, .val k13b]
abbrev Zl4 : K (ResD Zuw) := fin Zxr [.tmp 4, .tmp 5] [] Zuw
def Zwy1 (x18 : ByteArray) (x19 : D13a) (x20 : Bool) : St := mk [(0, .dat .str x18 []), (6, .dat k13d x19 [⟨0, 385, 0, 1⟩]), (8, .ptr 8 0 0)] [(8, some (.var .bool x20 []))]
def Zxy1 (x9 : ByteArray) (x10 : D13a) (x11 : Int) (x12 : D13a) (x13 x14 : Int) (x15 : Bool) : St := mk [(0, .dat .str x9 []), (6, .dat k13d x10 [⟨0, 385, 0, 1⟩]), (8, .ptr 8 0 0), (10, .dat k13b x11 []), (54, .dat k13d x12 []), (55, .dat k13b x13 []), (56, .dat k13b x14 [])] [(8, some (.var .bool x15 []))]
def Zyy1 (x2 : ByteArray) (x3 : Int) (x4 : D13a) (x5 : ByteArray) (x6 : Bool) : St := mk [(0, .dat .str x2 []), (1, .dat k13b x3 []), (6, .dat k13d x4 [⟨0, 385, 0, 1⟩]), (7, .ptr 7 0 0), (8, .ptr 8 0 0), (9, .clo 152 [(7, 0), (8, 0)])] [(7, some (.var .str x5 [])), (8, some (.var .bool x6 []))]
def Zi8 : Code := (rgt (rgt (rgt (rgt (rgt (rgt (rgt Zk4)))))))
def Zpo (m0 n : Nat) : ByteArray → D13a → Bool → Option D13h := fun x18 x19 x20 => ej Zxr n (.tail Zi8) 0 (Zwy1 x18 x19 x20) Zl4
theorem Zro1 (m0 m1 n : Nat) : Zpo m0 (n + 1) = Zz.S2 := by kernel_rfl
theorem Zqd2 (m0 m1 : Nat) : ∀ n : Nat, Zpo m0 n = Zz.t2 n :=
  ind rfl fun n _ => Zro1 m0 m1 n
def Zrd2 (m0 m1 : Nat) : K (ResD Zuw) := sqK Zxr m1 Zi8 0 Zl4
def Zsd2 (m0 m1 : Nat) : K (ResD Zuw) := Zv 0 (Zrd2 m0 m1)
def Zzy1 : Code := (lft (lft (rgt (rgt (rgt (rgt (rgt (lft (rgt (lft (rgt (rgt (rgt (rgt (rgt (rgt Zk4))))))))))))))))
def Zyr (m0 m1 n : Nat) : ByteArray → D13a → Int → D13a → Int → Int → Bool → Option D13h := fun x9 x10 x11 x12 x13 x14 x15 => ej Zxr n (.loop Zzy1) 0 (Zxy1 x9 x10 x11 x12 x13 x14 x15) (Zsd2 m0 m1)
theorem Zso1 (m0 m1 n : Nat) : Zyr m0 m1 (n + 1) = Zz.S1 (Zpo m0 m1) (Zyr m0 m1 n) := by kernel_rfl
theorem Ztd2 (m0 m1 : Nat) : ∀ n : Nat, Zyr m0 m1 n = Zz.l1 (Zpo m0 m1) n :=
  ind rfl fun n e1 => (Zso1 m0 m1 n).trans (by rw [e1]; rfl)
def Zaz1 : Code := (rgt (rgt (rgt (rgt (rgt (rgt Zk4))))))
def Zz6 (m0 n : Nat) : ByteArray → Int → D13a → ByteArray → Bool → Option D13h := fun x2 x3 x4 x5 x6 => ej Zxr n (.tail Zaz1) 0 (Zyy1 x2 x3 x4 x5 x6) Zl4
theorem Zto1 (m0 n : Nat) : Zz6 m0 (n + 1) = Zz.S0 (Zyr m0 n n) (Zpo m0 n) := by kernel_rfl
theorem Zud2 (m0 : Nat) : ∀ n : Nat, Zz6 m0 n = Zz.t0 n :=
  ind rfl fun n e0 => by
    have e2 : Zpo m0 n = Zz.t2 n := Zqd2 m0 n n
    have e1 : Zyr m0 n n = Zz.l1 (Zz.t2 n) n := by rw [← e2]; exact Ztd2 m0 n n
    rw [Zto1 m0 n, e1, e2]; rfl
theorem Zip2 (m0 : Nat) (x : ArgsD Zvy1) : run Zxr Zk4 m0 x Zl4 = Zz.S (Zz6 m0 m0) x.1 x.2.1 := by kernel_rfl
abbrev Zgk1 : AM.Spec := AM.spec Zvy1 Zuw (fun x => Zz x.1 x.2.1)
theorem Zcz2 : Zg Tryz.prog 131 Zgk1 := ctrC tabOk (fn := Tryz.f131) (fun x => (Zip2 fu x).trans (by rw [Zud2 fu fu]; rfl)) (Ze ⟨⟨Zxy2, Tryz.call152, fun _ => Zek2 rfl⟩, ⟨⟨Znw, Tryz.call126, nw⟩, ⟨⟨Zbz2, Tryz.call153, fun _ => Zd rfl⟩, ⟨⟨c_f76, Tryz.call76, fun _ => Zd rfl⟩, trivial⟩⟩⟩⟩)
abbrev Zbz1 : Env := tab.env (AM.look [(150, Zmm)]) ⟨[], [], [], ⟨tt [2, 3], []⟩, [], [150], [], []⟩
def Zdz2 : Code := bd Tryz.f155
abbrev Zyd1 : List (Ty × List Tag) := [(k13b, []), (k13b, [])]
abbrev Zez2 : List PK := [.val .str]
abbrev Zfz2 : K (ResD Zyd1) := fin Zbz1 [.tmp 2, .tmp 3] [] Zyd1
abbrev Zhk1 : AM.Spec := AM.spec Zez2 Zyd1 (fun x => Zhi x.1)
theorem Zgz2 : Zg Tryz.prog 155 Zhk1 := ctrC tabOk (fn := Tryz.f155) (show ∀ x, run Zbz1 Zdz2 fu x Zfz2 = _ from fun x => by kernel_rfl) (Ze ⟨⟨Zrr, Tryz.call150, fun _ => Zd rfl⟩, trivial⟩)
abbrev Zm4 : Env := tab.env (AM.look []) ⟨[(0, ⟨tt [0, 1, 7, 8], []⟩)], [], [], ⟨tt [4], []⟩, [], [], [], []⟩
def Zzd1 : Code := bd Tryz.f191
abbrev Zvw : List (Ty × List Tag) := [(k13b, [])]
abbrev Zcz1 : List PK := [.val (.sl .bool), .val .bool]
abbrev Zdz1 : K (ResD Zvw) := fin Zm4 [.tmp 4] [] Zvw
def Zez1 (x1 : D13c) (x2 : Bool) (x3 x4 : Int) : St := mk [(0, .dat (.sl .bool) x1 []), (1, .dat .bool x2 []), (7, .dat k13b x3 []), (8, .dat k13b x4 [])] []
def Zfz1 : Code := (rgt (rgt Zzd1))
def Zvd2 (m0 : Nat) : K (ResD Zvw) := sqK Zm4 m0 Zfz1 0 Zdz1
def Zwd2 (m0 : Nat) : K (ResD Zvw) := Zv 0 (Zvd2 m0)
def Zgz1 : Code := (lft (lft (rgt (lft (rgt Zzd1)))))
def Zvz (m0 n : Nat) : D13c → Bool → Int → Int → Option Int := fun x1 x2 x3 x4 => ej Zm4 n (.loop Zgz1) 0 (Zez1 x1 x2 x3 x4) (Zwd2 m0)
theorem Zuo1 (m0 n : Nat) : Zvz m0 (n + 1) = Zma.S0 (Zvz m0 n) := by kernel_rfl
theorem Zxd2 (m0 : Nat) : ∀ n : Nat, Zvz m0 n = Zma.l0 n :=
  ind rfl fun n e0 => (Zuo1 m0 n).trans (by rw [e0]; rfl)
theorem Zjp2 (m0 : Nat) (x : ArgsD Zcz1) : run Zm4 Zzd1 m0 x Zdz1 = Zma.S (Zvz m0 m0) x.1 x.2.1 := by kernel_rfl
abbrev Zik1 : AM.Spec := AM.spec Zcz1 Zvw (fun x => Zma x.1 x.2.1)
theorem Zhz2 : Zg Tryz.prog 191 Zik1 := ctrC tabOk (fn := Tryz.f191) (fun x => (Zjp2 fu x).trans (by rw [Zxd2 fu fu]; rfl)) (Ze trivial)
abbrev Zhz1 : Env := tab.env (AM.look [(191, Zik1)]) ⟨[], [], [], ⟨tt [4], []⟩, [], [191], [], []⟩
def Ziz2 : Code := bd Tryz.f178
abbrev Zae1 : List (Ty × List Tag) := [(.bool, [])]
abbrev Zjz2 : List PK := [.val (.sl .bool), .val .bool]
abbrev Zkz2 : K (ResD Zae1) := fin Zhz1 [.tmp 4] [] Zae1
abbrev Za7 : AM.Spec := AM.spec Zjz2 Zae1 (fun x => Zcd x.1 x.2.1)
theorem Ziz1 : Zg Tryz.prog 178 Za7 := ctrC tabOk (fn := Tryz.f178) (show ∀ x, run Zhz1 Ziz2 fu x Zkz2 = _ from fun x => by kernel_rfl) (Ze ⟨⟨Zhz2, Tryz.call191, fun _ => Zd rfl⟩, trivial⟩)
abbrev Zxl : Env := tab.env (AM.look [(150, Zmm), (155, Zhk1), (70, Zon), (126, Zoo), (178, Za7)]) ⟨[(0, ⟨tt [0, 1, 2, 9, 10, 12, 47, 48], []⟩), (2, ⟨tt [9, 12, 16, 17, 98, 99, 100], tt [97]⟩)], [], [(20, ⟨tt [0, 1, 9, 10, 12], []⟩), (31, ⟨tt [12, 16, 17], tt [97]⟩)], ⟨tt [6, 7, 8], []⟩, [17, 97, 111, 115], [70, 150, 155, 178], [], [89]⟩
def Zzr : Code := bd Tryz.f154
abbrev Zzo : List (Ty × List Tag) := [(k13d, [⟨0, 1, 0, 1⟩]), (k13d, []), (k13b, [])]
abbrev Zjz1 : List PK := [.val .str, .val k13b, .fn 155 []]
abbrev Zas : K (ResD Zzo) := fin Zxl [.tmp 6, .tmp 7, .tmp 8] [] Zzo
def Zkz1 (x24 x25 : D13a) (x26 : D13c) : St := mk [(12, .dat k13d x24 [⟨0, 769, 0, 1⟩]), (16, .dat k13d x25 []), (17, .slw 97 0)] [(97, some (.arr .bool x26 false))]
def Zlz1 (x17 : Int) (x18 x19 x20 : D13a) (x21 x22 : Int) (x23 : D13c) : St := mk [(9, .dat k13b x17 []), (12, .dat k13d x18 [⟨0, 769, 0, 1⟩]), (16, .dat k13d x19 []), (17, .slw 97 0), (98, .dat k13d x20 []), (99, .dat k13b x21 []), (100, .dat k13b x22 [])] [(97, some (.arr .bool x23 false))]
def Zmz1 (x10 : ByteArray) (x11 x12 x13 : Int) (x14 : D13a) : St := mk [(0, .dat .str x10 []), (1, .dat k13b x11 []), (9, .dat k13b x12 []), (10, .dat k13b x13 []), (12, .dat k13d x14 [⟨0, 769, 0, 1⟩])] []
def Znz1 (x2 : ByteArray) (x3 x4 x5 : Int) (x6 : D13a) (x7 x8 : Int) : St := mk [(0, .dat .str x2 []), (1, .dat k13b x3 []), (2, .fn 155 []), (9, .dat k13b x4 []), (10, .dat k13b x5 []), (12, .dat k13d x6 [⟨0, 769, 0, 1⟩]), (47, .dat k13b x7 []), (48, .dat k13b x8 [])] []
def Zj8 : Code := (rgt (rgt (rgt (rgt (rgt (rgt (rgt (rgt (rgt (rgt (rgt Zzr)))))))))))
def Zbs (m0 n : Nat) : D13a → D13a → D13c → Option D13s := fun x24 x25 x26 => ej Zxl n (.tail Zj8) 0 (Zkz1 x24 x25 x26) Zas
theorem Zvo1 (m0 m1 n : Nat) : Zbs m0 (n + 1) = Zb.S3 := by kernel_rfl
theorem Zyd2 (m0 m1 : Nat) : ∀ n : Nat, Zbs m0 n = Zb.t3 n :=
  ind rfl fun n _ => Zvo1 m0 m1 n
def Zzd2 (m0 m1 : Nat) : K (ResD Zzo) := sqK Zxl m1 Zj8 0 Zas
def Zae2 (m0 m1 : Nat) : K (ResD Zzo) := Zv 2 (Zzd2 m0 m1)
def Zoz1 : Code := (lft (lft (rgt (lft (rgt (rgt (rgt (rgt (rgt (rgt (rgt (rgt (rgt (rgt Zzr))))))))))))))
def Zcs (m0 m1 n : Nat) : Int → D13a → D13a → D13a → Int → Int → D13c → Option D13s := fun x17 x18 x19 x20 x21 x22 x23 => ej Zxl n (.loop Zoz1) 2 (Zlz1 x17 x18 x19 x20 x21 x22 x23) (Zae2 m0 m1)
theorem Zwo1 (m0 m1 n : Nat) : Zcs m0 m1 (n + 1) = Zb.S2 (Zbs m0 m1) (Zcs m0 m1 n) := by kernel_rfl
theorem Zbe2 (m0 m1 : Nat) : ∀ n : Nat, Zcs m0 m1 n = Zb.l2 (Zbs m0 m1) n :=
  ind rfl fun n e2 => (Zwo1 m0 m1 n).trans (by rw [e2]; rfl)
def Zk8 : Code := (rgt (rgt (rgt (rgt (rgt (rgt (rgt Zzr)))))))
def Zds (m0 n : Nat) : ByteArray → Int → Int → Int → D13a → Option D13s := fun x10 x11 x12 x13 x14 => ej Zxl n (.tail Zk8) 0 (Zmz1 x10 x11 x12 x13 x14) Zas
theorem Zxo1 (m0 n : Nat) : Zds m0 (n + 1) = Zb.S1 (Zcs m0 n n) := by kernel_rfl
theorem Zce2 (m0 : Nat) : ∀ n : Nat, Zds m0 n = Zb.t1 n :=
  ind rfl fun n e1 => by
    have e3 : Zbs m0 n = Zb.t3 n := Zyd2 m0 n n
    have e2 : Zcs m0 n n = Zb.l2 (Zb.t3 n) n := by rw [← e3]; exact Zbe2 m0 n n
    rw [Zxo1 m0 n, e2]; rfl
def Zde2 (m0 : Nat) : K (ResD Zzo) := sqK Zxl m0 Zk8 0 Zas
def Zee2 (m0 : Nat) : K (ResD Zzo) := Zv 0 (Zde2 m0)
def Zpz1 : Code := (lft (lft (rgt (lft (rgt (rgt (rgt (rgt (rgt (rgt Zzr))))))))))
def Zes (m0 n : Nat) : ByteArray → Int → Int → Int → D13a → Int → Int → Option D13s := fun x2 x3 x4 x5 x6 x7 x8 => ej Zxl n (.loop Zpz1) 0 (Znz1 x2 x3 x4 x5 x6 x7 x8) (Zee2 m0)
theorem Zyo1 (m0 n : Nat) : Zes m0 (n + 1) = Zb.S0 (Zds m0 m0) (Zes m0 n) := by kernel_rfl
theorem Zfe2 (m0 : Nat) : ∀ n : Nat, Zes m0 n = Zb.l0 (Zds m0 m0) n :=
  ind rfl fun n e0 => (Zyo1 m0 n).trans (by rw [e0]; rfl)
theorem Zkp2 (m0 : Nat) (x : ArgsD Zjz1) : run Zxl Zzr m0 x Zas = Zb.S (Zes m0 m0) x.1 x.2.1 := by kernel_rfl
abbrev Zjk1 : AM.Spec := AM.spec Zjz1 Zzo (fun x => Zb x.1 x.2.1)
theorem Zlz2 : Zg Tryz.prog 154 Zjk1 := ctrC tabOk (fn := Tryz.f154) (show ∀ x, run Zxl Zzr fu x Zas = _ from fun x => by
  have e1 : Zds fu fu = Zb.t1 fu := Zce2 fu fu
  have e0 : Zes fu fu = Zb.l0 (Zb.t1 fu) fu := by rw [← e1]; exact Zfe2 fu fu
  refine (Zkp2 fu x).trans ?_
  rw [e0]; rfl) (Ze ⟨⟨Zrr, Tryz.call150, fun _ => Zd rfl⟩, ⟨⟨Zgz2, Tryz.call155, fun _ => Zd rfl⟩, ⟨⟨c_f70, Tryz.call70, fun _ => Zd rfl⟩, ⟨⟨Znw, Tryz.call126, nw⟩, ⟨⟨Ziz1, Tryz.call178, fun _ => Zd rfl⟩, trivial⟩⟩⟩⟩⟩)
abbrev Zn4 : Env := tab.env (AM.look []) ⟨[(0, ⟨tt [0, 5, 8, 9, 10], []⟩)], [], [], ⟨tt [4], []⟩, [], [], [], []⟩
def Zbe1 : Code := bd Tryz.f156
abbrev Zww : List (Ty × List Tag) := [(k13d, [⟨0, 1, 0, 1⟩])]
abbrev Zqz1 : List PK := [.val k13d, .val k13d]
abbrev Zrz1 : K (ResD Zww) := fin Zn4 [.tmp 4] [] Zww
def Zsz1 (x1 x2 x3 : D13a) (x4 x5 : Int) : St := mk [(0, .dat k13d x1 []), (5, .dat k13d x2 [⟨0, 321, 0, 1⟩]), (8, .dat k13d x3 []), (9, .dat k13b x4 []), (10, .dat k13b x5 [])] []
def Ztz1 : Code := (rgt (rgt (rgt Zbe1)))
def Zge2 (m0 : Nat) : K (ResD Zww) := sqK Zn4 m0 Ztz1 0 Zrz1
def Zhe2 (m0 : Nat) : K (ResD Zww) := Zv 0 (Zge2 m0)
def Zuz1 : Code := (lft (lft (rgt (lft (rgt (rgt Zbe1))))))
def Zwz (m0 n : Nat) : D13a → D13a → D13a → Int → Int → Option D13d := fun x1 x2 x3 x4 x5 => ej Zn4 n (.loop Zuz1) 0 (Zsz1 x1 x2 x3 x4 x5) (Zhe2 m0)
theorem Zzo1 (m0 n : Nat) : Zwz m0 (n + 1) = Zac.S0 (Zwz m0 n) := by kernel_rfl
theorem Zie2 (m0 : Nat) : ∀ n : Nat, Zwz m0 n = Zac.l0 n :=
  ind rfl fun n e0 => (Zzo1 m0 n).trans (by rw [e0]; rfl)
theorem Zlp2 (m0 : Nat) (x : ArgsD Zqz1) : run Zn4 Zbe1 m0 x Zrz1 = Zac.S (Zwz m0 m0) x.1 x.2.1 := by kernel_rfl
abbrev Zkk1 : AM.Spec := AM.spec Zqz1 Zww (fun x => Zac x.1 x.2.1)
theorem Zmz2 : Zg Tryz.prog 156 Zkk1 := ctrC tabOk (fn := Tryz.f156) (fun x => (Zlp2 fu x).trans (by rw [Zie2 fu fu]; rfl)) (Ze trivial)
abbrev Zvz1 : Env := tab.env (AM.look [(154, Zjk1), (156, Zkk1)]) ⟨[], [], [], ⟨tt [4, 5], []⟩, [], [], [], []⟩
def Znz2 : Code := bd Tryz.f132
abbrev Zce1 : List (Ty × List Tag) := [(k13d, [⟨0, 1, 0, 1⟩]), (k13b, [])]
abbrev Zoz2 : List PK := [.val .str, .val k13b]
abbrev Zpz2 : K (ResD Zce1) := fin Zvz1 [.tmp 4, .tmp 5] [] Zce1
abbrev Zlk1 : AM.Spec := AM.spec Zoz2 Zce1 (fun x => Zlk x.1 x.2.1)
theorem Zqz2 : Zg Tryz.prog 132 Zlk1 := ctrC tabOk (fn := Tryz.f132) (show ∀ x, run Zvz1 Znz2 fu x Zpz2 = _ from fun x => by kernel_rfl) (Ze ⟨⟨Zlz2, Tryz.call154, nw⟩, ⟨⟨Zmz2, Tryz.call156, nw⟩, trivial⟩⟩)
abbrev E_f96 : Env := tab.env (AM.look [(128, Zyj1), (129, Zw6), (130, Zy6), (131, Zgk1), (132, Zlk1), (126, Zoo)]) ⟨[], [], [], ⟨tt [6, 7], []⟩, [], [], [], []⟩
def b_f96 : Code := bd Tryz.f96
abbrev R_f96 : List (Ty × List Tag) := [(k13d, []), (k13b, [])]
abbrev P_f96 : List PK := [.val .str, .val k13b, .val k13b]
abbrev K_f96 : K (ResD R_f96) := fin E_f96 [.tmp 6, .tmp 7] [] R_f96
abbrev Zwz1 : AM.Spec := AM.spec P_f96 R_f96 (fun x => Zsl x.1 x.2.1 x.2.2.1)
theorem c_f96 : Zg Tryz.prog 96 Zwz1 := ctrC tabOk (fn := Tryz.f96) (show ∀ x, run E_f96 b_f96 fu x K_f96 = _ from fun x => by kernel_rfl) (Ze ⟨⟨Zcy2, Tryz.call128, nw⟩, ⟨⟨Zcy1, Tryz.call129, nw⟩, ⟨⟨Zsy1, Tryz.call130, nw⟩, ⟨⟨Zcz2, Tryz.call131, nw⟩, ⟨⟨Zqz2, Tryz.call132, nw⟩, ⟨⟨Znw, Tryz.call126, nw⟩, trivial⟩⟩⟩⟩⟩⟩)
abbrev Zfs : Env := tab.env (AM.look []) ⟨[(0, ⟨tt [0, 1, 6], []⟩)], [], [(8, ⟨tt [1, 6], []⟩)], ⟨tt [4, 5], []⟩, [], [], [], []⟩
def Zo4 : Code := bd Tryz.f133
abbrev Zxw : List (Ty × List Tag) := [(k13a, [⟨0, 1, 0, 1⟩]), (k13b, [])]
abbrev Zxz1 : List PK := [.val .str, .val k13b]
abbrev Zp4 : K (ResD Zxw) := fin Zfs [.tmp 4, .tmp 5] [] Zxw
def Zyz1 (x4 : Int) (x5 : D13e) : St := mk [(1, .dat k13b x4 []), (6, .dat k13a x5 [⟨0, 385, 0, 1⟩])] []
def Zzz1 (x1 : ByteArray) (x2 : Int) (x3 : D13e) : St := mk [(0, .dat .str x1 []), (1, .dat k13b x2 []), (6, .dat k13a x3 [⟨0, 385, 0, 1⟩])] []
def Zl8 : Code := (rgt (rgt (rgt Zo4)))
def Zgs (m0 n : Nat) : Int → D13e → Option D13l := fun x4 x5 => ej Zfs n (.tail Zl8) 0 (Zyz1 x4 x5) Zp4
theorem Zap1 (m0 n : Nat) : Zgs m0 (n + 1) = Zda.S1 := by kernel_rfl
theorem Zje2 (m0 : Nat) : ∀ n : Nat, Zgs m0 n = Zda.t1 n :=
  ind rfl fun n _ => Zap1 m0 n
def Zke2 (m0 : Nat) : K (ResD Zxw) := sqK Zfs m0 Zl8 0 Zp4
def Zle2 (m0 : Nat) : K (ResD Zxw) := Zv 0 (Zke2 m0)
def Za01 : Code := (lft (lft (lft (rgt (rgt Zo4)))))
def Zhs (m0 n : Nat) : ByteArray → Int → D13e → Option D13l := fun x1 x2 x3 => ej Zfs n (.loop Za01) 0 (Zzz1 x1 x2 x3) (Zle2 m0)
theorem Zbp1 (m0 n : Nat) : Zhs m0 (n + 1) = Zda.S0 (Zgs m0 m0) (Zhs m0 n) := by kernel_rfl
theorem Zme2 (m0 : Nat) : ∀ n : Nat, Zhs m0 n = Zda.l0 (Zgs m0 m0) n :=
  ind rfl fun n e0 => (Zbp1 m0 n).trans (by rw [e0]; rfl)
theorem Zmp2 (m0 : Nat) (x : ArgsD Zxz1) : run Zfs Zo4 m0 x Zp4 = Zda.S (Zhs m0 m0) x.1 x.2.1 := by kernel_rfl
abbrev Zmk1 : AM.Spec := AM.spec Zxz1 Zxw (fun x => Zda x.1 x.2.1)
theorem Zrz2 : Zg Tryz.prog 133 Zmk1 := ctrC tabOk (fn := Tryz.f133) (show ∀ x, run Zfs Zo4 fu x Zp4 = _ from fun x => by
  have e1 : Zgs fu fu = Zda.t1 fu := Zje2 fu fu
  have e0 : Zhs fu fu = Zda.l0 (Zda.t1 fu) fu := by rw [← e1]; exact Zme2 fu fu
  refine (Zmp2 fu x).trans ?_
  rw [e0]; rfl) (Ze trivial)
abbrev Zsn : Env := tab.env (AM.look [(150, Zmm), (129, Zw6), (130, Zy6)]) ⟨[(0, ⟨tt [0, 1, 6, 7, 9, 37, 38], []⟩), (2, ⟨tt [6, 9, 13, 91, 92, 93], []⟩)], [], [(17, ⟨tt [0, 1, 6, 7, 9], []⟩)], ⟨tt [4, 5], []⟩, [], [150], [], []⟩
def Zis : Code := bd Tryz.f134
abbrev Zap : List (Ty × List Tag) := [(k13a, [⟨0, 1, 0, 1⟩]), (k13b, [])]
abbrev Zb01 : List PK := [.val .str, .val k13b]
abbrev Zyw : K (ResD Zap) := fin Zsn [.tmp 4, .tmp 5] [] Zap
def Zc01 (x16 : Int) (x17 x18 : D13e) (x19 : D13a) (x20 x21 : Int) : St := mk [(6, .dat k13b x16 []), (9, .dat k13a x17 [⟨0, 577, 0, 1⟩]), (13, .dat k13a x18 [⟨0, 833, 0, 1⟩]), (91, .dat k13d x19 [⟨0, 5825, 0, 1⟩]), (92, .dat k13b x20 []), (93, .dat k13b x21 [])] []
def Zd01 (x9 : ByteArray) (x10 x11 x12 : Int) (x13 : D13e) : St := mk [(0, .dat .str x9 []), (1, .dat k13b x10 []), (6, .dat k13b x11 []), (7, .dat k13b x12 []), (9, .dat k13a x13 [⟨0, 577, 0, 1⟩])] []
def Ze01 (x2 : ByteArray) (x3 x4 x5 : Int) (x6 : D13e) (x7 x8 : Int) : St := mk [(0, .dat .str x2 []), (1, .dat k13b x3 []), (6, .dat k13b x4 []), (7, .dat k13b x5 []), (9, .dat k13a x6 [⟨0, 577, 0, 1⟩]), (37, .dat k13b x7 []), (38, .dat k13b x8 [])] []
def Zf01 : Code := (rgt (rgt (rgt (rgt (rgt (rgt (rgt (rgt (rgt (rgt (rgt (rgt Zis))))))))))))
def Zne2 (m0 m1 : Nat) : K (ResD Zap) := sqK Zsn m1 Zf01 0 Zyw
def Zoe2 (m0 m1 : Nat) : K (ResD Zap) := Zv 2 (Zne2 m0 m1)
def Zg01 : Code := (lft (lft (rgt (lft (rgt (rgt (rgt (rgt (rgt (rgt (rgt (rgt (rgt (rgt (rgt Zis)))))))))))))))
def Zjs (m0 m1 n : Nat) : Int → D13e → D13e → D13a → Int → Int → Option D13l := fun x16 x17 x18 x19 x20 x21 => ej Zsn n (.loop Zg01) 2 (Zc01 x16 x17 x18 x19 x20 x21) (Zoe2 m0 m1)
theorem Zcp1 (m0 m1 n : Nat) : Zjs m0 m1 (n + 1) = Zt.S2 (Zjs m0 m1 n) := by kernel_rfl
theorem Zpe2 (m0 m1 : Nat) : ∀ n : Nat, Zjs m0 m1 n = Zt.l2 n :=
  ind rfl fun n e2 => (Zcp1 m0 m1 n).trans (by rw [e2]; rfl)
def Zm8 : Code := (rgt (rgt (rgt (rgt (rgt (rgt Zis))))))
def Zks (m0 n : Nat) : ByteArray → Int → Int → Int → D13e → Option D13l := fun x9 x10 x11 x12 x13 => ej Zsn n (.tail Zm8) 0 (Zd01 x9 x10 x11 x12 x13) Zyw
theorem Zdp1 (m0 n : Nat) : Zks m0 (n + 1) = Zt.S1 (Zjs m0 n n) := by kernel_rfl
theorem Zqe2 (m0 : Nat) : ∀ n : Nat, Zks m0 n = Zt.t1 n :=
  ind rfl fun n e1 => by
    have e2 : Zjs m0 n n = Zt.l2 n := Zpe2 m0 n n
    rw [Zdp1 m0 n, e2]; rfl
def Zre2 (m0 : Nat) : K (ResD Zap) := sqK Zsn m0 Zm8 0 Zyw
def Zse2 (m0 : Nat) : K (ResD Zap) := Zv 0 (Zre2 m0)
def Zh01 : Code := (lft (lft (rgt (lft (rgt (rgt (rgt (rgt (rgt Zis)))))))))
def Zls (m0 n : Nat) : ByteArray → Int → Int → Int → D13e → Int → Int → Option D13l := fun x2 x3 x4 x5 x6 x7 x8 => ej Zsn n (.loop Zh01) 0 (Ze01 x2 x3 x4 x5 x6 x7 x8) (Zse2 m0)
theorem Zep1 (m0 n : Nat) : Zls m0 (n + 1) = Zt.S0 (Zks m0 m0) (Zls m0 n) := by kernel_rfl
theorem Zte2 (m0 : Nat) : ∀ n : Nat, Zls m0 n = Zt.l0 (Zks m0 m0) n :=
  ind rfl fun n e0 => (Zep1 m0 n).trans (by rw [e0]; rfl)
theorem Znp2 (m0 : Nat) (x : ArgsD Zb01) : run Zsn Zis m0 x Zyw = Zt.S (Zls m0 m0) x.1 x.2.1 := by kernel_rfl
abbrev Znk1 : AM.Spec := AM.spec Zb01 Zap (fun x => Zt x.1 x.2.1)
theorem Zsz2 : Zg Tryz.prog 134 Znk1 := ctrC tabOk (fn := Tryz.f134) (show ∀ x, run Zsn Zis fu x Zyw = _ from fun x => by
  have e1 : Zks fu fu = Zt.t1 fu := Zqe2 fu fu
  have e0 : Zls fu fu = Zt.l0 (Zt.t1 fu) fu := by rw [← e1]; exact Zte2 fu fu
  refine (Znp2 fu x).trans ?_
  rw [e0]; rfl) (Ze ⟨⟨Zrr, Tryz.call150, fun _ => Zd rfl⟩, ⟨⟨Zcy1, Tryz.call129, nw⟩, ⟨⟨Zsy1, Tryz.call130, nw⟩, trivial⟩⟩⟩)
abbrev Zi01 : Env := tab.env (AM.look []) ⟨[], [], [], ⟨tt [2, 3], []⟩, [], [], [], []⟩
def Ztz2 : Code := bd Tryz.f180
abbrev Zde1 : List (Ty × List Tag) := [(.str, []), (k13b, [])]
abbrev Zuz2 : List PK := [.val .str]
abbrev Zvz2 : K (ResD Zde1) := fin Zi01 [.tmp 2, .tmp 3] [] Zde1
abbrev Zok1 : AM.Spec := AM.spec Zuz2 Zde1 (fun x => Zmk x.1)
theorem Zwz2 : Zg Tryz.prog 180 Zok1 := ctrC tabOk (fn := Tryz.f180) (show ∀ x, run Zi01 Ztz2 fu x Zvz2 = _ from fun x => by kernel_rfl) (Ze trivial)
abbrev Zyl : Env := tab.env (AM.look [(150, Zmm), (180, Zok1), (70, Zon), (126, Zoo), (178, Za7)]) ⟨[(0, ⟨tt [0, 1, 2, 9, 10, 12, 47, 48], []⟩), (2, ⟨tt [9, 12, 16, 17, 98, 99, 100], tt [97]⟩)], [], [(20, ⟨tt [0, 1, 9, 10, 12], []⟩), (31, ⟨tt [12, 16, 17], tt [97]⟩)], ⟨tt [6, 7, 8], []⟩, [17, 97, 111, 115], [70, 150, 178, 180], [], [89]⟩
def Zms : Code := bd Tryz.f179
abbrev Zbp : List (Ty × List Tag) := [(k13a, [⟨0, 1, 0, 1⟩]), (k13d, []), (k13b, [])]
abbrev Zj01 : List PK := [.val .str, .val k13b, .fn 180 []]
abbrev Zns : K (ResD Zbp) := fin Zyl [.tmp 6, .tmp 7, .tmp 8] [] Zbp
def Zk01 (x24 : D13e) (x25 : D13a) (x26 : D13c) : St := mk [(12, .dat k13a x24 [⟨0, 769, 0, 1⟩]), (16, .dat k13d x25 []), (17, .slw 97 0)] [(97, some (.arr .bool x26 false))]
def Zl01 (x17 : Int) (x18 : D13e) (x19 x20 : D13a) (x21 x22 : Int) (x23 : D13c) : St := mk [(9, .dat k13b x17 []), (12, .dat k13a x18 [⟨0, 769, 0, 1⟩]), (16, .dat k13d x19 []), (17, .slw 97 0), (98, .dat k13d x20 []), (99, .dat k13b x21 []), (100, .dat k13b x22 [])] [(97, some (.arr .bool x23 false))]
def Zm01 (x10 : ByteArray) (x11 x12 x13 : Int) (x14 : D13e) : St := mk [(0, .dat .str x10 []), (1, .dat k13b x11 []), (9, .dat k13b x12 []), (10, .dat k13b x13 []), (12, .dat k13a x14 [⟨0, 769, 0, 1⟩])] []
def Zn01 (x2 : ByteArray) (x3 x4 x5 : Int) (x6 : D13e) (x7 x8 : Int) : St := mk [(0, .dat .str x2 []), (1, .dat k13b x3 []), (2, .fn 180 []), (9, .dat k13b x4 []), (10, .dat k13b x5 []), (12, .dat k13a x6 [⟨0, 769, 0, 1⟩]), (47, .dat k13b x7 []), (48, .dat k13b x8 [])] []
def Zn8 : Code := (rgt (rgt (rgt (rgt (rgt (rgt (rgt (rgt (rgt (rgt (rgt Zms)))))))))))
def Zos (m0 n : Nat) : D13e → D13a → D13c → Option D13w := fun x24 x25 x26 => ej Zyl n (.tail Zn8) 0 (Zk01 x24 x25 x26) Zns
theorem Zfp1 (m0 m1 n : Nat) : Zos m0 (n + 1) = Za.S3 := by kernel_rfl
theorem Zue2 (m0 m1 : Nat) : ∀ n : Nat, Zos m0 n = Za.t3 n :=
  ind rfl fun n _ => Zfp1 m0 m1 n
def Zve2 (m0 m1 : Nat) : K (ResD Zbp) := sqK Zyl m1 Zn8 0 Zns
def Zwe2 (m0 m1 : Nat) : K (ResD Zbp) := Zv 2 (Zve2 m0 m1)
def Zo01 : Code := (lft (lft (rgt (lft (rgt (rgt (rgt (rgt (rgt (rgt (rgt (rgt (rgt (rgt Zms))))))))))))))
def Zps (m0 m1 n : Nat) : Int → D13e → D13a → D13a → Int → Int → D13c → Option D13w := fun x17 x18 x19 x20 x21 x22 x23 => ej Zyl n (.loop Zo01) 2 (Zl01 x17 x18 x19 x20 x21 x22 x23) (Zwe2 m0 m1)
theorem Zgp1 (m0 m1 n : Nat) : Zps m0 m1 (n + 1) = Za.S2 (Zos m0 m1) (Zps m0 m1 n) := by kernel_rfl
theorem Zxe2 (m0 m1 : Nat) : ∀ n : Nat, Zps m0 m1 n = Za.l2 (Zos m0 m1) n :=
  ind rfl fun n e2 => (Zgp1 m0 m1 n).trans (by rw [e2]; rfl)
def Zo8 : Code := (rgt (rgt (rgt (rgt (rgt (rgt (rgt Zms)))))))
def Zqs (m0 n : Nat) : ByteArray → Int → Int → Int → D13e → Option D13w := fun x10 x11 x12 x13 x14 => ej Zyl n (.tail Zo8) 0 (Zm01 x10 x11 x12 x13 x14) Zns
theorem Zhp1 (m0 n : Nat) : Zqs m0 (n + 1) = Za.S1 (Zps m0 n n) := by kernel_rfl
theorem Zye2 (m0 : Nat) : ∀ n : Nat, Zqs m0 n = Za.t1 n :=
  ind rfl fun n e1 => by
    have e3 : Zos m0 n = Za.t3 n := Zue2 m0 n n
    have e2 : Zps m0 n n = Za.l2 (Za.t3 n) n := by rw [← e3]; exact Zxe2 m0 n n
    rw [Zhp1 m0 n, e2]; rfl
def Zze2 (m0 : Nat) : K (ResD Zbp) := sqK Zyl m0 Zo8 0 Zns
def Zaf2 (m0 : Nat) : K (ResD Zbp) := Zv 0 (Zze2 m0)
def Zp01 : Code := (lft (lft (rgt (lft (rgt (rgt (rgt (rgt (rgt (rgt Zms))))))))))
def Zrs (m0 n : Nat) : ByteArray → Int → Int → Int → D13e → Int → Int → Option D13w := fun x2 x3 x4 x5 x6 x7 x8 => ej Zyl n (.loop Zp01) 0 (Zn01 x2 x3 x4 x5 x6 x7 x8) (Zaf2 m0)
theorem Zip1 (m0 n : Nat) : Zrs m0 (n + 1) = Za.S0 (Zqs m0 m0) (Zrs m0 n) := by kernel_rfl
theorem Zbf2 (m0 : Nat) : ∀ n : Nat, Zrs m0 n = Za.l0 (Zqs m0 m0) n :=
  ind rfl fun n e0 => (Zip1 m0 n).trans (by rw [e0]; rfl)
theorem Zop2 (m0 : Nat) (x : ArgsD Zj01) : run Zyl Zms m0 x Zns = Za.S (Zrs m0 m0) x.1 x.2.1 := by kernel_rfl
abbrev Zpk1 : AM.Spec := AM.spec Zj01 Zbp (fun x => Za x.1 x.2.1)
theorem Zxz2 : Zg Tryz.prog 179 Zpk1 := ctrC tabOk (fn := Tryz.f179) (show ∀ x, run Zyl Zms fu x Zns = _ from fun x => by
  have e1 : Zqs fu fu = Za.t1 fu := Zye2 fu fu
  have e0 : Zrs fu fu = Za.l0 (Za.t1 fu) fu := by rw [← e1]; exact Zbf2 fu fu
  refine (Zop2 fu x).trans ?_
  rw [e0]; rfl) (Ze ⟨⟨Zrr, Tryz.call150, fun _ => Zd rfl⟩, ⟨⟨Zwz2, Tryz.call180, fun _ => Zd rfl⟩, ⟨⟨c_f70, Tryz.call70, fun _ => Zd rfl⟩, ⟨⟨Znw, Tryz.call126, nw⟩, ⟨⟨Ziz1, Tryz.call178, fun _ => Zd rfl⟩, trivial⟩⟩⟩⟩⟩)
abbrev Zq01 : Env := tab.env (AM.look [(179, Zpk1)]) ⟨[], [], [], ⟨tt [4, 5, 6], []⟩, [], [], [], []⟩
def Zyz2 : Code := bd Tryz.f157
abbrev Zee1 : List (Ty × List Tag) := [(k13a, [⟨0, 1, 0, 1⟩]), (k13d, []), (k13b, [])]
abbrev Zzz2 : List PK := [.val .str, .val k13b]
abbrev Za02 : K (ResD Zee1) := fin Zq01 [.tmp 4, .tmp 5, .tmp 6] [] Zee1
abbrev Zqk1 : AM.Spec := AM.spec Zzz2 Zee1 (fun x => Zgq x.1 x.2.1)
theorem Zb02 : Zg Tryz.prog 157 Zqk1 := ctrC tabOk (fn := Tryz.f157) (show ∀ x, run Zq01 Zyz2 fu x Za02 = _ from fun x => by kernel_rfl) (Ze ⟨⟨Zxz2, Tryz.call179, nw⟩, trivial⟩)
abbrev Zq4 : Env := tab.env (AM.look []) ⟨[(0, ⟨tt [0, 5, 8, 9, 10], []⟩)], [], [], ⟨tt [4], []⟩, [], [], [], []⟩
def Zfe1 : Code := bd Tryz.f158
abbrev Zzw : List (Ty × List Tag) := [(k13a, [⟨0, 1, 0, 1⟩])]
abbrev Zr01 : List PK := [.val k13a, .val k13d]
abbrev Zs01 : K (ResD Zzw) := fin Zq4 [.tmp 4] [] Zzw
def Zt01 (x1 x2 : D13e) (x3 : D13a) (x4 x5 : Int) : St := mk [(0, .dat k13a x1 []), (5, .dat k13a x2 [⟨0, 321, 0, 1⟩]), (8, .dat k13d x3 []), (9, .dat k13b x4 []), (10, .dat k13b x5 [])] []
def Zu01 : Code := (rgt (rgt (rgt Zfe1)))
def Zcf2 (m0 : Nat) : K (ResD Zzw) := sqK Zq4 m0 Zu01 0 Zs01
def Zdf2 (m0 : Nat) : K (ResD Zzw) := Zv 0 (Zcf2 m0)
def Zv01 : Code := (lft (lft (rgt (lft (rgt (rgt Zfe1))))))
def Zxz (m0 n : Nat) : D13e → D13e → D13a → Int → Int → Option (D13e) := fun x1 x2 x3 x4 x5 => ej Zq4 n (.loop Zv01) 0 (Zt01 x1 x2 x3 x4 x5) (Zdf2 m0)
theorem Zjp1 (m0 n : Nat) : Zxz m0 (n + 1) = Zhb.S0 (Zxz m0 n) := by kernel_rfl
theorem Zef2 (m0 : Nat) : ∀ n : Nat, Zxz m0 n = Zhb.l0 n :=
  ind rfl fun n e0 => (Zjp1 m0 n).trans (by rw [e0]; rfl)
theorem Zpp2 (m0 : Nat) (x : ArgsD Zr01) : run Zq4 Zfe1 m0 x Zs01 = Zhb.S (Zxz m0 m0) x.1 x.2.1 := by kernel_rfl
abbrev Zrk1 : AM.Spec := AM.spec Zr01 Zzw (fun x => Zhb x.1 x.2.1)
theorem Zc02 : Zg Tryz.prog 158 Zrk1 := ctrC tabOk (fn := Tryz.f158) (fun x => (Zpp2 fu x).trans (by rw [Zef2 fu fu]; rfl)) (Ze trivial)
abbrev Zw01 : Env := tab.env (AM.look [(157, Zqk1), (158, Zrk1)]) ⟨[], [], [], ⟨tt [4, 5], []⟩, [], [], [], []⟩
def Zd02 : Code := bd Tryz.f135
abbrev Zge1 : List (Ty × List Tag) := [(k13a, [⟨0, 1, 0, 1⟩]), (k13b, [])]
abbrev Ze02 : List PK := [.val .str, .val k13b]
abbrev Zf02 : K (ResD Zge1) := fin Zw01 [.tmp 4, .tmp 5] [] Zge1
abbrev Zsk1 : AM.Spec := AM.spec Ze02 Zge1 (fun x => Zhj x.1 x.2.1)
theorem Zg02 : Zg Tryz.prog 135 Zsk1 := ctrC tabOk (fn := Tryz.f135) (show ∀ x, run Zw01 Zd02 fu x Zf02 = _ from fun x => by kernel_rfl) (Ze ⟨⟨Zb02, Tryz.call157, nw⟩, ⟨⟨Zc02, Tryz.call158, nw⟩, trivial⟩⟩)
abbrev E_f97 : Env := tab.env (AM.look [(133, Zmk1), (134, Znk1), (135, Zsk1)]) ⟨[], [], [], ⟨tt [6, 7], []⟩, [], [], [], []⟩
def b_f97 : Code := bd Tryz.f97
abbrev R_f97 : List (Ty × List Tag) := [(k13a, [⟨0, 1, 0, 1⟩]), (k13b, [])]
abbrev P_f97 : List PK := [.val .str, .val k13b, .val k13b]
abbrev K_f97 : K (ResD R_f97) := fin E_f97 [.tmp 6, .tmp 7] [] R_f97
abbrev Zx01 : AM.Spec := AM.spec P_f97 R_f97 (fun x => Zwj x.1 x.2.1 x.2.2.1)
theorem c_f97 : Zg Tryz.prog 97 Zx01 := ctrC tabOk (fn := Tryz.f97) (show ∀ x, run E_f97 b_f97 fu x K_f97 = _ from fun x => by kernel_rfl) (Ze ⟨⟨Zrz2, Tryz.call133, nw⟩, ⟨⟨Zsz2, Tryz.call134, nw⟩, ⟨⟨Zg02, Tryz.call135, nw⟩, trivial⟩⟩⟩)
abbrev E_f56 : Env := tab.env (AM.look [(96, Zwz1), (97, Zx01)]) ⟨[(1, ⟨tt [5, 8, 10, 29, 30, 31], tt [5]⟩), (3, ⟨tt [5, 8, 14, 55, 56, 57], tt [5]⟩)], [], [], ⟨tt [6, 7], []⟩, [], [], [], []⟩
def b_f56 : Code := bd Tryz.f56
abbrev R_f56 : List (Ty × List Tag) := [(k13h, [⟨0, 1, 0, 3⟩]), (k13b, [])]
abbrev P_f56 : List PK := [.val .str, .val k13b, .val k13k]
abbrev K_f56 : K (ResD R_f56) := fin E_f56 [.tmp 6, .tmp 7] [] R_f56
def Zff2 (x2 : D13u) (x3 : Int) (x4 : D13a) (x5 x6 : Int) (x7 : D13p) : St := mk [(5, .ptr 5 0 0), (8, .dat k13h x2 [⟨0, 513, 0, 3⟩]), (10, .dat k13b x3 []), (29, .dat k13d x4 []), (30, .dat k13b x5 []), (31, .dat k13b x6 [])] [(5, some (.var k13k x7 []))]
def Zgf2 (x9 : D13u) (x10 : Int) (x11 : D13e) (x12 x13 : Int) (x14 : D13p) : St := mk [(5, .ptr 5 0 0), (8, .dat k13h x9 [⟨0, 513, 0, 3⟩]), (14, .dat k13b x10 []), (55, .dat k13a x11 [⟨0, 3521, 0, 1⟩]), (56, .dat k13b x12 []), (57, .dat k13b x13 [])] [(5, some (.var k13k x14 []))]
def Zhf2 : Code := (rgt (rgt (rgt b_f56)))
def Zqp2 (m0 : Nat) : K (ResD R_f56) := sqK E_f56 m0 Zhf2 0 K_f56
def Ztk1 (m0 : Nat) : K (ResD R_f56) := Zv 0 (Zqp2 m0)
def Zif2 : Code := (rgt (rgt (lft (rgt (lft (rgt (lft (rgt (rgt b_f56)))))))))
def Zrp2 (m0 : Nat) : K (ResD R_f56) := sqK E_f56 m0 Zif2 0 (Ztk1 m0)
def Zsp2 (m0 : Nat) : K (ResD R_f56) := Zv 1 (Zrp2 m0)
def Zjf2 : Code := (lft (lft (rgt (lft (rgt (lft (rgt (lft (rgt (lft (rgt (rgt b_f56))))))))))))
def Zax (m0 n : Nat) : D13u → Int → D13a → Int → Int → D13p → Option D13x := fun x2 x3 x4 x5 x6 x7 => ej E_f56 n (.loop Zjf2) 1 (Zff2 x2 x3 x4 x5 x6 x7) (Zsp2 m0)
theorem Zy01 (m0 n : Nat) : Zax m0 (n + 1) = Zja.S0 (Zax m0 n) := by kernel_rfl
theorem Ztp2 (m0 : Nat) : ∀ n : Nat, Zax m0 n = Zja.l0 n :=
  ind rfl fun n e0 => (Zy01 m0 n).trans (by rw [e0]; rfl)
def Zkf2 : Code := (rgt (rgt (lft (rgt (rgt (rgt (lft (rgt (lft (rgt (rgt b_f56)))))))))))
def Zup2 (m0 : Nat) : K (ResD R_f56) := sqK E_f56 m0 Zkf2 0 (Ztk1 m0)
def Zvp2 (m0 : Nat) : K (ResD R_f56) := Zv 3 (Zup2 m0)
def Zlf2 : Code := (lft (lft (rgt (lft (rgt (lft (rgt (rgt (rgt (lft (rgt (lft (rgt (rgt b_f56))))))))))))))
def Zbx (m0 n : Nat) : D13u → Int → D13e → Int → Int → D13p → Option D13x := fun x9 x10 x11 x12 x13 x14 => ej E_f56 n (.loop Zlf2) 3 (Zgf2 x9 x10 x11 x12 x13 x14) (Zvp2 m0)
theorem Zz01 (m0 n : Nat) : Zbx m0 (n + 1) = Zja.S1 (Zbx m0 n) := by kernel_rfl
theorem Zwp2 (m0 : Nat) : ∀ n : Nat, Zbx m0 n = Zja.l1 n :=
  ind rfl fun n e1 => (Zz01 m0 n).trans (by rw [e1]; rfl)
theorem Zh02 (m0 : Nat) (x : ArgsD P_f56) : run E_f56 b_f56 m0 x K_f56 = Zja.S (Zax m0 m0) (Zbx m0 m0) x.1 x.2.1 x.2.2.1 := by kernel_rfl
abbrev Za11 : AM.Spec := AM.spec P_f56 R_f56 (fun x => Zja x.1 x.2.1 x.2.2.1)
theorem c_f56 : Zg Tryz.prog 56 Za11 := ctrC tabOk (fn := Tryz.f56) (show ∀ x, run E_f56 b_f56 fu x K_f56 = _ from fun x => by
  have e0 : Zax fu fu = Zja.l0 fu := Ztp2 fu fu
  have e1 : Zbx fu fu = Zja.l1 fu := Zwp2 fu fu
  refine (Zh02 fu x).trans ?_
  rw [e0, e1]; rfl) (Ze ⟨⟨c_f96, Tryz.call96, nw⟩, ⟨⟨c_f97, Tryz.call97, nw⟩, trivial⟩⟩)
abbrev Zr4 : Env := tab.env (AM.look [(43, Zk3)]) ⟨[(0, ⟨tt [0, 1, 7, 8], []⟩)], [], [], ⟨tt [4], []⟩, [], [43], [], []⟩
def Zhe1 : Code := bd Tryz.f69
abbrev Zcx : List (Ty × List Tag) := [(k13b, [])]
abbrev Zb11 : List PK := [.val k13h, .fn 43 []]
abbrev Zc11 : K (ResD Zcx) := fin Zr4 [.tmp 4] [] Zcx
def Zd11 (x1 : D13u) (x2 x3 : Int) : St := mk [(0, .dat k13h x1 []), (1, .fn 43 []), (7, .dat k13b x2 []), (8, .dat k13b x3 [])] []
def Ze11 : Code := (rgt (rgt Zhe1))
def Zmf2 (m0 : Nat) : K (ResD Zcx) := sqK Zr4 m0 Ze11 0 Zc11
def Znf2 (m0 : Nat) : K (ResD Zcx) := Zv 0 (Zmf2 m0)
def Zf11 : Code := (lft (lft (rgt (lft (rgt Zhe1)))))
def Zyz (m0 n : Nat) : D13u → Int → Int → Option Int := fun x1 x2 x3 => ej Zr4 n (.loop Zf11) 0 (Zd11 x1 x2 x3) (Znf2 m0)
theorem Zkp1 (m0 n : Nat) : Zyz m0 (n + 1) = Zn.S0 (Zyz m0 n) := by kernel_rfl
theorem Zof2 (m0 : Nat) : ∀ n : Nat, Zyz m0 n = Zn.l0 n :=
  ind rfl fun n e0 => (Zkp1 m0 n).trans (by rw [e0]; rfl)
theorem Zxp2 (m0 : Nat) (x : ArgsD Zb11) : run Zr4 Zhe1 m0 x Zc11 = Zn.S (Zyz m0 m0) x.1 := by kernel_rfl
abbrev Zuk1 : AM.Spec := AM.spec Zb11 Zcx (fun x => Zn x.1)
theorem Zi02 : Zg Tryz.prog 69 Zuk1 := ctrC tabOk (fn := Tryz.f69) (fun x => (Zxp2 fu x).trans (by rw [Zof2 fu fu]; rfl)) (Ze ⟨⟨c_f43, Tryz.call43, fun _ => Zd rfl⟩, trivial⟩)
abbrev Zg11 : Env := tab.env (AM.look [(69, Zuk1)]) ⟨[], [], [], ⟨tt [4], []⟩, [], [69], [], []⟩
def Zj02 : Code := bd Tryz.f37
abbrev Zie1 : List (Ty × List Tag) := [(.bool, [])]
abbrev Zk02 : List PK := [.val k13h, .fn 43 []]
abbrev Zl02 : K (ResD Zie1) := fin Zg11 [.tmp 4] [] Zie1
abbrev Zvk1 : AM.Spec := AM.spec Zk02 Zie1 (fun x => Zhc x.1)
theorem Zm02 : Zg Tryz.prog 37 Zvk1 := ctrC tabOk (fn := Tryz.f37) (show ∀ x, run Zg11 Zj02 fu x Zl02 = _ from fun x => by kernel_rfl) (Ze ⟨⟨Zi02, Tryz.call69, fun _ => Zd rfl⟩, trivial⟩)
abbrev E_f57 : Env := tab.env (AM.look [(95, Zmd1), (55, Znd1), (37, Zvk1)]) ⟨[(0, ⟨tt [2, 8, 12, 42, 43], tt [40]⟩)], [], [], ⟨tt [6, 7], tt [6, 40]⟩, [6, 12, 40, 41, 51, 60], [37, 55], [], []⟩
def b_f57 : Code := bd Tryz.f57
abbrev R_f57 : List (Ty × List Tag) := [(k13h, []), (k13b, [])]
abbrev P_f57 : List PK := [.val .str, .val k13b, .val k13h]
abbrev K_f57 : K (ResD R_f57) := fin E_f57 [.tmp 6, .tmp 7] [] R_f57
def Zpf2 (x4 : D13u) (x5 : D13a) (x6 x7 : Int) (x8 : D13u) : St := mk [(2, .dat k13h x4 []), (8, .dat k13d x5 []), (12, .slw 40 0), (42, .dat k13b x6 []), (43, .dat k13b x7 [])] [(40, some (.arr k13g x8 false))]
def Zqf2 : Code := (rgt (rgt (rgt (rgt (rgt (rgt (rgt b_f57)))))))
def Zyp2 (m0 : Nat) : K (ResD R_f57) := sqK E_f57 m0 Zqf2 0 K_f57
def Zzp2 (m0 : Nat) : K (ResD R_f57) := Zv 0 (Zyp2 m0)
def Zrf2 : Code := (lft (lft (rgt (lft (rgt (rgt (rgt (rgt (rgt (rgt b_f57))))))))))
def Zs4 (m0 n : Nat) : D13u → D13a → Int → Int → D13u → Option D13x := fun x4 x5 x6 x7 x8 => ej E_f57 n (.loop Zrf2) 0 (Zpf2 x4 x5 x6 x7 x8) (Zzp2 m0)
theorem Zh11 (m0 n : Nat) : Zs4 m0 (n + 1) = Zoc.S0 (Zs4 m0 n) := by kernel_rfl
theorem Zaq2 (m0 : Nat) : ∀ n : Nat, Zs4 m0 n = Zoc.l0 n :=
  ind rfl fun n e0 => (Zh11 m0 n).trans (by rw [e0]; rfl)
theorem Zn02 (m0 : Nat) (x : ArgsD P_f57) : run E_f57 b_f57 m0 x K_f57 = Zoc.S (Zs4 m0 m0) x.1 x.2.1 x.2.2.1 := by kernel_rfl
abbrev Zi11 : AM.Spec := AM.spec P_f57 R_f57 (fun x => Zoc x.1 x.2.1 x.2.2.1)
theorem c_f57 : Zg Tryz.prog 57 Zi11 := ctrC tabOk (fn := Tryz.f57) (fun x => (Zn02 fu x).trans (by rw [Zaq2 fu fu]; rfl)) (Ze ⟨⟨c_f95, Tryz.call95, nw⟩, ⟨⟨c_f55, Tryz.call55, fun _ => Zd rfl⟩, ⟨⟨Zm02, Tryz.call37, fun _ => Zd rfl⟩, trivial⟩⟩⟩)
abbrev E_f30 : Env := tab.env (AM.look [(54, Zqw1), (55, Znd1), (56, Za11), (57, Zi11), (10, Zjw)]) ⟨[], [], [], ⟨tt [2, 3], tt [2]⟩, [], [10, 54, 55], [], []⟩
def b_f30 : Code := bd Tryz.f30
abbrev R_f30 : List (Ty × List Tag) := [((.pair k13k (.pair .str (.pair .str k13h))), []), (.bool, [])]
abbrev P_f30 : List PK := [.val .str]
abbrev K_f30 : K (ResD R_f30) := fin E_f30 [.cell 2 54, .tmp 3] [] R_f30
abbrev Zje1 : AM.Spec := AM.spec P_f30 R_f30 (fun x => Zeh x.1)
theorem c_f30 : Zg Tryz.prog 30 Zje1 := ctrC tabOk (fn := Tryz.f30) (show ∀ x, run E_f30 b_f30 fu x K_f30 = _ from fun x => by kernel_rfl) (Ze ⟨⟨c_f54, Tryz.call54, fun _ => Zd rfl⟩, ⟨⟨c_f55, Tryz.call55, fun _ => Zd rfl⟩, ⟨⟨c_f56, Tryz.call56, nw⟩, ⟨⟨c_f57, Tryz.call57, nw⟩, ⟨⟨c_f10, Tryz.call10, fun _ => Zd rfl⟩, trivial⟩⟩⟩⟩⟩)
abbrev E_f12 : Env := tab.env (AM.look [(30, Zje1)]) ⟨[], [], [], ⟨tt [2, 3], []⟩, [], [], [], []⟩
def b_f12 : Code := bd Tryz.f12
abbrev R_f12 : List (Ty × List Tag) := [(k13h, []), (k13b, [])]
abbrev P_f12 : List PK := [.val .str]
abbrev K_f12 : K (ResD R_f12) := fin E_f12 [.tmp 2, .tmp 3] [] R_f12
abbrev Zke1 : AM.Spec := AM.spec P_f12 R_f12 (fun x => Ztl x.1)
theorem c_f12 : Zg Tryz.prog 12 Zke1 := ctrC tabOk (fn := Tryz.f12) (show ∀ x, run E_f12 b_f12 fu x K_f12 = _ from fun x => by kernel_rfl) (Ze ⟨⟨c_f30, Tryz.call30, nw⟩, trivial⟩)
abbrev E_f15 : Env := tab.env (AM.look [(30, Zje1)]) ⟨[], [], [], ⟨tt [2, 3], tt [2]⟩, [], [], [], []⟩
def b_f15 : Code := bd Tryz.f15
abbrev R_f15 : List (Ty × List Tag) := [(k13k, []), (k13b, [])]
abbrev P_f15 : List PK := [.val .str]
abbrev K_f15 : K (ResD R_f15) := fin E_f15 [.cell 2 37, .tmp 3] [] R_f15
abbrev Zj11 : AM.Spec := AM.spec P_f15 R_f15 (fun x => Zfo x.1)
theorem c_f15 : Zg Tryz.prog 15 Zj11 := ctrC tabOk (fn := Tryz.f15) (show ∀ x, run E_f15 b_f15 fu x K_f15 = _ from fun x => by kernel_rfl) (Ze ⟨⟨c_f30, Tryz.call30, nw⟩, trivial⟩)
abbrev E_f13 : Env := tab.env (AM.look []) ⟨[(0, ⟨tt [0, 1, 5], []⟩)], [], [], ⟨tt [4], []⟩, [], [], [], []⟩
def b_f13 : Code := bd Tryz.f13
abbrev R_f13 : List (Ty × List Tag) := [(.bool, [])]
abbrev P_f13 : List PK := [.val k13h, .val k13h]
abbrev K_f13 : K (ResD R_f13) := fin E_f13 [.tmp 4] [] R_f13
def Zsf2 (x1 x2 : D13u) (x3 : Int) : St := mk [(0, .dat k13h x1 []), (1, .dat k13h x2 []), (5, .dat k13b x3 [])] []
def Ztf2 : Code := (rgt (rgt (rgt b_f13)))
def Zbq2 (m0 : Nat) : K (ResD R_f13) := sqK E_f13 m0 Ztf2 0 K_f13
def Zcq2 (m0 : Nat) : K (ResD R_f13) := Zv 0 (Zbq2 m0)
def Zuf2 : Code := (lft (lft (rgt (lft (rgt (rgt b_f13))))))
def Zt4 (m0 n : Nat) : D13u → D13u → Int → Option Bool := fun x1 x2 x3 => ej E_f13 n (.loop Zuf2) 0 (Zsf2 x1 x2 x3) (Zcq2 m0)
theorem Zk11 (m0 n : Nat) : Zt4 m0 (n + 1) = Zgc.S0 (Zt4 m0 n) := by kernel_rfl
theorem Zdq2 (m0 : Nat) : ∀ n : Nat, Zt4 m0 n = Zgc.l0 n :=
  ind rfl fun n e0 => (Zk11 m0 n).trans (by rw [e0]; rfl)
theorem Zo02 (m0 : Nat) (x : ArgsD P_f13) : run E_f13 b_f13 m0 x K_f13 = Zgc.S (Zt4 m0 m0) x.1 x.2.1 := by kernel_rfl
abbrev Zle1 : AM.Spec := AM.spec P_f13 R_f13 (fun x => Zgc x.1 x.2.1)
theorem c_f13 : Zg Tryz.prog 13 Zle1 := ctrC tabOk (fn := Tryz.f13) (fun x => (Zo02 fu x).trans (by rw [Zdq2 fu fu]; rfl)) (Ze trivial)
abbrev E_f9 : Env := tab.env (AM.look [(14, Zos1), (10, Zjw), (12, Zke1), (15, Zj11), (13, Zle1)]) ⟨[], [], [], ⟨tt [0], []⟩, [], [10, 13, 14, 15], [], []⟩
def b_f9 : Code := bd Tryz.f9
abbrev R_f9 : List (Ty × List Tag) := [(.bool, [])]
abbrev P_f9 : List PK := []
abbrev K_f9 : K (ResD R_f9) := fin E_f9 [.tmp 0] [] R_f9
abbrev sp_f9 : AM.Spec := AM.spec P_f9 R_f9 (fun x => Zxj)
theorem c_f9 : Zg Tryz.prog 9 sp_f9 := ctrC tabOk (fn := Tryz.f9) (show ∀ x, run E_f9 b_f9 fu x K_f9 = _ from fun x => by kernel_rfl) (Ze ⟨⟨c_f14, Tryz.call14, fun _ => Zd rfl⟩, ⟨⟨c_f10, Tryz.call10, fun _ => Zd rfl⟩, ⟨⟨c_f12, Tryz.call12, nw⟩, ⟨⟨c_f15, Tryz.call15, fun _ => Zd rfl⟩, ⟨⟨c_f13, Tryz.call13, fun _ => Zd rfl⟩, trivial⟩⟩⟩⟩⟩)
abbrev E_f36 : Env := tab.env (AM.look []) ⟨[], [], [], ⟨tt [2], []⟩, [], [], [], []⟩
def b_f36 : Code := bd Tryz.f36
abbrev R_f36 : List (Ty × List Tag) := [(.bool, [])]
abbrev P_f36 : List PK := [.val k13g]
abbrev K_f36 : K (ResD R_f36) := fin E_f36 [.tmp 2] [] R_f36
theorem Zvf2 (m0 : Nat) (x : ArgsD P_f36) : run E_f36 b_f36 m0 x K_f36 = Zfd.o x.1 := by kernel_rfl
theorem Zp02 (m0 : Nat) (x : ArgsD P_f36) : run E_f36 b_f36 m0 x K_f36 = some (Zfd x.1) := (Zvf2 m0 x).trans (by unfold Zfd.o Zfd; simp only [Zsi])
abbrev Zl11 : AM.Spec := AM.spec P_f36 R_f36 (fun x => some (Zfd x.1))
theorem c_f36 : Zg Tryz.prog 36 Zl11 := ctrC tabOk (fn := Tryz.f36) (fun x => Zp02 fu x) (Ze trivial)
abbrev E_f22 : Env := tab.env (AM.look [(36, Zl11)]) ⟨[(0, ⟨tt [0, 1, 5], []⟩)], [], [(3, ⟨tt [0, 1], []⟩)], ⟨tt [4], []⟩, [], [36], [], []⟩
def b_f22 : Code := bd Tryz.f22
abbrev R_f22 : List (Ty × List Tag) := [(.bool, [])]
abbrev P_f22 : List PK := [.val k13h, .val k13b]
abbrev K_f22 : K (ResD R_f22) := fin E_f22 [.tmp 4] [] R_f22
def Zwf2 (x3 : D13u) (x4 x5 : Int) : St := mk [(0, .dat k13h x3 []), (1, .dat k13b x4 []), (5, .dat k13b x5 [])] []
def Zxf2 (x1 : D13u) (x2 : Int) : St := mk [(0, .dat k13h x1 []), (1, .dat k13b x2 [])] []
def Zyf2 : Code := (rgt (rgt (rgt b_f22)))
def Zeq2 (m0 m1 : Nat) : K (ResD R_f22) := sqK E_f22 m1 Zyf2 0 K_f22
def Zfq2 (m0 m1 : Nat) : K (ResD R_f22) := Zv 0 (Zeq2 m0 m1)
def Zzf2 : Code := (lft (lft (rgt (lft (rgt (rgt b_f22))))))
def Zdx (m0 m1 n : Nat) : D13u → Int → Int → Option Bool := fun x3 x4 x5 => ej E_f22 n (.loop Zzf2) 0 (Zwf2 x3 x4 x5) (Zfq2 m0 m1)
theorem Zm11 (m0 m1 n : Nat) : Zdx m0 m1 (n + 1) = Zqb.S1 (Zdx m0 m1 n) := by kernel_rfl
theorem Zgq2 (m0 m1 : Nat) : ∀ n : Nat, Zdx m0 m1 n = Zqb.l1 n :=
  ind rfl fun n e1 => (Zm11 m0 m1 n).trans (by rw [e1]; rfl)
def Zag2 : Code := (rgt (rgt b_f22))
def Zme1 (m0 n : Nat) : D13u → Int → Option Bool := fun x1 x2 => ej E_f22 n (.tail Zag2) 0 (Zxf2 x1 x2) K_f22
theorem Zn11 (m0 n : Nat) : Zme1 m0 (n + 1) = Zqb.S0 (Zdx m0 n n) := by kernel_rfl
theorem Zhq2 (m0 : Nat) : ∀ n : Nat, Zme1 m0 n = Zqb.t0 n :=
  ind rfl fun n e0 => by
    have e1 : Zdx m0 n n = Zqb.l1 n := Zgq2 m0 n n
    rw [Zn11 m0 n, e1]; rfl
theorem Zq02 (m0 : Nat) (x : ArgsD P_f22) : run E_f22 b_f22 m0 x K_f22 = Zqb.S (Zme1 m0 m0) x.1 x.2.1 := by kernel_rfl
abbrev Zne1 : AM.Spec := AM.spec P_f22 R_f22 (fun x => Zqb x.1 x.2.1)
theorem c_f22 : Zg Tryz.prog 22 Zne1 := ctrC tabOk (fn := Tryz.f22) (fun x => (Zq02 fu x).trans (by rw [Zhq2 fu fu]; rfl)) (Ze ⟨⟨c_f36, Tryz.call36, fun _ => Zd rfl⟩, trivial⟩)
abbrev Zu4 : Env := tab.env (AM.look []) ⟨[(0, ⟨tt [0, 2, 3, 4], tt [2, 3]⟩)], [], [], ⟨tt [2], tt [2]⟩, [], [], [], []⟩
def Zoe1 : Code := bd Tryz.f146
abbrev Zex : List (Ty × List Tag) := [((.arr 63 .bool), [])]
abbrev Zo11 : List PK := [.val k13b]
abbrev Zp11 : K (ResD Zex) := fin Zu4 [.cell 2 147] [] Zex
def Zq11 (x1 x2 : Int) (x3 x4 : D13c) : St := mk [(0, .dat k13b x1 []), (2, .ptr 2 0 0), (3, .ptr 3 0 0), (4, .dat k13b x2 [])] [(2, some (.arr .bool x3 false)), (3, some (.arr .bool x4 false))]
def Zr11 : Code := (rgt (rgt (rgt Zoe1)))
def Zbg2 (m0 : Nat) : K (ResD Zex) := sqK Zu4 m0 Zr11 0 Zp11
def Zcg2 (m0 : Nat) : K (ResD Zex) := Zv 0 (Zbg2 m0)
def Zs11 : Code := (lft (lft (rgt (lft (rgt (rgt Zoe1))))))
def Zzz (m0 n : Nat) : Int → Int → D13c → D13c → Option (D13c) := fun x1 x2 x3 x4 => ej Zu4 n (.loop Zs11) 0 (Zq11 x1 x2 x3 x4) (Zcg2 m0)
theorem Zlp1 (m0 n : Nat) : Zzz m0 (n + 1) = Zzc.S0 (Zzz m0 n) := by kernel_rfl
theorem Zdg2 (m0 : Nat) : ∀ n : Nat, Zzz m0 n = Zzc.l0 n :=
  ind rfl fun n e0 => (Zlp1 m0 n).trans (by rw [e0]; rfl)
theorem Ziq2 (m0 : Nat) (x : ArgsD Zo11) : run Zu4 Zoe1 m0 x Zp11 = Zzc.S (Zzz m0 m0) x.1 := by kernel_rfl
abbrev Za0 : AM.Spec := AM.spec Zo11 Zex (fun x => Zzc x.1)
theorem Zpe1 : Zg Tryz.prog 146 Za0 := ctrC tabOk (fn := Tryz.f146) (fun x => (Ziq2 fu x).trans (by rw [Zdg2 fu fu]; rfl)) (Ze trivial)
abbrev Zv4 : Env := tab.env (AM.look [(146, Za0)]) ⟨[(0, ⟨tt [3, 4], tt [3]⟩)], [], [], ⟨tt [2], []⟩, [], [146], [], []⟩
def Zqe1 : Code := bd Tryz.f119
abbrev Zfx : List (Ty × List Tag) := [(k13b, [])]
abbrev Zt11 : List PK := [.val k13b]
abbrev Zu11 : K (ResD Zfx) := fin Zv4 [.tmp 2] [] Zfx
def Zv11 (x2 : Int) (x3 : D13c) : St := mk [(3, .ptr 3 0 0), (4, .dat k13b x2 [])] [(3, some (.arr .bool x3 false))]
def Zw11 : Code := (rgt (rgt (rgt Zqe1)))
def Zeg2 (m0 : Nat) : K (ResD Zfx) := sqK Zv4 m0 Zw11 0 Zu11
def Zfg2 (m0 : Nat) : K (ResD Zfx) := Zv 0 (Zeg2 m0)
def Zx11 : Code := (lft (lft (rgt (lft (rgt (rgt Zqe1))))))
def Zb0 (m0 n : Nat) : Int → D13c → Option Int := fun x2 x3 => ej Zv4 n (.loop Zx11) 0 (Zv11 x2 x3) (Zfg2 m0)
theorem Zmp1 (m0 n : Nat) : Zb0 m0 (n + 1) = Zjc.S0 (Zb0 m0 n) := by kernel_rfl
theorem Zgg2 (m0 : Nat) : ∀ n : Nat, Zb0 m0 n = Zjc.l0 n :=
  ind rfl fun n e0 => (Zmp1 m0 n).trans (by rw [e0]; rfl)
theorem Zjq2 (m0 : Nat) (x : ArgsD Zt11) : run Zv4 Zqe1 m0 x Zu11 = Zjc.S (Zb0 m0 m0) x.1 := by kernel_rfl
abbrev Zwk1 : AM.Spec := AM.spec Zt11 Zfx (fun x => Zjc x.1)
theorem Zr02 : Zg Tryz.prog 119 Zwk1 := ctrC tabOk (fn := Tryz.f119) (fun x => (Zjq2 fu x).trans (by rw [Zgg2 fu fu]; rfl)) (Ze ⟨⟨Zpe1, Tryz.call146, fun _ => Zd rfl⟩, trivial⟩)
abbrev E_f83 : Env := tab.env (AM.look [(119, Zwk1)]) ⟨[(0, ⟨tt [0, 3, 4], []⟩)], [], [], ⟨tt [2], []⟩, [], [119], [], []⟩
def b_f83 : Code := bd Tryz.f83
abbrev R_f83 : List (Ty × List Tag) := [(k13b, [])]
abbrev P_f83 : List PK := [.val k13d]
abbrev K_f83 : K (ResD R_f83) := fin E_f83 [.tmp 2] [] R_f83
def Zhg2 (x1 : D13a) (x2 x3 : Int) : St := mk [(0, .dat k13d x1 []), (3, .dat k13b x2 []), (4, .dat k13b x3 [])] []
def Zig2 : Code := (rgt (rgt (rgt b_f83)))
def Zkq2 (m0 : Nat) : K (ResD R_f83) := sqK E_f83 m0 Zig2 0 K_f83
def Zlq2 (m0 : Nat) : K (ResD R_f83) := Zv 0 (Zkq2 m0)
def Zjg2 : Code := (lft (lft (rgt (lft (rgt (rgt b_f83))))))
def Zw4 (m0 n : Nat) : D13a → Int → Int → Option Int := fun x1 x2 x3 => ej E_f83 n (.loop Zjg2) 0 (Zhg2 x1 x2 x3) (Zlq2 m0)
theorem Zy11 (m0 n : Nat) : Zw4 m0 (n + 1) = Zcc.S0 (Zw4 m0 n) := by kernel_rfl
theorem Zmq2 (m0 : Nat) : ∀ n : Nat, Zw4 m0 n = Zcc.l0 n :=
  ind rfl fun n e0 => (Zy11 m0 n).trans (by rw [e0]; rfl)
theorem Zs02 (m0 : Nat) (x : ArgsD P_f83) : run E_f83 b_f83 m0 x K_f83 = Zcc.S (Zw4 m0 m0) x.1 := by kernel_rfl
abbrev Zgx : AM.Spec := AM.spec P_f83 R_f83 (fun x => Zcc x.1)
theorem c_f83 : Zg Tryz.prog 83 Zgx := ctrC tabOk (fn := Tryz.f83) (fun x => (Zs02 fu x).trans (by rw [Zmq2 fu fu]; rfl)) (Ze ⟨⟨Zr02, Tryz.call119, fun _ => Zd rfl⟩, trivial⟩)
abbrev E_f84 : Env := tab.env (AM.look []) ⟨[], [], [], ⟨tt [4], []⟩, [], [], [], []⟩
def b_f84 : Code := bd Tryz.f84
abbrev R_f84 : List (Ty × List Tag) := [(k13b, [])]
abbrev P_f84 : List PK := [.val k13b, .val k13b]
abbrev K_f84 : K (ResD R_f84) := fin E_f84 [.tmp 4] [] R_f84
theorem Zkg2 (m0 : Nat) (x : ArgsD P_f84) : run E_f84 b_f84 m0 x K_f84 = Zrf.o x.1 x.2.1 := by kernel_rfl
theorem Zt02 (m0 : Nat) (x : ArgsD P_f84) : run E_f84 b_f84 m0 x K_f84 = some (Zrf x.1 x.2.1) := (Zkg2 m0 x).trans (by unfold Zrf.o Zrf; simp only [Zsi])
abbrev Zz11 : AM.Spec := AM.spec P_f84 R_f84 (fun x => some (Zrf x.1 x.2.1))
theorem c_f84 : Zg Tryz.prog 84 Zz11 := ctrC tabOk (fn := Tryz.f84) (fun x => Zt02 fu x) (Ze trivial)
abbrev E_f48 : Env := tab.env (AM.look [(83, Zgx), (84, Zz11)]) ⟨[(0, ⟨tt [0, 1, 6, 7], tt [31]⟩), (2, ⟨tt [0, 1, 6, 7, 8], tt [31]⟩)], [], [], ⟨tt [4, 5], []⟩, [6, 31, 56, 59, 69], [83, 84], [], []⟩
def b_f48 : Code := bd Tryz.f48
abbrev R_f48 : List (Ty × List Tag) := [(.str, []), (k13b, [])]
abbrev P_f48 : List PK := [.val k13d, .val k13b]
abbrev K_f48 : K (ResD R_f48) := fin E_f48 [.tmp 4, .tmp 5] [] R_f48
def Zlg2 (x7 : D13a) (x8 x9 x10 : Int) (x11 : D13a) : St := mk [(0, .dat k13d x7 []), (1, .dat k13b x8 []), (6, .slw 31 0), (7, .dat k13b x9 []), (8, .dat k13b x10 [])] [(31, some (.arr (.int .u8) x11 false))]
def Zmg2 (x3 : D13a) (x4 x5 : Int) (x6 : D13a) : St := mk [(0, .dat k13d x3 []), (1, .dat k13b x4 []), (6, .slw 31 0), (7, .dat k13b x5 [])] [(31, some (.arr (.int .u8) x6 false))]
def Zng2 : Code := (rgt (rgt (rgt (rgt b_f48))))
def Znq2 (m0 : Nat) : K (ResD R_f48) := sqK E_f48 m0 Zng2 0 K_f48
def Zxk1 (m0 : Nat) : K (ResD R_f48) := Zv 0 (Znq2 m0)
def Zpt : Code := (lft (lft (rgt (lft (rgt (rgt (rgt b_f48)))))))
def Zhx (m0 n : Nat) : D13a → Int → Int → D13a → Option D13g := fun x3 x4 x5 x6 => ej E_f48 n (.loop Zpt) 0 (Zmg2 x3 x4 x5 x6) (Zxk1 m0)
def Zoq2 (m0 m1 : Nat) : K (ResD R_f48) := lpK E_f48 m1 Zpt 0 (Zxk1 m0)
def Zog2 : Code := (rgt (rgt Zpt))
def Zpq2 (m0 m1 : Nat) : K (ResD R_f48) := sqK E_f48 m1 Zog2 0 (Zoq2 m0 m1)
def Zqq2 (m0 m1 : Nat) : K (ResD R_f48) := Zv 1 (Zpq2 m0 m1)
def Zrq2 (m0 m1 : Nat) : K (ResD R_f48) := Zv 2 (Zqq2 m0 m1)
def Zpg2 : Code := (lft (lft (rgt (lft (lft (rgt Zpt))))))
def Zix (m0 m1 n : Nat) : D13a → Int → Int → Int → D13a → Option D13g := fun x7 x8 x9 x10 x11 => ej E_f48 n (.loop Zpg2) 2 (Zlg2 x7 x8 x9 x10 x11) (Zrq2 m0 m1)
theorem Za21 (m0 m1 n : Nat) : Zix m0 m1 (n + 1) = Zta.S1 (Zhx m0 m1) (Zix m0 m1 n) := by kernel_rfl
theorem Zsq2 (m0 m1 : Nat) : ∀ n : Nat, Zix m0 m1 n = Zta.l1 (Zhx m0 m1) n :=
  ind rfl fun n e1 => (Za21 m0 m1 n).trans (by rw [e1]; rfl)
theorem Zb21 (m0 n : Nat) : Zhx m0 (n + 1) = Zta.S0 (Zix m0 n n) := by kernel_rfl
theorem Ztq2 (m0 : Nat) : ∀ n : Nat, Zhx m0 n = Zta.l0 n :=
  ind rfl fun n e0 => by
    have e1 : Zix m0 n n = Zta.l1 (Zta.l0 n) n := by rw [← e0]; exact Zsq2 m0 n n
    rw [Zb21 m0 n, e1]; rfl
theorem Zu02 (m0 : Nat) (x : ArgsD P_f48) : run E_f48 b_f48 m0 x K_f48 = Zta.S (Zhx m0 m0) x.1 x.2.1 := by kernel_rfl
abbrev Zjx : AM.Spec := AM.spec P_f48 R_f48 (fun x => Zta x.1 x.2.1)
theorem c_f48 : Zg Tryz.prog 48 Zjx := ctrC tabOk (fn := Tryz.f48) (fun x => (Zu02 fu x).trans (by rw [Ztq2 fu fu]; rfl)) (Ze ⟨⟨c_f83, Tryz.call83, fun _ => Zd rfl⟩, ⟨⟨c_f84, Tryz.call84, fun _ => Zd rfl⟩, trivial⟩⟩)
abbrev E_f27 : Env := tab.env (AM.look [(48, Zjx)]) ⟨[(0, ⟨tt [0, 4, 5, 6], []⟩)], [], [(10, ⟨tt [0, 4, 5], []⟩)], ⟨tt [2, 3], []⟩, [], [48], [], []⟩
def b_f27 : Code := bd Tryz.f27
abbrev R_f27 : List (Ty × List Tag) := [(.str, []), (k13h, [⟨0, 1, 0, 3⟩])]
abbrev P_f27 : List PK := [.val k13h]
abbrev K_f27 : K (ResD R_f27) := fin E_f27 [.tmp 2, .tmp 3] [] R_f27
def Zqg2 (x5 x6 : D13u) (x7 : D13a) : St := mk [(0, .dat k13h x5 []), (4, .dat k13h x6 [⟨0, 257, 0, 3⟩]), (5, .dat k13d x7 [⟨0, 321, 0, 1⟩])] []
def Zrg2 (x1 x2 : D13u) (x3 : D13a) (x4 : Int) : St := mk [(0, .dat k13h x1 []), (4, .dat k13h x2 [⟨0, 257, 0, 3⟩]), (5, .dat k13d x3 [⟨0, 321, 0, 1⟩]), (6, .dat k13b x4 [])] []
def Zre1 : Code := (rgt (rgt (rgt (rgt b_f27))))
def Zkx (m0 n : Nat) : D13u → D13u → D13a → Option D13z := fun x5 x6 x7 => ej E_f27 n (.tail Zre1) 0 (Zqg2 x5 x6 x7) K_f27
theorem Zc21 (m0 n : Nat) : Zkx m0 (n + 1) = Zsa.S1 := by kernel_rfl
theorem Zuq2 (m0 : Nat) : ∀ n : Nat, Zkx m0 n = Zsa.t1 n :=
  ind rfl fun n _ => Zc21 m0 n
def Zvq2 (m0 : Nat) : K (ResD R_f27) := sqK E_f27 m0 Zre1 0 K_f27
def Zwq2 (m0 : Nat) : K (ResD R_f27) := Zv 0 (Zvq2 m0)
def Zsg2 : Code := (lft (lft (rgt (lft (rgt (rgt (rgt b_f27)))))))
def Zlx (m0 n : Nat) : D13u → D13u → D13a → Int → Option D13z := fun x1 x2 x3 x4 => ej E_f27 n (.loop Zsg2) 0 (Zrg2 x1 x2 x3 x4) (Zwq2 m0)
theorem Zd21 (m0 n : Nat) : Zlx m0 (n + 1) = Zsa.S0 (Zkx m0 m0) (Zlx m0 n) := by kernel_rfl
theorem Zxq2 (m0 : Nat) : ∀ n : Nat, Zlx m0 n = Zsa.l0 (Zkx m0 m0) n :=
  ind rfl fun n e0 => (Zd21 m0 n).trans (by rw [e0]; rfl)
theorem Zv02 (m0 : Nat) (x : ArgsD P_f27) : run E_f27 b_f27 m0 x K_f27 = Zsa.S (Zlx m0 m0) x.1 := by kernel_rfl
abbrev Ze21 : AM.Spec := AM.spec P_f27 R_f27 (fun x => Zsa x.1)
theorem c_f27 : Zg Tryz.prog 27 Ze21 := ctrC tabOk (fn := Tryz.f27) (show ∀ x, run E_f27 b_f27 fu x K_f27 = _ from fun x => by
  have e1 : Zkx fu fu = Zsa.t1 fu := Zuq2 fu fu
  have e0 : Zlx fu fu = Zsa.l0 (Zsa.t1 fu) fu := by rw [← e1]; exact Zxq2 fu fu
  refine (Zv02 fu x).trans ?_
  rw [e0]; rfl) (Ze ⟨⟨c_f48, Tryz.call48, fun _ => Zd rfl⟩, trivial⟩)
abbrev E_f50 : Env := tab.env (AM.look []) ⟨[(0, ⟨tt [0, 3, 4], []⟩)], [], [], ⟨tt [2], []⟩, [], [], [], []⟩
def b_f50 : Code := bd Tryz.f50
abbrev R_f50 : List (Ty × List Tag) := [(k13d, [⟨0, 1, 0, 1⟩])]
abbrev P_f50 : List PK := [.val k13h]
abbrev K_f50 : K (ResD R_f50) := fin E_f50 [.tmp 2] [] R_f50
def Ztg2 (x1 : D13u) (x2 : D13a) (x3 : Int) : St := mk [(0, .dat k13h x1 []), (3, .dat k13d x2 [⟨0, 193, 0, 1⟩]), (4, .dat k13b x3 [])] []
def Zug2 : Code := (rgt (rgt (rgt b_f50)))
def Zyq2 (m0 : Nat) : K (ResD R_f50) := sqK E_f50 m0 Zug2 0 K_f50
def Zzq2 (m0 : Nat) : K (ResD R_f50) := Zv 0 (Zyq2 m0)
def Zvg2 : Code := (lft (lft (rgt (lft (rgt (rgt b_f50))))))
def Zx4 (m0 n : Nat) : D13u → D13a → Int → Option D13d := fun x1 x2 x3 => ej E_f50 n (.loop Zvg2) 0 (Ztg2 x1 x2 x3) (Zzq2 m0)
theorem Zf21 (m0 n : Nat) : Zx4 m0 (n + 1) = Zdd.S0 (Zx4 m0 n) := by kernel_rfl
theorem Zar2 (m0 : Nat) : ∀ n : Nat, Zx4 m0 n = Zdd.l0 n :=
  ind rfl fun n e0 => (Zf21 m0 n).trans (by rw [e0]; rfl)
theorem Zw02 (m0 : Nat) (x : ArgsD P_f50) : run E_f50 b_f50 m0 x K_f50 = Zdd.S (Zx4 m0 m0) x.1 := by kernel_rfl
abbrev Zg21 : AM.Spec := AM.spec P_f50 R_f50 (fun x => Zdd x.1)
theorem c_f50 : Zg Tryz.prog 50 Zg21 := ctrC tabOk (fn := Tryz.f50) (fun x => (Zw02 fu x).trans (by rw [Zar2 fu fu]; rfl)) (Ze trivial)
abbrev E_f85 : Env := tab.env (AM.look []) ⟨[(0, ⟨tt [0, 3, 4], []⟩), (2, ⟨tt [0, 3, 4, 5], []⟩)], [], [], ⟨tt [2], []⟩, [], [], [], []⟩
def b_f85 : Code := bd Tryz.f85
abbrev R_f85 : List (Ty × List Tag) := [(.str, [])]
abbrev P_f85 : List PK := [.val k13d]
abbrev K_f85 : K (ResD R_f85) := fin E_f85 [.tmp 2] [] R_f85
def Zwg2 (x4 x5 : D13a) (x6 x7 : Int) : St := mk [(0, .dat k13d x4 []), (3, .dat k13c x5 [⟨0, 193, 0, 0⟩]), (4, .dat k13b x6 []), (5, .dat k13b x7 [])] []
def Zxg2 (x1 x2 : D13a) (x3 : Int) : St := mk [(0, .dat k13d x1 []), (3, .dat k13c x2 [⟨0, 193, 0, 0⟩]), (4, .dat k13b x3 [])] []
def Zyg2 : Code := (rgt (rgt (rgt b_f85)))
def Zbr2 (m0 : Nat) : K (ResD R_f85) := sqK E_f85 m0 Zyg2 0 K_f85
def Zyk1 (m0 : Nat) : K (ResD R_f85) := Zv 0 (Zbr2 m0)
def Zqt : Code := (lft (lft (rgt (lft (rgt (rgt b_f85))))))
def Zmx (m0 n : Nat) : D13a → D13a → Int → Option ByteArray := fun x1 x2 x3 => ej E_f85 n (.loop Zqt) 0 (Zxg2 x1 x2 x3) (Zyk1 m0)
def Zcr2 (m0 m1 : Nat) : K (ResD R_f85) := lpK E_f85 m1 Zqt 0 (Zyk1 m0)
def Zzg2 : Code := (rgt (rgt Zqt))
def Zdr2 (m0 m1 : Nat) : K (ResD R_f85) := sqK E_f85 m1 Zzg2 0 (Zcr2 m0 m1)
def Zer2 (m0 m1 : Nat) : K (ResD R_f85) := Zv 1 (Zdr2 m0 m1)
def Zfr2 (m0 m1 : Nat) : K (ResD R_f85) := Zv 2 (Zer2 m0 m1)
def Zah2 : Code := (lft (lft (rgt (lft (lft (rgt Zqt))))))
def Znx (m0 m1 n : Nat) : D13a → D13a → Int → Int → Option ByteArray := fun x4 x5 x6 x7 => ej E_f85 n (.loop Zah2) 2 (Zwg2 x4 x5 x6 x7) (Zfr2 m0 m1)
theorem Zh21 (m0 m1 n : Nat) : Znx m0 m1 (n + 1) = Zga.S1 (Zmx m0 m1) (Znx m0 m1 n) := by kernel_rfl
theorem Zgr2 (m0 m1 : Nat) : ∀ n : Nat, Znx m0 m1 n = Zga.l1 (Zmx m0 m1) n :=
  ind rfl fun n e1 => (Zh21 m0 m1 n).trans (by rw [e1]; rfl)
theorem Zi21 (m0 n : Nat) : Zmx m0 (n + 1) = Zga.S0 (Znx m0 n n) := by kernel_rfl
theorem Zhr2 (m0 : Nat) : ∀ n : Nat, Zmx m0 n = Zga.l0 n :=
  ind rfl fun n e0 => by
    have e1 : Znx m0 n n = Zga.l1 (Zga.l0 n) n := by rw [← e0]; exact Zgr2 m0 n n
    rw [Zi21 m0 n, e1]; rfl
theorem Zx02 (m0 : Nat) (x : ArgsD P_f85) : run E_f85 b_f85 m0 x K_f85 = Zga.S (Zmx m0 m0) x.1 := by kernel_rfl
abbrev Zj21 : AM.Spec := AM.spec P_f85 R_f85 (fun x => Zga x.1)
theorem c_f85 : Zg Tryz.prog 85 Zj21 := ctrC tabOk (fn := Tryz.f85) (fun x => (Zx02 fu x).trans (by rw [Zhr2 fu fu]; rfl)) (Ze trivial)
abbrev E_f87 : Env := tab.env (AM.look []) ⟨[(0, ⟨tt [0, 3, 4], tt [3]⟩)], [], [], ⟨tt [2], tt [3]⟩, [2, 3, 30, 31, 40, 48, 49], [], [], []⟩
def b_f87 : Code := bd Tryz.f87
abbrev R_f87 : List (Ty × List Tag) := [(k13j, [])]
abbrev P_f87 : List PK := [.val k13d]
abbrev K_f87 : K (ResD R_f87) := fin E_f87 [.tmp 2] [] R_f87
def Zbh2 (x1 : D13a) (x2 : Int) (x3 : D13o) : St := mk [(0, .dat k13d x1 []), (3, .slw 3 0), (4, .dat k13b x2 [])] [(3, some (.arr k13i x3 false))]
def Zch2 : Code := (rgt (rgt (rgt b_f87)))
def Zir2 (m0 : Nat) : K (ResD R_f87) := sqK E_f87 m0 Zch2 0 K_f87
def Zjr2 (m0 : Nat) : K (ResD R_f87) := Zv 0 (Zir2 m0)
def Zdh2 : Code := (lft (lft (rgt (lft (rgt (rgt b_f87))))))
def Zy4 (m0 n : Nat) : D13a → Int → D13o → Option D13q := fun x1 x2 x3 => ej E_f87 n (.loop Zdh2) 0 (Zbh2 x1 x2 x3) (Zjr2 m0)
theorem Zk21 (m0 n : Nat) : Zy4 m0 (n + 1) = Zsd.S0 (Zy4 m0 n) := by kernel_rfl
theorem Zkr2 (m0 : Nat) : ∀ n : Nat, Zy4 m0 n = Zsd.l0 n :=
  ind rfl fun n e0 => (Zk21 m0 n).trans (by rw [e0]; rfl)
theorem Zy02 (m0 : Nat) (x : ArgsD P_f87) : run E_f87 b_f87 m0 x K_f87 = Zsd.S (Zy4 m0 m0) x.1 := by kernel_rfl
abbrev Zse1 : AM.Spec := AM.spec P_f87 R_f87 (fun x => Zsd x.1)
theorem c_f87 : Zg Tryz.prog 87 Zse1 := ctrC tabOk (fn := Tryz.f87) (fun x => (Zy02 fu x).trans (by rw [Zkr2 fu fu]; rfl)) (Ze trivial)
abbrev E_f99 : Env := tab.env (AM.look []) ⟨[(0, ⟨tt [0, 3, 4], []⟩)], [], [], ⟨tt [2], []⟩, [], [], [], []⟩
def b_f99 : Code := bd Tryz.f99
abbrev R_f99 : List (Ty × List Tag) := [(.bool, [])]
abbrev P_f99 : List PK := [.val k13j]
abbrev K_f99 : K (ResD R_f99) := fin E_f99 [.tmp 2] [] R_f99
def Zeh2 (x1 : D13o) (x2 x3 : Int) : St := mk [(0, .dat k13j x1 []), (3, .dat k13b x2 []), (4, .dat k13b x3 [])] []
def Zfh2 : Code := (rgt (rgt (rgt b_f99)))
def Zlr2 (m0 : Nat) : K (ResD R_f99) := sqK E_f99 m0 Zfh2 0 K_f99
def Zmr2 (m0 : Nat) : K (ResD R_f99) := Zv 0 (Zlr2 m0)
def Zgh2 : Code := (lft (lft (rgt (lft (rgt (rgt b_f99))))))
def Zz4 (m0 n : Nat) : D13o → Int → Int → Option Bool := fun x1 x2 x3 => ej E_f99 n (.loop Zgh2) 0 (Zeh2 x1 x2 x3) (Zmr2 m0)
theorem Zl21 (m0 n : Nat) : Zz4 m0 (n + 1) = Zqd.S0 (Zz4 m0 n) := by kernel_rfl
theorem Znr2 (m0 : Nat) : ∀ n : Nat, Zz4 m0 n = Zqd.l0 n :=
  ind rfl fun n e0 => (Zl21 m0 n).trans (by rw [e0]; rfl)
theorem Zz02 (m0 : Nat) (x : ArgsD P_f99) : run E_f99 b_f99 m0 x K_f99 = Zqd.S (Zz4 m0 m0) x.1 := by kernel_rfl
abbrev Zm21 : AM.Spec := AM.spec P_f99 R_f99 (fun x => Zqd x.1)
theorem c_f99 : Zg Tryz.prog 99 Zm21 := ctrC tabOk (fn := Tryz.f99) (fun x => (Zz02 fu x).trans (by rw [Znr2 fu fu]; rfl)) (Ze trivial)
abbrev Za5 : Env := tab.env (AM.look []) ⟨[(0, ⟨tt [1, 3, 4], tt [1]⟩)], [], [], ⟨tt [2], []⟩, [], [], [], []⟩
def Zte1 : Code := bd Tryz.f147
abbrev Zox : List (Ty × List Tag) := [(k13b, [])]
abbrev Zn21 : List PK := [.val (.arr 63 .bool)]
abbrev Zo21 : K (ResD Zox) := fin Za5 [.tmp 2] [] Zox
def Zp21 (x1 x2 : Int) (x3 : D13c) : St := mk [(1, .ptr 1 0 0), (3, .dat k13b x1 []), (4, .dat k13b x2 [])] [(1, some (.arr .bool x3 false))]
def Zq21 : Code := (rgt (rgt (rgt Zte1)))
def Zhh2 (m0 : Nat) : K (ResD Zox) := sqK Za5 m0 Zq21 0 Zo21
def Zih2 (m0 : Nat) : K (ResD Zox) := Zv 0 (Zhh2 m0)
def Zr21 : Code := (lft (lft (rgt (lft (rgt (rgt Zte1))))))
def Zc0 (m0 n : Nat) : Int → Int → D13c → Option Int := fun x1 x2 x3 => ej Za5 n (.loop Zr21) 0 (Zp21 x1 x2 x3) (Zih2 m0)
theorem Znp1 (m0 n : Nat) : Zc0 m0 (n + 1) = Zya.S0 (Zc0 m0 n) := by kernel_rfl
theorem Zjh2 (m0 : Nat) : ∀ n : Nat, Zc0 m0 n = Zya.l0 n :=
  ind rfl fun n e0 => (Znp1 m0 n).trans (by rw [e0]; rfl)
theorem Zor2 (m0 : Nat) (x : ArgsD Zn21) : run Za5 Zte1 m0 x Zo21 = Zya.S (Zc0 m0 m0) x.1 := by kernel_rfl
abbrev Zb7 : AM.Spec := AM.spec Zn21 Zox (fun x => Zya x.1)
theorem Zs21 : Zg Tryz.prog 147 Zb7 := ctrC tabOk (fn := Tryz.f147) (fun x => (Zor2 fu x).trans (by rw [Zjh2 fu fu]; rfl)) (Ze trivial)
abbrev Zb5 : Env := tab.env (AM.look [(146, Za0), (147, Zb7)]) ⟨[(0, ⟨tt [3, 4, 5], tt [3, 4]⟩)], [], [], ⟨tt [2], []⟩, [], [146, 147], [], []⟩
def Zue1 : Code := bd Tryz.f124
abbrev Zpx : List (Ty × List Tag) := [(k13b, [])]
abbrev Zt21 : List PK := [.val k13b]
abbrev Zu21 : K (ResD Zpx) := fin Zb5 [.tmp 2] [] Zpx
def Zv21 (x2 : Int) (x3 x4 : D13c) : St := mk [(3, .ptr 3 0 0), (4, .ptr 4 0 0), (5, .dat k13b x2 [])] [(3, some (.arr .bool x3 false)), (4, some (.arr .bool x4 false))]
def Zw21 : Code := (rgt (rgt (rgt (rgt (rgt Zue1)))))
def Zkh2 (m0 : Nat) : K (ResD Zpx) := sqK Zb5 m0 Zw21 0 Zu21
def Zlh2 (m0 : Nat) : K (ResD Zpx) := Zv 0 (Zkh2 m0)
def Zx21 : Code := (lft (lft (rgt (lft (rgt (rgt (rgt (rgt Zue1))))))))
def Zd0 (m0 n : Nat) : Int → D13c → D13c → Option Int := fun x2 x3 x4 => ej Zb5 n (.loop Zx21) 0 (Zv21 x2 x3 x4) (Zlh2 m0)
theorem Zop1 (m0 n : Nat) : Zd0 m0 (n + 1) = Ztc.S0 (Zd0 m0 n) := by kernel_rfl
theorem Zmh2 (m0 : Nat) : ∀ n : Nat, Zd0 m0 n = Ztc.l0 n :=
  ind rfl fun n e0 => (Zop1 m0 n).trans (by rw [e0]; rfl)
theorem Zpr2 (m0 : Nat) (x : ArgsD Zt21) : run Zb5 Zue1 m0 x Zu21 = Ztc.S (Zd0 m0 m0) x.1 := by kernel_rfl
abbrev Zzk1 : AM.Spec := AM.spec Zt21 Zpx (fun x => Ztc x.1)
theorem Za12 : Zg Tryz.prog 124 Zzk1 := ctrC tabOk (fn := Tryz.f124) (fun x => (Zpr2 fu x).trans (by rw [Zmh2 fu fu]; rfl)) (Ze ⟨⟨Zpe1, Tryz.call146, fun _ => Zd rfl⟩, ⟨⟨Zs21, Tryz.call147, fun _ => Zd rfl⟩, trivial⟩⟩)
abbrev Zc5 : Env := tab.env (AM.look [(146, Za0), (147, Zb7)]) ⟨[(0, ⟨tt [1, 2, 7, 8, 9], tt [7, 8]⟩)], [], [], ⟨tt [6], []⟩, [], [146, 147], [], []⟩
def Zve1 : Code := bd Tryz.f125
abbrev Zqx : List (Ty × List Tag) := [(k13b, [])]
abbrev Zy21 : List PK := [.val k13b, .val k13b, .val k13b]
abbrev Zz21 : K (ResD Zqx) := fin Zc5 [.tmp 6] [] Zqx
def Za31 (x2 x3 x4 : Int) (x5 x6 : D13c) : St := mk [(1, .dat k13b x2 []), (2, .dat k13b x3 []), (7, .ptr 7 0 0), (8, .ptr 8 0 0), (9, .dat k13b x4 [])] [(7, some (.arr .bool x5 false)), (8, some (.arr .bool x6 false))]
def Zb31 : Code := (rgt (rgt (rgt (rgt Zve1))))
def Znh2 (m0 : Nat) : K (ResD Zqx) := sqK Zc5 m0 Zb31 0 Zz21
def Zoh2 (m0 : Nat) : K (ResD Zqx) := Zv 0 (Znh2 m0)
def Zc31 : Code := (lft (lft (rgt (lft (rgt (rgt (rgt Zve1)))))))
def Ze0 (m0 n : Nat) : Int → Int → Int → D13c → D13c → Option Int := fun x2 x3 x4 x5 x6 => ej Zc5 n (.loop Zc31) 0 (Za31 x2 x3 x4 x5 x6) (Zoh2 m0)
theorem Zpp1 (m0 n : Nat) : Ze0 m0 (n + 1) = Zpb.S0 (Ze0 m0 n) := by kernel_rfl
theorem Zph2 (m0 : Nat) : ∀ n : Nat, Ze0 m0 n = Zpb.l0 n :=
  ind rfl fun n e0 => (Zpp1 m0 n).trans (by rw [e0]; rfl)
theorem Zqr2 (m0 : Nat) (x : ArgsD Zy21) : run Zc5 Zve1 m0 x Zz21 = Zpb.S (Ze0 m0 m0) x.1 x.2.1 x.2.2.1 := by kernel_rfl
abbrev Zal1 : AM.Spec := AM.spec Zy21 Zqx (fun x => Zpb x.1 x.2.1 x.2.2.1)
theorem Zb12 : Zg Tryz.prog 125 Zal1 := ctrC tabOk (fn := Tryz.f125) (fun x => (Zqr2 fu x).trans (by rw [Zph2 fu fu]; rfl)) (Ze ⟨⟨Zpe1, Tryz.call146, fun _ => Zd rfl⟩, ⟨⟨Zs21, Tryz.call147, fun _ => Zd rfl⟩, trivial⟩⟩)
abbrev E_f92 : Env := tab.env (AM.look [(124, Zzk1), (125, Zal1)]) ⟨[(0, ⟨tt [3, 4], []⟩)], [], [], ⟨tt [2], []⟩, [], [124, 125], [], []⟩
def b_f92 : Code := bd Tryz.f92
abbrev R_f92 : List (Ty × List Tag) := [(.str, [])]
abbrev P_f92 : List PK := [.val k13b]
abbrev K_f92 : K (ResD R_f92) := fin E_f92 [.tmp 2] [] R_f92
def Zqh2 (x2 : Int) (x3 : D13a) : St := mk [(3, .dat k13b x2 []), (4, .dat k13c x3 [⟨0, 257, 0, 0⟩])] []
def Zrr2 (m0 : Nat) : K (ResD R_f92) := Zv 0 K_f92
def Zrh2 : Code := (lft (lft (rgt (rgt (rgt b_f92)))))
def Zd5 (m0 n : Nat) : Int → D13a → Option ByteArray := fun x2 x3 => ej E_f92 n (.loop Zrh2) 0 (Zqh2 x2 x3) (Zrr2 m0)
theorem Zd31 (m0 n : Nat) : Zd5 m0 (n + 1) = Zvb.S0 (Zd5 m0 n) := by kernel_rfl
theorem Zsr2 (m0 : Nat) : ∀ n : Nat, Zd5 m0 n = Zvb.l0 n :=
  ind rfl fun n e0 => (Zd31 m0 n).trans (by rw [e0]; rfl)
theorem Zc12 (m0 : Nat) (x : ArgsD P_f92) : run E_f92 b_f92 m0 x K_f92 = Zvb.S (Zd5 m0 m0) x.1 := by kernel_rfl
abbrev Zss : AM.Spec := AM.spec P_f92 R_f92 (fun x => Zvb x.1)
theorem c_f92 : Zg Tryz.prog 92 Zss := ctrC tabOk (fn := Tryz.f92) (fun x => (Zc12 fu x).trans (by rw [Zsr2 fu fu]; rfl)) (Ze ⟨⟨Za12, Tryz.call124, fun _ => Zd rfl⟩, ⟨⟨Zb12, Tryz.call125, fun _ => Zd rfl⟩, trivial⟩⟩)
abbrev E_f86 : Env := tab.env (AM.look [(99, Zm21), (92, Zss)]) ⟨[(0, ⟨tt [0, 4, 5], []⟩)], [], [], ⟨tt [2, 3], []⟩, [], [92, 99], [], []⟩
def b_f86 : Code := bd Tryz.f86
abbrev R_f86 : List (Ty × List Tag) := [(.str, []), (k13b, [])]
abbrev P_f86 : List PK := [.val k13j]
abbrev K_f86 : K (ResD R_f86) := fin E_f86 [.tmp 2, .tmp 3] [] R_f86
def Zsh2 (x2 : D13o) (x3 : ByteArray) (x4 : Int) : St := mk [(0, .dat k13j x2 []), (4, .dat .str x3 []), (5, .dat k13b x4 [])] []
def Zth2 : Code := (rgt (rgt (rgt (rgt b_f86))))
def Ztr2 (m0 : Nat) : K (ResD R_f86) := sqK E_f86 m0 Zth2 0 K_f86
def Zur2 (m0 : Nat) : K (ResD R_f86) := Zv 0 (Ztr2 m0)
def Zuh2 : Code := (lft (lft (rgt (lft (rgt (rgt (rgt b_f86)))))))
def Ze5 (m0 n : Nat) : D13o → ByteArray → Int → Option D13g := fun x2 x3 x4 => ej E_f86 n (.loop Zuh2) 0 (Zsh2 x2 x3 x4) (Zur2 m0)
theorem Ze31 (m0 n : Nat) : Ze5 m0 (n + 1) = Zwc.S0 (Ze5 m0 n) := by kernel_rfl
theorem Zvr2 (m0 : Nat) : ∀ n : Nat, Ze5 m0 n = Zwc.l0 n :=
  ind rfl fun n e0 => (Ze31 m0 n).trans (by rw [e0]; rfl)
theorem Zd12 (m0 : Nat) (x : ArgsD P_f86) : run E_f86 b_f86 m0 x K_f86 = Zwc.S (Ze5 m0 m0) x.1 := by kernel_rfl
abbrev Zwe1 : AM.Spec := AM.spec P_f86 R_f86 (fun x => Zwc x.1)
theorem c_f86 : Zg Tryz.prog 86 Zwe1 := ctrC tabOk (fn := Tryz.f86) (fun x => (Zd12 fu x).trans (by rw [Zvr2 fu fu]; rfl)) (Ze ⟨⟨c_f99, Tryz.call99, fun _ => Zd rfl⟩, ⟨⟨c_f92, Tryz.call92, fun _ => Zd rfl⟩, trivial⟩⟩)
abbrev Zf5 : Env := tab.env (AM.look []) ⟨[(0, ⟨tt [0, 3, 4], []⟩)], [], [], ⟨tt [2], []⟩, [], [], [], [22]⟩
def Zxe1 : Code := bd Tryz.f120
abbrev Zrx : List (Ty × List Tag) := [(k13d, [⟨0, 1, 0, 1⟩])]
abbrev Zf31 : List PK := [.val k13d]
abbrev Zg31 : K (ResD Zrx) := fin Zf5 [.tmp 2] [] Zrx
def Zh31 (x1 x2 : D13a) (x3 : Int) : St := mk [(0, .dat k13d x1 []), (3, .dat k13d x2 [⟨0, 193, 0, 1⟩]), (4, .dat k13b x3 [])] []
def Zi31 : Code := (rgt (rgt (rgt Zxe1)))
def Zvh2 (m0 : Nat) : K (ResD Zrx) := sqK Zf5 m0 Zi31 0 Zg31
def Zwh2 (m0 : Nat) : K (ResD Zrx) := Zv 0 (Zvh2 m0)
def Zj31 : Code := (lft (lft (rgt (lft (rgt (rgt Zxe1))))))
def Zf0 (m0 n : Nat) : D13a → D13a → Int → Option D13d := fun x1 x2 x3 => ej Zf5 n (.loop Zj31) 0 (Zh31 x1 x2 x3) (Zwh2 m0)
theorem Zqp1 (m0 n : Nat) : Zf0 m0 (n + 1) = Zrc.S0 (Zf0 m0 n) := by kernel_rfl
theorem Zxh2 (m0 : Nat) : ∀ n : Nat, Zf0 m0 n = Zrc.l0 n :=
  ind rfl fun n e0 => (Zqp1 m0 n).trans (by rw [e0]; rfl)
theorem Zwr2 (m0 : Nat) (x : ArgsD Zf31) : run Zf5 Zxe1 m0 x Zg31 = Zrc.S (Zf0 m0 m0) x.1 := by kernel_rfl
abbrev Zbl1 : AM.Spec := AM.spec Zf31 Zrx (fun x => Zrc x.1)
theorem Ze12 : Zg Tryz.prog 120 Zbl1 := ctrC tabOk (fn := Tryz.f120) (fun x => (Zwr2 fu x).trans (by rw [Zxh2 fu fu]; rfl)) (Ze trivial)
abbrev Zg5 : Env := tab.env (AM.look []) ⟨[(0, ⟨tt [0, 3, 4], []⟩)], [], [], ⟨tt [2], []⟩, [], [], [], []⟩
def Zye1 : Code := bd Tryz.f121
abbrev Zsx : List (Ty × List Tag) := [(k13b, [])]
abbrev Zk31 : List PK := [.val k13d]
abbrev Zl31 : K (ResD Zsx) := fin Zg5 [.tmp 2] [] Zsx
def Zm31 (x1 : D13a) (x2 x3 : Int) : St := mk [(0, .dat k13d x1 []), (3, .dat k13b x2 []), (4, .dat k13b x3 [])] []
def Zn31 : Code := (rgt (rgt (rgt Zye1)))
def Zyh2 (m0 : Nat) : K (ResD Zsx) := sqK Zg5 m0 Zn31 0 Zl31
def Zzh2 (m0 : Nat) : K (ResD Zsx) := Zv 0 (Zyh2 m0)
def Zo31 : Code := (lft (lft (rgt (lft (rgt (rgt Zye1))))))
def Zg0 (m0 n : Nat) : D13a → Int → Int → Option Int := fun x1 x2 x3 => ej Zg5 n (.loop Zo31) 0 (Zm31 x1 x2 x3) (Zzh2 m0)
theorem Zrp1 (m0 n : Nat) : Zg0 m0 (n + 1) = Zdc.S0 (Zg0 m0 n) := by kernel_rfl
theorem Zai2 (m0 : Nat) : ∀ n : Nat, Zg0 m0 n = Zdc.l0 n :=
  ind rfl fun n e0 => (Zrp1 m0 n).trans (by rw [e0]; rfl)
theorem Zxr2 (m0 : Nat) (x : ArgsD Zk31) : run Zg5 Zye1 m0 x Zl31 = Zdc.S (Zg0 m0 m0) x.1 := by kernel_rfl
abbrev Zcl1 : AM.Spec := AM.spec Zk31 Zsx (fun x => Zdc x.1)
theorem Zf12 : Zg Tryz.prog 121 Zcl1 := ctrC tabOk (fn := Tryz.f121) (fun x => (Zxr2 fu x).trans (by rw [Zai2 fu fu]; rfl)) (Ze trivial)
abbrev E_f88 : Env := tab.env (AM.look [(92, Zss), (120, Zbl1), (121, Zcl1), (83, Zgx), (48, Zjx)]) ⟨[(0, ⟨tt [4, 5, 6, 7, 8], []⟩)], [], [(15, ⟨tt [4, 6, 7], []⟩)], ⟨tt [2, 3], []⟩, [], [48, 83, 92, 121], [], [59]⟩
def b_f88 : Code := bd Tryz.f88
abbrev R_f88 : List (Ty × List Tag) := [(.str, []), (k13b, [])]
abbrev P_f88 : List PK := [.val k13d]
abbrev K_f88 : K (ResD R_f88) := fin E_f88 [.tmp 2, .tmp 3] [] R_f88
def Zbi2 (x9 : ByteArray) (x10 : Int) (x11 : D13a) : St := mk [(4, .dat .str x9 []), (6, .dat k13b x10 []), (7, .dat k13d x11 [⟨0, 449, 0, 1⟩])] []
def Zci2 (x4 : ByteArray) (x5 : D13a) (x6 : Int) (x7 : D13a) (x8 : Int) : St := mk [(4, .dat .str x4 []), (5, .dat k13d x5 [⟨0, 321, 0, 1⟩]), (6, .dat k13b x6 []), (7, .dat k13d x7 [⟨0, 449, 0, 1⟩]), (8, .dat k13b x8 [])] []
def Zze1 : Code := (rgt (rgt (rgt (rgt (rgt (rgt (rgt (rgt (rgt b_f88)))))))))
def Ztx (m0 n : Nat) : ByteArray → Int → D13a → Option D13g := fun x9 x10 x11 => ej E_f88 n (.tail Zze1) 0 (Zbi2 x9 x10 x11) K_f88
theorem Zp31 (m0 n : Nat) : Ztx m0 (n + 1) = Zxa.S1 := by kernel_rfl
theorem Zyr2 (m0 : Nat) : ∀ n : Nat, Ztx m0 n = Zxa.t1 n :=
  ind rfl fun n _ => Zp31 m0 n
def Zzr2 (m0 : Nat) : K (ResD R_f88) := sqK E_f88 m0 Zze1 0 K_f88
def Zas2 (m0 : Nat) : K (ResD R_f88) := Zv 0 (Zzr2 m0)
def Zdi2 : Code := (lft (lft (rgt (lft (rgt (rgt (rgt (rgt (rgt (rgt (rgt (rgt b_f88))))))))))))
def Zux (m0 n : Nat) : ByteArray → D13a → Int → D13a → Int → Option D13g := fun x4 x5 x6 x7 x8 => ej E_f88 n (.loop Zdi2) 0 (Zci2 x4 x5 x6 x7 x8) (Zas2 m0)
theorem Zq31 (m0 n : Nat) : Zux m0 (n + 1) = Zxa.S0 (Ztx m0 m0) (Zux m0 n) := by kernel_rfl
theorem Zbs2 (m0 : Nat) : ∀ n : Nat, Zux m0 n = Zxa.l0 (Ztx m0 m0) n :=
  ind rfl fun n e0 => (Zq31 m0 n).trans (by rw [e0]; rfl)
theorem Zg12 (m0 : Nat) (x : ArgsD P_f88) : run E_f88 b_f88 m0 x K_f88 = Zxa.S (Zux m0 m0) x.1 := by kernel_rfl
abbrev Zr31 : AM.Spec := AM.spec P_f88 R_f88 (fun x => Zxa x.1)
theorem c_f88 : Zg Tryz.prog 88 Zr31 := ctrC tabOk (fn := Tryz.f88) (show ∀ x, run E_f88 b_f88 fu x K_f88 = _ from fun x => by
  have e1 : Ztx fu fu = Zxa.t1 fu := Zyr2 fu fu
  have e0 : Zux fu fu = Zxa.l0 (Zxa.t1 fu) fu := by rw [← e1]; exact Zbs2 fu fu
  refine (Zg12 fu x).trans ?_
  rw [e0]; rfl) (Ze ⟨⟨c_f92, Tryz.call92, fun _ => Zd rfl⟩, ⟨⟨Ze12, Tryz.call120, nw⟩, ⟨⟨Zf12, Tryz.call121, fun _ => Zd rfl⟩, ⟨⟨c_f83, Tryz.call83, fun _ => Zd rfl⟩, ⟨⟨c_f48, Tryz.call48, fun _ => Zd rfl⟩, trivial⟩⟩⟩⟩⟩)
abbrev Zhf : Env := tab.env (AM.look []) ⟨[(0, ⟨tt [0, 4, 5, 6], []⟩), (2, ⟨tt [0, 4, 5, 6, 7], []⟩), (4, ⟨tt [0, 4, 5, 9], []⟩), (6, ⟨tt [0, 4, 5, 9, 10], []⟩)], [], [(8, ⟨tt [0, 4, 5, 6, 7], []⟩), (9, ⟨tt [0, 4, 5, 6, 7], []⟩), (13, ⟨tt [0, 4, 5], []⟩)], ⟨tt [2, 3], []⟩, [], [], [], []⟩
def Zts : Code := bd Tryz.f122
abbrev Zuf : List (Ty × List Tag) := [(k13d, [⟨0, 1, 0, 1⟩]), (k13d, [⟨0, 1, 0, 1⟩])]
abbrev Zs31 : List PK := [.val k13d]
abbrev Zvx : K (ResD Zuf) := fin Zhf [.tmp 2, .tmp 3] [] Zuf
def Zt31 (x27 x28 x29 : D13a) (x30 x31 : Int) : St := mk [(0, .dat k13d x27 []), (4, .dat k13d x28 [⟨0, 257, 0, 1⟩]), (5, .dat k13d x29 [⟨0, 321, 0, 1⟩]), (9, .dat k13b x30 []), (10, .dat k13b x31 [])] []
def Zu31 (x23 x24 x25 : D13a) (x26 : Int) : St := mk [(0, .dat k13d x23 []), (4, .dat k13d x24 [⟨0, 257, 0, 1⟩]), (5, .dat k13d x25 [⟨0, 321, 0, 1⟩]), (9, .dat k13b x26 [])] []
def Zv31 (x20 x21 x22 : D13a) : St := mk [(0, .dat k13d x20 []), (4, .dat k13d x21 [⟨0, 257, 0, 1⟩]), (5, .dat k13d x22 [⟨0, 321, 0, 1⟩])] []
def Zw31 (x15 x16 x17 : D13a) (x18 x19 : Int) : St := mk [(0, .dat k13d x15 []), (4, .dat k13d x16 [⟨0, 257, 0, 1⟩]), (5, .dat k13d x17 [⟨0, 321, 0, 1⟩]), (6, .dat k13b x18 []), (7, .dat k13b x19 [])] []
def Zx31 (x10 x11 x12 : D13a) (x13 x14 : Int) : St := mk [(0, .dat k13d x10 []), (4, .dat k13d x11 [⟨0, 257, 0, 1⟩]), (5, .dat k13d x12 [⟨0, 321, 0, 1⟩]), (6, .dat k13b x13 []), (7, .dat k13b x14 [])] []
def Zy31 (x5 x6 x7 : D13a) (x8 x9 : Int) : St := mk [(0, .dat k13d x5 []), (4, .dat k13d x6 [⟨0, 257, 0, 1⟩]), (5, .dat k13d x7 [⟨0, 321, 0, 1⟩]), (6, .dat k13b x8 []), (7, .dat k13b x9 [])] []
def Zz31 (x1 x2 x3 : D13a) (x4 : Int) : St := mk [(0, .dat k13d x1 []), (4, .dat k13d x2 [⟨0, 257, 0, 1⟩]), (5, .dat k13d x3 [⟨0, 321, 0, 1⟩]), (6, .dat k13b x4 [])] []
def Za41 : Code := (rgt (rgt (rgt (rgt Zts))))
def Zei2 (m0 m1 : Nat) : K (ResD Zuf) := sqK Zhf m1 Za41 0 Zvx
def Zaf1 (m0 m1 : Nat) : K (ResD Zuf) := Zv 4 (Zei2 m0 m1)
def Ztn : Code := (lft (lft (rgt (lft (rgt (rgt (rgt Zts)))))))
def Zqo (m0 m1 n : Nat) : D13a → D13a → D13a → Int → Option D13n := fun x23 x24 x25 x26 => ej Zhf n (.loop Ztn) 4 (Zu31 x23 x24 x25 x26) (Zaf1 m0 m1)
def Zfi2 (m0 m1 m2 : Nat) : K (ResD Zuf) := lpK Zhf m2 Ztn 4 (Zaf1 m0 m1)
def Zb41 : Code := (rgt (rgt Ztn))
def Zgi2 (m0 m1 m2 : Nat) : K (ResD Zuf) := sqK Zhf m2 Zb41 4 (Zfi2 m0 m1 m2)
def Zhi2 (m0 m1 m2 : Nat) : K (ResD Zuf) := Zv 5 (Zgi2 m0 m1 m2)
def Zc41 : Code := (rgt (rgt (lft (lft (rgt Ztn)))))
def Zii2 (m0 m1 m2 : Nat) : K (ResD Zuf) := sqK Zhf m2 Zc41 5 (Zhi2 m0 m1 m2)
def Zji2 (m0 m1 m2 : Nat) : K (ResD Zuf) := Zv 6 (Zii2 m0 m1 m2)
def Zd41 : Code := (lft (lft (lft (rgt (lft (lft (rgt Ztn)))))))
def Zus (m0 m1 : Nat) (m2 n : Nat) : D13a → D13a → D13a → Int → Int → Option D13n := fun x27 x28 x29 x30 x31 => ej Zhf n (.loop Zd41) 6 (Zt31 x27 x28 x29 x30 x31) (Zji2 m0 m1 m2)
theorem Zsp1 (m0 m1 : Nat) (m2 n : Nat) : Zus m0 m1 m2 (n + 1) = Zh.S6 (Zqo m0 m1 m2) (Zus m0 m1 m2 n) := by kernel_rfl
theorem Zki2 (m0 m1 m2 : Nat) : ∀ n : Nat, Zus m0 m1 m2 n = Zh.l6 (Zqo m0 m1 m2) n :=
  ind rfl fun n e6 => (Zsp1 m0 m1 m2 n).trans (by rw [e6]; rfl)
theorem Ztp1 (m0 m1 n : Nat) : Zqo m0 m1 (n + 1) = Zh.S5 (Zus m0 m1 n n) := by kernel_rfl
theorem Zli2 (m0 m1 : Nat) : ∀ n : Nat, Zqo m0 m1 n = Zh.l5 n :=
  ind rfl fun n e5 => by
    have e6 : Zus m0 m1 n n = Zh.l6 (Zh.l5 n) n := by rw [← e5]; exact Zki2 m0 m1 n n
    rw [Ztp1 m0 m1 n, e6]; rfl
def Zp8 : Code := (rgt (rgt (rgt Zts)))
def Znm (m0 n : Nat) : D13a → D13a → D13a → Option D13n := fun x20 x21 x22 => ej Zhf n (.tail Zp8) 0 (Zv31 x20 x21 x22) Zvx
theorem Zup1 (m0 n : Nat) : Znm m0 (n + 1) = Zh.S4 (Zqo m0 n n) := by kernel_rfl
theorem Zmi2 (m0 : Nat) : ∀ n : Nat, Znm m0 n = Zh.t4 n :=
  ind rfl fun n e4 => by
    have e5 : Zqo m0 n n = Zh.l5 n := Zli2 m0 n n
    rw [Zup1 m0 n, e5]; rfl
def Zni2 (m0 : Nat) : K (ResD Zuf) := sqK Zhf m0 Zp8 0 Zvx
def Zbf1 (m0 : Nat) : K (ResD Zuf) := Zv 0 (Zni2 m0)
def Zal : Code := (lft (lft (rgt (lft (rgt (rgt Zts))))))
def Zjj (m0 n : Nat) : D13a → D13a → D13a → Int → Option D13n := fun x1 x2 x3 x4 => ej Zhf n (.loop Zal) 0 (Zz31 x1 x2 x3 x4) (Zbf1 m0)
def Ze41 (m0 m1 : Nat) : K (ResD Zuf) := lpK Zhf m1 Zal 0 (Zbf1 m0)
def Zf41 : Code := (rgt (rgt Zal))
def Zg41 (m0 m1 : Nat) : K (ResD Zuf) := sqK Zhf m1 Zf41 0 (Ze41 m0 m1)
def Zwx (m0 m1 : Nat) : K (ResD Zuf) := Zv 1 (Zg41 m0 m1)
def Zh41 : Code := (rgt (rgt (rgt (lft (lft (rgt Zal))))))
def Zh0 (m0 m1 n : Nat) : D13a → D13a → D13a → Int → Int → Option D13n := fun x15 x16 x17 x18 x19 => ej Zhf n (.tail Zh41) 1 (Zw31 x15 x16 x17 x18 x19) (Zwx m0 m1)
theorem Zvp1 (m0 m1 : Nat) (m2 n : Nat) : Zh0 m0 m1 (n + 1) = Zh.S3 (Zjj m0 m1) := by kernel_rfl
theorem Zoi2 (m0 m1 m2 : Nat) : ∀ n : Nat, Zh0 m0 m1 n = Zh.t3 (Zjj m0 m1) n :=
  ind rfl fun n _ => Zvp1 m0 m1 m2 n
def Zh5 : Code := (rgt (rgt (lft (lft (rgt Zal)))))
def Zvs (m0 m1 n : Nat) : D13a → D13a → D13a → Int → Int → Option D13n := fun x10 x11 x12 x13 x14 => ej Zhf n (.tail Zh5) 1 (Zx31 x10 x11 x12 x13 x14) (Zwx m0 m1)
theorem Zwp1 (m0 m1 n : Nat) : Zvs m0 m1 (n + 1) = Zh.S2 (Zjj m0 m1) (Zh0 m0 m1 n) := by kernel_rfl
theorem Zpi2 (m0 m1 : Nat) : ∀ n : Nat, Zvs m0 m1 n = Zh.t2 (Zjj m0 m1) n :=
  ind rfl fun n e2 => by
    have e3 : Zh0 m0 m1 n = Zh.t3 (Zjj m0 m1) n := Zoi2 m0 m1 n n
    rw [Zwp1 m0 m1 n, e3]; rfl
def Zi41 (m0 m1 : Nat) : K (ResD Zuf) := sqK Zhf m1 Zh5 1 (Zwx m0 m1)
def Zj41 (m0 m1 : Nat) : K (ResD Zuf) := Zv 2 (Zi41 m0 m1)
def Zxp1 : Code := (lft (lft (lft (rgt (lft (lft (rgt Zal)))))))
def Zws (m0 m1 n : Nat) : D13a → D13a → D13a → Int → Int → Option D13n := fun x5 x6 x7 x8 x9 => ej Zhf n (.loop Zxp1) 2 (Zy31 x5 x6 x7 x8 x9) (Zj41 m0 m1)
theorem Zyp1 (m0 m1 n : Nat) : Zws m0 m1 (n + 1) = Zh.S1 (Zvs m0 m1 m1) (Zws m0 m1 n) := by kernel_rfl
theorem Zqi2 (m0 m1 : Nat) : ∀ n : Nat, Zws m0 m1 n = Zh.l1 (Zvs m0 m1 m1) n :=
  ind rfl fun n e1 => (Zyp1 m0 m1 n).trans (by rw [e1]; rfl)
theorem Zzp1 (m0 n : Nat) : Zjj m0 (n + 1) = Zh.S0 (Znm m0 m0) (Zws m0 n n) := by kernel_rfl
theorem Zri2 (m0 : Nat) : ∀ n : Nat, Zjj m0 n = Zh.l0 (Znm m0 m0) n :=
  ind rfl fun n e0 => by
    have e2 : Zvs m0 n n = Zh.t2 (Zh.l0 (Znm m0 m0) n) n := by rw [← e0]; exact Zpi2 m0 n n
    have e1 : Zws m0 n n = Zh.l1 (Zh.t2 (Zh.l0 (Znm m0 m0) n) n) n := by rw [← e2]; exact Zqi2 m0 n n
    rw [Zzp1 m0 n, e1]; rfl
theorem Zcs2 (m0 : Nat) (x : ArgsD Zs31) : run Zhf Zts m0 x Zvx = Zh.S (Zjj m0 m0) x.1 := by kernel_rfl
abbrev Zdl1 : AM.Spec := AM.spec Zs31 Zuf (fun x => Zh x.1)
theorem Zh12 : Zg Tryz.prog 122 Zdl1 := ctrC tabOk (fn := Tryz.f122) (show ∀ x, run Zhf Zts fu x Zvx = _ from fun x => by
  have e4 : Znm fu fu = Zh.t4 fu := Zmi2 fu fu
  have e0 : Zjj fu fu = Zh.l0 (Zh.t4 fu) fu := by rw [← e4]; exact Zri2 fu fu
  refine (Zcs2 fu x).trans ?_
  rw [e0]; rfl) (Ze trivial)
abbrev Zk41 : Env := tab.env (AM.look [(83, Zgx), (48, Zjx)]) ⟨[], [], [], ⟨tt [2], []⟩, [], [48, 83], [], []⟩
def Zi12 : Code := bd Tryz.f123
abbrev Zcf1 : List (Ty × List Tag) := [(.str, [])]
abbrev Zj12 : List PK := [.val k13d]
abbrev Zk12 : K (ResD Zcf1) := fin Zk41 [.tmp 2] [] Zcf1
abbrev Zc7 : AM.Spec := AM.spec Zj12 Zcf1 (fun x => Zqi x.1)
theorem Zl41 : Zg Tryz.prog 123 Zc7 := ctrC tabOk (fn := Tryz.f123) (show ∀ x, run Zk41 Zi12 fu x Zk12 = _ from fun x => by kernel_rfl) (Ze ⟨⟨c_f83, Tryz.call83, fun _ => Zd rfl⟩, ⟨⟨c_f48, Tryz.call48, fun _ => Zd rfl⟩, trivial⟩⟩)
abbrev E_f89 : Env := tab.env (AM.look [(122, Zdl1), (92, Zss), (123, Zc7)]) ⟨[(0, ⟨tt [4, 5, 6, 7], []⟩)], [], [(11, ⟨tt [5, 6], []⟩)], ⟨tt [2, 3], []⟩, [], [92, 123], [], []⟩
def b_f89 : Code := bd Tryz.f89
abbrev R_f89 : List (Ty × List Tag) := [(.str, []), (k13b, [])]
abbrev P_f89 : List PK := [.val k13d]
abbrev K_f89 : K (ResD R_f89) := fin E_f89 [.tmp 2, .tmp 3] [] R_f89
def Zsi2 (x8 : D13a) (x9 : ByteArray) : St := mk [(5, .dat k13d x8 [⟨0, 321, 0, 1⟩]), (6, .dat .str x9 [])] []
def Zti2 (x3 x4 : D13a) (x5 : ByteArray) (x6 : Int) : St := mk [(4, .dat k13d x3 [⟨0, 257, 0, 1⟩]), (5, .dat k13d x4 [⟨0, 321, 0, 1⟩]), (6, .dat .str x5 []), (7, .dat k13b x6 [])] []
def Zdf1 : Code := (rgt (rgt (rgt (rgt (rgt (rgt b_f89))))))
def Zxx (m0 n : Nat) : D13a → ByteArray → Option D13g := fun x8 x9 => ej E_f89 n (.tail Zdf1) 0 (Zsi2 x8 x9) K_f89
theorem Zm41 (m0 n : Nat) : Zxx m0 (n + 1) = Zha.S1 := by kernel_rfl
theorem Zds2 (m0 : Nat) : ∀ n : Nat, Zxx m0 n = Zha.t1 n :=
  ind rfl fun n _ => Zm41 m0 n
def Zes2 (m0 : Nat) : K (ResD R_f89) := sqK E_f89 m0 Zdf1 0 K_f89
def Zfs2 (m0 : Nat) : K (ResD R_f89) := Zv 0 (Zes2 m0)
def Zui2 : Code := (lft (lft (rgt (lft (rgt (rgt (rgt (rgt (rgt b_f89)))))))))
def Zyx (m0 n : Nat) : D13a → D13a → ByteArray → Int → Option D13g := fun x3 x4 x5 x6 => ej E_f89 n (.loop Zui2) 0 (Zti2 x3 x4 x5 x6) (Zfs2 m0)
theorem Zn41 (m0 n : Nat) : Zyx m0 (n + 1) = Zha.S0 (Zxx m0 m0) (Zyx m0 n) := by kernel_rfl
theorem Zgs2 (m0 : Nat) : ∀ n : Nat, Zyx m0 n = Zha.l0 (Zxx m0 m0) n :=
  ind rfl fun n e0 => (Zn41 m0 n).trans (by rw [e0]; rfl)
theorem Zl12 (m0 : Nat) (x : ArgsD P_f89) : run E_f89 b_f89 m0 x K_f89 = Zha.S (Zyx m0 m0) x.1 := by kernel_rfl
abbrev Zo41 : AM.Spec := AM.spec P_f89 R_f89 (fun x => Zha x.1)
theorem c_f89 : Zg Tryz.prog 89 Zo41 := ctrC tabOk (fn := Tryz.f89) (show ∀ x, run E_f89 b_f89 fu x K_f89 = _ from fun x => by
  have e1 : Zxx fu fu = Zha.t1 fu := Zds2 fu fu
  have e0 : Zyx fu fu = Zha.l0 (Zha.t1 fu) fu := by rw [← e1]; exact Zgs2 fu fu
  refine (Zl12 fu x).trans ?_
  rw [e0]; rfl) (Ze ⟨⟨Zh12, Tryz.call122, nw⟩, ⟨⟨c_f92, Tryz.call92, fun _ => Zd rfl⟩, ⟨⟨Zl41, Tryz.call123, fun _ => Zd rfl⟩, trivial⟩⟩⟩)
abbrev E_f49 : Env := tab.env (AM.look [(85, Zj21), (87, Zse1), (86, Zwe1), (88, Zr31), (89, Zo41), (83, Zgx), (48, Zjx)]) ⟨[], [], [], ⟨tt [4, 5], []⟩, [], [48, 83, 85, 86, 88, 89], [], []⟩
def b_f49 : Code := bd Tryz.f49
abbrev R_f49 : List (Ty × List Tag) := [(.str, []), (.bool, [])]
abbrev P_f49 : List PK := [.val k13d, .val k13b]
abbrev K_f49 : K (ResD R_f49) := fin E_f49 [.tmp 4, .tmp 5] [] R_f49
abbrev Zp41 : AM.Spec := AM.spec P_f49 R_f49 (fun x => Znk x.1 x.2.1)
theorem c_f49 : Zg Tryz.prog 49 Zp41 := ctrC tabOk (fn := Tryz.f49) (show ∀ x, run E_f49 b_f49 fu x K_f49 = _ from fun x => by kernel_rfl) (Ze ⟨⟨c_f85, Tryz.call85, fun _ => Zd rfl⟩, ⟨⟨c_f87, Tryz.call87, nw⟩, ⟨⟨c_f86, Tryz.call86, fun _ => Zd rfl⟩, ⟨⟨c_f88, Tryz.call88, fun _ => Zd rfl⟩, ⟨⟨c_f89, Tryz.call89, fun _ => Zd rfl⟩, ⟨⟨c_f83, Tryz.call83, fun _ => Zd rfl⟩, ⟨⟨c_f48, Tryz.call48, fun _ => Zd rfl⟩, trivial⟩⟩⟩⟩⟩⟩⟩)
abbrev E_f52 : Env := tab.env (AM.look []) ⟨[(0, ⟨tt [0, 3, 4], []⟩)], [], [], ⟨tt [2], []⟩, [], [], [], []⟩
def b_f52 : Code := bd Tryz.f52
abbrev R_f52 : List (Ty × List Tag) := [(k13a, [⟨0, 1, 0, 1⟩])]
abbrev P_f52 : List PK := [.val k13h]
abbrev K_f52 : K (ResD R_f52) := fin E_f52 [.tmp 2] [] R_f52
def Zvi2 (x1 : D13u) (x2 : D13e) (x3 : Int) : St := mk [(0, .dat k13h x1 []), (3, .dat k13a x2 [⟨0, 193, 0, 1⟩]), (4, .dat k13b x3 [])] []
def Zwi2 : Code := (rgt (rgt (rgt b_f52)))
def Zhs2 (m0 : Nat) : K (ResD R_f52) := sqK E_f52 m0 Zwi2 0 K_f52
def Zis2 (m0 : Nat) : K (ResD R_f52) := Zv 0 (Zhs2 m0)
def Zxi2 : Code := (lft (lft (rgt (lft (rgt (rgt b_f52))))))
def Zi5 (m0 n : Nat) : D13u → D13e → Int → Option (D13e) := fun x1 x2 x3 => ej E_f52 n (.loop Zxi2) 0 (Zvi2 x1 x2 x3) (Zis2 m0)
theorem Zq41 (m0 n : Nat) : Zi5 m0 (n + 1) = Zsc.S0 (Zi5 m0 n) := by kernel_rfl
theorem Zjs2 (m0 : Nat) : ∀ n : Nat, Zi5 m0 n = Zsc.l0 n :=
  ind rfl fun n e0 => (Zq41 m0 n).trans (by rw [e0]; rfl)
theorem Zm12 (m0 : Nat) (x : ArgsD P_f52) : run E_f52 b_f52 m0 x K_f52 = Zsc.S (Zi5 m0 m0) x.1 := by kernel_rfl
abbrev Zr41 : AM.Spec := AM.spec P_f52 R_f52 (fun x => Zsc x.1)
theorem c_f52 : Zg Tryz.prog 52 Zr41 := ctrC tabOk (fn := Tryz.f52) (fun x => (Zm12 fu x).trans (by rw [Zjs2 fu fu]; rfl)) (Ze trivial)
abbrev E_f90 : Env := tab.env (AM.look []) ⟨[(0, ⟨tt [0, 4, 5], []⟩)], [], [], ⟨tt [2, 3], []⟩, [], [], [], []⟩
def b_f90 : Code := bd Tryz.f90
abbrev R_f90 : List (Ty × List Tag) := [(.str, []), (k13b, [])]
abbrev P_f90 : List PK := [.val k13a]
abbrev K_f90 : K (ResD R_f90) := fin E_f90 [.tmp 2, .tmp 3] [] R_f90
def Zyi2 (x1 : D13e) (x2 : D13a) (x3 : Int) : St := mk [(0, .dat k13a x1 []), (4, .dat k13c x2 [⟨0, 257, 0, 0⟩]), (5, .dat k13b x3 [])] []
def Zzi2 : Code := (rgt (rgt (rgt b_f90)))
def Zks2 (m0 : Nat) : K (ResD R_f90) := sqK E_f90 m0 Zzi2 0 K_f90
def Zls2 (m0 : Nat) : K (ResD R_f90) := Zv 0 (Zks2 m0)
def Zaj2 : Code := (lft (lft (rgt (lft (rgt (rgt b_f90))))))
def Zj5 (m0 n : Nat) : D13e → D13a → Int → Option D13g := fun x1 x2 x3 => ej E_f90 n (.loop Zaj2) 0 (Zyi2 x1 x2 x3) (Zls2 m0)
theorem Zs41 (m0 n : Nat) : Zj5 m0 (n + 1) = Zmb.S0 (Zj5 m0 n) := by kernel_rfl
theorem Zms2 (m0 : Nat) : ∀ n : Nat, Zj5 m0 n = Zmb.l0 n :=
  ind rfl fun n e0 => (Zs41 m0 n).trans (by rw [e0]; rfl)
theorem Zn12 (m0 : Nat) (x : ArgsD P_f90) : run E_f90 b_f90 m0 x K_f90 = Zmb.S (Zj5 m0 m0) x.1 := by kernel_rfl
abbrev Zef1 : AM.Spec := AM.spec P_f90 R_f90 (fun x => Zmb x.1)
theorem c_f90 : Zg Tryz.prog 90 Zef1 := ctrC tabOk (fn := Tryz.f90) (fun x => (Zn12 fu x).trans (by rw [Zms2 fu fu]; rfl)) (Ze trivial)
abbrev E_f91 : Env := tab.env (AM.look []) ⟨[(0, ⟨tt [0, 4, 5, 6], []⟩), (2, ⟨tt [0, 4, 5, 6, 7], []⟩), (4, ⟨tt [0, 4, 5, 9], []⟩), (6, ⟨tt [0, 4, 5, 9, 10], []⟩)], [], [(9, ⟨tt [0, 4, 5, 6, 7], []⟩), (10, ⟨tt [0, 4, 5, 6, 7], []⟩), (14, ⟨tt [0, 4, 5], []⟩)], ⟨tt [2, 3], []⟩, [], [], [], []⟩
def b_f91 : Code := bd Tryz.f91
abbrev R_f91 : List (Ty × List Tag) := [(k13a, [⟨0, 1, 0, 1⟩]), (k13d, [⟨0, 1, 0, 1⟩])]
abbrev P_f91 : List PK := [.val k13a]
abbrev K_f91 : K (ResD R_f91) := fin E_f91 [.tmp 2, .tmp 3] [] R_f91
def Zbj2 (x27 x28 : D13e) (x29 : D13a) (x30 x31 : Int) : St := mk [(0, .dat k13a x27 []), (4, .dat k13a x28 [⟨0, 257, 0, 1⟩]), (5, .dat k13d x29 [⟨0, 321, 0, 1⟩]), (9, .dat k13b x30 []), (10, .dat k13b x31 [])] []
def Zcj2 (x23 x24 : D13e) (x25 : D13a) (x26 : Int) : St := mk [(0, .dat k13a x23 []), (4, .dat k13a x24 [⟨0, 257, 0, 1⟩]), (5, .dat k13d x25 [⟨0, 321, 0, 1⟩]), (9, .dat k13b x26 [])] []
def Zdj2 (x20 x21 : D13e) (x22 : D13a) : St := mk [(0, .dat k13a x20 []), (4, .dat k13a x21 [⟨0, 257, 0, 1⟩]), (5, .dat k13d x22 [⟨0, 321, 0, 1⟩])] []
def Zej2 (x15 x16 : D13e) (x17 : D13a) (x18 x19 : Int) : St := mk [(0, .dat k13a x15 []), (4, .dat k13a x16 [⟨0, 257, 0, 1⟩]), (5, .dat k13d x17 [⟨0, 321, 0, 1⟩]), (6, .dat k13b x18 []), (7, .dat k13b x19 [])] []
def Zfj2 (x10 x11 : D13e) (x12 : D13a) (x13 x14 : Int) : St := mk [(0, .dat k13a x10 []), (4, .dat k13a x11 [⟨0, 257, 0, 1⟩]), (5, .dat k13d x12 [⟨0, 321, 0, 1⟩]), (6, .dat k13b x13 []), (7, .dat k13b x14 [])] []
def Zgj2 (x5 x6 : D13e) (x7 : D13a) (x8 x9 : Int) : St := mk [(0, .dat k13a x5 []), (4, .dat k13a x6 [⟨0, 257, 0, 1⟩]), (5, .dat k13d x7 [⟨0, 321, 0, 1⟩]), (6, .dat k13b x8 []), (7, .dat k13b x9 [])] []
def Zhj2 (x1 x2 : D13e) (x3 : D13a) (x4 : Int) : St := mk [(0, .dat k13a x1 []), (4, .dat k13a x2 [⟨0, 257, 0, 1⟩]), (5, .dat k13d x3 [⟨0, 321, 0, 1⟩]), (6, .dat k13b x4 [])] []
def Zij2 : Code := (rgt (rgt (rgt (rgt (rgt b_f91)))))
def Zns2 (m0 m1 : Nat) : K (ResD R_f91) := sqK E_f91 m1 Zij2 0 K_f91
def Zel1 (m0 m1 : Nat) : K (ResD R_f91) := Zv 4 (Zns2 m0 m1)
def Zcp : Code := (lft (lft (rgt (lft (rgt (rgt (rgt (rgt b_f91))))))))
def Zxs (m0 m1 n : Nat) : D13e → D13e → D13a → Int → Option D13r := fun x23 x24 x25 x26 => ej E_f91 n (.loop Zcp) 4 (Zcj2 x23 x24 x25 x26) (Zel1 m0 m1)
def Zos2 (m0 m1 m2 : Nat) : K (ResD R_f91) := lpK E_f91 m2 Zcp 4 (Zel1 m0 m1)
def Zjj2 : Code := (rgt (rgt Zcp))
def Zps2 (m0 m1 m2 : Nat) : K (ResD R_f91) := sqK E_f91 m2 Zjj2 4 (Zos2 m0 m1 m2)
def Zqs2 (m0 m1 m2 : Nat) : K (ResD R_f91) := Zv 5 (Zps2 m0 m1 m2)
def Zkj2 : Code := (rgt (rgt (lft (lft (rgt Zcp)))))
def Zrs2 (m0 m1 m2 : Nat) : K (ResD R_f91) := sqK E_f91 m2 Zkj2 5 (Zqs2 m0 m1 m2)
def Zss2 (m0 m1 m2 : Nat) : K (ResD R_f91) := Zv 6 (Zrs2 m0 m1 m2)
def Zlj2 : Code := (lft (lft (lft (rgt (lft (lft (rgt Zcp)))))))
def Zzx (m0 m1 : Nat) (m2 n : Nat) : D13e → D13e → D13a → Int → Int → Option D13r := fun x27 x28 x29 x30 x31 => ej E_f91 n (.loop Zlj2) 6 (Zbj2 x27 x28 x29 x30 x31) (Zss2 m0 m1 m2)
theorem Zt41 (m0 m1 : Nat) (m2 n : Nat) : Zzx m0 m1 m2 (n + 1) = Zf.S6 (Zxs m0 m1 m2) (Zzx m0 m1 m2 n) := by kernel_rfl
theorem Zts2 (m0 m1 m2 : Nat) : ∀ n : Nat, Zzx m0 m1 m2 n = Zf.l6 (Zxs m0 m1 m2) n :=
  ind rfl fun n e6 => (Zt41 m0 m1 m2 n).trans (by rw [e6]; rfl)
theorem Zu41 (m0 m1 n : Nat) : Zxs m0 m1 (n + 1) = Zf.S5 (Zzx m0 m1 n n) := by kernel_rfl
theorem Zus2 (m0 m1 : Nat) : ∀ n : Nat, Zxs m0 m1 n = Zf.l5 n :=
  ind rfl fun n e5 => by
    have e6 : Zzx m0 m1 n n = Zf.l6 (Zf.l5 n) n := by rw [← e5]; exact Zts2 m0 m1 n n
    rw [Zu41 m0 m1 n, e6]; rfl
def Zff1 : Code := (rgt (rgt (rgt (rgt b_f91))))
def Zdp (m0 n : Nat) : D13e → D13e → D13a → Option D13r := fun x20 x21 x22 => ej E_f91 n (.tail Zff1) 0 (Zdj2 x20 x21 x22) K_f91
theorem Zv41 (m0 n : Nat) : Zdp m0 (n + 1) = Zf.S4 (Zxs m0 n n) := by kernel_rfl
theorem Zvs2 (m0 : Nat) : ∀ n : Nat, Zdp m0 n = Zf.t4 n :=
  ind rfl fun n e4 => by
    have e5 : Zxs m0 n n = Zf.l5 n := Zus2 m0 n n
    rw [Zv41 m0 n, e5]; rfl
def Zws2 (m0 : Nat) : K (ResD R_f91) := sqK E_f91 m0 Zff1 0 K_f91
def Zfl1 (m0 : Nat) : K (ResD R_f91) := Zv 0 (Zws2 m0)
def Zom : Code := (lft (lft (rgt (lft (rgt (rgt (rgt b_f91)))))))
def Zzl (m0 n : Nat) : D13e → D13e → D13a → Int → Option D13r := fun x1 x2 x3 x4 => ej E_f91 n (.loop Zom) 0 (Zhj2 x1 x2 x3 x4) (Zfl1 m0)
def Zmj2 (m0 m1 : Nat) : K (ResD R_f91) := lpK E_f91 m1 Zom 0 (Zfl1 m0)
def Znj2 : Code := (rgt (rgt Zom))
def Zoj2 (m0 m1 : Nat) : K (ResD R_f91) := sqK E_f91 m1 Znj2 0 (Zmj2 m0 m1)
def Zi2 (m0 m1 : Nat) : K (ResD R_f91) := Zv 1 (Zoj2 m0 m1)
def Zpj2 : Code := (rgt (rgt (rgt (lft (lft (rgt Zom))))))
def Zk5 (m0 m1 n : Nat) : D13e → D13e → D13a → Int → Int → Option D13r := fun x15 x16 x17 x18 x19 => ej E_f91 n (.tail Zpj2) 1 (Zej2 x15 x16 x17 x18 x19) (Zi2 m0 m1)
theorem Zw41 (m0 m1 : Nat) (m2 n : Nat) : Zk5 m0 m1 (n + 1) = Zf.S3 (Zzl m0 m1) := by kernel_rfl
theorem Zxs2 (m0 m1 m2 : Nat) : ∀ n : Nat, Zk5 m0 m1 n = Zf.t3 (Zzl m0 m1) n :=
  ind rfl fun n _ => Zw41 m0 m1 m2 n
def Zq8 : Code := (rgt (rgt (lft (lft (rgt Zom)))))
def Zay (m0 m1 n : Nat) : D13e → D13e → D13a → Int → Int → Option D13r := fun x10 x11 x12 x13 x14 => ej E_f91 n (.tail Zq8) 1 (Zfj2 x10 x11 x12 x13 x14) (Zi2 m0 m1)
theorem Zx41 (m0 m1 n : Nat) : Zay m0 m1 (n + 1) = Zf.S2 (Zzl m0 m1) (Zk5 m0 m1 n) := by kernel_rfl
theorem Zys2 (m0 m1 : Nat) : ∀ n : Nat, Zay m0 m1 n = Zf.t2 (Zzl m0 m1) n :=
  ind rfl fun n e2 => by
    have e3 : Zk5 m0 m1 n = Zf.t3 (Zzl m0 m1) n := Zxs2 m0 m1 n n
    rw [Zx41 m0 m1 n, e3]; rfl
def Zqj2 (m0 m1 : Nat) : K (ResD R_f91) := sqK E_f91 m1 Zq8 1 (Zi2 m0 m1)
def Zrj2 (m0 m1 : Nat) : K (ResD R_f91) := Zv 2 (Zqj2 m0 m1)
def Zy41 : Code := (lft (lft (lft (rgt (lft (lft (rgt Zom)))))))
def Zby (m0 m1 n : Nat) : D13e → D13e → D13a → Int → Int → Option D13r := fun x5 x6 x7 x8 x9 => ej E_f91 n (.loop Zy41) 2 (Zgj2 x5 x6 x7 x8 x9) (Zrj2 m0 m1)
theorem Zz41 (m0 m1 n : Nat) : Zby m0 m1 (n + 1) = Zf.S1 (Zay m0 m1 m1) (Zby m0 m1 n) := by kernel_rfl
theorem Zzs2 (m0 m1 : Nat) : ∀ n : Nat, Zby m0 m1 n = Zf.l1 (Zay m0 m1 m1) n :=
  ind rfl fun n e1 => (Zz41 m0 m1 n).trans (by rw [e1]; rfl)
theorem Za51 (m0 n : Nat) : Zzl m0 (n + 1) = Zf.S0 (Zdp m0 m0) (Zby m0 n n) := by kernel_rfl
theorem Zat2 (m0 : Nat) : ∀ n : Nat, Zzl m0 n = Zf.l0 (Zdp m0 m0) n :=
  ind rfl fun n e0 => by
    have e2 : Zay m0 n n = Zf.t2 (Zf.l0 (Zdp m0 m0) n) n := by rw [← e0]; exact Zys2 m0 n n
    have e1 : Zby m0 n n = Zf.l1 (Zf.t2 (Zf.l0 (Zdp m0 m0) n) n) n := by rw [← e2]; exact Zzs2 m0 n n
    rw [Za51 m0 n, e1]; rfl
theorem Zo12 (m0 : Nat) (x : ArgsD P_f91) : run E_f91 b_f91 m0 x K_f91 = Zf.S (Zzl m0 m0) x.1 := by kernel_rfl
abbrev Zgf1 : AM.Spec := AM.spec P_f91 R_f91 (fun x => Zf x.1)
theorem c_f91 : Zg Tryz.prog 91 Zgf1 := ctrC tabOk (fn := Tryz.f91) (show ∀ x, run E_f91 b_f91 fu x K_f91 = _ from fun x => by
  have e4 : Zdp fu fu = Zf.t4 fu := Zvs2 fu fu
  have e0 : Zzl fu fu = Zf.l0 (Zf.t4 fu) fu := by rw [← e4]; exact Zat2 fu fu
  refine (Zo12 fu x).trans ?_
  rw [e0]; rfl) (Ze trivial)
abbrev E_f93 : Env := tab.env (AM.look [(91, Zgf1), (90, Zef1), (92, Zss), (123, Zc7)]) ⟨[], [], [], ⟨tt [2, 3], []⟩, [], [90, 92, 123], [], []⟩
def b_f93 : Code := bd Tryz.f93
abbrev R_f93 : List (Ty × List Tag) := [(.str, []), (k13b, [])]
abbrev P_f93 : List PK := [.val k13a]
abbrev K_f93 : K (ResD R_f93) := fin E_f93 [.tmp 2, .tmp 3] [] R_f93
abbrev Zb51 : AM.Spec := AM.spec P_f93 R_f93 (fun x => Zij x.1)
theorem c_f93 : Zg Tryz.prog 93 Zb51 := ctrC tabOk (fn := Tryz.f93) (show ∀ x, run E_f93 b_f93 fu x K_f93 = _ from fun x => by kernel_rfl) (Ze ⟨⟨c_f91, Tryz.call91, nw⟩, ⟨⟨c_f90, Tryz.call90, fun _ => Zd rfl⟩, ⟨⟨c_f92, Tryz.call92, fun _ => Zd rfl⟩, ⟨⟨Zl41, Tryz.call123, fun _ => Zd rfl⟩, trivial⟩⟩⟩⟩)
abbrev E_f51 : Env := tab.env (AM.look [(90, Zef1), (91, Zgf1), (87, Zse1), (86, Zwe1), (92, Zss), (93, Zb51)]) ⟨[], [], [], ⟨tt [4, 5], []⟩, [], [86, 90, 92, 93], [], []⟩
def b_f51 : Code := bd Tryz.f51
abbrev R_f51 : List (Ty × List Tag) := [(.str, []), (.bool, [])]
abbrev P_f51 : List PK := [.val k13a, .val k13b]
abbrev K_f51 : K (ResD R_f51) := fin E_f51 [.tmp 4, .tmp 5] [] R_f51
abbrev Zc51 : AM.Spec := AM.spec P_f51 R_f51 (fun x => Zvm x.1 x.2.1)
theorem c_f51 : Zg Tryz.prog 51 Zc51 := ctrC tabOk (fn := Tryz.f51) (show ∀ x, run E_f51 b_f51 fu x K_f51 = _ from fun x => by kernel_rfl) (Ze ⟨⟨c_f90, Tryz.call90, fun _ => Zd rfl⟩, ⟨⟨c_f91, Tryz.call91, nw⟩, ⟨⟨c_f87, Tryz.call87, nw⟩, ⟨⟨c_f86, Tryz.call86, fun _ => Zd rfl⟩, ⟨⟨c_f92, Tryz.call92, fun _ => Zd rfl⟩, ⟨⟨c_f93, Tryz.call93, fun _ => Zd rfl⟩, trivial⟩⟩⟩⟩⟩⟩)
abbrev E_f28 : Env := tab.env (AM.look [(50, Zg21), (49, Zp41), (52, Zr41), (51, Zc51)]) ⟨[], [], [], ⟨tt [6, 7], []⟩, [], [49, 51], [], []⟩
def b_f28 : Code := bd Tryz.f28
abbrev R_f28 : List (Ty × List Tag) := [(.str, []), (.bool, [])]
abbrev P_f28 : List PK := [.val k13h, .val k13b, .val k13b]
abbrev K_f28 : K (ResD R_f28) := fin E_f28 [.tmp 6, .tmp 7] [] R_f28
abbrev Zd51 : AM.Spec := AM.spec P_f28 R_f28 (fun x => Zul x.1 x.2.1 x.2.2.1)
theorem c_f28 : Zg Tryz.prog 28 Zd51 := ctrC tabOk (fn := Tryz.f28) (show ∀ x, run E_f28 b_f28 fu x K_f28 = _ from fun x => by kernel_rfl) (Ze ⟨⟨c_f50, Tryz.call50, nw⟩, ⟨⟨c_f49, Tryz.call49, fun _ => Zd rfl⟩, ⟨⟨c_f52, Tryz.call52, nw⟩, ⟨⟨c_f51, Tryz.call51, fun _ => Zd rfl⟩, trivial⟩⟩⟩⟩)
abbrev E_f94 : Env := tab.env (AM.look []) ⟨[(0, ⟨tt [1, 5, 6], []⟩), (2, ⟨tt [1, 5, 6, 7], []⟩)], [], [], ⟨tt [4], []⟩, [], [], [], []⟩
def b_f94 : Code := bd Tryz.f94
abbrev R_f94 : List (Ty × List Tag) := [(k13b, [])]
abbrev P_f94 : List PK := [.val k13b, .val .str]
abbrev K_f94 : K (ResD R_f94) := fin E_f94 [.tmp 4] [] R_f94
def Zsj2 (x4 : ByteArray) (x5 x6 x7 : Int) : St := mk [(1, .dat .str x4 []), (5, .dat k13b x5 []), (6, .dat k13b x6 []), (7, .dat k13b x7 [])] []
def Ztj2 (x1 : ByteArray) (x2 x3 : Int) : St := mk [(1, .dat .str x1 []), (5, .dat k13b x2 []), (6, .dat k13b x3 [])] []
def Zuj2 : Code := (rgt (rgt (rgt b_f94)))
def Zbt2 (m0 : Nat) : K (ResD R_f94) := sqK E_f94 m0 Zuj2 0 K_f94
def Zgl1 (m0 : Nat) : K (ResD R_f94) := Zv 0 (Zbt2 m0)
def Zrt : Code := (lft (lft (rgt (lft (rgt (rgt b_f94))))))
def Zcy (m0 n : Nat) : ByteArray → Int → Int → Option Int := fun x1 x2 x3 => ej E_f94 n (.loop Zrt) 0 (Ztj2 x1 x2 x3) (Zgl1 m0)
def Zct2 (m0 m1 : Nat) : K (ResD R_f94) := lpK E_f94 m1 Zrt 0 (Zgl1 m0)
def Zvj2 : Code := (rgt (rgt Zrt))
def Zdt2 (m0 m1 : Nat) : K (ResD R_f94) := sqK E_f94 m1 Zvj2 0 (Zct2 m0 m1)
def Zet2 (m0 m1 : Nat) : K (ResD R_f94) := Zv 1 (Zdt2 m0 m1)
def Zft2 (m0 m1 : Nat) : K (ResD R_f94) := Zv 2 (Zet2 m0 m1)
def Zwj2 : Code := (lft (lft (rgt (lft (lft (rgt Zrt))))))
def Zdy (m0 m1 n : Nat) : ByteArray → Int → Int → Int → Option Int := fun x4 x5 x6 x7 => ej E_f94 n (.loop Zwj2) 2 (Zsj2 x4 x5 x6 x7) (Zft2 m0 m1)
theorem Ze51 (m0 m1 n : Nat) : Zdy m0 m1 (n + 1) = Zra.S1 (Zcy m0 m1) (Zdy m0 m1 n) := by kernel_rfl
theorem Zgt2 (m0 m1 : Nat) : ∀ n : Nat, Zdy m0 m1 n = Zra.l1 (Zcy m0 m1) n :=
  ind rfl fun n e1 => (Ze51 m0 m1 n).trans (by rw [e1]; rfl)
theorem Zf51 (m0 n : Nat) : Zcy m0 (n + 1) = Zra.S0 (Zdy m0 n n) := by kernel_rfl
theorem Zht2 (m0 : Nat) : ∀ n : Nat, Zcy m0 n = Zra.l0 n :=
  ind rfl fun n e0 => by
    have e1 : Zdy m0 n n = Zra.l1 (Zra.l0 n) n := by rw [← e0]; exact Zgt2 m0 n n
    rw [Zf51 m0 n, e1]; rfl
theorem Zp12 (m0 : Nat) (x : ArgsD P_f94) : run E_f94 b_f94 m0 x K_f94 = Zra.S (Zcy m0 m0) x.1 x.2.1 := by kernel_rfl
abbrev Zg51 : AM.Spec := AM.spec P_f94 R_f94 (fun x => Zra x.1 x.2.1)
theorem c_f94 : Zg Tryz.prog 94 Zg51 := ctrC tabOk (fn := Tryz.f94) (fun x => (Zp12 fu x).trans (by rw [Zht2 fu fu]; rfl)) (Ze trivial)
abbrev E_f53 : Env := tab.env (AM.look [(94, Zg51)]) ⟨[], [], [], ⟨tt [2], []⟩, [], [94], [], []⟩
def b_f53 : Code := bd Tryz.f53
abbrev R_f53 : List (Ty × List Tag) := [(k13b, [])]
abbrev P_f53 : List PK := [.val .str]
abbrev K_f53 : K (ResD R_f53) := fin E_f53 [.tmp 2] [] R_f53
abbrev Zh51 : AM.Spec := AM.spec P_f53 R_f53 (fun x => Zxp x.1)
theorem c_f53 : Zg Tryz.prog 53 Zh51 := ctrC tabOk (fn := Tryz.f53) (show ∀ x, run E_f53 b_f53 fu x K_f53 = _ from fun x => by kernel_rfl) (Ze ⟨⟨c_f94, Tryz.call94, fun _ => Zd rfl⟩, trivial⟩)
abbrev E_f29 : Env := tab.env (AM.look [(53, Zh51)]) ⟨[], [], [], ⟨tt [2], []⟩, [], [53], [], []⟩
def b_f29 : Code := bd Tryz.f29
abbrev R_f29 : List (Ty × List Tag) := [(.str, [])]
abbrev P_f29 : List PK := [.val .str]
abbrev K_f29 : K (ResD R_f29) := fin E_f29 [.tmp 2] [] R_f29
abbrev Zi51 : AM.Spec := AM.spec P_f29 R_f29 (fun x => Zvl x.1)
theorem c_f29 : Zg Tryz.prog 29 Zi51 := ctrC tabOk (fn := Tryz.f29) (show ∀ x, run E_f29 b_f29 fu x K_f29 = _ from fun x => by kernel_rfl) (Ze ⟨⟨c_f53, Tryz.call53, fun _ => Zd rfl⟩, trivial⟩)
abbrev E_f11 : Env := tab.env (AM.look [(22, Zne1), (27, Ze21), (28, Zd51), (29, Zi51)]) ⟨[], [], [], ⟨tt [6, 7], []⟩, [], [22, 28, 29], [], []⟩
def b_f11 : Code := bd Tryz.f11
abbrev R_f11 : List (Ty × List Tag) := [(.str, []), (k13b, [])]
abbrev P_f11 : List PK := [.val k13h, .val k13b, .val k13b]
abbrev K_f11 : K (ResD R_f11) := fin E_f11 [.tmp 6, .tmp 7] [] R_f11
abbrev Zj51 : AM.Spec := AM.spec P_f11 R_f11 (fun x => Zkg x.1 x.2.1 x.2.2.1)
theorem c_f11 : Zg Tryz.prog 11 Zj51 := ctrC tabOk (fn := Tryz.f11) (show ∀ x, run E_f11 b_f11 fu x K_f11 = _ from fun x => by kernel_rfl) (Ze ⟨⟨c_f22, Tryz.call22, fun _ => Zd rfl⟩, ⟨⟨c_f27, Tryz.call27, nw⟩, ⟨⟨c_f28, Tryz.call28, fun _ => Zd rfl⟩, ⟨⟨c_f29, Tryz.call29, fun _ => Zd rfl⟩, trivial⟩⟩⟩⟩)
abbrev E_f20 : Env := tab.env (AM.look [(10, Zjw)]) ⟨[(0, ⟨tt [0, 1, 7, 8, 9], []⟩)], [], [(8, ⟨tt [7, 8], []⟩)], ⟨tt [4, 5, 6], []⟩, [], [10], [], []⟩
def b_f20 : Code := bd Tryz.f20
abbrev R_f20 : List (Ty × List Tag) := [(.str, []), (k13b, []), (k13b, [])]
abbrev P_f20 : List PK := [.val k13h, .val k13b]
abbrev K_f20 : K (ResD R_f20) := fin E_f20 [.tmp 4, .tmp 5, .tmp 6] [] R_f20
def Zxj2 (x7 : ByteArray) (x8 : Int) : St := mk [(7, .dat .str x7 []), (8, .dat k13b x8 [])] []
def Zyj2 (x1 : D13u) (x2 : Int) (x3 : ByteArray) (x4 x5 : Int) : St := mk [(0, .dat k13h x1 []), (1, .dat k13b x2 []), (7, .dat .str x3 []), (8, .dat k13b x4 []), (9, .dat k13b x5 [])] []
def Zhf1 : Code := (rgt (rgt (rgt b_f20)))
def Zey (m0 n : Nat) : ByteArray → Int → Option D13k := fun x7 x8 => ej E_f20 n (.tail Zhf1) 0 (Zxj2 x7 x8) K_f20
theorem Zk51 (m0 n : Nat) : Zey m0 (n + 1) = Zia.S1 := by kernel_rfl
theorem Zit2 (m0 : Nat) : ∀ n : Nat, Zey m0 n = Zia.t1 n :=
  ind rfl fun n _ => Zk51 m0 n
def Zjt2 (m0 : Nat) : K (ResD R_f20) := sqK E_f20 m0 Zhf1 0 K_f20
def Zkt2 (m0 : Nat) : K (ResD R_f20) := Zv 0 (Zjt2 m0)
def Zzj2 : Code := (lft (lft (rgt (lft (rgt (rgt b_f20))))))
def Zfy (m0 n : Nat) : D13u → Int → ByteArray → Int → Int → Option D13k := fun x1 x2 x3 x4 x5 => ej E_f20 n (.loop Zzj2) 0 (Zyj2 x1 x2 x3 x4 x5) (Zkt2 m0)
theorem Zl51 (m0 n : Nat) : Zfy m0 (n + 1) = Zia.S0 (Zey m0 m0) (Zfy m0 n) := by kernel_rfl
theorem Zlt2 (m0 : Nat) : ∀ n : Nat, Zfy m0 n = Zia.l0 (Zey m0 m0) n :=
  ind rfl fun n e0 => (Zl51 m0 n).trans (by rw [e0]; rfl)
theorem Zq12 (m0 : Nat) (x : ArgsD P_f20) : run E_f20 b_f20 m0 x K_f20 = Zia.S (Zfy m0 m0) x.1 x.2.1 := by kernel_rfl
abbrev Zm51 : AM.Spec := AM.spec P_f20 R_f20 (fun x => Zia x.1 x.2.1)
theorem c_f20 : Zg Tryz.prog 20 Zm51 := ctrC tabOk (fn := Tryz.f20) (show ∀ x, run E_f20 b_f20 fu x K_f20 = _ from fun x => by
  have e1 : Zey fu fu = Zia.t1 fu := Zit2 fu fu
  have e0 : Zfy fu fu = Zia.l0 (Zia.t1 fu) fu := by rw [← e1]; exact Zlt2 fu fu
  refine (Zq12 fu x).trans ?_
  rw [e0]; rfl) (Ze ⟨⟨c_f10, Tryz.call10, fun _ => Zd rfl⟩, trivial⟩)
abbrev E_f21 : Env := tab.env (AM.look [(22, Zne1), (11, Zj51)]) ⟨[(0, ⟨tt [0, 1, 7, 8, 9], []⟩)], [], [], ⟨tt [4, 5, 6], []⟩, [], [11, 22], [], []⟩
def b_f21 : Code := bd Tryz.f21
abbrev R_f21 : List (Ty × List Tag) := [(.str, []), (k13b, []), (k13b, [])]
abbrev P_f21 : List PK := [.val k13h, .val k13b]
abbrev K_f21 : K (ResD R_f21) := fin E_f21 [.tmp 4, .tmp 5, .tmp 6] [] R_f21
def Zak2 (x2 : D13u) (x3 : Int) (x4 : ByteArray) (x5 x6 : Int) : St := mk [(0, .dat k13h x2 []), (1, .dat k13b x3 []), (7, .dat .str x4 []), (8, .dat k13b x5 []), (9, .dat k13b x6 [])] []
def Zbk2 : Code := (rgt (rgt (rgt (rgt b_f21))))
def Zmt2 (m0 : Nat) : K (ResD R_f21) := sqK E_f21 m0 Zbk2 0 K_f21
def Znt2 (m0 : Nat) : K (ResD R_f21) := Zv 0 (Zmt2 m0)
def Zck2 : Code := (lft (lft (rgt (lft (rgt (rgt (rgt b_f21)))))))
def Zl5 (m0 n : Nat) : D13u → Int → ByteArray → Int → Int → Option D13k := fun x2 x3 x4 x5 x6 => ej E_f21 n (.loop Zck2) 0 (Zak2 x2 x3 x4 x5 x6) (Znt2 m0)
theorem Zn51 (m0 n : Nat) : Zl5 m0 (n + 1) = Zob.S0 (Zl5 m0 n) := by kernel_rfl
theorem Zot2 (m0 : Nat) : ∀ n : Nat, Zl5 m0 n = Zob.l0 n :=
  ind rfl fun n e0 => (Zn51 m0 n).trans (by rw [e0]; rfl)
theorem Zr12 (m0 : Nat) (x : ArgsD P_f21) : run E_f21 b_f21 m0 x K_f21 = Zob.S (Zl5 m0 m0) x.1 x.2.1 := by kernel_rfl
abbrev Zo51 : AM.Spec := AM.spec P_f21 R_f21 (fun x => Zob x.1 x.2.1)
theorem c_f21 : Zg Tryz.prog 21 Zo51 := ctrC tabOk (fn := Tryz.f21) (fun x => (Zr12 fu x).trans (by rw [Zot2 fu fu]; rfl)) (Ze ⟨⟨c_f22, Tryz.call22, fun _ => Zd rfl⟩, ⟨⟨c_f11, Tryz.call11, fun _ => Zd rfl⟩, trivial⟩⟩)
abbrev E_f6 : Env := tab.env (AM.look [(8, sp_f8), (9, sp_f9), (20, Zm51), (21, Zo51), (10, Zjw), (12, Zke1), (13, Zle1)]) ⟨[], [], [], ⟨tt [4], []⟩, [], [8, 9, 10, 13, 20, 21], [], []⟩
def b_f6 : Code := bd Tryz.f6
abbrev R_f6 : List (Ty × List Tag) := [(.bool, [])]
abbrev P_f6 : List PK := [.val k13h, .val k13b]
abbrev K_f6 : K (ResD R_f6) := fin E_f6 [.tmp 4] [] R_f6
abbrev Zgy : AM.Spec := AM.spec P_f6 R_f6 (fun x => Zwl x.1 x.2.1)
theorem Zp0 : Zg Tryz.prog 6 Zgy := ctrC tabOk (fn := Tryz.f6) (show ∀ x, run E_f6 b_f6 fu x K_f6 = _ from fun x => by kernel_rfl) (Ze ⟨⟨c_f8, Tryz.call8, fun _ => Zd rfl⟩, ⟨⟨c_f9, Tryz.call9, fun _ => Zd rfl⟩, ⟨⟨c_f20, Tryz.call20, fun _ => Zd rfl⟩, ⟨⟨c_f21, Tryz.call21, fun _ => Zd rfl⟩, ⟨⟨c_f10, Tryz.call10, fun _ => Zd rfl⟩, ⟨⟨c_f12, Tryz.call12, nw⟩, ⟨⟨c_f13, Tryz.call13, fun _ => Zd rfl⟩, trivial⟩⟩⟩⟩⟩⟩⟩)
end
end Go.Proofs.YtlamhllcnbcbbaaGreat.Am
