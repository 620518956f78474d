import Derived.Test.YtlamhllcnbcbbaaGreatAmPure13
import Derived.Test.YtlamhllcnbcbbaaGreatSPrim
/- PRINTED by gen/ of this repo: the code comes to the pure functions. -/
namespace Go.Proofs.YtlamhllcnbcbbaaGreat.Am
open Go.AM Go.AM.Pure
set_option linter.unusedVariables false
set_option maxRecDepth 100000
noncomputable section
abbrev k13a:Ty:= .sl .str
abbrev k13b:Ty:= .int .i64
abbrev k13c:Ty:= .sl k13b
abbrev k13d:Ty:= .pair k13b .str
abbrev k13e:Ty:= .pair k13b k13b
abbrev k13f:Ty:= .pair k13b k13d
abbrev k13g:Ty:= .sl k13f
abbrev k13h:Ty:= .pair k13b k13e
abbrev k13i:Ty:= .sl k13h
abbrev k13j:Ty:= .pair k13b k13h
abbrev E_f14:Env:=tab.env (AM.look []) ⟨[],[],[],⟨tt [2],tt [2]⟩,[],[],[],[]⟩
def b_f14:Code:=bd Tryz.f14
abbrev R_f14:List (Ty×List Tag):=[(k13f,[])]
abbrev P_f14:List PK:=[.val k13b]
abbrev K_f14:K (ResD R_f14):=fin E_f14 [.cell 2 34] [] R_f14
abbrev Zs11:AM.Spec:=AM.spec P_f14 R_f14 (fun x=>some (Zxp x.1))
theorem c_f14:Zi Tryz.prog 14 Zs11:=ctrC tabOk (fn:=Tryz.f14) (show ∀ x,run E_f14 b_f14 fu x K_f14=_ from fun x=>by kernel_rfl) (Ze trivial)
abbrev E_f39:Env:=tab.env (AM.look []) ⟨[],[],[],⟨tt [2],[]⟩,[],[],[],[]⟩
def b_f39:Code:=bd Tryz.f39
abbrev R_f39:List (Ty×List Tag):=[(k13b,[])]
abbrev P_f39:List PK:=[.val k13f]
abbrev K_f39:K (ResD R_f39):=fin E_f39 [.tmp 2] [] R_f39
theorem Znk2 (m0:Nat) (x:ArgsD P_f39):run E_f39 b_f39 m0 x K_f39=Zkh.o x.1:=by kernel_rfl
theorem Zqc3 (m0:Nat) (x:ArgsD P_f39):run E_f39 b_f39 m0 x K_f39=some (Zkh x.1):=(Znk2 m0 x).trans (by unfold Zkh.o Zkh;simp only [Zfl])
abbrev Zt11:AM.Spec:=AM.spec P_f39 R_f39 (fun x=>some (Zkh x.1))
theorem c_f39:Zi Tryz.prog 39 Zt11:=ctrC tabOk (fn:=Tryz.f39) (fun x=>Zqc3 fu x) (Ze trivial)
abbrev E_f38:Env:=tab.env (AM.look [(39,Zt11)]) ⟨[],[],[],⟨tt [3],[]⟩,[],[39],[],[]⟩
def b_f38:Code:=bd Tryz.f38
abbrev R_f38:List (Ty×List Tag):=[(.bool,[])]
abbrev P_f38:List PK:=[.val k13f, .ref k13b]
abbrev K_f38:K (ResD R_f38):=fin E_f38 [.tmp 3] [] R_f38
theorem Zok2 (m0:Nat) (x:ArgsD P_f38):run E_f38 b_f38 m0 x K_f38=Zze.o x.1 x.2.1:=by kernel_rfl
theorem Zrc3 (m0:Nat) (x:ArgsD P_f38):run E_f38 b_f38 m0 x K_f38=some (Zze x.1 x.2.1):=(Zok2 m0 x).trans (by unfold Zze.o Zze;simp only [Zfl])
abbrev Zu11:AM.Spec:=AM.spec P_f38 R_f38 (fun x=>some (Zze x.1 x.2.1))
theorem c_f38:Zi Tryz.prog 38 Zu11:=ctrC tabOk (fn:=Tryz.f38) (fun x=>Zrc3 fu x) (Ze ⟨⟨c_f39,Tryz.call39,fun _=>Zd rfl⟩,trivial⟩)
abbrev Zr8:Env:=tab.env (AM.look [(38,Zu11)]) ⟨[(0,⟨tt [0,1,7,8],[]⟩)],[],[],⟨tt [4],[]⟩,[],[38],[],[]⟩
def Zci1:Code:=bd Tryz.f69
abbrev Ziz:List (Ty×List Tag):=[(k13b,[])]
abbrev Zv11:List PK:=[.val k13g, .fn 38 [k13b]]
abbrev Zw11:K (ResD Ziz):=fin Zr8 [.tmp 4] [] Ziz
def Zx11 (x1:D13u) (x2 x3 x4:Int):St:=mk [(0, .dat k13g x1 []),(1, .fn 38 [⟨k13b,x2,[]⟩]),(7, .dat k13b x3 []),(8, .dat k13b x4 [])] []
def Zy11:Code:=(rgt (rgt Zci1))
def Zpk2 (m0:Nat):K (ResD Ziz):=sqK Zr8 m0 Zy11 0 Zw11
def Zqk2 (m0:Nat):K (ResD Ziz):=Zaa 0 (Zpk2 m0)
def Zz11:Code:=(lft (lft (rgt (lft (rgt Zci1)))))
def Zh4 (m0 n:Nat):D13u→Int→Int→Int→Option Int:=fun x1 x2 x3 x4=>ej Zr8 n (.loop Zz11) 0 (Zx11 x1 x2 x3 x4) (Zqk2 m0)
theorem Zgw1 (m0 n:Nat):Zh4 m0 (n+1)=Zs.S0 (Zh4 m0 n):=by kernel_rfl
theorem Zrk2 (m0:Nat):∀ n:Nat,Zh4 m0 n=Zs.l0 n:=
  ind rfl fun n e0=>(Zgw1 m0 n).trans (by rw [e0];rfl)
theorem Zi02 (m0:Nat) (x:ArgsD Zv11):run Zr8 Zci1 m0 x Zw11=Zs.S (Zh4 m0 m0) x.1 x.2.1.1:=by kernel_rfl
abbrev Zuq1:AM.Spec:=AM.spec Zv11 Ziz (fun x=>Zs x.1 x.2.1.1)
theorem Zsc3:Zi Tryz.prog 69 Zuq1:=ctrC tabOk (fn:=Tryz.f69) (fun x=>(Zi02 fu x).trans (by rw [Zrk2 fu fu];rfl)) (Ze ⟨⟨c_f38,Tryz.call38,fun _=>Zd rfl⟩,trivial⟩)
abbrev Za21:Env:=tab.env (AM.look [(69,Zuq1)]) ⟨[],[],[],⟨tt [4],[]⟩,[],[69],[],[]⟩
def Ztc3:Code:=bd Tryz.f37
abbrev Zdi1:List (Ty×List Tag):=[(.bool,[])]
abbrev Zuc3:List PK:=[.val k13g, .fn 38 [k13b]]
abbrev Zvc3:K (ResD Zdi1):=fin Za21 [.tmp 4] [] Zdi1
abbrev Zvq1:AM.Spec:=AM.spec Zuc3 Zdi1 (fun x=>Zjc x.1 x.2.1.1)
theorem Zwc3:Zi Tryz.prog 37 Zvq1:=ctrC tabOk (fn:=Tryz.f37) (show ∀ x,run Za21 Ztc3 fu x Zvc3=_ from fun x=>by kernel_rfl) (Ze ⟨⟨Zsc3,Tryz.call69,fun _=>Zd rfl⟩,trivial⟩)
abbrev E_f23:Env:=tab.env (AM.look [(37,Zvq1)]) ⟨[],[],[],⟨tt [4],[]⟩,[],[37],[],[]⟩
def b_f23:Code:=bd Tryz.f23
abbrev R_f23:List (Ty×List Tag):=[(.bool,[])]
abbrev P_f23:List PK:=[.val k13g, .val k13b]
abbrev K_f23:K (ResD R_f23):=fin E_f23 [.tmp 4] [] R_f23
abbrev Zb21:AM.Spec:=AM.spec P_f23 R_f23 (fun x=>Zon x.1 x.2.1)
theorem c_f23:Zi Tryz.prog 23 Zb21:=ctrC tabOk (fn:=Tryz.f23) (show ∀ x,run E_f23 b_f23 fu x K_f23=_ from fun x=>by kernel_rfl) (Ze ⟨⟨Zwc3,Tryz.call37,fun _=>Zd rfl⟩,trivial⟩)
abbrev E_f43:Env:=tab.env (AM.look []) ⟨[],[],[],⟨tt [2],[]⟩,[],[],[],[]⟩
def b_f43:Code:=bd Tryz.f43
abbrev R_f43:List (Ty×List Tag):=[(.bool,[])]
abbrev P_f43:List PK:=[.val k13f]
abbrev K_f43:K (ResD R_f43):=fin E_f43 [.tmp 2] [] R_f43
abbrev Zs8:AM.Spec:=AM.spec P_f43 R_f43 (fun x=>some (Zbi x.1))
theorem c_f43:Zi Tryz.prog 43 Zs8:=ctrC tabOk (fn:=Tryz.f43) (show ∀ x,run E_f43 b_f43 fu x K_f43=_ from fun x=>by kernel_rfl) (Ze trivial)
abbrev E_f42:Env:=tab.env (AM.look [(43,Zs8)]) ⟨[],[],[],⟨tt [2],[]⟩,[],[43],[],[]⟩
def b_f42:Code:=bd Tryz.f42
abbrev R_f42:List (Ty×List Tag):=[(.bool,[])]
abbrev P_f42:List PK:=[.val k13f]
abbrev K_f42:K (ResD R_f42):=fin E_f42 [.tmp 2] [] R_f42
abbrev Zei1:AM.Spec:=AM.spec P_f42 R_f42 (fun x=>some (Zfk x.1))
theorem c_f42:Zi Tryz.prog 42 Zei1:=ctrC tabOk (fn:=Tryz.f42) (show ∀ x,run E_f42 b_f42 fu x K_f42=_ from fun x=>by kernel_rfl) (Ze ⟨⟨c_f43,Tryz.call43,fun _=>Zd rfl⟩,trivial⟩)
abbrev Zt8:Env:=tab.env (AM.look [(42,Zei1)]) ⟨[(0,⟨tt [0,1,7,8],tt [1000000]⟩)],[],[],⟨tt [4],tt [1000000]⟩,[],[42],[],[]⟩
def Zfi1:Code:=bd Tryz.f69
abbrev Zjz:List (Ty×List Tag):=[(k13b,[]),(k13g,[])]
abbrev Zc21:List PK:=[.ioa k13f, .fn 42 []]
abbrev Zd21:K (ResD Zjz):=fin Zt8 [.tmp 4] [.ioa k13f] Zjz
def Ze21 (x1 x2:Int) (x3:D13u):St:=mk [(0, .slw 1000000 0),(1, .fn 42 []),(7, .dat k13b x1 []),(8, .dat k13b x2 [])] [(1000000,some (.arr k13f x3 false))]
def Zf21:Code:=(rgt (rgt Zfi1))
def Zsk2 (m0:Nat):K (ResD Zjz):=sqK Zt8 m0 Zf21 0 Zd21
def Ztk2 (m0:Nat):K (ResD Zjz):=Zaa 0 (Zsk2 m0)
def Zg21:Code:=(lft (lft (rgt (lft (rgt Zfi1)))))
def Zi4 (m0 n:Nat):Int→Int→D13u→Option D13y:=fun x1 x2 x3=>ej Zt8 n (.loop Zg21) 0 (Ze21 x1 x2 x3) (Ztk2 m0)
theorem Zhw1 (m0 n:Nat):Zi4 m0 (n+1)=Zm.S0 (Zi4 m0 n):=by kernel_rfl
theorem Zuk2 (m0:Nat):∀ n:Nat,Zi4 m0 n=Zm.l0 n:=
  ind rfl fun n e0=>(Zhw1 m0 n).trans (by rw [e0];rfl)
theorem Zj02 (m0:Nat) (x:ArgsD Zc21):run Zt8 Zfi1 m0 x Zd21=Zm.S (Zi4 m0 m0) x.1:=by kernel_rfl
abbrev Zwq1:AM.Spec:=AM.Zog 1 Zc21 Zjz (fun x=>Zm x.1)
theorem Zxc3:Zi Tryz.prog 69 Zwq1:=ctrI tabOk (fn:=Tryz.f69) (fun x=>(Zj02 fu x).trans (by rw [Zuk2 fu fu];rfl)) (Ze ⟨⟨c_f42,Tryz.call42,fun _=>Zd rfl⟩,trivial⟩)
abbrev E_f40:Env:=tab.env (AM.look [(69,Zwq1),(42,Zei1)]) ⟨[(0,⟨tt [0,1,5,6],tt [1000000]⟩)],[],[(11,⟨tt [0,5],tt [1000000]⟩)],⟨tt [4],tt [1000000]⟩,[0,4,8,13,17,22,30,36,38,39,41],[42],[(69,[true])],[]⟩
def b_f40:Code:=bd Tryz.f40
abbrev R_f40:List (Ty×List Tag):=[(k13b,[]),(k13g,[])]
abbrev P_f40:List PK:=[.ioa k13f, .fn 42 []]
abbrev K_f40:K (ResD R_f40):=finS 0 4 [.ioa k13f] R_f40
def Zvk2 (x6:Int) (x7:D13u):St:=mk [(0, .slw 1000000 0),(5, .dat k13b x6 [])] [(1000000,some (.arr k13f x7 false))]
def Zwk2 (x2 x3:Int) (x4:D13u):St:=mk [(0, .slw 1000000 0),(1, .fn 42 []),(5, .dat k13b x2 []),(6, .dat k13b x3 [])] [(1000000,some (.arr k13f x4 false))]
def Zgi1:Code:=(rgt (rgt (rgt (rgt b_f40))))
def Zkz (m0 n:Nat):Int→D13u→Option D13y:=fun x6 x7=>ej E_f40 n (.tail Zgi1) 0 (Zvk2 x6 x7) K_f40
theorem Zh21 (m0 n:Nat):Zkz m0 (n+1)=Zc.S1:=by kernel_rfl
theorem Zk02 (m0:Nat):∀ n:Nat,Zkz m0 n=Zc.t1 n:=
  ind rfl fun n _=>Zh21 m0 n
def Zl02 (m0:Nat):K (ResD R_f40):=sqK E_f40 m0 Zgi1 0 K_f40
def Zm02 (m0:Nat):K (ResD R_f40):=Zaa 0 (Zl02 m0)
def Zxk2:Code:=(lft (lft (rgt (lft (rgt (rgt (rgt b_f40)))))))
def Zlz (m0 n:Nat):Int→Int→D13u→Option D13y:=fun x2 x3 x4=>ej E_f40 n (.loop Zxk2) 0 (Zwk2 x2 x3 x4) (Zm02 m0)
theorem Zi21 (m0 n:Nat):Zlz m0 (n+1)=Zc.S0 (Zkz m0 m0) (Zlz m0 n):=by kernel_rfl
theorem Zn02 (m0:Nat):∀ n:Nat,Zlz m0 n=Zc.l0 (Zkz m0 m0) n:=
  ind rfl fun n e0=>(Zi21 m0 n).trans (by rw [e0];rfl)
theorem Zyc3 (m0:Nat) (x:ArgsD P_f40):run E_f40 b_f40 m0 x K_f40=Zc.S (Zlz m0 m0) x.1:=by kernel_rfl
abbrev Zj21:AM.Spec:=AM.Zsp 0 P_f40 R_f40 (fun x=>Zc x.1)
theorem c_f40:Zi Tryz.prog 40 Zj21:=ctrS tabOk (fn:=Tryz.f40) (show ∀ x,run E_f40 b_f40 fu x K_f40=_ from fun x=>by
  have e1:Zkz fu fu=Zc.t1 fu:=Zk02 fu fu
  have e0:Zlz fu fu=Zc.l0 (Zc.t1 fu) fu:=by rw [← e1];exact Zn02 fu fu
  refine (Zyc3 fu x).trans ?_
  rw [e0];rfl) (Ze ⟨⟨Zxc3,Tryz.call69,nw⟩,⟨⟨c_f42,Tryz.call42,fun _=>Zd rfl⟩,trivial⟩⟩)
abbrev Zu8:Env:=tab.env (AM.look []) ⟨[(0,⟨tt [3,4,5],[]⟩)],[],[],⟨tt [2],[]⟩,[],[],[],[]⟩
def Zhi1:Code:=bd Tryz.f105
abbrev Zmz:List (Ty×List Tag):=[(k13b,[])]
abbrev Zk21:List PK:=[.val k13b]
abbrev Zl21:K (ResD Zmz):=fin Zu8 [.tmp 2] [] Zmz
def Zm21 (x1 x2 x3:Int):St:=mk [(3, .dat (.int .u64) x1 []),(4, .dat k13b x2 []),(5, .dat k13b x3 [])] []
def Zn21:Code:=(rgt (rgt (rgt Zhi1)))
def Zyk2 (m0:Nat):K (ResD Zmz):=sqK Zu8 m0 Zn21 0 Zl21
def Zzk2 (m0:Nat):K (ResD Zmz):=Zaa 0 (Zyk2 m0)
def Zo21:Code:=(lft (lft (rgt (lft (rgt (rgt Zhi1))))))
def Zj4 (m0 n:Nat):Int→Int→Int→Option Int:=fun x1 x2 x3=>ej Zu8 n (.loop Zo21) 0 (Zm21 x1 x2 x3) (Zzk2 m0)
theorem Ziw1 (m0 n:Nat):Zj4 m0 (n+1)=Znc.S0 (Zj4 m0 n):=by kernel_rfl
theorem Zal2 (m0:Nat):∀ n:Nat,Zj4 m0 n=Znc.l0 n:=
  ind rfl fun n e0=>(Ziw1 m0 n).trans (by rw [e0];rfl)
theorem Zo02 (m0:Nat) (x:ArgsD Zk21):run Zu8 Zhi1 m0 x Zl21=Znc.S (Zj4 m0 m0) x.1:=by kernel_rfl
abbrev Zmc1:AM.Spec:=AM.spec Zk21 Zmz (fun x=>Znc x.1)
theorem Zp21:Zi Tryz.prog 105 Zmc1:=ctrC tabOk (fn:=Tryz.f105) (fun x=>(Zo02 fu x).trans (by rw [Zal2 fu fu];rfl)) (Ze trivial)
abbrev E_f70:Env:=tab.env (AM.look [(105,Zmc1)]) ⟨[(0,⟨tt [3,6,7,8],[]⟩)],[],[],⟨tt [2],[]⟩,[],[105],[],[]⟩
def b_f70:Code:=bd Tryz.f70
abbrev R_f70:List (Ty×List Tag):=[(k13b,[])]
abbrev P_f70:List PK:=[.val k13c]
abbrev K_f70:K (ResD R_f70):=fin E_f70 [.tmp 2] [] R_f70
def Zbl2 (x1:Int) (x2:D13a) (x3 x4:Int):St:=mk [(3, .dat k13b x1 []),(6, .dat k13c x2 []),(7, .dat k13b x3 []),(8, .dat k13b x4 [])] []
def Zcl2:Code:=(rgt (rgt (rgt b_f70)))
def Zp02 (m0:Nat):K (ResD R_f70):=sqK E_f70 m0 Zcl2 0 K_f70
def Zq02 (m0:Nat):K (ResD R_f70):=Zaa 0 (Zp02 m0)
def Zdl2:Code:=(lft (lft (rgt (lft (rgt (rgt b_f70))))))
def Zv8 (m0 n:Nat):Int→D13a→Int→Int→Option Int:=fun x1 x2 x3 x4=>ej E_f70 n (.loop Zdl2) 0 (Zbl2 x1 x2 x3 x4) (Zq02 m0)
theorem Zq21 (m0 n:Nat):Zv8 m0 (n+1)=Zxb.S0 (Zv8 m0 n):=by kernel_rfl
theorem Zr02 (m0:Nat):∀ n:Nat,Zv8 m0 n=Zxb.l0 n:=
  ind rfl fun n e0=>(Zq21 m0 n).trans (by rw [e0];rfl)
theorem Zzc3 (m0:Nat) (x:ArgsD P_f70):run E_f70 b_f70 m0 x K_f70=Zxb.S (Zv8 m0 m0) x.1:=by kernel_rfl
abbrev Zaq:AM.Spec:=AM.spec P_f70 R_f70 (fun x=>Zxb x.1)
theorem c_f70:Zi Tryz.prog 70 Zaq:=ctrC tabOk (fn:=Tryz.f70) (fun x=>(Zzc3 fu x).trans (by rw [Zr02 fu fu];rfl)) (Ze ⟨⟨Zp21,Tryz.call105,fun _=>Zd rfl⟩,trivial⟩)
abbrev E_f71:Env:=tab.env (AM.look []) ⟨[],[],[],⟨tt [4],[]⟩,[],[],[],[]⟩
def b_f71:Code:=bd Tryz.f71
abbrev R_f71:List (Ty×List Tag):=[(k13b,[])]
abbrev P_f71:List PK:=[.val k13b, .val k13b]
abbrev K_f71:K (ResD R_f71):=fin E_f71 [.tmp 4] [] R_f71
theorem Zel2 (m0:Nat) (x:ArgsD P_f71):run E_f71 b_f71 m0 x K_f71=Zlh.o x.1 x.2.1:=by kernel_rfl
theorem Zad3 (m0:Nat) (x:ArgsD P_f71):run E_f71 b_f71 m0 x K_f71=some (Zlh x.1 x.2.1):=(Zel2 m0 x).trans (by unfold Zlh.o Zlh;simp only [Zfl])
abbrev Zii1:AM.Spec:=AM.spec P_f71 R_f71 (fun x=>some (Zlh x.1 x.2.1))
theorem c_f71:Zi Tryz.prog 71 Zii1:=ctrC tabOk (fn:=Tryz.f71) (fun x=>Zad3 fu x) (Ze trivial)
abbrev E_f72:Env:=tab.env (AM.look []) ⟨[],[],[],⟨tt [2],[]⟩,[],[],[],[]⟩
def b_f72:Code:=bd Tryz.f72
abbrev R_f72:List (Ty×List Tag):=[(k13b,[])]
abbrev P_f72:List PK:=[.val k13b]
abbrev K_f72:K (ResD R_f72):=fin E_f72 [.tmp 2] [] R_f72
abbrev Zji1:AM.Spec:=AM.spec P_f72 R_f72 (fun x=>Zyp x.1)
theorem c_f72:Zi Tryz.prog 72 Zji1:=ctrC tabOk (fn:=Tryz.f72) (show ∀ x,run E_f72 b_f72 fu x K_f72=_ from fun x=>by kernel_rfl) (Ze trivial)
abbrev E_f44:Env:=tab.env (AM.look [(70,Zaq),(71,Zii1),(72,Zji1)]) ⟨[(0,⟨tt [1,6,7,8,37,38,39],[]⟩),(2,⟨tt [1,6,7,8,11,12,37,38,39],[]⟩)],[],[(20,⟨tt [6,7,8],[]⟩)],⟨tt [4,5],[]⟩,[],[70,71,72],[],[]⟩
def b_f44:Code:=bd Tryz.f44
abbrev R_f44:List (Ty×List Tag):=[(.str,[]),(k13b,[])]
abbrev P_f44:List PK:=[.val k13c, .val k13b]
abbrev K_f44:K (ResD R_f44):=fin E_f44 [.tmp 4, .tmp 5] [] R_f44
def Zfl2 (x20:D13a) (x21 x22:Int):St:=mk [(6, .dat (.sl (.int .u8)) x20 [⟨0,385,0,0⟩]),(7, .dat (.int .u64) x21 []),(8, .dat k13b x22 [])] []
def Zgl2 (x10:Int) (x11:D13a) (x12 x13:Int) (x14 x15:Int) (x16:D13a) (x17 x18:Int):St:=mk [(1, .dat k13b x10 []),(6, .dat (.sl (.int .u8)) x11 [⟨0,385,0,0⟩]),(7, .dat (.int .u64) x12 []),(8, .dat k13b x13 []),(11, .dat (.int .u64) x14 []),(12, .dat k13b x15 []),(37, .dat k13c x16 []),(38, .dat k13b x17 []),(39, .dat k13b x18 [])] []
def Zhl2 (x3:Int) (x4:D13a) (x5 x6:Int) (x7:D13a) (x8 x9:Int):St:=mk [(1, .dat k13b x3 []),(6, .dat (.sl (.int .u8)) x4 [⟨0,385,0,0⟩]),(7, .dat (.int .u64) x5 []),(8, .dat k13b x6 []),(37, .dat k13c x7 []),(38, .dat k13b x8 []),(39, .dat k13b x9 [])] []
def Zki1:Code:=(rgt (rgt (rgt (rgt (rgt (rgt b_f44))))))
def Zau (m0 n:Nat):D13a→Int→Int→Option D13g:=fun x20 x21 x22=>ej E_f44 n (.tail Zki1) 0 (Zfl2 x20 x21 x22) K_f44
theorem Zr21 (m0 n:Nat):Zau m0 (n+1)=Zva.S2:=by kernel_rfl
theorem Zs02 (m0:Nat):∀ n:Nat,Zau m0 n=Zva.t2 n:=
  ind rfl fun n _=>Zr21 m0 n
def Zt02 (m0:Nat):K (ResD R_f44):=sqK E_f44 m0 Zki1 0 K_f44
def Zxq1 (m0:Nat):K (ResD R_f44):=Zaa 0 (Zt02 m0)
def Zbx:Code:=(lft (lft (rgt (lft (rgt (rgt (rgt (rgt (rgt b_f44)))))))))
def Zbu (m0 n:Nat):Int→D13a→Int→Int→D13a→Int→Int→Option D13g:=fun x3 x4 x5 x6 x7 x8 x9=>ej E_f44 n (.loop Zbx) 0 (Zhl2 x3 x4 x5 x6 x7 x8 x9) (Zxq1 m0)
def Zu02 (m0 m1:Nat):K (ResD R_f44):=lpK E_f44 m1 Zbx 0 (Zxq1 m0)
def Zil2:Code:=(rgt (rgt (rgt Zbx)))
def Zv02 (m0 m1:Nat):K (ResD R_f44):=sqK E_f44 m1 Zil2 0 (Zu02 m0 m1)
def Zw02 (m0 m1:Nat):K (ResD R_f44):=Zaa 1 (Zv02 m0 m1)
def Zx02 (m0 m1:Nat):K (ResD R_f44):=Zaa 2 (Zw02 m0 m1)
def Zjl2:Code:=(lft (lft (rgt (rgt (lft (lft (rgt (rgt Zbx))))))))
def Znz (m0 m1 n:Nat):Int→D13a→Int→Int→Int→Int→D13a→Int→Int→Option D13g:=fun x10 x11 x12 x13 x14 x15 x16 x17 x18=>ej E_f44 n (.loop Zjl2) 2 (Zgl2 x10 x11 x12 x13 x14 x15 x16 x17 x18) (Zx02 m0 m1)
theorem Zs21 (m0 m1 n:Nat):Znz m0 m1 (n+1)=Zva.S1 (Zbu m0 m1) (Znz m0 m1 n):=by kernel_rfl
theorem Zy02 (m0 m1:Nat):∀ n:Nat,Znz m0 m1 n=Zva.l1 (Zbu m0 m1) n:=
  ind rfl fun n e1=>(Zs21 m0 m1 n).trans (by rw [e1];rfl)
theorem Zt21 (m0 n:Nat):Zbu m0 (n+1)=Zva.S0 (Zau m0 m0) (Znz m0 n n):=by kernel_rfl
theorem Zz02 (m0:Nat):∀ n:Nat,Zbu m0 n=Zva.l0 (Zau m0 m0) n:=
  ind rfl fun n e0=>by
    have e1:Znz m0 n n=Zva.l1 (Zva.l0 (Zau m0 m0) n) n:=by rw [← e0];exact Zy02 m0 n n
    rw [Zt21 m0 n,e1];rfl
theorem Zbd3 (m0:Nat) (x:ArgsD P_f44):run E_f44 b_f44 m0 x K_f44=Zva.S (Zbu m0 m0) x.1 x.2.1:=by kernel_rfl
abbrev Zcu:AM.Spec:=AM.spec P_f44 R_f44 (fun x=>Zva x.1 x.2.1)
theorem c_f44:Zi Tryz.prog 44 Zcu:=ctrC tabOk (fn:=Tryz.f44) (show ∀ x,run E_f44 b_f44 fu x K_f44=_ from fun x=>by
  have e2:Zau fu fu=Zva.t2 fu:=Zs02 fu fu
  have e0:Zbu fu fu=Zva.l0 (Zva.t2 fu) fu:=by rw [← e2];exact Zz02 fu fu
  refine (Zbd3 fu x).trans ?_
  rw [e0];rfl) (Ze ⟨⟨c_f70,Tryz.call70,fun _=>Zd rfl⟩,⟨⟨c_f71,Tryz.call71,fun _=>Zd rfl⟩,⟨⟨c_f72,Tryz.call72,fun _=>Zd rfl⟩,trivial⟩⟩⟩)
abbrev E_f24:Env:=tab.env (AM.look [(41,Zto),(40,Zj21),(43,Zs8),(44,Zcu)]) ⟨[(0,⟨tt [4,5,22,23,24],tt [11,21]⟩)],[],[(11,⟨tt [4,5],tt [11,21]⟩)],⟨tt [2,3],tt [11]⟩,[5,11,21,31,36],[43,44],[(40,[true])],[]⟩
def b_f24:Code:=bd Tryz.f24
abbrev R_f24:List (Ty×List Tag):=[(.str,[]),(k13g,[])]
abbrev P_f24:List PK:=[.val k13g]
abbrev K_f24:K (ResD R_f24):=fin E_f24 [.tmp 2, .tmp 3] [] R_f24
def Zcd3 (x11 x12:Nat) (x13:D13u) (x14:D13a):St:=mk [(4, .slm 11 0 x11 x12),(5, .slw 21 0)] [(11,some (.arr k13f x13 false)),(21,some (.arr k13b x14 false))]
def Zkl2 (x3 x4:Nat) (x5:D13u) (x6 x7:Int) (x8:D13u) (x9:D13a):St:=mk [(4, .slm 11 0 x3 x4),(5, .slw 21 0),(22, .dat k13g x5 []),(23, .dat k13b x6 []),(24, .dat k13b x7 [])] [(11,some (.arr k13f x8 false)),(21,some (.arr k13b x9 false))]
def Zu21:Code:=(rgt (rgt (rgt (rgt (rgt b_f24)))))
def Zoz (m0 n:Nat):Nat→Nat→D13u→D13a→Option D13z:=fun x11 x12 x13 x14=>ej E_f24 n (.tail Zu21) 0 (Zcd3 x11 x12 x13 x14) K_f24
theorem Zv21 (m0 n:Nat):Zoz m0 (n+1)=Zib.S1:=by kernel_rfl
theorem J_f42 (m0:Nat):∀ n:Nat,Zoz m0 n=Zib.t1 n:=
  ind rfl fun n _=>Zv21 m0 n
def q_f42 (m0:Nat):K (ResD R_f24):=sqK E_f24 m0 Zu21 0 K_f24
def Za12 (m0:Nat):K (ResD R_f24):=Zaa 0 (q_f42 m0)
def Zll2:Code:=(lft (lft (rgt (lft (rgt (rgt (rgt (rgt b_f24))))))))
def Zpz (m0 n:Nat):Nat→Nat→D13u→Int→Int→D13u→D13a→Option D13z:=fun x3 x4 x5 x6 x7 x8 x9=>ej E_f24 n (.loop Zll2) 0 (Zkl2 x3 x4 x5 x6 x7 x8 x9) (Za12 m0)
theorem Zw21 (m0 n:Nat):Zpz m0 (n+1)=Zib.S0 (Zoz m0 m0) (Zpz m0 n):=by kernel_rfl
theorem Zb12 (m0:Nat):∀ n:Nat,Zpz m0 n=Zib.l0 (Zoz m0 m0) n:=
  ind rfl fun n e0=>(Zw21 m0 n).trans (by rw [e0];rfl)
theorem Zdd3 (m0:Nat) (x:ArgsD P_f24):run E_f24 b_f24 m0 x K_f24=Zib.S (Zpz m0 m0) x.1:=by kernel_rfl
abbrev Zx21:AM.Spec:=AM.spec P_f24 R_f24 (fun x=>Zib x.1)
theorem c_f24:Zi Tryz.prog 24 Zx21:=ctrC tabOk (fn:=Tryz.f24) (show ∀ x,run E_f24 b_f24 fu x K_f24=_ from fun x=>by
  have e1:Zoz fu fu=Zib.t1 fu:=J_f42 fu fu
  have e0:Zpz fu fu=Zib.l0 (Zib.t1 fu) fu:=by rw [← e1];exact Zb12 fu fu
  refine (Zdd3 fu x).trans ?_
  rw [e0];rfl) (Ze ⟨⟨Ze3,Tryz.call41,nw⟩,⟨⟨c_f40,Tryz.call40,nw⟩,⟨⟨c_f43,Tryz.call43,fun _=>Zd rfl⟩,⟨⟨c_f44,Tryz.call44,fun _=>Zd rfl⟩,trivial⟩⟩⟩⟩)
abbrev E_f73:Env:=tab.env (AM.look []) ⟨[(0,⟨tt [3,11,12,13],[]⟩),(2,⟨tt [3,6,11,12,13,19],[]⟩)],[],[],⟨tt [2],[]⟩,[],[],[],[]⟩
def b_f73:Code:=bd Tryz.f73
abbrev R_f73:List (Ty×List Tag):=[(.str,[])]
abbrev P_f73:List PK:=[.val k13c]
abbrev K_f73:K (ResD R_f73):=fin E_f73 [.tmp 2] [] R_f73
def Zml2 (x5:D13a) (x6:Int) (x7:D13a) (x8 x9 x10:Int):St:=mk [(3, .dat (.sl (.int .u8)) x5 [⟨0,193,0,0⟩]),(6, .dat (.int .u64) x6 []),(11, .dat k13c x7 []),(12, .dat k13b x8 []),(13, .dat k13b x9 []),(19, .dat k13b x10 [])] []
def Znl2 (x1 x2:D13a) (x3 x4:Int):St:=mk [(3, .dat (.sl (.int .u8)) x1 [⟨0,193,0,0⟩]),(11, .dat k13c x2 []),(12, .dat k13b x3 []),(13, .dat k13b x4 [])] []
def Zol2:Code:=(rgt (rgt (rgt b_f73)))
def Zc12 (m0:Nat):K (ResD R_f73):=sqK E_f73 m0 Zol2 0 K_f73
def Zyq1 (m0:Nat):K (ResD R_f73):=Zaa 0 (Zc12 m0)
def Zcx:Code:=(lft (lft (rgt (lft (rgt (rgt b_f73))))))
def Zqz (m0 n:Nat):D13a→D13a→Int→Int→Option ByteArray:=fun x1 x2 x3 x4=>ej E_f73 n (.loop Zcx) 0 (Znl2 x1 x2 x3 x4) (Zyq1 m0)
def Zd12 (m0 m1:Nat):K (ResD R_f73):=lpK E_f73 m1 Zcx 0 (Zyq1 m0)
def Zpl2:Code:=(rgt (rgt (rgt Zcx)))
def Ze12 (m0 m1:Nat):K (ResD R_f73):=sqK E_f73 m1 Zpl2 0 (Zd12 m0 m1)
def Zf12 (m0 m1:Nat):K (ResD R_f73):=Zaa 1 (Ze12 m0 m1)
def Zg12 (m0 m1:Nat):K (ResD R_f73):=Zaa 2 (Zf12 m0 m1)
def Zql2:Code:=(lft (lft (rgt (rgt (rgt (lft (lft (rgt (rgt Zcx)))))))))
def Zrz (m0 m1 n:Nat):D13a→Int→D13a→Int→Int→Int→Option ByteArray:=fun x5 x6 x7 x8 x9 x10=>ej E_f73 n (.loop Zql2) 2 (Zml2 x5 x6 x7 x8 x9 x10) (Zg12 m0 m1)
theorem Zy21 (m0 m1 n:Nat):Zrz m0 m1 (n+1)=Zsa.S1 (Zqz m0 m1) (Zrz m0 m1 n):=by kernel_rfl
theorem Zh12 (m0 m1:Nat):∀ n:Nat,Zrz m0 m1 n=Zsa.l1 (Zqz m0 m1) n:=
  ind rfl fun n e1=>(Zy21 m0 m1 n).trans (by rw [e1];rfl)
theorem Zz21 (m0 n:Nat):Zqz m0 (n+1)=Zsa.S0 (Zrz m0 n n):=by kernel_rfl
theorem Zi12 (m0:Nat):∀ n:Nat,Zqz m0 n=Zsa.l0 n:=
  ind rfl fun n e0=>by
    have e1:Zrz m0 n n=Zsa.l1 (Zsa.l0 n) n:=by rw [← e0];exact Zh12 m0 n n
    rw [Zz21 m0 n,e1];rfl
theorem Zed3 (m0:Nat) (x:ArgsD P_f73):run E_f73 b_f73 m0 x K_f73=Zsa.S (Zqz m0 m0) x.1:=by kernel_rfl
abbrev Za31:AM.Spec:=AM.spec P_f73 R_f73 (fun x=>Zsa x.1)
theorem c_f73:Zi Tryz.prog 73 Za31:=ctrC tabOk (fn:=Tryz.f73) (fun x=>(Zed3 fu x).trans (by rw [Zi12 fu fu];rfl)) (Ze trivial)
abbrev E_f75:Env:=tab.env (AM.look []) ⟨[(0,⟨tt [0,3,9,10,11],tt [3]⟩)],[],[],⟨tt [2],tt [2,3]⟩,[2,3,27,32,33,34,44],[],[],[]⟩
def b_f75:Code:=bd Tryz.f75
abbrev R_f75:List (Ty×List Tag):=[(k13i,[])]
abbrev P_f75:List PK:=[.val k13c]
abbrev K_f75:K (ResD R_f75):=fin E_f75 [.tmp 2] [] R_f75
def Zrl2 (x1 x2:D13a) (x3 x4:Int) (x5:D13o):St:=mk [(0, .dat k13c x1 []),(3, .slw 3 0),(9, .dat k13c x2 []),(10, .dat k13b x3 []),(11, .dat k13b x4 [])] [(3,some (.arr k13h x5 false))]
def Zsl2:Code:=(rgt (rgt (rgt (rgt b_f75))))
def Zj12 (m0:Nat):K (ResD R_f75):=sqK E_f75 m0 Zsl2 0 K_f75
def Zk12 (m0:Nat):K (ResD R_f75):=Zaa 0 (Zj12 m0)
def Ztl2:Code:=(lft (lft (rgt (lft (rgt (rgt (rgt b_f75)))))))
def Zw8 (m0 n:Nat):D13a→D13a→Int→Int→D13o→Option D13q:=fun x1 x2 x3 x4 x5=>ej E_f75 n (.loop Ztl2) 0 (Zrl2 x1 x2 x3 x4 x5) (Zk12 m0)
theorem Zb31 (m0 n:Nat):Zw8 m0 (n+1)=Zqe.S0 (Zw8 m0 n):=by kernel_rfl
theorem Zl12 (m0:Nat):∀ n:Nat,Zw8 m0 n=Zqe.l0 n:=
  ind rfl fun n e0=>(Zb31 m0 n).trans (by rw [e0];rfl)
theorem Zfd3 (m0:Nat) (x:ArgsD P_f75):run E_f75 b_f75 m0 x K_f75=Zqe.S (Zw8 m0 m0) x.1:=by kernel_rfl
abbrev Zli1:AM.Spec:=AM.spec P_f75 R_f75 (fun x=>Zqe x.1)
theorem c_f75:Zi Tryz.prog 75 Zli1:=ctrC tabOk (fn:=Tryz.f75) (fun x=>(Zfd3 fu x).trans (by rw [Zl12 fu fu];rfl)) (Ze trivial)
abbrev Zx8:Env:=tab.env (AM.look []) ⟨[(0,⟨tt [0,4,7,8,9],[]⟩)],[],[],⟨tt [2,3],[]⟩,[],[],[],[]⟩
def Zmi1:Code:=bd Tryz.f106
abbrev Zsz:List (Ty×List Tag):=[(k13b,[]),(.bool,[])]
abbrev Zc31:List PK:=[.val k13i]
abbrev Zd31:K (ResD Zsz):=fin Zx8 [.tmp 2, .tmp 3] [] Zsz
def Ze31 (x1:D13o) (x2:Int) (x3:D13o) (x4 x5:Int):St:=mk [(0, .dat k13i x1 []),(4, .dat k13b x2 []),(7, .dat k13i x3 []),(8, .dat k13b x4 []),(9, .dat k13b x5 [])] []
def Zf31:Code:=(rgt (rgt (rgt Zmi1)))
def Zul2 (m0:Nat):K (ResD Zsz):=sqK Zx8 m0 Zf31 0 Zd31
def Zvl2 (m0:Nat):K (ResD Zsz):=Zaa 0 (Zul2 m0)
def Zg31:Code:=(lft (lft (rgt (lft (rgt (rgt Zmi1))))))
def Zk4 (m0 n:Nat):D13o→Int→D13o→Int→Int→Option (Int×Bool):=fun x1 x2 x3 x4 x5=>ej Zx8 n (.loop Zg31) 0 (Ze31 x1 x2 x3 x4 x5) (Zvl2 m0)
theorem Zjw1 (m0 n:Nat):Zk4 m0 (n+1)=Zkc.S0 (Zk4 m0 n):=by kernel_rfl
theorem Zwl2 (m0:Nat):∀ n:Nat,Zk4 m0 n=Zkc.l0 n:=
  ind rfl fun n e0=>(Zjw1 m0 n).trans (by rw [e0];rfl)
theorem Zm12 (m0:Nat) (x:ArgsD Zc31):run Zx8 Zmi1 m0 x Zd31=Zkc.S (Zk4 m0 m0) x.1:=by kernel_rfl
abbrev Zl4:AM.Spec:=AM.spec Zc31 Zsz (fun x=>Zkc x.1)
theorem Zni1:Zi Tryz.prog 106 Zl4:=ctrC tabOk (fn:=Tryz.f106) (fun x=>(Zm12 fu x).trans (by rw [Zwl2 fu fu];rfl)) (Ze trivial)
abbrev Zh31:Env:=tab.env (AM.look []) ⟨[],[],[],⟨tt [2],[]⟩,[],[],[],[]⟩
def Zgd3:Code:=bd Tryz.f118
abbrev Zoi1:List (Ty×List Tag):=[(k13b,[])]
abbrev Zhd3:List PK:=[.val k13b]
abbrev Zid3:K (ResD Zoi1):=fin Zh31 [.tmp 2] [] Zoi1
abbrev Znc1:AM.Spec:=AM.spec Zhd3 Zoi1 (fun x=>some (Zec x.1))
theorem Zi31:Zi Tryz.prog 118 Znc1:=ctrC tabOk (fn:=Tryz.f118) (show ∀ x,run Zh31 Zgd3 fu x Zid3=_ from fun x=>by kernel_rfl) (Ze trivial)
abbrev E_f81:Env:=tab.env (AM.look [(118,Znc1)]) ⟨[(0,⟨tt [3,4,5],tt [3]⟩)],[],[(7,⟨tt [3,4,5],tt [3]⟩)],⟨tt [2],[]⟩,[],[118],[],[]⟩
def b_f81:Code:=bd Tryz.f81
abbrev R_f81:List (Ty×List Tag):=[(.str,[])]
abbrev P_f81:List PK:=[.val k13b]
abbrev K_f81:K (ResD R_f81):=fin E_f81 [.tmp 2] [] R_f81
def Zxl2 (x5 x6:Int) (x7:D13a):St:=mk [(3, .ptr 3 0 0),(4, .dat (.int .u64) x5 []),(5, .dat k13b x6 [])] [(3,some (.arr (.int .u8) x7 false))]
def Zyl2 (x2 x3:Int) (x4:D13a):St:=mk [(3, .ptr 3 0 0),(4, .dat (.int .u64) x2 []),(5, .dat k13b x3 [])] [(3,some (.arr (.int .u8) x4 false))]
def Zpi1:Code:=(rgt (rgt (rgt (rgt b_f81))))
def Ztz (m0 n:Nat):Int→Int→D13a→Option ByteArray:=fun x5 x6 x7=>ej E_f81 n (.tail Zpi1) 0 (Zxl2 x5 x6 x7) K_f81
theorem Zj31 (m0 n:Nat):Ztz m0 (n+1)=Ztb.S1:=by kernel_rfl
theorem Zn12 (m0:Nat):∀ n:Nat,Ztz m0 n=Ztb.t1 n:=
  ind rfl fun n _=>Zj31 m0 n
def Zo12 (m0:Nat):K (ResD R_f81):=sqK E_f81 m0 Zpi1 0 K_f81
def Zp12 (m0:Nat):K (ResD R_f81):=Zaa 0 (Zo12 m0)
def Zzl2:Code:=(lft (lft (lft (rgt (rgt (rgt b_f81))))))
def Zuz (m0 n:Nat):Int→Int→D13a→Option ByteArray:=fun x2 x3 x4=>ej E_f81 n (.loop Zzl2) 0 (Zyl2 x2 x3 x4) (Zp12 m0)
theorem Zk31 (m0 n:Nat):Zuz m0 (n+1)=Ztb.S0 (Ztz m0 m0) (Zuz m0 n):=by kernel_rfl
theorem Zq12 (m0:Nat):∀ n:Nat,Zuz m0 n=Ztb.l0 (Ztz m0 m0) n:=
  ind rfl fun n e0=>(Zk31 m0 n).trans (by rw [e0];rfl)
theorem Zjd3 (m0:Nat) (x:ArgsD P_f81):run E_f81 b_f81 m0 x K_f81=Ztb.S (Zuz m0 m0) x.1:=by kernel_rfl
abbrev Ztr:AM.Spec:=AM.spec P_f81 R_f81 (fun x=>Ztb x.1)
theorem c_f81:Zi Tryz.prog 81 Ztr:=ctrC tabOk (fn:=Tryz.f81) (show ∀ x,run E_f81 b_f81 fu x K_f81=_ from fun x=>by
  have e1:Ztz fu fu=Ztb.t1 fu:=Zn12 fu fu
  have e0:Zuz fu fu=Ztb.l0 (Ztb.t1 fu) fu:=by rw [← e1];exact Zq12 fu fu
  refine (Zjd3 fu x).trans ?_
  rw [e0];rfl) (Ze ⟨⟨Zi31,Tryz.call118,fun _=>Zd rfl⟩,trivial⟩)
abbrev Zl31:Env:=tab.env (AM.look [(138,Zds)]) ⟨[],[],[],⟨tt [4,5],tt [1000000]⟩,[],[],[],[]⟩
def Zkd3:Code:=bd Tryz.f107
abbrev Zqi1:List (Ty×List Tag):=[(k13b,[]),((.lk true),[]),((.pair (.lk false) (.sl (.int .u8))),[⟨1,1,0,0⟩])]
abbrev Zld3:List PK:=[.io (.pair (.lk false) (.sl (.int .u8))) [(1,0)], .val .str]
abbrev Zmd3:K (ResD Zqi1):=fin Zl31 [.tmp 4, .tmp 5] [.io (.pair (.lk false) (.sl (.int .u8))) [(1,0)]] Zqi1
abbrev Zm4:AM.Spec:=AM.Zog 2 Zld3 Zqi1 (fun x=>Zmd x.1 x.2.1)
theorem Zri1:Zi Tryz.prog 107 Zm4:=ctrI tabOk (fn:=Tryz.f107) (show ∀ x,run Zl31 Zkd3 fu x Zmd3=_ from fun x=>by kernel_rfl) (Ze ⟨⟨Zz5,Tryz.call138,nw⟩,trivial⟩)
abbrev E_f74:Env:=tab.env (AM.look [(106,Zl4),(81,Ztr),(107,Zm4),(108,Zdn)]) ⟨[(0,⟨tt [6,16,17,18],tt [6]⟩)],[],[],⟨tt [2,3],[]⟩,[],[81,106],[],[]⟩
def b_f74:Code:=bd Tryz.f74
abbrev R_f74:List (Ty×List Tag):=[(.str,[]),(k13b,[])]
abbrev P_f74:List PK:=[.val k13i]
abbrev K_f74:K (ResD R_f74):=fin E_f74 [.tmp 2, .tmp 3] [] R_f74
def Zam2 (x2:D13o) (x3 x4:Int) (x5:D13j):St:=mk [(6, .ptr 6 0 0),(16, .dat k13i x2 []),(17, .dat k13b x3 []),(18, .dat k13b x4 [])] [(6,some (.var (.pair (.lk false) (.sl (.int .u8))) x5 [⟨1,64386,0,0⟩]))]
def Zbm2:Code:=(rgt (rgt (rgt (rgt b_f74))))
def Zr12 (m0:Nat):K (ResD R_f74):=sqK E_f74 m0 Zbm2 0 K_f74
def Zs12 (m0:Nat):K (ResD R_f74):=Zaa 0 (Zr12 m0)
def Zcm2:Code:=(lft (lft (rgt (lft (rgt (rgt (rgt b_f74)))))))
def Zy8 (m0 n:Nat):D13o→Int→Int→D13j→Option D13g:=fun x2 x3 x4 x5=>ej E_f74 n (.loop Zcm2) 0 (Zam2 x2 x3 x4 x5) (Zs12 m0)
theorem Zm31 (m0 n:Nat):Zy8 m0 (n+1)=Zfe.S0 (Zy8 m0 n):=by kernel_rfl
theorem Zt12 (m0:Nat):∀ n:Nat,Zy8 m0 n=Zfe.l0 n:=
  ind rfl fun n e0=>(Zm31 m0 n).trans (by rw [e0];rfl)
theorem Znd3 (m0:Nat) (x:ArgsD P_f74):run E_f74 b_f74 m0 x K_f74=Zfe.S (Zy8 m0 m0) x.1:=by kernel_rfl
abbrev Zsi1:AM.Spec:=AM.spec P_f74 R_f74 (fun x=>Zfe x.1)
theorem c_f74:Zi Tryz.prog 74 Zsi1:=ctrC tabOk (fn:=Tryz.f74) (fun x=>(Znd3 fu x).trans (by rw [Zt12 fu fu];rfl)) (Ze ⟨⟨Zni1,Tryz.call106,fun _=>Zd rfl⟩,⟨⟨c_f81,Tryz.call81,fun _=>Zd rfl⟩,⟨⟨Zri1,Tryz.call107,nw⟩,⟨⟨Zes,Tryz.call108,nw⟩,trivial⟩⟩⟩⟩)
abbrev Zn31:Env:=tab.env (AM.look []) ⟨[],[],[],⟨tt [4],[]⟩,[],[],[],[]⟩
def Zod3:Code:=bd Tryz.f139
abbrev Zti1:List (Ty×List Tag):=[(k13b,[])]
abbrev Zpd3:List PK:=[.val k13b, .val k13b]
abbrev Zqd3:K (ResD Zti1):=fin Zn31 [.tmp 4] [] Zti1
abbrev Zzq1:AM.Spec:=AM.spec Zpd3 Zti1 (fun x=>some (Zzp x.1 x.2.1))
theorem Zrd3:Zi Tryz.prog 139 Zzq1:=ctrC tabOk (fn:=Tryz.f139) (show ∀ x,run Zn31 Zod3 fu x Zqd3=_ from fun x=>by kernel_rfl) (Ze trivial)
abbrev Zvz:Env:=tab.env (AM.look []) ⟨[(0,⟨tt [0,3,4],[]⟩)],[],[(3,⟨tt [0],[]⟩)],⟨tt [2],[]⟩,[],[],[],[]⟩
def Zz8:Code:=bd Tryz.f140
abbrev Zwz:List (Ty×List Tag):=[(k13b,[])]
abbrev Zo31:List PK:=[.val k13c]
abbrev Zui1:K (ResD Zwz):=fin Zvz [.tmp 2] [] Zwz
def Zp31 (x2:D13a) (x3 x4:Int):St:=mk [(0, .dat k13c x2 []),(3, .dat k13b x3 []),(4, .dat k13b x4 [])] []
def Zq31 (x1:D13a):St:=mk [(0, .dat k13c x1 [])] []
def Zr31:Code:=(rgt (rgt (rgt (rgt Zz8))))
def Zdm2 (m0 m1:Nat):K (ResD Zwz):=sqK Zvz m1 Zr31 0 Zui1
def Zem2 (m0 m1:Nat):K (ResD Zwz):=Zaa 0 (Zdm2 m0 m1)
def Zs31:Code:=(lft (lft (rgt (lft (rgt (rgt (rgt Zz8)))))))
def Zdu (m0 m1 n:Nat):D13a→Int→Int→Option Int:=fun x2 x3 x4=>ej Zvz n (.loop Zs31) 0 (Zp31 x2 x3 x4) (Zem2 m0 m1)
theorem Zkw1 (m0 m1 n:Nat):Zdu m0 m1 (n+1)=Zoa.S1 (Zdu m0 m1 n):=by kernel_rfl
theorem Zfm2 (m0 m1:Nat):∀ n:Nat,Zdu m0 m1 n=Zoa.l1 n:=
  ind rfl fun n e1=>(Zkw1 m0 m1 n).trans (by rw [e1];rfl)
def Zt31:Code:=(rgt (rgt Zz8))
def Zoc1 (m0 n:Nat):D13a→Option Int:=fun x1=>ej Zvz n (.tail Zt31) 0 (Zq31 x1) Zui1
theorem Zlw1 (m0 n:Nat):Zoc1 m0 (n+1)=Zoa.S0 (Zdu m0 n n):=by kernel_rfl
theorem Zgm2 (m0:Nat):∀ n:Nat,Zoc1 m0 n=Zoa.t0 n:=
  ind rfl fun n e0=>by
    have e1:Zdu m0 n n=Zoa.l1 n:=Zfm2 m0 n n
    rw [Zlw1 m0 n,e1];rfl
theorem Zu12 (m0:Nat) (x:ArgsD Zo31):run Zvz Zz8 m0 x Zui1=Zoa.S (Zoc1 m0 m0) x.1:=by kernel_rfl
abbrev Zar1:AM.Spec:=AM.spec Zo31 Zwz (fun x=>Zoa x.1)
theorem Zsd3:Zi Tryz.prog 140 Zar1:=ctrC tabOk (fn:=Tryz.f140) (fun x=>(Zu12 fu x).trans (by rw [Zgm2 fu fu];rfl)) (Ze trivial)
abbrev Zbq:Env:=tab.env (AM.look [(139,Zzq1),(140,Zar1)]) ⟨[(0,⟨tt [0,4,5],tt [10]⟩),(2,⟨tt [4,6,33,34],tt [10]⟩)],[],[(6,⟨tt [4],tt [10]⟩)],⟨tt [2,3],tt [10]⟩,[2,4,10,17,29,30,32,37,40,47],[139,140],[],[28]⟩
def Zeu:Code:=bd Tryz.f109
abbrev Zur:List (Ty×List Tag):=[(k13c,[]),(k13b,[])]
abbrev Zu31:List PK:=[.val k13c]
abbrev Zxz:K (ResD Zur):=fin Zbq [.tmp 2, .tmp 3] [] Zur
def Zv31 (x7 x8 x9:Int) (x10:D13a):St:=mk [(4, .slw 10 0),(6, .dat k13b x7 []),(33, .dat k13b x8 []),(34, .dat k13b x9 [])] [(10,some (.arr k13b x10 false))]
def Zw31 (x5:D13a):St:=mk [(4, .slw 10 0)] [(10,some (.arr k13b x5 false))]
def Zx31 (x1:D13a) (x2:Int) (x3:D13a):St:=mk [(0, .dat k13c x1 []),(4, .slw 10 0),(5, .dat k13b x2 [])] [(10,some (.arr k13b x3 false))]
def Zy31:Code:=(rgt (rgt (rgt (rgt (rgt Zeu)))))
def Zhm2 (m0 m1:Nat):K (ResD Zur):=sqK Zbq m1 Zy31 0 Zxz
def Zim2 (m0 m1:Nat):K (ResD Zur):=Zaa 2 (Zhm2 m0 m1)
def Zz31:Code:=(lft (lft (rgt (lft (rgt (rgt (rgt (rgt Zeu))))))))
def Zfu (m0 m1 n:Nat):Int→Int→Int→D13a→Option D13h:=fun x7 x8 x9 x10=>ej Zbq n (.loop Zz31) 2 (Zv31 x7 x8 x9 x10) (Zim2 m0 m1)
theorem Zmw1 (m0 m1 n:Nat):Zfu m0 m1 (n+1)=Zqa.S2 (Zfu m0 m1 n):=by kernel_rfl
theorem Zjm2 (m0 m1:Nat):∀ n:Nat,Zfu m0 m1 n=Zqa.l2 n:=
  ind rfl fun n e2=>(Zmw1 m0 m1 n).trans (by rw [e2];rfl)
def Zge1:Code:=(rgt (rgt (rgt Zeu)))
def Zgu (m0 n:Nat):D13a→Option D13h:=fun x5=>ej Zbq n (.tail Zge1) 0 (Zw31 x5) Zxz
theorem Znw1 (m0 n:Nat):Zgu m0 (n+1)=Zqa.S1 (Zfu m0 n n):=by kernel_rfl
theorem Zkm2 (m0:Nat):∀ n:Nat,Zgu m0 n=Zqa.t1 n:=
  ind rfl fun n e1=>by
    have e2:Zfu m0 n n=Zqa.l2 n:=Zjm2 m0 n n
    rw [Znw1 m0 n,e2];rfl
def Zlm2 (m0:Nat):K (ResD Zur):=sqK Zbq m0 Zge1 0 Zxz
def Zmm2 (m0:Nat):K (ResD Zur):=Zaa 0 (Zlm2 m0)
def Za41:Code:=(lft (lft (rgt (lft (rgt (rgt Zeu))))))
def Zhu (m0 n:Nat):D13a→Int→D13a→Option D13h:=fun x1 x2 x3=>ej Zbq n (.loop Za41) 0 (Zx31 x1 x2 x3) (Zmm2 m0)
theorem Zow1 (m0 n:Nat):Zhu m0 (n+1)=Zqa.S0 (Zgu m0 m0) (Zhu m0 n):=by kernel_rfl
theorem Znm2 (m0:Nat):∀ n:Nat,Zhu m0 n=Zqa.l0 (Zgu m0 m0) n:=
  ind rfl fun n e0=>(Zow1 m0 n).trans (by rw [e0];rfl)
theorem Zv12 (m0:Nat) (x:ArgsD Zu31):run Zbq Zeu m0 x Zxz=Zqa.S (Zhu m0 m0) x.1:=by kernel_rfl
abbrev Zbr1:AM.Spec:=AM.spec Zu31 Zur (fun x=>Zqa x.1)
theorem Ztd3:Zi Tryz.prog 109 Zbr1:=ctrC tabOk (fn:=Tryz.f109) (show ∀ x,run Zbq Zeu fu x Zxz=_ from fun x=>by
  have e1:Zgu fu fu=Zqa.t1 fu:=Zkm2 fu fu
  have e0:Zhu fu fu=Zqa.l0 (Zqa.t1 fu) fu:=by rw [← e1];exact Znm2 fu fu
  refine (Zv12 fu x).trans ?_
  rw [e0];rfl) (Ze ⟨⟨Zrd3,Tryz.call139,fun _=>Zd rfl⟩,⟨⟨Zsd3,Tryz.call140,fun _=>Zd rfl⟩,trivial⟩⟩)
abbrev E_f76:Env:=tab.env (AM.look [(81,Ztr),(109,Zbr1),(70,Zaq),(44,Zcu)]) ⟨[],[],[],⟨tt [2,3],[]⟩,[],[44,70,81],[],[47]⟩
def b_f76:Code:=bd Tryz.f76
abbrev R_f76:List (Ty×List Tag):=[(.str,[]),(k13b,[])]
abbrev P_f76:List PK:=[.val k13c]
abbrev K_f76:K (ResD R_f76):=fin E_f76 [.tmp 2, .tmp 3] [] R_f76
abbrev Zvi1:AM.Spec:=AM.spec P_f76 R_f76 (fun x=>Zpn x.1)
theorem c_f76:Zi Tryz.prog 76 Zvi1:=ctrC tabOk (fn:=Tryz.f76) (show ∀ x,run E_f76 b_f76 fu x K_f76=_ from fun x=>by kernel_rfl) (Ze ⟨⟨c_f81,Tryz.call81,fun _=>Zd rfl⟩,⟨⟨Ztd3,Tryz.call109,nw⟩,⟨⟨c_f70,Tryz.call70,fun _=>Zd rfl⟩,⟨⟨c_f44,Tryz.call44,fun _=>Zd rfl⟩,trivial⟩⟩⟩⟩)
abbrev Zb41:Env:=tab.env (AM.look []) ⟨[],[],[],⟨tt [2],[]⟩,[],[],[],[]⟩
def Zud3:Code:=bd Tryz.f200
abbrev Zwi1:List (Ty×List Tag):=[(.bool,[])]
abbrev Zvd3:List PK:=[.val k13b]
abbrev Zwd3:K (ResD Zwi1):=fin Zb41 [.tmp 2] [] Zwi1
abbrev Zcr1:AM.Spec:=AM.spec Zvd3 Zwi1 (fun x=>some (cmp_isNaN_int x.1))
theorem Zxd3:Zi Tryz.prog 200 Zcr1:=ctrC tabOk (fn:=Tryz.f200) (show ∀ x,run Zb41 Zud3 fu x Zwd3=_ from fun x=>by kernel_rfl) (Ze trivial)
abbrev Zxi1:Env:=tab.env (AM.look [(200,Zcr1)]) ⟨[],[],[],⟨tt [4],[]⟩,[],[200],[],[]⟩
def Zc41:Code:=bd Tryz.f182
abbrev Zyi1:List (Ty×List Tag):=[(.bool,[])]
abbrev Zzi1:List PK:=[.val k13b, .val k13b]
abbrev Zd41:K (ResD Zyi1):=fin Zxi1 [.tmp 4] [] Zyi1
theorem Ze41 (m0:Nat) (x:ArgsD Zzi1):run Zxi1 Zc41 m0 x Zd41=cmp_Less_int.o x.1 x.2.1:=by kernel_rfl
theorem Zw12 (m0:Nat) (x:ArgsD Zzi1):run Zxi1 Zc41 m0 x Zd41=some (cmp_Less_int x.1 x.2.1):=(Ze41 m0 x).trans (by unfold cmp_Less_int.o cmp_Less_int;simp only [Zfl])
abbrev Zdr1:AM.Spec:=AM.spec Zzi1 Zyi1 (fun x=>some (cmp_Less_int x.1 x.2.1))
theorem Zyd3:Zi Tryz.prog 182 Zdr1:=ctrC tabOk (fn:=Tryz.f182) (fun x=>Zw12 fu x) (Ze ⟨⟨Zxd3,Tryz.call200,fun _=>Zd rfl⟩,trivial⟩)
abbrev Zf41:Env:=tab.env (AM.look []) ⟨[],[],[],⟨tt [2],[]⟩,[],[],[],[]⟩
def Zzd3:Code:=bd Tryz.f183
abbrev Zaj1:List (Ty×List Tag):=[(.bool,[])]
abbrev Zae3:List PK:=[.val k13b]
abbrev Zbe3:K (ResD Zaj1):=fin Zf41 [.tmp 2] [] Zaj1
abbrev Zer1:AM.Spec:=AM.spec Zae3 Zaj1 (fun x=>some (Zjn x.1))
theorem Zce3:Zi Tryz.prog 183 Zer1:=ctrC tabOk (fn:=Tryz.f183) (show ∀ x,run Zf41 Zzd3 fu x Zbe3=_ from fun x=>by kernel_rfl) (Ze trivial)
abbrev Ziu:Env:=tab.env (AM.look [(182,Zdr1),(183,Zer1)]) ⟨[(0,⟨tt [0,1,6,7,8],[]⟩)],[],[(8,⟨tt [0,1,6,7],[]⟩)],⟨tt [4,5],[]⟩,[],[182,183],[],[]⟩
def Za9:Code:=bd Tryz.f163
abbrev Zyz:List (Ty×List Tag):=[(k13b,[]),(.bool,[])]
abbrev Zg41:List PK:=[.val k13c, .val k13b]
abbrev Zb9:K (ResD Zyz):=fin Ziu [.tmp 4, .tmp 5] [] Zyz
def Zh41 (x7:D13a) (x8 x9 x10:Int):St:=mk [(0, .dat k13c x7 []),(1, .dat k13b x8 []),(6, .dat k13b x9 []),(7, .dat k13b x10 [])] []
def Zi41 (x1:D13a) (x2 x3:Int) (x4 x5:Int):St:=mk [(0, .dat k13c x1 []),(1, .dat k13b x2 []),(6, .dat k13b x3 []),(7, .dat k13b x4 []),(8, .dat k13b x5 [])] []
def Zhe1:Code:=(rgt (rgt (rgt (rgt Za9))))
def Zju (m0 n:Nat):D13a→Int→Int→Int→Option (Int×Bool):=fun x7 x8 x9 x10=>ej Ziu n (.tail Zhe1) 0 (Zh41 x7 x8 x9 x10) Zb9
theorem Zpw1 (m0 n:Nat):Zju m0 (n+1)=Zx.S1:=by kernel_rfl
theorem Zom2 (m0:Nat):∀ n:Nat,Zju m0 n=Zx.t1 n:=
  ind rfl fun n _=>Zpw1 m0 n
def Zpm2 (m0:Nat):K (ResD Zyz):=sqK Ziu m0 Zhe1 0 Zb9
def Zqm2 (m0:Nat):K (ResD Zyz):=Zaa 0 (Zpm2 m0)
def Zj41:Code:=(lft (lft (lft (rgt (rgt (rgt Za9))))))
def Zku (m0 n:Nat):D13a→Int→Int→Int→Int→Option (Int×Bool):=fun x1 x2 x3 x4 x5=>ej Ziu n (.loop Zj41) 0 (Zi41 x1 x2 x3 x4 x5) (Zqm2 m0)
theorem Zqw1 (m0 n:Nat):Zku m0 (n+1)=Zx.S0 (Zju m0 m0) (Zku m0 n):=by kernel_rfl
theorem Zrm2 (m0:Nat):∀ n:Nat,Zku m0 n=Zx.l0 (Zju m0 m0) n:=
  ind rfl fun n e0=>(Zqw1 m0 n).trans (by rw [e0];rfl)
theorem Zx12 (m0:Nat) (x:ArgsD Zg41):run Ziu Za9 m0 x Zb9=Zx.S (Zku m0 m0) x.1 x.2.1:=by kernel_rfl
abbrev Zfr1:AM.Spec:=AM.spec Zg41 Zyz (fun x=>Zx x.1 x.2.1)
theorem Zde3:Zi Tryz.prog 163 Zfr1:=ctrC tabOk (fn:=Tryz.f163) (show ∀ x,run Ziu Za9 fu x Zb9=_ from fun x=>by
  have e1:Zju fu fu=Zx.t1 fu:=Zom2 fu fu
  have e0:Zku fu fu=Zx.l0 (Zx.t1 fu) fu:=by rw [← e1];exact Zrm2 fu fu
  refine (Zx12 fu x).trans ?_
  rw [e0];rfl) (Ze ⟨⟨Zyd3,Tryz.call182,fun _=>Zd rfl⟩,⟨⟨Zce3,Tryz.call183,fun _=>Zd rfl⟩,trivial⟩⟩)
abbrev Zc9:Env:=tab.env (AM.look [(160,Zso),(161,Zgq),(162,Zsn),(163,Zfr1)]) ⟨[(0,⟨tt [4,5,16,17,18],tt [11]⟩)],[],[],⟨tt [2,3],tt [11]⟩,[2,4,11,12,14,15,23,33],[163],[(161,[true]),(162,[true])],[]⟩
def Zbj1:Code:=bd Tryz.f141
abbrev Zzz:List (Ty×List Tag):=[(k13c,[]),(k13c,[⟨0,1,0,1⟩])]
abbrev Zk41:List PK:=[.val k13c]
abbrev Zl41:K (ResD Zzz):=fin Zc9 [.tmp 2, .tmp 3] [] Zzz
def Zm41 (x4 x5:Nat) (x6 x7:D13a) (x8 x9:Int) (x10:D13a):St:=mk [(4, .slm 11 0 x4 x5),(5, .dat k13c x6 [⟨0,321,0,1⟩]),(16, .dat k13c x7 []),(17, .dat k13b x8 []),(18, .dat k13b x9 [])] [(11,some (.arr k13b x10 false))]
def Zn41:Code:=(rgt (rgt (rgt (rgt (rgt (rgt Zbj1))))))
def Zsm2 (m0:Nat):K (ResD Zzz):=sqK Zc9 m0 Zn41 0 Zl41
def Ztm2 (m0:Nat):K (ResD Zzz):=Zaa 0 (Zsm2 m0)
def Zo41:Code:=(lft (lft (rgt (lft (rgt (rgt (rgt (rgt (rgt Zbj1)))))))))
def Zn4 (m0 n:Nat):Nat→Nat→D13a→D13a→Int→Int→D13a→Option D13n:=fun x4 x5 x6 x7 x8 x9 x10=>ej Zc9 n (.loop Zo41) 0 (Zm41 x4 x5 x6 x7 x8 x9 x10) (Ztm2 m0)
theorem Zrw1 (m0 n:Nat):Zn4 m0 (n+1)=Zcd.S0 (Zn4 m0 n):=by kernel_rfl
theorem Zum2 (m0:Nat):∀ n:Nat,Zn4 m0 n=Zcd.l0 n:=
  ind rfl fun n e0=>(Zrw1 m0 n).trans (by rw [e0];rfl)
theorem Zy12 (m0:Nat) (x:ArgsD Zk41):run Zc9 Zbj1 m0 x Zl41=Zcd.S (Zn4 m0 m0) x.1:=by kernel_rfl
abbrev Zgr1:AM.Spec:=AM.spec Zk41 Zzz (fun x=>Zcd x.1)
theorem Zee3:Zi Tryz.prog 141 Zgr1:=ctrC tabOk (fn:=Tryz.f141) (fun x=>(Zy12 fu x).trans (by rw [Zum2 fu fu];rfl)) (Ze ⟨⟨Zd3,Tryz.call160,nw⟩,⟨⟨Zq5,Tryz.call161,nw⟩,⟨⟨Zjx,Tryz.call162,nw⟩,⟨⟨Zde3,Tryz.call163,fun _=>Zd rfl⟩,trivial⟩⟩⟩⟩)
abbrev Zd9:Env:=tab.env (AM.look [(81,Ztr),(107,Zm4),(108,Zdn)]) ⟨[(0,⟨tt [4,7,8,9],tt [4]⟩)],[],[],⟨tt [2,3],[]⟩,[],[81],[],[]⟩
def Zcj1:Code:=bd Tryz.f111
abbrev Za0:List (Ty×List Tag):=[(.str,[]),(k13b,[])]
abbrev Zp41:List PK:=[.val k13c]
abbrev Zq41:K (ResD Za0):=fin Zd9 [.tmp 2, .tmp 3] [] Za0
def Zr41 (x1:D13a) (x2 x3:Int) (x4:D13j):St:=mk [(4, .ptr 4 0 0),(7, .dat k13c x1 []),(8, .dat k13b x2 []),(9, .dat k13b x3 [])] [(4,some (.var (.pair (.lk false) (.sl (.int .u8))) x4 [⟨1,64258,0,0⟩]))]
def Zs41:Code:=(rgt (rgt (rgt Zcj1)))
def Zvm2 (m0:Nat):K (ResD Za0):=sqK Zd9 m0 Zs41 0 Zq41
def Zwm2 (m0:Nat):K (ResD Za0):=Zaa 0 (Zvm2 m0)
def Zt41:Code:=(lft (lft (rgt (lft (rgt (rgt Zcj1))))))
def Zo4 (m0 n:Nat):D13a→Int→Int→D13j→Option D13g:=fun x1 x2 x3 x4=>ej Zd9 n (.loop Zt41) 0 (Zr41 x1 x2 x3 x4) (Zwm2 m0)
theorem Zsw1 (m0 n:Nat):Zo4 m0 (n+1)=Zxe.S0 (Zo4 m0 n):=by kernel_rfl
theorem Zxm2 (m0:Nat):∀ n:Nat,Zo4 m0 n=Zxe.l0 n:=
  ind rfl fun n e0=>(Zsw1 m0 n).trans (by rw [e0];rfl)
theorem Zz12 (m0:Nat) (x:ArgsD Zp41):run Zd9 Zcj1 m0 x Zq41=Zxe.S (Zo4 m0 m0) x.1:=by kernel_rfl
abbrev Zhr1:AM.Spec:=AM.spec Zp41 Za0 (fun x=>Zxe x.1)
theorem Zfe3:Zi Tryz.prog 111 Zhr1:=ctrC tabOk (fn:=Tryz.f111) (fun x=>(Zz12 fu x).trans (by rw [Zxm2 fu fu];rfl)) (Ze ⟨⟨c_f81,Tryz.call81,fun _=>Zd rfl⟩,⟨⟨Zri1,Tryz.call107,nw⟩,⟨⟨Zes,Tryz.call108,nw⟩,trivial⟩⟩⟩)
abbrev Zu41:Env:=tab.env (AM.look [(141,Zgr1),(111,Zhr1),(70,Zaq),(44,Zcu),(81,Ztr)]) ⟨[],[],[],⟨tt [4,5],[]⟩,[],[44,70,81,111],[],[]⟩
def Zge3:Code:=bd Tryz.f110
abbrev Zdj1:List (Ty×List Tag):=[(.str,[]),(k13b,[])]
abbrev Zhe3:List PK:=[.val k13c, .fn 111 []]
abbrev Zie3:K (ResD Zdj1):=fin Zu41 [.tmp 4, .tmp 5] [] Zdj1
abbrev Zir1:AM.Spec:=AM.spec Zhe3 Zdj1 (fun x=>Zpi x.1)
theorem Zje3:Zi Tryz.prog 110 Zir1:=ctrC tabOk (fn:=Tryz.f110) (show ∀ x,run Zu41 Zge3 fu x Zie3=_ from fun x=>by kernel_rfl) (Ze ⟨⟨Zee3,Tryz.call141,nw⟩,⟨⟨Zfe3,Tryz.call111,fun _=>Zd rfl⟩,⟨⟨c_f70,Tryz.call70,fun _=>Zd rfl⟩,⟨⟨c_f44,Tryz.call44,fun _=>Zd rfl⟩,⟨⟨c_f81,Tryz.call81,fun _=>Zd rfl⟩,trivial⟩⟩⟩⟩⟩)
abbrev E_f77:Env:=tab.env (AM.look [(110,Zir1)]) ⟨[],[],[],⟨tt [2,3],[]⟩,[],[110],[],[]⟩
def b_f77:Code:=bd Tryz.f77
abbrev R_f77:List (Ty×List Tag):=[(.str,[]),(k13b,[])]
abbrev P_f77:List PK:=[.val k13c]
abbrev K_f77:K (ResD R_f77):=fin E_f77 [.tmp 2, .tmp 3] [] R_f77
abbrev Zv41:AM.Spec:=AM.spec P_f77 R_f77 (fun x=>Zfo x.1)
theorem c_f77:Zi Tryz.prog 77 Zv41:=ctrC tabOk (fn:=Tryz.f77) (show ∀ x,run E_f77 b_f77 fu x K_f77=_ from fun x=>by kernel_rfl) (Ze ⟨⟨Zje3,Tryz.call110,fun _=>Zd rfl⟩,trivial⟩)
abbrev E_f45:Env:=tab.env (AM.look [(73,Za31),(75,Zli1),(74,Zsi1),(76,Zvi1),(77,Zv41),(70,Zaq),(44,Zcu)]) ⟨[],[],[],⟨tt [4,5],[]⟩,[],[44,70,73,74,76,77],[],[]⟩
def b_f45:Code:=bd Tryz.f45
abbrev R_f45:List (Ty×List Tag):=[(.str,[]),(k13b,[])]
abbrev P_f45:List PK:=[.val k13c, .val k13b]
abbrev K_f45:K (ResD R_f45):=fin E_f45 [.tmp 4, .tmp 5] [] R_f45
abbrev Zw41:AM.Spec:=AM.spec P_f45 R_f45 (fun x=>Zri x.1 x.2.1)
theorem c_f45:Zi Tryz.prog 45 Zw41:=ctrC tabOk (fn:=Tryz.f45) (show ∀ x,run E_f45 b_f45 fu x K_f45=_ from fun x=>by kernel_rfl) (Ze ⟨⟨c_f73,Tryz.call73,fun _=>Zd rfl⟩,⟨⟨c_f75,Tryz.call75,nw⟩,⟨⟨c_f74,Tryz.call74,fun _=>Zd rfl⟩,⟨⟨c_f76,Tryz.call76,fun _=>Zd rfl⟩,⟨⟨c_f77,Tryz.call77,fun _=>Zd rfl⟩,⟨⟨c_f70,Tryz.call70,fun _=>Zd rfl⟩,⟨⟨c_f44,Tryz.call44,fun _=>Zd rfl⟩,trivial⟩⟩⟩⟩⟩⟩⟩)
abbrev Zx41:Env:=tab.env (AM.look [(138,Zds)]) ⟨[],[],[],⟨tt [4],tt [1000000]⟩,[],[],[],[]⟩
def Zke3:Code:=bd Tryz.f112
abbrev Zej1:List (Ty×List Tag):=[((.lk true),[]),((.pair (.lk false) (.sl (.int .u8))),[⟨1,1,0,0⟩])]
abbrev Zle3:List PK:=[.io (.pair (.lk false) (.sl (.int .u8))) [(1,0)], .val (.int .u8)]
abbrev Zme3:K (ResD Zej1):=fin Zx41 [.tmp 4] [.io (.pair (.lk false) (.sl (.int .u8))) [(1,0)]] Zej1
abbrev Zjr1:AM.Spec:=AM.Zog 1 Zle3 Zej1 (fun x=>Zzf x.1 x.2.1)
theorem Zne3:Zi Tryz.prog 112 Zjr1:=ctrI tabOk (fn:=Tryz.f112) (show ∀ x,run Zx41 Zke3 fu x Zme3=_ from fun x=>by kernel_rfl) (Ze ⟨⟨Zz5,Tryz.call138,nw⟩,trivial⟩)
abbrev E_f78:Env:=tab.env (AM.look [(112,Zjr1),(107,Zm4),(108,Zdn)]) ⟨[(0,⟨tt [4,7,8,9],tt [4]⟩)],[],[],⟨tt [2,3],[]⟩,[],[],[],[]⟩
def b_f78:Code:=bd Tryz.f78
abbrev R_f78:List (Ty×List Tag):=[(.str,[]),(k13b,[])]
abbrev P_f78:List PK:=[.val k13a]
abbrev K_f78:K (ResD R_f78):=fin E_f78 [.tmp 2, .tmp 3] [] R_f78
def Zym2 (x1:D13e) (x2 x3:Int) (x4:D13j):St:=mk [(4, .ptr 4 0 0),(7, .dat k13a x1 []),(8, .dat k13b x2 []),(9, .dat k13b x3 [])] [(4,some (.var (.pair (.lk false) (.sl (.int .u8))) x4 [⟨1,64258,0,0⟩]))]
def Zzm2:Code:=(rgt (rgt (rgt b_f78)))
def Za22 (m0:Nat):K (ResD R_f78):=sqK E_f78 m0 Zzm2 0 K_f78
def Zb22 (m0:Nat):K (ResD R_f78):=Zaa 0 (Za22 m0)
def Zan2:Code:=(lft (lft (rgt (lft (rgt (rgt b_f78))))))
def Ze9 (m0 n:Nat):D13e→Int→Int→D13j→Option D13g:=fun x1 x2 x3 x4=>ej E_f78 n (.loop Zan2) 0 (Zym2 x1 x2 x3 x4) (Zb22 m0)
theorem Zy41 (m0 n:Nat):Ze9 m0 (n+1)=Zgc.S0 (Ze9 m0 n):=by kernel_rfl
theorem Zc22 (m0:Nat):∀ n:Nat,Ze9 m0 n=Zgc.l0 n:=
  ind rfl fun n e0=>(Zy41 m0 n).trans (by rw [e0];rfl)
theorem Zoe3 (m0:Nat) (x:ArgsD P_f78):run E_f78 b_f78 m0 x K_f78=Zgc.S (Ze9 m0 m0) x.1:=by kernel_rfl
abbrev Zfj1:AM.Spec:=AM.spec P_f78 R_f78 (fun x=>Zgc x.1)
theorem c_f78:Zi Tryz.prog 78 Zfj1:=ctrC tabOk (fn:=Tryz.f78) (fun x=>(Zoe3 fu x).trans (by rw [Zc22 fu fu];rfl)) (Ze ⟨⟨Zne3,Tryz.call112,nw⟩,⟨⟨Zri1,Tryz.call107,nw⟩,⟨⟨Zes,Tryz.call108,nw⟩,trivial⟩⟩⟩)
abbrev Zz41:Env:=tab.env (AM.look []) ⟨[],[],[],⟨tt [2],[]⟩,[],[],[],[]⟩
def Zpe3:Code:=bd Tryz.f174
abbrev Zgj1:List (Ty×List Tag):=[(.bool,[])]
abbrev Zqe3:List PK:=[.val .str]
abbrev Zre3:K (ResD Zgj1):=fin Zz41 [.tmp 2] [] Zgj1
abbrev Zkr1:AM.Spec:=AM.spec Zqe3 Zgj1 (fun x=>some (cmp_isNaN_string x.1))
theorem Zse3:Zi Tryz.prog 174 Zkr1:=ctrC tabOk (fn:=Tryz.f174) (show ∀ x,run Zz41 Zpe3 fu x Zre3=_ from fun x=>by kernel_rfl) (Ze trivial)
abbrev Zhj1:Env:=tab.env (AM.look [(174,Zkr1)]) ⟨[],[],[],⟨tt [4],[]⟩,[],[174],[],[]⟩
def Za51:Code:=bd Tryz.f144
abbrev Zij1:List (Ty×List Tag):=[(.bool,[])]
abbrev Zjj1:List PK:=[.val .str, .val .str]
abbrev Zb51:K (ResD Zij1):=fin Zhj1 [.tmp 4] [] Zij1
theorem Zc51 (m0:Nat) (x:ArgsD Zjj1):run Zhj1 Za51 m0 x Zb51=cmp_Less_string.o x.1 x.2.1:=by kernel_rfl
theorem Zd22 (m0:Nat) (x:ArgsD Zjj1):run Zhj1 Za51 m0 x Zb51=some (cmp_Less_string x.1 x.2.1):=(Zc51 m0 x).trans (by unfold cmp_Less_string.o cmp_Less_string;simp only [Zfl])
abbrev Zlr1:AM.Spec:=AM.spec Zjj1 Zij1 (fun x=>some (cmp_Less_string x.1 x.2.1))
theorem Zte3:Zi Tryz.prog 144 Zlr1:=ctrC tabOk (fn:=Tryz.f144) (fun x=>Zd22 fu x) (Ze ⟨⟨Zse3,Tryz.call174,fun _=>Zd rfl⟩,trivial⟩)
abbrev Zd51:Env:=tab.env (AM.look []) ⟨[],[],[],⟨tt [2],[]⟩,[],[],[],[]⟩
def Zue3:Code:=bd Tryz.f145
abbrev Zkj1:List (Ty×List Tag):=[(.bool,[])]
abbrev Zve3:List PK:=[.val .str]
abbrev Zwe3:K (ResD Zkj1):=fin Zd51 [.tmp 2] [] Zkj1
abbrev Zmr1:AM.Spec:=AM.spec Zve3 Zkj1 (fun x=>some (Zqk x.1))
theorem Zxe3:Zi Tryz.prog 145 Zmr1:=ctrC tabOk (fn:=Tryz.f145) (show ∀ x,run Zd51 Zue3 fu x Zwe3=_ from fun x=>by kernel_rfl) (Ze trivial)
abbrev Zlu:Env:=tab.env (AM.look [(144,Zlr1),(145,Zmr1)]) ⟨[(0,⟨tt [0,1,6,7,8],[]⟩)],[],[(8,⟨tt [0,1,6,7],[]⟩)],⟨tt [4,5],[]⟩,[],[144,145],[],[]⟩
def Zf9:Code:=bd Tryz.f117
abbrev Zb0:List (Ty×List Tag):=[(k13b,[]),(.bool,[])]
abbrev Ze51:List PK:=[.val k13a, .val .str]
abbrev Zg9:K (ResD Zb0):=fin Zlu [.tmp 4, .tmp 5] [] Zb0
def Zf51 (x7:D13e) (x8:ByteArray) (x9 x10:Int):St:=mk [(0, .dat k13a x7 []),(1, .dat .str x8 []),(6, .dat k13b x9 []),(7, .dat k13b x10 [])] []
def Zg51 (x1:D13e) (x2:ByteArray) (x3 x4 x5:Int):St:=mk [(0, .dat k13a x1 []),(1, .dat .str x2 []),(6, .dat k13b x3 []),(7, .dat k13b x4 []),(8, .dat k13b x5 [])] []
def Zie1:Code:=(rgt (rgt (rgt (rgt Zf9))))
def Zmu (m0 n:Nat):D13e→ByteArray→Int→Int→Option (Int×Bool):=fun x7 x8 x9 x10=>ej Zlu n (.tail Zie1) 0 (Zf51 x7 x8 x9 x10) Zg9
theorem Ztw1 (m0 n:Nat):Zmu m0 (n+1)=Zp.S1:=by kernel_rfl
theorem Zbn2 (m0:Nat):∀ n:Nat,Zmu m0 n=Zp.t1 n:=
  ind rfl fun n _=>Ztw1 m0 n
def Zcn2 (m0:Nat):K (ResD Zb0):=sqK Zlu m0 Zie1 0 Zg9
def Zdn2 (m0:Nat):K (ResD Zb0):=Zaa 0 (Zcn2 m0)
def Zh51:Code:=(lft (lft (lft (rgt (rgt (rgt Zf9))))))
def Znu (m0 n:Nat):D13e→ByteArray→Int→Int→Int→Option (Int×Bool):=fun x1 x2 x3 x4 x5=>ej Zlu n (.loop Zh51) 0 (Zg51 x1 x2 x3 x4 x5) (Zdn2 m0)
theorem Zuw1 (m0 n:Nat):Znu m0 (n+1)=Zp.S0 (Zmu m0 m0) (Znu m0 n):=by kernel_rfl
theorem Zen2 (m0:Nat):∀ n:Nat,Znu m0 n=Zp.l0 (Zmu m0 m0) n:=
  ind rfl fun n e0=>(Zuw1 m0 n).trans (by rw [e0];rfl)
theorem Ze22 (m0:Nat) (x:ArgsD Ze51):run Zlu Zf9 m0 x Zg9=Zp.S (Znu m0 m0) x.1 x.2.1:=by kernel_rfl
abbrev Znr1:AM.Spec:=AM.spec Ze51 Zb0 (fun x=>Zp x.1 x.2.1)
theorem Zye3:Zi Tryz.prog 117 Znr1:=ctrC tabOk (fn:=Tryz.f117) (show ∀ x,run Zlu Zf9 fu x Zg9=_ from fun x=>by
  have e1:Zmu fu fu=Zp.t1 fu:=Zbn2 fu fu
  have e0:Znu fu fu=Zp.l0 (Zp.t1 fu) fu:=by rw [← e1];exact Zen2 fu fu
  refine (Ze22 fu x).trans ?_
  rw [e0];rfl) (Ze ⟨⟨Zte3,Tryz.call144,fun _=>Zd rfl⟩,⟨⟨Zxe3,Tryz.call145,fun _=>Zd rfl⟩,trivial⟩⟩)
abbrev E_f80:Env:=tab.env (AM.look [(114,Zqm),(115,Zrn),(116,Zel),(117,Znr1)]) ⟨[(0,⟨tt [4,5,16,17,18],tt [11]⟩)],[],[],⟨tt [2,3],tt [11]⟩,[2,4,11,12,14,15,23,33],[117],[(115,[true]),(116,[true])],[]⟩
def b_f80:Code:=bd Tryz.f80
abbrev R_f80:List (Ty×List Tag):=[(k13a,[]),(k13c,[⟨0,1,0,1⟩])]
abbrev P_f80:List PK:=[.val k13a]
abbrev K_f80:K (ResD R_f80):=fin E_f80 [.tmp 2, .tmp 3] [] R_f80
def Zfn2 (x4 x5:Nat) (x6:D13a) (x7:D13e) (x8 x9:Int) (x10:D13e):St:=mk [(4, .slm 11 0 x4 x5),(5, .dat k13c x6 [⟨0,321,0,1⟩]),(16, .dat k13a x7 []),(17, .dat k13b x8 []),(18, .dat k13b x9 [])] [(11,some (.arr .str x10 false))]
def Zgn2:Code:=(rgt (rgt (rgt (rgt (rgt (rgt b_f80))))))
def Zf22 (m0:Nat):K (ResD R_f80):=sqK E_f80 m0 Zgn2 0 K_f80
def Zg22 (m0:Nat):K (ResD R_f80):=Zaa 0 (Zf22 m0)
def Zhn2:Code:=(lft (lft (rgt (lft (rgt (rgt (rgt (rgt (rgt b_f80)))))))))
def Zh9 (m0 n:Nat):Nat→Nat→D13a→D13e→Int→Int→D13e→Option D13r:=fun x4 x5 x6 x7 x8 x9 x10=>ej E_f80 n (.loop Zhn2) 0 (Zfn2 x4 x5 x6 x7 x8 x9 x10) (Zg22 m0)
theorem Zi51 (m0 n:Nat):Zh9 m0 (n+1)=Zac.S0 (Zh9 m0 n):=by kernel_rfl
theorem Zh22 (m0:Nat):∀ n:Nat,Zh9 m0 n=Zac.l0 n:=
  ind rfl fun n e0=>(Zi51 m0 n).trans (by rw [e0];rfl)
theorem Zze3 (m0:Nat) (x:ArgsD P_f80):run E_f80 b_f80 m0 x K_f80=Zac.S (Zh9 m0 m0) x.1:=by kernel_rfl
abbrev Zlj1:AM.Spec:=AM.spec P_f80 R_f80 (fun x=>Zac x.1)
theorem c_f80:Zi Tryz.prog 80 Zlj1:=ctrC tabOk (fn:=Tryz.f80) (fun x=>(Zze3 fu x).trans (by rw [Zh22 fu fu];rfl)) (Ze ⟨⟨Zgw,Tryz.call114,nw⟩,⟨⟨Zix,Tryz.call115,nw⟩,⟨⟨Zls,Tryz.call116,nw⟩,⟨⟨Zye3,Tryz.call117,fun _=>Zd rfl⟩,trivial⟩⟩⟩⟩)
abbrev Zj51:Env:=tab.env (AM.look [(80,Zlj1),(78,Zfj1),(70,Zaq),(44,Zcu),(81,Ztr)]) ⟨[],[],[],⟨tt [4,5],[]⟩,[],[44,70,78,81],[],[]⟩
def Zaf3:Code:=bd Tryz.f113
abbrev Zmj1:List (Ty×List Tag):=[(.str,[]),(k13b,[])]
abbrev Zbf3:List PK:=[.val k13a, .fn 78 []]
abbrev Zcf3:K (ResD Zmj1):=fin Zj51 [.tmp 4, .tmp 5] [] Zmj1
abbrev Zor1:AM.Spec:=AM.spec Zbf3 Zmj1 (fun x=>Zkg x.1)
theorem Zdf3:Zi Tryz.prog 113 Zor1:=ctrC tabOk (fn:=Tryz.f113) (show ∀ x,run Zj51 Zaf3 fu x Zcf3=_ from fun x=>by kernel_rfl) (Ze ⟨⟨c_f80,Tryz.call80,nw⟩,⟨⟨c_f78,Tryz.call78,fun _=>Zd rfl⟩,⟨⟨c_f70,Tryz.call70,fun _=>Zd rfl⟩,⟨⟨c_f44,Tryz.call44,fun _=>Zd rfl⟩,⟨⟨c_f81,Tryz.call81,fun _=>Zd rfl⟩,trivial⟩⟩⟩⟩⟩)
abbrev E_f79:Env:=tab.env (AM.look [(113,Zor1)]) ⟨[],[],[],⟨tt [2,3],[]⟩,[],[113],[],[]⟩
def b_f79:Code:=bd Tryz.f79
abbrev R_f79:List (Ty×List Tag):=[(.str,[]),(k13b,[])]
abbrev P_f79:List PK:=[.val k13a]
abbrev K_f79:K (ResD R_f79):=fin E_f79 [.tmp 2, .tmp 3] [] R_f79
abbrev Zk51:AM.Spec:=AM.spec P_f79 R_f79 (fun x=>Zan x.1)
theorem c_f79:Zi Tryz.prog 79 Zk51:=ctrC tabOk (fn:=Tryz.f79) (show ∀ x,run E_f79 b_f79 fu x K_f79=_ from fun x=>by kernel_rfl) (Ze ⟨⟨Zdf3,Tryz.call113,fun _=>Zd rfl⟩,trivial⟩)
abbrev E_f46:Env:=tab.env (AM.look [(78,Zfj1),(79,Zk51),(80,Zlj1),(75,Zli1),(74,Zsi1),(81,Ztr)]) ⟨[],[],[],⟨tt [4,5],[]⟩,[],[74,78,79,81],[],[]⟩
def b_f46:Code:=bd Tryz.f46
abbrev R_f46:List (Ty×List Tag):=[(.str,[]),(k13b,[])]
abbrev P_f46:List PK:=[.val k13a, .val k13b]
abbrev K_f46:K (ResD R_f46):=fin E_f46 [.tmp 4, .tmp 5] [] R_f46
abbrev Zl51:AM.Spec:=AM.spec P_f46 R_f46 (fun x=>Zok x.1 x.2.1)
theorem c_f46:Zi Tryz.prog 46 Zl51:=ctrC tabOk (fn:=Tryz.f46) (show ∀ x,run E_f46 b_f46 fu x K_f46=_ from fun x=>by kernel_rfl) (Ze ⟨⟨c_f78,Tryz.call78,fun _=>Zd rfl⟩,⟨⟨c_f79,Tryz.call79,fun _=>Zd rfl⟩,⟨⟨c_f80,Tryz.call80,nw⟩,⟨⟨c_f75,Tryz.call75,nw⟩,⟨⟨c_f74,Tryz.call74,fun _=>Zd rfl⟩,⟨⟨c_f81,Tryz.call81,fun _=>Zd rfl⟩,trivial⟩⟩⟩⟩⟩⟩)
abbrev E_f25:Env:=tab.env (AM.look [(45,Zw41),(46,Zl51)]) ⟨[(0,⟨tt [1,2,8,9,12,13,14],[]⟩)],[],[(8,⟨tt [1,2,8,9],[]⟩)],⟨tt [6,7],[]⟩,[],[45,46],[],[21,26]⟩
def b_f25:Code:=bd Tryz.f25
abbrev R_f25:List (Ty×List Tag):=[(.str,[]),(k13b,[])]
abbrev P_f25:List PK:=[.val k13g, .val k13b, .val k13b]
abbrev K_f25:K (ResD R_f25):=fin E_f25 [.tmp 6, .tmp 7] [] R_f25
def Zin2 (x8 x9:Int) (x10:D13a) (x11:D13e):St:=mk [(1, .dat k13b x8 []),(2, .dat k13b x9 []),(8, .dat k13c x10 [⟨0,513,0,1⟩]),(9, .dat k13a x11 [⟨0,577,0,1⟩])] []
def Zjn2 (x1 x2:Int) (x3:D13a) (x4:D13e) (x5:D13u) (x6 x7:Int):St:=mk [(1, .dat k13b x1 []),(2, .dat k13b x2 []),(8, .dat k13c x3 [⟨0,513,0,1⟩]),(9, .dat k13a x4 [⟨0,577,0,1⟩]),(12, .dat k13g x5 []),(13, .dat k13b x6 []),(14, .dat k13b x7 [])] []
def Znj1:Code:=(rgt (rgt (rgt (rgt b_f25))))
def Zc0 (m0 n:Nat):Int→Int→D13a→D13e→Option D13g:=fun x8 x9 x10 x11=>ej E_f25 n (.tail Znj1) 0 (Zin2 x8 x9 x10 x11) K_f25
theorem Zm51 (m0 n:Nat):Zc0 m0 (n+1)=Zza.S1:=by kernel_rfl
theorem Zi22 (m0:Nat):∀ n:Nat,Zc0 m0 n=Zza.t1 n:=
  ind rfl fun n _=>Zm51 m0 n
def Zj22 (m0:Nat):K (ResD R_f25):=sqK E_f25 m0 Znj1 0 K_f25
def Zk22 (m0:Nat):K (ResD R_f25):=Zaa 0 (Zj22 m0)
def Zkn2:Code:=(lft (lft (rgt (lft (rgt (rgt (rgt b_f25)))))))
def Zd0 (m0 n:Nat):Int→Int→D13a→D13e→D13u→Int→Int→Option D13g:=fun x1 x2 x3 x4 x5 x6 x7=>ej E_f25 n (.loop Zkn2) 0 (Zjn2 x1 x2 x3 x4 x5 x6 x7) (Zk22 m0)
theorem Zn51 (m0 n:Nat):Zd0 m0 (n+1)=Zza.S0 (Zc0 m0 m0) (Zd0 m0 n):=by kernel_rfl
theorem Zl22 (m0:Nat):∀ n:Nat,Zd0 m0 n=Zza.l0 (Zc0 m0 m0) n:=
  ind rfl fun n e0=>(Zn51 m0 n).trans (by rw [e0];rfl)
theorem Zef3 (m0:Nat) (x:ArgsD P_f25):run E_f25 b_f25 m0 x K_f25=Zza.S (Zd0 m0 m0) x.1 x.2.1 x.2.2.1:=by kernel_rfl
abbrev Zo51:AM.Spec:=AM.spec P_f25 R_f25 (fun x=>Zza x.1 x.2.1 x.2.2.1)
theorem c_f25:Zi Tryz.prog 25 Zo51:=ctrC tabOk (fn:=Tryz.f25) (show ∀ x,run E_f25 b_f25 fu x K_f25=_ from fun x=>by
  have e1:Zc0 fu fu=Zza.t1 fu:=Zi22 fu fu
  have e0:Zd0 fu fu=Zza.l0 (Zza.t1 fu) fu:=by rw [← e1];exact Zl22 fu fu
  refine (Zef3 fu x).trans ?_
  rw [e0];rfl) (Ze ⟨⟨c_f45,Tryz.call45,fun _=>Zd rfl⟩,⟨⟨c_f46,Tryz.call46,fun _=>Zd rfl⟩,trivial⟩⟩)
abbrev E_f82:Env:=tab.env (AM.look []) ⟨[(0,⟨tt [1,5,11,12],[]⟩),(2,⟨tt [1,5,11,12,21],[]⟩)],[],[],⟨tt [4],[]⟩,[],[],[],[]⟩
def b_f82:Code:=bd Tryz.f82
abbrev R_f82:List (Ty×List Tag):=[(k13b,[])]
abbrev P_f82:List PK:=[.val k13b, .val .str]
abbrev K_f82:K (ResD R_f82):=fin E_f82 [.tmp 4] [] R_f82
def Zln2 (x5:ByteArray) (x6 x7:Int) (x8 x9:Int):St:=mk [(1, .dat .str x5 []),(5, .dat (.int .u32) x6 []),(11, .dat k13b x7 []),(12, .dat k13b x8 []),(21, .dat k13b x9 [])] []
def Zmn2 (x1:ByteArray) (x2 x3 x4:Int):St:=mk [(1, .dat .str x1 []),(5, .dat (.int .u32) x2 []),(11, .dat k13b x3 []),(12, .dat k13b x4 [])] []
def Znn2:Code:=(rgt (rgt (rgt b_f82)))
def Zm22 (m0:Nat):K (ResD R_f82):=sqK E_f82 m0 Znn2 0 K_f82
def Zpr1 (m0:Nat):K (ResD R_f82):=Zaa 0 (Zm22 m0)
def Zdx:Code:=(lft (lft (rgt (lft (rgt (rgt b_f82))))))
def Ze0 (m0 n:Nat):ByteArray→Int→Int→Int→Option Int:=fun x1 x2 x3 x4=>ej E_f82 n (.loop Zdx) 0 (Zmn2 x1 x2 x3 x4) (Zpr1 m0)
def Zn22 (m0 m1:Nat):K (ResD R_f82):=lpK E_f82 m1 Zdx 0 (Zpr1 m0)
def Zon2:Code:=(rgt (rgt (rgt Zdx)))
def Zo22 (m0 m1:Nat):K (ResD R_f82):=sqK E_f82 m1 Zon2 0 (Zn22 m0 m1)
def Zp22 (m0 m1:Nat):K (ResD R_f82):=Zaa 1 (Zo22 m0 m1)
def Zq22 (m0 m1:Nat):K (ResD R_f82):=Zaa 2 (Zp22 m0 m1)
def Zpn2:Code:=(lft (lft (rgt (rgt (rgt (lft (lft (rgt (rgt Zdx)))))))))
def Zf0 (m0 m1 n:Nat):ByteArray→Int→Int→Int→Int→Option Int:=fun x5 x6 x7 x8 x9=>ej E_f82 n (.loop Zpn2) 2 (Zln2 x5 x6 x7 x8 x9) (Zq22 m0 m1)
theorem Zp51 (m0 m1 n:Nat):Zf0 m0 m1 (n+1)=Zjb.S1 (Ze0 m0 m1) (Zf0 m0 m1 n):=by kernel_rfl
theorem Zr22 (m0 m1:Nat):∀ n:Nat,Zf0 m0 m1 n=Zjb.l1 (Ze0 m0 m1) n:=
  ind rfl fun n e1=>(Zp51 m0 m1 n).trans (by rw [e1];rfl)
theorem Zq51 (m0 n:Nat):Ze0 m0 (n+1)=Zjb.S0 (Zf0 m0 n n):=by kernel_rfl
theorem Zs22 (m0:Nat):∀ n:Nat,Ze0 m0 n=Zjb.l0 n:=
  ind rfl fun n e0=>by
    have e1:Zf0 m0 n n=Zjb.l1 (Zjb.l0 n) n:=by rw [← e0];exact Zr22 m0 n n
    rw [Zq51 m0 n,e1];rfl
theorem Zff3 (m0:Nat) (x:ArgsD P_f82):run E_f82 b_f82 m0 x K_f82=Zjb.S (Ze0 m0 m0) x.1 x.2.1:=by kernel_rfl
abbrev Zr51:AM.Spec:=AM.spec P_f82 R_f82 (fun x=>Zjb x.1 x.2.1)
theorem c_f82:Zi Tryz.prog 82 Zr51:=ctrC tabOk (fn:=Tryz.f82) (fun x=>(Zff3 fu x).trans (by rw [Zs22 fu fu];rfl)) (Ze trivial)
abbrev E_f47:Env:=tab.env (AM.look [(82,Zr51)]) ⟨[],[],[],⟨tt [2],[]⟩,[],[82],[],[]⟩
def b_f47:Code:=bd Tryz.f47
abbrev R_f47:List (Ty×List Tag):=[(k13b,[])]
abbrev P_f47:List PK:=[.val .str]
abbrev K_f47:K (ResD R_f47):=fin E_f47 [.tmp 2] [] R_f47
abbrev Zs51:AM.Spec:=AM.spec P_f47 R_f47 (fun x=>Zus x.1)
theorem c_f47:Zi Tryz.prog 47 Zs51:=ctrC tabOk (fn:=Tryz.f47) (show ∀ x,run E_f47 b_f47 fu x K_f47=_ from fun x=>by kernel_rfl) (Ze ⟨⟨c_f82,Tryz.call82,fun _=>Zd rfl⟩,trivial⟩)
abbrev E_f26:Env:=tab.env (AM.look [(47,Zs51)]) ⟨[(0,⟨tt [3,4,16],[]⟩)],[],[],⟨tt [2],[]⟩,[],[47],[],[]⟩
def b_f26:Code:=bd Tryz.f26
abbrev R_f26:List (Ty×List Tag):=[(.str,[])]
abbrev P_f26:List PK:=[.val .str]
abbrev K_f26:K (ResD R_f26):=fin E_f26 [.tmp 2] [] R_f26
def Zqn2 (x2:Int) (x3:D13a) (x4:Int):St:=mk [(3, .dat (.int .u32) x2 []),(4, .dat (.sl (.int .u8)) x3 [⟨0,257,0,0⟩]),(16, .dat k13b x4 [])] []
def Zrn2:Code:=(rgt (rgt (rgt (rgt (rgt b_f26)))))
def Zt22 (m0:Nat):K (ResD R_f26):=sqK E_f26 m0 Zrn2 0 K_f26
def Zu22 (m0:Nat):K (ResD R_f26):=Zaa 0 (Zt22 m0)
def Zsn2:Code:=(lft (lft (rgt (lft (rgt (rgt (rgt (rgt b_f26))))))))
def Zi9 (m0 n:Nat):Int→D13a→Int→Option ByteArray:=fun x2 x3 x4=>ej E_f26 n (.loop Zsn2) 0 (Zqn2 x2 x3 x4) (Zu22 m0)
theorem Zt51 (m0 n:Nat):Zi9 m0 (n+1)=Zyc.S0 (Zi9 m0 n):=by kernel_rfl
theorem Zv22 (m0:Nat):∀ n:Nat,Zi9 m0 n=Zyc.l0 n:=
  ind rfl fun n e0=>(Zt51 m0 n).trans (by rw [e0];rfl)
theorem Zgf3 (m0:Nat) (x:ArgsD P_f26):run E_f26 b_f26 m0 x K_f26=Zyc.S (Zi9 m0 m0) x.1:=by kernel_rfl
abbrev Zoj1:AM.Spec:=AM.spec P_f26 R_f26 (fun x=>Zyc x.1)
theorem c_f26:Zi Tryz.prog 26 Zoj1:=ctrC tabOk (fn:=Tryz.f26) (fun x=>(Zgf3 fu x).trans (by rw [Zv22 fu fu];rfl)) (Ze ⟨⟨c_f47,Tryz.call47,fun _=>Zd rfl⟩,trivial⟩)
abbrev E_f10:Env:=tab.env (AM.look [(23,Zb21),(24,Zx21),(25,Zo51),(26,Zoj1)]) ⟨[],[],[],⟨tt [6,7],[]⟩,[],[23,25,26],[],[]⟩
def b_f10:Code:=bd Tryz.f10
abbrev R_f10:List (Ty×List Tag):=[(.str,[]),(k13b,[])]
abbrev P_f10:List PK:=[.val k13g, .val k13b, .val k13b]
abbrev K_f10:K (ResD R_f10):=fin E_f10 [.tmp 6, .tmp 7] [] R_f10
abbrev Zpj1:AM.Spec:=AM.spec P_f10 R_f10 (fun x=>Zhg x.1 x.2.1 x.2.2.1)
theorem c_f10:Zi Tryz.prog 10 Zpj1:=ctrC tabOk (fn:=Tryz.f10) (show ∀ x,run E_f10 b_f10 fu x K_f10=_ from fun x=>by kernel_rfl) (Ze ⟨⟨c_f23,Tryz.call23,fun _=>Zd rfl⟩,⟨⟨c_f24,Tryz.call24,nw⟩,⟨⟨c_f25,Tryz.call25,fun _=>Zd rfl⟩,⟨⟨c_f26,Tryz.call26,fun _=>Zd rfl⟩,trivial⟩⟩⟩⟩)
abbrev E_f54:Env:=tab.env (AM.look [(26,Zoj1)]) ⟨[],[],[],⟨tt [2,3],[]⟩,[],[26],[],[]⟩
def b_f54:Code:=bd Tryz.f54
abbrev R_f54:List (Ty×List Tag):=[(.str,[]),(k13b,[])]
abbrev P_f54:List PK:=[.val .str]
abbrev K_f54:K (ResD R_f54):=fin E_f54 [.tmp 2, .tmp 3] [] R_f54
abbrev Zu51:AM.Spec:=AM.spec P_f54 R_f54 (fun x=>Ztl x.1)
theorem c_f54:Zi Tryz.prog 54 Zu51:=ctrC tabOk (fn:=Tryz.f54) (show ∀ x,run E_f54 b_f54 fu x K_f54=_ from fun x=>by kernel_rfl) (Ze ⟨⟨c_f26,Tryz.call26,fun _=>Zd rfl⟩,trivial⟩)
abbrev Zj9:Env:=tab.env (AM.look [(72,Zji1)]) ⟨[(0,⟨tt [0,2,7,8,9],[]⟩)],[],[],⟨tt [6],[]⟩,[],[72],[],[]⟩
def Zqj1:Code:=bd Tryz.f148
abbrev Zg0:List (Ty×List Tag):=[(k13b,[])]
abbrev Zv51:List PK:=[.val .str, .val k13b, .val k13b]
abbrev Zw51:K (ResD Zg0):=fin Zj9 [.tmp 6] [] Zg0
def Zx51 (x1:ByteArray) (x2 x3:Int) (x4 x5:Int):St:=mk [(0, .dat .str x1 []),(2, .dat k13b x2 []),(7, .dat (.int .u64) x3 []),(8, .dat k13b x4 []),(9, .dat k13b x5 [])] []
def Zy51:Code:=(rgt (rgt (rgt (rgt Zqj1))))
def Ztn2 (m0:Nat):K (ResD Zg0):=sqK Zj9 m0 Zy51 0 Zw51
def Zun2 (m0:Nat):K (ResD Zg0):=Zaa 0 (Ztn2 m0)
def Zz51:Code:=(lft (lft (lft (rgt (rgt (rgt Zqj1))))))
def Zp4 (m0 n:Nat):ByteArray→Int→Int→Int→Int→Option Int:=fun x1 x2 x3 x4 x5=>ej Zj9 n (.loop Zz51) 0 (Zx51 x1 x2 x3 x4 x5) (Zun2 m0)
theorem Zvw1 (m0 n:Nat):Zp4 m0 (n+1)=Zre.S0 (Zp4 m0 n):=by kernel_rfl
theorem Zvn2 (m0:Nat):∀ n:Nat,Zp4 m0 n=Zre.l0 n:=
  ind rfl fun n e0=>(Zvw1 m0 n).trans (by rw [e0];rfl)
theorem Zw22 (m0:Nat) (x:ArgsD Zv51):run Zj9 Zqj1 m0 x Zw51=Zre.S (Zp4 m0 m0) x.1 x.2.1 x.2.2.1:=by kernel_rfl
abbrev Zqr1:AM.Spec:=AM.spec Zv51 Zg0 (fun x=>Zre x.1 x.2.1 x.2.2.1)
theorem Zhf3:Zi Tryz.prog 148 Zqr1:=ctrC tabOk (fn:=Tryz.f148) (fun x=>(Zw22 fu x).trans (by rw [Zvn2 fu fu];rfl)) (Ze ⟨⟨c_f72,Tryz.call72,fun _=>Zd rfl⟩,trivial⟩)
abbrev Zh0:Env:=tab.env (AM.look [(71,Zii1),(148,Zqr1)]) ⟨[(0,⟨tt [0,2,9,49,50],tt [48]⟩)],[],[(8,⟨tt [0,1,2],[]⟩)],⟨tt [6,7],tt [6,48]⟩,[6,9,48,53,61],[71,148],[],[]⟩
def Zk9:Code:=bd Tryz.f126
abbrev Zi0:List (Ty×List Tag):=[(k13c,[]),(k13b,[])]
abbrev Za61:List PK:=[.val .str, .val k13b, .val k13b]
abbrev Zrj1:K (ResD Zi0):=fin Zh0 [.tmp 6, .tmp 7] [] Zi0
def Zb61 (x5:ByteArray) (x6 x7 x8:Int) (x9:D13a):St:=mk [(0, .dat .str x5 []),(2, .dat k13b x6 []),(9, .slw 48 0),(49, .dat k13b x7 []),(50, .dat k13b x8 [])] [(48,some (.arr k13b x9 false))]
def Zc61 (x2:ByteArray) (x3 x4:Int):St:=mk [(0, .dat .str x2 []),(1, .dat k13b x3 []),(2, .dat k13b x4 [])] []
def Zd61:Code:=(rgt (rgt (rgt (rgt (rgt (rgt Zk9))))))
def Zwn2 (m0 m1:Nat):K (ResD Zi0):=sqK Zh0 m1 Zd61 0 Zrj1
def Zxn2 (m0 m1:Nat):K (ResD Zi0):=Zaa 0 (Zwn2 m0 m1)
def Ze61:Code:=(lft (lft (rgt (lft (rgt (rgt (rgt (rgt (rgt Zk9)))))))))
def Zou (m0 m1 n:Nat):ByteArray→Int→Int→Int→D13a→Option D13h:=fun x5 x6 x7 x8 x9=>ej Zh0 n (.loop Ze61) 0 (Zb61 x5 x6 x7 x8 x9) (Zxn2 m0 m1)
theorem Zww1 (m0 m1 n:Nat):Zou m0 m1 (n+1)=Zab.S1 (Zou m0 m1 n):=by kernel_rfl
theorem Zyn2 (m0 m1:Nat):∀ n:Nat,Zou m0 m1 n=Zab.l1 n:=
  ind rfl fun n e1=>(Zww1 m0 m1 n).trans (by rw [e1];rfl)
def Zf61:Code:=(rgt (rgt (rgt (rgt Zk9))))
def Zpc1 (m0 n:Nat):ByteArray→Int→Int→Option D13h:=fun x2 x3 x4=>ej Zh0 n (.tail Zf61) 0 (Zc61 x2 x3 x4) Zrj1
theorem Zxw1 (m0 n:Nat):Zpc1 m0 (n+1)=Zab.S0 (Zou m0 n n):=by kernel_rfl
theorem Zzn2 (m0:Nat):∀ n:Nat,Zpc1 m0 n=Zab.t0 n:=
  ind rfl fun n e0=>by
    have e1:Zou m0 n n=Zab.l1 n:=Zyn2 m0 n n
    rw [Zxw1 m0 n,e1];rfl
theorem Zx22 (m0:Nat) (x:ArgsD Za61):run Zh0 Zk9 m0 x Zrj1=Zab.S (Zpc1 m0 m0) x.1 x.2.1 x.2.2.1:=by kernel_rfl
abbrev Zcr:AM.Spec:=AM.spec Za61 Zi0 (fun x=>Zab x.1 x.2.1 x.2.2.1)
theorem Zj0:Zi Tryz.prog 126 Zcr:=ctrC tabOk (fn:=Tryz.f126) (fun x=>(Zx22 fu x).trans (by rw [Zzn2 fu fu];rfl)) (Ze ⟨⟨c_f71,Tryz.call71,fun _=>Zd rfl⟩,⟨⟨Zhf3,Tryz.call148,fun _=>Zd rfl⟩,trivial⟩⟩)
abbrev Zl9:Env:=tab.env (AM.look []) ⟨[(0,⟨tt [0,1,7,8],[]⟩)],[],[],⟨tt [4],[]⟩,[],[],[],[]⟩
def Zsj1:Code:=bd Tryz.f149
abbrev Zk0:List (Ty×List Tag):=[(k13b,[])]
abbrev Zg61:List PK:=[.val k13c, .val k13b]
abbrev Zh61:K (ResD Zk0):=fin Zl9 [.tmp 4] [] Zk0
def Zi61 (x1:D13a) (x2 x3 x4:Int):St:=mk [(0, .dat k13c x1 []),(1, .dat k13b x2 []),(7, .dat k13b x3 []),(8, .dat k13b x4 [])] []
def Zj61:Code:=(rgt (rgt Zsj1))
def Zao2 (m0:Nat):K (ResD Zk0):=sqK Zl9 m0 Zj61 0 Zh61
def Zbo2 (m0:Nat):K (ResD Zk0):=Zaa 0 (Zao2 m0)
def Zk61:Code:=(lft (lft (rgt (lft (rgt Zsj1)))))
def Zq4 (m0 n:Nat):D13a→Int→Int→Int→Option Int:=fun x1 x2 x3 x4=>ej Zl9 n (.loop Zk61) 0 (Zi61 x1 x2 x3 x4) (Zbo2 m0)
theorem Zyw1 (m0 n:Nat):Zq4 m0 (n+1)=Zkb.S0 (Zq4 m0 n):=by kernel_rfl
theorem Zco2 (m0:Nat):∀ n:Nat,Zq4 m0 n=Zkb.l0 n:=
  ind rfl fun n e0=>(Zyw1 m0 n).trans (by rw [e0];rfl)
theorem Zy22 (m0:Nat) (x:ArgsD Zg61):run Zl9 Zsj1 m0 x Zh61=Zkb.S (Zq4 m0 m0) x.1 x.2.1:=by kernel_rfl
abbrev Zrr1:AM.Spec:=AM.spec Zg61 Zk0 (fun x=>Zkb x.1 x.2.1)
theorem Zif3:Zi Tryz.prog 149 Zrr1:=ctrC tabOk (fn:=Tryz.f149) (fun x=>(Zy22 fu x).trans (by rw [Zco2 fu fu];rfl)) (Ze trivial)
abbrev Zl61:Env:=tab.env (AM.look [(149,Zrr1)]) ⟨[],[],[],⟨tt [4],[]⟩,[],[149],[],[]⟩
def Zjf3:Code:=bd Tryz.f127
abbrev Ztj1:List (Ty×List Tag):=[(.bool,[])]
abbrev Zkf3:List PK:=[.val k13c, .val k13b]
abbrev Zlf3:K (ResD Ztj1):=fin Zl61 [.tmp 4] [] Ztj1
abbrev Zsr1:AM.Spec:=AM.spec Zkf3 Ztj1 (fun x=>Zzg x.1 x.2.1)
theorem Zmf3:Zi Tryz.prog 127 Zsr1:=ctrC tabOk (fn:=Tryz.f127) (show ∀ x,run Zl61 Zjf3 fu x Zlf3=_ from fun x=>by kernel_rfl) (Ze ⟨⟨Zif3,Tryz.call149,fun _=>Zd rfl⟩,trivial⟩)
abbrev E_f95:Env:=tab.env (AM.look [(126,Zcr),(127,Zsr1)]) ⟨[],[],[],⟨tt [4,5],tt [17]⟩,[],[127],[],[]⟩
def b_f95:Code:=bd Tryz.f95
abbrev R_f95:List (Ty×List Tag):=[(k13c,[]),(k13b,[])]
abbrev P_f95:List PK:=[.val .str, .val k13b]
abbrev K_f95:K (ResD R_f95):=fin E_f95 [.tmp 4, .tmp 5] [] R_f95
abbrev Zuj1:AM.Spec:=AM.spec P_f95 R_f95 (fun x=>Zpg x.1 x.2.1)
theorem c_f95:Zi Tryz.prog 95 Zuj1:=ctrC tabOk (fn:=Tryz.f95) (show ∀ x,run E_f95 b_f95 fu x K_f95=_ from fun x=>by kernel_rfl) (Ze ⟨⟨Zj0,Tryz.call126,nw⟩,⟨⟨Zmf3,Tryz.call127,fun _=>Zd rfl⟩,trivial⟩⟩)
abbrev E_f55:Env:=tab.env (AM.look [(95,Zuj1)]) ⟨[(0,⟨tt [7,8,17,18,19],[]⟩)],[],[],⟨tt [4,5],[]⟩,[],[],[],[]⟩
def b_f55:Code:=bd Tryz.f55
abbrev R_f55:List (Ty×List Tag):=[(k13b,[]),(k13b,[])]
abbrev P_f55:List PK:=[.val .str, .val k13b]
abbrev K_f55:K (ResD R_f55):=fin E_f55 [.tmp 4, .tmp 5] [] R_f55
def Zdo2 (x2 x3:Int) (x4:D13a) (x5 x6:Int):St:=mk [(7, .dat k13b x2 []),(8, .dat k13b x3 []),(17, .dat k13c x4 []),(18, .dat k13b x5 []),(19, .dat k13b x6 [])] []
def Zeo2:Code:=(rgt (rgt (rgt (rgt b_f55))))
def Zz22 (m0:Nat):K (ResD R_f55):=sqK E_f55 m0 Zeo2 0 K_f55
def Za32 (m0:Nat):K (ResD R_f55):=Zaa 0 (Zz22 m0)
def Zfo2:Code:=(lft (lft (rgt (lft (rgt (rgt (rgt b_f55)))))))
def Zm9 (m0 n:Nat):Int→Int→D13a→Int→Int→Option D13b:=fun x2 x3 x4 x5 x6=>ej E_f55 n (.loop Zfo2) 0 (Zdo2 x2 x3 x4 x5 x6) (Za32 m0)
theorem Zm61 (m0 n:Nat):Zm9 m0 (n+1)=Zhc.S0 (Zm9 m0 n):=by kernel_rfl
theorem Zb32 (m0:Nat):∀ n:Nat,Zm9 m0 n=Zhc.l0 n:=
  ind rfl fun n e0=>(Zm61 m0 n).trans (by rw [e0];rfl)
theorem Znf3 (m0:Nat) (x:ArgsD P_f55):run E_f55 b_f55 m0 x K_f55=Zhc.S (Zm9 m0 m0) x.1 x.2.1:=by kernel_rfl
abbrev Zvj1:AM.Spec:=AM.spec P_f55 R_f55 (fun x=>Zhc x.1 x.2.1)
theorem c_f55:Zi Tryz.prog 55 Zvj1:=ctrC tabOk (fn:=Tryz.f55) (fun x=>(Znf3 fu x).trans (by rw [Zb32 fu fu];rfl)) (Ze ⟨⟨c_f95,Tryz.call95,nw⟩,trivial⟩)
abbrev Zcq:Env:=tab.env (AM.look []) ⟨[(0,⟨tt [0,6,27,28],tt [26]⟩),(2,⟨tt [0,6,7,8,27,28,31],tt [26]⟩)],[],[],⟨tt [4,5],tt [4,26]⟩,[4,6,26,47,53],[],[],[]⟩
def Zwj1:Code:=bd Tryz.f128
abbrev Zpm:List (Ty×List Tag):=[(k13c,[]),(k13b,[])]
abbrev Zn61:List PK:=[.val .str, .val k13b]
abbrev Zo61:K (ResD Zpm):=fin Zcq [.tmp 4, .tmp 5] [] Zpm
def Zp61 (x5:ByteArray) (x6 x7:Int) (x8 x9 x10:Int) (x11:D13a):St:=mk [(0, .dat .str x5 []),(6, .slw 26 0),(7, .dat k13b x6 []),(8, .dat (.int .u64) x7 []),(27, .dat k13b x8 []),(28, .dat k13b x9 []),(31, .dat k13b x10 [])] [(26,some (.arr k13b x11 false))]
def Zq61 (x1:ByteArray) (x2 x3:Int) (x4:D13a):St:=mk [(0, .dat .str x1 []),(6, .slw 26 0),(27, .dat k13b x2 []),(28, .dat k13b x3 [])] [(26,some (.arr k13b x4 false))]
def Zr61:Code:=(rgt (rgt (rgt (rgt Zwj1))))
def Zgo2 (m0:Nat):K (ResD Zpm):=sqK Zcq m0 Zr61 0 Zo61
def Zxj1 (m0:Nat):K (ResD Zpm):=Zaa 0 (Zgo2 m0)
def Zdq:Code:=(lft (lft (rgt (lft (rgt (rgt (rgt Zwj1)))))))
def Zpu (m0 n:Nat):ByteArray→Int→Int→D13a→Option D13h:=fun x1 x2 x3 x4=>ej Zcq n (.loop Zdq) 0 (Zq61 x1 x2 x3 x4) (Zxj1 m0)
def Zho2 (m0 m1:Nat):K (ResD Zpm):=lpK Zcq m1 Zdq 0 (Zxj1 m0)
def Zs61:Code:=(rgt (rgt (rgt Zdq)))
def Zio2 (m0 m1:Nat):K (ResD Zpm):=sqK Zcq m1 Zs61 0 (Zho2 m0 m1)
def Zjo2 (m0 m1:Nat):K (ResD Zpm):=Zaa 1 (Zio2 m0 m1)
def Zt61:Code:=(rgt (rgt (rgt (lft (lft (rgt (rgt Zdq)))))))
def Zko2 (m0 m1:Nat):K (ResD Zpm):=sqK Zcq m1 Zt61 1 (Zjo2 m0 m1)
def Zlo2 (m0 m1:Nat):K (ResD Zpm):=Zaa 2 (Zko2 m0 m1)
def Zu61:Code:=(lft (lft (rgt (lft (rgt (rgt (lft (lft (rgt (rgt Zdq))))))))))
def Zqu (m0 m1 n:Nat):ByteArray→Int→Int→Int→Int→Int→D13a→Option D13h:=fun x5 x6 x7 x8 x9 x10 x11=>ej Zcq n (.loop Zu61) 2 (Zp61 x5 x6 x7 x8 x9 x10 x11) (Zlo2 m0 m1)
theorem Zzw1 (m0 m1 n:Nat):Zqu m0 m1 (n+1)=Zfa.S1 (Zpu m0 m1) (Zqu m0 m1 n):=by kernel_rfl
theorem Zmo2 (m0 m1:Nat):∀ n:Nat,Zqu m0 m1 n=Zfa.l1 (Zpu m0 m1) n:=
  ind rfl fun n e1=>(Zzw1 m0 m1 n).trans (by rw [e1];rfl)
theorem Zax1 (m0 n:Nat):Zpu m0 (n+1)=Zfa.S0 (Zqu m0 n n):=by kernel_rfl
theorem Zno2 (m0:Nat):∀ n:Nat,Zpu m0 n=Zfa.l0 n:=
  ind rfl fun n e0=>by
    have e1:Zqu m0 n n=Zfa.l1 (Zfa.l0 n) n:=by rw [← e0];exact Zmo2 m0 n n
    rw [Zax1 m0 n,e1];rfl
theorem Zc32 (m0:Nat) (x:ArgsD Zn61):run Zcq Zwj1 m0 x Zo61=Zfa.S (Zpu m0 m0) x.1 x.2.1:=by kernel_rfl
abbrev Ztr1:AM.Spec:=AM.spec Zn61 Zpm (fun x=>Zfa x.1 x.2.1)
theorem Zof3:Zi Tryz.prog 128 Ztr1:=ctrC tabOk (fn:=Tryz.f128) (fun x=>(Zc32 fu x).trans (by rw [Zno2 fu fu];rfl)) (Ze trivial)
abbrev Zv61:Env:=tab.env (AM.look []) ⟨[],[],[],⟨tt [2],[]⟩,[],[],[],[]⟩
def Zpf3:Code:=bd Tryz.f175
abbrev Zyj1:List (Ty×List Tag):=[(k13b,[])]
abbrev Zqf3:List PK:=[.val k13b]
abbrev Zrf3:K (ResD Zyj1):=fin Zv61 [.tmp 2] [] Zyj1
abbrev Zur1:AM.Spec:=AM.spec Zqf3 Zyj1 (fun x=>some (Zoc x.1))
theorem Zsf3:Zi Tryz.prog 175 Zur1:=ctrC tabOk (fn:=Tryz.f175) (show ∀ x,run Zv61 Zpf3 fu x Zrf3=_ from fun x=>by kernel_rfl) (Ze trivial)
abbrev Zw61:Env:=tab.env (AM.look [(118,Znc1),(105,Zmc1)]) ⟨[],[],[],⟨tt [2],[]⟩,[],[105,118],[],[]⟩
def Ztf3:Code:=bd Tryz.f176
abbrev Zzj1:List (Ty×List Tag):=[(k13b,[])]
abbrev Zuf3:List PK:=[.val k13b]
abbrev Zvf3:K (ResD Zzj1):=fin Zw61 [.tmp 2] [] Zzj1
abbrev Zvr1:AM.Spec:=AM.spec Zuf3 Zzj1 (fun x=>Zrr x.1)
theorem Zwf3:Zi Tryz.prog 176 Zvr1:=ctrC tabOk (fn:=Tryz.f176) (show ∀ x,run Zw61 Ztf3 fu x Zvf3=_ from fun x=>by kernel_rfl) (Ze ⟨⟨Zi31,Tryz.call118,fun _=>Zd rfl⟩,⟨⟨Zp21,Tryz.call105,fun _=>Zd rfl⟩,trivial⟩⟩)
abbrev Zn9:Env:=tab.env (AM.look [(175,Zur1),(176,Zvr1)]) ⟨[(0,⟨tt [0,5,11,12],[]⟩)],[],[],⟨tt [2,3,4],[]⟩,[],[175,176],[],[]⟩
def Zak1:Code:=bd Tryz.f150
abbrev Zl0:List (Ty×List Tag):=[(k13b,[]),(k13b,[]),(k13b,[])]
abbrev Zx61:List PK:=[.val .str]
abbrev Zy61:K (ResD Zl0):=fin Zn9 [.tmp 2, .tmp 3, .tmp 4] [] Zl0
def Zz61 (x1:ByteArray) (x2 x3 x4:Int):St:=mk [(0, .dat .str x1 []),(5, .dat (.int .u64) x2 []),(11, .dat k13b x3 []),(12, .dat k13b x4 [])] []
def Za71:Code:=(rgt (rgt (rgt Zak1)))
def Zoo2 (m0:Nat):K (ResD Zl0):=sqK Zn9 m0 Za71 0 Zy61
def Zpo2 (m0:Nat):K (ResD Zl0):=Zaa 0 (Zoo2 m0)
def Zb71:Code:=(lft (lft (rgt (lft (rgt (rgt Zak1))))))
def Zr4 (m0 n:Nat):ByteArray→Int→Int→Int→Option (Int×Int×Int):=fun x1 x2 x3 x4=>ej Zn9 n (.loop Zb71) 0 (Zz61 x1 x2 x3 x4) (Zpo2 m0)
theorem Zbx1 (m0 n:Nat):Zr4 m0 (n+1)=Zad.S0 (Zr4 m0 n):=by kernel_rfl
theorem Zqo2 (m0:Nat):∀ n:Nat,Zr4 m0 n=Zad.l0 n:=
  ind rfl fun n e0=>(Zbx1 m0 n).trans (by rw [e0];rfl)
theorem Zd32 (m0:Nat) (x:ArgsD Zx61):run Zn9 Zak1 m0 x Zy61=Zad.S (Zr4 m0 m0) x.1:=by kernel_rfl
abbrev Zwo:AM.Spec:=AM.spec Zx61 Zl0 (fun x=>Zad x.1)
theorem Zru:Zi Tryz.prog 150 Zwo:=ctrC tabOk (fn:=Tryz.f150) (fun x=>(Zd32 fu x).trans (by rw [Zqo2 fu fu];rfl)) (Ze ⟨⟨Zsf3,Tryz.call175,fun _=>Zd rfl⟩,⟨⟨Zwf3,Tryz.call176,fun _=>Zd rfl⟩,trivial⟩⟩)
abbrev Zsu:Env:=tab.env (AM.look [(150,Zwo),(106,Zl4)]) ⟨[(0,⟨tt [0,1,6,7],[]⟩)],[],[(15,⟨tt [1,6,7],[]⟩)],⟨tt [4,5],[]⟩,[],[106,150],[],[]⟩
def Zo9:Code:=bd Tryz.f129
abbrev Zm0:List (Ty×List Tag):=[(k13i,[⟨0,1,0,3⟩]),(k13b,[])]
abbrev Zc71:List PK:=[.val .str, .val k13b]
abbrev Zp9:K (ResD Zm0):=fin Zsu [.tmp 4, .tmp 5] [] Zm0
def Zd71 (x7:Int) (x8:D13o) (x9:Int):St:=mk [(1, .dat k13b x7 []),(6, .dat k13i x8 [⟨0,385,0,3⟩]),(7, .dat k13b x9 [])] []
def Ze71 (x1:ByteArray) (x2:Int) (x3:D13o) (x4:Int):St:=mk [(0, .dat .str x1 []),(1, .dat k13b x2 []),(6, .dat k13i x3 [⟨0,385,0,3⟩]),(7, .dat k13b x4 [])] []
def Zje1:Code:=(rgt (rgt (rgt (rgt (rgt Zo9)))))
def Ztu (m0 n:Nat):Int→D13o→Int→Option D13v:=fun x7 x8 x9=>ej Zsu n (.tail Zje1) 0 (Zd71 x7 x8 x9) Zp9
theorem Zcx1 (m0 n:Nat):Ztu m0 (n+1)=Zja.S1:=by kernel_rfl
theorem Zro2 (m0:Nat):∀ n:Nat,Ztu m0 n=Zja.t1 n:=
  ind rfl fun n _=>Zcx1 m0 n
def Zso2 (m0:Nat):K (ResD Zm0):=sqK Zsu m0 Zje1 0 Zp9
def Zto2 (m0:Nat):K (ResD Zm0):=Zaa 0 (Zso2 m0)
def Zf71:Code:=(lft (lft (lft (rgt (rgt (rgt (rgt Zo9)))))))
def Zuu (m0 n:Nat):ByteArray→Int→D13o→Int→Option D13v:=fun x1 x2 x3 x4=>ej Zsu n (.loop Zf71) 0 (Ze71 x1 x2 x3 x4) (Zto2 m0)
theorem Zdx1 (m0 n:Nat):Zuu m0 (n+1)=Zja.S0 (Ztu m0 m0) (Zuu m0 n):=by kernel_rfl
theorem Zuo2 (m0:Nat):∀ n:Nat,Zuu m0 n=Zja.l0 (Ztu m0 m0) n:=
  ind rfl fun n e0=>(Zdx1 m0 n).trans (by rw [e0];rfl)
theorem Ze32 (m0:Nat) (x:ArgsD Zc71):run Zsu Zo9 m0 x Zp9=Zja.S (Zuu m0 m0) x.1 x.2.1:=by kernel_rfl
abbrev Zqc1:AM.Spec:=AM.spec Zc71 Zm0 (fun x=>Zja x.1 x.2.1)
theorem Zg71:Zi Tryz.prog 129 Zqc1:=ctrC tabOk (fn:=Tryz.f129) (show ∀ x,run Zsu Zo9 fu x Zp9=_ from fun x=>by
  have e1:Ztu fu fu=Zja.t1 fu:=Zro2 fu fu
  have e0:Zuu fu fu=Zja.l0 (Zja.t1 fu) fu:=by rw [← e1];exact Zuo2 fu fu
  refine (Ze32 fu x).trans ?_
  rw [e0];rfl) (Ze ⟨⟨Zru,Tryz.call150,fun _=>Zd rfl⟩,⟨⟨Zni1,Tryz.call106,fun _=>Zd rfl⟩,trivial⟩⟩)
abbrev Zh71:Env:=tab.env (AM.look []) ⟨[],[],[],⟨tt [4,5],[]⟩,[],[],[],[]⟩
def Zxf3:Code:=bd Tryz.f190
abbrev Zbk1:List (Ty×List Tag):=[((.int .u64),[]),((.int .u64),[])]
abbrev Zyf3:List PK:=[.val (.int .u64), .val (.int .u64)]
abbrev Zzf3:K (ResD Zbk1):=fin Zh71 [.tmp 4, .tmp 5] [] Zbk1
abbrev Zwr1:AM.Spec:=AM.spec Zyf3 Zbk1 (fun x=>some (Zgo x.1 x.2.1))
theorem Zag3:Zi Tryz.prog 190 Zwr1:=ctrC tabOk (fn:=Tryz.f190) (show ∀ x,run Zh71 Zxf3 fu x Zzf3=_ from fun x=>by kernel_rfl) (Ze trivial)
abbrev Zi71:Env:=tab.env (AM.look [(190,Zwr1)]) ⟨[],[],[],⟨tt [4,5],[]⟩,[],[190],[],[]⟩
def Zbg3:Code:=bd Tryz.f177
abbrev Zck1:List (Ty×List Tag):=[((.int .u64),[]),((.int .u64),[])]
abbrev Zcg3:List PK:=[.val (.int .u64), .val (.int .u64)]
abbrev Zdg3:K (ResD Zck1):=fin Zi71 [.tmp 4, .tmp 5] [] Zck1
abbrev Zxr1:AM.Spec:=AM.spec Zcg3 Zck1 (fun x=>some (Zbn x.1 x.2.1))
theorem Zeg3:Zi Tryz.prog 177 Zxr1:=ctrC tabOk (fn:=Tryz.f177) (show ∀ x,run Zi71 Zbg3 fu x Zdg3=_ from fun x=>by kernel_rfl) (Ze ⟨⟨Zag3,Tryz.call190,fun _=>Zd rfl⟩,trivial⟩)
abbrev Zvu:Env:=tab.env (AM.look [(177,Zxr1)]) ⟨[(0,⟨tt [7,8],tt [30]⟩)],[],[(3,⟨tt [0,1],[]⟩),(6,⟨tt [0,6],[]⟩)],⟨tt [4],tt [30]⟩,[4,7,30,31,35,39,41,42,44,47],[177],[],[]⟩
def Zn0:Code:=bd Tryz.f151
abbrev Zo0:List (Ty×List Tag):=[(k13c,[])]
abbrev Zj71:List PK:=[.val k13c, .val k13b]
abbrev Zq9:K (ResD Zo0):=fin Zvu [.tmp 4] [] Zo0
def Zk71 (x6:Int) (x7:D13a):St:=mk [(7, .slw 30 0),(8, .dat k13b x6 [])] [(30,some (.arr k13b x7 false))]
def Zl71 (x4:D13a) (x5:Int):St:=mk [(0, .dat k13c x4 []),(6, .dat (.int .u64) x5 [])] []
def Zm71 (x1:D13a) (x2:Int):St:=mk [(0, .dat k13c x1 []),(1, .dat k13b x2 [])] []
def Zn71:Code:=(rgt (rgt (rgt (rgt (rgt (rgt (rgt Zn0)))))))
def Zvo2 (m0 m1 m2:Nat):K (ResD Zo0):=sqK Zvu m2 Zn71 0 Zq9
def Zwo2 (m0 m1 m2:Nat):K (ResD Zo0):=Zaa 0 (Zvo2 m0 m1 m2)
def Zo71:Code:=(lft (lft (lft (rgt (rgt (rgt (rgt (rgt (rgt Zn0)))))))))
def Zwu (m0 m1:Nat) (m2 n:Nat):Int→D13a→Option D13d:=fun x6 x7=>ej Zvu n (.loop Zo71) 0 (Zk71 x6 x7) (Zwo2 m0 m1 m2)
theorem Zex1 (m0 m1:Nat) (m2 n:Nat):Zwu m0 m1 m2 (n+1)=Zw.S2 (Zwu m0 m1 m2 n):=by kernel_rfl
theorem Zxo2 (m0 m1 m2:Nat):∀ n:Nat,Zwu m0 m1 m2 n=Zw.l2 n:=
  ind rfl fun n e2=>(Zex1 m0 m1 m2 n).trans (by rw [e2];rfl)
def Zp71:Code:=(rgt (rgt (rgt (rgt Zn0))))
def Zs4 (m0 n:Nat):D13a→Int→Option D13d:=fun x4 x5=>ej Zvu n (.tail Zp71) 0 (Zl71 x4 x5) Zq9
theorem Zfx1 (m0 m1 n:Nat):Zs4 m0 (n+1)=Zw.S1 (Zwu m0 m1 n n):=by kernel_rfl
theorem Zyo2 (m0 m1:Nat):∀ n:Nat,Zs4 m0 n=Zw.t1 n:=
  ind rfl fun n e1=>by
    have e2:Zwu m0 m1 n n=Zw.l2 n:=Zxo2 m0 m1 n n
    rw [Zfx1 m0 m1 n,e2];rfl
def Zq71:Code:=(rgt (rgt Zn0))
def Zrc1 (m0 n:Nat):D13a→Int→Option D13d:=fun x1 x2=>ej Zvu n (.tail Zq71) 0 (Zm71 x1 x2) Zq9
theorem Zgx1 (m0 n:Nat):Zrc1 m0 (n+1)=Zw.S0 (Zs4 m0 n):=by kernel_rfl
theorem Zzo2 (m0:Nat):∀ n:Nat,Zrc1 m0 n=Zw.t0 n:=
  ind rfl fun n e0=>by
    have e1:Zs4 m0 n=Zw.t1 n:=Zyo2 m0 n n
    rw [Zgx1 m0 n,e1];rfl
theorem Zf32 (m0:Nat) (x:ArgsD Zj71):run Zvu Zn0 m0 x Zq9=Zw.S (Zrc1 m0 m0) x.1 x.2.1:=by kernel_rfl
abbrev Zyr1:AM.Spec:=AM.spec Zj71 Zo0 (fun x=>Zw x.1 x.2.1)
theorem Zfg3:Zi Tryz.prog 151 Zyr1:=ctrC tabOk (fn:=Tryz.f151) (fun x=>(Zf32 fu x).trans (by rw [Zzo2 fu fu];rfl)) (Ze ⟨⟨Zeg3,Tryz.call177,fun _=>Zd rfl⟩,trivial⟩)
abbrev Zr9:Env:=tab.env (AM.look [(106,Zl4),(151,Zyr1)]) ⟨[(0,⟨tt [6,18,19,20],[]⟩)],[],[],⟨tt [2,3],[]⟩,[],[106],[],[]⟩
def Zdk1:Code:=bd Tryz.f130
abbrev Zp0:List (Ty×List Tag):=[(k13c,[⟨0,1,0,1⟩]),(k13b,[])]
abbrev Zr71:List PK:=[.val k13i]
abbrev Zs71:K (ResD Zp0):=fin Zr9 [.tmp 2, .tmp 3] [] Zp0
def Zt71 (x2:D13a) (x3:D13o) (x4 x5:Int):St:=mk [(6, .dat k13c x2 [⟨0,385,0,1⟩]),(18, .dat k13i x3 []),(19, .dat k13b x4 []),(20, .dat k13b x5 [])] []
def Zu71:Code:=(rgt (rgt (rgt (rgt (rgt Zdk1)))))
def Zap2 (m0:Nat):K (ResD Zp0):=sqK Zr9 m0 Zu71 0 Zs71
def Zbp2 (m0:Nat):K (ResD Zp0):=Zaa 0 (Zap2 m0)
def Zv71:Code:=(lft (lft (rgt (lft (rgt (rgt (rgt (rgt Zdk1))))))))
def Zt4 (m0 n:Nat):D13a→D13o→Int→Int→Option D13h:=fun x2 x3 x4 x5=>ej Zr9 n (.loop Zv71) 0 (Zt71 x2 x3 x4 x5) (Zbp2 m0)
theorem Zhx1 (m0 n:Nat):Zt4 m0 (n+1)=Zwd.S0 (Zt4 m0 n):=by kernel_rfl
theorem Zcp2 (m0:Nat):∀ n:Nat,Zt4 m0 n=Zwd.l0 n:=
  ind rfl fun n e0=>(Zhx1 m0 n).trans (by rw [e0];rfl)
theorem Zg32 (m0:Nat) (x:ArgsD Zr71):run Zr9 Zdk1 m0 x Zs71=Zwd.S (Zt4 m0 m0) x.1:=by kernel_rfl
abbrev Zsc1:AM.Spec:=AM.spec Zr71 Zp0 (fun x=>Zwd x.1)
theorem Zw71:Zi Tryz.prog 130 Zsc1:=ctrC tabOk (fn:=Tryz.f130) (fun x=>(Zg32 fu x).trans (by rw [Zcp2 fu fu];rfl)) (Ze ⟨⟨Zni1,Tryz.call106,fun _=>Zd rfl⟩,⟨⟨Zfg3,Tryz.call151,nw⟩,trivial⟩⟩)
abbrev Zx71:Env:=tab.env (AM.look [(150,Zwo)]) ⟨[],[],[],⟨tt [2],tt [1000000,1000001]⟩,[],[150],[],[]⟩
def Zgg3:Code:=bd Tryz.f152
abbrev Zek1:List (Ty×List Tag):=[(k13b,[]),(.str,[]),(.bool,[])]
abbrev Zhg3:List PK:=[.io .str [], .io .bool []]
abbrev Zig3:K (ResD Zek1):=fin Zx71 [.tmp 2] [.io .str [], .io .bool []] Zek1
abbrev Zzr1:AM.Spec:=AM.Zog 1 Zhg3 Zek1 (fun x=>Zed x.1 x.2.1)
theorem Zjg3:Zi Tryz.prog 152 Zzr1:=ctrI tabOk (fn:=Tryz.f152) (show ∀ x,run Zx71 Zgg3 fu x Zig3=_ from fun x=>by kernel_rfl) (Ze ⟨⟨Zru,Tryz.call150,fun _=>Zd rfl⟩,trivial⟩)
abbrev Zy71:Env:=tab.env (AM.look []) ⟨[],[],[],⟨tt [4],[]⟩,[],[],[],[]⟩
def Zkg3:Code:=bd Tryz.f153
abbrev Zfk1:List (Ty×List Tag):=[(k13b,[])]
abbrev Zlg3:List PK:=[.val k13b, .val k13b]
abbrev Zmg3:K (ResD Zfk1):=fin Zy71 [.tmp 4] [] Zfk1
abbrev Zas1:AM.Spec:=AM.spec Zlg3 Zfk1 (fun x=>some (Zfj x.1 x.2.1))
theorem Zng3:Zi Tryz.prog 153 Zas1:=ctrC tabOk (fn:=Tryz.f153) (show ∀ x,run Zy71 Zkg3 fu x Zmg3=_ from fun x=>by kernel_rfl) (Ze trivial)
abbrev Zxu:Env:=tab.env (AM.look [(152,Zzr1),(126,Zcr),(153,Zas1),(76,Zvi1)]) ⟨[(0,⟨tt [0,6,8,10,54,55,56],tt [8]⟩)],[],[(8,⟨tt [0,1,6,7,8,9],tt [7,8]⟩),(20,⟨tt [0,6,8],tt [8]⟩)],⟨tt [4,5],[]⟩,[24],[76,152,153],[],[]⟩
def Zs9:Code:=bd Tryz.f131
abbrev Zq0:List (Ty×List Tag):=[(k13c,[⟨0,1,0,1⟩]),(k13b,[])]
abbrev Zz71:List PK:=[.val .str, .val k13b]
abbrev Zt9:K (ResD Zq0):=fin Zxu [.tmp 4, .tmp 5] [] Zq0
def Za81 (x18:ByteArray) (x19:D13a) (x20:Bool):St:=mk [(0, .dat .str x18 []),(6, .dat k13c x19 [⟨0,385,0,1⟩]),(8, .ptr 8 0 0)] [(8,some (.var .bool x20 []))]
def Zb81 (x9:ByteArray) (x10:D13a) (x11:Int) (x12:D13a) (x13 x14:Int) (x15:Bool):St:=mk [(0, .dat .str x9 []),(6, .dat k13c x10 [⟨0,385,0,1⟩]),(8, .ptr 8 0 0),(10, .dat k13b x11 []),(54, .dat k13c x12 []),(55, .dat k13b x13 []),(56, .dat k13b x14 [])] [(8,some (.var .bool x15 []))]
def Zc81 (x2:ByteArray) (x3:Int) (x4:D13a) (x5:ByteArray) (x6:Bool):St:=mk [(0, .dat .str x2 []),(1, .dat k13b x3 []),(6, .dat k13c x4 [⟨0,385,0,1⟩]),(7, .ptr 7 0 0),(8, .ptr 8 0 0),(9, .clo 152 [(7,0),(8,0)])] [(7,some (.var .str x5 [])),(8,some (.var .bool x6 []))]
def Zke1:Code:=(rgt (rgt (rgt (rgt (rgt (rgt (rgt Zs9)))))))
def Zdr (m0 n:Nat):ByteArray→D13a→Bool→Option D13h:=fun x18 x19 x20=>ej Zxu n (.tail Zke1) 0 (Za81 x18 x19 x20) Zt9
theorem Zix1 (m0 m1 n:Nat):Zdr m0 (n+1)=Zo.S2:=by kernel_rfl
theorem Zdp2 (m0 m1:Nat):∀ n:Nat,Zdr m0 n=Zo.t2 n:=
  ind rfl fun n _=>Zix1 m0 m1 n
def Zep2 (m0 m1:Nat):K (ResD Zq0):=sqK Zxu m1 Zke1 0 Zt9
def Zfp2 (m0 m1:Nat):K (ResD Zq0):=Zaa 0 (Zep2 m0 m1)
def Zd81:Code:=(lft (lft (rgt (rgt (rgt (rgt (rgt (lft (rgt (lft (rgt (rgt (rgt (rgt (rgt (rgt Zs9))))))))))))))))
def Zyu (m0 m1 n:Nat):ByteArray→D13a→Int→D13a→Int→Int→Bool→Option D13h:=fun x9 x10 x11 x12 x13 x14 x15=>ej Zxu n (.loop Zd81) 0 (Zb81 x9 x10 x11 x12 x13 x14 x15) (Zfp2 m0 m1)
theorem Zjx1 (m0 m1 n:Nat):Zyu m0 m1 (n+1)=Zo.S1 (Zdr m0 m1) (Zyu m0 m1 n):=by kernel_rfl
theorem Zgp2 (m0 m1:Nat):∀ n:Nat,Zyu m0 m1 n=Zo.l1 (Zdr m0 m1) n:=
  ind rfl fun n e1=>(Zjx1 m0 m1 n).trans (by rw [e1];rfl)
def Ze81:Code:=(rgt (rgt (rgt (rgt (rgt (rgt Zs9))))))
def Ztc1 (m0 n:Nat):ByteArray→Int→D13a→ByteArray→Bool→Option D13h:=fun x2 x3 x4 x5 x6=>ej Zxu n (.tail Ze81) 0 (Zc81 x2 x3 x4 x5 x6) Zt9
theorem Zkx1 (m0 n:Nat):Ztc1 m0 (n+1)=Zo.S0 (Zyu m0 n n) (Zdr m0 n):=by kernel_rfl
theorem Zhp2 (m0:Nat):∀ n:Nat,Ztc1 m0 n=Zo.t0 n:=
  ind rfl fun n e0=>by
    have e2:Zdr m0 n=Zo.t2 n:=Zdp2 m0 n n
    have e1:Zyu m0 n n=Zo.l1 (Zo.t2 n) n:=by rw [← e2];exact Zgp2 m0 n n
    rw [Zkx1 m0 n,e1,e2];rfl
theorem Zh32 (m0:Nat) (x:ArgsD Zz71):run Zxu Zs9 m0 x Zt9=Zo.S (Ztc1 m0 m0) x.1 x.2.1:=by kernel_rfl
abbrev Zbs1:AM.Spec:=AM.spec Zz71 Zq0 (fun x=>Zo x.1 x.2.1)
theorem Zog3:Zi Tryz.prog 131 Zbs1:=ctrC tabOk (fn:=Tryz.f131) (fun x=>(Zh32 fu x).trans (by rw [Zhp2 fu fu];rfl)) (Ze ⟨⟨Zjg3,Tryz.call152,fun _=>Ziy2 rfl⟩,⟨⟨Zj0,Tryz.call126,nw⟩,⟨⟨Zng3,Tryz.call153,fun _=>Zd rfl⟩,⟨⟨c_f76,Tryz.call76,fun _=>Zd rfl⟩,trivial⟩⟩⟩⟩)
abbrev Zf81:Env:=tab.env (AM.look [(150,Zwo)]) ⟨[],[],[],⟨tt [2,3],[]⟩,[],[150],[],[]⟩
def Zpg3:Code:=bd Tryz.f155
abbrev Zgk1:List (Ty×List Tag):=[(k13b,[]),(k13b,[])]
abbrev Zqg3:List PK:=[.val .str]
abbrev Zrg3:K (ResD Zgk1):=fin Zf81 [.tmp 2, .tmp 3] [] Zgk1
abbrev Zcs1:AM.Spec:=AM.spec Zqg3 Zgk1 (fun x=>Zqh x.1)
theorem Zsg3:Zi Tryz.prog 155 Zcs1:=ctrC tabOk (fn:=Tryz.f155) (show ∀ x,run Zf81 Zpg3 fu x Zrg3=_ from fun x=>by kernel_rfl) (Ze ⟨⟨Zru,Tryz.call150,fun _=>Zd rfl⟩,trivial⟩)
abbrev Zu9:Env:=tab.env (AM.look []) ⟨[(0,⟨tt [0,1,7,8],[]⟩)],[],[],⟨tt [4],[]⟩,[],[],[],[]⟩
def Zhk1:Code:=bd Tryz.f191
abbrev Zr0:List (Ty×List Tag):=[(k13b,[])]
abbrev Zg81:List PK:=[.val (.sl .bool), .val .bool]
abbrev Zh81:K (ResD Zr0):=fin Zu9 [.tmp 4] [] Zr0
def Zi81 (x1:D13c) (x2:Bool) (x3 x4:Int):St:=mk [(0, .dat (.sl .bool) x1 []),(1, .dat .bool x2 []),(7, .dat k13b x3 []),(8, .dat k13b x4 [])] []
def Zj81:Code:=(rgt (rgt Zhk1))
def Zip2 (m0:Nat):K (ResD Zr0):=sqK Zu9 m0 Zj81 0 Zh81
def Zjp2 (m0:Nat):K (ResD Zr0):=Zaa 0 (Zip2 m0)
def Zk81:Code:=(lft (lft (rgt (lft (rgt Zhk1)))))
def Zu4 (m0 n:Nat):D13c→Bool→Int→Int→Option Int:=fun x1 x2 x3 x4=>ej Zu9 n (.loop Zk81) 0 (Zi81 x1 x2 x3 x4) (Zjp2 m0)
theorem Zlx1 (m0 n:Nat):Zu4 m0 (n+1)=Zpa.S0 (Zu4 m0 n):=by kernel_rfl
theorem Zkp2 (m0:Nat):∀ n:Nat,Zu4 m0 n=Zpa.l0 n:=
  ind rfl fun n e0=>(Zlx1 m0 n).trans (by rw [e0];rfl)
theorem Zi32 (m0:Nat) (x:ArgsD Zg81):run Zu9 Zhk1 m0 x Zh81=Zpa.S (Zu4 m0 m0) x.1 x.2.1:=by kernel_rfl
abbrev Zds1:AM.Spec:=AM.spec Zg81 Zr0 (fun x=>Zpa x.1 x.2.1)
theorem Ztg3:Zi Tryz.prog 191 Zds1:=ctrC tabOk (fn:=Tryz.f191) (fun x=>(Zi32 fu x).trans (by rw [Zkp2 fu fu];rfl)) (Ze trivial)
abbrev Zl81:Env:=tab.env (AM.look [(191,Zds1)]) ⟨[],[],[],⟨tt [4],[]⟩,[],[191],[],[]⟩
def Zug3:Code:=bd Tryz.f178
abbrev Zik1:List (Ty×List Tag):=[(.bool,[])]
abbrev Zvg3:List PK:=[.val (.sl .bool), .val .bool]
abbrev Zwg3:K (ResD Zik1):=fin Zl81 [.tmp 4] [] Zik1
abbrev Zuc1:AM.Spec:=AM.spec Zvg3 Zik1 (fun x=>Zgd x.1 x.2.1)
theorem Zm81:Zi Tryz.prog 178 Zuc1:=ctrC tabOk (fn:=Tryz.f178) (show ∀ x,run Zl81 Zug3 fu x Zwg3=_ from fun x=>by kernel_rfl) (Ze ⟨⟨Ztg3,Tryz.call191,fun _=>Zd rfl⟩,trivial⟩)
abbrev Zio:Env:=tab.env (AM.look [(150,Zwo),(155,Zcs1),(70,Zaq),(126,Zcr),(178,Zuc1)]) ⟨[(0,⟨tt [0,1,2,9,10,12,47,48],[]⟩),(2,⟨tt [9,12,16,17,98,99,100],tt [97]⟩)],[],[(20,⟨tt [0,1,9,10,12],[]⟩),(31,⟨tt [12,16,17],tt [97]⟩)],⟨tt [6,7,8],[]⟩,[17,97,111,115],[70,150,155,178],[],[89]⟩
def Zzu:Code:=bd Tryz.f154
abbrev Zvr:List (Ty×List Tag):=[(k13c,[⟨0,1,0,1⟩]),(k13c,[]),(k13b,[])]
abbrev Zn81:List PK:=[.val .str, .val k13b, .fn 155 []]
abbrev Zav:K (ResD Zvr):=fin Zio [.tmp 6, .tmp 7, .tmp 8] [] Zvr
def Zo81 (x24 x25:D13a) (x26:D13c):St:=mk [(12, .dat k13c x24 [⟨0,769,0,1⟩]),(16, .dat k13c x25 []),(17, .slw 97 0)] [(97,some (.arr .bool x26 false))]
def Zp81 (x17:Int) (x18 x19 x20:D13a) (x21 x22:Int) (x23:D13c):St:=mk [(9, .dat k13b x17 []),(12, .dat k13c x18 [⟨0,769,0,1⟩]),(16, .dat k13c x19 []),(17, .slw 97 0),(98, .dat k13c x20 []),(99, .dat k13b x21 []),(100, .dat k13b x22 [])] [(97,some (.arr .bool x23 false))]
def Zq81 (x10:ByteArray) (x11 x12 x13:Int) (x14:D13a):St:=mk [(0, .dat .str x10 []),(1, .dat k13b x11 []),(9, .dat k13b x12 []),(10, .dat k13b x13 []),(12, .dat k13c x14 [⟨0,769,0,1⟩])] []
def Zr81 (x2:ByteArray) (x3 x4 x5:Int) (x6:D13a) (x7 x8:Int):St:=mk [(0, .dat .str x2 []),(1, .dat k13b x3 []),(2, .fn 155 []),(9, .dat k13b x4 []),(10, .dat k13b x5 []),(12, .dat k13c x6 [⟨0,769,0,1⟩]),(47, .dat k13b x7 []),(48, .dat k13b x8 [])] []
def Zle1:Code:=(rgt (rgt (rgt (rgt (rgt (rgt (rgt (rgt (rgt (rgt (rgt Zzu)))))))))))
def Zbv (m0 n:Nat):D13a→D13a→D13c→Option D13s:=fun x24 x25 x26=>ej Zio n (.tail Zle1) 0 (Zo81 x24 x25 x26) Zav
theorem Zmx1 (m0 m1 n:Nat):Zbv m0 (n+1)=Zb.S3:=by kernel_rfl
theorem Zlp2 (m0 m1:Nat):∀ n:Nat,Zbv m0 n=Zb.t3 n:=
  ind rfl fun n _=>Zmx1 m0 m1 n
def Zmp2 (m0 m1:Nat):K (ResD Zvr):=sqK Zio m1 Zle1 0 Zav
def Znp2 (m0 m1:Nat):K (ResD Zvr):=Zaa 2 (Zmp2 m0 m1)
def Zs81:Code:=(lft (lft (rgt (lft (rgt (rgt (rgt (rgt (rgt (rgt (rgt (rgt (rgt (rgt Zzu))))))))))))))
def Zcv (m0 m1 n:Nat):Int→D13a→D13a→D13a→Int→Int→D13c→Option D13s:=fun x17 x18 x19 x20 x21 x22 x23=>ej Zio n (.loop Zs81) 2 (Zp81 x17 x18 x19 x20 x21 x22 x23) (Znp2 m0 m1)
theorem Znx1 (m0 m1 n:Nat):Zcv m0 m1 (n+1)=Zb.S2 (Zbv m0 m1) (Zcv m0 m1 n):=by kernel_rfl
theorem Zop2 (m0 m1:Nat):∀ n:Nat,Zcv m0 m1 n=Zb.l2 (Zbv m0 m1) n:=
  ind rfl fun n e2=>(Znx1 m0 m1 n).trans (by rw [e2];rfl)
def Zme1:Code:=(rgt (rgt (rgt (rgt (rgt (rgt (rgt Zzu)))))))
def Zdv (m0 n:Nat):ByteArray→Int→Int→Int→D13a→Option D13s:=fun x10 x11 x12 x13 x14=>ej Zio n (.tail Zme1) 0 (Zq81 x10 x11 x12 x13 x14) Zav
theorem Zox1 (m0 n:Nat):Zdv m0 (n+1)=Zb.S1 (Zcv m0 n n):=by kernel_rfl
theorem Zpp2 (m0:Nat):∀ n:Nat,Zdv m0 n=Zb.t1 n:=
  ind rfl fun n e1=>by
    have e3:Zbv m0 n=Zb.t3 n:=Zlp2 m0 n n
    have e2:Zcv m0 n n=Zb.l2 (Zb.t3 n) n:=by rw [← e3];exact Zop2 m0 n n
    rw [Zox1 m0 n,e2];rfl
def Zqp2 (m0:Nat):K (ResD Zvr):=sqK Zio m0 Zme1 0 Zav
def Zrp2 (m0:Nat):K (ResD Zvr):=Zaa 0 (Zqp2 m0)
def Zt81:Code:=(lft (lft (rgt (lft (rgt (rgt (rgt (rgt (rgt (rgt Zzu))))))))))
def Zev (m0 n:Nat):ByteArray→Int→Int→Int→D13a→Int→Int→Option D13s:=fun x2 x3 x4 x5 x6 x7 x8=>ej Zio n (.loop Zt81) 0 (Zr81 x2 x3 x4 x5 x6 x7 x8) (Zrp2 m0)
theorem Zpx1 (m0 n:Nat):Zev m0 (n+1)=Zb.S0 (Zdv m0 m0) (Zev m0 n):=by kernel_rfl
theorem Zsp2 (m0:Nat):∀ n:Nat,Zev m0 n=Zb.l0 (Zdv m0 m0) n:=
  ind rfl fun n e0=>(Zpx1 m0 n).trans (by rw [e0];rfl)
theorem Zj32 (m0:Nat) (x:ArgsD Zn81):run Zio Zzu m0 x Zav=Zb.S (Zev m0 m0) x.1 x.2.1:=by kernel_rfl
abbrev Zes1:AM.Spec:=AM.spec Zn81 Zvr (fun x=>Zb x.1 x.2.1)
theorem Zxg3:Zi Tryz.prog 154 Zes1:=ctrC tabOk (fn:=Tryz.f154) (show ∀ x,run Zio Zzu fu x Zav=_ from fun x=>by
  have e1:Zdv fu fu=Zb.t1 fu:=Zpp2 fu fu
  have e0:Zev fu fu=Zb.l0 (Zb.t1 fu) fu:=by rw [← e1];exact Zsp2 fu fu
  refine (Zj32 fu x).trans ?_
  rw [e0];rfl) (Ze ⟨⟨Zru,Tryz.call150,fun _=>Zd rfl⟩,⟨⟨Zsg3,Tryz.call155,fun _=>Zd rfl⟩,⟨⟨c_f70,Tryz.call70,fun _=>Zd rfl⟩,⟨⟨Zj0,Tryz.call126,nw⟩,⟨⟨Zm81,Tryz.call178,fun _=>Zd rfl⟩,trivial⟩⟩⟩⟩⟩)
abbrev Zv9:Env:=tab.env (AM.look []) ⟨[(0,⟨tt [0,5,8,9,10],[]⟩)],[],[],⟨tt [4],[]⟩,[],[],[],[]⟩
def Zjk1:Code:=bd Tryz.f156
abbrev Zs0:List (Ty×List Tag):=[(k13c,[⟨0,1,0,1⟩])]
abbrev Zu81:List PK:=[.val k13c, .val k13c]
abbrev Zv81:K (ResD Zs0):=fin Zv9 [.tmp 4] [] Zs0
def Zw81 (x1 x2 x3:D13a) (x4 x5:Int):St:=mk [(0, .dat k13c x1 []),(5, .dat k13c x2 [⟨0,321,0,1⟩]),(8, .dat k13c x3 []),(9, .dat k13b x4 []),(10, .dat k13b x5 [])] []
def Zx81:Code:=(rgt (rgt (rgt Zjk1)))
def Ztp2 (m0:Nat):K (ResD Zs0):=sqK Zv9 m0 Zx81 0 Zv81
def Zup2 (m0:Nat):K (ResD Zs0):=Zaa 0 (Ztp2 m0)
def Zy81:Code:=(lft (lft (rgt (lft (rgt (rgt Zjk1))))))
def Zv4 (m0 n:Nat):D13a→D13a→D13a→Int→Int→Option D13d:=fun x1 x2 x3 x4 x5=>ej Zv9 n (.loop Zy81) 0 (Zw81 x1 x2 x3 x4 x5) (Zup2 m0)
theorem Zqx1 (m0 n:Nat):Zv4 m0 (n+1)=Zvb.S0 (Zv4 m0 n):=by kernel_rfl
theorem Zvp2 (m0:Nat):∀ n:Nat,Zv4 m0 n=Zvb.l0 n:=
  ind rfl fun n e0=>(Zqx1 m0 n).trans (by rw [e0];rfl)
theorem Zk32 (m0:Nat) (x:ArgsD Zu81):run Zv9 Zjk1 m0 x Zv81=Zvb.S (Zv4 m0 m0) x.1 x.2.1:=by kernel_rfl
abbrev Zfs1:AM.Spec:=AM.spec Zu81 Zs0 (fun x=>Zvb x.1 x.2.1)
theorem Zyg3:Zi Tryz.prog 156 Zfs1:=ctrC tabOk (fn:=Tryz.f156) (fun x=>(Zk32 fu x).trans (by rw [Zvp2 fu fu];rfl)) (Ze trivial)
abbrev Zz81:Env:=tab.env (AM.look [(154,Zes1),(156,Zfs1)]) ⟨[],[],[],⟨tt [4,5],[]⟩,[],[],[],[]⟩
def Zzg3:Code:=bd Tryz.f132
abbrev Zkk1:List (Ty×List Tag):=[(k13c,[⟨0,1,0,1⟩]),(k13b,[])]
abbrev Zah3:List PK:=[.val .str, .val k13b]
abbrev Zbh3:K (ResD Zkk1):=fin Zz81 [.tmp 4, .tmp 5] [] Zkk1
abbrev Zgs1:AM.Spec:=AM.spec Zah3 Zkk1 (fun x=>Zsi x.1 x.2.1)
theorem Zch3:Zi Tryz.prog 132 Zgs1:=ctrC tabOk (fn:=Tryz.f132) (show ∀ x,run Zz81 Zzg3 fu x Zbh3=_ from fun x=>by kernel_rfl) (Ze ⟨⟨Zxg3,Tryz.call154,nw⟩,⟨⟨Zyg3,Tryz.call156,nw⟩,trivial⟩⟩)
abbrev E_f96:Env:=tab.env (AM.look [(128,Ztr1),(129,Zqc1),(130,Zsc1),(131,Zbs1),(132,Zgs1),(126,Zcr)]) ⟨[],[],[],⟨tt [6,7],[]⟩,[],[],[],[]⟩
def b_f96:Code:=bd Tryz.f96
abbrev R_f96:List (Ty×List Tag):=[(k13c,[]),(k13b,[])]
abbrev P_f96:List PK:=[.val .str, .val k13b, .val k13b]
abbrev K_f96:K (ResD R_f96):=fin E_f96 [.tmp 6, .tmp 7] [] R_f96
abbrev Za91:AM.Spec:=AM.spec P_f96 R_f96 (fun x=>Zci x.1 x.2.1 x.2.2.1)
theorem c_f96:Zi Tryz.prog 96 Za91:=ctrC tabOk (fn:=Tryz.f96) (show ∀ x,run E_f96 b_f96 fu x K_f96=_ from fun x=>by kernel_rfl) (Ze ⟨⟨Zof3,Tryz.call128,nw⟩,⟨⟨Zg71,Tryz.call129,nw⟩,⟨⟨Zw71,Tryz.call130,nw⟩,⟨⟨Zog3,Tryz.call131,nw⟩,⟨⟨Zch3,Tryz.call132,nw⟩,⟨⟨Zj0,Tryz.call126,nw⟩,trivial⟩⟩⟩⟩⟩⟩)
abbrev Zfv:Env:=tab.env (AM.look []) ⟨[(0,⟨tt [0,1,6],[]⟩)],[],[(8,⟨tt [1,6],[]⟩)],⟨tt [4,5],[]⟩,[],[],[],[]⟩
def Zw9:Code:=bd Tryz.f133
abbrev Zt0:List (Ty×List Tag):=[(k13a,[⟨0,1,0,1⟩]),(k13b,[])]
abbrev Zb91:List PK:=[.val .str, .val k13b]
abbrev Zx9:K (ResD Zt0):=fin Zfv [.tmp 4, .tmp 5] [] Zt0
def Zc91 (x4:Int) (x5:D13e):St:=mk [(1, .dat k13b x4 []),(6, .dat k13a x5 [⟨0,385,0,1⟩])] []
def Zd91 (x1:ByteArray) (x2:Int) (x3:D13e):St:=mk [(0, .dat .str x1 []),(1, .dat k13b x2 []),(6, .dat k13a x3 [⟨0,385,0,1⟩])] []
def Zne1:Code:=(rgt (rgt (rgt Zw9)))
def Zgv (m0 n:Nat):Int→D13e→Option D13l:=fun x4 x5=>ej Zfv n (.tail Zne1) 0 (Zc91 x4 x5) Zx9
theorem Zrx1 (m0 n:Nat):Zgv m0 (n+1)=Zea.S1:=by kernel_rfl
theorem Zwp2 (m0:Nat):∀ n:Nat,Zgv m0 n=Zea.t1 n:=
  ind rfl fun n _=>Zrx1 m0 n
def Zxp2 (m0:Nat):K (ResD Zt0):=sqK Zfv m0 Zne1 0 Zx9
def Zyp2 (m0:Nat):K (ResD Zt0):=Zaa 0 (Zxp2 m0)
def Ze91:Code:=(lft (lft (lft (rgt (rgt Zw9)))))
def Zhv (m0 n:Nat):ByteArray→Int→D13e→Option D13l:=fun x1 x2 x3=>ej Zfv n (.loop Ze91) 0 (Zd91 x1 x2 x3) (Zyp2 m0)
theorem Zsx1 (m0 n:Nat):Zhv m0 (n+1)=Zea.S0 (Zgv m0 m0) (Zhv m0 n):=by kernel_rfl
theorem Zzp2 (m0:Nat):∀ n:Nat,Zhv m0 n=Zea.l0 (Zgv m0 m0) n:=
  ind rfl fun n e0=>(Zsx1 m0 n).trans (by rw [e0];rfl)
theorem Zl32 (m0:Nat) (x:ArgsD Zb91):run Zfv Zw9 m0 x Zx9=Zea.S (Zhv m0 m0) x.1 x.2.1:=by kernel_rfl
abbrev Zhs1:AM.Spec:=AM.spec Zb91 Zt0 (fun x=>Zea x.1 x.2.1)
theorem Zdh3:Zi Tryz.prog 133 Zhs1:=ctrC tabOk (fn:=Tryz.f133) (show ∀ x,run Zfv Zw9 fu x Zx9=_ from fun x=>by
  have e1:Zgv fu fu=Zea.t1 fu:=Zwp2 fu fu
  have e0:Zhv fu fu=Zea.l0 (Zea.t1 fu) fu:=by rw [← e1];exact Zzp2 fu fu
  refine (Zl32 fu x).trans ?_
  rw [e0];rfl) (Ze trivial)
abbrev Zeq:Env:=tab.env (AM.look [(150,Zwo),(129,Zqc1),(130,Zsc1)]) ⟨[(0,⟨tt [0,1,6,7,9,37,38],[]⟩),(2,⟨tt [6,9,13,91,92,93],[]⟩)],[],[(17,⟨tt [0,1,6,7,9],[]⟩)],⟨tt [4,5],[]⟩,[],[150],[],[]⟩
def Ziv:Code:=bd Tryz.f134
abbrev Zwr:List (Ty×List Tag):=[(k13a,[⟨0,1,0,1⟩]),(k13b,[])]
abbrev Zf91:List PK:=[.val .str, .val k13b]
abbrev Zu0:K (ResD Zwr):=fin Zeq [.tmp 4, .tmp 5] [] Zwr
def Zg91 (x16:Int) (x17 x18:D13e) (x19:D13a) (x20 x21:Int):St:=mk [(6, .dat k13b x16 []),(9, .dat k13a x17 [⟨0,577,0,1⟩]),(13, .dat k13a x18 [⟨0,833,0,1⟩]),(91, .dat k13c x19 [⟨0,5825,0,1⟩]),(92, .dat k13b x20 []),(93, .dat k13b x21 [])] []
def Zh91 (x9:ByteArray) (x10 x11 x12:Int) (x13:D13e):St:=mk [(0, .dat .str x9 []),(1, .dat k13b x10 []),(6, .dat k13b x11 []),(7, .dat k13b x12 []),(9, .dat k13a x13 [⟨0,577,0,1⟩])] []
def Zi91 (x2:ByteArray) (x3 x4 x5:Int) (x6:D13e) (x7 x8:Int):St:=mk [(0, .dat .str x2 []),(1, .dat k13b x3 []),(6, .dat k13b x4 []),(7, .dat k13b x5 []),(9, .dat k13a x6 [⟨0,577,0,1⟩]),(37, .dat k13b x7 []),(38, .dat k13b x8 [])] []
def Zj91:Code:=(rgt (rgt (rgt (rgt (rgt (rgt (rgt (rgt (rgt (rgt (rgt (rgt Ziv))))))))))))
def Zaq2 (m0 m1:Nat):K (ResD Zwr):=sqK Zeq m1 Zj91 0 Zu0
def Zbq2 (m0 m1:Nat):K (ResD Zwr):=Zaa 2 (Zaq2 m0 m1)
def Zk91:Code:=(lft (lft (rgt (lft (rgt (rgt (rgt (rgt (rgt (rgt (rgt (rgt (rgt (rgt (rgt Ziv)))))))))))))))
def Zjv (m0 m1 n:Nat):Int→D13e→D13e→D13a→Int→Int→Option D13l:=fun x16 x17 x18 x19 x20 x21=>ej Zeq n (.loop Zk91) 2 (Zg91 x16 x17 x18 x19 x20 x21) (Zbq2 m0 m1)
theorem Ztx1 (m0 m1 n:Nat):Zjv m0 m1 (n+1)=Zr.S2 (Zjv m0 m1 n):=by kernel_rfl
theorem Zcq2 (m0 m1:Nat):∀ n:Nat,Zjv m0 m1 n=Zr.l2 n:=
  ind rfl fun n e2=>(Ztx1 m0 m1 n).trans (by rw [e2];rfl)
def Zoe1:Code:=(rgt (rgt (rgt (rgt (rgt (rgt Ziv))))))
def Zkv (m0 n:Nat):ByteArray→Int→Int→Int→D13e→Option D13l:=fun x9 x10 x11 x12 x13=>ej Zeq n (.tail Zoe1) 0 (Zh91 x9 x10 x11 x12 x13) Zu0
theorem Zux1 (m0 n:Nat):Zkv m0 (n+1)=Zr.S1 (Zjv m0 n n):=by kernel_rfl
theorem Zdq2 (m0:Nat):∀ n:Nat,Zkv m0 n=Zr.t1 n:=
  ind rfl fun n e1=>by
    have e2:Zjv m0 n n=Zr.l2 n:=Zcq2 m0 n n
    rw [Zux1 m0 n,e2];rfl
def Zeq2 (m0:Nat):K (ResD Zwr):=sqK Zeq m0 Zoe1 0 Zu0
def Zfq2 (m0:Nat):K (ResD Zwr):=Zaa 0 (Zeq2 m0)
def Zl91:Code:=(lft (lft (rgt (lft (rgt (rgt (rgt (rgt (rgt Ziv)))))))))
def Zlv (m0 n:Nat):ByteArray→Int→Int→Int→D13e→Int→Int→Option D13l:=fun x2 x3 x4 x5 x6 x7 x8=>ej Zeq n (.loop Zl91) 0 (Zi91 x2 x3 x4 x5 x6 x7 x8) (Zfq2 m0)
theorem Zvx1 (m0 n:Nat):Zlv m0 (n+1)=Zr.S0 (Zkv m0 m0) (Zlv m0 n):=by kernel_rfl
theorem Zgq2 (m0:Nat):∀ n:Nat,Zlv m0 n=Zr.l0 (Zkv m0 m0) n:=
  ind rfl fun n e0=>(Zvx1 m0 n).trans (by rw [e0];rfl)
theorem Zm32 (m0:Nat) (x:ArgsD Zf91):run Zeq Ziv m0 x Zu0=Zr.S (Zlv m0 m0) x.1 x.2.1:=by kernel_rfl
abbrev Zis1:AM.Spec:=AM.spec Zf91 Zwr (fun x=>Zr x.1 x.2.1)
theorem Zeh3:Zi Tryz.prog 134 Zis1:=ctrC tabOk (fn:=Tryz.f134) (show ∀ x,run Zeq Ziv fu x Zu0=_ from fun x=>by
  have e1:Zkv fu fu=Zr.t1 fu:=Zdq2 fu fu
  have e0:Zlv fu fu=Zr.l0 (Zr.t1 fu) fu:=by rw [← e1];exact Zgq2 fu fu
  refine (Zm32 fu x).trans ?_
  rw [e0];rfl) (Ze ⟨⟨Zru,Tryz.call150,fun _=>Zd rfl⟩,⟨⟨Zg71,Tryz.call129,nw⟩,⟨⟨Zw71,Tryz.call130,nw⟩,trivial⟩⟩⟩)
abbrev Zm91:Env:=tab.env (AM.look []) ⟨[],[],[],⟨tt [2,3],[]⟩,[],[],[],[]⟩
def Zfh3:Code:=bd Tryz.f180
abbrev Zlk1:List (Ty×List Tag):=[(.str,[]),(k13b,[])]
abbrev Zgh3:List PK:=[.val .str]
abbrev Zhh3:K (ResD Zlk1):=fin Zm91 [.tmp 2, .tmp 3] [] Zlk1
abbrev Zjs1:AM.Spec:=AM.spec Zgh3 Zlk1 (fun x=>Zti x.1)
theorem Zih3:Zi Tryz.prog 180 Zjs1:=ctrC tabOk (fn:=Tryz.f180) (show ∀ x,run Zm91 Zfh3 fu x Zhh3=_ from fun x=>by kernel_rfl) (Ze trivial)
abbrev Zjo:Env:=tab.env (AM.look [(150,Zwo),(180,Zjs1),(70,Zaq),(126,Zcr),(178,Zuc1)]) ⟨[(0,⟨tt [0,1,2,9,10,12,47,48],[]⟩),(2,⟨tt [9,12,16,17,98,99,100],tt [97]⟩)],[],[(20,⟨tt [0,1,9,10,12],[]⟩),(31,⟨tt [12,16,17],tt [97]⟩)],⟨tt [6,7,8],[]⟩,[17,97,111,115],[70,150,178,180],[],[89]⟩
def Zmv:Code:=bd Tryz.f179
abbrev Zxr:List (Ty×List Tag):=[(k13a,[⟨0,1,0,1⟩]),(k13c,[]),(k13b,[])]
abbrev Zn91:List PK:=[.val .str, .val k13b, .fn 180 []]
abbrev Znv:K (ResD Zxr):=fin Zjo [.tmp 6, .tmp 7, .tmp 8] [] Zxr
def Zo91 (x24:D13e) (x25:D13a) (x26:D13c):St:=mk [(12, .dat k13a x24 [⟨0,769,0,1⟩]),(16, .dat k13c x25 []),(17, .slw 97 0)] [(97,some (.arr .bool x26 false))]
def Zp91 (x17:Int) (x18:D13e) (x19 x20:D13a) (x21 x22:Int) (x23:D13c):St:=mk [(9, .dat k13b x17 []),(12, .dat k13a x18 [⟨0,769,0,1⟩]),(16, .dat k13c x19 []),(17, .slw 97 0),(98, .dat k13c x20 []),(99, .dat k13b x21 []),(100, .dat k13b x22 [])] [(97,some (.arr .bool x23 false))]
def Zq91 (x10:ByteArray) (x11 x12 x13:Int) (x14:D13e):St:=mk [(0, .dat .str x10 []),(1, .dat k13b x11 []),(9, .dat k13b x12 []),(10, .dat k13b x13 []),(12, .dat k13a x14 [⟨0,769,0,1⟩])] []
def Zr91 (x2:ByteArray) (x3 x4 x5:Int) (x6:D13e) (x7 x8:Int):St:=mk [(0, .dat .str x2 []),(1, .dat k13b x3 []),(2, .fn 180 []),(9, .dat k13b x4 []),(10, .dat k13b x5 []),(12, .dat k13a x6 [⟨0,769,0,1⟩]),(47, .dat k13b x7 []),(48, .dat k13b x8 [])] []
def Zpe1:Code:=(rgt (rgt (rgt (rgt (rgt (rgt (rgt (rgt (rgt (rgt (rgt Zmv)))))))))))
def Zov (m0 n:Nat):D13e→D13a→D13c→Option D13w:=fun x24 x25 x26=>ej Zjo n (.tail Zpe1) 0 (Zo91 x24 x25 x26) Znv
theorem Zwx1 (m0 m1 n:Nat):Zov m0 (n+1)=Za.S3:=by kernel_rfl
theorem Zhq2 (m0 m1:Nat):∀ n:Nat,Zov m0 n=Za.t3 n:=
  ind rfl fun n _=>Zwx1 m0 m1 n
def Ziq2 (m0 m1:Nat):K (ResD Zxr):=sqK Zjo m1 Zpe1 0 Znv
def Zjq2 (m0 m1:Nat):K (ResD Zxr):=Zaa 2 (Ziq2 m0 m1)
def Zs91:Code:=(lft (lft (rgt (lft (rgt (rgt (rgt (rgt (rgt (rgt (rgt (rgt (rgt (rgt Zmv))))))))))))))
def Zpv (m0 m1 n:Nat):Int→D13e→D13a→D13a→Int→Int→D13c→Option D13w:=fun x17 x18 x19 x20 x21 x22 x23=>ej Zjo n (.loop Zs91) 2 (Zp91 x17 x18 x19 x20 x21 x22 x23) (Zjq2 m0 m1)
theorem Zxx1 (m0 m1 n:Nat):Zpv m0 m1 (n+1)=Za.S2 (Zov m0 m1) (Zpv m0 m1 n):=by kernel_rfl
theorem Zkq2 (m0 m1:Nat):∀ n:Nat,Zpv m0 m1 n=Za.l2 (Zov m0 m1) n:=
  ind rfl fun n e2=>(Zxx1 m0 m1 n).trans (by rw [e2];rfl)
def Zqe1:Code:=(rgt (rgt (rgt (rgt (rgt (rgt (rgt Zmv)))))))
def Zqv (m0 n:Nat):ByteArray→Int→Int→Int→D13e→Option D13w:=fun x10 x11 x12 x13 x14=>ej Zjo n (.tail Zqe1) 0 (Zq91 x10 x11 x12 x13 x14) Znv
theorem Zyx1 (m0 n:Nat):Zqv m0 (n+1)=Za.S1 (Zpv m0 n n):=by kernel_rfl
theorem Zlq2 (m0:Nat):∀ n:Nat,Zqv m0 n=Za.t1 n:=
  ind rfl fun n e1=>by
    have e3:Zov m0 n=Za.t3 n:=Zhq2 m0 n n
    have e2:Zpv m0 n n=Za.l2 (Za.t3 n) n:=by rw [← e3];exact Zkq2 m0 n n
    rw [Zyx1 m0 n,e2];rfl
def Zmq2 (m0:Nat):K (ResD Zxr):=sqK Zjo m0 Zqe1 0 Znv
def Znq2 (m0:Nat):K (ResD Zxr):=Zaa 0 (Zmq2 m0)
def Zt91:Code:=(lft (lft (rgt (lft (rgt (rgt (rgt (rgt (rgt (rgt Zmv))))))))))
def Zrv (m0 n:Nat):ByteArray→Int→Int→Int→D13e→Int→Int→Option D13w:=fun x2 x3 x4 x5 x6 x7 x8=>ej Zjo n (.loop Zt91) 0 (Zr91 x2 x3 x4 x5 x6 x7 x8) (Znq2 m0)
theorem Zzx1 (m0 n:Nat):Zrv m0 (n+1)=Za.S0 (Zqv m0 m0) (Zrv m0 n):=by kernel_rfl
theorem Zoq2 (m0:Nat):∀ n:Nat,Zrv m0 n=Za.l0 (Zqv m0 m0) n:=
  ind rfl fun n e0=>(Zzx1 m0 n).trans (by rw [e0];rfl)
theorem Zn32 (m0:Nat) (x:ArgsD Zn91):run Zjo Zmv m0 x Znv=Za.S (Zrv m0 m0) x.1 x.2.1:=by kernel_rfl
abbrev Zks1:AM.Spec:=AM.spec Zn91 Zxr (fun x=>Za x.1 x.2.1)
theorem Zjh3:Zi Tryz.prog 179 Zks1:=ctrC tabOk (fn:=Tryz.f179) (show ∀ x,run Zjo Zmv fu x Znv=_ from fun x=>by
  have e1:Zqv fu fu=Za.t1 fu:=Zlq2 fu fu
  have e0:Zrv fu fu=Za.l0 (Za.t1 fu) fu:=by rw [← e1];exact Zoq2 fu fu
  refine (Zn32 fu x).trans ?_
  rw [e0];rfl) (Ze ⟨⟨Zru,Tryz.call150,fun _=>Zd rfl⟩,⟨⟨Zih3,Tryz.call180,fun _=>Zd rfl⟩,⟨⟨c_f70,Tryz.call70,fun _=>Zd rfl⟩,⟨⟨Zj0,Tryz.call126,nw⟩,⟨⟨Zm81,Tryz.call178,fun _=>Zd rfl⟩,trivial⟩⟩⟩⟩⟩)
abbrev Zu91:Env:=tab.env (AM.look [(179,Zks1)]) ⟨[],[],[],⟨tt [4,5,6],[]⟩,[],[],[],[]⟩
def Zkh3:Code:=bd Tryz.f157
abbrev Zmk1:List (Ty×List Tag):=[(k13a,[⟨0,1,0,1⟩]),(k13c,[]),(k13b,[])]
abbrev Zlh3:List PK:=[.val .str, .val k13b]
abbrev Zmh3:K (ResD Zmk1):=fin Zu91 [.tmp 4, .tmp 5, .tmp 6] [] Zmk1
abbrev Zls1:AM.Spec:=AM.spec Zlh3 Zmk1 (fun x=>Zdp x.1 x.2.1)
theorem Znh3:Zi Tryz.prog 157 Zls1:=ctrC tabOk (fn:=Tryz.f157) (show ∀ x,run Zu91 Zkh3 fu x Zmh3=_ from fun x=>by kernel_rfl) (Ze ⟨⟨Zjh3,Tryz.call179,nw⟩,trivial⟩)
abbrev Zy9:Env:=tab.env (AM.look []) ⟨[(0,⟨tt [0,5,8,9,10],[]⟩)],[],[],⟨tt [4],[]⟩,[],[],[],[]⟩
def Znk1:Code:=bd Tryz.f158
abbrev Zv0:List (Ty×List Tag):=[(k13a,[⟨0,1,0,1⟩])]
abbrev Zv91:List PK:=[.val k13a, .val k13c]
abbrev Zw91:K (ResD Zv0):=fin Zy9 [.tmp 4] [] Zv0
def Zx91 (x1 x2:D13e) (x3:D13a) (x4 x5:Int):St:=mk [(0, .dat k13a x1 []),(5, .dat k13a x2 [⟨0,321,0,1⟩]),(8, .dat k13c x3 []),(9, .dat k13b x4 []),(10, .dat k13b x5 [])] []
def Zy91:Code:=(rgt (rgt (rgt Znk1)))
def Zpq2 (m0:Nat):K (ResD Zv0):=sqK Zy9 m0 Zy91 0 Zw91
def Zqq2 (m0:Nat):K (ResD Zv0):=Zaa 0 (Zpq2 m0)
def Zz91:Code:=(lft (lft (rgt (lft (rgt (rgt Znk1))))))
def Zw4 (m0 n:Nat):D13e→D13e→D13a→Int→Int→Option (D13e):=fun x1 x2 x3 x4 x5=>ej Zy9 n (.loop Zz91) 0 (Zx91 x1 x2 x3 x4 x5) (Zqq2 m0)
theorem Zay1 (m0 n:Nat):Zw4 m0 (n+1)=Zbb.S0 (Zw4 m0 n):=by kernel_rfl
theorem Zrq2 (m0:Nat):∀ n:Nat,Zw4 m0 n=Zbb.l0 n:=
  ind rfl fun n e0=>(Zay1 m0 n).trans (by rw [e0];rfl)
theorem Zo32 (m0:Nat) (x:ArgsD Zv91):run Zy9 Znk1 m0 x Zw91=Zbb.S (Zw4 m0 m0) x.1 x.2.1:=by kernel_rfl
abbrev Zms1:AM.Spec:=AM.spec Zv91 Zv0 (fun x=>Zbb x.1 x.2.1)
theorem Zoh3:Zi Tryz.prog 158 Zms1:=ctrC tabOk (fn:=Tryz.f158) (fun x=>(Zo32 fu x).trans (by rw [Zrq2 fu fu];rfl)) (Ze trivial)
abbrev Zab2:Env:=tab.env (AM.look [(157,Zls1),(158,Zms1)]) ⟨[],[],[],⟨tt [4,5],[]⟩,[],[],[],[]⟩
def Zph3:Code:=bd Tryz.f135
abbrev Zok1:List (Ty×List Tag):=[(k13a,[⟨0,1,0,1⟩]),(k13b,[])]
abbrev Zqh3:List PK:=[.val .str, .val k13b]
abbrev Zrh3:K (ResD Zok1):=fin Zab2 [.tmp 4, .tmp 5] [] Zok1
abbrev Zns1:AM.Spec:=AM.spec Zqh3 Zok1 (fun x=>Zhi x.1 x.2.1)
theorem Zsh3:Zi Tryz.prog 135 Zns1:=ctrC tabOk (fn:=Tryz.f135) (show ∀ x,run Zab2 Zph3 fu x Zrh3=_ from fun x=>by kernel_rfl) (Ze ⟨⟨Znh3,Tryz.call157,nw⟩,⟨⟨Zoh3,Tryz.call158,nw⟩,trivial⟩⟩)
abbrev E_f97:Env:=tab.env (AM.look [(133,Zhs1),(134,Zis1),(135,Zns1)]) ⟨[],[],[],⟨tt [6,7],[]⟩,[],[],[],[]⟩
def b_f97:Code:=bd Tryz.f97
abbrev R_f97:List (Ty×List Tag):=[(k13a,[⟨0,1,0,1⟩]),(k13b,[])]
abbrev P_f97:List PK:=[.val .str, .val k13b, .val k13b]
abbrev K_f97:K (ResD R_f97):=fin E_f97 [.tmp 6, .tmp 7] [] R_f97
abbrev Zbb2:AM.Spec:=AM.spec P_f97 R_f97 (fun x=>Zgj x.1 x.2.1 x.2.2.1)
theorem c_f97:Zi Tryz.prog 97 Zbb2:=ctrC tabOk (fn:=Tryz.f97) (show ∀ x,run E_f97 b_f97 fu x K_f97=_ from fun x=>by kernel_rfl) (Ze ⟨⟨Zdh3,Tryz.call133,nw⟩,⟨⟨Zeh3,Tryz.call134,nw⟩,⟨⟨Zsh3,Tryz.call135,nw⟩,trivial⟩⟩⟩)
abbrev E_f56:Env:=tab.env (AM.look [(96,Za91),(97,Zbb2)]) ⟨[(1,⟨tt [5,8,10,29,30,31],tt [5]⟩),(3,⟨tt [5,8,14,55,56,57],tt [5]⟩)],[],[],⟨tt [6,7],[]⟩,[],[],[],[]⟩
def b_f56:Code:=bd Tryz.f56
abbrev R_f56:List (Ty×List Tag):=[(k13g,[⟨0,1,0,3⟩]),(k13b,[])]
abbrev P_f56:List PK:=[.val .str, .val k13b, .val k13j]
abbrev K_f56:K (ResD R_f56):=fin E_f56 [.tmp 6, .tmp 7] [] R_f56
def Zsq2 (x2:D13u) (x3:Int) (x4:D13a) (x5 x6:Int) (x7:D13p):St:=mk [(5, .ptr 5 0 0),(8, .dat k13g x2 [⟨0,513,0,3⟩]),(10, .dat k13b x3 []),(29, .dat k13c x4 []),(30, .dat k13b x5 []),(31, .dat k13b x6 [])] [(5,some (.var k13j x7 []))]
def Ztq2 (x9:D13u) (x10:Int) (x11:D13e) (x12 x13:Int) (x14:D13p):St:=mk [(5, .ptr 5 0 0),(8, .dat k13g x9 [⟨0,513,0,3⟩]),(14, .dat k13b x10 []),(55, .dat k13a x11 [⟨0,3521,0,1⟩]),(56, .dat k13b x12 []),(57, .dat k13b x13 [])] [(5,some (.var k13j x14 []))]
def Zuq2:Code:=(rgt (rgt (rgt b_f56)))
def Zp32 (m0:Nat):K (ResD R_f56):=sqK E_f56 m0 Zuq2 0 K_f56
def Zos1 (m0:Nat):K (ResD R_f56):=Zaa 0 (Zp32 m0)
def Zvq2:Code:=(rgt (rgt (lft (rgt (lft (rgt (lft (rgt (rgt b_f56)))))))))
def Zq32 (m0:Nat):K (ResD R_f56):=sqK E_f56 m0 Zvq2 0 (Zos1 m0)
def Zr32 (m0:Nat):K (ResD R_f56):=Zaa 1 (Zq32 m0)
def Zwq2:Code:=(lft (lft (rgt (lft (rgt (lft (rgt (lft (rgt (lft (rgt (rgt b_f56))))))))))))
def Zw0 (m0 n:Nat):D13u→Int→D13a→Int→Int→D13p→Option D13x:=fun x2 x3 x4 x5 x6 x7=>ej E_f56 n (.loop Zwq2) 1 (Zsq2 x2 x3 x4 x5 x6 x7) (Zr32 m0)
theorem Zcb2 (m0 n:Nat):Zw0 m0 (n+1)=Zga.S0 (Zw0 m0 n):=by kernel_rfl
theorem Zs32 (m0:Nat):∀ n:Nat,Zw0 m0 n=Zga.l0 n:=
  ind rfl fun n e0=>(Zcb2 m0 n).trans (by rw [e0];rfl)
def Zxq2:Code:=(rgt (rgt (lft (rgt (rgt (rgt (lft (rgt (lft (rgt (rgt b_f56)))))))))))
def Zt32 (m0:Nat):K (ResD R_f56):=sqK E_f56 m0 Zxq2 0 (Zos1 m0)
def Zu32 (m0:Nat):K (ResD R_f56):=Zaa 3 (Zt32 m0)
def Zyq2:Code:=(lft (lft (rgt (lft (rgt (lft (rgt (rgt (rgt (lft (rgt (lft (rgt (rgt b_f56))))))))))))))
def Zx0 (m0 n:Nat):D13u→Int→D13e→Int→Int→D13p→Option D13x:=fun x9 x10 x11 x12 x13 x14=>ej E_f56 n (.loop Zyq2) 3 (Ztq2 x9 x10 x11 x12 x13 x14) (Zu32 m0)
theorem Zdb2 (m0 n:Nat):Zx0 m0 (n+1)=Zga.S1 (Zx0 m0 n):=by kernel_rfl
theorem Zv32 (m0:Nat):∀ n:Nat,Zx0 m0 n=Zga.l1 n:=
  ind rfl fun n e1=>(Zdb2 m0 n).trans (by rw [e1];rfl)
theorem Zth3 (m0:Nat) (x:ArgsD P_f56):run E_f56 b_f56 m0 x K_f56=Zga.S (Zw0 m0 m0) (Zx0 m0 m0) x.1 x.2.1 x.2.2.1:=by kernel_rfl
abbrev Zeb2:AM.Spec:=AM.spec P_f56 R_f56 (fun x=>Zga x.1 x.2.1 x.2.2.1)
theorem c_f56:Zi Tryz.prog 56 Zeb2:=ctrC tabOk (fn:=Tryz.f56) (show ∀ x,run E_f56 b_f56 fu x K_f56=_ from fun x=>by
  have e0:Zw0 fu fu=Zga.l0 fu:=Zs32 fu fu
  have e1:Zx0 fu fu=Zga.l1 fu:=Zv32 fu fu
  refine (Zth3 fu x).trans ?_
  rw [e0,e1];rfl) (Ze ⟨⟨c_f96,Tryz.call96,nw⟩,⟨⟨c_f97,Tryz.call97,nw⟩,trivial⟩⟩)
abbrev Zz9:Env:=tab.env (AM.look [(43,Zs8)]) ⟨[(0,⟨tt [0,1,7,8],[]⟩)],[],[],⟨tt [4],[]⟩,[],[43],[],[]⟩
def Zpk1:Code:=bd Tryz.f69
abbrev Zy0:List (Ty×List Tag):=[(k13b,[])]
abbrev Zfb2:List PK:=[.val k13g, .fn 43 []]
abbrev Zgb2:K (ResD Zy0):=fin Zz9 [.tmp 4] [] Zy0
def Zhb2 (x1:D13u) (x2 x3:Int):St:=mk [(0, .dat k13g x1 []),(1, .fn 43 []),(7, .dat k13b x2 []),(8, .dat k13b x3 [])] []
def Zib2:Code:=(rgt (rgt Zpk1))
def Zzq2 (m0:Nat):K (ResD Zy0):=sqK Zz9 m0 Zib2 0 Zgb2
def Zar2 (m0:Nat):K (ResD Zy0):=Zaa 0 (Zzq2 m0)
def Zjb2:Code:=(lft (lft (rgt (lft (rgt Zpk1)))))
def Zx4 (m0 n:Nat):D13u→Int→Int→Option Int:=fun x1 x2 x3=>ej Zz9 n (.loop Zjb2) 0 (Zhb2 x1 x2 x3) (Zar2 m0)
theorem Zby1 (m0 n:Nat):Zx4 m0 (n+1)=Zt.S0 (Zx4 m0 n):=by kernel_rfl
theorem Zbr2 (m0:Nat):∀ n:Nat,Zx4 m0 n=Zt.l0 n:=
  ind rfl fun n e0=>(Zby1 m0 n).trans (by rw [e0];rfl)
theorem Zw32 (m0:Nat) (x:ArgsD Zfb2):run Zz9 Zpk1 m0 x Zgb2=Zt.S (Zx4 m0 m0) x.1:=by kernel_rfl
abbrev Zps1:AM.Spec:=AM.spec Zfb2 Zy0 (fun x=>Zt x.1)
theorem Zuh3:Zi Tryz.prog 69 Zps1:=ctrC tabOk (fn:=Tryz.f69) (fun x=>(Zw32 fu x).trans (by rw [Zbr2 fu fu];rfl)) (Ze ⟨⟨c_f43,Tryz.call43,fun _=>Zd rfl⟩,trivial⟩)
abbrev Zkb2:Env:=tab.env (AM.look [(69,Zps1)]) ⟨[],[],[],⟨tt [4],[]⟩,[],[69],[],[]⟩
def Zvh3:Code:=bd Tryz.f37
abbrev Zqk1:List (Ty×List Tag):=[(.bool,[])]
abbrev Zwh3:List PK:=[.val k13g, .fn 43 []]
abbrev Zxh3:K (ResD Zqk1):=fin Zkb2 [.tmp 4] [] Zqk1
abbrev Zqs1:AM.Spec:=AM.spec Zwh3 Zqk1 (fun x=>Zid x.1)
theorem Zyh3:Zi Tryz.prog 37 Zqs1:=ctrC tabOk (fn:=Tryz.f37) (show ∀ x,run Zkb2 Zvh3 fu x Zxh3=_ from fun x=>by kernel_rfl) (Ze ⟨⟨Zuh3,Tryz.call69,fun _=>Zd rfl⟩,trivial⟩)
abbrev E_f57:Env:=tab.env (AM.look [(95,Zuj1),(55,Zvj1),(37,Zqs1)]) ⟨[(0,⟨tt [2,8,12,42,43],tt [40]⟩)],[],[],⟨tt [6,7],tt [6,40]⟩,[6,12,40,41,51,60],[37,55],[],[]⟩
def b_f57:Code:=bd Tryz.f57
abbrev R_f57:List (Ty×List Tag):=[(k13g,[]),(k13b,[])]
abbrev P_f57:List PK:=[.val .str, .val k13b, .val k13g]
abbrev K_f57:K (ResD R_f57):=fin E_f57 [.tmp 6, .tmp 7] [] R_f57
def Zcr2 (x4:D13u) (x5:D13a) (x6 x7:Int) (x8:D13u):St:=mk [(2, .dat k13g x4 []),(8, .dat k13c x5 []),(12, .slw 40 0),(42, .dat k13b x6 []),(43, .dat k13b x7 [])] [(40,some (.arr k13f x8 false))]
def Zdr2:Code:=(rgt (rgt (rgt (rgt (rgt (rgt (rgt b_f57)))))))
def Zx32 (m0:Nat):K (ResD R_f57):=sqK E_f57 m0 Zdr2 0 K_f57
def Zy32 (m0:Nat):K (ResD R_f57):=Zaa 0 (Zx32 m0)
def Zer2:Code:=(lft (lft (rgt (lft (rgt (rgt (rgt (rgt (rgt (rgt b_f57))))))))))
def Zaa1 (m0 n:Nat):D13u→D13a→Int→Int→D13u→Option D13x:=fun x4 x5 x6 x7 x8=>ej E_f57 n (.loop Zer2) 0 (Zcr2 x4 x5 x6 x7 x8) (Zy32 m0)
theorem Zlb2 (m0 n:Nat):Zaa1 m0 (n+1)=Zbc.S0 (Zaa1 m0 n):=by kernel_rfl
theorem Zz32 (m0:Nat):∀ n:Nat,Zaa1 m0 n=Zbc.l0 n:=
  ind rfl fun n e0=>(Zlb2 m0 n).trans (by rw [e0];rfl)
theorem Zzh3 (m0:Nat) (x:ArgsD P_f57):run E_f57 b_f57 m0 x K_f57=Zbc.S (Zaa1 m0 m0) x.1 x.2.1 x.2.2.1:=by kernel_rfl
abbrev Zmb2:AM.Spec:=AM.spec P_f57 R_f57 (fun x=>Zbc x.1 x.2.1 x.2.2.1)
theorem c_f57:Zi Tryz.prog 57 Zmb2:=ctrC tabOk (fn:=Tryz.f57) (fun x=>(Zzh3 fu x).trans (by rw [Zz32 fu fu];rfl)) (Ze ⟨⟨c_f95,Tryz.call95,nw⟩,⟨⟨c_f55,Tryz.call55,fun _=>Zd rfl⟩,⟨⟨Zyh3,Tryz.call37,fun _=>Zd rfl⟩,trivial⟩⟩⟩)
abbrev E_f30:Env:=tab.env (AM.look [(54,Zu51),(55,Zvj1),(56,Zeb2),(57,Zmb2),(10,Zpj1)]) ⟨[],[],[],⟨tt [2,3],tt [2]⟩,[],[10,54,55],[],[]⟩
def b_f30:Code:=bd Tryz.f30
abbrev R_f30:List (Ty×List Tag):=[((.pair k13j (.pair .str (.pair .str k13g))),[]),(.bool,[])]
abbrev P_f30:List PK:=[.val .str]
abbrev K_f30:K (ResD R_f30):=fin E_f30 [.cell 2 54, .tmp 3] [] R_f30
abbrev Zba1:AM.Spec:=AM.spec P_f30 R_f30 (fun x=>Zmh x.1)
theorem c_f30:Zi Tryz.prog 30 Zba1:=ctrC tabOk (fn:=Tryz.f30) (show ∀ x,run E_f30 b_f30 fu x K_f30=_ from fun x=>by kernel_rfl) (Ze ⟨⟨c_f54,Tryz.call54,fun _=>Zd rfl⟩,⟨⟨c_f55,Tryz.call55,fun _=>Zd rfl⟩,⟨⟨c_f56,Tryz.call56,nw⟩,⟨⟨c_f57,Tryz.call57,nw⟩,⟨⟨c_f10,Tryz.call10,fun _=>Zd rfl⟩,trivial⟩⟩⟩⟩⟩)
abbrev E_f12:Env:=tab.env (AM.look [(30,Zba1)]) ⟨[],[],[],⟨tt [2,3],[]⟩,[],[],[],[]⟩
def b_f12:Code:=bd Tryz.f12
abbrev R_f12:List (Ty×List Tag):=[(k13g,[]),(k13b,[])]
abbrev P_f12:List PK:=[.val .str]
abbrev K_f12:K (ResD R_f12):=fin E_f12 [.tmp 2, .tmp 3] [] R_f12
abbrev Zrk1:AM.Spec:=AM.spec P_f12 R_f12 (fun x=>Zvj x.1)
theorem c_f12:Zi Tryz.prog 12 Zrk1:=ctrC tabOk (fn:=Tryz.f12) (show ∀ x,run E_f12 b_f12 fu x K_f12=_ from fun x=>by kernel_rfl) (Ze ⟨⟨c_f30,Tryz.call30,nw⟩,trivial⟩)
abbrev E_f15:Env:=tab.env (AM.look [(30,Zba1)]) ⟨[],[],[],⟨tt [2,3],tt [2]⟩,[],[],[],[]⟩
def b_f15:Code:=bd Tryz.f15
abbrev R_f15:List (Ty×List Tag):=[(k13j,[]),(k13b,[])]
abbrev P_f15:List PK:=[.val .str]
abbrev K_f15:K (ResD R_f15):=fin E_f15 [.cell 2 37, .tmp 3] [] R_f15
abbrev Zsk1:AM.Spec:=AM.spec P_f15 R_f15 (fun x=>Zwj x.1)
theorem c_f15:Zi Tryz.prog 15 Zsk1:=ctrC tabOk (fn:=Tryz.f15) (show ∀ x,run E_f15 b_f15 fu x K_f15=_ from fun x=>by kernel_rfl) (Ze ⟨⟨c_f30,Tryz.call30,nw⟩,trivial⟩)
abbrev E_f13:Env:=tab.env (AM.look []) ⟨[(0,⟨tt [0,1,5],[]⟩)],[],[],⟨tt [4],[]⟩,[],[],[],[]⟩
def b_f13:Code:=bd Tryz.f13
abbrev R_f13:List (Ty×List Tag):=[(.bool,[])]
abbrev P_f13:List PK:=[.val k13g, .val k13g]
abbrev K_f13:K (ResD R_f13):=fin E_f13 [.tmp 4] [] R_f13
def Zfr2 (x1 x2:D13u) (x3:Int):St:=mk [(0, .dat k13g x1 []),(1, .dat k13g x2 []),(5, .dat k13b x3 [])] []
def Zgr2:Code:=(rgt (rgt (rgt b_f13)))
def Za42 (m0:Nat):K (ResD R_f13):=sqK E_f13 m0 Zgr2 0 K_f13
def Zb42 (m0:Nat):K (ResD R_f13):=Zaa 0 (Za42 m0)
def Zhr2:Code:=(lft (lft (rgt (lft (rgt (rgt b_f13))))))
def Zca1 (m0 n:Nat):D13u→D13u→Int→Option Bool:=fun x1 x2 x3=>ej E_f13 n (.loop Zhr2) 0 (Zfr2 x1 x2 x3) (Zb42 m0)
theorem Znb2 (m0 n:Nat):Zca1 m0 (n+1)=Zhd.S0 (Zca1 m0 n):=by kernel_rfl
theorem Zc42 (m0:Nat):∀ n:Nat,Zca1 m0 n=Zhd.l0 n:=
  ind rfl fun n e0=>(Znb2 m0 n).trans (by rw [e0];rfl)
theorem Zai3 (m0:Nat) (x:ArgsD P_f13):run E_f13 b_f13 m0 x K_f13=Zhd.S (Zca1 m0 m0) x.1 x.2.1:=by kernel_rfl
abbrev Ztk1:AM.Spec:=AM.spec P_f13 R_f13 (fun x=>Zhd x.1 x.2.1)
theorem c_f13:Zi Tryz.prog 13 Ztk1:=ctrC tabOk (fn:=Tryz.f13) (fun x=>(Zai3 fu x).trans (by rw [Zc42 fu fu];rfl)) (Ze trivial)
abbrev E_f9:Env:=tab.env (AM.look [(14,Zs11),(10,Zpj1),(12,Zrk1),(15,Zsk1),(13,Ztk1)]) ⟨[],[],[],⟨tt [0],[]⟩,[],[10,13,14,15],[],[]⟩
def b_f9:Code:=bd Tryz.f9
abbrev R_f9:List (Ty×List Tag):=[(.bool,[])]
abbrev P_f9:List PK:=[]
abbrev K_f9:K (ResD R_f9):=fin E_f9 [.tmp 0] [] R_f9
abbrev sp_f9:AM.Spec:=AM.spec P_f9 R_f9 (fun x=>Zep)
theorem c_f9:Zi Tryz.prog 9 sp_f9:=ctrC tabOk (fn:=Tryz.f9) (show ∀ x,run E_f9 b_f9 fu x K_f9=_ from fun x=>by kernel_rfl) (Ze ⟨⟨c_f14,Tryz.call14,fun _=>Zd rfl⟩,⟨⟨c_f10,Tryz.call10,fun _=>Zd rfl⟩,⟨⟨c_f12,Tryz.call12,nw⟩,⟨⟨c_f15,Tryz.call15,fun _=>Zd rfl⟩,⟨⟨c_f13,Tryz.call13,fun _=>Zd rfl⟩,trivial⟩⟩⟩⟩⟩)
abbrev E_f36:Env:=tab.env (AM.look []) ⟨[],[],[],⟨tt [2],[]⟩,[],[],[],[]⟩
def b_f36:Code:=bd Tryz.f36
abbrev R_f36:List (Ty×List Tag):=[(.bool,[])]
abbrev P_f36:List PK:=[.val k13f]
abbrev K_f36:K (ResD R_f36):=fin E_f36 [.tmp 2] [] R_f36
theorem Zir2 (m0:Nat) (x:ArgsD P_f36):run E_f36 b_f36 m0 x K_f36=Zie.o x.1:=by kernel_rfl
theorem Zbi3 (m0:Nat) (x:ArgsD P_f36):run E_f36 b_f36 m0 x K_f36=some (Zie x.1):=(Zir2 m0 x).trans (by unfold Zie.o Zie;simp only [Zfl])
abbrev Zob2:AM.Spec:=AM.spec P_f36 R_f36 (fun x=>some (Zie x.1))
theorem c_f36:Zi Tryz.prog 36 Zob2:=ctrC tabOk (fn:=Tryz.f36) (fun x=>Zbi3 fu x) (Ze trivial)
abbrev E_f22:Env:=tab.env (AM.look [(36,Zob2)]) ⟨[(0,⟨tt [0,1,5],[]⟩)],[],[(3,⟨tt [0,1],[]⟩)],⟨tt [4],[]⟩,[],[36],[],[]⟩
def b_f22:Code:=bd Tryz.f22
abbrev R_f22:List (Ty×List Tag):=[(.bool,[])]
abbrev P_f22:List PK:=[.val k13g, .val k13b]
abbrev K_f22:K (ResD R_f22):=fin E_f22 [.tmp 4] [] R_f22
def Zjr2 (x3:D13u) (x4 x5:Int):St:=mk [(0, .dat k13g x3 []),(1, .dat k13b x4 []),(5, .dat k13b x5 [])] []
def Zkr2 (x1:D13u) (x2:Int):St:=mk [(0, .dat k13g x1 []),(1, .dat k13b x2 [])] []
def Zlr2:Code:=(rgt (rgt (rgt b_f22)))
def Zd42 (m0 m1:Nat):K (ResD R_f22):=sqK E_f22 m1 Zlr2 0 K_f22
def Ze42 (m0 m1:Nat):K (ResD R_f22):=Zaa 0 (Zd42 m0 m1)
def Zmr2:Code:=(lft (lft (rgt (lft (rgt (rgt b_f22))))))
def Zz0 (m0 m1 n:Nat):D13u→Int→Int→Option Bool:=fun x3 x4 x5=>ej E_f22 n (.loop Zmr2) 0 (Zjr2 x3 x4 x5) (Ze42 m0 m1)
theorem Zpb2 (m0 m1 n:Nat):Zz0 m0 m1 (n+1)=Zpc.S1 (Zz0 m0 m1 n):=by kernel_rfl
theorem Zf42 (m0 m1:Nat):∀ n:Nat,Zz0 m0 m1 n=Zpc.l1 n:=
  ind rfl fun n e1=>(Zpb2 m0 m1 n).trans (by rw [e1];rfl)
def Znr2:Code:=(rgt (rgt b_f22))
def Zuk1 (m0 n:Nat):D13u→Int→Option Bool:=fun x1 x2=>ej E_f22 n (.tail Znr2) 0 (Zkr2 x1 x2) K_f22
theorem Zqb2 (m0 n:Nat):Zuk1 m0 (n+1)=Zpc.S0 (Zz0 m0 n n):=by kernel_rfl
theorem Zg42 (m0:Nat):∀ n:Nat,Zuk1 m0 n=Zpc.t0 n:=
  ind rfl fun n e0=>by
    have e1:Zz0 m0 n n=Zpc.l1 n:=Zf42 m0 n n
    rw [Zqb2 m0 n,e1];rfl
theorem Zci3 (m0:Nat) (x:ArgsD P_f22):run E_f22 b_f22 m0 x K_f22=Zpc.S (Zuk1 m0 m0) x.1 x.2.1:=by kernel_rfl
abbrev Zrb2:AM.Spec:=AM.spec P_f22 R_f22 (fun x=>Zpc x.1 x.2.1)
theorem c_f22:Zi Tryz.prog 22 Zrb2:=ctrC tabOk (fn:=Tryz.f22) (fun x=>(Zci3 fu x).trans (by rw [Zg42 fu fu];rfl)) (Ze ⟨⟨c_f36,Tryz.call36,fun _=>Zd rfl⟩,trivial⟩)
abbrev Zda1:Env:=tab.env (AM.look []) ⟨[(0,⟨tt [0,2,3,4],tt [2,3]⟩)],[],[],⟨tt [2],tt [2]⟩,[],[],[],[]⟩
def Zvk1:Code:=bd Tryz.f146
abbrev Za1:List (Ty×List Tag):=[((.arr 63 .bool),[])]
abbrev Zsb2:List PK:=[.val k13b]
abbrev Ztb2:K (ResD Za1):=fin Zda1 [.cell 2 147] [] Za1
def Zub2 (x1 x2:Int) (x3 x4:D13c):St:=mk [(0, .dat k13b x1 []),(2, .ptr 2 0 0),(3, .ptr 3 0 0),(4, .dat k13b x2 [])] [(2,some (.arr .bool x3 false)),(3,some (.arr .bool x4 false))]
def Zvb2:Code:=(rgt (rgt (rgt Zvk1)))
def Zor2 (m0:Nat):K (ResD Za1):=sqK Zda1 m0 Zvb2 0 Ztb2
def Zpr2 (m0:Nat):K (ResD Za1):=Zaa 0 (Zor2 m0)
def Zwb2:Code:=(lft (lft (rgt (lft (rgt (rgt Zvk1))))))
def Zy4 (m0 n:Nat):Int→Int→D13c→D13c→Option (D13c):=fun x1 x2 x3 x4=>ej Zda1 n (.loop Zwb2) 0 (Zub2 x1 x2 x3 x4) (Zpr2 m0)
theorem Zcy1 (m0 n:Nat):Zy4 m0 (n+1)=Zzd.S0 (Zy4 m0 n):=by kernel_rfl
theorem Zqr2 (m0:Nat):∀ n:Nat,Zy4 m0 n=Zzd.l0 n:=
  ind rfl fun n e0=>(Zcy1 m0 n).trans (by rw [e0];rfl)
theorem Zh42 (m0:Nat) (x:ArgsD Zsb2):run Zda1 Zvk1 m0 x Ztb2=Zzd.S (Zy4 m0 m0) x.1:=by kernel_rfl
abbrev Zer:AM.Spec:=AM.spec Zsb2 Za1 (fun x=>Zzd x.1)
theorem Zb1:Zi Tryz.prog 146 Zer:=ctrC tabOk (fn:=Tryz.f146) (fun x=>(Zh42 fu x).trans (by rw [Zqr2 fu fu];rfl)) (Ze trivial)
abbrev Zea1:Env:=tab.env (AM.look [(146,Zer)]) ⟨[(0,⟨tt [3,4],tt [3]⟩)],[],[],⟨tt [2],[]⟩,[],[146],[],[]⟩
def Zwk1:Code:=bd Tryz.f119
abbrev Zc1:List (Ty×List Tag):=[(k13b,[])]
abbrev Zxb2:List PK:=[.val k13b]
abbrev Zyb2:K (ResD Zc1):=fin Zea1 [.tmp 2] [] Zc1
def Zzb2 (x2:Int) (x3:D13c):St:=mk [(3, .ptr 3 0 0),(4, .dat k13b x2 [])] [(3,some (.arr .bool x3 false))]
def Zac2:Code:=(rgt (rgt (rgt Zwk1)))
def Zrr2 (m0:Nat):K (ResD Zc1):=sqK Zea1 m0 Zac2 0 Zyb2
def Zsr2 (m0:Nat):K (ResD Zc1):=Zaa 0 (Zrr2 m0)
def Zbc2:Code:=(lft (lft (rgt (lft (rgt (rgt Zwk1))))))
def Zz4 (m0 n:Nat):Int→D13c→Option Int:=fun x2 x3=>ej Zea1 n (.loop Zbc2) 0 (Zzb2 x2 x3) (Zsr2 m0)
theorem Zdy1 (m0 n:Nat):Zz4 m0 (n+1)=Zkd.S0 (Zz4 m0 n):=by kernel_rfl
theorem Ztr2 (m0:Nat):∀ n:Nat,Zz4 m0 n=Zkd.l0 n:=
  ind rfl fun n e0=>(Zdy1 m0 n).trans (by rw [e0];rfl)
theorem Zi42 (m0:Nat) (x:ArgsD Zxb2):run Zea1 Zwk1 m0 x Zyb2=Zkd.S (Zz4 m0 m0) x.1:=by kernel_rfl
abbrev Zrs1:AM.Spec:=AM.spec Zxb2 Zc1 (fun x=>Zkd x.1)
theorem Zdi3:Zi Tryz.prog 119 Zrs1:=ctrC tabOk (fn:=Tryz.f119) (fun x=>(Zi42 fu x).trans (by rw [Ztr2 fu fu];rfl)) (Ze ⟨⟨Zb1,Tryz.call146,fun _=>Zd rfl⟩,trivial⟩)
abbrev E_f83:Env:=tab.env (AM.look [(119,Zrs1)]) ⟨[(0,⟨tt [0,3,4],[]⟩)],[],[],⟨tt [2],[]⟩,[],[119],[],[]⟩
def b_f83:Code:=bd Tryz.f83
abbrev R_f83:List (Ty×List Tag):=[(k13b,[])]
abbrev P_f83:List PK:=[.val k13c]
abbrev K_f83:K (ResD R_f83):=fin E_f83 [.tmp 2] [] R_f83
def Zur2 (x1:D13a) (x2 x3:Int):St:=mk [(0, .dat k13c x1 []),(3, .dat k13b x2 []),(4, .dat k13b x3 [])] []
def Zvr2:Code:=(rgt (rgt (rgt b_f83)))
def Zj42 (m0:Nat):K (ResD R_f83):=sqK E_f83 m0 Zvr2 0 K_f83
def Zk42 (m0:Nat):K (ResD R_f83):=Zaa 0 (Zj42 m0)
def Zwr2:Code:=(lft (lft (rgt (lft (rgt (rgt b_f83))))))
def Zfa1 (m0 n:Nat):D13a→Int→Int→Option Int:=fun x1 x2 x3=>ej E_f83 n (.loop Zwr2) 0 (Zur2 x1 x2 x3) (Zk42 m0)
theorem Zcc2 (m0 n:Nat):Zfa1 m0 (n+1)=Zzc.S0 (Zfa1 m0 n):=by kernel_rfl
theorem Zl42 (m0:Nat):∀ n:Nat,Zfa1 m0 n=Zzc.l0 n:=
  ind rfl fun n e0=>(Zcc2 m0 n).trans (by rw [e0];rfl)
theorem Zei3 (m0:Nat) (x:ArgsD P_f83):run E_f83 b_f83 m0 x K_f83=Zzc.S (Zfa1 m0 m0) x.1:=by kernel_rfl
abbrev Zsv:AM.Spec:=AM.spec P_f83 R_f83 (fun x=>Zzc x.1)
theorem c_f83:Zi Tryz.prog 83 Zsv:=ctrC tabOk (fn:=Tryz.f83) (fun x=>(Zei3 fu x).trans (by rw [Zl42 fu fu];rfl)) (Ze ⟨⟨Zdi3,Tryz.call119,fun _=>Zd rfl⟩,trivial⟩)
abbrev E_f84:Env:=tab.env (AM.look []) ⟨[],[],[],⟨tt [4],[]⟩,[],[],[],[]⟩
def b_f84:Code:=bd Tryz.f84
abbrev R_f84:List (Ty×List Tag):=[(k13b,[])]
abbrev P_f84:List PK:=[.val k13b, .val k13b]
abbrev K_f84:K (ResD R_f84):=fin E_f84 [.tmp 4] [] R_f84
theorem Zxr2 (m0:Nat) (x:ArgsD P_f84):run E_f84 b_f84 m0 x K_f84=Zlg.o x.1 x.2.1:=by kernel_rfl
theorem Zfi3 (m0:Nat) (x:ArgsD P_f84):run E_f84 b_f84 m0 x K_f84=some (Zlg x.1 x.2.1):=(Zxr2 m0 x).trans (by unfold Zlg.o Zlg;simp only [Zfl])
abbrev Zxk1:AM.Spec:=AM.spec P_f84 R_f84 (fun x=>some (Zlg x.1 x.2.1))
theorem c_f84:Zi Tryz.prog 84 Zxk1:=ctrC tabOk (fn:=Tryz.f84) (fun x=>Zfi3 fu x) (Ze trivial)
abbrev E_f48:Env:=tab.env (AM.look [(83,Zsv),(84,Zxk1)]) ⟨[(0,⟨tt [0,1,6,7],tt [31]⟩),(2,⟨tt [0,1,6,7,8],tt [31]⟩)],[],[],⟨tt [4,5],[]⟩,[6,31,56,59,69],[83,84],[],[]⟩
def b_f48:Code:=bd Tryz.f48
abbrev R_f48:List (Ty×List Tag):=[(.str,[]),(k13b,[])]
abbrev P_f48:List PK:=[.val k13c, .val k13b]
abbrev K_f48:K (ResD R_f48):=fin E_f48 [.tmp 4, .tmp 5] [] R_f48
def Zyr2 (x7:D13a) (x8 x9 x10:Int) (x11:D13a):St:=mk [(0, .dat k13c x7 []),(1, .dat k13b x8 []),(6, .slw 31 0),(7, .dat k13b x9 []),(8, .dat k13b x10 [])] [(31,some (.arr (.int .u8) x11 false))]
def Zzr2 (x3:D13a) (x4 x5:Int) (x6:D13a):St:=mk [(0, .dat k13c x3 []),(1, .dat k13b x4 []),(6, .slw 31 0),(7, .dat k13b x5 [])] [(31,some (.arr (.int .u8) x6 false))]
def Zas2:Code:=(rgt (rgt (rgt (rgt b_f48))))
def Zm42 (m0:Nat):K (ResD R_f48):=sqK E_f48 m0 Zas2 0 K_f48
def Zss1 (m0:Nat):K (ResD R_f48):=Zaa 0 (Zm42 m0)
def Zex:Code:=(lft (lft (rgt (lft (rgt (rgt (rgt b_f48)))))))
def Zd1 (m0 n:Nat):D13a→Int→Int→D13a→Option D13g:=fun x3 x4 x5 x6=>ej E_f48 n (.loop Zex) 0 (Zzr2 x3 x4 x5 x6) (Zss1 m0)
def Zn42 (m0 m1:Nat):K (ResD R_f48):=lpK E_f48 m1 Zex 0 (Zss1 m0)
def Zbs2:Code:=(rgt (rgt Zex))
def Zo42 (m0 m1:Nat):K (ResD R_f48):=sqK E_f48 m1 Zbs2 0 (Zn42 m0 m1)
def Zp42 (m0 m1:Nat):K (ResD R_f48):=Zaa 1 (Zo42 m0 m1)
def Zq42 (m0 m1:Nat):K (ResD R_f48):=Zaa 2 (Zp42 m0 m1)
def Zcs2:Code:=(lft (lft (rgt (lft (lft (rgt Zex))))))
def Ze1 (m0 m1 n:Nat):D13a→Int→Int→Int→D13a→Option D13g:=fun x7 x8 x9 x10 x11=>ej E_f48 n (.loop Zcs2) 2 (Zyr2 x7 x8 x9 x10 x11) (Zq42 m0 m1)
theorem Zdc2 (m0 m1 n:Nat):Ze1 m0 m1 (n+1)=Zob.S1 (Zd1 m0 m1) (Ze1 m0 m1 n):=by kernel_rfl
theorem Zr42 (m0 m1:Nat):∀ n:Nat,Ze1 m0 m1 n=Zob.l1 (Zd1 m0 m1) n:=
  ind rfl fun n e1=>(Zdc2 m0 m1 n).trans (by rw [e1];rfl)
theorem Zec2 (m0 n:Nat):Zd1 m0 (n+1)=Zob.S0 (Ze1 m0 n n):=by kernel_rfl
theorem Zs42 (m0:Nat):∀ n:Nat,Zd1 m0 n=Zob.l0 n:=
  ind rfl fun n e0=>by
    have e1:Ze1 m0 n n=Zob.l1 (Zob.l0 n) n:=by rw [← e0];exact Zr42 m0 n n
    rw [Zec2 m0 n,e1];rfl
theorem Zgi3 (m0:Nat) (x:ArgsD P_f48):run E_f48 b_f48 m0 x K_f48=Zob.S (Zd1 m0 m0) x.1 x.2.1:=by kernel_rfl
abbrev Ztv:AM.Spec:=AM.spec P_f48 R_f48 (fun x=>Zob x.1 x.2.1)
theorem c_f48:Zi Tryz.prog 48 Ztv:=ctrC tabOk (fn:=Tryz.f48) (fun x=>(Zgi3 fu x).trans (by rw [Zs42 fu fu];rfl)) (Ze ⟨⟨c_f83,Tryz.call83,fun _=>Zd rfl⟩,⟨⟨c_f84,Tryz.call84,fun _=>Zd rfl⟩,trivial⟩⟩)
abbrev E_f27:Env:=tab.env (AM.look [(48,Ztv)]) ⟨[(0,⟨tt [0,4,5,6],[]⟩)],[],[(10,⟨tt [0,4,5],[]⟩)],⟨tt [2,3],[]⟩,[],[48],[],[]⟩
def b_f27:Code:=bd Tryz.f27
abbrev R_f27:List (Ty×List Tag):=[(.str,[]),(k13g,[⟨0,1,0,3⟩])]
abbrev P_f27:List PK:=[.val k13g]
abbrev K_f27:K (ResD R_f27):=fin E_f27 [.tmp 2, .tmp 3] [] R_f27
def Zds2 (x5 x6:D13u) (x7:D13a):St:=mk [(0, .dat k13g x5 []),(4, .dat k13g x6 [⟨0,257,0,3⟩]),(5, .dat k13c x7 [⟨0,321,0,1⟩])] []
def Zes2 (x1 x2:D13u) (x3:D13a) (x4:Int):St:=mk [(0, .dat k13g x1 []),(4, .dat k13g x2 [⟨0,257,0,3⟩]),(5, .dat k13c x3 [⟨0,321,0,1⟩]),(6, .dat k13b x4 [])] []
def Zyk1:Code:=(rgt (rgt (rgt (rgt b_f27))))
def Zf1 (m0 n:Nat):D13u→D13u→D13a→Option D13z:=fun x5 x6 x7=>ej E_f27 n (.tail Zyk1) 0 (Zds2 x5 x6 x7) K_f27
theorem Zfc2 (m0 n:Nat):Zf1 m0 (n+1)=Zpb.S1:=by kernel_rfl
theorem Zt42 (m0:Nat):∀ n:Nat,Zf1 m0 n=Zpb.t1 n:=
  ind rfl fun n _=>Zfc2 m0 n
def Zu42 (m0:Nat):K (ResD R_f27):=sqK E_f27 m0 Zyk1 0 K_f27
def Zv42 (m0:Nat):K (ResD R_f27):=Zaa 0 (Zu42 m0)
def Zfs2:Code:=(lft (lft (rgt (lft (rgt (rgt (rgt b_f27)))))))
def Zg1 (m0 n:Nat):D13u→D13u→D13a→Int→Option D13z:=fun x1 x2 x3 x4=>ej E_f27 n (.loop Zfs2) 0 (Zes2 x1 x2 x3 x4) (Zv42 m0)
theorem Zgc2 (m0 n:Nat):Zg1 m0 (n+1)=Zpb.S0 (Zf1 m0 m0) (Zg1 m0 n):=by kernel_rfl
theorem Zw42 (m0:Nat):∀ n:Nat,Zg1 m0 n=Zpb.l0 (Zf1 m0 m0) n:=
  ind rfl fun n e0=>(Zgc2 m0 n).trans (by rw [e0];rfl)
theorem Zhi3 (m0:Nat) (x:ArgsD P_f27):run E_f27 b_f27 m0 x K_f27=Zpb.S (Zg1 m0 m0) x.1:=by kernel_rfl
abbrev Zhc2:AM.Spec:=AM.spec P_f27 R_f27 (fun x=>Zpb x.1)
theorem c_f27:Zi Tryz.prog 27 Zhc2:=ctrC tabOk (fn:=Tryz.f27) (show ∀ x,run E_f27 b_f27 fu x K_f27=_ from fun x=>by
  have e1:Zf1 fu fu=Zpb.t1 fu:=Zt42 fu fu
  have e0:Zg1 fu fu=Zpb.l0 (Zpb.t1 fu) fu:=by rw [← e1];exact Zw42 fu fu
  refine (Zhi3 fu x).trans ?_
  rw [e0];rfl) (Ze ⟨⟨c_f48,Tryz.call48,fun _=>Zd rfl⟩,trivial⟩)
abbrev E_f50:Env:=tab.env (AM.look []) ⟨[(0,⟨tt [0,3,4],[]⟩)],[],[],⟨tt [2],[]⟩,[],[],[],[]⟩
def b_f50:Code:=bd Tryz.f50
abbrev R_f50:List (Ty×List Tag):=[(k13c,[⟨0,1,0,1⟩])]
abbrev P_f50:List PK:=[.val k13g]
abbrev K_f50:K (ResD R_f50):=fin E_f50 [.tmp 2] [] R_f50
def Zgs2 (x1:D13u) (x2:D13a) (x3:Int):St:=mk [(0, .dat k13g x1 []),(3, .dat k13c x2 [⟨0,193,0,1⟩]),(4, .dat k13b x3 [])] []
def Zhs2:Code:=(rgt (rgt (rgt b_f50)))
def Zx42 (m0:Nat):K (ResD R_f50):=sqK E_f50 m0 Zhs2 0 K_f50
def Zy42 (m0:Nat):K (ResD R_f50):=Zaa 0 (Zx42 m0)
def Zis2:Code:=(lft (lft (rgt (lft (rgt (rgt b_f50))))))
def Zga1 (m0 n:Nat):D13u→D13a→Int→Option D13d:=fun x1 x2 x3=>ej E_f50 n (.loop Zis2) 0 (Zgs2 x1 x2 x3) (Zy42 m0)
theorem Zic2 (m0 n:Nat):Zga1 m0 (n+1)=Zge.S0 (Zga1 m0 n):=by kernel_rfl
theorem Zz42 (m0:Nat):∀ n:Nat,Zga1 m0 n=Zge.l0 n:=
  ind rfl fun n e0=>(Zic2 m0 n).trans (by rw [e0];rfl)
theorem Zii3 (m0:Nat) (x:ArgsD P_f50):run E_f50 b_f50 m0 x K_f50=Zge.S (Zga1 m0 m0) x.1:=by kernel_rfl
abbrev Zjc2:AM.Spec:=AM.spec P_f50 R_f50 (fun x=>Zge x.1)
theorem c_f50:Zi Tryz.prog 50 Zjc2:=ctrC tabOk (fn:=Tryz.f50) (fun x=>(Zii3 fu x).trans (by rw [Zz42 fu fu];rfl)) (Ze trivial)
abbrev E_f85:Env:=tab.env (AM.look []) ⟨[(0,⟨tt [0,3,4],[]⟩),(2,⟨tt [0,3,4,5],[]⟩)],[],[],⟨tt [2],[]⟩,[],[],[],[]⟩
def b_f85:Code:=bd Tryz.f85
abbrev R_f85:List (Ty×List Tag):=[(.str,[])]
abbrev P_f85:List PK:=[.val k13c]
abbrev K_f85:K (ResD R_f85):=fin E_f85 [.tmp 2] [] R_f85
def Zjs2 (x4 x5:D13a) (x6 x7:Int):St:=mk [(0, .dat k13c x4 []),(3, .dat (.sl (.int .u8)) x5 [⟨0,193,0,0⟩]),(4, .dat k13b x6 []),(5, .dat k13b x7 [])] []
def Zks2 (x1 x2:D13a) (x3:Int):St:=mk [(0, .dat k13c x1 []),(3, .dat (.sl (.int .u8)) x2 [⟨0,193,0,0⟩]),(4, .dat k13b x3 [])] []
def Zls2:Code:=(rgt (rgt (rgt b_f85)))
def Za52 (m0:Nat):K (ResD R_f85):=sqK E_f85 m0 Zls2 0 K_f85
def Zts1 (m0:Nat):K (ResD R_f85):=Zaa 0 (Za52 m0)
def Zfx:Code:=(lft (lft (rgt (lft (rgt (rgt b_f85))))))
def Zh1 (m0 n:Nat):D13a→D13a→Int→Option ByteArray:=fun x1 x2 x3=>ej E_f85 n (.loop Zfx) 0 (Zks2 x1 x2 x3) (Zts1 m0)
def Zb52 (m0 m1:Nat):K (ResD R_f85):=lpK E_f85 m1 Zfx 0 (Zts1 m0)
def Zms2:Code:=(rgt (rgt Zfx))
def Zc52 (m0 m1:Nat):K (ResD R_f85):=sqK E_f85 m1 Zms2 0 (Zb52 m0 m1)
def Zd52 (m0 m1:Nat):K (ResD R_f85):=Zaa 1 (Zc52 m0 m1)
def Ze52 (m0 m1:Nat):K (ResD R_f85):=Zaa 2 (Zd52 m0 m1)
def Zns2:Code:=(lft (lft (rgt (lft (lft (rgt Zfx))))))
def Zi1 (m0 m1 n:Nat):D13a→D13a→Int→Int→Option ByteArray:=fun x4 x5 x6 x7=>ej E_f85 n (.loop Zns2) 2 (Zjs2 x4 x5 x6 x7) (Ze52 m0 m1)
theorem Zkc2 (m0 m1 n:Nat):Zi1 m0 m1 (n+1)=Zxa.S1 (Zh1 m0 m1) (Zi1 m0 m1 n):=by kernel_rfl
theorem Zf52 (m0 m1:Nat):∀ n:Nat,Zi1 m0 m1 n=Zxa.l1 (Zh1 m0 m1) n:=
  ind rfl fun n e1=>(Zkc2 m0 m1 n).trans (by rw [e1];rfl)
theorem Zlc2 (m0 n:Nat):Zh1 m0 (n+1)=Zxa.S0 (Zi1 m0 n n):=by kernel_rfl
theorem Zg52 (m0:Nat):∀ n:Nat,Zh1 m0 n=Zxa.l0 n:=
  ind rfl fun n e0=>by
    have e1:Zi1 m0 n n=Zxa.l1 (Zxa.l0 n) n:=by rw [← e0];exact Zf52 m0 n n
    rw [Zlc2 m0 n,e1];rfl
theorem Zji3 (m0:Nat) (x:ArgsD P_f85):run E_f85 b_f85 m0 x K_f85=Zxa.S (Zh1 m0 m0) x.1:=by kernel_rfl
abbrev Zmc2:AM.Spec:=AM.spec P_f85 R_f85 (fun x=>Zxa x.1)
theorem c_f85:Zi Tryz.prog 85 Zmc2:=ctrC tabOk (fn:=Tryz.f85) (fun x=>(Zji3 fu x).trans (by rw [Zg52 fu fu];rfl)) (Ze trivial)
abbrev E_f87:Env:=tab.env (AM.look []) ⟨[(0,⟨tt [0,3,4],tt [3]⟩)],[],[],⟨tt [2],tt [3]⟩,[2,3,30,31,40,48,49],[],[],[]⟩
def b_f87:Code:=bd Tryz.f87
abbrev R_f87:List (Ty×List Tag):=[(k13i,[])]
abbrev P_f87:List PK:=[.val k13c]
abbrev K_f87:K (ResD R_f87):=fin E_f87 [.tmp 2] [] R_f87
def Zos2 (x1:D13a) (x2:Int) (x3:D13o):St:=mk [(0, .dat k13c x1 []),(3, .slw 3 0),(4, .dat k13b x2 [])] [(3,some (.arr k13h x3 false))]
def Zps2:Code:=(rgt (rgt (rgt b_f87)))
def Zh52 (m0:Nat):K (ResD R_f87):=sqK E_f87 m0 Zps2 0 K_f87
def Zi52 (m0:Nat):K (ResD R_f87):=Zaa 0 (Zh52 m0)
def Zqs2:Code:=(lft (lft (rgt (lft (rgt (rgt b_f87))))))
def Zha1 (m0 n:Nat):D13a→Int→D13o→Option D13q:=fun x1 x2 x3=>ej E_f87 n (.loop Zqs2) 0 (Zos2 x1 x2 x3) (Zi52 m0)
theorem Znc2 (m0 n:Nat):Zha1 m0 (n+1)=Zaf.S0 (Zha1 m0 n):=by kernel_rfl
theorem Zj52 (m0:Nat):∀ n:Nat,Zha1 m0 n=Zaf.l0 n:=
  ind rfl fun n e0=>(Znc2 m0 n).trans (by rw [e0];rfl)
theorem Zki3 (m0:Nat) (x:ArgsD P_f87):run E_f87 b_f87 m0 x K_f87=Zaf.S (Zha1 m0 m0) x.1:=by kernel_rfl
abbrev Zzk1:AM.Spec:=AM.spec P_f87 R_f87 (fun x=>Zaf x.1)
theorem c_f87:Zi Tryz.prog 87 Zzk1:=ctrC tabOk (fn:=Tryz.f87) (fun x=>(Zki3 fu x).trans (by rw [Zj52 fu fu];rfl)) (Ze trivial)
abbrev E_f99:Env:=tab.env (AM.look []) ⟨[(0,⟨tt [0,3,4],[]⟩)],[],[],⟨tt [2],[]⟩,[],[],[],[]⟩
def b_f99:Code:=bd Tryz.f99
abbrev R_f99:List (Ty×List Tag):=[(.bool,[])]
abbrev P_f99:List PK:=[.val k13i]
abbrev K_f99:K (ResD R_f99):=fin E_f99 [.tmp 2] [] R_f99
def Zrs2 (x1:D13o) (x2 x3:Int):St:=mk [(0, .dat k13i x1 []),(3, .dat k13b x2 []),(4, .dat k13b x3 [])] []
def Zss2:Code:=(rgt (rgt (rgt b_f99)))
def Zk52 (m0:Nat):K (ResD R_f99):=sqK E_f99 m0 Zss2 0 K_f99
def Zl52 (m0:Nat):K (ResD R_f99):=Zaa 0 (Zk52 m0)
def Zts2:Code:=(lft (lft (rgt (lft (rgt (rgt b_f99))))))
def Zia1 (m0 n:Nat):D13o→Int→Int→Option Bool:=fun x1 x2 x3=>ej E_f99 n (.loop Zts2) 0 (Zrs2 x1 x2 x3) (Zl52 m0)
theorem Zoc2 (m0 n:Nat):Zia1 m0 (n+1)=Ztc.S0 (Zia1 m0 n):=by kernel_rfl
theorem Zm52 (m0:Nat):∀ n:Nat,Zia1 m0 n=Ztc.l0 n:=
  ind rfl fun n e0=>(Zoc2 m0 n).trans (by rw [e0];rfl)
theorem Zli3 (m0:Nat) (x:ArgsD P_f99):run E_f99 b_f99 m0 x K_f99=Ztc.S (Zia1 m0 m0) x.1:=by kernel_rfl
abbrev Zja1:AM.Spec:=AM.spec P_f99 R_f99 (fun x=>Ztc x.1)
theorem c_f99:Zi Tryz.prog 99 Zja1:=ctrC tabOk (fn:=Tryz.f99) (fun x=>(Zli3 fu x).trans (by rw [Zm52 fu fu];rfl)) (Ze trivial)
abbrev Zka1:Env:=tab.env (AM.look []) ⟨[(0,⟨tt [1,3,4],tt [1]⟩)],[],[],⟨tt [2],[]⟩,[],[],[],[]⟩
def Zal1:Code:=bd Tryz.f147
abbrev Zj1:List (Ty×List Tag):=[(k13b,[])]
abbrev Zpc2:List PK:=[.val (.arr 63 .bool)]
abbrev Zqc2:K (ResD Zj1):=fin Zka1 [.tmp 2] [] Zj1
def Zrc2 (x1 x2:Int) (x3:D13c):St:=mk [(1, .ptr 1 0 0),(3, .dat k13b x1 []),(4, .dat k13b x2 [])] [(1,some (.arr .bool x3 false))]
def Zsc2:Code:=(rgt (rgt (rgt Zal1)))
def Zus2 (m0:Nat):K (ResD Zj1):=sqK Zka1 m0 Zsc2 0 Zqc2
def Zvs2 (m0:Nat):K (ResD Zj1):=Zaa 0 (Zus2 m0)
def Ztc2:Code:=(lft (lft (rgt (lft (rgt (rgt Zal1))))))
def Za5 (m0 n:Nat):Int→Int→D13c→Option Int:=fun x1 x2 x3=>ej Zka1 n (.loop Ztc2) 0 (Zrc2 x1 x2 x3) (Zvs2 m0)
theorem Zey1 (m0 n:Nat):Za5 m0 (n+1)=Zwb.S0 (Za5 m0 n):=by kernel_rfl
theorem Zws2 (m0:Nat):∀ n:Nat,Za5 m0 n=Zwb.l0 n:=
  ind rfl fun n e0=>(Zey1 m0 n).trans (by rw [e0];rfl)
theorem Zn52 (m0:Nat) (x:ArgsD Zpc2):run Zka1 Zal1 m0 x Zqc2=Zwb.S (Za5 m0 m0) x.1:=by kernel_rfl
abbrev Zuv:AM.Spec:=AM.spec Zpc2 Zj1 (fun x=>Zwb x.1)
theorem Zla1:Zi Tryz.prog 147 Zuv:=ctrC tabOk (fn:=Tryz.f147) (fun x=>(Zn52 fu x).trans (by rw [Zws2 fu fu];rfl)) (Ze trivial)
abbrev Zma1:Env:=tab.env (AM.look [(146,Zer),(147,Zuv)]) ⟨[(0,⟨tt [3,4,5],tt [3,4]⟩)],[],[],⟨tt [2],[]⟩,[],[146,147],[],[]⟩
def Zbl1:Code:=bd Tryz.f124
abbrev Zk1:List (Ty×List Tag):=[(k13b,[])]
abbrev Zuc2:List PK:=[.val k13b]
abbrev Zvc2:K (ResD Zk1):=fin Zma1 [.tmp 2] [] Zk1
def Zwc2 (x2:Int) (x3 x4:D13c):St:=mk [(3, .ptr 3 0 0),(4, .ptr 4 0 0),(5, .dat k13b x2 [])] [(3,some (.arr .bool x3 false)),(4,some (.arr .bool x4 false))]
def Zxc2:Code:=(rgt (rgt (rgt (rgt (rgt Zbl1)))))
def Zxs2 (m0:Nat):K (ResD Zk1):=sqK Zma1 m0 Zxc2 0 Zvc2
def Zys2 (m0:Nat):K (ResD Zk1):=Zaa 0 (Zxs2 m0)
def Zyc2:Code:=(lft (lft (rgt (lft (rgt (rgt (rgt (rgt Zbl1))))))))
def Zb5 (m0 n:Nat):Int→D13c→D13c→Option Int:=fun x2 x3 x4=>ej Zma1 n (.loop Zyc2) 0 (Zwc2 x2 x3 x4) (Zys2 m0)
theorem Zfy1 (m0 n:Nat):Zb5 m0 (n+1)=Zvd.S0 (Zb5 m0 n):=by kernel_rfl
theorem Zzs2 (m0:Nat):∀ n:Nat,Zb5 m0 n=Zvd.l0 n:=
  ind rfl fun n e0=>(Zfy1 m0 n).trans (by rw [e0];rfl)
theorem Zo52 (m0:Nat) (x:ArgsD Zuc2):run Zma1 Zbl1 m0 x Zvc2=Zvd.S (Zb5 m0 m0) x.1:=by kernel_rfl
abbrev Zus1:AM.Spec:=AM.spec Zuc2 Zk1 (fun x=>Zvd x.1)
theorem Zmi3:Zi Tryz.prog 124 Zus1:=ctrC tabOk (fn:=Tryz.f124) (fun x=>(Zo52 fu x).trans (by rw [Zzs2 fu fu];rfl)) (Ze ⟨⟨Zb1,Tryz.call146,fun _=>Zd rfl⟩,⟨⟨Zla1,Tryz.call147,fun _=>Zd rfl⟩,trivial⟩⟩)
abbrev Zna1:Env:=tab.env (AM.look [(146,Zer),(147,Zuv)]) ⟨[(0,⟨tt [1,2,7,8,9],tt [7,8]⟩)],[],[],⟨tt [6],[]⟩,[],[146,147],[],[]⟩
def Zcl1:Code:=bd Tryz.f125
abbrev Zl1:List (Ty×List Tag):=[(k13b,[])]
abbrev Zzc2:List PK:=[.val k13b, .val k13b, .val k13b]
abbrev Zad2:K (ResD Zl1):=fin Zna1 [.tmp 6] [] Zl1
def Zbd2 (x2 x3 x4:Int) (x5 x6:D13c):St:=mk [(1, .dat k13b x2 []),(2, .dat k13b x3 []),(7, .ptr 7 0 0),(8, .ptr 8 0 0),(9, .dat k13b x4 [])] [(7,some (.arr .bool x5 false)),(8,some (.arr .bool x6 false))]
def Zcd2:Code:=(rgt (rgt (rgt (rgt Zcl1))))
def Zat2 (m0:Nat):K (ResD Zl1):=sqK Zna1 m0 Zcd2 0 Zad2
def Zbt2 (m0:Nat):K (ResD Zl1):=Zaa 0 (Zat2 m0)
def Zdd2:Code:=(lft (lft (rgt (lft (rgt (rgt (rgt Zcl1)))))))
def Zc5 (m0 n:Nat):Int→Int→Int→D13c→D13c→Option Int:=fun x2 x3 x4 x5 x6=>ej Zna1 n (.loop Zdd2) 0 (Zbd2 x2 x3 x4 x5 x6) (Zbt2 m0)
theorem Zgy1 (m0 n:Nat):Zc5 m0 (n+1)=Zlc.S0 (Zc5 m0 n):=by kernel_rfl
theorem Zct2 (m0:Nat):∀ n:Nat,Zc5 m0 n=Zlc.l0 n:=
  ind rfl fun n e0=>(Zgy1 m0 n).trans (by rw [e0];rfl)
theorem Zp52 (m0:Nat) (x:ArgsD Zzc2):run Zna1 Zcl1 m0 x Zad2=Zlc.S (Zc5 m0 m0) x.1 x.2.1 x.2.2.1:=by kernel_rfl
abbrev Zvs1:AM.Spec:=AM.spec Zzc2 Zl1 (fun x=>Zlc x.1 x.2.1 x.2.2.1)
theorem Zni3:Zi Tryz.prog 125 Zvs1:=ctrC tabOk (fn:=Tryz.f125) (fun x=>(Zp52 fu x).trans (by rw [Zct2 fu fu];rfl)) (Ze ⟨⟨Zb1,Tryz.call146,fun _=>Zd rfl⟩,⟨⟨Zla1,Tryz.call147,fun _=>Zd rfl⟩,trivial⟩⟩)
abbrev E_f92:Env:=tab.env (AM.look [(124,Zus1),(125,Zvs1)]) ⟨[(0,⟨tt [3,4],[]⟩)],[],[],⟨tt [2],[]⟩,[],[124,125],[],[]⟩
def b_f92:Code:=bd Tryz.f92
abbrev R_f92:List (Ty×List Tag):=[(.str,[])]
abbrev P_f92:List PK:=[.val k13b]
abbrev K_f92:K (ResD R_f92):=fin E_f92 [.tmp 2] [] R_f92
def Zdt2 (x2:Int) (x3:D13a):St:=mk [(3, .dat k13b x2 []),(4, .dat (.sl (.int .u8)) x3 [⟨0,257,0,0⟩])] []
def Zq52 (m0:Nat):K (ResD R_f92):=Zaa 0 K_f92
def Zet2:Code:=(lft (lft (rgt (rgt (rgt b_f92)))))
def Zoa1 (m0 n:Nat):Int→D13a→Option ByteArray:=fun x2 x3=>ej E_f92 n (.loop Zet2) 0 (Zdt2 x2 x3) (Zq52 m0)
theorem Zed2 (m0 n:Nat):Zoa1 m0 (n+1)=Zxc.S0 (Zoa1 m0 n):=by kernel_rfl
theorem Zr52 (m0:Nat):∀ n:Nat,Zoa1 m0 n=Zxc.l0 n:=
  ind rfl fun n e0=>(Zed2 m0 n).trans (by rw [e0];rfl)
theorem Zoi3 (m0:Nat) (x:ArgsD P_f92):run E_f92 b_f92 m0 x K_f92=Zxc.S (Zoa1 m0 m0) x.1:=by kernel_rfl
abbrev Zyr:AM.Spec:=AM.spec P_f92 R_f92 (fun x=>Zxc x.1)
theorem c_f92:Zi Tryz.prog 92 Zyr:=ctrC tabOk (fn:=Tryz.f92) (fun x=>(Zoi3 fu x).trans (by rw [Zr52 fu fu];rfl)) (Ze ⟨⟨Zmi3,Tryz.call124,fun _=>Zd rfl⟩,⟨⟨Zni3,Tryz.call125,fun _=>Zd rfl⟩,trivial⟩⟩)
abbrev E_f86:Env:=tab.env (AM.look [(99,Zja1),(92,Zyr)]) ⟨[(0,⟨tt [0,4,5],[]⟩)],[],[],⟨tt [2,3],[]⟩,[],[92,99],[],[]⟩
def b_f86:Code:=bd Tryz.f86
abbrev R_f86:List (Ty×List Tag):=[(.str,[]),(k13b,[])]
abbrev P_f86:List PK:=[.val k13i]
abbrev K_f86:K (ResD R_f86):=fin E_f86 [.tmp 2, .tmp 3] [] R_f86
def Zft2 (x2:D13o) (x3:ByteArray) (x4:Int):St:=mk [(0, .dat k13i x2 []),(4, .dat .str x3 []),(5, .dat k13b x4 [])] []
def Zgt2:Code:=(rgt (rgt (rgt (rgt b_f86))))
def Zs52 (m0:Nat):K (ResD R_f86):=sqK E_f86 m0 Zgt2 0 K_f86
def Zt52 (m0:Nat):K (ResD R_f86):=Zaa 0 (Zs52 m0)
def Zht2:Code:=(lft (lft (rgt (lft (rgt (rgt (rgt b_f86)))))))
def Zpa1 (m0 n:Nat):D13o→ByteArray→Int→Option D13g:=fun x2 x3 x4=>ej E_f86 n (.loop Zht2) 0 (Zft2 x2 x3 x4) (Zt52 m0)
theorem Zfd2 (m0 n:Nat):Zpa1 m0 (n+1)=Zxd.S0 (Zpa1 m0 n):=by kernel_rfl
theorem Zu52 (m0:Nat):∀ n:Nat,Zpa1 m0 n=Zxd.l0 n:=
  ind rfl fun n e0=>(Zfd2 m0 n).trans (by rw [e0];rfl)
theorem Zpi3 (m0:Nat) (x:ArgsD P_f86):run E_f86 b_f86 m0 x K_f86=Zxd.S (Zpa1 m0 m0) x.1:=by kernel_rfl
abbrev Zdl1:AM.Spec:=AM.spec P_f86 R_f86 (fun x=>Zxd x.1)
theorem c_f86:Zi Tryz.prog 86 Zdl1:=ctrC tabOk (fn:=Tryz.f86) (fun x=>(Zpi3 fu x).trans (by rw [Zu52 fu fu];rfl)) (Ze ⟨⟨c_f99,Tryz.call99,fun _=>Zd rfl⟩,⟨⟨c_f92,Tryz.call92,fun _=>Zd rfl⟩,trivial⟩⟩)
abbrev Zqa1:Env:=tab.env (AM.look []) ⟨[(0,⟨tt [0,3,4],[]⟩)],[],[],⟨tt [2],[]⟩,[],[],[],[22]⟩
def Zel1:Code:=bd Tryz.f120
abbrev Zm1:List (Ty×List Tag):=[(k13c,[⟨0,1,0,1⟩])]
abbrev Zgd2:List PK:=[.val k13c]
abbrev Zhd2:K (ResD Zm1):=fin Zqa1 [.tmp 2] [] Zm1
def Zid2 (x1 x2:D13a) (x3:Int):St:=mk [(0, .dat k13c x1 []),(3, .dat k13c x2 [⟨0,193,0,1⟩]),(4, .dat k13b x3 [])] []
def Zjd2:Code:=(rgt (rgt (rgt Zel1)))
def Zit2 (m0:Nat):K (ResD Zm1):=sqK Zqa1 m0 Zjd2 0 Zhd2
def Zjt2 (m0:Nat):K (ResD Zm1):=Zaa 0 (Zit2 m0)
def Zkd2:Code:=(lft (lft (rgt (lft (rgt (rgt Zel1))))))
def Zd5 (m0 n:Nat):D13a→D13a→Int→Option D13d:=fun x1 x2 x3=>ej Zqa1 n (.loop Zkd2) 0 (Zid2 x1 x2 x3) (Zjt2 m0)
theorem Zhy1 (m0 n:Nat):Zd5 m0 (n+1)=Ztd.S0 (Zd5 m0 n):=by kernel_rfl
theorem Zkt2 (m0:Nat):∀ n:Nat,Zd5 m0 n=Ztd.l0 n:=
  ind rfl fun n e0=>(Zhy1 m0 n).trans (by rw [e0];rfl)
theorem Zv52 (m0:Nat) (x:ArgsD Zgd2):run Zqa1 Zel1 m0 x Zhd2=Ztd.S (Zd5 m0 m0) x.1:=by kernel_rfl
abbrev Zws1:AM.Spec:=AM.spec Zgd2 Zm1 (fun x=>Ztd x.1)
theorem Zqi3:Zi Tryz.prog 120 Zws1:=ctrC tabOk (fn:=Tryz.f120) (fun x=>(Zv52 fu x).trans (by rw [Zkt2 fu fu];rfl)) (Ze trivial)
abbrev Zra1:Env:=tab.env (AM.look []) ⟨[(0,⟨tt [0,3,4],[]⟩)],[],[],⟨tt [2],[]⟩,[],[],[],[]⟩
def Zfl1:Code:=bd Tryz.f121
abbrev Zn1:List (Ty×List Tag):=[(k13b,[])]
abbrev Zld2:List PK:=[.val k13c]
abbrev Zmd2:K (ResD Zn1):=fin Zra1 [.tmp 2] [] Zn1
def Znd2 (x1:D13a) (x2 x3:Int):St:=mk [(0, .dat k13c x1 []),(3, .dat k13b x2 []),(4, .dat k13b x3 [])] []
def Zod2:Code:=(rgt (rgt (rgt Zfl1)))
def Zlt2 (m0:Nat):K (ResD Zn1):=sqK Zra1 m0 Zod2 0 Zmd2
def Zmt2 (m0:Nat):K (ResD Zn1):=Zaa 0 (Zlt2 m0)
def Zpd2:Code:=(lft (lft (rgt (lft (rgt (rgt Zfl1))))))
def Ze5 (m0 n:Nat):D13a→Int→Int→Option Int:=fun x1 x2 x3=>ej Zra1 n (.loop Zpd2) 0 (Znd2 x1 x2 x3) (Zmt2 m0)
theorem Ziy1 (m0 n:Nat):Ze5 m0 (n+1)=Zdd.S0 (Ze5 m0 n):=by kernel_rfl
theorem Znt2 (m0:Nat):∀ n:Nat,Ze5 m0 n=Zdd.l0 n:=
  ind rfl fun n e0=>(Ziy1 m0 n).trans (by rw [e0];rfl)
theorem Zw52 (m0:Nat) (x:ArgsD Zld2):run Zra1 Zfl1 m0 x Zmd2=Zdd.S (Ze5 m0 m0) x.1:=by kernel_rfl
abbrev Zxs1:AM.Spec:=AM.spec Zld2 Zn1 (fun x=>Zdd x.1)
theorem Zri3:Zi Tryz.prog 121 Zxs1:=ctrC tabOk (fn:=Tryz.f121) (fun x=>(Zw52 fu x).trans (by rw [Znt2 fu fu];rfl)) (Ze trivial)
abbrev E_f88:Env:=tab.env (AM.look [(92,Zyr),(120,Zws1),(121,Zxs1),(83,Zsv),(48,Ztv)]) ⟨[(0,⟨tt [4,5,6,7,8],[]⟩)],[],[(15,⟨tt [4,6,7],[]⟩)],⟨tt [2,3],[]⟩,[],[48,83,92,121],[],[59]⟩
def b_f88:Code:=bd Tryz.f88
abbrev R_f88:List (Ty×List Tag):=[(.str,[]),(k13b,[])]
abbrev P_f88:List PK:=[.val k13c]
abbrev K_f88:K (ResD R_f88):=fin E_f88 [.tmp 2, .tmp 3] [] R_f88
def Zot2 (x9:ByteArray) (x10:Int) (x11:D13a):St:=mk [(4, .dat .str x9 []),(6, .dat k13b x10 []),(7, .dat k13c x11 [⟨0,449,0,1⟩])] []
def Zpt2 (x4:ByteArray) (x5:D13a) (x6:Int) (x7:D13a) (x8:Int):St:=mk [(4, .dat .str x4 []),(5, .dat k13c x5 [⟨0,321,0,1⟩]),(6, .dat k13b x6 []),(7, .dat k13c x7 [⟨0,449,0,1⟩]),(8, .dat k13b x8 [])] []
def Zgl1:Code:=(rgt (rgt (rgt (rgt (rgt (rgt (rgt (rgt (rgt b_f88)))))))))
def Zo1 (m0 n:Nat):ByteArray→Int→D13a→Option D13g:=fun x9 x10 x11=>ej E_f88 n (.tail Zgl1) 0 (Zot2 x9 x10 x11) K_f88
theorem Zqd2 (m0 n:Nat):Zo1 m0 (n+1)=Zsb.S1:=by kernel_rfl
theorem Zx52 (m0:Nat):∀ n:Nat,Zo1 m0 n=Zsb.t1 n:=
  ind rfl fun n _=>Zqd2 m0 n
def Zy52 (m0:Nat):K (ResD R_f88):=sqK E_f88 m0 Zgl1 0 K_f88
def Zz52 (m0:Nat):K (ResD R_f88):=Zaa 0 (Zy52 m0)
def Zqt2:Code:=(lft (lft (rgt (lft (rgt (rgt (rgt (rgt (rgt (rgt (rgt (rgt b_f88))))))))))))
def Zp1 (m0 n:Nat):ByteArray→D13a→Int→D13a→Int→Option D13g:=fun x4 x5 x6 x7 x8=>ej E_f88 n (.loop Zqt2) 0 (Zpt2 x4 x5 x6 x7 x8) (Zz52 m0)
theorem Zrd2 (m0 n:Nat):Zp1 m0 (n+1)=Zsb.S0 (Zo1 m0 m0) (Zp1 m0 n):=by kernel_rfl
theorem Za62 (m0:Nat):∀ n:Nat,Zp1 m0 n=Zsb.l0 (Zo1 m0 m0) n:=
  ind rfl fun n e0=>(Zrd2 m0 n).trans (by rw [e0];rfl)
theorem Zsi3 (m0:Nat) (x:ArgsD P_f88):run E_f88 b_f88 m0 x K_f88=Zsb.S (Zp1 m0 m0) x.1:=by kernel_rfl
abbrev Zhl1:AM.Spec:=AM.spec P_f88 R_f88 (fun x=>Zsb x.1)
theorem c_f88:Zi Tryz.prog 88 Zhl1:=ctrC tabOk (fn:=Tryz.f88) (show ∀ x,run E_f88 b_f88 fu x K_f88=_ from fun x=>by
  have e1:Zo1 fu fu=Zsb.t1 fu:=Zx52 fu fu
  have e0:Zp1 fu fu=Zsb.l0 (Zsb.t1 fu) fu:=by rw [← e1];exact Za62 fu fu
  refine (Zsi3 fu x).trans ?_
  rw [e0];rfl) (Ze ⟨⟨c_f92,Tryz.call92,fun _=>Zd rfl⟩,⟨⟨Zqi3,Tryz.call120,nw⟩,⟨⟨Zri3,Tryz.call121,fun _=>Zd rfl⟩,⟨⟨c_f83,Tryz.call83,fun _=>Zd rfl⟩,⟨⟨c_f48,Tryz.call48,fun _=>Zd rfl⟩,trivial⟩⟩⟩⟩⟩)
abbrev Zbh:Env:=tab.env (AM.look []) ⟨[(0,⟨tt [0,4,5,6],[]⟩),(2,⟨tt [0,4,5,6,7],[]⟩),(4,⟨tt [0,4,5,9],[]⟩),(6,⟨tt [0,4,5,9,10],[]⟩)],[],[(8,⟨tt [0,4,5,6,7],[]⟩),(9,⟨tt [0,4,5,6,7],[]⟩),(13,⟨tt [0,4,5],[]⟩)],⟨tt [2,3],[]⟩,[],[],[],[]⟩
def Zvv:Code:=bd Tryz.f122
abbrev Znh:List (Ty×List Tag):=[(k13c,[⟨0,1,0,1⟩]),(k13c,[⟨0,1,0,1⟩])]
abbrev Zsd2:List PK:=[.val k13c]
abbrev Zq1:K (ResD Znh):=fin Zbh [.tmp 2, .tmp 3] [] Znh
def Ztd2 (x27 x28 x29:D13a) (x30 x31:Int):St:=mk [(0, .dat k13c x27 []),(4, .dat k13c x28 [⟨0,257,0,1⟩]),(5, .dat k13c x29 [⟨0,321,0,1⟩]),(9, .dat k13b x30 []),(10, .dat k13b x31 [])] []
def Zud2 (x23 x24 x25:D13a) (x26:Int):St:=mk [(0, .dat k13c x23 []),(4, .dat k13c x24 [⟨0,257,0,1⟩]),(5, .dat k13c x25 [⟨0,321,0,1⟩]),(9, .dat k13b x26 [])] []
def Zvd2 (x20 x21 x22:D13a):St:=mk [(0, .dat k13c x20 []),(4, .dat k13c x21 [⟨0,257,0,1⟩]),(5, .dat k13c x22 [⟨0,321,0,1⟩])] []
def Zwd2 (x15 x16 x17:D13a) (x18 x19:Int):St:=mk [(0, .dat k13c x15 []),(4, .dat k13c x16 [⟨0,257,0,1⟩]),(5, .dat k13c x17 [⟨0,321,0,1⟩]),(6, .dat k13b x18 []),(7, .dat k13b x19 [])] []
def Zxd2 (x10 x11 x12:D13a) (x13 x14:Int):St:=mk [(0, .dat k13c x10 []),(4, .dat k13c x11 [⟨0,257,0,1⟩]),(5, .dat k13c x12 [⟨0,321,0,1⟩]),(6, .dat k13b x13 []),(7, .dat k13b x14 [])] []
def Zyd2 (x5 x6 x7:D13a) (x8 x9:Int):St:=mk [(0, .dat k13c x5 []),(4, .dat k13c x6 [⟨0,257,0,1⟩]),(5, .dat k13c x7 [⟨0,321,0,1⟩]),(6, .dat k13b x8 []),(7, .dat k13b x9 [])] []
def Zzd2 (x1 x2 x3:D13a) (x4:Int):St:=mk [(0, .dat k13c x1 []),(4, .dat k13c x2 [⟨0,257,0,1⟩]),(5, .dat k13c x3 [⟨0,321,0,1⟩]),(6, .dat k13b x4 [])] []
def Zae2:Code:=(rgt (rgt (rgt (rgt Zvv))))
def Zrt2 (m0 m1:Nat):K (ResD Znh):=sqK Zbh m1 Zae2 0 Zq1
def Zil1 (m0 m1:Nat):K (ResD Znh):=Zaa 4 (Zrt2 m0 m1)
def Zfq:Code:=(lft (lft (rgt (lft (rgt (rgt (rgt Zvv)))))))
def Zfr (m0 m1 n:Nat):D13a→D13a→D13a→Int→Option D13n:=fun x23 x24 x25 x26=>ej Zbh n (.loop Zfq) 4 (Zud2 x23 x24 x25 x26) (Zil1 m0 m1)
def Zst2 (m0 m1 m2:Nat):K (ResD Znh):=lpK Zbh m2 Zfq 4 (Zil1 m0 m1)
def Zbe2:Code:=(rgt (rgt Zfq))
def Ztt2 (m0 m1 m2:Nat):K (ResD Znh):=sqK Zbh m2 Zbe2 4 (Zst2 m0 m1 m2)
def Zut2 (m0 m1 m2:Nat):K (ResD Znh):=Zaa 5 (Ztt2 m0 m1 m2)
def Zce2:Code:=(rgt (rgt (lft (lft (rgt Zfq)))))
def Zvt2 (m0 m1 m2:Nat):K (ResD Znh):=sqK Zbh m2 Zce2 5 (Zut2 m0 m1 m2)
def Zwt2 (m0 m1 m2:Nat):K (ResD Znh):=Zaa 6 (Zvt2 m0 m1 m2)
def Zde2:Code:=(lft (lft (lft (rgt (lft (lft (rgt Zfq)))))))
def Zwv (m0 m1:Nat) (m2 n:Nat):D13a→D13a→D13a→Int→Int→Option D13n:=fun x27 x28 x29 x30 x31=>ej Zbh n (.loop Zde2) 6 (Ztd2 x27 x28 x29 x30 x31) (Zwt2 m0 m1 m2)
theorem Zjy1 (m0 m1:Nat) (m2 n:Nat):Zwv m0 m1 m2 (n+1)=Zl.S6 (Zfr m0 m1 m2) (Zwv m0 m1 m2 n):=by kernel_rfl
theorem Zxt2 (m0 m1 m2:Nat):∀ n:Nat,Zwv m0 m1 m2 n=Zl.l6 (Zfr m0 m1 m2) n:=
  ind rfl fun n e6=>(Zjy1 m0 m1 m2 n).trans (by rw [e6];rfl)
theorem Zky1 (m0 m1 n:Nat):Zfr m0 m1 (n+1)=Zl.S5 (Zwv m0 m1 n n):=by kernel_rfl
theorem Zyt2 (m0 m1:Nat):∀ n:Nat,Zfr m0 m1 n=Zl.l5 n:=
  ind rfl fun n e5=>by
    have e6:Zwv m0 m1 n n=Zl.l6 (Zl.l5 n) n:=by rw [← e5];exact Zxt2 m0 m1 n n
    rw [Zky1 m0 m1 n,e6];rfl
def Zre1:Code:=(rgt (rgt (rgt Zvv)))
def Zxo (m0 n:Nat):D13a→D13a→D13a→Option D13n:=fun x20 x21 x22=>ej Zbh n (.tail Zre1) 0 (Zvd2 x20 x21 x22) Zq1
theorem Zly1 (m0 n:Nat):Zxo m0 (n+1)=Zl.S4 (Zfr m0 n n):=by kernel_rfl
theorem Zzt2 (m0:Nat):∀ n:Nat,Zxo m0 n=Zl.t4 n:=
  ind rfl fun n e4=>by
    have e5:Zfr m0 n n=Zl.l5 n:=Zyt2 m0 n n
    rw [Zly1 m0 n,e5];rfl
def Zau2 (m0:Nat):K (ResD Znh):=sqK Zbh m0 Zre1 0 Zq1
def Zjl1 (m0:Nat):K (ResD Znh):=Zaa 0 (Zau2 m0)
def Zqn:Code:=(lft (lft (rgt (lft (rgt (rgt Zvv))))))
def Zzl (m0 n:Nat):D13a→D13a→D13a→Int→Option D13n:=fun x1 x2 x3 x4=>ej Zbh n (.loop Zqn) 0 (Zzd2 x1 x2 x3 x4) (Zjl1 m0)
def Zee2 (m0 m1:Nat):K (ResD Znh):=lpK Zbh m1 Zqn 0 (Zjl1 m0)
def Zfe2:Code:=(rgt (rgt Zqn))
def Zge2 (m0 m1:Nat):K (ResD Znh):=sqK Zbh m1 Zfe2 0 (Zee2 m0 m1)
def Zr1 (m0 m1:Nat):K (ResD Znh):=Zaa 1 (Zge2 m0 m1)
def Zhe2:Code:=(rgt (rgt (rgt (lft (lft (rgt Zqn))))))
def Zf5 (m0 m1 n:Nat):D13a→D13a→D13a→Int→Int→Option D13n:=fun x15 x16 x17 x18 x19=>ej Zbh n (.tail Zhe2) 1 (Zwd2 x15 x16 x17 x18 x19) (Zr1 m0 m1)
theorem Zmy1 (m0 m1:Nat) (m2 n:Nat):Zf5 m0 m1 (n+1)=Zl.S3 (Zzl m0 m1):=by kernel_rfl
theorem Zbu2 (m0 m1 m2:Nat):∀ n:Nat,Zf5 m0 m1 n=Zl.t3 (Zzl m0 m1) n:=
  ind rfl fun n _=>Zmy1 m0 m1 m2 n
def Zsa1:Code:=(rgt (rgt (lft (lft (rgt Zqn)))))
def Zxv (m0 m1 n:Nat):D13a→D13a→D13a→Int→Int→Option D13n:=fun x10 x11 x12 x13 x14=>ej Zbh n (.tail Zsa1) 1 (Zxd2 x10 x11 x12 x13 x14) (Zr1 m0 m1)
theorem Zny1 (m0 m1 n:Nat):Zxv m0 m1 (n+1)=Zl.S2 (Zzl m0 m1) (Zf5 m0 m1 n):=by kernel_rfl
theorem Zcu2 (m0 m1:Nat):∀ n:Nat,Zxv m0 m1 n=Zl.t2 (Zzl m0 m1) n:=
  ind rfl fun n e2=>by
    have e3:Zf5 m0 m1 n=Zl.t3 (Zzl m0 m1) n:=Zbu2 m0 m1 n n
    rw [Zny1 m0 m1 n,e3];rfl
def Zie2 (m0 m1:Nat):K (ResD Znh):=sqK Zbh m1 Zsa1 1 (Zr1 m0 m1)
def Zje2 (m0 m1:Nat):K (ResD Znh):=Zaa 2 (Zie2 m0 m1)
def Zoy1:Code:=(lft (lft (lft (rgt (lft (lft (rgt Zqn)))))))
def Zyv (m0 m1 n:Nat):D13a→D13a→D13a→Int→Int→Option D13n:=fun x5 x6 x7 x8 x9=>ej Zbh n (.loop Zoy1) 2 (Zyd2 x5 x6 x7 x8 x9) (Zje2 m0 m1)
theorem Zpy1 (m0 m1 n:Nat):Zyv m0 m1 (n+1)=Zl.S1 (Zxv m0 m1 m1) (Zyv m0 m1 n):=by kernel_rfl
theorem Zdu2 (m0 m1:Nat):∀ n:Nat,Zyv m0 m1 n=Zl.l1 (Zxv m0 m1 m1) n:=
  ind rfl fun n e1=>(Zpy1 m0 m1 n).trans (by rw [e1];rfl)
theorem Zqy1 (m0 n:Nat):Zzl m0 (n+1)=Zl.S0 (Zxo m0 m0) (Zyv m0 n n):=by kernel_rfl
theorem Zeu2 (m0:Nat):∀ n:Nat,Zzl m0 n=Zl.l0 (Zxo m0 m0) n:=
  ind rfl fun n e0=>by
    have e2:Zxv m0 n n=Zl.t2 (Zl.l0 (Zxo m0 m0) n) n:=by rw [← e0];exact Zcu2 m0 n n
    have e1:Zyv m0 n n=Zl.l1 (Zl.t2 (Zl.l0 (Zxo m0 m0) n) n) n:=by rw [← e2];exact Zdu2 m0 n n
    rw [Zqy1 m0 n,e1];rfl
theorem Zb62 (m0:Nat) (x:ArgsD Zsd2):run Zbh Zvv m0 x Zq1=Zl.S (Zzl m0 m0) x.1:=by kernel_rfl
abbrev Zys1:AM.Spec:=AM.spec Zsd2 Znh (fun x=>Zl x.1)
theorem Zti3:Zi Tryz.prog 122 Zys1:=ctrC tabOk (fn:=Tryz.f122) (show ∀ x,run Zbh Zvv fu x Zq1=_ from fun x=>by
  have e4:Zxo fu fu=Zl.t4 fu:=Zzt2 fu fu
  have e0:Zzl fu fu=Zl.l0 (Zl.t4 fu) fu:=by rw [← e4];exact Zeu2 fu fu
  refine (Zb62 fu x).trans ?_
  rw [e0];rfl) (Ze trivial)
abbrev Zke2:Env:=tab.env (AM.look [(83,Zsv),(48,Ztv)]) ⟨[],[],[],⟨tt [2],[]⟩,[],[48,83],[],[]⟩
def Zui3:Code:=bd Tryz.f123
abbrev Zkl1:List (Ty×List Tag):=[(.str,[])]
abbrev Zvi3:List PK:=[.val k13c]
abbrev Zwi3:K (ResD Zkl1):=fin Zke2 [.tmp 2] [] Zkl1
abbrev Zvc1:AM.Spec:=AM.spec Zvi3 Zkl1 (fun x=>Zdl x.1)
theorem Zle2:Zi Tryz.prog 123 Zvc1:=ctrC tabOk (fn:=Tryz.f123) (show ∀ x,run Zke2 Zui3 fu x Zwi3=_ from fun x=>by kernel_rfl) (Ze ⟨⟨c_f83,Tryz.call83,fun _=>Zd rfl⟩,⟨⟨c_f48,Tryz.call48,fun _=>Zd rfl⟩,trivial⟩⟩)
abbrev E_f89:Env:=tab.env (AM.look [(122,Zys1),(92,Zyr),(123,Zvc1)]) ⟨[(0,⟨tt [4,5,6,7],[]⟩)],[],[(11,⟨tt [5,6],[]⟩)],⟨tt [2,3],[]⟩,[],[92,123],[],[]⟩
def b_f89:Code:=bd Tryz.f89
abbrev R_f89:List (Ty×List Tag):=[(.str,[]),(k13b,[])]
abbrev P_f89:List PK:=[.val k13c]
abbrev K_f89:K (ResD R_f89):=fin E_f89 [.tmp 2, .tmp 3] [] R_f89
def Zfu2 (x8:D13a) (x9:ByteArray):St:=mk [(5, .dat k13c x8 [⟨0,321,0,1⟩]),(6, .dat .str x9 [])] []
def Zgu2 (x3 x4:D13a) (x5:ByteArray) (x6:Int):St:=mk [(4, .dat k13c x3 [⟨0,257,0,1⟩]),(5, .dat k13c x4 [⟨0,321,0,1⟩]),(6, .dat .str x5 []),(7, .dat k13b x6 [])] []
def Zll1:Code:=(rgt (rgt (rgt (rgt (rgt (rgt b_f89))))))
def Zs1 (m0 n:Nat):D13a→ByteArray→Option D13g:=fun x8 x9=>ej E_f89 n (.tail Zll1) 0 (Zfu2 x8 x9) K_f89
theorem Zme2 (m0 n:Nat):Zs1 m0 (n+1)=Zwa.S1:=by kernel_rfl
theorem Zc62 (m0:Nat):∀ n:Nat,Zs1 m0 n=Zwa.t1 n:=
  ind rfl fun n _=>Zme2 m0 n
def Zd62 (m0:Nat):K (ResD R_f89):=sqK E_f89 m0 Zll1 0 K_f89
def Ze62 (m0:Nat):K (ResD R_f89):=Zaa 0 (Zd62 m0)
def Zhu2:Code:=(lft (lft (rgt (lft (rgt (rgt (rgt (rgt (rgt b_f89)))))))))
def Zt1 (m0 n:Nat):D13a→D13a→ByteArray→Int→Option D13g:=fun x3 x4 x5 x6=>ej E_f89 n (.loop Zhu2) 0 (Zgu2 x3 x4 x5 x6) (Ze62 m0)
theorem Zne2 (m0 n:Nat):Zt1 m0 (n+1)=Zwa.S0 (Zs1 m0 m0) (Zt1 m0 n):=by kernel_rfl
theorem Zf62 (m0:Nat):∀ n:Nat,Zt1 m0 n=Zwa.l0 (Zs1 m0 m0) n:=
  ind rfl fun n e0=>(Zne2 m0 n).trans (by rw [e0];rfl)
theorem Zxi3 (m0:Nat) (x:ArgsD P_f89):run E_f89 b_f89 m0 x K_f89=Zwa.S (Zt1 m0 m0) x.1:=by kernel_rfl
abbrev Zml1:AM.Spec:=AM.spec P_f89 R_f89 (fun x=>Zwa x.1)
theorem c_f89:Zi Tryz.prog 89 Zml1:=ctrC tabOk (fn:=Tryz.f89) (show ∀ x,run E_f89 b_f89 fu x K_f89=_ from fun x=>by
  have e1:Zs1 fu fu=Zwa.t1 fu:=Zc62 fu fu
  have e0:Zt1 fu fu=Zwa.l0 (Zwa.t1 fu) fu:=by rw [← e1];exact Zf62 fu fu
  refine (Zxi3 fu x).trans ?_
  rw [e0];rfl) (Ze ⟨⟨Zti3,Tryz.call122,nw⟩,⟨⟨c_f92,Tryz.call92,fun _=>Zd rfl⟩,⟨⟨Zle2,Tryz.call123,fun _=>Zd rfl⟩,trivial⟩⟩⟩)
abbrev E_f49:Env:=tab.env (AM.look [(85,Zmc2),(87,Zzk1),(86,Zdl1),(88,Zhl1),(89,Zml1),(83,Zsv),(48,Ztv)]) ⟨[],[],[],⟨tt [4,5],[]⟩,[],[48,83,85,86,88,89],[],[]⟩
def b_f49:Code:=bd Tryz.f49
abbrev R_f49:List (Ty×List Tag):=[(.str,[]),(.bool,[])]
abbrev P_f49:List PK:=[.val k13c, .val k13b]
abbrev K_f49:K (ResD R_f49):=fin E_f49 [.tmp 4, .tmp 5] [] R_f49
abbrev Zoe2:AM.Spec:=AM.spec P_f49 R_f49 (fun x=>Zcn x.1 x.2.1)
theorem c_f49:Zi Tryz.prog 49 Zoe2:=ctrC tabOk (fn:=Tryz.f49) (show ∀ x,run E_f49 b_f49 fu x K_f49=_ from fun x=>by kernel_rfl) (Ze ⟨⟨c_f85,Tryz.call85,fun _=>Zd rfl⟩,⟨⟨c_f87,Tryz.call87,nw⟩,⟨⟨c_f86,Tryz.call86,fun _=>Zd rfl⟩,⟨⟨c_f88,Tryz.call88,fun _=>Zd rfl⟩,⟨⟨c_f89,Tryz.call89,fun _=>Zd rfl⟩,⟨⟨c_f83,Tryz.call83,fun _=>Zd rfl⟩,⟨⟨c_f48,Tryz.call48,fun _=>Zd rfl⟩,trivial⟩⟩⟩⟩⟩⟩⟩)
abbrev E_f52:Env:=tab.env (AM.look []) ⟨[(0,⟨tt [0,3,4],[]⟩)],[],[],⟨tt [2],[]⟩,[],[],[],[]⟩
def b_f52:Code:=bd Tryz.f52
abbrev R_f52:List (Ty×List Tag):=[(k13a,[⟨0,1,0,1⟩])]
abbrev P_f52:List PK:=[.val k13g]
abbrev K_f52:K (ResD R_f52):=fin E_f52 [.tmp 2] [] R_f52
def Ziu2 (x1:D13u) (x2:D13e) (x3:Int):St:=mk [(0, .dat k13g x1 []),(3, .dat k13a x2 [⟨0,193,0,1⟩]),(4, .dat k13b x3 [])] []
def Zju2:Code:=(rgt (rgt (rgt b_f52)))
def Zg62 (m0:Nat):K (ResD R_f52):=sqK E_f52 m0 Zju2 0 K_f52
def Zh62 (m0:Nat):K (ResD R_f52):=Zaa 0 (Zg62 m0)
def Zku2:Code:=(lft (lft (rgt (lft (rgt (rgt b_f52))))))
def Zta1 (m0 n:Nat):D13u→D13e→Int→Option (D13e):=fun x1 x2 x3=>ej E_f52 n (.loop Zku2) 0 (Ziu2 x1 x2 x3) (Zh62 m0)
theorem Zpe2 (m0 n:Nat):Zta1 m0 (n+1)=Zud.S0 (Zta1 m0 n):=by kernel_rfl
theorem Zi62 (m0:Nat):∀ n:Nat,Zta1 m0 n=Zud.l0 n:=
  ind rfl fun n e0=>(Zpe2 m0 n).trans (by rw [e0];rfl)
theorem Zyi3 (m0:Nat) (x:ArgsD P_f52):run E_f52 b_f52 m0 x K_f52=Zud.S (Zta1 m0 m0) x.1:=by kernel_rfl
abbrev Zqe2:AM.Spec:=AM.spec P_f52 R_f52 (fun x=>Zud x.1)
theorem c_f52:Zi Tryz.prog 52 Zqe2:=ctrC tabOk (fn:=Tryz.f52) (fun x=>(Zyi3 fu x).trans (by rw [Zi62 fu fu];rfl)) (Ze trivial)
abbrev E_f90:Env:=tab.env (AM.look []) ⟨[(0,⟨tt [0,4,5],[]⟩)],[],[],⟨tt [2,3],[]⟩,[],[],[],[]⟩
def b_f90:Code:=bd Tryz.f90
abbrev R_f90:List (Ty×List Tag):=[(.str,[]),(k13b,[])]
abbrev P_f90:List PK:=[.val k13a]
abbrev K_f90:K (ResD R_f90):=fin E_f90 [.tmp 2, .tmp 3] [] R_f90
def Zlu2 (x1:D13e) (x2:D13a) (x3:Int):St:=mk [(0, .dat k13a x1 []),(4, .dat (.sl (.int .u8)) x2 [⟨0,257,0,0⟩]),(5, .dat k13b x3 [])] []
def Zmu2:Code:=(rgt (rgt (rgt b_f90)))
def Zj62 (m0:Nat):K (ResD R_f90):=sqK E_f90 m0 Zmu2 0 K_f90
def Zk62 (m0:Nat):K (ResD R_f90):=Zaa 0 (Zj62 m0)
def Znu2:Code:=(lft (lft (rgt (lft (rgt (rgt b_f90))))))
def Zua1 (m0 n:Nat):D13e→D13a→Int→Option D13g:=fun x1 x2 x3=>ej E_f90 n (.loop Znu2) 0 (Zlu2 x1 x2 x3) (Zk62 m0)
theorem Zre2 (m0 n:Nat):Zua1 m0 (n+1)=Zic.S0 (Zua1 m0 n):=by kernel_rfl
theorem Zl62 (m0:Nat):∀ n:Nat,Zua1 m0 n=Zic.l0 n:=
  ind rfl fun n e0=>(Zre2 m0 n).trans (by rw [e0];rfl)
theorem Zzi3 (m0:Nat) (x:ArgsD P_f90):run E_f90 b_f90 m0 x K_f90=Zic.S (Zua1 m0 m0) x.1:=by kernel_rfl
abbrev Znl1:AM.Spec:=AM.spec P_f90 R_f90 (fun x=>Zic x.1)
theorem c_f90:Zi Tryz.prog 90 Znl1:=ctrC tabOk (fn:=Tryz.f90) (fun x=>(Zzi3 fu x).trans (by rw [Zl62 fu fu];rfl)) (Ze trivial)
abbrev E_f91:Env:=tab.env (AM.look []) ⟨[(0,⟨tt [0,4,5,6],[]⟩),(2,⟨tt [0,4,5,6,7],[]⟩),(4,⟨tt [0,4,5,9],[]⟩),(6,⟨tt [0,4,5,9,10],[]⟩)],[],[(9,⟨tt [0,4,5,6,7],[]⟩),(10,⟨tt [0,4,5,6,7],[]⟩),(14,⟨tt [0,4,5],[]⟩)],⟨tt [2,3],[]⟩,[],[],[],[]⟩
def b_f91:Code:=bd Tryz.f91
abbrev R_f91:List (Ty×List Tag):=[(k13a,[⟨0,1,0,1⟩]),(k13c,[⟨0,1,0,1⟩])]
abbrev P_f91:List PK:=[.val k13a]
abbrev K_f91:K (ResD R_f91):=fin E_f91 [.tmp 2, .tmp 3] [] R_f91
def Zou2 (x27 x28:D13e) (x29:D13a) (x30 x31:Int):St:=mk [(0, .dat k13a x27 []),(4, .dat k13a x28 [⟨0,257,0,1⟩]),(5, .dat k13c x29 [⟨0,321,0,1⟩]),(9, .dat k13b x30 []),(10, .dat k13b x31 [])] []
def Zpu2 (x23 x24:D13e) (x25:D13a) (x26:Int):St:=mk [(0, .dat k13a x23 []),(4, .dat k13a x24 [⟨0,257,0,1⟩]),(5, .dat k13c x25 [⟨0,321,0,1⟩]),(9, .dat k13b x26 [])] []
def Zqu2 (x20 x21:D13e) (x22:D13a):St:=mk [(0, .dat k13a x20 []),(4, .dat k13a x21 [⟨0,257,0,1⟩]),(5, .dat k13c x22 [⟨0,321,0,1⟩])] []
def Zru2 (x15 x16:D13e) (x17:D13a) (x18 x19:Int):St:=mk [(0, .dat k13a x15 []),(4, .dat k13a x16 [⟨0,257,0,1⟩]),(5, .dat k13c x17 [⟨0,321,0,1⟩]),(6, .dat k13b x18 []),(7, .dat k13b x19 [])] []
def Zsu2 (x10 x11:D13e) (x12:D13a) (x13 x14:Int):St:=mk [(0, .dat k13a x10 []),(4, .dat k13a x11 [⟨0,257,0,1⟩]),(5, .dat k13c x12 [⟨0,321,0,1⟩]),(6, .dat k13b x13 []),(7, .dat k13b x14 [])] []
def Ztu2 (x5 x6:D13e) (x7:D13a) (x8 x9:Int):St:=mk [(0, .dat k13a x5 []),(4, .dat k13a x6 [⟨0,257,0,1⟩]),(5, .dat k13c x7 [⟨0,321,0,1⟩]),(6, .dat k13b x8 []),(7, .dat k13b x9 [])] []
def Zuu2 (x1 x2:D13e) (x3:D13a) (x4:Int):St:=mk [(0, .dat k13a x1 []),(4, .dat k13a x2 [⟨0,257,0,1⟩]),(5, .dat k13c x3 [⟨0,321,0,1⟩]),(6, .dat k13b x4 [])] []
def Zvu2:Code:=(rgt (rgt (rgt (rgt (rgt b_f91)))))
def Zm62 (m0 m1:Nat):K (ResD R_f91):=sqK E_f91 m1 Zvu2 0 K_f91
def Zzs1 (m0 m1:Nat):K (ResD R_f91):=Zaa 4 (Zm62 m0 m1)
def Zzr:Code:=(lft (lft (rgt (lft (rgt (rgt (rgt (rgt b_f91))))))))
def Zzv (m0 m1 n:Nat):D13e→D13e→D13a→Int→Option D13r:=fun x23 x24 x25 x26=>ej E_f91 n (.loop Zzr) 4 (Zpu2 x23 x24 x25 x26) (Zzs1 m0 m1)
def Zn62 (m0 m1 m2:Nat):K (ResD R_f91):=lpK E_f91 m2 Zzr 4 (Zzs1 m0 m1)
def Zwu2:Code:=(rgt (rgt Zzr))
def Zo62 (m0 m1 m2:Nat):K (ResD R_f91):=sqK E_f91 m2 Zwu2 4 (Zn62 m0 m1 m2)
def Zp62 (m0 m1 m2:Nat):K (ResD R_f91):=Zaa 5 (Zo62 m0 m1 m2)
def Zxu2:Code:=(rgt (rgt (lft (lft (rgt Zzr)))))
def Zq62 (m0 m1 m2:Nat):K (ResD R_f91):=sqK E_f91 m2 Zxu2 5 (Zp62 m0 m1 m2)
def Zr62 (m0 m1 m2:Nat):K (ResD R_f91):=Zaa 6 (Zq62 m0 m1 m2)
def Zyu2:Code:=(lft (lft (lft (rgt (lft (lft (rgt Zzr)))))))
def Zu1 (m0 m1:Nat) (m2 n:Nat):D13e→D13e→D13a→Int→Int→Option D13r:=fun x27 x28 x29 x30 x31=>ej E_f91 n (.loop Zyu2) 6 (Zou2 x27 x28 x29 x30 x31) (Zr62 m0 m1 m2)
theorem Zse2 (m0 m1:Nat) (m2 n:Nat):Zu1 m0 m1 m2 (n+1)=Zj.S6 (Zzv m0 m1 m2) (Zu1 m0 m1 m2 n):=by kernel_rfl
theorem Zs62 (m0 m1 m2:Nat):∀ n:Nat,Zu1 m0 m1 m2 n=Zj.l6 (Zzv m0 m1 m2) n:=
  ind rfl fun n e6=>(Zse2 m0 m1 m2 n).trans (by rw [e6];rfl)
theorem Zte2 (m0 m1 n:Nat):Zzv m0 m1 (n+1)=Zj.S5 (Zu1 m0 m1 n n):=by kernel_rfl
theorem Zt62 (m0 m1:Nat):∀ n:Nat,Zzv m0 m1 n=Zj.l5 n:=
  ind rfl fun n e5=>by
    have e6:Zu1 m0 m1 n n=Zj.l6 (Zj.l5 n) n:=by rw [← e5];exact Zs62 m0 m1 n n
    rw [Zte2 m0 m1 n,e6];rfl
def Zol1:Code:=(rgt (rgt (rgt (rgt b_f91))))
def Zas (m0 n:Nat):D13e→D13e→D13a→Option D13r:=fun x20 x21 x22=>ej E_f91 n (.tail Zol1) 0 (Zqu2 x20 x21 x22) K_f91
theorem Zue2 (m0 n:Nat):Zas m0 (n+1)=Zj.S4 (Zzv m0 n n):=by kernel_rfl
theorem Zu62 (m0:Nat):∀ n:Nat,Zas m0 n=Zj.t4 n:=
  ind rfl fun n e4=>by
    have e5:Zzv m0 n n=Zj.l5 n:=Zt62 m0 n n
    rw [Zue2 m0 n,e5];rfl
def Zv62 (m0:Nat):K (ResD R_f91):=sqK E_f91 m0 Zol1 0 K_f91
def Zat1 (m0:Nat):K (ResD R_f91):=Zaa 0 (Zv62 m0)
def Zyo:Code:=(lft (lft (rgt (lft (rgt (rgt (rgt b_f91)))))))
def Zko (m0 n:Nat):D13e→D13e→D13a→Int→Option D13r:=fun x1 x2 x3 x4=>ej E_f91 n (.loop Zyo) 0 (Zuu2 x1 x2 x3 x4) (Zat1 m0)
def Zzu2 (m0 m1:Nat):K (ResD R_f91):=lpK E_f91 m1 Zyo 0 (Zat1 m0)
def Zav2:Code:=(rgt (rgt Zyo))
def Zbv2 (m0 m1:Nat):K (ResD R_f91):=sqK E_f91 m1 Zav2 0 (Zzu2 m0 m1)
def Zj7 (m0 m1:Nat):K (ResD R_f91):=Zaa 1 (Zbv2 m0 m1)
def Zcv2:Code:=(rgt (rgt (rgt (lft (lft (rgt Zyo))))))
def Zva1 (m0 m1 n:Nat):D13e→D13e→D13a→Int→Int→Option D13r:=fun x15 x16 x17 x18 x19=>ej E_f91 n (.tail Zcv2) 1 (Zru2 x15 x16 x17 x18 x19) (Zj7 m0 m1)
theorem Zve2 (m0 m1:Nat) (m2 n:Nat):Zva1 m0 m1 (n+1)=Zj.S3 (Zko m0 m1):=by kernel_rfl
theorem Zw62 (m0 m1 m2:Nat):∀ n:Nat,Zva1 m0 m1 n=Zj.t3 (Zko m0 m1) n:=
  ind rfl fun n _=>Zve2 m0 m1 m2 n
def Zse1:Code:=(rgt (rgt (lft (lft (rgt Zyo)))))
def Zv1 (m0 m1 n:Nat):D13e→D13e→D13a→Int→Int→Option D13r:=fun x10 x11 x12 x13 x14=>ej E_f91 n (.tail Zse1) 1 (Zsu2 x10 x11 x12 x13 x14) (Zj7 m0 m1)
theorem Zwe2 (m0 m1 n:Nat):Zv1 m0 m1 (n+1)=Zj.S2 (Zko m0 m1) (Zva1 m0 m1 n):=by kernel_rfl
theorem Zx62 (m0 m1:Nat):∀ n:Nat,Zv1 m0 m1 n=Zj.t2 (Zko m0 m1) n:=
  ind rfl fun n e2=>by
    have e3:Zva1 m0 m1 n=Zj.t3 (Zko m0 m1) n:=Zw62 m0 m1 n n
    rw [Zwe2 m0 m1 n,e3];rfl
def Zdv2 (m0 m1:Nat):K (ResD R_f91):=sqK E_f91 m1 Zse1 1 (Zj7 m0 m1)
def Zev2 (m0 m1:Nat):K (ResD R_f91):=Zaa 2 (Zdv2 m0 m1)
def Zxe2:Code:=(lft (lft (lft (rgt (lft (lft (rgt Zyo)))))))
def Zw1 (m0 m1 n:Nat):D13e→D13e→D13a→Int→Int→Option D13r:=fun x5 x6 x7 x8 x9=>ej E_f91 n (.loop Zxe2) 2 (Ztu2 x5 x6 x7 x8 x9) (Zev2 m0 m1)
theorem Zye2 (m0 m1 n:Nat):Zw1 m0 m1 (n+1)=Zj.S1 (Zv1 m0 m1 m1) (Zw1 m0 m1 n):=by kernel_rfl
theorem Zy62 (m0 m1:Nat):∀ n:Nat,Zw1 m0 m1 n=Zj.l1 (Zv1 m0 m1 m1) n:=
  ind rfl fun n e1=>(Zye2 m0 m1 n).trans (by rw [e1];rfl)
theorem Zze2 (m0 n:Nat):Zko m0 (n+1)=Zj.S0 (Zas m0 m0) (Zw1 m0 n n):=by kernel_rfl
theorem Zz62 (m0:Nat):∀ n:Nat,Zko m0 n=Zj.l0 (Zas m0 m0) n:=
  ind rfl fun n e0=>by
    have e2:Zv1 m0 n n=Zj.t2 (Zj.l0 (Zas m0 m0) n) n:=by rw [← e0];exact Zx62 m0 n n
    have e1:Zw1 m0 n n=Zj.l1 (Zj.t2 (Zj.l0 (Zas m0 m0) n) n) n:=by rw [← e2];exact Zy62 m0 n n
    rw [Zze2 m0 n,e1];rfl
theorem Zaj3 (m0:Nat) (x:ArgsD P_f91):run E_f91 b_f91 m0 x K_f91=Zj.S (Zko m0 m0) x.1:=by kernel_rfl
abbrev Zpl1:AM.Spec:=AM.spec P_f91 R_f91 (fun x=>Zj x.1)
theorem c_f91:Zi Tryz.prog 91 Zpl1:=ctrC tabOk (fn:=Tryz.f91) (show ∀ x,run E_f91 b_f91 fu x K_f91=_ from fun x=>by
  have e4:Zas fu fu=Zj.t4 fu:=Zu62 fu fu
  have e0:Zko fu fu=Zj.l0 (Zj.t4 fu) fu:=by rw [← e4];exact Zz62 fu fu
  refine (Zaj3 fu x).trans ?_
  rw [e0];rfl) (Ze trivial)
abbrev E_f93:Env:=tab.env (AM.look [(91,Zpl1),(90,Znl1),(92,Zyr),(123,Zvc1)]) ⟨[],[],[],⟨tt [2,3],[]⟩,[],[90,92,123],[],[]⟩
def b_f93:Code:=bd Tryz.f93
abbrev R_f93:List (Ty×List Tag):=[(.str,[]),(k13b,[])]
abbrev P_f93:List PK:=[.val k13a]
abbrev K_f93:K (ResD R_f93):=fin E_f93 [.tmp 2, .tmp 3] [] R_f93
abbrev Zql1:AM.Spec:=AM.spec P_f93 R_f93 (fun x=>Zoj x.1)
theorem c_f93:Zi Tryz.prog 93 Zql1:=ctrC tabOk (fn:=Tryz.f93) (show ∀ x,run E_f93 b_f93 fu x K_f93=_ from fun x=>by kernel_rfl) (Ze ⟨⟨c_f91,Tryz.call91,nw⟩,⟨⟨c_f90,Tryz.call90,fun _=>Zd rfl⟩,⟨⟨c_f92,Tryz.call92,fun _=>Zd rfl⟩,⟨⟨Zle2,Tryz.call123,fun _=>Zd rfl⟩,trivial⟩⟩⟩⟩)
abbrev E_f51:Env:=tab.env (AM.look [(90,Znl1),(91,Zpl1),(87,Zzk1),(86,Zdl1),(92,Zyr),(93,Zql1)]) ⟨[],[],[],⟨tt [4,5],[]⟩,[],[86,90,92,93],[],[]⟩
def b_f51:Code:=bd Tryz.f51
abbrev R_f51:List (Ty×List Tag):=[(.str,[]),(.bool,[])]
abbrev P_f51:List PK:=[.val k13a, .val k13b]
abbrev K_f51:K (ResD R_f51):=fin E_f51 [.tmp 4, .tmp 5] [] R_f51
abbrev Zaf2:AM.Spec:=AM.spec P_f51 R_f51 (fun x=>Zfp x.1 x.2.1)
theorem c_f51:Zi Tryz.prog 51 Zaf2:=ctrC tabOk (fn:=Tryz.f51) (show ∀ x,run E_f51 b_f51 fu x K_f51=_ from fun x=>by kernel_rfl) (Ze ⟨⟨c_f90,Tryz.call90,fun _=>Zd rfl⟩,⟨⟨c_f91,Tryz.call91,nw⟩,⟨⟨c_f87,Tryz.call87,nw⟩,⟨⟨c_f86,Tryz.call86,fun _=>Zd rfl⟩,⟨⟨c_f92,Tryz.call92,fun _=>Zd rfl⟩,⟨⟨c_f93,Tryz.call93,fun _=>Zd rfl⟩,trivial⟩⟩⟩⟩⟩⟩)
abbrev E_f28:Env:=tab.env (AM.look [(50,Zjc2),(49,Zoe2),(52,Zqe2),(51,Zaf2)]) ⟨[],[],[],⟨tt [6,7],[]⟩,[],[49,51],[],[]⟩
def b_f28:Code:=bd Tryz.f28
abbrev R_f28:List (Ty×List Tag):=[(.str,[]),(.bool,[])]
abbrev P_f28:List PK:=[.val k13g, .val k13b, .val k13b]
abbrev K_f28:K (ResD R_f28):=fin E_f28 [.tmp 6, .tmp 7] [] R_f28
abbrev Zbf2:AM.Spec:=AM.spec P_f28 R_f28 (fun x=>Zho x.1 x.2.1 x.2.2.1)
theorem c_f28:Zi Tryz.prog 28 Zbf2:=ctrC tabOk (fn:=Tryz.f28) (show ∀ x,run E_f28 b_f28 fu x K_f28=_ from fun x=>by kernel_rfl) (Ze ⟨⟨c_f50,Tryz.call50,nw⟩,⟨⟨c_f49,Tryz.call49,fun _=>Zd rfl⟩,⟨⟨c_f52,Tryz.call52,nw⟩,⟨⟨c_f51,Tryz.call51,fun _=>Zd rfl⟩,trivial⟩⟩⟩⟩)
abbrev E_f94:Env:=tab.env (AM.look []) ⟨[(0,⟨tt [1,5,6],[]⟩),(2,⟨tt [1,5,6,7],[]⟩)],[],[],⟨tt [4],[]⟩,[],[],[],[]⟩
def b_f94:Code:=bd Tryz.f94
abbrev R_f94:List (Ty×List Tag):=[(k13b,[])]
abbrev P_f94:List PK:=[.val k13b, .val .str]
abbrev K_f94:K (ResD R_f94):=fin E_f94 [.tmp 4] [] R_f94
def Zfv2 (x4:ByteArray) (x5 x6 x7:Int):St:=mk [(1, .dat .str x4 []),(5, .dat k13b x5 []),(6, .dat k13b x6 []),(7, .dat k13b x7 [])] []
def Zgv2 (x1:ByteArray) (x2 x3:Int):St:=mk [(1, .dat .str x1 []),(5, .dat k13b x2 []),(6, .dat k13b x3 [])] []
def Zhv2:Code:=(rgt (rgt (rgt b_f94)))
def Za72 (m0:Nat):K (ResD R_f94):=sqK E_f94 m0 Zhv2 0 K_f94
def Zbt1 (m0:Nat):K (ResD R_f94):=Zaa 0 (Za72 m0)
def Zgx:Code:=(lft (lft (rgt (lft (rgt (rgt b_f94))))))
def Zx1 (m0 n:Nat):ByteArray→Int→Int→Option Int:=fun x1 x2 x3=>ej E_f94 n (.loop Zgx) 0 (Zgv2 x1 x2 x3) (Zbt1 m0)
def Zb72 (m0 m1:Nat):K (ResD R_f94):=lpK E_f94 m1 Zgx 0 (Zbt1 m0)
def Ziv2:Code:=(rgt (rgt Zgx))
def Zc72 (m0 m1:Nat):K (ResD R_f94):=sqK E_f94 m1 Ziv2 0 (Zb72 m0 m1)
def Zd72 (m0 m1:Nat):K (ResD R_f94):=Zaa 1 (Zc72 m0 m1)
def Ze72 (m0 m1:Nat):K (ResD R_f94):=Zaa 2 (Zd72 m0 m1)
def Zjv2:Code:=(lft (lft (rgt (lft (lft (rgt Zgx))))))
def Zy1 (m0 m1 n:Nat):ByteArray→Int→Int→Int→Option Int:=fun x4 x5 x6 x7=>ej E_f94 n (.loop Zjv2) 2 (Zfv2 x4 x5 x6 x7) (Ze72 m0 m1)
theorem Zcf2 (m0 m1 n:Nat):Zy1 m0 m1 (n+1)=Zlb.S1 (Zx1 m0 m1) (Zy1 m0 m1 n):=by kernel_rfl
theorem Zf72 (m0 m1:Nat):∀ n:Nat,Zy1 m0 m1 n=Zlb.l1 (Zx1 m0 m1) n:=
  ind rfl fun n e1=>(Zcf2 m0 m1 n).trans (by rw [e1];rfl)
theorem Zdf2 (m0 n:Nat):Zx1 m0 (n+1)=Zlb.S0 (Zy1 m0 n n):=by kernel_rfl
theorem Zg72 (m0:Nat):∀ n:Nat,Zx1 m0 n=Zlb.l0 n:=
  ind rfl fun n e0=>by
    have e1:Zy1 m0 n n=Zlb.l1 (Zlb.l0 n) n:=by rw [← e0];exact Zf72 m0 n n
    rw [Zdf2 m0 n,e1];rfl
theorem Zbj3 (m0:Nat) (x:ArgsD P_f94):run E_f94 b_f94 m0 x K_f94=Zlb.S (Zx1 m0 m0) x.1 x.2.1:=by kernel_rfl
abbrev Zef2:AM.Spec:=AM.spec P_f94 R_f94 (fun x=>Zlb x.1 x.2.1)
theorem c_f94:Zi Tryz.prog 94 Zef2:=ctrC tabOk (fn:=Tryz.f94) (fun x=>(Zbj3 fu x).trans (by rw [Zg72 fu fu];rfl)) (Ze trivial)
abbrev E_f53:Env:=tab.env (AM.look [(94,Zef2)]) ⟨[],[],[],⟨tt [2],[]⟩,[],[94],[],[]⟩
def b_f53:Code:=bd Tryz.f53
abbrev R_f53:List (Ty×List Tag):=[(k13b,[])]
abbrev P_f53:List PK:=[.val .str]
abbrev K_f53:K (ResD R_f53):=fin E_f53 [.tmp 2] [] R_f53
abbrev Zff2:AM.Spec:=AM.spec P_f53 R_f53 (fun x=>Zvs x.1)
theorem c_f53:Zi Tryz.prog 53 Zff2:=ctrC tabOk (fn:=Tryz.f53) (show ∀ x,run E_f53 b_f53 fu x K_f53=_ from fun x=>by kernel_rfl) (Ze ⟨⟨c_f94,Tryz.call94,fun _=>Zd rfl⟩,trivial⟩)
abbrev E_f29:Env:=tab.env (AM.look [(53,Zff2)]) ⟨[],[],[],⟨tt [2],[]⟩,[],[53],[],[]⟩
def b_f29:Code:=bd Tryz.f29
abbrev R_f29:List (Ty×List Tag):=[(.str,[])]
abbrev P_f29:List PK:=[.val .str]
abbrev K_f29:K (ResD R_f29):=fin E_f29 [.tmp 2] [] R_f29
abbrev Zrl1:AM.Spec:=AM.spec P_f29 R_f29 (fun x=>Zul x.1)
theorem c_f29:Zi Tryz.prog 29 Zrl1:=ctrC tabOk (fn:=Tryz.f29) (show ∀ x,run E_f29 b_f29 fu x K_f29=_ from fun x=>by kernel_rfl) (Ze ⟨⟨c_f53,Tryz.call53,fun _=>Zd rfl⟩,trivial⟩)
abbrev E_f11:Env:=tab.env (AM.look [(22,Zrb2),(27,Zhc2),(28,Zbf2),(29,Zrl1)]) ⟨[],[],[],⟨tt [6,7],[]⟩,[],[22,28,29],[],[]⟩
def b_f11:Code:=bd Tryz.f11
abbrev R_f11:List (Ty×List Tag):=[(.str,[]),(k13b,[])]
abbrev P_f11:List PK:=[.val k13g, .val k13b, .val k13b]
abbrev K_f11:K (ResD R_f11):=fin E_f11 [.tmp 6, .tmp 7] [] R_f11
abbrev Zgf2:AM.Spec:=AM.spec P_f11 R_f11 (fun x=>Zyg x.1 x.2.1 x.2.2.1)
theorem c_f11:Zi Tryz.prog 11 Zgf2:=ctrC tabOk (fn:=Tryz.f11) (show ∀ x,run E_f11 b_f11 fu x K_f11=_ from fun x=>by kernel_rfl) (Ze ⟨⟨c_f22,Tryz.call22,fun _=>Zd rfl⟩,⟨⟨c_f27,Tryz.call27,nw⟩,⟨⟨c_f28,Tryz.call28,fun _=>Zd rfl⟩,⟨⟨c_f29,Tryz.call29,fun _=>Zd rfl⟩,trivial⟩⟩⟩⟩)
abbrev E_f58:Env:=tab.env (AM.look [(29,Zrl1)]) ⟨[],[],[],⟨tt [2,3],[]⟩,[],[29],[],[]⟩
def b_f58:Code:=bd Tryz.f58
abbrev R_f58:List (Ty×List Tag):=[(.str,[]),(k13b,[])]
abbrev P_f58:List PK:=[.val .str]
abbrev K_f58:K (ResD R_f58):=fin E_f58 [.tmp 2, .tmp 3] [] R_f58
abbrev Zhf2:AM.Spec:=AM.spec P_f58 R_f58 (fun x=>Zvl x.1)
theorem c_f58:Zi Tryz.prog 58 Zhf2:=ctrC tabOk (fn:=Tryz.f58) (show ∀ x,run E_f58 b_f58 fu x K_f58=_ from fun x=>by kernel_rfl) (Ze ⟨⟨c_f29,Tryz.call29,fun _=>Zd rfl⟩,trivial⟩)
abbrev E_f31:Env:=tab.env (AM.look [(58,Zhf2)]) ⟨[],[],[],⟨tt [2,3,4,5],tt [2]⟩,[],[58],[],[]⟩
def b_f31:Code:=bd Tryz.f31
abbrev R_f31:List (Ty×List Tag):=[(k13j,[]),(.str,[]),(.str,[]),(.bool,[])]
abbrev P_f31:List PK:=[.val .str]
abbrev K_f31:K (ResD R_f31):=fin E_f31 [.cell 2 37, .tmp 3, .tmp 4, .tmp 5] [] R_f31
abbrev Zwa1:AM.Spec:=AM.spec P_f31 R_f31 (fun x=>Zqg x.1)
theorem c_f31:Zi Tryz.prog 31 Zwa1:=ctrC tabOk (fn:=Tryz.f31) (show ∀ x,run E_f31 b_f31 fu x K_f31=_ from fun x=>by kernel_rfl) (Ze ⟨⟨c_f58,Tryz.call58,fun _=>Zd rfl⟩,trivial⟩)
abbrev Zxa1:Env:=tab.env (AM.look []) ⟨[(0,⟨tt [0,1,2,7,8],[]⟩)],[],[],⟨tt [6],[]⟩,[],[],[],[]⟩
def Zsl1:Code:=bd Tryz.f102
abbrev Zz1:List (Ty×List Tag):=[(k13b,[])]
abbrev Zif2:List PK:=[.val .str, .val k13b, .val k13b]
abbrev Zjf2:K (ResD Zz1):=fin Zxa1 [.tmp 6] [] Zz1
def Zkf2 (x1:ByteArray) (x2 x3:Int) (x4 x5:Int):St:=mk [(0, .dat .str x1 []),(1, .dat k13b x2 []),(2, .dat k13b x3 []),(7, .dat k13b x4 []),(8, .dat k13b x5 [])] []
def Zlf2:Code:=(rgt (rgt (rgt Zsl1)))
def Zkv2 (m0:Nat):K (ResD Zz1):=sqK Zxa1 m0 Zlf2 0 Zjf2
def Zlv2 (m0:Nat):K (ResD Zz1):=Zaa 0 (Zkv2 m0)
def Zmf2:Code:=(lft (lft (rgt (lft (rgt (rgt Zsl1))))))
def Zg5 (m0 n:Nat):ByteArray→Int→Int→Int→Int→Option Int:=fun x1 x2 x3 x4 x5=>ej Zxa1 n (.loop Zmf2) 0 (Zkf2 x1 x2 x3 x4 x5) (Zlv2 m0)
theorem Zry1 (m0 n:Nat):Zg5 m0 (n+1)=Zhe.S0 (Zg5 m0 n):=by kernel_rfl
theorem Zmv2 (m0:Nat):∀ n:Nat,Zg5 m0 n=Zhe.l0 n:=
  ind rfl fun n e0=>(Zry1 m0 n).trans (by rw [e0];rfl)
theorem Zh72 (m0:Nat) (x:ArgsD Zif2):run Zxa1 Zsl1 m0 x Zjf2=Zhe.S (Zg5 m0 m0) x.1 x.2.1 x.2.2.1:=by kernel_rfl
abbrev Zct1:AM.Spec:=AM.spec Zif2 Zz1 (fun x=>Zhe x.1 x.2.1 x.2.2.1)
theorem Zcj3:Zi Tryz.prog 102 Zct1:=ctrC tabOk (fn:=Tryz.f102) (fun x=>(Zh72 fu x).trans (by rw [Zmv2 fu fu];rfl)) (Ze trivial)
abbrev E_f65:Env:=tab.env (AM.look [(84,Zxk1),(102,Zct1),(48,Ztv)]) ⟨[(0,⟨tt [0,1,2,8,9],[]⟩)],[],[(10,⟨tt [0,2,8],[]⟩)],⟨tt [6,7],[]⟩,[],[48,84,102],[],[]⟩
def b_f65:Code:=bd Tryz.f65
abbrev R_f65:List (Ty×List Tag):=[(k13c,[⟨0,1,0,1⟩]),(k13b,[])]
abbrev P_f65:List PK:=[.val .str, .val k13b, .val k13b]
abbrev K_f65:K (ResD R_f65):=fin E_f65 [.tmp 6, .tmp 7] [] R_f65
def Znv2 (x8:ByteArray) (x9:Int) (x10:D13a):St:=mk [(0, .dat .str x8 []),(2, .dat k13b x9 []),(8, .dat k13c x10 [⟨0,513,0,1⟩])] []
def Zov2 (x2:ByteArray) (x3 x4:Int) (x5:D13a) (x6:Int):St:=mk [(0, .dat .str x2 []),(1, .dat k13b x3 []),(2, .dat k13b x4 []),(8, .dat k13c x5 [⟨0,513,0,1⟩]),(9, .dat k13b x6 [])] []
def Ztl1:Code:=(rgt (rgt (rgt (rgt (rgt b_f65)))))
def Za2 (m0 n:Nat):ByteArray→Int→D13a→Option D13h:=fun x8 x9 x10=>ej E_f65 n (.tail Ztl1) 0 (Znv2 x8 x9 x10) K_f65
theorem Znf2 (m0 n:Nat):Za2 m0 (n+1)=Zeb.S1:=by kernel_rfl
theorem Zi72 (m0:Nat):∀ n:Nat,Za2 m0 n=Zeb.t1 n:=
  ind rfl fun n _=>Znf2 m0 n
def Zj72 (m0:Nat):K (ResD R_f65):=sqK E_f65 m0 Ztl1 0 K_f65
def Zk72 (m0:Nat):K (ResD R_f65):=Zaa 0 (Zj72 m0)
def Zpv2:Code:=(lft (lft (rgt (lft (rgt (rgt (rgt (rgt b_f65))))))))
def Zb2 (m0 n:Nat):ByteArray→Int→Int→D13a→Int→Option D13h:=fun x2 x3 x4 x5 x6=>ej E_f65 n (.loop Zpv2) 0 (Zov2 x2 x3 x4 x5 x6) (Zk72 m0)
theorem Zof2 (m0 n:Nat):Zb2 m0 (n+1)=Zeb.S0 (Za2 m0 m0) (Zb2 m0 n):=by kernel_rfl
theorem Zl72 (m0:Nat):∀ n:Nat,Zb2 m0 n=Zeb.l0 (Za2 m0 m0) n:=
  ind rfl fun n e0=>(Zof2 m0 n).trans (by rw [e0];rfl)
theorem Zdj3 (m0:Nat) (x:ArgsD P_f65):run E_f65 b_f65 m0 x K_f65=Zeb.S (Zb2 m0 m0) x.1 x.2.1 x.2.2.1:=by kernel_rfl
abbrev Zaw:AM.Spec:=AM.spec P_f65 R_f65 (fun x=>Zeb x.1 x.2.1 x.2.2.1)
theorem c_f65:Zi Tryz.prog 65 Zaw:=ctrC tabOk (fn:=Tryz.f65) (show ∀ x,run E_f65 b_f65 fu x K_f65=_ from fun x=>by
  have e1:Za2 fu fu=Zeb.t1 fu:=Zi72 fu fu
  have e0:Zb2 fu fu=Zeb.l0 (Zeb.t1 fu) fu:=by rw [← e1];exact Zl72 fu fu
  refine (Zdj3 fu x).trans ?_
  rw [e0];rfl) (Ze ⟨⟨c_f84,Tryz.call84,fun _=>Zd rfl⟩,⟨⟨Zcj3,Tryz.call102,fun _=>Zd rfl⟩,⟨⟨c_f48,Tryz.call48,fun _=>Zd rfl⟩,trivial⟩⟩⟩)
abbrev E_f59:Env:=tab.env (AM.look [(65,Zaw)]) ⟨[(0,⟨tt [6,7,8,9],[]⟩)],[],[(9,⟨tt [6,7,8],[]⟩)],⟨tt [4,5],tt [13]⟩,[],[],[],[]⟩
def b_f59:Code:=bd Tryz.f59
abbrev R_f59:List (Ty×List Tag):=[(k13c,[]),(.bool,[])]
abbrev P_f59:List PK:=[.val .str, .val k13b]
abbrev K_f59:K (ResD R_f59):=fin E_f59 [.tmp 4, .tmp 5] [] R_f59
def Zqv2 (x6:D13a) (x7:Int) (x8:Bool):St:=mk [(6, .dat k13c x6 [⟨0,385,0,1⟩]),(7, .dat k13b x7 []),(8, .dat .bool x8 [])] []
def Zrv2 (x2:D13a) (x3:Int) (x4:Bool) (x5:Int):St:=mk [(6, .dat k13c x2 [⟨0,385,0,1⟩]),(7, .dat k13b x3 []),(8, .dat .bool x4 []),(9, .dat k13b x5 [])] []
def Zul1:Code:=(rgt (rgt (rgt (rgt (rgt b_f59)))))
def Zc2 (m0 n:Nat):D13a→Int→Bool→Option (D13a×Bool):=fun x6 x7 x8=>ej E_f59 n (.tail Zul1) 0 (Zqv2 x6 x7 x8) K_f59
theorem Zpf2 (m0 n:Nat):Zc2 m0 (n+1)=Zfb.S1:=by kernel_rfl
theorem Zm72 (m0:Nat):∀ n:Nat,Zc2 m0 n=Zfb.t1 n:=
  ind rfl fun n _=>Zpf2 m0 n
def Zn72 (m0:Nat):K (ResD R_f59):=sqK E_f59 m0 Zul1 0 K_f59
def Zo72 (m0:Nat):K (ResD R_f59):=Zaa 0 (Zn72 m0)
def Zsv2:Code:=(lft (lft (rgt (lft (rgt (rgt (rgt (rgt b_f59))))))))
def Zd2 (m0 n:Nat):D13a→Int→Bool→Int→Option (D13a×Bool):=fun x2 x3 x4 x5=>ej E_f59 n (.loop Zsv2) 0 (Zrv2 x2 x3 x4 x5) (Zo72 m0)
theorem Zqf2 (m0 n:Nat):Zd2 m0 (n+1)=Zfb.S0 (Zc2 m0 m0) (Zd2 m0 n):=by kernel_rfl
theorem Zp72 (m0:Nat):∀ n:Nat,Zd2 m0 n=Zfb.l0 (Zc2 m0 m0) n:=
  ind rfl fun n e0=>(Zqf2 m0 n).trans (by rw [e0];rfl)
theorem Zej3 (m0:Nat) (x:ArgsD P_f59):run E_f59 b_f59 m0 x K_f59=Zfb.S (Zd2 m0 m0) x.1 x.2.1:=by kernel_rfl
abbrev Zvl1:AM.Spec:=AM.spec P_f59 R_f59 (fun x=>Zfb x.1 x.2.1)
theorem c_f59:Zi Tryz.prog 59 Zvl1:=ctrC tabOk (fn:=Tryz.f59) (show ∀ x,run E_f59 b_f59 fu x K_f59=_ from fun x=>by
  have e1:Zc2 fu fu=Zfb.t1 fu:=Zm72 fu fu
  have e0:Zd2 fu fu=Zfb.l0 (Zfb.t1 fu) fu:=by rw [← e1];exact Zp72 fu fu
  refine (Zej3 fu x).trans ?_
  rw [e0];rfl) (Ze ⟨⟨c_f65,Tryz.call65,nw⟩,trivial⟩)
abbrev E_f32:Env:=tab.env (AM.look [(59,Zvl1)]) ⟨[(0,⟨tt [6,8,9],[]⟩)],[],[],⟨tt [4,5],[]⟩,[],[],[],[]⟩
def b_f32:Code:=bd Tryz.f32
abbrev R_f32:List (Ty×List Tag):=[(k13b,[]),(k13b,[])]
abbrev P_f32:List PK:=[.val .str, .val k13b]
abbrev K_f32:K (ResD R_f32):=fin E_f32 [.tmp 4, .tmp 5] [] R_f32
def Ztv2 (x2:D13a) (x3 x4:Int):St:=mk [(6, .dat k13c x2 []),(8, .dat k13b x3 []),(9, .dat k13b x4 [])] []
def Zuv2:Code:=(rgt (rgt (rgt (rgt (rgt (rgt b_f32))))))
def Zq72 (m0:Nat):K (ResD R_f32):=sqK E_f32 m0 Zuv2 0 K_f32
def Zr72 (m0:Nat):K (ResD R_f32):=Zaa 0 (Zq72 m0)
def Zvv2:Code:=(lft (lft (rgt (lft (rgt (rgt (rgt (rgt (rgt b_f32)))))))))
def Zya1 (m0 n:Nat):D13a→Int→Int→Option D13b:=fun x2 x3 x4=>ej E_f32 n (.loop Zvv2) 0 (Ztv2 x2 x3 x4) (Zr72 m0)
theorem Zrf2 (m0 n:Nat):Zya1 m0 (n+1)=Zmc.S0 (Zya1 m0 n):=by kernel_rfl
theorem Zs72 (m0:Nat):∀ n:Nat,Zya1 m0 n=Zmc.l0 n:=
  ind rfl fun n e0=>(Zrf2 m0 n).trans (by rw [e0];rfl)
theorem Zfj3 (m0:Nat) (x:ArgsD P_f32):run E_f32 b_f32 m0 x K_f32=Zmc.S (Zya1 m0 m0) x.1 x.2.1:=by kernel_rfl
abbrev Zza1:AM.Spec:=AM.spec P_f32 R_f32 (fun x=>Zmc x.1 x.2.1)
theorem c_f32:Zi Tryz.prog 32 Zza1:=ctrC tabOk (fn:=Tryz.f32) (fun x=>(Zfj3 fu x).trans (by rw [Zs72 fu fu];rfl)) (Ze ⟨⟨c_f59,Tryz.call59,nw⟩,trivial⟩)
abbrev E_f60:Env:=tab.env (AM.look []) ⟨[(0,⟨tt [0,1,6,7],[]⟩),(2,⟨tt [0,1,6,7,8,9],[]⟩)],[],[],⟨tt [4,5],[]⟩,[],[],[],[]⟩
def b_f60:Code:=bd Tryz.f60
abbrev R_f60:List (Ty×List Tag):=[(k13c,[⟨0,1,0,1⟩]),(k13b,[])]
abbrev P_f60:List PK:=[.val .str, .val k13b]
abbrev K_f60:K (ResD R_f60):=fin E_f60 [.tmp 4, .tmp 5] [] R_f60
def Zwv2 (x5:ByteArray) (x6:Int) (x7:D13a) (x8 x9 x10:Int):St:=mk [(0, .dat .str x5 []),(1, .dat k13b x6 []),(6, .dat k13c x7 [⟨0,385,0,1⟩]),(7, .dat k13b x8 []),(8, .dat k13b x9 []),(9, .dat k13b x10 [])] []
def Zxv2 (x1:ByteArray) (x2:Int) (x3:D13a) (x4:Int):St:=mk [(0, .dat .str x1 []),(1, .dat k13b x2 []),(6, .dat k13c x3 [⟨0,385,0,1⟩]),(7, .dat k13b x4 [])] []
def Zyv2:Code:=(rgt (rgt (rgt (rgt b_f60))))
def Zt72 (m0:Nat):K (ResD R_f60):=sqK E_f60 m0 Zyv2 0 K_f60
def Zdt1 (m0:Nat):K (ResD R_f60):=Zaa 0 (Zt72 m0)
def Zbs:Code:=(lft (lft (rgt (lft (rgt (rgt (rgt b_f60)))))))
def Ze2 (m0 n:Nat):ByteArray→Int→D13a→Int→Option D13h:=fun x1 x2 x3 x4=>ej E_f60 n (.loop Zbs) 0 (Zxv2 x1 x2 x3 x4) (Zdt1 m0)
def Zu72 (m0 m1:Nat):K (ResD R_f60):=lpK E_f60 m1 Zbs 0 (Zdt1 m0)
def Zzv2:Code:=(rgt (rgt Zbs))
def Zv72 (m0 m1:Nat):K (ResD R_f60):=sqK E_f60 m1 Zzv2 0 (Zu72 m0 m1)
def Zw72 (m0 m1:Nat):K (ResD R_f60):=Zaa 1 (Zv72 m0 m1)
def Zaw2:Code:=(rgt (rgt (lft (lft (rgt Zbs)))))
def Zx72 (m0 m1:Nat):K (ResD R_f60):=sqK E_f60 m1 Zaw2 1 (Zw72 m0 m1)
def Zy72 (m0 m1:Nat):K (ResD R_f60):=Zaa 2 (Zx72 m0 m1)
def Zbw2:Code:=(lft (lft (rgt (lft (rgt (lft (lft (rgt Zbs))))))))
def Zf2 (m0 m1 n:Nat):ByteArray→Int→D13a→Int→Int→Int→Option D13h:=fun x5 x6 x7 x8 x9 x10=>ej E_f60 n (.loop Zbw2) 2 (Zwv2 x5 x6 x7 x8 x9 x10) (Zy72 m0 m1)
theorem Zsf2 (m0 m1 n:Nat):Zf2 m0 m1 (n+1)=Zra.S1 (Ze2 m0 m1) (Zf2 m0 m1 n):=by kernel_rfl
theorem Zz72 (m0 m1:Nat):∀ n:Nat,Zf2 m0 m1 n=Zra.l1 (Ze2 m0 m1) n:=
  ind rfl fun n e1=>(Zsf2 m0 m1 n).trans (by rw [e1];rfl)
theorem Ztf2 (m0 n:Nat):Ze2 m0 (n+1)=Zra.S0 (Zf2 m0 n n):=by kernel_rfl
theorem Za82 (m0:Nat):∀ n:Nat,Ze2 m0 n=Zra.l0 n:=
  ind rfl fun n e0=>by
    have e1:Zf2 m0 n n=Zra.l1 (Zra.l0 n) n:=by rw [← e0];exact Zz72 m0 n n
    rw [Ztf2 m0 n,e1];rfl
theorem Zgj3 (m0:Nat) (x:ArgsD P_f60):run E_f60 b_f60 m0 x K_f60=Zra.S (Ze2 m0 m0) x.1 x.2.1:=by kernel_rfl
abbrev Zuf2:AM.Spec:=AM.spec P_f60 R_f60 (fun x=>Zra x.1 x.2.1)
theorem c_f60:Zi Tryz.prog 60 Zuf2:=ctrC tabOk (fn:=Tryz.f60) (fun x=>(Zgj3 fu x).trans (by rw [Za82 fu fu];rfl)) (Ze trivial)
abbrev Zab1:Env:=tab.env (AM.look [(146,Zer),(147,Zuv)]) ⟨[(0,⟨tt [1,2,9,10,11],tt [9,10]⟩)],[],[],⟨tt [8],[]⟩,[],[146,147],[],[]⟩
def Zwl1:Code:=bd Tryz.f136
abbrev Zg2:List (Ty×List Tag):=[(k13b,[])]
abbrev Zvf2:List PK:=[.val k13b, .val k13b, .val k13b, .val k13b]
abbrev Zwf2:K (ResD Zg2):=fin Zab1 [.tmp 8] [] Zg2
def Zxf2 (x3 x4 x5:Int) (x6 x7:D13c):St:=mk [(1, .dat k13b x3 []),(2, .dat k13b x4 []),(9, .ptr 9 0 0),(10, .ptr 10 0 0),(11, .dat k13b x5 [])] [(9,some (.arr .bool x6 false)),(10,some (.arr .bool x7 false))]
def Zyf2:Code:=(rgt (rgt (rgt Zwl1)))
def Zcw2 (m0:Nat):K (ResD Zg2):=sqK Zab1 m0 Zyf2 0 Zwf2
def Zdw2 (m0:Nat):K (ResD Zg2):=Zaa 0 (Zcw2 m0)
def Zzf2:Code:=(lft (lft (rgt (lft (rgt (rgt Zwl1))))))
def Zh5 (m0 n:Nat):Int→Int→Int→D13c→D13c→Option Int:=fun x3 x4 x5 x6 x7=>ej Zab1 n (.loop Zzf2) 0 (Zxf2 x3 x4 x5 x6 x7) (Zdw2 m0)
theorem Zsy1 (m0 n:Nat):Zh5 m0 (n+1)=Zfd.S0 (Zh5 m0 n):=by kernel_rfl
theorem Zew2 (m0:Nat):∀ n:Nat,Zh5 m0 n=Zfd.l0 n:=
  ind rfl fun n e0=>(Zsy1 m0 n).trans (by rw [e0];rfl)
theorem Zb82 (m0:Nat) (x:ArgsD Zvf2):run Zab1 Zwl1 m0 x Zwf2=Zfd.S (Zh5 m0 m0) x.1 x.2.1 x.2.2.1 x.2.2.2.1:=by kernel_rfl
abbrev Zet1:AM.Spec:=AM.spec Zvf2 Zg2 (fun x=>Zfd x.1 x.2.1 x.2.2.1 x.2.2.2.1)
theorem Zhj3:Zi Tryz.prog 136 Zet1:=ctrC tabOk (fn:=Tryz.f136) (fun x=>(Zb82 fu x).trans (by rw [Zew2 fu fu];rfl)) (Ze ⟨⟨Zb1,Tryz.call146,fun _=>Zd rfl⟩,⟨⟨Zla1,Tryz.call147,fun _=>Zd rfl⟩,trivial⟩⟩)
abbrev Zbw:Env:=tab.env (AM.look [(146,Zer),(147,Zuv)]) ⟨[(0,⟨tt [3,4,5],tt [3,4]⟩)],[],[(7,⟨tt [3,4],tt [3,4]⟩)],⟨tt [2],[]⟩,[],[146,147],[],[]⟩
def Zbb1:Code:=bd Tryz.f137
abbrev Zh2:List (Ty×List Tag):=[(k13b,[])]
abbrev Zag2:List PK:=[.val k13b]
abbrev Zcb1:K (ResD Zh2):=fin Zbw [.tmp 2] [] Zh2
def Zbg2 (x5 x6:D13c):St:=mk [(3, .ptr 3 0 0),(4, .ptr 4 0 0)] [(3,some (.arr .bool x5 false)),(4,some (.arr .bool x6 false))]
def Zcg2 (x2:Int) (x3 x4:D13c):St:=mk [(3, .ptr 3 0 0),(4, .ptr 4 0 0),(5, .dat k13b x2 [])] [(3,some (.arr .bool x3 false)),(4,some (.arr .bool x4 false))]
def Zte1:Code:=(rgt (rgt (rgt (rgt Zbb1))))
def Zcw (m0 n:Nat):D13c→D13c→Option Int:=fun x5 x6=>ej Zbw n (.tail Zte1) 0 (Zbg2 x5 x6) Zcb1
theorem Zty1 (m0 n:Nat):Zcw m0 (n+1)=Znb.S1:=by kernel_rfl
theorem Zfw2 (m0:Nat):∀ n:Nat,Zcw m0 n=Znb.t1 n:=
  ind rfl fun n _=>Zty1 m0 n
def Zgw2 (m0:Nat):K (ResD Zh2):=sqK Zbw m0 Zte1 0 Zcb1
def Zhw2 (m0:Nat):K (ResD Zh2):=Zaa 0 (Zgw2 m0)
def Zdg2:Code:=(lft (lft (rgt (lft (rgt (rgt (rgt Zbb1)))))))
def Zdw (m0 n:Nat):Int→D13c→D13c→Option Int:=fun x2 x3 x4=>ej Zbw n (.loop Zdg2) 0 (Zcg2 x2 x3 x4) (Zhw2 m0)
theorem Zuy1 (m0 n:Nat):Zdw m0 (n+1)=Znb.S0 (Zcw m0 m0) (Zdw m0 n):=by kernel_rfl
theorem Ziw2 (m0:Nat):∀ n:Nat,Zdw m0 n=Znb.l0 (Zcw m0 m0) n:=
  ind rfl fun n e0=>(Zuy1 m0 n).trans (by rw [e0];rfl)
theorem Zc82 (m0:Nat) (x:ArgsD Zag2):run Zbw Zbb1 m0 x Zcb1=Znb.S (Zdw m0 m0) x.1:=by kernel_rfl
abbrev Zft1:AM.Spec:=AM.spec Zag2 Zh2 (fun x=>Znb x.1)
theorem Zij3:Zi Tryz.prog 137 Zft1:=ctrC tabOk (fn:=Tryz.f137) (show ∀ x,run Zbw Zbb1 fu x Zcb1=_ from fun x=>by
  have e1:Zcw fu fu=Znb.t1 fu:=Zfw2 fu fu
  have e0:Zdw fu fu=Znb.l0 (Znb.t1 fu) fu:=by rw [← e1];exact Ziw2 fu fu
  refine (Zc82 fu x).trans ?_
  rw [e0];rfl) (Ze ⟨⟨Zb1,Tryz.call146,fun _=>Zd rfl⟩,⟨⟨Zla1,Tryz.call147,fun _=>Zd rfl⟩,trivial⟩⟩)
abbrev E_f98:Env:=tab.env (AM.look [(136,Zet1),(137,Zft1),(92,Zyr)]) ⟨[(0,⟨tt [0,5,6],[]⟩)],[],[],⟨tt [2,3,4],[]⟩,[],[92,136,137],[],[]⟩
def b_f98:Code:=bd Tryz.f98
abbrev R_f98:List (Ty×List Tag):=[(k13b,[]),(k13b,[]),(k13b,[])]
abbrev P_f98:List PK:=[.val .str]
abbrev K_f98:K (ResD R_f98):=fin E_f98 [.tmp 2, .tmp 3, .tmp 4] [] R_f98
def Zjw2 (x1:ByteArray) (x2 x3:Int):St:=mk [(0, .dat .str x1 []),(5, .dat k13b x2 []),(6, .dat k13b x3 [])] []
def Zkw2:Code:=(rgt (rgt (rgt b_f98)))
def Zd82 (m0:Nat):K (ResD R_f98):=sqK E_f98 m0 Zkw2 0 K_f98
def Ze82 (m0:Nat):K (ResD R_f98):=Zaa 0 (Zd82 m0)
def Zlw2:Code:=(lft (lft (rgt (lft (rgt (rgt b_f98))))))
def Zdb1 (m0 n:Nat):ByteArray→Int→Int→Option (Int×Int×Int):=fun x1 x2 x3=>ej E_f98 n (.loop Zlw2) 0 (Zjw2 x1 x2 x3) (Ze82 m0)
theorem Zeg2 (m0 n:Nat):Zdb1 m0 (n+1)=Zcb.S0 (Zdb1 m0 n):=by kernel_rfl
theorem Zf82 (m0:Nat):∀ n:Nat,Zdb1 m0 n=Zcb.l0 n:=
  ind rfl fun n e0=>(Zeg2 m0 n).trans (by rw [e0];rfl)
theorem Zjj3 (m0:Nat) (x:ArgsD P_f98):run E_f98 b_f98 m0 x K_f98=Zcb.S (Zdb1 m0 m0) x.1:=by kernel_rfl
abbrev Zew:AM.Spec:=AM.spec P_f98 R_f98 (fun x=>Zcb x.1)
theorem c_f98:Zi Tryz.prog 98 Zew:=ctrC tabOk (fn:=Tryz.f98) (fun x=>(Zjj3 fu x).trans (by rw [Zf82 fu fu];rfl)) (Ze ⟨⟨Zhj3,Tryz.call136,fun _=>Zd rfl⟩,⟨⟨Zij3,Tryz.call137,fun _=>Zd rfl⟩,⟨⟨c_f92,Tryz.call92,fun _=>Zd rfl⟩,trivial⟩⟩⟩)
abbrev E_f61:Env:=tab.env (AM.look [(98,Zew),(99,Zja1)]) ⟨[(0,⟨tt [0,1,6,7,8],[]⟩)],[],[(16,⟨tt [1,6,8],[]⟩)],⟨tt [4,5],[]⟩,[],[98,99],[],[]⟩
def b_f61:Code:=bd Tryz.f61
abbrev R_f61:List (Ty×List Tag):=[(k13i,[⟨0,1,0,3⟩]),(k13b,[])]
abbrev P_f61:List PK:=[.val .str, .val k13b]
abbrev K_f61:K (ResD R_f61):=fin E_f61 [.tmp 4, .tmp 5] [] R_f61
def Zmw2 (x8:Int) (x9:D13o) (x10:Int):St:=mk [(1, .dat k13b x8 []),(6, .dat k13i x9 [⟨0,385,0,3⟩]),(8, .dat k13b x10 [])] []
def Znw2 (x1:ByteArray) (x2:Int) (x3:D13o) (x4 x5:Int):St:=mk [(0, .dat .str x1 []),(1, .dat k13b x2 []),(6, .dat k13i x3 [⟨0,385,0,3⟩]),(7, .dat k13b x4 []),(8, .dat k13b x5 [])] []
def Zxl1:Code:=(rgt (rgt (rgt (rgt (rgt b_f61)))))
def Zi2 (m0 n:Nat):Int→D13o→Int→Option D13v:=fun x8 x9 x10=>ej E_f61 n (.tail Zxl1) 0 (Zmw2 x8 x9 x10) K_f61
theorem Zfg2 (m0 n:Nat):Zi2 m0 (n+1)=Zmb.S1:=by kernel_rfl
theorem Zg82 (m0:Nat):∀ n:Nat,Zi2 m0 n=Zmb.t1 n:=
  ind rfl fun n _=>Zfg2 m0 n
def Zh82 (m0:Nat):K (ResD R_f61):=sqK E_f61 m0 Zxl1 0 K_f61
def Zi82 (m0:Nat):K (ResD R_f61):=Zaa 0 (Zh82 m0)
def Zow2:Code:=(lft (lft (lft (rgt (rgt (rgt (rgt b_f61)))))))
def Zj2 (m0 n:Nat):ByteArray→Int→D13o→Int→Int→Option D13v:=fun x1 x2 x3 x4 x5=>ej E_f61 n (.loop Zow2) 0 (Znw2 x1 x2 x3 x4 x5) (Zi82 m0)
theorem Zgg2 (m0 n:Nat):Zj2 m0 (n+1)=Zmb.S0 (Zi2 m0 m0) (Zj2 m0 n):=by kernel_rfl
theorem Zj82 (m0:Nat):∀ n:Nat,Zj2 m0 n=Zmb.l0 (Zi2 m0 m0) n:=
  ind rfl fun n e0=>(Zgg2 m0 n).trans (by rw [e0];rfl)
theorem Zkj3 (m0:Nat) (x:ArgsD P_f61):run E_f61 b_f61 m0 x K_f61=Zmb.S (Zj2 m0 m0) x.1 x.2.1:=by kernel_rfl
abbrev Zyl1:AM.Spec:=AM.spec P_f61 R_f61 (fun x=>Zmb x.1 x.2.1)
theorem c_f61:Zi Tryz.prog 61 Zyl1:=ctrC tabOk (fn:=Tryz.f61) (show ∀ x,run E_f61 b_f61 fu x K_f61=_ from fun x=>by
  have e1:Zi2 fu fu=Zmb.t1 fu:=Zg82 fu fu
  have e0:Zj2 fu fu=Zmb.l0 (Zmb.t1 fu) fu:=by rw [← e1];exact Zj82 fu fu
  refine (Zkj3 fu x).trans ?_
  rw [e0];rfl) (Ze ⟨⟨c_f98,Tryz.call98,fun _=>Zd rfl⟩,⟨⟨c_f99,Tryz.call99,fun _=>Zd rfl⟩,trivial⟩⟩)
abbrev E_f62:Env:=tab.env (AM.look [(99,Zja1)]) ⟨[(0,⟨tt [0,4,5],[]⟩),(2,⟨tt [0,4,5,6],[]⟩)],[],[],⟨tt [2,3],[]⟩,[],[99],[],[]⟩
def b_f62:Code:=bd Tryz.f62
abbrev R_f62:List (Ty×List Tag):=[(k13c,[⟨0,1,0,1⟩]),(k13b,[])]
abbrev P_f62:List PK:=[.val k13i]
abbrev K_f62:K (ResD R_f62):=fin E_f62 [.tmp 2, .tmp 3] [] R_f62
def Zpw2 (x5:D13o) (x6:D13a) (x7 x8:Int):St:=mk [(0, .dat k13i x5 []),(4, .dat k13c x6 [⟨0,257,0,1⟩]),(5, .dat k13b x7 []),(6, .dat k13b x8 [])] []
def Zqw2 (x2:D13o) (x3:D13a) (x4:Int):St:=mk [(0, .dat k13i x2 []),(4, .dat k13c x3 [⟨0,257,0,1⟩]),(5, .dat k13b x4 [])] []
def Zrw2:Code:=(rgt (rgt (rgt (rgt b_f62))))
def Zk82 (m0:Nat):K (ResD R_f62):=sqK E_f62 m0 Zrw2 0 K_f62
def Zgt1 (m0:Nat):K (ResD R_f62):=Zaa 0 (Zk82 m0)
def Zhx:Code:=(lft (lft (rgt (lft (rgt (rgt (rgt b_f62)))))))
def Zk2 (m0 n:Nat):D13o→D13a→Int→Option D13h:=fun x2 x3 x4=>ej E_f62 n (.loop Zhx) 0 (Zqw2 x2 x3 x4) (Zgt1 m0)
def Zl82 (m0 m1:Nat):K (ResD R_f62):=lpK E_f62 m1 Zhx 0 (Zgt1 m0)
def Zsw2:Code:=(rgt (rgt Zhx))
def Zm82 (m0 m1:Nat):K (ResD R_f62):=sqK E_f62 m1 Zsw2 0 (Zl82 m0 m1)
def Zn82 (m0 m1:Nat):K (ResD R_f62):=Zaa 1 (Zm82 m0 m1)
def Zo82 (m0 m1:Nat):K (ResD R_f62):=Zaa 2 (Zn82 m0 m1)
def Ztw2:Code:=(lft (lft (rgt (lft (lft (rgt Zhx))))))
def Zl2 (m0 m1 n:Nat):D13o→D13a→Int→Int→Option D13h:=fun x5 x6 x7 x8=>ej E_f62 n (.loop Ztw2) 2 (Zpw2 x5 x6 x7 x8) (Zo82 m0 m1)
theorem Zhg2 (m0 m1 n:Nat):Zl2 m0 m1 (n+1)=Zgb.S1 (Zk2 m0 m1) (Zl2 m0 m1 n):=by kernel_rfl
theorem Zp82 (m0 m1:Nat):∀ n:Nat,Zl2 m0 m1 n=Zgb.l1 (Zk2 m0 m1) n:=
  ind rfl fun n e1=>(Zhg2 m0 m1 n).trans (by rw [e1];rfl)
theorem Zig2 (m0 n:Nat):Zk2 m0 (n+1)=Zgb.S0 (Zl2 m0 n n):=by kernel_rfl
theorem Zq82 (m0:Nat):∀ n:Nat,Zk2 m0 n=Zgb.l0 n:=
  ind rfl fun n e0=>by
    have e1:Zl2 m0 n n=Zgb.l1 (Zgb.l0 n) n:=by rw [← e0];exact Zp82 m0 n n
    rw [Zig2 m0 n,e1];rfl
theorem Zlj3 (m0:Nat) (x:ArgsD P_f62):run E_f62 b_f62 m0 x K_f62=Zgb.S (Zk2 m0 m0) x.1:=by kernel_rfl
abbrev Zzl1:AM.Spec:=AM.spec P_f62 R_f62 (fun x=>Zgb x.1)
theorem c_f62:Zi Tryz.prog 62 Zzl1:=ctrC tabOk (fn:=Tryz.f62) (fun x=>(Zlj3 fu x).trans (by rw [Zq82 fu fu];rfl)) (Ze ⟨⟨c_f99,Tryz.call99,fun _=>Zd rfl⟩,trivial⟩)
abbrev E_f63:Env:=tab.env (AM.look [(98,Zew),(65,Zaw),(88,Zhl1)]) ⟨[(0,⟨tt [0,6,9,10,13,15],[]⟩)],[],[(24,⟨tt [0,9],[]⟩)],⟨tt [4,5],[]⟩,[],[88,98],[],[]⟩
def b_f63:Code:=bd Tryz.f63
abbrev R_f63:List (Ty×List Tag):=[(k13c,[⟨0,1,0,1⟩]),(k13b,[])]
abbrev P_f63:List PK:=[.val .str, .val k13b]
abbrev K_f63:K (ResD R_f63):=fin E_f63 [.tmp 4, .tmp 5] [] R_f63
def Zuw2 (x10:ByteArray) (x11:D13a):St:=mk [(0, .dat .str x10 []),(9, .dat k13c x11 [⟨0,577,0,1⟩])] []
def Zvw2 (x4:ByteArray) (x5:Int) (x6:D13a) (x7:Int) (x8:D13a) (x9:Int):St:=mk [(0, .dat .str x4 []),(6, .dat k13b x5 []),(9, .dat k13c x6 [⟨0,577,0,1⟩]),(10, .dat k13b x7 []),(13, .dat k13c x8 [⟨0,833,0,1⟩]),(15, .dat k13b x9 [])] []
def Zam1:Code:=(rgt (rgt (rgt (rgt (rgt (rgt (rgt b_f63)))))))
def Zfw (m0 n:Nat):ByteArray→D13a→Option D13h:=fun x10 x11=>ej E_f63 n (.tail Zam1) 0 (Zuw2 x10 x11) K_f63
theorem Zjg2 (m0 n:Nat):Zfw m0 (n+1)=Zhb.S1:=by kernel_rfl
theorem Zr82 (m0:Nat):∀ n:Nat,Zfw m0 n=Zhb.t1 n:=
  ind rfl fun n _=>Zjg2 m0 n
def Zs82 (m0:Nat):K (ResD R_f63):=sqK E_f63 m0 Zam1 0 K_f63
def Zt82 (m0:Nat):K (ResD R_f63):=Zaa 0 (Zs82 m0)
def Zww2:Code:=(lft (lft (rgt (rgt (rgt (rgt (rgt (rgt (lft (rgt (lft (rgt (rgt (rgt (rgt (rgt (rgt b_f63)))))))))))))))))
def Zm2 (m0 n:Nat):ByteArray→Int→D13a→Int→D13a→Int→Option D13h:=fun x4 x5 x6 x7 x8 x9=>ej E_f63 n (.loop Zww2) 0 (Zvw2 x4 x5 x6 x7 x8 x9) (Zt82 m0)
theorem Zkg2 (m0 n:Nat):Zm2 m0 (n+1)=Zhb.S0 (Zfw m0 m0) (Zm2 m0 n):=by kernel_rfl
theorem Zu82 (m0:Nat):∀ n:Nat,Zm2 m0 n=Zhb.l0 (Zfw m0 m0) n:=
  ind rfl fun n e0=>(Zkg2 m0 n).trans (by rw [e0];rfl)
theorem Zmj3 (m0:Nat) (x:ArgsD P_f63):run E_f63 b_f63 m0 x K_f63=Zhb.S (Zm2 m0 m0) (Zfw m0 m0) x.1 x.2.1:=by kernel_rfl
abbrev Zlg2:AM.Spec:=AM.spec P_f63 R_f63 (fun x=>Zhb x.1 x.2.1)
theorem c_f63:Zi Tryz.prog 63 Zlg2:=ctrC tabOk (fn:=Tryz.f63) (show ∀ x,run E_f63 b_f63 fu x K_f63=_ from fun x=>by
  have e1:Zfw fu fu=Zhb.t1 fu:=Zr82 fu fu
  have e0:Zm2 fu fu=Zhb.l0 (Zhb.t1 fu) fu:=by rw [← e1];exact Zu82 fu fu
  refine (Zmj3 fu x).trans ?_
  rw [e0,e1];rfl) (Ze ⟨⟨c_f98,Tryz.call98,fun _=>Zd rfl⟩,⟨⟨c_f65,Tryz.call65,nw⟩,⟨⟨c_f88,Tryz.call88,fun _=>Zd rfl⟩,trivial⟩⟩⟩)
abbrev Zmg2:Env:=tab.env (AM.look [(98,Zew)]) ⟨[],[],[],⟨tt [4,5,6],[]⟩,[],[98],[],[]⟩
def Znj3:Code:=bd Tryz.f100
abbrev Zbm1:List (Ty×List Tag):=[(k13b,[]),(k13b,[]),(.bool,[])]
abbrev Zoj3:List PK:=[.val .str, .val k13b]
abbrev Zpj3:K (ResD Zbm1):=fin Zmg2 [.tmp 4, .tmp 5, .tmp 6] [] Zbm1
abbrev Zwc1:AM.Spec:=AM.spec Zoj3 Zbm1 (fun x=>Zxj x.1 x.2.1)
theorem Zng2:Zi Tryz.prog 100 Zwc1:=ctrC tabOk (fn:=Tryz.f100) (show ∀ x,run Zmg2 Znj3 fu x Zpj3=_ from fun x=>by kernel_rfl) (Ze ⟨⟨c_f98,Tryz.call98,fun _=>Zd rfl⟩,trivial⟩)
abbrev Zog2:Env:=tab.env (AM.look [(83,Zsv)]) ⟨[],[],[],⟨tt [2],[]⟩,[],[83],[],[]⟩
def Zqj3:Code:=bd Tryz.f101
abbrev Zcm1:List (Ty×List Tag):=[(k13b,[])]
abbrev Zrj3:List PK:=[.val k13b]
abbrev Zsj3:K (ResD Zcm1):=fin Zog2 [.tmp 2] [] Zcm1
abbrev Zxc1:AM.Spec:=AM.spec Zrj3 Zcm1 (fun x=>Zom x.1)
theorem Zpg2:Zi Tryz.prog 101 Zxc1:=ctrC tabOk (fn:=Tryz.f101) (show ∀ x,run Zog2 Zqj3 fu x Zsj3=_ from fun x=>by kernel_rfl) (Ze ⟨⟨c_f83,Tryz.call83,fun _=>Zd rfl⟩,trivial⟩)
abbrev E_f64:Env:=tab.env (AM.look [(100,Zwc1),(98,Zew),(101,Zxc1),(65,Zaw),(89,Zml1)]) ⟨[(0,⟨tt [0,1,6,7,9,10],[]⟩),(2,⟨tt [0,9,14,16,17],[]⟩)],[],[(5,⟨tt [0,1],[]⟩),(17,⟨tt [0,1,6,7,9],[]⟩),(27,⟨tt [0,16],[]⟩)],⟨tt [4,5],[]⟩,[],[89,98,100,101],[],[]⟩
def b_f64:Code:=bd Tryz.f64
abbrev R_f64:List (Ty×List Tag):=[(k13c,[⟨0,1,0,1⟩]),(k13b,[])]
abbrev P_f64:List PK:=[.val .str, .val k13b]
abbrev K_f64:K (ResD R_f64):=fin E_f64 [.tmp 4, .tmp 5] [] R_f64
def Zxw2 (x23:ByteArray) (x24:D13a):St:=mk [(0, .dat .str x23 []),(16, .dat k13c x24 [⟨0,1025,0,1⟩])] []
def Zyw2 (x18:ByteArray) (x19 x20 x21:D13a) (x22:Int):St:=mk [(0, .dat .str x18 []),(9, .dat k13c x19 [⟨0,577,0,1⟩]),(14, .dat k13c x20 [⟨0,897,0,1⟩]),(16, .dat k13c x21 [⟨0,1025,0,1⟩]),(17, .dat k13b x22 [])] []
def Zzw2 (x11:ByteArray) (x12 x13 x14:Int) (x15:D13a):St:=mk [(0, .dat .str x11 []),(1, .dat k13b x12 []),(6, .dat k13b x13 []),(7, .dat k13b x14 []),(9, .dat k13c x15 [⟨0,577,0,1⟩])] []
def Zax2 (x4:ByteArray) (x5 x6 x7:Int) (x8:D13a) (x9:Int):St:=mk [(0, .dat .str x4 []),(1, .dat k13b x5 []),(6, .dat k13b x6 []),(7, .dat k13b x7 []),(9, .dat k13c x8 [⟨0,577,0,1⟩]),(10, .dat k13b x9 [])] []
def Zbx2 (x1:ByteArray) (x2:Int):St:=mk [(0, .dat .str x1 []),(1, .dat k13b x2 [])] []
def Zdm1:Code:=(rgt (rgt (rgt (rgt (rgt (rgt (rgt (rgt (rgt (rgt (rgt b_f64)))))))))))
def Zn2 (m0 n:Nat):ByteArray→D13a→Option D13h:=fun x23 x24=>ej E_f64 n (.tail Zdm1) 0 (Zxw2 x23 x24) K_f64
theorem Zqg2 (m0 m1:Nat) (m2 n:Nat):Zn2 m0 (n+1)=Zh.S4:=by kernel_rfl
theorem Zv82 (m0 m1 m2:Nat):∀ n:Nat,Zn2 m0 n=Zh.t4 n:=
  ind rfl fun n _=>Zqg2 m0 m1 m2 n
def Zw82 (m0 m1 m2:Nat):K (ResD R_f64):=sqK E_f64 m2 Zdm1 0 K_f64
def Zx82 (m0 m1 m2:Nat):K (ResD R_f64):=Zaa 2 (Zw82 m0 m1 m2)
def Zcx2:Code:=(lft (lft (rgt (lft (rgt (rgt (rgt (rgt (rgt (rgt (rgt (rgt (rgt (rgt b_f64))))))))))))))
def Zo2 (m0 m1:Nat) (m2 n:Nat):ByteArray→D13a→D13a→D13a→Int→Option D13h:=fun x18 x19 x20 x21 x22=>ej E_f64 n (.loop Zcx2) 2 (Zyw2 x18 x19 x20 x21 x22) (Zx82 m0 m1 m2)
theorem Zrg2 (m0 m1:Nat) (m2 n:Nat):Zo2 m0 m1 m2 (n+1)=Zh.S3 (Zn2 m0 m2) (Zo2 m0 m1 m2 n):=by kernel_rfl
theorem Zy82 (m0 m1 m2:Nat):∀ n:Nat,Zo2 m0 m1 m2 n=Zh.l3 (Zn2 m0 m2) n:=
  ind rfl fun n e3=>(Zrg2 m0 m1 m2 n).trans (by rw [e3];rfl)
def Zem1:Code:=(rgt (rgt (rgt (rgt (rgt (rgt (rgt b_f64)))))))
def Zp2 (m0 n:Nat):ByteArray→Int→Int→Int→D13a→Option D13h:=fun x11 x12 x13 x14 x15=>ej E_f64 n (.tail Zem1) 0 (Zzw2 x11 x12 x13 x14 x15) K_f64
theorem Zsg2 (m0 m1 n:Nat):Zp2 m0 (n+1)=Zh.S2 (Zo2 m0 m1 n n):=by kernel_rfl
theorem Zz82 (m0 m1:Nat):∀ n:Nat,Zp2 m0 n=Zh.t2 n:=
  ind rfl fun n e2=>by
    have e4:Zn2 m0 n=Zh.t4 n:=Zv82 m0 m1 n n
    have e3:Zo2 m0 m1 n n=Zh.l3 (Zh.t4 n) n:=by rw [← e4];exact Zy82 m0 m1 n n
    rw [Zsg2 m0 m1 n,e3];rfl
def Za92 (m0 m1:Nat):K (ResD R_f64):=sqK E_f64 m1 Zem1 0 K_f64
def Zb92 (m0 m1:Nat):K (ResD R_f64):=Zaa 0 (Za92 m0 m1)
def Zdx2:Code:=(lft (lft (rgt (lft (rgt (rgt (rgt (rgt (rgt (rgt b_f64))))))))))
def Zq2 (m0 m1 n:Nat):ByteArray→Int→Int→Int→D13a→Int→Option D13h:=fun x4 x5 x6 x7 x8 x9=>ej E_f64 n (.loop Zdx2) 0 (Zax2 x4 x5 x6 x7 x8 x9) (Zb92 m0 m1)
theorem Ztg2 (m0 m1 n:Nat):Zq2 m0 m1 (n+1)=Zh.S1 (Zp2 m0 m1) (Zq2 m0 m1 n):=by kernel_rfl
theorem Zc92 (m0 m1:Nat):∀ n:Nat,Zq2 m0 m1 n=Zh.l1 (Zp2 m0 m1) n:=
  ind rfl fun n e1=>(Ztg2 m0 m1 n).trans (by rw [e1];rfl)
def Zex2:Code:=(rgt (rgt (rgt b_f64)))
def Zfm1 (m0 n:Nat):ByteArray→Int→Option D13h:=fun x1 x2=>ej E_f64 n (.tail Zex2) 0 (Zbx2 x1 x2) K_f64
theorem Zug2 (m0 n:Nat):Zfm1 m0 (n+1)=Zh.S0 (Zq2 m0 n n):=by kernel_rfl
theorem Zd92 (m0:Nat):∀ n:Nat,Zfm1 m0 n=Zh.t0 n:=
  ind rfl fun n e0=>by
    have e2:Zp2 m0 n=Zh.t2 n:=Zz82 m0 n n
    have e1:Zq2 m0 n n=Zh.l1 (Zh.t2 n) n:=by rw [← e2];exact Zc92 m0 n n
    rw [Zug2 m0 n,e1];rfl
theorem Ztj3 (m0:Nat) (x:ArgsD P_f64):run E_f64 b_f64 m0 x K_f64=Zh.S (Zfm1 m0 m0) x.1 x.2.1:=by kernel_rfl
abbrev Zvg2:AM.Spec:=AM.spec P_f64 R_f64 (fun x=>Zh x.1 x.2.1)
theorem c_f64:Zi Tryz.prog 64 Zvg2:=ctrC tabOk (fn:=Tryz.f64) (fun x=>(Ztj3 fu x).trans (by rw [Zd92 fu fu];rfl)) (Ze ⟨⟨Zng2,Tryz.call100,fun _=>Zd rfl⟩,⟨⟨c_f98,Tryz.call98,fun _=>Zd rfl⟩,⟨⟨Zpg2,Tryz.call101,fun _=>Zd rfl⟩,⟨⟨c_f65,Tryz.call65,nw⟩,⟨⟨c_f89,Tryz.call89,fun _=>Zd rfl⟩,trivial⟩⟩⟩⟩⟩)
abbrev E_f33:Env:=tab.env (AM.look [(60,Zuf2),(61,Zyl1),(62,Zzl1),(63,Zlg2),(64,Zvg2),(65,Zaw)]) ⟨[],[],[],⟨tt [6,7],[]⟩,[],[],[],[]⟩
def b_f33:Code:=bd Tryz.f33
abbrev R_f33:List (Ty×List Tag):=[(k13c,[⟨0,1,0,1⟩]),(.bool,[])]
abbrev P_f33:List PK:=[.val .str, .val k13b, .val k13b]
abbrev K_f33:K (ResD R_f33):=fin E_f33 [.tmp 6, .tmp 7] [] R_f33
abbrev Zwg2:AM.Spec:=AM.spec P_f33 R_f33 (fun x=>Zig x.1 x.2.1 x.2.2.1)
theorem c_f33:Zi Tryz.prog 33 Zwg2:=ctrC tabOk (fn:=Tryz.f33) (show ∀ x,run E_f33 b_f33 fu x K_f33=_ from fun x=>by kernel_rfl) (Ze ⟨⟨c_f60,Tryz.call60,nw⟩,⟨⟨c_f61,Tryz.call61,nw⟩,⟨⟨c_f62,Tryz.call62,nw⟩,⟨⟨c_f63,Tryz.call63,nw⟩,⟨⟨c_f64,Tryz.call64,nw⟩,⟨⟨c_f65,Tryz.call65,nw⟩,trivial⟩⟩⟩⟩⟩⟩)
abbrev E_f35:Env:=tab.env (AM.look [(32,Zza1),(59,Zvl1)]) ⟨[(0,⟨tt [0,1,2,10],[]⟩),(2,⟨tt [2,11,13,14,15],[]⟩)],[],[(11,⟨tt [0,1,2],[]⟩)],⟨tt [6,7],[]⟩,[],[32],[],[]⟩
def b_f35:Code:=bd Tryz.f35
abbrev R_f35:List (Ty×List Tag):=[(k13g,[⟨0,1,0,3⟩]),(k13b,[])]
abbrev P_f35:List PK:=[.val .str, .val k13b, .val k13g]
abbrev K_f35:K (ResD R_f35):=fin E_f35 [.tmp 6, .tmp 7] [] R_f35
def Zfx2 (x10:D13u) (x11:D13a) (x12:D13u) (x13 x14:Int):St:=mk [(2, .dat k13g x10 []),(11, .dat k13c x11 []),(13, .dat k13g x12 [⟨0,833,0,3⟩]),(14, .dat k13b x13 []),(15, .dat k13b x14 [])] []
def Zgx2 (x6:ByteArray) (x7:Int) (x8:D13u):St:=mk [(0, .dat .str x6 []),(1, .dat k13b x7 []),(2, .dat k13g x8 [])] []
def Zhx2 (x2:ByteArray) (x3:Int) (x4:D13u) (x5:Int):St:=mk [(0, .dat .str x2 []),(1, .dat k13b x3 []),(2, .dat k13g x4 []),(10, .dat k13b x5 [])] []
def Zix2:Code:=(rgt (rgt (rgt (rgt (rgt (rgt (rgt (rgt (rgt b_f35)))))))))
def Ze92 (m0 m1:Nat):K (ResD R_f35):=sqK E_f35 m1 Zix2 0 K_f35
def Zf92 (m0 m1:Nat):K (ResD R_f35):=Zaa 2 (Ze92 m0 m1)
def Zjx2:Code:=(lft (lft (rgt (lft (rgt (rgt (rgt (rgt (rgt (rgt (rgt (rgt b_f35))))))))))))
def Zr2 (m0 m1 n:Nat):D13u→D13a→D13u→Int→Int→Option D13x:=fun x10 x11 x12 x13 x14=>ej E_f35 n (.loop Zjx2) 2 (Zfx2 x10 x11 x12 x13 x14) (Zf92 m0 m1)
theorem Zxg2 (m0 m1 n:Nat):Zr2 m0 m1 (n+1)=Zba.S2 (Zr2 m0 m1 n):=by kernel_rfl
theorem Zg92 (m0 m1:Nat):∀ n:Nat,Zr2 m0 m1 n=Zba.l2 n:=
  ind rfl fun n e2=>(Zxg2 m0 m1 n).trans (by rw [e2];rfl)
def Zgm1:Code:=(rgt (rgt (rgt (rgt (rgt b_f35)))))
def Zs2 (m0 n:Nat):ByteArray→Int→D13u→Option D13x:=fun x6 x7 x8=>ej E_f35 n (.tail Zgm1) 0 (Zgx2 x6 x7 x8) K_f35
theorem Zyg2 (m0 n:Nat):Zs2 m0 (n+1)=Zba.S1 (Zr2 m0 n n):=by kernel_rfl
theorem Zh92 (m0:Nat):∀ n:Nat,Zs2 m0 n=Zba.t1 n:=
  ind rfl fun n e1=>by
    have e2:Zr2 m0 n n=Zba.l2 n:=Zg92 m0 n n
    rw [Zyg2 m0 n,e2];rfl
def Zi92 (m0:Nat):K (ResD R_f35):=sqK E_f35 m0 Zgm1 0 K_f35
def Zj92 (m0:Nat):K (ResD R_f35):=Zaa 0 (Zi92 m0)
def Zkx2:Code:=(lft (lft (rgt (lft (rgt (rgt (rgt (rgt b_f35))))))))
def Zt2 (m0 n:Nat):ByteArray→Int→D13u→Int→Option D13x:=fun x2 x3 x4 x5=>ej E_f35 n (.loop Zkx2) 0 (Zhx2 x2 x3 x4 x5) (Zj92 m0)
theorem Zzg2 (m0 n:Nat):Zt2 m0 (n+1)=Zba.S0 (Zs2 m0 m0) (Zt2 m0 n):=by kernel_rfl
theorem Zk92 (m0:Nat):∀ n:Nat,Zt2 m0 n=Zba.l0 (Zs2 m0 m0) n:=
  ind rfl fun n e0=>(Zzg2 m0 n).trans (by rw [e0];rfl)
theorem Zuj3 (m0:Nat) (x:ArgsD P_f35):run E_f35 b_f35 m0 x K_f35=Zba.S (Zt2 m0 m0) x.1 x.2.1 x.2.2.1:=by kernel_rfl
abbrev Zah2:AM.Spec:=AM.spec P_f35 R_f35 (fun x=>Zba x.1 x.2.1 x.2.2.1)
theorem c_f35:Zi Tryz.prog 35 Zah2:=ctrC tabOk (fn:=Tryz.f35) (show ∀ x,run E_f35 b_f35 fu x K_f35=_ from fun x=>by
  have e1:Zs2 fu fu=Zba.t1 fu:=Zh92 fu fu
  have e0:Zt2 fu fu=Zba.l0 (Zba.t1 fu) fu:=by rw [← e1];exact Zk92 fu fu
  refine (Zuj3 fu x).trans ?_
  rw [e0];rfl) (Ze ⟨⟨c_f32,Tryz.call32,fun _=>Zd rfl⟩,⟨⟨c_f59,Tryz.call59,nw⟩,trivial⟩⟩)
abbrev E_f66:Env:=tab.env (AM.look []) ⟨[(0,⟨tt [0,1,6,7,8],[]⟩)],[],[(13,⟨tt [0,6,7],[]⟩)],⟨tt [4,5],[]⟩,[],[],[],[]⟩
def b_f66:Code:=bd Tryz.f66
abbrev R_f66:List (Ty×List Tag):=[(k13a,[⟨0,1,0,1⟩]),(k13b,[])]
abbrev P_f66:List PK:=[.val .str, .val k13b]
abbrev K_f66:K (ResD R_f66):=fin E_f66 [.tmp 4, .tmp 5] [] R_f66
def Zlx2 (x6:ByteArray) (x7:D13e) (x8:Int):St:=mk [(0, .dat .str x6 []),(6, .dat k13a x7 [⟨0,385,0,1⟩]),(7, .dat k13b x8 [])] []
def Zmx2 (x1:ByteArray) (x2:Int) (x3:D13e) (x4 x5:Int):St:=mk [(0, .dat .str x1 []),(1, .dat k13b x2 []),(6, .dat k13a x3 [⟨0,385,0,1⟩]),(7, .dat k13b x4 []),(8, .dat k13b x5 [])] []
def Zhm1:Code:=(rgt (rgt (rgt (rgt (rgt b_f66)))))
def Zu2 (m0 n:Nat):ByteArray→D13e→Int→Option D13l:=fun x6 x7 x8=>ej E_f66 n (.tail Zhm1) 0 (Zlx2 x6 x7 x8) K_f66
theorem Zbh2 (m0 n:Nat):Zu2 m0 (n+1)=Zka.S1:=by kernel_rfl
theorem Zl92 (m0:Nat):∀ n:Nat,Zu2 m0 n=Zka.t1 n:=
  ind rfl fun n _=>Zbh2 m0 n
def Zm92 (m0:Nat):K (ResD R_f66):=sqK E_f66 m0 Zhm1 0 K_f66
def Zn92 (m0:Nat):K (ResD R_f66):=Zaa 0 (Zm92 m0)
def Znx2:Code:=(lft (lft (rgt (lft (rgt (rgt (rgt (rgt b_f66))))))))
def Zv2 (m0 n:Nat):ByteArray→Int→D13e→Int→Int→Option D13l:=fun x1 x2 x3 x4 x5=>ej E_f66 n (.loop Znx2) 0 (Zmx2 x1 x2 x3 x4 x5) (Zn92 m0)
theorem Zch2 (m0 n:Nat):Zv2 m0 (n+1)=Zka.S0 (Zu2 m0 m0) (Zv2 m0 n):=by kernel_rfl
theorem Zo92 (m0:Nat):∀ n:Nat,Zv2 m0 n=Zka.l0 (Zu2 m0 m0) n:=
  ind rfl fun n e0=>(Zch2 m0 n).trans (by rw [e0];rfl)
theorem Zvj3 (m0:Nat) (x:ArgsD P_f66):run E_f66 b_f66 m0 x K_f66=Zka.S (Zv2 m0 m0) x.1 x.2.1:=by kernel_rfl
abbrev Zdh2:AM.Spec:=AM.spec P_f66 R_f66 (fun x=>Zka x.1 x.2.1)
theorem c_f66:Zi Tryz.prog 66 Zdh2:=ctrC tabOk (fn:=Tryz.f66) (show ∀ x,run E_f66 b_f66 fu x K_f66=_ from fun x=>by
  have e1:Zu2 fu fu=Zka.t1 fu:=Zl92 fu fu
  have e0:Zv2 fu fu=Zka.l0 (Zka.t1 fu) fu:=by rw [← e1];exact Zo92 fu fu
  refine (Zvj3 fu x).trans ?_
  rw [e0];rfl) (Ze trivial)
abbrev Zeb1:Env:=tab.env (AM.look []) ⟨[(0,⟨tt [0,1,7,8,9],[]⟩)],[],[],⟨tt [4,5,6],[]⟩,[],[],[],[]⟩
def Zim1:Code:=bd Tryz.f103
abbrev Zw2:List (Ty×List Tag):=[(k13a,[⟨0,1,0,1⟩]),(k13b,[]),(.bool,[])]
abbrev Zeh2:List PK:=[.val .str, .val k13b]
abbrev Zfh2:K (ResD Zw2):=fin Zeb1 [.tmp 4, .tmp 5, .tmp 6] [] Zw2
def Zgh2 (x1:ByteArray) (x2:Int) (x3:D13e) (x4 x5:Int):St:=mk [(0, .dat .str x1 []),(1, .dat k13b x2 []),(7, .dat k13a x3 [⟨0,449,0,1⟩]),(8, .dat k13b x4 []),(9, .dat k13b x5 [])] []
def Zhh2:Code:=(rgt (rgt (rgt (rgt Zim1))))
def Zox2 (m0:Nat):K (ResD Zw2):=sqK Zeb1 m0 Zhh2 0 Zfh2
def Zpx2 (m0:Nat):K (ResD Zw2):=Zaa 0 (Zox2 m0)
def Zih2:Code:=(lft (lft (rgt (lft (rgt (rgt (rgt Zim1)))))))
def Zi5 (m0 n:Nat):ByteArray→Int→D13e→Int→Int→Option D13t:=fun x1 x2 x3 x4 x5=>ej Zeb1 n (.loop Zih2) 0 (Zgh2 x1 x2 x3 x4 x5) (Zpx2 m0)
theorem Zvy1 (m0 n:Nat):Zi5 m0 (n+1)=Zrb.S0 (Zi5 m0 n):=by kernel_rfl
theorem Zqx2 (m0:Nat):∀ n:Nat,Zi5 m0 n=Zrb.l0 n:=
  ind rfl fun n e0=>(Zvy1 m0 n).trans (by rw [e0];rfl)
theorem Zp92 (m0:Nat) (x:ArgsD Zeh2):run Zeb1 Zim1 m0 x Zfh2=Zrb.S (Zi5 m0 m0) x.1 x.2.1:=by kernel_rfl
abbrev Zht1:AM.Spec:=AM.spec Zeh2 Zw2 (fun x=>Zrb x.1 x.2.1)
theorem Zwj3:Zi Tryz.prog 103 Zht1:=ctrC tabOk (fn:=Tryz.f103) (fun x=>(Zp92 fu x).trans (by rw [Zqx2 fu fu];rfl)) (Ze trivial)
abbrev E_f67:Env:=tab.env (AM.look [(98,Zew),(103,Zht1),(61,Zyl1),(62,Zzl1)]) ⟨[(0,⟨tt [9,14,16,17],[]⟩)],[],[],⟨tt [4,5],[]⟩,[],[98],[],[]⟩
def b_f67:Code:=bd Tryz.f67
abbrev R_f67:List (Ty×List Tag):=[(k13a,[⟨0,1,0,1⟩]),(.bool,[])]
abbrev P_f67:List PK:=[.val .str, .val k13b]
abbrev K_f67:K (ResD R_f67):=fin E_f67 [.tmp 4, .tmp 5] [] R_f67
def Zrx2 (x5:D13e) (x6:D13a) (x7:D13e) (x8:Int):St:=mk [(9, .dat k13a x5 [⟨0,577,0,1⟩]),(14, .dat k13c x6 [⟨0,897,0,1⟩]),(16, .dat k13a x7 [⟨0,1025,0,1⟩]),(17, .dat k13b x8 [])] []
def Zsx2:Code:=(rgt (rgt (rgt (rgt (rgt (rgt (rgt (rgt (rgt (rgt (rgt b_f67)))))))))))
def Zq92 (m0:Nat):K (ResD R_f67):=sqK E_f67 m0 Zsx2 0 K_f67
def Zr92 (m0:Nat):K (ResD R_f67):=Zaa 0 (Zq92 m0)
def Ztx2:Code:=(lft (lft (rgt (lft (rgt (rgt (rgt (rgt (rgt (rgt (rgt (rgt (rgt (rgt b_f67))))))))))))))
def Zfb1 (m0 n:Nat):D13e→D13a→D13e→Int→Option (D13e×Bool):=fun x5 x6 x7 x8=>ej E_f67 n (.loop Ztx2) 0 (Zrx2 x5 x6 x7 x8) (Zr92 m0)
theorem Zjh2 (m0 n:Nat):Zfb1 m0 (n+1)=Zdb.S0 (Zfb1 m0 n):=by kernel_rfl
theorem Zs92 (m0:Nat):∀ n:Nat,Zfb1 m0 n=Zdb.l0 n:=
  ind rfl fun n e0=>(Zjh2 m0 n).trans (by rw [e0];rfl)
theorem Zxj3 (m0:Nat) (x:ArgsD P_f67):run E_f67 b_f67 m0 x K_f67=Zdb.S (Zfb1 m0 m0) x.1 x.2.1:=by kernel_rfl
abbrev Zkh2:AM.Spec:=AM.spec P_f67 R_f67 (fun x=>Zdb x.1 x.2.1)
theorem c_f67:Zi Tryz.prog 67 Zkh2:=ctrC tabOk (fn:=Tryz.f67) (fun x=>(Zxj3 fu x).trans (by rw [Zs92 fu fu];rfl)) (Ze ⟨⟨c_f98,Tryz.call98,fun _=>Zd rfl⟩,⟨⟨Zwj3,Tryz.call103,nw⟩,⟨⟨c_f61,Tryz.call61,nw⟩,⟨⟨c_f62,Tryz.call62,nw⟩,trivial⟩⟩⟩⟩)
abbrev Zgb1:Env:=tab.env (AM.look []) ⟨[(0,⟨tt [0,1,7,8,9],[]⟩)],[],[],⟨tt [4,5,6],[]⟩,[],[],[],[]⟩
def Zjm1:Code:=bd Tryz.f104
abbrev Zx2:List (Ty×List Tag):=[(k13a,[⟨0,1,0,1⟩]),(k13b,[]),(.bool,[])]
abbrev Zlh2:List PK:=[.val .str, .val k13b]
abbrev Zmh2:K (ResD Zx2):=fin Zgb1 [.tmp 4, .tmp 5, .tmp 6] [] Zx2
def Znh2 (x1:ByteArray) (x2:Int) (x3:D13e) (x4 x5:Int):St:=mk [(0, .dat .str x1 []),(1, .dat k13b x2 []),(7, .dat k13a x3 [⟨0,449,0,1⟩]),(8, .dat k13b x4 []),(9, .dat k13b x5 [])] []
def Zoh2:Code:=(rgt (rgt (rgt (rgt Zjm1))))
def Zux2 (m0:Nat):K (ResD Zx2):=sqK Zgb1 m0 Zoh2 0 Zmh2
def Zvx2 (m0:Nat):K (ResD Zx2):=Zaa 0 (Zux2 m0)
def Zph2:Code:=(lft (lft (rgt (lft (rgt (rgt (rgt Zjm1)))))))
def Zj5 (m0 n:Nat):ByteArray→Int→D13e→Int→Int→Option D13t:=fun x1 x2 x3 x4 x5=>ej Zgb1 n (.loop Zph2) 0 (Znh2 x1 x2 x3 x4 x5) (Zvx2 m0)
theorem Zwy1 (m0 n:Nat):Zj5 m0 (n+1)=Zke.S0 (Zj5 m0 n):=by kernel_rfl
theorem Zwx2 (m0:Nat):∀ n:Nat,Zj5 m0 n=Zke.l0 n:=
  ind rfl fun n e0=>(Zwy1 m0 n).trans (by rw [e0];rfl)
theorem Zt92 (m0:Nat) (x:ArgsD Zlh2):run Zgb1 Zjm1 m0 x Zmh2=Zke.S (Zj5 m0 m0) x.1 x.2.1:=by kernel_rfl
abbrev Zit1:AM.Spec:=AM.spec Zlh2 Zx2 (fun x=>Zke x.1 x.2.1)
theorem Zyj3:Zi Tryz.prog 104 Zit1:=ctrC tabOk (fn:=Tryz.f104) (fun x=>(Zt92 fu x).trans (by rw [Zwx2 fu fu];rfl)) (Ze trivial)
abbrev E_f68:Env:=tab.env (AM.look [(100,Zwc1),(104,Zit1),(101,Zxc1),(65,Zaw),(93,Zql1)]) ⟨[(0,⟨tt [0,9,12,14,15],[]⟩)],[],[(5,⟨tt [0,1],[]⟩),(21,⟨tt [0,14],[]⟩)],⟨tt [4,5],[]⟩,[],[93,100,101],[],[]⟩
def b_f68:Code:=bd Tryz.f68
abbrev R_f68:List (Ty×List Tag):=[(k13a,[⟨0,1,0,1⟩]),(k13b,[])]
abbrev P_f68:List PK:=[.val .str, .val k13b]
abbrev K_f68:K (ResD R_f68):=fin E_f68 [.tmp 4, .tmp 5] [] R_f68
def Zxx2 (x12:ByteArray) (x13:D13e):St:=mk [(0, .dat .str x12 []),(14, .dat k13a x13 [⟨0,897,0,1⟩])] []
def Zyx2 (x7:ByteArray) (x8:D13e) (x9:D13a) (x10:D13e) (x11:Int):St:=mk [(0, .dat .str x7 []),(9, .dat k13a x8 [⟨0,577,0,1⟩]),(12, .dat k13c x9 [⟨0,769,0,1⟩]),(14, .dat k13a x10 [⟨0,897,0,1⟩]),(15, .dat k13b x11 [])] []
def Zzx2 (x1:ByteArray) (x2:Int):St:=mk [(0, .dat .str x1 []),(1, .dat k13b x2 [])] []
def Zkm1:Code:=(rgt (rgt (rgt (rgt (rgt (rgt (rgt (rgt (rgt (rgt (rgt b_f68)))))))))))
def Zy2 (m0 n:Nat):ByteArray→D13e→Option D13l:=fun x12 x13=>ej E_f68 n (.tail Zkm1) 0 (Zxx2 x12 x13) K_f68
theorem Zqh2 (m0 m1 n:Nat):Zy2 m0 (n+1)=Zq.S2:=by kernel_rfl
theorem Zu92 (m0 m1:Nat):∀ n:Nat,Zy2 m0 n=Zq.t2 n:=
  ind rfl fun n _=>Zqh2 m0 m1 n
def Zv92 (m0 m1:Nat):K (ResD R_f68):=sqK E_f68 m1 Zkm1 0 K_f68
def Zw92 (m0 m1:Nat):K (ResD R_f68):=Zaa 0 (Zv92 m0 m1)
def Zay2:Code:=(lft (lft (rgt (lft (rgt (rgt (rgt (rgt (rgt (rgt (rgt (rgt (rgt (rgt b_f68))))))))))))))
def Zz2 (m0 m1 n:Nat):ByteArray→D13e→D13a→D13e→Int→Option D13l:=fun x7 x8 x9 x10 x11=>ej E_f68 n (.loop Zay2) 0 (Zyx2 x7 x8 x9 x10 x11) (Zw92 m0 m1)
theorem Zrh2 (m0 m1 n:Nat):Zz2 m0 m1 (n+1)=Zq.S1 (Zy2 m0 m1) (Zz2 m0 m1 n):=by kernel_rfl
theorem Zx92 (m0 m1:Nat):∀ n:Nat,Zz2 m0 m1 n=Zq.l1 (Zy2 m0 m1) n:=
  ind rfl fun n e1=>(Zrh2 m0 m1 n).trans (by rw [e1];rfl)
def Zby2:Code:=(rgt (rgt (rgt b_f68)))
def Zlm1 (m0 n:Nat):ByteArray→Int→Option D13l:=fun x1 x2=>ej E_f68 n (.tail Zby2) 0 (Zzx2 x1 x2) K_f68
theorem Zsh2 (m0 n:Nat):Zlm1 m0 (n+1)=Zq.S0 (Zz2 m0 n n):=by kernel_rfl
theorem Zy92 (m0:Nat):∀ n:Nat,Zlm1 m0 n=Zq.t0 n:=
  ind rfl fun n e0=>by
    have e2:Zy2 m0 n=Zq.t2 n:=Zu92 m0 n n
    have e1:Zz2 m0 n n=Zq.l1 (Zq.t2 n) n:=by rw [← e2];exact Zx92 m0 n n
    rw [Zsh2 m0 n,e1];rfl
theorem Zzj3 (m0:Nat) (x:ArgsD P_f68):run E_f68 b_f68 m0 x K_f68=Zq.S (Zlm1 m0 m0) x.1 x.2.1:=by kernel_rfl
abbrev Zth2:AM.Spec:=AM.spec P_f68 R_f68 (fun x=>Zq x.1 x.2.1)
theorem c_f68:Zi Tryz.prog 68 Zth2:=ctrC tabOk (fn:=Tryz.f68) (fun x=>(Zzj3 fu x).trans (by rw [Zy92 fu fu];rfl)) (Ze ⟨⟨Zng2,Tryz.call100,fun _=>Zd rfl⟩,⟨⟨Zyj3,Tryz.call104,nw⟩,⟨⟨Zpg2,Tryz.call101,fun _=>Zd rfl⟩,⟨⟨c_f65,Tryz.call65,nw⟩,⟨⟨c_f93,Tryz.call93,fun _=>Zd rfl⟩,trivial⟩⟩⟩⟩⟩)
abbrev E_f34:Env:=tab.env (AM.look [(66,Zdh2),(67,Zkh2),(68,Zth2)]) ⟨[],[],[],⟨tt [6,7],[]⟩,[],[],[],[]⟩
def b_f34:Code:=bd Tryz.f34
abbrev R_f34:List (Ty×List Tag):=[(k13a,[⟨0,1,0,1⟩]),(.bool,[])]
abbrev P_f34:List PK:=[.val .str, .val k13b, .val k13b]
abbrev K_f34:K (ResD R_f34):=fin E_f34 [.tmp 6, .tmp 7] [] R_f34
abbrev Zuh2:AM.Spec:=AM.spec P_f34 R_f34 (fun x=>Zui x.1 x.2.1 x.2.2.1)
theorem c_f34:Zi Tryz.prog 34 Zuh2:=ctrC tabOk (fn:=Tryz.f34) (show ∀ x,run E_f34 b_f34 fu x K_f34=_ from fun x=>by kernel_rfl) (Ze ⟨⟨c_f66,Tryz.call66,nw⟩,⟨⟨c_f67,Tryz.call67,nw⟩,⟨⟨c_f68,Tryz.call68,nw⟩,trivial⟩⟩⟩)
abbrev E_f16:Env:=tab.env (AM.look [(31,Zwa1),(32,Zza1),(33,Zwg2),(35,Zah2),(11,Zgf2),(34,Zuh2)]) ⟨[(0,⟨tt [0,4,5,7,10,11,13],tt [4]⟩),(2,⟨tt [0,4,5,7,10,14,16],tt [4]⟩)],[],[(21,⟨tt [0,4,5,7,10],tt [4]⟩)],⟨tt [2,3],[]⟩,[],[11,31,32],[],[]⟩
def b_f16:Code:=bd Tryz.f16
abbrev R_f16:List (Ty×List Tag):=[(k13g,[⟨0,1,0,3⟩]),(k13b,[])]
abbrev P_f16:List PK:=[.val .str]
abbrev K_f16:K (ResD R_f16):=fin E_f16 [.tmp 2, .tmp 3] [] R_f16
def Zcy2 (x11 x12:ByteArray) (x13:Bool) (x14:D13u) (x15:D13p):St:=mk [(0, .dat .str x11 []),(4, .ptr 4 0 0),(5, .dat .str x12 []),(7, .dat .bool x13 []),(10, .dat k13g x14 [⟨0,641,0,3⟩])] [(4,some (.var k13j x15 []))]
def Zdy2 (x4 x5:ByteArray) (x6:Bool) (x7:D13u) (x8:D13a) (x9:Int) (x10:D13p):St:=mk [(0, .dat .str x4 []),(4, .ptr 4 0 0),(5, .dat .str x5 []),(7, .dat .bool x6 []),(10, .dat k13g x7 [⟨0,641,0,3⟩]),(11, .dat k13c x8 [⟨0,705,0,1⟩]),(13, .dat k13b x9 [])] [(4,some (.var k13j x10 []))]
def Zey2 (x19 x20:ByteArray) (x21:Bool) (x22:D13u) (x23:D13e) (x24:Int) (x25:D13p):St:=mk [(0, .dat .str x19 []),(4, .ptr 4 0 0),(5, .dat .str x20 []),(7, .dat .bool x21 []),(10, .dat k13g x22 [⟨0,641,0,3⟩]),(14, .dat k13a x23 [⟨0,897,0,1⟩]),(16, .dat k13b x24 [])] [(4,some (.var k13j x25 []))]
def Zmm1:Code:=(rgt (rgt (rgt (rgt (rgt (rgt (rgt b_f16)))))))
def Zcs (m0 n:Nat):ByteArray→ByteArray→Bool→D13u→D13p→Option D13x:=fun x11 x12 x13 x14 x15=>ej E_f16 n (.tail Zmm1) 0 (Zcy2 x11 x12 x13 x14 x15) K_f16
theorem Zvh2 (m0 n:Nat):Zcs m0 (n+1)=Zda.S1:=by kernel_rfl
theorem Zz92 (m0:Nat):∀ n:Nat,Zcs m0 n=Zda.t1 n:=
  ind rfl fun n _=>Zvh2 m0 n
def Zjt1 (m0:Nat):K (ResD R_f16):=sqK E_f16 m0 Zmm1 0 K_f16
def Zaa2 (m0:Nat):K (ResD R_f16):=Zaa 0 (Zjt1 m0)
def Zfy2:Code:=(lft (lft (rgt (rgt (rgt (lft (rgt (lft (rgt (rgt (rgt (rgt (rgt (rgt b_f16))))))))))))))
def Za3 (m0 n:Nat):ByteArray→ByteArray→Bool→D13u→D13a→Int→D13p→Option D13x:=fun x4 x5 x6 x7 x8 x9 x10=>ej E_f16 n (.loop Zfy2) 0 (Zdy2 x4 x5 x6 x7 x8 x9 x10) (Zaa2 m0)
theorem Zwh2 (m0 n:Nat):Za3 m0 (n+1)=Zda.S0 (Zcs m0 m0) (Za3 m0 n):=by kernel_rfl
theorem Zba2 (m0:Nat):∀ n:Nat,Za3 m0 n=Zda.l0 (Zcs m0 m0) n:=
  ind rfl fun n e0=>(Zwh2 m0 n).trans (by rw [e0];rfl)
def Zca2 (m0:Nat):K (ResD R_f16):=Zaa 2 (Zjt1 m0)
def Zgy2:Code:=(lft (lft (rgt (rgt (rgt (rgt (rgt (lft (rgt (rgt (rgt (rgt (rgt (rgt b_f16))))))))))))))
def Zb3 (m0 n:Nat):ByteArray→ByteArray→Bool→D13u→D13e→Int→D13p→Option D13x:=fun x19 x20 x21 x22 x23 x24 x25=>ej E_f16 n (.loop Zgy2) 2 (Zey2 x19 x20 x21 x22 x23 x24 x25) (Zca2 m0)
theorem Zxh2 (m0 n:Nat):Zb3 m0 (n+1)=Zda.S2 (Zcs m0 m0) (Zb3 m0 n):=by kernel_rfl
theorem Zda2 (m0:Nat):∀ n:Nat,Zb3 m0 n=Zda.l2 (Zcs m0 m0) n:=
  ind rfl fun n e2=>(Zxh2 m0 n).trans (by rw [e2];rfl)
theorem Zak3 (m0:Nat) (x:ArgsD P_f16):run E_f16 b_f16 m0 x K_f16=Zda.S (Za3 m0 m0) (Zb3 m0 m0) x.1:=by kernel_rfl
abbrev Zhb1:AM.Spec:=AM.spec P_f16 R_f16 (fun x=>Zda x.1)
theorem c_f16:Zi Tryz.prog 16 Zhb1:=ctrC tabOk (fn:=Tryz.f16) (show ∀ x,run E_f16 b_f16 fu x K_f16=_ from fun x=>by
  have e1:Zcs fu fu=Zda.t1 fu:=Zz92 fu fu
  have e0:Za3 fu fu=Zda.l0 (Zda.t1 fu) fu:=by rw [← e1];exact Zba2 fu fu
  have e2:Zb3 fu fu=Zda.l2 (Zda.t1 fu) fu:=by rw [← e1];exact Zda2 fu fu
  refine (Zak3 fu x).trans ?_
  rw [e0,e2];rfl) (Ze ⟨⟨c_f31,Tryz.call31,fun _=>Zd rfl⟩,⟨⟨c_f32,Tryz.call32,fun _=>Zd rfl⟩,⟨⟨c_f33,Tryz.call33,nw⟩,⟨⟨c_f35,Tryz.call35,nw⟩,⟨⟨c_f11,Tryz.call11,fun _=>Zd rfl⟩,⟨⟨c_f34,Tryz.call34,nw⟩,trivial⟩⟩⟩⟩⟩⟩)
abbrev E_f17:Env:=tab.env (AM.look [(16,Zhb1),(31,Zwa1),(32,Zza1)]) ⟨[],[],[],⟨tt [2,3],tt [2]⟩,[],[31,32],[],[]⟩
def b_f17:Code:=bd Tryz.f17
abbrev R_f17:List (Ty×List Tag):=[(k13j,[]),(k13b,[])]
abbrev P_f17:List PK:=[.val .str]
abbrev K_f17:K (ResD R_f17):=fin E_f17 [.cell 2 37, .tmp 3] [] R_f17
abbrev Zyh2:AM.Spec:=AM.spec P_f17 R_f17 (fun x=>Zwl x.1)
theorem c_f17:Zi Tryz.prog 17 Zyh2:=ctrC tabOk (fn:=Tryz.f17) (show ∀ x,run E_f17 b_f17 fu x K_f17=_ from fun x=>by kernel_rfl) (Ze ⟨⟨c_f16,Tryz.call16,nw⟩,⟨⟨c_f31,Tryz.call31,fun _=>Zd rfl⟩,⟨⟨c_f32,Tryz.call32,fun _=>Zd rfl⟩,trivial⟩⟩⟩)
abbrev E_f18:Env:=tab.env (AM.look [(30,Zba1)]) ⟨[],[],[],⟨tt [2,3,4],[]⟩,[],[],[],[]⟩
def b_f18:Code:=bd Tryz.f18
abbrev R_f18:List (Ty×List Tag):=[(.str,[]),(.str,[]),(k13b,[])]
abbrev P_f18:List PK:=[.val .str]
abbrev K_f18:K (ResD R_f18):=fin E_f18 [.tmp 2, .tmp 3, .tmp 4] [] R_f18
abbrev Zzh2:AM.Spec:=AM.spec P_f18 R_f18 (fun x=>Zxl x.1)
theorem c_f18:Zi Tryz.prog 18 Zzh2:=ctrC tabOk (fn:=Tryz.f18) (show ∀ x,run E_f18 b_f18 fu x K_f18=_ from fun x=>by kernel_rfl) (Ze ⟨⟨c_f30,Tryz.call30,nw⟩,trivial⟩)
abbrev E_f19:Env:=tab.env (AM.look [(16,Zhb1),(31,Zwa1)]) ⟨[],[],[],⟨tt [2,3,4],[]⟩,[],[31],[],[]⟩
def b_f19:Code:=bd Tryz.f19
abbrev R_f19:List (Ty×List Tag):=[(.str,[]),(.str,[]),(k13b,[])]
abbrev P_f19:List PK:=[.val .str]
abbrev K_f19:K (ResD R_f19):=fin E_f19 [.tmp 2, .tmp 3, .tmp 4] [] R_f19
abbrev Zai2:AM.Spec:=AM.spec P_f19 R_f19 (fun x=>Zyl x.1)
theorem c_f19:Zi Tryz.prog 19 Zai2:=ctrC tabOk (fn:=Tryz.f19) (show ∀ x,run E_f19 b_f19 fu x K_f19=_ from fun x=>by kernel_rfl) (Ze ⟨⟨c_f16,Tryz.call16,nw⟩,⟨⟨c_f31,Tryz.call31,fun _=>Zd rfl⟩,trivial⟩⟩)
abbrev E_f5:Env:=tab.env (AM.look [(9,sp_f9),(12,Zrk1),(16,Zhb1),(15,Zsk1),(17,Zyh2),(18,Zzh2),(19,Zai2),(13,Ztk1)]) ⟨[],[],[],⟨tt [2],[]⟩,[],[9,13,15,17,18,19],[],[]⟩
def b_f5:Code:=bd Tryz.f5
abbrev R_f5:List (Ty×List Tag):=[(.bool,[])]
abbrev P_f5:List PK:=[.val .str]
abbrev K_f5:K (ResD R_f5):=fin E_f5 [.tmp 2] [] R_f5
abbrev Zhy:AM.Spec:=AM.spec P_f5 R_f5 (fun x=>Zkn x.1)
theorem Zc3:Zi Tryz.prog 5 Zhy:=ctrC tabOk (fn:=Tryz.f5) (show ∀ x,run E_f5 b_f5 fu x K_f5=_ from fun x=>by kernel_rfl) (Ze ⟨⟨c_f9,Tryz.call9,fun _=>Zd rfl⟩,⟨⟨c_f12,Tryz.call12,nw⟩,⟨⟨c_f16,Tryz.call16,nw⟩,⟨⟨c_f15,Tryz.call15,fun _=>Zd rfl⟩,⟨⟨c_f17,Tryz.call17,fun _=>Zd rfl⟩,⟨⟨c_f18,Tryz.call18,fun _=>Zd rfl⟩,⟨⟨c_f19,Tryz.call19,fun _=>Zd rfl⟩,⟨⟨c_f13,Tryz.call13,fun _=>Zd rfl⟩,trivial⟩⟩⟩⟩⟩⟩⟩⟩)
end
end Go.Proofs.YtlamhllcnbcbbaaGreat.Am
