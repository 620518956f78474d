import Derived.Test.YtclpadlpcfnfmaaGreatAmPure18A
import Derived.Test.YtclpadlpcfnfmaaGreatSPrim
/- PRINTED by gen/ of this repo: the code comes to the pure functions. -/
namespace Go.Proofs.YtclpadlpcfnfmaaGreat.Am
open Go.AM Go.AM.Pure
set_option linter.unusedVariables false
set_option maxRecDepth 100000
noncomputable section
abbrev Cs:Ty:= .sl .str
abbrev AN:Ty:= .int .i64
abbrev A7:Ty:= .sl AN
abbrev Yf5:Ty:= .pair AN .str
abbrev Yg5:Ty:= .pair .str A7
abbrev bX:Ty:= .pair AN AN
abbrev D8:Ty:= .sl bX
abbrev Yh5:Ty:= .pair A7 A7
abbrev Gq:Ty:= .pair AN Yf5
abbrev Cx:Ty:= .sl Gq
abbrev cj:Ty:= .pair AN bX
abbrev It:Ty:= .sl cj
abbrev JK:Ty:= .pair AN Gq
abbrev T8:Ty:= .pair AN cj
abbrev Yi5:Ty:= .pair D8 Yh5
abbrev FO:Ty:= .pair JK Yg5
abbrev JL:Ty:= .pair AN Yi5
abbrev iQ:=AM.spec [.val Gq] [(.bool,[])] fun x=>some (GD x.1)
theorem Zve:AY Tryz.prog 59 iQ:=BV Bb (fn:=Tryz.f59) (lk:=(AM.look [])) (ks:=(kz [2])) (ts:=[.tmp 2]) (fun x=>(show _=GD.o x.1 from by kernel_rfl).trans (by unfold GD.o GD;simp only [KN])) (Ba trivial)
abbrev WK:=BK.env (AM.look [(59,iQ)]) ⟨[(0,⟨tt [0,1,5],[]⟩)],[],[(3,⟨tt [0,1],[]⟩)],⟨tt [4],[]⟩,[],[59],[],[]⟩
def bI:=bd Tryz.f31
abbrev lu:=fin WK [.tmp 4] [] [(.bool,[])]
def Zg7:=AU 3 bI
def Yxn (m0 m1:Nat):=Bt WK m1 Zg7 0 lu
def Yyn (m0 m1:Nat):=Bo 0 (Yxn m0 m1)
def Zh7:=Bk 2 (Bg (Bv (AU 2 bI)))
def zZ (m0 m1 n:Nat):DV.A1:=fun x3 x4 x5=>ej WK n (.loop Zh7) 0 (mk [(0, .dat Cx x3 []),(1, .dat AN x4 []),(5, .dat AN x5 [])] []) (Yyn m0 m1)
theorem Yzn (m0 m1:Nat):∀ n,zZ m0 m1 n=DV.l1 n:=BG (S:=DV.S1) fun n=>by kernel_rfl
def Zi7:=AU 2 bI
def z6 (m0 n:Nat):DV.A0:=fun x1 x2=>ej WK n (.tail Zi7) 0 (mk [(0, .dat Cx x1 []),(1, .dat AN x2 [])] []) lu
theorem Yao (m0:Nat):∀ n,z6 m0 n=DV.t0 n:=ind rfl fun n _=>(show _=DV.S0 (zZ m0 n n) from by kernel_rfl).trans (by rw [Yzn m0 n n];rfl)
abbrev z7:=AM.spec [.val Cx, .val AN] [(.bool,[])] fun x=>DV x.1 x.2.1
theorem Yw1:AY Tryz.prog 31 z7:=BR Bb (fn:=Tryz.f31) (fun m x=>show run WK bI m x lu=DV.S (z6 m m) x.1 x.2.1 from by kernel_rfl) (fun x=>by rw [Yao fu fu];rfl) (Ba ⟨⟨Zve,Tryz.call59,fun _=>A9 rfl⟩,trivial⟩)
abbrev ZQ:=BK.env (AM.look []) ⟨[(0,⟨tt [0,2,3,4],tt [2,3]⟩)],[],[],⟨tt [2],tt [2]⟩,[],[],[],[]⟩
def ja:=bd Tryz.f219
abbrev z8:=fin ZQ [.cell 2 227] [] [((.arr 63 .bool),[])]
def Zqv:=AU 3 ja
def Zj7 (m0:Nat):=Bt ZQ m0 Zqv 0 z8
def Zk7 (m0:Nat):=Bo 0 (Zj7 m0)
def Zrv:=Bk 2 (Bg (Bv (AU 2 ja)))
def vf (m0 n:Nat):F5.A0:=fun x1 x2 x3 x4=>ej ZQ n (.loop Zrv) 0 (mk [(0, .dat AN x1 []),(2, .ptr 2 0 0),(3, .ptr 3 0 0),(4, .dat AN x2 [])] [(2,some (.arr .bool x3 false)),(3,some (.arr .bool x4 false))]) (Zk7 m0)
theorem Zl7 (m0:Nat):∀ n,vf m0 n=F5.l0 n:=BG (S:=F5.S0) fun n=>by kernel_rfl
abbrev Zm:=AM.spec [.val AN] [((.arr 63 .bool),[])] fun x=>F5 x.1
theorem jc:AY Tryz.prog 219 Zm:=BR Bb (fn:=Tryz.f219) (fun m x=>show run ZQ ja m x z8=F5.S (vf m m) x.1 from by kernel_rfl) (fun x=>by rw [Zl7 fu fu];rfl) (Ba trivial)
abbrev ZR:=BK.env (AM.look [(219,Zm)]) ⟨[(0,⟨tt [3,4],tt [3]⟩)],[],[],⟨tt [2],[]⟩,[],[219],[],[]⟩
def jd:=bd Tryz.f178
abbrev Zaa:=fin ZR [.tmp 2] [] [(AN,[])]
def Zsv:=AU 3 jd
def Zm7 (m0:Nat):=Bt ZR m0 Zsv 0 Zaa
def Zn7 (m0:Nat):=Bo 0 (Zm7 m0)
def Ztv:=Bk 2 (Bg (Bv (AU 2 jd)))
def vg (m0 n:Nat):FX.A0:=fun x2 x3=>ej ZR n (.loop Ztv) 0 (mk [(3, .ptr 3 0 0),(4, .dat AN x2 [])] [(3,some (.arr .bool x3 false))]) (Zn7 m0)
theorem Zo7 (m0:Nat):∀ n,vg m0 n=FX.l0 n:=BG (S:=FX.S0) fun n=>by kernel_rfl
abbrev vh:=AM.spec [.val AN] [(AN,[])] fun x=>FX x.1
theorem Ydu:AY Tryz.prog 178 vh:=BR Bb (fn:=Tryz.f178) (fun m x=>show run ZR jd m x Zaa=FX.S (vg m m) x.1 from by kernel_rfl) (fun x=>by rw [Zo7 fu fu];rfl) (Ba ⟨⟨jc,Tryz.call219,fun _=>A9 rfl⟩,trivial⟩)
abbrev ZS:=BK.env (AM.look [(178,vh)]) ⟨[(0,⟨tt [0,3,4],[]⟩)],[],[],⟨tt [2],[]⟩,[],[178],[],[]⟩
def je:=bd Tryz.f126
abbrev Zba:=fin ZS [.tmp 2] [] [(AN,[])]
def Zuv:=AU 3 je
def Zp7 (m0:Nat):=Bt ZS m0 Zuv 0 Zba
def Zq7 (m0:Nat):=Bo 0 (Zp7 m0)
def Zvv:=Bk 2 (Bg (Bv (AU 2 je)))
def vk (m0 n:Nat):FJ.A0:=fun x1 x2 x3=>ej ZS n (.loop Zvv) 0 (mk [(0, .dat A7 x1 []),(3, .dat AN x2 []),(4, .dat AN x3 [])] []) (Zq7 m0)
theorem Zr7 (m0:Nat):∀ n,vk m0 n=FJ.l0 n:=BG (S:=FJ.S0) fun n=>by kernel_rfl
abbrev Vy:=AM.spec [.val A7] [(AN,[])] fun x=>FJ x.1
theorem ZT:AY Tryz.prog 126 Vy:=BR Bb (fn:=Tryz.f126) (fun m x=>show run ZS je m x Zba=FJ.S (vk m m) x.1 from by kernel_rfl) (fun x=>by rw [Zr7 fu fu];rfl) (Ba ⟨⟨Ydu,Tryz.call178,fun _=>A9 rfl⟩,trivial⟩)
abbrev vl:=AM.spec [.val AN, .val AN] [(AN,[])] fun x=>some (PY x.1 x.2.1)
theorem Yeu:AY Tryz.prog 127 vl:=BV Bb (fn:=Tryz.f127) (lk:=(AM.look [])) (ks:=(kz [4])) (ts:=[.tmp 4]) (fun x=>(show _=PY.o x.1 x.2.1 from by kernel_rfl).trans (by unfold PY.o PY;simp only [KN])) (Ba trivial)
abbrev R0:=BK.env (AM.look [(126,Vy),(127,vl)]) ⟨[(0,⟨tt [0,1,6,7],tt [31]⟩),(2,⟨tt [0,1,6,7,8],tt [31]⟩)],[],[],⟨tt [4,5],[]⟩,[6,31,56,59,69],[126,127],[],[]⟩
def lz:=bd Tryz.f71
abbrev Zqf:=fin R0 [.tmp 4, .tmp 5] [] [(.str,[]),(AN,[])]
def Zs7:=AU 4 lz
def Ybo (m0:Nat):=Bt R0 m0 Zs7 0 Zqf
def vm (m0:Nat):=Bo 0 (Ybo m0)
def Y6:=Bk 2 (Bg (Bv (AU 3 lz)))
def ZU (m0 n:Nat):CQ.A0:=fun x3 x4 x5 x6=>ej R0 n (.loop Y6) 0 (mk [(0, .dat A7 x3 []),(1, .dat AN x4 []),(6, .slw 31 0),(7, .dat AN x5 [])] [(31,some (.arr (.int .u8) x6 false))]) (vm m0)
def Yco (m0 m1:Nat):=KG R0 m1 Y6 0 (vm m0)
def Zt7:=AU 2 Y6
def Ydo (m0 m1:Nat):=Bt R0 m1 Zt7 0 (Yco m0 m1)
def Yeo (m0 m1:Nat):=Bo 1 (Ydo m0 m1)
def Yfo (m0 m1:Nat):=Bo 2 (Yeo m0 m1)
def Zu7:=Bk 2 (Bg (Bk 2 (Bg Y6)))
def Zca (m0 m1 n:Nat):CQ.A1:=fun x7 x8 x9 Bc BB=>ej R0 n (.loop Zu7) 2 (mk [(0, .dat A7 x7 []),(1, .dat AN x8 []),(6, .slw 31 0),(7, .dat AN x9 []),(8, .dat AN Bc [])] [(31,some (.arr (.int .u8) BB false))]) (Yfo m0 m1)
theorem Ygo (m0 m1:Nat):∀ n,Zca m0 m1 n=CQ.l1 (ZU m0 m1) n:=BG (S:=CQ.S1 (ZU m0 m1)) fun n=>by kernel_rfl
theorem Yho (m0:Nat):∀ n,ZU m0 n=CQ.l0 n:=ind rfl fun n e0=>(show _=CQ.S0 (Zca m0 n n) from by kernel_rfl).trans (by rw [Ygo m0 n n,e0];rfl)
abbrev VN:=AM.spec [.val A7, .val AN] [(.str,[]),(AN,[])] fun x=>CQ x.1 x.2.1
theorem bJ:AY Tryz.prog 71 VN:=BR Bb (fn:=Tryz.f71) (fun m x=>show run R0 lz m x Zqf=CQ.S (ZU m m) x.1 x.2.1 from by kernel_rfl) (fun x=>by rw [Yho fu fu];rfl) (Ba ⟨⟨ZT,Tryz.call126,fun _=>A9 rfl⟩,⟨⟨Yeu,Tryz.call127,fun _=>A9 rfl⟩,trivial⟩⟩)
abbrev WL:=BK.env (AM.look [(71,VN)]) ⟨[(0,⟨tt [0,4,5,6],[]⟩)],[],[(10,⟨tt [0,4,5],[]⟩)],⟨tt [2,3],[]⟩,[],[71],[],[]⟩
def lA:=bd Tryz.f32
abbrev lB:=fin WL [.tmp 2, .tmp 3] [] [(.str,[]),(Cx,[⟨0,1,0,3⟩])]
def te:=AU 4 lA
def jf (m0 n:Nat):DG.A1:=fun x5 x6 x7=>ej WL n (.tail te) 0 (mk [(0, .dat Cx x5 []),(4, .dat Cx x6 [⟨0,257,0,3⟩]),(5, .dat A7 x7 [⟨0,321,0,1⟩])] []) lB
theorem Yio (m0:Nat):∀ n,jf m0 n=DG.t1 n:=ind rfl fun n _=>by kernel_rfl
def Yjo (m0:Nat):=Bt WL m0 te 0 lB
def Yko (m0:Nat):=Bo 0 (Yjo m0)
def Zv7:=Bk 2 (Bg (Bv (AU 3 lA)))
def Zda (m0 n:Nat):DG.A0:=fun x1 x2 x3 x4=>ej WL n (.loop Zv7) 0 (mk [(0, .dat Cx x1 []),(4, .dat Cx x2 [⟨0,257,0,3⟩]),(5, .dat A7 x3 [⟨0,321,0,1⟩]),(6, .dat AN x4 [])] []) (Yko m0)
theorem Ylo (m0:Nat):∀ n,Zda m0 n=DG.l0 (jf m0 m0) n:=BG (S:=DG.S0 (jf m0 m0)) fun n=>by kernel_rfl
abbrev Zea:=AM.spec [.val Cx] [(.str,[]),(Cx,[⟨0,1,0,3⟩])] fun x=>DG x.1
theorem Yx1:AY Tryz.prog 32 Zea:=BR Bb (fn:=Tryz.f32) (fun m x=>show run WL lA m x lB=DG.S (Zda m m) x.1 from by kernel_rfl) (fun x=>by rw [Ylo fu fu,Yio fu fu];rfl) (Ba ⟨⟨bJ,Tryz.call71,fun _=>A9 rfl⟩,trivial⟩)
abbrev bK:=BK.env (AM.look []) (kq [(0,⟨tt [0,3,4],[]⟩)] [] [2])
def lC:=bd Tryz.f73
abbrev Zrf:=fin bK [.tmp 2] [] [(A7,[⟨0,1,0,1⟩])]
def Zw7:=AU 3 lC
def Ymo (m0:Nat):=Bt bK m0 Zw7 0 Zrf
def Yno (m0:Nat):=Bo 0 (Ymo m0)
def Zx7:=Bk 2 (Bg (Bv (AU 2 lC)))
def Zfa (m0 n:Nat):GC.A0:=fun x1 x2 x3=>ej bK n (.loop Zx7) 0 (mk [(0, .dat Cx x1 []),(3, .dat A7 x2 [⟨0,193,0,1⟩]),(4, .dat AN x3 [])] []) (Yno m0)
theorem Yoo (m0:Nat):∀ n,Zfa m0 n=GC.l0 n:=BG (S:=GC.S0) fun n=>by kernel_rfl
abbrev Zga:=AM.spec [.val Cx] [(A7,[⟨0,1,0,1⟩])] fun x=>GC x.1
theorem Yy1:AY Tryz.prog 73 Zga:=BR Bb (fn:=Tryz.f73) (fun m x=>show run bK lC m x Zrf=GC.S (Zfa m m) x.1 from by kernel_rfl) (fun x=>by rw [Yoo fu fu];rfl) (Ba trivial)
abbrev RF:=BK.env (AM.look []) (kq [(0,⟨tt [0,3,4],[]⟩),(2,⟨tt [0,3,4,5],[]⟩)] [] [2])
def jg:=bd Tryz.f128
abbrev Zha:=fin RF [.tmp 2] [] [(.str,[])]
def Zwv:=AU 3 jg
def Zy7 (m0:Nat):=Bt RF m0 Zwv 0 Zha
def tf (m0:Nat):=Bo 0 (Zy7 m0)
def YM:=Bk 2 (Bg (Bv (AU 2 jg)))
def Zn (m0 n:Nat):Dg.A0:=fun x1 x2 x3=>ej RF n (.loop YM) 0 (mk [(0, .dat A7 x1 []),(3, .dat (.sl (.int .u8)) x2 [⟨0,193,0,0⟩]),(4, .dat AN x3 [])] []) (tf m0)
def Zz7 (m0 m1:Nat):=KG RF m1 YM 0 (tf m0)
def Zxv:=AU 2 YM
def Za8 (m0 m1:Nat):=Bt RF m1 Zxv 0 (Zz7 m0 m1)
def Zb8 (m0 m1:Nat):=Bo 1 (Za8 m0 m1)
def Zc8 (m0 m1:Nat):=Bo 2 (Zb8 m0 m1)
def Zyv:=Bk 2 (Bg (Bk 2 (Bg YM)))
def vn (m0 m1 n:Nat):Dg.A1:=fun x4 x5 x6 x7=>ej RF n (.loop Zyv) 2 (mk [(0, .dat A7 x4 []),(3, .dat (.sl (.int .u8)) x5 [⟨0,193,0,0⟩]),(4, .dat AN x6 []),(5, .dat AN x7 [])] []) (Zc8 m0 m1)
theorem Zd8 (m0 m1:Nat):∀ n,vn m0 m1 n=Dg.l1 (Zn m0 m1) n:=BG (S:=Dg.S1 (Zn m0 m1)) fun n=>by kernel_rfl
theorem Ze8 (m0:Nat):∀ n,Zn m0 n=Dg.l0 n:=ind rfl fun n e0=>(show _=Dg.S0 (vn m0 n n) from by kernel_rfl).trans (by rw [Zd8 m0 n n,e0];rfl)
abbrev vo:=AM.spec [.val A7] [(.str,[])] fun x=>Dg x.1
theorem Yfu:AY Tryz.prog 128 vo:=BR Bb (fn:=Tryz.f128) (fun m x=>show run RF jg m x Zha=Dg.S (Zn m m) x.1 from by kernel_rfl) (fun x=>by rw [Ze8 fu fu];rfl) (Ba trivial)
abbrev ZV:=BK.env (AM.look []) ⟨[(0,⟨tt [0,3,4],tt [3]⟩)],[],[],⟨tt [2],tt [3]⟩,[2,3,30,31,40,48,49],[],[],[]⟩
def jh:=bd Tryz.f130
abbrev Zia:=fin ZV [.tmp 2] [] [(It,[])]
def Zzv:=AU 3 jh
def Zf8 (m0:Nat):=Bt ZV m0 Zzv 0 Zia
def Zg8 (m0:Nat):=Bo 0 (Zf8 m0)
def Zaw:=Bk 2 (Bg (Bv (AU 2 jh)))
def vp (m0 n:Nat):F6.A0:=fun x1 x2 x3=>ej ZV n (.loop Zaw) 0 (mk [(0, .dat A7 x1 []),(3, .slw 3 0),(4, .dat AN x2 [])] [(3,some (.arr cj x3 false))]) (Zg8 m0)
theorem Zh8 (m0:Nat):∀ n,vp m0 n=F6.l0 n:=BG (S:=F6.S0) fun n=>by kernel_rfl
abbrev gr:=AM.spec [.val A7] [(It,[])] fun x=>F6 x.1
theorem Zja:AY Tryz.prog 130 gr:=BR Bb (fn:=Tryz.f130) (fun m x=>show run ZV jh m x Zia=F6.S (vp m m) x.1 from by kernel_rfl) (fun x=>by rw [Zh8 fu fu];rfl) (Ba trivial)
abbrev ZW:=BK.env (AM.look []) (kq [(0,⟨tt [0,3,4],[]⟩)] [] [2])
def ji:=bd Tryz.f163
abbrev Zka:=fin ZW [.tmp 2] [] [(.bool,[])]
def Zbw:=AU 3 ji
def Zi8 (m0:Nat):=Bt ZW m0 Zbw 0 Zka
def Zj8 (m0:Nat):=Bo 0 (Zi8 m0)
def Zcw:=Bk 2 (Bg (Bv (AU 2 ji)))
def vq (m0 n:Nat):GF.A0:=fun x1 x2 x3=>ej ZW n (.loop Zcw) 0 (mk [(0, .dat It x1 []),(3, .dat AN x2 []),(4, .dat AN x3 [])] []) (Zj8 m0)
theorem Zk8 (m0:Nat):∀ n,vq m0 n=GF.l0 n:=BG (S:=GF.S0) fun n=>by kernel_rfl
abbrev vr:=AM.spec [.val It] [(.bool,[])] fun x=>GF x.1
theorem Ygu:AY Tryz.prog 163 vr:=BR Bb (fn:=Tryz.f163) (fun m x=>show run ZW ji m x Zka=GF.S (vq m m) x.1 from by kernel_rfl) (fun x=>by rw [Zk8 fu fu];rfl) (Ba trivial)
abbrev ZX:=BK.env (AM.look []) (kq [(0,⟨tt [1,3,4],tt [1]⟩)] [] [2])
def jj:=bd Tryz.f220
abbrev Zla:=fin ZX [.tmp 2] [] [(AN,[])]
def Zdw:=AU 3 jj
def Zl8 (m0:Nat):=Bt ZX m0 Zdw 0 Zla
def Zm8 (m0:Nat):=Bo 0 (Zl8 m0)
def Zew:=Bk 2 (Bg (Bv (AU 2 jj)))
def vt (m0 n:Nat):En.A0:=fun x1 x2 x3=>ej ZX n (.loop Zew) 0 (mk [(1, .ptr 1 0 0),(3, .dat AN x1 []),(4, .dat AN x2 [])] [(1,some (.arr .bool x3 false))]) (Zm8 m0)
theorem Zn8 (m0:Nat):∀ n,vt m0 n=En.l0 n:=BG (S:=En.S0) fun n=>by kernel_rfl
abbrev gv:=AM.spec [.val (.arr 63 .bool)] [(AN,[])] fun x=>En x.1
theorem Zma:AY Tryz.prog 220 gv:=BR Bb (fn:=Tryz.f220) (fun m x=>show run ZX jj m x Zla=En.S (vt m m) x.1 from by kernel_rfl) (fun x=>by rw [Zn8 fu fu];rfl) (Ba trivial)
abbrev ZY:=BK.env (AM.look [(219,Zm),(220,gv)]) ⟨[(0,⟨tt [3,4,5],tt [3,4]⟩)],[],[],⟨tt [2],[]⟩,[],[219,220],[],[]⟩
def jk:=bd Tryz.f183
abbrev Zna:=fin ZY [.tmp 2] [] [(AN,[])]
def Zfw:=AU 5 jk
def Zo8 (m0:Nat):=Bt ZY m0 Zfw 0 Zna
def Zp8 (m0:Nat):=Bo 0 (Zo8 m0)
def Zgw:=Bk 2 (Bg (Bv (AU 4 jk)))
def vu (m0 n:Nat):GH.A0:=fun x2 x3 x4=>ej ZY n (.loop Zgw) 0 (mk [(3, .ptr 3 0 0),(4, .ptr 4 0 0),(5, .dat AN x2 [])] [(3,some (.arr .bool x3 false)),(4,some (.arr .bool x4 false))]) (Zp8 m0)
theorem Zq8 (m0:Nat):∀ n,vu m0 n=GH.l0 n:=BG (S:=GH.S0) fun n=>by kernel_rfl
abbrev vw:=AM.spec [.val AN] [(AN,[])] fun x=>GH x.1
theorem Yhu:AY Tryz.prog 183 vw:=BR Bb (fn:=Tryz.f183) (fun m x=>show run ZY jk m x Zna=GH.S (vu m m) x.1 from by kernel_rfl) (fun x=>by rw [Zq8 fu fu];rfl) (Ba ⟨⟨jc,Tryz.call219,fun _=>A9 rfl⟩,⟨⟨Zma,Tryz.call220,fun _=>A9 rfl⟩,trivial⟩⟩)
abbrev ZZ:=BK.env (AM.look [(219,Zm),(220,gv)]) ⟨[(0,⟨tt [1,2,7,8,9],tt [7,8]⟩)],[],[],⟨tt [6],[]⟩,[],[219,220],[],[]⟩
def jl:=bd Tryz.f184
abbrev Zoa:=fin ZZ [.tmp 6] [] [(AN,[])]
def Zhw:=AU 4 jl
def Zr8 (m0:Nat):=Bt ZZ m0 Zhw 0 Zoa
def Zs8 (m0:Nat):=Bo 0 (Zr8 m0)
def Ziw:=Bk 2 (Bg (Bv (AU 3 jl)))
def vx (m0 n:Nat):FK.A0:=fun x2 x3 x4 x5 x6=>ej ZZ n (.loop Ziw) 0 (mk [(1, .dat AN x2 []),(2, .dat AN x3 []),(7, .ptr 7 0 0),(8, .ptr 8 0 0),(9, .dat AN x4 [])] [(7,some (.arr .bool x5 false)),(8,some (.arr .bool x6 false))]) (Zs8 m0)
theorem Zt8 (m0:Nat):∀ n,vx m0 n=FK.l0 n:=BG (S:=FK.S0) fun n=>by kernel_rfl
abbrev vy:=AM.spec [.val AN, .val AN, .val AN] [(AN,[])] fun x=>FK x.1 x.2.1 x.2.2.1
theorem Yiu:AY Tryz.prog 184 vy:=BR Bb (fn:=Tryz.f184) (fun m x=>show run ZZ jl m x Zoa=FK.S (vx m m) x.1 x.2.1 x.2.2.1 from by kernel_rfl) (fun x=>by rw [Zt8 fu fu];rfl) (Ba ⟨⟨jc,Tryz.call219,fun _=>A9 rfl⟩,⟨⟨Zma,Tryz.call220,fun _=>A9 rfl⟩,trivial⟩⟩)
abbrev jm:=BK.env (AM.look [(183,vw),(184,vy)]) ⟨[(0,⟨tt [3,4],[]⟩)],[],[],⟨tt [2],[]⟩,[],[183,184],[],[]⟩
def Zpa:=bd Tryz.f135
abbrev Zqa:=fin jm [.tmp 2] [] [(.str,[])]
def Zu8 (m0:Nat):=Bo 0 Zqa
def Zjw:=Bk 2 (AU 3 Zpa)
def vz (m0 n:Nat):E5.A0:=fun x2 x3=>ej jm n (.loop Zjw) 0 (mk [(3, .dat AN x2 []),(4, .dat (.sl (.int .u8)) x3 [⟨0,257,0,0⟩])] []) (Zu8 m0)
theorem Zv8 (m0:Nat):∀ n,vz m0 n=E5.l0 n:=BG (S:=E5.S0) fun n=>by kernel_rfl
abbrev Tw:=AM.spec [.val AN] [(.str,[])] fun x=>E5 x.1
theorem VO:AY Tryz.prog 135 Tw:=BR Bb (fn:=Tryz.f135) (fun m x=>show run jm Zpa m x Zqa=E5.S (vz m m) x.1 from by kernel_rfl) (fun x=>by rw [Zv8 fu fu];rfl) (Ba ⟨⟨Yhu,Tryz.call183,fun _=>A9 rfl⟩,⟨⟨Yiu,Tryz.call184,fun _=>A9 rfl⟩,trivial⟩⟩)
abbrev Z0:=BK.env (AM.look [(163,vr),(135,Tw)]) ⟨[(0,⟨tt [0,4,5],[]⟩)],[],[],⟨tt [2,3],[]⟩,[],[135,163],[],[]⟩
def jn:=bd Tryz.f129
abbrev Zra:=fin Z0 [.tmp 2, .tmp 3] [] [(.str,[]),(AN,[])]
def Zkw:=AU 4 jn
def Zw8 (m0:Nat):=Bt Z0 m0 Zkw 0 Zra
def Zx8 (m0:Nat):=Bo 0 (Zw8 m0)
def Zlw:=Bk 2 (Bg (Bv (AU 3 jn)))
def vA (m0 n:Nat):Fy.A0:=fun x2 x3 x4=>ej Z0 n (.loop Zlw) 0 (mk [(0, .dat It x2 []),(4, .dat .str x3 []),(5, .dat AN x4 [])] []) (Zx8 m0)
theorem Zy8 (m0:Nat):∀ n,vA m0 n=Fy.l0 n:=BG (S:=Fy.S0) fun n=>by kernel_rfl
abbrev gw:=AM.spec [.val It] [(.str,[]),(AN,[])] fun x=>Fy x.1
theorem Zsa:AY Tryz.prog 129 gw:=BR Bb (fn:=Tryz.f129) (fun m x=>show run Z0 jn m x Zra=Fy.S (vA m m) x.1 from by kernel_rfl) (fun x=>by rw [Zy8 fu fu];rfl) (Ba ⟨⟨Ygu,Tryz.call163,fun _=>A9 rfl⟩,⟨⟨VO,Tryz.call135,fun _=>A9 rfl⟩,trivial⟩⟩)
abbrev Z1:=BK.env (AM.look []) ⟨[(0,⟨tt [0,3,4],[]⟩)],[],[],⟨tt [2],[]⟩,[],[],[],[22]⟩
def jo:=bd Tryz.f179
abbrev Zta:=fin Z1 [.tmp 2] [] [(A7,[⟨0,1,0,1⟩])]
def Zmw:=AU 3 jo
def Zz8 (m0:Nat):=Bt Z1 m0 Zmw 0 Zta
def Za9 (m0:Nat):=Bo 0 (Zz8 m0)
def Znw:=Bk 2 (Bg (Bv (AU 2 jo)))
def vC (m0 n:Nat):GA.A0:=fun x1 x2 x3=>ej Z1 n (.loop Znw) 0 (mk [(0, .dat A7 x1 []),(3, .dat A7 x2 [⟨0,193,0,1⟩]),(4, .dat AN x3 [])] []) (Za9 m0)
theorem Zb9 (m0:Nat):∀ n,vC m0 n=GA.l0 n:=BG (S:=GA.S0) fun n=>by kernel_rfl
abbrev vD:=AM.spec [.val A7] [(A7,[⟨0,1,0,1⟩])] fun x=>GA x.1
theorem Yju:AY Tryz.prog 179 vD:=BR Bb (fn:=Tryz.f179) (fun m x=>show run Z1 jo m x Zta=GA.S (vC m m) x.1 from by kernel_rfl) (fun x=>by rw [Zb9 fu fu];rfl) (Ba trivial)
abbrev Z2:=BK.env (AM.look []) (kq [(0,⟨tt [0,3,4],[]⟩)] [] [2])
def jq:=bd Tryz.f180
abbrev Zua:=fin Z2 [.tmp 2] [] [(AN,[])]
def Zow:=AU 3 jq
def Zc9 (m0:Nat):=Bt Z2 m0 Zow 0 Zua
def Zd9 (m0:Nat):=Bo 0 (Zc9 m0)
def Zpw:=Bk 2 (Bg (Bv (AU 2 jq)))
def vE (m0 n:Nat):FL.A0:=fun x1 x2 x3=>ej Z2 n (.loop Zpw) 0 (mk [(0, .dat A7 x1 []),(3, .dat AN x2 []),(4, .dat AN x3 [])] []) (Zd9 m0)
theorem Ze9 (m0:Nat):∀ n,vE m0 n=FL.l0 n:=BG (S:=FL.S0) fun n=>by kernel_rfl
abbrev vF:=AM.spec [.val A7] [(AN,[])] fun x=>FL x.1
theorem Yku:AY Tryz.prog 180 vF:=BR Bb (fn:=Tryz.f180) (fun m x=>show run Z2 jq m x Zua=FL.S (vE m m) x.1 from by kernel_rfl) (fun x=>by rw [Ze9 fu fu];rfl) (Ba trivial)
abbrev VP:=BK.env (AM.look [(135,Tw),(179,vD),(180,vF),(126,Vy),(71,VN)]) ⟨[(0,⟨tt [4,5,6,7,8],[]⟩)],[],[(15,⟨tt [4,6,7],[]⟩)],⟨tt [2,3],[]⟩,[],[71,126,135,180],[],[59]⟩
def jr:=bd Tryz.f131
abbrev js:=fin VP [.tmp 2, .tmp 3] [] [(.str,[]),(AN,[])]
def qW:=AU 9 jr
def gx (m0 n:Nat):Dl.A1:=fun x9 Bc BB=>ej VP n (.tail qW) 0 (mk [(4, .dat .str x9 []),(6, .dat AN Bc []),(7, .dat A7 BB [⟨0,449,0,1⟩])] []) js
theorem Zf9 (m0:Nat):∀ n,gx m0 n=Dl.t1 n:=ind rfl fun n _=>by kernel_rfl
def Zg9 (m0:Nat):=Bt VP m0 qW 0 js
def Zh9 (m0:Nat):=Bo 0 (Zg9 m0)
def Zqw:=Bk 2 (Bg (Bv (AU 8 jr)))
def vG (m0 n:Nat):Dl.A0:=fun x4 x5 x6 x7 x8=>ej VP n (.loop Zqw) 0 (mk [(4, .dat .str x4 []),(5, .dat A7 x5 [⟨0,321,0,1⟩]),(6, .dat AN x6 []),(7, .dat A7 x7 [⟨0,449,0,1⟩]),(8, .dat AN x8 [])] []) (Zh9 m0)
theorem Zi9 (m0:Nat):∀ n,vG m0 n=Dl.l0 (gx m0 m0) n:=BG (S:=Dl.S0 (gx m0 m0)) fun n=>by kernel_rfl
abbrev vH:=AM.spec [.val A7] [(.str,[]),(AN,[])] fun x=>Dl x.1
theorem Ylu:AY Tryz.prog 131 vH:=BR Bb (fn:=Tryz.f131) (fun m x=>show run VP jr m x js=Dl.S (vG m m) x.1 from by kernel_rfl) (fun x=>by rw [Zi9 fu fu,Zf9 fu fu];rfl) (Ba ⟨⟨VO,Tryz.call135,fun _=>A9 rfl⟩,⟨⟨Yju,Tryz.call179,nw⟩,⟨⟨Yku,Tryz.call180,fun _=>A9 rfl⟩,⟨⟨ZT,Tryz.call126,fun _=>A9 rfl⟩,⟨⟨bJ,Tryz.call71,fun _=>A9 rfl⟩,trivial⟩⟩⟩⟩⟩)
abbrev JC:=BK.env (AM.look []) (kq [(0,⟨tt [0,4,5,6],[]⟩),(2,⟨tt [0,4,5,6,7],[]⟩),(4,⟨tt [0,4,5,9],[]⟩),(6,⟨tt [0,4,5,9,10],[]⟩)] [(8,⟨tt [0,4,5,6,7],[]⟩),(9,⟨tt [0,4,5,6,7],[]⟩),(13,⟨tt [0,4,5],[]⟩)] [2,3])
def VQ:=bd Tryz.f181
abbrev Z3:=fin JC [.tmp 2, .tmp 3] [] [(A7,[⟨0,1,0,1⟩]),(A7,[⟨0,1,0,1⟩])]
def Zrw:=AU 4 VQ
def Zj9 (m0 m1:Nat):=Bt JC m1 Zrw 0 Z3
def tg (m0 m1:Nat):=Bo 4 (Zj9 m0 m1)
def Va:=Bk 2 (Bg (Bv (AU 3 VQ)))
def Zo (m0 m1 n:Nat):Bn.A5:=fun Hn IU IV IW=>ej JC n (.loop Va) 4 (mk [(0, .dat A7 Hn []),(4, .dat A7 IU [⟨0,257,0,1⟩]),(5, .dat A7 IV [⟨0,321,0,1⟩]),(9, .dat AN IW [])] []) (tg m0 m1)
def Zk9 (m0 m1 m2:Nat):=KG JC m2 Va 4 (tg m0 m1)
def Zsw:=AU 2 Va
def Zl9 (m0 m1 m2:Nat):=Bt JC m2 Zsw 4 (Zk9 m0 m1 m2)
def Zm9 (m0 m1 m2:Nat):=Bo 5 (Zl9 m0 m1 m2)
def Ztw:=AU 2 (Bk 2 (Bg Va))
def Zn9 (m0 m1 m2:Nat):=Bt JC m2 Ztw 5 (Zm9 m0 m1 m2)
def Zo9 (m0 m1 m2:Nat):=Bo 6 (Zn9 m0 m1 m2)
def Zuw:=Bk 3 (Bg (Bk 2 (Bg Va)))
def vI (m0 m1 m2 n:Nat):Bn.A6:=fun IX KC LY KD KE=>ej JC n (.loop Zuw) 6 (mk [(0, .dat A7 IX []),(4, .dat A7 KC [⟨0,257,0,1⟩]),(5, .dat A7 LY [⟨0,321,0,1⟩]),(9, .dat AN KD []),(10, .dat AN KE [])] []) (Zo9 m0 m1 m2)
theorem Zp9 (m0 m1 m2:Nat):∀ n,vI m0 m1 m2 n=Bn.l6 (Zo m0 m1 m2) n:=BG (S:=Bn.S6 (Zo m0 m1 m2)) fun n=>by kernel_rfl
theorem Zq9 (m0 m1:Nat):∀ n,Zo m0 m1 n=Bn.l5 n:=ind rfl fun n e5=>(show _=Bn.S5 (vI m0 m1 n n) from by kernel_rfl).trans (by rw [Zp9 m0 m1 n n,e5];rfl)
def qX:=AU 3 VQ
def gy (m0 n:Nat):Bn.A4:=fun DJ Ef EN=>ej JC n (.tail qX) 0 (mk [(0, .dat A7 DJ []),(4, .dat A7 Ef [⟨0,257,0,1⟩]),(5, .dat A7 EN [⟨0,321,0,1⟩])] []) Z3
theorem Zr9 (m0:Nat):∀ n,gy m0 n=Bn.t4 n:=ind rfl fun n _=>(show _=Bn.S4 (Zo m0 n n) from by kernel_rfl).trans (by rw [Zq9 m0 n n];rfl)
def Zs9 (m0:Nat):=Bt JC m0 qX 0 Z3
def ti (m0:Nat):=Bo 0 (Zs9 m0)
def S8:=Bk 2 (Bg (Bv (AU 2 VQ)))
def Vz (m0 n:Nat):Bn.A0:=fun x1 x2 x3 x4=>ej JC n (.loop S8) 0 (mk [(0, .dat A7 x1 []),(4, .dat A7 x2 [⟨0,257,0,1⟩]),(5, .dat A7 x3 [⟨0,321,0,1⟩]),(6, .dat AN x4 [])] []) (ti m0)
def Zvw (m0 m1:Nat):=KG JC m1 S8 0 (ti m0)
def Zww:=AU 2 S8
def Zxw (m0 m1:Nat):=Bt JC m1 Zww 0 (Zvw m0 m1)
def eY (m0 m1:Nat):=Bo 1 (Zxw m0 m1)
def Zyw:=AU 3 (Bk 2 (Bg S8))
def vJ (m0 m1 n:Nat):Bn.A3:=fun Ck B6 Di DZ CW=>ej JC n (.tail Zyw) 1 (mk [(0, .dat A7 Ck []),(4, .dat A7 B6 [⟨0,257,0,1⟩]),(5, .dat A7 Di [⟨0,321,0,1⟩]),(6, .dat AN DZ []),(7, .dat AN CW [])] []) (eY m0 m1)
theorem Zt9 (m0 m1 m2:Nat):∀ n,vJ m0 m1 n=Bn.t3 (Vz m0 m1) n:=ind rfl fun n _=>by kernel_rfl
def pW:=AU 2 (Bk 2 (Bg S8))
def gz (m0 m1 n:Nat):Bn.A2:=fun Bc BB BQ BC BS=>ej JC n (.tail pW) 1 (mk [(0, .dat A7 Bc []),(4, .dat A7 BB [⟨0,257,0,1⟩]),(5, .dat A7 BQ [⟨0,321,0,1⟩]),(6, .dat AN BC []),(7, .dat AN BS [])] []) (eY m0 m1)
theorem Zu9 (m0 m1:Nat):∀ n,gz m0 m1 n=Bn.t2 (Vz m0 m1) n:=ind rfl fun n _=>(show _=Bn.S2 (Vz m0 m1) (vJ m0 m1 n) from by kernel_rfl).trans (by rw [Zt9 m0 m1 n n];rfl)
def Zzw (m0 m1:Nat):=Bt JC m1 pW 1 (eY m0 m1)
def Zax (m0 m1:Nat):=Bo 2 (Zzw m0 m1)
def Zcr:=Bk 3 (Bg (Bk 2 (Bg S8)))
def vK (m0 m1 n:Nat):Bn.A1:=fun x5 x6 x7 x8 x9=>ej JC n (.loop Zcr) 2 (mk [(0, .dat A7 x5 []),(4, .dat A7 x6 [⟨0,257,0,1⟩]),(5, .dat A7 x7 [⟨0,321,0,1⟩]),(6, .dat AN x8 []),(7, .dat AN x9 [])] []) (Zax m0 m1)
theorem Zv9 (m0 m1:Nat):∀ n,vK m0 m1 n=Bn.l1 (gz m0 m1 m1) n:=BG (S:=Bn.S1 (gz m0 m1 m1)) fun n=>by kernel_rfl
theorem Zw9 (m0:Nat):∀ n,Vz m0 n=Bn.l0 (gy m0 m0) n:=ind rfl fun n e0=>(show _=Bn.S0 (gy m0 m0) (vK m0 n n) from by kernel_rfl).trans (by rw [Zv9 m0 n n,Zu9 m0 n n,e0];rfl)
abbrev vL:=AM.spec [.val A7] [(A7,[⟨0,1,0,1⟩]),(A7,[⟨0,1,0,1⟩])] fun x=>Bn x.1
theorem Ymu:AY Tryz.prog 181 vL:=BR Bb (fn:=Tryz.f181) (fun m x=>show run JC VQ m x Z3=Bn.S (Vz m m) x.1 from by kernel_rfl) (fun x=>by rw [Zw9 fu fu,Zr9 fu fu];rfl) (Ba trivial)
abbrev gA:=AM.spec [.val A7] [(.str,[])] fun x=>UH x.1
theorem Zva:AY Tryz.prog 182 gA:=BV Bb (fn:=Tryz.f182) (lk:=(AM.look [(126,Vy),(71,VN)])) (ks:=⟨[],[],[],⟨tt [2],[]⟩,[],[71,126],[],[]⟩) (ts:=[.tmp 2]) (fun _=>by kernel_rfl) (Ba ⟨⟨ZT,Tryz.call126,fun _=>A9 rfl⟩,⟨⟨bJ,Tryz.call71,fun _=>A9 rfl⟩,trivial⟩⟩)
abbrev VR:=BK.env (AM.look [(181,vL),(135,Tw),(182,gA)]) ⟨[(0,⟨tt [4,5,6,7],[]⟩)],[],[(11,⟨tt [5,6],[]⟩)],⟨tt [2,3],[]⟩,[],[135,182],[],[]⟩
def jt:=bd Tryz.f132
abbrev ju:=fin VR [.tmp 2, .tmp 3] [] [(.str,[]),(AN,[])]
def qY:=AU 6 jt
def gB (m0 n:Nat):DA.A1:=fun x8 x9=>ej VR n (.tail qY) 0 (mk [(5, .dat A7 x8 [⟨0,321,0,1⟩]),(6, .dat .str x9 [])] []) ju
theorem Zx9 (m0:Nat):∀ n,gB m0 n=DA.t1 n:=ind rfl fun n _=>by kernel_rfl
def Zy9 (m0:Nat):=Bt VR m0 qY 0 ju
def Zz9 (m0:Nat):=Bo 0 (Zy9 m0)
def Zbx:=Bk 2 (Bg (Bv (AU 5 jt)))
def vM (m0 n:Nat):DA.A0:=fun x3 x4 x5 x6=>ej VR n (.loop Zbx) 0 (mk [(4, .dat A7 x3 [⟨0,257,0,1⟩]),(5, .dat A7 x4 [⟨0,321,0,1⟩]),(6, .dat .str x5 []),(7, .dat AN x6 [])] []) (Zz9 m0)
theorem Yaa (m0:Nat):∀ n,vM m0 n=DA.l0 (gB m0 m0) n:=BG (S:=DA.S0 (gB m0 m0)) fun n=>by kernel_rfl
abbrev vN:=AM.spec [.val A7] [(.str,[]),(AN,[])] fun x=>DA x.1
theorem Ynu:AY Tryz.prog 132 vN:=BR Bb (fn:=Tryz.f132) (fun m x=>show run VR jt m x ju=DA.S (vM m m) x.1 from by kernel_rfl) (fun x=>by rw [Yaa fu fu,Zx9 fu fu];rfl) (Ba ⟨⟨Ymu,Tryz.call181,nw⟩,⟨⟨VO,Tryz.call135,fun _=>A9 rfl⟩,⟨⟨Zva,Tryz.call182,fun _=>A9 rfl⟩,trivial⟩⟩⟩)
abbrev Zwa:=AM.spec [.val A7, .val AN] [(.str,[]),(.bool,[])] fun x=>X2 x.1 x.2.1
theorem Yz1:AY Tryz.prog 72 Zwa:=BV Bb (fn:=Tryz.f72) (lk:=(AM.look [(128,vo),(130,gr),(129,gw),(131,vH),(132,vN),(126,Vy),(71,VN)])) (ks:=⟨[],[],[],⟨tt [4,5],[]⟩,[],[71,126,128,129,131,132],[],[]⟩) (ts:=[.tmp 4, .tmp 5]) (fun _=>by kernel_rfl) (Ba ⟨⟨Yfu,Tryz.call128,fun _=>A9 rfl⟩,⟨⟨Zja,Tryz.call130,nw⟩,⟨⟨Zsa,Tryz.call129,fun _=>A9 rfl⟩,⟨⟨Ylu,Tryz.call131,fun _=>A9 rfl⟩,⟨⟨Ynu,Tryz.call132,fun _=>A9 rfl⟩,⟨⟨ZT,Tryz.call126,fun _=>A9 rfl⟩,⟨⟨bJ,Tryz.call71,fun _=>A9 rfl⟩,trivial⟩⟩⟩⟩⟩⟩⟩)
abbrev bL:=BK.env (AM.look []) (kq [(0,⟨tt [0,3,4],[]⟩)] [] [2])
def lD:=bd Tryz.f75
abbrev Zsf:=fin bL [.tmp 2] [] [(Cs,[⟨0,1,0,1⟩])]
def Yba:=AU 3 lD
def Ypo (m0:Nat):=Bt bL m0 Yba 0 Zsf
def Yqo (m0:Nat):=Bo 0 (Ypo m0)
def Yca:=Bk 2 (Bg (Bv (AU 2 lD)))
def Zxa (m0 n:Nat):GB.A0:=fun x1 x2 x3=>ej bL n (.loop Yca) 0 (mk [(0, .dat Cx x1 []),(3, .dat Cs x2 [⟨0,193,0,1⟩]),(4, .dat AN x3 [])] []) (Yqo m0)
theorem Yro (m0:Nat):∀ n,Zxa m0 n=GB.l0 n:=BG (S:=GB.S0) fun n=>by kernel_rfl
abbrev Zya:=AM.spec [.val Cx] [(Cs,[⟨0,1,0,1⟩])] fun x=>GB x.1
theorem Ya2:AY Tryz.prog 75 Zya:=BR Bb (fn:=Tryz.f75) (fun m x=>show run bL lD m x Zsf=GB.S (Zxa m m) x.1 from by kernel_rfl) (fun x=>by rw [Yro fu fu];rfl) (Ba trivial)
abbrev Z4:=BK.env (AM.look []) (kq [(0,⟨tt [0,4,5],[]⟩)] [] [2,3])
def jv:=bd Tryz.f133
abbrev Zza:=fin Z4 [.tmp 2, .tmp 3] [] [(.str,[]),(AN,[])]
def Zcx:=AU 3 jv
def Yda (m0:Nat):=Bt Z4 m0 Zcx 0 Zza
def Yea (m0:Nat):=Bo 0 (Yda m0)
def Zdx:=Bk 2 (Bg (Bv (AU 2 jv)))
def vO (m0 n:Nat):FV.A0:=fun x1 x2 x3=>ej Z4 n (.loop Zdx) 0 (mk [(0, .dat Cs x1 []),(4, .dat (.sl (.int .u8)) x2 [⟨0,257,0,0⟩]),(5, .dat AN x3 [])] []) (Yea m0)
theorem Yfa (m0:Nat):∀ n,vO m0 n=FV.l0 n:=BG (S:=FV.S0) fun n=>by kernel_rfl
abbrev gC:=AM.spec [.val Cs] [(.str,[]),(AN,[])] fun x=>FV x.1
theorem Zab:AY Tryz.prog 133 gC:=BR Bb (fn:=Tryz.f133) (fun m x=>show run Z4 jv m x Zza=FV.S (vO m m) x.1 from by kernel_rfl) (fun x=>by rw [Yfa fu fu];rfl) (Ba trivial)
abbrev JD:=BK.env (AM.look []) (kq [(0,⟨tt [0,4,5,6],[]⟩),(2,⟨tt [0,4,5,6,7],[]⟩),(4,⟨tt [0,4,5,9],[]⟩),(6,⟨tt [0,4,5,9,10],[]⟩)] [(9,⟨tt [0,4,5,6,7],[]⟩),(10,⟨tt [0,4,5,6,7],[]⟩),(14,⟨tt [0,4,5],[]⟩)] [2,3])
def VS:=bd Tryz.f134
abbrev Z5:=fin JD [.tmp 2, .tmp 3] [] [(Cs,[⟨0,1,0,1⟩]),(A7,[⟨0,1,0,1⟩])]
def Zex:=AU 5 VS
def Yga (m0 m1:Nat):=Bt JD m1 Zex 0 Z5
def tj (m0 m1:Nat):=Bo 4 (Yga m0 m1)
def Vb:=Bk 2 (Bg (Bv (AU 4 VS)))
def Zp (m0 m1 n:Nat):Bm.A5:=fun Hn IU IV IW=>ej JD n (.loop Vb) 4 (mk [(0, .dat Cs Hn []),(4, .dat Cs IU [⟨0,257,0,1⟩]),(5, .dat A7 IV [⟨0,321,0,1⟩]),(9, .dat AN IW [])] []) (tj m0 m1)
def Yha (m0 m1 m2:Nat):=KG JD m2 Vb 4 (tj m0 m1)
def Zfx:=AU 2 Vb
def Yia (m0 m1 m2:Nat):=Bt JD m2 Zfx 4 (Yha m0 m1 m2)
def Yja (m0 m1 m2:Nat):=Bo 5 (Yia m0 m1 m2)
def Zgx:=AU 2 (Bk 2 (Bg Vb))
def Yka (m0 m1 m2:Nat):=Bt JD m2 Zgx 5 (Yja m0 m1 m2)
def Yla (m0 m1 m2:Nat):=Bo 6 (Yka m0 m1 m2)
def Zhx:=Bk 3 (Bg (Bk 2 (Bg Vb)))
def vP (m0 m1 m2 n:Nat):Bm.A6:=fun IX KC LY KD KE=>ej JD n (.loop Zhx) 6 (mk [(0, .dat Cs IX []),(4, .dat Cs KC [⟨0,257,0,1⟩]),(5, .dat A7 LY [⟨0,321,0,1⟩]),(9, .dat AN KD []),(10, .dat AN KE [])] []) (Yla m0 m1 m2)
theorem Yma (m0 m1 m2:Nat):∀ n,vP m0 m1 m2 n=Bm.l6 (Zp m0 m1 m2) n:=BG (S:=Bm.S6 (Zp m0 m1 m2)) fun n=>by kernel_rfl
theorem Yna (m0 m1:Nat):∀ n,Zp m0 m1 n=Bm.l5 n:=ind rfl fun n e5=>(show _=Bm.S5 (vP m0 m1 n n) from by kernel_rfl).trans (by rw [Yma m0 m1 n n,e5];rfl)
def qZ:=AU 4 VS
def gD (m0 n:Nat):Bm.A4:=fun DJ Ef EN=>ej JD n (.tail qZ) 0 (mk [(0, .dat Cs DJ []),(4, .dat Cs Ef [⟨0,257,0,1⟩]),(5, .dat A7 EN [⟨0,321,0,1⟩])] []) Z5
theorem Yoa (m0:Nat):∀ n,gD m0 n=Bm.t4 n:=ind rfl fun n _=>(show _=Bm.S4 (Zp m0 n n) from by kernel_rfl).trans (by rw [Yna m0 n n];rfl)
def Ypa (m0:Nat):=Bt JD m0 qZ 0 Z5
def tk (m0:Nat):=Bo 0 (Ypa m0)
def S9:=Bk 2 (Bg (Bv (AU 3 VS)))
def VA (m0 n:Nat):Bm.A0:=fun x1 x2 x3 x4=>ej JD n (.loop S9) 0 (mk [(0, .dat Cs x1 []),(4, .dat Cs x2 [⟨0,257,0,1⟩]),(5, .dat A7 x3 [⟨0,321,0,1⟩]),(6, .dat AN x4 [])] []) (tk m0)
def Zix (m0 m1:Nat):=KG JD m1 S9 0 (tk m0)
def Zjx:=AU 2 S9
def Zkx (m0 m1:Nat):=Bt JD m1 Zjx 0 (Zix m0 m1)
def eZ (m0 m1:Nat):=Bo 1 (Zkx m0 m1)
def Zlx:=AU 3 (Bk 2 (Bg S9))
def vQ (m0 m1 n:Nat):Bm.A3:=fun Ck B6 Di DZ CW=>ej JD n (.tail Zlx) 1 (mk [(0, .dat Cs Ck []),(4, .dat Cs B6 [⟨0,257,0,1⟩]),(5, .dat A7 Di [⟨0,321,0,1⟩]),(6, .dat AN DZ []),(7, .dat AN CW [])] []) (eZ m0 m1)
theorem Yqa (m0 m1 m2:Nat):∀ n,vQ m0 m1 n=Bm.t3 (VA m0 m1) n:=ind rfl fun n _=>by kernel_rfl
def pX:=AU 2 (Bk 2 (Bg S9))
def gE (m0 m1 n:Nat):Bm.A2:=fun Bc BB BQ BC BS=>ej JD n (.tail pX) 1 (mk [(0, .dat Cs Bc []),(4, .dat Cs BB [⟨0,257,0,1⟩]),(5, .dat A7 BQ [⟨0,321,0,1⟩]),(6, .dat AN BC []),(7, .dat AN BS [])] []) (eZ m0 m1)
theorem Yra (m0 m1:Nat):∀ n,gE m0 m1 n=Bm.t2 (VA m0 m1) n:=ind rfl fun n _=>(show _=Bm.S2 (VA m0 m1) (vQ m0 m1 n) from by kernel_rfl).trans (by rw [Yqa m0 m1 n n];rfl)
def Zmx (m0 m1:Nat):=Bt JD m1 pX 1 (eZ m0 m1)
def Znx (m0 m1:Nat):=Bo 2 (Zmx m0 m1)
def Zdr:=Bk 3 (Bg (Bk 2 (Bg S9)))
def vR (m0 m1 n:Nat):Bm.A1:=fun x5 x6 x7 x8 x9=>ej JD n (.loop Zdr) 2 (mk [(0, .dat Cs x5 []),(4, .dat Cs x6 [⟨0,257,0,1⟩]),(5, .dat A7 x7 [⟨0,321,0,1⟩]),(6, .dat AN x8 []),(7, .dat AN x9 [])] []) (Znx m0 m1)
theorem Ysa (m0 m1:Nat):∀ n,vR m0 m1 n=Bm.l1 (gE m0 m1 m1) n:=BG (S:=Bm.S1 (gE m0 m1 m1)) fun n=>by kernel_rfl
theorem Yta (m0:Nat):∀ n,VA m0 n=Bm.l0 (gD m0 m0) n:=ind rfl fun n e0=>(show _=Bm.S0 (gD m0 m0) (vR m0 n n) from by kernel_rfl).trans (by rw [Ysa m0 n n,Yra m0 n n,e0];rfl)
abbrev gF:=AM.spec [.val Cs] [(Cs,[⟨0,1,0,1⟩]),(A7,[⟨0,1,0,1⟩])] fun x=>Bm x.1
theorem Zbb:AY Tryz.prog 134 gF:=BR Bb (fn:=Tryz.f134) (fun m x=>show run JD VS m x Z5=Bm.S (VA m m) x.1 from by kernel_rfl) (fun x=>by rw [Yta fu fu,Yoa fu fu];rfl) (Ba trivial)
abbrev vS:=AM.spec [.val Cs] [(.str,[]),(AN,[])] fun x=>XW x.1
theorem You:AY Tryz.prog 136 vS:=BV Bb (fn:=Tryz.f136) (lk:=(AM.look [(134,gF),(133,gC),(135,Tw),(182,gA)])) (ks:=⟨[],[],[],⟨tt [2,3],[]⟩,[],[133,135,182],[],[]⟩) (ts:=[.tmp 2, .tmp 3]) (fun _=>by kernel_rfl) (Ba ⟨⟨Zbb,Tryz.call134,nw⟩,⟨⟨Zab,Tryz.call133,fun _=>A9 rfl⟩,⟨⟨VO,Tryz.call135,fun _=>A9 rfl⟩,⟨⟨Zva,Tryz.call182,fun _=>A9 rfl⟩,trivial⟩⟩⟩⟩)
abbrev Zcb:=AM.spec [.val Cs, .val AN] [(.str,[]),(.bool,[])] fun x=>Yg x.1 x.2.1
theorem Yb2:AY Tryz.prog 74 Zcb:=BV Bb (fn:=Tryz.f74) (lk:=(AM.look [(133,gC),(134,gF),(130,gr),(129,gw),(135,Tw),(136,vS)])) (ks:=⟨[],[],[],⟨tt [4,5],[]⟩,[],[129,133,135,136],[],[]⟩) (ts:=[.tmp 4, .tmp 5]) (fun _=>by kernel_rfl) (Ba ⟨⟨Zab,Tryz.call133,fun _=>A9 rfl⟩,⟨⟨Zbb,Tryz.call134,nw⟩,⟨⟨Zja,Tryz.call130,nw⟩,⟨⟨Zsa,Tryz.call129,fun _=>A9 rfl⟩,⟨⟨VO,Tryz.call135,fun _=>A9 rfl⟩,⟨⟨You,Tryz.call136,fun _=>A9 rfl⟩,trivial⟩⟩⟩⟩⟩⟩)
abbrev Zdb:=AM.spec [.val Cx, .val AN, .val AN] [(.str,[]),(.bool,[])] fun x=>X9 x.1 x.2.1 x.2.2.1
theorem Yc2:AY Tryz.prog 33 Zdb:=BV Bb (fn:=Tryz.f33) (lk:=(AM.look [(73,Zga),(72,Zwa),(75,Zya),(74,Zcb)])) (ks:=⟨[],[],[],⟨tt [6,7],[]⟩,[],[72,74],[],[]⟩) (ts:=[.tmp 6, .tmp 7]) (fun _=>by kernel_rfl) (Ba ⟨⟨Yy1,Tryz.call73,nw⟩,⟨⟨Yz1,Tryz.call72,fun _=>A9 rfl⟩,⟨⟨Ya2,Tryz.call75,nw⟩,⟨⟨Yb2,Tryz.call74,fun _=>A9 rfl⟩,trivial⟩⟩⟩⟩)
abbrev RG:=BK.env (AM.look []) (kq [(0,⟨tt [1,5,6],[]⟩),(2,⟨tt [1,5,6,7],[]⟩)] [] [4])
def jw:=bd Tryz.f137
abbrev Zeb:=fin RG [.tmp 4] [] [(AN,[])]
def Zox:=AU 3 jw
def Yua (m0:Nat):=Bt RG m0 Zox 0 Zeb
def tn (m0:Nat):=Bo 0 (Yua m0)
def YN:=Bk 2 (Bg (Bv (AU 2 jw)))
def Zq (m0 n:Nat):C0.A0:=fun x1 x2 x3=>ej RG n (.loop YN) 0 (mk [(1, .dat .str x1 []),(5, .dat AN x2 []),(6, .dat AN x3 [])] []) (tn m0)
def Yva (m0 m1:Nat):=KG RG m1 YN 0 (tn m0)
def Zpx:=AU 2 YN
def Ywa (m0 m1:Nat):=Bt RG m1 Zpx 0 (Yva m0 m1)
def Yxa (m0 m1:Nat):=Bo 1 (Ywa m0 m1)
def Yya (m0 m1:Nat):=Bo 2 (Yxa m0 m1)
def Zqx:=Bk 2 (Bg (Bk 2 (Bg YN)))
def vT (m0 m1 n:Nat):C0.A1:=fun x4 x5 x6 x7=>ej RG n (.loop Zqx) 2 (mk [(1, .dat .str x4 []),(5, .dat AN x5 []),(6, .dat AN x6 []),(7, .dat AN x7 [])] []) (Yya m0 m1)
theorem Yza (m0 m1:Nat):∀ n,vT m0 m1 n=C0.l1 (Zq m0 m1) n:=BG (S:=C0.S1 (Zq m0 m1)) fun n=>by kernel_rfl
theorem Yab (m0:Nat):∀ n,Zq m0 n=C0.l0 n:=ind rfl fun n e0=>(show _=C0.S0 (vT m0 n n) from by kernel_rfl).trans (by rw [Yza m0 n n,e0];rfl)
abbrev vU:=AM.spec [.val AN, .val .str] [(AN,[])] fun x=>C0 x.1 x.2.1
theorem Ypu:AY Tryz.prog 137 vU:=BR Bb (fn:=Tryz.f137) (fun m x=>show run RG jw m x Zeb=C0.S (Zq m m) x.1 x.2.1 from by kernel_rfl) (fun x=>by rw [Yab fu fu];rfl) (Ba trivial)
abbrev Zfb:=AM.spec [.val .str] [(AN,[])] fun x=>Yw x.1
theorem Yd2:AY Tryz.prog 76 Zfb:=BV Bb (fn:=Tryz.f76) (lk:=(AM.look [(137,vU)])) (ks:=⟨[],[],[],⟨tt [2],[]⟩,[],[137],[],[]⟩) (ts:=[.tmp 2]) (fun _=>by kernel_rfl) (Ba ⟨⟨Ypu,Tryz.call137,fun _=>A9 rfl⟩,trivial⟩)
abbrev Zgb:=AM.spec [.val .str] [(.str,[])] fun x=>UR x.1
theorem Ye2:AY Tryz.prog 34 Zgb:=BV Bb (fn:=Tryz.f34) (lk:=(AM.look [(76,Zfb)])) (ks:=⟨[],[],[],⟨tt [2],[]⟩,[],[76],[],[]⟩) (ts:=[.tmp 2]) (fun _=>by kernel_rfl) (Ba ⟨⟨Yd2,Tryz.call76,fun _=>A9 rfl⟩,trivial⟩)
abbrev iO:=AM.spec [.val Cx, .val AN, .val AN] [(.str,[]),(AN,[])] fun x=>L9 x.1 x.2.1 x.2.2.1
theorem Zte:AY Tryz.prog 10 iO:=BV Bb (fn:=Tryz.f10) (lk:=(AM.look [(31,z7),(32,Zea),(33,Zdb),(34,Zgb)])) (ks:=⟨[],[],[],⟨tt [6,7],[]⟩,[],[31,33,34],[],[]⟩) (ts:=[.tmp 6, .tmp 7]) (fun _=>by kernel_rfl) (Ba ⟨⟨Yw1,Tryz.call31,fun _=>A9 rfl⟩,⟨⟨Yx1,Tryz.call32,nw⟩,⟨⟨Yc2,Tryz.call33,fun _=>A9 rfl⟩,⟨⟨Ye2,Tryz.call34,fun _=>A9 rfl⟩,trivial⟩⟩⟩⟩)
abbrev RH:=BK.env (AM.look []) (kq [(0,⟨tt [1,5,11,12],[]⟩),(2,⟨tt [1,5,11,12,21],[]⟩)] [] [4])
def jx:=bd Tryz.f249
abbrev Zhb:=fin RH [.tmp 4] [] [(AN,[])]
def Zrx:=AU 3 jx
def Ybb (m0:Nat):=Bt RH m0 Zrx 0 Zhb
def tp (m0:Nat):=Bo 0 (Ybb m0)
def YO:=Bk 2 (Bg (Bv (AU 2 jx)))
def Zr (m0 n:Nat):C1.A0:=fun x1 x2 x3 x4=>ej RH n (.loop YO) 0 (mk [(1, .dat .str x1 []),(5, .dat (.int .u32) x2 []),(11, .dat AN x3 []),(12, .dat AN x4 [])] []) (tp m0)
def Ycb (m0 m1:Nat):=KG RH m1 YO 0 (tp m0)
def Zsx:=AU 3 YO
def Ydb (m0 m1:Nat):=Bt RH m1 Zsx 0 (Ycb m0 m1)
def Yeb (m0 m1:Nat):=Bo 1 (Ydb m0 m1)
def Yfb (m0 m1:Nat):=Bo 2 (Yeb m0 m1)
def Ztx:=Bk 2 (AU 3 (Bk 2 (AU 2 YO)))
def vV (m0 m1 n:Nat):C1.A1:=fun x5 x6 x7 x8 x9=>ej RH n (.loop Ztx) 2 (mk [(1, .dat .str x5 []),(5, .dat (.int .u32) x6 []),(11, .dat AN x7 []),(12, .dat AN x8 []),(21, .dat AN x9 [])] []) (Yfb m0 m1)
theorem Ygb (m0 m1:Nat):∀ n,vV m0 m1 n=C1.l1 (Zr m0 m1) n:=BG (S:=C1.S1 (Zr m0 m1)) fun n=>by kernel_rfl
theorem Yhb (m0:Nat):∀ n,Zr m0 n=C1.l0 n:=ind rfl fun n e0=>(show _=C1.S0 (vV m0 n n) from by kernel_rfl).trans (by rw [Ygb m0 n n,e0];rfl)
abbrev vW:=AM.spec [.val AN, .val .str] [(AN,[])] fun x=>C1 x.1 x.2.1
theorem Yqu:AY Tryz.prog 249 vW:=BR Bb (fn:=Tryz.f249) (fun m x=>show run RH jx m x Zhb=C1.S (Zr m m) x.1 x.2.1 from by kernel_rfl) (fun x=>by rw [Yhb fu fu];rfl) (Ba trivial)
abbrev vX:=AM.spec [.val .str] [(AN,[])] fun x=>Yx x.1
theorem Yru:AY Tryz.prog 221 vX:=BV Bb (fn:=Tryz.f221) (lk:=(AM.look [(249,vW)])) (ks:=⟨[],[],[],⟨tt [2],[]⟩,[],[249],[],[]⟩) (ts:=[.tmp 2]) (fun _=>by kernel_rfl) (Ba ⟨⟨Yqu,Tryz.call249,fun _=>A9 rfl⟩,trivial⟩)
abbrev Z6:=BK.env (AM.look [(221,vX)]) ⟨[(0,⟨tt [3,4,16],[]⟩)],[],[],⟨tt [2],[]⟩,[],[221],[],[]⟩
def jy:=bd Tryz.f187
abbrev Zib:=fin Z6 [.tmp 2] [] [(.str,[])]
def Zux:=AU 5 jy
def Yib (m0:Nat):=Bt Z6 m0 Zux 0 Zib
def Yjb (m0:Nat):=Bo 0 (Yib m0)
def Zvx:=Bk 2 (Bg (Bv (AU 4 jy)))
def vY (m0 n:Nat):EW.A0:=fun x2 x3 x4=>ej Z6 n (.loop Zvx) 0 (mk [(3, .dat (.int .u32) x2 []),(4, .dat (.sl (.int .u8)) x3 [⟨0,257,0,0⟩]),(16, .dat AN x4 [])] []) (Yjb m0)
theorem Ykb (m0:Nat):∀ n,vY m0 n=EW.l0 n:=BG (S:=EW.S0) fun n=>by kernel_rfl
abbrev gG:=AM.spec [.val .str] [(.str,[])] fun x=>EW x.1
theorem Zjb:AY Tryz.prog 187 gG:=BR Bb (fn:=Tryz.f187) (fun m x=>show run Z6 jy m x Zib=EW.S (vY m m) x.1 from by kernel_rfl) (fun x=>by rw [Ykb fu fu];rfl) (Ba ⟨⟨Yru,Tryz.call221,fun _=>A9 rfl⟩,trivial⟩)
abbrev vZ:=AM.spec [.val .str] [(.str,[]),(AN,[])] fun x=>Yp x.1
theorem Ysu:AY Tryz.prog 139 vZ:=BV Bb (fn:=Tryz.f139) (lk:=(AM.look [(187,gG)])) (ks:=⟨[],[],[],⟨tt [2,3],[]⟩,[],[187],[],[]⟩) (ts:=[.tmp 2, .tmp 3]) (fun _=>by kernel_rfl) (Ba ⟨⟨Zjb,Tryz.call187,fun _=>A9 rfl⟩,trivial⟩)
abbrev gH:=AM.spec [.val AN, .val AN] [(AN,[])] fun x=>some (OG x.1 x.2.1)
theorem Zkb:AY Tryz.prog 241 gH:=BV Bb (fn:=Tryz.f241) (lk:=(AM.look [])) (ks:=(kz [4])) (ts:=[.tmp 4]) (fun x=>(show _=OG.o x.1 x.2.1 from by kernel_rfl).trans (by unfold OG.o OG;simp only [KN])) (Ba trivial)
abbrev Vt:=AM.spec [.val AN] [(AN,[])] fun x=>ON x.1
theorem ZF:AY Tryz.prog 186 Vt:=BV Bb (fn:=Tryz.f186) (lk:=(AM.look [])) (ks:=(kz [2])) (ts:=[.tmp 2]) (fun _=>by kernel_rfl) (Ba trivial)
abbrev Z7:=BK.env (AM.look [(186,Vt)]) ⟨[(0,⟨tt [0,2,7,8,9],[]⟩)],[],[],⟨tt [6],[]⟩,[],[186],[],[]⟩
def jz:=bd Tryz.f242
abbrev Zlb:=fin Z7 [.tmp 6] [] [(AN,[])]
def Zwx:=AU 4 jz
def Ylb (m0:Nat):=Bt Z7 m0 Zwx 0 Zlb
def Ymb (m0:Nat):=Bo 0 (Ylb m0)
def Zxx:=Bk 3 (AU 3 jz)
def v7 (m0 n:Nat):Gl.A0:=fun x1 x2 x3 x4 x5=>ej Z7 n (.loop Zxx) 0 (mk [(0, .dat .str x1 []),(2, .dat AN x2 []),(7, .dat (.int .u64) x3 []),(8, .dat AN x4 []),(9, .dat AN x5 [])] []) (Ymb m0)
theorem Ynb (m0:Nat):∀ n,v7 m0 n=Gl.l0 n:=BG (S:=Gl.S0) fun n=>by kernel_rfl
abbrev v8:=AM.spec [.val .str, .val AN, .val AN] [(AN,[])] fun x=>Gl x.1 x.2.1 x.2.2.1
theorem Ytu:AY Tryz.prog 242 v8:=BR Bb (fn:=Tryz.f242) (fun m x=>show run Z7 jz m x Zlb=Gl.S (v7 m m) x.1 x.2.1 x.2.2.1 from by kernel_rfl) (fun x=>by rw [Ynb fu fu];rfl) (Ba ⟨⟨ZF,Tryz.call186,fun _=>A9 rfl⟩,trivial⟩)
abbrev VU:=BK.env (AM.look [(241,gH),(242,v8)]) ⟨[(0,⟨tt [0,2,9,49,50],tt [48]⟩)],[],[(8,⟨tt [0,1,2],[]⟩)],⟨tt [6,7],tt [6,48]⟩,[6,9,48,53,61],[241,242],[],[]⟩
def Z8:=bd Tryz.f201
abbrev jA:=fin VU [.tmp 6, .tmp 7] [] [(A7,[]),(AN,[])]
def Zyx:=AU 6 Z8
def Yob (m0 m1:Nat):=Bt VU m1 Zyx 0 jA
def Ypb (m0 m1:Nat):=Bo 0 (Yob m0 m1)
def Zzx:=Bk 2 (Bg (Bv (AU 5 Z8)))
def wa (m0 m1 n:Nat):Dd.A1:=fun x5 x6 x7 x8 x9=>ej VU n (.loop Zzx) 0 (mk [(0, .dat .str x5 []),(2, .dat AN x6 []),(9, .slw 48 0),(49, .dat AN x7 []),(50, .dat AN x8 [])] [(48,some (.arr AN x9 false))]) (Ypb m0 m1)
theorem Yqb (m0 m1:Nat):∀ n,wa m0 m1 n=Dd.l1 n:=BG (S:=Dd.S1) fun n=>by kernel_rfl
def Zay:=AU 4 Z8
def wc (m0 n:Nat):Dd.A0:=fun x2 x3 x4=>ej VU n (.tail Zay) 0 (mk [(0, .dat .str x2 []),(1, .dat AN x3 []),(2, .dat AN x4 [])] []) jA
theorem Yrb (m0:Nat):∀ n,wc m0 n=Dd.t0 n:=ind rfl fun n _=>(show _=Dd.S0 (wa m0 n n) from by kernel_rfl).trans (by rw [Yqb m0 n n];rfl)
abbrev Tx:=AM.spec [.val .str, .val AN, .val AN] [(A7,[]),(AN,[])] fun x=>Dd x.1 x.2.1 x.2.2.1
theorem VV:AY Tryz.prog 201 Tx:=BR Bb (fn:=Tryz.f201) (fun m x=>show run VU Z8 m x jA=Dd.S (wc m m) x.1 x.2.1 x.2.2.1 from by kernel_rfl) (fun x=>by rw [Yrb fu fu];rfl) (Ba ⟨⟨Zkb,Tryz.call241,fun _=>A9 rfl⟩,⟨⟨Ytu,Tryz.call242,fun _=>A9 rfl⟩,trivial⟩⟩)
abbrev Z9:=BK.env (AM.look []) (kq [(0,⟨tt [0,1,7,8],[]⟩)] [] [4])
def jB:=bd Tryz.f250
abbrev Zmb:=fin Z9 [.tmp 4] [] [(AN,[])]
def Zby:=AU 2 jB
def Ysb (m0:Nat):=Bt Z9 m0 Zby 0 Zmb
def Ytb (m0:Nat):=Bo 0 (Ysb m0)
def Zcy:=Bk 2 (Bg (Bv (Bg jB)))
def we (m0 n:Nat):Gx.A0:=fun x1 x2 x3 x4=>ej Z9 n (.loop Zcy) 0 (mk [(0, .dat A7 x1 []),(1, .dat AN x2 []),(7, .dat AN x3 []),(8, .dat AN x4 [])] []) (Ytb m0)
theorem Yub (m0:Nat):∀ n,we m0 n=Gx.l0 n:=BG (S:=Gx.S0) fun n=>by kernel_rfl
abbrev wg:=AM.spec [.val A7, .val AN] [(AN,[])] fun x=>Gx x.1 x.2.1
theorem Yuu:AY Tryz.prog 250 wg:=BR Bb (fn:=Tryz.f250) (fun m x=>show run Z9 jB m x Zmb=Gx.S (we m m) x.1 x.2.1 from by kernel_rfl) (fun x=>by rw [Yub fu fu];rfl) (Ba trivial)
abbrev wh:=AM.spec [.val A7, .val AN] [(.bool,[])] fun x=>XQ x.1 x.2.1
theorem Yvu:AY Tryz.prog 222 wh:=BV Bb (fn:=Tryz.f222) (lk:=(AM.look [(250,wg)])) (ks:=⟨[],[],[],⟨tt [4],[]⟩,[],[250],[],[]⟩) (ts:=[.tmp 4]) (fun _=>by kernel_rfl) (Ba ⟨⟨Yuu,Tryz.call250,fun _=>A9 rfl⟩,trivial⟩)
abbrev gI:=AM.spec [.val .str, .val AN] [(A7,[]),(AN,[])] fun x=>US x.1 x.2.1
theorem Znb:AY Tryz.prog 188 gI:=BV Bb (fn:=Tryz.f188) (lk:=(AM.look [(201,Tx),(222,wh)])) (ks:=⟨[],[],[],⟨tt [4,5],tt [17]⟩,[],[222],[],[]⟩) (ts:=[.tmp 4, .tmp 5]) (fun _=>by kernel_rfl) (Ba ⟨⟨VV,Tryz.call201,nw⟩,⟨⟨Yvu,Tryz.call222,fun _=>A9 rfl⟩,trivial⟩⟩)
abbrev ae:=BK.env (AM.look [(188,gI)]) (kq [(0,⟨tt [7,8,17,18,19],[]⟩)] [] [4,5])
def jC:=bd Tryz.f140
abbrev Zob:=fin ae [.tmp 4, .tmp 5] [] [(AN,[]),(AN,[])]
def Zdy:=AU 4 jC
def Yvb (m0:Nat):=Bt ae m0 Zdy 0 Zob
def Ywb (m0:Nat):=Bo 0 (Yvb m0)
def Zey:=Bk 2 (Bg (Bv (AU 3 jC)))
def wk (m0 n:Nat):Fv.A0:=fun x2 x3 x4 x5 x6=>ej ae n (.loop Zey) 0 (mk [(7, .dat AN x2 []),(8, .dat AN x3 []),(17, .dat A7 x4 []),(18, .dat AN x5 []),(19, .dat AN x6 [])] []) (Ywb m0)
theorem Yxb (m0:Nat):∀ n,wk m0 n=Fv.l0 n:=BG (S:=Fv.S0) fun n=>by kernel_rfl
abbrev gJ:=AM.spec [.val .str, .val AN] [(AN,[]),(AN,[])] fun x=>Fv x.1 x.2.1
theorem Zpb:AY Tryz.prog 140 gJ:=BR Bb (fn:=Tryz.f140) (fun m x=>show run ae jC m x Zob=Fv.S (wk m m) x.1 x.2.1 from by kernel_rfl) (fun x=>by rw [Yxb fu fu];rfl) (Ba ⟨⟨Znb,Tryz.call188,nw⟩,trivial⟩)
abbrev Qu:=BK.env (AM.look []) ⟨[(0,⟨tt [0,6,27,28],tt [26]⟩),(2,⟨tt [0,6,7,8,27,28,31],tt [26]⟩)],[],[],⟨tt [4,5],tt [4,26]⟩,[4,6,26,47,53],[],[],[]⟩
def jD:=bd Tryz.f223
abbrev Zqb:=fin Qu [.tmp 4, .tmp 5] [] [(A7,[]),(AN,[])]
def Zfy:=AU 4 jD
def Yyb (m0:Nat):=Bt Qu m0 Zfy 0 Zqb
def tq (m0:Nat):=Bo 0 (Yyb m0)
def Vc:=Bk 2 (Bg (Bv (AU 3 jD)))
def Zs (m0 n:Nat):CX.A0:=fun x1 x2 x3 x4=>ej Qu n (.loop Vc) 0 (mk [(0, .dat .str x1 []),(6, .slw 26 0),(27, .dat AN x2 []),(28, .dat AN x3 [])] [(26,some (.arr AN x4 false))]) (tq m0)
def Yzb (m0 m1:Nat):=KG Qu m1 Vc 0 (tq m0)
def Zgy:=AU 3 Vc
def Yac (m0 m1:Nat):=Bt Qu m1 Zgy 0 (Yzb m0 m1)
def Ybc (m0 m1:Nat):=Bo 1 (Yac m0 m1)
def Zhy:=AU 3 (Bk 2 (AU 2 Vc))
def Ycc (m0 m1:Nat):=Bt Qu m1 Zhy 1 (Ybc m0 m1)
def Ydc (m0 m1:Nat):=Bo 2 (Ycc m0 m1)
def Ziy:=Bk 2 (Bg (Bv (AU 2 (Bk 2 (AU 2 Vc)))))
def wm (m0 m1 n:Nat):CX.A1:=fun x5 x6 x7 x8 x9 Bc BB=>ej Qu n (.loop Ziy) 2 (mk [(0, .dat .str x5 []),(6, .slw 26 0),(7, .dat AN x6 []),(8, .dat (.int .u64) x7 []),(27, .dat AN x8 []),(28, .dat AN x9 []),(31, .dat AN Bc [])] [(26,some (.arr AN BB false))]) (Ydc m0 m1)
theorem Yec (m0 m1:Nat):∀ n,wm m0 m1 n=CX.l1 (Zs m0 m1) n:=BG (S:=CX.S1 (Zs m0 m1)) fun n=>by kernel_rfl
theorem Yfc (m0:Nat):∀ n,Zs m0 n=CX.l0 n:=ind rfl fun n e0=>(show _=CX.S0 (wm m0 n n) from by kernel_rfl).trans (by rw [Yec m0 n n,e0];rfl)
abbrev wu:=AM.spec [.val .str, .val AN] [(A7,[]),(AN,[])] fun x=>CX x.1 x.2.1
theorem Ywu:AY Tryz.prog 223 wu:=BR Bb (fn:=Tryz.f223) (fun m x=>show run Qu jD m x Zqb=CX.S (Zs m m) x.1 x.2.1 from by kernel_rfl) (fun x=>by rw [Yfc fu fu];rfl) (Ba trivial)
abbrev wv:=AM.spec [.val AN] [(AN,[])] fun x=>some (EE x.1)
theorem Yxu:AY Tryz.prog 198 wv:=BV Bb (fn:=Tryz.f198) (lk:=(AM.look [])) (ks:=(kz [2])) (ts:=[.tmp 2]) (fun _=>by kernel_rfl) (Ba trivial)
abbrev gK:=AM.spec [.val AN] [(AN,[])] fun x=>some (Eb x.1)
theorem Zrb:AY Tryz.prog 237 gK:=BV Bb (fn:=Tryz.f237) (lk:=(AM.look [])) (ks:=(kz [2])) (ts:=[.tmp 2]) (fun _=>by kernel_rfl) (Ba trivial)
abbrev af:=BK.env (AM.look []) (kq [(0,⟨tt [3,4,5],[]⟩)] [] [2])
def jE:=bd Tryz.f148
abbrev Zsb:=fin af [.tmp 2] [] [(AN,[])]
def Zjy:=AU 3 jE
def Ygc (m0:Nat):=Bt af m0 Zjy 0 Zsb
def Yhc (m0:Nat):=Bo 0 (Ygc m0)
def Zky:=Bk 2 (Bg (Bv (AU 2 jE)))
def wx (m0 n:Nat):E4.A0:=fun x1 x2 x3=>ej af n (.loop Zky) 0 (mk [(3, .dat (.int .u64) x1 []),(4, .dat AN x2 []),(5, .dat AN x3 [])] []) (Yhc m0)
theorem Yic (m0:Nat):∀ n,wx m0 n=E4.l0 n:=BG (S:=E4.S0) fun n=>by kernel_rfl
abbrev Zt:=AM.spec [.val AN] [(AN,[])] fun x=>E4 x.1
theorem jF:AY Tryz.prog 148 Zt:=BR Bb (fn:=Tryz.f148) (fun m x=>show run af jE m x Zsb=E4.S (wx m m) x.1 from by kernel_rfl) (fun x=>by rw [Yic fu fu];rfl) (Ba trivial)
abbrev wy:=AM.spec [.val AN] [(AN,[])] fun x=>Vf x.1
theorem Yyu:AY Tryz.prog 199 wy:=BV Bb (fn:=Tryz.f199) (lk:=(AM.look [(237,gK),(148,Zt)])) (ks:=⟨[],[],[],⟨tt [2],[]⟩,[],[148,237],[],[]⟩) (ts:=[.tmp 2]) (fun _=>by kernel_rfl) (Ba ⟨⟨Zrb,Tryz.call237,fun _=>A9 rfl⟩,⟨⟨jF,Tryz.call148,fun _=>A9 rfl⟩,trivial⟩⟩)
abbrev ag:=BK.env (AM.look [(198,wv),(199,wy)]) ⟨[(0,⟨tt [0,5,11,12],[]⟩)],[],[],⟨tt [2,3,4],[]⟩,[],[198,199],[],[]⟩
def jG:=bd Tryz.f150
abbrev Ztb:=fin ag [.tmp 2, .tmp 3, .tmp 4] [] [(AN,[]),(AN,[]),(AN,[])]
def Zly:=AU 3 jG
def Yjc (m0:Nat):=Bt ag m0 Zly 0 Ztb
def Ykc (m0:Nat):=Bo 0 (Yjc m0)
def Zmy:=Bk 2 (Bg (Bv (AU 2 jG)))
def wz (m0 n:Nat):Fz.A0:=fun x1 x2 x3 x4=>ej ag n (.loop Zmy) 0 (mk [(0, .dat .str x1 []),(5, .dat (.int .u64) x2 []),(11, .dat AN x3 []),(12, .dat AN x4 [])] []) (Ykc m0)
theorem Ylc (m0:Nat):∀ n,wz m0 n=Fz.l0 n:=BG (S:=Fz.S0) fun n=>by kernel_rfl
abbrev Rx:=AM.spec [.val .str] [(AN,[]),(AN,[]),(AN,[])] fun x=>Fz x.1
theorem TI:AY Tryz.prog 150 Rx:=BR Bb (fn:=Tryz.f150) (fun m x=>show run ag jG m x Ztb=Fz.S (wz m m) x.1 from by kernel_rfl) (fun x=>by rw [Ylc fu fu];rfl) (Ba ⟨⟨Yxu,Tryz.call198,fun _=>A9 rfl⟩,⟨⟨Yyu,Tryz.call199,fun _=>A9 rfl⟩,trivial⟩⟩)
abbrev ah:=BK.env (AM.look []) (kq [(0,⟨tt [0,4,7,8,9],[]⟩)] [] [2,3])
def jH:=bd Tryz.f151
abbrev Zub:=fin ah [.tmp 2, .tmp 3] [] [(AN,[]),(.bool,[])]
def Zny:=AU 3 jH
def Ymc (m0:Nat):=Bt ah m0 Zny 0 Zub
def Ync (m0:Nat):=Bo 0 (Ymc m0)
def Zoy:=Bk 2 (Bg (Bv (AU 2 jH)))
def wA (m0 n:Nat):F4.A0:=fun x1 x2 x3 x4 x5=>ej ah n (.loop Zoy) 0 (mk [(0, .dat It x1 []),(4, .dat AN x2 []),(7, .dat It x3 []),(8, .dat AN x4 []),(9, .dat AN x5 [])] []) (Ync m0)
theorem Yoc (m0:Nat):∀ n,wA m0 n=F4.l0 n:=BG (S:=F4.S0) fun n=>by kernel_rfl
abbrev Zu:=AM.spec [.val It] [(AN,[]),(.bool,[])] fun x=>F4 x.1
theorem jI:AY Tryz.prog 151 Zu:=BR Bb (fn:=Tryz.f151) (fun m x=>show run ah jH m x Zub=F4.S (wA m m) x.1 from by kernel_rfl) (fun x=>by rw [Yoc fu fu];rfl) (Ba trivial)
abbrev WM:=BK.env (AM.look [(150,Rx),(151,Zu)]) ⟨[(0,⟨tt [0,1,6,7],[]⟩)],[],[(15,⟨tt [1,6,7],[]⟩)],⟨tt [4,5],[]⟩,[],[150,151],[],[]⟩
def lE:=bd Tryz.f89
abbrev lF:=fin WM [.tmp 4, .tmp 5] [] [(It,[⟨0,1,0,3⟩]),(AN,[])]
def tu:=AU 5 lE
def jJ (m0 n:Nat):Dk.A1:=fun x7 x8 x9=>ej WM n (.tail tu) 0 (mk [(1, .dat AN x7 []),(6, .dat It x8 [⟨0,385,0,3⟩]),(7, .dat AN x9 [])] []) lF
theorem Yso (m0:Nat):∀ n,jJ m0 n=Dk.t1 n:=ind rfl fun n _=>by kernel_rfl
def Yto (m0:Nat):=Bt WM m0 tu 0 lF
def Yuo (m0:Nat):=Bo 0 (Yto m0)
def Ypc:=Bk 3 (AU 4 lE)
def Zvb (m0 n:Nat):Dk.A0:=fun x1 x2 x3 x4=>ej WM n (.loop Ypc) 0 (mk [(0, .dat .str x1 []),(1, .dat AN x2 []),(6, .dat It x3 [⟨0,385,0,3⟩]),(7, .dat AN x4 [])] []) (Yuo m0)
theorem Yvo (m0:Nat):∀ n,Zvb m0 n=Dk.l0 (jJ m0 m0) n:=BG (S:=Dk.S0 (jJ m0 m0)) fun n=>by kernel_rfl
abbrev ZI:=AM.spec [.val .str, .val AN] [(It,[⟨0,1,0,3⟩]),(AN,[])] fun x=>Dk x.1 x.2.1
theorem kM:AY Tryz.prog 89 ZI:=BR Bb (fn:=Tryz.f89) (fun m x=>show run WM lE m x lF=Dk.S (Zvb m m) x.1 x.2.1 from by kernel_rfl) (fun x=>by rw [Yvo fu fu,Yso fu fu];rfl) (Ba ⟨⟨TI,Tryz.call150,fun _=>A9 rfl⟩,⟨⟨jI,Tryz.call151,fun _=>A9 rfl⟩,trivial⟩⟩)
abbrev wB:=AM.spec [.val (.int .u64), .val (.int .u64)] [((.int .u64),[]),((.int .u64),[])] fun x=>some (dp x.1 x.2.1)
theorem Yzu:AY Tryz.prog 280 wB:=BV Bb (fn:=Tryz.f280) (lk:=(AM.look [])) (ks:=(kz [4,5])) (ts:=[.tmp 4, .tmp 5]) (fun _=>by kernel_rfl) (Ba trivial)
abbrev wC:=AM.spec [.val (.int .u64), .val (.int .u64)] [((.int .u64),[]),((.int .u64),[])] fun x=>some (X3 x.1 x.2.1)
theorem Yav:AY Tryz.prog 266 wC:=BV Bb (fn:=Tryz.f266) (lk:=(AM.look [(280,wB)])) (ks:=⟨[],[],[],⟨tt [4,5],[]⟩,[],[280],[],[]⟩) (ts:=[.tmp 4, .tmp 5]) (fun _=>by kernel_rfl) (Ba ⟨⟨Yzu,Tryz.call280,fun _=>A9 rfl⟩,trivial⟩)
abbrev TJ:=BK.env (AM.look [(266,wC)]) ⟨[(0,⟨tt [7,8],tt [30]⟩)],[],[(3,⟨tt [0,1],[]⟩),(6,⟨tt [0,6],[]⟩)],⟨tt [4],tt [30]⟩,[4,7,30,31,35,39,41,42,44,47],[266],[],[]⟩
def VW:=bd Tryz.f251
abbrev ai:=fin TJ [.tmp 4] [] [(A7,[])]
def Zpy:=AU 7 VW
def Yqc (m0 m1 m2:Nat):=Bt TJ m2 Zpy 0 ai
def Yrc (m0 m1 m2:Nat):=Bo 0 (Yqc m0 m1 m2)
def Zqy:=Bk 3 (AU 6 VW)
def wD (m0 m1 m2 n:Nat):CN.A2:=fun x6 x7=>ej TJ n (.loop Zqy) 0 (mk [(7, .slw 30 0),(8, .dat AN x6 [])] [(30,some (.arr AN x7 false))]) (Yrc m0 m1 m2)
theorem Ysc (m0 m1 m2:Nat):∀ n,wD m0 m1 m2 n=CN.l2 n:=BG (S:=CN.S2) fun n=>by kernel_rfl
def Zry:=AU 4 VW
def wE (m0 n:Nat):CN.A1:=fun x4 x5=>ej TJ n (.tail Zry) 0 (mk [(0, .dat A7 x4 []),(6, .dat (.int .u64) x5 [])] []) ai
theorem Ytc (m0 m1:Nat):∀ n,wE m0 n=CN.t1 n:=ind rfl fun n _=>(show _=CN.S1 (wD m0 m1 n n) from by kernel_rfl).trans (by rw [Ysc m0 m1 n n];rfl)
def Zsy:=AU 2 VW
def wF (m0 n:Nat):CN.A0:=fun x1 x2=>ej TJ n (.tail Zsy) 0 (mk [(0, .dat A7 x1 []),(1, .dat AN x2 [])] []) ai
theorem Yuc (m0:Nat):∀ n,wF m0 n=CN.t0 n:=ind rfl fun n _=>(show _=CN.S0 (wE m0 n) from by kernel_rfl).trans (by rw [Ytc m0 n n];rfl)
abbrev wG:=AM.spec [.val A7, .val AN] [(A7,[])] fun x=>CN x.1 x.2.1
theorem Ybv:AY Tryz.prog 251 wG:=BR Bb (fn:=Tryz.f251) (fun m x=>show run TJ VW m x ai=CN.S (wF m m) x.1 x.2.1 from by kernel_rfl) (fun x=>by rw [Yuc fu fu];rfl) (Ba ⟨⟨Yav,Tryz.call266,fun _=>A9 rfl⟩,trivial⟩)
abbrev aj:=BK.env (AM.look [(151,Zu),(251,wG)]) ⟨[(0,⟨tt [6,18,19,20],[]⟩)],[],[],⟨tt [2,3],[]⟩,[],[151],[],[]⟩
def jK:=bd Tryz.f224
abbrev Zwb:=fin aj [.tmp 2, .tmp 3] [] [(A7,[⟨0,1,0,1⟩]),(AN,[])]
def Zty:=AU 5 jK
def Yvc (m0:Nat):=Bt aj m0 Zty 0 Zwb
def Ywc (m0:Nat):=Bo 0 (Yvc m0)
def Zuy:=Bk 2 (Bg (Bv (AU 4 jK)))
def wH (m0 n:Nat):FA.A0:=fun x2 x3 x4 x5=>ej aj n (.loop Zuy) 0 (mk [(6, .dat A7 x2 [⟨0,385,0,1⟩]),(18, .dat It x3 []),(19, .dat AN x4 []),(20, .dat AN x5 [])] []) (Ywc m0)
theorem Yxc (m0:Nat):∀ n,wH m0 n=FA.l0 n:=BG (S:=FA.S0) fun n=>by kernel_rfl
abbrev gL:=AM.spec [.val It] [(A7,[⟨0,1,0,1⟩]),(AN,[])] fun x=>FA x.1
theorem Zxb:AY Tryz.prog 224 gL:=BR Bb (fn:=Tryz.f224) (fun m x=>show run aj jK m x Zwb=FA.S (wH m m) x.1 from by kernel_rfl) (fun x=>by rw [Yxc fu fu];rfl) (Ba ⟨⟨jI,Tryz.call151,fun _=>A9 rfl⟩,⟨⟨Ybv,Tryz.call251,nw⟩,trivial⟩⟩)
abbrev wI:=AM.Gp 1 [.io .str [], .io .bool []] [(AN,[]),(.str,[]),(.bool,[])] fun x=>Ox x.1 x.2.1
theorem Ycv:AY Tryz.prog 252 wI:=b8 Bb (fn:=Tryz.f252) (lk:=(AM.look [(150,Rx)])) (ks:=⟨[],[],[],⟨tt [2],tt [1000000,1000001]⟩,[],[150],[],[]⟩) (ts:=[.tmp 2]) (fun _=>by kernel_rfl) (Ba ⟨⟨TI,Tryz.call150,fun _=>A9 rfl⟩,trivial⟩)
abbrev wJ:=AM.spec [.val AN, .val AN] [(AN,[])] fun x=>some (Re x.1 x.2.1)
theorem Ydv:AY Tryz.prog 253 wJ:=BV Bb (fn:=Tryz.f253) (lk:=(AM.look [])) (ks:=(kz [4])) (ts:=[.tmp 4]) (fun _=>by kernel_rfl) (Ba trivial)
abbrev VX:=BK.env (AM.look [(237,gK)]) ⟨[(0,⟨tt [3,4,5],tt [3]⟩)],[],[(7,⟨tt [3,4,5],tt [3]⟩)],⟨tt [2],[]⟩,[],[237],[],[]⟩
def jL:=bd Tryz.f263
abbrev jM:=fin VX [.tmp 2] [] [(.str,[])]
def q0:=AU 4 jL
def gM (m0 n:Nat):Dx.A1:=fun x5 x6 x7=>ej VX n (.tail q0) 0 (mk [(3, .ptr 3 0 0),(4, .dat (.int .u64) x5 []),(5, .dat AN x6 [])] [(3,some (.arr (.int .u8) x7 false))]) jM
theorem Yyc (m0:Nat):∀ n,gM m0 n=Dx.t1 n:=ind rfl fun n _=>by kernel_rfl
def Yzc (m0:Nat):=Bt VX m0 q0 0 jM
def Yad (m0:Nat):=Bo 0 (Yzc m0)
def Zvy:=Bk 3 (AU 3 jL)
def wK (m0 n:Nat):Dx.A0:=fun x2 x3 x4=>ej VX n (.loop Zvy) 0 (mk [(3, .ptr 3 0 0),(4, .dat (.int .u64) x2 []),(5, .dat AN x3 [])] [(3,some (.arr (.int .u8) x4 false))]) (Yad m0)
theorem Ybd (m0:Nat):∀ n,wK m0 n=Dx.l0 (gM m0 m0) n:=BG (S:=Dx.S0 (gM m0 m0)) fun n=>by kernel_rfl
abbrev Ry:=AM.spec [.val AN] [(.str,[])] fun x=>Dx x.1
theorem TK:AY Tryz.prog 263 Ry:=BR Bb (fn:=Tryz.f263) (fun m x=>show run VX jL m x jM=Dx.S (wK m m) x.1 from by kernel_rfl) (fun x=>by rw [Ybd fu fu,Yyc fu fu];rfl) (Ba ⟨⟨Zrb,Tryz.call237,fun _=>A9 rfl⟩,trivial⟩)
abbrev wL:=AM.spec [.val AN, .val AN] [(AN,[])] fun x=>some (U2 x.1 x.2.1)
theorem Yev:AY Tryz.prog 281 wL:=BV Bb (fn:=Tryz.f281) (lk:=(AM.look [])) (ks:=(kz [4])) (ts:=[.tmp 4]) (fun _=>by kernel_rfl) (Ba trivial)
abbrev VY:=BK.env (AM.look []) (kq [(0,⟨tt [0,3,4],[]⟩)] [(3,⟨tt [0],[]⟩)] [2])
def ak:=bd Tryz.f282
abbrev jN:=fin VY [.tmp 2] [] [(AN,[])]
def Zwy:=AU 4 ak
def Ycd (m0 m1:Nat):=Bt VY m1 Zwy 0 jN
def Ydd (m0 m1:Nat):=Bo 0 (Ycd m0 m1)
def Zxy:=Bk 2 (Bg (Bv (AU 3 ak)))
def wM (m0 m1 n:Nat):DM.A1:=fun x2 x3 x4=>ej VY n (.loop Zxy) 0 (mk [(0, .dat A7 x2 []),(3, .dat AN x3 []),(4, .dat AN x4 [])] []) (Ydd m0 m1)
theorem Yed (m0 m1:Nat):∀ n,wM m0 m1 n=DM.l1 n:=BG (S:=DM.S1) fun n=>by kernel_rfl
def Zyy:=AU 2 ak
def wN (m0 n:Nat):DM.A0:=fun x1=>ej VY n (.tail Zyy) 0 (mk [(0, .dat A7 x1 [])] []) jN
theorem Yfd (m0:Nat):∀ n,wN m0 n=DM.t0 n:=ind rfl fun n _=>(show _=DM.S0 (wM m0 n n) from by kernel_rfl).trans (by rw [Yed m0 n n];rfl)
abbrev wO:=AM.spec [.val A7] [(AN,[])] fun x=>DM x.1
theorem Yfv:AY Tryz.prog 282 wO:=BR Bb (fn:=Tryz.f282) (fun m x=>show run VY ak m x jN=DM.S (wN m m) x.1 from by kernel_rfl) (fun x=>by rw [Yfd fu fu];rfl) (Ba trivial)
abbrev RI:=BK.env (AM.look [(281,wL),(282,wO)]) ⟨[(0,⟨tt [0,4,5],tt [10]⟩),(2,⟨tt [4,6,33,34],tt [10]⟩)],[],[(6,⟨tt [4],tt [10]⟩)],⟨tt [2,3],tt [10]⟩,[2,4,10,17,29,30,32,37,40,47],[281,282],[],[28]⟩
def VZ:=bd Tryz.f267
abbrev ao:=fin RI [.tmp 2, .tmp 3] [] [(A7,[]),(AN,[])]
def Zzy:=AU 5 VZ
def Ygd (m0 m1:Nat):=Bt RI m1 Zzy 0 ao
def Yhd (m0 m1:Nat):=Bo 2 (Ygd m0 m1)
def Zaz:=Bk 2 (Bg (Bv (AU 4 VZ)))
def wP (m0 m1 n:Nat):Cp.A2:=fun x7 x8 x9 Bc=>ej RI n (.loop Zaz) 2 (mk [(4, .slw 10 0),(6, .dat AN x7 []),(33, .dat AN x8 []),(34, .dat AN x9 [])] [(10,some (.arr AN Bc false))]) (Yhd m0 m1)
theorem Yid (m0 m1:Nat):∀ n,wP m0 m1 n=Cp.l2 n:=BG (S:=Cp.S2) fun n=>by kernel_rfl
def ra:=AU 3 VZ
def gN (m0 n:Nat):Cp.A1:=fun x5=>ej RI n (.tail ra) 0 (mk [(4, .slw 10 0)] [(10,some (.arr AN x5 false))]) ao
theorem Yjd (m0:Nat):∀ n,gN m0 n=Cp.t1 n:=ind rfl fun n _=>(show _=Cp.S1 (wP m0 n n) from by kernel_rfl).trans (by rw [Yid m0 n n];rfl)
def Ykd (m0:Nat):=Bt RI m0 ra 0 ao
def Yld (m0:Nat):=Bo 0 (Ykd m0)
def Zbz:=Bk 2 (Bg (Bv (AU 2 VZ)))
def wQ (m0 n:Nat):Cp.A0:=fun x1 x2 x3=>ej RI n (.loop Zbz) 0 (mk [(0, .dat A7 x1 []),(4, .slw 10 0),(5, .dat AN x2 [])] [(10,some (.arr AN x3 false))]) (Yld m0)
theorem Ymd (m0:Nat):∀ n,wQ m0 n=Cp.l0 (gN m0 m0) n:=BG (S:=Cp.S0 (gN m0 m0)) fun n=>by kernel_rfl
abbrev wR:=AM.spec [.val A7] [(A7,[]),(AN,[])] fun x=>Cp x.1
theorem Ygv:AY Tryz.prog 267 wR:=BR Bb (fn:=Tryz.f267) (fun m x=>show run RI VZ m x ao=Cp.S (wQ m m) x.1 from by kernel_rfl) (fun x=>by rw [Ymd fu fu,Yjd fu fu];rfl) (Ba ⟨⟨Yev,Tryz.call281,fun _=>A9 rfl⟩,⟨⟨Yfv,Tryz.call282,fun _=>A9 rfl⟩,trivial⟩⟩)
abbrev aq:=BK.env (AM.look [(148,Zt)]) ⟨[(0,⟨tt [3,6,7,8],[]⟩)],[],[],⟨tt [2],[]⟩,[],[148],[],[]⟩
def jO:=bd Tryz.f202
abbrev Zyb:=fin aq [.tmp 2] [] [(AN,[])]
def Zcz:=AU 3 jO
def Ynd (m0:Nat):=Bt aq m0 Zcz 0 Zyb
def Yod (m0:Nat):=Bo 0 (Ynd m0)
def Zdz:=Bk 2 (Bg (Bv (AU 2 jO)))
def wS (m0 n:Nat):D0.A0:=fun x1 x2 x3 x4=>ej aq n (.loop Zdz) 0 (mk [(3, .dat AN x1 []),(6, .dat A7 x2 []),(7, .dat AN x3 []),(8, .dat AN x4 [])] []) (Yod m0)
theorem Ypd (m0:Nat):∀ n,wS m0 n=D0.l0 n:=BG (S:=D0.S0) fun n=>by kernel_rfl
abbrev Qh:=AM.spec [.val A7] [(AN,[])] fun x=>D0 x.1
theorem RJ:AY Tryz.prog 202 Qh:=BR Bb (fn:=Tryz.f202) (fun m x=>show run aq jO m x Zyb=D0.S (wS m m) x.1 from by kernel_rfl) (fun x=>by rw [Ypd fu fu];rfl) (Ba ⟨⟨jF,Tryz.call148,fun _=>A9 rfl⟩,trivial⟩)
abbrev Qv:=BK.env (AM.look [(202,Qh),(241,gH),(186,Vt)]) ⟨[(0,⟨tt [1,6,7,8,37,38,39],[]⟩),(2,⟨tt [1,6,7,8,11,12,37,38,39],[]⟩)],[],[(20,⟨tt [6,7,8],[]⟩)],⟨tt [4,5],[]⟩,[],[186,202,241],[],[]⟩
def jP:=bd Tryz.f234
abbrev jQ:=fin Qv [.tmp 4, .tmp 5] [] [(.str,[]),(AN,[])]
def re:=AU 6 jP
def gO (m0 n:Nat):Ca.A2:=fun DJ Ef EN=>ej Qv n (.tail re) 0 (mk [(6, .dat (.sl (.int .u8)) DJ [⟨0,385,0,0⟩]),(7, .dat (.int .u64) Ef []),(8, .dat AN EN [])] []) jQ
theorem Yqd (m0:Nat):∀ n,gO m0 n=Ca.t2 n:=ind rfl fun n _=>by kernel_rfl
def Yrd (m0:Nat):=Bt Qv m0 re 0 jQ
def tv (m0:Nat):=Bo 0 (Yrd m0)
def YP:=Bk 2 (Bg (Bv (AU 5 jP)))
def Zv (m0 n:Nat):Ca.A0:=fun x3 x4 x5 x6 x7 x8 x9=>ej Qv n (.loop YP) 0 (mk [(1, .dat AN x3 []),(6, .dat (.sl (.int .u8)) x4 [⟨0,385,0,0⟩]),(7, .dat (.int .u64) x5 []),(8, .dat AN x6 []),(37, .dat A7 x7 []),(38, .dat AN x8 []),(39, .dat AN x9 [])] []) (tv m0)
def Ysd (m0 m1:Nat):=KG Qv m1 YP 0 (tv m0)
def Zez:=AU 3 YP
def Ytd (m0 m1:Nat):=Bt Qv m1 Zez 0 (Ysd m0 m1)
def Yud (m0 m1:Nat):=Bo 1 (Ytd m0 m1)
def Yvd (m0 m1:Nat):=Bo 2 (Yud m0 m1)
def Zfz:=Bk 2 (AU 2 (Bk 2 (AU 2 YP)))
def wT (m0 m1 n:Nat):Ca.A1:=fun Bc BB BQ BC BS Ck B6 Di DZ=>ej Qv n (.loop Zfz) 2 (mk [(1, .dat AN Bc []),(6, .dat (.sl (.int .u8)) BB [⟨0,385,0,0⟩]),(7, .dat (.int .u64) BQ []),(8, .dat AN BC []),(11, .dat (.int .u64) BS []),(12, .dat AN Ck []),(37, .dat A7 B6 []),(38, .dat AN Di []),(39, .dat AN DZ [])] []) (Yvd m0 m1)
theorem Ywd (m0 m1:Nat):∀ n,wT m0 m1 n=Ca.l1 (Zv m0 m1) n:=BG (S:=Ca.S1 (Zv m0 m1)) fun n=>by kernel_rfl
theorem Yxd (m0:Nat):∀ n,Zv m0 n=Ca.l0 (gO m0 m0) n:=ind rfl fun n e0=>(show _=Ca.S0 (gO m0 m0) (wT m0 n n) from by kernel_rfl).trans (by rw [Ywd m0 n n,e0];rfl)
abbrev Tz:=AM.spec [.val A7, .val AN] [(.str,[]),(AN,[])] fun x=>Ca x.1 x.2.1
theorem V0:AY Tryz.prog 234 Tz:=BR Bb (fn:=Tryz.f234) (fun m x=>show run Qv jP m x jQ=Ca.S (Zv m m) x.1 x.2.1 from by kernel_rfl) (fun x=>by rw [Yxd fu fu,Yqd fu fu];rfl) (Ba ⟨⟨RJ,Tryz.call202,fun _=>A9 rfl⟩,⟨⟨Zkb,Tryz.call241,fun _=>A9 rfl⟩,⟨⟨ZF,Tryz.call186,fun _=>A9 rfl⟩,trivial⟩⟩⟩)
abbrev gP:=AM.spec [.val A7] [(.str,[]),(AN,[])] fun x=>U3 x.1
theorem Zzb:AY Tryz.prog 254 gP:=BV Bb (fn:=Tryz.f254) (lk:=(AM.look [(263,Ry),(267,wR),(202,Qh),(234,Tz)])) (ks:=⟨[],[],[],⟨tt [2,3],[]⟩,[],[202,234,263],[],[47]⟩) (ts:=[.tmp 2, .tmp 3]) (fun _=>by kernel_rfl) (Ba ⟨⟨TK,Tryz.call263,fun _=>A9 rfl⟩,⟨⟨Ygv,Tryz.call267,nw⟩,⟨⟨RJ,Tryz.call202,fun _=>A9 rfl⟩,⟨⟨V0,Tryz.call234,fun _=>A9 rfl⟩,trivial⟩⟩⟩⟩)
abbrev TL:=BK.env (AM.look [(252,wI),(201,Tx),(253,wJ),(254,gP)]) ⟨[(0,⟨tt [0,6,8,10,54,55,56],tt [8]⟩)],[],[(8,⟨tt [0,1,6,7,8,9],tt [7,8]⟩),(20,⟨tt [0,6,8],tt [8]⟩)],⟨tt [4,5],[]⟩,[24],[252,253,254],[],[]⟩
def au:=bd Tryz.f225
abbrev aw:=fin TL [.tmp 4, .tmp 5] [] [(A7,[⟨0,1,0,1⟩]),(AN,[])]
def rf:=AU 7 au
def Zw (m0 n:Nat):Ci.A2:=fun DZ CW DJ=>ej TL n (.tail rf) 0 (mk [(0, .dat .str DZ []),(6, .dat A7 CW [⟨0,385,0,1⟩]),(8, .ptr 8 0 0)] [(8,some (.var .bool DJ []))]) aw
theorem Yyd (m0 m1:Nat):∀ n,Zw m0 n=Ci.t2 n:=ind rfl fun n _=>by kernel_rfl
def Yzd (m0 m1:Nat):=Bt TL m1 rf 0 aw
def Yae (m0 m1:Nat):=Bo 0 (Yzd m0 m1)
def Zgz:=Bk 2 (AU 5 (Bv (Bg (Bv (AU 6 au)))))
def wU (m0 m1 n:Nat):Ci.A1:=fun x9 Bc BB BQ BC BS Ck=>ej TL n (.loop Zgz) 0 (mk [(0, .dat .str x9 []),(6, .dat A7 Bc [⟨0,385,0,1⟩]),(8, .ptr 8 0 0),(10, .dat AN BB []),(54, .dat A7 BQ []),(55, .dat AN BC []),(56, .dat AN BS [])] [(8,some (.var .bool Ck []))]) (Yae m0 m1)
theorem Ybe (m0 m1:Nat):∀ n,wU m0 m1 n=Ci.l1 (Zw m0 m1) n:=BG (S:=Ci.S1 (Zw m0 m1)) fun n=>by kernel_rfl
def Zhz:=AU 6 au
def wV (m0 n:Nat):Ci.A0:=fun x2 x3 x4 x5 x6=>ej TL n (.tail Zhz) 0 (mk [(0, .dat .str x2 []),(1, .dat AN x3 []),(6, .dat A7 x4 [⟨0,385,0,1⟩]),(7, .ptr 7 0 0),(8, .ptr 8 0 0),(9, .clo 252 [(7,0),(8,0)])] [(7,some (.var .str x5 [])),(8,some (.var .bool x6 []))]) aw
theorem Yce (m0:Nat):∀ n,wV m0 n=Ci.t0 n:=ind rfl fun n _=>(show _=Ci.S0 (wU m0 n n) (Zw m0 n) from by kernel_rfl).trans (by rw [Ybe m0 n n,Yyd m0 n n];rfl)
abbrev wW:=AM.spec [.val .str, .val AN] [(A7,[⟨0,1,0,1⟩]),(AN,[])] fun x=>Ci x.1 x.2.1
theorem Yhv:AY Tryz.prog 225 wW:=BR Bb (fn:=Tryz.f225) (fun m x=>show run TL au m x aw=Ci.S (wV m m) x.1 x.2.1 from by kernel_rfl) (fun x=>by rw [Yce fu fu];rfl) (Ba ⟨⟨Ycv,Tryz.call252,fun _=>Zg5 rfl⟩,⟨⟨VV,Tryz.call201,nw⟩,⟨⟨Ydv,Tryz.call253,fun _=>A9 rfl⟩,⟨⟨Zzb,Tryz.call254,fun _=>A9 rfl⟩,trivial⟩⟩⟩⟩)
abbrev wX:=AM.spec [.val .str] [(AN,[]),(AN,[])] fun x=>XU x.1
theorem Yiv:AY Tryz.prog 156 wX:=BV Bb (fn:=Tryz.f156) (lk:=(AM.look [(150,Rx)])) (ks:=⟨[],[],[],⟨tt [2,3],[]⟩,[],[150],[],[]⟩) (ts:=[.tmp 2, .tmp 3]) (fun _=>by kernel_rfl) (Ba ⟨⟨TI,Tryz.call150,fun _=>A9 rfl⟩,trivial⟩)
abbrev ax:=BK.env (AM.look []) (kq [(0,⟨tt [0,1,7,8],[]⟩)] [] [4])
def jR:=bd Tryz.f243
abbrev Zac:=fin ax [.tmp 4] [] [(AN,[])]
def Ziz:=AU 2 jR
def Yde (m0:Nat):=Bt ax m0 Ziz 0 Zac
def Yee (m0:Nat):=Bo 0 (Yde m0)
def Zjz:=Bk 2 (Bg (Bv (Bg jR)))
def wY (m0 n:Nat):Gg.A0:=fun x1 x2 x3 x4=>ej ax n (.loop Zjz) 0 (mk [(0, .dat (.sl .bool) x1 []),(1, .dat .bool x2 []),(7, .dat AN x3 []),(8, .dat AN x4 [])] []) (Yee m0)
theorem Yfe (m0:Nat):∀ n,wY m0 n=Gg.l0 n:=BG (S:=Gg.S0) fun n=>by kernel_rfl
abbrev wZ:=AM.spec [.val (.sl .bool), .val .bool] [(AN,[])] fun x=>Gg x.1 x.2.1
theorem Yjv:AY Tryz.prog 243 wZ:=BR Bb (fn:=Tryz.f243) (fun m x=>show run ax jR m x Zac=Gg.S (wY m m) x.1 x.2.1 from by kernel_rfl) (fun x=>by rw [Yfe fu fu];rfl) (Ba trivial)
abbrev gQ:=AM.spec [.val (.sl .bool), .val .bool] [(.bool,[])] fun x=>Q8 x.1 x.2.1
theorem Zbc:AY Tryz.prog 203 gQ:=BV Bb (fn:=Tryz.f203) (lk:=(AM.look [(243,wZ)])) (ks:=⟨[],[],[],⟨tt [4],[]⟩,[],[243],[],[]⟩) (ts:=[.tmp 4]) (fun _=>by kernel_rfl) (Ba ⟨⟨Yjv,Tryz.call243,fun _=>A9 rfl⟩,trivial⟩)
abbrev Qw:=BK.env (AM.look [(150,Rx),(156,wX),(202,Qh),(201,Tx),(203,gQ)]) ⟨[(0,⟨tt [0,1,2,9,10,12,47,48],[]⟩),(2,⟨tt [9,12,16,17,98,99,100],tt [97]⟩)],[],[(20,⟨tt [0,1,9,10,12],[]⟩),(31,⟨tt [12,16,17],tt [97]⟩)],⟨tt [6,7,8],[]⟩,[17,97,111,115],[150,156,202,203],[],[89]⟩
def V4:=bd Tryz.f155
abbrev V5:=fin Qw [.tmp 6, .tmp 7, .tmp 8] [] [(A7,[⟨0,1,0,1⟩]),(A7,[]),(AN,[])]
def rh:=AU 11 V4
def gR (m0 n:Nat):BZ.A3:=fun IU IV IW=>ej Qw n (.tail rh) 0 (mk [(12, .dat A7 IU [⟨0,769,0,1⟩]),(16, .dat A7 IV []),(17, .slw 97 0)] [(97,some (.arr .bool IW false))]) V5
theorem Yge (m0 m1:Nat):∀ n,gR m0 n=BZ.t3 n:=ind rfl fun n _=>by kernel_rfl
def Yhe (m0 m1:Nat):=Bt Qw m1 rh 0 V5
def Yie (m0 m1:Nat):=Bo 2 (Yhe m0 m1)
def Zkz:=Bk 2 (Bg (Bv (AU 10 V4)))
def w9 (m0 m1 n:Nat):BZ.A2:=fun Di DZ CW DJ Ef EN Hn=>ej Qw n (.loop Zkz) 2 (mk [(9, .dat AN Di []),(12, .dat A7 DZ [⟨0,769,0,1⟩]),(16, .dat A7 CW []),(17, .slw 97 0),(98, .dat A7 DJ []),(99, .dat AN Ef []),(100, .dat AN EN [])] [(97,some (.arr .bool Hn false))]) (Yie m0 m1)
theorem Yje (m0 m1:Nat):∀ n,w9 m0 m1 n=BZ.l2 (gR m0 m1) n:=BG (S:=BZ.S2 (gR m0 m1)) fun n=>by kernel_rfl
def rk:=AU 7 V4
def gS (m0 n:Nat):BZ.A1:=fun Bc BB BQ BC BS=>ej Qw n (.tail rk) 0 (mk [(0, .dat .str Bc []),(1, .dat AN BB []),(9, .dat AN BQ []),(10, .dat AN BC []),(12, .dat A7 BS [⟨0,769,0,1⟩])] []) V5
theorem Yke (m0:Nat):∀ n,gS m0 n=BZ.t1 n:=ind rfl fun n _=>(show _=BZ.S1 (w9 m0 n n) from by kernel_rfl).trans (by rw [Yje m0 n n,Yge m0 n n];rfl)
def Yle (m0:Nat):=Bt Qw m0 rk 0 V5
def Yme (m0:Nat):=Bo 0 (Yle m0)
def Zlz:=Bk 2 (Bg (Bv (AU 6 V4)))
def xa (m0 n:Nat):BZ.A0:=fun x2 x3 x4 x5 x6 x7 x8=>ej Qw n (.loop Zlz) 0 (mk [(0, .dat .str x2 []),(1, .dat AN x3 []),(2, .fn 156 []),(9, .dat AN x4 []),(10, .dat AN x5 []),(12, .dat A7 x6 [⟨0,769,0,1⟩]),(47, .dat AN x7 []),(48, .dat AN x8 [])] []) (Yme m0)
theorem Yne (m0:Nat):∀ n,xa m0 n=BZ.l0 (gS m0 m0) n:=BG (S:=BZ.S0 (gS m0 m0)) fun n=>by kernel_rfl
abbrev xb:=AM.spec [.val .str, .val AN, .fn 156 []] [(A7,[⟨0,1,0,1⟩]),(A7,[]),(AN,[])] fun x=>BZ x.1 x.2.1
theorem Ykv:AY Tryz.prog 155 xb:=BR Bb (fn:=Tryz.f155) (fun m x=>show run Qw V4 m x V5=BZ.S (xa m m) x.1 x.2.1 from by kernel_rfl) (fun x=>by rw [Yne fu fu,Yke fu fu];rfl) (Ba ⟨⟨TI,Tryz.call150,fun _=>A9 rfl⟩,⟨⟨Yiv,Tryz.call156,fun _=>A9 rfl⟩,⟨⟨RJ,Tryz.call202,fun _=>A9 rfl⟩,⟨⟨VV,Tryz.call201,nw⟩,⟨⟨Zbc,Tryz.call203,fun _=>A9 rfl⟩,trivial⟩⟩⟩⟩⟩)
abbrev ay:=BK.env (AM.look []) (kq [(0,⟨tt [0,5,8,9,10],[]⟩)] [] [4])
def jS:=bd Tryz.f157
abbrev Zcc:=fin ay [.tmp 4] [] [(A7,[⟨0,1,0,1⟩])]
def Zmz:=AU 3 jS
def Yoe (m0:Nat):=Bt ay m0 Zmz 0 Zcc
def Ype (m0:Nat):=Bo 0 (Yoe m0)
def Znz:=Bk 2 (Bg (Bv (AU 2 jS)))
def xc (m0 n:Nat):Gz.A0:=fun x1 x2 x3 x4 x5=>ej ay n (.loop Znz) 0 (mk [(0, .dat A7 x1 []),(5, .dat A7 x2 [⟨0,321,0,1⟩]),(8, .dat A7 x3 []),(9, .dat AN x4 []),(10, .dat AN x5 [])] []) (Ype m0)
theorem Yqe (m0:Nat):∀ n,xc m0 n=Gz.l0 n:=BG (S:=Gz.S0) fun n=>by kernel_rfl
abbrev xd:=AM.spec [.val A7, .val A7] [(A7,[⟨0,1,0,1⟩])] fun x=>Gz x.1 x.2.1
theorem Ylv:AY Tryz.prog 157 xd:=BR Bb (fn:=Tryz.f157) (fun m x=>show run ay jS m x Zcc=Gz.S (xc m m) x.1 x.2.1 from by kernel_rfl) (fun x=>by rw [Yqe fu fu];rfl) (Ba trivial)
abbrev iH:=AM.spec [.val .str, .val AN] [(A7,[⟨0,1,0,1⟩]),(AN,[])] fun x=>SM x.1 x.2.1
theorem Zje:AY Tryz.prog 94 iH:=BV Bb (fn:=Tryz.f94) (lk:=(AM.look [(155,xb),(157,xd)])) (ks:=(kz [4,5])) (ts:=[.tmp 4, .tmp 5]) (fun _=>by kernel_rfl) (Ba ⟨⟨Ykv,Tryz.call155,nw⟩,⟨⟨Ylv,Tryz.call157,nw⟩,trivial⟩⟩)
abbrev xe:=AM.spec [.val .str, .val AN, .val AN] [(A7,[]),(AN,[])] fun x=>UT x.1 x.2.1 x.2.2.1
theorem Ymv:AY Tryz.prog 189 xe:=BV Bb (fn:=Tryz.f189) (lk:=(AM.look [(223,wu),(89,ZI),(224,gL),(225,wW),(94,iH),(201,Tx)])) (ks:=(kz [6,7])) (ts:=[.tmp 6, .tmp 7]) (fun _=>by kernel_rfl) (Ba ⟨⟨Ywu,Tryz.call223,nw⟩,⟨⟨kM,Tryz.call89,nw⟩,⟨⟨Zxb,Tryz.call224,nw⟩,⟨⟨Yhv,Tryz.call225,nw⟩,⟨⟨Zje,Tryz.call94,nw⟩,⟨⟨VV,Tryz.call201,nw⟩,trivial⟩⟩⟩⟩⟩⟩)
abbrev V6:=BK.env (AM.look []) (kq [(0,⟨tt [0,1,6],[]⟩)] [(8,⟨tt [1,6],[]⟩)] [4,5])
def jT:=bd Tryz.f226
abbrev jU:=fin V6 [.tmp 4, .tmp 5] [] [(Cs,[⟨0,1,0,1⟩]),(AN,[])]
def rl:=AU 3 jT
def gT (m0 n:Nat):DU.A1:=fun x4 x5=>ej V6 n (.tail rl) 0 (mk [(1, .dat AN x4 []),(6, .dat Cs x5 [⟨0,385,0,1⟩])] []) jU
theorem Yre (m0:Nat):∀ n,gT m0 n=DU.t1 n:=ind rfl fun n _=>by kernel_rfl
def Yse (m0:Nat):=Bt V6 m0 rl 0 jU
def Yte (m0:Nat):=Bo 0 (Yse m0)
def Zoz:=Bk 3 (AU 2 jT)
def xf (m0 n:Nat):DU.A0:=fun x1 x2 x3=>ej V6 n (.loop Zoz) 0 (mk [(0, .dat .str x1 []),(1, .dat AN x2 []),(6, .dat Cs x3 [⟨0,385,0,1⟩])] []) (Yte m0)
theorem Yue (m0:Nat):∀ n,xf m0 n=DU.l0 (gT m0 m0) n:=BG (S:=DU.S0 (gT m0 m0)) fun n=>by kernel_rfl
abbrev xg:=AM.spec [.val .str, .val AN] [(Cs,[⟨0,1,0,1⟩]),(AN,[])] fun x=>DU x.1 x.2.1
theorem Ynv:AY Tryz.prog 226 xg:=BR Bb (fn:=Tryz.f226) (fun m x=>show run V6 jT m x jU=DU.S (xf m m) x.1 x.2.1 from by kernel_rfl) (fun x=>by rw [Yue fu fu,Yre fu fu];rfl) (Ba trivial)
abbrev RL:=BK.env (AM.look [(150,Rx),(89,ZI),(224,gL)]) ⟨[(0,⟨tt [0,1,6,7,9,37,38],[]⟩),(2,⟨tt [6,9,13,91,92,93],[]⟩)],[],[(17,⟨tt [0,1,6,7,9],[]⟩)],⟨tt [4,5],[]⟩,[],[150],[],[]⟩
def V7:=bd Tryz.f227
abbrev az:=fin RL [.tmp 4, .tmp 5] [] [(Cs,[⟨0,1,0,1⟩]),(AN,[])]
def Zpz:=AU 12 V7
def Yve (m0 m1:Nat):=Bt RL m1 Zpz 0 az
def Ywe (m0 m1:Nat):=Bo 2 (Yve m0 m1)
def Zqz:=Bk 2 (Bg (Bv (AU 11 V7)))
def xh (m0 m1 n:Nat):Cr.A2:=fun B6 Di DZ CW DJ Ef=>ej RL n (.loop Zqz) 2 (mk [(6, .dat AN B6 []),(9, .dat Cs Di [⟨0,577,0,1⟩]),(13, .dat Cs DZ [⟨0,833,0,1⟩]),(91, .dat A7 CW [⟨0,5825,0,1⟩]),(92, .dat AN DJ []),(93, .dat AN Ef [])] []) (Ywe m0 m1)
theorem Yxe (m0 m1:Nat):∀ n,xh m0 m1 n=Cr.l2 n:=BG (S:=Cr.S2) fun n=>by kernel_rfl
def rm:=AU 6 V7
def gU (m0 n:Nat):Cr.A1:=fun x9 Bc BB BQ BC=>ej RL n (.tail rm) 0 (mk [(0, .dat .str x9 []),(1, .dat AN Bc []),(6, .dat AN BB []),(7, .dat AN BQ []),(9, .dat Cs BC [⟨0,577,0,1⟩])] []) az
theorem Yye (m0:Nat):∀ n,gU m0 n=Cr.t1 n:=ind rfl fun n _=>(show _=Cr.S1 (xh m0 n n) from by kernel_rfl).trans (by rw [Yxe m0 n n];rfl)
def Yze (m0:Nat):=Bt RL m0 rm 0 az
def Yaf (m0:Nat):=Bo 0 (Yze m0)
def Zrz:=Bk 2 (Bg (Bv (AU 5 V7)))
def xl (m0 n:Nat):Cr.A0:=fun x2 x3 x4 x5 x6 x7 x8=>ej RL n (.loop Zrz) 0 (mk [(0, .dat .str x2 []),(1, .dat AN x3 []),(6, .dat AN x4 []),(7, .dat AN x5 []),(9, .dat Cs x6 [⟨0,577,0,1⟩]),(37, .dat AN x7 []),(38, .dat AN x8 [])] []) (Yaf m0)
theorem Ybf (m0:Nat):∀ n,xl m0 n=Cr.l0 (gU m0 m0) n:=BG (S:=Cr.S0 (gU m0 m0)) fun n=>by kernel_rfl
abbrev xm:=AM.spec [.val .str, .val AN] [(Cs,[⟨0,1,0,1⟩]),(AN,[])] fun x=>Cr x.1 x.2.1
theorem Yov:AY Tryz.prog 227 xm:=BR Bb (fn:=Tryz.f227) (fun m x=>show run RL V7 m x az=Cr.S (xl m m) x.1 x.2.1 from by kernel_rfl) (fun x=>by rw [Ybf fu fu,Yye fu fu];rfl) (Ba ⟨⟨TI,Tryz.call150,fun _=>A9 rfl⟩,⟨⟨kM,Tryz.call89,nw⟩,⟨⟨Zxb,Tryz.call224,nw⟩,trivial⟩⟩⟩)
abbrev xo:=AM.spec [.val .str] [(.str,[]),(AN,[])] fun x=>X4 x.1
theorem Ypv:AY Tryz.prog 154 xo:=BV Bb (fn:=Tryz.f154) (lk:=(AM.look [])) (ks:=(kz [2,3])) (ts:=[.tmp 2, .tmp 3]) (fun _=>by kernel_rfl) (Ba trivial)
abbrev Qx:=BK.env (AM.look [(150,Rx),(154,xo),(202,Qh),(201,Tx),(203,gQ)]) ⟨[(0,⟨tt [0,1,2,9,10,12,47,48],[]⟩),(2,⟨tt [9,12,16,17,98,99,100],tt [97]⟩)],[],[(20,⟨tt [0,1,9,10,12],[]⟩),(31,⟨tt [12,16,17],tt [97]⟩)],⟨tt [6,7,8],[]⟩,[17,97,111,115],[150,154,202,203],[],[89]⟩
def V8:=bd Tryz.f153
abbrev V9:=fin Qx [.tmp 6, .tmp 7, .tmp 8] [] [(Cs,[⟨0,1,0,1⟩]),(A7,[]),(AN,[])]
def rn:=AU 11 V8
def gV (m0 n:Nat):BW.A3:=fun IU IV IW=>ej Qx n (.tail rn) 0 (mk [(12, .dat Cs IU [⟨0,769,0,1⟩]),(16, .dat A7 IV []),(17, .slw 97 0)] [(97,some (.arr .bool IW false))]) V9
theorem Ycf (m0 m1:Nat):∀ n,gV m0 n=BW.t3 n:=ind rfl fun n _=>by kernel_rfl
def Ydf (m0 m1:Nat):=Bt Qx m1 rn 0 V9
def Yef (m0 m1:Nat):=Bo 2 (Ydf m0 m1)
def Zsz:=Bk 2 (Bg (Bv (AU 10 V8)))
def xp (m0 m1 n:Nat):BW.A2:=fun Di DZ CW DJ Ef EN Hn=>ej Qx n (.loop Zsz) 2 (mk [(9, .dat AN Di []),(12, .dat Cs DZ [⟨0,769,0,1⟩]),(16, .dat A7 CW []),(17, .slw 97 0),(98, .dat A7 DJ []),(99, .dat AN Ef []),(100, .dat AN EN [])] [(97,some (.arr .bool Hn false))]) (Yef m0 m1)
theorem Yff (m0 m1:Nat):∀ n,xp m0 m1 n=BW.l2 (gV m0 m1) n:=BG (S:=BW.S2 (gV m0 m1)) fun n=>by kernel_rfl
def rp:=AU 7 V8
def gW (m0 n:Nat):BW.A1:=fun Bc BB BQ BC BS=>ej Qx n (.tail rp) 0 (mk [(0, .dat .str Bc []),(1, .dat AN BB []),(9, .dat AN BQ []),(10, .dat AN BC []),(12, .dat Cs BS [⟨0,769,0,1⟩])] []) V9
theorem Ygf (m0:Nat):∀ n,gW m0 n=BW.t1 n:=ind rfl fun n _=>(show _=BW.S1 (xp m0 n n) from by kernel_rfl).trans (by rw [Yff m0 n n,Ycf m0 n n];rfl)
def Yhf (m0:Nat):=Bt Qx m0 rp 0 V9
def Yif (m0:Nat):=Bo 0 (Yhf m0)
def Ztz:=Bk 2 (Bg (Bv (AU 6 V8)))
def xq (m0 n:Nat):BW.A0:=fun x2 x3 x4 x5 x6 x7 x8=>ej Qx n (.loop Ztz) 0 (mk [(0, .dat .str x2 []),(1, .dat AN x3 []),(2, .fn 154 []),(9, .dat AN x4 []),(10, .dat AN x5 []),(12, .dat Cs x6 [⟨0,769,0,1⟩]),(47, .dat AN x7 []),(48, .dat AN x8 [])] []) (Yif m0)
theorem Yjf (m0:Nat):∀ n,xq m0 n=BW.l0 (gW m0 m0) n:=BG (S:=BW.S0 (gW m0 m0)) fun n=>by kernel_rfl
abbrev xr:=AM.spec [.val .str, .val AN, .fn 154 []] [(Cs,[⟨0,1,0,1⟩]),(A7,[]),(AN,[])] fun x=>BW x.1 x.2.1
theorem Yqv:AY Tryz.prog 153 xr:=BR Bb (fn:=Tryz.f153) (fun m x=>show run Qx V8 m x V9=BW.S (xq m m) x.1 x.2.1 from by kernel_rfl) (fun x=>by rw [Yjf fu fu,Ygf fu fu];rfl) (Ba ⟨⟨TI,Tryz.call150,fun _=>A9 rfl⟩,⟨⟨Ypv,Tryz.call154,fun _=>A9 rfl⟩,⟨⟨RJ,Tryz.call202,fun _=>A9 rfl⟩,⟨⟨VV,Tryz.call201,nw⟩,⟨⟨Zbc,Tryz.call203,fun _=>A9 rfl⟩,trivial⟩⟩⟩⟩⟩)
abbrev iE:=AM.spec [.val .str, .val AN] [(Cs,[⟨0,1,0,1⟩]),(A7,[]),(AN,[])] fun x=>PX x.1 x.2.1
theorem Zee:AY Tryz.prog 93 iE:=BV Bb (fn:=Tryz.f93) (lk:=(AM.look [(153,xr)])) (ks:=(kz [4,5,6])) (ts:=[.tmp 4, .tmp 5, .tmp 6]) (fun _=>by kernel_rfl) (Ba ⟨⟨Yqv,Tryz.call153,nw⟩,trivial⟩)
abbrev aA:=BK.env (AM.look []) (kq [(0,⟨tt [0,5,8,9,10],[]⟩)] [] [4])
def jV:=bd Tryz.f255
abbrev Zdc:=fin aA [.tmp 4] [] [(Cs,[⟨0,1,0,1⟩])]
def Zuz:=AU 3 jV
def Ykf (m0:Nat):=Bt aA m0 Zuz 0 Zdc
def Ylf (m0:Nat):=Bo 0 (Ykf m0)
def Zvz:=Bk 2 (Bg (Bv (AU 2 jV)))
def xt (m0 n:Nat):Gy.A0:=fun x1 x2 x3 x4 x5=>ej aA n (.loop Zvz) 0 (mk [(0, .dat Cs x1 []),(5, .dat Cs x2 [⟨0,321,0,1⟩]),(8, .dat A7 x3 []),(9, .dat AN x4 []),(10, .dat AN x5 [])] []) (Ylf m0)
theorem Ymf (m0:Nat):∀ n,xt m0 n=Gy.l0 n:=BG (S:=Gy.S0) fun n=>by kernel_rfl
abbrev xu:=AM.spec [.val Cs, .val A7] [(Cs,[⟨0,1,0,1⟩])] fun x=>Gy x.1 x.2.1
theorem Yrv:AY Tryz.prog 255 xu:=BR Bb (fn:=Tryz.f255) (fun m x=>show run aA jV m x Zdc=Gy.S (xt m m) x.1 x.2.1 from by kernel_rfl) (fun x=>by rw [Ymf fu fu];rfl) (Ba trivial)
abbrev xv:=AM.spec [.val .str, .val AN] [(Cs,[⟨0,1,0,1⟩]),(AN,[])] fun x=>XX x.1 x.2.1
theorem Ysv:AY Tryz.prog 228 xv:=BV Bb (fn:=Tryz.f228) (lk:=(AM.look [(93,iE),(255,xu)])) (ks:=(kz [4,5])) (ts:=[.tmp 4, .tmp 5]) (fun _=>by kernel_rfl) (Ba ⟨⟨Zee,Tryz.call93,nw⟩,⟨⟨Yrv,Tryz.call255,nw⟩,trivial⟩⟩)
abbrev xw:=AM.spec [.val .str, .val AN, .val AN] [(Cs,[⟨0,1,0,1⟩]),(AN,[])] fun x=>UK x.1 x.2.1 x.2.2.1
theorem Ytv:AY Tryz.prog 190 xw:=BV Bb (fn:=Tryz.f190) (lk:=(AM.look [(226,xg),(227,xm),(228,xv)])) (ks:=(kz [6,7])) (ts:=[.tmp 6, .tmp 7]) (fun _=>by kernel_rfl) (Ba ⟨⟨Ynv,Tryz.call226,nw⟩,⟨⟨Yov,Tryz.call227,nw⟩,⟨⟨Ysv,Tryz.call228,nw⟩,trivial⟩⟩⟩)
abbrev RM:=BK.env (AM.look [(189,xe),(190,xw)]) (kq [(1,⟨tt [5,8,10,29,30,31],tt [5]⟩),(3,⟨tt [5,8,14,55,56,57],tt [5]⟩)] [] [6,7])
def TM:=bd Tryz.f141
abbrev Zec:=fin RM [.tmp 6, .tmp 7] [] [(Cx,[⟨0,1,0,3⟩]),(AN,[])]
def Zwz:=AU 3 TM
def Ynf (m0:Nat):=Bt RM m0 Zwz 0 Zec
def tw (m0:Nat):=Bo 0 (Ynf m0)
def Zxz:=AU 2 (Bv (Bg (Bv (Bg (Bv (AU 2 TM))))))
def Yof (m0:Nat):=Bt RM m0 Zxz 0 (tw m0)
def Ypf (m0:Nat):=Bo 1 (Yof m0)
def Zyz:=Bk 2 (Bg (Bv (Bg (Bv (Bg (Bv (Bg (Bv (AU 2 TM)))))))))
def xx (m0 n:Nat):CV.A0:=fun x2 x3 x4 x5 x6 x7=>ej RM n (.loop Zyz) 1 (mk [(5, .ptr 5 0 0),(8, .dat Cx x2 [⟨0,513,0,3⟩]),(10, .dat AN x3 []),(29, .dat A7 x4 []),(30, .dat AN x5 []),(31, .dat AN x6 [])] [(5,some (.var T8 x7 []))]) (Ypf m0)
theorem Yqf (m0:Nat):∀ n,xx m0 n=CV.l0 n:=BG (S:=CV.S0) fun n=>by kernel_rfl
def Zzz:=AU 2 (Bv (AU 3 (Bv (Bg (Bv (AU 2 TM))))))
def Yrf (m0:Nat):=Bt RM m0 Zzz 0 (tw m0)
def Ysf (m0:Nat):=Bo 3 (Yrf m0)
def Za0:=Bk 2 (Bg (Bv (Bg (Bv (AU 3 (Bv (Bg (Bv (AU 2 TM)))))))))
def xy (m0 n:Nat):CV.A1:=fun x9 Bc BB BQ BC BS=>ej RM n (.loop Za0) 3 (mk [(5, .ptr 5 0 0),(8, .dat Cx x9 [⟨0,513,0,3⟩]),(14, .dat AN Bc []),(55, .dat Cs BB [⟨0,3521,0,1⟩]),(56, .dat AN BQ []),(57, .dat AN BC [])] [(5,some (.var T8 BS []))]) (Ysf m0)
theorem Ytf (m0:Nat):∀ n,xy m0 n=CV.l1 n:=BG (S:=CV.S1) fun n=>by kernel_rfl
abbrev xz:=AM.spec [.val .str, .val AN, .val T8] [(Cx,[⟨0,1,0,3⟩]),(AN,[])] fun x=>CV x.1 x.2.1 x.2.2.1
theorem Yuv:AY Tryz.prog 141 xz:=BR Bb (fn:=Tryz.f141) (fun m x=>show run RM TM m x Zec=CV.S (xx m m) (xy m m) x.1 x.2.1 x.2.2.1 from by kernel_rfl) (fun x=>by rw [Ytf fu fu,Yqf fu fu];rfl) (Ba ⟨⟨Ymv,Tryz.call189,nw⟩,⟨⟨Ytv,Tryz.call190,nw⟩,trivial⟩⟩)
abbrev Zx:=AM.spec [.val Gq] [(.bool,[])] fun x=>some (OH x.1)
theorem jW:AY Tryz.prog 192 Zx:=BV Bb (fn:=Tryz.f192) (lk:=(AM.look [])) (ks:=(kz [2])) (ts:=[.tmp 2]) (fun _=>by kernel_rfl) (Ba trivial)
abbrev Zy:=BK.env (AM.look [(192,Zx)]) ⟨[(0,⟨tt [0,1,7,8],[]⟩)],[],[],⟨tt [4],[]⟩,[],[192],[],[]⟩
def gX:=bd Tryz.f229
abbrev xA:=fin Zy [.tmp 4] [] [(AN,[])]
def Zer:=AU 2 gX
def Zb0 (m0:Nat):=Bt Zy m0 Zer 0 xA
def Zc0 (m0:Nat):=Bo 0 (Zb0 m0)
def Zfr:=Bk 2 (Bg (Bv (Bg gX)))
def tx (m0 n:Nat):Gw.A0:=fun x1 x2 x3=>ej Zy n (.loop Zfr) 0 (mk [(0, .dat Cx x1 []),(1, .fn 192 []),(7, .dat AN x2 []),(8, .dat AN x3 [])] []) (Zc0 m0)
theorem Zd0 (m0:Nat):∀ n,tx m0 n=Gw.l0 n:=BG (S:=Gw.S0) fun n=>by kernel_rfl
abbrev tz:=AM.spec [.val Cx, .fn 192 []] [(AN,[])] fun x=>Gw x.1
theorem Ywo:AY Tryz.prog 229 tz:=BR Bb (fn:=Tryz.f229) (fun m x=>show run Zy gX m x xA=Gw.S (tx m m) x.1 from by kernel_rfl) (fun x=>by rw [Zd0 fu fu];rfl) (Ba ⟨⟨jW,Tryz.call192,fun _=>A9 rfl⟩,trivial⟩)
abbrev tA:=AM.spec [.val Cx, .fn 192 []] [(.bool,[])] fun x=>XO x.1
theorem Yxo:AY Tryz.prog 191 tA:=BV Bb (fn:=Tryz.f191) (lk:=(AM.look [(229,tz)])) (ks:=⟨[],[],[],⟨tt [4],[]⟩,[],[229],[],[]⟩) (ts:=[.tmp 4]) (fun _=>by kernel_rfl) (Ba ⟨⟨Ywo,Tryz.call229,fun _=>A9 rfl⟩,trivial⟩)
abbrev aB:=BK.env (AM.look [(188,gI),(140,gJ),(191,tA)]) ⟨[(0,⟨tt [2,8,12,42,43],tt [40]⟩)],[],[],⟨tt [6,7],tt [6,40]⟩,[6,12,40,41,51,60],[140,191],[],[]⟩
def jX:=bd Tryz.f142
abbrev Zfc:=fin aB [.tmp 6, .tmp 7] [] [(Cx,[]),(AN,[])]
def Ze0:=AU 7 jX
def Yuf (m0:Nat):=Bt aB m0 Ze0 0 Zfc
def Yvf (m0:Nat):=Bo 0 (Yuf m0)
def Zf0:=Bk 2 (Bg (Bv (AU 6 jX)))
def xB (m0 n:Nat):FM.A0:=fun x4 x5 x6 x7 x8=>ej aB n (.loop Zf0) 0 (mk [(2, .dat Cx x4 []),(8, .dat A7 x5 []),(12, .slw 40 0),(42, .dat AN x6 []),(43, .dat AN x7 [])] [(40,some (.arr Gq x8 false))]) (Yvf m0)
theorem Ywf (m0:Nat):∀ n,xB m0 n=FM.l0 n:=BG (S:=FM.S0) fun n=>by kernel_rfl
abbrev xC:=AM.spec [.val .str, .val AN, .val Cx] [(Cx,[]),(AN,[])] fun x=>FM x.1 x.2.1 x.2.2.1
theorem Yvv:AY Tryz.prog 142 xC:=BR Bb (fn:=Tryz.f142) (fun m x=>show run aB jX m x Zfc=FM.S (xB m m) x.1 x.2.1 x.2.2.1 from by kernel_rfl) (fun x=>by rw [Ywf fu fu];rfl) (Ba ⟨⟨Znb,Tryz.call188,nw⟩,⟨⟨Zpb,Tryz.call140,fun _=>A9 rfl⟩,⟨⟨Yxo,Tryz.call191,fun _=>A9 rfl⟩,trivial⟩⟩⟩)
abbrev iA:=AM.spec [.val Gq] [(AN,[])] fun x=>some (EJ x.1)
theorem Zvd:AY Tryz.prog 88 iA:=BV Bb (fn:=Tryz.f88) (lk:=(AM.look [])) (ks:=(kz [2])) (ts:=[.tmp 2]) (fun x=>(show _=EJ.o x.1 from by kernel_rfl).trans (by unfold EJ.o EJ;simp only [KN])) (Ba trivial)
abbrev xD:=AM.spec [.val Gq, .ref AN] [(.bool,[])] fun x=>some (KL x.1 x.2.1)
theorem Ywv:AY Tryz.prog 230 xD:=BV Bb (fn:=Tryz.f230) (lk:=(AM.look [(88,iA)])) (ks:=⟨[],[],[],⟨tt [3],[]⟩,[],[88],[],[]⟩) (ts:=[.tmp 3]) (fun x=>(show _=KL.o x.1 x.2.1 from by kernel_rfl).trans (by unfold KL.o KL;simp only [KN])) (Ba ⟨⟨Zvd,Tryz.call88,fun _=>A9 rfl⟩,trivial⟩)
abbrev Zz:=BK.env (AM.look [(230,xD)]) ⟨[(0,⟨tt [0,1,7,8],[]⟩)],[],[],⟨tt [4],[]⟩,[],[230],[],[]⟩
def gY:=bd Tryz.f229
abbrev xE:=fin Zz [.tmp 4] [] [(AN,[])]
def Zgr:=AU 2 gY
def Zg0 (m0:Nat):=Bt Zz m0 Zgr 0 xE
def Zh0 (m0:Nat):=Bo 0 (Zg0 m0)
def Zhr:=Bk 2 (Bg (Bv (Bg gY)))
def tC (m0 n:Nat):Gv.A0:=fun x1 x2 x3 x4=>ej Zz n (.loop Zhr) 0 (mk [(0, .dat Cx x1 []),(1, .fn 230 [⟨AN,x2,[]⟩]),(7, .dat AN x3 []),(8, .dat AN x4 [])] []) (Zh0 m0)
theorem Zi0 (m0:Nat):∀ n,tC m0 n=Gv.l0 n:=BG (S:=Gv.S0) fun n=>by kernel_rfl
abbrev tD:=AM.spec [.val Cx, .fn 230 [AN]] [(AN,[])] fun x=>Gv x.1 x.2.1.1
theorem Yyo:AY Tryz.prog 229 tD:=BR Bb (fn:=Tryz.f229) (fun m x=>show run Zz gY m x xE=Gv.S (tC m m) x.1 x.2.1.1 from by kernel_rfl) (fun x=>by rw [Zi0 fu fu];rfl) (Ba ⟨⟨Ywv,Tryz.call230,fun _=>A9 rfl⟩,trivial⟩)
abbrev tE:=AM.spec [.val Cx, .fn 230 [AN]] [(.bool,[])] fun x=>UD x.1 x.2.1.1
theorem Yzo:AY Tryz.prog 191 tE:=BV Bb (fn:=Tryz.f191) (lk:=(AM.look [(229,tD)])) (ks:=⟨[],[],[],⟨tt [4],[]⟩,[],[229],[],[]⟩) (ts:=[.tmp 4]) (fun _=>by kernel_rfl) (Ba ⟨⟨Yyo,Tryz.call229,fun _=>A9 rfl⟩,trivial⟩)
abbrev xF:=AM.spec [.val Cx, .val AN] [(.bool,[])] fun x=>SX x.1 x.2.1
theorem Yxv:AY Tryz.prog 193 xF:=BV Bb (fn:=Tryz.f193) (lk:=(AM.look [(191,tE)])) (ks:=⟨[],[],[],⟨tt [4],[]⟩,[],[191],[],[]⟩) (ts:=[.tmp 4]) (fun _=>by kernel_rfl) (Ba ⟨⟨Yzo,Tryz.call191,fun _=>A9 rfl⟩,trivial⟩)
abbrev gZ:=AM.spec [.val Gq] [(.bool,[])] fun x=>some (UF x.1)
theorem Zgc:AY Tryz.prog 233 gZ:=BV Bb (fn:=Tryz.f233) (lk:=(AM.look [(192,Zx)])) (ks:=⟨[],[],[],⟨tt [2],[]⟩,[],[192],[],[]⟩) (ts:=[.tmp 2]) (fun _=>by kernel_rfl) (Ba ⟨⟨jW,Tryz.call192,fun _=>A9 rfl⟩,trivial⟩)
abbrev ZA:=BK.env (AM.look [(233,gZ)]) ⟨[(0,⟨tt [0,1,7,8],tt [1000000]⟩)],[],[],⟨tt [4],tt [1000000]⟩,[],[233],[],[]⟩
def hO:=bd Tryz.f229
abbrev xG:=fin ZA [.tmp 4] [.ioa Gq] [(AN,[]),(Cx,[])]
def Zir:=AU 2 hO
def Zj0 (m0:Nat):=Bt ZA m0 Zir 0 xG
def Zk0 (m0:Nat):=Bo 0 (Zj0 m0)
def Zjr:=Bk 2 (Bg (Bv (Bg hO)))
def tF (m0 n:Nat):Gf.A0:=fun x1 x2 x3=>ej ZA n (.loop Zjr) 0 (mk [(0, .slw 1000000 0),(1, .fn 233 []),(7, .dat AN x1 []),(8, .dat AN x2 [])] [(1000000,some (.arr Gq x3 false))]) (Zk0 m0)
theorem Zl0 (m0:Nat):∀ n,tF m0 n=Gf.l0 n:=BG (S:=Gf.S0) fun n=>by kernel_rfl
abbrev tG:=AM.Gp 1 [.ioa Gq, .fn 233 []] [(AN,[]),(Cx,[])] fun x=>Gf x.1
theorem Yap:AY Tryz.prog 229 tG:=RP Bb (fn:=Tryz.f229) (ts:=[.tmp 4]) (fun m x=>show run ZA hO m x xG=Gf.S (tF m m) x.1 from by kernel_rfl) (fun x=>by rw [Zl0 fu fu];rfl) (Ba ⟨⟨Zgc,Tryz.call233,fun _=>A9 rfl⟩,trivial⟩)
abbrev aC:=BK.env (AM.look [(229,tG),(233,gZ)]) ⟨[(0,⟨tt [0,1,5,6],tt [1000000]⟩)],[],[(11,⟨tt [0,5],tt [1000000]⟩)],⟨tt [4],tt [1000000]⟩,[0,4,8,13,17,22,30,36,38,39,41],[233],[(229,[true])],[]⟩
def jY:=bd Tryz.f231
abbrev jZ:=W2 0 4 [.ioa Gq] [(AN,[]),(Cx,[])]
def rq:=AU 4 jY
def hX (m0 n:Nat):DL.A1:=fun x6 x7=>ej aC n (.tail rq) 0 (mk [(0, .slw 1000000 0),(5, .dat AN x6 [])] [(1000000,some (.arr Gq x7 false))]) jZ
theorem Yxf (m0:Nat):∀ n,hX m0 n=DL.t1 n:=ind rfl fun n _=>by kernel_rfl
def Yyf (m0:Nat):=Bt aC m0 rq 0 jZ
def Yzf (m0:Nat):=Bo 0 (Yyf m0)
def Zm0:=Bk 2 (Bg (Bv (AU 3 jY)))
def xH (m0 n:Nat):DL.A0:=fun x2 x3 x4=>ej aC n (.loop Zm0) 0 (mk [(0, .slw 1000000 0),(1, .fn 233 []),(5, .dat AN x2 []),(6, .dat AN x3 [])] [(1000000,some (.arr Gq x4 false))]) (Yzf m0)
theorem Yag (m0:Nat):∀ n,xH m0 n=DL.l0 (hX m0 m0) n:=BG (S:=DL.S0 (hX m0 m0)) fun n=>by kernel_rfl
abbrev xI:=AM.O0 0 [.ioa Gq, .fn 233 []] [(AN,[]),(Cx,[])] fun x=>DL x.1
theorem Yyv:AY Tryz.prog 231 xI:=Yy0 Bb (fn:=Tryz.f231) (fun m x=>show run aC jY m x jZ=DL.S (xH m m) x.1 from by kernel_rfl) (fun x=>by rw [Yag fu fu,Yxf fu fu];rfl) (Ba ⟨⟨Yap,Tryz.call229,nw⟩,⟨⟨Zgc,Tryz.call233,fun _=>A9 rfl⟩,trivial⟩⟩)
abbrev Wa:=BK.env (AM.look [(232,nO),(231,xI),(192,Zx),(234,Tz)]) ⟨[(0,⟨tt [4,5,22,23,24],tt [11,21]⟩)],[],[(11,⟨tt [4,5],tt [11,21]⟩)],⟨tt [2,3],tt [11]⟩,[5,11,21,31,36],[192,234],[(231,[true])],[]⟩
def j7:=bd Tryz.f194
abbrev j8:=fin Wa [.tmp 2, .tmp 3] [] [(.str,[]),(Cx,[])]
def xJ:=AU 5 j7
def hZ (m0 n:Nat):DC.A1:=fun BB BQ BC BS=>ej Wa n (.tail xJ) 0 (mk [(4, .slm 11 0 BB BQ),(5, .slw 21 0)] [(11,some (.arr Gq BC false)),(21,some (.arr AN BS false))]) j8
theorem Yzv (m0:Nat):∀ n,hZ m0 n=DC.t1 n:=ind rfl fun n _=>by kernel_rfl
def Yaw (m0:Nat):=Bt Wa m0 xJ 0 j8
def Ybg (m0:Nat):=Bo 0 (Yaw m0)
def Zn0:=Bk 2 (Bg (Bv (AU 4 j7)))
def xK (m0 n:Nat):DC.A0:=fun x3 x4 x5 x6 x7 x8 x9=>ej Wa n (.loop Zn0) 0 (mk [(4, .slm 11 0 x3 x4),(5, .slw 21 0),(22, .dat Cx x5 []),(23, .dat AN x6 []),(24, .dat AN x7 [])] [(11,some (.arr Gq x8 false)),(21,some (.arr AN x9 false))]) (Ybg m0)
theorem Ycg (m0:Nat):∀ n,xK m0 n=DC.l0 (hZ m0 m0) n:=BG (S:=DC.S0 (hZ m0 m0)) fun n=>by kernel_rfl
abbrev xL:=AM.spec [.val Cx] [(.str,[]),(Cx,[])] fun x=>DC x.1
theorem Ybw:AY Tryz.prog 194 xL:=BR Bb (fn:=Tryz.f194) (fun m x=>show run Wa j7 m x j8=DC.S (xK m m) x.1 from by kernel_rfl) (fun x=>by rw [Ycg fu fu,Yzv fu fu];rfl) (Ba ⟨⟨Zqi,Tryz.call232,nw⟩,⟨⟨Yyv,Tryz.call231,nw⟩,⟨⟨jW,Tryz.call192,fun _=>A9 rfl⟩,⟨⟨V0,Tryz.call234,fun _=>A9 rfl⟩,trivial⟩⟩⟩⟩)
abbrev RN:=BK.env (AM.look []) (kq [(0,⟨tt [3,11,12,13],[]⟩),(2,⟨tt [3,6,11,12,13,19],[]⟩)] [] [2])
def j9:=bd Tryz.f256
abbrev Zhc:=fin RN [.tmp 2] [] [(.str,[])]
def Zo0:=AU 3 j9
def Ydg (m0:Nat):=Bt RN m0 Zo0 0 Zhc
def tH (m0:Nat):=Bo 0 (Ydg m0)
def YQ:=Bk 2 (Bg (Bv (AU 2 j9)))
def ZB (m0 n:Nat):CZ.A0:=fun x1 x2 x3 x4=>ej RN n (.loop YQ) 0 (mk [(3, .dat (.sl (.int .u8)) x1 [⟨0,193,0,0⟩]),(11, .dat A7 x2 []),(12, .dat AN x3 []),(13, .dat AN x4 [])] []) (tH m0)
def Yeg (m0 m1:Nat):=KG RN m1 YQ 0 (tH m0)
def Zp0:=AU 3 YQ
def Yfg (m0 m1:Nat):=Bt RN m1 Zp0 0 (Yeg m0 m1)
def Ygg (m0 m1:Nat):=Bo 1 (Yfg m0 m1)
def Yhg (m0 m1:Nat):=Bo 2 (Ygg m0 m1)
def Zq0:=Bk 2 (AU 3 (Bk 2 (AU 2 YQ)))
def xM (m0 m1 n:Nat):CZ.A1:=fun x5 x6 x7 x8 x9 Bc=>ej RN n (.loop Zq0) 2 (mk [(3, .dat (.sl (.int .u8)) x5 [⟨0,193,0,0⟩]),(6, .dat (.int .u64) x6 []),(11, .dat A7 x7 []),(12, .dat AN x8 []),(13, .dat AN x9 []),(19, .dat AN Bc [])] []) (Yhg m0 m1)
theorem Yig (m0 m1:Nat):∀ n,xM m0 m1 n=CZ.l1 (ZB m0 m1) n:=BG (S:=CZ.S1 (ZB m0 m1)) fun n=>by kernel_rfl
theorem Yjg (m0:Nat):∀ n,ZB m0 n=CZ.l0 n:=ind rfl fun n e0=>(show _=CZ.S0 (xM m0 n n) from by kernel_rfl).trans (by rw [Yig m0 n n,e0];rfl)
abbrev xN:=AM.spec [.val A7] [(.str,[])] fun x=>CZ x.1
theorem Ycw:AY Tryz.prog 256 xN:=BR Bb (fn:=Tryz.f256) (fun m x=>show run RN j9 m x Zhc=CZ.S (ZB m m) x.1 from by kernel_rfl) (fun x=>by rw [Yjg fu fu];rfl) (Ba trivial)
abbrev aD:=BK.env (AM.look []) ⟨[(0,⟨tt [0,3,9,10,11],tt [3]⟩)],[],[],⟨tt [2],tt [2,3]⟩,[2,3,27,32,33,34,44],[],[],[]⟩
def ka:=bd Tryz.f258
abbrev Zic:=fin aD [.tmp 2] [] [(It,[])]
def Zr0:=AU 4 ka
def Ykg (m0:Nat):=Bt aD m0 Zr0 0 Zic
def Ylg (m0:Nat):=Bo 0 (Ykg m0)
def Zs0:=Bk 2 (Bg (Bv (AU 3 ka)))
def xO (m0 n:Nat):EY.A0:=fun x1 x2 x3 x4 x5=>ej aD n (.loop Zs0) 0 (mk [(0, .dat A7 x1 []),(3, .slw 3 0),(9, .dat A7 x2 []),(10, .dat AN x3 []),(11, .dat AN x4 [])] [(3,some (.arr cj x5 false))]) (Ylg m0)
theorem Ymg (m0:Nat):∀ n,xO m0 n=EY.l0 n:=BG (S:=EY.S0) fun n=>by kernel_rfl
abbrev ia:=AM.spec [.val A7] [(It,[])] fun x=>EY x.1
theorem Zjc:AY Tryz.prog 258 ia:=BR Bb (fn:=Tryz.f258) (fun m x=>show run aD ka m x Zic=EY.S (xO m m) x.1 from by kernel_rfl) (fun x=>by rw [Ymg fu fu];rfl) (Ba trivial)
abbrev ZC:=AM.Gp 2 [.io (.pair (.lk false) (.sl (.int .u8))) [(1,0)], .val .str] [(AN,[]),((.lk true),[]),((.pair (.lk false) (.sl (.int .u8))),[⟨1,1,0,0⟩])] fun x=>Q7 x.1 x.2.1
theorem kb:AY Tryz.prog 268 ZC:=b8 Bb (fn:=Tryz.f268) (lk:=(AM.look [(283,dE)])) (ks:=⟨[],[],[],⟨tt [4,5],tt [1000000]⟩,[],[],[],[]⟩) (ts:=[.tmp 4, .tmp 5]) (fun _=>by kernel_rfl) (Ba ⟨⟨oV,Tryz.call283,nw⟩,trivial⟩)
abbrev aE:=BK.env (AM.look [(151,Zu),(263,Ry),(268,ZC),(269,X7)]) ⟨[(0,⟨tt [6,16,17,18],tt [6]⟩)],[],[],⟨tt [2,3],[]⟩,[],[151,263],[],[]⟩
def kc:=bd Tryz.f257
abbrev Zkc:=fin aE [.tmp 2, .tmp 3] [] [(.str,[]),(AN,[])]
def Zt0:=AU 4 kc
def Yng (m0:Nat):=Bt aE m0 Zt0 0 Zkc
def Yog (m0:Nat):=Bo 0 (Yng m0)
def Zu0:=Bk 2 (Bg (Bv (AU 3 kc)))
def xP (m0 n:Nat):Fl.A0:=fun x2 x3 x4 x5=>ej aE n (.loop Zu0) 0 (mk [(6, .ptr 6 0 0),(16, .dat It x2 []),(17, .dat AN x3 []),(18, .dat AN x4 [])] [(6,some (.var (.pair (.lk false) (.sl (.int .u8))) x5 [⟨1,64386,0,0⟩]))]) (Yog m0)
theorem Ypg (m0:Nat):∀ n,xP m0 n=Fl.l0 n:=BG (S:=Fl.S0) fun n=>by kernel_rfl
abbrev ib:=AM.spec [.val It] [(.str,[]),(AN,[])] fun x=>Fl x.1
theorem Zlc:AY Tryz.prog 257 ib:=BR Bb (fn:=Tryz.f257) (fun m x=>show run aE kc m x Zkc=Fl.S (xP m m) x.1 from by kernel_rfl) (fun x=>by rw [Ypg fu fu];rfl) (Ba ⟨⟨jI,Tryz.call151,fun _=>A9 rfl⟩,⟨⟨TK,Tryz.call263,fun _=>A9 rfl⟩,⟨⟨kb,Tryz.call268,nw⟩,⟨⟨dF,Tryz.call269,nw⟩,trivial⟩⟩⟩⟩)
abbrev fZ:=AM.spec [.val AN] [(.bool,[])] fun x=>some (cmp_isNaN_int x.1)
theorem yU:AY Tryz.prog 197 fZ:=BV Bb (fn:=Tryz.f197) (lk:=(AM.look [])) (ks:=(kz [2])) (ts:=[.tmp 2]) (fun _=>by kernel_rfl) (Ba trivial)
abbrev xQ:=AM.spec [.val AN, .val AN] [(.bool,[])] fun x=>some (cmp_Less_int x.1 x.2.1)
theorem Ydw:AY Tryz.prog 146 xQ:=BV Bb (fn:=Tryz.f146) (lk:=(AM.look [(197,fZ)])) (ks:=⟨[],[],[],⟨tt [4],[]⟩,[],[197],[],[]⟩) (ts:=[.tmp 4]) (fun x=>(show _=cmp_Less_int.o x.1 x.2.1 from by kernel_rfl).trans (by unfold cmp_Less_int.o cmp_Less_int;simp only [KN])) (Ba ⟨⟨yU,Tryz.call197,fun _=>A9 rfl⟩,trivial⟩)
abbrev xR:=AM.spec [.val AN] [(.bool,[])] fun x=>some (XT x.1)
theorem Yew:AY Tryz.prog 147 xR:=BV Bb (fn:=Tryz.f147) (lk:=(AM.look [])) (ks:=(kz [2])) (ts:=[.tmp 2]) (fun _=>by kernel_rfl) (Ba trivial)
abbrev WN:=BK.env (AM.look [(146,xQ),(147,xR)]) ⟨[(0,⟨tt [0,1,6,7,8],[]⟩)],[],[(8,⟨tt [0,1,6,7],[]⟩)],⟨tt [4,5],[]⟩,[],[146,147],[],[]⟩
def lG:=bd Tryz.f81
abbrev lH:=fin WN [.tmp 4, .tmp 5] [] [(AN,[]),(.bool,[])]
def tI:=AU 4 lG
def kd (m0 n:Nat):Dc.A1:=fun x7 x8 x9 Bc=>ej WN n (.tail tI) 0 (mk [(0, .dat A7 x7 []),(1, .dat AN x8 []),(6, .dat AN x9 []),(7, .dat AN Bc [])] []) lH
theorem Ybp (m0:Nat):∀ n,kd m0 n=Dc.t1 n:=ind rfl fun n _=>by kernel_rfl
def Ycp (m0:Nat):=Bt WN m0 tI 0 lH
def Ydp (m0:Nat):=Bo 0 (Ycp m0)
def Yqg:=Bk 3 (AU 3 lG)
def Zmc (m0 n:Nat):Dc.A0:=fun x1 x2 x3 x4 x5=>ej WN n (.loop Yqg) 0 (mk [(0, .dat A7 x1 []),(1, .dat AN x2 []),(6, .dat AN x3 []),(7, .dat AN x4 []),(8, .dat AN x5 [])] []) (Ydp m0)
theorem Yep (m0:Nat):∀ n,Zmc m0 n=Dc.l0 (kd m0 m0) n:=BG (S:=Dc.S0 (kd m0 m0)) fun n=>by kernel_rfl
abbrev ke:=AM.spec [.val A7, .val AN] [(AN,[]),(.bool,[])] fun x=>Dc x.1 x.2.1
theorem Ztf:AY Tryz.prog 81 ke:=BR Bb (fn:=Tryz.f81) (fun m x=>show run WN lG m x lH=Dc.S (Zmc m m) x.1 x.2.1 from by kernel_rfl) (fun x=>by rw [Yep fu fu,Ybp fu fu];rfl) (Ba ⟨⟨Ydw,Tryz.call146,fun _=>A9 rfl⟩,⟨⟨Yew,Tryz.call147,fun _=>A9 rfl⟩,trivial⟩⟩)
abbrev bM:=BK.env (AM.look [(114,nQ),(115,nT),(158,nN),(81,ke)]) ⟨[(0,⟨tt [4,5,16,17,18],tt [11]⟩)],[],[],⟨tt [2,3],tt [11]⟩,[2,4,11,12,14,15,23,33],[81],[(115,[true]),(158,[true])],[]⟩
def lI:=bd Tryz.f95
abbrev Zuf:=fin bM [.tmp 2, .tmp 3] [] [(A7,[]),(A7,[⟨0,1,0,1⟩])]
def Yrg:=AU 6 lI
def Yfp (m0:Nat):=Bt bM m0 Yrg 0 Zuf
def Ygp (m0:Nat):=Bo 0 (Yfp m0)
def Ysg:=Bk 2 (Bg (Bv (AU 5 lI)))
def Znc (m0 n:Nat):EV.A0:=fun x4 x5 x6 x7 x8 x9 Bc=>ej bM n (.loop Ysg) 0 (mk [(4, .slm 11 0 x4 x5),(5, .dat A7 x6 [⟨0,321,0,1⟩]),(16, .dat A7 x7 []),(17, .dat AN x8 []),(18, .dat AN x9 [])] [(11,some (.arr AN Bc false))]) (Ygp m0)
theorem Yhp (m0:Nat):∀ n,Znc m0 n=EV.l0 n:=BG (S:=EV.S0) fun n=>by kernel_rfl
abbrev Zoc:=AM.spec [.val A7] [(A7,[]),(A7,[⟨0,1,0,1⟩])] fun x=>EV x.1
theorem Zof:AY Tryz.prog 95 Zoc:=BR Bb (fn:=Tryz.f95) (fun m x=>show run bM lI m x Zuf=EV.S (Znc m m) x.1 from by kernel_rfl) (fun x=>by rw [Yhp fu fu];rfl) (Ba ⟨⟨Zui,Tryz.call114,nw⟩,⟨⟨Zaj,Tryz.call115,nw⟩,⟨⟨Zmi,Tryz.call158,nw⟩,⟨⟨Ztf,Tryz.call81,fun _=>A9 rfl⟩,trivial⟩⟩⟩⟩)
abbrev aF:=BK.env (AM.look [(263,Ry),(268,ZC),(269,X7)]) ⟨[(0,⟨tt [4,7,8,9],tt [4]⟩)],[],[],⟨tt [2,3],[]⟩,[],[263],[],[]⟩
def kg:=bd Tryz.f271
abbrev Zpc:=fin aF [.tmp 2, .tmp 3] [] [(.str,[]),(AN,[])]
def Zv0:=AU 3 kg
def Ytg (m0:Nat):=Bt aF m0 Zv0 0 Zpc
def Yug (m0:Nat):=Bo 0 (Ytg m0)
def Zw0:=Bk 2 (Bg (Bv (AU 2 kg)))
def xS (m0 n:Nat):GI.A0:=fun x1 x2 x3 x4=>ej aF n (.loop Zw0) 0 (mk [(4, .ptr 4 0 0),(7, .dat A7 x1 []),(8, .dat AN x2 []),(9, .dat AN x3 [])] [(4,some (.var (.pair (.lk false) (.sl (.int .u8))) x4 [⟨1,64258,0,0⟩]))]) (Yug m0)
theorem Yvg (m0:Nat):∀ n,xS m0 n=GI.l0 n:=BG (S:=GI.S0) fun n=>by kernel_rfl
abbrev xT:=AM.spec [.val A7] [(.str,[]),(AN,[])] fun x=>GI x.1
theorem Yfw:AY Tryz.prog 271 xT:=BR Bb (fn:=Tryz.f271) (fun m x=>show run aF kg m x Zpc=GI.S (xS m m) x.1 from by kernel_rfl) (fun x=>by rw [Yvg fu fu];rfl) (Ba ⟨⟨TK,Tryz.call263,fun _=>A9 rfl⟩,⟨⟨kb,Tryz.call268,nw⟩,⟨⟨dF,Tryz.call269,nw⟩,trivial⟩⟩⟩)
abbrev xU:=AM.spec [.val A7, .fn 271 []] [(.str,[]),(AN,[])] fun x=>dd x.1
theorem Ygw:AY Tryz.prog 270 xU:=BV Bb (fn:=Tryz.f270) (lk:=(AM.look [(95,Zoc),(271,xT),(202,Qh),(234,Tz),(263,Ry)])) (ks:=⟨[],[],[],⟨tt [4,5],[]⟩,[],[202,234,263,271],[],[]⟩) (ts:=[.tmp 4, .tmp 5]) (fun _=>by kernel_rfl) (Ba ⟨⟨Zof,Tryz.call95,nw⟩,⟨⟨Yfw,Tryz.call271,fun _=>A9 rfl⟩,⟨⟨RJ,Tryz.call202,fun _=>A9 rfl⟩,⟨⟨V0,Tryz.call234,fun _=>A9 rfl⟩,⟨⟨TK,Tryz.call263,fun _=>A9 rfl⟩,trivial⟩⟩⟩⟩⟩)
abbrev xV:=AM.spec [.val A7] [(.str,[]),(AN,[])] fun x=>Ya x.1
theorem Yhw:AY Tryz.prog 259 xV:=BV Bb (fn:=Tryz.f259) (lk:=(AM.look [(270,xU)])) (ks:=⟨[],[],[],⟨tt [2,3],[]⟩,[],[270],[],[]⟩) (ts:=[.tmp 2, .tmp 3]) (fun _=>by kernel_rfl) (Ba ⟨⟨Ygw,Tryz.call270,fun _=>A9 rfl⟩,trivial⟩)
abbrev xW:=AM.spec [.val A7, .val AN] [(.str,[]),(AN,[])] fun x=>SN x.1 x.2.1
theorem Yiw:AY Tryz.prog 235 xW:=BV Bb (fn:=Tryz.f235) (lk:=(AM.look [(256,xN),(258,ia),(257,ib),(254,gP),(259,xV),(202,Qh),(234,Tz)])) (ks:=⟨[],[],[],⟨tt [4,5],[]⟩,[],[202,234,254,256,257,259],[],[]⟩) (ts:=[.tmp 4, .tmp 5]) (fun _=>by kernel_rfl) (Ba ⟨⟨Ycw,Tryz.call256,fun _=>A9 rfl⟩,⟨⟨Zjc,Tryz.call258,nw⟩,⟨⟨Zlc,Tryz.call257,fun _=>A9 rfl⟩,⟨⟨Zzb,Tryz.call254,fun _=>A9 rfl⟩,⟨⟨Yhw,Tryz.call259,fun _=>A9 rfl⟩,⟨⟨RJ,Tryz.call202,fun _=>A9 rfl⟩,⟨⟨V0,Tryz.call234,fun _=>A9 rfl⟩,trivial⟩⟩⟩⟩⟩⟩⟩)
abbrev xX:=AM.Gp 1 [.io (.pair (.lk false) (.sl (.int .u8))) [(1,0)], .val (.int .u8)] [((.lk true),[]),((.pair (.lk false) (.sl (.int .u8))),[⟨1,1,0,0⟩])] fun x=>XP x.1 x.2.1
theorem Yjw:AY Tryz.prog 272 xX:=b8 Bb (fn:=Tryz.f272) (lk:=(AM.look [(283,dE)])) (ks:=⟨[],[],[],⟨tt [4],tt [1000000]⟩,[],[],[],[]⟩) (ts:=[.tmp 4]) (fun _=>by kernel_rfl) (Ba ⟨⟨oV,Tryz.call283,nw⟩,trivial⟩)
abbrev aG:=BK.env (AM.look [(272,xX),(268,ZC),(269,X7)]) (kq [(0,⟨tt [4,7,8,9],tt [4]⟩)] [] [2,3])
def kh:=bd Tryz.f260
abbrev Zqc:=fin aG [.tmp 2, .tmp 3] [] [(.str,[]),(AN,[])]
def Zx0:=AU 3 kh
def Ywg (m0:Nat):=Bt aG m0 Zx0 0 Zqc
def Yxg (m0:Nat):=Bo 0 (Ywg m0)
def Zy0:=Bk 2 (Bg (Bv (AU 2 kh)))
def xY (m0 n:Nat):FW.A0:=fun x1 x2 x3 x4=>ej aG n (.loop Zy0) 0 (mk [(4, .ptr 4 0 0),(7, .dat Cs x1 []),(8, .dat AN x2 []),(9, .dat AN x3 [])] [(4,some (.var (.pair (.lk false) (.sl (.int .u8))) x4 [⟨1,64258,0,0⟩]))]) (Yxg m0)
theorem Yyg (m0:Nat):∀ n,xY m0 n=FW.l0 n:=BG (S:=FW.S0) fun n=>by kernel_rfl
abbrev ic:=AM.spec [.val Cs] [(.str,[]),(AN,[])] fun x=>FW x.1
theorem Zrc:AY Tryz.prog 260 ic:=BR Bb (fn:=Tryz.f260) (fun m x=>show run aG kh m x Zqc=FW.S (xY m m) x.1 from by kernel_rfl) (fun x=>by rw [Yyg fu fu];rfl) (Ba ⟨⟨Yjw,Tryz.call272,nw⟩,⟨⟨kb,Tryz.call268,nw⟩,⟨⟨dF,Tryz.call269,nw⟩,trivial⟩⟩⟩)
abbrev xZ:=AM.spec [.val .str] [(.bool,[])] fun x=>some (cmp_isNaN_string x.1)
theorem Ykw:AY Tryz.prog 296 xZ:=BV Bb (fn:=Tryz.f296) (lk:=(AM.look [])) (ks:=(kz [2])) (ts:=[.tmp 2]) (fun _=>by kernel_rfl) (Ba trivial)
abbrev ya:=AM.spec [.val .str, .val .str] [(.bool,[])] fun x=>some (cmp_Less_string x.1 x.2.1)
theorem Ylw:AY Tryz.prog 285 ya:=BV Bb (fn:=Tryz.f285) (lk:=(AM.look [(296,xZ)])) (ks:=⟨[],[],[],⟨tt [4],[]⟩,[],[296],[],[]⟩) (ts:=[.tmp 4]) (fun x=>(show _=cmp_Less_string.o x.1 x.2.1 from by kernel_rfl).trans (by unfold cmp_Less_string.o cmp_Less_string;simp only [KN])) (Ba ⟨⟨Ykw,Tryz.call296,fun _=>A9 rfl⟩,trivial⟩)
abbrev yb:=AM.spec [.val .str] [(.bool,[])] fun x=>some (df x.1)
theorem Ymw:AY Tryz.prog 286 yb:=BV Bb (fn:=Tryz.f286) (lk:=(AM.look [])) (ks:=(kz [2])) (ts:=[.tmp 2]) (fun _=>by kernel_rfl) (Ba trivial)
abbrev Wb:=BK.env (AM.look [(285,ya),(286,yb)]) ⟨[(0,⟨tt [0,1,6,7,8],[]⟩)],[],[(8,⟨tt [0,1,6,7],[]⟩)],⟨tt [4,5],[]⟩,[],[285,286],[],[]⟩
def ki:=bd Tryz.f277
abbrev kj:=fin Wb [.tmp 4, .tmp 5] [] [(AN,[]),(.bool,[])]
def ru:=AU 4 ki
def ig (m0 n:Nat):Ea.A1:=fun x7 x8 x9 Bc=>ej Wb n (.tail ru) 0 (mk [(0, .dat Cs x7 []),(1, .dat .str x8 []),(6, .dat AN x9 []),(7, .dat AN Bc [])] []) kj
theorem Yzg (m0:Nat):∀ n,ig m0 n=Ea.t1 n:=ind rfl fun n _=>by kernel_rfl
def Yah (m0:Nat):=Bt Wb m0 ru 0 kj
def Ybh (m0:Nat):=Bo 0 (Yah m0)
def Zz0:=Bk 3 (AU 3 ki)
def yc (m0 n:Nat):Ea.A0:=fun x1 x2 x3 x4 x5=>ej Wb n (.loop Zz0) 0 (mk [(0, .dat Cs x1 []),(1, .dat .str x2 []),(6, .dat AN x3 []),(7, .dat AN x4 []),(8, .dat AN x5 [])] []) (Ybh m0)
theorem Ych (m0:Nat):∀ n,yc m0 n=Ea.l0 (ig m0 m0) n:=BG (S:=Ea.S0 (ig m0 m0)) fun n=>by kernel_rfl
abbrev yd:=AM.spec [.val Cs, .val .str] [(AN,[]),(.bool,[])] fun x=>Ea x.1 x.2.1
theorem Ynw:AY Tryz.prog 277 yd:=BR Bb (fn:=Tryz.f277) (fun m x=>show run Wb ki m x kj=Ea.S (yc m m) x.1 x.2.1 from by kernel_rfl) (fun x=>by rw [Ych fu fu,Yzg fu fu];rfl) (Ba ⟨⟨Ylw,Tryz.call285,fun _=>A9 rfl⟩,⟨⟨Ymw,Tryz.call286,fun _=>A9 rfl⟩,trivial⟩⟩)
abbrev aH:=BK.env (AM.look [(274,nL),(275,nM),(276,nK),(277,yd)]) ⟨[(0,⟨tt [4,5,16,17,18],tt [11]⟩)],[],[],⟨tt [2,3],tt [11]⟩,[2,4,11,12,14,15,23,33],[277],[(275,[true]),(276,[true])],[]⟩
def kk:=bd Tryz.f262
abbrev Zsc:=fin aH [.tmp 2, .tmp 3] [] [(Cs,[]),(A7,[⟨0,1,0,1⟩])]
def Za1:=AU 6 kk
def Ydh (m0:Nat):=Bt aH m0 Za1 0 Zsc
def Yeh (m0:Nat):=Bo 0 (Ydh m0)
def Zb1:=Bk 2 (Bg (Bv (AU 5 kk)))
def ye (m0 n:Nat):Fu.A0:=fun x4 x5 x6 x7 x8 x9 Bc=>ej aH n (.loop Zb1) 0 (mk [(4, .slm 11 0 x4 x5),(5, .dat A7 x6 [⟨0,321,0,1⟩]),(16, .dat Cs x7 []),(17, .dat AN x8 []),(18, .dat AN x9 [])] [(11,some (.arr .str Bc false))]) (Yeh m0)
theorem Yfh (m0:Nat):∀ n,ye m0 n=Fu.l0 n:=BG (S:=Fu.S0) fun n=>by kernel_rfl
abbrev ij:=AM.spec [.val Cs] [(Cs,[]),(A7,[⟨0,1,0,1⟩])] fun x=>Fu x.1
theorem Ztc:AY Tryz.prog 262 ij:=BR Bb (fn:=Tryz.f262) (fun m x=>show run aH kk m x Zsc=Fu.S (ye m m) x.1 from by kernel_rfl) (fun x=>by rw [Yfh fu fu];rfl) (Ba ⟨⟨Zji,Tryz.call274,nw⟩,⟨⟨Zli,Tryz.call275,nw⟩,⟨⟨Zii,Tryz.call276,nw⟩,⟨⟨Ynw,Tryz.call277,fun _=>A9 rfl⟩,trivial⟩⟩⟩⟩)
abbrev yf:=AM.spec [.val Cs, .fn 260 []] [(.str,[]),(AN,[])] fun x=>dc x.1
theorem Yow:AY Tryz.prog 273 yf:=BV Bb (fn:=Tryz.f273) (lk:=(AM.look [(262,ij),(260,ic),(202,Qh),(234,Tz),(263,Ry)])) (ks:=⟨[],[],[],⟨tt [4,5],[]⟩,[],[202,234,260,263],[],[]⟩) (ts:=[.tmp 4, .tmp 5]) (fun _=>by kernel_rfl) (Ba ⟨⟨Ztc,Tryz.call262,nw⟩,⟨⟨Zrc,Tryz.call260,fun _=>A9 rfl⟩,⟨⟨RJ,Tryz.call202,fun _=>A9 rfl⟩,⟨⟨V0,Tryz.call234,fun _=>A9 rfl⟩,⟨⟨TK,Tryz.call263,fun _=>A9 rfl⟩,trivial⟩⟩⟩⟩⟩)
abbrev yg:=AM.spec [.val Cs] [(.str,[]),(AN,[])] fun x=>X5 x.1
theorem Ypw:AY Tryz.prog 261 yg:=BV Bb (fn:=Tryz.f261) (lk:=(AM.look [(273,yf)])) (ks:=⟨[],[],[],⟨tt [2,3],[]⟩,[],[273],[],[]⟩) (ts:=[.tmp 2, .tmp 3]) (fun _=>by kernel_rfl) (Ba ⟨⟨Yow,Tryz.call273,fun _=>A9 rfl⟩,trivial⟩)
abbrev yh:=AM.spec [.val Cs, .val AN] [(.str,[]),(AN,[])] fun x=>SP x.1 x.2.1
theorem Yqw:AY Tryz.prog 236 yh:=BV Bb (fn:=Tryz.f236) (lk:=(AM.look [(260,ic),(261,yg),(262,ij),(258,ia),(257,ib),(263,Ry)])) (ks:=⟨[],[],[],⟨tt [4,5],[]⟩,[],[257,260,261,263],[],[]⟩) (ts:=[.tmp 4, .tmp 5]) (fun _=>by kernel_rfl) (Ba ⟨⟨Zrc,Tryz.call260,fun _=>A9 rfl⟩,⟨⟨Ypw,Tryz.call261,fun _=>A9 rfl⟩,⟨⟨Ztc,Tryz.call262,nw⟩,⟨⟨Zjc,Tryz.call258,nw⟩,⟨⟨Zlc,Tryz.call257,fun _=>A9 rfl⟩,⟨⟨TK,Tryz.call263,fun _=>A9 rfl⟩,trivial⟩⟩⟩⟩⟩⟩)
abbrev Wc:=BK.env (AM.look [(235,xW),(236,yh)]) ⟨[(0,⟨tt [1,2,8,9,12,13,14],[]⟩)],[],[(8,⟨tt [1,2,8,9],[]⟩)],⟨tt [6,7],[]⟩,[],[235,236],[],[21,26]⟩
def km:=bd Tryz.f195
abbrev kn:=fin Wc [.tmp 6, .tmp 7] [] [(.str,[]),(AN,[])]
def rz:=AU 4 km
def ik (m0 n:Nat):DF.A1:=fun x8 x9 Bc BB=>ej Wc n (.tail rz) 0 (mk [(1, .dat AN x8 []),(2, .dat AN x9 []),(8, .dat A7 Bc [⟨0,513,0,1⟩]),(9, .dat Cs BB [⟨0,577,0,1⟩])] []) kn
theorem Ygh (m0:Nat):∀ n,ik m0 n=DF.t1 n:=ind rfl fun n _=>by kernel_rfl
def Yhh (m0:Nat):=Bt Wc m0 rz 0 kn
def Yih (m0:Nat):=Bo 0 (Yhh m0)
def Zc1:=Bk 2 (Bg (Bv (AU 3 km)))
def yi (m0 n:Nat):DF.A0:=fun x1 x2 x3 x4 x5 x6 x7=>ej Wc n (.loop Zc1) 0 (mk [(1, .dat AN x1 []),(2, .dat AN x2 []),(8, .dat A7 x3 [⟨0,513,0,1⟩]),(9, .dat Cs x4 [⟨0,577,0,1⟩]),(12, .dat Cx x5 []),(13, .dat AN x6 []),(14, .dat AN x7 [])] []) (Yih m0)
theorem Yjh (m0:Nat):∀ n,yi m0 n=DF.l0 (ik m0 m0) n:=BG (S:=DF.S0 (ik m0 m0)) fun n=>by kernel_rfl
abbrev yj:=AM.spec [.val Cx, .val AN, .val AN] [(.str,[]),(AN,[])] fun x=>DF x.1 x.2.1 x.2.2.1
theorem Yrw:AY Tryz.prog 195 yj:=BR Bb (fn:=Tryz.f195) (fun m x=>show run Wc km m x kn=DF.S (yi m m) x.1 x.2.1 x.2.2.1 from by kernel_rfl) (fun x=>by rw [Yjh fu fu,Ygh fu fu];rfl) (Ba ⟨⟨Yiw,Tryz.call235,fun _=>A9 rfl⟩,⟨⟨Yqw,Tryz.call236,fun _=>A9 rfl⟩,trivial⟩⟩)
abbrev yk:=AM.spec [.val Cx, .val AN, .val AN] [(.str,[]),(AN,[])] fun x=>MV x.1 x.2.1 x.2.2.1
theorem Ysw:AY Tryz.prog 143 yk:=BV Bb (fn:=Tryz.f143) (lk:=(AM.look [(193,xF),(194,xL),(195,yj),(187,gG)])) (ks:=⟨[],[],[],⟨tt [6,7],[]⟩,[],[187,193,195],[],[]⟩) (ts:=[.tmp 6, .tmp 7]) (fun _=>by kernel_rfl) (Ba ⟨⟨Yxv,Tryz.call193,fun _=>A9 rfl⟩,⟨⟨Ybw,Tryz.call194,nw⟩,⟨⟨Yrw,Tryz.call195,fun _=>A9 rfl⟩,⟨⟨Zjb,Tryz.call187,fun _=>A9 rfl⟩,trivial⟩⟩⟩⟩)
abbrev aI:=AM.spec [.val .str] [((.pair T8 (.pair .str (.pair .str Cx))),[]),(.bool,[])] fun x=>P1 x.1
theorem lJ:AY Tryz.prog 79 aI:=BV Bb (fn:=Tryz.f79) (lk:=(AM.look [(139,vZ),(140,gJ),(141,xz),(142,xC),(143,yk)])) (ks:=⟨[],[],[],⟨tt [2,3],tt [2]⟩,[],[139,140,143],[],[]⟩) (ts:=[.cell 2 128, .tmp 3]) (fun _=>by kernel_rfl) (Ba ⟨⟨Ysu,Tryz.call139,fun _=>A9 rfl⟩,⟨⟨Zpb,Tryz.call140,fun _=>A9 rfl⟩,⟨⟨Yuv,Tryz.call141,nw⟩,⟨⟨Yvv,Tryz.call142,nw⟩,⟨⟨Ysw,Tryz.call143,fun _=>A9 rfl⟩,trivial⟩⟩⟩⟩⟩)
abbrev zf:=AM.spec [.val .str] [(Cx,[]),(AN,[])] fun x=>Kj x.1
theorem Zoe:AY Tryz.prog 39 zf:=BV Bb (fn:=Tryz.f39) (lk:=(AM.look [(79,aI)])) (ks:=(kz [2,3])) (ts:=[.tmp 2, .tmp 3]) (fun _=>by kernel_rfl) (Ba ⟨⟨lJ,Tryz.call79,nw⟩,trivial⟩)
abbrev iI:=AM.spec [.val .str] [(T8,[]),(AN,[])] fun x=>OC x.1
theorem Zne:AY Tryz.prog 43 iI:=BV Bb (fn:=Tryz.f43) (lk:=(AM.look [(79,aI)])) (ks:=⟨[],[],[],⟨tt [2,3],tt [2]⟩,[],[],[],[]⟩) (ts:=[.cell 2 83, .tmp 3]) (fun _=>by kernel_rfl) (Ba ⟨⟨lJ,Tryz.call79,nw⟩,trivial⟩)
abbrev zg:=AM.spec [.val .str] [(.str,[]),(.str,[]),(AN,[])] fun x=>SS x.1
theorem Yly:AY Tryz.prog 48 zg:=BV Bb (fn:=Tryz.f48) (lk:=(AM.look [(79,aI)])) (ks:=(kz [2,3,4])) (ts:=[.tmp 2, .tmp 3, .tmp 4]) (fun _=>by kernel_rfl) (Ba ⟨⟨lJ,Tryz.call79,nw⟩,trivial⟩)
abbrev bN:=BK.env (AM.look []) (kq [(0,⟨tt [0,1,5],[]⟩)] [] [4])
def lK:=bd Tryz.f16
abbrev Zvf:=fin bN [.tmp 4] [] [(.bool,[])]
def Ykh:=AU 3 lK
def Yip (m0:Nat):=Bt bN m0 Ykh 0 Zvf
def Yjp (m0:Nat):=Bo 0 (Yip m0)
def Ylh:=Bk 2 (Bg (Bv (AU 2 lK)))
def Zuc (m0 n:Nat):Jb.A0:=fun x1 x2 x3=>ej bN n (.loop Ylh) 0 (mk [(0, .dat Cx x1 []),(1, .dat Cx x2 []),(5, .dat AN x3 [])] []) (Yjp m0)
theorem Ykp (m0:Nat):∀ n,Zuc m0 n=Jb.l0 n:=BG (S:=Jb.S0) fun n=>by kernel_rfl
abbrev zo:=AM.spec [.val Cx, .val Cx] [(.bool,[])] fun x=>Jb x.1 x.2.1
theorem Yny:AY Tryz.prog 16 zo:=BR Bb (fn:=Tryz.f16) (fun m x=>show run bN lK m x Zvf=Jb.S (Zuc m m) x.1 x.2.1 from by kernel_rfl) (fun x=>by rw [Ykp fu fu];rfl) (Ba trivial)
abbrev yl:=AM.spec [.val AN] [(.bool,[])] fun x=>some (P3 x.1)
theorem Ytw:AY Tryz.prog 113 yl:=BV Bb (fn:=Tryz.f113) (lk:=(AM.look [])) (ks:=(kz [2])) (ts:=[.tmp 2]) (fun x=>(show _=P3.o x.1 from by kernel_rfl).trans (by unfold P3.o P3;simp only [KN])) (Ba trivial)
abbrev aJ:=BK.env (AM.look [(113,yl)]) ⟨[(0,⟨tt [0,1,7,8],[]⟩)],[],[],⟨tt [4],[]⟩,[],[113],[],[]⟩
def ko:=bd Tryz.f169
abbrev Zvc:=fin aJ [.tmp 4] [] [(AN,[])]
def Zd1:=AU 2 ko
def Ymh (m0:Nat):=Bt aJ m0 Zd1 0 Zvc
def Ynh (m0:Nat):=Bo 0 (Ymh m0)
def Ze1:=Bk 2 (Bg (Bv (Bg ko)))
def yn (m0 n:Nat):GW.A0:=fun x1 x2 x3=>ej aJ n (.loop Ze1) 0 (mk [(0, .dat A7 x1 []),(1, .fn 113 []),(7, .dat AN x2 []),(8, .dat AN x3 [])] []) (Ynh m0)
theorem Yoh (m0:Nat):∀ n,yn m0 n=GW.l0 n:=BG (S:=GW.S0) fun n=>by kernel_rfl
abbrev yo:=AM.spec [.val A7, .fn 113 []] [(AN,[])] fun x=>GW x.1
theorem Yuw:AY Tryz.prog 169 yo:=BR Bb (fn:=Tryz.f169) (fun m x=>show run aJ ko m x Zvc=GW.S (yn m m) x.1 from by kernel_rfl) (fun x=>by rw [Yoh fu fu];rfl) (Ba ⟨⟨Ytw,Tryz.call113,fun _=>A9 rfl⟩,trivial⟩)
abbrev Zgi:=AM.spec [.val A7, .fn 113 []] [(.bool,[])] fun x=>PV x.1
theorem Zhi:AY Tryz.prog 112 Zgi:=BV Bb (fn:=Tryz.f112) (lk:=(AM.look [(169,yo)])) (ks:=⟨[],[],[],⟨tt [4],[]⟩,[],[169],[],[]⟩) (ts:=[.tmp 4]) (fun _=>by kernel_rfl) (Ba ⟨⟨Yuw,Tryz.call169,fun _=>A9 rfl⟩,trivial⟩)
abbrev Zmm:=AM.spec [.val AN, .val AN] [(AN,[])] fun x=>Ny x.1 x.2.1
theorem Zfo:AY Tryz.prog 85 Zmm:=BV Bb (fn:=Tryz.f85) (lk:=(AM.look [(148,Zt)])) (ks:=⟨[],[],[],⟨tt [4],[]⟩,[],[148],[],[]⟩) (ts:=[.tmp 4]) (fun _=>by kernel_rfl) (Ba ⟨⟨jF,Tryz.call148,fun _=>A9 rfl⟩,trivial⟩)
abbrev dH:=AM.spec [.val A7] [(.bool,[])] fun x=>Lx x.1
theorem dN:AY Tryz.prog 109 dH:=BV Bb (fn:=Tryz.f109) (lk:=(AM.look [])) (ks:=(kz [2])) (ts:=[.tmp 2]) (fun _=>by kernel_rfl) (Ba trivial)
abbrev NY:=BK.env (AM.look []) (kq [] [(8,⟨tt [3,5],[]⟩),(14,⟨tt [3,5],[]⟩)] [2])
def O6:=bd Tryz.f196
abbrev Zwc:=fin NY [.tmp 2] [] [(AN,[])]
def Zf1:=AU 3 O6
def Yph (m0:Nat):=Bt NY m0 Zf1 0 Zwc
def Yqh (m0:Nat):=Bo 0 (Yph m0)
def Zg1:=Bg (Bv (Bg (Bv (AU 2 O6))))
def Yrh (m0:Nat):=Bt NY m0 Zg1 0 (Yqh m0)
def Ysh (m0:Nat):=Bo 4 (Yrh m0)
def Zh1:=Bg (Bk 3 (Bg (Bv (AU 2 O6))))
def Yth (m0:Nat):=Bt NY m0 Zh1 4 (Ysh m0)
def Yuh (m0:Nat):=Bo 3 (Yth m0)
def Zi1:=Bg (Bk 5 (Bg (Bv (AU 2 O6))))
def Yvh (m0:Nat):=Bt NY m0 Zi1 3 (Yuh m0)
def Ywh (m0:Nat):=Bo 2 (Yvh m0)
def Zj1:=Bg (Bk 7 (Bg (Bv (AU 2 O6))))
def Yxh (m0:Nat):=Bt NY m0 Zj1 2 (Ywh m0)
def Zk1 (m0:Nat):=Bo 1 (Yxh m0)
def Zl1:=Bg (Bk 9 (Bg (Bv (AU 2 O6))))
def rA (m0:Nat):=Bt NY m0 Zl1 1 (Zk1 m0)
def Zm1:=AU 3 (Bk 10 (Bg (Bv (AU 2 O6))))
def yp (m0 n:Nat):Fx.A1:=fun x3 x4=>ej NY n (.tail Zm1) 1 (mk [(3, .dat AN x3 []),(5, .dat (.int .u64) x4 [])] []) (rA m0)
theorem Yyh (m0 m1:Nat):∀ n,yp m0 n=Fx.t1 n:=ind rfl fun n _=>by kernel_rfl
def Zn1:=AU 2 (Bk 10 (Bg (Bv (AU 2 O6))))
def yq (m0 n:Nat):Fx.A0:=fun x1 x2=>ej NY n (.tail Zn1) 1 (mk [(3, .dat AN x1 []),(5, .dat (.int .u64) x2 [])] []) (rA m0)
theorem Yzh (m0:Nat):∀ n,yq m0 n=Fx.t0 n:=ind rfl fun n _=>(show _=Fx.S0 (yp m0 n) from by kernel_rfl).trans (by rw [Yyh m0 n n];rfl)
abbrev yr:=AM.spec [.val (.int .u64)] [(AN,[])] fun x=>Fx x.1
theorem Yvw:AY Tryz.prog 196 yr:=BR Bb (fn:=Tryz.f196) (fun m x=>show run NY O6 m x Zwc=Fx.S (yq m m) x.1 from by kernel_rfl) (fun x=>by rw [Yzh fu fu];rfl) (Ba trivial)
abbrev aK:=BK.env (AM.look [(196,yr)]) ⟨[(0,⟨tt [0,3,5],[]⟩)],[],[],⟨tt [2],[]⟩,[],[196],[],[]⟩
def kr:=bd Tryz.f144
abbrev Zxc:=fin aK [.tmp 2] [] [(AN,[])]
def Zo1:=AU 3 kr
def Yai (m0:Nat):=Bt aK m0 Zo1 0 Zxc
def Ybi (m0:Nat):=Bo 0 (Yai m0)
def Zp1:=Bk 2 (Bg (Bv (AU 2 kr)))
def yt (m0 n:Nat):Gk.A0:=fun x1 x2 x3=>ej aK n (.loop Zp1) 0 (mk [(0, .dat AN x1 []),(3, .dat AN x2 []),(5, .dat AN x3 [])] []) (Ybi m0)
theorem Yci (m0:Nat):∀ n,yt m0 n=Gk.l0 n:=BG (S:=Gk.S0) fun n=>by kernel_rfl
abbrev il:=AM.spec [.val AN] [(AN,[])] fun x=>Gk x.1
theorem Zyc:AY Tryz.prog 144 il:=BR Bb (fn:=Tryz.f144) (fun m x=>show run aK kr m x Zxc=Gk.S (yt m m) x.1 from by kernel_rfl) (fun x=>by rw [Yci fu fu];rfl) (Ba ⟨⟨Yvw,Tryz.call196,fun _=>A9 rfl⟩,trivial⟩)
abbrev fY:=AM.spec [.val AN, .val AN] [(.bool,[])] fun x=>some (MR x.1 x.2.1)
theorem yI:AY Tryz.prog 185 fY:=BV Bb (fn:=Tryz.f185) (lk:=(AM.look [])) (ks:=(kz [4])) (ts:=[.tmp 4]) (fun x=>(show _=MR.o x.1 x.2.1 from by kernel_rfl).trans (by unfold MR.o MR;simp only [KN])) (Ba trivial)
abbrev yu:=AM.spec [.val AN, .val AN, .val AN] [(AN,[])] fun x=>Yo x.1 x.2.1 x.2.2.1
theorem Yww:AY Tryz.prog 145 yu:=BV Bb (fn:=Tryz.f145) (lk:=(AM.look [(185,fY),(186,Vt)])) (ks:=⟨[],[],[],⟨tt [6],[]⟩,[],[185,186],[],[]⟩) (ts:=[.tmp 6]) (fun _=>by kernel_rfl) (Ba ⟨⟨yI,Tryz.call185,fun _=>A9 rfl⟩,⟨⟨ZF,Tryz.call186,fun _=>A9 rfl⟩,trivial⟩⟩)
abbrev bO:=BK.env (AM.look [(109,dH),(144,il),(145,yu)]) ⟨[(0,⟨tt [1,5,16,17,18],[]⟩)],[],[],⟨tt [4],[]⟩,[],[109,144,145],[],[]⟩
def lL:=bd Tryz.f80
abbrev Zwf:=fin bO [.tmp 4] [] [(AN,[])]
def Ydi:=AU 4 lL
def Ylp (m0:Nat):=Bt bO m0 Ydi 0 Zwf
def Ymp (m0:Nat):=Bo 0 (Ylp m0)
def Yei:=Bk 2 (Bg (Bv (AU 3 lL)))
def Zzc (m0 n:Nat):F0.A0:=fun x2 x3 x4 x5 x6=>ej bO n (.loop Yei) 0 (mk [(1, .dat AN x2 []),(5, .dat AN x3 []),(16, .dat A7 x4 []),(17, .dat AN x5 []),(18, .dat AN x6 [])] []) (Ymp m0)
theorem Ynp (m0:Nat):∀ n,Zzc m0 n=F0.l0 n:=BG (S:=F0.S0) fun n=>by kernel_rfl
abbrev Zad:=AM.spec [.val A7, .val AN] [(AN,[])] fun x=>F0 x.1 x.2.1
theorem Yf2:AY Tryz.prog 80 Zad:=BR Bb (fn:=Tryz.f80) (fun m x=>show run bO lL m x Zwf=F0.S (Zzc m m) x.1 x.2.1 from by kernel_rfl) (fun x=>by rw [Ynp fu fu];rfl) (Ba ⟨⟨dN,Tryz.call109,fun _=>A9 rfl⟩,⟨⟨Zyc,Tryz.call144,fun _=>A9 rfl⟩,⟨⟨Yww,Tryz.call145,fun _=>A9 rfl⟩,trivial⟩⟩⟩)
abbrev bP:=BK.env (AM.look []) (kq [(0,⟨tt [3,6,7,8],[]⟩)] [] [2])
def lM:=bd Tryz.f35
abbrev Zxf:=fin bP [.tmp 2] [] [(.bool,[])]
def Yfi:=AU 3 lM
def Yop (m0:Nat):=Bt bP m0 Yfi 0 Zxf
def Ypp (m0:Nat):=Bo 0 (Yop m0)
def Ygi:=Bk 2 (Bg (Bv (AU 2 lM)))
def Zbd (m0 n:Nat):FB.A0:=fun x1 x2 x3 x4=>ej bP n (.loop Ygi) 0 (mk [(3, .dat AN x1 []),(6, .dat D8 x2 []),(7, .dat AN x3 []),(8, .dat AN x4 [])] []) (Ypp m0)
theorem Yqp (m0:Nat):∀ n,Zbd m0 n=FB.l0 n:=BG (S:=FB.S0) fun n=>by kernel_rfl
abbrev RC:=AM.spec [.val D8] [(.bool,[])] fun x=>FB x.1
theorem TR:AY Tryz.prog 35 RC:=BR Bb (fn:=Tryz.f35) (fun m x=>show run bP lM m x Zxf=FB.S (Zbd m m) x.1 from by kernel_rfl) (fun x=>by rw [Yqp fu fu];rfl) (Ba trivial)
abbrev bQ:=BK.env (AM.look [(35,RC)]) ⟨[(0,⟨tt [1,5,12,13,14],[]⟩)],[],[],⟨tt [4],[]⟩,[],[35],[],[]⟩
def lN:=bd Tryz.f82
abbrev Zyf:=fin bQ [.tmp 4] [] [(AN,[])]
def Yhi:=AU 4 lN
def Yrp (m0:Nat):=Bt bQ m0 Yhi 0 Zyf
def Ysp (m0:Nat):=Bo 0 (Yrp m0)
def Yii:=Bk 2 (Bg (Bv (Bg (Bv (AU 3 lN)))))
def Zcd (m0 n:Nat):Gj.A0:=fun x2 x3 x4 x5 x6=>ej bQ n (.loop Yii) 0 (mk [(1, .dat AN x2 []),(5, .dat AN x3 []),(12, .dat D8 x4 []),(13, .dat AN x5 []),(14, .dat AN x6 [])] []) (Ysp m0)
theorem Ytp (m0:Nat):∀ n,Zcd m0 n=Gj.l0 n:=BG (S:=Gj.S0) fun n=>by kernel_rfl
abbrev Zdd:=AM.spec [.val D8, .val AN] [(AN,[])] fun x=>Gj x.1 x.2.1
theorem Yg2:AY Tryz.prog 82 Zdd:=BR Bb (fn:=Tryz.f82) (fun m x=>show run bQ lN m x Zyf=Gj.S (Zcd m m) x.1 x.2.1 from by kernel_rfl) (fun x=>by rw [Ytp fu fu];rfl) (Ba ⟨⟨TR,Tryz.call35,fun _=>A9 rfl⟩,trivial⟩)
abbrev Zoi:=AM.spec [.val JL, .val AN] [(AN,[])] fun x=>KK x.1 x.2.1
theorem Zri:AY Tryz.prog 40 Zoi:=BV Bb (fn:=Tryz.f40) (lk:=(AM.look [(80,Zad),(81,ke),(82,Zdd)])) (ks:=⟨[],[],[],⟨tt [4],[]⟩,[],[80,81,82],[],[]⟩) (ts:=[.tmp 4]) (fun _=>by kernel_rfl) (Ba ⟨⟨Yf2,Tryz.call80,fun _=>A9 rfl⟩,⟨⟨Ztf,Tryz.call81,fun _=>A9 rfl⟩,⟨⟨Yg2,Tryz.call82,fun _=>A9 rfl⟩,trivial⟩⟩⟩)
abbrev bR:=BK.env (AM.look [(109,dH),(144,il)]) ⟨[(0,⟨tt [3,8,9,10],[]⟩)],[],[],⟨tt [2],[]⟩,[],[109,144],[],[]⟩
def lO:=bd Tryz.f83
abbrev Zzf:=fin bR [.tmp 2] [] [(AN,[])]
def Yji:=AU 3 lO
def Yup (m0:Nat):=Bt bR m0 Yji 0 Zzf
def Yvp (m0:Nat):=Bo 0 (Yup m0)
def Yki:=Bk 2 (Bg (Bv (Bg (Bv (AU 2 lO)))))
def Zed (m0 n:Nat):Gh.A0:=fun x2 x3 x4 x5=>ej bR n (.loop Yki) 0 (mk [(3, .dat AN x2 []),(8, .dat A7 x3 []),(9, .dat AN x4 []),(10, .dat AN x5 [])] []) (Yvp m0)
theorem Ywp (m0:Nat):∀ n,Zed m0 n=Gh.l0 n:=BG (S:=Gh.S0) fun n=>by kernel_rfl
abbrev Zfd:=AM.spec [.val A7] [(AN,[])] fun x=>Gh x.1
theorem Yh2:AY Tryz.prog 83 Zfd:=BR Bb (fn:=Tryz.f83) (fun m x=>show run bR lO m x Zzf=Gh.S (Zed m m) x.1 from by kernel_rfl) (fun x=>by rw [Ywp fu fu];rfl) (Ba ⟨⟨dN,Tryz.call109,fun _=>A9 rfl⟩,⟨⟨Zyc,Tryz.call144,fun _=>A9 rfl⟩,trivial⟩⟩)
abbrev bS:=BK.env (AM.look [(35,RC)]) ⟨[(0,⟨tt [3,8,9,10],[]⟩)],[],[],⟨tt [2],[]⟩,[],[35],[],[]⟩
def lP:=bd Tryz.f78
abbrev Zag:=fin bS [.tmp 2] [] [(AN,[])]
def Yli:=AU 3 lP
def Yxp (m0:Nat):=Bt bS m0 Yli 0 Zag
def Yyp (m0:Nat):=Bo 0 (Yxp m0)
def Ymi:=Bk 2 (Bg (Bv (Bg (Bv (AU 2 lP)))))
def Zgd (m0 n:Nat):Fw.A0:=fun x2 x3 x4 x5=>ej bS n (.loop Ymi) 0 (mk [(3, .dat AN x2 []),(8, .dat D8 x3 []),(9, .dat AN x4 []),(10, .dat AN x5 [])] []) (Yyp m0)
theorem Yzp (m0:Nat):∀ n,Zgd m0 n=Fw.l0 n:=BG (S:=Fw.S0) fun n=>by kernel_rfl
abbrev ZE:=AM.spec [.val D8] [(AN,[])] fun x=>Fw x.1
theorem kE:AY Tryz.prog 78 ZE:=BR Bb (fn:=Tryz.f78) (fun m x=>show run bS lP m x Zag=Fw.S (Zgd m m) x.1 from by kernel_rfl) (fun x=>by rw [Yzp fu fu];rfl) (Ba ⟨⟨TR,Tryz.call35,fun _=>A9 rfl⟩,trivial⟩)
abbrev Zki:=AM.spec [.val JL] [(AN,[])] fun x=>KJ x.1
theorem Zni:AY Tryz.prog 41 Zki:=BV Bb (fn:=Tryz.f41) (lk:=(AM.look [(83,Zfd),(78,ZE)])) (ks:=⟨[],[],[],⟨tt [2],[]⟩,[],[78,83],[],[]⟩) (ts:=[.tmp 2]) (fun _=>by kernel_rfl) (Ba ⟨⟨Yh2,Tryz.call83,fun _=>A9 rfl⟩,⟨⟨kE,Tryz.call78,fun _=>A9 rfl⟩,trivial⟩⟩)
end
end Go.Proofs.YtclpadlpcfnfmaaGreat.Am
