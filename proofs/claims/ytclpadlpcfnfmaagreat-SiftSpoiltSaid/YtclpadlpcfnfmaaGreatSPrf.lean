import Derived.Test.YtclpadlpcfnfmaaGreatAmPure18
import Derived.Test.YtclpadlpcfnfmaaGreatSHand
/- PRINTED by gen/ of this repo: the code comes to the pure functions. -/
namespace Go.Proofs.YtclpadlpcfnfmaaGreat.Am
open Go.Proofs.Tryz
open Go.AM Go.AM.Pure
set_option linter.unusedVariables false
set_option maxRecDepth 100000
noncomputable section
abbrev Zhf:=AM.spec [.val AX] [(ID,[])] λ x=>some (KT x.1)
theorem Xxa:Bh prog 26 Zhf:=Ck Bo (fn:=f26) (lk:=(AM.look [])) (ks:=⟨[],[],[],⟨tt [2],tt [2]⟩,[],[],[],[]⟩) (ts:=[.cell 2 45]) (λ _=>by kernel_rfl) (Bn trivial)
abbrev bG:=AM.spec [.val MM] [(AX,[])] λ x=>some (N2 x.1)
theorem oj:Bh prog 46 bG:=Ck Bo (fn:=f46) (lk:=(AM.look [(88,lC)])) (ks:=⟨[],[],[],⟨tt [2],[]⟩,[],[88],[],[]⟩) (ts:=[.tmp 2]) (λ x=>(show _=N2.o x.1 from by kernel_rfl).trans (by unfold N2.o N2;simp only [Na])) (Bn ⟨⟨Zum,call88,λ _=>Bj rfl⟩,trivial⟩)
abbrev Zif:=AM.spec [.val GY] [((.arr 3 AX),[])] λ x=>Zr x.1
theorem Xya:Bh prog 45 Zif:=Ck Bo (fn:=f45) (lk:=(AM.look [(78,bH)])) (ks:=⟨[],[],[],⟨tt [2],tt [2]⟩,[],[78],[],[]⟩) (ts:=[.cell 2 86]) (λ _=>by kernel_rfl) (Bn ⟨⟨om,call78,λ _=>Bj rfl⟩,trivial⟩)
abbrev yu:=AM.spec [.val AX, .val AX, .val AX, .val AX] [(AX,[])] λ x=>ZU x.1 x.2.1 x.2.2.1 x.2.2.2.1
theorem Yv3:Bh prog 138 yu:=Ck Bo (fn:=f138) (lk:=(AM.look [(185,jI),(186,W0)])) (ks:=⟨[],[],[],⟨tt [8],[]⟩,[],[185,186],[],[]⟩) (ts:=[.tmp 8]) (λ _=>by kernel_rfl) (Bn ⟨⟨Zjf,call185,λ _=>Bj rfl⟩,⟨⟨bI,call186,λ _=>Bj rfl⟩,trivial⟩⟩)
abbrev oo:=BY.env (AM.look [(138,yu)]) ⟨[(0,⟨tt [0,1,2],tt [1000000]⟩)],[],[],⟨[],[]⟩,[0,19,22],[138],[],[]⟩
def Zvm:=bd f77
abbrev Zwm:=fin oo [] [.ioa AX] [(Bi,[])]
def Ynw (m0:Nat):=BA 0 Zwm
def Yee:=Bz 2 Zvm
def Zkf (m0 n:Nat):IJ.A0:=λ x1 x2 x3=>ej oo n (.loop Yee) 0 (mk [(0, .slw 1000000 0),(1, .dat AX x1 []),(2, .dat AX x2 [])] [(1000000,some (.arr AX x3 false))]) (Ynw m0)
theorem Yow (m0:Nat):∀ n,Zkf m0 n=IJ.l0 n:=BR (S:=IJ.S0) λ n=>by kernel_rfl
abbrev Zlf:=AM.Hm 0 [.ioa AX, .val AX, .val AX] [(Bi,[])] λ x=>IJ x.1 x.2.1 x.2.2.1
theorem Xza:Bh prog 77 Zlf:=S9 Bo (fn:=f77) (ts:=[]) (λ m x=>show run oo Zvm m x Zwm=IJ.S (Zkf m m) x.1 x.2.1 x.2.2.1 from by kernel_rfl) (λ x=>by rw [Yow fu fu];rfl) (Bn ⟨⟨Yv3,call138,λ _=>Bj rfl⟩,trivial⟩)
abbrev dh:=BY.env (AM.look [(35,SM),(77,Zlf)]) ⟨[(0,⟨tt [4,24,25,26],tt [23]⟩)],[],[],⟨tt [2,3],tt [2,23]⟩,[2,4,23,30,37],[35],[(77,[true])],[]⟩
def oq:=bd f37
abbrev Zxm:=fin dh [.tmp 2, .tmp 3] [] [(Bi,[]),(AX,[])]
def Yfe:=Bb 5 oq
def Ypw (m0:Nat):=BJ dh m0 Yfe 0 Zxm
def Yqw (m0:Nat):=BA 0 (Ypw m0)
def Yge:=Bz 2 (By (BM (Bb 4 oq)))
def Zmf (m0 n:Nat):Hk.A0:=λ x2 x3 x4 x5=>ej dh n (.loop Yge) 0 (mk [(4, .slw 23 0),(24, .dat GY x2 []),(25, .dat AX x3 []),(26, .dat AX x4 [])] [(23,some (.arr AX x5 false))]) (Yqw m0)
theorem Yrw (m0:Nat):∀ n,Zmf m0 n=Hk.l0 n:=BR (S:=Hk.S0) λ n=>by kernel_rfl
abbrev Znf:=AM.spec [.val GY] [(Bi,[]),(AX,[])] λ x=>Hk x.1
theorem Xab:Bh prog 37 Znf:=B9 Bo (fn:=f37) (λ m x=>show run dh oq m x Zxm=Hk.S (Zmf m m) x.1 from by kernel_rfl) (λ x=>by rw [Yrw fu fu];rfl) (Bn ⟨⟨Ve,call35,λ _=>Bj rfl⟩,⟨⟨Xza,call77,nw⟩,trivial⟩⟩)
abbrev Ta:=BY.env (AM.look [(35,SM),(78,bH)]) ⟨[(0,⟨tt [4,14,15,16],[]⟩),(2,⟨tt [4,6,7,14,15,16],tt [6]⟩)],[],[],⟨tt [2,3],[]⟩,[],[35,78],[],[]⟩
def ot:=bd f38
abbrev Zym:=fin Ta [.tmp 2, .tmp 3] [] [(Bi,[⟨0,1,0,1⟩]),(AX,[])]
def Yhe:=Bb 4 ot
def Ysw (m0:Nat):=BJ Ta m0 Yhe 0 Zym
def yv (m0:Nat):=BA 0 (Ysw m0)
def aE:=Bz 2 (By (BM (Bb 3 ot)))
def bJ (m0 n:Nat):D4.A0:=λ x3 x4 x5 x6=>ej Ta n (.loop aE) 0 (mk [(4, .dat Bi x3 [⟨0,257,0,1⟩]),(14, .dat GY x4 []),(15, .dat AX x5 []),(16, .dat AX x6 [])] []) (yv m0)
def Ytw (m0 m1:Nat):=Mp Ta m1 aE 0 (yv m0)
def Yie:=Bb 3 aE
def Yuw (m0 m1:Nat):=BJ Ta m1 Yie 0 (Ytw m0 m1)
def Yvw (m0 m1:Nat):=BA 1 (Yuw m0 m1)
def Yww (m0 m1:Nat):=BA 2 (Yvw m0 m1)
def Yje:=Bz 2 (Bb 2 (Bz 2 (Bb 2 aE)))
def Zof (m0 m1 n:Nat):D4.A1:=λ x7 x8 x9 Bl BI B0=>ej Ta n (.loop Yje) 2 (mk [(4, .dat Bi x7 [⟨0,257,0,1⟩]),(6, .ptr 6 0 0),(7, .dat AX x8 []),(14, .dat GY x9 []),(15, .dat AX Bl []),(16, .dat AX BI [])] [(6,some (.var pE B0 []))]) (Yww m0 m1)
theorem Yxw (m0 m1:Nat):∀ n,Zof m0 m1 n=D4.l1 (bJ m0 m1) n:=BR (S:=D4.S1 (bJ m0 m1)) λ n=>by kernel_rfl
theorem Yyw (m0:Nat):∀ n,bJ m0 n=D4.l0 n:=ind rfl λ n e0=>(show _=D4.S0 (Zof m0 n n) from by kernel_rfl).trans (by rw [Yxw m0 n n,e0];rfl)
abbrev Zpf:=AM.spec [.val GY] [(Bi,[⟨0,1,0,1⟩]),(AX,[])] λ x=>D4 x.1
theorem Xbb:Bh prog 38 Zpf:=B9 Bo (fn:=f38) (λ m x=>show run Ta ot m x Zym=D4.S (bJ m m) x.1 from by kernel_rfl) (λ x=>by rw [Yyw fu fu];rfl) (Bn ⟨⟨Ve,call35,λ _=>Bj rfl⟩,⟨⟨om,call78,λ _=>Bj rfl⟩,trivial⟩⟩)
abbrev Zqf:=AM.spec [.val GY, .val AX] [(Lf,[⟨3,1,0,1⟩]),(AX,[])] λ x=>PM x.1 x.2.1
theorem Xcb:Bh prog 11 Zqf:=Ck Bo (fn:=f11) (lk:=(AM.look [(35,SM),(36,fL),(37,Znf),(38,Zpf)])) (ks:=⟨[],[],[],⟨tt [4,5],tt [4]⟩,[],[35],[],[]⟩) (ts:=[.cell 4 31, .tmp 5]) (λ _=>by kernel_rfl) (Bn ⟨⟨Ve,call35,λ _=>Bj rfl⟩,⟨⟨rm,call36,nw⟩,⟨⟨Xab,call37,nw⟩,⟨⟨Xbb,call38,nw⟩,trivial⟩⟩⟩⟩)
abbrev X3:=BY.env (AM.look [(35,SM),(45,Zif),(11,Zqf)]) ⟨[(0,⟨tt [0,2,4,5,6],tt [2,4]⟩)],[],[(10,⟨tt [0,2,5],tt [2]⟩)],⟨tt [2,3],tt [2]⟩,[],[35,45],[],[]⟩
def ou:=bd f17
abbrev ov:=fin X3 [.cell 2 31, .tmp 3] [] [(Lf,[⟨3,1,0,1⟩]),(AX,[])]
def we:=Bb 5 ou
def lD (m0 n:Nat):DX.A1:=λ x8 x9 Bl=>ej X3 n (.tail we) 0 (mk [(0, .dat GY x8 []),(2, .ptr 2 0 0),(5, .dat AX x9 [])] [(2,some (.var Lf Bl [⟨1,64130,0,2⟩,⟨2,64131,0,1⟩,⟨3,64132,0,1⟩]))]) ov
theorem Yzw (m0:Nat):∀ n,lD m0 n=DX.t1 n:=ind rfl λ n _=>by kernel_rfl
def Yax (m0:Nat):=BJ X3 m0 we 0 ov
def Ybx (m0:Nat):=BA 0 (Yax m0)
def Yke:=Bz 2 (By (BM (Bb 4 ou)))
def Zrf (m0 n:Nat):DX.A0:=λ x3 x4 x5 x6 x7=>ej X3 n (.loop Yke) 0 (mk [(0, .dat GY x3 []),(2, .ptr 2 0 0),(4, .ptr 4 0 0),(5, .dat AX x4 []),(6, .dat AX x5 [])] [(2,some (.var Lf x6 [⟨1,64130,0,2⟩,⟨2,64131,0,1⟩,⟨3,64132,0,1⟩])),(4,some (.arr AX x7 false))]) (Ybx m0)
theorem Ycx (m0:Nat):∀ n,Zrf m0 n=DX.l0 (lD m0 m0) n:=BR (S:=DX.S0 (lD m0 m0)) λ n=>by kernel_rfl
abbrev lE:=AM.spec [.val GY] [(Lf,[⟨3,1,0,1⟩]),(AX,[])] λ x=>DX x.1
theorem Zzm:Bh prog 17 lE:=B9 Bo (fn:=f17) (λ m x=>show run X3 ou m x ov=DX.S (Zrf m m) x.1 from by kernel_rfl) (λ x=>by rw [Ycx fu fu,Yzw fu fu];rfl) (Bn ⟨⟨Ve,call35,λ _=>Bj rfl⟩,⟨⟨Xya,call45,λ _=>Bj rfl⟩,⟨⟨Xcb,call11,nw⟩,trivial⟩⟩⟩)
abbrev Zsf:=AM.spec [.val Bi] [(Lf,[⟨3,1,0,1⟩]),(AX,[])] λ x=>Mw x.1
theorem Xdb:Bh prog 47 Zsf:=Ck Bo (fn:=f47) (lk:=(AM.look [(63,gO),(17,lE)])) (ks:=⟨[],[],[],⟨tt [2,3],tt [2]⟩,[],[],[],[]⟩) (ts:=[.cell 2 31, .tmp 3]) (λ _=>by kernel_rfl) (Bn ⟨⟨uA,call63,nw⟩,⟨⟨Zzm,call17,nw⟩,trivial⟩⟩)
abbrev Ztf:=AM.spec [.val AX] [(ID,[])] λ x=>some (ia x.1)
theorem Xeb:Bh prog 91 Ztf:=Ck Bo (fn:=f91) (lk:=(AM.look [])) (ks:=⟨[],[],[],⟨tt [2],tt [2]⟩,[],[],[],[]⟩) (ts:=[.cell 2 45]) (λ _=>by kernel_rfl) (Bn trivial)
abbrev yw:=AM.spec [.val AX, .val AX] [(AX,[])] λ x=>some (PG x.1 x.2.1)
theorem Yw3:Bh prog 239 yw:=Ck Bo (fn:=f239) (lk:=(AM.look [(197,jJ)])) (ks:=⟨[],[],[],⟨tt [4],[]⟩,[],[197],[],[]⟩) (ts:=[.tmp 4]) (λ x=>(show _=PG.o x.1 x.2.1 from by kernel_rfl).trans (by unfold PG.o PG;simp only [Na])) (Bn ⟨⟨Zuf,call197,λ _=>Bj rfl⟩,trivial⟩)
abbrev bK:=BY.env (AM.look []) (kq [(0,⟨tt [3,6,7,8],[]⟩)] [] [2])
def lF:=bd f238
abbrev Zvf:=fin bK [.tmp 2] [] [(AX,[])]
def Zr3:=Bb 3 lF
def Yle (m0:Nat):=BJ bK m0 Zr3 0 Zvf
def Yme (m0:Nat):=BA 0 (Yle m0)
def Zs3:=Bz 2 (By (BM (Bb 2 lF)))
def yx (m0 n:Nat):IK.A0:=λ x1 x2 x3 x4=>ej bK n (.loop Zs3) 0 (mk [(3, .dat AX x1 []),(6, .dat Bi x2 []),(7, .dat AX x3 []),(8, .dat AX x4 [])] []) (Yme m0)
theorem Yne (m0:Nat):∀ n,yx m0 n=IK.l0 n:=BR (S:=IK.S0) λ n=>by kernel_rfl
abbrev yy:=AM.spec [.val Bi] [(AX,[])] λ x=>IK x.1
theorem Yx3:Bh prog 238 yy:=B9 Bo (fn:=f238) (λ m x=>show run bK lF m x Zvf=IK.S (yx m m) x.1 from by kernel_rfl) (λ x=>by rw [Yne fu fu];rfl) (Bn trivial)
abbrev yz:=AM.spec [.val ID, .val ID] [(AX,[])] λ x=>ZB x.1 x.2.1
theorem Yy3:Bh prog 200 yz:=Ck Bo (fn:=f200) (lk:=(AM.look [(239,yw),(240,rq),(238,yy)])) (ks:=⟨[],[],[],⟨tt [4],[]⟩,[],[238,239,240],[],[20]⟩) (ts:=[.tmp 4]) (λ _=>by kernel_rfl) (Bn ⟨⟨Yw3,call239,λ _=>Bj rfl⟩,⟨⟨Zyr,call240,λ _=>Bj rfl⟩,⟨⟨Yx3,call238,λ _=>Bj rfl⟩,trivial⟩⟩⟩)
abbrev yA:=AM.spec [.val MM, .val ID] [(.bool,[])] λ x=>ZI x.1 x.2.1
theorem Yz3:Bh prog 152 yA:=Ck Bo (fn:=f152) (lk:=(AM.look [(200,yz)])) (ks:=⟨[],[],[],⟨tt [4],[]⟩,[],[200],[],[]⟩) (ts:=[.tmp 4]) (λ _=>by kernel_rfl) (Bn ⟨⟨Yy3,call200,λ _=>Bj rfl⟩,trivial⟩)
abbrev Xf:=AM.spec [.val MM, .val ID] [(.bool,[])] λ x=>Sp x.1 x.2.1
theorem dk:Bh prog 90 Xf:=Ck Bo (fn:=f90) (lk:=(AM.look [(46,bG),(152,yA)])) (ks:=⟨[],[],[],⟨tt [4],[]⟩,[],[46,152],[],[]⟩) (ts:=[.tmp 4]) (λ _=>by kernel_rfl) (Bn ⟨⟨oj,call46,λ _=>Bj rfl⟩,⟨⟨Yz3,call152,λ _=>Bj rfl⟩,trivial⟩⟩)
abbrev ow:=BY.env (AM.look []) (kq [(0,⟨tt [0,2,6],tt [1000000]⟩)] [] [])
def Zan:=bd f92
abbrev Zbn:=fin ow [] [.io GC [(5,1)]] [(GC,[⟨5,1,0,1⟩])]
def Ydx (m0:Nat):=BA 0 Zbn
def Yoe:=Bz 2 (By Zan)
def Zwf (m0 n:Nat):GL.A0:=λ x1 x2 x3=>ej ow n (.loop Yoe) 0 (mk [(0, .ptr 1000000 0 0),(2, .dat AX x1 []),(6, .dat AX x2 [])] [(1000000,some (.var GC x3 [⟨5,64064006,0,1⟩]))]) (Ydx m0)
theorem Yex (m0:Nat):∀ n,Zwf m0 n=GL.l0 n:=BR (S:=GL.S0) λ n=>by kernel_rfl
abbrev Xg:=AM.Hm 0 [.io GC [(5,1)], .val AX, .val AX] [(GC,[⟨5,1,0,1⟩])] λ x=>GL x.1 x.2.1 x.2.2.1
theorem dm:Bh prog 92 Xg:=S9 Bo (fn:=f92) (ts:=[]) (λ m x=>show run ow Zan m x Zbn=GL.S (Zwf m m) x.1 x.2.1 x.2.2.1 from by kernel_rfl) (λ x=>by rw [Yex fu fu];rfl) (Bn trivial)
abbrev ox:=BY.env (AM.look [(89,bL),(91,Ztf),(90,Xf),(92,Xg)]) ⟨[(0,⟨tt [0,17,18,19],tt [1000000]⟩)],[],[],⟨[],[]⟩,[],[90,91],[],[]⟩
def Zcn:=bd f49
abbrev Zdn:=fin ox [] [.io GC [(5,1)]] [(GC,[⟨5,1,0,1⟩])]
def Yfx (m0:Nat):=BA 0 Zdn
def Ype:=Bz 2 (Bb 2 Zcn)
def Zxf (m0 n:Nat):GM.A0:=λ x2 x3 x4 x5=>ej ox n (.loop Ype) 0 (mk [(0, .ptr 1000000 0 0),(17, .dat GZ x2 [⟨0,1089,0,3⟩]),(18, .dat AX x3 []),(19, .dat AX x4 [])] [(1000000,some (.var GC x5 [⟨5,64064006,0,1⟩]))]) (Yfx m0)
theorem Ygx (m0:Nat):∀ n,Zxf m0 n=GM.l0 n:=BR (S:=GM.S0) λ n=>by kernel_rfl
abbrev Zyf:=AM.Hm 0 [.io GC [(5,1)], .val AX] [(GC,[⟨5,1,0,1⟩])] λ x=>GM x.1 x.2.1
theorem Xfb:Bh prog 49 Zyf:=S9 Bo (fn:=f49) (ts:=[]) (λ m x=>show run ox Zcn m x Zdn=GM.S (Zxf m m) x.1 x.2.1 from by kernel_rfl) (λ x=>by rw [Ygx fu fu];rfl) (Bn ⟨⟨oy,call89,nw⟩,⟨⟨Xeb,call91,λ _=>Bj rfl⟩,⟨⟨dk,call90,λ _=>Bj rfl⟩,⟨⟨dm,call92,nw⟩,trivial⟩⟩⟩⟩)
abbrev Tb:=BY.env (AM.look []) (kq [(0,⟨tt [1,5,11,12,13],[]⟩),(2,⟨tt [5,8,26,27,28],[]⟩)] [(8,⟨tt [1,5],[]⟩)] [4])
def X4:=bd f53
abbrev dn:=fin Tb [.tmp 4] [] [(Bi,[⟨0,1,0,1⟩])]
def Yqe:=Bb 5 X4
def Yhx (m0 m1:Nat):=BJ Tb m1 Yqe 0 dn
def Yix (m0 m1:Nat):=BA 2 (Yhx m0 m1)
def Yre:=Bz 2 (By (BM (Bb 4 X4)))
def Zzf (m0 m1 n:Nat):Dj.A2:=λ x8 x9 Bl BI B0=>ej Tb n (.loop Yre) 2 (mk [(5, .dat Bi x8 [⟨0,321,0,1⟩]),(8, .dat Bi x9 [⟨0,513,0,1⟩]),(26, .dat Bi Bl []),(27, .dat AX BI []),(28, .dat AX B0 [])] []) (Yix m0 m1)
theorem Yjx (m0 m1:Nat):∀ n,Zzf m0 m1 n=Dj.l2 n:=BR (S:=Dj.S2) λ n=>by kernel_rfl
def wg:=Bb 3 X4
def lG (m0 n:Nat):Dj.A1:=λ x6 x7=>ej Tb n (.tail wg) 0 (mk [(1, .dat Bi x6 []),(5, .dat Bi x7 [⟨0,321,0,1⟩])] []) dn
theorem Ykx (m0:Nat):∀ n,lG m0 n=Dj.t1 n:=ind rfl λ n _=>(show _=Dj.S1 (Zzf m0 n n) from by kernel_rfl).trans (by rw [Yjx m0 n n];rfl)
def Ylx (m0:Nat):=BJ Tb m0 wg 0 dn
def Ymx (m0:Nat):=BA 0 (Ylx m0)
def Yse:=Bz 2 (By (BM (Bb 2 X4)))
def Zag (m0 n:Nat):Dj.A0:=λ x1 x2 x3 x4 x5=>ej Tb n (.loop Yse) 0 (mk [(1, .dat Bi x1 []),(5, .dat Bi x2 [⟨0,321,0,1⟩]),(11, .dat CQ x3 []),(12, .dat AX x4 []),(13, .dat AX x5 [])] []) (Ymx m0)
theorem Ynx (m0:Nat):∀ n,Zag m0 n=Dj.l0 (lG m0 m0) n:=BR (S:=Dj.S0 (lG m0 m0)) λ n=>by kernel_rfl
abbrev Zbg:=AM.spec [.val CQ, .val Bi] [(Bi,[⟨0,1,0,1⟩])] λ x=>Dj x.1 x.2.1
theorem Xgb:Bh prog 53 Zbg:=B9 Bo (fn:=f53) (λ m x=>show run Tb X4 m x dn=Dj.S (Zag m m) x.1 x.2.1 from by kernel_rfl) (λ x=>by rw [Ynx fu fu,Ykx fu fu];rfl) (Bn trivial)
abbrev Vf:=BY.env (AM.look [(93,lH),(90,Xf),(92,Xg)]) ⟨[(0,⟨tt [0,5,7,25,26,27],tt [24,1000000]⟩),(2,⟨tt [0,7,43,44,45],tt [24,1000000]⟩)],[],[(7,⟨tt [0,5,7],tt [24,1000000]⟩)],⟨[],[]⟩,[7,24,32,50],[90],[],[]⟩
def dp:=bd f50
abbrev dq:=fin Vf [] [.io GC [(5,1)]] [(GC,[⟨5,1,0,1⟩])]
def Yox (m0:Nat):=BA 2 dq
def Yte:=Bz 2 (Bb 4 dp)
def Zcg (m0 n:Nat):C0.A2:=λ B0 BS B2 Cy Ct=>ej Vf n (.loop Yte) 2 (mk [(0, .ptr 1000000 0 0),(7, .slw 24 0),(43, .dat Bi B0 []),(44, .dat AX BS []),(45, .dat AX B2 [])] [(24,some (.arr .bool Cy false)),(1000000,some (.var GC Ct [⟨5,64064006,0,1⟩]))]) (Yox m0)
theorem Ypx (m0 m1:Nat):∀ n,Zcg m0 n=C0.l2 n:=BR (S:=C0.S2) λ n=>by kernel_rfl
def wh:=Bb 3 dp
def lI (m0 n:Nat):C0.A1:=λ x9 Bl BI=>ej Vf n (.tail wh) 0 (mk [(0, .ptr 1000000 0 0),(5, .dat Bi x9 []),(7, .slw 24 0)] [(24,some (.arr .bool Bl false)),(1000000,some (.var GC BI [⟨5,64064006,0,1⟩]))]) dq
theorem Yqx (m0:Nat):∀ n,lI m0 n=C0.t1 n:=ind rfl λ n _=>(show _=C0.S1 (Zcg m0 n) from by kernel_rfl).trans (by rw [Ypx m0 n n];rfl)
def Yrx (m0:Nat):=BJ Vf m0 wh 0 dq
def Ysx (m0:Nat):=BA 0 (Yrx m0)
def Yue:=Bz 2 (By (BM (Bb 2 dp)))
def Zdg (m0 n:Nat):C0.A0:=λ x2 x3 x4 x5 x6 x7=>ej Vf n (.loop Yue) 0 (mk [(0, .ptr 1000000 0 0),(5, .dat Bi x2 []),(7, .slw 24 0),(25, .dat Cq x3 [⟨0,1601,0,1⟩]),(26, .dat AX x4 []),(27, .dat AX x5 [])] [(24,some (.arr .bool x6 false)),(1000000,some (.var GC x7 [⟨5,64064006,0,1⟩]))]) (Ysx m0)
theorem Ytx (m0:Nat):∀ n,Zdg m0 n=C0.l0 (lI m0 m0) n:=BR (S:=C0.S0 (lI m0 m0)) λ n=>by kernel_rfl
abbrev Zeg:=AM.Hm 0 [.io GC [(5,1)], .val AX] [(GC,[⟨5,1,0,1⟩])] λ x=>C0 x.1 x.2.1
theorem Xhb:Bh prog 50 Zeg:=S9 Bo (fn:=f50) (ts:=[]) (λ m x=>show run Vf dp m x dq=C0.S (Zdg m m) x.1 x.2.1 from by kernel_rfl) (λ x=>by rw [Ytx fu fu,Yqx fu fu];rfl) (Bn ⟨⟨Zen,call93,nw⟩,⟨⟨dk,call90,λ _=>Bj rfl⟩,⟨⟨dm,call92,nw⟩,trivial⟩⟩⟩)
abbrev yB:=AM.spec [.val AX, .ref AX, .ref MM, .ref Bi] [(.bool,[])] λ x=>Zo x.1 x.2.1 x.2.2.1 x.2.2.2.1
theorem Ya4:Bh prog 161 yB:=Ck Bo (fn:=f161) (lk:=(AM.look [(90,Xf)])) (ks:=⟨[],[],[],⟨tt [5],[]⟩,[],[90],[],[]⟩) (ts:=[.tmp 5]) (λ _=>by kernel_rfl) (Bn ⟨⟨dk,call90,λ _=>Bj rfl⟩,trivial⟩)
abbrev bM:=BY.env (AM.look [(161,yB)]) ⟨[(0,⟨tt [1,5,6],[]⟩)],[],[],⟨tt [4],[]⟩,[],[161],[],[]⟩
def lJ:=bd f160
abbrev Zfg:=fin bM [.tmp 4] [] [(AX,[])]
def Zt3:=Bb 3 lJ
def Yve (m0:Nat):=BJ bM m0 Zt3 0 Zfg
def Ywe (m0:Nat):=BA 0 (Yve m0)
def Zu3:=Bz 3 (Bb 2 lJ)
def yC (m0 n:Nat):JR.A0:=λ x1 x2 x3 x4 x5=>ej bM n (.loop Zu3) 0 (mk [(1, .fn 161 [⟨AX,x1,[]⟩,⟨MM,x2,[]⟩,⟨Bi,x3,[]⟩]),(5, .dat AX x4 []),(6, .dat AX x5 [])] []) (Ywe m0)
theorem Yxe (m0:Nat):∀ n,yC m0 n=JR.l0 n:=BR (S:=JR.S0) λ n=>by kernel_rfl
abbrev yD:=AM.spec [.val AX, .fn 161 [AX,MM,Bi]] [(AX,[])] λ x=>JR x.1 x.2.1.1 x.2.1.2.1 x.2.1.2.2.1
theorem Yb4:Bh prog 160 yD:=B9 Bo (fn:=f160) (λ m x=>show run bM lJ m x Zfg=JR.S (yC m m) x.1 x.2.1.1 x.2.1.2.1 x.2.1.2.2.1 from by kernel_rfl) (λ x=>by rw [Yxe fu fu];rfl) (Bn ⟨⟨Ya4,call161,λ _=>Bj rfl⟩,trivial⟩)
abbrev yE:=AM.spec [.val AX, .ref Bi, .ref MM] [(AX,[])] λ x=>NU x.1 x.2.1 x.2.2.1
theorem Yc4:Bh prog 159 yE:=Ck Bo (fn:=f159) (lk:=(AM.look [(160,yD)])) (ks:=⟨[],[],[],⟨tt [4],[]⟩,[],[160],[],[]⟩) (ts:=[.tmp 4]) (λ _=>by kernel_rfl) (Bn ⟨⟨Yb4,call160,λ _=>Bj rfl⟩,trivial⟩)
abbrev oz:=BY.env (AM.look [(46,bG),(159,yE)]) ⟨[],[],[(15,⟨tt [7,8],[]⟩)],⟨tt [4,5],[]⟩,[],[46,159],[],[]⟩
def Zfn:=bd f96
abbrev Zgn:=fin oz [.tmp 4, .tmp 5] [] [(AX,[]),(AX,[])]
def Yux:=Bb 5 Zfn
def Zgg (m0 n:Nat):JS.A0:=λ x4 x5=>ej oz n (.tail Yux) 0 (mk [(7, .dat AX x4 []),(8, .dat AX x5 [])] []) Zgn
theorem Yvx (m0:Nat):∀ n,Zgg m0 n=JS.t0 n:=ind rfl λ n _=>by kernel_rfl
abbrev Zhg:=AM.spec [.val MM, .val Bi] [(AX,[]),(AX,[])] λ x=>JS x.1 x.2.1
theorem Xib:Bh prog 96 Zhg:=B9 Bo (fn:=f96) (λ m x=>show run oz Zfn m x Zgn=JS.S (Zgg m m) x.1 x.2.1 from by kernel_rfl) (λ x=>by rw [Yvx fu fu];rfl) (Bn ⟨⟨oj,call46,λ _=>Bj rfl⟩,⟨⟨Yc4,call159,λ _=>Bj rfl⟩,trivial⟩⟩)
abbrev oA:=BY.env (AM.look [(94,lK),(95,sE),(96,Zhg),(92,Xg)]) ⟨[(0,⟨tt [0,8,9,35,36,37],tt [1000000]⟩)],[],[],⟨[],[]⟩,[],[96],[],[]⟩
def Zhn:=bd f51
abbrev Zin:=fin oA [] [.io GC [(5,1)]] [(GC,[⟨5,1,0,1⟩])]
def Ywx (m0:Nat):=BA 0 Zin
def Yye:=Bz 2 (Bb 4 Zhn)
def Zig (m0 n:Nat):Fc.A0:=λ x4 x5 x6 x7 x8 x9=>ej oA n (.loop Yye) 0 (mk [(0, .ptr 1000000 0 0),(8, .dat AX x4 []),(9, .dat AX x5 []),(35, .dat Bi x6 []),(36, .dat AX x7 []),(37, .dat AX x8 [])] [(1000000,some (.var GC x9 [⟨5,64064006,0,1⟩]))]) (Ywx m0)
theorem Yxx (m0:Nat):∀ n,Zig m0 n=Fc.l0 n:=BR (S:=Fc.S0) λ n=>by kernel_rfl
abbrev Zjg:=AM.Hm 0 [.io GC [(5,1)], .val AX] [(GC,[⟨5,1,0,1⟩])] λ x=>Fc x.1 x.2.1
theorem Xjb:Bh prog 51 Zjg:=S9 Bo (fn:=f51) (ts:=[]) (λ m x=>show run oA Zhn m x Zin=Fc.S (Zig m m) x.1 x.2.1 from by kernel_rfl) (λ x=>by rw [Yxx fu fu];rfl) (Bn ⟨⟨Zjn,call94,nw⟩,⟨⟨Zuz,call95,nw⟩,⟨⟨Xib,call96,λ _=>Bj rfl⟩,⟨⟨dm,call92,nw⟩,trivial⟩⟩⟩⟩)
abbrev oB:=BY.env (AM.look [(90,Xf),(92,Xg)]) ⟨[(0,⟨tt [0,4,7,8,9],tt [1000000]⟩)],[],[],⟨[],[]⟩,[],[90],[],[]⟩
def Zkn:=bd f52
abbrev Zln:=fin oB [] [.io GC [(5,1)]] [(GC,[⟨5,1,0,1⟩])]
def Yyx (m0:Nat):=BA 0 Zln
def Yze:=Bz 2 (Bb 2 Zkn)
def Zkg (m0 n:Nat):FB.A0:=λ x1 x2 x3 x4 x5=>ej oB n (.loop Yze) 0 (mk [(0, .ptr 1000000 0 0),(4, .dat AX x1 []),(7, .dat CQ x2 []),(8, .dat AX x3 []),(9, .dat AX x4 [])] [(1000000,some (.var GC x5 [⟨5,64064006,0,1⟩]))]) (Yyx m0)
theorem Yzx (m0:Nat):∀ n,Zkg m0 n=FB.l0 n:=BR (S:=FB.S0) λ n=>by kernel_rfl
abbrev Zlg:=AM.Hm 0 [.io GC [(5,1)], .val CQ] [(GC,[⟨5,1,0,1⟩])] λ x=>FB x.1 x.2.1
theorem Xkb:Bh prog 52 Zlg:=S9 Bo (fn:=f52) (ts:=[]) (λ m x=>show run oB Zkn m x Zln=FB.S (Zkg m m) x.1 x.2.1 from by kernel_rfl) (λ x=>by rw [Yzx fu fu];rfl) (Bn ⟨⟨dk,call90,λ _=>Bj rfl⟩,⟨⟨dm,call92,nw⟩,trivial⟩⟩)
abbrev RG:=BY.env (AM.look [(46,bG),(43,lL),(39,Zmg),(47,Zsf),(48,Zng),(49,Zyf),(53,Zbg),(50,Zeg),(51,Zjg),(52,Zlg)]) ⟨[(0,⟨tt [4,10,39,40,41],tt [4]⟩)],[],[(15,⟨tt [4,10],tt [4]⟩),(16,⟨tt [0,3,4,6,8],tt [3,4,6]⟩),(26,⟨tt [4,8,16],tt [4,67]⟩)],⟨tt [4,5],tt [4]⟩,[],[43,46,48],[],[]⟩
def du:=bd f18
abbrev dw:=fin RG [.cell 4 31, .tmp 5] [] [(Lf,[⟨3,1,0,1⟩]),(AX,[])]
def jn:=Bb 6 du
def yF (m0:Nat):=BJ RG m0 jn 0 dw
def wk:=Bb 2 (BM (By (BM (Bb 5 du))))
def lM (m0 n:Nat):Cv.A1:=λ x9 Bl=>ej RG n (.tail wk) 0 (mk [(4, .ptr 4 0 0),(10, .dat Bi x9 [⟨0,641,0,1⟩])] [(4,some (.var Lf Bl [⟨1,64258,0,2⟩,⟨2,64259,0,1⟩,⟨3,64260,0,1⟩]))]) (yF m0)
theorem Yay (m0:Nat):∀ n,lM m0 n=Cv.t1 n:=ind rfl λ n _=>by kernel_rfl
def Yby (m0:Nat):=BJ RG m0 wk 0 (yF m0)
def Ycy (m0:Nat):=BA 0 (Yby m0)
def Yaf:=Bz 2 (By (BM (By (BM (By (BM (Bb 5 du)))))))
def Zog (m0 n:Nat):Cv.A0:=λ x4 x5 x6 x7 x8=>ej RG n (.loop Yaf) 0 (mk [(4, .ptr 4 0 0),(10, .dat Bi x4 [⟨0,641,0,1⟩]),(39, .dat CQ x5 []),(40, .dat AX x6 []),(41, .dat AX x7 [])] [(4,some (.var Lf x8 [⟨1,64258,0,2⟩,⟨2,64259,0,1⟩,⟨3,64260,0,1⟩]))]) (Ycy m0)
theorem Ydy (m0:Nat):∀ n,Zog m0 n=Cv.l0 (lM m0 m0) n:=BR (S:=Cv.S0 (lM m0 m0)) λ n=>by kernel_rfl
def Ybf:=Bb 4 jn
def Zpg (m0 n:Nat):Cv.A3:=λ CX C4 DO=>ej RG n (.tail Ybf) 0 (mk [(4, .ptr 4 0 0),(8, .dat CQ CX []),(16, .ptr 67 0 0)] [(4,some (.var Lf C4 [⟨1,64258,0,2⟩,⟨2,64259,0,1⟩,⟨3,64260,0,1⟩])),(67,some (.var GC DO [⟨5,68294,0,1⟩]))]) dw
theorem Yey (m0 m1:Nat):∀ n,Zpg m0 n=Cv.t3 n:=ind rfl λ n _=>by kernel_rfl
def Zqg (m0 n:Nat):Cv.A2:=λ B0 BS B2 Cy Ct=>ej RG n (.tail jn) 0 (mk [(0, .dat .str B0 []),(3, .ptr 3 0 0),(4, .ptr 4 0 0),(6, .ptr 6 0 0),(8, .dat CQ BS [])] [(3,some (.var MM B2 [])),(4,some (.var Lf Cy [⟨1,64258,0,2⟩,⟨2,64259,0,1⟩,⟨3,64260,0,1⟩])),(6,some (.var Pm Ct []))]) dw
theorem Yfy (m0:Nat):∀ n,Zqg m0 n=Cv.t2 n:=ind rfl λ n _=>(show _=Cv.S2 (Zpg m0 n) from by kernel_rfl).trans (by rw [Yey m0 n n];rfl)
abbrev lN:=AM.spec [.val .str, .val MM] [(Lf,[⟨3,1,0,1⟩]),(AX,[])] λ x=>Cv x.1 x.2.1
theorem Zmn:Bh prog 18 lN:=B9 Bo (fn:=f18) (λ m x=>show run RG du m x dw=Cv.S (Zog m m) (Zqg m m) x.1 x.2.1 from by kernel_rfl) (λ x=>by rw [Yfy fu fu,Ydy fu fu,Yay fu fu];rfl) (Bn ⟨⟨oj,call46,λ _=>Bj rfl⟩,⟨⟨Znn,call43,λ _=>Bj rfl⟩,⟨⟨Zon,call39,nw⟩,⟨⟨Xdb,call47,nw⟩,⟨⟨Xlb,call48,λ _=>Bj rfl⟩,⟨⟨Xfb,call49,nw⟩,⟨⟨Xgb,call53,nw⟩,⟨⟨Xhb,call50,nw⟩,⟨⟨Xjb,call51,nw⟩,⟨⟨Xkb,call52,nw⟩,trivial⟩⟩⟩⟩⟩⟩⟩⟩⟩⟩)
abbrev X5:=BY.env (AM.look [(12,Zp),(43,lL)]) ⟨[(0,⟨tt [11,12,32,33,34],[]⟩)],[],[(14,⟨tt [11,12],[]⟩)],⟨tt [4,5,6],[]⟩,[],[43],[],[]⟩
def oC:=bd f13
abbrev oD:=fin X5 [.tmp 4, .tmp 5, .tmp 6] [] [(AX,[]),(AX,[]),(AX,[])]
def wm:=Bb 6 oC
def lO (m0 n:Nat):Dw.A1:=λ x8 x9=>ej X5 n (.tail wm) 0 (mk [(11, .dat AX x8 []),(12, .dat AX x9 [])] []) oD
theorem Ygy (m0:Nat):∀ n,lO m0 n=Dw.t1 n:=ind rfl λ n _=>by kernel_rfl
def Yhy (m0:Nat):=BJ X5 m0 wm 0 oD
def Yiy (m0:Nat):=BA 0 (Yhy m0)
def Ycf:=Bz 2 (By (BM (Bb 5 oC)))
def Zrg (m0 n:Nat):Dw.A0:=λ x3 x4 x5 x6 x7=>ej X5 n (.loop Ycf) 0 (mk [(11, .dat AX x3 []),(12, .dat AX x4 []),(32, .dat CQ x5 []),(33, .dat AX x6 []),(34, .dat AX x7 [])] []) (Yiy m0)
theorem Yjy (m0:Nat):∀ n,Zrg m0 n=Dw.l0 (lO m0 m0) n:=BR (S:=Dw.S0 (lO m0 m0)) λ n=>by kernel_rfl
abbrev lP:=AM.spec [.val .str, .val Lf] [(AX,[]),(AX,[]),(AX,[])] λ x=>Dw x.1 x.2.1
theorem Zpn:Bh prog 13 lP:=B9 Bo (fn:=f13) (λ m x=>show run X5 oC m x oD=Dw.S (Zrg m m) x.1 x.2.1 from by kernel_rfl) (λ x=>by rw [Yjy fu fu,Ygy fu fu];rfl) (Bn ⟨⟨gk,call12,nw⟩,⟨⟨Znn,call43,λ _=>Bj rfl⟩,trivial⟩⟩)
abbrev Zsg:=AM.spec [.val Lf] [(GY,[])] λ x=>OH x.1
theorem Xmb:Bh prog 23 Zsg:=Ck Bo (fn:=f23) (lk:=(AM.look [(62,rM),(63,gO),(36,fL)])) (ks:=(kz [2])) (ts:=[.tmp 2]) (λ _=>by kernel_rfl) (Bn ⟨⟨Zrt,call62,nw⟩,⟨⟨uA,call63,nw⟩,⟨⟨rm,call36,nw⟩,trivial⟩⟩⟩)
abbrev dy:=BY.env (AM.look []) (kq [(0,⟨tt [0,1,5],[]⟩)] [] [4])
def oE:=bd f22
abbrev Zqn:=fin dy [.tmp 4] [] [(.bool,[])]
def Ydf:=Bb 3 oE
def Yky (m0:Nat):=BJ dy m0 Ydf 0 Zqn
def Yly (m0:Nat):=BA 0 (Yky m0)
def Yef:=Bz 2 (By (BM (Bb 2 oE)))
def Ztg (m0 n:Nat):JT.A0:=λ x1 x2 x3=>ej dy n (.loop Yef) 0 (mk [(0, .dat GY x1 []),(1, .dat GY x2 []),(5, .dat AX x3 [])] []) (Yly m0)
theorem Ymy (m0:Nat):∀ n,Ztg m0 n=JT.l0 n:=BR (S:=JT.S0) λ n=>by kernel_rfl
abbrev Zug:=AM.spec [.val GY, .val GY] [(.bool,[])] λ x=>JT x.1 x.2.1
theorem Xnb:Bh prog 22 Zug:=B9 Bo (fn:=f22) (λ m x=>show run dy oE m x Zqn=JT.S (Ztg m m) x.1 x.2.1 from by kernel_rfl) (λ x=>by rw [Ymy fu fu];rfl) (Bn trivial)
abbrev Zrn:=AM.spec [] [(.bool,[])] λ x=>NX
theorem Xgg:Bh prog 9 Zrn:=Ck Bo (fn:=f9) (lk:=(AM.look [(26,Zhf),(10,lQ),(18,lN),(12,Zp),(13,lP),(23,Zsg),(22,Zug),(16,Zvg)])) (ks:=⟨[],[],[],⟨tt [0],[]⟩,[],[10,13,16,22,26],[],[]⟩) (ts:=[.tmp 0]) (λ _=>by kernel_rfl) (Bn ⟨⟨Xxa,call26,λ _=>Bj rfl⟩,⟨⟨Zsn,call10,λ _=>Bj rfl⟩,⟨⟨Zmn,call18,nw⟩,⟨⟨gk,call12,nw⟩,⟨⟨Zpn,call13,λ _=>Bj rfl⟩,⟨⟨Xmb,call23,nw⟩,⟨⟨Xnb,call22,λ _=>Bj rfl⟩,⟨⟨Xob,call16,λ _=>Bj rfl⟩,trivial⟩⟩⟩⟩⟩⟩⟩⟩)
abbrev Zwg:=AM.spec [.val MM] [(.bool,[])] λ x=>some (PZ x.1)
theorem Xpb:Bh prog 20 Zwg:=Ck Bo (fn:=f20) (lk:=(AM.look [(59,lR)])) (ks:=⟨[],[],[],⟨tt [2],[]⟩,[],[59],[],[]⟩) (ts:=[.tmp 2]) (λ x=>(show _=PZ.o x.1 from by kernel_rfl).trans (by unfold PZ.o PZ;simp only [Na])) (Bn ⟨⟨Ztn,call59,λ _=>Bj rfl⟩,trivial⟩)
abbrev ek:=BY.env (AM.look []) (kq [(0,⟨tt [0,3],[]⟩)] [] [2])
def pF:=bd f8
abbrev Zpp:=fin ek [.tmp 2] [] [(.bool,[])]
def Yny:=Bb 2 pF
def Yd4 (m0:Nat):=BJ ek m0 Yny 0 Zpp
def Ye4 (m0:Nat):=BA 0 (Yd4 m0)
def Yoy:=Bz 2 (By (BM (By pF)))
def Zun (m0 n:Nat):Hg.A0:=λ x1 x2=>ej ek n (.loop Yoy) 0 (mk [(0, .dat GY x1 []),(3, .dat AX x2 [])] []) (Ye4 m0)
theorem Yf4 (m0:Nat):∀ n,Zun m0 n=Hg.l0 n:=BR (S:=Hg.S0) λ n=>by kernel_rfl
abbrev oF:=AM.spec [.val GY] [(.bool,[])] λ x=>Hg x.1
theorem Zqp:Bh prog 8 oF:=B9 Bo (fn:=f8) (λ m x=>show run ek pF m x Zpp=Hg.S (Zun m m) x.1 from by kernel_rfl) (λ x=>by rw [Yf4 fu fu];rfl) (Bn trivial)
abbrev Zxg:=AM.spec [.val GY] [(AX,[])] λ x=>ZT x.1
theorem Xqb:Bh prog 30 Zxg:=Ck Bo (fn:=f30) (lk:=(AM.look [])) (ks:=(kz [2])) (ts:=[.tmp 2]) (λ _=>by kernel_rfl) (Bn trivial)
abbrev Zvn:=AM.spec [.val GY] [(.bool,[])] λ x=>ZS x.1
theorem Xhg:Bh prog 7 Zvn:=Ck Bo (fn:=f7) (lk:=(AM.look [(8,oF),(30,Zxg)])) (ks:=⟨[],[],[],⟨tt [2],[]⟩,[],[8,30],[],[]⟩) (ts:=[.tmp 2]) (λ _=>by kernel_rfl) (Bn ⟨⟨Zqp,call8,λ _=>Bj rfl⟩,⟨⟨Xqb,call30,λ _=>Bj rfl⟩,trivial⟩⟩)
abbrev Zpr:=AM.spec [.val .str, .val MM, .val GY] [(.bool,[])] λ x=>fS x.1 x.2.1 x.2.2.1
theorem Zsr:Bh prog 4 Zpr:=Ck Bo (fn:=f4) (lk:=(AM.look [(9,Zrn),(7,Zvn),(8,oF),(17,lE),(18,lN),(12,Zp),(13,lP),(19,Zyg),(20,Zwg)])) (ks:=⟨[],[],[],⟨tt [6],[]⟩,[],[7,8,9,13,20],[],[]⟩) (ts:=[.tmp 6]) (λ _=>by kernel_rfl) (Bn ⟨⟨Xgg,call9,λ _=>Bj rfl⟩,⟨⟨Xhg,call7,λ _=>Bj rfl⟩,⟨⟨Zqp,call8,λ _=>Bj rfl⟩,⟨⟨Zzm,call17,nw⟩,⟨⟨Zmn,call18,nw⟩,⟨⟨gk,call12,nw⟩,⟨⟨Zpn,call13,λ _=>Bj rfl⟩,⟨⟨Xrb,call19,nw⟩,⟨⟨Xpb,call20,λ _=>Bj rfl⟩,trivial⟩⟩⟩⟩⟩⟩⟩⟩⟩)
end
end Go.Proofs.YtclpadlpcfnfmaaGreat.Am
