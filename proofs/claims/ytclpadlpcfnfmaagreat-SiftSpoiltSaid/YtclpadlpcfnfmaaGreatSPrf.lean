import Derived.Test.YtclpadlpcfnfmaaGreatAmPure18
import Derived.Test.YtclpadlpcfnfmaaGreatSHand
/- PRINTED by gen/ of this repo: the code comes to the pure functions. -/
namespace Go.Proofs.YtclpadlpcfnfmaaGreat.Am
open Go.Proofs.Tryz
open Go.AM Go.AM.Pure
set_option linter.unusedVariables false
set_option maxRecDepth 100000
noncomputable section
abbrev Zgf:=AM.spec [.val AX] [(ID,[])] λ x=>some (KV x.1)
theorem Xwa:Bh prog 26 Zgf:=Ck Bo (fn:=f26) (lk:=(AM.look [])) (ks:=⟨[],[],[],⟨tt [2],tt [2]⟩,[],[],[],[]⟩) (ts:=[.cell 2 45]) (λ _=>by kernel_rfl) (Bn trivial)
abbrev bI:=AM.spec [.val MO] [(AX,[])] λ x=>some (N3 x.1)
theorem om:Bh prog 46 bI:=Ck Bo (fn:=f46) (lk:=(AM.look [(88,lD)])) (ks:=⟨[],[],[],⟨tt [2],[]⟩,[],[88],[],[]⟩) (ts:=[.tmp 2]) (λ x=>(show _=N3.o x.1 from by kernel_rfl).trans (by unfold N3.o N3;simp only [Nc])) (Bn ⟨⟨Ztm,call88,λ _=>Bj rfl⟩,trivial⟩)
abbrev Zhf:=AM.spec [.val GY] [((.arr 3 AX),[])] λ x=>Zu x.1
theorem Xxa:Bh prog 45 Zhf:=Ck Bo (fn:=f45) (lk:=(AM.look [(78,bJ)])) (ks:=⟨[],[],[],⟨tt [2],tt [2]⟩,[],[78],[],[]⟩) (ts:=[.cell 2 86]) (λ _=>by kernel_rfl) (Bn ⟨⟨oo,call78,λ _=>Bj rfl⟩,trivial⟩)
abbrev yu:=AM.spec [.val AX, .val AX, .val AX, .val AX] [(AX,[])] λ x=>ZW x.1 x.2.1 x.2.2.1 x.2.2.2.1
theorem Yu3:Bh prog 138 yu:=Ck Bo (fn:=f138) (lk:=(AM.look [(185,jJ),(186,W4)])) (ks:=⟨[],[],[],⟨tt [8],[]⟩,[],[185,186],[],[]⟩) (ts:=[.tmp 8]) (λ _=>by kernel_rfl) (Bn ⟨⟨Zif,call185,λ _=>Bj rfl⟩,⟨⟨bK,call186,λ _=>Bj rfl⟩,trivial⟩⟩)
abbrev oq:=BY.env (AM.look [(138,yu)]) ⟨[(0,⟨tt [0,1,2],tt [1000000]⟩)],[],[],⟨[],[]⟩,[0,19,22],[138],[],[]⟩
def Zum:=bd f77
abbrev Zvm:=fin oq [] [.ioa AX] [(Bi,[])]
def Ymw (m0:Nat):=BA 0 Zvm
def Yde:=Bz 2 Zum
def Zjf (m0 n:Nat):IL.A0:=λ x1 x2 x3=>ej oq n (.loop Yde) 0 (mk [(0, .slw 1000000 0),(1, .dat AX x1 []),(2, .dat AX x2 [])] [(1000000,some (.arr AX x3 false))]) (Ymw m0)
theorem Ynw (m0:Nat):∀ n,Zjf m0 n=IL.l0 n:=BR (S:=IL.S0) λ n=>by kernel_rfl
abbrev Zkf:=AM.Hm 0 [.ioa AX, .val AX, .val AX] [(Bi,[])] λ x=>IL x.1 x.2.1 x.2.2.1
theorem Xya:Bh prog 77 Zkf:=Ta Bo (fn:=f77) (ts:=[]) (λ m x=>show run oq Zum m x Zvm=IL.S (Zjf m m) x.1 x.2.1 x.2.2.1 from by kernel_rfl) (λ x=>by rw [Ynw fu fu];rfl) (Bn ⟨⟨Yu3,call138,λ _=>Bj rfl⟩,trivial⟩)
abbrev dm:=BY.env (AM.look [(35,SO),(77,Zkf)]) ⟨[(0,⟨tt [4,24,25,26],tt [23]⟩)],[],[],⟨tt [2,3],tt [2,23]⟩,[2,4,23,30,37],[35],[(77,[true])],[]⟩
def ot:=bd f37
abbrev Zwm:=fin dm [.tmp 2, .tmp 3] [] [(Bi,[]),(AX,[])]
def Yee:=Bb 5 ot
def Yow (m0:Nat):=BK dm m0 Yee 0 Zwm
def Ypw (m0:Nat):=BA 0 (Yow m0)
def Yfe:=Bz 2 (By (BM (Bb 4 ot)))
def Zlf (m0 n:Nat):Hk.A0:=λ x2 x3 x4 x5=>ej dm n (.loop Yfe) 0 (mk [(4, .slw 23 0),(24, .dat GY x2 []),(25, .dat AX x3 []),(26, .dat AX x4 [])] [(23,some (.arr AX x5 false))]) (Ypw m0)
theorem Yqw (m0:Nat):∀ n,Zlf m0 n=Hk.l0 n:=BR (S:=Hk.S0) λ n=>by kernel_rfl
abbrev Zmf:=AM.spec [.val GY] [(Bi,[]),(AX,[])] λ x=>Hk x.1
theorem Xza:Bh prog 37 Zmf:=B9 Bo (fn:=f37) (λ m x=>show run dm ot m x Zwm=Hk.S (Zlf m m) x.1 from by kernel_rfl) (λ x=>by rw [Yqw fu fu];rfl) (Bn ⟨⟨Ve,call35,λ _=>Bj rfl⟩,⟨⟨Xya,call77,nw⟩,trivial⟩⟩)
abbrev Tb:=BY.env (AM.look [(35,SO),(78,bJ)]) ⟨[(0,⟨tt [4,14,15,16],[]⟩),(2,⟨tt [4,6,7,14,15,16],tt [6]⟩)],[],[],⟨tt [2,3],[]⟩,[],[35,78],[],[]⟩
def ou:=bd f38
abbrev Zxm:=fin Tb [.tmp 2, .tmp 3] [] [(Bi,[⟨0,1,0,1⟩]),(AX,[])]
def Yge:=Bb 4 ou
def Yrw (m0:Nat):=BK Tb m0 Yge 0 Zxm
def yv (m0:Nat):=BA 0 (Yrw m0)
def aG:=Bz 2 (By (BM (Bb 3 ou)))
def bL (m0 n:Nat):D5.A0:=λ x3 x4 x5 x6=>ej Tb n (.loop aG) 0 (mk [(4, .dat Bi x3 [⟨0,257,0,1⟩]),(14, .dat GY x4 []),(15, .dat AX x5 []),(16, .dat AX x6 [])] []) (yv m0)
def Ysw (m0 m1:Nat):=Mq Tb m1 aG 0 (yv m0)
def Yhe:=Bb 3 aG
def Ytw (m0 m1:Nat):=BK Tb m1 Yhe 0 (Ysw m0 m1)
def Yuw (m0 m1:Nat):=BA 1 (Ytw m0 m1)
def Yvw (m0 m1:Nat):=BA 2 (Yuw m0 m1)
def Yie:=Bz 2 (Bb 2 (Bz 2 (Bb 2 aG)))
def Znf (m0 m1 n:Nat):D5.A1:=λ x7 x8 x9 Bl BJ B0=>ej Tb n (.loop Yie) 2 (mk [(4, .dat Bi x7 [⟨0,257,0,1⟩]),(6, .ptr 6 0 0),(7, .dat AX x8 []),(14, .dat GY x9 []),(15, .dat AX Bl []),(16, .dat AX BJ [])] [(6,some (.var pF B0 []))]) (Yvw m0 m1)
theorem Yww (m0 m1:Nat):∀ n,Znf m0 m1 n=D5.l1 (bL m0 m1) n:=BR (S:=D5.S1 (bL m0 m1)) λ n=>by kernel_rfl
theorem Yxw (m0:Nat):∀ n,bL m0 n=D5.l0 n:=ind rfl λ n e0=>(show _=D5.S0 (Znf m0 n n) from by kernel_rfl).trans (by rw [Yww m0 n n,e0];rfl)
abbrev Zof:=AM.spec [.val GY] [(Bi,[⟨0,1,0,1⟩]),(AX,[])] λ x=>D5 x.1
theorem Xab:Bh prog 38 Zof:=B9 Bo (fn:=f38) (λ m x=>show run Tb ou m x Zxm=D5.S (bL m m) x.1 from by kernel_rfl) (λ x=>by rw [Yxw fu fu];rfl) (Bn ⟨⟨Ve,call35,λ _=>Bj rfl⟩,⟨⟨oo,call78,λ _=>Bj rfl⟩,trivial⟩⟩)
abbrev Zpf:=AM.spec [.val GY, .val AX] [(Lh,[⟨3,1,0,1⟩]),(AX,[])] λ x=>PM x.1 x.2.1
theorem Xbb:Bh prog 11 Zpf:=Ck Bo (fn:=f11) (lk:=(AM.look [(35,SO),(36,fM),(37,Zmf),(38,Zof)])) (ks:=⟨[],[],[],⟨tt [4,5],tt [4]⟩,[],[35],[],[]⟩) (ts:=[.cell 4 31, .tmp 5]) (λ _=>by kernel_rfl) (Bn ⟨⟨Ve,call35,λ _=>Bj rfl⟩,⟨⟨rq,call36,nw⟩,⟨⟨Xza,call37,nw⟩,⟨⟨Xab,call38,nw⟩,trivial⟩⟩⟩⟩)
abbrev X6:=BY.env (AM.look [(35,SO),(45,Zhf),(11,Zpf)]) ⟨[(0,⟨tt [0,2,4,5,6],tt [2,4]⟩)],[],[(10,⟨tt [0,2,5],tt [2]⟩)],⟨tt [2,3],tt [2]⟩,[],[35,45],[],[]⟩
def ov:=bd f17
abbrev ow:=fin X6 [.cell 2 31, .tmp 3] [] [(Lh,[⟨3,1,0,1⟩]),(AX,[])]
def we:=Bb 5 ov
def lE (m0 n:Nat):DX.A1:=λ x8 x9 Bl=>ej X6 n (.tail we) 0 (mk [(0, .dat GY x8 []),(2, .ptr 2 0 0),(5, .dat AX x9 [])] [(2,some (.var Lh Bl [⟨1,64130,0,2⟩,⟨2,64131,0,1⟩,⟨3,64132,0,1⟩]))]) ow
theorem Yyw (m0:Nat):∀ n,lE m0 n=DX.t1 n:=ind rfl λ n _=>by kernel_rfl
def Yzw (m0:Nat):=BK X6 m0 we 0 ow
def Yax (m0:Nat):=BA 0 (Yzw m0)
def Yje:=Bz 2 (By (BM (Bb 4 ov)))
def Zqf (m0 n:Nat):DX.A0:=λ x3 x4 x5 x6 x7=>ej X6 n (.loop Yje) 0 (mk [(0, .dat GY x3 []),(2, .ptr 2 0 0),(4, .ptr 4 0 0),(5, .dat AX x4 []),(6, .dat AX x5 [])] [(2,some (.var Lh x6 [⟨1,64130,0,2⟩,⟨2,64131,0,1⟩,⟨3,64132,0,1⟩])),(4,some (.arr AX x7 false))]) (Yax m0)
theorem Ybx (m0:Nat):∀ n,Zqf m0 n=DX.l0 (lE m0 m0) n:=BR (S:=DX.S0 (lE m0 m0)) λ n=>by kernel_rfl
abbrev lF:=AM.spec [.val GY] [(Lh,[⟨3,1,0,1⟩]),(AX,[])] λ x=>DX x.1
theorem Zym:Bh prog 17 lF:=B9 Bo (fn:=f17) (λ m x=>show run X6 ov m x ow=DX.S (Zqf m m) x.1 from by kernel_rfl) (λ x=>by rw [Ybx fu fu,Yyw fu fu];rfl) (Bn ⟨⟨Ve,call35,λ _=>Bj rfl⟩,⟨⟨Xxa,call45,λ _=>Bj rfl⟩,⟨⟨Xbb,call11,nw⟩,trivial⟩⟩⟩)
abbrev Zrf:=AM.spec [.val Bi] [(Lh,[⟨3,1,0,1⟩]),(AX,[])] λ x=>Mw x.1
theorem Xcb:Bh prog 47 Zrf:=Ck Bo (fn:=f47) (lk:=(AM.look [(63,gP),(17,lF)])) (ks:=⟨[],[],[],⟨tt [2,3],tt [2]⟩,[],[],[],[]⟩) (ts:=[.cell 2 31, .tmp 3]) (λ _=>by kernel_rfl) (Bn ⟨⟨uD,call63,nw⟩,⟨⟨Zym,call17,nw⟩,trivial⟩⟩)
abbrev Zsf:=AM.spec [.val AX] [(ID,[])] λ x=>some (ib x.1)
theorem Xdb:Bh prog 91 Zsf:=Ck Bo (fn:=f91) (lk:=(AM.look [])) (ks:=⟨[],[],[],⟨tt [2],tt [2]⟩,[],[],[],[]⟩) (ts:=[.cell 2 45]) (λ _=>by kernel_rfl) (Bn trivial)
abbrev yw:=AM.spec [.val AX, .val AX] [(AX,[])] λ x=>some (PG x.1 x.2.1)
theorem Yv3:Bh prog 239 yw:=Ck Bo (fn:=f239) (lk:=(AM.look [(197,jK)])) (ks:=⟨[],[],[],⟨tt [4],[]⟩,[],[197],[],[]⟩) (ts:=[.tmp 4]) (λ x=>(show _=PG.o x.1 x.2.1 from by kernel_rfl).trans (by unfold PG.o PG;simp only [Nc])) (Bn ⟨⟨Ztf,call197,λ _=>Bj rfl⟩,trivial⟩)
abbrev bM:=BY.env (AM.look []) (kq [(0,⟨tt [3,6,7,8],[]⟩)] [] [2])
def lG:=bd f238
abbrev Zuf:=fin bM [.tmp 2] [] [(AX,[])]
def Zq3:=Bb 3 lG
def Yke (m0:Nat):=BK bM m0 Zq3 0 Zuf
def Yle (m0:Nat):=BA 0 (Yke m0)
def Zr3:=Bz 2 (By (BM (Bb 2 lG)))
def yx (m0 n:Nat):IM.A0:=λ x1 x2 x3 x4=>ej bM n (.loop Zr3) 0 (mk [(3, .dat AX x1 []),(6, .dat Bi x2 []),(7, .dat AX x3 []),(8, .dat AX x4 [])] []) (Yle m0)
theorem Yme (m0:Nat):∀ n,yx m0 n=IM.l0 n:=BR (S:=IM.S0) λ n=>by kernel_rfl
abbrev yy:=AM.spec [.val Bi] [(AX,[])] λ x=>IM x.1
theorem Yw3:Bh prog 238 yy:=B9 Bo (fn:=f238) (λ m x=>show run bM lG m x Zuf=IM.S (yx m m) x.1 from by kernel_rfl) (λ x=>by rw [Yme fu fu];rfl) (Bn trivial)
abbrev yz:=AM.spec [.val ID, .val ID] [(AX,[])] λ x=>ZE x.1 x.2.1
theorem Yx3:Bh prog 200 yz:=Ck Bo (fn:=f200) (lk:=(AM.look [(239,yw),(240,rA),(238,yy)])) (ks:=⟨[],[],[],⟨tt [4],[]⟩,[],[238,239,240],[],[20]⟩) (ts:=[.tmp 4]) (λ _=>by kernel_rfl) (Bn ⟨⟨Yv3,call239,λ _=>Bj rfl⟩,⟨⟨Zxr,call240,λ _=>Bj rfl⟩,⟨⟨Yw3,call238,λ _=>Bj rfl⟩,trivial⟩⟩⟩)
abbrev yA:=AM.spec [.val MO, .val ID] [(.bool,[])] λ x=>ZL x.1 x.2.1
theorem Yy3:Bh prog 152 yA:=Ck Bo (fn:=f152) (lk:=(AM.look [(200,yz)])) (ks:=⟨[],[],[],⟨tt [4],[]⟩,[],[200],[],[]⟩) (ts:=[.tmp 4]) (λ _=>by kernel_rfl) (Bn ⟨⟨Yx3,call200,λ _=>Bj rfl⟩,trivial⟩)
abbrev Xi:=AM.spec [.val MO, .val ID] [(.bool,[])] λ x=>Sr x.1 x.2.1
theorem dn:Bh prog 90 Xi:=Ck Bo (fn:=f90) (lk:=(AM.look [(46,bI),(152,yA)])) (ks:=⟨[],[],[],⟨tt [4],[]⟩,[],[46,152],[],[]⟩) (ts:=[.tmp 4]) (λ _=>by kernel_rfl) (Bn ⟨⟨om,call46,λ _=>Bj rfl⟩,⟨⟨Yy3,call152,λ _=>Bj rfl⟩,trivial⟩⟩)
abbrev ox:=BY.env (AM.look []) (kq [(0,⟨tt [0,2,6],tt [1000000]⟩)] [] [])
def Zzm:=bd f92
abbrev Zan:=fin ox [] [.io GD [(5,1)]] [(GD,[⟨5,1,0,1⟩])]
def Ycx (m0:Nat):=BA 0 Zan
def Yne:=Bz 2 (By Zzm)
def Zvf (m0 n:Nat):GL.A0:=λ x1 x2 x3=>ej ox n (.loop Yne) 0 (mk [(0, .ptr 1000000 0 0),(2, .dat AX x1 []),(6, .dat AX x2 [])] [(1000000,some (.var GD x3 [⟨5,64064006,0,1⟩]))]) (Ycx m0)
theorem Ydx (m0:Nat):∀ n,Zvf m0 n=GL.l0 n:=BR (S:=GL.S0) λ n=>by kernel_rfl
abbrev Xj:=AM.Hm 0 [.io GD [(5,1)], .val AX, .val AX] [(GD,[⟨5,1,0,1⟩])] λ x=>GL x.1 x.2.1 x.2.2.1
theorem dp:Bh prog 92 Xj:=Ta Bo (fn:=f92) (ts:=[]) (λ m x=>show run ox Zzm m x Zan=GL.S (Zvf m m) x.1 x.2.1 x.2.2.1 from by kernel_rfl) (λ x=>by rw [Ydx fu fu];rfl) (Bn trivial)
abbrev oy:=BY.env (AM.look [(89,bN),(91,Zsf),(90,Xi),(92,Xj)]) ⟨[(0,⟨tt [0,17,18,19],tt [1000000]⟩)],[],[],⟨[],[]⟩,[],[90,91],[],[]⟩
def Zbn:=bd f49
abbrev Zcn:=fin oy [] [.io GD [(5,1)]] [(GD,[⟨5,1,0,1⟩])]
def Yex (m0:Nat):=BA 0 Zcn
def Yoe:=Bz 2 (Bb 2 Zbn)
def Zwf (m0 n:Nat):GM.A0:=λ x2 x3 x4 x5=>ej oy n (.loop Yoe) 0 (mk [(0, .ptr 1000000 0 0),(17, .dat GZ x2 [⟨0,1089,0,3⟩]),(18, .dat AX x3 []),(19, .dat AX x4 [])] [(1000000,some (.var GD x5 [⟨5,64064006,0,1⟩]))]) (Yex m0)
theorem Yfx (m0:Nat):∀ n,Zwf m0 n=GM.l0 n:=BR (S:=GM.S0) λ n=>by kernel_rfl
abbrev Zxf:=AM.Hm 0 [.io GD [(5,1)], .val AX] [(GD,[⟨5,1,0,1⟩])] λ x=>GM x.1 x.2.1
theorem Xeb:Bh prog 49 Zxf:=Ta Bo (fn:=f49) (ts:=[]) (λ m x=>show run oy Zbn m x Zcn=GM.S (Zwf m m) x.1 x.2.1 from by kernel_rfl) (λ x=>by rw [Yfx fu fu];rfl) (Bn ⟨⟨oz,call89,nw⟩,⟨⟨Xdb,call91,λ _=>Bj rfl⟩,⟨⟨dn,call90,λ _=>Bj rfl⟩,⟨⟨dp,call92,nw⟩,trivial⟩⟩⟩⟩)
abbrev Tc:=BY.env (AM.look []) (kq [(0,⟨tt [1,5,11,12,13],[]⟩),(2,⟨tt [5,8,26,27,28],[]⟩)] [(8,⟨tt [1,5],[]⟩)] [4])
def X7:=bd f53
abbrev dq:=fin Tc [.tmp 4] [] [(Bi,[⟨0,1,0,1⟩])]
def Ype:=Bb 5 X7
def Ygx (m0 m1:Nat):=BK Tc m1 Ype 0 dq
def Yhx (m0 m1:Nat):=BA 2 (Ygx m0 m1)
def Yqe:=Bz 2 (By (BM (Bb 4 X7)))
def Zyf (m0 m1 n:Nat):Dj.A2:=λ x8 x9 Bl BJ B0=>ej Tc n (.loop Yqe) 2 (mk [(5, .dat Bi x8 [⟨0,321,0,1⟩]),(8, .dat Bi x9 [⟨0,513,0,1⟩]),(26, .dat Bi Bl []),(27, .dat AX BJ []),(28, .dat AX B0 [])] []) (Yhx m0 m1)
theorem Yix (m0 m1:Nat):∀ n,Zyf m0 m1 n=Dj.l2 n:=BR (S:=Dj.S2) λ n=>by kernel_rfl
def wg:=Bb 3 X7
def lH (m0 n:Nat):Dj.A1:=λ x6 x7=>ej Tc n (.tail wg) 0 (mk [(1, .dat Bi x6 []),(5, .dat Bi x7 [⟨0,321,0,1⟩])] []) dq
theorem Yjx (m0:Nat):∀ n,lH m0 n=Dj.t1 n:=ind rfl λ n _=>(show _=Dj.S1 (Zyf m0 n n) from by kernel_rfl).trans (by rw [Yix m0 n n];rfl)
def Ykx (m0:Nat):=BK Tc m0 wg 0 dq
def Ylx (m0:Nat):=BA 0 (Ykx m0)
def Yre:=Bz 2 (By (BM (Bb 2 X7)))
def Zzf (m0 n:Nat):Dj.A0:=λ x1 x2 x3 x4 x5=>ej Tc n (.loop Yre) 0 (mk [(1, .dat Bi x1 []),(5, .dat Bi x2 [⟨0,321,0,1⟩]),(11, .dat CQ x3 []),(12, .dat AX x4 []),(13, .dat AX x5 [])] []) (Ylx m0)
theorem Ymx (m0:Nat):∀ n,Zzf m0 n=Dj.l0 (lH m0 m0) n:=BR (S:=Dj.S0 (lH m0 m0)) λ n=>by kernel_rfl
abbrev Zag:=AM.spec [.val CQ, .val Bi] [(Bi,[⟨0,1,0,1⟩])] λ x=>Dj x.1 x.2.1
theorem Xfb:Bh prog 53 Zag:=B9 Bo (fn:=f53) (λ m x=>show run Tc X7 m x dq=Dj.S (Zzf m m) x.1 x.2.1 from by kernel_rfl) (λ x=>by rw [Ymx fu fu,Yjx fu fu];rfl) (Bn trivial)
abbrev Vf:=BY.env (AM.look [(93,lI),(90,Xi),(92,Xj)]) ⟨[(0,⟨tt [0,5,7,25,26,27],tt [24,1000000]⟩),(2,⟨tt [0,7,43,44,45],tt [24,1000000]⟩)],[],[(7,⟨tt [0,5,7],tt [24,1000000]⟩)],⟨[],[]⟩,[7,24,32,50],[90],[],[]⟩
def du:=bd f50
abbrev dw:=fin Vf [] [.io GD [(5,1)]] [(GD,[⟨5,1,0,1⟩])]
def Ynx (m0:Nat):=BA 2 dw
def Yse:=Bz 2 (Bb 4 du)
def Zbg (m0 n:Nat):C0.A2:=λ B0 BS B3 Cy Ct=>ej Vf n (.loop Yse) 2 (mk [(0, .ptr 1000000 0 0),(7, .slw 24 0),(43, .dat Bi B0 []),(44, .dat AX BS []),(45, .dat AX B3 [])] [(24,some (.arr .bool Cy false)),(1000000,some (.var GD Ct [⟨5,64064006,0,1⟩]))]) (Ynx m0)
theorem Yox (m0 m1:Nat):∀ n,Zbg m0 n=C0.l2 n:=BR (S:=C0.S2) λ n=>by kernel_rfl
def wh:=Bb 3 du
def lJ (m0 n:Nat):C0.A1:=λ x9 Bl BJ=>ej Vf n (.tail wh) 0 (mk [(0, .ptr 1000000 0 0),(5, .dat Bi x9 []),(7, .slw 24 0)] [(24,some (.arr .bool Bl false)),(1000000,some (.var GD BJ [⟨5,64064006,0,1⟩]))]) dw
theorem Ypx (m0:Nat):∀ n,lJ m0 n=C0.t1 n:=ind rfl λ n _=>(show _=C0.S1 (Zbg m0 n) from by kernel_rfl).trans (by rw [Yox m0 n n];rfl)
def Yqx (m0:Nat):=BK Vf m0 wh 0 dw
def Yrx (m0:Nat):=BA 0 (Yqx m0)
def Yte:=Bz 2 (By (BM (Bb 2 du)))
def Zcg (m0 n:Nat):C0.A0:=λ x2 x3 x4 x5 x6 x7=>ej Vf n (.loop Yte) 0 (mk [(0, .ptr 1000000 0 0),(5, .dat Bi x2 []),(7, .slw 24 0),(25, .dat Cq x3 [⟨0,1601,0,1⟩]),(26, .dat AX x4 []),(27, .dat AX x5 [])] [(24,some (.arr .bool x6 false)),(1000000,some (.var GD x7 [⟨5,64064006,0,1⟩]))]) (Yrx m0)
theorem Ysx (m0:Nat):∀ n,Zcg m0 n=C0.l0 (lJ m0 m0) n:=BR (S:=C0.S0 (lJ m0 m0)) λ n=>by kernel_rfl
abbrev Zdg:=AM.Hm 0 [.io GD [(5,1)], .val AX] [(GD,[⟨5,1,0,1⟩])] λ x=>C0 x.1 x.2.1
theorem Xgb:Bh prog 50 Zdg:=Ta Bo (fn:=f50) (ts:=[]) (λ m x=>show run Vf du m x dw=C0.S (Zcg m m) x.1 x.2.1 from by kernel_rfl) (λ x=>by rw [Ysx fu fu,Ypx fu fu];rfl) (Bn ⟨⟨Zdn,call93,nw⟩,⟨⟨dn,call90,λ _=>Bj rfl⟩,⟨⟨dp,call92,nw⟩,trivial⟩⟩⟩)
abbrev yB:=AM.spec [.val AX, .ref AX, .ref MO, .ref Bi] [(.bool,[])] λ x=>Zr x.1 x.2.1 x.2.2.1 x.2.2.2.1
theorem Yz3:Bh prog 161 yB:=Ck Bo (fn:=f161) (lk:=(AM.look [(90,Xi)])) (ks:=⟨[],[],[],⟨tt [5],[]⟩,[],[90],[],[]⟩) (ts:=[.tmp 5]) (λ _=>by kernel_rfl) (Bn ⟨⟨dn,call90,λ _=>Bj rfl⟩,trivial⟩)
abbrev bO:=BY.env (AM.look [(161,yB)]) ⟨[(0,⟨tt [1,5,6],[]⟩)],[],[],⟨tt [4],[]⟩,[],[161],[],[]⟩
def lK:=bd f160
abbrev Zeg:=fin bO [.tmp 4] [] [(AX,[])]
def Zs3:=Bb 3 lK
def Yue (m0:Nat):=BK bO m0 Zs3 0 Zeg
def Yve (m0:Nat):=BA 0 (Yue m0)
def Zt3:=Bz 3 (Bb 2 lK)
def yC (m0 n:Nat):JS.A0:=λ x1 x2 x3 x4 x5=>ej bO n (.loop Zt3) 0 (mk [(1, .fn 161 [⟨AX,x1,[]⟩,⟨MO,x2,[]⟩,⟨Bi,x3,[]⟩]),(5, .dat AX x4 []),(6, .dat AX x5 [])] []) (Yve m0)
theorem Ywe (m0:Nat):∀ n,yC m0 n=JS.l0 n:=BR (S:=JS.S0) λ n=>by kernel_rfl
abbrev yD:=AM.spec [.val AX, .fn 161 [AX,MO,Bi]] [(AX,[])] λ x=>JS x.1 x.2.1.1 x.2.1.2.1 x.2.1.2.2.1
theorem Ya4:Bh prog 160 yD:=B9 Bo (fn:=f160) (λ m x=>show run bO lK m x Zeg=JS.S (yC m m) x.1 x.2.1.1 x.2.1.2.1 x.2.1.2.2.1 from by kernel_rfl) (λ x=>by rw [Ywe fu fu];rfl) (Bn ⟨⟨Yz3,call161,λ _=>Bj rfl⟩,trivial⟩)
abbrev yE:=AM.spec [.val AX, .ref Bi, .ref MO] [(AX,[])] λ x=>NV x.1 x.2.1 x.2.2.1
theorem Yb4:Bh prog 159 yE:=Ck Bo (fn:=f159) (lk:=(AM.look [(160,yD)])) (ks:=⟨[],[],[],⟨tt [4],[]⟩,[],[160],[],[]⟩) (ts:=[.tmp 4]) (λ _=>by kernel_rfl) (Bn ⟨⟨Ya4,call160,λ _=>Bj rfl⟩,trivial⟩)
abbrev oA:=BY.env (AM.look [(46,bI),(159,yE)]) ⟨[],[],[(15,⟨tt [7,8],[]⟩)],⟨tt [4,5],[]⟩,[],[46,159],[],[]⟩
def Zen:=bd f96
abbrev Zfn:=fin oA [.tmp 4, .tmp 5] [] [(AX,[]),(AX,[])]
def Ytx:=Bb 5 Zen
def Zfg (m0 n:Nat):JT.A0:=λ x4 x5=>ej oA n (.tail Ytx) 0 (mk [(7, .dat AX x4 []),(8, .dat AX x5 [])] []) Zfn
theorem Yux (m0:Nat):∀ n,Zfg m0 n=JT.t0 n:=ind rfl λ n _=>by kernel_rfl
abbrev Zgg:=AM.spec [.val MO, .val Bi] [(AX,[]),(AX,[])] λ x=>JT x.1 x.2.1
theorem Xhb:Bh prog 96 Zgg:=B9 Bo (fn:=f96) (λ m x=>show run oA Zen m x Zfn=JT.S (Zfg m m) x.1 x.2.1 from by kernel_rfl) (λ x=>by rw [Yux fu fu];rfl) (Bn ⟨⟨om,call46,λ _=>Bj rfl⟩,⟨⟨Yb4,call159,λ _=>Bj rfl⟩,trivial⟩⟩)
abbrev oB:=BY.env (AM.look [(94,lL),(95,sH),(96,Zgg),(92,Xj)]) ⟨[(0,⟨tt [0,8,9,35,36,37],tt [1000000]⟩)],[],[],⟨[],[]⟩,[],[96],[],[]⟩
def Zgn:=bd f51
abbrev Zhn:=fin oB [] [.io GD [(5,1)]] [(GD,[⟨5,1,0,1⟩])]
def Yvx (m0:Nat):=BA 0 Zhn
def Yxe:=Bz 2 (Bb 4 Zgn)
def Zhg (m0 n:Nat):Fe.A0:=λ x4 x5 x6 x7 x8 x9=>ej oB n (.loop Yxe) 0 (mk [(0, .ptr 1000000 0 0),(8, .dat AX x4 []),(9, .dat AX x5 []),(35, .dat Bi x6 []),(36, .dat AX x7 []),(37, .dat AX x8 [])] [(1000000,some (.var GD x9 [⟨5,64064006,0,1⟩]))]) (Yvx m0)
theorem Ywx (m0:Nat):∀ n,Zhg m0 n=Fe.l0 n:=BR (S:=Fe.S0) λ n=>by kernel_rfl
abbrev Zig:=AM.Hm 0 [.io GD [(5,1)], .val AX] [(GD,[⟨5,1,0,1⟩])] λ x=>Fe x.1 x.2.1
theorem Xib:Bh prog 51 Zig:=Ta Bo (fn:=f51) (ts:=[]) (λ m x=>show run oB Zgn m x Zhn=Fe.S (Zhg m m) x.1 x.2.1 from by kernel_rfl) (λ x=>by rw [Ywx fu fu];rfl) (Bn ⟨⟨Zin,call94,nw⟩,⟨⟨Ztz,call95,nw⟩,⟨⟨Xhb,call96,λ _=>Bj rfl⟩,⟨⟨dp,call92,nw⟩,trivial⟩⟩⟩⟩)
abbrev oC:=BY.env (AM.look [(90,Xi),(92,Xj)]) ⟨[(0,⟨tt [0,4,7,8,9],tt [1000000]⟩)],[],[],⟨[],[]⟩,[],[90],[],[]⟩
def Zjn:=bd f52
abbrev Zkn:=fin oC [] [.io GD [(5,1)]] [(GD,[⟨5,1,0,1⟩])]
def Yxx (m0:Nat):=BA 0 Zkn
def Yye:=Bz 2 (Bb 2 Zjn)
def Zjg (m0 n:Nat):FB.A0:=λ x1 x2 x3 x4 x5=>ej oC n (.loop Yye) 0 (mk [(0, .ptr 1000000 0 0),(4, .dat AX x1 []),(7, .dat CQ x2 []),(8, .dat AX x3 []),(9, .dat AX x4 [])] [(1000000,some (.var GD x5 [⟨5,64064006,0,1⟩]))]) (Yxx m0)
theorem Yyx (m0:Nat):∀ n,Zjg m0 n=FB.l0 n:=BR (S:=FB.S0) λ n=>by kernel_rfl
abbrev Zkg:=AM.Hm 0 [.io GD [(5,1)], .val CQ] [(GD,[⟨5,1,0,1⟩])] λ x=>FB x.1 x.2.1
theorem Xjb:Bh prog 52 Zkg:=Ta Bo (fn:=f52) (ts:=[]) (λ m x=>show run oC Zjn m x Zkn=FB.S (Zjg m m) x.1 x.2.1 from by kernel_rfl) (λ x=>by rw [Yyx fu fu];rfl) (Bn ⟨⟨dn,call90,λ _=>Bj rfl⟩,⟨⟨dp,call92,nw⟩,trivial⟩⟩)
abbrev RH:=BY.env (AM.look [(46,bI),(43,lM),(39,Zlg),(47,Zrf),(48,Zmg),(49,Zxf),(53,Zag),(50,Zdg),(51,Zig),(52,Zkg)]) ⟨[(0,⟨tt [4,10,39,40,41],tt [4]⟩)],[],[(15,⟨tt [4,10],tt [4]⟩),(16,⟨tt [0,3,4,6,8],tt [3,4,6]⟩),(26,⟨tt [4,8,16],tt [4,67]⟩)],⟨tt [4,5],tt [4]⟩,[],[43,46,48],[],[]⟩
def dy:=bd f18
abbrev dz:=fin RH [.cell 4 31, .tmp 5] [] [(Lh,[⟨3,1,0,1⟩]),(AX,[])]
def jo:=Bb 6 dy
def yF (m0:Nat):=BK RH m0 jo 0 dz
def wk:=Bb 2 (BM (By (BM (Bb 5 dy))))
def lN (m0 n:Nat):Cv.A1:=λ x9 Bl=>ej RH n (.tail wk) 0 (mk [(4, .ptr 4 0 0),(10, .dat Bi x9 [⟨0,641,0,1⟩])] [(4,some (.var Lh Bl [⟨1,64258,0,2⟩,⟨2,64259,0,1⟩,⟨3,64260,0,1⟩]))]) (yF m0)
theorem Yzx (m0:Nat):∀ n,lN m0 n=Cv.t1 n:=ind rfl λ n _=>by kernel_rfl
def Yay (m0:Nat):=BK RH m0 wk 0 (yF m0)
def Yby (m0:Nat):=BA 0 (Yay m0)
def Yze:=Bz 2 (By (BM (By (BM (By (BM (Bb 5 dy)))))))
def Zng (m0 n:Nat):Cv.A0:=λ x4 x5 x6 x7 x8=>ej RH n (.loop Yze) 0 (mk [(4, .ptr 4 0 0),(10, .dat Bi x4 [⟨0,641,0,1⟩]),(39, .dat CQ x5 []),(40, .dat AX x6 []),(41, .dat AX x7 [])] [(4,some (.var Lh x8 [⟨1,64258,0,2⟩,⟨2,64259,0,1⟩,⟨3,64260,0,1⟩]))]) (Yby m0)
theorem Ycy (m0:Nat):∀ n,Zng m0 n=Cv.l0 (lN m0 m0) n:=BR (S:=Cv.S0 (lN m0 m0)) λ n=>by kernel_rfl
def Yaf:=Bb 4 jo
def Zog (m0 n:Nat):Cv.A3:=λ CX C4 DO=>ej RH n (.tail Yaf) 0 (mk [(4, .ptr 4 0 0),(8, .dat CQ CX []),(16, .ptr 67 0 0)] [(4,some (.var Lh C4 [⟨1,64258,0,2⟩,⟨2,64259,0,1⟩,⟨3,64260,0,1⟩])),(67,some (.var GD DO [⟨5,68294,0,1⟩]))]) dz
theorem Ydy (m0 m1:Nat):∀ n,Zog m0 n=Cv.t3 n:=ind rfl λ n _=>by kernel_rfl
def Zpg (m0 n:Nat):Cv.A2:=λ B0 BS B3 Cy Ct=>ej RH n (.tail jo) 0 (mk [(0, .dat .str B0 []),(3, .ptr 3 0 0),(4, .ptr 4 0 0),(6, .ptr 6 0 0),(8, .dat CQ BS [])] [(3,some (.var MO B3 [])),(4,some (.var Lh Cy [⟨1,64258,0,2⟩,⟨2,64259,0,1⟩,⟨3,64260,0,1⟩])),(6,some (.var Pm Ct []))]) dz
theorem Yey (m0:Nat):∀ n,Zpg m0 n=Cv.t2 n:=ind rfl λ n _=>(show _=Cv.S2 (Zog m0 n) from by kernel_rfl).trans (by rw [Ydy m0 n n];rfl)
abbrev lO:=AM.spec [.val .str, .val MO] [(Lh,[⟨3,1,0,1⟩]),(AX,[])] λ x=>Cv x.1 x.2.1
theorem Zln:Bh prog 18 lO:=B9 Bo (fn:=f18) (λ m x=>show run RH dy m x dz=Cv.S (Zng m m) (Zpg m m) x.1 x.2.1 from by kernel_rfl) (λ x=>by rw [Yey fu fu,Ycy fu fu,Yzx fu fu];rfl) (Bn ⟨⟨om,call46,λ _=>Bj rfl⟩,⟨⟨Zmn,call43,λ _=>Bj rfl⟩,⟨⟨Znn,call39,nw⟩,⟨⟨Xcb,call47,nw⟩,⟨⟨Xkb,call48,λ _=>Bj rfl⟩,⟨⟨Xeb,call49,nw⟩,⟨⟨Xfb,call53,nw⟩,⟨⟨Xgb,call50,nw⟩,⟨⟨Xib,call51,nw⟩,⟨⟨Xjb,call52,nw⟩,trivial⟩⟩⟩⟩⟩⟩⟩⟩⟩⟩)
abbrev X8:=BY.env (AM.look [(12,Zs),(43,lM)]) ⟨[(0,⟨tt [11,12,32,33,34],[]⟩)],[],[(14,⟨tt [11,12],[]⟩)],⟨tt [4,5,6],[]⟩,[],[43],[],[]⟩
def oD:=bd f13
abbrev oE:=fin X8 [.tmp 4, .tmp 5, .tmp 6] [] [(AX,[]),(AX,[]),(AX,[])]
def wm:=Bb 6 oD
def lP (m0 n:Nat):Dw.A1:=λ x8 x9=>ej X8 n (.tail wm) 0 (mk [(11, .dat AX x8 []),(12, .dat AX x9 [])] []) oE
theorem Yfy (m0:Nat):∀ n,lP m0 n=Dw.t1 n:=ind rfl λ n _=>by kernel_rfl
def Ygy (m0:Nat):=BK X8 m0 wm 0 oE
def Yhy (m0:Nat):=BA 0 (Ygy m0)
def Ybf:=Bz 2 (By (BM (Bb 5 oD)))
def Zqg (m0 n:Nat):Dw.A0:=λ x3 x4 x5 x6 x7=>ej X8 n (.loop Ybf) 0 (mk [(11, .dat AX x3 []),(12, .dat AX x4 []),(32, .dat CQ x5 []),(33, .dat AX x6 []),(34, .dat AX x7 [])] []) (Yhy m0)
theorem Yiy (m0:Nat):∀ n,Zqg m0 n=Dw.l0 (lP m0 m0) n:=BR (S:=Dw.S0 (lP m0 m0)) λ n=>by kernel_rfl
abbrev lQ:=AM.spec [.val .str, .val Lh] [(AX,[]),(AX,[]),(AX,[])] λ x=>Dw x.1 x.2.1
theorem Zon:Bh prog 13 lQ:=B9 Bo (fn:=f13) (λ m x=>show run X8 oD m x oE=Dw.S (Zqg m m) x.1 x.2.1 from by kernel_rfl) (λ x=>by rw [Yiy fu fu,Yfy fu fu];rfl) (Bn ⟨⟨gl,call12,nw⟩,⟨⟨Zmn,call43,λ _=>Bj rfl⟩,trivial⟩⟩)
abbrev Zrg:=AM.spec [.val Lh] [(GY,[])] λ x=>OH x.1
theorem Xlb:Bh prog 23 Zrg:=Ck Bo (fn:=f23) (lk:=(AM.look [(62,rP),(63,gP),(36,fM)])) (ks:=(kz [2])) (ts:=[.tmp 2]) (λ _=>by kernel_rfl) (Bn ⟨⟨Zqt,call62,nw⟩,⟨⟨uD,call63,nw⟩,⟨⟨rq,call36,nw⟩,trivial⟩⟩⟩)
abbrev dA:=BY.env (AM.look []) (kq [(0,⟨tt [0,1,5],[]⟩)] [] [4])
def oF:=bd f22
abbrev Zpn:=fin dA [.tmp 4] [] [(.bool,[])]
def Ycf:=Bb 3 oF
def Yjy (m0:Nat):=BK dA m0 Ycf 0 Zpn
def Yky (m0:Nat):=BA 0 (Yjy m0)
def Ydf:=Bz 2 (By (BM (Bb 2 oF)))
def Zsg (m0 n:Nat):JU.A0:=λ x1 x2 x3=>ej dA n (.loop Ydf) 0 (mk [(0, .dat GY x1 []),(1, .dat GY x2 []),(5, .dat AX x3 [])] []) (Yky m0)
theorem Yly (m0:Nat):∀ n,Zsg m0 n=JU.l0 n:=BR (S:=JU.S0) λ n=>by kernel_rfl
abbrev Ztg:=AM.spec [.val GY, .val GY] [(.bool,[])] λ x=>JU x.1 x.2.1
theorem Xmb:Bh prog 22 Ztg:=B9 Bo (fn:=f22) (λ m x=>show run dA oF m x Zpn=JU.S (Zsg m m) x.1 x.2.1 from by kernel_rfl) (λ x=>by rw [Yly fu fu];rfl) (Bn trivial)
abbrev Zqn:=AM.spec [] [(.bool,[])] λ x=>NY
theorem Xfg:Bh prog 9 Zqn:=Ck Bo (fn:=f9) (lk:=(AM.look [(26,Zgf),(10,lR),(18,lO),(12,Zs),(13,lQ),(23,Zrg),(22,Ztg),(16,Zug)])) (ks:=⟨[],[],[],⟨tt [0],[]⟩,[],[10,13,16,22,26],[],[]⟩) (ts:=[.tmp 0]) (λ _=>by kernel_rfl) (Bn ⟨⟨Xwa,call26,λ _=>Bj rfl⟩,⟨⟨Zrn,call10,λ _=>Bj rfl⟩,⟨⟨Zln,call18,nw⟩,⟨⟨gl,call12,nw⟩,⟨⟨Zon,call13,λ _=>Bj rfl⟩,⟨⟨Xlb,call23,nw⟩,⟨⟨Xmb,call22,λ _=>Bj rfl⟩,⟨⟨Xnb,call16,λ _=>Bj rfl⟩,trivial⟩⟩⟩⟩⟩⟩⟩⟩)
abbrev Zvg:=AM.spec [.val MO] [(.bool,[])] λ x=>some (PZ x.1)
theorem Xob:Bh prog 20 Zvg:=Ck Bo (fn:=f20) (lk:=(AM.look [(59,lS)])) (ks:=⟨[],[],[],⟨tt [2],[]⟩,[],[59],[],[]⟩) (ts:=[.tmp 2]) (λ x=>(show _=PZ.o x.1 from by kernel_rfl).trans (by unfold PZ.o PZ;simp only [Nc])) (Bn ⟨⟨Zsn,call59,λ _=>Bj rfl⟩,trivial⟩)
abbrev en:=BY.env (AM.look []) (kq [(0,⟨tt [0,3],[]⟩)] [] [2])
def pG:=bd f8
abbrev Zop:=fin en [.tmp 2] [] [(.bool,[])]
def Ymy:=Bb 2 pG
def Yc4 (m0:Nat):=BK en m0 Ymy 0 Zop
def Yd4 (m0:Nat):=BA 0 (Yc4 m0)
def Yny:=Bz 2 (By (BM (By pG)))
def Ztn (m0 n:Nat):Hg.A0:=λ x1 x2=>ej en n (.loop Yny) 0 (mk [(0, .dat GY x1 []),(3, .dat AX x2 [])] []) (Yd4 m0)
theorem Ye4 (m0:Nat):∀ n,Ztn m0 n=Hg.l0 n:=BR (S:=Hg.S0) λ n=>by kernel_rfl
abbrev oG:=AM.spec [.val GY] [(.bool,[])] λ x=>Hg x.1
theorem Zpp:Bh prog 8 oG:=B9 Bo (fn:=f8) (λ m x=>show run en pG m x Zop=Hg.S (Ztn m m) x.1 from by kernel_rfl) (λ x=>by rw [Ye4 fu fu];rfl) (Bn trivial)
abbrev Zwg:=AM.spec [.val GY] [(AX,[])] λ x=>ZV x.1
theorem Xpb:Bh prog 30 Zwg:=Ck Bo (fn:=f30) (lk:=(AM.look [])) (ks:=(kz [2])) (ts:=[.tmp 2]) (λ _=>by kernel_rfl) (Bn trivial)
abbrev Zun:=AM.spec [.val GY] [(.bool,[])] λ x=>ZU x.1
theorem Xgg:Bh prog 7 Zun:=Ck Bo (fn:=f7) (lk:=(AM.look [(8,oG),(30,Zwg)])) (ks:=⟨[],[],[],⟨tt [2],[]⟩,[],[8,30],[],[]⟩) (ts:=[.tmp 2]) (λ _=>by kernel_rfl) (Bn ⟨⟨Zpp,call8,λ _=>Bj rfl⟩,⟨⟨Xpb,call30,λ _=>Bj rfl⟩,trivial⟩⟩)
abbrev Zor:=AM.spec [.val .str, .val MO, .val GY] [(.bool,[])] λ x=>fT x.1 x.2.1 x.2.2.1
theorem Zrr:Bh prog 4 Zor:=Ck Bo (fn:=f4) (lk:=(AM.look [(9,Zqn),(7,Zun),(8,oG),(17,lF),(18,lO),(12,Zs),(13,lQ),(19,Zxg),(20,Zvg)])) (ks:=⟨[],[],[],⟨tt [6],[]⟩,[],[7,8,9,13,20],[],[]⟩) (ts:=[.tmp 6]) (λ _=>by kernel_rfl) (Bn ⟨⟨Xfg,call9,λ _=>Bj rfl⟩,⟨⟨Xgg,call7,λ _=>Bj rfl⟩,⟨⟨Zpp,call8,λ _=>Bj rfl⟩,⟨⟨Zym,call17,nw⟩,⟨⟨Zln,call18,nw⟩,⟨⟨gl,call12,nw⟩,⟨⟨Zon,call13,λ _=>Bj rfl⟩,⟨⟨Xqb,call19,nw⟩,⟨⟨Xob,call20,λ _=>Bj rfl⟩,trivial⟩⟩⟩⟩⟩⟩⟩⟩⟩)
end
end Go.Proofs.YtclpadlpcfnfmaaGreat.Am
