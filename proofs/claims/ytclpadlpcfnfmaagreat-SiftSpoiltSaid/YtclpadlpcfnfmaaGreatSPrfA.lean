import Derived.Test.YtclpadlpcfnfmaaGreatAmPure18A
import Derived.Test.YtclpadlpcfnfmaaGreatSPrim
/- PRINTED by gen/ of this repo: the code comes to the pure functions. -/
namespace Go.Proofs.YtclpadlpcfnfmaaGreat.Am
open Go.Proofs.Tryz
open Go.AM Go.AM.Pure
set_option linter.unusedVariables false
set_option maxRecDepth 100000
noncomputable section
abbrev Cq:Ty:= .sl .str
abbrev AX:Ty:= .int .i64
abbrev Bi:Ty:= .sl AX
abbrev Xei:Ty:= .pair AX .str
abbrev Xfi:Ty:= .pair .str Bi
abbrev pE:Ty:= .pair AX AX
abbrev GY:Ty:= .sl pE
abbrev Xgi:Ty:= .pair Bi Bi
abbrev ID:Ty:= .pair AX Xei
abbrev CQ:Ty:= .sl ID
abbrev eG:Ty:= .pair AX pE
abbrev GZ:Ty:= .sl eG
abbrev MM:Ty:= .pair AX ID
abbrev Pm:Ty:= .pair AX eG
abbrev Xhi:Ty:= .pair GY Xgi
abbrev GC:Ty:= .pair MM Xfi
abbrev Lf:Ty:= .pair AX Xhi
abbrev lR:=AM.spec [.val ID] [(.bool,[])] λ x=>some (HQ x.1)
theorem Ztn:Bh prog 59 lR:=Ck Bo (fn:=f59) (lk:=(AM.look [])) (ks:=(kz [2])) (ts:=[.tmp 2]) (λ x=>(show _=HQ.o x.1 from by kernel_rfl).trans (by unfold HQ.o HQ;simp only [Na])) (Bn trivial)
abbrev Yl:=BY.env (AM.look [(59,lR)]) ⟨[(0,⟨tt [0,1,5],[]⟩)],[],[(3,⟨tt [0,1],[]⟩)],⟨tt [4],[]⟩,[],[59],[],[]⟩
def dM:=bd f31
abbrev oU:=fin Yl [.tmp 4] [] [(.bool,[])]
def Yhh:=Bb 3 dM
def Yzz (m0 m1:Nat):=BJ Yl m1 Yhh 0 oU
def Ya0 (m0 m1:Nat):=BA 0 (Yzz m0 m1)
def Yih:=Bz 2 (By (BM (Bb 2 dM)))
def Zuh (m0 m1 n:Nat):Es.A1:=λ x3 x4 x5=>ej Yl n (.loop Yih) 0 (mk [(0, .dat CQ x3 []),(1, .dat AX x4 []),(5, .dat AX x5 [])] []) (Ya0 m0 m1)
theorem Yb0 (m0 m1:Nat):∀ n,Zuh m0 m1 n=Es.l1 n:=BR (S:=Es.S1) λ n=>by kernel_rfl
def Yjh:=Bb 2 dM
def Zvh (m0 n:Nat):Es.A0:=λ x1 x2=>ej Yl n (.tail Yjh) 0 (mk [(0, .dat CQ x1 []),(1, .dat AX x2 [])] []) oU
theorem Yc0 (m0:Nat):∀ n,Zvh m0 n=Es.t0 n:=ind rfl λ n _=>(show _=Es.S0 (Zuh m0 n n) from by kernel_rfl).trans (by rw [Yb0 m0 n n];rfl)
abbrev Zwh:=AM.spec [.val CQ, .val AX] [(.bool,[])] λ x=>Es x.1 x.2.1
theorem Xte:Bh prog 31 Zwh:=B9 Bo (fn:=f31) (λ m x=>show run Yl dM m x oU=Es.S (Zvh m m) x.1 x.2.1 from by kernel_rfl) (λ x=>by rw [Yc0 fu fu];rfl) (Bn ⟨⟨Ztn,call59,λ _=>Bj rfl⟩,trivial⟩)
abbrev bR:=BY.env (AM.look []) ⟨[(0,⟨tt [0,2,3,4],tt [2,3]⟩)],[],[],⟨tt [2],tt [2]⟩,[],[],[],[]⟩
def lZ:=bd f219
abbrev Zxh:=fin bR [.cell 2 227] [] [((.arr 63 .bool),[])]
def Zn5:=Bb 3 lZ
def Ykh (m0:Nat):=BJ bR m0 Zn5 0 Zxh
def Ylh (m0:Nat):=BA 0 (Ykh m0)
def Zo5:=Bz 2 (By (BM (Bb 2 lZ)))
def ze (m0 n:Nat):GR.A0:=λ x1 x2 x3 x4=>ej bR n (.loop Zo5) 0 (mk [(0, .dat AX x1 []),(2, .ptr 2 0 0),(3, .ptr 3 0 0),(4, .dat AX x2 [])] [(2,some (.arr .bool x3 false)),(3,some (.arr .bool x4 false))]) (Ylh m0)
theorem Ymh (m0:Nat):∀ n,ze m0 n=GR.l0 n:=BR (S:=GR.S0) λ n=>by kernel_rfl
abbrev UO:=AM.spec [.val AX] [((.arr 63 .bool),[])] λ x=>GR x.1
theorem Xm:Bh prog 219 UO:=B9 Bo (fn:=f219) (λ m x=>show run bR lZ m x Zxh=GR.S (ze m m) x.1 from by kernel_rfl) (λ x=>by rw [Ymh fu fu];rfl) (Bn trivial)
abbrev bS:=BY.env (AM.look [(219,UO)]) ⟨[(0,⟨tt [3,4],tt [3]⟩)],[],[],⟨tt [2],[]⟩,[],[219],[],[]⟩
def l7:=bd f178
abbrev Zyh:=fin bS [.tmp 2] [] [(AX,[])]
def Zp5:=Bb 3 l7
def Ynh (m0:Nat):=BJ bS m0 Zp5 0 Zyh
def Yoh (m0:Nat):=BA 0 (Ynh m0)
def Zq5:=Bz 2 (By (BM (Bb 2 l7)))
def zf (m0 n:Nat):GP.A0:=λ x2 x3=>ej bS n (.loop Zq5) 0 (mk [(3, .ptr 3 0 0),(4, .dat AX x2 [])] [(3,some (.arr .bool x3 false))]) (Yoh m0)
theorem Yph (m0:Nat):∀ n,zf m0 n=GP.l0 n:=BR (S:=GP.S0) λ n=>by kernel_rfl
abbrev zg:=AM.spec [.val AX] [(AX,[])] λ x=>GP x.1
theorem Yz6:Bh prog 178 zg:=B9 Bo (fn:=f178) (λ m x=>show run bS l7 m x Zyh=GP.S (zf m m) x.1 from by kernel_rfl) (λ x=>by rw [Yph fu fu];rfl) (Bn ⟨⟨Xm,call219,λ _=>Bj rfl⟩,trivial⟩)
abbrev bT:=BY.env (AM.look [(178,zg)]) ⟨[(0,⟨tt [0,3,4],[]⟩)],[],[],⟨tt [2],[]⟩,[],[178],[],[]⟩
def l8:=bd f126
abbrev Zzh:=fin bT [.tmp 2] [] [(AX,[])]
def Zr5:=Bb 3 l8
def Yqh (m0:Nat):=BJ bT m0 Zr5 0 Zzh
def Yrh (m0:Nat):=BA 0 (Yqh m0)
def Zs5:=Bz 2 (By (BM (Bb 2 l8)))
def zh (m0 n:Nat):Gi.A0:=λ x1 x2 x3=>ej bT n (.loop Zs5) 0 (mk [(0, .dat Bi x1 []),(3, .dat AX x2 []),(4, .dat AX x3 [])] []) (Yrh m0)
theorem Ysh (m0:Nat):∀ n,zh m0 n=Gi.l0 n:=BR (S:=Gi.S0) λ n=>by kernel_rfl
abbrev UP:=AM.spec [.val Bi] [(AX,[])] λ x=>Gi x.1
theorem Xn:Bh prog 126 UP:=B9 Bo (fn:=f126) (λ m x=>show run bT l8 m x Zzh=Gi.S (zh m m) x.1 from by kernel_rfl) (λ x=>by rw [Ysh fu fu];rfl) (Bn ⟨⟨Yz6,call178,λ _=>Bj rfl⟩,trivial⟩)
abbrev jV:=AM.spec [.val AX, .val AX] [(AX,[])] λ x=>some (PJ x.1 x.2.1)
theorem Zai:Bh prog 127 jV:=Ck Bo (fn:=f127) (lk:=(AM.look [])) (ks:=(kz [4])) (ts:=[.tmp 4]) (λ x=>(show _=PJ.o x.1 x.2.1 from by kernel_rfl).trans (by unfold PJ.o PJ;simp only [Na])) (Bn trivial)
abbrev Tl:=BY.env (AM.look [(126,UP),(127,jV)]) ⟨[(0,⟨tt [0,1,6,7],tt [31]⟩),(2,⟨tt [0,1,6,7,8],tt [31]⟩)],[],[],⟨tt [4,5],[]⟩,[6,31,56,59,69],[126,127],[],[]⟩
def oV:=bd f71
abbrev Zko:=fin Tl [.tmp 4, .tmp 5] [] [(.str,[]),(AX,[])]
def Yth:=Bb 4 oV
def Yd0 (m0:Nat):=BJ Tl m0 Yth 0 Zko
def zi (m0:Nat):=BA 0 (Yd0 m0)
def aM:=Bz 2 (By (BM (Bb 3 oV)))
def bU (m0 n:Nat):Dn.A0:=λ x3 x4 x5 x6=>ej Tl n (.loop aM) 0 (mk [(0, .dat Bi x3 []),(1, .dat AX x4 []),(6, .slw 31 0),(7, .dat AX x5 [])] [(31,some (.arr (.int .u8) x6 false))]) (zi m0)
def Ye0 (m0 m1:Nat):=Mp Tl m1 aM 0 (zi m0)
def Yuh:=Bb 2 aM
def Yf0 (m0 m1:Nat):=BJ Tl m1 Yuh 0 (Ye0 m0 m1)
def Yg0 (m0 m1:Nat):=BA 1 (Yf0 m0 m1)
def Yh0 (m0 m1:Nat):=BA 2 (Yg0 m0 m1)
def Yvh:=Bz 2 (By (Bz 2 (By aM)))
def Zbi (m0 m1 n:Nat):Dn.A1:=λ x7 x8 x9 Bl BI=>ej Tl n (.loop Yvh) 2 (mk [(0, .dat Bi x7 []),(1, .dat AX x8 []),(6, .slw 31 0),(7, .dat AX x9 []),(8, .dat AX Bl [])] [(31,some (.arr (.int .u8) BI false))]) (Yh0 m0 m1)
theorem Yi0 (m0 m1:Nat):∀ n,Zbi m0 m1 n=Dn.l1 (bU m0 m1) n:=BR (S:=Dn.S1 (bU m0 m1)) λ n=>by kernel_rfl
theorem Yj0 (m0:Nat):∀ n,bU m0 n=Dn.l0 n:=ind rfl λ n e0=>(show _=Dn.S0 (Zbi m0 n n) from by kernel_rfl).trans (by rw [Yi0 m0 n n,e0];rfl)
abbrev U1:=AM.spec [.val Bi, .val AX] [(.str,[]),(AX,[])] λ x=>Dn x.1 x.2.1
theorem Ym:Bh prog 71 U1:=B9 Bo (fn:=f71) (λ m x=>show run Tl oV m x Zko=Dn.S (bU m m) x.1 x.2.1 from by kernel_rfl) (λ x=>by rw [Yj0 fu fu];rfl) (Bn ⟨⟨Xn,call126,λ _=>Bj rfl⟩,⟨⟨Zai,call127,λ _=>Bj rfl⟩,trivial⟩⟩)
abbrev Yn:=BY.env (AM.look [(71,U1)]) ⟨[(0,⟨tt [0,4,5,6],[]⟩)],[],[(10,⟨tt [0,4,5],[]⟩)],⟨tt [2,3],[]⟩,[],[71],[],[]⟩
def oW:=bd f32
abbrev oX:=fin Yn [.tmp 2, .tmp 3] [] [(.str,[]),(CQ,[⟨0,1,0,3⟩])]
def xu:=Bb 4 oW
def l9 (m0 n:Nat):Ef.A1:=λ x5 x6 x7=>ej Yn n (.tail xu) 0 (mk [(0, .dat CQ x5 []),(4, .dat CQ x6 [⟨0,257,0,3⟩]),(5, .dat Bi x7 [⟨0,321,0,1⟩])] []) oX
theorem Yk0 (m0:Nat):∀ n,l9 m0 n=Ef.t1 n:=ind rfl λ n _=>by kernel_rfl
def Yl0 (m0:Nat):=BJ Yn m0 xu 0 oX
def Ym0 (m0:Nat):=BA 0 (Yl0 m0)
def Ywh:=Bz 2 (By (BM (Bb 3 oW)))
def Zci (m0 n:Nat):Ef.A0:=λ x1 x2 x3 x4=>ej Yn n (.loop Ywh) 0 (mk [(0, .dat CQ x1 []),(4, .dat CQ x2 [⟨0,257,0,3⟩]),(5, .dat Bi x3 [⟨0,321,0,1⟩]),(6, .dat AX x4 [])] []) (Ym0 m0)
theorem Yn0 (m0:Nat):∀ n,Zci m0 n=Ef.l0 (l9 m0 m0) n:=BR (S:=Ef.S0 (l9 m0 m0)) λ n=>by kernel_rfl
abbrev Zdi:=AM.spec [.val CQ] [(.str,[]),(CQ,[⟨0,1,0,3⟩])] λ x=>Ef x.1
theorem Xue:Bh prog 32 Zdi:=B9 Bo (fn:=f32) (λ m x=>show run Yn oW m x oX=Ef.S (Zci m m) x.1 from by kernel_rfl) (λ x=>by rw [Yn0 fu fu,Yk0 fu fu];rfl) (Bn ⟨⟨Ym,call71,λ _=>Bj rfl⟩,trivial⟩)
abbrev dN:=BY.env (AM.look []) (kq [(0,⟨tt [0,3,4],[]⟩)] [] [2])
def oY:=bd f73
abbrev Zlo:=fin dN [.tmp 2] [] [(Bi,[⟨0,1,0,1⟩])]
def Yxh:=Bb 3 oY
def Yo0 (m0:Nat):=BJ dN m0 Yxh 0 Zlo
def Yp0 (m0:Nat):=BA 0 (Yo0 m0)
def Yyh:=Bz 2 (By (BM (Bb 2 oY)))
def Zei (m0 n:Nat):HH.A0:=λ x1 x2 x3=>ej dN n (.loop Yyh) 0 (mk [(0, .dat CQ x1 []),(3, .dat Bi x2 [⟨0,193,0,1⟩]),(4, .dat AX x3 [])] []) (Yp0 m0)
theorem Yq0 (m0:Nat):∀ n,Zei m0 n=HH.l0 n:=BR (S:=HH.S0) λ n=>by kernel_rfl
abbrev Zfi:=AM.spec [.val CQ] [(Bi,[⟨0,1,0,1⟩])] λ x=>HH x.1
theorem Xve:Bh prog 73 Zfi:=B9 Bo (fn:=f73) (λ m x=>show run dN oY m x Zlo=HH.S (Zei m m) x.1 from by kernel_rfl) (λ x=>by rw [Yq0 fu fu];rfl) (Bn trivial)
abbrev SO:=BY.env (AM.look []) (kq [(0,⟨tt [0,3,4],[]⟩),(2,⟨tt [0,3,4,5],[]⟩)] [] [2])
def ma:=bd f128
abbrev Zgi:=fin SO [.tmp 2] [] [(.str,[])]
def Zt5:=Bb 3 ma
def Yzh (m0:Nat):=BJ SO m0 Zt5 0 Zgi
def xv (m0:Nat):=BA 0 (Yzh m0)
def ag:=Bz 2 (By (BM (Bb 2 ma)))
def a8 (m0 n:Nat):DV.A0:=λ x1 x2 x3=>ej SO n (.loop ag) 0 (mk [(0, .dat Bi x1 []),(3, .dat (.sl (.int .u8)) x2 [⟨0,193,0,0⟩]),(4, .dat AX x3 [])] []) (xv m0)
def Yai (m0 m1:Nat):=Mp SO m1 ag 0 (xv m0)
def Zu5:=Bb 2 ag
def Ybi (m0 m1:Nat):=BJ SO m1 Zu5 0 (Yai m0 m1)
def Yci (m0 m1:Nat):=BA 1 (Ybi m0 m1)
def Ydi (m0 m1:Nat):=BA 2 (Yci m0 m1)
def Zv5:=Bz 2 (By (Bz 2 (By ag)))
def zj (m0 m1 n:Nat):DV.A1:=λ x4 x5 x6 x7=>ej SO n (.loop Zv5) 2 (mk [(0, .dat Bi x4 []),(3, .dat (.sl (.int .u8)) x5 [⟨0,193,0,0⟩]),(4, .dat AX x6 []),(5, .dat AX x7 [])] []) (Ydi m0 m1)
theorem Yei (m0 m1:Nat):∀ n,zj m0 m1 n=DV.l1 (a8 m0 m1) n:=BR (S:=DV.S1 (a8 m0 m1)) λ n=>by kernel_rfl
theorem Yfi (m0:Nat):∀ n,a8 m0 n=DV.l0 n:=ind rfl λ n e0=>(show _=DV.S0 (zj m0 n n) from by kernel_rfl).trans (by rw [Yei m0 n n,e0];rfl)
abbrev zk:=AM.spec [.val Bi] [(.str,[])] λ x=>DV x.1
theorem Ya7:Bh prog 128 zk:=B9 Bo (fn:=f128) (λ m x=>show run SO ma m x Zgi=DV.S (a8 m m) x.1 from by kernel_rfl) (λ x=>by rw [Yfi fu fu];rfl) (Bn trivial)
abbrev bV:=BY.env (AM.look []) ⟨[(0,⟨tt [0,3,4],tt [3]⟩)],[],[],⟨tt [2],tt [3]⟩,[2,3,30,31,40,48,49],[],[],[]⟩
def mb:=bd f130
abbrev Zhi:=fin bV [.tmp 2] [] [(GZ,[])]
def Zw5:=Bb 3 mb
def Ygi (m0:Nat):=BJ bV m0 Zw5 0 Zhi
def Yhi (m0:Nat):=BA 0 (Ygi m0)
def Zx5:=Bz 2 (By (BM (Bb 2 mb)))
def zm (m0 n:Nat):GS.A0:=λ x1 x2 x3=>ej bV n (.loop Zx5) 0 (mk [(0, .dat Bi x1 []),(3, .slw 3 0),(4, .dat AX x2 [])] [(3,some (.arr eG x3 false))]) (Yhi m0)
theorem Yii (m0:Nat):∀ n,zm m0 n=GS.l0 n:=BR (S:=GS.S0) λ n=>by kernel_rfl
abbrev jW:=AM.spec [.val Bi] [(GZ,[])] λ x=>GS x.1
theorem Zii:Bh prog 130 jW:=B9 Bo (fn:=f130) (λ m x=>show run bV mb m x Zhi=GS.S (zm m m) x.1 from by kernel_rfl) (λ x=>by rw [Yii fu fu];rfl) (Bn trivial)
abbrev bW:=BY.env (AM.look []) (kq [(0,⟨tt [0,3,4],[]⟩)] [] [2])
def mc:=bd f163
abbrev Zji:=fin bW [.tmp 2] [] [(.bool,[])]
def Zy5:=Bb 3 mc
def Yji (m0:Nat):=BJ bW m0 Zy5 0 Zji
def Yki (m0:Nat):=BA 0 (Yji m0)
def Zz5:=Bz 2 (By (BM (Bb 2 mc)))
def zn (m0 n:Nat):EZ.A0:=λ x1 x2 x3=>ej bW n (.loop Zz5) 0 (mk [(0, .dat GZ x1 []),(3, .dat AX x2 []),(4, .dat AX x3 [])] []) (Yki m0)
theorem Yli (m0:Nat):∀ n,zn m0 n=EZ.l0 n:=BR (S:=EZ.S0) λ n=>by kernel_rfl
abbrev ba:=AM.spec [.val GZ] [(.bool,[])] λ x=>EZ x.1
theorem me:Bh prog 163 ba:=B9 Bo (fn:=f163) (λ m x=>show run bW mc m x Zji=EZ.S (zn m m) x.1 from by kernel_rfl) (λ x=>by rw [Yli fu fu];rfl) (Bn trivial)
abbrev bX:=BY.env (AM.look []) (kq [(0,⟨tt [1,3,4],tt [1]⟩)] [] [2])
def mf:=bd f220
abbrev Zki:=fin bX [.tmp 2] [] [(AX,[])]
def Za6:=Bb 3 mf
def Ymi (m0:Nat):=BJ bX m0 Za6 0 Zki
def Yni (m0:Nat):=BA 0 (Ymi m0)
def Zb6:=Bz 2 (By (BM (Bb 2 mf)))
def zo (m0 n:Nat):EY.A0:=λ x1 x2 x3=>ej bX n (.loop Zb6) 0 (mk [(1, .ptr 1 0 0),(3, .dat AX x1 []),(4, .dat AX x2 [])] [(1,some (.arr .bool x3 false))]) (Yni m0)
theorem Yoi (m0:Nat):∀ n,zo m0 n=EY.l0 n:=BR (S:=EY.S0) λ n=>by kernel_rfl
abbrev W8:=AM.spec [.val (.arr 63 .bool)] [(AX,[])] λ x=>EY x.1
theorem bY:Bh prog 220 W8:=B9 Bo (fn:=f220) (λ m x=>show run bX mf m x Zki=EY.S (zo m m) x.1 from by kernel_rfl) (λ x=>by rw [Yoi fu fu];rfl) (Bn trivial)
abbrev bZ:=BY.env (AM.look [(219,UO),(220,W8)]) ⟨[(0,⟨tt [3,4,5],tt [3,4]⟩)],[],[],⟨tt [2],[]⟩,[],[219,220],[],[]⟩
def mg:=bd f183
abbrev Zli:=fin bZ [.tmp 2] [] [(AX,[])]
def Zc6:=Bb 5 mg
def Ypi (m0:Nat):=BJ bZ m0 Zc6 0 Zli
def Yqi (m0:Nat):=BA 0 (Ypi m0)
def Zd6:=Bz 2 (By (BM (Bb 4 mg)))
def zp (m0 n:Nat):HU.A0:=λ x2 x3 x4=>ej bZ n (.loop Zd6) 0 (mk [(3, .ptr 3 0 0),(4, .ptr 4 0 0),(5, .dat AX x2 [])] [(3,some (.arr .bool x3 false)),(4,some (.arr .bool x4 false))]) (Yqi m0)
theorem Yri (m0:Nat):∀ n,zp m0 n=HU.l0 n:=BR (S:=HU.S0) λ n=>by kernel_rfl
abbrev zq:=AM.spec [.val AX] [(AX,[])] λ x=>HU x.1
theorem Yb7:Bh prog 183 zq:=B9 Bo (fn:=f183) (λ m x=>show run bZ mg m x Zli=HU.S (zp m m) x.1 from by kernel_rfl) (λ x=>by rw [Yri fu fu];rfl) (Bn ⟨⟨Xm,call219,λ _=>Bj rfl⟩,⟨⟨bY,call220,λ _=>Bj rfl⟩,trivial⟩⟩)
abbrev b5:=BY.env (AM.look [(219,UO),(220,W8)]) ⟨[(0,⟨tt [1,2,7,8,9],tt [7,8]⟩)],[],[],⟨tt [6],[]⟩,[],[219,220],[],[]⟩
def mh:=bd f184
abbrev Zmi:=fin b5 [.tmp 6] [] [(AX,[])]
def Ze6:=Bb 4 mh
def Ysi (m0:Nat):=BJ b5 m0 Ze6 0 Zmi
def Yti (m0:Nat):=BA 0 (Ysi m0)
def Zf6:=Bz 2 (By (BM (Bb 3 mh)))
def zr (m0 n:Nat):Gu.A0:=λ x2 x3 x4 x5 x6=>ej b5 n (.loop Zf6) 0 (mk [(1, .dat AX x2 []),(2, .dat AX x3 []),(7, .ptr 7 0 0),(8, .ptr 8 0 0),(9, .dat AX x4 [])] [(7,some (.arr .bool x5 false)),(8,some (.arr .bool x6 false))]) (Yti m0)
theorem Yui (m0:Nat):∀ n,zr m0 n=Gu.l0 n:=BR (S:=Gu.S0) λ n=>by kernel_rfl
abbrev zt:=AM.spec [.val AX, .val AX, .val AX] [(AX,[])] λ x=>Gu x.1 x.2.1 x.2.2.1
theorem Yc7:Bh prog 184 zt:=B9 Bo (fn:=f184) (λ m x=>show run b5 mh m x Zmi=Gu.S (zr m m) x.1 x.2.1 x.2.2.1 from by kernel_rfl) (λ x=>by rw [Yui fu fu];rfl) (Bn ⟨⟨Xm,call219,λ _=>Bj rfl⟩,⟨⟨bY,call220,λ _=>Bj rfl⟩,trivial⟩⟩)
abbrev ml:=BY.env (AM.look [(183,zq),(184,zt)]) ⟨[(0,⟨tt [3,4],[]⟩)],[],[],⟨tt [2],[]⟩,[],[183,184],[],[]⟩
def Zni:=bd f135
abbrev Zoi:=fin ml [.tmp 2] [] [(.str,[])]
def Yvi (m0:Nat):=BA 0 Zoi
def Zg6:=Bz 2 (Bb 3 Zni)
def zu (m0 n:Nat):FP.A0:=λ x2 x3=>ej ml n (.loop Zg6) 0 (mk [(3, .dat AX x2 []),(4, .dat (.sl (.int .u8)) x3 [⟨0,257,0,0⟩])] []) (Yvi m0)
theorem Ywi (m0:Nat):∀ n,zu m0 n=FP.l0 n:=BR (S:=FP.S0) λ n=>by kernel_rfl
abbrev SG:=AM.spec [.val AX] [(.str,[])] λ x=>FP x.1
theorem U2:Bh prog 135 SG:=B9 Bo (fn:=f135) (λ m x=>show run ml Zni m x Zoi=FP.S (zu m m) x.1 from by kernel_rfl) (λ x=>by rw [Ywi fu fu];rfl) (Bn ⟨⟨Yb7,call183,λ _=>Bj rfl⟩,⟨⟨Yc7,call184,λ _=>Bj rfl⟩,trivial⟩⟩)
abbrev b6:=BY.env (AM.look [(163,ba),(135,SG)]) ⟨[(0,⟨tt [0,4,5],[]⟩)],[],[],⟨tt [2,3],[]⟩,[],[135,163],[],[]⟩
def mm:=bd f129
abbrev Zpi:=fin b6 [.tmp 2, .tmp 3] [] [(.str,[]),(AX,[])]
def Zh6:=Bb 4 mm
def Yxi (m0:Nat):=BJ b6 m0 Zh6 0 Zpi
def Yyi (m0:Nat):=BA 0 (Yxi m0)
def Zi6:=Bz 2 (By (BM (Bb 3 mm)))
def zv (m0 n:Nat):Gl.A0:=λ x2 x3 x4=>ej b6 n (.loop Zi6) 0 (mk [(0, .dat GZ x2 []),(4, .dat .str x3 []),(5, .dat AX x4 [])] []) (Yyi m0)
theorem Yzi (m0:Nat):∀ n,zv m0 n=Gl.l0 n:=BR (S:=Gl.S0) λ n=>by kernel_rfl
abbrev jX:=AM.spec [.val GZ] [(.str,[]),(AX,[])] λ x=>Gl x.1
theorem Zqi:Bh prog 129 jX:=B9 Bo (fn:=f129) (λ m x=>show run b6 mm m x Zpi=Gl.S (zv m m) x.1 from by kernel_rfl) (λ x=>by rw [Yzi fu fu];rfl) (Bn ⟨⟨me,call163,λ _=>Bj rfl⟩,⟨⟨U2,call135,λ _=>Bj rfl⟩,trivial⟩⟩)
abbrev b7:=BY.env (AM.look []) ⟨[(0,⟨tt [0,3,4],[]⟩)],[],[],⟨tt [2],[]⟩,[],[],[],[22]⟩
def mn:=bd f179
abbrev Zri:=fin b7 [.tmp 2] [] [(Bi,[⟨0,1,0,1⟩])]
def Zj6:=Bb 3 mn
def Yaj (m0:Nat):=BJ b7 m0 Zj6 0 Zri
def Ybj (m0:Nat):=BA 0 (Yaj m0)
def Zk6:=Bz 2 (By (BM (Bb 2 mn)))
def zw (m0 n:Nat):Hz.A0:=λ x1 x2 x3=>ej b7 n (.loop Zk6) 0 (mk [(0, .dat Bi x1 []),(3, .dat Bi x2 [⟨0,193,0,1⟩]),(4, .dat AX x3 [])] []) (Ybj m0)
theorem Ycj (m0:Nat):∀ n,zw m0 n=Hz.l0 n:=BR (S:=Hz.S0) λ n=>by kernel_rfl
abbrev zx:=AM.spec [.val Bi] [(Bi,[⟨0,1,0,1⟩])] λ x=>Hz x.1
theorem Yd7:Bh prog 179 zx:=B9 Bo (fn:=f179) (λ m x=>show run b7 mn m x Zri=Hz.S (zw m m) x.1 from by kernel_rfl) (λ x=>by rw [Ycj fu fu];rfl) (Bn trivial)
abbrev b8:=BY.env (AM.look []) (kq [(0,⟨tt [0,3,4],[]⟩)] [] [2])
def mo:=bd f180
abbrev Zsi:=fin b8 [.tmp 2] [] [(AX,[])]
def Zl6:=Bb 3 mo
def Ydj (m0:Nat):=BJ b8 m0 Zl6 0 Zsi
def Yej (m0:Nat):=BA 0 (Ydj m0)
def Zm6:=Bz 2 (By (BM (Bb 2 mo)))
def zy (m0 n:Nat):Gv.A0:=λ x1 x2 x3=>ej b8 n (.loop Zm6) 0 (mk [(0, .dat Bi x1 []),(3, .dat AX x2 []),(4, .dat AX x3 [])] []) (Yej m0)
theorem Yfj (m0:Nat):∀ n,zy m0 n=Gv.l0 n:=BR (S:=Gv.S0) λ n=>by kernel_rfl
abbrev zz:=AM.spec [.val Bi] [(AX,[])] λ x=>Gv x.1
theorem Ye7:Bh prog 180 zz:=B9 Bo (fn:=f180) (λ m x=>show run b8 mo m x Zsi=Gv.S (zy m m) x.1 from by kernel_rfl) (λ x=>by rw [Yfj fu fu];rfl) (Bn trivial)
abbrev Xo:=BY.env (AM.look [(135,SG),(179,zx),(180,zz),(126,UP),(71,U1)]) ⟨[(0,⟨tt [4,5,6,7,8],[]⟩)],[],[(15,⟨tt [4,6,7],[]⟩)],⟨tt [2,3],[]⟩,[],[71,126,135,180],[],[59]⟩
def mq:=bd f131
abbrev mr:=fin Xo [.tmp 2, .tmp 3] [] [(.str,[]),(AX,[])]
def va:=Bb 9 mq
def jY (m0 n:Nat):DU.A1:=λ x9 Bl BI=>ej Xo n (.tail va) 0 (mk [(4, .dat .str x9 []),(6, .dat AX Bl []),(7, .dat Bi BI [⟨0,449,0,1⟩])] []) mr
theorem Ygj (m0:Nat):∀ n,jY m0 n=DU.t1 n:=ind rfl λ n _=>by kernel_rfl
def Yhj (m0:Nat):=BJ Xo m0 va 0 mr
def Yij (m0:Nat):=BA 0 (Yhj m0)
def Zn6:=Bz 2 (By (BM (Bb 8 mq)))
def zA (m0 n:Nat):DU.A0:=λ x4 x5 x6 x7 x8=>ej Xo n (.loop Zn6) 0 (mk [(4, .dat .str x4 []),(5, .dat Bi x5 [⟨0,321,0,1⟩]),(6, .dat AX x6 []),(7, .dat Bi x7 [⟨0,449,0,1⟩]),(8, .dat AX x8 [])] []) (Yij m0)
theorem Yjj (m0:Nat):∀ n,zA m0 n=DU.l0 (jY m0 m0) n:=BR (S:=DU.S0 (jY m0 m0)) λ n=>by kernel_rfl
abbrev jZ:=AM.spec [.val Bi] [(.str,[]),(AX,[])] λ x=>DU x.1
theorem Zti:Bh prog 131 jZ:=B9 Bo (fn:=f131) (λ m x=>show run Xo mq m x mr=DU.S (zA m m) x.1 from by kernel_rfl) (λ x=>by rw [Yjj fu fu,Ygj fu fu];rfl) (Bn ⟨⟨U2,call135,λ _=>Bj rfl⟩,⟨⟨Yd7,call179,nw⟩,⟨⟨Ye7,call180,λ _=>Bj rfl⟩,⟨⟨Xn,call126,λ _=>Bj rfl⟩,⟨⟨Ym,call71,λ _=>Bj rfl⟩,trivial⟩⟩⟩⟩⟩)
abbrev Kw:=BY.env (AM.look []) (kq [(0,⟨tt [0,4,5,6],[]⟩),(2,⟨tt [0,4,5,6,7],[]⟩),(4,⟨tt [0,4,5,9],[]⟩),(6,⟨tt [0,4,5,9,10],[]⟩)] [(8,⟨tt [0,4,5,6,7],[]⟩),(9,⟨tt [0,4,5,6,7],[]⟩),(13,⟨tt [0,4,5],[]⟩)] [2,3])
def Xp:=bd f181
abbrev b9:=fin Kw [.tmp 2, .tmp 3] [] [(Bi,[⟨0,1,0,1⟩]),(Bi,[⟨0,1,0,1⟩])]
def Zo6:=Bb 4 Xp
def Ykj (m0 m1:Nat):=BJ Kw m1 Zo6 0 b9
def xw (m0 m1:Nat):=BA 4 (Ykj m0 m1)
def WC:=Bz 2 (By (BM (Bb 3 Xp)))
def bf (m0 m1 n:Nat):BD.A5:=λ Fm FX Ht JI=>ej Kw n (.loop WC) 4 (mk [(0, .dat Bi Fm []),(4, .dat Bi FX [⟨0,257,0,1⟩]),(5, .dat Bi Ht [⟨0,321,0,1⟩]),(9, .dat AX JI [])] []) (xw m0 m1)
def Ylj (m0 m1 m2:Nat):=Mp Kw m2 WC 4 (xw m0 m1)
def Zp6:=Bb 2 WC
def Ymj (m0 m1 m2:Nat):=BJ Kw m2 Zp6 4 (Ylj m0 m1 m2)
def Ynj (m0 m1 m2:Nat):=BA 5 (Ymj m0 m1 m2)
def Zq6:=Bb 2 (Bz 2 (By WC))
def Yoj (m0 m1 m2:Nat):=BJ Kw m2 Zq6 5 (Ynj m0 m1 m2)
def Ypj (m0 m1 m2:Nat):=BA 6 (Yoj m0 m1 m2)
def Zr6:=Bz 3 (By (Bz 2 (By WC)))
def zB (m0 m1 m2 n:Nat):BD.A6:=λ JJ LD MU LF LG=>ej Kw n (.loop Zr6) 6 (mk [(0, .dat Bi JJ []),(4, .dat Bi LD [⟨0,257,0,1⟩]),(5, .dat Bi MU [⟨0,321,0,1⟩]),(9, .dat AX LF []),(10, .dat AX LG [])] []) (Ypj m0 m1 m2)
theorem Yqj (m0 m1 m2:Nat):∀ n,zB m0 m1 m2 n=BD.l6 (bf m0 m1 m2) n:=BR (S:=BD.S6 (bf m0 m1 m2)) λ n=>by kernel_rfl
theorem Yrj (m0 m1:Nat):∀ n,bf m0 m1 n=BD.l5 n:=ind rfl λ n e5=>(show _=BD.S5 (zB m0 m1 n n) from by kernel_rfl).trans (by rw [Yqj m0 m1 n n,e5];rfl)
def vc:=Bb 3 Xp
def j7 (m0 n:Nat):BD.A4:=λ C4 DO Dy=>ej Kw n (.tail vc) 0 (mk [(0, .dat Bi C4 []),(4, .dat Bi DO [⟨0,257,0,1⟩]),(5, .dat Bi Dy [⟨0,321,0,1⟩])] []) b9
theorem Ysj (m0:Nat):∀ n,j7 m0 n=BD.t4 n:=ind rfl λ n _=>(show _=BD.S4 (bf m0 n n) from by kernel_rfl).trans (by rw [Yrj m0 n n];rfl)
def Ytj (m0:Nat):=BJ Kw m0 vc 0 b9
def xx (m0:Nat):=BA 0 (Ytj m0)
def Ux:=Bz 2 (By (BM (Bb 2 Xp)))
def W9 (m0 n:Nat):BD.A0:=λ x1 x2 x3 x4=>ej Kw n (.loop Ux) 0 (mk [(0, .dat Bi x1 []),(4, .dat Bi x2 [⟨0,257,0,1⟩]),(5, .dat Bi x3 [⟨0,321,0,1⟩]),(6, .dat AX x4 [])] []) (xx m0)
def Zs6 (m0 m1:Nat):=Mp Kw m1 Ux 0 (xx m0)
def Zt6:=Bb 2 Ux
def Zu6 (m0 m1:Nat):=BJ Kw m1 Zt6 0 (Zs6 m0 m1)
def iQ (m0 m1:Nat):=BA 1 (Zu6 m0 m1)
def Zv6:=Bb 3 (Bz 2 (By Ux))
def zC (m0 m1 n:Nat):BD.A3:=λ Cy Ct Dt DP CX=>ej Kw n (.tail Zv6) 1 (mk [(0, .dat Bi Cy []),(4, .dat Bi Ct [⟨0,257,0,1⟩]),(5, .dat Bi Dt [⟨0,321,0,1⟩]),(6, .dat AX DP []),(7, .dat AX CX [])] []) (iQ m0 m1)
theorem Yuj (m0 m1 m2:Nat):∀ n,zC m0 m1 n=BD.t3 (W9 m0 m1) n:=ind rfl λ n _=>by kernel_rfl
def tO:=Bb 2 (Bz 2 (By Ux))
def j8 (m0 m1 n:Nat):BD.A2:=λ Bl BI B0 BS B2=>ej Kw n (.tail tO) 1 (mk [(0, .dat Bi Bl []),(4, .dat Bi BI [⟨0,257,0,1⟩]),(5, .dat Bi B0 [⟨0,321,0,1⟩]),(6, .dat AX BS []),(7, .dat AX B2 [])] []) (iQ m0 m1)
theorem Yvj (m0 m1:Nat):∀ n,j8 m0 m1 n=BD.t2 (W9 m0 m1) n:=ind rfl λ n _=>(show _=BD.S2 (W9 m0 m1) (zC m0 m1 n) from by kernel_rfl).trans (by rw [Yuj m0 m1 n n];rfl)
def Zw6 (m0 m1:Nat):=BJ Kw m1 tO 1 (iQ m0 m1)
def Zx6 (m0 m1:Nat):=BA 2 (Zw6 m0 m1)
def Zw0:=Bz 3 (By (Bz 2 (By Ux)))
def zD (m0 m1 n:Nat):BD.A1:=λ x5 x6 x7 x8 x9=>ej Kw n (.loop Zw0) 2 (mk [(0, .dat Bi x5 []),(4, .dat Bi x6 [⟨0,257,0,1⟩]),(5, .dat Bi x7 [⟨0,321,0,1⟩]),(6, .dat AX x8 []),(7, .dat AX x9 [])] []) (Zx6 m0 m1)
theorem Ywj (m0 m1:Nat):∀ n,zD m0 m1 n=BD.l1 (j8 m0 m1 m1) n:=BR (S:=BD.S1 (j8 m0 m1 m1)) λ n=>by kernel_rfl
theorem Yxj (m0:Nat):∀ n,W9 m0 n=BD.l0 (j7 m0 m0) n:=ind rfl λ n e0=>(show _=BD.S0 (j7 m0 m0) (zD m0 n n) from by kernel_rfl).trans (by rw [Ywj m0 n n,Yvj m0 n n,e0];rfl)
abbrev zE:=AM.spec [.val Bi] [(Bi,[⟨0,1,0,1⟩]),(Bi,[⟨0,1,0,1⟩])] λ x=>BD x.1
theorem Yf7:Bh prog 181 zE:=B9 Bo (fn:=f181) (λ m x=>show run Kw Xp m x b9=BD.S (W9 m m) x.1 from by kernel_rfl) (λ x=>by rw [Yxj fu fu,Ysj fu fu];rfl) (Bn trivial)
abbrev j9:=AM.spec [.val Bi] [(.str,[])] λ x=>Wf x.1
theorem Zui:Bh prog 182 j9:=Ck Bo (fn:=f182) (lk:=(AM.look [(126,UP),(71,U1)])) (ks:=⟨[],[],[],⟨tt [2],[]⟩,[],[71,126],[],[]⟩) (ts:=[.tmp 2]) (λ _=>by kernel_rfl) (Bn ⟨⟨Xn,call126,λ _=>Bj rfl⟩,⟨⟨Ym,call71,λ _=>Bj rfl⟩,trivial⟩⟩)
abbrev Xq:=BY.env (AM.look [(181,zE),(135,SG),(182,j9)]) ⟨[(0,⟨tt [4,5,6,7],[]⟩)],[],[(11,⟨tt [5,6],[]⟩)],⟨tt [2,3],[]⟩,[],[135,182],[],[]⟩
def mu:=bd f132
abbrev mv:=fin Xq [.tmp 2, .tmp 3] [] [(.str,[]),(AX,[])]
def vd:=Bb 6 mu
def ka (m0 n:Nat):D3.A1:=λ x8 x9=>ej Xq n (.tail vd) 0 (mk [(5, .dat Bi x8 [⟨0,321,0,1⟩]),(6, .dat .str x9 [])] []) mv
theorem Yyj (m0:Nat):∀ n,ka m0 n=D3.t1 n:=ind rfl λ n _=>by kernel_rfl
def Yzj (m0:Nat):=BJ Xq m0 vd 0 mv
def Yak (m0:Nat):=BA 0 (Yzj m0)
def Zy6:=Bz 2 (By (BM (Bb 5 mu)))
def zF (m0 n:Nat):D3.A0:=λ x3 x4 x5 x6=>ej Xq n (.loop Zy6) 0 (mk [(4, .dat Bi x3 [⟨0,257,0,1⟩]),(5, .dat Bi x4 [⟨0,321,0,1⟩]),(6, .dat .str x5 []),(7, .dat AX x6 [])] []) (Yak m0)
theorem Ybk (m0:Nat):∀ n,zF m0 n=D3.l0 (ka m0 m0) n:=BR (S:=D3.S0 (ka m0 m0)) λ n=>by kernel_rfl
abbrev kb:=AM.spec [.val Bi] [(.str,[]),(AX,[])] λ x=>D3 x.1
theorem Zvi:Bh prog 132 kb:=B9 Bo (fn:=f132) (λ m x=>show run Xq mu m x mv=D3.S (zF m m) x.1 from by kernel_rfl) (λ x=>by rw [Ybk fu fu,Yyj fu fu];rfl) (Bn ⟨⟨Yf7,call181,nw⟩,⟨⟨U2,call135,λ _=>Bj rfl⟩,⟨⟨Zui,call182,λ _=>Bj rfl⟩,trivial⟩⟩⟩)
abbrev Zwi:=AM.spec [.val Bi, .val AX] [(.str,[]),(.bool,[])] λ x=>Zs x.1 x.2.1
theorem Xwe:Bh prog 72 Zwi:=Ck Bo (fn:=f72) (lk:=(AM.look [(128,zk),(130,jW),(129,jX),(131,jZ),(132,kb),(126,UP),(71,U1)])) (ks:=⟨[],[],[],⟨tt [4,5],[]⟩,[],[71,126,128,129,131,132],[],[]⟩) (ts:=[.tmp 4, .tmp 5]) (λ _=>by kernel_rfl) (Bn ⟨⟨Ya7,call128,λ _=>Bj rfl⟩,⟨⟨Zii,call130,nw⟩,⟨⟨Zqi,call129,λ _=>Bj rfl⟩,⟨⟨Zti,call131,λ _=>Bj rfl⟩,⟨⟨Zvi,call132,λ _=>Bj rfl⟩,⟨⟨Xn,call126,λ _=>Bj rfl⟩,⟨⟨Ym,call71,λ _=>Bj rfl⟩,trivial⟩⟩⟩⟩⟩⟩⟩)
abbrev dO:=BY.env (AM.look []) (kq [(0,⟨tt [0,3,4],[]⟩)] [] [2])
def oZ:=bd f75
abbrev Zmo:=fin dO [.tmp 2] [] [(Cq,[⟨0,1,0,1⟩])]
def Yck:=Bb 3 oZ
def Yr0 (m0:Nat):=BJ dO m0 Yck 0 Zmo
def Ys0 (m0:Nat):=BA 0 (Yr0 m0)
def Ydk:=Bz 2 (By (BM (Bb 2 oZ)))
def Zxi (m0 n:Nat):HD.A0:=λ x1 x2 x3=>ej dO n (.loop Ydk) 0 (mk [(0, .dat CQ x1 []),(3, .dat Cq x2 [⟨0,193,0,1⟩]),(4, .dat AX x3 [])] []) (Ys0 m0)
theorem Yt0 (m0:Nat):∀ n,Zxi m0 n=HD.l0 n:=BR (S:=HD.S0) λ n=>by kernel_rfl
abbrev Zyi:=AM.spec [.val CQ] [(Cq,[⟨0,1,0,1⟩])] λ x=>HD x.1
theorem Xxe:Bh prog 75 Zyi:=B9 Bo (fn:=f75) (λ m x=>show run dO oZ m x Zmo=HD.S (Zxi m m) x.1 from by kernel_rfl) (λ x=>by rw [Yt0 fu fu];rfl) (Bn trivial)
abbrev ca:=BY.env (AM.look []) (kq [(0,⟨tt [0,4,5],[]⟩)] [] [2,3])
def mw:=bd f133
abbrev Zzi:=fin ca [.tmp 2, .tmp 3] [] [(.str,[]),(AX,[])]
def Zz6:=Bb 3 mw
def Yek (m0:Nat):=BJ ca m0 Zz6 0 Zzi
def Yfk (m0:Nat):=BA 0 (Yek m0)
def Za7:=Bz 2 (By (BM (Bb 2 mw)))
def zG (m0 n:Nat):GN.A0:=λ x1 x2 x3=>ej ca n (.loop Za7) 0 (mk [(0, .dat Cq x1 []),(4, .dat (.sl (.int .u8)) x2 [⟨0,257,0,0⟩]),(5, .dat AX x3 [])] []) (Yfk m0)
theorem Ygk (m0:Nat):∀ n,zG m0 n=GN.l0 n:=BR (S:=GN.S0) λ n=>by kernel_rfl
abbrev kc:=AM.spec [.val Cq] [(.str,[]),(AX,[])] λ x=>GN x.1
theorem Zaj:Bh prog 133 kc:=B9 Bo (fn:=f133) (λ m x=>show run ca mw m x Zzi=GN.S (zG m m) x.1 from by kernel_rfl) (λ x=>by rw [Ygk fu fu];rfl) (Bn trivial)
abbrev Kx:=BY.env (AM.look []) (kq [(0,⟨tt [0,4,5,6],[]⟩),(2,⟨tt [0,4,5,6,7],[]⟩),(4,⟨tt [0,4,5,9],[]⟩),(6,⟨tt [0,4,5,9,10],[]⟩)] [(9,⟨tt [0,4,5,6,7],[]⟩),(10,⟨tt [0,4,5,6,7],[]⟩),(14,⟨tt [0,4,5],[]⟩)] [2,3])
def Xr:=bd f134
abbrev cd:=fin Kx [.tmp 2, .tmp 3] [] [(Cq,[⟨0,1,0,1⟩]),(Bi,[⟨0,1,0,1⟩])]
def Zb7:=Bb 5 Xr
def Yhk (m0 m1:Nat):=BJ Kx m1 Zb7 0 cd
def xy (m0 m1:Nat):=BA 4 (Yhk m0 m1)
def WD:=Bz 2 (By (BM (Bb 4 Xr)))
def bg (m0 m1 n:Nat):BB.A5:=λ Fm FX Ht JI=>ej Kx n (.loop WD) 4 (mk [(0, .dat Cq Fm []),(4, .dat Cq FX [⟨0,257,0,1⟩]),(5, .dat Bi Ht [⟨0,321,0,1⟩]),(9, .dat AX JI [])] []) (xy m0 m1)
def Yik (m0 m1 m2:Nat):=Mp Kx m2 WD 4 (xy m0 m1)
def Zc7:=Bb 2 WD
def Yjk (m0 m1 m2:Nat):=BJ Kx m2 Zc7 4 (Yik m0 m1 m2)
def Ykk (m0 m1 m2:Nat):=BA 5 (Yjk m0 m1 m2)
def Zd7:=Bb 2 (Bz 2 (By WD))
def Ylk (m0 m1 m2:Nat):=BJ Kx m2 Zd7 5 (Ykk m0 m1 m2)
def Ymk (m0 m1 m2:Nat):=BA 6 (Ylk m0 m1 m2)
def Ze7:=Bz 3 (By (Bz 2 (By WD)))
def zH (m0 m1 m2 n:Nat):BB.A6:=λ JJ LD MU LF LG=>ej Kx n (.loop Ze7) 6 (mk [(0, .dat Cq JJ []),(4, .dat Cq LD [⟨0,257,0,1⟩]),(5, .dat Bi MU [⟨0,321,0,1⟩]),(9, .dat AX LF []),(10, .dat AX LG [])] []) (Ymk m0 m1 m2)
theorem Ynk (m0 m1 m2:Nat):∀ n,zH m0 m1 m2 n=BB.l6 (bg m0 m1 m2) n:=BR (S:=BB.S6 (bg m0 m1 m2)) λ n=>by kernel_rfl
theorem Yok (m0 m1:Nat):∀ n,bg m0 m1 n=BB.l5 n:=ind rfl λ n e5=>(show _=BB.S5 (zH m0 m1 n n) from by kernel_rfl).trans (by rw [Ynk m0 m1 n n,e5];rfl)
def ve:=Bb 4 Xr
def kd (m0 n:Nat):BB.A4:=λ C4 DO Dy=>ej Kx n (.tail ve) 0 (mk [(0, .dat Cq C4 []),(4, .dat Cq DO [⟨0,257,0,1⟩]),(5, .dat Bi Dy [⟨0,321,0,1⟩])] []) cd
theorem Ypk (m0:Nat):∀ n,kd m0 n=BB.t4 n:=ind rfl λ n _=>(show _=BB.S4 (bg m0 n n) from by kernel_rfl).trans (by rw [Yok m0 n n];rfl)
def Yqk (m0:Nat):=BJ Kx m0 ve 0 cd
def xz (m0:Nat):=BA 0 (Yqk m0)
def Uy:=Bz 2 (By (BM (Bb 3 Xr)))
def Xa (m0 n:Nat):BB.A0:=λ x1 x2 x3 x4=>ej Kx n (.loop Uy) 0 (mk [(0, .dat Cq x1 []),(4, .dat Cq x2 [⟨0,257,0,1⟩]),(5, .dat Bi x3 [⟨0,321,0,1⟩]),(6, .dat AX x4 [])] []) (xz m0)
def Zf7 (m0 m1:Nat):=Mp Kx m1 Uy 0 (xz m0)
def Zg7:=Bb 2 Uy
def Zh7 (m0 m1:Nat):=BJ Kx m1 Zg7 0 (Zf7 m0 m1)
def iR (m0 m1:Nat):=BA 1 (Zh7 m0 m1)
def Zi7:=Bb 3 (Bz 2 (By Uy))
def zI (m0 m1 n:Nat):BB.A3:=λ Cy Ct Dt DP CX=>ej Kx n (.tail Zi7) 1 (mk [(0, .dat Cq Cy []),(4, .dat Cq Ct [⟨0,257,0,1⟩]),(5, .dat Bi Dt [⟨0,321,0,1⟩]),(6, .dat AX DP []),(7, .dat AX CX [])] []) (iR m0 m1)
theorem Yrk (m0 m1 m2:Nat):∀ n,zI m0 m1 n=BB.t3 (Xa m0 m1) n:=ind rfl λ n _=>by kernel_rfl
def tP:=Bb 2 (Bz 2 (By Uy))
def ke (m0 m1 n:Nat):BB.A2:=λ Bl BI B0 BS B2=>ej Kx n (.tail tP) 1 (mk [(0, .dat Cq Bl []),(4, .dat Cq BI [⟨0,257,0,1⟩]),(5, .dat Bi B0 [⟨0,321,0,1⟩]),(6, .dat AX BS []),(7, .dat AX B2 [])] []) (iR m0 m1)
theorem Ysk (m0 m1:Nat):∀ n,ke m0 m1 n=BB.t2 (Xa m0 m1) n:=ind rfl λ n _=>(show _=BB.S2 (Xa m0 m1) (zI m0 m1 n) from by kernel_rfl).trans (by rw [Yrk m0 m1 n n];rfl)
def Zj7 (m0 m1:Nat):=BJ Kx m1 tP 1 (iR m0 m1)
def Zk7 (m0 m1:Nat):=BA 2 (Zj7 m0 m1)
def Zx0:=Bz 3 (By (Bz 2 (By Uy)))
def zJ (m0 m1 n:Nat):BB.A1:=λ x5 x6 x7 x8 x9=>ej Kx n (.loop Zx0) 2 (mk [(0, .dat Cq x5 []),(4, .dat Cq x6 [⟨0,257,0,1⟩]),(5, .dat Bi x7 [⟨0,321,0,1⟩]),(6, .dat AX x8 []),(7, .dat AX x9 [])] []) (Zk7 m0 m1)
theorem Ytk (m0 m1:Nat):∀ n,zJ m0 m1 n=BB.l1 (ke m0 m1 m1) n:=BR (S:=BB.S1 (ke m0 m1 m1)) λ n=>by kernel_rfl
theorem Yuk (m0:Nat):∀ n,Xa m0 n=BB.l0 (kd m0 m0) n:=ind rfl λ n e0=>(show _=BB.S0 (kd m0 m0) (zJ m0 n n) from by kernel_rfl).trans (by rw [Ytk m0 n n,Ysk m0 n n,e0];rfl)
abbrev kg:=AM.spec [.val Cq] [(Cq,[⟨0,1,0,1⟩]),(Bi,[⟨0,1,0,1⟩])] λ x=>BB x.1
theorem Zbj:Bh prog 134 kg:=B9 Bo (fn:=f134) (λ m x=>show run Kx Xr m x cd=BB.S (Xa m m) x.1 from by kernel_rfl) (λ x=>by rw [Yuk fu fu,Ypk fu fu];rfl) (Bn trivial)
abbrev kh:=AM.spec [.val Cq] [(.str,[]),(AX,[])] λ x=>V9 x.1
theorem Zcj:Bh prog 136 kh:=Ck Bo (fn:=f136) (lk:=(AM.look [(134,kg),(133,kc),(135,SG),(182,j9)])) (ks:=⟨[],[],[],⟨tt [2,3],[]⟩,[],[133,135,182],[],[]⟩) (ts:=[.tmp 2, .tmp 3]) (λ _=>by kernel_rfl) (Bn ⟨⟨Zbj,call134,nw⟩,⟨⟨Zaj,call133,λ _=>Bj rfl⟩,⟨⟨U2,call135,λ _=>Bj rfl⟩,⟨⟨Zui,call182,λ _=>Bj rfl⟩,trivial⟩⟩⟩⟩)
abbrev Zdj:=AM.spec [.val Cq, .val AX] [(.str,[]),(.bool,[])] λ x=>ZG x.1 x.2.1
theorem Xye:Bh prog 74 Zdj:=Ck Bo (fn:=f74) (lk:=(AM.look [(133,kc),(134,kg),(130,jW),(129,jX),(135,SG),(136,kh)])) (ks:=⟨[],[],[],⟨tt [4,5],[]⟩,[],[129,133,135,136],[],[]⟩) (ts:=[.tmp 4, .tmp 5]) (λ _=>by kernel_rfl) (Bn ⟨⟨Zaj,call133,λ _=>Bj rfl⟩,⟨⟨Zbj,call134,nw⟩,⟨⟨Zii,call130,nw⟩,⟨⟨Zqi,call129,λ _=>Bj rfl⟩,⟨⟨U2,call135,λ _=>Bj rfl⟩,⟨⟨Zcj,call136,λ _=>Bj rfl⟩,trivial⟩⟩⟩⟩⟩⟩)
abbrev Zej:=AM.spec [.val CQ, .val AX, .val AX] [(.str,[]),(.bool,[])] λ x=>Zz x.1 x.2.1 x.2.2.1
theorem Xze:Bh prog 33 Zej:=Ck Bo (fn:=f33) (lk:=(AM.look [(73,Zfi),(72,Zwi),(75,Zyi),(74,Zdj)])) (ks:=⟨[],[],[],⟨tt [6,7],[]⟩,[],[72,74],[],[]⟩) (ts:=[.tmp 6, .tmp 7]) (λ _=>by kernel_rfl) (Bn ⟨⟨Xve,call73,nw⟩,⟨⟨Xwe,call72,λ _=>Bj rfl⟩,⟨⟨Xxe,call75,nw⟩,⟨⟨Xye,call74,λ _=>Bj rfl⟩,trivial⟩⟩⟩⟩)
abbrev SP:=BY.env (AM.look []) (kq [(0,⟨tt [1,5,6],[]⟩),(2,⟨tt [1,5,6,7],[]⟩)] [] [4])
def my:=bd f137
abbrev Zfj:=fin SP [.tmp 4] [] [(AX,[])]
def Zl7:=Bb 3 my
def Yvk (m0:Nat):=BJ SP m0 Zl7 0 Zfj
def xA (m0:Nat):=BA 0 (Yvk m0)
def ah:=Bz 2 (By (BM (Bb 2 my)))
def bh (m0 n:Nat):DB.A0:=λ x1 x2 x3=>ej SP n (.loop ah) 0 (mk [(1, .dat .str x1 []),(5, .dat AX x2 []),(6, .dat AX x3 [])] []) (xA m0)
def Ywk (m0 m1:Nat):=Mp SP m1 ah 0 (xA m0)
def Zm7:=Bb 2 ah
def Yxk (m0 m1:Nat):=BJ SP m1 Zm7 0 (Ywk m0 m1)
def Yyk (m0 m1:Nat):=BA 1 (Yxk m0 m1)
def Yzk (m0 m1:Nat):=BA 2 (Yyk m0 m1)
def Zn7:=Bz 2 (By (Bz 2 (By ah)))
def zK (m0 m1 n:Nat):DB.A1:=λ x4 x5 x6 x7=>ej SP n (.loop Zn7) 2 (mk [(1, .dat .str x4 []),(5, .dat AX x5 []),(6, .dat AX x6 []),(7, .dat AX x7 [])] []) (Yzk m0 m1)
theorem Yal (m0 m1:Nat):∀ n,zK m0 m1 n=DB.l1 (bh m0 m1) n:=BR (S:=DB.S1 (bh m0 m1)) λ n=>by kernel_rfl
theorem Ybl (m0:Nat):∀ n,bh m0 n=DB.l0 n:=ind rfl λ n e0=>(show _=DB.S0 (zK m0 n n) from by kernel_rfl).trans (by rw [Yal m0 n n,e0];rfl)
abbrev zL:=AM.spec [.val AX, .val .str] [(AX,[])] λ x=>DB x.1 x.2.1
theorem Yg7:Bh prog 137 zL:=B9 Bo (fn:=f137) (λ m x=>show run SP my m x Zfj=DB.S (bh m m) x.1 x.2.1 from by kernel_rfl) (λ x=>by rw [Ybl fu fu];rfl) (Bn trivial)
abbrev Zgj:=AM.spec [.val .str] [(AX,[])] λ x=>ZV x.1
theorem Xaf:Bh prog 76 Zgj:=Ck Bo (fn:=f76) (lk:=(AM.look [(137,zL)])) (ks:=⟨[],[],[],⟨tt [2],[]⟩,[],[137],[],[]⟩) (ts:=[.tmp 2]) (λ _=>by kernel_rfl) (Bn ⟨⟨Yg7,call137,λ _=>Bj rfl⟩,trivial⟩)
abbrev mz:=AM.spec [.val .str] [(.str,[])] λ x=>Um x.1
theorem Zno:Bh prog 34 mz:=Ck Bo (fn:=f34) (lk:=(AM.look [(76,Zgj)])) (ks:=⟨[],[],[],⟨tt [2],[]⟩,[],[76],[],[]⟩) (ts:=[.tmp 2]) (λ _=>by kernel_rfl) (Bn ⟨⟨Xaf,call76,λ _=>Bj rfl⟩,trivial⟩)
abbrev lQ:=AM.spec [.val CQ, .val AX, .val AX] [(.str,[]),(AX,[])] λ x=>LV x.1 x.2.1 x.2.2.1
theorem Zsn:Bh prog 10 lQ:=Ck Bo (fn:=f10) (lk:=(AM.look [(31,Zwh),(32,Zdi),(33,Zej),(34,mz)])) (ks:=⟨[],[],[],⟨tt [6,7],[]⟩,[],[31,33,34],[],[]⟩) (ts:=[.tmp 6, .tmp 7]) (λ _=>by kernel_rfl) (Bn ⟨⟨Xte,call31,λ _=>Bj rfl⟩,⟨⟨Xue,call32,nw⟩,⟨⟨Xze,call33,λ _=>Bj rfl⟩,⟨⟨Zno,call34,λ _=>Bj rfl⟩,trivial⟩⟩⟩⟩)
abbrev SQ:=BY.env (AM.look []) (kq [(0,⟨tt [1,5,11,12],[]⟩),(2,⟨tt [1,5,11,12,21],[]⟩)] [] [4])
def mB:=bd f249
abbrev Zhj:=fin SQ [.tmp 4] [] [(AX,[])]
def Zo7:=Bb 3 mB
def Ycl (m0:Nat):=BJ SQ m0 Zo7 0 Zhj
def xB (m0:Nat):=BA 0 (Ycl m0)
def ai:=Bz 2 (By (BM (Bb 2 mB)))
def bk (m0 n:Nat):DC.A0:=λ x1 x2 x3 x4=>ej SQ n (.loop ai) 0 (mk [(1, .dat .str x1 []),(5, .dat (.int .u32) x2 []),(11, .dat AX x3 []),(12, .dat AX x4 [])] []) (xB m0)
def Ydl (m0 m1:Nat):=Mp SQ m1 ai 0 (xB m0)
def Zp7:=Bb 3 ai
def Yel (m0 m1:Nat):=BJ SQ m1 Zp7 0 (Ydl m0 m1)
def Yfl (m0 m1:Nat):=BA 1 (Yel m0 m1)
def Ygl (m0 m1:Nat):=BA 2 (Yfl m0 m1)
def Zq7:=Bz 2 (Bb 3 (Bz 2 (Bb 2 ai)))
def zM (m0 m1 n:Nat):DC.A1:=λ x5 x6 x7 x8 x9=>ej SQ n (.loop Zq7) 2 (mk [(1, .dat .str x5 []),(5, .dat (.int .u32) x6 []),(11, .dat AX x7 []),(12, .dat AX x8 []),(21, .dat AX x9 [])] []) (Ygl m0 m1)
theorem Yhl (m0 m1:Nat):∀ n,zM m0 m1 n=DC.l1 (bk m0 m1) n:=BR (S:=DC.S1 (bk m0 m1)) λ n=>by kernel_rfl
theorem Yil (m0:Nat):∀ n,bk m0 n=DC.l0 n:=ind rfl λ n e0=>(show _=DC.S0 (zM m0 n n) from by kernel_rfl).trans (by rw [Yhl m0 n n,e0];rfl)
abbrev zN:=AM.spec [.val AX, .val .str] [(AX,[])] λ x=>DC x.1 x.2.1
theorem Yh7:Bh prog 249 zN:=B9 Bo (fn:=f249) (λ m x=>show run SQ mB m x Zhj=DC.S (bk m m) x.1 x.2.1 from by kernel_rfl) (λ x=>by rw [Yil fu fu];rfl) (Bn trivial)
abbrev zO:=AM.spec [.val .str] [(AX,[])] λ x=>ZW x.1
theorem Yi7:Bh prog 221 zO:=Ck Bo (fn:=f221) (lk:=(AM.look [(249,zN)])) (ks:=⟨[],[],[],⟨tt [2],[]⟩,[],[249],[],[]⟩) (ts:=[.tmp 2]) (λ _=>by kernel_rfl) (Bn ⟨⟨Yh7,call249,λ _=>Bj rfl⟩,trivial⟩)
abbrev cf:=BY.env (AM.look [(221,zO)]) ⟨[(0,⟨tt [3,4,16],[]⟩)],[],[],⟨tt [2],[]⟩,[],[221],[],[]⟩
def mC:=bd f187
abbrev Zij:=fin cf [.tmp 2] [] [(.str,[])]
def Zr7:=Bb 5 mC
def Yjl (m0:Nat):=BJ cf m0 Zr7 0 Zij
def Ykl (m0:Nat):=BA 0 (Yjl m0)
def Zs7:=Bz 2 (By (BM (Bb 4 mC)))
def zP (m0 n:Nat):FF.A0:=λ x2 x3 x4=>ej cf n (.loop Zs7) 0 (mk [(3, .dat (.int .u32) x2 []),(4, .dat (.sl (.int .u8)) x3 [⟨0,257,0,0⟩]),(16, .dat AX x4 [])] []) (Ykl m0)
theorem Yll (m0:Nat):∀ n,zP m0 n=FF.l0 n:=BR (S:=FF.S0) λ n=>by kernel_rfl
abbrev ki:=AM.spec [.val .str] [(.str,[])] λ x=>FF x.1
theorem Zjj:Bh prog 187 ki:=B9 Bo (fn:=f187) (λ m x=>show run cf mC m x Zij=FF.S (zP m m) x.1 from by kernel_rfl) (λ x=>by rw [Yll fu fu];rfl) (Bn ⟨⟨Yi7,call221,λ _=>Bj rfl⟩,trivial⟩)
abbrev zQ:=AM.spec [.val .str] [(.str,[]),(AX,[])] λ x=>Un x.1
theorem Yj7:Bh prog 139 zQ:=Ck Bo (fn:=f139) (lk:=(AM.look [(187,ki)])) (ks:=⟨[],[],[],⟨tt [2,3],[]⟩,[],[187],[],[]⟩) (ts:=[.tmp 2, .tmp 3]) (λ _=>by kernel_rfl) (Bn ⟨⟨Zjj,call187,λ _=>Bj rfl⟩,trivial⟩)
abbrev kj:=AM.spec [.val AX, .val AX] [(AX,[])] λ x=>some (PN x.1 x.2.1)
theorem Zkj:Bh prog 241 kj:=Ck Bo (fn:=f241) (lk:=(AM.look [])) (ks:=(kz [4])) (ts:=[.tmp 4]) (λ x=>(show _=PN.o x.1 x.2.1 from by kernel_rfl).trans (by unfold PN.o PN;simp only [Na])) (Bn trivial)
abbrev W0:=AM.spec [.val AX] [(AX,[])] λ x=>PY x.1
theorem bI:Bh prog 186 W0:=Ck Bo (fn:=f186) (lk:=(AM.look [])) (ks:=(kz [2])) (ts:=[.tmp 2]) (λ _=>by kernel_rfl) (Bn trivial)
abbrev cg:=BY.env (AM.look [(186,W0)]) ⟨[(0,⟨tt [0,2,7,8,9],[]⟩)],[],[],⟨tt [6],[]⟩,[],[186],[],[]⟩
def mD:=bd f242
abbrev Zlj:=fin cg [.tmp 6] [] [(AX,[])]
def Zt7:=Bb 4 mD
def Yml (m0:Nat):=BJ cg m0 Zt7 0 Zlj
def Ynl (m0:Nat):=BA 0 (Yml m0)
def Zu7:=Bz 3 (Bb 3 mD)
def zR (m0 n:Nat):Hj.A0:=λ x1 x2 x3 x4 x5=>ej cg n (.loop Zu7) 0 (mk [(0, .dat .str x1 []),(2, .dat AX x2 []),(7, .dat (.int .u64) x3 []),(8, .dat AX x4 []),(9, .dat AX x5 [])] []) (Ynl m0)
theorem Yol (m0:Nat):∀ n,zR m0 n=Hj.l0 n:=BR (S:=Hj.S0) λ n=>by kernel_rfl
abbrev zS:=AM.spec [.val .str, .val AX, .val AX] [(AX,[])] λ x=>Hj x.1 x.2.1 x.2.2.1
theorem Yk7:Bh prog 242 zS:=B9 Bo (fn:=f242) (λ m x=>show run cg mD m x Zlj=Hj.S (zR m m) x.1 x.2.1 x.2.2.1 from by kernel_rfl) (λ x=>by rw [Yol fu fu];rfl) (Bn ⟨⟨bI,call186,λ _=>Bj rfl⟩,trivial⟩)
abbrev Xs:=BY.env (AM.look [(241,kj),(242,zS)]) ⟨[(0,⟨tt [0,2,9,49,50],tt [48]⟩)],[],[(8,⟨tt [0,1,2],[]⟩)],⟨tt [6,7],tt [6,48]⟩,[6,9,48,53,61],[241,242],[],[]⟩
def ch:=bd f201
abbrev mE:=fin Xs [.tmp 6, .tmp 7] [] [(Bi,[]),(AX,[])]
def Zv7:=Bb 6 ch
def Ypl (m0 m1:Nat):=BJ Xs m1 Zv7 0 mE
def Yql (m0 m1:Nat):=BA 0 (Ypl m0 m1)
def Zw7:=Bz 2 (By (BM (Bb 5 ch)))
def zT (m0 m1 n:Nat):Dd.A1:=λ x5 x6 x7 x8 x9=>ej Xs n (.loop Zw7) 0 (mk [(0, .dat .str x5 []),(2, .dat AX x6 []),(9, .slw 48 0),(49, .dat AX x7 []),(50, .dat AX x8 [])] [(48,some (.arr AX x9 false))]) (Yql m0 m1)
theorem Yrl (m0 m1:Nat):∀ n,zT m0 m1 n=Dd.l1 n:=BR (S:=Dd.S1) λ n=>by kernel_rfl
def Zx7:=Bb 4 ch
def zU (m0 n:Nat):Dd.A0:=λ x2 x3 x4=>ej Xs n (.tail Zx7) 0 (mk [(0, .dat .str x2 []),(1, .dat AX x3 []),(2, .dat AX x4 [])] []) mE
theorem Ysl (m0:Nat):∀ n,zU m0 n=Dd.t0 n:=ind rfl λ n _=>(show _=Dd.S0 (zT m0 n n) from by kernel_rfl).trans (by rw [Yrl m0 n n];rfl)
abbrev UQ:=AM.spec [.val .str, .val AX, .val AX] [(Bi,[]),(AX,[])] λ x=>Dd x.1 x.2.1 x.2.2.1
theorem Xt:Bh prog 201 UQ:=B9 Bo (fn:=f201) (λ m x=>show run Xs ch m x mE=Dd.S (zU m m) x.1 x.2.1 x.2.2.1 from by kernel_rfl) (λ x=>by rw [Ysl fu fu];rfl) (Bn ⟨⟨Zkj,call241,λ _=>Bj rfl⟩,⟨⟨Yk7,call242,λ _=>Bj rfl⟩,trivial⟩⟩)
abbrev cj:=BY.env (AM.look []) (kq [(0,⟨tt [0,1,7,8],[]⟩)] [] [4])
def mF:=bd f250
abbrev Zmj:=fin cj [.tmp 4] [] [(AX,[])]
def Zy7:=Bb 2 mF
def Ytl (m0:Nat):=BJ cj m0 Zy7 0 Zmj
def Yul (m0:Nat):=BA 0 (Ytl m0)
def Zz7:=Bz 2 (By (BM (By mF)))
def zV (m0 n:Nat):Hy.A0:=λ x1 x2 x3 x4=>ej cj n (.loop Zz7) 0 (mk [(0, .dat Bi x1 []),(1, .dat AX x2 []),(7, .dat AX x3 []),(8, .dat AX x4 [])] []) (Yul m0)
theorem Yvl (m0:Nat):∀ n,zV m0 n=Hy.l0 n:=BR (S:=Hy.S0) λ n=>by kernel_rfl
abbrev zW:=AM.spec [.val Bi, .val AX] [(AX,[])] λ x=>Hy x.1 x.2.1
theorem Yl7:Bh prog 250 zW:=B9 Bo (fn:=f250) (λ m x=>show run cj mF m x Zmj=Hy.S (zV m m) x.1 x.2.1 from by kernel_rfl) (λ x=>by rw [Yvl fu fu];rfl) (Bn trivial)
abbrev zX:=AM.spec [.val Bi, .val AX] [(.bool,[])] λ x=>Zk x.1 x.2.1
theorem Ym7:Bh prog 222 zX:=Ck Bo (fn:=f222) (lk:=(AM.look [(250,zW)])) (ks:=⟨[],[],[],⟨tt [4],[]⟩,[],[250],[],[]⟩) (ts:=[.tmp 4]) (λ _=>by kernel_rfl) (Bn ⟨⟨Yl7,call250,λ _=>Bj rfl⟩,trivial⟩)
abbrev kk:=AM.spec [.val .str, .val AX] [(Bi,[]),(AX,[])] λ x=>N3 x.1 x.2.1
theorem Znj:Bh prog 188 kk:=Ck Bo (fn:=f188) (lk:=(AM.look [(201,UQ),(222,zX)])) (ks:=⟨[],[],[],⟨tt [4,5],tt [17]⟩,[],[222],[],[]⟩) (ts:=[.tmp 4, .tmp 5]) (λ _=>by kernel_rfl) (Bn ⟨⟨Xt,call201,nw⟩,⟨⟨Ym7,call222,λ _=>Bj rfl⟩,trivial⟩⟩)
abbrev ck:=BY.env (AM.look [(188,kk)]) (kq [(0,⟨tt [7,8,17,18,19],[]⟩)] [] [4,5])
def mH:=bd f140
abbrev Zoj:=fin ck [.tmp 4, .tmp 5] [] [(AX,[]),(AX,[])]
def Za8:=Bb 4 mH
def Ywl (m0:Nat):=BJ ck m0 Za8 0 Zoj
def Yxl (m0:Nat):=BA 0 (Ywl m0)
def Zb8:=Bz 2 (By (BM (Bb 3 mH)))
def zY (m0 n:Nat):Fo.A0:=λ x2 x3 x4 x5 x6=>ej ck n (.loop Zb8) 0 (mk [(7, .dat AX x2 []),(8, .dat AX x3 []),(17, .dat Bi x4 []),(18, .dat AX x5 []),(19, .dat AX x6 [])] []) (Yxl m0)
theorem Yyl (m0:Nat):∀ n,zY m0 n=Fo.l0 n:=BR (S:=Fo.S0) λ n=>by kernel_rfl
abbrev km:=AM.spec [.val .str, .val AX] [(AX,[]),(AX,[])] λ x=>Fo x.1 x.2.1
theorem Zpj:Bh prog 140 km:=B9 Bo (fn:=f140) (λ m x=>show run ck mH m x Zoj=Fo.S (zY m m) x.1 x.2.1 from by kernel_rfl) (λ x=>by rw [Yyl fu fu];rfl) (Bn ⟨⟨Znj,call188,nw⟩,trivial⟩)
abbrev Ry:=BY.env (AM.look []) ⟨[(0,⟨tt [0,6,27,28],tt [26]⟩),(2,⟨tt [0,6,7,8,27,28,31],tt [26]⟩)],[],[],⟨tt [4,5],tt [4,26]⟩,[4,6,26,47,53],[],[],[]⟩
def mI:=bd f223
abbrev Zqj:=fin Ry [.tmp 4, .tmp 5] [] [(Bi,[]),(AX,[])]
def Zc8:=Bb 4 mI
def Yzl (m0:Nat):=BJ Ry m0 Zc8 0 Zqj
def xC (m0:Nat):=BA 0 (Yzl m0)
def WE:=Bz 2 (By (BM (Bb 3 mI)))
def bl (m0 n:Nat):C5.A0:=λ x1 x2 x3 x4=>ej Ry n (.loop WE) 0 (mk [(0, .dat .str x1 []),(6, .slw 26 0),(27, .dat AX x2 []),(28, .dat AX x3 [])] [(26,some (.arr AX x4 false))]) (xC m0)
def Yam (m0 m1:Nat):=Mp Ry m1 WE 0 (xC m0)
def Zd8:=Bb 3 WE
def Ybm (m0 m1:Nat):=BJ Ry m1 Zd8 0 (Yam m0 m1)
def Ycm (m0 m1:Nat):=BA 1 (Ybm m0 m1)
def Ze8:=Bb 3 (Bz 2 (Bb 2 WE))
def Ydm (m0 m1:Nat):=BJ Ry m1 Ze8 1 (Ycm m0 m1)
def Yem (m0 m1:Nat):=BA 2 (Ydm m0 m1)
def Zf8:=Bz 2 (By (BM (Bb 2 (Bz 2 (Bb 2 WE)))))
def zZ (m0 m1 n:Nat):C5.A1:=λ x5 x6 x7 x8 x9 Bl BI=>ej Ry n (.loop Zf8) 2 (mk [(0, .dat .str x5 []),(6, .slw 26 0),(7, .dat AX x6 []),(8, .dat (.int .u64) x7 []),(27, .dat AX x8 []),(28, .dat AX x9 []),(31, .dat AX Bl [])] [(26,some (.arr AX BI false))]) (Yem m0 m1)
theorem Yfm (m0 m1:Nat):∀ n,zZ m0 m1 n=C5.l1 (bl m0 m1) n:=BR (S:=C5.S1 (bl m0 m1)) λ n=>by kernel_rfl
theorem Ygm (m0:Nat):∀ n,bl m0 n=C5.l0 n:=ind rfl λ n e0=>(show _=C5.S0 (zZ m0 n n) from by kernel_rfl).trans (by rw [Yfm m0 n n,e0];rfl)
abbrev z6:=AM.spec [.val .str, .val AX] [(Bi,[]),(AX,[])] λ x=>C5 x.1 x.2.1
theorem Yn7:Bh prog 223 z6:=B9 Bo (fn:=f223) (λ m x=>show run Ry mI m x Zqj=C5.S (bl m m) x.1 x.2.1 from by kernel_rfl) (λ x=>by rw [Ygm fu fu];rfl) (Bn trivial)
abbrev z7:=AM.spec [.val AX] [(AX,[])] λ x=>some (E5 x.1)
theorem Yo7:Bh prog 198 z7:=Ck Bo (fn:=f198) (lk:=(AM.look [])) (ks:=(kz [2])) (ts:=[.tmp 2]) (λ _=>by kernel_rfl) (Bn trivial)
abbrev kn:=AM.spec [.val AX] [(AX,[])] λ x=>some (EL x.1)
theorem Zrj:Bh prog 237 kn:=Ck Bo (fn:=f237) (lk:=(AM.look [])) (ks:=(kz [2])) (ts:=[.tmp 2]) (λ _=>by kernel_rfl) (Bn trivial)
abbrev cm:=BY.env (AM.look []) (kq [(0,⟨tt [3,4,5],[]⟩)] [] [2])
def mJ:=bd f148
abbrev Zsj:=fin cm [.tmp 2] [] [(AX,[])]
def Zg8:=Bb 3 mJ
def Yhm (m0:Nat):=BJ cm m0 Zg8 0 Zsj
def Yim (m0:Nat):=BA 0 (Yhm m0)
def Zh8:=Bz 2 (By (BM (Bb 2 mJ)))
def z8 (m0 n:Nat):FO.A0:=λ x1 x2 x3=>ej cm n (.loop Zh8) 0 (mk [(3, .dat (.int .u64) x1 []),(4, .dat AX x2 []),(5, .dat AX x3 [])] []) (Yim m0)
theorem Yjm (m0:Nat):∀ n,z8 m0 n=FO.l0 n:=BR (S:=FO.S0) λ n=>by kernel_rfl
abbrev bm:=AM.spec [.val AX] [(AX,[])] λ x=>FO x.1
theorem mK:Bh prog 148 bm:=B9 Bo (fn:=f148) (λ m x=>show run cm mJ m x Zsj=FO.S (z8 m m) x.1 from by kernel_rfl) (λ x=>by rw [Yjm fu fu];rfl) (Bn trivial)
abbrev Zaa:=AM.spec [.val AX] [(AX,[])] λ x=>WJ x.1
theorem Yp7:Bh prog 199 Zaa:=Ck Bo (fn:=f199) (lk:=(AM.look [(237,kn),(148,bm)])) (ks:=⟨[],[],[],⟨tt [2],[]⟩,[],[148,237],[],[]⟩) (ts:=[.tmp 2]) (λ _=>by kernel_rfl) (Bn ⟨⟨Zrj,call237,λ _=>Bj rfl⟩,⟨⟨mK,call148,λ _=>Bj rfl⟩,trivial⟩⟩)
abbrev cn:=BY.env (AM.look [(198,z7),(199,Zaa)]) ⟨[(0,⟨tt [0,5,11,12],[]⟩)],[],[],⟨tt [2,3,4],[]⟩,[],[198,199],[],[]⟩
def mL:=bd f150
abbrev Ztj:=fin cn [.tmp 2, .tmp 3, .tmp 4] [] [(AX,[]),(AX,[]),(AX,[])]
def Zi8:=Bb 3 mL
def Ykm (m0:Nat):=BJ cn m0 Zi8 0 Ztj
def Ylm (m0:Nat):=BA 0 (Ykm m0)
def Zj8:=Bz 2 (By (BM (Bb 2 mL)))
def Zba (m0 n:Nat):F5.A0:=λ x1 x2 x3 x4=>ej cn n (.loop Zj8) 0 (mk [(0, .dat .str x1 []),(5, .dat (.int .u64) x2 []),(11, .dat AX x3 []),(12, .dat AX x4 [])] []) (Ylm m0)
theorem Ymm (m0:Nat):∀ n,Zba m0 n=F5.l0 n:=BR (S:=F5.S0) λ n=>by kernel_rfl
abbrev SH:=AM.spec [.val .str] [(AX,[]),(AX,[]),(AX,[])] λ x=>F5 x.1
theorem U3:Bh prog 150 SH:=B9 Bo (fn:=f150) (λ m x=>show run cn mL m x Ztj=F5.S (Zba m m) x.1 from by kernel_rfl) (λ x=>by rw [Ymm fu fu];rfl) (Bn ⟨⟨Yo7,call198,λ _=>Bj rfl⟩,⟨⟨Yp7,call199,λ _=>Bj rfl⟩,trivial⟩⟩)
abbrev cp:=BY.env (AM.look []) (kq [(0,⟨tt [0,4,7,8,9],[]⟩)] [] [2,3])
def mM:=bd f151
abbrev Zuj:=fin cp [.tmp 2, .tmp 3] [] [(AX,[]),(.bool,[])]
def Zk8:=Bb 3 mM
def Ynm (m0:Nat):=BJ cp m0 Zk8 0 Zuj
def Yom (m0:Nat):=BA 0 (Ynm m0)
def Zl8:=Bz 2 (By (BM (Bb 2 mM)))
def Zca (m0 n:Nat):E4.A0:=λ x1 x2 x3 x4 x5=>ej cp n (.loop Zl8) 0 (mk [(0, .dat GZ x1 []),(4, .dat AX x2 []),(7, .dat GZ x3 []),(8, .dat AX x4 []),(9, .dat AX x5 [])] []) (Yom m0)
theorem Ypm (m0:Nat):∀ n,Zca m0 n=E4.l0 n:=BR (S:=E4.S0) λ n=>by kernel_rfl
abbrev bn:=AM.spec [.val GZ] [(AX,[]),(.bool,[])] λ x=>E4 x.1
theorem mN:Bh prog 151 bn:=B9 Bo (fn:=f151) (λ m x=>show run cp mM m x Zuj=E4.S (Zca m m) x.1 from by kernel_rfl) (λ x=>by rw [Ypm fu fu];rfl) (Bn trivial)
abbrev Yo:=BY.env (AM.look [(150,SH),(151,bn)]) ⟨[(0,⟨tt [0,1,6,7],[]⟩)],[],[(15,⟨tt [1,6,7],[]⟩)],⟨tt [4,5],[]⟩,[],[150,151],[],[]⟩
def o6:=bd f89
abbrev o7:=fin Yo [.tmp 4, .tmp 5] [] [(GZ,[⟨0,1,0,3⟩]),(AX,[])]
def xD:=Bb 5 o6
def mO (m0 n:Nat):Cw.A1:=λ x7 x8 x9=>ej Yo n (.tail xD) 0 (mk [(1, .dat AX x7 []),(6, .dat GZ x8 [⟨0,385,0,3⟩]),(7, .dat AX x9 [])] []) o7
theorem Yu0 (m0:Nat):∀ n,mO m0 n=Cw.t1 n:=ind rfl λ n _=>by kernel_rfl
def Yv0 (m0:Nat):=BJ Yo m0 xD 0 o7
def Yw0 (m0:Nat):=BA 0 (Yv0 m0)
def Yqm:=Bz 3 (Bb 4 o6)
def Zvj (m0 n:Nat):Cw.A0:=λ x1 x2 x3 x4=>ej Yo n (.loop Yqm) 0 (mk [(0, .dat .str x1 []),(1, .dat AX x2 []),(6, .dat GZ x3 [⟨0,385,0,3⟩]),(7, .dat AX x4 [])] []) (Yw0 m0)
theorem Yx0 (m0:Nat):∀ n,Zvj m0 n=Cw.l0 (mO m0 m0) n:=BR (S:=Cw.S0 (mO m0 m0)) λ n=>by kernel_rfl
abbrev bL:=AM.spec [.val .str, .val AX] [(GZ,[⟨0,1,0,3⟩]),(AX,[])] λ x=>Cw x.1 x.2.1
theorem oy:Bh prog 89 bL:=B9 Bo (fn:=f89) (λ m x=>show run Yo o6 m x o7=Cw.S (Zvj m m) x.1 x.2.1 from by kernel_rfl) (λ x=>by rw [Yx0 fu fu,Yu0 fu fu];rfl) (Bn ⟨⟨U3,call150,λ _=>Bj rfl⟩,⟨⟨mN,call151,λ _=>Bj rfl⟩,trivial⟩⟩)
abbrev Zda:=AM.spec [.val (.int .u64), .val (.int .u64)] [((.int .u64),[]),((.int .u64),[])] λ x=>some (fV x.1 x.2.1)
theorem Yq7:Bh prog 280 Zda:=Ck Bo (fn:=f280) (lk:=(AM.look [])) (ks:=(kz [4,5])) (ts:=[.tmp 4, .tmp 5]) (λ _=>by kernel_rfl) (Bn trivial)
abbrev Zea:=AM.spec [.val (.int .u64), .val (.int .u64)] [((.int .u64),[]),((.int .u64),[])] λ x=>some (Zt x.1 x.2.1)
theorem Yr7:Bh prog 266 Zea:=Ck Bo (fn:=f266) (lk:=(AM.look [(280,Zda)])) (ks:=⟨[],[],[],⟨tt [4,5],[]⟩,[],[280],[],[]⟩) (ts:=[.tmp 4, .tmp 5]) (λ _=>by kernel_rfl) (Bn ⟨⟨Yq7,call280,λ _=>Bj rfl⟩,trivial⟩)
abbrev U4:=BY.env (AM.look [(266,Zea)]) ⟨[(0,⟨tt [7,8],tt [30]⟩)],[],[(3,⟨tt [0,1],[]⟩),(6,⟨tt [0,6],[]⟩)],⟨tt [4],tt [30]⟩,[4,7,30,31,35,39,41,42,44,47],[266],[],[]⟩
def Xu:=bd f251
abbrev cq:=fin U4 [.tmp 4] [] [(Bi,[])]
def Zm8:=Bb 7 Xu
def Yrm (m0 m1 m2:Nat):=BJ U4 m2 Zm8 0 cq
def Ysm (m0 m1 m2:Nat):=BA 0 (Yrm m0 m1 m2)
def Zn8:=Bz 3 (Bb 6 Xu)
def Zfa (m0 m1 m2 n:Nat):Dl.A2:=λ x6 x7=>ej U4 n (.loop Zn8) 0 (mk [(7, .slw 30 0),(8, .dat AX x6 [])] [(30,some (.arr AX x7 false))]) (Ysm m0 m1 m2)
theorem Ytm (m0 m1 m2:Nat):∀ n,Zfa m0 m1 m2 n=Dl.l2 n:=BR (S:=Dl.S2) λ n=>by kernel_rfl
def Zo8:=Bb 4 Xu
def Zga (m0 n:Nat):Dl.A1:=λ x4 x5=>ej U4 n (.tail Zo8) 0 (mk [(0, .dat Bi x4 []),(6, .dat (.int .u64) x5 [])] []) cq
theorem Yum (m0 m1:Nat):∀ n,Zga m0 n=Dl.t1 n:=ind rfl λ n _=>(show _=Dl.S1 (Zfa m0 m1 n n) from by kernel_rfl).trans (by rw [Ytm m0 m1 n n];rfl)
def Zp8:=Bb 2 Xu
def Zha (m0 n:Nat):Dl.A0:=λ x1 x2=>ej U4 n (.tail Zp8) 0 (mk [(0, .dat Bi x1 []),(1, .dat AX x2 [])] []) cq
theorem Yvm (m0:Nat):∀ n,Zha m0 n=Dl.t0 n:=ind rfl λ n _=>(show _=Dl.S0 (Zga m0 n) from by kernel_rfl).trans (by rw [Yum m0 n n];rfl)
abbrev Zia:=AM.spec [.val Bi, .val AX] [(Bi,[])] λ x=>Dl x.1 x.2.1
theorem Ys7:Bh prog 251 Zia:=B9 Bo (fn:=f251) (λ m x=>show run U4 Xu m x cq=Dl.S (Zha m m) x.1 x.2.1 from by kernel_rfl) (λ x=>by rw [Yvm fu fu];rfl) (Bn ⟨⟨Yr7,call266,λ _=>Bj rfl⟩,trivial⟩)
abbrev ct:=BY.env (AM.look [(151,bn),(251,Zia)]) ⟨[(0,⟨tt [6,18,19,20],[]⟩)],[],[],⟨tt [2,3],[]⟩,[],[151],[],[]⟩
def mP:=bd f224
abbrev Zwj:=fin ct [.tmp 2, .tmp 3] [] [(Bi,[⟨0,1,0,1⟩]),(AX,[])]
def Zq8:=Bb 5 mP
def Ywm (m0:Nat):=BJ ct m0 Zq8 0 Zwj
def Yxm (m0:Nat):=BA 0 (Ywm m0)
def Zr8:=Bz 2 (By (BM (Bb 4 mP)))
def Zja (m0 n:Nat):Gm.A0:=λ x2 x3 x4 x5=>ej ct n (.loop Zr8) 0 (mk [(6, .dat Bi x2 [⟨0,385,0,1⟩]),(18, .dat GZ x3 []),(19, .dat AX x4 []),(20, .dat AX x5 [])] []) (Yxm m0)
theorem Yym (m0:Nat):∀ n,Zja m0 n=Gm.l0 n:=BR (S:=Gm.S0) λ n=>by kernel_rfl
abbrev ko:=AM.spec [.val GZ] [(Bi,[⟨0,1,0,1⟩]),(AX,[])] λ x=>Gm x.1
theorem Zxj:Bh prog 224 ko:=B9 Bo (fn:=f224) (λ m x=>show run ct mP m x Zwj=Gm.S (Zja m m) x.1 from by kernel_rfl) (λ x=>by rw [Yym fu fu];rfl) (Bn ⟨⟨mN,call151,λ _=>Bj rfl⟩,⟨⟨Ys7,call251,nw⟩,trivial⟩⟩)
abbrev Zka:=AM.Hm 1 [.io .str [], .io .bool []] [(AX,[]),(.str,[]),(.bool,[])] λ x=>Kp x.1 x.2.1
theorem Yt7:Bh prog 252 Zka:=eu Bo (fn:=f252) (lk:=(AM.look [(150,SH)])) (ks:=⟨[],[],[],⟨tt [2],tt [1000000,1000001]⟩,[],[150],[],[]⟩) (ts:=[.tmp 2]) (λ _=>by kernel_rfl) (Bn ⟨⟨U3,call150,λ _=>Bj rfl⟩,trivial⟩)
abbrev Zla:=AM.spec [.val AX, .val AX] [(AX,[])] λ x=>some (Sl x.1 x.2.1)
theorem Yu7:Bh prog 253 Zla:=Ck Bo (fn:=f253) (lk:=(AM.look [])) (ks:=(kz [4])) (ts:=[.tmp 4]) (λ _=>by kernel_rfl) (Bn trivial)
abbrev Xv:=BY.env (AM.look [(237,kn)]) ⟨[(0,⟨tt [3,4,5],tt [3]⟩)],[],[(7,⟨tt [3,4,5],tt [3]⟩)],⟨tt [2],[]⟩,[],[237],[],[]⟩
def mQ:=bd f263
abbrev mR:=fin Xv [.tmp 2] [] [(.str,[])]
def vf:=Bb 4 mQ
def kr (m0 n:Nat):D5.A1:=λ x5 x6 x7=>ej Xv n (.tail vf) 0 (mk [(3, .ptr 3 0 0),(4, .dat (.int .u64) x5 []),(5, .dat AX x6 [])] [(3,some (.arr (.int .u8) x7 false))]) mR
theorem Yzm (m0:Nat):∀ n,kr m0 n=D5.t1 n:=ind rfl λ n _=>by kernel_rfl
def Yan (m0:Nat):=BJ Xv m0 vf 0 mR
def Ybn (m0:Nat):=BA 0 (Yan m0)
def Zs8:=Bz 3 (Bb 3 mQ)
def Zma (m0 n:Nat):D5.A0:=λ x2 x3 x4=>ej Xv n (.loop Zs8) 0 (mk [(3, .ptr 3 0 0),(4, .dat (.int .u64) x2 []),(5, .dat AX x3 [])] [(3,some (.arr (.int .u8) x4 false))]) (Ybn m0)
theorem Ycn (m0:Nat):∀ n,Zma m0 n=D5.l0 (kr m0 m0) n:=BR (S:=D5.S0 (kr m0 m0)) λ n=>by kernel_rfl
abbrev SI:=AM.spec [.val AX] [(.str,[])] λ x=>D5 x.1
theorem U5:Bh prog 263 SI:=B9 Bo (fn:=f263) (λ m x=>show run Xv mQ m x mR=D5.S (Zma m m) x.1 from by kernel_rfl) (λ x=>by rw [Ycn fu fu,Yzm fu fu];rfl) (Bn ⟨⟨Zrj,call237,λ _=>Bj rfl⟩,trivial⟩)
abbrev Zna:=AM.spec [.val AX, .val AX] [(AX,[])] λ x=>some (Ww x.1 x.2.1)
theorem Yv7:Bh prog 281 Zna:=Ck Bo (fn:=f281) (lk:=(AM.look [])) (ks:=(kz [4])) (ts:=[.tmp 4]) (λ _=>by kernel_rfl) (Bn trivial)
abbrev Xw:=BY.env (AM.look []) (kq [(0,⟨tt [0,3,4],[]⟩)] [(3,⟨tt [0],[]⟩)] [2])
def cu:=bd f282
abbrev mS:=fin Xw [.tmp 2] [] [(AX,[])]
def Zt8:=Bb 4 cu
def Ydn (m0 m1:Nat):=BJ Xw m1 Zt8 0 mS
def Yen (m0 m1:Nat):=BA 0 (Ydn m0 m1)
def Zu8:=Bz 2 (By (BM (Bb 3 cu)))
def Zoa (m0 m1 n:Nat):El.A1:=λ x2 x3 x4=>ej Xw n (.loop Zu8) 0 (mk [(0, .dat Bi x2 []),(3, .dat AX x3 []),(4, .dat AX x4 [])] []) (Yen m0 m1)
theorem Yfn (m0 m1:Nat):∀ n,Zoa m0 m1 n=El.l1 n:=BR (S:=El.S1) λ n=>by kernel_rfl
def Zv8:=Bb 2 cu
def Zpa (m0 n:Nat):El.A0:=λ x1=>ej Xw n (.tail Zv8) 0 (mk [(0, .dat Bi x1 [])] []) mS
theorem Ygn (m0:Nat):∀ n,Zpa m0 n=El.t0 n:=ind rfl λ n _=>(show _=El.S0 (Zoa m0 n n) from by kernel_rfl).trans (by rw [Yfn m0 n n];rfl)
abbrev Zqa:=AM.spec [.val Bi] [(AX,[])] λ x=>El x.1
theorem Yw7:Bh prog 282 Zqa:=B9 Bo (fn:=f282) (λ m x=>show run Xw cu m x mS=El.S (Zpa m m) x.1 from by kernel_rfl) (λ x=>by rw [Ygn fu fu];rfl) (Bn trivial)
abbrev SR:=BY.env (AM.look [(281,Zna),(282,Zqa)]) ⟨[(0,⟨tt [0,4,5],tt [10]⟩),(2,⟨tt [4,6,33,34],tt [10]⟩)],[],[(6,⟨tt [4],tt [10]⟩)],⟨tt [2,3],tt [10]⟩,[2,4,10,17,29,30,32,37,40,47],[281,282],[],[28]⟩
def Xx:=bd f267
abbrev cv:=fin SR [.tmp 2, .tmp 3] [] [(Bi,[]),(AX,[])]
def Zw8:=Bb 5 Xx
def Yhn (m0 m1:Nat):=BJ SR m1 Zw8 0 cv
def Yin (m0 m1:Nat):=BA 2 (Yhn m0 m1)
def Zx8:=Bz 2 (By (BM (Bb 4 Xx)))
def Zra (m0 m1 n:Nat):CV.A2:=λ x7 x8 x9 Bl=>ej SR n (.loop Zx8) 2 (mk [(4, .slw 10 0),(6, .dat AX x7 []),(33, .dat AX x8 []),(34, .dat AX x9 [])] [(10,some (.arr AX Bl false))]) (Yin m0 m1)
theorem Yjn (m0 m1:Nat):∀ n,Zra m0 m1 n=CV.l2 n:=BR (S:=CV.S2) λ n=>by kernel_rfl
def vg:=Bb 3 Xx
def kt (m0 n:Nat):CV.A1:=λ x5=>ej SR n (.tail vg) 0 (mk [(4, .slw 10 0)] [(10,some (.arr AX x5 false))]) cv
theorem Ykn (m0:Nat):∀ n,kt m0 n=CV.t1 n:=ind rfl λ n _=>(show _=CV.S1 (Zra m0 n n) from by kernel_rfl).trans (by rw [Yjn m0 n n];rfl)
def Yln (m0:Nat):=BJ SR m0 vg 0 cv
def Ymn (m0:Nat):=BA 0 (Yln m0)
def Zy8:=Bz 2 (By (BM (Bb 2 Xx)))
def Zsa (m0 n:Nat):CV.A0:=λ x1 x2 x3=>ej SR n (.loop Zy8) 0 (mk [(0, .dat Bi x1 []),(4, .slw 10 0),(5, .dat AX x2 [])] [(10,some (.arr AX x3 false))]) (Ymn m0)
theorem Ynn (m0:Nat):∀ n,Zsa m0 n=CV.l0 (kt m0 m0) n:=BR (S:=CV.S0 (kt m0 m0)) λ n=>by kernel_rfl
abbrev Zta:=AM.spec [.val Bi] [(Bi,[]),(AX,[])] λ x=>CV x.1
theorem Yx7:Bh prog 267 Zta:=B9 Bo (fn:=f267) (λ m x=>show run SR Xx m x cv=CV.S (Zsa m m) x.1 from by kernel_rfl) (λ x=>by rw [Ynn fu fu,Ykn fu fu];rfl) (Bn ⟨⟨Yv7,call281,λ _=>Bj rfl⟩,⟨⟨Yw7,call282,λ _=>Bj rfl⟩,trivial⟩⟩)
abbrev cw:=BY.env (AM.look [(148,bm)]) ⟨[(0,⟨tt [3,6,7,8],[]⟩)],[],[],⟨tt [2],[]⟩,[],[148],[],[]⟩
def mT:=bd f202
abbrev Zyj:=fin cw [.tmp 2] [] [(AX,[])]
def Zz8:=Bb 3 mT
def Yon (m0:Nat):=BJ cw m0 Zz8 0 Zyj
def Ypn (m0:Nat):=BA 0 (Yon m0)
def Za9:=Bz 2 (By (BM (Bb 2 mT)))
def Zua (m0 n:Nat):Ez.A0:=λ x1 x2 x3 x4=>ej cw n (.loop Za9) 0 (mk [(3, .dat AX x1 []),(6, .dat Bi x2 []),(7, .dat AX x3 []),(8, .dat AX x4 [])] []) (Ypn m0)
theorem Yqn (m0:Nat):∀ n,Zua m0 n=Ez.l0 n:=BR (S:=Ez.S0) λ n=>by kernel_rfl
abbrev Rm:=AM.spec [.val Bi] [(AX,[])] λ x=>Ez x.1
theorem SS:Bh prog 202 Rm:=B9 Bo (fn:=f202) (λ m x=>show run cw mT m x Zyj=Ez.S (Zua m m) x.1 from by kernel_rfl) (λ x=>by rw [Yqn fu fu];rfl) (Bn ⟨⟨mK,call148,λ _=>Bj rfl⟩,trivial⟩)
abbrev Rz:=BY.env (AM.look [(202,Rm),(241,kj),(186,W0)]) ⟨[(0,⟨tt [1,6,7,8,37,38,39],[]⟩),(2,⟨tt [1,6,7,8,11,12,37,38,39],[]⟩)],[],[(20,⟨tt [6,7,8],[]⟩)],⟨tt [4,5],[]⟩,[],[186,202,241],[],[]⟩
def mU:=bd f234
abbrev mV:=fin Rz [.tmp 4, .tmp 5] [] [(.str,[]),(AX,[])]
def vh:=Bb 6 mU
def ku (m0 n:Nat):CC.A2:=λ C4 DO Dy=>ej Rz n (.tail vh) 0 (mk [(6, .dat (.sl (.int .u8)) C4 [⟨0,385,0,0⟩]),(7, .dat (.int .u64) DO []),(8, .dat AX Dy [])] []) mV
theorem Yrn (m0:Nat):∀ n,ku m0 n=CC.t2 n:=ind rfl λ n _=>by kernel_rfl
def Ysn (m0:Nat):=BJ Rz m0 vh 0 mV
def xE (m0:Nat):=BA 0 (Ysn m0)
def aj:=Bz 2 (By (BM (Bb 5 mU)))
def bo (m0 n:Nat):CC.A0:=λ x3 x4 x5 x6 x7 x8 x9=>ej Rz n (.loop aj) 0 (mk [(1, .dat AX x3 []),(6, .dat (.sl (.int .u8)) x4 [⟨0,385,0,0⟩]),(7, .dat (.int .u64) x5 []),(8, .dat AX x6 []),(37, .dat Bi x7 []),(38, .dat AX x8 []),(39, .dat AX x9 [])] []) (xE m0)
def Ytn (m0 m1:Nat):=Mp Rz m1 aj 0 (xE m0)
def Zb9:=Bb 3 aj
def Yun (m0 m1:Nat):=BJ Rz m1 Zb9 0 (Ytn m0 m1)
def Yvn (m0 m1:Nat):=BA 1 (Yun m0 m1)
def Ywn (m0 m1:Nat):=BA 2 (Yvn m0 m1)
def Zc9:=Bz 2 (Bb 2 (Bz 2 (Bb 2 aj)))
def Zva (m0 m1 n:Nat):CC.A1:=λ Bl BI B0 BS B2 Cy Ct Dt DP=>ej Rz n (.loop Zc9) 2 (mk [(1, .dat AX Bl []),(6, .dat (.sl (.int .u8)) BI [⟨0,385,0,0⟩]),(7, .dat (.int .u64) B0 []),(8, .dat AX BS []),(11, .dat (.int .u64) B2 []),(12, .dat AX Cy []),(37, .dat Bi Ct []),(38, .dat AX Dt []),(39, .dat AX DP [])] []) (Ywn m0 m1)
theorem Yxn (m0 m1:Nat):∀ n,Zva m0 m1 n=CC.l1 (bo m0 m1) n:=BR (S:=CC.S1 (bo m0 m1)) λ n=>by kernel_rfl
theorem Yyn (m0:Nat):∀ n,bo m0 n=CC.l0 (ku m0 m0) n:=ind rfl λ n e0=>(show _=CC.S0 (ku m0 m0) (Zva m0 n n) from by kernel_rfl).trans (by rw [Yxn m0 n n,e0];rfl)
abbrev UR:=AM.spec [.val Bi, .val AX] [(.str,[]),(AX,[])] λ x=>CC x.1 x.2.1
theorem Xy:Bh prog 234 UR:=B9 Bo (fn:=f234) (λ m x=>show run Rz mU m x mV=CC.S (bo m m) x.1 x.2.1 from by kernel_rfl) (λ x=>by rw [Yyn fu fu,Yrn fu fu];rfl) (Bn ⟨⟨SS,call202,λ _=>Bj rfl⟩,⟨⟨Zkj,call241,λ _=>Bj rfl⟩,⟨⟨bI,call186,λ _=>Bj rfl⟩,trivial⟩⟩⟩)
abbrev kv:=AM.spec [.val Bi] [(.str,[]),(AX,[])] λ x=>Ut x.1
theorem Zzj:Bh prog 254 kv:=Ck Bo (fn:=f254) (lk:=(AM.look [(263,SI),(267,Zta),(202,Rm),(234,UR)])) (ks:=⟨[],[],[],⟨tt [2,3],[]⟩,[],[202,234,263],[],[47]⟩) (ts:=[.tmp 2, .tmp 3]) (λ _=>by kernel_rfl) (Bn ⟨⟨U5,call263,λ _=>Bj rfl⟩,⟨⟨Yx7,call267,nw⟩,⟨⟨SS,call202,λ _=>Bj rfl⟩,⟨⟨Xy,call234,λ _=>Bj rfl⟩,trivial⟩⟩⟩⟩)
abbrev U6:=BY.env (AM.look [(252,Zka),(201,UQ),(253,Zla),(254,kv)]) ⟨[(0,⟨tt [0,6,8,10,54,55,56],tt [8]⟩)],[],[(8,⟨tt [0,1,6,7,8,9],tt [7,8]⟩),(20,⟨tt [0,6,8],tt [8]⟩)],⟨tt [4,5],[]⟩,[24],[252,253,254],[],[]⟩
def cx:=bd f225
abbrev cy:=fin U6 [.tmp 4, .tmp 5] [] [(Bi,[⟨0,1,0,1⟩]),(AX,[])]
def vk:=Bb 7 cx
def bp (m0 n:Nat):BV.A2:=λ DP CX C4=>ej U6 n (.tail vk) 0 (mk [(0, .dat .str DP []),(6, .dat Bi CX [⟨0,385,0,1⟩]),(8, .ptr 8 0 0)] [(8,some (.var .bool C4 []))]) cy
theorem Yzn (m0 m1:Nat):∀ n,bp m0 n=BV.t2 n:=ind rfl λ n _=>by kernel_rfl
def Yao (m0 m1:Nat):=BJ U6 m1 vk 0 cy
def Ybo (m0 m1:Nat):=BA 0 (Yao m0 m1)
def Zd9:=Bz 2 (Bb 5 (BM (By (BM (Bb 6 cx)))))
def Zwa (m0 m1 n:Nat):BV.A1:=λ x9 Bl BI B0 BS B2 Cy=>ej U6 n (.loop Zd9) 0 (mk [(0, .dat .str x9 []),(6, .dat Bi Bl [⟨0,385,0,1⟩]),(8, .ptr 8 0 0),(10, .dat AX BI []),(54, .dat Bi B0 []),(55, .dat AX BS []),(56, .dat AX B2 [])] [(8,some (.var .bool Cy []))]) (Ybo m0 m1)
theorem Yco (m0 m1:Nat):∀ n,Zwa m0 m1 n=BV.l1 (bp m0 m1) n:=BR (S:=BV.S1 (bp m0 m1)) λ n=>by kernel_rfl
def Ze9:=Bb 6 cx
def Zxa (m0 n:Nat):BV.A0:=λ x2 x3 x4 x5 x6=>ej U6 n (.tail Ze9) 0 (mk [(0, .dat .str x2 []),(1, .dat AX x3 []),(6, .dat Bi x4 [⟨0,385,0,1⟩]),(7, .ptr 7 0 0),(8, .ptr 8 0 0),(9, .clo 252 [(7,0),(8,0)])] [(7,some (.var .str x5 [])),(8,some (.var .bool x6 []))]) cy
theorem Ydo (m0:Nat):∀ n,Zxa m0 n=BV.t0 n:=ind rfl λ n _=>(show _=BV.S0 (Zwa m0 n n) (bp m0 n) from by kernel_rfl).trans (by rw [Yco m0 n n,Yzn m0 n n];rfl)
abbrev Zya:=AM.spec [.val .str, .val AX] [(Bi,[⟨0,1,0,1⟩]),(AX,[])] λ x=>BV x.1 x.2.1
theorem Yy7:Bh prog 225 Zya:=B9 Bo (fn:=f225) (λ m x=>show run U6 cx m x cy=BV.S (Zxa m m) x.1 x.2.1 from by kernel_rfl) (λ x=>by rw [Ydo fu fu];rfl) (Bn ⟨⟨Yt7,call252,λ _=>Yhf rfl⟩,⟨⟨Xt,call201,nw⟩,⟨⟨Yu7,call253,λ _=>Bj rfl⟩,⟨⟨Zzj,call254,λ _=>Bj rfl⟩,trivial⟩⟩⟩⟩)
abbrev Zza:=AM.spec [.val .str] [(AX,[]),(AX,[])] λ x=>T9 x.1
theorem Yz7:Bh prog 156 Zza:=Ck Bo (fn:=f156) (lk:=(AM.look [(150,SH)])) (ks:=⟨[],[],[],⟨tt [2,3],[]⟩,[],[150],[],[]⟩) (ts:=[.tmp 2, .tmp 3]) (λ _=>by kernel_rfl) (Bn ⟨⟨U3,call150,λ _=>Bj rfl⟩,trivial⟩)
abbrev cz:=BY.env (AM.look []) (kq [(0,⟨tt [0,1,7,8],[]⟩)] [] [4])
def mW:=bd f243
abbrev Zak:=fin cz [.tmp 4] [] [(AX,[])]
def Zf9:=Bb 2 mW
def Yeo (m0:Nat):=BJ cz m0 Zf9 0 Zak
def Yfo (m0:Nat):=BA 0 (Yeo m0)
def Zg9:=Bz 2 (By (BM (By mW)))
def Zab (m0 n:Nat):FA.A0:=λ x1 x2 x3 x4=>ej cz n (.loop Zg9) 0 (mk [(0, .dat (.sl .bool) x1 []),(1, .dat .bool x2 []),(7, .dat AX x3 []),(8, .dat AX x4 [])] []) (Yfo m0)
theorem Ygo (m0:Nat):∀ n,Zab m0 n=FA.l0 n:=BR (S:=FA.S0) λ n=>by kernel_rfl
abbrev Zbb:=AM.spec [.val (.sl .bool), .val .bool] [(AX,[])] λ x=>FA x.1 x.2.1
theorem Ya8:Bh prog 243 Zbb:=B9 Bo (fn:=f243) (λ m x=>show run cz mW m x Zak=FA.S (Zab m m) x.1 x.2.1 from by kernel_rfl) (λ x=>by rw [Ygo fu fu];rfl) (Bn trivial)
abbrev kx:=AM.spec [.val (.sl .bool), .val .bool] [(.bool,[])] λ x=>PF x.1 x.2.1
theorem Zbk:Bh prog 203 kx:=Ck Bo (fn:=f203) (lk:=(AM.look [(243,Zbb)])) (ks:=⟨[],[],[],⟨tt [4],[]⟩,[],[243],[],[]⟩) (ts:=[.tmp 4]) (λ _=>by kernel_rfl) (Bn ⟨⟨Ya8,call243,λ _=>Bj rfl⟩,trivial⟩)
abbrev RA:=BY.env (AM.look [(150,SH),(156,Zza),(202,Rm),(201,UQ),(203,kx)]) ⟨[(0,⟨tt [0,1,2,9,10,12,47,48],[]⟩),(2,⟨tt [9,12,16,17,98,99,100],tt [97]⟩)],[],[(20,⟨tt [0,1,9,10,12],[]⟩),(31,⟨tt [12,16,17],tt [97]⟩)],⟨tt [6,7,8],[]⟩,[17,97,111,115],[150,156,202,203],[],[89]⟩
def Xz:=bd f155
abbrev XA:=fin RA [.tmp 6, .tmp 7, .tmp 8] [] [(Bi,[⟨0,1,0,1⟩]),(Bi,[]),(AX,[])]
def vl:=Bb 11 Xz
def ky (m0 n:Nat):BZ.A3:=λ FX Ht JI=>ej RA n (.tail vl) 0 (mk [(12, .dat Bi FX [⟨0,769,0,1⟩]),(16, .dat Bi Ht []),(17, .slw 97 0)] [(97,some (.arr .bool JI false))]) XA
theorem Yho (m0 m1:Nat):∀ n,ky m0 n=BZ.t3 n:=ind rfl λ n _=>by kernel_rfl
def Yio (m0 m1:Nat):=BJ RA m1 vl 0 XA
def Yjo (m0 m1:Nat):=BA 2 (Yio m0 m1)
def Zh9:=Bz 2 (By (BM (Bb 10 Xz)))
def Zcb (m0 m1 n:Nat):BZ.A2:=λ Dt DP CX C4 DO Dy Fm=>ej RA n (.loop Zh9) 2 (mk [(9, .dat AX Dt []),(12, .dat Bi DP [⟨0,769,0,1⟩]),(16, .dat Bi CX []),(17, .slw 97 0),(98, .dat Bi C4 []),(99, .dat AX DO []),(100, .dat AX Dy [])] [(97,some (.arr .bool Fm false))]) (Yjo m0 m1)
theorem Yko (m0 m1:Nat):∀ n,Zcb m0 m1 n=BZ.l2 (ky m0 m1) n:=BR (S:=BZ.S2 (ky m0 m1)) λ n=>by kernel_rfl
def vm:=Bb 7 Xz
def kA (m0 n:Nat):BZ.A1:=λ Bl BI B0 BS B2=>ej RA n (.tail vm) 0 (mk [(0, .dat .str Bl []),(1, .dat AX BI []),(9, .dat AX B0 []),(10, .dat AX BS []),(12, .dat Bi B2 [⟨0,769,0,1⟩])] []) XA
theorem Ylo (m0:Nat):∀ n,kA m0 n=BZ.t1 n:=ind rfl λ n _=>(show _=BZ.S1 (Zcb m0 n n) from by kernel_rfl).trans (by rw [Yko m0 n n,Yho m0 n n];rfl)
def Ymo (m0:Nat):=BJ RA m0 vm 0 XA
def Yno (m0:Nat):=BA 0 (Ymo m0)
def Zi9:=Bz 2 (By (BM (Bb 6 Xz)))
def Zdb (m0 n:Nat):BZ.A0:=λ x2 x3 x4 x5 x6 x7 x8=>ej RA n (.loop Zi9) 0 (mk [(0, .dat .str x2 []),(1, .dat AX x3 []),(2, .fn 156 []),(9, .dat AX x4 []),(10, .dat AX x5 []),(12, .dat Bi x6 [⟨0,769,0,1⟩]),(47, .dat AX x7 []),(48, .dat AX x8 [])] []) (Yno m0)
theorem Yoo (m0:Nat):∀ n,Zdb m0 n=BZ.l0 (kA m0 m0) n:=BR (S:=BZ.S0 (kA m0 m0)) λ n=>by kernel_rfl
abbrev Zeb:=AM.spec [.val .str, .val AX, .fn 156 []] [(Bi,[⟨0,1,0,1⟩]),(Bi,[]),(AX,[])] λ x=>BZ x.1 x.2.1
theorem Yb8:Bh prog 155 Zeb:=B9 Bo (fn:=f155) (λ m x=>show run RA Xz m x XA=BZ.S (Zdb m m) x.1 x.2.1 from by kernel_rfl) (λ x=>by rw [Yoo fu fu,Ylo fu fu];rfl) (Bn ⟨⟨U3,call150,λ _=>Bj rfl⟩,⟨⟨Yz7,call156,λ _=>Bj rfl⟩,⟨⟨SS,call202,λ _=>Bj rfl⟩,⟨⟨Xt,call201,nw⟩,⟨⟨Zbk,call203,λ _=>Bj rfl⟩,trivial⟩⟩⟩⟩⟩)
abbrev cA:=BY.env (AM.look []) (kq [(0,⟨tt [0,5,8,9,10],[]⟩)] [] [4])
def mX:=bd f157
abbrev Zck:=fin cA [.tmp 4] [] [(Bi,[⟨0,1,0,1⟩])]
def Zj9:=Bb 3 mX
def Ypo (m0:Nat):=BJ cA m0 Zj9 0 Zck
def Yqo (m0:Nat):=BA 0 (Ypo m0)
def Zk9:=Bz 2 (By (BM (Bb 2 mX)))
def Zfb (m0 n:Nat):FD.A0:=λ x1 x2 x3 x4 x5=>ej cA n (.loop Zk9) 0 (mk [(0, .dat Bi x1 []),(5, .dat Bi x2 [⟨0,321,0,1⟩]),(8, .dat Bi x3 []),(9, .dat AX x4 []),(10, .dat AX x5 [])] []) (Yqo m0)
theorem Yro (m0:Nat):∀ n,Zfb m0 n=FD.l0 n:=BR (S:=FD.S0) λ n=>by kernel_rfl
abbrev Zgb:=AM.spec [.val Bi, .val Bi] [(Bi,[⟨0,1,0,1⟩])] λ x=>FD x.1 x.2.1
theorem Yc8:Bh prog 157 Zgb:=B9 Bo (fn:=f157) (λ m x=>show run cA mX m x Zck=FD.S (Zfb m m) x.1 x.2.1 from by kernel_rfl) (λ x=>by rw [Yro fu fu];rfl) (Bn trivial)
abbrev lK:=AM.spec [.val .str, .val AX] [(Bi,[⟨0,1,0,1⟩]),(AX,[])] λ x=>QZ x.1 x.2.1
theorem Zjn:Bh prog 94 lK:=Ck Bo (fn:=f94) (lk:=(AM.look [(155,Zeb),(157,Zgb)])) (ks:=(kz [4,5])) (ts:=[.tmp 4, .tmp 5]) (λ _=>by kernel_rfl) (Bn ⟨⟨Yb8,call155,nw⟩,⟨⟨Yc8,call157,nw⟩,trivial⟩⟩)
abbrev Zhb:=AM.spec [.val .str, .val AX, .val AX] [(Bi,[]),(AX,[])] λ x=>PO x.1 x.2.1 x.2.2.1
theorem Yd8:Bh prog 189 Zhb:=Ck Bo (fn:=f189) (lk:=(AM.look [(223,z6),(89,bL),(224,ko),(225,Zya),(94,lK),(201,UQ)])) (ks:=(kz [6,7])) (ts:=[.tmp 6, .tmp 7]) (λ _=>by kernel_rfl) (Bn ⟨⟨Yn7,call223,nw⟩,⟨⟨oy,call89,nw⟩,⟨⟨Zxj,call224,nw⟩,⟨⟨Yy7,call225,nw⟩,⟨⟨Zjn,call94,nw⟩,⟨⟨Xt,call201,nw⟩,trivial⟩⟩⟩⟩⟩⟩)
abbrev XB:=BY.env (AM.look []) (kq [(0,⟨tt [0,1,6],[]⟩)] [(8,⟨tt [1,6],[]⟩)] [4,5])
def mY:=bd f226
abbrev mZ:=fin XB [.tmp 4, .tmp 5] [] [(Cq,[⟨0,1,0,1⟩]),(AX,[])]
def vn:=Bb 3 mY
def kB (m0 n:Nat):Dm.A1:=λ x4 x5=>ej XB n (.tail vn) 0 (mk [(1, .dat AX x4 []),(6, .dat Cq x5 [⟨0,385,0,1⟩])] []) mZ
theorem Yso (m0:Nat):∀ n,kB m0 n=Dm.t1 n:=ind rfl λ n _=>by kernel_rfl
def Yto (m0:Nat):=BJ XB m0 vn 0 mZ
def Yuo (m0:Nat):=BA 0 (Yto m0)
def Zl9:=Bz 3 (Bb 2 mY)
def Zib (m0 n:Nat):Dm.A0:=λ x1 x2 x3=>ej XB n (.loop Zl9) 0 (mk [(0, .dat .str x1 []),(1, .dat AX x2 []),(6, .dat Cq x3 [⟨0,385,0,1⟩])] []) (Yuo m0)
theorem Yvo (m0:Nat):∀ n,Zib m0 n=Dm.l0 (kB m0 m0) n:=BR (S:=Dm.S0 (kB m0 m0)) λ n=>by kernel_rfl
abbrev Zjb:=AM.spec [.val .str, .val AX] [(Cq,[⟨0,1,0,1⟩]),(AX,[])] λ x=>Dm x.1 x.2.1
theorem Ye8:Bh prog 226 Zjb:=B9 Bo (fn:=f226) (λ m x=>show run XB mY m x mZ=Dm.S (Zib m m) x.1 x.2.1 from by kernel_rfl) (λ x=>by rw [Yvo fu fu,Yso fu fu];rfl) (Bn trivial)
abbrev SU:=BY.env (AM.look [(150,SH),(89,bL),(224,ko)]) ⟨[(0,⟨tt [0,1,6,7,9,37,38],[]⟩),(2,⟨tt [6,9,13,91,92,93],[]⟩)],[],[(17,⟨tt [0,1,6,7,9],[]⟩)],⟨tt [4,5],[]⟩,[],[150],[],[]⟩
def XC:=bd f227
abbrev cB:=fin SU [.tmp 4, .tmp 5] [] [(Cq,[⟨0,1,0,1⟩]),(AX,[])]
def Zm9:=Bb 12 XC
def Ywo (m0 m1:Nat):=BJ SU m1 Zm9 0 cB
def Yxo (m0 m1:Nat):=BA 2 (Ywo m0 m1)
def Zn9:=Bz 2 (By (BM (Bb 11 XC)))
def Zkb (m0 m1 n:Nat):Co.A2:=λ Ct Dt DP CX C4 DO=>ej SU n (.loop Zn9) 2 (mk [(6, .dat AX Ct []),(9, .dat Cq Dt [⟨0,577,0,1⟩]),(13, .dat Cq DP [⟨0,833,0,1⟩]),(91, .dat Bi CX [⟨0,5825,0,1⟩]),(92, .dat AX C4 []),(93, .dat AX DO [])] []) (Yxo m0 m1)
theorem Yyo (m0 m1:Nat):∀ n,Zkb m0 m1 n=Co.l2 n:=BR (S:=Co.S2) λ n=>by kernel_rfl
def vo:=Bb 6 XC
def kC (m0 n:Nat):Co.A1:=λ x9 Bl BI B0 BS=>ej SU n (.tail vo) 0 (mk [(0, .dat .str x9 []),(1, .dat AX Bl []),(6, .dat AX BI []),(7, .dat AX B0 []),(9, .dat Cq BS [⟨0,577,0,1⟩])] []) cB
theorem Yzo (m0:Nat):∀ n,kC m0 n=Co.t1 n:=ind rfl λ n _=>(show _=Co.S1 (Zkb m0 n n) from by kernel_rfl).trans (by rw [Yyo m0 n n];rfl)
def Yap (m0:Nat):=BJ SU m0 vo 0 cB
def Ybp (m0:Nat):=BA 0 (Yap m0)
def Zo9:=Bz 2 (By (BM (Bb 5 XC)))
def Zlb (m0 n:Nat):Co.A0:=λ x2 x3 x4 x5 x6 x7 x8=>ej SU n (.loop Zo9) 0 (mk [(0, .dat .str x2 []),(1, .dat AX x3 []),(6, .dat AX x4 []),(7, .dat AX x5 []),(9, .dat Cq x6 [⟨0,577,0,1⟩]),(37, .dat AX x7 []),(38, .dat AX x8 [])] []) (Ybp m0)
theorem Ycp (m0:Nat):∀ n,Zlb m0 n=Co.l0 (kC m0 m0) n:=BR (S:=Co.S0 (kC m0 m0)) λ n=>by kernel_rfl
abbrev Zmb:=AM.spec [.val .str, .val AX] [(Cq,[⟨0,1,0,1⟩]),(AX,[])] λ x=>Co x.1 x.2.1
theorem Yf8:Bh prog 227 Zmb:=B9 Bo (fn:=f227) (λ m x=>show run SU XC m x cB=Co.S (Zlb m m) x.1 x.2.1 from by kernel_rfl) (λ x=>by rw [Ycp fu fu,Yzo fu fu];rfl) (Bn ⟨⟨U3,call150,λ _=>Bj rfl⟩,⟨⟨oy,call89,nw⟩,⟨⟨Zxj,call224,nw⟩,trivial⟩⟩⟩)
abbrev Znb:=AM.spec [.val .str] [(.str,[]),(AX,[])] λ x=>Ub x.1
theorem Yg8:Bh prog 154 Znb:=Ck Bo (fn:=f154) (lk:=(AM.look [])) (ks:=(kz [2,3])) (ts:=[.tmp 2, .tmp 3]) (λ _=>by kernel_rfl) (Bn trivial)
abbrev RB:=BY.env (AM.look [(150,SH),(154,Znb),(202,Rm),(201,UQ),(203,kx)]) ⟨[(0,⟨tt [0,1,2,9,10,12,47,48],[]⟩),(2,⟨tt [9,12,16,17,98,99,100],tt [97]⟩)],[],[(20,⟨tt [0,1,9,10,12],[]⟩),(31,⟨tt [12,16,17],tt [97]⟩)],⟨tt [6,7,8],[]⟩,[17,97,111,115],[150,154,202,203],[],[89]⟩
def XD:=bd f153
abbrev XE:=fin RB [.tmp 6, .tmp 7, .tmp 8] [] [(Cq,[⟨0,1,0,1⟩]),(Bi,[]),(AX,[])]
def vp:=Bb 11 XD
def kD (m0 n:Nat):BX.A3:=λ FX Ht JI=>ej RB n (.tail vp) 0 (mk [(12, .dat Cq FX [⟨0,769,0,1⟩]),(16, .dat Bi Ht []),(17, .slw 97 0)] [(97,some (.arr .bool JI false))]) XE
theorem Ydp (m0 m1:Nat):∀ n,kD m0 n=BX.t3 n:=ind rfl λ n _=>by kernel_rfl
def Yep (m0 m1:Nat):=BJ RB m1 vp 0 XE
def Yfp (m0 m1:Nat):=BA 2 (Yep m0 m1)
def Zp9:=Bz 2 (By (BM (Bb 10 XD)))
def Zob (m0 m1 n:Nat):BX.A2:=λ Dt DP CX C4 DO Dy Fm=>ej RB n (.loop Zp9) 2 (mk [(9, .dat AX Dt []),(12, .dat Cq DP [⟨0,769,0,1⟩]),(16, .dat Bi CX []),(17, .slw 97 0),(98, .dat Bi C4 []),(99, .dat AX DO []),(100, .dat AX Dy [])] [(97,some (.arr .bool Fm false))]) (Yfp m0 m1)
theorem Ygp (m0 m1:Nat):∀ n,Zob m0 m1 n=BX.l2 (kD m0 m1) n:=BR (S:=BX.S2 (kD m0 m1)) λ n=>by kernel_rfl
def vq:=Bb 7 XD
def kE (m0 n:Nat):BX.A1:=λ Bl BI B0 BS B2=>ej RB n (.tail vq) 0 (mk [(0, .dat .str Bl []),(1, .dat AX BI []),(9, .dat AX B0 []),(10, .dat AX BS []),(12, .dat Cq B2 [⟨0,769,0,1⟩])] []) XE
theorem Yhp (m0:Nat):∀ n,kE m0 n=BX.t1 n:=ind rfl λ n _=>(show _=BX.S1 (Zob m0 n n) from by kernel_rfl).trans (by rw [Ygp m0 n n,Ydp m0 n n];rfl)
def Yip (m0:Nat):=BJ RB m0 vq 0 XE
def Yjp (m0:Nat):=BA 0 (Yip m0)
def Zq9:=Bz 2 (By (BM (Bb 6 XD)))
def Zpb (m0 n:Nat):BX.A0:=λ x2 x3 x4 x5 x6 x7 x8=>ej RB n (.loop Zq9) 0 (mk [(0, .dat .str x2 []),(1, .dat AX x3 []),(2, .fn 154 []),(9, .dat AX x4 []),(10, .dat AX x5 []),(12, .dat Cq x6 [⟨0,769,0,1⟩]),(47, .dat AX x7 []),(48, .dat AX x8 [])] []) (Yjp m0)
theorem Ykp (m0:Nat):∀ n,Zpb m0 n=BX.l0 (kE m0 m0) n:=BR (S:=BX.S0 (kE m0 m0)) λ n=>by kernel_rfl
abbrev Zqb:=AM.spec [.val .str, .val AX, .fn 154 []] [(Cq,[⟨0,1,0,1⟩]),(Bi,[]),(AX,[])] λ x=>BX x.1 x.2.1
theorem Yh8:Bh prog 153 Zqb:=B9 Bo (fn:=f153) (λ m x=>show run RB XD m x XE=BX.S (Zpb m m) x.1 x.2.1 from by kernel_rfl) (λ x=>by rw [Ykp fu fu,Yhp fu fu];rfl) (Bn ⟨⟨U3,call150,λ _=>Bj rfl⟩,⟨⟨Yg8,call154,λ _=>Bj rfl⟩,⟨⟨SS,call202,λ _=>Bj rfl⟩,⟨⟨Xt,call201,nw⟩,⟨⟨Zbk,call203,λ _=>Bj rfl⟩,trivial⟩⟩⟩⟩⟩)
abbrev lH:=AM.spec [.val .str, .val AX] [(Cq,[⟨0,1,0,1⟩]),(Bi,[]),(AX,[])] λ x=>PI x.1 x.2.1
theorem Zen:Bh prog 93 lH:=Ck Bo (fn:=f93) (lk:=(AM.look [(153,Zqb)])) (ks:=(kz [4,5,6])) (ts:=[.tmp 4, .tmp 5, .tmp 6]) (λ _=>by kernel_rfl) (Bn ⟨⟨Yh8,call153,nw⟩,trivial⟩)
abbrev cD:=BY.env (AM.look []) (kq [(0,⟨tt [0,5,8,9,10],[]⟩)] [] [4])
def na:=bd f255
abbrev Zdk:=fin cD [.tmp 4] [] [(Cq,[⟨0,1,0,1⟩])]
def Zr9:=Bb 3 na
def Ylp (m0:Nat):=BJ cD m0 Zr9 0 Zdk
def Ymp (m0:Nat):=BA 0 (Ylp m0)
def Zs9:=Bz 2 (By (BM (Bb 2 na)))
def Zrb (m0 n:Nat):FC.A0:=λ x1 x2 x3 x4 x5=>ej cD n (.loop Zs9) 0 (mk [(0, .dat Cq x1 []),(5, .dat Cq x2 [⟨0,321,0,1⟩]),(8, .dat Bi x3 []),(9, .dat AX x4 []),(10, .dat AX x5 [])] []) (Ymp m0)
theorem Ynp (m0:Nat):∀ n,Zrb m0 n=FC.l0 n:=BR (S:=FC.S0) λ n=>by kernel_rfl
abbrev Zsb:=AM.spec [.val Cq, .val Bi] [(Cq,[⟨0,1,0,1⟩])] λ x=>FC x.1 x.2.1
theorem Yi8:Bh prog 255 Zsb:=B9 Bo (fn:=f255) (λ m x=>show run cD na m x Zdk=FC.S (Zrb m m) x.1 x.2.1 from by kernel_rfl) (λ x=>by rw [Ynp fu fu];rfl) (Bn trivial)
abbrev Ztb:=AM.spec [.val .str, .val AX] [(Cq,[⟨0,1,0,1⟩]),(AX,[])] λ x=>Ua x.1 x.2.1
theorem Yj8:Bh prog 228 Ztb:=Ck Bo (fn:=f228) (lk:=(AM.look [(93,lH),(255,Zsb)])) (ks:=(kz [4,5])) (ts:=[.tmp 4, .tmp 5]) (λ _=>by kernel_rfl) (Bn ⟨⟨Zen,call93,nw⟩,⟨⟨Yi8,call255,nw⟩,trivial⟩⟩)
abbrev Zub:=AM.spec [.val .str, .val AX, .val AX] [(Cq,[⟨0,1,0,1⟩]),(AX,[])] λ x=>Sm x.1 x.2.1 x.2.2.1
theorem Yk8:Bh prog 190 Zub:=Ck Bo (fn:=f190) (lk:=(AM.look [(226,Zjb),(227,Zmb),(228,Ztb)])) (ks:=(kz [6,7])) (ts:=[.tmp 6, .tmp 7]) (λ _=>by kernel_rfl) (Bn ⟨⟨Ye8,call226,nw⟩,⟨⟨Yf8,call227,nw⟩,⟨⟨Yj8,call228,nw⟩,trivial⟩⟩⟩)
abbrev SV:=BY.env (AM.look [(189,Zhb),(190,Zub)]) (kq [(1,⟨tt [5,8,10,29,30,31],tt [5]⟩),(3,⟨tt [5,8,14,55,56,57],tt [5]⟩)] [] [6,7])
def U7:=bd f141
abbrev Zek:=fin SV [.tmp 6, .tmp 7] [] [(CQ,[⟨0,1,0,3⟩]),(AX,[])]
def Zt9:=Bb 3 U7
def Yop (m0:Nat):=BJ SV m0 Zt9 0 Zek
def xF (m0:Nat):=BA 0 (Yop m0)
def Zu9:=Bb 2 (BM (By (BM (By (BM (Bb 2 U7))))))
def Ypp (m0:Nat):=BJ SV m0 Zu9 0 (xF m0)
def Yqp (m0:Nat):=BA 1 (Ypp m0)
def Zv9:=Bz 2 (By (BM (By (BM (By (BM (By (BM (Bb 2 U7)))))))))
def Zvb (m0 n:Nat):CO.A0:=λ x2 x3 x4 x5 x6 x7=>ej SV n (.loop Zv9) 1 (mk [(5, .ptr 5 0 0),(8, .dat CQ x2 [⟨0,513,0,3⟩]),(10, .dat AX x3 []),(29, .dat Bi x4 []),(30, .dat AX x5 []),(31, .dat AX x6 [])] [(5,some (.var Pm x7 []))]) (Yqp m0)
theorem Yrp (m0:Nat):∀ n,Zvb m0 n=CO.l0 n:=BR (S:=CO.S0) λ n=>by kernel_rfl
def Zw9:=Bb 2 (BM (Bb 3 (BM (By (BM (Bb 2 U7))))))
def Ysp (m0:Nat):=BJ SV m0 Zw9 0 (xF m0)
def Ytp (m0:Nat):=BA 3 (Ysp m0)
def Zx9:=Bz 2 (By (BM (By (BM (Bb 3 (BM (By (BM (Bb 2 U7)))))))))
def Zwb (m0 n:Nat):CO.A1:=λ x9 Bl BI B0 BS B2=>ej SV n (.loop Zx9) 3 (mk [(5, .ptr 5 0 0),(8, .dat CQ x9 [⟨0,513,0,3⟩]),(14, .dat AX Bl []),(55, .dat Cq BI [⟨0,3521,0,1⟩]),(56, .dat AX B0 []),(57, .dat AX BS [])] [(5,some (.var Pm B2 []))]) (Ytp m0)
theorem Yup (m0:Nat):∀ n,Zwb m0 n=CO.l1 n:=BR (S:=CO.S1) λ n=>by kernel_rfl
abbrev Zxb:=AM.spec [.val .str, .val AX, .val Pm] [(CQ,[⟨0,1,0,3⟩]),(AX,[])] λ x=>CO x.1 x.2.1 x.2.2.1
theorem Yl8:Bh prog 141 Zxb:=B9 Bo (fn:=f141) (λ m x=>show run SV U7 m x Zek=CO.S (Zvb m m) (Zwb m m) x.1 x.2.1 x.2.2.1 from by kernel_rfl) (λ x=>by rw [Yup fu fu,Yrp fu fu];rfl) (Bn ⟨⟨Yd8,call189,nw⟩,⟨⟨Yk8,call190,nw⟩,trivial⟩⟩)
abbrev bq:=AM.spec [.val ID] [(.bool,[])] λ x=>some (PQ x.1)
theorem nc:Bh prog 192 bq:=Ck Bo (fn:=f192) (lk:=(AM.look [])) (ks:=(kz [2])) (ts:=[.tmp 2]) (λ _=>by kernel_rfl) (Bn trivial)
abbrev bw:=BY.env (AM.look [(192,bq)]) ⟨[(0,⟨tt [0,1,7,8],[]⟩)],[],[],⟨tt [4],[]⟩,[],[192],[],[]⟩
def kF:=bd f229
abbrev Zyb:=fin bw [.tmp 4] [] [(AX,[])]
def Zy0:=Bb 2 kF
def Zy9 (m0:Nat):=BJ bw m0 Zy0 0 Zyb
def Zz9 (m0:Nat):=BA 0 (Zy9 m0)
def Zz0:=Bz 2 (By (BM (By kF)))
def xG (m0 n:Nat):Hx.A0:=λ x1 x2 x3=>ej bw n (.loop Zz0) 0 (mk [(0, .dat CQ x1 []),(1, .fn 192 []),(7, .dat AX x2 []),(8, .dat AX x3 [])] []) (Zz9 m0)
theorem Yaa (m0:Nat):∀ n,xG m0 n=Hx.l0 n:=BR (S:=Hx.S0) λ n=>by kernel_rfl
abbrev xH:=AM.spec [.val CQ, .fn 192 []] [(AX,[])] λ x=>Hx x.1
theorem Yy0:Bh prog 229 xH:=B9 Bo (fn:=f229) (λ m x=>show run bw kF m x Zyb=Hx.S (xG m m) x.1 from by kernel_rfl) (λ x=>by rw [Yaa fu fu];rfl) (Bn ⟨⟨nc,call192,λ _=>Bj rfl⟩,trivial⟩)
abbrev xI:=AM.spec [.val CQ, .fn 192 []] [(.bool,[])] λ x=>Zi x.1
theorem Yz0:Bh prog 191 xI:=Ck Bo (fn:=f191) (lk:=(AM.look [(229,xH)])) (ks:=⟨[],[],[],⟨tt [4],[]⟩,[],[229],[],[]⟩) (ts:=[.tmp 4]) (λ _=>by kernel_rfl) (Bn ⟨⟨Yy0,call229,λ _=>Bj rfl⟩,trivial⟩)
abbrev cE:=BY.env (AM.look [(188,kk),(140,km),(191,xI)]) ⟨[(0,⟨tt [2,8,12,42,43],tt [40]⟩)],[],[],⟨tt [6,7],tt [6,40]⟩,[6,12,40,41,51,60],[140,191],[],[]⟩
def nd:=bd f142
abbrev Zfk:=fin cE [.tmp 6, .tmp 7] [] [(CQ,[]),(AX,[])]
def Yba:=Bb 7 nd
def Yvp (m0:Nat):=BJ cE m0 Yba 0 Zfk
def Ywp (m0:Nat):=BA 0 (Yvp m0)
def Yca:=Bz 2 (By (BM (Bb 6 nd)))
def Zzb (m0 n:Nat):EK.A0:=λ x4 x5 x6 x7 x8=>ej cE n (.loop Yca) 0 (mk [(2, .dat CQ x4 []),(8, .dat Bi x5 []),(12, .slw 40 0),(42, .dat AX x6 []),(43, .dat AX x7 [])] [(40,some (.arr ID x8 false))]) (Ywp m0)
theorem Yxp (m0:Nat):∀ n,Zzb m0 n=EK.l0 n:=BR (S:=EK.S0) λ n=>by kernel_rfl
abbrev Zac:=AM.spec [.val .str, .val AX, .val CQ] [(CQ,[]),(AX,[])] λ x=>EK x.1 x.2.1 x.2.2.1
theorem Ym8:Bh prog 142 Zac:=B9 Bo (fn:=f142) (λ m x=>show run cE nd m x Zfk=EK.S (Zzb m m) x.1 x.2.1 x.2.2.1 from by kernel_rfl) (λ x=>by rw [Yxp fu fu];rfl) (Bn ⟨⟨Znj,call188,nw⟩,⟨⟨Zpj,call140,λ _=>Bj rfl⟩,⟨⟨Yz0,call191,λ _=>Bj rfl⟩,trivial⟩⟩⟩)
abbrev lC:=AM.spec [.val ID] [(AX,[])] λ x=>some (Fp x.1)
theorem Zum:Bh prog 88 lC:=Ck Bo (fn:=f88) (lk:=(AM.look [])) (ks:=(kz [2])) (ts:=[.tmp 2]) (λ x=>(show _=Fp.o x.1 from by kernel_rfl).trans (by unfold Fp.o Fp;simp only [Na])) (Bn trivial)
abbrev Zbc:=AM.spec [.val ID, .ref AX] [(.bool,[])] λ x=>some (LR x.1 x.2.1)
theorem Yn8:Bh prog 230 Zbc:=Ck Bo (fn:=f230) (lk:=(AM.look [(88,lC)])) (ks:=⟨[],[],[],⟨tt [3],[]⟩,[],[88],[],[]⟩) (ts:=[.tmp 3]) (λ x=>(show _=LR.o x.1 x.2.1 from by kernel_rfl).trans (by unfold LR.o LR;simp only [Na])) (Bn ⟨⟨Zum,call88,λ _=>Bj rfl⟩,trivial⟩)
abbrev bz:=BY.env (AM.look [(230,Zbc)]) ⟨[(0,⟨tt [0,1,7,8],[]⟩)],[],[],⟨tt [4],[]⟩,[],[230],[],[]⟩
def kG:=bd f229
abbrev Zcc:=fin bz [.tmp 4] [] [(AX,[])]
def Za1:=Bb 2 kG
def Yda (m0:Nat):=BJ bz m0 Za1 0 Zcc
def Yea (m0:Nat):=BA 0 (Yda m0)
def Zb1:=Bz 2 (By (BM (By kG)))
def xJ (m0 n:Nat):Hw.A0:=λ x1 x2 x3 x4=>ej bz n (.loop Zb1) 0 (mk [(0, .dat CQ x1 []),(1, .fn 230 [⟨AX,x2,[]⟩]),(7, .dat AX x3 []),(8, .dat AX x4 [])] []) (Yea m0)
theorem Yfa (m0:Nat):∀ n,xJ m0 n=Hw.l0 n:=BR (S:=Hw.S0) λ n=>by kernel_rfl
abbrev xK:=AM.spec [.val CQ, .fn 230 [AX]] [(AX,[])] λ x=>Hw x.1 x.2.1.1
theorem Ya1:Bh prog 229 xK:=B9 Bo (fn:=f229) (λ m x=>show run bz kG m x Zcc=Hw.S (xJ m m) x.1 x.2.1.1 from by kernel_rfl) (λ x=>by rw [Yfa fu fu];rfl) (Bn ⟨⟨Yn8,call230,λ _=>Bj rfl⟩,trivial⟩)
abbrev xL:=AM.spec [.val CQ, .fn 230 [AX]] [(.bool,[])] λ x=>V8 x.1 x.2.1.1
theorem Yb1:Bh prog 191 xL:=Ck Bo (fn:=f191) (lk:=(AM.look [(229,xK)])) (ks:=⟨[],[],[],⟨tt [4],[]⟩,[],[229],[],[]⟩) (ts:=[.tmp 4]) (λ _=>by kernel_rfl) (Bn ⟨⟨Ya1,call229,λ _=>Bj rfl⟩,trivial⟩)
abbrev Zdc:=AM.spec [.val CQ, .val AX] [(.bool,[])] λ x=>Uu x.1 x.2.1
theorem Yo8:Bh prog 193 Zdc:=Ck Bo (fn:=f193) (lk:=(AM.look [(191,xL)])) (ks:=⟨[],[],[],⟨tt [4],[]⟩,[],[191],[],[]⟩) (ts:=[.tmp 4]) (λ _=>by kernel_rfl) (Bn ⟨⟨Yb1,call191,λ _=>Bj rfl⟩,trivial⟩)
abbrev kH:=AM.spec [.val ID] [(.bool,[])] λ x=>some (Wc x.1)
theorem Zgk:Bh prog 233 kH:=Ck Bo (fn:=f233) (lk:=(AM.look [(192,bq)])) (ks:=⟨[],[],[],⟨tt [2],[]⟩,[],[192],[],[]⟩) (ts:=[.tmp 2]) (λ _=>by kernel_rfl) (Bn ⟨⟨nc,call192,λ _=>Bj rfl⟩,trivial⟩)
abbrev bA:=BY.env (AM.look [(233,kH)]) ⟨[(0,⟨tt [0,1,7,8],tt [1000000]⟩)],[],[],⟨tt [4],tt [1000000]⟩,[],[233],[],[]⟩
def kI:=bd f229
abbrev Zec:=fin bA [.tmp 4] [.ioa ID] [(AX,[]),(CQ,[])]
def Zc1:=Bb 2 kI
def Yga (m0:Nat):=BJ bA m0 Zc1 0 Zec
def Yha (m0:Nat):=BA 0 (Yga m0)
def Zd1:=Bz 2 (By (BM (By kI)))
def xM (m0 n:Nat):Hd.A0:=λ x1 x2 x3=>ej bA n (.loop Zd1) 0 (mk [(0, .slw 1000000 0),(1, .fn 233 []),(7, .dat AX x1 []),(8, .dat AX x2 [])] [(1000000,some (.arr ID x3 false))]) (Yha m0)
theorem Yia (m0:Nat):∀ n,xM m0 n=Hd.l0 n:=BR (S:=Hd.S0) λ n=>by kernel_rfl
abbrev xN:=AM.Hm 1 [.ioa ID, .fn 233 []] [(AX,[]),(CQ,[])] λ x=>Hd x.1
theorem Yc1:Bh prog 229 xN:=S9 Bo (fn:=f229) (ts:=[.tmp 4]) (λ m x=>show run bA kI m x Zec=Hd.S (xM m m) x.1 from by kernel_rfl) (λ x=>by rw [Yia fu fu];rfl) (Bn ⟨⟨Zgk,call233,λ _=>Bj rfl⟩,trivial⟩)
abbrev cF:=BY.env (AM.look [(229,xN),(233,kH)]) ⟨[(0,⟨tt [0,1,5,6],tt [1000000]⟩)],[],[(11,⟨tt [0,5],tt [1000000]⟩)],⟨tt [4],tt [1000000]⟩,[0,4,8,13,17,22,30,36,38,39,41],[233],[(229,[true])],[]⟩
def nf:=bd f231
abbrev ng:=YH 0 4 [.ioa ID] [(AX,[]),(CQ,[])]
def vr:=Bb 4 nf
def kJ (m0 n:Nat):Ek.A1:=λ x6 x7=>ej cF n (.tail vr) 0 (mk [(0, .slw 1000000 0),(5, .dat AX x6 [])] [(1000000,some (.arr ID x7 false))]) ng
theorem Yyp (m0:Nat):∀ n,kJ m0 n=Ek.t1 n:=ind rfl λ n _=>by kernel_rfl
def Yzp (m0:Nat):=BJ cF m0 vr 0 ng
def Yaq (m0:Nat):=BA 0 (Yzp m0)
def Yja:=Bz 2 (By (BM (Bb 3 nf)))
def Zfc (m0 n:Nat):Ek.A0:=λ x2 x3 x4=>ej cF n (.loop Yja) 0 (mk [(0, .slw 1000000 0),(1, .fn 233 []),(5, .dat AX x2 []),(6, .dat AX x3 [])] [(1000000,some (.arr ID x4 false))]) (Yaq m0)
theorem Ybq (m0:Nat):∀ n,Zfc m0 n=Ek.l0 (kJ m0 m0) n:=BR (S:=Ek.S0 (kJ m0 m0)) λ n=>by kernel_rfl
abbrev Zgc:=AM.Qd 0 [.ioa ID, .fn 233 []] [(AX,[]),(CQ,[])] λ x=>Ek x.1
theorem Yp8:Bh prog 231 Zgc:=Xtd Bo (fn:=f231) (λ m x=>show run cF nf m x ng=Ek.S (Zfc m m) x.1 from by kernel_rfl) (λ x=>by rw [Ybq fu fu,Yyp fu fu];rfl) (Bn ⟨⟨Yc1,call229,nw⟩,⟨⟨Zgk,call233,λ _=>Bj rfl⟩,trivial⟩⟩)
abbrev XF:=BY.env (AM.look [(232,rl),(231,Zgc),(192,bq),(234,UR)]) ⟨[(0,⟨tt [4,5,22,23,24],tt [11,21]⟩)],[],[(11,⟨tt [4,5],tt [11,21]⟩)],⟨tt [2,3],tt [11]⟩,[5,11,21,31,36],[192,234],[(231,[true])],[]⟩
def nh:=bd f194
abbrev ni:=fin XF [.tmp 2, .tmp 3] [] [(.str,[]),(CQ,[])]
def Zhc:=Bb 5 nh
def kK (m0 n:Nat):Ea.A1:=λ BI B0 BS B2=>ej XF n (.tail Zhc) 0 (mk [(4, .slm 11 0 BI B0),(5, .slw 21 0)] [(11,some (.arr ID BS false)),(21,some (.arr AX B2 false))]) ni
theorem Yq8 (m0:Nat):∀ n,kK m0 n=Ea.t1 n:=ind rfl λ n _=>by kernel_rfl
def Yr8 (m0:Nat):=BJ XF m0 Zhc 0 ni
def Ycq (m0:Nat):=BA 0 (Yr8 m0)
def Yka:=Bz 2 (By (BM (Bb 4 nh)))
def Zic (m0 n:Nat):Ea.A0:=λ x3 x4 x5 x6 x7 x8 x9=>ej XF n (.loop Yka) 0 (mk [(4, .slm 11 0 x3 x4),(5, .slw 21 0),(22, .dat CQ x5 []),(23, .dat AX x6 []),(24, .dat AX x7 [])] [(11,some (.arr ID x8 false)),(21,some (.arr AX x9 false))]) (Ycq m0)
theorem Ydq (m0:Nat):∀ n,Zic m0 n=Ea.l0 (kK m0 m0) n:=BR (S:=Ea.S0 (kK m0 m0)) λ n=>by kernel_rfl
abbrev Zjc:=AM.spec [.val CQ] [(.str,[]),(CQ,[])] λ x=>Ea x.1
theorem Ys8:Bh prog 194 Zjc:=B9 Bo (fn:=f194) (λ m x=>show run XF nh m x ni=Ea.S (Zic m m) x.1 from by kernel_rfl) (λ x=>by rw [Ydq fu fu,Yq8 fu fu];rfl) (Bn ⟨⟨Zqr,call232,nw⟩,⟨⟨Yp8,call231,nw⟩,⟨⟨nc,call192,λ _=>Bj rfl⟩,⟨⟨Xy,call234,λ _=>Bj rfl⟩,trivial⟩⟩⟩⟩)
abbrev SW:=BY.env (AM.look []) (kq [(0,⟨tt [3,11,12,13],[]⟩),(2,⟨tt [3,6,11,12,13,19],[]⟩)] [] [2])
def nj:=bd f256
abbrev Zhk:=fin SW [.tmp 2] [] [(.str,[])]
def Yla:=Bb 3 nj
def Yeq (m0:Nat):=BJ SW m0 Yla 0 Zhk
def xO (m0:Nat):=BA 0 (Yeq m0)
def ak:=Bz 2 (By (BM (Bb 2 nj)))
def bB (m0 n:Nat):DA.A0:=λ x1 x2 x3 x4=>ej SW n (.loop ak) 0 (mk [(3, .dat (.sl (.int .u8)) x1 [⟨0,193,0,0⟩]),(11, .dat Bi x2 []),(12, .dat AX x3 []),(13, .dat AX x4 [])] []) (xO m0)
def Yfq (m0 m1:Nat):=Mp SW m1 ak 0 (xO m0)
def Yma:=Bb 3 ak
def Ygq (m0 m1:Nat):=BJ SW m1 Yma 0 (Yfq m0 m1)
def Yhq (m0 m1:Nat):=BA 1 (Ygq m0 m1)
def Yiq (m0 m1:Nat):=BA 2 (Yhq m0 m1)
def Yna:=Bz 2 (Bb 3 (Bz 2 (Bb 2 ak)))
def Zkc (m0 m1 n:Nat):DA.A1:=λ x5 x6 x7 x8 x9 Bl=>ej SW n (.loop Yna) 2 (mk [(3, .dat (.sl (.int .u8)) x5 [⟨0,193,0,0⟩]),(6, .dat (.int .u64) x6 []),(11, .dat Bi x7 []),(12, .dat AX x8 []),(13, .dat AX x9 []),(19, .dat AX Bl [])] []) (Yiq m0 m1)
theorem Yjq (m0 m1:Nat):∀ n,Zkc m0 m1 n=DA.l1 (bB m0 m1) n:=BR (S:=DA.S1 (bB m0 m1)) λ n=>by kernel_rfl
theorem Ykq (m0:Nat):∀ n,bB m0 n=DA.l0 n:=ind rfl λ n e0=>(show _=DA.S0 (Zkc m0 n n) from by kernel_rfl).trans (by rw [Yjq m0 n n,e0];rfl)
abbrev Zlc:=AM.spec [.val Bi] [(.str,[])] λ x=>DA x.1
theorem Yt8:Bh prog 256 Zlc:=B9 Bo (fn:=f256) (λ m x=>show run SW nj m x Zhk=DA.S (bB m m) x.1 from by kernel_rfl) (λ x=>by rw [Ykq fu fu];rfl) (Bn trivial)
abbrev cG:=BY.env (AM.look []) ⟨[(0,⟨tt [0,3,9,10,11],tt [3]⟩)],[],[],⟨tt [2],tt [2,3]⟩,[2,3,27,32,33,34,44],[],[],[]⟩
def nk:=bd f258
abbrev Zik:=fin cG [.tmp 2] [] [(GZ,[])]
def Yoa:=Bb 4 nk
def Ylq (m0:Nat):=BJ cG m0 Yoa 0 Zik
def Ymq (m0:Nat):=BA 0 (Ylq m0)
def Ypa:=Bz 2 (By (BM (Bb 3 nk)))
def Zmc (m0 n:Nat):FI.A0:=λ x1 x2 x3 x4 x5=>ej cG n (.loop Ypa) 0 (mk [(0, .dat Bi x1 []),(3, .slw 3 0),(9, .dat Bi x2 []),(10, .dat AX x3 []),(11, .dat AX x4 [])] [(3,some (.arr eG x5 false))]) (Ymq m0)
theorem Ynq (m0:Nat):∀ n,Zmc m0 n=FI.l0 n:=BR (S:=FI.S0) λ n=>by kernel_rfl
abbrev kL:=AM.spec [.val Bi] [(GZ,[])] λ x=>FI x.1
theorem Zjk:Bh prog 258 kL:=B9 Bo (fn:=f258) (λ m x=>show run cG nk m x Zik=FI.S (Zmc m m) x.1 from by kernel_rfl) (λ x=>by rw [Ynq fu fu];rfl) (Bn trivial)
abbrev bC:=AM.Hm 2 [.io (.pair (.lk false) (.sl (.int .u8))) [(1,0)], .val .str] [(AX,[]),((.lk true),[]),((.pair (.lk false) (.sl (.int .u8))),[⟨1,1,0,0⟩])] λ x=>Se x.1 x.2.1
theorem nn:Bh prog 268 bC:=eu Bo (fn:=f268) (lk:=(AM.look [(283,gv)])) (ks:=⟨[],[],[],⟨tt [4,5],tt [1000000]⟩,[],[],[],[]⟩) (ts:=[.tmp 4, .tmp 5]) (λ _=>by kernel_rfl) (Bn ⟨⟨sG,call283,nw⟩,trivial⟩)
abbrev cH:=BY.env (AM.look [(151,bn),(263,SI),(268,bC),(269,Zw)]) ⟨[(0,⟨tt [6,16,17,18],tt [6]⟩)],[],[],⟨tt [2,3],[]⟩,[],[151,263],[],[]⟩
def np:=bd f257
abbrev Zkk:=fin cH [.tmp 2, .tmp 3] [] [(.str,[]),(AX,[])]
def Yqa:=Bb 4 np
def Yoq (m0:Nat):=BJ cH m0 Yqa 0 Zkk
def Ypq (m0:Nat):=BA 0 (Yoq m0)
def Yra:=Bz 2 (By (BM (Bb 3 np)))
def Znc (m0 n:Nat):F8.A0:=λ x2 x3 x4 x5=>ej cH n (.loop Yra) 0 (mk [(6, .ptr 6 0 0),(16, .dat GZ x2 []),(17, .dat AX x3 []),(18, .dat AX x4 [])] [(6,some (.var (.pair (.lk false) (.sl (.int .u8))) x5 [⟨1,64386,0,0⟩]))]) (Ypq m0)
theorem Yqq (m0:Nat):∀ n,Znc m0 n=F8.l0 n:=BR (S:=F8.S0) λ n=>by kernel_rfl
abbrev kM:=AM.spec [.val GZ] [(.str,[]),(AX,[])] λ x=>F8 x.1
theorem Zlk:Bh prog 257 kM:=B9 Bo (fn:=f257) (λ m x=>show run cH np m x Zkk=F8.S (Znc m m) x.1 from by kernel_rfl) (λ x=>by rw [Yqq fu fu];rfl) (Bn ⟨⟨mN,call151,λ _=>Bj rfl⟩,⟨⟨U5,call263,λ _=>Bj rfl⟩,⟨⟨nn,call268,nw⟩,⟨⟨gw,call269,nw⟩,trivial⟩⟩⟩⟩)
abbrev jJ:=AM.spec [.val AX] [(.bool,[])] λ x=>some (cmp_isNaN_int x.1)
theorem Zuf:Bh prog 197 jJ:=Ck Bo (fn:=f197) (lk:=(AM.look [])) (ks:=(kz [2])) (ts:=[.tmp 2]) (λ _=>by kernel_rfl) (Bn trivial)
abbrev Zoc:=AM.spec [.val AX, .val AX] [(.bool,[])] λ x=>some (cmp_Less_int x.1 x.2.1)
theorem Yu8:Bh prog 146 Zoc:=Ck Bo (fn:=f146) (lk:=(AM.look [(197,jJ)])) (ks:=⟨[],[],[],⟨tt [4],[]⟩,[],[197],[],[]⟩) (ts:=[.tmp 4]) (λ x=>(show _=cmp_Less_int.o x.1 x.2.1 from by kernel_rfl).trans (by unfold cmp_Less_int.o cmp_Less_int;simp only [Na])) (Bn ⟨⟨Zuf,call197,λ _=>Bj rfl⟩,trivial⟩)
abbrev Zpc:=AM.spec [.val AX] [(.bool,[])] λ x=>some (Zm x.1)
theorem Yv8:Bh prog 147 Zpc:=Ck Bo (fn:=f147) (lk:=(AM.look [])) (ks:=(kz [2])) (ts:=[.tmp 2]) (λ _=>by kernel_rfl) (Bn trivial)
abbrev Yp:=BY.env (AM.look [(146,Zoc),(147,Zpc)]) ⟨[(0,⟨tt [0,1,6,7,8],[]⟩)],[],[(8,⟨tt [0,1,6,7],[]⟩)],⟨tt [4,5],[]⟩,[],[146,147],[],[]⟩
def o8:=bd f81
abbrev o9:=fin Yp [.tmp 4, .tmp 5] [] [(AX,[]),(.bool,[])]
def xP:=Bb 4 o8
def nr (m0 n:Nat):DR.A1:=λ x7 x8 x9 Bl=>ej Yp n (.tail xP) 0 (mk [(0, .dat Bi x7 []),(1, .dat AX x8 []),(6, .dat AX x9 []),(7, .dat AX Bl [])] []) o9
theorem Yd1 (m0:Nat):∀ n,nr m0 n=DR.t1 n:=ind rfl λ n _=>by kernel_rfl
def Ye1 (m0:Nat):=BJ Yp m0 xP 0 o9
def Yf1 (m0:Nat):=BA 0 (Ye1 m0)
def Yrq:=Bz 3 (Bb 3 o8)
def Zmk (m0 n:Nat):DR.A0:=λ x1 x2 x3 x4 x5=>ej Yp n (.loop Yrq) 0 (mk [(0, .dat Bi x1 []),(1, .dat AX x2 []),(6, .dat AX x3 []),(7, .dat AX x4 []),(8, .dat AX x5 [])] []) (Yf1 m0)
theorem Yg1 (m0:Nat):∀ n,Zmk m0 n=DR.l0 (nr m0 m0) n:=BR (S:=DR.S0 (nr m0 m0)) λ n=>by kernel_rfl
abbrev ns:=AM.spec [.val Bi, .val AX] [(AX,[]),(.bool,[])] λ x=>DR x.1 x.2.1
theorem Zoo:Bh prog 81 ns:=B9 Bo (fn:=f81) (λ m x=>show run Yp o8 m x o9=DR.S (Zmk m m) x.1 x.2.1 from by kernel_rfl) (λ x=>by rw [Yg1 fu fu,Yd1 fu fu];rfl) (Bn ⟨⟨Yu8,call146,λ _=>Bj rfl⟩,⟨⟨Yv8,call147,λ _=>Bj rfl⟩,trivial⟩⟩)
abbrev dP:=BY.env (AM.look [(114,rn),(115,ru),(158,rk),(81,ns)]) ⟨[(0,⟨tt [4,5,16,17,18],tt [11]⟩)],[],[],⟨tt [2,3],tt [11]⟩,[2,4,11,12,14,15,23,33],[81],[(115,[true]),(158,[true])],[]⟩
def pa:=bd f95
abbrev Zpo:=fin dP [.tmp 2, .tmp 3] [] [(Bi,[]),(Bi,[⟨0,1,0,1⟩])]
def Ysq:=Bb 6 pa
def Yh1 (m0:Nat):=BJ dP m0 Ysq 0 Zpo
def Yi1 (m0:Nat):=BA 0 (Yh1 m0)
def Ytq:=Bz 2 (By (BM (Bb 5 pa)))
def Znk (m0 n:Nat):FE.A0:=λ x4 x5 x6 x7 x8 x9 Bl=>ej dP n (.loop Ytq) 0 (mk [(4, .slm 11 0 x4 x5),(5, .dat Bi x6 [⟨0,321,0,1⟩]),(16, .dat Bi x7 []),(17, .dat AX x8 []),(18, .dat AX x9 [])] [(11,some (.arr AX Bl false))]) (Yi1 m0)
theorem Yj1 (m0:Nat):∀ n,Znk m0 n=FE.l0 n:=BR (S:=FE.S0) λ n=>by kernel_rfl
abbrev Zok:=AM.spec [.val Bi] [(Bi,[]),(Bi,[⟨0,1,0,1⟩])] λ x=>FE x.1
theorem Zio:Bh prog 95 Zok:=B9 Bo (fn:=f95) (λ m x=>show run dP pa m x Zpo=FE.S (Znk m m) x.1 from by kernel_rfl) (λ x=>by rw [Yj1 fu fu];rfl) (Bn ⟨⟨Zur,call114,nw⟩,⟨⟨Zzr,call115,nw⟩,⟨⟨Zmr,call158,nw⟩,⟨⟨Zoo,call81,λ _=>Bj rfl⟩,trivial⟩⟩⟩⟩)
abbrev cI:=BY.env (AM.look [(263,SI),(268,bC),(269,Zw)]) ⟨[(0,⟨tt [4,7,8,9],tt [4]⟩)],[],[],⟨tt [2,3],[]⟩,[],[263],[],[]⟩
def nt:=bd f271
abbrev Zpk:=fin cI [.tmp 2, .tmp 3] [] [(.str,[]),(AX,[])]
def Ysa:=Bb 3 nt
def Yuq (m0:Nat):=BJ cI m0 Ysa 0 Zpk
def Yvq (m0:Nat):=BA 0 (Yuq m0)
def Yta:=Bz 2 (By (BM (Bb 2 nt)))
def Zqc (m0 n:Nat):H8.A0:=λ x1 x2 x3 x4=>ej cI n (.loop Yta) 0 (mk [(4, .ptr 4 0 0),(7, .dat Bi x1 []),(8, .dat AX x2 []),(9, .dat AX x3 [])] [(4,some (.var (.pair (.lk false) (.sl (.int .u8))) x4 [⟨1,64258,0,0⟩]))]) (Yvq m0)
theorem Ywq (m0:Nat):∀ n,Zqc m0 n=H8.l0 n:=BR (S:=H8.S0) λ n=>by kernel_rfl
abbrev Zrc:=AM.spec [.val Bi] [(.str,[]),(AX,[])] λ x=>H8 x.1
theorem Yw8:Bh prog 271 Zrc:=B9 Bo (fn:=f271) (λ m x=>show run cI nt m x Zpk=H8.S (Zqc m m) x.1 from by kernel_rfl) (λ x=>by rw [Ywq fu fu];rfl) (Bn ⟨⟨U5,call263,λ _=>Bj rfl⟩,⟨⟨nn,call268,nw⟩,⟨⟨gw,call269,nw⟩,trivial⟩⟩⟩)
abbrev Zsc:=AM.spec [.val Bi, .fn 271 []] [(.str,[]),(AX,[])] λ x=>fK x.1
theorem Yx8:Bh prog 270 Zsc:=Ck Bo (fn:=f270) (lk:=(AM.look [(95,Zok),(271,Zrc),(202,Rm),(234,UR),(263,SI)])) (ks:=⟨[],[],[],⟨tt [4,5],[]⟩,[],[202,234,263,271],[],[]⟩) (ts:=[.tmp 4, .tmp 5]) (λ _=>by kernel_rfl) (Bn ⟨⟨Zio,call95,nw⟩,⟨⟨Yw8,call271,λ _=>Bj rfl⟩,⟨⟨SS,call202,λ _=>Bj rfl⟩,⟨⟨Xy,call234,λ _=>Bj rfl⟩,⟨⟨U5,call263,λ _=>Bj rfl⟩,trivial⟩⟩⟩⟩⟩)
abbrev Ztc:=AM.spec [.val Bi] [(.str,[]),(AX,[])] λ x=>ZA x.1
theorem Yy8:Bh prog 259 Ztc:=Ck Bo (fn:=f259) (lk:=(AM.look [(270,Zsc)])) (ks:=⟨[],[],[],⟨tt [2,3],[]⟩,[],[270],[],[]⟩) (ts:=[.tmp 2, .tmp 3]) (λ _=>by kernel_rfl) (Bn ⟨⟨Yx8,call270,λ _=>Bj rfl⟩,trivial⟩)
abbrev Zuc:=AM.spec [.val Bi, .val AX] [(.str,[]),(AX,[])] λ x=>Uc x.1 x.2.1
theorem Yz8:Bh prog 235 Zuc:=Ck Bo (fn:=f235) (lk:=(AM.look [(256,Zlc),(258,kL),(257,kM),(254,kv),(259,Ztc),(202,Rm),(234,UR)])) (ks:=⟨[],[],[],⟨tt [4,5],[]⟩,[],[202,234,254,256,257,259],[],[]⟩) (ts:=[.tmp 4, .tmp 5]) (λ _=>by kernel_rfl) (Bn ⟨⟨Yt8,call256,λ _=>Bj rfl⟩,⟨⟨Zjk,call258,nw⟩,⟨⟨Zlk,call257,λ _=>Bj rfl⟩,⟨⟨Zzj,call254,λ _=>Bj rfl⟩,⟨⟨Yy8,call259,λ _=>Bj rfl⟩,⟨⟨SS,call202,λ _=>Bj rfl⟩,⟨⟨Xy,call234,λ _=>Bj rfl⟩,trivial⟩⟩⟩⟩⟩⟩⟩)
abbrev Zvc:=AM.Hm 1 [.io (.pair (.lk false) (.sl (.int .u8))) [(1,0)], .val (.int .u8)] [((.lk true),[]),((.pair (.lk false) (.sl (.int .u8))),[⟨1,1,0,0⟩])] λ x=>Zj x.1 x.2.1
theorem Ya9:Bh prog 272 Zvc:=eu Bo (fn:=f272) (lk:=(AM.look [(283,gv)])) (ks:=⟨[],[],[],⟨tt [4],tt [1000000]⟩,[],[],[],[]⟩) (ts:=[.tmp 4]) (λ _=>by kernel_rfl) (Bn ⟨⟨sG,call283,nw⟩,trivial⟩)
abbrev cJ:=BY.env (AM.look [(272,Zvc),(268,bC),(269,Zw)]) (kq [(0,⟨tt [4,7,8,9],tt [4]⟩)] [] [2,3])
def nu:=bd f260
abbrev Zqk:=fin cJ [.tmp 2, .tmp 3] [] [(.str,[]),(AX,[])]
def Yua:=Bb 3 nu
def Yxq (m0:Nat):=BJ cJ m0 Yua 0 Zqk
def Yyq (m0:Nat):=BA 0 (Yxq m0)
def Yva:=Bz 2 (By (BM (Bb 2 nu)))
def Zwc (m0 n:Nat):GO.A0:=λ x1 x2 x3 x4=>ej cJ n (.loop Yva) 0 (mk [(4, .ptr 4 0 0),(7, .dat Cq x1 []),(8, .dat AX x2 []),(9, .dat AX x3 [])] [(4,some (.var (.pair (.lk false) (.sl (.int .u8))) x4 [⟨1,64258,0,0⟩]))]) (Yyq m0)
theorem Yzq (m0:Nat):∀ n,Zwc m0 n=GO.l0 n:=BR (S:=GO.S0) λ n=>by kernel_rfl
abbrev kN:=AM.spec [.val Cq] [(.str,[]),(AX,[])] λ x=>GO x.1
theorem Zrk:Bh prog 260 kN:=B9 Bo (fn:=f260) (λ m x=>show run cJ nu m x Zqk=GO.S (Zwc m m) x.1 from by kernel_rfl) (λ x=>by rw [Yzq fu fu];rfl) (Bn ⟨⟨Ya9,call272,nw⟩,⟨⟨nn,call268,nw⟩,⟨⟨gw,call269,nw⟩,trivial⟩⟩⟩)
abbrev Zxc:=AM.spec [.val .str] [(.bool,[])] λ x=>some (cmp_isNaN_string x.1)
theorem Yb9:Bh prog 296 Zxc:=Ck Bo (fn:=f296) (lk:=(AM.look [])) (ks:=(kz [2])) (ts:=[.tmp 2]) (λ _=>by kernel_rfl) (Bn trivial)
abbrev Zyc:=AM.spec [.val .str, .val .str] [(.bool,[])] λ x=>some (cmp_Less_string x.1 x.2.1)
theorem Yc9:Bh prog 285 Zyc:=Ck Bo (fn:=f285) (lk:=(AM.look [(296,Zxc)])) (ks:=⟨[],[],[],⟨tt [4],[]⟩,[],[296],[],[]⟩) (ts:=[.tmp 4]) (λ x=>(show _=cmp_Less_string.o x.1 x.2.1 from by kernel_rfl).trans (by unfold cmp_Less_string.o cmp_Less_string;simp only [Na])) (Bn ⟨⟨Yb9,call296,λ _=>Bj rfl⟩,trivial⟩)
abbrev Zzc:=AM.spec [.val .str] [(.bool,[])] λ x=>some (fM x.1)
theorem Yd9:Bh prog 286 Zzc:=Ck Bo (fn:=f286) (lk:=(AM.look [])) (ks:=(kz [2])) (ts:=[.tmp 2]) (λ _=>by kernel_rfl) (Bn trivial)
abbrev XG:=BY.env (AM.look [(285,Zyc),(286,Zzc)]) ⟨[(0,⟨tt [0,1,6,7,8],[]⟩)],[],[(8,⟨tt [0,1,6,7],[]⟩)],⟨tt [4,5],[]⟩,[],[285,286],[],[]⟩
def nv:=bd f277
abbrev ny:=fin XG [.tmp 4, .tmp 5] [] [(AX,[]),(.bool,[])]
def vt:=Bb 4 nv
def kO (m0 n:Nat):EI.A1:=λ x7 x8 x9 Bl=>ej XG n (.tail vt) 0 (mk [(0, .dat Cq x7 []),(1, .dat .str x8 []),(6, .dat AX x9 []),(7, .dat AX Bl [])] []) ny
theorem Yar (m0:Nat):∀ n,kO m0 n=EI.t1 n:=ind rfl λ n _=>by kernel_rfl
def Ybr (m0:Nat):=BJ XG m0 vt 0 ny
def Ycr (m0:Nat):=BA 0 (Ybr m0)
def Ywa:=Bz 3 (Bb 3 nv)
def Zad (m0 n:Nat):EI.A0:=λ x1 x2 x3 x4 x5=>ej XG n (.loop Ywa) 0 (mk [(0, .dat Cq x1 []),(1, .dat .str x2 []),(6, .dat AX x3 []),(7, .dat AX x4 []),(8, .dat AX x5 [])] []) (Ycr m0)
theorem Ydr (m0:Nat):∀ n,Zad m0 n=EI.l0 (kO m0 m0) n:=BR (S:=EI.S0 (kO m0 m0)) λ n=>by kernel_rfl
abbrev Zbd:=AM.spec [.val Cq, .val .str] [(AX,[]),(.bool,[])] λ x=>EI x.1 x.2.1
theorem Ye9:Bh prog 277 Zbd:=B9 Bo (fn:=f277) (λ m x=>show run XG nv m x ny=EI.S (Zad m m) x.1 x.2.1 from by kernel_rfl) (λ x=>by rw [Ydr fu fu,Yar fu fu];rfl) (Bn ⟨⟨Yc9,call285,λ _=>Bj rfl⟩,⟨⟨Yd9,call286,λ _=>Bj rfl⟩,trivial⟩⟩)
abbrev cK:=BY.env (AM.look [(274,rf),(275,rh),(276,re),(277,Zbd)]) ⟨[(0,⟨tt [4,5,16,17,18],tt [11]⟩)],[],[],⟨tt [2,3],tt [11]⟩,[2,4,11,12,14,15,23,33],[277],[(275,[true]),(276,[true])],[]⟩
def nz:=bd f262
abbrev Zsk:=fin cK [.tmp 2, .tmp 3] [] [(Cq,[]),(Bi,[⟨0,1,0,1⟩])]
def Yxa:=Bb 6 nz
def Yer (m0:Nat):=BJ cK m0 Yxa 0 Zsk
def Yfr (m0:Nat):=BA 0 (Yer m0)
def Yya:=Bz 2 (By (BM (Bb 5 nz)))
def Zcd (m0 n:Nat):Gh.A0:=λ x4 x5 x6 x7 x8 x9 Bl=>ej cK n (.loop Yya) 0 (mk [(4, .slm 11 0 x4 x5),(5, .dat Bi x6 [⟨0,321,0,1⟩]),(16, .dat Cq x7 []),(17, .dat AX x8 []),(18, .dat AX x9 [])] [(11,some (.arr .str Bl false))]) (Yfr m0)
theorem Ygr (m0:Nat):∀ n,Zcd m0 n=Gh.l0 n:=BR (S:=Gh.S0) λ n=>by kernel_rfl
abbrev kP:=AM.spec [.val Cq] [(Cq,[]),(Bi,[⟨0,1,0,1⟩])] λ x=>Gh x.1
theorem Ztk:Bh prog 262 kP:=B9 Bo (fn:=f262) (λ m x=>show run cK nz m x Zsk=Gh.S (Zcd m m) x.1 from by kernel_rfl) (λ x=>by rw [Ygr fu fu];rfl) (Bn ⟨⟨Zjr,call274,nw⟩,⟨⟨Zlr,call275,nw⟩,⟨⟨Zir,call276,nw⟩,⟨⟨Ye9,call277,λ _=>Bj rfl⟩,trivial⟩⟩⟩⟩)
abbrev Zdd:=AM.spec [.val Cq, .fn 260 []] [(.str,[]),(AX,[])] λ x=>fJ x.1
theorem Yf9:Bh prog 273 Zdd:=Ck Bo (fn:=f273) (lk:=(AM.look [(262,kP),(260,kN),(202,Rm),(234,UR),(263,SI)])) (ks:=⟨[],[],[],⟨tt [4,5],[]⟩,[],[202,234,260,263],[],[]⟩) (ts:=[.tmp 4, .tmp 5]) (λ _=>by kernel_rfl) (Bn ⟨⟨Ztk,call262,nw⟩,⟨⟨Zrk,call260,λ _=>Bj rfl⟩,⟨⟨SS,call202,λ _=>Bj rfl⟩,⟨⟨Xy,call234,λ _=>Bj rfl⟩,⟨⟨U5,call263,λ _=>Bj rfl⟩,trivial⟩⟩⟩⟩⟩)
abbrev Zed:=AM.spec [.val Cq] [(.str,[]),(AX,[])] λ x=>Zu x.1
theorem Yg9:Bh prog 261 Zed:=Ck Bo (fn:=f261) (lk:=(AM.look [(273,Zdd)])) (ks:=⟨[],[],[],⟨tt [2,3],[]⟩,[],[273],[],[]⟩) (ts:=[.tmp 2, .tmp 3]) (λ _=>by kernel_rfl) (Bn ⟨⟨Yf9,call273,λ _=>Bj rfl⟩,trivial⟩)
abbrev Zfd:=AM.spec [.val Cq, .val AX] [(.str,[]),(AX,[])] λ x=>Uf x.1 x.2.1
theorem Yh9:Bh prog 236 Zfd:=Ck Bo (fn:=f236) (lk:=(AM.look [(260,kN),(261,Zed),(262,kP),(258,kL),(257,kM),(263,SI)])) (ks:=⟨[],[],[],⟨tt [4,5],[]⟩,[],[257,260,261,263],[],[]⟩) (ts:=[.tmp 4, .tmp 5]) (λ _=>by kernel_rfl) (Bn ⟨⟨Zrk,call260,λ _=>Bj rfl⟩,⟨⟨Yg9,call261,λ _=>Bj rfl⟩,⟨⟨Ztk,call262,nw⟩,⟨⟨Zjk,call258,nw⟩,⟨⟨Zlk,call257,λ _=>Bj rfl⟩,⟨⟨U5,call263,λ _=>Bj rfl⟩,trivial⟩⟩⟩⟩⟩⟩)
abbrev XH:=BY.env (AM.look [(235,Zuc),(236,Zfd)]) ⟨[(0,⟨tt [1,2,8,9,12,13,14],[]⟩)],[],[(8,⟨tt [1,2,8,9],[]⟩)],⟨tt [6,7],[]⟩,[],[235,236],[],[21,26]⟩
def nA:=bd f195
abbrev nB:=fin XH [.tmp 6, .tmp 7] [] [(.str,[]),(AX,[])]
def vu:=Bb 4 nA
def kQ (m0 n:Nat):Ee.A1:=λ x8 x9 Bl BI=>ej XH n (.tail vu) 0 (mk [(1, .dat AX x8 []),(2, .dat AX x9 []),(8, .dat Bi Bl [⟨0,513,0,1⟩]),(9, .dat Cq BI [⟨0,577,0,1⟩])] []) nB
theorem Yhr (m0:Nat):∀ n,kQ m0 n=Ee.t1 n:=ind rfl λ n _=>by kernel_rfl
def Yir (m0:Nat):=BJ XH m0 vu 0 nB
def Yjr (m0:Nat):=BA 0 (Yir m0)
def Yza:=Bz 2 (By (BM (Bb 3 nA)))
def Zgd (m0 n:Nat):Ee.A0:=λ x1 x2 x3 x4 x5 x6 x7=>ej XH n (.loop Yza) 0 (mk [(1, .dat AX x1 []),(2, .dat AX x2 []),(8, .dat Bi x3 [⟨0,513,0,1⟩]),(9, .dat Cq x4 [⟨0,577,0,1⟩]),(12, .dat CQ x5 []),(13, .dat AX x6 []),(14, .dat AX x7 [])] []) (Yjr m0)
theorem Ykr (m0:Nat):∀ n,Zgd m0 n=Ee.l0 (kQ m0 m0) n:=BR (S:=Ee.S0 (kQ m0 m0)) λ n=>by kernel_rfl
abbrev Zhd:=AM.spec [.val CQ, .val AX, .val AX] [(.str,[]),(AX,[])] λ x=>Ee x.1 x.2.1 x.2.2.1
theorem Yi9:Bh prog 195 Zhd:=B9 Bo (fn:=f195) (λ m x=>show run XH nA m x nB=Ee.S (Zgd m m) x.1 x.2.1 x.2.2.1 from by kernel_rfl) (λ x=>by rw [Ykr fu fu,Yhr fu fu];rfl) (Bn ⟨⟨Yz8,call235,λ _=>Bj rfl⟩,⟨⟨Yh9,call236,λ _=>Bj rfl⟩,trivial⟩⟩)
abbrev Zid:=AM.spec [.val CQ, .val AX, .val AX] [(.str,[]),(AX,[])] λ x=>M6 x.1 x.2.1 x.2.2.1
theorem Yj9:Bh prog 143 Zid:=Ck Bo (fn:=f143) (lk:=(AM.look [(193,Zdc),(194,Zjc),(195,Zhd),(187,ki)])) (ks:=⟨[],[],[],⟨tt [6,7],[]⟩,[],[187,193,195],[],[]⟩) (ts:=[.tmp 6, .tmp 7]) (λ _=>by kernel_rfl) (Bn ⟨⟨Yo8,call193,λ _=>Bj rfl⟩,⟨⟨Ys8,call194,nw⟩,⟨⟨Yi9,call195,λ _=>Bj rfl⟩,⟨⟨Zjj,call187,λ _=>Bj rfl⟩,trivial⟩⟩⟩⟩)
abbrev cL:=AM.spec [.val .str] [((.pair Pm (.pair .str (.pair .str CQ))),[]),(.bool,[])] λ x=>OK x.1
theorem pb:Bh prog 79 cL:=Ck Bo (fn:=f79) (lk:=(AM.look [(139,zQ),(140,km),(141,Zxb),(142,Zac),(143,Zid)])) (ks:=⟨[],[],[],⟨tt [2,3],tt [2]⟩,[],[139,140,143],[],[]⟩) (ts:=[.cell 2 128, .tmp 3]) (λ _=>by kernel_rfl) (Bn ⟨⟨Yj7,call139,λ _=>Bj rfl⟩,⟨⟨Zpj,call140,λ _=>Bj rfl⟩,⟨⟨Yl8,call141,nw⟩,⟨⟨Ym8,call142,nw⟩,⟨⟨Yj9,call143,λ _=>Bj rfl⟩,trivial⟩⟩⟩⟩⟩)
abbrev Zmg:=AM.spec [.val .str] [(CQ,[]),(AX,[])] λ x=>I7 x.1
theorem Zon:Bh prog 39 Zmg:=Ck Bo (fn:=f39) (lk:=(AM.look [(79,cL)])) (ks:=(kz [2,3])) (ts:=[.tmp 2, .tmp 3]) (λ _=>by kernel_rfl) (Bn ⟨⟨pb,call79,nw⟩,trivial⟩)
abbrev lL:=AM.spec [.val .str] [(Pm,[]),(AX,[])] λ x=>LS x.1
theorem Znn:Bh prog 43 lL:=Ck Bo (fn:=f43) (lk:=(AM.look [(79,cL)])) (ks:=⟨[],[],[],⟨tt [2,3],tt [2]⟩,[],[],[],[]⟩) (ts:=[.cell 2 83, .tmp 3]) (λ _=>by kernel_rfl) (Bn ⟨⟨pb,call79,nw⟩,trivial⟩)
abbrev Zng:=AM.spec [.val .str] [(.str,[]),(.str,[]),(AX,[])] λ x=>Ul x.1
theorem Xlb:Bh prog 48 Zng:=Ck Bo (fn:=f48) (lk:=(AM.look [(79,cL)])) (ks:=(kz [2,3,4])) (ts:=[.tmp 2, .tmp 3, .tmp 4]) (λ _=>by kernel_rfl) (Bn ⟨⟨pb,call79,nw⟩,trivial⟩)
abbrev Zuk:=AM.spec [.val .str] [(.str,[]),(AX,[])] λ x=>Uo x.1
theorem Xbf:Bh prog 97 Zuk:=Ck Bo (fn:=f97) (lk:=(AM.look [(34,mz)])) (ks:=⟨[],[],[],⟨tt [2,3],[]⟩,[],[34],[],[]⟩) (ts:=[.tmp 2, .tmp 3]) (λ _=>by kernel_rfl) (Bn ⟨⟨Zno,call34,λ _=>Bj rfl⟩,trivial⟩)
abbrev Zvk:=AM.spec [.val .str] [(Pm,[]),(.str,[]),(.str,[]),(.bool,[])] λ x=>Sh x.1
theorem Xcf:Bh prog 54 Zvk:=Ck Bo (fn:=f54) (lk:=(AM.look [(97,Zuk)])) (ks:=⟨[],[],[],⟨tt [2,3,4,5],tt [2]⟩,[],[97],[],[]⟩) (ts:=[.cell 2 83, .tmp 3, .tmp 4, .tmp 5]) (λ _=>by kernel_rfl) (Bn ⟨⟨Xbf,call97,λ _=>Bj rfl⟩,trivial⟩)
abbrev cM:=BY.env (AM.look []) (kq [(0,⟨tt [0,1,2,7,8],[]⟩)] [] [6])
def nD:=bd f166
abbrev Zwk:=fin cM [.tmp 6] [] [(AX,[])]
def Yab:=Bb 3 nD
def Ylr (m0:Nat):=BJ cM m0 Yab 0 Zwk
def Ymr (m0:Nat):=BA 0 (Ylr m0)
def Ybb:=Bz 2 (By (BM (Bb 2 nD)))
def Zjd (m0 n:Nat):HM.A0:=λ x1 x2 x3 x4 x5=>ej cM n (.loop Ybb) 0 (mk [(0, .dat .str x1 []),(1, .dat AX x2 []),(2, .dat AX x3 []),(7, .dat AX x4 []),(8, .dat AX x5 [])] []) (Ymr m0)
theorem Ynr (m0:Nat):∀ n,Zjd m0 n=HM.l0 n:=BR (S:=HM.S0) λ n=>by kernel_rfl
abbrev Zkd:=AM.spec [.val .str, .val AX, .val AX] [(AX,[])] λ x=>HM x.1 x.2.1 x.2.2.1
theorem Yk9:Bh prog 166 Zkd:=B9 Bo (fn:=f166) (λ m x=>show run cM nD m x Zwk=HM.S (Zjd m m) x.1 x.2.1 x.2.2.1 from by kernel_rfl) (λ x=>by rw [Ynr fu fu];rfl) (Bn trivial)
abbrev XI:=BY.env (AM.look [(127,jV),(166,Zkd),(71,U1)]) ⟨[(0,⟨tt [0,1,2,8,9],[]⟩)],[],[(10,⟨tt [0,2,8],[]⟩)],⟨tt [6,7],[]⟩,[],[71,127,166],[],[]⟩
def nE:=bd f104
abbrev nF:=fin XI [.tmp 6, .tmp 7] [] [(Bi,[⟨0,1,0,1⟩]),(AX,[])]
def vw:=Bb 5 nE
def kR (m0 n:Nat):DI.A1:=λ x8 x9 Bl=>ej XI n (.tail vw) 0 (mk [(0, .dat .str x8 []),(2, .dat AX x9 []),(8, .dat Bi Bl [⟨0,513,0,1⟩])] []) nF
theorem Yor (m0:Nat):∀ n,kR m0 n=DI.t1 n:=ind rfl λ n _=>by kernel_rfl
def Ypr (m0:Nat):=BJ XI m0 vw 0 nF
def Yqr (m0:Nat):=BA 0 (Ypr m0)
def Ycb:=Bz 2 (By (BM (Bb 4 nE)))
def Zld (m0 n:Nat):DI.A0:=λ x2 x3 x4 x5 x6=>ej XI n (.loop Ycb) 0 (mk [(0, .dat .str x2 []),(1, .dat AX x3 []),(2, .dat AX x4 []),(8, .dat Bi x5 [⟨0,513,0,1⟩]),(9, .dat AX x6 [])] []) (Yqr m0)
theorem Yrr (m0:Nat):∀ n,Zld m0 n=DI.l0 (kR m0 m0) n:=BR (S:=DI.S0 (kR m0 m0)) λ n=>by kernel_rfl
abbrev US:=AM.spec [.val .str, .val AX, .val AX] [(Bi,[⟨0,1,0,1⟩]),(AX,[])] λ x=>DI x.1 x.2.1 x.2.2.1
theorem XJ:Bh prog 104 US:=B9 Bo (fn:=f104) (λ m x=>show run XI nE m x nF=DI.S (Zld m m) x.1 x.2.1 x.2.2.1 from by kernel_rfl) (λ x=>by rw [Yrr fu fu,Yor fu fu];rfl) (Bn ⟨⟨Zai,call127,λ _=>Bj rfl⟩,⟨⟨Yk9,call166,λ _=>Bj rfl⟩,⟨⟨Ym,call71,λ _=>Bj rfl⟩,trivial⟩⟩⟩)
abbrev Yq:=BY.env (AM.look [(104,US)]) ⟨[(0,⟨tt [6,7,8,9],[]⟩)],[],[(9,⟨tt [6,7,8],[]⟩)],⟨tt [4,5],tt [13]⟩,[],[],[],[]⟩
def pc:=bd f98
abbrev pd:=fin Yq [.tmp 4, .tmp 5] [] [(Bi,[]),(.bool,[])]
def xQ:=Bb 5 pc
def nG (m0 n:Nat):DS.A1:=λ x6 x7 x8=>ej Yq n (.tail xQ) 0 (mk [(6, .dat Bi x6 [⟨0,385,0,1⟩]),(7, .dat AX x7 []),(8, .dat .bool x8 [])] []) pd
theorem Yk1 (m0:Nat):∀ n,nG m0 n=DS.t1 n:=ind rfl λ n _=>by kernel_rfl
def Yl1 (m0:Nat):=BJ Yq m0 xQ 0 pd
def Ym1 (m0:Nat):=BA 0 (Yl1 m0)
def Ysr:=Bz 2 (By (BM (Bb 4 pc)))
def Zxk (m0 n:Nat):DS.A0:=λ x2 x3 x4 x5=>ej Yq n (.loop Ysr) 0 (mk [(6, .dat Bi x2 [⟨0,385,0,1⟩]),(7, .dat AX x3 []),(8, .dat .bool x4 []),(9, .dat AX x5 [])] []) (Ym1 m0)
theorem Yn1 (m0:Nat):∀ n,Zxk m0 n=DS.l0 (nG m0 m0) n:=BR (S:=DS.S0 (nG m0 m0)) λ n=>by kernel_rfl
abbrev nH:=AM.spec [.val .str, .val AX] [(Bi,[]),(.bool,[])] λ x=>DS x.1 x.2.1
theorem Zqo:Bh prog 98 nH:=B9 Bo (fn:=f98) (λ m x=>show run Yq pc m x pd=DS.S (Zxk m m) x.1 x.2.1 from by kernel_rfl) (λ x=>by rw [Yn1 fu fu,Yk1 fu fu];rfl) (Bn ⟨⟨XJ,call104,nw⟩,trivial⟩)
abbrev dQ:=BY.env (AM.look [(98,nH)]) (kq [(0,⟨tt [6,8,9],[]⟩)] [] [4,5])
def pe:=bd f55
abbrev Zro:=fin dQ [.tmp 4, .tmp 5] [] [(AX,[]),(AX,[])]
def Ytr:=Bb 6 pe
def Yo1 (m0:Nat):=BJ dQ m0 Ytr 0 Zro
def Yp1 (m0:Nat):=BA 0 (Yo1 m0)
def Yur:=Bz 2 (By (BM (Bb 5 pe)))
def Zyk (m0 n:Nat):FN.A0:=λ x2 x3 x4=>ej dQ n (.loop Yur) 0 (mk [(6, .dat Bi x2 []),(8, .dat AX x3 []),(9, .dat AX x4 [])] []) (Yp1 m0)
theorem Yq1 (m0:Nat):∀ n,Zyk m0 n=FN.l0 n:=BR (S:=FN.S0) λ n=>by kernel_rfl
abbrev nI:=AM.spec [.val .str, .val AX] [(AX,[]),(AX,[])] λ x=>FN x.1 x.2.1
theorem Zso:Bh prog 55 nI:=B9 Bo (fn:=f55) (λ m x=>show run dQ pe m x Zro=FN.S (Zyk m m) x.1 x.2.1 from by kernel_rfl) (λ x=>by rw [Yq1 fu fu];rfl) (Bn ⟨⟨Zqo,call98,nw⟩,trivial⟩)
abbrev RM:=BY.env (AM.look []) (kq [(0,⟨tt [0,1,6,7],[]⟩),(2,⟨tt [0,1,6,7,8,9],[]⟩)] [] [4,5])
def pf:=bd f99
abbrev Zto:=fin RM [.tmp 4, .tmp 5] [] [(Bi,[⟨0,1,0,1⟩]),(AX,[])]
def Yvr:=Bb 4 pf
def Yr1 (m0:Nat):=BJ RM m0 Yvr 0 Zto
def Zmd (m0:Nat):=BA 0 (Yr1 m0)
def WQ:=Bz 2 (By (BM (Bb 3 pf)))
def cN (m0 n:Nat):Dz.A0:=λ x1 x2 x3 x4=>ej RM n (.loop WQ) 0 (mk [(0, .dat .str x1 []),(1, .dat AX x2 []),(6, .dat Bi x3 [⟨0,385,0,1⟩]),(7, .dat AX x4 [])] []) (Zmd m0)
def Ys1 (m0 m1:Nat):=Mp RM m1 WQ 0 (Zmd m0)
def Ywr:=Bb 2 WQ
def Yt1 (m0 m1:Nat):=BJ RM m1 Ywr 0 (Ys1 m0 m1)
def Yu1 (m0 m1:Nat):=BA 1 (Yt1 m0 m1)
def Yxr:=Bb 2 (Bz 2 (By WQ))
def Yv1 (m0 m1:Nat):=BJ RM m1 Yxr 1 (Yu1 m0 m1)
def Yw1 (m0 m1:Nat):=BA 2 (Yv1 m0 m1)
def Yyr:=Bz 2 (By (BM (By (Bz 2 (By WQ)))))
def Zzk (m0 m1 n:Nat):Dz.A1:=λ x5 x6 x7 x8 x9 Bl=>ej RM n (.loop Yyr) 2 (mk [(0, .dat .str x5 []),(1, .dat AX x6 []),(6, .dat Bi x7 [⟨0,385,0,1⟩]),(7, .dat AX x8 []),(8, .dat AX x9 []),(9, .dat AX Bl [])] []) (Yw1 m0 m1)
theorem Yx1 (m0 m1:Nat):∀ n,Zzk m0 m1 n=Dz.l1 (cN m0 m1) n:=BR (S:=Dz.S1 (cN m0 m1)) λ n=>by kernel_rfl
theorem Yy1 (m0:Nat):∀ n,cN m0 n=Dz.l0 n:=ind rfl λ n e0=>(show _=Dz.S0 (Zzk m0 n n) from by kernel_rfl).trans (by rw [Yx1 m0 n n,e0];rfl)
abbrev Zal:=AM.spec [.val .str, .val AX] [(Bi,[⟨0,1,0,1⟩]),(AX,[])] λ x=>Dz x.1 x.2.1
theorem Xdf:Bh prog 99 Zal:=B9 Bo (fn:=f99) (λ m x=>show run RM pf m x Zto=Dz.S (cN m m) x.1 x.2.1 from by kernel_rfl) (λ x=>by rw [Yy1 fu fu];rfl) (Bn trivial)
abbrev cO:=BY.env (AM.look [(219,UO),(220,W8)]) ⟨[(0,⟨tt [1,2,9,10,11],tt [9,10]⟩)],[],[],⟨tt [8],[]⟩,[],[219,220],[],[]⟩
def nJ:=bd f204
abbrev Zbl:=fin cO [.tmp 8] [] [(AX,[])]
def Ydb:=Bb 3 nJ
def Yzr (m0:Nat):=BJ cO m0 Ydb 0 Zbl
def Yas (m0:Nat):=BA 0 (Yzr m0)
def Yeb:=Bz 2 (By (BM (Bb 2 nJ)))
def Znd (m0 n:Nat):Hf.A0:=λ x3 x4 x5 x6 x7=>ej cO n (.loop Yeb) 0 (mk [(1, .dat AX x3 []),(2, .dat AX x4 []),(9, .ptr 9 0 0),(10, .ptr 10 0 0),(11, .dat AX x5 [])] [(9,some (.arr .bool x6 false)),(10,some (.arr .bool x7 false))]) (Yas m0)
theorem Ybs (m0:Nat):∀ n,Znd m0 n=Hf.l0 n:=BR (S:=Hf.S0) λ n=>by kernel_rfl
abbrev Zod:=AM.spec [.val AX, .val AX, .val AX, .val AX] [(AX,[])] λ x=>Hf x.1 x.2.1 x.2.2.1 x.2.2.2.1
theorem Yl9:Bh prog 204 Zod:=B9 Bo (fn:=f204) (λ m x=>show run cO nJ m x Zbl=Hf.S (Znd m m) x.1 x.2.1 x.2.2.1 x.2.2.2.1 from by kernel_rfl) (λ x=>by rw [Ybs fu fu];rfl) (Bn ⟨⟨Xm,call219,λ _=>Bj rfl⟩,⟨⟨bY,call220,λ _=>Bj rfl⟩,trivial⟩⟩)
abbrev XK:=BY.env (AM.look [(219,UO),(220,W8)]) ⟨[(0,⟨tt [3,4,5],tt [3,4]⟩)],[],[(7,⟨tt [3,4],tt [3,4]⟩)],⟨tt [2],[]⟩,[],[219,220],[],[]⟩
def nK:=bd f205
abbrev nL:=fin XK [.tmp 2] [] [(AX,[])]
def vx:=Bb 4 nK
def kS (m0 n:Nat):Eg.A1:=λ x5 x6=>ej XK n (.tail vx) 0 (mk [(3, .ptr 3 0 0),(4, .ptr 4 0 0)] [(3,some (.arr .bool x5 false)),(4,some (.arr .bool x6 false))]) nL
theorem Ycs (m0:Nat):∀ n,kS m0 n=Eg.t1 n:=ind rfl λ n _=>by kernel_rfl
def Yds (m0:Nat):=BJ XK m0 vx 0 nL
def Yes (m0:Nat):=BA 0 (Yds m0)
def Yfb:=Bz 2 (By (BM (Bb 3 nK)))
def Zpd (m0 n:Nat):Eg.A0:=λ x2 x3 x4=>ej XK n (.loop Yfb) 0 (mk [(3, .ptr 3 0 0),(4, .ptr 4 0 0),(5, .dat AX x2 [])] [(3,some (.arr .bool x3 false)),(4,some (.arr .bool x4 false))]) (Yes m0)
theorem Yfs (m0:Nat):∀ n,Zpd m0 n=Eg.l0 (kS m0 m0) n:=BR (S:=Eg.S0 (kS m0 m0)) λ n=>by kernel_rfl
abbrev Zqd:=AM.spec [.val AX] [(AX,[])] λ x=>Eg x.1
theorem Ym9:Bh prog 205 Zqd:=B9 Bo (fn:=f205) (λ m x=>show run XK nK m x nL=Eg.S (Zpd m m) x.1 from by kernel_rfl) (λ x=>by rw [Yfs fu fu,Ycs fu fu];rfl) (Bn ⟨⟨Xm,call219,λ _=>Bj rfl⟩,⟨⟨bY,call220,λ _=>Bj rfl⟩,trivial⟩⟩)
abbrev cP:=BY.env (AM.look [(204,Zod),(205,Zqd),(135,SG)]) ⟨[(0,⟨tt [0,5,6],[]⟩)],[],[],⟨tt [2,3,4],[]⟩,[],[135,204,205],[],[]⟩
def nM:=bd f162
abbrev Zcl:=fin cP [.tmp 2, .tmp 3, .tmp 4] [] [(AX,[]),(AX,[]),(AX,[])]
def Ygb:=Bb 3 nM
def Ygs (m0:Nat):=BJ cP m0 Ygb 0 Zcl
def Yhs (m0:Nat):=BA 0 (Ygs m0)
def Yhb:=Bz 2 (By (BM (Bb 2 nM)))
def Zrd (m0 n:Nat):Eb.A0:=λ x1 x2 x3=>ej cP n (.loop Yhb) 0 (mk [(0, .dat .str x1 []),(5, .dat AX x2 []),(6, .dat AX x3 [])] []) (Yhs m0)
theorem Yis (m0:Nat):∀ n,Zrd m0 n=Eb.l0 n:=BR (S:=Eb.S0) λ n=>by kernel_rfl
abbrev UT:=AM.spec [.val .str] [(AX,[]),(AX,[]),(AX,[])] λ x=>Eb x.1
theorem XL:Bh prog 162 UT:=B9 Bo (fn:=f162) (λ m x=>show run cP nM m x Zcl=Eb.S (Zrd m m) x.1 from by kernel_rfl) (λ x=>by rw [Yis fu fu];rfl) (Bn ⟨⟨Yl9,call204,λ _=>Bj rfl⟩,⟨⟨Ym9,call205,λ _=>Bj rfl⟩,⟨⟨U2,call135,λ _=>Bj rfl⟩,trivial⟩⟩⟩)
abbrev XM:=BY.env (AM.look [(162,UT),(163,ba)]) ⟨[(0,⟨tt [0,1,6,7,8],[]⟩)],[],[(16,⟨tt [1,6,8],[]⟩)],⟨tt [4,5],[]⟩,[],[162,163],[],[]⟩
def nN:=bd f100
abbrev nO:=fin XM [.tmp 4, .tmp 5] [] [(GZ,[⟨0,1,0,3⟩]),(AX,[])]
def vy:=Bb 5 nN
def kT (m0 n:Nat):DW.A1:=λ x8 x9 Bl=>ej XM n (.tail vy) 0 (mk [(1, .dat AX x8 []),(6, .dat GZ x9 [⟨0,385,0,3⟩]),(8, .dat AX Bl [])] []) nO
theorem Yjs (m0:Nat):∀ n,kT m0 n=DW.t1 n:=ind rfl λ n _=>by kernel_rfl
def Yks (m0:Nat):=BJ XM m0 vy 0 nO
def Yls (m0:Nat):=BA 0 (Yks m0)
def Yib:=Bz 3 (Bb 4 nN)
def Zsd (m0 n:Nat):DW.A0:=λ x1 x2 x3 x4 x5=>ej XM n (.loop Yib) 0 (mk [(0, .dat .str x1 []),(1, .dat AX x2 []),(6, .dat GZ x3 [⟨0,385,0,3⟩]),(7, .dat AX x4 []),(8, .dat AX x5 [])] []) (Yls m0)
theorem Yms (m0:Nat):∀ n,Zsd m0 n=DW.l0 (kT m0 m0) n:=BR (S:=DW.S0 (kT m0 m0)) λ n=>by kernel_rfl
abbrev kU:=AM.spec [.val .str, .val AX] [(GZ,[⟨0,1,0,3⟩]),(AX,[])] λ x=>DW x.1 x.2.1
theorem Zdl:Bh prog 100 kU:=B9 Bo (fn:=f100) (λ m x=>show run XM nN m x nO=DW.S (Zsd m m) x.1 x.2.1 from by kernel_rfl) (λ x=>by rw [Yms fu fu,Yjs fu fu];rfl) (Bn ⟨⟨XL,call162,λ _=>Bj rfl⟩,⟨⟨me,call163,λ _=>Bj rfl⟩,trivial⟩⟩)
abbrev SX:=BY.env (AM.look [(163,ba)]) ⟨[(0,⟨tt [0,4,5],[]⟩),(2,⟨tt [0,4,5,6],[]⟩)],[],[],⟨tt [2,3],[]⟩,[],[163],[],[]⟩
def nP:=bd f101
abbrev Zel:=fin SX [.tmp 2, .tmp 3] [] [(Bi,[⟨0,1,0,1⟩]),(AX,[])]
def Yjb:=Bb 4 nP
def Yns (m0:Nat):=BJ SX m0 Yjb 0 Zel
def xR (m0:Nat):=BA 0 (Yns m0)
def ao:=Bz 2 (By (BM (Bb 3 nP)))
def bD (m0 n:Nat):Dv.A0:=λ x2 x3 x4=>ej SX n (.loop ao) 0 (mk [(0, .dat GZ x2 []),(4, .dat Bi x3 [⟨0,257,0,1⟩]),(5, .dat AX x4 [])] []) (xR m0)
def Yos (m0 m1:Nat):=Mp SX m1 ao 0 (xR m0)
def Ykb:=Bb 2 ao
def Yps (m0 m1:Nat):=BJ SX m1 Ykb 0 (Yos m0 m1)
def Yqs (m0 m1:Nat):=BA 1 (Yps m0 m1)
def Yrs (m0 m1:Nat):=BA 2 (Yqs m0 m1)
def Ylb:=Bz 2 (By (Bz 2 (By ao)))
def Ztd (m0 m1 n:Nat):Dv.A1:=λ x5 x6 x7 x8=>ej SX n (.loop Ylb) 2 (mk [(0, .dat GZ x5 []),(4, .dat Bi x6 [⟨0,257,0,1⟩]),(5, .dat AX x7 []),(6, .dat AX x8 [])] []) (Yrs m0 m1)
theorem Yss (m0 m1:Nat):∀ n,Ztd m0 m1 n=Dv.l1 (bD m0 m1) n:=BR (S:=Dv.S1 (bD m0 m1)) λ n=>by kernel_rfl
theorem Yts (m0:Nat):∀ n,bD m0 n=Dv.l0 n:=ind rfl λ n e0=>(show _=Dv.S0 (Ztd m0 n n) from by kernel_rfl).trans (by rw [Yss m0 n n,e0];rfl)
abbrev kV:=AM.spec [.val GZ] [(Bi,[⟨0,1,0,1⟩]),(AX,[])] λ x=>Dv x.1
theorem Zfl:Bh prog 101 kV:=B9 Bo (fn:=f101) (λ m x=>show run SX nP m x Zel=Dv.S (bD m m) x.1 from by kernel_rfl) (λ x=>by rw [Yts fu fu];rfl) (Bn ⟨⟨me,call163,λ _=>Bj rfl⟩,trivial⟩)
abbrev XN:=BY.env (AM.look [(162,UT),(104,US),(131,jZ)]) ⟨[(0,⟨tt [0,6,9,10,13,15],[]⟩)],[],[(24,⟨tt [0,9],[]⟩)],⟨tt [4,5],[]⟩,[],[131,162],[],[]⟩
def nQ:=bd f102
abbrev nR:=fin XN [.tmp 4, .tmp 5] [] [(Bi,[⟨0,1,0,1⟩]),(AX,[])]
def vz:=Bb 7 nQ
def bE (m0 n:Nat):DJ.A1:=λ Bl BI=>ej XN n (.tail vz) 0 (mk [(0, .dat .str Bl []),(9, .dat Bi BI [⟨0,577,0,1⟩])] []) nR
theorem Yus (m0:Nat):∀ n,bE m0 n=DJ.t1 n:=ind rfl λ n _=>by kernel_rfl
def Yvs (m0:Nat):=BJ XN m0 vz 0 nR
def Yws (m0:Nat):=BA 0 (Yvs m0)
def Ymb:=Bz 2 (Bb 6 (BM (By (BM (Bb 6 nQ)))))
def Zud (m0 n:Nat):DJ.A0:=λ x4 x5 x6 x7 x8 x9=>ej XN n (.loop Ymb) 0 (mk [(0, .dat .str x4 []),(6, .dat AX x5 []),(9, .dat Bi x6 [⟨0,577,0,1⟩]),(10, .dat AX x7 []),(13, .dat Bi x8 [⟨0,833,0,1⟩]),(15, .dat AX x9 [])] []) (Yws m0)
theorem Yxs (m0:Nat):∀ n,Zud m0 n=DJ.l0 (bE m0 m0) n:=BR (S:=DJ.S0 (bE m0 m0)) λ n=>by kernel_rfl
abbrev Zvd:=AM.spec [.val .str, .val AX] [(Bi,[⟨0,1,0,1⟩]),(AX,[])] λ x=>DJ x.1 x.2.1
theorem Yn9:Bh prog 102 Zvd:=B9 Bo (fn:=f102) (λ m x=>show run XN nQ m x nR=DJ.S (Zud m m) (bE m m) x.1 x.2.1 from by kernel_rfl) (λ x=>by rw [Yxs fu fu,Yus fu fu];rfl) (Bn ⟨⟨XL,call162,λ _=>Bj rfl⟩,⟨⟨XJ,call104,nw⟩,⟨⟨Zti,call131,λ _=>Bj rfl⟩,trivial⟩⟩⟩)
abbrev kW:=AM.spec [.val .str, .val AX] [(AX,[]),(AX,[]),(.bool,[])] λ x=>Sq x.1 x.2.1
theorem Zgl:Bh prog 164 kW:=Ck Bo (fn:=f164) (lk:=(AM.look [(162,UT)])) (ks:=⟨[],[],[],⟨tt [4,5,6],[]⟩,[],[162],[],[]⟩) (ts:=[.tmp 4, .tmp 5, .tmp 6]) (λ _=>by kernel_rfl) (Bn ⟨⟨XL,call162,λ _=>Bj rfl⟩,trivial⟩)
abbrev kX:=AM.spec [.val AX] [(AX,[])] λ x=>Wj x.1
theorem Zhl:Bh prog 165 kX:=Ck Bo (fn:=f165) (lk:=(AM.look [(126,UP)])) (ks:=⟨[],[],[],⟨tt [2],[]⟩,[],[126],[],[]⟩) (ts:=[.tmp 2]) (λ _=>by kernel_rfl) (Bn ⟨⟨Xn,call126,λ _=>Bj rfl⟩,trivial⟩)
abbrev Qj:=BY.env (AM.look [(164,kW),(162,UT),(165,kX),(104,US),(132,kb)]) ⟨[(0,⟨tt [0,1,6,7,9,10],[]⟩),(2,⟨tt [0,9,14,16,17],[]⟩)],[],[(5,⟨tt [0,1],[]⟩),(17,⟨tt [0,1,6,7,9],[]⟩),(27,⟨tt [0,16],[]⟩)],⟨tt [4,5],[]⟩,[],[132,162,164,165],[],[]⟩
def U8:=bd f103
abbrev U9:=fin Qj [.tmp 4, .tmp 5] [] [(Bi,[⟨0,1,0,1⟩]),(AX,[])]
def vA:=Bb 11 U8
def kY (m0 n:Nat):BP.A4:=λ Fm FX=>ej Qj n (.tail vA) 0 (mk [(0, .dat .str Fm []),(16, .dat Bi FX [⟨0,1025,0,1⟩])] []) U9
theorem Yys (m0 m1 m2:Nat):∀ n,kY m0 n=BP.t4 n:=ind rfl λ n _=>by kernel_rfl
def Yzs (m0 m1 m2:Nat):=BJ Qj m2 vA 0 U9
def Yat (m0 m1 m2:Nat):=BA 2 (Yzs m0 m1 m2)
def Ynb:=Bz 2 (By (BM (Bb 10 U8)))
def Zwd (m0 m1 m2 n:Nat):BP.A3:=λ DP CX C4 DO Dy=>ej Qj n (.loop Ynb) 2 (mk [(0, .dat .str DP []),(9, .dat Bi CX [⟨0,577,0,1⟩]),(14, .dat Bi C4 [⟨0,897,0,1⟩]),(16, .dat Bi DO [⟨0,1025,0,1⟩]),(17, .dat AX Dy [])] []) (Yat m0 m1 m2)
theorem Ybt (m0 m1 m2:Nat):∀ n,Zwd m0 m1 m2 n=BP.l3 (kY m0 m2) n:=BR (S:=BP.S3 (kY m0 m2)) λ n=>by kernel_rfl
def vC:=Bb 7 U8
def kZ (m0 n:Nat):BP.A2:=λ BI B0 BS B2 Cy=>ej Qj n (.tail vC) 0 (mk [(0, .dat .str BI []),(1, .dat AX B0 []),(6, .dat AX BS []),(7, .dat AX B2 []),(9, .dat Bi Cy [⟨0,577,0,1⟩])] []) U9
theorem Yct (m0 m1:Nat):∀ n,kZ m0 n=BP.t2 n:=ind rfl λ n _=>(show _=BP.S2 (Zwd m0 m1 n n) from by kernel_rfl).trans (by rw [Ybt m0 m1 n n,Yys m0 m1 n n];rfl)
def Ydt (m0 m1:Nat):=BJ Qj m1 vC 0 U9
def Yet (m0 m1:Nat):=BA 0 (Ydt m0 m1)
def Yob:=Bz 2 (By (BM (Bb 6 U8)))
def Zxd (m0 m1 n:Nat):BP.A1:=λ x4 x5 x6 x7 x8 x9=>ej Qj n (.loop Yob) 0 (mk [(0, .dat .str x4 []),(1, .dat AX x5 []),(6, .dat AX x6 []),(7, .dat AX x7 []),(9, .dat Bi x8 [⟨0,577,0,1⟩]),(10, .dat AX x9 [])] []) (Yet m0 m1)
theorem Yft (m0 m1:Nat):∀ n,Zxd m0 m1 n=BP.l1 (kZ m0 m1) n:=BR (S:=BP.S1 (kZ m0 m1)) λ n=>by kernel_rfl
def Ypb:=Bb 3 U8
def Zyd (m0 n:Nat):BP.A0:=λ x1 x2=>ej Qj n (.tail Ypb) 0 (mk [(0, .dat .str x1 []),(1, .dat AX x2 [])] []) U9
theorem Ygt (m0:Nat):∀ n,Zyd m0 n=BP.t0 n:=ind rfl λ n _=>(show _=BP.S0 (Zxd m0 n n) from by kernel_rfl).trans (by rw [Yft m0 n n,Yct m0 n n];rfl)
abbrev Zzd:=AM.spec [.val .str, .val AX] [(Bi,[⟨0,1,0,1⟩]),(AX,[])] λ x=>BP x.1 x.2.1
theorem Yo9:Bh prog 103 Zzd:=B9 Bo (fn:=f103) (λ m x=>show run Qj U8 m x U9=BP.S (Zyd m m) x.1 x.2.1 from by kernel_rfl) (λ x=>by rw [Ygt fu fu];rfl) (Bn ⟨⟨Zgl,call164,λ _=>Bj rfl⟩,⟨⟨XL,call162,λ _=>Bj rfl⟩,⟨⟨Zhl,call165,λ _=>Bj rfl⟩,⟨⟨XJ,call104,nw⟩,⟨⟨Zvi,call132,λ _=>Bj rfl⟩,trivial⟩⟩⟩⟩⟩)
abbrev Zil:=AM.spec [.val .str, .val AX, .val AX] [(Bi,[⟨0,1,0,1⟩]),(.bool,[])] λ x=>QY x.1 x.2.1 x.2.2.1
theorem Xef:Bh prog 56 Zil:=Ck Bo (fn:=f56) (lk:=(AM.look [(99,Zal),(100,kU),(101,kV),(102,Zvd),(103,Zzd),(104,US)])) (ks:=(kz [6,7])) (ts:=[.tmp 6, .tmp 7]) (λ _=>by kernel_rfl) (Bn ⟨⟨Xdf,call99,nw⟩,⟨⟨Zdl,call100,nw⟩,⟨⟨Zfl,call101,nw⟩,⟨⟨Yn9,call102,nw⟩,⟨⟨Yo9,call103,nw⟩,⟨⟨XJ,call104,nw⟩,trivial⟩⟩⟩⟩⟩⟩)
abbrev Tm:=BY.env (AM.look [(55,nI),(98,nH)]) ⟨[(0,⟨tt [0,1,2,10],[]⟩),(2,⟨tt [2,11,13,14,15],[]⟩)],[],[(11,⟨tt [0,1,2],[]⟩)],⟨tt [6,7],[]⟩,[],[55],[],[]⟩
def Yr:=bd f58
abbrev dR:=fin Tm [.tmp 6, .tmp 7] [] [(CQ,[⟨0,1,0,3⟩]),(AX,[])]
def Yht:=Bb 9 Yr
def Yz1 (m0 m1:Nat):=BJ Tm m1 Yht 0 dR
def Ya2 (m0 m1:Nat):=BA 2 (Yz1 m0 m1)
def Yit:=Bz 2 (By (BM (Bb 8 Yr)))
def Zjl (m0 m1 n:Nat):Cl.A2:=λ Bl BI B0 BS B2=>ej Tm n (.loop Yit) 2 (mk [(2, .dat CQ Bl []),(11, .dat Bi BI []),(13, .dat CQ B0 [⟨0,833,0,3⟩]),(14, .dat AX BS []),(15, .dat AX B2 [])] []) (Ya2 m0 m1)
theorem Yb2 (m0 m1:Nat):∀ n,Zjl m0 m1 n=Cl.l2 n:=BR (S:=Cl.S2) λ n=>by kernel_rfl
def xS:=Bb 5 Yr
def nS (m0 n:Nat):Cl.A1:=λ x6 x7 x8=>ej Tm n (.tail xS) 0 (mk [(0, .dat .str x6 []),(1, .dat AX x7 []),(2, .dat CQ x8 [])] []) dR
theorem Yc2 (m0:Nat):∀ n,nS m0 n=Cl.t1 n:=ind rfl λ n _=>(show _=Cl.S1 (Zjl m0 n n) from by kernel_rfl).trans (by rw [Yb2 m0 n n];rfl)
def Yd2 (m0:Nat):=BJ Tm m0 xS 0 dR
def Ye2 (m0:Nat):=BA 0 (Yd2 m0)
def Yjt:=Bz 2 (By (BM (Bb 4 Yr)))
def Zkl (m0 n:Nat):Cl.A0:=λ x2 x3 x4 x5=>ej Tm n (.loop Yjt) 0 (mk [(0, .dat .str x2 []),(1, .dat AX x3 []),(2, .dat CQ x4 []),(10, .dat AX x5 [])] []) (Ye2 m0)
theorem Yf2 (m0:Nat):∀ n,Zkl m0 n=Cl.l0 (nS m0 m0) n:=BR (S:=Cl.S0 (nS m0 m0)) λ n=>by kernel_rfl
abbrev Zll:=AM.spec [.val .str, .val AX, .val CQ] [(CQ,[⟨0,1,0,3⟩]),(AX,[])] λ x=>Cl x.1 x.2.1 x.2.2.1
theorem Xff:Bh prog 58 Zll:=B9 Bo (fn:=f58) (λ m x=>show run Tm Yr m x dR=Cl.S (Zkl m m) x.1 x.2.1 x.2.2.1 from by kernel_rfl) (λ x=>by rw [Yf2 fu fu,Yc2 fu fu];rfl) (Bn ⟨⟨Zso,call55,λ _=>Bj rfl⟩,⟨⟨Zqo,call98,nw⟩,trivial⟩⟩)
abbrev XO:=BY.env (AM.look []) (kq [(0,⟨tt [0,1,6,7,8],[]⟩)] [(13,⟨tt [0,6,7],[]⟩)] [4,5])
def nT:=bd f105
abbrev nU:=fin XO [.tmp 4, .tmp 5] [] [(Cq,[⟨0,1,0,1⟩]),(AX,[])]
def vD:=Bb 5 nT
def la (m0 n:Nat):DH.A1:=λ x6 x7 x8=>ej XO n (.tail vD) 0 (mk [(0, .dat .str x6 []),(6, .dat Cq x7 [⟨0,385,0,1⟩]),(7, .dat AX x8 [])] []) nU
theorem Ykt (m0:Nat):∀ n,la m0 n=DH.t1 n:=ind rfl λ n _=>by kernel_rfl
def Ylt (m0:Nat):=BJ XO m0 vD 0 nU
def Ymt (m0:Nat):=BA 0 (Ylt m0)
def Yqb:=Bz 2 (By (BM (Bb 4 nT)))
def Zae (m0 n:Nat):DH.A0:=λ x1 x2 x3 x4 x5=>ej XO n (.loop Yqb) 0 (mk [(0, .dat .str x1 []),(1, .dat AX x2 []),(6, .dat Cq x3 [⟨0,385,0,1⟩]),(7, .dat AX x4 []),(8, .dat AX x5 [])] []) (Ymt m0)
theorem Ynt (m0:Nat):∀ n,Zae m0 n=DH.l0 (la m0 m0) n:=BR (S:=DH.S0 (la m0 m0)) λ n=>by kernel_rfl
abbrev Zbe:=AM.spec [.val .str, .val AX] [(Cq,[⟨0,1,0,1⟩]),(AX,[])] λ x=>DH x.1 x.2.1
theorem Yp9:Bh prog 105 Zbe:=B9 Bo (fn:=f105) (λ m x=>show run XO nT m x nU=DH.S (Zae m m) x.1 x.2.1 from by kernel_rfl) (λ x=>by rw [Ynt fu fu,Ykt fu fu];rfl) (Bn trivial)
abbrev cQ:=BY.env (AM.look []) (kq [(0,⟨tt [0,1,7,8,9],[]⟩)] [] [4,5,6])
def nV:=bd f167
abbrev Zml:=fin cQ [.tmp 4, .tmp 5, .tmp 6] [] [(Cq,[⟨0,1,0,1⟩]),(AX,[]),(.bool,[])]
def Yrb:=Bb 4 nV
def Yot (m0:Nat):=BJ cQ m0 Yrb 0 Zml
def Ypt (m0:Nat):=BA 0 (Yot m0)
def Ysb:=Bz 2 (By (BM (Bb 3 nV)))
def Zce (m0 n:Nat):Em.A0:=λ x1 x2 x3 x4 x5=>ej cQ n (.loop Ysb) 0 (mk [(0, .dat .str x1 []),(1, .dat AX x2 []),(7, .dat Cq x3 [⟨0,449,0,1⟩]),(8, .dat AX x4 []),(9, .dat AX x5 [])] []) (Ypt m0)
theorem Yqt (m0:Nat):∀ n,Zce m0 n=Em.l0 n:=BR (S:=Em.S0) λ n=>by kernel_rfl
abbrev Zde:=AM.spec [.val .str, .val AX] [(Cq,[⟨0,1,0,1⟩]),(AX,[]),(.bool,[])] λ x=>Em x.1 x.2.1
theorem Yq9:Bh prog 167 Zde:=B9 Bo (fn:=f167) (λ m x=>show run cQ nV m x Zml=Em.S (Zce m m) x.1 x.2.1 from by kernel_rfl) (λ x=>by rw [Yqt fu fu];rfl) (Bn trivial)
abbrev cR:=BY.env (AM.look [(162,UT),(167,Zde),(100,kU),(101,kV)]) ⟨[(0,⟨tt [9,14,16,17],[]⟩)],[],[],⟨tt [4,5],[]⟩,[],[162],[],[]⟩
def nX:=bd f106
abbrev Znl:=fin cR [.tmp 4, .tmp 5] [] [(Cq,[⟨0,1,0,1⟩]),(.bool,[])]
def Ytb:=Bb 11 nX
def Yrt (m0:Nat):=BJ cR m0 Ytb 0 Znl
def Yst (m0:Nat):=BA 0 (Yrt m0)
def Yub:=Bz 2 (By (BM (Bb 10 nX)))
def Zee (m0 n:Nat):EJ.A0:=λ x5 x6 x7 x8=>ej cR n (.loop Yub) 0 (mk [(9, .dat Cq x5 [⟨0,577,0,1⟩]),(14, .dat Bi x6 [⟨0,897,0,1⟩]),(16, .dat Cq x7 [⟨0,1025,0,1⟩]),(17, .dat AX x8 [])] []) (Yst m0)
theorem Ytt (m0:Nat):∀ n,Zee m0 n=EJ.l0 n:=BR (S:=EJ.S0) λ n=>by kernel_rfl
abbrev Zfe:=AM.spec [.val .str, .val AX] [(Cq,[⟨0,1,0,1⟩]),(.bool,[])] λ x=>EJ x.1 x.2.1
theorem Yr9:Bh prog 106 Zfe:=B9 Bo (fn:=f106) (λ m x=>show run cR nX m x Znl=EJ.S (Zee m m) x.1 x.2.1 from by kernel_rfl) (λ x=>by rw [Ytt fu fu];rfl) (Bn ⟨⟨XL,call162,λ _=>Bj rfl⟩,⟨⟨Yq9,call167,nw⟩,⟨⟨Zdl,call100,nw⟩,⟨⟨Zfl,call101,nw⟩,trivial⟩⟩⟩⟩)
abbrev cS:=BY.env (AM.look []) (kq [(0,⟨tt [0,1,7,8,9],[]⟩)] [] [4,5,6])
def nY:=bd f168
abbrev Zol:=fin cS [.tmp 4, .tmp 5, .tmp 6] [] [(Cq,[⟨0,1,0,1⟩]),(AX,[]),(.bool,[])]
def Yvb:=Bb 4 nY
def Yut (m0:Nat):=BJ cS m0 Yvb 0 Zol
def Yvt (m0:Nat):=BA 0 (Yut m0)
def Ywb:=Bz 2 (By (BM (Bb 3 nY)))
def Zge (m0 n:Nat):Ix.A0:=λ x1 x2 x3 x4 x5=>ej cS n (.loop Ywb) 0 (mk [(0, .dat .str x1 []),(1, .dat AX x2 []),(7, .dat Cq x3 [⟨0,449,0,1⟩]),(8, .dat AX x4 []),(9, .dat AX x5 [])] []) (Yvt m0)
theorem Ywt (m0:Nat):∀ n,Zge m0 n=Ix.l0 n:=BR (S:=Ix.S0) λ n=>by kernel_rfl
abbrev Zhe:=AM.spec [.val .str, .val AX] [(Cq,[⟨0,1,0,1⟩]),(AX,[]),(.bool,[])] λ x=>Ix x.1 x.2.1
theorem Ys9:Bh prog 168 Zhe:=B9 Bo (fn:=f168) (λ m x=>show run cS nY m x Zol=Ix.S (Zge m m) x.1 x.2.1 from by kernel_rfl) (λ x=>by rw [Ywt fu fu];rfl) (Bn trivial)
abbrev Va:=BY.env (AM.look [(164,kW),(168,Zhe),(165,kX),(104,US),(136,kh)]) ⟨[(0,⟨tt [0,9,12,14,15],[]⟩)],[],[(5,⟨tt [0,1],[]⟩),(21,⟨tt [0,14],[]⟩)],⟨tt [4,5],[]⟩,[],[136,164,165],[],[]⟩
def cT:=bd f107
abbrev cU:=fin Va [.tmp 4, .tmp 5] [] [(Cq,[⟨0,1,0,1⟩]),(AX,[])]
def vE:=Bb 11 cT
def ld (m0 n:Nat):Cx.A2:=λ B0 BS=>ej Va n (.tail vE) 0 (mk [(0, .dat .str B0 []),(14, .dat Cq BS [⟨0,897,0,1⟩])] []) cU
theorem Yxt (m0 m1:Nat):∀ n,ld m0 n=Cx.t2 n:=ind rfl λ n _=>by kernel_rfl
def Yyt (m0 m1:Nat):=BJ Va m1 vE 0 cU
def Yzt (m0 m1:Nat):=BA 0 (Yyt m0 m1)
def Yxb:=Bz 2 (By (BM (Bb 10 cT)))
def Zie (m0 m1 n:Nat):Cx.A1:=λ x7 x8 x9 Bl BI=>ej Va n (.loop Yxb) 0 (mk [(0, .dat .str x7 []),(9, .dat Cq x8 [⟨0,577,0,1⟩]),(12, .dat Bi x9 [⟨0,769,0,1⟩]),(14, .dat Cq Bl [⟨0,897,0,1⟩]),(15, .dat AX BI [])] []) (Yzt m0 m1)
theorem Yau (m0 m1:Nat):∀ n,Zie m0 m1 n=Cx.l1 (ld m0 m1) n:=BR (S:=Cx.S1 (ld m0 m1)) λ n=>by kernel_rfl
def Yyb:=Bb 3 cT
def Zje (m0 n:Nat):Cx.A0:=λ x1 x2=>ej Va n (.tail Yyb) 0 (mk [(0, .dat .str x1 []),(1, .dat AX x2 [])] []) cU
theorem Ybu (m0:Nat):∀ n,Zje m0 n=Cx.t0 n:=ind rfl λ n _=>(show _=Cx.S0 (Zie m0 n n) from by kernel_rfl).trans (by rw [Yau m0 n n,Yxt m0 n n];rfl)
abbrev Zke:=AM.spec [.val .str, .val AX] [(Cq,[⟨0,1,0,1⟩]),(AX,[])] λ x=>Cx x.1 x.2.1
theorem Yt9:Bh prog 107 Zke:=B9 Bo (fn:=f107) (λ m x=>show run Va cT m x cU=Cx.S (Zje m m) x.1 x.2.1 from by kernel_rfl) (λ x=>by rw [Ybu fu fu];rfl) (Bn ⟨⟨Zgl,call164,λ _=>Bj rfl⟩,⟨⟨Ys9,call168,nw⟩,⟨⟨Zhl,call165,λ _=>Bj rfl⟩,⟨⟨XJ,call104,nw⟩,⟨⟨Zcj,call136,λ _=>Bj rfl⟩,trivial⟩⟩⟩⟩⟩)
abbrev Zpl:=AM.spec [.val .str, .val AX, .val AX] [(Cq,[⟨0,1,0,1⟩]),(.bool,[])] λ x=>Ud x.1 x.2.1 x.2.2.1
theorem Xgf:Bh prog 57 Zpl:=Ck Bo (fn:=f57) (lk:=(AM.look [(105,Zbe),(106,Zfe),(107,Zke)])) (ks:=(kz [6,7])) (ts:=[.tmp 6, .tmp 7]) (λ _=>by kernel_rfl) (Bn ⟨⟨Yp9,call105,nw⟩,⟨⟨Yr9,call106,nw⟩,⟨⟨Yt9,call107,nw⟩,trivial⟩⟩⟩)
abbrev Vp:=BY.env (AM.look [(54,Zvk),(55,nI),(56,Zil),(58,Zll),(10,lQ),(57,Zpl)]) ⟨[(0,⟨tt [0,4,5,7,10,11,13],tt [4]⟩),(2,⟨tt [0,4,5,7,10,14,16],tt [4]⟩)],[],[(21,⟨tt [0,4,5,7,10],tt [4]⟩)],⟨tt [2,3],[]⟩,[],[10,54,55],[],[]⟩
def dS:=bd f19
abbrev pg:=fin Vp [.tmp 2, .tmp 3] [] [(CQ,[⟨0,1,0,3⟩]),(AX,[])]
def xT:=Bb 7 dS
def XP (m0 n:Nat):Cu.A1:=λ BI B0 BS B2 Cy=>ej Vp n (.tail xT) 0 (mk [(0, .dat .str BI []),(4, .ptr 4 0 0),(5, .dat .str B0 []),(7, .dat .bool BS []),(10, .dat CQ B2 [⟨0,641,0,3⟩])] [(4,some (.var Pm Cy []))]) pg
theorem Yg2 (m0:Nat):∀ n,XP m0 n=Cu.t1 n:=ind rfl λ n _=>by kernel_rfl
def Zle (m0:Nat):=BJ Vp m0 xT 0 pg
def Yh2 (m0:Nat):=BA 0 (Zle m0)
def Ycu:=Bz 2 (Bb 3 (BM (By (BM (Bb 6 dS)))))
def Zql (m0 n:Nat):Cu.A0:=λ x4 x5 x6 x7 x8 x9 Bl=>ej Vp n (.loop Ycu) 0 (mk [(0, .dat .str x4 []),(4, .ptr 4 0 0),(5, .dat .str x5 []),(7, .dat .bool x6 []),(10, .dat CQ x7 [⟨0,641,0,3⟩]),(11, .dat Bi x8 [⟨0,705,0,1⟩]),(13, .dat AX x9 [])] [(4,some (.var Pm Bl []))]) (Yh2 m0)
theorem Yi2 (m0:Nat):∀ n,Zql m0 n=Cu.l0 (XP m0 m0) n:=BR (S:=Cu.S0 (XP m0 m0)) λ n=>by kernel_rfl
def Yj2 (m0:Nat):=BA 2 (Zle m0)
def Ydu:=Bz 2 (Bb 5 (BM (Bb 6 dS)))
def Zrl (m0 n:Nat):Cu.A2:=λ CX C4 DO Dy Fm FX Ht=>ej Vp n (.loop Ydu) 2 (mk [(0, .dat .str CX []),(4, .ptr 4 0 0),(5, .dat .str C4 []),(7, .dat .bool DO []),(10, .dat CQ Dy [⟨0,641,0,3⟩]),(14, .dat Cq Fm [⟨0,897,0,1⟩]),(16, .dat AX FX [])] [(4,some (.var Pm Ht []))]) (Yj2 m0)
theorem Yk2 (m0:Nat):∀ n,Zrl m0 n=Cu.l2 (XP m0 m0) n:=BR (S:=Cu.S2 (XP m0 m0)) λ n=>by kernel_rfl
abbrev Zyg:=AM.spec [.val .str] [(CQ,[⟨0,1,0,3⟩]),(AX,[])] λ x=>Cu x.1
theorem Xrb:Bh prog 19 Zyg:=B9 Bo (fn:=f19) (λ m x=>show run Vp dS m x pg=Cu.S (Zql m m) (Zrl m m) x.1 from by kernel_rfl) (λ x=>by rw [Yk2 fu fu,Yi2 fu fu,Yg2 fu fu];rfl) (Bn ⟨⟨Xcf,call54,λ _=>Bj rfl⟩,⟨⟨Zso,call55,λ _=>Bj rfl⟩,⟨⟨Xef,call56,nw⟩,⟨⟨Xff,call58,nw⟩,⟨⟨Zsn,call10,λ _=>Bj rfl⟩,⟨⟨Xgf,call57,nw⟩,trivial⟩⟩⟩⟩⟩⟩)
abbrev dT:=BY.env (AM.look []) (kq [(0,⟨tt [0,1,5],[]⟩)] [] [4])
def ph:=bd f16
abbrev Zuo:=fin dT [.tmp 4] [] [(.bool,[])]
def Yeu:=Bb 3 ph
def Yl2 (m0:Nat):=BJ dT m0 Yeu 0 Zuo
def Ym2 (m0:Nat):=BA 0 (Yl2 m0)
def Yfu:=Bz 2 (By (BM (Bb 2 ph)))
def Zsl (m0 n:Nat):JU.A0:=λ x1 x2 x3=>ej dT n (.loop Yfu) 0 (mk [(0, .dat CQ x1 []),(1, .dat CQ x2 []),(5, .dat AX x3 [])] []) (Ym2 m0)
theorem Yn2 (m0:Nat):∀ n,Zsl m0 n=JU.l0 n:=BR (S:=JU.S0) λ n=>by kernel_rfl
abbrev Zvg:=AM.spec [.val CQ, .val CQ] [(.bool,[])] λ x=>JU x.1 x.2.1
theorem Xob:Bh prog 16 Zvg:=B9 Bo (fn:=f16) (λ m x=>show run dT ph m x Zuo=JU.S (Zsl m m) x.1 x.2.1 from by kernel_rfl) (λ x=>by rw [Yn2 fu fu];rfl) (Bn trivial)
abbrev Zme:=AM.spec [.val AX] [(.bool,[])] λ x=>some (Q6 x.1)
theorem Yu9:Bh prog 113 Zme:=Ck Bo (fn:=f113) (lk:=(AM.look [])) (ks:=(kz [2])) (ts:=[.tmp 2]) (λ x=>(show _=Q6.o x.1 from by kernel_rfl).trans (by unfold Q6.o Q6;simp only [Na])) (Bn trivial)
abbrev cV:=BY.env (AM.look [(113,Zme)]) ⟨[(0,⟨tt [0,1,7,8],[]⟩)],[],[],⟨tt [4],[]⟩,[],[113],[],[]⟩
def nZ:=bd f169
abbrev Ztl:=fin cV [.tmp 4] [] [(AX,[])]
def Yzb:=Bb 2 nZ
def Ygu (m0:Nat):=BJ cV m0 Yzb 0 Ztl
def Yhu (m0:Nat):=BA 0 (Ygu m0)
def Yac:=Bz 2 (By (BM (By nZ)))
def Zne (m0 n:Nat):Io.A0:=λ x1 x2 x3=>ej cV n (.loop Yac) 0 (mk [(0, .dat Bi x1 []),(1, .fn 113 []),(7, .dat AX x2 []),(8, .dat AX x3 [])] []) (Yhu m0)
theorem Yiu (m0:Nat):∀ n,Zne m0 n=Io.l0 n:=BR (S:=Io.S0) λ n=>by kernel_rfl
abbrev Zoe:=AM.spec [.val Bi, .fn 113 []] [(AX,[])] λ x=>Io x.1
theorem Yv9:Bh prog 169 Zoe:=B9 Bo (fn:=f169) (λ m x=>show run cV nZ m x Ztl=Io.S (Zne m m) x.1 from by kernel_rfl) (λ x=>by rw [Yiu fu fu];rfl) (Bn ⟨⟨Yu9,call113,λ _=>Bj rfl⟩,trivial⟩)
abbrev Zgr:=AM.spec [.val Bi, .fn 113 []] [(.bool,[])] λ x=>QX x.1
theorem Zhr:Bh prog 112 Zgr:=Ck Bo (fn:=f112) (lk:=(AM.look [(169,Zoe)])) (ks:=⟨[],[],[],⟨tt [4],[]⟩,[],[169],[],[]⟩) (ts:=[.tmp 4]) (λ _=>by kernel_rfl) (Bn ⟨⟨Yv9,call169,λ _=>Bj rfl⟩,trivial⟩)
abbrev Zfv:=AM.spec [.val AX, .val AX] [(AX,[])] λ x=>OO x.1 x.2.1
theorem Zjx:Bh prog 85 Zfv:=Ck Bo (fn:=f85) (lk:=(AM.look [(148,bm)])) (ks:=⟨[],[],[],⟨tt [4],[]⟩,[],[148],[],[]⟩) (ts:=[.tmp 4]) (λ _=>by kernel_rfl) (Bn ⟨⟨mK,call148,λ _=>Bj rfl⟩,trivial⟩)
abbrev gy:=AM.spec [.val Bi] [(.bool,[])] λ x=>My x.1
theorem gH:Bh prog 109 gy:=Ck Bo (fn:=f109) (lk:=(AM.look [])) (ks:=(kz [2])) (ts:=[.tmp 2]) (λ _=>by kernel_rfl) (Bn trivial)
abbrev Pa:=BY.env (AM.look []) (kq [] [(8,⟨tt [3,5],[]⟩),(14,⟨tt [3,5],[]⟩)] [2])
def Qk:=bd f196
abbrev Zul:=fin Pa [.tmp 2] [] [(AX,[])]
def Ybc:=Bb 3 Qk
def Yju (m0:Nat):=BJ Pa m0 Ybc 0 Zul
def Yku (m0:Nat):=BA 0 (Yju m0)
def Ycc:=By (BM (By (BM (Bb 2 Qk))))
def Ylu (m0:Nat):=BJ Pa m0 Ycc 0 (Yku m0)
def Ymu (m0:Nat):=BA 4 (Ylu m0)
def Ydc:=By (Bz 3 (By (BM (Bb 2 Qk))))
def Ynu (m0:Nat):=BJ Pa m0 Ydc 4 (Ymu m0)
def You (m0:Nat):=BA 3 (Ynu m0)
def Yec:=By (Bz 5 (By (BM (Bb 2 Qk))))
def Ypu (m0:Nat):=BJ Pa m0 Yec 3 (You m0)
def Yqu (m0:Nat):=BA 2 (Ypu m0)
def Yfc:=By (Bz 7 (By (BM (Bb 2 Qk))))
def Yru (m0:Nat):=BJ Pa m0 Yfc 2 (Yqu m0)
def Ygc (m0:Nat):=BA 1 (Yru m0)
def Yhc:=By (Bz 9 (By (BM (Bb 2 Qk))))
def vF (m0:Nat):=BJ Pa m0 Yhc 1 (Ygc m0)
def Yic:=Bb 3 (Bz 10 (By (BM (Bb 2 Qk))))
def Zpe (m0 n:Nat):Gk.A1:=λ x3 x4=>ej Pa n (.tail Yic) 1 (mk [(3, .dat AX x3 []),(5, .dat (.int .u64) x4 [])] []) (vF m0)
theorem Ysu (m0 m1:Nat):∀ n,Zpe m0 n=Gk.t1 n:=ind rfl λ n _=>by kernel_rfl
def Yjc:=Bb 2 (Bz 10 (By (BM (Bb 2 Qk))))
def Zqe (m0 n:Nat):Gk.A0:=λ x1 x2=>ej Pa n (.tail Yjc) 1 (mk [(3, .dat AX x1 []),(5, .dat (.int .u64) x2 [])] []) (vF m0)
theorem Ytu (m0:Nat):∀ n,Zqe m0 n=Gk.t0 n:=ind rfl λ n _=>(show _=Gk.S0 (Zpe m0 n) from by kernel_rfl).trans (by rw [Ysu m0 n n];rfl)
abbrev Zre:=AM.spec [.val (.int .u64)] [(AX,[])] λ x=>Gk x.1
theorem Yw9:Bh prog 196 Zre:=B9 Bo (fn:=f196) (λ m x=>show run Pa Qk m x Zul=Gk.S (Zqe m m) x.1 from by kernel_rfl) (λ x=>by rw [Ytu fu fu];rfl) (Bn trivial)
abbrev cW:=BY.env (AM.look [(196,Zre)]) ⟨[(0,⟨tt [0,3,5],[]⟩)],[],[],⟨tt [2],[]⟩,[],[196],[],[]⟩
def n7:=bd f144
abbrev Zvl:=fin cW [.tmp 2] [] [(AX,[])]
def Ykc:=Bb 3 n7
def Yuu (m0:Nat):=BJ cW m0 Ykc 0 Zvl
def Yvu (m0:Nat):=BA 0 (Yuu m0)
def Ylc:=Bz 2 (By (BM (Bb 2 n7)))
def Zse (m0 n:Nat):Hi.A0:=λ x1 x2 x3=>ej cW n (.loop Ylc) 0 (mk [(0, .dat AX x1 []),(3, .dat AX x2 []),(5, .dat AX x3 [])] []) (Yvu m0)
theorem Ywu (m0:Nat):∀ n,Zse m0 n=Hi.l0 n:=BR (S:=Hi.S0) λ n=>by kernel_rfl
abbrev lf:=AM.spec [.val AX] [(AX,[])] λ x=>Hi x.1
theorem Zwl:Bh prog 144 lf:=B9 Bo (fn:=f144) (λ m x=>show run cW n7 m x Zvl=Hi.S (Zse m m) x.1 from by kernel_rfl) (λ x=>by rw [Ywu fu fu];rfl) (Bn ⟨⟨Yw9,call196,λ _=>Bj rfl⟩,trivial⟩)
abbrev jI:=AM.spec [.val AX, .val AX] [(.bool,[])] λ x=>some (NY x.1 x.2.1)
theorem Zjf:Bh prog 185 jI:=Ck Bo (fn:=f185) (lk:=(AM.look [])) (ks:=(kz [4])) (ts:=[.tmp 4]) (λ x=>(show _=NY.o x.1 x.2.1 from by kernel_rfl).trans (by unfold NY.o NY;simp only [Na])) (Bn trivial)
abbrev Zte:=AM.spec [.val AX, .val AX, .val AX] [(AX,[])] λ x=>ZN x.1 x.2.1 x.2.2.1
theorem Yx9:Bh prog 145 Zte:=Ck Bo (fn:=f145) (lk:=(AM.look [(185,jI),(186,W0)])) (ks:=⟨[],[],[],⟨tt [6],[]⟩,[],[185,186],[],[]⟩) (ts:=[.tmp 6]) (λ _=>by kernel_rfl) (Bn ⟨⟨Zjf,call185,λ _=>Bj rfl⟩,⟨⟨bI,call186,λ _=>Bj rfl⟩,trivial⟩⟩)
abbrev dU:=BY.env (AM.look [(109,gy),(144,lf),(145,Zte)]) ⟨[(0,⟨tt [1,5,16,17,18],[]⟩)],[],[],⟨tt [4],[]⟩,[],[109,144,145],[],[]⟩
def pj:=bd f80
abbrev Zvo:=fin dU [.tmp 4] [] [(AX,[])]
def Yxu:=Bb 4 pj
def Yo2 (m0:Nat):=BJ dU m0 Yxu 0 Zvo
def Yp2 (m0:Nat):=BA 0 (Yo2 m0)
def Yyu:=Bz 2 (By (BM (Bb 3 pj)))
def Zxl (m0 n:Nat):GQ.A0:=λ x2 x3 x4 x5 x6=>ej dU n (.loop Yyu) 0 (mk [(1, .dat AX x2 []),(5, .dat AX x3 []),(16, .dat Bi x4 []),(17, .dat AX x5 []),(18, .dat AX x6 [])] []) (Yp2 m0)
theorem Yq2 (m0:Nat):∀ n,Zxl m0 n=GQ.l0 n:=BR (S:=GQ.S0) λ n=>by kernel_rfl
abbrev Zyl:=AM.spec [.val Bi, .val AX] [(AX,[])] λ x=>GQ x.1 x.2.1
theorem Xhf:Bh prog 80 Zyl:=B9 Bo (fn:=f80) (λ m x=>show run dU pj m x Zvo=GQ.S (Zxl m m) x.1 x.2.1 from by kernel_rfl) (λ x=>by rw [Yq2 fu fu];rfl) (Bn ⟨⟨gH,call109,λ _=>Bj rfl⟩,⟨⟨Zwl,call144,λ _=>Bj rfl⟩,⟨⟨Yx9,call145,λ _=>Bj rfl⟩,trivial⟩⟩⟩)
abbrev dV:=BY.env (AM.look []) (kq [(0,⟨tt [3,6,7,8],[]⟩)] [] [2])
def pk:=bd f35
abbrev Zwo:=fin dV [.tmp 2] [] [(.bool,[])]
def Yzu:=Bb 3 pk
def Yr2 (m0:Nat):=BJ dV m0 Yzu 0 Zwo
def Ys2 (m0:Nat):=BA 0 (Yr2 m0)
def Yav:=Bz 2 (By (BM (Bb 2 pk)))
def Zzl (m0 n:Nat):Gn.A0:=λ x1 x2 x3 x4=>ej dV n (.loop Yav) 0 (mk [(3, .dat AX x1 []),(6, .dat GY x2 []),(7, .dat AX x3 []),(8, .dat AX x4 [])] []) (Ys2 m0)
theorem Yt2 (m0:Nat):∀ n,Zzl m0 n=Gn.l0 n:=BR (S:=Gn.S0) λ n=>by kernel_rfl
abbrev SM:=AM.spec [.val GY] [(.bool,[])] λ x=>Gn x.1
theorem Ve:Bh prog 35 SM:=B9 Bo (fn:=f35) (λ m x=>show run dV pk m x Zwo=Gn.S (Zzl m m) x.1 from by kernel_rfl) (λ x=>by rw [Yt2 fu fu];rfl) (Bn trivial)
abbrev dW:=BY.env (AM.look [(35,SM)]) ⟨[(0,⟨tt [1,5,12,13,14],[]⟩)],[],[],⟨tt [4],[]⟩,[],[35],[],[]⟩
def pn:=bd f82
abbrev Zxo:=fin dW [.tmp 4] [] [(AX,[])]
def Ybv:=Bb 4 pn
def Yu2 (m0:Nat):=BJ dW m0 Ybv 0 Zxo
def Yv2 (m0:Nat):=BA 0 (Yu2 m0)
def Ycv:=Bz 2 (By (BM (By (BM (Bb 3 pn)))))
def Zam (m0 n:Nat):Hh.A0:=λ x2 x3 x4 x5 x6=>ej dW n (.loop Ycv) 0 (mk [(1, .dat AX x2 []),(5, .dat AX x3 []),(12, .dat GY x4 []),(13, .dat AX x5 []),(14, .dat AX x6 [])] []) (Yv2 m0)
theorem Yw2 (m0:Nat):∀ n,Zam m0 n=Hh.l0 n:=BR (S:=Hh.S0) λ n=>by kernel_rfl
abbrev Zbm:=AM.spec [.val GY, .val AX] [(AX,[])] λ x=>Hh x.1 x.2.1
theorem Xif:Bh prog 82 Zbm:=B9 Bo (fn:=f82) (λ m x=>show run dW pn m x Zxo=Hh.S (Zam m m) x.1 x.2.1 from by kernel_rfl) (λ x=>by rw [Yw2 fu fu];rfl) (Bn ⟨⟨Ve,call35,λ _=>Bj rfl⟩,trivial⟩)
abbrev Zor:=AM.spec [.val Lf, .val AX] [(AX,[])] λ x=>LP x.1 x.2.1
theorem Zrr:Bh prog 40 Zor:=Ck Bo (fn:=f40) (lk:=(AM.look [(80,Zyl),(81,ns),(82,Zbm)])) (ks:=⟨[],[],[],⟨tt [4],[]⟩,[],[80,81,82],[],[]⟩) (ts:=[.tmp 4]) (λ _=>by kernel_rfl) (Bn ⟨⟨Xhf,call80,λ _=>Bj rfl⟩,⟨⟨Zoo,call81,λ _=>Bj rfl⟩,⟨⟨Xif,call82,λ _=>Bj rfl⟩,trivial⟩⟩⟩)
abbrev dX:=BY.env (AM.look [(109,gy),(144,lf)]) ⟨[(0,⟨tt [3,8,9,10],[]⟩)],[],[],⟨tt [2],[]⟩,[],[109,144],[],[]⟩
def po:=bd f83
abbrev Zyo:=fin dX [.tmp 2] [] [(AX,[])]
def Ydv:=Bb 3 po
def Yx2 (m0:Nat):=BJ dX m0 Ydv 0 Zyo
def Yy2 (m0:Nat):=BA 0 (Yx2 m0)
def Yev:=Bz 2 (By (BM (By (BM (Bb 2 po)))))
def Zcm (m0 n:Nat):He.A0:=λ x2 x3 x4 x5=>ej dX n (.loop Yev) 0 (mk [(3, .dat AX x2 []),(8, .dat Bi x3 []),(9, .dat AX x4 []),(10, .dat AX x5 [])] []) (Yy2 m0)
theorem Yz2 (m0:Nat):∀ n,Zcm m0 n=He.l0 n:=BR (S:=He.S0) λ n=>by kernel_rfl
abbrev Zdm:=AM.spec [.val Bi] [(AX,[])] λ x=>He x.1
theorem Xjf:Bh prog 83 Zdm:=B9 Bo (fn:=f83) (λ m x=>show run dX po m x Zyo=He.S (Zcm m m) x.1 from by kernel_rfl) (λ x=>by rw [Yz2 fu fu];rfl) (Bn ⟨⟨gH,call109,λ _=>Bj rfl⟩,⟨⟨Zwl,call144,λ _=>Bj rfl⟩,trivial⟩⟩)
abbrev dY:=BY.env (AM.look [(35,SM)]) ⟨[(0,⟨tt [3,8,9,10],[]⟩)],[],[],⟨tt [2],[]⟩,[],[35],[],[]⟩
def pq:=bd f78
abbrev Zzo:=fin dY [.tmp 2] [] [(AX,[])]
def Yfv:=Bb 3 pq
def Ya3 (m0:Nat):=BJ dY m0 Yfv 0 Zzo
def Yb3 (m0:Nat):=BA 0 (Ya3 m0)
def Ygv:=Bz 2 (By (BM (By (BM (Bb 2 pq)))))
def Zem (m0 n:Nat):Gj.A0:=λ x2 x3 x4 x5=>ej dY n (.loop Ygv) 0 (mk [(3, .dat AX x2 []),(8, .dat GY x3 []),(9, .dat AX x4 []),(10, .dat AX x5 [])] []) (Yb3 m0)
theorem Yc3 (m0:Nat):∀ n,Zem m0 n=Gj.l0 n:=BR (S:=Gj.S0) λ n=>by kernel_rfl
abbrev bH:=AM.spec [.val GY] [(AX,[])] λ x=>Gj x.1
theorem om:Bh prog 78 bH:=B9 Bo (fn:=f78) (λ m x=>show run dY pq m x Zzo=Gj.S (Zem m m) x.1 from by kernel_rfl) (λ x=>by rw [Yc3 fu fu];rfl) (Bn ⟨⟨Ve,call35,λ _=>Bj rfl⟩,trivial⟩)
abbrev Zkr:=AM.spec [.val Lf] [(AX,[])] λ x=>LO x.1
theorem Znr:Bh prog 41 Zkr:=Ck Bo (fn:=f41) (lk:=(AM.look [(83,Zdm),(78,bH)])) (ks:=⟨[],[],[],⟨tt [2],[]⟩,[],[78,83],[],[]⟩) (ts:=[.tmp 2]) (λ _=>by kernel_rfl) (Bn ⟨⟨Xjf,call83,λ _=>Bj rfl⟩,⟨⟨om,call78,λ _=>Bj rfl⟩,trivial⟩⟩)
end
end Go.Proofs.YtclpadlpcfnfmaaGreat.Am
