import Derived.Test.YtclpadlpcfnfmaaGreatAmPure18A
import Derived.Test.YtclpadlpcfnfmaaGreatSPrim
/- PRINTED by gen/ of this repo: the code comes to the pure functions. -/
namespace Go.Proofs.YtclpadlpcfnfmaaGreat.Am
open Go.Proofs.Tryz
open Go.AM Go.AM.Pure
set_option linter.unusedVariables false
set_option maxRecDepth 100000
noncomputable section
abbrev Cq:Ty:= .sl .str
abbrev AX:Ty:= .int .i64
abbrev Bi:Ty:= .sl AX
abbrev Xdi:Ty:= .pair AX .str
abbrev Xei:Ty:= .pair .str Bi
abbrev pF:Ty:= .pair AX AX
abbrev GY:Ty:= .sl pF
abbrev Xfi:Ty:= .pair Bi Bi
abbrev ID:Ty:= .pair AX Xdi
abbrev CQ:Ty:= .sl ID
abbrev eH:Ty:= .pair AX pF
abbrev GZ:Ty:= .sl eH
abbrev MO:Ty:= .pair AX ID
abbrev Pm:Ty:= .pair AX eH
abbrev Xgi:Ty:= .pair GY Xfi
abbrev GD:Ty:= .pair MO Xei
abbrev Lh:Ty:= .pair AX Xgi
abbrev lS:=AM.spec [.val ID] [(.bool,[])] λ x=>some (HQ x.1)
theorem Zsn:Bh prog 59 lS:=Ck Bo (fn:=f59) (lk:=(AM.look [])) (ks:=(kz [2])) (ts:=[.tmp 2]) (λ x=>(show _=HQ.o x.1 from by kernel_rfl).trans (by unfold HQ.o HQ;simp only [Nc])) (Bn trivial)
abbrev Yo:=BY.env (AM.look [(59,lS)]) ⟨[(0,⟨tt [0,1,5],[]⟩)],[],[(3,⟨tt [0,1],[]⟩)],⟨tt [4],[]⟩,[],[59],[],[]⟩
def dO:=bd f31
abbrev oV:=fin Yo [.tmp 4] [] [(.bool,[])]
def Ygh:=Bb 3 dO
def Yyz (m0 m1:Nat):=BK Yo m1 Ygh 0 oV
def Yzz (m0 m1:Nat):=BA 0 (Yyz m0 m1)
def Yhh:=Bz 2 (By (BM (Bb 2 dO)))
def Zth (m0 m1 n:Nat):Es.A1:=λ x3 x4 x5=>ej Yo n (.loop Yhh) 0 (mk [(0, .dat CQ x3 []),(1, .dat AX x4 []),(5, .dat AX x5 [])] []) (Yzz m0 m1)
theorem Ya0 (m0 m1:Nat):∀ n,Zth m0 m1 n=Es.l1 n:=BR (S:=Es.S1) λ n=>by kernel_rfl
def Yih:=Bb 2 dO
def Zuh (m0 n:Nat):Es.A0:=λ x1 x2=>ej Yo n (.tail Yih) 0 (mk [(0, .dat CQ x1 []),(1, .dat AX x2 [])] []) oV
theorem Yb0 (m0:Nat):∀ n,Zuh m0 n=Es.t0 n:=ind rfl λ n _=>(show _=Es.S0 (Zth m0 n n) from by kernel_rfl).trans (by rw [Ya0 m0 n n];rfl)
abbrev Zvh:=AM.spec [.val CQ, .val AX] [(.bool,[])] λ x=>Es x.1 x.2.1
theorem Xse:Bh prog 31 Zvh:=B9 Bo (fn:=f31) (λ m x=>show run Yo dO m x oV=Es.S (Zuh m m) x.1 x.2.1 from by kernel_rfl) (λ x=>by rw [Yb0 fu fu];rfl) (Bn ⟨⟨Zsn,call59,λ _=>Bj rfl⟩,trivial⟩)
abbrev bT:=BY.env (AM.look []) ⟨[(0,⟨tt [0,2,3,4],tt [2,3]⟩)],[],[],⟨tt [2],tt [2]⟩,[],[],[],[]⟩
def l7:=bd f219
abbrev Zwh:=fin bT [.cell 2 227] [] [((.arr 63 .bool),[])]
def Zm5:=Bb 3 l7
def Yjh (m0:Nat):=BK bT m0 Zm5 0 Zwh
def Ykh (m0:Nat):=BA 0 (Yjh m0)
def Zn5:=Bz 2 (By (BM (Bb 2 l7)))
def zd (m0 n:Nat):GR.A0:=λ x1 x2 x3 x4=>ej bT n (.loop Zn5) 0 (mk [(0, .dat AX x1 []),(2, .ptr 2 0 0),(3, .ptr 3 0 0),(4, .dat AX x2 [])] [(2,some (.arr .bool x3 false)),(3,some (.arr .bool x4 false))]) (Ykh m0)
theorem Ylh (m0:Nat):∀ n,zd m0 n=GR.l0 n:=BR (S:=GR.S0) λ n=>by kernel_rfl
abbrev UO:=AM.spec [.val AX] [((.arr 63 .bool),[])] λ x=>GR x.1
theorem Xp:Bh prog 219 UO:=B9 Bo (fn:=f219) (λ m x=>show run bT l7 m x Zwh=GR.S (zd m m) x.1 from by kernel_rfl) (λ x=>by rw [Ylh fu fu];rfl) (Bn trivial)
abbrev bU:=BY.env (AM.look [(219,UO)]) ⟨[(0,⟨tt [3,4],tt [3]⟩)],[],[],⟨tt [2],[]⟩,[],[219],[],[]⟩
def l8:=bd f178
abbrev Zxh:=fin bU [.tmp 2] [] [(AX,[])]
def Zo5:=Bb 3 l8
def Ymh (m0:Nat):=BK bU m0 Zo5 0 Zxh
def Ynh (m0:Nat):=BA 0 (Ymh m0)
def Zp5:=Bz 2 (By (BM (Bb 2 l8)))
def ze (m0 n:Nat):GP.A0:=λ x2 x3=>ej bU n (.loop Zp5) 0 (mk [(3, .ptr 3 0 0),(4, .dat AX x2 [])] [(3,some (.arr .bool x3 false))]) (Ynh m0)
theorem Yoh (m0:Nat):∀ n,ze m0 n=GP.l0 n:=BR (S:=GP.S0) λ n=>by kernel_rfl
abbrev zf:=AM.spec [.val AX] [(AX,[])] λ x=>GP x.1
theorem Yy6:Bh prog 178 zf:=B9 Bo (fn:=f178) (λ m x=>show run bU l8 m x Zxh=GP.S (ze m m) x.1 from by kernel_rfl) (λ x=>by rw [Yoh fu fu];rfl) (Bn ⟨⟨Xp,call219,λ _=>Bj rfl⟩,trivial⟩)
abbrev bV:=BY.env (AM.look [(178,zf)]) ⟨[(0,⟨tt [0,3,4],[]⟩)],[],[],⟨tt [2],[]⟩,[],[178],[],[]⟩
def l9:=bd f126
abbrev Zyh:=fin bV [.tmp 2] [] [(AX,[])]
def Zq5:=Bb 3 l9
def Yph (m0:Nat):=BK bV m0 Zq5 0 Zyh
def Yqh (m0:Nat):=BA 0 (Yph m0)
def Zr5:=Bz 2 (By (BM (Bb 2 l9)))
def zg (m0 n:Nat):Gi.A0:=λ x1 x2 x3=>ej bV n (.loop Zr5) 0 (mk [(0, .dat Bi x1 []),(3, .dat AX x2 []),(4, .dat AX x3 [])] []) (Yqh m0)
theorem Yrh (m0:Nat):∀ n,zg m0 n=Gi.l0 n:=BR (S:=Gi.S0) λ n=>by kernel_rfl
abbrev UP:=AM.spec [.val Bi] [(AX,[])] λ x=>Gi x.1
theorem Xq:Bh prog 126 UP:=B9 Bo (fn:=f126) (λ m x=>show run bV l9 m x Zyh=Gi.S (zg m m) x.1 from by kernel_rfl) (λ x=>by rw [Yrh fu fu];rfl) (Bn ⟨⟨Yy6,call178,λ _=>Bj rfl⟩,trivial⟩)
abbrev jW:=AM.spec [.val AX, .val AX] [(AX,[])] λ x=>some (PJ x.1 x.2.1)
theorem Zzh:Bh prog 127 jW:=Ck Bo (fn:=f127) (lk:=(AM.look [])) (ks:=(kz [4])) (ts:=[.tmp 4]) (λ x=>(show _=PJ.o x.1 x.2.1 from by kernel_rfl).trans (by unfold PJ.o PJ;simp only [Nc])) (Bn trivial)
abbrev Tm:=BY.env (AM.look [(126,UP),(127,jW)]) ⟨[(0,⟨tt [0,1,6,7],tt [31]⟩),(2,⟨tt [0,1,6,7,8],tt [31]⟩)],[],[],⟨tt [4,5],[]⟩,[6,31,56,59,69],[126,127],[],[]⟩
def oW:=bd f71
abbrev Zjo:=fin Tm [.tmp 4, .tmp 5] [] [(.str,[]),(AX,[])]
def Ysh:=Bb 4 oW
def Yc0 (m0:Nat):=BK Tm m0 Ysh 0 Zjo
def zh (m0:Nat):=BA 0 (Yc0 m0)
def aO:=Bz 2 (By (BM (Bb 3 oW)))
def bW (m0 n:Nat):Dn.A0:=λ x3 x4 x5 x6=>ej Tm n (.loop aO) 0 (mk [(0, .dat Bi x3 []),(1, .dat AX x4 []),(6, .slw 31 0),(7, .dat AX x5 [])] [(31,some (.arr (.int .u8) x6 false))]) (zh m0)
def Yd0 (m0 m1:Nat):=Mq Tm m1 aO 0 (zh m0)
def Yth:=Bb 2 aO
def Ye0 (m0 m1:Nat):=BK Tm m1 Yth 0 (Yd0 m0 m1)
def Yf0 (m0 m1:Nat):=BA 1 (Ye0 m0 m1)
def Yg0 (m0 m1:Nat):=BA 2 (Yf0 m0 m1)
def Yuh:=Bz 2 (By (Bz 2 (By aO)))
def Zai (m0 m1 n:Nat):Dn.A1:=λ x7 x8 x9 Bl BJ=>ej Tm n (.loop Yuh) 2 (mk [(0, .dat Bi x7 []),(1, .dat AX x8 []),(6, .slw 31 0),(7, .dat AX x9 []),(8, .dat AX Bl [])] [(31,some (.arr (.int .u8) BJ false))]) (Yg0 m0 m1)
theorem Yh0 (m0 m1:Nat):∀ n,Zai m0 m1 n=Dn.l1 (bW m0 m1) n:=BR (S:=Dn.S1 (bW m0 m1)) λ n=>by kernel_rfl
theorem Yi0 (m0:Nat):∀ n,bW m0 n=Dn.l0 n:=ind rfl λ n e0=>(show _=Dn.S0 (Zai m0 n n) from by kernel_rfl).trans (by rw [Yh0 m0 n n,e0];rfl)
abbrev U1:=AM.spec [.val Bi, .val AX] [(.str,[]),(AX,[])] λ x=>Dn x.1 x.2.1
theorem Yp:Bh prog 71 U1:=B9 Bo (fn:=f71) (λ m x=>show run Tm oW m x Zjo=Dn.S (bW m m) x.1 x.2.1 from by kernel_rfl) (λ x=>by rw [Yi0 fu fu];rfl) (Bn ⟨⟨Xq,call126,λ _=>Bj rfl⟩,⟨⟨Zzh,call127,λ _=>Bj rfl⟩,trivial⟩⟩)
abbrev Yq:=BY.env (AM.look [(71,U1)]) ⟨[(0,⟨tt [0,4,5,6],[]⟩)],[],[(10,⟨tt [0,4,5],[]⟩)],⟨tt [2,3],[]⟩,[],[71],[],[]⟩
def oX:=bd f32
abbrev oY:=fin Yq [.tmp 2, .tmp 3] [] [(.str,[]),(CQ,[⟨0,1,0,3⟩])]
def xu:=Bb 4 oX
def ma (m0 n:Nat):Ef.A1:=λ x5 x6 x7=>ej Yq n (.tail xu) 0 (mk [(0, .dat CQ x5 []),(4, .dat CQ x6 [⟨0,257,0,3⟩]),(5, .dat Bi x7 [⟨0,321,0,1⟩])] []) oY
theorem Yj0 (m0:Nat):∀ n,ma m0 n=Ef.t1 n:=ind rfl λ n _=>by kernel_rfl
def Yk0 (m0:Nat):=BK Yq m0 xu 0 oY
def Yl0 (m0:Nat):=BA 0 (Yk0 m0)
def Yvh:=Bz 2 (By (BM (Bb 3 oX)))
def Zbi (m0 n:Nat):Ef.A0:=λ x1 x2 x3 x4=>ej Yq n (.loop Yvh) 0 (mk [(0, .dat CQ x1 []),(4, .dat CQ x2 [⟨0,257,0,3⟩]),(5, .dat Bi x3 [⟨0,321,0,1⟩]),(6, .dat AX x4 [])] []) (Yl0 m0)
theorem Ym0 (m0:Nat):∀ n,Zbi m0 n=Ef.l0 (ma m0 m0) n:=BR (S:=Ef.S0 (ma m0 m0)) λ n=>by kernel_rfl
abbrev Zci:=AM.spec [.val CQ] [(.str,[]),(CQ,[⟨0,1,0,3⟩])] λ x=>Ef x.1
theorem Xte:Bh prog 32 Zci:=B9 Bo (fn:=f32) (λ m x=>show run Yq oX m x oY=Ef.S (Zbi m m) x.1 from by kernel_rfl) (λ x=>by rw [Ym0 fu fu,Yj0 fu fu];rfl) (Bn ⟨⟨Yp,call71,λ _=>Bj rfl⟩,trivial⟩)
abbrev dP:=BY.env (AM.look []) (kq [(0,⟨tt [0,3,4],[]⟩)] [] [2])
def oZ:=bd f73
abbrev Zko:=fin dP [.tmp 2] [] [(Bi,[⟨0,1,0,1⟩])]
def Ywh:=Bb 3 oZ
def Yn0 (m0:Nat):=BK dP m0 Ywh 0 Zko
def Yo0 (m0:Nat):=BA 0 (Yn0 m0)
def Yxh:=Bz 2 (By (BM (Bb 2 oZ)))
def Zdi (m0 n:Nat):HH.A0:=λ x1 x2 x3=>ej dP n (.loop Yxh) 0 (mk [(0, .dat CQ x1 []),(3, .dat Bi x2 [⟨0,193,0,1⟩]),(4, .dat AX x3 [])] []) (Yo0 m0)
theorem Yp0 (m0:Nat):∀ n,Zdi m0 n=HH.l0 n:=BR (S:=HH.S0) λ n=>by kernel_rfl
abbrev Zei:=AM.spec [.val CQ] [(Bi,[⟨0,1,0,1⟩])] λ x=>HH x.1
theorem Xue:Bh prog 73 Zei:=B9 Bo (fn:=f73) (λ m x=>show run dP oZ m x Zko=HH.S (Zdi m m) x.1 from by kernel_rfl) (λ x=>by rw [Yp0 fu fu];rfl) (Bn trivial)
abbrev SQ:=BY.env (AM.look []) (kq [(0,⟨tt [0,3,4],[]⟩),(2,⟨tt [0,3,4,5],[]⟩)] [] [2])
def mb:=bd f128
abbrev Zfi:=fin SQ [.tmp 2] [] [(.str,[])]
def Zs5:=Bb 3 mb
def Yyh (m0:Nat):=BK SQ m0 Zs5 0 Zfi
def xv (m0:Nat):=BA 0 (Yyh m0)
def ai:=Bz 2 (By (BM (Bb 2 mb)))
def bf (m0 n:Nat):DV.A0:=λ x1 x2 x3=>ej SQ n (.loop ai) 0 (mk [(0, .dat Bi x1 []),(3, .dat (.sl (.int .u8)) x2 [⟨0,193,0,0⟩]),(4, .dat AX x3 [])] []) (xv m0)
def Yzh (m0 m1:Nat):=Mq SQ m1 ai 0 (xv m0)
def Zt5:=Bb 2 ai
def Yai (m0 m1:Nat):=BK SQ m1 Zt5 0 (Yzh m0 m1)
def Ybi (m0 m1:Nat):=BA 1 (Yai m0 m1)
def Yci (m0 m1:Nat):=BA 2 (Ybi m0 m1)
def Zu5:=Bz 2 (By (Bz 2 (By ai)))
def zi (m0 m1 n:Nat):DV.A1:=λ x4 x5 x6 x7=>ej SQ n (.loop Zu5) 2 (mk [(0, .dat Bi x4 []),(3, .dat (.sl (.int .u8)) x5 [⟨0,193,0,0⟩]),(4, .dat AX x6 []),(5, .dat AX x7 [])] []) (Yci m0 m1)
theorem Ydi (m0 m1:Nat):∀ n,zi m0 m1 n=DV.l1 (bf m0 m1) n:=BR (S:=DV.S1 (bf m0 m1)) λ n=>by kernel_rfl
theorem Yei (m0:Nat):∀ n,bf m0 n=DV.l0 n:=ind rfl λ n e0=>(show _=DV.S0 (zi m0 n n) from by kernel_rfl).trans (by rw [Ydi m0 n n,e0];rfl)
abbrev zj:=AM.spec [.val Bi] [(.str,[])] λ x=>DV x.1
theorem Yz6:Bh prog 128 zj:=B9 Bo (fn:=f128) (λ m x=>show run SQ mb m x Zfi=DV.S (bf m m) x.1 from by kernel_rfl) (λ x=>by rw [Yei fu fu];rfl) (Bn trivial)
abbrev bX:=BY.env (AM.look []) ⟨[(0,⟨tt [0,3,4],tt [3]⟩)],[],[],⟨tt [2],tt [3]⟩,[2,3,30,31,40,48,49],[],[],[]⟩
def mc:=bd f130
abbrev Zgi:=fin bX [.tmp 2] [] [(GZ,[])]
def Zv5:=Bb 3 mc
def Yfi (m0:Nat):=BK bX m0 Zv5 0 Zgi
def Ygi (m0:Nat):=BA 0 (Yfi m0)
def Zw5:=Bz 2 (By (BM (Bb 2 mc)))
def zk (m0 n:Nat):GS.A0:=λ x1 x2 x3=>ej bX n (.loop Zw5) 0 (mk [(0, .dat Bi x1 []),(3, .slw 3 0),(4, .dat AX x2 [])] [(3,some (.arr eH x3 false))]) (Ygi m0)
theorem Yhi (m0:Nat):∀ n,zk m0 n=GS.l0 n:=BR (S:=GS.S0) λ n=>by kernel_rfl
abbrev jX:=AM.spec [.val Bi] [(GZ,[])] λ x=>GS x.1
theorem Zhi:Bh prog 130 jX:=B9 Bo (fn:=f130) (λ m x=>show run bX mc m x Zgi=GS.S (zk m m) x.1 from by kernel_rfl) (λ x=>by rw [Yhi fu fu];rfl) (Bn trivial)
abbrev bY:=BY.env (AM.look []) (kq [(0,⟨tt [0,3,4],[]⟩)] [] [2])
def me:=bd f163
abbrev Zii:=fin bY [.tmp 2] [] [(.bool,[])]
def Zx5:=Bb 3 me
def Yii (m0:Nat):=BK bY m0 Zx5 0 Zii
def Yji (m0:Nat):=BA 0 (Yii m0)
def Zy5:=Bz 2 (By (BM (Bb 2 me)))
def zm (m0 n:Nat):EZ.A0:=λ x1 x2 x3=>ej bY n (.loop Zy5) 0 (mk [(0, .dat GZ x1 []),(3, .dat AX x2 []),(4, .dat AX x3 [])] []) (Yji m0)
theorem Yki (m0:Nat):∀ n,zm m0 n=EZ.l0 n:=BR (S:=EZ.S0) λ n=>by kernel_rfl
abbrev bg:=AM.spec [.val GZ] [(.bool,[])] λ x=>EZ x.1
theorem mf:Bh prog 163 bg:=B9 Bo (fn:=f163) (λ m x=>show run bY me m x Zii=EZ.S (zm m m) x.1 from by kernel_rfl) (λ x=>by rw [Yki fu fu];rfl) (Bn trivial)
abbrev bZ:=BY.env (AM.look []) (kq [(0,⟨tt [1,3,4],tt [1]⟩)] [] [2])
def mg:=bd f220
abbrev Zji:=fin bZ [.tmp 2] [] [(AX,[])]
def Zz5:=Bb 3 mg
def Yli (m0:Nat):=BK bZ m0 Zz5 0 Zji
def Ymi (m0:Nat):=BA 0 (Yli m0)
def Za6:=Bz 2 (By (BM (Bb 2 mg)))
def zn (m0 n:Nat):EY.A0:=λ x1 x2 x3=>ej bZ n (.loop Za6) 0 (mk [(1, .ptr 1 0 0),(3, .dat AX x1 []),(4, .dat AX x2 [])] [(1,some (.arr .bool x3 false))]) (Ymi m0)
theorem Yni (m0:Nat):∀ n,zn m0 n=EY.l0 n:=BR (S:=EY.S0) λ n=>by kernel_rfl
abbrev Xb:=AM.spec [.val (.arr 63 .bool)] [(AX,[])] λ x=>EY x.1
theorem b5:Bh prog 220 Xb:=B9 Bo (fn:=f220) (λ m x=>show run bZ mg m x Zji=EY.S (zn m m) x.1 from by kernel_rfl) (λ x=>by rw [Yni fu fu];rfl) (Bn trivial)
abbrev b6:=BY.env (AM.look [(219,UO),(220,Xb)]) ⟨[(0,⟨tt [3,4,5],tt [3,4]⟩)],[],[],⟨tt [2],[]⟩,[],[219,220],[],[]⟩
def mh:=bd f183
abbrev Zki:=fin b6 [.tmp 2] [] [(AX,[])]
def Zb6:=Bb 5 mh
def Yoi (m0:Nat):=BK b6 m0 Zb6 0 Zki
def Ypi (m0:Nat):=BA 0 (Yoi m0)
def Zc6:=Bz 2 (By (BM (Bb 4 mh)))
def zo (m0 n:Nat):HU.A0:=λ x2 x3 x4=>ej b6 n (.loop Zc6) 0 (mk [(3, .ptr 3 0 0),(4, .ptr 4 0 0),(5, .dat AX x2 [])] [(3,some (.arr .bool x3 false)),(4,some (.arr .bool x4 false))]) (Ypi m0)
theorem Yqi (m0:Nat):∀ n,zo m0 n=HU.l0 n:=BR (S:=HU.S0) λ n=>by kernel_rfl
abbrev zp:=AM.spec [.val AX] [(AX,[])] λ x=>HU x.1
theorem Ya7:Bh prog 183 zp:=B9 Bo (fn:=f183) (λ m x=>show run b6 mh m x Zki=HU.S (zo m m) x.1 from by kernel_rfl) (λ x=>by rw [Yqi fu fu];rfl) (Bn ⟨⟨Xp,call219,λ _=>Bj rfl⟩,⟨⟨b5,call220,λ _=>Bj rfl⟩,trivial⟩⟩)
abbrev b7:=BY.env (AM.look [(219,UO),(220,Xb)]) ⟨[(0,⟨tt [1,2,7,8,9],tt [7,8]⟩)],[],[],⟨tt [6],[]⟩,[],[219,220],[],[]⟩
def ml:=bd f184
abbrev Zli:=fin b7 [.tmp 6] [] [(AX,[])]
def Zd6:=Bb 4 ml
def Yri (m0:Nat):=BK b7 m0 Zd6 0 Zli
def Ysi (m0:Nat):=BA 0 (Yri m0)
def Ze6:=Bz 2 (By (BM (Bb 3 ml)))
def zq (m0 n:Nat):Gv.A0:=λ x2 x3 x4 x5 x6=>ej b7 n (.loop Ze6) 0 (mk [(1, .dat AX x2 []),(2, .dat AX x3 []),(7, .ptr 7 0 0),(8, .ptr 8 0 0),(9, .dat AX x4 [])] [(7,some (.arr .bool x5 false)),(8,some (.arr .bool x6 false))]) (Ysi m0)
theorem Yti (m0:Nat):∀ n,zq m0 n=Gv.l0 n:=BR (S:=Gv.S0) λ n=>by kernel_rfl
abbrev zr:=AM.spec [.val AX, .val AX, .val AX] [(AX,[])] λ x=>Gv x.1 x.2.1 x.2.2.1
theorem Yb7:Bh prog 184 zr:=B9 Bo (fn:=f184) (λ m x=>show run b7 ml m x Zli=Gv.S (zq m m) x.1 x.2.1 x.2.2.1 from by kernel_rfl) (λ x=>by rw [Yti fu fu];rfl) (Bn ⟨⟨Xp,call219,λ _=>Bj rfl⟩,⟨⟨b5,call220,λ _=>Bj rfl⟩,trivial⟩⟩)
abbrev mm:=BY.env (AM.look [(183,zp),(184,zr)]) ⟨[(0,⟨tt [3,4],[]⟩)],[],[],⟨tt [2],[]⟩,[],[183,184],[],[]⟩
def Zmi:=bd f135
abbrev Zni:=fin mm [.tmp 2] [] [(.str,[])]
def Yui (m0:Nat):=BA 0 Zni
def Zf6:=Bz 2 (Bb 3 Zmi)
def zt (m0 n:Nat):FP.A0:=λ x2 x3=>ej mm n (.loop Zf6) 0 (mk [(3, .dat AX x2 []),(4, .dat (.sl (.int .u8)) x3 [⟨0,257,0,0⟩])] []) (Yui m0)
theorem Yvi (m0:Nat):∀ n,zt m0 n=FP.l0 n:=BR (S:=FP.S0) λ n=>by kernel_rfl
abbrev SI:=AM.spec [.val AX] [(.str,[])] λ x=>FP x.1
theorem U2:Bh prog 135 SI:=B9 Bo (fn:=f135) (λ m x=>show run mm Zmi m x Zni=FP.S (zt m m) x.1 from by kernel_rfl) (λ x=>by rw [Yvi fu fu];rfl) (Bn ⟨⟨Ya7,call183,λ _=>Bj rfl⟩,⟨⟨Yb7,call184,λ _=>Bj rfl⟩,trivial⟩⟩)
abbrev b8:=BY.env (AM.look [(163,bg),(135,SI)]) ⟨[(0,⟨tt [0,4,5],[]⟩)],[],[],⟨tt [2,3],[]⟩,[],[135,163],[],[]⟩
def mn:=bd f129
abbrev Zoi:=fin b8 [.tmp 2, .tmp 3] [] [(.str,[]),(AX,[])]
def Zg6:=Bb 4 mn
def Ywi (m0:Nat):=BK b8 m0 Zg6 0 Zoi
def Yxi (m0:Nat):=BA 0 (Ywi m0)
def Zh6:=Bz 2 (By (BM (Bb 3 mn)))
def zu (m0 n:Nat):Gl.A0:=λ x2 x3 x4=>ej b8 n (.loop Zh6) 0 (mk [(0, .dat GZ x2 []),(4, .dat .str x3 []),(5, .dat AX x4 [])] []) (Yxi m0)
theorem Yyi (m0:Nat):∀ n,zu m0 n=Gl.l0 n:=BR (S:=Gl.S0) λ n=>by kernel_rfl
abbrev jY:=AM.spec [.val GZ] [(.str,[]),(AX,[])] λ x=>Gl x.1
theorem Zpi:Bh prog 129 jY:=B9 Bo (fn:=f129) (λ m x=>show run b8 mn m x Zoi=Gl.S (zu m m) x.1 from by kernel_rfl) (λ x=>by rw [Yyi fu fu];rfl) (Bn ⟨⟨mf,call163,λ _=>Bj rfl⟩,⟨⟨U2,call135,λ _=>Bj rfl⟩,trivial⟩⟩)
abbrev b9:=BY.env (AM.look []) ⟨[(0,⟨tt [0,3,4],[]⟩)],[],[],⟨tt [2],[]⟩,[],[],[],[22]⟩
def mo:=bd f179
abbrev Zqi:=fin b9 [.tmp 2] [] [(Bi,[⟨0,1,0,1⟩])]
def Zi6:=Bb 3 mo
def Yzi (m0:Nat):=BK b9 m0 Zi6 0 Zqi
def Yaj (m0:Nat):=BA 0 (Yzi m0)
def Zj6:=Bz 2 (By (BM (Bb 2 mo)))
def zv (m0 n:Nat):Hz.A0:=λ x1 x2 x3=>ej b9 n (.loop Zj6) 0 (mk [(0, .dat Bi x1 []),(3, .dat Bi x2 [⟨0,193,0,1⟩]),(4, .dat AX x3 [])] []) (Yaj m0)
theorem Ybj (m0:Nat):∀ n,zv m0 n=Hz.l0 n:=BR (S:=Hz.S0) λ n=>by kernel_rfl
abbrev zw:=AM.spec [.val Bi] [(Bi,[⟨0,1,0,1⟩])] λ x=>Hz x.1
theorem Yc7:Bh prog 179 zw:=B9 Bo (fn:=f179) (λ m x=>show run b9 mo m x Zqi=Hz.S (zv m m) x.1 from by kernel_rfl) (λ x=>by rw [Ybj fu fu];rfl) (Bn trivial)
abbrev ca:=BY.env (AM.look []) (kq [(0,⟨tt [0,3,4],[]⟩)] [] [2])
def mq:=bd f180
abbrev Zri:=fin ca [.tmp 2] [] [(AX,[])]
def Zk6:=Bb 3 mq
def Ycj (m0:Nat):=BK ca m0 Zk6 0 Zri
def Ydj (m0:Nat):=BA 0 (Ycj m0)
def Zl6:=Bz 2 (By (BM (Bb 2 mq)))
def zx (m0 n:Nat):Gw.A0:=λ x1 x2 x3=>ej ca n (.loop Zl6) 0 (mk [(0, .dat Bi x1 []),(3, .dat AX x2 []),(4, .dat AX x3 [])] []) (Ydj m0)
theorem Yej (m0:Nat):∀ n,zx m0 n=Gw.l0 n:=BR (S:=Gw.S0) λ n=>by kernel_rfl
abbrev zy:=AM.spec [.val Bi] [(AX,[])] λ x=>Gw x.1
theorem Yd7:Bh prog 180 zy:=B9 Bo (fn:=f180) (λ m x=>show run ca mq m x Zri=Gw.S (zx m m) x.1 from by kernel_rfl) (λ x=>by rw [Yej fu fu];rfl) (Bn trivial)
abbrev Xr:=BY.env (AM.look [(135,SI),(179,zw),(180,zy),(126,UP),(71,U1)]) ⟨[(0,⟨tt [4,5,6,7,8],[]⟩)],[],[(15,⟨tt [4,6,7],[]⟩)],⟨tt [2,3],[]⟩,[],[71,126,135,180],[],[59]⟩
def mr:=bd f131
abbrev mu:=fin Xr [.tmp 2, .tmp 3] [] [(.str,[]),(AX,[])]
def va:=Bb 9 mr
def jZ (m0 n:Nat):DU.A1:=λ x9 Bl BJ=>ej Xr n (.tail va) 0 (mk [(4, .dat .str x9 []),(6, .dat AX Bl []),(7, .dat Bi BJ [⟨0,449,0,1⟩])] []) mu
theorem Yfj (m0:Nat):∀ n,jZ m0 n=DU.t1 n:=ind rfl λ n _=>by kernel_rfl
def Ygj (m0:Nat):=BK Xr m0 va 0 mu
def Yhj (m0:Nat):=BA 0 (Ygj m0)
def Zm6:=Bz 2 (By (BM (Bb 8 mr)))
def zz (m0 n:Nat):DU.A0:=λ x4 x5 x6 x7 x8=>ej Xr n (.loop Zm6) 0 (mk [(4, .dat .str x4 []),(5, .dat Bi x5 [⟨0,321,0,1⟩]),(6, .dat AX x6 []),(7, .dat Bi x7 [⟨0,449,0,1⟩]),(8, .dat AX x8 [])] []) (Yhj m0)
theorem Yij (m0:Nat):∀ n,zz m0 n=DU.l0 (jZ m0 m0) n:=BR (S:=DU.S0 (jZ m0 m0)) λ n=>by kernel_rfl
abbrev j7:=AM.spec [.val Bi] [(.str,[]),(AX,[])] λ x=>DU x.1
theorem Zsi:Bh prog 131 j7:=B9 Bo (fn:=f131) (λ m x=>show run Xr mr m x mu=DU.S (zz m m) x.1 from by kernel_rfl) (λ x=>by rw [Yij fu fu,Yfj fu fu];rfl) (Bn ⟨⟨U2,call135,λ _=>Bj rfl⟩,⟨⟨Yc7,call179,nw⟩,⟨⟨Yd7,call180,λ _=>Bj rfl⟩,⟨⟨Xq,call126,λ _=>Bj rfl⟩,⟨⟨Yp,call71,λ _=>Bj rfl⟩,trivial⟩⟩⟩⟩⟩)
abbrev Ky:=BY.env (AM.look []) (kq [(0,⟨tt [0,4,5,6],[]⟩),(2,⟨tt [0,4,5,6,7],[]⟩),(4,⟨tt [0,4,5,9],[]⟩),(6,⟨tt [0,4,5,9,10],[]⟩)] [(8,⟨tt [0,4,5,6,7],[]⟩),(9,⟨tt [0,4,5,6,7],[]⟩),(13,⟨tt [0,4,5],[]⟩)] [2,3])
def Xs:=bd f181
abbrev cd:=fin Ky [.tmp 2, .tmp 3] [] [(Bi,[⟨0,1,0,1⟩]),(Bi,[⟨0,1,0,1⟩])]
def Zn6:=Bb 4 Xs
def Yjj (m0 m1:Nat):=BK Ky m1 Zn6 0 cd
def xw (m0 m1:Nat):=BA 4 (Yjj m0 m1)
def WE:=Bz 2 (By (BM (Bb 3 Xs)))
def bh (m0 m1 n:Nat):BD.A5:=λ Fo FX Ht JI=>ej Ky n (.loop WE) 4 (mk [(0, .dat Bi Fo []),(4, .dat Bi FX [⟨0,257,0,1⟩]),(5, .dat Bi Ht [⟨0,321,0,1⟩]),(9, .dat AX JI [])] []) (xw m0 m1)
def Ykj (m0 m1 m2:Nat):=Mq Ky m2 WE 4 (xw m0 m1)
def Zo6:=Bb 2 WE
def Ylj (m0 m1 m2:Nat):=BK Ky m2 Zo6 4 (Ykj m0 m1 m2)
def Ymj (m0 m1 m2:Nat):=BA 5 (Ylj m0 m1 m2)
def Zp6:=Bb 2 (Bz 2 (By WE))
def Ynj (m0 m1 m2:Nat):=BK Ky m2 Zp6 5 (Ymj m0 m1 m2)
def Yoj (m0 m1 m2:Nat):=BA 6 (Ynj m0 m1 m2)
def Zq6:=Bz 3 (By (Bz 2 (By WE)))
def zA (m0 m1 m2 n:Nat):BD.A6:=λ JJ LF MW LG LH=>ej Ky n (.loop Zq6) 6 (mk [(0, .dat Bi JJ []),(4, .dat Bi LF [⟨0,257,0,1⟩]),(5, .dat Bi MW [⟨0,321,0,1⟩]),(9, .dat AX LG []),(10, .dat AX LH [])] []) (Yoj m0 m1 m2)
theorem Ypj (m0 m1 m2:Nat):∀ n,zA m0 m1 m2 n=BD.l6 (bh m0 m1 m2) n:=BR (S:=BD.S6 (bh m0 m1 m2)) λ n=>by kernel_rfl
theorem Yqj (m0 m1:Nat):∀ n,bh m0 m1 n=BD.l5 n:=ind rfl λ n e5=>(show _=BD.S5 (zA m0 m1 n n) from by kernel_rfl).trans (by rw [Ypj m0 m1 n n,e5];rfl)
def vc:=Bb 3 Xs
def j8 (m0 n:Nat):BD.A4:=λ C4 DO Dy=>ej Ky n (.tail vc) 0 (mk [(0, .dat Bi C4 []),(4, .dat Bi DO [⟨0,257,0,1⟩]),(5, .dat Bi Dy [⟨0,321,0,1⟩])] []) cd
theorem Yrj (m0:Nat):∀ n,j8 m0 n=BD.t4 n:=ind rfl λ n _=>(show _=BD.S4 (bh m0 n n) from by kernel_rfl).trans (by rw [Yqj m0 n n];rfl)
def Ysj (m0:Nat):=BK Ky m0 vc 0 cd
def xx (m0:Nat):=BA 0 (Ysj m0)
def Ux:=Bz 2 (By (BM (Bb 2 Xs)))
def Xc (m0 n:Nat):BD.A0:=λ x1 x2 x3 x4=>ej Ky n (.loop Ux) 0 (mk [(0, .dat Bi x1 []),(4, .dat Bi x2 [⟨0,257,0,1⟩]),(5, .dat Bi x3 [⟨0,321,0,1⟩]),(6, .dat AX x4 [])] []) (xx m0)
def Zr6 (m0 m1:Nat):=Mq Ky m1 Ux 0 (xx m0)
def Zs6:=Bb 2 Ux
def Zt6 (m0 m1:Nat):=BK Ky m1 Zs6 0 (Zr6 m0 m1)
def iR (m0 m1:Nat):=BA 1 (Zt6 m0 m1)
def Zu6:=Bb 3 (Bz 2 (By Ux))
def zB (m0 m1 n:Nat):BD.A3:=λ Cy Ct Dt DP CX=>ej Ky n (.tail Zu6) 1 (mk [(0, .dat Bi Cy []),(4, .dat Bi Ct [⟨0,257,0,1⟩]),(5, .dat Bi Dt [⟨0,321,0,1⟩]),(6, .dat AX DP []),(7, .dat AX CX [])] []) (iR m0 m1)
theorem Ytj (m0 m1 m2:Nat):∀ n,zB m0 m1 n=BD.t3 (Xc m0 m1) n:=ind rfl λ n _=>by kernel_rfl
def tR:=Bb 2 (Bz 2 (By Ux))
def j9 (m0 m1 n:Nat):BD.A2:=λ Bl BJ B0 BS B3=>ej Ky n (.tail tR) 1 (mk [(0, .dat Bi Bl []),(4, .dat Bi BJ [⟨0,257,0,1⟩]),(5, .dat Bi B0 [⟨0,321,0,1⟩]),(6, .dat AX BS []),(7, .dat AX B3 [])] []) (iR m0 m1)
theorem Yuj (m0 m1:Nat):∀ n,j9 m0 m1 n=BD.t2 (Xc m0 m1) n:=ind rfl λ n _=>(show _=BD.S2 (Xc m0 m1) (zB m0 m1 n) from by kernel_rfl).trans (by rw [Ytj m0 m1 n n];rfl)
def Zv6 (m0 m1:Nat):=BK Ky m1 tR 1 (iR m0 m1)
def Zw6 (m0 m1:Nat):=BA 2 (Zv6 m0 m1)
def Zv0:=Bz 3 (By (Bz 2 (By Ux)))
def zC (m0 m1 n:Nat):BD.A1:=λ x5 x6 x7 x8 x9=>ej Ky n (.loop Zv0) 2 (mk [(0, .dat Bi x5 []),(4, .dat Bi x6 [⟨0,257,0,1⟩]),(5, .dat Bi x7 [⟨0,321,0,1⟩]),(6, .dat AX x8 []),(7, .dat AX x9 [])] []) (Zw6 m0 m1)
theorem Yvj (m0 m1:Nat):∀ n,zC m0 m1 n=BD.l1 (j9 m0 m1 m1) n:=BR (S:=BD.S1 (j9 m0 m1 m1)) λ n=>by kernel_rfl
theorem Ywj (m0:Nat):∀ n,Xc m0 n=BD.l0 (j8 m0 m0) n:=ind rfl λ n e0=>(show _=BD.S0 (j8 m0 m0) (zC m0 n n) from by kernel_rfl).trans (by rw [Yvj m0 n n,Yuj m0 n n,e0];rfl)
abbrev zD:=AM.spec [.val Bi] [(Bi,[⟨0,1,0,1⟩]),(Bi,[⟨0,1,0,1⟩])] λ x=>BD x.1
theorem Ye7:Bh prog 181 zD:=B9 Bo (fn:=f181) (λ m x=>show run Ky Xs m x cd=BD.S (Xc m m) x.1 from by kernel_rfl) (λ x=>by rw [Ywj fu fu,Yrj fu fu];rfl) (Bn trivial)
abbrev ka:=AM.spec [.val Bi] [(.str,[])] λ x=>Wg x.1
theorem Zti:Bh prog 182 ka:=Ck Bo (fn:=f182) (lk:=(AM.look [(126,UP),(71,U1)])) (ks:=⟨[],[],[],⟨tt [2],[]⟩,[],[71,126],[],[]⟩) (ts:=[.tmp 2]) (λ _=>by kernel_rfl) (Bn ⟨⟨Xq,call126,λ _=>Bj rfl⟩,⟨⟨Yp,call71,λ _=>Bj rfl⟩,trivial⟩⟩)
abbrev Xt:=BY.env (AM.look [(181,zD),(135,SI),(182,ka)]) ⟨[(0,⟨tt [4,5,6,7],[]⟩)],[],[(11,⟨tt [5,6],[]⟩)],⟨tt [2,3],[]⟩,[],[135,182],[],[]⟩
def mv:=bd f132
abbrev mw:=fin Xt [.tmp 2, .tmp 3] [] [(.str,[]),(AX,[])]
def vd:=Bb 6 mv
def kb (m0 n:Nat):D4.A1:=λ x8 x9=>ej Xt n (.tail vd) 0 (mk [(5, .dat Bi x8 [⟨0,321,0,1⟩]),(6, .dat .str x9 [])] []) mw
theorem Yxj (m0:Nat):∀ n,kb m0 n=D4.t1 n:=ind rfl λ n _=>by kernel_rfl
def Yyj (m0:Nat):=BK Xt m0 vd 0 mw
def Yzj (m0:Nat):=BA 0 (Yyj m0)
def Zx6:=Bz 2 (By (BM (Bb 5 mv)))
def zE (m0 n:Nat):D4.A0:=λ x3 x4 x5 x6=>ej Xt n (.loop Zx6) 0 (mk [(4, .dat Bi x3 [⟨0,257,0,1⟩]),(5, .dat Bi x4 [⟨0,321,0,1⟩]),(6, .dat .str x5 []),(7, .dat AX x6 [])] []) (Yzj m0)
theorem Yak (m0:Nat):∀ n,zE m0 n=D4.l0 (kb m0 m0) n:=BR (S:=D4.S0 (kb m0 m0)) λ n=>by kernel_rfl
abbrev kc:=AM.spec [.val Bi] [(.str,[]),(AX,[])] λ x=>D4 x.1
theorem Zui:Bh prog 132 kc:=B9 Bo (fn:=f132) (λ m x=>show run Xt mv m x mw=D4.S (zE m m) x.1 from by kernel_rfl) (λ x=>by rw [Yak fu fu,Yxj fu fu];rfl) (Bn ⟨⟨Ye7,call181,nw⟩,⟨⟨U2,call135,λ _=>Bj rfl⟩,⟨⟨Zti,call182,λ _=>Bj rfl⟩,trivial⟩⟩⟩)
abbrev Zvi:=AM.spec [.val Bi, .val AX] [(.str,[]),(.bool,[])] λ x=>Zv x.1 x.2.1
theorem Xve:Bh prog 72 Zvi:=Ck Bo (fn:=f72) (lk:=(AM.look [(128,zj),(130,jX),(129,jY),(131,j7),(132,kc),(126,UP),(71,U1)])) (ks:=⟨[],[],[],⟨tt [4,5],[]⟩,[],[71,126,128,129,131,132],[],[]⟩) (ts:=[.tmp 4, .tmp 5]) (λ _=>by kernel_rfl) (Bn ⟨⟨Yz6,call128,λ _=>Bj rfl⟩,⟨⟨Zhi,call130,nw⟩,⟨⟨Zpi,call129,λ _=>Bj rfl⟩,⟨⟨Zsi,call131,λ _=>Bj rfl⟩,⟨⟨Zui,call132,λ _=>Bj rfl⟩,⟨⟨Xq,call126,λ _=>Bj rfl⟩,⟨⟨Yp,call71,λ _=>Bj rfl⟩,trivial⟩⟩⟩⟩⟩⟩⟩)
abbrev dQ:=BY.env (AM.look []) (kq [(0,⟨tt [0,3,4],[]⟩)] [] [2])
def o6:=bd f75
abbrev Zlo:=fin dQ [.tmp 2] [] [(Cq,[⟨0,1,0,1⟩])]
def Ybk:=Bb 3 o6
def Yq0 (m0:Nat):=BK dQ m0 Ybk 0 Zlo
def Yr0 (m0:Nat):=BA 0 (Yq0 m0)
def Yck:=Bz 2 (By (BM (Bb 2 o6)))
def Zwi (m0 n:Nat):HD.A0:=λ x1 x2 x3=>ej dQ n (.loop Yck) 0 (mk [(0, .dat CQ x1 []),(3, .dat Cq x2 [⟨0,193,0,1⟩]),(4, .dat AX x3 [])] []) (Yr0 m0)
theorem Ys0 (m0:Nat):∀ n,Zwi m0 n=HD.l0 n:=BR (S:=HD.S0) λ n=>by kernel_rfl
abbrev Zxi:=AM.spec [.val CQ] [(Cq,[⟨0,1,0,1⟩])] λ x=>HD x.1
theorem Xwe:Bh prog 75 Zxi:=B9 Bo (fn:=f75) (λ m x=>show run dQ o6 m x Zlo=HD.S (Zwi m m) x.1 from by kernel_rfl) (λ x=>by rw [Ys0 fu fu];rfl) (Bn trivial)
abbrev cf:=BY.env (AM.look []) (kq [(0,⟨tt [0,4,5],[]⟩)] [] [2,3])
def my:=bd f133
abbrev Zyi:=fin cf [.tmp 2, .tmp 3] [] [(.str,[]),(AX,[])]
def Zy6:=Bb 3 my
def Ydk (m0:Nat):=BK cf m0 Zy6 0 Zyi
def Yek (m0:Nat):=BA 0 (Ydk m0)
def Zz6:=Bz 2 (By (BM (Bb 2 my)))
def zF (m0 n:Nat):GN.A0:=λ x1 x2 x3=>ej cf n (.loop Zz6) 0 (mk [(0, .dat Cq x1 []),(4, .dat (.sl (.int .u8)) x2 [⟨0,257,0,0⟩]),(5, .dat AX x3 [])] []) (Yek m0)
theorem Yfk (m0:Nat):∀ n,zF m0 n=GN.l0 n:=BR (S:=GN.S0) λ n=>by kernel_rfl
abbrev kd:=AM.spec [.val Cq] [(.str,[]),(AX,[])] λ x=>GN x.1
theorem Zzi:Bh prog 133 kd:=B9 Bo (fn:=f133) (λ m x=>show run cf my m x Zyi=GN.S (zF m m) x.1 from by kernel_rfl) (λ x=>by rw [Yfk fu fu];rfl) (Bn trivial)
abbrev Kz:=BY.env (AM.look []) (kq [(0,⟨tt [0,4,5,6],[]⟩),(2,⟨tt [0,4,5,6,7],[]⟩),(4,⟨tt [0,4,5,9],[]⟩),(6,⟨tt [0,4,5,9,10],[]⟩)] [(9,⟨tt [0,4,5,6,7],[]⟩),(10,⟨tt [0,4,5,6,7],[]⟩),(14,⟨tt [0,4,5],[]⟩)] [2,3])
def Xu:=bd f134
abbrev cg:=fin Kz [.tmp 2, .tmp 3] [] [(Cq,[⟨0,1,0,1⟩]),(Bi,[⟨0,1,0,1⟩])]
def Za7:=Bb 5 Xu
def Ygk (m0 m1:Nat):=BK Kz m1 Za7 0 cg
def xy (m0 m1:Nat):=BA 4 (Ygk m0 m1)
def WG:=Bz 2 (By (BM (Bb 4 Xu)))
def bk (m0 m1 n:Nat):BB.A5:=λ Fo FX Ht JI=>ej Kz n (.loop WG) 4 (mk [(0, .dat Cq Fo []),(4, .dat Cq FX [⟨0,257,0,1⟩]),(5, .dat Bi Ht [⟨0,321,0,1⟩]),(9, .dat AX JI [])] []) (xy m0 m1)
def Yhk (m0 m1 m2:Nat):=Mq Kz m2 WG 4 (xy m0 m1)
def Zb7:=Bb 2 WG
def Yik (m0 m1 m2:Nat):=BK Kz m2 Zb7 4 (Yhk m0 m1 m2)
def Yjk (m0 m1 m2:Nat):=BA 5 (Yik m0 m1 m2)
def Zc7:=Bb 2 (Bz 2 (By WG))
def Ykk (m0 m1 m2:Nat):=BK Kz m2 Zc7 5 (Yjk m0 m1 m2)
def Ylk (m0 m1 m2:Nat):=BA 6 (Ykk m0 m1 m2)
def Zd7:=Bz 3 (By (Bz 2 (By WG)))
def zG (m0 m1 m2 n:Nat):BB.A6:=λ JJ LF MW LG LH=>ej Kz n (.loop Zd7) 6 (mk [(0, .dat Cq JJ []),(4, .dat Cq LF [⟨0,257,0,1⟩]),(5, .dat Bi MW [⟨0,321,0,1⟩]),(9, .dat AX LG []),(10, .dat AX LH [])] []) (Ylk m0 m1 m2)
theorem Ymk (m0 m1 m2:Nat):∀ n,zG m0 m1 m2 n=BB.l6 (bk m0 m1 m2) n:=BR (S:=BB.S6 (bk m0 m1 m2)) λ n=>by kernel_rfl
theorem Ynk (m0 m1:Nat):∀ n,bk m0 m1 n=BB.l5 n:=ind rfl λ n e5=>(show _=BB.S5 (zG m0 m1 n n) from by kernel_rfl).trans (by rw [Ymk m0 m1 n n,e5];rfl)
def ve:=Bb 4 Xu
def ke (m0 n:Nat):BB.A4:=λ C4 DO Dy=>ej Kz n (.tail ve) 0 (mk [(0, .dat Cq C4 []),(4, .dat Cq DO [⟨0,257,0,1⟩]),(5, .dat Bi Dy [⟨0,321,0,1⟩])] []) cg
theorem Yok (m0:Nat):∀ n,ke m0 n=BB.t4 n:=ind rfl λ n _=>(show _=BB.S4 (bk m0 n n) from by kernel_rfl).trans (by rw [Ynk m0 n n];rfl)
def Ypk (m0:Nat):=BK Kz m0 ve 0 cg
def xz (m0:Nat):=BA 0 (Ypk m0)
def Uy:=Bz 2 (By (BM (Bb 3 Xu)))
def Xd (m0 n:Nat):BB.A0:=λ x1 x2 x3 x4=>ej Kz n (.loop Uy) 0 (mk [(0, .dat Cq x1 []),(4, .dat Cq x2 [⟨0,257,0,1⟩]),(5, .dat Bi x3 [⟨0,321,0,1⟩]),(6, .dat AX x4 [])] []) (xz m0)
def Ze7 (m0 m1:Nat):=Mq Kz m1 Uy 0 (xz m0)
def Zf7:=Bb 2 Uy
def Zg7 (m0 m1:Nat):=BK Kz m1 Zf7 0 (Ze7 m0 m1)
def iS (m0 m1:Nat):=BA 1 (Zg7 m0 m1)
def Zh7:=Bb 3 (Bz 2 (By Uy))
def zH (m0 m1 n:Nat):BB.A3:=λ Cy Ct Dt DP CX=>ej Kz n (.tail Zh7) 1 (mk [(0, .dat Cq Cy []),(4, .dat Cq Ct [⟨0,257,0,1⟩]),(5, .dat Bi Dt [⟨0,321,0,1⟩]),(6, .dat AX DP []),(7, .dat AX CX [])] []) (iS m0 m1)
theorem Yqk (m0 m1 m2:Nat):∀ n,zH m0 m1 n=BB.t3 (Xd m0 m1) n:=ind rfl λ n _=>by kernel_rfl
def tS:=Bb 2 (Bz 2 (By Uy))
def kg (m0 m1 n:Nat):BB.A2:=λ Bl BJ B0 BS B3=>ej Kz n (.tail tS) 1 (mk [(0, .dat Cq Bl []),(4, .dat Cq BJ [⟨0,257,0,1⟩]),(5, .dat Bi B0 [⟨0,321,0,1⟩]),(6, .dat AX BS []),(7, .dat AX B3 [])] []) (iS m0 m1)
theorem Yrk (m0 m1:Nat):∀ n,kg m0 m1 n=BB.t2 (Xd m0 m1) n:=ind rfl λ n _=>(show _=BB.S2 (Xd m0 m1) (zH m0 m1 n) from by kernel_rfl).trans (by rw [Yqk m0 m1 n n];rfl)
def Zi7 (m0 m1:Nat):=BK Kz m1 tS 1 (iS m0 m1)
def Zj7 (m0 m1:Nat):=BA 2 (Zi7 m0 m1)
def Zw0:=Bz 3 (By (Bz 2 (By Uy)))
def zI (m0 m1 n:Nat):BB.A1:=λ x5 x6 x7 x8 x9=>ej Kz n (.loop Zw0) 2 (mk [(0, .dat Cq x5 []),(4, .dat Cq x6 [⟨0,257,0,1⟩]),(5, .dat Bi x7 [⟨0,321,0,1⟩]),(6, .dat AX x8 []),(7, .dat AX x9 [])] []) (Zj7 m0 m1)
theorem Ysk (m0 m1:Nat):∀ n,zI m0 m1 n=BB.l1 (kg m0 m1 m1) n:=BR (S:=BB.S1 (kg m0 m1 m1)) λ n=>by kernel_rfl
theorem Ytk (m0:Nat):∀ n,Xd m0 n=BB.l0 (ke m0 m0) n:=ind rfl λ n e0=>(show _=BB.S0 (ke m0 m0) (zI m0 n n) from by kernel_rfl).trans (by rw [Ysk m0 n n,Yrk m0 n n,e0];rfl)
abbrev kh:=AM.spec [.val Cq] [(Cq,[⟨0,1,0,1⟩]),(Bi,[⟨0,1,0,1⟩])] λ x=>BB x.1
theorem Zaj:Bh prog 134 kh:=B9 Bo (fn:=f134) (λ m x=>show run Kz Xu m x cg=BB.S (Xd m m) x.1 from by kernel_rfl) (λ x=>by rw [Ytk fu fu,Yok fu fu];rfl) (Bn trivial)
abbrev ki:=AM.spec [.val Cq] [(.str,[]),(AX,[])] λ x=>Wa x.1
theorem Zbj:Bh prog 136 ki:=Ck Bo (fn:=f136) (lk:=(AM.look [(134,kh),(133,kd),(135,SI),(182,ka)])) (ks:=⟨[],[],[],⟨tt [2,3],[]⟩,[],[133,135,182],[],[]⟩) (ts:=[.tmp 2, .tmp 3]) (λ _=>by kernel_rfl) (Bn ⟨⟨Zaj,call134,nw⟩,⟨⟨Zzi,call133,λ _=>Bj rfl⟩,⟨⟨U2,call135,λ _=>Bj rfl⟩,⟨⟨Zti,call182,λ _=>Bj rfl⟩,trivial⟩⟩⟩⟩)
abbrev Zcj:=AM.spec [.val Cq, .val AX] [(.str,[]),(.bool,[])] λ x=>ZJ x.1 x.2.1
theorem Xxe:Bh prog 74 Zcj:=Ck Bo (fn:=f74) (lk:=(AM.look [(133,kd),(134,kh),(130,jX),(129,jY),(135,SI),(136,ki)])) (ks:=⟨[],[],[],⟨tt [4,5],[]⟩,[],[129,133,135,136],[],[]⟩) (ts:=[.tmp 4, .tmp 5]) (λ _=>by kernel_rfl) (Bn ⟨⟨Zzi,call133,λ _=>Bj rfl⟩,⟨⟨Zaj,call134,nw⟩,⟨⟨Zhi,call130,nw⟩,⟨⟨Zpi,call129,λ _=>Bj rfl⟩,⟨⟨U2,call135,λ _=>Bj rfl⟩,⟨⟨Zbj,call136,λ _=>Bj rfl⟩,trivial⟩⟩⟩⟩⟩⟩)
abbrev Zdj:=AM.spec [.val CQ, .val AX, .val AX] [(.str,[]),(.bool,[])] λ x=>ZC x.1 x.2.1 x.2.2.1
theorem Xye:Bh prog 33 Zdj:=Ck Bo (fn:=f33) (lk:=(AM.look [(73,Zei),(72,Zvi),(75,Zxi),(74,Zcj)])) (ks:=⟨[],[],[],⟨tt [6,7],[]⟩,[],[72,74],[],[]⟩) (ts:=[.tmp 6, .tmp 7]) (λ _=>by kernel_rfl) (Bn ⟨⟨Xue,call73,nw⟩,⟨⟨Xve,call72,λ _=>Bj rfl⟩,⟨⟨Xwe,call75,nw⟩,⟨⟨Xxe,call74,λ _=>Bj rfl⟩,trivial⟩⟩⟩⟩)
abbrev SR:=BY.env (AM.look []) (kq [(0,⟨tt [1,5,6],[]⟩),(2,⟨tt [1,5,6,7],[]⟩)] [] [4])
def mz:=bd f137
abbrev Zej:=fin SR [.tmp 4] [] [(AX,[])]
def Zk7:=Bb 3 mz
def Yuk (m0:Nat):=BK SR m0 Zk7 0 Zej
def xA (m0:Nat):=BA 0 (Yuk m0)
def aj:=Bz 2 (By (BM (Bb 2 mz)))
def bl (m0 n:Nat):DB.A0:=λ x1 x2 x3=>ej SR n (.loop aj) 0 (mk [(1, .dat .str x1 []),(5, .dat AX x2 []),(6, .dat AX x3 [])] []) (xA m0)
def Yvk (m0 m1:Nat):=Mq SR m1 aj 0 (xA m0)
def Zl7:=Bb 2 aj
def Ywk (m0 m1:Nat):=BK SR m1 Zl7 0 (Yvk m0 m1)
def Yxk (m0 m1:Nat):=BA 1 (Ywk m0 m1)
def Yyk (m0 m1:Nat):=BA 2 (Yxk m0 m1)
def Zm7:=Bz 2 (By (Bz 2 (By aj)))
def zJ (m0 m1 n:Nat):DB.A1:=λ x4 x5 x6 x7=>ej SR n (.loop Zm7) 2 (mk [(1, .dat .str x4 []),(5, .dat AX x5 []),(6, .dat AX x6 []),(7, .dat AX x7 [])] []) (Yyk m0 m1)
theorem Yzk (m0 m1:Nat):∀ n,zJ m0 m1 n=DB.l1 (bl m0 m1) n:=BR (S:=DB.S1 (bl m0 m1)) λ n=>by kernel_rfl
theorem Yal (m0:Nat):∀ n,bl m0 n=DB.l0 n:=ind rfl λ n e0=>(show _=DB.S0 (zJ m0 n n) from by kernel_rfl).trans (by rw [Yzk m0 n n,e0];rfl)
abbrev zK:=AM.spec [.val AX, .val .str] [(AX,[])] λ x=>DB x.1 x.2.1
theorem Yf7:Bh prog 137 zK:=B9 Bo (fn:=f137) (λ m x=>show run SR mz m x Zej=DB.S (bl m m) x.1 x.2.1 from by kernel_rfl) (λ x=>by rw [Yal fu fu];rfl) (Bn trivial)
abbrev Zfj:=AM.spec [.val .str] [(AX,[])] λ x=>ZX x.1
theorem Xze:Bh prog 76 Zfj:=Ck Bo (fn:=f76) (lk:=(AM.look [(137,zK)])) (ks:=⟨[],[],[],⟨tt [2],[]⟩,[],[137],[],[]⟩) (ts:=[.tmp 2]) (λ _=>by kernel_rfl) (Bn ⟨⟨Yf7,call137,λ _=>Bj rfl⟩,trivial⟩)
abbrev mB:=AM.spec [.val .str] [(.str,[])] λ x=>Um x.1
theorem Zmo:Bh prog 34 mB:=Ck Bo (fn:=f34) (lk:=(AM.look [(76,Zfj)])) (ks:=⟨[],[],[],⟨tt [2],[]⟩,[],[76],[],[]⟩) (ts:=[.tmp 2]) (λ _=>by kernel_rfl) (Bn ⟨⟨Xze,call76,λ _=>Bj rfl⟩,trivial⟩)
abbrev lR:=AM.spec [.val CQ, .val AX, .val AX] [(.str,[]),(AX,[])] λ x=>LW x.1 x.2.1 x.2.2.1
theorem Zrn:Bh prog 10 lR:=Ck Bo (fn:=f10) (lk:=(AM.look [(31,Zvh),(32,Zci),(33,Zdj),(34,mB)])) (ks:=⟨[],[],[],⟨tt [6,7],[]⟩,[],[31,33,34],[],[]⟩) (ts:=[.tmp 6, .tmp 7]) (λ _=>by kernel_rfl) (Bn ⟨⟨Xse,call31,λ _=>Bj rfl⟩,⟨⟨Xte,call32,nw⟩,⟨⟨Xye,call33,λ _=>Bj rfl⟩,⟨⟨Zmo,call34,λ _=>Bj rfl⟩,trivial⟩⟩⟩⟩)
abbrev SS:=BY.env (AM.look []) (kq [(0,⟨tt [1,5,11,12],[]⟩),(2,⟨tt [1,5,11,12,21],[]⟩)] [] [4])
def mC:=bd f249
abbrev Zgj:=fin SS [.tmp 4] [] [(AX,[])]
def Zn7:=Bb 3 mC
def Ybl (m0:Nat):=BK SS m0 Zn7 0 Zgj
def xB (m0:Nat):=BA 0 (Ybl m0)
def ak:=Bz 2 (By (BM (Bb 2 mC)))
def bm (m0 n:Nat):DC.A0:=λ x1 x2 x3 x4=>ej SS n (.loop ak) 0 (mk [(1, .dat .str x1 []),(5, .dat (.int .u32) x2 []),(11, .dat AX x3 []),(12, .dat AX x4 [])] []) (xB m0)
def Ycl (m0 m1:Nat):=Mq SS m1 ak 0 (xB m0)
def Zo7:=Bb 3 ak
def Ydl (m0 m1:Nat):=BK SS m1 Zo7 0 (Ycl m0 m1)
def Yel (m0 m1:Nat):=BA 1 (Ydl m0 m1)
def Yfl (m0 m1:Nat):=BA 2 (Yel m0 m1)
def Zp7:=Bz 2 (Bb 3 (Bz 2 (Bb 2 ak)))
def zL (m0 m1 n:Nat):DC.A1:=λ x5 x6 x7 x8 x9=>ej SS n (.loop Zp7) 2 (mk [(1, .dat .str x5 []),(5, .dat (.int .u32) x6 []),(11, .dat AX x7 []),(12, .dat AX x8 []),(21, .dat AX x9 [])] []) (Yfl m0 m1)
theorem Ygl (m0 m1:Nat):∀ n,zL m0 m1 n=DC.l1 (bm m0 m1) n:=BR (S:=DC.S1 (bm m0 m1)) λ n=>by kernel_rfl
theorem Yhl (m0:Nat):∀ n,bm m0 n=DC.l0 n:=ind rfl λ n e0=>(show _=DC.S0 (zL m0 n n) from by kernel_rfl).trans (by rw [Ygl m0 n n,e0];rfl)
abbrev zM:=AM.spec [.val AX, .val .str] [(AX,[])] λ x=>DC x.1 x.2.1
theorem Yg7:Bh prog 249 zM:=B9 Bo (fn:=f249) (λ m x=>show run SS mC m x Zgj=DC.S (bm m m) x.1 x.2.1 from by kernel_rfl) (λ x=>by rw [Yhl fu fu];rfl) (Bn trivial)
abbrev zN:=AM.spec [.val .str] [(AX,[])] λ x=>ZY x.1
theorem Yh7:Bh prog 221 zN:=Ck Bo (fn:=f221) (lk:=(AM.look [(249,zM)])) (ks:=⟨[],[],[],⟨tt [2],[]⟩,[],[249],[],[]⟩) (ts:=[.tmp 2]) (λ _=>by kernel_rfl) (Bn ⟨⟨Yg7,call249,λ _=>Bj rfl⟩,trivial⟩)
abbrev ch:=BY.env (AM.look [(221,zN)]) ⟨[(0,⟨tt [3,4,16],[]⟩)],[],[],⟨tt [2],[]⟩,[],[221],[],[]⟩
def mD:=bd f187
abbrev Zhj:=fin ch [.tmp 2] [] [(.str,[])]
def Zq7:=Bb 5 mD
def Yil (m0:Nat):=BK ch m0 Zq7 0 Zhj
def Yjl (m0:Nat):=BA 0 (Yil m0)
def Zr7:=Bz 2 (By (BM (Bb 4 mD)))
def zO (m0 n:Nat):FF.A0:=λ x2 x3 x4=>ej ch n (.loop Zr7) 0 (mk [(3, .dat (.int .u32) x2 []),(4, .dat (.sl (.int .u8)) x3 [⟨0,257,0,0⟩]),(16, .dat AX x4 [])] []) (Yjl m0)
theorem Ykl (m0:Nat):∀ n,zO m0 n=FF.l0 n:=BR (S:=FF.S0) λ n=>by kernel_rfl
abbrev kj:=AM.spec [.val .str] [(.str,[])] λ x=>FF x.1
theorem Zij:Bh prog 187 kj:=B9 Bo (fn:=f187) (λ m x=>show run ch mD m x Zhj=FF.S (zO m m) x.1 from by kernel_rfl) (λ x=>by rw [Ykl fu fu];rfl) (Bn ⟨⟨Yh7,call221,λ _=>Bj rfl⟩,trivial⟩)
abbrev zP:=AM.spec [.val .str] [(.str,[]),(AX,[])] λ x=>Un x.1
theorem Yi7:Bh prog 139 zP:=Ck Bo (fn:=f139) (lk:=(AM.look [(187,kj)])) (ks:=⟨[],[],[],⟨tt [2,3],[]⟩,[],[187],[],[]⟩) (ts:=[.tmp 2, .tmp 3]) (λ _=>by kernel_rfl) (Bn ⟨⟨Zij,call187,λ _=>Bj rfl⟩,trivial⟩)
abbrev kk:=AM.spec [.val AX, .val AX] [(AX,[])] λ x=>some (PN x.1 x.2.1)
theorem Zjj:Bh prog 241 kk:=Ck Bo (fn:=f241) (lk:=(AM.look [])) (ks:=(kz [4])) (ts:=[.tmp 4]) (λ x=>(show _=PN.o x.1 x.2.1 from by kernel_rfl).trans (by unfold PN.o PN;simp only [Nc])) (Bn trivial)
abbrev W4:=AM.spec [.val AX] [(AX,[])] λ x=>PY x.1
theorem bK:Bh prog 186 W4:=Ck Bo (fn:=f186) (lk:=(AM.look [])) (ks:=(kz [2])) (ts:=[.tmp 2]) (λ _=>by kernel_rfl) (Bn trivial)
abbrev cj:=BY.env (AM.look [(186,W4)]) ⟨[(0,⟨tt [0,2,7,8,9],[]⟩)],[],[],⟨tt [6],[]⟩,[],[186],[],[]⟩
def mE:=bd f242
abbrev Zkj:=fin cj [.tmp 6] [] [(AX,[])]
def Zs7:=Bb 4 mE
def Yll (m0:Nat):=BK cj m0 Zs7 0 Zkj
def Yml (m0:Nat):=BA 0 (Yll m0)
def Zt7:=Bz 3 (Bb 3 mE)
def zQ (m0 n:Nat):Hj.A0:=λ x1 x2 x3 x4 x5=>ej cj n (.loop Zt7) 0 (mk [(0, .dat .str x1 []),(2, .dat AX x2 []),(7, .dat (.int .u64) x3 []),(8, .dat AX x4 []),(9, .dat AX x5 [])] []) (Yml m0)
theorem Ynl (m0:Nat):∀ n,zQ m0 n=Hj.l0 n:=BR (S:=Hj.S0) λ n=>by kernel_rfl
abbrev zR:=AM.spec [.val .str, .val AX, .val AX] [(AX,[])] λ x=>Hj x.1 x.2.1 x.2.2.1
theorem Yj7:Bh prog 242 zR:=B9 Bo (fn:=f242) (λ m x=>show run cj mE m x Zkj=Hj.S (zQ m m) x.1 x.2.1 x.2.2.1 from by kernel_rfl) (λ x=>by rw [Ynl fu fu];rfl) (Bn ⟨⟨bK,call186,λ _=>Bj rfl⟩,trivial⟩)
abbrev Xv:=BY.env (AM.look [(241,kk),(242,zR)]) ⟨[(0,⟨tt [0,2,9,49,50],tt [48]⟩)],[],[(8,⟨tt [0,1,2],[]⟩)],⟨tt [6,7],tt [6,48]⟩,[6,9,48,53,61],[241,242],[],[]⟩
def ck:=bd f201
abbrev mF:=fin Xv [.tmp 6, .tmp 7] [] [(Bi,[]),(AX,[])]
def Zu7:=Bb 6 ck
def Yol (m0 m1:Nat):=BK Xv m1 Zu7 0 mF
def Ypl (m0 m1:Nat):=BA 0 (Yol m0 m1)
def Zv7:=Bz 2 (By (BM (Bb 5 ck)))
def zS (m0 m1 n:Nat):Dd.A1:=λ x5 x6 x7 x8 x9=>ej Xv n (.loop Zv7) 0 (mk [(0, .dat .str x5 []),(2, .dat AX x6 []),(9, .slw 48 0),(49, .dat AX x7 []),(50, .dat AX x8 [])] [(48,some (.arr AX x9 false))]) (Ypl m0 m1)
theorem Yql (m0 m1:Nat):∀ n,zS m0 m1 n=Dd.l1 n:=BR (S:=Dd.S1) λ n=>by kernel_rfl
def Zw7:=Bb 4 ck
def zT (m0 n:Nat):Dd.A0:=λ x2 x3 x4=>ej Xv n (.tail Zw7) 0 (mk [(0, .dat .str x2 []),(1, .dat AX x3 []),(2, .dat AX x4 [])] []) mF
theorem Yrl (m0:Nat):∀ n,zT m0 n=Dd.t0 n:=ind rfl λ n _=>(show _=Dd.S0 (zS m0 n n) from by kernel_rfl).trans (by rw [Yql m0 n n];rfl)
abbrev UQ:=AM.spec [.val .str, .val AX, .val AX] [(Bi,[]),(AX,[])] λ x=>Dd x.1 x.2.1 x.2.2.1
theorem Xw:Bh prog 201 UQ:=B9 Bo (fn:=f201) (λ m x=>show run Xv ck m x mF=Dd.S (zT m m) x.1 x.2.1 x.2.2.1 from by kernel_rfl) (λ x=>by rw [Yrl fu fu];rfl) (Bn ⟨⟨Zjj,call241,λ _=>Bj rfl⟩,⟨⟨Yj7,call242,λ _=>Bj rfl⟩,trivial⟩⟩)
abbrev cm:=BY.env (AM.look []) (kq [(0,⟨tt [0,1,7,8],[]⟩)] [] [4])
def mH:=bd f250
abbrev Zlj:=fin cm [.tmp 4] [] [(AX,[])]
def Zx7:=Bb 2 mH
def Ysl (m0:Nat):=BK cm m0 Zx7 0 Zlj
def Ytl (m0:Nat):=BA 0 (Ysl m0)
def Zy7:=Bz 2 (By (BM (By mH)))
def zU (m0 n:Nat):Hy.A0:=λ x1 x2 x3 x4=>ej cm n (.loop Zy7) 0 (mk [(0, .dat Bi x1 []),(1, .dat AX x2 []),(7, .dat AX x3 []),(8, .dat AX x4 [])] []) (Ytl m0)
theorem Yul (m0:Nat):∀ n,zU m0 n=Hy.l0 n:=BR (S:=Hy.S0) λ n=>by kernel_rfl
abbrev zV:=AM.spec [.val Bi, .val AX] [(AX,[])] λ x=>Hy x.1 x.2.1
theorem Yk7:Bh prog 250 zV:=B9 Bo (fn:=f250) (λ m x=>show run cm mH m x Zlj=Hy.S (zU m m) x.1 x.2.1 from by kernel_rfl) (λ x=>by rw [Yul fu fu];rfl) (Bn trivial)
abbrev zW:=AM.spec [.val Bi, .val AX] [(.bool,[])] λ x=>Zn x.1 x.2.1
theorem Yl7:Bh prog 222 zW:=Ck Bo (fn:=f222) (lk:=(AM.look [(250,zV)])) (ks:=⟨[],[],[],⟨tt [4],[]⟩,[],[250],[],[]⟩) (ts:=[.tmp 4]) (λ _=>by kernel_rfl) (Bn ⟨⟨Yk7,call250,λ _=>Bj rfl⟩,trivial⟩)
abbrev km:=AM.spec [.val .str, .val AX] [(Bi,[]),(AX,[])] λ x=>N4 x.1 x.2.1
theorem Zmj:Bh prog 188 km:=Ck Bo (fn:=f188) (lk:=(AM.look [(201,UQ),(222,zW)])) (ks:=⟨[],[],[],⟨tt [4,5],tt [17]⟩,[],[222],[],[]⟩) (ts:=[.tmp 4, .tmp 5]) (λ _=>by kernel_rfl) (Bn ⟨⟨Xw,call201,nw⟩,⟨⟨Yl7,call222,λ _=>Bj rfl⟩,trivial⟩⟩)
abbrev cn:=BY.env (AM.look [(188,km)]) (kq [(0,⟨tt [7,8,17,18,19],[]⟩)] [] [4,5])
def mI:=bd f140
abbrev Znj:=fin cn [.tmp 4, .tmp 5] [] [(AX,[]),(AX,[])]
def Zz7:=Bb 4 mI
def Yvl (m0:Nat):=BK cn m0 Zz7 0 Znj
def Ywl (m0:Nat):=BA 0 (Yvl m0)
def Za8:=Bz 2 (By (BM (Bb 3 mI)))
def zX (m0 n:Nat):Fp.A0:=λ x2 x3 x4 x5 x6=>ej cn n (.loop Za8) 0 (mk [(7, .dat AX x2 []),(8, .dat AX x3 []),(17, .dat Bi x4 []),(18, .dat AX x5 []),(19, .dat AX x6 [])] []) (Ywl m0)
theorem Yxl (m0:Nat):∀ n,zX m0 n=Fp.l0 n:=BR (S:=Fp.S0) λ n=>by kernel_rfl
abbrev kn:=AM.spec [.val .str, .val AX] [(AX,[]),(AX,[])] λ x=>Fp x.1 x.2.1
theorem Zoj:Bh prog 140 kn:=B9 Bo (fn:=f140) (λ m x=>show run cn mI m x Znj=Fp.S (zX m m) x.1 x.2.1 from by kernel_rfl) (λ x=>by rw [Yxl fu fu];rfl) (Bn ⟨⟨Zmj,call188,nw⟩,trivial⟩)
abbrev Ry:=BY.env (AM.look []) ⟨[(0,⟨tt [0,6,27,28],tt [26]⟩),(2,⟨tt [0,6,7,8,27,28,31],tt [26]⟩)],[],[],⟨tt [4,5],tt [4,26]⟩,[4,6,26,47,53],[],[],[]⟩
def mJ:=bd f223
abbrev Zpj:=fin Ry [.tmp 4, .tmp 5] [] [(Bi,[]),(AX,[])]
def Zb8:=Bb 4 mJ
def Yyl (m0:Nat):=BK Ry m0 Zb8 0 Zpj
def xC (m0:Nat):=BA 0 (Yyl m0)
def WH:=Bz 2 (By (BM (Bb 3 mJ)))
def bn (m0 n:Nat):C5.A0:=λ x1 x2 x3 x4=>ej Ry n (.loop WH) 0 (mk [(0, .dat .str x1 []),(6, .slw 26 0),(27, .dat AX x2 []),(28, .dat AX x3 [])] [(26,some (.arr AX x4 false))]) (xC m0)
def Yzl (m0 m1:Nat):=Mq Ry m1 WH 0 (xC m0)
def Zc8:=Bb 3 WH
def Yam (m0 m1:Nat):=BK Ry m1 Zc8 0 (Yzl m0 m1)
def Ybm (m0 m1:Nat):=BA 1 (Yam m0 m1)
def Zd8:=Bb 3 (Bz 2 (Bb 2 WH))
def Ycm (m0 m1:Nat):=BK Ry m1 Zd8 1 (Ybm m0 m1)
def Ydm (m0 m1:Nat):=BA 2 (Ycm m0 m1)
def Ze8:=Bz 2 (By (BM (Bb 2 (Bz 2 (Bb 2 WH)))))
def zY (m0 m1 n:Nat):C5.A1:=λ x5 x6 x7 x8 x9 Bl BJ=>ej Ry n (.loop Ze8) 2 (mk [(0, .dat .str x5 []),(6, .slw 26 0),(7, .dat AX x6 []),(8, .dat (.int .u64) x7 []),(27, .dat AX x8 []),(28, .dat AX x9 []),(31, .dat AX Bl [])] [(26,some (.arr AX BJ false))]) (Ydm m0 m1)
theorem Yem (m0 m1:Nat):∀ n,zY m0 m1 n=C5.l1 (bn m0 m1) n:=BR (S:=C5.S1 (bn m0 m1)) λ n=>by kernel_rfl
theorem Yfm (m0:Nat):∀ n,bn m0 n=C5.l0 n:=ind rfl λ n e0=>(show _=C5.S0 (zY m0 n n) from by kernel_rfl).trans (by rw [Yem m0 n n,e0];rfl)
abbrev zZ:=AM.spec [.val .str, .val AX] [(Bi,[]),(AX,[])] λ x=>C5 x.1 x.2.1
theorem Ym7:Bh prog 223 zZ:=B9 Bo (fn:=f223) (λ m x=>show run Ry mJ m x Zpj=C5.S (bn m m) x.1 x.2.1 from by kernel_rfl) (λ x=>by rw [Yfm fu fu];rfl) (Bn trivial)
abbrev z6:=AM.spec [.val AX] [(AX,[])] λ x=>some (E5 x.1)
theorem Yn7:Bh prog 198 z6:=Ck Bo (fn:=f198) (lk:=(AM.look [])) (ks:=(kz [2])) (ts:=[.tmp 2]) (λ _=>by kernel_rfl) (Bn trivial)
abbrev ko:=AM.spec [.val AX] [(AX,[])] λ x=>some (EL x.1)
theorem Zqj:Bh prog 237 ko:=Ck Bo (fn:=f237) (lk:=(AM.look [])) (ks:=(kz [2])) (ts:=[.tmp 2]) (λ _=>by kernel_rfl) (Bn trivial)
abbrev cp:=BY.env (AM.look []) (kq [(0,⟨tt [3,4,5],[]⟩)] [] [2])
def mK:=bd f148
abbrev Zrj:=fin cp [.tmp 2] [] [(AX,[])]
def Zf8:=Bb 3 mK
def Ygm (m0:Nat):=BK cp m0 Zf8 0 Zrj
def Yhm (m0:Nat):=BA 0 (Ygm m0)
def Zg8:=Bz 2 (By (BM (Bb 2 mK)))
def z7 (m0 n:Nat):FO.A0:=λ x1 x2 x3=>ej cp n (.loop Zg8) 0 (mk [(3, .dat (.int .u64) x1 []),(4, .dat AX x2 []),(5, .dat AX x3 [])] []) (Yhm m0)
theorem Yim (m0:Nat):∀ n,z7 m0 n=FO.l0 n:=BR (S:=FO.S0) λ n=>by kernel_rfl
abbrev bo:=AM.spec [.val AX] [(AX,[])] λ x=>FO x.1
theorem mL:Bh prog 148 bo:=B9 Bo (fn:=f148) (λ m x=>show run cp mK m x Zrj=FO.S (z7 m m) x.1 from by kernel_rfl) (λ x=>by rw [Yim fu fu];rfl) (Bn trivial)
abbrev z8:=AM.spec [.val AX] [(AX,[])] λ x=>WL x.1
theorem Yo7:Bh prog 199 z8:=Ck Bo (fn:=f199) (lk:=(AM.look [(237,ko),(148,bo)])) (ks:=⟨[],[],[],⟨tt [2],[]⟩,[],[148,237],[],[]⟩) (ts:=[.tmp 2]) (λ _=>by kernel_rfl) (Bn ⟨⟨Zqj,call237,λ _=>Bj rfl⟩,⟨⟨mL,call148,λ _=>Bj rfl⟩,trivial⟩⟩)
abbrev cq:=BY.env (AM.look [(198,z6),(199,z8)]) ⟨[(0,⟨tt [0,5,11,12],[]⟩)],[],[],⟨tt [2,3,4],[]⟩,[],[198,199],[],[]⟩
def mM:=bd f150
abbrev Zsj:=fin cq [.tmp 2, .tmp 3, .tmp 4] [] [(AX,[]),(AX,[]),(AX,[])]
def Zh8:=Bb 3 mM
def Yjm (m0:Nat):=BK cq m0 Zh8 0 Zsj
def Ykm (m0:Nat):=BA 0 (Yjm m0)
def Zi8:=Bz 2 (By (BM (Bb 2 mM)))
def Zaa (m0 n:Nat):F5.A0:=λ x1 x2 x3 x4=>ej cq n (.loop Zi8) 0 (mk [(0, .dat .str x1 []),(5, .dat (.int .u64) x2 []),(11, .dat AX x3 []),(12, .dat AX x4 [])] []) (Ykm m0)
theorem Ylm (m0:Nat):∀ n,Zaa m0 n=F5.l0 n:=BR (S:=F5.S0) λ n=>by kernel_rfl
abbrev SJ:=AM.spec [.val .str] [(AX,[]),(AX,[]),(AX,[])] λ x=>F5 x.1
theorem U3:Bh prog 150 SJ:=B9 Bo (fn:=f150) (λ m x=>show run cq mM m x Zsj=F5.S (Zaa m m) x.1 from by kernel_rfl) (λ x=>by rw [Ylm fu fu];rfl) (Bn ⟨⟨Yn7,call198,λ _=>Bj rfl⟩,⟨⟨Yo7,call199,λ _=>Bj rfl⟩,trivial⟩⟩)
abbrev ct:=BY.env (AM.look []) (kq [(0,⟨tt [0,4,7,8,9],[]⟩)] [] [2,3])
def mN:=bd f151
abbrev Ztj:=fin ct [.tmp 2, .tmp 3] [] [(AX,[]),(.bool,[])]
def Zj8:=Bb 3 mN
def Ymm (m0:Nat):=BK ct m0 Zj8 0 Ztj
def Ynm (m0:Nat):=BA 0 (Ymm m0)
def Zk8:=Bz 2 (By (BM (Bb 2 mN)))
def Zba (m0 n:Nat):E4.A0:=λ x1 x2 x3 x4 x5=>ej ct n (.loop Zk8) 0 (mk [(0, .dat GZ x1 []),(4, .dat AX x2 []),(7, .dat GZ x3 []),(8, .dat AX x4 []),(9, .dat AX x5 [])] []) (Ynm m0)
theorem Yom (m0:Nat):∀ n,Zba m0 n=E4.l0 n:=BR (S:=E4.S0) λ n=>by kernel_rfl
abbrev bp:=AM.spec [.val GZ] [(AX,[]),(.bool,[])] λ x=>E4 x.1
theorem mO:Bh prog 151 bp:=B9 Bo (fn:=f151) (λ m x=>show run ct mN m x Ztj=E4.S (Zba m m) x.1 from by kernel_rfl) (λ x=>by rw [Yom fu fu];rfl) (Bn trivial)
abbrev Yr:=BY.env (AM.look [(150,SJ),(151,bp)]) ⟨[(0,⟨tt [0,1,6,7],[]⟩)],[],[(15,⟨tt [1,6,7],[]⟩)],⟨tt [4,5],[]⟩,[],[150,151],[],[]⟩
def o7:=bd f89
abbrev o8:=fin Yr [.tmp 4, .tmp 5] [] [(GZ,[⟨0,1,0,3⟩]),(AX,[])]
def xD:=Bb 5 o7
def mP (m0 n:Nat):Cw.A1:=λ x7 x8 x9=>ej Yr n (.tail xD) 0 (mk [(1, .dat AX x7 []),(6, .dat GZ x8 [⟨0,385,0,3⟩]),(7, .dat AX x9 [])] []) o8
theorem Yt0 (m0:Nat):∀ n,mP m0 n=Cw.t1 n:=ind rfl λ n _=>by kernel_rfl
def Yu0 (m0:Nat):=BK Yr m0 xD 0 o8
def Yv0 (m0:Nat):=BA 0 (Yu0 m0)
def Ypm:=Bz 3 (Bb 4 o7)
def Zuj (m0 n:Nat):Cw.A0:=λ x1 x2 x3 x4=>ej Yr n (.loop Ypm) 0 (mk [(0, .dat .str x1 []),(1, .dat AX x2 []),(6, .dat GZ x3 [⟨0,385,0,3⟩]),(7, .dat AX x4 [])] []) (Yv0 m0)
theorem Yw0 (m0:Nat):∀ n,Zuj m0 n=Cw.l0 (mP m0 m0) n:=BR (S:=Cw.S0 (mP m0 m0)) λ n=>by kernel_rfl
abbrev bN:=AM.spec [.val .str, .val AX] [(GZ,[⟨0,1,0,3⟩]),(AX,[])] λ x=>Cw x.1 x.2.1
theorem oz:Bh prog 89 bN:=B9 Bo (fn:=f89) (λ m x=>show run Yr o7 m x o8=Cw.S (Zuj m m) x.1 x.2.1 from by kernel_rfl) (λ x=>by rw [Yw0 fu fu,Yt0 fu fu];rfl) (Bn ⟨⟨U3,call150,λ _=>Bj rfl⟩,⟨⟨mO,call151,λ _=>Bj rfl⟩,trivial⟩⟩)
abbrev Zca:=AM.spec [.val (.int .u64), .val (.int .u64)] [((.int .u64),[]),((.int .u64),[])] λ x=>some (fW x.1 x.2.1)
theorem Yp7:Bh prog 280 Zca:=Ck Bo (fn:=f280) (lk:=(AM.look [])) (ks:=(kz [4,5])) (ts:=[.tmp 4, .tmp 5]) (λ _=>by kernel_rfl) (Bn trivial)
abbrev Zda:=AM.spec [.val (.int .u64), .val (.int .u64)] [((.int .u64),[]),((.int .u64),[])] λ x=>some (Zw x.1 x.2.1)
theorem Yq7:Bh prog 266 Zda:=Ck Bo (fn:=f266) (lk:=(AM.look [(280,Zca)])) (ks:=⟨[],[],[],⟨tt [4,5],[]⟩,[],[280],[],[]⟩) (ts:=[.tmp 4, .tmp 5]) (λ _=>by kernel_rfl) (Bn ⟨⟨Yp7,call280,λ _=>Bj rfl⟩,trivial⟩)
abbrev U4:=BY.env (AM.look [(266,Zda)]) ⟨[(0,⟨tt [7,8],tt [30]⟩)],[],[(3,⟨tt [0,1],[]⟩),(6,⟨tt [0,6],[]⟩)],⟨tt [4],tt [30]⟩,[4,7,30,31,35,39,41,42,44,47],[266],[],[]⟩
def Xx:=bd f251
abbrev cu:=fin U4 [.tmp 4] [] [(Bi,[])]
def Zl8:=Bb 7 Xx
def Yqm (m0 m1 m2:Nat):=BK U4 m2 Zl8 0 cu
def Yrm (m0 m1 m2:Nat):=BA 0 (Yqm m0 m1 m2)
def Zm8:=Bz 3 (Bb 6 Xx)
def Zea (m0 m1 m2 n:Nat):Dl.A2:=λ x6 x7=>ej U4 n (.loop Zm8) 0 (mk [(7, .slw 30 0),(8, .dat AX x6 [])] [(30,some (.arr AX x7 false))]) (Yrm m0 m1 m2)
theorem Ysm (m0 m1 m2:Nat):∀ n,Zea m0 m1 m2 n=Dl.l2 n:=BR (S:=Dl.S2) λ n=>by kernel_rfl
def Zn8:=Bb 4 Xx
def Zfa (m0 n:Nat):Dl.A1:=λ x4 x5=>ej U4 n (.tail Zn8) 0 (mk [(0, .dat Bi x4 []),(6, .dat (.int .u64) x5 [])] []) cu
theorem Ytm (m0 m1:Nat):∀ n,Zfa m0 n=Dl.t1 n:=ind rfl λ n _=>(show _=Dl.S1 (Zea m0 m1 n n) from by kernel_rfl).trans (by rw [Ysm m0 m1 n n];rfl)
def Zo8:=Bb 2 Xx
def Zga (m0 n:Nat):Dl.A0:=λ x1 x2=>ej U4 n (.tail Zo8) 0 (mk [(0, .dat Bi x1 []),(1, .dat AX x2 [])] []) cu
theorem Yum (m0:Nat):∀ n,Zga m0 n=Dl.t0 n:=ind rfl λ n _=>(show _=Dl.S0 (Zfa m0 n) from by kernel_rfl).trans (by rw [Ytm m0 n n];rfl)
abbrev Zha:=AM.spec [.val Bi, .val AX] [(Bi,[])] λ x=>Dl x.1 x.2.1
theorem Yr7:Bh prog 251 Zha:=B9 Bo (fn:=f251) (λ m x=>show run U4 Xx m x cu=Dl.S (Zga m m) x.1 x.2.1 from by kernel_rfl) (λ x=>by rw [Yum fu fu];rfl) (Bn ⟨⟨Yq7,call266,λ _=>Bj rfl⟩,trivial⟩)
abbrev cv:=BY.env (AM.look [(151,bp),(251,Zha)]) ⟨[(0,⟨tt [6,18,19,20],[]⟩)],[],[],⟨tt [2,3],[]⟩,[],[151],[],[]⟩
def mQ:=bd f224
abbrev Zvj:=fin cv [.tmp 2, .tmp 3] [] [(Bi,[⟨0,1,0,1⟩]),(AX,[])]
def Zp8:=Bb 5 mQ
def Yvm (m0:Nat):=BK cv m0 Zp8 0 Zvj
def Ywm (m0:Nat):=BA 0 (Yvm m0)
def Zq8:=Bz 2 (By (BM (Bb 4 mQ)))
def Zia (m0 n:Nat):Gm.A0:=λ x2 x3 x4 x5=>ej cv n (.loop Zq8) 0 (mk [(6, .dat Bi x2 [⟨0,385,0,1⟩]),(18, .dat GZ x3 []),(19, .dat AX x4 []),(20, .dat AX x5 [])] []) (Ywm m0)
theorem Yxm (m0:Nat):∀ n,Zia m0 n=Gm.l0 n:=BR (S:=Gm.S0) λ n=>by kernel_rfl
abbrev kr:=AM.spec [.val GZ] [(Bi,[⟨0,1,0,1⟩]),(AX,[])] λ x=>Gm x.1
theorem Zwj:Bh prog 224 kr:=B9 Bo (fn:=f224) (λ m x=>show run cv mQ m x Zvj=Gm.S (Zia m m) x.1 from by kernel_rfl) (λ x=>by rw [Yxm fu fu];rfl) (Bn ⟨⟨mO,call151,λ _=>Bj rfl⟩,⟨⟨Yr7,call251,nw⟩,trivial⟩⟩)
abbrev Zja:=AM.Hm 1 [.io .str [], .io .bool []] [(AX,[]),(.str,[]),(.bool,[])] λ x=>Kr x.1 x.2.1
theorem Ys7:Bh prog 252 Zja:=ew Bo (fn:=f252) (lk:=(AM.look [(150,SJ)])) (ks:=⟨[],[],[],⟨tt [2],tt [1000000,1000001]⟩,[],[150],[],[]⟩) (ts:=[.tmp 2]) (λ _=>by kernel_rfl) (Bn ⟨⟨U3,call150,λ _=>Bj rfl⟩,trivial⟩)
abbrev Zka:=AM.spec [.val AX, .val AX] [(AX,[])] λ x=>some (Sn x.1 x.2.1)
theorem Yt7:Bh prog 253 Zka:=Ck Bo (fn:=f253) (lk:=(AM.look [])) (ks:=(kz [4])) (ts:=[.tmp 4]) (λ _=>by kernel_rfl) (Bn trivial)
abbrev Xy:=BY.env (AM.look [(237,ko)]) ⟨[(0,⟨tt [3,4,5],tt [3]⟩)],[],[(7,⟨tt [3,4,5],tt [3]⟩)],⟨tt [2],[]⟩,[],[237],[],[]⟩
def mR:=bd f263
abbrev mS:=fin Xy [.tmp 2] [] [(.str,[])]
def vf:=Bb 4 mR
def kt (m0 n:Nat):D6.A1:=λ x5 x6 x7=>ej Xy n (.tail vf) 0 (mk [(3, .ptr 3 0 0),(4, .dat (.int .u64) x5 []),(5, .dat AX x6 [])] [(3,some (.arr (.int .u8) x7 false))]) mS
theorem Yym (m0:Nat):∀ n,kt m0 n=D6.t1 n:=ind rfl λ n _=>by kernel_rfl
def Yzm (m0:Nat):=BK Xy m0 vf 0 mS
def Yan (m0:Nat):=BA 0 (Yzm m0)
def Zr8:=Bz 3 (Bb 3 mR)
def Zla (m0 n:Nat):D6.A0:=λ x2 x3 x4=>ej Xy n (.loop Zr8) 0 (mk [(3, .ptr 3 0 0),(4, .dat (.int .u64) x2 []),(5, .dat AX x3 [])] [(3,some (.arr (.int .u8) x4 false))]) (Yan m0)
theorem Ybn (m0:Nat):∀ n,Zla m0 n=D6.l0 (kt m0 m0) n:=BR (S:=D6.S0 (kt m0 m0)) λ n=>by kernel_rfl
abbrev SK:=AM.spec [.val AX] [(.str,[])] λ x=>D6 x.1
theorem U5:Bh prog 263 SK:=B9 Bo (fn:=f263) (λ m x=>show run Xy mR m x mS=D6.S (Zla m m) x.1 from by kernel_rfl) (λ x=>by rw [Ybn fu fu,Yym fu fu];rfl) (Bn ⟨⟨Zqj,call237,λ _=>Bj rfl⟩,trivial⟩)
abbrev Zma:=AM.spec [.val AX, .val AX] [(AX,[])] λ x=>some (Wy x.1 x.2.1)
theorem Yu7:Bh prog 281 Zma:=Ck Bo (fn:=f281) (lk:=(AM.look [])) (ks:=(kz [4])) (ts:=[.tmp 4]) (λ _=>by kernel_rfl) (Bn trivial)
abbrev Xz:=BY.env (AM.look []) (kq [(0,⟨tt [0,3,4],[]⟩)] [(3,⟨tt [0],[]⟩)] [2])
def cw:=bd f282
abbrev mT:=fin Xz [.tmp 2] [] [(AX,[])]
def Zs8:=Bb 4 cw
def Ycn (m0 m1:Nat):=BK Xz m1 Zs8 0 mT
def Ydn (m0 m1:Nat):=BA 0 (Ycn m0 m1)
def Zt8:=Bz 2 (By (BM (Bb 3 cw)))
def Zna (m0 m1 n:Nat):El.A1:=λ x2 x3 x4=>ej Xz n (.loop Zt8) 0 (mk [(0, .dat Bi x2 []),(3, .dat AX x3 []),(4, .dat AX x4 [])] []) (Ydn m0 m1)
theorem Yen (m0 m1:Nat):∀ n,Zna m0 m1 n=El.l1 n:=BR (S:=El.S1) λ n=>by kernel_rfl
def Zu8:=Bb 2 cw
def Zoa (m0 n:Nat):El.A0:=λ x1=>ej Xz n (.tail Zu8) 0 (mk [(0, .dat Bi x1 [])] []) mT
theorem Yfn (m0:Nat):∀ n,Zoa m0 n=El.t0 n:=ind rfl λ n _=>(show _=El.S0 (Zna m0 n n) from by kernel_rfl).trans (by rw [Yen m0 n n];rfl)
abbrev Zpa:=AM.spec [.val Bi] [(AX,[])] λ x=>El x.1
theorem Yv7:Bh prog 282 Zpa:=B9 Bo (fn:=f282) (λ m x=>show run Xz cw m x mT=El.S (Zoa m m) x.1 from by kernel_rfl) (λ x=>by rw [Yfn fu fu];rfl) (Bn trivial)
abbrev SU:=BY.env (AM.look [(281,Zma),(282,Zpa)]) ⟨[(0,⟨tt [0,4,5],tt [10]⟩),(2,⟨tt [4,6,33,34],tt [10]⟩)],[],[(6,⟨tt [4],tt [10]⟩)],⟨tt [2,3],tt [10]⟩,[2,4,10,17,29,30,32,37,40,47],[281,282],[],[28]⟩
def XA:=bd f267
abbrev cx:=fin SU [.tmp 2, .tmp 3] [] [(Bi,[]),(AX,[])]
def Zv8:=Bb 5 XA
def Ygn (m0 m1:Nat):=BK SU m1 Zv8 0 cx
def Yhn (m0 m1:Nat):=BA 2 (Ygn m0 m1)
def Zw8:=Bz 2 (By (BM (Bb 4 XA)))
def Zqa (m0 m1 n:Nat):CV.A2:=λ x7 x8 x9 Bl=>ej SU n (.loop Zw8) 2 (mk [(4, .slw 10 0),(6, .dat AX x7 []),(33, .dat AX x8 []),(34, .dat AX x9 [])] [(10,some (.arr AX Bl false))]) (Yhn m0 m1)
theorem Yin (m0 m1:Nat):∀ n,Zqa m0 m1 n=CV.l2 n:=BR (S:=CV.S2) λ n=>by kernel_rfl
def vg:=Bb 3 XA
def ku (m0 n:Nat):CV.A1:=λ x5=>ej SU n (.tail vg) 0 (mk [(4, .slw 10 0)] [(10,some (.arr AX x5 false))]) cx
theorem Yjn (m0:Nat):∀ n,ku m0 n=CV.t1 n:=ind rfl λ n _=>(show _=CV.S1 (Zqa m0 n n) from by kernel_rfl).trans (by rw [Yin m0 n n];rfl)
def Ykn (m0:Nat):=BK SU m0 vg 0 cx
def Yln (m0:Nat):=BA 0 (Ykn m0)
def Zx8:=Bz 2 (By (BM (Bb 2 XA)))
def Zra (m0 n:Nat):CV.A0:=λ x1 x2 x3=>ej SU n (.loop Zx8) 0 (mk [(0, .dat Bi x1 []),(4, .slw 10 0),(5, .dat AX x2 [])] [(10,some (.arr AX x3 false))]) (Yln m0)
theorem Ymn (m0:Nat):∀ n,Zra m0 n=CV.l0 (ku m0 m0) n:=BR (S:=CV.S0 (ku m0 m0)) λ n=>by kernel_rfl
abbrev Zsa:=AM.spec [.val Bi] [(Bi,[]),(AX,[])] λ x=>CV x.1
theorem Yw7:Bh prog 267 Zsa:=B9 Bo (fn:=f267) (λ m x=>show run SU XA m x cx=CV.S (Zra m m) x.1 from by kernel_rfl) (λ x=>by rw [Ymn fu fu,Yjn fu fu];rfl) (Bn ⟨⟨Yu7,call281,λ _=>Bj rfl⟩,⟨⟨Yv7,call282,λ _=>Bj rfl⟩,trivial⟩⟩)
abbrev cy:=BY.env (AM.look [(148,bo)]) ⟨[(0,⟨tt [3,6,7,8],[]⟩)],[],[],⟨tt [2],[]⟩,[],[148],[],[]⟩
def mU:=bd f202
abbrev Zxj:=fin cy [.tmp 2] [] [(AX,[])]
def Zy8:=Bb 3 mU
def Ynn (m0:Nat):=BK cy m0 Zy8 0 Zxj
def Yon (m0:Nat):=BA 0 (Ynn m0)
def Zz8:=Bz 2 (By (BM (Bb 2 mU)))
def Zta (m0 n:Nat):EA.A0:=λ x1 x2 x3 x4=>ej cy n (.loop Zz8) 0 (mk [(3, .dat AX x1 []),(6, .dat Bi x2 []),(7, .dat AX x3 []),(8, .dat AX x4 [])] []) (Yon m0)
theorem Ypn (m0:Nat):∀ n,Zta m0 n=EA.l0 n:=BR (S:=EA.S0) λ n=>by kernel_rfl
abbrev Rm:=AM.spec [.val Bi] [(AX,[])] λ x=>EA x.1
theorem SV:Bh prog 202 Rm:=B9 Bo (fn:=f202) (λ m x=>show run cy mU m x Zxj=EA.S (Zta m m) x.1 from by kernel_rfl) (λ x=>by rw [Ypn fu fu];rfl) (Bn ⟨⟨mL,call148,λ _=>Bj rfl⟩,trivial⟩)
abbrev Rz:=BY.env (AM.look [(202,Rm),(241,kk),(186,W4)]) ⟨[(0,⟨tt [1,6,7,8,37,38,39],[]⟩),(2,⟨tt [1,6,7,8,11,12,37,38,39],[]⟩)],[],[(20,⟨tt [6,7,8],[]⟩)],⟨tt [4,5],[]⟩,[],[186,202,241],[],[]⟩
def mV:=bd f234
abbrev mW:=fin Rz [.tmp 4, .tmp 5] [] [(.str,[]),(AX,[])]
def vh:=Bb 6 mV
def kv (m0 n:Nat):CC.A2:=λ C4 DO Dy=>ej Rz n (.tail vh) 0 (mk [(6, .dat (.sl (.int .u8)) C4 [⟨0,385,0,0⟩]),(7, .dat (.int .u64) DO []),(8, .dat AX Dy [])] []) mW
theorem Yqn (m0:Nat):∀ n,kv m0 n=CC.t2 n:=ind rfl λ n _=>by kernel_rfl
def Yrn (m0:Nat):=BK Rz m0 vh 0 mW
def xE (m0:Nat):=BA 0 (Yrn m0)
def ao:=Bz 2 (By (BM (Bb 5 mV)))
def bq (m0 n:Nat):CC.A0:=λ x3 x4 x5 x6 x7 x8 x9=>ej Rz n (.loop ao) 0 (mk [(1, .dat AX x3 []),(6, .dat (.sl (.int .u8)) x4 [⟨0,385,0,0⟩]),(7, .dat (.int .u64) x5 []),(8, .dat AX x6 []),(37, .dat Bi x7 []),(38, .dat AX x8 []),(39, .dat AX x9 [])] []) (xE m0)
def Ysn (m0 m1:Nat):=Mq Rz m1 ao 0 (xE m0)
def Za9:=Bb 3 ao
def Ytn (m0 m1:Nat):=BK Rz m1 Za9 0 (Ysn m0 m1)
def Yun (m0 m1:Nat):=BA 1 (Ytn m0 m1)
def Yvn (m0 m1:Nat):=BA 2 (Yun m0 m1)
def Zb9:=Bz 2 (Bb 2 (Bz 2 (Bb 2 ao)))
def Zua (m0 m1 n:Nat):CC.A1:=λ Bl BJ B0 BS B3 Cy Ct Dt DP=>ej Rz n (.loop Zb9) 2 (mk [(1, .dat AX Bl []),(6, .dat (.sl (.int .u8)) BJ [⟨0,385,0,0⟩]),(7, .dat (.int .u64) B0 []),(8, .dat AX BS []),(11, .dat (.int .u64) B3 []),(12, .dat AX Cy []),(37, .dat Bi Ct []),(38, .dat AX Dt []),(39, .dat AX DP [])] []) (Yvn m0 m1)
theorem Ywn (m0 m1:Nat):∀ n,Zua m0 m1 n=CC.l1 (bq m0 m1) n:=BR (S:=CC.S1 (bq m0 m1)) λ n=>by kernel_rfl
theorem Yxn (m0:Nat):∀ n,bq m0 n=CC.l0 (kv m0 m0) n:=ind rfl λ n e0=>(show _=CC.S0 (kv m0 m0) (Zua m0 n n) from by kernel_rfl).trans (by rw [Ywn m0 n n,e0];rfl)
abbrev UR:=AM.spec [.val Bi, .val AX] [(.str,[]),(AX,[])] λ x=>CC x.1 x.2.1
theorem XB:Bh prog 234 UR:=B9 Bo (fn:=f234) (λ m x=>show run Rz mV m x mW=CC.S (bq m m) x.1 x.2.1 from by kernel_rfl) (λ x=>by rw [Yxn fu fu,Yqn fu fu];rfl) (Bn ⟨⟨SV,call202,λ _=>Bj rfl⟩,⟨⟨Zjj,call241,λ _=>Bj rfl⟩,⟨⟨bK,call186,λ _=>Bj rfl⟩,trivial⟩⟩⟩)
abbrev kx:=AM.spec [.val Bi] [(.str,[]),(AX,[])] λ x=>Ut x.1
theorem Zyj:Bh prog 254 kx:=Ck Bo (fn:=f254) (lk:=(AM.look [(263,SK),(267,Zsa),(202,Rm),(234,UR)])) (ks:=⟨[],[],[],⟨tt [2,3],[]⟩,[],[202,234,263],[],[47]⟩) (ts:=[.tmp 2, .tmp 3]) (λ _=>by kernel_rfl) (Bn ⟨⟨U5,call263,λ _=>Bj rfl⟩,⟨⟨Yw7,call267,nw⟩,⟨⟨SV,call202,λ _=>Bj rfl⟩,⟨⟨XB,call234,λ _=>Bj rfl⟩,trivial⟩⟩⟩⟩)
abbrev U6:=BY.env (AM.look [(252,Zja),(201,UQ),(253,Zka),(254,kx)]) ⟨[(0,⟨tt [0,6,8,10,54,55,56],tt [8]⟩)],[],[(8,⟨tt [0,1,6,7,8,9],tt [7,8]⟩),(20,⟨tt [0,6,8],tt [8]⟩)],⟨tt [4,5],[]⟩,[24],[252,253,254],[],[]⟩
def cz:=bd f225
abbrev cA:=fin U6 [.tmp 4, .tmp 5] [] [(Bi,[⟨0,1,0,1⟩]),(AX,[])]
def vk:=Bb 7 cz
def bw (m0 n:Nat):BV.A2:=λ DP CX C4=>ej U6 n (.tail vk) 0 (mk [(0, .dat .str DP []),(6, .dat Bi CX [⟨0,385,0,1⟩]),(8, .ptr 8 0 0)] [(8,some (.var .bool C4 []))]) cA
theorem Yyn (m0 m1:Nat):∀ n,bw m0 n=BV.t2 n:=ind rfl λ n _=>by kernel_rfl
def Yzn (m0 m1:Nat):=BK U6 m1 vk 0 cA
def Yao (m0 m1:Nat):=BA 0 (Yzn m0 m1)
def Zc9:=Bz 2 (Bb 5 (BM (By (BM (Bb 6 cz)))))
def Zva (m0 m1 n:Nat):BV.A1:=λ x9 Bl BJ B0 BS B3 Cy=>ej U6 n (.loop Zc9) 0 (mk [(0, .dat .str x9 []),(6, .dat Bi Bl [⟨0,385,0,1⟩]),(8, .ptr 8 0 0),(10, .dat AX BJ []),(54, .dat Bi B0 []),(55, .dat AX BS []),(56, .dat AX B3 [])] [(8,some (.var .bool Cy []))]) (Yao m0 m1)
theorem Ybo (m0 m1:Nat):∀ n,Zva m0 m1 n=BV.l1 (bw m0 m1) n:=BR (S:=BV.S1 (bw m0 m1)) λ n=>by kernel_rfl
def Zd9:=Bb 6 cz
def Zwa (m0 n:Nat):BV.A0:=λ x2 x3 x4 x5 x6=>ej U6 n (.tail Zd9) 0 (mk [(0, .dat .str x2 []),(1, .dat AX x3 []),(6, .dat Bi x4 [⟨0,385,0,1⟩]),(7, .ptr 7 0 0),(8, .ptr 8 0 0),(9, .clo 252 [(7,0),(8,0)])] [(7,some (.var .str x5 [])),(8,some (.var .bool x6 []))]) cA
theorem Yco (m0:Nat):∀ n,Zwa m0 n=BV.t0 n:=ind rfl λ n _=>(show _=BV.S0 (Zva m0 n n) (bw m0 n) from by kernel_rfl).trans (by rw [Ybo m0 n n,Yyn m0 n n];rfl)
abbrev Zxa:=AM.spec [.val .str, .val AX] [(Bi,[⟨0,1,0,1⟩]),(AX,[])] λ x=>BV x.1 x.2.1
theorem Yx7:Bh prog 225 Zxa:=B9 Bo (fn:=f225) (λ m x=>show run U6 cz m x cA=BV.S (Zwa m m) x.1 x.2.1 from by kernel_rfl) (λ x=>by rw [Yco fu fu];rfl) (Bn ⟨⟨Ys7,call252,λ _=>Ygf rfl⟩,⟨⟨Xw,call201,nw⟩,⟨⟨Yt7,call253,λ _=>Bj rfl⟩,⟨⟨Zyj,call254,λ _=>Bj rfl⟩,trivial⟩⟩⟩⟩)
abbrev Zya:=AM.spec [.val .str] [(AX,[]),(AX,[])] λ x=>T9 x.1
theorem Yy7:Bh prog 156 Zya:=Ck Bo (fn:=f156) (lk:=(AM.look [(150,SJ)])) (ks:=⟨[],[],[],⟨tt [2,3],[]⟩,[],[150],[],[]⟩) (ts:=[.tmp 2, .tmp 3]) (λ _=>by kernel_rfl) (Bn ⟨⟨U3,call150,λ _=>Bj rfl⟩,trivial⟩)
abbrev cB:=BY.env (AM.look []) (kq [(0,⟨tt [0,1,7,8],[]⟩)] [] [4])
def mX:=bd f243
abbrev Zzj:=fin cB [.tmp 4] [] [(AX,[])]
def Ze9:=Bb 2 mX
def Ydo (m0:Nat):=BK cB m0 Ze9 0 Zzj
def Yeo (m0:Nat):=BA 0 (Ydo m0)
def Zf9:=Bz 2 (By (BM (By mX)))
def Zza (m0 n:Nat):FA.A0:=λ x1 x2 x3 x4=>ej cB n (.loop Zf9) 0 (mk [(0, .dat (.sl .bool) x1 []),(1, .dat .bool x2 []),(7, .dat AX x3 []),(8, .dat AX x4 [])] []) (Yeo m0)
theorem Yfo (m0:Nat):∀ n,Zza m0 n=FA.l0 n:=BR (S:=FA.S0) λ n=>by kernel_rfl
abbrev Zab:=AM.spec [.val (.sl .bool), .val .bool] [(AX,[])] λ x=>FA x.1 x.2.1
theorem Yz7:Bh prog 243 Zab:=B9 Bo (fn:=f243) (λ m x=>show run cB mX m x Zzj=FA.S (Zza m m) x.1 x.2.1 from by kernel_rfl) (λ x=>by rw [Yfo fu fu];rfl) (Bn trivial)
abbrev ky:=AM.spec [.val (.sl .bool), .val .bool] [(.bool,[])] λ x=>PF x.1 x.2.1
theorem Zak:Bh prog 203 ky:=Ck Bo (fn:=f203) (lk:=(AM.look [(243,Zab)])) (ks:=⟨[],[],[],⟨tt [4],[]⟩,[],[243],[],[]⟩) (ts:=[.tmp 4]) (λ _=>by kernel_rfl) (Bn ⟨⟨Yz7,call243,λ _=>Bj rfl⟩,trivial⟩)
abbrev RA:=BY.env (AM.look [(150,SJ),(156,Zya),(202,Rm),(201,UQ),(203,ky)]) ⟨[(0,⟨tt [0,1,2,9,10,12,47,48],[]⟩),(2,⟨tt [9,12,16,17,98,99,100],tt [97]⟩)],[],[(20,⟨tt [0,1,9,10,12],[]⟩),(31,⟨tt [12,16,17],tt [97]⟩)],⟨tt [6,7,8],[]⟩,[17,97,111,115],[150,156,202,203],[],[89]⟩
def XC:=bd f155
abbrev XD:=fin RA [.tmp 6, .tmp 7, .tmp 8] [] [(Bi,[⟨0,1,0,1⟩]),(Bi,[]),(AX,[])]
def vl:=Bb 11 XC
def kA (m0 n:Nat):BZ.A3:=λ FX Ht JI=>ej RA n (.tail vl) 0 (mk [(12, .dat Bi FX [⟨0,769,0,1⟩]),(16, .dat Bi Ht []),(17, .slw 97 0)] [(97,some (.arr .bool JI false))]) XD
theorem Ygo (m0 m1:Nat):∀ n,kA m0 n=BZ.t3 n:=ind rfl λ n _=>by kernel_rfl
def Yho (m0 m1:Nat):=BK RA m1 vl 0 XD
def Yio (m0 m1:Nat):=BA 2 (Yho m0 m1)
def Zg9:=Bz 2 (By (BM (Bb 10 XC)))
def Zbb (m0 m1 n:Nat):BZ.A2:=λ Dt DP CX C4 DO Dy Fo=>ej RA n (.loop Zg9) 2 (mk [(9, .dat AX Dt []),(12, .dat Bi DP [⟨0,769,0,1⟩]),(16, .dat Bi CX []),(17, .slw 97 0),(98, .dat Bi C4 []),(99, .dat AX DO []),(100, .dat AX Dy [])] [(97,some (.arr .bool Fo false))]) (Yio m0 m1)
theorem Yjo (m0 m1:Nat):∀ n,Zbb m0 m1 n=BZ.l2 (kA m0 m1) n:=BR (S:=BZ.S2 (kA m0 m1)) λ n=>by kernel_rfl
def vm:=Bb 7 XC
def kB (m0 n:Nat):BZ.A1:=λ Bl BJ B0 BS B3=>ej RA n (.tail vm) 0 (mk [(0, .dat .str Bl []),(1, .dat AX BJ []),(9, .dat AX B0 []),(10, .dat AX BS []),(12, .dat Bi B3 [⟨0,769,0,1⟩])] []) XD
theorem Yko (m0:Nat):∀ n,kB m0 n=BZ.t1 n:=ind rfl λ n _=>(show _=BZ.S1 (Zbb m0 n n) from by kernel_rfl).trans (by rw [Yjo m0 n n,Ygo m0 n n];rfl)
def Ylo (m0:Nat):=BK RA m0 vm 0 XD
def Ymo (m0:Nat):=BA 0 (Ylo m0)
def Zh9:=Bz 2 (By (BM (Bb 6 XC)))
def Zcb (m0 n:Nat):BZ.A0:=λ x2 x3 x4 x5 x6 x7 x8=>ej RA n (.loop Zh9) 0 (mk [(0, .dat .str x2 []),(1, .dat AX x3 []),(2, .fn 156 []),(9, .dat AX x4 []),(10, .dat AX x5 []),(12, .dat Bi x6 [⟨0,769,0,1⟩]),(47, .dat AX x7 []),(48, .dat AX x8 [])] []) (Ymo m0)
theorem Yno (m0:Nat):∀ n,Zcb m0 n=BZ.l0 (kB m0 m0) n:=BR (S:=BZ.S0 (kB m0 m0)) λ n=>by kernel_rfl
abbrev Zdb:=AM.spec [.val .str, .val AX, .fn 156 []] [(Bi,[⟨0,1,0,1⟩]),(Bi,[]),(AX,[])] λ x=>BZ x.1 x.2.1
theorem Ya8:Bh prog 155 Zdb:=B9 Bo (fn:=f155) (λ m x=>show run RA XC m x XD=BZ.S (Zcb m m) x.1 x.2.1 from by kernel_rfl) (λ x=>by rw [Yno fu fu,Yko fu fu];rfl) (Bn ⟨⟨U3,call150,λ _=>Bj rfl⟩,⟨⟨Yy7,call156,λ _=>Bj rfl⟩,⟨⟨SV,call202,λ _=>Bj rfl⟩,⟨⟨Xw,call201,nw⟩,⟨⟨Zak,call203,λ _=>Bj rfl⟩,trivial⟩⟩⟩⟩⟩)
abbrev cD:=BY.env (AM.look []) (kq [(0,⟨tt [0,5,8,9,10],[]⟩)] [] [4])
def mY:=bd f157
abbrev Zbk:=fin cD [.tmp 4] [] [(Bi,[⟨0,1,0,1⟩])]
def Zi9:=Bb 3 mY
def Yoo (m0:Nat):=BK cD m0 Zi9 0 Zbk
def Ypo (m0:Nat):=BA 0 (Yoo m0)
def Zj9:=Bz 2 (By (BM (Bb 2 mY)))
def Zeb (m0 n:Nat):FD.A0:=λ x1 x2 x3 x4 x5=>ej cD n (.loop Zj9) 0 (mk [(0, .dat Bi x1 []),(5, .dat Bi x2 [⟨0,321,0,1⟩]),(8, .dat Bi x3 []),(9, .dat AX x4 []),(10, .dat AX x5 [])] []) (Ypo m0)
theorem Yqo (m0:Nat):∀ n,Zeb m0 n=FD.l0 n:=BR (S:=FD.S0) λ n=>by kernel_rfl
abbrev Zfb:=AM.spec [.val Bi, .val Bi] [(Bi,[⟨0,1,0,1⟩])] λ x=>FD x.1 x.2.1
theorem Yb8:Bh prog 157 Zfb:=B9 Bo (fn:=f157) (λ m x=>show run cD mY m x Zbk=FD.S (Zeb m m) x.1 x.2.1 from by kernel_rfl) (λ x=>by rw [Yqo fu fu];rfl) (Bn trivial)
abbrev lL:=AM.spec [.val .str, .val AX] [(Bi,[⟨0,1,0,1⟩]),(AX,[])] λ x=>QZ x.1 x.2.1
theorem Zin:Bh prog 94 lL:=Ck Bo (fn:=f94) (lk:=(AM.look [(155,Zdb),(157,Zfb)])) (ks:=(kz [4,5])) (ts:=[.tmp 4, .tmp 5]) (λ _=>by kernel_rfl) (Bn ⟨⟨Ya8,call155,nw⟩,⟨⟨Yb8,call157,nw⟩,trivial⟩⟩)
abbrev Zgb:=AM.spec [.val .str, .val AX, .val AX] [(Bi,[]),(AX,[])] λ x=>PO x.1 x.2.1 x.2.2.1
theorem Yc8:Bh prog 189 Zgb:=Ck Bo (fn:=f189) (lk:=(AM.look [(223,zZ),(89,bN),(224,kr),(225,Zxa),(94,lL),(201,UQ)])) (ks:=(kz [6,7])) (ts:=[.tmp 6, .tmp 7]) (λ _=>by kernel_rfl) (Bn ⟨⟨Ym7,call223,nw⟩,⟨⟨oz,call89,nw⟩,⟨⟨Zwj,call224,nw⟩,⟨⟨Yx7,call225,nw⟩,⟨⟨Zin,call94,nw⟩,⟨⟨Xw,call201,nw⟩,trivial⟩⟩⟩⟩⟩⟩)
abbrev XE:=BY.env (AM.look []) (kq [(0,⟨tt [0,1,6],[]⟩)] [(8,⟨tt [1,6],[]⟩)] [4,5])
def mZ:=bd f226
abbrev na:=fin XE [.tmp 4, .tmp 5] [] [(Cq,[⟨0,1,0,1⟩]),(AX,[])]
def vn:=Bb 3 mZ
def kC (m0 n:Nat):Dm.A1:=λ x4 x5=>ej XE n (.tail vn) 0 (mk [(1, .dat AX x4 []),(6, .dat Cq x5 [⟨0,385,0,1⟩])] []) na
theorem Yro (m0:Nat):∀ n,kC m0 n=Dm.t1 n:=ind rfl λ n _=>by kernel_rfl
def Yso (m0:Nat):=BK XE m0 vn 0 na
def Yto (m0:Nat):=BA 0 (Yso m0)
def Zk9:=Bz 3 (Bb 2 mZ)
def Zhb (m0 n:Nat):Dm.A0:=λ x1 x2 x3=>ej XE n (.loop Zk9) 0 (mk [(0, .dat .str x1 []),(1, .dat AX x2 []),(6, .dat Cq x3 [⟨0,385,0,1⟩])] []) (Yto m0)
theorem Yuo (m0:Nat):∀ n,Zhb m0 n=Dm.l0 (kC m0 m0) n:=BR (S:=Dm.S0 (kC m0 m0)) λ n=>by kernel_rfl
abbrev Zib:=AM.spec [.val .str, .val AX] [(Cq,[⟨0,1,0,1⟩]),(AX,[])] λ x=>Dm x.1 x.2.1
theorem Yd8:Bh prog 226 Zib:=B9 Bo (fn:=f226) (λ m x=>show run XE mZ m x na=Dm.S (Zhb m m) x.1 x.2.1 from by kernel_rfl) (λ x=>by rw [Yuo fu fu,Yro fu fu];rfl) (Bn trivial)
abbrev SW:=BY.env (AM.look [(150,SJ),(89,bN),(224,kr)]) ⟨[(0,⟨tt [0,1,6,7,9,37,38],[]⟩),(2,⟨tt [6,9,13,91,92,93],[]⟩)],[],[(17,⟨tt [0,1,6,7,9],[]⟩)],⟨tt [4,5],[]⟩,[],[150],[],[]⟩
def XF:=bd f227
abbrev cE:=fin SW [.tmp 4, .tmp 5] [] [(Cq,[⟨0,1,0,1⟩]),(AX,[])]
def Zl9:=Bb 12 XF
def Yvo (m0 m1:Nat):=BK SW m1 Zl9 0 cE
def Ywo (m0 m1:Nat):=BA 2 (Yvo m0 m1)
def Zm9:=Bz 2 (By (BM (Bb 11 XF)))
def Zjb (m0 m1 n:Nat):Co.A2:=λ Ct Dt DP CX C4 DO=>ej SW n (.loop Zm9) 2 (mk [(6, .dat AX Ct []),(9, .dat Cq Dt [⟨0,577,0,1⟩]),(13, .dat Cq DP [⟨0,833,0,1⟩]),(91, .dat Bi CX [⟨0,5825,0,1⟩]),(92, .dat AX C4 []),(93, .dat AX DO [])] []) (Ywo m0 m1)
theorem Yxo (m0 m1:Nat):∀ n,Zjb m0 m1 n=Co.l2 n:=BR (S:=Co.S2) λ n=>by kernel_rfl
def vo:=Bb 6 XF
def kD (m0 n:Nat):Co.A1:=λ x9 Bl BJ B0 BS=>ej SW n (.tail vo) 0 (mk [(0, .dat .str x9 []),(1, .dat AX Bl []),(6, .dat AX BJ []),(7, .dat AX B0 []),(9, .dat Cq BS [⟨0,577,0,1⟩])] []) cE
theorem Yyo (m0:Nat):∀ n,kD m0 n=Co.t1 n:=ind rfl λ n _=>(show _=Co.S1 (Zjb m0 n n) from by kernel_rfl).trans (by rw [Yxo m0 n n];rfl)
def Yzo (m0:Nat):=BK SW m0 vo 0 cE
def Yap (m0:Nat):=BA 0 (Yzo m0)
def Zn9:=Bz 2 (By (BM (Bb 5 XF)))
def Zkb (m0 n:Nat):Co.A0:=λ x2 x3 x4 x5 x6 x7 x8=>ej SW n (.loop Zn9) 0 (mk [(0, .dat .str x2 []),(1, .dat AX x3 []),(6, .dat AX x4 []),(7, .dat AX x5 []),(9, .dat Cq x6 [⟨0,577,0,1⟩]),(37, .dat AX x7 []),(38, .dat AX x8 [])] []) (Yap m0)
theorem Ybp (m0:Nat):∀ n,Zkb m0 n=Co.l0 (kD m0 m0) n:=BR (S:=Co.S0 (kD m0 m0)) λ n=>by kernel_rfl
abbrev Zlb:=AM.spec [.val .str, .val AX] [(Cq,[⟨0,1,0,1⟩]),(AX,[])] λ x=>Co x.1 x.2.1
theorem Ye8:Bh prog 227 Zlb:=B9 Bo (fn:=f227) (λ m x=>show run SW XF m x cE=Co.S (Zkb m m) x.1 x.2.1 from by kernel_rfl) (λ x=>by rw [Ybp fu fu,Yyo fu fu];rfl) (Bn ⟨⟨U3,call150,λ _=>Bj rfl⟩,⟨⟨oz,call89,nw⟩,⟨⟨Zwj,call224,nw⟩,trivial⟩⟩⟩)
abbrev Zmb:=AM.spec [.val .str] [(.str,[]),(AX,[])] λ x=>Ub x.1
theorem Yf8:Bh prog 154 Zmb:=Ck Bo (fn:=f154) (lk:=(AM.look [])) (ks:=(kz [2,3])) (ts:=[.tmp 2, .tmp 3]) (λ _=>by kernel_rfl) (Bn trivial)
abbrev RB:=BY.env (AM.look [(150,SJ),(154,Zmb),(202,Rm),(201,UQ),(203,ky)]) ⟨[(0,⟨tt [0,1,2,9,10,12,47,48],[]⟩),(2,⟨tt [9,12,16,17,98,99,100],tt [97]⟩)],[],[(20,⟨tt [0,1,9,10,12],[]⟩),(31,⟨tt [12,16,17],tt [97]⟩)],⟨tt [6,7,8],[]⟩,[17,97,111,115],[150,154,202,203],[],[89]⟩
def XG:=bd f153
abbrev XH:=fin RB [.tmp 6, .tmp 7, .tmp 8] [] [(Cq,[⟨0,1,0,1⟩]),(Bi,[]),(AX,[])]
def vp:=Bb 11 XG
def kE (m0 n:Nat):BX.A3:=λ FX Ht JI=>ej RB n (.tail vp) 0 (mk [(12, .dat Cq FX [⟨0,769,0,1⟩]),(16, .dat Bi Ht []),(17, .slw 97 0)] [(97,some (.arr .bool JI false))]) XH
theorem Ycp (m0 m1:Nat):∀ n,kE m0 n=BX.t3 n:=ind rfl λ n _=>by kernel_rfl
def Ydp (m0 m1:Nat):=BK RB m1 vp 0 XH
def Yep (m0 m1:Nat):=BA 2 (Ydp m0 m1)
def Zo9:=Bz 2 (By (BM (Bb 10 XG)))
def Znb (m0 m1 n:Nat):BX.A2:=λ Dt DP CX C4 DO Dy Fo=>ej RB n (.loop Zo9) 2 (mk [(9, .dat AX Dt []),(12, .dat Cq DP [⟨0,769,0,1⟩]),(16, .dat Bi CX []),(17, .slw 97 0),(98, .dat Bi C4 []),(99, .dat AX DO []),(100, .dat AX Dy [])] [(97,some (.arr .bool Fo false))]) (Yep m0 m1)
theorem Yfp (m0 m1:Nat):∀ n,Znb m0 m1 n=BX.l2 (kE m0 m1) n:=BR (S:=BX.S2 (kE m0 m1)) λ n=>by kernel_rfl
def vq:=Bb 7 XG
def kF (m0 n:Nat):BX.A1:=λ Bl BJ B0 BS B3=>ej RB n (.tail vq) 0 (mk [(0, .dat .str Bl []),(1, .dat AX BJ []),(9, .dat AX B0 []),(10, .dat AX BS []),(12, .dat Cq B3 [⟨0,769,0,1⟩])] []) XH
theorem Ygp (m0:Nat):∀ n,kF m0 n=BX.t1 n:=ind rfl λ n _=>(show _=BX.S1 (Znb m0 n n) from by kernel_rfl).trans (by rw [Yfp m0 n n,Ycp m0 n n];rfl)
def Yhp (m0:Nat):=BK RB m0 vq 0 XH
def Yip (m0:Nat):=BA 0 (Yhp m0)
def Zp9:=Bz 2 (By (BM (Bb 6 XG)))
def Zob (m0 n:Nat):BX.A0:=λ x2 x3 x4 x5 x6 x7 x8=>ej RB n (.loop Zp9) 0 (mk [(0, .dat .str x2 []),(1, .dat AX x3 []),(2, .fn 154 []),(9, .dat AX x4 []),(10, .dat AX x5 []),(12, .dat Cq x6 [⟨0,769,0,1⟩]),(47, .dat AX x7 []),(48, .dat AX x8 [])] []) (Yip m0)
theorem Yjp (m0:Nat):∀ n,Zob m0 n=BX.l0 (kF m0 m0) n:=BR (S:=BX.S0 (kF m0 m0)) λ n=>by kernel_rfl
abbrev Zpb:=AM.spec [.val .str, .val AX, .fn 154 []] [(Cq,[⟨0,1,0,1⟩]),(Bi,[]),(AX,[])] λ x=>BX x.1 x.2.1
theorem Yg8:Bh prog 153 Zpb:=B9 Bo (fn:=f153) (λ m x=>show run RB XG m x XH=BX.S (Zob m m) x.1 x.2.1 from by kernel_rfl) (λ x=>by rw [Yjp fu fu,Ygp fu fu];rfl) (Bn ⟨⟨U3,call150,λ _=>Bj rfl⟩,⟨⟨Yf8,call154,λ _=>Bj rfl⟩,⟨⟨SV,call202,λ _=>Bj rfl⟩,⟨⟨Xw,call201,nw⟩,⟨⟨Zak,call203,λ _=>Bj rfl⟩,trivial⟩⟩⟩⟩⟩)
abbrev lI:=AM.spec [.val .str, .val AX] [(Cq,[⟨0,1,0,1⟩]),(Bi,[]),(AX,[])] λ x=>PI x.1 x.2.1
theorem Zdn:Bh prog 93 lI:=Ck Bo (fn:=f93) (lk:=(AM.look [(153,Zpb)])) (ks:=(kz [4,5,6])) (ts:=[.tmp 4, .tmp 5, .tmp 6]) (λ _=>by kernel_rfl) (Bn ⟨⟨Yg8,call153,nw⟩,trivial⟩)
abbrev cF:=BY.env (AM.look []) (kq [(0,⟨tt [0,5,8,9,10],[]⟩)] [] [4])
def nc:=bd f255
abbrev Zck:=fin cF [.tmp 4] [] [(Cq,[⟨0,1,0,1⟩])]
def Zq9:=Bb 3 nc
def Ykp (m0:Nat):=BK cF m0 Zq9 0 Zck
def Ylp (m0:Nat):=BA 0 (Ykp m0)
def Zr9:=Bz 2 (By (BM (Bb 2 nc)))
def Zqb (m0 n:Nat):FC.A0:=λ x1 x2 x3 x4 x5=>ej cF n (.loop Zr9) 0 (mk [(0, .dat Cq x1 []),(5, .dat Cq x2 [⟨0,321,0,1⟩]),(8, .dat Bi x3 []),(9, .dat AX x4 []),(10, .dat AX x5 [])] []) (Ylp m0)
theorem Ymp (m0:Nat):∀ n,Zqb m0 n=FC.l0 n:=BR (S:=FC.S0) λ n=>by kernel_rfl
abbrev Zrb:=AM.spec [.val Cq, .val Bi] [(Cq,[⟨0,1,0,1⟩])] λ x=>FC x.1 x.2.1
theorem Yh8:Bh prog 255 Zrb:=B9 Bo (fn:=f255) (λ m x=>show run cF nc m x Zck=FC.S (Zqb m m) x.1 x.2.1 from by kernel_rfl) (λ x=>by rw [Ymp fu fu];rfl) (Bn trivial)
abbrev Zsb:=AM.spec [.val .str, .val AX] [(Cq,[⟨0,1,0,1⟩]),(AX,[])] λ x=>Ua x.1 x.2.1
theorem Yi8:Bh prog 228 Zsb:=Ck Bo (fn:=f228) (lk:=(AM.look [(93,lI),(255,Zrb)])) (ks:=(kz [4,5])) (ts:=[.tmp 4, .tmp 5]) (λ _=>by kernel_rfl) (Bn ⟨⟨Zdn,call93,nw⟩,⟨⟨Yh8,call255,nw⟩,trivial⟩⟩)
abbrev Ztb:=AM.spec [.val .str, .val AX, .val AX] [(Cq,[⟨0,1,0,1⟩]),(AX,[])] λ x=>Sp x.1 x.2.1 x.2.2.1
theorem Yj8:Bh prog 190 Ztb:=Ck Bo (fn:=f190) (lk:=(AM.look [(226,Zib),(227,Zlb),(228,Zsb)])) (ks:=(kz [6,7])) (ts:=[.tmp 6, .tmp 7]) (λ _=>by kernel_rfl) (Bn ⟨⟨Yd8,call226,nw⟩,⟨⟨Ye8,call227,nw⟩,⟨⟨Yi8,call228,nw⟩,trivial⟩⟩⟩)
abbrev SX:=BY.env (AM.look [(189,Zgb),(190,Ztb)]) (kq [(1,⟨tt [5,8,10,29,30,31],tt [5]⟩),(3,⟨tt [5,8,14,55,56,57],tt [5]⟩)] [] [6,7])
def U7:=bd f141
abbrev Zdk:=fin SX [.tmp 6, .tmp 7] [] [(CQ,[⟨0,1,0,3⟩]),(AX,[])]
def Zs9:=Bb 3 U7
def Ynp (m0:Nat):=BK SX m0 Zs9 0 Zdk
def xF (m0:Nat):=BA 0 (Ynp m0)
def Zt9:=Bb 2 (BM (By (BM (By (BM (Bb 2 U7))))))
def Yop (m0:Nat):=BK SX m0 Zt9 0 (xF m0)
def Ypp (m0:Nat):=BA 1 (Yop m0)
def Zu9:=Bz 2 (By (BM (By (BM (By (BM (By (BM (Bb 2 U7)))))))))
def Zub (m0 n:Nat):CO.A0:=λ x2 x3 x4 x5 x6 x7=>ej SX n (.loop Zu9) 1 (mk [(5, .ptr 5 0 0),(8, .dat CQ x2 [⟨0,513,0,3⟩]),(10, .dat AX x3 []),(29, .dat Bi x4 []),(30, .dat AX x5 []),(31, .dat AX x6 [])] [(5,some (.var Pm x7 []))]) (Ypp m0)
theorem Yqp (m0:Nat):∀ n,Zub m0 n=CO.l0 n:=BR (S:=CO.S0) λ n=>by kernel_rfl
def Zv9:=Bb 2 (BM (Bb 3 (BM (By (BM (Bb 2 U7))))))
def Yrp (m0:Nat):=BK SX m0 Zv9 0 (xF m0)
def Ysp (m0:Nat):=BA 3 (Yrp m0)
def Zw9:=Bz 2 (By (BM (By (BM (Bb 3 (BM (By (BM (Bb 2 U7)))))))))
def Zvb (m0 n:Nat):CO.A1:=λ x9 Bl BJ B0 BS B3=>ej SX n (.loop Zw9) 3 (mk [(5, .ptr 5 0 0),(8, .dat CQ x9 [⟨0,513,0,3⟩]),(14, .dat AX Bl []),(55, .dat Cq BJ [⟨0,3521,0,1⟩]),(56, .dat AX B0 []),(57, .dat AX BS [])] [(5,some (.var Pm B3 []))]) (Ysp m0)
theorem Ytp (m0:Nat):∀ n,Zvb m0 n=CO.l1 n:=BR (S:=CO.S1) λ n=>by kernel_rfl
abbrev Zwb:=AM.spec [.val .str, .val AX, .val Pm] [(CQ,[⟨0,1,0,3⟩]),(AX,[])] λ x=>CO x.1 x.2.1 x.2.2.1
theorem Yk8:Bh prog 141 Zwb:=B9 Bo (fn:=f141) (λ m x=>show run SX U7 m x Zdk=CO.S (Zub m m) (Zvb m m) x.1 x.2.1 x.2.2.1 from by kernel_rfl) (λ x=>by rw [Ytp fu fu,Yqp fu fu];rfl) (Bn ⟨⟨Yc8,call189,nw⟩,⟨⟨Yj8,call190,nw⟩,trivial⟩⟩)
abbrev bz:=AM.spec [.val ID] [(.bool,[])] λ x=>some (PQ x.1)
theorem nd:Bh prog 192 bz:=Ck Bo (fn:=f192) (lk:=(AM.look [])) (ks:=(kz [2])) (ts:=[.tmp 2]) (λ _=>by kernel_rfl) (Bn trivial)
abbrev bA:=BY.env (AM.look [(192,bz)]) ⟨[(0,⟨tt [0,1,7,8],[]⟩)],[],[],⟨tt [4],[]⟩,[],[192],[],[]⟩
def kG:=bd f229
abbrev Zxb:=fin bA [.tmp 4] [] [(AX,[])]
def Zx0:=Bb 2 kG
def Zx9 (m0:Nat):=BK bA m0 Zx0 0 Zxb
def Zy9 (m0:Nat):=BA 0 (Zx9 m0)
def Zy0:=Bz 2 (By (BM (By kG)))
def xG (m0 n:Nat):Hx.A0:=λ x1 x2 x3=>ej bA n (.loop Zy0) 0 (mk [(0, .dat CQ x1 []),(1, .fn 192 []),(7, .dat AX x2 []),(8, .dat AX x3 [])] []) (Zy9 m0)
theorem Zz9 (m0:Nat):∀ n,xG m0 n=Hx.l0 n:=BR (S:=Hx.S0) λ n=>by kernel_rfl
abbrev xH:=AM.spec [.val CQ, .fn 192 []] [(AX,[])] λ x=>Hx x.1
theorem Yx0:Bh prog 229 xH:=B9 Bo (fn:=f229) (λ m x=>show run bA kG m x Zxb=Hx.S (xG m m) x.1 from by kernel_rfl) (λ x=>by rw [Zz9 fu fu];rfl) (Bn ⟨⟨nd,call192,λ _=>Bj rfl⟩,trivial⟩)
abbrev xI:=AM.spec [.val CQ, .fn 192 []] [(.bool,[])] λ x=>Zl x.1
theorem Yy0:Bh prog 191 xI:=Ck Bo (fn:=f191) (lk:=(AM.look [(229,xH)])) (ks:=⟨[],[],[],⟨tt [4],[]⟩,[],[229],[],[]⟩) (ts:=[.tmp 4]) (λ _=>by kernel_rfl) (Bn ⟨⟨Yx0,call229,λ _=>Bj rfl⟩,trivial⟩)
abbrev cG:=BY.env (AM.look [(188,km),(140,kn),(191,xI)]) ⟨[(0,⟨tt [2,8,12,42,43],tt [40]⟩)],[],[],⟨tt [6,7],tt [6,40]⟩,[6,12,40,41,51,60],[140,191],[],[]⟩
def nf:=bd f142
abbrev Zek:=fin cG [.tmp 6, .tmp 7] [] [(CQ,[]),(AX,[])]
def Yaa:=Bb 7 nf
def Yup (m0:Nat):=BK cG m0 Yaa 0 Zek
def Yvp (m0:Nat):=BA 0 (Yup m0)
def Yba:=Bz 2 (By (BM (Bb 6 nf)))
def Zyb (m0 n:Nat):EK.A0:=λ x4 x5 x6 x7 x8=>ej cG n (.loop Yba) 0 (mk [(2, .dat CQ x4 []),(8, .dat Bi x5 []),(12, .slw 40 0),(42, .dat AX x6 []),(43, .dat AX x7 [])] [(40,some (.arr ID x8 false))]) (Yvp m0)
theorem Ywp (m0:Nat):∀ n,Zyb m0 n=EK.l0 n:=BR (S:=EK.S0) λ n=>by kernel_rfl
abbrev Zzb:=AM.spec [.val .str, .val AX, .val CQ] [(CQ,[]),(AX,[])] λ x=>EK x.1 x.2.1 x.2.2.1
theorem Yl8:Bh prog 142 Zzb:=B9 Bo (fn:=f142) (λ m x=>show run cG nf m x Zek=EK.S (Zyb m m) x.1 x.2.1 x.2.2.1 from by kernel_rfl) (λ x=>by rw [Ywp fu fu];rfl) (Bn ⟨⟨Zmj,call188,nw⟩,⟨⟨Zoj,call140,λ _=>Bj rfl⟩,⟨⟨Yy0,call191,λ _=>Bj rfl⟩,trivial⟩⟩⟩)
abbrev lD:=AM.spec [.val ID] [(AX,[])] λ x=>some (Fq x.1)
theorem Ztm:Bh prog 88 lD:=Ck Bo (fn:=f88) (lk:=(AM.look [])) (ks:=(kz [2])) (ts:=[.tmp 2]) (λ x=>(show _=Fq.o x.1 from by kernel_rfl).trans (by unfold Fq.o Fq;simp only [Nc])) (Bn trivial)
abbrev Zac:=AM.spec [.val ID, .ref AX] [(.bool,[])] λ x=>some (LS x.1 x.2.1)
theorem Ym8:Bh prog 230 Zac:=Ck Bo (fn:=f230) (lk:=(AM.look [(88,lD)])) (ks:=⟨[],[],[],⟨tt [3],[]⟩,[],[88],[],[]⟩) (ts:=[.tmp 3]) (λ x=>(show _=LS.o x.1 x.2.1 from by kernel_rfl).trans (by unfold LS.o LS;simp only [Nc])) (Bn ⟨⟨Ztm,call88,λ _=>Bj rfl⟩,trivial⟩)
abbrev bB:=BY.env (AM.look [(230,Zac)]) ⟨[(0,⟨tt [0,1,7,8],[]⟩)],[],[],⟨tt [4],[]⟩,[],[230],[],[]⟩
def kH:=bd f229
abbrev Zbc:=fin bB [.tmp 4] [] [(AX,[])]
def Zz0:=Bb 2 kH
def Yca (m0:Nat):=BK bB m0 Zz0 0 Zbc
def Yda (m0:Nat):=BA 0 (Yca m0)
def Za1:=Bz 2 (By (BM (By kH)))
def xJ (m0 n:Nat):Hw.A0:=λ x1 x2 x3 x4=>ej bB n (.loop Za1) 0 (mk [(0, .dat CQ x1 []),(1, .fn 230 [⟨AX,x2,[]⟩]),(7, .dat AX x3 []),(8, .dat AX x4 [])] []) (Yda m0)
theorem Yea (m0:Nat):∀ n,xJ m0 n=Hw.l0 n:=BR (S:=Hw.S0) λ n=>by kernel_rfl
abbrev xK:=AM.spec [.val CQ, .fn 230 [AX]] [(AX,[])] λ x=>Hw x.1 x.2.1.1
theorem Yz0:Bh prog 229 xK:=B9 Bo (fn:=f229) (λ m x=>show run bB kH m x Zbc=Hw.S (xJ m m) x.1 x.2.1.1 from by kernel_rfl) (λ x=>by rw [Yea fu fu];rfl) (Bn ⟨⟨Ym8,call230,λ _=>Bj rfl⟩,trivial⟩)
abbrev xL:=AM.spec [.val CQ, .fn 230 [AX]] [(.bool,[])] λ x=>V9 x.1 x.2.1.1
theorem Ya1:Bh prog 191 xL:=Ck Bo (fn:=f191) (lk:=(AM.look [(229,xK)])) (ks:=⟨[],[],[],⟨tt [4],[]⟩,[],[229],[],[]⟩) (ts:=[.tmp 4]) (λ _=>by kernel_rfl) (Bn ⟨⟨Yz0,call229,λ _=>Bj rfl⟩,trivial⟩)
abbrev Zcc:=AM.spec [.val CQ, .val AX] [(.bool,[])] λ x=>Uu x.1 x.2.1
theorem Yn8:Bh prog 193 Zcc:=Ck Bo (fn:=f193) (lk:=(AM.look [(191,xL)])) (ks:=⟨[],[],[],⟨tt [4],[]⟩,[],[191],[],[]⟩) (ts:=[.tmp 4]) (λ _=>by kernel_rfl) (Bn ⟨⟨Ya1,call191,λ _=>Bj rfl⟩,trivial⟩)
abbrev kI:=AM.spec [.val ID] [(.bool,[])] λ x=>some (We x.1)
theorem Zfk:Bh prog 233 kI:=Ck Bo (fn:=f233) (lk:=(AM.look [(192,bz)])) (ks:=⟨[],[],[],⟨tt [2],[]⟩,[],[192],[],[]⟩) (ts:=[.tmp 2]) (λ _=>by kernel_rfl) (Bn ⟨⟨nd,call192,λ _=>Bj rfl⟩,trivial⟩)
abbrev bC:=BY.env (AM.look [(233,kI)]) ⟨[(0,⟨tt [0,1,7,8],tt [1000000]⟩)],[],[],⟨tt [4],tt [1000000]⟩,[],[233],[],[]⟩
def kJ:=bd f229
abbrev Zdc:=fin bC [.tmp 4] [.ioa ID] [(AX,[]),(CQ,[])]
def Zb1:=Bb 2 kJ
def Yfa (m0:Nat):=BK bC m0 Zb1 0 Zdc
def Yga (m0:Nat):=BA 0 (Yfa m0)
def Zc1:=Bz 2 (By (BM (By kJ)))
def xM (m0 n:Nat):Hd.A0:=λ x1 x2 x3=>ej bC n (.loop Zc1) 0 (mk [(0, .slw 1000000 0),(1, .fn 233 []),(7, .dat AX x1 []),(8, .dat AX x2 [])] [(1000000,some (.arr ID x3 false))]) (Yga m0)
theorem Yha (m0:Nat):∀ n,xM m0 n=Hd.l0 n:=BR (S:=Hd.S0) λ n=>by kernel_rfl
abbrev xN:=AM.Hm 1 [.ioa ID, .fn 233 []] [(AX,[]),(CQ,[])] λ x=>Hd x.1
theorem Yb1:Bh prog 229 xN:=Ta Bo (fn:=f229) (ts:=[.tmp 4]) (λ m x=>show run bC kJ m x Zdc=Hd.S (xM m m) x.1 from by kernel_rfl) (λ x=>by rw [Yha fu fu];rfl) (Bn ⟨⟨Zfk,call233,λ _=>Bj rfl⟩,trivial⟩)
abbrev cH:=BY.env (AM.look [(229,xN),(233,kI)]) ⟨[(0,⟨tt [0,1,5,6],tt [1000000]⟩)],[],[(11,⟨tt [0,5],tt [1000000]⟩)],⟨tt [4],tt [1000000]⟩,[0,4,8,13,17,22,30,36,38,39,41],[233],[(229,[true])],[]⟩
def ng:=bd f231
abbrev nh:=YL 0 4 [.ioa ID] [(AX,[]),(CQ,[])]
def vr:=Bb 4 ng
def kK (m0 n:Nat):Ek.A1:=λ x6 x7=>ej cH n (.tail vr) 0 (mk [(0, .slw 1000000 0),(5, .dat AX x6 [])] [(1000000,some (.arr ID x7 false))]) nh
theorem Yxp (m0:Nat):∀ n,kK m0 n=Ek.t1 n:=ind rfl λ n _=>by kernel_rfl
def Yyp (m0:Nat):=BK cH m0 vr 0 nh
def Yzp (m0:Nat):=BA 0 (Yyp m0)
def Yia:=Bz 2 (By (BM (Bb 3 ng)))
def Zec (m0 n:Nat):Ek.A0:=λ x2 x3 x4=>ej cH n (.loop Yia) 0 (mk [(0, .slw 1000000 0),(1, .fn 233 []),(5, .dat AX x2 []),(6, .dat AX x3 [])] [(1000000,some (.arr ID x4 false))]) (Yzp m0)
theorem Yaq (m0:Nat):∀ n,Zec m0 n=Ek.l0 (kK m0 m0) n:=BR (S:=Ek.S0 (kK m0 m0)) λ n=>by kernel_rfl
abbrev Zfc:=AM.Qd 0 [.ioa ID, .fn 233 []] [(AX,[]),(CQ,[])] λ x=>Ek x.1
theorem Yo8:Bh prog 231 Zfc:=Xsd Bo (fn:=f231) (λ m x=>show run cH ng m x nh=Ek.S (Zec m m) x.1 from by kernel_rfl) (λ x=>by rw [Yaq fu fu,Yxp fu fu];rfl) (Bn ⟨⟨Yb1,call229,nw⟩,⟨⟨Zfk,call233,λ _=>Bj rfl⟩,trivial⟩⟩)
abbrev XI:=BY.env (AM.look [(232,rp),(231,Zfc),(192,bz),(234,UR)]) ⟨[(0,⟨tt [4,5,22,23,24],tt [11,21]⟩)],[],[(11,⟨tt [4,5],tt [11,21]⟩)],⟨tt [2,3],tt [11]⟩,[5,11,21,31,36],[192,234],[(231,[true])],[]⟩
def ni:=bd f194
abbrev nj:=fin XI [.tmp 2, .tmp 3] [] [(.str,[]),(CQ,[])]
def Zgc:=Bb 5 ni
def kL (m0 n:Nat):Ea.A1:=λ BJ B0 BS B3=>ej XI n (.tail Zgc) 0 (mk [(4, .slm 11 0 BJ B0),(5, .slw 21 0)] [(11,some (.arr ID BS false)),(21,some (.arr AX B3 false))]) nj
theorem Yp8 (m0:Nat):∀ n,kL m0 n=Ea.t1 n:=ind rfl λ n _=>by kernel_rfl
def Yq8 (m0:Nat):=BK XI m0 Zgc 0 nj
def Ybq (m0:Nat):=BA 0 (Yq8 m0)
def Yja:=Bz 2 (By (BM (Bb 4 ni)))
def Zhc (m0 n:Nat):Ea.A0:=λ x3 x4 x5 x6 x7 x8 x9=>ej XI n (.loop Yja) 0 (mk [(4, .slm 11 0 x3 x4),(5, .slw 21 0),(22, .dat CQ x5 []),(23, .dat AX x6 []),(24, .dat AX x7 [])] [(11,some (.arr ID x8 false)),(21,some (.arr AX x9 false))]) (Ybq m0)
theorem Ycq (m0:Nat):∀ n,Zhc m0 n=Ea.l0 (kL m0 m0) n:=BR (S:=Ea.S0 (kL m0 m0)) λ n=>by kernel_rfl
abbrev Zic:=AM.spec [.val CQ] [(.str,[]),(CQ,[])] λ x=>Ea x.1
theorem Yr8:Bh prog 194 Zic:=B9 Bo (fn:=f194) (λ m x=>show run XI ni m x nj=Ea.S (Zhc m m) x.1 from by kernel_rfl) (λ x=>by rw [Ycq fu fu,Yp8 fu fu];rfl) (Bn ⟨⟨Zpr,call232,nw⟩,⟨⟨Yo8,call231,nw⟩,⟨⟨nd,call192,λ _=>Bj rfl⟩,⟨⟨XB,call234,λ _=>Bj rfl⟩,trivial⟩⟩⟩⟩)
abbrev SY:=BY.env (AM.look []) (kq [(0,⟨tt [3,11,12,13],[]⟩),(2,⟨tt [3,6,11,12,13,19],[]⟩)] [] [2])
def nk:=bd f256
abbrev Zgk:=fin SY [.tmp 2] [] [(.str,[])]
def Yka:=Bb 3 nk
def Ydq (m0:Nat):=BK SY m0 Yka 0 Zgk
def xO (m0:Nat):=BA 0 (Ydq m0)
def aq:=Bz 2 (By (BM (Bb 2 nk)))
def bD (m0 n:Nat):DA.A0:=λ x1 x2 x3 x4=>ej SY n (.loop aq) 0 (mk [(3, .dat (.sl (.int .u8)) x1 [⟨0,193,0,0⟩]),(11, .dat Bi x2 []),(12, .dat AX x3 []),(13, .dat AX x4 [])] []) (xO m0)
def Yeq (m0 m1:Nat):=Mq SY m1 aq 0 (xO m0)
def Yla:=Bb 3 aq
def Yfq (m0 m1:Nat):=BK SY m1 Yla 0 (Yeq m0 m1)
def Ygq (m0 m1:Nat):=BA 1 (Yfq m0 m1)
def Yhq (m0 m1:Nat):=BA 2 (Ygq m0 m1)
def Yma:=Bz 2 (Bb 3 (Bz 2 (Bb 2 aq)))
def Zjc (m0 m1 n:Nat):DA.A1:=λ x5 x6 x7 x8 x9 Bl=>ej SY n (.loop Yma) 2 (mk [(3, .dat (.sl (.int .u8)) x5 [⟨0,193,0,0⟩]),(6, .dat (.int .u64) x6 []),(11, .dat Bi x7 []),(12, .dat AX x8 []),(13, .dat AX x9 []),(19, .dat AX Bl [])] []) (Yhq m0 m1)
theorem Yiq (m0 m1:Nat):∀ n,Zjc m0 m1 n=DA.l1 (bD m0 m1) n:=BR (S:=DA.S1 (bD m0 m1)) λ n=>by kernel_rfl
theorem Yjq (m0:Nat):∀ n,bD m0 n=DA.l0 n:=ind rfl λ n e0=>(show _=DA.S0 (Zjc m0 n n) from by kernel_rfl).trans (by rw [Yiq m0 n n,e0];rfl)
abbrev Zkc:=AM.spec [.val Bi] [(.str,[])] λ x=>DA x.1
theorem Ys8:Bh prog 256 Zkc:=B9 Bo (fn:=f256) (λ m x=>show run SY nk m x Zgk=DA.S (bD m m) x.1 from by kernel_rfl) (λ x=>by rw [Yjq fu fu];rfl) (Bn trivial)
abbrev cI:=BY.env (AM.look []) ⟨[(0,⟨tt [0,3,9,10,11],tt [3]⟩)],[],[],⟨tt [2],tt [2,3]⟩,[2,3,27,32,33,34,44],[],[],[]⟩
def nn:=bd f258
abbrev Zhk:=fin cI [.tmp 2] [] [(GZ,[])]
def Yna:=Bb 4 nn
def Ykq (m0:Nat):=BK cI m0 Yna 0 Zhk
def Ylq (m0:Nat):=BA 0 (Ykq m0)
def Yoa:=Bz 2 (By (BM (Bb 3 nn)))
def Zlc (m0 n:Nat):FI.A0:=λ x1 x2 x3 x4 x5=>ej cI n (.loop Yoa) 0 (mk [(0, .dat Bi x1 []),(3, .slw 3 0),(9, .dat Bi x2 []),(10, .dat AX x3 []),(11, .dat AX x4 [])] [(3,some (.arr eH x5 false))]) (Ylq m0)
theorem Ymq (m0:Nat):∀ n,Zlc m0 n=FI.l0 n:=BR (S:=FI.S0) λ n=>by kernel_rfl
abbrev kM:=AM.spec [.val Bi] [(GZ,[])] λ x=>FI x.1
theorem Zik:Bh prog 258 kM:=B9 Bo (fn:=f258) (λ m x=>show run cI nn m x Zhk=FI.S (Zlc m m) x.1 from by kernel_rfl) (λ x=>by rw [Ymq fu fu];rfl) (Bn trivial)
abbrev bE:=AM.Hm 2 [.io (.pair (.lk false) (.sl (.int .u8))) [(1,0)], .val .str] [(AX,[]),((.lk true),[]),((.pair (.lk false) (.sl (.int .u8))),[⟨1,1,0,0⟩])] λ x=>Sg x.1 x.2.1
theorem np:Bh prog 268 bE:=ew Bo (fn:=f268) (lk:=(AM.look [(283,gw)])) (ks:=⟨[],[],[],⟨tt [4,5],tt [1000000]⟩,[],[],[],[]⟩) (ts:=[.tmp 4, .tmp 5]) (λ _=>by kernel_rfl) (Bn ⟨⟨sJ,call283,nw⟩,trivial⟩)
abbrev cJ:=BY.env (AM.look [(151,bp),(263,SK),(268,bE),(269,Zz)]) ⟨[(0,⟨tt [6,16,17,18],tt [6]⟩)],[],[],⟨tt [2,3],[]⟩,[],[151,263],[],[]⟩
def nr:=bd f257
abbrev Zjk:=fin cJ [.tmp 2, .tmp 3] [] [(.str,[]),(AX,[])]
def Ypa:=Bb 4 nr
def Ynq (m0:Nat):=BK cJ m0 Ypa 0 Zjk
def Yoq (m0:Nat):=BA 0 (Ynq m0)
def Yqa:=Bz 2 (By (BM (Bb 3 nr)))
def Zmc (m0 n:Nat):F8.A0:=λ x2 x3 x4 x5=>ej cJ n (.loop Yqa) 0 (mk [(6, .ptr 6 0 0),(16, .dat GZ x2 []),(17, .dat AX x3 []),(18, .dat AX x4 [])] [(6,some (.var (.pair (.lk false) (.sl (.int .u8))) x5 [⟨1,64386,0,0⟩]))]) (Yoq m0)
theorem Ypq (m0:Nat):∀ n,Zmc m0 n=F8.l0 n:=BR (S:=F8.S0) λ n=>by kernel_rfl
abbrev kN:=AM.spec [.val GZ] [(.str,[]),(AX,[])] λ x=>F8 x.1
theorem Zkk:Bh prog 257 kN:=B9 Bo (fn:=f257) (λ m x=>show run cJ nr m x Zjk=F8.S (Zmc m m) x.1 from by kernel_rfl) (λ x=>by rw [Ypq fu fu];rfl) (Bn ⟨⟨mO,call151,λ _=>Bj rfl⟩,⟨⟨U5,call263,λ _=>Bj rfl⟩,⟨⟨np,call268,nw⟩,⟨⟨gx,call269,nw⟩,trivial⟩⟩⟩⟩)
abbrev jK:=AM.spec [.val AX] [(.bool,[])] λ x=>some (cmp_isNaN_int x.1)
theorem Ztf:Bh prog 197 jK:=Ck Bo (fn:=f197) (lk:=(AM.look [])) (ks:=(kz [2])) (ts:=[.tmp 2]) (λ _=>by kernel_rfl) (Bn trivial)
abbrev Znc:=AM.spec [.val AX, .val AX] [(.bool,[])] λ x=>some (cmp_Less_int x.1 x.2.1)
theorem Yt8:Bh prog 146 Znc:=Ck Bo (fn:=f146) (lk:=(AM.look [(197,jK)])) (ks:=⟨[],[],[],⟨tt [4],[]⟩,[],[197],[],[]⟩) (ts:=[.tmp 4]) (λ x=>(show _=cmp_Less_int.o x.1 x.2.1 from by kernel_rfl).trans (by unfold cmp_Less_int.o cmp_Less_int;simp only [Nc])) (Bn ⟨⟨Ztf,call197,λ _=>Bj rfl⟩,trivial⟩)
abbrev Zoc:=AM.spec [.val AX] [(.bool,[])] λ x=>some (Zp x.1)
theorem Yu8:Bh prog 147 Zoc:=Ck Bo (fn:=f147) (lk:=(AM.look [])) (ks:=(kz [2])) (ts:=[.tmp 2]) (λ _=>by kernel_rfl) (Bn trivial)
abbrev Ys:=BY.env (AM.look [(146,Znc),(147,Zoc)]) ⟨[(0,⟨tt [0,1,6,7,8],[]⟩)],[],[(8,⟨tt [0,1,6,7],[]⟩)],⟨tt [4,5],[]⟩,[],[146,147],[],[]⟩
def o9:=bd f81
abbrev pa:=fin Ys [.tmp 4, .tmp 5] [] [(AX,[]),(.bool,[])]
def xP:=Bb 4 o9
def ns (m0 n:Nat):DR.A1:=λ x7 x8 x9 Bl=>ej Ys n (.tail xP) 0 (mk [(0, .dat Bi x7 []),(1, .dat AX x8 []),(6, .dat AX x9 []),(7, .dat AX Bl [])] []) pa
theorem Yc1 (m0:Nat):∀ n,ns m0 n=DR.t1 n:=ind rfl λ n _=>by kernel_rfl
def Yd1 (m0:Nat):=BK Ys m0 xP 0 pa
def Ye1 (m0:Nat):=BA 0 (Yd1 m0)
def Yqq:=Bz 3 (Bb 3 o9)
def Zlk (m0 n:Nat):DR.A0:=λ x1 x2 x3 x4 x5=>ej Ys n (.loop Yqq) 0 (mk [(0, .dat Bi x1 []),(1, .dat AX x2 []),(6, .dat AX x3 []),(7, .dat AX x4 []),(8, .dat AX x5 [])] []) (Ye1 m0)
theorem Yf1 (m0:Nat):∀ n,Zlk m0 n=DR.l0 (ns m0 m0) n:=BR (S:=DR.S0 (ns m0 m0)) λ n=>by kernel_rfl
abbrev nt:=AM.spec [.val Bi, .val AX] [(AX,[]),(.bool,[])] λ x=>DR x.1 x.2.1
theorem Zno:Bh prog 81 nt:=B9 Bo (fn:=f81) (λ m x=>show run Ys o9 m x pa=DR.S (Zlk m m) x.1 x.2.1 from by kernel_rfl) (λ x=>by rw [Yf1 fu fu,Yc1 fu fu];rfl) (Bn ⟨⟨Yt8,call146,λ _=>Bj rfl⟩,⟨⟨Yu8,call147,λ _=>Bj rfl⟩,trivial⟩⟩)
abbrev dR:=BY.env (AM.look [(114,ru),(115,rB),(158,rn),(81,nt)]) ⟨[(0,⟨tt [4,5,16,17,18],tt [11]⟩)],[],[],⟨tt [2,3],tt [11]⟩,[2,4,11,12,14,15,23,33],[81],[(115,[true]),(158,[true])],[]⟩
def pb:=bd f95
abbrev Zoo:=fin dR [.tmp 2, .tmp 3] [] [(Bi,[]),(Bi,[⟨0,1,0,1⟩])]
def Yrq:=Bb 6 pb
def Yg1 (m0:Nat):=BK dR m0 Yrq 0 Zoo
def Yh1 (m0:Nat):=BA 0 (Yg1 m0)
def Ysq:=Bz 2 (By (BM (Bb 5 pb)))
def Zmk (m0 n:Nat):FE.A0:=λ x4 x5 x6 x7 x8 x9 Bl=>ej dR n (.loop Ysq) 0 (mk [(4, .slm 11 0 x4 x5),(5, .dat Bi x6 [⟨0,321,0,1⟩]),(16, .dat Bi x7 []),(17, .dat AX x8 []),(18, .dat AX x9 [])] [(11,some (.arr AX Bl false))]) (Yh1 m0)
theorem Yi1 (m0:Nat):∀ n,Zmk m0 n=FE.l0 n:=BR (S:=FE.S0) λ n=>by kernel_rfl
abbrev Znk:=AM.spec [.val Bi] [(Bi,[]),(Bi,[⟨0,1,0,1⟩])] λ x=>FE x.1
theorem Zho:Bh prog 95 Znk:=B9 Bo (fn:=f95) (λ m x=>show run dR pb m x Zoo=FE.S (Zmk m m) x.1 from by kernel_rfl) (λ x=>by rw [Yi1 fu fu];rfl) (Bn ⟨⟨Ztr,call114,nw⟩,⟨⟨Zyr,call115,nw⟩,⟨⟨Zlr,call158,nw⟩,⟨⟨Zno,call81,λ _=>Bj rfl⟩,trivial⟩⟩⟩⟩)
abbrev cK:=BY.env (AM.look [(263,SK),(268,bE),(269,Zz)]) ⟨[(0,⟨tt [4,7,8,9],tt [4]⟩)],[],[],⟨tt [2,3],[]⟩,[],[263],[],[]⟩
def nu:=bd f271
abbrev Zok:=fin cK [.tmp 2, .tmp 3] [] [(.str,[]),(AX,[])]
def Yra:=Bb 3 nu
def Ytq (m0:Nat):=BK cK m0 Yra 0 Zok
def Yuq (m0:Nat):=BA 0 (Ytq m0)
def Ysa:=Bz 2 (By (BM (Bb 2 nu)))
def Zpc (m0 n:Nat):H8.A0:=λ x1 x2 x3 x4=>ej cK n (.loop Ysa) 0 (mk [(4, .ptr 4 0 0),(7, .dat Bi x1 []),(8, .dat AX x2 []),(9, .dat AX x3 [])] [(4,some (.var (.pair (.lk false) (.sl (.int .u8))) x4 [⟨1,64258,0,0⟩]))]) (Yuq m0)
theorem Yvq (m0:Nat):∀ n,Zpc m0 n=H8.l0 n:=BR (S:=H8.S0) λ n=>by kernel_rfl
abbrev Zqc:=AM.spec [.val Bi] [(.str,[]),(AX,[])] λ x=>H8 x.1
theorem Yv8:Bh prog 271 Zqc:=B9 Bo (fn:=f271) (λ m x=>show run cK nu m x Zok=H8.S (Zpc m m) x.1 from by kernel_rfl) (λ x=>by rw [Yvq fu fu];rfl) (Bn ⟨⟨U5,call263,λ _=>Bj rfl⟩,⟨⟨np,call268,nw⟩,⟨⟨gx,call269,nw⟩,trivial⟩⟩⟩)
abbrev Zrc:=AM.spec [.val Bi, .fn 271 []] [(.str,[]),(AX,[])] λ x=>fL x.1
theorem Yw8:Bh prog 270 Zrc:=Ck Bo (fn:=f270) (lk:=(AM.look [(95,Znk),(271,Zqc),(202,Rm),(234,UR),(263,SK)])) (ks:=⟨[],[],[],⟨tt [4,5],[]⟩,[],[202,234,263,271],[],[]⟩) (ts:=[.tmp 4, .tmp 5]) (λ _=>by kernel_rfl) (Bn ⟨⟨Zho,call95,nw⟩,⟨⟨Yv8,call271,λ _=>Bj rfl⟩,⟨⟨SV,call202,λ _=>Bj rfl⟩,⟨⟨XB,call234,λ _=>Bj rfl⟩,⟨⟨U5,call263,λ _=>Bj rfl⟩,trivial⟩⟩⟩⟩⟩)
abbrev Zsc:=AM.spec [.val Bi] [(.str,[]),(AX,[])] λ x=>ZD x.1
theorem Yx8:Bh prog 259 Zsc:=Ck Bo (fn:=f259) (lk:=(AM.look [(270,Zrc)])) (ks:=⟨[],[],[],⟨tt [2,3],[]⟩,[],[270],[],[]⟩) (ts:=[.tmp 2, .tmp 3]) (λ _=>by kernel_rfl) (Bn ⟨⟨Yw8,call270,λ _=>Bj rfl⟩,trivial⟩)
abbrev Ztc:=AM.spec [.val Bi, .val AX] [(.str,[]),(AX,[])] λ x=>Uc x.1 x.2.1
theorem Yy8:Bh prog 235 Ztc:=Ck Bo (fn:=f235) (lk:=(AM.look [(256,Zkc),(258,kM),(257,kN),(254,kx),(259,Zsc),(202,Rm),(234,UR)])) (ks:=⟨[],[],[],⟨tt [4,5],[]⟩,[],[202,234,254,256,257,259],[],[]⟩) (ts:=[.tmp 4, .tmp 5]) (λ _=>by kernel_rfl) (Bn ⟨⟨Ys8,call256,λ _=>Bj rfl⟩,⟨⟨Zik,call258,nw⟩,⟨⟨Zkk,call257,λ _=>Bj rfl⟩,⟨⟨Zyj,call254,λ _=>Bj rfl⟩,⟨⟨Yx8,call259,λ _=>Bj rfl⟩,⟨⟨SV,call202,λ _=>Bj rfl⟩,⟨⟨XB,call234,λ _=>Bj rfl⟩,trivial⟩⟩⟩⟩⟩⟩⟩)
abbrev Zuc:=AM.Hm 1 [.io (.pair (.lk false) (.sl (.int .u8))) [(1,0)], .val (.int .u8)] [((.lk true),[]),((.pair (.lk false) (.sl (.int .u8))),[⟨1,1,0,0⟩])] λ x=>Zm x.1 x.2.1
theorem Yz8:Bh prog 272 Zuc:=ew Bo (fn:=f272) (lk:=(AM.look [(283,gw)])) (ks:=⟨[],[],[],⟨tt [4],tt [1000000]⟩,[],[],[],[]⟩) (ts:=[.tmp 4]) (λ _=>by kernel_rfl) (Bn ⟨⟨sJ,call283,nw⟩,trivial⟩)
abbrev cL:=BY.env (AM.look [(272,Zuc),(268,bE),(269,Zz)]) (kq [(0,⟨tt [4,7,8,9],tt [4]⟩)] [] [2,3])
def nv:=bd f260
abbrev Zpk:=fin cL [.tmp 2, .tmp 3] [] [(.str,[]),(AX,[])]
def Yta:=Bb 3 nv
def Ywq (m0:Nat):=BK cL m0 Yta 0 Zpk
def Yxq (m0:Nat):=BA 0 (Ywq m0)
def Yua:=Bz 2 (By (BM (Bb 2 nv)))
def Zvc (m0 n:Nat):GO.A0:=λ x1 x2 x3 x4=>ej cL n (.loop Yua) 0 (mk [(4, .ptr 4 0 0),(7, .dat Cq x1 []),(8, .dat AX x2 []),(9, .dat AX x3 [])] [(4,some (.var (.pair (.lk false) (.sl (.int .u8))) x4 [⟨1,64258,0,0⟩]))]) (Yxq m0)
theorem Yyq (m0:Nat):∀ n,Zvc m0 n=GO.l0 n:=BR (S:=GO.S0) λ n=>by kernel_rfl
abbrev kO:=AM.spec [.val Cq] [(.str,[]),(AX,[])] λ x=>GO x.1
theorem Zqk:Bh prog 260 kO:=B9 Bo (fn:=f260) (λ m x=>show run cL nv m x Zpk=GO.S (Zvc m m) x.1 from by kernel_rfl) (λ x=>by rw [Yyq fu fu];rfl) (Bn ⟨⟨Yz8,call272,nw⟩,⟨⟨np,call268,nw⟩,⟨⟨gx,call269,nw⟩,trivial⟩⟩⟩)
abbrev Zwc:=AM.spec [.val .str] [(.bool,[])] λ x=>some (cmp_isNaN_string x.1)
theorem Ya9:Bh prog 296 Zwc:=Ck Bo (fn:=f296) (lk:=(AM.look [])) (ks:=(kz [2])) (ts:=[.tmp 2]) (λ _=>by kernel_rfl) (Bn trivial)
abbrev Zxc:=AM.spec [.val .str, .val .str] [(.bool,[])] λ x=>some (cmp_Less_string x.1 x.2.1)
theorem Yb9:Bh prog 285 Zxc:=Ck Bo (fn:=f285) (lk:=(AM.look [(296,Zwc)])) (ks:=⟨[],[],[],⟨tt [4],[]⟩,[],[296],[],[]⟩) (ts:=[.tmp 4]) (λ x=>(show _=cmp_Less_string.o x.1 x.2.1 from by kernel_rfl).trans (by unfold cmp_Less_string.o cmp_Less_string;simp only [Nc])) (Bn ⟨⟨Ya9,call296,λ _=>Bj rfl⟩,trivial⟩)
abbrev Zyc:=AM.spec [.val .str] [(.bool,[])] λ x=>some (fN x.1)
theorem Yc9:Bh prog 286 Zyc:=Ck Bo (fn:=f286) (lk:=(AM.look [])) (ks:=(kz [2])) (ts:=[.tmp 2]) (λ _=>by kernel_rfl) (Bn trivial)
abbrev XJ:=BY.env (AM.look [(285,Zxc),(286,Zyc)]) ⟨[(0,⟨tt [0,1,6,7,8],[]⟩)],[],[(8,⟨tt [0,1,6,7],[]⟩)],⟨tt [4,5],[]⟩,[],[285,286],[],[]⟩
def ny:=bd f277
abbrev nz:=fin XJ [.tmp 4, .tmp 5] [] [(AX,[]),(.bool,[])]
def vt:=Bb 4 ny
def kP (m0 n:Nat):EI.A1:=λ x7 x8 x9 Bl=>ej XJ n (.tail vt) 0 (mk [(0, .dat Cq x7 []),(1, .dat .str x8 []),(6, .dat AX x9 []),(7, .dat AX Bl [])] []) nz
theorem Yzq (m0:Nat):∀ n,kP m0 n=EI.t1 n:=ind rfl λ n _=>by kernel_rfl
def Yar (m0:Nat):=BK XJ m0 vt 0 nz
def Ybr (m0:Nat):=BA 0 (Yar m0)
def Yva:=Bz 3 (Bb 3 ny)
def Zzc (m0 n:Nat):EI.A0:=λ x1 x2 x3 x4 x5=>ej XJ n (.loop Yva) 0 (mk [(0, .dat Cq x1 []),(1, .dat .str x2 []),(6, .dat AX x3 []),(7, .dat AX x4 []),(8, .dat AX x5 [])] []) (Ybr m0)
theorem Ycr (m0:Nat):∀ n,Zzc m0 n=EI.l0 (kP m0 m0) n:=BR (S:=EI.S0 (kP m0 m0)) λ n=>by kernel_rfl
abbrev Zad:=AM.spec [.val Cq, .val .str] [(AX,[]),(.bool,[])] λ x=>EI x.1 x.2.1
theorem Yd9:Bh prog 277 Zad:=B9 Bo (fn:=f277) (λ m x=>show run XJ ny m x nz=EI.S (Zzc m m) x.1 x.2.1 from by kernel_rfl) (λ x=>by rw [Ycr fu fu,Yzq fu fu];rfl) (Bn ⟨⟨Yb9,call285,λ _=>Bj rfl⟩,⟨⟨Yc9,call286,λ _=>Bj rfl⟩,trivial⟩⟩)
abbrev cM:=BY.env (AM.look [(274,rl),(275,rm),(276,rk),(277,Zad)]) ⟨[(0,⟨tt [4,5,16,17,18],tt [11]⟩)],[],[],⟨tt [2,3],tt [11]⟩,[2,4,11,12,14,15,23,33],[277],[(275,[true]),(276,[true])],[]⟩
def nA:=bd f262
abbrev Zrk:=fin cM [.tmp 2, .tmp 3] [] [(Cq,[]),(Bi,[⟨0,1,0,1⟩])]
def Ywa:=Bb 6 nA
def Ydr (m0:Nat):=BK cM m0 Ywa 0 Zrk
def Yer (m0:Nat):=BA 0 (Ydr m0)
def Yxa:=Bz 2 (By (BM (Bb 5 nA)))
def Zbd (m0 n:Nat):Gh.A0:=λ x4 x5 x6 x7 x8 x9 Bl=>ej cM n (.loop Yxa) 0 (mk [(4, .slm 11 0 x4 x5),(5, .dat Bi x6 [⟨0,321,0,1⟩]),(16, .dat Cq x7 []),(17, .dat AX x8 []),(18, .dat AX x9 [])] [(11,some (.arr .str Bl false))]) (Yer m0)
theorem Yfr (m0:Nat):∀ n,Zbd m0 n=Gh.l0 n:=BR (S:=Gh.S0) λ n=>by kernel_rfl
abbrev kQ:=AM.spec [.val Cq] [(Cq,[]),(Bi,[⟨0,1,0,1⟩])] λ x=>Gh x.1
theorem Zsk:Bh prog 262 kQ:=B9 Bo (fn:=f262) (λ m x=>show run cM nA m x Zrk=Gh.S (Zbd m m) x.1 from by kernel_rfl) (λ x=>by rw [Yfr fu fu];rfl) (Bn ⟨⟨Zir,call274,nw⟩,⟨⟨Zkr,call275,nw⟩,⟨⟨Zhr,call276,nw⟩,⟨⟨Yd9,call277,λ _=>Bj rfl⟩,trivial⟩⟩⟩⟩)
abbrev Zcd:=AM.spec [.val Cq, .fn 260 []] [(.str,[]),(AX,[])] λ x=>fK x.1
theorem Ye9:Bh prog 273 Zcd:=Ck Bo (fn:=f273) (lk:=(AM.look [(262,kQ),(260,kO),(202,Rm),(234,UR),(263,SK)])) (ks:=⟨[],[],[],⟨tt [4,5],[]⟩,[],[202,234,260,263],[],[]⟩) (ts:=[.tmp 4, .tmp 5]) (λ _=>by kernel_rfl) (Bn ⟨⟨Zsk,call262,nw⟩,⟨⟨Zqk,call260,λ _=>Bj rfl⟩,⟨⟨SV,call202,λ _=>Bj rfl⟩,⟨⟨XB,call234,λ _=>Bj rfl⟩,⟨⟨U5,call263,λ _=>Bj rfl⟩,trivial⟩⟩⟩⟩⟩)
abbrev Zdd:=AM.spec [.val Cq] [(.str,[]),(AX,[])] λ x=>Zx x.1
theorem Yf9:Bh prog 261 Zdd:=Ck Bo (fn:=f261) (lk:=(AM.look [(273,Zcd)])) (ks:=⟨[],[],[],⟨tt [2,3],[]⟩,[],[273],[],[]⟩) (ts:=[.tmp 2, .tmp 3]) (λ _=>by kernel_rfl) (Bn ⟨⟨Ye9,call273,λ _=>Bj rfl⟩,trivial⟩)
abbrev Zed:=AM.spec [.val Cq, .val AX] [(.str,[]),(AX,[])] λ x=>Uf x.1 x.2.1
theorem Yg9:Bh prog 236 Zed:=Ck Bo (fn:=f236) (lk:=(AM.look [(260,kO),(261,Zdd),(262,kQ),(258,kM),(257,kN),(263,SK)])) (ks:=⟨[],[],[],⟨tt [4,5],[]⟩,[],[257,260,261,263],[],[]⟩) (ts:=[.tmp 4, .tmp 5]) (λ _=>by kernel_rfl) (Bn ⟨⟨Zqk,call260,λ _=>Bj rfl⟩,⟨⟨Yf9,call261,λ _=>Bj rfl⟩,⟨⟨Zsk,call262,nw⟩,⟨⟨Zik,call258,nw⟩,⟨⟨Zkk,call257,λ _=>Bj rfl⟩,⟨⟨U5,call263,λ _=>Bj rfl⟩,trivial⟩⟩⟩⟩⟩⟩)
abbrev XK:=BY.env (AM.look [(235,Ztc),(236,Zed)]) ⟨[(0,⟨tt [1,2,8,9,12,13,14],[]⟩)],[],[(8,⟨tt [1,2,8,9],[]⟩)],⟨tt [6,7],[]⟩,[],[235,236],[],[21,26]⟩
def nB:=bd f195
abbrev nD:=fin XK [.tmp 6, .tmp 7] [] [(.str,[]),(AX,[])]
def vu:=Bb 4 nB
def kR (m0 n:Nat):Ee.A1:=λ x8 x9 Bl BJ=>ej XK n (.tail vu) 0 (mk [(1, .dat AX x8 []),(2, .dat AX x9 []),(8, .dat Bi Bl [⟨0,513,0,1⟩]),(9, .dat Cq BJ [⟨0,577,0,1⟩])] []) nD
theorem Ygr (m0:Nat):∀ n,kR m0 n=Ee.t1 n:=ind rfl λ n _=>by kernel_rfl
def Yhr (m0:Nat):=BK XK m0 vu 0 nD
def Yir (m0:Nat):=BA 0 (Yhr m0)
def Yya:=Bz 2 (By (BM (Bb 3 nB)))
def Zfd (m0 n:Nat):Ee.A0:=λ x1 x2 x3 x4 x5 x6 x7=>ej XK n (.loop Yya) 0 (mk [(1, .dat AX x1 []),(2, .dat AX x2 []),(8, .dat Bi x3 [⟨0,513,0,1⟩]),(9, .dat Cq x4 [⟨0,577,0,1⟩]),(12, .dat CQ x5 []),(13, .dat AX x6 []),(14, .dat AX x7 [])] []) (Yir m0)
theorem Yjr (m0:Nat):∀ n,Zfd m0 n=Ee.l0 (kR m0 m0) n:=BR (S:=Ee.S0 (kR m0 m0)) λ n=>by kernel_rfl
abbrev Zgd:=AM.spec [.val CQ, .val AX, .val AX] [(.str,[]),(AX,[])] λ x=>Ee x.1 x.2.1 x.2.2.1
theorem Yh9:Bh prog 195 Zgd:=B9 Bo (fn:=f195) (λ m x=>show run XK nB m x nD=Ee.S (Zfd m m) x.1 x.2.1 x.2.2.1 from by kernel_rfl) (λ x=>by rw [Yjr fu fu,Ygr fu fu];rfl) (Bn ⟨⟨Yy8,call235,λ _=>Bj rfl⟩,⟨⟨Yg9,call236,λ _=>Bj rfl⟩,trivial⟩⟩)
abbrev Zhd:=AM.spec [.val CQ, .val AX, .val AX] [(.str,[]),(AX,[])] λ x=>M8 x.1 x.2.1 x.2.2.1
theorem Yi9:Bh prog 143 Zhd:=Ck Bo (fn:=f143) (lk:=(AM.look [(193,Zcc),(194,Zic),(195,Zgd),(187,kj)])) (ks:=⟨[],[],[],⟨tt [6,7],[]⟩,[],[187,193,195],[],[]⟩) (ts:=[.tmp 6, .tmp 7]) (λ _=>by kernel_rfl) (Bn ⟨⟨Yn8,call193,λ _=>Bj rfl⟩,⟨⟨Yr8,call194,nw⟩,⟨⟨Yh9,call195,λ _=>Bj rfl⟩,⟨⟨Zij,call187,λ _=>Bj rfl⟩,trivial⟩⟩⟩⟩)
abbrev cN:=AM.spec [.val .str] [((.pair Pm (.pair .str (.pair .str CQ))),[]),(.bool,[])] λ x=>OK x.1
theorem pc:Bh prog 79 cN:=Ck Bo (fn:=f79) (lk:=(AM.look [(139,zP),(140,kn),(141,Zwb),(142,Zzb),(143,Zhd)])) (ks:=⟨[],[],[],⟨tt [2,3],tt [2]⟩,[],[139,140,143],[],[]⟩) (ts:=[.cell 2 128, .tmp 3]) (λ _=>by kernel_rfl) (Bn ⟨⟨Yi7,call139,λ _=>Bj rfl⟩,⟨⟨Zoj,call140,λ _=>Bj rfl⟩,⟨⟨Yk8,call141,nw⟩,⟨⟨Yl8,call142,nw⟩,⟨⟨Yi9,call143,λ _=>Bj rfl⟩,trivial⟩⟩⟩⟩⟩)
abbrev Zlg:=AM.spec [.val .str] [(CQ,[]),(AX,[])] λ x=>I7 x.1
theorem Znn:Bh prog 39 Zlg:=Ck Bo (fn:=f39) (lk:=(AM.look [(79,cN)])) (ks:=(kz [2,3])) (ts:=[.tmp 2, .tmp 3]) (λ _=>by kernel_rfl) (Bn ⟨⟨pc,call79,nw⟩,trivial⟩)
abbrev lM:=AM.spec [.val .str] [(Pm,[]),(AX,[])] λ x=>LU x.1
theorem Zmn:Bh prog 43 lM:=Ck Bo (fn:=f43) (lk:=(AM.look [(79,cN)])) (ks:=⟨[],[],[],⟨tt [2,3],tt [2]⟩,[],[],[],[]⟩) (ts:=[.cell 2 83, .tmp 3]) (λ _=>by kernel_rfl) (Bn ⟨⟨pc,call79,nw⟩,trivial⟩)
abbrev Zmg:=AM.spec [.val .str] [(.str,[]),(.str,[]),(AX,[])] λ x=>Ul x.1
theorem Xkb:Bh prog 48 Zmg:=Ck Bo (fn:=f48) (lk:=(AM.look [(79,cN)])) (ks:=(kz [2,3,4])) (ts:=[.tmp 2, .tmp 3, .tmp 4]) (λ _=>by kernel_rfl) (Bn ⟨⟨pc,call79,nw⟩,trivial⟩)
abbrev Ztk:=AM.spec [.val .str] [(.str,[]),(AX,[])] λ x=>Uo x.1
theorem Xaf:Bh prog 97 Ztk:=Ck Bo (fn:=f97) (lk:=(AM.look [(34,mB)])) (ks:=⟨[],[],[],⟨tt [2,3],[]⟩,[],[34],[],[]⟩) (ts:=[.tmp 2, .tmp 3]) (λ _=>by kernel_rfl) (Bn ⟨⟨Zmo,call34,λ _=>Bj rfl⟩,trivial⟩)
abbrev Zuk:=AM.spec [.val .str] [(Pm,[]),(.str,[]),(.str,[]),(.bool,[])] λ x=>Sj x.1
theorem Xbf:Bh prog 54 Zuk:=Ck Bo (fn:=f54) (lk:=(AM.look [(97,Ztk)])) (ks:=⟨[],[],[],⟨tt [2,3,4,5],tt [2]⟩,[],[97],[],[]⟩) (ts:=[.cell 2 83, .tmp 3, .tmp 4, .tmp 5]) (λ _=>by kernel_rfl) (Bn ⟨⟨Xaf,call97,λ _=>Bj rfl⟩,trivial⟩)
abbrev cO:=BY.env (AM.look []) (kq [(0,⟨tt [0,1,2,7,8],[]⟩)] [] [6])
def nE:=bd f166
abbrev Zvk:=fin cO [.tmp 6] [] [(AX,[])]
def Yza:=Bb 3 nE
def Ykr (m0:Nat):=BK cO m0 Yza 0 Zvk
def Ylr (m0:Nat):=BA 0 (Ykr m0)
def Yab:=Bz 2 (By (BM (Bb 2 nE)))
def Zid (m0 n:Nat):HM.A0:=λ x1 x2 x3 x4 x5=>ej cO n (.loop Yab) 0 (mk [(0, .dat .str x1 []),(1, .dat AX x2 []),(2, .dat AX x3 []),(7, .dat AX x4 []),(8, .dat AX x5 [])] []) (Ylr m0)
theorem Ymr (m0:Nat):∀ n,Zid m0 n=HM.l0 n:=BR (S:=HM.S0) λ n=>by kernel_rfl
abbrev Zjd:=AM.spec [.val .str, .val AX, .val AX] [(AX,[])] λ x=>HM x.1 x.2.1 x.2.2.1
theorem Yj9:Bh prog 166 Zjd:=B9 Bo (fn:=f166) (λ m x=>show run cO nE m x Zvk=HM.S (Zid m m) x.1 x.2.1 x.2.2.1 from by kernel_rfl) (λ x=>by rw [Ymr fu fu];rfl) (Bn trivial)
abbrev XL:=BY.env (AM.look [(127,jW),(166,Zjd),(71,U1)]) ⟨[(0,⟨tt [0,1,2,8,9],[]⟩)],[],[(10,⟨tt [0,2,8],[]⟩)],⟨tt [6,7],[]⟩,[],[71,127,166],[],[]⟩
def nF:=bd f104
abbrev nG:=fin XL [.tmp 6, .tmp 7] [] [(Bi,[⟨0,1,0,1⟩]),(AX,[])]
def vw:=Bb 5 nF
def kS (m0 n:Nat):DI.A1:=λ x8 x9 Bl=>ej XL n (.tail vw) 0 (mk [(0, .dat .str x8 []),(2, .dat AX x9 []),(8, .dat Bi Bl [⟨0,513,0,1⟩])] []) nG
theorem Ynr (m0:Nat):∀ n,kS m0 n=DI.t1 n:=ind rfl λ n _=>by kernel_rfl
def Yor (m0:Nat):=BK XL m0 vw 0 nG
def Ypr (m0:Nat):=BA 0 (Yor m0)
def Ybb:=Bz 2 (By (BM (Bb 4 nF)))
def Zkd (m0 n:Nat):DI.A0:=λ x2 x3 x4 x5 x6=>ej XL n (.loop Ybb) 0 (mk [(0, .dat .str x2 []),(1, .dat AX x3 []),(2, .dat AX x4 []),(8, .dat Bi x5 [⟨0,513,0,1⟩]),(9, .dat AX x6 [])] []) (Ypr m0)
theorem Yqr (m0:Nat):∀ n,Zkd m0 n=DI.l0 (kS m0 m0) n:=BR (S:=DI.S0 (kS m0 m0)) λ n=>by kernel_rfl
abbrev US:=AM.spec [.val .str, .val AX, .val AX] [(Bi,[⟨0,1,0,1⟩]),(AX,[])] λ x=>DI x.1 x.2.1 x.2.2.1
theorem XM:Bh prog 104 US:=B9 Bo (fn:=f104) (λ m x=>show run XL nF m x nG=DI.S (Zkd m m) x.1 x.2.1 x.2.2.1 from by kernel_rfl) (λ x=>by rw [Yqr fu fu,Ynr fu fu];rfl) (Bn ⟨⟨Zzh,call127,λ _=>Bj rfl⟩,⟨⟨Yj9,call166,λ _=>Bj rfl⟩,⟨⟨Yp,call71,λ _=>Bj rfl⟩,trivial⟩⟩⟩)
abbrev Yt:=BY.env (AM.look [(104,US)]) ⟨[(0,⟨tt [6,7,8,9],[]⟩)],[],[(9,⟨tt [6,7,8],[]⟩)],⟨tt [4,5],tt [13]⟩,[],[],[],[]⟩
def pd:=bd f98
abbrev pe:=fin Yt [.tmp 4, .tmp 5] [] [(Bi,[]),(.bool,[])]
def xQ:=Bb 5 pd
def nH (m0 n:Nat):DS.A1:=λ x6 x7 x8=>ej Yt n (.tail xQ) 0 (mk [(6, .dat Bi x6 [⟨0,385,0,1⟩]),(7, .dat AX x7 []),(8, .dat .bool x8 [])] []) pe
theorem Yj1 (m0:Nat):∀ n,nH m0 n=DS.t1 n:=ind rfl λ n _=>by kernel_rfl
def Yk1 (m0:Nat):=BK Yt m0 xQ 0 pe
def Yl1 (m0:Nat):=BA 0 (Yk1 m0)
def Yrr:=Bz 2 (By (BM (Bb 4 pd)))
def Zwk (m0 n:Nat):DS.A0:=λ x2 x3 x4 x5=>ej Yt n (.loop Yrr) 0 (mk [(6, .dat Bi x2 [⟨0,385,0,1⟩]),(7, .dat AX x3 []),(8, .dat .bool x4 []),(9, .dat AX x5 [])] []) (Yl1 m0)
theorem Ym1 (m0:Nat):∀ n,Zwk m0 n=DS.l0 (nH m0 m0) n:=BR (S:=DS.S0 (nH m0 m0)) λ n=>by kernel_rfl
abbrev nI:=AM.spec [.val .str, .val AX] [(Bi,[]),(.bool,[])] λ x=>DS x.1 x.2.1
theorem Zpo:Bh prog 98 nI:=B9 Bo (fn:=f98) (λ m x=>show run Yt pd m x pe=DS.S (Zwk m m) x.1 x.2.1 from by kernel_rfl) (λ x=>by rw [Ym1 fu fu,Yj1 fu fu];rfl) (Bn ⟨⟨XM,call104,nw⟩,trivial⟩)
abbrev dS:=BY.env (AM.look [(98,nI)]) (kq [(0,⟨tt [6,8,9],[]⟩)] [] [4,5])
def pf:=bd f55
abbrev Zqo:=fin dS [.tmp 4, .tmp 5] [] [(AX,[]),(AX,[])]
def Ysr:=Bb 6 pf
def Yn1 (m0:Nat):=BK dS m0 Ysr 0 Zqo
def Yo1 (m0:Nat):=BA 0 (Yn1 m0)
def Ytr:=Bz 2 (By (BM (Bb 5 pf)))
def Zxk (m0 n:Nat):FN.A0:=λ x2 x3 x4=>ej dS n (.loop Ytr) 0 (mk [(6, .dat Bi x2 []),(8, .dat AX x3 []),(9, .dat AX x4 [])] []) (Yo1 m0)
theorem Yp1 (m0:Nat):∀ n,Zxk m0 n=FN.l0 n:=BR (S:=FN.S0) λ n=>by kernel_rfl
abbrev nJ:=AM.spec [.val .str, .val AX] [(AX,[]),(AX,[])] λ x=>FN x.1 x.2.1
theorem Zro:Bh prog 55 nJ:=B9 Bo (fn:=f55) (λ m x=>show run dS pf m x Zqo=FN.S (Zxk m m) x.1 x.2.1 from by kernel_rfl) (λ x=>by rw [Yp1 fu fu];rfl) (Bn ⟨⟨Zpo,call98,nw⟩,trivial⟩)
abbrev RN:=BY.env (AM.look []) (kq [(0,⟨tt [0,1,6,7],[]⟩),(2,⟨tt [0,1,6,7,8,9],[]⟩)] [] [4,5])
def pg:=bd f99
abbrev Zso:=fin RN [.tmp 4, .tmp 5] [] [(Bi,[⟨0,1,0,1⟩]),(AX,[])]
def Yur:=Bb 4 pg
def Yq1 (m0:Nat):=BK RN m0 Yur 0 Zso
def Zld (m0:Nat):=BA 0 (Yq1 m0)
def WS:=Bz 2 (By (BM (Bb 3 pg)))
def cP (m0 n:Nat):Dz.A0:=λ x1 x2 x3 x4=>ej RN n (.loop WS) 0 (mk [(0, .dat .str x1 []),(1, .dat AX x2 []),(6, .dat Bi x3 [⟨0,385,0,1⟩]),(7, .dat AX x4 [])] []) (Zld m0)
def Yr1 (m0 m1:Nat):=Mq RN m1 WS 0 (Zld m0)
def Yvr:=Bb 2 WS
def Ys1 (m0 m1:Nat):=BK RN m1 Yvr 0 (Yr1 m0 m1)
def Yt1 (m0 m1:Nat):=BA 1 (Ys1 m0 m1)
def Ywr:=Bb 2 (Bz 2 (By WS))
def Yu1 (m0 m1:Nat):=BK RN m1 Ywr 1 (Yt1 m0 m1)
def Yv1 (m0 m1:Nat):=BA 2 (Yu1 m0 m1)
def Yxr:=Bz 2 (By (BM (By (Bz 2 (By WS)))))
def Zyk (m0 m1 n:Nat):Dz.A1:=λ x5 x6 x7 x8 x9 Bl=>ej RN n (.loop Yxr) 2 (mk [(0, .dat .str x5 []),(1, .dat AX x6 []),(6, .dat Bi x7 [⟨0,385,0,1⟩]),(7, .dat AX x8 []),(8, .dat AX x9 []),(9, .dat AX Bl [])] []) (Yv1 m0 m1)
theorem Yw1 (m0 m1:Nat):∀ n,Zyk m0 m1 n=Dz.l1 (cP m0 m1) n:=BR (S:=Dz.S1 (cP m0 m1)) λ n=>by kernel_rfl
theorem Yx1 (m0:Nat):∀ n,cP m0 n=Dz.l0 n:=ind rfl λ n e0=>(show _=Dz.S0 (Zyk m0 n n) from by kernel_rfl).trans (by rw [Yw1 m0 n n,e0];rfl)
abbrev Zzk:=AM.spec [.val .str, .val AX] [(Bi,[⟨0,1,0,1⟩]),(AX,[])] λ x=>Dz x.1 x.2.1
theorem Xcf:Bh prog 99 Zzk:=B9 Bo (fn:=f99) (λ m x=>show run RN pg m x Zso=Dz.S (cP m m) x.1 x.2.1 from by kernel_rfl) (λ x=>by rw [Yx1 fu fu];rfl) (Bn trivial)
abbrev cQ:=BY.env (AM.look [(219,UO),(220,Xb)]) ⟨[(0,⟨tt [1,2,9,10,11],tt [9,10]⟩)],[],[],⟨tt [8],[]⟩,[],[219,220],[],[]⟩
def nK:=bd f204
abbrev Zal:=fin cQ [.tmp 8] [] [(AX,[])]
def Ycb:=Bb 3 nK
def Yyr (m0:Nat):=BK cQ m0 Ycb 0 Zal
def Yzr (m0:Nat):=BA 0 (Yyr m0)
def Ydb:=Bz 2 (By (BM (Bb 2 nK)))
def Zmd (m0 n:Nat):Hf.A0:=λ x3 x4 x5 x6 x7=>ej cQ n (.loop Ydb) 0 (mk [(1, .dat AX x3 []),(2, .dat AX x4 []),(9, .ptr 9 0 0),(10, .ptr 10 0 0),(11, .dat AX x5 [])] [(9,some (.arr .bool x6 false)),(10,some (.arr .bool x7 false))]) (Yzr m0)
theorem Yas (m0:Nat):∀ n,Zmd m0 n=Hf.l0 n:=BR (S:=Hf.S0) λ n=>by kernel_rfl
abbrev Znd:=AM.spec [.val AX, .val AX, .val AX, .val AX] [(AX,[])] λ x=>Hf x.1 x.2.1 x.2.2.1 x.2.2.2.1
theorem Yk9:Bh prog 204 Znd:=B9 Bo (fn:=f204) (λ m x=>show run cQ nK m x Zal=Hf.S (Zmd m m) x.1 x.2.1 x.2.2.1 x.2.2.2.1 from by kernel_rfl) (λ x=>by rw [Yas fu fu];rfl) (Bn ⟨⟨Xp,call219,λ _=>Bj rfl⟩,⟨⟨b5,call220,λ _=>Bj rfl⟩,trivial⟩⟩)
abbrev XN:=BY.env (AM.look [(219,UO),(220,Xb)]) ⟨[(0,⟨tt [3,4,5],tt [3,4]⟩)],[],[(7,⟨tt [3,4],tt [3,4]⟩)],⟨tt [2],[]⟩,[],[219,220],[],[]⟩
def nL:=bd f205
abbrev nM:=fin XN [.tmp 2] [] [(AX,[])]
def vx:=Bb 4 nL
def kT (m0 n:Nat):Eg.A1:=λ x5 x6=>ej XN n (.tail vx) 0 (mk [(3, .ptr 3 0 0),(4, .ptr 4 0 0)] [(3,some (.arr .bool x5 false)),(4,some (.arr .bool x6 false))]) nM
theorem Ybs (m0:Nat):∀ n,kT m0 n=Eg.t1 n:=ind rfl λ n _=>by kernel_rfl
def Ycs (m0:Nat):=BK XN m0 vx 0 nM
def Yds (m0:Nat):=BA 0 (Ycs m0)
def Yeb:=Bz 2 (By (BM (Bb 3 nL)))
def Zod (m0 n:Nat):Eg.A0:=λ x2 x3 x4=>ej XN n (.loop Yeb) 0 (mk [(3, .ptr 3 0 0),(4, .ptr 4 0 0),(5, .dat AX x2 [])] [(3,some (.arr .bool x3 false)),(4,some (.arr .bool x4 false))]) (Yds m0)
theorem Yes (m0:Nat):∀ n,Zod m0 n=Eg.l0 (kT m0 m0) n:=BR (S:=Eg.S0 (kT m0 m0)) λ n=>by kernel_rfl
abbrev Zpd:=AM.spec [.val AX] [(AX,[])] λ x=>Eg x.1
theorem Yl9:Bh prog 205 Zpd:=B9 Bo (fn:=f205) (λ m x=>show run XN nL m x nM=Eg.S (Zod m m) x.1 from by kernel_rfl) (λ x=>by rw [Yes fu fu,Ybs fu fu];rfl) (Bn ⟨⟨Xp,call219,λ _=>Bj rfl⟩,⟨⟨b5,call220,λ _=>Bj rfl⟩,trivial⟩⟩)
abbrev cR:=BY.env (AM.look [(204,Znd),(205,Zpd),(135,SI)]) ⟨[(0,⟨tt [0,5,6],[]⟩)],[],[],⟨tt [2,3,4],[]⟩,[],[135,204,205],[],[]⟩
def nN:=bd f162
abbrev Zbl:=fin cR [.tmp 2, .tmp 3, .tmp 4] [] [(AX,[]),(AX,[]),(AX,[])]
def Yfb:=Bb 3 nN
def Yfs (m0:Nat):=BK cR m0 Yfb 0 Zbl
def Ygs (m0:Nat):=BA 0 (Yfs m0)
def Ygb:=Bz 2 (By (BM (Bb 2 nN)))
def Zqd (m0 n:Nat):Eb.A0:=λ x1 x2 x3=>ej cR n (.loop Ygb) 0 (mk [(0, .dat .str x1 []),(5, .dat AX x2 []),(6, .dat AX x3 [])] []) (Ygs m0)
theorem Yhs (m0:Nat):∀ n,Zqd m0 n=Eb.l0 n:=BR (S:=Eb.S0) λ n=>by kernel_rfl
abbrev UT:=AM.spec [.val .str] [(AX,[]),(AX,[]),(AX,[])] λ x=>Eb x.1
theorem XO:Bh prog 162 UT:=B9 Bo (fn:=f162) (λ m x=>show run cR nN m x Zbl=Eb.S (Zqd m m) x.1 from by kernel_rfl) (λ x=>by rw [Yhs fu fu];rfl) (Bn ⟨⟨Yk9,call204,λ _=>Bj rfl⟩,⟨⟨Yl9,call205,λ _=>Bj rfl⟩,⟨⟨U2,call135,λ _=>Bj rfl⟩,trivial⟩⟩⟩)
abbrev XP:=BY.env (AM.look [(162,UT),(163,bg)]) ⟨[(0,⟨tt [0,1,6,7,8],[]⟩)],[],[(16,⟨tt [1,6,8],[]⟩)],⟨tt [4,5],[]⟩,[],[162,163],[],[]⟩
def nO:=bd f100
abbrev nP:=fin XP [.tmp 4, .tmp 5] [] [(GZ,[⟨0,1,0,3⟩]),(AX,[])]
def vy:=Bb 5 nO
def kU (m0 n:Nat):DW.A1:=λ x8 x9 Bl=>ej XP n (.tail vy) 0 (mk [(1, .dat AX x8 []),(6, .dat GZ x9 [⟨0,385,0,3⟩]),(8, .dat AX Bl [])] []) nP
theorem Yis (m0:Nat):∀ n,kU m0 n=DW.t1 n:=ind rfl λ n _=>by kernel_rfl
def Yjs (m0:Nat):=BK XP m0 vy 0 nP
def Yks (m0:Nat):=BA 0 (Yjs m0)
def Yhb:=Bz 3 (Bb 4 nO)
def Zrd (m0 n:Nat):DW.A0:=λ x1 x2 x3 x4 x5=>ej XP n (.loop Yhb) 0 (mk [(0, .dat .str x1 []),(1, .dat AX x2 []),(6, .dat GZ x3 [⟨0,385,0,3⟩]),(7, .dat AX x4 []),(8, .dat AX x5 [])] []) (Yks m0)
theorem Yls (m0:Nat):∀ n,Zrd m0 n=DW.l0 (kU m0 m0) n:=BR (S:=DW.S0 (kU m0 m0)) λ n=>by kernel_rfl
abbrev kV:=AM.spec [.val .str, .val AX] [(GZ,[⟨0,1,0,3⟩]),(AX,[])] λ x=>DW x.1 x.2.1
theorem Zcl:Bh prog 100 kV:=B9 Bo (fn:=f100) (λ m x=>show run XP nO m x nP=DW.S (Zrd m m) x.1 x.2.1 from by kernel_rfl) (λ x=>by rw [Yls fu fu,Yis fu fu];rfl) (Bn ⟨⟨XO,call162,λ _=>Bj rfl⟩,⟨⟨mf,call163,λ _=>Bj rfl⟩,trivial⟩⟩)
abbrev SZ:=BY.env (AM.look [(163,bg)]) ⟨[(0,⟨tt [0,4,5],[]⟩),(2,⟨tt [0,4,5,6],[]⟩)],[],[],⟨tt [2,3],[]⟩,[],[163],[],[]⟩
def nQ:=bd f101
abbrev Zdl:=fin SZ [.tmp 2, .tmp 3] [] [(Bi,[⟨0,1,0,1⟩]),(AX,[])]
def Yib:=Bb 4 nQ
def Yms (m0:Nat):=BK SZ m0 Yib 0 Zdl
def xR (m0:Nat):=BA 0 (Yms m0)
def au:=Bz 2 (By (BM (Bb 3 nQ)))
def bF (m0 n:Nat):Dv.A0:=λ x2 x3 x4=>ej SZ n (.loop au) 0 (mk [(0, .dat GZ x2 []),(4, .dat Bi x3 [⟨0,257,0,1⟩]),(5, .dat AX x4 [])] []) (xR m0)
def Yns (m0 m1:Nat):=Mq SZ m1 au 0 (xR m0)
def Yjb:=Bb 2 au
def Yos (m0 m1:Nat):=BK SZ m1 Yjb 0 (Yns m0 m1)
def Yps (m0 m1:Nat):=BA 1 (Yos m0 m1)
def Yqs (m0 m1:Nat):=BA 2 (Yps m0 m1)
def Ykb:=Bz 2 (By (Bz 2 (By au)))
def Zsd (m0 m1 n:Nat):Dv.A1:=λ x5 x6 x7 x8=>ej SZ n (.loop Ykb) 2 (mk [(0, .dat GZ x5 []),(4, .dat Bi x6 [⟨0,257,0,1⟩]),(5, .dat AX x7 []),(6, .dat AX x8 [])] []) (Yqs m0 m1)
theorem Yrs (m0 m1:Nat):∀ n,Zsd m0 m1 n=Dv.l1 (bF m0 m1) n:=BR (S:=Dv.S1 (bF m0 m1)) λ n=>by kernel_rfl
theorem Yss (m0:Nat):∀ n,bF m0 n=Dv.l0 n:=ind rfl λ n e0=>(show _=Dv.S0 (Zsd m0 n n) from by kernel_rfl).trans (by rw [Yrs m0 n n,e0];rfl)
abbrev kW:=AM.spec [.val GZ] [(Bi,[⟨0,1,0,1⟩]),(AX,[])] λ x=>Dv x.1
theorem Zel:Bh prog 101 kW:=B9 Bo (fn:=f101) (λ m x=>show run SZ nQ m x Zdl=Dv.S (bF m m) x.1 from by kernel_rfl) (λ x=>by rw [Yss fu fu];rfl) (Bn ⟨⟨mf,call163,λ _=>Bj rfl⟩,trivial⟩)
abbrev XQ:=BY.env (AM.look [(162,UT),(104,US),(131,j7)]) ⟨[(0,⟨tt [0,6,9,10,13,15],[]⟩)],[],[(24,⟨tt [0,9],[]⟩)],⟨tt [4,5],[]⟩,[],[131,162],[],[]⟩
def nR:=bd f102
abbrev nS:=fin XQ [.tmp 4, .tmp 5] [] [(Bi,[⟨0,1,0,1⟩]),(AX,[])]
def vz:=Bb 7 nR
def bG (m0 n:Nat):DJ.A1:=λ Bl BJ=>ej XQ n (.tail vz) 0 (mk [(0, .dat .str Bl []),(9, .dat Bi BJ [⟨0,577,0,1⟩])] []) nS
theorem Yts (m0:Nat):∀ n,bG m0 n=DJ.t1 n:=ind rfl λ n _=>by kernel_rfl
def Yus (m0:Nat):=BK XQ m0 vz 0 nS
def Yvs (m0:Nat):=BA 0 (Yus m0)
def Ylb:=Bz 2 (Bb 6 (BM (By (BM (Bb 6 nR)))))
def Ztd (m0 n:Nat):DJ.A0:=λ x4 x5 x6 x7 x8 x9=>ej XQ n (.loop Ylb) 0 (mk [(0, .dat .str x4 []),(6, .dat AX x5 []),(9, .dat Bi x6 [⟨0,577,0,1⟩]),(10, .dat AX x7 []),(13, .dat Bi x8 [⟨0,833,0,1⟩]),(15, .dat AX x9 [])] []) (Yvs m0)
theorem Yws (m0:Nat):∀ n,Ztd m0 n=DJ.l0 (bG m0 m0) n:=BR (S:=DJ.S0 (bG m0 m0)) λ n=>by kernel_rfl
abbrev Zud:=AM.spec [.val .str, .val AX] [(Bi,[⟨0,1,0,1⟩]),(AX,[])] λ x=>DJ x.1 x.2.1
theorem Ym9:Bh prog 102 Zud:=B9 Bo (fn:=f102) (λ m x=>show run XQ nR m x nS=DJ.S (Ztd m m) (bG m m) x.1 x.2.1 from by kernel_rfl) (λ x=>by rw [Yws fu fu,Yts fu fu];rfl) (Bn ⟨⟨XO,call162,λ _=>Bj rfl⟩,⟨⟨XM,call104,nw⟩,⟨⟨Zsi,call131,λ _=>Bj rfl⟩,trivial⟩⟩⟩)
abbrev kX:=AM.spec [.val .str, .val AX] [(AX,[]),(AX,[]),(.bool,[])] λ x=>Ss x.1 x.2.1
theorem Zfl:Bh prog 164 kX:=Ck Bo (fn:=f164) (lk:=(AM.look [(162,UT)])) (ks:=⟨[],[],[],⟨tt [4,5,6],[]⟩,[],[162],[],[]⟩) (ts:=[.tmp 4, .tmp 5, .tmp 6]) (λ _=>by kernel_rfl) (Bn ⟨⟨XO,call162,λ _=>Bj rfl⟩,trivial⟩)
abbrev kY:=AM.spec [.val AX] [(AX,[])] λ x=>Wk x.1
theorem Zgl:Bh prog 165 kY:=Ck Bo (fn:=f165) (lk:=(AM.look [(126,UP)])) (ks:=⟨[],[],[],⟨tt [2],[]⟩,[],[126],[],[]⟩) (ts:=[.tmp 2]) (λ _=>by kernel_rfl) (Bn ⟨⟨Xq,call126,λ _=>Bj rfl⟩,trivial⟩)
abbrev Qj:=BY.env (AM.look [(164,kX),(162,UT),(165,kY),(104,US),(132,kc)]) ⟨[(0,⟨tt [0,1,6,7,9,10],[]⟩),(2,⟨tt [0,9,14,16,17],[]⟩)],[],[(5,⟨tt [0,1],[]⟩),(17,⟨tt [0,1,6,7,9],[]⟩),(27,⟨tt [0,16],[]⟩)],⟨tt [4,5],[]⟩,[],[132,162,164,165],[],[]⟩
def U8:=bd f103
abbrev U9:=fin Qj [.tmp 4, .tmp 5] [] [(Bi,[⟨0,1,0,1⟩]),(AX,[])]
def vA:=Bb 11 U8
def kZ (m0 n:Nat):BP.A4:=λ Fo FX=>ej Qj n (.tail vA) 0 (mk [(0, .dat .str Fo []),(16, .dat Bi FX [⟨0,1025,0,1⟩])] []) U9
theorem Yxs (m0 m1 m2:Nat):∀ n,kZ m0 n=BP.t4 n:=ind rfl λ n _=>by kernel_rfl
def Yys (m0 m1 m2:Nat):=BK Qj m2 vA 0 U9
def Yzs (m0 m1 m2:Nat):=BA 2 (Yys m0 m1 m2)
def Ymb:=Bz 2 (By (BM (Bb 10 U8)))
def Zvd (m0 m1 m2 n:Nat):BP.A3:=λ DP CX C4 DO Dy=>ej Qj n (.loop Ymb) 2 (mk [(0, .dat .str DP []),(9, .dat Bi CX [⟨0,577,0,1⟩]),(14, .dat Bi C4 [⟨0,897,0,1⟩]),(16, .dat Bi DO [⟨0,1025,0,1⟩]),(17, .dat AX Dy [])] []) (Yzs m0 m1 m2)
theorem Yat (m0 m1 m2:Nat):∀ n,Zvd m0 m1 m2 n=BP.l3 (kZ m0 m2) n:=BR (S:=BP.S3 (kZ m0 m2)) λ n=>by kernel_rfl
def vC:=Bb 7 U8
def la (m0 n:Nat):BP.A2:=λ BJ B0 BS B3 Cy=>ej Qj n (.tail vC) 0 (mk [(0, .dat .str BJ []),(1, .dat AX B0 []),(6, .dat AX BS []),(7, .dat AX B3 []),(9, .dat Bi Cy [⟨0,577,0,1⟩])] []) U9
theorem Ybt (m0 m1:Nat):∀ n,la m0 n=BP.t2 n:=ind rfl λ n _=>(show _=BP.S2 (Zvd m0 m1 n n) from by kernel_rfl).trans (by rw [Yat m0 m1 n n,Yxs m0 m1 n n];rfl)
def Yct (m0 m1:Nat):=BK Qj m1 vC 0 U9
def Ydt (m0 m1:Nat):=BA 0 (Yct m0 m1)
def Ynb:=Bz 2 (By (BM (Bb 6 U8)))
def Zwd (m0 m1 n:Nat):BP.A1:=λ x4 x5 x6 x7 x8 x9=>ej Qj n (.loop Ynb) 0 (mk [(0, .dat .str x4 []),(1, .dat AX x5 []),(6, .dat AX x6 []),(7, .dat AX x7 []),(9, .dat Bi x8 [⟨0,577,0,1⟩]),(10, .dat AX x9 [])] []) (Ydt m0 m1)
theorem Yet (m0 m1:Nat):∀ n,Zwd m0 m1 n=BP.l1 (la m0 m1) n:=BR (S:=BP.S1 (la m0 m1)) λ n=>by kernel_rfl
def Yob:=Bb 3 U8
def Zxd (m0 n:Nat):BP.A0:=λ x1 x2=>ej Qj n (.tail Yob) 0 (mk [(0, .dat .str x1 []),(1, .dat AX x2 [])] []) U9
theorem Yft (m0:Nat):∀ n,Zxd m0 n=BP.t0 n:=ind rfl λ n _=>(show _=BP.S0 (Zwd m0 n n) from by kernel_rfl).trans (by rw [Yet m0 n n,Ybt m0 n n];rfl)
abbrev Zyd:=AM.spec [.val .str, .val AX] [(Bi,[⟨0,1,0,1⟩]),(AX,[])] λ x=>BP x.1 x.2.1
theorem Yn9:Bh prog 103 Zyd:=B9 Bo (fn:=f103) (λ m x=>show run Qj U8 m x U9=BP.S (Zxd m m) x.1 x.2.1 from by kernel_rfl) (λ x=>by rw [Yft fu fu];rfl) (Bn ⟨⟨Zfl,call164,λ _=>Bj rfl⟩,⟨⟨XO,call162,λ _=>Bj rfl⟩,⟨⟨Zgl,call165,λ _=>Bj rfl⟩,⟨⟨XM,call104,nw⟩,⟨⟨Zui,call132,λ _=>Bj rfl⟩,trivial⟩⟩⟩⟩⟩)
abbrev Zhl:=AM.spec [.val .str, .val AX, .val AX] [(Bi,[⟨0,1,0,1⟩]),(.bool,[])] λ x=>QY x.1 x.2.1 x.2.2.1
theorem Xdf:Bh prog 56 Zhl:=Ck Bo (fn:=f56) (lk:=(AM.look [(99,Zzk),(100,kV),(101,kW),(102,Zud),(103,Zyd),(104,US)])) (ks:=(kz [6,7])) (ts:=[.tmp 6, .tmp 7]) (λ _=>by kernel_rfl) (Bn ⟨⟨Xcf,call99,nw⟩,⟨⟨Zcl,call100,nw⟩,⟨⟨Zel,call101,nw⟩,⟨⟨Ym9,call102,nw⟩,⟨⟨Yn9,call103,nw⟩,⟨⟨XM,call104,nw⟩,trivial⟩⟩⟩⟩⟩⟩)
abbrev Tn:=BY.env (AM.look [(55,nJ),(98,nI)]) ⟨[(0,⟨tt [0,1,2,10],[]⟩),(2,⟨tt [2,11,13,14,15],[]⟩)],[],[(11,⟨tt [0,1,2],[]⟩)],⟨tt [6,7],[]⟩,[],[55],[],[]⟩
def Yu:=bd f58
abbrev dT:=fin Tn [.tmp 6, .tmp 7] [] [(CQ,[⟨0,1,0,3⟩]),(AX,[])]
def Ygt:=Bb 9 Yu
def Yy1 (m0 m1:Nat):=BK Tn m1 Ygt 0 dT
def Yz1 (m0 m1:Nat):=BA 2 (Yy1 m0 m1)
def Yht:=Bz 2 (By (BM (Bb 8 Yu)))
def Zil (m0 m1 n:Nat):Cl.A2:=λ Bl BJ B0 BS B3=>ej Tn n (.loop Yht) 2 (mk [(2, .dat CQ Bl []),(11, .dat Bi BJ []),(13, .dat CQ B0 [⟨0,833,0,3⟩]),(14, .dat AX BS []),(15, .dat AX B3 [])] []) (Yz1 m0 m1)
theorem Ya2 (m0 m1:Nat):∀ n,Zil m0 m1 n=Cl.l2 n:=BR (S:=Cl.S2) λ n=>by kernel_rfl
def xS:=Bb 5 Yu
def nT (m0 n:Nat):Cl.A1:=λ x6 x7 x8=>ej Tn n (.tail xS) 0 (mk [(0, .dat .str x6 []),(1, .dat AX x7 []),(2, .dat CQ x8 [])] []) dT
theorem Yb2 (m0:Nat):∀ n,nT m0 n=Cl.t1 n:=ind rfl λ n _=>(show _=Cl.S1 (Zil m0 n n) from by kernel_rfl).trans (by rw [Ya2 m0 n n];rfl)
def Yc2 (m0:Nat):=BK Tn m0 xS 0 dT
def Yd2 (m0:Nat):=BA 0 (Yc2 m0)
def Yit:=Bz 2 (By (BM (Bb 4 Yu)))
def Zjl (m0 n:Nat):Cl.A0:=λ x2 x3 x4 x5=>ej Tn n (.loop Yit) 0 (mk [(0, .dat .str x2 []),(1, .dat AX x3 []),(2, .dat CQ x4 []),(10, .dat AX x5 [])] []) (Yd2 m0)
theorem Ye2 (m0:Nat):∀ n,Zjl m0 n=Cl.l0 (nT m0 m0) n:=BR (S:=Cl.S0 (nT m0 m0)) λ n=>by kernel_rfl
abbrev Zkl:=AM.spec [.val .str, .val AX, .val CQ] [(CQ,[⟨0,1,0,3⟩]),(AX,[])] λ x=>Cl x.1 x.2.1 x.2.2.1
theorem Xef:Bh prog 58 Zkl:=B9 Bo (fn:=f58) (λ m x=>show run Tn Yu m x dT=Cl.S (Zjl m m) x.1 x.2.1 x.2.2.1 from by kernel_rfl) (λ x=>by rw [Ye2 fu fu,Yb2 fu fu];rfl) (Bn ⟨⟨Zro,call55,λ _=>Bj rfl⟩,⟨⟨Zpo,call98,nw⟩,trivial⟩⟩)
abbrev XR:=BY.env (AM.look []) (kq [(0,⟨tt [0,1,6,7,8],[]⟩)] [(13,⟨tt [0,6,7],[]⟩)] [4,5])
def nU:=bd f105
abbrev nV:=fin XR [.tmp 4, .tmp 5] [] [(Cq,[⟨0,1,0,1⟩]),(AX,[])]
def vD:=Bb 5 nU
def ld (m0 n:Nat):DH.A1:=λ x6 x7 x8=>ej XR n (.tail vD) 0 (mk [(0, .dat .str x6 []),(6, .dat Cq x7 [⟨0,385,0,1⟩]),(7, .dat AX x8 [])] []) nV
theorem Yjt (m0:Nat):∀ n,ld m0 n=DH.t1 n:=ind rfl λ n _=>by kernel_rfl
def Ykt (m0:Nat):=BK XR m0 vD 0 nV
def Ylt (m0:Nat):=BA 0 (Ykt m0)
def Ypb:=Bz 2 (By (BM (Bb 4 nU)))
def Zzd (m0 n:Nat):DH.A0:=λ x1 x2 x3 x4 x5=>ej XR n (.loop Ypb) 0 (mk [(0, .dat .str x1 []),(1, .dat AX x2 []),(6, .dat Cq x3 [⟨0,385,0,1⟩]),(7, .dat AX x4 []),(8, .dat AX x5 [])] []) (Ylt m0)
theorem Ymt (m0:Nat):∀ n,Zzd m0 n=DH.l0 (ld m0 m0) n:=BR (S:=DH.S0 (ld m0 m0)) λ n=>by kernel_rfl
abbrev Zae:=AM.spec [.val .str, .val AX] [(Cq,[⟨0,1,0,1⟩]),(AX,[])] λ x=>DH x.1 x.2.1
theorem Yo9:Bh prog 105 Zae:=B9 Bo (fn:=f105) (λ m x=>show run XR nU m x nV=DH.S (Zzd m m) x.1 x.2.1 from by kernel_rfl) (λ x=>by rw [Ymt fu fu,Yjt fu fu];rfl) (Bn trivial)
abbrev cS:=BY.env (AM.look []) (kq [(0,⟨tt [0,1,7,8,9],[]⟩)] [] [4,5,6])
def nX:=bd f167
abbrev Zll:=fin cS [.tmp 4, .tmp 5, .tmp 6] [] [(Cq,[⟨0,1,0,1⟩]),(AX,[]),(.bool,[])]
def Yqb:=Bb 4 nX
def Ynt (m0:Nat):=BK cS m0 Yqb 0 Zll
def Yot (m0:Nat):=BA 0 (Ynt m0)
def Yrb:=Bz 2 (By (BM (Bb 3 nX)))
def Zbe (m0 n:Nat):Em.A0:=λ x1 x2 x3 x4 x5=>ej cS n (.loop Yrb) 0 (mk [(0, .dat .str x1 []),(1, .dat AX x2 []),(7, .dat Cq x3 [⟨0,449,0,1⟩]),(8, .dat AX x4 []),(9, .dat AX x5 [])] []) (Yot m0)
theorem Ypt (m0:Nat):∀ n,Zbe m0 n=Em.l0 n:=BR (S:=Em.S0) λ n=>by kernel_rfl
abbrev Zce:=AM.spec [.val .str, .val AX] [(Cq,[⟨0,1,0,1⟩]),(AX,[]),(.bool,[])] λ x=>Em x.1 x.2.1
theorem Yp9:Bh prog 167 Zce:=B9 Bo (fn:=f167) (λ m x=>show run cS nX m x Zll=Em.S (Zbe m m) x.1 x.2.1 from by kernel_rfl) (λ x=>by rw [Ypt fu fu];rfl) (Bn trivial)
abbrev cT:=BY.env (AM.look [(162,UT),(167,Zce),(100,kV),(101,kW)]) ⟨[(0,⟨tt [9,14,16,17],[]⟩)],[],[],⟨tt [4,5],[]⟩,[],[162],[],[]⟩
def nY:=bd f106
abbrev Zml:=fin cT [.tmp 4, .tmp 5] [] [(Cq,[⟨0,1,0,1⟩]),(.bool,[])]
def Ysb:=Bb 11 nY
def Yqt (m0:Nat):=BK cT m0 Ysb 0 Zml
def Yrt (m0:Nat):=BA 0 (Yqt m0)
def Ytb:=Bz 2 (By (BM (Bb 10 nY)))
def Zde (m0 n:Nat):EJ.A0:=λ x5 x6 x7 x8=>ej cT n (.loop Ytb) 0 (mk [(9, .dat Cq x5 [⟨0,577,0,1⟩]),(14, .dat Bi x6 [⟨0,897,0,1⟩]),(16, .dat Cq x7 [⟨0,1025,0,1⟩]),(17, .dat AX x8 [])] []) (Yrt m0)
theorem Yst (m0:Nat):∀ n,Zde m0 n=EJ.l0 n:=BR (S:=EJ.S0) λ n=>by kernel_rfl
abbrev Zee:=AM.spec [.val .str, .val AX] [(Cq,[⟨0,1,0,1⟩]),(.bool,[])] λ x=>EJ x.1 x.2.1
theorem Yq9:Bh prog 106 Zee:=B9 Bo (fn:=f106) (λ m x=>show run cT nY m x Zml=EJ.S (Zde m m) x.1 x.2.1 from by kernel_rfl) (λ x=>by rw [Yst fu fu];rfl) (Bn ⟨⟨XO,call162,λ _=>Bj rfl⟩,⟨⟨Yp9,call167,nw⟩,⟨⟨Zcl,call100,nw⟩,⟨⟨Zel,call101,nw⟩,trivial⟩⟩⟩⟩)
abbrev cU:=BY.env (AM.look []) (kq [(0,⟨tt [0,1,7,8,9],[]⟩)] [] [4,5,6])
def nZ:=bd f168
abbrev Znl:=fin cU [.tmp 4, .tmp 5, .tmp 6] [] [(Cq,[⟨0,1,0,1⟩]),(AX,[]),(.bool,[])]
def Yub:=Bb 4 nZ
def Ytt (m0:Nat):=BK cU m0 Yub 0 Znl
def Yut (m0:Nat):=BA 0 (Ytt m0)
def Yvb:=Bz 2 (By (BM (Bb 3 nZ)))
def Zfe (m0 n:Nat):Ix.A0:=λ x1 x2 x3 x4 x5=>ej cU n (.loop Yvb) 0 (mk [(0, .dat .str x1 []),(1, .dat AX x2 []),(7, .dat Cq x3 [⟨0,449,0,1⟩]),(8, .dat AX x4 []),(9, .dat AX x5 [])] []) (Yut m0)
theorem Yvt (m0:Nat):∀ n,Zfe m0 n=Ix.l0 n:=BR (S:=Ix.S0) λ n=>by kernel_rfl
abbrev Zge:=AM.spec [.val .str, .val AX] [(Cq,[⟨0,1,0,1⟩]),(AX,[]),(.bool,[])] λ x=>Ix x.1 x.2.1
theorem Yr9:Bh prog 168 Zge:=B9 Bo (fn:=f168) (λ m x=>show run cU nZ m x Znl=Ix.S (Zfe m m) x.1 x.2.1 from by kernel_rfl) (λ x=>by rw [Yvt fu fu];rfl) (Bn trivial)
abbrev Va:=BY.env (AM.look [(164,kX),(168,Zge),(165,kY),(104,US),(136,ki)]) ⟨[(0,⟨tt [0,9,12,14,15],[]⟩)],[],[(5,⟨tt [0,1],[]⟩),(21,⟨tt [0,14],[]⟩)],⟨tt [4,5],[]⟩,[],[136,164,165],[],[]⟩
def cV:=bd f107
abbrev cW:=fin Va [.tmp 4, .tmp 5] [] [(Cq,[⟨0,1,0,1⟩]),(AX,[])]
def vE:=Bb 11 cV
def lf (m0 n:Nat):Cx.A2:=λ B0 BS=>ej Va n (.tail vE) 0 (mk [(0, .dat .str B0 []),(14, .dat Cq BS [⟨0,897,0,1⟩])] []) cW
theorem Ywt (m0 m1:Nat):∀ n,lf m0 n=Cx.t2 n:=ind rfl λ n _=>by kernel_rfl
def Yxt (m0 m1:Nat):=BK Va m1 vE 0 cW
def Yyt (m0 m1:Nat):=BA 0 (Yxt m0 m1)
def Ywb:=Bz 2 (By (BM (Bb 10 cV)))
def Zhe (m0 m1 n:Nat):Cx.A1:=λ x7 x8 x9 Bl BJ=>ej Va n (.loop Ywb) 0 (mk [(0, .dat .str x7 []),(9, .dat Cq x8 [⟨0,577,0,1⟩]),(12, .dat Bi x9 [⟨0,769,0,1⟩]),(14, .dat Cq Bl [⟨0,897,0,1⟩]),(15, .dat AX BJ [])] []) (Yyt m0 m1)
theorem Yzt (m0 m1:Nat):∀ n,Zhe m0 m1 n=Cx.l1 (lf m0 m1) n:=BR (S:=Cx.S1 (lf m0 m1)) λ n=>by kernel_rfl
def Yxb:=Bb 3 cV
def Zie (m0 n:Nat):Cx.A0:=λ x1 x2=>ej Va n (.tail Yxb) 0 (mk [(0, .dat .str x1 []),(1, .dat AX x2 [])] []) cW
theorem Yau (m0:Nat):∀ n,Zie m0 n=Cx.t0 n:=ind rfl λ n _=>(show _=Cx.S0 (Zhe m0 n n) from by kernel_rfl).trans (by rw [Yzt m0 n n,Ywt m0 n n];rfl)
abbrev Zje:=AM.spec [.val .str, .val AX] [(Cq,[⟨0,1,0,1⟩]),(AX,[])] λ x=>Cx x.1 x.2.1
theorem Ys9:Bh prog 107 Zje:=B9 Bo (fn:=f107) (λ m x=>show run Va cV m x cW=Cx.S (Zie m m) x.1 x.2.1 from by kernel_rfl) (λ x=>by rw [Yau fu fu];rfl) (Bn ⟨⟨Zfl,call164,λ _=>Bj rfl⟩,⟨⟨Yr9,call168,nw⟩,⟨⟨Zgl,call165,λ _=>Bj rfl⟩,⟨⟨XM,call104,nw⟩,⟨⟨Zbj,call136,λ _=>Bj rfl⟩,trivial⟩⟩⟩⟩⟩)
abbrev Zol:=AM.spec [.val .str, .val AX, .val AX] [(Cq,[⟨0,1,0,1⟩]),(.bool,[])] λ x=>Ud x.1 x.2.1 x.2.2.1
theorem Xff:Bh prog 57 Zol:=Ck Bo (fn:=f57) (lk:=(AM.look [(105,Zae),(106,Zee),(107,Zje)])) (ks:=(kz [6,7])) (ts:=[.tmp 6, .tmp 7]) (λ _=>by kernel_rfl) (Bn ⟨⟨Yo9,call105,nw⟩,⟨⟨Yq9,call106,nw⟩,⟨⟨Ys9,call107,nw⟩,trivial⟩⟩⟩)
abbrev Vp:=BY.env (AM.look [(54,Zuk),(55,nJ),(56,Zhl),(58,Zkl),(10,lR),(57,Zol)]) ⟨[(0,⟨tt [0,4,5,7,10,11,13],tt [4]⟩),(2,⟨tt [0,4,5,7,10,14,16],tt [4]⟩)],[],[(21,⟨tt [0,4,5,7,10],tt [4]⟩)],⟨tt [2,3],[]⟩,[],[10,54,55],[],[]⟩
def dU:=bd f19
abbrev ph:=fin Vp [.tmp 2, .tmp 3] [] [(CQ,[⟨0,1,0,3⟩]),(AX,[])]
def xT:=Bb 7 dU
def XS (m0 n:Nat):Cu.A1:=λ BJ B0 BS B3 Cy=>ej Vp n (.tail xT) 0 (mk [(0, .dat .str BJ []),(4, .ptr 4 0 0),(5, .dat .str B0 []),(7, .dat .bool BS []),(10, .dat CQ B3 [⟨0,641,0,3⟩])] [(4,some (.var Pm Cy []))]) ph
theorem Yf2 (m0:Nat):∀ n,XS m0 n=Cu.t1 n:=ind rfl λ n _=>by kernel_rfl
def Zke (m0:Nat):=BK Vp m0 xT 0 ph
def Yg2 (m0:Nat):=BA 0 (Zke m0)
def Ybu:=Bz 2 (Bb 3 (BM (By (BM (Bb 6 dU)))))
def Zpl (m0 n:Nat):Cu.A0:=λ x4 x5 x6 x7 x8 x9 Bl=>ej Vp n (.loop Ybu) 0 (mk [(0, .dat .str x4 []),(4, .ptr 4 0 0),(5, .dat .str x5 []),(7, .dat .bool x6 []),(10, .dat CQ x7 [⟨0,641,0,3⟩]),(11, .dat Bi x8 [⟨0,705,0,1⟩]),(13, .dat AX x9 [])] [(4,some (.var Pm Bl []))]) (Yg2 m0)
theorem Yh2 (m0:Nat):∀ n,Zpl m0 n=Cu.l0 (XS m0 m0) n:=BR (S:=Cu.S0 (XS m0 m0)) λ n=>by kernel_rfl
def Yi2 (m0:Nat):=BA 2 (Zke m0)
def Ycu:=Bz 2 (Bb 5 (BM (Bb 6 dU)))
def Zql (m0 n:Nat):Cu.A2:=λ CX C4 DO Dy Fo FX Ht=>ej Vp n (.loop Ycu) 2 (mk [(0, .dat .str CX []),(4, .ptr 4 0 0),(5, .dat .str C4 []),(7, .dat .bool DO []),(10, .dat CQ Dy [⟨0,641,0,3⟩]),(14, .dat Cq Fo [⟨0,897,0,1⟩]),(16, .dat AX FX [])] [(4,some (.var Pm Ht []))]) (Yi2 m0)
theorem Yj2 (m0:Nat):∀ n,Zql m0 n=Cu.l2 (XS m0 m0) n:=BR (S:=Cu.S2 (XS m0 m0)) λ n=>by kernel_rfl
abbrev Zxg:=AM.spec [.val .str] [(CQ,[⟨0,1,0,3⟩]),(AX,[])] λ x=>Cu x.1
theorem Xqb:Bh prog 19 Zxg:=B9 Bo (fn:=f19) (λ m x=>show run Vp dU m x ph=Cu.S (Zpl m m) (Zql m m) x.1 from by kernel_rfl) (λ x=>by rw [Yj2 fu fu,Yh2 fu fu,Yf2 fu fu];rfl) (Bn ⟨⟨Xbf,call54,λ _=>Bj rfl⟩,⟨⟨Zro,call55,λ _=>Bj rfl⟩,⟨⟨Xdf,call56,nw⟩,⟨⟨Xef,call58,nw⟩,⟨⟨Zrn,call10,λ _=>Bj rfl⟩,⟨⟨Xff,call57,nw⟩,trivial⟩⟩⟩⟩⟩⟩)
abbrev dV:=BY.env (AM.look []) (kq [(0,⟨tt [0,1,5],[]⟩)] [] [4])
def pj:=bd f16
abbrev Zto:=fin dV [.tmp 4] [] [(.bool,[])]
def Ydu:=Bb 3 pj
def Yk2 (m0:Nat):=BK dV m0 Ydu 0 Zto
def Yl2 (m0:Nat):=BA 0 (Yk2 m0)
def Yeu:=Bz 2 (By (BM (Bb 2 pj)))
def Zrl (m0 n:Nat):JV.A0:=λ x1 x2 x3=>ej dV n (.loop Yeu) 0 (mk [(0, .dat CQ x1 []),(1, .dat CQ x2 []),(5, .dat AX x3 [])] []) (Yl2 m0)
theorem Ym2 (m0:Nat):∀ n,Zrl m0 n=JV.l0 n:=BR (S:=JV.S0) λ n=>by kernel_rfl
abbrev Zug:=AM.spec [.val CQ, .val CQ] [(.bool,[])] λ x=>JV x.1 x.2.1
theorem Xnb:Bh prog 16 Zug:=B9 Bo (fn:=f16) (λ m x=>show run dV pj m x Zto=JV.S (Zrl m m) x.1 x.2.1 from by kernel_rfl) (λ x=>by rw [Ym2 fu fu];rfl) (Bn trivial)
abbrev Zle:=AM.spec [.val AX] [(.bool,[])] λ x=>some (Q6 x.1)
theorem Yt9:Bh prog 113 Zle:=Ck Bo (fn:=f113) (lk:=(AM.look [])) (ks:=(kz [2])) (ts:=[.tmp 2]) (λ x=>(show _=Q6.o x.1 from by kernel_rfl).trans (by unfold Q6.o Q6;simp only [Nc])) (Bn trivial)
abbrev cX:=BY.env (AM.look [(113,Zle)]) ⟨[(0,⟨tt [0,1,7,8],[]⟩)],[],[],⟨tt [4],[]⟩,[],[113],[],[]⟩
def n7:=bd f169
abbrev Zsl:=fin cX [.tmp 4] [] [(AX,[])]
def Yyb:=Bb 2 n7
def Yfu (m0:Nat):=BK cX m0 Yyb 0 Zsl
def Ygu (m0:Nat):=BA 0 (Yfu m0)
def Yzb:=Bz 2 (By (BM (By n7)))
def Zme (m0 n:Nat):Io.A0:=λ x1 x2 x3=>ej cX n (.loop Yzb) 0 (mk [(0, .dat Bi x1 []),(1, .fn 113 []),(7, .dat AX x2 []),(8, .dat AX x3 [])] []) (Ygu m0)
theorem Yhu (m0:Nat):∀ n,Zme m0 n=Io.l0 n:=BR (S:=Io.S0) λ n=>by kernel_rfl
abbrev Zne:=AM.spec [.val Bi, .fn 113 []] [(AX,[])] λ x=>Io x.1
theorem Yu9:Bh prog 169 Zne:=B9 Bo (fn:=f169) (λ m x=>show run cX n7 m x Zsl=Io.S (Zme m m) x.1 from by kernel_rfl) (λ x=>by rw [Yhu fu fu];rfl) (Bn ⟨⟨Yt9,call113,λ _=>Bj rfl⟩,trivial⟩)
abbrev Zfr:=AM.spec [.val Bi, .fn 113 []] [(.bool,[])] λ x=>QX x.1
theorem Zgr:Bh prog 112 Zfr:=Ck Bo (fn:=f112) (lk:=(AM.look [(169,Zne)])) (ks:=⟨[],[],[],⟨tt [4],[]⟩,[],[169],[],[]⟩) (ts:=[.tmp 4]) (λ _=>by kernel_rfl) (Bn ⟨⟨Yu9,call169,λ _=>Bj rfl⟩,trivial⟩)
abbrev Zev:=AM.spec [.val AX, .val AX] [(AX,[])] λ x=>OO x.1 x.2.1
theorem Zix:Bh prog 85 Zev:=Ck Bo (fn:=f85) (lk:=(AM.look [(148,bo)])) (ks:=⟨[],[],[],⟨tt [4],[]⟩,[],[148],[],[]⟩) (ts:=[.tmp 4]) (λ _=>by kernel_rfl) (Bn ⟨⟨mL,call148,λ _=>Bj rfl⟩,trivial⟩)
abbrev gz:=AM.spec [.val Bi] [(.bool,[])] λ x=>My x.1
theorem gI:Bh prog 109 gz:=Ck Bo (fn:=f109) (lk:=(AM.look [])) (ks:=(kz [2])) (ts:=[.tmp 2]) (λ _=>by kernel_rfl) (Bn trivial)
abbrev Pa:=BY.env (AM.look []) (kq [] [(8,⟨tt [3,5],[]⟩),(14,⟨tt [3,5],[]⟩)] [2])
def Qk:=bd f196
abbrev Ztl:=fin Pa [.tmp 2] [] [(AX,[])]
def Yac:=Bb 3 Qk
def Yiu (m0:Nat):=BK Pa m0 Yac 0 Ztl
def Yju (m0:Nat):=BA 0 (Yiu m0)
def Ybc:=By (BM (By (BM (Bb 2 Qk))))
def Yku (m0:Nat):=BK Pa m0 Ybc 0 (Yju m0)
def Ylu (m0:Nat):=BA 4 (Yku m0)
def Ycc:=By (Bz 3 (By (BM (Bb 2 Qk))))
def Ymu (m0:Nat):=BK Pa m0 Ycc 4 (Ylu m0)
def Ynu (m0:Nat):=BA 3 (Ymu m0)
def Ydc:=By (Bz 5 (By (BM (Bb 2 Qk))))
def You (m0:Nat):=BK Pa m0 Ydc 3 (Ynu m0)
def Ypu (m0:Nat):=BA 2 (You m0)
def Yec:=By (Bz 7 (By (BM (Bb 2 Qk))))
def Yqu (m0:Nat):=BK Pa m0 Yec 2 (Ypu m0)
def Yfc (m0:Nat):=BA 1 (Yqu m0)
def Ygc:=By (Bz 9 (By (BM (Bb 2 Qk))))
def vF (m0:Nat):=BK Pa m0 Ygc 1 (Yfc m0)
def Yhc:=Bb 3 (Bz 10 (By (BM (Bb 2 Qk))))
def Zoe (m0 n:Nat):Gk.A1:=λ x3 x4=>ej Pa n (.tail Yhc) 1 (mk [(3, .dat AX x3 []),(5, .dat (.int .u64) x4 [])] []) (vF m0)
theorem Yru (m0 m1:Nat):∀ n,Zoe m0 n=Gk.t1 n:=ind rfl λ n _=>by kernel_rfl
def Yic:=Bb 2 (Bz 10 (By (BM (Bb 2 Qk))))
def Zpe (m0 n:Nat):Gk.A0:=λ x1 x2=>ej Pa n (.tail Yic) 1 (mk [(3, .dat AX x1 []),(5, .dat (.int .u64) x2 [])] []) (vF m0)
theorem Ysu (m0:Nat):∀ n,Zpe m0 n=Gk.t0 n:=ind rfl λ n _=>(show _=Gk.S0 (Zoe m0 n) from by kernel_rfl).trans (by rw [Yru m0 n n];rfl)
abbrev Zqe:=AM.spec [.val (.int .u64)] [(AX,[])] λ x=>Gk x.1
theorem Yv9:Bh prog 196 Zqe:=B9 Bo (fn:=f196) (λ m x=>show run Pa Qk m x Ztl=Gk.S (Zpe m m) x.1 from by kernel_rfl) (λ x=>by rw [Ysu fu fu];rfl) (Bn trivial)
abbrev cY:=BY.env (AM.look [(196,Zqe)]) ⟨[(0,⟨tt [0,3,5],[]⟩)],[],[],⟨tt [2],[]⟩,[],[196],[],[]⟩
def n8:=bd f144
abbrev Zul:=fin cY [.tmp 2] [] [(AX,[])]
def Yjc:=Bb 3 n8
def Ytu (m0:Nat):=BK cY m0 Yjc 0 Zul
def Yuu (m0:Nat):=BA 0 (Ytu m0)
def Ykc:=Bz 2 (By (BM (Bb 2 n8)))
def Zre (m0 n:Nat):Hi.A0:=λ x1 x2 x3=>ej cY n (.loop Ykc) 0 (mk [(0, .dat AX x1 []),(3, .dat AX x2 []),(5, .dat AX x3 [])] []) (Yuu m0)
theorem Yvu (m0:Nat):∀ n,Zre m0 n=Hi.l0 n:=BR (S:=Hi.S0) λ n=>by kernel_rfl
abbrev lg:=AM.spec [.val AX] [(AX,[])] λ x=>Hi x.1
theorem Zvl:Bh prog 144 lg:=B9 Bo (fn:=f144) (λ m x=>show run cY n8 m x Zul=Hi.S (Zre m m) x.1 from by kernel_rfl) (λ x=>by rw [Yvu fu fu];rfl) (Bn ⟨⟨Yv9,call196,λ _=>Bj rfl⟩,trivial⟩)
abbrev jJ:=AM.spec [.val AX, .val AX] [(.bool,[])] λ x=>some (NZ x.1 x.2.1)
theorem Zif:Bh prog 185 jJ:=Ck Bo (fn:=f185) (lk:=(AM.look [])) (ks:=(kz [4])) (ts:=[.tmp 4]) (λ x=>(show _=NZ.o x.1 x.2.1 from by kernel_rfl).trans (by unfold NZ.o NZ;simp only [Nc])) (Bn trivial)
abbrev Zse:=AM.spec [.val AX, .val AX, .val AX] [(AX,[])] λ x=>ZP x.1 x.2.1 x.2.2.1
theorem Yw9:Bh prog 145 Zse:=Ck Bo (fn:=f145) (lk:=(AM.look [(185,jJ),(186,W4)])) (ks:=⟨[],[],[],⟨tt [6],[]⟩,[],[185,186],[],[]⟩) (ts:=[.tmp 6]) (λ _=>by kernel_rfl) (Bn ⟨⟨Zif,call185,λ _=>Bj rfl⟩,⟨⟨bK,call186,λ _=>Bj rfl⟩,trivial⟩⟩)
abbrev dW:=BY.env (AM.look [(109,gz),(144,lg),(145,Zse)]) ⟨[(0,⟨tt [1,5,16,17,18],[]⟩)],[],[],⟨tt [4],[]⟩,[],[109,144,145],[],[]⟩
def pk:=bd f80
abbrev Zuo:=fin dW [.tmp 4] [] [(AX,[])]
def Ywu:=Bb 4 pk
def Yn2 (m0:Nat):=BK dW m0 Ywu 0 Zuo
def Yo2 (m0:Nat):=BA 0 (Yn2 m0)
def Yxu:=Bz 2 (By (BM (Bb 3 pk)))
def Zwl (m0 n:Nat):GQ.A0:=λ x2 x3 x4 x5 x6=>ej dW n (.loop Yxu) 0 (mk [(1, .dat AX x2 []),(5, .dat AX x3 []),(16, .dat Bi x4 []),(17, .dat AX x5 []),(18, .dat AX x6 [])] []) (Yo2 m0)
theorem Yp2 (m0:Nat):∀ n,Zwl m0 n=GQ.l0 n:=BR (S:=GQ.S0) λ n=>by kernel_rfl
abbrev Zxl:=AM.spec [.val Bi, .val AX] [(AX,[])] λ x=>GQ x.1 x.2.1
theorem Xgf:Bh prog 80 Zxl:=B9 Bo (fn:=f80) (λ m x=>show run dW pk m x Zuo=GQ.S (Zwl m m) x.1 x.2.1 from by kernel_rfl) (λ x=>by rw [Yp2 fu fu];rfl) (Bn ⟨⟨gI,call109,λ _=>Bj rfl⟩,⟨⟨Zvl,call144,λ _=>Bj rfl⟩,⟨⟨Yw9,call145,λ _=>Bj rfl⟩,trivial⟩⟩⟩)
abbrev dX:=BY.env (AM.look []) (kq [(0,⟨tt [3,6,7,8],[]⟩)] [] [2])
def pn:=bd f35
abbrev Zvo:=fin dX [.tmp 2] [] [(.bool,[])]
def Yyu:=Bb 3 pn
def Yq2 (m0:Nat):=BK dX m0 Yyu 0 Zvo
def Yr2 (m0:Nat):=BA 0 (Yq2 m0)
def Yzu:=Bz 2 (By (BM (Bb 2 pn)))
def Zyl (m0 n:Nat):Gn.A0:=λ x1 x2 x3 x4=>ej dX n (.loop Yzu) 0 (mk [(3, .dat AX x1 []),(6, .dat GY x2 []),(7, .dat AX x3 []),(8, .dat AX x4 [])] []) (Yr2 m0)
theorem Ys2 (m0:Nat):∀ n,Zyl m0 n=Gn.l0 n:=BR (S:=Gn.S0) λ n=>by kernel_rfl
abbrev SO:=AM.spec [.val GY] [(.bool,[])] λ x=>Gn x.1
theorem Ve:Bh prog 35 SO:=B9 Bo (fn:=f35) (λ m x=>show run dX pn m x Zvo=Gn.S (Zyl m m) x.1 from by kernel_rfl) (λ x=>by rw [Ys2 fu fu];rfl) (Bn trivial)
abbrev dY:=BY.env (AM.look [(35,SO)]) ⟨[(0,⟨tt [1,5,12,13,14],[]⟩)],[],[],⟨tt [4],[]⟩,[],[35],[],[]⟩
def po:=bd f82
abbrev Zwo:=fin dY [.tmp 4] [] [(AX,[])]
def Yav:=Bb 4 po
def Yt2 (m0:Nat):=BK dY m0 Yav 0 Zwo
def Yu2 (m0:Nat):=BA 0 (Yt2 m0)
def Ybv:=Bz 2 (By (BM (By (BM (Bb 3 po)))))
def Zzl (m0 n:Nat):Hh.A0:=λ x2 x3 x4 x5 x6=>ej dY n (.loop Ybv) 0 (mk [(1, .dat AX x2 []),(5, .dat AX x3 []),(12, .dat GY x4 []),(13, .dat AX x5 []),(14, .dat AX x6 [])] []) (Yu2 m0)
theorem Yv2 (m0:Nat):∀ n,Zzl m0 n=Hh.l0 n:=BR (S:=Hh.S0) λ n=>by kernel_rfl
abbrev Zam:=AM.spec [.val GY, .val AX] [(AX,[])] λ x=>Hh x.1 x.2.1
theorem Xhf:Bh prog 82 Zam:=B9 Bo (fn:=f82) (λ m x=>show run dY po m x Zwo=Hh.S (Zzl m m) x.1 x.2.1 from by kernel_rfl) (λ x=>by rw [Yv2 fu fu];rfl) (Bn ⟨⟨Ve,call35,λ _=>Bj rfl⟩,trivial⟩)
abbrev Znr:=AM.spec [.val Lh, .val AX] [(AX,[])] λ x=>LQ x.1 x.2.1
theorem Zqr:Bh prog 40 Znr:=Ck Bo (fn:=f40) (lk:=(AM.look [(80,Zxl),(81,nt),(82,Zam)])) (ks:=⟨[],[],[],⟨tt [4],[]⟩,[],[80,81,82],[],[]⟩) (ts:=[.tmp 4]) (λ _=>by kernel_rfl) (Bn ⟨⟨Xgf,call80,λ _=>Bj rfl⟩,⟨⟨Zno,call81,λ _=>Bj rfl⟩,⟨⟨Xhf,call82,λ _=>Bj rfl⟩,trivial⟩⟩⟩)
abbrev dZ:=BY.env (AM.look [(109,gz),(144,lg)]) ⟨[(0,⟨tt [3,8,9,10],[]⟩)],[],[],⟨tt [2],[]⟩,[],[109,144],[],[]⟩
def pq:=bd f83
abbrev Zxo:=fin dZ [.tmp 2] [] [(AX,[])]
def Ycv:=Bb 3 pq
def Yw2 (m0:Nat):=BK dZ m0 Ycv 0 Zxo
def Yx2 (m0:Nat):=BA 0 (Yw2 m0)
def Ydv:=Bz 2 (By (BM (By (BM (Bb 2 pq)))))
def Zbm (m0 n:Nat):He.A0:=λ x2 x3 x4 x5=>ej dZ n (.loop Ydv) 0 (mk [(3, .dat AX x2 []),(8, .dat Bi x3 []),(9, .dat AX x4 []),(10, .dat AX x5 [])] []) (Yx2 m0)
theorem Yy2 (m0:Nat):∀ n,Zbm m0 n=He.l0 n:=BR (S:=He.S0) λ n=>by kernel_rfl
abbrev Zcm:=AM.spec [.val Bi] [(AX,[])] λ x=>He x.1
theorem Xif:Bh prog 83 Zcm:=B9 Bo (fn:=f83) (λ m x=>show run dZ pq m x Zxo=He.S (Zbm m m) x.1 from by kernel_rfl) (λ x=>by rw [Yy2 fu fu];rfl) (Bn ⟨⟨gI,call109,λ _=>Bj rfl⟩,⟨⟨Zvl,call144,λ _=>Bj rfl⟩,trivial⟩⟩)
abbrev ea:=BY.env (AM.look [(35,SO)]) ⟨[(0,⟨tt [3,8,9,10],[]⟩)],[],[],⟨tt [2],[]⟩,[],[35],[],[]⟩
def pr:=bd f78
abbrev Zyo:=fin ea [.tmp 2] [] [(AX,[])]
def Yev:=Bb 3 pr
def Yz2 (m0:Nat):=BK ea m0 Yev 0 Zyo
def Ya3 (m0:Nat):=BA 0 (Yz2 m0)
def Yfv:=Bz 2 (By (BM (By (BM (Bb 2 pr)))))
def Zdm (m0 n:Nat):Gj.A0:=λ x2 x3 x4 x5=>ej ea n (.loop Yfv) 0 (mk [(3, .dat AX x2 []),(8, .dat GY x3 []),(9, .dat AX x4 []),(10, .dat AX x5 [])] []) (Ya3 m0)
theorem Yb3 (m0:Nat):∀ n,Zdm m0 n=Gj.l0 n:=BR (S:=Gj.S0) λ n=>by kernel_rfl
abbrev bJ:=AM.spec [.val GY] [(AX,[])] λ x=>Gj x.1
theorem oo:Bh prog 78 bJ:=B9 Bo (fn:=f78) (λ m x=>show run ea pr m x Zyo=Gj.S (Zdm m m) x.1 from by kernel_rfl) (λ x=>by rw [Yb3 fu fu];rfl) (Bn ⟨⟨Ve,call35,λ _=>Bj rfl⟩,trivial⟩)
abbrev Zjr:=AM.spec [.val Lh] [(AX,[])] λ x=>LP x.1
theorem Zmr:Bh prog 41 Zjr:=Ck Bo (fn:=f41) (lk:=(AM.look [(83,Zcm),(78,bJ)])) (ks:=⟨[],[],[],⟨tt [2],[]⟩,[],[78,83],[],[]⟩) (ts:=[.tmp 2]) (λ _=>by kernel_rfl) (Bn ⟨⟨Xif,call83,λ _=>Bj rfl⟩,⟨⟨oo,call78,λ _=>Bj rfl⟩,trivial⟩⟩)
end
end Go.Proofs.YtclpadlpcfnfmaaGreat.Am
