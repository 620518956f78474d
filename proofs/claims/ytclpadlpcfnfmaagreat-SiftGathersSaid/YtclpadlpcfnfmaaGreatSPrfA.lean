import Derived.Test.YtclpadlpcfnfmaaGreatAmPure18A
import Derived.Test.YtclpadlpcfnfmaaGreatSPrim
/- PRINTED by gen/ of this repo: the code comes to the pure functions. -/
namespace Go.Proofs.YtclpadlpcfnfmaaGreat.Am
open Go.AM Go.AM.Pure
set_option linter.unusedVariables false
set_option maxRecDepth 100000
noncomputable section
abbrev Dg:Ty:= .sl .str
abbrev Ac:Ty:= .int .i64
abbrev AG:Ty:= .sl Ac
abbrev Zwh1:Ty:= .pair Ac .str
abbrev Zxh1:Ty:= .pair .str AG
abbrev Zxi:Ty:= .pair Ac Ac
abbrev FD:Ty:= .sl Zxi
abbrev Zyh1:Ty:= .pair AG AG
abbrev Ho:Ty:= .pair Ac Zwh1
abbrev Dd:Ty:= .sl Ho
abbrev sk:Ty:= .pair Ac Zxi
abbrev IF:Ty:= .sl sk
abbrev OR:Ty:= .pair Ac Ho
abbrev Zl:Ty:= .pair Ac sk
abbrev Zzh1:Ty:= .pair FD Zyh1
abbrev Ge:Ty:= .pair OR Zxh1
abbrev Kk:Ty:= .pair Ac Zzh1
abbrev wR:=AM.spec [.val Ho] [(.bool,[])] fun x=>some (DZ x.1)
theorem Zof1:Ah Tryz.prog 59 wR:=Ci Az (fn:=Tryz.f59) (lk:=(AM.look [])) (ks:=(kz [2])) (ts:=[.tmp 2]) (fun x=>(show _=DZ.o x.1 from by kernel_rfl).trans (by unfold DZ.o DZ;simp only [Gv])) (Ag trivial)
abbrev Xw:=tab.env (AM.look [(59,wR)]) ⟨[(0,⟨tt [0,1,5],[]⟩)],[],[(3,⟨tt [0,1],[]⟩)],⟨tt [4],[]⟩,[],[59],[],[]⟩
def dd:=bd Tryz.f31
abbrev sn:=fin Xw [.tmp 4] [] [(.bool,[])]
def Zyi:=rgN 3 dd
def Zs1 (m0 m1:Nat):=sqK Xw m1 Zyi 0 sn
def Zt1 (m0 m1:Nat):=AH 0 (Zs1 m0 m1)
def Zzi:=lfN 2 (rgt (lft (rgN 2 dd)))
def wS (m0 m1 n:Nat):BT.A1:=fun x3 x4 x5=>ej Xw n (.loop Zzi) 0 (mk [(0, .dat Dd x3 []),(1, .dat Ac x4 []),(5, .dat Ac x5 [])] []) (Zt1 m0 m1)
theorem Zu1 (m0 m1:Nat):∀ n,wS m0 m1 n=BT.l1 n:=BL (S:=BT.S1) fun n=>by kernel_rfl
def Zaj:=rgN 2 dd
def wT (m0 n:Nat):BT.A0:=fun x1 x2=>ej Xw n (.tail Zaj) 0 (mk [(0, .dat Dd x1 []),(1, .dat Ac x2 [])] []) sn
theorem Zv1 (m0:Nat):∀ n,wT m0 n=BT.t0 n:=ind rfl fun n _=>(show _=BT.S0 (wS m0 n n) from by kernel_rfl).trans (by rw [Zu1 m0 n n];rfl)
abbrev wU:=AM.spec [.val Dd, .val Ac] [(.bool,[])] fun x=>BT x.1 x.2.1
theorem Zpf1:Ah Tryz.prog 31 wU:=Ca Az (fn:=Tryz.f31) (fun m x=>show run Xw dd m x sn=BT.S (wT m m) x.1 x.2.1 from by kernel_rfl) (fun x=>by rw [Zv1 fu fu];rfl) (Ag ⟨⟨Zof1,Tryz.call59,fun _=>Af rfl⟩,trivial⟩)
abbrev Xx:=tab.env (AM.look []) ⟨[(0,⟨tt [0,2,3,4],tt [2,3]⟩)],[],[],⟨tt [2],tt [2]⟩,[],[],[],[]⟩
def gH:=bd Tryz.f219
abbrev wV:=fin Xx [.cell 2 227] [] [((.arr 63 .bool),[])]
def wW:=rgN 3 gH
def Zbj (m0:Nat):=sqK Xx m0 wW 0 wV
def Zcj (m0:Nat):=AH 0 (Zbj m0)
def wX:=lfN 2 (rgt (lft (rgN 2 gH)))
def me (m0 n:Nat):DI.A0:=fun x1 x2 x3 x4=>ej Xx n (.loop wX) 0 (mk [(0, .dat Ac x1 []),(2, .ptr 2 0 0),(3, .ptr 3 0 0),(4, .dat Ac x2 [])] [(2,some (.arr .bool x3 false)),(3,some (.arr .bool x4 false))]) (Zcj m0)
theorem Zdj (m0:Nat):∀ n,me m0 n=DI.l0 n:=BL (S:=DI.S0) fun n=>by kernel_rfl
abbrev Ug:=AM.spec [.val Ac] [((.arr 63 .bool),[])] fun x=>DI x.1
theorem gI:Ah Tryz.prog 219 Ug:=Ca Az (fn:=Tryz.f219) (fun m x=>show run Xx gH m x wV=DI.S (me m m) x.1 from by kernel_rfl) (fun x=>by rw [Zdj fu fu];rfl) (Ag trivial)
abbrev Xy:=tab.env (AM.look [(219,Ug)]) ⟨[(0,⟨tt [3,4],tt [3]⟩)],[],[],⟨tt [2],[]⟩,[],[219],[],[]⟩
def gJ:=bd Tryz.f178
abbrev wY:=fin Xy [.tmp 2] [] [(Ac,[])]
def wZ:=rgN 3 gJ
def Zej (m0:Nat):=sqK Xy m0 wZ 0 wY
def Zfj (m0:Nat):=AH 0 (Zej m0)
def xa:=lfN 2 (rgt (lft (rgN 2 gJ)))
def mf (m0 n:Nat):Cy.A0:=fun x2 x3=>ej Xy n (.loop xa) 0 (mk [(3, .ptr 3 0 0),(4, .dat Ac x2 [])] [(3,some (.arr .bool x3 false))]) (Zfj m0)
theorem Zgj (m0:Nat):∀ n,mf m0 n=Cy.l0 n:=BL (S:=Cy.S0) fun n=>by kernel_rfl
abbrev mg:=AM.spec [.val Ac] [(Ac,[])] fun x=>Cy x.1
theorem Zx8:Ah Tryz.prog 178 mg:=Ca Az (fn:=Tryz.f178) (fun m x=>show run Xy gJ m x wY=Cy.S (mf m m) x.1 from by kernel_rfl) (fun x=>by rw [Zgj fu fu];rfl) (Ag ⟨⟨gI,Tryz.call219,fun _=>Af rfl⟩,trivial⟩)
abbrev Xz:=tab.env (AM.look [(178,mg)]) ⟨[(0,⟨tt [0,3,4],[]⟩)],[],[],⟨tt [2],[]⟩,[],[178],[],[]⟩
def gK:=bd Tryz.f126
abbrev xb:=fin Xz [.tmp 2] [] [(Ac,[])]
def xc:=rgN 3 gK
def Zhj (m0:Nat):=sqK Xz m0 xc 0 xb
def Zij (m0:Nat):=AH 0 (Zhj m0)
def xd:=lfN 2 (rgt (lft (rgN 2 gK)))
def mh (m0 n:Nat):Cr.A0:=fun x1 x2 x3=>ej Xz n (.loop xd) 0 (mk [(0, .dat AG x1 []),(3, .dat Ac x2 []),(4, .dat Ac x3 [])] []) (Zij m0)
theorem Zjj (m0:Nat):∀ n,mh m0 n=Cr.l0 n:=BL (S:=Cr.S0) fun n=>by kernel_rfl
abbrev Qz:=AM.spec [.val AG] [(Ac,[])] fun x=>Cr x.1
theorem XA:Ah Tryz.prog 126 Qz:=Ca Az (fn:=Tryz.f126) (fun m x=>show run Xz gK m x xb=Cr.S (mh m m) x.1 from by kernel_rfl) (fun x=>by rw [Zjj fu fu];rfl) (Ag ⟨⟨Zx8,Tryz.call178,fun _=>Af rfl⟩,trivial⟩)
abbrev ml:=AM.spec [.val Ac, .val Ac] [(Ac,[])] fun x=>some (GW x.1 x.2.1)
theorem Zy8:Ah Tryz.prog 127 ml:=Ci Az (fn:=Tryz.f127) (lk:=(AM.look [])) (ks:=(kz [4])) (ts:=[.tmp 4]) (fun x=>(show _=GW.o x.1 x.2.1 from by kernel_rfl).trans (by unfold GW.o GW;simp only [Gv])) (Ag trivial)
abbrev RF:=tab.env (AM.look [(126,Qz),(127,ml)]) ⟨[(0,⟨tt [0,1,6,7],tt [31]⟩),(2,⟨tt [0,1,6,7,8],tt [31]⟩)],[],[],⟨tt [4,5],[]⟩,[6,31,56,59,69],[126,127],[],[]⟩
def so:=bd Tryz.f71
abbrev Zvv:=fin RF [.tmp 4, .tmp 5] [] [(.str,[]),(Ac,[])]
def Zkj:=rgN 4 so
def Zw1 (m0:Nat):=sqK RF m0 Zkj 0 Zvv
def mm (m0:Nat):=AH 0 (Zw1 m0)
def RG:=lfN 2 (rgt (lft (rgN 3 so)))
def XB (m0 n:Nat):Bt.A0:=fun x3 x4 x5 x6=>ej RF n (.loop RG) 0 (mk [(0, .dat AG x3 []),(1, .dat Ac x4 []),(6, .slw 31 0),(7, .dat Ac x5 [])] [(31,some (.arr (.int .u8) x6 false))]) (mm m0)
def Zx1 (m0 m1:Nat):=lpK RF m1 RG 0 (mm m0)
def Zlj:=rgN 2 RG
def Zy1 (m0 m1:Nat):=sqK RF m1 Zlj 0 (Zx1 m0 m1)
def Zz1 (m0 m1:Nat):=AH 1 (Zy1 m0 m1)
def Za2 (m0 m1:Nat):=AH 2 (Zz1 m0 m1)
def Zmj:=lfN 2 (rgt (lfN 2 (rgt RG)))
def xe (m0 m1 n:Nat):Bt.A1:=fun x7 x8 x9 x10 x11=>ej RF n (.loop Zmj) 2 (mk [(0, .dat AG x7 []),(1, .dat Ac x8 []),(6, .slw 31 0),(7, .dat Ac x9 []),(8, .dat Ac x10 [])] [(31,some (.arr (.int .u8) x11 false))]) (Za2 m0 m1)
theorem Zb2 (m0 m1:Nat):∀ n,xe m0 m1 n=Bt.l1 (XB m0 m1) n:=BL (S:=Bt.S1 (XB m0 m1)) fun n=>by kernel_rfl
theorem Zc2 (m0:Nat):∀ n,XB m0 n=Bt.l0 n:=ind rfl fun n e0=>(show _=Bt.S0 (xe m0 n n) from by kernel_rfl).trans (by rw [Zb2 m0 n n,e0];rfl)
abbrev Th:=AM.spec [.val AG, .val Ac] [(.str,[]),(Ac,[])] fun x=>Bt x.1 x.2.1
theorem de:Ah Tryz.prog 71 Th:=Ca Az (fn:=Tryz.f71) (fun m x=>show run RF so m x Zvv=Bt.S (XB m m) x.1 x.2.1 from by kernel_rfl) (fun x=>by rw [Zc2 fu fu];rfl) (Ag ⟨⟨XA,Tryz.call126,fun _=>Af rfl⟩,⟨⟨Zy8,Tryz.call127,fun _=>Af rfl⟩,trivial⟩⟩)
abbrev XC:=tab.env (AM.look [(71,Th)]) ⟨[(0,⟨tt [0,4,5,6],[]⟩)],[],[(10,⟨tt [0,4,5],[]⟩)],⟨tt [2,3],[]⟩,[],[71],[],[]⟩
def sq:=bd Tryz.f32
abbrev su:=fin XC [.tmp 2, .tmp 3] [] [(.str,[]),(Dd,[⟨0,1,0,3⟩])]
def gL:=rgN 4 sq
def gM (m0 n:Nat):Bv.A1:=fun x5 x6 x7=>ej XC n (.tail gL) 0 (mk [(0, .dat Dd x5 []),(4, .dat Dd x6 [⟨0,257,0,3⟩]),(5, .dat AG x7 [⟨0,321,0,1⟩])] []) su
theorem Zd2 (m0:Nat):∀ n,gM m0 n=Bv.t1 n:=ind rfl fun n _=>by kernel_rfl
def Ze2 (m0:Nat):=sqK XC m0 gL 0 su
def Zf2 (m0:Nat):=AH 0 (Ze2 m0)
def Znj:=lfN 2 (rgt (lft (rgN 3 sq)))
def xf (m0 n:Nat):Bv.A0:=fun x1 x2 x3 x4=>ej XC n (.loop Znj) 0 (mk [(0, .dat Dd x1 []),(4, .dat Dd x2 [⟨0,257,0,3⟩]),(5, .dat AG x3 [⟨0,321,0,1⟩]),(6, .dat Ac x4 [])] []) (Zf2 m0)
theorem Zg2 (m0:Nat):∀ n,xf m0 n=Bv.l0 (gM m0 m0) n:=BL (S:=Bv.S0 (gM m0 m0)) fun n=>by kernel_rfl
abbrev xg:=AM.spec [.val Dd] [(.str,[]),(Dd,[⟨0,1,0,3⟩])] fun x=>Bv x.1
theorem Zqf1:Ah Tryz.prog 32 xg:=Ca Az (fn:=Tryz.f32) (fun m x=>show run XC sq m x su=Bv.S (xf m m) x.1 from by kernel_rfl) (fun x=>by rw [Zg2 fu fu,Zd2 fu fu];rfl) (Ag ⟨⟨de,Tryz.call71,fun _=>Af rfl⟩,trivial⟩)
abbrev df:=tab.env (AM.look []) (kq [(0,⟨tt [0,3,4],[]⟩)] [] [2])
def sw:=bd Tryz.f73
abbrev Zwv:=fin df [.tmp 2] [] [(AG,[⟨0,1,0,1⟩])]
def Zoj:=rgN 3 sw
def Zh2 (m0:Nat):=sqK df m0 Zoj 0 Zwv
def Zi2 (m0:Nat):=AH 0 (Zh2 m0)
def Zpj:=lfN 2 (rgt (lft (rgN 2 sw)))
def xh (m0 n:Nat):De.A0:=fun x1 x2 x3=>ej df n (.loop Zpj) 0 (mk [(0, .dat Dd x1 []),(3, .dat AG x2 [⟨0,193,0,1⟩]),(4, .dat Ac x3 [])] []) (Zi2 m0)
theorem Zj2 (m0:Nat):∀ n,xh m0 n=De.l0 n:=BL (S:=De.S0) fun n=>by kernel_rfl
abbrev xl:=AM.spec [.val Dd] [(AG,[⟨0,1,0,1⟩])] fun x=>De x.1
theorem Zrf1:Ah Tryz.prog 73 xl:=Ca Az (fn:=Tryz.f73) (fun m x=>show run df sw m x Zwv=De.S (xh m m) x.1 from by kernel_rfl) (fun x=>by rw [Zj2 fu fu];rfl) (Ag trivial)
abbrev OS:=tab.env (AM.look []) (kq [(0,⟨tt [0,3,4],[]⟩),(2,⟨tt [0,3,4,5],[]⟩)] [] [2])
def gN:=bd Tryz.f128
abbrev xm:=fin OS [.tmp 2] [] [(.str,[])]
def xo:=rgN 3 gN
def Zqj (m0:Nat):=sqK OS m0 xo 0 xm
def gO (m0:Nat):=AH 0 (Zqj m0)
def PG:=lfN 2 (rgt (lft (rgN 2 gN)))
def Uh (m0 n:Nat):AW.A0:=fun x1 x2 x3=>ej OS n (.loop PG) 0 (mk [(0, .dat AG x1 []),(3, .dat (.sl (.int .u8)) x2 [⟨0,193,0,0⟩]),(4, .dat Ac x3 [])] []) (gO m0)
def Zrj (m0 m1:Nat):=lpK OS m1 PG 0 (gO m0)
def xp:=rgN 2 PG
def Zsj (m0 m1:Nat):=sqK OS m1 xp 0 (Zrj m0 m1)
def Ztj (m0 m1:Nat):=AH 1 (Zsj m0 m1)
def Zuj (m0 m1:Nat):=AH 2 (Ztj m0 m1)
def xq:=lfN 2 (rgt (lfN 2 (rgt PG)))
def mn (m0 m1 n:Nat):AW.A1:=fun x4 x5 x6 x7=>ej OS n (.loop xq) 2 (mk [(0, .dat AG x4 []),(3, .dat (.sl (.int .u8)) x5 [⟨0,193,0,0⟩]),(4, .dat Ac x6 []),(5, .dat Ac x7 [])] []) (Zuj m0 m1)
theorem Zvj (m0 m1:Nat):∀ n,mn m0 m1 n=AW.l1 (Uh m0 m1) n:=BL (S:=AW.S1 (Uh m0 m1)) fun n=>by kernel_rfl
theorem Zwj (m0:Nat):∀ n,Uh m0 n=AW.l0 n:=ind rfl fun n e0=>(show _=AW.S0 (mn m0 n n) from by kernel_rfl).trans (by rw [Zvj m0 n n,e0];rfl)
abbrev mo:=AM.spec [.val AG] [(.str,[])] fun x=>AW x.1
theorem Zz8:Ah Tryz.prog 128 mo:=Ca Az (fn:=Tryz.f128) (fun m x=>show run OS gN m x xm=AW.S (Uh m m) x.1 from by kernel_rfl) (fun x=>by rw [Zwj fu fu];rfl) (Ag trivial)
abbrev XD:=tab.env (AM.look []) ⟨[(0,⟨tt [0,3,4],tt [3]⟩)],[],[],⟨tt [2],tt [3]⟩,[2,3,30,31,40,48,49],[],[],[]⟩
def gP:=bd Tryz.f130
abbrev xr:=fin XD [.tmp 2] [] [(IF,[])]
def xt:=rgN 3 gP
def Zxj (m0:Nat):=sqK XD m0 xt 0 xr
def Zyj (m0:Nat):=AH 0 (Zxj m0)
def xu:=lfN 2 (rgt (lft (rgN 2 gP)))
def mq (m0 n:Nat):DJ.A0:=fun x1 x2 x3=>ej XD n (.loop xu) 0 (mk [(0, .dat AG x1 []),(3, .slw 3 0),(4, .dat Ac x2 [])] [(3,some (.arr sk x3 false))]) (Zyj m0)
theorem Zzj (m0:Nat):∀ n,mq m0 n=DJ.l0 n:=BL (S:=DJ.S0) fun n=>by kernel_rfl
abbrev Zm:=AM.spec [.val AG] [(IF,[])] fun x=>DJ x.1
theorem xv:Ah Tryz.prog 130 Zm:=Ca Az (fn:=Tryz.f130) (fun m x=>show run XD gP m x xr=DJ.S (mq m m) x.1 from by kernel_rfl) (fun x=>by rw [Zzj fu fu];rfl) (Ag trivial)
abbrev XE:=tab.env (AM.look []) (kq [(0,⟨tt [0,3,4],[]⟩)] [] [2])
def gQ:=bd Tryz.f163
abbrev xw:=fin XE [.tmp 2] [] [(.bool,[])]
def xx:=rgN 3 gQ
def Zak (m0:Nat):=sqK XE m0 xx 0 xw
def Zbk (m0:Nat):=AH 0 (Zak m0)
def xy:=lfN 2 (rgt (lft (rgN 2 gQ)))
def mr (m0 n:Nat):DB.A0:=fun x1 x2 x3=>ej XE n (.loop xy) 0 (mk [(0, .dat IF x1 []),(3, .dat Ac x2 []),(4, .dat Ac x3 [])] []) (Zbk m0)
theorem Zck (m0:Nat):∀ n,mr m0 n=DB.l0 n:=BL (S:=DB.S0) fun n=>by kernel_rfl
abbrev mu:=AM.spec [.val IF] [(.bool,[])] fun x=>DB x.1
theorem Za9:Ah Tryz.prog 163 mu:=Ca Az (fn:=Tryz.f163) (fun m x=>show run XE gQ m x xw=DB.S (mr m m) x.1 from by kernel_rfl) (fun x=>by rw [Zck fu fu];rfl) (Ag trivial)
abbrev XF:=tab.env (AM.look []) (kq [(0,⟨tt [1,3,4],tt [1]⟩)] [] [2])
def gR:=bd Tryz.f220
abbrev xz:=fin XF [.tmp 2] [] [(Ac,[])]
def xA:=rgN 3 gR
def Zdk (m0:Nat):=sqK XF m0 xA 0 xz
def Zek (m0:Nat):=AH 0 (Zdk m0)
def xB:=lfN 2 (rgt (lft (rgN 2 gR)))
def mv (m0 n:Nat):BU.A0:=fun x1 x2 x3=>ej XF n (.loop xB) 0 (mk [(1, .ptr 1 0 0),(3, .dat Ac x1 []),(4, .dat Ac x2 [])] [(1,some (.arr .bool x3 false))]) (Zek m0)
theorem Zfk (m0:Nat):∀ n,mv m0 n=BU.l0 n:=BL (S:=BU.S0) fun n=>by kernel_rfl
abbrev Zn:=AM.spec [.val (.arr 63 .bool)] [(Ac,[])] fun x=>BU x.1
theorem xC:Ah Tryz.prog 220 Zn:=Ca Az (fn:=Tryz.f220) (fun m x=>show run XF gR m x xz=BU.S (mv m m) x.1 from by kernel_rfl) (fun x=>by rw [Zfk fu fu];rfl) (Ag trivial)
abbrev XG:=tab.env (AM.look [(219,Ug),(220,Zn)]) ⟨[(0,⟨tt [3,4,5],tt [3,4]⟩)],[],[],⟨tt [2],[]⟩,[],[219,220],[],[]⟩
def gS:=bd Tryz.f183
abbrev xD:=fin XG [.tmp 2] [] [(Ac,[])]
def xE:=rgN 5 gS
def Zgk (m0:Nat):=sqK XG m0 xE 0 xD
def Zhk (m0:Nat):=AH 0 (Zgk m0)
def xF:=lfN 2 (rgt (lft (rgN 4 gS)))
def mw (m0 n:Nat):DC.A0:=fun x2 x3 x4=>ej XG n (.loop xF) 0 (mk [(3, .ptr 3 0 0),(4, .ptr 4 0 0),(5, .dat Ac x2 [])] [(3,some (.arr .bool x3 false)),(4,some (.arr .bool x4 false))]) (Zhk m0)
theorem Zik (m0:Nat):∀ n,mw m0 n=DC.l0 n:=BL (S:=DC.S0) fun n=>by kernel_rfl
abbrev my:=AM.spec [.val Ac] [(Ac,[])] fun x=>DC x.1
theorem Zb9:Ah Tryz.prog 183 my:=Ca Az (fn:=Tryz.f183) (fun m x=>show run XG gS m x xD=DC.S (mw m m) x.1 from by kernel_rfl) (fun x=>by rw [Zik fu fu];rfl) (Ag ⟨⟨gI,Tryz.call219,fun _=>Af rfl⟩,⟨⟨xC,Tryz.call220,fun _=>Af rfl⟩,trivial⟩⟩)
abbrev XH:=tab.env (AM.look [(219,Ug),(220,Zn)]) ⟨[(0,⟨tt [1,2,7,8,9],tt [7,8]⟩)],[],[],⟨tt [6],[]⟩,[],[219,220],[],[]⟩
def gT:=bd Tryz.f184
abbrev xG:=fin XH [.tmp 6] [] [(Ac,[])]
def xH:=rgN 4 gT
def Zjk (m0:Nat):=sqK XH m0 xH 0 xG
def Zkk (m0:Nat):=AH 0 (Zjk m0)
def xI:=lfN 2 (rgt (lft (rgN 3 gT)))
def mz (m0 n:Nat):Cs.A0:=fun x2 x3 x4 x5 x6=>ej XH n (.loop xI) 0 (mk [(1, .dat Ac x2 []),(2, .dat Ac x3 []),(7, .ptr 7 0 0),(8, .ptr 8 0 0),(9, .dat Ac x4 [])] [(7,some (.arr .bool x5 false)),(8,some (.arr .bool x6 false))]) (Zkk m0)
theorem Zlk (m0:Nat):∀ n,mz m0 n=Cs.l0 n:=BL (S:=Cs.S0) fun n=>by kernel_rfl
abbrev mB:=AM.spec [.val Ac, .val Ac, .val Ac] [(Ac,[])] fun x=>Cs x.1 x.2.1 x.2.2.1
theorem Zc9:Ah Tryz.prog 184 mB:=Ca Az (fn:=Tryz.f184) (fun m x=>show run XH gT m x xG=Cs.S (mz m m) x.1 x.2.1 x.2.2.1 from by kernel_rfl) (fun x=>by rw [Zlk fu fu];rfl) (Ag ⟨⟨gI,Tryz.call219,fun _=>Af rfl⟩,⟨⟨xC,Tryz.call220,fun _=>Af rfl⟩,trivial⟩⟩)
abbrev gU:=tab.env (AM.look [(183,my),(184,mB)]) ⟨[(0,⟨tt [3,4],[]⟩)],[],[],⟨tt [2],[]⟩,[],[183,184],[],[]⟩
def xJ:=bd Tryz.f135
abbrev xK:=fin gU [.tmp 2] [] [(.str,[])]
def Zmk (m0:Nat):=AH 0 xK
def xL:=lfN 2 (rgN 3 xJ)
def mC (m0 n:Nat):CG.A0:=fun x2 x3=>ej gU n (.loop xL) 0 (mk [(3, .dat Ac x2 []),(4, .dat (.sl (.int .u8)) x3 [⟨0,257,0,0⟩])] []) (Zmk m0)
theorem Znk (m0:Nat):∀ n,mC m0 n=CG.l0 n:=BL (S:=CG.S0) fun n=>by kernel_rfl
abbrev Ou:=AM.spec [.val Ac] [(.str,[])] fun x=>CG x.1
theorem Tk:Ah Tryz.prog 135 Ou:=Ca Az (fn:=Tryz.f135) (fun m x=>show run gU xJ m x xK=CG.S (mC m m) x.1 from by kernel_rfl) (fun x=>by rw [Znk fu fu];rfl) (Ag ⟨⟨Zb9,Tryz.call183,fun _=>Af rfl⟩,⟨⟨Zc9,Tryz.call184,fun _=>Af rfl⟩,trivial⟩⟩)
abbrev XI:=tab.env (AM.look [(163,mu),(135,Ou)]) ⟨[(0,⟨tt [0,4,5],[]⟩)],[],[],⟨tt [2,3],[]⟩,[],[135,163],[],[]⟩
def gV:=bd Tryz.f129
abbrev xM:=fin XI [.tmp 2, .tmp 3] [] [(.str,[]),(Ac,[])]
def xN:=rgN 4 gV
def Zok (m0:Nat):=sqK XI m0 xN 0 xM
def Zpk (m0:Nat):=AH 0 (Zok m0)
def xO:=lfN 2 (rgt (lft (rgN 3 gV)))
def mD (m0 n:Nat):CW.A0:=fun x2 x3 x4=>ej XI n (.loop xO) 0 (mk [(0, .dat IF x2 []),(4, .dat .str x3 []),(5, .dat Ac x4 [])] []) (Zpk m0)
theorem Zqk (m0:Nat):∀ n,mD m0 n=CW.l0 n:=BL (S:=CW.S0) fun n=>by kernel_rfl
abbrev Zo:=AM.spec [.val IF] [(.str,[]),(Ac,[])] fun x=>CW x.1
theorem xP:Ah Tryz.prog 129 Zo:=Ca Az (fn:=Tryz.f129) (fun m x=>show run XI gV m x xM=CW.S (mD m m) x.1 from by kernel_rfl) (fun x=>by rw [Zqk fu fu];rfl) (Ag ⟨⟨Za9,Tryz.call163,fun _=>Af rfl⟩,⟨⟨Tk,Tryz.call135,fun _=>Af rfl⟩,trivial⟩⟩)
abbrev XJ:=tab.env (AM.look []) ⟨[(0,⟨tt [0,3,4],[]⟩)],[],[],⟨tt [2],[]⟩,[],[],[],[22]⟩
def gW:=bd Tryz.f179
abbrev xQ:=fin XJ [.tmp 2] [] [(AG,[⟨0,1,0,1⟩])]
def xR:=rgN 3 gW
def Zrk (m0:Nat):=sqK XJ m0 xR 0 xQ
def Zsk (m0:Nat):=AH 0 (Zrk m0)
def xS:=lfN 2 (rgt (lft (rgN 2 gW)))
def mE (m0 n:Nat):CI.A0:=fun x1 x2 x3=>ej XJ n (.loop xS) 0 (mk [(0, .dat AG x1 []),(3, .dat AG x2 [⟨0,193,0,1⟩]),(4, .dat Ac x3 [])] []) (Zsk m0)
theorem Ztk (m0:Nat):∀ n,mE m0 n=CI.l0 n:=BL (S:=CI.S0) fun n=>by kernel_rfl
abbrev mF:=AM.spec [.val AG] [(AG,[⟨0,1,0,1⟩])] fun x=>CI x.1
theorem Zd9:Ah Tryz.prog 179 mF:=Ca Az (fn:=Tryz.f179) (fun m x=>show run XJ gW m x xQ=CI.S (mE m m) x.1 from by kernel_rfl) (fun x=>by rw [Ztk fu fu];rfl) (Ag trivial)
abbrev XK:=tab.env (AM.look []) (kq [(0,⟨tt [0,3,4],[]⟩)] [] [2])
def gX:=bd Tryz.f180
abbrev xT:=fin XK [.tmp 2] [] [(Ac,[])]
def xU:=rgN 3 gX
def Zuk (m0:Nat):=sqK XK m0 xU 0 xT
def Zvk (m0:Nat):=AH 0 (Zuk m0)
def xV:=lfN 2 (rgt (lft (rgN 2 gX)))
def mH (m0 n:Nat):Ct.A0:=fun x1 x2 x3=>ej XK n (.loop xV) 0 (mk [(0, .dat AG x1 []),(3, .dat Ac x2 []),(4, .dat Ac x3 [])] []) (Zvk m0)
theorem Zwk (m0:Nat):∀ n,mH m0 n=Ct.l0 n:=BL (S:=Ct.S0) fun n=>by kernel_rfl
abbrev mI:=AM.spec [.val AG] [(Ac,[])] fun x=>Ct x.1
theorem Ze9:Ah Tryz.prog 180 mI:=Ca Az (fn:=Tryz.f180) (fun m x=>show run XK gX m x xT=Ct.S (mH m m) x.1 from by kernel_rfl) (fun x=>by rw [Zwk fu fu];rfl) (Ag trivial)
abbrev Tl:=tab.env (AM.look [(135,Ou),(179,mF),(180,mI),(126,Qz),(71,Th)]) ⟨[(0,⟨tt [4,5,6,7,8],[]⟩)],[],[(15,⟨tt [4,6,7],[]⟩)],⟨tt [2,3],[]⟩,[],[71,126,135,180],[],[59]⟩
def gY:=bd Tryz.f131
abbrev gZ:=fin Tl [.tmp 2, .tmp 3] [] [(.str,[]),(Ac,[])]
def bw:=rgN 9 gY
def Zp (m0 n:Nat):BH.A1:=fun x9 x10 x11=>ej Tl n (.tail bw) 0 (mk [(4, .dat .str x9 []),(6, .dat Ac x10 []),(7, .dat AG x11 [⟨0,449,0,1⟩])] []) gZ
theorem Zxk (m0:Nat):∀ n,Zp m0 n=BH.t1 n:=ind rfl fun n _=>by kernel_rfl
def Zyk (m0:Nat):=sqK Tl m0 bw 0 gZ
def Zzk (m0:Nat):=AH 0 (Zyk m0)
def xW:=lfN 2 (rgt (lft (rgN 8 gY)))
def mJ (m0 n:Nat):BH.A0:=fun x4 x5 x6 x7 x8=>ej Tl n (.loop xW) 0 (mk [(4, .dat .str x4 []),(5, .dat AG x5 [⟨0,321,0,1⟩]),(6, .dat Ac x6 []),(7, .dat AG x7 [⟨0,449,0,1⟩]),(8, .dat Ac x8 [])] []) (Zzk m0)
theorem Zal (m0:Nat):∀ n,mJ m0 n=BH.l0 (Zp m0 m0) n:=BL (S:=BH.S0 (Zp m0 m0)) fun n=>by kernel_rfl
abbrev mK:=AM.spec [.val AG] [(.str,[]),(Ac,[])] fun x=>BH x.1
theorem Zf9:Ah Tryz.prog 131 mK:=Ca Az (fn:=Tryz.f131) (fun m x=>show run Tl gY m x gZ=BH.S (mJ m m) x.1 from by kernel_rfl) (fun x=>by rw [Zal fu fu,Zxk fu fu];rfl) (Ag ⟨⟨Tk,Tryz.call135,fun _=>Af rfl⟩,⟨⟨Zd9,Tryz.call179,nw⟩,⟨⟨Ze9,Tryz.call180,fun _=>Af rfl⟩,⟨⟨XA,Tryz.call126,fun _=>Af rfl⟩,⟨⟨de,Tryz.call71,fun _=>Af rfl⟩,trivial⟩⟩⟩⟩⟩)
abbrev Gw:=tab.env (AM.look []) (kq [(0,⟨tt [0,4,5,6],[]⟩),(2,⟨tt [0,4,5,6,7],[]⟩),(4,⟨tt [0,4,5,9],[]⟩),(6,⟨tt [0,4,5,9,10],[]⟩)] [(8,⟨tt [0,4,5,6,7],[]⟩),(9,⟨tt [0,4,5,6,7],[]⟩),(13,⟨tt [0,4,5],[]⟩)] [2,3])
def Tm:=bd Tryz.f181
abbrev XL:=fin Gw [.tmp 2, .tmp 3] [] [(AG,[⟨0,1,0,1⟩]),(AG,[⟨0,1,0,1⟩])]
def xX:=rgN 4 Tm
def Zbl (m0 m1:Nat):=sqK Gw m1 xX 0 XL
def hO (m0 m1:Nat):=AH 4 (Zbl m0 m1)
def Nt:=lfN 2 (rgt (lft (rgN 3 Tm)))
def Uk (m0 m1 n:Nat):Ak.A5:=fun x23 x24 x25 x26=>ej Gw n (.loop Nt) 4 (mk [(0, .dat AG x23 []),(4, .dat AG x24 [⟨0,257,0,1⟩]),(5, .dat AG x25 [⟨0,321,0,1⟩]),(9, .dat Ac x26 [])] []) (hO m0 m1)
def Zcl (m0 m1 m2:Nat):=lpK Gw m2 Nt 4 (hO m0 m1)
def xY:=rgN 2 Nt
def Zdl (m0 m1 m2:Nat):=sqK Gw m2 xY 4 (Zcl m0 m1 m2)
def Zel (m0 m1 m2:Nat):=AH 5 (Zdl m0 m1 m2)
def xZ:=rgN 2 (lfN 2 (rgt Nt))
def Zfl (m0 m1 m2:Nat):=sqK Gw m2 xZ 5 (Zel m0 m1 m2)
def Zgl (m0 m1 m2:Nat):=AH 6 (Zfl m0 m1 m2)
def ya:=lfN 3 (rgt (lfN 2 (rgt Nt)))
def mL (m0 m1 m2 n:Nat):Ak.A6:=fun x27 x28 x29 x30 x31=>ej Gw n (.loop ya) 6 (mk [(0, .dat AG x27 []),(4, .dat AG x28 [⟨0,257,0,1⟩]),(5, .dat AG x29 [⟨0,321,0,1⟩]),(9, .dat Ac x30 []),(10, .dat Ac x31 [])] []) (Zgl m0 m1 m2)
theorem Zhl (m0 m1 m2:Nat):∀ n,mL m0 m1 m2 n=Ak.l6 (Uk m0 m1 m2) n:=BL (S:=Ak.S6 (Uk m0 m1 m2)) fun n=>by kernel_rfl
theorem Zil (m0 m1:Nat):∀ n,Uk m0 m1 n=Ak.l5 n:=ind rfl fun n e5=>(show _=Ak.S5 (mL m0 m1 n n) from by kernel_rfl).trans (by rw [Zhl m0 m1 n n,e5];rfl)
def bz:=rgN 3 Tm
def Zq (m0 n:Nat):Ak.A4:=fun x20 x21 x22=>ej Gw n (.tail bz) 0 (mk [(0, .dat AG x20 []),(4, .dat AG x21 [⟨0,257,0,1⟩]),(5, .dat AG x22 [⟨0,321,0,1⟩])] []) XL
theorem Zjl (m0:Nat):∀ n,Zq m0 n=Ak.t4 n:=ind rfl fun n _=>(show _=Ak.S4 (Uk m0 n n) from by kernel_rfl).trans (by rw [Zil m0 n n];rfl)
def Zkl (m0:Nat):=sqK Gw m0 bz 0 XL
def hX (m0:Nat):=AH 0 (Zkl m0)
def Lq:=lfN 2 (rgt (lft (rgN 2 Tm)))
def QA (m0 n:Nat):Ak.A0:=fun x1 x2 x3 x4=>ej Gw n (.loop Lq) 0 (mk [(0, .dat AG x1 []),(4, .dat AG x2 [⟨0,257,0,1⟩]),(5, .dat AG x3 [⟨0,321,0,1⟩]),(6, .dat Ac x4 [])] []) (hX m0)
def yb (m0 m1:Nat):=lpK Gw m1 Lq 0 (hX m0)
def yc:=rgN 2 Lq
def yd (m0 m1:Nat):=sqK Gw m1 yc 0 (yb m0 m1)
def Tn (m0 m1:Nat):=AH 1 (yd m0 m1)
def ye:=rgN 3 (lfN 2 (rgt Lq))
def mM (m0 m1 n:Nat):Ak.A3:=fun x15 x16 x17 x18 x19=>ej Gw n (.tail ye) 1 (mk [(0, .dat AG x15 []),(4, .dat AG x16 [⟨0,257,0,1⟩]),(5, .dat AG x17 [⟨0,321,0,1⟩]),(6, .dat Ac x18 []),(7, .dat Ac x19 [])] []) (Tn m0 m1)
theorem Zll (m0 m1 m2:Nat):∀ n,mM m0 m1 n=Ak.t3 (QA m0 m1) n:=ind rfl fun n _=>by kernel_rfl
def XM:=rgN 2 (lfN 2 (rgt Lq))
def Zr (m0 m1 n:Nat):Ak.A2:=fun x10 x11 x12 x13 x14=>ej Gw n (.tail XM) 1 (mk [(0, .dat AG x10 []),(4, .dat AG x11 [⟨0,257,0,1⟩]),(5, .dat AG x12 [⟨0,321,0,1⟩]),(6, .dat Ac x13 []),(7, .dat Ac x14 [])] []) (Tn m0 m1)
theorem Zml (m0 m1:Nat):∀ n,Zr m0 m1 n=Ak.t2 (QA m0 m1) n:=ind rfl fun n _=>(show _=Ak.S2 (QA m0 m1) (mM m0 m1 n) from by kernel_rfl).trans (by rw [Zll m0 m1 n n];rfl)
def yf (m0 m1:Nat):=sqK Gw m1 XM 1 (Tn m0 m1)
def yg (m0 m1:Nat):=AH 2 (yf m0 m1)
def sx:=lfN 3 (rgt (lfN 2 (rgt Lq)))
def mN (m0 m1 n:Nat):Ak.A1:=fun x5 x6 x7 x8 x9=>ej Gw n (.loop sx) 2 (mk [(0, .dat AG x5 []),(4, .dat AG x6 [⟨0,257,0,1⟩]),(5, .dat AG x7 [⟨0,321,0,1⟩]),(6, .dat Ac x8 []),(7, .dat Ac x9 [])] []) (yg m0 m1)
theorem Znl (m0 m1:Nat):∀ n,mN m0 m1 n=Ak.l1 (Zr m0 m1 m1) n:=BL (S:=Ak.S1 (Zr m0 m1 m1)) fun n=>by kernel_rfl
theorem Zol (m0:Nat):∀ n,QA m0 n=Ak.l0 (Zq m0 m0) n:=ind rfl fun n e0=>(show _=Ak.S0 (Zq m0 m0) (mN m0 n n) from by kernel_rfl).trans (by rw [Znl m0 n n,Zml m0 n n,e0];rfl)
abbrev mO:=AM.spec [.val AG] [(AG,[⟨0,1,0,1⟩]),(AG,[⟨0,1,0,1⟩])] fun x=>Ak x.1
theorem Zg9:Ah Tryz.prog 181 mO:=Ca Az (fn:=Tryz.f181) (fun m x=>show run Gw Tm m x XL=Ak.S (QA m m) x.1 from by kernel_rfl) (fun x=>by rw [Zol fu fu,Zjl fu fu];rfl) (Ag trivial)
abbrev Zs:=AM.spec [.val AG] [(.str,[])] fun x=>JB x.1
theorem yh:Ah Tryz.prog 182 Zs:=Ci Az (fn:=Tryz.f182) (lk:=(AM.look [(126,Qz),(71,Th)])) (ks:=⟨[],[],[],⟨tt [2],[]⟩,[],[71,126],[],[]⟩) (ts:=[.tmp 2]) (fun _=>by kernel_rfl) (Ag ⟨⟨XA,Tryz.call126,fun _=>Af rfl⟩,⟨⟨de,Tryz.call71,fun _=>Af rfl⟩,trivial⟩⟩)
abbrev To:=tab.env (AM.look [(181,mO),(135,Ou),(182,Zs)]) ⟨[(0,⟨tt [4,5,6,7],[]⟩)],[],[(11,⟨tt [5,6],[]⟩)],⟨tt [2,3],[]⟩,[],[135,182],[],[]⟩
def hZ:=bd Tryz.f132
abbrev ia:=fin To [.tmp 2, .tmp 3] [] [(.str,[]),(Ac,[])]
def bA:=rgN 6 hZ
def Zt (m0 n:Nat):Ba.A1:=fun x8 x9=>ej To n (.tail bA) 0 (mk [(5, .dat AG x8 [⟨0,321,0,1⟩]),(6, .dat .str x9 [])] []) ia
theorem Zpl (m0:Nat):∀ n,Zt m0 n=Ba.t1 n:=ind rfl fun n _=>by kernel_rfl
def Zql (m0:Nat):=sqK To m0 bA 0 ia
def Zrl (m0:Nat):=AH 0 (Zql m0)
def yi:=lfN 2 (rgt (lft (rgN 5 hZ)))
def mP (m0 n:Nat):Ba.A0:=fun x3 x4 x5 x6=>ej To n (.loop yi) 0 (mk [(4, .dat AG x3 [⟨0,257,0,1⟩]),(5, .dat AG x4 [⟨0,321,0,1⟩]),(6, .dat .str x5 []),(7, .dat Ac x6 [])] []) (Zrl m0)
theorem Zsl (m0:Nat):∀ n,mP m0 n=Ba.l0 (Zt m0 m0) n:=BL (S:=Ba.S0 (Zt m0 m0)) fun n=>by kernel_rfl
abbrev mQ:=AM.spec [.val AG] [(.str,[]),(Ac,[])] fun x=>Ba x.1
theorem Zh9:Ah Tryz.prog 132 mQ:=Ca Az (fn:=Tryz.f132) (fun m x=>show run To hZ m x ia=Ba.S (mP m m) x.1 from by kernel_rfl) (fun x=>by rw [Zsl fu fu,Zpl fu fu];rfl) (Ag ⟨⟨Zg9,Tryz.call181,nw⟩,⟨⟨Tk,Tryz.call135,fun _=>Af rfl⟩,⟨⟨yh,Tryz.call182,fun _=>Af rfl⟩,trivial⟩⟩⟩)
abbrev yj:=AM.spec [.val AG, .val Ac] [(.str,[]),(.bool,[])] fun x=>KK x.1 x.2.1
theorem Zsf1:Ah Tryz.prog 72 yj:=Ci Az (fn:=Tryz.f72) (lk:=(AM.look [(128,mo),(130,Zm),(129,Zo),(131,mK),(132,mQ),(126,Qz),(71,Th)])) (ks:=⟨[],[],[],⟨tt [4,5],[]⟩,[],[71,126,128,129,131,132],[],[]⟩) (ts:=[.tmp 4, .tmp 5]) (fun _=>by kernel_rfl) (Ag ⟨⟨Zz8,Tryz.call128,fun _=>Af rfl⟩,⟨⟨xv,Tryz.call130,nw⟩,⟨⟨xP,Tryz.call129,fun _=>Af rfl⟩,⟨⟨Zf9,Tryz.call131,fun _=>Af rfl⟩,⟨⟨Zh9,Tryz.call132,fun _=>Af rfl⟩,⟨⟨XA,Tryz.call126,fun _=>Af rfl⟩,⟨⟨de,Tryz.call71,fun _=>Af rfl⟩,trivial⟩⟩⟩⟩⟩⟩⟩)
abbrev dh:=tab.env (AM.look []) (kq [(0,⟨tt [0,3,4],[]⟩)] [] [2])
def sy:=bd Tryz.f75
abbrev Zxv:=fin dh [.tmp 2] [] [(Dg,[⟨0,1,0,1⟩])]
def Ztl:=rgN 3 sy
def Zk2 (m0:Nat):=sqK dh m0 Ztl 0 Zxv
def Zl2 (m0:Nat):=AH 0 (Zk2 m0)
def Zul:=lfN 2 (rgt (lft (rgN 2 sy)))
def yk (m0 n:Nat):CJ.A0:=fun x1 x2 x3=>ej dh n (.loop Zul) 0 (mk [(0, .dat Dd x1 []),(3, .dat Dg x2 [⟨0,193,0,1⟩]),(4, .dat Ac x3 [])] []) (Zl2 m0)
theorem Zm2 (m0:Nat):∀ n,yk m0 n=CJ.l0 n:=BL (S:=CJ.S0) fun n=>by kernel_rfl
abbrev yl:=AM.spec [.val Dd] [(Dg,[⟨0,1,0,1⟩])] fun x=>CJ x.1
theorem Ztf1:Ah Tryz.prog 75 yl:=Ca Az (fn:=Tryz.f75) (fun m x=>show run dh sy m x Zxv=CJ.S (yk m m) x.1 from by kernel_rfl) (fun x=>by rw [Zm2 fu fu];rfl) (Ag trivial)
abbrev XN:=tab.env (AM.look []) (kq [(0,⟨tt [0,4,5],[]⟩)] [] [2,3])
def ib:=bd Tryz.f133
abbrev yn:=fin XN [.tmp 2, .tmp 3] [] [(.str,[]),(Ac,[])]
def yo:=rgN 3 ib
def Zvl (m0:Nat):=sqK XN m0 yo 0 yn
def Zwl (m0:Nat):=AH 0 (Zvl m0)
def yp:=lfN 2 (rgt (lft (rgN 2 ib)))
def mR (m0 n:Nat):BR.A0:=fun x1 x2 x3=>ej XN n (.loop yp) 0 (mk [(0, .dat Dg x1 []),(4, .dat (.sl (.int .u8)) x2 [⟨0,257,0,0⟩]),(5, .dat Ac x3 [])] []) (Zwl m0)
theorem Zxl (m0:Nat):∀ n,mR m0 n=BR.l0 n:=BL (S:=BR.S0) fun n=>by kernel_rfl
abbrev Zu:=AM.spec [.val Dg] [(.str,[]),(Ac,[])] fun x=>BR x.1
theorem yq:Ah Tryz.prog 133 Zu:=Ca Az (fn:=Tryz.f133) (fun m x=>show run XN ib m x yn=BR.S (mR m m) x.1 from by kernel_rfl) (fun x=>by rw [Zxl fu fu];rfl) (Ag trivial)
abbrev Gx:=tab.env (AM.look []) (kq [(0,⟨tt [0,4,5,6],[]⟩),(2,⟨tt [0,4,5,6,7],[]⟩),(4,⟨tt [0,4,5,9],[]⟩),(6,⟨tt [0,4,5,9,10],[]⟩)] [(9,⟨tt [0,4,5,6,7],[]⟩),(10,⟨tt [0,4,5,6,7],[]⟩),(14,⟨tt [0,4,5],[]⟩)] [2,3])
def Tp:=bd Tryz.f134
abbrev XO:=fin Gx [.tmp 2, .tmp 3] [] [(Dg,[⟨0,1,0,1⟩]),(AG,[⟨0,1,0,1⟩])]
def yr:=rgN 5 Tp
def Zyl (m0 m1:Nat):=sqK Gx m1 yr 0 XO
def ic (m0 m1:Nat):=AH 4 (Zyl m0 m1)
def Nu:=lfN 2 (rgt (lft (rgN 4 Tp)))
def Ul (m0 m1 n:Nat):Aj.A5:=fun x23 x24 x25 x26=>ej Gx n (.loop Nu) 4 (mk [(0, .dat Dg x23 []),(4, .dat Dg x24 [⟨0,257,0,1⟩]),(5, .dat AG x25 [⟨0,321,0,1⟩]),(9, .dat Ac x26 [])] []) (ic m0 m1)
def Zzl (m0 m1 m2:Nat):=lpK Gx m2 Nu 4 (ic m0 m1)
def yt:=rgN 2 Nu
def Zam (m0 m1 m2:Nat):=sqK Gx m2 yt 4 (Zzl m0 m1 m2)
def Zbm (m0 m1 m2:Nat):=AH 5 (Zam m0 m1 m2)
def yu:=rgN 2 (lfN 2 (rgt Nu))
def Zcm (m0 m1 m2:Nat):=sqK Gx m2 yu 5 (Zbm m0 m1 m2)
def Zdm (m0 m1 m2:Nat):=AH 6 (Zcm m0 m1 m2)
def yv:=lfN 3 (rgt (lfN 2 (rgt Nu)))
def mS (m0 m1 m2 n:Nat):Aj.A6:=fun x27 x28 x29 x30 x31=>ej Gx n (.loop yv) 6 (mk [(0, .dat Dg x27 []),(4, .dat Dg x28 [⟨0,257,0,1⟩]),(5, .dat AG x29 [⟨0,321,0,1⟩]),(9, .dat Ac x30 []),(10, .dat Ac x31 [])] []) (Zdm m0 m1 m2)
theorem Zem (m0 m1 m2:Nat):∀ n,mS m0 m1 m2 n=Aj.l6 (Ul m0 m1 m2) n:=BL (S:=Aj.S6 (Ul m0 m1 m2)) fun n=>by kernel_rfl
theorem Zfm (m0 m1:Nat):∀ n,Ul m0 m1 n=Aj.l5 n:=ind rfl fun n e5=>(show _=Aj.S5 (mS m0 m1 n n) from by kernel_rfl).trans (by rw [Zem m0 m1 n n,e5];rfl)
def bB:=rgN 4 Tp
def Zv (m0 n:Nat):Aj.A4:=fun x20 x21 x22=>ej Gx n (.tail bB) 0 (mk [(0, .dat Dg x20 []),(4, .dat Dg x21 [⟨0,257,0,1⟩]),(5, .dat AG x22 [⟨0,321,0,1⟩])] []) XO
theorem Zgm (m0:Nat):∀ n,Zv m0 n=Aj.t4 n:=ind rfl fun n _=>(show _=Aj.S4 (Ul m0 n n) from by kernel_rfl).trans (by rw [Zfm m0 n n];rfl)
def Zhm (m0:Nat):=sqK Gx m0 bB 0 XO
def ig (m0:Nat):=AH 0 (Zhm m0)
def Lr:=lfN 2 (rgt (lft (rgN 3 Tp)))
def QB (m0 n:Nat):Aj.A0:=fun x1 x2 x3 x4=>ej Gx n (.loop Lr) 0 (mk [(0, .dat Dg x1 []),(4, .dat Dg x2 [⟨0,257,0,1⟩]),(5, .dat AG x3 [⟨0,321,0,1⟩]),(6, .dat Ac x4 [])] []) (ig m0)
def yw (m0 m1:Nat):=lpK Gx m1 Lr 0 (ig m0)
def yx:=rgN 2 Lr
def yy (m0 m1:Nat):=sqK Gx m1 yx 0 (yw m0 m1)
def Tq (m0 m1:Nat):=AH 1 (yy m0 m1)
def yz:=rgN 3 (lfN 2 (rgt Lr))
def mT (m0 m1 n:Nat):Aj.A3:=fun x15 x16 x17 x18 x19=>ej Gx n (.tail yz) 1 (mk [(0, .dat Dg x15 []),(4, .dat Dg x16 [⟨0,257,0,1⟩]),(5, .dat AG x17 [⟨0,321,0,1⟩]),(6, .dat Ac x18 []),(7, .dat Ac x19 [])] []) (Tq m0 m1)
theorem Zim (m0 m1 m2:Nat):∀ n,mT m0 m1 n=Aj.t3 (QB m0 m1) n:=ind rfl fun n _=>by kernel_rfl
def XP:=rgN 2 (lfN 2 (rgt Lr))
def Zw (m0 m1 n:Nat):Aj.A2:=fun x10 x11 x12 x13 x14=>ej Gx n (.tail XP) 1 (mk [(0, .dat Dg x10 []),(4, .dat Dg x11 [⟨0,257,0,1⟩]),(5, .dat AG x12 [⟨0,321,0,1⟩]),(6, .dat Ac x13 []),(7, .dat Ac x14 [])] []) (Tq m0 m1)
theorem Zjm (m0 m1:Nat):∀ n,Zw m0 m1 n=Aj.t2 (QB m0 m1) n:=ind rfl fun n _=>(show _=Aj.S2 (QB m0 m1) (mT m0 m1 n) from by kernel_rfl).trans (by rw [Zim m0 m1 n n];rfl)
def yA (m0 m1:Nat):=sqK Gx m1 XP 1 (Tq m0 m1)
def yB (m0 m1:Nat):=AH 2 (yA m0 m1)
def sA:=lfN 3 (rgt (lfN 2 (rgt Lr)))
def mU (m0 m1 n:Nat):Aj.A1:=fun x5 x6 x7 x8 x9=>ej Gx n (.loop sA) 2 (mk [(0, .dat Dg x5 []),(4, .dat Dg x6 [⟨0,257,0,1⟩]),(5, .dat AG x7 [⟨0,321,0,1⟩]),(6, .dat Ac x8 []),(7, .dat Ac x9 [])] []) (yB m0 m1)
theorem Zkm (m0 m1:Nat):∀ n,mU m0 m1 n=Aj.l1 (Zw m0 m1 m1) n:=BL (S:=Aj.S1 (Zw m0 m1 m1)) fun n=>by kernel_rfl
theorem Zlm (m0:Nat):∀ n,QB m0 n=Aj.l0 (Zv m0 m0) n:=ind rfl fun n e0=>(show _=Aj.S0 (Zv m0 m0) (mU m0 n n) from by kernel_rfl).trans (by rw [Zkm m0 n n,Zjm m0 n n,e0];rfl)
abbrev Zx:=AM.spec [.val Dg] [(Dg,[⟨0,1,0,1⟩]),(AG,[⟨0,1,0,1⟩])] fun x=>Aj x.1
theorem yC:Ah Tryz.prog 134 Zx:=Ca Az (fn:=Tryz.f134) (fun m x=>show run Gx Tp m x XO=Aj.S (QB m m) x.1 from by kernel_rfl) (fun x=>by rw [Zlm fu fu,Zgm fu fu];rfl) (Ag trivial)
abbrev mV:=AM.spec [.val Dg] [(.str,[]),(Ac,[])] fun x=>JT x.1
theorem Zi9:Ah Tryz.prog 136 mV:=Ci Az (fn:=Tryz.f136) (lk:=(AM.look [(134,Zx),(133,Zu),(135,Ou),(182,Zs)])) (ks:=⟨[],[],[],⟨tt [2,3],[]⟩,[],[133,135,182],[],[]⟩) (ts:=[.tmp 2, .tmp 3]) (fun _=>by kernel_rfl) (Ag ⟨⟨yC,Tryz.call134,nw⟩,⟨⟨yq,Tryz.call133,fun _=>Af rfl⟩,⟨⟨Tk,Tryz.call135,fun _=>Af rfl⟩,⟨⟨yh,Tryz.call182,fun _=>Af rfl⟩,trivial⟩⟩⟩⟩)
abbrev yD:=AM.spec [.val Dg, .val Ac] [(.str,[]),(.bool,[])] fun x=>MI x.1 x.2.1
theorem Zuf1:Ah Tryz.prog 74 yD:=Ci Az (fn:=Tryz.f74) (lk:=(AM.look [(133,Zu),(134,Zx),(130,Zm),(129,Zo),(135,Ou),(136,mV)])) (ks:=⟨[],[],[],⟨tt [4,5],[]⟩,[],[129,133,135,136],[],[]⟩) (ts:=[.tmp 4, .tmp 5]) (fun _=>by kernel_rfl) (Ag ⟨⟨yq,Tryz.call133,fun _=>Af rfl⟩,⟨⟨yC,Tryz.call134,nw⟩,⟨⟨xv,Tryz.call130,nw⟩,⟨⟨xP,Tryz.call129,fun _=>Af rfl⟩,⟨⟨Tk,Tryz.call135,fun _=>Af rfl⟩,⟨⟨Zi9,Tryz.call136,fun _=>Af rfl⟩,trivial⟩⟩⟩⟩⟩⟩)
abbrev yE:=AM.spec [.val Dd, .val Ac, .val Ac] [(.str,[]),(.bool,[])] fun x=>Lv x.1 x.2.1 x.2.2.1
theorem Zvf1:Ah Tryz.prog 33 yE:=Ci Az (fn:=Tryz.f33) (lk:=(AM.look [(73,xl),(72,yj),(75,yl),(74,yD)])) (ks:=⟨[],[],[],⟨tt [6,7],[]⟩,[],[72,74],[],[]⟩) (ts:=[.tmp 6, .tmp 7]) (fun _=>by kernel_rfl) (Ag ⟨⟨Zrf1,Tryz.call73,nw⟩,⟨⟨Zsf1,Tryz.call72,fun _=>Af rfl⟩,⟨⟨Ztf1,Tryz.call75,nw⟩,⟨⟨Zuf1,Tryz.call74,fun _=>Af rfl⟩,trivial⟩⟩⟩⟩)
abbrev OT:=tab.env (AM.look []) (kq [(0,⟨tt [1,5,6],[]⟩),(2,⟨tt [1,5,6,7],[]⟩)] [] [4])
def ij:=bd Tryz.f137
abbrev yF:=fin OT [.tmp 4] [] [(Ac,[])]
def yG:=rgN 3 ij
def Zmm (m0:Nat):=sqK OT m0 yG 0 yF
def ik (m0:Nat):=AH 0 (Zmm m0)
def PH:=lfN 2 (rgt (lft (rgN 2 ij)))
def Um (m0 n:Nat):Bn.A0:=fun x1 x2 x3=>ej OT n (.loop PH) 0 (mk [(1, .dat .str x1 []),(5, .dat Ac x2 []),(6, .dat Ac x3 [])] []) (ik m0)
def Znm (m0 m1:Nat):=lpK OT m1 PH 0 (ik m0)
def yH:=rgN 2 PH
def Zom (m0 m1:Nat):=sqK OT m1 yH 0 (Znm m0 m1)
def Zpm (m0 m1:Nat):=AH 1 (Zom m0 m1)
def Zqm (m0 m1:Nat):=AH 2 (Zpm m0 m1)
def yI:=lfN 2 (rgt (lfN 2 (rgt PH)))
def mW (m0 m1 n:Nat):Bn.A1:=fun x4 x5 x6 x7=>ej OT n (.loop yI) 2 (mk [(1, .dat .str x4 []),(5, .dat Ac x5 []),(6, .dat Ac x6 []),(7, .dat Ac x7 [])] []) (Zqm m0 m1)
theorem Zrm (m0 m1:Nat):∀ n,mW m0 m1 n=Bn.l1 (Um m0 m1) n:=BL (S:=Bn.S1 (Um m0 m1)) fun n=>by kernel_rfl
theorem Zsm (m0:Nat):∀ n,Um m0 n=Bn.l0 n:=ind rfl fun n e0=>(show _=Bn.S0 (mW m0 n n) from by kernel_rfl).trans (by rw [Zrm m0 n n,e0];rfl)
abbrev mX:=AM.spec [.val Ac, .val .str] [(Ac,[])] fun x=>Bn x.1 x.2.1
theorem Zj9:Ah Tryz.prog 137 mX:=Ca Az (fn:=Tryz.f137) (fun m x=>show run OT ij m x yF=Bn.S (Um m m) x.1 x.2.1 from by kernel_rfl) (fun x=>by rw [Zsm fu fu];rfl) (Ag trivial)
abbrev yJ:=AM.spec [.val .str] [(Ac,[])] fun x=>Pf x.1
theorem Zwf1:Ah Tryz.prog 76 yJ:=Ci Az (fn:=Tryz.f76) (lk:=(AM.look [(137,mX)])) (ks:=⟨[],[],[],⟨tt [2],[]⟩,[],[137],[],[]⟩) (ts:=[.tmp 2]) (fun _=>by kernel_rfl) (Ag ⟨⟨Zj9,Tryz.call137,fun _=>Af rfl⟩,trivial⟩)
abbrev yK:=AM.spec [.val .str] [(.str,[])] fun x=>Lw x.1
theorem Zxf1:Ah Tryz.prog 34 yK:=Ci Az (fn:=Tryz.f34) (lk:=(AM.look [(76,yJ)])) (ks:=⟨[],[],[],⟨tt [2],[]⟩,[],[76],[],[]⟩) (ts:=[.tmp 2]) (fun _=>by kernel_rfl) (Ag ⟨⟨Zwf1,Tryz.call76,fun _=>Af rfl⟩,trivial⟩)
abbrev il:=AM.spec [.val Dd, .val Ac, .val Ac] [(.str,[]),(Ac,[])] fun x=>Ga x.1 x.2.1 x.2.2.1
theorem Zyv:Ah Tryz.prog 10 il:=Ci Az (fn:=Tryz.f10) (lk:=(AM.look [(31,wU),(32,xg),(33,yE),(34,yK)])) (ks:=⟨[],[],[],⟨tt [6,7],[]⟩,[],[31,33,34],[],[]⟩) (ts:=[.tmp 6, .tmp 7]) (fun _=>by kernel_rfl) (Ag ⟨⟨Zpf1,Tryz.call31,fun _=>Af rfl⟩,⟨⟨Zqf1,Tryz.call32,nw⟩,⟨⟨Zvf1,Tryz.call33,fun _=>Af rfl⟩,⟨⟨Zxf1,Tryz.call34,fun _=>Af rfl⟩,trivial⟩⟩⟩⟩)
abbrev OU:=tab.env (AM.look []) (kq [(0,⟨tt [1,5,11,12],[]⟩),(2,⟨tt [1,5,11,12,21],[]⟩)] [] [4])
def im:=bd Tryz.f249
abbrev yL:=fin OU [.tmp 4] [] [(Ac,[])]
def yM:=rgN 3 im
def Ztm (m0:Nat):=sqK OU m0 yM 0 yL
def iq (m0:Nat):=AH 0 (Ztm m0)
def PI:=lfN 2 (rgt (lft (rgN 2 im)))
def Un (m0 n:Nat):Bo.A0:=fun x1 x2 x3 x4=>ej OU n (.loop PI) 0 (mk [(1, .dat .str x1 []),(5, .dat (.int .u32) x2 []),(11, .dat Ac x3 []),(12, .dat Ac x4 [])] []) (iq m0)
def Zum (m0 m1:Nat):=lpK OU m1 PI 0 (iq m0)
def yN:=rgN 3 PI
def Zvm (m0 m1:Nat):=sqK OU m1 yN 0 (Zum m0 m1)
def Zwm (m0 m1:Nat):=AH 1 (Zvm m0 m1)
def Zxm (m0 m1:Nat):=AH 2 (Zwm m0 m1)
def yO:=lfN 2 (rgN 3 (lfN 2 (rgN 2 PI)))
def mY (m0 m1 n:Nat):Bo.A1:=fun x5 x6 x7 x8 x9=>ej OU n (.loop yO) 2 (mk [(1, .dat .str x5 []),(5, .dat (.int .u32) x6 []),(11, .dat Ac x7 []),(12, .dat Ac x8 []),(21, .dat Ac x9 [])] []) (Zxm m0 m1)
theorem Zym (m0 m1:Nat):∀ n,mY m0 m1 n=Bo.l1 (Un m0 m1) n:=BL (S:=Bo.S1 (Un m0 m1)) fun n=>by kernel_rfl
theorem Zzm (m0:Nat):∀ n,Un m0 n=Bo.l0 n:=ind rfl fun n e0=>(show _=Bo.S0 (mY m0 n n) from by kernel_rfl).trans (by rw [Zym m0 n n,e0];rfl)
abbrev mZ:=AM.spec [.val Ac, .val .str] [(Ac,[])] fun x=>Bo x.1 x.2.1
theorem Zk9:Ah Tryz.prog 249 mZ:=Ca Az (fn:=Tryz.f249) (fun m x=>show run OU im m x yL=Bo.S (Un m m) x.1 x.2.1 from by kernel_rfl) (fun x=>by rw [Zzm fu fu];rfl) (Ag trivial)
abbrev na:=AM.spec [.val .str] [(Ac,[])] fun x=>Pg x.1
theorem Zl9:Ah Tryz.prog 221 na:=Ci Az (fn:=Tryz.f221) (lk:=(AM.look [(249,mZ)])) (ks:=⟨[],[],[],⟨tt [2],[]⟩,[],[249],[],[]⟩) (ts:=[.tmp 2]) (fun _=>by kernel_rfl) (Ag ⟨⟨Zk9,Tryz.call249,fun _=>Af rfl⟩,trivial⟩)
abbrev XQ:=tab.env (AM.look [(221,na)]) ⟨[(0,⟨tt [3,4,16],[]⟩)],[],[],⟨tt [2],[]⟩,[],[221],[],[]⟩
def ir:=bd Tryz.f187
abbrev yP:=fin XQ [.tmp 2] [] [(.str,[])]
def yQ:=rgN 5 ir
def Zan (m0:Nat):=sqK XQ m0 yQ 0 yP
def Zbn (m0:Nat):=AH 0 (Zan m0)
def yR:=lfN 2 (rgt (lft (rgN 4 ir)))
def nc (m0 n:Nat):Cj.A0:=fun x2 x3 x4=>ej XQ n (.loop yR) 0 (mk [(3, .dat (.int .u32) x2 []),(4, .dat (.sl (.int .u8)) x3 [⟨0,257,0,0⟩]),(16, .dat Ac x4 [])] []) (Zbn m0)
theorem Zcn (m0:Nat):∀ n,nc m0 n=Cj.l0 n:=BL (S:=Cj.S0) fun n=>by kernel_rfl
abbrev Zy:=AM.spec [.val .str] [(.str,[])] fun x=>Cj x.1
theorem yS:Ah Tryz.prog 187 Zy:=Ca Az (fn:=Tryz.f187) (fun m x=>show run XQ ir m x yP=Cj.S (nc m m) x.1 from by kernel_rfl) (fun x=>by rw [Zcn fu fu];rfl) (Ag ⟨⟨Zl9,Tryz.call221,fun _=>Af rfl⟩,trivial⟩)
abbrev nd:=AM.spec [.val .str] [(.str,[]),(Ac,[])] fun x=>NU x.1
theorem Zm9:Ah Tryz.prog 139 nd:=Ci Az (fn:=Tryz.f139) (lk:=(AM.look [(187,Zy)])) (ks:=⟨[],[],[],⟨tt [2,3],[]⟩,[],[187],[],[]⟩) (ts:=[.tmp 2, .tmp 3]) (fun _=>by kernel_rfl) (Ag ⟨⟨yS,Tryz.call187,fun _=>Af rfl⟩,trivial⟩)
abbrev Zz:=AM.spec [.val Ac, .val Ac] [(Ac,[])] fun x=>some (GI x.1 x.2.1)
theorem yT:Ah Tryz.prog 241 Zz:=Ci Az (fn:=Tryz.f241) (lk:=(AM.look [])) (ks:=(kz [4])) (ts:=[.tmp 4]) (fun x=>(show _=GI.o x.1 x.2.1 from by kernel_rfl).trans (by unfold GI.o GI;simp only [Gv])) (Ag trivial)
abbrev QC:=AM.spec [.val Ac] [(Ac,[])] fun x=>Hz x.1
theorem XR:Ah Tryz.prog 186 QC:=Ci Az (fn:=Tryz.f186) (lk:=(AM.look [])) (ks:=(kz [2])) (ts:=[.tmp 2]) (fun _=>by kernel_rfl) (Ag trivial)
abbrev XS:=tab.env (AM.look [(186,QC)]) ⟨[(0,⟨tt [0,2,7,8,9],[]⟩)],[],[],⟨tt [6],[]⟩,[],[186],[],[]⟩
def iu:=bd Tryz.f242
abbrev yU:=fin XS [.tmp 6] [] [(Ac,[])]
def yV:=rgN 4 iu
def Zdn (m0:Nat):=sqK XS m0 yV 0 yU
def Zen (m0:Nat):=AH 0 (Zdn m0)
def yW:=lfN 3 (rgN 3 iu)
def nf (m0 n:Nat):Dt.A0:=fun x1 x2 x3 x4 x5=>ej XS n (.loop yW) 0 (mk [(0, .dat .str x1 []),(2, .dat Ac x2 []),(7, .dat (.int .u64) x3 []),(8, .dat Ac x4 []),(9, .dat Ac x5 [])] []) (Zen m0)
theorem Zfn (m0:Nat):∀ n,nf m0 n=Dt.l0 n:=BL (S:=Dt.S0) fun n=>by kernel_rfl
abbrev ng:=AM.spec [.val .str, .val Ac, .val Ac] [(Ac,[])] fun x=>Dt x.1 x.2.1 x.2.2.1
theorem Zn9:Ah Tryz.prog 242 ng:=Ca Az (fn:=Tryz.f242) (fun m x=>show run XS iu m x yU=Dt.S (nf m m) x.1 x.2.1 x.2.2.1 from by kernel_rfl) (fun x=>by rw [Zfn fu fu];rfl) (Ag ⟨⟨XR,Tryz.call186,fun _=>Af rfl⟩,trivial⟩)
abbrev Tr:=tab.env (AM.look [(241,Zz),(242,ng)]) ⟨[(0,⟨tt [0,2,9,49,50],tt [48]⟩)],[],[(8,⟨tt [0,1,2],[]⟩)],⟨tt [6,7],tt [6,48]⟩,[6,9,48,53,61],[241,242],[],[]⟩
def XT:=bd Tryz.f201
abbrev iv:=fin Tr [.tmp 6, .tmp 7] [] [(AG,[]),(Ac,[])]
def yX:=rgN 6 XT
def Zgn (m0 m1:Nat):=sqK Tr m1 yX 0 iv
def Zhn (m0 m1:Nat):=AH 0 (Zgn m0 m1)
def yY:=lfN 2 (rgt (lft (rgN 5 XT)))
def nh (m0 m1 n:Nat):BC.A1:=fun x5 x6 x7 x8 x9=>ej Tr n (.loop yY) 0 (mk [(0, .dat .str x5 []),(2, .dat Ac x6 []),(9, .slw 48 0),(49, .dat Ac x7 []),(50, .dat Ac x8 [])] [(48,some (.arr Ac x9 false))]) (Zhn m0 m1)
theorem Zin (m0 m1:Nat):∀ n,nh m0 m1 n=BC.l1 n:=BL (S:=BC.S1) fun n=>by kernel_rfl
def yZ:=rgN 4 XT
def ni (m0 n:Nat):BC.A0:=fun x2 x3 x4=>ej Tr n (.tail yZ) 0 (mk [(0, .dat .str x2 []),(1, .dat Ac x3 []),(2, .dat Ac x4 [])] []) iv
theorem Zjn (m0:Nat):∀ n,ni m0 n=BC.t0 n:=ind rfl fun n _=>(show _=BC.S0 (nh m0 n n) from by kernel_rfl).trans (by rw [Zin m0 n n];rfl)
abbrev Ov:=AM.spec [.val .str, .val Ac, .val Ac] [(AG,[]),(Ac,[])] fun x=>BC x.1 x.2.1 x.2.2.1
theorem Tt:Ah Tryz.prog 201 Ov:=Ca Az (fn:=Tryz.f201) (fun m x=>show run Tr XT m x iv=BC.S (ni m m) x.1 x.2.1 x.2.2.1 from by kernel_rfl) (fun x=>by rw [Zjn fu fu];rfl) (Ag ⟨⟨yT,Tryz.call241,fun _=>Af rfl⟩,⟨⟨Zn9,Tryz.call242,fun _=>Af rfl⟩,trivial⟩⟩)
abbrev XU:=tab.env (AM.look []) (kq [(0,⟨tt [0,1,7,8],[]⟩)] [] [4])
def iw:=bd Tryz.f250
abbrev za:=fin XU [.tmp 4] [] [(Ac,[])]
def zb:=rgN 2 iw
def Zkn (m0:Nat):=sqK XU m0 zb 0 za
def Zln (m0:Nat):=AH 0 (Zkn m0)
def zc:=lfN 2 (rgt (lft (rgt iw)))
def nj (m0 n:Nat):Bl.A0:=fun x1 x2 x3 x4=>ej XU n (.loop zc) 0 (mk [(0, .dat AG x1 []),(1, .dat Ac x2 []),(7, .dat Ac x3 []),(8, .dat Ac x4 [])] []) (Zln m0)
theorem Zmn (m0:Nat):∀ n,nj m0 n=Bl.l0 n:=BL (S:=Bl.S0) fun n=>by kernel_rfl
abbrev nk:=AM.spec [.val AG, .val Ac] [(Ac,[])] fun x=>Bl x.1 x.2.1
theorem Zo9:Ah Tryz.prog 250 nk:=Ca Az (fn:=Tryz.f250) (fun m x=>show run XU iw m x za=Bl.S (nj m m) x.1 x.2.1 from by kernel_rfl) (fun x=>by rw [Zmn fu fu];rfl) (Ag trivial)
abbrev nn:=AM.spec [.val AG, .val Ac] [(.bool,[])] fun x=>Gf x.1 x.2.1
theorem Zp9:Ah Tryz.prog 222 nn:=Ci Az (fn:=Tryz.f222) (lk:=(AM.look [(250,nk)])) (ks:=⟨[],[],[],⟨tt [4],[]⟩,[],[250],[],[]⟩) (ts:=[.tmp 4]) (fun _=>by kernel_rfl) (Ag ⟨⟨Zo9,Tryz.call250,fun _=>Af rfl⟩,trivial⟩)
abbrev ZA:=AM.spec [.val .str, .val Ac] [(AG,[]),(Ac,[])] fun x=>Lx x.1 x.2.1
theorem zd:Ah Tryz.prog 188 ZA:=Ci Az (fn:=Tryz.f188) (lk:=(AM.look [(201,Ov),(222,nn)])) (ks:=⟨[],[],[],⟨tt [4,5],tt [17]⟩,[],[222],[],[]⟩) (ts:=[.tmp 4, .tmp 5]) (fun _=>by kernel_rfl) (Ag ⟨⟨Tt,Tryz.call201,nw⟩,⟨⟨Zp9,Tryz.call222,fun _=>Af rfl⟩,trivial⟩⟩)
abbrev XV:=tab.env (AM.look [(188,ZA)]) (kq [(0,⟨tt [7,8,17,18,19],[]⟩)] [] [4,5])
def ix:=bd Tryz.f140
abbrev ze:=fin XV [.tmp 4, .tmp 5] [] [(Ac,[]),(Ac,[])]
def zf:=rgN 4 ix
def Znn (m0:Nat):=sqK XV m0 zf 0 ze
def Zon (m0:Nat):=AH 0 (Znn m0)
def zg:=lfN 2 (rgt (lft (rgN 3 ix)))
def np (m0 n:Nat):Ck.A0:=fun x2 x3 x4 x5 x6=>ej XV n (.loop zg) 0 (mk [(7, .dat Ac x2 []),(8, .dat Ac x3 []),(17, .dat AG x4 []),(18, .dat Ac x5 []),(19, .dat Ac x6 [])] []) (Zon m0)
theorem Zpn (m0:Nat):∀ n,np m0 n=Ck.l0 n:=BL (S:=Ck.S0) fun n=>by kernel_rfl
abbrev ZB:=AM.spec [.val .str, .val Ac] [(Ac,[]),(Ac,[])] fun x=>Ck x.1 x.2.1
theorem zh:Ah Tryz.prog 140 ZB:=Ca Az (fn:=Tryz.f140) (fun m x=>show run XV ix m x ze=Ck.S (np m m) x.1 x.2.1 from by kernel_rfl) (fun x=>by rw [Zpn fu fu];rfl) (Ag ⟨⟨zd,Tryz.call188,nw⟩,trivial⟩)
abbrev Nv:=tab.env (AM.look []) ⟨[(0,⟨tt [0,6,27,28],tt [26]⟩),(2,⟨tt [0,6,7,8,27,28,31],tt [26]⟩)],[],[],⟨tt [4,5],tt [4,26]⟩,[4,6,26,47,53],[],[],[]⟩
def iy:=bd Tryz.f223
abbrev zi:=fin Nv [.tmp 4, .tmp 5] [] [(AG,[]),(Ac,[])]
def zj:=rgN 4 iy
def Zqn (m0:Nat):=sqK Nv m0 zj 0 zi
def iz (m0:Nat):=AH 0 (Zqn m0)
def Nw:=lfN 2 (rgt (lft (rgN 3 iy)))
def Uo (m0 n:Nat):AL.A0:=fun x1 x2 x3 x4=>ej Nv n (.loop Nw) 0 (mk [(0, .dat .str x1 []),(6, .slw 26 0),(27, .dat Ac x2 []),(28, .dat Ac x3 [])] [(26,some (.arr Ac x4 false))]) (iz m0)
def Zrn (m0 m1:Nat):=lpK Nv m1 Nw 0 (iz m0)
def zk:=rgN 3 Nw
def Zsn (m0 m1:Nat):=sqK Nv m1 zk 0 (Zrn m0 m1)
def Ztn (m0 m1:Nat):=AH 1 (Zsn m0 m1)
def zm:=rgN 3 (lfN 2 (rgN 2 Nw))
def Zun (m0 m1:Nat):=sqK Nv m1 zm 1 (Ztn m0 m1)
def Zvn (m0 m1:Nat):=AH 2 (Zun m0 m1)
def zn:=lfN 2 (rgt (lft (rgN 2 (lfN 2 (rgN 2 Nw)))))
def nr (m0 m1 n:Nat):AL.A1:=fun x5 x6 x7 x8 x9 x10 x11=>ej Nv n (.loop zn) 2 (mk [(0, .dat .str x5 []),(6, .slw 26 0),(7, .dat Ac x6 []),(8, .dat (.int .u64) x7 []),(27, .dat Ac x8 []),(28, .dat Ac x9 []),(31, .dat Ac x10 [])] [(26,some (.arr Ac x11 false))]) (Zvn m0 m1)
theorem Zwn (m0 m1:Nat):∀ n,nr m0 m1 n=AL.l1 (Uo m0 m1) n:=BL (S:=AL.S1 (Uo m0 m1)) fun n=>by kernel_rfl
theorem Zxn (m0:Nat):∀ n,Uo m0 n=AL.l0 n:=ind rfl fun n e0=>(show _=AL.S0 (nr m0 n n) from by kernel_rfl).trans (by rw [Zwn m0 n n,e0];rfl)
abbrev ns:=AM.spec [.val .str, .val Ac] [(AG,[]),(Ac,[])] fun x=>AL x.1 x.2.1
theorem Zq9:Ah Tryz.prog 223 ns:=Ca Az (fn:=Tryz.f223) (fun m x=>show run Nv iy m x zi=AL.S (Uo m m) x.1 x.2.1 from by kernel_rfl) (fun x=>by rw [Zxn fu fu];rfl) (Ag trivial)
abbrev nt:=AM.spec [.val Ac] [(Ac,[])] fun x=>some (CP x.1)
theorem Zr9:Ah Tryz.prog 198 nt:=Ci Az (fn:=Tryz.f198) (lk:=(AM.look [])) (ks:=(kz [2])) (ts:=[.tmp 2]) (fun _=>by kernel_rfl) (Ag trivial)
abbrev ZC:=AM.spec [.val Ac] [(Ac,[])] fun x=>some (Cv x.1)
theorem zo:Ah Tryz.prog 237 ZC:=Ci Az (fn:=Tryz.f237) (lk:=(AM.look [])) (ks:=(kz [2])) (ts:=[.tmp 2]) (fun _=>by kernel_rfl) (Ag trivial)
abbrev XW:=tab.env (AM.look []) (kq [(0,⟨tt [3,4,5],[]⟩)] [] [2])
def iA:=bd Tryz.f148
abbrev zp:=fin XW [.tmp 2] [] [(Ac,[])]
def zq:=rgN 3 iA
def Zyn (m0:Nat):=sqK XW m0 zq 0 zp
def Zzn (m0:Nat):=AH 0 (Zyn m0)
def zr:=lfN 2 (rgt (lft (rgN 2 iA)))
def nu (m0 n:Nat):Cq.A0:=fun x1 x2 x3=>ej XW n (.loop zr) 0 (mk [(3, .dat (.int .u64) x1 []),(4, .dat Ac x2 []),(5, .dat Ac x3 [])] []) (Zzn m0)
theorem Zao (m0:Nat):∀ n,nu m0 n=Cq.l0 n:=BL (S:=Cq.S0) fun n=>by kernel_rfl
abbrev Up:=AM.spec [.val Ac] [(Ac,[])] fun x=>Cq x.1
theorem iB:Ah Tryz.prog 148 Up:=Ca Az (fn:=Tryz.f148) (fun m x=>show run XW iA m x zp=Cq.S (nu m m) x.1 from by kernel_rfl) (fun x=>by rw [Zao fu fu];rfl) (Ag trivial)
abbrev nv:=AM.spec [.val Ac] [(Ac,[])] fun x=>OD x.1
theorem Zs9:Ah Tryz.prog 199 nv:=Ci Az (fn:=Tryz.f199) (lk:=(AM.look [(237,ZC),(148,Up)])) (ks:=⟨[],[],[],⟨tt [2],[]⟩,[],[148,237],[],[]⟩) (ts:=[.tmp 2]) (fun _=>by kernel_rfl) (Ag ⟨⟨zo,Tryz.call237,fun _=>Af rfl⟩,⟨⟨iB,Tryz.call148,fun _=>Af rfl⟩,trivial⟩⟩)
abbrev XX:=tab.env (AM.look [(198,nt),(199,nv)]) ⟨[(0,⟨tt [0,5,11,12],[]⟩)],[],[],⟨tt [2,3,4],[]⟩,[],[198,199],[],[]⟩
def iC:=bd Tryz.f150
abbrev zt:=fin XX [.tmp 2, .tmp 3, .tmp 4] [] [(Ac,[]),(Ac,[]),(Ac,[])]
def zu:=rgN 3 iC
def Zbo (m0:Nat):=sqK XX m0 zu 0 zt
def Zco (m0:Nat):=AH 0 (Zbo m0)
def zv:=lfN 2 (rgt (lft (rgN 2 iC)))
def ny (m0 n:Nat):CX.A0:=fun x1 x2 x3 x4=>ej XX n (.loop zv) 0 (mk [(0, .dat .str x1 []),(5, .dat (.int .u64) x2 []),(11, .dat Ac x3 []),(12, .dat Ac x4 [])] []) (Zco m0)
theorem Zdo (m0:Nat):∀ n,ny m0 n=CX.l0 n:=BL (S:=CX.S0) fun n=>by kernel_rfl
abbrev ME:=AM.spec [.val .str] [(Ac,[]),(Ac,[]),(Ac,[])] fun x=>CX x.1
theorem QD:Ah Tryz.prog 150 ME:=Ca Az (fn:=Tryz.f150) (fun m x=>show run XX iC m x zt=CX.S (ny m m) x.1 from by kernel_rfl) (fun x=>by rw [Zdo fu fu];rfl) (Ag ⟨⟨Zr9,Tryz.call198,fun _=>Af rfl⟩,⟨⟨Zs9,Tryz.call199,fun _=>Af rfl⟩,trivial⟩⟩)
abbrev XY:=tab.env (AM.look []) (kq [(0,⟨tt [0,4,7,8,9],[]⟩)] [] [2,3])
def iD:=bd Tryz.f151
abbrev zw:=fin XY [.tmp 2, .tmp 3] [] [(Ac,[]),(.bool,[])]
def zx:=rgN 3 iD
def Zeo (m0:Nat):=sqK XY m0 zx 0 zw
def Zfo (m0:Nat):=AH 0 (Zeo m0)
def zy:=lfN 2 (rgt (lft (rgN 2 iD)))
def nz (m0 n:Nat):CO.A0:=fun x1 x2 x3 x4 x5=>ej XY n (.loop zy) 0 (mk [(0, .dat IF x1 []),(4, .dat Ac x2 []),(7, .dat IF x3 []),(8, .dat Ac x4 []),(9, .dat Ac x5 [])] []) (Zfo m0)
theorem Zgo (m0:Nat):∀ n,nz m0 n=CO.l0 n:=BL (S:=CO.S0) fun n=>by kernel_rfl
abbrev Uq:=AM.spec [.val IF] [(Ac,[]),(.bool,[])] fun x=>CO x.1
theorem iE:Ah Tryz.prog 151 Uq:=Ca Az (fn:=Tryz.f151) (fun m x=>show run XY iD m x zw=CO.S (nz m m) x.1 from by kernel_rfl) (fun x=>by rw [Zgo fu fu];rfl) (Ag trivial)
abbrev XZ:=tab.env (AM.look [(150,ME),(151,Uq)]) ⟨[(0,⟨tt [0,1,6,7],[]⟩)],[],[(15,⟨tt [1,6,7],[]⟩)],⟨tt [4,5],[]⟩,[],[150,151],[],[]⟩
def sB:=bd Tryz.f89
abbrev sC:=fin XZ [.tmp 4, .tmp 5] [] [(IF,[⟨0,1,0,3⟩]),(Ac,[])]
def iF:=rgN 5 sB
def iG (m0 n:Nat):BI.A1:=fun x7 x8 x9=>ej XZ n (.tail iF) 0 (mk [(1, .dat Ac x7 []),(6, .dat IF x8 [⟨0,385,0,3⟩]),(7, .dat Ac x9 [])] []) sC
theorem Zn2 (m0:Nat):∀ n,iG m0 n=BI.t1 n:=ind rfl fun n _=>by kernel_rfl
def Zo2 (m0:Nat):=sqK XZ m0 iF 0 sC
def Zp2 (m0:Nat):=AH 0 (Zo2 m0)
def Zho:=lfN 3 (rgN 4 sB)
def zz (m0 n:Nat):BI.A0:=fun x1 x2 x3 x4=>ej XZ n (.loop Zho) 0 (mk [(0, .dat .str x1 []),(1, .dat Ac x2 []),(6, .dat IF x3 [⟨0,385,0,3⟩]),(7, .dat Ac x4 [])] []) (Zp2 m0)
theorem Zq2 (m0:Nat):∀ n,zz m0 n=BI.l0 (iG m0 m0) n:=BL (S:=BI.S0 (iG m0 m0)) fun n=>by kernel_rfl
abbrev Ya:=AM.spec [.val .str, .val Ac] [(IF,[⟨0,1,0,3⟩]),(Ac,[])] fun x=>BI x.1 x.2.1
theorem sD:Ah Tryz.prog 89 Ya:=Ca Az (fn:=Tryz.f89) (fun m x=>show run XZ sB m x sC=BI.S (zz m m) x.1 x.2.1 from by kernel_rfl) (fun x=>by rw [Zq2 fu fu,Zn2 fu fu];rfl) (Ag ⟨⟨QD,Tryz.call150,fun _=>Af rfl⟩,⟨⟨iE,Tryz.call151,fun _=>Af rfl⟩,trivial⟩⟩)
abbrev nA:=AM.spec [.val (.int .u64), .val (.int .u64)] [((.int .u64),[]),((.int .u64),[])] fun x=>some (Ly x.1 x.2.1)
theorem Zt9:Ah Tryz.prog 280 nA:=Ci Az (fn:=Tryz.f280) (lk:=(AM.look [])) (ks:=(kz [4,5])) (ts:=[.tmp 4, .tmp 5]) (fun _=>by kernel_rfl) (Ag trivial)
abbrev nB:=AM.spec [.val (.int .u64), .val (.int .u64)] [((.int .u64),[]),((.int .u64),[])] fun x=>some (KL x.1 x.2.1)
theorem Zu9:Ah Tryz.prog 266 nB:=Ci Az (fn:=Tryz.f266) (lk:=(AM.look [(280,nA)])) (ks:=⟨[],[],[],⟨tt [4,5],[]⟩,[],[280],[],[]⟩) (ts:=[.tmp 4, .tmp 5]) (fun _=>by kernel_rfl) (Ag ⟨⟨Zt9,Tryz.call280,fun _=>Af rfl⟩,trivial⟩)
abbrev QE:=tab.env (AM.look [(266,nB)]) ⟨[(0,⟨tt [7,8],tt [30]⟩)],[],[(3,⟨tt [0,1],[]⟩),(6,⟨tt [0,6],[]⟩)],⟨tt [4],tt [30]⟩,[4,7,30,31,35,39,41,42,44,47],[266],[],[]⟩
def Tu:=bd Tryz.f251
abbrev Yb:=fin QE [.tmp 4] [] [(AG,[])]
def zA:=rgN 7 Tu
def Zio (m0 m1 m2:Nat):=sqK QE m2 zA 0 Yb
def Zjo (m0 m1 m2:Nat):=AH 0 (Zio m0 m1 m2)
def zB:=lfN 3 (rgN 6 Tu)
def nD (m0 m1 m2 n:Nat):Aw.A2:=fun x6 x7=>ej QE n (.loop zB) 0 (mk [(7, .slw 30 0),(8, .dat Ac x6 [])] [(30,some (.arr Ac x7 false))]) (Zjo m0 m1 m2)
theorem Zko (m0 m1 m2:Nat):∀ n,nD m0 m1 m2 n=Aw.l2 n:=BL (S:=Aw.S2) fun n=>by kernel_rfl
def zC:=rgN 4 Tu
def nE (m0 n:Nat):Aw.A1:=fun x4 x5=>ej QE n (.tail zC) 0 (mk [(0, .dat AG x4 []),(6, .dat (.int .u64) x5 [])] []) Yb
theorem Zlo (m0 m1:Nat):∀ n,nE m0 n=Aw.t1 n:=ind rfl fun n _=>(show _=Aw.S1 (nD m0 m1 n n) from by kernel_rfl).trans (by rw [Zko m0 m1 n n];rfl)
def zD:=rgN 2 Tu
def nF (m0 n:Nat):Aw.A0:=fun x1 x2=>ej QE n (.tail zD) 0 (mk [(0, .dat AG x1 []),(1, .dat Ac x2 [])] []) Yb
theorem Zmo (m0:Nat):∀ n,nF m0 n=Aw.t0 n:=ind rfl fun n _=>(show _=Aw.S0 (nE m0 n) from by kernel_rfl).trans (by rw [Zlo m0 n n];rfl)
abbrev nG:=AM.spec [.val AG, .val Ac] [(AG,[])] fun x=>Aw x.1 x.2.1
theorem Zv9:Ah Tryz.prog 251 nG:=Ca Az (fn:=Tryz.f251) (fun m x=>show run QE Tu m x Yb=Aw.S (nF m m) x.1 x.2.1 from by kernel_rfl) (fun x=>by rw [Zmo fu fu];rfl) (Ag ⟨⟨Zu9,Tryz.call266,fun _=>Af rfl⟩,trivial⟩)
abbrev Yc:=tab.env (AM.look [(151,Uq),(251,nG)]) ⟨[(0,⟨tt [6,18,19,20],[]⟩)],[],[],⟨tt [2,3],[]⟩,[],[151],[],[]⟩
def iH:=bd Tryz.f224
abbrev zE:=fin Yc [.tmp 2, .tmp 3] [] [(AG,[⟨0,1,0,1⟩]),(Ac,[])]
def zF:=rgN 5 iH
def Zno (m0:Nat):=sqK Yc m0 zF 0 zE
def Zoo (m0:Nat):=AH 0 (Zno m0)
def zG:=lfN 2 (rgt (lft (rgN 4 iH)))
def nH (m0 n:Nat):CY.A0:=fun x2 x3 x4 x5=>ej Yc n (.loop zG) 0 (mk [(6, .dat AG x2 [⟨0,385,0,1⟩]),(18, .dat IF x3 []),(19, .dat Ac x4 []),(20, .dat Ac x5 [])] []) (Zoo m0)
theorem Zpo (m0:Nat):∀ n,nH m0 n=CY.l0 n:=BL (S:=CY.S0) fun n=>by kernel_rfl
abbrev ZD:=AM.spec [.val IF] [(AG,[⟨0,1,0,1⟩]),(Ac,[])] fun x=>CY x.1
theorem zH:Ah Tryz.prog 224 ZD:=Ca Az (fn:=Tryz.f224) (fun m x=>show run Yc iH m x zE=CY.S (nH m m) x.1 from by kernel_rfl) (fun x=>by rw [Zpo fu fu];rfl) (Ag ⟨⟨iE,Tryz.call151,fun _=>Af rfl⟩,⟨⟨Zv9,Tryz.call251,nw⟩,trivial⟩⟩)
abbrev nI:=AM.EE 1 [.io .str [], .io .bool []] [(Ac,[]),(.str,[]),(.bool,[])] fun x=>Fm x.1 x.2.1
theorem Zw9:Ah Tryz.prog 252 nI:=rp Az (fn:=Tryz.f252) (lk:=(AM.look [(150,ME)])) (ks:=⟨[],[],[],⟨tt [2],tt [1000000,1000001]⟩,[],[150],[],[]⟩) (ts:=[.tmp 2]) (fun _=>by kernel_rfl) (Ag ⟨⟨QD,Tryz.call150,fun _=>Af rfl⟩,trivial⟩)
abbrev nJ:=AM.spec [.val Ac, .val Ac] [(Ac,[])] fun x=>some (Ij x.1 x.2.1)
theorem Zx9:Ah Tryz.prog 253 nJ:=Ci Az (fn:=Tryz.f253) (lk:=(AM.look [])) (ks:=(kz [4])) (ts:=[.tmp 4]) (fun _=>by kernel_rfl) (Ag trivial)
abbrev Tv:=tab.env (AM.look [(237,ZC)]) ⟨[(0,⟨tt [3,4,5],tt [3]⟩)],[],[(7,⟨tt [3,4,5],tt [3]⟩)],⟨tt [2],[]⟩,[],[237],[],[]⟩
def iI:=bd Tryz.f263
abbrev iJ:=fin Tv [.tmp 2] [] [(.str,[])]
def bC:=rgN 4 iI
def ZE (m0 n:Nat):BV.A1:=fun x5 x6 x7=>ej Tv n (.tail bC) 0 (mk [(3, .ptr 3 0 0),(4, .dat (.int .u64) x5 []),(5, .dat Ac x6 [])] [(3,some (.arr (.int .u8) x7 false))]) iJ
theorem Zqo (m0:Nat):∀ n,ZE m0 n=BV.t1 n:=ind rfl fun n _=>by kernel_rfl
def Zro (m0:Nat):=sqK Tv m0 bC 0 iJ
def Zso (m0:Nat):=AH 0 (Zro m0)
def zI:=lfN 3 (rgN 3 iI)
def nK (m0 n:Nat):BV.A0:=fun x2 x3 x4=>ej Tv n (.loop zI) 0 (mk [(3, .ptr 3 0 0),(4, .dat (.int .u64) x2 []),(5, .dat Ac x3 [])] [(3,some (.arr (.int .u8) x4 false))]) (Zso m0)
theorem Zto (m0:Nat):∀ n,nK m0 n=BV.l0 (ZE m0 m0) n:=BL (S:=BV.S0 (ZE m0 m0)) fun n=>by kernel_rfl
abbrev MF:=AM.spec [.val Ac] [(.str,[])] fun x=>BV x.1
theorem QF:Ah Tryz.prog 263 MF:=Ca Az (fn:=Tryz.f263) (fun m x=>show run Tv iI m x iJ=BV.S (nK m m) x.1 from by kernel_rfl) (fun x=>by rw [Zto fu fu,Zqo fu fu];rfl) (Ag ⟨⟨zo,Tryz.call237,fun _=>Af rfl⟩,trivial⟩)
abbrev nL:=AM.spec [.val Ac, .val Ac] [(Ac,[])] fun x=>some (MZ x.1 x.2.1)
theorem Zy9:Ah Tryz.prog 281 nL:=Ci Az (fn:=Tryz.f281) (lk:=(AM.look [])) (ks:=(kz [4])) (ts:=[.tmp 4]) (fun _=>by kernel_rfl) (Ag trivial)
abbrev Tw:=tab.env (AM.look []) (kq [(0,⟨tt [0,3,4],[]⟩)] [(3,⟨tt [0],[]⟩)] [2])
def Yd:=bd Tryz.f282
abbrev iK:=fin Tw [.tmp 2] [] [(Ac,[])]
def zJ:=rgN 4 Yd
def Zuo (m0 m1:Nat):=sqK Tw m1 zJ 0 iK
def Zvo (m0 m1:Nat):=AH 0 (Zuo m0 m1)
def zK:=lfN 2 (rgt (lft (rgN 3 Yd)))
def nM (m0 m1 n:Nat):AI.A1:=fun x2 x3 x4=>ej Tw n (.loop zK) 0 (mk [(0, .dat AG x2 []),(3, .dat Ac x3 []),(4, .dat Ac x4 [])] []) (Zvo m0 m1)
theorem Zwo (m0 m1:Nat):∀ n,nM m0 m1 n=AI.l1 n:=BL (S:=AI.S1) fun n=>by kernel_rfl
def zL:=rgN 2 Yd
def nN (m0 n:Nat):AI.A0:=fun x1=>ej Tw n (.tail zL) 0 (mk [(0, .dat AG x1 [])] []) iK
theorem Zxo (m0:Nat):∀ n,nN m0 n=AI.t0 n:=ind rfl fun n _=>(show _=AI.S0 (nM m0 n n) from by kernel_rfl).trans (by rw [Zwo m0 n n];rfl)
abbrev nO:=AM.spec [.val AG] [(Ac,[])] fun x=>AI x.1
theorem Zz9:Ah Tryz.prog 282 nO:=Ca Az (fn:=Tryz.f282) (fun m x=>show run Tw Yd m x iK=AI.S (nN m m) x.1 from by kernel_rfl) (fun x=>by rw [Zxo fu fu];rfl) (Ag trivial)
abbrev OV:=tab.env (AM.look [(281,nL),(282,nO)]) ⟨[(0,⟨tt [0,4,5],tt [10]⟩),(2,⟨tt [4,6,33,34],tt [10]⟩)],[],[(6,⟨tt [4],tt [10]⟩)],⟨tt [2,3],tt [10]⟩,[2,4,10,17,29,30,32,37,40,47],[281,282],[],[28]⟩
def Tx:=bd Tryz.f267
abbrev Ye:=fin OV [.tmp 2, .tmp 3] [] [(AG,[]),(Ac,[])]
def zM:=rgN 5 Tx
def Zyo (m0 m1:Nat):=sqK OV m1 zM 0 Ye
def Zzo (m0 m1:Nat):=AH 2 (Zyo m0 m1)
def zN:=lfN 2 (rgt (lft (rgN 4 Tx)))
def nP (m0 m1 n:Nat):AN.A2:=fun x7 x8 x9 x10=>ej OV n (.loop zN) 2 (mk [(4, .slw 10 0),(6, .dat Ac x7 []),(33, .dat Ac x8 []),(34, .dat Ac x9 [])] [(10,some (.arr Ac x10 false))]) (Zzo m0 m1)
theorem Zap (m0 m1:Nat):∀ n,nP m0 m1 n=AN.l2 n:=BL (S:=AN.S2) fun n=>by kernel_rfl
def bD:=rgN 3 Tx
def ZF (m0 n:Nat):AN.A1:=fun x5=>ej OV n (.tail bD) 0 (mk [(4, .slw 10 0)] [(10,some (.arr Ac x5 false))]) Ye
theorem Zbp (m0:Nat):∀ n,ZF m0 n=AN.t1 n:=ind rfl fun n _=>(show _=AN.S1 (nP m0 n n) from by kernel_rfl).trans (by rw [Zap m0 n n];rfl)
def Zcp (m0:Nat):=sqK OV m0 bD 0 Ye
def Zdp (m0:Nat):=AH 0 (Zcp m0)
def zO:=lfN 2 (rgt (lft (rgN 2 Tx)))
def nQ (m0 n:Nat):AN.A0:=fun x1 x2 x3=>ej OV n (.loop zO) 0 (mk [(0, .dat AG x1 []),(4, .slw 10 0),(5, .dat Ac x2 [])] [(10,some (.arr Ac x3 false))]) (Zdp m0)
theorem Zep (m0:Nat):∀ n,nQ m0 n=AN.l0 (ZF m0 m0) n:=BL (S:=AN.S0 (ZF m0 m0)) fun n=>by kernel_rfl
abbrev nR:=AM.spec [.val AG] [(AG,[]),(Ac,[])] fun x=>AN x.1
theorem Zaa1:Ah Tryz.prog 267 nR:=Ca Az (fn:=Tryz.f267) (fun m x=>show run OV Tx m x Ye=AN.S (nQ m m) x.1 from by kernel_rfl) (fun x=>by rw [Zep fu fu,Zbp fu fu];rfl) (Ag ⟨⟨Zy9,Tryz.call281,fun _=>Af rfl⟩,⟨⟨Zz9,Tryz.call282,fun _=>Af rfl⟩,trivial⟩⟩)
abbrev Yf:=tab.env (AM.look [(148,Up)]) ⟨[(0,⟨tt [3,6,7,8],[]⟩)],[],[],⟨tt [2],[]⟩,[],[148],[],[]⟩
def iL:=bd Tryz.f202
abbrev zP:=fin Yf [.tmp 2] [] [(Ac,[])]
def zQ:=rgN 3 iL
def Zfp (m0:Nat):=sqK Yf m0 zQ 0 zP
def Zgp (m0:Nat):=AH 0 (Zfp m0)
def zR:=lfN 2 (rgt (lft (rgN 2 iL)))
def nS (m0 n:Nat):BN.A0:=fun x1 x2 x3 x4=>ej Yf n (.loop zR) 0 (mk [(3, .dat Ac x1 []),(6, .dat AG x2 []),(7, .dat Ac x3 []),(8, .dat Ac x4 [])] []) (Zgp m0)
theorem Zhp (m0:Nat):∀ n,nS m0 n=BN.l0 n:=BL (S:=BN.S0) fun n=>by kernel_rfl
abbrev Ls:=AM.spec [.val AG] [(Ac,[])] fun x=>BN x.1
theorem OW:Ah Tryz.prog 202 Ls:=Ca Az (fn:=Tryz.f202) (fun m x=>show run Yf iL m x zP=BN.S (nS m m) x.1 from by kernel_rfl) (fun x=>by rw [Zhp fu fu];rfl) (Ag ⟨⟨iB,Tryz.call148,fun _=>Af rfl⟩,trivial⟩)
abbrev Nx:=tab.env (AM.look [(202,Ls),(241,Zz),(186,QC)]) ⟨[(0,⟨tt [1,6,7,8,37,38,39],[]⟩),(2,⟨tt [1,6,7,8,11,12,37,38,39],[]⟩)],[],[(20,⟨tt [6,7,8],[]⟩)],⟨tt [4,5],[]⟩,[],[186,202,241],[],[]⟩
def iM:=bd Tryz.f234
abbrev iN:=fin Nx [.tmp 4, .tmp 5] [] [(.str,[]),(Ac,[])]
def bE:=rgN 6 iM
def ZG (m0 n:Nat):AY.A2:=fun x20 x21 x22=>ej Nx n (.tail bE) 0 (mk [(6, .dat (.sl (.int .u8)) x20 [⟨0,385,0,0⟩]),(7, .dat (.int .u64) x21 []),(8, .dat Ac x22 [])] []) iN
theorem Zjp (m0:Nat):∀ n,ZG m0 n=AY.t2 n:=ind rfl fun n _=>by kernel_rfl
def Zkp (m0:Nat):=sqK Nx m0 bE 0 iN
def iO (m0:Nat):=AH 0 (Zkp m0)
def PJ:=lfN 2 (rgt (lft (rgN 5 iM)))
def Ur (m0 n:Nat):AY.A0:=fun x3 x4 x5 x6 x7 x8 x9=>ej Nx n (.loop PJ) 0 (mk [(1, .dat Ac x3 []),(6, .dat (.sl (.int .u8)) x4 [⟨0,385,0,0⟩]),(7, .dat (.int .u64) x5 []),(8, .dat Ac x6 []),(37, .dat AG x7 []),(38, .dat Ac x8 []),(39, .dat Ac x9 [])] []) (iO m0)
def Zlp (m0 m1:Nat):=lpK Nx m1 PJ 0 (iO m0)
def zS:=rgN 3 PJ
def Zmp (m0 m1:Nat):=sqK Nx m1 zS 0 (Zlp m0 m1)
def Znp (m0 m1:Nat):=AH 1 (Zmp m0 m1)
def Zop (m0 m1:Nat):=AH 2 (Znp m0 m1)
def zT:=lfN 2 (rgN 2 (lfN 2 (rgN 2 PJ)))
def nT (m0 m1 n:Nat):AY.A1:=fun x10 x11 x12 x13 x14 x15 x16 x17 x18=>ej Nx n (.loop zT) 2 (mk [(1, .dat Ac x10 []),(6, .dat (.sl (.int .u8)) x11 [⟨0,385,0,0⟩]),(7, .dat (.int .u64) x12 []),(8, .dat Ac x13 []),(11, .dat (.int .u64) x14 []),(12, .dat Ac x15 []),(37, .dat AG x16 []),(38, .dat Ac x17 []),(39, .dat Ac x18 [])] []) (Zop m0 m1)
theorem Zpp (m0 m1:Nat):∀ n,nT m0 m1 n=AY.l1 (Ur m0 m1) n:=BL (S:=AY.S1 (Ur m0 m1)) fun n=>by kernel_rfl
theorem Zqp (m0:Nat):∀ n,Ur m0 n=AY.l0 (ZG m0 m0) n:=ind rfl fun n e0=>(show _=AY.S0 (ZG m0 m0) (nT m0 n n) from by kernel_rfl).trans (by rw [Zpp m0 n n,e0];rfl)
abbrev Ow:=AM.spec [.val AG, .val Ac] [(.str,[]),(Ac,[])] fun x=>AY x.1 x.2.1
theorem Tz:Ah Tryz.prog 234 Ow:=Ca Az (fn:=Tryz.f234) (fun m x=>show run Nx iM m x iN=AY.S (Ur m m) x.1 x.2.1 from by kernel_rfl) (fun x=>by rw [Zqp fu fu,Zjp fu fu];rfl) (Ag ⟨⟨OW,Tryz.call202,fun _=>Af rfl⟩,⟨⟨yT,Tryz.call241,fun _=>Af rfl⟩,⟨⟨XR,Tryz.call186,fun _=>Af rfl⟩,trivial⟩⟩⟩)
abbrev ZH:=AM.spec [.val AG] [(.str,[]),(Ac,[])] fun x=>Na x.1
theorem zU:Ah Tryz.prog 254 ZH:=Ci Az (fn:=Tryz.f254) (lk:=(AM.look [(263,MF),(267,nR),(202,Ls),(234,Ow)])) (ks:=⟨[],[],[],⟨tt [2,3],[]⟩,[],[202,234,263],[],[47]⟩) (ts:=[.tmp 2, .tmp 3]) (fun _=>by kernel_rfl) (Ag ⟨⟨QF,Tryz.call263,fun _=>Af rfl⟩,⟨⟨Zaa1,Tryz.call267,nw⟩,⟨⟨OW,Tryz.call202,fun _=>Af rfl⟩,⟨⟨Tz,Tryz.call234,fun _=>Af rfl⟩,trivial⟩⟩⟩⟩)
abbrev QG:=tab.env (AM.look [(252,nI),(201,Ov),(253,nJ),(254,ZH)]) ⟨[(0,⟨tt [0,6,8,10,54,55,56],tt [8]⟩)],[],[(8,⟨tt [0,1,6,7,8,9],tt [7,8]⟩),(20,⟨tt [0,6,8],tt [8]⟩)],⟨tt [4,5],[]⟩,[24],[252,253,254],[],[]⟩
def Yg:=bd Tryz.f225
abbrev Yh:=fin QG [.tmp 4, .tmp 5] [] [(AG,[⟨0,1,0,1⟩]),(Ac,[])]
def bF:=rgN 7 Yg
def Us (m0 n:Nat):AP.A2:=fun x18 x19 x20=>ej QG n (.tail bF) 0 (mk [(0, .dat .str x18 []),(6, .dat AG x19 [⟨0,385,0,1⟩]),(8, .ptr 8 0 0)] [(8,some (.var .bool x20 []))]) Yh
theorem Zrp (m0 m1:Nat):∀ n,Us m0 n=AP.t2 n:=ind rfl fun n _=>by kernel_rfl
def Zsp (m0 m1:Nat):=sqK QG m1 bF 0 Yh
def Ztp (m0 m1:Nat):=AH 0 (Zsp m0 m1)
def zV:=lfN 2 (rgN 5 (lft (rgt (lft (rgN 6 Yg)))))
def nU (m0 m1 n:Nat):AP.A1:=fun x9 x10 x11 x12 x13 x14 x15=>ej QG n (.loop zV) 0 (mk [(0, .dat .str x9 []),(6, .dat AG x10 [⟨0,385,0,1⟩]),(8, .ptr 8 0 0),(10, .dat Ac x11 []),(54, .dat AG x12 []),(55, .dat Ac x13 []),(56, .dat Ac x14 [])] [(8,some (.var .bool x15 []))]) (Ztp m0 m1)
theorem Zup (m0 m1:Nat):∀ n,nU m0 m1 n=AP.l1 (Us m0 m1) n:=BL (S:=AP.S1 (Us m0 m1)) fun n=>by kernel_rfl
def zW:=rgN 6 Yg
def nV (m0 n:Nat):AP.A0:=fun x2 x3 x4 x5 x6=>ej QG n (.tail zW) 0 (mk [(0, .dat .str x2 []),(1, .dat Ac x3 []),(6, .dat AG x4 [⟨0,385,0,1⟩]),(7, .ptr 7 0 0),(8, .ptr 8 0 0),(9, .clo 252 [(7,0),(8,0)])] [(7,some (.var .str x5 [])),(8,some (.var .bool x6 []))]) Yh
theorem Zvp (m0:Nat):∀ n,nV m0 n=AP.t0 n:=ind rfl fun n _=>(show _=AP.S0 (nU m0 n n) (Us m0 n) from by kernel_rfl).trans (by rw [Zup m0 n n,Zrp m0 n n];rfl)
abbrev nW:=AM.spec [.val .str, .val Ac] [(AG,[⟨0,1,0,1⟩]),(Ac,[])] fun x=>AP x.1 x.2.1
theorem Zba1:Ah Tryz.prog 225 nW:=Ca Az (fn:=Tryz.f225) (fun m x=>show run QG Yg m x Yh=AP.S (nV m m) x.1 x.2.1 from by kernel_rfl) (fun x=>by rw [Zvp fu fu];rfl) (Ag ⟨⟨Zw9,Tryz.call252,fun _=>Zpg rfl⟩,⟨⟨Tt,Tryz.call201,nw⟩,⟨⟨Zx9,Tryz.call253,fun _=>Af rfl⟩,⟨⟨zU,Tryz.call254,fun _=>Af rfl⟩,trivial⟩⟩⟩⟩)
abbrev nX:=AM.spec [.val .str] [(Ac,[]),(Ac,[])] fun x=>Jt x.1
theorem Zca1:Ah Tryz.prog 156 nX:=Ci Az (fn:=Tryz.f156) (lk:=(AM.look [(150,ME)])) (ks:=⟨[],[],[],⟨tt [2,3],[]⟩,[],[150],[],[]⟩) (ts:=[.tmp 2, .tmp 3]) (fun _=>by kernel_rfl) (Ag ⟨⟨QD,Tryz.call150,fun _=>Af rfl⟩,trivial⟩)
abbrev Yi:=tab.env (AM.look []) (kq [(0,⟨tt [0,1,7,8],[]⟩)] [] [4])
def iP:=bd Tryz.f243
abbrev zX:=fin Yi [.tmp 4] [] [(Ac,[])]
def zY:=rgN 2 iP
def Zwp (m0:Nat):=sqK Yi m0 zY 0 zX
def Zxp (m0:Nat):=AH 0 (Zwp m0)
def zZ:=lfN 2 (rgt (lft (rgt iP)))
def nY (m0 n:Nat):AZ.A0:=fun x1 x2 x3 x4=>ej Yi n (.loop zZ) 0 (mk [(0, .dat (.sl .bool) x1 []),(1, .dat .bool x2 []),(7, .dat Ac x3 []),(8, .dat Ac x4 [])] []) (Zxp m0)
theorem Zyp (m0:Nat):∀ n,nY m0 n=AZ.l0 n:=BL (S:=AZ.S0) fun n=>by kernel_rfl
abbrev nZ:=AM.spec [.val (.sl .bool), .val .bool] [(Ac,[])] fun x=>AZ x.1 x.2.1
theorem Zda1:Ah Tryz.prog 243 nZ:=Ca Az (fn:=Tryz.f243) (fun m x=>show run Yi iP m x zX=AZ.S (nY m m) x.1 x.2.1 from by kernel_rfl) (fun x=>by rw [Zyp fu fu];rfl) (Ag trivial)
abbrev ZI:=AM.spec [.val (.sl .bool), .val .bool] [(.bool,[])] fun x=>DV x.1 x.2.1
theorem Zaa:Ah Tryz.prog 203 ZI:=Ci Az (fn:=Tryz.f203) (lk:=(AM.look [(243,nZ)])) (ks:=⟨[],[],[],⟨tt [4],[]⟩,[],[243],[],[]⟩) (ts:=[.tmp 4]) (fun _=>by kernel_rfl) (Ag ⟨⟨Zda1,Tryz.call243,fun _=>Af rfl⟩,trivial⟩)
abbrev Ny:=tab.env (AM.look [(150,ME),(156,nX),(202,Ls),(201,Ov),(203,ZI)]) ⟨[(0,⟨tt [0,1,2,9,10,12,47,48],[]⟩),(2,⟨tt [9,12,16,17,98,99,100],tt [97]⟩)],[],[(20,⟨tt [0,1,9,10,12],[]⟩),(31,⟨tt [12,16,17],tt [97]⟩)],⟨tt [6,7,8],[]⟩,[17,97,111,115],[150,156,202,203],[],[89]⟩
def TA:=bd Tryz.f155
abbrev TB:=fin Ny [.tmp 6, .tmp 7, .tmp 8] [] [(AG,[⟨0,1,0,1⟩]),(AG,[]),(Ac,[])]
def bG:=rgN 11 TA
def ZJ (m0 n:Nat):Ad.A3:=fun x24 x25 x26=>ej Ny n (.tail bG) 0 (mk [(12, .dat AG x24 [⟨0,769,0,1⟩]),(16, .dat AG x25 []),(17, .slw 97 0)] [(97,some (.arr .bool x26 false))]) TB
theorem Zzp (m0 m1:Nat):∀ n,ZJ m0 n=Ad.t3 n:=ind rfl fun n _=>by kernel_rfl
def Zaq (m0 m1:Nat):=sqK Ny m1 bG 0 TB
def Zbq (m0 m1:Nat):=AH 2 (Zaq m0 m1)
def Zba:=lfN 2 (rgt (lft (rgN 10 TA)))
def oa (m0 m1 n:Nat):Ad.A2:=fun x17 x18 x19 x20 x21 x22 x23=>ej Ny n (.loop Zba) 2 (mk [(9, .dat Ac x17 []),(12, .dat AG x18 [⟨0,769,0,1⟩]),(16, .dat AG x19 []),(17, .slw 97 0),(98, .dat AG x20 []),(99, .dat Ac x21 []),(100, .dat Ac x22 [])] [(97,some (.arr .bool x23 false))]) (Zbq m0 m1)
theorem Zcq (m0 m1:Nat):∀ n,oa m0 m1 n=Ad.l2 (ZJ m0 m1) n:=BL (S:=Ad.S2 (ZJ m0 m1)) fun n=>by kernel_rfl
def bH:=rgN 7 TA
def ZK (m0 n:Nat):Ad.A1:=fun x10 x11 x12 x13 x14=>ej Ny n (.tail bH) 0 (mk [(0, .dat .str x10 []),(1, .dat Ac x11 []),(9, .dat Ac x12 []),(10, .dat Ac x13 []),(12, .dat AG x14 [⟨0,769,0,1⟩])] []) TB
theorem Zdq (m0:Nat):∀ n,ZK m0 n=Ad.t1 n:=ind rfl fun n _=>(show _=Ad.S1 (oa m0 n n) from by kernel_rfl).trans (by rw [Zcq m0 n n,Zzp m0 n n];rfl)
def Zeq (m0:Nat):=sqK Ny m0 bH 0 TB
def Zfq (m0:Nat):=AH 0 (Zeq m0)
def Zca:=lfN 2 (rgt (lft (rgN 6 TA)))
def oc (m0 n:Nat):Ad.A0:=fun x2 x3 x4 x5 x6 x7 x8=>ej Ny n (.loop Zca) 0 (mk [(0, .dat .str x2 []),(1, .dat Ac x3 []),(2, .fn 156 []),(9, .dat Ac x4 []),(10, .dat Ac x5 []),(12, .dat AG x6 [⟨0,769,0,1⟩]),(47, .dat Ac x7 []),(48, .dat Ac x8 [])] []) (Zfq m0)
theorem Zgq (m0:Nat):∀ n,oc m0 n=Ad.l0 (ZK m0 m0) n:=BL (S:=Ad.S0 (ZK m0 m0)) fun n=>by kernel_rfl
abbrev od:=AM.spec [.val .str, .val Ac, .fn 156 []] [(AG,[⟨0,1,0,1⟩]),(AG,[]),(Ac,[])] fun x=>Ad x.1 x.2.1
theorem Zea1:Ah Tryz.prog 155 od:=Ca Az (fn:=Tryz.f155) (fun m x=>show run Ny TA m x TB=Ad.S (oc m m) x.1 x.2.1 from by kernel_rfl) (fun x=>by rw [Zgq fu fu,Zdq fu fu];rfl) (Ag ⟨⟨QD,Tryz.call150,fun _=>Af rfl⟩,⟨⟨Zca1,Tryz.call156,fun _=>Af rfl⟩,⟨⟨OW,Tryz.call202,fun _=>Af rfl⟩,⟨⟨Tt,Tryz.call201,nw⟩,⟨⟨Zaa,Tryz.call203,fun _=>Af rfl⟩,trivial⟩⟩⟩⟩⟩)
abbrev Yj:=tab.env (AM.look []) (kq [(0,⟨tt [0,5,8,9,10],[]⟩)] [] [4])
def iQ:=bd Tryz.f157
abbrev Zda:=fin Yj [.tmp 4] [] [(AG,[⟨0,1,0,1⟩])]
def Zea:=rgN 3 iQ
def Zhq (m0:Nat):=sqK Yj m0 Zea 0 Zda
def Ziq (m0:Nat):=AH 0 (Zhq m0)
def Zfa:=lfN 2 (rgt (lft (rgN 2 iQ)))
def oe (m0 n:Nat):Cg.A0:=fun x1 x2 x3 x4 x5=>ej Yj n (.loop Zfa) 0 (mk [(0, .dat AG x1 []),(5, .dat AG x2 [⟨0,321,0,1⟩]),(8, .dat AG x3 []),(9, .dat Ac x4 []),(10, .dat Ac x5 [])] []) (Ziq m0)
theorem Zjq (m0:Nat):∀ n,oe m0 n=Cg.l0 n:=BL (S:=Cg.S0) fun n=>by kernel_rfl
abbrev og:=AM.spec [.val AG, .val AG] [(AG,[⟨0,1,0,1⟩])] fun x=>Cg x.1 x.2.1
theorem Zfa1:Ah Tryz.prog 157 og:=Ca Az (fn:=Tryz.f157) (fun m x=>show run Yj iQ m x Zda=Cg.S (oe m m) x.1 x.2.1 from by kernel_rfl) (fun x=>by rw [Zjq fu fu];rfl) (Ag trivial)
abbrev iR:=AM.spec [.val .str, .val Ac] [(AG,[⟨0,1,0,1⟩]),(Ac,[])] fun x=>Hu x.1 x.2.1
theorem Zzv:Ah Tryz.prog 94 iR:=Ci Az (fn:=Tryz.f94) (lk:=(AM.look [(155,od),(157,og)])) (ks:=(kz [4,5])) (ts:=[.tmp 4, .tmp 5]) (fun _=>by kernel_rfl) (Ag ⟨⟨Zea1,Tryz.call155,nw⟩,⟨⟨Zfa1,Tryz.call157,nw⟩,trivial⟩⟩)
abbrev oh:=AM.spec [.val .str, .val Ac, .val Ac] [(AG,[]),(Ac,[])] fun x=>Lz x.1 x.2.1 x.2.2.1
theorem Zga1:Ah Tryz.prog 189 oh:=Ci Az (fn:=Tryz.f189) (lk:=(AM.look [(223,ns),(89,Ya),(224,ZD),(225,nW),(94,iR),(201,Ov)])) (ks:=(kz [6,7])) (ts:=[.tmp 6, .tmp 7]) (fun _=>by kernel_rfl) (Ag ⟨⟨Zq9,Tryz.call223,nw⟩,⟨⟨sD,Tryz.call89,nw⟩,⟨⟨zH,Tryz.call224,nw⟩,⟨⟨Zba1,Tryz.call225,nw⟩,⟨⟨Zzv,Tryz.call94,nw⟩,⟨⟨Tt,Tryz.call201,nw⟩,trivial⟩⟩⟩⟩⟩⟩)
abbrev TC:=tab.env (AM.look []) (kq [(0,⟨tt [0,1,6],[]⟩)] [(8,⟨tt [1,6],[]⟩)] [4,5])
def iS:=bd Tryz.f226
abbrev iT:=fin TC [.tmp 4, .tmp 5] [] [(Dg,[⟨0,1,0,1⟩]),(Ac,[])]
def bI:=rgN 3 iS
def ZL (m0 n:Nat):AU.A1:=fun x4 x5=>ej TC n (.tail bI) 0 (mk [(1, .dat Ac x4 []),(6, .dat Dg x5 [⟨0,385,0,1⟩])] []) iT
theorem Zkq (m0:Nat):∀ n,ZL m0 n=AU.t1 n:=ind rfl fun n _=>by kernel_rfl
def Zlq (m0:Nat):=sqK TC m0 bI 0 iT
def Zmq (m0:Nat):=AH 0 (Zlq m0)
def Zga:=lfN 3 (rgN 2 iS)
def oj (m0 n:Nat):AU.A0:=fun x1 x2 x3=>ej TC n (.loop Zga) 0 (mk [(0, .dat .str x1 []),(1, .dat Ac x2 []),(6, .dat Dg x3 [⟨0,385,0,1⟩])] []) (Zmq m0)
theorem Znq (m0:Nat):∀ n,oj m0 n=AU.l0 (ZL m0 m0) n:=BL (S:=AU.S0 (ZL m0 m0)) fun n=>by kernel_rfl
abbrev om:=AM.spec [.val .str, .val Ac] [(Dg,[⟨0,1,0,1⟩]),(Ac,[])] fun x=>AU x.1 x.2.1
theorem Zha1:Ah Tryz.prog 226 om:=Ca Az (fn:=Tryz.f226) (fun m x=>show run TC iS m x iT=AU.S (oj m m) x.1 x.2.1 from by kernel_rfl) (fun x=>by rw [Znq fu fu,Zkq fu fu];rfl) (Ag trivial)
abbrev OX:=tab.env (AM.look [(150,ME),(89,Ya),(224,ZD)]) ⟨[(0,⟨tt [0,1,6,7,9,37,38],[]⟩),(2,⟨tt [6,9,13,91,92,93],[]⟩)],[],[(17,⟨tt [0,1,6,7,9],[]⟩)],⟨tt [4,5],[]⟩,[],[150],[],[]⟩
def TD:=bd Tryz.f227
abbrev Yk:=fin OX [.tmp 4, .tmp 5] [] [(Dg,[⟨0,1,0,1⟩]),(Ac,[])]
def Zha:=rgN 12 TD
def Zoq (m0 m1:Nat):=sqK OX m1 Zha 0 Yk
def Zpq (m0 m1:Nat):=AH 2 (Zoq m0 m1)
def Zia:=lfN 2 (rgt (lft (rgN 11 TD)))
def oo (m0 m1 n:Nat):AF.A2:=fun x16 x17 x18 x19 x20 x21=>ej OX n (.loop Zia) 2 (mk [(6, .dat Ac x16 []),(9, .dat Dg x17 [⟨0,577,0,1⟩]),(13, .dat Dg x18 [⟨0,833,0,1⟩]),(91, .dat AG x19 [⟨0,5825,0,1⟩]),(92, .dat Ac x20 []),(93, .dat Ac x21 [])] []) (Zpq m0 m1)
theorem Zqq (m0 m1:Nat):∀ n,oo m0 m1 n=AF.l2 n:=BL (S:=AF.S2) fun n=>by kernel_rfl
def bJ:=rgN 6 TD
def ZM (m0 n:Nat):AF.A1:=fun x9 x10 x11 x12 x13=>ej OX n (.tail bJ) 0 (mk [(0, .dat .str x9 []),(1, .dat Ac x10 []),(6, .dat Ac x11 []),(7, .dat Ac x12 []),(9, .dat Dg x13 [⟨0,577,0,1⟩])] []) Yk
theorem Zrq (m0:Nat):∀ n,ZM m0 n=AF.t1 n:=ind rfl fun n _=>(show _=AF.S1 (oo m0 n n) from by kernel_rfl).trans (by rw [Zqq m0 n n];rfl)
def Zsq (m0:Nat):=sqK OX m0 bJ 0 Yk
def Ztq (m0:Nat):=AH 0 (Zsq m0)
def Zja:=lfN 2 (rgt (lft (rgN 5 TD)))
def oq (m0 n:Nat):AF.A0:=fun x2 x3 x4 x5 x6 x7 x8=>ej OX n (.loop Zja) 0 (mk [(0, .dat .str x2 []),(1, .dat Ac x3 []),(6, .dat Ac x4 []),(7, .dat Ac x5 []),(9, .dat Dg x6 [⟨0,577,0,1⟩]),(37, .dat Ac x7 []),(38, .dat Ac x8 [])] []) (Ztq m0)
theorem Zuq (m0:Nat):∀ n,oq m0 n=AF.l0 (ZM m0 m0) n:=BL (S:=AF.S0 (ZM m0 m0)) fun n=>by kernel_rfl
abbrev ot:=AM.spec [.val .str, .val Ac] [(Dg,[⟨0,1,0,1⟩]),(Ac,[])] fun x=>AF x.1 x.2.1
theorem Zia1:Ah Tryz.prog 227 ot:=Ca Az (fn:=Tryz.f227) (fun m x=>show run OX TD m x Yk=AF.S (oq m m) x.1 x.2.1 from by kernel_rfl) (fun x=>by rw [Zuq fu fu,Zrq fu fu];rfl) (Ag ⟨⟨QD,Tryz.call150,fun _=>Af rfl⟩,⟨⟨sD,Tryz.call89,nw⟩,⟨⟨zH,Tryz.call224,nw⟩,trivial⟩⟩⟩)
abbrev ou:=AM.spec [.val .str] [(.str,[]),(Ac,[])] fun x=>KM x.1
theorem Zja1:Ah Tryz.prog 154 ou:=Ci Az (fn:=Tryz.f154) (lk:=(AM.look [])) (ks:=(kz [2,3])) (ts:=[.tmp 2, .tmp 3]) (fun _=>by kernel_rfl) (Ag trivial)
abbrev Nz:=tab.env (AM.look [(150,ME),(154,ou),(202,Ls),(201,Ov),(203,ZI)]) ⟨[(0,⟨tt [0,1,2,9,10,12,47,48],[]⟩),(2,⟨tt [9,12,16,17,98,99,100],tt [97]⟩)],[],[(20,⟨tt [0,1,9,10,12],[]⟩),(31,⟨tt [12,16,17],tt [97]⟩)],⟨tt [6,7,8],[]⟩,[17,97,111,115],[150,154,202,203],[],[89]⟩
def TE:=bd Tryz.f153
abbrev TF:=fin Nz [.tmp 6, .tmp 7, .tmp 8] [] [(Dg,[⟨0,1,0,1⟩]),(AG,[]),(Ac,[])]
def bK:=rgN 11 TE
def ZN (m0 n:Nat):Aa.A3:=fun x24 x25 x26=>ej Nz n (.tail bK) 0 (mk [(12, .dat Dg x24 [⟨0,769,0,1⟩]),(16, .dat AG x25 []),(17, .slw 97 0)] [(97,some (.arr .bool x26 false))]) TF
theorem Zvq (m0 m1:Nat):∀ n,ZN m0 n=Aa.t3 n:=ind rfl fun n _=>by kernel_rfl
def Zwq (m0 m1:Nat):=sqK Nz m1 bK 0 TF
def Zxq (m0 m1:Nat):=AH 2 (Zwq m0 m1)
def Zka:=lfN 2 (rgt (lft (rgN 10 TE)))
def ov (m0 m1 n:Nat):Aa.A2:=fun x17 x18 x19 x20 x21 x22 x23=>ej Nz n (.loop Zka) 2 (mk [(9, .dat Ac x17 []),(12, .dat Dg x18 [⟨0,769,0,1⟩]),(16, .dat AG x19 []),(17, .slw 97 0),(98, .dat AG x20 []),(99, .dat Ac x21 []),(100, .dat Ac x22 [])] [(97,some (.arr .bool x23 false))]) (Zxq m0 m1)
theorem Zyq (m0 m1:Nat):∀ n,ov m0 m1 n=Aa.l2 (ZN m0 m1) n:=BL (S:=Aa.S2 (ZN m0 m1)) fun n=>by kernel_rfl
def bL:=rgN 7 TE
def ZO (m0 n:Nat):Aa.A1:=fun x10 x11 x12 x13 x14=>ej Nz n (.tail bL) 0 (mk [(0, .dat .str x10 []),(1, .dat Ac x11 []),(9, .dat Ac x12 []),(10, .dat Ac x13 []),(12, .dat Dg x14 [⟨0,769,0,1⟩])] []) TF
theorem Zzq (m0:Nat):∀ n,ZO m0 n=Aa.t1 n:=ind rfl fun n _=>(show _=Aa.S1 (ov m0 n n) from by kernel_rfl).trans (by rw [Zyq m0 n n,Zvq m0 n n];rfl)
def Zar (m0:Nat):=sqK Nz m0 bL 0 TF
def Zbr (m0:Nat):=AH 0 (Zar m0)
def Zla:=lfN 2 (rgt (lft (rgN 6 TE)))
def ow (m0 n:Nat):Aa.A0:=fun x2 x3 x4 x5 x6 x7 x8=>ej Nz n (.loop Zla) 0 (mk [(0, .dat .str x2 []),(1, .dat Ac x3 []),(2, .fn 154 []),(9, .dat Ac x4 []),(10, .dat Ac x5 []),(12, .dat Dg x6 [⟨0,769,0,1⟩]),(47, .dat Ac x7 []),(48, .dat Ac x8 [])] []) (Zbr m0)
theorem Zcr (m0:Nat):∀ n,ow m0 n=Aa.l0 (ZO m0 m0) n:=BL (S:=Aa.S0 (ZO m0 m0)) fun n=>by kernel_rfl
abbrev ox:=AM.spec [.val .str, .val Ac, .fn 154 []] [(Dg,[⟨0,1,0,1⟩]),(AG,[]),(Ac,[])] fun x=>Aa x.1 x.2.1
theorem Zka1:Ah Tryz.prog 153 ox:=Ca Az (fn:=Tryz.f153) (fun m x=>show run Nz TE m x TF=Aa.S (ow m m) x.1 x.2.1 from by kernel_rfl) (fun x=>by rw [Zcr fu fu,Zzq fu fu];rfl) (Ag ⟨⟨QD,Tryz.call150,fun _=>Af rfl⟩,⟨⟨Zja1,Tryz.call154,fun _=>Af rfl⟩,⟨⟨OW,Tryz.call202,fun _=>Af rfl⟩,⟨⟨Tt,Tryz.call201,nw⟩,⟨⟨Zaa,Tryz.call203,fun _=>Af rfl⟩,trivial⟩⟩⟩⟩⟩)
abbrev iU:=AM.spec [.val .str, .val Ac] [(Dg,[⟨0,1,0,1⟩]),(AG,[]),(Ac,[])] fun x=>MJ x.1 x.2.1
theorem Zaw:Ah Tryz.prog 93 iU:=Ci Az (fn:=Tryz.f93) (lk:=(AM.look [(153,ox)])) (ks:=(kz [4,5,6])) (ts:=[.tmp 4, .tmp 5, .tmp 6]) (fun _=>by kernel_rfl) (Ag ⟨⟨Zka1,Tryz.call153,nw⟩,trivial⟩)
abbrev Yl:=tab.env (AM.look []) (kq [(0,⟨tt [0,5,8,9,10],[]⟩)] [] [4])
def iV:=bd Tryz.f255
abbrev Zma:=fin Yl [.tmp 4] [] [(Dg,[⟨0,1,0,1⟩])]
def Zna:=rgN 3 iV
def Zdr (m0:Nat):=sqK Yl m0 Zna 0 Zma
def Zer (m0:Nat):=AH 0 (Zdr m0)
def Zoa:=lfN 2 (rgt (lft (rgN 2 iV)))
def oy (m0 n:Nat):BM.A0:=fun x1 x2 x3 x4 x5=>ej Yl n (.loop Zoa) 0 (mk [(0, .dat Dg x1 []),(5, .dat Dg x2 [⟨0,321,0,1⟩]),(8, .dat AG x3 []),(9, .dat Ac x4 []),(10, .dat Ac x5 [])] []) (Zer m0)
theorem Zfr (m0:Nat):∀ n,oy m0 n=BM.l0 n:=BL (S:=BM.S0) fun n=>by kernel_rfl
abbrev oz:=AM.spec [.val Dg, .val AG] [(Dg,[⟨0,1,0,1⟩])] fun x=>BM x.1 x.2.1
theorem Zla1:Ah Tryz.prog 255 oz:=Ca Az (fn:=Tryz.f255) (fun m x=>show run Yl iV m x Zma=BM.S (oy m m) x.1 x.2.1 from by kernel_rfl) (fun x=>by rw [Zfr fu fu];rfl) (Ag trivial)
abbrev oA:=AM.spec [.val .str, .val Ac] [(Dg,[⟨0,1,0,1⟩]),(Ac,[])] fun x=>JU x.1 x.2.1
theorem Zma1:Ah Tryz.prog 228 oA:=Ci Az (fn:=Tryz.f228) (lk:=(AM.look [(93,iU),(255,oz)])) (ks:=(kz [4,5])) (ts:=[.tmp 4, .tmp 5]) (fun _=>by kernel_rfl) (Ag ⟨⟨Zaw,Tryz.call93,nw⟩,⟨⟨Zla1,Tryz.call255,nw⟩,trivial⟩⟩)
abbrev oB:=AM.spec [.val .str, .val Ac, .val Ac] [(Dg,[⟨0,1,0,1⟩]),(Ac,[])] fun x=>Kn x.1 x.2.1 x.2.2.1
theorem Zna1:Ah Tryz.prog 190 oB:=Ci Az (fn:=Tryz.f190) (lk:=(AM.look [(226,om),(227,ot),(228,oA)])) (ks:=(kz [6,7])) (ts:=[.tmp 6, .tmp 7]) (fun _=>by kernel_rfl) (Ag ⟨⟨Zha1,Tryz.call226,nw⟩,⟨⟨Zia1,Tryz.call227,nw⟩,⟨⟨Zma1,Tryz.call228,nw⟩,trivial⟩⟩⟩)
abbrev OY:=tab.env (AM.look [(189,oh),(190,oB)]) (kq [(1,⟨tt [5,8,10,29,30,31],tt [5]⟩),(3,⟨tt [5,8,14,55,56,57],tt [5]⟩)] [] [6,7])
def QH:=bd Tryz.f141
abbrev Zpa:=fin OY [.tmp 6, .tmp 7] [] [(Dd,[⟨0,1,0,3⟩]),(Ac,[])]
def Zqa:=rgN 3 QH
def Zgr (m0:Nat):=sqK OY m0 Zqa 0 Zpa
def iW (m0:Nat):=AH 0 (Zgr m0)
def Zra:=rgN 2 (lft (rgt (lft (rgt (lft (rgN 2 QH))))))
def Zhr (m0:Nat):=sqK OY m0 Zra 0 (iW m0)
def Zir (m0:Nat):=AH 1 (Zhr m0)
def Zsa:=lfN 2 (rgt (lft (rgt (lft (rgt (lft (rgt (lft (rgN 2 QH)))))))))
def oC (m0 n:Nat):Bb.A0:=fun x2 x3 x4 x5 x6 x7=>ej OY n (.loop Zsa) 1 (mk [(5, .ptr 5 0 0),(8, .dat Dd x2 [⟨0,513,0,3⟩]),(10, .dat Ac x3 []),(29, .dat AG x4 []),(30, .dat Ac x5 []),(31, .dat Ac x6 [])] [(5,some (.var Zl x7 []))]) (Zir m0)
theorem Zjr (m0:Nat):∀ n,oC m0 n=Bb.l0 n:=BL (S:=Bb.S0) fun n=>by kernel_rfl
def Zta:=rgN 2 (lft (rgN 3 (lft (rgt (lft (rgN 2 QH))))))
def Zkr (m0:Nat):=sqK OY m0 Zta 0 (iW m0)
def Zlr (m0:Nat):=AH 3 (Zkr m0)
def Zua:=lfN 2 (rgt (lft (rgt (lft (rgN 3 (lft (rgt (lft (rgN 2 QH)))))))))
def oD (m0 n:Nat):Bb.A1:=fun x9 x10 x11 x12 x13 x14=>ej OY n (.loop Zua) 3 (mk [(5, .ptr 5 0 0),(8, .dat Dd x9 [⟨0,513,0,3⟩]),(14, .dat Ac x10 []),(55, .dat Dg x11 [⟨0,3521,0,1⟩]),(56, .dat Ac x12 []),(57, .dat Ac x13 [])] [(5,some (.var Zl x14 []))]) (Zlr m0)
theorem Zmr (m0:Nat):∀ n,oD m0 n=Bb.l1 n:=BL (S:=Bb.S1) fun n=>by kernel_rfl
abbrev oE:=AM.spec [.val .str, .val Ac, .val Zl] [(Dd,[⟨0,1,0,3⟩]),(Ac,[])] fun x=>Bb x.1 x.2.1 x.2.2.1
theorem Zoa1:Ah Tryz.prog 141 oE:=Ca Az (fn:=Tryz.f141) (fun m x=>show run OY QH m x Zpa=Bb.S (oC m m) (oD m m) x.1 x.2.1 x.2.2.1 from by kernel_rfl) (fun x=>by rw [Zmr fu fu,Zjr fu fu];rfl) (Ag ⟨⟨Zga1,Tryz.call189,nw⟩,⟨⟨Zna1,Tryz.call190,nw⟩,trivial⟩⟩)
abbrev Ut:=AM.spec [.val Ho] [(.bool,[])] fun x=>some (GJ x.1)
theorem iX:Ah Tryz.prog 192 Ut:=Ci Az (fn:=Tryz.f192) (lk:=(AM.look [])) (ks:=(kz [2])) (ts:=[.tmp 2]) (fun _=>by kernel_rfl) (Ag trivial)
abbrev Uu:=tab.env (AM.look [(192,Ut)]) ⟨[(0,⟨tt [0,1,7,8],[]⟩)],[],[],⟨tt [4],[]⟩,[],[192],[],[]⟩
def ZP:=bd Tryz.f229
abbrev oF:=fin Uu [.tmp 4] [] [(Ac,[])]
def sE:=rgN 2 ZP
def Zva (m0:Nat):=sqK Uu m0 sE 0 oF
def Zwa (m0:Nat):=AH 0 (Zva m0)
def sF:=lfN 2 (rgt (lft (rgt ZP)))
def iY (m0 n:Nat):Av.A0:=fun x1 x2 x3=>ej Uu n (.loop sF) 0 (mk [(0, .dat Dd x1 []),(1, .fn 192 []),(7, .dat Ac x2 []),(8, .dat Ac x3 [])] []) (Zwa m0)
theorem Zxa (m0:Nat):∀ n,iY m0 n=Av.l0 n:=BL (S:=Av.S0) fun n=>by kernel_rfl
abbrev iZ:=AM.spec [.val Dd, .fn 192 []] [(Ac,[])] fun x=>Av x.1
theorem Zr2:Ah Tryz.prog 229 iZ:=Ca Az (fn:=Tryz.f229) (fun m x=>show run Uu ZP m x oF=Av.S (iY m m) x.1 from by kernel_rfl) (fun x=>by rw [Zxa fu fu];rfl) (Ag ⟨⟨iX,Tryz.call192,fun _=>Af rfl⟩,trivial⟩)
abbrev ja:=AM.spec [.val Dd, .fn 192 []] [(.bool,[])] fun x=>Dp x.1
theorem Zs2:Ah Tryz.prog 191 ja:=Ci Az (fn:=Tryz.f191) (lk:=(AM.look [(229,iZ)])) (ks:=⟨[],[],[],⟨tt [4],[]⟩,[],[229],[],[]⟩) (ts:=[.tmp 4]) (fun _=>by kernel_rfl) (Ag ⟨⟨Zr2,Tryz.call229,fun _=>Af rfl⟩,trivial⟩)
abbrev Ym:=tab.env (AM.look [(188,ZA),(140,ZB),(191,ja)]) ⟨[(0,⟨tt [2,8,12,42,43],tt [40]⟩)],[],[],⟨tt [6,7],tt [6,40]⟩,[6,12,40,41,51,60],[140,191],[],[]⟩
def jc:=bd Tryz.f142
abbrev Zya:=fin Ym [.tmp 6, .tmp 7] [] [(Dd,[]),(Ac,[])]
def Zza:=rgN 7 jc
def Znr (m0:Nat):=sqK Ym m0 Zza 0 Zya
def Zor (m0:Nat):=AH 0 (Znr m0)
def Zab:=lfN 2 (rgt (lft (rgN 6 jc)))
def oG (m0 n:Nat):CF.A0:=fun x4 x5 x6 x7 x8=>ej Ym n (.loop Zab) 0 (mk [(2, .dat Dd x4 []),(8, .dat AG x5 []),(12, .slw 40 0),(42, .dat Ac x6 []),(43, .dat Ac x7 [])] [(40,some (.arr Ho x8 false))]) (Zor m0)
theorem Zpr (m0:Nat):∀ n,oG m0 n=CF.l0 n:=BL (S:=CF.S0) fun n=>by kernel_rfl
abbrev oH:=AM.spec [.val .str, .val Ac, .val Dd] [(Dd,[]),(Ac,[])] fun x=>CF x.1 x.2.1 x.2.2.1
theorem Zpa1:Ah Tryz.prog 142 oH:=Ca Az (fn:=Tryz.f142) (fun m x=>show run Ym jc m x Zya=CF.S (oG m m) x.1 x.2.1 x.2.2.1 from by kernel_rfl) (fun x=>by rw [Zpr fu fu];rfl) (Ag ⟨⟨zd,Tryz.call188,nw⟩,⟨⟨zh,Tryz.call140,fun _=>Af rfl⟩,⟨⟨Zs2,Tryz.call191,fun _=>Af rfl⟩,trivial⟩⟩⟩)
abbrev jd:=AM.spec [.val Ho] [(Ac,[])] fun x=>some (Cf x.1)
theorem Zbw:Ah Tryz.prog 88 jd:=Ci Az (fn:=Tryz.f88) (lk:=(AM.look [])) (ks:=(kz [2])) (ts:=[.tmp 2]) (fun x=>(show _=Cf.o x.1 from by kernel_rfl).trans (by unfold Cf.o Cf;simp only [Gv])) (Ag trivial)
abbrev oI:=AM.spec [.val Ho, .ref Ac] [(.bool,[])] fun x=>some (EB x.1 x.2.1)
theorem Zqa1:Ah Tryz.prog 230 oI:=Ci Az (fn:=Tryz.f230) (lk:=(AM.look [(88,jd)])) (ks:=⟨[],[],[],⟨tt [3],[]⟩,[],[88],[],[]⟩) (ts:=[.tmp 3]) (fun x=>(show _=EB.o x.1 x.2.1 from by kernel_rfl).trans (by unfold EB.o EB;simp only [Gv])) (Ag ⟨⟨Zbw,Tryz.call88,fun _=>Af rfl⟩,trivial⟩)
abbrev Uv:=tab.env (AM.look [(230,oI)]) ⟨[(0,⟨tt [0,1,7,8],[]⟩)],[],[],⟨tt [4],[]⟩,[],[230],[],[]⟩
def ZQ:=bd Tryz.f229
abbrev oJ:=fin Uv [.tmp 4] [] [(Ac,[])]
def sG:=rgN 2 ZQ
def Zbb (m0:Nat):=sqK Uv m0 sG 0 oJ
def Zcb (m0:Nat):=AH 0 (Zbb m0)
def sH:=lfN 2 (rgt (lft (rgt ZQ)))
def je (m0 n:Nat):Au.A0:=fun x1 x2 x3 x4=>ej Uv n (.loop sH) 0 (mk [(0, .dat Dd x1 []),(1, .fn 230 [⟨Ac,x2,[]⟩]),(7, .dat Ac x3 []),(8, .dat Ac x4 [])] []) (Zcb m0)
theorem Zdb (m0:Nat):∀ n,je m0 n=Au.l0 n:=BL (S:=Au.S0) fun n=>by kernel_rfl
abbrev jf:=AM.spec [.val Dd, .fn 230 [Ac]] [(Ac,[])] fun x=>Au x.1 x.2.1.1
theorem Zt2:Ah Tryz.prog 229 jf:=Ca Az (fn:=Tryz.f229) (fun m x=>show run Uv ZQ m x oJ=Au.S (je m m) x.1 x.2.1.1 from by kernel_rfl) (fun x=>by rw [Zdb fu fu];rfl) (Ag ⟨⟨Zqa1,Tryz.call230,fun _=>Af rfl⟩,trivial⟩)
abbrev jg:=AM.spec [.val Dd, .fn 230 [Ac]] [(.bool,[])] fun x=>CA x.1 x.2.1.1
theorem Zu2:Ah Tryz.prog 191 jg:=Ci Az (fn:=Tryz.f191) (lk:=(AM.look [(229,jf)])) (ks:=⟨[],[],[],⟨tt [4],[]⟩,[],[229],[],[]⟩) (ts:=[.tmp 4]) (fun _=>by kernel_rfl) (Ag ⟨⟨Zt2,Tryz.call229,fun _=>Af rfl⟩,trivial⟩)
abbrev oK:=AM.spec [.val Dd, .val Ac] [(.bool,[])] fun x=>Lf x.1 x.2.1
theorem Zra1:Ah Tryz.prog 193 oK:=Ci Az (fn:=Tryz.f193) (lk:=(AM.look [(191,jg)])) (ks:=⟨[],[],[],⟨tt [4],[]⟩,[],[191],[],[]⟩) (ts:=[.tmp 4]) (fun _=>by kernel_rfl) (Ag ⟨⟨Zu2,Tryz.call191,fun _=>Af rfl⟩,trivial⟩)
abbrev ZR:=AM.spec [.val Ho] [(.bool,[])] fun x=>some (Jb x.1)
theorem Zeb:Ah Tryz.prog 233 ZR:=Ci Az (fn:=Tryz.f233) (lk:=(AM.look [(192,Ut)])) (ks:=⟨[],[],[],⟨tt [2],[]⟩,[],[192],[],[]⟩) (ts:=[.tmp 2]) (fun _=>by kernel_rfl) (Ag ⟨⟨iX,Tryz.call192,fun _=>Af rfl⟩,trivial⟩)
abbrev Uw:=tab.env (AM.look [(233,ZR)]) ⟨[(0,⟨tt [0,1,7,8],tt [1000000]⟩)],[],[],⟨tt [4],tt [1000000]⟩,[],[233],[],[]⟩
def ZS:=bd Tryz.f229
abbrev oL:=fin Uw [.tmp 4] [.ioa Ho] [(Ac,[]),(Dd,[])]
def sI:=rgN 2 ZS
def Zfb (m0:Nat):=sqK Uw m0 sI 0 oL
def Zgb (m0:Nat):=AH 0 (Zfb m0)
def sJ:=lfN 2 (rgt (lft (rgt ZS)))
def jh (m0 n:Nat):Al.A0:=fun x1 x2 x3=>ej Uw n (.loop sJ) 0 (mk [(0, .slw 1000000 0),(1, .fn 233 []),(7, .dat Ac x1 []),(8, .dat Ac x2 [])] [(1000000,some (.arr Ho x3 false))]) (Zgb m0)
theorem Zhb (m0:Nat):∀ n,jh m0 n=Al.l0 n:=BL (S:=Al.S0) fun n=>by kernel_rfl
abbrev ji:=AM.EE 1 [.ioa Ho, .fn 233 []] [(Ac,[]),(Dd,[])] fun x=>Al x.1
theorem Zv2:Ah Tryz.prog 229 ji:=Rg Az (fn:=Tryz.f229) (ts:=[.tmp 4]) (fun m x=>show run Uw ZS m x oL=Al.S (jh m m) x.1 from by kernel_rfl) (fun x=>by rw [Zhb fu fu];rfl) (Ag ⟨⟨Zeb,Tryz.call233,fun _=>Af rfl⟩,trivial⟩)
abbrev Yn:=tab.env (AM.look [(229,ji),(233,ZR)]) ⟨[(0,⟨tt [0,1,5,6],tt [1000000]⟩)],[],[(11,⟨tt [0,5],tt [1000000]⟩)],⟨tt [4],tt [1000000]⟩,[0,4,8,13,17,22,30,36,38,39,41],[233],[(229,[true])],[]⟩
def jj:=bd Tryz.f231
abbrev jk:=fh 0 4 [.ioa Ho] [(Ac,[]),(Dd,[])]
def bM:=rgN 4 jj
def ZT (m0 n:Nat):Ae.A1:=fun x6 x7=>ej Yn n (.tail bM) 0 (mk [(0, .slw 1000000 0),(5, .dat Ac x6 [])] [(1000000,some (.arr Ho x7 false))]) jk
theorem Zqr (m0:Nat):∀ n,ZT m0 n=Ae.t1 n:=ind rfl fun n _=>by kernel_rfl
def Zrr (m0:Nat):=sqK Yn m0 bM 0 jk
def Zsr (m0:Nat):=AH 0 (Zrr m0)
def Zib:=lfN 2 (rgt (lft (rgN 3 jj)))
def oM (m0 n:Nat):Ae.A0:=fun x2 x3 x4=>ej Yn n (.loop Zib) 0 (mk [(0, .slw 1000000 0),(1, .fn 233 []),(5, .dat Ac x2 []),(6, .dat Ac x3 [])] [(1000000,some (.arr Ho x4 false))]) (Zsr m0)
theorem Ztr (m0:Nat):∀ n,oM m0 n=Ae.l0 (ZT m0 m0) n:=BL (S:=Ae.S0 (ZT m0 m0)) fun n=>by kernel_rfl
abbrev oN:=AM.LH 0 [.ioa Ho, .fn 233 []] [(Ac,[]),(Dd,[])] fun x=>Ae x.1
theorem Zsa1:Ah Tryz.prog 231 oN:=Zcf1 Az (fn:=Tryz.f231) (fun m x=>show run Yn jj m x jk=Ae.S (oM m m) x.1 from by kernel_rfl) (fun x=>by rw [Ztr fu fu,Zqr fu fu];rfl) (Ag ⟨⟨Zv2,Tryz.call229,nw⟩,⟨⟨Zeb,Tryz.call233,fun _=>Af rfl⟩,trivial⟩⟩)
abbrev TG:=tab.env (AM.look [(232,LZ),(231,oN),(192,Ut),(234,Ow)]) ⟨[(0,⟨tt [4,5,22,23,24],tt [11,21]⟩)],[],[(11,⟨tt [4,5],tt [11,21]⟩)],⟨tt [2,3],tt [11]⟩,[5,11,21,31,36],[192,234],[(231,[true])],[]⟩
def jl:=bd Tryz.f194
abbrev jm:=fin TG [.tmp 2, .tmp 3] [] [(.str,[]),(Dd,[])]
def oO:=rgN 5 jl
def ZU (m0 n:Nat):Bq.A1:=fun x11 x12 x13 x14=>ej TG n (.tail oO) 0 (mk [(4, .slm 11 0 x11 x12),(5, .slw 21 0)] [(11,some (.arr Ho x13 false)),(21,some (.arr Ac x14 false))]) jm
theorem Zta1 (m0:Nat):∀ n,ZU m0 n=Bq.t1 n:=ind rfl fun n _=>by kernel_rfl
def Zua1 (m0:Nat):=sqK TG m0 oO 0 jm
def Zur (m0:Nat):=AH 0 (Zua1 m0)
def Zjb:=lfN 2 (rgt (lft (rgN 4 jl)))
def oP (m0 n:Nat):Bq.A0:=fun x3 x4 x5 x6 x7 x8 x9=>ej TG n (.loop Zjb) 0 (mk [(4, .slm 11 0 x3 x4),(5, .slw 21 0),(22, .dat Dd x5 []),(23, .dat Ac x6 []),(24, .dat Ac x7 [])] [(11,some (.arr Ho x8 false)),(21,some (.arr Ac x9 false))]) (Zur m0)
theorem Zvr (m0:Nat):∀ n,oP m0 n=Bq.l0 (ZU m0 m0) n:=BL (S:=Bq.S0 (ZU m0 m0)) fun n=>by kernel_rfl
abbrev oQ:=AM.spec [.val Dd] [(.str,[]),(Dd,[])] fun x=>Bq x.1
theorem Zva1:Ah Tryz.prog 194 oQ:=Ca Az (fn:=Tryz.f194) (fun m x=>show run TG jl m x jm=Bq.S (oP m m) x.1 from by kernel_rfl) (fun x=>by rw [Zvr fu fu,Zta1 fu fu];rfl) (Ag ⟨⟨RU,Tryz.call232,nw⟩,⟨⟨Zsa1,Tryz.call231,nw⟩,⟨⟨iX,Tryz.call192,fun _=>Af rfl⟩,⟨⟨Tz,Tryz.call234,fun _=>Af rfl⟩,trivial⟩⟩⟩⟩)
abbrev OZ:=tab.env (AM.look []) (kq [(0,⟨tt [3,11,12,13],[]⟩),(2,⟨tt [3,6,11,12,13,19],[]⟩)] [] [2])
def jn:=bd Tryz.f256
abbrev Zkb:=fin OZ [.tmp 2] [] [(.str,[])]
def Zlb:=rgN 3 jn
def Zwr (m0:Nat):=sqK OZ m0 Zlb 0 Zkb
def jo (m0:Nat):=AH 0 (Zwr m0)
def PL:=lfN 2 (rgt (lft (rgN 2 jn)))
def Ux (m0 n:Nat):AS.A0:=fun x1 x2 x3 x4=>ej OZ n (.loop PL) 0 (mk [(3, .dat (.sl (.int .u8)) x1 [⟨0,193,0,0⟩]),(11, .dat AG x2 []),(12, .dat Ac x3 []),(13, .dat Ac x4 [])] []) (jo m0)
def Zxr (m0 m1:Nat):=lpK OZ m1 PL 0 (jo m0)
def Zmb:=rgN 3 PL
def Zyr (m0 m1:Nat):=sqK OZ m1 Zmb 0 (Zxr m0 m1)
def Zzr (m0 m1:Nat):=AH 1 (Zyr m0 m1)
def Zas (m0 m1:Nat):=AH 2 (Zzr m0 m1)
def Znb:=lfN 2 (rgN 3 (lfN 2 (rgN 2 PL)))
def oR (m0 m1 n:Nat):AS.A1:=fun x5 x6 x7 x8 x9 x10=>ej OZ n (.loop Znb) 2 (mk [(3, .dat (.sl (.int .u8)) x5 [⟨0,193,0,0⟩]),(6, .dat (.int .u64) x6 []),(11, .dat AG x7 []),(12, .dat Ac x8 []),(13, .dat Ac x9 []),(19, .dat Ac x10 [])] []) (Zas m0 m1)
theorem Zbs (m0 m1:Nat):∀ n,oR m0 m1 n=AS.l1 (Ux m0 m1) n:=BL (S:=AS.S1 (Ux m0 m1)) fun n=>by kernel_rfl
theorem Zcs (m0:Nat):∀ n,Ux m0 n=AS.l0 n:=ind rfl fun n e0=>(show _=AS.S0 (oR m0 n n) from by kernel_rfl).trans (by rw [Zbs m0 n n,e0];rfl)
abbrev oS:=AM.spec [.val AG] [(.str,[])] fun x=>AS x.1
theorem Zwa1:Ah Tryz.prog 256 oS:=Ca Az (fn:=Tryz.f256) (fun m x=>show run OZ jn m x Zkb=AS.S (Ux m m) x.1 from by kernel_rfl) (fun x=>by rw [Zcs fu fu];rfl) (Ag trivial)
abbrev Yo:=tab.env (AM.look []) ⟨[(0,⟨tt [0,3,9,10,11],tt [3]⟩)],[],[],⟨tt [2],tt [2,3]⟩,[2,3,27,32,33,34,44],[],[],[]⟩
def jq:=bd Tryz.f258
abbrev Zob:=fin Yo [.tmp 2] [] [(IF,[])]
def Zpb:=rgN 4 jq
def Zds (m0:Nat):=sqK Yo m0 Zpb 0 Zob
def Zes (m0:Nat):=AH 0 (Zds m0)
def Zqb:=lfN 2 (rgt (lft (rgN 3 jq)))
def oT (m0 n:Nat):DF.A0:=fun x1 x2 x3 x4 x5=>ej Yo n (.loop Zqb) 0 (mk [(0, .dat AG x1 []),(3, .slw 3 0),(9, .dat AG x2 []),(10, .dat Ac x3 []),(11, .dat Ac x4 [])] [(3,some (.arr sk x5 false))]) (Zes m0)
theorem Zfs (m0:Nat):∀ n,oT m0 n=DF.l0 n:=BL (S:=DF.S0) fun n=>by kernel_rfl
abbrev ZV:=AM.spec [.val AG] [(IF,[])] fun x=>DF x.1
theorem Zrb:Ah Tryz.prog 258 ZV:=Ca Az (fn:=Tryz.f258) (fun m x=>show run Yo jq m x Zob=DF.S (oT m m) x.1 from by kernel_rfl) (fun x=>by rw [Zfs fu fu];rfl) (Ag trivial)
abbrev Uy:=AM.EE 2 [.io (.pair (.lk false) (.sl (.int .u8))) [(1,0)], .val .str] [(Ac,[]),((.lk true),[]),((.pair (.lk false) (.sl (.int .u8))),[⟨1,1,0,0⟩])] fun x=>Dv x.1 x.2.1
theorem jr:Ah Tryz.prog 268 Uy:=rp Az (fn:=Tryz.f268) (lk:=(AM.look [(283,OI)])) (ks:=⟨[],[],[],⟨tt [4,5],tt [1000000]⟩,[],[],[],[]⟩) (ts:=[.tmp 4, .tmp 5]) (fun _=>by kernel_rfl) (Ag ⟨⟨UN,Tryz.call283,nw⟩,trivial⟩)
abbrev Yp:=tab.env (AM.look [(151,Uq),(263,MF),(268,Uy),(269,KU)]) ⟨[(0,⟨tt [6,16,17,18],tt [6]⟩)],[],[],⟨tt [2,3],[]⟩,[],[151,263],[],[]⟩
def js:=bd Tryz.f257
abbrev Zsb:=fin Yp [.tmp 2, .tmp 3] [] [(.str,[]),(Ac,[])]
def Ztb:=rgN 4 js
def Zgs (m0:Nat):=sqK Yp m0 Ztb 0 Zsb
def Zhs (m0:Nat):=AH 0 (Zgs m0)
def Zub:=lfN 2 (rgt (lft (rgN 3 js)))
def oU (m0 n:Nat):Dn.A0:=fun x2 x3 x4 x5=>ej Yp n (.loop Zub) 0 (mk [(6, .ptr 6 0 0),(16, .dat IF x2 []),(17, .dat Ac x3 []),(18, .dat Ac x4 [])] [(6,some (.var (.pair (.lk false) (.sl (.int .u8))) x5 [⟨1,64386,0,0⟩]))]) (Zhs m0)
theorem Zis (m0:Nat):∀ n,oU m0 n=Dn.l0 n:=BL (S:=Dn.S0) fun n=>by kernel_rfl
abbrev ZW:=AM.spec [.val IF] [(.str,[]),(Ac,[])] fun x=>Dn x.1
theorem Zvb:Ah Tryz.prog 257 ZW:=Ca Az (fn:=Tryz.f257) (fun m x=>show run Yp js m x Zsb=Dn.S (oU m m) x.1 from by kernel_rfl) (fun x=>by rw [Zis fu fu];rfl) (Ag ⟨⟨iE,Tryz.call151,fun _=>Af rfl⟩,⟨⟨QF,Tryz.call263,fun _=>Af rfl⟩,⟨⟨jr,Tryz.call268,nw⟩,⟨⟨OJ,Tryz.call269,nw⟩,trivial⟩⟩⟩⟩)
abbrev ZX:=AM.spec [.val Ac] [(.bool,[])] fun x=>some (cmp_isNaN_int x.1)
theorem Zwb:Ah Tryz.prog 197 ZX:=Ci Az (fn:=Tryz.f197) (lk:=(AM.look [])) (ks:=(kz [2])) (ts:=[.tmp 2]) (fun _=>by kernel_rfl) (Ag trivial)
abbrev oV:=AM.spec [.val Ac, .val Ac] [(.bool,[])] fun x=>some (cmp_Less_int x.1 x.2.1)
theorem Zxa1:Ah Tryz.prog 146 oV:=Ci Az (fn:=Tryz.f146) (lk:=(AM.look [(197,ZX)])) (ks:=⟨[],[],[],⟨tt [4],[]⟩,[],[197],[],[]⟩) (ts:=[.tmp 4]) (fun x=>(show _=cmp_Less_int.o x.1 x.2.1 from by kernel_rfl).trans (by unfold cmp_Less_int.o cmp_Less_int;simp only [Gv])) (Ag ⟨⟨Zwb,Tryz.call197,fun _=>Af rfl⟩,trivial⟩)
abbrev oW:=AM.spec [.val Ac] [(.bool,[])] fun x=>some (IM x.1)
theorem Zya1:Ah Tryz.prog 147 oW:=Ci Az (fn:=Tryz.f147) (lk:=(AM.look [])) (ks:=(kz [2])) (ts:=[.tmp 2]) (fun _=>by kernel_rfl) (Ag trivial)
abbrev Yq:=tab.env (AM.look [(146,oV),(147,oW)]) ⟨[(0,⟨tt [0,1,6,7,8],[]⟩)],[],[(8,⟨tt [0,1,6,7],[]⟩)],⟨tt [4,5],[]⟩,[],[146,147],[],[]⟩
def sK:=bd Tryz.f81
abbrev sL:=fin Yq [.tmp 4, .tmp 5] [] [(Ac,[]),(.bool,[])]
def jt:=rgN 4 sK
def ju (m0 n:Nat):Ap.A1:=fun x7 x8 x9 x10=>ej Yq n (.tail jt) 0 (mk [(0, .dat AG x7 []),(1, .dat Ac x8 []),(6, .dat Ac x9 []),(7, .dat Ac x10 [])] []) sL
theorem Zw2 (m0:Nat):∀ n,ju m0 n=Ap.t1 n:=ind rfl fun n _=>by kernel_rfl
def Zx2 (m0:Nat):=sqK Yq m0 jt 0 sL
def Zy2 (m0:Nat):=AH 0 (Zx2 m0)
def Zjs:=lfN 3 (rgN 3 sK)
def Zxb (m0 n:Nat):Ap.A0:=fun x1 x2 x3 x4 x5=>ej Yq n (.loop Zjs) 0 (mk [(0, .dat AG x1 []),(1, .dat Ac x2 []),(6, .dat Ac x3 []),(7, .dat Ac x4 []),(8, .dat Ac x5 [])] []) (Zy2 m0)
theorem Zz2 (m0:Nat):∀ n,Zxb m0 n=Ap.l0 (ju m0 m0) n:=BL (S:=Ap.S0 (ju m0 m0)) fun n=>by kernel_rfl
abbrev jv:=AM.spec [.val AG, .val Ac] [(Ac,[]),(.bool,[])] fun x=>Ap x.1 x.2.1
theorem Zcw:Ah Tryz.prog 81 jv:=Ca Az (fn:=Tryz.f81) (fun m x=>show run Yq sK m x sL=Ap.S (Zxb m m) x.1 x.2.1 from by kernel_rfl) (fun x=>by rw [Zz2 fu fu,Zw2 fu fu];rfl) (Ag ⟨⟨Zxa1,Tryz.call146,fun _=>Af rfl⟩,⟨⟨Zya1,Tryz.call147,fun _=>Af rfl⟩,trivial⟩⟩)
abbrev dk:=tab.env (AM.look [(114,Mo),(115,No),(158,Lm),(81,jv)]) ⟨[(0,⟨tt [4,5,16,17,18],tt [11]⟩)],[],[],⟨tt [2,3],tt [11]⟩,[2,4,11,12,14,15,23,33],[81],[(115,[true]),(158,[true])],[]⟩
def sM:=bd Tryz.f95
abbrev Zdw:=fin dk [.tmp 2, .tmp 3] [] [(AG,[]),(AG,[⟨0,1,0,1⟩])]
def Zks:=rgN 6 sM
def Za3 (m0:Nat):=sqK dk m0 Zks 0 Zdw
def Zb3 (m0:Nat):=AH 0 (Za3 m0)
def Zls:=lfN 2 (rgt (lft (rgN 5 sM)))
def Zyb (m0 n:Nat):Ce.A0:=fun x4 x5 x6 x7 x8 x9 x10=>ej dk n (.loop Zls) 0 (mk [(4, .slm 11 0 x4 x5),(5, .dat AG x6 [⟨0,321,0,1⟩]),(16, .dat AG x7 []),(17, .dat Ac x8 []),(18, .dat Ac x9 [])] [(11,some (.arr Ac x10 false))]) (Zb3 m0)
theorem Zc3 (m0:Nat):∀ n,Zyb m0 n=Ce.l0 n:=BL (S:=Ce.S0) fun n=>by kernel_rfl
abbrev jw:=AM.spec [.val AG] [(AG,[]),(AG,[⟨0,1,0,1⟩])] fun x=>Ce x.1
theorem Zew:Ah Tryz.prog 95 jw:=Ca Az (fn:=Tryz.f95) (fun m x=>show run dk sM m x Zdw=Ce.S (Zyb m m) x.1 from by kernel_rfl) (fun x=>by rw [Zc3 fu fu];rfl) (Ag ⟨⟨SE,Tryz.call114,nw⟩,⟨⟨UE,Tryz.call115,nw⟩,⟨⟨Re,Tryz.call158,nw⟩,⟨⟨Zcw,Tryz.call81,fun _=>Af rfl⟩,trivial⟩⟩⟩⟩)
abbrev Yr:=tab.env (AM.look [(263,MF),(268,Uy),(269,KU)]) ⟨[(0,⟨tt [4,7,8,9],tt [4]⟩)],[],[],⟨tt [2,3],[]⟩,[],[263],[],[]⟩
def jx:=bd Tryz.f271
abbrev Zzb:=fin Yr [.tmp 2, .tmp 3] [] [(.str,[]),(Ac,[])]
def Zac:=rgN 3 jx
def Zms (m0:Nat):=sqK Yr m0 Zac 0 Zzb
def Zns (m0:Nat):=AH 0 (Zms m0)
def Zbc:=lfN 2 (rgt (lft (rgN 2 jx)))
def oX (m0 n:Nat):DD.A0:=fun x1 x2 x3 x4=>ej Yr n (.loop Zbc) 0 (mk [(4, .ptr 4 0 0),(7, .dat AG x1 []),(8, .dat Ac x2 []),(9, .dat Ac x3 [])] [(4,some (.var (.pair (.lk false) (.sl (.int .u8))) x4 [⟨1,64258,0,0⟩]))]) (Zns m0)
theorem Zos (m0:Nat):∀ n,oX m0 n=DD.l0 n:=BL (S:=DD.S0) fun n=>by kernel_rfl
abbrev oY:=AM.spec [.val AG] [(.str,[]),(Ac,[])] fun x=>DD x.1
theorem Zza1:Ah Tryz.prog 271 oY:=Ca Az (fn:=Tryz.f271) (fun m x=>show run Yr jx m x Zzb=DD.S (oX m m) x.1 from by kernel_rfl) (fun x=>by rw [Zos fu fu];rfl) (Ag ⟨⟨QF,Tryz.call263,fun _=>Af rfl⟩,⟨⟨jr,Tryz.call268,nw⟩,⟨⟨OJ,Tryz.call269,nw⟩,trivial⟩⟩⟩)
abbrev oZ:=AM.spec [.val AG, .fn 271 []] [(.str,[]),(Ac,[])] fun x=>Hs x.1
theorem Zab1:Ah Tryz.prog 270 oZ:=Ci Az (fn:=Tryz.f270) (lk:=(AM.look [(95,jw),(271,oY),(202,Ls),(234,Ow),(263,MF)])) (ks:=⟨[],[],[],⟨tt [4,5],[]⟩,[],[202,234,263,271],[],[]⟩) (ts:=[.tmp 4, .tmp 5]) (fun _=>by kernel_rfl) (Ag ⟨⟨Zew,Tryz.call95,nw⟩,⟨⟨Zza1,Tryz.call271,fun _=>Af rfl⟩,⟨⟨OW,Tryz.call202,fun _=>Af rfl⟩,⟨⟨Tz,Tryz.call234,fun _=>Af rfl⟩,⟨⟨QF,Tryz.call263,fun _=>Af rfl⟩,trivial⟩⟩⟩⟩⟩)
abbrev pa:=AM.spec [.val AG] [(.str,[]),(Ac,[])] fun x=>LA x.1
theorem Zbb1:Ah Tryz.prog 259 pa:=Ci Az (fn:=Tryz.f259) (lk:=(AM.look [(270,oZ)])) (ks:=⟨[],[],[],⟨tt [2,3],[]⟩,[],[270],[],[]⟩) (ts:=[.tmp 2, .tmp 3]) (fun _=>by kernel_rfl) (Ag ⟨⟨Zab1,Tryz.call270,fun _=>Af rfl⟩,trivial⟩)
abbrev pb:=AM.spec [.val AG, .val Ac] [(.str,[]),(Ac,[])] fun x=>Hv x.1 x.2.1
theorem Zcb1:Ah Tryz.prog 235 pb:=Ci Az (fn:=Tryz.f235) (lk:=(AM.look [(256,oS),(258,ZV),(257,ZW),(254,ZH),(259,pa),(202,Ls),(234,Ow)])) (ks:=⟨[],[],[],⟨tt [4,5],[]⟩,[],[202,234,254,256,257,259],[],[]⟩) (ts:=[.tmp 4, .tmp 5]) (fun _=>by kernel_rfl) (Ag ⟨⟨Zwa1,Tryz.call256,fun _=>Af rfl⟩,⟨⟨Zrb,Tryz.call258,nw⟩,⟨⟨Zvb,Tryz.call257,fun _=>Af rfl⟩,⟨⟨zU,Tryz.call254,fun _=>Af rfl⟩,⟨⟨Zbb1,Tryz.call259,fun _=>Af rfl⟩,⟨⟨OW,Tryz.call202,fun _=>Af rfl⟩,⟨⟨Tz,Tryz.call234,fun _=>Af rfl⟩,trivial⟩⟩⟩⟩⟩⟩⟩)
abbrev pc:=AM.EE 1 [.io (.pair (.lk false) (.sl (.int .u8))) [(1,0)], .val (.int .u8)] [((.lk true),[]),((.pair (.lk false) (.sl (.int .u8))),[⟨1,1,0,0⟩])] fun x=>Fo x.1 x.2.1
theorem Zdb1:Ah Tryz.prog 272 pc:=rp Az (fn:=Tryz.f272) (lk:=(AM.look [(283,OI)])) (ks:=⟨[],[],[],⟨tt [4],tt [1000000]⟩,[],[],[],[]⟩) (ts:=[.tmp 4]) (fun _=>by kernel_rfl) (Ag ⟨⟨UN,Tryz.call283,nw⟩,trivial⟩)
abbrev Ys:=tab.env (AM.look [(272,pc),(268,Uy),(269,KU)]) (kq [(0,⟨tt [4,7,8,9],tt [4]⟩)] [] [2,3])
def jy:=bd Tryz.f260
abbrev Zcc:=fin Ys [.tmp 2, .tmp 3] [] [(.str,[]),(Ac,[])]
def Zdc:=rgN 3 jy
def Zps (m0:Nat):=sqK Ys m0 Zdc 0 Zcc
def Zqs (m0:Nat):=AH 0 (Zps m0)
def Zec:=lfN 2 (rgt (lft (rgN 2 jy)))
def pd (m0 n:Nat):BS.A0:=fun x1 x2 x3 x4=>ej Ys n (.loop Zec) 0 (mk [(4, .ptr 4 0 0),(7, .dat Dg x1 []),(8, .dat Ac x2 []),(9, .dat Ac x3 [])] [(4,some (.var (.pair (.lk false) (.sl (.int .u8))) x4 [⟨1,64258,0,0⟩]))]) (Zqs m0)
theorem Zrs (m0:Nat):∀ n,pd m0 n=BS.l0 n:=BL (S:=BS.S0) fun n=>by kernel_rfl
abbrev ZY:=AM.spec [.val Dg] [(.str,[]),(Ac,[])] fun x=>BS x.1
theorem Zfc:Ah Tryz.prog 260 ZY:=Ca Az (fn:=Tryz.f260) (fun m x=>show run Ys jy m x Zcc=BS.S (pd m m) x.1 from by kernel_rfl) (fun x=>by rw [Zrs fu fu];rfl) (Ag ⟨⟨Zdb1,Tryz.call272,nw⟩,⟨⟨jr,Tryz.call268,nw⟩,⟨⟨OJ,Tryz.call269,nw⟩,trivial⟩⟩⟩)
abbrev pe:=AM.spec [.val .str] [(.bool,[])] fun x=>some (cmp_isNaN_string x.1)
theorem Zeb1:Ah Tryz.prog 296 pe:=Ci Az (fn:=Tryz.f296) (lk:=(AM.look [])) (ks:=(kz [2])) (ts:=[.tmp 2]) (fun _=>by kernel_rfl) (Ag trivial)
abbrev pf:=AM.spec [.val .str, .val .str] [(.bool,[])] fun x=>some (cmp_Less_string x.1 x.2.1)
theorem Zfb1:Ah Tryz.prog 285 pf:=Ci Az (fn:=Tryz.f285) (lk:=(AM.look [(296,pe)])) (ks:=⟨[],[],[],⟨tt [4],[]⟩,[],[296],[],[]⟩) (ts:=[.tmp 4]) (fun x=>(show _=cmp_Less_string.o x.1 x.2.1 from by kernel_rfl).trans (by unfold cmp_Less_string.o cmp_Less_string;simp only [Gv])) (Ag ⟨⟨Zeb1,Tryz.call296,fun _=>Af rfl⟩,trivial⟩)
abbrev pg:=AM.spec [.val .str] [(.bool,[])] fun x=>some (Jo x.1)
theorem Zgb1:Ah Tryz.prog 286 pg:=Ci Az (fn:=Tryz.f286) (lk:=(AM.look [])) (ks:=(kz [2])) (ts:=[.tmp 2]) (fun _=>by kernel_rfl) (Ag trivial)
abbrev TH:=tab.env (AM.look [(285,pf),(286,pg)]) ⟨[(0,⟨tt [0,1,6,7,8],[]⟩)],[],[(8,⟨tt [0,1,6,7],[]⟩)],⟨tt [4,5],[]⟩,[],[285,286],[],[]⟩
def jz:=bd Tryz.f277
abbrev jA:=fin TH [.tmp 4, .tmp 5] [] [(Ac,[]),(.bool,[])]
def bN:=rgN 4 jz
def ZZ (m0 n:Nat):Ar.A1:=fun x7 x8 x9 x10=>ej TH n (.tail bN) 0 (mk [(0, .dat Dg x7 []),(1, .dat .str x8 []),(6, .dat Ac x9 []),(7, .dat Ac x10 [])] []) jA
theorem Zss (m0:Nat):∀ n,ZZ m0 n=Ar.t1 n:=ind rfl fun n _=>by kernel_rfl
def Zts (m0:Nat):=sqK TH m0 bN 0 jA
def Zus (m0:Nat):=AH 0 (Zts m0)
def Zgc:=lfN 3 (rgN 3 jz)
def ph (m0 n:Nat):Ar.A0:=fun x1 x2 x3 x4 x5=>ej TH n (.loop Zgc) 0 (mk [(0, .dat Dg x1 []),(1, .dat .str x2 []),(6, .dat Ac x3 []),(7, .dat Ac x4 []),(8, .dat Ac x5 [])] []) (Zus m0)
theorem Zvs (m0:Nat):∀ n,ph m0 n=Ar.l0 (ZZ m0 m0) n:=BL (S:=Ar.S0 (ZZ m0 m0)) fun n=>by kernel_rfl
abbrev pj:=AM.spec [.val Dg, .val .str] [(Ac,[]),(.bool,[])] fun x=>Ar x.1 x.2.1
theorem Zhb1:Ah Tryz.prog 277 pj:=Ca Az (fn:=Tryz.f277) (fun m x=>show run TH jz m x jA=Ar.S (ph m m) x.1 x.2.1 from by kernel_rfl) (fun x=>by rw [Zvs fu fu,Zss fu fu];rfl) (Ag ⟨⟨Zfb1,Tryz.call285,fun _=>Af rfl⟩,⟨⟨Zgb1,Tryz.call286,fun _=>Af rfl⟩,trivial⟩⟩)
abbrev Yt:=tab.env (AM.look [(274,Ky),(275,Ll),(276,JM),(277,pj)]) ⟨[(0,⟨tt [4,5,16,17,18],tt [11]⟩)],[],[],⟨tt [2,3],tt [11]⟩,[2,4,11,12,14,15,23,33],[277],[(275,[true]),(276,[true])],[]⟩
def jB:=bd Tryz.f262
abbrev Zhc:=fin Yt [.tmp 2, .tmp 3] [] [(Dg,[]),(AG,[⟨0,1,0,1⟩])]
def Zic:=rgN 6 jB
def Zws (m0:Nat):=sqK Yt m0 Zic 0 Zhc
def Zxs (m0:Nat):=AH 0 (Zws m0)
def Zjc:=lfN 2 (rgt (lft (rgN 5 jB)))
def pk (m0 n:Nat):BK.A0:=fun x4 x5 x6 x7 x8 x9 x10=>ej Yt n (.loop Zjc) 0 (mk [(4, .slm 11 0 x4 x5),(5, .dat AG x6 [⟨0,321,0,1⟩]),(16, .dat Dg x7 []),(17, .dat Ac x8 []),(18, .dat Ac x9 [])] [(11,some (.arr .str x10 false))]) (Zxs m0)
theorem Zys (m0:Nat):∀ n,pk m0 n=BK.l0 n:=BL (S:=BK.S0) fun n=>by kernel_rfl
abbrev ae:=AM.spec [.val Dg] [(Dg,[]),(AG,[⟨0,1,0,1⟩])] fun x=>BK x.1
theorem Zkc:Ah Tryz.prog 262 ae:=Ca Az (fn:=Tryz.f262) (fun m x=>show run Yt jB m x Zhc=BK.S (pk m m) x.1 from by kernel_rfl) (fun x=>by rw [Zys fu fu];rfl) (Ag ⟨⟨Qo,Tryz.call274,nw⟩,⟨⟨Rc,Tryz.call275,nw⟩,⟨⟨Pc,Tryz.call276,nw⟩,⟨⟨Zhb1,Tryz.call277,fun _=>Af rfl⟩,trivial⟩⟩⟩⟩)
abbrev pn:=AM.spec [.val Dg, .fn 260 []] [(.str,[]),(Ac,[])] fun x=>FL x.1
theorem Zib1:Ah Tryz.prog 273 pn:=Ci Az (fn:=Tryz.f273) (lk:=(AM.look [(262,ae),(260,ZY),(202,Ls),(234,Ow),(263,MF)])) (ks:=⟨[],[],[],⟨tt [4,5],[]⟩,[],[202,234,260,263],[],[]⟩) (ts:=[.tmp 4, .tmp 5]) (fun _=>by kernel_rfl) (Ag ⟨⟨Zkc,Tryz.call262,nw⟩,⟨⟨Zfc,Tryz.call260,fun _=>Af rfl⟩,⟨⟨OW,Tryz.call202,fun _=>Af rfl⟩,⟨⟨Tz,Tryz.call234,fun _=>Af rfl⟩,⟨⟨QF,Tryz.call263,fun _=>Af rfl⟩,trivial⟩⟩⟩⟩⟩)
abbrev po:=AM.spec [.val Dg] [(.str,[]),(Ac,[])] fun x=>KN x.1
theorem Zjb1:Ah Tryz.prog 261 po:=Ci Az (fn:=Tryz.f261) (lk:=(AM.look [(273,pn)])) (ks:=⟨[],[],[],⟨tt [2,3],[]⟩,[],[273],[],[]⟩) (ts:=[.tmp 2, .tmp 3]) (fun _=>by kernel_rfl) (Ag ⟨⟨Zib1,Tryz.call273,fun _=>Af rfl⟩,trivial⟩)
abbrev pq:=AM.spec [.val Dg, .val Ac] [(.str,[]),(Ac,[])] fun x=>Jj x.1 x.2.1
theorem Zkb1:Ah Tryz.prog 236 pq:=Ci Az (fn:=Tryz.f236) (lk:=(AM.look [(260,ZY),(261,po),(262,ae),(258,ZV),(257,ZW),(263,MF)])) (ks:=⟨[],[],[],⟨tt [4,5],[]⟩,[],[257,260,261,263],[],[]⟩) (ts:=[.tmp 4, .tmp 5]) (fun _=>by kernel_rfl) (Ag ⟨⟨Zfc,Tryz.call260,fun _=>Af rfl⟩,⟨⟨Zjb1,Tryz.call261,fun _=>Af rfl⟩,⟨⟨Zkc,Tryz.call262,nw⟩,⟨⟨Zrb,Tryz.call258,nw⟩,⟨⟨Zvb,Tryz.call257,fun _=>Af rfl⟩,⟨⟨QF,Tryz.call263,fun _=>Af rfl⟩,trivial⟩⟩⟩⟩⟩⟩)
abbrev TI:=tab.env (AM.look [(235,pb),(236,pq)]) ⟨[(0,⟨tt [1,2,8,9,12,13,14],[]⟩)],[],[(8,⟨tt [1,2,8,9],[]⟩)],⟨tt [6,7],[]⟩,[],[235,236],[],[21,26]⟩
def jC:=bd Tryz.f195
abbrev jD:=fin TI [.tmp 6, .tmp 7] [] [(.str,[]),(Ac,[])]
def bO:=rgN 4 jC
def af (m0 n:Nat):Bh.A1:=fun x8 x9 x10 x11=>ej TI n (.tail bO) 0 (mk [(1, .dat Ac x8 []),(2, .dat Ac x9 []),(8, .dat AG x10 [⟨0,513,0,1⟩]),(9, .dat Dg x11 [⟨0,577,0,1⟩])] []) jD
theorem Zzs (m0:Nat):∀ n,af m0 n=Bh.t1 n:=ind rfl fun n _=>by kernel_rfl
def Zat (m0:Nat):=sqK TI m0 bO 0 jD
def Zbt (m0:Nat):=AH 0 (Zat m0)
def Zlc:=lfN 2 (rgt (lft (rgN 3 jC)))
def pr (m0 n:Nat):Bh.A0:=fun x1 x2 x3 x4 x5 x6 x7=>ej TI n (.loop Zlc) 0 (mk [(1, .dat Ac x1 []),(2, .dat Ac x2 []),(8, .dat AG x3 [⟨0,513,0,1⟩]),(9, .dat Dg x4 [⟨0,577,0,1⟩]),(12, .dat Dd x5 []),(13, .dat Ac x6 []),(14, .dat Ac x7 [])] []) (Zbt m0)
theorem Zct (m0:Nat):∀ n,pr m0 n=Bh.l0 (af m0 m0) n:=BL (S:=Bh.S0 (af m0 m0)) fun n=>by kernel_rfl
abbrev pt:=AM.spec [.val Dd, .val Ac, .val Ac] [(.str,[]),(Ac,[])] fun x=>Bh x.1 x.2.1 x.2.2.1
theorem Zlb1:Ah Tryz.prog 195 pt:=Ca Az (fn:=Tryz.f195) (fun m x=>show run TI jC m x jD=Bh.S (pr m m) x.1 x.2.1 x.2.2.1 from by kernel_rfl) (fun x=>by rw [Zct fu fu,Zzs fu fu];rfl) (Ag ⟨⟨Zcb1,Tryz.call235,fun _=>Af rfl⟩,⟨⟨Zkb1,Tryz.call236,fun _=>Af rfl⟩,trivial⟩⟩)
abbrev pv:=AM.spec [.val Dd, .val Ac, .val Ac] [(.str,[]),(Ac,[])] fun x=>Gt x.1 x.2.1 x.2.2.1
theorem Zmb1:Ah Tryz.prog 143 pv:=Ci Az (fn:=Tryz.f143) (lk:=(AM.look [(193,oK),(194,oQ),(195,pt),(187,Zy)])) (ks:=⟨[],[],[],⟨tt [6,7],[]⟩,[],[187,193,195],[],[]⟩) (ts:=[.tmp 6, .tmp 7]) (fun _=>by kernel_rfl) (Ag ⟨⟨Zra1,Tryz.call193,fun _=>Af rfl⟩,⟨⟨Zva1,Tryz.call194,nw⟩,⟨⟨Zlb1,Tryz.call195,fun _=>Af rfl⟩,⟨⟨yS,Tryz.call187,fun _=>Af rfl⟩,trivial⟩⟩⟩⟩)
abbrev Yu:=AM.spec [.val .str] [((.pair Zl (.pair .str (.pair .str Dd))),[]),(.bool,[])] fun x=>HD x.1
theorem sN:Ah Tryz.prog 79 Yu:=Ci Az (fn:=Tryz.f79) (lk:=(AM.look [(139,nd),(140,ZB),(141,oE),(142,oH),(143,pv)])) (ks:=⟨[],[],[],⟨tt [2,3],tt [2]⟩,[],[139,140,143],[],[]⟩) (ts:=[.cell 2 128, .tmp 3]) (fun _=>by kernel_rfl) (Ag ⟨⟨Zm9,Tryz.call139,fun _=>Af rfl⟩,⟨⟨zh,Tryz.call140,fun _=>Af rfl⟩,⟨⟨Zoa1,Tryz.call141,nw⟩,⟨⟨Zpa1,Tryz.call142,nw⟩,⟨⟨Zmb1,Tryz.call143,fun _=>Af rfl⟩,trivial⟩⟩⟩⟩⟩)
abbrev Zmc:=AM.spec [.val .str] [(Dd,[]),(Ac,[])] fun x=>EI x.1
theorem Zfw:Ah Tryz.prog 39 Zmc:=Ci Az (fn:=Tryz.f39) (lk:=(AM.look [(79,Yu)])) (ks:=(kz [2,3])) (ts:=[.tmp 2, .tmp 3]) (fun _=>by kernel_rfl) (Ag ⟨⟨sN,Tryz.call79,nw⟩,trivial⟩)
abbrev jE:=AM.spec [.val .str] [(Zl,[]),(Ac,[])] fun x=>GK x.1
theorem Zgw:Ah Tryz.prog 43 jE:=Ci Az (fn:=Tryz.f43) (lk:=(AM.look [(79,Yu)])) (ks:=⟨[],[],[],⟨tt [2,3],tt [2]⟩,[],[],[],[]⟩) (ts:=[.cell 2 83, .tmp 3]) (fun _=>by kernel_rfl) (Ag ⟨⟨sN,Tryz.call79,nw⟩,trivial⟩)
abbrev Znc:=AM.spec [.val .str] [(.str,[]),(.str,[]),(Ac,[])] fun x=>LB x.1
theorem Zyf1:Ah Tryz.prog 48 Znc:=Ci Az (fn:=Tryz.f48) (lk:=(AM.look [(79,Yu)])) (ks:=(kz [2,3,4])) (ts:=[.tmp 2, .tmp 3, .tmp 4]) (fun _=>by kernel_rfl) (Ag ⟨⟨sN,Tryz.call79,nw⟩,trivial⟩)
abbrev dm:=tab.env (AM.look []) (kq [(0,⟨tt [0,1,5],[]⟩)] [] [4])
def sO:=bd Tryz.f16
abbrev Zhw:=fin dm [.tmp 4] [] [(.bool,[])]
def Zdt:=rgN 3 sO
def Zd3 (m0:Nat):=sqK dm m0 Zdt 0 Zhw
def Ze3 (m0:Nat):=AH 0 (Zd3 m0)
def Zet:=lfN 2 (rgt (lft (rgN 2 sO)))
def Zoc (m0 n:Nat):Cx.A0:=fun x1 x2 x3=>ej dm n (.loop Zet) 0 (mk [(0, .dat Dd x1 []),(1, .dat Dd x2 []),(5, .dat Ac x3 [])] []) (Ze3 m0)
theorem Zf3 (m0:Nat):∀ n,Zoc m0 n=Cx.l0 n:=BL (S:=Cx.S0) fun n=>by kernel_rfl
abbrev jF:=AM.spec [.val Dd, .val Dd] [(.bool,[])] fun x=>Cx x.1 x.2.1
theorem Ziw:Ah Tryz.prog 16 jF:=Ca Az (fn:=Tryz.f16) (fun m x=>show run dm sO m x Zhw=Cx.S (Zoc m m) x.1 x.2.1 from by kernel_rfl) (fun x=>by rw [Zf3 fu fu];rfl) (Ag trivial)
abbrev pz:=AM.spec [.val Ac] [(.bool,[])] fun x=>some (Le x.1)
theorem Znb1:Ah Tryz.prog 113 pz:=Ci Az (fn:=Tryz.f113) (lk:=(AM.look [])) (ks:=(kz [2])) (ts:=[.tmp 2]) (fun x=>(show _=Le.o x.1 from by kernel_rfl).trans (by unfold Le.o Le;simp only [Gv])) (Ag trivial)
abbrev Yv:=tab.env (AM.look [(113,pz)]) ⟨[(0,⟨tt [0,1,7,8],[]⟩)],[],[],⟨tt [4],[]⟩,[],[113],[],[]⟩
def jG:=bd Tryz.f169
abbrev Zpc:=fin Yv [.tmp 4] [] [(Ac,[])]
def Zqc:=rgN 2 jG
def Zft (m0:Nat):=sqK Yv m0 Zqc 0 Zpc
def Zgt (m0:Nat):=AH 0 (Zft m0)
def Zrc:=lfN 2 (rgt (lft (rgt jG)))
def pA (m0 n:Nat):AR.A0:=fun x1 x2 x3=>ej Yv n (.loop Zrc) 0 (mk [(0, .dat AG x1 []),(1, .fn 113 []),(7, .dat Ac x2 []),(8, .dat Ac x3 [])] []) (Zgt m0)
theorem Zht (m0:Nat):∀ n,pA m0 n=AR.l0 n:=BL (S:=AR.S0) fun n=>by kernel_rfl
abbrev pB:=AM.spec [.val AG, .fn 113 []] [(Ac,[])] fun x=>AR x.1
theorem Zob1:Ah Tryz.prog 169 pB:=Ca Az (fn:=Tryz.f169) (fun m x=>show run Yv jG m x Zpc=AR.S (pA m m) x.1 from by kernel_rfl) (fun x=>by rw [Zht fu fu];rfl) (Ag ⟨⟨Znb1,Tryz.call113,fun _=>Af rfl⟩,trivial⟩)
abbrev IG:=AM.spec [.val AG, .fn 113 []] [(.bool,[])] fun x=>CZ x.1
theorem Ja:Ah Tryz.prog 112 IG:=Ci Az (fn:=Tryz.f112) (lk:=(AM.look [(169,pB)])) (ks:=⟨[],[],[],⟨tt [4],[]⟩,[],[169],[],[]⟩) (ts:=[.tmp 4]) (fun _=>by kernel_rfl) (Ag ⟨⟨Zob1,Tryz.call169,fun _=>Af rfl⟩,trivial⟩)
abbrev jH:=AM.spec [.val Ac, .val Ac] [(Ac,[])] fun x=>GV x.1 x.2.1
theorem kI:Ah Tryz.prog 85 jH:=Ci Az (fn:=Tryz.f85) (lk:=(AM.look [(148,Up)])) (ks:=⟨[],[],[],⟨tt [4],[]⟩,[],[148],[],[]⟩) (ts:=[.tmp 4]) (fun _=>by kernel_rfl) (Ag ⟨⟨iB,Tryz.call148,fun _=>Af rfl⟩,trivial⟩)
abbrev Pa:=AM.spec [.val AG] [(.bool,[])] fun x=>FK x.1
theorem PX:Ah Tryz.prog 109 Pa:=Ci Az (fn:=Tryz.f109) (lk:=(AM.look [])) (ks:=(kz [2])) (ts:=[.tmp 2]) (fun _=>by kernel_rfl) (Ag trivial)
abbrev KI:=tab.env (AM.look []) (kq [] [(8,⟨tt [3,5],[]⟩),(14,⟨tt [3,5],[]⟩)] [2])
def Mn:=bd Tryz.f196
abbrev Zsc:=fin KI [.tmp 2] [] [(Ac,[])]
def Ztc:=rgN 3 Mn
def Zit (m0:Nat):=sqK KI m0 Ztc 0 Zsc
def Zjt (m0:Nat):=AH 0 (Zit m0)
def Zuc:=rgt (lft (rgt (lft (rgN 2 Mn))))
def Zkt (m0:Nat):=sqK KI m0 Zuc 0 (Zjt m0)
def Zlt (m0:Nat):=AH 4 (Zkt m0)
def Zvc:=rgt (lfN 3 (rgt (lft (rgN 2 Mn))))
def Zmt (m0:Nat):=sqK KI m0 Zvc 4 (Zlt m0)
def Znt (m0:Nat):=AH 3 (Zmt m0)
def Zwc:=rgt (lfN 5 (rgt (lft (rgN 2 Mn))))
def Zot (m0:Nat):=sqK KI m0 Zwc 3 (Znt m0)
def Zpt (m0:Nat):=AH 2 (Zot m0)
def Zxc:=rgt (lfN 7 (rgt (lft (rgN 2 Mn))))
def Zqt (m0:Nat):=sqK KI m0 Zxc 2 (Zpt m0)
def Zyc (m0:Nat):=AH 1 (Zqt m0)
def Zzc:=rgt (lfN 9 (rgt (lft (rgN 2 Mn))))
def bP (m0:Nat):=sqK KI m0 Zzc 1 (Zyc m0)
def Zad:=rgN 3 (lfN 10 (rgt (lft (rgN 2 Mn))))
def pC (m0 n:Nat):CU.A1:=fun x3 x4=>ej KI n (.tail Zad) 1 (mk [(3, .dat Ac x3 []),(5, .dat (.int .u64) x4 [])] []) (bP m0)
theorem Zrt (m0 m1:Nat):∀ n,pC m0 n=CU.t1 n:=ind rfl fun n _=>by kernel_rfl
def Zbd:=rgN 2 (lfN 10 (rgt (lft (rgN 2 Mn))))
def pD (m0 n:Nat):CU.A0:=fun x1 x2=>ej KI n (.tail Zbd) 1 (mk [(3, .dat Ac x1 []),(5, .dat (.int .u64) x2 [])] []) (bP m0)
theorem Zst (m0:Nat):∀ n,pD m0 n=CU.t0 n:=ind rfl fun n _=>(show _=CU.S0 (pC m0 n) from by kernel_rfl).trans (by rw [Zrt m0 n n];rfl)
abbrev pE:=AM.spec [.val (.int .u64)] [(Ac,[])] fun x=>CU x.1
theorem Zpb1:Ah Tryz.prog 196 pE:=Ca Az (fn:=Tryz.f196) (fun m x=>show run KI Mn m x Zsc=CU.S (pD m m) x.1 from by kernel_rfl) (fun x=>by rw [Zst fu fu];rfl) (Ag trivial)
abbrev Yw:=tab.env (AM.look [(196,pE)]) ⟨[(0,⟨tt [0,3,5],[]⟩)],[],[],⟨tt [2],[]⟩,[],[196],[],[]⟩
def jI:=bd Tryz.f144
abbrev Zcd:=fin Yw [.tmp 2] [] [(Ac,[])]
def Zdd:=rgN 3 jI
def Ztt (m0:Nat):=sqK Yw m0 Zdd 0 Zcd
def Zut (m0:Nat):=AH 0 (Ztt m0)
def Zed:=lfN 2 (rgt (lft (rgN 2 jI)))
def pF (m0 n:Nat):Dr.A0:=fun x1 x2 x3=>ej Yw n (.loop Zed) 0 (mk [(0, .dat Ac x1 []),(3, .dat Ac x2 []),(5, .dat Ac x3 [])] []) (Zut m0)
theorem Zvt (m0:Nat):∀ n,pF m0 n=Dr.l0 n:=BL (S:=Dr.S0) fun n=>by kernel_rfl
abbrev ag:=AM.spec [.val Ac] [(Ac,[])] fun x=>Dr x.1
theorem Zfd:Ah Tryz.prog 144 ag:=Ca Az (fn:=Tryz.f144) (fun m x=>show run Yw jI m x Zcd=Dr.S (pF m m) x.1 from by kernel_rfl) (fun x=>by rw [Zvt fu fu];rfl) (Ag ⟨⟨Zpb1,Tryz.call196,fun _=>Af rfl⟩,trivial⟩)
abbrev ah:=AM.spec [.val Ac, .val Ac] [(.bool,[])] fun x=>some (Fz x.1 x.2.1)
theorem Zgd:Ah Tryz.prog 185 ah:=Ci Az (fn:=Tryz.f185) (lk:=(AM.look [])) (ks:=(kz [4])) (ts:=[.tmp 4]) (fun x=>(show _=Fz.o x.1 x.2.1 from by kernel_rfl).trans (by unfold Fz.o Fz;simp only [Gv])) (Ag trivial)
abbrev pG:=AM.spec [.val Ac, .val Ac, .val Ac] [(Ac,[])] fun x=>NT x.1 x.2.1 x.2.2.1
theorem Zqb1:Ah Tryz.prog 145 pG:=Ci Az (fn:=Tryz.f145) (lk:=(AM.look [(185,ah),(186,QC)])) (ks:=⟨[],[],[],⟨tt [6],[]⟩,[],[185,186],[],[]⟩) (ts:=[.tmp 6]) (fun _=>by kernel_rfl) (Ag ⟨⟨Zgd,Tryz.call185,fun _=>Af rfl⟩,⟨⟨XR,Tryz.call186,fun _=>Af rfl⟩,trivial⟩⟩)
abbrev dn:=tab.env (AM.look [(109,Pa),(144,ag),(145,pG)]) ⟨[(0,⟨tt [1,5,16,17,18],[]⟩)],[],[],⟨tt [4],[]⟩,[],[109,144,145],[],[]⟩
def sP:=bd Tryz.f80
abbrev Zjw:=fin dn [.tmp 4] [] [(Ac,[])]
def Zwt:=rgN 4 sP
def Zg3 (m0:Nat):=sqK dn m0 Zwt 0 Zjw
def Zh3 (m0:Nat):=AH 0 (Zg3 m0)
def Zxt:=lfN 2 (rgt (lft (rgN 3 sP)))
def Zhd (m0 n:Nat):CM.A0:=fun x2 x3 x4 x5 x6=>ej dn n (.loop Zxt) 0 (mk [(1, .dat Ac x2 []),(5, .dat Ac x3 []),(16, .dat AG x4 []),(17, .dat Ac x5 []),(18, .dat Ac x6 [])] []) (Zh3 m0)
theorem Zi3 (m0:Nat):∀ n,Zhd m0 n=CM.l0 n:=BL (S:=CM.S0) fun n=>by kernel_rfl
abbrev Zid:=AM.spec [.val AG, .val Ac] [(Ac,[])] fun x=>CM x.1 x.2.1
theorem Zzf1:Ah Tryz.prog 80 Zid:=Ca Az (fn:=Tryz.f80) (fun m x=>show run dn sP m x Zjw=CM.S (Zhd m m) x.1 x.2.1 from by kernel_rfl) (fun x=>by rw [Zi3 fu fu];rfl) (Ag ⟨⟨PX,Tryz.call109,fun _=>Af rfl⟩,⟨⟨Zfd,Tryz.call144,fun _=>Af rfl⟩,⟨⟨Zqb1,Tryz.call145,fun _=>Af rfl⟩,trivial⟩⟩⟩)
abbrev dp:=tab.env (AM.look []) (kq [(0,⟨tt [3,6,7,8],[]⟩)] [] [2])
def sQ:=bd Tryz.f35
abbrev Zkw:=fin dp [.tmp 2] [] [(.bool,[])]
def Zyt:=rgN 3 sQ
def Zj3 (m0:Nat):=sqK dp m0 Zyt 0 Zkw
def Zk3 (m0:Nat):=AH 0 (Zj3 m0)
def Zzt:=lfN 2 (rgt (lft (rgN 2 sQ)))
def Zjd (m0 n:Nat):Du.A0:=fun x1 x2 x3 x4=>ej dp n (.loop Zzt) 0 (mk [(3, .dat Ac x1 []),(6, .dat FD x2 []),(7, .dat Ac x3 []),(8, .dat Ac x4 [])] []) (Zk3 m0)
theorem Zl3 (m0:Nat):∀ n,Zjd m0 n=Du.l0 n:=BL (S:=Du.S0) fun n=>by kernel_rfl
abbrev Pb:=AM.spec [.val FD] [(.bool,[])] fun x=>Du x.1
theorem Uz:Ah Tryz.prog 35 Pb:=Ca Az (fn:=Tryz.f35) (fun m x=>show run dp sQ m x Zkw=Du.S (Zjd m m) x.1 from by kernel_rfl) (fun x=>by rw [Zl3 fu fu];rfl) (Ag trivial)
abbrev dq:=tab.env (AM.look [(35,Pb)]) ⟨[(0,⟨tt [1,5,12,13,14],[]⟩)],[],[],⟨tt [4],[]⟩,[],[35],[],[]⟩
def sR:=bd Tryz.f82
abbrev Zlw:=fin dq [.tmp 4] [] [(Ac,[])]
def Zau:=rgN 4 sR
def Zm3 (m0:Nat):=sqK dq m0 Zau 0 Zlw
def Zn3 (m0:Nat):=AH 0 (Zm3 m0)
def Zbu:=lfN 2 (rgt (lft (rgt (lft (rgN 3 sR)))))
def Zkd (m0 n:Nat):Ds.A0:=fun x2 x3 x4 x5 x6=>ej dq n (.loop Zbu) 0 (mk [(1, .dat Ac x2 []),(5, .dat Ac x3 []),(12, .dat FD x4 []),(13, .dat Ac x5 []),(14, .dat Ac x6 [])] []) (Zn3 m0)
theorem Zo3 (m0:Nat):∀ n,Zkd m0 n=Ds.l0 n:=BL (S:=Ds.S0) fun n=>by kernel_rfl
abbrev Zld:=AM.spec [.val FD, .val Ac] [(Ac,[])] fun x=>Ds x.1 x.2.1
theorem Zag1:Ah Tryz.prog 82 Zld:=Ca Az (fn:=Tryz.f82) (fun m x=>show run dq sR m x Zlw=Ds.S (Zkd m m) x.1 x.2.1 from by kernel_rfl) (fun x=>by rw [Zo3 fu fu];rfl) (Ag ⟨⟨Uz,Tryz.call35,fun _=>Af rfl⟩,trivial⟩)
abbrev RH:=AM.spec [.val Kk, .val Ac] [(Ac,[])] fun x=>Dh x.1 x.2.1
theorem RV:Ah Tryz.prog 40 RH:=Ci Az (fn:=Tryz.f40) (lk:=(AM.look [(80,Zid),(81,jv),(82,Zld)])) (ks:=⟨[],[],[],⟨tt [4],[]⟩,[],[80,81,82],[],[]⟩) (ts:=[.tmp 4]) (fun _=>by kernel_rfl) (Ag ⟨⟨Zzf1,Tryz.call80,fun _=>Af rfl⟩,⟨⟨Zcw,Tryz.call81,fun _=>Af rfl⟩,⟨⟨Zag1,Tryz.call82,fun _=>Af rfl⟩,trivial⟩⟩⟩)
abbrev du:=tab.env (AM.look [(109,Pa),(144,ag)]) ⟨[(0,⟨tt [3,8,9,10],[]⟩)],[],[],⟨tt [2],[]⟩,[],[109,144],[],[]⟩
def sS:=bd Tryz.f83
abbrev Zmw:=fin du [.tmp 2] [] [(Ac,[])]
def Zcu:=rgN 3 sS
def Zp3 (m0:Nat):=sqK du m0 Zcu 0 Zmw
def Zq3 (m0:Nat):=AH 0 (Zp3 m0)
def Zdu:=lfN 2 (rgt (lft (rgt (lft (rgN 2 sS)))))
def Zmd (m0 n:Nat):CC.A0:=fun x2 x3 x4 x5=>ej du n (.loop Zdu) 0 (mk [(3, .dat Ac x2 []),(8, .dat AG x3 []),(9, .dat Ac x4 []),(10, .dat Ac x5 [])] []) (Zq3 m0)
theorem Zr3 (m0:Nat):∀ n,Zmd m0 n=CC.l0 n:=BL (S:=CC.S0) fun n=>by kernel_rfl
abbrev Znd:=AM.spec [.val AG] [(Ac,[])] fun x=>CC x.1
theorem Zbg1:Ah Tryz.prog 83 Znd:=Ca Az (fn:=Tryz.f83) (fun m x=>show run du sS m x Zmw=CC.S (Zmd m m) x.1 from by kernel_rfl) (fun x=>by rw [Zr3 fu fu];rfl) (Ag ⟨⟨PX,Tryz.call109,fun _=>Af rfl⟩,⟨⟨Zfd,Tryz.call144,fun _=>Af rfl⟩,trivial⟩⟩)
abbrev dw:=tab.env (AM.look [(35,Pb)]) ⟨[(0,⟨tt [3,8,9,10],[]⟩)],[],[],⟨tt [2],[]⟩,[],[35],[],[]⟩
def sT:=bd Tryz.f78
abbrev Znw:=fin dw [.tmp 2] [] [(Ac,[])]
def Zeu:=rgN 3 sT
def Zs3 (m0:Nat):=sqK dw m0 Zeu 0 Znw
def Zt3 (m0:Nat):=AH 0 (Zs3 m0)
def Zfu:=lfN 2 (rgt (lft (rgt (lft (rgN 2 sT)))))
def Zod (m0 n:Nat):Cz.A0:=fun x2 x3 x4 x5=>ej dw n (.loop Zfu) 0 (mk [(3, .dat Ac x2 []),(8, .dat FD x3 []),(9, .dat Ac x4 []),(10, .dat Ac x5 [])] []) (Zt3 m0)
theorem Zu3 (m0:Nat):∀ n,Zod m0 n=Cz.l0 n:=BL (S:=Cz.S0) fun n=>by kernel_rfl
abbrev Yx:=AM.spec [.val FD] [(Ac,[])] fun x=>Cz x.1
theorem sU:Ah Tryz.prog 78 Yx:=Ca Az (fn:=Tryz.f78) (fun m x=>show run dw sT m x Znw=Cz.S (Zod m m) x.1 from by kernel_rfl) (fun x=>by rw [Zu3 fu fu];rfl) (Ag ⟨⟨Uz,Tryz.call35,fun _=>Af rfl⟩,trivial⟩)
abbrev QI:=AM.spec [.val Kk] [(Ac,[])] fun x=>CV x.1
theorem RI:Ah Tryz.prog 41 QI:=Ci Az (fn:=Tryz.f41) (lk:=(AM.look [(83,Znd),(78,Yx)])) (ks:=⟨[],[],[],⟨tt [2],[]⟩,[],[78,83],[],[]⟩) (ts:=[.tmp 2]) (fun _=>by kernel_rfl) (Ag ⟨⟨Zbg1,Tryz.call83,fun _=>Af rfl⟩,⟨⟨sU,Tryz.call78,fun _=>Af rfl⟩,trivial⟩⟩)
end
end Go.Proofs.YtclpadlpcfnfmaaGreat.Am
