import Derived.Test.YtclpadlpcfnfmaaGreatAmPure18
import Derived.Test.YtclpadlpcfnfmaaGreatSPrim
import Derived.Test.YtclpadlpcfnfmaaGreatSHand
/- PRINTED by gen/ of this repo: the code comes to the pure functions. -/
namespace Go.Proofs.YtclpadlpcfnfmaaGreat.Am
open Go.AM Go.AM.Pure
set_option linter.unusedVariables false
set_option maxRecDepth 100000
noncomputable section
abbrev uo:=AM.spec [.val Ac] [(Ho,[])] fun x=>some (ER x.1)
theorem Zgc1:Ah Tryz.prog 26 uo:=Ci Az (fn:=Tryz.f26) (lk:=(AM.look [])) (ks:=⟨[],[],[],⟨tt [2],tt [2]⟩,[],[],[],[]⟩) (ts:=[.cell 2 45]) (fun _=>by kernel_rfl) (Ag trivial)
abbrev WI:=AM.spec [.val OR] [(Ac,[])] fun x=>some (GM x.1)
theorem qE:Ah Tryz.prog 46 WI:=Ci Az (fn:=Tryz.f46) (lk:=(AM.look [(88,jd)])) (ks:=⟨[],[],[],⟨tt [2],[]⟩,[],[88],[],[]⟩) (ts:=[.tmp 2]) (fun x=>(show _=GM.o x.1 from by kernel_rfl).trans (by unfold GM.o GM;simp only [Gv])) (Ag ⟨⟨Zbw,Tryz.call88,fun _=>Af rfl⟩,trivial⟩)
abbrev uq:=AM.spec [.val FD] [((.arr 3 Ac),[])] fun x=>RM x.1
theorem Zhc1:Ah Tryz.prog 45 uq:=Ci Az (fn:=Tryz.f45) (lk:=(AM.look [(78,Yx)])) (ks:=⟨[],[],[],⟨tt [2],tt [2]⟩,[],[78],[],[]⟩) (ts:=[.cell 2 86]) (fun _=>by kernel_rfl) (Ag ⟨⟨sU,Tryz.call78,fun _=>Af rfl⟩,trivial⟩)
abbrev kZ:=AM.spec [.val Ac, .val Ac, .val Ac, .val Ac] [(Ac,[])] fun x=>Pd x.1 x.2.1 x.2.2.1 x.2.2.2.1
theorem Zr4:Ah Tryz.prog 138 kZ:=Ci Az (fn:=Tryz.f138) (lk:=(AM.look [(185,ah),(186,QC)])) (ks:=⟨[],[],[],⟨tt [8],[]⟩,[],[185,186],[],[]⟩) (ts:=[.tmp 8]) (fun _=>by kernel_rfl) (Ag ⟨⟨Zgd,Tryz.call185,fun _=>Af rfl⟩,⟨⟨XR,Tryz.call186,fun _=>Af rfl⟩,trivial⟩⟩)
abbrev qF:=tab.env (AM.look [(138,kZ)]) ⟨[(0,⟨tt [0,1,2],tt [1000000]⟩)],[],[],⟨[],[]⟩,[0,19,22],[138],[],[]⟩
def Zqu:=bd Tryz.f77
abbrev Zru:=fin qF [] [.ioa Ac] [(AG,[])]
def Zrx (m0:Nat):=AH 0 Zru
def Zxe:=lfN 2 Zqu
def ur (m0 n:Nat):Co.A0:=fun x1 x2 x3=>ej qF n (.loop Zxe) 0 (mk [(0, .slw 1000000 0),(1, .dat Ac x1 []),(2, .dat Ac x2 [])] [(1000000,some (.arr Ac x3 false))]) (Zrx m0)
theorem Zsx (m0:Nat):∀ n,ur m0 n=Co.l0 n:=BL (S:=Co.S0) fun n=>by kernel_rfl
abbrev uu:=AM.EE 0 [.ioa Ac, .val Ac, .val Ac] [(AG,[])] fun x=>Co x.1 x.2.1 x.2.2.1
theorem Zic1:Ah Tryz.prog 77 uu:=Rg Az (fn:=Tryz.f77) (ts:=[]) (fun m x=>show run qF Zqu m x Zru=Co.S (ur m m) x.1 x.2.1 x.2.2.1 from by kernel_rfl) (fun x=>by rw [Zsx fu fu];rfl) (Ag ⟨⟨Zr4,Tryz.call138,fun _=>Af rfl⟩,trivial⟩)
abbrev cI:=tab.env (AM.look [(35,Pb),(77,uu)]) ⟨[(0,⟨tt [4,24,25,26],tt [23]⟩)],[],[],⟨tt [2,3],tt [2,23]⟩,[2,4,23,30,37],[35],[(77,[true])],[]⟩
def qG:=bd Tryz.f37
abbrev Zsu:=fin cI [.tmp 2, .tmp 3] [] [(AG,[]),(Ac,[])]
def Zye:=rgN 5 qG
def Ztx (m0:Nat):=sqK cI m0 Zye 0 Zsu
def Zux (m0:Nat):=AH 0 (Ztx m0)
def Zze:=lfN 2 (rgt (lft (rgN 4 qG)))
def uv (m0 n:Nat):DM.A0:=fun x2 x3 x4 x5=>ej cI n (.loop Zze) 0 (mk [(4, .slw 23 0),(24, .dat FD x2 []),(25, .dat Ac x3 []),(26, .dat Ac x4 [])] [(23,some (.arr Ac x5 false))]) (Zux m0)
theorem Zvx (m0:Nat):∀ n,uv m0 n=DM.l0 n:=BL (S:=DM.S0) fun n=>by kernel_rfl
abbrev uw:=AM.spec [.val FD] [(AG,[]),(Ac,[])] fun x=>DM x.1
theorem Zjc1:Ah Tryz.prog 37 uw:=Ca Az (fn:=Tryz.f37) (fun m x=>show run cI qG m x Zsu=DM.S (uv m m) x.1 from by kernel_rfl) (fun x=>by rw [Zvx fu fu];rfl) (Ag ⟨⟨Uz,Tryz.call35,fun _=>Af rfl⟩,⟨⟨Zic1,Tryz.call77,nw⟩,trivial⟩⟩)
abbrev QW:=tab.env (AM.look [(35,Pb),(78,Yx)]) ⟨[(0,⟨tt [4,14,15,16],[]⟩),(2,⟨tt [4,6,7,14,15,16],tt [6]⟩)],[],[],⟨tt [2,3],[]⟩,[],[35,78],[],[]⟩
def qH:=bd Tryz.f38
abbrev Ztu:=fin QW [.tmp 2, .tmp 3] [] [(AG,[⟨0,1,0,1⟩]),(Ac,[])]
def Zaf:=rgN 4 qH
def Zwx (m0:Nat):=sqK QW m0 Zaf 0 Ztu
def la (m0:Nat):=AH 0 (Zwx m0)
def QX:=lfN 2 (rgt (lft (rgN 3 qH)))
def WJ (m0 n:Nat):Bp.A0:=fun x3 x4 x5 x6=>ej QW n (.loop QX) 0 (mk [(4, .dat AG x3 [⟨0,257,0,1⟩]),(14, .dat FD x4 []),(15, .dat Ac x5 []),(16, .dat Ac x6 [])] []) (la m0)
def Zxx (m0 m1:Nat):=lpK QW m1 QX 0 (la m0)
def Zbf:=rgN 3 QX
def Zyx (m0 m1:Nat):=sqK QW m1 Zbf 0 (Zxx m0 m1)
def Zzx (m0 m1:Nat):=AH 1 (Zyx m0 m1)
def Zay (m0 m1:Nat):=AH 2 (Zzx m0 m1)
def Zcf:=lfN 2 (rgN 2 (lfN 2 (rgN 2 QX)))
def ux (m0 m1 n:Nat):Bp.A1:=fun x7 x8 x9 x10 x11 x12=>ej QW n (.loop Zcf) 2 (mk [(4, .dat AG x7 [⟨0,257,0,1⟩]),(6, .ptr 6 0 0),(7, .dat Ac x8 []),(14, .dat FD x9 []),(15, .dat Ac x10 []),(16, .dat Ac x11 [])] [(6,some (.var Zxi x12 []))]) (Zay m0 m1)
theorem Zby (m0 m1:Nat):∀ n,ux m0 m1 n=Bp.l1 (WJ m0 m1) n:=BL (S:=Bp.S1 (WJ m0 m1)) fun n=>by kernel_rfl
theorem Zcy (m0:Nat):∀ n,WJ m0 n=Bp.l0 n:=ind rfl fun n e0=>(show _=Bp.S0 (ux m0 n n) from by kernel_rfl).trans (by rw [Zby m0 n n,e0];rfl)
abbrev uy:=AM.spec [.val FD] [(AG,[⟨0,1,0,1⟩]),(Ac,[])] fun x=>Bp x.1
theorem Zkc1:Ah Tryz.prog 38 uy:=Ca Az (fn:=Tryz.f38) (fun m x=>show run QW qH m x Ztu=Bp.S (WJ m m) x.1 from by kernel_rfl) (fun x=>by rw [Zcy fu fu];rfl) (Ag ⟨⟨Uz,Tryz.call35,fun _=>Af rfl⟩,⟨⟨sU,Tryz.call78,fun _=>Af rfl⟩,trivial⟩⟩)
abbrev eJ:=AM.spec [.val FD, .val Ac] [(Kk,[⟨3,1,0,1⟩]),(Ac,[])] fun x=>Lu x.1 x.2.1
theorem Zuu:Ah Tryz.prog 11 eJ:=Ci Az (fn:=Tryz.f11) (lk:=(AM.look [(35,Pb),(36,IT),(37,uw),(38,uy)])) (ks:=⟨[],[],[],⟨tt [4,5],tt [4]⟩,[],[35],[],[]⟩) (ts:=[.cell 4 31, .tmp 5]) (fun _=>by kernel_rfl) (Ag ⟨⟨Uz,Tryz.call35,fun _=>Af rfl⟩,⟨⟨Mp,Tryz.call36,nw⟩,⟨⟨Zjc1,Tryz.call37,nw⟩,⟨⟨Zkc1,Tryz.call38,nw⟩,trivial⟩⟩⟩⟩)
abbrev WK:=tab.env (AM.look [(35,Pb),(45,uq),(11,eJ)]) ⟨[(0,⟨tt [0,2,4,5,6],tt [2,4]⟩)],[],[(10,⟨tt [0,2,5],tt [2]⟩)],⟨tt [2,3],tt [2]⟩,[],[35,45],[],[]⟩
def qI:=bd Tryz.f17
abbrev qJ:=fin WK [.cell 2 31, .tmp 3] [] [(Kk,[⟨3,1,0,1⟩]),(Ac,[])]
def eK:=rgN 5 qI
def eL (m0 n:Nat):BY.A1:=fun x8 x9 x10=>ej WK n (.tail eK) 0 (mk [(0, .dat FD x8 []),(2, .ptr 2 0 0),(5, .dat Ac x9 [])] [(2,some (.var Kk x10 [⟨1,64130,0,2⟩,⟨2,64131,0,1⟩,⟨3,64132,0,1⟩]))]) qJ
theorem Zdy (m0:Nat):∀ n,eL m0 n=BY.t1 n:=ind rfl fun n _=>by kernel_rfl
def Zey (m0:Nat):=sqK WK m0 eK 0 qJ
def Zfy (m0:Nat):=AH 0 (Zey m0)
def Zdf:=lfN 2 (rgt (lft (rgN 4 qI)))
def uz (m0 n:Nat):BY.A0:=fun x3 x4 x5 x6 x7=>ej WK n (.loop Zdf) 0 (mk [(0, .dat FD x3 []),(2, .ptr 2 0 0),(4, .ptr 4 0 0),(5, .dat Ac x4 []),(6, .dat Ac x5 [])] [(2,some (.var Kk x6 [⟨1,64130,0,2⟩,⟨2,64131,0,1⟩,⟨3,64132,0,1⟩])),(4,some (.arr Ac x7 false))]) (Zfy m0)
theorem Zgy (m0:Nat):∀ n,uz m0 n=BY.l0 (eL m0 m0) n:=BL (S:=BY.S0 (eL m0 m0)) fun n=>by kernel_rfl
abbrev uA:=AM.spec [.val FD] [(Kk,[⟨3,1,0,1⟩]),(Ac,[])] fun x=>BY x.1
theorem Zlc1:Ah Tryz.prog 17 uA:=Ca Az (fn:=Tryz.f17) (fun m x=>show run WK qI m x qJ=BY.S (uz m m) x.1 from by kernel_rfl) (fun x=>by rw [Zgy fu fu,Zdy fu fu];rfl) (Ag ⟨⟨Uz,Tryz.call35,fun _=>Af rfl⟩,⟨⟨Zhc1,Tryz.call45,fun _=>Af rfl⟩,⟨⟨Zuu,Tryz.call11,nw⟩,trivial⟩⟩⟩)
abbrev uB:=AM.spec [.val AG] [(Kk,[⟨3,1,0,1⟩]),(Ac,[])] fun x=>Oy x.1
theorem Zmc1:Ah Tryz.prog 47 uB:=Ci Az (fn:=Tryz.f47) (lk:=(AM.look [(63,RD),(17,uA)])) (ks:=⟨[],[],[],⟨tt [2,3],tt [2]⟩,[],[],[],[]⟩) (ts:=[.cell 2 31, .tmp 3]) (fun _=>by kernel_rfl) (Ag ⟨⟨bp,Tryz.call63,nw⟩,⟨⟨Zlc1,Tryz.call17,nw⟩,trivial⟩⟩)
abbrev uC:=AM.spec [.val Ac] [(Ho,[])] fun x=>some (aw x.1)
theorem Znc1:Ah Tryz.prog 91 uC:=Ci Az (fn:=Tryz.f91) (lk:=(AM.look [])) (ks:=⟨[],[],[],⟨tt [2],tt [2]⟩,[],[],[],[]⟩) (ts:=[.cell 2 45]) (fun _=>by kernel_rfl) (Ag trivial)
abbrev ld:=AM.spec [.val Ac, .val Ac] [(Ac,[])] fun x=>some (FQ x.1 x.2.1)
theorem Zs4:Ah Tryz.prog 239 ld:=Ci Az (fn:=Tryz.f239) (lk:=(AM.look [(197,ZX)])) (ks:=⟨[],[],[],⟨tt [4],[]⟩,[],[197],[],[]⟩) (ts:=[.tmp 4]) (fun x=>(show _=FQ.o x.1 x.2.1 from by kernel_rfl).trans (by unfold FQ.o FQ;simp only [Gv])) (Ag ⟨⟨Zwb,Tryz.call197,fun _=>Af rfl⟩,trivial⟩)
abbrev WL:=tab.env (AM.look []) (kq [(0,⟨tt [3,6,7,8],[]⟩)] [] [2])
def eM:=bd Tryz.f238
abbrev uD:=fin WL [.tmp 2] [] [(Ac,[])]
def uE:=rgN 3 eM
def Zef (m0:Nat):=sqK WL m0 uE 0 uD
def Zff (m0:Nat):=AH 0 (Zef m0)
def uF:=lfN 2 (rgt (lft (rgN 2 eM)))
def lf (m0 n:Nat):EY.A0:=fun x1 x2 x3 x4=>ej WL n (.loop uF) 0 (mk [(3, .dat Ac x1 []),(6, .dat AG x2 []),(7, .dat Ac x3 []),(8, .dat Ac x4 [])] []) (Zff m0)
theorem Zgf (m0:Nat):∀ n,lf m0 n=EY.l0 n:=BL (S:=EY.S0) fun n=>by kernel_rfl
abbrev lg:=AM.spec [.val AG] [(Ac,[])] fun x=>EY x.1
theorem Zt4:Ah Tryz.prog 238 lg:=Ca Az (fn:=Tryz.f238) (fun m x=>show run WL eM m x uD=EY.S (lf m m) x.1 from by kernel_rfl) (fun x=>by rw [Zgf fu fu];rfl) (Ag trivial)
abbrev lh:=AM.spec [.val Ho, .val Ho] [(Ac,[])] fun x=>Sd x.1 x.2.1
theorem Zu4:Ah Tryz.prog 200 lh:=Ci Az (fn:=Tryz.f200) (lk:=(AM.look [(239,ld),(240,Nn),(238,lg)])) (ks:=⟨[],[],[],⟨tt [4],[]⟩,[],[238,239,240],[],[20]⟩) (ts:=[.tmp 4]) (fun _=>by kernel_rfl) (Ag ⟨⟨Zs4,Tryz.call239,fun _=>Af rfl⟩,⟨⟨UD,Tryz.call240,fun _=>Af rfl⟩,⟨⟨Zt4,Tryz.call238,fun _=>Af rfl⟩,trivial⟩⟩⟩)
abbrev lj:=AM.spec [.val OR, .val Ho] [(.bool,[])] fun x=>UF x.1 x.2.1
theorem Zv4:Ah Tryz.prog 152 lj:=Ci Az (fn:=Tryz.f152) (lk:=(AM.look [(200,lh)])) (ks:=⟨[],[],[],⟨tt [4],[]⟩,[],[200],[],[]⟩) (ts:=[.tmp 4]) (fun _=>by kernel_rfl) (Ag ⟨⟨Zu4,Tryz.call200,fun _=>Af rfl⟩,trivial⟩)
abbrev SC:=AM.spec [.val OR, .val Ho] [(.bool,[])] fun x=>LO x.1 x.2.1
theorem cJ:Ah Tryz.prog 90 SC:=Ci Az (fn:=Tryz.f90) (lk:=(AM.look [(46,WI),(152,lj)])) (ks:=⟨[],[],[],⟨tt [4],[]⟩,[],[46,152],[],[]⟩) (ts:=[.tmp 4]) (fun _=>by kernel_rfl) (Ag ⟨⟨qE,Tryz.call46,fun _=>Af rfl⟩,⟨⟨Zv4,Tryz.call152,fun _=>Af rfl⟩,trivial⟩⟩)
abbrev qK:=tab.env (AM.look []) (kq [(0,⟨tt [0,2,6],tt [1000000]⟩)] [] [])
def Zvu:=bd Tryz.f92
abbrev Zwu:=fin qK [] [.io Ge [(5,1)]] [(Ge,[⟨5,1,0,1⟩])]
def Zhy (m0:Nat):=AH 0 Zwu
def Zhf:=lfN 2 (rgt Zvu)
def uG (m0 n:Nat):By.A0:=fun x1 x2 x3=>ej qK n (.loop Zhf) 0 (mk [(0, .ptr 1000000 0 0),(2, .dat Ac x1 []),(6, .dat Ac x2 [])] [(1000000,some (.var Ge x3 [⟨5,64064006,0,1⟩]))]) (Zhy m0)
theorem Ziy (m0:Nat):∀ n,uG m0 n=By.l0 n:=BL (S:=By.S0) fun n=>by kernel_rfl
abbrev SD:=AM.EE 0 [.io Ge [(5,1)], .val Ac, .val Ac] [(Ge,[⟨5,1,0,1⟩])] fun x=>By x.1 x.2.1 x.2.2.1
theorem cK:Ah Tryz.prog 92 SD:=Rg Az (fn:=Tryz.f92) (ts:=[]) (fun m x=>show run qK Zvu m x Zwu=By.S (uG m m) x.1 x.2.1 x.2.2.1 from by kernel_rfl) (fun x=>by rw [Ziy fu fu];rfl) (Ag trivial)
abbrev qL:=tab.env (AM.look [(89,Ya),(91,uC),(90,SC),(92,SD)]) ⟨[(0,⟨tt [0,17,18,19],tt [1000000]⟩)],[],[],⟨[],[]⟩,[],[90,91],[],[]⟩
def Zxu:=bd Tryz.f49
abbrev Zyu:=fin qL [] [.io Ge [(5,1)]] [(Ge,[⟨5,1,0,1⟩])]
def Zjy (m0:Nat):=AH 0 Zyu
def Zif:=lfN 2 (rgN 2 Zxu)
def uH (m0 n:Nat):BX.A0:=fun x2 x3 x4 x5=>ej qL n (.loop Zif) 0 (mk [(0, .ptr 1000000 0 0),(17, .dat IF x2 [⟨0,1089,0,3⟩]),(18, .dat Ac x3 []),(19, .dat Ac x4 [])] [(1000000,some (.var Ge x5 [⟨5,64064006,0,1⟩]))]) (Zjy m0)
theorem Zky (m0:Nat):∀ n,uH m0 n=BX.l0 n:=BL (S:=BX.S0) fun n=>by kernel_rfl
abbrev uI:=AM.EE 0 [.io Ge [(5,1)], .val Ac] [(Ge,[⟨5,1,0,1⟩])] fun x=>BX x.1 x.2.1
theorem Zoc1:Ah Tryz.prog 49 uI:=Rg Az (fn:=Tryz.f49) (ts:=[]) (fun m x=>show run qL Zxu m x Zyu=BX.S (uH m m) x.1 x.2.1 from by kernel_rfl) (fun x=>by rw [Zky fu fu];rfl) (Ag ⟨⟨sD,Tryz.call89,nw⟩,⟨⟨Znc1,Tryz.call91,fun _=>Af rfl⟩,⟨⟨cJ,Tryz.call90,fun _=>Af rfl⟩,⟨⟨cK,Tryz.call92,nw⟩,trivial⟩⟩⟩⟩)
abbrev QY:=tab.env (AM.look []) (kq [(0,⟨tt [1,5,11,12,13],[]⟩),(2,⟨tt [5,8,26,27,28],[]⟩)] [(8,⟨tt [1,5],[]⟩)] [4])
def WM:=bd Tryz.f53
abbrev cL:=fin QY [.tmp 4] [] [(AG,[⟨0,1,0,1⟩])]
def Zjf:=rgN 5 WM
def Zly (m0 m1:Nat):=sqK QY m1 Zjf 0 cL
def Zmy (m0 m1:Nat):=AH 2 (Zly m0 m1)
def Zkf:=lfN 2 (rgt (lft (rgN 4 WM)))
def uJ (m0 m1 n:Nat):Bu.A2:=fun x8 x9 x10 x11 x12=>ej QY n (.loop Zkf) 2 (mk [(5, .dat AG x8 [⟨0,321,0,1⟩]),(8, .dat AG x9 [⟨0,513,0,1⟩]),(26, .dat AG x10 []),(27, .dat Ac x11 []),(28, .dat Ac x12 [])] []) (Zmy m0 m1)
theorem Zny (m0 m1:Nat):∀ n,uJ m0 m1 n=Bu.l2 n:=BL (S:=Bu.S2) fun n=>by kernel_rfl
def eN:=rgN 3 WM
def eO (m0 n:Nat):Bu.A1:=fun x6 x7=>ej QY n (.tail eN) 0 (mk [(1, .dat AG x6 []),(5, .dat AG x7 [⟨0,321,0,1⟩])] []) cL
theorem Zoy (m0:Nat):∀ n,eO m0 n=Bu.t1 n:=ind rfl fun n _=>(show _=Bu.S1 (uJ m0 n n) from by kernel_rfl).trans (by rw [Zny m0 n n];rfl)
def Zpy (m0:Nat):=sqK QY m0 eN 0 cL
def Zqy (m0:Nat):=AH 0 (Zpy m0)
def Zlf:=lfN 2 (rgt (lft (rgN 2 WM)))
def uK (m0 n:Nat):Bu.A0:=fun x1 x2 x3 x4 x5=>ej QY n (.loop Zlf) 0 (mk [(1, .dat AG x1 []),(5, .dat AG x2 [⟨0,321,0,1⟩]),(11, .dat Dd x3 []),(12, .dat Ac x4 []),(13, .dat Ac x5 [])] []) (Zqy m0)
theorem Zry (m0:Nat):∀ n,uK m0 n=Bu.l0 (eO m0 m0) n:=BL (S:=Bu.S0 (eO m0 m0)) fun n=>by kernel_rfl
abbrev uL:=AM.spec [.val Dd, .val AG] [(AG,[⟨0,1,0,1⟩])] fun x=>Bu x.1 x.2.1
theorem Zpc1:Ah Tryz.prog 53 uL:=Ca Az (fn:=Tryz.f53) (fun m x=>show run QY WM m x cL=Bu.S (uK m m) x.1 x.2.1 from by kernel_rfl) (fun x=>by rw [Zry fu fu,Zoy fu fu];rfl) (Ag trivial)
abbrev TS:=tab.env (AM.look [(93,iU),(90,SC),(92,SD)]) ⟨[(0,⟨tt [0,5,7,25,26,27],tt [24,1000000]⟩),(2,⟨tt [0,7,43,44,45],tt [24,1000000]⟩)],[],[(7,⟨tt [0,5,7],tt [24,1000000]⟩)],⟨[],[]⟩,[7,24,32,50],[90],[],[]⟩
def cM:=bd Tryz.f50
abbrev cN:=fin TS [] [.io Ge [(5,1)]] [(Ge,[⟨5,1,0,1⟩])]
def Zsy (m0:Nat):=AH 2 cN
def Zmf:=lfN 2 (rgN 4 cM)
def uM (m0 n:Nat):AB.A2:=fun x12 x13 x14 x15 x16=>ej TS n (.loop Zmf) 2 (mk [(0, .ptr 1000000 0 0),(7, .slw 24 0),(43, .dat AG x12 []),(44, .dat Ac x13 []),(45, .dat Ac x14 [])] [(24,some (.arr .bool x15 false)),(1000000,some (.var Ge x16 [⟨5,64064006,0,1⟩]))]) (Zsy m0)
theorem Zty (m0 m1:Nat):∀ n,uM m0 n=AB.l2 n:=BL (S:=AB.S2) fun n=>by kernel_rfl
def eP:=rgN 3 cM
def eQ (m0 n:Nat):AB.A1:=fun x9 x10 x11=>ej TS n (.tail eP) 0 (mk [(0, .ptr 1000000 0 0),(5, .dat AG x9 []),(7, .slw 24 0)] [(24,some (.arr .bool x10 false)),(1000000,some (.var Ge x11 [⟨5,64064006,0,1⟩]))]) cN
theorem Zuy (m0:Nat):∀ n,eQ m0 n=AB.t1 n:=ind rfl fun n _=>(show _=AB.S1 (uM m0 n) from by kernel_rfl).trans (by rw [Zty m0 n n];rfl)
def Zvy (m0:Nat):=sqK TS m0 eP 0 cN
def Zwy (m0:Nat):=AH 0 (Zvy m0)
def Znf:=lfN 2 (rgt (lft (rgN 2 cM)))
def uN (m0 n:Nat):AB.A0:=fun x2 x3 x4 x5 x6 x7=>ej TS n (.loop Znf) 0 (mk [(0, .ptr 1000000 0 0),(5, .dat AG x2 []),(7, .slw 24 0),(25, .dat Dg x3 [⟨0,1601,0,1⟩]),(26, .dat Ac x4 []),(27, .dat Ac x5 [])] [(24,some (.arr .bool x6 false)),(1000000,some (.var Ge x7 [⟨5,64064006,0,1⟩]))]) (Zwy m0)
theorem Zxy (m0:Nat):∀ n,uN m0 n=AB.l0 (eQ m0 m0) n:=BL (S:=AB.S0 (eQ m0 m0)) fun n=>by kernel_rfl
abbrev uO:=AM.EE 0 [.io Ge [(5,1)], .val Ac] [(Ge,[⟨5,1,0,1⟩])] fun x=>AB x.1 x.2.1
theorem Zqc1:Ah Tryz.prog 50 uO:=Rg Az (fn:=Tryz.f50) (ts:=[]) (fun m x=>show run TS cM m x cN=AB.S (uN m m) x.1 x.2.1 from by kernel_rfl) (fun x=>by rw [Zxy fu fu,Zuy fu fu];rfl) (Ag ⟨⟨Zaw,Tryz.call93,nw⟩,⟨⟨cJ,Tryz.call90,fun _=>Af rfl⟩,⟨⟨cK,Tryz.call92,nw⟩,trivial⟩⟩⟩)
abbrev ll:=AM.spec [.val Ac, .ref Ac, .ref OR, .ref AG] [(.bool,[])] fun x=>Pj x.1 x.2.1 x.2.2.1 x.2.2.2.1
theorem Zw4:Ah Tryz.prog 161 ll:=Ci Az (fn:=Tryz.f161) (lk:=(AM.look [(90,SC)])) (ks:=⟨[],[],[],⟨tt [5],[]⟩,[],[90],[],[]⟩) (ts:=[.tmp 5]) (fun _=>by kernel_rfl) (Ag ⟨⟨cJ,Tryz.call90,fun _=>Af rfl⟩,trivial⟩)
abbrev WN:=tab.env (AM.look [(161,ll)]) ⟨[(0,⟨tt [1,5,6],[]⟩)],[],[],⟨tt [4],[]⟩,[],[161],[],[]⟩
def eR:=bd Tryz.f160
abbrev uP:=fin WN [.tmp 4] [] [(Ac,[])]
def uQ:=rgN 3 eR
def Zof (m0:Nat):=sqK WN m0 uQ 0 uP
def Zpf (m0:Nat):=AH 0 (Zof m0)
def uR:=lfN 3 (rgN 2 eR)
def ln (m0 n:Nat):BJ.A0:=fun x1 x2 x3 x4 x5=>ej WN n (.loop uR) 0 (mk [(1, .fn 161 [⟨Ac,x1,[]⟩,⟨OR,x2,[]⟩,⟨AG,x3,[]⟩]),(5, .dat Ac x4 []),(6, .dat Ac x5 [])] []) (Zpf m0)
theorem Zqf (m0:Nat):∀ n,ln m0 n=BJ.l0 n:=BL (S:=BJ.S0) fun n=>by kernel_rfl
abbrev lp:=AM.spec [.val Ac, .fn 161 [Ac,OR,AG]] [(Ac,[])] fun x=>BJ x.1 x.2.1.1 x.2.1.2.1 x.2.1.2.2.1
theorem Zx4:Ah Tryz.prog 160 lp:=Ca Az (fn:=Tryz.f160) (fun m x=>show run WN eR m x uP=BJ.S (ln m m) x.1 x.2.1.1 x.2.1.2.1 x.2.1.2.2.1 from by kernel_rfl) (fun x=>by rw [Zqf fu fu];rfl) (Ag ⟨⟨Zw4,Tryz.call161,fun _=>Af rfl⟩,trivial⟩)
abbrev lq:=AM.spec [.val Ac, .ref AG, .ref OR] [(Ac,[])] fun x=>GB x.1 x.2.1 x.2.2.1
theorem Zy4:Ah Tryz.prog 159 lq:=Ci Az (fn:=Tryz.f159) (lk:=(AM.look [(160,lp)])) (ks:=⟨[],[],[],⟨tt [4],[]⟩,[],[160],[],[]⟩) (ts:=[.tmp 4]) (fun _=>by kernel_rfl) (Ag ⟨⟨Zx4,Tryz.call160,fun _=>Af rfl⟩,trivial⟩)
abbrev qM:=tab.env (AM.look [(46,WI),(159,lq)]) ⟨[],[],[(15,⟨tt [7,8],[]⟩)],⟨tt [4,5],[]⟩,[],[46,159],[],[]⟩
def Zzu:=bd Tryz.f96
abbrev Zav:=fin qM [.tmp 4, .tmp 5] [] [(Ac,[]),(Ac,[])]
def Zyy:=rgN 5 Zzu
def uS (m0 n:Nat):Fj.A0:=fun x4 x5=>ej qM n (.tail Zyy) 0 (mk [(7, .dat Ac x4 []),(8, .dat Ac x5 [])] []) Zav
theorem Zzy (m0:Nat):∀ n,uS m0 n=Fj.t0 n:=ind rfl fun n _=>by kernel_rfl
abbrev uT:=AM.spec [.val OR, .val AG] [(Ac,[]),(Ac,[])] fun x=>Fj x.1 x.2.1
theorem Zrc1:Ah Tryz.prog 96 uT:=Ca Az (fn:=Tryz.f96) (fun m x=>show run qM Zzu m x Zav=Fj.S (uS m m) x.1 x.2.1 from by kernel_rfl) (fun x=>by rw [Zzy fu fu];rfl) (Ag ⟨⟨qE,Tryz.call46,fun _=>Af rfl⟩,⟨⟨Zy4,Tryz.call159,fun _=>Af rfl⟩,trivial⟩⟩)
abbrev qN:=tab.env (AM.look [(94,iR),(95,jw),(96,uT),(92,SD)]) ⟨[(0,⟨tt [0,8,9,35,36,37],tt [1000000]⟩)],[],[],⟨[],[]⟩,[],[96],[],[]⟩
def Zbv:=bd Tryz.f51
abbrev Zcv:=fin qN [] [.io Ge [(5,1)]] [(Ge,[⟨5,1,0,1⟩])]
def Zaz (m0:Nat):=AH 0 Zcv
def Zrf:=lfN 2 (rgN 4 Zbv)
def uU (m0 n:Nat):Br.A0:=fun x4 x5 x6 x7 x8 x9=>ej qN n (.loop Zrf) 0 (mk [(0, .ptr 1000000 0 0),(8, .dat Ac x4 []),(9, .dat Ac x5 []),(35, .dat AG x6 [⟨0,2241,0,1⟩]),(36, .dat Ac x7 []),(37, .dat Ac x8 [])] [(1000000,some (.var Ge x9 [⟨5,64064006,0,1⟩]))]) (Zaz m0)
theorem Zbz (m0:Nat):∀ n,uU m0 n=Br.l0 n:=BL (S:=Br.S0) fun n=>by kernel_rfl
abbrev uV:=AM.EE 0 [.io Ge [(5,1)], .val Ac] [(Ge,[⟨5,1,0,1⟩])] fun x=>Br x.1 x.2.1
theorem Zsc1:Ah Tryz.prog 51 uV:=Rg Az (fn:=Tryz.f51) (ts:=[]) (fun m x=>show run qN Zbv m x Zcv=Br.S (uU m m) x.1 x.2.1 from by kernel_rfl) (fun x=>by rw [Zbz fu fu];rfl) (Ag ⟨⟨Zzv,Tryz.call94,nw⟩,⟨⟨Zew,Tryz.call95,nw⟩,⟨⟨Zrc1,Tryz.call96,fun _=>Af rfl⟩,⟨⟨cK,Tryz.call92,nw⟩,trivial⟩⟩⟩⟩)
abbrev qO:=tab.env (AM.look [(90,SC),(92,SD)]) ⟨[(0,⟨tt [0,4,7,8,9],tt [1000000]⟩)],[],[],⟨[],[]⟩,[],[90],[],[]⟩
def Zdv:=bd Tryz.f52
abbrev Zev:=fin qO [] [.io Ge [(5,1)]] [(Ge,[⟨5,1,0,1⟩])]
def Zcz (m0:Nat):=AH 0 Zev
def Zsf:=lfN 2 (rgN 2 Zdv)
def uW (m0 n:Nat):Bk.A0:=fun x1 x2 x3 x4 x5=>ej qO n (.loop Zsf) 0 (mk [(0, .ptr 1000000 0 0),(4, .dat Ac x1 []),(7, .dat Dd x2 []),(8, .dat Ac x3 []),(9, .dat Ac x4 [])] [(1000000,some (.var Ge x5 [⟨5,64064006,0,1⟩]))]) (Zcz m0)
theorem Zdz (m0:Nat):∀ n,uW m0 n=Bk.l0 n:=BL (S:=Bk.S0) fun n=>by kernel_rfl
abbrev uX:=AM.EE 0 [.io Ge [(5,1)], .val Dd] [(Ge,[⟨5,1,0,1⟩])] fun x=>Bk x.1 x.2.1
theorem Ztc1:Ah Tryz.prog 52 uX:=Rg Az (fn:=Tryz.f52) (ts:=[]) (fun m x=>show run qO Zdv m x Zev=Bk.S (uW m m) x.1 x.2.1 from by kernel_rfl) (fun x=>by rw [Zdz fu fu];rfl) (Ag ⟨⟨cJ,Tryz.call90,fun _=>Af rfl⟩,⟨⟨cK,Tryz.call92,nw⟩,trivial⟩⟩)
abbrev Pq:=tab.env (AM.look [(46,WI),(43,jE),(39,Zmc),(47,uB),(48,Znc),(49,uI),(53,uL),(50,uO),(51,uV),(52,uX)]) ⟨[(0,⟨tt [4,10,39,40,41],tt [4]⟩)],[],[(15,⟨tt [4,10],tt [4]⟩),(16,⟨tt [0,3,4,6,8],tt [3,4,6]⟩),(26,⟨tt [4,8,16],tt [4,67]⟩)],⟨tt [4,5],tt [4]⟩,[],[43,46,48],[],[]⟩
def cO:=bd Tryz.f18
abbrev cP:=fin Pq [.cell 4 31, .tmp 5] [] [(Kk,[⟨3,1,0,1⟩]),(Ac,[])]
def VH:=rgN 6 cO
def lr (m0:Nat):=sqK Pq m0 VH 0 cP
def eS:=rgN 2 (lft (rgt (lft (rgN 5 cO))))
def eT (m0 n:Nat):Bm.A1:=fun x9 x10=>ej Pq n (.tail eS) 0 (mk [(4, .ptr 4 0 0),(10, .dat AG x9 [⟨0,641,0,1⟩])] [(4,some (.var Kk x10 [⟨1,64258,0,2⟩,⟨2,64259,0,1⟩,⟨3,64260,0,1⟩]))]) (lr m0)
theorem Zez (m0:Nat):∀ n,eT m0 n=Bm.t1 n:=ind rfl fun n _=>by kernel_rfl
def Zfz (m0:Nat):=sqK Pq m0 eS 0 (lr m0)
def Zgz (m0:Nat):=AH 0 (Zfz m0)
def Ztf:=lfN 2 (rgt (lft (rgt (lft (rgt (lft (rgN 5 cO)))))))
def uY (m0 n:Nat):Bm.A0:=fun x4 x5 x6 x7 x8=>ej Pq n (.loop Ztf) 0 (mk [(4, .ptr 4 0 0),(10, .dat AG x4 [⟨0,641,0,1⟩]),(39, .dat Dd x5 []),(40, .dat Ac x6 []),(41, .dat Ac x7 [])] [(4,some (.var Kk x8 [⟨1,64258,0,2⟩,⟨2,64259,0,1⟩,⟨3,64260,0,1⟩]))]) (Zgz m0)
theorem Zhz (m0:Nat):∀ n,uY m0 n=Bm.l0 (eT m0 m0) n:=BL (S:=Bm.S0 (eT m0 m0)) fun n=>by kernel_rfl
def Zuf:=rgN 4 VH
def uZ (m0 n:Nat):Bm.A3:=fun x19 x20 x21=>ej Pq n (.tail Zuf) 0 (mk [(4, .ptr 4 0 0),(8, .dat Dd x19 []),(16, .ptr 67 0 0)] [(4,some (.var Kk x20 [⟨1,64258,0,2⟩,⟨2,64259,0,1⟩,⟨3,64260,0,1⟩])),(67,some (.var Ge x21 [⟨5,68294,0,1⟩]))]) cP
theorem Ziz (m0 m1:Nat):∀ n,uZ m0 n=Bm.t3 n:=ind rfl fun n _=>by kernel_rfl
def va (m0 n:Nat):Bm.A2:=fun x12 x13 x14 x15 x16=>ej Pq n (.tail VH) 0 (mk [(0, .dat .str x12 []),(3, .ptr 3 0 0),(4, .ptr 4 0 0),(6, .ptr 6 0 0),(8, .dat Dd x13 [])] [(3,some (.var OR x14 [])),(4,some (.var Kk x15 [⟨1,64258,0,2⟩,⟨2,64259,0,1⟩,⟨3,64260,0,1⟩])),(6,some (.var Zl x16 []))]) cP
theorem Zjz (m0:Nat):∀ n,va m0 n=Bm.t2 n:=ind rfl fun n _=>(show _=Bm.S2 (uZ m0 n) from by kernel_rfl).trans (by rw [Ziz m0 n n];rfl)
abbrev vc:=AM.spec [.val .str, .val OR] [(Kk,[⟨3,1,0,1⟩]),(Ac,[])] fun x=>Bm x.1 x.2.1
theorem Zuc1:Ah Tryz.prog 18 vc:=Ca Az (fn:=Tryz.f18) (fun m x=>show run Pq cO m x cP=Bm.S (uY m m) (va m m) x.1 x.2.1 from by kernel_rfl) (fun x=>by rw [Zjz fu fu,Zhz fu fu,Zez fu fu];rfl) (Ag ⟨⟨qE,Tryz.call46,fun _=>Af rfl⟩,⟨⟨Zgw,Tryz.call43,fun _=>Af rfl⟩,⟨⟨Zfw,Tryz.call39,nw⟩,⟨⟨Zmc1,Tryz.call47,nw⟩,⟨⟨Zyf1,Tryz.call48,fun _=>Af rfl⟩,⟨⟨Zoc1,Tryz.call49,nw⟩,⟨⟨Zpc1,Tryz.call53,nw⟩,⟨⟨Zqc1,Tryz.call50,nw⟩,⟨⟨Zsc1,Tryz.call51,nw⟩,⟨⟨Ztc1,Tryz.call52,nw⟩,trivial⟩⟩⟩⟩⟩⟩⟩⟩⟩⟩)
abbrev WO:=tab.env (AM.look [(12,Ke),(43,jE)]) ⟨[(0,⟨tt [11,12,32,33,34],[]⟩)],[],[(14,⟨tt [11,12],[]⟩)],⟨tt [4,5,6],[]⟩,[],[43],[],[]⟩
def qP:=bd Tryz.f13
abbrev qQ:=fin WO [.tmp 4, .tmp 5, .tmp 6] [] [(Ac,[]),(Ac,[]),(Ac,[])]
def eV:=rgN 6 qP
def eW (m0 n:Nat):BP.A1:=fun x8 x9=>ej WO n (.tail eV) 0 (mk [(11, .dat Ac x8 []),(12, .dat Ac x9 [])] []) qQ
theorem Zkz (m0:Nat):∀ n,eW m0 n=BP.t1 n:=ind rfl fun n _=>by kernel_rfl
def Zlz (m0:Nat):=sqK WO m0 eV 0 qQ
def Zmz (m0:Nat):=AH 0 (Zlz m0)
def Zvf:=lfN 2 (rgt (lft (rgN 5 qP)))
def vd (m0 n:Nat):BP.A0:=fun x3 x4 x5 x6 x7=>ej WO n (.loop Zvf) 0 (mk [(11, .dat Ac x3 []),(12, .dat Ac x4 []),(32, .dat Dd x5 []),(33, .dat Ac x6 []),(34, .dat Ac x7 [])] []) (Zmz m0)
theorem Znz (m0:Nat):∀ n,vd m0 n=BP.l0 (eW m0 m0) n:=BL (S:=BP.S0 (eW m0 m0)) fun n=>by kernel_rfl
abbrev eX:=AM.spec [.val .str, .val Kk] [(Ac,[]),(Ac,[]),(Ac,[])] fun x=>BP x.1 x.2.1
theorem Zfv:Ah Tryz.prog 13 eX:=Ca Az (fn:=Tryz.f13) (fun m x=>show run WO qP m x qQ=BP.S (vd m m) x.1 x.2.1 from by kernel_rfl) (fun x=>by rw [Znz fu fu,Zkz fu fu];rfl) (Ag ⟨⟨NM,Tryz.call12,nw⟩,⟨⟨Zgw,Tryz.call43,fun _=>Af rfl⟩,trivial⟩⟩)
abbrev ve:=AM.spec [.val Kk] [(FD,[])] fun x=>MX x.1
theorem Zvc1:Ah Tryz.prog 23 ve:=Ci Az (fn:=Tryz.f23) (lk:=(AM.look [(62,Qy),(63,RD),(36,IT)])) (ks:=(kz [2])) (ts:=[.tmp 2]) (fun _=>by kernel_rfl) (Ag ⟨⟨cx,Tryz.call62,nw⟩,⟨⟨bp,Tryz.call63,nw⟩,⟨⟨Mp,Tryz.call36,nw⟩,trivial⟩⟩⟩)
abbrev cQ:=tab.env (AM.look []) (kq [(0,⟨tt [0,1,5],[]⟩)] [] [4])
def qR:=bd Tryz.f22
abbrev Zgv:=fin cQ [.tmp 4] [] [(.bool,[])]
def Zwf:=rgN 3 qR
def Zoz (m0:Nat):=sqK cQ m0 Zwf 0 Zgv
def Zpz (m0:Nat):=AH 0 (Zoz m0)
def Zxf:=lfN 2 (rgt (lft (rgN 2 qR)))
def vf (m0 n:Nat):Eh.A0:=fun x1 x2 x3=>ej cQ n (.loop Zxf) 0 (mk [(0, .dat FD x1 []),(1, .dat FD x2 []),(5, .dat Ac x3 [])] []) (Zpz m0)
theorem Zqz (m0:Nat):∀ n,vf m0 n=Eh.l0 n:=BL (S:=Eh.S0) fun n=>by kernel_rfl
abbrev vg:=AM.spec [.val FD, .val FD] [(.bool,[])] fun x=>Eh x.1 x.2.1
theorem Zwc1:Ah Tryz.prog 22 vg:=Ca Az (fn:=Tryz.f22) (fun m x=>show run cQ qR m x Zgv=Eh.S (vf m m) x.1 x.2.1 from by kernel_rfl) (fun x=>by rw [Zqz fu fu];rfl) (Ag trivial)
abbrev Zhv:=AM.spec [] [(.bool,[])] fun x=>GU
theorem Zpg1:Ah Tryz.prog 9 Zhv:=Ci Az (fn:=Tryz.f9) (lk:=(AM.look [(26,uo),(10,il),(18,vc),(12,Ke),(13,eX),(23,ve),(22,vg),(16,jF)])) (ks:=⟨[],[],[],⟨tt [0],[]⟩,[],[10,13,16,22,26],[],[]⟩) (ts:=[.tmp 0]) (fun _=>by kernel_rfl) (Ag ⟨⟨Zgc1,Tryz.call26,fun _=>Af rfl⟩,⟨⟨Zyv,Tryz.call10,fun _=>Af rfl⟩,⟨⟨Zuc1,Tryz.call18,nw⟩,⟨⟨NM,Tryz.call12,nw⟩,⟨⟨Zfv,Tryz.call13,fun _=>Af rfl⟩,⟨⟨Zvc1,Tryz.call23,nw⟩,⟨⟨Zwc1,Tryz.call22,fun _=>Af rfl⟩,⟨⟨Ziw,Tryz.call16,fun _=>Af rfl⟩,trivial⟩⟩⟩⟩⟩⟩⟩⟩)
abbrev qS:=tab.env (AM.look []) (kq [(0,⟨tt [0,3],[]⟩)] [] [2])
def Zyf:=bd Tryz.f8
abbrev Zz4:=fin qS [.tmp 2] [] [(.bool,[])]
def Zrz:=rgN 2 Zyf
def Za5 (m0:Nat):=sqK qS m0 Zrz 0 Zz4
def Zb5 (m0:Nat):=AH 0 (Za5 m0)
def Zsz:=lfN 2 (rgt (lft (rgt Zyf)))
def Ziv (m0 n:Nat):Di.A0:=fun x1 x2=>ej qS n (.loop Zsz) 0 (mk [(0, .dat FD x1 []),(3, .dat Ac x2 [])] []) (Zb5 m0)
theorem Zc5 (m0:Nat):∀ n,Ziv m0 n=Di.l0 n:=BL (S:=Di.S0) fun n=>by kernel_rfl
abbrev cR:=AM.spec [.val FD] [(.bool,[])] fun x=>Di x.1
theorem Zzf:Ah Tryz.prog 8 cR:=Ca Az (fn:=Tryz.f8) (fun m x=>show run qS Zyf m x Zz4=Di.S (Ziv m m) x.1 from by kernel_rfl) (fun x=>by rw [Zc5 fu fu];rfl) (Ag trivial)
abbrev eY:=AM.spec [.val FD] [(Ac,[])] fun x=>MY x.1
theorem Zjv:Ah Tryz.prog 30 eY:=Ci Az (fn:=Tryz.f30) (lk:=(AM.look [])) (ks:=(kz [2])) (ts:=[.tmp 2]) (fun _=>by kernel_rfl) (Ag trivial)
abbrev QZ:=tab.env (AM.look [(8,cR)]) ⟨[(0,⟨tt [0,4,5],[]⟩),(2,⟨tt [0,4,5,6],[]⟩)],[],[],⟨tt [2,3],[]⟩,[],[8],[],[]⟩
def qT:=bd Tryz.f44
abbrev Zkv:=fin QZ [.tmp 2, .tmp 3] [] [(AG,[⟨0,1,0,1⟩]),(Ac,[])]
def Zag:=rgN 4 qT
def Ztz (m0:Nat):=sqK QZ m0 Zag 0 Zkv
def lu (m0:Nat):=AH 0 (Ztz m0)
def Ra:=lfN 2 (rgt (lft (rgN 3 qT)))
def WQ (m0 n:Nat):Be.A0:=fun x2 x3 x4=>ej QZ n (.loop Ra) 0 (mk [(0, .dat FD x2 []),(4, .dat AG x3 [⟨0,257,0,1⟩]),(5, .dat Ac x4 [])] []) (lu m0)
def Zuz (m0 m1:Nat):=lpK QZ m1 Ra 0 (lu m0)
def Zbg:=rgN 2 Ra
def Zvz (m0 m1:Nat):=sqK QZ m1 Zbg 0 (Zuz m0 m1)
def Zwz (m0 m1:Nat):=AH 1 (Zvz m0 m1)
def Zxz (m0 m1:Nat):=AH 2 (Zwz m0 m1)
def Zcg:=lfN 2 (rgt (lfN 2 (rgt Ra)))
def vh (m0 m1 n:Nat):Be.A1:=fun x5 x6 x7 x8=>ej QZ n (.loop Zcg) 2 (mk [(0, .dat FD x5 []),(4, .dat AG x6 [⟨0,257,0,1⟩]),(5, .dat Ac x7 []),(6, .dat Ac x8 [])] []) (Zxz m0 m1)
theorem Zyz (m0 m1:Nat):∀ n,vh m0 m1 n=Be.l1 (WQ m0 m1) n:=BL (S:=Be.S1 (WQ m0 m1)) fun n=>by kernel_rfl
theorem Zzz (m0:Nat):∀ n,WQ m0 n=Be.l0 n:=ind rfl fun n e0=>(show _=Be.S0 (vh m0 n n) from by kernel_rfl).trans (by rw [Zyz m0 n n,e0];rfl)
abbrev vk:=AM.spec [.val FD] [(AG,[⟨0,1,0,1⟩]),(Ac,[])] fun x=>Be x.1
theorem Zxc1:Ah Tryz.prog 44 vk:=Ca Az (fn:=Tryz.f44) (fun m x=>show run QZ qT m x Zkv=Be.S (WQ m m) x.1 from by kernel_rfl) (fun x=>by rw [Zzz fu fu];rfl) (Ag ⟨⟨Zzf,Tryz.call8,fun _=>Af rfl⟩,trivial⟩)
abbrev Zlv:=AM.spec [.val FD] [(.bool,[])] fun x=>Pe x.1
theorem Zqg1:Ah Tryz.prog 7 Zlv:=Ci Az (fn:=Tryz.f7) (lk:=(AM.look [(8,cR),(30,eY)])) (ks:=⟨[],[],[],⟨tt [2],[]⟩,[],[8,30],[],[]⟩) (ts:=[.tmp 2]) (fun _=>by kernel_rfl) (Ag ⟨⟨Zzf,Tryz.call8,fun _=>Af rfl⟩,⟨⟨Zjv,Tryz.call30,fun _=>Af rfl⟩,trivial⟩⟩)
abbrev cS:=tab.env (AM.look [(30,eY),(44,vk)]) ⟨[(0,⟨tt [0,6,8,9],[]⟩)],[],[],⟨tt [4,5],[]⟩,[],[30],[],[]⟩
def qU:=bd Tryz.f14
abbrev Zmv:=fin cS [.tmp 4, .tmp 5] [] [(Dd,[⟨0,1,0,3⟩]),(.bool,[])]
def Zdg:=rgN 5 qU
def Za0 (m0:Nat):=sqK cS m0 Zdg 0 Zmv
def Zb0 (m0:Nat):=AH 0 (Za0 m0)
def Zeg:=lfN 2 (rgt (lft (rgN 4 qU)))
def vl (m0 n:Nat):Cm.A0:=fun x3 x4 x5 x6=>ej cS n (.loop Zeg) 0 (mk [(0, .dat Dd x3 []),(6, .dat AG x4 [⟨0,385,0,1⟩]),(8, .dat Dd x5 [⟨0,513,0,3⟩]),(9, .dat Ac x6 [])] []) (Zb0 m0)
theorem Zc0 (m0:Nat):∀ n,vl m0 n=Cm.l0 n:=BL (S:=Cm.S0) fun n=>by kernel_rfl
abbrev vm:=AM.spec [.val Dd, .val FD] [(Dd,[⟨0,1,0,3⟩]),(.bool,[])] fun x=>Cm x.1 x.2.1
theorem Zyc1:Ah Tryz.prog 14 vm:=Ca Az (fn:=Tryz.f14) (fun m x=>show run cS qU m x Zmv=Cm.S (vl m m) x.1 x.2.1 from by kernel_rfl) (fun x=>by rw [Zc0 fu fu];rfl) (Ag ⟨⟨Zjv,Tryz.call30,fun _=>Af rfl⟩,⟨⟨Zxc1,Tryz.call44,nw⟩,trivial⟩⟩)
abbrev cT:=tab.env (AM.look []) (kq [(0,⟨tt [0,4,5,6],[]⟩)] [] [2,3])
def qV:=bd Tryz.f15
abbrev Znv:=fin cT [.tmp 2, .tmp 3] [] [(Ac,[]),(Ac,[])]
def Zfg:=rgN 3 qV
def Zd0 (m0:Nat):=sqK cT m0 Zfg 0 Znv
def Ze0 (m0:Nat):=AH 0 (Zd0 m0)
def Zgg:=lfN 2 (rgt (lft (rgN 2 qV)))
def vn (m0 n:Nat):DH.A0:=fun x1 x2 x3 x4=>ej cT n (.loop Zgg) 0 (mk [(0, .dat Dd x1 []),(4, .dat Ac x2 []),(5, .dat Ac x3 []),(6, .dat Ac x4 [])] []) (Ze0 m0)
theorem Zf0 (m0:Nat):∀ n,vn m0 n=DH.l0 n:=BL (S:=DH.S0) fun n=>by kernel_rfl
abbrev vo:=AM.spec [.val Dd] [(Ac,[]),(Ac,[])] fun x=>DH x.1
theorem Zzc1:Ah Tryz.prog 15 vo:=Ca Az (fn:=Tryz.f15) (fun m x=>show run cT qV m x Znv=DH.S (vn m m) x.1 from by kernel_rfl) (fun x=>by rw [Zf0 fu fu];rfl) (Ag trivial)
abbrev qW:=tab.env (AM.look [(9,Zhv),(7,Zlv),(8,cR),(10,il),(11,eJ),(12,Ke),(13,eX),(14,vm),(15,vo),(16,jF)]) ⟨[(0,⟨tt [0,1,2,7],[]⟩)],[],[],⟨tt [6],[]⟩,[],[7,8,9,10,13,15,16],[],[]⟩
def Zhg:=bd Tryz.f3
abbrev Zd5:=fin qW [.tmp 6] [] [(.bool,[])]
def Zg0:=rgN 3 Zhg
def Ze5 (m0:Nat):=sqK qW m0 Zg0 0 Zd5
def Zf5 (m0:Nat):=AH 0 (Ze5 m0)
def Zh0:=lfN 2 (rgt (lft (rgN 2 Zhg)))
def Zov (m0 n:Nat):Bf.A0:=fun x6 x7 x8 x9=>ej qW n (.loop Zh0) 0 (mk [(0, .dat Dd x6 []),(1, .dat FD x7 []),(2, .dat Ac x8 []),(7, .dat Ac x9 [])] []) (Zf5 m0)
theorem Zg5 (m0:Nat):∀ n,Zov m0 n=Bf.l0 n:=BL (S:=Bf.S0) fun n=>by kernel_rfl
abbrev Rb:=AM.spec [.val Dd, .val FD, .val Ac] [(.bool,[])] fun x=>Bf x.1 x.2.1 x.2.2.1
theorem RT:Ah Tryz.prog 3 Rb:=Ca Az (fn:=Tryz.f3) (fun m x=>show run qW Zhg m x Zd5=Bf.S (Zov m m) x.1 x.2.1 x.2.2.1 from by kernel_rfl) (fun x=>by rw [Zg5 fu fu];rfl) (Ag ⟨⟨Zpg1,Tryz.call9,fun _=>Af rfl⟩,⟨⟨Zqg1,Tryz.call7,fun _=>Af rfl⟩,⟨⟨Zzf,Tryz.call8,fun _=>Af rfl⟩,⟨⟨Zyv,Tryz.call10,fun _=>Af rfl⟩,⟨⟨Zuu,Tryz.call11,nw⟩,⟨⟨NM,Tryz.call12,nw⟩,⟨⟨Zfv,Tryz.call13,fun _=>Af rfl⟩,⟨⟨Zyc1,Tryz.call14,nw⟩,⟨⟨Zzc1,Tryz.call15,fun _=>Af rfl⟩,⟨⟨Ziw,Tryz.call16,fun _=>Af rfl⟩,trivial⟩⟩⟩⟩⟩⟩⟩⟩⟩⟩)
end
end Go.Proofs.YtclpadlpcfnfmaaGreat.Am
