import Derived.Test.YtclpadlpcfnfmaaGreatAmPure18
import Derived.Test.YtclpadlpcfnfmaaGreatSPrim
import Derived.Test.YtclpadlpcfnfmaaGreatSHand
/- PRINTED by gen/ of this repo: the code comes to the pure functions. -/
namespace Go.Proofs.YtclpadlpcfnfmaaGreat.Am
open Go.AM Go.AM.Pure
set_option linter.unusedVariables false
set_option maxRecDepth 100000
noncomputable section
abbrev yG:=AM.spec [.val AN] [(Gq,[])] fun x=>some (JY x.1)
theorem Ywx:AY Tryz.prog 26 yG:=BV Bb (fn:=Tryz.f26) (lk:=(AM.look [])) (ks:=⟨[],[],[],⟨tt [2],tt [2]⟩,[],[],[],[]⟩) (ts:=[.cell 2 45]) (fun _=>by kernel_rfl) (Ba trivial)
abbrev ZD:=AM.spec [.val JK] [(AN,[])] fun x=>some (MT x.1)
theorem kD:AY Tryz.prog 46 ZD:=BV Bb (fn:=Tryz.f46) (lk:=(AM.look [(88,iA)])) (ks:=⟨[],[],[],⟨tt [2],[]⟩,[],[88],[],[]⟩) (ts:=[.tmp 2]) (fun x=>(show _=MT.o x.1 from by kernel_rfl).trans (by unfold MT.o MT;simp only [KN])) (Ba ⟨⟨Zvd,Tryz.call88,fun _=>A9 rfl⟩,trivial⟩)
abbrev yH:=AM.spec [.val D8] [((.arr 3 AN),[])] fun x=>X1 x.1
theorem Yxx:AY Tryz.prog 45 yH:=BV Bb (fn:=Tryz.f45) (lk:=(AM.look [(78,ZE)])) (ks:=⟨[],[],[],⟨tt [2],tt [2]⟩,[],[78],[],[]⟩) (ts:=[.cell 2 86]) (fun _=>by kernel_rfl) (Ba ⟨⟨kE,Tryz.call78,fun _=>A9 rfl⟩,trivial⟩)
abbrev ug:=AM.spec [.val AN, .val AN, .val AN, .val AN] [(AN,[])] fun x=>Yv x.1 x.2.1 x.2.2.1 x.2.2.2.1
theorem Yvq:AY Tryz.prog 138 ug:=BV Bb (fn:=Tryz.f138) (lk:=(AM.look [(185,fY),(186,Vt)])) (ks:=⟨[],[],[],⟨tt [8],[]⟩,[],[185,186],[],[]⟩) (ts:=[.tmp 8]) (fun _=>by kernel_rfl) (Ba ⟨⟨yI,Tryz.call185,fun _=>A9 rfl⟩,⟨⟨ZF,Tryz.call186,fun _=>A9 rfl⟩,trivial⟩⟩)
abbrev kF:=BK.env (AM.look [(138,ug)]) ⟨[(0,⟨tt [0,1,2],tt [1000000]⟩)],[],[],⟨[],[]⟩,[0,19,22],[138],[],[]⟩
def Zwd:=bd Tryz.f77
abbrev Zxd:=fin kF [] [.ioa AN] [(A7,[])]
def Ytj (m0:Nat):=Bo 0 Zxd
def Zf3:=Bk 2 Zwd
def yJ (m0 n:Nat):Hu.A0:=fun x1 x2 x3=>ej kF n (.loop Zf3) 0 (mk [(0, .slw 1000000 0),(1, .dat AN x1 []),(2, .dat AN x2 [])] [(1000000,some (.arr AN x3 false))]) (Ytj m0)
theorem Yuj (m0:Nat):∀ n,yJ m0 n=Hu.l0 n:=BG (S:=Hu.S0) fun n=>by kernel_rfl
abbrev yK:=AM.Gp 0 [.ioa AN, .val AN, .val AN] [(A7,[])] fun x=>Hu x.1 x.2.1 x.2.2.1
theorem Yyx:AY Tryz.prog 77 yK:=RP Bb (fn:=Tryz.f77) (ts:=[]) (fun m x=>show run kF Zwd m x Zxd=Hu.S (yJ m m) x.1 x.2.1 x.2.2.1 from by kernel_rfl) (fun x=>by rw [Yuj fu fu];rfl) (Ba ⟨⟨Yvq,Tryz.call138,fun _=>A9 rfl⟩,trivial⟩)
abbrev aV:=BK.env (AM.look [(35,RC),(77,yK)]) ⟨[(0,⟨tt [4,24,25,26],tt [23]⟩)],[],[],⟨tt [2,3],tt [2,23]⟩,[2,4,23,30,37],[35],[(77,[true])],[]⟩
def kG:=bd Tryz.f37
abbrev Zyd:=fin aV [.tmp 2, .tmp 3] [] [(A7,[]),(AN,[])]
def Zg3:=AU 5 kG
def Yvj (m0:Nat):=Bt aV m0 Zg3 0 Zyd
def Ywj (m0:Nat):=Bo 0 (Yvj m0)
def Zh3:=Bk 2 (Bg (Bv (AU 4 kG)))
def yL (m0 n:Nat):Gm.A0:=fun x2 x3 x4 x5=>ej aV n (.loop Zh3) 0 (mk [(4, .slw 23 0),(24, .dat D8 x2 []),(25, .dat AN x3 []),(26, .dat AN x4 [])] [(23,some (.arr AN x5 false))]) (Ywj m0)
theorem Yxj (m0:Nat):∀ n,yL m0 n=Gm.l0 n:=BG (S:=Gm.S0) fun n=>by kernel_rfl
abbrev yM:=AM.spec [.val D8] [(A7,[]),(AN,[])] fun x=>Gm x.1
theorem Yzx:AY Tryz.prog 37 yM:=BR Bb (fn:=Tryz.f37) (fun m x=>show run aV kG m x Zyd=Gm.S (yL m m) x.1 from by kernel_rfl) (fun x=>by rw [Yxj fu fu];rfl) (Ba ⟨⟨TR,Tryz.call35,fun _=>A9 rfl⟩,⟨⟨Yyx,Tryz.call77,nw⟩,trivial⟩⟩)
abbrev RQ:=BK.env (AM.look [(35,RC),(78,ZE)]) ⟨[(0,⟨tt [4,14,15,16],[]⟩),(2,⟨tt [4,6,7,14,15,16],tt [6]⟩)],[],[],⟨tt [2,3],[]⟩,[],[35,78],[],[]⟩
def kH:=bd Tryz.f38
abbrev Zzd:=fin RQ [.tmp 2, .tmp 3] [] [(A7,[⟨0,1,0,1⟩]),(AN,[])]
def Zi3:=AU 4 kH
def Yyj (m0:Nat):=Bt RQ m0 Zi3 0 Zzd
def uh (m0:Nat):=Bo 0 (Yyj m0)
def YX:=Bk 2 (Bg (Bv (AU 3 kH)))
def ZG (m0 n:Nat):Dv.A0:=fun x3 x4 x5 x6=>ej RQ n (.loop YX) 0 (mk [(4, .dat A7 x3 [⟨0,257,0,1⟩]),(14, .dat D8 x4 []),(15, .dat AN x5 []),(16, .dat AN x6 [])] []) (uh m0)
def Yzj (m0 m1:Nat):=KG RQ m1 YX 0 (uh m0)
def Zj3:=AU 3 YX
def Yak (m0 m1:Nat):=Bt RQ m1 Zj3 0 (Yzj m0 m1)
def Ybk (m0 m1:Nat):=Bo 1 (Yak m0 m1)
def Yck (m0 m1:Nat):=Bo 2 (Ybk m0 m1)
def Zk3:=Bk 2 (AU 2 (Bk 2 (AU 2 YX)))
def yN (m0 m1 n:Nat):Dv.A1:=fun x7 x8 x9 Bc BB BQ=>ej RQ n (.loop Zk3) 2 (mk [(4, .dat A7 x7 [⟨0,257,0,1⟩]),(6, .ptr 6 0 0),(7, .dat AN x8 []),(14, .dat D8 x9 []),(15, .dat AN Bc []),(16, .dat AN BB [])] [(6,some (.var bX BQ []))]) (Yck m0 m1)
theorem Ydk (m0 m1:Nat):∀ n,yN m0 m1 n=Dv.l1 (ZG m0 m1) n:=BG (S:=Dv.S1 (ZG m0 m1)) fun n=>by kernel_rfl
theorem Yek (m0:Nat):∀ n,ZG m0 n=Dv.l0 n:=ind rfl fun n e0=>(show _=Dv.S0 (yN m0 n n) from by kernel_rfl).trans (by rw [Ydk m0 n n,e0];rfl)
abbrev yO:=AM.spec [.val D8] [(A7,[⟨0,1,0,1⟩]),(AN,[])] fun x=>Dv x.1
theorem Yay:AY Tryz.prog 38 yO:=BR Bb (fn:=Tryz.f38) (fun m x=>show run RQ kH m x Zzd=Dv.S (ZG m m) x.1 from by kernel_rfl) (fun x=>by rw [Yek fu fu];rfl) (Ba ⟨⟨TR,Tryz.call35,fun _=>A9 rfl⟩,⟨⟨kE,Tryz.call78,fun _=>A9 rfl⟩,trivial⟩⟩)
abbrev yP:=AM.spec [.val D8, .val AN] [(JL,[⟨3,1,0,1⟩]),(AN,[])] fun x=>OE x.1 x.2.1
theorem Yby:AY Tryz.prog 11 yP:=BV Bb (fn:=Tryz.f11) (lk:=(AM.look [(35,RC),(36,de),(37,yM),(38,yO)])) (ks:=⟨[],[],[],⟨tt [4,5],tt [4]⟩,[],[35],[],[]⟩) (ts:=[.cell 4 31, .tmp 5]) (fun _=>by kernel_rfl) (Ba ⟨⟨TR,Tryz.call35,fun _=>A9 rfl⟩,⟨⟨nP,Tryz.call36,nw⟩,⟨⟨Yzx,Tryz.call37,nw⟩,⟨⟨Yay,Tryz.call38,nw⟩,trivial⟩⟩⟩⟩)
abbrev Wt:=BK.env (AM.look [(35,RC),(45,yH),(11,yP)]) ⟨[(0,⟨tt [0,2,4,5,6],tt [2,4]⟩)],[],[(10,⟨tt [0,2,5],tt [2]⟩)],⟨tt [2,3],tt [2]⟩,[],[35,45],[],[]⟩
def kI:=bd Tryz.f17
abbrev kJ:=fin Wt [.cell 2 31, .tmp 3] [] [(JL,[⟨3,1,0,1⟩]),(AN,[])]
def rZ:=AU 5 kI
def iB (m0 n:Nat):DB.A1:=fun x8 x9 Bc=>ej Wt n (.tail rZ) 0 (mk [(0, .dat D8 x8 []),(2, .ptr 2 0 0),(5, .dat AN x9 [])] [(2,some (.var JL Bc [⟨1,64130,0,2⟩,⟨2,64131,0,1⟩,⟨3,64132,0,1⟩]))]) kJ
theorem Yfk (m0:Nat):∀ n,iB m0 n=DB.t1 n:=ind rfl fun n _=>by kernel_rfl
def Ygk (m0:Nat):=Bt Wt m0 rZ 0 kJ
def Yhk (m0:Nat):=Bo 0 (Ygk m0)
def Zl3:=Bk 2 (Bg (Bv (AU 4 kI)))
def yQ (m0 n:Nat):DB.A0:=fun x3 x4 x5 x6 x7=>ej Wt n (.loop Zl3) 0 (mk [(0, .dat D8 x3 []),(2, .ptr 2 0 0),(4, .ptr 4 0 0),(5, .dat AN x4 []),(6, .dat AN x5 [])] [(2,some (.var JL x6 [⟨1,64130,0,2⟩,⟨2,64131,0,1⟩,⟨3,64132,0,1⟩])),(4,some (.arr AN x7 false))]) (Yhk m0)
theorem Yik (m0:Nat):∀ n,yQ m0 n=DB.l0 (iB m0 m0) n:=BG (S:=DB.S0 (iB m0 m0)) fun n=>by kernel_rfl
abbrev yR:=AM.spec [.val D8] [(JL,[⟨3,1,0,1⟩]),(AN,[])] fun x=>DB x.1
theorem Ycy:AY Tryz.prog 17 yR:=BR Bb (fn:=Tryz.f17) (fun m x=>show run Wt kI m x kJ=DB.S (yQ m m) x.1 from by kernel_rfl) (fun x=>by rw [Yik fu fu,Yfk fu fu];rfl) (Ba ⟨⟨TR,Tryz.call35,fun _=>A9 rfl⟩,⟨⟨Yxx,Tryz.call45,fun _=>A9 rfl⟩,⟨⟨Yby,Tryz.call11,nw⟩,trivial⟩⟩⟩)
abbrev yS:=AM.spec [.val A7] [(JL,[⟨3,1,0,1⟩]),(AN,[])] fun x=>Lt x.1
theorem Ydy:AY Tryz.prog 47 yS:=BV Bb (fn:=Tryz.f47) (lk:=(AM.look [(63,dU),(17,yR)])) (ks:=⟨[],[],[],⟨tt [2,3],tt [2]⟩,[],[],[],[]⟩) (ts:=[.cell 2 31, .tmp 3]) (fun _=>by kernel_rfl) (Ba ⟨⟨qw,Tryz.call63,nw⟩,⟨⟨Ycy,Tryz.call17,nw⟩,trivial⟩⟩)
abbrev yT:=AM.spec [.val AN] [(Gq,[])] fun x=>some (eo x.1)
theorem Yey:AY Tryz.prog 91 yT:=BV Bb (fn:=Tryz.f91) (lk:=(AM.look [])) (ks:=⟨[],[],[],⟨tt [2],tt [2]⟩,[],[],[],[]⟩) (ts:=[.cell 2 45]) (fun _=>by kernel_rfl) (Ba trivial)
abbrev ui:=AM.spec [.val AN, .val AN] [(AN,[])] fun x=>some (Ow x.1 x.2.1)
theorem Ywq:AY Tryz.prog 239 ui:=BV Bb (fn:=Tryz.f239) (lk:=(AM.look [(197,fZ)])) (ks:=⟨[],[],[],⟨tt [4],[]⟩,[],[197],[],[]⟩) (ts:=[.tmp 4]) (fun x=>(show _=Ow.o x.1 x.2.1 from by kernel_rfl).trans (by unfold Ow.o Ow;simp only [KN])) (Ba ⟨⟨yU,Tryz.call197,fun _=>A9 rfl⟩,trivial⟩)
abbrev ZH:=BK.env (AM.look []) (kq [(0,⟨tt [3,6,7,8],[]⟩)] [] [2])
def iC:=bd Tryz.f238
abbrev yV:=fin ZH [.tmp 2] [] [(AN,[])]
def Znt:=AU 3 iC
def Zm3 (m0:Nat):=Bt ZH m0 Znt 0 yV
def Zn3 (m0:Nat):=Bo 0 (Zm3 m0)
def Zot:=Bk 2 (Bg (Bv (AU 2 iC)))
def uj (m0 n:Nat):Hv.A0:=fun x1 x2 x3 x4=>ej ZH n (.loop Zot) 0 (mk [(3, .dat AN x1 []),(6, .dat A7 x2 []),(7, .dat AN x3 []),(8, .dat AN x4 [])] []) (Zn3 m0)
theorem Zo3 (m0:Nat):∀ n,uj m0 n=Hv.l0 n:=BG (S:=Hv.S0) fun n=>by kernel_rfl
abbrev uk:=AM.spec [.val A7] [(AN,[])] fun x=>Hv x.1
theorem Yxq:AY Tryz.prog 238 uk:=BR Bb (fn:=Tryz.f238) (fun m x=>show run ZH iC m x yV=Hv.S (uj m m) x.1 from by kernel_rfl) (fun x=>by rw [Zo3 fu fu];rfl) (Ba trivial)
abbrev um:=AM.spec [.val Gq, .val Gq] [(AN,[])] fun x=>Yb x.1 x.2.1
theorem Yyq:AY Tryz.prog 200 um:=BV Bb (fn:=Tryz.f200) (lk:=(AM.look [(239,ui),(240,nS),(238,uk)])) (ks:=⟨[],[],[],⟨tt [4],[]⟩,[],[238,239,240],[],[20]⟩) (ts:=[.tmp 4]) (fun _=>by kernel_rfl) (Ba ⟨⟨Ywq,Tryz.call239,fun _=>A9 rfl⟩,⟨⟨Zzi,Tryz.call240,fun _=>A9 rfl⟩,⟨⟨Yxq,Tryz.call238,fun _=>A9 rfl⟩,trivial⟩⟩⟩)
abbrev uo:=AM.spec [.val JK, .val Gq] [(.bool,[])] fun x=>Yi x.1 x.2.1
theorem Yzq:AY Tryz.prog 152 uo:=BV Bb (fn:=Tryz.f152) (lk:=(AM.look [(200,um)])) (ks:=⟨[],[],[],⟨tt [4],[]⟩,[],[200],[],[]⟩) (ts:=[.tmp 4]) (fun _=>by kernel_rfl) (Ba ⟨⟨Yyq,Tryz.call200,fun _=>A9 rfl⟩,trivial⟩)
abbrev VG:=AM.spec [.val JK, .val Gq] [(.bool,[])] fun x=>Rh x.1 x.2.1
theorem aW:AY Tryz.prog 90 VG:=BV Bb (fn:=Tryz.f90) (lk:=(AM.look [(46,ZD),(152,uo)])) (ks:=⟨[],[],[],⟨tt [4],[]⟩,[],[46,152],[],[]⟩) (ts:=[.tmp 4]) (fun _=>by kernel_rfl) (Ba ⟨⟨kD,Tryz.call46,fun _=>A9 rfl⟩,⟨⟨Yzq,Tryz.call152,fun _=>A9 rfl⟩,trivial⟩⟩)
abbrev kK:=BK.env (AM.look []) (kq [(0,⟨tt [0,2,6],tt [1000000]⟩)] [] [])
def Zae:=bd Tryz.f92
abbrev Zbe:=fin kK [] [.io FO [(5,1)]] [(FO,[⟨5,1,0,1⟩])]
def Yjk (m0:Nat):=Bo 0 Zbe
def Zp3:=Bk 2 (Bg Zae)
def yW (m0 n:Nat):FT.A0:=fun x1 x2 x3=>ej kK n (.loop Zp3) 0 (mk [(0, .ptr 1000000 0 0),(2, .dat AN x1 []),(6, .dat AN x2 [])] [(1000000,some (.var FO x3 [⟨5,64064006,0,1⟩]))]) (Yjk m0)
theorem Ykk (m0:Nat):∀ n,yW m0 n=FT.l0 n:=BG (S:=FT.S0) fun n=>by kernel_rfl
abbrev VH:=AM.Gp 0 [.io FO [(5,1)], .val AN, .val AN] [(FO,[⟨5,1,0,1⟩])] fun x=>FT x.1 x.2.1 x.2.2.1
theorem aX:AY Tryz.prog 92 VH:=RP Bb (fn:=Tryz.f92) (ts:=[]) (fun m x=>show run kK Zae m x Zbe=FT.S (yW m m) x.1 x.2.1 x.2.2.1 from by kernel_rfl) (fun x=>by rw [Ykk fu fu];rfl) (Ba trivial)
abbrev kL:=BK.env (AM.look [(89,ZI),(91,yT),(90,VG),(92,VH)]) ⟨[(0,⟨tt [0,17,18,19],tt [1000000]⟩)],[],[],⟨[],[]⟩,[],[90,91],[],[]⟩
def Zce:=bd Tryz.f49
abbrev Zde:=fin kL [] [.io FO [(5,1)]] [(FO,[⟨5,1,0,1⟩])]
def Ylk (m0:Nat):=Bo 0 Zde
def Zq3:=Bk 2 (AU 2 Zce)
def yX (m0 n:Nat):FU.A0:=fun x2 x3 x4 x5=>ej kL n (.loop Zq3) 0 (mk [(0, .ptr 1000000 0 0),(17, .dat It x2 [⟨0,1089,0,3⟩]),(18, .dat AN x3 []),(19, .dat AN x4 [])] [(1000000,some (.var FO x5 [⟨5,64064006,0,1⟩]))]) (Ylk m0)
theorem Ymk (m0:Nat):∀ n,yX m0 n=FU.l0 n:=BG (S:=FU.S0) fun n=>by kernel_rfl
abbrev yY:=AM.Gp 0 [.io FO [(5,1)], .val AN] [(FO,[⟨5,1,0,1⟩])] fun x=>FU x.1 x.2.1
theorem Yfy:AY Tryz.prog 49 yY:=RP Bb (fn:=Tryz.f49) (ts:=[]) (fun m x=>show run kL Zce m x Zde=FU.S (yX m m) x.1 x.2.1 from by kernel_rfl) (fun x=>by rw [Ymk fu fu];rfl) (Ba ⟨⟨kM,Tryz.call89,nw⟩,⟨⟨Yey,Tryz.call91,fun _=>A9 rfl⟩,⟨⟨aW,Tryz.call90,fun _=>A9 rfl⟩,⟨⟨aX,Tryz.call92,nw⟩,trivial⟩⟩⟩⟩)
abbrev RR:=BK.env (AM.look []) (kq [(0,⟨tt [1,5,11,12,13],[]⟩),(2,⟨tt [5,8,26,27,28],[]⟩)] [(8,⟨tt [1,5],[]⟩)] [4])
def Wu:=bd Tryz.f53
abbrev aY:=fin RR [.tmp 4] [] [(A7,[⟨0,1,0,1⟩])]
def Zr3:=AU 5 Wu
def Ynk (m0 m1:Nat):=Bt RR m1 Zr3 0 aY
def Yok (m0 m1:Nat):=Bo 2 (Ynk m0 m1)
def Zs3:=Bk 2 (Bg (Bv (AU 4 Wu)))
def yZ (m0 m1 n:Nat):CJ.A2:=fun x8 x9 Bc BB BQ=>ej RR n (.loop Zs3) 2 (mk [(5, .dat A7 x8 [⟨0,321,0,1⟩]),(8, .dat A7 x9 [⟨0,513,0,1⟩]),(26, .dat A7 Bc []),(27, .dat AN BB []),(28, .dat AN BQ [])] []) (Yok m0 m1)
theorem Ypk (m0 m1:Nat):∀ n,yZ m0 m1 n=CJ.l2 n:=BG (S:=CJ.S2) fun n=>by kernel_rfl
def r7:=AU 3 Wu
def iD (m0 n:Nat):CJ.A1:=fun x6 x7=>ej RR n (.tail r7) 0 (mk [(1, .dat A7 x6 []),(5, .dat A7 x7 [⟨0,321,0,1⟩])] []) aY
theorem Yqk (m0:Nat):∀ n,iD m0 n=CJ.t1 n:=ind rfl fun n _=>(show _=CJ.S1 (yZ m0 n n) from by kernel_rfl).trans (by rw [Ypk m0 n n];rfl)
def Yrk (m0:Nat):=Bt RR m0 r7 0 aY
def Ysk (m0:Nat):=Bo 0 (Yrk m0)
def Zt3:=Bk 2 (Bg (Bv (AU 2 Wu)))
def y3 (m0 n:Nat):CJ.A0:=fun x1 x2 x3 x4 x5=>ej RR n (.loop Zt3) 0 (mk [(1, .dat A7 x1 []),(5, .dat A7 x2 [⟨0,321,0,1⟩]),(11, .dat Cx x3 []),(12, .dat AN x4 []),(13, .dat AN x5 [])] []) (Ysk m0)
theorem Ytk (m0:Nat):∀ n,y3 m0 n=CJ.l0 (iD m0 m0) n:=BG (S:=CJ.S0 (iD m0 m0)) fun n=>by kernel_rfl
abbrev y4:=AM.spec [.val Cx, .val A7] [(A7,[⟨0,1,0,1⟩])] fun x=>CJ x.1 x.2.1
theorem Ygy:AY Tryz.prog 53 y4:=BR Bb (fn:=Tryz.f53) (fun m x=>show run RR Wu m x aY=CJ.S (y3 m m) x.1 x.2.1 from by kernel_rfl) (fun x=>by rw [Ytk fu fu,Yqk fu fu];rfl) (Ba trivial)
abbrev TS:=BK.env (AM.look [(93,iE),(90,VG),(92,VH)]) ⟨[(0,⟨tt [0,5,7,25,26,27],tt [24,1000000]⟩),(2,⟨tt [0,7,43,44,45],tt [24,1000000]⟩)],[],[(7,⟨tt [0,5,7],tt [24,1000000]⟩)],⟨[],[]⟩,[7,24,32,50],[90],[],[]⟩
def aZ:=bd Tryz.f50
abbrev a7:=fin TS [] [.io FO [(5,1)]] [(FO,[⟨5,1,0,1⟩])]
def Yuk (m0:Nat):=Bo 2 a7
def Zu3:=Bk 2 (AU 4 aZ)
def y5 (m0 n:Nat):Cv.A2:=fun BQ BC BS Ck B6=>ej TS n (.loop Zu3) 2 (mk [(0, .ptr 1000000 0 0),(7, .slw 24 0),(43, .dat A7 BQ []),(44, .dat AN BC []),(45, .dat AN BS [])] [(24,some (.arr .bool Ck false)),(1000000,some (.var FO B6 [⟨5,64064006,0,1⟩]))]) (Yuk m0)
theorem Yvk (m0 m1:Nat):∀ n,y5 m0 n=Cv.l2 n:=BG (S:=Cv.S2) fun n=>by kernel_rfl
def r8:=AU 3 aZ
def iF (m0 n:Nat):Cv.A1:=fun x9 Bc BB=>ej TS n (.tail r8) 0 (mk [(0, .ptr 1000000 0 0),(5, .dat A7 x9 []),(7, .slw 24 0)] [(24,some (.arr .bool Bc false)),(1000000,some (.var FO BB [⟨5,64064006,0,1⟩]))]) a7
theorem Ywk (m0:Nat):∀ n,iF m0 n=Cv.t1 n:=ind rfl fun n _=>(show _=Cv.S1 (y5 m0 n) from by kernel_rfl).trans (by rw [Yvk m0 n n];rfl)
def Yxk (m0:Nat):=Bt TS m0 r8 0 a7
def Yyk (m0:Nat):=Bo 0 (Yxk m0)
def Zv3:=Bk 2 (Bg (Bv (AU 2 aZ)))
def y6 (m0 n:Nat):Cv.A0:=fun x2 x3 x4 x5 x6 x7=>ej TS n (.loop Zv3) 0 (mk [(0, .ptr 1000000 0 0),(5, .dat A7 x2 []),(7, .slw 24 0),(25, .dat Cs x3 [⟨0,1601,0,1⟩]),(26, .dat AN x4 []),(27, .dat AN x5 [])] [(24,some (.arr .bool x6 false)),(1000000,some (.var FO x7 [⟨5,64064006,0,1⟩]))]) (Yyk m0)
theorem Yzk (m0:Nat):∀ n,y6 m0 n=Cv.l0 (iF m0 m0) n:=BG (S:=Cv.S0 (iF m0 m0)) fun n=>by kernel_rfl
abbrev y7:=AM.Gp 0 [.io FO [(5,1)], .val AN] [(FO,[⟨5,1,0,1⟩])] fun x=>Cv x.1 x.2.1
theorem Yhy:AY Tryz.prog 50 y7:=RP Bb (fn:=Tryz.f50) (ts:=[]) (fun m x=>show run TS aZ m x a7=Cv.S (y6 m m) x.1 x.2.1 from by kernel_rfl) (fun x=>by rw [Yzk fu fu,Ywk fu fu];rfl) (Ba ⟨⟨Zee,Tryz.call93,nw⟩,⟨⟨aW,Tryz.call90,fun _=>A9 rfl⟩,⟨⟨aX,Tryz.call92,nw⟩,trivial⟩⟩⟩)
abbrev uq:=AM.spec [.val AN, .ref AN, .ref JK, .ref A7] [(.bool,[])] fun x=>XV x.1 x.2.1 x.2.2.1 x.2.2.2.1
theorem Yar:AY Tryz.prog 161 uq:=BV Bb (fn:=Tryz.f161) (lk:=(AM.look [(90,VG)])) (ks:=⟨[],[],[],⟨tt [5],[]⟩,[],[90],[],[]⟩) (ts:=[.tmp 5]) (fun _=>by kernel_rfl) (Ba ⟨⟨aW,Tryz.call90,fun _=>A9 rfl⟩,trivial⟩)
abbrev ZJ:=BK.env (AM.look [(161,uq)]) ⟨[(0,⟨tt [1,5,6],[]⟩)],[],[],⟨tt [4],[]⟩,[],[161],[],[]⟩
def iG:=bd Tryz.f160
abbrev y8:=fin ZJ [.tmp 4] [] [(AN,[])]
def Zpt:=AU 3 iG
def Zw3 (m0:Nat):=Bt ZJ m0 Zpt 0 y8
def Zx3 (m0:Nat):=Bo 0 (Zw3 m0)
def Zqt:=Bk 3 (AU 2 iG)
def ur (m0 n:Nat):I9.A0:=fun x1 x2 x3 x4 x5=>ej ZJ n (.loop Zqt) 0 (mk [(1, .fn 161 [⟨AN,x1,[]⟩,⟨JK,x2,[]⟩,⟨A7,x3,[]⟩]),(5, .dat AN x4 []),(6, .dat AN x5 [])] []) (Zx3 m0)
theorem Zy3 (m0:Nat):∀ n,ur m0 n=I9.l0 n:=BG (S:=I9.S0) fun n=>by kernel_rfl
abbrev uu:=AM.spec [.val AN, .fn 161 [AN,JK,A7]] [(AN,[])] fun x=>I9 x.1 x.2.1.1 x.2.1.2.1 x.2.1.2.2.1
theorem Ybr:AY Tryz.prog 160 uu:=BR Bb (fn:=Tryz.f160) (fun m x=>show run ZJ iG m x y8=I9.S (ur m m) x.1 x.2.1.1 x.2.1.2.1 x.2.1.2.2.1 from by kernel_rfl) (fun x=>by rw [Zy3 fu fu];rfl) (Ba ⟨⟨Yar,Tryz.call161,fun _=>A9 rfl⟩,trivial⟩)
abbrev uv:=AM.spec [.val AN, .ref A7, .ref JK] [(AN,[])] fun x=>MP x.1 x.2.1 x.2.2.1
theorem Ycr:AY Tryz.prog 159 uv:=BV Bb (fn:=Tryz.f159) (lk:=(AM.look [(160,uu)])) (ks:=⟨[],[],[],⟨tt [4],[]⟩,[],[160],[],[]⟩) (ts:=[.tmp 4]) (fun _=>by kernel_rfl) (Ba ⟨⟨Ybr,Tryz.call160,fun _=>A9 rfl⟩,trivial⟩)
abbrev kN:=BK.env (AM.look [(46,ZD),(159,uv)]) ⟨[],[],[(15,⟨tt [7,8],[]⟩)],⟨tt [4,5],[]⟩,[],[46,159],[],[]⟩
def Zfe:=bd Tryz.f96
abbrev Zge:=fin kN [.tmp 4, .tmp 5] [] [(AN,[]),(AN,[])]
def Yal:=AU 5 Zfe
def y9 (m0 n:Nat):Ja.A0:=fun x4 x5=>ej kN n (.tail Yal) 0 (mk [(7, .dat AN x4 []),(8, .dat AN x5 [])] []) Zge
theorem Ybl (m0:Nat):∀ n,y9 m0 n=Ja.t0 n:=ind rfl fun n _=>by kernel_rfl
abbrev za:=AM.spec [.val JK, .val A7] [(AN,[]),(AN,[])] fun x=>Ja x.1 x.2.1
theorem Yiy:AY Tryz.prog 96 za:=BR Bb (fn:=Tryz.f96) (fun m x=>show run kN Zfe m x Zge=Ja.S (y9 m m) x.1 x.2.1 from by kernel_rfl) (fun x=>by rw [Ybl fu fu];rfl) (Ba ⟨⟨kD,Tryz.call46,fun _=>A9 rfl⟩,⟨⟨Ycr,Tryz.call159,fun _=>A9 rfl⟩,trivial⟩⟩)
abbrev kO:=BK.env (AM.look [(94,iH),(95,oT),(96,za),(92,VH)]) ⟨[(0,⟨tt [0,8,9,35,36,37],tt [1000000]⟩)],[],[],⟨[],[]⟩,[],[96],[],[]⟩
def Zhe:=bd Tryz.f51
abbrev Zie:=fin kO [] [.io FO [(5,1)]] [(FO,[⟨5,1,0,1⟩])]
def Ycl (m0:Nat):=Bo 0 Zie
def Zz3:=Bk 2 (AU 4 Zhe)
def zb (m0 n:Nat):EC.A0:=fun x4 x5 x6 x7 x8 x9=>ej kO n (.loop Zz3) 0 (mk [(0, .ptr 1000000 0 0),(8, .dat AN x4 []),(9, .dat AN x5 []),(35, .dat A7 x6 []),(36, .dat AN x7 []),(37, .dat AN x8 [])] [(1000000,some (.var FO x9 [⟨5,64064006,0,1⟩]))]) (Ycl m0)
theorem Ydl (m0:Nat):∀ n,zb m0 n=EC.l0 n:=BG (S:=EC.S0) fun n=>by kernel_rfl
abbrev zc:=AM.Gp 0 [.io FO [(5,1)], .val AN] [(FO,[⟨5,1,0,1⟩])] fun x=>EC x.1 x.2.1
theorem Yjy:AY Tryz.prog 51 zc:=RP Bb (fn:=Tryz.f51) (ts:=[]) (fun m x=>show run kO Zhe m x Zie=EC.S (zb m m) x.1 x.2.1 from by kernel_rfl) (fun x=>by rw [Ydl fu fu];rfl) (Ba ⟨⟨Zje,Tryz.call94,nw⟩,⟨⟨Zaq,Tryz.call95,nw⟩,⟨⟨Yiy,Tryz.call96,fun _=>A9 rfl⟩,⟨⟨aX,Tryz.call92,nw⟩,trivial⟩⟩⟩⟩)
abbrev kP:=BK.env (AM.look [(90,VG),(92,VH)]) ⟨[(0,⟨tt [0,4,7,8,9],tt [1000000]⟩)],[],[],⟨[],[]⟩,[],[90],[],[]⟩
def Zke:=bd Tryz.f52
abbrev Zle:=fin kP [] [.io FO [(5,1)]] [(FO,[⟨5,1,0,1⟩])]
def Yel (m0:Nat):=Bo 0 Zle
def Za4:=Bk 2 (AU 2 Zke)
def zd (m0 n:Nat):ES.A0:=fun x1 x2 x3 x4 x5=>ej kP n (.loop Za4) 0 (mk [(0, .ptr 1000000 0 0),(4, .dat AN x1 []),(7, .dat Cx x2 []),(8, .dat AN x3 []),(9, .dat AN x4 [])] [(1000000,some (.var FO x5 [⟨5,64064006,0,1⟩]))]) (Yel m0)
theorem Yfl (m0:Nat):∀ n,zd m0 n=ES.l0 n:=BG (S:=ES.S0) fun n=>by kernel_rfl
abbrev ze:=AM.Gp 0 [.io FO [(5,1)], .val Cx] [(FO,[⟨5,1,0,1⟩])] fun x=>ES x.1 x.2.1
theorem Yky:AY Tryz.prog 52 ze:=RP Bb (fn:=Tryz.f52) (ts:=[]) (fun m x=>show run kP Zke m x Zle=ES.S (zd m m) x.1 x.2.1 from by kernel_rfl) (fun x=>by rw [Yfl fu fu];rfl) (Ba ⟨⟨aW,Tryz.call90,fun _=>A9 rfl⟩,⟨⟨aX,Tryz.call92,nw⟩,trivial⟩⟩)
abbrev QB:=BK.env (AM.look [(46,ZD),(43,iI),(39,zf),(47,yS),(48,zg),(49,yY),(53,y4),(50,y7),(51,zc),(52,ze)]) ⟨[(0,⟨tt [4,10,39,40,41],tt [4]⟩)],[],[(15,⟨tt [4,10],tt [4]⟩),(16,⟨tt [0,3,4,6,8],tt [3,4,6]⟩),(26,⟨tt [4,8,16],tt [4,67]⟩)],⟨tt [4,5],tt [4]⟩,[],[43,46,48],[],[]⟩
def a8:=bd Tryz.f18
abbrev ba:=fin QB [.cell 4 31, .tmp 5] [] [(JL,[⟨3,1,0,1⟩]),(AN,[])]
def fA:=AU 6 a8
def uw (m0:Nat):=Bt QB m0 fA 0 ba
def r9:=AU 2 (Bv (Bg (Bv (AU 5 a8))))
def iJ (m0 n:Nat):B5.A1:=fun x9 Bc=>ej QB n (.tail r9) 0 (mk [(4, .ptr 4 0 0),(10, .dat A7 x9 [⟨0,641,0,1⟩])] [(4,some (.var JL Bc [⟨1,64258,0,2⟩,⟨2,64259,0,1⟩,⟨3,64260,0,1⟩]))]) (uw m0)
theorem Ygl (m0:Nat):∀ n,iJ m0 n=B5.t1 n:=ind rfl fun n _=>by kernel_rfl
def Yhl (m0:Nat):=Bt QB m0 r9 0 (uw m0)
def Yil (m0:Nat):=Bo 0 (Yhl m0)
def Zb4:=Bk 2 (Bg (Bv (Bg (Bv (Bg (Bv (AU 5 a8)))))))
def zh (m0 n:Nat):B5.A0:=fun x4 x5 x6 x7 x8=>ej QB n (.loop Zb4) 0 (mk [(4, .ptr 4 0 0),(10, .dat A7 x4 [⟨0,641,0,1⟩]),(39, .dat Cx x5 []),(40, .dat AN x6 []),(41, .dat AN x7 [])] [(4,some (.var JL x8 [⟨1,64258,0,2⟩,⟨2,64259,0,1⟩,⟨3,64260,0,1⟩]))]) (Yil m0)
theorem Yjl (m0:Nat):∀ n,zh m0 n=B5.l0 (iJ m0 m0) n:=BG (S:=B5.S0 (iJ m0 m0)) fun n=>by kernel_rfl
def Zc4:=AU 4 fA
def zi (m0 n:Nat):B5.A3:=fun CW DJ Ef=>ej QB n (.tail Zc4) 0 (mk [(4, .ptr 4 0 0),(8, .dat Cx CW []),(16, .ptr 67 0 0)] [(4,some (.var JL DJ [⟨1,64258,0,2⟩,⟨2,64259,0,1⟩,⟨3,64260,0,1⟩])),(67,some (.var FO Ef [⟨5,68294,0,1⟩]))]) ba
theorem Ykl (m0 m1:Nat):∀ n,zi m0 n=B5.t3 n:=ind rfl fun n _=>by kernel_rfl
def zj (m0 n:Nat):B5.A2:=fun BQ BC BS Ck B6=>ej QB n (.tail fA) 0 (mk [(0, .dat .str BQ []),(3, .ptr 3 0 0),(4, .ptr 4 0 0),(6, .ptr 6 0 0),(8, .dat Cx BC [])] [(3,some (.var JK BS [])),(4,some (.var JL Ck [⟨1,64258,0,2⟩,⟨2,64259,0,1⟩,⟨3,64260,0,1⟩])),(6,some (.var T8 B6 []))]) ba
theorem Yll (m0:Nat):∀ n,zj m0 n=B5.t2 n:=ind rfl fun n _=>(show _=B5.S2 (zi m0 n) from by kernel_rfl).trans (by rw [Ykl m0 n n];rfl)
abbrev iK:=AM.spec [.val .str, .val JK] [(JL,[⟨3,1,0,1⟩]),(AN,[])] fun x=>B5 x.1 x.2.1
theorem Zme:AY Tryz.prog 18 iK:=BR Bb (fn:=Tryz.f18) (fun m x=>show run QB a8 m x ba=B5.S (zh m m) (zj m m) x.1 x.2.1 from by kernel_rfl) (fun x=>by rw [Yll fu fu,Yjl fu fu,Ygl fu fu];rfl) (Ba ⟨⟨kD,Tryz.call46,fun _=>A9 rfl⟩,⟨⟨Zne,Tryz.call43,fun _=>A9 rfl⟩,⟨⟨Zoe,Tryz.call39,nw⟩,⟨⟨Ydy,Tryz.call47,nw⟩,⟨⟨Yly,Tryz.call48,fun _=>A9 rfl⟩,⟨⟨Yfy,Tryz.call49,nw⟩,⟨⟨Ygy,Tryz.call53,nw⟩,⟨⟨Yhy,Tryz.call50,nw⟩,⟨⟨Yjy,Tryz.call51,nw⟩,⟨⟨Yky,Tryz.call52,nw⟩,trivial⟩⟩⟩⟩⟩⟩⟩⟩⟩⟩)
abbrev Wv:=BK.env (AM.look [(12,du),(43,iI)]) ⟨[(0,⟨tt [11,12,32,33,34],[]⟩)],[],[(14,⟨tt [11,12],[]⟩)],⟨tt [4,5,6],[]⟩,[],[43],[],[]⟩
def kQ:=bd Tryz.f13
abbrev kR:=fin Wv [.tmp 4, .tmp 5, .tmp 6] [] [(AN,[]),(AN,[]),(AN,[])]
def sa:=AU 6 kQ
def iL (m0 n:Nat):EK.A1:=fun x8 x9=>ej Wv n (.tail sa) 0 (mk [(11, .dat AN x8 []),(12, .dat AN x9 [])] []) kR
theorem Yml (m0:Nat):∀ n,iL m0 n=EK.t1 n:=ind rfl fun n _=>by kernel_rfl
def Ynl (m0:Nat):=Bt Wv m0 sa 0 kR
def Yol (m0:Nat):=Bo 0 (Ynl m0)
def Zd4:=Bk 2 (Bg (Bv (AU 5 kQ)))
def zk (m0 n:Nat):EK.A0:=fun x3 x4 x5 x6 x7=>ej Wv n (.loop Zd4) 0 (mk [(11, .dat AN x3 []),(12, .dat AN x4 []),(32, .dat Cx x5 []),(33, .dat AN x6 []),(34, .dat AN x7 [])] []) (Yol m0)
theorem Ypl (m0:Nat):∀ n,zk m0 n=EK.l0 (iL m0 m0) n:=BG (S:=EK.S0 (iL m0 m0)) fun n=>by kernel_rfl
abbrev zm:=AM.spec [.val .str, .val JL] [(AN,[]),(AN,[]),(AN,[])] fun x=>EK x.1 x.2.1
theorem Ymy:AY Tryz.prog 13 zm:=BR Bb (fn:=Tryz.f13) (fun m x=>show run Wv kQ m x kR=EK.S (zk m m) x.1 x.2.1 from by kernel_rfl) (fun x=>by rw [Ypl fu fu,Yml fu fu];rfl) (Ba ⟨⟨ot,Tryz.call12,nw⟩,⟨⟨Zne,Tryz.call43,fun _=>A9 rfl⟩,trivial⟩⟩)
abbrev iM:=AM.spec [.val JL] [(D8,[])] fun x=>MN x.1
theorem Zpe:AY Tryz.prog 23 iM:=BV Bb (fn:=Tryz.f23) (lk:=(AM.look [(62,oe),(63,dU),(36,de)])) (ks:=(kz [2])) (ts:=[.tmp 2]) (fun _=>by kernel_rfl) (Ba ⟨⟨Zyk,Tryz.call62,nw⟩,⟨⟨qw,Tryz.call63,nw⟩,⟨⟨nP,Tryz.call36,nw⟩,trivial⟩⟩⟩)
abbrev bf:=BK.env (AM.look []) (kq [(0,⟨tt [0,1,5],[]⟩)] [] [4])
def kS:=bd Tryz.f22
abbrev Zqe:=fin bf [.tmp 4] [] [(.bool,[])]
def Ze4:=AU 3 kS
def Yql (m0:Nat):=Bt bf m0 Ze4 0 Zqe
def Yrl (m0:Nat):=Bo 0 (Yql m0)
def Zf4:=Bk 2 (Bg (Bv (AU 2 kS)))
def zn (m0 n:Nat):FZ.A0:=fun x1 x2 x3=>ej bf n (.loop Zf4) 0 (mk [(0, .dat D8 x1 []),(1, .dat D8 x2 []),(5, .dat AN x3 [])] []) (Yrl m0)
theorem Ysl (m0:Nat):∀ n,zn m0 n=FZ.l0 n:=BG (S:=FZ.S0) fun n=>by kernel_rfl
abbrev iN:=AM.spec [.val D8, .val D8] [(.bool,[])] fun x=>FZ x.1 x.2.1
theorem Zre:AY Tryz.prog 22 iN:=BR Bb (fn:=Tryz.f22) (fun m x=>show run bf kS m x Zqe=FZ.S (zn m m) x.1 x.2.1 from by kernel_rfl) (fun x=>by rw [Ysl fu fu];rfl) (Ba trivial)
abbrev Zse:=AM.spec [] [(.bool,[])] fun x=>Rb
theorem Yg3:AY Tryz.prog 9 Zse:=BV Bb (fn:=Tryz.f9) (lk:=(AM.look [(26,yG),(10,iO),(18,iK),(12,du),(13,zm),(23,iM),(22,iN),(16,zo)])) (ks:=⟨[],[],[],⟨tt [0],[]⟩,[],[10,13,16,22,26],[],[]⟩) (ts:=[.tmp 0]) (fun _=>by kernel_rfl) (Ba ⟨⟨Ywx,Tryz.call26,fun _=>A9 rfl⟩,⟨⟨Zte,Tryz.call10,fun _=>A9 rfl⟩,⟨⟨Zme,Tryz.call18,nw⟩,⟨⟨ot,Tryz.call12,nw⟩,⟨⟨Ymy,Tryz.call13,fun _=>A9 rfl⟩,⟨⟨Zpe,Tryz.call23,nw⟩,⟨⟨Zre,Tryz.call22,fun _=>A9 rfl⟩,⟨⟨Yny,Tryz.call16,fun _=>A9 rfl⟩,trivial⟩⟩⟩⟩⟩⟩⟩⟩)
abbrev iP:=AM.spec [.val JK] [(.bool,[])] fun x=>some (Nz x.1)
theorem Zue:AY Tryz.prog 20 iP:=BV Bb (fn:=Tryz.f20) (lk:=(AM.look [(59,iQ)])) (ks:=⟨[],[],[],⟨tt [2],[]⟩,[],[59],[],[]⟩) (ts:=[.tmp 2]) (fun x=>(show _=Nz.o x.1 from by kernel_rfl).trans (by unfold Nz.o Nz;simp only [KN])) (Ba ⟨⟨Zve,Tryz.call59,fun _=>A9 rfl⟩,trivial⟩)
abbrev ux:=AM.spec [.val Gq, .val Gq] [(AN,[])] fun x=>some (Oy x.1 x.2.1)
theorem Ydr:AY Tryz.prog 108 ux:=BV Bb (fn:=Tryz.f108) (lk:=(AM.look [])) (ks:=(kz [4])) (ts:=[.tmp 4]) (fun x=>(show _=Oy.o x.1 x.2.1 from by kernel_rfl).trans (by unfold Oy.o Oy;simp only [KN])) (Ba trivial)
abbrev zp:=AM.spec [.val JK, .val Gq] [(.bool,[])] fun x=>some (MQ x.1 x.2.1)
theorem Yoy:AY Tryz.prog 60 zp:=BV Bb (fn:=Tryz.f60) (lk:=(AM.look [(20,iP),(108,ux)])) (ks:=⟨[],[],[],⟨tt [4],[]⟩,[],[20,108],[],[]⟩) (ts:=[.tmp 4]) (fun x=>(show _=MQ.o x.1 x.2.1 from by kernel_rfl).trans (by unfold MQ.o MQ;simp only [KN])) (Ba ⟨⟨Zue,Tryz.call20,fun _=>A9 rfl⟩,⟨⟨Ydr,Tryz.call108,fun _=>A9 rfl⟩,trivial⟩⟩)
abbrev bg:=BK.env (AM.look []) ⟨[(0,⟨tt [0,3,4],tt [3]⟩)],[],[],⟨tt [2],tt [3]⟩,[2,3,25,26,35,41,42],[],[],[]⟩
def kT:=bd Tryz.f61
abbrev Zwe:=fin bg [.tmp 2] [] [(D8,[])]
def Zg4:=AU 3 kT
def Ytl (m0:Nat):=Bt bg m0 Zg4 0 Zwe
def Yul (m0:Nat):=Bo 0 (Ytl m0)
def Zh4:=Bk 2 (Bg (Bv (AU 2 kT)))
def zq (m0 n:Nat):GX.A0:=fun x1 x2 x3=>ej bg n (.loop Zh4) 0 (mk [(0, .dat (.sl .bool) x1 []),(3, .slw 3 0),(4, .dat AN x2 [])] [(3,some (.arr bX x3 false))]) (Yul m0)
theorem Yvl (m0:Nat):∀ n,zq m0 n=GX.l0 n:=BG (S:=GX.S0) fun n=>by kernel_rfl
abbrev zr:=AM.spec [.val (.sl .bool)] [(D8,[])] fun x=>GX x.1
theorem Ypy:AY Tryz.prog 61 zr:=BR Bb (fn:=Tryz.f61) (fun m x=>show run bg kT m x Zwe=GX.S (zq m m) x.1 from by kernel_rfl) (fun x=>by rw [Yvl fu fu];rfl) (Ba trivial)
abbrev bh:=BK.env (AM.look [(60,zp),(61,zr)]) ⟨[(0,⟨tt [0,3,5,6],tt [3,9]⟩)],[],[],⟨tt [4],[]⟩,[5,9,16,25],[60],[],[]⟩
def kU:=bd Tryz.f21
abbrev Zxe:=fin bh [.tmp 4] [] [(D8,[])]
def Zi4:=AU 3 kU
def Ywl (m0:Nat):=Bt bh m0 Zi4 0 Zxe
def Yxl (m0:Nat):=Bo 0 (Ywl m0)
def Zj4:=Bk 2 (Bg (Bv (AU 2 kU)))
def zt (m0 n:Nat):FY.A0:=fun x1 x2 x3 x4=>ej bh n (.loop Zj4) 0 (mk [(0, .dat Cx x1 []),(3, .ptr 3 0 0),(5, .slw 9 0),(6, .dat AN x2 [])] [(3,some (.var JK x3 [])),(9,some (.arr .bool x4 false))]) (Yxl m0)
theorem Yyl (m0:Nat):∀ n,zt m0 n=FY.l0 n:=BG (S:=FY.S0) fun n=>by kernel_rfl
abbrev zu:=AM.spec [.val Cx, .val JK] [(D8,[])] fun x=>FY x.1 x.2.1
theorem Yqy:AY Tryz.prog 21 zu:=BR Bb (fn:=Tryz.f21) (fun m x=>show run bh kU m x Zxe=FY.S (zt m m) x.1 x.2.1 from by kernel_rfl) (fun x=>by rw [Yyl fu fu];rfl) (Ba ⟨⟨Yoy,Tryz.call60,fun _=>A9 rfl⟩,⟨⟨Ypy,Tryz.call61,nw⟩,trivial⟩⟩)
abbrev zv:=AM.spec [.val JL] [(AN,[])] fun x=>some (XR x.1)
theorem Yry:AY Tryz.prog 24 zv:=BV Bb (fn:=Tryz.f24) (lk:=(AM.look [])) (ks:=(kz [2])) (ts:=[.tmp 2]) (fun _=>by kernel_rfl) (Ba trivial)
abbrev bY:=BK.env (AM.look []) (kq [(0,⟨tt [0,3],[]⟩)] [] [2])
def lY:=bd Tryz.f8
abbrev Zpg:=fin bY [.tmp 2] [] [(.bool,[])]
def Yzl:=AU 2 lY
def Yer (m0:Nat):=Bt bY m0 Yzl 0 Zpg
def Yfr (m0:Nat):=Bo 0 (Yer m0)
def Yam:=Bk 2 (Bg (Bv (Bg lY)))
def Zye (m0 n:Nat):Gi.A0:=fun x1 x2=>ej bY n (.loop Yam) 0 (mk [(0, .dat D8 x1 []),(3, .dat AN x2 [])] []) (Yfr m0)
theorem Ygr (m0:Nat):∀ n,Zye m0 n=Gi.l0 n:=BG (S:=Gi.S0) fun n=>by kernel_rfl
abbrev kV:=AM.spec [.val D8] [(.bool,[])] fun x=>Gi x.1
theorem Zqg:AY Tryz.prog 8 kV:=BR Bb (fn:=Tryz.f8) (fun m x=>show run bY lY m x Zpg=Gi.S (Zye m m) x.1 from by kernel_rfl) (fun x=>by rw [Ygr fu fu];rfl) (Ba trivial)
abbrev zw:=AM.spec [.val D8] [(AN,[])] fun x=>Yu x.1
theorem Ysy:AY Tryz.prog 30 zw:=BV Bb (fn:=Tryz.f30) (lk:=(AM.look [])) (ks:=(kz [2])) (ts:=[.tmp 2]) (fun _=>by kernel_rfl) (Ba trivial)
abbrev RD:=BK.env (AM.look []) ⟨[(0,⟨tt [0,1,5,6],tt [9]⟩),(2,⟨tt [0,1,5,6,7],tt [9]⟩)],[],[],⟨tt [4],tt [9]⟩,[4,5,9,35,38],[],[],[]⟩
def iR:=bd Tryz.f172
abbrev zx:=fin RD [.tmp 4] [] [((.sl .bool),[])]
def Zrt:=AU 3 iR
def Zk4 (m0:Nat):=Bt RD m0 Zrt 0 zx
def sc (m0:Nat):=Bo 0 (Zk4 m0)
def YB:=Bk 2 (Bg (Bv (AU 2 iR)))
def Ze (m0 n:Nat):DD.A0:=fun x1 x2 x3 x4=>ej RD n (.loop YB) 0 (mk [(0, .dat D8 x1 []),(1, .dat AN x2 []),(5, .slw 9 0),(6, .dat AN x3 [])] [(9,some (.arr .bool x4 false))]) (sc m0)
def Zl4 (m0 m1:Nat):=KG RD m1 YB 0 (sc m0)
def Zst:=AU 2 YB
def Zm4 (m0 m1:Nat):=Bt RD m1 Zst 0 (Zl4 m0 m1)
def Zn4 (m0 m1:Nat):=Bo 1 (Zm4 m0 m1)
def Zo4 (m0 m1:Nat):=Bo 2 (Zn4 m0 m1)
def Ztt:=Bk 2 (Bg (Bk 2 (Bg YB)))
def uy (m0 m1 n:Nat):DD.A1:=fun x5 x6 x7 x8 x9=>ej RD n (.loop Ztt) 2 (mk [(0, .dat D8 x5 []),(1, .dat AN x6 []),(5, .slw 9 0),(6, .dat AN x7 []),(7, .dat AN x8 [])] [(9,some (.arr .bool x9 false))]) (Zo4 m0 m1)
theorem Zp4 (m0 m1:Nat):∀ n,uy m0 m1 n=DD.l1 (Ze m0 m1) n:=BG (S:=DD.S1 (Ze m0 m1)) fun n=>by kernel_rfl
theorem Zq4 (m0:Nat):∀ n,Ze m0 n=DD.l0 n:=ind rfl fun n e0=>(show _=DD.S0 (uy m0 n n) from by kernel_rfl).trans (by rw [Zp4 m0 n n,e0];rfl)
abbrev uz:=AM.spec [.val D8, .val AN] [((.sl .bool),[])] fun x=>DD x.1 x.2.1
theorem Yhr:AY Tryz.prog 172 uz:=BR Bb (fn:=Tryz.f172) (fun m x=>show run RD iR m x zx=DD.S (Ze m m) x.1 x.2.1 from by kernel_rfl) (fun x=>by rw [Zq4 fu fu];rfl) (Ba trivial)
abbrev Qq:=BK.env (AM.look [(8,kV),(30,zw),(172,uz)]) ⟨[(0,⟨tt [4,5,6,7],[]⟩),(2,⟨tt [4,5,6,7,8,9],[]⟩)],[],[],⟨tt [2,3],[]⟩,[],[8,30],[],[]⟩
def iS:=bd Tryz.f117
abbrev zy:=fin Qq [.tmp 2, .tmp 3] [] [(A7,[⟨0,1,0,1⟩]),(AN,[])]
def Zut:=AU 6 iS
def Zr4 (m0:Nat):=Bt Qq m0 Zut 0 zy
def sd (m0:Nat):=Bo 0 (Zr4 m0)
def U7:=Bk 2 (Bg (Bv (AU 5 iS)))
def Zf (m0 n:Nat):Dw.A0:=fun x4 x5 x6 x7=>ej Qq n (.loop U7) 0 (mk [(4, .dat AN x4 []),(5, .dat (.sl .bool) x5 []),(6, .dat A7 x6 [⟨0,385,0,1⟩]),(7, .dat AN x7 [])] []) (sd m0)
def Zs4 (m0 m1:Nat):=KG Qq m1 U7 0 (sd m0)
def Zvt:=AU 2 U7
def Zt4 (m0 m1:Nat):=Bt Qq m1 Zvt 0 (Zs4 m0 m1)
def Zu4 (m0 m1:Nat):=Bo 1 (Zt4 m0 m1)
def Zwt:=AU 2 (Bk 2 (Bg U7))
def Zv4 (m0 m1:Nat):=Bt Qq m1 Zwt 1 (Zu4 m0 m1)
def Zw4 (m0 m1:Nat):=Bo 2 (Zv4 m0 m1)
def Zxt:=Bk 2 (Bg (Bv (Bg (Bk 2 (Bg U7)))))
def uA (m0 m1 n:Nat):Dw.A1:=fun x8 x9 Bc BB BQ BC=>ej Qq n (.loop Zxt) 2 (mk [(4, .dat AN x8 []),(5, .dat (.sl .bool) x9 []),(6, .dat A7 Bc [⟨0,385,0,1⟩]),(7, .dat AN BB []),(8, .dat AN BQ []),(9, .dat AN BC [])] []) (Zw4 m0 m1)
theorem Zx4 (m0 m1:Nat):∀ n,uA m0 m1 n=Dw.l1 (Zf m0 m1) n:=BG (S:=Dw.S1 (Zf m0 m1)) fun n=>by kernel_rfl
theorem Zy4 (m0:Nat):∀ n,Zf m0 n=Dw.l0 n:=ind rfl fun n e0=>(show _=Dw.S0 (uA m0 n n) from by kernel_rfl).trans (by rw [Zx4 m0 n n,e0];rfl)
abbrev uB:=AM.spec [.val D8] [(A7,[⟨0,1,0,1⟩]),(AN,[])] fun x=>Dw x.1
theorem Yir:AY Tryz.prog 117 uB:=BR Bb (fn:=Tryz.f117) (fun m x=>show run Qq iS m x zy=Dw.S (Zf m m) x.1 from by kernel_rfl) (fun x=>by rw [Zy4 fu fu];rfl) (Ba ⟨⟨Zqg,Tryz.call8,fun _=>A9 rfl⟩,⟨⟨Ysy,Tryz.call30,fun _=>A9 rfl⟩,⟨⟨Yhr,Tryz.call172,nw⟩,trivial⟩⟩⟩)
abbrev RS:=BK.env (AM.look [(8,kV)]) ⟨[(0,⟨tt [0,4,5],[]⟩),(2,⟨tt [0,4,5,6],[]⟩)],[],[],⟨tt [2,3],[]⟩,[],[8],[],[]⟩
def kW:=bd Tryz.f44
abbrev Zze:=fin RS [.tmp 2, .tmp 3] [] [(A7,[⟨0,1,0,1⟩]),(AN,[])]
def Zz4:=AU 4 kW
def Ybm (m0:Nat):=Bt RS m0 Zz4 0 Zze
def uC (m0:Nat):=Bo 0 (Ybm m0)
def YY:=Bk 2 (Bg (Bv (AU 3 kW)))
def ZK (m0 n:Nat):Du.A0:=fun x2 x3 x4=>ej RS n (.loop YY) 0 (mk [(0, .dat D8 x2 []),(4, .dat A7 x3 [⟨0,257,0,1⟩]),(5, .dat AN x4 [])] []) (uC m0)
def Ycm (m0 m1:Nat):=KG RS m1 YY 0 (uC m0)
def Za5:=AU 2 YY
def Ydm (m0 m1:Nat):=Bt RS m1 Za5 0 (Ycm m0 m1)
def Yem (m0 m1:Nat):=Bo 1 (Ydm m0 m1)
def Yfm (m0 m1:Nat):=Bo 2 (Yem m0 m1)
def Zb5:=Bk 2 (Bg (Bk 2 (Bg YY)))
def zz (m0 m1 n:Nat):Du.A1:=fun x5 x6 x7 x8=>ej RS n (.loop Zb5) 2 (mk [(0, .dat D8 x5 []),(4, .dat A7 x6 [⟨0,257,0,1⟩]),(5, .dat AN x7 []),(6, .dat AN x8 [])] []) (Yfm m0 m1)
theorem Ygm (m0 m1:Nat):∀ n,zz m0 m1 n=Du.l1 (ZK m0 m1) n:=BG (S:=Du.S1 (ZK m0 m1)) fun n=>by kernel_rfl
theorem Yhm (m0:Nat):∀ n,ZK m0 n=Du.l0 n:=ind rfl fun n e0=>(show _=Du.S0 (zz m0 n n) from by kernel_rfl).trans (by rw [Ygm m0 n n,e0];rfl)
abbrev zA:=AM.spec [.val D8] [(A7,[⟨0,1,0,1⟩]),(AN,[])] fun x=>Du x.1
theorem Yty:AY Tryz.prog 44 zA:=BR Bb (fn:=Tryz.f44) (fun m x=>show run RS kW m x Zze=Du.S (ZK m m) x.1 from by kernel_rfl) (fun x=>by rw [Yhm fu fu];rfl) (Ba ⟨⟨Zqg,Tryz.call8,fun _=>A9 rfl⟩,trivial⟩)
abbrev zB:=AM.spec [.val D8, .val AN] [(AN,[])] fun x=>OF x.1 x.2.1
theorem Yuy:AY Tryz.prog 64 zB:=BV Bb (fn:=Tryz.f64) (lk:=(AM.look [(117,uB),(44,zA)])) (ks:=(kz [4])) (ts:=[.tmp 4]) (fun _=>by kernel_rfl) (Ba ⟨⟨Yir,Tryz.call117,nw⟩,⟨⟨Yty,Tryz.call44,nw⟩,trivial⟩⟩)
abbrev bk:=BK.env (AM.look [(64,zB)]) ⟨[(0,⟨tt [0,3,4],[]⟩)],[],[],⟨tt [2],[]⟩,[],[64],[],[]⟩
def kX:=bd Tryz.f25
abbrev Zaf:=fin bk [.tmp 2] [] [(AN,[])]
def Zc5:=AU 3 kX
def Yim (m0:Nat):=Bt bk m0 Zc5 0 Zaf
def Yjm (m0:Nat):=Bo 0 (Yim m0)
def Zd5:=Bk 2 (Bg (Bv (AU 2 kX)))
def zC (m0 n:Nat):Fi.A0:=fun x1 x2 x3=>ej bk n (.loop Zd5) 0 (mk [(0, .dat D8 x1 []),(3, .dat AN x2 []),(4, .dat AN x3 [])] []) (Yjm m0)
theorem Ykm (m0:Nat):∀ n,zC m0 n=Fi.l0 n:=BG (S:=Fi.S0) fun n=>by kernel_rfl
abbrev zD:=AM.spec [.val D8] [(AN,[])] fun x=>Fi x.1
theorem Yvy:AY Tryz.prog 25 zD:=BR Bb (fn:=Tryz.f25) (fun m x=>show run bk kX m x Zaf=Fi.S (zC m m) x.1 from by kernel_rfl) (fun x=>by rw [Ykm fu fu];rfl) (Ba ⟨⟨Yuy,Tryz.call64,fun _=>A9 rfl⟩,trivial⟩)
abbrev bZ:=BK.env (AM.look [(9,Zse),(10,iO),(18,iK),(20,iP),(21,zu),(23,iM),(22,iN),(24,zv),(25,zD)]) ⟨[(0,⟨tt [0,1,5,7],tt [5]⟩)],[],[],⟨tt [6],[]⟩,[],[9,10,20,22,24,25],[],[]⟩
def lZ:=bd Tryz.f5
abbrev Zrg:=fin bZ [.tmp 6] [] [(.bool,[])]
def Ylm:=AU 3 lZ
def Yjr (m0:Nat):=Bt bZ m0 Ylm 0 Zrg
def Ykr (m0:Nat):=Bo 0 (Yjr m0)
def Ymm:=Bk 2 (Bg (Bv (AU 2 lZ)))
def Zbf (m0 n:Nat):E3.A0:=fun x3 x4 x5 x6=>ej bZ n (.loop Ymm) 0 (mk [(0, .dat Cx x3 []),(1, .dat AN x4 []),(5, .ptr 5 0 0),(7, .dat AN x5 [])] [(5,some (.var JK x6 []))]) (Ykr m0)
theorem Ylr (m0:Nat):∀ n,Zbf m0 n=E3.l0 n:=BG (S:=E3.S0) fun n=>by kernel_rfl
abbrev Zpi:=AM.spec [.val Cx, .val AN, .val JK] [(.bool,[])] fun x=>E3 x.1 x.2.1 x.2.2.1
theorem Zsi:AY Tryz.prog 5 Zpi:=BR Bb (fn:=Tryz.f5) (fun m x=>show run bZ lZ m x Zrg=E3.S (Zbf m m) x.1 x.2.1 x.2.2.1 from by kernel_rfl) (fun x=>by rw [Ylr fu fu];rfl) (Ba ⟨⟨Yg3,Tryz.call9,fun _=>A9 rfl⟩,⟨⟨Zte,Tryz.call10,fun _=>A9 rfl⟩,⟨⟨Zme,Tryz.call18,nw⟩,⟨⟨Zue,Tryz.call20,fun _=>A9 rfl⟩,⟨⟨Yqy,Tryz.call21,nw⟩,⟨⟨Zpe,Tryz.call23,nw⟩,⟨⟨Zre,Tryz.call22,fun _=>A9 rfl⟩,⟨⟨Yry,Tryz.call24,fun _=>A9 rfl⟩,⟨⟨Yvy,Tryz.call25,fun _=>A9 rfl⟩,trivial⟩⟩⟩⟩⟩⟩⟩⟩⟩)
end
end Go.Proofs.YtclpadlpcfnfmaaGreat.Am
