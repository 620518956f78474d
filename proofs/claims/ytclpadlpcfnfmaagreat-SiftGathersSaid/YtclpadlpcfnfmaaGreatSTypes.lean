import Derived.Test.YtclpadlpcfnfmaaGreatAmGen
import Derived.Test.YtclpadlpcfnfmaaGreatSLay
import Derived.Test.YtclpadlpcfnfmaaGreatProg
import Derived.KernelRfl
/- PRINTED by gen/types.py of this repo: what the seat's types are. -/
namespace Go.Proofs.YtclpadlpcfnfmaaGreat.Am
open Go.AM
@[reducible] def k2 : Ty := .int .i64
@[reducible] def k3 : Ty := .int .i64
@[reducible] def k4 : Ty := .bool
@[reducible] def k5 : Ty := .int .u8
@[reducible] def k6 : Ty := .int .u8
@[reducible] def k7 : Ty := .pair k2 (.pair k3 (.pair k4 k6))
@[reducible] def k8 : Ty := .pair k2 (.pair k3 (.pair k4 k6))
@[reducible] def k9 : Ty := .str
@[reducible] def k10 : Ty := .str
@[reducible] def k11 : Ty := .str
@[reducible] def k12 : Ty := .int .u64
@[reducible] def k13 : Ty := .pair k9 k12
@[reducible] def k14 : Ty := .pair k9 k12
@[reducible] def k21 : Ty := .int .i32
@[reducible] def k45 : Ty := .pair k3 (.pair k3 k9)
@[reducible] def k22 : Ty := .sl k45
@[reducible] def k67 : Ty := .pair k3 k3
@[reducible] def k23 : Ty := .sl k67
@[reducible] def k26 : Ty := .int .i64
@[reducible] def k29 : Ty := .sl k3
@[reducible] def k30 : Ty := .pair k3 (.pair k23 (.pair k29 k29))
@[reducible] def k31 : Ty := .pair k3 (.pair k23 (.pair k29 k29))
@[reducible] def k44 : Ty := .pair k3 (.pair k3 k9)
@[reducible] def k46 : Ty := .pair k3 k45
@[reducible] def k47 : Ty := .pair k3 k45
@[reducible] def k64 : Ty := .int .u64
@[reducible] def k66 : Ty := .pair k3 k3
@[reducible] def k74 : Ty := .sl k5
@[reducible] def k82 : Ty := .pair k3 (.pair k3 (.pair k3 k3))
@[reducible] def k83 : Ty := .pair k3 (.pair k3 (.pair k3 k3))
@[reducible] def k86 : Ty := .arr 3 k3
@[reducible] def k93 : Ty := .pair k47 (.pair k9 k29)
@[reducible] def k94 : Ty := .pair k47 (.pair k9 k29)
@[reducible] def Zj5 : Ty := .sl k9
@[reducible] def Zk5 : Ty := .sl k4
@[reducible] def Zl5 : Ty := .pair k83 (.pair k9 (.pair k9 k22))
@[reducible] def Zm5 : Ty := .pair k83 (.pair k9 (.pair k9 k22))
@[reducible] def eZ : Ty := .pair k3 (.pair k3 k3)
@[reducible] def Zn5 : Ty := .sl eZ
@[reducible] def qX : Ty := .pair k3 (.pair k3 k3)
@[reducible] def qY : Ty := .pair k67 (.pair k4 k4)
@[reducible] def qZ : Ty := .pair k67 (.pair k4 k4)
@[reducible] def Zo5 : Ty := .int .u64
@[reducible] def Zp5 : Ty := .int .i64
@[reducible] def Zq5 : Ty := .int .u32
@[reducible] def Zr5 : Ty := .arr 63 k4
@[reducible] def Zs5 : Ty := .arr 63 k4
@[reducible] def Zt5 : Ty := .int .u64
@[reducible] def YS : Ty := .lk false
@[reducible] def Zu5 : Ty := .pair YS k74
@[reducible] def Zv5 : Ty := .lk true
@[reducible] def Zw5 : Ty := .lk true
@[reducible] def Zx5 : Ty := .arr 9 k5
@[reducible] def Zy5 : Ty := .int .u8
@[reducible] def Zz5 : Ty := .int .u8
@[reducible] def Za6 : Ty := .int .i32
@[reducible] def Zb6 : Ty := .int .i32
theorem Zrg1:Tryz.prog.info? 2=some Tryz.t2:=by kernel_rfl
theorem Zig:Tryz.prog.info? 3=some Tryz.t3:=by kernel_rfl
theorem Zjg:Tryz.prog.info? 4=some Tryz.t4:=by kernel_rfl
theorem Zkg:Tryz.prog.info? 5=some Tryz.t5:=by kernel_rfl
theorem Zsg1:Tryz.prog.info? 6=some Tryz.t6:=by kernel_rfl
theorem Ztg1:Tryz.prog.info? 7=some Tryz.t7:=by kernel_rfl
theorem Zug1:Tryz.prog.info? 8=some Tryz.t8:=by kernel_rfl
theorem Zlg:Tryz.prog.info? 9=some Tryz.t9:=by kernel_rfl
theorem Zad1:Tryz.prog.info? 10=some Tryz.t10:=by kernel_rfl
theorem Zbd1:Tryz.prog.info? 11=some Tryz.t11:=by kernel_rfl
theorem Zcd1:Tryz.prog.info? 12=some Tryz.t12:=by kernel_rfl
theorem Zdd1:Tryz.prog.info? 13=some Tryz.t13:=by kernel_rfl
theorem Zed1:Tryz.prog.info? 14=some Tryz.t14:=by kernel_rfl
theorem Zfd1:Tryz.prog.info? 21=some Tryz.t21:=by kernel_rfl
theorem ra:Tryz.prog.info? 45=some Tryz.t45:=by kernel_rfl
theorem Zgd1:Tryz.prog.info? 22=some Tryz.t22:=by kernel_rfl
theorem re:Tryz.prog.info? 67=some Tryz.t67:=by kernel_rfl
theorem Zhd1:Tryz.prog.info? 23=some Tryz.t23:=by kernel_rfl
theorem Zid1:Tryz.prog.info? 26=some Tryz.t26:=by kernel_rfl
theorem Zjd1:Tryz.prog.info? 29=some Tryz.t29:=by kernel_rfl
theorem Zkd1:Tryz.prog.info? 30=some Tryz.t30:=by kernel_rfl
theorem Zld1:Tryz.prog.info? 31=some Tryz.t31:=by kernel_rfl
theorem Zmd1:Tryz.prog.info? 44=some Tryz.t44:=by kernel_rfl
theorem Znd1:Tryz.prog.info? 46=some Tryz.t46:=by kernel_rfl
theorem Zod1:Tryz.prog.info? 47=some Tryz.t47:=by kernel_rfl
theorem Zpd1:Tryz.prog.info? 64=some Tryz.t64:=by kernel_rfl
theorem Zqd1:Tryz.prog.info? 66=some Tryz.t66:=by kernel_rfl
theorem Zrd1:Tryz.prog.info? 74=some Tryz.t74:=by kernel_rfl
theorem Zsd1:Tryz.prog.info? 82=some Tryz.t82:=by kernel_rfl
theorem Ztd1:Tryz.prog.info? 83=some Tryz.t83:=by kernel_rfl
theorem Zpv:Tryz.prog.info? 86=some Tryz.t86:=by kernel_rfl
theorem Zud1:Tryz.prog.info? 93=some Tryz.t93:=by kernel_rfl
theorem Zvd1:Tryz.prog.info? 94=some Tryz.t94:=by kernel_rfl
theorem Zc6:Tryz.prog.info? 104=some Tryz.t104:=by kernel_rfl
theorem Zd6:Tryz.prog.info? 109=some Tryz.t109:=by kernel_rfl
theorem Ze6:Tryz.prog.info? 127=some Tryz.t127:=by kernel_rfl
theorem Zf6:Tryz.prog.info? 128=some Tryz.t128:=by kernel_rfl
theorem fa:Tryz.prog.info? 142=some Tryz.t142:=by kernel_rfl
theorem Zg6:Tryz.prog.info? 138=some Tryz.t138:=by kernel_rfl
theorem Zh6:Tryz.prog.info? 141=some Tryz.t141:=by kernel_rfl
theorem Zi6:Tryz.prog.info? 170=some Tryz.t170:=by kernel_rfl
theorem Zj6:Tryz.prog.info? 171=some Tryz.t171:=by kernel_rfl
theorem Zk6:Tryz.prog.info? 186=some Tryz.t186:=by kernel_rfl
theorem Zl6:Tryz.prog.info? 216=some Tryz.t216:=by kernel_rfl
theorem Zm6:Tryz.prog.info? 223=some Tryz.t223:=by kernel_rfl
theorem vp:Tryz.prog.info? 226=some Tryz.t226:=by kernel_rfl
theorem vq:Tryz.prog.info? 227=some Tryz.t227:=by kernel_rfl
theorem Zn6:Tryz.prog.info? 237=some Tryz.t237:=by kernel_rfl
theorem Zo6:Tryz.prog.info? 251=some Tryz.t251:=by kernel_rfl
theorem Zp6:Tryz.prog.info? 253=some Tryz.t253:=by kernel_rfl
theorem Zq6:Tryz.prog.info? 254=some Tryz.t254:=by kernel_rfl
theorem Zr6:Tryz.prog.info? 255=some Tryz.t255:=by kernel_rfl
theorem vr:Tryz.prog.info? 265=some Tryz.t265:=by kernel_rfl
theorem Zs6:Tryz.prog.info? 289=some Tryz.t289:=by kernel_rfl
theorem Zt6:Tryz.prog.info? 290=some Tryz.t290:=by kernel_rfl
theorem Zu6:Tryz.prog.info? 292=some Tryz.t292:=by kernel_rfl
theorem Zv6:Tryz.prog.info? 293=some Tryz.t293:=by kernel_rfl
theorem fb:Fit Tryz.prog 2 k2:=⟨⟨Tryz.t2,Zrg1,rfl,rfl⟩,Tryz.underlying2⟩
theorem eq2:Cd Tryz.prog 1 2 k2:=eq_int Tryz.underlying2
theorem DG:Fit Tryz.prog 3 k3:=⟨⟨Tryz.t3,Zig,rfl,rfl⟩,Tryz.underlying3⟩
theorem WR:Deep Tryz.prog 3 k3:= .int Tryz.underlying3
theorem eq3:Cd Tryz.prog 1 3 k3:=eq_int Tryz.underlying3
theorem Lb:Fit Tryz.prog 4 k4:=⟨⟨Tryz.t4,Zjg,rfl,rfl⟩,Tryz.underlying4⟩
theorem eq4:Cd Tryz.prog 1 4 k4:=Zj0 Tryz.underlying4
theorem Zw6:Fit Tryz.prog 5 k5:=⟨⟨Tryz.t5,Zkg,rfl,rfl⟩,Tryz.underlying5⟩
theorem fc:Fit Tryz.prog 6 k6:=⟨⟨Tryz.t6,Zsg1,rfl,rfl⟩,Tryz.underlying6⟩
theorem eq6:Cd Tryz.prog 1 6 k6:=eq_int Tryz.underlying6
theorem Zvg1:Fit Tryz.prog 7 k7:=⟨⟨Tryz.t7,Ztg1,rfl,rfl⟩,⟨_,Tryz.underlying7,rfl⟩⟩
theorem sf7:SFact Tryz.prog 7 [(0,k2),(1,k3),(2,k4),(3,k6)]:=⟨_,Tryz.underlying7,⟨⟨rfl,fb⟩,⟨⟨rfl,DG⟩,⟨⟨rfl,Lb⟩,⟨⟨rfl,fc⟩,trivial⟩⟩⟩⟩⟩
theorem eq7:Cd Tryz.prog 2 7 k7:=Fx Tryz.underlying7 Tryz.stoodInHeld7 ⟨⟨by decide,rfl,fb,Cd.mono eq2 (by decide)⟩,⟨⟨by decide,rfl,DG,Cd.mono eq3 (by decide)⟩,⟨⟨by decide,rfl,Lb,Cd.mono eq4 (by decide)⟩,⟨by decide,rfl,fc,Cd.mono eq6 (by decide)⟩⟩⟩⟩
theorem Zwg1:Fit Tryz.prog 8 k8:=⟨⟨Tryz.t8,Zug1,rfl,rfl⟩,⟨_,Tryz.underlying8,rfl⟩⟩
theorem sf8:SFact Tryz.prog 8 [(0,k2),(1,k3),(2,k4),(3,k6)]:=⟨_,Tryz.underlying8,⟨⟨rfl,fb⟩,⟨⟨rfl,DG⟩,⟨⟨rfl,Lb⟩,⟨⟨rfl,fc⟩,trivial⟩⟩⟩⟩⟩
theorem eq8:Cd Tryz.prog 2 8 k8:=Fx Tryz.underlying8 Tryz.stoodInHeld8 ⟨⟨by decide,rfl,fb,Cd.mono eq2 (by decide)⟩,⟨⟨by decide,rfl,DG,Cd.mono eq3 (by decide)⟩,⟨⟨by decide,rfl,Lb,Cd.mono eq4 (by decide)⟩,⟨by decide,rfl,fc,Cd.mono eq6 (by decide)⟩⟩⟩⟩
theorem Mw:Fit Tryz.prog 9 k9:=⟨⟨Tryz.t9,Zlg,rfl,rfl⟩,Tryz.underlying9⟩
theorem Zwd1:Deep Tryz.prog 9 k9:= .str Tryz.underlying9
theorem eq9:Cd Tryz.prog 1 9 k9:=Zy7 Tryz.underlying9
theorem Zxd1:Fit Tryz.prog 10 k10:=⟨⟨Tryz.t10,Zad1,rfl,rfl⟩,Tryz.underlying10⟩
theorem Zyd1:Fit Tryz.prog 11 k11:=⟨⟨Tryz.t11,Zbd1,rfl,rfl⟩,Tryz.underlying11⟩
theorem rf:Fit Tryz.prog 12 k12:=⟨⟨Tryz.t12,Zcd1,rfl,rfl⟩,Tryz.underlying12⟩
theorem Zzd1:Fit Tryz.prog 13 k13:=⟨⟨Tryz.t13,Zdd1,rfl,rfl⟩,⟨_,Tryz.underlying13,rfl⟩⟩
theorem Zxg1:SFact Tryz.prog 13 [(0,k9),(1,k12)]:=⟨_,Tryz.underlying13,⟨⟨rfl,Mw⟩,⟨⟨rfl,rf⟩,trivial⟩⟩⟩
theorem Zae1:Fit Tryz.prog 14 k14:=⟨⟨Tryz.t14,Zed1,rfl,rfl⟩,⟨_,Tryz.underlying14,rfl⟩⟩
theorem Zyg1:SFact Tryz.prog 14 [(0,k9),(1,k12)]:=⟨_,Tryz.underlying14,⟨⟨rfl,Mw⟩,⟨⟨rfl,rf⟩,trivial⟩⟩⟩
theorem Zbe1:Fit Tryz.prog 21 k21:=⟨⟨Tryz.t21,Zfd1,rfl,rfl⟩,Tryz.underlying21⟩
theorem WS:Fit Tryz.prog 45 k45:=⟨⟨Tryz.t45,ra,rfl,rfl⟩,⟨_,Tryz.underlying45,rfl⟩⟩
theorem Zzg1:SFact Tryz.prog 45 [(0,k3),(1,k3),(2,k9)]:=⟨_,Tryz.underlying45,⟨⟨rfl,DG⟩,⟨⟨rfl,DG⟩,⟨⟨rfl,Mw⟩,trivial⟩⟩⟩⟩
theorem Zx6:Deep Tryz.prog 45 k45:= .pair Tryz.underlying45 (by kernel_rfl) (DeepF.cons rfl (by kernel_rfl) WR (DeepF.cons rfl (by kernel_rfl) WR (DeepF.last rfl (by kernel_rfl) Zwd1)))
theorem Zmg:Cd Tryz.prog 2 45 k45:=Fx Tryz.underlying45 Tryz.stoodInHeld45 ⟨⟨by decide,rfl,DG,Cd.mono eq3 (by decide)⟩,⟨⟨by decide,rfl,DG,Cd.mono eq3 (by decide)⟩,⟨by decide,rfl,Mw,Cd.mono eq9 (by decide)⟩⟩⟩
theorem rh:Fit Tryz.prog 22 k22:=⟨⟨Tryz.t22,Zgd1,rfl,rfl⟩,⟨45,Tryz.t45,Tryz.underlying22,ra,rfl,rfl,(fun _ h=>nomatch h),(fun h=>nomatch h)⟩⟩
theorem Zy6:Deep Tryz.prog 22 k22:= .sl Tryz.underlying22 (by kernel_rfl) Zx6
theorem WT:Fit Tryz.prog 67 k67:=⟨⟨Tryz.t67,re,rfl,rfl⟩,⟨_,Tryz.underlying67,rfl⟩⟩
theorem Zah1:SFact Tryz.prog 67 [(0,k3),(1,k3)]:=⟨_,Tryz.underlying67,⟨⟨rfl,DG⟩,⟨⟨rfl,DG⟩,trivial⟩⟩⟩
theorem Zz6:Deep Tryz.prog 67 k67:= .pair Tryz.underlying67 (by kernel_rfl) (DeepF.cons rfl (by kernel_rfl) WR (DeepF.last rfl (by kernel_rfl) WR))
theorem Zng:Cd Tryz.prog 2 67 k67:=Fx Tryz.underlying67 (by kernel_rfl) ⟨⟨by decide,rfl,DG,Cd.mono eq3 (by decide)⟩,⟨by decide,rfl,DG,Cd.mono eq3 (by decide)⟩⟩
theorem rk:Fit Tryz.prog 23 k23:=⟨⟨Tryz.t23,Zhd1,rfl,rfl⟩,⟨67,Tryz.t67,Tryz.underlying23,re,rfl,rfl,(fun _ h=>nomatch h),(fun h=>nomatch h)⟩⟩
theorem Za7:Deep Tryz.prog 23 k23:= .sl Tryz.underlying23 (by kernel_rfl) Zz6
theorem Zce1:Fit Tryz.prog 26 k26:=⟨⟨Tryz.t26,Zid1,rfl,rfl⟩,Tryz.underlying26⟩
theorem Rf:Fit Tryz.prog 29 k29:=⟨⟨Tryz.t29,Zjd1,rfl,rfl⟩,⟨3,Tryz.t3,Tryz.underlying29,Zig,rfl,rfl,(fun k h=>by cases h;exact Tryz.underlying3),(fun h=>nomatch h)⟩⟩
theorem Zde1:Fit Tryz.prog 30 k30:=⟨⟨Tryz.t30,Zkd1,rfl,rfl⟩,⟨_,Tryz.underlying30,rfl⟩⟩
theorem Zbh1:SFact Tryz.prog 30 [(0,k3),(1,k23),(2,k29),(3,k29)]:=⟨_,Tryz.underlying30,⟨⟨rfl,DG⟩,⟨⟨rfl,rk⟩,⟨⟨rfl,Rf⟩,⟨⟨rfl,Rf⟩,trivial⟩⟩⟩⟩⟩
theorem Zee1:Fit Tryz.prog 31 k31:=⟨⟨Tryz.t31,Zld1,rfl,rfl⟩,⟨_,Tryz.underlying31,rfl⟩⟩
theorem Zch1:SFact Tryz.prog 31 [(0,k3),(1,k23),(2,k29),(3,k29)]:=⟨_,Tryz.underlying31,⟨⟨rfl,DG⟩,⟨⟨rfl,rk⟩,⟨⟨rfl,Rf⟩,⟨⟨rfl,Rf⟩,trivial⟩⟩⟩⟩⟩
theorem Zfe1:Fit Tryz.prog 44 k44:=⟨⟨Tryz.t44,Zmd1,rfl,rfl⟩,⟨_,Tryz.underlying44,rfl⟩⟩
theorem Zdh1:SFact Tryz.prog 44 [(0,k3),(1,k3),(2,k9)]:=⟨_,Tryz.underlying44,⟨⟨rfl,DG⟩,⟨⟨rfl,DG⟩,⟨⟨rfl,Mw⟩,trivial⟩⟩⟩⟩
theorem Zeh1:Cd Tryz.prog 2 44 k44:=Fx Tryz.underlying44 Tryz.stoodInHeld44 ⟨⟨by decide,rfl,DG,Cd.mono eq3 (by decide)⟩,⟨⟨by decide,rfl,DG,Cd.mono eq3 (by decide)⟩,⟨by decide,rfl,Mw,Cd.mono eq9 (by decide)⟩⟩⟩
theorem Zge1:Fit Tryz.prog 46 k46:=⟨⟨Tryz.t46,Znd1,rfl,rfl⟩,⟨_,Tryz.underlying46,rfl⟩⟩
theorem Zfh1:SFact Tryz.prog 46 [(0,k3),(1,k45)]:=⟨_,Tryz.underlying46,⟨⟨rfl,DG⟩,⟨⟨rfl,WS⟩,trivial⟩⟩⟩
theorem Zgh1:Cd Tryz.prog 3 46 k46:=Fx Tryz.underlying46 Tryz.stoodInHeld46 ⟨⟨by decide,rfl,DG,Cd.mono eq3 (by decide)⟩,⟨by decide,rfl,WS,Cd.mono Zmg (by decide)⟩⟩
theorem rl:Fit Tryz.prog 47 k47:=⟨⟨Tryz.t47,Zod1,rfl,rfl⟩,⟨_,Tryz.underlying47,rfl⟩⟩
theorem Zhh1:SFact Tryz.prog 47 [(0,k3),(1,k45)]:=⟨_,Tryz.underlying47,⟨⟨rfl,DG⟩,⟨⟨rfl,WS⟩,trivial⟩⟩⟩
theorem Zih1:Cd Tryz.prog 3 47 k47:=Fx Tryz.underlying47 Tryz.stoodInHeld47 ⟨⟨by decide,rfl,DG,Cd.mono eq3 (by decide)⟩,⟨by decide,rfl,WS,Cd.mono Zmg (by decide)⟩⟩
theorem Zhe1:Fit Tryz.prog 64 k64:=⟨⟨Tryz.t64,Zpd1,rfl,rfl⟩,Tryz.underlying64⟩
theorem Zie1:Fit Tryz.prog 66 k66:=⟨⟨Tryz.t66,Zqd1,rfl,rfl⟩,⟨_,Tryz.underlying66,rfl⟩⟩
theorem Zjh1:SFact Tryz.prog 66 [(0,k3),(1,k3)]:=⟨_,Tryz.underlying66,⟨⟨rfl,DG⟩,⟨⟨rfl,DG⟩,trivial⟩⟩⟩
theorem Zkh1:Cd Tryz.prog 2 66 k66:=Fx Tryz.underlying66 (by kernel_rfl) ⟨⟨by decide,rfl,DG,Cd.mono eq3 (by decide)⟩,⟨by decide,rfl,DG,Cd.mono eq3 (by decide)⟩⟩
theorem rm:Fit Tryz.prog 74 k74:=⟨⟨Tryz.t74,Zrd1,rfl,rfl⟩,⟨5,Tryz.t5,Tryz.underlying74,Zkg,rfl,rfl,(fun k h=>by cases h;exact Tryz.underlying5),(fun _=>rfl)⟩⟩
theorem Zje1:Fit Tryz.prog 82 k82:=⟨⟨Tryz.t82,Zsd1,rfl,rfl⟩,⟨_,Tryz.underlying82,rfl⟩⟩
theorem Zlh1:SFact Tryz.prog 82 [(0,k3),(1,k3),(2,k3),(3,k3)]:=⟨_,Tryz.underlying82,⟨⟨rfl,DG⟩,⟨⟨rfl,DG⟩,⟨⟨rfl,DG⟩,⟨⟨rfl,DG⟩,trivial⟩⟩⟩⟩⟩
theorem Zmh1:Cd Tryz.prog 2 82 k82:=Fx Tryz.underlying82 (by kernel_rfl) ⟨⟨by decide,rfl,DG,Cd.mono eq3 (by decide)⟩,⟨⟨by decide,rfl,DG,Cd.mono eq3 (by decide)⟩,⟨⟨by decide,rfl,DG,Cd.mono eq3 (by decide)⟩,⟨by decide,rfl,DG,Cd.mono eq3 (by decide)⟩⟩⟩⟩
theorem rn:Fit Tryz.prog 83 k83:=⟨⟨Tryz.t83,Ztd1,rfl,rfl⟩,⟨_,Tryz.underlying83,rfl⟩⟩
theorem Znh1:SFact Tryz.prog 83 [(0,k3),(1,k3),(2,k3),(3,k3)]:=⟨_,Tryz.underlying83,⟨⟨rfl,DG⟩,⟨⟨rfl,DG⟩,⟨⟨rfl,DG⟩,⟨⟨rfl,DG⟩,trivial⟩⟩⟩⟩⟩
theorem Zoh1:Cd Tryz.prog 2 83 k83:=Fx Tryz.underlying83 (by kernel_rfl) ⟨⟨by decide,rfl,DG,Cd.mono eq3 (by decide)⟩,⟨⟨by decide,rfl,DG,Cd.mono eq3 (by decide)⟩,⟨⟨by decide,rfl,DG,Cd.mono eq3 (by decide)⟩,⟨by decide,rfl,DG,Cd.mono eq3 (by decide)⟩⟩⟩⟩
theorem Zke1:Fit Tryz.prog 86 k86:=⟨⟨Tryz.t86,Zpv,rfl,by kernel_rfl⟩,⟨_,Tryz.underlying86,rfl⟩⟩
theorem Zle1:Fit Tryz.prog 93 k93:=⟨⟨Tryz.t93,Zud1,rfl,rfl⟩,⟨_,Tryz.underlying93,rfl⟩⟩
theorem Zph1:SFact Tryz.prog 93 [(0,k47),(4,k9),(5,k29)]:=⟨_,Tryz.underlying93,⟨⟨rfl,rl⟩,⟨⟨rfl,Mw⟩,⟨⟨rfl,Rf⟩,trivial⟩⟩⟩⟩
theorem Zme1:Fit Tryz.prog 94 k94:=⟨⟨Tryz.t94,Zvd1,rfl,rfl⟩,⟨_,Tryz.underlying94,rfl⟩⟩
theorem Zqh1:SFact Tryz.prog 94 [(0,k47),(4,k9),(5,k29)]:=⟨_,Tryz.underlying94,⟨⟨rfl,rl⟩,⟨⟨rfl,Mw⟩,⟨⟨rfl,Rf⟩,trivial⟩⟩⟩⟩
theorem Zb7:Fit Tryz.prog 104 Zj5:=⟨⟨Tryz.t104,Zc6,rfl,rfl⟩,⟨9,Tryz.t9,Tryz.underlying104,Zlg,rfl,rfl,(fun _ h=>nomatch h),(fun h=>nomatch h)⟩⟩
theorem Zc7:Fit Tryz.prog 109 Zk5:=⟨⟨Tryz.t109,Zd6,rfl,rfl⟩,⟨4,Tryz.t4,Tryz.underlying109,Zjg,rfl,rfl,(fun _ h=>nomatch h),(fun h=>nomatch h)⟩⟩
theorem Zd7:Fit Tryz.prog 127 Zl5:=⟨⟨Tryz.t127,Ze6,rfl,rfl⟩,⟨_,Tryz.underlying127,rfl⟩⟩
theorem Zne1:SFact Tryz.prog 127 [(0,k83),(4,k9),(5,k9),(6,k22)]:=⟨_,Tryz.underlying127,⟨⟨rfl,rn⟩,⟨⟨rfl,Mw⟩,⟨⟨rfl,Mw⟩,⟨⟨rfl,rh⟩,trivial⟩⟩⟩⟩⟩
theorem Ze7:Fit Tryz.prog 128 Zm5:=⟨⟨Tryz.t128,Zf6,rfl,rfl⟩,⟨_,Tryz.underlying128,rfl⟩⟩
theorem Zoe1:SFact Tryz.prog 128 [(0,k83),(4,k9),(5,k9),(6,k22)]:=⟨_,Tryz.underlying128,⟨⟨rfl,rn⟩,⟨⟨rfl,Mw⟩,⟨⟨rfl,Mw⟩,⟨⟨rfl,rh⟩,trivial⟩⟩⟩⟩⟩
theorem Zf7:Fit Tryz.prog 142 eZ:=⟨⟨Tryz.t142,fa,rfl,rfl⟩,⟨_,Tryz.underlying142,rfl⟩⟩
theorem Zpe1:SFact Tryz.prog 142 [(0,k3),(1,k3),(2,k3)]:=⟨_,Tryz.underlying142,⟨⟨rfl,DG⟩,⟨⟨rfl,DG⟩,⟨⟨rfl,DG⟩,trivial⟩⟩⟩⟩
theorem Zqe1:Cd Tryz.prog 2 142 eZ:=Fx Tryz.underlying142 (by kernel_rfl) ⟨⟨by decide,rfl,DG,Cd.mono eq3 (by decide)⟩,⟨⟨by decide,rfl,DG,Cd.mono eq3 (by decide)⟩,⟨by decide,rfl,DG,Cd.mono eq3 (by decide)⟩⟩⟩
theorem Zg7:Fit Tryz.prog 138 Zn5:=⟨⟨Tryz.t138,Zg6,rfl,rfl⟩,⟨142,Tryz.t142,Tryz.underlying138,fa,rfl,rfl,(fun _ h=>nomatch h),(fun h=>nomatch h)⟩⟩
theorem Zh7:Fit Tryz.prog 141 qX:=⟨⟨Tryz.t141,Zh6,rfl,rfl⟩,⟨_,Tryz.underlying141,rfl⟩⟩
theorem Zre1:SFact Tryz.prog 141 [(0,k3),(1,k3),(2,k3)]:=⟨_,Tryz.underlying141,⟨⟨rfl,DG⟩,⟨⟨rfl,DG⟩,⟨⟨rfl,DG⟩,trivial⟩⟩⟩⟩
theorem Zse1:Cd Tryz.prog 2 141 qX:=Fx Tryz.underlying141 (by kernel_rfl) ⟨⟨by decide,rfl,DG,Cd.mono eq3 (by decide)⟩,⟨⟨by decide,rfl,DG,Cd.mono eq3 (by decide)⟩,⟨by decide,rfl,DG,Cd.mono eq3 (by decide)⟩⟩⟩
theorem Zi7:Fit Tryz.prog 170 qY:=⟨⟨Tryz.t170,Zi6,rfl,rfl⟩,⟨_,Tryz.underlying170,rfl⟩⟩
theorem Zte1:SFact Tryz.prog 170 [(0,k67),(2,k4),(3,k4)]:=⟨_,Tryz.underlying170,⟨⟨rfl,WT⟩,⟨⟨rfl,Lb⟩,⟨⟨rfl,Lb⟩,trivial⟩⟩⟩⟩
theorem Zue1:Cd Tryz.prog 3 170 qY:=Fx Tryz.underlying170 (by kernel_rfl) ⟨⟨by decide,rfl,WT,Cd.mono Zng (by decide)⟩,⟨⟨by decide,rfl,Lb,Cd.mono eq4 (by decide)⟩,⟨by decide,rfl,Lb,Cd.mono eq4 (by decide)⟩⟩⟩
theorem Zj7:Fit Tryz.prog 171 qZ:=⟨⟨Tryz.t171,Zj6,rfl,rfl⟩,⟨_,Tryz.underlying171,rfl⟩⟩
theorem Zve1:SFact Tryz.prog 171 [(0,k67),(2,k4),(3,k4)]:=⟨_,Tryz.underlying171,⟨⟨rfl,WT⟩,⟨⟨rfl,Lb⟩,⟨⟨rfl,Lb⟩,trivial⟩⟩⟩⟩
theorem Zwe1:Cd Tryz.prog 3 171 qZ:=Fx Tryz.underlying171 (by kernel_rfl) ⟨⟨by decide,rfl,WT,Cd.mono Zng (by decide)⟩,⟨⟨by decide,rfl,Lb,Cd.mono eq4 (by decide)⟩,⟨by decide,rfl,Lb,Cd.mono eq4 (by decide)⟩⟩⟩
theorem Zk7:Fit Tryz.prog 186 Zo5:=⟨⟨Tryz.t186,Zk6,rfl,rfl⟩,Tryz.underlying186⟩
theorem Zl7:Fit Tryz.prog 216 Zp5:=⟨⟨Tryz.t216,Zl6,rfl,rfl⟩,Tryz.underlying216⟩
theorem Zm7:Fit Tryz.prog 223 Zq5:=⟨⟨Tryz.t223,Zm6,rfl,rfl⟩,Tryz.underlying223⟩
theorem Zn7:Fit Tryz.prog 226 Zr5:=⟨⟨Tryz.t226,vp,rfl,by kernel_rfl⟩,⟨_,Tryz.underlying226,rfl⟩⟩
theorem Zo7:Fit Tryz.prog 227 Zs5:=⟨⟨Tryz.t227,vq,rfl,by kernel_rfl⟩,⟨_,Tryz.underlying227,rfl⟩⟩
theorem Zp7:Fit Tryz.prog 237 Zt5:=⟨⟨Tryz.t237,Zn6,rfl,rfl⟩,Tryz.underlying237⟩
theorem vt:Fit Tryz.prog 251 YS:=⟨⟨Tryz.t251,Zo6,rfl,by kernel_rfl⟩,⟨_,Tryz.underlying251⟩⟩
theorem Zxe1:SFact Tryz.prog 252 [(0,YS),(1,k74)]:=⟨_,Tryz.underlying252,⟨⟨rfl,vt⟩,⟨⟨rfl,rm⟩,trivial⟩⟩⟩
theorem Zq7:Fit Tryz.prog 253 Zu5:=⟨⟨Tryz.t253,Zp6,rfl,rfl⟩,⟨_,Tryz.underlying253,rfl⟩⟩
theorem Zye1:SFact Tryz.prog 253 [(0,YS),(1,k74)]:=⟨_,Tryz.underlying253,⟨⟨rfl,vt⟩,⟨⟨rfl,rm⟩,trivial⟩⟩⟩
theorem Zr7:Fit Tryz.prog 254 Zv5:=⟨⟨Tryz.t254,Zq6,rfl,by kernel_rfl⟩,(show Tryz.prog.underlying 254=some (.interface (Tryz.prog.methodsAt 254)) by kernel_rfl)⟩
theorem Zs7:Fit Tryz.prog 255 Zw5:=⟨⟨Tryz.t255,Zr6,rfl,by kernel_rfl⟩,(show Tryz.prog.underlying 255=some (.interface (Tryz.prog.methodsAt 255)) by kernel_rfl)⟩
theorem Zt7:Fit Tryz.prog 265 Zx5:=⟨⟨Tryz.t265,vr,rfl,by kernel_rfl⟩,⟨_,Tryz.underlying265,rfl⟩⟩
theorem Zu7:Fit Tryz.prog 289 Zy5:=⟨⟨Tryz.t289,Zs6,rfl,rfl⟩,Tryz.underlying289⟩
theorem Zv7:Fit Tryz.prog 290 Zz5:=⟨⟨Tryz.t290,Zt6,rfl,rfl⟩,Tryz.underlying290⟩
theorem Zw7:Fit Tryz.prog 292 Za6:=⟨⟨Tryz.t292,Zu6,rfl,rfl⟩,Tryz.underlying292⟩
theorem Zx7:Fit Tryz.prog 293 Zb6:=⟨⟨Tryz.t293,Zv6,rfl,rfl⟩,Tryz.underlying293⟩
theorem Zrh1:ArFact Tryz.prog 86 4 k3:=⟨3,Tryz.underlying86,DG,by decide,Tryz.t86,Zpv,by kernel_rfl⟩
theorem Zze1:ArFact Tryz.prog 226 64 k4:=⟨4,Tryz.underlying226,Lb,by decide,Tryz.t226,vp,by kernel_rfl⟩
theorem Zaf1:ArFact Tryz.prog 227 64 k4:=⟨4,Tryz.underlying227,Lb,by decide,Tryz.t227,vq,by kernel_rfl⟩
theorem Zbf1:ArFact Tryz.prog 265 10 k5:=⟨5,Tryz.underlying265,Zw6,by decide,Tryz.t265,vr,by kernel_rfl⟩
@[reducible] def tab : Tab where
 ty:=[(2,k2),(3,k3),(4,k4),(5,k5),(6,k6),(7,k7),(8,k8),(9,k9),(10,k10),(11,k11),(12,k12),(13,k13),(14,k14),(21,k21),(45,k45),(22,k22),(67,k67),(23,k23),(26,k26),(29,k29),(30,k30),(31,k31),(44,k44),(46,k46),(47,k47),(64,k64),(66,k66),(74,k74),(82,k82),(83,k83),(86,k86),(93,k93),(94,k94),(104,Zj5),(109,Zk5),(127,Zl5),(128,Zm5),(142,eZ),(138,Zn5),(141,qX),(170,qY),(171,qZ),(186,Zo5),(216,Zp5),(223,Zq5),(226,Zr5),(227,Zs5),(237,Zt5),(253,Zu5),(254,Zv5),(255,Zw5),(265,Zx5),(289,Zy5),(290,Zz5),(292,Za6),(293,Zb6)]
 fo:=[(7,[(0,k2),(1,k3),(2,k4),(3,k6)]),(8,[(0,k2),(1,k3),(2,k4),(3,k6)]),(13,[(0,k9),(1,k12)]),(14,[(0,k9),(1,k12)]),(45,[(0,k3),(1,k3),(2,k9)]),(67,[(0,k3),(1,k3)]),(30,[(0,k3),(1,k23),(2,k29),(3,k29)]),(31,[(0,k3),(1,k23),(2,k29),(3,k29)]),(44,[(0,k3),(1,k3),(2,k9)]),(46,[(0,k3),(1,k45)]),(47,[(0,k3),(1,k45)]),(66,[(0,k3),(1,k3)]),(82,[(0,k3),(1,k3),(2,k3),(3,k3)]),(83,[(0,k3),(1,k3),(2,k3),(3,k3)]),(93,[(0,k47),(4,k9),(5,k29)]),(94,[(0,k47),(4,k9),(5,k29)]),(127,[(0,k83),(4,k9),(5,k9),(6,k22)]),(128,[(0,k83),(4,k9),(5,k9),(6,k22)]),(142,[(0,k3),(1,k3),(2,k3)]),(141,[(0,k3),(1,k3),(2,k3)]),(170,[(0,k67),(2,k4),(3,k4)]),(171,[(0,k67),(2,k4),(3,k4)]),(252,[(0,YS),(1,k74)]),(253,[(0,YS),(1,k74)])]
 ar:=[(86,(4,k3)),(226,(64,k4)),(227,(64,k4)),(265,(10,k5))]
 by_:=[(22,32),(23,16),(29,8),(74,1),(104,16),(109,1),(138,24)]
 eq:=[(4,k4),(7,k7),(8,k8),(45,k45),(67,k67),(44,k44),(46,k46),(47,k47),(66,k66),(82,k82),(83,k83),(142,eZ),(141,qX),(170,qY),(171,qZ)]
theorem Az:TabOk Tryz.prog tab where
 ty:=⟨⟨fb,trivial,(fun h=>nomatch h)⟩,⟨⟨DG,trivial,(fun h=>nomatch h)⟩,⟨⟨Lb,trivial,(fun h=>nomatch h)⟩,⟨⟨Zw6,trivial,(fun h=>nomatch h)⟩,⟨⟨fc,trivial,(fun h=>nomatch h)⟩,⟨⟨Zvg1,trivial,(fun _=>⟨_,rfl⟩)⟩,⟨⟨Zwg1,trivial,(fun _=>⟨_,rfl⟩)⟩,⟨⟨Mw,trivial,(fun h=>nomatch h)⟩,⟨⟨Zxd1,trivial,(fun h=>nomatch h)⟩,⟨⟨Zyd1,trivial,(fun h=>nomatch h)⟩,⟨⟨rf,trivial,(fun h=>nomatch h)⟩,⟨⟨Zzd1,trivial,(fun _=>⟨_,rfl⟩)⟩,⟨⟨Zae1,trivial,(fun _=>⟨_,rfl⟩)⟩,⟨⟨Zbe1,trivial,(fun h=>nomatch h)⟩,⟨⟨WS,trivial,(fun _=>⟨_,rfl⟩)⟩,⟨⟨rh,⟨45,Tryz.t45,Tryz.underlying22,ra,rfl,by decide⟩,(fun h=>nomatch h)⟩,⟨⟨WT,trivial,(fun _=>⟨_,rfl⟩)⟩,⟨⟨rk,⟨67,Tryz.t67,Tryz.underlying23,re,rfl,by decide⟩,(fun h=>nomatch h)⟩,⟨⟨Zce1,trivial,(fun h=>nomatch h)⟩,⟨⟨Rf,⟨3,Tryz.t3,Tryz.underlying29,Zig,rfl,by decide⟩,(fun h=>nomatch h)⟩,⟨⟨Zde1,trivial,(fun _=>⟨_,rfl⟩)⟩,⟨⟨Zee1,trivial,(fun _=>⟨_,rfl⟩)⟩,⟨⟨Zfe1,trivial,(fun _=>⟨_,rfl⟩)⟩,⟨⟨Zge1,trivial,(fun _=>⟨_,rfl⟩)⟩,⟨⟨rl,trivial,(fun _=>⟨_,rfl⟩)⟩,⟨⟨Zhe1,trivial,(fun h=>nomatch h)⟩,⟨⟨Zie1,trivial,(fun _=>⟨_,rfl⟩)⟩,⟨⟨rm,⟨5,Tryz.t5,Tryz.underlying74,Zkg,rfl,by decide⟩,(fun h=>nomatch h)⟩,⟨⟨Zje1,trivial,(fun _=>⟨_,rfl⟩)⟩,⟨⟨rn,trivial,(fun _=>⟨_,rfl⟩)⟩,⟨⟨Zke1,trivial,(⟨rfl,rfl⟩)⟩,⟨⟨Zle1,trivial,(fun _=>⟨_,rfl⟩)⟩,⟨⟨Zme1,trivial,(fun _=>⟨_,rfl⟩)⟩,⟨⟨Zb7,⟨9,Tryz.t9,Tryz.underlying104,Zlg,rfl,by decide⟩,(fun h=>nomatch h)⟩,⟨⟨Zc7,⟨4,Tryz.t4,Tryz.underlying109,Zjg,rfl,by decide⟩,(fun h=>nomatch h)⟩,⟨⟨Zd7,trivial,(fun _=>⟨_,rfl⟩)⟩,⟨⟨Ze7,trivial,(fun _=>⟨_,rfl⟩)⟩,⟨⟨Zf7,trivial,(fun _=>⟨_,rfl⟩)⟩,⟨⟨Zg7,⟨142,Tryz.t142,Tryz.underlying138,fa,rfl,by decide⟩,(fun h=>nomatch h)⟩,⟨⟨Zh7,trivial,(fun _=>⟨_,rfl⟩)⟩,⟨⟨Zi7,trivial,(fun _=>⟨_,rfl⟩)⟩,⟨⟨Zj7,trivial,(fun _=>⟨_,rfl⟩)⟩,⟨⟨Zk7,trivial,(fun h=>nomatch h)⟩,⟨⟨Zl7,trivial,(fun h=>nomatch h)⟩,⟨⟨Zm7,trivial,(fun h=>nomatch h)⟩,⟨⟨Zn7,trivial,(⟨rfl,rfl⟩)⟩,⟨⟨Zo7,trivial,(⟨rfl,rfl⟩)⟩,⟨⟨Zp7,trivial,(fun h=>nomatch h)⟩,⟨⟨Zq7,trivial,(fun _=>⟨_,rfl⟩)⟩,⟨⟨Zr7,trivial,(fun h=>nomatch h)⟩,⟨⟨Zs7,trivial,(fun h=>nomatch h)⟩,⟨⟨Zt7,trivial,(⟨rfl,rfl⟩)⟩,⟨⟨Zu7,trivial,(fun h=>nomatch h)⟩,⟨⟨Zv7,trivial,(fun h=>nomatch h)⟩,⟨⟨Zw7,trivial,(fun h=>nomatch h)⟩,⟨⟨Zx7,trivial,(fun h=>nomatch h)⟩,trivial⟩⟩⟩⟩⟩⟩⟩⟩⟩⟩⟩⟩⟩⟩⟩⟩⟩⟩⟩⟩⟩⟩⟩⟩⟩⟩⟩⟩⟩⟩⟩⟩⟩⟩⟩⟩⟩⟩⟩⟩⟩⟩⟩⟩⟩⟩⟩⟩⟩⟩⟩⟩⟩⟩⟩⟩
 fo:=⟨sf7,⟨sf8,⟨Zxg1,⟨Zyg1,⟨Zzg1,⟨Zah1,⟨Zbh1,⟨Zch1,⟨Zdh1,⟨Zfh1,⟨Zhh1,⟨Zjh1,⟨Zlh1,⟨Znh1,⟨Zph1,⟨Zqh1,⟨Zne1,⟨Zoe1,⟨Zpe1,⟨Zre1,⟨Zte1,⟨Zve1,⟨Zxe1,⟨Zye1,trivial⟩⟩⟩⟩⟩⟩⟩⟩⟩⟩⟩⟩⟩⟩⟩⟩⟩⟩⟩⟩⟩⟩⟩⟩
 ar:=⟨Zrh1,⟨Zze1,⟨Zaf1,⟨Zbf1,trivial⟩⟩⟩⟩
 eq:=⟨.inr ⟨rfl,Tryz.underlying4⟩,⟨.inl ⟨rfl,Tryz.eqGuardType7,Cd.mono eq7 (by decide)⟩,⟨.inl ⟨rfl,Tryz.eqGuardType8,Cd.mono eq8 (by decide)⟩,⟨.inl ⟨rfl,Tryz.eqGuardType45,Cd.mono Zmg (by decide)⟩,⟨.inl ⟨rfl,(by kernel_rfl),Cd.mono Zng (by decide)⟩,⟨.inl ⟨rfl,Tryz.eqGuardType44,Cd.mono Zeh1 (by decide)⟩,⟨.inl ⟨rfl,Tryz.eqGuardType46,Cd.mono Zgh1 (by decide)⟩,⟨.inl ⟨rfl,Tryz.eqGuardType47,Cd.mono Zih1 (by decide)⟩,⟨.inl ⟨rfl,(by kernel_rfl),Cd.mono Zkh1 (by decide)⟩,⟨.inl ⟨rfl,(by kernel_rfl),Cd.mono Zmh1 (by decide)⟩,⟨.inl ⟨rfl,(by kernel_rfl),Cd.mono Zoh1 (by decide)⟩,⟨.inl ⟨rfl,(by kernel_rfl),Cd.mono Zqe1 (by decide)⟩,⟨.inl ⟨rfl,(by kernel_rfl),Cd.mono Zse1 (by decide)⟩,⟨.inl ⟨rfl,(by kernel_rfl),Cd.mono Zue1 (by decide)⟩,⟨.inl ⟨rfl,(by kernel_rfl),Cd.mono Zwe1 (by decide)⟩,trivial⟩⟩⟩⟩⟩⟩⟩⟩⟩⟩⟩⟩⟩⟩⟩
 slf:=by kernel_rfl
 byt:=⟨(fun h=>nomatch h),⟨(fun h=>nomatch h),⟨(fun h=>nomatch h),⟨(fun h=>nomatch h),⟨(fun h=>nomatch h),⟨(fun h=>nomatch h),⟨(fun h=>nomatch h),⟨(fun h=>nomatch h),⟨(fun h=>nomatch h),⟨(fun h=>nomatch h),⟨(fun h=>nomatch h),⟨(fun h=>nomatch h),⟨(fun h=>nomatch h),⟨(fun h=>nomatch h),⟨(fun h=>nomatch h),⟨(fun h=>nomatch h),⟨(fun h=>nomatch h),⟨(fun h=>nomatch h),⟨(fun h=>nomatch h),⟨(fun h=>nomatch h),⟨(fun h=>nomatch h),⟨(fun h=>nomatch h),⟨(fun h=>nomatch h),⟨(fun h=>nomatch h),⟨(fun h=>nomatch h),⟨(fun h=>nomatch h),⟨(fun h=>nomatch h),⟨(fun _=>Tryz.underlying74),⟨(fun h=>nomatch h),⟨(fun h=>nomatch h),⟨(fun h=>nomatch h),⟨(fun h=>nomatch h),⟨(fun h=>nomatch h),⟨(fun h=>nomatch h),⟨(fun h=>nomatch h),⟨(fun h=>nomatch h),⟨(fun h=>nomatch h),⟨(fun h=>nomatch h),⟨(fun h=>nomatch h),⟨(fun h=>nomatch h),⟨(fun h=>nomatch h),⟨(fun h=>nomatch h),⟨(fun h=>nomatch h),⟨(fun h=>nomatch h),⟨(fun h=>nomatch h),⟨(fun h=>nomatch h),⟨(fun h=>nomatch h),⟨(fun h=>nomatch h),⟨(fun h=>nomatch h),⟨(fun h=>nomatch h),⟨(fun h=>nomatch h),⟨(fun h=>nomatch h),⟨(fun h=>nomatch h),⟨(fun h=>nomatch h),⟨(fun h=>nomatch h),⟨(fun h=>nomatch h),trivial⟩⟩⟩⟩⟩⟩⟩⟩⟩⟩⟩⟩⟩⟩⟩⟩⟩⟩⟩⟩⟩⟩⟩⟩⟩⟩⟩⟩⟩⟩⟩⟩⟩⟩⟩⟩⟩⟩⟩⟩⟩⟩⟩⟩⟩⟩⟩⟩⟩⟩⟩⟩⟩⟩⟩⟩
 mixed:=by kernel_rfl
end Go.Proofs.YtclpadlpcfnfmaaGreat.Am
