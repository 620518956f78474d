import Derived.Test.YtclpadlpcfnfmaaGreatAmGen
import Derived.Test.YtclpadlpcfnfmaaGreatSLay
import Derived.Test.YtclpadlpcfnfmaaGreatProg
import Derived.KernelRfl
/- PRINTED by gen/types.py of this repo: what the seat's types are. -/
namespace Go.Proofs.YtclpadlpcfnfmaaGreat.Am
open Go.AM
@[reducible] def k2 : Ty := .int .i64
@[reducible] def k3 : Ty := .int .i64
@[reducible] def k4 : Ty := .bool
@[reducible] def k5 : Ty := .int .u8
@[reducible] def k6 : Ty := .int .u8
@[reducible] def k7 : Ty := .pair k2 (.pair k3 (.pair k4 k6))
@[reducible] def k8 : Ty := .pair k2 (.pair k3 (.pair k4 k6))
@[reducible] def k9 : Ty := .str
@[reducible] def k10 : Ty := .str
@[reducible] def k11 : Ty := .str
@[reducible] def Q0 : Ty := .int .u64
@[reducible] def k13 : Ty := .pair k9 Q0
@[reducible] def k14 : Ty := .pair k9 Q0
@[reducible] def k21 : Ty := .int .i32
@[reducible] def MI : Ty := .pair k3 (.pair k3 k9)
@[reducible] def Ng : Ty := .sl MI
@[reducible] def Nq : Ty := .pair k3 k3
@[reducible] def Q1 : Ty := .sl Nq
@[reducible] def k26 : Ty := .int .i64
@[reducible] def Ix : Ty := .sl k3
@[reducible] def k30 : Ty := .pair k3 (.pair Q1 (.pair Ix Ix))
@[reducible] def k31 : Ty := .pair k3 (.pair Q1 (.pair Ix Ix))
@[reducible] def cE : Ty := .pair k3 (.pair k3 k9)
@[reducible] def cF : Ty := .pair k3 MI
@[reducible] def LV : Ty := .pair k3 MI
@[reducible] def k64 : Ty := .int .u64
@[reducible] def cG : Ty := .pair k3 k3
@[reducible] def Sr : Ty := .sl k5
@[reducible] def cH : Ty := .pair k3 (.pair k3 (.pair k3 k3))
@[reducible] def Oj : Ty := .pair k3 (.pair k3 (.pair k3 k3))
@[reducible] def k86 : Ty := .arr 3 k3
@[reducible] def k93 : Ty := .pair LV (.pair k9 Ix)
@[reducible] def k94 : Ty := .pair LV (.pair k9 Ix)
@[reducible] def Zsg : Ty := .sl k9
@[reducible] def Ztg : Ty := .sl k4
@[reducible] def Zug : Ty := .pair Oj (.pair k9 (.pair k9 Ng))
@[reducible] def Zvg : Ty := .pair Oj (.pair k9 (.pair k9 Ng))
@[reducible] def WY : Ty := .pair k3 (.pair k3 k3)
@[reducible] def Zwg : Ty := .sl WY
@[reducible] def b5 : Ty := .pair k3 (.pair k3 k3)
@[reducible] def b6 : Ty := .pair Nq (.pair k4 k4)
@[reducible] def b7 : Ty := .pair Nq (.pair k4 k4)
@[reducible] def Zxg : Ty := .int .u64
@[reducible] def Zyg : Ty := .int .i64
@[reducible] def Zzg : Ty := .int .u32
@[reducible] def Zah : Ty := .arr 63 k4
@[reducible] def Zbh : Ty := .arr 63 k4
@[reducible] def Zch : Ty := .int .u64
@[reducible] def T9 : Ty := .lk false
@[reducible] def Zdh : Ty := .pair T9 Sr
@[reducible] def Zeh : Ty := .lk true
@[reducible] def Zfh : Ty := .lk true
@[reducible] def Zgh : Ty := .arr 9 k5
@[reducible] def Zhh : Ty := .int .u8
@[reducible] def Zih : Ty := .int .u8
@[reducible] def Zjh : Ty := .int .i32
@[reducible] def Zkh : Ty := .int .i32
theorem Yh3:Tryz.prog.info? 2=some Tryz.t2:=by kernel_rfl
theorem l7:Tryz.prog.info? 3=some Tryz.t3:=by kernel_rfl
theorem l8:Tryz.prog.info? 4=some Tryz.t4:=by kernel_rfl
theorem l9:Tryz.prog.info? 5=some Tryz.t5:=by kernel_rfl
theorem Yi3:Tryz.prog.info? 6=some Tryz.t6:=by kernel_rfl
theorem Yj3:Tryz.prog.info? 7=some Tryz.t7:=by kernel_rfl
theorem Yk3:Tryz.prog.info? 8=some Tryz.t8:=by kernel_rfl
theorem ma:Tryz.prog.info? 9=some Tryz.t9:=by kernel_rfl
theorem Ywy:Tryz.prog.info? 10=some Tryz.t10:=by kernel_rfl
theorem Yxy:Tryz.prog.info? 11=some Tryz.t11:=by kernel_rfl
theorem Yyy:Tryz.prog.info? 12=some Tryz.t12:=by kernel_rfl
theorem Yzy:Tryz.prog.info? 13=some Tryz.t13:=by kernel_rfl
theorem Yaz:Tryz.prog.info? 14=some Tryz.t14:=by kernel_rfl
theorem Ybz:Tryz.prog.info? 21=some Tryz.t21:=by kernel_rfl
theorem kY:Tryz.prog.info? 45=some Tryz.t45:=by kernel_rfl
theorem Ycz:Tryz.prog.info? 22=some Tryz.t22:=by kernel_rfl
theorem kZ:Tryz.prog.info? 67=some Tryz.t67:=by kernel_rfl
theorem Ydz:Tryz.prog.info? 23=some Tryz.t23:=by kernel_rfl
theorem Yez:Tryz.prog.info? 26=some Tryz.t26:=by kernel_rfl
theorem Yfz:Tryz.prog.info? 29=some Tryz.t29:=by kernel_rfl
theorem Ygz:Tryz.prog.info? 30=some Tryz.t30:=by kernel_rfl
theorem Yhz:Tryz.prog.info? 31=some Tryz.t31:=by kernel_rfl
theorem Yiz:Tryz.prog.info? 44=some Tryz.t44:=by kernel_rfl
theorem Yjz:Tryz.prog.info? 46=some Tryz.t46:=by kernel_rfl
theorem Ykz:Tryz.prog.info? 47=some Tryz.t47:=by kernel_rfl
theorem Ylz:Tryz.prog.info? 64=some Tryz.t64:=by kernel_rfl
theorem Ymz:Tryz.prog.info? 66=some Tryz.t66:=by kernel_rfl
theorem Ynz:Tryz.prog.info? 74=some Tryz.t74:=by kernel_rfl
theorem Yoz:Tryz.prog.info? 82=some Tryz.t82:=by kernel_rfl
theorem Ypz:Tryz.prog.info? 83=some Tryz.t83:=by kernel_rfl
theorem Zcf:Tryz.prog.info? 86=some Tryz.t86:=by kernel_rfl
theorem Yqz:Tryz.prog.info? 93=some Tryz.t93:=by kernel_rfl
theorem Yrz:Tryz.prog.info? 94=some Tryz.t94:=by kernel_rfl
theorem Yrr:Tryz.prog.info? 104=some Tryz.t104:=by kernel_rfl
theorem Ysr:Tryz.prog.info? 109=some Tryz.t109:=by kernel_rfl
theorem Ytr:Tryz.prog.info? 127=some Tryz.t127:=by kernel_rfl
theorem Yur:Tryz.prog.info? 128=some Tryz.t128:=by kernel_rfl
theorem iU:Tryz.prog.info? 142=some Tryz.t142:=by kernel_rfl
theorem Yvr:Tryz.prog.info? 138=some Tryz.t138:=by kernel_rfl
theorem Ywr:Tryz.prog.info? 141=some Tryz.t141:=by kernel_rfl
theorem Yxr:Tryz.prog.info? 170=some Tryz.t170:=by kernel_rfl
theorem Yyr:Tryz.prog.info? 171=some Tryz.t171:=by kernel_rfl
theorem Yzr:Tryz.prog.info? 186=some Tryz.t186:=by kernel_rfl
theorem Yas:Tryz.prog.info? 216=some Tryz.t216:=by kernel_rfl
theorem Ybs:Tryz.prog.info? 223=some Tryz.t223:=by kernel_rfl
theorem zE:Tryz.prog.info? 226=some Tryz.t226:=by kernel_rfl
theorem zF:Tryz.prog.info? 227=some Tryz.t227:=by kernel_rfl
theorem Ycs:Tryz.prog.info? 237=some Tryz.t237:=by kernel_rfl
theorem Yds:Tryz.prog.info? 251=some Tryz.t251:=by kernel_rfl
theorem Yes:Tryz.prog.info? 253=some Tryz.t253:=by kernel_rfl
theorem Yfs:Tryz.prog.info? 254=some Tryz.t254:=by kernel_rfl
theorem Ygs:Tryz.prog.info? 255=some Tryz.t255:=by kernel_rfl
theorem zG:Tryz.prog.info? 265=some Tryz.t265:=by kernel_rfl
theorem Yhs:Tryz.prog.info? 289=some Tryz.t289:=by kernel_rfl
theorem Yis:Tryz.prog.info? 290=some Tryz.t290:=by kernel_rfl
theorem Yjs:Tryz.prog.info? 292=some Tryz.t292:=by kernel_rfl
theorem Yks:Tryz.prog.info? 293=some Tryz.t293:=by kernel_rfl
theorem WZ:Fit Tryz.prog 2 k2:=⟨⟨Tryz.t2,Yh3,rfl,rfl⟩,Tryz.underlying2⟩
theorem eq2:BX Tryz.prog 1 2 k2:=eq_int Tryz.underlying2
theorem CI:Fit Tryz.prog 3 k3:=⟨⟨Tryz.t3,l7,rfl,rfl⟩,Tryz.underlying3⟩
theorem aL:Deep Tryz.prog 3 k3:= .int Tryz.underlying3
theorem Gt:BX Tryz.prog 1 3 k3:=eq_int Tryz.underlying3
theorem Ky:Fit Tryz.prog 4 k4:=⟨⟨Tryz.t4,l8,rfl,rfl⟩,Tryz.underlying4⟩
theorem Uq:BX Tryz.prog 1 4 k4:=Ytm Tryz.underlying4
theorem Zlh:Fit Tryz.prog 5 k5:=⟨⟨Tryz.t5,l9,rfl,rfl⟩,Tryz.underlying5⟩
theorem W0:Fit Tryz.prog 6 k6:=⟨⟨Tryz.t6,Yi3,rfl,rfl⟩,Tryz.underlying6⟩
theorem eq6:BX Tryz.prog 1 6 k6:=eq_int Tryz.underlying6
theorem Yl3:Fit Tryz.prog 7 k7:=⟨⟨Tryz.t7,Yj3,rfl,rfl⟩,⟨_,Tryz.underlying7,rfl⟩⟩
theorem sf7:SFact Tryz.prog 7 [(0,k2),(1,k3),(2,k4),(3,k6)]:=⟨_,Tryz.underlying7,⟨⟨rfl,WZ⟩,⟨⟨rfl,CI⟩,⟨⟨rfl,Ky⟩,⟨⟨rfl,W0⟩,trivial⟩⟩⟩⟩⟩
theorem eq7:BX Tryz.prog 2 7 k7:=KO Tryz.underlying7 Tryz.stoodInHeld7 ⟨⟨by decide,rfl,WZ,BX.mono eq2 (by decide)⟩,⟨⟨by decide,rfl,CI,BX.mono Gt (by decide)⟩,⟨⟨by decide,rfl,Ky,BX.mono Uq (by decide)⟩,⟨by decide,rfl,W0,BX.mono eq6 (by decide)⟩⟩⟩⟩
theorem Ym3:Fit Tryz.prog 8 k8:=⟨⟨Tryz.t8,Yk3,rfl,rfl⟩,⟨_,Tryz.underlying8,rfl⟩⟩
theorem sf8:SFact Tryz.prog 8 [(0,k2),(1,k3),(2,k4),(3,k6)]:=⟨_,Tryz.underlying8,⟨⟨rfl,WZ⟩,⟨⟨rfl,CI⟩,⟨⟨rfl,Ky⟩,⟨⟨rfl,W0⟩,trivial⟩⟩⟩⟩⟩
theorem eq8:BX Tryz.prog 2 8 k8:=KO Tryz.underlying8 Tryz.stoodInHeld8 ⟨⟨by decide,rfl,WZ,BX.mono eq2 (by decide)⟩,⟨⟨by decide,rfl,CI,BX.mono Gt (by decide)⟩,⟨⟨by decide,rfl,Ky,BX.mono Uq (by decide)⟩,⟨by decide,rfl,W0,BX.mono eq6 (by decide)⟩⟩⟩⟩
theorem LQ:Fit Tryz.prog 9 k9:=⟨⟨Tryz.t9,ma,rfl,rfl⟩,Tryz.underlying9⟩
theorem Ysz:Deep Tryz.prog 9 k9:= .str Tryz.underlying9
theorem eq9:BX Tryz.prog 1 9 k9:=Yls Tryz.underlying9
theorem Ytz:Fit Tryz.prog 10 k10:=⟨⟨Tryz.t10,Ywy,rfl,rfl⟩,Tryz.underlying10⟩
theorem Yuz:Fit Tryz.prog 11 k11:=⟨⟨Tryz.t11,Yxy,rfl,rfl⟩,Tryz.underlying11⟩
theorem la:Fit Tryz.prog 12 Q0:=⟨⟨Tryz.t12,Yyy,rfl,rfl⟩,Tryz.underlying12⟩
theorem Yvz:Fit Tryz.prog 13 k13:=⟨⟨Tryz.t13,Yzy,rfl,rfl⟩,⟨_,Tryz.underlying13,rfl⟩⟩
theorem Yn3:SFact Tryz.prog 13 [(0,k9),(1,Q0)]:=⟨_,Tryz.underlying13,⟨⟨rfl,LQ⟩,⟨⟨rfl,la⟩,trivial⟩⟩⟩
theorem Ywz:Fit Tryz.prog 14 k14:=⟨⟨Tryz.t14,Yaz,rfl,rfl⟩,⟨_,Tryz.underlying14,rfl⟩⟩
theorem Yo3:SFact Tryz.prog 14 [(0,k9),(1,Q0)]:=⟨_,Tryz.underlying14,⟨⟨rfl,LQ⟩,⟨⟨rfl,la⟩,trivial⟩⟩⟩
theorem Yxz:Fit Tryz.prog 21 k21:=⟨⟨Tryz.t21,Ybz,rfl,rfl⟩,Tryz.underlying21⟩
theorem Ww:Fit Tryz.prog 45 MI:=⟨⟨Tryz.t45,kY,rfl,rfl⟩,⟨_,Tryz.underlying45,rfl⟩⟩
theorem Yp3:SFact Tryz.prog 45 [(0,k3),(1,k3),(2,k9)]:=⟨_,Tryz.underlying45,⟨⟨rfl,CI⟩,⟨⟨rfl,CI⟩,⟨⟨rfl,LQ⟩,trivial⟩⟩⟩⟩
theorem zH:Deep Tryz.prog 45 MI:= .pair Tryz.underlying45 (by kernel_rfl) (DeepF.cons rfl (by kernel_rfl) aL (DeepF.cons rfl (by kernel_rfl) aL (DeepF.last rfl (by kernel_rfl) Ysz)))
theorem mb:BX Tryz.prog 2 45 MI:=KO Tryz.underlying45 Tryz.stoodInHeld45 ⟨⟨by decide,rfl,CI,BX.mono Gt (by decide)⟩,⟨⟨by decide,rfl,CI,BX.mono Gt (by decide)⟩,⟨by decide,rfl,LQ,BX.mono eq9 (by decide)⟩⟩⟩
theorem ld:Fit Tryz.prog 22 Ng:=⟨⟨Tryz.t22,Ycz,rfl,rfl⟩,⟨45,Tryz.t45,Tryz.underlying22,kY,rfl,rfl,(fun _ h=>nomatch h),(fun h=>nomatch h)⟩⟩
theorem Yaq:Deep Tryz.prog 22 Ng:= .sl Tryz.underlying22 (by kernel_rfl) zH
theorem Wx:Fit Tryz.prog 67 Nq:=⟨⟨Tryz.t67,kZ,rfl,rfl⟩,⟨_,Tryz.underlying67,rfl⟩⟩
theorem Yq3:SFact Tryz.prog 67 [(0,k3),(1,k3)]:=⟨_,Tryz.underlying67,⟨⟨rfl,CI⟩,⟨⟨rfl,CI⟩,trivial⟩⟩⟩
theorem mc:BX Tryz.prog 2 67 Nq:=KO Tryz.underlying67 (by kernel_rfl) ⟨⟨by decide,rfl,CI,BX.mono Gt (by decide)⟩,⟨by decide,rfl,CI,BX.mono Gt (by decide)⟩⟩
theorem lf:Fit Tryz.prog 23 Q1:=⟨⟨Tryz.t23,Ydz,rfl,rfl⟩,⟨67,Tryz.t67,Tryz.underlying23,kZ,rfl,rfl,(fun _ h=>nomatch h),(fun h=>nomatch h)⟩⟩
theorem Yyz:Fit Tryz.prog 26 k26:=⟨⟨Tryz.t26,Yez,rfl,rfl⟩,Tryz.underlying26⟩
theorem RT:Fit Tryz.prog 29 Ix:=⟨⟨Tryz.t29,Yfz,rfl,rfl⟩,⟨3,Tryz.t3,Tryz.underlying29,l7,rfl,rfl,(fun k h=>by cases h;exact Tryz.underlying3),(fun h=>nomatch h)⟩⟩
theorem Yzz:Fit Tryz.prog 30 k30:=⟨⟨Tryz.t30,Ygz,rfl,rfl⟩,⟨_,Tryz.underlying30,rfl⟩⟩
theorem Yr3:SFact Tryz.prog 30 [(0,k3),(1,Q1),(2,Ix),(3,Ix)]:=⟨_,Tryz.underlying30,⟨⟨rfl,CI⟩,⟨⟨rfl,lf⟩,⟨⟨rfl,RT⟩,⟨⟨rfl,RT⟩,trivial⟩⟩⟩⟩⟩
theorem Ya0:Fit Tryz.prog 31 k31:=⟨⟨Tryz.t31,Yhz,rfl,rfl⟩,⟨_,Tryz.underlying31,rfl⟩⟩
theorem Ys3:SFact Tryz.prog 31 [(0,k3),(1,Q1),(2,Ix),(3,Ix)]:=⟨_,Tryz.underlying31,⟨⟨rfl,CI⟩,⟨⟨rfl,lf⟩,⟨⟨rfl,RT⟩,⟨⟨rfl,RT⟩,trivial⟩⟩⟩⟩⟩
theorem Yb0:Fit Tryz.prog 44 cE:=⟨⟨Tryz.t44,Yiz,rfl,rfl⟩,⟨_,Tryz.underlying44,rfl⟩⟩
theorem Yt3:SFact Tryz.prog 44 [(0,k3),(1,k3),(2,k9)]:=⟨_,Tryz.underlying44,⟨⟨rfl,CI⟩,⟨⟨rfl,CI⟩,⟨⟨rfl,LQ⟩,trivial⟩⟩⟩⟩
theorem Yu3:BX Tryz.prog 2 44 cE:=KO Tryz.underlying44 Tryz.stoodInHeld44 ⟨⟨by decide,rfl,CI,BX.mono Gt (by decide)⟩,⟨⟨by decide,rfl,CI,BX.mono Gt (by decide)⟩,⟨by decide,rfl,LQ,BX.mono eq9 (by decide)⟩⟩⟩
theorem Yc0:Fit Tryz.prog 46 cF:=⟨⟨Tryz.t46,Yjz,rfl,rfl⟩,⟨_,Tryz.underlying46,rfl⟩⟩
theorem Yv3:SFact Tryz.prog 46 [(0,k3),(1,MI)]:=⟨_,Tryz.underlying46,⟨⟨rfl,CI⟩,⟨⟨rfl,Ww⟩,trivial⟩⟩⟩
theorem Yw3:BX Tryz.prog 3 46 cF:=KO Tryz.underlying46 Tryz.stoodInHeld46 ⟨⟨by decide,rfl,CI,BX.mono Gt (by decide)⟩,⟨by decide,rfl,Ww,BX.mono mb (by decide)⟩⟩
theorem lg:Fit Tryz.prog 47 LV:=⟨⟨Tryz.t47,Ykz,rfl,rfl⟩,⟨_,Tryz.underlying47,rfl⟩⟩
theorem Yx3:SFact Tryz.prog 47 [(0,k3),(1,MI)]:=⟨_,Tryz.underlying47,⟨⟨rfl,CI⟩,⟨⟨rfl,Ww⟩,trivial⟩⟩⟩
theorem Ybq:Deep Tryz.prog 47 LV:= .pair Tryz.underlying47 (by kernel_rfl) (DeepF.cons rfl (by kernel_rfl) aL (DeepF.last rfl (by kernel_rfl) zH))
theorem Yy3:BX Tryz.prog 3 47 LV:=KO Tryz.underlying47 Tryz.stoodInHeld47 ⟨⟨by decide,rfl,CI,BX.mono Gt (by decide)⟩,⟨by decide,rfl,Ww,BX.mono mb (by decide)⟩⟩
theorem Yd0:Fit Tryz.prog 64 k64:=⟨⟨Tryz.t64,Ylz,rfl,rfl⟩,Tryz.underlying64⟩
theorem Ye0:Fit Tryz.prog 66 cG:=⟨⟨Tryz.t66,Ymz,rfl,rfl⟩,⟨_,Tryz.underlying66,rfl⟩⟩
theorem Yz3:SFact Tryz.prog 66 [(0,k3),(1,k3)]:=⟨_,Tryz.underlying66,⟨⟨rfl,CI⟩,⟨⟨rfl,CI⟩,trivial⟩⟩⟩
theorem Ya4:BX Tryz.prog 2 66 cG:=KO Tryz.underlying66 (by kernel_rfl) ⟨⟨by decide,rfl,CI,BX.mono Gt (by decide)⟩,⟨by decide,rfl,CI,BX.mono Gt (by decide)⟩⟩
theorem lh:Fit Tryz.prog 74 Sr:=⟨⟨Tryz.t74,Ynz,rfl,rfl⟩,⟨5,Tryz.t5,Tryz.underlying74,l9,rfl,rfl,(fun k h=>by cases h;exact Tryz.underlying5),(fun _=>rfl)⟩⟩
theorem Yf0:Fit Tryz.prog 82 cH:=⟨⟨Tryz.t82,Yoz,rfl,rfl⟩,⟨_,Tryz.underlying82,rfl⟩⟩
theorem Yb4:SFact Tryz.prog 82 [(0,k3),(1,k3),(2,k3),(3,k3)]:=⟨_,Tryz.underlying82,⟨⟨rfl,CI⟩,⟨⟨rfl,CI⟩,⟨⟨rfl,CI⟩,⟨⟨rfl,CI⟩,trivial⟩⟩⟩⟩⟩
theorem Yc4:BX Tryz.prog 2 82 cH:=KO Tryz.underlying82 (by kernel_rfl) ⟨⟨by decide,rfl,CI,BX.mono Gt (by decide)⟩,⟨⟨by decide,rfl,CI,BX.mono Gt (by decide)⟩,⟨⟨by decide,rfl,CI,BX.mono Gt (by decide)⟩,⟨by decide,rfl,CI,BX.mono Gt (by decide)⟩⟩⟩⟩
theorem lj:Fit Tryz.prog 83 Oj:=⟨⟨Tryz.t83,Ypz,rfl,rfl⟩,⟨_,Tryz.underlying83,rfl⟩⟩
theorem Yd4:SFact Tryz.prog 83 [(0,k3),(1,k3),(2,k3),(3,k3)]:=⟨_,Tryz.underlying83,⟨⟨rfl,CI⟩,⟨⟨rfl,CI⟩,⟨⟨rfl,CI⟩,⟨⟨rfl,CI⟩,trivial⟩⟩⟩⟩⟩
theorem Ye4:BX Tryz.prog 2 83 Oj:=KO Tryz.underlying83 (by kernel_rfl) ⟨⟨by decide,rfl,CI,BX.mono Gt (by decide)⟩,⟨⟨by decide,rfl,CI,BX.mono Gt (by decide)⟩,⟨⟨by decide,rfl,CI,BX.mono Gt (by decide)⟩,⟨by decide,rfl,CI,BX.mono Gt (by decide)⟩⟩⟩⟩
theorem Yg0:Fit Tryz.prog 86 k86:=⟨⟨Tryz.t86,Zcf,rfl,by kernel_rfl⟩,⟨_,Tryz.underlying86,rfl⟩⟩
theorem Yh0:Fit Tryz.prog 93 k93:=⟨⟨Tryz.t93,Yqz,rfl,rfl⟩,⟨_,Tryz.underlying93,rfl⟩⟩
theorem Yf4:SFact Tryz.prog 93 [(0,LV),(4,k9),(5,Ix)]:=⟨_,Tryz.underlying93,⟨⟨rfl,lg⟩,⟨⟨rfl,LQ⟩,⟨⟨rfl,RT⟩,trivial⟩⟩⟩⟩
theorem Yi0:Fit Tryz.prog 94 k94:=⟨⟨Tryz.t94,Yrz,rfl,rfl⟩,⟨_,Tryz.underlying94,rfl⟩⟩
theorem Yg4:SFact Tryz.prog 94 [(0,LV),(4,k9),(5,Ix)]:=⟨_,Tryz.underlying94,⟨⟨rfl,lg⟩,⟨⟨rfl,LQ⟩,⟨⟨rfl,RT⟩,trivial⟩⟩⟩⟩
theorem Yms:Fit Tryz.prog 104 Zsg:=⟨⟨Tryz.t104,Yrr,rfl,rfl⟩,⟨9,Tryz.t9,Tryz.underlying104,ma,rfl,rfl,(fun _ h=>nomatch h),(fun h=>nomatch h)⟩⟩
theorem Yns:Fit Tryz.prog 109 Ztg:=⟨⟨Tryz.t109,Ysr,rfl,rfl⟩,⟨4,Tryz.t4,Tryz.underlying109,l8,rfl,rfl,(fun _ h=>nomatch h),(fun h=>nomatch h)⟩⟩
theorem Yos:Fit Tryz.prog 127 Zug:=⟨⟨Tryz.t127,Ytr,rfl,rfl⟩,⟨_,Tryz.underlying127,rfl⟩⟩
theorem Yj0:SFact Tryz.prog 127 [(0,Oj),(4,k9),(5,k9),(6,Ng)]:=⟨_,Tryz.underlying127,⟨⟨rfl,lj⟩,⟨⟨rfl,LQ⟩,⟨⟨rfl,LQ⟩,⟨⟨rfl,ld⟩,trivial⟩⟩⟩⟩⟩
theorem Yps:Fit Tryz.prog 128 Zvg:=⟨⟨Tryz.t128,Yur,rfl,rfl⟩,⟨_,Tryz.underlying128,rfl⟩⟩
theorem Yk0:SFact Tryz.prog 128 [(0,Oj),(4,k9),(5,k9),(6,Ng)]:=⟨_,Tryz.underlying128,⟨⟨rfl,lj⟩,⟨⟨rfl,LQ⟩,⟨⟨rfl,LQ⟩,⟨⟨rfl,ld⟩,trivial⟩⟩⟩⟩⟩
theorem Yqs:Fit Tryz.prog 142 WY:=⟨⟨Tryz.t142,iU,rfl,rfl⟩,⟨_,Tryz.underlying142,rfl⟩⟩
theorem Yl0:SFact Tryz.prog 142 [(0,k3),(1,k3),(2,k3)]:=⟨_,Tryz.underlying142,⟨⟨rfl,CI⟩,⟨⟨rfl,CI⟩,⟨⟨rfl,CI⟩,trivial⟩⟩⟩⟩
theorem Ym0:BX Tryz.prog 2 142 WY:=KO Tryz.underlying142 (by kernel_rfl) ⟨⟨by decide,rfl,CI,BX.mono Gt (by decide)⟩,⟨⟨by decide,rfl,CI,BX.mono Gt (by decide)⟩,⟨by decide,rfl,CI,BX.mono Gt (by decide)⟩⟩⟩
theorem Yrs:Fit Tryz.prog 138 Zwg:=⟨⟨Tryz.t138,Yvr,rfl,rfl⟩,⟨142,Tryz.t142,Tryz.underlying138,iU,rfl,rfl,(fun _ h=>nomatch h),(fun h=>nomatch h)⟩⟩
theorem Yss:Fit Tryz.prog 141 b5:=⟨⟨Tryz.t141,Ywr,rfl,rfl⟩,⟨_,Tryz.underlying141,rfl⟩⟩
theorem Yn0:SFact Tryz.prog 141 [(0,k3),(1,k3),(2,k3)]:=⟨_,Tryz.underlying141,⟨⟨rfl,CI⟩,⟨⟨rfl,CI⟩,⟨⟨rfl,CI⟩,trivial⟩⟩⟩⟩
theorem Yo0:BX Tryz.prog 2 141 b5:=KO Tryz.underlying141 (by kernel_rfl) ⟨⟨by decide,rfl,CI,BX.mono Gt (by decide)⟩,⟨⟨by decide,rfl,CI,BX.mono Gt (by decide)⟩,⟨by decide,rfl,CI,BX.mono Gt (by decide)⟩⟩⟩
theorem Yts:Fit Tryz.prog 170 b6:=⟨⟨Tryz.t170,Yxr,rfl,rfl⟩,⟨_,Tryz.underlying170,rfl⟩⟩
theorem Yp0:SFact Tryz.prog 170 [(0,Nq),(2,k4),(3,k4)]:=⟨_,Tryz.underlying170,⟨⟨rfl,Wx⟩,⟨⟨rfl,Ky⟩,⟨⟨rfl,Ky⟩,trivial⟩⟩⟩⟩
theorem Yq0:BX Tryz.prog 3 170 b6:=KO Tryz.underlying170 (by kernel_rfl) ⟨⟨by decide,rfl,Wx,BX.mono mc (by decide)⟩,⟨⟨by decide,rfl,Ky,BX.mono Uq (by decide)⟩,⟨by decide,rfl,Ky,BX.mono Uq (by decide)⟩⟩⟩
theorem Yus:Fit Tryz.prog 171 b7:=⟨⟨Tryz.t171,Yyr,rfl,rfl⟩,⟨_,Tryz.underlying171,rfl⟩⟩
theorem Yr0:SFact Tryz.prog 171 [(0,Nq),(2,k4),(3,k4)]:=⟨_,Tryz.underlying171,⟨⟨rfl,Wx⟩,⟨⟨rfl,Ky⟩,⟨⟨rfl,Ky⟩,trivial⟩⟩⟩⟩
theorem Ys0:BX Tryz.prog 3 171 b7:=KO Tryz.underlying171 (by kernel_rfl) ⟨⟨by decide,rfl,Wx,BX.mono mc (by decide)⟩,⟨⟨by decide,rfl,Ky,BX.mono Uq (by decide)⟩,⟨by decide,rfl,Ky,BX.mono Uq (by decide)⟩⟩⟩
theorem Yvs:Fit Tryz.prog 186 Zxg:=⟨⟨Tryz.t186,Yzr,rfl,rfl⟩,Tryz.underlying186⟩
theorem Yws:Fit Tryz.prog 216 Zyg:=⟨⟨Tryz.t216,Yas,rfl,rfl⟩,Tryz.underlying216⟩
theorem Yxs:Fit Tryz.prog 223 Zzg:=⟨⟨Tryz.t223,Ybs,rfl,rfl⟩,Tryz.underlying223⟩
theorem Yys:Fit Tryz.prog 226 Zah:=⟨⟨Tryz.t226,zE,rfl,by kernel_rfl⟩,⟨_,Tryz.underlying226,rfl⟩⟩
theorem Yzs:Fit Tryz.prog 227 Zbh:=⟨⟨Tryz.t227,zF,rfl,by kernel_rfl⟩,⟨_,Tryz.underlying227,rfl⟩⟩
theorem Yat:Fit Tryz.prog 237 Zch:=⟨⟨Tryz.t237,Ycs,rfl,rfl⟩,Tryz.underlying237⟩
theorem zI:Fit Tryz.prog 251 T9:=⟨⟨Tryz.t251,Yds,rfl,by kernel_rfl⟩,⟨_,Tryz.underlying251⟩⟩
theorem Yt0:SFact Tryz.prog 252 [(0,T9),(1,Sr)]:=⟨_,Tryz.underlying252,⟨⟨rfl,zI⟩,⟨⟨rfl,lh⟩,trivial⟩⟩⟩
theorem Ybt:Fit Tryz.prog 253 Zdh:=⟨⟨Tryz.t253,Yes,rfl,rfl⟩,⟨_,Tryz.underlying253,rfl⟩⟩
theorem Yu0:SFact Tryz.prog 253 [(0,T9),(1,Sr)]:=⟨_,Tryz.underlying253,⟨⟨rfl,zI⟩,⟨⟨rfl,lh⟩,trivial⟩⟩⟩
theorem Yct:Fit Tryz.prog 254 Zeh:=⟨⟨Tryz.t254,Yfs,rfl,by kernel_rfl⟩,(show Tryz.prog.underlying 254=some (.interface (Tryz.prog.methodsAt 254)) by kernel_rfl)⟩
theorem Ydt:Fit Tryz.prog 255 Zfh:=⟨⟨Tryz.t255,Ygs,rfl,by kernel_rfl⟩,(show Tryz.prog.underlying 255=some (.interface (Tryz.prog.methodsAt 255)) by kernel_rfl)⟩
theorem Yet:Fit Tryz.prog 265 Zgh:=⟨⟨Tryz.t265,zG,rfl,by kernel_rfl⟩,⟨_,Tryz.underlying265,rfl⟩⟩
theorem Yft:Fit Tryz.prog 289 Zhh:=⟨⟨Tryz.t289,Yhs,rfl,rfl⟩,Tryz.underlying289⟩
theorem Ygt:Fit Tryz.prog 290 Zih:=⟨⟨Tryz.t290,Yis,rfl,rfl⟩,Tryz.underlying290⟩
theorem Yht:Fit Tryz.prog 292 Zjh:=⟨⟨Tryz.t292,Yjs,rfl,rfl⟩,Tryz.underlying292⟩
theorem Yit:Fit Tryz.prog 293 Zkh:=⟨⟨Tryz.t293,Yks,rfl,rfl⟩,Tryz.underlying293⟩
theorem Yh4:ArFact Tryz.prog 86 4 k3:=⟨3,Tryz.underlying86,CI,by decide,Tryz.t86,Zcf,by kernel_rfl⟩
theorem Yv0:ArFact Tryz.prog 226 64 k4:=⟨4,Tryz.underlying226,Ky,by decide,Tryz.t226,zE,by kernel_rfl⟩
theorem Yw0:ArFact Tryz.prog 227 64 k4:=⟨4,Tryz.underlying227,Ky,by decide,Tryz.t227,zF,by kernel_rfl⟩
theorem Yx0:ArFact Tryz.prog 265 10 k5:=⟨5,Tryz.underlying265,Zlh,by decide,Tryz.t265,zG,by kernel_rfl⟩
@[reducible] def BK : Tab where
 ty:=[(2,k2),(3,k3),(4,k4),(5,k5),(6,k6),(7,k7),(8,k8),(9,k9),(10,k10),(11,k11),(12,Q0),(13,k13),(14,k14),(21,k21),(45,MI),(22,Ng),(67,Nq),(23,Q1),(26,k26),(29,Ix),(30,k30),(31,k31),(44,cE),(46,cF),(47,LV),(64,k64),(66,cG),(74,Sr),(82,cH),(83,Oj),(86,k86),(93,k93),(94,k94),(104,Zsg),(109,Ztg),(127,Zug),(128,Zvg),(142,WY),(138,Zwg),(141,b5),(170,b6),(171,b7),(186,Zxg),(216,Zyg),(223,Zzg),(226,Zah),(227,Zbh),(237,Zch),(253,Zdh),(254,Zeh),(255,Zfh),(265,Zgh),(289,Zhh),(290,Zih),(292,Zjh),(293,Zkh)]
 fo:=[(7,[(0,k2),(1,k3),(2,k4),(3,k6)]),(8,[(0,k2),(1,k3),(2,k4),(3,k6)]),(13,[(0,k9),(1,Q0)]),(14,[(0,k9),(1,Q0)]),(45,[(0,k3),(1,k3),(2,k9)]),(67,[(0,k3),(1,k3)]),(30,[(0,k3),(1,Q1),(2,Ix),(3,Ix)]),(31,[(0,k3),(1,Q1),(2,Ix),(3,Ix)]),(44,[(0,k3),(1,k3),(2,k9)]),(46,[(0,k3),(1,MI)]),(47,[(0,k3),(1,MI)]),(66,[(0,k3),(1,k3)]),(82,[(0,k3),(1,k3),(2,k3),(3,k3)]),(83,[(0,k3),(1,k3),(2,k3),(3,k3)]),(93,[(0,LV),(4,k9),(5,Ix)]),(94,[(0,LV),(4,k9),(5,Ix)]),(127,[(0,Oj),(4,k9),(5,k9),(6,Ng)]),(128,[(0,Oj),(4,k9),(5,k9),(6,Ng)]),(142,[(0,k3),(1,k3),(2,k3)]),(141,[(0,k3),(1,k3),(2,k3)]),(170,[(0,Nq),(2,k4),(3,k4)]),(171,[(0,Nq),(2,k4),(3,k4)]),(252,[(0,T9),(1,Sr)]),(253,[(0,T9),(1,Sr)])]
 ar:=[(86,(4,k3)),(226,(64,k4)),(227,(64,k4)),(265,(10,k5))]
 by_:=[(22,32),(23,16),(29,8),(74,1),(104,16),(109,1),(138,24)]
 eq:=[(4,k4),(7,k7),(8,k8),(45,MI),(67,Nq),(44,cE),(46,cF),(47,LV),(66,cG),(82,cH),(83,Oj),(142,WY),(141,b5),(170,b6),(171,b7)]
theorem Bb:TabOk Tryz.prog BK where
 ty:=⟨⟨WZ,trivial,(fun h=>nomatch h)⟩,⟨⟨CI,trivial,(fun h=>nomatch h)⟩,⟨⟨Ky,trivial,(fun h=>nomatch h)⟩,⟨⟨Zlh,trivial,(fun h=>nomatch h)⟩,⟨⟨W0,trivial,(fun h=>nomatch h)⟩,⟨⟨Yl3,trivial,(fun _=>⟨_,rfl⟩)⟩,⟨⟨Ym3,trivial,(fun _=>⟨_,rfl⟩)⟩,⟨⟨LQ,trivial,(fun h=>nomatch h)⟩,⟨⟨Ytz,trivial,(fun h=>nomatch h)⟩,⟨⟨Yuz,trivial,(fun h=>nomatch h)⟩,⟨⟨la,trivial,(fun h=>nomatch h)⟩,⟨⟨Yvz,trivial,(fun _=>⟨_,rfl⟩)⟩,⟨⟨Ywz,trivial,(fun _=>⟨_,rfl⟩)⟩,⟨⟨Yxz,trivial,(fun h=>nomatch h)⟩,⟨⟨Ww,trivial,(fun _=>⟨_,rfl⟩)⟩,⟨⟨ld,⟨45,Tryz.t45,Tryz.underlying22,kY,rfl,by decide⟩,(fun h=>nomatch h)⟩,⟨⟨Wx,trivial,(fun _=>⟨_,rfl⟩)⟩,⟨⟨lf,⟨67,Tryz.t67,Tryz.underlying23,kZ,rfl,by decide⟩,(fun h=>nomatch h)⟩,⟨⟨Yyz,trivial,(fun h=>nomatch h)⟩,⟨⟨RT,⟨3,Tryz.t3,Tryz.underlying29,l7,rfl,by decide⟩,(fun h=>nomatch h)⟩,⟨⟨Yzz,trivial,(fun _=>⟨_,rfl⟩)⟩,⟨⟨Ya0,trivial,(fun _=>⟨_,rfl⟩)⟩,⟨⟨Yb0,trivial,(fun _=>⟨_,rfl⟩)⟩,⟨⟨Yc0,trivial,(fun _=>⟨_,rfl⟩)⟩,⟨⟨lg,trivial,(fun _=>⟨_,rfl⟩)⟩,⟨⟨Yd0,trivial,(fun h=>nomatch h)⟩,⟨⟨Ye0,trivial,(fun _=>⟨_,rfl⟩)⟩,⟨⟨lh,⟨5,Tryz.t5,Tryz.underlying74,l9,rfl,by decide⟩,(fun h=>nomatch h)⟩,⟨⟨Yf0,trivial,(fun _=>⟨_,rfl⟩)⟩,⟨⟨lj,trivial,(fun _=>⟨_,rfl⟩)⟩,⟨⟨Yg0,trivial,(⟨rfl,rfl⟩)⟩,⟨⟨Yh0,trivial,(fun _=>⟨_,rfl⟩)⟩,⟨⟨Yi0,trivial,(fun _=>⟨_,rfl⟩)⟩,⟨⟨Yms,⟨9,Tryz.t9,Tryz.underlying104,ma,rfl,by decide⟩,(fun h=>nomatch h)⟩,⟨⟨Yns,⟨4,Tryz.t4,Tryz.underlying109,l8,rfl,by decide⟩,(fun h=>nomatch h)⟩,⟨⟨Yos,trivial,(fun _=>⟨_,rfl⟩)⟩,⟨⟨Yps,trivial,(fun _=>⟨_,rfl⟩)⟩,⟨⟨Yqs,trivial,(fun _=>⟨_,rfl⟩)⟩,⟨⟨Yrs,⟨142,Tryz.t142,Tryz.underlying138,iU,rfl,by decide⟩,(fun h=>nomatch h)⟩,⟨⟨Yss,trivial,(fun _=>⟨_,rfl⟩)⟩,⟨⟨Yts,trivial,(fun _=>⟨_,rfl⟩)⟩,⟨⟨Yus,trivial,(fun _=>⟨_,rfl⟩)⟩,⟨⟨Yvs,trivial,(fun h=>nomatch h)⟩,⟨⟨Yws,trivial,(fun h=>nomatch h)⟩,⟨⟨Yxs,trivial,(fun h=>nomatch h)⟩,⟨⟨Yys,trivial,(⟨rfl,rfl⟩)⟩,⟨⟨Yzs,trivial,(⟨rfl,rfl⟩)⟩,⟨⟨Yat,trivial,(fun h=>nomatch h)⟩,⟨⟨Ybt,trivial,(fun _=>⟨_,rfl⟩)⟩,⟨⟨Yct,trivial,(fun h=>nomatch h)⟩,⟨⟨Ydt,trivial,(fun h=>nomatch h)⟩,⟨⟨Yet,trivial,(⟨rfl,rfl⟩)⟩,⟨⟨Yft,trivial,(fun h=>nomatch h)⟩,⟨⟨Ygt,trivial,(fun h=>nomatch h)⟩,⟨⟨Yht,trivial,(fun h=>nomatch h)⟩,⟨⟨Yit,trivial,(fun h=>nomatch h)⟩,trivial⟩⟩⟩⟩⟩⟩⟩⟩⟩⟩⟩⟩⟩⟩⟩⟩⟩⟩⟩⟩⟩⟩⟩⟩⟩⟩⟩⟩⟩⟩⟩⟩⟩⟩⟩⟩⟩⟩⟩⟩⟩⟩⟩⟩⟩⟩⟩⟩⟩⟩⟩⟩⟩⟩⟩⟩
 fo:=⟨sf7,⟨sf8,⟨Yn3,⟨Yo3,⟨Yp3,⟨Yq3,⟨Yr3,⟨Ys3,⟨Yt3,⟨Yv3,⟨Yx3,⟨Yz3,⟨Yb4,⟨Yd4,⟨Yf4,⟨Yg4,⟨Yj0,⟨Yk0,⟨Yl0,⟨Yn0,⟨Yp0,⟨Yr0,⟨Yt0,⟨Yu0,trivial⟩⟩⟩⟩⟩⟩⟩⟩⟩⟩⟩⟩⟩⟩⟩⟩⟩⟩⟩⟩⟩⟩⟩⟩
 ar:=⟨Yh4,⟨Yv0,⟨Yw0,⟨Yx0,trivial⟩⟩⟩⟩
 eq:=⟨.inr ⟨rfl,Tryz.underlying4⟩,⟨.inl ⟨rfl,Tryz.eqGuardType7,BX.mono eq7 (by decide)⟩,⟨.inl ⟨rfl,Tryz.eqGuardType8,BX.mono eq8 (by decide)⟩,⟨.inl ⟨rfl,Tryz.eqGuardType45,BX.mono mb (by decide)⟩,⟨.inl ⟨rfl,(by kernel_rfl),BX.mono mc (by decide)⟩,⟨.inl ⟨rfl,Tryz.eqGuardType44,BX.mono Yu3 (by decide)⟩,⟨.inl ⟨rfl,Tryz.eqGuardType46,BX.mono Yw3 (by decide)⟩,⟨.inl ⟨rfl,Tryz.eqGuardType47,BX.mono Yy3 (by decide)⟩,⟨.inl ⟨rfl,(by kernel_rfl),BX.mono Ya4 (by decide)⟩,⟨.inl ⟨rfl,(by kernel_rfl),BX.mono Yc4 (by decide)⟩,⟨.inl ⟨rfl,(by kernel_rfl),BX.mono Ye4 (by decide)⟩,⟨.inl ⟨rfl,(by kernel_rfl),BX.mono Ym0 (by decide)⟩,⟨.inl ⟨rfl,(by kernel_rfl),BX.mono Yo0 (by decide)⟩,⟨.inl ⟨rfl,(by kernel_rfl),BX.mono Yq0 (by decide)⟩,⟨.inl ⟨rfl,(by kernel_rfl),BX.mono Ys0 (by decide)⟩,trivial⟩⟩⟩⟩⟩⟩⟩⟩⟩⟩⟩⟩⟩⟩⟩
 slf:=by kernel_rfl
 byt:=⟨(fun h=>nomatch h),⟨(fun h=>nomatch h),⟨(fun h=>nomatch h),⟨(fun h=>nomatch h),⟨(fun h=>nomatch h),⟨(fun h=>nomatch h),⟨(fun h=>nomatch h),⟨(fun h=>nomatch h),⟨(fun h=>nomatch h),⟨(fun h=>nomatch h),⟨(fun h=>nomatch h),⟨(fun h=>nomatch h),⟨(fun h=>nomatch h),⟨(fun h=>nomatch h),⟨(fun h=>nomatch h),⟨(fun h=>nomatch h),⟨(fun h=>nomatch h),⟨(fun h=>nomatch h),⟨(fun h=>nomatch h),⟨(fun h=>nomatch h),⟨(fun h=>nomatch h),⟨(fun h=>nomatch h),⟨(fun h=>nomatch h),⟨(fun h=>nomatch h),⟨(fun h=>nomatch h),⟨(fun h=>nomatch h),⟨(fun h=>nomatch h),⟨(fun _=>Tryz.underlying74),⟨(fun h=>nomatch h),⟨(fun h=>nomatch h),⟨(fun h=>nomatch h),⟨(fun h=>nomatch h),⟨(fun h=>nomatch h),⟨(fun h=>nomatch h),⟨(fun h=>nomatch h),⟨(fun h=>nomatch h),⟨(fun h=>nomatch h),⟨(fun h=>nomatch h),⟨(fun h=>nomatch h),⟨(fun h=>nomatch h),⟨(fun h=>nomatch h),⟨(fun h=>nomatch h),⟨(fun h=>nomatch h),⟨(fun h=>nomatch h),⟨(fun h=>nomatch h),⟨(fun h=>nomatch h),⟨(fun h=>nomatch h),⟨(fun h=>nomatch h),⟨(fun h=>nomatch h),⟨(fun h=>nomatch h),⟨(fun h=>nomatch h),⟨(fun h=>nomatch h),⟨(fun h=>nomatch h),⟨(fun h=>nomatch h),⟨(fun h=>nomatch h),⟨(fun h=>nomatch h),trivial⟩⟩⟩⟩⟩⟩⟩⟩⟩⟩⟩⟩⟩⟩⟩⟩⟩⟩⟩⟩⟩⟩⟩⟩⟩⟩⟩⟩⟩⟩⟩⟩⟩⟩⟩⟩⟩⟩⟩⟩⟩⟩⟩⟩⟩⟩⟩⟩⟩⟩⟩⟩⟩⟩⟩⟩
 mixed:=by kernel_rfl
end Go.Proofs.YtclpadlpcfnfmaaGreat.Am
