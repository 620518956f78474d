import Derived.Test.YtclpadlpcfnfmaaGreatSLay
/- PRINTED by gen/types.py of this repo: what the seat's types are. -/
namespace Go.Proofs.YtclpadlpcfnfmaaGreat.Am
open Go.Proofs.Tryz
open Go.AM
@[reducible] def k2 : Ty := .int .i64
@[reducible] def k3 : Ty := .int .i64
@[reducible] def k4 : Ty := .bool
@[reducible] def k5 : Ty := .int .u8
@[reducible] def k6 : Ty := .int .u8
@[reducible] def k7 : Ty := .pair k2 (.pair k3 (.pair k4 k6))
@[reducible] def k8 : Ty := .pair k2 (.pair k3 (.pair k4 k6))
@[reducible] def k9 : Ty := .str
@[reducible] def k10 : Ty := .str
@[reducible] def k11 : Ty := .str
@[reducible] def Sb : Ty := .int .u64
@[reducible] def k13 : Ty := .pair k9 Sb
@[reducible] def k14 : Ty := .pair k9 Sb
@[reducible] def k21 : Ty := .int .i32
@[reducible] def NQ : Ty := .pair k3 (.pair k3 k9)
@[reducible] def Sc : Ty := .sl NQ
@[reducible] def NR : Ty := .pair k3 k3
@[reducible] def Oq : Ty := .sl NR
@[reducible] def k26 : Ty := .int .i64
@[reducible] def Jh : Ty := .sl k3
@[reducible] def k30 : Ty := .pair k3 (.pair Oq (.pair Jh Jh))
@[reducible] def k31 : Ty := .pair k3 (.pair Oq (.pair Jh Jh))
@[reducible] def fb : Ty := .pair k3 (.pair k3 k9)
@[reducible] def fc : Ty := .pair k3 NQ
@[reducible] def MU : Ty := .pair k3 NQ
@[reducible] def k64 : Ty := .int .u64
@[reducible] def fe : Ty := .pair k3 k3
@[reducible] def TO : Ty := .sl k5
@[reducible] def fg : Ty := .pair k3 (.pair k3 (.pair k3 k3))
@[reducible] def Pv : Ty := .pair k3 (.pair k3 (.pair k3 k3))
@[reducible] def k86 : Ty := .arr 3 k3
@[reducible] def k93 : Ty := .pair MU (.pair k9 Jh)
@[reducible] def k94 : Ty := .pair MU (.pair k9 Jh)
@[reducible] def Zqp : Ty := .sl k9
@[reducible] def Zrp : Ty := .sl k4
@[reducible] def Zsp : Ty := .pair Pv (.pair k9 (.pair k9 Sc))
@[reducible] def Ztp : Ty := .pair Pv (.pair k9 (.pair k9 Sc))
@[reducible] def YI : Ty := .pair k3 (.pair k3 k3)
@[reducible] def Zup : Ty := .sl YI
@[reducible] def eo : Ty := .pair k3 (.pair k3 k3)
@[reducible] def ep : Ty := .pair NR (.pair k4 k4)
@[reducible] def eu : Ty := .pair NR (.pair k4 k4)
@[reducible] def Zvp : Ty := .int .u64
@[reducible] def Zwp : Ty := .int .i64
@[reducible] def Zxp : Ty := .int .u32
@[reducible] def Zyp : Ty := .arr 63 k4
@[reducible] def Zzp : Ty := .arr 63 k4
@[reducible] def Zaq : Ty := .int .u64
@[reducible] def Vy : Ty := .lk false
@[reducible] def Zbq : Ty := .pair Vy TO
@[reducible] def Zcq : Ty := .lk true
@[reducible] def Zdq : Ty := .lk true
@[reducible] def Zeq : Ty := .arr 9 k5
@[reducible] def Zfq : Ty := .int .u8
@[reducible] def Zgq : Ty := .int .u8
@[reducible] def Zhq : Ty := .int .i32
@[reducible] def Ziq : Ty := .int .i32
theorem Xhg:prog.info? 2=some t2:=Ag
theorem pH:prog.info? 3=some t3:=Ag
theorem pI:prog.info? 4=some t4:=Ag
theorem pJ:prog.info? 5=some t5:=Ag
theorem Xig:prog.info? 6=some t6:=Ag
theorem Xjg:prog.info? 7=some t7:=Ag
theorem Xkg:prog.info? 8=some t8:=Ag
theorem pK:prog.info? 9=some t9:=Ag
theorem Xrb:prog.info? 10=some t10:=Ag
theorem Xsb:prog.info? 11=some t11:=Ag
theorem Xtb:prog.info? 12=some t12:=Ag
theorem Xub:prog.info? 13=some t13:=Ag
theorem Xvb:prog.info? 14=some t14:=Ag
theorem Xwb:prog.info? 21=some t21:=Ag
theorem oH:prog.info? 45=some t45:=Ag
theorem Xxb:prog.info? 22=some t22:=Ag
theorem oI:prog.info? 67=some t67:=Ag
theorem Xyb:prog.info? 23=some t23:=Ag
theorem Xzb:prog.info? 26=some t26:=Ag
theorem Xac:prog.info? 29=some t29:=Ag
theorem Xbc:prog.info? 30=some t30:=Ag
theorem Xcc:prog.info? 31=some t31:=Ag
theorem Xdc:prog.info? 44=some t44:=Ag
theorem Xec:prog.info? 46=some t46:=Ag
theorem Xfc:prog.info? 47=some t47:=Ag
theorem Xgc:prog.info? 64=some t64:=Ag
theorem Xhc:prog.info? 66=some t66:=Ag
theorem Xic:prog.info? 74=some t74:=Ag
theorem Xjc:prog.info? 82=some t82:=Ag
theorem Xkc:prog.info? 83=some t83:=Ag
theorem Zvn:prog.info? 86=some t86:=Ag
theorem Xlc:prog.info? 93=some t93:=Ag
theorem Xmc:prog.info? 94=some t94:=Ag
theorem Yk4:prog.info? 104=some t104:=Ag
theorem Yl4:prog.info? 109=some t109:=Ag
theorem Ym4:prog.info? 127=some t127:=Ag
theorem Yn4:prog.info? 128=some t128:=Ag
theorem lU:prog.info? 142=some t142:=Ag
theorem Yo4:prog.info? 138=some t138:=Ag
theorem Yp4:prog.info? 141=some t141:=Ag
theorem Yq4:prog.info? 170=some t170:=Ag
theorem Yr4:prog.info? 171=some t171:=Ag
theorem Ys4:prog.info? 186=some t186:=Ag
theorem Yt4:prog.info? 216=some t216:=Ag
theorem Yu4:prog.info? 223=some t223:=Ag
theorem Zyg:prog.info? 226=some t226:=Ag
theorem Zzg:prog.info? 227=some t227:=Ag
theorem Yv4:prog.info? 237=some t237:=Ag
theorem Yw4:prog.info? 251=some t251:=Ag
theorem Yx4:prog.info? 253=some t253:=Ag
theorem Yy4:prog.info? 254=some t254:=Ag
theorem Yz4:prog.info? 255=some t255:=Ag
theorem Zah:prog.info? 265=some t265:=Ag
theorem Ya5:prog.info? 289=some t289:=Ag
theorem Yb5:prog.info? 290=some t290:=Ag
theorem Yc5:prog.info? 292=some t292:=Ag
theorem Yd5:prog.info? 293=some t293:=Ag
theorem YJ:Fit prog 2 k2:=⟨⟨t2,Xhg,rfl,rfl⟩,underlying2⟩
theorem eq2:Cr prog 1 2 k2:=eq_int underlying2
theorem Di:Fit prog 3 k3:=⟨⟨t3,pH,rfl,rfl⟩,underlying3⟩
theorem X9:Deep prog 3 k3:= .int underlying3
theorem Hu:Cr prog 1 3 k3:=eq_int underlying3
theorem Ly:Fit prog 4 k4:=⟨⟨t4,pI,rfl,rfl⟩,underlying4⟩
theorem VS:Cr prog 1 4 k4:=Yuy underlying4
theorem Zjq:Fit prog 5 k5:=⟨⟨t5,pJ,rfl,rfl⟩,underlying5⟩
theorem YK:Fit prog 6 k6:=⟨⟨t6,Xig,rfl,rfl⟩,underlying6⟩
theorem eq6:Cr prog 1 6 k6:=eq_int underlying6
theorem Xlg:Fit prog 7 k7:=⟨⟨t7,Xjg,rfl,rfl⟩,⟨_,underlying7,rfl⟩⟩
theorem sf7:SFact prog 7 [(0,k2),(1,k3),(2,k4),(3,k6)]:=⟨_,underlying7,⟨⟨rfl,YJ⟩,⟨⟨rfl,Di⟩,⟨⟨rfl,Ly⟩,⟨⟨rfl,YK⟩,trivial⟩⟩⟩⟩⟩
theorem eq7:Cr prog 2 7 k7:=LX underlying7 stoodInHeld7 ⟨⟨Af,rfl,YJ,Cr.mono eq2 Af⟩,⟨⟨Af,rfl,Di,Cr.mono Hu Af⟩,⟨⟨Af,rfl,Ly,Cr.mono VS Af⟩,⟨Af,rfl,YK,Cr.mono eq6 Af⟩⟩⟩⟩
theorem Xmg:Fit prog 8 k8:=⟨⟨t8,Xkg,rfl,rfl⟩,⟨_,underlying8,rfl⟩⟩
theorem sf8:SFact prog 8 [(0,k2),(1,k3),(2,k4),(3,k6)]:=⟨_,underlying8,⟨⟨rfl,YJ⟩,⟨⟨rfl,Di⟩,⟨⟨rfl,Ly⟩,⟨⟨rfl,YK⟩,trivial⟩⟩⟩⟩⟩
theorem eq8:Cr prog 2 8 k8:=LX underlying8 stoodInHeld8 ⟨⟨Af,rfl,YJ,Cr.mono eq2 Af⟩,⟨⟨Af,rfl,Di,Cr.mono Hu Af⟩,⟨⟨Af,rfl,Ly,Cr.mono VS Af⟩,⟨Af,rfl,YK,Cr.mono eq6 Af⟩⟩⟩⟩
theorem MP:Fit prog 9 k9:=⟨⟨t9,pK,rfl,rfl⟩,underlying9⟩
theorem Zem:Deep prog 9 k9:= .str underlying9
theorem eq9:Cr prog 1 9 k9:=Ye5 underlying9
theorem Xnc:Fit prog 10 k10:=⟨⟨t10,Xrb,rfl,rfl⟩,underlying10⟩
theorem Xoc:Fit prog 11 k11:=⟨⟨t11,Xsb,rfl,rfl⟩,underlying11⟩
theorem oJ:Fit prog 12 Sb:=⟨⟨t12,Xtb,rfl,rfl⟩,underlying12⟩
theorem Xpc:Fit prog 13 k13:=⟨⟨t13,Xub,rfl,rfl⟩,⟨_,underlying13,rfl⟩⟩
theorem Xng:SFact prog 13 [(0,k9),(1,Sb)]:=⟨_,underlying13,⟨⟨rfl,MP⟩,⟨⟨rfl,oJ⟩,trivial⟩⟩⟩
theorem Xqc:Fit prog 14 k14:=⟨⟨t14,Xvb,rfl,rfl⟩,⟨_,underlying14,rfl⟩⟩
theorem Xog:SFact prog 14 [(0,k9),(1,Sb)]:=⟨_,underlying14,⟨⟨rfl,MP⟩,⟨⟨rfl,oJ⟩,trivial⟩⟩⟩
theorem Xrc:Fit prog 21 k21:=⟨⟨t21,Xwb,rfl,rfl⟩,underlying21⟩
theorem Ya:Fit prog 45 NQ:=⟨⟨t45,oH,rfl,rfl⟩,⟨_,underlying45,rfl⟩⟩
theorem Xpg:SFact prog 45 [(0,k3),(1,k3),(2,k9)]:=⟨_,underlying45,⟨⟨rfl,Di⟩,⟨⟨rfl,Di⟩,⟨⟨rfl,MP⟩,trivial⟩⟩⟩⟩
theorem Yf5:Deep prog 45 NQ:= .pair underlying45 Ag (DeepF.cons rfl Ag X9 (DeepF.cons rfl Ag X9 (DeepF.last rfl Ag Zem)))
theorem pL:Cr prog 2 45 NQ:=LX underlying45 stoodInHeld45 ⟨⟨Af,rfl,Di,Cr.mono Hu Af⟩,⟨⟨Af,rfl,Di,Cr.mono Hu Af⟩,⟨Af,rfl,MP,Cr.mono eq9 Af⟩⟩⟩
theorem oK:Fit prog 22 Sc:=⟨⟨t22,Xxb,rfl,rfl⟩,⟨45,t45,underlying22,oH,rfl,rfl,(λ _ h=>nomatch h),(λ h=>nomatch h)⟩⟩
theorem Yb:Fit prog 67 NR:=⟨⟨t67,oI,rfl,rfl⟩,⟨_,underlying67,rfl⟩⟩
theorem Xqg:SFact prog 67 [(0,k3),(1,k3)]:=⟨_,underlying67,⟨⟨rfl,Di⟩,⟨⟨rfl,Di⟩,trivial⟩⟩⟩
theorem Yg5:Deep prog 67 NR:= .pair underlying67 Ag (DeepF.cons rfl Ag X9 (DeepF.last rfl Ag X9))
theorem pM:Cr prog 2 67 NR:=LX underlying67 Ag ⟨⟨Af,rfl,Di,Cr.mono Hu Af⟩,⟨Af,rfl,Di,Cr.mono Hu Af⟩⟩
theorem oL:Fit prog 23 Oq:=⟨⟨t23,Xyb,rfl,rfl⟩,⟨67,t67,underlying23,oI,rfl,rfl,(λ _ h=>nomatch h),(λ h=>nomatch h)⟩⟩
theorem Yd3:Deep prog 23 Oq:= .sl underlying23 Ag Yg5
theorem Xsc:Fit prog 26 k26:=⟨⟨t26,Xzb,rfl,rfl⟩,underlying26⟩
theorem Td:Fit prog 29 Jh:=⟨⟨t29,Xac,rfl,rfl⟩,⟨3,t3,underlying29,pH,rfl,rfl,(λ k h=>by cases h;exact underlying3),(λ h=>nomatch h)⟩⟩
theorem Xtc:Fit prog 30 k30:=⟨⟨t30,Xbc,rfl,rfl⟩,⟨_,underlying30,rfl⟩⟩
theorem Xrg:SFact prog 30 [(0,k3),(1,Oq),(2,Jh),(3,Jh)]:=⟨_,underlying30,⟨⟨rfl,Di⟩,⟨⟨rfl,oL⟩,⟨⟨rfl,Td⟩,⟨⟨rfl,Td⟩,trivial⟩⟩⟩⟩⟩
theorem Xuc:Fit prog 31 k31:=⟨⟨t31,Xcc,rfl,rfl⟩,⟨_,underlying31,rfl⟩⟩
theorem Xsg:SFact prog 31 [(0,k3),(1,Oq),(2,Jh),(3,Jh)]:=⟨_,underlying31,⟨⟨rfl,Di⟩,⟨⟨rfl,oL⟩,⟨⟨rfl,Td⟩,⟨⟨rfl,Td⟩,trivial⟩⟩⟩⟩⟩
theorem Xvc:Fit prog 44 fb:=⟨⟨t44,Xdc,rfl,rfl⟩,⟨_,underlying44,rfl⟩⟩
theorem Xtg:SFact prog 44 [(0,k3),(1,k3),(2,k9)]:=⟨_,underlying44,⟨⟨rfl,Di⟩,⟨⟨rfl,Di⟩,⟨⟨rfl,MP⟩,trivial⟩⟩⟩⟩
theorem Xug:Cr prog 2 44 fb:=LX underlying44 stoodInHeld44 ⟨⟨Af,rfl,Di,Cr.mono Hu Af⟩,⟨⟨Af,rfl,Di,Cr.mono Hu Af⟩,⟨Af,rfl,MP,Cr.mono eq9 Af⟩⟩⟩
theorem Xwc:Fit prog 46 fc:=⟨⟨t46,Xec,rfl,rfl⟩,⟨_,underlying46,rfl⟩⟩
theorem Xvg:SFact prog 46 [(0,k3),(1,NQ)]:=⟨_,underlying46,⟨⟨rfl,Di⟩,⟨⟨rfl,Ya⟩,trivial⟩⟩⟩
theorem Xwg:Cr prog 3 46 fc:=LX underlying46 stoodInHeld46 ⟨⟨Af,rfl,Di,Cr.mono Hu Af⟩,⟨Af,rfl,Ya,Cr.mono pL Af⟩⟩
theorem oM:Fit prog 47 MU:=⟨⟨t47,Xfc,rfl,rfl⟩,⟨_,underlying47,rfl⟩⟩
theorem Xxg:SFact prog 47 [(0,k3),(1,NQ)]:=⟨_,underlying47,⟨⟨rfl,Di⟩,⟨⟨rfl,Ya⟩,trivial⟩⟩⟩
theorem Yc3:Deep prog 47 MU:= .pair underlying47 Ag (DeepF.cons rfl Ag X9 (DeepF.last rfl Ag Yf5))
theorem Xyg:Cr prog 3 47 MU:=LX underlying47 stoodInHeld47 ⟨⟨Af,rfl,Di,Cr.mono Hu Af⟩,⟨Af,rfl,Ya,Cr.mono pL Af⟩⟩
theorem Xxc:Fit prog 64 k64:=⟨⟨t64,Xgc,rfl,rfl⟩,underlying64⟩
theorem Xyc:Fit prog 66 fe:=⟨⟨t66,Xhc,rfl,rfl⟩,⟨_,underlying66,rfl⟩⟩
theorem Xzg:SFact prog 66 [(0,k3),(1,k3)]:=⟨_,underlying66,⟨⟨rfl,Di⟩,⟨⟨rfl,Di⟩,trivial⟩⟩⟩
theorem Xah:Cr prog 2 66 fe:=LX underlying66 Ag ⟨⟨Af,rfl,Di,Cr.mono Hu Af⟩,⟨Af,rfl,Di,Cr.mono Hu Af⟩⟩
theorem oN:Fit prog 74 TO:=⟨⟨t74,Xic,rfl,rfl⟩,⟨5,t5,underlying74,pJ,rfl,rfl,(λ k h=>by cases h;exact underlying5),(λ _=>rfl)⟩⟩
theorem Xzc:Fit prog 82 fg:=⟨⟨t82,Xjc,rfl,rfl⟩,⟨_,underlying82,rfl⟩⟩
theorem Xbh:SFact prog 82 [(0,k3),(1,k3),(2,k3),(3,k3)]:=⟨_,underlying82,⟨⟨rfl,Di⟩,⟨⟨rfl,Di⟩,⟨⟨rfl,Di⟩,⟨⟨rfl,Di⟩,trivial⟩⟩⟩⟩⟩
theorem Xch:Cr prog 2 82 fg:=LX underlying82 Ag ⟨⟨Af,rfl,Di,Cr.mono Hu Af⟩,⟨⟨Af,rfl,Di,Cr.mono Hu Af⟩,⟨⟨Af,rfl,Di,Cr.mono Hu Af⟩,⟨Af,rfl,Di,Cr.mono Hu Af⟩⟩⟩⟩
theorem oO:Fit prog 83 Pv:=⟨⟨t83,Xkc,rfl,rfl⟩,⟨_,underlying83,rfl⟩⟩
theorem Xdh:SFact prog 83 [(0,k3),(1,k3),(2,k3),(3,k3)]:=⟨_,underlying83,⟨⟨rfl,Di⟩,⟨⟨rfl,Di⟩,⟨⟨rfl,Di⟩,⟨⟨rfl,Di⟩,trivial⟩⟩⟩⟩⟩
theorem Xeh:Cr prog 2 83 Pv:=LX underlying83 Ag ⟨⟨Af,rfl,Di,Cr.mono Hu Af⟩,⟨⟨Af,rfl,Di,Cr.mono Hu Af⟩,⟨⟨Af,rfl,Di,Cr.mono Hu Af⟩,⟨Af,rfl,Di,Cr.mono Hu Af⟩⟩⟩⟩
theorem Xad:Fit prog 86 k86:=⟨⟨t86,Zvn,rfl,Ag⟩,⟨_,underlying86,rfl⟩⟩
theorem Xbd:Fit prog 93 k93:=⟨⟨t93,Xlc,rfl,rfl⟩,⟨_,underlying93,rfl⟩⟩
theorem Xfh:SFact prog 93 [(0,MU),(4,k9),(5,Jh)]:=⟨_,underlying93,⟨⟨rfl,oM⟩,⟨⟨rfl,MP⟩,⟨⟨rfl,Td⟩,trivial⟩⟩⟩⟩
theorem Xcd:Fit prog 94 k94:=⟨⟨t94,Xmc,rfl,rfl⟩,⟨_,underlying94,rfl⟩⟩
theorem Xgh:SFact prog 94 [(0,MU),(4,k9),(5,Jh)]:=⟨_,underlying94,⟨⟨rfl,oM⟩,⟨⟨rfl,MP⟩,⟨⟨rfl,Td⟩,trivial⟩⟩⟩⟩
theorem Yh5:Fit prog 104 Zqp:=⟨⟨t104,Yk4,rfl,rfl⟩,⟨9,t9,underlying104,pK,rfl,rfl,(λ _ h=>nomatch h),(λ h=>nomatch h)⟩⟩
theorem Yi5:Fit prog 109 Zrp:=⟨⟨t109,Yl4,rfl,rfl⟩,⟨4,t4,underlying109,pI,rfl,rfl,(λ _ h=>nomatch h),(λ h=>nomatch h)⟩⟩
theorem Yj5:Fit prog 127 Zsp:=⟨⟨t127,Ym4,rfl,rfl⟩,⟨_,underlying127,rfl⟩⟩
theorem Xdd:SFact prog 127 [(0,Pv),(4,k9),(5,k9),(6,Sc)]:=⟨_,underlying127,⟨⟨rfl,oO⟩,⟨⟨rfl,MP⟩,⟨⟨rfl,MP⟩,⟨⟨rfl,oK⟩,trivial⟩⟩⟩⟩⟩
theorem Yk5:Fit prog 128 Ztp:=⟨⟨t128,Yn4,rfl,rfl⟩,⟨_,underlying128,rfl⟩⟩
theorem Xed:SFact prog 128 [(0,Pv),(4,k9),(5,k9),(6,Sc)]:=⟨_,underlying128,⟨⟨rfl,oO⟩,⟨⟨rfl,MP⟩,⟨⟨rfl,MP⟩,⟨⟨rfl,oK⟩,trivial⟩⟩⟩⟩⟩
theorem Yl5:Fit prog 142 YI:=⟨⟨t142,lU,rfl,rfl⟩,⟨_,underlying142,rfl⟩⟩
theorem Xfd:SFact prog 142 [(0,k3),(1,k3),(2,k3)]:=⟨_,underlying142,⟨⟨rfl,Di⟩,⟨⟨rfl,Di⟩,⟨⟨rfl,Di⟩,trivial⟩⟩⟩⟩
theorem Xgd:Cr prog 2 142 YI:=LX underlying142 Ag ⟨⟨Af,rfl,Di,Cr.mono Hu Af⟩,⟨⟨Af,rfl,Di,Cr.mono Hu Af⟩,⟨Af,rfl,Di,Cr.mono Hu Af⟩⟩⟩
theorem Ym5:Fit prog 138 Zup:=⟨⟨t138,Yo4,rfl,rfl⟩,⟨142,t142,underlying138,lU,rfl,rfl,(λ _ h=>nomatch h),(λ h=>nomatch h)⟩⟩
theorem Yn5:Fit prog 141 eo:=⟨⟨t141,Yp4,rfl,rfl⟩,⟨_,underlying141,rfl⟩⟩
theorem Xhd:SFact prog 141 [(0,k3),(1,k3),(2,k3)]:=⟨_,underlying141,⟨⟨rfl,Di⟩,⟨⟨rfl,Di⟩,⟨⟨rfl,Di⟩,trivial⟩⟩⟩⟩
theorem Xid:Cr prog 2 141 eo:=LX underlying141 Ag ⟨⟨Af,rfl,Di,Cr.mono Hu Af⟩,⟨⟨Af,rfl,Di,Cr.mono Hu Af⟩,⟨Af,rfl,Di,Cr.mono Hu Af⟩⟩⟩
theorem Yo5:Fit prog 170 ep:=⟨⟨t170,Yq4,rfl,rfl⟩,⟨_,underlying170,rfl⟩⟩
theorem Xjd:SFact prog 170 [(0,NR),(2,k4),(3,k4)]:=⟨_,underlying170,⟨⟨rfl,Yb⟩,⟨⟨rfl,Ly⟩,⟨⟨rfl,Ly⟩,trivial⟩⟩⟩⟩
theorem Xkd:Cr prog 3 170 ep:=LX underlying170 Ag ⟨⟨Af,rfl,Yb,Cr.mono pM Af⟩,⟨⟨Af,rfl,Ly,Cr.mono VS Af⟩,⟨Af,rfl,Ly,Cr.mono VS Af⟩⟩⟩
theorem Yp5:Fit prog 171 eu:=⟨⟨t171,Yr4,rfl,rfl⟩,⟨_,underlying171,rfl⟩⟩
theorem Xld:SFact prog 171 [(0,NR),(2,k4),(3,k4)]:=⟨_,underlying171,⟨⟨rfl,Yb⟩,⟨⟨rfl,Ly⟩,⟨⟨rfl,Ly⟩,trivial⟩⟩⟩⟩
theorem Xmd:Cr prog 3 171 eu:=LX underlying171 Ag ⟨⟨Af,rfl,Yb,Cr.mono pM Af⟩,⟨⟨Af,rfl,Ly,Cr.mono VS Af⟩,⟨Af,rfl,Ly,Cr.mono VS Af⟩⟩⟩
theorem Yq5:Fit prog 186 Zvp:=⟨⟨t186,Ys4,rfl,rfl⟩,underlying186⟩
theorem Yr5:Fit prog 216 Zwp:=⟨⟨t216,Yt4,rfl,rfl⟩,underlying216⟩
theorem Ys5:Fit prog 223 Zxp:=⟨⟨t223,Yu4,rfl,rfl⟩,underlying223⟩
theorem Yt5:Fit prog 226 Zyp:=⟨⟨t226,Zyg,rfl,Ag⟩,⟨_,underlying226,rfl⟩⟩
theorem Yu5:Fit prog 227 Zzp:=⟨⟨t227,Zzg,rfl,Ag⟩,⟨_,underlying227,rfl⟩⟩
theorem Yv5:Fit prog 237 Zaq:=⟨⟨t237,Yv4,rfl,rfl⟩,underlying237⟩
theorem Zbh:Fit prog 251 Vy:=⟨⟨t251,Yw4,rfl,Ag⟩,⟨_,underlying251⟩⟩
theorem Xnd:SFact prog 252 [(0,Vy),(1,TO)]:=⟨_,underlying252,⟨⟨rfl,Zbh⟩,⟨⟨rfl,oN⟩,trivial⟩⟩⟩
theorem Yw5:Fit prog 253 Zbq:=⟨⟨t253,Yx4,rfl,rfl⟩,⟨_,underlying253,rfl⟩⟩
theorem Xod:SFact prog 253 [(0,Vy),(1,TO)]:=⟨_,underlying253,⟨⟨rfl,Zbh⟩,⟨⟨rfl,oN⟩,trivial⟩⟩⟩
theorem Yx5:Fit prog 254 Zcq:=⟨⟨t254,Yy4,rfl,Ag⟩,(show prog.underlying 254=some (.interface (prog.methodsAt 254)) by kernel_rfl)⟩
theorem Yy5:Fit prog 255 Zdq:=⟨⟨t255,Yz4,rfl,Ag⟩,(show prog.underlying 255=some (.interface (prog.methodsAt 255)) by kernel_rfl)⟩
theorem Yz5:Fit prog 265 Zeq:=⟨⟨t265,Zah,rfl,Ag⟩,⟨_,underlying265,rfl⟩⟩
theorem Ya6:Fit prog 289 Zfq:=⟨⟨t289,Ya5,rfl,rfl⟩,underlying289⟩
theorem Yb6:Fit prog 290 Zgq:=⟨⟨t290,Yb5,rfl,rfl⟩,underlying290⟩
theorem Yc6:Fit prog 292 Zhq:=⟨⟨t292,Yc5,rfl,rfl⟩,underlying292⟩
theorem Yd6:Fit prog 293 Ziq:=⟨⟨t293,Yd5,rfl,rfl⟩,underlying293⟩
theorem Xhh:ArFact prog 86 4 k3:=⟨3,underlying86,Di,Af,t86,Zvn,Ag⟩
theorem Xpd:ArFact prog 226 64 k4:=⟨4,underlying226,Ly,Af,t226,Zyg,Ag⟩
theorem Xqd:ArFact prog 227 64 k4:=⟨4,underlying227,Ly,Af,t227,Zzg,Ag⟩
theorem Xrd:ArFact prog 265 10 k5:=⟨5,underlying265,Zjq,Af,t265,Zah,Ag⟩
@[reducible] def BY : Tab where
 ty:=[(2,k2),(3,k3),(4,k4),(5,k5),(6,k6),(7,k7),(8,k8),(9,k9),(10,k10),(11,k11),(12,Sb),(13,k13),(14,k14),(21,k21),(45,NQ),(22,Sc),(67,NR),(23,Oq),(26,k26),(29,Jh),(30,k30),(31,k31),(44,fb),(46,fc),(47,MU),(64,k64),(66,fe),(74,TO),(82,fg),(83,Pv),(86,k86),(93,k93),(94,k94),(104,Zqp),(109,Zrp),(127,Zsp),(128,Ztp),(142,YI),(138,Zup),(141,eo),(170,ep),(171,eu),(186,Zvp),(216,Zwp),(223,Zxp),(226,Zyp),(227,Zzp),(237,Zaq),(253,Zbq),(254,Zcq),(255,Zdq),(265,Zeq),(289,Zfq),(290,Zgq),(292,Zhq),(293,Ziq)]
 fo:=[(7,[(0,k2),(1,k3),(2,k4),(3,k6)]),(8,[(0,k2),(1,k3),(2,k4),(3,k6)]),(13,[(0,k9),(1,Sb)]),(14,[(0,k9),(1,Sb)]),(45,[(0,k3),(1,k3),(2,k9)]),(67,[(0,k3),(1,k3)]),(30,[(0,k3),(1,Oq),(2,Jh),(3,Jh)]),(31,[(0,k3),(1,Oq),(2,Jh),(3,Jh)]),(44,[(0,k3),(1,k3),(2,k9)]),(46,[(0,k3),(1,NQ)]),(47,[(0,k3),(1,NQ)]),(66,[(0,k3),(1,k3)]),(82,[(0,k3),(1,k3),(2,k3),(3,k3)]),(83,[(0,k3),(1,k3),(2,k3),(3,k3)]),(93,[(0,MU),(4,k9),(5,Jh)]),(94,[(0,MU),(4,k9),(5,Jh)]),(127,[(0,Pv),(4,k9),(5,k9),(6,Sc)]),(128,[(0,Pv),(4,k9),(5,k9),(6,Sc)]),(142,[(0,k3),(1,k3),(2,k3)]),(141,[(0,k3),(1,k3),(2,k3)]),(170,[(0,NR),(2,k4),(3,k4)]),(171,[(0,NR),(2,k4),(3,k4)]),(252,[(0,Vy),(1,TO)]),(253,[(0,Vy),(1,TO)])]
 ar:=[(86,(4,k3)),(226,(64,k4)),(227,(64,k4)),(265,(10,k5))]
 by_:=[(22,32),(23,16),(29,8),(74,1),(104,16),(109,1),(138,24)]
 eq:=[(4,k4),(7,k7),(8,k8),(45,NQ),(67,NR),(44,fb),(46,fc),(47,MU),(66,fe),(82,fg),(83,Pv),(142,YI),(141,eo),(170,ep),(171,eu)]
theorem Bo:TabOk prog BY where
 ty:=⟨⟨YJ,trivial,(λ h=>nomatch h)⟩,⟨⟨Di,trivial,(λ h=>nomatch h)⟩,⟨⟨Ly,trivial,(λ h=>nomatch h)⟩,⟨⟨Zjq,trivial,(λ h=>nomatch h)⟩,⟨⟨YK,trivial,(λ h=>nomatch h)⟩,⟨⟨Xlg,trivial,(λ _=>⟨_,rfl⟩)⟩,⟨⟨Xmg,trivial,(λ _=>⟨_,rfl⟩)⟩,⟨⟨MP,trivial,(λ h=>nomatch h)⟩,⟨⟨Xnc,trivial,(λ h=>nomatch h)⟩,⟨⟨Xoc,trivial,(λ h=>nomatch h)⟩,⟨⟨oJ,trivial,(λ h=>nomatch h)⟩,⟨⟨Xpc,trivial,(λ _=>⟨_,rfl⟩)⟩,⟨⟨Xqc,trivial,(λ _=>⟨_,rfl⟩)⟩,⟨⟨Xrc,trivial,(λ h=>nomatch h)⟩,⟨⟨Ya,trivial,(λ _=>⟨_,rfl⟩)⟩,⟨⟨oK,⟨45,t45,underlying22,oH,rfl,Af⟩,(λ h=>nomatch h)⟩,⟨⟨Yb,trivial,(λ _=>⟨_,rfl⟩)⟩,⟨⟨oL,⟨67,t67,underlying23,oI,rfl,Af⟩,(λ h=>nomatch h)⟩,⟨⟨Xsc,trivial,(λ h=>nomatch h)⟩,⟨⟨Td,⟨3,t3,underlying29,pH,rfl,Af⟩,(λ h=>nomatch h)⟩,⟨⟨Xtc,trivial,(λ _=>⟨_,rfl⟩)⟩,⟨⟨Xuc,trivial,(λ _=>⟨_,rfl⟩)⟩,⟨⟨Xvc,trivial,(λ _=>⟨_,rfl⟩)⟩,⟨⟨Xwc,trivial,(λ _=>⟨_,rfl⟩)⟩,⟨⟨oM,trivial,(λ _=>⟨_,rfl⟩)⟩,⟨⟨Xxc,trivial,(λ h=>nomatch h)⟩,⟨⟨Xyc,trivial,(λ _=>⟨_,rfl⟩)⟩,⟨⟨oN,⟨5,t5,underlying74,pJ,rfl,Af⟩,(λ h=>nomatch h)⟩,⟨⟨Xzc,trivial,(λ _=>⟨_,rfl⟩)⟩,⟨⟨oO,trivial,(λ _=>⟨_,rfl⟩)⟩,⟨⟨Xad,trivial,(⟨rfl,rfl⟩)⟩,⟨⟨Xbd,trivial,(λ _=>⟨_,rfl⟩)⟩,⟨⟨Xcd,trivial,(λ _=>⟨_,rfl⟩)⟩,⟨⟨Yh5,⟨9,t9,underlying104,pK,rfl,Af⟩,(λ h=>nomatch h)⟩,⟨⟨Yi5,⟨4,t4,underlying109,pI,rfl,Af⟩,(λ h=>nomatch h)⟩,⟨⟨Yj5,trivial,(λ _=>⟨_,rfl⟩)⟩,⟨⟨Yk5,trivial,(λ _=>⟨_,rfl⟩)⟩,⟨⟨Yl5,trivial,(λ _=>⟨_,rfl⟩)⟩,⟨⟨Ym5,⟨142,t142,underlying138,lU,rfl,Af⟩,(λ h=>nomatch h)⟩,⟨⟨Yn5,trivial,(λ _=>⟨_,rfl⟩)⟩,⟨⟨Yo5,trivial,(λ _=>⟨_,rfl⟩)⟩,⟨⟨Yp5,trivial,(λ _=>⟨_,rfl⟩)⟩,⟨⟨Yq5,trivial,(λ h=>nomatch h)⟩,⟨⟨Yr5,trivial,(λ h=>nomatch h)⟩,⟨⟨Ys5,trivial,(λ h=>nomatch h)⟩,⟨⟨Yt5,trivial,(⟨rfl,rfl⟩)⟩,⟨⟨Yu5,trivial,(⟨rfl,rfl⟩)⟩,⟨⟨Yv5,trivial,(λ h=>nomatch h)⟩,⟨⟨Yw5,trivial,(λ _=>⟨_,rfl⟩)⟩,⟨⟨Yx5,trivial,(λ h=>nomatch h)⟩,⟨⟨Yy5,trivial,(λ h=>nomatch h)⟩,⟨⟨Yz5,trivial,(⟨rfl,rfl⟩)⟩,⟨⟨Ya6,trivial,(λ h=>nomatch h)⟩,⟨⟨Yb6,trivial,(λ h=>nomatch h)⟩,⟨⟨Yc6,trivial,(λ h=>nomatch h)⟩,⟨⟨Yd6,trivial,(λ h=>nomatch h)⟩,trivial⟩⟩⟩⟩⟩⟩⟩⟩⟩⟩⟩⟩⟩⟩⟩⟩⟩⟩⟩⟩⟩⟩⟩⟩⟩⟩⟩⟩⟩⟩⟩⟩⟩⟩⟩⟩⟩⟩⟩⟩⟩⟩⟩⟩⟩⟩⟩⟩⟩⟩⟩⟩⟩⟩⟩⟩
 fo:=⟨sf7,⟨sf8,⟨Xng,⟨Xog,⟨Xpg,⟨Xqg,⟨Xrg,⟨Xsg,⟨Xtg,⟨Xvg,⟨Xxg,⟨Xzg,⟨Xbh,⟨Xdh,⟨Xfh,⟨Xgh,⟨Xdd,⟨Xed,⟨Xfd,⟨Xhd,⟨Xjd,⟨Xld,⟨Xnd,⟨Xod,trivial⟩⟩⟩⟩⟩⟩⟩⟩⟩⟩⟩⟩⟩⟩⟩⟩⟩⟩⟩⟩⟩⟩⟩⟩
 ar:=⟨Xhh,⟨Xpd,⟨Xqd,⟨Xrd,trivial⟩⟩⟩⟩
 eq:=⟨.inr ⟨rfl,underlying4⟩,⟨.inl ⟨rfl,eqGuardType7,Cr.mono eq7 Af⟩,⟨.inl ⟨rfl,eqGuardType8,Cr.mono eq8 Af⟩,⟨.inl ⟨rfl,eqGuardType45,Cr.mono pL Af⟩,⟨.inl ⟨rfl,Ag,Cr.mono pM Af⟩,⟨.inl ⟨rfl,eqGuardType44,Cr.mono Xug Af⟩,⟨.inl ⟨rfl,eqGuardType46,Cr.mono Xwg Af⟩,⟨.inl ⟨rfl,eqGuardType47,Cr.mono Xyg Af⟩,⟨.inl ⟨rfl,Ag,Cr.mono Xah Af⟩,⟨.inl ⟨rfl,Ag,Cr.mono Xch Af⟩,⟨.inl ⟨rfl,Ag,Cr.mono Xeh Af⟩,⟨.inl ⟨rfl,Ag,Cr.mono Xgd Af⟩,⟨.inl ⟨rfl,Ag,Cr.mono Xid Af⟩,⟨.inl ⟨rfl,Ag,Cr.mono Xkd Af⟩,⟨.inl ⟨rfl,Ag,Cr.mono Xmd Af⟩,trivial⟩⟩⟩⟩⟩⟩⟩⟩⟩⟩⟩⟩⟩⟩⟩
 slf:=Ag
 byt:=⟨(λ h=>nomatch h),⟨(λ h=>nomatch h),⟨(λ h=>nomatch h),⟨(λ h=>nomatch h),⟨(λ h=>nomatch h),⟨(λ h=>nomatch h),⟨(λ h=>nomatch h),⟨(λ h=>nomatch h),⟨(λ h=>nomatch h),⟨(λ h=>nomatch h),⟨(λ h=>nomatch h),⟨(λ h=>nomatch h),⟨(λ h=>nomatch h),⟨(λ h=>nomatch h),⟨(λ h=>nomatch h),⟨(λ h=>nomatch h),⟨(λ h=>nomatch h),⟨(λ h=>nomatch h),⟨(λ h=>nomatch h),⟨(λ h=>nomatch h),⟨(λ h=>nomatch h),⟨(λ h=>nomatch h),⟨(λ h=>nomatch h),⟨(λ h=>nomatch h),⟨(λ h=>nomatch h),⟨(λ h=>nomatch h),⟨(λ h=>nomatch h),⟨(λ _=>underlying74),⟨(λ h=>nomatch h),⟨(λ h=>nomatch h),⟨(λ h=>nomatch h),⟨(λ h=>nomatch h),⟨(λ h=>nomatch h),⟨(λ h=>nomatch h),⟨(λ h=>nomatch h),⟨(λ h=>nomatch h),⟨(λ h=>nomatch h),⟨(λ h=>nomatch h),⟨(λ h=>nomatch h),⟨(λ h=>nomatch h),⟨(λ h=>nomatch h),⟨(λ h=>nomatch h),⟨(λ h=>nomatch h),⟨(λ h=>nomatch h),⟨(λ h=>nomatch h),⟨(λ h=>nomatch h),⟨(λ h=>nomatch h),⟨(λ h=>nomatch h),⟨(λ h=>nomatch h),⟨(λ h=>nomatch h),⟨(λ h=>nomatch h),⟨(λ h=>nomatch h),⟨(λ h=>nomatch h),⟨(λ h=>nomatch h),⟨(λ h=>nomatch h),⟨(λ h=>nomatch h),trivial⟩⟩⟩⟩⟩⟩⟩⟩⟩⟩⟩⟩⟩⟩⟩⟩⟩⟩⟩⟩⟩⟩⟩⟩⟩⟩⟩⟩⟩⟩⟩⟩⟩⟩⟩⟩⟩⟩⟩⟩⟩⟩⟩⟩⟩⟩⟩⟩⟩⟩⟩⟩⟩⟩⟩⟩
 mixed:=Ag
end Go.Proofs.YtclpadlpcfnfmaaGreat.Am
