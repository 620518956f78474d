import Derived.Test.YtclpadlpcfnfmaaGreatSLay
/- PRINTED by gen/types.py of this repo: what the seat's types are. -/
namespace Go.Proofs.YtclpadlpcfnfmaaGreat.Am
open Go.Proofs.Tryz
open Go.AM
@[reducible] def k2 : Ty := .int .i64
@[reducible] def k3 : Ty := .int .i64
@[reducible] def k4 : Ty := .bool
@[reducible] def k5 : Ty := .int .u8
@[reducible] def k6 : Ty := .int .u8
@[reducible] def k7 : Ty := .pair k2 (.pair k3 (.pair k4 k6))
@[reducible] def k8 : Ty := .pair k2 (.pair k3 (.pair k4 k6))
@[reducible] def k9 : Ty := .str
@[reducible] def k10 : Ty := .str
@[reducible] def k11 : Ty := .str
@[reducible] def R9 : Ty := .int .u64
@[reducible] def k13 : Ty := .pair k9 R9
@[reducible] def k14 : Ty := .pair k9 R9
@[reducible] def k21 : Ty := .int .i32
@[reducible] def NP : Ty := .pair k3 (.pair k3 k9)
@[reducible] def Sa : Ty := .sl NP
@[reducible] def NQ : Ty := .pair k3 k3
@[reducible] def Oo : Ty := .sl NQ
@[reducible] def k26 : Ty := .int .i64
@[reducible] def Jh : Ty := .sl k3
@[reducible] def k30 : Ty := .pair k3 (.pair Oo (.pair Jh Jh))
@[reducible] def k31 : Ty := .pair k3 (.pair Oo (.pair Jh Jh))
@[reducible] def fa : Ty := .pair k3 (.pair k3 k9)
@[reducible] def fb : Ty := .pair k3 NP
@[reducible] def MS : Ty := .pair k3 NP
@[reducible] def k64 : Ty := .int .u64
@[reducible] def fc : Ty := .pair k3 k3
@[reducible] def TO : Ty := .sl k5
@[reducible] def fe : Ty := .pair k3 (.pair k3 (.pair k3 k3))
@[reducible] def Pv : Ty := .pair k3 (.pair k3 (.pair k3 k3))
@[reducible] def k86 : Ty := .arr 3 k3
@[reducible] def k93 : Ty := .pair MS (.pair k9 Jh)
@[reducible] def k94 : Ty := .pair MS (.pair k9 Jh)
@[reducible] def Zrp : Ty := .sl k9
@[reducible] def Zsp : Ty := .sl k4
@[reducible] def Ztp : Ty := .pair Pv (.pair k9 (.pair k9 Sa))
@[reducible] def Zup : Ty := .pair Pv (.pair k9 (.pair k9 Sa))
@[reducible] def YE : Ty := .pair k3 (.pair k3 k3)
@[reducible] def Zvp : Ty := .sl YE
@[reducible] def en : Ty := .pair k3 (.pair k3 k3)
@[reducible] def eo : Ty := .pair NQ (.pair k4 k4)
@[reducible] def ep : Ty := .pair NQ (.pair k4 k4)
@[reducible] def Zwp : Ty := .int .u64
@[reducible] def Zxp : Ty := .int .i64
@[reducible] def Zyp : Ty := .int .u32
@[reducible] def Zzp : Ty := .arr 63 k4
@[reducible] def Zaq : Ty := .arr 63 k4
@[reducible] def Zbq : Ty := .int .u64
@[reducible] def Vy : Ty := .lk false
@[reducible] def Zcq : Ty := .pair Vy TO
@[reducible] def Zdq : Ty := .lk true
@[reducible] def Zeq : Ty := .lk true
@[reducible] def Zfq : Ty := .arr 9 k5
@[reducible] def Zgq : Ty := .int .u8
@[reducible] def Zhq : Ty := .int .u8
@[reducible] def Ziq : Ty := .int .i32
@[reducible] def Zjq : Ty := .int .i32
theorem Xig:prog.info? 2=some t2:=Ag
theorem pG:prog.info? 3=some t3:=Ag
theorem pH:prog.info? 4=some t4:=Ag
theorem pI:prog.info? 5=some t5:=Ag
theorem Xjg:prog.info? 6=some t6:=Ag
theorem Xkg:prog.info? 7=some t7:=Ag
theorem Xlg:prog.info? 8=some t8:=Ag
theorem pJ:prog.info? 9=some t9:=Ag
theorem Xsb:prog.info? 10=some t10:=Ag
theorem Xtb:prog.info? 11=some t11:=Ag
theorem Xub:prog.info? 12=some t12:=Ag
theorem Xvb:prog.info? 13=some t13:=Ag
theorem Xwb:prog.info? 14=some t14:=Ag
theorem Xxb:prog.info? 21=some t21:=Ag
theorem oG:prog.info? 45=some t45:=Ag
theorem Xyb:prog.info? 22=some t22:=Ag
theorem oH:prog.info? 67=some t67:=Ag
theorem Xzb:prog.info? 23=some t23:=Ag
theorem Xac:prog.info? 26=some t26:=Ag
theorem Xbc:prog.info? 29=some t29:=Ag
theorem Xcc:prog.info? 30=some t30:=Ag
theorem Xdc:prog.info? 31=some t31:=Ag
theorem Xec:prog.info? 44=some t44:=Ag
theorem Xfc:prog.info? 46=some t46:=Ag
theorem Xgc:prog.info? 47=some t47:=Ag
theorem Xhc:prog.info? 64=some t64:=Ag
theorem Xic:prog.info? 66=some t66:=Ag
theorem Xjc:prog.info? 74=some t74:=Ag
theorem Xkc:prog.info? 82=some t82:=Ag
theorem Xlc:prog.info? 83=some t83:=Ag
theorem Zwn:prog.info? 86=some t86:=Ag
theorem Xmc:prog.info? 93=some t93:=Ag
theorem Xnc:prog.info? 94=some t94:=Ag
theorem Yl4:prog.info? 104=some t104:=Ag
theorem Ym4:prog.info? 109=some t109:=Ag
theorem Yn4:prog.info? 127=some t127:=Ag
theorem Yo4:prog.info? 128=some t128:=Ag
theorem lT:prog.info? 142=some t142:=Ag
theorem Yp4:prog.info? 138=some t138:=Ag
theorem Yq4:prog.info? 141=some t141:=Ag
theorem Yr4:prog.info? 170=some t170:=Ag
theorem Ys4:prog.info? 171=some t171:=Ag
theorem Yt4:prog.info? 186=some t186:=Ag
theorem Yu4:prog.info? 216=some t216:=Ag
theorem Yv4:prog.info? 223=some t223:=Ag
theorem Zzg:prog.info? 226=some t226:=Ag
theorem Zah:prog.info? 227=some t227:=Ag
theorem Yw4:prog.info? 237=some t237:=Ag
theorem Yx4:prog.info? 251=some t251:=Ag
theorem Yy4:prog.info? 253=some t253:=Ag
theorem Yz4:prog.info? 254=some t254:=Ag
theorem Ya5:prog.info? 255=some t255:=Ag
theorem Zbh:prog.info? 265=some t265:=Ag
theorem Yb5:prog.info? 289=some t289:=Ag
theorem Yc5:prog.info? 290=some t290:=Ag
theorem Yd5:prog.info? 292=some t292:=Ag
theorem Ye5:prog.info? 293=some t293:=Ag
theorem YF:Fit prog 2 k2:=⟨⟨t2,Xig,rfl,rfl⟩,underlying2⟩
theorem eq2:Cr prog 1 2 k2:=eq_int underlying2
theorem Di:Fit prog 3 k3:=⟨⟨t3,pG,rfl,rfl⟩,underlying3⟩
theorem X6:Deep prog 3 k3:= .int underlying3
theorem Hu:Cr prog 1 3 k3:=eq_int underlying3
theorem Lx:Fit prog 4 k4:=⟨⟨t4,pH,rfl,rfl⟩,underlying4⟩
theorem VR:Cr prog 1 4 k4:=Yvy underlying4
theorem Zkq:Fit prog 5 k5:=⟨⟨t5,pI,rfl,rfl⟩,underlying5⟩
theorem YG:Fit prog 6 k6:=⟨⟨t6,Xjg,rfl,rfl⟩,underlying6⟩
theorem eq6:Cr prog 1 6 k6:=eq_int underlying6
theorem Xmg:Fit prog 7 k7:=⟨⟨t7,Xkg,rfl,rfl⟩,⟨_,underlying7,rfl⟩⟩
theorem sf7:SFact prog 7 [(0,k2),(1,k3),(2,k4),(3,k6)]:=⟨_,underlying7,⟨⟨rfl,YF⟩,⟨⟨rfl,Di⟩,⟨⟨rfl,Lx⟩,⟨⟨rfl,YG⟩,trivial⟩⟩⟩⟩⟩
theorem eq7:Cr prog 2 7 k7:=LW underlying7 stoodInHeld7 ⟨⟨Af,rfl,YF,Cr.mono eq2 Af⟩,⟨⟨Af,rfl,Di,Cr.mono Hu Af⟩,⟨⟨Af,rfl,Lx,Cr.mono VR Af⟩,⟨Af,rfl,YG,Cr.mono eq6 Af⟩⟩⟩⟩
theorem Xng:Fit prog 8 k8:=⟨⟨t8,Xlg,rfl,rfl⟩,⟨_,underlying8,rfl⟩⟩
theorem sf8:SFact prog 8 [(0,k2),(1,k3),(2,k4),(3,k6)]:=⟨_,underlying8,⟨⟨rfl,YF⟩,⟨⟨rfl,Di⟩,⟨⟨rfl,Lx⟩,⟨⟨rfl,YG⟩,trivial⟩⟩⟩⟩⟩
theorem eq8:Cr prog 2 8 k8:=LW underlying8 stoodInHeld8 ⟨⟨Af,rfl,YF,Cr.mono eq2 Af⟩,⟨⟨Af,rfl,Di,Cr.mono Hu Af⟩,⟨⟨Af,rfl,Lx,Cr.mono VR Af⟩,⟨Af,rfl,YG,Cr.mono eq6 Af⟩⟩⟩⟩
theorem MN:Fit prog 9 k9:=⟨⟨t9,pJ,rfl,rfl⟩,underlying9⟩
theorem Zfm:Deep prog 9 k9:= .str underlying9
theorem eq9:Cr prog 1 9 k9:=Yf5 underlying9
theorem Xoc:Fit prog 10 k10:=⟨⟨t10,Xsb,rfl,rfl⟩,underlying10⟩
theorem Xpc:Fit prog 11 k11:=⟨⟨t11,Xtb,rfl,rfl⟩,underlying11⟩
theorem oI:Fit prog 12 R9:=⟨⟨t12,Xub,rfl,rfl⟩,underlying12⟩
theorem Xqc:Fit prog 13 k13:=⟨⟨t13,Xvb,rfl,rfl⟩,⟨_,underlying13,rfl⟩⟩
theorem Xog:SFact prog 13 [(0,k9),(1,R9)]:=⟨_,underlying13,⟨⟨rfl,MN⟩,⟨⟨rfl,oI⟩,trivial⟩⟩⟩
theorem Xrc:Fit prog 14 k14:=⟨⟨t14,Xwb,rfl,rfl⟩,⟨_,underlying14,rfl⟩⟩
theorem Xpg:SFact prog 14 [(0,k9),(1,R9)]:=⟨_,underlying14,⟨⟨rfl,MN⟩,⟨⟨rfl,oI⟩,trivial⟩⟩⟩
theorem Xsc:Fit prog 21 k21:=⟨⟨t21,Xxb,rfl,rfl⟩,underlying21⟩
theorem X7:Fit prog 45 NP:=⟨⟨t45,oG,rfl,rfl⟩,⟨_,underlying45,rfl⟩⟩
theorem Xqg:SFact prog 45 [(0,k3),(1,k3),(2,k9)]:=⟨_,underlying45,⟨⟨rfl,Di⟩,⟨⟨rfl,Di⟩,⟨⟨rfl,MN⟩,trivial⟩⟩⟩⟩
theorem Yg5:Deep prog 45 NP:= .pair underlying45 Ag (DeepF.cons rfl Ag X6 (DeepF.cons rfl Ag X6 (DeepF.last rfl Ag Zfm)))
theorem pK:Cr prog 2 45 NP:=LW underlying45 stoodInHeld45 ⟨⟨Af,rfl,Di,Cr.mono Hu Af⟩,⟨⟨Af,rfl,Di,Cr.mono Hu Af⟩,⟨Af,rfl,MN,Cr.mono eq9 Af⟩⟩⟩
theorem oJ:Fit prog 22 Sa:=⟨⟨t22,Xyb,rfl,rfl⟩,⟨45,t45,underlying22,oG,rfl,rfl,(λ _ h=>nomatch h),(λ h=>nomatch h)⟩⟩
theorem X8:Fit prog 67 NQ:=⟨⟨t67,oH,rfl,rfl⟩,⟨_,underlying67,rfl⟩⟩
theorem Xrg:SFact prog 67 [(0,k3),(1,k3)]:=⟨_,underlying67,⟨⟨rfl,Di⟩,⟨⟨rfl,Di⟩,trivial⟩⟩⟩
theorem Yh5:Deep prog 67 NQ:= .pair underlying67 Ag (DeepF.cons rfl Ag X6 (DeepF.last rfl Ag X6))
theorem pL:Cr prog 2 67 NQ:=LW underlying67 Ag ⟨⟨Af,rfl,Di,Cr.mono Hu Af⟩,⟨Af,rfl,Di,Cr.mono Hu Af⟩⟩
theorem oK:Fit prog 23 Oo:=⟨⟨t23,Xzb,rfl,rfl⟩,⟨67,t67,underlying23,oH,rfl,rfl,(λ _ h=>nomatch h),(λ h=>nomatch h)⟩⟩
theorem Ye3:Deep prog 23 Oo:= .sl underlying23 Ag Yh5
theorem Xtc:Fit prog 26 k26:=⟨⟨t26,Xac,rfl,rfl⟩,underlying26⟩
theorem Tc:Fit prog 29 Jh:=⟨⟨t29,Xbc,rfl,rfl⟩,⟨3,t3,underlying29,pG,rfl,rfl,(λ k h=>by cases h;exact underlying3),(λ h=>nomatch h)⟩⟩
theorem Xuc:Fit prog 30 k30:=⟨⟨t30,Xcc,rfl,rfl⟩,⟨_,underlying30,rfl⟩⟩
theorem Xsg:SFact prog 30 [(0,k3),(1,Oo),(2,Jh),(3,Jh)]:=⟨_,underlying30,⟨⟨rfl,Di⟩,⟨⟨rfl,oK⟩,⟨⟨rfl,Tc⟩,⟨⟨rfl,Tc⟩,trivial⟩⟩⟩⟩⟩
theorem Xvc:Fit prog 31 k31:=⟨⟨t31,Xdc,rfl,rfl⟩,⟨_,underlying31,rfl⟩⟩
theorem Xtg:SFact prog 31 [(0,k3),(1,Oo),(2,Jh),(3,Jh)]:=⟨_,underlying31,⟨⟨rfl,Di⟩,⟨⟨rfl,oK⟩,⟨⟨rfl,Tc⟩,⟨⟨rfl,Tc⟩,trivial⟩⟩⟩⟩⟩
theorem Xwc:Fit prog 44 fa:=⟨⟨t44,Xec,rfl,rfl⟩,⟨_,underlying44,rfl⟩⟩
theorem Xug:SFact prog 44 [(0,k3),(1,k3),(2,k9)]:=⟨_,underlying44,⟨⟨rfl,Di⟩,⟨⟨rfl,Di⟩,⟨⟨rfl,MN⟩,trivial⟩⟩⟩⟩
theorem Xvg:Cr prog 2 44 fa:=LW underlying44 stoodInHeld44 ⟨⟨Af,rfl,Di,Cr.mono Hu Af⟩,⟨⟨Af,rfl,Di,Cr.mono Hu Af⟩,⟨Af,rfl,MN,Cr.mono eq9 Af⟩⟩⟩
theorem Xxc:Fit prog 46 fb:=⟨⟨t46,Xfc,rfl,rfl⟩,⟨_,underlying46,rfl⟩⟩
theorem Xwg:SFact prog 46 [(0,k3),(1,NP)]:=⟨_,underlying46,⟨⟨rfl,Di⟩,⟨⟨rfl,X7⟩,trivial⟩⟩⟩
theorem Xxg:Cr prog 3 46 fb:=LW underlying46 stoodInHeld46 ⟨⟨Af,rfl,Di,Cr.mono Hu Af⟩,⟨Af,rfl,X7,Cr.mono pK Af⟩⟩
theorem oL:Fit prog 47 MS:=⟨⟨t47,Xgc,rfl,rfl⟩,⟨_,underlying47,rfl⟩⟩
theorem Xyg:SFact prog 47 [(0,k3),(1,NP)]:=⟨_,underlying47,⟨⟨rfl,Di⟩,⟨⟨rfl,X7⟩,trivial⟩⟩⟩
theorem Yd3:Deep prog 47 MS:= .pair underlying47 Ag (DeepF.cons rfl Ag X6 (DeepF.last rfl Ag Yg5))
theorem Xzg:Cr prog 3 47 MS:=LW underlying47 stoodInHeld47 ⟨⟨Af,rfl,Di,Cr.mono Hu Af⟩,⟨Af,rfl,X7,Cr.mono pK Af⟩⟩
theorem Xyc:Fit prog 64 k64:=⟨⟨t64,Xhc,rfl,rfl⟩,underlying64⟩
theorem Xzc:Fit prog 66 fc:=⟨⟨t66,Xic,rfl,rfl⟩,⟨_,underlying66,rfl⟩⟩
theorem Xah:SFact prog 66 [(0,k3),(1,k3)]:=⟨_,underlying66,⟨⟨rfl,Di⟩,⟨⟨rfl,Di⟩,trivial⟩⟩⟩
theorem Xbh:Cr prog 2 66 fc:=LW underlying66 Ag ⟨⟨Af,rfl,Di,Cr.mono Hu Af⟩,⟨Af,rfl,Di,Cr.mono Hu Af⟩⟩
theorem oM:Fit prog 74 TO:=⟨⟨t74,Xjc,rfl,rfl⟩,⟨5,t5,underlying74,pI,rfl,rfl,(λ k h=>by cases h;exact underlying5),(λ _=>rfl)⟩⟩
theorem Xad:Fit prog 82 fe:=⟨⟨t82,Xkc,rfl,rfl⟩,⟨_,underlying82,rfl⟩⟩
theorem Xch:SFact prog 82 [(0,k3),(1,k3),(2,k3),(3,k3)]:=⟨_,underlying82,⟨⟨rfl,Di⟩,⟨⟨rfl,Di⟩,⟨⟨rfl,Di⟩,⟨⟨rfl,Di⟩,trivial⟩⟩⟩⟩⟩
theorem Xdh:Cr prog 2 82 fe:=LW underlying82 Ag ⟨⟨Af,rfl,Di,Cr.mono Hu Af⟩,⟨⟨Af,rfl,Di,Cr.mono Hu Af⟩,⟨⟨Af,rfl,Di,Cr.mono Hu Af⟩,⟨Af,rfl,Di,Cr.mono Hu Af⟩⟩⟩⟩
theorem oN:Fit prog 83 Pv:=⟨⟨t83,Xlc,rfl,rfl⟩,⟨_,underlying83,rfl⟩⟩
theorem Xeh:SFact prog 83 [(0,k3),(1,k3),(2,k3),(3,k3)]:=⟨_,underlying83,⟨⟨rfl,Di⟩,⟨⟨rfl,Di⟩,⟨⟨rfl,Di⟩,⟨⟨rfl,Di⟩,trivial⟩⟩⟩⟩⟩
theorem Xfh:Cr prog 2 83 Pv:=LW underlying83 Ag ⟨⟨Af,rfl,Di,Cr.mono Hu Af⟩,⟨⟨Af,rfl,Di,Cr.mono Hu Af⟩,⟨⟨Af,rfl,Di,Cr.mono Hu Af⟩,⟨Af,rfl,Di,Cr.mono Hu Af⟩⟩⟩⟩
theorem Xbd:Fit prog 86 k86:=⟨⟨t86,Zwn,rfl,Ag⟩,⟨_,underlying86,rfl⟩⟩
theorem Xcd:Fit prog 93 k93:=⟨⟨t93,Xmc,rfl,rfl⟩,⟨_,underlying93,rfl⟩⟩
theorem Xgh:SFact prog 93 [(0,MS),(4,k9),(5,Jh)]:=⟨_,underlying93,⟨⟨rfl,oL⟩,⟨⟨rfl,MN⟩,⟨⟨rfl,Tc⟩,trivial⟩⟩⟩⟩
theorem Xdd:Fit prog 94 k94:=⟨⟨t94,Xnc,rfl,rfl⟩,⟨_,underlying94,rfl⟩⟩
theorem Xhh:SFact prog 94 [(0,MS),(4,k9),(5,Jh)]:=⟨_,underlying94,⟨⟨rfl,oL⟩,⟨⟨rfl,MN⟩,⟨⟨rfl,Tc⟩,trivial⟩⟩⟩⟩
theorem Yi5:Fit prog 104 Zrp:=⟨⟨t104,Yl4,rfl,rfl⟩,⟨9,t9,underlying104,pJ,rfl,rfl,(λ _ h=>nomatch h),(λ h=>nomatch h)⟩⟩
theorem Yj5:Fit prog 109 Zsp:=⟨⟨t109,Ym4,rfl,rfl⟩,⟨4,t4,underlying109,pH,rfl,rfl,(λ _ h=>nomatch h),(λ h=>nomatch h)⟩⟩
theorem Yk5:Fit prog 127 Ztp:=⟨⟨t127,Yn4,rfl,rfl⟩,⟨_,underlying127,rfl⟩⟩
theorem Xed:SFact prog 127 [(0,Pv),(4,k9),(5,k9),(6,Sa)]:=⟨_,underlying127,⟨⟨rfl,oN⟩,⟨⟨rfl,MN⟩,⟨⟨rfl,MN⟩,⟨⟨rfl,oJ⟩,trivial⟩⟩⟩⟩⟩
theorem Yl5:Fit prog 128 Zup:=⟨⟨t128,Yo4,rfl,rfl⟩,⟨_,underlying128,rfl⟩⟩
theorem Xfd:SFact prog 128 [(0,Pv),(4,k9),(5,k9),(6,Sa)]:=⟨_,underlying128,⟨⟨rfl,oN⟩,⟨⟨rfl,MN⟩,⟨⟨rfl,MN⟩,⟨⟨rfl,oJ⟩,trivial⟩⟩⟩⟩⟩
theorem Ym5:Fit prog 142 YE:=⟨⟨t142,lT,rfl,rfl⟩,⟨_,underlying142,rfl⟩⟩
theorem Xgd:SFact prog 142 [(0,k3),(1,k3),(2,k3)]:=⟨_,underlying142,⟨⟨rfl,Di⟩,⟨⟨rfl,Di⟩,⟨⟨rfl,Di⟩,trivial⟩⟩⟩⟩
theorem Xhd:Cr prog 2 142 YE:=LW underlying142 Ag ⟨⟨Af,rfl,Di,Cr.mono Hu Af⟩,⟨⟨Af,rfl,Di,Cr.mono Hu Af⟩,⟨Af,rfl,Di,Cr.mono Hu Af⟩⟩⟩
theorem Yn5:Fit prog 138 Zvp:=⟨⟨t138,Yp4,rfl,rfl⟩,⟨142,t142,underlying138,lT,rfl,rfl,(λ _ h=>nomatch h),(λ h=>nomatch h)⟩⟩
theorem Yo5:Fit prog 141 en:=⟨⟨t141,Yq4,rfl,rfl⟩,⟨_,underlying141,rfl⟩⟩
theorem Xid:SFact prog 141 [(0,k3),(1,k3),(2,k3)]:=⟨_,underlying141,⟨⟨rfl,Di⟩,⟨⟨rfl,Di⟩,⟨⟨rfl,Di⟩,trivial⟩⟩⟩⟩
theorem Xjd:Cr prog 2 141 en:=LW underlying141 Ag ⟨⟨Af,rfl,Di,Cr.mono Hu Af⟩,⟨⟨Af,rfl,Di,Cr.mono Hu Af⟩,⟨Af,rfl,Di,Cr.mono Hu Af⟩⟩⟩
theorem Yp5:Fit prog 170 eo:=⟨⟨t170,Yr4,rfl,rfl⟩,⟨_,underlying170,rfl⟩⟩
theorem Xkd:SFact prog 170 [(0,NQ),(2,k4),(3,k4)]:=⟨_,underlying170,⟨⟨rfl,X8⟩,⟨⟨rfl,Lx⟩,⟨⟨rfl,Lx⟩,trivial⟩⟩⟩⟩
theorem Xld:Cr prog 3 170 eo:=LW underlying170 Ag ⟨⟨Af,rfl,X8,Cr.mono pL Af⟩,⟨⟨Af,rfl,Lx,Cr.mono VR Af⟩,⟨Af,rfl,Lx,Cr.mono VR Af⟩⟩⟩
theorem Yq5:Fit prog 171 ep:=⟨⟨t171,Ys4,rfl,rfl⟩,⟨_,underlying171,rfl⟩⟩
theorem Xmd:SFact prog 171 [(0,NQ),(2,k4),(3,k4)]:=⟨_,underlying171,⟨⟨rfl,X8⟩,⟨⟨rfl,Lx⟩,⟨⟨rfl,Lx⟩,trivial⟩⟩⟩⟩
theorem Xnd:Cr prog 3 171 ep:=LW underlying171 Ag ⟨⟨Af,rfl,X8,Cr.mono pL Af⟩,⟨⟨Af,rfl,Lx,Cr.mono VR Af⟩,⟨Af,rfl,Lx,Cr.mono VR Af⟩⟩⟩
theorem Yr5:Fit prog 186 Zwp:=⟨⟨t186,Yt4,rfl,rfl⟩,underlying186⟩
theorem Ys5:Fit prog 216 Zxp:=⟨⟨t216,Yu4,rfl,rfl⟩,underlying216⟩
theorem Yt5:Fit prog 223 Zyp:=⟨⟨t223,Yv4,rfl,rfl⟩,underlying223⟩
theorem Yu5:Fit prog 226 Zzp:=⟨⟨t226,Zzg,rfl,Ag⟩,⟨_,underlying226,rfl⟩⟩
theorem Yv5:Fit prog 227 Zaq:=⟨⟨t227,Zah,rfl,Ag⟩,⟨_,underlying227,rfl⟩⟩
theorem Yw5:Fit prog 237 Zbq:=⟨⟨t237,Yw4,rfl,rfl⟩,underlying237⟩
theorem Zch:Fit prog 251 Vy:=⟨⟨t251,Yx4,rfl,Ag⟩,⟨_,underlying251⟩⟩
theorem Xod:SFact prog 252 [(0,Vy),(1,TO)]:=⟨_,underlying252,⟨⟨rfl,Zch⟩,⟨⟨rfl,oM⟩,trivial⟩⟩⟩
theorem Yx5:Fit prog 253 Zcq:=⟨⟨t253,Yy4,rfl,rfl⟩,⟨_,underlying253,rfl⟩⟩
theorem Xpd:SFact prog 253 [(0,Vy),(1,TO)]:=⟨_,underlying253,⟨⟨rfl,Zch⟩,⟨⟨rfl,oM⟩,trivial⟩⟩⟩
theorem Yy5:Fit prog 254 Zdq:=⟨⟨t254,Yz4,rfl,Ag⟩,(show prog.underlying 254=some (.interface (prog.methodsAt 254)) by kernel_rfl)⟩
theorem Yz5:Fit prog 255 Zeq:=⟨⟨t255,Ya5,rfl,Ag⟩,(show prog.underlying 255=some (.interface (prog.methodsAt 255)) by kernel_rfl)⟩
theorem Ya6:Fit prog 265 Zfq:=⟨⟨t265,Zbh,rfl,Ag⟩,⟨_,underlying265,rfl⟩⟩
theorem Yb6:Fit prog 289 Zgq:=⟨⟨t289,Yb5,rfl,rfl⟩,underlying289⟩
theorem Yc6:Fit prog 290 Zhq:=⟨⟨t290,Yc5,rfl,rfl⟩,underlying290⟩
theorem Yd6:Fit prog 292 Ziq:=⟨⟨t292,Yd5,rfl,rfl⟩,underlying292⟩
theorem Ye6:Fit prog 293 Zjq:=⟨⟨t293,Ye5,rfl,rfl⟩,underlying293⟩
theorem Xih:ArFact prog 86 4 k3:=⟨3,underlying86,Di,Af,t86,Zwn,Ag⟩
theorem Xqd:ArFact prog 226 64 k4:=⟨4,underlying226,Lx,Af,t226,Zzg,Ag⟩
theorem Xrd:ArFact prog 227 64 k4:=⟨4,underlying227,Lx,Af,t227,Zah,Ag⟩
theorem Xsd:ArFact prog 265 10 k5:=⟨5,underlying265,Zkq,Af,t265,Zbh,Ag⟩
@[reducible] def BY : Tab where
 ty:=[(2,k2),(3,k3),(4,k4),(5,k5),(6,k6),(7,k7),(8,k8),(9,k9),(10,k10),(11,k11),(12,R9),(13,k13),(14,k14),(21,k21),(45,NP),(22,Sa),(67,NQ),(23,Oo),(26,k26),(29,Jh),(30,k30),(31,k31),(44,fa),(46,fb),(47,MS),(64,k64),(66,fc),(74,TO),(82,fe),(83,Pv),(86,k86),(93,k93),(94,k94),(104,Zrp),(109,Zsp),(127,Ztp),(128,Zup),(142,YE),(138,Zvp),(141,en),(170,eo),(171,ep),(186,Zwp),(216,Zxp),(223,Zyp),(226,Zzp),(227,Zaq),(237,Zbq),(253,Zcq),(254,Zdq),(255,Zeq),(265,Zfq),(289,Zgq),(290,Zhq),(292,Ziq),(293,Zjq)]
 fo:=[(7,[(0,k2),(1,k3),(2,k4),(3,k6)]),(8,[(0,k2),(1,k3),(2,k4),(3,k6)]),(13,[(0,k9),(1,R9)]),(14,[(0,k9),(1,R9)]),(45,[(0,k3),(1,k3),(2,k9)]),(67,[(0,k3),(1,k3)]),(30,[(0,k3),(1,Oo),(2,Jh),(3,Jh)]),(31,[(0,k3),(1,Oo),(2,Jh),(3,Jh)]),(44,[(0,k3),(1,k3),(2,k9)]),(46,[(0,k3),(1,NP)]),(47,[(0,k3),(1,NP)]),(66,[(0,k3),(1,k3)]),(82,[(0,k3),(1,k3),(2,k3),(3,k3)]),(83,[(0,k3),(1,k3),(2,k3),(3,k3)]),(93,[(0,MS),(4,k9),(5,Jh)]),(94,[(0,MS),(4,k9),(5,Jh)]),(127,[(0,Pv),(4,k9),(5,k9),(6,Sa)]),(128,[(0,Pv),(4,k9),(5,k9),(6,Sa)]),(142,[(0,k3),(1,k3),(2,k3)]),(141,[(0,k3),(1,k3),(2,k3)]),(170,[(0,NQ),(2,k4),(3,k4)]),(171,[(0,NQ),(2,k4),(3,k4)]),(252,[(0,Vy),(1,TO)]),(253,[(0,Vy),(1,TO)])]
 ar:=[(86,(4,k3)),(226,(64,k4)),(227,(64,k4)),(265,(10,k5))]
 by_:=[(22,32),(23,16),(29,8),(74,1),(104,16),(109,1),(138,24)]
 eq:=[(4,k4),(7,k7),(8,k8),(45,NP),(67,NQ),(44,fa),(46,fb),(47,MS),(66,fc),(82,fe),(83,Pv),(142,YE),(141,en),(170,eo),(171,ep)]
theorem Bo:TabOk prog BY where
 ty:=⟨⟨YF,trivial,(λ h=>nomatch h)⟩,⟨⟨Di,trivial,(λ h=>nomatch h)⟩,⟨⟨Lx,trivial,(λ h=>nomatch h)⟩,⟨⟨Zkq,trivial,(λ h=>nomatch h)⟩,⟨⟨YG,trivial,(λ h=>nomatch h)⟩,⟨⟨Xmg,trivial,(λ _=>⟨_,rfl⟩)⟩,⟨⟨Xng,trivial,(λ _=>⟨_,rfl⟩)⟩,⟨⟨MN,trivial,(λ h=>nomatch h)⟩,⟨⟨Xoc,trivial,(λ h=>nomatch h)⟩,⟨⟨Xpc,trivial,(λ h=>nomatch h)⟩,⟨⟨oI,trivial,(λ h=>nomatch h)⟩,⟨⟨Xqc,trivial,(λ _=>⟨_,rfl⟩)⟩,⟨⟨Xrc,trivial,(λ _=>⟨_,rfl⟩)⟩,⟨⟨Xsc,trivial,(λ h=>nomatch h)⟩,⟨⟨X7,trivial,(λ _=>⟨_,rfl⟩)⟩,⟨⟨oJ,⟨45,t45,underlying22,oG,rfl,Af⟩,(λ h=>nomatch h)⟩,⟨⟨X8,trivial,(λ _=>⟨_,rfl⟩)⟩,⟨⟨oK,⟨67,t67,underlying23,oH,rfl,Af⟩,(λ h=>nomatch h)⟩,⟨⟨Xtc,trivial,(λ h=>nomatch h)⟩,⟨⟨Tc,⟨3,t3,underlying29,pG,rfl,Af⟩,(λ h=>nomatch h)⟩,⟨⟨Xuc,trivial,(λ _=>⟨_,rfl⟩)⟩,⟨⟨Xvc,trivial,(λ _=>⟨_,rfl⟩)⟩,⟨⟨Xwc,trivial,(λ _=>⟨_,rfl⟩)⟩,⟨⟨Xxc,trivial,(λ _=>⟨_,rfl⟩)⟩,⟨⟨oL,trivial,(λ _=>⟨_,rfl⟩)⟩,⟨⟨Xyc,trivial,(λ h=>nomatch h)⟩,⟨⟨Xzc,trivial,(λ _=>⟨_,rfl⟩)⟩,⟨⟨oM,⟨5,t5,underlying74,pI,rfl,Af⟩,(λ h=>nomatch h)⟩,⟨⟨Xad,trivial,(λ _=>⟨_,rfl⟩)⟩,⟨⟨oN,trivial,(λ _=>⟨_,rfl⟩)⟩,⟨⟨Xbd,trivial,(⟨rfl,rfl⟩)⟩,⟨⟨Xcd,trivial,(λ _=>⟨_,rfl⟩)⟩,⟨⟨Xdd,trivial,(λ _=>⟨_,rfl⟩)⟩,⟨⟨Yi5,⟨9,t9,underlying104,pJ,rfl,Af⟩,(λ h=>nomatch h)⟩,⟨⟨Yj5,⟨4,t4,underlying109,pH,rfl,Af⟩,(λ h=>nomatch h)⟩,⟨⟨Yk5,trivial,(λ _=>⟨_,rfl⟩)⟩,⟨⟨Yl5,trivial,(λ _=>⟨_,rfl⟩)⟩,⟨⟨Ym5,trivial,(λ _=>⟨_,rfl⟩)⟩,⟨⟨Yn5,⟨142,t142,underlying138,lT,rfl,Af⟩,(λ h=>nomatch h)⟩,⟨⟨Yo5,trivial,(λ _=>⟨_,rfl⟩)⟩,⟨⟨Yp5,trivial,(λ _=>⟨_,rfl⟩)⟩,⟨⟨Yq5,trivial,(λ _=>⟨_,rfl⟩)⟩,⟨⟨Yr5,trivial,(λ h=>nomatch h)⟩,⟨⟨Ys5,trivial,(λ h=>nomatch h)⟩,⟨⟨Yt5,trivial,(λ h=>nomatch h)⟩,⟨⟨Yu5,trivial,(⟨rfl,rfl⟩)⟩,⟨⟨Yv5,trivial,(⟨rfl,rfl⟩)⟩,⟨⟨Yw5,trivial,(λ h=>nomatch h)⟩,⟨⟨Yx5,trivial,(λ _=>⟨_,rfl⟩)⟩,⟨⟨Yy5,trivial,(λ h=>nomatch h)⟩,⟨⟨Yz5,trivial,(λ h=>nomatch h)⟩,⟨⟨Ya6,trivial,(⟨rfl,rfl⟩)⟩,⟨⟨Yb6,trivial,(λ h=>nomatch h)⟩,⟨⟨Yc6,trivial,(λ h=>nomatch h)⟩,⟨⟨Yd6,trivial,(λ h=>nomatch h)⟩,⟨⟨Ye6,trivial,(λ h=>nomatch h)⟩,trivial⟩⟩⟩⟩⟩⟩⟩⟩⟩⟩⟩⟩⟩⟩⟩⟩⟩⟩⟩⟩⟩⟩⟩⟩⟩⟩⟩⟩⟩⟩⟩⟩⟩⟩⟩⟩⟩⟩⟩⟩⟩⟩⟩⟩⟩⟩⟩⟩⟩⟩⟩⟩⟩⟩⟩⟩
 fo:=⟨sf7,⟨sf8,⟨Xog,⟨Xpg,⟨Xqg,⟨Xrg,⟨Xsg,⟨Xtg,⟨Xug,⟨Xwg,⟨Xyg,⟨Xah,⟨Xch,⟨Xeh,⟨Xgh,⟨Xhh,⟨Xed,⟨Xfd,⟨Xgd,⟨Xid,⟨Xkd,⟨Xmd,⟨Xod,⟨Xpd,trivial⟩⟩⟩⟩⟩⟩⟩⟩⟩⟩⟩⟩⟩⟩⟩⟩⟩⟩⟩⟩⟩⟩⟩⟩
 ar:=⟨Xih,⟨Xqd,⟨Xrd,⟨Xsd,trivial⟩⟩⟩⟩
 eq:=⟨.inr ⟨rfl,underlying4⟩,⟨.inl ⟨rfl,eqGuardType7,Cr.mono eq7 Af⟩,⟨.inl ⟨rfl,eqGuardType8,Cr.mono eq8 Af⟩,⟨.inl ⟨rfl,eqGuardType45,Cr.mono pK Af⟩,⟨.inl ⟨rfl,Ag,Cr.mono pL Af⟩,⟨.inl ⟨rfl,eqGuardType44,Cr.mono Xvg Af⟩,⟨.inl ⟨rfl,eqGuardType46,Cr.mono Xxg Af⟩,⟨.inl ⟨rfl,eqGuardType47,Cr.mono Xzg Af⟩,⟨.inl ⟨rfl,Ag,Cr.mono Xbh Af⟩,⟨.inl ⟨rfl,Ag,Cr.mono Xdh Af⟩,⟨.inl ⟨rfl,Ag,Cr.mono Xfh Af⟩,⟨.inl ⟨rfl,Ag,Cr.mono Xhd Af⟩,⟨.inl ⟨rfl,Ag,Cr.mono Xjd Af⟩,⟨.inl ⟨rfl,Ag,Cr.mono Xld Af⟩,⟨.inl ⟨rfl,Ag,Cr.mono Xnd Af⟩,trivial⟩⟩⟩⟩⟩⟩⟩⟩⟩⟩⟩⟩⟩⟩⟩
 slf:=Ag
 byt:=⟨(λ h=>nomatch h),⟨(λ h=>nomatch h),⟨(λ h=>nomatch h),⟨(λ h=>nomatch h),⟨(λ h=>nomatch h),⟨(λ h=>nomatch h),⟨(λ h=>nomatch h),⟨(λ h=>nomatch h),⟨(λ h=>nomatch h),⟨(λ h=>nomatch h),⟨(λ h=>nomatch h),⟨(λ h=>nomatch h),⟨(λ h=>nomatch h),⟨(λ h=>nomatch h),⟨(λ h=>nomatch h),⟨(λ h=>nomatch h),⟨(λ h=>nomatch h),⟨(λ h=>nomatch h),⟨(λ h=>nomatch h),⟨(λ h=>nomatch h),⟨(λ h=>nomatch h),⟨(λ h=>nomatch h),⟨(λ h=>nomatch h),⟨(λ h=>nomatch h),⟨(λ h=>nomatch h),⟨(λ h=>nomatch h),⟨(λ h=>nomatch h),⟨(λ _=>underlying74),⟨(λ h=>nomatch h),⟨(λ h=>nomatch h),⟨(λ h=>nomatch h),⟨(λ h=>nomatch h),⟨(λ h=>nomatch h),⟨(λ h=>nomatch h),⟨(λ h=>nomatch h),⟨(λ h=>nomatch h),⟨(λ h=>nomatch h),⟨(λ h=>nomatch h),⟨(λ h=>nomatch h),⟨(λ h=>nomatch h),⟨(λ h=>nomatch h),⟨(λ h=>nomatch h),⟨(λ h=>nomatch h),⟨(λ h=>nomatch h),⟨(λ h=>nomatch h),⟨(λ h=>nomatch h),⟨(λ h=>nomatch h),⟨(λ h=>nomatch h),⟨(λ h=>nomatch h),⟨(λ h=>nomatch h),⟨(λ h=>nomatch h),⟨(λ h=>nomatch h),⟨(λ h=>nomatch h),⟨(λ h=>nomatch h),⟨(λ h=>nomatch h),⟨(λ h=>nomatch h),trivial⟩⟩⟩⟩⟩⟩⟩⟩⟩⟩⟩⟩⟩⟩⟩⟩⟩⟩⟩⟩⟩⟩⟩⟩⟩⟩⟩⟩⟩⟩⟩⟩⟩⟩⟩⟩⟩⟩⟩⟩⟩⟩⟩⟩⟩⟩⟩⟩⟩⟩⟩⟩⟩⟩⟩⟩
 mixed:=Ag
end Go.Proofs.YtclpadlpcfnfmaaGreat.Am
