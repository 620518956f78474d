import Derived.Test.YtlamhllcnbcbbaaGreatAmGen
import Derived.Test.YtlamhllcnbcbbaaGreatSLay
import Derived.Test.YtlamhllcnbcbbaaGreatProg
import Derived.KernelRfl
/- PRINTED by gen/types.py of this repo: what the seat's types are. -/
namespace Go.Proofs.YtlamhllcnbcbbaaGreat.Am
open Go.AM
@[reducible] def k2 : Ty := .int .i64
@[reducible] def k3 : Ty := .int .i64
@[reducible] def k4 : Ty := .bool
@[reducible] def k5 : Ty := .int .u8
@[reducible] def k6 : Ty := .int .u8
@[reducible] def k7 : Ty := .pair k2 (.pair k3 (.pair k4 k6))
@[reducible] def k8 : Ty := .pair k2 (.pair k3 (.pair k4 k6))
@[reducible] def k9 : Ty := .str
@[reducible] def k10 : Ty := .str
@[reducible] def k11 : Ty := .str
@[reducible] def k12 : Ty := .int .u64
@[reducible] def k13 : Ty := .pair k9 k12
@[reducible] def k14 : Ty := .pair k9 k12
@[reducible] def k21 : Ty := .int .i32
@[reducible] def k34 : Ty := .pair k3 (.pair k3 k9)
@[reducible] def k22 : Ty := .sl k34
@[reducible] def k25 : Ty := .int .i64
@[reducible] def k32 : Ty := .sl k3
@[reducible] def k33 : Ty := .pair k3 (.pair k3 k9)
@[reducible] def k36 : Ty := .pair k3 (.pair k3 (.pair k3 k3))
@[reducible] def k37 : Ty := .pair k3 (.pair k3 (.pair k3 k3))
@[reducible] def k46 : Ty := .sl k5
@[reducible] def k47 : Ty := .int .u64
@[reducible] def k53 : Ty := .pair k37 (.pair k9 (.pair k9 k22))
@[reducible] def k54 : Ty := .pair k37 (.pair k9 (.pair k9 k22))
@[reducible] def k63 : Ty := .sl k9
@[reducible] def k74 : Ty := .int .u32
@[reducible] def k111 : Ty := .pair k3 (.pair k3 k3)
@[reducible] def k85 : Ty := .sl k111
@[reducible] def k96 : Ty := .int .u64
@[reducible] def k110 : Ty := .pair k3 (.pair k3 k3)
@[reducible] def k120 : Ty := .lk false
@[reducible] def k122 : Ty := .pair k120 k46
@[reducible] def k123 : Ty := .lk true
@[reducible] def k124 : Ty := .lk true
@[reducible] def k136 : Ty := .arr 9 k5
@[reducible] def k146 : Ty := .arr 63 k4
@[reducible] def k147 : Ty := .arr 63 k4
@[reducible] def k165 : Ty := .int .i64
@[reducible] def k176 : Ty := .sl k4
@[reducible] def k183 : Ty := .int .u64
@[reducible] def k210 : Ty := .int .u8
@[reducible] def k211 : Ty := .int .u8
@[reducible] def k213 : Ty := .int .i32
@[reducible] def k214 : Ty := .int .i32
theorem inf2:Tryz.prog.info? 2=some Tryz.t2:=by kernel_rfl
theorem inf3:Tryz.prog.info? 3=some Tryz.t3:=by kernel_rfl
theorem inf4:Tryz.prog.info? 4=some Tryz.t4:=by kernel_rfl
theorem inf5:Tryz.prog.info? 5=some Tryz.t5:=by kernel_rfl
theorem inf6:Tryz.prog.info? 6=some Tryz.t6:=by kernel_rfl
theorem inf7:Tryz.prog.info? 7=some Tryz.t7:=by kernel_rfl
theorem inf8:Tryz.prog.info? 8=some Tryz.t8:=by kernel_rfl
theorem inf9:Tryz.prog.info? 9=some Tryz.t9:=by kernel_rfl
theorem inf10:Tryz.prog.info? 10=some Tryz.t10:=by kernel_rfl
theorem inf11:Tryz.prog.info? 11=some Tryz.t11:=by kernel_rfl
theorem inf12:Tryz.prog.info? 12=some Tryz.t12:=by kernel_rfl
theorem inf13:Tryz.prog.info? 13=some Tryz.t13:=by kernel_rfl
theorem inf14:Tryz.prog.info? 14=some Tryz.t14:=by kernel_rfl
theorem inf21:Tryz.prog.info? 21=some Tryz.t21:=by kernel_rfl
theorem inf34:Tryz.prog.info? 34=some Tryz.t34:=by kernel_rfl
theorem inf22:Tryz.prog.info? 22=some Tryz.t22:=by kernel_rfl
theorem inf25:Tryz.prog.info? 25=some Tryz.t25:=by kernel_rfl
theorem inf32:Tryz.prog.info? 32=some Tryz.t32:=by kernel_rfl
theorem inf33:Tryz.prog.info? 33=some Tryz.t33:=by kernel_rfl
theorem inf36:Tryz.prog.info? 36=some Tryz.t36:=by kernel_rfl
theorem inf37:Tryz.prog.info? 37=some Tryz.t37:=by kernel_rfl
theorem inf46:Tryz.prog.info? 46=some Tryz.t46:=by kernel_rfl
theorem inf47:Tryz.prog.info? 47=some Tryz.t47:=by kernel_rfl
theorem inf53:Tryz.prog.info? 53=some Tryz.t53:=by kernel_rfl
theorem inf54:Tryz.prog.info? 54=some Tryz.t54:=by kernel_rfl
theorem inf63:Tryz.prog.info? 63=some Tryz.t63:=by kernel_rfl
theorem inf74:Tryz.prog.info? 74=some Tryz.t74:=by kernel_rfl
theorem Znm1:Tryz.prog.info? 111=some Tryz.t111:=by kernel_rfl
theorem inf85:Tryz.prog.info? 85=some Tryz.t85:=by kernel_rfl
theorem inf96:Tryz.prog.info? 96=some Tryz.t96:=by kernel_rfl
theorem Zdk3:Tryz.prog.info? 110=some Tryz.t110:=by kernel_rfl
theorem Zek3:Tryz.prog.info? 120=some Tryz.t120:=by kernel_rfl
theorem Zfk3:Tryz.prog.info? 122=some Tryz.t122:=by kernel_rfl
theorem Zgk3:Tryz.prog.info? 123=some Tryz.t123:=by kernel_rfl
theorem Zhk3:Tryz.prog.info? 124=some Tryz.t124:=by kernel_rfl
theorem Zbi2:Tryz.prog.info? 136=some Tryz.t136:=by kernel_rfl
theorem Zci2:Tryz.prog.info? 146=some Tryz.t146:=by kernel_rfl
theorem Zdi2:Tryz.prog.info? 147=some Tryz.t147:=by kernel_rfl
theorem Zik3:Tryz.prog.info? 165=some Tryz.t165:=by kernel_rfl
theorem Zjk3:Tryz.prog.info? 176=some Tryz.t176:=by kernel_rfl
theorem Zkk3:Tryz.prog.info? 183=some Tryz.t183:=by kernel_rfl
theorem Zlk3:Tryz.prog.info? 210=some Tryz.t210:=by kernel_rfl
theorem Zmk3:Tryz.prog.info? 211=some Tryz.t211:=by kernel_rfl
theorem Znk3:Tryz.prog.info? 213=some Tryz.t213:=by kernel_rfl
theorem Zok3:Tryz.prog.info? 214=some Tryz.t214:=by kernel_rfl
theorem fit2:Fit Tryz.prog 2 k2:=⟨⟨Tryz.t2,inf2,rfl,rfl⟩,Tryz.underlying2⟩
theorem eq2:EqOk Tryz.prog 1 2 k2:=eq_int Tryz.underlying2
theorem fit3:Fit Tryz.prog 3 k3:=⟨⟨Tryz.t3,inf3,rfl,rfl⟩,Tryz.underlying3⟩
theorem eq3:EqOk Tryz.prog 1 3 k3:=eq_int Tryz.underlying3
theorem fit4:Fit Tryz.prog 4 k4:=⟨⟨Tryz.t4,inf4,rfl,rfl⟩,Tryz.underlying4⟩
theorem eq4:EqOk Tryz.prog 1 4 k4:=Zfa2 Tryz.underlying4
theorem fit5:Fit Tryz.prog 5 k5:=⟨⟨Tryz.t5,inf5,rfl,rfl⟩,Tryz.underlying5⟩
theorem fit6:Fit Tryz.prog 6 k6:=⟨⟨Tryz.t6,inf6,rfl,rfl⟩,Tryz.underlying6⟩
theorem eq6:EqOk Tryz.prog 1 6 k6:=eq_int Tryz.underlying6
theorem fit7:Fit Tryz.prog 7 k7:=⟨⟨Tryz.t7,inf7,rfl,rfl⟩,⟨_,Tryz.underlying7,rfl⟩⟩
theorem sf7:SFact Tryz.prog 7 [(0,k2),(1,k3),(2,k4),(3,k6)]:=⟨_,Tryz.underlying7,⟨⟨rfl,fit2⟩,⟨⟨rfl,fit3⟩,⟨⟨rfl,fit4⟩,⟨⟨rfl,fit6⟩,trivial⟩⟩⟩⟩⟩
theorem eq7:EqOk Tryz.prog 2 7 k7:=Ztn Tryz.underlying7 Tryz.stoodInHeld7 ⟨⟨by decide,rfl,fit2,EqOk.mono eq2 (by decide)⟩,⟨⟨by decide,rfl,fit3,EqOk.mono eq3 (by decide)⟩,⟨⟨by decide,rfl,fit4,EqOk.mono eq4 (by decide)⟩,⟨by decide,rfl,fit6,EqOk.mono eq6 (by decide)⟩⟩⟩⟩
theorem fit8:Fit Tryz.prog 8 k8:=⟨⟨Tryz.t8,inf8,rfl,rfl⟩,⟨_,Tryz.underlying8,rfl⟩⟩
theorem sf8:SFact Tryz.prog 8 [(0,k2),(1,k3),(2,k4),(3,k6)]:=⟨_,Tryz.underlying8,⟨⟨rfl,fit2⟩,⟨⟨rfl,fit3⟩,⟨⟨rfl,fit4⟩,⟨⟨rfl,fit6⟩,trivial⟩⟩⟩⟩⟩
theorem eq8:EqOk Tryz.prog 2 8 k8:=Ztn Tryz.underlying8 Tryz.stoodInHeld8 ⟨⟨by decide,rfl,fit2,EqOk.mono eq2 (by decide)⟩,⟨⟨by decide,rfl,fit3,EqOk.mono eq3 (by decide)⟩,⟨⟨by decide,rfl,fit4,EqOk.mono eq4 (by decide)⟩,⟨by decide,rfl,fit6,EqOk.mono eq6 (by decide)⟩⟩⟩⟩
theorem fit9:Fit Tryz.prog 9 k9:=⟨⟨Tryz.t9,inf9,rfl,rfl⟩,Tryz.underlying9⟩
theorem deep9:Deep Tryz.prog 9 k9:= .str Tryz.underlying9
theorem eq9:EqOk Tryz.prog 1 9 k9:=Zel3 Tryz.underlying9
theorem fit10:Fit Tryz.prog 10 k10:=⟨⟨Tryz.t10,inf10,rfl,rfl⟩,Tryz.underlying10⟩
theorem fit11:Fit Tryz.prog 11 k11:=⟨⟨Tryz.t11,inf11,rfl,rfl⟩,Tryz.underlying11⟩
theorem fit12:Fit Tryz.prog 12 k12:=⟨⟨Tryz.t12,inf12,rfl,rfl⟩,Tryz.underlying12⟩
theorem fit13:Fit Tryz.prog 13 k13:=⟨⟨Tryz.t13,inf13,rfl,rfl⟩,⟨_,Tryz.underlying13,rfl⟩⟩
theorem sf13:SFact Tryz.prog 13 [(0,k9),(1,k12)]:=⟨_,Tryz.underlying13,⟨⟨rfl,fit9⟩,⟨⟨rfl,fit12⟩,trivial⟩⟩⟩
theorem fit14:Fit Tryz.prog 14 k14:=⟨⟨Tryz.t14,inf14,rfl,rfl⟩,⟨_,Tryz.underlying14,rfl⟩⟩
theorem sf14:SFact Tryz.prog 14 [(0,k9),(1,k12)]:=⟨_,Tryz.underlying14,⟨⟨rfl,fit9⟩,⟨⟨rfl,fit12⟩,trivial⟩⟩⟩
theorem fit21:Fit Tryz.prog 21 k21:=⟨⟨Tryz.t21,inf21,rfl,rfl⟩,Tryz.underlying21⟩
theorem fit34:Fit Tryz.prog 34 k34:=⟨⟨Tryz.t34,inf34,rfl,rfl⟩,⟨_,Tryz.underlying34,rfl⟩⟩
theorem sf34:SFact Tryz.prog 34 [(0,k3),(1,k3),(2,k9)]:=⟨_,Tryz.underlying34,⟨⟨rfl,fit3⟩,⟨⟨rfl,fit3⟩,⟨⟨rfl,fit9⟩,trivial⟩⟩⟩⟩
theorem eq34:EqOk Tryz.prog 2 34 k34:=Ztn Tryz.underlying34 Tryz.stoodInHeld34 ⟨⟨by decide,rfl,fit3,EqOk.mono eq3 (by decide)⟩,⟨⟨by decide,rfl,fit3,EqOk.mono eq3 (by decide)⟩,⟨by decide,rfl,fit9,EqOk.mono eq9 (by decide)⟩⟩⟩
theorem fit22:Fit Tryz.prog 22 k22:=⟨⟨Tryz.t22,inf22,rfl,rfl⟩,⟨34,Tryz.t34,Tryz.underlying22,inf34,rfl,rfl,(fun _ h=>nomatch h),(fun h=>nomatch h)⟩⟩
theorem fit25:Fit Tryz.prog 25 k25:=⟨⟨Tryz.t25,inf25,rfl,rfl⟩,Tryz.underlying25⟩
theorem fit32:Fit Tryz.prog 32 k32:=⟨⟨Tryz.t32,inf32,rfl,rfl⟩,⟨3,Tryz.t3,Tryz.underlying32,inf3,rfl,rfl,(fun k h=>by cases h;exact Tryz.underlying3),(fun h=>nomatch h)⟩⟩
theorem fit33:Fit Tryz.prog 33 k33:=⟨⟨Tryz.t33,inf33,rfl,rfl⟩,⟨_,Tryz.underlying33,rfl⟩⟩
theorem sf33:SFact Tryz.prog 33 [(0,k3),(1,k3),(2,k9)]:=⟨_,Tryz.underlying33,⟨⟨rfl,fit3⟩,⟨⟨rfl,fit3⟩,⟨⟨rfl,fit9⟩,trivial⟩⟩⟩⟩
theorem eq33:EqOk Tryz.prog 2 33 k33:=Ztn Tryz.underlying33 Tryz.stoodInHeld33 ⟨⟨by decide,rfl,fit3,EqOk.mono eq3 (by decide)⟩,⟨⟨by decide,rfl,fit3,EqOk.mono eq3 (by decide)⟩,⟨by decide,rfl,fit9,EqOk.mono eq9 (by decide)⟩⟩⟩
theorem fit36:Fit Tryz.prog 36 k36:=⟨⟨Tryz.t36,inf36,rfl,rfl⟩,⟨_,Tryz.underlying36,rfl⟩⟩
theorem sf36:SFact Tryz.prog 36 [(0,k3),(1,k3),(2,k3),(3,k3)]:=⟨_,Tryz.underlying36,⟨⟨rfl,fit3⟩,⟨⟨rfl,fit3⟩,⟨⟨rfl,fit3⟩,⟨⟨rfl,fit3⟩,trivial⟩⟩⟩⟩⟩
theorem eq36:EqOk Tryz.prog 2 36 k36:=Ztn Tryz.underlying36 Tryz.stoodInHeld36 ⟨⟨by decide,rfl,fit3,EqOk.mono eq3 (by decide)⟩,⟨⟨by decide,rfl,fit3,EqOk.mono eq3 (by decide)⟩,⟨⟨by decide,rfl,fit3,EqOk.mono eq3 (by decide)⟩,⟨by decide,rfl,fit3,EqOk.mono eq3 (by decide)⟩⟩⟩⟩
theorem fit37:Fit Tryz.prog 37 k37:=⟨⟨Tryz.t37,inf37,rfl,rfl⟩,⟨_,Tryz.underlying37,rfl⟩⟩
theorem sf37:SFact Tryz.prog 37 [(0,k3),(1,k3),(2,k3),(3,k3)]:=⟨_,Tryz.underlying37,⟨⟨rfl,fit3⟩,⟨⟨rfl,fit3⟩,⟨⟨rfl,fit3⟩,⟨⟨rfl,fit3⟩,trivial⟩⟩⟩⟩⟩
theorem eq37:EqOk Tryz.prog 2 37 k37:=Ztn Tryz.underlying37 Tryz.stoodInHeld37 ⟨⟨by decide,rfl,fit3,EqOk.mono eq3 (by decide)⟩,⟨⟨by decide,rfl,fit3,EqOk.mono eq3 (by decide)⟩,⟨⟨by decide,rfl,fit3,EqOk.mono eq3 (by decide)⟩,⟨by decide,rfl,fit3,EqOk.mono eq3 (by decide)⟩⟩⟩⟩
theorem fit46:Fit Tryz.prog 46 k46:=⟨⟨Tryz.t46,inf46,rfl,rfl⟩,⟨5,Tryz.t5,Tryz.underlying46,inf5,rfl,rfl,(fun k h=>by cases h;exact Tryz.underlying5),(fun _=>rfl)⟩⟩
theorem fit47:Fit Tryz.prog 47 k47:=⟨⟨Tryz.t47,inf47,rfl,rfl⟩,Tryz.underlying47⟩
theorem fit53:Fit Tryz.prog 53 k53:=⟨⟨Tryz.t53,inf53,rfl,rfl⟩,⟨_,Tryz.underlying53,rfl⟩⟩
theorem sf53:SFact Tryz.prog 53 [(0,k37),(4,k9),(5,k9),(6,k22)]:=⟨_,Tryz.underlying53,⟨⟨rfl,fit37⟩,⟨⟨rfl,fit9⟩,⟨⟨rfl,fit9⟩,⟨⟨rfl,fit22⟩,trivial⟩⟩⟩⟩⟩
theorem fit54:Fit Tryz.prog 54 k54:=⟨⟨Tryz.t54,inf54,rfl,rfl⟩,⟨_,Tryz.underlying54,rfl⟩⟩
theorem sf54:SFact Tryz.prog 54 [(0,k37),(4,k9),(5,k9),(6,k22)]:=⟨_,Tryz.underlying54,⟨⟨rfl,fit37⟩,⟨⟨rfl,fit9⟩,⟨⟨rfl,fit9⟩,⟨⟨rfl,fit22⟩,trivial⟩⟩⟩⟩⟩
theorem fit63:Fit Tryz.prog 63 k63:=⟨⟨Tryz.t63,inf63,rfl,rfl⟩,⟨9,Tryz.t9,Tryz.underlying63,inf9,rfl,rfl,(fun _ h=>nomatch h),(fun h=>nomatch h)⟩⟩
theorem fit74:Fit Tryz.prog 74 k74:=⟨⟨Tryz.t74,inf74,rfl,rfl⟩,Tryz.underlying74⟩
theorem Zpk3:Fit Tryz.prog 111 k111:=⟨⟨Tryz.t111,Znm1,rfl,rfl⟩,⟨_,Tryz.underlying111,rfl⟩⟩
theorem sf111:SFact Tryz.prog 111 [(0,k3),(1,k3),(2,k3)]:=⟨_,Tryz.underlying111,⟨⟨rfl,fit3⟩,⟨⟨rfl,fit3⟩,⟨⟨rfl,fit3⟩,trivial⟩⟩⟩⟩
theorem fit85:Fit Tryz.prog 85 k85:=⟨⟨Tryz.t85,inf85,rfl,rfl⟩,⟨111,Tryz.t111,Tryz.underlying85,Znm1,rfl,rfl,(fun _ h=>nomatch h),(fun h=>nomatch h)⟩⟩
theorem fit96:Fit Tryz.prog 96 k96:=⟨⟨Tryz.t96,inf96,rfl,rfl⟩,Tryz.underlying96⟩
theorem Zqk3:Fit Tryz.prog 110 k110:=⟨⟨Tryz.t110,Zdk3,rfl,rfl⟩,⟨_,Tryz.underlying110,rfl⟩⟩
theorem sf110:SFact Tryz.prog 110 [(0,k3),(1,k3),(2,k3)]:=⟨_,Tryz.underlying110,⟨⟨rfl,fit3⟩,⟨⟨rfl,fit3⟩,⟨⟨rfl,fit3⟩,trivial⟩⟩⟩⟩
theorem Zei2:Fit Tryz.prog 120 k120:=⟨⟨Tryz.t120,Zek3,rfl,by kernel_rfl⟩,⟨_,Tryz.underlying120⟩⟩
theorem sf121:SFact Tryz.prog 121 [(0,k120),(1,k46)]:=⟨_,Tryz.underlying121,⟨⟨rfl,Zei2⟩,⟨⟨rfl,fit46⟩,trivial⟩⟩⟩
theorem Zrk3:Fit Tryz.prog 122 k122:=⟨⟨Tryz.t122,Zfk3,rfl,rfl⟩,⟨_,Tryz.underlying122,rfl⟩⟩
theorem sf122:SFact Tryz.prog 122 [(0,k120),(1,k46)]:=⟨_,Tryz.underlying122,⟨⟨rfl,Zei2⟩,⟨⟨rfl,fit46⟩,trivial⟩⟩⟩
theorem Zsk3:Fit Tryz.prog 123 k123:=⟨⟨Tryz.t123,Zgk3,rfl,by kernel_rfl⟩,(show Tryz.prog.underlying 123=some (.interface (Tryz.prog.methodsAt 123)) by kernel_rfl)⟩
theorem Ztk3:Fit Tryz.prog 124 k124:=⟨⟨Tryz.t124,Zhk3,rfl,by kernel_rfl⟩,(show Tryz.prog.underlying 124=some (.interface (Tryz.prog.methodsAt 124)) by kernel_rfl)⟩
theorem Zuk3:Fit Tryz.prog 136 k136:=⟨⟨Tryz.t136,Zbi2,rfl,by kernel_rfl⟩,⟨_,Tryz.underlying136,rfl⟩⟩
theorem Zvk3:Fit Tryz.prog 146 k146:=⟨⟨Tryz.t146,Zci2,rfl,by kernel_rfl⟩,⟨_,Tryz.underlying146,rfl⟩⟩
theorem Zwk3:Fit Tryz.prog 147 k147:=⟨⟨Tryz.t147,Zdi2,rfl,by kernel_rfl⟩,⟨_,Tryz.underlying147,rfl⟩⟩
theorem Zxk3:Fit Tryz.prog 165 k165:=⟨⟨Tryz.t165,Zik3,rfl,rfl⟩,Tryz.underlying165⟩
theorem Zyk3:Fit Tryz.prog 176 k176:=⟨⟨Tryz.t176,Zjk3,rfl,rfl⟩,⟨4,Tryz.t4,Tryz.underlying176,inf4,rfl,rfl,(fun _ h=>nomatch h),(fun h=>nomatch h)⟩⟩
theorem Zzk3:Fit Tryz.prog 183 k183:=⟨⟨Tryz.t183,Zkk3,rfl,rfl⟩,Tryz.underlying183⟩
theorem Zal3:Fit Tryz.prog 210 k210:=⟨⟨Tryz.t210,Zlk3,rfl,rfl⟩,Tryz.underlying210⟩
theorem Zbl3:Fit Tryz.prog 211 k211:=⟨⟨Tryz.t211,Zmk3,rfl,rfl⟩,Tryz.underlying211⟩
theorem Zcl3:Fit Tryz.prog 213 k213:=⟨⟨Tryz.t213,Znk3,rfl,rfl⟩,Tryz.underlying213⟩
theorem Zdl3:Fit Tryz.prog 214 k214:=⟨⟨Tryz.t214,Zok3,rfl,rfl⟩,Tryz.underlying214⟩
theorem ar136:ArFact Tryz.prog 136 10 k5:=⟨5,Tryz.underlying136,fit5,by decide,Tryz.t136,Zbi2,by kernel_rfl⟩
theorem ar146:ArFact Tryz.prog 146 64 k4:=⟨4,Tryz.underlying146,fit4,by decide,Tryz.t146,Zci2,by kernel_rfl⟩
theorem ar147:ArFact Tryz.prog 147 64 k4:=⟨4,Tryz.underlying147,fit4,by decide,Tryz.t147,Zdi2,by kernel_rfl⟩
@[reducible] def tab : Tab where
  ty:=[(2,k2),(3,k3),(4,k4),(5,k5),(6,k6),(7,k7),(8,k8),(9,k9),(10,k10),(11,k11),(12,k12),(13,k13),(14,k14),(21,k21),(34,k34),(22,k22),(25,k25),(32,k32),(33,k33),(36,k36),(37,k37),(46,k46),(47,k47),(53,k53),(54,k54),(63,k63),(74,k74),(111,k111),(85,k85),(96,k96),(110,k110),(122,k122),(123,k123),(124,k124),(136,k136),(146,k146),(147,k147),(165,k165),(176,k176),(183,k183),(210,k210),(211,k211),(213,k213),(214,k214)]
  fo:=[(7,[(0,k2),(1,k3),(2,k4),(3,k6)]),(8,[(0,k2),(1,k3),(2,k4),(3,k6)]),(13,[(0,k9),(1,k12)]),(14,[(0,k9),(1,k12)]),(34,[(0,k3),(1,k3),(2,k9)]),(33,[(0,k3),(1,k3),(2,k9)]),(36,[(0,k3),(1,k3),(2,k3),(3,k3)]),(37,[(0,k3),(1,k3),(2,k3),(3,k3)]),(53,[(0,k37),(4,k9),(5,k9),(6,k22)]),(54,[(0,k37),(4,k9),(5,k9),(6,k22)]),(111,[(0,k3),(1,k3),(2,k3)]),(110,[(0,k3),(1,k3),(2,k3)]),(121,[(0,k120),(1,k46)]),(122,[(0,k120),(1,k46)])]
  ar:=[(136,(10,k5)),(146,(64,k4)),(147,(64,k4))]
  by_:=[(22,32),(32,8),(46,1),(63,16),(85,24),(176,1)]
  eq:=[(4,k4),(7,k7),(8,k8),(34,k34),(33,k33),(36,k36),(37,k37)]
theorem tabOk:TabOk Tryz.prog tab where
  ty:=⟨⟨fit2,trivial,(fun h=>nomatch h)⟩,⟨⟨fit3,trivial,(fun h=>nomatch h)⟩,⟨⟨fit4,trivial,(fun h=>nomatch h)⟩,⟨⟨fit5,trivial,(fun h=>nomatch h)⟩,⟨⟨fit6,trivial,(fun h=>nomatch h)⟩,⟨⟨fit7,trivial,(fun _=>⟨_,rfl⟩)⟩,⟨⟨fit8,trivial,(fun _=>⟨_,rfl⟩)⟩,⟨⟨fit9,trivial,(fun h=>nomatch h)⟩,⟨⟨fit10,trivial,(fun h=>nomatch h)⟩,⟨⟨fit11,trivial,(fun h=>nomatch h)⟩,⟨⟨fit12,trivial,(fun h=>nomatch h)⟩,⟨⟨fit13,trivial,(fun _=>⟨_,rfl⟩)⟩,⟨⟨fit14,trivial,(fun _=>⟨_,rfl⟩)⟩,⟨⟨fit21,trivial,(fun h=>nomatch h)⟩,⟨⟨fit34,trivial,(fun _=>⟨_,rfl⟩)⟩,⟨⟨fit22,⟨34,Tryz.t34,Tryz.underlying22,inf34,rfl,by decide⟩,(fun h=>nomatch h)⟩,⟨⟨fit25,trivial,(fun h=>nomatch h)⟩,⟨⟨fit32,⟨3,Tryz.t3,Tryz.underlying32,inf3,rfl,by decide⟩,(fun h=>nomatch h)⟩,⟨⟨fit33,trivial,(fun _=>⟨_,rfl⟩)⟩,⟨⟨fit36,trivial,(fun _=>⟨_,rfl⟩)⟩,⟨⟨fit37,trivial,(fun _=>⟨_,rfl⟩)⟩,⟨⟨fit46,⟨5,Tryz.t5,Tryz.underlying46,inf5,rfl,by decide⟩,(fun h=>nomatch h)⟩,⟨⟨fit47,trivial,(fun h=>nomatch h)⟩,⟨⟨fit53,trivial,(fun _=>⟨_,rfl⟩)⟩,⟨⟨fit54,trivial,(fun _=>⟨_,rfl⟩)⟩,⟨⟨fit63,⟨9,Tryz.t9,Tryz.underlying63,inf9,rfl,by decide⟩,(fun h=>nomatch h)⟩,⟨⟨fit74,trivial,(fun h=>nomatch h)⟩,⟨⟨Zpk3,trivial,(fun _=>⟨_,rfl⟩)⟩,⟨⟨fit85,⟨111,Tryz.t111,Tryz.underlying85,Znm1,rfl,by decide⟩,(fun h=>nomatch h)⟩,⟨⟨fit96,trivial,(fun h=>nomatch h)⟩,⟨⟨Zqk3,trivial,(fun _=>⟨_,rfl⟩)⟩,⟨⟨Zrk3,trivial,(fun _=>⟨_,rfl⟩)⟩,⟨⟨Zsk3,trivial,(fun h=>nomatch h)⟩,⟨⟨Ztk3,trivial,(fun h=>nomatch h)⟩,⟨⟨Zuk3,trivial,(⟨rfl,rfl⟩)⟩,⟨⟨Zvk3,trivial,(⟨rfl,rfl⟩)⟩,⟨⟨Zwk3,trivial,(⟨rfl,rfl⟩)⟩,⟨⟨Zxk3,trivial,(fun h=>nomatch h)⟩,⟨⟨Zyk3,⟨4,Tryz.t4,Tryz.underlying176,inf4,rfl,by decide⟩,(fun h=>nomatch h)⟩,⟨⟨Zzk3,trivial,(fun h=>nomatch h)⟩,⟨⟨Zal3,trivial,(fun h=>nomatch h)⟩,⟨⟨Zbl3,trivial,(fun h=>nomatch h)⟩,⟨⟨Zcl3,trivial,(fun h=>nomatch h)⟩,⟨⟨Zdl3,trivial,(fun h=>nomatch h)⟩,trivial⟩⟩⟩⟩⟩⟩⟩⟩⟩⟩⟩⟩⟩⟩⟩⟩⟩⟩⟩⟩⟩⟩⟩⟩⟩⟩⟩⟩⟩⟩⟩⟩⟩⟩⟩⟩⟩⟩⟩⟩⟩⟩⟩⟩
  fo:=⟨sf7,⟨sf8,⟨sf13,⟨sf14,⟨sf34,⟨sf33,⟨sf36,⟨sf37,⟨sf53,⟨sf54,⟨sf111,⟨sf110,⟨sf121,⟨sf122,trivial⟩⟩⟩⟩⟩⟩⟩⟩⟩⟩⟩⟩⟩⟩
  ar:=⟨ar136,⟨ar146,⟨ar147,trivial⟩⟩⟩
  eq:=⟨.inr ⟨rfl,Tryz.underlying4⟩,⟨.inl ⟨rfl,Tryz.eqGuardType7,EqOk.mono eq7 (by decide)⟩,⟨.inl ⟨rfl,Tryz.eqGuardType8,EqOk.mono eq8 (by decide)⟩,⟨.inl ⟨rfl,Tryz.eqGuardType34,EqOk.mono eq34 (by decide)⟩,⟨.inl ⟨rfl,Tryz.eqGuardType33,EqOk.mono eq33 (by decide)⟩,⟨.inl ⟨rfl,Tryz.eqGuardType36,EqOk.mono eq36 (by decide)⟩,⟨.inl ⟨rfl,Tryz.eqGuardType37,EqOk.mono eq37 (by decide)⟩,trivial⟩⟩⟩⟩⟩⟩⟩
  slf:=by kernel_rfl
  byt:=⟨(fun h=>nomatch h),⟨(fun h=>nomatch h),⟨(fun h=>nomatch h),⟨(fun h=>nomatch h),⟨(fun h=>nomatch h),⟨(fun h=>nomatch h),⟨(fun h=>nomatch h),⟨(fun h=>nomatch h),⟨(fun h=>nomatch h),⟨(fun h=>nomatch h),⟨(fun h=>nomatch h),⟨(fun h=>nomatch h),⟨(fun h=>nomatch h),⟨(fun h=>nomatch h),⟨(fun h=>nomatch h),⟨(fun h=>nomatch h),⟨(fun h=>nomatch h),⟨(fun h=>nomatch h),⟨(fun h=>nomatch h),⟨(fun h=>nomatch h),⟨(fun h=>nomatch h),⟨(fun _=>Tryz.underlying46),⟨(fun h=>nomatch h),⟨(fun h=>nomatch h),⟨(fun h=>nomatch h),⟨(fun h=>nomatch h),⟨(fun h=>nomatch h),⟨(fun h=>nomatch h),⟨(fun h=>nomatch h),⟨(fun h=>nomatch h),⟨(fun h=>nomatch h),⟨(fun h=>nomatch h),⟨(fun h=>nomatch h),⟨(fun h=>nomatch h),⟨(fun h=>nomatch h),⟨(fun h=>nomatch h),⟨(fun h=>nomatch h),⟨(fun h=>nomatch h),⟨(fun h=>nomatch h),⟨(fun h=>nomatch h),⟨(fun h=>nomatch h),⟨(fun h=>nomatch h),⟨(fun h=>nomatch h),⟨(fun h=>nomatch h),trivial⟩⟩⟩⟩⟩⟩⟩⟩⟩⟩⟩⟩⟩⟩⟩⟩⟩⟩⟩⟩⟩⟩⟩⟩⟩⟩⟩⟩⟩⟩⟩⟩⟩⟩⟩⟩⟩⟩⟩⟩⟩⟩⟩⟩
  mixed:=by kernel_rfl
end Go.Proofs.YtlamhllcnbcbbaaGreat.Am
