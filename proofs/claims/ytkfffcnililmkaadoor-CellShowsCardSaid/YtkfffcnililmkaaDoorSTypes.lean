import Derived.Test.YtkfffcnililmkaaDoorAmGen
import Derived.Test.YtkfffcnililmkaaDoorSLay
import Derived.Test.YtkfffcnililmkaaDoorProg
import Derived.KernelRfl
/- PRINTED by gen/types.py of this repo: what the seat's types are. -/
namespace Go.Proofs.YtkfffcnililmkaaDoor.Am
open Go.AM

@[reducible] def k2 : Ty := .int .i64
@[reducible] def k3 : Ty := .int .i64
@[reducible] def k4 : Ty := .bool
@[reducible] def k5 : Ty := .int .u8
@[reducible] def k6 : Ty := .int .u8
@[reducible] def k7 : Ty := .pair k2 (.pair k3 (.pair k4 k6))
@[reducible] def k8 : Ty := .pair k2 (.pair k3 (.pair k4 k6))
@[reducible] def k9 : Ty := .str
@[reducible] def k10 : Ty := .str
@[reducible] def k11 : Ty := .str
@[reducible] def k12 : Ty := .int .u64
@[reducible] def k13 : Ty := .pair k9 k12
@[reducible] def k14 : Ty := .pair k9 k12
@[reducible] def k21 : Ty := .int .i32
@[reducible] def k22 : Ty := .pair k3 (.pair k3 k9)
@[reducible] def k23 : Ty := .pair k3 (.pair k3 k9)
@[reducible] def k27 : Ty := .sl k23
@[reducible] def k28 : Ty := .sl k23
@[reducible] def k30 : Ty := .int .i64
@[reducible] def k63 : Ty := .pair k9 (.pair k3 k4)
@[reducible] def k42 : Ty := .sl k63
@[reducible] def k49 : Ty := .sl k5
@[reducible] def k56 : Ty := .lk true
@[reducible] def k57 : Ty := .lk true
@[reducible] def k62 : Ty := .pair k9 (.pair k3 k4)
@[reducible] def k64 : Ty := .sl k3
@[reducible] def k66 : Ty := .arr 9 k5
@[reducible] def k67 : Ty := .int .u64
@[reducible] def k69 : Ty := .int .u64
@[reducible] def k77 : Ty := .lk false
@[reducible] def k78 : Ty := .pair k77 k49
@[reducible] def k79 : Ty := .pair k77 k49
@[reducible] def k84 : Ty := .int .i64
@[reducible] def k91 : Ty := .arr 63 k4
@[reducible] def k92 : Ty := .arr 63 k4
@[reducible] def k101 : Ty := .pair k9 (.pair k9 k57)
@[reducible] def k102 : Ty := .pair k9 (.pair k9 k57)
@[reducible] def k104 : Ty := .arr 23 k5
@[reducible] def k112 : Ty := .arr 255 k5
@[reducible] def k113 : Ty := .pair k5 k5
@[reducible] def k114 : Ty := .pair k5 k5
@[reducible] def k115 : Ty := .arr 15 k114
@[reducible] def k119 : Ty := .wrap k9
@[reducible] def k120 : Ty := .wrap k9
@[reducible] def k122 : Ty := .arr 19 k67
@[reducible] def k123 : Ty := .int .u32
@[reducible] def k124 : Ty := .arr 64 k5
@[reducible] def k129 : Ty := .arr 31 k5
@[reducible] def k130 : Ty := .arr 63 k5
@[reducible] def k137 : Ty := .int .u8
@[reducible] def k138 : Ty := .int .u8
@[reducible] def k140 : Ty := .int .i32
@[reducible] def k141 : Ty := .int .i32

theorem inf2 : Tryd.prog.info? 2 = some Tryd.t2 := by kernel_rfl
theorem inf3 : Tryd.prog.info? 3 = some Tryd.t3 := by kernel_rfl
theorem inf4 : Tryd.prog.info? 4 = some Tryd.t4 := by kernel_rfl
theorem inf5 : Tryd.prog.info? 5 = some Tryd.t5 := by kernel_rfl
theorem inf6 : Tryd.prog.info? 6 = some Tryd.t6 := by kernel_rfl
theorem inf7 : Tryd.prog.info? 7 = some Tryd.t7 := by kernel_rfl
theorem inf8 : Tryd.prog.info? 8 = some Tryd.t8 := by kernel_rfl
theorem inf9 : Tryd.prog.info? 9 = some Tryd.t9 := by kernel_rfl
theorem inf10 : Tryd.prog.info? 10 = some Tryd.t10 := by kernel_rfl
theorem inf11 : Tryd.prog.info? 11 = some Tryd.t11 := by kernel_rfl
theorem inf12 : Tryd.prog.info? 12 = some Tryd.t12 := by kernel_rfl
theorem inf13 : Tryd.prog.info? 13 = some Tryd.t13 := by kernel_rfl
theorem inf14 : Tryd.prog.info? 14 = some Tryd.t14 := by kernel_rfl
theorem inf21 : Tryd.prog.info? 21 = some Tryd.t21 := by kernel_rfl
theorem inf22 : Tryd.prog.info? 22 = some Tryd.t22 := by kernel_rfl
theorem inf23 : Tryd.prog.info? 23 = some Tryd.t23 := by kernel_rfl
theorem inf27 : Tryd.prog.info? 27 = some Tryd.t27 := by kernel_rfl
theorem inf28 : Tryd.prog.info? 28 = some Tryd.t28 := by kernel_rfl
theorem inf30 : Tryd.prog.info? 30 = some Tryd.t30 := by kernel_rfl
theorem inf63 : Tryd.prog.info? 63 = some Tryd.t63 := by kernel_rfl
theorem inf42 : Tryd.prog.info? 42 = some Tryd.t42 := by kernel_rfl
theorem inf49 : Tryd.prog.info? 49 = some Tryd.t49 := by kernel_rfl
theorem inf56 : Tryd.prog.info? 56 = some Tryd.t56 := by kernel_rfl
theorem inf57 : Tryd.prog.info? 57 = some Tryd.t57 := by kernel_rfl
theorem inf62 : Tryd.prog.info? 62 = some Tryd.t62 := by kernel_rfl
theorem inf64 : Tryd.prog.info? 64 = some Tryd.t64 := by kernel_rfl
theorem inf66 : Tryd.prog.info? 66 = some Tryd.t66 := by kernel_rfl
theorem inf67 : Tryd.prog.info? 67 = some Tryd.t67 := by kernel_rfl
theorem inf69 : Tryd.prog.info? 69 = some Tryd.t69 := by kernel_rfl
theorem inf77 : Tryd.prog.info? 77 = some Tryd.t77 := by kernel_rfl
theorem inf78 : Tryd.prog.info? 78 = some Tryd.t78 := by kernel_rfl
theorem inf79 : Tryd.prog.info? 79 = some Tryd.t79 := by kernel_rfl
theorem inf84 : Tryd.prog.info? 84 = some Tryd.t84 := by kernel_rfl
theorem inf91 : Tryd.prog.info? 91 = some Tryd.t91 := by kernel_rfl
theorem inf92 : Tryd.prog.info? 92 = some Tryd.t92 := by kernel_rfl
theorem inf101 : Tryd.prog.info? 101 = some Tryd.t101 := by kernel_rfl
theorem inf102 : Tryd.prog.info? 102 = some Tryd.t102 := by kernel_rfl
theorem inf104 : Tryd.prog.info? 104 = some Tryd.t104 := by kernel_rfl
theorem inf112 : Tryd.prog.info? 112 = some Tryd.t112 := by kernel_rfl
theorem inf113 : Tryd.prog.info? 113 = some Tryd.t113 := by kernel_rfl
theorem inf114 : Tryd.prog.info? 114 = some Tryd.t114 := by kernel_rfl
theorem inf115 : Tryd.prog.info? 115 = some Tryd.t115 := by kernel_rfl
theorem inf119 : Tryd.prog.info? 119 = some Tryd.t119 := by kernel_rfl
theorem inf120 : Tryd.prog.info? 120 = some Tryd.t120 := by kernel_rfl
theorem inf122 : Tryd.prog.info? 122 = some Tryd.t122 := by kernel_rfl
theorem inf123 : Tryd.prog.info? 123 = some Tryd.t123 := by kernel_rfl
theorem inf124 : Tryd.prog.info? 124 = some Tryd.t124 := by kernel_rfl
theorem inf129 : Tryd.prog.info? 129 = some Tryd.t129 := by kernel_rfl
theorem inf130 : Tryd.prog.info? 130 = some Tryd.t130 := by kernel_rfl
theorem inf137 : Tryd.prog.info? 137 = some Tryd.t137 := by kernel_rfl
theorem inf138 : Tryd.prog.info? 138 = some Tryd.t138 := by kernel_rfl
theorem inf140 : Tryd.prog.info? 140 = some Tryd.t140 := by kernel_rfl
theorem inf141 : Tryd.prog.info? 141 = some Tryd.t141 := by kernel_rfl
theorem fit2 : Fit Tryd.prog 2 k2 := ⟨⟨Tryd.t2, inf2, rfl, rfl⟩, Tryd.underlying2⟩
theorem deep2 : Deep Tryd.prog 2 k2 := .int Tryd.underlying2
theorem eq2 : EqOk Tryd.prog 1 2 k2 := eq_int Tryd.underlying2
theorem fit3 : Fit Tryd.prog 3 k3 := ⟨⟨Tryd.t3, inf3, rfl, rfl⟩, Tryd.underlying3⟩
theorem deep3 : Deep Tryd.prog 3 k3 := .int Tryd.underlying3
theorem eq3 : EqOk Tryd.prog 1 3 k3 := eq_int Tryd.underlying3
theorem fit4 : Fit Tryd.prog 4 k4 := ⟨⟨Tryd.t4, inf4, rfl, rfl⟩, Tryd.underlying4⟩
theorem deep4 : Deep Tryd.prog 4 k4 := .bool Tryd.underlying4
theorem eq4 : EqOk Tryd.prog 1 4 k4 := eq_bool Tryd.underlying4
theorem fit5 : Fit Tryd.prog 5 k5 := ⟨⟨Tryd.t5, inf5, rfl, rfl⟩, Tryd.underlying5⟩
theorem deep5 : Deep Tryd.prog 5 k5 := .int Tryd.underlying5
theorem eq5 : EqOk Tryd.prog 1 5 k5 := eq_int Tryd.underlying5
theorem fit6 : Fit Tryd.prog 6 k6 := ⟨⟨Tryd.t6, inf6, rfl, rfl⟩, Tryd.underlying6⟩
theorem deep6 : Deep Tryd.prog 6 k6 := .int Tryd.underlying6
theorem eq6 : EqOk Tryd.prog 1 6 k6 := eq_int Tryd.underlying6
theorem fit7 : Fit Tryd.prog 7 k7 := ⟨⟨Tryd.t7, inf7, rfl, rfl⟩, ⟨_, Tryd.underlying7, rfl⟩⟩
theorem sf7 : SFact Tryd.prog 7 [(0, k2), (1, k3), (2, k4), (3, k6)] := ⟨_, Tryd.underlying7, ⟨⟨rfl, fit2⟩, ⟨⟨rfl, fit3⟩, ⟨⟨rfl, fit4⟩, ⟨⟨rfl, fit6⟩, trivial⟩⟩⟩⟩⟩
theorem deep7 : Deep Tryd.prog 7 k7 := .pair Tryd.underlying7 (by kernel_rfl) (DeepF.cons rfl (by kernel_rfl) deep2 (DeepF.cons rfl (by kernel_rfl) deep3 (DeepF.cons rfl (by kernel_rfl) deep4 (DeepF.last rfl (by kernel_rfl) deep6))))
theorem eq7 : EqOk Tryd.prog 2 7 k7 := eq_struct Tryd.underlying7 Tryd.stoodInHeld7 ⟨⟨by decide, rfl, fit2, EqOk.mono eq2 (by decide)⟩, ⟨⟨by decide, rfl, fit3, EqOk.mono eq3 (by decide)⟩, ⟨⟨by decide, rfl, fit4, EqOk.mono eq4 (by decide)⟩, ⟨by decide, rfl, fit6, EqOk.mono eq6 (by decide)⟩⟩⟩⟩
theorem fit8 : Fit Tryd.prog 8 k8 := ⟨⟨Tryd.t8, inf8, rfl, rfl⟩, ⟨_, Tryd.underlying8, rfl⟩⟩
theorem sf8 : SFact Tryd.prog 8 [(0, k2), (1, k3), (2, k4), (3, k6)] := ⟨_, Tryd.underlying8, ⟨⟨rfl, fit2⟩, ⟨⟨rfl, fit3⟩, ⟨⟨rfl, fit4⟩, ⟨⟨rfl, fit6⟩, trivial⟩⟩⟩⟩⟩
theorem deep8 : Deep Tryd.prog 8 k8 := .pair Tryd.underlying8 (by kernel_rfl) (DeepF.cons rfl (by kernel_rfl) deep2 (DeepF.cons rfl (by kernel_rfl) deep3 (DeepF.cons rfl (by kernel_rfl) deep4 (DeepF.last rfl (by kernel_rfl) deep6))))
theorem eq8 : EqOk Tryd.prog 2 8 k8 := eq_struct Tryd.underlying8 Tryd.stoodInHeld8 ⟨⟨by decide, rfl, fit2, EqOk.mono eq2 (by decide)⟩, ⟨⟨by decide, rfl, fit3, EqOk.mono eq3 (by decide)⟩, ⟨⟨by decide, rfl, fit4, EqOk.mono eq4 (by decide)⟩, ⟨by decide, rfl, fit6, EqOk.mono eq6 (by decide)⟩⟩⟩⟩
theorem fit9 : Fit Tryd.prog 9 k9 := ⟨⟨Tryd.t9, inf9, rfl, rfl⟩, Tryd.underlying9⟩
theorem deep9 : Deep Tryd.prog 9 k9 := .str Tryd.underlying9
theorem eq9 : EqOk Tryd.prog 1 9 k9 := eq_str Tryd.underlying9
theorem fit10 : Fit Tryd.prog 10 k10 := ⟨⟨Tryd.t10, inf10, rfl, rfl⟩, Tryd.underlying10⟩
theorem deep10 : Deep Tryd.prog 10 k10 := .str Tryd.underlying10
theorem eq10 : EqOk Tryd.prog 1 10 k10 := eq_str Tryd.underlying10
theorem fit11 : Fit Tryd.prog 11 k11 := ⟨⟨Tryd.t11, inf11, rfl, rfl⟩, Tryd.underlying11⟩
theorem deep11 : Deep Tryd.prog 11 k11 := .str Tryd.underlying11
theorem eq11 : EqOk Tryd.prog 1 11 k11 := eq_str Tryd.underlying11
theorem fit12 : Fit Tryd.prog 12 k12 := ⟨⟨Tryd.t12, inf12, rfl, rfl⟩, Tryd.underlying12⟩
theorem deep12 : Deep Tryd.prog 12 k12 := .int Tryd.underlying12
theorem eq12 : EqOk Tryd.prog 1 12 k12 := eq_int Tryd.underlying12
theorem fit13 : Fit Tryd.prog 13 k13 := ⟨⟨Tryd.t13, inf13, rfl, rfl⟩, ⟨_, Tryd.underlying13, rfl⟩⟩
theorem sf13 : SFact Tryd.prog 13 [(0, k9), (1, k12)] := ⟨_, Tryd.underlying13, ⟨⟨rfl, fit9⟩, ⟨⟨rfl, fit12⟩, trivial⟩⟩⟩
theorem deep13 : Deep Tryd.prog 13 k13 := .pair Tryd.underlying13 (by kernel_rfl) (DeepF.cons rfl (by kernel_rfl) deep9 (DeepF.last rfl (by kernel_rfl) deep12))
theorem fit14 : Fit Tryd.prog 14 k14 := ⟨⟨Tryd.t14, inf14, rfl, rfl⟩, ⟨_, Tryd.underlying14, rfl⟩⟩
theorem sf14 : SFact Tryd.prog 14 [(0, k9), (1, k12)] := ⟨_, Tryd.underlying14, ⟨⟨rfl, fit9⟩, ⟨⟨rfl, fit12⟩, trivial⟩⟩⟩
theorem deep14 : Deep Tryd.prog 14 k14 := .pair Tryd.underlying14 (by kernel_rfl) (DeepF.cons rfl (by kernel_rfl) deep9 (DeepF.last rfl (by kernel_rfl) deep12))
theorem fit21 : Fit Tryd.prog 21 k21 := ⟨⟨Tryd.t21, inf21, rfl, rfl⟩, Tryd.underlying21⟩
theorem deep21 : Deep Tryd.prog 21 k21 := .int Tryd.underlying21
theorem eq21 : EqOk Tryd.prog 1 21 k21 := eq_int Tryd.underlying21
theorem fit22 : Fit Tryd.prog 22 k22 := ⟨⟨Tryd.t22, inf22, rfl, rfl⟩, ⟨_, Tryd.underlying22, rfl⟩⟩
theorem sf22 : SFact Tryd.prog 22 [(0, k3), (1, k3), (2, k9)] := ⟨_, Tryd.underlying22, ⟨⟨rfl, fit3⟩, ⟨⟨rfl, fit3⟩, ⟨⟨rfl, fit9⟩, trivial⟩⟩⟩⟩
theorem deep22 : Deep Tryd.prog 22 k22 := .pair Tryd.underlying22 (by kernel_rfl) (DeepF.cons rfl (by kernel_rfl) deep3 (DeepF.cons rfl (by kernel_rfl) deep3 (DeepF.last rfl (by kernel_rfl) deep9)))
theorem eq22 : EqOk Tryd.prog 2 22 k22 := eq_struct Tryd.underlying22 Tryd.stoodInHeld22 ⟨⟨by decide, rfl, fit3, EqOk.mono eq3 (by decide)⟩, ⟨⟨by decide, rfl, fit3, EqOk.mono eq3 (by decide)⟩, ⟨by decide, rfl, fit9, EqOk.mono eq9 (by decide)⟩⟩⟩
theorem fit23 : Fit Tryd.prog 23 k23 := ⟨⟨Tryd.t23, inf23, rfl, rfl⟩, ⟨_, Tryd.underlying23, rfl⟩⟩
theorem sf23 : SFact Tryd.prog 23 [(0, k3), (1, k3), (2, k9)] := ⟨_, Tryd.underlying23, ⟨⟨rfl, fit3⟩, ⟨⟨rfl, fit3⟩, ⟨⟨rfl, fit9⟩, trivial⟩⟩⟩⟩
theorem deep23 : Deep Tryd.prog 23 k23 := .pair Tryd.underlying23 (by kernel_rfl) (DeepF.cons rfl (by kernel_rfl) deep3 (DeepF.cons rfl (by kernel_rfl) deep3 (DeepF.last rfl (by kernel_rfl) deep9)))
theorem eq23 : EqOk Tryd.prog 2 23 k23 := eq_struct Tryd.underlying23 Tryd.stoodInHeld23 ⟨⟨by decide, rfl, fit3, EqOk.mono eq3 (by decide)⟩, ⟨⟨by decide, rfl, fit3, EqOk.mono eq3 (by decide)⟩, ⟨by decide, rfl, fit9, EqOk.mono eq9 (by decide)⟩⟩⟩
theorem fit27 : Fit Tryd.prog 27 k27 := ⟨⟨Tryd.t27, inf27, rfl, rfl⟩, ⟨23, Tryd.t23, Tryd.underlying27, inf23, rfl, rfl, (fun _ h => nomatch h), (fun h => nomatch h)⟩⟩
theorem deep27 : Deep Tryd.prog 27 k27 := .sl Tryd.underlying27 (by kernel_rfl) deep23
theorem fit28 : Fit Tryd.prog 28 k28 := ⟨⟨Tryd.t28, inf28, rfl, rfl⟩, ⟨23, Tryd.t23, Tryd.underlying28, inf23, rfl, rfl, (fun _ h => nomatch h), (fun h => nomatch h)⟩⟩
theorem deep28 : Deep Tryd.prog 28 k28 := .sl Tryd.underlying28 (by kernel_rfl) deep23
theorem fit30 : Fit Tryd.prog 30 k30 := ⟨⟨Tryd.t30, inf30, rfl, rfl⟩, Tryd.underlying30⟩
theorem deep30 : Deep Tryd.prog 30 k30 := .int Tryd.underlying30
theorem eq30 : EqOk Tryd.prog 1 30 k30 := eq_int Tryd.underlying30
theorem fit63 : Fit Tryd.prog 63 k63 := ⟨⟨Tryd.t63, inf63, rfl, rfl⟩, ⟨_, Tryd.underlying63, rfl⟩⟩
theorem sf63 : SFact Tryd.prog 63 [(0, k9), (1, k3), (2, k4)] := ⟨_, Tryd.underlying63, ⟨⟨rfl, fit9⟩, ⟨⟨rfl, fit3⟩, ⟨⟨rfl, fit4⟩, trivial⟩⟩⟩⟩
theorem deep63 : Deep Tryd.prog 63 k63 := .pair Tryd.underlying63 (by kernel_rfl) (DeepF.cons rfl (by kernel_rfl) deep9 (DeepF.cons rfl (by kernel_rfl) deep3 (DeepF.last rfl (by kernel_rfl) deep4)))
theorem fit42 : Fit Tryd.prog 42 k42 := ⟨⟨Tryd.t42, inf42, rfl, rfl⟩, ⟨63, Tryd.t63, Tryd.underlying42, inf63, rfl, rfl, (fun _ h => nomatch h), (fun h => nomatch h)⟩⟩
theorem deep42 : Deep Tryd.prog 42 k42 := .sl Tryd.underlying42 (by kernel_rfl) deep63
theorem fit49 : Fit Tryd.prog 49 k49 := ⟨⟨Tryd.t49, inf49, rfl, rfl⟩, ⟨5, Tryd.t5, Tryd.underlying49, inf5, rfl, rfl, (fun k h => by cases h; exact Tryd.underlying5), (fun _ => rfl)⟩⟩
theorem deep49 : Deep Tryd.prog 49 k49 := .sl Tryd.underlying49 (by kernel_rfl) deep5
theorem fit56 : Fit Tryd.prog 56 k56 := ⟨⟨Tryd.t56, inf56, rfl, by kernel_rfl⟩, (show Tryd.prog.underlying 56 = some (.interface (Tryd.prog.methodsAt 56)) by kernel_rfl)⟩
theorem fit57 : Fit Tryd.prog 57 k57 := ⟨⟨Tryd.t57, inf57, rfl, by kernel_rfl⟩, (show Tryd.prog.underlying 57 = some (.interface (Tryd.prog.methodsAt 57)) by kernel_rfl)⟩
theorem fit62 : Fit Tryd.prog 62 k62 := ⟨⟨Tryd.t62, inf62, rfl, rfl⟩, ⟨_, Tryd.underlying62, rfl⟩⟩
theorem sf62 : SFact Tryd.prog 62 [(0, k9), (1, k3), (2, k4)] := ⟨_, Tryd.underlying62, ⟨⟨rfl, fit9⟩, ⟨⟨rfl, fit3⟩, ⟨⟨rfl, fit4⟩, trivial⟩⟩⟩⟩
theorem deep62 : Deep Tryd.prog 62 k62 := .pair Tryd.underlying62 (by kernel_rfl) (DeepF.cons rfl (by kernel_rfl) deep9 (DeepF.cons rfl (by kernel_rfl) deep3 (DeepF.last rfl (by kernel_rfl) deep4)))
theorem fit64 : Fit Tryd.prog 64 k64 := ⟨⟨Tryd.t64, inf64, rfl, rfl⟩, ⟨3, Tryd.t3, Tryd.underlying64, inf3, rfl, rfl, (fun k h => by cases h; exact Tryd.underlying3), (fun h => nomatch h)⟩⟩
theorem deep64 : Deep Tryd.prog 64 k64 := .sl Tryd.underlying64 (by kernel_rfl) deep3
theorem fit66 : Fit Tryd.prog 66 k66 := ⟨⟨Tryd.t66, inf66, rfl, by kernel_rfl⟩, ⟨_, Tryd.underlying66, rfl⟩⟩
theorem fit67 : Fit Tryd.prog 67 k67 := ⟨⟨Tryd.t67, inf67, rfl, rfl⟩, Tryd.underlying67⟩
theorem deep67 : Deep Tryd.prog 67 k67 := .int Tryd.underlying67
theorem eq67 : EqOk Tryd.prog 1 67 k67 := eq_int Tryd.underlying67
theorem fit69 : Fit Tryd.prog 69 k69 := ⟨⟨Tryd.t69, inf69, rfl, rfl⟩, Tryd.underlying69⟩
theorem deep69 : Deep Tryd.prog 69 k69 := .int Tryd.underlying69
theorem eq69 : EqOk Tryd.prog 1 69 k69 := eq_int Tryd.underlying69
theorem fit77 : Fit Tryd.prog 77 k77 := ⟨⟨Tryd.t77, inf77, rfl, by kernel_rfl⟩, ⟨_, Tryd.underlying77⟩⟩
theorem fit78 : Fit Tryd.prog 78 k78 := ⟨⟨Tryd.t78, inf78, rfl, rfl⟩, ⟨_, Tryd.underlying78, rfl⟩⟩
theorem sf78 : SFact Tryd.prog 78 [(0, k77), (1, k49)] := ⟨_, Tryd.underlying78, ⟨⟨rfl, fit77⟩, ⟨⟨rfl, fit49⟩, trivial⟩⟩⟩
theorem fit79 : Fit Tryd.prog 79 k79 := ⟨⟨Tryd.t79, inf79, rfl, rfl⟩, ⟨_, Tryd.underlying79, rfl⟩⟩
theorem sf79 : SFact Tryd.prog 79 [(0, k77), (1, k49)] := ⟨_, Tryd.underlying79, ⟨⟨rfl, fit77⟩, ⟨⟨rfl, fit49⟩, trivial⟩⟩⟩
theorem fit84 : Fit Tryd.prog 84 k84 := ⟨⟨Tryd.t84, inf84, rfl, rfl⟩, Tryd.underlying84⟩
theorem deep84 : Deep Tryd.prog 84 k84 := .int Tryd.underlying84
theorem eq84 : EqOk Tryd.prog 1 84 k84 := eq_int Tryd.underlying84
theorem fit91 : Fit Tryd.prog 91 k91 := ⟨⟨Tryd.t91, inf91, rfl, by kernel_rfl⟩, ⟨_, Tryd.underlying91, rfl⟩⟩
theorem fit92 : Fit Tryd.prog 92 k92 := ⟨⟨Tryd.t92, inf92, rfl, by kernel_rfl⟩, ⟨_, Tryd.underlying92, rfl⟩⟩
theorem fit101 : Fit Tryd.prog 101 k101 := ⟨⟨Tryd.t101, inf101, rfl, rfl⟩, ⟨_, Tryd.underlying101, rfl⟩⟩
theorem sf101 : SFact Tryd.prog 101 [(0, k9), (1, k9), (2, k57)] := ⟨_, Tryd.underlying101, ⟨⟨rfl, fit9⟩, ⟨⟨rfl, fit9⟩, ⟨⟨rfl, fit57⟩, trivial⟩⟩⟩⟩
theorem fit102 : Fit Tryd.prog 102 k102 := ⟨⟨Tryd.t102, inf102, rfl, rfl⟩, ⟨_, Tryd.underlying102, rfl⟩⟩
theorem sf102 : SFact Tryd.prog 102 [(0, k9), (1, k9), (2, k57)] := ⟨_, Tryd.underlying102, ⟨⟨rfl, fit9⟩, ⟨⟨rfl, fit9⟩, ⟨⟨rfl, fit57⟩, trivial⟩⟩⟩⟩
theorem fit104 : Fit Tryd.prog 104 k104 := ⟨⟨Tryd.t104, inf104, rfl, by kernel_rfl⟩, ⟨_, Tryd.underlying104, rfl⟩⟩
theorem fit112 : Fit Tryd.prog 112 k112 := ⟨⟨Tryd.t112, inf112, rfl, by kernel_rfl⟩, ⟨_, Tryd.underlying112, rfl⟩⟩
theorem fit113 : Fit Tryd.prog 113 k113 := ⟨⟨Tryd.t113, inf113, rfl, rfl⟩, ⟨_, Tryd.underlying113, rfl⟩⟩
theorem sf113 : SFact Tryd.prog 113 [(0, k5), (1, k5)] := ⟨_, Tryd.underlying113, ⟨⟨rfl, fit5⟩, ⟨⟨rfl, fit5⟩, trivial⟩⟩⟩
theorem deep113 : Deep Tryd.prog 113 k113 := .pair Tryd.underlying113 (by kernel_rfl) (DeepF.cons rfl (by kernel_rfl) deep5 (DeepF.last rfl (by kernel_rfl) deep5))
theorem fit114 : Fit Tryd.prog 114 k114 := ⟨⟨Tryd.t114, inf114, rfl, rfl⟩, ⟨_, Tryd.underlying114, rfl⟩⟩
theorem sf114 : SFact Tryd.prog 114 [(0, k5), (1, k5)] := ⟨_, Tryd.underlying114, ⟨⟨rfl, fit5⟩, ⟨⟨rfl, fit5⟩, trivial⟩⟩⟩
theorem deep114 : Deep Tryd.prog 114 k114 := .pair Tryd.underlying114 (by kernel_rfl) (DeepF.cons rfl (by kernel_rfl) deep5 (DeepF.last rfl (by kernel_rfl) deep5))
theorem fit115 : Fit Tryd.prog 115 k115 := ⟨⟨Tryd.t115, inf115, rfl, by kernel_rfl⟩, ⟨_, Tryd.underlying115, rfl⟩⟩
theorem fit119 : Fit Tryd.prog 119 k119 := ⟨⟨Tryd.t119, inf119, rfl, rfl⟩, ⟨_, Tryd.underlying119, rfl⟩⟩
theorem sf119 : SFact Tryd.prog 119 [(0, k9)] := ⟨_, Tryd.underlying119, ⟨⟨rfl, fit9⟩, trivial⟩⟩
theorem deep119 : Deep Tryd.prog 119 k119 := .wrap Tryd.underlying119 (by kernel_rfl) rfl (DeepF.last rfl (by kernel_rfl) deep9)
theorem fit120 : Fit Tryd.prog 120 k120 := ⟨⟨Tryd.t120, inf120, rfl, rfl⟩, ⟨_, Tryd.underlying120, rfl⟩⟩
theorem sf120 : SFact Tryd.prog 120 [(0, k9)] := ⟨_, Tryd.underlying120, ⟨⟨rfl, fit9⟩, trivial⟩⟩
theorem deep120 : Deep Tryd.prog 120 k120 := .wrap Tryd.underlying120 (by kernel_rfl) rfl (DeepF.last rfl (by kernel_rfl) deep9)
theorem fit122 : Fit Tryd.prog 122 k122 := ⟨⟨Tryd.t122, inf122, rfl, by kernel_rfl⟩, ⟨_, Tryd.underlying122, rfl⟩⟩
theorem fit123 : Fit Tryd.prog 123 k123 := ⟨⟨Tryd.t123, inf123, rfl, rfl⟩, Tryd.underlying123⟩
theorem deep123 : Deep Tryd.prog 123 k123 := .int Tryd.underlying123
theorem eq123 : EqOk Tryd.prog 1 123 k123 := eq_int Tryd.underlying123
theorem fit124 : Fit Tryd.prog 124 k124 := ⟨⟨Tryd.t124, inf124, rfl, by kernel_rfl⟩, ⟨_, Tryd.underlying124, rfl⟩⟩
theorem fit129 : Fit Tryd.prog 129 k129 := ⟨⟨Tryd.t129, inf129, rfl, by kernel_rfl⟩, ⟨_, Tryd.underlying129, rfl⟩⟩
theorem fit130 : Fit Tryd.prog 130 k130 := ⟨⟨Tryd.t130, inf130, rfl, by kernel_rfl⟩, ⟨_, Tryd.underlying130, rfl⟩⟩
theorem fit137 : Fit Tryd.prog 137 k137 := ⟨⟨Tryd.t137, inf137, rfl, rfl⟩, Tryd.underlying137⟩
theorem deep137 : Deep Tryd.prog 137 k137 := .int Tryd.underlying137
theorem eq137 : EqOk Tryd.prog 1 137 k137 := eq_int Tryd.underlying137
theorem fit138 : Fit Tryd.prog 138 k138 := ⟨⟨Tryd.t138, inf138, rfl, rfl⟩, Tryd.underlying138⟩
theorem deep138 : Deep Tryd.prog 138 k138 := .int Tryd.underlying138
theorem eq138 : EqOk Tryd.prog 1 138 k138 := eq_int Tryd.underlying138
theorem fit140 : Fit Tryd.prog 140 k140 := ⟨⟨Tryd.t140, inf140, rfl, rfl⟩, Tryd.underlying140⟩
theorem deep140 : Deep Tryd.prog 140 k140 := .int Tryd.underlying140
theorem eq140 : EqOk Tryd.prog 1 140 k140 := eq_int Tryd.underlying140
theorem fit141 : Fit Tryd.prog 141 k141 := ⟨⟨Tryd.t141, inf141, rfl, rfl⟩, Tryd.underlying141⟩
theorem deep141 : Deep Tryd.prog 141 k141 := .int Tryd.underlying141
theorem eq141 : EqOk Tryd.prog 1 141 k141 := eq_int Tryd.underlying141
theorem ar66 : ArFact Tryd.prog 66 10 k5 := ⟨5, Tryd.underlying66, fit5, by decide, Tryd.t66, inf66, by kernel_rfl⟩
theorem ar91 : ArFact Tryd.prog 91 64 k4 := ⟨4, Tryd.underlying91, fit4, by decide, Tryd.t91, inf91, by kernel_rfl⟩
theorem ar92 : ArFact Tryd.prog 92 64 k4 := ⟨4, Tryd.underlying92, fit4, by decide, Tryd.t92, inf92, by kernel_rfl⟩
theorem ar104 : ArFact Tryd.prog 104 24 k5 := ⟨5, Tryd.underlying104, fit5, by decide, Tryd.t104, inf104, by kernel_rfl⟩
theorem ar112 : ArFact Tryd.prog 112 256 k5 := ⟨5, Tryd.underlying112, fit5, by decide, Tryd.t112, inf112, by kernel_rfl⟩
theorem ar115 : ArFact Tryd.prog 115 16 k114 := ⟨114, Tryd.underlying115, fit114, by decide, Tryd.t115, inf115, by kernel_rfl⟩
theorem ar122 : ArFact Tryd.prog 122 20 k67 := ⟨67, Tryd.underlying122, fit67, by decide, Tryd.t122, inf122, by kernel_rfl⟩
theorem ar124 : ArFact Tryd.prog 124 65 k5 := ⟨5, Tryd.underlying124, fit5, by decide, Tryd.t124, inf124, by kernel_rfl⟩
theorem ar129 : ArFact Tryd.prog 129 32 k5 := ⟨5, Tryd.underlying129, fit5, by decide, Tryd.t129, inf129, by kernel_rfl⟩
theorem ar130 : ArFact Tryd.prog 130 64 k5 := ⟨5, Tryd.underlying130, fit5, by decide, Tryd.t130, inf130, by kernel_rfl⟩

@[reducible] def tab : Tab where
  ty := [(2, k2), (3, k3), (4, k4), (5, k5), (6, k6), (7, k7), (8, k8), (9, k9), (10, k10), (11, k11), (12, k12), (13, k13), (14, k14), (21, k21), (22, k22), (23, k23), (27, k27), (28, k28), (30, k30), (63, k63), (42, k42), (49, k49), (56, k56), (57, k57), (62, k62), (64, k64), (66, k66), (67, k67), (69, k69), (79, k79), (84, k84), (91, k91), (92, k92), (101, k101), (102, k102), (104, k104), (112, k112), (113, k113), (114, k114), (115, k115), (119, k119), (120, k120), (122, k122), (123, k123), (124, k124), (129, k129), (130, k130), (137, k137), (138, k138), (140, k140), (141, k141)]
  fo := [(7, [(0, k2), (1, k3), (2, k4), (3, k6)]), (8, [(0, k2), (1, k3), (2, k4), (3, k6)]), (13, [(0, k9), (1, k12)]), (14, [(0, k9), (1, k12)]), (22, [(0, k3), (1, k3), (2, k9)]), (23, [(0, k3), (1, k3), (2, k9)]), (63, [(0, k9), (1, k3), (2, k4)]), (62, [(0, k9), (1, k3), (2, k4)]), (78, [(0, k77), (1, k49)]), (79, [(0, k77), (1, k49)]), (101, [(0, k9), (1, k9), (2, k57)]), (102, [(0, k9), (1, k9), (2, k57)]), (113, [(0, k5), (1, k5)]), (114, [(0, k5), (1, k5)]), (119, [(0, k9)]), (120, [(0, k9)])]
  ar := [(66, (10, k5)), (91, (64, k4)), (92, (64, k4)), (104, (24, k5)), (112, (256, k5)), (115, (16, k114)), (122, (20, k67)), (124, (65, k5)), (129, (32, k5)), (130, (64, k5))]
  by_ := [(27, 32), (28, 32), (42, 32), (49, 1), (64, 8)]
  eq := [(4, k4), (7, k7), (8, k8), (22, k22), (23, k23)]

theorem tabOk : TabOk Tryd.prog tab where
  ty := ⟨⟨fit2, trivial, (fun h => nomatch h)⟩, ⟨⟨fit3, trivial, (fun h => nomatch h)⟩, ⟨⟨fit4, trivial, (fun h => nomatch h)⟩, ⟨⟨fit5, trivial, (fun h => nomatch h)⟩, ⟨⟨fit6, trivial, (fun h => nomatch h)⟩, ⟨⟨fit7, trivial, (fun _ => ⟨_, rfl⟩)⟩, ⟨⟨fit8, trivial, (fun _ => ⟨_, rfl⟩)⟩, ⟨⟨fit9, trivial, (fun h => nomatch h)⟩, ⟨⟨fit10, trivial, (fun h => nomatch h)⟩, ⟨⟨fit11, trivial, (fun h => nomatch h)⟩, ⟨⟨fit12, trivial, (fun h => nomatch h)⟩, ⟨⟨fit13, trivial, (fun _ => ⟨_, rfl⟩)⟩, ⟨⟨fit14, trivial, (fun _ => ⟨_, rfl⟩)⟩, ⟨⟨fit21, trivial, (fun h => nomatch h)⟩, ⟨⟨fit22, trivial, (fun _ => ⟨_, rfl⟩)⟩, ⟨⟨fit23, trivial, (fun _ => ⟨_, rfl⟩)⟩, ⟨⟨fit27, ⟨23, Tryd.t23, Tryd.underlying27, inf23, rfl, by decide⟩, (fun h => nomatch h)⟩, ⟨⟨fit28, ⟨23, Tryd.t23, Tryd.underlying28, inf23, rfl, by decide⟩, (fun h => nomatch h)⟩, ⟨⟨fit30, trivial, (fun h => nomatch h)⟩, ⟨⟨fit63, trivial, (fun _ => ⟨_, rfl⟩)⟩, ⟨⟨fit42, ⟨63, Tryd.t63, Tryd.underlying42, inf63, rfl, by decide⟩, (fun h => nomatch h)⟩, ⟨⟨fit49, ⟨5, Tryd.t5, Tryd.underlying49, inf5, rfl, by decide⟩, (fun h => nomatch h)⟩, ⟨⟨fit56, trivial, (fun h => nomatch h)⟩, ⟨⟨fit57, trivial, (fun h => nomatch h)⟩, ⟨⟨fit62, trivial, (fun _ => ⟨_, rfl⟩)⟩, ⟨⟨fit64, ⟨3, Tryd.t3, Tryd.underlying64, inf3, rfl, by decide⟩, (fun h => nomatch h)⟩, ⟨⟨fit66, trivial, (⟨rfl, rfl⟩)⟩, ⟨⟨fit67, trivial, (fun h => nomatch h)⟩, ⟨⟨fit69, trivial, (fun h => nomatch h)⟩, ⟨⟨fit79, trivial, (fun _ => ⟨_, rfl⟩)⟩, ⟨⟨fit84, trivial, (fun h => nomatch h)⟩, ⟨⟨fit91, trivial, (⟨rfl, rfl⟩)⟩, ⟨⟨fit92, trivial, (⟨rfl, rfl⟩)⟩, ⟨⟨fit101, trivial, (fun _ => ⟨_, rfl⟩)⟩, ⟨⟨fit102, trivial, (fun _ => ⟨_, rfl⟩)⟩, ⟨⟨fit104, trivial, (⟨rfl, rfl⟩)⟩, ⟨⟨fit112, trivial, (⟨rfl, rfl⟩)⟩, ⟨⟨fit113, trivial, (fun _ => ⟨_, rfl⟩)⟩, ⟨⟨fit114, trivial, (fun _ => ⟨_, rfl⟩)⟩, ⟨⟨fit115, trivial, (⟨rfl, rfl⟩)⟩, ⟨⟨fit119, trivial, (fun _ => ⟨_, rfl⟩)⟩, ⟨⟨fit120, trivial, (fun _ => ⟨_, rfl⟩)⟩, ⟨⟨fit122, trivial, (⟨rfl, rfl⟩)⟩, ⟨⟨fit123, trivial, (fun h => nomatch h)⟩, ⟨⟨fit124, trivial, (⟨rfl, rfl⟩)⟩, ⟨⟨fit129, trivial, (⟨rfl, rfl⟩)⟩, ⟨⟨fit130, trivial, (⟨rfl, rfl⟩)⟩, ⟨⟨fit137, trivial, (fun h => nomatch h)⟩, ⟨⟨fit138, trivial, (fun h => nomatch h)⟩, ⟨⟨fit140, trivial, (fun h => nomatch h)⟩, ⟨⟨fit141, trivial, (fun h => nomatch h)⟩, trivial⟩⟩⟩⟩⟩⟩⟩⟩⟩⟩⟩⟩⟩⟩⟩⟩⟩⟩⟩⟩⟩⟩⟩⟩⟩⟩⟩⟩⟩⟩⟩⟩⟩⟩⟩⟩⟩⟩⟩⟩⟩⟩⟩⟩⟩⟩⟩⟩⟩⟩⟩
  fo := ⟨sf7, ⟨sf8, ⟨sf13, ⟨sf14, ⟨sf22, ⟨sf23, ⟨sf63, ⟨sf62, ⟨sf78, ⟨sf79, ⟨sf101, ⟨sf102, ⟨sf113, ⟨sf114, ⟨sf119, ⟨sf120, trivial⟩⟩⟩⟩⟩⟩⟩⟩⟩⟩⟩⟩⟩⟩⟩⟩
  ar := ⟨ar66, ⟨ar91, ⟨ar92, ⟨ar104, ⟨ar112, ⟨ar115, ⟨ar122, ⟨ar124, ⟨ar129, ⟨ar130, trivial⟩⟩⟩⟩⟩⟩⟩⟩⟩⟩
  eq := ⟨.inr ⟨rfl, Tryd.underlying4⟩, ⟨.inl ⟨rfl, Tryd.eqGuardType7, EqOk.mono eq7 (by decide)⟩, ⟨.inl ⟨rfl, Tryd.eqGuardType8, EqOk.mono eq8 (by decide)⟩, ⟨.inl ⟨rfl, Tryd.eqGuardType22, EqOk.mono eq22 (by decide)⟩, ⟨.inl ⟨rfl, Tryd.eqGuardType23, EqOk.mono eq23 (by decide)⟩, trivial⟩⟩⟩⟩⟩
  slf := by kernel_rfl
  byt := ⟨(fun h => nomatch h), ⟨(fun h => nomatch h), ⟨(fun h => nomatch h), ⟨(fun h => nomatch h), ⟨(fun h => nomatch h), ⟨(fun h => nomatch h), ⟨(fun h => nomatch h), ⟨(fun h => nomatch h), ⟨(fun h => nomatch h), ⟨(fun h => nomatch h), ⟨(fun h => nomatch h), ⟨(fun h => nomatch h), ⟨(fun h => nomatch h), ⟨(fun h => nomatch h), ⟨(fun h => nomatch h), ⟨(fun h => nomatch h), ⟨(fun h => nomatch h), ⟨(fun h => nomatch h), ⟨(fun h => nomatch h), ⟨(fun h => nomatch h), ⟨(fun h => nomatch h), ⟨(fun _ => Tryd.underlying49), ⟨(fun h => nomatch h), ⟨(fun h => nomatch h), ⟨(fun h => nomatch h), ⟨(fun h => nomatch h), ⟨(fun h => nomatch h), ⟨(fun h => nomatch h), ⟨(fun h => nomatch h), ⟨(fun h => nomatch h), ⟨(fun h => nomatch h), ⟨(fun h => nomatch h), ⟨(fun h => nomatch h), ⟨(fun h => nomatch h), ⟨(fun h => nomatch h), ⟨(fun h => nomatch h), ⟨(fun h => nomatch h), ⟨(fun h => nomatch h), ⟨(fun h => nomatch h), ⟨(fun h => nomatch h), ⟨(fun h => nomatch h), ⟨(fun h => nomatch h), ⟨(fun h => nomatch h), ⟨(fun h => nomatch h), ⟨(fun h => nomatch h), ⟨(fun h => nomatch h), ⟨(fun h => nomatch h), ⟨(fun h => nomatch h), ⟨(fun h => nomatch h), ⟨(fun h => nomatch h), ⟨(fun h => nomatch h), trivial⟩⟩⟩⟩⟩⟩⟩⟩⟩⟩⟩⟩⟩⟩⟩⟩⟩⟩⟩⟩⟩⟩⟩⟩⟩⟩⟩⟩⟩⟩⟩⟩⟩⟩⟩⟩⟩⟩⟩⟩⟩⟩⟩⟩⟩⟩⟩⟩⟩⟩⟩
  mixed := by kernel_rfl

end Go.Proofs.YtkfffcnililmkaaDoor.Am

