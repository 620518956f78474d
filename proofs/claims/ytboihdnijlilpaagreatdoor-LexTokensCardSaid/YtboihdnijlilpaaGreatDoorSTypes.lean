import Derived.Test.YtboihdnijlilpaaGreatDoorAmGen
import Derived.Test.YtboihdnijlilpaaGreatDoorSLay
import Derived.Test.YtboihdnijlilpaaGreatDoorProg
import Derived.KernelRfl
/- PRINTED by gen/types.py of this repo: what the seat's types are. -/
namespace Go.Proofs.YtboihdnijlilpaaGreatDoor.Am
open Go.AM

@[reducible] def k2 : Ty := .int .i64
@[reducible] def k3 : Ty := .int .i64
@[reducible] def k4 : Ty := .bool
@[reducible] def k5 : Ty := .int .u8
@[reducible] def k6 : Ty := .int .u8
@[reducible] def k7 : Ty := .pair k2 (.pair k3 (.pair k4 k6))
@[reducible] def k8 : Ty := .pair k2 (.pair k3 (.pair k4 k6))
@[reducible] def k9 : Ty := .str
@[reducible] def k10 : Ty := .str
@[reducible] def k11 : Ty := .str
@[reducible] def k12 : Ty := .int .u64
@[reducible] def k13 : Ty := .pair k9 k12
@[reducible] def k14 : Ty := .pair k9 k12
@[reducible] def k21 : Ty := .int .i32
@[reducible] def k30 : Ty := .pair k3 (.pair k9 (.pair k3 k3))
@[reducible] def k23 : Ty := .sl k30
@[reducible] def k24 : Ty := .int .i64
@[reducible] def k29 : Ty := .pair k3 (.pair k9 (.pair k3 k3))
@[reducible] def k32 : Ty := .pair k9 k3
@[reducible] def k33 : Ty := .pair k9 k3
@[reducible] def k42 : Ty := .sl k9
@[reducible] def k52 : Ty := .pair k3 (.pair k3 k9)
@[reducible] def k53 : Ty := .pair k3 (.pair k3 k9)
@[reducible] def k56 : Ty := .lk false
@[reducible] def k57 : Ty := .sl k5
@[reducible] def k58 : Ty := .pair k56 k57
@[reducible] def k59 : Ty := .pair k56 k57
@[reducible] def k61 : Ty := .lk true
@[reducible] def k62 : Ty := .lk true
@[reducible] def k65 : Ty := .arr 255 k4
@[reducible] def k66 : Ty := .arr 255 k4
@[reducible] def k82 : Ty := .int .u64
@[reducible] def k91 : Ty := .int .u32
@[reducible] def k96 : Ty := .int .i64
@[reducible] def k102 : Ty := .arr 255 k5
@[reducible] def k103 : Ty := .pair k5 k5
@[reducible] def k104 : Ty := .pair k5 k5
@[reducible] def k105 : Ty := .arr 15 k104
@[reducible] def k108 : Ty := .int .u64
@[reducible] def k112 : Ty := .pair k9 (.pair k9 k62)
@[reducible] def k113 : Ty := .pair k9 (.pair k9 k62)
@[reducible] def k119 : Ty := .wrap k9
@[reducible] def k120 : Ty := .wrap k9
@[reducible] def k121 : Ty := .arr 23 k5
@[reducible] def k127 : Ty := .arr 19 k108
@[reducible] def k128 : Ty := .arr 64 k5
@[reducible] def k132 : Ty := .arr 31 k5
@[reducible] def k133 : Ty := .arr 63 k5
@[reducible] def k139 : Ty := .int .u8
@[reducible] def k140 : Ty := .int .u8
@[reducible] def k142 : Ty := .int .i32
@[reducible] def k143 : Ty := .int .i32

theorem inf2 : Tryz.prog.info? 2 = some Tryz.t2 := by kernel_rfl
theorem inf3 : Tryz.prog.info? 3 = some Tryz.t3 := by kernel_rfl
theorem inf4 : Tryz.prog.info? 4 = some Tryz.t4 := by kernel_rfl
theorem inf5 : Tryz.prog.info? 5 = some Tryz.t5 := by kernel_rfl
theorem inf6 : Tryz.prog.info? 6 = some Tryz.t6 := by kernel_rfl
theorem inf7 : Tryz.prog.info? 7 = some Tryz.t7 := by kernel_rfl
theorem inf8 : Tryz.prog.info? 8 = some Tryz.t8 := by kernel_rfl
theorem inf9 : Tryz.prog.info? 9 = some Tryz.t9 := by kernel_rfl
theorem inf10 : Tryz.prog.info? 10 = some Tryz.t10 := by kernel_rfl
theorem inf11 : Tryz.prog.info? 11 = some Tryz.t11 := by kernel_rfl
theorem inf12 : Tryz.prog.info? 12 = some Tryz.t12 := by kernel_rfl
theorem inf13 : Tryz.prog.info? 13 = some Tryz.t13 := by kernel_rfl
theorem inf14 : Tryz.prog.info? 14 = some Tryz.t14 := by kernel_rfl
theorem inf21 : Tryz.prog.info? 21 = some Tryz.t21 := by kernel_rfl
theorem inf30 : Tryz.prog.info? 30 = some Tryz.t30 := by kernel_rfl
theorem inf23 : Tryz.prog.info? 23 = some Tryz.t23 := by kernel_rfl
theorem inf24 : Tryz.prog.info? 24 = some Tryz.t24 := by kernel_rfl
theorem inf29 : Tryz.prog.info? 29 = some Tryz.t29 := by kernel_rfl
theorem inf32 : Tryz.prog.info? 32 = some Tryz.t32 := by kernel_rfl
theorem inf33 : Tryz.prog.info? 33 = some Tryz.t33 := by kernel_rfl
theorem inf42 : Tryz.prog.info? 42 = some Tryz.t42 := by kernel_rfl
theorem inf52 : Tryz.prog.info? 52 = some Tryz.t52 := by kernel_rfl
theorem inf53 : Tryz.prog.info? 53 = some Tryz.t53 := by kernel_rfl
theorem inf56 : Tryz.prog.info? 56 = some Tryz.t56 := by kernel_rfl
theorem inf57 : Tryz.prog.info? 57 = some Tryz.t57 := by kernel_rfl
theorem inf58 : Tryz.prog.info? 58 = some Tryz.t58 := by kernel_rfl
theorem inf59 : Tryz.prog.info? 59 = some Tryz.t59 := by kernel_rfl
theorem inf61 : Tryz.prog.info? 61 = some Tryz.t61 := by kernel_rfl
theorem inf62 : Tryz.prog.info? 62 = some Tryz.t62 := by kernel_rfl
theorem inf65 : Tryz.prog.info? 65 = some Tryz.t65 := by kernel_rfl
theorem inf66 : Tryz.prog.info? 66 = some Tryz.t66 := by kernel_rfl
theorem inf82 : Tryz.prog.info? 82 = some Tryz.t82 := by kernel_rfl
theorem inf91 : Tryz.prog.info? 91 = some Tryz.t91 := by kernel_rfl
theorem inf96 : Tryz.prog.info? 96 = some Tryz.t96 := by kernel_rfl
theorem inf102 : Tryz.prog.info? 102 = some Tryz.t102 := by kernel_rfl
theorem inf103 : Tryz.prog.info? 103 = some Tryz.t103 := by kernel_rfl
theorem inf104 : Tryz.prog.info? 104 = some Tryz.t104 := by kernel_rfl
theorem inf105 : Tryz.prog.info? 105 = some Tryz.t105 := by kernel_rfl
theorem inf108 : Tryz.prog.info? 108 = some Tryz.t108 := by kernel_rfl
theorem inf112 : Tryz.prog.info? 112 = some Tryz.t112 := by kernel_rfl
theorem inf113 : Tryz.prog.info? 113 = some Tryz.t113 := by kernel_rfl
theorem inf119 : Tryz.prog.info? 119 = some Tryz.t119 := by kernel_rfl
theorem inf120 : Tryz.prog.info? 120 = some Tryz.t120 := by kernel_rfl
theorem inf121 : Tryz.prog.info? 121 = some Tryz.t121 := by kernel_rfl
theorem inf127 : Tryz.prog.info? 127 = some Tryz.t127 := by kernel_rfl
theorem inf128 : Tryz.prog.info? 128 = some Tryz.t128 := by kernel_rfl
theorem inf132 : Tryz.prog.info? 132 = some Tryz.t132 := by kernel_rfl
theorem inf133 : Tryz.prog.info? 133 = some Tryz.t133 := by kernel_rfl
theorem inf139 : Tryz.prog.info? 139 = some Tryz.t139 := by kernel_rfl
theorem inf140 : Tryz.prog.info? 140 = some Tryz.t140 := by kernel_rfl
theorem inf142 : Tryz.prog.info? 142 = some Tryz.t142 := by kernel_rfl
theorem inf143 : Tryz.prog.info? 143 = some Tryz.t143 := by kernel_rfl
theorem fit2 : Fit Tryz.prog 2 k2 := ⟨⟨Tryz.t2, inf2, rfl, rfl⟩, Tryz.underlying2⟩
theorem deep2 : Deep Tryz.prog 2 k2 := .int Tryz.underlying2
theorem eq2 : EqOk Tryz.prog 1 2 k2 := eq_int Tryz.underlying2
theorem fit3 : Fit Tryz.prog 3 k3 := ⟨⟨Tryz.t3, inf3, rfl, rfl⟩, Tryz.underlying3⟩
theorem deep3 : Deep Tryz.prog 3 k3 := .int Tryz.underlying3
theorem eq3 : EqOk Tryz.prog 1 3 k3 := eq_int Tryz.underlying3
theorem fit4 : Fit Tryz.prog 4 k4 := ⟨⟨Tryz.t4, inf4, rfl, rfl⟩, Tryz.underlying4⟩
theorem deep4 : Deep Tryz.prog 4 k4 := .bool Tryz.underlying4
theorem eq4 : EqOk Tryz.prog 1 4 k4 := eq_bool Tryz.underlying4
theorem fit5 : Fit Tryz.prog 5 k5 := ⟨⟨Tryz.t5, inf5, rfl, rfl⟩, Tryz.underlying5⟩
theorem deep5 : Deep Tryz.prog 5 k5 := .int Tryz.underlying5
theorem eq5 : EqOk Tryz.prog 1 5 k5 := eq_int Tryz.underlying5
theorem fit6 : Fit Tryz.prog 6 k6 := ⟨⟨Tryz.t6, inf6, rfl, rfl⟩, Tryz.underlying6⟩
theorem deep6 : Deep Tryz.prog 6 k6 := .int Tryz.underlying6
theorem eq6 : EqOk Tryz.prog 1 6 k6 := eq_int Tryz.underlying6
theorem fit7 : Fit Tryz.prog 7 k7 := ⟨⟨Tryz.t7, inf7, rfl, rfl⟩, ⟨_, Tryz.underlying7, rfl⟩⟩
theorem sf7 : SFact Tryz.prog 7 [(0, k2), (1, k3), (2, k4), (3, k6)] := ⟨_, Tryz.underlying7, ⟨⟨rfl, fit2⟩, ⟨⟨rfl, fit3⟩, ⟨⟨rfl, fit4⟩, ⟨⟨rfl, fit6⟩, trivial⟩⟩⟩⟩⟩
theorem deep7 : Deep Tryz.prog 7 k7 := .pair Tryz.underlying7 (by kernel_rfl) (DeepF.cons rfl (by kernel_rfl) deep2 (DeepF.cons rfl (by kernel_rfl) deep3 (DeepF.cons rfl (by kernel_rfl) deep4 (DeepF.last rfl (by kernel_rfl) deep6))))
theorem eq7 : EqOk Tryz.prog 2 7 k7 := eq_struct Tryz.underlying7 Tryz.stoodInHeld7 ⟨⟨by decide, rfl, fit2, EqOk.mono eq2 (by decide)⟩, ⟨⟨by decide, rfl, fit3, EqOk.mono eq3 (by decide)⟩, ⟨⟨by decide, rfl, fit4, EqOk.mono eq4 (by decide)⟩, ⟨by decide, rfl, fit6, EqOk.mono eq6 (by decide)⟩⟩⟩⟩
theorem fit8 : Fit Tryz.prog 8 k8 := ⟨⟨Tryz.t8, inf8, rfl, rfl⟩, ⟨_, Tryz.underlying8, rfl⟩⟩
theorem sf8 : SFact Tryz.prog 8 [(0, k2), (1, k3), (2, k4), (3, k6)] := ⟨_, Tryz.underlying8, ⟨⟨rfl, fit2⟩, ⟨⟨rfl, fit3⟩, ⟨⟨rfl, fit4⟩, ⟨⟨rfl, fit6⟩, trivial⟩⟩⟩⟩⟩
theorem deep8 : Deep Tryz.prog 8 k8 := .pair Tryz.underlying8 (by kernel_rfl) (DeepF.cons rfl (by kernel_rfl) deep2 (DeepF.cons rfl (by kernel_rfl) deep3 (DeepF.cons rfl (by kernel_rfl) deep4 (DeepF.last rfl (by kernel_rfl) deep6))))
theorem eq8 : EqOk Tryz.prog 2 8 k8 := eq_struct Tryz.underlying8 Tryz.stoodInHeld8 ⟨⟨by decide, rfl, fit2, EqOk.mono eq2 (by decide)⟩, ⟨⟨by decide, rfl, fit3, EqOk.mono eq3 (by decide)⟩, ⟨⟨by decide, rfl, fit4, EqOk.mono eq4 (by decide)⟩, ⟨by decide, rfl, fit6, EqOk.mono eq6 (by decide)⟩⟩⟩⟩
theorem fit9 : Fit Tryz.prog 9 k9 := ⟨⟨Tryz.t9, inf9, rfl, rfl⟩, Tryz.underlying9⟩
theorem deep9 : Deep Tryz.prog 9 k9 := .str Tryz.underlying9
theorem eq9 : EqOk Tryz.prog 1 9 k9 := eq_str Tryz.underlying9
theorem fit10 : Fit Tryz.prog 10 k10 := ⟨⟨Tryz.t10, inf10, rfl, rfl⟩, Tryz.underlying10⟩
theorem deep10 : Deep Tryz.prog 10 k10 := .str Tryz.underlying10
theorem eq10 : EqOk Tryz.prog 1 10 k10 := eq_str Tryz.underlying10
theorem fit11 : Fit Tryz.prog 11 k11 := ⟨⟨Tryz.t11, inf11, rfl, rfl⟩, Tryz.underlying11⟩
theorem deep11 : Deep Tryz.prog 11 k11 := .str Tryz.underlying11
theorem eq11 : EqOk Tryz.prog 1 11 k11 := eq_str Tryz.underlying11
theorem fit12 : Fit Tryz.prog 12 k12 := ⟨⟨Tryz.t12, inf12, rfl, rfl⟩, Tryz.underlying12⟩
theorem deep12 : Deep Tryz.prog 12 k12 := .int Tryz.underlying12
theorem eq12 : EqOk Tryz.prog 1 12 k12 := eq_int Tryz.underlying12
theorem fit13 : Fit Tryz.prog 13 k13 := ⟨⟨Tryz.t13, inf13, rfl, rfl⟩, ⟨_, Tryz.underlying13, rfl⟩⟩
theorem sf13 : SFact Tryz.prog 13 [(0, k9), (1, k12)] := ⟨_, Tryz.underlying13, ⟨⟨rfl, fit9⟩, ⟨⟨rfl, fit12⟩, trivial⟩⟩⟩
theorem deep13 : Deep Tryz.prog 13 k13 := .pair Tryz.underlying13 (by kernel_rfl) (DeepF.cons rfl (by kernel_rfl) deep9 (DeepF.last rfl (by kernel_rfl) deep12))
theorem fit14 : Fit Tryz.prog 14 k14 := ⟨⟨Tryz.t14, inf14, rfl, rfl⟩, ⟨_, Tryz.underlying14, rfl⟩⟩
theorem sf14 : SFact Tryz.prog 14 [(0, k9), (1, k12)] := ⟨_, Tryz.underlying14, ⟨⟨rfl, fit9⟩, ⟨⟨rfl, fit12⟩, trivial⟩⟩⟩
theorem deep14 : Deep Tryz.prog 14 k14 := .pair Tryz.underlying14 (by kernel_rfl) (DeepF.cons rfl (by kernel_rfl) deep9 (DeepF.last rfl (by kernel_rfl) deep12))
theorem fit21 : Fit Tryz.prog 21 k21 := ⟨⟨Tryz.t21, inf21, rfl, rfl⟩, Tryz.underlying21⟩
theorem deep21 : Deep Tryz.prog 21 k21 := .int Tryz.underlying21
theorem eq21 : EqOk Tryz.prog 1 21 k21 := eq_int Tryz.underlying21
theorem fit30 : Fit Tryz.prog 30 k30 := ⟨⟨Tryz.t30, inf30, rfl, rfl⟩, ⟨_, Tryz.underlying30, rfl⟩⟩
theorem sf30 : SFact Tryz.prog 30 [(0, k3), (1, k9), (2, k3), (3, k3)] := ⟨_, Tryz.underlying30, ⟨⟨rfl, fit3⟩, ⟨⟨rfl, fit9⟩, ⟨⟨rfl, fit3⟩, ⟨⟨rfl, fit3⟩, trivial⟩⟩⟩⟩⟩
theorem deep30 : Deep Tryz.prog 30 k30 := .pair Tryz.underlying30 (by kernel_rfl) (DeepF.cons rfl (by kernel_rfl) deep3 (DeepF.cons rfl (by kernel_rfl) deep9 (DeepF.cons rfl (by kernel_rfl) deep3 (DeepF.last rfl (by kernel_rfl) deep3))))
theorem eq30 : EqOk Tryz.prog 2 30 k30 := eq_struct Tryz.underlying30 Tryz.stoodInHeld30 ⟨⟨by decide, rfl, fit3, EqOk.mono eq3 (by decide)⟩, ⟨⟨by decide, rfl, fit9, EqOk.mono eq9 (by decide)⟩, ⟨⟨by decide, rfl, fit3, EqOk.mono eq3 (by decide)⟩, ⟨by decide, rfl, fit3, EqOk.mono eq3 (by decide)⟩⟩⟩⟩
theorem fit23 : Fit Tryz.prog 23 k23 := ⟨⟨Tryz.t23, inf23, rfl, rfl⟩, ⟨30, Tryz.t30, Tryz.underlying23, inf30, rfl, rfl, (fun _ h => nomatch h), (fun h => nomatch h)⟩⟩
theorem deep23 : Deep Tryz.prog 23 k23 := .sl Tryz.underlying23 (by kernel_rfl) deep30
theorem fit24 : Fit Tryz.prog 24 k24 := ⟨⟨Tryz.t24, inf24, rfl, rfl⟩, Tryz.underlying24⟩
theorem deep24 : Deep Tryz.prog 24 k24 := .int Tryz.underlying24
theorem eq24 : EqOk Tryz.prog 1 24 k24 := eq_int Tryz.underlying24
theorem fit29 : Fit Tryz.prog 29 k29 := ⟨⟨Tryz.t29, inf29, rfl, rfl⟩, ⟨_, Tryz.underlying29, rfl⟩⟩
theorem sf29 : SFact Tryz.prog 29 [(0, k3), (1, k9), (2, k3), (3, k3)] := ⟨_, Tryz.underlying29, ⟨⟨rfl, fit3⟩, ⟨⟨rfl, fit9⟩, ⟨⟨rfl, fit3⟩, ⟨⟨rfl, fit3⟩, trivial⟩⟩⟩⟩⟩
theorem deep29 : Deep Tryz.prog 29 k29 := .pair Tryz.underlying29 (by kernel_rfl) (DeepF.cons rfl (by kernel_rfl) deep3 (DeepF.cons rfl (by kernel_rfl) deep9 (DeepF.cons rfl (by kernel_rfl) deep3 (DeepF.last rfl (by kernel_rfl) deep3))))
theorem eq29 : EqOk Tryz.prog 2 29 k29 := eq_struct Tryz.underlying29 Tryz.stoodInHeld29 ⟨⟨by decide, rfl, fit3, EqOk.mono eq3 (by decide)⟩, ⟨⟨by decide, rfl, fit9, EqOk.mono eq9 (by decide)⟩, ⟨⟨by decide, rfl, fit3, EqOk.mono eq3 (by decide)⟩, ⟨by decide, rfl, fit3, EqOk.mono eq3 (by decide)⟩⟩⟩⟩
theorem fit32 : Fit Tryz.prog 32 k32 := ⟨⟨Tryz.t32, inf32, rfl, rfl⟩, ⟨_, Tryz.underlying32, rfl⟩⟩
theorem sf32 : SFact Tryz.prog 32 [(0, k9), (1, k3)] := ⟨_, Tryz.underlying32, ⟨⟨rfl, fit9⟩, ⟨⟨rfl, fit3⟩, trivial⟩⟩⟩
theorem deep32 : Deep Tryz.prog 32 k32 := .pair Tryz.underlying32 (by kernel_rfl) (DeepF.cons rfl (by kernel_rfl) deep9 (DeepF.last rfl (by kernel_rfl) deep3))
theorem eq32 : EqOk Tryz.prog 2 32 k32 := eq_struct Tryz.underlying32 Tryz.stoodInHeld32 ⟨⟨by decide, rfl, fit9, EqOk.mono eq9 (by decide)⟩, ⟨by decide, rfl, fit3, EqOk.mono eq3 (by decide)⟩⟩
theorem fit33 : Fit Tryz.prog 33 k33 := ⟨⟨Tryz.t33, inf33, rfl, rfl⟩, ⟨_, Tryz.underlying33, rfl⟩⟩
theorem sf33 : SFact Tryz.prog 33 [(0, k9), (1, k3)] := ⟨_, Tryz.underlying33, ⟨⟨rfl, fit9⟩, ⟨⟨rfl, fit3⟩, trivial⟩⟩⟩
theorem deep33 : Deep Tryz.prog 33 k33 := .pair Tryz.underlying33 (by kernel_rfl) (DeepF.cons rfl (by kernel_rfl) deep9 (DeepF.last rfl (by kernel_rfl) deep3))
theorem eq33 : EqOk Tryz.prog 2 33 k33 := eq_struct Tryz.underlying33 Tryz.stoodInHeld33 ⟨⟨by decide, rfl, fit9, EqOk.mono eq9 (by decide)⟩, ⟨by decide, rfl, fit3, EqOk.mono eq3 (by decide)⟩⟩
theorem fit42 : Fit Tryz.prog 42 k42 := ⟨⟨Tryz.t42, inf42, rfl, rfl⟩, ⟨9, Tryz.t9, Tryz.underlying42, inf9, rfl, rfl, (fun _ h => nomatch h), (fun h => nomatch h)⟩⟩
theorem deep42 : Deep Tryz.prog 42 k42 := .sl Tryz.underlying42 (by kernel_rfl) deep9
theorem fit52 : Fit Tryz.prog 52 k52 := ⟨⟨Tryz.t52, inf52, rfl, rfl⟩, ⟨_, Tryz.underlying52, rfl⟩⟩
theorem sf52 : SFact Tryz.prog 52 [(0, k3), (1, k3), (2, k9)] := ⟨_, Tryz.underlying52, ⟨⟨rfl, fit3⟩, ⟨⟨rfl, fit3⟩, ⟨⟨rfl, fit9⟩, trivial⟩⟩⟩⟩
theorem deep52 : Deep Tryz.prog 52 k52 := .pair Tryz.underlying52 (by kernel_rfl) (DeepF.cons rfl (by kernel_rfl) deep3 (DeepF.cons rfl (by kernel_rfl) deep3 (DeepF.last rfl (by kernel_rfl) deep9)))
theorem eq52 : EqOk Tryz.prog 2 52 k52 := eq_struct Tryz.underlying52 Tryz.stoodInHeld52 ⟨⟨by decide, rfl, fit3, EqOk.mono eq3 (by decide)⟩, ⟨⟨by decide, rfl, fit3, EqOk.mono eq3 (by decide)⟩, ⟨by decide, rfl, fit9, EqOk.mono eq9 (by decide)⟩⟩⟩
theorem fit53 : Fit Tryz.prog 53 k53 := ⟨⟨Tryz.t53, inf53, rfl, rfl⟩, ⟨_, Tryz.underlying53, rfl⟩⟩
theorem sf53 : SFact Tryz.prog 53 [(0, k3), (1, k3), (2, k9)] := ⟨_, Tryz.underlying53, ⟨⟨rfl, fit3⟩, ⟨⟨rfl, fit3⟩, ⟨⟨rfl, fit9⟩, trivial⟩⟩⟩⟩
theorem deep53 : Deep Tryz.prog 53 k53 := .pair Tryz.underlying53 (by kernel_rfl) (DeepF.cons rfl (by kernel_rfl) deep3 (DeepF.cons rfl (by kernel_rfl) deep3 (DeepF.last rfl (by kernel_rfl) deep9)))
theorem eq53 : EqOk Tryz.prog 2 53 k53 := eq_struct Tryz.underlying53 Tryz.stoodInHeld53 ⟨⟨by decide, rfl, fit3, EqOk.mono eq3 (by decide)⟩, ⟨⟨by decide, rfl, fit3, EqOk.mono eq3 (by decide)⟩, ⟨by decide, rfl, fit9, EqOk.mono eq9 (by decide)⟩⟩⟩
theorem fit56 : Fit Tryz.prog 56 k56 := ⟨⟨Tryz.t56, inf56, rfl, by kernel_rfl⟩, ⟨_, Tryz.underlying56⟩⟩
theorem fit57 : Fit Tryz.prog 57 k57 := ⟨⟨Tryz.t57, inf57, rfl, rfl⟩, ⟨5, Tryz.t5, Tryz.underlying57, inf5, rfl, rfl, (fun k h => by cases h; exact Tryz.underlying5), (fun _ => rfl)⟩⟩
theorem deep57 : Deep Tryz.prog 57 k57 := .sl Tryz.underlying57 (by kernel_rfl) deep5
theorem fit58 : Fit Tryz.prog 58 k58 := ⟨⟨Tryz.t58, inf58, rfl, rfl⟩, ⟨_, Tryz.underlying58, rfl⟩⟩
theorem sf58 : SFact Tryz.prog 58 [(0, k56), (1, k57)] := ⟨_, Tryz.underlying58, ⟨⟨rfl, fit56⟩, ⟨⟨rfl, fit57⟩, trivial⟩⟩⟩
theorem fit59 : Fit Tryz.prog 59 k59 := ⟨⟨Tryz.t59, inf59, rfl, rfl⟩, ⟨_, Tryz.underlying59, rfl⟩⟩
theorem sf59 : SFact Tryz.prog 59 [(0, k56), (1, k57)] := ⟨_, Tryz.underlying59, ⟨⟨rfl, fit56⟩, ⟨⟨rfl, fit57⟩, trivial⟩⟩⟩
theorem fit61 : Fit Tryz.prog 61 k61 := ⟨⟨Tryz.t61, inf61, rfl, by kernel_rfl⟩, (show Tryz.prog.underlying 61 = some (.interface (Tryz.prog.methodsAt 61)) by kernel_rfl)⟩
theorem fit62 : Fit Tryz.prog 62 k62 := ⟨⟨Tryz.t62, inf62, rfl, by kernel_rfl⟩, (show Tryz.prog.underlying 62 = some (.interface (Tryz.prog.methodsAt 62)) by kernel_rfl)⟩
theorem fit65 : Fit Tryz.prog 65 k65 := ⟨⟨Tryz.t65, inf65, rfl, by kernel_rfl⟩, ⟨_, Tryz.underlying65, rfl⟩⟩
theorem fit66 : Fit Tryz.prog 66 k66 := ⟨⟨Tryz.t66, inf66, rfl, by kernel_rfl⟩, ⟨_, Tryz.underlying66, rfl⟩⟩
theorem fit82 : Fit Tryz.prog 82 k82 := ⟨⟨Tryz.t82, inf82, rfl, rfl⟩, Tryz.underlying82⟩
theorem deep82 : Deep Tryz.prog 82 k82 := .int Tryz.underlying82
theorem eq82 : EqOk Tryz.prog 1 82 k82 := eq_int Tryz.underlying82
theorem fit91 : Fit Tryz.prog 91 k91 := ⟨⟨Tryz.t91, inf91, rfl, rfl⟩, Tryz.underlying91⟩
theorem deep91 : Deep Tryz.prog 91 k91 := .int Tryz.underlying91
theorem eq91 : EqOk Tryz.prog 1 91 k91 := eq_int Tryz.underlying91
theorem fit96 : Fit Tryz.prog 96 k96 := ⟨⟨Tryz.t96, inf96, rfl, rfl⟩, Tryz.underlying96⟩
theorem deep96 : Deep Tryz.prog 96 k96 := .int Tryz.underlying96
theorem eq96 : EqOk Tryz.prog 1 96 k96 := eq_int Tryz.underlying96
theorem fit102 : Fit Tryz.prog 102 k102 := ⟨⟨Tryz.t102, inf102, rfl, by kernel_rfl⟩, ⟨_, Tryz.underlying102, rfl⟩⟩
theorem fit103 : Fit Tryz.prog 103 k103 := ⟨⟨Tryz.t103, inf103, rfl, rfl⟩, ⟨_, Tryz.underlying103, rfl⟩⟩
theorem sf103 : SFact Tryz.prog 103 [(0, k5), (1, k5)] := ⟨_, Tryz.underlying103, ⟨⟨rfl, fit5⟩, ⟨⟨rfl, fit5⟩, trivial⟩⟩⟩
theorem deep103 : Deep Tryz.prog 103 k103 := .pair Tryz.underlying103 (by kernel_rfl) (DeepF.cons rfl (by kernel_rfl) deep5 (DeepF.last rfl (by kernel_rfl) deep5))
theorem fit104 : Fit Tryz.prog 104 k104 := ⟨⟨Tryz.t104, inf104, rfl, rfl⟩, ⟨_, Tryz.underlying104, rfl⟩⟩
theorem sf104 : SFact Tryz.prog 104 [(0, k5), (1, k5)] := ⟨_, Tryz.underlying104, ⟨⟨rfl, fit5⟩, ⟨⟨rfl, fit5⟩, trivial⟩⟩⟩
theorem deep104 : Deep Tryz.prog 104 k104 := .pair Tryz.underlying104 (by kernel_rfl) (DeepF.cons rfl (by kernel_rfl) deep5 (DeepF.last rfl (by kernel_rfl) deep5))
theorem fit105 : Fit Tryz.prog 105 k105 := ⟨⟨Tryz.t105, inf105, rfl, by kernel_rfl⟩, ⟨_, Tryz.underlying105, rfl⟩⟩
theorem fit108 : Fit Tryz.prog 108 k108 := ⟨⟨Tryz.t108, inf108, rfl, rfl⟩, Tryz.underlying108⟩
theorem deep108 : Deep Tryz.prog 108 k108 := .int Tryz.underlying108
theorem eq108 : EqOk Tryz.prog 1 108 k108 := eq_int Tryz.underlying108
theorem fit112 : Fit Tryz.prog 112 k112 := ⟨⟨Tryz.t112, inf112, rfl, rfl⟩, ⟨_, Tryz.underlying112, rfl⟩⟩
theorem sf112 : SFact Tryz.prog 112 [(0, k9), (1, k9), (2, k62)] := ⟨_, Tryz.underlying112, ⟨⟨rfl, fit9⟩, ⟨⟨rfl, fit9⟩, ⟨⟨rfl, fit62⟩, trivial⟩⟩⟩⟩
theorem fit113 : Fit Tryz.prog 113 k113 := ⟨⟨Tryz.t113, inf113, rfl, rfl⟩, ⟨_, Tryz.underlying113, rfl⟩⟩
theorem sf113 : SFact Tryz.prog 113 [(0, k9), (1, k9), (2, k62)] := ⟨_, Tryz.underlying113, ⟨⟨rfl, fit9⟩, ⟨⟨rfl, fit9⟩, ⟨⟨rfl, fit62⟩, trivial⟩⟩⟩⟩
theorem fit119 : Fit Tryz.prog 119 k119 := ⟨⟨Tryz.t119, inf119, rfl, rfl⟩, ⟨_, Tryz.underlying119, rfl⟩⟩
theorem sf119 : SFact Tryz.prog 119 [(0, k9)] := ⟨_, Tryz.underlying119, ⟨⟨rfl, fit9⟩, trivial⟩⟩
theorem deep119 : Deep Tryz.prog 119 k119 := .wrap Tryz.underlying119 (by kernel_rfl) rfl (DeepF.last rfl (by kernel_rfl) deep9)
theorem fit120 : Fit Tryz.prog 120 k120 := ⟨⟨Tryz.t120, inf120, rfl, rfl⟩, ⟨_, Tryz.underlying120, rfl⟩⟩
theorem sf120 : SFact Tryz.prog 120 [(0, k9)] := ⟨_, Tryz.underlying120, ⟨⟨rfl, fit9⟩, trivial⟩⟩
theorem deep120 : Deep Tryz.prog 120 k120 := .wrap Tryz.underlying120 (by kernel_rfl) rfl (DeepF.last rfl (by kernel_rfl) deep9)
theorem fit121 : Fit Tryz.prog 121 k121 := ⟨⟨Tryz.t121, inf121, rfl, by kernel_rfl⟩, ⟨_, Tryz.underlying121, rfl⟩⟩
theorem fit127 : Fit Tryz.prog 127 k127 := ⟨⟨Tryz.t127, inf127, rfl, by kernel_rfl⟩, ⟨_, Tryz.underlying127, rfl⟩⟩
theorem fit128 : Fit Tryz.prog 128 k128 := ⟨⟨Tryz.t128, inf128, rfl, by kernel_rfl⟩, ⟨_, Tryz.underlying128, rfl⟩⟩
theorem fit132 : Fit Tryz.prog 132 k132 := ⟨⟨Tryz.t132, inf132, rfl, by kernel_rfl⟩, ⟨_, Tryz.underlying132, rfl⟩⟩
theorem fit133 : Fit Tryz.prog 133 k133 := ⟨⟨Tryz.t133, inf133, rfl, by kernel_rfl⟩, ⟨_, Tryz.underlying133, rfl⟩⟩
theorem fit139 : Fit Tryz.prog 139 k139 := ⟨⟨Tryz.t139, inf139, rfl, rfl⟩, Tryz.underlying139⟩
theorem deep139 : Deep Tryz.prog 139 k139 := .int Tryz.underlying139
theorem eq139 : EqOk Tryz.prog 1 139 k139 := eq_int Tryz.underlying139
theorem fit140 : Fit Tryz.prog 140 k140 := ⟨⟨Tryz.t140, inf140, rfl, rfl⟩, Tryz.underlying140⟩
theorem deep140 : Deep Tryz.prog 140 k140 := .int Tryz.underlying140
theorem eq140 : EqOk Tryz.prog 1 140 k140 := eq_int Tryz.underlying140
theorem fit142 : Fit Tryz.prog 142 k142 := ⟨⟨Tryz.t142, inf142, rfl, rfl⟩, Tryz.underlying142⟩
theorem deep142 : Deep Tryz.prog 142 k142 := .int Tryz.underlying142
theorem eq142 : EqOk Tryz.prog 1 142 k142 := eq_int Tryz.underlying142
theorem fit143 : Fit Tryz.prog 143 k143 := ⟨⟨Tryz.t143, inf143, rfl, rfl⟩, Tryz.underlying143⟩
theorem deep143 : Deep Tryz.prog 143 k143 := .int Tryz.underlying143
theorem eq143 : EqOk Tryz.prog 1 143 k143 := eq_int Tryz.underlying143
theorem ar65 : ArFact Tryz.prog 65 256 k4 := ⟨4, Tryz.underlying65, fit4, by decide, Tryz.t65, inf65, by kernel_rfl⟩
theorem ar66 : ArFact Tryz.prog 66 256 k4 := ⟨4, Tryz.underlying66, fit4, by decide, Tryz.t66, inf66, by kernel_rfl⟩
theorem ar102 : ArFact Tryz.prog 102 256 k5 := ⟨5, Tryz.underlying102, fit5, by decide, Tryz.t102, inf102, by kernel_rfl⟩
theorem ar105 : ArFact Tryz.prog 105 16 k104 := ⟨104, Tryz.underlying105, fit104, by decide, Tryz.t105, inf105, by kernel_rfl⟩
theorem ar121 : ArFact Tryz.prog 121 24 k5 := ⟨5, Tryz.underlying121, fit5, by decide, Tryz.t121, inf121, by kernel_rfl⟩
theorem ar127 : ArFact Tryz.prog 127 20 k108 := ⟨108, Tryz.underlying127, fit108, by decide, Tryz.t127, inf127, by kernel_rfl⟩
theorem ar128 : ArFact Tryz.prog 128 65 k5 := ⟨5, Tryz.underlying128, fit5, by decide, Tryz.t128, inf128, by kernel_rfl⟩
theorem ar132 : ArFact Tryz.prog 132 32 k5 := ⟨5, Tryz.underlying132, fit5, by decide, Tryz.t132, inf132, by kernel_rfl⟩
theorem ar133 : ArFact Tryz.prog 133 64 k5 := ⟨5, Tryz.underlying133, fit5, by decide, Tryz.t133, inf133, by kernel_rfl⟩

@[reducible] def tab : Tab where
  ty := [(2, k2), (3, k3), (4, k4), (5, k5), (6, k6), (7, k7), (8, k8), (9, k9), (10, k10), (11, k11), (12, k12), (13, k13), (14, k14), (21, k21), (30, k30), (23, k23), (24, k24), (29, k29), (32, k32), (33, k33), (42, k42), (52, k52), (53, k53), (57, k57), (59, k59), (61, k61), (62, k62), (65, k65), (66, k66), (82, k82), (91, k91), (96, k96), (102, k102), (103, k103), (104, k104), (105, k105), (108, k108), (112, k112), (113, k113), (119, k119), (120, k120), (121, k121), (127, k127), (128, k128), (132, k132), (133, k133), (139, k139), (140, k140), (142, k142), (143, k143)]
  fo := [(7, [(0, k2), (1, k3), (2, k4), (3, k6)]), (8, [(0, k2), (1, k3), (2, k4), (3, k6)]), (13, [(0, k9), (1, k12)]), (14, [(0, k9), (1, k12)]), (30, [(0, k3), (1, k9), (2, k3), (3, k3)]), (29, [(0, k3), (1, k9), (2, k3), (3, k3)]), (32, [(0, k9), (1, k3)]), (33, [(0, k9), (1, k3)]), (52, [(0, k3), (1, k3), (2, k9)]), (53, [(0, k3), (1, k3), (2, k9)]), (58, [(0, k56), (1, k57)]), (59, [(0, k56), (1, k57)]), (103, [(0, k5), (1, k5)]), (104, [(0, k5), (1, k5)]), (112, [(0, k9), (1, k9), (2, k62)]), (113, [(0, k9), (1, k9), (2, k62)]), (119, [(0, k9)]), (120, [(0, k9)])]
  ar := [(65, (256, k4)), (66, (256, k4)), (102, (256, k5)), (105, (16, k104)), (121, (24, k5)), (127, (20, k108)), (128, (65, k5)), (132, (32, k5)), (133, (64, k5))]
  by_ := [(23, 40), (42, 16), (57, 1)]
  eq := [(4, k4), (7, k7), (8, k8), (30, k30), (29, k29), (32, k32), (33, k33), (52, k52), (53, k53)]

theorem tabOk : TabOk Tryz.prog tab where
  ty := ⟨⟨fit2, trivial, (fun h => nomatch h)⟩, ⟨⟨fit3, trivial, (fun h => nomatch h)⟩, ⟨⟨fit4, trivial, (fun h => nomatch h)⟩, ⟨⟨fit5, trivial, (fun h => nomatch h)⟩, ⟨⟨fit6, trivial, (fun h => nomatch h)⟩, ⟨⟨fit7, trivial, (fun _ => ⟨_, rfl⟩)⟩, ⟨⟨fit8, trivial, (fun _ => ⟨_, rfl⟩)⟩, ⟨⟨fit9, trivial, (fun h => nomatch h)⟩, ⟨⟨fit10, trivial, (fun h => nomatch h)⟩, ⟨⟨fit11, trivial, (fun h => nomatch h)⟩, ⟨⟨fit12, trivial, (fun h => nomatch h)⟩, ⟨⟨fit13, trivial, (fun _ => ⟨_, rfl⟩)⟩, ⟨⟨fit14, trivial, (fun _ => ⟨_, rfl⟩)⟩, ⟨⟨fit21, trivial, (fun h => nomatch h)⟩, ⟨⟨fit30, trivial, (fun _ => ⟨_, rfl⟩)⟩, ⟨⟨fit23, ⟨30, Tryz.t30, Tryz.underlying23, inf30, rfl, by decide⟩, (fun h => nomatch h)⟩, ⟨⟨fit24, trivial, (fun h => nomatch h)⟩, ⟨⟨fit29, trivial, (fun _ => ⟨_, rfl⟩)⟩, ⟨⟨fit32, trivial, (fun _ => ⟨_, rfl⟩)⟩, ⟨⟨fit33, trivial, (fun _ => ⟨_, rfl⟩)⟩, ⟨⟨fit42, ⟨9, Tryz.t9, Tryz.underlying42, inf9, rfl, by decide⟩, (fun h => nomatch h)⟩, ⟨⟨fit52, trivial, (fun _ => ⟨_, rfl⟩)⟩, ⟨⟨fit53, trivial, (fun _ => ⟨_, rfl⟩)⟩, ⟨⟨fit57, ⟨5, Tryz.t5, Tryz.underlying57, inf5, rfl, by decide⟩, (fun h => nomatch h)⟩, ⟨⟨fit59, trivial, (fun _ => ⟨_, rfl⟩)⟩, ⟨⟨fit61, trivial, (fun h => nomatch h)⟩, ⟨⟨fit62, trivial, (fun h => nomatch h)⟩, ⟨⟨fit65, trivial, (⟨rfl, rfl⟩)⟩, ⟨⟨fit66, trivial, (⟨rfl, rfl⟩)⟩, ⟨⟨fit82, trivial, (fun h => nomatch h)⟩, ⟨⟨fit91, trivial, (fun h => nomatch h)⟩, ⟨⟨fit96, trivial, (fun h => nomatch h)⟩, ⟨⟨fit102, trivial, (⟨rfl, rfl⟩)⟩, ⟨⟨fit103, trivial, (fun _ => ⟨_, rfl⟩)⟩, ⟨⟨fit104, trivial, (fun _ => ⟨_, rfl⟩)⟩, ⟨⟨fit105, trivial, (⟨rfl, rfl⟩)⟩, ⟨⟨fit108, trivial, (fun h => nomatch h)⟩, ⟨⟨fit112, trivial, (fun _ => ⟨_, rfl⟩)⟩, ⟨⟨fit113, trivial, (fun _ => ⟨_, rfl⟩)⟩, ⟨⟨fit119, trivial, (fun _ => ⟨_, rfl⟩)⟩, ⟨⟨fit120, trivial, (fun _ => ⟨_, rfl⟩)⟩, ⟨⟨fit121, trivial, (⟨rfl, rfl⟩)⟩, ⟨⟨fit127, trivial, (⟨rfl, rfl⟩)⟩, ⟨⟨fit128, trivial, (⟨rfl, rfl⟩)⟩, ⟨⟨fit132, trivial, (⟨rfl, rfl⟩)⟩, ⟨⟨fit133, trivial, (⟨rfl, rfl⟩)⟩, ⟨⟨fit139, trivial, (fun h => nomatch h)⟩, ⟨⟨fit140, trivial, (fun h => nomatch h)⟩, ⟨⟨fit142, trivial, (fun h => nomatch h)⟩, ⟨⟨fit143, trivial, (fun h => nomatch h)⟩, trivial⟩⟩⟩⟩⟩⟩⟩⟩⟩⟩⟩⟩⟩⟩⟩⟩⟩⟩⟩⟩⟩⟩⟩⟩⟩⟩⟩⟩⟩⟩⟩⟩⟩⟩⟩⟩⟩⟩⟩⟩⟩⟩⟩⟩⟩⟩⟩⟩⟩⟩
  fo := ⟨sf7, ⟨sf8, ⟨sf13, ⟨sf14, ⟨sf30, ⟨sf29, ⟨sf32, ⟨sf33, ⟨sf52, ⟨sf53, ⟨sf58, ⟨sf59, ⟨sf103, ⟨sf104, ⟨sf112, ⟨sf113, ⟨sf119, ⟨sf120, trivial⟩⟩⟩⟩⟩⟩⟩⟩⟩⟩⟩⟩⟩⟩⟩⟩⟩⟩
  ar := ⟨ar65, ⟨ar66, ⟨ar102, ⟨ar105, ⟨ar121, ⟨ar127, ⟨ar128, ⟨ar132, ⟨ar133, trivial⟩⟩⟩⟩⟩⟩⟩⟩⟩
  eq := ⟨.inr ⟨rfl, Tryz.underlying4⟩, ⟨.inl ⟨rfl, Tryz.eqGuardType7, EqOk.mono eq7 (by decide)⟩, ⟨.inl ⟨rfl, Tryz.eqGuardType8, EqOk.mono eq8 (by decide)⟩, ⟨.inl ⟨rfl, Tryz.eqGuardType30, EqOk.mono eq30 (by decide)⟩, ⟨.inl ⟨rfl, Tryz.eqGuardType29, EqOk.mono eq29 (by decide)⟩, ⟨.inl ⟨rfl, Tryz.eqGuardType32, EqOk.mono eq32 (by decide)⟩, ⟨.inl ⟨rfl, Tryz.eqGuardType33, EqOk.mono eq33 (by decide)⟩, ⟨.inl ⟨rfl, Tryz.eqGuardType52, EqOk.mono eq52 (by decide)⟩, ⟨.inl ⟨rfl, Tryz.eqGuardType53, EqOk.mono eq53 (by decide)⟩, trivial⟩⟩⟩⟩⟩⟩⟩⟩⟩
  slf := by kernel_rfl
  byt := ⟨(fun h => nomatch h), ⟨(fun h => nomatch h), ⟨(fun h => nomatch h), ⟨(fun h => nomatch h), ⟨(fun h => nomatch h), ⟨(fun h => nomatch h), ⟨(fun h => nomatch h), ⟨(fun h => nomatch h), ⟨(fun h => nomatch h), ⟨(fun h => nomatch h), ⟨(fun h => nomatch h), ⟨(fun h => nomatch h), ⟨(fun h => nomatch h), ⟨(fun h => nomatch h), ⟨(fun h => nomatch h), ⟨(fun h => nomatch h), ⟨(fun h => nomatch h), ⟨(fun h => nomatch h), ⟨(fun h => nomatch h), ⟨(fun h => nomatch h), ⟨(fun h => nomatch h), ⟨(fun h => nomatch h), ⟨(fun h => nomatch h), ⟨(fun _ => Tryz.underlying57), ⟨(fun h => nomatch h), ⟨(fun h => nomatch h), ⟨(fun h => nomatch h), ⟨(fun h => nomatch h), ⟨(fun h => nomatch h), ⟨(fun h => nomatch h), ⟨(fun h => nomatch h), ⟨(fun h => nomatch h), ⟨(fun h => nomatch h), ⟨(fun h => nomatch h), ⟨(fun h => nomatch h), ⟨(fun h => nomatch h), ⟨(fun h => nomatch h), ⟨(fun h => nomatch h), ⟨(fun h => nomatch h), ⟨(fun h => nomatch h), ⟨(fun h => nomatch h), ⟨(fun h => nomatch h), ⟨(fun h => nomatch h), ⟨(fun h => nomatch h), ⟨(fun h => nomatch h), ⟨(fun h => nomatch h), ⟨(fun h => nomatch h), ⟨(fun h => nomatch h), ⟨(fun h => nomatch h), ⟨(fun h => nomatch h), trivial⟩⟩⟩⟩⟩⟩⟩⟩⟩⟩⟩⟩⟩⟩⟩⟩⟩⟩⟩⟩⟩⟩⟩⟩⟩⟩⟩⟩⟩⟩⟩⟩⟩⟩⟩⟩⟩⟩⟩⟩⟩⟩⟩⟩⟩⟩⟩⟩⟩⟩
  mixed := by kernel_rfl

end Go.Proofs.YtboihdnijlilpaaGreatDoor.Am

