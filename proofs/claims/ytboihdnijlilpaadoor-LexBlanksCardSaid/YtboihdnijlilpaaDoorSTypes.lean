import Derived.Test.YtboihdnijlilpaaDoorAmGen
import Derived.Test.YtboihdnijlilpaaDoorSLay
import Derived.Test.YtboihdnijlilpaaDoorProg
import Derived.KernelRfl
/- PRINTED by gen/types.py of this repo: what the seat's types are. -/
namespace Go.Proofs.YtboihdnijlilpaaDoor.Am
open Go.AM

@[reducible] def k2 : Ty := .int .i64
@[reducible] def k3 : Ty := .int .i64
@[reducible] def k4 : Ty := .bool
@[reducible] def k5 : Ty := .int .u8
@[reducible] def k6 : Ty := .int .u8
@[reducible] def k7 : Ty := .pair k2 (.pair k3 (.pair k4 k6))
@[reducible] def k8 : Ty := .pair k2 (.pair k3 (.pair k4 k6))
@[reducible] def k9 : Ty := .str
@[reducible] def k10 : Ty := .str
@[reducible] def k11 : Ty := .str
@[reducible] def k12 : Ty := .int .u64
@[reducible] def k13 : Ty := .pair k9 k12
@[reducible] def k14 : Ty := .pair k9 k12
@[reducible] def k21 : Ty := .int .i32
@[reducible] def k30 : Ty := .pair k3 (.pair k9 (.pair k3 k3))
@[reducible] def k23 : Ty := .sl k30
@[reducible] def k24 : Ty := .int .i64
@[reducible] def k27 : Ty := .sl k9
@[reducible] def k29 : Ty := .pair k3 (.pair k9 (.pair k3 k3))
@[reducible] def k34 : Ty := .pair k9 k3
@[reducible] def k35 : Ty := .pair k9 k3
@[reducible] def k42 : Ty := .pair k3 (.pair k3 k9)
@[reducible] def k43 : Ty := .pair k3 (.pair k3 k9)
@[reducible] def k51 : Ty := .sl k5
@[reducible] def k56 : Ty := .lk false
@[reducible] def k57 : Ty := .pair k56 k51
@[reducible] def k58 : Ty := .pair k56 k51
@[reducible] def k60 : Ty := .lk true
@[reducible] def k61 : Ty := .lk true
@[reducible] def k64 : Ty := .arr 255 k4
@[reducible] def k65 : Ty := .arr 255 k4
@[reducible] def k78 : Ty := .int .u64
@[reducible] def k86 : Ty := .int .u32
@[reducible] def k91 : Ty := .int .i64
@[reducible] def k97 : Ty := .arr 255 k5
@[reducible] def k98 : Ty := .pair k5 k5
@[reducible] def k99 : Ty := .pair k5 k5
@[reducible] def k100 : Ty := .arr 15 k99
@[reducible] def k103 : Ty := .int .u64
@[reducible] def k107 : Ty := .pair k9 (.pair k9 k61)
@[reducible] def k108 : Ty := .pair k9 (.pair k9 k61)
@[reducible] def k114 : Ty := .wrap k9
@[reducible] def k115 : Ty := .wrap k9
@[reducible] def k116 : Ty := .arr 23 k5
@[reducible] def k122 : Ty := .arr 19 k103
@[reducible] def k123 : Ty := .arr 64 k5
@[reducible] def k127 : Ty := .arr 31 k5
@[reducible] def k128 : Ty := .arr 63 k5
@[reducible] def k134 : Ty := .int .u8
@[reducible] def k135 : Ty := .int .u8
@[reducible] def k137 : Ty := .int .i32
@[reducible] def k138 : Ty := .int .i32

theorem inf2 : Tryd.prog.info? 2 = some Tryd.t2 := by kernel_rfl
theorem inf3 : Tryd.prog.info? 3 = some Tryd.t3 := by kernel_rfl
theorem inf4 : Tryd.prog.info? 4 = some Tryd.t4 := by kernel_rfl
theorem inf5 : Tryd.prog.info? 5 = some Tryd.t5 := by kernel_rfl
theorem inf6 : Tryd.prog.info? 6 = some Tryd.t6 := by kernel_rfl
theorem inf7 : Tryd.prog.info? 7 = some Tryd.t7 := by kernel_rfl
theorem inf8 : Tryd.prog.info? 8 = some Tryd.t8 := by kernel_rfl
theorem inf9 : Tryd.prog.info? 9 = some Tryd.t9 := by kernel_rfl
theorem inf10 : Tryd.prog.info? 10 = some Tryd.t10 := by kernel_rfl
theorem inf11 : Tryd.prog.info? 11 = some Tryd.t11 := by kernel_rfl
theorem inf12 : Tryd.prog.info? 12 = some Tryd.t12 := by kernel_rfl
theorem inf13 : Tryd.prog.info? 13 = some Tryd.t13 := by kernel_rfl
theorem inf14 : Tryd.prog.info? 14 = some Tryd.t14 := by kernel_rfl
theorem inf21 : Tryd.prog.info? 21 = some Tryd.t21 := by kernel_rfl
theorem inf30 : Tryd.prog.info? 30 = some Tryd.t30 := by kernel_rfl
theorem inf23 : Tryd.prog.info? 23 = some Tryd.t23 := by kernel_rfl
theorem inf24 : Tryd.prog.info? 24 = some Tryd.t24 := by kernel_rfl
theorem inf27 : Tryd.prog.info? 27 = some Tryd.t27 := by kernel_rfl
theorem inf29 : Tryd.prog.info? 29 = some Tryd.t29 := by kernel_rfl
theorem inf34 : Tryd.prog.info? 34 = some Tryd.t34 := by kernel_rfl
theorem inf35 : Tryd.prog.info? 35 = some Tryd.t35 := by kernel_rfl
theorem inf42 : Tryd.prog.info? 42 = some Tryd.t42 := by kernel_rfl
theorem inf43 : Tryd.prog.info? 43 = some Tryd.t43 := by kernel_rfl
theorem inf51 : Tryd.prog.info? 51 = some Tryd.t51 := by kernel_rfl
theorem inf56 : Tryd.prog.info? 56 = some Tryd.t56 := by kernel_rfl
theorem inf57 : Tryd.prog.info? 57 = some Tryd.t57 := by kernel_rfl
theorem inf58 : Tryd.prog.info? 58 = some Tryd.t58 := by kernel_rfl
theorem inf60 : Tryd.prog.info? 60 = some Tryd.t60 := by kernel_rfl
theorem inf61 : Tryd.prog.info? 61 = some Tryd.t61 := by kernel_rfl
theorem inf64 : Tryd.prog.info? 64 = some Tryd.t64 := by kernel_rfl
theorem inf65 : Tryd.prog.info? 65 = some Tryd.t65 := by kernel_rfl
theorem inf78 : Tryd.prog.info? 78 = some Tryd.t78 := by kernel_rfl
theorem inf86 : Tryd.prog.info? 86 = some Tryd.t86 := by kernel_rfl
theorem inf91 : Tryd.prog.info? 91 = some Tryd.t91 := by kernel_rfl
theorem inf97 : Tryd.prog.info? 97 = some Tryd.t97 := by kernel_rfl
theorem inf98 : Tryd.prog.info? 98 = some Tryd.t98 := by kernel_rfl
theorem inf99 : Tryd.prog.info? 99 = some Tryd.t99 := by kernel_rfl
theorem inf100 : Tryd.prog.info? 100 = some Tryd.t100 := by kernel_rfl
theorem inf103 : Tryd.prog.info? 103 = some Tryd.t103 := by kernel_rfl
theorem inf107 : Tryd.prog.info? 107 = some Tryd.t107 := by kernel_rfl
theorem inf108 : Tryd.prog.info? 108 = some Tryd.t108 := by kernel_rfl
theorem inf114 : Tryd.prog.info? 114 = some Tryd.t114 := by kernel_rfl
theorem inf115 : Tryd.prog.info? 115 = some Tryd.t115 := by kernel_rfl
theorem inf116 : Tryd.prog.info? 116 = some Tryd.t116 := by kernel_rfl
theorem inf122 : Tryd.prog.info? 122 = some Tryd.t122 := by kernel_rfl
theorem inf123 : Tryd.prog.info? 123 = some Tryd.t123 := by kernel_rfl
theorem inf127 : Tryd.prog.info? 127 = some Tryd.t127 := by kernel_rfl
theorem inf128 : Tryd.prog.info? 128 = some Tryd.t128 := by kernel_rfl
theorem inf134 : Tryd.prog.info? 134 = some Tryd.t134 := by kernel_rfl
theorem inf135 : Tryd.prog.info? 135 = some Tryd.t135 := by kernel_rfl
theorem inf137 : Tryd.prog.info? 137 = some Tryd.t137 := by kernel_rfl
theorem inf138 : Tryd.prog.info? 138 = some Tryd.t138 := by kernel_rfl
theorem fit2 : Fit Tryd.prog 2 k2 := ⟨⟨Tryd.t2, inf2, rfl, rfl⟩, Tryd.underlying2⟩
theorem deep2 : Deep Tryd.prog 2 k2 := .int Tryd.underlying2
theorem eq2 : EqOk Tryd.prog 1 2 k2 := eq_int Tryd.underlying2
theorem fit3 : Fit Tryd.prog 3 k3 := ⟨⟨Tryd.t3, inf3, rfl, rfl⟩, Tryd.underlying3⟩
theorem deep3 : Deep Tryd.prog 3 k3 := .int Tryd.underlying3
theorem eq3 : EqOk Tryd.prog 1 3 k3 := eq_int Tryd.underlying3
theorem fit4 : Fit Tryd.prog 4 k4 := ⟨⟨Tryd.t4, inf4, rfl, rfl⟩, Tryd.underlying4⟩
theorem deep4 : Deep Tryd.prog 4 k4 := .bool Tryd.underlying4
theorem eq4 : EqOk Tryd.prog 1 4 k4 := eq_bool Tryd.underlying4
theorem fit5 : Fit Tryd.prog 5 k5 := ⟨⟨Tryd.t5, inf5, rfl, rfl⟩, Tryd.underlying5⟩
theorem deep5 : Deep Tryd.prog 5 k5 := .int Tryd.underlying5
theorem eq5 : EqOk Tryd.prog 1 5 k5 := eq_int Tryd.underlying5
theorem fit6 : Fit Tryd.prog 6 k6 := ⟨⟨Tryd.t6, inf6, rfl, rfl⟩, Tryd.underlying6⟩
theorem deep6 : Deep Tryd.prog 6 k6 := .int Tryd.underlying6
theorem eq6 : EqOk Tryd.prog 1 6 k6 := eq_int Tryd.underlying6
theorem fit7 : Fit Tryd.prog 7 k7 := ⟨⟨Tryd.t7, inf7, rfl, rfl⟩, ⟨_, Tryd.underlying7, rfl⟩⟩
theorem sf7 : SFact Tryd.prog 7 [(0, k2), (1, k3), (2, k4), (3, k6)] := ⟨_, Tryd.underlying7, ⟨⟨rfl, fit2⟩, ⟨⟨rfl, fit3⟩, ⟨⟨rfl, fit4⟩, ⟨⟨rfl, fit6⟩, trivial⟩⟩⟩⟩⟩
theorem deep7 : Deep Tryd.prog 7 k7 := .pair Tryd.underlying7 (by kernel_rfl) (DeepF.cons rfl (by kernel_rfl) deep2 (DeepF.cons rfl (by kernel_rfl) deep3 (DeepF.cons rfl (by kernel_rfl) deep4 (DeepF.last rfl (by kernel_rfl) deep6))))
theorem eq7 : EqOk Tryd.prog 2 7 k7 := eq_struct Tryd.underlying7 Tryd.stoodInHeld7 ⟨⟨by decide, rfl, fit2, EqOk.mono eq2 (by decide)⟩, ⟨⟨by decide, rfl, fit3, EqOk.mono eq3 (by decide)⟩, ⟨⟨by decide, rfl, fit4, EqOk.mono eq4 (by decide)⟩, ⟨by decide, rfl, fit6, EqOk.mono eq6 (by decide)⟩⟩⟩⟩
theorem fit8 : Fit Tryd.prog 8 k8 := ⟨⟨Tryd.t8, inf8, rfl, rfl⟩, ⟨_, Tryd.underlying8, rfl⟩⟩
theorem sf8 : SFact Tryd.prog 8 [(0, k2), (1, k3), (2, k4), (3, k6)] := ⟨_, Tryd.underlying8, ⟨⟨rfl, fit2⟩, ⟨⟨rfl, fit3⟩, ⟨⟨rfl, fit4⟩, ⟨⟨rfl, fit6⟩, trivial⟩⟩⟩⟩⟩
theorem deep8 : Deep Tryd.prog 8 k8 := .pair Tryd.underlying8 (by kernel_rfl) (DeepF.cons rfl (by kernel_rfl) deep2 (DeepF.cons rfl (by kernel_rfl) deep3 (DeepF.cons rfl (by kernel_rfl) deep4 (DeepF.last rfl (by kernel_rfl) deep6))))
theorem eq8 : EqOk Tryd.prog 2 8 k8 := eq_struct Tryd.underlying8 Tryd.stoodInHeld8 ⟨⟨by decide, rfl, fit2, EqOk.mono eq2 (by decide)⟩, ⟨⟨by decide, rfl, fit3, EqOk.mono eq3 (by decide)⟩, ⟨⟨by decide, rfl, fit4, EqOk.mono eq4 (by decide)⟩, ⟨by decide, rfl, fit6, EqOk.mono eq6 (by decide)⟩⟩⟩⟩
theorem fit9 : Fit Tryd.prog 9 k9 := ⟨⟨Tryd.t9, inf9, rfl, rfl⟩, Tryd.underlying9⟩
theorem deep9 : Deep Tryd.prog 9 k9 := .str Tryd.underlying9
theorem eq9 : EqOk Tryd.prog 1 9 k9 := eq_str Tryd.underlying9
theorem fit10 : Fit Tryd.prog 10 k10 := ⟨⟨Tryd.t10, inf10, rfl, rfl⟩, Tryd.underlying10⟩
theorem deep10 : Deep Tryd.prog 10 k10 := .str Tryd.underlying10
theorem eq10 : EqOk Tryd.prog 1 10 k10 := eq_str Tryd.underlying10
theorem fit11 : Fit Tryd.prog 11 k11 := ⟨⟨Tryd.t11, inf11, rfl, rfl⟩, Tryd.underlying11⟩
theorem deep11 : Deep Tryd.prog 11 k11 := .str Tryd.underlying11
theorem eq11 : EqOk Tryd.prog 1 11 k11 := eq_str Tryd.underlying11
theorem fit12 : Fit Tryd.prog 12 k12 := ⟨⟨Tryd.t12, inf12, rfl, rfl⟩, Tryd.underlying12⟩
theorem deep12 : Deep Tryd.prog 12 k12 := .int Tryd.underlying12
theorem eq12 : EqOk Tryd.prog 1 12 k12 := eq_int Tryd.underlying12
theorem fit13 : Fit Tryd.prog 13 k13 := ⟨⟨Tryd.t13, inf13, rfl, rfl⟩, ⟨_, Tryd.underlying13, rfl⟩⟩
theorem sf13 : SFact Tryd.prog 13 [(0, k9), (1, k12)] := ⟨_, Tryd.underlying13, ⟨⟨rfl, fit9⟩, ⟨⟨rfl, fit12⟩, trivial⟩⟩⟩
theorem deep13 : Deep Tryd.prog 13 k13 := .pair Tryd.underlying13 (by kernel_rfl) (DeepF.cons rfl (by kernel_rfl) deep9 (DeepF.last rfl (by kernel_rfl) deep12))
theorem fit14 : Fit Tryd.prog 14 k14 := ⟨⟨Tryd.t14, inf14, rfl, rfl⟩, ⟨_, Tryd.underlying14, rfl⟩⟩
theorem sf14 : SFact Tryd.prog 14 [(0, k9), (1, k12)] := ⟨_, Tryd.underlying14, ⟨⟨rfl, fit9⟩, ⟨⟨rfl, fit12⟩, trivial⟩⟩⟩
theorem deep14 : Deep Tryd.prog 14 k14 := .pair Tryd.underlying14 (by kernel_rfl) (DeepF.cons rfl (by kernel_rfl) deep9 (DeepF.last rfl (by kernel_rfl) deep12))
theorem fit21 : Fit Tryd.prog 21 k21 := ⟨⟨Tryd.t21, inf21, rfl, rfl⟩, Tryd.underlying21⟩
theorem deep21 : Deep Tryd.prog 21 k21 := .int Tryd.underlying21
theorem eq21 : EqOk Tryd.prog 1 21 k21 := eq_int Tryd.underlying21
theorem fit30 : Fit Tryd.prog 30 k30 := ⟨⟨Tryd.t30, inf30, rfl, rfl⟩, ⟨_, Tryd.underlying30, rfl⟩⟩
theorem sf30 : SFact Tryd.prog 30 [(0, k3), (1, k9), (2, k3), (3, k3)] := ⟨_, Tryd.underlying30, ⟨⟨rfl, fit3⟩, ⟨⟨rfl, fit9⟩, ⟨⟨rfl, fit3⟩, ⟨⟨rfl, fit3⟩, trivial⟩⟩⟩⟩⟩
theorem deep30 : Deep Tryd.prog 30 k30 := .pair Tryd.underlying30 (by kernel_rfl) (DeepF.cons rfl (by kernel_rfl) deep3 (DeepF.cons rfl (by kernel_rfl) deep9 (DeepF.cons rfl (by kernel_rfl) deep3 (DeepF.last rfl (by kernel_rfl) deep3))))
theorem eq30 : EqOk Tryd.prog 2 30 k30 := eq_struct Tryd.underlying30 Tryd.stoodInHeld30 ⟨⟨by decide, rfl, fit3, EqOk.mono eq3 (by decide)⟩, ⟨⟨by decide, rfl, fit9, EqOk.mono eq9 (by decide)⟩, ⟨⟨by decide, rfl, fit3, EqOk.mono eq3 (by decide)⟩, ⟨by decide, rfl, fit3, EqOk.mono eq3 (by decide)⟩⟩⟩⟩
theorem fit23 : Fit Tryd.prog 23 k23 := ⟨⟨Tryd.t23, inf23, rfl, rfl⟩, ⟨30, Tryd.t30, Tryd.underlying23, inf30, rfl, rfl, (fun _ h => nomatch h), (fun h => nomatch h)⟩⟩
theorem deep23 : Deep Tryd.prog 23 k23 := .sl Tryd.underlying23 (by kernel_rfl) deep30
theorem fit24 : Fit Tryd.prog 24 k24 := ⟨⟨Tryd.t24, inf24, rfl, rfl⟩, Tryd.underlying24⟩
theorem deep24 : Deep Tryd.prog 24 k24 := .int Tryd.underlying24
theorem eq24 : EqOk Tryd.prog 1 24 k24 := eq_int Tryd.underlying24
theorem fit27 : Fit Tryd.prog 27 k27 := ⟨⟨Tryd.t27, inf27, rfl, rfl⟩, ⟨9, Tryd.t9, Tryd.underlying27, inf9, rfl, rfl, (fun _ h => nomatch h), (fun h => nomatch h)⟩⟩
theorem deep27 : Deep Tryd.prog 27 k27 := .sl Tryd.underlying27 (by kernel_rfl) deep9
theorem fit29 : Fit Tryd.prog 29 k29 := ⟨⟨Tryd.t29, inf29, rfl, rfl⟩, ⟨_, Tryd.underlying29, rfl⟩⟩
theorem sf29 : SFact Tryd.prog 29 [(0, k3), (1, k9), (2, k3), (3, k3)] := ⟨_, Tryd.underlying29, ⟨⟨rfl, fit3⟩, ⟨⟨rfl, fit9⟩, ⟨⟨rfl, fit3⟩, ⟨⟨rfl, fit3⟩, trivial⟩⟩⟩⟩⟩
theorem deep29 : Deep Tryd.prog 29 k29 := .pair Tryd.underlying29 (by kernel_rfl) (DeepF.cons rfl (by kernel_rfl) deep3 (DeepF.cons rfl (by kernel_rfl) deep9 (DeepF.cons rfl (by kernel_rfl) deep3 (DeepF.last rfl (by kernel_rfl) deep3))))
theorem eq29 : EqOk Tryd.prog 2 29 k29 := eq_struct Tryd.underlying29 Tryd.stoodInHeld29 ⟨⟨by decide, rfl, fit3, EqOk.mono eq3 (by decide)⟩, ⟨⟨by decide, rfl, fit9, EqOk.mono eq9 (by decide)⟩, ⟨⟨by decide, rfl, fit3, EqOk.mono eq3 (by decide)⟩, ⟨by decide, rfl, fit3, EqOk.mono eq3 (by decide)⟩⟩⟩⟩
theorem fit34 : Fit Tryd.prog 34 k34 := ⟨⟨Tryd.t34, inf34, rfl, rfl⟩, ⟨_, Tryd.underlying34, rfl⟩⟩
theorem sf34 : SFact Tryd.prog 34 [(0, k9), (1, k3)] := ⟨_, Tryd.underlying34, ⟨⟨rfl, fit9⟩, ⟨⟨rfl, fit3⟩, trivial⟩⟩⟩
theorem deep34 : Deep Tryd.prog 34 k34 := .pair Tryd.underlying34 (by kernel_rfl) (DeepF.cons rfl (by kernel_rfl) deep9 (DeepF.last rfl (by kernel_rfl) deep3))
theorem eq34 : EqOk Tryd.prog 2 34 k34 := eq_struct Tryd.underlying34 Tryd.stoodInHeld34 ⟨⟨by decide, rfl, fit9, EqOk.mono eq9 (by decide)⟩, ⟨by decide, rfl, fit3, EqOk.mono eq3 (by decide)⟩⟩
theorem fit35 : Fit Tryd.prog 35 k35 := ⟨⟨Tryd.t35, inf35, rfl, rfl⟩, ⟨_, Tryd.underlying35, rfl⟩⟩
theorem sf35 : SFact Tryd.prog 35 [(0, k9), (1, k3)] := ⟨_, Tryd.underlying35, ⟨⟨rfl, fit9⟩, ⟨⟨rfl, fit3⟩, trivial⟩⟩⟩
theorem deep35 : Deep Tryd.prog 35 k35 := .pair Tryd.underlying35 (by kernel_rfl) (DeepF.cons rfl (by kernel_rfl) deep9 (DeepF.last rfl (by kernel_rfl) deep3))
theorem eq35 : EqOk Tryd.prog 2 35 k35 := eq_struct Tryd.underlying35 Tryd.stoodInHeld35 ⟨⟨by decide, rfl, fit9, EqOk.mono eq9 (by decide)⟩, ⟨by decide, rfl, fit3, EqOk.mono eq3 (by decide)⟩⟩
theorem fit42 : Fit Tryd.prog 42 k42 := ⟨⟨Tryd.t42, inf42, rfl, rfl⟩, ⟨_, Tryd.underlying42, rfl⟩⟩
theorem sf42 : SFact Tryd.prog 42 [(0, k3), (1, k3), (2, k9)] := ⟨_, Tryd.underlying42, ⟨⟨rfl, fit3⟩, ⟨⟨rfl, fit3⟩, ⟨⟨rfl, fit9⟩, trivial⟩⟩⟩⟩
theorem deep42 : Deep Tryd.prog 42 k42 := .pair Tryd.underlying42 (by kernel_rfl) (DeepF.cons rfl (by kernel_rfl) deep3 (DeepF.cons rfl (by kernel_rfl) deep3 (DeepF.last rfl (by kernel_rfl) deep9)))
theorem eq42 : EqOk Tryd.prog 2 42 k42 := eq_struct Tryd.underlying42 Tryd.stoodInHeld42 ⟨⟨by decide, rfl, fit3, EqOk.mono eq3 (by decide)⟩, ⟨⟨by decide, rfl, fit3, EqOk.mono eq3 (by decide)⟩, ⟨by decide, rfl, fit9, EqOk.mono eq9 (by decide)⟩⟩⟩
theorem fit43 : Fit Tryd.prog 43 k43 := ⟨⟨Tryd.t43, inf43, rfl, rfl⟩, ⟨_, Tryd.underlying43, rfl⟩⟩
theorem sf43 : SFact Tryd.prog 43 [(0, k3), (1, k3), (2, k9)] := ⟨_, Tryd.underlying43, ⟨⟨rfl, fit3⟩, ⟨⟨rfl, fit3⟩, ⟨⟨rfl, fit9⟩, trivial⟩⟩⟩⟩
theorem deep43 : Deep Tryd.prog 43 k43 := .pair Tryd.underlying43 (by kernel_rfl) (DeepF.cons rfl (by kernel_rfl) deep3 (DeepF.cons rfl (by kernel_rfl) deep3 (DeepF.last rfl (by kernel_rfl) deep9)))
theorem eq43 : EqOk Tryd.prog 2 43 k43 := eq_struct Tryd.underlying43 Tryd.stoodInHeld43 ⟨⟨by decide, rfl, fit3, EqOk.mono eq3 (by decide)⟩, ⟨⟨by decide, rfl, fit3, EqOk.mono eq3 (by decide)⟩, ⟨by decide, rfl, fit9, EqOk.mono eq9 (by decide)⟩⟩⟩
theorem fit51 : Fit Tryd.prog 51 k51 := ⟨⟨Tryd.t51, inf51, rfl, rfl⟩, ⟨5, Tryd.t5, Tryd.underlying51, inf5, rfl, rfl, (fun k h => by cases h; exact Tryd.underlying5), (fun _ => rfl)⟩⟩
theorem deep51 : Deep Tryd.prog 51 k51 := .sl Tryd.underlying51 (by kernel_rfl) deep5
theorem fit56 : Fit Tryd.prog 56 k56 := ⟨⟨Tryd.t56, inf56, rfl, by kernel_rfl⟩, ⟨_, Tryd.underlying56⟩⟩
theorem fit57 : Fit Tryd.prog 57 k57 := ⟨⟨Tryd.t57, inf57, rfl, rfl⟩, ⟨_, Tryd.underlying57, rfl⟩⟩
theorem sf57 : SFact Tryd.prog 57 [(0, k56), (1, k51)] := ⟨_, Tryd.underlying57, ⟨⟨rfl, fit56⟩, ⟨⟨rfl, fit51⟩, trivial⟩⟩⟩
theorem fit58 : Fit Tryd.prog 58 k58 := ⟨⟨Tryd.t58, inf58, rfl, rfl⟩, ⟨_, Tryd.underlying58, rfl⟩⟩
theorem sf58 : SFact Tryd.prog 58 [(0, k56), (1, k51)] := ⟨_, Tryd.underlying58, ⟨⟨rfl, fit56⟩, ⟨⟨rfl, fit51⟩, trivial⟩⟩⟩
theorem fit60 : Fit Tryd.prog 60 k60 := ⟨⟨Tryd.t60, inf60, rfl, by kernel_rfl⟩, (show Tryd.prog.underlying 60 = some (.interface (Tryd.prog.methodsAt 60)) by kernel_rfl)⟩
theorem fit61 : Fit Tryd.prog 61 k61 := ⟨⟨Tryd.t61, inf61, rfl, by kernel_rfl⟩, (show Tryd.prog.underlying 61 = some (.interface (Tryd.prog.methodsAt 61)) by kernel_rfl)⟩
theorem fit64 : Fit Tryd.prog 64 k64 := ⟨⟨Tryd.t64, inf64, rfl, by kernel_rfl⟩, ⟨_, Tryd.underlying64, rfl⟩⟩
theorem fit65 : Fit Tryd.prog 65 k65 := ⟨⟨Tryd.t65, inf65, rfl, by kernel_rfl⟩, ⟨_, Tryd.underlying65, rfl⟩⟩
theorem fit78 : Fit Tryd.prog 78 k78 := ⟨⟨Tryd.t78, inf78, rfl, rfl⟩, Tryd.underlying78⟩
theorem deep78 : Deep Tryd.prog 78 k78 := .int Tryd.underlying78
theorem eq78 : EqOk Tryd.prog 1 78 k78 := eq_int Tryd.underlying78
theorem fit86 : Fit Tryd.prog 86 k86 := ⟨⟨Tryd.t86, inf86, rfl, rfl⟩, Tryd.underlying86⟩
theorem deep86 : Deep Tryd.prog 86 k86 := .int Tryd.underlying86
theorem eq86 : EqOk Tryd.prog 1 86 k86 := eq_int Tryd.underlying86
theorem fit91 : Fit Tryd.prog 91 k91 := ⟨⟨Tryd.t91, inf91, rfl, rfl⟩, Tryd.underlying91⟩
theorem deep91 : Deep Tryd.prog 91 k91 := .int Tryd.underlying91
theorem eq91 : EqOk Tryd.prog 1 91 k91 := eq_int Tryd.underlying91
theorem fit97 : Fit Tryd.prog 97 k97 := ⟨⟨Tryd.t97, inf97, rfl, by kernel_rfl⟩, ⟨_, Tryd.underlying97, rfl⟩⟩
theorem fit98 : Fit Tryd.prog 98 k98 := ⟨⟨Tryd.t98, inf98, rfl, rfl⟩, ⟨_, Tryd.underlying98, rfl⟩⟩
theorem sf98 : SFact Tryd.prog 98 [(0, k5), (1, k5)] := ⟨_, Tryd.underlying98, ⟨⟨rfl, fit5⟩, ⟨⟨rfl, fit5⟩, trivial⟩⟩⟩
theorem deep98 : Deep Tryd.prog 98 k98 := .pair Tryd.underlying98 (by kernel_rfl) (DeepF.cons rfl (by kernel_rfl) deep5 (DeepF.last rfl (by kernel_rfl) deep5))
theorem fit99 : Fit Tryd.prog 99 k99 := ⟨⟨Tryd.t99, inf99, rfl, rfl⟩, ⟨_, Tryd.underlying99, rfl⟩⟩
theorem sf99 : SFact Tryd.prog 99 [(0, k5), (1, k5)] := ⟨_, Tryd.underlying99, ⟨⟨rfl, fit5⟩, ⟨⟨rfl, fit5⟩, trivial⟩⟩⟩
theorem deep99 : Deep Tryd.prog 99 k99 := .pair Tryd.underlying99 (by kernel_rfl) (DeepF.cons rfl (by kernel_rfl) deep5 (DeepF.last rfl (by kernel_rfl) deep5))
theorem fit100 : Fit Tryd.prog 100 k100 := ⟨⟨Tryd.t100, inf100, rfl, by kernel_rfl⟩, ⟨_, Tryd.underlying100, rfl⟩⟩
theorem fit103 : Fit Tryd.prog 103 k103 := ⟨⟨Tryd.t103, inf103, rfl, rfl⟩, Tryd.underlying103⟩
theorem deep103 : Deep Tryd.prog 103 k103 := .int Tryd.underlying103
theorem eq103 : EqOk Tryd.prog 1 103 k103 := eq_int Tryd.underlying103
theorem fit107 : Fit Tryd.prog 107 k107 := ⟨⟨Tryd.t107, inf107, rfl, rfl⟩, ⟨_, Tryd.underlying107, rfl⟩⟩
theorem sf107 : SFact Tryd.prog 107 [(0, k9), (1, k9), (2, k61)] := ⟨_, Tryd.underlying107, ⟨⟨rfl, fit9⟩, ⟨⟨rfl, fit9⟩, ⟨⟨rfl, fit61⟩, trivial⟩⟩⟩⟩
theorem fit108 : Fit Tryd.prog 108 k108 := ⟨⟨Tryd.t108, inf108, rfl, rfl⟩, ⟨_, Tryd.underlying108, rfl⟩⟩
theorem sf108 : SFact Tryd.prog 108 [(0, k9), (1, k9), (2, k61)] := ⟨_, Tryd.underlying108, ⟨⟨rfl, fit9⟩, ⟨⟨rfl, fit9⟩, ⟨⟨rfl, fit61⟩, trivial⟩⟩⟩⟩
theorem fit114 : Fit Tryd.prog 114 k114 := ⟨⟨Tryd.t114, inf114, rfl, rfl⟩, ⟨_, Tryd.underlying114, rfl⟩⟩
theorem sf114 : SFact Tryd.prog 114 [(0, k9)] := ⟨_, Tryd.underlying114, ⟨⟨rfl, fit9⟩, trivial⟩⟩
theorem deep114 : Deep Tryd.prog 114 k114 := .wrap Tryd.underlying114 (by kernel_rfl) rfl (DeepF.last rfl (by kernel_rfl) deep9)
theorem fit115 : Fit Tryd.prog 115 k115 := ⟨⟨Tryd.t115, inf115, rfl, rfl⟩, ⟨_, Tryd.underlying115, rfl⟩⟩
theorem sf115 : SFact Tryd.prog 115 [(0, k9)] := ⟨_, Tryd.underlying115, ⟨⟨rfl, fit9⟩, trivial⟩⟩
theorem deep115 : Deep Tryd.prog 115 k115 := .wrap Tryd.underlying115 (by kernel_rfl) rfl (DeepF.last rfl (by kernel_rfl) deep9)
theorem fit116 : Fit Tryd.prog 116 k116 := ⟨⟨Tryd.t116, inf116, rfl, by kernel_rfl⟩, ⟨_, Tryd.underlying116, rfl⟩⟩
theorem fit122 : Fit Tryd.prog 122 k122 := ⟨⟨Tryd.t122, inf122, rfl, by kernel_rfl⟩, ⟨_, Tryd.underlying122, rfl⟩⟩
theorem fit123 : Fit Tryd.prog 123 k123 := ⟨⟨Tryd.t123, inf123, rfl, by kernel_rfl⟩, ⟨_, Tryd.underlying123, rfl⟩⟩
theorem fit127 : Fit Tryd.prog 127 k127 := ⟨⟨Tryd.t127, inf127, rfl, by kernel_rfl⟩, ⟨_, Tryd.underlying127, rfl⟩⟩
theorem fit128 : Fit Tryd.prog 128 k128 := ⟨⟨Tryd.t128, inf128, rfl, by kernel_rfl⟩, ⟨_, Tryd.underlying128, rfl⟩⟩
theorem fit134 : Fit Tryd.prog 134 k134 := ⟨⟨Tryd.t134, inf134, rfl, rfl⟩, Tryd.underlying134⟩
theorem deep134 : Deep Tryd.prog 134 k134 := .int Tryd.underlying134
theorem eq134 : EqOk Tryd.prog 1 134 k134 := eq_int Tryd.underlying134
theorem fit135 : Fit Tryd.prog 135 k135 := ⟨⟨Tryd.t135, inf135, rfl, rfl⟩, Tryd.underlying135⟩
theorem deep135 : Deep Tryd.prog 135 k135 := .int Tryd.underlying135
theorem eq135 : EqOk Tryd.prog 1 135 k135 := eq_int Tryd.underlying135
theorem fit137 : Fit Tryd.prog 137 k137 := ⟨⟨Tryd.t137, inf137, rfl, rfl⟩, Tryd.underlying137⟩
theorem deep137 : Deep Tryd.prog 137 k137 := .int Tryd.underlying137
theorem eq137 : EqOk Tryd.prog 1 137 k137 := eq_int Tryd.underlying137
theorem fit138 : Fit Tryd.prog 138 k138 := ⟨⟨Tryd.t138, inf138, rfl, rfl⟩, Tryd.underlying138⟩
theorem deep138 : Deep Tryd.prog 138 k138 := .int Tryd.underlying138
theorem eq138 : EqOk Tryd.prog 1 138 k138 := eq_int Tryd.underlying138
theorem ar64 : ArFact Tryd.prog 64 256 k4 := ⟨4, Tryd.underlying64, fit4, by decide, Tryd.t64, inf64, by kernel_rfl⟩
theorem ar65 : ArFact Tryd.prog 65 256 k4 := ⟨4, Tryd.underlying65, fit4, by decide, Tryd.t65, inf65, by kernel_rfl⟩
theorem ar97 : ArFact Tryd.prog 97 256 k5 := ⟨5, Tryd.underlying97, fit5, by decide, Tryd.t97, inf97, by kernel_rfl⟩
theorem ar100 : ArFact Tryd.prog 100 16 k99 := ⟨99, Tryd.underlying100, fit99, by decide, Tryd.t100, inf100, by kernel_rfl⟩
theorem ar116 : ArFact Tryd.prog 116 24 k5 := ⟨5, Tryd.underlying116, fit5, by decide, Tryd.t116, inf116, by kernel_rfl⟩
theorem ar122 : ArFact Tryd.prog 122 20 k103 := ⟨103, Tryd.underlying122, fit103, by decide, Tryd.t122, inf122, by kernel_rfl⟩
theorem ar123 : ArFact Tryd.prog 123 65 k5 := ⟨5, Tryd.underlying123, fit5, by decide, Tryd.t123, inf123, by kernel_rfl⟩
theorem ar127 : ArFact Tryd.prog 127 32 k5 := ⟨5, Tryd.underlying127, fit5, by decide, Tryd.t127, inf127, by kernel_rfl⟩
theorem ar128 : ArFact Tryd.prog 128 64 k5 := ⟨5, Tryd.underlying128, fit5, by decide, Tryd.t128, inf128, by kernel_rfl⟩

@[reducible] def tab : Tab where
  ty := [(2, k2), (3, k3), (4, k4), (5, k5), (6, k6), (7, k7), (8, k8), (9, k9), (10, k10), (11, k11), (12, k12), (13, k13), (14, k14), (21, k21), (30, k30), (23, k23), (24, k24), (27, k27), (29, k29), (34, k34), (35, k35), (42, k42), (43, k43), (51, k51), (58, k58), (60, k60), (61, k61), (64, k64), (65, k65), (78, k78), (86, k86), (91, k91), (97, k97), (98, k98), (99, k99), (100, k100), (103, k103), (107, k107), (108, k108), (114, k114), (115, k115), (116, k116), (122, k122), (123, k123), (127, k127), (128, k128), (134, k134), (135, k135), (137, k137), (138, k138)]
  fo := [(7, [(0, k2), (1, k3), (2, k4), (3, k6)]), (8, [(0, k2), (1, k3), (2, k4), (3, k6)]), (13, [(0, k9), (1, k12)]), (14, [(0, k9), (1, k12)]), (30, [(0, k3), (1, k9), (2, k3), (3, k3)]), (29, [(0, k3), (1, k9), (2, k3), (3, k3)]), (34, [(0, k9), (1, k3)]), (35, [(0, k9), (1, k3)]), (42, [(0, k3), (1, k3), (2, k9)]), (43, [(0, k3), (1, k3), (2, k9)]), (57, [(0, k56), (1, k51)]), (58, [(0, k56), (1, k51)]), (98, [(0, k5), (1, k5)]), (99, [(0, k5), (1, k5)]), (107, [(0, k9), (1, k9), (2, k61)]), (108, [(0, k9), (1, k9), (2, k61)]), (114, [(0, k9)]), (115, [(0, k9)])]
  ar := [(64, (256, k4)), (65, (256, k4)), (97, (256, k5)), (100, (16, k99)), (116, (24, k5)), (122, (20, k103)), (123, (65, k5)), (127, (32, k5)), (128, (64, k5))]
  by_ := [(23, 40), (27, 16), (51, 1)]
  eq := [(4, k4), (7, k7), (8, k8), (30, k30), (29, k29), (34, k34), (35, k35), (42, k42), (43, k43)]

theorem tabOk : TabOk Tryd.prog tab where
  ty := ⟨⟨fit2, trivial, (fun h => nomatch h)⟩, ⟨⟨fit3, trivial, (fun h => nomatch h)⟩, ⟨⟨fit4, trivial, (fun h => nomatch h)⟩, ⟨⟨fit5, trivial, (fun h => nomatch h)⟩, ⟨⟨fit6, trivial, (fun h => nomatch h)⟩, ⟨⟨fit7, trivial, (fun _ => ⟨_, rfl⟩)⟩, ⟨⟨fit8, trivial, (fun _ => ⟨_, rfl⟩)⟩, ⟨⟨fit9, trivial, (fun h => nomatch h)⟩, ⟨⟨fit10, trivial, (fun h => nomatch h)⟩, ⟨⟨fit11, trivial, (fun h => nomatch h)⟩, ⟨⟨fit12, trivial, (fun h => nomatch h)⟩, ⟨⟨fit13, trivial, (fun _ => ⟨_, rfl⟩)⟩, ⟨⟨fit14, trivial, (fun _ => ⟨_, rfl⟩)⟩, ⟨⟨fit21, trivial, (fun h => nomatch h)⟩, ⟨⟨fit30, trivial, (fun _ => ⟨_, rfl⟩)⟩, ⟨⟨fit23, ⟨30, Tryd.t30, Tryd.underlying23, inf30, rfl, by decide⟩, (fun h => nomatch h)⟩, ⟨⟨fit24, trivial, (fun h => nomatch h)⟩, ⟨⟨fit27, ⟨9, Tryd.t9, Tryd.underlying27, inf9, rfl, by decide⟩, (fun h => nomatch h)⟩, ⟨⟨fit29, trivial, (fun _ => ⟨_, rfl⟩)⟩, ⟨⟨fit34, trivial, (fun _ => ⟨_, rfl⟩)⟩, ⟨⟨fit35, trivial, (fun _ => ⟨_, rfl⟩)⟩, ⟨⟨fit42, trivial, (fun _ => ⟨_, rfl⟩)⟩, ⟨⟨fit43, trivial, (fun _ => ⟨_, rfl⟩)⟩, ⟨⟨fit51, ⟨5, Tryd.t5, Tryd.underlying51, inf5, rfl, by decide⟩, (fun h => nomatch h)⟩, ⟨⟨fit58, trivial, (fun _ => ⟨_, rfl⟩)⟩, ⟨⟨fit60, trivial, (fun h => nomatch h)⟩, ⟨⟨fit61, trivial, (fun h => nomatch h)⟩, ⟨⟨fit64, trivial, (⟨rfl, rfl⟩)⟩, ⟨⟨fit65, trivial, (⟨rfl, rfl⟩)⟩, ⟨⟨fit78, trivial, (fun h => nomatch h)⟩, ⟨⟨fit86, trivial, (fun h => nomatch h)⟩, ⟨⟨fit91, trivial, (fun h => nomatch h)⟩, ⟨⟨fit97, trivial, (⟨rfl, rfl⟩)⟩, ⟨⟨fit98, trivial, (fun _ => ⟨_, rfl⟩)⟩, ⟨⟨fit99, trivial, (fun _ => ⟨_, rfl⟩)⟩, ⟨⟨fit100, trivial, (⟨rfl, rfl⟩)⟩, ⟨⟨fit103, trivial, (fun h => nomatch h)⟩, ⟨⟨fit107, trivial, (fun _ => ⟨_, rfl⟩)⟩, ⟨⟨fit108, trivial, (fun _ => ⟨_, rfl⟩)⟩, ⟨⟨fit114, trivial, (fun _ => ⟨_, rfl⟩)⟩, ⟨⟨fit115, trivial, (fun _ => ⟨_, rfl⟩)⟩, ⟨⟨fit116, trivial, (⟨rfl, rfl⟩)⟩, ⟨⟨fit122, trivial, (⟨rfl, rfl⟩)⟩, ⟨⟨fit123, trivial, (⟨rfl, rfl⟩)⟩, ⟨⟨fit127, trivial, (⟨rfl, rfl⟩)⟩, ⟨⟨fit128, trivial, (⟨rfl, rfl⟩)⟩, ⟨⟨fit134, trivial, (fun h => nomatch h)⟩, ⟨⟨fit135, trivial, (fun h => nomatch h)⟩, ⟨⟨fit137, trivial, (fun h => nomatch h)⟩, ⟨⟨fit138, trivial, (fun h => nomatch h)⟩, trivial⟩⟩⟩⟩⟩⟩⟩⟩⟩⟩⟩⟩⟩⟩⟩⟩⟩⟩⟩⟩⟩⟩⟩⟩⟩⟩⟩⟩⟩⟩⟩⟩⟩⟩⟩⟩⟩⟩⟩⟩⟩⟩⟩⟩⟩⟩⟩⟩⟩⟩
  fo := ⟨sf7, ⟨sf8, ⟨sf13, ⟨sf14, ⟨sf30, ⟨sf29, ⟨sf34, ⟨sf35, ⟨sf42, ⟨sf43, ⟨sf57, ⟨sf58, ⟨sf98, ⟨sf99, ⟨sf107, ⟨sf108, ⟨sf114, ⟨sf115, trivial⟩⟩⟩⟩⟩⟩⟩⟩⟩⟩⟩⟩⟩⟩⟩⟩⟩⟩
  ar := ⟨ar64, ⟨ar65, ⟨ar97, ⟨ar100, ⟨ar116, ⟨ar122, ⟨ar123, ⟨ar127, ⟨ar128, trivial⟩⟩⟩⟩⟩⟩⟩⟩⟩
  eq := ⟨.inr ⟨rfl, Tryd.underlying4⟩, ⟨.inl ⟨rfl, Tryd.eqGuardType7, EqOk.mono eq7 (by decide)⟩, ⟨.inl ⟨rfl, Tryd.eqGuardType8, EqOk.mono eq8 (by decide)⟩, ⟨.inl ⟨rfl, Tryd.eqGuardType30, EqOk.mono eq30 (by decide)⟩, ⟨.inl ⟨rfl, Tryd.eqGuardType29, EqOk.mono eq29 (by decide)⟩, ⟨.inl ⟨rfl, Tryd.eqGuardType34, EqOk.mono eq34 (by decide)⟩, ⟨.inl ⟨rfl, Tryd.eqGuardType35, EqOk.mono eq35 (by decide)⟩, ⟨.inl ⟨rfl, Tryd.eqGuardType42, EqOk.mono eq42 (by decide)⟩, ⟨.inl ⟨rfl, Tryd.eqGuardType43, EqOk.mono eq43 (by decide)⟩, trivial⟩⟩⟩⟩⟩⟩⟩⟩⟩
  slf := by kernel_rfl
  byt := ⟨(fun h => nomatch h), ⟨(fun h => nomatch h), ⟨(fun h => nomatch h), ⟨(fun h => nomatch h), ⟨(fun h => nomatch h), ⟨(fun h => nomatch h), ⟨(fun h => nomatch h), ⟨(fun h => nomatch h), ⟨(fun h => nomatch h), ⟨(fun h => nomatch h), ⟨(fun h => nomatch h), ⟨(fun h => nomatch h), ⟨(fun h => nomatch h), ⟨(fun h => nomatch h), ⟨(fun h => nomatch h), ⟨(fun h => nomatch h), ⟨(fun h => nomatch h), ⟨(fun h => nomatch h), ⟨(fun h => nomatch h), ⟨(fun h => nomatch h), ⟨(fun h => nomatch h), ⟨(fun h => nomatch h), ⟨(fun h => nomatch h), ⟨(fun _ => Tryd.underlying51), ⟨(fun h => nomatch h), ⟨(fun h => nomatch h), ⟨(fun h => nomatch h), ⟨(fun h => nomatch h), ⟨(fun h => nomatch h), ⟨(fun h => nomatch h), ⟨(fun h => nomatch h), ⟨(fun h => nomatch h), ⟨(fun h => nomatch h), ⟨(fun h => nomatch h), ⟨(fun h => nomatch h), ⟨(fun h => nomatch h), ⟨(fun h => nomatch h), ⟨(fun h => nomatch h), ⟨(fun h => nomatch h), ⟨(fun h => nomatch h), ⟨(fun h => nomatch h), ⟨(fun h => nomatch h), ⟨(fun h => nomatch h), ⟨(fun h => nomatch h), ⟨(fun h => nomatch h), ⟨(fun h => nomatch h), ⟨(fun h => nomatch h), ⟨(fun h => nomatch h), ⟨(fun h => nomatch h), ⟨(fun h => nomatch h), trivial⟩⟩⟩⟩⟩⟩⟩⟩⟩⟩⟩⟩⟩⟩⟩⟩⟩⟩⟩⟩⟩⟩⟩⟩⟩⟩⟩⟩⟩⟩⟩⟩⟩⟩⟩⟩⟩⟩⟩⟩⟩⟩⟩⟩⟩⟩⟩⟩⟩⟩
  mixed := by kernel_rfl

end Go.Proofs.YtboihdnijlilpaaDoor.Am

