/- PRINTED by gen/types.py of this repo: what the seat's types are. -/
import Derived.Test.YtggioofgjkedpaaAmGen
import Derived.Test.YtggioofgjkedpaaProg
import Derived.KernelRfl
namespace Go.Proofs.Ytggioofgjkedpaa.Am
open Go.AM

@[reducible] def k2 : Ty := .int .i64
@[reducible] def k3 : Ty := .int .i64
@[reducible] def k4 : Ty := .bool
@[reducible] def k5 : Ty := .int .u8
@[reducible] def k6 : Ty := .int .u8
@[reducible] def k7 : Ty := .pair k2 (.pair k3 (.pair k4 k6))
@[reducible] def k8 : Ty := .pair k2 (.pair k3 (.pair k4 k6))
@[reducible] def k9 : Ty := .str
@[reducible] def k10 : Ty := .str
@[reducible] def k11 : Ty := .str
@[reducible] def k12 : Ty := .int .u64
@[reducible] def k13 : Ty := .pair k9 k12
@[reducible] def k14 : Ty := .pair k9 k12
@[reducible] def k21 : Ty := .int .i32
@[reducible] def k22 : Ty := .pair k3 (.pair k3 k9)
@[reducible] def k23 : Ty := .pair k3 (.pair k3 k9)
@[reducible] def k24 : Ty := .pair k3 k23
@[reducible] def k25 : Ty := .pair k3 k23
@[reducible] def k27 : Ty := .int .i64
@[reducible] def k31 : Ty := .sl k23
@[reducible] def k33 : Ty := .pair k23 (.pair k23 (.pair k3 k3))
@[reducible] def k34 : Ty := .pair k23 (.pair k23 (.pair k3 k3))
@[reducible] def k39 : Ty := .sl k3
@[reducible] def k54 : Ty := .int .u64
@[reducible] def k62 : Ty := .int .u32
@[reducible] def k63 : Ty := .int .u8
@[reducible] def k64 : Ty := .int .u8
@[reducible] def k67 : Ty := .int .i32
@[reducible] def k68 : Ty := .int .i32

theorem fit2 : Fit Try.prog 2 k2 := ⟨⟨_, Try.type2, rfl, rfl⟩, Try.underlying2⟩
theorem deep2 : Deep Try.prog 2 k2 := .int Try.underlying2
theorem eq2 : EqOk Try.prog 1 2 k2 := eq_int Try.underlying2
theorem fit3 : Fit Try.prog 3 k3 := ⟨⟨_, Try.type3, rfl, rfl⟩, Try.underlying3⟩
theorem deep3 : Deep Try.prog 3 k3 := .int Try.underlying3
theorem eq3 : EqOk Try.prog 1 3 k3 := eq_int Try.underlying3
theorem fit4 : Fit Try.prog 4 k4 := ⟨⟨_, Try.type4, rfl, rfl⟩, Try.underlying4⟩
theorem deep4 : Deep Try.prog 4 k4 := .bool Try.underlying4
theorem eq4 : EqOk Try.prog 1 4 k4 := eq_bool Try.underlying4
theorem fit5 : Fit Try.prog 5 k5 := ⟨⟨_, Try.type5, rfl, rfl⟩, Try.underlying5⟩
theorem deep5 : Deep Try.prog 5 k5 := .int Try.underlying5
theorem eq5 : EqOk Try.prog 1 5 k5 := eq_int Try.underlying5
theorem fit6 : Fit Try.prog 6 k6 := ⟨⟨_, Try.type6, rfl, rfl⟩, Try.underlying6⟩
theorem deep6 : Deep Try.prog 6 k6 := .int Try.underlying6
theorem eq6 : EqOk Try.prog 1 6 k6 := eq_int Try.underlying6
theorem fit7 : Fit Try.prog 7 k7 := ⟨⟨_, Try.type7, rfl, rfl⟩, ⟨_, Try.underlying7, rfl⟩⟩
theorem sf7 : SFact Try.prog 7 [(0, k2), (1, k3), (2, k4), (3, k6)] := ⟨_, Try.underlying7, ⟨⟨rfl, fit2⟩, ⟨⟨rfl, fit3⟩, ⟨⟨rfl, fit4⟩, ⟨⟨rfl, fit6⟩, trivial⟩⟩⟩⟩⟩
theorem deep7 : Deep Try.prog 7 k7 := .pair Try.underlying7 (by kernel_rfl) (DeepF.cons rfl (by kernel_rfl) deep2 (DeepF.cons rfl (by kernel_rfl) deep3 (DeepF.cons rfl (by kernel_rfl) deep4 (DeepF.last rfl (by kernel_rfl) deep6))))
theorem eq7 : EqOk Try.prog 2 7 k7 := eq_struct Try.underlying7 Try.stoodInHeld7 ⟨⟨by decide, rfl, fit2, EqOk.mono eq2 (by decide)⟩, ⟨⟨by decide, rfl, fit3, EqOk.mono eq3 (by decide)⟩, ⟨⟨by decide, rfl, fit4, EqOk.mono eq4 (by decide)⟩, ⟨by decide, rfl, fit6, EqOk.mono eq6 (by decide)⟩⟩⟩⟩
theorem fit8 : Fit Try.prog 8 k8 := ⟨⟨_, Try.type8, rfl, rfl⟩, ⟨_, Try.underlying8, rfl⟩⟩
theorem sf8 : SFact Try.prog 8 [(0, k2), (1, k3), (2, k4), (3, k6)] := ⟨_, Try.underlying8, ⟨⟨rfl, fit2⟩, ⟨⟨rfl, fit3⟩, ⟨⟨rfl, fit4⟩, ⟨⟨rfl, fit6⟩, trivial⟩⟩⟩⟩⟩
theorem deep8 : Deep Try.prog 8 k8 := .pair Try.underlying8 (by kernel_rfl) (DeepF.cons rfl (by kernel_rfl) deep2 (DeepF.cons rfl (by kernel_rfl) deep3 (DeepF.cons rfl (by kernel_rfl) deep4 (DeepF.last rfl (by kernel_rfl) deep6))))
theorem eq8 : EqOk Try.prog 2 8 k8 := eq_struct Try.underlying8 Try.stoodInHeld8 ⟨⟨by decide, rfl, fit2, EqOk.mono eq2 (by decide)⟩, ⟨⟨by decide, rfl, fit3, EqOk.mono eq3 (by decide)⟩, ⟨⟨by decide, rfl, fit4, EqOk.mono eq4 (by decide)⟩, ⟨by decide, rfl, fit6, EqOk.mono eq6 (by decide)⟩⟩⟩⟩
theorem fit9 : Fit Try.prog 9 k9 := ⟨⟨_, Try.type9, rfl, rfl⟩, Try.underlying9⟩
theorem deep9 : Deep Try.prog 9 k9 := .str Try.underlying9
theorem eq9 : EqOk Try.prog 1 9 k9 := eq_str Try.underlying9
theorem fit10 : Fit Try.prog 10 k10 := ⟨⟨_, Try.type10, rfl, rfl⟩, Try.underlying10⟩
theorem deep10 : Deep Try.prog 10 k10 := .str Try.underlying10
theorem eq10 : EqOk Try.prog 1 10 k10 := eq_str Try.underlying10
theorem fit11 : Fit Try.prog 11 k11 := ⟨⟨_, Try.type11, rfl, rfl⟩, Try.underlying11⟩
theorem deep11 : Deep Try.prog 11 k11 := .str Try.underlying11
theorem eq11 : EqOk Try.prog 1 11 k11 := eq_str Try.underlying11
theorem fit12 : Fit Try.prog 12 k12 := ⟨⟨_, Try.type12, rfl, rfl⟩, Try.underlying12⟩
theorem deep12 : Deep Try.prog 12 k12 := .int Try.underlying12
theorem eq12 : EqOk Try.prog 1 12 k12 := eq_int Try.underlying12
theorem fit13 : Fit Try.prog 13 k13 := ⟨⟨_, Try.type13, rfl, rfl⟩, ⟨_, Try.underlying13, rfl⟩⟩
theorem sf13 : SFact Try.prog 13 [(0, k9), (1, k12)] := ⟨_, Try.underlying13, ⟨⟨rfl, fit9⟩, ⟨⟨rfl, fit12⟩, trivial⟩⟩⟩
theorem deep13 : Deep Try.prog 13 k13 := .pair Try.underlying13 (by kernel_rfl) (DeepF.cons rfl (by kernel_rfl) deep9 (DeepF.last rfl (by kernel_rfl) deep12))
theorem fit14 : Fit Try.prog 14 k14 := ⟨⟨_, Try.type14, rfl, rfl⟩, ⟨_, Try.underlying14, rfl⟩⟩
theorem sf14 : SFact Try.prog 14 [(0, k9), (1, k12)] := ⟨_, Try.underlying14, ⟨⟨rfl, fit9⟩, ⟨⟨rfl, fit12⟩, trivial⟩⟩⟩
theorem deep14 : Deep Try.prog 14 k14 := .pair Try.underlying14 (by kernel_rfl) (DeepF.cons rfl (by kernel_rfl) deep9 (DeepF.last rfl (by kernel_rfl) deep12))
theorem fit21 : Fit Try.prog 21 k21 := ⟨⟨_, Try.type21, rfl, rfl⟩, Try.underlying21⟩
theorem deep21 : Deep Try.prog 21 k21 := .int Try.underlying21
theorem eq21 : EqOk Try.prog 1 21 k21 := eq_int Try.underlying21
theorem fit22 : Fit Try.prog 22 k22 := ⟨⟨_, Try.type22, rfl, rfl⟩, ⟨_, Try.underlying22, rfl⟩⟩
theorem sf22 : SFact Try.prog 22 [(0, k3), (1, k3), (2, k9)] := ⟨_, Try.underlying22, ⟨⟨rfl, fit3⟩, ⟨⟨rfl, fit3⟩, ⟨⟨rfl, fit9⟩, trivial⟩⟩⟩⟩
theorem deep22 : Deep Try.prog 22 k22 := .pair Try.underlying22 (by kernel_rfl) (DeepF.cons rfl (by kernel_rfl) deep3 (DeepF.cons rfl (by kernel_rfl) deep3 (DeepF.last rfl (by kernel_rfl) deep9)))
theorem eq22 : EqOk Try.prog 2 22 k22 := eq_struct Try.underlying22 Try.stoodInHeld22 ⟨⟨by decide, rfl, fit3, EqOk.mono eq3 (by decide)⟩, ⟨⟨by decide, rfl, fit3, EqOk.mono eq3 (by decide)⟩, ⟨by decide, rfl, fit9, EqOk.mono eq9 (by decide)⟩⟩⟩
theorem fit23 : Fit Try.prog 23 k23 := ⟨⟨_, Try.type23, rfl, rfl⟩, ⟨_, Try.underlying23, rfl⟩⟩
theorem sf23 : SFact Try.prog 23 [(0, k3), (1, k3), (2, k9)] := ⟨_, Try.underlying23, ⟨⟨rfl, fit3⟩, ⟨⟨rfl, fit3⟩, ⟨⟨rfl, fit9⟩, trivial⟩⟩⟩⟩
theorem deep23 : Deep Try.prog 23 k23 := .pair Try.underlying23 (by kernel_rfl) (DeepF.cons rfl (by kernel_rfl) deep3 (DeepF.cons rfl (by kernel_rfl) deep3 (DeepF.last rfl (by kernel_rfl) deep9)))
theorem eq23 : EqOk Try.prog 2 23 k23 := eq_struct Try.underlying23 Try.stoodInHeld23 ⟨⟨by decide, rfl, fit3, EqOk.mono eq3 (by decide)⟩, ⟨⟨by decide, rfl, fit3, EqOk.mono eq3 (by decide)⟩, ⟨by decide, rfl, fit9, EqOk.mono eq9 (by decide)⟩⟩⟩
theorem fit24 : Fit Try.prog 24 k24 := ⟨⟨_, Try.type24, rfl, rfl⟩, ⟨_, Try.underlying24, rfl⟩⟩
theorem sf24 : SFact Try.prog 24 [(0, k3), (1, k23)] := ⟨_, Try.underlying24, ⟨⟨rfl, fit3⟩, ⟨⟨rfl, fit23⟩, trivial⟩⟩⟩
theorem deep24 : Deep Try.prog 24 k24 := .pair Try.underlying24 (by kernel_rfl) (DeepF.cons rfl (by kernel_rfl) deep3 (DeepF.last rfl (by kernel_rfl) deep23))
theorem eq24 : EqOk Try.prog 3 24 k24 := eq_struct Try.underlying24 Try.stoodInHeld24 ⟨⟨by decide, rfl, fit3, EqOk.mono eq3 (by decide)⟩, ⟨by decide, rfl, fit23, EqOk.mono eq23 (by decide)⟩⟩
theorem fit25 : Fit Try.prog 25 k25 := ⟨⟨_, Try.type25, rfl, rfl⟩, ⟨_, Try.underlying25, rfl⟩⟩
theorem sf25 : SFact Try.prog 25 [(0, k3), (1, k23)] := ⟨_, Try.underlying25, ⟨⟨rfl, fit3⟩, ⟨⟨rfl, fit23⟩, trivial⟩⟩⟩
theorem deep25 : Deep Try.prog 25 k25 := .pair Try.underlying25 (by kernel_rfl) (DeepF.cons rfl (by kernel_rfl) deep3 (DeepF.last rfl (by kernel_rfl) deep23))
theorem eq25 : EqOk Try.prog 3 25 k25 := eq_struct Try.underlying25 Try.stoodInHeld25 ⟨⟨by decide, rfl, fit3, EqOk.mono eq3 (by decide)⟩, ⟨by decide, rfl, fit23, EqOk.mono eq23 (by decide)⟩⟩
theorem fit27 : Fit Try.prog 27 k27 := ⟨⟨_, Try.type27, rfl, rfl⟩, Try.underlying27⟩
theorem deep27 : Deep Try.prog 27 k27 := .int Try.underlying27
theorem eq27 : EqOk Try.prog 1 27 k27 := eq_int Try.underlying27
theorem fit31 : Fit Try.prog 31 k31 := ⟨⟨_, Try.type31, rfl, rfl⟩, ⟨23, _, Try.underlying31, Try.type23, rfl, rfl, (fun _ h => nomatch h), (fun h => nomatch h)⟩⟩
theorem deep31 : Deep Try.prog 31 k31 := .sl Try.underlying31 (by kernel_rfl) deep23
theorem fit33 : Fit Try.prog 33 k33 := ⟨⟨_, Try.type33, rfl, rfl⟩, ⟨_, Try.underlying33, rfl⟩⟩
theorem sf33 : SFact Try.prog 33 [(0, k23), (3, k23), (6, k3), (7, k3)] := ⟨_, Try.underlying33, ⟨⟨rfl, fit23⟩, ⟨⟨rfl, fit23⟩, ⟨⟨rfl, fit3⟩, ⟨⟨rfl, fit3⟩, trivial⟩⟩⟩⟩⟩
theorem deep33 : Deep Try.prog 33 k33 := .pair Try.underlying33 (by kernel_rfl) (DeepF.cons rfl (by kernel_rfl) deep23 (DeepF.cons rfl (by kernel_rfl) deep23 (DeepF.cons rfl (by kernel_rfl) deep3 (DeepF.last rfl (by kernel_rfl) deep3))))
theorem eq33 : EqOk Try.prog 3 33 k33 := eq_struct Try.underlying33 Try.stoodInHeld33 ⟨⟨by decide, rfl, fit23, EqOk.mono eq23 (by decide)⟩, ⟨⟨by decide, rfl, fit23, EqOk.mono eq23 (by decide)⟩, ⟨⟨by decide, rfl, fit3, EqOk.mono eq3 (by decide)⟩, ⟨by decide, rfl, fit3, EqOk.mono eq3 (by decide)⟩⟩⟩⟩
theorem fit34 : Fit Try.prog 34 k34 := ⟨⟨_, Try.type34, rfl, rfl⟩, ⟨_, Try.underlying34, rfl⟩⟩
theorem sf34 : SFact Try.prog 34 [(0, k23), (3, k23), (6, k3), (7, k3)] := ⟨_, Try.underlying34, ⟨⟨rfl, fit23⟩, ⟨⟨rfl, fit23⟩, ⟨⟨rfl, fit3⟩, ⟨⟨rfl, fit3⟩, trivial⟩⟩⟩⟩⟩
theorem deep34 : Deep Try.prog 34 k34 := .pair Try.underlying34 (by kernel_rfl) (DeepF.cons rfl (by kernel_rfl) deep23 (DeepF.cons rfl (by kernel_rfl) deep23 (DeepF.cons rfl (by kernel_rfl) deep3 (DeepF.last rfl (by kernel_rfl) deep3))))
theorem eq34 : EqOk Try.prog 3 34 k34 := eq_struct Try.underlying34 Try.stoodInHeld34 ⟨⟨by decide, rfl, fit23, EqOk.mono eq23 (by decide)⟩, ⟨⟨by decide, rfl, fit23, EqOk.mono eq23 (by decide)⟩, ⟨⟨by decide, rfl, fit3, EqOk.mono eq3 (by decide)⟩, ⟨by decide, rfl, fit3, EqOk.mono eq3 (by decide)⟩⟩⟩⟩
theorem fit39 : Fit Try.prog 39 k39 := ⟨⟨_, Try.type39, rfl, rfl⟩, ⟨3, _, Try.underlying39, Try.type3, rfl, rfl, (fun k h => by cases h; exact Try.underlying3), (fun h => nomatch h)⟩⟩
theorem deep39 : Deep Try.prog 39 k39 := .sl Try.underlying39 (by kernel_rfl) deep3
theorem fit54 : Fit Try.prog 54 k54 := ⟨⟨_, Try.type54, rfl, rfl⟩, Try.underlying54⟩
theorem deep54 : Deep Try.prog 54 k54 := .int Try.underlying54
theorem eq54 : EqOk Try.prog 1 54 k54 := eq_int Try.underlying54
theorem fit62 : Fit Try.prog 62 k62 := ⟨⟨_, Try.type62, rfl, rfl⟩, Try.underlying62⟩
theorem deep62 : Deep Try.prog 62 k62 := .int Try.underlying62
theorem eq62 : EqOk Try.prog 1 62 k62 := eq_int Try.underlying62
theorem fit63 : Fit Try.prog 63 k63 := ⟨⟨_, Try.type63, rfl, rfl⟩, Try.underlying63⟩
theorem deep63 : Deep Try.prog 63 k63 := .int Try.underlying63
theorem eq63 : EqOk Try.prog 1 63 k63 := eq_int Try.underlying63
theorem fit64 : Fit Try.prog 64 k64 := ⟨⟨_, Try.type64, rfl, rfl⟩, Try.underlying64⟩
theorem deep64 : Deep Try.prog 64 k64 := .int Try.underlying64
theorem eq64 : EqOk Try.prog 1 64 k64 := eq_int Try.underlying64
theorem fit67 : Fit Try.prog 67 k67 := ⟨⟨_, Try.type67, rfl, rfl⟩, Try.underlying67⟩
theorem deep67 : Deep Try.prog 67 k67 := .int Try.underlying67
theorem eq67 : EqOk Try.prog 1 67 k67 := eq_int Try.underlying67
theorem fit68 : Fit Try.prog 68 k68 := ⟨⟨_, Try.type68, rfl, rfl⟩, Try.underlying68⟩
theorem deep68 : Deep Try.prog 68 k68 := .int Try.underlying68
theorem eq68 : EqOk Try.prog 1 68 k68 := eq_int Try.underlying68

@[reducible] def tab : Tab where
  ty := [(2, k2), (3, k3), (4, k4), (5, k5), (6, k6), (7, k7), (8, k8), (9, k9), (10, k10), (11, k11), (12, k12), (13, k13), (14, k14), (21, k21), (22, k22), (23, k23), (24, k24), (25, k25), (27, k27), (31, k31), (33, k33), (34, k34), (39, k39), (54, k54), (62, k62), (63, k63), (64, k64), (67, k67), (68, k68)]
  fo := [(7, [(0, k2), (1, k3), (2, k4), (3, k6)]), (8, [(0, k2), (1, k3), (2, k4), (3, k6)]), (13, [(0, k9), (1, k12)]), (14, [(0, k9), (1, k12)]), (22, [(0, k3), (1, k3), (2, k9)]), (23, [(0, k3), (1, k3), (2, k9)]), (24, [(0, k3), (1, k23)]), (25, [(0, k3), (1, k23)]), (33, [(0, k23), (3, k23), (6, k3), (7, k3)]), (34, [(0, k23), (3, k23), (6, k3), (7, k3)])]
  ar := []
  by_ := [(31, 32), (39, 8)]
  eq := [(4, k4), (7, k7), (8, k8), (22, k22), (23, k23), (24, k24), (25, k25), (33, k33), (34, k34)]

theorem tabOk : TabOk Try.prog tab where
  ty := ⟨⟨fit2, trivial, (fun h => nomatch h)⟩, ⟨⟨fit3, trivial, (fun h => nomatch h)⟩, ⟨⟨fit4, trivial, (fun h => nomatch h)⟩, ⟨⟨fit5, trivial, (fun h => nomatch h)⟩, ⟨⟨fit6, trivial, (fun h => nomatch h)⟩, ⟨⟨fit7, trivial, (fun _ => ⟨_, rfl⟩)⟩, ⟨⟨fit8, trivial, (fun _ => ⟨_, rfl⟩)⟩, ⟨⟨fit9, trivial, (fun h => nomatch h)⟩, ⟨⟨fit10, trivial, (fun h => nomatch h)⟩, ⟨⟨fit11, trivial, (fun h => nomatch h)⟩, ⟨⟨fit12, trivial, (fun h => nomatch h)⟩, ⟨⟨fit13, trivial, (fun _ => ⟨_, rfl⟩)⟩, ⟨⟨fit14, trivial, (fun _ => ⟨_, rfl⟩)⟩, ⟨⟨fit21, trivial, (fun h => nomatch h)⟩, ⟨⟨fit22, trivial, (fun _ => ⟨_, rfl⟩)⟩, ⟨⟨fit23, trivial, (fun _ => ⟨_, rfl⟩)⟩, ⟨⟨fit24, trivial, (fun _ => ⟨_, rfl⟩)⟩, ⟨⟨fit25, trivial, (fun _ => ⟨_, rfl⟩)⟩, ⟨⟨fit27, trivial, (fun h => nomatch h)⟩, ⟨⟨fit31, ⟨23, _, Try.underlying31, Try.type23, rfl, by decide⟩, (fun h => nomatch h)⟩, ⟨⟨fit33, trivial, (fun _ => ⟨_, rfl⟩)⟩, ⟨⟨fit34, trivial, (fun _ => ⟨_, rfl⟩)⟩, ⟨⟨fit39, ⟨3, _, Try.underlying39, Try.type3, rfl, by decide⟩, (fun h => nomatch h)⟩, ⟨⟨fit54, trivial, (fun h => nomatch h)⟩, ⟨⟨fit62, trivial, (fun h => nomatch h)⟩, ⟨⟨fit63, trivial, (fun h => nomatch h)⟩, ⟨⟨fit64, trivial, (fun h => nomatch h)⟩, ⟨⟨fit67, trivial, (fun h => nomatch h)⟩, ⟨⟨fit68, trivial, (fun h => nomatch h)⟩, trivial⟩⟩⟩⟩⟩⟩⟩⟩⟩⟩⟩⟩⟩⟩⟩⟩⟩⟩⟩⟩⟩⟩⟩⟩⟩⟩⟩⟩⟩
  fo := ⟨sf7, ⟨sf8, ⟨sf13, ⟨sf14, ⟨sf22, ⟨sf23, ⟨sf24, ⟨sf25, ⟨sf33, ⟨sf34, trivial⟩⟩⟩⟩⟩⟩⟩⟩⟩⟩
  ar := trivial
  eq := ⟨.inr ⟨rfl, Try.underlying4⟩, ⟨.inl ⟨rfl, Try.eqGuardType7, EqOk.mono eq7 (by decide)⟩, ⟨.inl ⟨rfl, Try.eqGuardType8, EqOk.mono eq8 (by decide)⟩, ⟨.inl ⟨rfl, Try.eqGuardType22, EqOk.mono eq22 (by decide)⟩, ⟨.inl ⟨rfl, Try.eqGuardType23, EqOk.mono eq23 (by decide)⟩, ⟨.inl ⟨rfl, Try.eqGuardType24, EqOk.mono eq24 (by decide)⟩, ⟨.inl ⟨rfl, Try.eqGuardType25, EqOk.mono eq25 (by decide)⟩, ⟨.inl ⟨rfl, Try.eqGuardType33, EqOk.mono eq33 (by decide)⟩, ⟨.inl ⟨rfl, Try.eqGuardType34, EqOk.mono eq34 (by decide)⟩, trivial⟩⟩⟩⟩⟩⟩⟩⟩⟩
  mixed := by kernel_rfl

end Go.Proofs.Ytggioofgjkedpaa.Am

