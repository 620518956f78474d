import Derived.Shelf.Lays
import Derived.Shelf.Lays2
import Derived.Shelf.SlicesE.Clone
import Derived.Shelf.Sort.Plain
import Derived.Shelf.Slices.CompactI
import Derived.Shelf.Slices.CompactS
import Derived.Shelf.Strings.BuilderK
import Derived.Shelf.Vars
import Derived.Shelf.Small.Strs
import Derived.Test.YtclpadlpcfnfmaaGreatProg
import Derived.KernelRfl
/- The shelf's layings at this program, in plain text. -/
namespace Go.Proofs.YtclpadlpcfnfmaaGreat.Am
open Go.Shelf
set_option maxRecDepth 100000
def gD:Go.Shelf.Ren:=⟨λ | 169=>269 | n=>n,λ | 70=>251 | 9=>9 | 0=>0 | 72=>253 | 37=>74 | 127=>270 | 3=>3 | 5=>5 | n=>n,λ | n=>n⟩
theorem Ysy:Go.Proofs.Lays.n169 Tryz.prog gD where
 mixed:=by kernel_rfl
 f169:=Tryz.func269.trans (congrArg some (by kernel_rfl))
 t0:=Tryz.underlying0
 a0:=Tryz.isAgg0
 z0:=Tryz.sizeOf0
 v0:=Tryz.zeroValue0
 t3:=Tryz.underlying3
 a3:=Tryz.isAgg3
 z3:=Tryz.sizeOf3
 v3:=Tryz.zeroValue3
 t9:=Tryz.underlying9
 a9:=Tryz.isAgg9
 z9:=Tryz.sizeOf9
 v9:=Tryz.zeroValue9
 t37:=Tryz.underlying74
 a37:=Tryz.isAgg74
 z37:=Tryz.sizeOf74
 v37:=Tryz.zeroValue74
 t70:=Tryz.underlying251
 a70:=Tryz.isAgg251
 z70:=Tryz.sizeOf251
 v70:=Tryz.zeroValue251
 t72:=Tryz.underlying253
 a72:=Tryz.isAgg253
 z72:=Tryz.sizeOf253
 v72:=Tryz.zeroValue253
 t127:=Tryz.underlying270
 a127:=Tryz.isAgg270
 z127:=Tryz.sizeOf270
 v127:=Tryz.zeroValue270
def gE:Go.Shelf.Ren:=⟨λ | 240=>283 | 276=>287 | n=>n,λ | 70=>251 | 0=>0 | 72=>253 | 4=>4 | 164=>274 | 37=>74 | 5=>5 | n=>n,λ | n=>n⟩
theorem Yry:Go.Proofs.Lays.n240 Tryz.prog gE where
 mixed:=by kernel_rfl
 f240:=Tryz.func283.trans (congrArg some (by kernel_rfl))
 f276:=Tryz.func287.trans (congrArg some (by kernel_rfl))
 t0:=Tryz.underlying0
 a0:=Tryz.isAgg0
 z0:=Tryz.sizeOf0
 v0:=Tryz.zeroValue0
 t4:=Tryz.underlying4
 a4:=Tryz.isAgg4
 z4:=Tryz.sizeOf4
 v4:=Tryz.zeroValue4
 t9:=Tryz.underlying9
 a9:=Tryz.isAgg9
 z9:=Tryz.sizeOf9
 v9:=Tryz.zeroValue9
 t20:=Tryz.underlying20
 a20:=Tryz.isAgg20
 z20:=Tryz.sizeOf20
 v20:=Tryz.zeroValue20
 t70:=Tryz.underlying251
 a70:=Tryz.isAgg251
 z70:=Tryz.sizeOf251
 v70:=Tryz.zeroValue251
 t72:=Tryz.underlying253
 a72:=Tryz.isAgg253
 z72:=Tryz.sizeOf253
 v72:=Tryz.zeroValue253
 t164:=Tryz.underlying274
 a164:=Tryz.isAgg274
 z164:=Tryz.sizeOf274
 v164:=Tryz.zeroValue274
def sH:Go.Shelf.Ren:=⟨λ | 189=>115 | 125=>171 | 257=>170 | 128=>214 | 129=>215 | 294=>206 | 295=>207 | 296=>208 | 297=>209 | 298=>210 | 299=>211 | 216=>146 | 300=>212 | 301=>213 | 328=>244 | 329=>245 | 330=>246 | 331=>247 | 332=>248 | 215=>197 | 343=>265 | n=>n,λ | 28=>29 | 3=>3 | 46=>64 | 0=>0 | 51=>223 | 53=>186 | 4=>4 | 183=>217 | 182=>216 | 131=>132 | 5=>5 | 9=>9 | 218=>237 | 222=>241 | 228=>245 | 229=>40 | n=>n,λ | n=>n⟩
theorem yH:Go.Proofs.Lays.n189 Tryz.prog sH where
 mixed:=by kernel_rfl
 f125:=Tryz.func171.trans (congrArg some (by kernel_rfl))
 f128:=Tryz.func214.trans (congrArg some (by kernel_rfl))
 f129:=Tryz.func215.trans (congrArg some (by kernel_rfl))
 f189:=Tryz.func115.trans (congrArg some (by kernel_rfl))
 f215:=Tryz.func197.trans (congrArg some (by kernel_rfl))
 f216:=Tryz.func146.trans (congrArg some (by kernel_rfl))
 f257:=Tryz.func170.trans (congrArg some (by kernel_rfl))
 f294:=Tryz.func206.trans (congrArg some (by kernel_rfl))
 f295:=Tryz.func207.trans (congrArg some (by kernel_rfl))
 f296:=Tryz.func208.trans (congrArg some (by kernel_rfl))
 f297:=Tryz.func209.trans (congrArg some (by kernel_rfl))
 f298:=Tryz.func210.trans (congrArg some (by kernel_rfl))
 f299:=Tryz.func211.trans (congrArg some (by kernel_rfl))
 f300:=Tryz.func212.trans (congrArg some (by kernel_rfl))
 f301:=Tryz.func213.trans (congrArg some (by kernel_rfl))
 f328:=Tryz.func244.trans (congrArg some (by kernel_rfl))
 f329:=Tryz.func245.trans (congrArg some (by kernel_rfl))
 f330:=Tryz.func246.trans (congrArg some (by kernel_rfl))
 f331:=Tryz.func247.trans (congrArg some (by kernel_rfl))
 f332:=Tryz.func248.trans (congrArg some (by kernel_rfl))
 f343:=Tryz.func265.trans (congrArg some (by kernel_rfl))
 t0:=Tryz.underlying0
 a0:=Tryz.isAgg0
 z0:=Tryz.sizeOf0
 v0:=Tryz.zeroValue0
 t3:=Tryz.underlying3
 a3:=Tryz.isAgg3
 z3:=Tryz.sizeOf3
 v3:=Tryz.zeroValue3
 t4:=Tryz.underlying4
 a4:=Tryz.isAgg4
 z4:=Tryz.sizeOf4
 v4:=Tryz.zeroValue4
 t5:=Tryz.underlying5
 a5:=Tryz.isAgg5
 z5:=Tryz.sizeOf5
 v5:=Tryz.zeroValue5
 t9:=Tryz.underlying9
 a9:=Tryz.isAgg9
 z9:=Tryz.sizeOf9
 v9:=Tryz.zeroValue9
 t28:=Tryz.underlying29
 a28:=Tryz.isAgg29
 z28:=Tryz.sizeOf29
 v28:=Tryz.zeroValue29
 t46:=Tryz.underlying64
 a46:=Tryz.isAgg64
 z46:=Tryz.sizeOf64
 v46:=Tryz.zeroValue64
 t51:=Tryz.underlying223
 a51:=Tryz.isAgg223
 z51:=Tryz.sizeOf223
 v51:=Tryz.zeroValue223
 t53:=Tryz.underlying186
 a53:=Tryz.isAgg186
 z53:=Tryz.sizeOf186
 v53:=Tryz.zeroValue186
 t131:=Tryz.underlying132
 a131:=Tryz.isAgg132
 z131:=Tryz.sizeOf132
 v131:=Tryz.zeroValue132
 t182:=Tryz.underlying216
 a182:=Tryz.isAgg216
 z182:=Tryz.sizeOf216
 v182:=Tryz.zeroValue216
 t183:=Tryz.underlying217
 a183:=Tryz.isAgg217
 z183:=Tryz.sizeOf217
 v183:=Tryz.zeroValue217
 t218:=Tryz.underlying237
 a218:=Tryz.isAgg237
 z218:=Tryz.sizeOf237
 v218:=Tryz.zeroValue237
 t222:=Tryz.underlying241
 a222:=Tryz.isAgg241
 z222:=Tryz.sizeOf241
 v222:=Tryz.zeroValue241
 t228:=Tryz.underlying245
 a228:=Tryz.isAgg245
 z228:=Tryz.sizeOf245
 v228:=Tryz.zeroValue245
 t229:=Tryz.underlying40
 a229:=Tryz.isAgg40
 z229:=Tryz.sizeOf40
 v229:=Tryz.zeroValue40
def sI:Go.Shelf.Ren:=⟨λ | 190=>275 | 125=>171 | 258=>284 | 128=>214 | 129=>215 | 302=>288 | 303=>289 | 304=>290 | 305=>291 | 306=>292 | 307=>293 | 308=>285 | 309=>294 | 310=>295 | 333=>297 | 329=>245 | 330=>246 | 334=>298 | 335=>299 | 336=>296 | 344=>300 | n=>n,λ | 31=>104 | 9=>9 | 3=>3 | 46=>64 | 0=>0 | 51=>223 | 53=>186 | 4=>4 | 183=>217 | 182=>216 | 131=>132 | 5=>5 | 218=>237 | 222=>241 | 228=>245 | 229=>40 | n=>n,λ | n=>n⟩
theorem Yty:Go.Proofs.Lays.n190 Tryz.prog sI where
 mixed:=by kernel_rfl
 f125:=Tryz.func171.trans (congrArg some (by kernel_rfl))
 f128:=Tryz.func214.trans (congrArg some (by kernel_rfl))
 f129:=Tryz.func215.trans (congrArg some (by kernel_rfl))
 f190:=Tryz.func275.trans (congrArg some (by kernel_rfl))
 f258:=Tryz.func284.trans (congrArg some (by kernel_rfl))
 f302:=Tryz.func288.trans (congrArg some (by kernel_rfl))
 f303:=Tryz.func289.trans (congrArg some (by kernel_rfl))
 f304:=Tryz.func290.trans (congrArg some (by kernel_rfl))
 f305:=Tryz.func291.trans (congrArg some (by kernel_rfl))
 f306:=Tryz.func292.trans (congrArg some (by kernel_rfl))
 f307:=Tryz.func293.trans (congrArg some (by kernel_rfl))
 f308:=Tryz.func285.trans (congrArg some (by kernel_rfl))
 f309:=Tryz.func294.trans (congrArg some (by kernel_rfl))
 f310:=Tryz.func295.trans (congrArg some (by kernel_rfl))
 f329:=Tryz.func245.trans (congrArg some (by kernel_rfl))
 f330:=Tryz.func246.trans (congrArg some (by kernel_rfl))
 f333:=Tryz.func297.trans (congrArg some (by kernel_rfl))
 f334:=Tryz.func298.trans (congrArg some (by kernel_rfl))
 f335:=Tryz.func299.trans (congrArg some (by kernel_rfl))
 f336:=Tryz.func296.trans (congrArg some (by kernel_rfl))
 f344:=Tryz.func300.trans (congrArg some (by kernel_rfl))
 t0:=Tryz.underlying0
 a0:=Tryz.isAgg0
 z0:=Tryz.sizeOf0
 v0:=Tryz.zeroValue0
 t3:=Tryz.underlying3
 a3:=Tryz.isAgg3
 z3:=Tryz.sizeOf3
 v3:=Tryz.zeroValue3
 t4:=Tryz.underlying4
 a4:=Tryz.isAgg4
 z4:=Tryz.sizeOf4
 v4:=Tryz.zeroValue4
 t5:=Tryz.underlying5
 a5:=Tryz.isAgg5
 z5:=Tryz.sizeOf5
 v5:=Tryz.zeroValue5
 t9:=Tryz.underlying9
 a9:=Tryz.isAgg9
 z9:=Tryz.sizeOf9
 v9:=Tryz.zeroValue9
 t31:=Tryz.underlying104
 a31:=Tryz.isAgg104
 z31:=Tryz.sizeOf104
 v31:=Tryz.zeroValue104
 t46:=Tryz.underlying64
 a46:=Tryz.isAgg64
 z46:=Tryz.sizeOf64
 v46:=Tryz.zeroValue64
 t51:=Tryz.underlying223
 a51:=Tryz.isAgg223
 z51:=Tryz.sizeOf223
 v51:=Tryz.zeroValue223
 t53:=Tryz.underlying186
 a53:=Tryz.isAgg186
 z53:=Tryz.sizeOf186
 v53:=Tryz.zeroValue186
 t131:=Tryz.underlying132
 a131:=Tryz.isAgg132
 z131:=Tryz.sizeOf132
 v131:=Tryz.zeroValue132
 t182:=Tryz.underlying216
 a182:=Tryz.isAgg216
 z182:=Tryz.sizeOf216
 v182:=Tryz.zeroValue216
 t183:=Tryz.underlying217
 a183:=Tryz.isAgg217
 z183:=Tryz.sizeOf217
 v183:=Tryz.zeroValue217
 t218:=Tryz.underlying237
 a218:=Tryz.isAgg237
 z218:=Tryz.sizeOf237
 v218:=Tryz.zeroValue237
 t222:=Tryz.underlying241
 a222:=Tryz.isAgg241
 z222:=Tryz.sizeOf241
 v222:=Tryz.zeroValue241
 t228:=Tryz.underlying245
 a228:=Tryz.isAgg245
 z228:=Tryz.sizeOf245
 v228:=Tryz.zeroValue245
 t229:=Tryz.underlying40
 a229:=Tryz.isAgg40
 z229:=Tryz.sizeOf40
 v229:=Tryz.zeroValue40
def sh:Go.Shelf.Ren:=⟨λ | 20=>158 | n=>n,λ | 22=>29 | 3=>3 | 4=>4 | 0=>0 | n=>n,λ | n=>n⟩
theorem Yff:Go.Proofs.Lays2.n20 Tryz.prog sh where
 mixed:=by kernel_rfl
 f20:=Tryz.func158.trans (congrArg some (by kernel_rfl))
 t0:=Tryz.underlying0
 a0:=Tryz.isAgg0
 z0:=Tryz.sizeOf0
 v0:=Tryz.zeroValue0
 t3:=Tryz.underlying3
 a3:=Tryz.isAgg3
 z3:=Tryz.sizeOf3
 v3:=Tryz.zeroValue3
 t4:=Tryz.underlying4
 a4:=Tryz.isAgg4
 z4:=Tryz.sizeOf4
 v4:=Tryz.zeroValue4
 t22:=Tryz.underlying29
 a22:=Tryz.isAgg29
 z22:=Tryz.sizeOf29
 v22:=Tryz.zeroValue29
 i3:=by kernel_rfl
def sJ:Go.Shelf.Ren:=⟨λ | 194=>276 | n=>n,λ | 31=>104 | 9=>9 | 3=>3 | 4=>4 | 0=>0 | n=>n,λ | n=>n⟩
theorem Yuy:Go.Proofs.Lays.n194 Tryz.prog sJ where
 mixed:=by kernel_rfl
 f194:=Tryz.func276.trans (congrArg some (by kernel_rfl))
 t0:=Tryz.underlying0
 a0:=Tryz.isAgg0
 z0:=Tryz.sizeOf0
 v0:=Tryz.zeroValue0
 t3:=Tryz.underlying3
 a3:=Tryz.isAgg3
 z3:=Tryz.sizeOf3
 v3:=Tryz.zeroValue3
 t4:=Tryz.underlying4
 a4:=Tryz.isAgg4
 z4:=Tryz.sizeOf4
 v4:=Tryz.zeroValue4
 t9:=Tryz.underlying9
 a9:=Tryz.isAgg9
 z9:=Tryz.sizeOf9
 v9:=Tryz.zeroValue9
 t31:=Tryz.underlying104
 a31:=Tryz.isAgg104
 z31:=Tryz.sizeOf104
 v31:=Tryz.zeroValue104
def sF:Go.Shelf.Ren:=⟨λ | 106=>240 | 213=>264 | 265=>278 | n=>n,λ | 9=>9 | 3=>3 | n=>n,λ | n=>n⟩
theorem Yqy:Go.Proofs.Lays.n106 Tryz.prog sF where
 mixed:=by kernel_rfl
 f106:=Tryz.func240.trans (congrArg some (by kernel_rfl))
 f213:=Tryz.func264.trans (congrArg some (by kernel_rfl))
 f265:=Tryz.func278.trans (congrArg some (by kernel_rfl))
 t3:=Tryz.underlying3
 a3:=Tryz.isAgg3
 z3:=Tryz.sizeOf3
 v3:=Tryz.zeroValue3
 t9:=Tryz.underlying9
 a9:=Tryz.isAgg9
 z9:=Tryz.sizeOf9
 v9:=Tryz.zeroValue9
def gR:Go.Shelf.Ren:=⟨λ | 41=>232 | n=>n,λ | 22=>22 | 23=>45 | 4=>4 | n=>n,λ | n=>n⟩
theorem Yj4:Go.Proofs.SlLaysE0.n41 Tryz.prog gR where
 mixed:=by kernel_rfl
 f41:=⟨"slices.Clone[[]peristyle/api.Cell,peristyle/api.Cell]",by decide,Tryz.func232.trans (congrArg some (by kernel_rfl))⟩
 t4:=Tryz.underlying4
 a4:=Tryz.isAgg4
 z4:=Tryz.sizeOf4
 v4:=Tryz.zeroValue4
 t22:=Tryz.underlying22
 a22:=Tryz.isAgg22
 z22:=Tryz.sizeOf22
 v22:=Tryz.zeroValue22
def gQ:Go.Shelf.Ren:=⟨λ | 41=>274 | n=>n,λ | 22=>104 | 23=>9 | 4=>4 | n=>n,λ | n=>n⟩
theorem Yi4:Go.Proofs.SlLaysE0.n41 Tryz.prog gQ where
 mixed:=by kernel_rfl
 f41:=⟨"slices.Clone[[]string,string]",by decide,Tryz.func274.trans (congrArg some (by kernel_rfl))⟩
 t4:=Tryz.underlying4
 a4:=Tryz.isAgg4
 z4:=Tryz.sizeOf4
 v4:=Tryz.zeroValue4
 t22:=Tryz.underlying104
 a22:=Tryz.isAgg104
 z22:=Tryz.sizeOf104
 v22:=Tryz.zeroValue104
def gP:Go.Shelf.Ren:=⟨λ | 41=>114 | n=>n,λ | 22=>29 | 23=>3 | 4=>4 | n=>n,λ | n=>n⟩
theorem lS:Go.Proofs.SlLaysE0.n41 Tryz.prog gP where
 mixed:=by kernel_rfl
 f41:=⟨"slices.Clone[[]int,int]",by decide,Tryz.func114.trans (congrArg some (by kernel_rfl))⟩
 t4:=Tryz.underlying4
 a4:=Tryz.isAgg4
 z4:=Tryz.sizeOf4
 v4:=Tryz.zeroValue4
 t22:=Tryz.underlying29
 a22:=Tryz.isAgg29
 z22:=Tryz.sizeOf29
 v22:=Tryz.zeroValue29
def tw:Go.Shelf.Ren:=⟨λ | 41=>36 | n=>n,λ | 22=>23 | 23=>67 | 4=>4 | n=>n,λ | n=>n⟩
theorem Yk4:Go.Proofs.SlLaysE0.n41 Tryz.prog tw where
 mixed:=by kernel_rfl
 f41:=⟨"slices.Clone[[]peristyle/api.Span,peristyle/api.Span]",by decide,Tryz.func36.trans (congrArg some (by kernel_rfl))⟩
 t4:=Tryz.underlying4
 a4:=Tryz.isAgg4
 z4:=Tryz.sizeOf4
 v4:=Tryz.zeroValue4
 t22:=Tryz.underlying23
 a22:=Tryz.isAgg23
 z22:=Tryz.sizeOf23
 v22:=Tryz.zeroValue23
end Go.Proofs.YtclpadlpcfnfmaaGreat.Am
