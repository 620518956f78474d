import Derived.Shelf.Lays
import Derived.Shelf.Lays2
import Derived.Shelf.SlicesE.Clone
import Derived.Shelf.Sort.Plain
import Derived.Shelf.Slices.CompactI
import Derived.Shelf.Slices.CompactS
import Derived.Shelf.Strings.BuilderK
import Derived.Shelf.Vars
import Derived.Test.YtlamhllcnbcbbaaGreatProg
import Derived.KernelRfl
/- The shelf's layings at this program, in plain text. -/
namespace Go.Proofs.YtlamhllcnbcbbaaGreat.Am
open Go.Shelf
set_option maxRecDepth 100000
def Zit:Go.Shelf.Ren:=⟨fun | 169=>108 | n=>n,fun | 70=>120 | 9=>9 | 0=>0 | 72=>122 | 37=>46 | 127=>142 | 3=>3 | 5=>5 | n=>n,fun | n=>n⟩
theorem Zcc3:Go.Proofs.Lays.n169 Tryz.prog Zit where
  mixed:=by kernel_rfl
  f169:=Tryz.func108.trans (congrArg some (by kernel_rfl))
  t0:=Tryz.underlying0
  a0:=Tryz.isAgg0
  z0:=Tryz.sizeOf0
  v0:=Tryz.zeroValue0
  t3:=Tryz.underlying3
  a3:=Tryz.isAgg3
  z3:=Tryz.sizeOf3
  v3:=Tryz.zeroValue3
  t9:=Tryz.underlying9
  a9:=Tryz.isAgg9
  z9:=Tryz.sizeOf9
  v9:=Tryz.zeroValue9
  t37:=Tryz.underlying46
  a37:=Tryz.isAgg46
  z37:=Tryz.sizeOf46
  v37:=Tryz.zeroValue46
  t70:=Tryz.underlying120
  a70:=Tryz.isAgg120
  z70:=Tryz.sizeOf120
  v70:=Tryz.zeroValue120
  t72:=Tryz.underlying122
  a72:=Tryz.isAgg122
  z72:=Tryz.sizeOf122
  v72:=Tryz.zeroValue122
  t127:=Tryz.underlying142
  a127:=Tryz.isAgg142
  z127:=Tryz.sizeOf142
  v127:=Tryz.zeroValue142
def Zjt:Go.Shelf.Ren:=⟨fun | 240=>138 | 276=>159 | n=>n,fun | 70=>120 | 0=>0 | 72=>122 | 4=>4 | 164=>160 | 37=>46 | 5=>5 | n=>n,fun | n=>n⟩
theorem Zdc3:Go.Proofs.Lays.n240 Tryz.prog Zjt where
  mixed:=by kernel_rfl
  f240:=Tryz.func138.trans (congrArg some (by kernel_rfl))
  f276:=Tryz.func159.trans (congrArg some (by kernel_rfl))
  t0:=Tryz.underlying0
  a0:=Tryz.isAgg0
  z0:=Tryz.sizeOf0
  v0:=Tryz.zeroValue0
  t4:=Tryz.underlying4
  a4:=Tryz.isAgg4
  z4:=Tryz.sizeOf4
  v4:=Tryz.zeroValue4
  t9:=Tryz.underlying9
  a9:=Tryz.isAgg9
  z9:=Tryz.sizeOf9
  v9:=Tryz.zeroValue9
  t20:=Tryz.underlying20
  a20:=Tryz.isAgg20
  z20:=Tryz.sizeOf20
  v20:=Tryz.zeroValue20
  t70:=Tryz.underlying120
  a70:=Tryz.isAgg120
  z70:=Tryz.sizeOf120
  v70:=Tryz.zeroValue120
  t72:=Tryz.underlying122
  a72:=Tryz.isAgg122
  z72:=Tryz.sizeOf122
  v72:=Tryz.zeroValue122
  t164:=Tryz.underlying160
  a164:=Tryz.isAgg160
  z164:=Tryz.sizeOf160
  v164:=Tryz.zeroValue160
def Zo6:Go.Shelf.Ren:=⟨fun | 189=>161 | 125=>143 | 257=>181 | 128=>172 | 129=>173 | 294=>192 | 295=>193 | 296=>194 | 297=>195 | 298=>196 | 299=>197 | 216=>182 | 300=>198 | 301=>199 | 328=>202 | 329=>185 | 330=>186 | 331=>203 | 332=>204 | 215=>200 | 343=>205 | n=>n,fun | 28=>32 | 3=>3 | 46=>47 | 0=>0 | 51=>74 | 53=>96 | 4=>4 | 183=>166 | 182=>165 | 131=>118 | 5=>5 | 9=>9 | 218=>183 | 222=>187 | 228=>200 | 229=>175 | n=>n,fun | n=>n⟩
theorem Zec3:Go.Proofs.Lays.n189 Tryz.prog Zo6 where
  mixed:=by kernel_rfl
  f125:=Tryz.func143.trans (congrArg some (by kernel_rfl))
  f128:=Tryz.func172.trans (congrArg some (by kernel_rfl))
  f129:=Tryz.func173.trans (congrArg some (by kernel_rfl))
  f189:=Tryz.func161.trans (congrArg some (by kernel_rfl))
  f215:=Tryz.func200.trans (congrArg some (by kernel_rfl))
  f216:=Tryz.func182.trans (congrArg some (by kernel_rfl))
  f257:=Tryz.func181.trans (congrArg some (by kernel_rfl))
  f294:=Tryz.func192.trans (congrArg some (by kernel_rfl))
  f295:=Tryz.func193.trans (congrArg some (by kernel_rfl))
  f296:=Tryz.func194.trans (congrArg some (by kernel_rfl))
  f297:=Tryz.func195.trans (congrArg some (by kernel_rfl))
  f298:=Tryz.func196.trans (congrArg some (by kernel_rfl))
  f299:=Tryz.func197.trans (congrArg some (by kernel_rfl))
  f300:=Tryz.func198.trans (congrArg some (by kernel_rfl))
  f301:=Tryz.func199.trans (congrArg some (by kernel_rfl))
  f328:=Tryz.func202.trans (congrArg some (by kernel_rfl))
  f329:=Tryz.func185.trans (congrArg some (by kernel_rfl))
  f330:=Tryz.func186.trans (congrArg some (by kernel_rfl))
  f331:=Tryz.func203.trans (congrArg some (by kernel_rfl))
  f332:=Tryz.func204.trans (congrArg some (by kernel_rfl))
  f343:=Tryz.func205.trans (congrArg some (by kernel_rfl))
  t0:=Tryz.underlying0
  a0:=Tryz.isAgg0
  z0:=Tryz.sizeOf0
  v0:=Tryz.zeroValue0
  t3:=Tryz.underlying3
  a3:=Tryz.isAgg3
  z3:=Tryz.sizeOf3
  v3:=Tryz.zeroValue3
  t4:=Tryz.underlying4
  a4:=Tryz.isAgg4
  z4:=Tryz.sizeOf4
  v4:=Tryz.zeroValue4
  t5:=Tryz.underlying5
  a5:=Tryz.isAgg5
  z5:=Tryz.sizeOf5
  v5:=Tryz.zeroValue5
  t9:=Tryz.underlying9
  a9:=Tryz.isAgg9
  z9:=Tryz.sizeOf9
  v9:=Tryz.zeroValue9
  t28:=Tryz.underlying32
  a28:=Tryz.isAgg32
  z28:=Tryz.sizeOf32
  v28:=Tryz.zeroValue32
  t46:=Tryz.underlying47
  a46:=Tryz.isAgg47
  z46:=Tryz.sizeOf47
  v46:=Tryz.zeroValue47
  t51:=Tryz.underlying74
  a51:=Tryz.isAgg74
  z51:=Tryz.sizeOf74
  v51:=Tryz.zeroValue74
  t53:=Tryz.underlying96
  a53:=Tryz.isAgg96
  z53:=Tryz.sizeOf96
  v53:=Tryz.zeroValue96
  t131:=Tryz.underlying118
  a131:=Tryz.isAgg118
  z131:=Tryz.sizeOf118
  v131:=Tryz.zeroValue118
  t182:=Tryz.underlying165
  a182:=Tryz.isAgg165
  z182:=Tryz.sizeOf165
  v182:=Tryz.zeroValue165
  t183:=Tryz.underlying166
  a183:=Tryz.isAgg166
  z183:=Tryz.sizeOf166
  v183:=Tryz.zeroValue166
  t218:=Tryz.underlying183
  a218:=Tryz.isAgg183
  z218:=Tryz.sizeOf183
  v218:=Tryz.zeroValue183
  t222:=Tryz.underlying187
  a222:=Tryz.isAgg187
  z222:=Tryz.sizeOf187
  v222:=Tryz.zeroValue187
  t228:=Tryz.underlying200
  a228:=Tryz.isAgg200
  z228:=Tryz.sizeOf200
  v228:=Tryz.zeroValue200
  t229:=Tryz.underlying175
  a229:=Tryz.isAgg175
  z229:=Tryz.sizeOf175
  v229:=Tryz.zeroValue175
def Zp6:Go.Shelf.Ren:=⟨fun | 190=>115 | 125=>143 | 258=>142 | 128=>172 | 129=>173 | 302=>164 | 303=>165 | 304=>166 | 305=>167 | 306=>168 | 307=>169 | 308=>144 | 309=>170 | 310=>171 | 333=>184 | 329=>185 | 330=>186 | 334=>187 | 335=>188 | 336=>174 | 344=>201 | n=>n,fun | 31=>63 | 9=>9 | 3=>3 | 46=>47 | 0=>0 | 51=>74 | 53=>96 | 4=>4 | 183=>166 | 182=>165 | 131=>118 | 5=>5 | 218=>183 | 222=>187 | 228=>200 | 229=>175 | n=>n,fun | n=>n⟩
theorem Zfc3:Go.Proofs.Lays.n190 Tryz.prog Zp6 where
  mixed:=by kernel_rfl
  f125:=Tryz.func143.trans (congrArg some (by kernel_rfl))
  f128:=Tryz.func172.trans (congrArg some (by kernel_rfl))
  f129:=Tryz.func173.trans (congrArg some (by kernel_rfl))
  f190:=Tryz.func115.trans (congrArg some (by kernel_rfl))
  f258:=Tryz.func142.trans (congrArg some (by kernel_rfl))
  f302:=Tryz.func164.trans (congrArg some (by kernel_rfl))
  f303:=Tryz.func165.trans (congrArg some (by kernel_rfl))
  f304:=Tryz.func166.trans (congrArg some (by kernel_rfl))
  f305:=Tryz.func167.trans (congrArg some (by kernel_rfl))
  f306:=Tryz.func168.trans (congrArg some (by kernel_rfl))
  f307:=Tryz.func169.trans (congrArg some (by kernel_rfl))
  f308:=Tryz.func144.trans (congrArg some (by kernel_rfl))
  f309:=Tryz.func170.trans (congrArg some (by kernel_rfl))
  f310:=Tryz.func171.trans (congrArg some (by kernel_rfl))
  f329:=Tryz.func185.trans (congrArg some (by kernel_rfl))
  f330:=Tryz.func186.trans (congrArg some (by kernel_rfl))
  f333:=Tryz.func184.trans (congrArg some (by kernel_rfl))
  f334:=Tryz.func187.trans (congrArg some (by kernel_rfl))
  f335:=Tryz.func188.trans (congrArg some (by kernel_rfl))
  f336:=Tryz.func174.trans (congrArg some (by kernel_rfl))
  f344:=Tryz.func201.trans (congrArg some (by kernel_rfl))
  t0:=Tryz.underlying0
  a0:=Tryz.isAgg0
  z0:=Tryz.sizeOf0
  v0:=Tryz.zeroValue0
  t3:=Tryz.underlying3
  a3:=Tryz.isAgg3
  z3:=Tryz.sizeOf3
  v3:=Tryz.zeroValue3
  t4:=Tryz.underlying4
  a4:=Tryz.isAgg4
  z4:=Tryz.sizeOf4
  v4:=Tryz.zeroValue4
  t5:=Tryz.underlying5
  a5:=Tryz.isAgg5
  z5:=Tryz.sizeOf5
  v5:=Tryz.zeroValue5
  t9:=Tryz.underlying9
  a9:=Tryz.isAgg9
  z9:=Tryz.sizeOf9
  v9:=Tryz.zeroValue9
  t31:=Tryz.underlying63
  a31:=Tryz.isAgg63
  z31:=Tryz.sizeOf63
  v31:=Tryz.zeroValue63
  t46:=Tryz.underlying47
  a46:=Tryz.isAgg47
  z46:=Tryz.sizeOf47
  v46:=Tryz.zeroValue47
  t51:=Tryz.underlying74
  a51:=Tryz.isAgg74
  z51:=Tryz.sizeOf74
  v51:=Tryz.zeroValue74
  t53:=Tryz.underlying96
  a53:=Tryz.isAgg96
  z53:=Tryz.sizeOf96
  v53:=Tryz.zeroValue96
  t131:=Tryz.underlying118
  a131:=Tryz.isAgg118
  z131:=Tryz.sizeOf118
  v131:=Tryz.zeroValue118
  t182:=Tryz.underlying165
  a182:=Tryz.isAgg165
  z182:=Tryz.sizeOf165
  v182:=Tryz.zeroValue165
  t183:=Tryz.underlying166
  a183:=Tryz.isAgg166
  z183:=Tryz.sizeOf166
  v183:=Tryz.zeroValue166
  t218:=Tryz.underlying183
  a218:=Tryz.isAgg183
  z218:=Tryz.sizeOf183
  v218:=Tryz.zeroValue183
  t222:=Tryz.underlying187
  a222:=Tryz.isAgg187
  z222:=Tryz.sizeOf187
  v222:=Tryz.zeroValue187
  t228:=Tryz.underlying200
  a228:=Tryz.isAgg200
  z228:=Tryz.sizeOf200
  v228:=Tryz.zeroValue200
  t229:=Tryz.underlying175
  a229:=Tryz.isAgg175
  z229:=Tryz.sizeOf175
  v229:=Tryz.zeroValue175
def Zw3:Go.Shelf.Ren:=⟨fun | 20=>162 | n=>n,fun | 22=>32 | 3=>3 | 4=>4 | 0=>0 | n=>n,fun | n=>n⟩
theorem Znz2:Go.Proofs.Lays2.n20 Tryz.prog Zw3 where
  mixed:=by kernel_rfl
  f20:=Tryz.func162.trans (congrArg some (by kernel_rfl))
  t0:=Tryz.underlying0
  a0:=Tryz.isAgg0
  z0:=Tryz.sizeOf0
  v0:=Tryz.zeroValue0
  t3:=Tryz.underlying3
  a3:=Tryz.isAgg3
  z3:=Tryz.sizeOf3
  v3:=Tryz.zeroValue3
  t4:=Tryz.underlying4
  a4:=Tryz.isAgg4
  z4:=Tryz.sizeOf4
  v4:=Tryz.zeroValue4
  t22:=Tryz.underlying32
  a22:=Tryz.isAgg32
  z22:=Tryz.sizeOf32
  v22:=Tryz.zeroValue32
  i3:=by kernel_rfl
def Zq6:Go.Shelf.Ren:=⟨fun | 194=>116 | n=>n,fun | 31=>63 | 9=>9 | 3=>3 | 4=>4 | 0=>0 | n=>n,fun | n=>n⟩
theorem Zgc3:Go.Proofs.Lays.n194 Tryz.prog Zq6 where
  mixed:=by kernel_rfl
  f194:=Tryz.func116.trans (congrArg some (by kernel_rfl))
  t0:=Tryz.underlying0
  a0:=Tryz.isAgg0
  z0:=Tryz.sizeOf0
  v0:=Tryz.zeroValue0
  t3:=Tryz.underlying3
  a3:=Tryz.isAgg3
  z3:=Tryz.sizeOf3
  v3:=Tryz.zeroValue3
  t4:=Tryz.underlying4
  a4:=Tryz.isAgg4
  z4:=Tryz.sizeOf4
  v4:=Tryz.zeroValue4
  t9:=Tryz.underlying9
  a9:=Tryz.isAgg9
  z9:=Tryz.sizeOf9
  v9:=Tryz.zeroValue9
  t31:=Tryz.underlying63
  a31:=Tryz.isAgg63
  z31:=Tryz.sizeOf63
  v31:=Tryz.zeroValue63
def Zwx:Go.Shelf.Ren:=⟨fun | 41=>41 | n=>n,fun | 22=>22 | 23=>34 | 4=>4 | n=>n,fun | n=>n⟩
theorem Zpl3:Go.Proofs.SlLaysE0.n41 Tryz.prog Zwx where
  mixed:=by kernel_rfl
  f41:=⟨"slices.Clone[[]peristyle/api.Cell,peristyle/api.Cell]",by decide,Tryz.func41.trans (congrArg some (by kernel_rfl))⟩
  t4:=Tryz.underlying4
  a4:=Tryz.isAgg4
  z4:=Tryz.sizeOf4
  v4:=Tryz.zeroValue4
  t22:=Tryz.underlying22
  a22:=Tryz.isAgg22
  z22:=Tryz.sizeOf22
  v22:=Tryz.zeroValue22
def Zxx:Go.Shelf.Ren:=⟨fun | 41=>114 | n=>n,fun | 22=>63 | 23=>9 | 4=>4 | n=>n,fun | n=>n⟩
theorem Zql3:Go.Proofs.SlLaysE0.n41 Tryz.prog Zxx where
  mixed:=by kernel_rfl
  f41:=⟨"slices.Clone[[]string,string]",by decide,Tryz.func114.trans (congrArg some (by kernel_rfl))⟩
  t4:=Tryz.underlying4
  a4:=Tryz.isAgg4
  z4:=Tryz.sizeOf4
  v4:=Tryz.zeroValue4
  t22:=Tryz.underlying63
  a22:=Tryz.isAgg63
  z22:=Tryz.sizeOf63
  v22:=Tryz.zeroValue63
def Zyx:Go.Shelf.Ren:=⟨fun | 41=>160 | n=>n,fun | 22=>32 | 23=>3 | 4=>4 | n=>n,fun | n=>n⟩
theorem Zrl3:Go.Proofs.SlLaysE0.n41 Tryz.prog Zyx where
  mixed:=by kernel_rfl
  f41:=⟨"slices.Clone[[]int,int]",by decide,Tryz.func160.trans (congrArg some (by kernel_rfl))⟩
  t4:=Tryz.underlying4
  a4:=Tryz.isAgg4
  z4:=Tryz.sizeOf4
  v4:=Tryz.zeroValue4
  t22:=Tryz.underlying32
  a22:=Tryz.isAgg32
  z22:=Tryz.sizeOf32
  v22:=Tryz.zeroValue32
end Go.Proofs.YtlamhllcnbcbbaaGreat.Am
