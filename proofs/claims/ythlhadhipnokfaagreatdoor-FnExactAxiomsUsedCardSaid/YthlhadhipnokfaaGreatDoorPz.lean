/- Pz -/
import Derived.Test.YthlhadhipnokfaaGreatDoorSn
import Derived.Shelf.Sort.Plain
import Derived.Shelf.Slices.In.SortNone
import Derived.Shelf.Strconv.Itoa3
import Derived.Shelf.SlSortCmp.NoneTotal
import Derived.Test.YthlhadhipnokfaaGreatDoorE23
import Derived.Lib.LaidTab
import Derived.Test.YthlhadhipnokfaaGreatDoorCards
import Derived.Test.YthlhadhipnokfaaGreatDoorTie
import Derived.ProofKit
import Derived.SizedLaws
import Derived.LaidLaws
import Derived.LaidHandle
import Derived.Stop.LaidErr
import Derived.SevenTiedAt
import Derived.JoinedOf
import Derived.Lib.RowBridge
import Derived.Test.YthlhadhipnokfaaGreatDoorPd
namespace Go.Proofs
open Go.Shelf
set_option linter.unusedSimpArgs false
set_option linter.unusedVariables false
def Tryz.lays190_ren:Go.Shelf.Ren:=⟨λ|190=>236|125=>53|258=>277|128=>81|129=>82|302=>303|303=>304|304=>305|305=>306|306=>307|307=>308|308=>309|309=>310|310=>311|333=>331|329=>98|330=>99|334=>332|335=>333|336=>265|344=>345|n=>n,λ|31=>138|9=>9|3=>3|46=>82|0=>0|51=>108|53=>110|4=>4|183=>100|182=>99|131=>105|5=>5|218=>125|222=>129|228=>147|229=>148|n=>n,λ|n=>n⟩
theorem Tryz.lays190:Go.Proofs.Lays.n190 Tryz.prog Tryz.lays190_ren:={
 mixed:=by kernel_rfl
 f125:=Tryz.func53.trans (congrArg some (by kernel_rfl))
 f128:=Tryz.func81.trans (congrArg some (by kernel_rfl))
 f129:=Tryz.func82.trans (congrArg some (by kernel_rfl))
 f190:=Tryz.func236.trans (congrArg some (by kernel_rfl))
 f258:=Tryz.func277.trans (congrArg some (by kernel_rfl))
 f302:=Tryz.func303.trans (congrArg some (by kernel_rfl))
 f303:=Tryz.func304.trans (congrArg some (by kernel_rfl))
 f304:=Tryz.func305.trans (congrArg some (by kernel_rfl))
 f305:=Tryz.func306.trans (congrArg some (by kernel_rfl))
 f306:=Tryz.func307.trans (congrArg some (by kernel_rfl))
 f307:=Tryz.func308.trans (congrArg some (by kernel_rfl))
 f308:=Tryz.func309.trans (congrArg some (by kernel_rfl))
 f309:=Tryz.func310.trans (congrArg some (by kernel_rfl))
 f310:=Tryz.func311.trans (congrArg some (by kernel_rfl))
 f329:=Tryz.func98.trans (congrArg some (by kernel_rfl))
 f330:=Tryz.func99.trans (congrArg some (by kernel_rfl))
 f333:=Tryz.func331.trans (congrArg some (by kernel_rfl))
 f334:=Tryz.func332.trans (congrArg some (by kernel_rfl))
 f335:=Tryz.func333.trans (congrArg some (by kernel_rfl))
 f336:=Tryz.func265.trans (congrArg some (by kernel_rfl))
 f344:=Tryz.func345.trans (congrArg some (by kernel_rfl))
 t0:=Tryz.underlying0
 a0:=Tryz.isAgg0
 z0:=Tryz.sizeOf0
 v0:=Tryz.zeroValue0
 t3:=Tryz.underlying3
 a3:=Tryz.isAgg3
 z3:=Tryz.sizeOf3
 v3:=Tryz.zeroValue3
 t4:=Tryz.underlying4
 a4:=Tryz.isAgg4
 z4:=Tryz.sizeOf4
 v4:=Tryz.zeroValue4
 t5:=Tryz.underlying5
 a5:=Tryz.isAgg5
 z5:=Tryz.sizeOf5
 v5:=Tryz.zeroValue5
 t9:=Tryz.underlying9
 a9:=Tryz.isAgg9
 z9:=Tryz.sizeOf9
 v9:=Tryz.zeroValue9
 t31:=Tryz.underlying138
 a31:=Tryz.isAgg138
 z31:=Tryz.sizeOf138
 v31:=Tryz.zeroValue138
 t46:=Tryz.underlying82
 a46:=Tryz.isAgg82
 z46:=Tryz.sizeOf82
 v46:=Tryz.zeroValue82
 t51:=Tryz.underlying108
 a51:=Tryz.isAgg108
 z51:=Tryz.sizeOf108
 v51:=Tryz.zeroValue108
 t53:=Tryz.underlying110
 a53:=Tryz.isAgg110
 z53:=Tryz.sizeOf110
 v53:=Tryz.zeroValue110
 t131:=Tryz.underlying105
 a131:=Tryz.isAgg105
 z131:=Tryz.sizeOf105
 v131:=Tryz.zeroValue105
 t182:=Tryz.underlying99
 a182:=Tryz.isAgg99
 z182:=Tryz.sizeOf99
 v182:=Tryz.zeroValue99
 t183:=Tryz.underlying100
 a183:=Tryz.isAgg100
 z183:=Tryz.sizeOf100
 v183:=Tryz.zeroValue100
 t218:=Tryz.underlying125
 a218:=Tryz.isAgg125
 z218:=Tryz.sizeOf125
 v218:=Tryz.zeroValue125
 t222:=Tryz.underlying129
 a222:=Tryz.isAgg129
 z222:=Tryz.sizeOf129
 v222:=Tryz.zeroValue129
 t228:=Tryz.underlying147
 a228:=Tryz.isAgg147
 z228:=Tryz.sizeOf147
 v228:=Tryz.zeroValue147
 t229:=Tryz.underlying148
 a229:=Tryz.isAgg148
 z229:=Tryz.sizeOf148
 v229:=Tryz.zeroValue148 }
def Tryz.lays189_ren:Go.Shelf.Ren:=⟨λ|189=>34|125=>53|257=>52|128=>81|129=>82|294=>72|295=>73|296=>74|297=>75|298=>76|299=>77|216=>78|300=>79|301=>80|328=>97|329=>98|330=>99|331=>100|332=>101|215=>102|343=>124|n=>n,λ|28=>27|3=>3|46=>82|0=>0|51=>108|53=>110|4=>4|183=>100|182=>99|131=>105|5=>5|9=>9|218=>125|222=>129|228=>147|229=>148|n=>n,λ|n=>n⟩
theorem Tryz.lays189:Go.Proofs.Lays.n189 Tryz.prog Tryz.lays189_ren:={
 mixed:=by kernel_rfl
 f125:=Tryz.func53.trans (congrArg some (by kernel_rfl))
 f128:=Tryz.func81.trans (congrArg some (by kernel_rfl))
 f129:=Tryz.func82.trans (congrArg some (by kernel_rfl))
 f189:=Tryz.func34.trans (congrArg some (by kernel_rfl))
 f215:=Tryz.func102.trans (congrArg some (by kernel_rfl))
 f216:=Tryz.func78.trans (congrArg some (by kernel_rfl))
 f257:=Tryz.func52.trans (congrArg some (by kernel_rfl))
 f294:=Tryz.func72.trans (congrArg some (by kernel_rfl))
 f295:=Tryz.func73.trans (congrArg some (by kernel_rfl))
 f296:=Tryz.func74.trans (congrArg some (by kernel_rfl))
 f297:=Tryz.func75.trans (congrArg some (by kernel_rfl))
 f298:=Tryz.func76.trans (congrArg some (by kernel_rfl))
 f299:=Tryz.func77.trans (congrArg some (by kernel_rfl))
 f300:=Tryz.func79.trans (congrArg some (by kernel_rfl))
 f301:=Tryz.func80.trans (congrArg some (by kernel_rfl))
 f328:=Tryz.func97.trans (congrArg some (by kernel_rfl))
 f329:=Tryz.func98.trans (congrArg some (by kernel_rfl))
 f330:=Tryz.func99.trans (congrArg some (by kernel_rfl))
 f331:=Tryz.func100.trans (congrArg some (by kernel_rfl))
 f332:=Tryz.func101.trans (congrArg some (by kernel_rfl))
 f343:=Tryz.func124.trans (congrArg some (by kernel_rfl))
 t0:=Tryz.underlying0
 a0:=Tryz.isAgg0
 z0:=Tryz.sizeOf0
 v0:=Tryz.zeroValue0
 t3:=Tryz.underlying3
 a3:=Tryz.isAgg3
 z3:=Tryz.sizeOf3
 v3:=Tryz.zeroValue3
 t4:=Tryz.underlying4
 a4:=Tryz.isAgg4
 z4:=Tryz.sizeOf4
 v4:=Tryz.zeroValue4
 t5:=Tryz.underlying5
 a5:=Tryz.isAgg5
 z5:=Tryz.sizeOf5
 v5:=Tryz.zeroValue5
 t9:=Tryz.underlying9
 a9:=Tryz.isAgg9
 z9:=Tryz.sizeOf9
 v9:=Tryz.zeroValue9
 t28:=Tryz.underlying27
 a28:=Tryz.isAgg27
 z28:=Tryz.sizeOf27
 v28:=Tryz.zeroValue27
 t46:=Tryz.underlying82
 a46:=Tryz.isAgg82
 z46:=Tryz.sizeOf82
 v46:=Tryz.zeroValue82
 t51:=Tryz.underlying108
 a51:=Tryz.isAgg108
 z51:=Tryz.sizeOf108
 v51:=Tryz.zeroValue108
 t53:=Tryz.underlying110
 a53:=Tryz.isAgg110
 z53:=Tryz.sizeOf110
 v53:=Tryz.zeroValue110
 t131:=Tryz.underlying105
 a131:=Tryz.isAgg105
 z131:=Tryz.sizeOf105
 v131:=Tryz.zeroValue105
 t182:=Tryz.underlying99
 a182:=Tryz.isAgg99
 z182:=Tryz.sizeOf99
 v182:=Tryz.zeroValue99
 t183:=Tryz.underlying100
 a183:=Tryz.isAgg100
 z183:=Tryz.sizeOf100
 v183:=Tryz.zeroValue100
 t218:=Tryz.underlying125
 a218:=Tryz.isAgg125
 z218:=Tryz.sizeOf125
 v218:=Tryz.zeroValue125
 t222:=Tryz.underlying129
 a222:=Tryz.isAgg129
 z222:=Tryz.sizeOf129
 v222:=Tryz.zeroValue129
 t228:=Tryz.underlying147
 a228:=Tryz.isAgg147
 z228:=Tryz.sizeOf147
 v228:=Tryz.zeroValue147
 t229:=Tryz.underlying148
 a229:=Tryz.isAgg148
 z229:=Tryz.sizeOf148
 v229:=Tryz.zeroValue148 }
def Tryz.laysIt_ren:Go.Shelf.Ren:=⟨λ|171=>156|243=>189|246=>226|283=>267|284=>268|285=>269|286=>270|129=>82|317=>295|318=>296|319=>297|320=>298|337=>321|338=>322|n=>n,λ|3=>3|9=>9|2=>2|4=>4|171=>240|0=>0|53=>110|37=>124|5=>5|173=>242|212=>266|51=>108|20=>20|213=>267|46=>82|232=>301|233=>302|n=>n,λ|17=>0|18=>1|19=>2|n=>n⟩
theorem Tryz.laysIt:Go.Proofs.LaysM.n171 Tryz.prog Tryz.laysIt_ren:={
 mixed:=by kernel_rfl
 f129:=Tryz.func82.trans (congrArg some (by kernel_rfl))
 f171:=Tryz.func156.trans (congrArg some (by kernel_rfl))
 f243:=Tryz.func189.trans (congrArg some (by kernel_rfl))
 f246:=Tryz.func226.trans (congrArg some (by kernel_rfl))
 f283:=Tryz.func267.trans (congrArg some (by kernel_rfl))
 f284:=Tryz.func268.trans (congrArg some (by kernel_rfl))
 f285:=Tryz.func269.trans (congrArg some (by kernel_rfl))
 f286:=Tryz.func270.trans (congrArg some (by kernel_rfl))
 f317:=Tryz.func295.trans (congrArg some (by kernel_rfl))
 f318:=Tryz.func296.trans (congrArg some (by kernel_rfl))
 f319:=Tryz.func297.trans (congrArg some (by kernel_rfl))
 f320:=Tryz.func298.trans (congrArg some (by kernel_rfl))
 f337:=Tryz.func321.trans (congrArg some (by kernel_rfl))
 f338:=Tryz.func322.trans (congrArg some (by kernel_rfl))
 t0:=Tryz.underlying0
 a0:=Tryz.isAgg0
 z0:=Tryz.sizeOf0
 v0:=Tryz.zeroValue0
 t2:=Tryz.underlying2
 a2:=Tryz.isAgg2
 z2:=Tryz.sizeOf2
 v2:=Tryz.zeroValue2
 t3:=Tryz.underlying3
 a3:=Tryz.isAgg3
 z3:=Tryz.sizeOf3
 v3:=Tryz.zeroValue3
 t4:=Tryz.underlying4
 a4:=Tryz.isAgg4
 z4:=Tryz.sizeOf4
 v4:=Tryz.zeroValue4
 t5:=Tryz.underlying5
 a5:=Tryz.isAgg5
 z5:=Tryz.sizeOf5
 v5:=Tryz.zeroValue5
 t9:=Tryz.underlying9
 a9:=Tryz.isAgg9
 z9:=Tryz.sizeOf9
 v9:=Tryz.zeroValue9
 t20:=Tryz.underlying20
 a20:=Tryz.isAgg20
 z20:=Tryz.sizeOf20
 v20:=Tryz.zeroValue20
 t37:=Tryz.underlying124
 a37:=Tryz.isAgg124
 z37:=Tryz.sizeOf124
 v37:=Tryz.zeroValue124
 t46:=Tryz.underlying82
 a46:=Tryz.isAgg82
 z46:=Tryz.sizeOf82
 v46:=Tryz.zeroValue82
 t51:=Tryz.underlying108
 a51:=Tryz.isAgg108
 z51:=Tryz.sizeOf108
 v51:=Tryz.zeroValue108
 t53:=Tryz.underlying110
 a53:=Tryz.isAgg110
 z53:=Tryz.sizeOf110
 v53:=Tryz.zeroValue110
 t171:=Tryz.underlying240
 a171:=Tryz.isAgg240
 z171:=Tryz.sizeOf240
 v171:=Tryz.zeroValue240
 t173:=Tryz.underlying242
 a173:=Tryz.isAgg242
 z173:=Tryz.sizeOf242
 v173:=Tryz.zeroValue242
 t212:=Tryz.underlying266
 a212:=Tryz.isAgg266
 z212:=Tryz.sizeOf266
 v212:=Tryz.zeroValue266
 t213:=Tryz.underlying267
 a213:=Tryz.isAgg267
 z213:=Tryz.sizeOf267
 t232:=Tryz.underlying301
 a232:=Tryz.isAgg301
 z232:=Tryz.sizeOf301
 v232:=Tryz.zeroValue301
 t233:=Tryz.underlying302
 a233:=Tryz.isAgg302
 z233:=Tryz.sizeOf302
 v233:=Tryz.zeroValue302
 g17:=by kernel_rfl
 g18:=by kernel_rfl
 g19:=by kernel_rfl
 i0:=by kernel_rfl
 i2:=by kernel_rfl
 i3:=by kernel_rfl
 i4:=by kernel_rfl
 i5:=by kernel_rfl
 i9:=by kernel_rfl
 i20:=by kernel_rfl
 i37:=by kernel_rfl
 i46:=by kernel_rfl
 i51:=by kernel_rfl
 i53:=by kernel_rfl
 i171:=by kernel_rfl
 i173:=by kernel_rfl
 i212:=by kernel_rfl
 i232:=by kernel_rfl
 i233:=by kernel_rfl
 m17:=by kernel_rfl
 m18:=by kernel_rfl
 m19:=by kernel_rfl }
def Tryz.laysSL_ren:Go.Shelf.Ren:=⟨λ|6=>283|15=>53|14=>318|28=>81|29=>82|20=>334|21=>335|22=>336|23=>337|24=>338|25=>339|26=>340|27=>341|46=>346|47=>98|48=>99|49=>347|50=>348|57=>350|n=>n,λ|22=>56|24=>95|25=>137|3=>3|39=>82|0=>0|53=>108|55=>110|4=>4|46=>100|45=>99|50=>105|5=>5|9=>9|66=>125|70=>129|76=>147|77=>148|n=>n,λ|n=>n⟩
theorem Tryz.laysSL:Go.Proofs.SlLaysF0.n6 Tryz.prog Tryz.laysSL_ren:={
 mixed:=by kernel_rfl
 f6:=⟨"slices.SortFunc[[]loop.example/g00892/impl.Literal,loop.example/g00892/impl.Literal]",by decide,Tryz.func283.trans (congrArg some (by kernel_rfl))⟩
 f14:=⟨"slices.pdqsortCmpFunc[loop.example/g00892/impl.Literal]",by decide,Tryz.func318.trans (congrArg some (by kernel_rfl))⟩
 f15:=Tryz.func53.trans (congrArg some (by kernel_rfl))
 f20:=⟨"slices.insertionSortCmpFunc[loop.example/g00892/impl.Literal]",by decide,Tryz.func334.trans (congrArg some (by kernel_rfl))⟩
 f21:=⟨"slices.heapSortCmpFunc[loop.example/g00892/impl.Literal]",by decide,Tryz.func335.trans (congrArg some (by kernel_rfl))⟩
 f22:=⟨"slices.breakPatternsCmpFunc[loop.example/g00892/impl.Literal]",by decide,Tryz.func336.trans (congrArg some (by kernel_rfl))⟩
 f23:=⟨"slices.choosePivotCmpFunc[loop.example/g00892/impl.Literal]",by decide,Tryz.func337.trans (congrArg some (by kernel_rfl))⟩
 f24:=⟨"slices.reverseRangeCmpFunc[loop.example/g00892/impl.Literal]",by decide,Tryz.func338.trans (congrArg some (by kernel_rfl))⟩
 f25:=⟨"slices.partialInsertionSortCmpFunc[loop.example/g00892/impl.Literal]",by decide,Tryz.func339.trans (congrArg some (by kernel_rfl))⟩
 f26:=⟨"slices.partitionEqualCmpFunc[loop.example/g00892/impl.Literal]",by decide,Tryz.func340.trans (congrArg some (by kernel_rfl))⟩
 f27:=⟨"slices.partitionCmpFunc[loop.example/g00892/impl.Literal]",by decide,Tryz.func341.trans (congrArg some (by kernel_rfl))⟩
 f28:=Tryz.func81.trans (congrArg some (by kernel_rfl))
 f29:=Tryz.func82.trans (congrArg some (by kernel_rfl))
 f46:=⟨"slices.siftDownCmpFunc[loop.example/g00892/impl.Literal]",by decide,Tryz.func346.trans (congrArg some (by kernel_rfl))⟩
 f47:=Tryz.func98.trans (congrArg some (by kernel_rfl))
 f48:=Tryz.func99.trans (congrArg some (by kernel_rfl))
 f49:=⟨"slices.medianAdjacentCmpFunc[loop.example/g00892/impl.Literal]",by decide,Tryz.func347.trans (congrArg some (by kernel_rfl))⟩
 f50:=⟨"slices.medianCmpFunc[loop.example/g00892/impl.Literal]",by decide,Tryz.func348.trans (congrArg some (by kernel_rfl))⟩
 f57:=⟨"slices.order2CmpFunc[loop.example/g00892/impl.Literal]",by decide,Tryz.func350.trans (congrArg some (by kernel_rfl))⟩
 t0:=Tryz.underlying0
 a0:=Tryz.isAgg0
 z0:=Tryz.sizeOf0
 v0:=Tryz.zeroValue0
 t3:=Tryz.underlying3
 a3:=Tryz.isAgg3
 z3:=Tryz.sizeOf3
 v3:=Tryz.zeroValue3
 t4:=Tryz.underlying4
 a4:=Tryz.isAgg4
 z4:=Tryz.sizeOf4
 v4:=Tryz.zeroValue4
 t5:=Tryz.underlying5
 a5:=Tryz.isAgg5
 z5:=Tryz.sizeOf5
 v5:=Tryz.zeroValue5
 t9:=Tryz.underlying9
 a9:=Tryz.isAgg9
 z9:=Tryz.sizeOf9
 v9:=Tryz.zeroValue9
 t22:=Tryz.underlying56
 a22:=Tryz.isAgg56
 z22:=Tryz.sizeOf56
 v22:=Tryz.zeroValue56
 t25:=Tryz.underlying137
 a25:=Tryz.isAgg137
 z25:=Tryz.sizeOf137
 v25:=Tryz.zeroValue137
 t39:=Tryz.underlying82
 a39:=Tryz.isAgg82
 z39:=Tryz.sizeOf82
 v39:=Tryz.zeroValue82
 t45:=Tryz.underlying99
 a45:=Tryz.isAgg99
 z45:=Tryz.sizeOf99
 v45:=Tryz.zeroValue99
 t46:=Tryz.underlying100
 a46:=Tryz.isAgg100
 z46:=Tryz.sizeOf100
 v46:=Tryz.zeroValue100
 t50:=Tryz.underlying105
 a50:=Tryz.isAgg105
 z50:=Tryz.sizeOf105
 v50:=Tryz.zeroValue105
 t53:=Tryz.underlying108
 a53:=Tryz.isAgg108
 z53:=Tryz.sizeOf108
 v53:=Tryz.zeroValue108
 t55:=Tryz.underlying110
 a55:=Tryz.isAgg110
 z55:=Tryz.sizeOf110
 v55:=Tryz.zeroValue110
 t66:=Tryz.underlying125
 a66:=Tryz.isAgg125
 z66:=Tryz.sizeOf125
 v66:=Tryz.zeroValue125
 t70:=Tryz.underlying129
 a70:=Tryz.isAgg129
 z70:=Tryz.sizeOf129
 v70:=Tryz.zeroValue129
 t76:=Tryz.underlying147
 a76:=Tryz.isAgg147
 z76:=Tryz.sizeOf147
 v76:=Tryz.zeroValue147
 t77:=Tryz.underlying148
 a77:=Tryz.isAgg148
 z77:=Tryz.sizeOf148
 v77:=Tryz.zeroValue148 }
def Tryz.laysSB_ren:Go.Shelf.Ren:=⟨λ|6=>275|15=>53|14=>302|28=>81|29=>82|20=>323|21=>324|22=>325|23=>326|24=>327|25=>328|26=>329|27=>330|46=>342|47=>98|48=>99|49=>343|50=>344|57=>349|n=>n,λ|22=>168|24=>206|25=>248|3=>3|39=>82|0=>0|53=>108|55=>110|4=>4|46=>100|45=>99|50=>105|5=>5|9=>9|66=>125|70=>129|76=>147|77=>148|n=>n,λ|n=>n⟩
theorem Tryz.laysSB:Go.Proofs.SlLaysF0.n6 Tryz.prog Tryz.laysSB_ren:={
 mixed:=by kernel_rfl
 f6:=⟨"slices.SortFunc[[]loop.example/g00892/impl.Binding,loop.example/g00892/impl.Binding]",by decide,Tryz.func275.trans (congrArg some (by kernel_rfl))⟩
 f14:=⟨"slices.pdqsortCmpFunc[loop.example/g00892/impl.Binding]",by decide,Tryz.func302.trans (congrArg some (by kernel_rfl))⟩
 f15:=Tryz.func53.trans (congrArg some (by kernel_rfl))
 f20:=⟨"slices.insertionSortCmpFunc[loop.example/g00892/impl.Binding]",by decide,Tryz.func323.trans (congrArg some (by kernel_rfl))⟩
 f21:=⟨"slices.heapSortCmpFunc[loop.example/g00892/impl.Binding]",by decide,Tryz.func324.trans (congrArg some (by kernel_rfl))⟩
 f22:=⟨"slices.breakPatternsCmpFunc[loop.example/g00892/impl.Binding]",by decide,Tryz.func325.trans (congrArg some (by kernel_rfl))⟩
 f23:=⟨"slices.choosePivotCmpFunc[loop.example/g00892/impl.Binding]",by decide,Tryz.func326.trans (congrArg some (by kernel_rfl))⟩
 f24:=⟨"slices.reverseRangeCmpFunc[loop.example/g00892/impl.Binding]",by decide,Tryz.func327.trans (congrArg some (by kernel_rfl))⟩
 f25:=⟨"slices.partialInsertionSortCmpFunc[loop.example/g00892/impl.Binding]",by decide,Tryz.func328.trans (congrArg some (by kernel_rfl))⟩
 f26:=⟨"slices.partitionEqualCmpFunc[loop.example/g00892/impl.Binding]",by decide,Tryz.func329.trans (congrArg some (by kernel_rfl))⟩
 f27:=⟨"slices.partitionCmpFunc[loop.example/g00892/impl.Binding]",by decide,Tryz.func330.trans (congrArg some (by kernel_rfl))⟩
 f28:=Tryz.func81.trans (congrArg some (by kernel_rfl))
 f29:=Tryz.func82.trans (congrArg some (by kernel_rfl))
 f46:=⟨"slices.siftDownCmpFunc[loop.example/g00892/impl.Binding]",by decide,Tryz.func342.trans (congrArg some (by kernel_rfl))⟩
 f47:=Tryz.func98.trans (congrArg some (by kernel_rfl))
 f48:=Tryz.func99.trans (congrArg some (by kernel_rfl))
 f49:=⟨"slices.medianAdjacentCmpFunc[loop.example/g00892/impl.Binding]",by decide,Tryz.func343.trans (congrArg some (by kernel_rfl))⟩
 f50:=⟨"slices.medianCmpFunc[loop.example/g00892/impl.Binding]",by decide,Tryz.func344.trans (congrArg some (by kernel_rfl))⟩
 f57:=⟨"slices.order2CmpFunc[loop.example/g00892/impl.Binding]",by decide,Tryz.func349.trans (congrArg some (by kernel_rfl))⟩
 t0:=Tryz.underlying0
 a0:=Tryz.isAgg0
 z0:=Tryz.sizeOf0
 v0:=Tryz.zeroValue0
 t3:=Tryz.underlying3
 a3:=Tryz.isAgg3
 z3:=Tryz.sizeOf3
 v3:=Tryz.zeroValue3
 t4:=Tryz.underlying4
 a4:=Tryz.isAgg4
 z4:=Tryz.sizeOf4
 v4:=Tryz.zeroValue4
 t5:=Tryz.underlying5
 a5:=Tryz.isAgg5
 z5:=Tryz.sizeOf5
 v5:=Tryz.zeroValue5
 t9:=Tryz.underlying9
 a9:=Tryz.isAgg9
 z9:=Tryz.sizeOf9
 v9:=Tryz.zeroValue9
 t22:=Tryz.underlying168
 a22:=Tryz.isAgg168
 z22:=Tryz.sizeOf168
 v22:=Tryz.zeroValue168
 t25:=Tryz.underlying248
 a25:=Tryz.isAgg248
 z25:=Tryz.sizeOf248
 v25:=Tryz.zeroValue248
 t39:=Tryz.underlying82
 a39:=Tryz.isAgg82
 z39:=Tryz.sizeOf82
 v39:=Tryz.zeroValue82
 t45:=Tryz.underlying99
 a45:=Tryz.isAgg99
 z45:=Tryz.sizeOf99
 v45:=Tryz.zeroValue99
 t46:=Tryz.underlying100
 a46:=Tryz.isAgg100
 z46:=Tryz.sizeOf100
 v46:=Tryz.zeroValue100
 t50:=Tryz.underlying105
 a50:=Tryz.isAgg105
 z50:=Tryz.sizeOf105
 v50:=Tryz.zeroValue105
 t53:=Tryz.underlying108
 a53:=Tryz.isAgg108
 z53:=Tryz.sizeOf108
 v53:=Tryz.zeroValue108
 t55:=Tryz.underlying110
 a55:=Tryz.isAgg110
 z55:=Tryz.sizeOf110
 v55:=Tryz.zeroValue110
 t66:=Tryz.underlying125
 a66:=Tryz.isAgg125
 z66:=Tryz.sizeOf125
 v66:=Tryz.zeroValue125
 t70:=Tryz.underlying129
 a70:=Tryz.isAgg129
 z70:=Tryz.sizeOf129
 v70:=Tryz.zeroValue129
 t76:=Tryz.underlying147
 a76:=Tryz.isAgg147
 z76:=Tryz.sizeOf147
 v76:=Tryz.zeroValue147
 t77:=Tryz.underlying148
 a77:=Tryz.isAgg148
 z77:=Tryz.sizeOf148
 v77:=Tryz.zeroValue148 }
end Go.Proofs
namespace Go.Proofs.YthlhadhipnokfaaGreatDoor
open Go Go.RowKit Go.Sort Go.Proofs.YthlhadhipnokfaaGreatDoor.Abs
set_option linter.unusedSimpArgs false
set_option linter.unusedVariables false
theorem jrL:Tryz.lays190_ren.f 190=236:=by kernel_rfl
theorem jtU(blk off cap:Nat)(ss:Xa)(w:World)(hH:Holds encStr w blk off ss.toArray)(hblk:blk<w.heap.size)(hsz:ss.length<4611686018427387904) :
  Calls Tryz.prog 236 #[.slice (some ⟨blk,off,none⟩) ss.length cap] w λe w'=>e = .returned (.tuple #[])/\ ∃n os,w'=Sort.grow (putRow encStr (Sort.ahead w n) blk off (ss.mergeSort λx y=>decide (x<=y)).toArray) os:=by
 have:=Any.slices_Sort_string Tryz.lays190 blk off cap ss w hH hblk hsz;rw[jrL]at this;exact this
theorem jrJ(p:Option Addr)(cap:Nat)(w:World):Calls Tryz.prog 236 #[.slice p 0 cap] w λe w'=>e = .returned (.tuple #[])/\w'=w:=by
 have:=Any.slices_Sort_string_none Tryz.lays190 p cap w;rw[jrL]at this;exact this
theorem jrK:Enters Tryz.prog 236:=
 KO Tryz.func236 (jfD.names _ _ Tryz.func236) (Ka rfl)
theorem jBr:Tryz.laysSL_ren.f 6=283:=by kernel_rfl
theorem jEY:Tryz.laysSL_ren.t 24=95:=by kernel_rfl
theorem jIB:jFe Tryz.prog 283 3:=by
 intro m enc hk h1 cf hO g cb blk off cap d w eg hcmp hH hblk hsz;have:=AnyQ.slices_SortFunc_eq Tryz.laysSL 3 (by rw[jEY];exact Tryz.isAgg95) (by rw[jEY];exact Tryz.sizeOf95) enc hk h1 cf hO g cb blk off cap d w eg hcmp hH hblk hsz;rw[jBr]at this;exact this
theorem jDV(p:Option Addr)(cap:Nat)(fv:Value)(w:World):Calls Tryz.prog 283 #[.slice p 0 cap,fv] w λe w'=>e = .returned (.tuple #[])/\w'=w:=by
 have:=AnyF.slices_SortFunc_none Tryz.laysSL p cap fv w;rw[jBr]at this;exact this
theorem jw4:Enters Tryz.prog 283:=
 KO Tryz.func283 (jfD.names _ _ Tryz.func283) (Ka rfl)
theorem jBm:Tryz.laysSB_ren.f 6=275:=by kernel_rfl
theorem jEV:Tryz.laysSB_ren.t 24=206:=by kernel_rfl
theorem jIz:jFe Tryz.prog 275 3:=by
 intro m enc hk h1 cf hO g cb blk off cap d w eg hcmp hH hblk hsz;have:=AnyQ.slices_SortFunc_eq Tryz.laysSB 3 (by rw[jEV];exact Tryz.isAgg206) (by rw[jEV];exact Tryz.sizeOf206) enc hk h1 cf hO g cb blk off cap d w eg hcmp hH hblk hsz;rw[jBm]at this;exact this
theorem jDT(p:Option Addr)(cap:Nat)(fv:Value)(w:World):Calls Tryz.prog 275 #[.slice p 0 cap,fv] w λe w'=>e = .returned (.tuple #[])/\w'=w:=by
 have:=AnyF.slices_SortFunc_none Tryz.laysSB p cap fv w;rw[jBm]at this;exact this
theorem jwZ:Enters Tryz.prog 275:=
 KO Tryz.func275 (jfD.names _ _ Tryz.func275) (Ka rfl)
theorem jme:Tryz.lays189_ren.f 189=34:=by kernel_rfl
theorem jrI(blk off cap:Nat)(ss:Xi)(w:World)(hH:Holds (Value.int .i64) w blk off ss.toArray)(hblk:blk<w.heap.size)(hsz:ss.length<4611686018427387904) :
  Calls Tryz.prog 34 #[.slice (some ⟨blk,off,none⟩) ss.length cap] w λe w'=>e = .returned (.tuple #[])/\ ∃n os,w'=Sort.grow (putRow (Value.int .i64) (Sort.ahead w n) blk off (ss.mergeSort λx y=>decide (x<=y)).toArray) os:=by
 have:=Any.slices_Sort_int Tryz.lays189 blk off cap ss w hH hblk hsz;rw[jme]at this;exact this
theorem joQ(p:Option Addr)(cap:Nat)(w:World):Calls Tryz.prog 34 #[.slice p 0 cap] w λe w'=>e = .returned (.tuple #[])/\w'=w:=by
 have:=Any.slices_Sort_int_none Tryz.lays189 p cap w;rw[jme]at this;exact this
theorem joR:Enters Tryz.prog 34:=
 KO Tryz.func34 (jfD.names _ _ Tryz.func34) (Ka rfl)
theorem jE8{X:Ctx}(f:FuncId)(x:ExtV)(args:Xj)(objs:List Abs.Obj)(sgs:Sig)(sg:SigA)(qs:List (FuncId×Xd))(outs:List Out)(out:Out)(h1:K.extv f=some x)(h2:K.sig f=some sgs)(h3:ZH objs.length sgs=some sg)(hq:x.ask args objs=some qs)(hok:jo9 X K.P qs outs)(h4:x.ans args objs outs=some out):SOk X K.P f args objs sg out:=by
 have one:∀{s s':SigA}{n:Nat},ZH n [s]=some s'->s'=s:=by
  intro s s' n h;simp only[ZH]at h;split at h
  .exact (jaZ h).symm
  .cases h
 have h1:Yi none f jsU=some x:=h1;unfold jsU at h1;simp only[Yi]at h1;cases hb:Nat.beq f 236 with
 |true=>
  rw[hb]at h1;have hf:=kh hb;subst hf;cases h1;have h2:some [qX]=some sgs:=h2;cases h2;rw[one h3];exact jBt jrK jtU jrJ h4
 |false=>
  rw[hb]at h1;cases hb:Nat.beq f 283 with
  |true=>
   rw[hb]at h1;have hf:=kh hb;subst hf;cases h1;have h2:some [jb9 3]=some sgs:=h2;cases h2;rw[one h3];exact jBp jw4 jIB (by decide) rfl jDV hq hok h4
  |false=>
   rw[hb]at h1;cases hb:Nat.beq f 275 with
   |true=>
    rw[hb]at h1;have hf:=kh hb;subst hf;cases h1;have h2:some [jb9 3]=some sgs:=h2;cases h2;rw[one h3];exact jBp jwZ jIz (by decide) rfl jDT hq hok h4
   |false=>
    rw[hb]at h1;cases hb:Nat.beq f 34 with
    |true=>
     rw[hb]at h1;have hf:=kh hb;subst hf;cases h1;have h2:some [qX]=some sgs:=h2;cases h2;rw[one h3];exact jw6 joR jrI joQ h4
    |false=>rw[hb]at h1;cases h1
def jfl:Nat:=0
theorem jfm:Tryz.prog.globalNamed "internal/strconv.uint64pow10" = some jfl:=by kernel_rfl
def jkD(w:World):Prop:=Lib.TabIs Tryz.prog w "internal/strconv.uint64pow10" .u64 Lib.pow10Tab
theorem jrS{w w':World}(h:w'.heap[jfl]? = w.heap[jfl]?)(hw:jkD w):jkD w':=by
 unfold jkD Lib.TabIs World.var? at *;rw[jfm]at *;simp only[Option.bind_some]at *;rw[h];exact hw
theorem jD4{w:World}(hw:jkD w):jfl<w.heap.size:=by
 unfold jkD Lib.TabIs World.var? at hw;rw[jfm]at hw;simp only[Option.bind_some]at hw;rcases Nat.lt_or_ge jfl w.heap.size with h|h
 .exact h
 .rw [Array.getElem?_eq_none h]at hw;simp at hw
theorem jxg{w:World}(hw:jkD w){off:Nat}{v:Value}(h:w.cell? ⟨jfl,off,none⟩=some v):∃z,v = .int .u64 z:=by
 by_cases hi:off<Lib.pow10Tab.length
 .have:=Lib.TabIs.cell hw jfm off hi;rw[h]at this;exact⟨_,jaZ this⟩
 .have:=World.var?_cell jfm hw off;rw[h]at this;have h2:(Lib.pow10Tab.map λz=>Value.int IntKind.u64 z).toArray[off]? = none:=Array.getElem?_eq_none (by simp;omega);simp[h2]at this
def Xt:Ctx:=⟨jkD,λb=>b=jfl,λ_ _ h hw=>jrS (h jfl rfl) hw⟩
theorem jy2:Tryz.laysIt_ren.f 171=156:=by kernel_rfl
theorem jqb:Enters Tryz.prog 156:=
 KO Tryz.func156 (jfD.names _ _ Tryz.func156) (Ka rfl)
theorem jDa(args:Xd)(out:Out)(h:juV args=some out):Q8 Xt Tryz.prog 156 args out:=by
 unfold juV at h;split at h;rotate_left
 .cases h
 rename_i n;split at h;rotate_left
 .cases h
 rename_i hn;cases h;refine⟨jqb,λw O vs hj _ _ hrel=>?_⟩;simp only[jz,rel]at hrel;obtain⟨v,r,rfl,rfl,rfl⟩:=hrel;have:=Any.strconv_Itoa Tryz.laysIt n hn.1 hn.2 w hj;rw[jy2]at this;refine this.mono ?_;rintro e w' ⟨rfl,k,os,rfl⟩;refine⟨_,rfl,?_,?_⟩
 .refine ⟨rfl,rfl,⟨rfl,?_⟩,?_,λb hb=>?_⟩
  .simp [grow,World.drewN]
  .simp [grow,World.drewN]
  .simp only[grow,World.drewN];rw[jg5 hb]
 .simp only[rel]
theorem jI8{f:FuncId}{args:Xd}{out:Out}(hs:K.pureF f=true)(h:G f args=some out):Q8 Xt Tryz.prog f args out:=by
 refine jG2 jfD (λf x args out h h2=>?_) jE8 f args out hs h;have h:Yi none f jnZ=some x:=h;unfold jnZ at h;simp only[Yi]at h;cases hb:Nat.beq f 156 with
 |true=>
  rw[hb]at h;have hf:=kh hb;subst hf;cases h;exact jDa args out h2
 |false=>rw[hb]at h;cases h
open Go Go.ChangeShapes Go.WideShapes Go.ChangeAt Go.RowKit Go.Proofs.YthlhadhipnokfaaGreatDoor.Abs
theorem Tryz.ownK:ownKnob Tryz.prog.godebug=none:=by kernel_rfl
theorem Tryz.laidO:laidOutB Tryz.prog=true:=by kernel_rfl
set_option linter.unusedSectionVars false
theorem jBn:laidOutB Tryz.pinned.checked.prog=true:=by kernel_rfl
theorem jw2:mapsRowed Tryz.pinned.checked.prog=true:=by kernel_rfl
theorem jDU:false=Tryz.pinned.checked.prog.looks []:=by kernel_rfl
mutual
def nu:A->Bool
 |.val (.int .u64 _)=>false
 |.val _=>true
 |.sl _ xs=>nuR xs
 |.agg cs=>nuL cs
 |_=>false
def nuR:Xc->Bool
 | []=>true
 |x::xs=>(!x.isEmpty && nuL x) && nuR xs
def nuL:Xd->Bool
 | []=>true
 |c::cs=>nu c && nuL cs
end
theorem jGk{w:World}{O:Nat->Prop}{c:A}{z:Int}(h:nu c=true)(hr:rel w O c (.int .u64 z)):False:=by
 cases c with
 |top=>simp[nu]at h
 |val v=>simp only[rel]at hr;rw[<-hr]at h;simp[nu]at h
 |sl k xs=>simp only[rel]at hr;obtain⟨a,cap,h1,_⟩:=hr;cases h1
 |agg cs=>simp only[rel]at hr;obtain⟨vs,h1,_⟩:=hr;cases h1
 |elt cs off=>simp[nu]at h
 |fn f cs=>simp[nu]at h
 |tup cs=>simp[nu]at h
 |mp xs=>simp[nu]at h
section
variable{w:World}(hJ:jkD w)
include hJ
mutual
theorem joF:∀(a:A)(v:Value),nu a=true->rel w (λ_=>False) a v->rel w (λb=>b=jfl) a v
 |.top,_,h,_=>by simp[nu]at h
 |.val x,v,_,hr=>by simpa[rel]using hr
 |.sl k xs,v,h,hr=>by
  simp only[rel]at hr⊢;obtain⟨a,cap,h1,h2,h3,h4⟩:=hr;refine⟨a,cap,h1,h2,h3,?_⟩;rcases h4 with h4|⟨b,off,h5,h6,h7,h8⟩
  .exact Or.inl h4
  .have hn:nuR xs=true:=by simpa only[nu]using h
   match xs,hn,h8 with
   | [],_,_=>exact Or.inl rfl
   |x::xs,hn,h8=>
    refine Or.inr ⟨b,off,h5,h6,λhb=>?_,jjX k b off (x::xs) hn h8⟩;subst hb;simp only[nuR,jI]at hn;simp only[zi]at h8
    match x,hn.1,h8.2.1 with
    | [],hx,_=>simp at hx
    |c::cs,hx,h9=>
     simp only[nuL,jI]at hx;simp only[zY]at h9;obtain⟨⟨v',e1,_,e2⟩,_⟩:=h9;obtain⟨z,rfl⟩:=jxg hJ e1;exact jGk hx.2.1 e2
 |.agg cs,v,h,hr=>by
  simp only[rel]at hr⊢;obtain⟨vs,h1,h2⟩:=hr;exact⟨vs,h1,jvx cs vs (by simpa only[nu]using h) h2⟩
 |.elt cs off,_,h,_=>by simp[nu]at h
 |.fn f caps,_,h,_=>by simp[nu]at h
 |.tup cs,_,h,_=>by simp[nu]at h
 |.mp xs,_,h,_=>by simp[nu]at h
theorem jvx:∀(cs:Xd)(vs:Xh),nuL cs=true->jz w (λ_=>False) cs vs->jz w (λb=>b=jfl) cs vs
 | [],vs,_,hr=>by simpa[jz]using hr
 |c::cs,vs,h,hr=>by
  simp only[nuL,jI]at h;simp only[jz]at hr⊢;obtain⟨v,r,h1,h2,h3⟩:=hr;exact⟨v,r,h1,joF c v h.1 h2,jvx cs r h.2 h3⟩
theorem jgZ(b off:Nat):∀(cs:Xd),nuL cs=true->zY w (λ_=>False) b off cs->zY w (λb=>b=jfl) b off cs
 | [],_,_=>by simp[zY]
 |c::cs,h,hr=>by
  simp only[nuL,jI]at h;simp only[zY]at hr⊢;obtain⟨⟨v,h1,h0,h2⟩,h3⟩:=hr;exact⟨⟨v,h1,h0,joF c v h.1 h2⟩,jgZ b (off+1) cs h.2 h3⟩
theorem jjX(k b off:Nat):∀(xs:Xc),nuR xs=true->zi w (λ_=>False) k b off xs->zi w (λb=>b=jfl) k b off xs
 | [],_,_=>by simp[zi]
 |x::xs,h,hr=>by
  simp only[nuR,jI]at h;simp only[zi]at hr⊢;obtain⟨h1,h2,h3⟩:=hr;exact⟨h1,jgZ b off x h.1.2 h2,jjX k b (off+k) xs h.2 h3⟩
end
end
theorem jeX{α:Type}{f:α->Xd}(hf:∀x,(f x).isEmpty=false/\nuL (f x)=true):∀l:List α,nuR (l.map f)=true
 | []=>rfl
 |x::l=>by simp only[kK,nuR,(hf x).1,(hf x).2,jeX hf l];rfl
mutual
theorem jER:∀t:T,(jm t).isEmpty=false/\nuL (jm t)=true
 |.mk n us=>by
  rw[kU];refine⟨rfl,?_⟩;have:=jtr us;simp only[nuL,nu,T.args,this];rfl
theorem jtr:∀us:Xg,nuR (us.map jm)=true
 | []=>rfl
 |u::us=>by simp only[kK,nuR,(jER u).1,(jER u).2,jtr us];rfl
end
theorem jvl(l:Xi):nu (ints l)=true:=by
 simp only[nu];exact jeX (λx=>⟨rfl,rfl⟩) l
theorem jvm(c:kj):nuR (c.map jN)=true:=jeX (λl=>⟨rfl,by
 have:=jtr l.2.args;simp only[nuL,nu,this];rfl⟩) c
theorem jGj(l:List kj):nu (cls l)=true:=by
 simp only[nu];exact jeX (λc=>⟨rfl,by simp only[nuL,nu,jvm c];rfl⟩) l
theorem jDp(l:List Stp):nu (yj l)=true:=by
 simp only[nu];refine jeX (λs=>⟨rfl,?_⟩) l;have h1:=jvl s.par;have h2:=jvl s.whr;simp only[nu]at h1 h2;simp only[nuL,nu,jvm s.cls,h1,h2];rfl
theorem jGl(p:Prf):nu (Qu p)=true:=by
 have h1:=jGj p.ax;have h2:=jDp p.st;simp only[nu]at h1 h2;simp only[nu,nuL,h1,h2];rfl
theorem jdU{w:World}{O:Nat->Prop}{l:Xd}{cs:Array Value}(h:jz w O l (Value.agg cs).cells.toList):rel w O (.agg l) (.agg cs):=by
 simp only[rel];exact⟨cs.toList,by simp,by simpa[Value.cells]using h⟩
abbrev lst:List (String×DataW Unit):=Rows.fnExactAncestorsRow.laid
theorem jLZ:(Tryz.prog.globals[jfl]?).map (·.type)=some 266:=by kernel_rfl
theorem jL0:Tryz.prog.underlying 266=some (.array 20 110):=by kernel_rfl
theorem jLY:Tryz.prog.underlying 110=some (.int .u64):=by kernel_rfl
theorem jGH{w:World}(h:laidMet Tryz.prog lst w):jkD w:=by
 have h3:laidMet Tryz.prog [("internal/strconv.uint64pow10",Lib.tabData .u64 Lib.pow10Tab)] w:=by
  have e:(Rows.laid_internal_strconv_uint64pow10:DataW Unit)=Lib.tabData .u64 Lib.pow10Tab:=by kernel_rfl
  have:=h.tail.tail;rw[<-e];exact this
 exact Lib.tabIs_of_head jfm jLZ jL0 jLY (by kernel_rfl) (by kernel_rfl) h3
def intsIn(d:DataW Unit):Array Value:=match d with
 |.agg l=>(l.map λx=>match x with|.lit (.int k z)=>Value.int k z|_=>.int .i64 0).toArray
 |_=>#[]
def jGf(g:Nat)(d:DataW Unit)(h:Array Obj):Array Obj:=h.modify g λ
 |.cells _ t frozen=>.cells (intsIn d) t frozen
 |o=>o
noncomputable def jEO(os:Os):World:=
 { World.holding Tryz.prog os ⟨#[],#[],[]⟩with heap:=jGf 2 Rows.laid_math_bits_deBruijn64tab (jGf 1 Rows.laid_math_bits_deBruijn32tab (jGf 0 Rows.laid_internal_strconv_uint64pow10 (World.holding Tryz.prog os ⟨#[],#[],[]⟩).heap)) }
set_option maxRecDepth 100000 in
theorem jwm(os:Os)(args:Array Value):laidMetH Tryz.prog lst ((jEO os).forCall (λ_ _=>0) ⟨#[],args,[]⟩).memory:=
 laidMetH_of_parts (laidMet_of_run' 8 (by kernel_rfl) (by kernel_rfl)) (by kernel_rfl)
end Go.Proofs.YthlhadhipnokfaaGreatDoor
