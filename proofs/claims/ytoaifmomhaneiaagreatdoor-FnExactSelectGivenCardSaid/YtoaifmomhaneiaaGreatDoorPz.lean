/- Pz -/
import Derived.Test.YtoaifmomhaneiaaGreatDoorSn
import Derived.Shelf.Sort.Plain
import Derived.Shelf.Slices.In.SortNone
import Derived.Shelf.Strconv.Itoa3
import Derived.Shelf.SlSortCmp.NoneTotal
import Derived.Test.YtoaifmomhaneiaaGreatDoorE23
import Derived.Lib.LaidTab
import Derived.Test.YtoaifmomhaneiaaGreatDoorCards
import Derived.Test.YtoaifmomhaneiaaGreatDoorTie
import Derived.ProofKit
import Derived.SizedLaws
import Derived.LaidLaws
import Derived.LaidHandle
import Derived.Stop.LaidErr
import Derived.SevenTiedAt
import Derived.JoinedOf
import Derived.Lib.RowBridge
import Derived.Test.YtoaifmomhaneiaaGreatDoorPe
namespace Go.Proofs
open Go.Shelf
set_option linter.unusedSimpArgs false
set_option linter.unusedVariables false
def Tryz.lays190_ren:Go.Shelf.Ren:=⟨λ| 190=>244|125=>96|258=>283|128=>134|129=>135|302=>317|303=>318|304=>319|305=>320|306=>321|307=>322|308=>323|309=>324|310=>325|333=>348|329=>160|330=>161|334=>349|335=>350|336=>307|344=>364|n=>n,λ| 31=>157|9=>9|3=>3|46=>114|0=>0|51=>146|53=>148|4=>4|183=>141|182=>140|131=>38|5=>5|218=>169|222=>173|228=>199|229=>200|n=>n,λ| n=>n⟩
theorem Tryz.lays190:Go.Proofs.Lays.n190 Tryz.prog Tryz.lays190_ren:={
 mixed:=by kernel_rfl
 f125:=Tryz.func96.trans (congrArg some (by kernel_rfl))
 f128:=Tryz.func134.trans (congrArg some (by kernel_rfl))
 f129:=Tryz.func135.trans (congrArg some (by kernel_rfl))
 f190:=Tryz.func244.trans (congrArg some (by kernel_rfl))
 f258:=Tryz.func283.trans (congrArg some (by kernel_rfl))
 f302:=Tryz.func317.trans (congrArg some (by kernel_rfl))
 f303:=Tryz.func318.trans (congrArg some (by kernel_rfl))
 f304:=Tryz.func319.trans (congrArg some (by kernel_rfl))
 f305:=Tryz.func320.trans (congrArg some (by kernel_rfl))
 f306:=Tryz.func321.trans (congrArg some (by kernel_rfl))
 f307:=Tryz.func322.trans (congrArg some (by kernel_rfl))
 f308:=Tryz.func323.trans (congrArg some (by kernel_rfl))
 f309:=Tryz.func324.trans (congrArg some (by kernel_rfl))
 f310:=Tryz.func325.trans (congrArg some (by kernel_rfl))
 f329:=Tryz.func160.trans (congrArg some (by kernel_rfl))
 f330:=Tryz.func161.trans (congrArg some (by kernel_rfl))
 f333:=Tryz.func348.trans (congrArg some (by kernel_rfl))
 f334:=Tryz.func349.trans (congrArg some (by kernel_rfl))
 f335:=Tryz.func350.trans (congrArg some (by kernel_rfl))
 f336:=Tryz.func307.trans (congrArg some (by kernel_rfl))
 f344:=Tryz.func364.trans (congrArg some (by kernel_rfl))
 t0:=Tryz.underlying0
 a0:=Tryz.isAgg0
 z0:=Tryz.sizeOf0
 v0:=Tryz.zeroValue0
 t3:=Tryz.underlying3
 a3:=Tryz.isAgg3
 z3:=Tryz.sizeOf3
 v3:=Tryz.zeroValue3
 t4:=Tryz.underlying4
 a4:=Tryz.isAgg4
 z4:=Tryz.sizeOf4
 v4:=Tryz.zeroValue4
 t5:=Tryz.underlying5
 a5:=Tryz.isAgg5
 z5:=Tryz.sizeOf5
 v5:=Tryz.zeroValue5
 t9:=Tryz.underlying9
 a9:=Tryz.isAgg9
 z9:=Tryz.sizeOf9
 v9:=Tryz.zeroValue9
 t31:=Tryz.underlying157
 a31:=Tryz.isAgg157
 z31:=Tryz.sizeOf157
 v31:=Tryz.zeroValue157
 t46:=Tryz.underlying114
 a46:=Tryz.isAgg114
 z46:=Tryz.sizeOf114
 v46:=Tryz.zeroValue114
 t51:=Tryz.underlying146
 a51:=Tryz.isAgg146
 z51:=Tryz.sizeOf146
 v51:=Tryz.zeroValue146
 t53:=Tryz.underlying148
 a53:=Tryz.isAgg148
 z53:=Tryz.sizeOf148
 v53:=Tryz.zeroValue148
 t131:=Tryz.underlying38
 a131:=Tryz.isAgg38
 z131:=Tryz.sizeOf38
 v131:=Tryz.zeroValue38
 t182:=Tryz.underlying140
 a182:=Tryz.isAgg140
 z182:=Tryz.sizeOf140
 v182:=Tryz.zeroValue140
 t183:=Tryz.underlying141
 a183:=Tryz.isAgg141
 z183:=Tryz.sizeOf141
 v183:=Tryz.zeroValue141
 t218:=Tryz.underlying169
 a218:=Tryz.isAgg169
 z218:=Tryz.sizeOf169
 v218:=Tryz.zeroValue169
 t222:=Tryz.underlying173
 a222:=Tryz.isAgg173
 z222:=Tryz.sizeOf173
 v222:=Tryz.zeroValue173
 t228:=Tryz.underlying199
 a228:=Tryz.isAgg199
 z228:=Tryz.sizeOf199
 v228:=Tryz.zeroValue199
 t229:=Tryz.underlying200
 a229:=Tryz.isAgg200
 z229:=Tryz.sizeOf200
 v229:=Tryz.zeroValue200 }
def Tryz.laysIt_ren:Go.Shelf.Ren:=⟨λ| 171=>187|243=>234|246=>276|283=>309|284=>310|285=>311|286=>312|129=>135|317=>336|318=>337|319=>338|320=>339|337=>359|338=>360|n=>n,λ| 3=>3|9=>9|2=>2|4=>4|171=>276|0=>0|53=>148|37=>168|5=>5|173=>278|212=>302|51=>146|20=>20|213=>303|46=>114|232=>321|233=>322|n=>n,λ| 17=>0|18=>1|19=>2|n=>n⟩
theorem Tryz.laysIt:Go.Proofs.LaysM.n171 Tryz.prog Tryz.laysIt_ren:={
 mixed:=by kernel_rfl
 f129:=Tryz.func135.trans (congrArg some (by kernel_rfl))
 f171:=Tryz.func187.trans (congrArg some (by kernel_rfl))
 f243:=Tryz.func234.trans (congrArg some (by kernel_rfl))
 f246:=Tryz.func276.trans (congrArg some (by kernel_rfl))
 f283:=Tryz.func309.trans (congrArg some (by kernel_rfl))
 f284:=Tryz.func310.trans (congrArg some (by kernel_rfl))
 f285:=Tryz.func311.trans (congrArg some (by kernel_rfl))
 f286:=Tryz.func312.trans (congrArg some (by kernel_rfl))
 f317:=Tryz.func336.trans (congrArg some (by kernel_rfl))
 f318:=Tryz.func337.trans (congrArg some (by kernel_rfl))
 f319:=Tryz.func338.trans (congrArg some (by kernel_rfl))
 f320:=Tryz.func339.trans (congrArg some (by kernel_rfl))
 f337:=Tryz.func359.trans (congrArg some (by kernel_rfl))
 f338:=Tryz.func360.trans (congrArg some (by kernel_rfl))
 t0:=Tryz.underlying0
 a0:=Tryz.isAgg0
 z0:=Tryz.sizeOf0
 v0:=Tryz.zeroValue0
 t2:=Tryz.underlying2
 a2:=Tryz.isAgg2
 z2:=Tryz.sizeOf2
 v2:=Tryz.zeroValue2
 t3:=Tryz.underlying3
 a3:=Tryz.isAgg3
 z3:=Tryz.sizeOf3
 v3:=Tryz.zeroValue3
 t4:=Tryz.underlying4
 a4:=Tryz.isAgg4
 z4:=Tryz.sizeOf4
 v4:=Tryz.zeroValue4
 t5:=Tryz.underlying5
 a5:=Tryz.isAgg5
 z5:=Tryz.sizeOf5
 v5:=Tryz.zeroValue5
 t9:=Tryz.underlying9
 a9:=Tryz.isAgg9
 z9:=Tryz.sizeOf9
 v9:=Tryz.zeroValue9
 t20:=Tryz.underlying20
 a20:=Tryz.isAgg20
 z20:=Tryz.sizeOf20
 v20:=Tryz.zeroValue20
 t37:=Tryz.underlying168
 a37:=Tryz.isAgg168
 z37:=Tryz.sizeOf168
 v37:=Tryz.zeroValue168
 t46:=Tryz.underlying114
 a46:=Tryz.isAgg114
 z46:=Tryz.sizeOf114
 v46:=Tryz.zeroValue114
 t51:=Tryz.underlying146
 a51:=Tryz.isAgg146
 z51:=Tryz.sizeOf146
 v51:=Tryz.zeroValue146
 t53:=Tryz.underlying148
 a53:=Tryz.isAgg148
 z53:=Tryz.sizeOf148
 v53:=Tryz.zeroValue148
 t171:=Tryz.underlying276
 a171:=Tryz.isAgg276
 z171:=Tryz.sizeOf276
 v171:=Tryz.zeroValue276
 t173:=Tryz.underlying278
 a173:=Tryz.isAgg278
 z173:=Tryz.sizeOf278
 v173:=Tryz.zeroValue278
 t212:=Tryz.underlying302
 a212:=Tryz.isAgg302
 z212:=Tryz.sizeOf302
 v212:=Tryz.zeroValue302
 t213:=Tryz.underlying303
 a213:=Tryz.isAgg303
 z213:=Tryz.sizeOf303
 t232:=Tryz.underlying321
 a232:=Tryz.isAgg321
 z232:=Tryz.sizeOf321
 v232:=Tryz.zeroValue321
 t233:=Tryz.underlying322
 a233:=Tryz.isAgg322
 z233:=Tryz.sizeOf322
 v233:=Tryz.zeroValue322
 g17:=by kernel_rfl
 g18:=by kernel_rfl
 g19:=by kernel_rfl
 i0:=by kernel_rfl
 i2:=by kernel_rfl
 i3:=by kernel_rfl
 i4:=by kernel_rfl
 i5:=by kernel_rfl
 i9:=by kernel_rfl
 i20:=by kernel_rfl
 i37:=by kernel_rfl
 i46:=by kernel_rfl
 i51:=by kernel_rfl
 i53:=by kernel_rfl
 i171:=by kernel_rfl
 i173:=by kernel_rfl
 i212:=by kernel_rfl
 i232:=by kernel_rfl
 i233:=by kernel_rfl
 m17:=by kernel_rfl
 m18:=by kernel_rfl
 m19:=by kernel_rfl }
def Tryz.laysSL_ren:Go.Shelf.Ren:=⟨λ| 6=>290|15=>96|14=>332|28=>134|29=>135|20=>351|21=>352|22=>353|23=>354|24=>355|25=>356|26=>357|27=>358|46=>365|47=>160|48=>161|49=>366|50=>367|57=>369|n=>n,λ| 22=>67|24=>125|25=>156|3=>3|39=>114|0=>0|53=>146|55=>148|4=>4|46=>141|45=>140|50=>38|5=>5|9=>9|66=>169|70=>173|76=>199|77=>200|n=>n,λ| n=>n⟩
theorem Tryz.laysSL:Go.Proofs.SlLaysF0.n6 Tryz.prog Tryz.laysSL_ren:={
 mixed:=by kernel_rfl
 f6:=⟨"slices.SortFunc[[]loop.example/g00892/impl.Literal,loop.example/g00892/impl.Literal]",by decide,Tryz.func290.trans (congrArg some (by kernel_rfl))⟩
 f14:=⟨"slices.pdqsortCmpFunc[loop.example/g00892/impl.Literal]",by decide,Tryz.func332.trans (congrArg some (by kernel_rfl))⟩
 f15:=Tryz.func96.trans (congrArg some (by kernel_rfl))
 f20:=⟨"slices.insertionSortCmpFunc[loop.example/g00892/impl.Literal]",by decide,Tryz.func351.trans (congrArg some (by kernel_rfl))⟩
 f21:=⟨"slices.heapSortCmpFunc[loop.example/g00892/impl.Literal]",by decide,Tryz.func352.trans (congrArg some (by kernel_rfl))⟩
 f22:=⟨"slices.breakPatternsCmpFunc[loop.example/g00892/impl.Literal]",by decide,Tryz.func353.trans (congrArg some (by kernel_rfl))⟩
 f23:=⟨"slices.choosePivotCmpFunc[loop.example/g00892/impl.Literal]",by decide,Tryz.func354.trans (congrArg some (by kernel_rfl))⟩
 f24:=⟨"slices.reverseRangeCmpFunc[loop.example/g00892/impl.Literal]",by decide,Tryz.func355.trans (congrArg some (by kernel_rfl))⟩
 f25:=⟨"slices.partialInsertionSortCmpFunc[loop.example/g00892/impl.Literal]",by decide,Tryz.func356.trans (congrArg some (by kernel_rfl))⟩
 f26:=⟨"slices.partitionEqualCmpFunc[loop.example/g00892/impl.Literal]",by decide,Tryz.func357.trans (congrArg some (by kernel_rfl))⟩
 f27:=⟨"slices.partitionCmpFunc[loop.example/g00892/impl.Literal]",by decide,Tryz.func358.trans (congrArg some (by kernel_rfl))⟩
 f28:=Tryz.func134.trans (congrArg some (by kernel_rfl))
 f29:=Tryz.func135.trans (congrArg some (by kernel_rfl))
 f46:=⟨"slices.siftDownCmpFunc[loop.example/g00892/impl.Literal]",by decide,Tryz.func365.trans (congrArg some (by kernel_rfl))⟩
 f47:=Tryz.func160.trans (congrArg some (by kernel_rfl))
 f48:=Tryz.func161.trans (congrArg some (by kernel_rfl))
 f49:=⟨"slices.medianAdjacentCmpFunc[loop.example/g00892/impl.Literal]",by decide,Tryz.func366.trans (congrArg some (by kernel_rfl))⟩
 f50:=⟨"slices.medianCmpFunc[loop.example/g00892/impl.Literal]",by decide,Tryz.func367.trans (congrArg some (by kernel_rfl))⟩
 f57:=⟨"slices.order2CmpFunc[loop.example/g00892/impl.Literal]",by decide,Tryz.func369.trans (congrArg some (by kernel_rfl))⟩
 t0:=Tryz.underlying0
 a0:=Tryz.isAgg0
 z0:=Tryz.sizeOf0
 v0:=Tryz.zeroValue0
 t3:=Tryz.underlying3
 a3:=Tryz.isAgg3
 z3:=Tryz.sizeOf3
 v3:=Tryz.zeroValue3
 t4:=Tryz.underlying4
 a4:=Tryz.isAgg4
 z4:=Tryz.sizeOf4
 v4:=Tryz.zeroValue4
 t5:=Tryz.underlying5
 a5:=Tryz.isAgg5
 z5:=Tryz.sizeOf5
 v5:=Tryz.zeroValue5
 t9:=Tryz.underlying9
 a9:=Tryz.isAgg9
 z9:=Tryz.sizeOf9
 v9:=Tryz.zeroValue9
 t22:=Tryz.underlying67
 a22:=Tryz.isAgg67
 z22:=Tryz.sizeOf67
 v22:=Tryz.zeroValue67
 t25:=Tryz.underlying156
 a25:=Tryz.isAgg156
 z25:=Tryz.sizeOf156
 v25:=Tryz.zeroValue156
 t39:=Tryz.underlying114
 a39:=Tryz.isAgg114
 z39:=Tryz.sizeOf114
 v39:=Tryz.zeroValue114
 t45:=Tryz.underlying140
 a45:=Tryz.isAgg140
 z45:=Tryz.sizeOf140
 v45:=Tryz.zeroValue140
 t46:=Tryz.underlying141
 a46:=Tryz.isAgg141
 z46:=Tryz.sizeOf141
 v46:=Tryz.zeroValue141
 t50:=Tryz.underlying38
 a50:=Tryz.isAgg38
 z50:=Tryz.sizeOf38
 v50:=Tryz.zeroValue38
 t53:=Tryz.underlying146
 a53:=Tryz.isAgg146
 z53:=Tryz.sizeOf146
 v53:=Tryz.zeroValue146
 t55:=Tryz.underlying148
 a55:=Tryz.isAgg148
 z55:=Tryz.sizeOf148
 v55:=Tryz.zeroValue148
 t66:=Tryz.underlying169
 a66:=Tryz.isAgg169
 z66:=Tryz.sizeOf169
 v66:=Tryz.zeroValue169
 t70:=Tryz.underlying173
 a70:=Tryz.isAgg173
 z70:=Tryz.sizeOf173
 v70:=Tryz.zeroValue173
 t76:=Tryz.underlying199
 a76:=Tryz.isAgg199
 z76:=Tryz.sizeOf199
 v76:=Tryz.zeroValue199
 t77:=Tryz.underlying200
 a77:=Tryz.isAgg200
 z77:=Tryz.sizeOf200
 v77:=Tryz.zeroValue200 }
def Tryz.laysSB_ren:Go.Shelf.Ren:=⟨λ| 6=>281|15=>96|14=>316|28=>134|29=>135|20=>340|21=>341|22=>342|23=>343|24=>344|25=>345|26=>346|27=>347|46=>361|47=>160|48=>161|49=>362|50=>363|57=>368|n=>n,λ| 22=>165|24=>216|25=>258|3=>3|39=>114|0=>0|53=>146|55=>148|4=>4|46=>141|45=>140|50=>38|5=>5|9=>9|66=>169|70=>173|76=>199|77=>200|n=>n,λ| n=>n⟩
theorem Tryz.laysSB:Go.Proofs.SlLaysF0.n6 Tryz.prog Tryz.laysSB_ren:={
 mixed:=by kernel_rfl
 f6:=⟨"slices.SortFunc[[]loop.example/g00892/impl.Binding,loop.example/g00892/impl.Binding]",by decide,Tryz.func281.trans (congrArg some (by kernel_rfl))⟩
 f14:=⟨"slices.pdqsortCmpFunc[loop.example/g00892/impl.Binding]",by decide,Tryz.func316.trans (congrArg some (by kernel_rfl))⟩
 f15:=Tryz.func96.trans (congrArg some (by kernel_rfl))
 f20:=⟨"slices.insertionSortCmpFunc[loop.example/g00892/impl.Binding]",by decide,Tryz.func340.trans (congrArg some (by kernel_rfl))⟩
 f21:=⟨"slices.heapSortCmpFunc[loop.example/g00892/impl.Binding]",by decide,Tryz.func341.trans (congrArg some (by kernel_rfl))⟩
 f22:=⟨"slices.breakPatternsCmpFunc[loop.example/g00892/impl.Binding]",by decide,Tryz.func342.trans (congrArg some (by kernel_rfl))⟩
 f23:=⟨"slices.choosePivotCmpFunc[loop.example/g00892/impl.Binding]",by decide,Tryz.func343.trans (congrArg some (by kernel_rfl))⟩
 f24:=⟨"slices.reverseRangeCmpFunc[loop.example/g00892/impl.Binding]",by decide,Tryz.func344.trans (congrArg some (by kernel_rfl))⟩
 f25:=⟨"slices.partialInsertionSortCmpFunc[loop.example/g00892/impl.Binding]",by decide,Tryz.func345.trans (congrArg some (by kernel_rfl))⟩
 f26:=⟨"slices.partitionEqualCmpFunc[loop.example/g00892/impl.Binding]",by decide,Tryz.func346.trans (congrArg some (by kernel_rfl))⟩
 f27:=⟨"slices.partitionCmpFunc[loop.example/g00892/impl.Binding]",by decide,Tryz.func347.trans (congrArg some (by kernel_rfl))⟩
 f28:=Tryz.func134.trans (congrArg some (by kernel_rfl))
 f29:=Tryz.func135.trans (congrArg some (by kernel_rfl))
 f46:=⟨"slices.siftDownCmpFunc[loop.example/g00892/impl.Binding]",by decide,Tryz.func361.trans (congrArg some (by kernel_rfl))⟩
 f47:=Tryz.func160.trans (congrArg some (by kernel_rfl))
 f48:=Tryz.func161.trans (congrArg some (by kernel_rfl))
 f49:=⟨"slices.medianAdjacentCmpFunc[loop.example/g00892/impl.Binding]",by decide,Tryz.func362.trans (congrArg some (by kernel_rfl))⟩
 f50:=⟨"slices.medianCmpFunc[loop.example/g00892/impl.Binding]",by decide,Tryz.func363.trans (congrArg some (by kernel_rfl))⟩
 f57:=⟨"slices.order2CmpFunc[loop.example/g00892/impl.Binding]",by decide,Tryz.func368.trans (congrArg some (by kernel_rfl))⟩
 t0:=Tryz.underlying0
 a0:=Tryz.isAgg0
 z0:=Tryz.sizeOf0
 v0:=Tryz.zeroValue0
 t3:=Tryz.underlying3
 a3:=Tryz.isAgg3
 z3:=Tryz.sizeOf3
 v3:=Tryz.zeroValue3
 t4:=Tryz.underlying4
 a4:=Tryz.isAgg4
 z4:=Tryz.sizeOf4
 v4:=Tryz.zeroValue4
 t5:=Tryz.underlying5
 a5:=Tryz.isAgg5
 z5:=Tryz.sizeOf5
 v5:=Tryz.zeroValue5
 t9:=Tryz.underlying9
 a9:=Tryz.isAgg9
 z9:=Tryz.sizeOf9
 v9:=Tryz.zeroValue9
 t22:=Tryz.underlying165
 a22:=Tryz.isAgg165
 z22:=Tryz.sizeOf165
 v22:=Tryz.zeroValue165
 t25:=Tryz.underlying258
 a25:=Tryz.isAgg258
 z25:=Tryz.sizeOf258
 v25:=Tryz.zeroValue258
 t39:=Tryz.underlying114
 a39:=Tryz.isAgg114
 z39:=Tryz.sizeOf114
 v39:=Tryz.zeroValue114
 t45:=Tryz.underlying140
 a45:=Tryz.isAgg140
 z45:=Tryz.sizeOf140
 v45:=Tryz.zeroValue140
 t46:=Tryz.underlying141
 a46:=Tryz.isAgg141
 z46:=Tryz.sizeOf141
 v46:=Tryz.zeroValue141
 t50:=Tryz.underlying38
 a50:=Tryz.isAgg38
 z50:=Tryz.sizeOf38
 v50:=Tryz.zeroValue38
 t53:=Tryz.underlying146
 a53:=Tryz.isAgg146
 z53:=Tryz.sizeOf146
 v53:=Tryz.zeroValue146
 t55:=Tryz.underlying148
 a55:=Tryz.isAgg148
 z55:=Tryz.sizeOf148
 v55:=Tryz.zeroValue148
 t66:=Tryz.underlying169
 a66:=Tryz.isAgg169
 z66:=Tryz.sizeOf169
 v66:=Tryz.zeroValue169
 t70:=Tryz.underlying173
 a70:=Tryz.isAgg173
 z70:=Tryz.sizeOf173
 v70:=Tryz.zeroValue173
 t76:=Tryz.underlying199
 a76:=Tryz.isAgg199
 z76:=Tryz.sizeOf199
 v76:=Tryz.zeroValue199
 t77:=Tryz.underlying200
 a77:=Tryz.isAgg200
 z77:=Tryz.sizeOf200
 v77:=Tryz.zeroValue200 }
end Go.Proofs
namespace Go.Proofs.YtoaifmomhaneiaaGreatDoor
open Go Go.RowKit Go.Sort Go.Proofs.YtoaifmomhaneiaaGreatDoor.Abs
set_option linter.unusedSimpArgs false
set_option linter.unusedVariables false
theorem jr5:Tryz.lays190_ren.f 190=244:=by kernel_rfl
theorem jtQ (blk off cap:Nat) (ss:List (List UInt8)) (w:World) (hH:Holds encStr w blk off ss.toArray) (hblk:blk < w.heap.size) (hsz:ss.length < 4611686018427387904) :
  Calls Tryz.prog 244 #[.slice (some ⟨blk,off,none⟩) ss.length cap] w λe w'=>e = .returned (.tuple #[])/\ ∃n os,w'=Sort.grow (putRow encStr (Sort.ahead w n) blk off (ss.mergeSort λx y=>decide (x<=y)).toArray) os:=by
 have:=Any.slices_Sort_string Tryz.lays190 blk off cap ss w hH hblk hsz;rw [jr5] at this;exact this
theorem jr3 (p:Option Addr) (cap:Nat) (w:World):Calls Tryz.prog 244 #[.slice p 0 cap] w λe w'=>e = .returned (.tuple #[])/\w'=w:=by
 have:=Any.slices_Sort_string_none Tryz.lays190 p cap w;rw [jr5] at this;exact this
theorem jr4:Enters Tryz.prog 244:=
 YB Tryz.func244 (jiO.names _ _ Tryz.func244) (K9 rfl)
theorem jAy:Tryz.laysSL_ren.f 6=290:=by kernel_rfl
theorem jDn:Tryz.laysSL_ren.t 24=125:=by kernel_rfl
theorem jGk:jDB Tryz.prog 290 3:=by
 intro m enc hk h1 cf hO g cb blk off cap d w eg hcmp hH hblk hsz;have:=AnyQ.slices_SortFunc_eq Tryz.laysSL 3 (by rw [jDn];exact Tryz.isAgg125) (by rw [jDn];exact Tryz.sizeOf125) enc hk h1 cf hO g cb blk off cap d w eg hcmp hH hblk hsz;rw [jAy] at this;exact this
theorem jCj (p:Option Addr) (cap:Nat) (fv:Value) (w:World):Calls Tryz.prog 290 #[.slice p 0 cap,fv] w λe w'=>e = .returned (.tuple #[])/\w'=w:=by
 have:=AnyF.slices_SortFunc_none Tryz.laysSL p cap fv w;rw [jAy] at this;exact this
theorem jwG:Enters Tryz.prog 290:=
 YB Tryz.func290 (jiO.names _ _ Tryz.func290) (K9 rfl)
theorem jAu:Tryz.laysSB_ren.f 6=281:=by kernel_rfl
theorem jDk:Tryz.laysSB_ren.t 24=216:=by kernel_rfl
theorem jGi:jDB Tryz.prog 281 3:=by
 intro m enc hk h1 cf hO g cb blk off cap d w eg hcmp hH hblk hsz;have:=AnyQ.slices_SortFunc_eq Tryz.laysSB 3 (by rw [jDk];exact Tryz.isAgg216) (by rw [jDk];exact Tryz.sizeOf216) enc hk h1 cf hO g cb blk off cap d w eg hcmp hH hblk hsz;rw [jAu] at this;exact this
theorem jCi (p:Option Addr) (cap:Nat) (fv:Value) (w:World):Calls Tryz.prog 281 #[.slice p 0 cap,fv] w λe w'=>e = .returned (.tuple #[])/\w'=w:=by
 have:=AnyF.slices_SortFunc_none Tryz.laysSB p cap fv w;rw [jAu] at this;exact this
theorem jwB:Enters Tryz.prog 281:=
 YB Tryz.func281 (jiO.names _ _ Tryz.func281) (K9 rfl)
theorem jDw {X:Ctx} (f:FuncId) (x:ExtV) (args:List V) (objs:List Abs.Obj) (sgs:Sig) (sg:SigA) (qs:List (FuncId × List A)) (outs:List Out) (out:Out) (h1:K.extv f=some x) (h2:K.sig f=some sgs) (h3:jaI objs.length sgs=some sg) (hq:x.ask args objs=some qs) (hok:jpw X K.P qs outs) (h4:x.ans args objs outs=some out):SOk X K.P f args objs sg out:=by
 have one:∀ {s s':SigA} {n:Nat},jaI n [s]=some s'->s'=s:=by
  intro s s' n h;simp only [jaI] at h;split at h
  .exact (Yx h).symm
  .cases h
 have h1:jaa none f js3=some x:=h1;unfold js3 at h1;simp only [jaa] at h1;cases hb:Nat.beq f 244 with
 | true=>
  rw [hb] at h1;have hf:=zf hb;subst hf;cases h1;have h2:some [jbV]=some sgs:=h2;cases h2;rw [one h3];exact jAz jr4 jtQ jr3 h4
 | false=>
  rw [hb] at h1;cases hb:Nat.beq f 290 with
  | true=>
   rw [hb] at h1;have hf:=zf hb;subst hf;cases h1;have h2:some [jdu 3]=some sgs:=h2;cases h2;rw [one h3];exact jAw jwG jGk (by decide) rfl jCj hq hok h4
  | false=>
   rw [hb] at h1;cases hb:Nat.beq f 281 with
   | true=>
    rw [hb] at h1;have hf:=zf hb;subst hf;cases h1;have h2:some [jdu 3]=some sgs:=h2;cases h2;rw [one h3];exact jAw jwB jGi (by decide) rfl jCi hq hok h4
   | false=>rw [hb] at h1;cases h1
def ja2:Nat:=0
theorem jf9:Tryz.prog.globalNamed "internal/strconv.uint64pow10" = some ja2:=by kernel_rfl
def jd6 (w:World):Prop:=Lib.TabIs Tryz.prog w "internal/strconv.uint64pow10" .u64 Lib.pow10Tab
theorem jsb {w w':World} (h:w'.heap[ja2]? = w.heap[ja2]?) (hw:jd6 w):jd6 w':=by
 unfold jd6 Lib.TabIs World.var? at *;rw [jf9] at *;simp only [yz] at *;rw [h];exact hw
theorem jbZ {w:World} (hw:jd6 w):ja2 < w.heap.size:=by
 unfold jd6 Lib.TabIs World.var? at hw;rw [jf9] at hw;simp only [yz] at hw;rcases jb6 ja2 w.heap.size with h|h
 .exact h
 .rw [jld h] at hw;simp at hw
theorem jwU {w:World} (hw:jd6 w) {off:Nat} {v:Value} (h:w.cell? ⟨ja2,off,none⟩=some v):∃z,v = .int .u64 z:=by
 by_cases hi:off < Lib.pow10Tab.length
 .have:=Lib.TabIs.cell hw jf9 off hi;rw [h] at this;exact ⟨_,Yx this⟩
 .have:=World.var?_cell jf9 hw off;rw [h] at this;have h2:(Lib.pow10Tab.map λz=>Value.int IntKind.u64 z).toArray[off]? = none:=jld (by simp;omega);simp [h2] at this
def Xt:Ctx:=⟨jd6,λb=>b=ja2,λ_ _ h hw=>jsb (h ja2 rfl) hw⟩
theorem jya:Tryz.laysIt_ren.f 171=187:=by kernel_rfl
theorem jqA:Enters Tryz.prog 187:=
 YB Tryz.func187 (jiO.names _ _ Tryz.func187) (K9 rfl)
theorem jBC (args:List A) (out:Out) (h:juP args=some out):jbs Xt Tryz.prog 187 args out:=by
 unfold juP at h;split at h;rotate_left
 .cases h
 rename_i n;split at h;rotate_left
 .cases h
 rename_i hn;cases h;refine ⟨jqA,λw O vs hj _ _ hrel=> ?_⟩;simp only [jF,rel] at hrel;obtain ⟨v,r,rfl,rfl,rfl⟩:=hrel;have:=Any.strconv_Itoa Tryz.laysIt n hn.1 hn.2 w hj;rw [jya] at this;refine this.mono ?_;rintro e w' ⟨rfl,k,os,rfl⟩;refine ⟨_,rfl,?_,?_⟩
 .refine ⟨rfl,rfl,⟨rfl,?_⟩,?_,λb hb=> ?_⟩
  .simp [grow,World.drewN]
  .simp [grow,World.drewN]
  .simp only [grow,World.drewN];rw [jhv hb]
 .simp only [rel]
theorem jsE {f:FuncId} {args:List A} {out:Out} (hs:K.pureF f=true) (h:G f args=some out):jbs Xt Tryz.prog f args out:=by
 refine jFj jiO (λf x args out h h2=> ?_) jDw f args out hs h;have h:jaa none f jon=some x:=h;unfold jon at h;simp only [jaa] at h;cases hb:Nat.beq f 187 with
 | true=>
  rw [hb] at h;have hf:=zf hb;subst hf;cases h;exact jBC args out h2
 | false=>rw [hb] at h;cases h
open Go Go.ChangeShapes Go.WideShapes Go.ChangeAt Go.RowKit Go.Proofs.YtoaifmomhaneiaaGreatDoor.Abs
theorem Tryz.ownK:ownKnob Tryz.prog.godebug=none:=by kernel_rfl
theorem Tryz.laidO:laidOutB Tryz.prog=true:=by kernel_rfl
set_option linter.unusedSectionVars false
theorem Qc:laidOutB Tryz.pinned.checked.prog=true:=by kernel_rfl
theorem Zp:mapsRowed Tryz.pinned.checked.prog=true:=by kernel_rfl
theorem jbU:false=Tryz.pinned.checked.prog.looks []:=by kernel_rfl
mutual
def nu:A->Bool
 | .val (.int .u64 _)=>false
 | .val _=>true
 | .sl _ xs=>nuR xs
 | .agg cs=>nuL cs
 | _=>false
def nuR:List (List A)->Bool
 | []=>true
 | x::xs=>(!x.isEmpty && nuL x) && nuR xs
def nuL:List A->Bool
 | []=>true
 | c::cs=>nu c && nuL cs
end
theorem jED {w:World} {O:Nat->Prop} {c:A} {z:Int} (h:nu c=true) (hr:rel w O c (.int .u64 z)):False:=by
 cases c with
 | top=>simp [nu] at h
 | val v=>simp only [rel] at hr;rw [<-hr] at h;simp [nu] at h
 | sl k xs=>simp only [rel] at hr;obtain ⟨a,cap,h1,_⟩:=hr;cases h1
 | agg cs=>simp only [rel] at hr;obtain ⟨vs,h1,_⟩:=hr;cases h1
 | elt cs off=>simp [nu] at h
 | fn f cs=>simp [nu] at h
 | tup cs=>simp [nu] at h
 | mp xs=>simp [nu] at h
section
variable {w:World} (hJ:jd6 w)
include hJ
mutual
theorem Y8:∀(a:A) (v:Value),nu a=true->rel w (λ_=>False) a v->rel w (λb=>b=ja2) a v
 | .top,_,h,_=>by simp [nu] at h
 | .val x,v,_,hr=>by simpa [rel] using hr
 | .sl k xs,v,h,hr=>by
  simp only [rel] at hr ⊢;obtain ⟨a,cap,h1,h2,h3,h4⟩:=hr;refine ⟨a,cap,h1,h2,h3,?_⟩;rcases h4 with h4|⟨b,off,h5,h6,h7,h8⟩
  .exact Or.inl h4
  .have hn:nuR xs=true:=by simpa only [nu] using h
   match xs,hn,h8 with
   | [],_,_=>exact Or.inl rfl
   | x::xs,hn,h8=>
    refine Or.inr ⟨b,off,h5,h6,λhb=> ?_,jkw k b off (x::xs) hn h8⟩;subst hb;simp only [nuR,jy] at hn;simp only [zs] at h8
    match x,hn.1,h8.2.1 with
    | [],hx,_=>simp at hx
    | c::cs,hx,h9=>
     simp only [nuL,jy] at hx;simp only [yk] at h9;obtain ⟨⟨v',e1,_,e2⟩,_⟩:=h9;obtain ⟨z,rfl⟩:=jwU hJ e1;exact jED hx.2.1 e2
 | .agg cs,v,h,hr=>by
  simp only [rel] at hr ⊢;obtain ⟨vs,h1,h2⟩:=hr;exact ⟨vs,h1,ju6 cs vs (by simpa only [nu] using h) h2⟩
 | .elt cs off,_,h,_=>by simp [nu] at h
 | .fn f caps,_,h,_=>by simp [nu] at h
 | .tup cs,_,h,_=>by simp [nu] at h
 | .mp xs,_,h,_=>by simp [nu] at h
theorem ju6:∀(cs:List A) (vs:List Value),nuL cs=true->jF w (λ_=>False) cs vs->jF w (λb=>b=ja2) cs vs
 | [],vs,_,hr=>by simpa [jF] using hr
 | c::cs,vs,h,hr=>by
  simp only [nuL,jy] at h;simp only [jF] at hr ⊢;obtain ⟨v,r,h1,h2,h3⟩:=hr;exact ⟨v,r,h1,Y8 c v h.1 h2,ju6 cs r h.2 h3⟩
theorem jh0 (b off:Nat):∀(cs:List A),nuL cs=true->yk w (λ_=>False) b off cs->yk w (λb=>b=ja2) b off cs
 | [],_,_=>by simp [yk]
 | c::cs,h,hr=>by
  simp only [nuL,jy] at h;simp only [yk] at hr ⊢;obtain ⟨⟨v,h1,h0,h2⟩,h3⟩:=hr;exact ⟨⟨v,h1,h0,Y8 c v h.1 h2⟩,jh0 b (off+1) cs h.2 h3⟩
theorem jkw (k b off:Nat):∀(xs:List (List A)),nuR xs=true->zs w (λ_=>False) k b off xs->zs w (λb=>b=ja2) k b off xs
 | [],_,_=>by simp [zs]
 | x::xs,h,hr=>by
  simp only [nuR,jy] at h;simp only [zs] at hr ⊢;obtain ⟨h1,h2,h3⟩:=hr;exact ⟨h1,jh0 b off x h.1.2 h2,jkw k b (off+k) xs h.2 h3⟩
end
end
theorem jfP {α:Type} {f:α->List A} (hf:∀x,(f x).isEmpty=false/\nuL (f x)=true):∀l:List α,nuR (l.map f)=true
 | []=>rfl
 | x::l=>by simp only [kV,nuR,(hf x).1,(hf x).2,jfP hf l];rfl
mutual
theorem jDh:∀t:T,(jw t).isEmpty=false/\nuL (jw t)=true
 | .mk n us=>by
  rw [zn];refine ⟨rfl,?_⟩;have:=jtu us;simp only [nuL,nu,T.args,this];rfl
theorem jtu:∀us:List T,nuR (us.map jw)=true
 | []=>rfl
 | u::us=>by simp only [kV,nuR,(jDh u).1,(jDh u).2,jtu us];rfl
end
theorem jix (l:List Int):nu (ints l)=true:=by
 simp only [nu];exact jfP (λx=>⟨rfl,rfl⟩) l
theorem juV (c:zg):nuR (c.map j8)=true:=jfP (λl=>⟨rfl,by
 have:=jtu l.2.args;simp only [nuL,nu,this];rfl⟩) c
theorem jzR (l:List zg):nu (cls l)=true:=by
 simp only [nu];exact jfP (λc=>⟨rfl,by simp only [nuL,nu,juV c];rfl⟩) l
theorem juW (l:List Stp):nu (yr l)=true:=by
 simp only [nu];refine jfP (λs=>⟨rfl,?_⟩) l;have h1:=jix s.par;have h2:=jix s.whr;simp only [nu] at h1 h2;simp only [nuL,nu,juV s.cls,h1,h2];rfl
theorem jj9 (p:Prf):nu (Yr p)=true:=by
 have h1:=jzR p.ax;have h2:=juW p.st;simp only [nu] at h1 h2;simp only [nu,nuL,h1,h2];rfl
theorem jzS (s:Sch):nu (scm s)=true:=by
 have h1:=jzR s.prf.ax;have h2:=juW s.prf.st;have h3:=jix s.act;have h4:=jix s.pas;simp only [nu] at h1 h2 h3 h4;simp only [nu,nuL,h1,h2,h3,h4];rfl
theorem qX {w:World} {O:Nat->Prop} {l:List A} {cs:Array Value} (h:jF w O l (Value.agg cs).cells.toList):rel w O (.agg l) (.agg cs):=by
 simp only [rel];exact ⟨cs.toList,by simp,by simpa [Value.cells] using h⟩
abbrev lst:List (String × DataW Unit):=Rows.fnExactIsCorrectStepRow.laid
theorem jNb:(Tryz.prog.globals[ja2]?).map (·.type)=some 302:=by kernel_rfl
theorem jNc:Tryz.prog.underlying 302=some (.array 20 148):=by kernel_rfl
theorem jNa:Tryz.prog.underlying 148=some (.int .u64):=by kernel_rfl
theorem je2 {w:World} (h:laidMet Tryz.prog lst w):jd6 w:=by
 have h3:laidMet Tryz.prog [("internal/strconv.uint64pow10",Lib.tabData .u64 Lib.pow10Tab)] w:=by
  have e:(Rows.laid_internal_strconv_uint64pow10:DataW Unit)=Lib.tabData .u64 Lib.pow10Tab:=by kernel_rfl
  have:=h.tail.tail;rw [<-e];exact this
 exact Lib.tabIs_of_head jf9 jNb jNc jNa (by kernel_rfl) (by kernel_rfl) h3
def intsIn (d:DataW Unit):Array Value:=match d with
 | .agg l=>(l.map λx=>match x with | .lit (.int k z)=>Value.int k z|_=> .int .i64 0).toArray
 | _=>#[]
def jEA (g:Nat) (d:DataW Unit) (h:Array Obj):Array Obj:=h.modify g λ
 | .cells _ t frozen=> .cells (intsIn d) t frozen
 | o=>o
noncomputable def jhP (os:Os):World:=
 { World.holding Tryz.prog os ⟨#[],#[],[]⟩ with heap:=jEA 2 Rows.laid_math_bits_deBruijn64tab (jEA 1 Rows.laid_math_bits_deBruijn32tab (jEA 0 Rows.laid_internal_strconv_uint64pow10 (World.holding Tryz.prog os ⟨#[],#[],[]⟩).heap)) }
set_option maxRecDepth 100000 in
theorem Zf (os:Os) (args:Array Value):laidMetH Tryz.prog lst ((jhP os).forCall (λ_ _=>0) ⟨#[],args,[]⟩).memory:=
 laidMetH_of_parts (laidMet_of_run' 8 (by kernel_rfl) (by kernel_rfl)) (by kernel_rfl)
end Go.Proofs.YtoaifmomhaneiaaGreatDoor
