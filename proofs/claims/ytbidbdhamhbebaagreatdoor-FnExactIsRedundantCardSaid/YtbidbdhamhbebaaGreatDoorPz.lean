/- Pz -/
import Derived.Test.YtbidbdhamhbebaaGreatDoorSn
import Derived.Shelf.Sort.Plain
import Derived.Shelf.Slices.In.SortNone
import Derived.Shelf.Strconv.Itoa3
import Derived.Shelf.SlSortCmp.NoneTotal
import Derived.Test.YtbidbdhamhbebaaGreatDoorE23
import Derived.Lib.LaidTab
import Derived.Test.YtbidbdhamhbebaaGreatDoorCards
import Derived.Test.YtbidbdhamhbebaaGreatDoorTie
import Derived.ProofKit
import Derived.SizedLaws
import Derived.LaidLaws
import Derived.LaidHandle
import Derived.Stop.LaidErr
import Derived.SevenTiedAt
import Derived.JoinedOf
import Derived.Lib.RowBridge
import Derived.Test.YtbidbdhamhbebaaGreatDoorPe
namespace Go.Proofs
open Go.Shelf
set_option linter.unusedSimpArgs false
set_option linter.unusedVariables false
def Tryz.lays190_ren:Go.Shelf.Ren:=⟨λ| 190=>224|125=>253|258=>252|128=>284|129=>173|302=>275|303=>276|304=>277|305=>278|306=>279|307=>280|308=>281|309=>282|310=>283|333=>303|329=>304|330=>305|334=>306|335=>307|336=>153|344=>319|n=>n,λ| 31=>100|9=>9|3=>3|46=>184|0=>0|51=>182|53=>166|4=>4|183=>267|182=>266|131=>214|5=>5|218=>286|222=>290|228=>299|229=>300|n=>n,λ| n=>n⟩
theorem Tryz.lays190:Go.Proofs.Lays.n190 Tryz.prog Tryz.lays190_ren:={
 mixed:=by kernel_rfl
 f125:=Tryz.func253.trans (congrArg some (by kernel_rfl))
 f128:=Tryz.func284.trans (congrArg some (by kernel_rfl))
 f129:=Tryz.func173.trans (congrArg some (by kernel_rfl))
 f190:=Tryz.func224.trans (congrArg some (by kernel_rfl))
 f258:=Tryz.func252.trans (congrArg some (by kernel_rfl))
 f302:=Tryz.func275.trans (congrArg some (by kernel_rfl))
 f303:=Tryz.func276.trans (congrArg some (by kernel_rfl))
 f304:=Tryz.func277.trans (congrArg some (by kernel_rfl))
 f305:=Tryz.func278.trans (congrArg some (by kernel_rfl))
 f306:=Tryz.func279.trans (congrArg some (by kernel_rfl))
 f307:=Tryz.func280.trans (congrArg some (by kernel_rfl))
 f308:=Tryz.func281.trans (congrArg some (by kernel_rfl))
 f309:=Tryz.func282.trans (congrArg some (by kernel_rfl))
 f310:=Tryz.func283.trans (congrArg some (by kernel_rfl))
 f329:=Tryz.func304.trans (congrArg some (by kernel_rfl))
 f330:=Tryz.func305.trans (congrArg some (by kernel_rfl))
 f333:=Tryz.func303.trans (congrArg some (by kernel_rfl))
 f334:=Tryz.func306.trans (congrArg some (by kernel_rfl))
 f335:=Tryz.func307.trans (congrArg some (by kernel_rfl))
 f336:=Tryz.func153.trans (congrArg some (by kernel_rfl))
 f344:=Tryz.func319.trans (congrArg some (by kernel_rfl))
 t0:=Tryz.underlying0
 a0:=Tryz.isAgg0
 z0:=Tryz.sizeOf0
 v0:=Tryz.zeroValue0
 t3:=Tryz.underlying3
 a3:=Tryz.isAgg3
 z3:=Tryz.sizeOf3
 v3:=Tryz.zeroValue3
 t4:=Tryz.underlying4
 a4:=Tryz.isAgg4
 z4:=Tryz.sizeOf4
 v4:=Tryz.zeroValue4
 t5:=Tryz.underlying5
 a5:=Tryz.isAgg5
 z5:=Tryz.sizeOf5
 v5:=Tryz.zeroValue5
 t9:=Tryz.underlying9
 a9:=Tryz.isAgg9
 z9:=Tryz.sizeOf9
 v9:=Tryz.zeroValue9
 t31:=Tryz.underlying100
 a31:=Tryz.isAgg100
 z31:=Tryz.sizeOf100
 v31:=Tryz.zeroValue100
 t46:=Tryz.underlying184
 a46:=Tryz.isAgg184
 z46:=Tryz.sizeOf184
 v46:=Tryz.zeroValue184
 t51:=Tryz.underlying182
 a51:=Tryz.isAgg182
 z51:=Tryz.sizeOf182
 v51:=Tryz.zeroValue182
 t53:=Tryz.underlying166
 a53:=Tryz.isAgg166
 z53:=Tryz.sizeOf166
 v53:=Tryz.zeroValue166
 t131:=Tryz.underlying214
 a131:=Tryz.isAgg214
 z131:=Tryz.sizeOf214
 v131:=Tryz.zeroValue214
 t182:=Tryz.underlying266
 a182:=Tryz.isAgg266
 z182:=Tryz.sizeOf266
 v182:=Tryz.zeroValue266
 t183:=Tryz.underlying267
 a183:=Tryz.isAgg267
 z183:=Tryz.sizeOf267
 v183:=Tryz.zeroValue267
 t218:=Tryz.underlying286
 a218:=Tryz.isAgg286
 z218:=Tryz.sizeOf286
 v218:=Tryz.zeroValue286
 t222:=Tryz.underlying290
 a222:=Tryz.isAgg290
 z222:=Tryz.sizeOf290
 v222:=Tryz.zeroValue290
 t228:=Tryz.underlying299
 a228:=Tryz.isAgg299
 z228:=Tryz.sizeOf299
 v228:=Tryz.zeroValue299
 t229:=Tryz.underlying300
 a229:=Tryz.isAgg300
 z229:=Tryz.sizeOf300
 v229:=Tryz.zeroValue300 }
def Tryz.laysIt_ren:Go.Shelf.Ren:=⟨λ| 171=>74|243=>100|246=>127|283=>155|284=>156|285=>157|286=>158|129=>173|317=>172|318=>174|319=>175|320=>176|337=>203|338=>204|n=>n,λ| 3=>3|9=>9|2=>2|4=>4|171=>165|0=>0|53=>166|37=>169|5=>5|173=>170|212=>181|51=>182|20=>20|213=>183|46=>184|232=>231|233=>232|n=>n,λ| 17=>0|18=>1|19=>2|n=>n⟩
theorem Tryz.laysIt:Go.Proofs.LaysM.n171 Tryz.prog Tryz.laysIt_ren:={
 mixed:=by kernel_rfl
 f129:=Tryz.func173.trans (congrArg some (by kernel_rfl))
 f171:=Tryz.func74.trans (congrArg some (by kernel_rfl))
 f243:=Tryz.func100.trans (congrArg some (by kernel_rfl))
 f246:=Tryz.func127.trans (congrArg some (by kernel_rfl))
 f283:=Tryz.func155.trans (congrArg some (by kernel_rfl))
 f284:=Tryz.func156.trans (congrArg some (by kernel_rfl))
 f285:=Tryz.func157.trans (congrArg some (by kernel_rfl))
 f286:=Tryz.func158.trans (congrArg some (by kernel_rfl))
 f317:=Tryz.func172.trans (congrArg some (by kernel_rfl))
 f318:=Tryz.func174.trans (congrArg some (by kernel_rfl))
 f319:=Tryz.func175.trans (congrArg some (by kernel_rfl))
 f320:=Tryz.func176.trans (congrArg some (by kernel_rfl))
 f337:=Tryz.func203.trans (congrArg some (by kernel_rfl))
 f338:=Tryz.func204.trans (congrArg some (by kernel_rfl))
 t0:=Tryz.underlying0
 a0:=Tryz.isAgg0
 z0:=Tryz.sizeOf0
 v0:=Tryz.zeroValue0
 t2:=Tryz.underlying2
 a2:=Tryz.isAgg2
 z2:=Tryz.sizeOf2
 v2:=Tryz.zeroValue2
 t3:=Tryz.underlying3
 a3:=Tryz.isAgg3
 z3:=Tryz.sizeOf3
 v3:=Tryz.zeroValue3
 t4:=Tryz.underlying4
 a4:=Tryz.isAgg4
 z4:=Tryz.sizeOf4
 v4:=Tryz.zeroValue4
 t5:=Tryz.underlying5
 a5:=Tryz.isAgg5
 z5:=Tryz.sizeOf5
 v5:=Tryz.zeroValue5
 t9:=Tryz.underlying9
 a9:=Tryz.isAgg9
 z9:=Tryz.sizeOf9
 v9:=Tryz.zeroValue9
 t20:=Tryz.underlying20
 a20:=Tryz.isAgg20
 z20:=Tryz.sizeOf20
 v20:=Tryz.zeroValue20
 t37:=Tryz.underlying169
 a37:=Tryz.isAgg169
 z37:=Tryz.sizeOf169
 v37:=Tryz.zeroValue169
 t46:=Tryz.underlying184
 a46:=Tryz.isAgg184
 z46:=Tryz.sizeOf184
 v46:=Tryz.zeroValue184
 t51:=Tryz.underlying182
 a51:=Tryz.isAgg182
 z51:=Tryz.sizeOf182
 v51:=Tryz.zeroValue182
 t53:=Tryz.underlying166
 a53:=Tryz.isAgg166
 z53:=Tryz.sizeOf166
 v53:=Tryz.zeroValue166
 t171:=Tryz.underlying165
 a171:=Tryz.isAgg165
 z171:=Tryz.sizeOf165
 v171:=Tryz.zeroValue165
 t173:=Tryz.underlying170
 a173:=Tryz.isAgg170
 z173:=Tryz.sizeOf170
 v173:=Tryz.zeroValue170
 t212:=Tryz.underlying181
 a212:=Tryz.isAgg181
 z212:=Tryz.sizeOf181
 v212:=Tryz.zeroValue181
 t213:=Tryz.underlying183
 a213:=Tryz.isAgg183
 z213:=Tryz.sizeOf183
 t232:=Tryz.underlying231
 a232:=Tryz.isAgg231
 z232:=Tryz.sizeOf231
 v232:=Tryz.zeroValue231
 t233:=Tryz.underlying232
 a233:=Tryz.isAgg232
 z233:=Tryz.sizeOf232
 v233:=Tryz.zeroValue232
 g17:=by kernel_rfl
 g18:=by kernel_rfl
 g19:=by kernel_rfl
 i0:=by kernel_rfl
 i2:=by kernel_rfl
 i3:=by kernel_rfl
 i4:=by kernel_rfl
 i5:=by kernel_rfl
 i9:=by kernel_rfl
 i20:=by kernel_rfl
 i37:=by kernel_rfl
 i46:=by kernel_rfl
 i51:=by kernel_rfl
 i53:=by kernel_rfl
 i171:=by kernel_rfl
 i173:=by kernel_rfl
 i212:=by kernel_rfl
 i232:=by kernel_rfl
 i233:=by kernel_rfl
 m17:=by kernel_rfl
 m18:=by kernel_rfl
 m19:=by kernel_rfl }
def Tryz.laysSL_ren:Go.Shelf.Ren:=⟨λ| 6=>260|15=>253|14=>291|28=>284|29=>173|20=>308|21=>309|22=>310|23=>311|24=>312|25=>313|26=>314|27=>315|46=>320|47=>304|48=>305|49=>321|50=>322|57=>324|n=>n,λ| 22=>43|24=>81|25=>99|3=>3|39=>184|0=>0|53=>182|55=>166|4=>4|46=>267|45=>266|50=>214|5=>5|9=>9|66=>286|70=>290|76=>299|77=>300|n=>n,λ| n=>n⟩
theorem Tryz.laysSL:Go.Proofs.SlLaysF0.n6 Tryz.prog Tryz.laysSL_ren:={
 mixed:=by kernel_rfl
 f6:=⟨"slices.SortFunc[[]loop.example/g00892/impl.Literal,loop.example/g00892/impl.Literal]",by decide,Tryz.func260.trans (congrArg some (by kernel_rfl))⟩
 f14:=⟨"slices.pdqsortCmpFunc[loop.example/g00892/impl.Literal]",by decide,Tryz.func291.trans (congrArg some (by kernel_rfl))⟩
 f15:=Tryz.func253.trans (congrArg some (by kernel_rfl))
 f20:=⟨"slices.insertionSortCmpFunc[loop.example/g00892/impl.Literal]",by decide,Tryz.func308.trans (congrArg some (by kernel_rfl))⟩
 f21:=⟨"slices.heapSortCmpFunc[loop.example/g00892/impl.Literal]",by decide,Tryz.func309.trans (congrArg some (by kernel_rfl))⟩
 f22:=⟨"slices.breakPatternsCmpFunc[loop.example/g00892/impl.Literal]",by decide,Tryz.func310.trans (congrArg some (by kernel_rfl))⟩
 f23:=⟨"slices.choosePivotCmpFunc[loop.example/g00892/impl.Literal]",by decide,Tryz.func311.trans (congrArg some (by kernel_rfl))⟩
 f24:=⟨"slices.reverseRangeCmpFunc[loop.example/g00892/impl.Literal]",by decide,Tryz.func312.trans (congrArg some (by kernel_rfl))⟩
 f25:=⟨"slices.partialInsertionSortCmpFunc[loop.example/g00892/impl.Literal]",by decide,Tryz.func313.trans (congrArg some (by kernel_rfl))⟩
 f26:=⟨"slices.partitionEqualCmpFunc[loop.example/g00892/impl.Literal]",by decide,Tryz.func314.trans (congrArg some (by kernel_rfl))⟩
 f27:=⟨"slices.partitionCmpFunc[loop.example/g00892/impl.Literal]",by decide,Tryz.func315.trans (congrArg some (by kernel_rfl))⟩
 f28:=Tryz.func284.trans (congrArg some (by kernel_rfl))
 f29:=Tryz.func173.trans (congrArg some (by kernel_rfl))
 f46:=⟨"slices.siftDownCmpFunc[loop.example/g00892/impl.Literal]",by decide,Tryz.func320.trans (congrArg some (by kernel_rfl))⟩
 f47:=Tryz.func304.trans (congrArg some (by kernel_rfl))
 f48:=Tryz.func305.trans (congrArg some (by kernel_rfl))
 f49:=⟨"slices.medianAdjacentCmpFunc[loop.example/g00892/impl.Literal]",by decide,Tryz.func321.trans (congrArg some (by kernel_rfl))⟩
 f50:=⟨"slices.medianCmpFunc[loop.example/g00892/impl.Literal]",by decide,Tryz.func322.trans (congrArg some (by kernel_rfl))⟩
 f57:=⟨"slices.order2CmpFunc[loop.example/g00892/impl.Literal]",by decide,Tryz.func324.trans (congrArg some (by kernel_rfl))⟩
 t0:=Tryz.underlying0
 a0:=Tryz.isAgg0
 z0:=Tryz.sizeOf0
 v0:=Tryz.zeroValue0
 t3:=Tryz.underlying3
 a3:=Tryz.isAgg3
 z3:=Tryz.sizeOf3
 v3:=Tryz.zeroValue3
 t4:=Tryz.underlying4
 a4:=Tryz.isAgg4
 z4:=Tryz.sizeOf4
 v4:=Tryz.zeroValue4
 t5:=Tryz.underlying5
 a5:=Tryz.isAgg5
 z5:=Tryz.sizeOf5
 v5:=Tryz.zeroValue5
 t9:=Tryz.underlying9
 a9:=Tryz.isAgg9
 z9:=Tryz.sizeOf9
 v9:=Tryz.zeroValue9
 t22:=Tryz.underlying43
 a22:=Tryz.isAgg43
 z22:=Tryz.sizeOf43
 v22:=Tryz.zeroValue43
 t25:=Tryz.underlying99
 a25:=Tryz.isAgg99
 z25:=Tryz.sizeOf99
 v25:=Tryz.zeroValue99
 t39:=Tryz.underlying184
 a39:=Tryz.isAgg184
 z39:=Tryz.sizeOf184
 v39:=Tryz.zeroValue184
 t45:=Tryz.underlying266
 a45:=Tryz.isAgg266
 z45:=Tryz.sizeOf266
 v45:=Tryz.zeroValue266
 t46:=Tryz.underlying267
 a46:=Tryz.isAgg267
 z46:=Tryz.sizeOf267
 v46:=Tryz.zeroValue267
 t50:=Tryz.underlying214
 a50:=Tryz.isAgg214
 z50:=Tryz.sizeOf214
 v50:=Tryz.zeroValue214
 t53:=Tryz.underlying182
 a53:=Tryz.isAgg182
 z53:=Tryz.sizeOf182
 v53:=Tryz.zeroValue182
 t55:=Tryz.underlying166
 a55:=Tryz.isAgg166
 z55:=Tryz.sizeOf166
 v55:=Tryz.zeroValue166
 t66:=Tryz.underlying286
 a66:=Tryz.isAgg286
 z66:=Tryz.sizeOf286
 v66:=Tryz.zeroValue286
 t70:=Tryz.underlying290
 a70:=Tryz.isAgg290
 z70:=Tryz.sizeOf290
 v70:=Tryz.zeroValue290
 t76:=Tryz.underlying299
 a76:=Tryz.isAgg299
 z76:=Tryz.sizeOf299
 v76:=Tryz.zeroValue299
 t77:=Tryz.underlying300
 a77:=Tryz.isAgg300
 z77:=Tryz.sizeOf300
 v77:=Tryz.zeroValue300 }
def Tryz.laysSB_ren:Go.Shelf.Ren:=⟨λ| 6=>250|15=>253|14=>274|28=>284|29=>173|20=>295|21=>296|22=>297|23=>298|24=>299|25=>300|26=>301|27=>302|46=>316|47=>304|48=>305|49=>317|50=>318|57=>323|n=>n,λ| 22=>176|24=>211|25=>246|3=>3|39=>184|0=>0|53=>182|55=>166|4=>4|46=>267|45=>266|50=>214|5=>5|9=>9|66=>286|70=>290|76=>299|77=>300|n=>n,λ| n=>n⟩
theorem Tryz.laysSB:Go.Proofs.SlLaysF0.n6 Tryz.prog Tryz.laysSB_ren:={
 mixed:=by kernel_rfl
 f6:=⟨"slices.SortFunc[[]loop.example/g00892/impl.Binding,loop.example/g00892/impl.Binding]",by decide,Tryz.func250.trans (congrArg some (by kernel_rfl))⟩
 f14:=⟨"slices.pdqsortCmpFunc[loop.example/g00892/impl.Binding]",by decide,Tryz.func274.trans (congrArg some (by kernel_rfl))⟩
 f15:=Tryz.func253.trans (congrArg some (by kernel_rfl))
 f20:=⟨"slices.insertionSortCmpFunc[loop.example/g00892/impl.Binding]",by decide,Tryz.func295.trans (congrArg some (by kernel_rfl))⟩
 f21:=⟨"slices.heapSortCmpFunc[loop.example/g00892/impl.Binding]",by decide,Tryz.func296.trans (congrArg some (by kernel_rfl))⟩
 f22:=⟨"slices.breakPatternsCmpFunc[loop.example/g00892/impl.Binding]",by decide,Tryz.func297.trans (congrArg some (by kernel_rfl))⟩
 f23:=⟨"slices.choosePivotCmpFunc[loop.example/g00892/impl.Binding]",by decide,Tryz.func298.trans (congrArg some (by kernel_rfl))⟩
 f24:=⟨"slices.reverseRangeCmpFunc[loop.example/g00892/impl.Binding]",by decide,Tryz.func299.trans (congrArg some (by kernel_rfl))⟩
 f25:=⟨"slices.partialInsertionSortCmpFunc[loop.example/g00892/impl.Binding]",by decide,Tryz.func300.trans (congrArg some (by kernel_rfl))⟩
 f26:=⟨"slices.partitionEqualCmpFunc[loop.example/g00892/impl.Binding]",by decide,Tryz.func301.trans (congrArg some (by kernel_rfl))⟩
 f27:=⟨"slices.partitionCmpFunc[loop.example/g00892/impl.Binding]",by decide,Tryz.func302.trans (congrArg some (by kernel_rfl))⟩
 f28:=Tryz.func284.trans (congrArg some (by kernel_rfl))
 f29:=Tryz.func173.trans (congrArg some (by kernel_rfl))
 f46:=⟨"slices.siftDownCmpFunc[loop.example/g00892/impl.Binding]",by decide,Tryz.func316.trans (congrArg some (by kernel_rfl))⟩
 f47:=Tryz.func304.trans (congrArg some (by kernel_rfl))
 f48:=Tryz.func305.trans (congrArg some (by kernel_rfl))
 f49:=⟨"slices.medianAdjacentCmpFunc[loop.example/g00892/impl.Binding]",by decide,Tryz.func317.trans (congrArg some (by kernel_rfl))⟩
 f50:=⟨"slices.medianCmpFunc[loop.example/g00892/impl.Binding]",by decide,Tryz.func318.trans (congrArg some (by kernel_rfl))⟩
 f57:=⟨"slices.order2CmpFunc[loop.example/g00892/impl.Binding]",by decide,Tryz.func323.trans (congrArg some (by kernel_rfl))⟩
 t0:=Tryz.underlying0
 a0:=Tryz.isAgg0
 z0:=Tryz.sizeOf0
 v0:=Tryz.zeroValue0
 t3:=Tryz.underlying3
 a3:=Tryz.isAgg3
 z3:=Tryz.sizeOf3
 v3:=Tryz.zeroValue3
 t4:=Tryz.underlying4
 a4:=Tryz.isAgg4
 z4:=Tryz.sizeOf4
 v4:=Tryz.zeroValue4
 t5:=Tryz.underlying5
 a5:=Tryz.isAgg5
 z5:=Tryz.sizeOf5
 v5:=Tryz.zeroValue5
 t9:=Tryz.underlying9
 a9:=Tryz.isAgg9
 z9:=Tryz.sizeOf9
 v9:=Tryz.zeroValue9
 t22:=Tryz.underlying176
 a22:=Tryz.isAgg176
 z22:=Tryz.sizeOf176
 v22:=Tryz.zeroValue176
 t25:=Tryz.underlying246
 a25:=Tryz.isAgg246
 z25:=Tryz.sizeOf246
 v25:=Tryz.zeroValue246
 t39:=Tryz.underlying184
 a39:=Tryz.isAgg184
 z39:=Tryz.sizeOf184
 v39:=Tryz.zeroValue184
 t45:=Tryz.underlying266
 a45:=Tryz.isAgg266
 z45:=Tryz.sizeOf266
 v45:=Tryz.zeroValue266
 t46:=Tryz.underlying267
 a46:=Tryz.isAgg267
 z46:=Tryz.sizeOf267
 v46:=Tryz.zeroValue267
 t50:=Tryz.underlying214
 a50:=Tryz.isAgg214
 z50:=Tryz.sizeOf214
 v50:=Tryz.zeroValue214
 t53:=Tryz.underlying182
 a53:=Tryz.isAgg182
 z53:=Tryz.sizeOf182
 v53:=Tryz.zeroValue182
 t55:=Tryz.underlying166
 a55:=Tryz.isAgg166
 z55:=Tryz.sizeOf166
 v55:=Tryz.zeroValue166
 t66:=Tryz.underlying286
 a66:=Tryz.isAgg286
 z66:=Tryz.sizeOf286
 v66:=Tryz.zeroValue286
 t70:=Tryz.underlying290
 a70:=Tryz.isAgg290
 z70:=Tryz.sizeOf290
 v70:=Tryz.zeroValue290
 t76:=Tryz.underlying299
 a76:=Tryz.isAgg299
 z76:=Tryz.sizeOf299
 v76:=Tryz.zeroValue299
 t77:=Tryz.underlying300
 a77:=Tryz.isAgg300
 z77:=Tryz.sizeOf300
 v77:=Tryz.zeroValue300 }
end Go.Proofs
namespace Go.Proofs.YtbidbdhamhbebaaGreatDoor
open Go Go.RowKit Go.Sort Go.Proofs.YtbidbdhamhbebaaGreatDoor.Abs
set_option linter.unusedSimpArgs false
set_option linter.unusedVariables false
theorem jrm:Tryz.lays190_ren.f 190=224:=by kernel_rfl
theorem jtk (blk off cap:Nat) (ss:List (List UInt8)) (w:World) (hH:Holds encStr w blk off ss.toArray) (hblk:blk < w.heap.size) (hsz:ss.length < 4611686018427387904) :
  Calls Tryz.prog 224 #[.slice (some ⟨blk,off,none⟩) ss.length cap] w λe w'=>e = .returned (.tuple #[])/\ ∃n os,w'=Sort.grow (putRow encStr (Sort.ahead w n) blk off (ss.mergeSort λx y=>decide (x<=y)).toArray) os:=by
 have:=Any.slices_Sort_string Tryz.lays190 blk off cap ss w hH hblk hsz;rw [jrm] at this;exact this
theorem jrk (p:Option Addr) (cap:Nat) (w:World):Calls Tryz.prog 224 #[.slice p 0 cap] w λe w'=>e = .returned (.tuple #[])/\w'=w:=by
 have:=Any.slices_Sort_string_none Tryz.lays190 p cap w;rw [jrm] at this;exact this
theorem jrl:Enters Tryz.prog 224:=
 YD Tryz.func224 (jhS.names _ _ Tryz.func224) (Kz rfl)
theorem jAw:Tryz.laysSL_ren.f 6=260:=by kernel_rfl
theorem jEa:Tryz.laysSL_ren.t 24=81:=by kernel_rfl
theorem jHy:jEr Tryz.prog 260 3:=by
 intro m enc hk h1 cf hO g cb blk off cap d w eg hcmp hH hblk hsz;have:=AnyQ.slices_SortFunc_eq Tryz.laysSL 3 (by rw [jEa];exact Tryz.isAgg81) (by rw [jEa];exact Tryz.sizeOf81) enc hk h1 cf hO g cb blk off cap d w eg hcmp hH hblk hsz;rw [jAw] at this;exact this
theorem jCS (p:Option Addr) (cap:Nat) (fv:Value) (w:World):Calls Tryz.prog 260 #[.slice p 0 cap,fv] w λe w'=>e = .returned (.tuple #[])/\w'=w:=by
 have:=AnyF.slices_SortFunc_none Tryz.laysSL p cap fv w;rw [jAw] at this;exact this
theorem jwy:Enters Tryz.prog 260:=
 YD Tryz.func260 (jhS.names _ _ Tryz.func260) (Kz rfl)
theorem jAr:Tryz.laysSB_ren.f 6=250:=by kernel_rfl
theorem jD5:Tryz.laysSB_ren.t 24=211:=by kernel_rfl
theorem jHw:jEr Tryz.prog 250 3:=by
 intro m enc hk h1 cf hO g cb blk off cap d w eg hcmp hH hblk hsz;have:=AnyQ.slices_SortFunc_eq Tryz.laysSB 3 (by rw [jD5];exact Tryz.isAgg211) (by rw [jD5];exact Tryz.sizeOf211) enc hk h1 cf hO g cb blk off cap d w eg hcmp hH hblk hsz;rw [jAr] at this;exact this
theorem jCQ (p:Option Addr) (cap:Nat) (fv:Value) (w:World):Calls Tryz.prog 250 #[.slice p 0 cap,fv] w λe w'=>e = .returned (.tuple #[])/\w'=w:=by
 have:=AnyF.slices_SortFunc_none Tryz.laysSB p cap fv w;rw [jAr] at this;exact this
theorem jwu:Enters Tryz.prog 250:=
 YD Tryz.func250 (jhS.names _ _ Tryz.func250) (Kz rfl)
theorem jEm {X:Ctx} (f:FuncId) (x:ExtV) (args:List V) (objs:List Abs.Obj) (sgs:Sig) (sg:SigA) (qs:List (FuncId × List A)) (outs:List Out) (out:Out) (h1:K.extv f=some x) (h2:K.sig f=some sgs) (h3:jaa objs.length sgs=some sg) (hq:x.ask args objs=some qs) (hok:joF X K.P qs outs) (h4:x.ans args objs outs=some out):SOk X K.P f args objs sg out:=by
 have one:∀ {s s':SigA} {n:Nat},jaa n [s]=some s'->s'=s:=by
  intro s s' n h;simp only [jaa] at h;split at h
  .exact (ZE h).symm
  .cases h
 have h1:QO none f jsu=some x:=h1;unfold jsu at h1;simp only [QO] at h1;cases hb:Nat.beq f 224 with
 | true=>
  rw [hb] at h1;have hf:=kU hb;subst hf;cases h1;have h2:some [ja4]=some sgs:=h2;cases h2;rw [one h3];exact jAx jrl jtk jrk h4
 | false=>
  rw [hb] at h1;cases hb:Nat.beq f 260 with
  | true=>
   rw [hb] at h1;have hf:=kU hb;subst hf;cases h1;have h2:some [jcq 3]=some sgs:=h2;cases h2;rw [one h3];exact jAu jwy jHy (by decide) rfl jCS hq hok h4
  | false=>
   rw [hb] at h1;cases hb:Nat.beq f 250 with
   | true=>
    rw [hb] at h1;have hf:=kU hb;subst hf;cases h1;have h2:some [jcq 3]=some sgs:=h2;cases h2;rw [one h3];exact jAu jwu jHw (by decide) rfl jCQ hq hok h4
   | false=>rw [hb] at h1;cases h1
def jfb:Nat:=0
theorem jfc:Tryz.prog.globalNamed "internal/strconv.uint64pow10" = some jfb:=by kernel_rfl
def jks (w:World):Prop:=Lib.TabIs Tryz.prog w "internal/strconv.uint64pow10" .u64 Lib.pow10Tab
theorem jrt {w w':World} (h:w'.heap[jfb]? = w.heap[jfb]?) (hw:jks w):jks w':=by
 unfold jks Lib.TabIs World.var? at *;rw [jfc] at *;simp only [yo] at *;rw [h];exact hw
theorem jC2 {w:World} (hw:jks w):jfb < w.heap.size:=by
 unfold jks Lib.TabIs World.var? at hw;rw [jfc] at hw;simp only [yo] at hw;rcases jfj jfb w.heap.size with h|h
 .exact h
 .rw [jka h] at hw;simp at hw
theorem jwN {w:World} (hw:jks w) {off:Nat} {v:Value} (h:w.cell? ⟨jfb,off,none⟩=some v):∃z,v = .int .u64 z:=by
 by_cases hi:off < Lib.pow10Tab.length
 .have:=Lib.TabIs.cell hw jfc off hi;rw [h] at this;exact ⟨_,ZE this⟩
 .have:=World.var?_cell jfc hw off;rw [h] at this;have h2:(Lib.pow10Tab.map λz=>Value.int IntKind.u64 z).toArray[off]? = none:=jka (by simp;omega);simp [h2] at this
def Xt:Ctx:=⟨jks,λb=>b=jfb,λ_ _ h hw=>jrt (h jfb rfl) hw⟩
theorem jyh:Tryz.laysIt_ren.f 171=74:=by kernel_rfl
theorem jpM:Enters Tryz.prog 74:=
 YD Tryz.func74 (jhS.names _ _ Tryz.func74) (Kz rfl)
theorem jB7 (args:List A) (out:Out) (h:jur args=some out):jaA Xt Tryz.prog 74 args out:=by
 unfold jur at h;split at h;rotate_left
 .cases h
 rename_i n;split at h;rotate_left
 .cases h
 rename_i hn;cases h;refine ⟨jpM,λw O vs hj _ _ hrel=> ?_⟩;simp only [jG,rel] at hrel;obtain ⟨v,r,rfl,rfl,rfl⟩:=hrel;have:=Any.strconv_Itoa Tryz.laysIt n hn.1 hn.2 w hj;rw [jyh] at this;refine this.mono ?_;rintro e w' ⟨rfl,k,os,rfl⟩;refine ⟨_,rfl,?_,?_⟩
 .refine ⟨rfl,rfl,⟨rfl,?_⟩,?_,λb hb=> ?_⟩
  .simp [grow,World.drewN]
  .simp [grow,World.drewN]
  .simp only [grow,World.drewN];rw [jgp hb]
 .simp only [rel]
theorem jH4 {f:FuncId} {args:List A} {out:Out} (hs:K.pureF f=true) (h:G f args=some out):jaA Xt Tryz.prog f args out:=by
 refine jGn jhS (λf x args out h h2=> ?_) jEm f args out hs h;have h:QO none f jnj=some x:=h;unfold jnj at h;simp only [QO] at h;cases hb:Nat.beq f 74 with
 | true=>
  rw [hb] at h;have hf:=kU hb;subst hf;cases h;exact jB7 args out h2
 | false=>rw [hb] at h;cases h
open Go Go.ChangeShapes Go.WideShapes Go.ChangeAt Go.RowKit Go.Proofs.YtbidbdhamhbebaaGreatDoor.Abs
theorem Tryz.ownK:ownKnob Tryz.prog.godebug=none:=by kernel_rfl
theorem Tryz.laidO:laidOutB Tryz.prog=true:=by kernel_rfl
set_option linter.unusedSectionVars false
theorem jAs:laidOutB Tryz.pinned.checked.prog=true:=by kernel_rfl
theorem jww:mapsRowed Tryz.pinned.checked.prog=true:=by kernel_rfl
theorem jCR:false=Tryz.pinned.checked.prog.looks []:=by kernel_rfl
mutual
def nu:A->Bool
 | .val (.int .u64 _)=>false
 | .val _=>true
 | .sl _ xs=>nuR xs
 | .agg cs=>nuL cs
 | _=>false
def nuR:List (List A)->Bool
 | []=>true
 | x::xs=>(!x.isEmpty && nuL x) && nuR xs
def nuL:List A->Bool
 | []=>true
 | c::cs=>nu c && nuL cs
end
theorem jFy {w:World} {O:Nat->Prop} {c:A} {z:Int} (h:nu c=true) (hr:rel w O c (.int .u64 z)):False:=by
 cases c with
 | top=>simp [nu] at h
 | val v=>simp only [rel] at hr;rw [<-hr] at h;simp [nu] at h
 | sl k xs=>simp only [rel] at hr;obtain ⟨a,cap,h1,_⟩:=hr;cases h1
 | agg cs=>simp only [rel] at hr;obtain ⟨vs,h1,_⟩:=hr;cases h1
 | elt cs off=>simp [nu] at h
 | fn f cs=>simp [nu] at h
 | tup cs=>simp [nu] at h
 | mp xs=>simp [nu] at h
section
variable {w:World} (hJ:jks w)
include hJ
mutual
theorem jn4:∀(a:A) (v:Value),nu a=true->rel w (λ_=>False) a v->rel w (λb=>b=jfb) a v
 | .top,_,h,_=>by simp [nu] at h
 | .val x,v,_,hr=>by simpa [rel] using hr
 | .sl k xs,v,h,hr=>by
  simp only [rel] at hr ⊢;obtain ⟨a,cap,h1,h2,h3,h4⟩:=hr;refine ⟨a,cap,h1,h2,h3,?_⟩;rcases h4 with h4|⟨b,off,h5,h6,h7,h8⟩
  .exact Or.inl h4
  .have hn:nuR xs=true:=by simpa only [nu] using h
   match xs,hn,h8 with
   | [],_,_=>exact Or.inl rfl
   | x::xs,hn,h8=>
    refine Or.inr ⟨b,off,h5,h6,λhb=> ?_,jjC k b off (x::xs) hn h8⟩;subst hb;simp only [nuR,ju] at hn;simp only [zv] at h8
    match x,hn.1,h8.2.1 with
    | [],hx,_=>simp at hx
    | c::cs,hx,h9=>
     simp only [nuL,ju] at hx;simp only [yk] at h9;obtain ⟨⟨v',e1,_,e2⟩,_⟩:=h9;obtain ⟨z,rfl⟩:=jwN hJ e1;exact jFy hx.2.1 e2
 | .agg cs,v,h,hr=>by
  simp only [rel] at hr ⊢;obtain ⟨vs,h1,h2⟩:=hr;exact ⟨vs,h1,juL cs vs (by simpa only [nu] using h) h2⟩
 | .elt cs off,_,h,_=>by simp [nu] at h
 | .fn f caps,_,h,_=>by simp [nu] at h
 | .tup cs,_,h,_=>by simp [nu] at h
 | .mp xs,_,h,_=>by simp [nu] at h
theorem juL:∀(cs:List A) (vs:List Value),nuL cs=true->jG w (λ_=>False) cs vs->jG w (λb=>b=jfb) cs vs
 | [],vs,_,hr=>by simpa [jG] using hr
 | c::cs,vs,h,hr=>by
  simp only [nuL,ju] at h;simp only [jG] at hr ⊢;obtain ⟨v,r,h1,h2,h3⟩:=hr;exact ⟨v,r,h1,jn4 c v h.1 h2,juL cs r h.2 h3⟩
theorem jg0 (b off:Nat):∀(cs:List A),nuL cs=true->yk w (λ_=>False) b off cs->yk w (λb=>b=jfb) b off cs
 | [],_,_=>by simp [yk]
 | c::cs,h,hr=>by
  simp only [nuL,ju] at h;simp only [yk] at hr ⊢;obtain ⟨⟨v,h1,h0,h2⟩,h3⟩:=hr;exact ⟨⟨v,h1,h0,jn4 c v h.1 h2⟩,jg0 b (off+1) cs h.2 h3⟩
theorem jjC (k b off:Nat):∀(xs:List (List A)),nuR xs=true->zv w (λ_=>False) k b off xs->zv w (λb=>b=jfb) k b off xs
 | [],_,_=>by simp [zv]
 | x::xs,h,hr=>by
  simp only [nuR,ju] at h;simp only [zv] at hr ⊢;obtain ⟨h1,h2,h3⟩:=hr;exact ⟨h1,jg0 b off x h.1.2 h2,jjC k b (off+k) xs h.2 h3⟩
end
end
theorem jeP {α:Type} {f:α->List A} (hf:∀x,(f x).isEmpty=false/\nuL (f x)=true):∀l:List α,nuR (l.map f)=true
 | []=>rfl
 | x::l=>by simp only [yH,nuR,(hf x).1,(hf x).2,jeP hf l];rfl
mutual
theorem jD2:∀t:T,(jm t).isEmpty=false/\nuL (jm t)=true
 | .mk n us=>by
  rw [zq];refine ⟨rfl,?_⟩;have:=jsS us;simp only [nuL,nu,T.args,this];rfl
theorem jsS:∀us:List T,nuR (us.map jm)=true
 | []=>rfl
 | u::us=>by simp only [yH,nuR,(jD2 u).1,(jD2 u).2,jsS us];rfl
end
theorem jhB (l:List Int):nu (ints l)=true:=by
 simp only [nu];exact jeP (λx=>⟨rfl,rfl⟩) l
theorem jnQ (c:kR):nuR (c.map jL)=true:=jeP (λl=>⟨rfl,by
 have:=jsS l.2.args;simp only [nuL,nu,this];rfl⟩) c
theorem jFx (l:List kR):nu (cls l)=true:=by
 simp only [nu];exact jeP (λc=>⟨rfl,by simp only [nuL,nu,jnQ c];rfl⟩) l
theorem jCn (l:List Stp):nu (Jd l)=true:=by
 simp only [nu];refine jeP (λs=>⟨rfl,?_⟩) l;have h1:=jhB s.par;have h2:=jhB s.whr;simp only [nu] at h1 h2;simp only [nuL,nu,jnQ s.cls,h1,h2];rfl
theorem jFz (s:Sch):nu (scm s)=true:=by
 have h1:=jFx s.prf.ax;have h2:=jCn s.prf.st;have h3:=jhB s.act;have h4:=jhB s.pas;simp only [nu] at h1 h2 h3 h4;simp only [nu,nuL,h1,h2,h3,h4];rfl
theorem jaY {w:World} {O:Nat->Prop} {l:List A} {cs:Array Value} (h:jG w O l (Value.agg cs).cells.toList):rel w O (.agg l) (.agg cs):=by
 simp only [rel];exact ⟨cs.toList,by simp,by simpa [Value.cells] using h⟩
abbrev lst:List (String × DataW Unit):=Rows.fnExactIsRedundantRow.laid
theorem jKF:(Tryz.prog.globals[jfb]?).map (·.type)=some 181:=by kernel_rfl
theorem jKG:Tryz.prog.underlying 181=some (.array 20 166):=by kernel_rfl
theorem jKE:Tryz.prog.underlying 166=some (.int .u64):=by kernel_rfl
theorem jFY {w:World} (h:laidMet Tryz.prog lst w):jks w:=by
 have h3:laidMet Tryz.prog [("internal/strconv.uint64pow10",Lib.tabData .u64 Lib.pow10Tab)] w:=by
  have e:(Rows.laid_internal_strconv_uint64pow10:DataW Unit)=Lib.tabData .u64 Lib.pow10Tab:=by kernel_rfl
  have:=h.tail.tail;rw [<-e];exact this
 exact Lib.tabIs_of_head jfc jKF jKG jKE (by kernel_rfl) (by kernel_rfl) h3
def intsIn (d:DataW Unit):Array Value:=match d with
 | .agg l=>(l.map λx=>match x with | .lit (.int k z)=>Value.int k z|_=> .int .i64 0).toArray
 | _=>#[]
def jFs (g:Nat) (d:DataW Unit) (h:Array Obj):Array Obj:=h.modify g λ
 | .cells _ t frozen=> .cells (intsIn d) t frozen
 | o=>o
noncomputable def jDZ (os:Os):World:=
 { World.holding Tryz.prog os ⟨#[],#[],[]⟩ with heap:=jFs 2 Rows.laid_math_bits_deBruijn64tab (jFs 1 Rows.laid_math_bits_deBruijn32tab (jFs 0 Rows.laid_internal_strconv_uint64pow10 (World.holding Tryz.prog os ⟨#[],#[],[]⟩).heap)) }
set_option maxRecDepth 100000 in
theorem jvI (os:Os) (args:Array Value):laidMetH Tryz.prog lst ((jDZ os).forCall (λ_ _=>0) ⟨#[],args,[]⟩).memory:=
 laidMetH_of_parts (laidMet_of_run' 8 (by kernel_rfl) (by kernel_rfl)) (by kernel_rfl)
end Go.Proofs.YtbidbdhamhbebaaGreatDoor
