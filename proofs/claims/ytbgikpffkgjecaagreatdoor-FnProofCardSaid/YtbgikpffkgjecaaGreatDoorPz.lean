/- Pz -/
import Derived.Test.YtbgikpffkgjecaaGreatDoorSn
import Derived.Shelf.Sort.Plain
import Derived.Shelf.Slices.In.SortNone
import Derived.Shelf.Strconv.Itoa3
import Derived.Shelf.SlSortCmp.NoneTotal
import Derived.Test.YtbgikpffkgjecaaGreatDoorE23
import Derived.Lib.LaidTab
import Derived.Test.YtbgikpffkgjecaaGreatDoorCards
import Derived.Test.YtbgikpffkgjecaaGreatDoorTie
import Derived.ProofKit
import Derived.SizedLaws
import Derived.LaidLaws
import Derived.LaidHandle
import Derived.Stop.LaidErr
import Derived.SevenTiedAt
import Derived.JoinedOf
import Derived.Lib.RowBridge
import Derived.Test.YtbgikpffkgjecaaGreatDoorPe
import Derived.Test.YtbgikpffkgjecaaGreatDoorPf
namespace Go.Proofs
open Go.Shelf
set_option linter.unusedSimpArgs false
set_option linter.unusedVariables false
def Tryz.lays190_ren:Go.Shelf.Ren:=⟨λ| 190=>172|125=>215|258=>214|128=>259|129=>260|302=>250|303=>251|304=>252|305=>253|306=>254|307=>255|308=>256|309=>257|310=>258|333=>287|329=>288|330=>289|334=>290|335=>291|336=>239|344=>305|n=>n,λ| 31=>60|9=>9|3=>3|46=>100|0=>0|51=>224|53=>42|4=>4|183=>217|182=>216|131=>30|5=>5|218=>247|222=>251|228=>262|229=>263|n=>n,λ| n=>n⟩
theorem Tryz.lays190:Go.Proofs.Lays.n190 Tryz.prog Tryz.lays190_ren:={
 mixed:=by kernel_rfl
 f125:=Tryz.func215.trans (congrArg some (by kernel_rfl))
 f128:=Tryz.func259.trans (congrArg some (by kernel_rfl))
 f129:=Tryz.func260.trans (congrArg some (by kernel_rfl))
 f190:=Tryz.func172.trans (congrArg some (by kernel_rfl))
 f258:=Tryz.func214.trans (congrArg some (by kernel_rfl))
 f302:=Tryz.func250.trans (congrArg some (by kernel_rfl))
 f303:=Tryz.func251.trans (congrArg some (by kernel_rfl))
 f304:=Tryz.func252.trans (congrArg some (by kernel_rfl))
 f305:=Tryz.func253.trans (congrArg some (by kernel_rfl))
 f306:=Tryz.func254.trans (congrArg some (by kernel_rfl))
 f307:=Tryz.func255.trans (congrArg some (by kernel_rfl))
 f308:=Tryz.func256.trans (congrArg some (by kernel_rfl))
 f309:=Tryz.func257.trans (congrArg some (by kernel_rfl))
 f310:=Tryz.func258.trans (congrArg some (by kernel_rfl))
 f329:=Tryz.func288.trans (congrArg some (by kernel_rfl))
 f330:=Tryz.func289.trans (congrArg some (by kernel_rfl))
 f333:=Tryz.func287.trans (congrArg some (by kernel_rfl))
 f334:=Tryz.func290.trans (congrArg some (by kernel_rfl))
 f335:=Tryz.func291.trans (congrArg some (by kernel_rfl))
 f336:=Tryz.func239.trans (congrArg some (by kernel_rfl))
 f344:=Tryz.func305.trans (congrArg some (by kernel_rfl))
 t0:=Tryz.underlying0
 a0:=Tryz.isAgg0
 z0:=Tryz.sizeOf0
 v0:=Tryz.zeroValue0
 t3:=Tryz.underlying3
 a3:=Tryz.isAgg3
 z3:=Tryz.sizeOf3
 v3:=Tryz.zeroValue3
 t4:=Tryz.underlying4
 a4:=Tryz.isAgg4
 z4:=Tryz.sizeOf4
 v4:=Tryz.zeroValue4
 t5:=Tryz.underlying5
 a5:=Tryz.isAgg5
 z5:=Tryz.sizeOf5
 v5:=Tryz.zeroValue5
 t9:=Tryz.underlying9
 a9:=Tryz.isAgg9
 z9:=Tryz.sizeOf9
 v9:=Tryz.zeroValue9
 t31:=Tryz.underlying60
 a31:=Tryz.isAgg60
 z31:=Tryz.sizeOf60
 v31:=Tryz.zeroValue60
 t46:=Tryz.underlying100
 a46:=Tryz.isAgg100
 z46:=Tryz.sizeOf100
 v46:=Tryz.zeroValue100
 t51:=Tryz.underlying224
 a51:=Tryz.isAgg224
 z51:=Tryz.sizeOf224
 v51:=Tryz.zeroValue224
 t53:=Tryz.underlying42
 a53:=Tryz.isAgg42
 z53:=Tryz.sizeOf42
 v53:=Tryz.zeroValue42
 t131:=Tryz.underlying30
 a131:=Tryz.isAgg30
 z131:=Tryz.sizeOf30
 v131:=Tryz.zeroValue30
 t182:=Tryz.underlying216
 a182:=Tryz.isAgg216
 z182:=Tryz.sizeOf216
 v182:=Tryz.zeroValue216
 t183:=Tryz.underlying217
 a183:=Tryz.isAgg217
 z183:=Tryz.sizeOf217
 v183:=Tryz.zeroValue217
 t218:=Tryz.underlying247
 a218:=Tryz.isAgg247
 z218:=Tryz.sizeOf247
 v218:=Tryz.zeroValue247
 t222:=Tryz.underlying251
 a222:=Tryz.isAgg251
 z222:=Tryz.sizeOf251
 v222:=Tryz.zeroValue251
 t228:=Tryz.underlying262
 a228:=Tryz.isAgg262
 z228:=Tryz.sizeOf262
 v228:=Tryz.zeroValue262
 t229:=Tryz.underlying263
 a229:=Tryz.isAgg263
 z229:=Tryz.sizeOf263
 v229:=Tryz.zeroValue263 }
def Tryz.laysIt_ren:Go.Shelf.Ren:=⟨λ| 171=>112|243=>159|246=>205|283=>241|284=>242|285=>243|286=>244|129=>260|317=>275|318=>276|319=>277|320=>278|337=>300|338=>301|n=>n,λ| 3=>3|9=>9|2=>2|4=>4|171=>205|0=>0|53=>42|37=>22|5=>5|173=>208|212=>240|51=>224|20=>20|213=>241|46=>100|232=>267|233=>268|n=>n,λ| 17=>0|18=>1|19=>2|n=>n⟩
theorem Tryz.laysIt:Go.Proofs.LaysM.n171 Tryz.prog Tryz.laysIt_ren:={
 mixed:=by kernel_rfl
 f129:=Tryz.func260.trans (congrArg some (by kernel_rfl))
 f171:=Tryz.func112.trans (congrArg some (by kernel_rfl))
 f243:=Tryz.func159.trans (congrArg some (by kernel_rfl))
 f246:=Tryz.func205.trans (congrArg some (by kernel_rfl))
 f283:=Tryz.func241.trans (congrArg some (by kernel_rfl))
 f284:=Tryz.func242.trans (congrArg some (by kernel_rfl))
 f285:=Tryz.func243.trans (congrArg some (by kernel_rfl))
 f286:=Tryz.func244.trans (congrArg some (by kernel_rfl))
 f317:=Tryz.func275.trans (congrArg some (by kernel_rfl))
 f318:=Tryz.func276.trans (congrArg some (by kernel_rfl))
 f319:=Tryz.func277.trans (congrArg some (by kernel_rfl))
 f320:=Tryz.func278.trans (congrArg some (by kernel_rfl))
 f337:=Tryz.func300.trans (congrArg some (by kernel_rfl))
 f338:=Tryz.func301.trans (congrArg some (by kernel_rfl))
 t0:=Tryz.underlying0
 a0:=Tryz.isAgg0
 z0:=Tryz.sizeOf0
 v0:=Tryz.zeroValue0
 t2:=Tryz.underlying2
 a2:=Tryz.isAgg2
 z2:=Tryz.sizeOf2
 v2:=Tryz.zeroValue2
 t3:=Tryz.underlying3
 a3:=Tryz.isAgg3
 z3:=Tryz.sizeOf3
 v3:=Tryz.zeroValue3
 t4:=Tryz.underlying4
 a4:=Tryz.isAgg4
 z4:=Tryz.sizeOf4
 v4:=Tryz.zeroValue4
 t5:=Tryz.underlying5
 a5:=Tryz.isAgg5
 z5:=Tryz.sizeOf5
 v5:=Tryz.zeroValue5
 t9:=Tryz.underlying9
 a9:=Tryz.isAgg9
 z9:=Tryz.sizeOf9
 v9:=Tryz.zeroValue9
 t20:=Tryz.underlying20
 a20:=Tryz.isAgg20
 z20:=Tryz.sizeOf20
 v20:=Tryz.zeroValue20
 t37:=Tryz.underlying22
 a37:=Tryz.isAgg22
 z37:=Tryz.sizeOf22
 v37:=Tryz.zeroValue22
 t46:=Tryz.underlying100
 a46:=Tryz.isAgg100
 z46:=Tryz.sizeOf100
 v46:=Tryz.zeroValue100
 t51:=Tryz.underlying224
 a51:=Tryz.isAgg224
 z51:=Tryz.sizeOf224
 v51:=Tryz.zeroValue224
 t53:=Tryz.underlying42
 a53:=Tryz.isAgg42
 z53:=Tryz.sizeOf42
 v53:=Tryz.zeroValue42
 t171:=Tryz.underlying205
 a171:=Tryz.isAgg205
 z171:=Tryz.sizeOf205
 v171:=Tryz.zeroValue205
 t173:=Tryz.underlying208
 a173:=Tryz.isAgg208
 z173:=Tryz.sizeOf208
 v173:=Tryz.zeroValue208
 t212:=Tryz.underlying240
 a212:=Tryz.isAgg240
 z212:=Tryz.sizeOf240
 v212:=Tryz.zeroValue240
 t213:=Tryz.underlying241
 a213:=Tryz.isAgg241
 z213:=Tryz.sizeOf241
 t232:=Tryz.underlying267
 a232:=Tryz.isAgg267
 z232:=Tryz.sizeOf267
 v232:=Tryz.zeroValue267
 t233:=Tryz.underlying268
 a233:=Tryz.isAgg268
 z233:=Tryz.sizeOf268
 v233:=Tryz.zeroValue268
 g17:=by kernel_rfl
 g18:=by kernel_rfl
 g19:=by kernel_rfl
 i0:=by kernel_rfl
 i2:=by kernel_rfl
 i3:=by kernel_rfl
 i4:=by kernel_rfl
 i5:=by kernel_rfl
 i9:=by kernel_rfl
 i20:=by kernel_rfl
 i37:=by kernel_rfl
 i46:=by kernel_rfl
 i51:=by kernel_rfl
 i53:=by kernel_rfl
 i171:=by kernel_rfl
 i173:=by kernel_rfl
 i212:=by kernel_rfl
 i232:=by kernel_rfl
 i233:=by kernel_rfl
 m17:=by kernel_rfl
 m18:=by kernel_rfl
 m19:=by kernel_rfl }
def Tryz.laysSL_ren:Go.Shelf.Ren:=⟨λ| 6=>222|15=>215|14=>267|28=>259|29=>260|20=>292|21=>293|22=>294|23=>295|24=>296|25=>297|26=>298|27=>299|46=>306|47=>288|48=>289|49=>307|50=>308|57=>310|n=>n,λ| 22=>36|24=>66|25=>115|3=>3|39=>100|0=>0|53=>224|55=>42|4=>4|46=>217|45=>216|50=>30|5=>5|9=>9|66=>247|70=>251|76=>262|77=>263|n=>n,λ| n=>n⟩
theorem Tryz.laysSL:Go.Proofs.SlLaysF0.n6 Tryz.prog Tryz.laysSL_ren:={
 mixed:=by kernel_rfl
 f6:=⟨"slices.SortFunc[[]loop.example/g00892/impl.Literal,loop.example/g00892/impl.Literal]",by decide,Tryz.func222.trans (congrArg some (by kernel_rfl))⟩
 f14:=⟨"slices.pdqsortCmpFunc[loop.example/g00892/impl.Literal]",by decide,Tryz.func267.trans (congrArg some (by kernel_rfl))⟩
 f15:=Tryz.func215.trans (congrArg some (by kernel_rfl))
 f20:=⟨"slices.insertionSortCmpFunc[loop.example/g00892/impl.Literal]",by decide,Tryz.func292.trans (congrArg some (by kernel_rfl))⟩
 f21:=⟨"slices.heapSortCmpFunc[loop.example/g00892/impl.Literal]",by decide,Tryz.func293.trans (congrArg some (by kernel_rfl))⟩
 f22:=⟨"slices.breakPatternsCmpFunc[loop.example/g00892/impl.Literal]",by decide,Tryz.func294.trans (congrArg some (by kernel_rfl))⟩
 f23:=⟨"slices.choosePivotCmpFunc[loop.example/g00892/impl.Literal]",by decide,Tryz.func295.trans (congrArg some (by kernel_rfl))⟩
 f24:=⟨"slices.reverseRangeCmpFunc[loop.example/g00892/impl.Literal]",by decide,Tryz.func296.trans (congrArg some (by kernel_rfl))⟩
 f25:=⟨"slices.partialInsertionSortCmpFunc[loop.example/g00892/impl.Literal]",by decide,Tryz.func297.trans (congrArg some (by kernel_rfl))⟩
 f26:=⟨"slices.partitionEqualCmpFunc[loop.example/g00892/impl.Literal]",by decide,Tryz.func298.trans (congrArg some (by kernel_rfl))⟩
 f27:=⟨"slices.partitionCmpFunc[loop.example/g00892/impl.Literal]",by decide,Tryz.func299.trans (congrArg some (by kernel_rfl))⟩
 f28:=Tryz.func259.trans (congrArg some (by kernel_rfl))
 f29:=Tryz.func260.trans (congrArg some (by kernel_rfl))
 f46:=⟨"slices.siftDownCmpFunc[loop.example/g00892/impl.Literal]",by decide,Tryz.func306.trans (congrArg some (by kernel_rfl))⟩
 f47:=Tryz.func288.trans (congrArg some (by kernel_rfl))
 f48:=Tryz.func289.trans (congrArg some (by kernel_rfl))
 f49:=⟨"slices.medianAdjacentCmpFunc[loop.example/g00892/impl.Literal]",by decide,Tryz.func307.trans (congrArg some (by kernel_rfl))⟩
 f50:=⟨"slices.medianCmpFunc[loop.example/g00892/impl.Literal]",by decide,Tryz.func308.trans (congrArg some (by kernel_rfl))⟩
 f57:=⟨"slices.order2CmpFunc[loop.example/g00892/impl.Literal]",by decide,Tryz.func310.trans (congrArg some (by kernel_rfl))⟩
 t0:=Tryz.underlying0
 a0:=Tryz.isAgg0
 z0:=Tryz.sizeOf0
 v0:=Tryz.zeroValue0
 t3:=Tryz.underlying3
 a3:=Tryz.isAgg3
 z3:=Tryz.sizeOf3
 v3:=Tryz.zeroValue3
 t4:=Tryz.underlying4
 a4:=Tryz.isAgg4
 z4:=Tryz.sizeOf4
 v4:=Tryz.zeroValue4
 t5:=Tryz.underlying5
 a5:=Tryz.isAgg5
 z5:=Tryz.sizeOf5
 v5:=Tryz.zeroValue5
 t9:=Tryz.underlying9
 a9:=Tryz.isAgg9
 z9:=Tryz.sizeOf9
 v9:=Tryz.zeroValue9
 t22:=Tryz.underlying36
 a22:=Tryz.isAgg36
 z22:=Tryz.sizeOf36
 v22:=Tryz.zeroValue36
 t25:=Tryz.underlying115
 a25:=Tryz.isAgg115
 z25:=Tryz.sizeOf115
 v25:=Tryz.zeroValue115
 t39:=Tryz.underlying100
 a39:=Tryz.isAgg100
 z39:=Tryz.sizeOf100
 v39:=Tryz.zeroValue100
 t45:=Tryz.underlying216
 a45:=Tryz.isAgg216
 z45:=Tryz.sizeOf216
 v45:=Tryz.zeroValue216
 t46:=Tryz.underlying217
 a46:=Tryz.isAgg217
 z46:=Tryz.sizeOf217
 v46:=Tryz.zeroValue217
 t50:=Tryz.underlying30
 a50:=Tryz.isAgg30
 z50:=Tryz.sizeOf30
 v50:=Tryz.zeroValue30
 t53:=Tryz.underlying224
 a53:=Tryz.isAgg224
 z53:=Tryz.sizeOf224
 v53:=Tryz.zeroValue224
 t55:=Tryz.underlying42
 a55:=Tryz.isAgg42
 z55:=Tryz.sizeOf42
 v55:=Tryz.zeroValue42
 t66:=Tryz.underlying247
 a66:=Tryz.isAgg247
 z66:=Tryz.sizeOf247
 v66:=Tryz.zeroValue247
 t70:=Tryz.underlying251
 a70:=Tryz.isAgg251
 z70:=Tryz.sizeOf251
 v70:=Tryz.zeroValue251
 t76:=Tryz.underlying262
 a76:=Tryz.isAgg262
 z76:=Tryz.sizeOf262
 v76:=Tryz.zeroValue262
 t77:=Tryz.underlying263
 a77:=Tryz.isAgg263
 z77:=Tryz.sizeOf263
 v77:=Tryz.zeroValue263 }
def Tryz.laysSB_ren:Go.Shelf.Ren:=⟨λ| 6=>212|15=>215|14=>249|28=>259|29=>260|20=>279|21=>280|22=>281|23=>282|24=>283|25=>284|26=>285|27=>286|46=>302|47=>288|48=>289|49=>303|50=>304|57=>309|n=>n,λ| 22=>107|24=>143|25=>190|3=>3|39=>100|0=>0|53=>224|55=>42|4=>4|46=>217|45=>216|50=>30|5=>5|9=>9|66=>247|70=>251|76=>262|77=>263|n=>n,λ| n=>n⟩
theorem Tryz.laysSB:Go.Proofs.SlLaysF0.n6 Tryz.prog Tryz.laysSB_ren:={
 mixed:=by kernel_rfl
 f6:=⟨"slices.SortFunc[[]loop.example/g00892/impl.Binding,loop.example/g00892/impl.Binding]",by decide,Tryz.func212.trans (congrArg some (by kernel_rfl))⟩
 f14:=⟨"slices.pdqsortCmpFunc[loop.example/g00892/impl.Binding]",by decide,Tryz.func249.trans (congrArg some (by kernel_rfl))⟩
 f15:=Tryz.func215.trans (congrArg some (by kernel_rfl))
 f20:=⟨"slices.insertionSortCmpFunc[loop.example/g00892/impl.Binding]",by decide,Tryz.func279.trans (congrArg some (by kernel_rfl))⟩
 f21:=⟨"slices.heapSortCmpFunc[loop.example/g00892/impl.Binding]",by decide,Tryz.func280.trans (congrArg some (by kernel_rfl))⟩
 f22:=⟨"slices.breakPatternsCmpFunc[loop.example/g00892/impl.Binding]",by decide,Tryz.func281.trans (congrArg some (by kernel_rfl))⟩
 f23:=⟨"slices.choosePivotCmpFunc[loop.example/g00892/impl.Binding]",by decide,Tryz.func282.trans (congrArg some (by kernel_rfl))⟩
 f24:=⟨"slices.reverseRangeCmpFunc[loop.example/g00892/impl.Binding]",by decide,Tryz.func283.trans (congrArg some (by kernel_rfl))⟩
 f25:=⟨"slices.partialInsertionSortCmpFunc[loop.example/g00892/impl.Binding]",by decide,Tryz.func284.trans (congrArg some (by kernel_rfl))⟩
 f26:=⟨"slices.partitionEqualCmpFunc[loop.example/g00892/impl.Binding]",by decide,Tryz.func285.trans (congrArg some (by kernel_rfl))⟩
 f27:=⟨"slices.partitionCmpFunc[loop.example/g00892/impl.Binding]",by decide,Tryz.func286.trans (congrArg some (by kernel_rfl))⟩
 f28:=Tryz.func259.trans (congrArg some (by kernel_rfl))
 f29:=Tryz.func260.trans (congrArg some (by kernel_rfl))
 f46:=⟨"slices.siftDownCmpFunc[loop.example/g00892/impl.Binding]",by decide,Tryz.func302.trans (congrArg some (by kernel_rfl))⟩
 f47:=Tryz.func288.trans (congrArg some (by kernel_rfl))
 f48:=Tryz.func289.trans (congrArg some (by kernel_rfl))
 f49:=⟨"slices.medianAdjacentCmpFunc[loop.example/g00892/impl.Binding]",by decide,Tryz.func303.trans (congrArg some (by kernel_rfl))⟩
 f50:=⟨"slices.medianCmpFunc[loop.example/g00892/impl.Binding]",by decide,Tryz.func304.trans (congrArg some (by kernel_rfl))⟩
 f57:=⟨"slices.order2CmpFunc[loop.example/g00892/impl.Binding]",by decide,Tryz.func309.trans (congrArg some (by kernel_rfl))⟩
 t0:=Tryz.underlying0
 a0:=Tryz.isAgg0
 z0:=Tryz.sizeOf0
 v0:=Tryz.zeroValue0
 t3:=Tryz.underlying3
 a3:=Tryz.isAgg3
 z3:=Tryz.sizeOf3
 v3:=Tryz.zeroValue3
 t4:=Tryz.underlying4
 a4:=Tryz.isAgg4
 z4:=Tryz.sizeOf4
 v4:=Tryz.zeroValue4
 t5:=Tryz.underlying5
 a5:=Tryz.isAgg5
 z5:=Tryz.sizeOf5
 v5:=Tryz.zeroValue5
 t9:=Tryz.underlying9
 a9:=Tryz.isAgg9
 z9:=Tryz.sizeOf9
 v9:=Tryz.zeroValue9
 t22:=Tryz.underlying107
 a22:=Tryz.isAgg107
 z22:=Tryz.sizeOf107
 v22:=Tryz.zeroValue107
 t25:=Tryz.underlying190
 a25:=Tryz.isAgg190
 z25:=Tryz.sizeOf190
 v25:=Tryz.zeroValue190
 t39:=Tryz.underlying100
 a39:=Tryz.isAgg100
 z39:=Tryz.sizeOf100
 v39:=Tryz.zeroValue100
 t45:=Tryz.underlying216
 a45:=Tryz.isAgg216
 z45:=Tryz.sizeOf216
 v45:=Tryz.zeroValue216
 t46:=Tryz.underlying217
 a46:=Tryz.isAgg217
 z46:=Tryz.sizeOf217
 v46:=Tryz.zeroValue217
 t50:=Tryz.underlying30
 a50:=Tryz.isAgg30
 z50:=Tryz.sizeOf30
 v50:=Tryz.zeroValue30
 t53:=Tryz.underlying224
 a53:=Tryz.isAgg224
 z53:=Tryz.sizeOf224
 v53:=Tryz.zeroValue224
 t55:=Tryz.underlying42
 a55:=Tryz.isAgg42
 z55:=Tryz.sizeOf42
 v55:=Tryz.zeroValue42
 t66:=Tryz.underlying247
 a66:=Tryz.isAgg247
 z66:=Tryz.sizeOf247
 v66:=Tryz.zeroValue247
 t70:=Tryz.underlying251
 a70:=Tryz.isAgg251
 z70:=Tryz.sizeOf251
 v70:=Tryz.zeroValue251
 t76:=Tryz.underlying262
 a76:=Tryz.isAgg262
 z76:=Tryz.sizeOf262
 v76:=Tryz.zeroValue262
 t77:=Tryz.underlying263
 a77:=Tryz.isAgg263
 z77:=Tryz.sizeOf263
 v77:=Tryz.zeroValue263 }
end Go.Proofs
namespace Go.Proofs.YtbgikpffkgjecaaGreatDoor
open Go Go.RowKit Go.Sort Go.Proofs.YtbgikpffkgjecaaGreatDoor.Abs
set_option linter.unusedSimpArgs false
set_option linter.unusedVariables false
theorem jrg:Tryz.lays190_ren.f 190=172:=by kernel_rfl
theorem jtD (blk off cap:Nat) (ss:List (List UInt8)) (w:World) (hH:Holds encStr w blk off ss.toArray) (hblk:blk < w.heap.size) (hsz:ss.length < 4611686018427387904) :
  Calls Tryz.prog 172 #[.slice (some ⟨blk,off,none⟩) ss.length cap] w λe w'=>e = .returned (.tuple #[])/\ ∃n os,w'=Sort.grow (putRow encStr (Sort.ahead w n) blk off (ss.mergeSort λx y=>decide (x<=y)).toArray) os:=by
 have:=Any.slices_Sort_string Tryz.lays190 blk off cap ss w hH hblk hsz;rw [jrg] at this;exact this
theorem jre (p:Option Addr) (cap:Nat) (w:World):Calls Tryz.prog 172 #[.slice p 0 cap] w λe w'=>e = .returned (.tuple #[])/\w'=w:=by
 have:=Any.slices_Sort_string_none Tryz.lays190 p cap w;rw [jrg] at this;exact this
theorem jrf:Enters Tryz.prog 172:=
 Yv Tryz.func172 (jhU.names _ _ Tryz.func172) (Zl rfl)
theorem jBl:Tryz.laysSL_ren.f 6=222:=by kernel_rfl
theorem jFp:Tryz.laysSL_ren.t 24=66:=by kernel_rfl
theorem jJb:jFF Tryz.prog 222 3:=by
 intro m enc hk h1 cf hO g cb blk off cap d w eg hcmp hH hblk hsz;have:=AnyQ.slices_SortFunc_eq Tryz.laysSL 3 (by rw [jFp];exact Tryz.isAgg66) (by rw [jFp];exact Tryz.sizeOf66) enc hk h1 cf hO g cb blk off cap d w eg hcmp hH hblk hsz;rw [jBl] at this;exact this
theorem jD6 (p:Option Addr) (cap:Nat) (fv:Value) (w:World):Calls Tryz.prog 222 #[.slice p 0 cap,fv] w λe w'=>e = .returned (.tuple #[])/\w'=w:=by
 have:=AnyF.slices_SortFunc_none Tryz.laysSL p cap fv w;rw [jBl] at this;exact this
theorem jxa:Enters Tryz.prog 222:=
 Yv Tryz.func222 (jhU.names _ _ Tryz.func222) (Zl rfl)
theorem jBg:Tryz.laysSB_ren.f 6=212:=by kernel_rfl
theorem jFm:Tryz.laysSB_ren.t 24=143:=by kernel_rfl
theorem jI9:jFF Tryz.prog 212 3:=by
 intro m enc hk h1 cf hO g cb blk off cap d w eg hcmp hH hblk hsz;have:=AnyQ.slices_SortFunc_eq Tryz.laysSB 3 (by rw [jFm];exact Tryz.isAgg143) (by rw [jFm];exact Tryz.sizeOf143) enc hk h1 cf hO g cb blk off cap d w eg hcmp hH hblk hsz;rw [jBg] at this;exact this
theorem jD3 (p:Option Addr) (cap:Nat) (fv:Value) (w:World):Calls Tryz.prog 212 #[.slice p 0 cap,fv] w λe w'=>e = .returned (.tuple #[])/\w'=w:=by
 have:=AnyF.slices_SortFunc_none Tryz.laysSB p cap fv w;rw [jBg] at this;exact this
theorem jw5:Enters Tryz.prog 212:=
 Yv Tryz.func212 (jhU.names _ _ Tryz.func212) (Zl rfl)
theorem jFx {X:Ctx} (f:FuncId) (x:ExtV) (args:List V) (objs:List Abs.Obj) (sgs:Sig) (sg:SigA) (qs:List (FuncId × List A)) (outs:List Out) (out:Out) (h1:K.extv f=some x) (h2:K.sig f=some sgs) (h3:ja6 objs.length sgs=some sg) (hq:x.ask args objs=some qs) (hok:joG X K.P qs outs) (h4:x.ans args objs outs=some out):SOk X K.P f args objs sg out:=by
 have one:∀ {s s':SigA} {n:Nat},ja6 n [s]=some s'->s'=s:=by
  intro s s' n h;simp only [ja6] at h;split at h
  ·exact (jbf h).symm
  ·cases h
 have h1:YG none f jsK=some x:=h1;unfold jsK at h1;simp only [YG] at h1;cases hb:Nat.beq f 172 with
 | true=>
  rw [hb] at h1;have hf:=zw hb;subst hf;cases h1;have h2:some [jaX]=some sgs:=h2;cases h2;rw [one h3];exact jBn jrf jtD jre h4
 | false=>
  rw [hb] at h1;cases hb:Nat.beq f 222 with
  | true=>
   rw [hb] at h1;have hf:=zw hb;subst hf;cases h1;have h2:some [jci 3]=some sgs:=h2;cases h2;rw [one h3];exact jBj jxa jJb (by decide) rfl jD6 hq hok h4
  | false=>
   rw [hb] at h1;cases hb:Nat.beq f 212 with
   | true=>
    rw [hb] at h1;have hf:=zw hb;subst hf;cases h1;have h2:some [jci 3]=some sgs:=h2;cases h2;rw [one h3];exact jBj jw5 jI9 (by decide) rfl jD3 hq hok h4
   | false=>rw [hb] at h1;cases h1
def jfi:Nat:=0
theorem jfj:Tryz.prog.globalNamed "internal/strconv.uint64pow10" = some jfi:=by kernel_rfl
def jkr (w:World):Prop:=Lib.TabIs Tryz.prog w "internal/strconv.uint64pow10" .u64 Lib.pow10Tab
theorem jrl {w w':World} (h:w'.heap[jfi]? = w.heap[jfi]?) (hw:jkr w):jkr w':=by
 unfold jkr Lib.TabIs World.var? at *;rw [jfj] at *;simp only [yy] at *;rw [h];exact hw
theorem jEc {w:World} (hw:jkr w):jfi < w.heap.size:=by
 unfold jkr Lib.TabIs World.var? at hw;rw [jfj] at hw;simp only [yy] at hw;rcases ja3 jfi w.heap.size with h|h
 ·exact h
 ·rw [jkg h] at hw;simp at hw
theorem jxl {w:World} (hw:jkr w) {off:Nat} {v:Value} (h:w.cell? ⟨jfi,off,none⟩=some v):∃z,v = .int .u64 z:=by
 by_cases hi:off < Lib.pow10Tab.length
 ·have:=Lib.TabIs.cell hw jfj off hi;rw [h] at this;exact ⟨_,jbf this⟩
 ·have:=World.var?_cell jfj hw off;rw [h] at this;have h2:(Lib.pow10Tab.map λz=>Value.int IntKind.u64 z).toArray[off]? = none:=jkg (by simp;omega);simp [h2] at this
def Xt:Ctx:=⟨jkr,λb=>b=jfi,λ_ _ h hw=>jrl (h jfi rfl) hw⟩
theorem jy1:Tryz.laysIt_ren.f 171=112:=by kernel_rfl
theorem jpJ:Enters Tryz.prog 112:=
 Yv Tryz.func112 (jhU.names _ _ Tryz.func112) (Zl rfl)
theorem jDn (args:List A) (out:Out) (h:juZ args=some out):jas Xt Tryz.prog 112 args out:=by
 unfold juZ at h;split at h;rotate_left
 ·cases h
 rename_i n;split at h;rotate_left
 ·cases h
 rename_i hn;cases h;refine ⟨jpJ,λw O vs hj _ _ hrel=> ?_⟩;simp only [jS,rel] at hrel;obtain ⟨v,r,rfl,rfl,rfl⟩:=hrel;have:=Any.strconv_Itoa Tryz.laysIt n hn.1 hn.2 w hj;rw [jy1] at this;refine this.mono ?_;rintro e w' ⟨rfl,k,os,rfl⟩;refine ⟨_,rfl,?_,?_⟩
 ·refine ⟨rfl,rfl,⟨rfl,?_⟩,?_,λb hb=> ?_⟩
  ·simp [grow,World.drewN]
  ·simp [grow,World.drewN]
  ·simp only [grow,World.drewN];rw [jgu hb]
 ·simp only [rel]
theorem jJS {f:FuncId} {args:List A} {out:Out} (hs:K.pureF f=true) (h:G f args=some out):jas Xt Tryz.prog f args out:=by
 refine jHy jhU (λf x args out h h2=> ?_) jFx f args out hs h;have h:YG none f jnm=some x:=h;unfold jnm at h;simp only [YG] at h;cases hb:Nat.beq f 112 with
 | true=>
  rw [hb] at h;have hf:=zw hb;subst hf;cases h;exact jDn args out h2
 | false=>rw [hb] at h;cases h
open Go Go.ChangeShapes Go.WideShapes Go.ChangeAt Go.RowKit Go.Proofs.YtbgikpffkgjecaaGreatDoor.Abs
theorem Tryz.ownK:ownKnob Tryz.prog.godebug=none:=by kernel_rfl
theorem Tryz.laidO:laidOutB Tryz.prog=true:=by kernel_rfl
set_option linter.unusedSectionVars false
theorem jBh:laidOutB Tryz.pinned.checked.prog=true:=by kernel_rfl
theorem jw8:mapsRowed Tryz.pinned.checked.prog=true:=by kernel_rfl
theorem jD4:false=Tryz.pinned.checked.prog.looks []:=by kernel_rfl
mutual
def nu:A->Bool
 | .val (.int .u64 _)=>false
 | .val _=>true
 | .sl _ xs=>nuR xs
 | .agg cs=>nuL cs
 | _=>false
def nuR:List (List A)->Bool
 | []=>true
 | x::xs=>(!x.isEmpty && nuL x) && nuR xs
def nuL:List A->Bool
 | []=>true
 | c::cs=>nu c && nuL cs
end
theorem jGK {w:World} {O:Nat->Prop} {c:A} {z:Int} (h:nu c=true) (hr:rel w O c (.int .u64 z)):False:=by
 cases c with
 | top=>simp [nu] at h
 | val v=>simp only [rel] at hr;rw [<-hr] at h;simp [nu] at h
 | sl k xs=>simp only [rel] at hr;obtain ⟨a,cap,h1,_⟩:=hr;cases h1
 | agg cs=>simp only [rel] at hr;obtain ⟨vs,h1,_⟩:=hr;cases h1
 | elt cs off=>simp [nu] at h
 | fn f cs=>simp [nu] at h
 | tup cs=>simp [nu] at h
 | mp xs=>simp [nu] at h
section
variable {w:World} (hJ:jkr w)
include hJ
mutual
theorem jtm:∀(a:A) (v:Value),nu a=true->rel w (λ_=>False) a v->rel w (λb=>b=jfi) a v
 | .top,_,h,_=>by simp [nu] at h
 | .val x,v,_,hr=>by simpa [rel] using hr
 | .sl k xs,v,h,hr=>by
  simp only [rel] at hr ⊢;obtain ⟨a,cap,h1,h2,h3,h4⟩:=hr;refine ⟨a,cap,h1,h2,h3,?_⟩;rcases h4 with h4|⟨b,off,h5,h6,h7,h8⟩
  ·exact Or.inl h4
  ·have hn:nuR xs=true:=by simpa only [nu] using h
   match xs,hn,h8 with
   | [],_,_=>exact Or.inl rfl
   | x::xs,hn,h8=>
    refine Or.inr ⟨b,off,h5,h6,λhb=> ?_,jjG k b off (x::xs) hn h8⟩;subst hb;simp only [nuR,jy] at hn;simp only [zG] at h8
    match x,hn.1,h8.2.1 with
    | [],hx,_=>simp at hx
    | c::cs,hx,h9=>
     simp only [nuL,jy] at hx;simp only [yr] at h9;obtain ⟨⟨v',e1,_,e2⟩,_⟩:=h9;obtain ⟨z,rfl⟩:=jxl hJ e1;exact jGK hx.2.1 e2
 | .agg cs,v,h,hr=>by
  simp only [rel] at hr ⊢;obtain ⟨vs,h1,h2⟩:=hr;exact ⟨vs,h1,jvs cs vs (by simpa only [nu] using h) h2⟩
 | .elt cs off,_,h,_=>by simp [nu] at h
 | .fn f caps,_,h,_=>by simp [nu] at h
 | .tup cs,_,h,_=>by simp [nu] at h
 | .mp xs,_,h,_=>by simp [nu] at h
theorem jvs:∀(cs:List A) (vs:List Value),nuL cs=true->jS w (λ_=>False) cs vs->jS w (λb=>b=jfi) cs vs
 | [],vs,_,hr=>by simpa [jS] using hr
 | c::cs,vs,h,hr=>by
  simp only [nuL,jy] at h;simp only [jS] at hr ⊢;obtain ⟨v,r,h1,h2,h3⟩:=hr;exact ⟨v,r,h1,jtm c v h.1 h2,jvs cs r h.2 h3⟩
theorem jgZ (b off:Nat):∀(cs:List A),nuL cs=true->yr w (λ_=>False) b off cs->yr w (λb=>b=jfi) b off cs
 | [],_,_=>by simp [yr]
 | c::cs,h,hr=>by
  simp only [nuL,jy] at h;simp only [yr] at hr ⊢;obtain ⟨⟨v,h1,h0,h2⟩,h3⟩:=hr;exact ⟨⟨v,h1,h0,jtm c v h.1 h2⟩,jgZ b (off+1) cs h.2 h3⟩
theorem jjG (k b off:Nat):∀(xs:List (List A)),nuR xs=true->zG w (λ_=>False) k b off xs->zG w (λb=>b=jfi) k b off xs
 | [],_,_=>by simp [zG]
 | x::xs,h,hr=>by
  simp only [nuR,jy] at h;simp only [zG] at hr ⊢;obtain ⟨h1,h2,h3⟩:=hr;exact ⟨h1,jgZ b off x h.1.2 h2,jjG k b (off+k) xs h.2 h3⟩
end
end
theorem jvd {α:Type} {f:α->List A} (hf:∀x,(f x).isEmpty=false/\nuL (f x)=true):∀l:List α,nuR (l.map f)=true
 | []=>rfl
 | x::l=>by simp only [zf,nuR,(hf x).1,(hf x).2,jvd hf l];rfl
mutual
theorem jFi:∀t:T,(jo t).isEmpty=false/\nuL (jo t)=true
 | .mk n us=>by
  rw [kG];refine ⟨rfl,?_⟩;have:=jAm us;simp only [nuL,nu,T.args,this];rfl
theorem jAm:∀us:List T,nuR (us.map jo)=true
 | []=>rfl
 | u::us=>by simp only [zf,nuR,(jFi u).1,(jFi u).2,jAm us];rfl
end
abbrev lst:List (String × DataW Unit):=Rows.fnProofRow.laid
theorem jMl:(Tryz.prog.globals[jfi]?).map (·.type)=some 240:=by kernel_rfl
theorem jMm:Tryz.prog.underlying 240=some (.array 20 42):=by kernel_rfl
theorem jMk:Tryz.prog.underlying 42=some (.int .u64):=by kernel_rfl
theorem jHa {w:World} (h:laidMet Tryz.prog lst w):jkr w:=by
 have h3:laidMet Tryz.prog [("internal/strconv.uint64pow10",Lib.tabData .u64 Lib.pow10Tab)] w:=by
  have e:(Rows.laid_internal_strconv_uint64pow10:DataW Unit)=Lib.tabData .u64 Lib.pow10Tab:=by kernel_rfl
  have:=h.tail.tail;rw [<-e];exact this
 exact Lib.tabIs_of_head jfj jMl jMm jMk (by kernel_rfl) (by kernel_rfl) h3
def intsIn (d:DataW Unit):Array Value:=match d with
 | .agg l=>(l.map λx=>match x with | .lit (.int k z)=>Value.int k z|_=> .int .i64 0).toArray
 | _=>#[]
def jGF (g:Nat) (d:DataW Unit) (h:Array Obj):Array Obj:=h.modify g λ
 | .cells _ t frozen=> .cells (intsIn d) t frozen
 | o=>o
noncomputable def jFe (os:Os):World:=
 { World.holding Tryz.prog os ⟨#[],#[],[]⟩ with heap:=jGF 2 Rows.laid_math_bits_deBruijn64tab (jGF 1 Rows.laid_math_bits_deBruijn32tab (jGF 0 Rows.laid_internal_strconv_uint64pow10 (World.holding Tryz.prog os ⟨#[],#[],[]⟩).heap)) }
set_option maxRecDepth 100000 in
theorem jwr (os:Os) (args:Array Value):laidMetH Tryz.prog lst ((jFe os).forCall (λ_ _=>0) ⟨#[],args,[]⟩).memory:=
 laidMetH_of_parts (laidMet_of_run' 8 (by kernel_rfl) (by kernel_rfl)) (by kernel_rfl)
open Go Go.ChangeShapes Go.WideShapes Go.ChangeAt Go.RowKit Go.Deep Go.Proofs.YtbgikpffkgjecaaGreatDoor.Abs
theorem jJm {n:Int} (h:(Lit.int .u8 n).wf=true):0<=n/\n<=255:=by
 have h1:IntKind.u8.min=0:=rfl;have h2:IntKind.u8.max=255:=rfl;simp [Lit.wf,h1,h2] at h;exact h
theorem jDQ:Rdr Tryz.prog 5 cy (λn=>0<=n/\n<=255):=by
 intro H enc w base spare held fuel cs x h;obtain ⟨n,rfl,_,hw⟩:=DataW.trod_int Tryz.underlying5 h;exact ⟨n,jJm hw,by simp [jS,rel],by simp [jJ,Value.oneCell']⟩
theorem jAY:Rdr Tryz.prog 22 (λl:List Int=>[zq l]) (λl=>(∀n∈l,0<=n/\n<=255)/\l.length<=9223372036854775807):=
 Rdr.slice Tryz.underlying22 (by kernel_rfl) (by decide) (λ_=>rfl) jDQ
theorem jGJ (code:List Int):nu (zq code)=true:=by
 simp only [nu];exact jvd (λx=>⟨rfl,rfl⟩) code
end Go.Proofs.YtbgikpffkgjecaaGreatDoor
