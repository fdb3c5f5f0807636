/- Pz -/
import Derived.Test.YtjgmjdidbgcljaaGreatDoorSn
import Derived.Shelf.Sort.Plain
import Derived.Shelf.Slices.In.SortNone
import Derived.Shelf.Strconv.Itoa3
import Derived.Shelf.SlSortCmp.NoneTotal
import Derived.Test.YtjgmjdidbgcljaaGreatDoorE23
import Derived.Lib.LaidTab
import Derived.Test.YtjgmjdidbgcljaaGreatDoorCards
import Derived.Test.YtjgmjdidbgcljaaGreatDoorTie
import Derived.ProofKit
import Derived.SizedLaws
import Derived.LaidLaws
import Derived.LaidHandle
import Derived.Stop.LaidErr
import Derived.SevenTiedAt
import Derived.JoinedOf
import Derived.Lib.RowBridge
import Derived.Test.YtjgmjdidbgcljaaGreatDoorPd
namespace Go.Proofs
open Go.Shelf
set_option linter.unusedSimpArgs false
set_option linter.unusedVariables false
def Tryz.lays190_ren:Go.Shelf.Ren:=⟨λ|190=>104|125=>149|258=>148|128=>201|129=>202|302=>192|303=>193|304=>194|305=>195|306=>196|307=>197|308=>198|309=>199|310=>200|333=>228|329=>229|330=>230|334=>231|335=>232|336=>187|344=>249|n=>n,λ|31=>66|9=>9|3=>3|46=>109|0=>0|51=>186|53=>38|4=>4|183=>179|182=>178|131=>104|5=>5|218=>207|222=>211|228=>223|229=>224|n=>n,λ|n=>n⟩
theorem Tryz.lays190:Go.Proofs.Lays.n190 Tryz.prog Tryz.lays190_ren:={
 mixed:=by kernel_rfl
 f125:=Tryz.func149.trans (congrArg some (by kernel_rfl))
 f128:=Tryz.func201.trans (congrArg some (by kernel_rfl))
 f129:=Tryz.func202.trans (congrArg some (by kernel_rfl))
 f190:=Tryz.func104.trans (congrArg some (by kernel_rfl))
 f258:=Tryz.func148.trans (congrArg some (by kernel_rfl))
 f302:=Tryz.func192.trans (congrArg some (by kernel_rfl))
 f303:=Tryz.func193.trans (congrArg some (by kernel_rfl))
 f304:=Tryz.func194.trans (congrArg some (by kernel_rfl))
 f305:=Tryz.func195.trans (congrArg some (by kernel_rfl))
 f306:=Tryz.func196.trans (congrArg some (by kernel_rfl))
 f307:=Tryz.func197.trans (congrArg some (by kernel_rfl))
 f308:=Tryz.func198.trans (congrArg some (by kernel_rfl))
 f309:=Tryz.func199.trans (congrArg some (by kernel_rfl))
 f310:=Tryz.func200.trans (congrArg some (by kernel_rfl))
 f329:=Tryz.func229.trans (congrArg some (by kernel_rfl))
 f330:=Tryz.func230.trans (congrArg some (by kernel_rfl))
 f333:=Tryz.func228.trans (congrArg some (by kernel_rfl))
 f334:=Tryz.func231.trans (congrArg some (by kernel_rfl))
 f335:=Tryz.func232.trans (congrArg some (by kernel_rfl))
 f336:=Tryz.func187.trans (congrArg some (by kernel_rfl))
 f344:=Tryz.func249.trans (congrArg some (by kernel_rfl))
 t0:=Tryz.underlying0
 a0:=Tryz.isAgg0
 z0:=Tryz.sizeOf0
 v0:=Tryz.zeroValue0
 t3:=Tryz.underlying3
 a3:=Tryz.isAgg3
 z3:=Tryz.sizeOf3
 v3:=Tryz.zeroValue3
 t4:=Tryz.underlying4
 a4:=Tryz.isAgg4
 z4:=Tryz.sizeOf4
 v4:=Tryz.zeroValue4
 t5:=Tryz.underlying5
 a5:=Tryz.isAgg5
 z5:=Tryz.sizeOf5
 v5:=Tryz.zeroValue5
 t9:=Tryz.underlying9
 a9:=Tryz.isAgg9
 z9:=Tryz.sizeOf9
 v9:=Tryz.zeroValue9
 t31:=Tryz.underlying66
 a31:=Tryz.isAgg66
 z31:=Tryz.sizeOf66
 v31:=Tryz.zeroValue66
 t46:=Tryz.underlying109
 a46:=Tryz.isAgg109
 z46:=Tryz.sizeOf109
 v46:=Tryz.zeroValue109
 t51:=Tryz.underlying186
 a51:=Tryz.isAgg186
 z51:=Tryz.sizeOf186
 v51:=Tryz.zeroValue186
 t53:=Tryz.underlying38
 a53:=Tryz.isAgg38
 z53:=Tryz.sizeOf38
 v53:=Tryz.zeroValue38
 t131:=Tryz.underlying104
 a131:=Tryz.isAgg104
 z131:=Tryz.sizeOf104
 v131:=Tryz.zeroValue104
 t182:=Tryz.underlying178
 a182:=Tryz.isAgg178
 z182:=Tryz.sizeOf178
 v182:=Tryz.zeroValue178
 t183:=Tryz.underlying179
 a183:=Tryz.isAgg179
 z183:=Tryz.sizeOf179
 v183:=Tryz.zeroValue179
 t218:=Tryz.underlying207
 a218:=Tryz.isAgg207
 z218:=Tryz.sizeOf207
 v218:=Tryz.zeroValue207
 t222:=Tryz.underlying211
 a222:=Tryz.isAgg211
 z222:=Tryz.sizeOf211
 v222:=Tryz.zeroValue211
 t228:=Tryz.underlying223
 a228:=Tryz.isAgg223
 z228:=Tryz.sizeOf223
 v228:=Tryz.zeroValue223
 t229:=Tryz.underlying224
 a229:=Tryz.isAgg224
 z229:=Tryz.sizeOf224
 v229:=Tryz.zeroValue224 }
def Tryz.laysIt_ren:Go.Shelf.Ren:=⟨λ|171=>95|243=>134|246=>177|283=>215|284=>216|285=>217|286=>218|129=>202|317=>234|318=>235|319=>236|320=>237|337=>250|338=>251|n=>n,λ|3=>3|9=>9|2=>2|4=>4|171=>197|0=>0|53=>38|37=>22|5=>5|173=>199|212=>214|51=>186|20=>20|213=>215|46=>109|232=>229|233=>230|n=>n,λ|17=>0|18=>1|19=>2|n=>n⟩
theorem Tryz.laysIt:Go.Proofs.LaysM.n171 Tryz.prog Tryz.laysIt_ren:={
 mixed:=by kernel_rfl
 f129:=Tryz.func202.trans (congrArg some (by kernel_rfl))
 f171:=Tryz.func95.trans (congrArg some (by kernel_rfl))
 f243:=Tryz.func134.trans (congrArg some (by kernel_rfl))
 f246:=Tryz.func177.trans (congrArg some (by kernel_rfl))
 f283:=Tryz.func215.trans (congrArg some (by kernel_rfl))
 f284:=Tryz.func216.trans (congrArg some (by kernel_rfl))
 f285:=Tryz.func217.trans (congrArg some (by kernel_rfl))
 f286:=Tryz.func218.trans (congrArg some (by kernel_rfl))
 f317:=Tryz.func234.trans (congrArg some (by kernel_rfl))
 f318:=Tryz.func235.trans (congrArg some (by kernel_rfl))
 f319:=Tryz.func236.trans (congrArg some (by kernel_rfl))
 f320:=Tryz.func237.trans (congrArg some (by kernel_rfl))
 f337:=Tryz.func250.trans (congrArg some (by kernel_rfl))
 f338:=Tryz.func251.trans (congrArg some (by kernel_rfl))
 t0:=Tryz.underlying0
 a0:=Tryz.isAgg0
 z0:=Tryz.sizeOf0
 v0:=Tryz.zeroValue0
 t2:=Tryz.underlying2
 a2:=Tryz.isAgg2
 z2:=Tryz.sizeOf2
 v2:=Tryz.zeroValue2
 t3:=Tryz.underlying3
 a3:=Tryz.isAgg3
 z3:=Tryz.sizeOf3
 v3:=Tryz.zeroValue3
 t4:=Tryz.underlying4
 a4:=Tryz.isAgg4
 z4:=Tryz.sizeOf4
 v4:=Tryz.zeroValue4
 t5:=Tryz.underlying5
 a5:=Tryz.isAgg5
 z5:=Tryz.sizeOf5
 v5:=Tryz.zeroValue5
 t9:=Tryz.underlying9
 a9:=Tryz.isAgg9
 z9:=Tryz.sizeOf9
 v9:=Tryz.zeroValue9
 t20:=Tryz.underlying20
 a20:=Tryz.isAgg20
 z20:=Tryz.sizeOf20
 v20:=Tryz.zeroValue20
 t37:=Tryz.underlying22
 a37:=Tryz.isAgg22
 z37:=Tryz.sizeOf22
 v37:=Tryz.zeroValue22
 t46:=Tryz.underlying109
 a46:=Tryz.isAgg109
 z46:=Tryz.sizeOf109
 v46:=Tryz.zeroValue109
 t51:=Tryz.underlying186
 a51:=Tryz.isAgg186
 z51:=Tryz.sizeOf186
 v51:=Tryz.zeroValue186
 t53:=Tryz.underlying38
 a53:=Tryz.isAgg38
 z53:=Tryz.sizeOf38
 v53:=Tryz.zeroValue38
 t171:=Tryz.underlying197
 a171:=Tryz.isAgg197
 z171:=Tryz.sizeOf197
 v171:=Tryz.zeroValue197
 t173:=Tryz.underlying199
 a173:=Tryz.isAgg199
 z173:=Tryz.sizeOf199
 v173:=Tryz.zeroValue199
 t212:=Tryz.underlying214
 a212:=Tryz.isAgg214
 z212:=Tryz.sizeOf214
 v212:=Tryz.zeroValue214
 t213:=Tryz.underlying215
 a213:=Tryz.isAgg215
 z213:=Tryz.sizeOf215
 t232:=Tryz.underlying229
 a232:=Tryz.isAgg229
 z232:=Tryz.sizeOf229
 v232:=Tryz.zeroValue229
 t233:=Tryz.underlying230
 a233:=Tryz.isAgg230
 z233:=Tryz.sizeOf230
 v233:=Tryz.zeroValue230
 g17:=by kernel_rfl
 g18:=by kernel_rfl
 g19:=by kernel_rfl
 i0:=by kernel_rfl
 i2:=by kernel_rfl
 i3:=by kernel_rfl
 i4:=by kernel_rfl
 i5:=by kernel_rfl
 i9:=by kernel_rfl
 i20:=by kernel_rfl
 i37:=by kernel_rfl
 i46:=by kernel_rfl
 i51:=by kernel_rfl
 i53:=by kernel_rfl
 i171:=by kernel_rfl
 i173:=by kernel_rfl
 i212:=by kernel_rfl
 i232:=by kernel_rfl
 i233:=by kernel_rfl
 m17:=by kernel_rfl
 m18:=by kernel_rfl
 m19:=by kernel_rfl }
def Tryz.laysSL_ren:Go.Shelf.Ren:=⟨λ|6=>179|15=>149|14=>219|28=>201|29=>202|20=>238|21=>239|22=>240|23=>241|24=>242|25=>243|26=>244|27=>245|46=>252|47=>229|48=>230|49=>253|50=>254|57=>256|n=>n,λ|22=>24|24=>50|25=>70|3=>3|39=>109|0=>0|53=>186|55=>38|4=>4|46=>179|45=>178|50=>104|5=>5|9=>9|66=>207|70=>211|76=>223|77=>224|n=>n,λ|n=>n⟩
theorem Tryz.laysSL:Go.Proofs.SlLaysF0.n6 Tryz.prog Tryz.laysSL_ren:={
 mixed:=by kernel_rfl
 f6:=⟨"slices.SortFunc[[]loop.example/g00892/impl.Literal,loop.example/g00892/impl.Literal]",by decide,Tryz.func179.trans (congrArg some (by kernel_rfl))⟩
 f14:=⟨"slices.pdqsortCmpFunc[loop.example/g00892/impl.Literal]",by decide,Tryz.func219.trans (congrArg some (by kernel_rfl))⟩
 f15:=Tryz.func149.trans (congrArg some (by kernel_rfl))
 f20:=⟨"slices.insertionSortCmpFunc[loop.example/g00892/impl.Literal]",by decide,Tryz.func238.trans (congrArg some (by kernel_rfl))⟩
 f21:=⟨"slices.heapSortCmpFunc[loop.example/g00892/impl.Literal]",by decide,Tryz.func239.trans (congrArg some (by kernel_rfl))⟩
 f22:=⟨"slices.breakPatternsCmpFunc[loop.example/g00892/impl.Literal]",by decide,Tryz.func240.trans (congrArg some (by kernel_rfl))⟩
 f23:=⟨"slices.choosePivotCmpFunc[loop.example/g00892/impl.Literal]",by decide,Tryz.func241.trans (congrArg some (by kernel_rfl))⟩
 f24:=⟨"slices.reverseRangeCmpFunc[loop.example/g00892/impl.Literal]",by decide,Tryz.func242.trans (congrArg some (by kernel_rfl))⟩
 f25:=⟨"slices.partialInsertionSortCmpFunc[loop.example/g00892/impl.Literal]",by decide,Tryz.func243.trans (congrArg some (by kernel_rfl))⟩
 f26:=⟨"slices.partitionEqualCmpFunc[loop.example/g00892/impl.Literal]",by decide,Tryz.func244.trans (congrArg some (by kernel_rfl))⟩
 f27:=⟨"slices.partitionCmpFunc[loop.example/g00892/impl.Literal]",by decide,Tryz.func245.trans (congrArg some (by kernel_rfl))⟩
 f28:=Tryz.func201.trans (congrArg some (by kernel_rfl))
 f29:=Tryz.func202.trans (congrArg some (by kernel_rfl))
 f46:=⟨"slices.siftDownCmpFunc[loop.example/g00892/impl.Literal]",by decide,Tryz.func252.trans (congrArg some (by kernel_rfl))⟩
 f47:=Tryz.func229.trans (congrArg some (by kernel_rfl))
 f48:=Tryz.func230.trans (congrArg some (by kernel_rfl))
 f49:=⟨"slices.medianAdjacentCmpFunc[loop.example/g00892/impl.Literal]",by decide,Tryz.func253.trans (congrArg some (by kernel_rfl))⟩
 f50:=⟨"slices.medianCmpFunc[loop.example/g00892/impl.Literal]",by decide,Tryz.func254.trans (congrArg some (by kernel_rfl))⟩
 f57:=⟨"slices.order2CmpFunc[loop.example/g00892/impl.Literal]",by decide,Tryz.func256.trans (congrArg some (by kernel_rfl))⟩
 t0:=Tryz.underlying0
 a0:=Tryz.isAgg0
 z0:=Tryz.sizeOf0
 v0:=Tryz.zeroValue0
 t3:=Tryz.underlying3
 a3:=Tryz.isAgg3
 z3:=Tryz.sizeOf3
 v3:=Tryz.zeroValue3
 t4:=Tryz.underlying4
 a4:=Tryz.isAgg4
 z4:=Tryz.sizeOf4
 v4:=Tryz.zeroValue4
 t5:=Tryz.underlying5
 a5:=Tryz.isAgg5
 z5:=Tryz.sizeOf5
 v5:=Tryz.zeroValue5
 t9:=Tryz.underlying9
 a9:=Tryz.isAgg9
 z9:=Tryz.sizeOf9
 v9:=Tryz.zeroValue9
 t22:=Tryz.underlying24
 a22:=Tryz.isAgg24
 z22:=Tryz.sizeOf24
 v22:=Tryz.zeroValue24
 t25:=Tryz.underlying70
 a25:=Tryz.isAgg70
 z25:=Tryz.sizeOf70
 v25:=Tryz.zeroValue70
 t39:=Tryz.underlying109
 a39:=Tryz.isAgg109
 z39:=Tryz.sizeOf109
 v39:=Tryz.zeroValue109
 t45:=Tryz.underlying178
 a45:=Tryz.isAgg178
 z45:=Tryz.sizeOf178
 v45:=Tryz.zeroValue178
 t46:=Tryz.underlying179
 a46:=Tryz.isAgg179
 z46:=Tryz.sizeOf179
 v46:=Tryz.zeroValue179
 t50:=Tryz.underlying104
 a50:=Tryz.isAgg104
 z50:=Tryz.sizeOf104
 v50:=Tryz.zeroValue104
 t53:=Tryz.underlying186
 a53:=Tryz.isAgg186
 z53:=Tryz.sizeOf186
 v53:=Tryz.zeroValue186
 t55:=Tryz.underlying38
 a55:=Tryz.isAgg38
 z55:=Tryz.sizeOf38
 v55:=Tryz.zeroValue38
 t66:=Tryz.underlying207
 a66:=Tryz.isAgg207
 z66:=Tryz.sizeOf207
 v66:=Tryz.zeroValue207
 t70:=Tryz.underlying211
 a70:=Tryz.isAgg211
 z70:=Tryz.sizeOf211
 v70:=Tryz.zeroValue211
 t76:=Tryz.underlying223
 a76:=Tryz.isAgg223
 z76:=Tryz.sizeOf223
 v76:=Tryz.zeroValue223
 t77:=Tryz.underlying224
 a77:=Tryz.isAgg224
 z77:=Tryz.sizeOf224
 v77:=Tryz.zeroValue224 }
def Tryz.laysSB_ren:Go.Shelf.Ren:=⟨λ|6=>141|15=>149|14=>186|28=>201|29=>202|20=>220|21=>221|22=>222|23=>223|24=>224|25=>225|26=>226|27=>227|46=>246|47=>229|48=>230|49=>247|50=>248|57=>255|n=>n,λ|22=>52|24=>76|25=>150|3=>3|39=>109|0=>0|53=>186|55=>38|4=>4|46=>179|45=>178|50=>104|5=>5|9=>9|66=>207|70=>211|76=>223|77=>224|n=>n,λ|n=>n⟩
theorem Tryz.laysSB:Go.Proofs.SlLaysF0.n6 Tryz.prog Tryz.laysSB_ren:={
 mixed:=by kernel_rfl
 f6:=⟨"slices.SortFunc[[]loop.example/g00892/impl.Binding,loop.example/g00892/impl.Binding]",by decide,Tryz.func141.trans (congrArg some (by kernel_rfl))⟩
 f14:=⟨"slices.pdqsortCmpFunc[loop.example/g00892/impl.Binding]",by decide,Tryz.func186.trans (congrArg some (by kernel_rfl))⟩
 f15:=Tryz.func149.trans (congrArg some (by kernel_rfl))
 f20:=⟨"slices.insertionSortCmpFunc[loop.example/g00892/impl.Binding]",by decide,Tryz.func220.trans (congrArg some (by kernel_rfl))⟩
 f21:=⟨"slices.heapSortCmpFunc[loop.example/g00892/impl.Binding]",by decide,Tryz.func221.trans (congrArg some (by kernel_rfl))⟩
 f22:=⟨"slices.breakPatternsCmpFunc[loop.example/g00892/impl.Binding]",by decide,Tryz.func222.trans (congrArg some (by kernel_rfl))⟩
 f23:=⟨"slices.choosePivotCmpFunc[loop.example/g00892/impl.Binding]",by decide,Tryz.func223.trans (congrArg some (by kernel_rfl))⟩
 f24:=⟨"slices.reverseRangeCmpFunc[loop.example/g00892/impl.Binding]",by decide,Tryz.func224.trans (congrArg some (by kernel_rfl))⟩
 f25:=⟨"slices.partialInsertionSortCmpFunc[loop.example/g00892/impl.Binding]",by decide,Tryz.func225.trans (congrArg some (by kernel_rfl))⟩
 f26:=⟨"slices.partitionEqualCmpFunc[loop.example/g00892/impl.Binding]",by decide,Tryz.func226.trans (congrArg some (by kernel_rfl))⟩
 f27:=⟨"slices.partitionCmpFunc[loop.example/g00892/impl.Binding]",by decide,Tryz.func227.trans (congrArg some (by kernel_rfl))⟩
 f28:=Tryz.func201.trans (congrArg some (by kernel_rfl))
 f29:=Tryz.func202.trans (congrArg some (by kernel_rfl))
 f46:=⟨"slices.siftDownCmpFunc[loop.example/g00892/impl.Binding]",by decide,Tryz.func246.trans (congrArg some (by kernel_rfl))⟩
 f47:=Tryz.func229.trans (congrArg some (by kernel_rfl))
 f48:=Tryz.func230.trans (congrArg some (by kernel_rfl))
 f49:=⟨"slices.medianAdjacentCmpFunc[loop.example/g00892/impl.Binding]",by decide,Tryz.func247.trans (congrArg some (by kernel_rfl))⟩
 f50:=⟨"slices.medianCmpFunc[loop.example/g00892/impl.Binding]",by decide,Tryz.func248.trans (congrArg some (by kernel_rfl))⟩
 f57:=⟨"slices.order2CmpFunc[loop.example/g00892/impl.Binding]",by decide,Tryz.func255.trans (congrArg some (by kernel_rfl))⟩
 t0:=Tryz.underlying0
 a0:=Tryz.isAgg0
 z0:=Tryz.sizeOf0
 v0:=Tryz.zeroValue0
 t3:=Tryz.underlying3
 a3:=Tryz.isAgg3
 z3:=Tryz.sizeOf3
 v3:=Tryz.zeroValue3
 t4:=Tryz.underlying4
 a4:=Tryz.isAgg4
 z4:=Tryz.sizeOf4
 v4:=Tryz.zeroValue4
 t5:=Tryz.underlying5
 a5:=Tryz.isAgg5
 z5:=Tryz.sizeOf5
 v5:=Tryz.zeroValue5
 t9:=Tryz.underlying9
 a9:=Tryz.isAgg9
 z9:=Tryz.sizeOf9
 v9:=Tryz.zeroValue9
 t22:=Tryz.underlying52
 a22:=Tryz.isAgg52
 z22:=Tryz.sizeOf52
 v22:=Tryz.zeroValue52
 t25:=Tryz.underlying150
 a25:=Tryz.isAgg150
 z25:=Tryz.sizeOf150
 v25:=Tryz.zeroValue150
 t39:=Tryz.underlying109
 a39:=Tryz.isAgg109
 z39:=Tryz.sizeOf109
 v39:=Tryz.zeroValue109
 t45:=Tryz.underlying178
 a45:=Tryz.isAgg178
 z45:=Tryz.sizeOf178
 v45:=Tryz.zeroValue178
 t46:=Tryz.underlying179
 a46:=Tryz.isAgg179
 z46:=Tryz.sizeOf179
 v46:=Tryz.zeroValue179
 t50:=Tryz.underlying104
 a50:=Tryz.isAgg104
 z50:=Tryz.sizeOf104
 v50:=Tryz.zeroValue104
 t53:=Tryz.underlying186
 a53:=Tryz.isAgg186
 z53:=Tryz.sizeOf186
 v53:=Tryz.zeroValue186
 t55:=Tryz.underlying38
 a55:=Tryz.isAgg38
 z55:=Tryz.sizeOf38
 v55:=Tryz.zeroValue38
 t66:=Tryz.underlying207
 a66:=Tryz.isAgg207
 z66:=Tryz.sizeOf207
 v66:=Tryz.zeroValue207
 t70:=Tryz.underlying211
 a70:=Tryz.isAgg211
 z70:=Tryz.sizeOf211
 v70:=Tryz.zeroValue211
 t76:=Tryz.underlying223
 a76:=Tryz.isAgg223
 z76:=Tryz.sizeOf223
 v76:=Tryz.zeroValue223
 t77:=Tryz.underlying224
 a77:=Tryz.isAgg224
 z77:=Tryz.sizeOf224
 v77:=Tryz.zeroValue224 }
end Go.Proofs
namespace Go.Proofs.YtjgmjdidbgcljaaGreatDoor
open Go Go.RowKit Go.Sort Go.Proofs.YtjgmjdidbgcljaaGreatDoor.Abs
set_option linter.unusedSimpArgs false
set_option linter.unusedVariables false
theorem juy:Tryz.lays190_ren.f 190=104:=by kernel_rfl
theorem jvQ(blk off cap:Nat)(ss:Xa)(w:World)(hH:Holds encStr w blk off ss.toArray)(hblk:blk<w.heap.size)(hsz:ss.length<4611686018427387904) :
  Calls Tryz.prog 104 #[.slice (some ⟨blk,off,none⟩) ss.length cap] w λe w'=>e = .returned (.tuple #[])/\ ∃n os,w'=Sort.grow (putRow encStr (Sort.ahead w n) blk off (ss.mergeSort λx y=>decide (x<=y)).toArray) os:=by
 have:=Any.slices_Sort_string Tryz.lays190 blk off cap ss w hH hblk hsz;rw[juy]at this;exact this
theorem juw(p:Option Addr)(cap:Nat)(w:World):Calls Tryz.prog 104 #[.slice p 0 cap] w λe w'=>e = .returned (.tuple #[])/\w'=w:=by
 have:=Any.slices_Sort_string_none Tryz.lays190 p cap w;rw[juy]at this;exact this
theorem jux:Enters Tryz.prog 104:=
 ZS Tryz.func104 (jfZ.names _ _ Tryz.func104) (ql rfl)
theorem jA8:Tryz.laysSL_ren.f 6=179:=by kernel_rfl
theorem jD2:Tryz.laysSL_ren.t 24=50:=by kernel_rfl
theorem jGu:jf1 Tryz.prog 179 3:=by
 intro m enc hk h1 cf hO g cb blk off cap d w eg hcmp hH hblk hsz;have:=AnyQ.slices_SortFunc_eq Tryz.laysSL 3 (by rw[jD2];exact Tryz.isAgg50) (by rw[jD2];exact Tryz.sizeOf50) enc hk h1 cf hO g cb blk off cap d w eg hcmp hH hblk hsz;rw[jA8]at this;exact this
theorem jC1(p:Option Addr)(cap:Nat)(fv:Value)(w:World):Calls Tryz.prog 179 #[.slice p 0 cap,fv] w λe w'=>e = .returned (.tuple #[])/\w'=w:=by
 have:=AnyF.slices_SortFunc_none Tryz.laysSL p cap fv w;rw[jA8]at this;exact this
theorem jyj:Enters Tryz.prog 179:=
 ZS Tryz.func179 (jfZ.names _ _ Tryz.func179) (ql rfl)
theorem jA6:Tryz.laysSB_ren.f 6=141:=by kernel_rfl
theorem jD0:Tryz.laysSB_ren.t 24=76:=by kernel_rfl
theorem jGt:jf1 Tryz.prog 141 3:=by
 intro m enc hk h1 cf hO g cb blk off cap d w eg hcmp hH hblk hsz;have:=AnyQ.slices_SortFunc_eq Tryz.laysSB 3 (by rw[jD0];exact Tryz.isAgg76) (by rw[jD0];exact Tryz.sizeOf76) enc hk h1 cf hO g cb blk off cap d w eg hcmp hH hblk hsz;rw[jA6]at this;exact this
theorem jCZ(p:Option Addr)(cap:Nat)(fv:Value)(w:World):Calls Tryz.prog 141 #[.slice p 0 cap,fv] w λe w'=>e = .returned (.tuple #[])/\w'=w:=by
 have:=AnyF.slices_SortFunc_none Tryz.laysSB p cap fv w;rw[jA6]at this;exact this
theorem jyg:Enters Tryz.prog 141:=
 ZS Tryz.func141 (jfZ.names _ _ Tryz.func141) (ql rfl)
theorem jD8{X:Ctx}(f:FuncId)(x:ExtV)(args:Xj)(objs:List Abs.Obj)(sgs:Sig)(sg:SigA)(qs:List (FuncId×Xd))(outs:List Out)(out:Out)(h1:K.extv f=some x)(h2:K.sig f=some sgs)(h3:qB objs.length sgs=some sg)(hq:x.ask args objs=some qs)(hok:jaL X K.P qs outs)(h4:x.ans args objs outs=some out):SOk X K.P f args objs sg out:=by
 have one:∀{s s':SigA}{n:Nat},qB n [s]=some s'->s'=s:=by
  intro s s' n h;simp only[qB]at h;split at h
  .exact (QW h).symm
  .cases h
 have h1:JW none f jeA=some x:=h1;unfold jeA at h1;simp only[JW]at h1;cases hb1:Nat.beq f 104;rotate_left
 .rw [hb1]at h1;have hf:=jc5 hb1;subst hf;cases h1;have h2:some [qa]=some sgs:=h2;cases h2;rw[one h3];exact jfI jux jvQ juw h4
 rw[hb1]at h1;cases hb2:Nat.beq f 179;rotate_left
 .rw [hb2]at h1;have hf:=jc5 hb2;subst hf;cases h1;have h2:some [qX 3]=some sgs:=h2;cases h2;rw[one h3];exact jgr jyj jGu (by decide) rfl jC1 hq hok h4
 rw[hb2]at h1;cases hb3:Nat.beq f 141;rotate_left
 .rw [hb3]at h1;have hf:=jc5 hb3;subst hf;cases h1;have h2:some [qX 3]=some sgs:=h2;cases h2;rw[one h3];exact jgr jyg jGt (by decide) rfl jCZ hq hok h4
 rw[hb3]at h1;cases h1
def jnf:Nat:=0
theorem jng:Tryz.prog.globalNamed "internal/strconv.uint64pow10" = some jnf:=by kernel_rfl
def jqo(w:World):Prop:=Lib.TabIs Tryz.prog w "internal/strconv.uint64pow10" .u64 Lib.pow10Tab
theorem juE{w w':World}(h:w'.heap[jnf]? = w.heap[jnf]?)(hw:jqo w):jqo w':=by
 unfold jqo Lib.TabIs World.var? at *;rw[jng]at *;simp only[Option.bind_some]at *;rw[h];exact hw
theorem jC3{w:World}(hw:jqo w):jnf<w.heap.size:=by
 unfold jqo Lib.TabIs World.var? at hw;rw[jng]at hw;simp only[Option.bind_some]at hw;rcases Nat.lt_or_ge jnf w.heap.size with h|h
 .exact h
 .rw [Array.getElem?_eq_none h]at hw;simp at hw
theorem jyq{w:World}(hw:jqo w){off:Nat}{v:Value}(h:w.cell? ⟨jnf,off,none⟩=some v):∃z,v = .int .u64 z:=by
 by_cases hi:off<Lib.pow10Tab.length
 .have:=Lib.TabIs.cell hw jng off hi;rw[h]at this;exact⟨_,QW this⟩
 .have:=World.var?_cell jng hw off;rw[h]at this;have h2:(Lib.pow10Tab.map λz=>Value.int IntKind.u64 z).toArray[off]? = none:=Array.getElem?_eq_none (by simp;omega);simp[h2]at this
def Xt:Ctx:=⟨jqo,λb=>b=jnf,λ_ _ h hw=>juE (h jnf rfl) hw⟩
theorem jzy:Tryz.laysIt_ren.f 171=95:=by kernel_rfl
theorem jtE:Enters Tryz.prog 95:=
 ZS Tryz.func95 (jfZ.names _ _ Tryz.func95) (ql rfl)
theorem jCy(args:Xd)(out:Out)(h:jfn args=some out):qM Xt Tryz.prog 95 args out:=by
 unfold jfn at h;split at h;rotate_left
 .cases h
 rename_i n;split at h;rotate_left
 .cases h
 rename_i hn;cases h;refine⟨jtE,λw O vs hj _ _ hrel=>?_⟩;simp only[jf,rel]at hrel;obtain⟨v,r,rfl,rfl,rfl⟩:=hrel;have:=Any.strconv_Itoa Tryz.laysIt n hn.1 hn.2 w hj;rw[jzy]at this;refine this.mono ?_;rintro e w' ⟨rfl,k,os,rfl⟩;refine⟨_,rfl,?_,?_⟩
 .refine ⟨rfl,rfl,⟨rfl,?_⟩,?_,λb hb=>?_⟩
  .simp [grow,World.drewN]
  .simp [grow,World.drewN]
  .simp only[grow,World.drewN];rw[jbr hb]
 .simp only[rel]
theorem jGZ{f:FuncId}{args:Xd}{out:Out}(hs:K.pureF f=true)(h:G f args=some out):qM Xt Tryz.prog f args out:=by
 refine jgu jfZ (λf x args out h h2=>?_) jD8 f args out hs h;have h:JW none f jdv=some x:=h;unfold jdv at h;simp only[JW]at h;cases hb:Nat.beq f 95 with
 |true=>
  rw[hb]at h;have hf:=jc5 hb;subst hf;cases h;exact jCy args out h2
 |false=>rw[hb]at h;cases h
open Go Go.ChangeShapes Go.WideShapes Go.ChangeAt Go.RowKit Go.Proofs.YtjgmjdidbgcljaaGreatDoor.Abs
theorem Tryz.ownK:ownKnob Tryz.prog.godebug=none:=by kernel_rfl
theorem Tryz.laidO:laidOutB Tryz.prog=true:=by kernel_rfl
set_option linter.unusedSectionVars false
theorem jA7:laidOutB Tryz.pinned.checked.prog=true:=by kernel_rfl
theorem jyh:mapsRowed Tryz.pinned.checked.prog=true:=by kernel_rfl
theorem jC0:false=Tryz.pinned.checked.prog.looks []:=by kernel_rfl
mutual
def nu:A->Bool
 |.val (.int .u64 _)=>false
 |.val _=>true
 |.sl _ xs=>nuR xs
 |.agg cs=>nuL cs
 |_=>false
def nuR:Xc->Bool
 | []=>true
 |x::xs=>(!x.isEmpty && nuL x) && nuR xs
def nuL:Xd->Bool
 | []=>true
 |c::cs=>nu c && nuL cs
end
theorem jEN{w:World}{O:Nat->Prop}{c:A}{z:Int}(h:nu c=true)(hr:rel w O c (.int .u64 z)):False:=by
 cases c with
 |top=>simp[nu]at h
 |val v=>simp only[rel]at hr;rw[<-hr]at h;simp[nu]at h
 |sl k xs=>simp only[rel]at hr;obtain⟨a,cap,h1,_⟩:=hr;cases h1
 |agg cs=>simp only[rel]at hr;obtain⟨vs,h1,_⟩:=hr;cases h1
 |elt cs off=>simp[nu]at h
 |fn f cs=>simp[nu]at h
 |tup cs=>simp[nu]at h
 |mp xs=>simp[nu]at h
section
variable{w:World}(hJ:jqo w)
include hJ
mutual
theorem jvM:∀(a:A)(v:Value),nu a=true->rel w (λ_=>False) a v->rel w (λb=>b=jnf) a v
 |.top,_,h,_=>by simp[nu]at h
 |.val x,v,_,hr=>by simpa[rel]using hr
 |.sl k xs,v,h,hr=>by
  simp only[rel]at hr⊢;obtain⟨a,cap,h1,h2,h3,h4⟩:=hr;refine⟨a,cap,h1,h2,h3,?_⟩;rcases h4 with h4|⟨b,off,h5,h6,h7,h8⟩
  .exact Or.inl h4
  .have hn:nuR xs=true:=by simpa only[nu]using h
   match xs,hn,h8 with
   | [],_,_=>exact Or.inl rfl
   |x::xs,hn,h8=>
    refine Or.inr ⟨b,off,h5,h6,λhb=>?_,jp7 k b off (x::xs) hn h8⟩;subst hb;simp only[nuR,Yn]at hn;simp only[jA]at h8
    match x,hn.1,h8.2.1 with
    | [],hx,_=>simp at hx
    |c::cs,hx,h9=>
     simp only[nuL,Yn]at hx;simp only[jQ]at h9;obtain⟨⟨v',e1,_,e2⟩,_⟩:=h9;obtain⟨z,rfl⟩:=jyq hJ e1;exact jEN hx.2.1 e2
 |.agg cs,v,h,hr=>by
  simp only[rel]at hr⊢;obtain⟨vs,h1,h2⟩:=hr;exact⟨vs,h1,jxf cs vs (by simpa only[nu]using h) h2⟩
 |.elt cs off,_,h,_=>by simp[nu]at h
 |.fn f caps,_,h,_=>by simp[nu]at h
 |.tup cs,_,h,_=>by simp[nu]at h
 |.mp xs,_,h,_=>by simp[nu]at h
theorem jxf:∀(cs:Xd)(vs:Xh),nuL cs=true->jf w (λ_=>False) cs vs->jf w (λb=>b=jnf) cs vs
 | [],vs,_,hr=>by simpa[jf]using hr
 |c::cs,vs,h,hr=>by
  simp only[nuL,Yn]at h;simp only[jf]at hr⊢;obtain⟨v,r,h1,h2,h3⟩:=hr;exact⟨v,r,h1,jvM c v h.1 h2,jxf cs r h.2 h3⟩
theorem joa(b off:Nat):∀(cs:Xd),nuL cs=true->jQ w (λ_=>False) b off cs->jQ w (λb=>b=jnf) b off cs
 | [],_,_=>by simp[jQ]
 |c::cs,h,hr=>by
  simp only[nuL,Yn]at h;simp only[jQ]at hr⊢;obtain⟨⟨v,h1,h0,h2⟩,h3⟩:=hr;exact⟨⟨v,h1,h0,jvM c v h.1 h2⟩,joa b (off+1) cs h.2 h3⟩
theorem jp7(k b off:Nat):∀(xs:Xc),nuR xs=true->jA w (λ_=>False) k b off xs->jA w (λb=>b=jnf) k b off xs
 | [],_,_=>by simp[jA]
 |x::xs,h,hr=>by
  simp only[nuR,Yn]at h;simp only[jA]at hr⊢;obtain⟨h1,h2,h3⟩:=hr;exact⟨h1,joa b off x h.1.2 h2,jp7 k b (off+k) xs h.2 h3⟩
end
end
theorem jw3{α:Type}{f:α->Xd}(hf:∀x,(f x).isEmpty=false/\nuL (f x)=true):∀l:List α,nuR (l.map f)=true
 | []=>rfl
 |x::l=>by simp only[j5,nuR,(hf x).1,(hf x).2,jw3 hf l];rfl
mutual
theorem jDV:∀t:T,(jdd t).isEmpty=false/\nuL (jdd t)=true
 |.mk n us=>by
  rw[jfY];refine⟨rfl,?_⟩;have:=jAs us;simp only[nuL,nu,T.args,this];rfl
theorem jAs:∀us:Xg,nuR (us.map jdd)=true
 | []=>rfl
 |u::us=>by simp only[j5,nuR,(jDV u).1,(jDV u).2,jAs us];rfl
end
abbrev lst:List (String×DataW Unit):=Rows.fnSuperpositionRow.laid
theorem jIu:(Tryz.prog.globals[jnf]?).map (·.type)=some 214:=by kernel_rfl
theorem jIv:Tryz.prog.underlying 214=some (.array 20 38):=by kernel_rfl
theorem jIt:Tryz.prog.underlying 38=some (.int .u64):=by kernel_rfl
theorem jE6{w:World}(h:laidMet Tryz.prog lst w):jqo w:=by
 have h3:laidMet Tryz.prog [("internal/strconv.uint64pow10",Lib.tabData .u64 Lib.pow10Tab)] w:=by
  have e:(Rows.laid_internal_strconv_uint64pow10:DataW Unit)=Lib.tabData .u64 Lib.pow10Tab:=by kernel_rfl
  have:=h.tail.tail;rw[<-e];exact this
 exact Lib.tabIs_of_head jng jIu jIv jIt (by kernel_rfl) (by kernel_rfl) h3
def intsIn(d:DataW Unit):Array Value:=match d with
 |.agg l=>(l.map λx=>match x with|.lit (.int k z)=>Value.int k z|_=>.int .i64 0).toArray
 |_=>#[]
def jEK(g:Nat)(d:DataW Unit)(h:Array Obj):Array Obj:=h.modify g λ
 |.cells _ t frozen=>.cells (intsIn d) t frozen
 |o=>o
noncomputable def jDT(os:Os):World:=
 { World.holding Tryz.prog os ⟨#[],#[],[]⟩with heap:=jEK 2 Rows.laid_math_bits_deBruijn64tab (jEK 1 Rows.laid_math_bits_deBruijn32tab (jEK 0 Rows.laid_internal_strconv_uint64pow10 (World.holding Tryz.prog os ⟨#[],#[],[]⟩).heap)) }
set_option maxRecDepth 100000 in
theorem jxW(os:Os)(args:Array Value):laidMetH Tryz.prog lst ((jDT os).forCall (λ_ _=>0) ⟨#[],args,[]⟩).memory:=
 laidMetH_of_parts (laidMet_of_run' 8 (by kernel_rfl) (by kernel_rfl)) (by kernel_rfl)
open Go Go.ChangeShapes Go.WideShapes Go.ChangeAt Go.RowKit Go.Deep Go.Proofs.YtjgmjdidbgcljaaGreatDoor.Abs
theorem jGD{n:Int}(h:(Lit.int .u8 n).wf=true):0<=n/\n<=255:=by
 have h1:IntKind.u8.min=0:=rfl;have h2:IntKind.u8.max=255:=rfl;simp[Lit.wf,h1,h2]at h;exact h
theorem jCU:Rdr Tryz.prog 5 cy (λn=>0<=n/\n<=255):=by
 intro H enc w base spare held fuel cs x h;obtain⟨n,rfl,_,hw⟩:=DataW.trod_int Tryz.underlying5 h;exact⟨n,jGD hw,by simp[jf,rel],by simp[jei,Value.oneCell']⟩
theorem jAY:Rdr Tryz.prog 22 (λl:Xi=>[bts l]) (λl=>(∀n∈l,0<=n/\n<=255)/\l.length<=9223372036854775807):=
 Rdr.slice Tryz.underlying22 (by kernel_rfl) (by decide) (λ_=>rfl) jCU
theorem jEM(code:Xi):nu (bts code)=true:=by
 simp only[nu];exact jw3 (λx=>⟨rfl,rfl⟩) code
end Go.Proofs.YtjgmjdidbgcljaaGreatDoor
