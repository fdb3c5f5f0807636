/- Pz -/
import Derived.Test.YteoaojbmnibpcaaGreatDoorSn
import Derived.Shelf.Strconv.Itoa3
import Derived.Shelf.Strings.OnBuilder
import Derived.Shelf.Strings.SplitShaped
import Derived.Shelf.Strings.Cut
import Derived.Shelf.Strconv.AtoiAll
import Derived.Test.YteoaojbmnibpcaaGreatDoorEd
import Derived.Lib.LaidTab
import Derived.Lib.AtoiErrMem
import Derived.WalkKit
import Derived.BigCall
import Derived.Test.YteoaojbmnibpcaaGreatDoorCards
import Derived.Test.YteoaojbmnibpcaaGreatDoorTie
import Derived.ProofKit
import Derived.SizedLaws
import Derived.LaidLaws
import Derived.LaidHandle
import Derived.Stop.LaidErr
import Derived.SevenTiedAt
import Derived.JoinedOf
import Derived.Lib.RowBridge
import Derived.Handed
namespace Go.Proofs
open Go.Shelf
set_option linter.unusedSimpArgs false
set_option linter.unusedVariables false
def Tryz.laysIt_ren:Go.Shelf.Ren:=⟨λ|171=>107|243=>146|246=>173|283=>180|284=>181|285=>182|286=>183|129=>187|317=>186|318=>188|319=>189|320=>190|337=>191|338=>192|n=>n,λ|3=>3|9=>9|2=>2|4=>4|171=>164|0=>0|53=>44|37=>22|5=>5|173=>167|212=>173|51=>142|20=>20|213=>174|46=>114|232=>177|233=>178|n=>n,λ|17=>5|18=>6|19=>7|n=>n⟩
theorem Tryz.laysIt:Go.Proofs.LaysM.n171 Tryz.prog Tryz.laysIt_ren:={
 mixed:=by kernel_rfl
 f129:=Tryz.func187.trans (congrArg some (by kernel_rfl))
 f171:=Tryz.func107.trans (congrArg some (by kernel_rfl))
 f243:=Tryz.func146.trans (congrArg some (by kernel_rfl))
 f246:=Tryz.func173.trans (congrArg some (by kernel_rfl))
 f283:=Tryz.func180.trans (congrArg some (by kernel_rfl))
 f284:=Tryz.func181.trans (congrArg some (by kernel_rfl))
 f285:=Tryz.func182.trans (congrArg some (by kernel_rfl))
 f286:=Tryz.func183.trans (congrArg some (by kernel_rfl))
 f317:=Tryz.func186.trans (congrArg some (by kernel_rfl))
 f318:=Tryz.func188.trans (congrArg some (by kernel_rfl))
 f319:=Tryz.func189.trans (congrArg some (by kernel_rfl))
 f320:=Tryz.func190.trans (congrArg some (by kernel_rfl))
 f337:=Tryz.func191.trans (congrArg some (by kernel_rfl))
 f338:=Tryz.func192.trans (congrArg some (by kernel_rfl))
 t0:=Tryz.underlying0
 a0:=Tryz.isAgg0
 z0:=Tryz.sizeOf0
 v0:=Tryz.zeroValue0
 t2:=Tryz.underlying2
 a2:=Tryz.isAgg2
 z2:=Tryz.sizeOf2
 v2:=Tryz.zeroValue2
 t3:=Tryz.underlying3
 a3:=Tryz.isAgg3
 z3:=Tryz.sizeOf3
 v3:=Tryz.zeroValue3
 t4:=Tryz.underlying4
 a4:=Tryz.isAgg4
 z4:=Tryz.sizeOf4
 v4:=Tryz.zeroValue4
 t5:=Tryz.underlying5
 a5:=Tryz.isAgg5
 z5:=Tryz.sizeOf5
 v5:=Tryz.zeroValue5
 t9:=Tryz.underlying9
 a9:=Tryz.isAgg9
 z9:=Tryz.sizeOf9
 v9:=Tryz.zeroValue9
 t20:=Tryz.underlying20
 a20:=Tryz.isAgg20
 z20:=Tryz.sizeOf20
 v20:=Tryz.zeroValue20
 t37:=Tryz.underlying22
 a37:=Tryz.isAgg22
 z37:=Tryz.sizeOf22
 v37:=Tryz.zeroValue22
 t46:=Tryz.underlying114
 a46:=Tryz.isAgg114
 z46:=Tryz.sizeOf114
 v46:=Tryz.zeroValue114
 t51:=Tryz.underlying142
 a51:=Tryz.isAgg142
 z51:=Tryz.sizeOf142
 v51:=Tryz.zeroValue142
 t53:=Tryz.underlying44
 a53:=Tryz.isAgg44
 z53:=Tryz.sizeOf44
 v53:=Tryz.zeroValue44
 t171:=Tryz.underlying164
 a171:=Tryz.isAgg164
 z171:=Tryz.sizeOf164
 v171:=Tryz.zeroValue164
 t173:=Tryz.underlying167
 a173:=Tryz.isAgg167
 z173:=Tryz.sizeOf167
 v173:=Tryz.zeroValue167
 t212:=Tryz.underlying173
 a212:=Tryz.isAgg173
 z212:=Tryz.sizeOf173
 v212:=Tryz.zeroValue173
 t213:=Tryz.underlying174
 a213:=Tryz.isAgg174
 z213:=Tryz.sizeOf174
 t232:=Tryz.underlying177
 a232:=Tryz.isAgg177
 z232:=Tryz.sizeOf177
 v232:=Tryz.zeroValue177
 t233:=Tryz.underlying178
 a233:=Tryz.isAgg178
 z233:=Tryz.sizeOf178
 v233:=Tryz.zeroValue178
 g17:=by kernel_rfl
 g18:=by kernel_rfl
 g19:=by kernel_rfl
 i0:=by kernel_rfl
 i2:=by kernel_rfl
 i3:=by kernel_rfl
 i4:=by kernel_rfl
 i5:=by kernel_rfl
 i9:=by kernel_rfl
 i20:=by kernel_rfl
 i37:=by kernel_rfl
 i46:=by kernel_rfl
 i51:=by kernel_rfl
 i53:=by kernel_rfl
 i171:=by kernel_rfl
 i173:=by kernel_rfl
 i212:=by kernel_rfl
 i232:=by kernel_rfl
 i233:=by kernel_rfl
 m17:=by kernel_rfl
 m18:=by kernel_rfl
 m19:=by kernel_rfl }
def Tryz.laysJn_ren:Go.Shelf.Ren:=⟨λ|156=>51|165=>85|166=>86|169=>87|240=>126|241=>127|276=>160|277=>161|n=>n,λ|31=>49|9=>9|3=>3|4=>4|0=>0|20=>20|72=>104|76=>108|70=>102|37=>22|75=>107|127=>123|164=>138|5=>5|80=>110|n=>n,λ|n=>n⟩
theorem Tryz.laysJn:Go.Proofs.Lays.n156 Tryz.prog Tryz.laysJn_ren:={
 mixed:=by kernel_rfl
 f156:=Tryz.func51.trans (congrArg some (by kernel_rfl))
 f165:=Tryz.func85.trans (congrArg some (by kernel_rfl))
 f166:=Tryz.func86.trans (congrArg some (by kernel_rfl))
 f169:=Tryz.func87.trans (congrArg some (by kernel_rfl))
 f240:=Tryz.func126.trans (congrArg some (by kernel_rfl))
 f241:=Tryz.func127.trans (congrArg some (by kernel_rfl))
 f276:=Tryz.func160.trans (congrArg some (by kernel_rfl))
 f277:=Tryz.func161.trans (congrArg some (by kernel_rfl))
 t0:=Tryz.underlying0
 a0:=Tryz.isAgg0
 z0:=Tryz.sizeOf0
 v0:=Tryz.zeroValue0
 t3:=Tryz.underlying3
 a3:=Tryz.isAgg3
 z3:=Tryz.sizeOf3
 v3:=Tryz.zeroValue3
 t4:=Tryz.underlying4
 a4:=Tryz.isAgg4
 z4:=Tryz.sizeOf4
 v4:=Tryz.zeroValue4
 t9:=Tryz.underlying9
 a9:=Tryz.isAgg9
 z9:=Tryz.sizeOf9
 v9:=Tryz.zeroValue9
 t20:=Tryz.underlying20
 a20:=Tryz.isAgg20
 z20:=Tryz.sizeOf20
 v20:=Tryz.zeroValue20
 t31:=Tryz.underlying49
 a31:=Tryz.isAgg49
 z31:=Tryz.sizeOf49
 v31:=Tryz.zeroValue49
 t37:=Tryz.underlying22
 a37:=Tryz.isAgg22
 z37:=Tryz.sizeOf22
 v37:=Tryz.zeroValue22
 t70:=Tryz.underlying102
 a70:=Tryz.isAgg102
 z70:=Tryz.sizeOf102
 v70:=Tryz.zeroValue102
 t72:=Tryz.underlying104
 a72:=Tryz.isAgg104
 z72:=Tryz.sizeOf104
 v72:=Tryz.zeroValue104
 t75:=Tryz.underlying107
 a75:=Tryz.isAgg107
 z75:=Tryz.sizeOf107
 v75:=Tryz.zeroValue107
 t76:=Tryz.underlying108
 a76:=Tryz.isAgg108
 z76:=Tryz.sizeOf108
 v76:=Tryz.zeroValue108
 t127:=Tryz.underlying123
 a127:=Tryz.isAgg123
 z127:=Tryz.sizeOf123
 v127:=Tryz.zeroValue123
 t164:=Tryz.underlying138
 a164:=Tryz.isAgg138
 z164:=Tryz.sizeOf138
 v164:=Tryz.zeroValue138 }
def Tryz.laysSp_ren:Go.Shelf.Ren:=⟨λ|146=>21|221=>52|268=>88|138=>89|143=>90|195=>128|197=>129|218=>130|219=>105|260=>162|217=>140|225=>141|224=>142|267=>143|266=>166|314=>167|n=>n,λ|9=>9|31=>49|3=>3|4=>4|0=>0|105=>125|21=>21|5=>5|46=>114|119=>154|139=>157|138=>156|146=>143|51=>142|n=>n,λ|1=>0|3=>1|4=>2|n=>n⟩
theorem Tryz.laysSp:Go.Proofs.LaysM.n146 Tryz.prog Tryz.laysSp_ren:={
 mixed:=by kernel_rfl
 f138:=Tryz.func89.trans (congrArg some (by kernel_rfl))
 f143:=Tryz.func90.trans (congrArg some (by kernel_rfl))
 f146:=Tryz.func21.trans (congrArg some (by kernel_rfl))
 f195:=Tryz.func128.trans (congrArg some (by kernel_rfl))
 f197:=Tryz.func129.trans (congrArg some (by kernel_rfl))
 f217:=Tryz.func140.trans (congrArg some (by kernel_rfl))
 f218:=Tryz.func130.trans (congrArg some (by kernel_rfl))
 f219:=Tryz.func105.trans (congrArg some (by kernel_rfl))
 f221:=Tryz.func52.trans (congrArg some (by kernel_rfl))
 f224:=Tryz.func142.trans (congrArg some (by kernel_rfl))
 f225:=Tryz.func141.trans (congrArg some (by kernel_rfl))
 f260:=Tryz.func162.trans (congrArg some (by kernel_rfl))
 f266:=Tryz.func166.trans (congrArg some (by kernel_rfl))
 f267:=Tryz.func143.trans (congrArg some (by kernel_rfl))
 f268:=Tryz.func88.trans (congrArg some (by kernel_rfl))
 f314:=Tryz.func167.trans (congrArg some (by kernel_rfl))
 t0:=Tryz.underlying0
 a0:=Tryz.isAgg0
 z0:=Tryz.sizeOf0
 v0:=Tryz.zeroValue0
 t3:=Tryz.underlying3
 a3:=Tryz.isAgg3
 z3:=Tryz.sizeOf3
 v3:=Tryz.zeroValue3
 t4:=Tryz.underlying4
 a4:=Tryz.isAgg4
 z4:=Tryz.sizeOf4
 v4:=Tryz.zeroValue4
 t5:=Tryz.underlying5
 a5:=Tryz.isAgg5
 z5:=Tryz.sizeOf5
 v5:=Tryz.zeroValue5
 t9:=Tryz.underlying9
 a9:=Tryz.isAgg9
 z9:=Tryz.sizeOf9
 v9:=Tryz.zeroValue9
 t21:=Tryz.underlying21
 a21:=Tryz.isAgg21
 z21:=Tryz.sizeOf21
 v21:=Tryz.zeroValue21
 t31:=Tryz.underlying49
 a31:=Tryz.isAgg49
 z31:=Tryz.sizeOf49
 v31:=Tryz.zeroValue49
 t46:=Tryz.underlying114
 a46:=Tryz.isAgg114
 z46:=Tryz.sizeOf114
 v46:=Tryz.zeroValue114
 t51:=Tryz.underlying142
 a51:=Tryz.isAgg142
 z51:=Tryz.sizeOf142
 v51:=Tryz.zeroValue142
 t105:=Tryz.underlying125
 a105:=Tryz.isAgg125
 z105:=Tryz.sizeOf125
 v105:=Tryz.zeroValue125
 t119:=Tryz.underlying154
 a119:=Tryz.isAgg154
 z119:=Tryz.sizeOf154
 t138:=Tryz.underlying156
 a138:=Tryz.isAgg156
 z138:=Tryz.sizeOf156
 v138:=Tryz.zeroValue156
 t139:=Tryz.underlying157
 a139:=Tryz.isAgg157
 z139:=Tryz.sizeOf157
 v139:=Tryz.zeroValue157
 t146:=Tryz.underlying143
 a146:=Tryz.isAgg143
 z146:=Tryz.sizeOf143
 v146:=Tryz.zeroValue143
 g1:=by kernel_rfl
 g3:=by kernel_rfl
 g4:=by kernel_rfl
 i0:=by kernel_rfl
 i3:=by kernel_rfl
 i4:=by kernel_rfl
 i5:=by kernel_rfl
 i9:=by kernel_rfl
 i21:=by kernel_rfl
 i31:=by kernel_rfl
 i46:=by kernel_rfl
 i51:=by kernel_rfl
 i105:=by kernel_rfl
 i138:=by kernel_rfl
 i139:=by kernel_rfl
 i146:=by kernel_rfl
 m1:=by kernel_rfl
 s1_3:=λw h=>Go.Proofs.cell_of_shapedOpen_int (zero:=#[.int .i64 0]) (t:=3) h (of_decide_eq_true (by kernel_rfl)) (by kernel_rfl) rfl (by kernel_rfl) (by kernel_rfl) Tryz.underlying3
 m3:=by kernel_rfl
 m4:=by kernel_rfl }
def Tryz.laysCt_ren:Go.Shelf.Ren:=⟨λ|145=>35|220=>67|219=>105|217=>140|225=>141|224=>142|267=>143|266=>166|314=>167|n=>n,λ|9=>9|4=>4|59=>67|3=>3|5=>5|46=>114|146=>143|51=>142|n=>n,λ|1=>0|n=>n⟩
theorem Tryz.laysCt:Go.Proofs.Lays.n145 Tryz.prog Tryz.laysCt_ren:={
 mixed:=by kernel_rfl
 f145:=Tryz.func35.trans (congrArg some (by kernel_rfl))
 f217:=Tryz.func140.trans (congrArg some (by kernel_rfl))
 f219:=Tryz.func105.trans (congrArg some (by kernel_rfl))
 f220:=Tryz.func67.trans (congrArg some (by kernel_rfl))
 f224:=Tryz.func142.trans (congrArg some (by kernel_rfl))
 f225:=Tryz.func141.trans (congrArg some (by kernel_rfl))
 f266:=Tryz.func166.trans (congrArg some (by kernel_rfl))
 f267:=Tryz.func143.trans (congrArg some (by kernel_rfl))
 f314:=Tryz.func167.trans (congrArg some (by kernel_rfl))
 t3:=Tryz.underlying3
 a3:=Tryz.isAgg3
 z3:=Tryz.sizeOf3
 v3:=Tryz.zeroValue3
 t4:=Tryz.underlying4
 a4:=Tryz.isAgg4
 z4:=Tryz.sizeOf4
 v4:=Tryz.zeroValue4
 t5:=Tryz.underlying5
 a5:=Tryz.isAgg5
 z5:=Tryz.sizeOf5
 v5:=Tryz.zeroValue5
 t9:=Tryz.underlying9
 a9:=Tryz.isAgg9
 z9:=Tryz.sizeOf9
 v9:=Tryz.zeroValue9
 t46:=Tryz.underlying114
 a46:=Tryz.isAgg114
 z46:=Tryz.sizeOf114
 v46:=Tryz.zeroValue114
 t51:=Tryz.underlying142
 a51:=Tryz.isAgg142
 z51:=Tryz.sizeOf142
 v51:=Tryz.zeroValue142
 t59:=Tryz.underlying67
 a59:=Tryz.isAgg67
 z59:=Tryz.sizeOf67
 v59:=Tryz.zeroValue67
 t146:=Tryz.underlying143
 a146:=Tryz.isAgg143
 z146:=Tryz.sizeOf143
 v146:=Tryz.zeroValue143
 g1:=by kernel_rfl }
def Tryz.laysAt_ren:Go.Shelf.Ren:=⟨λ|172=>106|244=>144|245=>145|247=>168|279=>169|280=>170|281=>171|282=>172|287=>177|316=>178|171=>107|205=>179|321=>184|322=>185|243=>146|246=>173|283=>180|284=>181|285=>182|286=>183|129=>187|317=>186|318=>188|319=>189|320=>190|337=>191|338=>192|n=>n,λ|9=>9|3=>3|75=>107|76=>108|4=>4|5=>5|167=>145|37=>22|0=>0|85=>146|2=>2|168=>148|53=>44|175=>158|46=>114|210=>162|127=>123|145=>172|143=>170|21=>21|171=>164|173=>167|212=>173|51=>142|20=>20|213=>174|232=>177|233=>178|80=>110|n=>n,λ|15=>3|16=>4|17=>5|18=>6|19=>7|n=>n⟩
theorem Tryz.laysAt:Go.Proofs.LaysC.n172 Tryz.prog Tryz.laysAt_ren:={
 mixed:=by kernel_rfl
 f129:=Tryz.func187.trans (congrArg some (by kernel_rfl))
 f171:=Tryz.func107.trans (congrArg some (by kernel_rfl))
 f172:=Tryz.func106.trans (congrArg some (by kernel_rfl))
 f205:=Tryz.func179.trans (congrArg some (by kernel_rfl))
 f243:=Tryz.func146.trans (congrArg some (by kernel_rfl))
 f244:=Tryz.func144.trans (congrArg some (by kernel_rfl))
 f245:=Tryz.func145.trans (congrArg some (by kernel_rfl))
 f246:=Tryz.func173.trans (congrArg some (by kernel_rfl))
 f247:=Tryz.func168.trans (congrArg some (by kernel_rfl))
 f279:=Tryz.func169.trans (congrArg some (by kernel_rfl))
 f280:=Tryz.func170.trans (congrArg some (by kernel_rfl))
 f281:=Tryz.func171.trans (congrArg some (by kernel_rfl))
 f282:=Tryz.func172.trans (congrArg some (by kernel_rfl))
 f283:=Tryz.func180.trans (congrArg some (by kernel_rfl))
 f284:=Tryz.func181.trans (congrArg some (by kernel_rfl))
 f285:=Tryz.func182.trans (congrArg some (by kernel_rfl))
 f286:=Tryz.func183.trans (congrArg some (by kernel_rfl))
 f287:=Tryz.func177.trans (congrArg some (by kernel_rfl))
 f316:=Tryz.func178.trans (congrArg some (by kernel_rfl))
 f317:=Tryz.func186.trans (congrArg some (by kernel_rfl))
 f318:=Tryz.func188.trans (congrArg some (by kernel_rfl))
 f319:=Tryz.func189.trans (congrArg some (by kernel_rfl))
 f320:=Tryz.func190.trans (congrArg some (by kernel_rfl))
 f321:=Tryz.func184.trans (congrArg some (by kernel_rfl))
 f322:=Tryz.func185.trans (congrArg some (by kernel_rfl))
 f337:=Tryz.func191.trans (congrArg some (by kernel_rfl))
 f338:=Tryz.func192.trans (congrArg some (by kernel_rfl))
 t0:=Tryz.underlying0
 a0:=Tryz.isAgg0
 z0:=Tryz.sizeOf0
 v0:=Tryz.zeroValue0
 t2:=Tryz.underlying2
 a2:=Tryz.isAgg2
 z2:=Tryz.sizeOf2
 v2:=Tryz.zeroValue2
 t3:=Tryz.underlying3
 a3:=Tryz.isAgg3
 z3:=Tryz.sizeOf3
 v3:=Tryz.zeroValue3
 t4:=Tryz.underlying4
 a4:=Tryz.isAgg4
 z4:=Tryz.sizeOf4
 v4:=Tryz.zeroValue4
 t5:=Tryz.underlying5
 a5:=Tryz.isAgg5
 z5:=Tryz.sizeOf5
 v5:=Tryz.zeroValue5
 t9:=Tryz.underlying9
 a9:=Tryz.isAgg9
 z9:=Tryz.sizeOf9
 v9:=Tryz.zeroValue9
 t20:=Tryz.underlying20
 a20:=Tryz.isAgg20
 z20:=Tryz.sizeOf20
 v20:=Tryz.zeroValue20
 t21:=Tryz.underlying21
 a21:=Tryz.isAgg21
 z21:=Tryz.sizeOf21
 v21:=Tryz.zeroValue21
 t37:=Tryz.underlying22
 a37:=Tryz.isAgg22
 z37:=Tryz.sizeOf22
 v37:=Tryz.zeroValue22
 t46:=Tryz.underlying114
 a46:=Tryz.isAgg114
 z46:=Tryz.sizeOf114
 v46:=Tryz.zeroValue114
 t51:=Tryz.underlying142
 a51:=Tryz.isAgg142
 z51:=Tryz.sizeOf142
 v51:=Tryz.zeroValue142
 t53:=Tryz.underlying44
 a53:=Tryz.isAgg44
 z53:=Tryz.sizeOf44
 v53:=Tryz.zeroValue44
 t75:=Tryz.underlying107
 a75:=Tryz.isAgg107
 z75:=Tryz.sizeOf107
 v75:=Tryz.zeroValue107
 t76:=Tryz.underlying108
 a76:=Tryz.isAgg108
 z76:=Tryz.sizeOf108
 v76:=Tryz.zeroValue108
 t85:=Tryz.underlying146
 a85:=Tryz.isAgg146
 z85:=Tryz.sizeOf146
 v85:=Tryz.zeroValue146
 t127:=Tryz.underlying123
 a127:=Tryz.isAgg123
 z127:=Tryz.sizeOf123
 v127:=Tryz.zeroValue123
 t143:=Tryz.underlying170
 a143:=Tryz.isAgg170
 z143:=Tryz.sizeOf170
 v143:=Tryz.zeroValue170
 t145:=Tryz.underlying172
 a145:=Tryz.isAgg172
 z145:=Tryz.sizeOf172
 v145:=Tryz.zeroValue172
 t167:=Tryz.underlying145
 a167:=Tryz.isAgg145
 z167:=Tryz.sizeOf145
 v167:=Tryz.zeroValue145
 t168:=Tryz.underlying148
 a168:=Tryz.isAgg148
 z168:=Tryz.sizeOf148
 v168:=Tryz.zeroValue148
 t171:=Tryz.underlying164
 a171:=Tryz.isAgg164
 z171:=Tryz.sizeOf164
 v171:=Tryz.zeroValue164
 t173:=Tryz.underlying167
 a173:=Tryz.isAgg167
 z173:=Tryz.sizeOf167
 v173:=Tryz.zeroValue167
 t175:=Tryz.underlying158
 a175:=Tryz.isAgg158
 z175:=Tryz.sizeOf158
 v175:=Tryz.zeroValue158
 t210:=Tryz.underlying162
 a210:=Tryz.isAgg162
 z210:=Tryz.sizeOf162
 v210:=Tryz.zeroValue162
 t212:=Tryz.underlying173
 a212:=Tryz.isAgg173
 z212:=Tryz.sizeOf173
 v212:=Tryz.zeroValue173
 t213:=Tryz.underlying174
 a213:=Tryz.isAgg174
 z213:=Tryz.sizeOf174
 t232:=Tryz.underlying177
 a232:=Tryz.isAgg177
 z232:=Tryz.sizeOf177
 v232:=Tryz.zeroValue177
 t233:=Tryz.underlying178
 a233:=Tryz.isAgg178
 z233:=Tryz.sizeOf178
 v233:=Tryz.zeroValue178
 g15:=by kernel_rfl
 g16:=by kernel_rfl
 g17:=by kernel_rfl
 g18:=by kernel_rfl
 g19:=by kernel_rfl
 t80:=Tryz.underlying110
 a80:=Tryz.isAgg110
 z80:=Tryz.sizeOf110
 v80:=Tryz.zeroValue110
 i0:=by kernel_rfl
 i2:=by kernel_rfl
 i3:=by kernel_rfl
 i4:=by kernel_rfl
 i5:=by kernel_rfl
 i9:=by kernel_rfl
 i20:=by kernel_rfl
 i21:=by kernel_rfl
 i37:=by kernel_rfl
 i46:=by kernel_rfl
 i51:=by kernel_rfl
 i53:=by kernel_rfl
 i75:=by kernel_rfl
 i76:=by kernel_rfl
 i80:=by kernel_rfl
 i85:=by kernel_rfl
 i127:=by kernel_rfl
 i143:=by kernel_rfl
 i145:=by kernel_rfl
 i167:=by kernel_rfl
 i168:=by kernel_rfl
 i171:=by kernel_rfl
 i173:=by kernel_rfl
 i175:=by kernel_rfl
 i210:=by kernel_rfl
 i212:=by kernel_rfl
 i232:=by kernel_rfl
 i233:=by kernel_rfl
 m15:=by kernel_rfl
 m16:=by kernel_rfl
 m17:=by kernel_rfl
 m18:=by kernel_rfl
 m19:=by kernel_rfl
 c0:=by kernel_rfl
 c2:=by kernel_rfl
 c3:=by kernel_rfl
 c4:=by kernel_rfl
 c5:=by kernel_rfl
 c9:=by kernel_rfl
 c20:=by kernel_rfl
 c21:=by kernel_rfl
 c37:=by kernel_rfl
 c46:=by kernel_rfl
 c51:=by kernel_rfl
 c53:=by kernel_rfl
 c75:=by kernel_rfl
 c76:=by kernel_rfl
 c80:=by kernel_rfl
 c85:=by kernel_rfl
 c127:=by kernel_rfl
 c143:=by kernel_rfl
 c145:=by kernel_rfl
 c167:=by kernel_rfl
 c168:=by kernel_rfl
 c171:=by kernel_rfl
 c173:=by kernel_rfl
 c175:=by kernel_rfl
 c210:=by kernel_rfl
 c212:=by kernel_rfl
 c213:=by kernel_rfl
 c232:=by kernel_rfl
 c233:=by kernel_rfl }
end Go.Proofs
namespace Go.Proofs.YteoaojbmnibpcaaGreatDoor
open Go Go.RowKit Go.Sort Go.Proofs.YteoaojbmnibpcaaGreatDoor.Abs
set_option linter.unusedSimpArgs false
set_option linter.unusedVariables false
theorem KG(n a b:Int)(w:World):Calls Tryz.prog 69 #[.int .i64 n,.int .i64 a,.int .i64 b] w λe w'=>e = .returned (.bool (decide (a<=n/\n<=b)))/\w'=w:=by
 by_cases h:a<=n
 .have e:decide (a<=n/\n<=b)=decide (n<=b):=by simp[h]
  rw[e]
  go_enter Tryz.func69,Tryz.ntmps69
  go_wp2
  go_ret
  simp
 .have e:decide (a<=n/\n<=b)=false:=by simp[h]
  rw[e]
  go_enter Tryz.func69,Tryz.ntmps69
  go_wp2
  go_ret
  simp
theorem jbP:Tryz.laysAt_ren.f 172=106:=by kernel_rfl
theorem jn7:Tryz.laysIt_ren.f 171=107:=by kernel_rfl
theorem jrl:Tryz.laysAt_ren.g 15=3:=by kernel_rfl
theorem jq5:Tryz.laysAt_ren.g 16=4:=by kernel_rfl
def jnj(w:World):Prop:=Lib.TabIs Tryz.prog w "internal/strconv.uint64pow10" .u64 Lib.pow10Tab
theorem jfy(s:ByteArray)(hmax:s.size<=9223372036854775806)(v:Int)(h:Lib.atoiAll s.data.toList = .ok v)(w:World) :
  Calls Tryz.prog 106 #[.string s] w λe w'=>e = .returned (.tuple #[.int .i64 v,.nilIface])/\RowKit.Below w.heap.size w w':=by
 have:=Any.strconv_Atoi_ok Tryz.laysAt s hmax v h w;rw[jbP]at this;refine this.mono ?_;rintro e w' ⟨rfl,rfl|⟨t,rfl⟩⟩
 .exact ⟨rfl,RowKit.Below.refl _ _⟩
 .exact ⟨rfl,Lib.bytesWorld_below _ _ _⟩
theorem jrn(s:ByteArray)(hlim:s.size<=281474976710656)(h:∀v,Lib.atoiAll s.data.toList≠ .ok v)(ev eu:Value)(w:World)(hv:w.cell? ⟨3,0,none⟩=some ev)(hev:ev = .nilIface\/ ∃te pe,ev = .iface te pe)(hu:w.cell? ⟨4,0,none⟩=some eu)(heu:eu = .nilIface\/ ∃te pe,eu = .iface te pe) :
  Calls Tryz.prog 106 #[.string s] w λe w'=>(∃n T p,e = .returned (.tuple #[.int .i64 n,.iface T p]))/\RowKit.Below w.heap.size w w':=by
 rcases hx:Lib.atoiAll s.data.toList with v|_|_
 .exact absurd hx (h v)
 .have:=Any.strconv_Atoi_syntax Tryz.laysAt s hlim hx ev w (by rw[jrl];exact hv) hev
  rw[jbP]at this;refine this.mono ?_;rintro e w' ⟨N,rfl,_,_,hb⟩;exact⟨⟨_,_,_,rfl⟩,hb⟩
 .have:=Any.strconv_Atoi_range Tryz.laysAt s hlim hx eu w (by rw[jq5];exact hu) heu
  rw[jbP]at this;refine this.mono ?_;rintro e w' ⟨N,rfl,_,_,hb⟩;exact⟨⟨_,_,_,rfl⟩,hb⟩
theorem jjh(w:World)(k:Nat)(os:Array Go.Obj):RowKit.Below w.heap.size w (grow (w.drewN k) os):=by
 refine⟨rfl,rfl,rfl,?_,λb hb=>?_⟩
 .simp [grow,World.drewN]
 .simp only[grow,World.drewN];rw[Array.getElem?_append_left hb]
theorem Yw(n:Int)(h0: -9223372036854775808<=n)(h1:n<=9223372036854775807)(w:World)(ht:jnj w) :
  Calls Tryz.prog 107 #[.int .i64 n] w λe w'=>e = .returned (.string ⟨(Lib.itoa n).toArray⟩)/\RowKit.Below w.heap.size w w':=by
 have:=Any.strconv_Itoa Tryz.laysIt n h0 h1 w ht;rw[jn7]at this;refine this.mono ?_;rintro e w' ⟨rfl,k,os,rfl⟩;exact⟨rfl,jjh _ _ _⟩
theorem Yl(s:ByteArray)(w:World)(hA:Calls Tryz.prog 106 #[.string s] w λe w'=>(∃n T p,e = .returned (.tuple #[.int .i64 n,.iface T p]))/\RowKit.Below w.heap.size w w') :
  Calls Tryz.prog 68 #[.string s] w λe w'=>e = .returned (.tuple #[.int .i64 0,.bool false])/\RowKit.Below w.heap.size w w':=by
 go_enter Tryz.func68,Tryz.ntmps68
 go_wp2_with (go_at_call 106;refine hA.mono ?_)
 rintro e W1 ⟨⟨n,T,p,rfl⟩,hb⟩
 go_wp2
 go_ret2
 exact⟨rfl,hb⟩
theorem jge(s:ByteArray)(hlim:s.size<=281474976710656)(v:Int)(h:Lib.atoiAll s.data.toList = .ok v)(w:World)(ht:∀w',RowKit.Below w.heap.size w w'->jnj w') :
  Calls Tryz.prog 68 #[.string s] w λe w'=>e = .returned (.tuple #[.int .i64 (if(-999999<=v/\v<=999999)/\Lib.itoa v=s.data.toList then v else 0),.bool (decide ((-999999<=v/\v<=999999)/\Lib.itoa v=s.data.toList))])/\RowKit.Below w.heap.size w w':=by
 by_cases h1: -999999<=v/\v<=999999
 .have hs:∀l:Xb,(⟨l.toArray⟩:ByteArray)=s↔l=s.data.toList:=λl=>by
   obtain⟨⟨d⟩⟩:=s;simp
  generalize hI:(⟨(Lib.itoa v).toArray⟩:ByteArray)=I;have hi:I=s↔Lib.itoa v=s.data.toList:=by rw[<-hI];exact hs _
  by_cases h2:I=s
  .have h3:=hi.1 h2;rw[if_pos ⟨h1,h3⟩,decide_eq_true ⟨h1,h3⟩]
   go_enter Tryz.func68,Tryz.ntmps68
   go_wp2_with (go_at_call 106;refine(jfy s (by omega) v h _).mono ?_)
   rintro e W1 ⟨rfl,hb⟩
   go_wp2_with (go_at_call 69;refine(KG _ _ _ _).mono ?_)
   rintro e W2 ⟨rfl,rfl⟩;rw[decide_eq_true h1]
   go_wp2_with (go_at_call 107;refine(Yw v (by omega) (by omega) _ (ht _ hb)).mono ?_)
   rintro e W3 ⟨rfl,hb2⟩;rw[hI]
   go_wp2
   go_ret2
   exact⟨rfl,hb.trans (hb2.mono hb.size)⟩
  .have h3:¬Lib.itoa v=s.data.toList:=λh=>h2 (hi.2 h);rw[if_neg (λh=>h3 h.2),decide_eq_false (λh=>h3 h.2)]
   go_enter Tryz.func68,Tryz.ntmps68
   go_wp2_with (go_at_call 106;refine(jfy s (by omega) v h _).mono ?_)
   rintro e W1 ⟨rfl,hb⟩
   go_wp2_with (go_at_call 69;refine(KG _ _ _ _).mono ?_)
   rintro e W2 ⟨rfl,rfl⟩;rw[decide_eq_true h1]
   go_wp2_with (go_at_call 107;refine(Yw v (by omega) (by omega) _ (ht _ hb)).mono ?_)
   rintro e W3 ⟨rfl,hb2⟩;rw[hI];have h4:(I.toList == s.toList)=false:=by
    rw[ByteArray.toList_eq,ByteArray.toList_eq,<-hI];exact beq_eq_false_iff_ne.2 h3
   go_wp2
   go_ret2
   exact⟨rfl,hb.trans (hb2.mono hb.size)⟩
 .rw [if_neg (λh=>h1 h.1),decide_eq_false (λh=>h1 h.1)]
  go_enter Tryz.func68,Tryz.ntmps68
  go_wp2_with (go_at_call 106;refine(jfy s (by omega) v h _).mono ?_)
  rintro e W1 ⟨rfl,hb⟩
  go_wp2_with (go_at_call 69;refine(KG _ _ _ _).mono ?_)
  rintro e W2 ⟨rfl,rfl⟩;rw[decide_eq_false h1]
  go_wp2
  go_ret2
  exact⟨rfl,hb⟩
def gP:Nat:=5
def gM:Nat:=0
def gS:Nat:=3
def gR:Nat:=4
theorem jgA:Tryz.prog.globalNamed "internal/strconv.uint64pow10" = some gP:=by kernel_rfl
def Ifc(g:Nat)(w:World):Prop:=∃te pe,w.cell? ⟨g,0,none⟩=some (.iface te pe)
def jlD(w:World):Prop:=jnj w/\(∃m,w.cell? ⟨gM,0,none⟩=some (.int .i64 m))/\Ifc gS w/\Ifc gR w
def jpw(b:Nat):Prop:=b=gP\/b=gM\/b=gS\/b=gR
theorem Q7{w w':World}{g:Nat}(h:w'.heap[g]? = w.heap[g]?):w'.cell? ⟨g,0,none⟩=w.cell? ⟨g,0,none⟩:=by simp[World.cell?,h]
theorem ja7{w w':World}(h:∀b,jpw b->w'.heap[b]? = w.heap[b]?)(hw:jlD w):jlD w':=by
 obtain⟨h1,⟨m,h2⟩,⟨a,b,h3⟩,⟨c,d,h4⟩⟩:=hw;refine⟨?_,⟨m,?_⟩,⟨a,b,?_⟩,⟨c,d,?_⟩⟩
 .unfold jnj Lib.TabIs World.var? at *;rw[jgA]at *;simp only[Option.bind_some]at *;rw[h gP (Or.inl rfl)];exact h1
 .rw [Q7 (h gM (Or.inr (Or.inl rfl)))];exact h2
 .rw [Q7 (h gS (Or.inr (Or.inr (Or.inl rfl))))];exact h3
 .rw [Q7 (h gR (Or.inr (Or.inr (Or.inr rfl))))];exact h4
theorem jlv{w:World}(hw:jlD w):∀b,jpw b->b<w.heap.size:=by
 obtain⟨h1,⟨m,h2⟩,⟨a,b,h3⟩,⟨c,d,h4⟩⟩:=hw;rintro x (rfl|rfl|rfl|rfl)
 .unfold jnj Lib.TabIs World.var? at h1;rw[jgA]at h1;simp only[Option.bind_some]at h1;rcases Nat.lt_or_ge gP w.heap.size with h|h
  .exact h
  .rw [Array.getElem?_eq_none h]at h1;simp at h1
 .exact Lib.lt_of_cell h2
 .exact Lib.lt_of_cell h3
 .exact Lib.lt_of_cell h4
def Xt:Ctx:=⟨jlD,jpw,λ_ _ h hw=>ja7 h hw⟩
theorem Zx{n:Nat}{w w':World}(h:RowKit.Below n w w'):Abs.Below n w w':=⟨h.os,h.tape,⟨h.output,trivial⟩,h.size,h.block⟩
theorem jhA:Enters Tryz.prog 107:=
 yJ Tryz.func107 (QW.names _ _ Tryz.func107) (zP rfl)
theorem jn8(args:Xd)(out:Out)(h:jkS args=some out):yd Xt Tryz.prog 107 args out:=by
 unfold jkS at h;split at h;rotate_left
 .cases h
 rename_i n;split at h;rotate_left
 .cases h
 rename_i hn;cases h;refine⟨jhA,λw O vs hj _ _ hrel=>?_⟩;simp only[jm,rel]at hrel;obtain⟨v,r,rfl,rfl,rfl⟩:=hrel;refine(Yw n hn.1 hn.2 w hj.1).mono ?_;rintro e w' ⟨rfl,hb⟩;exact⟨_,rfl,Zx hb,by simp only[rel]⟩
theorem jh6:Enters Tryz.prog 68:=
 yJ Tryz.func68 (QW.names _ _ Tryz.func68) (zP rfl)
theorem jo7(args:Xd)(out:Out)(h:jla args=some out):yd Xt Tryz.prog 68 args out:=by
 unfold jla at h;split at h;rotate_left
 .cases h
 rename_i s;split at h;rotate_left
 .cases h
 rename_i hn;cases h;refine⟨jh6,λw O vs hj _ _ hrel=>?_⟩;simp only[jm,rel]at hrel;obtain⟨v,r,rfl,rfl,rfl⟩:=hrel;have fin:∀o:Option Int,rel w O (.tup [.val (.int .i64 (o.getD 0)),.val (.bool o.isSome)]) (.tuple #[.int .i64 (o.getD 0),.bool o.isSome]):=λo=>by
  simp only[rel,jm];exact⟨_,rfl,_,_,rfl,rfl,_,_,rfl,rfl,rfl⟩
 have fin':∀(w':World)(o:Option Int),rel w' O (.tup [.val (.int .i64 (o.getD 0)),.val (.bool o.isSome)]) (.tuple #[.int .i64 (o.getD 0),.bool o.isSome]):=λw' o=>by
  simp only[rel,jm];exact⟨_,rfl,_,_,rfl,rfl,_,_,rfl,rfl,rfl⟩
 have hj0:=hj;obtain⟨h1,_,⟨a,b,h3⟩,⟨c,d,h4⟩⟩:=hj0;by_cases hx:∃v,Lib.atoiAll s.data.toList = .ok v
 .obtain ⟨v,h⟩:=hx;refine(jge s hn v h w λw' hb=>(ja7 (λx hx=>hb.block x (jlv hj x hx)) hj).1).mono ?_;rintro e w' ⟨rfl,hb⟩;have e1:kU s.data.toList=if(-999999<=v/\v<=999999)/\Lib.itoa v=s.data.toList then some v else none:=by unfold kU;rw[h]
  refine⟨_,rfl,Zx hb,?_⟩;have:=fin' w' (kU s.data.toList);rw[e1]at this⊢;by_cases hc:(-999999<=v/\v<=999999)/\Lib.itoa v=s.data.toList
  .rw [if_pos hc]at this⊢;rw[if_pos hc,decide_eq_true hc];exact this
  .rw [if_neg hc]at this⊢;rw[if_neg hc,decide_eq_false hc];exact this
 .refine (Yl s w (jrn s hn (λv hv=>hx ⟨v,hv⟩) _ _ w h3 (Or.inr ⟨_,_,rfl⟩) h4 (Or.inr ⟨_,_,rfl⟩))).mono ?_;rintro e w' ⟨rfl,hb⟩;have e1:kU s.data.toList=none:=by
   unfold kU;rcases hy:Lib.atoiAll s.data.toList with v|_|_
   .exact absurd ⟨v,hy⟩ hx
   .rfl
   .rfl
  refine⟨_,rfl,Zx hb,?_⟩;rw[e1];exact fin' w' none
theorem jp8:Tryz.laysCt_ren.f 145=35:=by kernel_rfl
theorem ji4:Enters Tryz.prog 35:=
 yJ Tryz.func35 (QW.names _ _ Tryz.func35) (zP rfl)
theorem jg8(w:World)(n:Nat):Abs.Below w.heap.size w (w.drewN n):=⟨rfl,rfl,⟨rfl,trivial⟩,Nat.le_refl _,λ_ _=>rfl⟩
theorem jp9(args:Xd)(out:Out)(h:jp7 args=some out):yd Xt Tryz.prog 35 args out:=by
 unfold jp7 at h;split at h;rotate_left
 .cases h
 rename_i s sep;split at h;rotate_left
 .cases h
 rename_i hn;cases h;refine⟨ji4,λw O vs hj _ _ hrel=>?_⟩;simp only[jm,rel]at hrel;obtain⟨v,r,rfl,rfl,v',r',rfl,rfl,rfl⟩:=hrel;obtain⟨m,hm⟩:=hj.2.1;have hm:w.cell? ⟨Tryz.laysCt_ren.g 1,0,none⟩=some (.int .i64 m):=hm;have:=Any.strings_Cut Tryz.laysCt s sep m w hn hm;rw[jp8]at this;refine this.mono ?_;rintro e w' ⟨rfl,n,rfl⟩;refine⟨_,rfl,jg8 w n,?_⟩;simp only[rel,jm];exact⟨_,rfl,_,_,rfl,rfl,_,_,rfl,rfl,_,_,rfl,rfl,rfl⟩
theorem jmQ:Tryz.laysSp_ren.f 146=21:=by kernel_rfl
theorem jgu:Enters Tryz.prog 21:=
 yJ Tryz.func21 (QW.names _ _ Tryz.func21) (zP rfl)
theorem jmR(args:Xd)(out:Out)(h:jgt args=some out):yd Xt Tryz.prog 21 args out:=by
 unfold jgt at h;split at h;rotate_left
 .cases h
 rename_i s sep;split at h;rotate_left
 .cases h
 rename_i hn;cases h;refine⟨jgu,λw O vs hj _ hOl hrel=>?_⟩;simp only[jm,rel]at hrel;obtain⟨v,r,rfl,rfl,v',r',rfl,rfl,rfl⟩:=hrel;obtain⟨m,hm⟩:=hj.2.1;have hm:w.cell? ⟨Tryz.laysSp_ren.g 1,0,none⟩=some (.int .i64 m):=hm;have:=Any.strings_Split { Tryz.laysSp with } Tryz.laysSp.i9 s sep m w hn.2 hm hn.1;rw[jmQ]at this;refine this.mono ?_;rintro e w' ⟨rfl,rfl⟩;exact⟨_,rfl,(Abs.Below.refl _ _).alloc (Nat.le_refl _) _,jmS s sep hn.1 hn.2 (λho=>Nat.lt_irrefl _ (hOl _ ho)) _⟩
theorem jhC:Tryz.laysJn_ren.f 156=51:=by kernel_rfl
theorem jhB:Enters Tryz.prog 51:=
 yJ Tryz.func51 (QW.names _ _ Tryz.func51) (zP rfl)
theorem jcm:Go.Proofs.Builder.Extra Tryz.prog Tryz.laysJn_ren where
 sizeBuilder:=by kernel_rfl
 liesBuilder:=by kernel_rfl
 t5:=Tryz.laysSp.t5
 a5:=Tryz.laysSp.a5
 z5:=Tryz.laysSp.z5
 v5:=Tryz.laysSp.v5
 infoByte:=by kernel_rfl
 cellsByte:=by kernel_rfl
 sizeByte:=by kernel_rfl
 neB5:=by decide
theorem jn9(args:Xd)(out:Out)(h:jkT args=some out):yd Xt Tryz.prog 51 args out:=by
 unfold jkT at h;split at h;rotate_left
 .cases h
 rename_i k rows sep;split at h;rotate_left
 .cases h
 rename_i hk;subst hk;obtain⟨xs,hx,h⟩:=Option.bind_eq_some_iff.1 h;split at h;rotate_left
 .cases h
 rename_i hn;cases h;refine⟨jhB,λw O vs hj _ _ hrel=>?_⟩;simp only[jm,rel]at hrel;obtain⟨v,r,rfl,⟨a,cap,rfl,hc1,hc2,hor⟩,v',r',rfl,rfl,rfl⟩:=hrel;rcases hor with rfl|⟨b,off,rfl,hb,hO,hr⟩
 .cases hx;have:=Any.strings_Join_none Tryz.laysJn jcm a cap sep w;rw[jhC]at this;refine this.mono ?_;rintro e w' ⟨rfl,rfl⟩;exact⟨_,rfl,Abs.Below.refl _ _,by simp only[rel];rfl⟩
 .have hl:=jiB hx;have:=Any.strings_Join Tryz.laysJn jcm b off cap xs sep w (jeS hr hx) hb hn.1 (by omega) hn.2;rw[jhC,hl]at this;refine this.mono ?_;rintro e w' ⟨rfl,hB⟩;exact⟨_,rfl,⟨hB.os,hB.tape,⟨hB.output,trivial⟩,hB.size,hB.block⟩,by simp only[rel]⟩
theorem jpL{X:Ctx}(f:FuncId)(x:ExtV)(args:Xj)(objs:List Abs.Obj)(sgs:Sig)(sg:SigA)(qs:List (FuncId×Xd))(outs:List Out)(out:Out)(h1:K.extv f=some x)(h2:K.sig f=some sgs)(h3:qT objs.length sgs=some sg)(hq:x.ask args objs=some qs)(hok:jgG X K.P qs outs)(h4:x.ans args objs outs=some out):SOk X K.P f args objs sg out:=by
 have h1:(none:Option ExtV)=some x:=h1;cases h1
theorem jvF{f:FuncId}{args:Xd}{out:Out}(hs:K.pureF f=true)(h:G f args=some out):yd Xt Tryz.prog f args out:=by
 refine jtM QW (λf x args out h h2=>?_) jpL f args out hs h;have h:KV none f jfE=some x:=h;unfold jfE at h;simp only[KV]at h;have step:∀(n:Nat)(y:Xd->Xe)(r:Option (Xd->Xe)),(match Nat.beq f n with|true=>some y|false=>r)=some x->(f=n/\y=x)\/r=some x:=λn y r h=>by
  cases hb:Nat.beq f n with
  |true=>rw[hb]at h;exact Or.inl ⟨Nat.eq_of_beq_eq_true hb,Option.some.inj h⟩
  |false=>rw[hb]at h;exact Or.inr h
 rcases step _ _ _ h with⟨hf,hx⟩|h
 .subst hf;subst hx;exact jn8 args out h2
 rcases step _ _ _ h with⟨hf,hx⟩|h
 .subst hf;subst hx;exact jn9 args out h2
 rcases step _ _ _ h with⟨hf,hx⟩|h
 .subst hf;subst hx;exact jmR args out h2
 rcases step _ _ _ h with⟨hf,hx⟩|h
 .subst hf;subst hx;exact jp9 args out h2
 rcases step _ _ _ h with⟨hf,hx⟩|h
 .subst hf;subst hx;exact jo7 args out h2
 cases h
open Go Go.ChangeShapes Go.WideShapes Go.ChangeAt Go.RowKit Go.Proofs.YteoaojbmnibpcaaGreatDoor.Abs
theorem Tryz.ownK:ownKnob Tryz.prog.godebug=none:=by kernel_rfl
theorem Tryz.laidO:laidOutB Tryz.prog=true:=by kernel_rfl
theorem jpk:laidOutB Tryz.pinned.checked.prog=true:=by kernel_rfl
theorem jmM:mapsRowed Tryz.pinned.checked.prog=true:=by kernel_rfl
theorem jrd:true=Tryz.pinned.checked.prog.looks []:=by kernel_rfl
abbrev lst:List (String×DataW Unit):=Rows.fnExactParseStepRow.laid
theorem jxc:(Tryz.prog.globals[gP]?).map (·.type)=some 173:=by kernel_rfl
theorem jxd:Tryz.prog.underlying 173=some (.array 20 44):=by kernel_rfl
theorem jxb:Tryz.prog.underlying 44=some (.int .u64):=by kernel_rfl
theorem ju7:Tryz.prog.globalNamed "strconv.ErrSyntax" = some gS:=by kernel_rfl
theorem juV:Tryz.prog.globalNamed "strconv.ErrRange" = some gR:=by kernel_rfl
theorem jxa:(Tryz.prog.globals[gS]?).map (·.type)=some 107:=by kernel_rfl
theorem jw3:(Tryz.prog.globals[gR]?).map (·.type)=some 107:=by kernel_rfl
theorem star: "*" ++ "errors.errorString" = "*errors.errorString" :=by decide
theorem juk(u:TypeId)(h:Tryz.prog.typeName? 3 u=some "*errors.errorString"):u=170:=
 typeName_ptr_named (nm:= "errors.errorString") (by rw[star];kernel_rfl) (by kernel_rfl) (by decide) u (by rw[star];exact h)
theorem jnG:Tryz.prog.cellsOf 172=1:=by kernel_rfl
theorem jnH:Tryz.prog.cellsOf 9=1:=by kernel_rfl
theorem jn0{n:String}{g:Nat}{w:World}{p:Value}(hg:Tryz.prog.globalNamed n=some g)(hv:w.var? Tryz.prog n=some #[.iface 170 p]):Ifc g w:=by
 have:=World.var?_cell hg hv 0;exact⟨_,_,by simpa using this⟩
theorem jtu{w:World}(h:laidMet Tryz.prog lst w)(hs:w.ShapedOpen Tryz.prog):jlD w:=by
 refine⟨?_,?_,?_,?_⟩
 .have h3:laidMet Tryz.prog (("internal/strconv.uint64pow10",Lib.tabData .u64 Lib.pow10Tab)::lst.drop 3) w:=by
   have e:(Rows.laid_internal_strconv_uint64pow10:DataW Unit)=Lib.tabData .u64 Lib.pow10Tab:=by kernel_rfl
   have:=h.tail.tail;rw[<-e];exact this
  exact Lib.tabIs_of_head jgA jxc jxd jxb (by kernel_rfl) (by kernel_rfl) h3
 .obtain ⟨m,hm⟩:=Tryz.laysSp.s1_3 w hs;exact⟨m,hm⟩
 .have h5:=h.tail.tail.tail.tail.tail;obtain⟨a,s,hv,_⟩:=laid_sentinel h5 ju7 jxa Tryz.underlying107 juk Tryz.underlying170 Tryz.underlying172 rfl rfl Tryz.underlying9 jnG jnH;exact jn0 ju7 hv
 .have h4:=h.tail.tail.tail.tail;obtain⟨a,s,hv,_⟩:=laid_sentinel h4 juV jw3 Tryz.underlying107 juk Tryz.underlying170 Tryz.underlying172 rfl rfl Tryz.underlying9 jnG jnH;exact jn0 juV hv
def jrD:Nat->DataW Unit->Xh
 |n+1,.agg l=>l.flatMap (jrD n)
 |_,.lit (.int k z)=>[.int k z]
 |_,_=>[]
def jos(g:Nat)(d:DataW Unit)(h:Array Obj):Array Obj:=h.modify g λ
 |.cells _ t frozen=>.cells (jrD 4 d).toArray t frozen
 |o=>o
def juy(g b:Nat)(h:Array Obj):Array Obj:=h.modify g λ
 |.cells _ t frozen=>.cells #[.iface 170 (.pointer (some ⟨b,0,none⟩))] t frozen
 |o=>o
abbrev jw9:ByteArray:={ data:=#[105,110,118,97,108,105,100,32,115,121,110,116,97,120] }
abbrev jw2:ByteArray:={ data:=#[118,97,108,117,101,32,111,117,116,32,111,102,32,114,97,110,103,101] }
noncomputable def low:Nat:=(World.holding Tryz.prog default ⟨#[],#[],[]⟩).heap.size
noncomputable def jr2(os:Os):World:=
 let w0:=World.holding Tryz.prog os ⟨#[.cells #[.string jw2] 172,.cells #[.string jw9] 172],#[],[]⟩
 { w0 with heap:=juy gR low (juy gS (low+1) (jos 1 Rows.laid_unicode_utf8_first (jos 2 Rows.laid_unicode_utf8_acceptRanges (jos gP Rows.laid_internal_strconv_uint64pow10 (jos 7 Rows.laid_math_bits_deBruijn64tab (jos 6 Rows.laid_math_bits_deBruijn32tab w0.heap)))))) }
set_option maxRecDepth 100000 in
theorem jl0(os:Os)(args:Array Value):laidMetH Tryz.prog lst ((jr2 os).forCall (λ_ _=>0) ⟨#[],args,[]⟩).memory:=
 laidMetH_of_parts (laidMet_of_run' 8 (by kernel_rfl) (by kernel_rfl)) (by kernel_rfl)
theorem jhn{H:Type}{enc:TypeId×Value->H}{a:Assume}{C:Checked}{os:Os}{f:FuncId}{fn:Func}{s:ChangeSpec}{conds:List PathCond}{apart fresh handsOn again:Bool}{X:World->Array Value->Prop}
  (hX:∀(w w':World)(args:Array Value),w.heap=w'.heap->X w args->X w' args)
  (own:ownKnob C.prog.godebug=none) (started:os.Started) (noInit:C.prog.inits.idxOf? f=none) (hfn:C.prog.funcs[f]? = some fn)
  (witness:∃(w:World)(tape:Tape)(i:Input),w.os=os/\(w.forCall tape i).Shaped C.prog/\i.vars=[]/\Input.okWide C.prog (w.forCall tape i) .any w.heap.size f i/\
   ((s.pre enc C.prog fn conds apart (w.forCall tape i).memory i.args/\X (w.forCall tape i).memory i.args)/\sizedMet enc C.prog fn (OpenSpec.ofChange s) apart (w.forCall tape i).memory i.args)/\a.holds C.prog (lone (Frame.enter C.prog f i.args .normal) [] (w.forCall tape i)))
  (contract:∀(W:World)(base:Nat)(args:Array Value)(ds gs:List (DataW H))(before:List MemPlace),
   (∀(j:Nat) t v,fn.params[j]? = some t->args[j]? = some v->Value.okWide C.prog W .any base t v)->
   DataW.Whole enc C.prog fn.params.toList s.vars apart W args.toList ds gs before->
   conds.all (PathCond.test C.prog ⟨fn.params.toList,ds,s.plain.varTypes C.prog,gs⟩)=true->
   (DataW.weightsEach C.prog (fn.params.toList++s.plain.varTypes C.prog) (ds++gs)).all (· <=reachBytes)=true->X W args->W.ShapedOpen C.prog->
   a.holds C.prog (lone (Frame.enter C.prog f args .normal) [] W)->
   Calls C.prog f args W λe W'=>∃v,e = .returned v/\s.post enc C.prog fn apart fresh handsOn again W args v W') :
  ReturnsInHanded a C os f .any (λw args=>(s.pre enc C.prog fn conds apart w args/\X w args)/\sizedMet enc C.prog fn (OpenSpec.ofChange s) apart w args) (s.post enc C.prog fn apart fresh handsOn again):=
 returnsInHanded_of_calls own started noInit witness λw tape i _ hsh _ hok hpre hh=>by
  obtain⟨_,_,_,fn',hfn',_,_,_,_,hval⟩:=hok;obtain rfl:fn'=fn:=Option.some.inj (hfn'.symm.trans hfn);obtain⟨⟨⟨ds,gs,before,hw,hc⟩,hx⟩,hz⟩:=hpre;refine(contract (w.forCall tape i) w.heap.size i.args ds gs before hval (DataW.Whole.of_heap (by rfl) hw) hc (hz.weights hw) (hX _ _ _ (by rfl) hx) hsh hh).mono λe W' ⟨v,he,hp⟩=>?_;subst he;exact ChangeSpec.post_blind hp
end Go.Proofs.YteoaojbmnibpcaaGreatDoor
