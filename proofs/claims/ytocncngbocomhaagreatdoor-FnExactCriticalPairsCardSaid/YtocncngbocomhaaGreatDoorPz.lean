/- Pz -/
import Derived.Test.YtocncngbocomhaaGreatDoorSn
import Derived.Shelf.Sort.Plain
import Derived.Shelf.Slices.In.SortNone
import Derived.Shelf.Strconv.Itoa3
import Derived.Shelf.SlSortCmp.NoneTotal
import Derived.Test.YtocncngbocomhaaGreatDoorE23
import Derived.Lib.LaidTab
import Derived.Test.YtocncngbocomhaaGreatDoorCards
import Derived.Test.YtocncngbocomhaaGreatDoorTie
import Derived.ProofKit
import Derived.SizedLaws
import Derived.LaidLaws
import Derived.LaidHandle
import Derived.Stop.LaidErr
import Derived.SevenTiedAt
import Derived.JoinedOf
import Derived.Lib.RowBridge
import Derived.Test.YtocncngbocomhaaGreatDoorPd
namespace Go.Proofs
open Go.Shelf
set_option linter.unusedSimpArgs false
set_option linter.unusedVariables false
def Tryz.lays190_ren:Go.Shelf.Ren:=⟨λ|190=>71|125=>102|258=>101|128=>135|129=>136|302=>126|303=>127|304=>128|305=>129|306=>130|307=>131|308=>132|309=>133|310=>134|333=>149|329=>150|330=>151|334=>152|335=>153|336=>146|344=>166|n=>n,λ|31=>40|9=>9|3=>3|46=>108|0=>0|51=>134|53=>136|4=>4|183=>127|182=>126|131=>75|5=>5|218=>147|222=>151|228=>162|229=>163|n=>n,λ|n=>n⟩
theorem Tryz.lays190:Go.Proofs.Lays.n190 Tryz.prog Tryz.lays190_ren:={
 mixed:=by kernel_rfl
 f125:=Tryz.func102.trans (congrArg some (by kernel_rfl))
 f128:=Tryz.func135.trans (congrArg some (by kernel_rfl))
 f129:=Tryz.func136.trans (congrArg some (by kernel_rfl))
 f190:=Tryz.func71.trans (congrArg some (by kernel_rfl))
 f258:=Tryz.func101.trans (congrArg some (by kernel_rfl))
 f302:=Tryz.func126.trans (congrArg some (by kernel_rfl))
 f303:=Tryz.func127.trans (congrArg some (by kernel_rfl))
 f304:=Tryz.func128.trans (congrArg some (by kernel_rfl))
 f305:=Tryz.func129.trans (congrArg some (by kernel_rfl))
 f306:=Tryz.func130.trans (congrArg some (by kernel_rfl))
 f307:=Tryz.func131.trans (congrArg some (by kernel_rfl))
 f308:=Tryz.func132.trans (congrArg some (by kernel_rfl))
 f309:=Tryz.func133.trans (congrArg some (by kernel_rfl))
 f310:=Tryz.func134.trans (congrArg some (by kernel_rfl))
 f329:=Tryz.func150.trans (congrArg some (by kernel_rfl))
 f330:=Tryz.func151.trans (congrArg some (by kernel_rfl))
 f333:=Tryz.func149.trans (congrArg some (by kernel_rfl))
 f334:=Tryz.func152.trans (congrArg some (by kernel_rfl))
 f335:=Tryz.func153.trans (congrArg some (by kernel_rfl))
 f336:=Tryz.func146.trans (congrArg some (by kernel_rfl))
 f344:=Tryz.func166.trans (congrArg some (by kernel_rfl))
 t0:=Tryz.underlying0
 a0:=Tryz.isAgg0
 z0:=Tryz.sizeOf0
 v0:=Tryz.zeroValue0
 t3:=Tryz.underlying3
 a3:=Tryz.isAgg3
 z3:=Tryz.sizeOf3
 v3:=Tryz.zeroValue3
 t4:=Tryz.underlying4
 a4:=Tryz.isAgg4
 z4:=Tryz.sizeOf4
 v4:=Tryz.zeroValue4
 t5:=Tryz.underlying5
 a5:=Tryz.isAgg5
 z5:=Tryz.sizeOf5
 v5:=Tryz.zeroValue5
 t9:=Tryz.underlying9
 a9:=Tryz.isAgg9
 z9:=Tryz.sizeOf9
 v9:=Tryz.zeroValue9
 t31:=Tryz.underlying40
 a31:=Tryz.isAgg40
 z31:=Tryz.sizeOf40
 v31:=Tryz.zeroValue40
 t46:=Tryz.underlying108
 a46:=Tryz.isAgg108
 z46:=Tryz.sizeOf108
 v46:=Tryz.zeroValue108
 t51:=Tryz.underlying134
 a51:=Tryz.isAgg134
 z51:=Tryz.sizeOf134
 v51:=Tryz.zeroValue134
 t53:=Tryz.underlying136
 a53:=Tryz.isAgg136
 z53:=Tryz.sizeOf136
 v53:=Tryz.zeroValue136
 t131:=Tryz.underlying75
 a131:=Tryz.isAgg75
 z131:=Tryz.sizeOf75
 v131:=Tryz.zeroValue75
 t182:=Tryz.underlying126
 a182:=Tryz.isAgg126
 z182:=Tryz.sizeOf126
 v182:=Tryz.zeroValue126
 t183:=Tryz.underlying127
 a183:=Tryz.isAgg127
 z183:=Tryz.sizeOf127
 v183:=Tryz.zeroValue127
 t218:=Tryz.underlying147
 a218:=Tryz.isAgg147
 z218:=Tryz.sizeOf147
 v218:=Tryz.zeroValue147
 t222:=Tryz.underlying151
 a222:=Tryz.isAgg151
 z222:=Tryz.sizeOf151
 v222:=Tryz.zeroValue151
 t228:=Tryz.underlying162
 a228:=Tryz.isAgg162
 z228:=Tryz.sizeOf162
 v228:=Tryz.zeroValue162
 t229:=Tryz.underlying163
 a229:=Tryz.isAgg163
 z229:=Tryz.sizeOf163
 v229:=Tryz.zeroValue163 }
def Tryz.laysIt_ren:Go.Shelf.Ren:=⟨λ|171=>74|243=>108|246=>144|283=>154|284=>155|285=>156|286=>157|129=>136|317=>167|318=>168|319=>169|320=>170|337=>174|338=>175|n=>n,λ|3=>3|9=>9|2=>2|4=>4|171=>153|0=>0|53=>136|37=>72|5=>5|173=>155|212=>167|51=>134|20=>20|213=>168|46=>108|232=>173|233=>174|n=>n,λ|17=>0|18=>1|19=>2|n=>n⟩
theorem Tryz.laysIt:Go.Proofs.LaysM.n171 Tryz.prog Tryz.laysIt_ren:={
 mixed:=by kernel_rfl
 f129:=Tryz.func136.trans (congrArg some (by kernel_rfl))
 f171:=Tryz.func74.trans (congrArg some (by kernel_rfl))
 f243:=Tryz.func108.trans (congrArg some (by kernel_rfl))
 f246:=Tryz.func144.trans (congrArg some (by kernel_rfl))
 f283:=Tryz.func154.trans (congrArg some (by kernel_rfl))
 f284:=Tryz.func155.trans (congrArg some (by kernel_rfl))
 f285:=Tryz.func156.trans (congrArg some (by kernel_rfl))
 f286:=Tryz.func157.trans (congrArg some (by kernel_rfl))
 f317:=Tryz.func167.trans (congrArg some (by kernel_rfl))
 f318:=Tryz.func168.trans (congrArg some (by kernel_rfl))
 f319:=Tryz.func169.trans (congrArg some (by kernel_rfl))
 f320:=Tryz.func170.trans (congrArg some (by kernel_rfl))
 f337:=Tryz.func174.trans (congrArg some (by kernel_rfl))
 f338:=Tryz.func175.trans (congrArg some (by kernel_rfl))
 t0:=Tryz.underlying0
 a0:=Tryz.isAgg0
 z0:=Tryz.sizeOf0
 v0:=Tryz.zeroValue0
 t2:=Tryz.underlying2
 a2:=Tryz.isAgg2
 z2:=Tryz.sizeOf2
 v2:=Tryz.zeroValue2
 t3:=Tryz.underlying3
 a3:=Tryz.isAgg3
 z3:=Tryz.sizeOf3
 v3:=Tryz.zeroValue3
 t4:=Tryz.underlying4
 a4:=Tryz.isAgg4
 z4:=Tryz.sizeOf4
 v4:=Tryz.zeroValue4
 t5:=Tryz.underlying5
 a5:=Tryz.isAgg5
 z5:=Tryz.sizeOf5
 v5:=Tryz.zeroValue5
 t9:=Tryz.underlying9
 a9:=Tryz.isAgg9
 z9:=Tryz.sizeOf9
 v9:=Tryz.zeroValue9
 t20:=Tryz.underlying20
 a20:=Tryz.isAgg20
 z20:=Tryz.sizeOf20
 v20:=Tryz.zeroValue20
 t37:=Tryz.underlying72
 a37:=Tryz.isAgg72
 z37:=Tryz.sizeOf72
 v37:=Tryz.zeroValue72
 t46:=Tryz.underlying108
 a46:=Tryz.isAgg108
 z46:=Tryz.sizeOf108
 v46:=Tryz.zeroValue108
 t51:=Tryz.underlying134
 a51:=Tryz.isAgg134
 z51:=Tryz.sizeOf134
 v51:=Tryz.zeroValue134
 t53:=Tryz.underlying136
 a53:=Tryz.isAgg136
 z53:=Tryz.sizeOf136
 v53:=Tryz.zeroValue136
 t171:=Tryz.underlying153
 a171:=Tryz.isAgg153
 z171:=Tryz.sizeOf153
 v171:=Tryz.zeroValue153
 t173:=Tryz.underlying155
 a173:=Tryz.isAgg155
 z173:=Tryz.sizeOf155
 v173:=Tryz.zeroValue155
 t212:=Tryz.underlying167
 a212:=Tryz.isAgg167
 z212:=Tryz.sizeOf167
 v212:=Tryz.zeroValue167
 t213:=Tryz.underlying168
 a213:=Tryz.isAgg168
 z213:=Tryz.sizeOf168
 t232:=Tryz.underlying173
 a232:=Tryz.isAgg173
 z232:=Tryz.sizeOf173
 v232:=Tryz.zeroValue173
 t233:=Tryz.underlying174
 a233:=Tryz.isAgg174
 z233:=Tryz.sizeOf174
 v233:=Tryz.zeroValue174
 g17:=by kernel_rfl
 g18:=by kernel_rfl
 g19:=by kernel_rfl
 i0:=by kernel_rfl
 i2:=by kernel_rfl
 i3:=by kernel_rfl
 i4:=by kernel_rfl
 i5:=by kernel_rfl
 i9:=by kernel_rfl
 i20:=by kernel_rfl
 i37:=by kernel_rfl
 i46:=by kernel_rfl
 i51:=by kernel_rfl
 i53:=by kernel_rfl
 i171:=by kernel_rfl
 i173:=by kernel_rfl
 i212:=by kernel_rfl
 i232:=by kernel_rfl
 i233:=by kernel_rfl
 m17:=by kernel_rfl
 m18:=by kernel_rfl
 m19:=by kernel_rfl }
def Tryz.laysSB_ren:Go.Shelf.Ren:=⟨λ|6=>112|15=>102|14=>145|28=>135|29=>136|20=>158|21=>159|22=>160|23=>161|24=>162|25=>163|26=>164|27=>165|46=>171|47=>150|48=>151|49=>172|50=>173|57=>176|n=>n,λ|22=>57|24=>85|25=>117|3=>3|39=>108|0=>0|53=>134|55=>136|4=>4|46=>127|45=>126|50=>75|5=>5|9=>9|66=>147|70=>151|76=>162|77=>163|n=>n,λ|n=>n⟩
theorem Tryz.laysSB:Go.Proofs.SlLaysF0.n6 Tryz.prog Tryz.laysSB_ren:={
 mixed:=by kernel_rfl
 f6:=⟨"slices.SortFunc[[]loop.example/g00892/impl.Binding,loop.example/g00892/impl.Binding]",by decide,Tryz.func112.trans (congrArg some (by kernel_rfl))⟩
 f14:=⟨"slices.pdqsortCmpFunc[loop.example/g00892/impl.Binding]",by decide,Tryz.func145.trans (congrArg some (by kernel_rfl))⟩
 f15:=Tryz.func102.trans (congrArg some (by kernel_rfl))
 f20:=⟨"slices.insertionSortCmpFunc[loop.example/g00892/impl.Binding]",by decide,Tryz.func158.trans (congrArg some (by kernel_rfl))⟩
 f21:=⟨"slices.heapSortCmpFunc[loop.example/g00892/impl.Binding]",by decide,Tryz.func159.trans (congrArg some (by kernel_rfl))⟩
 f22:=⟨"slices.breakPatternsCmpFunc[loop.example/g00892/impl.Binding]",by decide,Tryz.func160.trans (congrArg some (by kernel_rfl))⟩
 f23:=⟨"slices.choosePivotCmpFunc[loop.example/g00892/impl.Binding]",by decide,Tryz.func161.trans (congrArg some (by kernel_rfl))⟩
 f24:=⟨"slices.reverseRangeCmpFunc[loop.example/g00892/impl.Binding]",by decide,Tryz.func162.trans (congrArg some (by kernel_rfl))⟩
 f25:=⟨"slices.partialInsertionSortCmpFunc[loop.example/g00892/impl.Binding]",by decide,Tryz.func163.trans (congrArg some (by kernel_rfl))⟩
 f26:=⟨"slices.partitionEqualCmpFunc[loop.example/g00892/impl.Binding]",by decide,Tryz.func164.trans (congrArg some (by kernel_rfl))⟩
 f27:=⟨"slices.partitionCmpFunc[loop.example/g00892/impl.Binding]",by decide,Tryz.func165.trans (congrArg some (by kernel_rfl))⟩
 f28:=Tryz.func135.trans (congrArg some (by kernel_rfl))
 f29:=Tryz.func136.trans (congrArg some (by kernel_rfl))
 f46:=⟨"slices.siftDownCmpFunc[loop.example/g00892/impl.Binding]",by decide,Tryz.func171.trans (congrArg some (by kernel_rfl))⟩
 f47:=Tryz.func150.trans (congrArg some (by kernel_rfl))
 f48:=Tryz.func151.trans (congrArg some (by kernel_rfl))
 f49:=⟨"slices.medianAdjacentCmpFunc[loop.example/g00892/impl.Binding]",by decide,Tryz.func172.trans (congrArg some (by kernel_rfl))⟩
 f50:=⟨"slices.medianCmpFunc[loop.example/g00892/impl.Binding]",by decide,Tryz.func173.trans (congrArg some (by kernel_rfl))⟩
 f57:=⟨"slices.order2CmpFunc[loop.example/g00892/impl.Binding]",by decide,Tryz.func176.trans (congrArg some (by kernel_rfl))⟩
 t0:=Tryz.underlying0
 a0:=Tryz.isAgg0
 z0:=Tryz.sizeOf0
 v0:=Tryz.zeroValue0
 t3:=Tryz.underlying3
 a3:=Tryz.isAgg3
 z3:=Tryz.sizeOf3
 v3:=Tryz.zeroValue3
 t4:=Tryz.underlying4
 a4:=Tryz.isAgg4
 z4:=Tryz.sizeOf4
 v4:=Tryz.zeroValue4
 t5:=Tryz.underlying5
 a5:=Tryz.isAgg5
 z5:=Tryz.sizeOf5
 v5:=Tryz.zeroValue5
 t9:=Tryz.underlying9
 a9:=Tryz.isAgg9
 z9:=Tryz.sizeOf9
 v9:=Tryz.zeroValue9
 t22:=Tryz.underlying57
 a22:=Tryz.isAgg57
 z22:=Tryz.sizeOf57
 v22:=Tryz.zeroValue57
 t25:=Tryz.underlying117
 a25:=Tryz.isAgg117
 z25:=Tryz.sizeOf117
 v25:=Tryz.zeroValue117
 t39:=Tryz.underlying108
 a39:=Tryz.isAgg108
 z39:=Tryz.sizeOf108
 v39:=Tryz.zeroValue108
 t45:=Tryz.underlying126
 a45:=Tryz.isAgg126
 z45:=Tryz.sizeOf126
 v45:=Tryz.zeroValue126
 t46:=Tryz.underlying127
 a46:=Tryz.isAgg127
 z46:=Tryz.sizeOf127
 v46:=Tryz.zeroValue127
 t50:=Tryz.underlying75
 a50:=Tryz.isAgg75
 z50:=Tryz.sizeOf75
 v50:=Tryz.zeroValue75
 t53:=Tryz.underlying134
 a53:=Tryz.isAgg134
 z53:=Tryz.sizeOf134
 v53:=Tryz.zeroValue134
 t55:=Tryz.underlying136
 a55:=Tryz.isAgg136
 z55:=Tryz.sizeOf136
 v55:=Tryz.zeroValue136
 t66:=Tryz.underlying147
 a66:=Tryz.isAgg147
 z66:=Tryz.sizeOf147
 v66:=Tryz.zeroValue147
 t70:=Tryz.underlying151
 a70:=Tryz.isAgg151
 z70:=Tryz.sizeOf151
 v70:=Tryz.zeroValue151
 t76:=Tryz.underlying162
 a76:=Tryz.isAgg162
 z76:=Tryz.sizeOf162
 v76:=Tryz.zeroValue162
 t77:=Tryz.underlying163
 a77:=Tryz.isAgg163
 z77:=Tryz.sizeOf163
 v77:=Tryz.zeroValue163 }
end Go.Proofs
namespace Go.Proofs.YtocncngbocomhaaGreatDoor
open Go Go.RowKit Go.Sort Go.Proofs.YtocncngbocomhaaGreatDoor.Abs
set_option linter.unusedSimpArgs false
set_option linter.unusedVariables false
theorem jq8:Tryz.lays190_ren.f 190=71:=by kernel_rfl
theorem jrS(blk off cap:Nat)(ss:Xa)(w:World)(hH:Holds encStr w blk off ss.toArray)(hblk:blk<w.heap.size)(hsz:ss.length<4611686018427387904) :
  Calls Tryz.prog 71 #[.slice (some ⟨blk,off,none⟩) ss.length cap] w λe w'=>e = .returned (.tuple #[])/\ ∃n os,w'=Sort.grow (putRow encStr (Sort.ahead w n) blk off (ss.mergeSort λx y=>decide (x<=y)).toArray) os:=by
 have:=Any.slices_Sort_string Tryz.lays190 blk off cap ss w hH hblk hsz;rw[jq8]at this;exact this
theorem jq6(p:Option Addr)(cap:Nat)(w:World):Calls Tryz.prog 71 #[.slice p 0 cap] w λe w'=>e = .returned (.tuple #[])/\w'=w:=by
 have:=Any.slices_Sort_string_none Tryz.lays190 p cap w;rw[jq8]at this;exact this
theorem jq7:Enters Tryz.prog 71:=
 Qc Tryz.func71 (jhw.names _ _ Tryz.func71) (Jv rfl)
theorem jvF:Tryz.laysSB_ren.f 6=112:=by kernel_rfl
theorem jxW:Tryz.laysSB_ren.t 24=85:=by kernel_rfl
theorem jzU:jhy Tryz.prog 112 3:=by
 intro m enc hk h1 cf hO g cb blk off cap d w eg hcmp hH hblk hsz;have:=AnyQ.slices_SortFunc_eq Tryz.laysSB 3 (by rw[jxW];exact Tryz.isAgg85) (by rw[jxW];exact Tryz.sizeOf85) enc hk h1 cf hO g cb blk off cap d w eg hcmp hH hblk hsz;rw[jvF]at this;exact this
theorem jw1(p:Option Addr)(cap:Nat)(fv:Value)(w:World):Calls Tryz.prog 112 #[.slice p 0 cap,fv] w λe w'=>e = .returned (.tuple #[])/\w'=w:=by
 have:=AnyF.slices_SortFunc_none Tryz.laysSB p cap fv w;rw[jvF]at this;exact this
theorem jtJ:Enters Tryz.prog 112:=
 Qc Tryz.func112 (jhw.names _ _ Tryz.func112) (Jv rfl)
theorem jx5{X:Ctx}(f:FuncId)(x:ExtV)(args:Xj)(objs:List Abs.Obj)(sgs:Sig)(sg:SigA)(qs:List (FuncId×Xd))(outs:List Out)(out:Out)(h1:K.extv f=some x)(h2:K.sig f=some sgs)(h3:jjB objs.length sgs=some sg)(hq:x.ask args objs=some qs)(hok:jcu X K.P qs outs)(h4:x.ans args objs outs=some out):SOk X K.P f args objs sg out:=by
 have one:∀{s s':SigA}{n:Nat},jjB n [s]=some s'->s'=s:=by
  intro s s' n h;simp only[jjB]at h;split at h
  .exact (jbB h).symm
  .cases h
 have h1:KZ none f jgg=some x:=h1;unfold jgg at h1;simp only[KZ]at h1;cases hb1:Nat.beq f 71;rotate_left
 .rw [hb1]at h1;have hf:=jdL hb1;subst hf;cases h1;have h2:some [Jj]=some sgs:=h2;cases h2;rw[one h3];exact jhh jq7 jrS jq6 h4
 rw[hb1]at h1;cases hb3:Nat.beq f 112;rotate_left
 .rw [hb3]at h1;have hf:=jdL hb3;subst hf;cases h1;have h2:some [KE 3]=some sgs:=h2;cases h2;rw[one h3];exact jhX jtJ jzU (by decide) rfl jw1 hq hok h4
 rw[hb3]at h1;cases h1
def jms:Nat:=0
theorem jmt:Tryz.prog.globalNamed "internal/strconv.uint64pow10" = some jms:=by kernel_rfl
def jou(w:World):Prop:=Lib.TabIs Tryz.prog w "internal/strconv.uint64pow10" .u64 Lib.pow10Tab
theorem jrb{w w':World}(h:w'.heap[jms]? = w.heap[jms]?)(hw:jou w):jou w':=by
 unfold jou Lib.TabIs World.var? at *;rw[jmt]at *;simp only[Option.bind_some]at *;rw[h];exact hw
theorem jw4{w:World}(hw:jou w):jms<w.heap.size:=by
 unfold jou Lib.TabIs World.var? at hw;rw[jmt]at hw;simp only[Option.bind_some]at hw;rcases Nat.lt_or_ge jms w.heap.size with h|h
 .exact h
 .rw [Array.getElem?_eq_none h]at hw;simp at hw
theorem jtQ{w:World}(hw:jou w){off:Nat}{v:Value}(h:w.cell? ⟨jms,off,none⟩=some v):∃z,v = .int .u64 z:=by
 by_cases hi:off<Lib.pow10Tab.length
 .have:=Lib.TabIs.cell hw jmt off hi;rw[h]at this;exact⟨_,jbB this⟩
 .have:=World.var?_cell jmt hw off;rw[h]at this;have h2:(Lib.pow10Tab.map λz=>Value.int IntKind.u64 z).toArray[off]? = none:=Array.getElem?_eq_none (by simp;omega);simp[h2]at this
def Xt:Ctx:=⟨jou,λb=>b=jms,λ_ _ h hw=>jrb (h jms rfl) hw⟩
theorem juB:Tryz.laysIt_ren.f 171=74:=by kernel_rfl
theorem jqw:Enters Tryz.prog 74:=
 Qc Tryz.func74 (jhw.names _ _ Tryz.func74) (Jv rfl)
theorem jwB(args:Xd)(out:Out)(h:jgX args=some out):qQ Xt Tryz.prog 74 args out:=by
 unfold jgX at h;split at h;rotate_left
 .cases h
 rename_i n;split at h;rotate_left
 .cases h
 rename_i hn;cases h;refine⟨jqw,λw O vs hj _ _ hrel=>?_⟩;simp only[jg,rel]at hrel;obtain⟨v,r,rfl,rfl,rfl⟩:=hrel;have:=Any.strconv_Itoa Tryz.laysIt n hn.1 hn.2 w hj;rw[juB]at this;refine this.mono ?_;rintro e w' ⟨rfl,k,os,rfl⟩;refine⟨_,rfl,?_,?_⟩
 .refine ⟨rfl,rfl,⟨rfl,?_⟩,?_,λb hb=>?_⟩
  .simp [grow,World.drewN]
  .simp [grow,World.drewN]
  .simp only[grow,World.drewN];rw[jc7 hb]
 .simp only[rel]
theorem jAn{f:FuncId}{args:Xd}{out:Out}(hs:K.pureF f=true)(h:G f args=some out):qQ Xt Tryz.prog f args out:=by
 refine jh1 jhw (λf x args out h h2=>?_) jx5 f args out hs h;have h:KZ none f je9=some x:=h;unfold je9 at h;simp only[KZ]at h;cases hb:Nat.beq f 74 with
 |true=>
  rw[hb]at h;have hf:=jdL hb;subst hf;cases h;exact jwB args out h2
 |false=>rw[hb]at h;cases h
open Go Go.ChangeShapes Go.WideShapes Go.ChangeAt Go.RowKit Go.Proofs.YtocncngbocomhaaGreatDoor.Abs
theorem Tryz.ownK:ownKnob Tryz.prog.godebug=none:=by kernel_rfl
theorem Tryz.laidO:laidOutB Tryz.prog=true:=by kernel_rfl
set_option linter.unusedSectionVars false
theorem jvG:laidOutB Tryz.pinned.checked.prog=true:=by kernel_rfl
theorem jtK:mapsRowed Tryz.pinned.checked.prog=true:=by kernel_rfl
theorem jw2:false=Tryz.pinned.checked.prog.looks []:=by kernel_rfl
mutual
def nu:A->Bool
 |.val (.int .u64 _)=>false
 |.val _=>true
 |.sl _ xs=>nuR xs
 |.agg cs=>nuL cs
 |_=>false
def nuR:Xc->Bool
 | []=>true
 |x::xs=>(!x.isEmpty && nuL x) && nuR xs
def nuL:Xd->Bool
 | []=>true
 |c::cs=>nu c && nuL cs
end
theorem jyu{w:World}{O:Nat->Prop}{c:A}{z:Int}(h:nu c=true)(hr:rel w O c (.int .u64 z)):False:=by
 cases c with
 |top=>simp[nu]at h
 |val v=>simp only[rel]at hr;rw[<-hr]at h;simp[nu]at h
 |sl k xs=>simp only[rel]at hr;obtain⟨a,cap,h1,_⟩:=hr;cases h1
 |agg cs=>simp only[rel]at hr;obtain⟨vs,h1,_⟩:=hr;cases h1
 |elt cs off=>simp[nu]at h
 |fn f cs=>simp[nu]at h
 |tup cs=>simp[nu]at h
 |mp xs=>simp[nu]at h
section
variable{w:World}(hJ:jou w)
include hJ
mutual
theorem jpP:∀(a:A)(v:Value),nu a=true->rel w (λ_=>False) a v->rel w (λb=>b=jms) a v
 |.top,_,h,_=>by simp[nu]at h
 |.val x,v,_,hr=>by simpa[rel]using hr
 |.sl k xs,v,h,hr=>by
  simp only[rel]at hr⊢;obtain⟨a,cap,h1,h2,h3,h4⟩:=hr;refine⟨a,cap,h1,h2,h3,?_⟩;rcases h4 with h4|⟨b,off,h5,h6,h7,h8⟩
  .exact Or.inl h4
  .have hn:nuR xs=true:=by simpa only[nu]using h
   match xs,hn,h8 with
   | [],_,_=>exact Or.inl rfl
   |x::xs,hn,h8=>
    refine Or.inr ⟨b,off,h5,h6,λhb=>?_,jod k b off (x::xs) hn h8⟩;subst hb;simp only[nuR,QR]at hn;simp only[jJ]at h8
    match x,hn.1,h8.2.1 with
    | [],hx,_=>simp at hx
    |c::cs,hx,h9=>
     simp only[nuL,QR]at hx;simp only[kg]at h9;obtain⟨⟨v',e1,_,e2⟩,_⟩:=h9;obtain⟨z,rfl⟩:=jtQ hJ e1;exact jyu hx.2.1 e2
 |.agg cs,v,h,hr=>by
  simp only[rel]at hr⊢;obtain⟨vs,h1,h2⟩:=hr;exact⟨vs,h1,js1 cs vs (by simpa only[nu]using h) h2⟩
 |.elt cs off,_,h,_=>by simp[nu]at h
 |.fn f caps,_,h,_=>by simp[nu]at h
 |.tup cs,_,h,_=>by simp[nu]at h
 |.mp xs,_,h,_=>by simp[nu]at h
theorem js1:∀(cs:Xd)(vs:Xh),nuL cs=true->jg w (λ_=>False) cs vs->jg w (λb=>b=jms) cs vs
 | [],vs,_,hr=>by simpa[jg]using hr
 |c::cs,vs,h,hr=>by
  simp only[nuL,QR]at h;simp only[jg]at hr⊢;obtain⟨v,r,h1,h2,h3⟩:=hr;exact⟨v,r,h1,jpP c v h.1 h2,js1 cs r h.2 h3⟩
theorem jmY(b off:Nat):∀(cs:Xd),nuL cs=true->kg w (λ_=>False) b off cs->kg w (λb=>b=jms) b off cs
 | [],_,_=>by simp[kg]
 |c::cs,h,hr=>by
  simp only[nuL,QR]at h;simp only[kg]at hr⊢;obtain⟨⟨v,h1,h0,h2⟩,h3⟩:=hr;exact⟨⟨v,h1,h0,jpP c v h.1 h2⟩,jmY b (off+1) cs h.2 h3⟩
theorem jod(k b off:Nat):∀(xs:Xc),nuR xs=true->jJ w (λ_=>False) k b off xs->jJ w (λb=>b=jms) k b off xs
 | [],_,_=>by simp[jJ]
 |x::xs,h,hr=>by
  simp only[nuR,QR]at h;simp only[jJ]at hr⊢;obtain⟨h1,h2,h3⟩:=hr;exact⟨h1,jmY b off x h.1.2 h2,jod k b (off+k) xs h.2 h3⟩
end
end
mutual
theorem ju9:∀t:T,(jbL t).isEmpty=false/\nuL (jbL t)=true
 |.mk n us=>by
  rw[jf3];refine⟨rfl,?_⟩;have:=jva us;simp only[nuL,nu,T.args,this];rfl
theorem jva:∀us:Xg,nuR (us.map jbL)=true
 | []=>rfl
 |u::us=>by simp only[ky,nuR,(ju9 u).1,(ju9 u).2,jva us];rfl
end
theorem jvb(t:T):nu (.agg (jbL t))=true:=by
 simp only[nu];exact(ju9 t).2
theorem jcd{w:World}{O:Nat->Prop}{l:Xd}{cs:Array Value}(h:jg w O l (Value.agg cs).cells.toList):rel w O (.agg l) (.agg cs):=by
 simp only[rel];exact⟨cs.toList,by simp,by simpa[Value.cells]using h⟩
abbrev lst:List (String×DataW Unit):=Rows.fnExactCriticalPairsRow.laid
theorem jA6:(Tryz.prog.globals[jms]?).map (·.type)=some 167:=by kernel_rfl
theorem jA7:Tryz.prog.underlying 167=some (.array 20 136):=by kernel_rfl
theorem jA5:Tryz.prog.underlying 136=some (.int .u64):=by kernel_rfl
theorem jyM{w:World}(h:laidMet Tryz.prog lst w):jou w:=by
 have h3:laidMet Tryz.prog [("internal/strconv.uint64pow10",Lib.tabData .u64 Lib.pow10Tab)] w:=by
  have e:(Rows.laid_internal_strconv_uint64pow10:DataW Unit)=Lib.tabData .u64 Lib.pow10Tab:=by kernel_rfl
  have:=h.tail.tail;rw[<-e];exact this
 exact Lib.tabIs_of_head jmt jA6 jA7 jA5 (by kernel_rfl) (by kernel_rfl) h3
def intsIn(d:DataW Unit):Array Value:=match d with
 |.agg l=>(l.map λx=>match x with|.lit (.int k z)=>Value.int k z|_=>.int .i64 0).toArray
 |_=>#[]
def jys(g:Nat)(d:DataW Unit)(h:Array Obj):Array Obj:=h.modify g λ
 |.cells _ t frozen=>.cells (intsIn d) t frozen
 |o=>o
noncomputable def jxQ(os:Os):World:=
 { World.holding Tryz.prog os ⟨#[],#[],[]⟩with heap:=jys 2 Rows.laid_math_bits_deBruijn64tab (jys 1 Rows.laid_math_bits_deBruijn32tab (jys 0 Rows.laid_internal_strconv_uint64pow10 (World.holding Tryz.prog os ⟨#[],#[],[]⟩).heap)) }
set_option maxRecDepth 100000 in
theorem jtj(os:Os)(args:Array Value):laidMetH Tryz.prog lst ((jxQ os).forCall (λ_ _=>0) ⟨#[],args,[]⟩).memory:=
 laidMetH_of_parts (laidMet_of_run' 8 (by kernel_rfl) (by kernel_rfl)) (by kernel_rfl)
end Go.Proofs.YtocncngbocomhaaGreatDoor
