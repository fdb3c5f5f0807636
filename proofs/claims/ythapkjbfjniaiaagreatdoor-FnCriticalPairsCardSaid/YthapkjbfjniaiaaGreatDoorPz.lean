/- Pz -/
import Derived.Test.YthapkjbfjniaiaaGreatDoorSn
import Derived.Shelf.Sort.Plain
import Derived.Shelf.Slices.In.SortNone
import Derived.Shelf.Strconv.Itoa3
import Derived.Shelf.SlSortCmp.NoneTotal
import Derived.Test.YthapkjbfjniaiaaGreatDoorE23
import Derived.Lib.LaidTab
import Derived.Test.YthapkjbfjniaiaaGreatDoorCards
import Derived.Test.YthapkjbfjniaiaaGreatDoorTie
import Derived.ProofKit
import Derived.SizedLaws
import Derived.LaidLaws
import Derived.LaidHandle
import Derived.Stop.LaidErr
import Derived.SevenTiedAt
import Derived.JoinedOf
import Derived.Lib.RowBridge
import Derived.Test.YthapkjbfjniaiaaGreatDoorPd
import Derived.Test.YthapkjbfjniaiaaGreatDoorPe
namespace Go.Proofs
open Go.Shelf
set_option linter.unusedSimpArgs false
set_option linter.unusedVariables false
def Tryz.lays190_ren:Go.Shelf.Ren:=⟨λ|190=>60|125=>94|258=>93|128=>133|129=>134|302=>124|303=>125|304=>126|305=>127|306=>128|307=>129|308=>130|309=>131|310=>132|333=>155|329=>156|330=>157|334=>158|335=>159|336=>151|344=>174|n=>n,λ|31=>51|9=>9|3=>3|46=>114|0=>0|51=>147|53=>36|4=>4|183=>140|182=>139|131=>33|5=>5|218=>164|222=>168|228=>180|229=>181|n=>n,λ|n=>n⟩
theorem Tryz.lays190:Go.Proofs.Lays.n190 Tryz.prog Tryz.lays190_ren:={
 mixed:=by kernel_rfl
 f125:=Tryz.func94.trans (congrArg some (by kernel_rfl))
 f128:=Tryz.func133.trans (congrArg some (by kernel_rfl))
 f129:=Tryz.func134.trans (congrArg some (by kernel_rfl))
 f190:=Tryz.func60.trans (congrArg some (by kernel_rfl))
 f258:=Tryz.func93.trans (congrArg some (by kernel_rfl))
 f302:=Tryz.func124.trans (congrArg some (by kernel_rfl))
 f303:=Tryz.func125.trans (congrArg some (by kernel_rfl))
 f304:=Tryz.func126.trans (congrArg some (by kernel_rfl))
 f305:=Tryz.func127.trans (congrArg some (by kernel_rfl))
 f306:=Tryz.func128.trans (congrArg some (by kernel_rfl))
 f307:=Tryz.func129.trans (congrArg some (by kernel_rfl))
 f308:=Tryz.func130.trans (congrArg some (by kernel_rfl))
 f309:=Tryz.func131.trans (congrArg some (by kernel_rfl))
 f310:=Tryz.func132.trans (congrArg some (by kernel_rfl))
 f329:=Tryz.func156.trans (congrArg some (by kernel_rfl))
 f330:=Tryz.func157.trans (congrArg some (by kernel_rfl))
 f333:=Tryz.func155.trans (congrArg some (by kernel_rfl))
 f334:=Tryz.func158.trans (congrArg some (by kernel_rfl))
 f335:=Tryz.func159.trans (congrArg some (by kernel_rfl))
 f336:=Tryz.func151.trans (congrArg some (by kernel_rfl))
 f344:=Tryz.func174.trans (congrArg some (by kernel_rfl))
 t0:=Tryz.underlying0
 a0:=Tryz.isAgg0
 z0:=Tryz.sizeOf0
 v0:=Tryz.zeroValue0
 t3:=Tryz.underlying3
 a3:=Tryz.isAgg3
 z3:=Tryz.sizeOf3
 v3:=Tryz.zeroValue3
 t4:=Tryz.underlying4
 a4:=Tryz.isAgg4
 z4:=Tryz.sizeOf4
 v4:=Tryz.zeroValue4
 t5:=Tryz.underlying5
 a5:=Tryz.isAgg5
 z5:=Tryz.sizeOf5
 v5:=Tryz.zeroValue5
 t9:=Tryz.underlying9
 a9:=Tryz.isAgg9
 z9:=Tryz.sizeOf9
 v9:=Tryz.zeroValue9
 t31:=Tryz.underlying51
 a31:=Tryz.isAgg51
 z31:=Tryz.sizeOf51
 v31:=Tryz.zeroValue51
 t46:=Tryz.underlying114
 a46:=Tryz.isAgg114
 z46:=Tryz.sizeOf114
 v46:=Tryz.zeroValue114
 t51:=Tryz.underlying147
 a51:=Tryz.isAgg147
 z51:=Tryz.sizeOf147
 v51:=Tryz.zeroValue147
 t53:=Tryz.underlying36
 a53:=Tryz.isAgg36
 z53:=Tryz.sizeOf36
 v53:=Tryz.zeroValue36
 t131:=Tryz.underlying33
 a131:=Tryz.isAgg33
 z131:=Tryz.sizeOf33
 v131:=Tryz.zeroValue33
 t182:=Tryz.underlying139
 a182:=Tryz.isAgg139
 z182:=Tryz.sizeOf139
 v182:=Tryz.zeroValue139
 t183:=Tryz.underlying140
 a183:=Tryz.isAgg140
 z183:=Tryz.sizeOf140
 v183:=Tryz.zeroValue140
 t218:=Tryz.underlying164
 a218:=Tryz.isAgg164
 z218:=Tryz.sizeOf164
 v218:=Tryz.zeroValue164
 t222:=Tryz.underlying168
 a222:=Tryz.isAgg168
 z222:=Tryz.sizeOf168
 v222:=Tryz.zeroValue168
 t228:=Tryz.underlying180
 a228:=Tryz.isAgg180
 z228:=Tryz.sizeOf180
 v228:=Tryz.zeroValue180
 t229:=Tryz.underlying181
 a229:=Tryz.isAgg181
 z229:=Tryz.sizeOf181
 v229:=Tryz.zeroValue181 }
def Tryz.laysIt_ren:Go.Shelf.Ren:=⟨λ|171=>69|243=>107|246=>149|283=>162|284=>163|285=>164|286=>165|129=>134|317=>175|318=>176|319=>177|320=>178|337=>182|338=>183|n=>n,λ|3=>3|9=>9|2=>2|4=>4|171=>171|0=>0|53=>36|37=>22|5=>5|173=>173|212=>184|51=>147|20=>20|213=>185|46=>114|232=>189|233=>190|n=>n,λ|17=>0|18=>1|19=>2|n=>n⟩
theorem Tryz.laysIt:Go.Proofs.LaysM.n171 Tryz.prog Tryz.laysIt_ren:={
 mixed:=by kernel_rfl
 f129:=Tryz.func134.trans (congrArg some (by kernel_rfl))
 f171:=Tryz.func69.trans (congrArg some (by kernel_rfl))
 f243:=Tryz.func107.trans (congrArg some (by kernel_rfl))
 f246:=Tryz.func149.trans (congrArg some (by kernel_rfl))
 f283:=Tryz.func162.trans (congrArg some (by kernel_rfl))
 f284:=Tryz.func163.trans (congrArg some (by kernel_rfl))
 f285:=Tryz.func164.trans (congrArg some (by kernel_rfl))
 f286:=Tryz.func165.trans (congrArg some (by kernel_rfl))
 f317:=Tryz.func175.trans (congrArg some (by kernel_rfl))
 f318:=Tryz.func176.trans (congrArg some (by kernel_rfl))
 f319:=Tryz.func177.trans (congrArg some (by kernel_rfl))
 f320:=Tryz.func178.trans (congrArg some (by kernel_rfl))
 f337:=Tryz.func182.trans (congrArg some (by kernel_rfl))
 f338:=Tryz.func183.trans (congrArg some (by kernel_rfl))
 t0:=Tryz.underlying0
 a0:=Tryz.isAgg0
 z0:=Tryz.sizeOf0
 v0:=Tryz.zeroValue0
 t2:=Tryz.underlying2
 a2:=Tryz.isAgg2
 z2:=Tryz.sizeOf2
 v2:=Tryz.zeroValue2
 t3:=Tryz.underlying3
 a3:=Tryz.isAgg3
 z3:=Tryz.sizeOf3
 v3:=Tryz.zeroValue3
 t4:=Tryz.underlying4
 a4:=Tryz.isAgg4
 z4:=Tryz.sizeOf4
 v4:=Tryz.zeroValue4
 t5:=Tryz.underlying5
 a5:=Tryz.isAgg5
 z5:=Tryz.sizeOf5
 v5:=Tryz.zeroValue5
 t9:=Tryz.underlying9
 a9:=Tryz.isAgg9
 z9:=Tryz.sizeOf9
 v9:=Tryz.zeroValue9
 t20:=Tryz.underlying20
 a20:=Tryz.isAgg20
 z20:=Tryz.sizeOf20
 v20:=Tryz.zeroValue20
 t37:=Tryz.underlying22
 a37:=Tryz.isAgg22
 z37:=Tryz.sizeOf22
 v37:=Tryz.zeroValue22
 t46:=Tryz.underlying114
 a46:=Tryz.isAgg114
 z46:=Tryz.sizeOf114
 v46:=Tryz.zeroValue114
 t51:=Tryz.underlying147
 a51:=Tryz.isAgg147
 z51:=Tryz.sizeOf147
 v51:=Tryz.zeroValue147
 t53:=Tryz.underlying36
 a53:=Tryz.isAgg36
 z53:=Tryz.sizeOf36
 v53:=Tryz.zeroValue36
 t171:=Tryz.underlying171
 a171:=Tryz.isAgg171
 z171:=Tryz.sizeOf171
 v171:=Tryz.zeroValue171
 t173:=Tryz.underlying173
 a173:=Tryz.isAgg173
 z173:=Tryz.sizeOf173
 v173:=Tryz.zeroValue173
 t212:=Tryz.underlying184
 a212:=Tryz.isAgg184
 z212:=Tryz.sizeOf184
 v212:=Tryz.zeroValue184
 t213:=Tryz.underlying185
 a213:=Tryz.isAgg185
 z213:=Tryz.sizeOf185
 t232:=Tryz.underlying189
 a232:=Tryz.isAgg189
 z232:=Tryz.sizeOf189
 v232:=Tryz.zeroValue189
 t233:=Tryz.underlying190
 a233:=Tryz.isAgg190
 z233:=Tryz.sizeOf190
 v233:=Tryz.zeroValue190
 g17:=by kernel_rfl
 g18:=by kernel_rfl
 g19:=by kernel_rfl
 i0:=by kernel_rfl
 i2:=by kernel_rfl
 i3:=by kernel_rfl
 i4:=by kernel_rfl
 i5:=by kernel_rfl
 i9:=by kernel_rfl
 i20:=by kernel_rfl
 i37:=by kernel_rfl
 i46:=by kernel_rfl
 i51:=by kernel_rfl
 i53:=by kernel_rfl
 i171:=by kernel_rfl
 i173:=by kernel_rfl
 i212:=by kernel_rfl
 i232:=by kernel_rfl
 i233:=by kernel_rfl
 m17:=by kernel_rfl
 m18:=by kernel_rfl
 m19:=by kernel_rfl }
def Tryz.laysSB_ren:Go.Shelf.Ren:=⟨λ|6=>111|15=>94|14=>150|28=>133|29=>134|20=>166|21=>167|22=>168|23=>169|24=>170|25=>171|26=>172|27=>173|46=>179|47=>156|48=>157|49=>180|50=>181|57=>184|n=>n,λ|22=>70|24=>110|25=>131|3=>3|39=>114|0=>0|53=>147|55=>36|4=>4|46=>140|45=>139|50=>33|5=>5|9=>9|66=>164|70=>168|76=>180|77=>181|n=>n,λ|n=>n⟩
theorem Tryz.laysSB:Go.Proofs.SlLaysF0.n6 Tryz.prog Tryz.laysSB_ren:={
 mixed:=by kernel_rfl
 f6:=⟨"slices.SortFunc[[]loop.example/g00892/impl.Binding,loop.example/g00892/impl.Binding]",by decide,Tryz.func111.trans (congrArg some (by kernel_rfl))⟩
 f14:=⟨"slices.pdqsortCmpFunc[loop.example/g00892/impl.Binding]",by decide,Tryz.func150.trans (congrArg some (by kernel_rfl))⟩
 f15:=Tryz.func94.trans (congrArg some (by kernel_rfl))
 f20:=⟨"slices.insertionSortCmpFunc[loop.example/g00892/impl.Binding]",by decide,Tryz.func166.trans (congrArg some (by kernel_rfl))⟩
 f21:=⟨"slices.heapSortCmpFunc[loop.example/g00892/impl.Binding]",by decide,Tryz.func167.trans (congrArg some (by kernel_rfl))⟩
 f22:=⟨"slices.breakPatternsCmpFunc[loop.example/g00892/impl.Binding]",by decide,Tryz.func168.trans (congrArg some (by kernel_rfl))⟩
 f23:=⟨"slices.choosePivotCmpFunc[loop.example/g00892/impl.Binding]",by decide,Tryz.func169.trans (congrArg some (by kernel_rfl))⟩
 f24:=⟨"slices.reverseRangeCmpFunc[loop.example/g00892/impl.Binding]",by decide,Tryz.func170.trans (congrArg some (by kernel_rfl))⟩
 f25:=⟨"slices.partialInsertionSortCmpFunc[loop.example/g00892/impl.Binding]",by decide,Tryz.func171.trans (congrArg some (by kernel_rfl))⟩
 f26:=⟨"slices.partitionEqualCmpFunc[loop.example/g00892/impl.Binding]",by decide,Tryz.func172.trans (congrArg some (by kernel_rfl))⟩
 f27:=⟨"slices.partitionCmpFunc[loop.example/g00892/impl.Binding]",by decide,Tryz.func173.trans (congrArg some (by kernel_rfl))⟩
 f28:=Tryz.func133.trans (congrArg some (by kernel_rfl))
 f29:=Tryz.func134.trans (congrArg some (by kernel_rfl))
 f46:=⟨"slices.siftDownCmpFunc[loop.example/g00892/impl.Binding]",by decide,Tryz.func179.trans (congrArg some (by kernel_rfl))⟩
 f47:=Tryz.func156.trans (congrArg some (by kernel_rfl))
 f48:=Tryz.func157.trans (congrArg some (by kernel_rfl))
 f49:=⟨"slices.medianAdjacentCmpFunc[loop.example/g00892/impl.Binding]",by decide,Tryz.func180.trans (congrArg some (by kernel_rfl))⟩
 f50:=⟨"slices.medianCmpFunc[loop.example/g00892/impl.Binding]",by decide,Tryz.func181.trans (congrArg some (by kernel_rfl))⟩
 f57:=⟨"slices.order2CmpFunc[loop.example/g00892/impl.Binding]",by decide,Tryz.func184.trans (congrArg some (by kernel_rfl))⟩
 t0:=Tryz.underlying0
 a0:=Tryz.isAgg0
 z0:=Tryz.sizeOf0
 v0:=Tryz.zeroValue0
 t3:=Tryz.underlying3
 a3:=Tryz.isAgg3
 z3:=Tryz.sizeOf3
 v3:=Tryz.zeroValue3
 t4:=Tryz.underlying4
 a4:=Tryz.isAgg4
 z4:=Tryz.sizeOf4
 v4:=Tryz.zeroValue4
 t5:=Tryz.underlying5
 a5:=Tryz.isAgg5
 z5:=Tryz.sizeOf5
 v5:=Tryz.zeroValue5
 t9:=Tryz.underlying9
 a9:=Tryz.isAgg9
 z9:=Tryz.sizeOf9
 v9:=Tryz.zeroValue9
 t22:=Tryz.underlying70
 a22:=Tryz.isAgg70
 z22:=Tryz.sizeOf70
 v22:=Tryz.zeroValue70
 t25:=Tryz.underlying131
 a25:=Tryz.isAgg131
 z25:=Tryz.sizeOf131
 v25:=Tryz.zeroValue131
 t39:=Tryz.underlying114
 a39:=Tryz.isAgg114
 z39:=Tryz.sizeOf114
 v39:=Tryz.zeroValue114
 t45:=Tryz.underlying139
 a45:=Tryz.isAgg139
 z45:=Tryz.sizeOf139
 v45:=Tryz.zeroValue139
 t46:=Tryz.underlying140
 a46:=Tryz.isAgg140
 z46:=Tryz.sizeOf140
 v46:=Tryz.zeroValue140
 t50:=Tryz.underlying33
 a50:=Tryz.isAgg33
 z50:=Tryz.sizeOf33
 v50:=Tryz.zeroValue33
 t53:=Tryz.underlying147
 a53:=Tryz.isAgg147
 z53:=Tryz.sizeOf147
 v53:=Tryz.zeroValue147
 t55:=Tryz.underlying36
 a55:=Tryz.isAgg36
 z55:=Tryz.sizeOf36
 v55:=Tryz.zeroValue36
 t66:=Tryz.underlying164
 a66:=Tryz.isAgg164
 z66:=Tryz.sizeOf164
 v66:=Tryz.zeroValue164
 t70:=Tryz.underlying168
 a70:=Tryz.isAgg168
 z70:=Tryz.sizeOf168
 v70:=Tryz.zeroValue168
 t76:=Tryz.underlying180
 a76:=Tryz.isAgg180
 z76:=Tryz.sizeOf180
 v76:=Tryz.zeroValue180
 t77:=Tryz.underlying181
 a77:=Tryz.isAgg181
 z77:=Tryz.sizeOf181
 v77:=Tryz.zeroValue181 }
end Go.Proofs
namespace Go.Proofs.YthapkjbfjniaiaaGreatDoor
open Go Go.RowKit Go.Sort Go.Proofs.YthapkjbfjniaiaaGreatDoor.Abs
set_option linter.unusedSimpArgs false
set_option linter.unusedVariables false
theorem jsc:Tryz.lays190_ren.f 190=60:=by kernel_rfl
theorem js6(blk off cap:Nat)(ss:Xa)(w:World)(hH:Holds encStr w blk off ss.toArray)(hblk:blk<w.heap.size)(hsz:ss.length<4611686018427387904) :
  Calls Tryz.prog 60 #[.slice (some ⟨blk,off,none⟩) ss.length cap] w λe w'=>e = .returned (.tuple #[])/\ ∃n os,w'=Sort.grow (putRow encStr (Sort.ahead w n) blk off (ss.mergeSort λx y=>decide (x<=y)).toArray) os:=by
 have:=Any.slices_Sort_string Tryz.lays190 blk off cap ss w hH hblk hsz;rw[jsc]at this;exact this
theorem jsa(p:Option Addr)(cap:Nat)(w:World):Calls Tryz.prog 60 #[.slice p 0 cap] w λe w'=>e = .returned (.tuple #[])/\w'=w:=by
 have:=Any.slices_Sort_string_none Tryz.lays190 p cap w;rw[jsc]at this;exact this
theorem jsb:Enters Tryz.prog 60:=
 Qj Tryz.func60 (jhH.names _ _ Tryz.func60) (Jx rfl)
theorem jxw:Tryz.laysSB_ren.f 6=111:=by kernel_rfl
theorem jzT:Tryz.laysSB_ren.t 24=110:=by kernel_rfl
theorem jB4:jhJ Tryz.prog 111 3:=by
 intro m enc hk h1 cf hO g cb blk off cap d w eg hcmp hH hblk hsz;have:=AnyQ.slices_SortFunc_eq Tryz.laysSB 3 (by rw[jzT];exact Tryz.isAgg110) (by rw[jzT];exact Tryz.sizeOf110) enc hk h1 cf hO g cb blk off cap d w eg hcmp hH hblk hsz;rw[jxw]at this;exact this
theorem jy3(p:Option Addr)(cap:Nat)(fv:Value)(w:World):Calls Tryz.prog 111 #[.slice p 0 cap,fv] w λe w'=>e = .returned (.tuple #[])/\w'=w:=by
 have:=AnyF.slices_SortFunc_none Tryz.laysSB p cap fv w;rw[jxw]at this;exact this
theorem jvf:Enters Tryz.prog 111:=
 Qj Tryz.func111 (jhH.names _ _ Tryz.func111) (Jx rfl)
theorem jz1{X:Ctx}(f:FuncId)(x:ExtV)(args:Xj)(objs:List Abs.Obj)(sgs:Sig)(sg:SigA)(qs:List (FuncId×Xd))(outs:List Out)(out:Out)(h1:K.extv f=some x)(h2:K.sig f=some sgs)(h3:y0 objs.length sgs=some sg)(hq:x.ask args objs=some qs)(hok:jcE X K.P qs outs)(h4:x.ans args objs outs=some out):SOk X K.P f args objs sg out:=by
 have one:∀{s s':SigA}{n:Nat},y0 n [s]=some s'->s'=s:=by
  intro s s' n h;simp only[y0]at h;split at h
  .exact (QY h).symm
  .cases h
 have h1:K1 none f jgr=some x:=h1;unfold jgr at h1;simp only[K1]at h1;cases hb1:Nat.beq f 60;rotate_left
 .rw [hb1]at h1;have hf:=jx hb1;subst hf;cases h1;have h2:some [Jl]=some sgs:=h2;cases h2;rw[one h3];exact jhs jsb js6 jsa h4
 rw[hb1]at h1;cases hb3:Nat.beq f 111;rotate_left
 .rw [hb3]at h1;have hf:=jx hb3;subst hf;cases h1;have h2:some [KI 3]=some sgs:=h2;cases h2;rw[one h3];exact jh8 jvf jB4 (by decide) rfl jy3 hq hok h4
 rw[hb3]at h1;cases h1
def jmW:Nat:=0
theorem jmX:Tryz.prog.globalNamed "internal/strconv.uint64pow10" = some jmW:=by kernel_rfl
def jpd(w:World):Prop:=Lib.TabIs Tryz.prog w "internal/strconv.uint64pow10" .u64 Lib.pow10Tab
theorem jsh{w w':World}(h:w'.heap[jmW]? = w.heap[jmW]?)(hw:jpd w):jpd w':=by
 unfold jpd Lib.TabIs World.var? at *;rw[jmX]at *;simp only[Option.bind_some]at *;rw[h];exact hw
theorem jy6{w:World}(hw:jpd w):jmW<w.heap.size:=by
 unfold jpd Lib.TabIs World.var? at hw;rw[jmX]at hw;simp only[Option.bind_some]at hw;rcases Nat.lt_or_ge jmW w.heap.size with h|h
 .exact h
 .rw [Array.getElem?_eq_none h]at hw;simp at hw
theorem jvl{w:World}(hw:jpd w){off:Nat}{v:Value}(h:w.cell? ⟨jmW,off,none⟩=some v):∃z,v = .int .u64 z:=by
 by_cases hi:off<Lib.pow10Tab.length
 .have:=Lib.TabIs.cell hw jmX off hi;rw[h]at this;exact⟨_,QY this⟩
 .have:=World.var?_cell jmX hw off;rw[h]at this;have h2:(Lib.pow10Tab.map λz=>Value.int IntKind.u64 z).toArray[off]? = none:=Array.getElem?_eq_none (by simp;omega);simp[h2]at this
def Xt:Ctx:=⟨jpd,λb=>b=jmW,λ_ _ h hw=>jsh (h jmW rfl) hw⟩
theorem jwf:Tryz.laysIt_ren.f 171=69:=by kernel_rfl
theorem jrx:Enters Tryz.prog 69:=
 Qj Tryz.func69 (jhH.names _ _ Tryz.func69) (Jx rfl)
theorem jyC(args:Xd)(out:Out)(h:jg8 args=some out):qS Xt Tryz.prog 69 args out:=by
 unfold jg8 at h;split at h;rotate_left
 .cases h
 rename_i n;split at h;rotate_left
 .cases h
 rename_i hn;cases h;refine⟨jrx,λw O vs hj _ _ hrel=>?_⟩;simp only[jg,rel]at hrel;obtain⟨v,r,rfl,rfl,rfl⟩:=hrel;have:=Any.strconv_Itoa Tryz.laysIt n hn.1 hn.2 w hj;rw[jwf]at this;refine this.mono ?_;rintro e w' ⟨rfl,k,os,rfl⟩;refine⟨_,rfl,?_,?_⟩
 .refine ⟨rfl,rfl,⟨rfl,?_⟩,?_,λb hb=>?_⟩
  .simp [grow,World.drewN]
  .simp [grow,World.drewN]
  .simp only[grow,World.drewN];rw[jbJ hb]
 .simp only[rel]
theorem jCx{f:FuncId}{args:Xd}{out:Out}(hs:K.pureF f=true)(h:G f args=some out):qS Xt Tryz.prog f args out:=by
 refine jic jhH (λf x args out h h2=>?_) jz1 f args out hs h;have h:K1 none f jfl=some x:=h;unfold jfl at h;simp only[K1]at h;cases hb:Nat.beq f 69 with
 |true=>
  rw[hb]at h;have hf:=jx hb;subst hf;cases h;exact jyC args out h2
 |false=>rw[hb]at h;cases h
open Go Go.ChangeShapes Go.WideShapes Go.ChangeAt Go.RowKit Go.Proofs.YthapkjbfjniaiaaGreatDoor.Abs
theorem Tryz.ownK:ownKnob Tryz.prog.godebug=none:=by kernel_rfl
theorem Tryz.laidO:laidOutB Tryz.prog=true:=by kernel_rfl
set_option linter.unusedSectionVars false
theorem jxx:laidOutB Tryz.pinned.checked.prog=true:=by kernel_rfl
theorem jvg:mapsRowed Tryz.pinned.checked.prog=true:=by kernel_rfl
theorem jy4:false=Tryz.pinned.checked.prog.looks []:=by kernel_rfl
mutual
def nu:A->Bool
 |.val (.int .u64 _)=>false
 |.val _=>true
 |.sl _ xs=>nuR xs
 |.agg cs=>nuL cs
 |_=>false
def nuR:Xc->Bool
 | []=>true
 |x::xs=>(!x.isEmpty && nuL x) && nuR xs
def nuL:Xd->Bool
 | []=>true
 |c::cs=>nu c && nuL cs
end
theorem jAw{w:World}{O:Nat->Prop}{c:A}{z:Int}(h:nu c=true)(hr:rel w O c (.int .u64 z)):False:=by
 cases c with
 |top=>simp[nu]at h
 |val v=>simp only[rel]at hr;rw[<-hr]at h;simp[nu]at h
 |sl k xs=>simp only[rel]at hr;obtain⟨a,cap,h1,_⟩:=hr;cases h1
 |agg cs=>simp only[rel]at hr;obtain⟨vs,h1,_⟩:=hr;cases h1
 |elt cs off=>simp[nu]at h
 |fn f cs=>simp[nu]at h
 |tup cs=>simp[nu]at h
 |mp xs=>simp[nu]at h
section
variable{w:World}(hJ:jpd w)
include hJ
mutual
theorem js4:∀(a:A)(v:Value),nu a=true->rel w (λ_=>False) a v->rel w (λb=>b=jmW) a v
 |.top,_,h,_=>by simp[nu]at h
 |.val x,v,_,hr=>by simpa[rel]using hr
 |.sl k xs,v,h,hr=>by
  simp only[rel]at hr⊢;obtain⟨a,cap,h1,h2,h3,h4⟩:=hr;refine⟨a,cap,h1,h2,h3,?_⟩;rcases h4 with h4|⟨b,off,h5,h6,h7,h8⟩
  .exact Or.inl h4
  .have hn:nuR xs=true:=by simpa only[nu]using h
   match xs,hn,h8 with
   | [],_,_=>exact Or.inl rfl
   |x::xs,hn,h8=>
    refine Or.inr ⟨b,off,h5,h6,λhb=>?_,joW k b off (x::xs) hn h8⟩;subst hb;simp only[nuR,jm]at hn;simp only[jM]at h8
    match x,hn.1,h8.2.1 with
    | [],hx,_=>simp at hx
    |c::cs,hx,h9=>
     simp only[nuL,jm]at hx;simp only[kg]at h9;obtain⟨⟨v',e1,_,e2⟩,_⟩:=h9;obtain⟨z,rfl⟩:=jvl hJ e1;exact jAw hx.2.1 e2
 |.agg cs,v,h,hr=>by
  simp only[rel]at hr⊢;obtain⟨vs,h1,h2⟩:=hr;exact⟨vs,h1,jum cs vs (by simpa only[nu]using h) h2⟩
 |.elt cs off,_,h,_=>by simp[nu]at h
 |.fn f caps,_,h,_=>by simp[nu]at h
 |.tup cs,_,h,_=>by simp[nu]at h
 |.mp xs,_,h,_=>by simp[nu]at h
theorem jum:∀(cs:Xd)(vs:Xh),nuL cs=true->jg w (λ_=>False) cs vs->jg w (λb=>b=jmW) cs vs
 | [],vs,_,hr=>by simpa[jg]using hr
 |c::cs,vs,h,hr=>by
  simp only[nuL,jm]at h;simp only[jg]at hr⊢;obtain⟨v,r,h1,h2,h3⟩:=hr;exact⟨v,r,h1,js4 c v h.1 h2,jum cs r h.2 h3⟩
theorem jnz(b off:Nat):∀(cs:Xd),nuL cs=true->kg w (λ_=>False) b off cs->kg w (λb=>b=jmW) b off cs
 | [],_,_=>by simp[kg]
 |c::cs,h,hr=>by
  simp only[nuL,jm]at h;simp only[kg]at hr⊢;obtain⟨⟨v,h1,h0,h2⟩,h3⟩:=hr;exact⟨⟨v,h1,h0,js4 c v h.1 h2⟩,jnz b (off+1) cs h.2 h3⟩
theorem joW(k b off:Nat):∀(xs:Xc),nuR xs=true->jM w (λ_=>False) k b off xs->jM w (λb=>b=jmW) k b off xs
 | [],_,_=>by simp[jM]
 |x::xs,h,hr=>by
  simp only[nuR,jm]at h;simp only[jM]at hr⊢;obtain⟨h1,h2,h3⟩:=hr;exact⟨h1,jnz b off x h.1.2 h2,joW k b (off+k) xs h.2 h3⟩
end
end
theorem jt8{α:Type}{f:α->Xd}(hf:∀x,(f x).isEmpty=false/\nuL (f x)=true):∀l:List α,nuR (l.map f)=true
 | []=>rfl
 |x::l=>by simp only[zB,nuR,(hf x).1,(hf x).2,jt8 hf l];rfl
mutual
theorem jzO:∀t:T,(jbY t).isEmpty=false/\nuL (jbY t)=true
 |.mk n us=>by
  rw[jhF];refine⟨rfl,?_⟩;have:=jwW us;simp only[nuL,nu,T.args,this];rfl
theorem jwW:∀us:Xg,nuR (us.map jbY)=true
 | []=>rfl
 |u::us=>by simp only[zB,nuR,(jzO u).1,(jzO u).2,jwW us];rfl
end
abbrev lst:List (String×DataW Unit):=Rows.fnCriticalPairsRow.laid
theorem jDr:(Tryz.prog.globals[jmW]?).map (·.type)=some 184:=by kernel_rfl
theorem jDs:Tryz.prog.underlying 184=some (.array 20 36):=by kernel_rfl
theorem jDq:Tryz.prog.underlying 36=some (.int .u64):=by kernel_rfl
theorem jAS{w:World}(h:laidMet Tryz.prog lst w):jpd w:=by
 have h3:laidMet Tryz.prog [("internal/strconv.uint64pow10",Lib.tabData .u64 Lib.pow10Tab)] w:=by
  have e:(Rows.laid_internal_strconv_uint64pow10:DataW Unit)=Lib.tabData .u64 Lib.pow10Tab:=by kernel_rfl
  have:=h.tail.tail;rw[<-e];exact this
 exact Lib.tabIs_of_head jmX jDr jDs jDq (by kernel_rfl) (by kernel_rfl) h3
def intsIn(d:DataW Unit):Array Value:=match d with
 |.agg l=>(l.map λx=>match x with|.lit (.int k z)=>Value.int k z|_=>.int .i64 0).toArray
 |_=>#[]
def jAr(g:Nat)(d:DataW Unit)(h:Array Obj):Array Obj:=h.modify g λ
 |.cells _ t frozen=>.cells (intsIn d) t frozen
 |o=>o
noncomputable def jzM(os:Os):World:=
 { World.holding Tryz.prog os ⟨#[],#[],[]⟩with heap:=jAr 2 Rows.laid_math_bits_deBruijn64tab (jAr 1 Rows.laid_math_bits_deBruijn32tab (jAr 0 Rows.laid_internal_strconv_uint64pow10 (World.holding Tryz.prog os ⟨#[],#[],[]⟩).heap)) }
set_option maxRecDepth 100000 in
theorem juP(os:Os)(args:Array Value):laidMetH Tryz.prog lst ((jzM os).forCall (λ_ _=>0) ⟨#[],args,[]⟩).memory:=
 laidMetH_of_parts (laidMet_of_run' 8 (by kernel_rfl) (by kernel_rfl)) (by kernel_rfl)
open Go Go.ChangeShapes Go.WideShapes Go.ChangeAt Go.RowKit Go.Deep Go.Proofs.YthapkjbfjniaiaaGreatDoor.Abs
theorem jCd{n:Int}(h:(Lit.int .u8 n).wf=true):0<=n/\n<=255:=by
 have h1:IntKind.u8.min=0:=rfl;have h2:IntKind.u8.max=255:=rfl;simp[Lit.wf,h1,h2]at h;exact h
theorem jyZ:Rdr Tryz.prog 5 cy (λn=>0<=n/\n<=255):=by
 intro H enc w base spare held fuel cs x h;obtain⟨n,rfl,_,hw⟩:=DataW.trod_int Tryz.underlying5 h;exact⟨n,jCd hw,by simp[jg,rel],by simp[jf,Value.oneCell']⟩
theorem jxo:Rdr Tryz.prog 22 (λl:Xi=>[bts l]) (λl=>(∀n∈l,0<=n/\n<=255)/\l.length<=9223372036854775807):=
 Rdr.slice Tryz.underlying22 (by kernel_rfl) (by decide) (λ_=>rfl) jyZ
theorem jAv(code:Xi):nu (bts code)=true:=by
 simp only[nu];exact jt8 (λx=>⟨rfl,rfl⟩) code
end Go.Proofs.YthapkjbfjniaiaaGreatDoor
