/- Pz -/
import Derived.Test.YtdbgbieenhcldaaGreatDoorSn
import Derived.Shelf.Sort.Plain
import Derived.Shelf.Slices.In.SortNone
import Derived.Shelf.Strconv.Itoa3
import Derived.Shelf.SlSortCmp.NoneTotal
import Derived.Test.YtdbgbieenhcldaaGreatDoorE23
import Derived.Lib.LaidTab
import Derived.Test.YtdbgbieenhcldaaGreatDoorCards
import Derived.Test.YtdbgbieenhcldaaGreatDoorTie
import Derived.ProofKit
import Derived.SizedLaws
import Derived.LaidLaws
import Derived.LaidHandle
import Derived.Stop.LaidErr
import Derived.SevenTiedAt
import Derived.JoinedOf
import Derived.Lib.RowBridge
import Derived.Test.YtdbgbieenhcldaaGreatDoorPd
namespace Go.Proofs
open Go.Shelf
set_option linter.unusedSimpArgs false
set_option linter.unusedVariables false
def Tryz.laysIt_ren:Go.Shelf.Ren:=⟨λ| 171=>118|243=>163|246=>197|283=>216|284=>217|285=>218|286=>219|129=>209|317=>234|318=>235|319=>236|320=>237|337=>242|338=>243|n=>n,λ| 3=>3|9=>9|2=>2|4=>4|171=>195|0=>0|53=>62|37=>22|5=>5|173=>197|212=>211|51=>188|20=>20|213=>212|46=>157|232=>219|233=>220|n=>n,λ| 17=>0|18=>1|19=>2|n=>n⟩
theorem Tryz.laysIt:Go.Proofs.LaysM.n171 Tryz.prog Tryz.laysIt_ren:={
 mixed:=by kernel_rfl
 f129:=Tryz.func209.trans (congrArg some (by kernel_rfl))
 f171:=Tryz.func118.trans (congrArg some (by kernel_rfl))
 f243:=Tryz.func163.trans (congrArg some (by kernel_rfl))
 f246:=Tryz.func197.trans (congrArg some (by kernel_rfl))
 f283:=Tryz.func216.trans (congrArg some (by kernel_rfl))
 f284:=Tryz.func217.trans (congrArg some (by kernel_rfl))
 f285:=Tryz.func218.trans (congrArg some (by kernel_rfl))
 f286:=Tryz.func219.trans (congrArg some (by kernel_rfl))
 f317:=Tryz.func234.trans (congrArg some (by kernel_rfl))
 f318:=Tryz.func235.trans (congrArg some (by kernel_rfl))
 f319:=Tryz.func236.trans (congrArg some (by kernel_rfl))
 f320:=Tryz.func237.trans (congrArg some (by kernel_rfl))
 f337:=Tryz.func242.trans (congrArg some (by kernel_rfl))
 f338:=Tryz.func243.trans (congrArg some (by kernel_rfl))
 t0:=Tryz.underlying0
 a0:=Tryz.isAgg0
 z0:=Tryz.sizeOf0
 v0:=Tryz.zeroValue0
 t2:=Tryz.underlying2
 a2:=Tryz.isAgg2
 z2:=Tryz.sizeOf2
 v2:=Tryz.zeroValue2
 t3:=Tryz.underlying3
 a3:=Tryz.isAgg3
 z3:=Tryz.sizeOf3
 v3:=Tryz.zeroValue3
 t4:=Tryz.underlying4
 a4:=Tryz.isAgg4
 z4:=Tryz.sizeOf4
 v4:=Tryz.zeroValue4
 t5:=Tryz.underlying5
 a5:=Tryz.isAgg5
 z5:=Tryz.sizeOf5
 v5:=Tryz.zeroValue5
 t9:=Tryz.underlying9
 a9:=Tryz.isAgg9
 z9:=Tryz.sizeOf9
 v9:=Tryz.zeroValue9
 t20:=Tryz.underlying20
 a20:=Tryz.isAgg20
 z20:=Tryz.sizeOf20
 v20:=Tryz.zeroValue20
 t37:=Tryz.underlying22
 a37:=Tryz.isAgg22
 z37:=Tryz.sizeOf22
 v37:=Tryz.zeroValue22
 t46:=Tryz.underlying157
 a46:=Tryz.isAgg157
 z46:=Tryz.sizeOf157
 v46:=Tryz.zeroValue157
 t51:=Tryz.underlying188
 a51:=Tryz.isAgg188
 z51:=Tryz.sizeOf188
 v51:=Tryz.zeroValue188
 t53:=Tryz.underlying62
 a53:=Tryz.isAgg62
 z53:=Tryz.sizeOf62
 v53:=Tryz.zeroValue62
 t171:=Tryz.underlying195
 a171:=Tryz.isAgg195
 z171:=Tryz.sizeOf195
 v171:=Tryz.zeroValue195
 t173:=Tryz.underlying197
 a173:=Tryz.isAgg197
 z173:=Tryz.sizeOf197
 v173:=Tryz.zeroValue197
 t212:=Tryz.underlying211
 a212:=Tryz.isAgg211
 z212:=Tryz.sizeOf211
 v212:=Tryz.zeroValue211
 t213:=Tryz.underlying212
 a213:=Tryz.isAgg212
 z213:=Tryz.sizeOf212
 t232:=Tryz.underlying219
 a232:=Tryz.isAgg219
 z232:=Tryz.sizeOf219
 v232:=Tryz.zeroValue219
 t233:=Tryz.underlying220
 a233:=Tryz.isAgg220
 z233:=Tryz.sizeOf220
 v233:=Tryz.zeroValue220
 g17:=by kernel_rfl
 g18:=by kernel_rfl
 g19:=by kernel_rfl
 i0:=by kernel_rfl
 i2:=by kernel_rfl
 i3:=by kernel_rfl
 i4:=by kernel_rfl
 i5:=by kernel_rfl
 i9:=by kernel_rfl
 i20:=by kernel_rfl
 i37:=by kernel_rfl
 i46:=by kernel_rfl
 i51:=by kernel_rfl
 i53:=by kernel_rfl
 i171:=by kernel_rfl
 i173:=by kernel_rfl
 i212:=by kernel_rfl
 i232:=by kernel_rfl
 i233:=by kernel_rfl
 m17:=by kernel_rfl
 m18:=by kernel_rfl
 m19:=by kernel_rfl }
def Tryz.laysSL_ren:Go.Shelf.Ren:=⟨λ| 6=>164|15=>173|14=>198|28=>208|29=>209|20=>220|21=>221|22=>222|23=>223|24=>224|25=>225|26=>226|27=>227|46=>238|47=>229|48=>230|49=>239|50=>240|57=>244|n=>n,λ| 22=>24|24=>42|25=>88|3=>3|39=>157|0=>0|53=>188|55=>62|4=>4|46=>181|45=>180|50=>185|5=>5|9=>9|66=>204|70=>208|76=>215|77=>216|n=>n,λ| n=>n⟩
theorem Tryz.laysSL:Go.Proofs.SlLaysF0.n6 Tryz.prog Tryz.laysSL_ren:={
 mixed:=by kernel_rfl
 f6:=⟨"slices.SortFunc[[]loop.example/g00892/impl.Literal,loop.example/g00892/impl.Literal]",by decide,Tryz.func164.trans (congrArg some (by kernel_rfl))⟩
 f14:=⟨"slices.pdqsortCmpFunc[loop.example/g00892/impl.Literal]",by decide,Tryz.func198.trans (congrArg some (by kernel_rfl))⟩
 f15:=Tryz.func173.trans (congrArg some (by kernel_rfl))
 f20:=⟨"slices.insertionSortCmpFunc[loop.example/g00892/impl.Literal]",by decide,Tryz.func220.trans (congrArg some (by kernel_rfl))⟩
 f21:=⟨"slices.heapSortCmpFunc[loop.example/g00892/impl.Literal]",by decide,Tryz.func221.trans (congrArg some (by kernel_rfl))⟩
 f22:=⟨"slices.breakPatternsCmpFunc[loop.example/g00892/impl.Literal]",by decide,Tryz.func222.trans (congrArg some (by kernel_rfl))⟩
 f23:=⟨"slices.choosePivotCmpFunc[loop.example/g00892/impl.Literal]",by decide,Tryz.func223.trans (congrArg some (by kernel_rfl))⟩
 f24:=⟨"slices.reverseRangeCmpFunc[loop.example/g00892/impl.Literal]",by decide,Tryz.func224.trans (congrArg some (by kernel_rfl))⟩
 f25:=⟨"slices.partialInsertionSortCmpFunc[loop.example/g00892/impl.Literal]",by decide,Tryz.func225.trans (congrArg some (by kernel_rfl))⟩
 f26:=⟨"slices.partitionEqualCmpFunc[loop.example/g00892/impl.Literal]",by decide,Tryz.func226.trans (congrArg some (by kernel_rfl))⟩
 f27:=⟨"slices.partitionCmpFunc[loop.example/g00892/impl.Literal]",by decide,Tryz.func227.trans (congrArg some (by kernel_rfl))⟩
 f28:=Tryz.func208.trans (congrArg some (by kernel_rfl))
 f29:=Tryz.func209.trans (congrArg some (by kernel_rfl))
 f46:=⟨"slices.siftDownCmpFunc[loop.example/g00892/impl.Literal]",by decide,Tryz.func238.trans (congrArg some (by kernel_rfl))⟩
 f47:=Tryz.func229.trans (congrArg some (by kernel_rfl))
 f48:=Tryz.func230.trans (congrArg some (by kernel_rfl))
 f49:=⟨"slices.medianAdjacentCmpFunc[loop.example/g00892/impl.Literal]",by decide,Tryz.func239.trans (congrArg some (by kernel_rfl))⟩
 f50:=⟨"slices.medianCmpFunc[loop.example/g00892/impl.Literal]",by decide,Tryz.func240.trans (congrArg some (by kernel_rfl))⟩
 f57:=⟨"slices.order2CmpFunc[loop.example/g00892/impl.Literal]",by decide,Tryz.func244.trans (congrArg some (by kernel_rfl))⟩
 t0:=Tryz.underlying0
 a0:=Tryz.isAgg0
 z0:=Tryz.sizeOf0
 v0:=Tryz.zeroValue0
 t3:=Tryz.underlying3
 a3:=Tryz.isAgg3
 z3:=Tryz.sizeOf3
 v3:=Tryz.zeroValue3
 t4:=Tryz.underlying4
 a4:=Tryz.isAgg4
 z4:=Tryz.sizeOf4
 v4:=Tryz.zeroValue4
 t5:=Tryz.underlying5
 a5:=Tryz.isAgg5
 z5:=Tryz.sizeOf5
 v5:=Tryz.zeroValue5
 t9:=Tryz.underlying9
 a9:=Tryz.isAgg9
 z9:=Tryz.sizeOf9
 v9:=Tryz.zeroValue9
 t22:=Tryz.underlying24
 a22:=Tryz.isAgg24
 z22:=Tryz.sizeOf24
 v22:=Tryz.zeroValue24
 t25:=Tryz.underlying88
 a25:=Tryz.isAgg88
 z25:=Tryz.sizeOf88
 v25:=Tryz.zeroValue88
 t39:=Tryz.underlying157
 a39:=Tryz.isAgg157
 z39:=Tryz.sizeOf157
 v39:=Tryz.zeroValue157
 t45:=Tryz.underlying180
 a45:=Tryz.isAgg180
 z45:=Tryz.sizeOf180
 v45:=Tryz.zeroValue180
 t46:=Tryz.underlying181
 a46:=Tryz.isAgg181
 z46:=Tryz.sizeOf181
 v46:=Tryz.zeroValue181
 t50:=Tryz.underlying185
 a50:=Tryz.isAgg185
 z50:=Tryz.sizeOf185
 v50:=Tryz.zeroValue185
 t53:=Tryz.underlying188
 a53:=Tryz.isAgg188
 z53:=Tryz.sizeOf188
 v53:=Tryz.zeroValue188
 t55:=Tryz.underlying62
 a55:=Tryz.isAgg62
 z55:=Tryz.sizeOf62
 v55:=Tryz.zeroValue62
 t66:=Tryz.underlying204
 a66:=Tryz.isAgg204
 z66:=Tryz.sizeOf204
 v66:=Tryz.zeroValue204
 t70:=Tryz.underlying208
 a70:=Tryz.isAgg208
 z70:=Tryz.sizeOf208
 v70:=Tryz.zeroValue208
 t76:=Tryz.underlying215
 a76:=Tryz.isAgg215
 z76:=Tryz.sizeOf215
 v76:=Tryz.zeroValue215
 t77:=Tryz.underlying216
 a77:=Tryz.isAgg216
 z77:=Tryz.sizeOf216
 v77:=Tryz.zeroValue216 }
def Tryz.laysSB_ren:Go.Shelf.Ren:=⟨λ| 6=>132|15=>173|14=>172|28=>208|29=>209|20=>200|21=>201|22=>202|23=>203|24=>204|25=>205|26=>206|27=>207|46=>228|47=>229|48=>230|49=>231|50=>232|57=>241|n=>n,λ| 22=>30|24=>118|25=>134|3=>3|39=>157|0=>0|53=>188|55=>62|4=>4|46=>181|45=>180|50=>185|5=>5|9=>9|66=>204|70=>208|76=>215|77=>216|n=>n,λ| n=>n⟩
theorem Tryz.laysSB:Go.Proofs.SlLaysF0.n6 Tryz.prog Tryz.laysSB_ren:={
 mixed:=by kernel_rfl
 f6:=⟨"slices.SortFunc[[]loop.example/g00892/impl.Binding,loop.example/g00892/impl.Binding]",by decide,Tryz.func132.trans (congrArg some (by kernel_rfl))⟩
 f14:=⟨"slices.pdqsortCmpFunc[loop.example/g00892/impl.Binding]",by decide,Tryz.func172.trans (congrArg some (by kernel_rfl))⟩
 f15:=Tryz.func173.trans (congrArg some (by kernel_rfl))
 f20:=⟨"slices.insertionSortCmpFunc[loop.example/g00892/impl.Binding]",by decide,Tryz.func200.trans (congrArg some (by kernel_rfl))⟩
 f21:=⟨"slices.heapSortCmpFunc[loop.example/g00892/impl.Binding]",by decide,Tryz.func201.trans (congrArg some (by kernel_rfl))⟩
 f22:=⟨"slices.breakPatternsCmpFunc[loop.example/g00892/impl.Binding]",by decide,Tryz.func202.trans (congrArg some (by kernel_rfl))⟩
 f23:=⟨"slices.choosePivotCmpFunc[loop.example/g00892/impl.Binding]",by decide,Tryz.func203.trans (congrArg some (by kernel_rfl))⟩
 f24:=⟨"slices.reverseRangeCmpFunc[loop.example/g00892/impl.Binding]",by decide,Tryz.func204.trans (congrArg some (by kernel_rfl))⟩
 f25:=⟨"slices.partialInsertionSortCmpFunc[loop.example/g00892/impl.Binding]",by decide,Tryz.func205.trans (congrArg some (by kernel_rfl))⟩
 f26:=⟨"slices.partitionEqualCmpFunc[loop.example/g00892/impl.Binding]",by decide,Tryz.func206.trans (congrArg some (by kernel_rfl))⟩
 f27:=⟨"slices.partitionCmpFunc[loop.example/g00892/impl.Binding]",by decide,Tryz.func207.trans (congrArg some (by kernel_rfl))⟩
 f28:=Tryz.func208.trans (congrArg some (by kernel_rfl))
 f29:=Tryz.func209.trans (congrArg some (by kernel_rfl))
 f46:=⟨"slices.siftDownCmpFunc[loop.example/g00892/impl.Binding]",by decide,Tryz.func228.trans (congrArg some (by kernel_rfl))⟩
 f47:=Tryz.func229.trans (congrArg some (by kernel_rfl))
 f48:=Tryz.func230.trans (congrArg some (by kernel_rfl))
 f49:=⟨"slices.medianAdjacentCmpFunc[loop.example/g00892/impl.Binding]",by decide,Tryz.func231.trans (congrArg some (by kernel_rfl))⟩
 f50:=⟨"slices.medianCmpFunc[loop.example/g00892/impl.Binding]",by decide,Tryz.func232.trans (congrArg some (by kernel_rfl))⟩
 f57:=⟨"slices.order2CmpFunc[loop.example/g00892/impl.Binding]",by decide,Tryz.func241.trans (congrArg some (by kernel_rfl))⟩
 t0:=Tryz.underlying0
 a0:=Tryz.isAgg0
 z0:=Tryz.sizeOf0
 v0:=Tryz.zeroValue0
 t3:=Tryz.underlying3
 a3:=Tryz.isAgg3
 z3:=Tryz.sizeOf3
 v3:=Tryz.zeroValue3
 t4:=Tryz.underlying4
 a4:=Tryz.isAgg4
 z4:=Tryz.sizeOf4
 v4:=Tryz.zeroValue4
 t5:=Tryz.underlying5
 a5:=Tryz.isAgg5
 z5:=Tryz.sizeOf5
 v5:=Tryz.zeroValue5
 t9:=Tryz.underlying9
 a9:=Tryz.isAgg9
 z9:=Tryz.sizeOf9
 v9:=Tryz.zeroValue9
 t22:=Tryz.underlying30
 a22:=Tryz.isAgg30
 z22:=Tryz.sizeOf30
 v22:=Tryz.zeroValue30
 t25:=Tryz.underlying134
 a25:=Tryz.isAgg134
 z25:=Tryz.sizeOf134
 v25:=Tryz.zeroValue134
 t39:=Tryz.underlying157
 a39:=Tryz.isAgg157
 z39:=Tryz.sizeOf157
 v39:=Tryz.zeroValue157
 t45:=Tryz.underlying180
 a45:=Tryz.isAgg180
 z45:=Tryz.sizeOf180
 v45:=Tryz.zeroValue180
 t46:=Tryz.underlying181
 a46:=Tryz.isAgg181
 z46:=Tryz.sizeOf181
 v46:=Tryz.zeroValue181
 t50:=Tryz.underlying185
 a50:=Tryz.isAgg185
 z50:=Tryz.sizeOf185
 v50:=Tryz.zeroValue185
 t53:=Tryz.underlying188
 a53:=Tryz.isAgg188
 z53:=Tryz.sizeOf188
 v53:=Tryz.zeroValue188
 t55:=Tryz.underlying62
 a55:=Tryz.isAgg62
 z55:=Tryz.sizeOf62
 v55:=Tryz.zeroValue62
 t66:=Tryz.underlying204
 a66:=Tryz.isAgg204
 z66:=Tryz.sizeOf204
 v66:=Tryz.zeroValue204
 t70:=Tryz.underlying208
 a70:=Tryz.isAgg208
 z70:=Tryz.sizeOf208
 v70:=Tryz.zeroValue208
 t76:=Tryz.underlying215
 a76:=Tryz.isAgg215
 z76:=Tryz.sizeOf215
 v76:=Tryz.zeroValue215
 t77:=Tryz.underlying216
 a77:=Tryz.isAgg216
 z77:=Tryz.sizeOf216
 v77:=Tryz.zeroValue216 }
end Go.Proofs
namespace Go.Proofs.YtdbgbieenhcldaaGreatDoor
open Go Go.RowKit Go.Sort Go.Proofs.YtdbgbieenhcldaaGreatDoor.Abs
set_option linter.unusedSimpArgs false
set_option linter.unusedVariables false
theorem jqb:Tryz.laysSL_ren.f 6=164:=by kernel_rfl
theorem jtg:Tryz.laysSL_ren.t 24=42:=by kernel_rfl
theorem jwa:jts Tryz.prog 164 3:=by
 intro m enc hk h1 cf hO g cb blk off cap d w eg hcmp hH hblk hsz;have:=AnyQ.slices_SortFunc_eq Tryz.laysSL 3 (by rw [jtg];exact Tryz.isAgg42) (by rw [jtg];exact Tryz.sizeOf42) enc hk h1 cf hO g cb blk off cap d w eg hcmp hH hblk hsz;rw [jqb] at this;exact this
theorem jr7 (p:Option Addr) (cap:Nat) (fv:Value) (w:World):Calls Tryz.prog 164 #[.slice p 0 cap,fv] w λe w'=>e = .returned (.tuple #[])/\w'=w:=by
 have:=AnyF.slices_SortFunc_none Tryz.laysSL p cap fv w;rw [jqb] at this;exact this
theorem jnp:Enters Tryz.prog 164:=
 J2 Tryz.func164 (je5.names _ _ Tryz.func164) (yU rfl)
theorem jp6:Tryz.laysSB_ren.f 6=132:=by kernel_rfl
theorem jtc:Tryz.laysSB_ren.t 24=118:=by kernel_rfl
theorem jv8:jts Tryz.prog 132 3:=by
 intro m enc hk h1 cf hO g cb blk off cap d w eg hcmp hH hblk hsz;have:=AnyQ.slices_SortFunc_eq Tryz.laysSB 3 (by rw [jtc];exact Tryz.isAgg118) (by rw [jtc];exact Tryz.sizeOf118) enc hk h1 cf hO g cb blk off cap d w eg hcmp hH hblk hsz;rw [jp6] at this;exact this
theorem jr5 (p:Option Addr) (cap:Nat) (fv:Value) (w:World):Calls Tryz.prog 132 #[.slice p 0 cap,fv] w λe w'=>e = .returned (.tuple #[])/\w'=w:=by
 have:=AnyF.slices_SortFunc_none Tryz.laysSB p cap fv w;rw [jp6] at this;exact this
theorem jnl:Enters Tryz.prog 132:=
 J2 Tryz.func132 (je5.names _ _ Tryz.func132) (yU rfl)
theorem jtp {X:Ctx} (f:FuncId) (x:ExtV) (args:List V) (objs:List Abs.Obj) (sgs:Sig) (sg:SigA) (qs:List (FuncId × List A)) (outs:List Out) (out:Out) (h1:K.extv f=some x) (h2:K.sig f=some sgs) (h3:JU objs.length sgs=some sg) (hq:x.ask args objs=some qs) (hok:jgD X K.P qs outs) (h4:x.ans args objs outs=some out):SOk X K.P f args objs sg out:=by
 have one:∀ {s s':SigA} {n:Nat},JU n [s]=some s'->s'=s:=by
  intro s s' n h;simp only [JU] at h;split at h
  ·exact (Option.some.inj h).symm
  ·cases h
 have h1:JF none f jjB=some x:=h1;unfold jjB at h1;simp only [JF] at h1;cases hb:Nat.beq f 164 with
 | true=>
  rw [hb] at h1;have hf:=Nat.eq_of_beq_eq_true hb;subst hf;cases h1;have h2:some [Zq 3]=some sgs:=h2;cases h2;rw [one h3];exact jp9 jnp jwa (by decide) rfl jr7 hq hok h4
 | false=>
  rw [hb] at h1;cases hb:Nat.beq f 132 with
  | true=>
   rw [hb] at h1;have hf:=Nat.eq_of_beq_eq_true hb;subst hf;cases h1;have h2:some [Zq 3]=some sgs:=h2;cases h2;rw [one h3];exact jp9 jnl jv8 (by decide) rfl jr5 hq hok h4
  | false=>rw [hb] at h1;cases h1
def QK:Nat:=0
theorem QL:Tryz.prog.globalNamed "internal/strconv.uint64pow10" = some QK:=by kernel_rfl
def jdM (w:World):Prop:=Lib.TabIs Tryz.prog w "internal/strconv.uint64pow10" .u64 Lib.pow10Tab
theorem jiI {w w':World} (h:w'.heap[QK]? = w.heap[QK]?) (hw:jdM w):jdM w':=by
 unfold jdM Lib.TabIs World.var? at *;rw [QL] at *;simp only [Option.bind_some] at *;rw [h];exact hw
theorem jsd {w:World} (hw:jdM w):QK < w.heap.size:=by
 unfold jdM Lib.TabIs World.var? at hw;rw [QL] at hw;simp only [Option.bind_some] at hw;rcases Nat.lt_or_ge QK w.heap.size with h|h
 ·exact h
 ·rw [Array.getElem?_eq_none h] at hw;simp at hw
theorem jnz {w:World} (hw:jdM w) {off:Nat} {v:Value} (h:w.cell? ⟨QK,off,none⟩=some v):∃z,v = .int .u64 z:=by
 by_cases hi:off < Lib.pow10Tab.length
 ·have:=Lib.TabIs.cell hw QL off hi;rw [h] at this;exact ⟨_,Option.some.inj this⟩
 ·have:=World.var?_cell QL hw off;rw [h] at this;have h2:(Lib.pow10Tab.map λz=>Value.int IntKind.u64 z).toArray[off]? = none:=Array.getElem?_eq_none (by simp;omega);simp [h2] at this
def Xt:Ctx:=⟨jdM,λb=>b=QK,λ_ _ h hw=>jiI (h QK rfl) hw⟩
theorem joO:Tryz.laysIt_ren.f 171=118:=by kernel_rfl
theorem jhu:Enters Tryz.prog 118:=
 J2 Tryz.func118 (je5.names _ _ Tryz.func118) (yU rfl)
theorem jrA (args:List A) (out:Out) (h:jlp args=some out):Ke Xt Tryz.prog 118 args out:=by
 unfold jlp at h;split at h;rotate_left
 ·cases h
 rename_i n;split at h;rotate_left
 ·cases h
 rename_i hn;cases h;refine ⟨jhu,λw O vs hj _ _ hrel=> ?_⟩;simp only [jo,rel] at hrel;obtain ⟨v,r,rfl,rfl,rfl⟩:=hrel;have:=Any.strconv_Itoa Tryz.laysIt n hn.1 hn.2 w hj;rw [joO] at this;refine this.mono ?_;rintro e w' ⟨rfl,k,os,rfl⟩;refine ⟨_,rfl,?_,?_⟩
 ·refine ⟨rfl,rfl,⟨rfl,?_⟩,?_,λb hb=> ?_⟩
  ·simp [grow,World.drewN]
  ·simp [grow,World.drewN]
  ·simp only [grow,World.drewN];rw [Array.getElem?_append_left hb]
 ·simp only [rel]
theorem jwP {f:FuncId} {args:List A} {out:Out} (hs:K.pureF f=true) (h:G f args=some out):Ke Xt Tryz.prog f args out:=by
 refine ju4 je5 (λf x args out h h2=> ?_) jtp f args out hs h;have h:JF none f jfB=some x:=h;unfold jfB at h;simp only [JF] at h;cases hb:Nat.beq f 118 with
 | true=>
  rw [hb] at h;have hf:=Nat.eq_of_beq_eq_true hb;subst hf;cases h;exact jrA args out h2
 | false=>rw [hb] at h;cases h
open Go Go.ChangeShapes Go.WideShapes Go.ChangeAt Go.RowKit Go.Proofs.YtdbgbieenhcldaaGreatDoor.Abs
theorem Tryz.ownK:ownKnob Tryz.prog.godebug=none:=by kernel_rfl
theorem Tryz.laidO:laidOutB Tryz.prog=true:=by kernel_rfl
set_option linter.unusedSectionVars false
theorem jp7:laidOutB Tryz.pinned.checked.prog=true:=by kernel_rfl
theorem jnn:mapsRowed Tryz.pinned.checked.prog=true:=by kernel_rfl
theorem jr6:false=Tryz.pinned.checked.prog.looks []:=by kernel_rfl
mutual
def nu:A->Bool
 | .val (.int .u64 _)=>false
 | .val _=>true
 | .sl _ xs=>nuR xs
 | .agg cs=>nuL cs
 | _=>false
def nuR:List (List A)->Bool
 | []=>true
 | x::xs=>(!x.isEmpty && nuL x) && nuR xs
def nuL:List A->Bool
 | []=>true
 | c::cs=>nu c && nuL cs
end
theorem jug {w:World} {O:Nat->Prop} {c:A} {z:Int} (h:nu c=true) (hr:rel w O c (.int .u64 z)):False:=by
 cases c with
 | top=>simp [nu] at h
 | val v=>simp only [rel] at hr;rw [<-hr] at h;simp [nu] at h
 | sl k xs=>simp only [rel] at hr;obtain ⟨a,cap,h1,_⟩:=hr;cases h1
 | agg cs=>simp only [rel] at hr;obtain ⟨vs,h1,_⟩:=hr;cases h1
 | elt cs off=>simp [nu] at h
 | fn f cs=>simp [nu] at h
 | tup cs=>simp [nu] at h
 | mp xs=>simp [nu] at h
section
variable {w:World} (hJ:jdM w)
include hJ
mutual
theorem jkf:∀(a:A) (v:Value),nu a=true->rel w (λ_=>False) a v->rel w (λb=>b=QK) a v
 | .top,_,h,_=>by simp [nu] at h
 | .val x,v,_,hr=>by simpa [rel] using hr
 | .sl k xs,v,h,hr=>by
  simp only [rel] at hr ⊢;obtain ⟨a,cap,h1,h2,h3,h4⟩:=hr;refine ⟨a,cap,h1,h2,h3,?_⟩;rcases h4 with h4|⟨b,off,h5,h6,h7,h8⟩
  ·exact Or.inl h4
  ·have hn:nuR xs=true:=by simpa only [nu] using h
   match xs,hn,h8 with
   | [],_,_=>exact Or.inl rfl
   | x::xs,hn,h8=>
    refine Or.inr ⟨b,off,h5,h6,λhb=> ?_,jdn k b off (x::xs) hn h8⟩;subst hb;simp only [nuR,Bool.and_eq_true] at hn;simp only [jU] at h8
    match x,hn.1,h8.2.1 with
    | [],hx,_=>simp at hx
    | c::cs,hx,h9=>
     simp only [nuL,Bool.and_eq_true] at hx;simp only [kA] at h9;obtain ⟨⟨v',e1,_,e2⟩,_⟩:=h9;obtain ⟨z,rfl⟩:=jnz hJ e1;exact jug hx.2.1 e2
 | .agg cs,v,h,hr=>by
  simp only [rel] at hr ⊢;obtain ⟨vs,h1,h2⟩:=hr;exact ⟨vs,h1,jlN cs vs (by simpa only [nu] using h) h2⟩
 | .elt cs off,_,h,_=>by simp [nu] at h
 | .fn f caps,_,h,_=>by simp [nu] at h
 | .tup cs,_,h,_=>by simp [nu] at h
 | .mp xs,_,h,_=>by simp [nu] at h
theorem jlN:∀(cs:List A) (vs:List Value),nuL cs=true->jo w (λ_=>False) cs vs->jo w (λb=>b=QK) cs vs
 | [],vs,_,hr=>by simpa [jo] using hr
 | c::cs,vs,h,hr=>by
  simp only [nuL,Bool.and_eq_true] at h;simp only [jo] at hr ⊢;obtain ⟨v,r,h1,h2,h3⟩:=hr;exact ⟨v,r,h1,jkf c v h.1 h2,jlN cs r h.2 h3⟩
theorem ja0 (b off:Nat):∀(cs:List A),nuL cs=true->kA w (λ_=>False) b off cs->kA w (λb=>b=QK) b off cs
 | [],_,_=>by simp [kA]
 | c::cs,h,hr=>by
  simp only [nuL,Bool.and_eq_true] at h;simp only [kA] at hr ⊢;obtain ⟨⟨v,h1,h0,h2⟩,h3⟩:=hr;exact ⟨⟨v,h1,h0,jkf c v h.1 h2⟩,ja0 b (off+1) cs h.2 h3⟩
theorem jdn (k b off:Nat):∀(xs:List (List A)),nuR xs=true->jU w (λ_=>False) k b off xs->jU w (λb=>b=QK) k b off xs
 | [],_,_=>by simp [jU]
 | x::xs,h,hr=>by
  simp only [nuR,Bool.and_eq_true] at h;simp only [jU] at hr ⊢;obtain ⟨h1,h2,h3⟩:=hr;exact ⟨h1,ja0 b off x h.1.2 h2,jdn k b (off+k) xs h.2 h3⟩
end
end
theorem jlE {α:Type} {f:α->List A} (hf:∀x,(f x).isEmpty=false/\nuL (f x)=true):∀l:List α,nuR (l.map f)=true
 | []=>rfl
 | x::l=>by simp only [List.map_cons,nuR,(hf x).1,(hf x).2,jlE hf l];rfl
mutual
theorem js7:∀t:T,(jy t).isEmpty=false/\nuL (jy t)=true
 | .mk n us=>by
  rw [kg];refine ⟨rfl,?_⟩;have:=jpp us;simp only [nuL,nu,T.args,this];rfl
theorem jpp:∀us:List T,nuR (us.map jy)=true
 | []=>rfl
 | u::us=>by simp only [List.map_cons,nuR,(js7 u).1,(js7 u).2,jpp us];rfl
end
abbrev lst:List (String × DataW Unit):=Rows.fnNormalClauseRow.laid
theorem jyl:(Tryz.prog.globals[QK]?).map (·.type)=some 211:=by kernel_rfl
theorem jym:Tryz.prog.underlying 211=some (.array 20 62):=by kernel_rfl
theorem jyk:Tryz.prog.underlying 62=some (.int .u64):=by kernel_rfl
theorem juC {w:World} (h:laidMet Tryz.prog lst w):jdM w:=by
 have h3:laidMet Tryz.prog [("internal/strconv.uint64pow10",Lib.tabData .u64 Lib.pow10Tab)] w:=by
  have e:(Rows.laid_internal_strconv_uint64pow10:DataW Unit)=Lib.tabData .u64 Lib.pow10Tab:=by kernel_rfl
  have:=h.tail.tail;rw [<-e];exact this
 exact Lib.tabIs_of_head QL jyl jym jyk (by kernel_rfl) (by kernel_rfl) h3
def intsIn (d:DataW Unit):Array Value:=match d with
 | .agg l=>(l.map λx=>match x with | .lit (.int k z)=>Value.int k z|_=> .int .i64 0).toArray
 | _=>#[]
def jua (g:Nat) (d:DataW Unit) (h:Array Obj):Array Obj:=h.modify g λ
 | .cells _ t frozen=> .cells (intsIn d) t frozen
 | o=>o
noncomputable def js4 (os:Os):World:=
 { World.holding Tryz.prog os ⟨#[],#[],[]⟩ with heap:=jua 2 Rows.laid_math_bits_deBruijn64tab (jua 1 Rows.laid_math_bits_deBruijn32tab (jua 0 Rows.laid_internal_strconv_uint64pow10 (World.holding Tryz.prog os ⟨#[],#[],[]⟩).heap)) }
set_option maxRecDepth 100000 in
theorem jmF (os:Os) (args:Array Value):laidMetH Tryz.prog lst ((js4 os).forCall (λ_ _=>0) ⟨#[],args,[]⟩).memory:=
 laidMetH_of_parts (laidMet_of_run' 8 (by kernel_rfl) (by kernel_rfl)) (by kernel_rfl)
open Go Go.ChangeShapes Go.WideShapes Go.ChangeAt Go.RowKit Go.Deep Go.Proofs.YtdbgbieenhcldaaGreatDoor.Abs
theorem jwm {n:Int} (h:(Lit.int .u8 n).wf=true):0<=n/\n<=255:=by
 have h1:IntKind.u8.min=0:=rfl;have h2:IntKind.u8.max=255:=rfl;simp [Lit.wf,h1,h2] at h;exact h
theorem jrW:Rdr Tryz.prog 5 cy (λn=>0<=n/\n<=255):=by
 intro H enc w base spare held fuel cs x h;obtain ⟨n,rfl,_,hw⟩:=DataW.trod_int Tryz.underlying5 h;exact ⟨n,jwm hw,by simp [jo,rel],by simp [jp,Value.oneCell']⟩
theorem jpZ:Rdr Tryz.prog 22 (λl:List Int=>[ke l]) (λl=>(∀n∈l,0<=n/\n<=255)/\l.length<=9223372036854775807):=
 Rdr.slice Tryz.underlying22 (by kernel_rfl) (by decide) (λ_=>rfl) jrW
theorem juf (code:List Int):nu (ke code)=true:=by
 simp only [nu];exact jlE (λx=>⟨rfl,rfl⟩) code
end Go.Proofs.YtdbgbieenhcldaaGreatDoor
