/- Pz -/
import Derived.Test.YtdbgbieenhcldaaGreatSn
import Derived.Shelf.Sort.Plain
import Derived.Shelf.Slices.In.SortNone
import Derived.Shelf.Strconv.Itoa3
import Derived.Shelf.SlSortCmp.NoneTotal
import Derived.Test.YtdbgbieenhcldaaGreatE23
import Derived.Test.YtdbgbieenhcldaaGreatRows
import Derived.ProofKit
import Derived.SizedLaws
import Derived.Lib.RowBridge
namespace Go.Proofs
open Go.Shelf
set_option linter.unusedSimpArgs false
set_option linter.unusedVariables false
def Tryz.laysSL_ren:Go.Shelf.Ren:=⟨λ| 6=>93|15=>107|14=>117|28=>129|29=>130|20=>134|21=>135|22=>136|23=>137|24=>138|25=>139|26=>140|27=>141|46=>148|47=>144|48=>145|49=>149|50=>150|57=>152|n=>n,λ| 22=>24|24=>44|25=>70|3=>3|39=>118|0=>0|53=>141|55=>48|4=>4|46=>134|45=>133|50=>138|5=>5|9=>9|66=>152|70=>156|76=>160|77=>161|n=>n,λ| n=>n⟩
theorem Tryz.laysSL:Go.Proofs.SlLaysF0.n6 Tryz.prog Tryz.laysSL_ren:={
 mixed:=by kernel_rfl
 f6:=⟨"slices.SortFunc[[]loop.example/g00892/impl.Literal,loop.example/g00892/impl.Literal]",by decide,Tryz.func93.trans (congrArg some (by kernel_rfl))⟩
 f14:=⟨"slices.pdqsortCmpFunc[loop.example/g00892/impl.Literal]",by decide,Tryz.func117.trans (congrArg some (by kernel_rfl))⟩
 f15:=Tryz.func107.trans (congrArg some (by kernel_rfl))
 f20:=⟨"slices.insertionSortCmpFunc[loop.example/g00892/impl.Literal]",by decide,Tryz.func134.trans (congrArg some (by kernel_rfl))⟩
 f21:=⟨"slices.heapSortCmpFunc[loop.example/g00892/impl.Literal]",by decide,Tryz.func135.trans (congrArg some (by kernel_rfl))⟩
 f22:=⟨"slices.breakPatternsCmpFunc[loop.example/g00892/impl.Literal]",by decide,Tryz.func136.trans (congrArg some (by kernel_rfl))⟩
 f23:=⟨"slices.choosePivotCmpFunc[loop.example/g00892/impl.Literal]",by decide,Tryz.func137.trans (congrArg some (by kernel_rfl))⟩
 f24:=⟨"slices.reverseRangeCmpFunc[loop.example/g00892/impl.Literal]",by decide,Tryz.func138.trans (congrArg some (by kernel_rfl))⟩
 f25:=⟨"slices.partialInsertionSortCmpFunc[loop.example/g00892/impl.Literal]",by decide,Tryz.func139.trans (congrArg some (by kernel_rfl))⟩
 f26:=⟨"slices.partitionEqualCmpFunc[loop.example/g00892/impl.Literal]",by decide,Tryz.func140.trans (congrArg some (by kernel_rfl))⟩
 f27:=⟨"slices.partitionCmpFunc[loop.example/g00892/impl.Literal]",by decide,Tryz.func141.trans (congrArg some (by kernel_rfl))⟩
 f28:=Tryz.func129.trans (congrArg some (by kernel_rfl))
 f29:=Tryz.func130.trans (congrArg some (by kernel_rfl))
 f46:=⟨"slices.siftDownCmpFunc[loop.example/g00892/impl.Literal]",by decide,Tryz.func148.trans (congrArg some (by kernel_rfl))⟩
 f47:=Tryz.func144.trans (congrArg some (by kernel_rfl))
 f48:=Tryz.func145.trans (congrArg some (by kernel_rfl))
 f49:=⟨"slices.medianAdjacentCmpFunc[loop.example/g00892/impl.Literal]",by decide,Tryz.func149.trans (congrArg some (by kernel_rfl))⟩
 f50:=⟨"slices.medianCmpFunc[loop.example/g00892/impl.Literal]",by decide,Tryz.func150.trans (congrArg some (by kernel_rfl))⟩
 f57:=⟨"slices.order2CmpFunc[loop.example/g00892/impl.Literal]",by decide,Tryz.func152.trans (congrArg some (by kernel_rfl))⟩
 t0:=Tryz.underlying0
 a0:=Tryz.isAgg0
 z0:=Tryz.sizeOf0
 v0:=Tryz.zeroValue0
 t3:=Tryz.underlying3
 a3:=Tryz.isAgg3
 z3:=Tryz.sizeOf3
 v3:=Tryz.zeroValue3
 t4:=Tryz.underlying4
 a4:=Tryz.isAgg4
 z4:=Tryz.sizeOf4
 v4:=Tryz.zeroValue4
 t5:=Tryz.underlying5
 a5:=Tryz.isAgg5
 z5:=Tryz.sizeOf5
 v5:=Tryz.zeroValue5
 t9:=Tryz.underlying9
 a9:=Tryz.isAgg9
 z9:=Tryz.sizeOf9
 v9:=Tryz.zeroValue9
 t22:=Tryz.underlying24
 a22:=Tryz.isAgg24
 z22:=Tryz.sizeOf24
 v22:=Tryz.zeroValue24
 t25:=Tryz.underlying70
 a25:=Tryz.isAgg70
 z25:=Tryz.sizeOf70
 v25:=Tryz.zeroValue70
 t39:=Tryz.underlying118
 a39:=Tryz.isAgg118
 z39:=Tryz.sizeOf118
 v39:=Tryz.zeroValue118
 t45:=Tryz.underlying133
 a45:=Tryz.isAgg133
 z45:=Tryz.sizeOf133
 v45:=Tryz.zeroValue133
 t46:=Tryz.underlying134
 a46:=Tryz.isAgg134
 z46:=Tryz.sizeOf134
 v46:=Tryz.zeroValue134
 t50:=Tryz.underlying138
 a50:=Tryz.isAgg138
 z50:=Tryz.sizeOf138
 v50:=Tryz.zeroValue138
 t53:=Tryz.underlying141
 a53:=Tryz.isAgg141
 z53:=Tryz.sizeOf141
 v53:=Tryz.zeroValue141
 t55:=Tryz.underlying48
 a55:=Tryz.isAgg48
 z55:=Tryz.sizeOf48
 v55:=Tryz.zeroValue48
 t66:=Tryz.underlying152
 a66:=Tryz.isAgg152
 z66:=Tryz.sizeOf152
 v66:=Tryz.zeroValue152
 t70:=Tryz.underlying156
 a70:=Tryz.isAgg156
 z70:=Tryz.sizeOf156
 v70:=Tryz.zeroValue156
 t76:=Tryz.underlying160
 a76:=Tryz.isAgg160
 z76:=Tryz.sizeOf160
 v76:=Tryz.zeroValue160
 t77:=Tryz.underlying161
 a77:=Tryz.isAgg161
 z77:=Tryz.sizeOf161
 v77:=Tryz.zeroValue161 }
def Tryz.laysSB_ren:Go.Shelf.Ren:=⟨λ| 6=>76|15=>107|14=>106|28=>129|29=>130|20=>121|21=>122|22=>123|23=>124|24=>125|25=>126|26=>127|27=>128|46=>143|47=>144|48=>145|49=>146|50=>147|57=>151|n=>n,λ| 22=>29|24=>86|25=>107|3=>3|39=>118|0=>0|53=>141|55=>48|4=>4|46=>134|45=>133|50=>138|5=>5|9=>9|66=>152|70=>156|76=>160|77=>161|n=>n,λ| n=>n⟩
theorem Tryz.laysSB:Go.Proofs.SlLaysF0.n6 Tryz.prog Tryz.laysSB_ren:={
 mixed:=by kernel_rfl
 f6:=⟨"slices.SortFunc[[]loop.example/g00892/impl.Binding,loop.example/g00892/impl.Binding]",by decide,Tryz.func76.trans (congrArg some (by kernel_rfl))⟩
 f14:=⟨"slices.pdqsortCmpFunc[loop.example/g00892/impl.Binding]",by decide,Tryz.func106.trans (congrArg some (by kernel_rfl))⟩
 f15:=Tryz.func107.trans (congrArg some (by kernel_rfl))
 f20:=⟨"slices.insertionSortCmpFunc[loop.example/g00892/impl.Binding]",by decide,Tryz.func121.trans (congrArg some (by kernel_rfl))⟩
 f21:=⟨"slices.heapSortCmpFunc[loop.example/g00892/impl.Binding]",by decide,Tryz.func122.trans (congrArg some (by kernel_rfl))⟩
 f22:=⟨"slices.breakPatternsCmpFunc[loop.example/g00892/impl.Binding]",by decide,Tryz.func123.trans (congrArg some (by kernel_rfl))⟩
 f23:=⟨"slices.choosePivotCmpFunc[loop.example/g00892/impl.Binding]",by decide,Tryz.func124.trans (congrArg some (by kernel_rfl))⟩
 f24:=⟨"slices.reverseRangeCmpFunc[loop.example/g00892/impl.Binding]",by decide,Tryz.func125.trans (congrArg some (by kernel_rfl))⟩
 f25:=⟨"slices.partialInsertionSortCmpFunc[loop.example/g00892/impl.Binding]",by decide,Tryz.func126.trans (congrArg some (by kernel_rfl))⟩
 f26:=⟨"slices.partitionEqualCmpFunc[loop.example/g00892/impl.Binding]",by decide,Tryz.func127.trans (congrArg some (by kernel_rfl))⟩
 f27:=⟨"slices.partitionCmpFunc[loop.example/g00892/impl.Binding]",by decide,Tryz.func128.trans (congrArg some (by kernel_rfl))⟩
 f28:=Tryz.func129.trans (congrArg some (by kernel_rfl))
 f29:=Tryz.func130.trans (congrArg some (by kernel_rfl))
 f46:=⟨"slices.siftDownCmpFunc[loop.example/g00892/impl.Binding]",by decide,Tryz.func143.trans (congrArg some (by kernel_rfl))⟩
 f47:=Tryz.func144.trans (congrArg some (by kernel_rfl))
 f48:=Tryz.func145.trans (congrArg some (by kernel_rfl))
 f49:=⟨"slices.medianAdjacentCmpFunc[loop.example/g00892/impl.Binding]",by decide,Tryz.func146.trans (congrArg some (by kernel_rfl))⟩
 f50:=⟨"slices.medianCmpFunc[loop.example/g00892/impl.Binding]",by decide,Tryz.func147.trans (congrArg some (by kernel_rfl))⟩
 f57:=⟨"slices.order2CmpFunc[loop.example/g00892/impl.Binding]",by decide,Tryz.func151.trans (congrArg some (by kernel_rfl))⟩
 t0:=Tryz.underlying0
 a0:=Tryz.isAgg0
 z0:=Tryz.sizeOf0
 v0:=Tryz.zeroValue0
 t3:=Tryz.underlying3
 a3:=Tryz.isAgg3
 z3:=Tryz.sizeOf3
 v3:=Tryz.zeroValue3
 t4:=Tryz.underlying4
 a4:=Tryz.isAgg4
 z4:=Tryz.sizeOf4
 v4:=Tryz.zeroValue4
 t5:=Tryz.underlying5
 a5:=Tryz.isAgg5
 z5:=Tryz.sizeOf5
 v5:=Tryz.zeroValue5
 t9:=Tryz.underlying9
 a9:=Tryz.isAgg9
 z9:=Tryz.sizeOf9
 v9:=Tryz.zeroValue9
 t22:=Tryz.underlying29
 a22:=Tryz.isAgg29
 z22:=Tryz.sizeOf29
 v22:=Tryz.zeroValue29
 t25:=Tryz.underlying107
 a25:=Tryz.isAgg107
 z25:=Tryz.sizeOf107
 v25:=Tryz.zeroValue107
 t39:=Tryz.underlying118
 a39:=Tryz.isAgg118
 z39:=Tryz.sizeOf118
 v39:=Tryz.zeroValue118
 t45:=Tryz.underlying133
 a45:=Tryz.isAgg133
 z45:=Tryz.sizeOf133
 v45:=Tryz.zeroValue133
 t46:=Tryz.underlying134
 a46:=Tryz.isAgg134
 z46:=Tryz.sizeOf134
 v46:=Tryz.zeroValue134
 t50:=Tryz.underlying138
 a50:=Tryz.isAgg138
 z50:=Tryz.sizeOf138
 v50:=Tryz.zeroValue138
 t53:=Tryz.underlying141
 a53:=Tryz.isAgg141
 z53:=Tryz.sizeOf141
 v53:=Tryz.zeroValue141
 t55:=Tryz.underlying48
 a55:=Tryz.isAgg48
 z55:=Tryz.sizeOf48
 v55:=Tryz.zeroValue48
 t66:=Tryz.underlying152
 a66:=Tryz.isAgg152
 z66:=Tryz.sizeOf152
 v66:=Tryz.zeroValue152
 t70:=Tryz.underlying156
 a70:=Tryz.isAgg156
 z70:=Tryz.sizeOf156
 v70:=Tryz.zeroValue156
 t76:=Tryz.underlying160
 a76:=Tryz.isAgg160
 z76:=Tryz.sizeOf160
 v76:=Tryz.zeroValue160
 t77:=Tryz.underlying161
 a77:=Tryz.isAgg161
 z77:=Tryz.sizeOf161
 v77:=Tryz.zeroValue161 }
end Go.Proofs
namespace Go.Proofs.YtdbgbieenhcldaaGreat
open Go Go.RowKit Go.Sort Go.Proofs.YtdbgbieenhcldaaGreat.Abs
set_option linter.unusedSimpArgs false
set_option linter.unusedVariables false
theorem joK:Tryz.laysSL_ren.f 6=93:=by kernel_rfl
theorem jrU:Tryz.laysSL_ren.t 24=44:=by kernel_rfl
theorem juN:jr8 Tryz.prog 93 3:=by
 intro m enc hk h1 cf hO g cb blk off cap d w eg hcmp hH hblk hsz;have:=AnyQ.slices_SortFunc_eq Tryz.laysSL 3 (by rw [jrU];exact Tryz.isAgg44) (by rw [jrU];exact Tryz.sizeOf44) enc hk h1 cf hO g cb blk off cap d w eg hcmp hH hblk hsz;rw [joK] at this;exact this
theorem jqG (p:Option Addr) (cap:Nat) (fv:Value) (w:World):Calls Tryz.prog 93 #[.slice p 0 cap,fv] w λe w'=>e = .returned (.tuple #[])/\w'=w:=by
 have:=AnyF.slices_SortFunc_none Tryz.laysSL p cap fv w;rw [joK] at this;exact this
theorem jl6:Enters Tryz.prog 93:=
 Zw Tryz.func93 (jh2.names _ _ Tryz.func93) (qO rfl)
theorem joG:Tryz.laysSB_ren.f 6=76:=by kernel_rfl
theorem jrQ:Tryz.laysSB_ren.t 24=86:=by kernel_rfl
theorem juK:jr8 Tryz.prog 76 3:=by
 intro m enc hk h1 cf hO g cb blk off cap d w eg hcmp hH hblk hsz;have:=AnyQ.slices_SortFunc_eq Tryz.laysSB 3 (by rw [jrQ];exact Tryz.isAgg86) (by rw [jrQ];exact Tryz.sizeOf86) enc hk h1 cf hO g cb blk off cap d w eg hcmp hH hblk hsz;rw [joG] at this;exact this
theorem jqE (p:Option Addr) (cap:Nat) (fv:Value) (w:World):Calls Tryz.prog 76 #[.slice p 0 cap,fv] w λe w'=>e = .returned (.tuple #[])/\w'=w:=by
 have:=AnyF.slices_SortFunc_none Tryz.laysSB p cap fv w;rw [joG] at this;exact this
theorem jl3:Enters Tryz.prog 76:=
 Zw Tryz.func76 (jh2.names _ _ Tryz.func76) (qO rfl)
theorem jr5 {X:Ctx} (f:FuncId) (x:ExtV) (args:List V) (objs:List Abs.Obj) (sgs:Sig) (sg:SigA) (qs:List (FuncId × List A)) (outs:List Out) (out:Out) (h1:K.extv f=some x) (h2:K.sig f=some sgs) (h3:JP objs.length sgs=some sg) (hq:x.ask args objs=some qs) (hok:jfz X K.P qs outs) (h4:x.ans args objs outs=some out):SOk X K.P f args objs sg out:=by
 have one:∀ {s s':SigA} {n:Nat},JP n [s]=some s'->s'=s:=by
  intro s s' n h;simp only [JP] at h;split at h
  ·exact (Option.some.inj h).symm
  ·cases h
 have h1:KM none f jio=some x:=h1;unfold jio at h1;simp only [KM] at h1;cases hb:Nat.beq f 93 with
 | true=>
  rw [hb] at h1;have hf:=Nat.eq_of_beq_eq_true hb;subst hf;cases h1;have h2:some [Zi 3]=some sgs:=h2;cases h2;rw [one h3];exact joI jl6 juN (by decide) rfl jqG hq hok h4
 | false=>
  rw [hb] at h1;cases hb:Nat.beq f 76 with
  | true=>
   rw [hb] at h1;have hf:=Nat.eq_of_beq_eq_true hb;subst hf;cases h1;have h2:some [Zi 3]=some sgs:=h2;cases h2;rw [one h3];exact joI jl3 juK (by decide) rfl jqE hq hok h4
  | false=>rw [hb] at h1;cases h1
theorem jvt {X:Ctx} {f:FuncId} {args:List A} {out:Out} (hs:K.pureF f=true) (h:G f args=some out):J7 X Tryz.prog f args out:=
 jtk jh2 (λf x args out h=>by cases h) jr5 f args out hs h
open Go Go.ChangeShapes Go.WideShapes Go.ChangeAt Go.RowKit Go.Proofs.YtdbgbieenhcldaaGreat.Abs
theorem Tryz.ownK:ownKnob Tryz.prog.godebug=none:=by kernel_rfl
theorem Tryz.laid:laidOutB Tryz.prog=true:=by kernel_rfl
def Xf:Ctx:=⟨λ_=>True,λ_=>False,λ_ _ _ h=>h⟩
theorem jtj {X:Ctx} {f:FuncId} {args:List A} {a:A} (hs:K.pureF f=true) (h:G f args=some (a,[])):J7 X Tryz.prog f args (a,[]):=jvt hs h
end Go.Proofs.YtdbgbieenhcldaaGreat
