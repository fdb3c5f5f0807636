/- Pd -/
import Derived.Test.YtjbkclajpheekaaGreatSn
import Derived.Shelf.Sort.Plain
import Derived.Shelf.Slices.In.SortNone
import Derived.Test.YtjbkclajpheekaaGreatRows
import Derived.ProofKit
import Derived.SizedLaws
import Derived.Lib.RowBridge
namespace Go.Proofs
open Go.Shelf
set_option linter.unusedSimpArgs false
set_option linter.unusedVariables false
def Tryz.lays190_ren:Go.Shelf.Ren:=⟨λ| 190=>117|125=>128|258=>127|128=>141|129=>142|302=>132|303=>133|304=>134|305=>135|306=>136|307=>137|308=>138|309=>139|310=>140|333=>145|329=>146|330=>147|334=>148|335=>149|336=>150|344=>151|n=>n,λ| 31=>22|9=>9|3=>3|46=>119|0=>0|51=>132|53=>134|4=>4|183=>125|182=>124|131=>106|5=>5|218=>139|222=>143|228=>145|229=>146|n=>n,λ| n=>n⟩
theorem Tryz.lays190:Go.Proofs.Lays.n190 Tryz.prog Tryz.lays190_ren:={
 mixed:=by kernel_rfl
 f125:=Tryz.func128.trans (congrArg some (by kernel_rfl))
 f128:=Tryz.func141.trans (congrArg some (by kernel_rfl))
 f129:=Tryz.func142.trans (congrArg some (by kernel_rfl))
 f190:=Tryz.func117.trans (congrArg some (by kernel_rfl))
 f258:=Tryz.func127.trans (congrArg some (by kernel_rfl))
 f302:=Tryz.func132.trans (congrArg some (by kernel_rfl))
 f303:=Tryz.func133.trans (congrArg some (by kernel_rfl))
 f304:=Tryz.func134.trans (congrArg some (by kernel_rfl))
 f305:=Tryz.func135.trans (congrArg some (by kernel_rfl))
 f306:=Tryz.func136.trans (congrArg some (by kernel_rfl))
 f307:=Tryz.func137.trans (congrArg some (by kernel_rfl))
 f308:=Tryz.func138.trans (congrArg some (by kernel_rfl))
 f309:=Tryz.func139.trans (congrArg some (by kernel_rfl))
 f310:=Tryz.func140.trans (congrArg some (by kernel_rfl))
 f329:=Tryz.func146.trans (congrArg some (by kernel_rfl))
 f330:=Tryz.func147.trans (congrArg some (by kernel_rfl))
 f333:=Tryz.func145.trans (congrArg some (by kernel_rfl))
 f334:=Tryz.func148.trans (congrArg some (by kernel_rfl))
 f335:=Tryz.func149.trans (congrArg some (by kernel_rfl))
 f336:=Tryz.func150.trans (congrArg some (by kernel_rfl))
 f344:=Tryz.func151.trans (congrArg some (by kernel_rfl))
 t0:=Tryz.underlying0
 a0:=Tryz.isAgg0
 z0:=Tryz.sizeOf0
 v0:=Tryz.zeroValue0
 t3:=Tryz.underlying3
 a3:=Tryz.isAgg3
 z3:=Tryz.sizeOf3
 v3:=Tryz.zeroValue3
 t4:=Tryz.underlying4
 a4:=Tryz.isAgg4
 z4:=Tryz.sizeOf4
 v4:=Tryz.zeroValue4
 t5:=Tryz.underlying5
 a5:=Tryz.isAgg5
 z5:=Tryz.sizeOf5
 v5:=Tryz.zeroValue5
 t9:=Tryz.underlying9
 a9:=Tryz.isAgg9
 z9:=Tryz.sizeOf9
 v9:=Tryz.zeroValue9
 t31:=Tryz.underlying22
 a31:=Tryz.isAgg22
 z31:=Tryz.sizeOf22
 v31:=Tryz.zeroValue22
 t46:=Tryz.underlying119
 a46:=Tryz.isAgg119
 z46:=Tryz.sizeOf119
 v46:=Tryz.zeroValue119
 t51:=Tryz.underlying132
 a51:=Tryz.isAgg132
 z51:=Tryz.sizeOf132
 v51:=Tryz.zeroValue132
 t53:=Tryz.underlying134
 a53:=Tryz.isAgg134
 z53:=Tryz.sizeOf134
 v53:=Tryz.zeroValue134
 t131:=Tryz.underlying106
 a131:=Tryz.isAgg106
 z131:=Tryz.sizeOf106
 v131:=Tryz.zeroValue106
 t182:=Tryz.underlying124
 a182:=Tryz.isAgg124
 z182:=Tryz.sizeOf124
 v182:=Tryz.zeroValue124
 t183:=Tryz.underlying125
 a183:=Tryz.isAgg125
 z183:=Tryz.sizeOf125
 v183:=Tryz.zeroValue125
 t218:=Tryz.underlying139
 a218:=Tryz.isAgg139
 z218:=Tryz.sizeOf139
 v218:=Tryz.zeroValue139
 t222:=Tryz.underlying143
 a222:=Tryz.isAgg143
 z222:=Tryz.sizeOf143
 v222:=Tryz.zeroValue143
 t228:=Tryz.underlying145
 a228:=Tryz.isAgg145
 z228:=Tryz.sizeOf145
 v228:=Tryz.zeroValue145
 t229:=Tryz.underlying146
 a229:=Tryz.isAgg146
 z229:=Tryz.sizeOf146
 v229:=Tryz.zeroValue146 }
end Go.Proofs
namespace Go.Proofs.YtjbkclajpheekaaGreat
open Go Go.RowKit Go.Sort Go.Proofs.YtjbkclajpheekaaGreat.Abs
set_option linter.unusedSimpArgs false
set_option linter.unusedVariables false
theorem jgZ:Tryz.lays190_ren.f 190=117:=by kernel_rfl
theorem jie (blk off cap:Nat) (ss:List (List UInt8)) (w:World) (hH:Holds encStr w blk off ss.toArray) (hblk:blk < w.heap.size) (hsz:ss.length < 4611686018427387904) :
  Calls Tryz.prog 117 #[.slice (some ⟨blk,off,none⟩) ss.length cap] w λe w'=>e = .returned (.tuple #[])/\ ∃n os,w'=Sort.grow (putRow encStr (Sort.ahead w n) blk off (ss.mergeSort λx y=>decide (x<=y)).toArray) os:=by
 have:=Any.slices_Sort_string Tryz.lays190 blk off cap ss w hH hblk hsz;rw [jgZ] at this;exact this
theorem jgX (p:Option Addr) (cap:Nat) (w:World):Calls Tryz.prog 117 #[.slice p 0 cap] w λe w'=>e = .returned (.tuple #[])/\w'=w:=by
 have:=Any.slices_Sort_string_none Tryz.lays190 p cap w;rw [jgZ] at this;exact this
theorem jgY:Enters Tryz.prog 117:=
 QU Tryz.func117 (jk6.names _ _ Tryz.func117) (Kq rfl)
theorem jpm {X:Ctx} (f:FuncId) (x:ExtV) (args:List V) (objs:List Abs.Obj) (sgs:Sig) (sg:SigA) (qs:List (FuncId × List A)) (outs:List Out) (out:Out) (h1:K.extv f=some x) (h2:K.sig f=some sgs) (h3:Ju objs.length sgs=some sg) (_:x.ask args objs=some qs) (_:jfw X K.P qs outs) (h4:x.ans args objs outs=some out):SOk X K.P f args objs sg out:=by
 have hf:f=117/\x=jmH:=by
  have h1:Zj none f jhw=some x:=h1;unfold jhw at h1;simp only [Zj] at h1;cases hb:Nat.beq f 117 with
  | true=>rw [hb] at h1;cases h1;exact ⟨jx hb,rfl⟩
  | false=>rw [hb] at h1;cases h1
 obtain ⟨rfl,rfl⟩:=hf;have hsg:sgs = [JG]:=by
  have h2:some [JG]=some sgs:=h2;exact (QE h2).symm
 subst hsg;have hsg:sg=JG:=by
  simp only [Ju] at h3;split at h3
  ·exact (QE h3).symm
  ·cases h3
 subst hsg;exact jmI jgY jie jgX h4
theorem jrE {X:Ctx} {f:FuncId} {args:List A} {out:Out} (hs:K.pureF f=true) (h:G f args=some out):J7 X Tryz.prog f args out:=
 jqq jk6 (λf x args out h=>by cases h) jpm f args out hs h
open Go Go.ChangeShapes Go.WideShapes Go.ChangeAt Go.RowKit Go.Proofs.YtjbkclajpheekaaGreat.Abs
theorem Tryz.ownK:ownKnob Tryz.prog.godebug=none:=by kernel_rfl
theorem Tryz.laid:laidOutB Tryz.prog=true:=by kernel_rfl
def Xf:Ctx:=⟨λ_=>True,λ_=>False,λ_ _ _ h=>h⟩
theorem jqp {X:Ctx} {f:FuncId} {args:List A} {a:A} (hs:K.pureF f=true) (h:G f args=some (a,[])):J7 X Tryz.prog f args (a,[]):=jrE hs h
theorem K1 {w:World} {O:Nat->Prop} {l:List A} {cs:Array Value} (h:jk w O l (Value.agg cs).cells.toList):rel w O (.agg l) (.agg cs):=by
 simp only [rel];exact ⟨cs.toList,by simp,by simpa [Value.cells] using h⟩
end Go.Proofs.YtjbkclajpheekaaGreat
