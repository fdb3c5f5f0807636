/- Pz -/
import Derived.Test.YtmmnimiohoammaaGreatDoorSn
import Derived.Shelf.Strconv.Itoa3
import Derived.Shelf.Strings.OnBuilder
import Derived.Test.YtmmnimiohoammaaGreatDoorEd
import Derived.Lib.LaidTab
import Derived.Test.YtmmnimiohoammaaGreatDoorCards
import Derived.Test.YtmmnimiohoammaaGreatDoorTie
import Derived.ProofKit
import Derived.SizedLaws
import Derived.LaidLaws
import Derived.LaidHandle
import Derived.Stop.LaidErr
import Derived.SevenTiedAt
import Derived.JoinedOf
import Derived.Lib.RowBridge
import Derived.Test.YtmmnimiohoammaaGreatDoorPb
namespace Go.Proofs
open Go.Shelf
set_option linter.unusedSimpArgs false
set_option linter.unusedVariables false
def Tryz.laysIt_ren:Go.Shelf.Ren:=⟨λ| 171=>37|243=>55|246=>77|283=>95|284=>96|285=>97|286=>98|129=>105|317=>104|318=>106|319=>107|320=>108|337=>109|338=>110|n=>n,λ| 3=>3|9=>9|2=>2|4=>4|171=>107|0=>0|53=>108|37=>83|5=>5|173=>111|212=>120|51=>121|20=>20|213=>122|46=>123|232=>126|233=>127|n=>n,λ| 17=>0|18=>2|19=>3|n=>n⟩
theorem Tryz.laysIt:Go.Proofs.LaysM.n171 Tryz.prog Tryz.laysIt_ren:={
 mixed:=by kernel_rfl
 f129:=Tryz.func105.trans (congrArg some (by kernel_rfl))
 f171:=Tryz.func37.trans (congrArg some (by kernel_rfl))
 f243:=Tryz.func55.trans (congrArg some (by kernel_rfl))
 f246:=Tryz.func77.trans (congrArg some (by kernel_rfl))
 f283:=Tryz.func95.trans (congrArg some (by kernel_rfl))
 f284:=Tryz.func96.trans (congrArg some (by kernel_rfl))
 f285:=Tryz.func97.trans (congrArg some (by kernel_rfl))
 f286:=Tryz.func98.trans (congrArg some (by kernel_rfl))
 f317:=Tryz.func104.trans (congrArg some (by kernel_rfl))
 f318:=Tryz.func106.trans (congrArg some (by kernel_rfl))
 f319:=Tryz.func107.trans (congrArg some (by kernel_rfl))
 f320:=Tryz.func108.trans (congrArg some (by kernel_rfl))
 f337:=Tryz.func109.trans (congrArg some (by kernel_rfl))
 f338:=Tryz.func110.trans (congrArg some (by kernel_rfl))
 t0:=Tryz.underlying0
 a0:=Tryz.isAgg0
 z0:=Tryz.sizeOf0
 v0:=Tryz.zeroValue0
 t2:=Tryz.underlying2
 a2:=Tryz.isAgg2
 z2:=Tryz.sizeOf2
 v2:=Tryz.zeroValue2
 t3:=Tryz.underlying3
 a3:=Tryz.isAgg3
 z3:=Tryz.sizeOf3
 v3:=Tryz.zeroValue3
 t4:=Tryz.underlying4
 a4:=Tryz.isAgg4
 z4:=Tryz.sizeOf4
 v4:=Tryz.zeroValue4
 t5:=Tryz.underlying5
 a5:=Tryz.isAgg5
 z5:=Tryz.sizeOf5
 v5:=Tryz.zeroValue5
 t9:=Tryz.underlying9
 a9:=Tryz.isAgg9
 z9:=Tryz.sizeOf9
 v9:=Tryz.zeroValue9
 t20:=Tryz.underlying20
 a20:=Tryz.isAgg20
 z20:=Tryz.sizeOf20
 v20:=Tryz.zeroValue20
 t37:=Tryz.underlying83
 a37:=Tryz.isAgg83
 z37:=Tryz.sizeOf83
 v37:=Tryz.zeroValue83
 t46:=Tryz.underlying123
 a46:=Tryz.isAgg123
 z46:=Tryz.sizeOf123
 v46:=Tryz.zeroValue123
 t51:=Tryz.underlying121
 a51:=Tryz.isAgg121
 z51:=Tryz.sizeOf121
 v51:=Tryz.zeroValue121
 t53:=Tryz.underlying108
 a53:=Tryz.isAgg108
 z53:=Tryz.sizeOf108
 v53:=Tryz.zeroValue108
 t171:=Tryz.underlying107
 a171:=Tryz.isAgg107
 z171:=Tryz.sizeOf107
 v171:=Tryz.zeroValue107
 t173:=Tryz.underlying111
 a173:=Tryz.isAgg111
 z173:=Tryz.sizeOf111
 v173:=Tryz.zeroValue111
 t212:=Tryz.underlying120
 a212:=Tryz.isAgg120
 z212:=Tryz.sizeOf120
 v212:=Tryz.zeroValue120
 t213:=Tryz.underlying122
 a213:=Tryz.isAgg122
 z213:=Tryz.sizeOf122
 t232:=Tryz.underlying126
 a232:=Tryz.isAgg126
 z232:=Tryz.sizeOf126
 v232:=Tryz.zeroValue126
 t233:=Tryz.underlying127
 a233:=Tryz.isAgg127
 z233:=Tryz.sizeOf127
 v233:=Tryz.zeroValue127
 g17:=by kernel_rfl
 g18:=by kernel_rfl
 g19:=by kernel_rfl
 i0:=by kernel_rfl
 i2:=by kernel_rfl
 i3:=by kernel_rfl
 i4:=by kernel_rfl
 i5:=by kernel_rfl
 i9:=by kernel_rfl
 i20:=by kernel_rfl
 i37:=by kernel_rfl
 i46:=by kernel_rfl
 i51:=by kernel_rfl
 i53:=by kernel_rfl
 i171:=by kernel_rfl
 i173:=by kernel_rfl
 i212:=by kernel_rfl
 i232:=by kernel_rfl
 i233:=by kernel_rfl
 m17:=by kernel_rfl
 m18:=by kernel_rfl
 m19:=by kernel_rfl }
def Tryz.laysJn_ren:Go.Shelf.Ren:=⟨λ| 156=>38|165=>56|166=>57|169=>58|240=>78|241=>79|276=>99|277=>100|n=>n,λ| 31=>44|9=>9|3=>3|4=>4|0=>0|20=>20|72=>85|76=>89|70=>82|37=>83|75=>88|127=>101|164=>113|5=>5|80=>91|n=>n,λ| n=>n⟩
theorem Tryz.laysJn:Go.Proofs.Lays.n156 Tryz.prog Tryz.laysJn_ren:={
 mixed:=by kernel_rfl
 f156:=Tryz.func38.trans (congrArg some (by kernel_rfl))
 f165:=Tryz.func56.trans (congrArg some (by kernel_rfl))
 f166:=Tryz.func57.trans (congrArg some (by kernel_rfl))
 f169:=Tryz.func58.trans (congrArg some (by kernel_rfl))
 f240:=Tryz.func78.trans (congrArg some (by kernel_rfl))
 f241:=Tryz.func79.trans (congrArg some (by kernel_rfl))
 f276:=Tryz.func99.trans (congrArg some (by kernel_rfl))
 f277:=Tryz.func100.trans (congrArg some (by kernel_rfl))
 t0:=Tryz.underlying0
 a0:=Tryz.isAgg0
 z0:=Tryz.sizeOf0
 v0:=Tryz.zeroValue0
 t3:=Tryz.underlying3
 a3:=Tryz.isAgg3
 z3:=Tryz.sizeOf3
 v3:=Tryz.zeroValue3
 t4:=Tryz.underlying4
 a4:=Tryz.isAgg4
 z4:=Tryz.sizeOf4
 v4:=Tryz.zeroValue4
 t9:=Tryz.underlying9
 a9:=Tryz.isAgg9
 z9:=Tryz.sizeOf9
 v9:=Tryz.zeroValue9
 t20:=Tryz.underlying20
 a20:=Tryz.isAgg20
 z20:=Tryz.sizeOf20
 v20:=Tryz.zeroValue20
 t31:=Tryz.underlying44
 a31:=Tryz.isAgg44
 z31:=Tryz.sizeOf44
 v31:=Tryz.zeroValue44
 t37:=Tryz.underlying83
 a37:=Tryz.isAgg83
 z37:=Tryz.sizeOf83
 v37:=Tryz.zeroValue83
 t70:=Tryz.underlying82
 a70:=Tryz.isAgg82
 z70:=Tryz.sizeOf82
 v70:=Tryz.zeroValue82
 t72:=Tryz.underlying85
 a72:=Tryz.isAgg85
 z72:=Tryz.sizeOf85
 v72:=Tryz.zeroValue85
 t75:=Tryz.underlying88
 a75:=Tryz.isAgg88
 z75:=Tryz.sizeOf88
 v75:=Tryz.zeroValue88
 t76:=Tryz.underlying89
 a76:=Tryz.isAgg89
 z76:=Tryz.sizeOf89
 v76:=Tryz.zeroValue89
 t127:=Tryz.underlying101
 a127:=Tryz.isAgg101
 z127:=Tryz.sizeOf101
 v127:=Tryz.zeroValue101
 t164:=Tryz.underlying113
 a164:=Tryz.isAgg113
 z164:=Tryz.sizeOf113
 v164:=Tryz.zeroValue113 }
end Go.Proofs
namespace Go.Proofs.YtmmnimiohoammaaGreatDoor
open Go Go.RowKit Go.Sort Go.Proofs.YtmmnimiohoammaaGreatDoor.Abs
set_option linter.unusedSimpArgs false
set_option linter.unusedVariables false
def KY:Nat:=0
theorem KZ:Tryz.prog.globalNamed "internal/strconv.uint64pow10" = some KY:=by kernel_rfl
def Qz (w:World):Prop:=Lib.TabIs Tryz.prog w "internal/strconv.uint64pow10" .u64 Lib.pow10Tab
theorem jc3 {w w':World} (h:w'.heap[KY]? = w.heap[KY]?) (hw:Qz w):Qz w':=by
 unfold Qz Lib.TabIs World.var? at *;rw [KZ] at *;simp only [Option.bind_some] at *;rw [h];exact hw
theorem jjx {w:World} (hw:Qz w):KY < w.heap.size:=by
 unfold Qz Lib.TabIs World.var? at hw;rw [KZ] at hw;simp only [Option.bind_some] at hw;rcases Nat.lt_or_ge KY w.heap.size with h|h
 .exact h
 .rw [Array.getElem?_eq_none h] at hw;simp at hw
theorem jgg {w:World} (hw:Qz w) {off:Nat} {v:Value} (h:w.cell? ⟨KY,off,none⟩=some v):∃z,v = .int .u64 z:=by
 by_cases hi:off < Lib.pow10Tab.length
 .have:=Lib.TabIs.cell hw KZ off hi;rw [h] at this;exact ⟨_,Option.some.inj this⟩
 .have:=World.var?_cell KZ hw off;rw [h] at this;have h2:(Lib.pow10Tab.map λz=>Value.int IntKind.u64 z).toArray[off]? = none:=Array.getElem?_eq_none (by simp;omega);simp [h2] at this
def Xt:Ctx:=⟨Qz,λb=>b=KY,λ_ _ h hw=>jc3 (h KY rfl) hw⟩
theorem jgZ:Tryz.laysIt_ren.f 171=37:=by kernel_rfl
theorem jcc:Enters Tryz.prog 37:=
 Js Tryz.func37 (jde.names _ _ Tryz.func37) (yX rfl)
theorem jiH (args:List A) (out:Out) (h:jeJ args=some out):yM Xt Tryz.prog 37 args out:=by
 unfold jeJ at h;split at h;rotate_left
 .cases h
 rename_i n;split at h;rotate_left
 .cases h
 rename_i hn;cases h;refine ⟨jcc,λw O vs hj _ _ hrel=> ?_⟩;simp only [jf,rel] at hrel;obtain ⟨v,r,rfl,rfl,rfl⟩:=hrel;have:=Any.strconv_Itoa Tryz.laysIt n hn.1 hn.2 w hj;rw [jgZ] at this;refine this.mono ?_;rintro e w' ⟨rfl,k,os,rfl⟩;refine ⟨_,rfl,?_,?_⟩
 .refine ⟨rfl,rfl,⟨rfl,?_⟩,?_,λb hb=> ?_⟩
  .simp [grow,World.drewN]
  .simp [grow,World.drewN]
  .simp only [grow,World.drewN];rw [Array.getElem?_append_left hb]
 .simp only [rel]
theorem jce:Tryz.laysJn_ren.f 156=38:=by kernel_rfl
theorem jcd:Enters Tryz.prog 38:=
 Js Tryz.func38 (jde.names _ _ Tryz.func38) (yX rfl)
theorem YD:Go.Proofs.Builder.Extra Tryz.prog Tryz.laysJn_ren where
 sizeBuilder:=by kernel_rfl
 liesBuilder:=by kernel_rfl
 t5:=Tryz.laysIt.t5
 a5:=Tryz.laysIt.a5
 z5:=Tryz.laysIt.z5
 v5:=Tryz.laysIt.v5
 infoByte:=by kernel_rfl
 cellsByte:=by kernel_rfl
 sizeByte:=by kernel_rfl
 neB5:=by decide
theorem jiI (args:List A) (out:Out) (h:jeK args=some out):yM Xt Tryz.prog 38 args out:=by
 unfold jeK at h;split at h;rotate_left
 .cases h
 rename_i k rows sep;split at h;rotate_left
 .cases h
 rename_i hk;subst hk;obtain ⟨xs,hx,h⟩:=Option.bind_eq_some_iff.1 h;split at h;rotate_left
 .cases h
 rename_i hn;cases h;refine ⟨jcd,λw O vs hj _ _ hrel=> ?_⟩;simp only [jf,rel] at hrel;obtain ⟨v,r,rfl,⟨a,cap,rfl,hc1,hc2,hor⟩,v',r',rfl,rfl,rfl⟩:=hrel;rcases hor with rfl|⟨b,off,rfl,hb,hO,hr⟩
 .cases hx;have:=Any.strings_Join_none Tryz.laysJn YD a cap sep w;rw [jce] at this;refine this.mono ?_;rintro e w' ⟨rfl,rfl⟩;exact ⟨_,rfl,Below.refl _ _,by simp only [rel];rfl⟩
 .have hl:=jcY hx;have:=Any.strings_Join Tryz.laysJn YD b off cap xs sep w (jav hr hx) hb hn.1 (by omega) hn.2;rw [jce,hl] at this;refine this.mono ?_;rintro e w' ⟨rfl,hB⟩;exact ⟨_,rfl,⟨hB.os,hB.tape,⟨hB.output,trivial⟩,hB.size,hB.block⟩,by simp only [rel]⟩
theorem jkx {X:Ctx} (f:FuncId) (x:ExtV) (args:List V) (objs:List Abs.Obj) (sgs:Sig) (sg:SigA) (qs:List (FuncId × List A)) (outs:List Out) (out:Out) (h1:K.extv f=some x) (h2:K.sig f=some sgs) (h3:qK objs.length sgs=some sg) (hq:x.ask args objs=some qs) (hok:jd6 X K.P qs outs) (h4:x.ans args objs outs=some out):SOk X K.P f args objs sg out:=by
 have h1:(none:Option ExtV)=some x:=h1;cases h1
theorem jm8 {f:FuncId} {args:List A} {out:Out} (hs:K.pureF f=true) (h:G f args=some out):yM Xt Tryz.prog f args out:=by
 refine jlO jde (λf x args out h h2=> ?_) jkx f args out hs h;have h:qM none f jaO=some x:=h;unfold jaO at h;simp only [qM] at h;cases hb:Nat.beq f 37 with
 | true=>
  rw [hb] at h;have hf:=Nat.eq_of_beq_eq_true hb;subst hf;cases h;exact jiH args out h2
 | false=>
  rw [hb] at h;cases hb:Nat.beq f 38 with
  | true=>
   rw [hb] at h;have hf:=Nat.eq_of_beq_eq_true hb;subst hf;cases h;exact jiI args out h2
  | false=>rw [hb] at h;cases h
open Go Go.ChangeShapes Go.WideShapes Go.ChangeAt Go.RowKit Go.Proofs.YtmmnimiohoammaaGreatDoor.Abs
theorem Tryz.ownK:ownKnob Tryz.prog.godebug=none:=by kernel_rfl
theorem Tryz.laidO:laidOutB Tryz.prog=true:=by kernel_rfl
set_option linter.unusedSectionVars false
theorem jhU:laidOutB Tryz.pinned.checked.prog=true:=by kernel_rfl
theorem jf9:mapsRowed Tryz.pinned.checked.prog=true:=by kernel_rfl
theorem jjm:false=Tryz.pinned.checked.prog.looks []:=by kernel_rfl
mutual
def nu:A->Bool
 | .val (.int .u64 _)=>false
 | .val _=>true
 | .sl _ xs=>nuR xs
 | .agg cs=>nuL cs
 | _=>false
def nuR:List (List A)->Bool
 | []=>true
 | x::xs=>(!x.isEmpty && nuL x) && nuR xs
def nuL:List A->Bool
 | []=>true
 | c::cs=>nu c && nuL cs
end
theorem jk4 {w:World} {O:Nat->Prop} {c:A} {z:Int} (h:nu c=true) (hr:rel w O c (.int .u64 z)):False:=by
 cases c with
 | top=>simp [nu] at h
 | val v=>simp only [rel] at hr;rw [<-hr] at h;simp [nu] at h
 | sl k xs=>simp only [rel] at hr;obtain ⟨a,cap,h1,_⟩:=hr;cases h1
 | agg cs=>simp only [rel] at hr;obtain ⟨vs,h1,_⟩:=hr;cases h1
 | elt cs off=>simp [nu] at h
 | fn f cs=>simp [nu] at h
 | tup cs=>simp [nu] at h
 | mp xs=>simp [nu] at h
section
variable {w:World} (hJ:Qz w)
include hJ
mutual
theorem jdQ:∀(a:A) (v:Value),nu a=true->rel w (λ_=>False) a v->rel w (λb=>b=KY) a v
 | .top,_,h,_=>by simp [nu] at h
 | .val x,v,_,hr=>by simpa [rel] using hr
 | .sl k xs,v,h,hr=>by
  simp only [rel] at hr ⊢;obtain ⟨a,cap,h1,h2,h3,h4⟩:=hr;refine ⟨a,cap,h1,h2,h3,?_⟩;rcases h4 with h4|⟨b,off,h5,h6,h7,h8⟩
  .exact Or.inl h4
  .have hn:nuR xs=true:=by simpa only [nu] using h
   match xs,hn,h8 with
   | [],_,_=>exact Or.inl rfl
   | x::xs,hn,h8=>
    refine Or.inr ⟨b,off,h5,h6,λhb=> ?_,Qd k b off (x::xs) hn h8⟩;subst hb;simp only [nuR,Bool.and_eq_true] at hn;simp only [jz] at h8
    match x,hn.1,h8.2.1 with
    | [],hx,_=>simp at hx
    | c::cs,hx,h9=>
     simp only [nuL,Bool.and_eq_true] at hx;simp only [jL] at h9;obtain ⟨⟨v',e1,_,e2⟩,_⟩:=h9;obtain ⟨z,rfl⟩:=jgg hJ e1;exact jk4 hx.2.1 e2
 | .agg cs,v,h,hr=>by
  simp only [rel] at hr ⊢;obtain ⟨vs,h1,h2⟩:=hr;exact ⟨vs,h1,je1 cs vs (by simpa only [nu] using h) h2⟩
 | .elt cs off,_,h,_=>by simp [nu] at h
 | .fn f caps,_,h,_=>by simp [nu] at h
 | .tup cs,_,h,_=>by simp [nu] at h
 | .mp xs,_,h,_=>by simp [nu] at h
theorem je1:∀(cs:List A) (vs:List Value),nuL cs=true->jf w (λ_=>False) cs vs->jf w (λb=>b=KY) cs vs
 | [],vs,_,hr=>by simpa [jf] using hr
 | c::cs,vs,h,hr=>by
  simp only [nuL,Bool.and_eq_true] at h;simp only [jf] at hr ⊢;obtain ⟨v,r,h1,h2,h3⟩:=hr;exact ⟨v,r,h1,jdQ c v h.1 h2,je1 cs r h.2 h3⟩
theorem ZK (b off:Nat):∀(cs:List A),nuL cs=true->jL w (λ_=>False) b off cs->jL w (λb=>b=KY) b off cs
 | [],_,_=>by simp [jL]
 | c::cs,h,hr=>by
  simp only [nuL,Bool.and_eq_true] at h;simp only [jL] at hr ⊢;obtain ⟨⟨v,h1,h0,h2⟩,h3⟩:=hr;exact ⟨⟨v,h1,h0,jdQ c v h.1 h2⟩,ZK b (off+1) cs h.2 h3⟩
theorem Qd (k b off:Nat):∀(xs:List (List A)),nuR xs=true->jz w (λ_=>False) k b off xs->jz w (λb=>b=KY) k b off xs
 | [],_,_=>by simp [jz]
 | x::xs,h,hr=>by
  simp only [nuR,Bool.and_eq_true] at h;simp only [jz] at hr ⊢;obtain ⟨h1,h2,h3⟩:=hr;exact ⟨h1,ZK b off x h.1.2 h2,Qd k b (off+k) xs h.2 h3⟩
end
end
theorem ja9 {α:Type} {f:α->List A} (hf:∀x,(f x).isEmpty=false/\nuL (f x)=true):∀l:List α,nuR (l.map f)=true
 | []=>rfl
 | x::l=>by simp only [List.map_cons,nuR,(hf x).1,(hf x).2,ja9 hf l];rfl
mutual
theorem jki:∀t:T,(jI t).isEmpty=false/\nuL (jI t)=true
 | .mk n us=>by
  rw [qa];refine ⟨rfl,?_⟩;have:=jdH us;simp only [nuL,nu,T.args,this];rfl
theorem jdH:∀us:List T,nuR (us.map jI)=true
 | []=>rfl
 | u::us=>by simp only [List.map_cons,nuR,(jki u).1,(jki u).2,jdH us];rfl
end
theorem jeT (l:List Int):nu (ints l)=true:=by
 simp only [nu];exact ja9 (λx=>⟨rfl,rfl⟩) l
theorem jiV (c:zm):nuR (c.map yP)=true:=ja9 (λl=>⟨rfl,by
 have:=jdH l.2.args;simp only [nuL,nu,this];rfl⟩) c
theorem jk5 (s:Stp):nu (stm s)=true:=by
 have h1:=jeT s.par;have h2:=jeT s.whr;simp only [nu] at h1 h2;simp only [nu,nuL,jiV s.cls,h1,h2];rfl
theorem Kg {w:World} {O:Nat->Prop} {l:List A} {cs:Array Value} (h:jf w O l (Value.agg cs).cells.toList):rel w O (.agg l) (.agg cs):=by
 simp only [rel];exact ⟨cs.toList,by simp,by simpa [Value.cells] using h⟩
abbrev lst:List (String × DataW Unit):=Rows.fnExactFormatStepRow.laid
theorem jnQ:(Tryz.prog.globals[KY]?).map (·.type)=some 120:=by kernel_rfl
theorem jnR:Tryz.prog.underlying 120=some (.array 20 108):=by kernel_rfl
theorem jnP:Tryz.prog.underlying 108=some (.int .u64):=by kernel_rfl
theorem jlv {w:World} (h:laidMet Tryz.prog lst w):Qz w:=by
 have h3:laidMet Tryz.prog [("internal/strconv.uint64pow10",Lib.tabData .u64 Lib.pow10Tab)] w:=by
  have e:(Rows.laid_internal_strconv_uint64pow10:DataW Unit)=Lib.tabData .u64 Lib.pow10Tab:=by kernel_rfl
  have:=h.tail.tail;rw [<-e];exact this
 exact Lib.tabIs_of_head KZ jnQ jnR jnP (by kernel_rfl) (by kernel_rfl) h3
def intsIn (d:DataW Unit):Array Value:=match d with
 | .agg l=>(l.map λx=>match x with | .lit (.int k z)=>Value.int k z|_=> .int .i64 0).toArray
 | _=>#[]
def jk1 (g:Nat) (d:DataW Unit) (h:Array Obj):Array Obj:=h.modify g λ
 | .cells _ t frozen=> .cells (intsIn d) t frozen
 | o=>o
noncomputable def jkf (os:Os):World:=
 { World.holding Tryz.prog os ⟨#[],#[],[]⟩ with heap:=jk1 3 Rows.laid_math_bits_deBruijn64tab (jk1 2 Rows.laid_math_bits_deBruijn32tab (jk1 0 Rows.laid_internal_strconv_uint64pow10 (World.holding Tryz.prog os ⟨#[],#[],[]⟩).heap)) }
set_option maxRecDepth 100000 in
theorem jfv (os:Os) (args:Array Value):laidMetH Tryz.prog lst ((jkf os).forCall (λ_ _=>0) ⟨#[],args,[]⟩).memory:=
 laidMetH_of_parts (laidMet_of_run' 8 (by kernel_rfl) (by kernel_rfl)) (by kernel_rfl)
end Go.Proofs.YtmmnimiohoammaaGreatDoor
