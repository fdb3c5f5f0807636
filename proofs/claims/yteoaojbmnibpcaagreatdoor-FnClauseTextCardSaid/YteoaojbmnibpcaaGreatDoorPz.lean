/- Pz -/
import Derived.Test.YteoaojbmnibpcaaGreatDoorSn
import Derived.Shelf.Strings.OnBuilder
import Derived.Shelf.Strings.SplitShaped
import Derived.Test.YteoaojbmnibpcaaGreatDoorEd
import Derived.Test.YteoaojbmnibpcaaGreatDoorCards
import Derived.Test.YteoaojbmnibpcaaGreatDoorTie
import Derived.ProofKit
import Derived.SizedLaws
import Derived.LaidLaws
import Derived.LaidHandle
import Derived.Stop.LaidErr
import Derived.SevenTiedAt
import Derived.JoinedOf
import Derived.Lib.RowBridge
import Derived.Test.YteoaojbmnibpcaaGreatDoorPb
import Derived.Handed
namespace Go.Proofs
open Go.Shelf
set_option linter.unusedSimpArgs false
set_option linter.unusedVariables false
def Tryz.laysJn_ren:Go.Shelf.Ren:=⟨λ|156=>51|165=>85|166=>86|169=>87|240=>126|241=>127|276=>160|277=>161|n=>n,λ|31=>49|9=>9|3=>3|4=>4|0=>0|20=>20|72=>104|76=>108|70=>102|37=>22|75=>107|127=>123|164=>138|5=>5|80=>110|n=>n,λ|n=>n⟩
theorem Tryz.laysJn:Go.Proofs.Lays.n156 Tryz.prog Tryz.laysJn_ren:={
 mixed:=by kernel_rfl
 f156:=Tryz.func51.trans (congrArg some (by kernel_rfl))
 f165:=Tryz.func85.trans (congrArg some (by kernel_rfl))
 f166:=Tryz.func86.trans (congrArg some (by kernel_rfl))
 f169:=Tryz.func87.trans (congrArg some (by kernel_rfl))
 f240:=Tryz.func126.trans (congrArg some (by kernel_rfl))
 f241:=Tryz.func127.trans (congrArg some (by kernel_rfl))
 f276:=Tryz.func160.trans (congrArg some (by kernel_rfl))
 f277:=Tryz.func161.trans (congrArg some (by kernel_rfl))
 t0:=Tryz.underlying0
 a0:=Tryz.isAgg0
 z0:=Tryz.sizeOf0
 v0:=Tryz.zeroValue0
 t3:=Tryz.underlying3
 a3:=Tryz.isAgg3
 z3:=Tryz.sizeOf3
 v3:=Tryz.zeroValue3
 t4:=Tryz.underlying4
 a4:=Tryz.isAgg4
 z4:=Tryz.sizeOf4
 v4:=Tryz.zeroValue4
 t9:=Tryz.underlying9
 a9:=Tryz.isAgg9
 z9:=Tryz.sizeOf9
 v9:=Tryz.zeroValue9
 t20:=Tryz.underlying20
 a20:=Tryz.isAgg20
 z20:=Tryz.sizeOf20
 v20:=Tryz.zeroValue20
 t31:=Tryz.underlying49
 a31:=Tryz.isAgg49
 z31:=Tryz.sizeOf49
 v31:=Tryz.zeroValue49
 t37:=Tryz.underlying22
 a37:=Tryz.isAgg22
 z37:=Tryz.sizeOf22
 v37:=Tryz.zeroValue22
 t70:=Tryz.underlying102
 a70:=Tryz.isAgg102
 z70:=Tryz.sizeOf102
 v70:=Tryz.zeroValue102
 t72:=Tryz.underlying104
 a72:=Tryz.isAgg104
 z72:=Tryz.sizeOf104
 v72:=Tryz.zeroValue104
 t75:=Tryz.underlying107
 a75:=Tryz.isAgg107
 z75:=Tryz.sizeOf107
 v75:=Tryz.zeroValue107
 t76:=Tryz.underlying108
 a76:=Tryz.isAgg108
 z76:=Tryz.sizeOf108
 v76:=Tryz.zeroValue108
 t127:=Tryz.underlying123
 a127:=Tryz.isAgg123
 z127:=Tryz.sizeOf123
 v127:=Tryz.zeroValue123
 t164:=Tryz.underlying138
 a164:=Tryz.isAgg138
 z164:=Tryz.sizeOf138
 v164:=Tryz.zeroValue138 }
def Tryz.laysSp_ren:Go.Shelf.Ren:=⟨λ|146=>21|221=>52|268=>88|138=>89|143=>90|195=>128|197=>129|218=>130|219=>105|260=>162|217=>140|225=>141|224=>142|267=>143|266=>166|314=>167|n=>n,λ|9=>9|31=>49|3=>3|4=>4|0=>0|105=>125|21=>21|5=>5|46=>114|119=>154|139=>157|138=>156|146=>143|51=>142|n=>n,λ|1=>0|3=>1|4=>2|n=>n⟩
theorem Tryz.laysSp:Go.Proofs.LaysM.n146 Tryz.prog Tryz.laysSp_ren:={
 mixed:=by kernel_rfl
 f138:=Tryz.func89.trans (congrArg some (by kernel_rfl))
 f143:=Tryz.func90.trans (congrArg some (by kernel_rfl))
 f146:=Tryz.func21.trans (congrArg some (by kernel_rfl))
 f195:=Tryz.func128.trans (congrArg some (by kernel_rfl))
 f197:=Tryz.func129.trans (congrArg some (by kernel_rfl))
 f217:=Tryz.func140.trans (congrArg some (by kernel_rfl))
 f218:=Tryz.func130.trans (congrArg some (by kernel_rfl))
 f219:=Tryz.func105.trans (congrArg some (by kernel_rfl))
 f221:=Tryz.func52.trans (congrArg some (by kernel_rfl))
 f224:=Tryz.func142.trans (congrArg some (by kernel_rfl))
 f225:=Tryz.func141.trans (congrArg some (by kernel_rfl))
 f260:=Tryz.func162.trans (congrArg some (by kernel_rfl))
 f266:=Tryz.func166.trans (congrArg some (by kernel_rfl))
 f267:=Tryz.func143.trans (congrArg some (by kernel_rfl))
 f268:=Tryz.func88.trans (congrArg some (by kernel_rfl))
 f314:=Tryz.func167.trans (congrArg some (by kernel_rfl))
 t0:=Tryz.underlying0
 a0:=Tryz.isAgg0
 z0:=Tryz.sizeOf0
 v0:=Tryz.zeroValue0
 t3:=Tryz.underlying3
 a3:=Tryz.isAgg3
 z3:=Tryz.sizeOf3
 v3:=Tryz.zeroValue3
 t4:=Tryz.underlying4
 a4:=Tryz.isAgg4
 z4:=Tryz.sizeOf4
 v4:=Tryz.zeroValue4
 t5:=Tryz.underlying5
 a5:=Tryz.isAgg5
 z5:=Tryz.sizeOf5
 v5:=Tryz.zeroValue5
 t9:=Tryz.underlying9
 a9:=Tryz.isAgg9
 z9:=Tryz.sizeOf9
 v9:=Tryz.zeroValue9
 t21:=Tryz.underlying21
 a21:=Tryz.isAgg21
 z21:=Tryz.sizeOf21
 v21:=Tryz.zeroValue21
 t31:=Tryz.underlying49
 a31:=Tryz.isAgg49
 z31:=Tryz.sizeOf49
 v31:=Tryz.zeroValue49
 t46:=Tryz.underlying114
 a46:=Tryz.isAgg114
 z46:=Tryz.sizeOf114
 v46:=Tryz.zeroValue114
 t51:=Tryz.underlying142
 a51:=Tryz.isAgg142
 z51:=Tryz.sizeOf142
 v51:=Tryz.zeroValue142
 t105:=Tryz.underlying125
 a105:=Tryz.isAgg125
 z105:=Tryz.sizeOf125
 v105:=Tryz.zeroValue125
 t119:=Tryz.underlying154
 a119:=Tryz.isAgg154
 z119:=Tryz.sizeOf154
 t138:=Tryz.underlying156
 a138:=Tryz.isAgg156
 z138:=Tryz.sizeOf156
 v138:=Tryz.zeroValue156
 t139:=Tryz.underlying157
 a139:=Tryz.isAgg157
 z139:=Tryz.sizeOf157
 v139:=Tryz.zeroValue157
 t146:=Tryz.underlying143
 a146:=Tryz.isAgg143
 z146:=Tryz.sizeOf143
 v146:=Tryz.zeroValue143
 g1:=by kernel_rfl
 g3:=by kernel_rfl
 g4:=by kernel_rfl
 i0:=by kernel_rfl
 i3:=by kernel_rfl
 i4:=by kernel_rfl
 i5:=by kernel_rfl
 i9:=by kernel_rfl
 i21:=by kernel_rfl
 i31:=by kernel_rfl
 i46:=by kernel_rfl
 i51:=by kernel_rfl
 i105:=by kernel_rfl
 i138:=by kernel_rfl
 i139:=by kernel_rfl
 i146:=by kernel_rfl
 m1:=by kernel_rfl
 s1_3:=λw h=>Go.Proofs.cell_of_shapedOpen_int (zero:=#[.int .i64 0]) (t:=3) h (of_decide_eq_true (by kernel_rfl)) (by kernel_rfl) rfl (by kernel_rfl) (by kernel_rfl) Tryz.underlying3
 m3:=by kernel_rfl
 m4:=by kernel_rfl }
end Go.Proofs
namespace Go.Proofs.YteoaojbmnibpcaaGreatDoor
open Go Go.RowKit Go.Sort Go.Proofs.YteoaojbmnibpcaaGreatDoor.Abs
set_option linter.unusedSimpArgs false
set_option linter.unusedVariables false
def KH:Nat:=0
def jeT(w:World):Prop:=∃m t,w.heap[KH]? = some (.cells #[.int .i64 m] t)
theorem jhI{w w':World}(h:w'.heap[KH]? = w.heap[KH]?)(hw:jeT w):jeT w':=by
 obtain⟨m,t,e⟩:=hw;exact⟨m,t,by rw[h,e]⟩
theorem jp0{w:World}(hw:jeT w):KH<w.heap.size:=by
 obtain⟨m,t,e⟩:=hw;rcases Nat.lt_or_ge KH w.heap.size with h|h
 .exact h
 .rw [Array.getElem?_eq_none h]at e;cases e
theorem jlS{w:World}(hw:jeT w){off:Nat}{v:Value}(h:w.cell? ⟨KH,off,none⟩=some v):∃z,v = .int .i64 z:=by
 obtain⟨m,t,e⟩:=hw;cases off with
 |zero=>
  have:w.cell? ⟨KH,0,none⟩=some (.int .i64 m):=by simp[World.cell?,e]
  rw[this]at h;exact⟨m,(Option.some.inj h).symm⟩
 |succ k=>
  have:w.cell? ⟨KH,k+1,none⟩=none:=by simp[World.cell?,e]
  rw[this]at h;cases h
theorem ji8{w:World}(h:w.ShapedOpen Tryz.prog):jeT w:=by
 obtain⟨m,hm⟩:=Tryz.laysSp.s1_3 w h;have hg:Tryz.laysSp_ren.g 1=KH:=by kernel_rfl
 rw[hg]at hm;obtain⟨cs,hh,hs,_⟩:=h.1 KH #[.int .i64 0] 3 (of_decide_eq_true (by kernel_rfl)) (by kernel_rfl);have e0:cs[0]? = some (.int .i64 m):=by simpa[World.cell?,hh]using hm
 obtain⟨l⟩:=cs;have hs:l.length=1:=hs
 match l,hs with
 | [x],_=>
  have:x = .int .i64 m:=by simpa using e0
  subst this;exact⟨m,_,hh⟩
def Xt:Ctx:=⟨jeT,λb=>b=KH,λ_ _ h hw=>jhI (h KH rfl) hw⟩
theorem jlJ:Tryz.laysSp_ren.f 146=21:=by kernel_rfl
theorem jfN:Enters Tryz.prog 21:=
 Zw Tryz.func21 (jhY.names _ _ Tryz.func21) (qI rfl)
theorem jn6(args:Xd)(out:Out)(h:jfM args=some out):qd Xt Tryz.prog 21 args out:=by
 unfold jfM at h;split at h;rotate_left
 .cases h
 rename_i s sep;split at h;rotate_left
 .cases h
 rename_i hn;cases h;refine⟨jfN,λw O vs hj _ hOl hrel=>?_⟩;simp only[ji,rel]at hrel;obtain⟨v,r,rfl,rfl,v',r',rfl,rfl,rfl⟩:=hrel;obtain⟨m,t,e⟩:=hj;have hm:w.cell? ⟨Tryz.laysSp_ren.g 1,0,none⟩=some (.int .i64 m):=by
  show w.cell? ⟨KH,0,none⟩=_;simp[World.cell?,e]
 have:=Any.strings_Split { Tryz.laysSp with } Tryz.laysSp.i9 s sep m w hn.2 hm hn.1;rw[jlJ]at this;refine this.mono ?_;rintro e w' ⟨rfl,rfl⟩;exact⟨_,rfl,(Abs.Below.refl _ _).alloc (Nat.le_refl _) _,jlK s sep hn.1 hn.2 (λho=>Nat.lt_irrefl _ (hOl _ ho)) _⟩
theorem jgF:Tryz.laysJn_ren.f 156=51:=by kernel_rfl
theorem jgD:Enters Tryz.prog 51:=
 Zw Tryz.func51 (jhY.names _ _ Tryz.func51) (qI rfl)
theorem jb1:Go.Proofs.Builder.Extra Tryz.prog Tryz.laysJn_ren where
 sizeBuilder:=by kernel_rfl
 liesBuilder:=by kernel_rfl
 t5:=Tryz.laysSp.t5
 a5:=Tryz.laysSp.a5
 z5:=Tryz.laysSp.z5
 v5:=Tryz.laysSp.v5
 infoByte:=by kernel_rfl
 cellsByte:=by kernel_rfl
 sizeByte:=by kernel_rfl
 neB5:=by decide
theorem jpc(args:Xd)(out:Out)(h:jjV args=some out):qd Xt Tryz.prog 51 args out:=by
 unfold jjV at h;split at h;rotate_left
 .cases h
 rename_i k rows sep;split at h;rotate_left
 .cases h
 rename_i hk;subst hk;obtain⟨xs,hx,h⟩:=Option.bind_eq_some_iff.1 h;split at h;rotate_left
 .cases h
 rename_i hn;cases h;refine⟨jgD,λw O vs hj _ _ hrel=>?_⟩;simp only[ji,rel]at hrel;obtain⟨v,r,rfl,⟨a,cap,rfl,hc1,hc2,hor⟩,v',r',rfl,rfl,rfl⟩:=hrel;rcases hor with rfl|⟨b,off,rfl,hb,hO,hr⟩
 .cases hx;have:=Any.strings_Join_none Tryz.laysJn jb1 a cap sep w;rw[jgF]at this;refine this.mono ?_;rintro e w' ⟨rfl,rfl⟩;exact⟨_,rfl,Below.refl _ _,by simp only[rel];rfl⟩
 .have hl:=jhD hx;have:=Any.strings_Join Tryz.laysJn jb1 b off cap xs sep w (jel hr hx) hb hn.1 (by omega) hn.2;rw[jgF,hl]at this;refine this.mono ?_;rintro e w' ⟨rfl,hB⟩;exact⟨_,rfl,⟨hB.os,hB.tape,⟨hB.output,trivial⟩,hB.size,hB.block⟩,by simp only[rel]⟩
theorem jq6{X:Ctx}(f:FuncId)(x:ExtV)(args:Xj)(objs:List Abs.Obj)(sgs:Sig)(sg:SigA)(qs:List (FuncId×Xd))(outs:List Out)(out:Out)(h1:K.extv f=some x)(h2:K.sig f=some sgs)(h3:qP objs.length sgs=some sg)(hq:x.ask args objs=some qs)(hok:jfX X K.P qs outs)(h4:x.ans args objs outs=some out):SOk X K.P f args objs sg out:=by
 have h1:(none:Option ExtV)=some x:=h1;cases h1
theorem juw{f:FuncId}{args:Xd}{out:Out}(hs:K.pureF f=true)(h:G f args=some out):qd Xt Tryz.prog f args out:=by
 refine jsv jhY (λf x args out h h2=>?_) jq6 f args out hs h;have h:KP none f je0=some x:=h;unfold je0 at h;simp only[KP]at h;cases hb:Nat.beq f 51 with
 |true=>
  rw[hb]at h;have hf:=Nat.eq_of_beq_eq_true hb;subst hf;cases h;exact jpc args out h2
 |false=>
  rw[hb]at h;cases hb:Nat.beq f 21 with
  |true=>
   rw[hb]at h;have hf:=Nat.eq_of_beq_eq_true hb;subst hf;cases h;exact jn6 args out h2
  |false=>rw[hb]at h;cases h
open Go Go.ChangeShapes Go.WideShapes Go.ChangeAt Go.RowKit Go.Proofs.YteoaojbmnibpcaaGreatDoor.Abs
theorem Tryz.ownK:ownKnob Tryz.prog.godebug=none:=by kernel_rfl
theorem Tryz.laidO:laidOutB Tryz.prog=true:=by kernel_rfl
set_option linter.unusedSectionVars false
theorem jn1:laidOutB Tryz.pinned.checked.prog=true:=by kernel_rfl
theorem jlF:mapsRowed Tryz.pinned.checked.prog=true:=by kernel_rfl
theorem jpU:true=Tryz.pinned.checked.prog.looks []:=by kernel_rfl
mutual
def nu:A->Bool
 |.val (.int .i64 _)=>false
 |.val _=>true
 |.sl _ xs=>nuR xs
 |.agg cs=>nuL cs
 |_=>false
def nuR:Xc->Bool
 | []=>true
 |x::xs=>(!x.isEmpty && nuL x) && nuR xs
def nuL:Xd->Bool
 | []=>true
 |c::cs=>nu c && nuL cs
end
theorem jrM{w:World}{O:Nat->Prop}{c:A}{z:Int}(h:nu c=true)(hr:rel w O c (.int .i64 z)):False:=by
 cases c with
 |top=>simp[nu]at h
 |val v=>simp only[rel]at hr;rw[<-hr]at h;simp[nu]at h
 |sl k xs=>simp only[rel]at hr;obtain⟨a,cap,h1,_⟩:=hr;cases h1
 |agg cs=>simp only[rel]at hr;obtain⟨vs,h1,_⟩:=hr;cases h1
 |elt cs off=>simp[nu]at h
 |fn f cs=>simp[nu]at h
 |tup cs=>simp[nu]at h
 |mp xs=>simp[nu]at h
section
variable{w:World}(hJ:jeT w)
include hJ
mutual
theorem jiQ:∀(a:A)(v:Value),nu a=true->rel w (λ_=>False) a v->rel w (λb=>b=KH) a v
 |.top,_,h,_=>by simp[nu]at h
 |.val x,v,_,hr=>by simpa[rel]using hr
 |.sl k xs,v,h,hr=>by
  simp only[rel]at hr⊢;obtain⟨a,cap,h1,h2,h3,h4⟩:=hr;refine⟨a,cap,h1,h2,h3,?_⟩;rcases h4 with h4|⟨b,off,h5,h6,h7,h8⟩
  .exact Or.inl h4
  .have hn:nuR xs=true:=by simpa only[nu]using h
   match xs,hn,h8 with
   | [],_,_=>exact Or.inl rfl
   |x::xs,hn,h8=>
    refine Or.inr ⟨b,off,h5,h6,λhb=>?_,jcG k b off (x::xs) hn h8⟩;subst hb;simp only[nuR,Bool.and_eq_true]at hn;simp only[jJ]at h8
    match x,hn.1,h8.2.1 with
    | [],hx,_=>simp at hx
    |c::cs,hx,h9=>
     simp only[nuL,Bool.and_eq_true]at hx;simp only[kg]at h9;obtain⟨⟨v',e1,_,e2⟩,_⟩:=h9;obtain⟨z,rfl⟩:=jlS hJ e1;exact jrM hx.2.1 e2
 |.agg cs,v,h,hr=>by
  simp only[rel]at hr⊢;obtain⟨vs,h1,h2⟩:=hr;exact⟨vs,h1,jkk cs vs (by simpa only[nu]using h) h2⟩
 |.elt cs off,_,h,_=>by simp[nu]at h
 |.fn f caps,_,h,_=>by simp[nu]at h
 |.tup cs,_,h,_=>by simp[nu]at h
 |.mp xs,_,h,_=>by simp[nu]at h
theorem jkk:∀(cs:Xd)(vs:Xh),nuL cs=true->ji w (λ_=>False) cs vs->ji w (λb=>b=KH) cs vs
 | [],vs,_,hr=>by simpa[ji]using hr
 |c::cs,vs,h,hr=>by
  simp only[nuL,Bool.and_eq_true]at h;simp only[ji]at hr⊢;obtain⟨v,r,h1,h2,h3⟩:=hr;exact⟨v,r,h1,jiQ c v h.1 h2,jkk cs r h.2 h3⟩
theorem jav(b off:Nat):∀(cs:Xd),nuL cs=true->kg w (λ_=>False) b off cs->kg w (λb=>b=KH) b off cs
 | [],_,_=>by simp[kg]
 |c::cs,h,hr=>by
  simp only[nuL,Bool.and_eq_true]at h;simp only[kg]at hr⊢;obtain⟨⟨v,h1,h0,h2⟩,h3⟩:=hr;exact⟨⟨v,h1,h0,jiQ c v h.1 h2⟩,jav b (off+1) cs h.2 h3⟩
theorem jcG(k b off:Nat):∀(xs:Xc),nuR xs=true->jJ w (λ_=>False) k b off xs->jJ w (λb=>b=KH) k b off xs
 | [],_,_=>by simp[jJ]
 |x::xs,h,hr=>by
  simp only[nuR,Bool.and_eq_true]at h;simp only[jJ]at hr⊢;obtain⟨h1,h2,h3⟩:=hr;exact⟨h1,jav b off x h.1.2 h2,jcG k b (off+k) xs h.2 h3⟩
end
end
theorem jj7{α:Type}{f:α->Xd}(hf:∀x,(f x).isEmpty=false/\nuL (f x)=true):∀l:List α,nuR (l.map f)=true
 | []=>rfl
 |x::l=>by simp only[List.map_cons,nuR,(hf x).1,(hf x).2,jj7 hf l];rfl
abbrev lst:List (String×DataW Unit):=Rows.fnClauseTextRow.laid
theorem jsc{w:World}{p:Prop}(_:p)(h:w.ShapedOpen Tryz.prog):jeT w:=ji8 h
def jqo:Nat->DataW Unit->Xh
 |n+1,.agg l=>l.flatMap (jqo n)
 |_,.lit (.int k z)=>[.int k z]
 |_,_=>[]
def jti(g:Nat)(d:DataW Unit)(h:Array Obj):Array Obj:=h.modify g λ
 |.cells _ t frozen=>.cells (jqo 4 d).toArray t frozen
 |o=>o
noncomputable def jqG(os:Os):World:=
 { World.holding Tryz.prog os ⟨#[],#[],[]⟩with heap:=jti 1 Rows.laid_unicode_utf8_first (jti 2 Rows.laid_unicode_utf8_acceptRanges (World.holding Tryz.prog os ⟨#[],#[],[]⟩).heap) }
set_option maxRecDepth 100000 in
theorem jkZ(os:Os)(args:Array Value):laidMetH Tryz.prog lst ((jqG os).forCall (λ_ _=>0) ⟨#[],args,[]⟩).memory:=
 laidMetH_of_parts (laidMet_of_run' 8 (by kernel_rfl) (by kernel_rfl)) (by kernel_rfl)
theorem jgr{H:Type}{enc:TypeId×Value->H}{a:Assume}{C:Checked}{os:Os}{f:FuncId}{fn:Func}{s:ChangeSpec}{conds:List PathCond}{apart fresh handsOn again:Bool}{X:World->Array Value->Prop}
  (hX:∀(w w':World)(args:Array Value),w.heap=w'.heap->X w args->X w' args)
  (own:ownKnob C.prog.godebug=none) (started:os.Started) (noInit:C.prog.inits.idxOf? f=none) (hfn:C.prog.funcs[f]? = some fn)
  (witness:∃(w:World)(tape:Tape)(i:Input),w.os=os/\(w.forCall tape i).Shaped C.prog/\i.vars=[]/\Input.okWide C.prog (w.forCall tape i) .any w.heap.size f i/\
   ((s.pre enc C.prog fn conds apart (w.forCall tape i).memory i.args/\X (w.forCall tape i).memory i.args)/\sizedMet enc C.prog fn (OpenSpec.ofChange s) apart (w.forCall tape i).memory i.args)/\a.holds C.prog (lone (Frame.enter C.prog f i.args .normal) [] (w.forCall tape i)))
  (contract:∀(W:World)(base:Nat)(args:Array Value)(ds gs:List (DataW H))(before:List MemPlace),
   (∀(j:Nat) t v,fn.params[j]? = some t->args[j]? = some v->Value.okWide C.prog W .any base t v)->
   DataW.Whole enc C.prog fn.params.toList s.vars apart W args.toList ds gs before->
   conds.all (PathCond.test C.prog ⟨fn.params.toList,ds,s.plain.varTypes C.prog,gs⟩)=true->
   (DataW.weightsEach C.prog (fn.params.toList++s.plain.varTypes C.prog) (ds++gs)).all (· <=reachBytes)=true->X W args->W.ShapedOpen C.prog->
   a.holds C.prog (lone (Frame.enter C.prog f args .normal) [] W)->
   Calls C.prog f args W λe W'=>∃v,e = .returned v/\s.post enc C.prog fn apart fresh handsOn again W args v W') :
  ReturnsInHanded a C os f .any (λw args=>(s.pre enc C.prog fn conds apart w args/\X w args)/\sizedMet enc C.prog fn (OpenSpec.ofChange s) apart w args) (s.post enc C.prog fn apart fresh handsOn again):=
 returnsInHanded_of_calls own started noInit witness λw tape i _ hsh _ hok hpre hh=>by
  obtain⟨_,_,_,fn',hfn',_,_,_,_,hval⟩:=hok;obtain rfl:fn'=fn:=Option.some.inj (hfn'.symm.trans hfn);obtain⟨⟨⟨ds,gs,before,hw,hc⟩,hx⟩,hz⟩:=hpre;refine(contract (w.forCall tape i) w.heap.size i.args ds gs before hval (DataW.Whole.of_heap (by rfl) hw) hc (hz.weights hw) (hX _ _ _ (by rfl) hx) hsh hh).mono λe W' ⟨v,he,hp⟩=>?_;subst he;exact ChangeSpec.post_blind hp
theorem jt4{n:Int}(h:(Lit.int .u8 n).wf=true):0<=n/\n<=255:=by
 have h1:IntKind.u8.min=0:=rfl;have h2:IntKind.u8.max=255:=rfl;simp[Lit.wf,h1,h2]at h;exact h
theorem jpJ:Rdr Tryz.prog 5 cy (λn=>0<=n/\n<=255):=by
 intro H enc w base spare held fuel cs x h;obtain⟨n,rfl,_,hw⟩:=DataW.trod_int Tryz.underlying5 h;exact⟨n,jt4 hw,by simp[ji,rel],by simp[jh,Value.oneCell']⟩
theorem jnT:Rdr Tryz.prog 22 (λl:Xi=>[kP l]) (λl=>(∀n∈l,0<=n/\n<=255)/\l.length<=9223372036854775807):=
 Rdr.slice Tryz.underlying22 (by kernel_rfl) (by decide) (λ_=>rfl) jpJ
theorem jrL(code:Xi):nu (kP code)=true:=by
 simp only[nu];exact jj7 (λx=>⟨rfl,rfl⟩) code
end Go.Proofs.YteoaojbmnibpcaaGreatDoor
