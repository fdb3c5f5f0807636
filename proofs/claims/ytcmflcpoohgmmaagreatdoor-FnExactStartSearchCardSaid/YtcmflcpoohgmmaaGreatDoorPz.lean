/- Pz -/
import Derived.Test.YtcmflcpoohgmmaaGreatDoorSn
import Derived.Shelf.Sort.Plain
import Derived.Shelf.Slices.In.SortNone
import Derived.Shelf.Strconv.Itoa3
import Derived.Shelf.SlSortCmp.NoneTotal
import Derived.Test.YtcmflcpoohgmmaaGreatDoorE23
import Derived.Lib.LaidTab
import Derived.Test.YtcmflcpoohgmmaaGreatDoorCards
import Derived.Test.YtcmflcpoohgmmaaGreatDoorTie
import Derived.ProofKit
import Derived.SizedLaws
import Derived.LaidLaws
import Derived.LaidHandle
import Derived.Stop.LaidErr
import Derived.SevenTiedAt
import Derived.JoinedOf
import Derived.Lib.RowBridge
import Derived.Test.YtcmflcpoohgmmaaGreatDoorPb
namespace Go.Proofs
open Go.Shelf
set_option linter.unusedSimpArgs false
set_option linter.unusedVariables false
def Tryz.laysIt_ren:Go.Shelf.Ren:=⟨λ|171=>85|243=>108|246=>120|283=>133|284=>134|285=>135|286=>136|129=>139|317=>138|318=>140|319=>141|320=>142|337=>143|338=>144|n=>n,λ|3=>3|9=>9|2=>2|4=>4|171=>137|0=>0|53=>138|37=>104|5=>5|173=>141|212=>145|51=>146|20=>20|213=>147|46=>148|232=>151|233=>152|n=>n,λ|17=>0|18=>1|19=>2|n=>n⟩
theorem Tryz.laysIt:Go.Proofs.LaysM.n171 Tryz.prog Tryz.laysIt_ren:={
 mixed:=by kernel_rfl
 f129:=Tryz.func139.trans (congrArg some (by kernel_rfl))
 f171:=Tryz.func85.trans (congrArg some (by kernel_rfl))
 f243:=Tryz.func108.trans (congrArg some (by kernel_rfl))
 f246:=Tryz.func120.trans (congrArg some (by kernel_rfl))
 f283:=Tryz.func133.trans (congrArg some (by kernel_rfl))
 f284:=Tryz.func134.trans (congrArg some (by kernel_rfl))
 f285:=Tryz.func135.trans (congrArg some (by kernel_rfl))
 f286:=Tryz.func136.trans (congrArg some (by kernel_rfl))
 f317:=Tryz.func138.trans (congrArg some (by kernel_rfl))
 f318:=Tryz.func140.trans (congrArg some (by kernel_rfl))
 f319:=Tryz.func141.trans (congrArg some (by kernel_rfl))
 f320:=Tryz.func142.trans (congrArg some (by kernel_rfl))
 f337:=Tryz.func143.trans (congrArg some (by kernel_rfl))
 f338:=Tryz.func144.trans (congrArg some (by kernel_rfl))
 t0:=Tryz.underlying0
 a0:=Tryz.isAgg0
 z0:=Tryz.sizeOf0
 v0:=Tryz.zeroValue0
 t2:=Tryz.underlying2
 a2:=Tryz.isAgg2
 z2:=Tryz.sizeOf2
 v2:=Tryz.zeroValue2
 t3:=Tryz.underlying3
 a3:=Tryz.isAgg3
 z3:=Tryz.sizeOf3
 v3:=Tryz.zeroValue3
 t4:=Tryz.underlying4
 a4:=Tryz.isAgg4
 z4:=Tryz.sizeOf4
 v4:=Tryz.zeroValue4
 t5:=Tryz.underlying5
 a5:=Tryz.isAgg5
 z5:=Tryz.sizeOf5
 v5:=Tryz.zeroValue5
 t9:=Tryz.underlying9
 a9:=Tryz.isAgg9
 z9:=Tryz.sizeOf9
 v9:=Tryz.zeroValue9
 t20:=Tryz.underlying20
 a20:=Tryz.isAgg20
 z20:=Tryz.sizeOf20
 v20:=Tryz.zeroValue20
 t37:=Tryz.underlying104
 a37:=Tryz.isAgg104
 z37:=Tryz.sizeOf104
 v37:=Tryz.zeroValue104
 t46:=Tryz.underlying148
 a46:=Tryz.isAgg148
 z46:=Tryz.sizeOf148
 v46:=Tryz.zeroValue148
 t51:=Tryz.underlying146
 a51:=Tryz.isAgg146
 z51:=Tryz.sizeOf146
 v51:=Tryz.zeroValue146
 t53:=Tryz.underlying138
 a53:=Tryz.isAgg138
 z53:=Tryz.sizeOf138
 v53:=Tryz.zeroValue138
 t171:=Tryz.underlying137
 a171:=Tryz.isAgg137
 z171:=Tryz.sizeOf137
 v171:=Tryz.zeroValue137
 t173:=Tryz.underlying141
 a173:=Tryz.isAgg141
 z173:=Tryz.sizeOf141
 v173:=Tryz.zeroValue141
 t212:=Tryz.underlying145
 a212:=Tryz.isAgg145
 z212:=Tryz.sizeOf145
 v212:=Tryz.zeroValue145
 t213:=Tryz.underlying147
 a213:=Tryz.isAgg147
 z213:=Tryz.sizeOf147
 t232:=Tryz.underlying151
 a232:=Tryz.isAgg151
 z232:=Tryz.sizeOf151
 v232:=Tryz.zeroValue151
 t233:=Tryz.underlying152
 a233:=Tryz.isAgg152
 z233:=Tryz.sizeOf152
 v233:=Tryz.zeroValue152
 g17:=by kernel_rfl
 g18:=by kernel_rfl
 g19:=by kernel_rfl
 i0:=by kernel_rfl
 i2:=by kernel_rfl
 i3:=by kernel_rfl
 i4:=by kernel_rfl
 i5:=by kernel_rfl
 i9:=by kernel_rfl
 i20:=by kernel_rfl
 i37:=by kernel_rfl
 i46:=by kernel_rfl
 i51:=by kernel_rfl
 i53:=by kernel_rfl
 i171:=by kernel_rfl
 i173:=by kernel_rfl
 i212:=by kernel_rfl
 i232:=by kernel_rfl
 i233:=by kernel_rfl
 m17:=by kernel_rfl
 m18:=by kernel_rfl
 m19:=by kernel_rfl }
end Go.Proofs
namespace Go.Proofs.YtcmflcpoohgmmaaGreatDoor
open Go Go.RowKit Go.Sort Go.Proofs.YtcmflcpoohgmmaaGreatDoor.Abs
set_option linter.unusedSimpArgs false
set_option linter.unusedVariables false
theorem jrZ{X:Ctx}(f:FuncId)(x:ExtV)(args:Xj)(objs:List Abs.Obj)(sgs:Sig)(sg:SigA)(qs:List (FuncId×Xd))(outs:List Out)(out:Out)(h1:K.extv f=some x)(h2:K.sig f=some sgs)(h3:qh objs.length sgs=some sg)(hq:x.ask args objs=some qs)(hok:jfS X K.P qs outs)(h4:x.ans args objs outs=some out):SOk X K.P f args objs sg out:=by
 have one:∀{s s':SigA}{n:Nat},qh n [s]=some s'->s'=s:=by
  intro s s' n h;simp only[qh]at h;split at h
  .exact (Option.some.inj h).symm
  .cases h
 have h1:Jp none f jiq=some x:=h1;unfold jiq at h1;simp only[Jp]at h1;cases h1
def QQ:Nat:=0
theorem QR:Tryz.prog.globalNamed "internal/strconv.uint64pow10" = some QQ:=by kernel_rfl
def jdm(w:World):Prop:=Lib.TabIs Tryz.prog w "internal/strconv.uint64pow10" .u64 Lib.pow10Tab
theorem jhO{w w':World}(h:w'.heap[QQ]? = w.heap[QQ]?)(hw:jdm w):jdm w':=by
 unfold jdm Lib.TabIs World.var? at *;rw[QR]at *;simp only[Option.bind_some]at *;rw[h];exact hw
theorem jqG{w:World}(hw:jdm w):QQ<w.heap.size:=by
 unfold jdm Lib.TabIs World.var? at hw;rw[QR]at hw;simp only[Option.bind_some]at hw;rcases Nat.lt_or_ge QQ w.heap.size with h|h
 .exact h
 .rw [Array.getElem?_eq_none h]at hw;simp at hw
theorem jmk{w:World}(hw:jdm w){off:Nat}{v:Value}(h:w.cell? ⟨QQ,off,none⟩=some v):∃z,v = .int .u64 z:=by
 by_cases hi:off<Lib.pow10Tab.length
 .have:=Lib.TabIs.cell hw QR off hi;rw[h]at this;exact⟨_,Option.some.inj this⟩
 .have:=World.var?_cell QR hw off;rw[h]at this;have h2:(Lib.pow10Tab.map λz=>Value.int IntKind.u64 z).toArray[off]? = none:=Array.getElem?_eq_none (by simp;omega);simp[h2]at this
def Xt:Ctx:=⟨jdm,λb=>b=QQ,λ_ _ h hw=>jhO (h QQ rfl) hw⟩
theorem jnK:Tryz.laysIt_ren.f 171=85:=by kernel_rfl
theorem jgH:Enters Tryz.prog 85:=
 Q7 Tryz.func85 (jmO.names _ _ Tryz.func85) (JO rfl)
theorem jpR(args:Xd)(out:Out)(h:jkg args=some out):Jn Xt Tryz.prog 85 args out:=by
 unfold jkg at h;split at h;rotate_left
 .cases h
 rename_i n;split at h;rotate_left
 .cases h
 rename_i hn;cases h;refine⟨jgH,λw O vs hj _ _ hrel=>?_⟩;simp only[jl,rel]at hrel;obtain⟨v,r,rfl,rfl,rfl⟩:=hrel;have:=Any.strconv_Itoa Tryz.laysIt n hn.1 hn.2 w hj;rw[jnK]at this;refine this.mono ?_;rintro e w' ⟨rfl,k,os,rfl⟩;refine⟨_,rfl,?_,?_⟩
 .refine ⟨rfl,rfl,⟨rfl,?_⟩,?_,λb hb=>?_⟩
  .simp [grow,World.drewN]
  .simp [grow,World.drewN]
  .simp only[grow,World.drewN];rw[Array.getElem?_append_left hb]
 .simp only[rel]
theorem jvj{f:FuncId}{args:Xd}{out:Out}(hs:K.pureF f=true)(h:G f args=some out):Jn Xt Tryz.prog f args out:=by
 refine jtl jmO (λf x args out h h2=>?_) jrZ f args out hs h;have h:Jp none f je1=some x:=h;unfold je1 at h;simp only[Jp]at h;cases hb:Nat.beq f 85 with
 |true=>
  rw[hb]at h;have hf:=Nat.eq_of_beq_eq_true hb;subst hf;cases h;exact jpR args out h2
 |false=>rw[hb]at h;cases h
open Go Go.ChangeShapes Go.WideShapes Go.ChangeAt Go.RowKit Go.Proofs.YtcmflcpoohgmmaaGreatDoor.Abs
theorem Tryz.ownK:ownKnob Tryz.prog.godebug=none:=by kernel_rfl
theorem Tryz.laidO:laidOutB Tryz.prog=true:=by kernel_rfl
set_option linter.unusedSectionVars false
theorem joT:laidOutB Tryz.pinned.checked.prog=true:=by kernel_rfl
theorem jme:mapsRowed Tryz.pinned.checked.prog=true:=by kernel_rfl
theorem jqx:false=Tryz.pinned.checked.prog.looks []:=by kernel_rfl
mutual
def nu:A->Bool
 |.val (.int .u64 _)=>false
 |.val _=>true
 |.sl _ xs=>nuR xs
 |.agg cs=>nuL cs
 |_=>false
def nuR:Xc->Bool
 | []=>true
 |x::xs=>(!x.isEmpty && nuL x) && nuR xs
def nuL:Xd->Bool
 | []=>true
 |c::cs=>nu c && nuL cs
end
theorem jsA{w:World}{O:Nat->Prop}{c:A}{z:Int}(h:nu c=true)(hr:rel w O c (.int .u64 z)):False:=by
 cases c with
 |top=>simp[nu]at h
 |val v=>simp only[rel]at hr;rw[<-hr]at h;simp[nu]at h
 |sl k xs=>simp only[rel]at hr;obtain⟨a,cap,h1,_⟩:=hr;cases h1
 |agg cs=>simp only[rel]at hr;obtain⟨vs,h1,_⟩:=hr;cases h1
 |elt cs off=>simp[nu]at h
 |fn f cs=>simp[nu]at h
 |tup cs=>simp[nu]at h
 |mp xs=>simp[nu]at h
section
variable{w:World}(hJ:jdm w)
include hJ
mutual
theorem ji3:∀(a:A)(v:Value),nu a=true->rel w (λ_=>False) a v->rel w (λb=>b=QQ) a v
 |.top,_,h,_=>by simp[nu]at h
 |.val x,v,_,hr=>by simpa[rel]using hr
 |.sl k xs,v,h,hr=>by
  simp only[rel]at hr⊢;obtain⟨a,cap,h1,h2,h3,h4⟩:=hr;refine⟨a,cap,h1,h2,h3,?_⟩;rcases h4 with h4|⟨b,off,h5,h6,h7,h8⟩
  .exact Or.inl h4
  .have hn:nuR xs=true:=by simpa only[nu]using h
   match xs,hn,h8 with
   | [],_,_=>exact Or.inl rfl
   |x::xs,hn,h8=>
    refine Or.inr ⟨b,off,h5,h6,λhb=>?_,jcT k b off (x::xs) hn h8⟩;subst hb;simp only[nuR,Bool.and_eq_true]at hn;simp only[jS]at h8
    match x,hn.1,h8.2.1 with
    | [],hx,_=>simp at hx
    |c::cs,hx,h9=>
     simp only[nuL,Bool.and_eq_true]at hx;simp only[kq]at h9;obtain⟨⟨v',e1,_,e2⟩,_⟩:=h9;obtain⟨z,rfl⟩:=jmk hJ e1;exact jsA hx.2.1 e2
 |.agg cs,v,h,hr=>by
  simp only[rel]at hr⊢;obtain⟨vs,h1,h2⟩:=hr;exact⟨vs,h1,jkH cs vs (by simpa only[nu]using h) h2⟩
 |.elt cs off,_,h,_=>by simp[nu]at h
 |.fn f caps,_,h,_=>by simp[nu]at h
 |.tup cs,_,h,_=>by simp[nu]at h
 |.mp xs,_,h,_=>by simp[nu]at h
theorem jkH:∀(cs:Xd)(vs:Xh),nuL cs=true->jl w (λ_=>False) cs vs->jl w (λb=>b=QQ) cs vs
 | [],vs,_,hr=>by simpa[jl]using hr
 |c::cs,vs,h,hr=>by
  simp only[nuL,Bool.and_eq_true]at h;simp only[jl]at hr⊢;obtain⟨v,r,h1,h2,h3⟩:=hr;exact⟨v,r,h1,ji3 c v h.1 h2,jkH cs r h.2 h3⟩
theorem ja1(b off:Nat):∀(cs:Xd),nuL cs=true->kq w (λ_=>False) b off cs->kq w (λb=>b=QQ) b off cs
 | [],_,_=>by simp[kq]
 |c::cs,h,hr=>by
  simp only[nuL,Bool.and_eq_true]at h;simp only[kq]at hr⊢;obtain⟨⟨v,h1,h0,h2⟩,h3⟩:=hr;exact⟨⟨v,h1,h0,ji3 c v h.1 h2⟩,ja1 b (off+1) cs h.2 h3⟩
theorem jcT(k b off:Nat):∀(xs:Xc),nuR xs=true->jS w (λ_=>False) k b off xs->jS w (λb=>b=QQ) k b off xs
 | [],_,_=>by simp[jS]
 |x::xs,h,hr=>by
  simp only[nuR,Bool.and_eq_true]at h;simp only[jS]at hr⊢;obtain⟨h1,h2,h3⟩:=hr;exact⟨h1,ja1 b off x h.1.2 h2,jcT k b (off+k) xs h.2 h3⟩
end
end
theorem jfq{α:Type}{f:α->Xd}(hf:∀x,(f x).isEmpty=false/\nuL (f x)=true):∀l:List α,nuR (l.map f)=true
 | []=>rfl
 |x::l=>by simp only[List.map_cons,nuR,(hf x).1,(hf x).2,jfq hf l];rfl
mutual
theorem jrC:∀t:T,(jq t).isEmpty=false/\nuL (jq t)=true
 |.mk n us=>by
  rw[kU];refine⟨rfl,?_⟩;have:=jiP us;simp only[nuL,nu,T.args,this];rfl
theorem jiP:∀us:Xg,nuR (us.map jq)=true
 | []=>rfl
 |u::us=>by simp only[List.map_cons,nuR,(jrC u).1,(jrC u).2,jiP us];rfl
end
theorem jp9(c:jP):nuR (c.map jD)=true:=jfq (λl=>⟨rfl,by
 have:=jiP l.2.args;simp only[nuL,nu,this];rfl⟩) c
theorem jsz(l:List jP):nu (cls l)=true:=by
 simp only[nu];exact jfq (λc=>⟨rfl,by simp only[nuL,nu,jp9 c];rfl⟩) l
abbrev lst:List (String×DataW Unit):=Rows.fnExactStartSearchRow.laid
theorem jwI:(Tryz.prog.globals[QQ]?).map (·.type)=some 145:=by kernel_rfl
theorem jwJ:Tryz.prog.underlying 145=some (.array 20 138):=by kernel_rfl
theorem jwH:Tryz.prog.underlying 138=some (.int .u64):=by kernel_rfl
theorem js0{w:World}(h:laidMet Tryz.prog lst w):jdm w:=by
 have h3:laidMet Tryz.prog [("internal/strconv.uint64pow10",Lib.tabData .u64 Lib.pow10Tab)] w:=by
  have e:(Rows.laid_internal_strconv_uint64pow10:DataW Unit)=Lib.tabData .u64 Lib.pow10Tab:=by kernel_rfl
  have:=h.tail.tail;rw[<-e];exact this
 exact Lib.tabIs_of_head QR jwI jwJ jwH (by kernel_rfl) (by kernel_rfl) h3
def intsIn(d:DataW Unit):Array Value:=match d with
 |.agg l=>(l.map λx=>match x with|.lit (.int k z)=>Value.int k z|_=>.int .i64 0).toArray
 |_=>#[]
def jsu(g:Nat)(d:DataW Unit)(h:Array Obj):Array Obj:=h.modify g λ
 |.cells _ t frozen=>.cells (intsIn d) t frozen
 |o=>o
noncomputable def jrA(os:Os):World:=
 { World.holding Tryz.prog os ⟨#[],#[],[]⟩with heap:=jsu 2 Rows.laid_math_bits_deBruijn64tab (jsu 1 Rows.laid_math_bits_deBruijn32tab (jsu 0 Rows.laid_internal_strconv_uint64pow10 (World.holding Tryz.prog os ⟨#[],#[],[]⟩).heap)) }
set_option maxRecDepth 100000 in
theorem jlt(os:Os)(args:Array Value):laidMetH Tryz.prog lst ((jrA os).forCall (λ_ _=>0) ⟨#[],args,[]⟩).memory:=
 laidMetH_of_parts (laidMet_of_run' 8 (by kernel_rfl) (by kernel_rfl)) (by kernel_rfl)
end Go.Proofs.YtcmflcpoohgmmaaGreatDoor
