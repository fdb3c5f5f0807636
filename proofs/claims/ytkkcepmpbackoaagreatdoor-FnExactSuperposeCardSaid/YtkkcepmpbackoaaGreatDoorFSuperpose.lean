/- For every input the law FnExactSuperpose of the program returns true, and its arguments read behind the call as before. Conditions: the three tables of the library are laid as the program's text lays them. -/
import Derived.Test.YtkkcepmpbackoaaGreatDoorPf
import Derived.Test.YtkkcepmpbackoaaGreatDoorPz
namespace Go.Proofs.YtkkcepmpbackoaaGreatDoor
open Go Go.ChangeShapes Go.WideShapes Go.ChangeAt Go.RowKit Go.Proofs.YtkkcepmpbackoaaGreatDoor.Abs
set_option linter.unusedSimpArgs false
set_option linter.unusedVariables false
theorem jye(c:kg):nu (cm c)=true:=by
 simp only[nu,nuL,jtO c];rfl
section
variable{H:Type}{enc:TypeId×Value->H}{P:Program}{w:World}{base:Nat}{spare:Nat->Bool}{held:Bool}
theorem jBM{t t1 t2 t3 t4 t5:TypeId}{args:Array Value}{ds:List (DataW H)}{ps:List MemPlace}(h:DataW.TrodAll enc P w base spare held [t,t1,t2,t3,t4,t5] args.toList ds ps) :
  ∃v v1 v2 v3 v4 v5 d d1 d2 d3 d4 d5 p p1 p2 p3 p4 p5,args = #[v,v1,v2,v3,v4,v5]/\ds=[d,d1,d2,d3,d4,d5]/\ps=p++p1++p2++p3++p4++p5/\DataW.Trod enc P w base spare held t v d p/\DataW.Trod enc P w base spare held t1 v1 d1 p1/\DataW.Trod enc P w base spare held t2 v2 d2 p2/\DataW.Trod enc P w base spare held t3 v3 d3 p3/\DataW.Trod enc P w base spare held t4 v4 d4 p4/\DataW.Trod enc P w base spare held t5 v5 d5 p5:=by
 obtain⟨v,vs,d,ds0,p,q,hargs,rfl,rfl,hd,hrest⟩:=trodAll_cons h;obtain⟨v1,vs1,d1,ds1,p1,q1,rfl,rfl,rfl,hd1,hrest1⟩:=trodAll_cons hrest;obtain⟨v2,vs2,d2,ds2,p2,q2,rfl,rfl,rfl,hd2,hrest2⟩:=trodAll_cons hrest1;obtain⟨v3,vs3,d3,ds3,p3,q3,rfl,rfl,rfl,hd3,hrest3⟩:=trodAll_cons hrest2;obtain⟨v4,vs4,d4,ds4,p4,q4,rfl,rfl,rfl,hd4,hrest4⟩:=trodAll_cons hrest3;obtain⟨v5,vs5,d5,ds5,p5,q5,rfl,rfl,rfl,hd5,hrest5⟩:=trodAll_cons hrest4;obtain⟨rfl,rfl,rfl⟩:=trodAll_nil hrest5;exact⟨v,v1,v2,v3,v4,v5,d,d1,d2,d3,d4,d5,p,p1,p2,p3,p4,p5,by cases args;simp_all,rfl,by simp,hd,hd1,hd2,hd3,hd4,hd5⟩
theorem jBL{t t1 t2 t3 t4 t5:TypeId}{v v1 v2 v3 v4 v5:Value}{d d1 d2 d3 d4 d5:DataW H}{p p1 p2 p3 p4 p5:List MemPlace}(h:DataW.Trod enc P w base spare held t v d p)(h1:DataW.Trod enc P w base spare held t1 v1 d1 p1)
  (h2:DataW.Trod enc P w base spare held t2 v2 d2 p2) (h3:DataW.Trod enc P w base spare held t3 v3 d3 p3) (h4:DataW.Trod enc P w base spare held t4 v4 d4 p4) (h5:DataW.Trod enc P w base spare held t5 v5 d5 p5) :
  DataW.TrodAll enc P w base spare held [t,t1,t2,t3,t4,t5] [v,v1,v2,v3,v4,v5] [d,d1,d2,d3,d4,d5] (p++(p1++(p2++(p3++(p4++p5))))):=⟨p,p1++(p2++(p3++(p4++p5))),h,⟨p1,p2++(p3++(p4++p5)),h1,trodAll_mk4 h2 h3 h4 h5,rfl⟩,rfl⟩
end
set_option maxRecDepth 100000 in
theorem jfh(os:Os)(started:os.Started)(H:Type)(enc:TypeId×Value->H) :
  ReturnsInHanded {} Tryz.checked os 5 .any (λw args=>(Rows.fnExactSuperposeSpec.pre enc Tryz.prog Tryz.f5 Rows.fnExactSuperposeRow.domain false w args/\laidMetH Tryz.prog Rows.fnExactSuperposeRow.laid w)/\sizedMet enc Tryz.prog Tryz.f5 (OpenSpec.ofChange Rows.fnExactSuperposeSpec) false w args) (Rows.fnExactSuperposeSpec.post enc Tryz.prog Tryz.f5 false true false false):=by
 refine returnsInHanded_of_change_and (C:=Tryz.checked) (X:=λw _=>laidMetH Tryz.prog Rows.fnExactSuperposeRow.laid w) (λ_ _ _ hh h=>h.of_heap hh) Tryz.ownK started (by kernel_rfl) Tryz.func5
  (ChangeSpec.witness_at (enc:=enc) (C:=Tryz.checked) (os:=os) (X:=λw _=>laidMetH Tryz.prog Rows.fnExactSuperposeRow.laid w) false (jvi os) #[.agg #[.slice none 0 0],.int .i64 0,.int .i64 0,.agg #[.slice none 0 0],.int .i64 0,.slice none 0 0] 8 rfl (by kernel_rfl) (by kernel_rfl) (by kernel_rfl) (by kernel_rfl) (by kernel_rfl) (joa os _)) ?_
 intro W base args ds gs before hval0 hW _ _ hL0 _;have hJ:jfj W:=jwT hL0;have hval:∀(j:Nat) t v,Tryz.f5.params[j]? = some t->args[j]? = some v->Value.okWide Tryz.prog W .any base t v:=hval0;have hW':=hW;obtain⟨p,q,hA0,hV,rfl,_,_⟩:=hW;have hA:DataW.TrodAll enc Tryz.prog W 0 (λ_=>true) true Tryz.f5.params.toList args.toList ds p:=hA0;rw[Tryz.params5]at hA hval;obtain⟨v0,v1,v2,v3,v4,v5,d0,d1,d2,d3,d4,d5,p0,p1,p2,p3,p4,p5,rfl,rfl,rfl,h0,h1,h2,h3,h4,h5⟩:=jBM hA;obtain⟨rfl,rfl⟩:=trodVars_none hV;obtain⟨cs0,rfl,_⟩:=okWide_struct Tryz.underlying24 (hval 0 24 v0 rfl rfl);obtain⟨n1,rfl⟩:=okWide_int Tryz.underlying3 (hval 1 3 v1 rfl rfl);obtain⟨n2,rfl⟩:=okWide_int Tryz.underlying3 (hval 2 3 v2 rfl rfl);obtain⟨cs3,rfl,_⟩:=okWide_struct Tryz.underlying24 (hval 3 24 v3 rfl rfl);obtain⟨n4,rfl⟩:=okWide_int Tryz.underlying3 (hval 4 3 v4 rfl rfl);obtain⟨a5,l5,c5,rfl⟩:=okWide_slice Tryz.underlying43 (hval 5 43 v5 rfl rfl);have h0k:=h0;obtain⟨fuel0,hf0⟩:=h0;have h1k:=h1;obtain⟨fuel1,hf1⟩:=h1;have h2k:=h2;obtain⟨fuel2,hf2⟩:=h2;have h3k:=h3;obtain⟨fuel3,hf3⟩:=h3;have h4k:=h4;obtain⟨fuel4,hf4⟩:=h4;have h5k:=h5;obtain⟨fuel5,hf5⟩:=h5;clear hA0 hval0;simp only[List.append_nil]at hW';have hlt0:∀y∈p0,y.block<W.heap.size:=λy hy=>by simpa using hW'.lt y (by simp[hy])
 have hlt1:∀y∈p1,y.block<W.heap.size:=λy hy=>by simpa using hW'.lt y (by simp[hy])
 have hlt2:∀y∈p2,y.block<W.heap.size:=λy hy=>by simpa using hW'.lt y (by simp[hy])
 have hlt3:∀y∈p3,y.block<W.heap.size:=λy hy=>by simpa using hW'.lt y (by simp[hy])
 have hlt4:∀y∈p4,y.block<W.heap.size:=λy hy=>by simpa using hW'.lt y (by simp[hy])
 have hlt5:∀y∈p5,y.block<W.heap.size:=λy hy=>by simpa using hW'.lt y (by simp[hy])
 obtain⟨c,hp0,hr0,_⟩:=joK H enc W 0 (λ_=>true) true fuel0 _ _ hf0;have hr0:=jh7 hJ _ _ (jye c) (Q0 hr0);obtain⟨i,hp1,hr1,_⟩:=jwG H enc W 0 (λ_=>true) true fuel1 _ _ hf1;have hr1:=jh7 hJ _ _ (rfl) (jlQ hr1 rfl);obtain⟨side,hp2,hr2,_⟩:=jwG H enc W 0 (λ_=>true) true fuel2 _ _ hf2;have hr2:=jh7 hJ _ _ (rfl) (jlQ hr2 rfl);obtain⟨d,hp3,hr3,_⟩:=joK H enc W 0 (λ_=>true) true fuel3 _ _ hf3;have hr3:=jh7 hJ _ _ (jye d) (Q0 hr3);obtain⟨k,hp4,hr4,_⟩:=jwG H enc W 0 (λ_=>true) true fuel4 _ _ hf4;have hr4:=jh7 hJ _ _ (rfl) (jlQ hr4 rfl);obtain⟨q6,hp5,hr5,_⟩:=jDL H enc W 0 (λ_=>true) true fuel5 _ _ hf5;have hr5:=jh7 hJ _ _ (jDI q6) (jlQ hr5 rfl);have hlaw:=jza rfl (jy8 c i side d k q6 hp0 hp3 hp5);refine(hlaw.2 W (λb=>b=jbn) [.agg cs0,.int .i64 n1,.int .i64 n2,.agg cs3,.int .i64 n4,.slice a5 l5 c5] hJ (λ_ h=>h) (λb h=>by rw[h];exact jus hJ) (by simp only[jp];exact⟨_,_,rfl,hr0,_,_,rfl,hr1,_,_,rfl,hr2,_,_,rfl,hr3,_,_,rfl,hr4,_,_,rfl,hr5,rfl⟩)).mono ?_;rintro e W' ⟨v,rfl,hn0,hv⟩;have hn:=hn0.kit;simp only[rel]at hv;subst hv;exact⟨_,rfl,_,_,_,[],_,[],hW',trodAll_mk1 (shut_bool Tryz.underlying4 true),jBL (Below.trod Tryz.laidO (by kernel_rfl) (of_decide_eq_true (by kernel_rfl)) h0k hn hlt0) (Below.trod Tryz.laidO (by kernel_rfl) (of_decide_eq_true (by kernel_rfl)) h1k hn hlt1) (Below.trod Tryz.laidO (by kernel_rfl) (of_decide_eq_true (by kernel_rfl)) h2k hn hlt2) (Below.trod Tryz.laidO (by kernel_rfl) (of_decide_eq_true (by kernel_rfl)) h3k hn hlt3) (Below.trod Tryz.laidO (by kernel_rfl) (of_decide_eq_true (by kernel_rfl)) h4k hn hlt4) (Below.trod Tryz.laidO (by kernel_rfl) (of_decide_eq_true (by kernel_rfl)) h5k hn hlt5),rfl,hn.frame _,λh=>by cases h⟩
theorem jcY:Tryz.pinned.checked.prog.funcNamed "loop.example/g00892/laws.FnExactSuperpose" = some 5:=by kernel_rfl
theorem jol:Tryz.pinned.checked.prog.inPlace 5=Rows.fnExactSuperposeRow.inPlace:=by kernel_rfl
theorem jph:Tryz.pinned.checked.prog.unfollowed 5=true:=by kernel_rfl
theorem jpg:Tryz.pinned.checked.prog.recurses 5=true:=by kernel_rfl
theorem jpd:Tryz.pinned.checked.prog.varsNamed 5=Rows.fnExactSuperposeRow.named:=by kernel_rfl
theorem jfg:joinedFacts Tryz.pinned.checked.prog 5 Tryz.f5 Rows.fnExactSuperposeSpec Rows.fnExactSuperposeRow=true:=by
 unfold joinedFacts;rw[jr6,joW,jol,jph,jpg,jpd]
 kernel_rfl
theorem jpi:Rows.fnExactSuperposeRow.wfByText (OpenSpec.ofChange Rows.fnExactSuperposeSpec)=true:=by kernel_rfl
theorem joj:false=Rows.fnExactSuperposeRow.goesBy Tryz.pinned.checked.prog:=by kernel_rfl
theorem jix:Tryz.f5.isInstance Tryz.pinned.checked.prog Rows.fnExactSuperposeRow.origin Rows.fnExactSuperposeRow.targs:=of_decide_eq_true (by kernel_rfl)
theorem jkI:Tryz.f5.isWrapper Tryz.pinned.checked.prog Rows.fnExactSuperposeRow.wrapper Rows.fnExactSuperposeRow.mainSum:=by unfold Func.isWrapper;first|(rw[if_pos (by decide +kernel)];kernel_rfl)|(rw[if_neg (by decide +kernel)];exact⟨rfl,rfl⟩)
theorem FnExactSuperpose_holds:Rows.FnExactSuperposeSaid:=
 OpenClaim.holds_of_wide 5 Tryz.f5 rfl rfl rfl rfl rfl rfl rfl ⟨rfl,rfl,rfl,rfl,rfl⟩ rfl rfl rfl rfl rfl jcY Tryz.func5 jfg jix jkI
  (λos started H enc _=>jfh os started H enc)
theorem jkK:Tryz.prog.wantsStandIn 24=false:=by kernel_rfl
theorem jkL:Tryz.prog.wantsStandIn 3=false:=by kernel_rfl
theorem jkM:Tryz.prog.wantsStandIn 3=false:=by kernel_rfl
theorem jlc:Tryz.prog.wantsStandIn 24=false:=by kernel_rfl
theorem jm4:Tryz.prog.wantsStandIn 3=false:=by kernel_rfl
theorem jnW:Tryz.prog.wantsStandIn 43=false:=by kernel_rfl
theorem FnExactSuperpose_card:Rows.FnExactSuperposeCardSaid:=
 Claim7.holds_tied_plain_at .later [] [.data,.data,.data] true (true, "249bea061ab0da574a720d6191242bb3d8895f619ff5a6ae0b53c96bcc8a93c2") false
  FnExactSuperpose_holds (λ_ h=>by cases h) jpi (λ_ h=>by cases h) fnExactSuperpose_row_tie rfl ⟨rfl,rfl⟩ (by kernel_rfl) rfl
  (λf fn hf hfn=>by
   obtain rfl:f=5:=Option.some.inj (jcY.symm.trans hf) |>.symm;obtain rfl:fn=Tryz.f5:=(Option.some.inj (Tryz.func5.symm.trans hfn)).symm;exact⟨jui,λj t ht=>by
    rw[Tryz.params5]at ht;have ht:=Array.mem_of_getElem? ht;simp only[List.mem_toArray,List.mem_cons,List.not_mem_nil,or_false]at ht;rcases ht with rfl|rfl|rfl|rfl|rfl|rfl
    .exact jkK
    .exact jkL
    .exact jkM
    .exact jlc
    .exact jm4
    .exact jnW⟩)
  joj
#print axioms FnExactSuperpose_card
end Go.Proofs.YtkkcepmpbackoaaGreatDoor
