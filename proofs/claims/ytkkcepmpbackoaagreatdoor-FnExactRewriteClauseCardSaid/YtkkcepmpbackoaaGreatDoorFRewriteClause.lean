/- For every input the law FnExactRewriteClause of the program returns true, and its arguments read behind the call as before. Conditions: the three tables of the library are laid as the program's text lays them. -/
import Derived.Test.YtkkcepmpbackoaaGreatDoorPe
import Derived.Test.YtkkcepmpbackoaaGreatDoorPz
namespace Go.Proofs.YtkkcepmpbackoaaGreatDoor
open Go Go.ChangeShapes Go.WideShapes Go.ChangeAt Go.RowKit Go.Proofs.YtkkcepmpbackoaaGreatDoor.Abs
set_option linter.unusedSimpArgs false
set_option linter.unusedVariables false
theorem jye(c:kg):nu (cm c)=true:=by
 simp only[nu,nuL,jtO c];rfl
theorem jGo:Rdr Tryz.prog 35 (λts:Xg=>[jS ts]) (λts=>(∀t∈ts,KZ t)/\ts.length<=9223372036854775807):=
 Rdr.slice Tryz.underlying35 (by kernel_rfl) (by decide) (λt=>by rw[kR];rfl) jt5
theorem jG0(ts:Xg):nu (jS ts)=true:=by
 simp only[nu];exact jlF ts
set_option maxRecDepth 100000 in
theorem juG(os:Os)(started:os.Started)(H:Type)(enc:TypeId×Value->H) :
  ReturnsInHanded {} Tryz.checked os 4 .any (λw args=>(Rows.fnExactRewriteClauseSpec.pre enc Tryz.prog Tryz.f4 Rows.fnExactRewriteClauseRow.domain false w args/\laidMetH Tryz.prog Rows.fnExactRewriteClauseRow.laid w)/\sizedMet enc Tryz.prog Tryz.f4 (OpenSpec.ofChange Rows.fnExactRewriteClauseSpec) false w args) (Rows.fnExactRewriteClauseSpec.post enc Tryz.prog Tryz.f4 false true false false):=by
 refine returnsInHanded_of_change_and (C:=Tryz.checked) (X:=λw _=>laidMetH Tryz.prog Rows.fnExactRewriteClauseRow.laid w) (λ_ _ _ hh h=>h.of_heap hh) Tryz.ownK started (by kernel_rfl) Tryz.func4
  (ChangeSpec.witness_at (enc:=enc) (C:=Tryz.checked) (os:=os) (X:=λw _=>laidMetH Tryz.prog Rows.fnExactRewriteClauseRow.laid w) false (jvi os) #[.agg #[.slice none 0 0],.slice none 0 0] 8 rfl (by kernel_rfl) (by kernel_rfl) (by kernel_rfl) (by kernel_rfl) (by kernel_rfl) (joa os _)) ?_
 intro W base args ds gs before hval0 hW _ _ hL0 _;have hJ:jfj W:=jwT hL0;have hval:∀(j:Nat) t v,Tryz.f4.params[j]? = some t->args[j]? = some v->Value.okWide Tryz.prog W .any base t v:=hval0;have hW':=hW;obtain⟨p,q,hA0,hV,rfl,_,_⟩:=hW;have hA:DataW.TrodAll enc Tryz.prog W 0 (λ_=>true) true Tryz.f4.params.toList args.toList ds p:=hA0;rw[Tryz.params4]at hA hval;obtain⟨v0,v1,d0,d1,p0,p1,rfl,rfl,rfl,h0,h1⟩:=trodAll_two hA;obtain⟨rfl,rfl⟩:=trodVars_none hV;obtain⟨cs0,rfl,_⟩:=okWide_struct Tryz.underlying24 (hval 0 24 v0 rfl rfl);obtain⟨a1,l1,c1,rfl⟩:=okWide_slice Tryz.underlying35 (hval 1 35 v1 rfl rfl);have h0k:=h0;obtain⟨fuel0,hf0⟩:=h0;have h1k:=h1;obtain⟨fuel1,hf1⟩:=h1;clear hA0 hval0;simp only[List.append_nil]at hW';have hlt0:∀y∈p0,y.block<W.heap.size:=λy hy=>by simpa using hW'.lt y (by simp[hy])
 have hlt1:∀y∈p1,y.block<W.heap.size:=λy hy=>by simpa using hW'.lt y (by simp[hy])
 obtain⟨c,hp0,hr0,_⟩:=joK H enc W 0 (λ_=>true) true fuel0 _ _ hf0;have hr0:=jh7 hJ _ _ (jye c) (Q0 hr0);obtain⟨rs,hp1,hr1,_⟩:=jGo H enc W 0 (λ_=>true) true fuel1 _ _ hf1;have hr1:=jh7 hJ _ _ (jG0 rs) (jlQ hr1 rfl);have hlaw:=jza rfl (jCG c rs hp0 hp1);refine(hlaw.2 W (λb=>b=jbn) [.agg cs0,.slice a1 l1 c1] hJ (λ_ h=>h) (λb h=>by rw[h];exact jus hJ) (by simp only[jp];exact⟨_,_,rfl,hr0,_,_,rfl,hr1,rfl⟩)).mono ?_;rintro e W' ⟨v,rfl,hn0,hv⟩;have hn:=hn0.kit;simp only[rel]at hv;subst hv;exact⟨_,rfl,_,_,_,[],_,[],hW',trodAll_mk1 (shut_bool Tryz.underlying4 true),trodAll_mk2 (Below.trod Tryz.laidO (by kernel_rfl) (of_decide_eq_true (by kernel_rfl)) h0k hn hlt0) (Below.trod Tryz.laidO (by kernel_rfl) (of_decide_eq_true (by kernel_rfl)) h1k hn hlt1),rfl,hn.frame _,λh=>by cases h⟩
theorem jkJ:Tryz.pinned.checked.prog.funcNamed "loop.example/g00892/laws.FnExactRewriteClause" = some 4:=by kernel_rfl
theorem jy5:Tryz.pinned.checked.prog.inPlace 4=Rows.fnExactRewriteClauseRow.inPlace:=by kernel_rfl
theorem jAv:Tryz.pinned.checked.prog.unfollowed 4=true:=by kernel_rfl
theorem jzv:Tryz.pinned.checked.prog.recurses 4=true:=by kernel_rfl
theorem jy6:Tryz.pinned.checked.prog.varsNamed 4=Rows.fnExactRewriteClauseRow.named:=by kernel_rfl
theorem jsz:joinedFacts Tryz.pinned.checked.prog 4 Tryz.f4 Rows.fnExactRewriteClauseSpec Rows.fnExactRewriteClauseRow=true:=by
 unfold joinedFacts;rw[jr6,joW,jy5,jAv,jzv,jy6]
 kernel_rfl
theorem jAO:Rows.fnExactRewriteClauseRow.wfByText (OpenSpec.ofChange Rows.fnExactRewriteClauseSpec)=true:=by kernel_rfl
theorem jy3:false=Rows.fnExactRewriteClauseRow.goesBy Tryz.pinned.checked.prog:=by kernel_rfl
theorem jvD:Tryz.f4.isInstance Tryz.pinned.checked.prog Rows.fnExactRewriteClauseRow.origin Rows.fnExactRewriteClauseRow.targs:=of_decide_eq_true (by kernel_rfl)
theorem jwZ:Tryz.f4.isWrapper Tryz.pinned.checked.prog Rows.fnExactRewriteClauseRow.wrapper Rows.fnExactRewriteClauseRow.mainSum:=by unfold Func.isWrapper;first|(rw[if_pos (by decide +kernel)];kernel_rfl)|(rw[if_neg (by decide +kernel)];exact⟨rfl,rfl⟩)
theorem FnExactRewriteClause_holds:Rows.FnExactRewriteClauseSaid:=
 OpenClaim.holds_of_wide 4 Tryz.f4 rfl rfl rfl rfl rfl rfl rfl ⟨rfl,rfl,rfl,rfl,rfl⟩ rfl rfl rfl rfl rfl jkJ Tryz.func4 jsz jvD jwZ
  (λos started H enc _=>juG os started H enc)
theorem jw8:Tryz.prog.wantsStandIn 24=false:=by kernel_rfl
theorem jxa:Tryz.prog.wantsStandIn 35=false:=by kernel_rfl
theorem FnExactRewriteClause_card:Rows.FnExactRewriteClauseCardSaid:=
 Claim7.holds_tied_plain_at .later [] [.data,.data,.data] true (true, "249bea061ab0da574a720d6191242bb3d8895f619ff5a6ae0b53c96bcc8a93c2") false
  FnExactRewriteClause_holds (λ_ h=>by cases h) jAO (λ_ h=>by cases h) fnExactRewriteClause_row_tie rfl ⟨rfl,rfl⟩ (by kernel_rfl) rfl
  (λf fn hf hfn=>by
   obtain rfl:f=4:=Option.some.inj (jkJ.symm.trans hf) |>.symm;obtain rfl:fn=Tryz.f4:=(Option.some.inj (Tryz.func4.symm.trans hfn)).symm;exact⟨jui,λj t ht=>by
    rw[Tryz.params4]at ht;have ht:=Array.mem_of_getElem? ht;simp only[List.mem_toArray,List.mem_cons,List.not_mem_nil,or_false]at ht;rcases ht with rfl|rfl
    .exact jw8
    .exact jxa⟩)
  jy3
#print axioms FnExactRewriteClause_card
end Go.Proofs.YtkkcepmpbackoaaGreatDoor
