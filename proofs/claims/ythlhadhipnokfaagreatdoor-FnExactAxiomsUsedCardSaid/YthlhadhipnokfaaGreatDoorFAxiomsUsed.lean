/- For every input the law FnExactAxiomsUsed of the program returns true, and its arguments read behind the call as before. Conditions: the three tables of the library are laid as the program's text lays them. -/
import Derived.Test.YthlhadhipnokfaaGreatDoorPg
import Derived.Test.YthlhadhipnokfaaGreatDoorPz
namespace Go.Proofs.YthlhadhipnokfaaGreatDoor
open Go Go.ChangeShapes Go.WideShapes Go.ChangeAt Go.RowKit Go.Proofs.YthlhadhipnokfaaGreatDoor.Abs
set_option linter.unusedSimpArgs false
set_option linter.unusedVariables false
set_option maxRecDepth 100000 in
theorem Qn(os:Os)(started:os.Started)(H:Type)(enc:TypeId×Value->H) :
  ReturnsInHanded {} Tryz.checked os 4 .any (λw args=>(Rows.fnExactAxiomsUsedSpec.pre enc Tryz.prog Tryz.f4 Rows.fnExactAxiomsUsedRow.domain false w args/\laidMetH Tryz.prog Rows.fnExactAxiomsUsedRow.laid w)/\sizedMet enc Tryz.prog Tryz.f4 (OpenSpec.ofChange Rows.fnExactAxiomsUsedSpec) false w args) (Rows.fnExactAxiomsUsedSpec.post enc Tryz.prog Tryz.f4 false true false false):=by
 refine returnsInHanded_of_change_and (C:=Tryz.checked) (X:=λw _=>laidMetH Tryz.prog Rows.fnExactAxiomsUsedRow.laid w) (λ_ _ _ hh h=>h.of_heap hh) Tryz.ownK started (by kernel_rfl) Tryz.func4
  (ChangeSpec.witness_at (enc:=enc) (C:=Tryz.checked) (os:=os) (X:=λw _=>laidMetH Tryz.prog Rows.fnExactAxiomsUsedRow.laid w) false (jEO os) #[.agg #[.slice none 0 0,.slice none 0 0],.int .i64 0] 8 rfl (by kernel_rfl) (by kernel_rfl) (by kernel_rfl) (by kernel_rfl) (by kernel_rfl) (jwm os _)) ?_
 intro W base args ds gs before hval0 hW _ _ hL0 _;have hJ:jkD W:=jGH hL0;have hval:∀(j:Nat) t v,Tryz.f4.params[j]? = some t->args[j]? = some v->Value.okWide Tryz.prog W .any base t v:=hval0;have hW':=hW;obtain⟨p,q,hA0,hV,rfl,_,_⟩:=hW;have hA:DataW.TrodAll enc Tryz.prog W 0 (λ_=>true) true Tryz.f4.params.toList args.toList ds p:=hA0;rw[Tryz.params4]at hA hval;obtain⟨v0,v1,d0,d1,p0,p1,rfl,rfl,rfl,h0,h1⟩:=trodAll_two hA;obtain⟨rfl,rfl⟩:=trodVars_none hV;obtain⟨cs0,rfl,_⟩:=okWide_struct Tryz.underlying25 (hval 0 25 v0 rfl rfl);obtain⟨n1,rfl⟩:=okWide_int Tryz.underlying3 (hval 1 3 v1 rfl rfl);have h0k:=h0;obtain⟨fuel0,hf0⟩:=h0;have h1k:=h1;obtain⟨fuel1,hf1⟩:=h1;clear hA0 hval0;simp only[zm]at hW';have hlt0:∀y∈p0,y.block<W.heap.size:=λy hy=>by simpa using hW'.lt y (by simp[hy])
 have hlt1:∀y∈p1,y.block<W.heap.size:=λy hy=>by simpa using hW'.lt y (by simp[hy])
 obtain⟨p,hp0,hr0,_⟩:=jA4 H enc W 0 (λ_=>true) true fuel0 _ _ hf0;have hr0:=joF hJ _ _ (jGl p) (jdU hr0);obtain⟨i,hp1,hr1,_⟩:=jtE H enc W 0 (λ_=>true) true fuel1 _ _ hf1;have hr1:=joF hJ _ _ (rfl) (jtF hr1 rfl);have hlaw:=jI8 rfl (jjh p i hp0);refine(hlaw.2 W (λb=>b=jfl) [.agg cs0,.int .i64 n1] hJ (λ_ h=>h) (λb h=>by rw[h];exact jD4 hJ) (by simp only[jz];exact⟨_,_,rfl,hr0,_,_,rfl,hr1,rfl⟩)).mono ?_;rintro e W' ⟨v,rfl,hn0,hv⟩;have hn:=hn0.kit;simp only[rel]at hv;subst hv;exact⟨_,rfl,_,_,_,[],_,[],hW',trodAll_mk1 (shut_bool Tryz.underlying4 true),trodAll_mk2 (Below.trod Tryz.laidO (by kernel_rfl) (of_decide_eq_true (by kernel_rfl)) h0k hn hlt0) (Below.trod Tryz.laidO (by kernel_rfl) (of_decide_eq_true (by kernel_rfl)) h1k hn hlt1),rfl,hn.frame _,λh=>by cases h⟩
theorem K5:Tryz.pinned.checked.prog.funcNamed "loop.example/g00892/laws.FnExactAxiomsUsed" = some 4:=by kernel_rfl
theorem jbe:Tryz.pinned.checked.prog.inPlace 4=Rows.fnExactAxiomsUsedRow.inPlace:=by kernel_rfl
theorem jbh:Tryz.pinned.checked.prog.unfollowed 4=true:=by kernel_rfl
theorem jbg:Tryz.pinned.checked.prog.recurses 4=true:=by kernel_rfl
theorem jbf:Tryz.pinned.checked.prog.varsNamed 4=Rows.fnExactAxiomsUsedRow.named:=by kernel_rfl
theorem Qm:joinedFacts Tryz.pinned.checked.prog 4 Tryz.f4 Rows.fnExactAxiomsUsedSpec Rows.fnExactAxiomsUsedRow=true:=by
 unfold joinedFacts;rw[jBn,jw2,jbe,jbh,jbg,jbf]
 kernel_rfl
theorem jbi:Rows.fnExactAxiomsUsedRow.wfByText (OpenSpec.ofChange Rows.fnExactAxiomsUsedSpec)=true:=by kernel_rfl
theorem jbd:false=Rows.fnExactAxiomsUsedRow.goesBy Tryz.pinned.checked.prog:=by kernel_rfl
theorem Q2:Tryz.f4.isInstance Tryz.pinned.checked.prog Rows.fnExactAxiomsUsedRow.origin Rows.fnExactAxiomsUsedRow.targs:=of_decide_eq_true (by kernel_rfl)
theorem Q3:Tryz.f4.isWrapper Tryz.pinned.checked.prog Rows.fnExactAxiomsUsedRow.wrapper Rows.fnExactAxiomsUsedRow.mainSum:=by unfold Func.isWrapper;first|(rw[jg (by decide +kernel)];kernel_rfl)|(rw[jh (by decide +kernel)];exact⟨rfl,rfl⟩)
theorem FnExactAxiomsUsed_holds:Rows.FnExactAxiomsUsedSaid:=
 OpenClaim.holds_of_wide 4 Tryz.f4 rfl rfl rfl rfl rfl rfl rfl ⟨rfl,rfl,rfl,rfl,rfl⟩ rfl rfl rfl rfl rfl K5 Tryz.func4 Qm Q2 Q3
  (λos started H enc _=>Qn os started H enc)
theorem ja2:Tryz.prog.wantsStandIn 25=false:=by kernel_rfl
theorem ja3:Tryz.prog.wantsStandIn 3=false:=by kernel_rfl
theorem FnExactAxiomsUsed_card:Rows.FnExactAxiomsUsedCardSaid:=
 Claim7.holds_tied_plain_at .later [] [.data,.data,.data] true (true, "6fff523f9726d3ba204d95280f9959500f0ed95e9b564ae5a3c573e1cf0bdf8c") false
  FnExactAxiomsUsed_holds (λ_ h=>by cases h) jbi (λ_ h=>by cases h) fnExactAxiomsUsed_row_tie rfl ⟨rfl,rfl⟩ (by kernel_rfl) rfl
  (λf fn hf hfn=>by
   obtain rfl:f=4:=jaZ (K5.symm.trans hf) |>.symm;obtain rfl:fn=Tryz.f4:=(jaZ (Tryz.func4.symm.trans hfn)).symm;exact⟨jDU,λj t ht=>by
    rw[Tryz.params4]at ht;have ht:=Array.mem_of_getElem? ht;simp only[List.mem_toArray,jK,List.not_mem_nil,or_false]at ht;rcases ht with rfl|rfl
    .exact ja2
    .exact ja3⟩)
  jbd
#print axioms FnExactAxiomsUsed_card
end Go.Proofs.YthlhadhipnokfaaGreatDoor
