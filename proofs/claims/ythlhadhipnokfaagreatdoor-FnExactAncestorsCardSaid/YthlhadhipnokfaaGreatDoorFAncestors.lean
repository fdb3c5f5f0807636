/- For every input the law FnExactAncestors of the program returns true, and its arguments read behind the call as before. Conditions: the three tables of the library are laid as the program's text lays them. -/
import Derived.Test.YthlhadhipnokfaaGreatDoorPg
import Derived.Test.YthlhadhipnokfaaGreatDoorPz
namespace Go.Proofs.YthlhadhipnokfaaGreatDoor
open Go Go.ChangeShapes Go.WideShapes Go.ChangeAt Go.RowKit Go.Proofs.YthlhadhipnokfaaGreatDoor.Abs
set_option linter.unusedSimpArgs false
set_option linter.unusedVariables false
set_option maxRecDepth 100000 in
theorem jkE(os:Os)(started:os.Started)(H:Type)(enc:TypeId×Value->H) :
  ReturnsInHanded {} Tryz.checked os 3 .any (λw args=>(Rows.fnExactAncestorsSpec.pre enc Tryz.prog Tryz.f3 Rows.fnExactAncestorsRow.domain false w args/\laidMetH Tryz.prog Rows.fnExactAncestorsRow.laid w)/\sizedMet enc Tryz.prog Tryz.f3 (OpenSpec.ofChange Rows.fnExactAncestorsSpec) false w args) (Rows.fnExactAncestorsSpec.post enc Tryz.prog Tryz.f3 false true false false):=by
 refine returnsInHanded_of_change_and (C:=Tryz.checked) (X:=λw _=>laidMetH Tryz.prog Rows.fnExactAncestorsRow.laid w) (λ_ _ _ hh h=>h.of_heap hh) Tryz.ownK started (by kernel_rfl) Tryz.func3
  (ChangeSpec.witness_at (enc:=enc) (C:=Tryz.checked) (os:=os) (X:=λw _=>laidMetH Tryz.prog Rows.fnExactAncestorsRow.laid w) false (jFv os) #[.agg #[.slice none 0 0,.slice none 0 0],.int .i64 0] 8 rfl (by kernel_rfl) (by kernel_rfl) (by kernel_rfl) (by kernel_rfl) (by kernel_rfl) (jzd os _)) ?_
 intro W base args ds gs before hval0 hW _ _ hL0 _;have hJ:jrt W:=jG2 hL0;have hval:∀(j:Nat) t v,Tryz.f3.params[j]? = some t->args[j]? = some v->Value.okWide Tryz.prog W .any base t v:=hval0;have hW':=hW;obtain⟨p,q,hA0,hV,rfl,_,_⟩:=hW;have hA:DataW.TrodAll enc Tryz.prog W 0 (λ_=>true) true Tryz.f3.params.toList args.toList ds p:=hA0;rw[Tryz.params3]at hA hval;obtain⟨v0,v1,d0,d1,p0,p1,rfl,rfl,rfl,h0,h1⟩:=trodAll_two hA;obtain⟨rfl,rfl⟩:=trodVars_none hV;obtain⟨cs0,rfl,_⟩:=okWide_struct Tryz.underlying25 (hval 0 25 v0 rfl rfl);obtain⟨n1,rfl⟩:=okWide_int Tryz.underlying3 (hval 1 3 v1 rfl rfl);have h0k:=h0;obtain⟨fuel0,hf0⟩:=h0;have h1k:=h1;obtain⟨fuel1,hf1⟩:=h1;clear hA0 hval0;simp only[jf4]at hW';have hlt0:∀y∈p0,y.block<W.heap.size:=λy hy=>by simpa using hW'.lt y (by simp[hy])
 have hlt1:∀y∈p1,y.block<W.heap.size:=λy hy=>by simpa using hW'.lt y (by simp[hy])
 obtain⟨p,hp0,hr0,_⟩:=jCW H enc W 0 (λ_=>true) true fuel0 _ _ hf0;have hr0:=jt2 hJ _ _ (jGL p) (QS hr0);obtain⟨i,hp1,hr1,_⟩:=jxl H enc W 0 (λ_=>true) true fuel1 _ _ hf1;have hr1:=jt2 hJ _ _ (rfl) (jds hr1 rfl);have hlaw:=jIO rfl (jrB p i hp0);refine(hlaw.2 W (λb=>b=jod) [.agg cs0,.int .i64 n1] hJ (λ_ h=>h) (λb h=>by rw[h];exact jEW hJ) (by simp only[je];exact⟨_,_,rfl,hr0,_,_,rfl,hr1,rfl⟩)).mono ?_;rintro e W' ⟨v,rfl,hn0,hv⟩;have hn:=hn0.kit;simp only[rel]at hv;subst hv;exact⟨_,rfl,_,_,_,[],_,[],hW',trodAll_mk1 (shut_bool Tryz.underlying4 true),trodAll_mk2 (Below.trod Tryz.laidO (by kernel_rfl) (of_decide_eq_true (by kernel_rfl)) h0k hn hlt0) (Below.trod Tryz.laidO (by kernel_rfl) (of_decide_eq_true (by kernel_rfl)) h1k hn hlt1),rfl,hn.frame _,λh=>by cases h⟩
theorem jjF:Tryz.pinned.checked.prog.funcNamed "loop.example/g00892/laws.FnExactAncestors" = some 3:=by kernel_rfl
theorem jmL:Tryz.pinned.checked.prog.inPlace 3=Rows.fnExactAncestorsRow.inPlace:=by kernel_rfl
theorem jmO:Tryz.pinned.checked.prog.unfollowed 3=true:=by kernel_rfl
theorem jmN:Tryz.pinned.checked.prog.recurses 3=true:=by kernel_rfl
theorem jmM:Tryz.pinned.checked.prog.varsNamed 3=Rows.fnExactAncestorsRow.named:=by kernel_rfl
theorem jkD:joinedFacts Tryz.pinned.checked.prog 3 Tryz.f3 Rows.fnExactAncestorsSpec Rows.fnExactAncestorsRow=true:=by
 unfold joinedFacts;rw[jDb,jzG,jmL,jmO,jmN,jmM]
 kernel_rfl
theorem jmP:Rows.fnExactAncestorsRow.wfByText (OpenSpec.ofChange Rows.fnExactAncestorsSpec)=true:=by kernel_rfl
theorem jmK:false=Rows.fnExactAncestorsRow.goesBy Tryz.pinned.checked.prog:=by kernel_rfl
theorem jlz:Tryz.f3.isInstance Tryz.pinned.checked.prog Rows.fnExactAncestorsRow.origin Rows.fnExactAncestorsRow.targs:=of_decide_eq_true (by kernel_rfl)
theorem jlA:Tryz.f3.isWrapper Tryz.pinned.checked.prog Rows.fnExactAncestorsRow.wrapper Rows.fnExactAncestorsRow.mainSum:=by unfold Func.isWrapper;first|(rw[jbZ (by decide +kernel)];kernel_rfl)|(rw[ja0 (by decide +kernel)];exact⟨rfl,rfl⟩)
theorem FnExactAncestors_holds:Rows.FnExactAncestorsSaid:=
 OpenClaim.holds_of_wide 3 Tryz.f3 rfl rfl rfl rfl rfl rfl rfl ⟨rfl,rfl,rfl,rfl,rfl⟩ rfl rfl rfl rfl rfl jjF Tryz.func3 jkD jlz jlA
  (λos started H enc _=>jkE os started H enc)
theorem jlJ:Tryz.prog.wantsStandIn 25=false:=by kernel_rfl
theorem jlK:Tryz.prog.wantsStandIn 3=false:=by kernel_rfl
theorem FnExactAncestors_card:Rows.FnExactAncestorsCardSaid:=
 Claim7.holds_tied_plain_at .later [] [.data,.data,.data] true (true, "6fff523f9726d3ba204d95280f9959500f0ed95e9b564ae5a3c573e1cf0bdf8c") false
  FnExactAncestors_holds (λ_ h=>by cases h) jmP (λ_ h=>by cases h) fnExactAncestors_row_tie rfl ⟨rfl,rfl⟩ (by kernel_rfl) rfl
  (λf fn hf hfn=>by
   obtain rfl:f=3:=jf2 (jjF.symm.trans hf) |>.symm;obtain rfl:fn=Tryz.f3:=(jf2 (Tryz.func3.symm.trans hfn)).symm;exact⟨jEQ,λj t ht=>by
    rw[Tryz.params3]at ht;have ht:=Array.mem_of_getElem? ht;simp only[List.mem_toArray,ja1,List.not_mem_nil,or_false]at ht;rcases ht with rfl|rfl
    .exact jlJ
    .exact jlK⟩)
  jmK
#print axioms FnExactAncestors_card
end Go.Proofs.YthlhadhipnokfaaGreatDoor
