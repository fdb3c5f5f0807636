/- Y: For every input the law FnExactParseStep of the program returns true, and its argument reads behind the call as before. Conditions: the tables and sentinels of the library are laid as the program's text lays them. -/
import Derived.Test.YteoaojbmnibpcaaGreatDoorPd
import Derived.Test.YteoaojbmnibpcaaGreatDoorPz
namespace Go.Proofs.YteoaojbmnibpcaaGreatDoor
open Go Go.ChangeShapes Go.WideShapes Go.ChangeAt Go.RowKit Go.Deep Go.Proofs.YteoaojbmnibpcaaGreatDoor.Abs
set_option linter.unusedSimpArgs false
set_option linter.unusedVariables false
set_option maxRecDepth 100000 in
theorem JN(os:Os)(started:os.Started)(H:Type)(enc:TypeId×Value->H) :
  ReturnsInHanded {} Tryz.checked os 4 .any (λw args=>(Rows.fnExactParseStepSpec.pre enc Tryz.prog Tryz.f4 Rows.fnExactParseStepRow.domain false w args/\laidMetH Tryz.prog Rows.fnExactParseStepRow.laid w)/\sizedMet enc Tryz.prog Tryz.f4 (OpenSpec.ofChange Rows.fnExactParseStepSpec) false w args) (Rows.fnExactParseStepSpec.post enc Tryz.prog Tryz.f4 false true false false):=by
 refine jhn (C:=Tryz.checked) (X:=λw _=>laidMetH Tryz.prog Rows.fnExactParseStepRow.laid w) (λ_ _ _ hh h=>h.of_heap hh) Tryz.ownK started (by kernel_rfl) Tryz.func4
  (ChangeSpec.witness_at (enc:=enc) (C:=Tryz.checked) (os:=os) (X:=λw _=>laidMetH Tryz.prog Rows.fnExactParseStepRow.laid w) false (jr2 os) #[.string ⟨#[]⟩] 8 rfl (by kernel_rfl) (by kernel_rfl) (by kernel_rfl) (by kernel_rfl) (by kernel_rfl) (jl0 os _)) ?_
 intro W base args ds gs before hval0 hW _ _ hL0 hSh _;have hJ:jlD W:=jtu hL0 hSh;have hval:∀(j:Nat) t v,Tryz.f4.params[j]? = some t->args[j]? = some v->Value.okWide Tryz.prog W .any base t v:=hval0;have hW':=hW;obtain⟨p,q,hA0,hV,rfl,_,_⟩:=hW;have hA:DataW.TrodAll enc Tryz.prog W 0 (λ_=>true) true Tryz.f4.params.toList args.toList ds p:=hA0;rw[Tryz.params4]at hA hval;obtain⟨v0,d0,rfl,rfl,h0⟩:=trodAll_one hA;obtain⟨rfl,rfl⟩:=trodVars_none hV;obtain⟨s0,rfl⟩:=okWide_string Tryz.underlying9 (hval 0 9 v0 rfl rfl);have h0k:=h0;clear hA0 hval0;simp only[List.append_nil]at hW';have hlt0:∀y∈p,y.block<W.heap.size:=λy hy=>by simpa using hW'.lt y (by simp[hy])
 have hr0:rel W jpw (sv s0.data.toList) (.string s0):=by rw[jlu];simp only[rel]
 have hlaw:=jvF rfl (jdI s0.data.toList);refine(hlaw.2 W jpw [.string s0] hJ (λ_ h=>h) (jlv hJ) (by simp only[jm];exact⟨_,_,rfl,hr0,rfl⟩)).mono ?_;rintro e W' ⟨v,rfl,hn0,hv⟩;have hn:=hn0.kit;simp only[rel]at hv;subst hv;exact⟨_,rfl,_,_,_,[],_,[],hW',trodAll_mk1 (shut_bool Tryz.underlying4 true),trodAll_mk1 (Below.trod Tryz.laidO (by kernel_rfl) (of_decide_eq_true (by kernel_rfl)) h0k hn hlt0),rfl,hn.frame _,λh=>by cases h⟩
theorem qw:Tryz.pinned.checked.prog.funcNamed "loop.example/g00892/laws.FnExactParseStep" = some 4:=by kernel_rfl
theorem ZX:Tryz.pinned.checked.prog.inPlace 4=Rows.fnExactParseStepRow.inPlace:=by kernel_rfl
theorem Z1:Tryz.pinned.checked.prog.unfollowed 4=true:=by kernel_rfl
theorem ZZ:Tryz.pinned.checked.prog.recurses 4=true:=by kernel_rfl
theorem ZY:Tryz.pinned.checked.prog.varsNamed 4=Rows.fnExactParseStepRow.named:=by kernel_rfl
theorem JM:joinedFacts Tryz.pinned.checked.prog 4 Tryz.f4 Rows.fnExactParseStepSpec Rows.fnExactParseStepRow=true:=by
 unfold joinedFacts;rw[jpk,jmM,ZX,Z1,ZZ,ZY]
 kernel_rfl
theorem Z2:Rows.fnExactParseStepRow.wfByText (OpenSpec.ofChange Rows.fnExactParseStepSpec)=true:=by kernel_rfl
theorem ZW:false=Rows.fnExactParseStepRow.goesBy Tryz.pinned.checked.prog:=by kernel_rfl
theorem KM:Tryz.f4.isInstance Tryz.pinned.checked.prog Rows.fnExactParseStepRow.origin Rows.fnExactParseStepRow.targs:=of_decide_eq_true (by kernel_rfl)
theorem KN:Tryz.f4.isWrapper Tryz.pinned.checked.prog Rows.fnExactParseStepRow.wrapper Rows.fnExactParseStepRow.mainSum:=by unfold Func.isWrapper;first|(rw[if_pos (by decide +kernel)];kernel_rfl)|(rw[if_neg (by decide +kernel)];exact⟨rfl,rfl⟩)
theorem FnExactParseStep_holds:Rows.FnExactParseStepSaid:=
 OpenClaim.holds_of_wide 4 Tryz.f4 rfl rfl rfl rfl rfl rfl rfl ⟨rfl,rfl,rfl,rfl,rfl⟩ rfl rfl rfl rfl rfl qw Tryz.func4 JM KM KN
  (λos started H enc _=>JN os started H enc)
theorem KQ:Tryz.prog.wantsStandIn 9=false:=by kernel_rfl
theorem FnExactParseStep_card:Rows.FnExactParseStepCardSaid:=
 Claim7.holds_tied_plain_at .later [] [.data,.data,.data,.data,.sentinel,.sentinel,.pinned] true (true, "51feaae12d59623d5eec27fe27d7207a50b471db07b0fc2f63609d7213aa6edd") true
  FnExactParseStep_holds (λ_ h=>by cases h) Z2 (λ_ h=>by cases h) fnExactParseStep_row_tie rfl ⟨rfl,rfl⟩ (by kernel_rfl) rfl
  (λf fn hf hfn=>by
   obtain rfl:f=4:=Option.some.inj (qw.symm.trans hf) |>.symm;obtain rfl:fn=Tryz.f4:=(Option.some.inj (Tryz.func4.symm.trans hfn)).symm;exact⟨jrd,λj t ht=>by
    rw[Tryz.params4]at ht;have ht:=Array.mem_of_getElem? ht;simp only[List.mem_toArray,List.mem_cons,List.not_mem_nil,or_false]at ht;rcases ht with rfl
    .exact KQ⟩)
  ZW
#print axioms FnExactParseStep_card
end Go.Proofs.YteoaojbmnibpcaaGreatDoor
