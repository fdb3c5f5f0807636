/- For every input the law FnProof of the program returns true, and its argument reads behind the call as before. Conditions: the tables of the library that the card names are laid as the program's text lays them. -/
import Derived.Test.YtbgikpffkgjecaaGreatDoorPh
import Derived.Test.YtbgikpffkgjecaaGreatDoorPz
namespace Go.Proofs.YtbgikpffkgjecaaGreatDoor
open Go Go.ChangeShapes Go.WideShapes Go.ChangeAt Go.RowKit Go.Deep Go.Proofs.YtbgikpffkgjecaaGreatDoor.Abs
set_option linter.unusedSimpArgs false
set_option linter.unusedVariables false
set_option maxRecDepth 100000 in
theorem jhS (os:Os) (started:os.Started) (H:Type) (enc:TypeId × Value->H) :
  ReturnsInHanded {} Tryz.checked os 3 .any (λw args=>(Rows.fnProofSpec.pre enc Tryz.prog Tryz.f3 Rows.fnProofRow.domain false w args/\laidMetH Tryz.prog Rows.fnProofRow.laid w)/\sizedMet enc Tryz.prog Tryz.f3 (OpenSpec.ofChange Rows.fnProofSpec) false w args) (Rows.fnProofSpec.post enc Tryz.prog Tryz.f3 false true false false):=by
 refine returnsInHanded_of_change_and (C:=Tryz.checked) (X:=λw _=>laidMetH Tryz.prog Rows.fnProofRow.laid w) (λ_ _ _ hh h=>h.of_heap hh) Tryz.ownK started (by kernel_rfl) Tryz.func3
  (ChangeSpec.witness_at (enc:=enc) (C:=Tryz.checked) (os:=os) (X:=λw _=>laidMetH Tryz.prog Rows.fnProofRow.laid w) false (jFe os) #[.slice none 0 0] 8 rfl (by kernel_rfl) (by kernel_rfl) (by kernel_rfl) (by kernel_rfl) (by kernel_rfl) (jwr os _)) ?_
 intro W base args ds gs before hval0 hW _ _ hL0 _;have hJ:jkr W:=jHa hL0;have hval:∀(j:Nat) t v,Tryz.f3.params[j]? = some t->args[j]? = some v->Value.okWide Tryz.prog W .any base t v:=hval0;have hW':=hW;obtain ⟨p,q,hA0,hV,rfl,_,_⟩:=hW;have hA:DataW.TrodAll enc Tryz.prog W 0 (λ_=>true) true Tryz.f3.params.toList args.toList ds p:=hA0;rw [Tryz.params3] at hA hval;obtain ⟨v0,d0,rfl,rfl,h0⟩:=trodAll_one hA;obtain ⟨rfl,rfl⟩:=trodVars_none hV;obtain ⟨a0,l0,c0,rfl⟩:=okWide_slice Tryz.underlying22 (hval 0 22 v0 rfl rfl);have h0k:=h0;obtain ⟨fuel0,hf0⟩:=h0;clear hA0 hval0;simp only [qv] at hW';have hlt0:∀y∈p,y.block < W.heap.size:=λy hy=>by simpa using hW'.lt y (by simp [hy])
 obtain ⟨code,hp0,hr0,_⟩:=jAY H enc W 0 (λ_=>true) true fuel0 _ _ hf0;have hr0:=jtm hJ _ _ (jGJ code) (jtn hr0 rfl);have hlaw:=jJS rfl (jws code hp0);refine (hlaw.2 W (λb=>b=jfi) [.slice a0 l0 c0] hJ (λ_ h=>h) (λb h=>by rw [h];exact jEc hJ) (by simp only [jS];exact ⟨_,_,rfl,hr0,rfl⟩)).mono ?_;rintro e W' ⟨v,rfl,hn0,hv⟩;have hn:=hn0.kit;simp only [rel] at hv;subst hv;exact ⟨_,rfl,_,_,_,[],_,[],hW',trodAll_mk1 (shut_bool Tryz.underlying4 true),trodAll_mk1 (Below.trod Tryz.laidO (by kernel_rfl) (jg9 (by kernel_rfl)) h0k hn hlt0),rfl,hn.frame _,λh=>by cases h⟩
theorem jhR:Tryz.pinned.checked.prog.funcNamed "loop.example/g00892/laws.FnProof" = some 3:=by kernel_rfl
theorem jsb:Tryz.pinned.checked.prog.inPlace 3=Rows.fnProofRow.inPlace:=by kernel_rfl
theorem jse:Tryz.pinned.checked.prog.unfollowed 3=true:=by kernel_rfl
theorem jsd:Tryz.pinned.checked.prog.recurses 3=true:=by kernel_rfl
theorem jsc:Tryz.pinned.checked.prog.varsNamed 3=Rows.fnProofRow.named:=by kernel_rfl
theorem jhQ:joinedFacts Tryz.pinned.checked.prog 3 Tryz.f3 Rows.fnProofSpec Rows.fnProofRow=true:=by
 unfold joinedFacts;rw [jBh,jw8,jsb,jse,jsd,jsc]
 kernel_rfl
theorem jsf:Rows.fnProofRow.wfByText (OpenSpec.ofChange Rows.fnProofSpec)=true:=by kernel_rfl
theorem jsa:false=Rows.fnProofRow.goesBy Tryz.pinned.checked.prog:=by kernel_rfl
theorem jmm:Tryz.f3.isInstance Tryz.pinned.checked.prog Rows.fnProofRow.origin Rows.fnProofRow.targs:=jg9 (by kernel_rfl)
theorem jmn:Tryz.f3.isWrapper Tryz.pinned.checked.prog Rows.fnProofRow.wrapper Rows.fnProofRow.mainSum:=by unfold Func.isWrapper;first|(rw [jg (by decide +kernel)];kernel_rfl)|(rw [jf (by decide +kernel)];exact ⟨rfl,rfl⟩)
theorem FnProof_holds:Rows.FnProofSaid:=
 OpenClaim.holds_of_wide 3 Tryz.f3 rfl rfl rfl rfl rfl rfl rfl ⟨rfl,rfl,rfl,rfl,rfl⟩ rfl rfl rfl rfl rfl jhR Tryz.func3 jhQ jmm jmn
  (λos started H enc _=>jhS os started H enc)
theorem joK:Tryz.prog.wantsStandIn 22=false:=by kernel_rfl
theorem FnProof_card:Rows.FnProofCardSaid:=
 Claim7.holds_tied_plain_at .later [] [.data,.data,.data] true (true, "1cfb28450b87ddc864181852b317dc1367e5b253b6e92cab59dacb2eedc5560c") false
  FnProof_holds (λ_ h=>by cases h) jsf (λ_ h=>by cases h) fnProof_row_tie rfl ⟨rfl,rfl⟩ (by kernel_rfl) rfl
  (λf fn hf hfn=>by
   obtain rfl:f=3:=jbf (jhR.symm.trans hf) |>.symm;obtain rfl:fn=Tryz.f3:=(jbf (Tryz.func3.symm.trans hfn)).symm;exact ⟨jD4,λj t ht=>by
    rw [Tryz.params3] at ht;have ht:=Array.mem_of_getElem? ht;simp only [List.mem_toArray,jZ,qK,Jb] at ht;rcases ht with rfl
    ·exact joK⟩)
  jsa
#print axioms FnProof_card
end Go.Proofs.YtbgikpffkgjecaaGreatDoor
