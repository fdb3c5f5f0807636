/- For every input the law FnExactIsValidProof of the program returns true, and its arguments read behind the call as before. Conditions: the three tables of the library are laid as the program's text lays them. -/
import Derived.Test.YtoaifmomhaneiaaGreatDoorPf
import Derived.Test.YtoaifmomhaneiaaGreatDoorPz
namespace Go.Proofs.YtoaifmomhaneiaaGreatDoor
open Go Go.ChangeShapes Go.WideShapes Go.ChangeAt Go.RowKit Go.Proofs.YtoaifmomhaneiaaGreatDoor.Abs
set_option linter.unusedSimpArgs false
set_option linter.unusedVariables false
set_option maxRecDepth 100000 in
theorem YM (os:Os) (started:os.Started) (H:Type) (enc:TypeId × Value->H) :
  ReturnsInHanded {} Tryz.checked os 4 .any (λw args=>(Rows.fnExactIsValidProofSpec.pre enc Tryz.prog Tryz.f4 Rows.fnExactIsValidProofRow.domain false w args/\laidMetH Tryz.prog Rows.fnExactIsValidProofRow.laid w)/\sizedMet enc Tryz.prog Tryz.f4 (OpenSpec.ofChange Rows.fnExactIsValidProofSpec) false w args) (Rows.fnExactIsValidProofSpec.post enc Tryz.prog Tryz.f4 false true false false):=by
 refine returnsInHanded_of_change_and (C:=Tryz.checked) (X:=λw _=>laidMetH Tryz.prog Rows.fnExactIsValidProofRow.laid w) (λ_ _ _ hh h=>h.of_heap hh) Tryz.ownK started (by kernel_rfl) Tryz.func4
  (ChangeSpec.witness_at (enc:=enc) (C:=Tryz.checked) (os:=os) (X:=λw _=>laidMetH Tryz.prog Rows.fnExactIsValidProofRow.laid w) false (jhP os) #[.agg #[.slice none 0 0,.slice none 0 0]] 8 rfl (by kernel_rfl) (by kernel_rfl) (by kernel_rfl) (by kernel_rfl) (by kernel_rfl) (Zf os _)) ?_
 intro W base args ds gs before hval0 hW _ _ hL0 _;have hJ:jd6 W:=je2 hL0;have hval:∀(j:Nat) t v,Tryz.f4.params[j]? = some t->args[j]? = some v->Value.okWide Tryz.prog W .any base t v:=hval0;have hW':=hW;obtain ⟨p,q,hA0,hV,rfl,_,_⟩:=hW;have hA:DataW.TrodAll enc Tryz.prog W 0 (λ_=>true) true Tryz.f4.params.toList args.toList ds p:=hA0;rw [Tryz.params4] at hA hval;obtain ⟨v0,d0,rfl,rfl,h0⟩:=trodAll_one hA;obtain ⟨rfl,rfl⟩:=trodVars_none hV;obtain ⟨cs0,rfl,_⟩:=okWide_struct Tryz.underlying25 (hval 0 25 v0 rfl rfl);have h0k:=h0;obtain ⟨fuel0,hf0⟩:=h0;clear hA0 hval0;simp only [JD] at hW';have hlt0:∀y∈p,y.block < W.heap.size:=λy hy=>by simpa using hW'.lt y (by simp [hy])
 obtain ⟨p,hp0,hr0,_⟩:=jaY H enc W 0 (λ_=>true) true fuel0 _ _ hf0;have hr0:=Y8 hJ _ _ (jj9 p) (qX hr0);have hlaw:=jsE rfl (jgR p hp0);refine (hlaw.2 W (λb=>b=ja2) [.agg cs0] hJ (λ_ h=>h) (λb h=>by rw [h];exact jbZ hJ) (by simp only [jF];exact ⟨_,_,rfl,hr0,rfl⟩)).mono ?_;rintro e W' ⟨v,rfl,hn0,hv⟩;have hn:=hn0.kit;simp only [rel] at hv;subst hv;exact ⟨_,rfl,_,_,_,[],_,[],hW',trodAll_mk1 (shut_bool Tryz.underlying4 true),trodAll_mk1 (jpm Tryz.laidO (by kernel_rfl) (ja7 (by kernel_rfl)) h0k hn hlt0),rfl,hn.frame _,λh=>by cases h⟩
theorem KE:Tryz.pinned.checked.prog.funcNamed "loop.example/g00892/laws.FnExactIsValidProof" = some 4:=by kernel_rfl
theorem jbk:Tryz.pinned.checked.prog.inPlace 4=Rows.fnExactIsValidProofRow.inPlace:=by kernel_rfl
theorem jbn:Tryz.pinned.checked.prog.unfollowed 4=true:=by kernel_rfl
theorem jbm:Tryz.pinned.checked.prog.recurses 4=true:=by kernel_rfl
theorem jbl:Tryz.pinned.checked.prog.varsNamed 4=Rows.fnExactIsValidProofRow.named:=by kernel_rfl
theorem YL:joinedFacts Tryz.pinned.checked.prog 4 Tryz.f4 Rows.fnExactIsValidProofSpec Rows.fnExactIsValidProofRow=true:=by
 unfold joinedFacts;rw [Qc,Zp,jbk,jbn,jbm,jbl]
 kernel_rfl
theorem jbo:Rows.fnExactIsValidProofRow.wfByText (OpenSpec.ofChange Rows.fnExactIsValidProofSpec)=true:=by kernel_rfl
theorem jbj:false=Rows.fnExactIsValidProofRow.goesBy Tryz.pinned.checked.prog:=by kernel_rfl
theorem Q3:Tryz.f4.isInstance Tryz.pinned.checked.prog Rows.fnExactIsValidProofRow.origin Rows.fnExactIsValidProofRow.targs:=ja7 (by kernel_rfl)
theorem Q4:Tryz.f4.isWrapper Tryz.pinned.checked.prog Rows.fnExactIsValidProofRow.wrapper Rows.fnExactIsValidProofRow.mainSum:=by unfold Func.isWrapper;first|(rw [jp (by decide +kernel)];kernel_rfl)|(rw [jq (by decide +kernel)];exact ⟨rfl,rfl⟩)
theorem FnExactIsValidProof_holds:Rows.FnExactIsValidProofSaid:=
 OpenClaim.holds_of_wide 4 Tryz.f4 rfl rfl rfl rfl rfl rfl rfl ⟨rfl,rfl,rfl,rfl,rfl⟩ rfl rfl rfl rfl rfl KE Tryz.func4 YL Q3 Q4
  (λos started H enc _=>YM os started H enc)
theorem jav:Tryz.prog.wantsStandIn 25=false:=by kernel_rfl
theorem FnExactIsValidProof_card:Rows.FnExactIsValidProofCardSaid:=
 Claim7.holds_tied_plain_at .later [] [.data,.data,.data] true (true, "91072cfe497c3e58a53c556e0bd5e4bbb0a70d9d1513207670f20a727d342b04") false
  FnExactIsValidProof_holds (λ_ h=>by cases h) jbo (λ_ h=>by cases h) fnExactIsValidProof_row_tie rfl ⟨rfl,rfl⟩ (by kernel_rfl) rfl
  (λf fn hf hfn=>by
   obtain rfl:f=4:=Yx (KE.symm.trans hf) |>.symm;obtain rfl:fn=Tryz.f4:=(Yx (Tryz.func4.symm.trans hfn)).symm;exact ⟨jbU,λj t ht=>by
    rw [Tryz.params4] at ht;have ht:=jsp ht;simp only [jt8,kW,jcv,jdF] at ht;rcases ht with rfl
    .exact jav⟩)
  jbj
#print axioms FnExactIsValidProof_card
end Go.Proofs.YtoaifmomhaneiaaGreatDoor
