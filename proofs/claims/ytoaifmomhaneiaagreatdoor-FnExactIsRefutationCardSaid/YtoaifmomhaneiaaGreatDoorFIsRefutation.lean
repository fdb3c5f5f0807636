/- For every input the law FnExactIsRefutation of the program returns true, and its arguments read behind the call as before. Conditions: the three tables of the library are laid as the program's text lays them. -/
import Derived.Test.YtoaifmomhaneiaaGreatDoorPf
import Derived.Test.YtoaifmomhaneiaaGreatDoorPz
namespace Go.Proofs.YtoaifmomhaneiaaGreatDoor
open Go Go.ChangeShapes Go.WideShapes Go.ChangeAt Go.RowKit Go.Proofs.YtoaifmomhaneiaaGreatDoor.Abs
set_option linter.unusedSimpArgs false
set_option linter.unusedVariables false
set_option maxRecDepth 100000 in
theorem YK (os:Os) (started:os.Started) (H:Type) (enc:TypeId × Value->H) :
  ReturnsInHanded {} Tryz.checked os 5 .any (λw args=>(Rows.fnExactIsRefutationSpec.pre enc Tryz.prog Tryz.f5 Rows.fnExactIsRefutationRow.domain false w args/\laidMetH Tryz.prog Rows.fnExactIsRefutationRow.laid w)/\sizedMet enc Tryz.prog Tryz.f5 (OpenSpec.ofChange Rows.fnExactIsRefutationSpec) false w args) (Rows.fnExactIsRefutationSpec.post enc Tryz.prog Tryz.f5 false true false false):=by
 refine returnsInHanded_of_change_and (C:=Tryz.checked) (X:=λw _=>laidMetH Tryz.prog Rows.fnExactIsRefutationRow.laid w) (λ_ _ _ hh h=>h.of_heap hh) Tryz.ownK started (by kernel_rfl) Tryz.func5
  (ChangeSpec.witness_at (enc:=enc) (C:=Tryz.checked) (os:=os) (X:=λw _=>laidMetH Tryz.prog Rows.fnExactIsRefutationRow.laid w) false (jhP os) #[.agg #[.slice none 0 0,.slice none 0 0]] 8 rfl (by kernel_rfl) (by kernel_rfl) (by kernel_rfl) (by kernel_rfl) (by kernel_rfl) (Zf os _)) ?_
 intro W base args ds gs before hval0 hW _ _ hL0 _;have hJ:jd6 W:=je2 hL0;have hval:∀(j:Nat) t v,Tryz.f5.params[j]? = some t->args[j]? = some v->Value.okWide Tryz.prog W .any base t v:=hval0;have hW':=hW;obtain ⟨p,q,hA0,hV,rfl,_,_⟩:=hW;have hA:DataW.TrodAll enc Tryz.prog W 0 (λ_=>true) true Tryz.f5.params.toList args.toList ds p:=hA0;rw [Tryz.params5] at hA hval;obtain ⟨v0,d0,rfl,rfl,h0⟩:=trodAll_one hA;obtain ⟨rfl,rfl⟩:=trodVars_none hV;obtain ⟨cs0,rfl,_⟩:=okWide_struct Tryz.underlying25 (hval 0 25 v0 rfl rfl);have h0k:=h0;obtain ⟨fuel0,hf0⟩:=h0;clear hA0 hval0;simp only [JD] at hW';have hlt0:∀y∈p,y.block < W.heap.size:=λy hy=>by simpa using hW'.lt y (by simp [hy])
 obtain ⟨p,hp0,hr0,_⟩:=jaY H enc W 0 (λ_=>true) true fuel0 _ _ hf0;have hr0:=Y8 hJ _ _ (jj9 p) (qX hr0);have hlaw:=jsE rfl (jgQ p hp0);refine (hlaw.2 W (λb=>b=ja2) [.agg cs0] hJ (λ_ h=>h) (λb h=>by rw [h];exact jbZ hJ) (by simp only [jF];exact ⟨_,_,rfl,hr0,rfl⟩)).mono ?_;rintro e W' ⟨v,rfl,hn0,hv⟩;have hn:=hn0.kit;simp only [rel] at hv;subst hv;exact ⟨_,rfl,_,_,_,[],_,[],hW',trodAll_mk1 (shut_bool Tryz.underlying4 true),trodAll_mk1 (jpm Tryz.laidO (by kernel_rfl) (ja7 (by kernel_rfl)) h0k hn hlt0),rfl,hn.frame _,λh=>by cases h⟩
theorem KD:Tryz.pinned.checked.prog.funcNamed "loop.example/g00892/laws.FnExactIsRefutation" = some 5:=by kernel_rfl
theorem jbe:Tryz.pinned.checked.prog.inPlace 5=Rows.fnExactIsRefutationRow.inPlace:=by kernel_rfl
theorem jbh:Tryz.pinned.checked.prog.unfollowed 5=true:=by kernel_rfl
theorem jbg:Tryz.pinned.checked.prog.recurses 5=true:=by kernel_rfl
theorem jbf:Tryz.pinned.checked.prog.varsNamed 5=Rows.fnExactIsRefutationRow.named:=by kernel_rfl
theorem YJ:joinedFacts Tryz.pinned.checked.prog 5 Tryz.f5 Rows.fnExactIsRefutationSpec Rows.fnExactIsRefutationRow=true:=by
 unfold joinedFacts;rw [Qc,Zp,jbe,jbh,jbg,jbf]
 kernel_rfl
theorem jbi:Rows.fnExactIsRefutationRow.wfByText (OpenSpec.ofChange Rows.fnExactIsRefutationSpec)=true:=by kernel_rfl
theorem jbd:false=Rows.fnExactIsRefutationRow.goesBy Tryz.pinned.checked.prog:=by kernel_rfl
theorem Q1:Tryz.f5.isInstance Tryz.pinned.checked.prog Rows.fnExactIsRefutationRow.origin Rows.fnExactIsRefutationRow.targs:=ja7 (by kernel_rfl)
theorem Q2:Tryz.f5.isWrapper Tryz.pinned.checked.prog Rows.fnExactIsRefutationRow.wrapper Rows.fnExactIsRefutationRow.mainSum:=by unfold Func.isWrapper;first|(rw [jp (by decide +kernel)];kernel_rfl)|(rw [jq (by decide +kernel)];exact ⟨rfl,rfl⟩)
theorem FnExactIsRefutation_holds:Rows.FnExactIsRefutationSaid:=
 OpenClaim.holds_of_wide 5 Tryz.f5 rfl rfl rfl rfl rfl rfl rfl ⟨rfl,rfl,rfl,rfl,rfl⟩ rfl rfl rfl rfl rfl KD Tryz.func5 YJ Q1 Q2
  (λos started H enc _=>YK os started H enc)
theorem jau:Tryz.prog.wantsStandIn 25=false:=by kernel_rfl
theorem FnExactIsRefutation_card:Rows.FnExactIsRefutationCardSaid:=
 Claim7.holds_tied_plain_at .later [] [.data,.data,.data] true (true, "91072cfe497c3e58a53c556e0bd5e4bbb0a70d9d1513207670f20a727d342b04") false
  FnExactIsRefutation_holds (λ_ h=>by cases h) jbi (λ_ h=>by cases h) fnExactIsRefutation_row_tie rfl ⟨rfl,rfl⟩ (by kernel_rfl) rfl
  (λf fn hf hfn=>by
   obtain rfl:f=5:=Yx (KD.symm.trans hf) |>.symm;obtain rfl:fn=Tryz.f5:=(Yx (Tryz.func5.symm.trans hfn)).symm;exact ⟨jbU,λj t ht=>by
    rw [Tryz.params5] at ht;have ht:=jsp ht;simp only [jt8,kW,jcv,jdF] at ht;rcases ht with rfl
    .exact jau⟩)
  jbd
#print axioms FnExactIsRefutation_card
end Go.Proofs.YtoaifmomhaneiaaGreatDoor
