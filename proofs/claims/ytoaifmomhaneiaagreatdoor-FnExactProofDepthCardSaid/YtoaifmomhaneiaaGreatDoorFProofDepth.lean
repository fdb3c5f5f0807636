/- For every input the law FnExactProofDepth of the program returns true, and its arguments read behind the call as before. Conditions: the three tables of the library are laid as the program's text lays them. -/
import Derived.Test.YtoaifmomhaneiaaGreatDoorPf
import Derived.Test.YtoaifmomhaneiaaGreatDoorPz
namespace Go.Proofs.YtoaifmomhaneiaaGreatDoor
open Go Go.ChangeShapes Go.WideShapes Go.ChangeAt Go.RowKit Go.Proofs.YtoaifmomhaneiaaGreatDoor.Abs
set_option linter.unusedSimpArgs false
set_option linter.unusedVariables false
set_option maxRecDepth 100000 in
theorem Q7 (os:Os) (started:os.Started) (H:Type) (enc:TypeId × Value->H) :
  ReturnsInHanded {} Tryz.checked os 7 .any (λw args=>(Rows.fnExactProofDepthSpec.pre enc Tryz.prog Tryz.f7 Rows.fnExactProofDepthRow.domain false w args/\laidMetH Tryz.prog Rows.fnExactProofDepthRow.laid w)/\sizedMet enc Tryz.prog Tryz.f7 (OpenSpec.ofChange Rows.fnExactProofDepthSpec) false w args) (Rows.fnExactProofDepthSpec.post enc Tryz.prog Tryz.f7 false true false false):=by
 refine returnsInHanded_of_change_and (C:=Tryz.checked) (X:=λw _=>laidMetH Tryz.prog Rows.fnExactProofDepthRow.laid w) (λ_ _ _ hh h=>h.of_heap hh) Tryz.ownK started (by kernel_rfl) Tryz.func7
  (ChangeSpec.witness_at (enc:=enc) (C:=Tryz.checked) (os:=os) (X:=λw _=>laidMetH Tryz.prog Rows.fnExactProofDepthRow.laid w) false (jhP os) #[.agg #[.slice none 0 0,.slice none 0 0],.int .i64 0] 8 rfl (by kernel_rfl) (by kernel_rfl) (by kernel_rfl) (by kernel_rfl) (by kernel_rfl) (Zf os _)) ?_
 intro W base args ds gs before hval0 hW _ _ hL0 _;have hJ:jd6 W:=je2 hL0;have hval:∀(j:Nat) t v,Tryz.f7.params[j]? = some t->args[j]? = some v->Value.okWide Tryz.prog W .any base t v:=hval0;have hW':=hW;obtain ⟨p,q,hA0,hV,rfl,_,_⟩:=hW;have hA:DataW.TrodAll enc Tryz.prog W 0 (λ_=>true) true Tryz.f7.params.toList args.toList ds p:=hA0;rw [Tryz.params7] at hA hval;obtain ⟨v0,v1,d0,d1,p0,p1,rfl,rfl,rfl,h0,h1⟩:=trodAll_two hA;obtain ⟨rfl,rfl⟩:=trodVars_none hV;obtain ⟨cs0,rfl,_⟩:=okWide_struct Tryz.underlying25 (hval 0 25 v0 rfl rfl);obtain ⟨n1,rfl⟩:=okWide_int Tryz.underlying3 (hval 1 3 v1 rfl rfl);have h0k:=h0;obtain ⟨fuel0,hf0⟩:=h0;have h1k:=h1;obtain ⟨fuel1,hf1⟩:=h1;clear hA0 hval0;simp only [JD] at hW';have hlt0:∀y∈p0,y.block < W.heap.size:=λy hy=>by simpa using hW'.lt y (by simp [hy])
 have hlt1:∀y∈p1,y.block < W.heap.size:=λy hy=>by simpa using hW'.lt y (by simp [hy])
 obtain ⟨p,hp0,hr0,_⟩:=jaY H enc W 0 (λ_=>true) true fuel0 _ _ hf0;have hr0:=Y8 hJ _ _ (jj9 p) (qX hr0);obtain ⟨i,hp1,hr1,_⟩:=jo0 H enc W 0 (λ_=>true) true fuel1 _ _ hf1;have hr1:=Y8 hJ _ _ (rfl) (jkz hr1 rfl);have hlaw:=jsE rfl (jjT p i hp0);refine (hlaw.2 W (λb=>b=ja2) [.agg cs0,.int .i64 n1] hJ (λ_ h=>h) (λb h=>by rw [h];exact jbZ hJ) (by simp only [jF];exact ⟨_,_,rfl,hr0,_,_,rfl,hr1,rfl⟩)).mono ?_;rintro e W' ⟨v,rfl,hn0,hv⟩;have hn:=hn0.kit;simp only [rel] at hv;subst hv;exact ⟨_,rfl,_,_,_,[],_,[],hW',trodAll_mk1 (shut_bool Tryz.underlying4 true),trodAll_mk2 (jpm Tryz.laidO (by kernel_rfl) (ja7 (by kernel_rfl)) h0k hn hlt0) (jpm Tryz.laidO (by kernel_rfl) (ja7 (by kernel_rfl)) h1k hn hlt1),rfl,hn.frame _,λh=>by cases h⟩
theorem ZA:Tryz.pinned.checked.prog.funcNamed "loop.example/g00892/laws.FnExactProofDepth" = some 7:=by kernel_rfl
theorem jcy:Tryz.pinned.checked.prog.inPlace 7=Rows.fnExactProofDepthRow.inPlace:=by kernel_rfl
theorem jcB:Tryz.pinned.checked.prog.unfollowed 7=true:=by kernel_rfl
theorem jcA:Tryz.pinned.checked.prog.recurses 7=true:=by kernel_rfl
theorem jcz:Tryz.pinned.checked.prog.varsNamed 7=Rows.fnExactProofDepthRow.named:=by kernel_rfl
theorem Q6:joinedFacts Tryz.pinned.checked.prog 7 Tryz.f7 Rows.fnExactProofDepthSpec Rows.fnExactProofDepthRow=true:=by
 unfold joinedFacts;rw [Qc,Zp,jcy,jcB,jcA,jcz]
 kernel_rfl
theorem jcC:Rows.fnExactProofDepthRow.wfByText (OpenSpec.ofChange Rows.fnExactProofDepthSpec)=true:=by kernel_rfl
theorem jcx:false=Rows.fnExactProofDepthRow.goesBy Tryz.pinned.checked.prog:=by kernel_rfl
theorem jbp:Tryz.f7.isInstance Tryz.pinned.checked.prog Rows.fnExactProofDepthRow.origin Rows.fnExactProofDepthRow.targs:=ja7 (by kernel_rfl)
theorem jbq:Tryz.f7.isWrapper Tryz.pinned.checked.prog Rows.fnExactProofDepthRow.wrapper Rows.fnExactProofDepthRow.mainSum:=by unfold Func.isWrapper;first|(rw [jp (by decide +kernel)];kernel_rfl)|(rw [jq (by decide +kernel)];exact ⟨rfl,rfl⟩)
theorem FnExactProofDepth_holds:Rows.FnExactProofDepthSaid:=
 OpenClaim.holds_of_wide 7 Tryz.f7 rfl rfl rfl rfl rfl rfl rfl ⟨rfl,rfl,rfl,rfl,rfl⟩ rfl rfl rfl rfl rfl ZA Tryz.func7 Q6 jbp jbq
  (λos started H enc _=>Q7 os started H enc)
theorem jch:Tryz.prog.wantsStandIn 25=false:=by kernel_rfl
theorem jci:Tryz.prog.wantsStandIn 3=false:=by kernel_rfl
theorem FnExactProofDepth_card:Rows.FnExactProofDepthCardSaid:=
 Claim7.holds_tied_plain_at .later [] [.data,.data,.data] true (true, "91072cfe497c3e58a53c556e0bd5e4bbb0a70d9d1513207670f20a727d342b04") false
  FnExactProofDepth_holds (λ_ h=>by cases h) jcC (λ_ h=>by cases h) fnExactProofDepth_row_tie rfl ⟨rfl,rfl⟩ (by kernel_rfl) rfl
  (λf fn hf hfn=>by
   obtain rfl:f=7:=Yx (ZA.symm.trans hf) |>.symm;obtain rfl:fn=Tryz.f7:=(Yx (Tryz.func7.symm.trans hfn)).symm;exact ⟨jbU,λj t ht=>by
    rw [Tryz.params7] at ht;have ht:=jsp ht;simp only [jt8,kW,jcv,jdF] at ht;rcases ht with rfl|rfl
    .exact jch
    .exact jci⟩)
  jcx
#print axioms FnExactProofDepth_card
end Go.Proofs.YtoaifmomhaneiaaGreatDoor
