/- For every input the law FnExactIsValidSearch of the program returns true, and its arguments read behind the call as before. Conditions: the three tables of the library are laid as the program's text lays them. -/
import Derived.Test.YtoaifmomhaneiaaGreatDoorPg
import Derived.Test.YtoaifmomhaneiaaGreatDoorPz
namespace Go.Proofs.YtoaifmomhaneiaaGreatDoor
open Go Go.ChangeShapes Go.WideShapes Go.ChangeAt Go.RowKit Go.Proofs.YtoaifmomhaneiaaGreatDoor.Abs
set_option linter.unusedSimpArgs false
set_option linter.unusedVariables false
set_option maxRecDepth 100000 in
theorem Yh (os:Os) (started:os.Started) (H:Type) (enc:TypeId × Value->H) :
  ReturnsInHanded {} Tryz.checked os 8 .any (λw args=>(Rows.fnExactIsValidSearchSpec.pre enc Tryz.prog Tryz.f8 Rows.fnExactIsValidSearchRow.domain false w args/\laidMetH Tryz.prog Rows.fnExactIsValidSearchRow.laid w)/\sizedMet enc Tryz.prog Tryz.f8 (OpenSpec.ofChange Rows.fnExactIsValidSearchSpec) false w args) (Rows.fnExactIsValidSearchSpec.post enc Tryz.prog Tryz.f8 false true false false):=by
 refine returnsInHanded_of_change_and (C:=Tryz.checked) (X:=λw _=>laidMetH Tryz.prog Rows.fnExactIsValidSearchRow.laid w) (λ_ _ _ hh h=>h.of_heap hh) Tryz.ownK started (by kernel_rfl) Tryz.func8
  (ChangeSpec.witness_at (enc:=enc) (C:=Tryz.checked) (os:=os) (X:=λw _=>laidMetH Tryz.prog Rows.fnExactIsValidSearchRow.laid w) false (jhP os) #[.agg #[.slice none 0 0,.slice none 0 0,.slice none 0 0,.slice none 0 0,.bool false]] 8 rfl (by kernel_rfl) (by kernel_rfl) (by kernel_rfl) (by kernel_rfl) (by kernel_rfl) (Zf os _)) ?_
 intro W base args ds gs before hval0 hW _ _ hL0 _;have hJ:jd6 W:=je2 hL0;have hval:∀(j:Nat) t v,Tryz.f8.params[j]? = some t->args[j]? = some v->Value.okWide Tryz.prog W .any base t v:=hval0;have hW':=hW;obtain ⟨p,q,hA0,hV,rfl,_,_⟩:=hW;have hA:DataW.TrodAll enc Tryz.prog W 0 (λ_=>true) true Tryz.f8.params.toList args.toList ds p:=hA0;rw [Tryz.params8] at hA hval;obtain ⟨v0,d0,rfl,rfl,h0⟩:=trodAll_one hA;obtain ⟨rfl,rfl⟩:=trodVars_none hV;obtain ⟨cs0,rfl,_⟩:=okWide_struct Tryz.underlying43 (hval 0 43 v0 rfl rfl);have h0k:=h0;obtain ⟨fuel0,hf0⟩:=h0;clear hA0 hval0;simp only [JD] at hW';have hlt0:∀y∈p,y.block < W.heap.size:=λy hy=>by simpa using hW'.lt y (by simp [hy])
 obtain ⟨s,hp0,hr0,_⟩:=jmy H enc W 0 (λ_=>true) true fuel0 _ _ hf0;have hr0:=Y8 hJ _ _ (jzS s) (qX hr0);have hlaw:=jsE rfl (jfM s hp0);refine (hlaw.2 W (λb=>b=ja2) [.agg cs0] hJ (λ_ h=>h) (λb h=>by rw [h];exact jbZ hJ) (by simp only [jF];exact ⟨_,_,rfl,hr0,rfl⟩)).mono ?_;rintro e W' ⟨v,rfl,hn0,hv⟩;have hn:=hn0.kit;simp only [rel] at hv;subst hv;exact ⟨_,rfl,_,_,_,[],_,[],hW',trodAll_mk1 (shut_bool Tryz.underlying4 true),trodAll_mk1 (jpm Tryz.laidO (by kernel_rfl) (ja7 (by kernel_rfl)) h0k hn hlt0),rfl,hn.frame _,λh=>by cases h⟩
theorem Kj:Tryz.pinned.checked.prog.funcNamed "loop.example/g00892/laws.FnExactIsValidSearch" = some 8:=by kernel_rfl
theorem jax:Tryz.pinned.checked.prog.inPlace 8=Rows.fnExactIsValidSearchRow.inPlace:=by kernel_rfl
theorem jaA:Tryz.pinned.checked.prog.unfollowed 8=true:=by kernel_rfl
theorem jaz:Tryz.pinned.checked.prog.recurses 8=true:=by kernel_rfl
theorem jay:Tryz.pinned.checked.prog.varsNamed 8=Rows.fnExactIsValidSearchRow.named:=by kernel_rfl
theorem Yg:joinedFacts Tryz.pinned.checked.prog 8 Tryz.f8 Rows.fnExactIsValidSearchSpec Rows.fnExactIsValidSearchRow=true:=by
 unfold joinedFacts;rw [Qc,Zp,jax,jaA,jaz,jay]
 kernel_rfl
theorem jaB:Rows.fnExactIsValidSearchRow.wfByText (OpenSpec.ofChange Rows.fnExactIsValidSearchSpec)=true:=by kernel_rfl
theorem jaw:false=Rows.fnExactIsValidSearchRow.goesBy Tryz.pinned.checked.prog:=by kernel_rfl
theorem Qt:Tryz.f8.isInstance Tryz.pinned.checked.prog Rows.fnExactIsValidSearchRow.origin Rows.fnExactIsValidSearchRow.targs:=ja7 (by kernel_rfl)
theorem Qu:Tryz.f8.isWrapper Tryz.pinned.checked.prog Rows.fnExactIsValidSearchRow.wrapper Rows.fnExactIsValidSearchRow.mainSum:=by unfold Func.isWrapper;first|(rw [jp (by decide +kernel)];kernel_rfl)|(rw [jq (by decide +kernel)];exact ⟨rfl,rfl⟩)
theorem FnExactIsValidSearch_holds:Rows.FnExactIsValidSearchSaid:=
 OpenClaim.holds_of_wide 8 Tryz.f8 rfl rfl rfl rfl rfl rfl rfl ⟨rfl,rfl,rfl,rfl,rfl⟩ rfl rfl rfl rfl rfl Kj Tryz.func8 Yg Qt Qu
  (λos started H enc _=>Yh os started H enc)
theorem Q5:Tryz.prog.wantsStandIn 43=false:=by kernel_rfl
theorem FnExactIsValidSearch_card:Rows.FnExactIsValidSearchCardSaid:=
 Claim7.holds_tied_plain_at .later [] [.data,.data,.data] true (true, "91072cfe497c3e58a53c556e0bd5e4bbb0a70d9d1513207670f20a727d342b04") false
  FnExactIsValidSearch_holds (λ_ h=>by cases h) jaB (λ_ h=>by cases h) fnExactIsValidSearch_row_tie rfl ⟨rfl,rfl⟩ (by kernel_rfl) rfl
  (λf fn hf hfn=>by
   obtain rfl:f=8:=Yx (Kj.symm.trans hf) |>.symm;obtain rfl:fn=Tryz.f8:=(Yx (Tryz.func8.symm.trans hfn)).symm;exact ⟨jbU,λj t ht=>by
    rw [Tryz.params8] at ht;have ht:=jsp ht;simp only [jt8,kW,jcv,jdF] at ht;rcases ht with rfl
    .exact Q5⟩)
  jaw
#print axioms FnExactIsValidSearch_card
end Go.Proofs.YtoaifmomhaneiaaGreatDoor
