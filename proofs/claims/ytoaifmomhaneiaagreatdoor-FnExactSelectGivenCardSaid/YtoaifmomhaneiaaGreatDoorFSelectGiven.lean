/- For every input the law FnExactSelectGiven of the program returns true, and its arguments read behind the call as before. Conditions: the three tables of the library are laid as the program's text lays them. -/
import Derived.Test.YtoaifmomhaneiaaGreatDoorPg
import Derived.Test.YtoaifmomhaneiaaGreatDoorPz
namespace Go.Proofs.YtoaifmomhaneiaaGreatDoor
open Go Go.ChangeShapes Go.WideShapes Go.ChangeAt Go.RowKit Go.Proofs.YtoaifmomhaneiaaGreatDoor.Abs
set_option linter.unusedSimpArgs false
set_option linter.unusedVariables false
set_option maxRecDepth 100000 in
theorem Qw (os:Os) (started:os.Started) (H:Type) (enc:TypeId × Value->H) :
  ReturnsInHanded {} Tryz.checked os 10 .any (λw args=>(Rows.fnExactSelectGivenSpec.pre enc Tryz.prog Tryz.f10 Rows.fnExactSelectGivenRow.domain false w args/\laidMetH Tryz.prog Rows.fnExactSelectGivenRow.laid w)/\sizedMet enc Tryz.prog Tryz.f10 (OpenSpec.ofChange Rows.fnExactSelectGivenSpec) false w args) (Rows.fnExactSelectGivenSpec.post enc Tryz.prog Tryz.f10 false true false false):=by
 refine returnsInHanded_of_change_and (C:=Tryz.checked) (X:=λw _=>laidMetH Tryz.prog Rows.fnExactSelectGivenRow.laid w) (λ_ _ _ hh h=>h.of_heap hh) Tryz.ownK started (by kernel_rfl) Tryz.func10
  (ChangeSpec.witness_at (enc:=enc) (C:=Tryz.checked) (os:=os) (X:=λw _=>laidMetH Tryz.prog Rows.fnExactSelectGivenRow.laid w) false (jhP os) #[.agg #[.slice none 0 0,.slice none 0 0,.slice none 0 0,.slice none 0 0,.bool false]] 8 rfl (by kernel_rfl) (by kernel_rfl) (by kernel_rfl) (by kernel_rfl) (by kernel_rfl) (Zf os _)) ?_
 intro W base args ds gs before hval0 hW _ _ hL0 _;have hJ:jd6 W:=je2 hL0;have hval:∀(j:Nat) t v,Tryz.f10.params[j]? = some t->args[j]? = some v->Value.okWide Tryz.prog W .any base t v:=hval0;have hW':=hW;obtain ⟨p,q,hA0,hV,rfl,_,_⟩:=hW;have hA:DataW.TrodAll enc Tryz.prog W 0 (λ_=>true) true Tryz.f10.params.toList args.toList ds p:=hA0;rw [Tryz.params10] at hA hval;obtain ⟨v0,d0,rfl,rfl,h0⟩:=trodAll_one hA;obtain ⟨rfl,rfl⟩:=trodVars_none hV;obtain ⟨cs0,rfl,_⟩:=okWide_struct Tryz.underlying43 (hval 0 43 v0 rfl rfl);have h0k:=h0;obtain ⟨fuel0,hf0⟩:=h0;clear hA0 hval0;simp only [JD] at hW';have hlt0:∀y∈p,y.block < W.heap.size:=λy hy=>by simpa using hW'.lt y (by simp [hy])
 obtain ⟨s,hp0,hr0,_⟩:=jmy H enc W 0 (λ_=>true) true fuel0 _ _ hf0;have hr0:=Y8 hJ _ _ (jzS s) (qX hr0);have hlaw:=jsE rfl (jii s hp0);refine (hlaw.2 W (λb=>b=ja2) [.agg cs0] hJ (λ_ h=>h) (λb h=>by rw [h];exact jbZ hJ) (by simp only [jF];exact ⟨_,_,rfl,hr0,rfl⟩)).mono ?_;rintro e W' ⟨v,rfl,hn0,hv⟩;have hn:=hn0.kit;simp only [rel] at hv;subst hv;exact ⟨_,rfl,_,_,_,[],_,[],hW',trodAll_mk1 (shut_bool Tryz.underlying4 true),trodAll_mk1 (jpm Tryz.laidO (by kernel_rfl) (ja7 (by kernel_rfl)) h0k hn hlt0),rfl,hn.frame _,λh=>by cases h⟩
theorem K1:Tryz.pinned.checked.prog.funcNamed "loop.example/g00892/laws.FnExactSelectGiven" = some 10:=by kernel_rfl
theorem jck:Tryz.pinned.checked.prog.inPlace 10=Rows.fnExactSelectGivenRow.inPlace:=by kernel_rfl
theorem jcn:Tryz.pinned.checked.prog.unfollowed 10=true:=by kernel_rfl
theorem jcm:Tryz.pinned.checked.prog.recurses 10=true:=by kernel_rfl
theorem jcl:Tryz.pinned.checked.prog.varsNamed 10=Rows.fnExactSelectGivenRow.named:=by kernel_rfl
theorem Qv:joinedFacts Tryz.pinned.checked.prog 10 Tryz.f10 Rows.fnExactSelectGivenSpec Rows.fnExactSelectGivenRow=true:=by
 unfold joinedFacts;rw [Qc,Zp,jck,jcn,jcm,jcl]
 kernel_rfl
theorem jco:Rows.fnExactSelectGivenRow.wfByText (OpenSpec.ofChange Rows.fnExactSelectGivenSpec)=true:=by kernel_rfl
theorem jcj:false=Rows.fnExactSelectGivenRow.goesBy Tryz.pinned.checked.prog:=by kernel_rfl
theorem jaC:Tryz.f10.isInstance Tryz.pinned.checked.prog Rows.fnExactSelectGivenRow.origin Rows.fnExactSelectGivenRow.targs:=ja7 (by kernel_rfl)
theorem jaD:Tryz.f10.isWrapper Tryz.pinned.checked.prog Rows.fnExactSelectGivenRow.wrapper Rows.fnExactSelectGivenRow.mainSum:=by unfold Func.isWrapper;first|(rw [jp (by decide +kernel)];kernel_rfl)|(rw [jq (by decide +kernel)];exact ⟨rfl,rfl⟩)
theorem FnExactSelectGiven_holds:Rows.FnExactSelectGivenSaid:=
 OpenClaim.holds_of_wide 10 Tryz.f10 rfl rfl rfl rfl rfl rfl rfl ⟨rfl,rfl,rfl,rfl,rfl⟩ rfl rfl rfl rfl rfl K1 Tryz.func10 Qv jaC jaD
  (λos started H enc _=>Qw os started H enc)
theorem jbr:Tryz.prog.wantsStandIn 43=false:=by kernel_rfl
theorem FnExactSelectGiven_card:Rows.FnExactSelectGivenCardSaid:=
 Claim7.holds_tied_plain_at .later [] [.data,.data,.data] true (true, "91072cfe497c3e58a53c556e0bd5e4bbb0a70d9d1513207670f20a727d342b04") false
  FnExactSelectGiven_holds (λ_ h=>by cases h) jco (λ_ h=>by cases h) fnExactSelectGiven_row_tie rfl ⟨rfl,rfl⟩ (by kernel_rfl) rfl
  (λf fn hf hfn=>by
   obtain rfl:f=10:=Yx (K1.symm.trans hf) |>.symm;obtain rfl:fn=Tryz.f10:=(Yx (Tryz.func10.symm.trans hfn)).symm;exact ⟨jbU,λj t ht=>by
    rw [Tryz.params10] at ht;have ht:=jsp ht;simp only [jt8,kW,jcv,jdF] at ht;rcases ht with rfl
    .exact jbr⟩)
  jcj
#print axioms FnExactSelectGiven_card
end Go.Proofs.YtoaifmomhaneiaaGreatDoor
