/- For every input the law FnExactIsCorrectStep of the program returns true, and its arguments read behind the call as before. Conditions: the three tables of the library are laid as the program's text lays them. -/
import Derived.Test.YtoaifmomhaneiaaGreatDoorPf
import Derived.Test.YtoaifmomhaneiaaGreatDoorPz
namespace Go.Proofs.YtoaifmomhaneiaaGreatDoor
open Go Go.ChangeShapes Go.WideShapes Go.ChangeAt Go.RowKit Go.Proofs.YtoaifmomhaneiaaGreatDoor.Abs
set_option linter.unusedSimpArgs false
set_option linter.unusedVariables false
set_option maxRecDepth 100000 in
theorem Yf (os:Os) (started:os.Started) (H:Type) (enc:TypeId × Value->H) :
  ReturnsInHanded {} Tryz.checked os 3 .any (λw args=>(Rows.fnExactIsCorrectStepSpec.pre enc Tryz.prog Tryz.f3 Rows.fnExactIsCorrectStepRow.domain false w args/\laidMetH Tryz.prog Rows.fnExactIsCorrectStepRow.laid w)/\sizedMet enc Tryz.prog Tryz.f3 (OpenSpec.ofChange Rows.fnExactIsCorrectStepSpec) false w args) (Rows.fnExactIsCorrectStepSpec.post enc Tryz.prog Tryz.f3 false true false false):=by
 refine returnsInHanded_of_change_and (C:=Tryz.checked) (X:=λw _=>laidMetH Tryz.prog Rows.fnExactIsCorrectStepRow.laid w) (λ_ _ _ hh h=>h.of_heap hh) Tryz.ownK started (by kernel_rfl) Tryz.func3
  (ChangeSpec.witness_at (enc:=enc) (C:=Tryz.checked) (os:=os) (X:=λw _=>laidMetH Tryz.prog Rows.fnExactIsCorrectStepRow.laid w) false (jhP os) #[.agg #[.slice none 0 0,.slice none 0 0],.int .i64 0] 8 rfl (by kernel_rfl) (by kernel_rfl) (by kernel_rfl) (by kernel_rfl) (by kernel_rfl) (Zf os _)) ?_
 intro W base args ds gs before hval0 hW _ _ hL0 _;have hJ:jd6 W:=je2 hL0;have hval:∀(j:Nat) t v,Tryz.f3.params[j]? = some t->args[j]? = some v->Value.okWide Tryz.prog W .any base t v:=hval0;have hW':=hW;obtain ⟨p,q,hA0,hV,rfl,_,_⟩:=hW;have hA:DataW.TrodAll enc Tryz.prog W 0 (λ_=>true) true Tryz.f3.params.toList args.toList ds p:=hA0;rw [Tryz.params3] at hA hval;obtain ⟨v0,v1,d0,d1,p0,p1,rfl,rfl,rfl,h0,h1⟩:=trodAll_two hA;obtain ⟨rfl,rfl⟩:=trodVars_none hV;obtain ⟨cs0,rfl,_⟩:=okWide_struct Tryz.underlying25 (hval 0 25 v0 rfl rfl);obtain ⟨n1,rfl⟩:=okWide_int Tryz.underlying3 (hval 1 3 v1 rfl rfl);have h0k:=h0;obtain ⟨fuel0,hf0⟩:=h0;have h1k:=h1;obtain ⟨fuel1,hf1⟩:=h1;clear hA0 hval0;simp only [JD] at hW';have hlt0:∀y∈p0,y.block < W.heap.size:=λy hy=>by simpa using hW'.lt y (by simp [hy])
 have hlt1:∀y∈p1,y.block < W.heap.size:=λy hy=>by simpa using hW'.lt y (by simp [hy])
 obtain ⟨p,hp0,hr0,_⟩:=jaY H enc W 0 (λ_=>true) true fuel0 _ _ hf0;have hr0:=Y8 hJ _ _ (jj9 p) (qX hr0);obtain ⟨i,hp1,hr1,_⟩:=jo0 H enc W 0 (λ_=>true) true fuel1 _ _ hf1;have hr1:=Y8 hJ _ _ (rfl) (jkz hr1 rfl);have hlaw:=jsE rfl (jfL p i hp0);refine (hlaw.2 W (λb=>b=ja2) [.agg cs0,.int .i64 n1] hJ (λ_ h=>h) (λb h=>by rw [h];exact jbZ hJ) (by simp only [jF];exact ⟨_,_,rfl,hr0,_,_,rfl,hr1,rfl⟩)).mono ?_;rintro e W' ⟨v,rfl,hn0,hv⟩;have hn:=hn0.kit;simp only [rel] at hv;subst hv;exact ⟨_,rfl,_,_,_,[],_,[],hW',trodAll_mk1 (shut_bool Tryz.underlying4 true),trodAll_mk2 (jpm Tryz.laidO (by kernel_rfl) (ja7 (by kernel_rfl)) h0k hn hlt0) (jpm Tryz.laidO (by kernel_rfl) (ja7 (by kernel_rfl)) h1k hn hlt1),rfl,hn.frame _,λh=>by cases h⟩
theorem Ki:Tryz.pinned.checked.prog.funcNamed "loop.example/g00892/laws.FnExactIsCorrectStep" = some 3:=by kernel_rfl
theorem jap:Tryz.pinned.checked.prog.inPlace 3=Rows.fnExactIsCorrectStepRow.inPlace:=by kernel_rfl
theorem jas:Tryz.pinned.checked.prog.unfollowed 3=true:=by kernel_rfl
theorem jar:Tryz.pinned.checked.prog.recurses 3=true:=by kernel_rfl
theorem jaq:Tryz.pinned.checked.prog.varsNamed 3=Rows.fnExactIsCorrectStepRow.named:=by kernel_rfl
theorem Ye:joinedFacts Tryz.pinned.checked.prog 3 Tryz.f3 Rows.fnExactIsCorrectStepSpec Rows.fnExactIsCorrectStepRow=true:=by
 unfold joinedFacts;rw [Qc,Zp,jap,jas,jar,jaq]
 kernel_rfl
theorem jat:Rows.fnExactIsCorrectStepRow.wfByText (OpenSpec.ofChange Rows.fnExactIsCorrectStepSpec)=true:=by kernel_rfl
theorem jao:false=Rows.fnExactIsCorrectStepRow.goesBy Tryz.pinned.checked.prog:=by kernel_rfl
theorem Qr:Tryz.f3.isInstance Tryz.pinned.checked.prog Rows.fnExactIsCorrectStepRow.origin Rows.fnExactIsCorrectStepRow.targs:=ja7 (by kernel_rfl)
theorem Qs:Tryz.f3.isWrapper Tryz.pinned.checked.prog Rows.fnExactIsCorrectStepRow.wrapper Rows.fnExactIsCorrectStepRow.mainSum:=by unfold Func.isWrapper;first|(rw [jp (by decide +kernel)];kernel_rfl)|(rw [jq (by decide +kernel)];exact ⟨rfl,rfl⟩)
theorem FnExactIsCorrectStep_holds:Rows.FnExactIsCorrectStepSaid:=
 OpenClaim.holds_of_wide 3 Tryz.f3 rfl rfl rfl rfl rfl rfl rfl ⟨rfl,rfl,rfl,rfl,rfl⟩ rfl rfl rfl rfl rfl Ki Tryz.func3 Ye Qr Qs
  (λos started H enc _=>Yf os started H enc)
theorem QZ:Tryz.prog.wantsStandIn 25=false:=by kernel_rfl
theorem Q0:Tryz.prog.wantsStandIn 3=false:=by kernel_rfl
theorem FnExactIsCorrectStep_card:Rows.FnExactIsCorrectStepCardSaid:=
 Claim7.holds_tied_plain_at .later [] [.data,.data,.data] true (true, "91072cfe497c3e58a53c556e0bd5e4bbb0a70d9d1513207670f20a727d342b04") false
  FnExactIsCorrectStep_holds (λ_ h=>by cases h) jat (λ_ h=>by cases h) fnExactIsCorrectStep_row_tie rfl ⟨rfl,rfl⟩ (by kernel_rfl) rfl
  (λf fn hf hfn=>by
   obtain rfl:f=3:=Yx (Ki.symm.trans hf) |>.symm;obtain rfl:fn=Tryz.f3:=(Yx (Tryz.func3.symm.trans hfn)).symm;exact ⟨jbU,λj t ht=>by
    rw [Tryz.params3] at ht;have ht:=jsp ht;simp only [jt8,kW,jcv,jdF] at ht;rcases ht with rfl|rfl
    .exact QZ
    .exact Q0⟩)
  jao
#print axioms FnExactIsCorrectStep_card
end Go.Proofs.YtoaifmomhaneiaaGreatDoor
