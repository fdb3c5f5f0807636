/- For every input the law FnExactIsRedundant of the program returns true, and its arguments read behind the call as before. Conditions: the three tables of the library are laid as the program's text lays them. -/
import Derived.Test.YtbidbdhamhbebaaGreatDoorPg
import Derived.Test.YtbidbdhamhbebaaGreatDoorPz
namespace Go.Proofs.YtbidbdhamhbebaaGreatDoor
open Go Go.ChangeShapes Go.WideShapes Go.ChangeAt Go.RowKit Go.Proofs.YtbidbdhamhbebaaGreatDoor.Abs
set_option linter.unusedSimpArgs false
set_option linter.unusedVariables false
theorem jHe (c:kR):nu (cm c)=true:=by
 simp only [nu,nuL,jnQ c];rfl
set_option maxRecDepth 100000 in
theorem Qp (os:Os) (started:os.Started) (H:Type) (enc:TypeId × Value->H) :
  ReturnsInHanded {} Tryz.checked os 3 .any (λw args=>(Rows.fnExactIsRedundantSpec.pre enc Tryz.prog Tryz.f3 Rows.fnExactIsRedundantRow.domain false w args/\laidMetH Tryz.prog Rows.fnExactIsRedundantRow.laid w)/\sizedMet enc Tryz.prog Tryz.f3 (OpenSpec.ofChange Rows.fnExactIsRedundantSpec) false w args) (Rows.fnExactIsRedundantSpec.post enc Tryz.prog Tryz.f3 false true false false):=by
 refine returnsInHanded_of_change_and (C:=Tryz.checked) (X:=λw _=>laidMetH Tryz.prog Rows.fnExactIsRedundantRow.laid w) (λ_ _ _ hh h=>h.of_heap hh) Tryz.ownK started (by kernel_rfl) Tryz.func3
  (ChangeSpec.witness_at (enc:=enc) (C:=Tryz.checked) (os:=os) (X:=λw _=>laidMetH Tryz.prog Rows.fnExactIsRedundantRow.laid w) false (jDZ os) #[.agg #[.slice none 0 0,.slice none 0 0,.slice none 0 0,.slice none 0 0,.bool false],.agg #[.slice none 0 0]] 8 rfl (by kernel_rfl) (by kernel_rfl) (by kernel_rfl) (by kernel_rfl) (by kernel_rfl) (jvI os _)) ?_
 intro W base args ds gs before hval0 hW _ _ hL0 _;have hJ:jks W:=jFY hL0;have hval:∀(j:Nat) t v,Tryz.f3.params[j]? = some t->args[j]? = some v->Value.okWide Tryz.prog W .any base t v:=hval0;have hW':=hW;obtain ⟨p,q,hA0,hV,rfl,_,_⟩:=hW;have hA:DataW.TrodAll enc Tryz.prog W 0 (λ_=>true) true Tryz.f3.params.toList args.toList ds p:=hA0;rw [Tryz.params3] at hA hval;obtain ⟨v0,v1,d0,d1,p0,p1,rfl,rfl,rfl,h0,h1⟩:=trodAll_two hA;obtain ⟨rfl,rfl⟩:=trodVars_none hV;obtain ⟨cs0,rfl,_⟩:=okWide_struct Tryz.underlying28 (hval 0 28 v0 rfl rfl);obtain ⟨cs1,rfl,_⟩:=okWide_struct Tryz.underlying31 (hval 1 31 v1 rfl rfl);have h0k:=h0;obtain ⟨fuel0,hf0⟩:=h0;have h1k:=h1;obtain ⟨fuel1,hf1⟩:=h1;clear hA0 hval0;simp only [y8] at hW';have hlt0:∀y∈p0,y.block < W.heap.size:=λy hy=>by simpa using hW'.lt y (by simp [hy])
 have hlt1:∀y∈p1,y.block < W.heap.size:=λy hy=>by simpa using hW'.lt y (by simp [hy])
 obtain ⟨s,hp0,hr0,_⟩:=jwk H enc W 0 (λ_=>true) true fuel0 _ _ hf0;have hr0:=jn4 hJ _ _ (jFz s) (jaY hr0);obtain ⟨c,hp1,hr1,_⟩:=jgb H enc W 0 (λ_=>true) true fuel1 _ _ hf1;have hr1:=jn4 hJ _ _ (jHe c) (jaY hr1);have hlaw:=jH4 rfl (jhl s c hp0 hp1);refine (hlaw.2 W (λb=>b=jfb) [.agg cs0,.agg cs1] hJ (λ_ h=>h) (λb h=>by rw [h];exact jC2 hJ) (by simp only [jG];exact ⟨_,_,rfl,hr0,_,_,rfl,hr1,rfl⟩)).mono ?_;rintro e W' ⟨v,rfl,hn0,hv⟩;have hn:=hn0.kit;simp only [rel] at hv;subst hv;exact ⟨_,rfl,_,_,_,[],_,[],hW',trodAll_mk1 (shut_bool Tryz.underlying4 true),trodAll_mk2 (Below.trod Tryz.laidO (by kernel_rfl) (jhd (by kernel_rfl)) h0k hn hlt0) (Below.trod Tryz.laidO (by kernel_rfl) (jhd (by kernel_rfl)) h1k hn hlt1),rfl,hn.frame _,λh=>by cases h⟩
theorem Zb:Tryz.pinned.checked.prog.funcNamed "loop.example/g00892/laws.FnExactIsRedundant" = some 3:=by kernel_rfl
theorem jbs:Tryz.pinned.checked.prog.inPlace 3=Rows.fnExactIsRedundantRow.inPlace:=by kernel_rfl
theorem jbv:Tryz.pinned.checked.prog.unfollowed 3=true:=by kernel_rfl
theorem jbu:Tryz.pinned.checked.prog.recurses 3=true:=by kernel_rfl
theorem jbt:Tryz.pinned.checked.prog.varsNamed 3=Rows.fnExactIsRedundantRow.named:=by kernel_rfl
theorem Qo:joinedFacts Tryz.pinned.checked.prog 3 Tryz.f3 Rows.fnExactIsRedundantSpec Rows.fnExactIsRedundantRow=true:=by
 unfold joinedFacts;rw [jAs,jww,jbs,jbv,jbu,jbt]
 kernel_rfl
theorem jbw:Rows.fnExactIsRedundantRow.wfByText (OpenSpec.ofChange Rows.fnExactIsRedundantSpec)=true:=by kernel_rfl
theorem jbr:false=Rows.fnExactIsRedundantRow.goesBy Tryz.pinned.checked.prog:=by kernel_rfl
theorem Q5:Tryz.f3.isInstance Tryz.pinned.checked.prog Rows.fnExactIsRedundantRow.origin Rows.fnExactIsRedundantRow.targs:=jhd (by kernel_rfl)
theorem Q6:Tryz.f3.isWrapper Tryz.pinned.checked.prog Rows.fnExactIsRedundantRow.wrapper Rows.fnExactIsRedundantRow.mainSum:=by unfold Func.isWrapper;first|(rw [jl (by decide +kernel)];kernel_rfl)|(rw [jo (by decide +kernel)];exact ⟨rfl,rfl⟩)
theorem FnExactIsRedundant_holds:Rows.FnExactIsRedundantSaid:=
 OpenClaim.holds_of_wide 3 Tryz.f3 rfl rfl rfl rfl rfl rfl rfl ⟨rfl,rfl,rfl,rfl,rfl⟩ rfl rfl rfl rfl rfl Zb Tryz.func3 Qo Q5 Q6
  (λos started H enc _=>Qp os started H enc)
theorem jay:Tryz.prog.wantsStandIn 28=false:=by kernel_rfl
theorem jaz:Tryz.prog.wantsStandIn 31=false:=by kernel_rfl
theorem FnExactIsRedundant_card:Rows.FnExactIsRedundantCardSaid:=
 Claim7.holds_tied_plain_at .later [] [.data,.data,.data] true (true, "a6e4739e4d55fa2c7f81028fd87dd8db6c0b9db8ee1941fe55aba316674ab4b5") false
  FnExactIsRedundant_holds (λ_ h=>by cases h) jbw (λ_ h=>by cases h) fnExactIsRedundant_row_tie rfl ⟨rfl,rfl⟩ (by kernel_rfl) rfl
  (λf fn hf hfn=>by
   obtain rfl:f=3:=ZE (Zb.symm.trans hf) |>.symm;obtain rfl:fn=Tryz.f3:=(ZE (Tryz.func3.symm.trans hfn)).symm;exact ⟨jCR,λj t ht=>by
    rw [Tryz.params3] at ht;have ht:=Array.mem_of_getElem? ht;simp only [List.mem_toArray,j7,jbn,or_false] at ht;rcases ht with rfl|rfl
    .exact jay
    .exact jaz⟩)
  jbr
#print axioms FnExactIsRedundant_card
end Go.Proofs.YtbidbdhamhbebaaGreatDoor
