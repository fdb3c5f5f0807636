/- For every input the law FnExactFormatStep of the program returns true, and its arguments read behind the call as before. Conditions: the three tables of the library are laid as the program's text lays them. -/
import Derived.Test.YtmmnimiohoammaaGreatDoorPb
import Derived.Test.YtmmnimiohoammaaGreatDoorPz
namespace Go.Proofs.YtmmnimiohoammaaGreatDoor
open Go Go.ChangeShapes Go.WideShapes Go.ChangeAt Go.RowKit Go.Proofs.YtmmnimiohoammaaGreatDoor.Abs
set_option linter.unusedSimpArgs false
set_option linter.unusedVariables false
set_option maxRecDepth 100000 in
theorem yL (os:Os) (started:os.Started) (H:Type) (enc:TypeId × Value->H) :
  ReturnsInHanded {} Tryz.checked os 3 .any (λw args=>(Rows.fnExactFormatStepSpec.pre enc Tryz.prog Tryz.f3 Rows.fnExactFormatStepRow.domain false w args/\laidMetH Tryz.prog Rows.fnExactFormatStepRow.laid w)/\sizedMet enc Tryz.prog Tryz.f3 (OpenSpec.ofChange Rows.fnExactFormatStepSpec) false w args) (Rows.fnExactFormatStepSpec.post enc Tryz.prog Tryz.f3 false true false false):=by
 refine returnsInHanded_of_change_and (C:=Tryz.checked) (X:=λw _=>laidMetH Tryz.prog Rows.fnExactFormatStepRow.laid w) (λ_ _ _ hh h=>h.of_heap hh) Tryz.ownK started (by kernel_rfl) Tryz.func3
  (ChangeSpec.witness_at (enc:=enc) (C:=Tryz.checked) (os:=os) (X:=λw _=>laidMetH Tryz.prog Rows.fnExactFormatStepRow.laid w) false (jkf os) #[.agg #[.int .i64 0,.slice none 0 0,.slice none 0 0,.slice none 0 0]] 8 rfl (by kernel_rfl) (by kernel_rfl) (by kernel_rfl) (by kernel_rfl) (by kernel_rfl) (jfv os _)) ?_
 intro W base args ds gs before hval0 hW _ _ hL0 _;have hJ:Qz W:=jlv hL0;have hval:∀(j:Nat) t v,Tryz.f3.params[j]? = some t->args[j]? = some v->Value.okWide Tryz.prog W .any base t v:=hval0;have hW':=hW;obtain ⟨p,q,hA0,hV,rfl,_,_⟩:=hW;have hA:DataW.TrodAll enc Tryz.prog W 0 (λ_=>true) true Tryz.f3.params.toList args.toList ds p:=hA0;rw [Tryz.params3] at hA hval;obtain ⟨v0,d0,rfl,rfl,h0⟩:=trodAll_one hA;obtain ⟨rfl,rfl⟩:=trodVars_none hV;obtain ⟨cs0,rfl,_⟩:=okWide_struct Tryz.underlying27 (hval 0 27 v0 rfl rfl);have h0k:=h0;obtain ⟨fuel0,hf0⟩:=h0;clear hA0 hval0;simp only [List.append_nil] at hW';have hlt0:∀y∈p,y.block < W.heap.size:=λy hy=>by simpa using hW'.lt y (by simp [hy])
 obtain ⟨s,hp0,hr0,_⟩:=jja H enc W 0 (λ_=>true) true fuel0 _ _ hf0;have hr0:=jdQ hJ _ _ (jk5 s) (Kg hr0);have hlaw:=jm8 rfl (YK s hp0);refine (hlaw.2 W (λb=>b=KY) [.agg cs0] hJ (λ_ h=>h) (λb h=>by rw [h];exact jjx hJ) (by simp only [jf];exact ⟨_,_,rfl,hr0,rfl⟩)).mono ?_;rintro e W' ⟨v,rfl,hn0,hv⟩;have hn:=hn0.kit;simp only [rel] at hv;subst hv;exact ⟨_,rfl,_,_,_,[],_,[],hW',trodAll_mk1 (shut_bool Tryz.underlying4 true),trodAll_mk1 (Below.trod Tryz.laidO (by kernel_rfl) (of_decide_eq_true (by kernel_rfl)) h0k hn hlt0),rfl,hn.frame _,λh=>by cases h⟩
theorem zB:Tryz.pinned.checked.prog.funcNamed "loop.example/g00892/laws.FnExactFormatStep" = some 3:=by kernel_rfl
theorem qE:Tryz.pinned.checked.prog.inPlace 3=Rows.fnExactFormatStepRow.inPlace:=by kernel_rfl
theorem qH:Tryz.pinned.checked.prog.unfollowed 3=true:=by kernel_rfl
theorem qG:Tryz.pinned.checked.prog.recurses 3=true:=by kernel_rfl
theorem qF:Tryz.pinned.checked.prog.varsNamed 3=Rows.fnExactFormatStepRow.named:=by kernel_rfl
theorem yK:joinedFacts Tryz.pinned.checked.prog 3 Tryz.f3 Rows.fnExactFormatStepSpec Rows.fnExactFormatStepRow=true:=by
 unfold joinedFacts;rw [jhU,jf9,qE,qH,qG,qF]
 kernel_rfl
theorem qI:Rows.fnExactFormatStepRow.wfByText (OpenSpec.ofChange Rows.fnExactFormatStepSpec)=true:=by kernel_rfl
theorem qD:false=Rows.fnExactFormatStepRow.goesBy Tryz.pinned.checked.prog:=by kernel_rfl
theorem qb:Tryz.f3.isInstance Tryz.pinned.checked.prog Rows.fnExactFormatStepRow.origin Rows.fnExactFormatStepRow.targs:=of_decide_eq_true (by kernel_rfl)
theorem qc:Tryz.f3.isWrapper Tryz.pinned.checked.prog Rows.fnExactFormatStepRow.wrapper Rows.fnExactFormatStepRow.mainSum:=by unfold Func.isWrapper;first|(rw [if_pos (by decide +kernel)];kernel_rfl)|(rw [if_neg (by decide +kernel)];exact ⟨rfl,rfl⟩)
theorem FnExactFormatStep_holds:Rows.FnExactFormatStepSaid:=
 OpenClaim.holds_of_wide 3 Tryz.f3 rfl rfl rfl rfl rfl rfl rfl ⟨rfl,rfl,rfl,rfl,rfl⟩ rfl rfl rfl rfl rfl zB Tryz.func3 yK qb qc
  (λos started H enc _=>yL os started H enc)
theorem qA:Tryz.prog.wantsStandIn 27=false:=by kernel_rfl
theorem FnExactFormatStep_card:Rows.FnExactFormatStepCardSaid:=
 Claim7.holds_tied_plain_at .later [] [.data,.data,.data] true (true, "76d87b0ebaba926075522b0af05601c523290315fdcc3538b35b298de8af9d2e") false
  FnExactFormatStep_holds (λ_ h=>by cases h) qI (λ_ h=>by cases h) fnExactFormatStep_row_tie rfl ⟨rfl,rfl⟩ (by kernel_rfl) rfl
  (λf fn hf hfn=>by
   obtain rfl:f=3:=Option.some.inj (zB.symm.trans hf) |>.symm;obtain rfl:fn=Tryz.f3:=(Option.some.inj (Tryz.func3.symm.trans hfn)).symm;exact ⟨jjm,λj t ht=>by
    rw [Tryz.params3] at ht;have ht:=Array.mem_of_getElem? ht;simp only [List.mem_toArray,List.mem_cons,List.not_mem_nil,or_false] at ht;rcases ht with rfl
    .exact qA⟩)
  qD
#print axioms FnExactFormatStep_card
end Go.Proofs.YtmmnimiohoammaaGreatDoor
