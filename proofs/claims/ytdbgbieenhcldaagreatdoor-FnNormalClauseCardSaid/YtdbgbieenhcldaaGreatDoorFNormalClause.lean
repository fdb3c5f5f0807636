/- For every input the law FnNormalClause of the program returns true, and its argument reads behind the call as before. Conditions: the three tables of the library are laid as the program's text lays them. -/
import Derived.Test.YtdbgbieenhcldaaGreatDoorPe
import Derived.Test.YtdbgbieenhcldaaGreatDoorPz
namespace Go.Proofs.YtdbgbieenhcldaaGreatDoor
open Go Go.ChangeShapes Go.WideShapes Go.ChangeAt Go.RowKit Go.Deep Go.Proofs.YtdbgbieenhcldaaGreatDoor.Abs
set_option linter.unusedSimpArgs false
set_option linter.unusedVariables false
set_option maxRecDepth 100000 in
theorem KO (os:Os) (started:os.Started) (H:Type) (enc:TypeId × Value->H) :
  ReturnsInHanded {} Tryz.checked os 3 .any (λw args=>(Rows.fnNormalClauseSpec.pre enc Tryz.prog Tryz.f3 Rows.fnNormalClauseRow.domain false w args/\laidMetH Tryz.prog Rows.fnNormalClauseRow.laid w)/\sizedMet enc Tryz.prog Tryz.f3 (OpenSpec.ofChange Rows.fnNormalClauseSpec) false w args) (Rows.fnNormalClauseSpec.post enc Tryz.prog Tryz.f3 false true false false):=by
 refine returnsInHanded_of_change_and (C:=Tryz.checked) (X:=λw _=>laidMetH Tryz.prog Rows.fnNormalClauseRow.laid w) (λ_ _ _ hh h=>h.of_heap hh) Tryz.ownK started (by kernel_rfl) Tryz.func3
  (ChangeSpec.witness_at (enc:=enc) (C:=Tryz.checked) (os:=os) (X:=λw _=>laidMetH Tryz.prog Rows.fnNormalClauseRow.laid w) false (js4 os) #[.slice none 0 0] 8 rfl (by kernel_rfl) (by kernel_rfl) (by kernel_rfl) (by kernel_rfl) (by kernel_rfl) (jmF os _)) ?_
 intro W base args ds gs before hval0 hW _ _ hL0 _;have hJ:jdM W:=juC hL0;have hval:∀(j:Nat) t v,Tryz.f3.params[j]? = some t->args[j]? = some v->Value.okWide Tryz.prog W .any base t v:=hval0;have hW':=hW;obtain ⟨p,q,hA0,hV,rfl,_,_⟩:=hW;have hA:DataW.TrodAll enc Tryz.prog W 0 (λ_=>true) true Tryz.f3.params.toList args.toList ds p:=hA0;rw [Tryz.params3] at hA hval;obtain ⟨v0,d0,rfl,rfl,h0⟩:=trodAll_one hA;obtain ⟨rfl,rfl⟩:=trodVars_none hV;obtain ⟨a0,l0,c0,rfl⟩:=okWide_slice Tryz.underlying22 (hval 0 22 v0 rfl rfl);have h0k:=h0;obtain ⟨fuel0,hf0⟩:=h0;clear hA0 hval0;simp only [List.append_nil] at hW';have hlt0:∀y∈p,y.block < W.heap.size:=λy hy=>by simpa using hW'.lt y (by simp [hy])
 obtain ⟨code,hp0,hr0,_⟩:=jpZ H enc W 0 (λ_=>true) true fuel0 _ _ hf0;have hr0:=jkf hJ _ _ (juf code) (jkg hr0 rfl);have hlaw:=jwP rfl (jjW code hp0);refine (hlaw.2 W (λb=>b=QK) [.slice a0 l0 c0] hJ (λ_ h=>h) (λb h=>by rw [h];exact jsd hJ) (by simp only [jo];exact ⟨_,_,rfl,hr0,rfl⟩)).mono ?_;rintro e W' ⟨v,rfl,hn0,hv⟩;have hn:=hn0.kit;simp only [rel] at hv;subst hv;exact ⟨_,rfl,_,_,_,[],_,[],hW',trodAll_mk1 (shut_bool Tryz.underlying4 true),trodAll_mk1 (Below.trod Tryz.laidO (by kernel_rfl) (of_decide_eq_true (by kernel_rfl)) h0k hn hlt0),rfl,hn.frame _,λh=>by cases h⟩
theorem Js:Tryz.pinned.checked.prog.funcNamed "loop.example/g00892/laws.FnNormalClause" = some 3:=by kernel_rfl
theorem YK:Tryz.pinned.checked.prog.inPlace 3=Rows.fnNormalClauseRow.inPlace:=by kernel_rfl
theorem YN:Tryz.pinned.checked.prog.unfollowed 3=true:=by kernel_rfl
theorem YM:Tryz.pinned.checked.prog.recurses 3=true:=by kernel_rfl
theorem YL:Tryz.pinned.checked.prog.varsNamed 3=Rows.fnNormalClauseRow.named:=by kernel_rfl
theorem KN:joinedFacts Tryz.pinned.checked.prog 3 Tryz.f3 Rows.fnNormalClauseSpec Rows.fnNormalClauseRow=true:=by
 unfold joinedFacts;rw [jp7,jnn,YK,YN,YM,YL]
 kernel_rfl
theorem YO:Rows.fnNormalClauseRow.wfByText (OpenSpec.ofChange Rows.fnNormalClauseSpec)=true:=by kernel_rfl
theorem YJ:false=Rows.fnNormalClauseRow.goesBy Tryz.pinned.checked.prog:=by kernel_rfl
theorem ZO:Tryz.f3.isInstance Tryz.pinned.checked.prog Rows.fnNormalClauseRow.origin Rows.fnNormalClauseRow.targs:=of_decide_eq_true (by kernel_rfl)
theorem ZP:Tryz.f3.isWrapper Tryz.pinned.checked.prog Rows.fnNormalClauseRow.wrapper Rows.fnNormalClauseRow.mainSum:=by unfold Func.isWrapper;first|(rw [if_pos (by decide +kernel)];kernel_rfl)|(rw [if_neg (by decide +kernel)];exact ⟨rfl,rfl⟩)
theorem FnNormalClause_holds:Rows.FnNormalClauseSaid:=
 OpenClaim.holds_of_wide 3 Tryz.f3 rfl rfl rfl rfl rfl rfl rfl ⟨rfl,rfl,rfl,rfl,rfl⟩ rfl rfl rfl rfl rfl Js Tryz.func3 KN ZO ZP
  (λos started H enc _=>KO os started H enc)
theorem Ye:Tryz.prog.wantsStandIn 22=false:=by kernel_rfl
theorem FnNormalClause_card:Rows.FnNormalClauseCardSaid:=
 Claim7.holds_tied_plain_at .later [] [.data,.data,.data] true (true, "57cd341e708128fd77470a876c26519b6d5375800ac6ee8fb692e492d614d827") false
  FnNormalClause_holds (λ_ h=>by cases h) YO (λ_ h=>by cases h) fnNormalClause_row_tie rfl ⟨rfl,rfl⟩ (by kernel_rfl) rfl
  (λf fn hf hfn=>by
   obtain rfl:f=3:=Option.some.inj (Js.symm.trans hf) |>.symm;obtain rfl:fn=Tryz.f3:=(Option.some.inj (Tryz.func3.symm.trans hfn)).symm;exact ⟨jr6,λj t ht=>by
    rw [Tryz.params3] at ht;have ht:=Array.mem_of_getElem? ht;simp only [List.mem_toArray,List.mem_cons,List.not_mem_nil,or_false] at ht;rcases ht with rfl
    ·exact Ye⟩)
  YJ
#print axioms FnNormalClause_card
end Go.Proofs.YtdbgbieenhcldaaGreatDoor
