/- For every input the law FnHyper of the program returns true, and its argument reads behind the call as before. Conditions: the three tables of the library are laid as the program's text lays them. -/
import Derived.Test.YtdbgbieenhcldaaGreatDoorPf
import Derived.Test.YtdbgbieenhcldaaGreatDoorPz
namespace Go.Proofs.YtdbgbieenhcldaaGreatDoor
open Go Go.ChangeShapes Go.WideShapes Go.ChangeAt Go.RowKit Go.Deep Go.Proofs.YtdbgbieenhcldaaGreatDoor.Abs
set_option linter.unusedSimpArgs false
set_option linter.unusedVariables false
set_option maxRecDepth 100000 in
theorem jnL (os:Os) (started:os.Started) (H:Type) (enc:TypeId × Value->H) :
  ReturnsInHanded {} Tryz.checked os 5 .any (λw args=>(Rows.fnHyperSpec.pre enc Tryz.prog Tryz.f5 Rows.fnHyperRow.domain false w args/\laidMetH Tryz.prog Rows.fnHyperRow.laid w)/\sizedMet enc Tryz.prog Tryz.f5 (OpenSpec.ofChange Rows.fnHyperSpec) false w args) (Rows.fnHyperSpec.post enc Tryz.prog Tryz.f5 false true false false):=by
 refine returnsInHanded_of_change_and (C:=Tryz.checked) (X:=λw _=>laidMetH Tryz.prog Rows.fnHyperRow.laid w) (λ_ _ _ hh h=>h.of_heap hh) Tryz.ownK started (by kernel_rfl) Tryz.func5
  (ChangeSpec.witness_at (enc:=enc) (C:=Tryz.checked) (os:=os) (X:=λw _=>laidMetH Tryz.prog Rows.fnHyperRow.laid w) false (ju5 os) #[.slice none 0 0] 8 rfl (by kernel_rfl) (by kernel_rfl) (by kernel_rfl) (by kernel_rfl) (by kernel_rfl) (jnR os _)) ?_
 intro W base args ds gs before hval0 hW _ _ hL0 _;have hJ:jeR W:=jwF hL0;have hval:∀(j:Nat) t v,Tryz.f5.params[j]? = some t->args[j]? = some v->Value.okWide Tryz.prog W .any base t v:=hval0;have hW':=hW;obtain ⟨p,q,hA0,hV,rfl,_,_⟩:=hW;have hA:DataW.TrodAll enc Tryz.prog W 0 (λ_=>true) true Tryz.f5.params.toList args.toList ds p:=hA0;rw [Tryz.params5] at hA hval;obtain ⟨v0,d0,rfl,rfl,h0⟩:=trodAll_one hA;obtain ⟨rfl,rfl⟩:=trodVars_none hV;obtain ⟨a0,l0,c0,rfl⟩:=okWide_slice Tryz.underlying22 (hval 0 22 v0 rfl rfl);have h0k:=h0;obtain ⟨fuel0,hf0⟩:=h0;clear hA0 hval0;simp only [List.append_nil] at hW';have hlt0:∀y∈p,y.block < W.heap.size:=λy hy=>by simpa using hW'.lt y (by simp [hy])
 obtain ⟨code,hp0,hr0,_⟩:=jrs H enc W 0 (λ_=>true) true fuel0 _ _ hf0;have hr0:=jll hJ _ _ (jwh code) (jlm hr0 rfl);have hlaw:=jyR rfl (jA8 code hp0);refine (hlaw.2 W (λb=>b=jaO) [.slice a0 l0 c0] hJ (λ_ h=>h) (λb h=>by rw [h];exact jtW hJ) (by simp only [jw];exact ⟨_,_,rfl,hr0,rfl⟩)).mono ?_;rintro e W' ⟨v,rfl,hn0,hv⟩;have hn:=hn0.kit;simp only [rel] at hv;subst hv;exact ⟨_,rfl,_,_,_,[],_,[],hW',trodAll_mk1 (shut_bool Tryz.underlying4 true),trodAll_mk1 (Below.trod Tryz.laidO (by kernel_rfl) (of_decide_eq_true (by kernel_rfl)) h0k hn hlt0),rfl,hn.frame _,λh=>by cases h⟩
theorem jno:Tryz.pinned.checked.prog.funcNamed "loop.example/g00892/laws.FnHyper" = some 5:=by kernel_rfl
theorem jyz:Tryz.pinned.checked.prog.inPlace 5=Rows.fnHyperRow.inPlace:=by kernel_rfl
theorem jyC:Tryz.pinned.checked.prog.unfollowed 5=true:=by kernel_rfl
theorem jyB:Tryz.pinned.checked.prog.recurses 5=true:=by kernel_rfl
theorem jyA:Tryz.pinned.checked.prog.varsNamed 5=Rows.fnHyperRow.named:=by kernel_rfl
theorem jnl:joinedFacts Tryz.pinned.checked.prog 5 Tryz.f5 Rows.fnHyperSpec Rows.fnHyperRow=true:=by
 unfold joinedFacts;rw [jrA,jou,jyz,jyC,jyB,jyA]
 kernel_rfl
theorem jyD:Rows.fnHyperRow.wfByText (OpenSpec.ofChange Rows.fnHyperSpec)=true:=by kernel_rfl
theorem jyx:false=Rows.fnHyperRow.goesBy Tryz.pinned.checked.prog:=by kernel_rfl
theorem jr9:Tryz.f5.isInstance Tryz.pinned.checked.prog Rows.fnHyperRow.origin Rows.fnHyperRow.targs:=of_decide_eq_true (by kernel_rfl)
theorem jsa:Tryz.f5.isWrapper Tryz.pinned.checked.prog Rows.fnHyperRow.wrapper Rows.fnHyperRow.mainSum:=by unfold Func.isWrapper;first|(rw [if_pos (by decide +kernel)];kernel_rfl)|(rw [if_neg (by decide +kernel)];exact ⟨rfl,rfl⟩)
theorem FnHyper_holds:Rows.FnHyperSaid:=
 OpenClaim.holds_of_wide 5 Tryz.f5 rfl rfl rfl rfl rfl rfl rfl ⟨rfl,rfl,rfl,rfl,rfl⟩ rfl rfl rfl rfl rfl jno Tryz.func5 jnl jr9 jsa
  (λos started H enc _=>jnL os started H enc)
theorem jvV:Tryz.prog.wantsStandIn 22=false:=by kernel_rfl
theorem FnHyper_card:Rows.FnHyperCardSaid:=
 Claim7.holds_tied_plain_at .later [] [.data,.data,.data] true (true, "57cd341e708128fd77470a876c26519b6d5375800ac6ee8fb692e492d614d827") false
  FnHyper_holds (λ_ h=>by cases h) jyD (λ_ h=>by cases h) fnHyper_row_tie rfl ⟨rfl,rfl⟩ (by kernel_rfl) rfl
  (λf fn hf hfn=>by
   obtain rfl:f=5:=Option.some.inj (jno.symm.trans hf) |>.symm;obtain rfl:fn=Tryz.f5:=(Option.some.inj (Tryz.func5.symm.trans hfn)).symm;exact ⟨jtP,λj t ht=>by
    rw [Tryz.params5] at ht;have ht:=Array.mem_of_getElem? ht;simp only [List.mem_toArray,List.mem_cons,List.not_mem_nil,or_false] at ht;rcases ht with rfl
    ·exact jvV⟩)
  jyx
#print axioms FnHyper_card
end Go.Proofs.YtdbgbieenhcldaaGreatDoor
