/- For every input the law FnClauseText of the program returns true, and its argument reads behind the call as before. Conditions: the two tables of the library are laid as the program's text lays them. -/
import Derived.Test.YteoaojbmnibpcaaGreatDoorPd
import Derived.Test.YteoaojbmnibpcaaGreatDoorPz
namespace Go.Proofs.YteoaojbmnibpcaaGreatDoor
open Go Go.ChangeShapes Go.WideShapes Go.ChangeAt Go.RowKit Go.Deep Go.Proofs.YteoaojbmnibpcaaGreatDoor.Abs
set_option linter.unusedSimpArgs false
set_option linter.unusedVariables false
set_option maxRecDepth 100000 in
theorem ZP(os:Os)(started:os.Started)(H:Type)(enc:TypeId×Value->H) :
  ReturnsInHanded {} Tryz.checked os 3 .any (λw args=>(Rows.fnClauseTextSpec.pre enc Tryz.prog Tryz.f3 Rows.fnClauseTextRow.domain false w args/\laidMetH Tryz.prog Rows.fnClauseTextRow.laid w)/\sizedMet enc Tryz.prog Tryz.f3 (OpenSpec.ofChange Rows.fnClauseTextSpec) false w args) (Rows.fnClauseTextSpec.post enc Tryz.prog Tryz.f3 false true false false):=by
 refine jgr (C:=Tryz.checked) (X:=λw _=>laidMetH Tryz.prog Rows.fnClauseTextRow.laid w) (λ_ _ _ hh h=>h.of_heap hh) Tryz.ownK started (by kernel_rfl) Tryz.func3
  (ChangeSpec.witness_at (enc:=enc) (C:=Tryz.checked) (os:=os) (X:=λw _=>laidMetH Tryz.prog Rows.fnClauseTextRow.laid w) false (jqG os) #[.slice none 0 0] 8 rfl (by kernel_rfl) (by kernel_rfl) (by kernel_rfl) (by kernel_rfl) (by kernel_rfl) (jkZ os _)) ?_
 intro W base args ds gs before hval0 hW _ _ hL0 hSh _;have hJ:jeT W:=jsc hL0 hSh;have hval:∀(j:Nat) t v,Tryz.f3.params[j]? = some t->args[j]? = some v->Value.okWide Tryz.prog W .any base t v:=hval0;have hW':=hW;obtain⟨p,q,hA0,hV,rfl,_,_⟩:=hW;have hA:DataW.TrodAll enc Tryz.prog W 0 (λ_=>true) true Tryz.f3.params.toList args.toList ds p:=hA0;rw[Tryz.params3]at hA hval;obtain⟨v0,d0,rfl,rfl,h0⟩:=trodAll_one hA;obtain⟨rfl,rfl⟩:=trodVars_none hV;obtain⟨a0,l0,c0,rfl⟩:=okWide_slice Tryz.underlying22 (hval 0 22 v0 rfl rfl);have h0k:=h0;obtain⟨fuel0,hf0⟩:=h0;clear hA0 hval0;simp only[List.append_nil]at hW';have hlt0:∀y∈p,y.block<W.heap.size:=λy hy=>by simpa using hW'.lt y (by simp[hy])
 obtain⟨code,hp0,hr0,_⟩:=jnT H enc W 0 (λ_=>true) true fuel0 _ _ hf0;have hr0:=jiQ hJ _ _ (jrL code) (jiR hr0 rfl);have hlaw:=juw rfl (jcb code hp0);refine(hlaw.2 W (λb=>b=KH) [.slice a0 l0 c0] hJ (λ_ h=>h) (λb h=>by rw[h];exact jp0 hJ) (by simp only[ji];exact⟨_,_,rfl,hr0,rfl⟩)).mono ?_;rintro e W' ⟨v,rfl,hn0,hv⟩;have hn:=hn0.kit;simp only[rel]at hv;subst hv;exact⟨_,rfl,_,_,_,[],_,[],hW',trodAll_mk1 (shut_bool Tryz.underlying4 true),trodAll_mk1 (Below.trod Tryz.laidO (by kernel_rfl) (of_decide_eq_true (by kernel_rfl)) h0k hn hlt0),rfl,hn.frame _,λh=>by cases h⟩
theorem Kz:Tryz.pinned.checked.prog.funcNamed "loop.example/g00892/laws.FnClauseText" = some 3:=by kernel_rfl
theorem jaF:Tryz.pinned.checked.prog.inPlace 3=Rows.fnClauseTextRow.inPlace:=by kernel_rfl
theorem jaI:Tryz.pinned.checked.prog.unfollowed 3=true:=by kernel_rfl
theorem jaH:Tryz.pinned.checked.prog.recurses 3=true:=by kernel_rfl
theorem jaG:Tryz.pinned.checked.prog.varsNamed 3=Rows.fnClauseTextRow.named:=by kernel_rfl
theorem ZO:joinedFacts Tryz.pinned.checked.prog 3 Tryz.f3 Rows.fnClauseTextSpec Rows.fnClauseTextRow=true:=by
 unfold joinedFacts;rw[jn1,jlF,jaF,jaI,jaH,jaG]
 kernel_rfl
theorem jaJ:Rows.fnClauseTextRow.wfByText (OpenSpec.ofChange Rows.fnClauseTextSpec)=true:=by kernel_rfl
theorem jaE:false=Rows.fnClauseTextRow.goesBy Tryz.pinned.checked.prog:=by kernel_rfl
theorem YA:Tryz.f3.isInstance Tryz.pinned.checked.prog Rows.fnClauseTextRow.origin Rows.fnClauseTextRow.targs:=of_decide_eq_true (by kernel_rfl)
theorem YB:Tryz.f3.isWrapper Tryz.pinned.checked.prog Rows.fnClauseTextRow.wrapper Rows.fnClauseTextRow.mainSum:=by unfold Func.isWrapper;first|(rw[if_pos (by decide +kernel)];kernel_rfl)|(rw[if_neg (by decide +kernel)];exact⟨rfl,rfl⟩)
theorem FnClauseText_holds:Rows.FnClauseTextSaid:=
 OpenClaim.holds_of_wide 3 Tryz.f3 rfl rfl rfl rfl rfl rfl rfl ⟨rfl,rfl,rfl,rfl,rfl⟩ rfl rfl rfl rfl rfl Kz Tryz.func3 ZO YA YB
  (λos started H enc _=>ZP os started H enc)
theorem Qy:Tryz.prog.wantsStandIn 22=false:=by kernel_rfl
theorem FnClauseText_card:Rows.FnClauseTextCardSaid:=
 Claim7.holds_tied_plain_at .later [] [.data,.pinned] true (true, "51feaae12d59623d5eec27fe27d7207a50b471db07b0fc2f63609d7213aa6edd") true
  FnClauseText_holds (λ_ h=>by cases h) jaJ (λ_ h=>by cases h) fnClauseText_row_tie rfl ⟨rfl,rfl⟩ (by kernel_rfl) rfl
  (λf fn hf hfn=>by
   obtain rfl:f=3:=Option.some.inj (Kz.symm.trans hf) |>.symm;obtain rfl:fn=Tryz.f3:=(Option.some.inj (Tryz.func3.symm.trans hfn)).symm;exact⟨jpU,λj t ht=>by
    rw[Tryz.params3]at ht;have ht:=Array.mem_of_getElem? ht;simp only[List.mem_toArray,List.mem_cons,List.not_mem_nil,or_false]at ht;rcases ht with rfl
    .exact Qy⟩)
  jaE
#print axioms FnClauseText_card
end Go.Proofs.YteoaojbmnibpcaaGreatDoor
