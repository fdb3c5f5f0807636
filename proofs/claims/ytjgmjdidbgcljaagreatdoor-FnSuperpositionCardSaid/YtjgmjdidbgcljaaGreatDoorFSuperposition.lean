/- For every input the law FnSuperposition of the program returns true, and its argument reads behind the call as before. Conditions: the three tables of the library are laid as the program's text lays them. -/
import Derived.Test.YtjgmjdidbgcljaaGreatDoorPf
import Derived.Test.YtjgmjdidbgcljaaGreatDoorPz
namespace Go.Proofs.YtjgmjdidbgcljaaGreatDoor
open Go Go.ChangeShapes Go.WideShapes Go.ChangeAt Go.RowKit Go.Deep Go.Proofs.YtjgmjdidbgcljaaGreatDoor.Abs
set_option linter.unusedSimpArgs false
set_option linter.unusedVariables false
set_option maxRecDepth 100000 in
theorem jkw(os:Os)(started:os.Started)(H:Type)(enc:TypeId×Value->H) :
  ReturnsInHanded {} Tryz.checked os 3 .any (λw args=>(Rows.fnSuperpositionSpec.pre enc Tryz.prog Tryz.f3 Rows.fnSuperpositionRow.domain false w args/\laidMetH Tryz.prog Rows.fnSuperpositionRow.laid w)/\sizedMet enc Tryz.prog Tryz.f3 (OpenSpec.ofChange Rows.fnSuperpositionSpec) false w args) (Rows.fnSuperpositionSpec.post enc Tryz.prog Tryz.f3 false true false false):=by
 refine returnsInHanded_of_change_and (C:=Tryz.checked) (X:=λw _=>laidMetH Tryz.prog Rows.fnSuperpositionRow.laid w) (λ_ _ _ hh h=>h.of_heap hh) Tryz.ownK started (by kernel_rfl) Tryz.func3
  (ChangeSpec.witness_at (enc:=enc) (C:=Tryz.checked) (os:=os) (X:=λw _=>laidMetH Tryz.prog Rows.fnSuperpositionRow.laid w) false (jDT os) #[.slice none 0 0] 8 rfl (by kernel_rfl) (by kernel_rfl) (by kernel_rfl) (by kernel_rfl) (by kernel_rfl) (jxW os _)) ?_
 intro W base args ds gs before hval0 hW _ _ hL0 _;have hJ:jqo W:=jE6 hL0;have hval:∀(j:Nat) t v,Tryz.f3.params[j]? = some t->args[j]? = some v->Value.okWide Tryz.prog W .any base t v:=hval0;have hW':=hW;obtain⟨p,q,hA0,hV,rfl,_,_⟩:=hW;have hA:DataW.TrodAll enc Tryz.prog W 0 (λ_=>true) true Tryz.f3.params.toList args.toList ds p:=hA0;rw[Tryz.params3]at hA hval;obtain⟨v0,d0,rfl,rfl,h0⟩:=trodAll_one hA;obtain⟨rfl,rfl⟩:=trodVars_none hV;obtain⟨a0,l0,c0,rfl⟩:=okWide_slice Tryz.underlying22 (hval 0 22 v0 rfl rfl);have h0k:=h0;obtain⟨fuel0,hf0⟩:=h0;clear hA0 hval0;simp only[ZE]at hW';have hlt0:∀y∈p,y.block<W.heap.size:=λy hy=>by simpa using hW'.lt y (by simp[hy])
 obtain⟨code,hp0,hr0,_⟩:=jAY H enc W 0 (λ_=>true) true fuel0 _ _ hf0;have hr0:=jvM hJ _ _ (jEM code) (jeP hr0 rfl);have hlaw:=jGZ rfl (jm4 code hp0);refine(hlaw.2 W (λb=>b=jnf) [.slice a0 l0 c0] hJ (λ_ h=>h) (λb h=>by rw[h];exact jC3 hJ) (by simp only[jf];exact⟨_,_,rfl,hr0,rfl⟩)).mono ?_;rintro e W' ⟨v,rfl,hn0,hv⟩;have hn:=hn0.kit;simp only[rel]at hv;subst hv;exact⟨_,rfl,_,_,_,[],_,[],hW',trodAll_mk1 (shut_bool Tryz.underlying4 true),trodAll_mk1 (Below.trod Tryz.laidO (by kernel_rfl) (of_decide_eq_true (by kernel_rfl)) h0k hn hlt0),rfl,hn.frame _,λh=>by cases h⟩
theorem jjv:Tryz.pinned.checked.prog.funcNamed "loop.example/g00892/laws.FnSuperposition" = some 3:=by kernel_rfl
theorem jl8:Tryz.pinned.checked.prog.inPlace 3=Rows.fnSuperpositionRow.inPlace:=by kernel_rfl
theorem jmb:Tryz.pinned.checked.prog.unfollowed 3=true:=by kernel_rfl
theorem jma:Tryz.pinned.checked.prog.recurses 3=true:=by kernel_rfl
theorem jl9:Tryz.pinned.checked.prog.varsNamed 3=Rows.fnSuperpositionRow.named:=by kernel_rfl
theorem jkv:joinedFacts Tryz.pinned.checked.prog 3 Tryz.f3 Rows.fnSuperpositionSpec Rows.fnSuperpositionRow=true:=by
 unfold joinedFacts;rw[jA7,jyh,jl8,jmb,jma,jl9]
 kernel_rfl
theorem jmc:Rows.fnSuperpositionRow.wfByText (OpenSpec.ofChange Rows.fnSuperpositionSpec)=true:=by kernel_rfl
theorem jl7:false=Rows.fnSuperpositionRow.goesBy Tryz.pinned.checked.prog:=by kernel_rfl
theorem jk6:Tryz.f3.isInstance Tryz.pinned.checked.prog Rows.fnSuperpositionRow.origin Rows.fnSuperpositionRow.targs:=of_decide_eq_true (by kernel_rfl)
theorem jk7:Tryz.f3.isWrapper Tryz.pinned.checked.prog Rows.fnSuperpositionRow.wrapper Rows.fnSuperpositionRow.mainSum:=by unfold Func.isWrapper;first|(rw[jc6 (by decide +kernel)];kernel_rfl)|(rw[ko (by decide +kernel)];exact⟨rfl,rfl⟩)
theorem FnSuperposition_holds:Rows.FnSuperpositionSaid:=
 OpenClaim.holds_of_wide 3 Tryz.f3 rfl rfl rfl rfl rfl rfl rfl ⟨rfl,rfl,rfl,rfl,rfl⟩ rfl rfl rfl rfl rfl jjv Tryz.func3 jkv jk6 jk7
  (λos started H enc _=>jkw os started H enc)
theorem jlW:Tryz.prog.wantsStandIn 22=false:=by kernel_rfl
theorem FnSuperposition_card:Rows.FnSuperpositionCardSaid:=
 Claim7.holds_tied_plain_at .later [] [.data,.data,.data] true (true, "c6b343a083cc8263fb9662b3873e3fbcf3828bbc5aea125f4bd9eaac0d3ced1a") false
  FnSuperposition_holds (λ_ h=>by cases h) jmc (λ_ h=>by cases h) fnSuperposition_row_tie rfl ⟨rfl,rfl⟩ (by kernel_rfl) rfl
  (λf fn hf hfn=>by
   obtain rfl:f=3:=QW (jjv.symm.trans hf) |>.symm;obtain rfl:fn=Tryz.f3:=(QW (Tryz.func3.symm.trans hfn)).symm;exact⟨jC0,λj t ht=>by
    rw[Tryz.params3]at ht;have ht:=Array.mem_of_getElem? ht;simp only[List.mem_toArray,yN,jby,or_false]at ht;rcases ht with rfl
    .exact jlW⟩)
  jl7
#print axioms FnSuperposition_card
end Go.Proofs.YtjgmjdidbgcljaaGreatDoor
