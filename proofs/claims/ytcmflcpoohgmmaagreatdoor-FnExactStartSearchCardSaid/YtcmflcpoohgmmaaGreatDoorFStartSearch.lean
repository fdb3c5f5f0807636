/- For every input the law FnExactStartSearch of the program returns true, and its argument reads behind the call as before. Conditions: the three tables of the library are laid as the program's text lays them. -/
import Derived.Test.YtcmflcpoohgmmaaGreatDoorPd
import Derived.Test.YtcmflcpoohgmmaaGreatDoorPz
namespace Go.Proofs.YtcmflcpoohgmmaaGreatDoor
open Go Go.ChangeShapes Go.WideShapes Go.ChangeAt Go.RowKit Go.Proofs.YtcmflcpoohgmmaaGreatDoor.Abs
set_option linter.unusedSimpArgs false
set_option linter.unusedVariables false
set_option maxRecDepth 100000 in
theorem qZ(os:Os)(started:os.Started)(H:Type)(enc:TypeId×Value->H) :
  ReturnsInHanded {} Tryz.checked os 3 .any (λw args=>(Rows.fnExactStartSearchSpec.pre enc Tryz.prog Tryz.f3 Rows.fnExactStartSearchRow.domain false w args/\laidMetH Tryz.prog Rows.fnExactStartSearchRow.laid w)/\sizedMet enc Tryz.prog Tryz.f3 (OpenSpec.ofChange Rows.fnExactStartSearchSpec) false w args) (Rows.fnExactStartSearchSpec.post enc Tryz.prog Tryz.f3 false true false false):=by
 refine returnsInHanded_of_change_and (C:=Tryz.checked) (X:=λw _=>laidMetH Tryz.prog Rows.fnExactStartSearchRow.laid w) (λ_ _ _ hh h=>h.of_heap hh) Tryz.ownK started (by kernel_rfl) Tryz.func3
  (ChangeSpec.witness_at (enc:=enc) (C:=Tryz.checked) (os:=os) (X:=λw _=>laidMetH Tryz.prog Rows.fnExactStartSearchRow.laid w) false (jrA os) #[.slice none 0 0] 8 rfl (by kernel_rfl) (by kernel_rfl) (by kernel_rfl) (by kernel_rfl) (by kernel_rfl) (jlt os _)) ?_
 intro W base args ds gs before hval0 hW _ _ hL0 _;have hJ:jdm W:=js0 hL0;have hval:∀(j:Nat) t v,Tryz.f3.params[j]? = some t->args[j]? = some v->Value.okWide Tryz.prog W .any base t v:=hval0;have hW':=hW;obtain⟨p,q,hA0,hV,rfl,_,_⟩:=hW;have hA:DataW.TrodAll enc Tryz.prog W 0 (λ_=>true) true Tryz.f3.params.toList args.toList ds p:=hA0;rw[Tryz.params3]at hA hval;obtain⟨v0,d0,rfl,rfl,h0⟩:=trodAll_one hA;obtain⟨rfl,rfl⟩:=trodVars_none hV;obtain⟨a0,l0,c0,rfl⟩:=okWide_slice Tryz.underlying22 (hval 0 22 v0 rfl rfl);have h0k:=h0;obtain⟨fuel0,hf0⟩:=h0;clear hA0 hval0;simp only[List.append_nil]at hW';have hlt0:∀y∈p,y.block<W.heap.size:=λy hy=>by simpa using hW'.lt y (by simp[hy])
 obtain⟨l,hp0,hr0,_⟩:=ji1 H enc W 0 (λ_=>true) true fuel0 _ _ hf0;have hr0:=ji3 hJ _ _ (jsz l) (ji4 hr0 rfl);have hlaw:=jvj rfl (jbe l hp0);refine(hlaw.2 W (λb=>b=QQ) [.slice a0 l0 c0] hJ (λ_ h=>h) (λb h=>by rw[h];exact jqG hJ) (by simp only[jl];exact⟨_,_,rfl,hr0,rfl⟩)).mono ?_;rintro e W' ⟨v,rfl,hn0,hv⟩;have hn:=hn0.kit;simp only[rel]at hv;subst hv;exact⟨_,rfl,_,_,_,[],_,[],hW',trodAll_mk1 (shut_bool Tryz.underlying4 true),trodAll_mk1 (Below.trod Tryz.laidO (by kernel_rfl) (of_decide_eq_true (by kernel_rfl)) h0k hn hlt0),rfl,hn.frame _,λh=>by cases h⟩
theorem yw:Tryz.pinned.checked.prog.funcNamed "loop.example/g00892/laws.FnExactStartSearch" = some 3:=by kernel_rfl
theorem KP:Tryz.pinned.checked.prog.inPlace 3=Rows.fnExactStartSearchRow.inPlace:=by kernel_rfl
theorem KS:Tryz.pinned.checked.prog.unfollowed 3=true:=by kernel_rfl
theorem KR:Tryz.pinned.checked.prog.recurses 3=true:=by kernel_rfl
theorem KQ:Tryz.pinned.checked.prog.varsNamed 3=Rows.fnExactStartSearchRow.named:=by kernel_rfl
theorem qY:joinedFacts Tryz.pinned.checked.prog 3 Tryz.f3 Rows.fnExactStartSearchSpec Rows.fnExactStartSearchRow=true:=by
 unfold joinedFacts;rw[joT,jme,KP,KS,KR,KQ]
 kernel_rfl
theorem KT:Rows.fnExactStartSearchRow.wfByText (OpenSpec.ofChange Rows.fnExactStartSearchSpec)=true:=by kernel_rfl
theorem KO:false=Rows.fnExactStartSearchRow.goesBy Tryz.pinned.checked.prog:=by kernel_rfl
theorem JD:Tryz.f3.isInstance Tryz.pinned.checked.prog Rows.fnExactStartSearchRow.origin Rows.fnExactStartSearchRow.targs:=of_decide_eq_true (by kernel_rfl)
theorem JE:Tryz.f3.isWrapper Tryz.pinned.checked.prog Rows.fnExactStartSearchRow.wrapper Rows.fnExactStartSearchRow.mainSum:=by unfold Func.isWrapper;first|(rw[if_pos (by decide +kernel)];kernel_rfl)|(rw[if_neg (by decide +kernel)];exact⟨rfl,rfl⟩)
theorem FnExactStartSearch_holds:Rows.FnExactStartSearchSaid:=
 OpenClaim.holds_of_wide 3 Tryz.f3 rfl rfl rfl rfl rfl rfl rfl ⟨rfl,rfl,rfl,rfl,rfl⟩ rfl rfl rfl rfl rfl yw Tryz.func3 qY JD JE
  (λos started H enc _=>qZ os started H enc)
theorem J4:Tryz.prog.wantsStandIn 22=false:=by kernel_rfl
theorem FnExactStartSearch_card:Rows.FnExactStartSearchCardSaid:=
 Claim7.holds_tied_plain_at .later [] [.data,.data,.data] true (true, "e6d95ec176221bbba264b42db33707d13fbc4b9efc28ef3939fc568328da5889") false
  FnExactStartSearch_holds (λ_ h=>by cases h) KT (λ_ h=>by cases h) fnExactStartSearch_row_tie rfl ⟨rfl,rfl⟩ (by kernel_rfl) rfl
  (λf fn hf hfn=>by
   obtain rfl:f=3:=Option.some.inj (yw.symm.trans hf) |>.symm;obtain rfl:fn=Tryz.f3:=(Option.some.inj (Tryz.func3.symm.trans hfn)).symm;exact⟨jqx,λj t ht=>by
    rw[Tryz.params3]at ht;have ht:=Array.mem_of_getElem? ht;simp only[List.mem_toArray,List.mem_cons,List.not_mem_nil,or_false]at ht;rcases ht with rfl
    .exact J4⟩)
  KO
#print axioms FnExactStartSearch_card
end Go.Proofs.YtcmflcpoohgmmaaGreatDoor
