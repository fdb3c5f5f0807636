/- For every input the law FnCriticalPairs of the program returns true, and its argument reads behind the call as before. Conditions: the three tables of the library are laid as the program's text lays them. -/
import Derived.Test.YthapkjbfjniaiaaGreatDoorPe
import Derived.Test.YthapkjbfjniaiaaGreatDoorPz
namespace Go.Proofs.YthapkjbfjniaiaaGreatDoor
open Go Go.ChangeShapes Go.WideShapes Go.ChangeAt Go.RowKit Go.Deep Go.Proofs.YthapkjbfjniaiaaGreatDoor.Abs
set_option linter.unusedSimpArgs false
set_option linter.unusedVariables false
set_option maxRecDepth 100000 in
theorem jkX(os:Os)(started:os.Started)(H:Type)(enc:TypeId×Value->H) :
  ReturnsInHanded {} Tryz.checked os 3 .any (λw args=>(Rows.fnCriticalPairsSpec.pre enc Tryz.prog Tryz.f3 Rows.fnCriticalPairsRow.domain false w args/\laidMetH Tryz.prog Rows.fnCriticalPairsRow.laid w)/\sizedMet enc Tryz.prog Tryz.f3 (OpenSpec.ofChange Rows.fnCriticalPairsSpec) false w args) (Rows.fnCriticalPairsSpec.post enc Tryz.prog Tryz.f3 false true false false):=by
 refine returnsInHanded_of_change_and (C:=Tryz.checked) (X:=λw _=>laidMetH Tryz.prog Rows.fnCriticalPairsRow.laid w) (λ_ _ _ hh h=>h.of_heap hh) Tryz.ownK started (by kernel_rfl) Tryz.func3
  (ChangeSpec.witness_at (enc:=enc) (C:=Tryz.checked) (os:=os) (X:=λw _=>laidMetH Tryz.prog Rows.fnCriticalPairsRow.laid w) false (jzM os) #[.slice none 0 0] 8 rfl (by kernel_rfl) (by kernel_rfl) (by kernel_rfl) (by kernel_rfl) (by kernel_rfl) (juP os _)) ?_
 intro W base args ds gs before hval0 hW _ _ hL0 _;have hJ:jpd W:=jAS hL0;have hval:∀(j:Nat) t v,Tryz.f3.params[j]? = some t->args[j]? = some v->Value.okWide Tryz.prog W .any base t v:=hval0;have hW':=hW;obtain⟨p,q,hA0,hV,rfl,_,_⟩:=hW;have hA:DataW.TrodAll enc Tryz.prog W 0 (λ_=>true) true Tryz.f3.params.toList args.toList ds p:=hA0;rw[Tryz.params3]at hA hval;obtain⟨v0,d0,rfl,rfl,h0⟩:=trodAll_one hA;obtain⟨rfl,rfl⟩:=trodVars_none hV;obtain⟨a0,l0,c0,rfl⟩:=okWide_slice Tryz.underlying22 (hval 0 22 v0 rfl rfl);have h0k:=h0;obtain⟨fuel0,hf0⟩:=h0;clear hA0 hval0;simp only[KQ]at hW';have hlt0:∀y∈p,y.block<W.heap.size:=λy hy=>by simpa using hW'.lt y (by simp[hy])
 obtain⟨code,hp0,hr0,_⟩:=jxo H enc W 0 (λ_=>true) true fuel0 _ _ hf0;have hr0:=js4 hJ _ _ (jAv code) (jgF hr0 rfl);have hlaw:=jCx rfl (jl2 code hp0);refine(hlaw.2 W (λb=>b=jmW) [.slice a0 l0 c0] hJ (λ_ h=>h) (λb h=>by rw[h];exact jy6 hJ) (by simp only[jg];exact⟨_,_,rfl,hr0,rfl⟩)).mono ?_;rintro e W' ⟨v,rfl,hn0,hv⟩;have hn:=hn0.kit;simp only[rel]at hv;subst hv;exact⟨_,rfl,_,_,_,[],_,[],hW',trodAll_mk1 (shut_bool Tryz.underlying4 true),trodAll_mk1 (Below.trod Tryz.laidO (by kernel_rfl) (of_decide_eq_true (by kernel_rfl)) h0k hn hlt0),rfl,hn.frame _,λh=>by cases h⟩
theorem jki:Tryz.pinned.checked.prog.funcNamed "loop.example/g00892/laws.FnCriticalPairs" = some 3:=by kernel_rfl
theorem jmd:Tryz.pinned.checked.prog.inPlace 3=Rows.fnCriticalPairsRow.inPlace:=by kernel_rfl
theorem jmg:Tryz.pinned.checked.prog.unfollowed 3=true:=by kernel_rfl
theorem jmf:Tryz.pinned.checked.prog.recurses 3=true:=by kernel_rfl
theorem jme:Tryz.pinned.checked.prog.varsNamed 3=Rows.fnCriticalPairsRow.named:=by kernel_rfl
theorem jkW:joinedFacts Tryz.pinned.checked.prog 3 Tryz.f3 Rows.fnCriticalPairsSpec Rows.fnCriticalPairsRow=true:=by
 unfold joinedFacts;rw[jxx,jvg,jmd,jmg,jmf,jme]
 kernel_rfl
theorem jmh:Rows.fnCriticalPairsRow.wfByText (OpenSpec.ofChange Rows.fnCriticalPairsSpec)=true:=by kernel_rfl
theorem jmc:false=Rows.fnCriticalPairsRow.goesBy Tryz.pinned.checked.prog:=by kernel_rfl
theorem jlk:Tryz.f3.isInstance Tryz.pinned.checked.prog Rows.fnCriticalPairsRow.origin Rows.fnCriticalPairsRow.targs:=of_decide_eq_true (by kernel_rfl)
theorem jll:Tryz.f3.isWrapper Tryz.pinned.checked.prog Rows.fnCriticalPairsRow.wrapper Rows.fnCriticalPairsRow.mainSum:=by unfold Func.isWrapper;first|(rw[ju (by decide +kernel)];kernel_rfl)|(rw[jo (by decide +kernel)];exact⟨rfl,rfl⟩)
theorem FnCriticalPairs_holds:Rows.FnCriticalPairsSaid:=
 OpenClaim.holds_of_wide 3 Tryz.f3 rfl rfl rfl rfl rfl rfl rfl ⟨rfl,rfl,rfl,rfl,rfl⟩ rfl rfl rfl rfl rfl jki Tryz.func3 jkW jlk jll
  (λos started H enc _=>jkX os started H enc)
theorem jlZ:Tryz.prog.wantsStandIn 22=false:=by kernel_rfl
theorem FnCriticalPairs_card:Rows.FnCriticalPairsCardSaid:=
 Claim7.holds_tied_plain_at .later [] [.data,.data,.data] true (true, "fac7c60952fa9dd3d085e785baaa678baf502204dc7aa7695ba5cde1f1f63445") false
  FnCriticalPairs_holds (λ_ h=>by cases h) jmh (λ_ h=>by cases h) fnCriticalPairs_row_tie rfl ⟨rfl,rfl⟩ (by kernel_rfl) rfl
  (λf fn hf hfn=>by
   obtain rfl:f=3:=QY (jki.symm.trans hf) |>.symm;obtain rfl:fn=Tryz.f3:=(QY (Tryz.func3.symm.trans hfn)).symm;exact⟨jy4,λj t ht=>by
    rw[Tryz.params3]at ht;have ht:=Array.mem_of_getElem? ht;simp only[List.mem_toArray,jK,Y2,or_false]at ht;rcases ht with rfl
    .exact jlZ⟩)
  jmc
#print axioms FnCriticalPairs_card
end Go.Proofs.YthapkjbfjniaiaaGreatDoor
