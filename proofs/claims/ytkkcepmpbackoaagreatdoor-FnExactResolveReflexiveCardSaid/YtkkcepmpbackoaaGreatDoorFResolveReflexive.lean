/- For every input the law FnExactResolveReflexive of the program returns true, and its arguments read behind the call as before. Conditions: the three tables of the library are laid as the program's text lays them. -/
import Derived.Test.YtkkcepmpbackoaaGreatDoorPe
import Derived.Test.YtkkcepmpbackoaaGreatDoorPz
namespace Go.Proofs.YtkkcepmpbackoaaGreatDoor
open Go Go.ChangeShapes Go.WideShapes Go.ChangeAt Go.RowKit Go.Proofs.YtkkcepmpbackoaaGreatDoor.Abs
set_option linter.unusedSimpArgs false
set_option linter.unusedVariables false
theorem jye(c:kg):nu (cm c)=true:=by
 simp only[nu,nuL,jtO c];rfl
set_option maxRecDepth 100000 in
theorem qC(os:Os)(started:os.Started)(H:Type)(enc:TypeId×Value->H) :
  ReturnsInHanded {} Tryz.checked os 3 .any (λw args=>(Rows.fnExactResolveReflexiveSpec.pre enc Tryz.prog Tryz.f3 Rows.fnExactResolveReflexiveRow.domain false w args/\laidMetH Tryz.prog Rows.fnExactResolveReflexiveRow.laid w)/\sizedMet enc Tryz.prog Tryz.f3 (OpenSpec.ofChange Rows.fnExactResolveReflexiveSpec) false w args) (Rows.fnExactResolveReflexiveSpec.post enc Tryz.prog Tryz.f3 false true false false):=by
 refine returnsInHanded_of_change_and (C:=Tryz.checked) (X:=λw _=>laidMetH Tryz.prog Rows.fnExactResolveReflexiveRow.laid w) (λ_ _ _ hh h=>h.of_heap hh) Tryz.ownK started (by kernel_rfl) Tryz.func3
  (ChangeSpec.witness_at (enc:=enc) (C:=Tryz.checked) (os:=os) (X:=λw _=>laidMetH Tryz.prog Rows.fnExactResolveReflexiveRow.laid w) false (jvi os) #[.agg #[.slice none 0 0],.int .i64 0] 8 rfl (by kernel_rfl) (by kernel_rfl) (by kernel_rfl) (by kernel_rfl) (by kernel_rfl) (joa os _)) ?_
 intro W base args ds gs before hval0 hW _ _ hL0 _;have hJ:jfj W:=jwT hL0;have hval:∀(j:Nat) t v,Tryz.f3.params[j]? = some t->args[j]? = some v->Value.okWide Tryz.prog W .any base t v:=hval0;have hW':=hW;obtain⟨p,q,hA0,hV,rfl,_,_⟩:=hW;have hA:DataW.TrodAll enc Tryz.prog W 0 (λ_=>true) true Tryz.f3.params.toList args.toList ds p:=hA0;rw[Tryz.params3]at hA hval;obtain⟨v0,v1,d0,d1,p0,p1,rfl,rfl,rfl,h0,h1⟩:=trodAll_two hA;obtain⟨rfl,rfl⟩:=trodVars_none hV;obtain⟨cs0,rfl,_⟩:=okWide_struct Tryz.underlying24 (hval 0 24 v0 rfl rfl);obtain⟨n1,rfl⟩:=okWide_int Tryz.underlying3 (hval 1 3 v1 rfl rfl);have h0k:=h0;obtain⟨fuel0,hf0⟩:=h0;have h1k:=h1;obtain⟨fuel1,hf1⟩:=h1;clear hA0 hval0;simp only[List.append_nil]at hW';have hlt0:∀y∈p0,y.block<W.heap.size:=λy hy=>by simpa using hW'.lt y (by simp[hy])
 have hlt1:∀y∈p1,y.block<W.heap.size:=λy hy=>by simpa using hW'.lt y (by simp[hy])
 obtain⟨c,hp0,hr0,_⟩:=joK H enc W 0 (λ_=>true) true fuel0 _ _ hf0;have hr0:=jh7 hJ _ _ (jye c) (Q0 hr0);obtain⟨i,hp1,hr1,_⟩:=jwG H enc W 0 (λ_=>true) true fuel1 _ _ hf1;have hr1:=jh7 hJ _ _ (rfl) (jlQ hr1 rfl);have hlaw:=jza rfl (Yi c i hp0);refine(hlaw.2 W (λb=>b=jbn) [.agg cs0,.int .i64 n1] hJ (λ_ h=>h) (λb h=>by rw[h];exact jus hJ) (by simp only[jp];exact⟨_,_,rfl,hr0,_,_,rfl,hr1,rfl⟩)).mono ?_;rintro e W' ⟨v,rfl,hn0,hv⟩;have hn:=hn0.kit;simp only[rel]at hv;subst hv;exact⟨_,rfl,_,_,_,[],_,[],hW',trodAll_mk1 (shut_bool Tryz.underlying4 true),trodAll_mk2 (Below.trod Tryz.laidO (by kernel_rfl) (of_decide_eq_true (by kernel_rfl)) h0k hn hlt0) (Below.trod Tryz.laidO (by kernel_rfl) (of_decide_eq_true (by kernel_rfl)) h1k hn hlt1),rfl,hn.frame _,λh=>by cases h⟩
theorem yo:Tryz.pinned.checked.prog.funcNamed "loop.example/g00892/laws.FnExactResolveReflexive" = some 3:=by kernel_rfl
theorem J2:Tryz.pinned.checked.prog.inPlace 3=Rows.fnExactResolveReflexiveRow.inPlace:=by kernel_rfl
theorem J5:Tryz.pinned.checked.prog.unfollowed 3=true:=by kernel_rfl
theorem J4:Tryz.pinned.checked.prog.recurses 3=true:=by kernel_rfl
theorem J3:Tryz.pinned.checked.prog.varsNamed 3=Rows.fnExactResolveReflexiveRow.named:=by kernel_rfl
theorem qB:joinedFacts Tryz.pinned.checked.prog 3 Tryz.f3 Rows.fnExactResolveReflexiveSpec Rows.fnExactResolveReflexiveRow=true:=by
 unfold joinedFacts;rw[jr6,joW,J2,J5,J4,J3]
 kernel_rfl
theorem J6:Rows.fnExactResolveReflexiveRow.wfByText (OpenSpec.ofChange Rows.fnExactResolveReflexiveSpec)=true:=by kernel_rfl
theorem J1:false=Rows.fnExactResolveReflexiveRow.goesBy Tryz.pinned.checked.prog:=by kernel_rfl
theorem Jq:Tryz.f3.isInstance Tryz.pinned.checked.prog Rows.fnExactResolveReflexiveRow.origin Rows.fnExactResolveReflexiveRow.targs:=of_decide_eq_true (by kernel_rfl)
theorem Jr:Tryz.f3.isWrapper Tryz.pinned.checked.prog Rows.fnExactResolveReflexiveRow.wrapper Rows.fnExactResolveReflexiveRow.mainSum:=by unfold Func.isWrapper;first|(rw[if_pos (by decide +kernel)];kernel_rfl)|(rw[if_neg (by decide +kernel)];exact⟨rfl,rfl⟩)
theorem FnExactResolveReflexive_holds:Rows.FnExactResolveReflexiveSaid:=
 OpenClaim.holds_of_wide 3 Tryz.f3 rfl rfl rfl rfl rfl rfl rfl ⟨rfl,rfl,rfl,rfl,rfl⟩ rfl rfl rfl rfl rfl yo Tryz.func3 qB Jq Jr
  (λos started H enc _=>qC os started H enc)
theorem JF:Tryz.prog.wantsStandIn 24=false:=by kernel_rfl
theorem JG:Tryz.prog.wantsStandIn 3=false:=by kernel_rfl
theorem FnExactResolveReflexive_card:Rows.FnExactResolveReflexiveCardSaid:=
 Claim7.holds_tied_plain_at .later [] [.data,.data,.data] true (true, "249bea061ab0da574a720d6191242bb3d8895f619ff5a6ae0b53c96bcc8a93c2") false
  FnExactResolveReflexive_holds (λ_ h=>by cases h) J6 (λ_ h=>by cases h) fnExactResolveReflexive_row_tie rfl ⟨rfl,rfl⟩ (by kernel_rfl) rfl
  (λf fn hf hfn=>by
   obtain rfl:f=3:=Option.some.inj (yo.symm.trans hf) |>.symm;obtain rfl:fn=Tryz.f3:=(Option.some.inj (Tryz.func3.symm.trans hfn)).symm;exact⟨jui,λj t ht=>by
    rw[Tryz.params3]at ht;have ht:=Array.mem_of_getElem? ht;simp only[List.mem_toArray,List.mem_cons,List.not_mem_nil,or_false]at ht;rcases ht with rfl|rfl
    .exact JF
    .exact JG⟩)
  J1
#print axioms FnExactResolveReflexive_card
end Go.Proofs.YtkkcepmpbackoaaGreatDoor
