/- For every input the law FnExactCriticalPairs of the program returns true, and its arguments read behind the call as before. Conditions: the three tables of the library are laid as the program's text lays them. -/
import Derived.Test.YtocncngbocomhaaGreatDoorPe
import Derived.Test.YtocncngbocomhaaGreatDoorPz
namespace Go.Proofs.YtocncngbocomhaaGreatDoor
open Go Go.ChangeShapes Go.WideShapes Go.ChangeAt Go.RowKit Go.Proofs.YtocncngbocomhaaGreatDoor.Abs
set_option linter.unusedSimpArgs false
set_option linter.unusedVariables false
set_option maxRecDepth 100000 in
theorem jjF(os:Os)(started:os.Started)(H:Type)(enc:TypeId×Value->H) :
  ReturnsInHanded {} Tryz.checked os 3 .any (λw args=>(Rows.fnExactCriticalPairsSpec.pre enc Tryz.prog Tryz.f3 Rows.fnExactCriticalPairsRow.domain false w args/\laidMetH Tryz.prog Rows.fnExactCriticalPairsRow.laid w)/\sizedMet enc Tryz.prog Tryz.f3 (OpenSpec.ofChange Rows.fnExactCriticalPairsSpec) false w args) (Rows.fnExactCriticalPairsSpec.post enc Tryz.prog Tryz.f3 false true false false):=by
 refine returnsInHanded_of_change_and (C:=Tryz.checked) (X:=λw _=>laidMetH Tryz.prog Rows.fnExactCriticalPairsRow.laid w) (λ_ _ _ hh h=>h.of_heap hh) Tryz.ownK started (by kernel_rfl) Tryz.func3
  (ChangeSpec.witness_at (enc:=enc) (C:=Tryz.checked) (os:=os) (X:=λw _=>laidMetH Tryz.prog Rows.fnExactCriticalPairsRow.laid w) false (jxQ os) #[.agg #[.string ⟨#[]⟩,.slice none 0 0],.agg #[.string ⟨#[]⟩,.slice none 0 0]] 8 rfl (by kernel_rfl) (by kernel_rfl) (by kernel_rfl) (by kernel_rfl) (by kernel_rfl) (jtj os _)) ?_
 intro W base args ds gs before hval0 hW _ _ hL0 _;have hJ:jou W:=jyM hL0;have hval:∀(j:Nat) t v,Tryz.f3.params[j]? = some t->args[j]? = some v->Value.okWide Tryz.prog W .any base t v:=hval0;have hW':=hW;obtain⟨p,q,hA0,hV,rfl,_,_⟩:=hW;have hA:DataW.TrodAll enc Tryz.prog W 0 (λ_=>true) true Tryz.f3.params.toList args.toList ds p:=hA0;rw[Tryz.params3]at hA hval;obtain⟨v0,v1,d0,d1,p0,p1,rfl,rfl,rfl,h0,h1⟩:=trodAll_two hA;obtain⟨rfl,rfl⟩:=trodVars_none hV;obtain⟨cs0,rfl,_⟩:=okWide_struct Tryz.underlying24 (hval 0 24 v0 rfl rfl);obtain⟨cs1,rfl,_⟩:=okWide_struct Tryz.underlying24 (hval 1 24 v1 rfl rfl);have h0k:=h0;obtain⟨fuel0,hf0⟩:=h0;have h1k:=h1;obtain⟨fuel1,hf1⟩:=h1;clear hA0 hval0;simp only[KO]at hW';have hlt0:∀y∈p0,y.block<W.heap.size:=λy hy=>by simpa using hW'.lt y (by simp[hy])
 have hlt1:∀y∈p1,y.block<W.heap.size:=λy hy=>by simpa using hW'.lt y (by simp[hy])
 obtain⟨a,hp0,hr0,_⟩:=js0 H enc W 0 (λ_=>true) true fuel0 _ _ hf0;have hr0:=jpP hJ _ _ (jvb a) (jcd hr0);obtain⟨b,hp1,hr1,_⟩:=js0 H enc W 0 (λ_=>true) true fuel1 _ _ hf1;have hr1:=jpP hJ _ _ (jvb b) (jcd hr1);have hlaw:=jAn rfl ((by have:=jmg a b hp0 hp1;rw[show tm a = .agg (jbL a) from by rw[jf3],show tm b = .agg (jbL b) from by rw[jf3]]at this;exact this));refine(hlaw.2 W (λb=>b=jms) [.agg cs0,.agg cs1] hJ (λ_ h=>h) (λb h=>by rw[h];exact jw4 hJ) (by simp only[jg];exact⟨_,_,rfl,hr0,_,_,rfl,hr1,rfl⟩)).mono ?_;rintro e W' ⟨v,rfl,hn0,hv⟩;have hn:=hn0.kit;simp only[rel]at hv;subst hv;exact⟨_,rfl,_,_,_,[],_,[],hW',trodAll_mk1 (shut_bool Tryz.underlying4 true),trodAll_mk2 (Below.trod Tryz.laidO (by kernel_rfl) (of_decide_eq_true (by kernel_rfl)) h0k hn hlt0) (Below.trod Tryz.laidO (by kernel_rfl) (of_decide_eq_true (by kernel_rfl)) h1k hn hlt1),rfl,hn.frame _,λh=>by cases h⟩
theorem ji7:Tryz.pinned.checked.prog.funcNamed "loop.example/g00892/laws.FnExactCriticalPairs" = some 3:=by kernel_rfl
theorem jki:Tryz.pinned.checked.prog.inPlace 3=Rows.fnExactCriticalPairsRow.inPlace:=by kernel_rfl
theorem jkl:Tryz.pinned.checked.prog.unfollowed 3=true:=by kernel_rfl
theorem jkk:Tryz.pinned.checked.prog.recurses 3=true:=by kernel_rfl
theorem jkj:Tryz.pinned.checked.prog.varsNamed 3=Rows.fnExactCriticalPairsRow.named:=by kernel_rfl
theorem jjE:joinedFacts Tryz.pinned.checked.prog 3 Tryz.f3 Rows.fnExactCriticalPairsSpec Rows.fnExactCriticalPairsRow=true:=by
 unfold joinedFacts;rw[jvG,jtK,jki,jkl,jkk,jkj]
 kernel_rfl
theorem jkm:Rows.fnExactCriticalPairsRow.wfByText (OpenSpec.ofChange Rows.fnExactCriticalPairsSpec)=true:=by kernel_rfl
theorem jkh:false=Rows.fnExactCriticalPairsRow.goesBy Tryz.pinned.checked.prog:=by kernel_rfl
theorem jjZ:Tryz.f3.isInstance Tryz.pinned.checked.prog Rows.fnExactCriticalPairsRow.origin Rows.fnExactCriticalPairsRow.targs:=of_decide_eq_true (by kernel_rfl)
theorem jj0:Tryz.f3.isWrapper Tryz.pinned.checked.prog Rows.fnExactCriticalPairsRow.wrapper Rows.fnExactCriticalPairsRow.mainSum:=by unfold Func.isWrapper;first|(rw[jc6 (by decide +kernel)];kernel_rfl)|(rw[ko (by decide +kernel)];exact⟨rfl,rfl⟩)
theorem FnExactCriticalPairs_holds:Rows.FnExactCriticalPairsSaid:=
 OpenClaim.holds_of_wide 3 Tryz.f3 rfl rfl rfl rfl rfl rfl rfl ⟨rfl,rfl,rfl,rfl,rfl⟩ rfl rfl rfl rfl rfl ji7 Tryz.func3 jjE jjZ jj0
  (λos started H enc _=>jjF os started H enc)
theorem jkc:Tryz.prog.wantsStandIn 24=false:=by kernel_rfl
theorem jkd:Tryz.prog.wantsStandIn 24=false:=by kernel_rfl
theorem FnExactCriticalPairs_card:Rows.FnExactCriticalPairsCardSaid:=
 Claim7.holds_tied_plain_at .later [] [.data,.data,.data] true (true, "bbec97ca131a9968daec8b4691e868075d23de59e21c89ad4d8e12d8f2726fb5") false
  FnExactCriticalPairs_holds (λ_ h=>by cases h) jkm (λ_ h=>by cases h) fnExactCriticalPairs_row_tie rfl ⟨rfl,rfl⟩ (by kernel_rfl) rfl
  (λf fn hf hfn=>by
   obtain rfl:f=3:=jbB (ji7.symm.trans hf) |>.symm;obtain rfl:fn=Tryz.f3:=(jbB (Tryz.func3.symm.trans hfn)).symm;exact⟨jw2,λj t ht=>by
    rw[Tryz.params3]at ht;have ht:=Array.mem_of_getElem? ht;simp only[List.mem_toArray,zC,jbF,or_false]at ht;rcases ht with rfl|rfl
    .exact jkc
    .exact jkd⟩)
  jkh
#print axioms FnExactCriticalPairs_card
end Go.Proofs.YtocncngbocomhaaGreatDoor
