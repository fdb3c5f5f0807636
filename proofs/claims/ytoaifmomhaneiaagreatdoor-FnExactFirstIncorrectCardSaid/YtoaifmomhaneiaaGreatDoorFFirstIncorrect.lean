/- For every input the law FnExactFirstIncorrect of the program returns true, and its arguments read behind the call as before. Conditions: the three tables of the library are laid as the program's text lays them. -/
import Derived.Test.YtoaifmomhaneiaaGreatDoorPf
import Derived.Test.YtoaifmomhaneiaaGreatDoorPz
namespace Go.Proofs.YtoaifmomhaneiaaGreatDoor
open Go Go.ChangeShapes Go.WideShapes Go.ChangeAt Go.RowKit Go.Proofs.YtoaifmomhaneiaaGreatDoor.Abs
set_option linter.unusedSimpArgs false
set_option linter.unusedVariables false
set_option maxRecDepth 100000 in
theorem ZV (os:Os) (started:os.Started) (H:Type) (enc:TypeId × Value->H) :
  ReturnsInHanded {} Tryz.checked os 6 .any (λw args=>(Rows.fnExactFirstIncorrectSpec.pre enc Tryz.prog Tryz.f6 Rows.fnExactFirstIncorrectRow.domain false w args/\laidMetH Tryz.prog Rows.fnExactFirstIncorrectRow.laid w)/\sizedMet enc Tryz.prog Tryz.f6 (OpenSpec.ofChange Rows.fnExactFirstIncorrectSpec) false w args) (Rows.fnExactFirstIncorrectSpec.post enc Tryz.prog Tryz.f6 false true false false):=by
 refine returnsInHanded_of_change_and (C:=Tryz.checked) (X:=λw _=>laidMetH Tryz.prog Rows.fnExactFirstIncorrectRow.laid w) (λ_ _ _ hh h=>h.of_heap hh) Tryz.ownK started (by kernel_rfl) Tryz.func6
  (ChangeSpec.witness_at (enc:=enc) (C:=Tryz.checked) (os:=os) (X:=λw _=>laidMetH Tryz.prog Rows.fnExactFirstIncorrectRow.laid w) false (jhP os) #[.agg #[.slice none 0 0,.slice none 0 0]] 8 rfl (by kernel_rfl) (by kernel_rfl) (by kernel_rfl) (by kernel_rfl) (by kernel_rfl) (Zf os _)) ?_
 intro W base args ds gs before hval0 hW _ _ hL0 _;have hJ:jd6 W:=je2 hL0;have hval:∀(j:Nat) t v,Tryz.f6.params[j]? = some t->args[j]? = some v->Value.okWide Tryz.prog W .any base t v:=hval0;have hW':=hW;obtain ⟨p,q,hA0,hV,rfl,_,_⟩:=hW;have hA:DataW.TrodAll enc Tryz.prog W 0 (λ_=>true) true Tryz.f6.params.toList args.toList ds p:=hA0;rw [Tryz.params6] at hA hval;obtain ⟨v0,d0,rfl,rfl,h0⟩:=trodAll_one hA;obtain ⟨rfl,rfl⟩:=trodVars_none hV;obtain ⟨cs0,rfl,_⟩:=okWide_struct Tryz.underlying25 (hval 0 25 v0 rfl rfl);have h0k:=h0;obtain ⟨fuel0,hf0⟩:=h0;clear hA0 hval0;simp only [JD] at hW';have hlt0:∀y∈p,y.block < W.heap.size:=λy hy=>by simpa using hW'.lt y (by simp [hy])
 obtain ⟨p,hp0,hr0,_⟩:=jaY H enc W 0 (λ_=>true) true fuel0 _ _ hf0;have hr0:=Y8 hJ _ _ (jj9 p) (qX hr0);have hlaw:=jsE rfl (jeL p hp0);refine (hlaw.2 W (λb=>b=ja2) [.agg cs0] hJ (λ_ h=>h) (λb h=>by rw [h];exact jbZ hJ) (by simp only [jF];exact ⟨_,_,rfl,hr0,rfl⟩)).mono ?_;rintro e W' ⟨v,rfl,hn0,hv⟩;have hn:=hn0.kit;simp only [rel] at hv;subst hv;exact ⟨_,rfl,_,_,_,[],_,[],hW',trodAll_mk1 (shut_bool Tryz.underlying4 true),trodAll_mk1 (jpm Tryz.laidO (by kernel_rfl) (ja7 (by kernel_rfl)) h0k hn hlt0),rfl,hn.frame _,λh=>by cases h⟩
theorem J0:Tryz.pinned.checked.prog.funcNamed "loop.example/g00892/laws.FnExactFirstIncorrect" = some 6:=by kernel_rfl
theorem QU:Tryz.pinned.checked.prog.inPlace 6=Rows.fnExactFirstIncorrectRow.inPlace:=by kernel_rfl
theorem QX:Tryz.pinned.checked.prog.unfollowed 6=true:=by kernel_rfl
theorem QW:Tryz.pinned.checked.prog.recurses 6=true:=by kernel_rfl
theorem QV:Tryz.pinned.checked.prog.varsNamed 6=Rows.fnExactFirstIncorrectRow.named:=by kernel_rfl
theorem ZU:joinedFacts Tryz.pinned.checked.prog 6 Tryz.f6 Rows.fnExactFirstIncorrectSpec Rows.fnExactFirstIncorrectRow=true:=by
 unfold joinedFacts;rw [Qc,Zp,QU,QX,QW,QV]
 kernel_rfl
theorem QY:Rows.fnExactFirstIncorrectRow.wfByText (OpenSpec.ofChange Rows.fnExactFirstIncorrectSpec)=true:=by kernel_rfl
theorem QT:false=Rows.fnExactFirstIncorrectRow.goesBy Tryz.pinned.checked.prog:=by kernel_rfl
theorem YH:Tryz.f6.isInstance Tryz.pinned.checked.prog Rows.fnExactFirstIncorrectRow.origin Rows.fnExactFirstIncorrectRow.targs:=ja7 (by kernel_rfl)
theorem YI:Tryz.f6.isWrapper Tryz.pinned.checked.prog Rows.fnExactFirstIncorrectRow.wrapper Rows.fnExactFirstIncorrectRow.mainSum:=by unfold Func.isWrapper;first|(rw [jp (by decide +kernel)];kernel_rfl)|(rw [jq (by decide +kernel)];exact ⟨rfl,rfl⟩)
theorem FnExactFirstIncorrect_holds:Rows.FnExactFirstIncorrectSaid:=
 OpenClaim.holds_of_wide 6 Tryz.f6 rfl rfl rfl rfl rfl rfl rfl ⟨rfl,rfl,rfl,rfl,rfl⟩ rfl rfl rfl rfl rfl J0 Tryz.func6 ZU YH YI
  (λos started H enc _=>ZV os started H enc)
theorem Qq:Tryz.prog.wantsStandIn 25=false:=by kernel_rfl
theorem FnExactFirstIncorrect_card:Rows.FnExactFirstIncorrectCardSaid:=
 Claim7.holds_tied_plain_at .later [] [.data,.data,.data] true (true, "91072cfe497c3e58a53c556e0bd5e4bbb0a70d9d1513207670f20a727d342b04") false
  FnExactFirstIncorrect_holds (λ_ h=>by cases h) QY (λ_ h=>by cases h) fnExactFirstIncorrect_row_tie rfl ⟨rfl,rfl⟩ (by kernel_rfl) rfl
  (λf fn hf hfn=>by
   obtain rfl:f=6:=Yx (J0.symm.trans hf) |>.symm;obtain rfl:fn=Tryz.f6:=(Yx (Tryz.func6.symm.trans hfn)).symm;exact ⟨jbU,λj t ht=>by
    rw [Tryz.params6] at ht;have ht:=jsp ht;simp only [jt8,kW,jcv,jdF] at ht;rcases ht with rfl
    .exact Qq⟩)
  QT
#print axioms FnExactFirstIncorrect_card
end Go.Proofs.YtoaifmomhaneiaaGreatDoor
