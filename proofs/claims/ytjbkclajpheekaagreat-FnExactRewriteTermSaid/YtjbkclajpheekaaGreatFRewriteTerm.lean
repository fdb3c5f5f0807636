/- For every input the law FnExactRewriteTerm of the program returns true, and its arguments read behind the call as before. Conditions: none. -/
import Derived.Test.YtjbkclajpheekaaGreatPb
import Derived.Test.YtjbkclajpheekaaGreatPd
namespace Go.Proofs.YtjbkclajpheekaaGreat
open Go Go.ChangeShapes Go.WideShapes Go.ChangeAt Go.RowKit Go.Proofs.YtjbkclajpheekaaGreat.Abs
set_option linter.unusedSimpArgs false
set_option linter.unusedVariables false
theorem jv7:Rdr Tryz.prog 26 (λts:List T=>[zl ts]) (λts=>(∀t∈ts,qB t)/\ts.length<=9223372036854775807):=
 Rdr.slice Tryz.underlying26 (by kernel_rfl) (by decide) (λt=>by rw [kA];rfl) jn6
set_option maxRecDepth 100000 in
theorem jhe (os:Os) (started:os.Started) (H:Type) (enc:TypeId × Value->H) :
  ReturnsInHanded {} Tryz.checked os 4 .any (Rows.fnExactRewriteTermSpec.pre6 enc Tryz.prog Tryz.f4 Rows.fnExactRewriteTermRow.domain false) (Rows.fnExactRewriteTermSpec.post enc Tryz.prog Tryz.f4 false true false false):=by
 refine returnsInHanded_of_change (C:=Tryz.checked) Tryz.ownK started (by kernel_rfl) Tryz.func4
  (ChangeSpec.witness6 (enc:=enc) (C:=Tryz.checked) false ⟨#[],#[.agg #[.string ⟨#[]⟩,.slice none 0 0],.slice none 0 0],[]⟩ 8 (by kernel_rfl) (by kernel_rfl) (by kernel_rfl) (by kernel_rfl)) ?_
 intro W base args ds gs before hval0 hW _ _;have hval:∀(j:Nat) t v,Tryz.f4.params[j]? = some t->args[j]? = some v->Value.okWide Tryz.prog W .any base t v:=hval0;have hW':=hW;obtain ⟨p,q,hA0,hV,rfl,_,_⟩:=hW;have hA:DataW.TrodAll enc Tryz.prog W 0 (λ_=>true) true Tryz.f4.params.toList args.toList ds p:=hA0;rw [Tryz.params4] at hA hval;obtain ⟨v0,v1,d0,d1,p0,p1,rfl,rfl,rfl,h0,h1⟩:=trodAll_two hA;obtain ⟨rfl,rfl⟩:=trodVars_none hV;obtain ⟨cs0,rfl,_⟩:=okWide_struct Tryz.underlying28 (hval 0 28 v0 rfl rfl);obtain ⟨a1,l1,c1,rfl⟩:=okWide_slice Tryz.underlying26 (hval 1 26 v1 rfl rfl);have h0k:=h0;obtain ⟨fuel0,hf0⟩:=h0;have h1k:=h1;obtain ⟨fuel1,hf1⟩:=h1;clear hA0 hval0;simp only [qO] at hW';have hlt0:∀y∈p0,y.block < W.heap.size:=λy hy=>by simpa using hW'.lt y (by simp [hy])
 have hlt1:∀y∈p1,y.block < W.heap.size:=λy hy=>by simpa using hW'.lt y (by simp [hy])
 obtain ⟨t,hp0,hr0,_⟩:=jn6 H enc W 0 (λ_=>true) true fuel0 _ _ hf0;have hr0:=K1 hr0;obtain ⟨rs,hp1,hr1,_⟩:=jv7 H enc W 0 (λ_=>true) true fuel1 _ _ hf1;have hr1:=jp5 hr1 rfl;have hlaw:=jqp (X:=Xf) rfl ((by have:=jsY t rs hp0 hp1;rw [show tm t = .agg (jm t) from by rw [kA]] at this;exact this));refine (hlaw.2 W (λ_=>False) [.agg cs0,.slice a1 l1 c1] trivial (λ_ h=>h.elim) (λ_ h=>h.elim) (by simp only [jk];exact ⟨_,_,rfl,hr0,_,_,rfl,hr1,rfl⟩)).mono ?_;rintro e W' ⟨v,rfl,hn0,hv⟩;have hn:=hn0.kit;simp only [rel] at hv;subst hv;exact ⟨_,rfl,_,_,_,[],_,[],hW',trodAll_mk1 (shut_bool Tryz.underlying4 true),trodAll_mk2 (Below.trod Tryz.laid (by kernel_rfl) (jjN (by kernel_rfl)) h0k hn hlt0) (Below.trod Tryz.laid (by kernel_rfl) (jjN (by kernel_rfl)) h1k hn hlt1),rfl,hn.frame _,λh=>by cases h⟩
theorem FnExactRewriteTerm_holds:Rows.FnExactRewriteTermSaid:=
 OpenClaim.holds_of_wide 4 Tryz.f4 rfl rfl rfl rfl rfl rfl rfl ⟨rfl,rfl,rfl,rfl,rfl⟩ rfl rfl rfl rfl rfl (by kernel_rfl) Tryz.func4 (by kernel_rfl)
  (jjN (by kernel_rfl)) (by unfold Func.isWrapper;first|(rw [jq (by decide +kernel)];kernel_rfl)|(rw [jp (by decide +kernel)];exact ⟨rfl,rfl⟩))
  (λos started H enc _=>jhe os started H enc)
#print axioms FnExactRewriteTerm_holds
end Go.Proofs.YtjbkclajpheekaaGreat
