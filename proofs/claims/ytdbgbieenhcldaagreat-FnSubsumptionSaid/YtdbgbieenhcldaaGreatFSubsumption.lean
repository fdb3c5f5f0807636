/- For every input the law FnSubsumption of the program returns true, and its argument reads behind the call as before. Conditions: none. -/
import Derived.Test.YtdbgbieenhcldaaGreatPe
import Derived.Test.YtdbgbieenhcldaaGreatPz
namespace Go.Proofs.YtdbgbieenhcldaaGreat
open Go Go.ChangeShapes Go.WideShapes Go.ChangeAt Go.RowKit Go.Deep Go.Proofs.YtdbgbieenhcldaaGreat.Abs
set_option linter.unusedSimpArgs false
set_option linter.unusedVariables false
theorem ju0 {n:Int} (h:(Lit.int .u8 n).wf=true):0<=n/\n<=255:=by
 have h1:IntKind.u8.min=0:=rfl;have h2:IntKind.u8.max=255:=rfl;simp [Lit.wf,h1,h2] at h;exact h
theorem jqu:Rdr Tryz.prog 5 cy (λn=>0<=n/\n<=255):=by
 intro H enc w base spare held fuel cs x h;obtain ⟨n,rfl,_,hw⟩:=DataW.trod_int Tryz.underlying5 h;exact ⟨n,ju0 hw,by simp [jr,rel],by simp [jo,Value.oneCell']⟩
theorem joy:Rdr Tryz.prog 22 (λl:List Int=>[jZ l]) (λl=>(∀n∈l,0<=n/\n<=255)/\l.length<=9223372036854775807):=
 Rdr.slice Tryz.underlying22 (by kernel_rfl) (by decide) (λ_=>rfl) jqu
set_option maxRecDepth 100000 in
theorem KI (os:Os) (started:os.Started) (H:Type) (enc:TypeId × Value->H) :
  ReturnsInHanded {} Tryz.checked os 3 .any (Rows.fnSubsumptionSpec.pre6 enc Tryz.prog Tryz.f3 Rows.fnSubsumptionRow.domain false) (Rows.fnSubsumptionSpec.post enc Tryz.prog Tryz.f3 false true false false):=by
 refine returnsInHanded_of_change (C:=Tryz.checked) Tryz.ownK started (by kernel_rfl) Tryz.func3
  (ChangeSpec.witness6 (enc:=enc) (C:=Tryz.checked) false ⟨#[],#[.slice none 0 0],[]⟩ 8 (by kernel_rfl) (by kernel_rfl) (by kernel_rfl) (by kernel_rfl)) ?_
 intro W base args ds gs before hval0 hW _ _;have hval:∀(j:Nat) t v,Tryz.f3.params[j]? = some t->args[j]? = some v->Value.okWide Tryz.prog W .any base t v:=hval0;have hW':=hW;obtain ⟨p,q,hA0,hV,rfl,_,_⟩:=hW;have hA:DataW.TrodAll enc Tryz.prog W 0 (λ_=>true) true Tryz.f3.params.toList args.toList ds p:=hA0;rw [Tryz.params3] at hA hval;obtain ⟨v0,d0,rfl,rfl,h0⟩:=trodAll_one hA;obtain ⟨rfl,rfl⟩:=trodVars_none hV;obtain ⟨a0,l0,c0,rfl⟩:=okWide_slice Tryz.underlying22 (hval 0 22 v0 rfl rfl);have h0k:=h0;obtain ⟨fuel0,hf0⟩:=h0;clear hA0 hval0;simp only [List.append_nil] at hW';have hlt0:∀y∈p,y.block < W.heap.size:=λy hy=>by simpa using hW'.lt y (by simp [hy])
 obtain ⟨code,hp0,hr0,_⟩:=joy H enc W 0 (λ_=>true) true fuel0 _ _ hf0;have hr0:=jiV hr0 rfl;have hlaw:=jtj (X:=Xf) rfl (jaH code hp0);refine (hlaw.2 W (λ_=>False) [.slice a0 l0 c0] trivial (λ_ h=>h.elim) (λ_ h=>h.elim) (by simp only [jr];exact ⟨_,_,rfl,hr0,rfl⟩)).mono ?_;rintro e W' ⟨v,rfl,hn0,hv⟩;have hn:=hn0.kit;simp only [rel] at hv;subst hv;exact ⟨_,rfl,_,_,_,[],_,[],hW',trodAll_mk1 (shut_bool Tryz.underlying4 true),trodAll_mk1 (Below.trod Tryz.laid (by kernel_rfl) (of_decide_eq_true (by kernel_rfl)) h0k hn hlt0),rfl,hn.frame _,λh=>by cases h⟩
theorem FnSubsumption_holds:Rows.FnSubsumptionSaid:=
 OpenClaim.holds_of_wide 3 Tryz.f3 rfl rfl rfl rfl rfl rfl rfl ⟨rfl,rfl,rfl,rfl,rfl⟩ rfl rfl rfl rfl rfl (by kernel_rfl) Tryz.func3 (by kernel_rfl)
  (of_decide_eq_true (by kernel_rfl)) (by unfold Func.isWrapper;first|(rw [if_pos (by decide +kernel)];kernel_rfl)|(rw [if_neg (by decide +kernel)];exact ⟨rfl,rfl⟩))
  (λos started H enc _=>KI os started H enc)
#print axioms FnSubsumption_holds
end Go.Proofs.YtdbgbieenhcldaaGreat
