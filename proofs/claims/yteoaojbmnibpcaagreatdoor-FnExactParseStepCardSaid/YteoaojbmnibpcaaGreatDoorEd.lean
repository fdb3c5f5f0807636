/- Ed -/
import Derived.Test.YteoaojbmnibpcaaGreatDoorEc
import Derived.Deep.Slices
import Derived.Sort.Grow
import Derived.Sort.EncStr
import Derived.Sort.AssemblyPlain
import Derived.Lib.BitFns
import Derived.Lib.ItoaNum
import Derived.Lib.Join
import Derived.Lib.SplitLaws
import Derived.Lib.IndexMore
import Derived.Lib.AtoiAll
namespace Go.Proofs.YteoaojbmnibpcaaGreatDoor.Abs
open Go Go.RowKit
set_option linter.unusedSimpArgs false
set_option linter.unusedVariables false
noncomputable section
def LeF(fr frC:Nat->V):Prop:=∀i,fr i = .top\/fr i=frC i
theorem LeF.refl(fr:Nat->V):LeF fr fr:=λ_=>Or.inr rfl
theorem LeF.put{fr frC:Nat->V}(h:LeF fr frC)(dst:Option Tmp){v v':V}(hv:v = .top\/v=v'):LeF (zY fr dst v) (zY frC dst v'):=by
 cases dst with
 |none=>exact h
 |some d=>
  intro i;simp only[zY];by_cases e:i=d
  .subst e;rw[jf,jf];exact hv
  .rw [upd_ne _ _ e,upd_ne _ _ e];exact h i
theorem LeF.rel{fr frC:Nat->V}(h:LeF fr frC)(n:Nat){w:World}{O:Nat->Prop}{m:jG}{x:Operand}{v:Value}(hr:relV w O m (QS n frC x) v):relV w O m (QS n fr x) v:=by
 cases x with
 |tmp t=>
  simp only[QS]at hr⊢;cases hb:Nat.blt t n with
  |false=>simp[relV]
  |true=>
   rw[hb]at hr;simp only[cond_true]at hr⊢;rcases h t with e|e
   .rw [e];simp[relV]
   .rw [e];exact hr
 |const v=>exact hr
 |global g=>exact hr
 |func f=>exact hr
theorem jB.le{P:Program}{X:Ctx}{o:Oper}{n:Nat}{fr frC:Nat->V}{t:Tx}(h:LeF fr frC)(ht:jB P X o (QS n fr) t):jB P X o (QS n frC) t:=
 λw O0 m st ev hs hr hx hc=>ht w O0 m st ev hs hr (λx hx'=>h.rel n (hx x hx')) hc
def jbF(gs:List GE)(frC:Nat->V):Prop:=∀g∈gs,∀t,frC g.gd = .d t->qx t g.want=some true->g.v=frC g.dst
theorem jcB{i d:Nat}{w:Bool}{v:V} :∀{gs:List GE},jhR i d w gs=some v-> ∃g∈gs,g.dst=i/\g.gd=d/\g.want=w/\g.v=v
 | [],h=>by cases h
 |g::gs,h=>by
  simp only[jhR]at h;cases hb:(Nat.beq g.dst i && (Nat.beq g.gd d && (g.want == w)))with
  |true=>
   rw[hb]at h;simp only[cond_true,Option.some.injEq]at h;simp only[Bool.and_eq_true,beq_iff_eq]at hb;exact⟨g,by simp,Nat.eq_of_beq_eq_true hb.1,Nat.eq_of_beq_eq_true hb.2.1,hb.2.2,h⟩
  |false=>
   rw[hb]at h;simp only[cond_false]at h;obtain⟨g',h1,h2⟩:=jcB h;exact⟨g',by simp[h1],h2⟩
theorem jbF.over{gs:List GE}{fr frC:Nat->V}(h:jbF gs frC)(hf:LeF fr frC){d:Nat}{w:Bool}{t:A}(hd:frC d = .d t)(hw:qx t w=some true):LeF (jep gs d w fr) frC:=by
 intro i;unfold jep;cases hl:jhR i d w gs with
 |none=>exact hf i
 |some v=>
  obtain⟨g,h1,h2,h3,h4,h5⟩:=jcB hl;subst h2 h3 h4 h5;exact Or.inr (h g h1 t hd hw)
theorem jbF.drop{gs:List GE}{frC:Nat->V}(h:jbF gs frC)(dst:Option Tmp)(v:V):jbF (Z9 gs dst) (zY frC dst v):=by
 cases dst with
 |none=>exact h
 |some d=>
  intro g hg t ht hw;simp only[Z9,List.mem_filter,Bool.and_eq_true,Bool.not_eq_true']at hg;obtain⟨h1,h2,h3⟩:=hg;have e2:g.dst≠d:=λe=>by rw[e]at h2;simp at h2
  have e3:g.gd≠d:=λe=>by rw[e]at h3;simp at h3
  simp only[zY]at ht⊢;rw[upd_ne _ _ e3]at ht;rw[upd_ne _ _ e2];exact h g h1 t ht hw
theorem jbF.add{gs:List GE}{frC:Nat->V}(h:jbF gs frC)(dst:Option Tmp){d:Nat}{want:Bool}{v u:V}{t:A}(hd:frC d = .d t)(hv:qx t want=some true->u=v):jbF (jss gs dst d want v) (zY frC dst u):=by
 cases dst with
 |none=>exact h
 |some x=>
  simp only[jss];cases hb:Nat.beq x d with
  |true=>exact h.drop (some x) u
  |false=>
   simp only[cond_false];have hne:d≠x:=λe=>by subst e;simp at hb
   intro g hg t' ht hw;rcases List.mem_cons.mp hg with rfl|hg
   .simp only[zY]at ht⊢;rw[upd_ne _ _ hne,hd]at ht;cases ht;rw[jf];exact(hv hw).symm
   .exact h.drop (some x) u g hg t' ht hw
theorem jk8{t:A}{want:Bool}{x:Xl}{a:A}(h:pG t want x=some a):(qx t want=some true/\x=some a)\/(qx t want=some false/\a = .val undef):=by
 unfold pG at h;unfold qx;split at h
 .split at h
  .rename_i e;exact Or.inl ⟨by simp[e],h⟩
  .rename_i e;cases h;exact Or.inr ⟨by simp[e],rfl⟩
 .cases h;exact Or.inr ⟨rfl,rfl⟩
 .cases h
theorem Zu{ops:Array Oper}{o:Oper}{n j d:Nat}{want b:Bool}{frC:Nat->V}{t:A}(hg:o.guard=some (j,want))(hj:jnN ops j=some d)(hd:d<n)(ht:frC d = .d t)(hw:qx t want=some b):JG ops n o frC b:=by
 unfold JG;rw[hg];have h1:(ops[j]?).bind (·.dst)=some d:=by
  unfold jnN at hj;cases ho:ops[j]? with
  |none=>rw[ho]at hj;cases hj
  |some o'=>rw[ho]at hj;exact hj
 unfold qx at hw;split at hw
 .rename_i c;cases hw;refine⟨d,_,h1,hd,ht,?_⟩;cases c<;>cases want<;>rfl
 .cases hw;exact⟨d,_,h1,hd,ht,rfl⟩
 .cases hw
section
variable{C:Cfg}{X:Ctx}{M:Node->Xe}{o:Oper}{st:jg}{r:Out}
theorem j8.run{ρ:Operand->V}{κ:V->Xm->Xn->Xe} :∀{x:LX},j8 C.P X M o ρ st x->x.run M κ=some r-> ∃v rds wrs,κ v rds wrs=some r/\jB C.P X o ρ ⟨v,rds,wrs⟩/\ ∀q∈rds,kr st q
 |.fail,_,h=>by cases h
 |.ret v rds wrs,hx,h=>⟨v,rds,wrs,h,hx.1,hx.2⟩
 |.bnd x k,hx,h=>by
  simp only[LX.run,Option.bind_eq_some_iff]at h;obtain⟨a,h1,h2⟩:=h;exact j8.run (hx a h1) h2
 |.nat x k,hx,h=>by
  simp only[LX.run,Option.bind_eq_some_iff]at h;obtain⟨a,h1,h2⟩:=h;exact j8.run (hx a h1) h2
 |.rows x k,hx,h=>by
  simp only[LX.run,Option.bind_eq_some_iff]at h;obtain⟨a,h1,h2⟩:=h;exact j8.run (hx a h1) h2
 |.cells x k,hx,h=>by
  simp only[LX.run,Option.bind_eq_some_iff]at h;obtain⟨a,h1,h2⟩:=h;exact j8.run (hx a h1) h2
 |.chk b k,hx,h=>by
  simp only[LX.run,brn]at h;split at h
  .rename_i hb;exact j8.run (hx hb) h
  .cases h
 |.node x k,hx,h=>by
  simp only[LX.run,Option.bind_eq_some_iff]at h;obtain⟨a,h1,h2⟩:=h;exact j8.run (hx a h1) h2
 |.cnd a x y,hx,h=>by
  simp only[LX.run,Option.bind_eq_some_iff]at h;obtain⟨t,h1,h2⟩:=h;cases t with
  |true=>exact j8.run (hx.1 h1) h2
  |false=>exact j8.run (hx.2 h1) h2
theorem jlj(hD:zl C.P C.D)(hM:yD X C M)(hS:StM X C M){n:Nat}{fr:Nat->V}{nid:Nat}{κ:V->Xm->Xn->Xe}(h:run1 C M o n fr st nid κ=some r) :
  ∃v rds wrs,κ v rds wrs=some r/\jB C.P X o (QS n fr) ⟨v,rds,wrs⟩/\ ∀q∈rds,kr st q:=by
 unfold run1 at h;have hs:=jd0 (X:=X) (o:=o) (ρ:=QS n fr) (st:=st) hD hM;split at h
 .rename_i v rds e;rw[e]at hs;exact⟨v,rds,[],h,hs.1,hs.2⟩
 .rename_i x rds e;rw[e]at hs;rw[Option.bind_eq_some_iff]at h;obtain⟨a,h1,h2⟩:=h;obtain⟨g1,g2⟩:=hs a h1;exact⟨_,rds,[],h2,g1,g2⟩
 .split at h
  .rename_i hn;exact j8.run (jlP hD hM hS nid hn) h
  .cases h
theorem jmU(hD:zl C.P C.D)(hM:yD X C M)(hS:StM X C M){ops:Array Oper}{n:Nat}{fr frC:Nat->V}{nid:Nat}{gs:List GE}{κ:V->Xm->Xn->List GE->Xe}(hf:LeF fr frC)(hg:jbF gs frC)(h:stepOp C M ops o n fr st nid gs κ=some r) :
  ∃(t:Tx)(v:V)(rds:Xm)(wrs:Xn)(gs':List GE),κ v rds wrs gs'=some r/\AY C.P X ops n o frC t/\(∀q∈t.rds,kr st q)/\(v = .top\/v=t.v)/\t.rds ⊆ rds/\t.wrs=wrs/\jbF gs' (zY frC o.dst t.v):=by
 unfold stepOp at h;split at h
 .rename_i hgd;obtain⟨v,rds,wrs,h1,h2,h3⟩:=jlj hD hM hS h;exact⟨⟨v,rds,wrs⟩,v,rds,wrs,_,h1,Or.inl ⟨by simp[JG,hgd],h2.le hf⟩,h3,Or.inr rfl,λ_ h=>h,rfl,hg.drop _ _⟩
 .rename_i j want hgd;split at h
  .rename_i d hj;split at h
   .rename_i hlt;have hlt:d<n:=by simpa[Nat.blt_eq]using hlt
    split at h
    .rename_i t ht;have htC:frC d = .d t:=by
      rcases hf d with e|e
      .rw [ht]at e;cases e
      .rw [<-e];exact ht
     have skip:qx t want=some false->AY C.P X ops n o frC ⟨.d (.val undef),[],[]⟩:=λhw=>Or.inr ⟨Zu hgd hj hlt htC hw,rfl,rfl⟩;have hs:=jd0 (X:=X) (o:=o) (ρ:=QS n (jep gs d want fr)) (st:=st) hD hM;split at h
     .rename_i a rds e;rw[e]at hs;rw[Option.bind_eq_some_iff]at h;obtain⟨a',h1,h2⟩:=h;rcases jk8 h1 with⟨g1,g2⟩|⟨g1,g2⟩
      .cases g2;exact⟨⟨.d a,rds,[]⟩,_,_,_,_,h2,Or.inl ⟨Zu hgd hj hlt htC g1,hs.1.le (hg.over hf htC g1)⟩,hs.2,Or.inr rfl,λ_ h=>h,rfl,hg.drop _ _⟩
      .subst g2;exact⟨_,_,_,_,_,h2,skip g1,by simp,Or.inr rfl,by simp,rfl,hg.drop _ _⟩
     .rename_i v rds _ e;rw[e]at hs;rw[Option.bind_eq_some_iff]at h;obtain⟨b,h1,h2⟩:=h;cases b with
      |true=>exact⟨⟨v,rds,[]⟩,_,_,_,_,h2,Or.inl ⟨Zu hgd hj hlt htC h1,hs.1.le (hg.over hf htC h1)⟩,hs.2,Or.inl rfl,λ_ h=>h,rfl,hg.add _ htC λ_=>rfl⟩
      |false=>exact⟨_,_,_,_,_,h2,skip h1,by simp,Or.inl rfl,by simp,rfl,hg.add _ htC λe=>by rw[h1]at e;cases e⟩
     .rename_i x rds e;rw[e]at hs;rw[Option.bind_eq_some_iff]at h;obtain⟨a',h1,h2⟩:=h;rcases jk8 h1 with⟨g1,g2⟩|⟨g1,g2⟩
      .obtain ⟨s1,s2⟩:=hs a' g2;exact⟨⟨.d a',rds,[]⟩,_,_,_,_,h2,Or.inl ⟨Zu hgd hj hlt htC g1,s1.le (hg.over hf htC g1)⟩,s2,Or.inr rfl,λ_ h=>h,rfl,hg.drop _ _⟩
      .subst g2;exact⟨_,_,_,_,_,h2,skip g1,by simp,Or.inr rfl,by simp,rfl,hg.drop _ _⟩
     .rw [Option.bind_eq_some_iff]at h;obtain⟨b,h1,h2⟩:=h;cases b with
      |true=>
       obtain⟨v,rds,wrs,g1,g2,g3⟩:=jlj hD hM hS (show run1 C M o n (jep gs d want fr) st nid (λv rds wrs=>κ v rds wrs (Z9 gs o.dst))=some r from h2);exact⟨⟨v,rds,wrs⟩,v,rds,wrs,_,g1,Or.inl ⟨Zu hgd hj hlt htC h1,g2.le (hg.over hf htC h1)⟩,g3,Or.inr rfl,λ_ h=>h,rfl,hg.drop _ _⟩
      |false=>exact⟨_,_,_,_,_,(show κ _ _ _ _=some r from h2),skip h1,by simp,Or.inr rfl,by simp,rfl,hg.drop _ _⟩
    .cases h
   .cases h
  .cases h
theorem jb5(hD:zl C.P C.D)(hM:yD X C M)(hS:StM X C M){ops:Array Oper}{n:Nat}{k:(Nat->V)->jg->List QZ->Xe} :∀(l:List Oper)(nid:Nat)(fr frC:Nat->V)(st:jg)(gs:List GE)(logs:List QZ),LeF fr frC->jbF gs frC->
  evOps C M ops n l nid fr st gs logs k=some r-> ∃(T:List Tx)(L:List QZ)(fr' frC':Nat->V)(st':jg),k fr' st' (logs++L)=some r/\LeF fr' frC'/\T.length=l.length/\L.length=l.length/\
   (∀(i:Nat)(t:Tx)(lg:QZ),T[i]? = some t->L[i]? = some lg->t.rds ⊆ lg.1/\t.wrs=lg.2)/\jl2 C.P X ops n (λf s=>f=frC'/\s=st') l T frC st
 | [],nid,fr,frC,st,gs,logs,hf,hg,h=>⟨[],[],fr,frC,st,by simpa[evOps]using h,hf,rfl,rfl,by simp,rfl,rfl⟩
 |o::os,nid,fr,frC,st,gs,logs,hf,hg,h=>by
  obtain⟨t,v,rds,wrs,gs',h1,h2,h3,h4,h5,h6,h7⟩:=jmU hD hM hS hf hg h;have hf':LeF (zY fr o.dst v) (zY frC o.dst t.v):=hf.put o.dst h4;obtain⟨T,L,fr',frC',st',g1,g2,g3,g4,g5,g6⟩:=jb5 hD hM hS os _ _ (zY frC o.dst t.v) _ gs' _ hf' h7 h1;refine⟨t::T,(rds,wrs)::L,fr',frC',st',by simpa using g1,g2,by simp[g3],by simp[g4],?_,h2,h3,?_⟩
  .intro i t' lg ht hl;cases i with
   |zero=>simp at ht hl;subst ht hl;exact⟨h5,h6⟩
   |succ i=>exact g5 i t' lg (by simpa using ht) (by simpa using hl)
  .rw [h6];exact g6
theorem jnE{w:Wr}{q:Rd}{ps:Xk}(h:cWR w q=some ps)(ha:apart ps=true):K7 w q:=by
 unfold cWR at h;split at h
 .split at h
  .cases h
  .rename_i hb;simp only[K7];rename_i id off _ id' off' _;by_cases e:id=id'
   .exact Or.inr λe'=>hb (by simp[e,e'])
   .exact Or.inl e
 .split at h
  .cases h;simp only[apart,List.all_cons,List.all_nil,Bool.and_true,decide_eq_true_eq]at ha;exact Or.inr ha
  .rename_i hb;refine Or.inl λe=>hb ?_;simp[e]
 .split at h
  .cases h;simp only[apart,List.all_cons,List.all_nil,Bool.and_true,decide_eq_true_eq]at ha;exact Or.inr ha
  .rename_i hb;refine Or.inl λe=>hb ?_;simp[e]
 .trivial
 .trivial
 .trivial
 .split at h
  .cases h
  .rename_i hb;have hne:w.id≠q.id:=λe=>hb (by simp[e]);cases w<;>cases q<;>simp_all [K7,Wr.id,Rd.id]
theorem jsD{w q:Wr}{ps:Xk}(h:cWW w q=some ps)(ha:apart ps=true):K8 w q:=by
 unfold cWW at h;split at h
 .split at h
  .cases h
  .rename_i hb;simp only[K8];rename_i id off _ id' off' _;by_cases e:id=id'
   .exact Or.inr λe'=>hb (by simp[e,e'])
   .exact Or.inl e
 .split at h
  .cases h;simp only[apart,List.all_cons,List.all_nil,Bool.and_true,decide_eq_true_eq]at ha;exact Or.inr ha
  .rename_i hb;refine Or.inl λe=>hb ?_;simp[e]
 .split at h
  .cases h
  .rename_i hb;have hne:w.id≠q.id:=λe=>hb (by simp[e]);cases w<;>cases q<;>simp_all [K8,Wr.id]
theorem qK{ps qs:Xk}(h:apart (ps++qs)=true):apart ps=true/\apart qs=true:=by
 simpa[apart,List.all_append]using h
theorem jky{α:Type}{g:α->Option Xk}{R:α->Prop}(hR:∀b ps,g b=some ps->apart ps=true->R b):∀{bs:List α}{ps:Xk},jg1.cOne g bs=some ps->apart ps=true-> ∀b∈bs,R b
 | [],_,_,_=>by simp
 |b::bs,ps,h,ha=>by
  simp only[jg1.cOne]at h;split at h
  .rename_i x y h1 h2;cases h;obtain⟨a1,a2⟩:=qK ha;intro b' hb;rcases List.mem_cons.mp hb with rfl|hb
   .exact hR _ _ h1 a1
   .exact jky hR h2 a2 b' hb
  .cases h
theorem jbp{α β:Type}{f:α->β->Option Xk}{R:α->β->Prop}(hR:∀a b ps,f a b=some ps->apart ps=true->R a b):∀{as:List α}{bs:List β}{ps:Xk},jg1 f as bs=some ps->apart ps=true-> ∀a∈as,∀b∈bs,R a b
 | [],_,_,_,_=>by simp
 |a::as,bs,ps,h,ha=>by
  simp only[jg1]at h;split at h
  .rename_i x y h1 h2;cases h;obtain⟨a1,a2⟩:=qK ha;intro a' ha';rcases List.mem_cons.mp ha' with rfl|ha'
   .exact jky (hR _) h1 a1
   .exact jbp hR h2 a2 a' ha'
  .cases h
theorem jpY{a b:QZ}{ps:Xk}(h:jnD a b=some ps)(ha:apart ps=true){t u:Tx}(h1:t.rds ⊆ a.1)(h2:t.wrs=a.2)(h3:u.rds ⊆ b.1)(h4:u.wrs=b.2):jn1 t u:=by
 unfold jnD at h;split at h
 .rename_i x y z e1 e2 e3;cases h;obtain⟨a1,a3⟩:=qK ha;obtain⟨a1,a2⟩:=qK a1;refine⟨λw hw q hq=>?_,λw hw q hq=>?_,λw hw q hq=>?_⟩
  .exact jbp (λ_ _ _=>jnE) e1 a1 w (h2 ▸ hw) q (h3 hq)
  .exact jbp (λ_ _ _=>jnE) e2 a2 w (h4 ▸ hw) q (h1 hq)
  .exact jbp (λ_ _ _=>jsD) e3 a3 w (h2 ▸ hw) q (h4 ▸ hq)
 .cases h
theorem jkA{all:List Oper}{o:Oper}{b:QZ} :∀{as:List QZ}{i:Nat}{ps:Xk},jpZ all o b i as=some ps->apart ps=true-> ∀(j:Nat)(a:QZ),as[j]? = some a->(∃d,jb0 all (i+j) d o=true)\/ ∃qs,jnD a b=some qs/\apart qs=true
 | [],_,_,_,_=>by simp
 |a::as,i,ps,h,ha=>by
  simp only[jpZ]at h;split at h
  .rename_i x y h1 h2;cases h;obtain⟨a1,a2⟩:=qK ha;intro j a' hj;cases j with
   |zero=>
    simp at hj;subst hj;split at h1
    .rename_i he;exact Or.inl ⟨2,he⟩
    .unfold jt9 at h1;split at h1
     .rename_i y hy;cases h1;exact Or.inr ⟨_,hy,a1⟩
     .split at h1
      .rename_i he;exact Or.inl ⟨7,he⟩
      .cases h1
   |succ j=>
    rcases jkA h2 a2 j a' (by simpa using hj)with g|g
    .exact Or.inl (by rwa[show i+(j+1)=i+1+j by omega])
    .exact Or.inr g
  .cases h
theorem jkz{all:List Oper} :∀{l:List Oper}{done bs:List QZ}{ps:Xk},ji1 all l done bs=some ps->apart ps=true-> ∀(j:Nat)(o:Oper)(b:QZ),l[j]? = some o->bs[j]? = some b->
  ∀(i:Nat)(a:QZ),i<done.length+j->(done++bs)[i]? = some a->(∃d,jb0 all i d o=true)\/ ∃qs,jnD a b=some qs/\apart qs=true
 | [],_,_,_,_,_=>by simp
 |_::_,_,[],_,h,_=>by cases h
 |o::os,done,b::bs,ps,h,ha=>by
  simp only[ji1]at h;split at h
  .rename_i x y h1 h2;cases h;obtain⟨a1,a2⟩:=qK ha;intro j o' b' ho hb i a hi hia;cases j with
   |zero=>
    simp at ho hb;subst ho hb;have hi:i<done.length:=by simpa using hi
    rw[List.getElem?_append_left hi]at hia;simpa using jkA h1 a1 i a hia
   |succ j=>
    exact jkz h2 a2 j o' b' (by simpa using ho) (by simpa using hb) i a (by simp;omega) (by simpa using hia)
  .cases h
theorem jg9{all:List Oper}{i:Nat} :∀{d:Nat}{o:Oper},jb0 all i d o=true->jfv .any all.toArray i d o
 |0,_,h=>by cases h
 |d+1,o,h=>by
  unfold jb0 at h;rw[List.any_eq_true]at h;obtain⟨e,h1,h2⟩:=h;rw[Bool.and_eq_true,Bool.or_eq_true]at h2;refine⟨e,by simpa using h1,h2.1,?_⟩;rcases h2.2 with h3|h3
  .exact Or.inl (Nat.eq_of_beq_eq_true h3)
  .split at h3
   .rename_i ok hok;exact Or.inr ⟨ok,by simpa using hok,jg9 h3⟩
   .cases h3
theorem jnT(hD:zl C.P C.D)(hM:yD X C M)(hS:StM X C M)(hm:C.P.follows .mixedOrders=true){id:Nat}{ops:Array Oper}{draw:Bool}(hx:Jp (.region id ops draw)=true){s:St}{κ:St->Xe}(h:evReg C M ops.toList draw s κ=some r)
  {w0:World} {Z0 O0:Nat->Prop} {shv:Option (List Hd)} {m:jG} {a:Act} {w:World} {Q:Exit->Act->World->Prop} (hs:Sim X w0 Z0 O0 shv m s a w)
  (hQ:∀s' m a w,s'.n=s.n->κ s'=some r->Sim X w0 Z0 O0 shv m s' a w->Q .normal a w):(Code.region id ops draw).wp C.P Q a w:=by
 unfold evReg at h;obtain⟨T,L,fr',frC',st',h1,h2,h3,h4,h5,h6⟩:=jb5 hD hM hS _ _ _ s.fr _ [] _ (LeF.refl _) (by intro g hg;cases hg) h;rw[List.nil_append]at h1;have h1b:(!draw || jlf ops.toList L)=true/\κ ⟨s.n,fr',st',s.nx+8*ops.toList.length,s.sh⟩=some r:=by
  simp only[brn]at h1;split at h1
  .exact jmD h1
  .cases h1
 have hops:ops=ops.toList.toArray:=by simp
 rw[hops];refine jdv (T:=T) (K:=λf s=>f=frC'/\s=st') hm hs ?_ h6 ?_
 .intro hd;subst hd;simp only[Jp,Bool.not_true,Bool.false_or]at hx h1b;refine⟨hx,h3,?_⟩;have hr:=h1b.1;unfold jlf at hr;split at hr
  .rename_i ps hps;intro i j oj ti tj hij hoj hti htj he;have hoj':ops.toList[j]? = some oj:=by simpa using hoj
   have hjl:j<L.length:=by
    rw[h4];have:=(List.getElem?_eq_some_iff.mp hoj').1;exact this
   have hil:i<L.length:=by omega
   obtain⟨p1,p2⟩:=h5 j tj _ htj (List.getElem?_eq_getElem hjl);obtain⟨q1,q2⟩:=h5 i ti _ hti (List.getElem?_eq_getElem hil);rcases jkz hps hr j oj _ hoj' (List.getElem?_eq_getElem hjl) i _ (by simpa using hij) (show([]++L)[i]? = _ from List.getElem?_eq_getElem hil)with⟨d,g⟩|⟨qs,g1,g2⟩
   .exact absurd (jg9 g) (he d)
   .exact jpY g1 g2 q1 q2 p1 p2
  .cases hr
 .rintro fr st m a w ⟨rfl,rfl⟩ hs';refine hQ ⟨s.n,fr',st,s.nx+8*ops.toList.length,s.sh⟩ m a w rfl h1b.2 ?_;exact⟨hs'.defers,hs'.tsz,hs'.os,hs'.tape,hs'.output,hs'.size,hs'.keep,hs'.new,hs'.sto,λi v hi=>by
   rcases h2 i with e|e
   .show relV _ _ _ (fr' i) v;rw[e];simp[relV]
   .show relV _ _ _ (fr' i) v;rw[e];exact hs'.fr i v hi,hs'.sh,hs'.shf⟩
end
end
noncomputable section
theorem jed{w:World}{O:Nat->Prop}{m:jG}{mask:Nat}{fr:Nat->V} :∀(n i:Nat)(us:Xh),us.length=n->(∀j u,us[j]? = some u->relV w O m (fr (i+j)) u)->jb w O m (jaT mask fr n i) us
 |0,_,us,hl,_=>by simp only[jaT,jb];exact List.length_eq_zero_iff.mp hl
 |n+1,i,[],hl,_=>by cases hl
 |n+1,i,u::us,hl,h=>by
  simp only[jaT,jb];refine⟨u,us,rfl,?_,jed n (i+1) us (by simpa using hl) λj x hx=>by rw[show i+1+j=i+(j+1) by omega];exact h (j+1) x (by simpa using hx)⟩;split
  .exact h 0 u rfl
  .simp [relV]
theorem jeo{ids:Xf}{m m':jG}(h:∀q id,ids[q]? = some id->m' q=m id):∀{l r:Xf},jf3 ids l=some r->r.map m'=l.map m
 | [],r,e=>by cases e;rfl
 |x::l,r,e=>by
  simp only[jf3]at e;split at e
  .rename_i i r' h1 h2;cases e;obtain⟨q,e1,e2⟩:=zQ h1;have e1:i=q:=by omega
   subst e1;simp only[List.map_cons];rw[h _ _ e2,jeo h h2]
  .cases e
theorem jgR{M:Node->Xe}{f:FuncId}{p:Xf}{mask:Nat}{s:St}{r:Out}{X:Ctx}{w0:World}{Z0 O0:Nat->Prop}{shv:Option (List Hd)}{m:jG}{a:Act}{w:World}
  (h:again M f p mask s=some r) (hs:Sim X w0 Z0 O0 shv m s a w) :
  ∃fr objs sh m',M (.head f p fr objs sh)=some r/\Sim X w0 Z0 O0 shv m' (St.of s.n fr objs sh) a w/\ ∀b,Mz m' (St.of s.n fr objs sh).st b->Mz m s.st b:=by
 unfold again at h;dsimp only at h;split at h;rotate_left
 .cases h
 rename_i hnd;generalize reach s.st 400 (QD (jaT mask s.fr s.n 0)++shL s.sh) []=ids at h hnd;have hnd:=J1 hnd;split at h;rotate_left
 .cases h
 rename_i sh2 hsh;generalize e1:qy (qf ids (jaT mask s.fr s.n 0)) ids.length=q1 at h;obtain⟨fr2,os1⟩:=q1;dsimp only at h;generalize e3:zU (ids.map λid=>jc4 ids (s.st id)) (ids.length+os1.length)=q3 at h;obtain⟨ob,os3⟩:=q3;dsimp only at h;refine⟨_,_,_,YC ids (os1.length+os3.length) m,h,?_⟩;generalize hM':YC ids (os1.length+os3.length) m=m';have m1:∀q id,ids[q]? = some id->m' q=m id:=λq id hq=>by rw[<-hM'];exact jf0 hq
 have m2:∀i,ids.length<=i->i<ids.length+os1.length+os3.length->m' i=some .none:=λq h1 h2=>by
  rw[<-hM'];simp only[YC];rw[if_neg (by omega),if_pos (by omega)]
 have m3:∀i,ids.length+os1.length+os3.length<=i->m' i=none:=λq h1=>by
  rw[<-hM'];simp only[YC];rw[if_neg (by omega),if_neg (by omega)]
 have n1:yc os1:=by have:=yR (qf ids (jaT mask s.fr s.n 0)) ids.length;rw[e1]at this;exact this
 generalize hst:jL (ob++os1.map (trO mask)++os3.map (trO mask))=st';obtain⟨l3,t1,t2,t3⟩:=jmw w (Ow O0 m' st') m' (trO mask) (λk=>by unfold trO;dsimp only;split;exact Or.inr rfl;exact Or.inl rfl) n1 e3 m2;rw[hst]at t1 t2 t3;have hal:∀i id,ids[i]? = some id->(st' i).alive=(s.st id).alive:=by
  intro i id hi;rcases t1 i id hi with h|⟨cs,cs',h1,h2,_⟩
  .rw [h,jc5]
  .rw [h1,h2];rfl
 have hren:(∀b,Ow O0 m' st' b->Ow O0 m s.st b)-> ∀(cs:Xj) us,jb w (Ow O0 m s.st) m cs us->jb w (Ow O0 m' st') m' (qf ids cs) us:=
  λhsub cs us h=>qg (MonoW.sub hsub) (λq id hq hd h=>by rw[m1 q id hq];exact h) _ _ h
 obtain⟨hsto,hmz⟩:=Sto.pick (X:=X) (w:=w) (O0':=O0) (m':=m') (st':=st') hs.sto hs.sto.jn (λb hb=>Or.inl hb) (λi=>ids[i]?) (λi=>by
   by_cases hi:i<ids.length
   .have hg:ids[i]? = some ids[i]:=List.getElem?_eq_getElem hi;rcases t1 i _ hg with h1|⟨cs,cs',h1,h2,h3⟩
    .cases hc:s.st ids[i]with
     |dead=>rw[hc]at h1;exact Or.inl ⟨h1,by rw[m1 i _ hg];exact hs.sto.fresh _ hc⟩
     |gone=>rw[hc]at h1;exact Or.inr (Or.inl h1)
     |box cs=>
      rw[hc]at h1;exact Or.inr (Or.inr (Or.inr ⟨_,hg,m1 i _ hg,Or.inr ⟨cs,_,hc,h1,λhsub _ us hus=>hren hsub _ _ hus⟩⟩))
     |row k xs=>rw[hc]at h1;exact Or.inr (Or.inr (Or.inr ⟨_,hg,m1 i _ hg,Or.inl ⟨⟨k,xs,Or.inl h1⟩,by rw[hc];exact h1.symm⟩⟩))
     |fro k xs=>rw[hc]at h1;exact Or.inr (Or.inr (Or.inr ⟨_,hg,m1 i _ hg,Or.inl ⟨⟨k,xs,Or.inr (Or.inl h1)⟩,by rw[hc];exact h1.symm⟩⟩))
     |tre f k xs=>rw[hc]at h1;exact Or.inr (Or.inr (Or.inr ⟨_,hg,m1 i _ hg,Or.inl ⟨⟨k,xs,Or.inr (Or.inr (Or.inl ⟨f,h1⟩))⟩,by rw[hc];exact h1.symm⟩⟩))
     |map xs=>rw[hc]at h1;exact Or.inr (Or.inr (Or.inr ⟨_,hg,m1 i _ hg,Or.inl ⟨⟨0,xs,Or.inr (Or.inr (Or.inr h1))⟩,by rw[hc];exact h1.symm⟩⟩))
    .exact Or.inr (Or.inr (Or.inr ⟨_,hg,m1 i _ hg,Or.inr ⟨cs,cs',h1,h2,λhsub _ us hus=>h3 us (hren hsub _ _ hus)⟩⟩))
   .by_cases hi':i<ids.length+os1.length+os3.length
    .obtain ⟨k,hk⟩:=t2 i (by omega) hi';exact Or.inr (Or.inr (Or.inl ⟨⟨k,hk⟩,m2 i (by omega) hi'⟩))
    .exact Or.inl ⟨t3 i (by omega),m3 i (by omega)⟩)
  (λi i' id h1 h2 _ _=>(List.getElem?_inj (List.getElem?_eq_some_iff.mp h1).1 hnd).mp (h1.trans h2.symm))
  (λi id hd b h1 h2 h3 h4 hb=>(hs.sto.blk id hd b (by rw[<-hal i id h1];exact h2) h3 h4).2 hb)
 have hsub:∀b,Ow O0 m' st' b->Ow O0 m s.st b:=λb hb=>hb.imp id (hmz b);have hres:Sim X w0 Z0 O0 shv m' ⟨s.n,λi=>fr2.getD i .top,st',(ob++os1.map (trO mask)++os3.map (trO mask)).length,sh2⟩ a w:=by
  refine⟨hs.defers,hs.tsz,hs.os,hs.tape,hs.output,hs.size,hs.keep,λb hb=>hs.new b (hmz b hb),hsto,?_,?_,hs.shf⟩
  .intro i v hv;have g:=jed (mask:=mask) (fr:=s.fr) s.n 0 a.tmps.toList (by rw[Array.length_toList,hs.tsz]) λj u hu=>by
    rw[Nat.zero_add];exact hs.fr j u (by simpa using hu)
   have g:=yS _ ids.length _ (λi h1 h2=>m2 i h1 (by rw[e1]at h2;dsimp only at h2;omega)) (hren hsub _ _ g)
   rw[e1]at g;show relV w (Ow O0 m' st') m' (fr2.getD i .top) v;cases hc:fr2[i]? with
   |none=>rw[List.getD_eq_getElem?_getD,hc];simp[relV]
   |some c=>
    obtain⟨u,k1,k2⟩:=yT g hc;have hv':a.tmps.toList[i]? = some v:=by simpa using hv
    rw[hv']at k1;cases k1;rw[List.getD_eq_getElem?_getD,hc];exact k2
  .have:=hs.sh;unfold jsf at hsh;split at hsh
   .rename_i h0;cases hsh;rw[h0]at this;exact this
   .rename_i l0 hl0;split at hsh
    .rename_i r hr;cases hsh;rw[hl0]at this;show(some r).map _=_;rw[<-this];simp only[Option.map_some];rw[jeo m1 hr]
    .cases hsh
 subst hst;exact⟨hres,hmz⟩
theorem jkb{α:Type}{p q p' q':List α}{x y:α}(h:p++x::q=p'++y::q'):(p=p'/\x=y/\q=q')\/ ∃p2 q2 p3 q3,p++q=p2++y::q2/\p'++q'=p3++x::q3/\p3++q3=p2++q2:=by
 rcases List.append_eq_append_iff.1 h with⟨a',rfl,ha⟩|⟨c',rfl,hc⟩
 .cases a' with
  |nil=>
   simp only[List.nil_append,List.cons.injEq]at ha;exact Or.inl ⟨by simp,ha.1,ha.2⟩
  |cons z a'=>
   simp only[List.cons_append,List.cons.injEq]at ha;obtain⟨rfl,rfl⟩:=ha;exact Or.inr ⟨p++a',q',p,a'++q',by simp,by simp,by simp⟩
 .cases c' with
  |nil=>
   simp only[List.nil_append,List.cons.injEq]at hc;exact Or.inl ⟨by simp,hc.1.symm,hc.2.symm⟩
  |cons z c'=>
   simp only[List.cons_append,List.cons.injEq]at hc;obtain⟨rfl,rfl⟩:=hc;exact Or.inr ⟨p',c'++q,p'++c',q,by simp,by simp,by simp⟩
theorem jcZ{w:World}{O:Nat->Prop} :∀{xs:Xc}{p q:List MapEntry}{e:MapEntry},jT w O xs (p++e::q)-> ∃i x,xs[i]? = some x/\jm w O x [e.key,e.val]/\jT w O (xs.eraseIdx i) (p++q)
 | [],p,q,e,h=>by simp[jT]at h
 |y::ys,p,q,e,h=>by
  simp only[jT]at h;obtain⟨e1,p1,q1,h1,h2,h3⟩:=h;rcases jkb h1 with⟨rfl,rfl,rfl⟩|⟨p2,q2,p3,q3,h4,h5,h6⟩
  .exact ⟨0,y,rfl,h2,h3⟩
  .rw [h5]at h3;obtain⟨i,x,g1,g2,g3⟩:=jcZ h3;refine⟨i+1,x,g1,g2,?_⟩;rw[List.eraseIdx_cons_succ,h4];simp only[jT];exact⟨e1,p2,q2,rfl,h2,by rw[<-h6];exact g3⟩
theorem jmE{w:World}{O:Nat->Prop}{xs:Xc}(h:jT w O xs []):xs=[]:=by
 cases xs with
 |nil=>rfl
 |cons x xs=>
  simp only[jT]at h;obtain⟨e,p,q,h1,_⟩:=h;simp at h1
theorem jl1{es:Array MapEntry}{seen:Array Nat}{p q:List MapEntry}{e:MapEntry}(hn:(es.toList.map (·.born)).Nodup)(h:(leftOf es seen).toList=p++e::q):(leftOf es (seen.push e.born)).toList=p++q:=by
 have h1:(leftOf es (seen.push e.born)).toList=(leftOf es seen).toList.filter λx=> !(x.born == e.born):=by
  unfold leftOf;rw[Array.toList_filter,Array.toList_filter,List.filter_filter];refine List.filter_congr λx _=>?_;rw[contains_push,Bool.not_or,Bool.and_comm]
 have h2:(((leftOf es seen).toList).map (·.born)).Nodup:=by
  unfold leftOf;rw[Array.toList_filter];exact hn.sublist (List.filter_sublist.map _)
 rw[h]at h1 h2;rw[h1,List.filter_append,List.filter_cons];rw[List.map_append,List.map_cons,List.nodup_append]at h2;obtain⟨h3,h4,h5⟩:=h2;rw[List.nodup_cons]at h4;have hp:p.filter (λx=> !(x.born == e.born))=p:=List.filter_eq_self.2 λx hx=>by
  have:=h5 x.born (List.mem_map.2 ⟨x,hx,rfl⟩) e.born List.mem_cons_self;simpa using this
 have hq:q.filter (λx=> !(x.born == e.born))=q:=List.filter_eq_self.2 λx hx=>by
  have:x.born≠e.born:=λhe=>h4.1 (List.mem_map.2 ⟨x,hx,he⟩);simpa using this
 rw[hp,hq];simp
def QV(w:World)(O:Nat->Prop)(xs:Xc)(r since c0:Nat)(seen:Array Nat):Prop:=
 (∃bm es clock,w.heap[r]? = some (.mapIter (some bm) since seen c0)/\ ¬O bm/\w.heap[bm]? = some (.map es clock)/\MapFine es.toList clock/\(∀e∈es.toList,e.born<since)/\since<=c0/\since<=clock/\jT w O xs (leftOf es seen).toList)\/
 (xs=[]/\w.heap[r]? = some (.mapIter none since seen c0))
theorem QV.mono{w w':World}{O O':Nat->Prop}{xs:Xc}{r since c0:Nat}{seen:Array Nat}(h:MonoW w O w' O')(hr:w'.heap[r]? = w.heap[r]?)(hi:QV w O xs r since c0 seen):QV w' O' xs r since c0 seen:=by
 rcases hi with⟨bm,es,clock,h1,h2,h3,h4,h5,h6,h7,h8⟩|⟨h1,h2⟩
 .have hb:bm<w.heap.size:=(Array.getElem?_eq_some_iff.1 h3).1;exact Or.inl ⟨bm,es,clock,by rw[hr];exact h1,h.own bm hb h2,by rw[h.keep bm hb h2];exact h3,h4,h5,h6,h7,zt h _ _ h8⟩
 .exact Or.inr ⟨h1,by rw[hr];exact h2⟩
def jne(X:Ctx)(w0:World)(O1:Nat->Prop)(m:jG)(st:jg)(xs:Xc)(it:Nat)(a:Act)(w:World):Prop:=
 ∃r since c0 seen,a.tmps[it]? = some (.pointer (some ⟨r,0,none⟩))/\w0.heap.size<=r/\O1 r/\ ¬X.N r/\QV w (Ow O1 m st) xs r since c0 seen
def jgP(X:Ctx)(w0:World)(Z0 O0:Nat->Prop)(shv:Option (List Hd))(m:jG)(s:St)(a:Act)(w:World)(b:Code):Option Xc->Prop
 |none=>Sim X w0 Z0 O0 shv m s a w
 |some xs=>∃O1 rb,jib b=some rb/\(∀k,O0 k->O1 k)/\(∀k,X.N k->O0 k)/\Sim X w0 Z0 O1 shv m s a w/\jne X w0 O1 m s.st xs rb.it a w
def jfw(M:Node->Xe)(f:FuncId)(p:Xf)(mask:Nat)(s:St):Option Xc->Xe
 |none=>again M f p mask s
 |some xs=>againR M f p mask s xs
def jkP(f:FuncId)(p:Xf)(fr:Xj)(objs:List Abs.Obj)(sh:Option Xf):Option Xc->Node
 |none=>.head f p fr objs sh
 |some xs=>.rhead f p fr objs sh xs
theorem jjQ{w:World}{O:Nat->Prop}{xs ys:Xc}(h:xs.Perm ys):∀{es:List MapEntry},jT w O xs es->jT w O ys es:=by
 induction h with
 |nil=>exact λh=>h
 |cons x _ ih=>
  intro es h;simp only[jT]at h⊢;obtain⟨e,p,q,h1,h2,h3⟩:=h;exact⟨e,p,q,h1,h2,ih h3⟩
 |swap x y l=>
  intro es h;simp only[jT]at h⊢;obtain⟨e,p,q,rfl,h2,e1,p1,q1,h3,h4,h5⟩:=h;rcases List.append_eq_append_iff.1 h3 with⟨a',rfl,ha⟩|⟨c',rfl,hc⟩
  .exact ⟨e1,p++e::a',q1,by rw[ha];simp,h4,e,p,a'++q1,by simp,h2,by simpa using h5⟩
  .cases c' with
   |nil=>
    rw[List.nil_append]at hc;exact⟨e1,p1++[e],q1,by rw[<-hc];simp,h4,e,p1,q1,by simp,h2,h5⟩
   |cons z c'=>
    simp only[List.cons_append,List.cons.injEq]at hc;obtain⟨rfl,rfl⟩:=hc;exact⟨e1,p1,c'++e::q,by simp,h4,e,p1++c',q,by simp,h2,by simpa using h5⟩
 |trans _ _ ih1 ih2=>exact λh=>ih2 (ih1 h)
theorem qV(o:Abs.Obj):(jlK o).alive=o.alive:=by cases o<;>rfl
theorem jlL{o:Abs.Obj}(h:jlK o = .dead):o = .dead:=by cases o<;>simp[jlK]at h⊢
theorem jp0{X:Ctx}{w0:World}{Z0 O0:Nat->Prop}{shv:Option (List Hd)}{m:jG}{s:St}{a:Act}{w:World}(hs:Sim X w0 Z0 O0 shv m s a w):Sim X w0 Z0 O0 shv m (jlM s) a w/\ ∀b,Mz m (jlM s).st b↔Mz m s.st b:=by
 have hmz:∀b,Mz m (jlM s).st b↔Mz m s.st b:=λb=>by
  constructor
  .rintro ⟨id,hd,h1,h2,h3⟩;exact⟨id,hd,by rw[<-qV];exact h1,h2,h3⟩
  .rintro ⟨id,hd,h1,h2,h3⟩;exact⟨id,hd,by show(jlK (s.st id)).alive=true;rw[qV];exact h1,h2,h3⟩
 have hOw:Ow O0 m (jlM s).st=Ow O0 m s.st:=by
  funext b;exact propext (or_congr Iff.rfl (hmz b))
 refine⟨⟨hs.defers,hs.tsz,hs.os,hs.tape,hs.output,hs.size,hs.keep,λb hb=>hs.new b ((hmz b).1 hb),⟨hs.sto.j,hs.sto.jn,λid h=>hs.sto.fresh id (jlL h),hs.sto.old,λid hd b h1=>hs.sto.blk id hd b (by rw[<-qV];exact h1),λid id' hd hd' b h1 h2=>hs.sto.inj id id' hd hd' b (by rw[<-qV];exact h1) (by rw[<-qV];exact h2),λid=>?_⟩,λi v hv=>by rw[hOw];exact hs.fr i v hv,hs.sh,hs.shf⟩,hmz⟩
 rw[hOw];have ho:=hs.sto.obj id;show JQ _ _ _ (jlK (s.st id)) _;cases hc:s.st id with
 |map xs=>
  rw[hc]at ho;obtain⟨hd,h1,h2⟩:=ho;refine⟨hd,h1,?_⟩;cases hd with
  |mp b=>
   obtain⟨es,c,h3,h4,h5⟩:=h2;exact⟨es,c,h3,h4,jjQ (List.mergeSort_perm xs jrI).symm h5⟩
  |_=>exact h2.elim
 |_=>rw[hc]at ho;exact ho
theorem jlE{M:Node->Xe}{f:FuncId}{p:Xf}{mask:Nat}{s:St}{r:Out}{X:Ctx}{w0:World}{Z0 O0:Nat->Prop}{shv:Option (List Hd)}{m:jG}{a:Act}{w:World}{b:Code}{rem:Option Xc}
  (h:jfw M f p mask s rem=some r) (hs:jgP X w0 Z0 O0 shv m s a w b rem) :
  ∃fr objs sh m',M (jkP f p fr objs sh rem)=some r/\jgP X w0 Z0 O0 shv m' (St.of s.n fr objs sh) a w b rem:=by
 cases rem with
 |none=>
  obtain⟨fr,objs,sh,m',h1,h2,_⟩:=jgR h hs;exact⟨fr,objs,sh,m',h1,h2⟩
 |some xs=>
  obtain⟨O1,rb,h1,h2,h3,h4,bl,since,c0,seen,h5,h6,h7,h8,h9⟩:=hs;have h:again (λx=>match x with|.head f p fr objs sh=>M (.rhead f p fr objs sh xs)|_=>none) f p mask (jlM s)=some r:=h;obtain⟨h4',hmz⟩:=jp0 h4;obtain⟨fr,objs,sh,m',g1,g2,g3⟩:=jgR h h4';exact⟨fr,objs,sh,m',g1,O1,rb,h1,h2,h3,g2,bl,since,c0,seen,h5,h6,h7,h8,h9.mono (MonoW.sub λb hb=>hb.imp id λh=>(hmz b).1 (g3 b h)) rfl⟩
theorem jmz{b:Code}{rb:RngB}(h:jib b=some rb):∃i1 i2 nops nx ex en,b = .seq (.region i1 nops false) (.seq (.cond (.tmp rb.c) .skip (.exit rb.k)) (.block rb.b2 (.seq (.region i2 rb.bops false) rb.rest)))/\nops.toList=[nx,ex]/\rb.bops.toList=en::rb.ops4/\
  (nx.op = .next (.tmp rb.it) false/\nx.dst=some rb.tn/\nx.guard=none)/\(ex.op = .extract (.tmp rb.tn) 0/\ex.dst=some rb.c/\ex.guard=none)/\(en.op = .entry (.tmp rb.it)/\en.dst=some rb.te/\en.guard=none)/\rb.it≠rb.tn/\rb.it≠rb.c/\rb.it≠rb.te/\yN rb.rest=true:=by
 have nb:∀{x y:Nat},(!Nat.beq x y)=true->x≠y:=λh e=>by subst e;simp at h
 unfold jib at h;split at h
 .split at h
  .rename_i nx ex hl;split at h
   .rename_i it tn c hn;split at h
    .rename_i en ops4 hl2;split at h
     .rename_i te he;rw[cond_eq_ite]at h;split at h
      .rename_i hc;cases h;simp only[Bool.and_eq_true]at hc;obtain⟨hc1,hc2,hc3⟩:=hc;have hc1:=Nat.eq_of_beq_eq_true hc1;subst hc1;unfold joC at hn;split at hn
       .rename_i e1 e2 e3 e4 e5 e6;rw[cond_eq_ite]at hn;split at hn
        .rename_i hd;cases hn;simp only[Bool.and_eq_true]at hd;obtain⟨hd1,hd2,hd3⟩:=hd;have hd1:=Nat.eq_of_beq_eq_true hd1;subst hd1;unfold jkE at he;split at he
         .rename_i f1 f2 f3;rw[cond_eq_ite]at he;split at he
          .rename_i hg;cases he;have hg:=Nat.eq_of_beq_eq_true hg;subst hg;exact⟨_,_,_,nx,ex,en,rfl,hl,hl2,⟨e1,e2,e3⟩,⟨e4,e5,e6⟩,⟨f1,f2,f3⟩,nb hd2,nb hd3,nb hc2,hc3⟩
          .cases he
         .cases he
        .cases hn
       .cases hn
      .cases h
     .cases h
    .cases h
   .cases h
  .cases h
 .cases h
theorem jmG{a b:Code}{u:RngUn}(h:jto a b=some u):∃i rb,a = .region i u.ops false/\b = .block u.k (.loop u.lb)/\u.ops.toList=[u.mv,u.rg]/\u.rg.op = .range u.t u.x/\u.rg.dst=some u.d/\u.rg.guard=none/\jib u.lb=some rb/\u.d=rb.it:=by
 unfold jto at h;split at h
 .split at h
  .rename_i mv rg hl;split at h
   .rename_i t x d rb hr hb;rw[cond_eq_ite]at h;split at h
    .rename_i hd;cases h;unfold jlc at hr;split at hr
     .rename_i e1 e2 e3;cases hr;exact⟨_,rb,rfl,rfl,hl,e1,e2,e3,hb,Nat.eq_of_beq_eq_true hd⟩
     .cases hr
    .cases h
   .cases h
  .cases h
 .cases h
end
noncomputable section
def zE:Code->Xf->Option Code
 |c,[]=>some c
 |.seq a _,0::r=>zE a r
 |.seq _ b,1::r=>zE b r
 |.cond _ x _,0::r=>zE x r
 |.cond _ _ y,1::r=>zE y r
 |.block _ b,0::r=>zE b r
 |.loop b,0::r=>zE b r
 |_,_=>none
def jW(P:Program)(c:Code)(Q:Exit->Act->World->Prop)(a:Act)(w:World):Prop:=
 ∀(b:Frame)(k:List Item)(cs:List Frame),∃e a' w',Q e a' w'/\Arrives P (lone (b.at a (.code c:: .inLoop c::k)) cs w) b k cs e a' w'
theorem jW.mk{P:Program}{c:Code}{Q:Exit->Act->World->Prop}{a:Act}{w:World}(h:c.wp P (Exit.then (jW P c Q) Q) a w):jW P c Q a w:=by
 intro b k cs;obtain⟨e,a₁,w₁,hq,harr⟩:=h b (.inLoop c::k) cs;cases e with
 |normal=>
  obtain⟨e₂,a₂,w₂,hq₂,harr₂⟩:=hq b k cs;exact⟨e₂,a₂,w₂,hq₂,.of_steps (Steps.trans harr (.one step_inLoop)) harr₂⟩
 |exit id=>exact⟨_,a₁,w₁,hq,.pass (x:= .inLoop c) rfl (λ_ _=>.inl (by simp)) harr⟩
 |goto l=>exact⟨_,a₁,w₁,hq,.pass (x:= .inLoop c) rfl (λ_ _=>.inl (by simp)) harr⟩
 |ret=>exact⟨_,a₁,w₁,hq,.pass (x:= .inLoop c) rfl (λ_ _=>.inl (by simp)) harr⟩
 |panic ch=>exact⟨_,a₁,w₁,hq,.pass (x:= .inLoop c) rfl (λ_ _=>.inl (by simp)) harr⟩
 |outgrown=>exact⟨_,a₁,w₁,hq,.pass (x:= .inLoop c) rfl (λ_ _=>.inl (by simp)) harr⟩
theorem jW.wp{P:Program}{c:Code}{Q:Exit->Act->World->Prop}{a:Act}{w:World}(h:jW P c Q a w):(Code.loop c).wp P Q a w:=by
 intro b k cs;obtain⟨e,a',w',hq,harr⟩:=h b k cs;exact⟨e,a',w',hq,.of_steps (.one step_loop) harr⟩
def postAt(P:Program):Code->Xf->(Exit->Act->World->Prop)->Exit->Act->World->Prop
 |.seq a b,0::r,Q=>postAt P a r (Exit.then (b.wp P Q) Q)
 |.seq _ b,1::r,Q=>postAt P b r Q
 |.cond _ x _,0::r,Q=>postAt P x r Q
 |.cond _ _ y,1::r,Q=>postAt P y r Q
 |.block id b,0::r,Q=>postAt P b r (Exit.inBlock id Q)
 |.loop b,0::r,Q=>postAt P b r (Exit.then (jW P b Q) Q)
 |_,_,Q=>Q
def Ex.to:Ex->Exit
 |.normal=>.normal
 |.exit id=>.exit id
 |.ret=>.ret
section
variable{C:Cfg}{M:Node->Xe}{f:FuncId}{r:Out}{X:Ctx}{w0:World}{Z0 O0:Nat->Prop}{shv:Option (List Hd)}{sn:Nat}
def KOk(X:Ctx)(w0:World)(Z0 O0:Nat->Prop)(shv:Option (List Hd))(sn:Nat)(r:Out)(κ:Ex->St->Xe)(Q:Exit->Act->World->Prop):Prop:=
 ∀e s m a w,s.n=sn->κ e s=some r->Sim X w0 Z0 O0 shv m s a w->Q e.to a w
def Js(C:Cfg)(M:Node->Xe)(f:FuncId)(X:Ctx)(w0:World)(Z0 O0:Nat->Prop)(shv:Option (List Hd))(sn:Nat)(r:Out)(c:Code)(p:Xf)(Q:Exit->Act->World->Prop):Prop:=
 ∀rem q b s m a w,zE c q=some (.loop b)->s.n=sn->jfw M f (p++q) (C.kp f (p++q)) s rem=some r->jgP X w0 Z0 O0 shv m s a w b rem->jW C.P b (postAt C.P c q Q) a w
theorem ja9{ops:Array Oper}{K:(Nat->V)->jg->Prop}{Q:Exit->Act->World->Prop}{P:Program}{l2:List Oper}(n nx:Nat)(sh:Option Xf)
  (hQ:∀fr st m a w,K fr st->Sim X w0 Z0 O0 shv m ⟨n,fr,st,nx,sh⟩ a w->wpList P ops Q l2 a w):∀(l:List Oper)(ts:List Tx)(fr:Nat->V)(st:jg)(m:jG)(a:Act)(w:World),
  Sim X w0 Z0 O0 shv m ⟨n,fr,st,nx,sh⟩ a w->jl2 P X ops n K l ts fr st->wpList P ops Q (l++l2) a w
 | [],[],fr,st,m,a,w,hs,h=>hQ fr st m a w h hs
 |o::os,t::ts,fr,st,m,a,w,hs,h=>by
  obtain⟨h1,h2,h3⟩:=h;rw[List.cons_append];unfold wpList;rcases wpOp_step (Q:=Q) hs h1 h2 (λm' a' w' hs'=>ja9 n nx sh hQ os ts _ _ m' a' w' hs' h3)with⟨g1,g2⟩|⟨g1,g2⟩
  .rw [g1,if_pos rfl];exact Or.inl g2
  .rw [g1,if_neg (by simp)];exact g2
 | [],_::_,_,_,_,_,_,_,h=>h.elim
 |_::_,[],_,_,_,_,_,_,h=>h.elim
theorem jhd(hD:zl C.P C.D)(hM:yD X C M)(hS:StM X C M){ops:Array Oper}{l l2:List Oper}{s:St}{k:(Nat->V)->jg->List QZ->Xe}(h:evOps C M ops s.n l s.nx s.fr s.st [] [] k=some r){m:jG}{a:Act}{w:World}{Q:Exit->Act->World->Prop}
  (hs:Sim X w0 Z0 O0 shv m s a w) (nx2:Nat) (hQ:∀fr st lg m a w,k fr st lg=some r->Sim X w0 Z0 O0 shv m ⟨s.n,fr,st,nx2,s.sh⟩ a w->wpList C.P ops Q l2 a w):wpList C.P ops Q (l++l2) a w:=by
 obtain⟨T,L,fr',frC',st',h1,h2,h3,h4,h5,h6⟩:=jb5 hD hM hS _ _ _ s.fr _ [] _ (LeF.refl _) (by intro g hg;cases hg) h
 refine ja9 s.n s.nx s.sh (K:=λf s=>f=frC'/\s=st') ?_ l T s.fr s.st m a w hs h6;rintro fr st m a w ⟨rfl,rfl⟩ hs';refine hQ fr' st _ m a w h1 ⟨hs'.defers,hs'.tsz,hs'.os,hs'.tape,hs'.output,hs'.size,hs'.keep,hs'.new,hs'.sto,λi v hi=>?_,hs'.sh,hs'.shf⟩;rcases h2 i with e|e
 .show relV _ _ _ (fr' i) v;rw[e];simp[relV]
 .show relV _ _ _ (fr' i) v;rw[e];exact hs'.fr i v hi
theorem qJ{P:Program}{ops:Array Oper}{Q:Exit->Act->World->Prop}{o:Oper}{rest:List Oper}{a:Act}{w w':World}{v:Value}(hg:o.guard=none)(hr:(execOp a.eval o).run P w = .ok (.value v) w')(h:wpList P ops Q rest (a.put o.dst v) w'):wpList P ops Q (o::rest) a w:=by
 unfold wpList;have hw:Region.wanted o (yielded ops a.tmps)=true:=by simp[Region.wanted,hg]
 rw[hw,if_pos rfl];refine Or.inl ?_;unfold Oper.wp;rw[hr];exact h
theorem Sim.turn{m:jG}{s:St}{a:Act}{w w':World}(h:Sim X w0 Z0 O0 shv m s a w){b:Nat}(hO:O0 b)(h0:w0.heap.size<=b)(hN:¬X.N b)(h1:w'.os=w.os)(h2:w'.tape=w.tape)(h3:Quiet w w')(h4:w'.heap.size=w.heap.size)(h5:∀k,k≠b->w'.heap[k]? = w.heap[k]?):Sim X w0 Z0 O0 shv m s a w':=by
 have mono:MonoW w (Ow O0 m s.st) w' (Ow O0 m s.st):=⟨Nat.le_of_eq h4.symm,λk _ hk=>h5 k λe=>hk (Or.inl (e ▸ hO)),λ_ _ hk=>hk⟩;refine⟨h.defers,h.tsz,h1.trans h.os,h2.trans h.tape,h3.trans h.output,by rw[h4];exact h.size,λk hk hz=>(h5 k (by omega)).trans (h.keep k hk hz),h.new,?_,λi v hi=>J5 mono (JP.refl m) _ _ (h.fr i v hi),h.sh,h.shf⟩;exact⟨X.stable w w' (λk hk=>h5 k λe=>hN (e ▸ hk)) h.sto.j,h.sto.jn,h.sto.fresh,λk hk=>by rw[h4];exact h.sto.old k hk,λid hd k g1 g2 g3=>by rw[h4];exact h.sto.blk id hd k g1 g2 g3,h.sto.inj,
  λid=>qS mono (JP.refl m) (λhd k g1 g2 g3=>h5 k λe=>(h.sto.blk id hd k g1 g2 g3).2 (e ▸ hO)) (h.sto.obj id)⟩
theorem Sim.base{m:jG}{s:St}{a:Act}{w:World}(h:Sim X w0 Z0 O0 shv m s a w):Sim X w (Mz m s.st) O0 shv m s a w:=
 ⟨h.defers,h.tsz,rfl,rfl,Quiet.refl w,Nat.le_refl _,λ_ _ _=>rfl,λ_ hb=>Or.inl hb,h.sto,h.fr,h.sh,h.shf⟩
theorem Sim.comp{m m':jG}{s s':St}{a a':Act}{w w':World}{shv':Option (List Hd)}{O1 O2:Nat->Prop}(h:Sim X w0 Z0 O1 shv' m s a w)(h':Sim X w (Mz m s.st) O2 shv m' s' a' w'):Sim X w0 Z0 O2 shv m' s' a' w':=by
 refine⟨h'.defers,h'.tsz,h'.os.trans h.os,h'.tape.trans h.tape,h'.output.trans h.output,Nat.le_trans h.size h'.size,λk hk hz=>?_,λk hk=>?_,h'.sto,h'.fr,h'.sh,h'.shf⟩
 .refine (h'.keep k (Nat.lt_of_lt_of_le hk h.size) λhm=>?_).trans (h.keep k hk hz);rcases h.new k hm with h1|h1
  .exact hz h1
  .omega
 .rcases h'.new k hk with h1|h1
  .exact h.new k h1
  .exact Or.inr (Nat.le_trans h.size h1)
theorem Sim.weak{m:jG}{s:St}{a:Act}{w:World}{O1:Nat->Prop}(h:Sim X w0 Z0 O1 shv m s a w)(h1:∀k,O0 k->O1 k)(h2:∀k,X.N k->O0 k):Sim X w0 Z0 O0 shv m s a w:=by
 have mono:MonoW w (Ow O1 m s.st) w (Ow O0 m s.st):=MonoW.sub λb hb=>hb.imp (h1 b) id;exact⟨h.defers,h.tsz,h.os,h.tape,h.output,h.size,h.keep,h.new,⟨h.sto.j,h2,h.sto.fresh,λb hb=>h.sto.old b (h1 b hb),λid hd b g1 g2 g3=>⟨(h.sto.blk id hd b g1 g2 g3).1,λhb=>(h.sto.blk id hd b g1 g2 g3).2 (h1 b hb)⟩,h.sto.inj,λid=>qS mono (JP.refl m) (λ_ _ _ _ _=>rfl) (h.sto.obj id)⟩,λi v hi=>J5 mono (JP.refl m) _ _ (h.fr i v hi),h.sh,h.shf⟩
theorem Qb{a:Act}{t:Nat}{v:Value}(h:a.tmps[t]? = some v):a.eval (.tmp t)=v:=by
 obtain⟨hl,e⟩:=Array.getElem?_eq_some_iff.1 h;simp only[Act.eval,Array.getD,hl,dif_pos,Array.getInternal_eq_getElem,e]
theorem jgh{a:Act}{t d:Nat}{v:Value}(h:t≠d):(a.put (some d) v).tmps[t]? = a.tmps[t]? :=by
 simp only[Act.put];rw[Array.getElem?_setIfInBounds,if_neg (Ne.symm h)]
theorem jjH{a:Act}{d:Nat}{v:Value}(h:d<a.tmps.size):(a.put (some d) v).tmps[d]? = some v:=by
 simp only[Act.put];rw[Array.getElem?_setIfInBounds,if_pos rfl,if_pos h]
theorem jbz{P:Program}{x:Sem Value}{v:Value}{w w':World}(h:x.run P w = .ok v w'):((do pure (.value (<-x)):Sem Next)).run P w = .ok (.value v) w':=by
 simp only[Sem.run_bind,h,Result.andThen_ok,Sem.run_pure]
theorem yO:∀{c:Code}{q:Xf}{b:Code},yN c=true->zE c q≠some (.loop b)
 |c,[],b,h,e=>by simp only[zE]at e;cases e;cases h
 |.seq x y,0::q,b,h,e=>by simp only[yN,Bool.and_eq_true]at h;exact yO h.1 e
 |.seq x y,1::q,b,h,e=>by simp only[yN,Bool.and_eq_true]at h;exact yO h.2 e
 |.cond _ x y,0::q,b,h,e=>by simp only[yN,Bool.and_eq_true]at h;exact yO h.1 e
 |.cond _ x y,1::q,b,h,e=>by simp only[yN,Bool.and_eq_true]at h;exact yO h.2 e
 |.block _ x,0::q,b,h,e=>by simp only[yN]at h;exact yO h e
 |.loop _,_::_,_,h,_=>by cases h
 |.seq _ _,(n+2)::q,b,h,e=>by simp[zE]at e
 |.cond _ _ _,(n+2)::q,b,h,e=>by simp[zE]at e
 |.block _ _,(n+1)::q,b,h,e=>by simp[zE]at e
 |.skip,_::_,_,_,e=>by simp[zE]at e
 |.region _ _ _,_::_,_,_,e=>by simp[zE]at e
 |.exit _,_::_,_,_,e=>by simp[zE]at e
 |.ret,_::_,_,_,e=>by simp[zE]at e
 |.label _,_::_,_,_,e=>by simp[zE]at e
 |.rangeFunc _ _ _ _,_::_,_,_,e=>by simp[zE]at e
 |.scope _,_::_,_,_,e=>by simp[zE]at e
 |.goto _,_::_,_,_,e=>by simp[zE]at e
 |.refuse _,_::_,_,_,e=>by simp[zE]at e
theorem jsP(hD:zl C.P C.D)(hM:yD X C M)(hS:StM X C M){i sn:Nat}{u:RngUn}{rb:RngB}(hops:u.ops.toList=[u.mv,u.rg])(hop:u.rg.op = .range u.t u.x)(hdst:u.rg.dst=some u.d)(hgd:u.rg.guard=none)(hrb:jib u.lb=some rb)(hd:u.d=rb.it)
  {p:Xf} {s:St} {m:jG} {a:Act} {w:World} (hn:s.n=sn) (h:evU C M f u p s=some r) (hs:Sim X w0 Z0 O0 shv m s a w) {N:Act->World->Prop} {Q:Exit->Act->World->Prop}
  (hN:∀xs s' m' a' w',s'.n=sn->jfw M f p (C.kp f p) s' (some xs)=some r->jgP X w0 Z0 O0 shv m' s' a' w' u.lb (some xs)->N a' w'):(Code.region i u.ops false).wp C.P (Exit.then N Q) a w:=by
 refine wp_region_list ?_;rw[hops];unfold evU at h;refine jhd (C:=C.at f) (l:=[u.mv]) (l2:=[u.rg]) hD hM hS h hs (s.nx+8) λfr st lg m a w hk hs=>?_;simp only[brn]at hk;split at hk;rotate_left
 .cases hk
 rename_i hkd;simp only[Bool.and_eq_true]at hkd;obtain⟨hkd,hud⟩:=hkd;split at hk;rotate_left
 .cases hk
 rename_i da hda;rw[Option.bind_eq_some_iff]at hk;obtain⟨xs,hxs,hk⟩:=hk;split at hk;rotate_left
 .cases hk
 rename_i hdead;have hev:=hs.ev u.x;simp only at hev;rw[hda]at hev;simp only[relV]at hev;have hmo:=jk3 hxs hev;unfold jov at hkd;split at hkd;rotate_left
 .cases hkd
 rename_i ti hti;split at hkd;rotate_left
 .cases hkd
 rename_i kt et hkt;have hty:C.P.underlying u.t=some (.map kt et):=jr hD hti hkt;have hmf:=hs.sto.fresh _ hdead;have hit:a.tmps.size=s.n:=hs.tsz;have fin:∀(ob:Go.Obj)(since c0:Nat)(seen:Array Nat),(Instr.range u.t (a.eval u.x)).run C.P w = .ok (.pointer (some ⟨w.heap.size,0,none⟩)) (w.alloc ob)->QV (w.alloc ob) (Ow (λk=>O0 k\/k=w.heap.size) m st) xs w.heap.size since c0 seen->wpList (C.at f).P u.ops (Exit.then N Q) [u.rg] a w:=by
  intro ob since c0 seen hrun hia;refine qJ hgd (v:= .pointer (some ⟨w.heap.size,0,none⟩)) (w':=w.alloc ob) ?_ ?_
  .simp only[execOp,hop];exact jbz hrun
  rw[hdst];show N _ _;have hb:Below w.heap.size w (w.alloc ob):=⟨rfl,rfl,Quiet.refl _,by simp,λk hk=>by rw[show(w.alloc ob).heap=w.heap.push ob from rfl,Array.getElem?_push_lt hk,Array.getElem?_eq_getElem hk]⟩;have hs1:=hs.below hb;have hsz:(w.alloc ob).heap.size=w.heap.size+1:=by simp
  have hnb:∀id hd b,(st id).alive=true->m id=some hd->b∈hd.blocks->b<w.heap.size:=λid hd b g1 g2 g3=>(hs.sto.blk id hd b g1 g2 g3).1;have hmz:∀b,Mz m st b->b<w.heap.size:=λb ⟨id,hd,g1,g2,g3⟩=>hnb id hd b g1 g2 g3;generalize hO1:(λk=>O0 k\/k=w.heap.size)=O1 at hia;have hsub:∀b,b<w.heap.size->(Ow O1 m st b↔Ow O0 m st b):=λb hb=>by
   rw[<-hO1];constructor
   .rintro ((h1|h1)|h1)
    .exact Or.inl h1
    .omega
    .exact Or.inr h1
   .rintro (h1|h1)
    .exact Or.inl (Or.inl h1)
    .exact Or.inr h1
  have mono:MonoW w (Ow O0 m st) (w.alloc ob) (Ow O1 m st):=⟨hb.size,λk hk _=>hb.block k hk,λk hk h1 h2=>h1 ((hsub k hk).1 h2)⟩;have hst1:Sto X (w.alloc ob) O1 m st:=by
   refine⟨hs1.sto.j,λb hb=>by rw[<-hO1];exact Or.inl (hs.sto.jn b hb),hs.sto.fresh,λb hb=>?_,λid hd b g1 g2 g3=>⟨by have:=hnb id hd b g1 g2 g3;omega,λhb=>?_⟩,hs.sto.inj,λid=>qS mono (JP.refl m) (λhd b g1 g2 g3=>hb.block b (hnb id hd b g1 g2 g3)) (hs.sto.obj id)⟩
   .rw [<-hO1]at hb;rcases hb with hb|hb
    .have:=hs.sto.old b hb;omega
    .omega
   .rw [<-hO1]at hb;rcases hb with hb|hb
    .exact (hs.sto.blk id hd b g1 g2 g3).2 hb
    .have:=hnb id hd b g1 g2 g3;omega
  have hne:∀id,st id≠ .dead->id≠s.nx+8:=λid h1 h2=>h1 (h2 ▸ hdead);generalize hm1:(λid=>if id=s.nx+8 then some (Hd.blk w.heap.size 0 0)else m id)=m1;have hm1s:m1 (s.nx+8)=some (Hd.blk w.heap.size 0 0):=by rw[<-hm1];simp
  have hm1n:∀id,id≠s.nx+8->m1 id=m id:=λid h=>by rw[<-hm1];simp[h]
  have hle:JP m m1:=λid hd hm=>by
   by_cases e:id=s.nx+8
   .subst e;rw[hmf]at hm;cases hm
   .exact ⟨hd,by rw[hm1n id e];exact hm,Hd.le_refl _⟩
  have hal:∀id,(upd st (s.nx+8) Abs.Obj.gone id).alive=true->(st id).alive=true/\id≠s.nx+8:=λid h=>by
   by_cases e:id=s.nx+8
   .subst e;rw[jf]at h;cases h
   .rw [upd_ne _ _ e]at h;exact⟨h,e⟩
  have hmzE:∀b,Mz m1 (upd st (s.nx+8) .gone) b↔Mz m st b:=λb=>by
   constructor
   .rintro ⟨id,hd,g1,g2,g3⟩;obtain⟨k1,k2⟩:=hal id g1;exact⟨id,hd,k1,by rw[<-hm1n id k2];exact g2,g3⟩
   .rintro ⟨id,hd,g1,g2,g3⟩;have k2:=hne id (λe=>by rw[e]at g1;cases g1);exact⟨id,hd,by rw[upd_ne _ _ k2];exact g1,by rw[hm1n id k2];exact g2,g3⟩
  have hOw:Ow O1 m1 (upd st (s.nx+8) .gone)=Ow O1 m st:=by
   funext b;exact propext (or_congr Iff.rfl (hmzE b))
  have hst2:Sto X (w.alloc ob) O1 m1 (upd st (s.nx+8) .gone):=by
   refine⟨hst1.j,hst1.jn,λid h=>?_,hst1.old,λid hd b g1 g2 g3=>?_,λid id' hd hd' b g1 g1' g2 g2' g3 g3'=>?_,λid=>?_⟩
   .by_cases e:id=s.nx+8
    .subst e;rw[jf]at h;cases h
    .rw [upd_ne _ _ e]at h;rw[hm1n id e];exact hs.sto.fresh id h
   .obtain ⟨k1,k2⟩:=hal id g1;exact hst1.blk id hd b k1 (by rw[<-hm1n id k2];exact g2) g3
   .obtain ⟨k1,k2⟩:=hal id g1;obtain⟨k1',k2'⟩:=hal id' g1';exact hst1.inj id id' hd hd' b k1 k1' (by rw[<-hm1n id k2];exact g2) (by rw[<-hm1n id' k2'];exact g2') g3 g3'
   .by_cases e:id=s.nx+8
    .subst e;rw[jf];trivial
    .rw [upd_ne _ _ e,hm1n id e];exact qS (by rw[hOw];exact MonoW.refl _ _) hle (λ_ _ _ _ _=>rfl) (hst1.obj id)
  have hpt:a.tmps.size=(a.put (some u.d) (.pointer (some ⟨w.heap.size,0,none⟩))).tmps.size:=by simp[Act.put]
  refine hN xs ⟨s.n,upd fr u.d (.ptr (s.nx+8) 0),upd st (s.nx+8) .gone,s.nx+9,s.sh⟩ m1 _ _ hn hk ⟨O1,rb,hrb,λk hk=>by rw[<-hO1];exact Or.inl hk,hs.sto.jn,?_,?_⟩
  .refine ⟨hs.defers,hpt.symm.trans hs.tsz,hs.os,hs.tape,hs.output,Nat.le_trans hs.size hb.size,λk hk hz=>(hb.block k (Nat.lt_of_lt_of_le hk hs.size)).trans (hs.keep k hk hz),λb hb=>hs.new b ((hmzE b).1 hb),hst2,λi v hv=>?_,?_,hs.shf⟩
   .show relV _ (Ow O1 m1 (upd st (s.nx+8) .gone)) m1 (upd fr u.d (.ptr (s.nx+8) 0) i) v;by_cases e:i=u.d
    .subst e;rw[jf];simp only[Act.put]at hv;rw[Array.getElem?_setIfInBounds,if_pos rfl]at hv;split at hv
     .cases hv;simp only[relV];exact⟨_,_,_,hm1s,rfl⟩
     .cases hv
    .rw [upd_ne _ _ e];rw[jgh e]at hv;rw[hOw];exact J5 mono hle _ _ (hs.fr i v hv)
   .have:=hs.sh;show s.sh.map _=_;rw[<-this];cases hsh:s.sh with
    |none=>rfl
    |some l=>
     simp only[hsh,Option.map_some]at this⊢;congr 1;refine List.map_congr_left λid hid=>hm1n id λe=>?_;subst e;cases hv:shv with
     |none=>rw[hv]at this;cases this
     |some l'=>
      rw[hv]at this;simp only[Option.map_some,Option.some.injEq]at this;have h1:m (s.nx+8)∈l.map m:=List.mem_map.2 ⟨_,hid,rfl⟩;rw[this,hmf]at h1;obtain⟨_,_,h2⟩:=List.mem_map.1 h1;cases h2
  .refine ⟨w.heap.size,since,c0,seen,?_,hs.size,by rw[<-hO1];exact Or.inr rfl,λhN=>?_,by rw[hOw];exact hia⟩
   .rw [<-hd];refine jjH ?_;rw[hit];simpa using hud
   .have:=hs.sto.old _ (hs.sto.jn _ hN);omega
 have jdL:xs=[]->a.eval u.x = .map none->wpList (C.at f).P u.ops (Exit.then N Q) [u.rg] a w:=λe hx=>by
  subst e;exact fin _ 0 0 #[] (by rw[hx];exact run_range_nilMap w u.t kt et hty) (Or.inr ⟨rfl,heap_alloc_new w _⟩)
 unfold jju at hxs;split at hxs
 .cases hxs;simp only[rel]at hev;rcases hev with⟨h1,h2⟩|⟨b,es,c,h1,h2,h3,h4,h5,h6⟩
  .exact jdL h1 h2
  .have hlt:b<w.heap.size:=h2;refine fin _ c c #[] (by rw[h1];exact run_range_map w u.t kt et b es c hty h4) (Or.inl ⟨b,es,c,heap_alloc_new w _,?_,by rw[heap_alloc_old w _ hlt];exact h4,h5,h5.old,Nat.le_refl _,Nat.le_refl _,?_⟩)
   .rintro ((g|g)|g)
    .exact h3 (Or.inl g)
    .omega
    .exact h3 (Or.inr g)
   .rw [show(leftOf es #[]).toList=es.toList by simp[leftOf]];refine zt ⟨by simp,λk hk _=>heap_alloc_old w _ hk,λk hk h1 h2=>?_⟩ _ _ h6;rcases h2 with(g|g)|g
    .exact h1 (Or.inl g)
    .omega
    .exact h1 (Or.inr g)
 .cases hxs;simp only[rel]at hev;exact jdL rfl hev
 .cases hxs
theorem yK(hD:zl C.P C.D)(hM:yD X C M)(hS:StM X C M)(hm:C.P.follows .mixedOrders=true):∀(c:Code)(p:Xf)(s:St)(κ:Ex->St->Xe)(Q:Exit->Act->World->Prop)(m:jG)(a:Act)(w:World),
  Jp c=true->s.n=sn->evC C M f c p s κ=some r->Sim X w0 Z0 O0 shv m s a w->KOk X w0 Z0 O0 shv sn r κ Q->Js C M f X w0 Z0 O0 shv sn r c p Q->c.wp C.P Q a w
 |.skip,p,s,κ,Q,m,a,w,_,hn,h,hs,hκ,_=>wp_skip (hκ .normal s m a w hn h hs)
 |.region id ops draw,p,s,κ,Q,m,a,w,hx,hn,h,hs,hκ,_=>jnT (C:=C.at f) hD hM hS hm hx h hs λs' m' a' w' hn' hk hs'=>hκ .normal s' m' a' w' (hn'.trans hn) hk hs'
 |.seq x y,p,s,κ,Q,m,a,w,hx,hn,h,hs,hκ,hL=>by
  simp only[Jp,Bool.and_eq_true]at hx;simp only[evC]at h;split at h
  .rename_i u hu;obtain⟨i,rb,rfl,rfl,hops,hop,hdst,hgd,hrb,hd⟩:=jmG hu;exact wp_seq (jsP hD hM hS hops hop hdst hgd hrb hd hn h hs λxs s' m' a' w' hn' hk hs'=>wp_block (hL (some xs) [1,0] u.lb s' m' a' w' rfl hn' (by rw[show p++[1,0]=p++[1]++[0] by simp];exact hk) hs').wp)
  .refine wp_seq (yK hD hM hS hm x (p++[0]) s _ _ m a w hx.1 hn h hs ?_ ?_)
   .intro e s' m' a' w' hn' hk hs';cases e with
    |normal=>
     refine yK hD hM hS hm y (p++[1]) s' κ Q m' a' w' hx.2 hn' hk hs' hκ ?_;intro rem q b s m a w hq hn hag hs;rw[List.append_assoc]at hag;exact hL rem (1::q) b s m a w hq hn hag hs
    |exit id=>exact hκ (.exit id) s' m' a' w' hn' hk hs'
    |ret=>exact hκ .ret s' m' a' w' hn' hk hs'
   .intro rem q b s m a w hq hn hag hs;rw[List.append_assoc]at hag;exact hL rem (0::q) b s m a w hq hn hag hs
 |.cond c x y,p,s,κ,Q,m,a,w,hx,hn,h,hs,hκ,hL=>by
  simp only[Jp,Bool.and_eq_true]at hx;simp only[evC]at h;split at h
  .rename_i t ht;rw[Option.bind_eq_some_iff]at h;obtain⟨b,h1,h2⟩:=h;have hc:a.eval c = .bool b:=by
    have:=hs.ev c;rw[ht]at this;unfold zD at h1;split at h1
    .cases h1;simpa[relV,rel]using this
    .cases h1
   refine wp_cond hc ?_;cases b with
   |true=>
    refine yK hD hM hS hm x (p++[0]) s κ Q m a w hx.1 hn h2 hs hκ ?_;intro rem q b s m a w hq hn hag hs;rw[List.append_assoc]at hag;exact hL rem (0::q) b s m a w hq hn hag hs
   |false=>
    refine yK hD hM hS hm y (p++[1]) s κ Q m a w hx.2 hn h2 hs hκ ?_;intro rem q b s m a w hq hn hag hs;rw[List.append_assoc]at hag;exact hL rem (1::q) b s m a w hq hn hag hs
  .rename_i n neg ht;have hc:=hs.ev c;rw[ht]at hc;simp only[relV]at hc;obtain⟨b,hc,hb⟩:=hc;refine wp_cond hc ?_;have h:((b != neg)=true->evC C M f x (p++[0]) s κ=some r)/\((b != neg)=false->evC C M f y (p++[1]) s κ=some r):=by
    simp only[brn]at h;split at h
    .rw [Y7]at h;exact⟨λ_=>h.1,λ_=>h.2⟩
    .rename_i hnz;have hb:=hb (by simpa[nz]using hnz);subst hb;cases neg
     .exact ⟨λh0=>(by cases h0),λ_=>by simpa using h⟩
     .exact ⟨λ_=>by simpa using h,λh0=>(by cases h0)⟩
   cases hbn:(b != neg)with
   |true=>
    have h:=h.1 hbn;refine yK hD hM hS hm x (p++[0]) s κ Q m a w hx.1 hn h hs hκ ?_;intro rem q b s m a w hq hn hag hs;rw[List.append_assoc]at hag;exact hL rem (0::q) b s m a w hq hn hag hs
   |false=>
    have h:=h.2 hbn;refine yK hD hM hS hm y (p++[1]) s κ Q m a w hx.2 hn h hs hκ ?_;intro rem q b s m a w hq hn hag hs;rw[List.append_assoc]at hag;exact hL rem (1::q) b s m a w hq hn hag hs
  .cases h
 |.block id b,p,s,κ,Q,m,a,w,hx,hn,h,hs,hκ,hL=>by
  refine wp_block (yK hD hM hS hm b (p++[0]) s _ _ m a w hx hn h hs ?_ ?_)
  .intro e s' m' a' w' hn' hk hs';cases e with
   |normal=>exact hκ .normal s' m' a' w' hn' hk hs'
   |exit id'=>
    simp only[Ex.to,Exit.inBlock];dsimp only at hk;split at hk
    .rename_i hb;rw[if_pos (Nat.eq_of_beq_eq_true hb)];exact hκ .normal s' m' a' w' hn' hk hs'
    .rename_i hb;rw[if_neg (λe=>hb (by simp[e]))];exact hκ (.exit id') s' m' a' w' hn' hk hs'
   |ret=>exact hκ .ret s' m' a' w' hn' hk hs'
  .intro rem q b s m a w hq hn hag hs;rw[List.append_assoc]at hag;exact hL rem (0::q) b s m a w hq hn hag hs
 |.loop b,p,s,κ,Q,m,a,w,hx,hn,h,hs,hκ,hL=>(hL none [] b s m a w rfl hn (by rw[List.append_nil];exact h) hs).wp
 |.exit id,p,s,κ,Q,m,a,w,_,hn,h,hs,hκ,_=>wp_exit (hκ (.exit id) s m a w hn h hs)
 |.ret,p,s,κ,Q,m,a,w,_,hn,h,hs,hκ,_=>wp_ret (hκ .ret s m a w hn h hs)
 |.label _,p,s,κ,Q,m,a,w,_,hn,h,hs,hκ,_=>wp_label (hκ .normal s m a w hn h hs)
 |.rangeFunc _ _ _ _,_,_,_,_,_,_,_,_,_,h,_,_,_=>by cases h
 |.scope _,_,_,_,_,_,_,_,_,_,h,_,_,_=>by cases h
 |.goto _,_,_,_,_,_,_,_,_,_,h,_,_,_=>by cases h
 |.refuse _,_,_,_,_,_,_,_,_,_,h,_,_,_=>by cases h
theorem jqi(hD:zl C.P C.D)(hM:yD X C M)(hS:StM X C M)(hm:C.P.follows .mixedOrders=true):∀(c:Code)(q p:Xf)(s:St)(κ:Ex->St->Xe)(Q:Exit->Act->World->Prop)(m:jG)(a:Act)(w:World)(b0:Code),
  Jp c=true->s.n=sn->evAt C M f c q p s κ=some r->zE c q=some (.loop b0)->Sim X w0 Z0 O0 shv m s a w->KOk X w0 Z0 O0 shv sn r κ Q->Js C M f X w0 Z0 O0 shv sn r c p Q->jW C.P b0 (postAt C.P c q Q) a w:=by
 intro c;induction c with
 |loop b ih=>
  intro q p s κ Q m a w b0 hx hn h hq hs hκ hL;have hκ':KOk X w0 Z0 O0 shv sn r (λe s'=>match e with|.normal=>again M f p (C.kp f p) s'|e=>κ e s') (Exit.then (jW C.P b Q) Q):=by
   intro e s' m' a' w' hn' hk hs';cases e with
   |normal=>exact hL none [] b s' m' a' w' rfl hn' (by rw[List.append_nil];exact hk) hs'
   |exit id=>exact hκ (.exit id) s' m' a' w' hn' hk hs'
   |ret=>exact hκ .ret s' m' a' w' hn' hk hs'
  have hL':Js C M f X w0 Z0 O0 shv sn r b (p++[0]) (Exit.then (jW C.P b Q) Q):=by
   intro rem q b s m a w hq hn hag hs;rw[List.append_assoc]at hag;exact hL rem (0::q) b s m a w hq hn hag hs
  rcases q with _|⟨_|n,q⟩
  .cases hq;exact jW.mk (yK hD hM hS hm b (p++[0]) s _ _ m a w hx hn h hs hκ' hL')
  .exact ih q (p++[0]) s _ _ m a w b0 hx hn h hq hs hκ' hL'
  .cases h
 |seq x y ihx ihy=>
  intro q p s κ Q m a w b0 hx hn h hq hs hκ hL;simp only[Jp,Bool.and_eq_true]at hx;have hL1:Js C M f X w0 Z0 O0 shv sn r y (p++[1]) Q:=by
   intro rem q b s m a w hq hn hag hs;rw[List.append_assoc]at hag;exact hL rem (1::q) b s m a w hq hn hag hs
  rcases q with _|⟨_|_|n,q⟩
  .cases h
  .refine ihx q (p++[0]) s _ (Exit.then (y.wp C.P Q) Q) m a w b0 hx.1 hn h hq hs ?_ ?_
   .intro e s' m' a' w' hn' hk hs';cases e with
    |normal=>exact yK hD hM hS hm y (p++[1]) s' κ Q m' a' w' hx.2 hn' hk hs' hκ hL1
    |exit id=>exact hκ (.exit id) s' m' a' w' hn' hk hs'
    |ret=>exact hκ .ret s' m' a' w' hn' hk hs'
   .intro rem q b s m a w hq hn hag hs;rw[List.append_assoc]at hag;exact hL rem (0::q) b s m a w hq hn hag hs
  .exact ihy q (p++[1]) s κ Q m a w b0 hx.2 hn h hq hs hκ hL1
  .cases h
 |cond c x y ihx ihy=>
  intro q p s κ Q m a w b0 hx hn h hq hs hκ hL;simp only[Jp,Bool.and_eq_true]at hx;rcases q with _|⟨_|_|n,q⟩
  .cases h
  .refine ihx q (p++[0]) s κ Q m a w b0 hx.1 hn h hq hs hκ ?_;intro rem q b s m a w hq hn hag hs;rw[List.append_assoc]at hag;exact hL rem (0::q) b s m a w hq hn hag hs
  .refine ihy q (p++[1]) s κ Q m a w b0 hx.2 hn h hq hs hκ ?_;intro rem q b s m a w hq hn hag hs;rw[List.append_assoc]at hag;exact hL rem (1::q) b s m a w hq hn hag hs
  .cases h
 |block id b ih=>
  intro q p s κ Q m a w b0 hx hn h hq hs hκ hL;rcases q with _|⟨_|n,q⟩
  .cases h
  .refine ih q (p++[0]) s _ (Exit.inBlock id Q) m a w b0 hx hn h hq hs ?_ ?_
   .intro e s' m' a' w' hn' hk hs';cases e with
    |normal=>exact hκ .normal s' m' a' w' hn' hk hs'
    |exit id'=>
     simp only[Ex.to,Exit.inBlock];dsimp only at hk;split at hk
     .rename_i hb;rw[if_pos (Nat.eq_of_beq_eq_true hb)];exact hκ .normal s' m' a' w' hn' hk hs'
     .rename_i hb;rw[if_neg (λe=>hb (by simp[e]))];exact hκ (.exit id') s' m' a' w' hn' hk hs'
    |ret=>exact hκ .ret s' m' a' w' hn' hk hs'
   .intro rem q b s m a w hq hn hag hs;rw[List.append_assoc]at hag;exact hL rem (0::q) b s m a w hq hn hag hs
  .cases h
 |_=>intro q p s κ Q m a w b0 hx hn h hq hs hκ hL;cases h
theorem jqq{x:Xd}(h:js0 x=true):x=[jd x 0,jd x 1]:=by
 unfold js0 at h;split at h
 .rfl
 .cases h
theorem jqr(hD:zl C.P C.D)(hM:yD X C M)(hS:StM X C M)(hm:C.P.follows .mixedOrders=true){b:Code}{rb:RngB}(hrb:jib b=some rb)(hx:Jp b=true){p:Xf}{s:St}{κ:Ex->St->Xe}{Q:Exit->Act->World->Prop}{rem:Xc}{m:jG}{a:Act}{w:World}{O1:Nat->Prop}
  (hn:s.n=sn) (h:evIter C M f rb p s rem κ=some r) (h0:∀k,O0 k->O1 k) (hN:∀k,X.N k->O0 k) (hs:Sim X w0 Z0 O1 shv m s a w) (hi:jne X w0 O1 m s.st rem rb.it a w) (hκ:KOk X w0 Z0 O0 shv sn r κ Q)
  (hR:∀rem' s' m' a' w',s'.n=sn->jfw M f p (C.kp f p) s' (some rem')=some r->jgP X w0 Z0 O0 shv m' s' a' w' b (some rem')->jW C.P b Q a' w'):jW C.P b Q a w:=by
 obtain⟨i1,i2,nops,nx,ex,en,hbe,hl1,hl2,⟨n1,n2,n3⟩,⟨x1,x2,x3⟩,⟨y1,y2,y3⟩,hd1,hd2,hd3,hnl⟩:=jmz hrb;unfold evIter at h;split at h;rotate_left
 .cases h
 rename_i q hq;simp only[brn]at h;split at h;rotate_left
 .cases h
 rename_i hlt;simp only[Bool.and_eq_true]at hlt;have htn:rb.tn<s.n:=by simpa using hlt.1
 have hcn:rb.c<s.n:=by simpa using hlt.2
 obtain⟨bl,since,c0,seen,ht,hge,hO,hNb,hia⟩:=hi;obtain⟨bb,cc,nn,hmq,hpe⟩:∃b c n,m q=some (.blk b c n)/\Value.pointer (some ⟨bl,0,none⟩) = .pointer (some ⟨b,0,none⟩):=by
  have:=hs.fr rb.it _ ht;rw[hq]at this;simpa only[relV]using this
 obtain rfl:bl=bb:=by simpa using hpe
 have hsz:a.tmps.size=s.n:=hs.tsz;refine jW.mk ?_;generalize jW C.P b Q=LA at hR⊢;rw[hbe];refine wp_seq (wp_region_list ?_);rw[hl1];have step2:∀(v:Array Value)(bt:Bool)(w2:World),v[0]? = some (.bool bt)->(Instr.next (.pointer (some ⟨bl,0,none⟩)) false nx.type).run C.P w = .ok (.tuple v) w2->Sim X w0 Z0 O1 shv m s a w2->
   (Sim X w0 Z0 O1 shv m { s with fr:=upd (upd s.fr rb.tn .top) rb.c (.d (vb bt)) } ((a.put (some rb.tn) (.tuple v)).put (some rb.c) (.bool bt)) w2->(Code.seq (.cond (.tmp rb.c) .skip (.exit rb.k)) (.block rb.b2 (.seq (.region i2 rb.bops false) rb.rest))).wp C.P (Exit.then (LA) Q) ((a.put (some rb.tn) (.tuple v)).put (some rb.c) (.bool bt)) w2)->
   wpList C.P nops (Exit.then ((Code.seq (.cond (.tmp rb.c) .skip (.exit rb.k)) (.block rb.b2 (.seq (.region i2 rb.bops false) rb.rest))).wp C.P (Exit.then (LA) Q)) (Exit.then (LA) Q)) [nx,ex] a w:=by
  intro v bt w2 hv hrun hs2 hgo;refine qJ n3 (v:= .tuple v) (w':=w2) ?_ ?_
  .simp only[execOp,n1];rw[Qb ht];exact jbz hrun
  rw[n2];have hs3:=hs2.put (some rb.tn) (r:= .top) (v:= .tuple v) (by simp[relV]);refine qJ x3 (v:= .bool bt) (w':=w2) ?_ ?_
  .simp only[execOp,x1];rw[Qb (jjH (by rw[hsz];exact htn))];refine jbz ?_;simp[Instr.extract,hv]
  rw[x2];have hs4:=hs3.put (some rb.c) (r:= .d (vb bt)) (v:= .bool bt) (by simp[relV,rel,vb]);exact hgo hs4
 have hc2:∀(v:Value)(bt:Bool),(((a.put (some rb.tn) v).put (some rb.c) (.bool bt))).eval (.tmp rb.c) = .bool bt:=λv bt=>Qb (jjH (by simp[Act.put,hsz,hcn]));have stop:rem=[]->(Instr.next (.pointer (some ⟨bl,0,none⟩)) false nx.type).run C.P w = .ok (.tuple #[.bool false]) w->wpList C.P nops (Exit.then ((Code.seq (.cond (.tmp rb.c) .skip (.exit rb.k)) (.block rb.b2 (.seq (.region i2 rb.bops false) rb.rest))).wp C.P (Exit.then (LA) Q)) (Exit.then (LA) Q)) [nx,ex] a w:=by
  intro he hrun;subst he;rw[jnl]at h;refine step2 _ false w rfl hrun hs λhs4=>wp_seq (wp_cond (hc2 _ _) (wp_exit ?_));exact hκ (.exit rb.k) { s with fr:=upd (upd s.fr rb.tn .top) rb.c (.d (vb false)) } m _ _ hn h (hs4.weak h0 hN)
 rcases hia with⟨bm,es,clock,g1,g2,g3,g4,g5,g6,g7,g8⟩|⟨g1,g2⟩
 rotate_left
 .refine stop g1 ?_;simp only[Instr.next,getObj,Sem.run_bind,Sem.run,g2,Result.andThen];rfl
 have hbm:bm<w.heap.size:=(Array.getElem?_eq_some_iff.1 g3).1;have hbl:bl<w.heap.size:=(Array.getElem?_eq_some_iff.1 g1).1;rcases run_next_at (P:=C.P) w nx.type bl bm since c0 seen es clock g1 g3 g5 g6 with⟨k1,k2⟩|⟨e,k1,w1,k2,k3⟩
 .refine stop ?_ k2;have:(leftOf es seen).toList=[]:=by
   rw[<-List.length_eq_zero_iff,Array.length_toList];exact k1
  rw[this]at g8;exact jmE g8
 generalize hw2:ChangeMaps.setBlock w1 bl (.mapIter (some bm) since (seen.push e.born) clock)=w2 at k3;have hw2f:w2.os=w.os/\w2.tape=w.tape/\Quiet w w2/\w2.heap.size=w.heap.size/\(∀k,k≠bl->w2.heap[k]? = w.heap[k]?)/\w2.heap[bl]? = some (.mapIter (some bm) since (seen.push e.born) clock):=by
  rw[<-hw2];rcases k2 with rfl|rfl
  .refine ⟨rfl,rfl,Quiet.refl _,by simp[ChangeMaps.setBlock],λk hk=>?_,?_⟩
   .simp only[ChangeMaps.setBlock];rw[Array.getElem?_setIfInBounds,if_neg (Ne.symm hk)]
   .simp only[ChangeMaps.setBlock];rw[Array.getElem?_setIfInBounds,if_pos rfl,if_pos hbl]
  .refine ⟨rfl,rfl,Quiet.step w,by simp only[ChangeMaps.setBlock,Array.size_setIfInBounds];rfl,λk hk=>?_,?_⟩
   .simp only[ChangeMaps.setBlock];rw[Array.getElem?_setIfInBounds,if_neg (Ne.symm hk)];rfl
   .simp only[ChangeMaps.setBlock];rw[Array.getElem?_setIfInBounds,if_pos rfl];exact if_pos hbl
 clear hw2;obtain⟨f1,f2,f3,f4,f5,f6⟩:=hw2f;have hs2:=hs.turn hO hge hNb f1 f2 f3 f4 f5;have mono2:MonoW w (Ow O1 m s.st) w2 (Ow O1 m s.st):=⟨Nat.le_of_eq f4.symm,λk _ hk=>f5 k λe=>hk (Or.inl (e ▸ hO)),λ_ _ hk=>hk⟩;have hbmne:bm≠bl:=λe=>g2 (Or.inl (e ▸ hO));have g3':w2.heap[bm]? = some (.map es clock):=(f5 bm hbmne).trans g3;obtain⟨lp,lq,hsplit⟩:=List.append_of_mem k1;rw[hsplit]at g8;obtain⟨i,x,hxi,hxe,hrest⟩:=jcZ g8;have hne:rem≠ []:=λe=>by rw[e]at hxi;simp at hxi
 rw[Zw hne]at h;have h:=h i x hxi;split at h;rotate_left
 .cases h
 rename_i hkv;rw[jqq hkv]at hxe;obtain⟨hrk,hrv⟩:=jgn hxe;refine step2 _ true w2 rfl k3 hs2 λhs4=>wp_seq (wp_cond (hc2 _ _) (wp_skip ?_));refine wp_block (wp_seq (wp_region_list ?_));rw[hl2];refine qJ y3 (v:= .tuple #[e.key,e.val]) (w':=w2) ?_ ?_
 .simp only[execOp,y1];rw[Qb (v:= .pointer (some ⟨bl,0,none⟩)) (by rw[jgh hd2,jgh hd1];exact ht)];exact jbz (run_entry_at w2 bl bm since seen es clock e f6 g3' (mem_left k1).1 g4.borns)
 rw[y2];have hs5:=hs4.put (some rb.te) (r:= .d (.tup [jd x 0,jd x 1])) (v:= .tuple #[e.key,e.val]) (by
  simp only[relV,rel];exact⟨[e.key,e.val],rfl,jF mono2 _ _ (by simp only[jm];exact⟨_,_,rfl,hrk,_,_,rfl,hrv,rfl⟩)⟩)
 have hs6:Sim X w2 (Mz m s.st) O1 (some (.blk bl cc nn::shv.getD [])) m ⟨s.n,upd (upd (upd s.fr rb.tn .top) rb.c (.d (vb true))) rb.te (.d (.tup [jd x 0,jd x 1])),s.st,s.nx,some (q::shL s.sh)⟩ (((a.put (some rb.tn) (.tuple #[.bool true,e.key,e.val])).put (some rb.c) (.bool true)).put (some rb.te) (.tuple #[e.key,e.val])) w2:=by
  have hb:=hs5.base;refine⟨hb.defers,hb.tsz,hb.os,hb.tape,hb.output,hb.size,hb.keep,hb.new,hb.sto,hb.fr,?_,?_⟩
  .have hsh:=hs.sh;show(some (q::shL s.sh)).map _=_;simp only[Option.map_some,List.map_cons,hmq];cases h1:s.sh with
   |none=>
    cases h2:shv with
    |none=>rfl
    |some l=>rw[h1,h2]at hsh;cases hsh
   |some l=>
    cases h2:shv with
    |none=>rw[h1,h2]at hsh;cases hsh
    |some l'=>
     rw[h1,h2]at hsh;simp only[Option.map_some,Option.some.injEq]at hsh;simp only[shL,Option.getD_some,hsh]
  .intro l hl hd' hm';cases hl;rcases List.mem_cons.1 hm' with rfl|h1
   .rfl
   .cases h2:shv with
    |none=>rw[h2]at h1;cases h1
    |some l'=>rw[h2]at h1;exact hs.shf _ h2 hd' h1
 rw[<-List.append_nil rb.ops4];refine jhd (C:=C.at f) hD hM hS h hs6 (s.nx+8*rb.ops4.length) λfr st lg m3 a3 w3 hk3 hs7=>wpList_nil ?_;have hlx:Jp rb.rest=true:=by
  rw[hbe]at hx;simp only[Jp,Bool.and_eq_true]at hx;exact hx.2.2.2
 have hbl2:bl<w2.heap.size:=by rw[f4];exact hbl
 have hblM:¬Mz m s.st bl:=λ⟨id,hd,z1,z2,z3⟩=>(hs.sto.blk id hd bl z1 z2 z3).2 hO;refine yK hD hM hS hm rb.rest _ ⟨s.n,fr,st,s.nx+8*rb.ops4.length,some (q::shL s.sh)⟩ _ _ m3 a3 w3 hlx hn hk3 hs7 ?_ (λrem' q' b' s' m' a' w' hq'=>absurd hq' (yO hnl));intro ee s' m' a' w' hn' hk' hs';unfold roundK at hk';split at hk';rotate_left
 .cases hk'
 rename_i q2 hq2;rw[Option.bind_eq_some_iff]at hk';obtain⟨sh,hsh,hk'⟩:=hk';have hsh':=hs'.sh;obtain⟨hm2,hshE⟩:m' q2=some (.blk bl cc nn)/\sh.map (λl=>l.map m')=shv.map (λl=>l.map some):=by
  unfold jsh at hsh;split at hsh
  .rename_i l he;rw[cond_eq_ite]at hsh;split at hsh
   .rename_i hqq;have hqq:=Nat.eq_of_beq_eq_true hqq;rw[he,hqq]at hsh';simp only[Option.map_some,Option.some.injEq,List.map_cons,List.cons.injEq]at hsh';refine⟨hsh'.1,?_⟩;have hwas:=hs.sh;cases h1:s.sh with
    |none=>
     rw[h1]at hsh hwas;have hv:shv=none:=by cases hv:shv with|none=>rfl|some _=>rw[hv]at hwas;cases hwas
     rw[hv]at hsh'⊢;simp only[Option.isSome_none,cond_false]at hsh;split at hsh
     .cases hsh;rfl
     .cases hsh
    |some l0=>
     rw[h1]at hsh hwas;cases hv:shv with
     |none=>rw[hv]at hwas;cases hwas
     |some l'=>
      rw[hv]at hsh';simp only[Option.isSome_some,cond_true,Option.some.injEq]at hsh;subst hsh;simp only[Option.map_some,hsh'.2,Option.getD_some]
   .cases hsh
  .cases hsh
 have hit:a'.tmps[rb.it]? = some (.pointer (some ⟨bl,0,none⟩)):=by
  have hlt':rb.it<a'.tmps.size:=by
   rw[hs'.tsz,hn',<-hn,<-hsz];exact(Array.getElem?_eq_some_iff.1 ht).1
  have hv:=hs'.fr rb.it a'.tmps[rb.it] (Array.getElem?_eq_getElem hlt');rw[hq2]at hv;simp only[relV,hm2]at hv;obtain⟨z1,z2,z3,z4,z5⟩:=hv;cases z4;rw[Array.getElem?_eq_getElem hlt',z5]
 have hs8:Sim X w0 Z0 O1 shv m' { s' with sh:=sh } a' w':=by
  have hc:=hs2.comp hs';exact⟨hc.defers,hc.tsz,hc.os,hc.tape,hc.output,hc.size,hc.keep,hc.new,hc.sto,hc.fr,hshE,hs.shf⟩
 have mono3:MonoW w2 (Ow O1 m s.st) w' (Ow O1 m' s'.st):=⟨hs'.size,λk hk hz=>hs'.keep k hk λh=>hz (Or.inr h),λk hk hz hz'=>by
  rcases hz' with z|z
  .exact hz (Or.inl z)
  .rcases hs'.new k z with z|z
   .exact hz (Or.inr z)
   .omega⟩
 have hSL:jgP X w0 Z0 O0 shv m' { s' with sh:=sh } a' w' b (some (rem.eraseIdx i)):=by
  refine⟨O1,rb,hrb,h0,hN,hs8,bl,since,clock,seen.push e.born,hit,hge,hO,hNb,QV.mono mono3 (hs'.keep bl hbl2 hblM) (Or.inl ⟨bm,es,clock,f6,g2,g3',g4,g5,g7,g7,?_⟩)⟩;rw[jl1 g4.borns hsplit];exact zt mono2 _ _ hrest
 cases ee with
 |normal=>exact hR _ { s' with sh:=sh } m' a' w' hn' hk' hSL
 |exit id=>
  dsimp only at hk';simp only[Ex.to,Exit.inBlock];split at hk'
  .rename_i hb;rw[if_pos (Nat.eq_of_beq_eq_true hb)];exact hR _ { s' with sh:=sh } m' a' w' hn' hk' hSL
  .rename_i hb;rw[if_neg (λe=>hb (by simp[e]))];exact hκ (.exit id) { s' with sh:=sh } m' a' w' hn' hk' (hs8.weak h0 hN)
 |ret=>exact hκ .ret { s' with sh:=sh } m' a' w' hn' hk' (hs8.weak h0 hN)
theorem jnS(hD:zl C.P C.D)(hM:yD X C M)(hS:StM X C M)(hm:C.P.follows .mixedOrders=true):∀(c:Code)(q p:Xf)(s:St)(rem:Xc)(κ:Ex->St->Xe)(Q:Exit->Act->World->Prop)(m:jG)(a:Act)(w:World)(b0:Code),
  Jp c=true->s.n=sn->evAtR C M f rem c q p s κ=some r->zE c q=some (.loop b0)->jgP X w0 Z0 O0 shv m s a w b0 (some rem)->KOk X w0 Z0 O0 shv sn r κ Q->Js C M f X w0 Z0 O0 shv sn r c p Q->jW C.P b0 (postAt C.P c q Q) a w:=by
 intro c;induction c with
 |loop b ih=>
  intro q p s rem κ Q m a w b0 hx hn h hq hs hκ hL;have hκ':KOk X w0 Z0 O0 shv sn r (λe s'=>match e with|.normal=>again M f p (C.kp f p) s'|e=>κ e s') (Exit.then (jW C.P b Q) Q):=by
   intro e s' m' a' w' hn' hk hs';cases e with
   |normal=>exact hL none [] b s' m' a' w' rfl hn' (by rw[List.append_nil];exact hk) hs'
   |exit id=>exact hκ (.exit id) s' m' a' w' hn' hk hs'
   |ret=>exact hκ .ret s' m' a' w' hn' hk hs'
  have hL':Js C M f X w0 Z0 O0 shv sn r b (p++[0]) (Exit.then (jW C.P b Q) Q):=by
   intro rem q b s m a w hq hn hag hs;rw[List.append_assoc]at hag;exact hL rem (0::q) b s m a w hq hn hag hs
  rcases q with _|⟨_|n,q⟩
  .cases hq;obtain⟨O1,rb,z1,z2,z3,z4,z5⟩:=hs;simp only[evAtR]at h;rw[z1]at h;exact jqr hD hM hS hm z1 hx hn h z2 z3 z4 z5 hκ λrem' s' m' a' w' hn' hk' hs'=>hL (some rem') [] b s' m' a' w' rfl hn' (by rw[List.append_nil];exact hk') hs'
  .exact ih q (p++[0]) s rem _ _ m a w b0 hx hn h hq hs hκ' hL'
  .cases h
 |seq x y ihx ihy=>
  intro q p s rem κ Q m a w b0 hx hn h hq hs hκ hL;simp only[Jp,Bool.and_eq_true]at hx;have hL1:Js C M f X w0 Z0 O0 shv sn r y (p++[1]) Q:=by
   intro rem q b s m a w hq hn hag hs;rw[List.append_assoc]at hag;exact hL rem (1::q) b s m a w hq hn hag hs
  rcases q with _|⟨_|_|n,q⟩
  .cases h
  .refine ihx q (p++[0]) s rem _ (Exit.then (y.wp C.P Q) Q) m a w b0 hx.1 hn h hq hs ?_ ?_
   .intro e s' m' a' w' hn' hk hs';cases e with
    |normal=>exact yK hD hM hS hm y (p++[1]) s' κ Q m' a' w' hx.2 hn' hk hs' hκ hL1
    |exit id=>exact hκ (.exit id) s' m' a' w' hn' hk hs'
    |ret=>exact hκ .ret s' m' a' w' hn' hk hs'
   .intro rem q b s m a w hq hn hag hs;rw[List.append_assoc]at hag;exact hL rem (0::q) b s m a w hq hn hag hs
  .exact ihy q (p++[1]) s rem κ Q m a w b0 hx.2 hn h hq hs hκ hL1
  .cases h
 |cond c x y ihx ihy=>
  intro q p s rem κ Q m a w b0 hx hn h hq hs hκ hL;simp only[Jp,Bool.and_eq_true]at hx;rcases q with _|⟨_|_|n,q⟩
  .cases h
  .refine ihx q (p++[0]) s rem κ Q m a w b0 hx.1 hn h hq hs hκ ?_;intro rem q b s m a w hq hn hag hs;rw[List.append_assoc]at hag;exact hL rem (0::q) b s m a w hq hn hag hs
  .refine ihy q (p++[1]) s rem κ Q m a w b0 hx.2 hn h hq hs hκ ?_;intro rem q b s m a w hq hn hag hs;rw[List.append_assoc]at hag;exact hL rem (1::q) b s m a w hq hn hag hs
  .cases h
 |block id b ih=>
  intro q p s rem κ Q m a w b0 hx hn h hq hs hκ hL;rcases q with _|⟨_|n,q⟩
  .cases h
  .refine ih q (p++[0]) s rem _ (Exit.inBlock id Q) m a w b0 hx hn h hq hs ?_ ?_
   .intro e s' m' a' w' hn' hk hs';cases e with
    |normal=>exact hκ .normal s' m' a' w' hn' hk hs'
    |exit id'=>
     simp only[Ex.to,Exit.inBlock];dsimp only at hk;split at hk
     .rename_i hb;rw[if_pos (Nat.eq_of_beq_eq_true hb)];exact hκ .normal s' m' a' w' hn' hk hs'
     .rename_i hb;rw[if_neg (λe=>hb (by simp[e]))];exact hκ (.exit id') s' m' a' w' hn' hk hs'
    |ret=>exact hκ .ret s' m' a' w' hn' hk hs'
   .intro rem q b s m a w hq hn hag hs;rw[List.append_assoc]at hag;exact hL rem (0::q) b s m a w hq hn hag hs
  .cases h
 |_=>intro q p s rem κ Q m a w b0 hx hn h hq hs hκ hL;cases h
end
end
noncomputable section
section
variable{C:Cfg}{X:Ctx}{w0 w:World}{Z0 O0:Nat->Prop}{shv:Option (List Hd)}{m:jG}{s:St}{a:Act}{st:jg}
theorem jjb(hD:zl C.P C.D){t id off b c n:Nat}{v:V}{rds:Xm}(h:yL C t (.ptr id off) st = .val v rds)(hs:Sto X w O0 m st)(h1:m id=some (.blk b c n)) :
  ∃z,(loadVar t ⟨b,off,none⟩).run C.P w = .ok z w/\relV w (Ow O0 m st) m v z:=by
 unfold yL at h;split at h
 .cases h
 .rename_i i hi;dsimp only at h;split at h
  .rename_i cs hst;obtain⟨vs,g3,g4⟩:=Q6 hs hst h1;split at h
   .rename_i hp;split at h
    .rename_i v' hv;cases h;obtain⟨u,g5,g6⟩:=yT g3 hv;have hlt:=(List.getElem?_eq_some_iff.1 g5).1;have hk:i.kind.known=true:=by cases hi:i.kind<;>simp_all [TK.known,TK.plain]
     obtain⟨z,q1,q2⟩:=run_loadCells (P:=C.P) (hD _ _ hi) hk (g4.drop off) (by rw[(hD _ _ hi).one hp];simp;omega)
     rcases q2 with⟨_,q2⟩|⟨q2,_⟩
     .have e:z=u:=by rw[List.getElem?_drop,Nat.add_zero,g5]at q2;cases q2;rfl
      subst e;exact⟨z,by simpa using q1,g6⟩
     .rw [hp]at q2;cases q2
    .cases h
   .rename_i hp;split at h
    .rename_i hk;simp only[Bool.and_eq_true,Nat.ble_eq]at hk;cases h;have hvl:=jZ g3;obtain⟨z,q1,q2⟩:=run_loadCells (P:=C.P) (hD _ _ hi) hk.1 (g4.drop off) (by simp;omega);rcases q2 with⟨q2,_⟩|⟨_,rfl⟩
     .exact absurd q2 hp
     .refine ⟨_,by simpa using q1,?_⟩;simp only[relV];exact⟨_,rfl,Jj _ (Ji _ g3)⟩
    .cases h
  .cases h
def ja4(tmps:Array Value):ResultVar->Sem Value
 |.tmp t=>pure (tmps.getD t undef)
 |.cell a t=>do loadVar t (<-asAddr (tmps.getD a undef))
theorem jlg(hD:zl C.P C.D)(hs:Sim X w0 Z0 O0 shv m s a w){x:ResultVar}{v:V}(h:jq3 C s x=some v):∃z,(ja4 a.tmps x).run C.P w = .ok z w/\relV w (Ow O0 m s.st) m v z:=by
 cases x with
 |tmp t=>
  cases h;exact⟨a.tmps.getD t undef,by simp[ja4],hs.ev (.tmp t)⟩
 |cell b t=>
  simp only[jq3]at h;split at h
  .rename_i v' rds hl;cases h;have hb:=hs.ev (.tmp b);revert hl hb;generalize QS s.n s.fr (.tmp b)=p;intro hl hb;cases p with
   |ptr id off=>
    simp only[relV]at hb;obtain⟨bb,c,n,h1,h2⟩:=hb;obtain⟨z,h3,h4⟩:=jjb hD hl hs.sto h1;refine⟨z,?_,h4⟩;simp only[Act.eval]at h2;simp only[ja4,Sem.run_bind,h2,asAddr,Sem.run_pure,Result.andThen_ok,h3]
   |d p=>
    unfold yL at hl;split at hl
    .cases hl
    .dsimp only at hl;split at hl
     .cases hl
     .split at hl<;>cases hl
   |rptr id i k j=>
    unfold yL at hl;split at hl
    .cases hl
    .dsimp only at hl;split at hl
     .split at hl
      .split at hl
       .cases hl
       .split at hl<;>cases hl
      .cases hl
     .cases hl
   |_=>
    unfold yL at hl;split at hl<;>cases hl
  .cases h
theorem jby(hD:zl C.P C.D)(hs:Sim X w0 Z0 O0 shv m s a w):∀(l:List ResultVar)(ts:List TypeId){vs:Xj},jgp C s l ts=some vs-> ∃us,(l.mapM (ja4 a.tmps)).run C.P w = .ok us w/\jb w (Ow O0 m s.st) m vs us
 | [],ts,vs,h=>by
  simp only[jgp]at h;cases h;exact⟨[],by simp,by simp[jb]⟩
 |x::l,[],vs,h=>by
  simp only[jgp]at h;split at h
  .rename_i v vs' h1 h2;cases h;obtain⟨z,g1,g2⟩:=jlg hD hs h1;obtain⟨us,g3,g4⟩:=jby hD hs l [] h2;exact⟨z::us,by simp only[List.mapM_cons,Sem.run_bind,g1,Result.andThen_ok,g3,Sem.run_pure],by simp only[jb];exact⟨z,us,rfl,g2,g4⟩⟩
  .cases h
 |x::l,t::ts,vs,h=>by
  simp only[jgp]at h;split at h
  .rename_i v vs' h1 h2;cases h;obtain⟨z,g1,g2⟩:=jlg hD hs h1;obtain⟨us,g3,g4⟩:=jby hD hs l ts h2;exact⟨z::us,by simp only[List.mapM_cons,Sem.run_bind,g1,Result.andThen_ok,g3,Sem.run_pure],by simp only[jb];exact⟨z,us,rfl,zk g2,g4⟩⟩
  .cases h
theorem jje(hD:zl C.P C.D)(hs:Sim X w0 Z0 O0 shv m s a w){fn:Func}{out:Out}(h:Qd C fn s=some out):∃v,(results fn a.tmps).run C.P w = .ok v w/\rel w O0 out.1 v/\out.2=[]:=by
 unfold Qd at h;split at h
 .rename_i vs hvs;split at h
  .rename_i r rds hr;cases h;obtain⟨us,h1,h2⟩:=jby hD hs _ _ hvs;have hm:(fn.results.mapM (ja4 a.tmps)).run C.P w = .ok us.toArray w:=by
    rw[Array.mapM_eq_mapM_toList];simp only[Sem.run_map,h1,Result.andThen_ok]
   have hl:=jZ h2;refine⟨if h:us.toArray.size=1 then us.toArray[0]else .tuple us.toArray,?_,?_,rfl⟩
   .have e:results fn a.tmps=(do let vs <-fn.results.mapM (ja4 a.tmps);pure (if h:vs.size=1 then vs[0]else .tuple vs)):=by
     unfold results;congr 1
    rw[e];simp only[Sem.run_bind,hm];simp only[Result.andThen_ok,Sem.run_pure]
   .have hrel:relV w (Ow O0 m s.st) m (Jd vs) (if h:us.toArray.size=1 then us.toArray[0]else .tuple us.toArray):=by
     match vs,us,h2,hl with
     | [r],[v],h2,_=>
      simp only[jb,List.cons.injEq]at h2;obtain⟨u,t,⟨rfl,rfl⟩,h3,_⟩:=h2;simpa[Jd]using h3
     | [],us,h2,hl=>
      have hne:¬us.toArray.size=1:=by simp at hl⊢;simp[hl]
      rw[dif_neg hne];simp only[Jd,relV];exact⟨us,rfl,h2⟩
     |r1::r2::rs,us,h2,hl=>
      have hne:¬us.toArray.size=1:=by simp at hl⊢;omega
      rw[dif_neg hne];simp only[Jd,relV];exact⟨us,rfl,h2⟩
    have hg:=QG hs.sto 60 (Jd vs) hr hrel;refine jU (MonoW.sub λb hb=>⟨Or.inl hb,?_⟩) _ _ hg;rintro⟨id,o,hd,h3,h4,h5,h7⟩;have h6:=jbC 60 (Jd vs) hr _ h3;simp only[kr]at h6;exact(hs.sto.blk id hd b (by rw[h6];exact h4) h5 h7).2 hb
  .cases h
 .cases h
structure Sane(C:Cfg):Prop where
 ty:zl C.P C.D
 mixed:C.P.follows .mixedOrders=true
 names:∀(f:FuncId)(fn:Func),C.P.funcs[f]? = some fn->(fn.name == "runtime.NumGoroutine")=false
 lex:∀(f:FuncId)(fn:Func)(c:Code),C.P.funcs[f]? = some fn->fn.body=some c->Jp c=true
theorem YJ{O:Nat->Prop} :∀{as:Xd}{us:Xh},jm w O as us->jb w O m (as.map V.d) us
 | [],us,h=>by simpa[jm,jb]using h
 |x::as,us,h=>by
  simp only[jm]at h;obtain⟨v,r,h1,h2,h3⟩:=h;simp only[List.map_cons,jb,relV];exact⟨v,r,h1,h2,YJ h3⟩
structure ExtM(c c':MAcc):Prop where
 as:∀(i:Nat)(a:A),c.as[i]? = some a->c'.as[i]? = some a
 ns:∀(i:Nat)(x:Option Nat),c.ns[i]? = some x->c'.ns[i]? = some x
 rds:∀x,x∈c.rds->x∈c'.rds
theorem ExtM.refl(c:MAcc):ExtM c c:=⟨λ_ _ h=>h,λ_ _ h=>h,λ_ h=>h⟩
theorem ExtM.trans{a b c:MAcc}(h:ExtM a b)(k:ExtM b c):ExtM a c:=⟨λi x e=>k.as i x (h.as i x e),λi x e=>k.ns i x (h.ns i x e),λx e=>k.rds x (h.rds x e)⟩
theorem jkL{α:Type}{l:List α}{x:α} :∀(i:Nat)(a:α),l[i]? = some a->(l++[x])[i]? = some a:=λi a h=>by
 rw[List.getElem?_append_left (List.getElem?_eq_some_iff.mp h).1];exact h
theorem ExtM.ns1(c:MAcc)(x:Option Nat):ExtM c ⟨c.as,c.ns++[x],c.rds⟩:=⟨λ_ _ h=>h,jkL,λ_ h=>h⟩
theorem ExtM.as1(c:MAcc)(a:A)(r:Xm):ExtM c ⟨c.as++[a],c.ns,c.rds++r⟩:=⟨jkL,λ_ _ h=>h,λ_ h=>List.mem_append_left _ h⟩
def nsM(m:jG):Option Nat->Option Hd
 |some id=>m id
 |none=>some .none
def owI(id:Nat):OW->Option Nat
 |.cons=>none
 |_=>some id
def rowIs(st:jg)(b:Bool)(k:Nat)(xs:Xc):Option Nat->Prop
 |none=>xs=[]/\Nat.blt (kdK k) 128=true
 |some id=>Jr b k xs = .gone\/(st id=Jr b k xs/\(Jr b k xs).alive=true)
theorem JD{st:jg}{b:Bool}{k:Nat}{xs:Xc}{id:Nat}{o:Abs.Obj}(h:rowIs st b k xs (some id))(e:o=Jr b k xs)(ha:o.alive=true):st id=o/\(st id).alive=true:=by
 rcases h with h|⟨h1,h2⟩
 .rw [e,h]at ha;cases ha
 .rw [h1,e];exact⟨rfl,h2⟩
def jdJ(sh:Xf)(ns:List (Option Nat))(m:jG):jG:=λi=>
 if i<sh.length then(sh[i]?).bind m else match ns[i-sh.length]? with
  |some (some id)=>m id
  |some none=>some .none
  |none=>none
theorem jf2{sh:Xf}{ns:List (Option Nat)}{m:jG}{q id:Nat}(h:sh[q]? = some id):jdJ sh ns m q=m id:=by
 have:=(List.getElem?_eq_some_iff.mp h).1;unfold jdJ;rw[if_pos this,h];rfl
theorem jf1{sh:Xf}{ns:List (Option Nat)}{m:jG}{q:Nat}{x:Option Nat}(h:ns[q]? = some x):jdJ sh ns m (sh.length+q)=nsM m x:=by
 unfold jdJ;have e:sh.length+q-sh.length=q:=by omega
 rw[if_neg (by omega),e];rw[h];cases x<;>rfl
theorem jjJ:∀(ds:Xd),((List.range ds.length).map λj=>V.d (jd ds j))=ds.map V.d:=λds=>by
 refine List.ext_getElem? λi=>?_;rw[List.getElem?_map,List.getElem?_map];by_cases h:i<ds.length
 .rw [List.getElem?_range h,List.getElem?_eq_getElem h];simp[jd,h]
 .rw [List.getElem?_eq_none (by simpa using h),List.getElem?_eq_none (by omega)];rfl
def jpK(st:jg)(w:World)(m:jG)(O O':Nat->Prop)(F:MAcc):Prop:=∀(a:A)(r:Xm)(v:V)(u:Value),toA st 60 v=some (a,r)->(∀x∈r,x∈F.rds)->relV w O m v u->rel w O' a u
section
variable{O O':Nat->Prop}{F:MAcc}{sh:Xf}
mutual
theorem joA :
  ∀(s:Sh)(v:V){c c':MAcc},mt st sh s v c=some c'->ExtM c c'/\(jpK st w m O O' F->ExtM c' F-> ∀u,relV w O m v u->relV w O' (jdJ sh F.ns m) (s.toV F.as) u)
 |.d i,v,c,c',h=>by
  simp only[mt]at h;split at h
  .rename_i a r ha;split at h
   .rename_i hb;cases h;have hb:=Nat.eq_of_beq_eq_true hb;refine⟨ExtM.as1 _ _ _,λhR hF u hu=>?_⟩;have:F.as[i]? = some a:=hF.as i a (by rw[hb];simp);simp only[Sh.toV,relV];rw[List.getD_eq_getElem?_getD,this];exact hR a r v u ha (λx hx=>hF.rds x (by simp[hx])) hu
   .cases h
  .cases h
 |.row o,v,c,c',h=>by
  cases v<;>simp only[mt,reduceCtorEq]at h
  case row id=>
   split at h
   .rename_i q hq;split at h
    .rename_i hb;cases h;have hb:=Nat.eq_of_beq_eq_true hb;subst hb;refine⟨ExtM.refl _,λhR hF u hu=>?_⟩;simp only[relV,Sh.toV]at hu⊢;obtain⟨hd,h1,h2⟩:=hu;exact⟨hd,by rw[jf2 hq];exact h1,h2⟩
    .cases h
   .split at h
    .rename_i hb;cases h;have hb:=Nat.eq_of_beq_eq_true hb;refine⟨ExtM.ns1 _ _,λhR hF u hu=>?_⟩;simp only[relV,Sh.toV]at hu⊢;obtain⟨hd,h1,h2⟩:=hu;refine⟨hd,?_,h2⟩;rw[hb,jf1 (hF.ns c.ns.length (some id) (by simp))];exact h1
    .cases h
  case nil k=>
   split at h
   .rename_i hb;cases h;have hb:=Nat.eq_of_beq_eq_true hb;refine⟨ExtM.ns1 _ _,λhR hF u hu=>?_⟩;simp only[relV,Sh.toV]at hu⊢;refine⟨.none,?_,hu⟩;rw[hb,jf1 (hF.ns c.ns.length none (by simp))];rfl
   .cases h
 |.ptr o off,v,c,c',h=>by
  cases v<;>simp only[mt,reduceCtorEq]at h
  case ptr id off'=>
   split at h
   .rename_i q hq;split at h
    .rename_i hb;simp only[Bool.and_eq_true]at hb;cases h;have hb1:=Nat.eq_of_beq_eq_true hb.1;have hb2:=Nat.eq_of_beq_eq_true hb.2;subst hb1 hb2;refine⟨ExtM.refl _,λhR hF u hu=>?_⟩;simp only[relV,Sh.toV]at hu⊢;obtain⟨b,cc,n,h1,h2⟩:=hu;exact⟨b,cc,n,by rw[jf2 hq];exact h1,h2⟩
    .cases h
   .cases h
 |.agg l,v,c,c',h=>by
  cases v<;>simp only[mt,reduceCtorEq]at h
  case agg cs=>
   obtain⟨h1,h2⟩:=jcF l cs h;refine⟨h1,λhR hF u hu=>?_⟩;simp only[relV,Sh.toV]at hu⊢;obtain⟨vs,h3,h4⟩:=hu;exact⟨vs,h3,h2 hR hF vs h4⟩
  case d a=>
   rw[Option.bind_eq_some_iff]at h;obtain⟨ds,ha,h⟩:=h;obtain⟨h1,h2⟩:=jcF l _ h;refine⟨h1,λhR hF u hu=>?_⟩;unfold juF at ha;split at ha
   .split at ha
    .rename_i hl;cases ha;simp only[relV,rel,Sh.toV]at hu⊢;obtain⟨vs,h3,h4⟩:=hu;refine⟨vs,h3,h2 hR hF vs ?_⟩;rw[<-hl,jjJ];exact YJ h4
    .cases ha
   .cases ha
 |.tup l,v,c,c',h=>by
  cases v<;>simp only[mt,reduceCtorEq]at h
  case tup cs=>
   obtain⟨h1,h2⟩:=jcF l cs h;refine⟨h1,λhR hF u hu=>?_⟩;simp only[relV,Sh.toV]at hu⊢;obtain⟨vs,h3,h4⟩:=hu;exact⟨vs,h3,h2 hR hF vs h4⟩
theorem jcF :
  ∀(l:List Sh)(vs:Xj){c c':MAcc},mtL st sh l vs c=some c'->ExtM c c'/\(jpK st w m O O' F->ExtM c' F-> ∀us,jb w O m vs us->jb w O' (jdJ sh F.ns m) (Sh.toVL F.as l) us)
 | [],[],c,c',h=>by
  simp only[mtL]at h;cases h;exact⟨ExtM.refl _,λ_ _ us hu=>by simpa[jb,Sh.toVL]using hu⟩
 | [],_::_,_,_,h=>by simp only[mtL,reduceCtorEq]at h
 |_::_,[],_,_,h=>by simp only[mtL,reduceCtorEq]at h
 |s::l,v::vs,c,c',h=>by
  simp only[mtL]at h;rw[Option.bind_eq_some_iff]at h;obtain⟨c1,g1,g2⟩:=h;obtain⟨h1,h2⟩:=joA s v g1;obtain⟨h3,h4⟩:=jcF l vs g2;refine⟨h1.trans h3,λhR hF us hu=>?_⟩;simp only[jb,Sh.toVL]at hu⊢;obtain⟨x,r,e,q1,q2⟩:=hu;exact⟨x,r,e,h2 hR (h3.trans hF) x q1,h4 hR hF r q2⟩
end
theorem jjx :
  ∀(ws:List OW)(ids:Xf){c c':MAcc},mtB st sh ws ids c=some c'->ExtM c c'/\ws.length=ids.length/\(jpK st w m O O' F->ExtM c' F-> ∀(i:Nat)(l:List Sh)(id:Nat),ws[i]? = some (.box l)->ids[i]? = some id-> ∃cs,st id = .box cs/\ ∀us,jb w O m cs us->jb w O' (jdJ sh F.ns m) (Sh.toVL F.as l) us)
 | [],[],c,c',h=>by
  simp only[mtB]at h;cases h;exact⟨ExtM.refl _,rfl,λ_ _ i l id h=>by simp at h⟩
 | [],_::_,_,_,h=>by simp only[mtB,reduceCtorEq]at h
 |x::_,[],_,_,h=>by cases x<;>simp only[mtB,reduceCtorEq]at h
 |x::ws,id::ids,c,c',h=>by
  have gen:mtB st sh ws ids c=some c'->(∀l,x≠ .box l)->ExtM c c'/\(x::ws).length=(id::ids).length/\(jpK st w m O O' F->ExtM c' F-> ∀(i:Nat)(l:List Sh)(id':Nat),(x::ws)[i]? = some (.box l)->(id::ids)[i]? = some id'-> ∃cs,st id' = .box cs/\ ∀us,jb w O m cs us->jb w O' (jdJ sh F.ns m) (Sh.toVL F.as l) us):=by
   intro h hx;obtain⟨h1,h2,h3⟩:=jjx ws ids h;refine⟨h1,by simp[h2],λhR hF i l id' hi hid=>?_⟩;cases i with
   |zero=>simp at hi;exact absurd hi (hx l)
   |succ i=>exact h3 hR hF i l id' (by simpa using hi) (by simpa using hid)
  cases x with
  |cons=>exact gen (by simpa only[mtB]using h) λl h=>by cases h
  |io j=>exact gen (by simpa only[mtB]using h) λl h=>by cases h
  |box l=>
   simp only[mtB]at h;split at h
   .rename_i cs hst;rw[Option.bind_eq_some_iff]at h;obtain⟨c1,g1,g2⟩:=h;obtain⟨h1,h2⟩:=jcF l cs g1;obtain⟨h3,h4,h5⟩:=jjx ws ids g2;refine⟨h1.trans h3,by simp[h4],λhR hF i l' id' hi hid=>?_⟩;cases i with
    |zero=>
     simp at hi hid;subst hi hid;exact⟨cs,hst,λus hus=>h2 hR (h3.trans hF) us hus⟩
    |succ i=>exact h5 hR hF i l' id' (by simpa using hi) (by simpa using hid)
   .cases h
end
theorem jbu{st:jg}{sh:Xf} :∀{ws:List OW}{ids:Xf}{c c':MAcc},mtB st sh ws ids c=some c'->ws.length=ids.length
 | [],[],c,c',_=>rfl
 | [],_::_,_,_,h=>by simp only[mtB,reduceCtorEq]at h
 |x::_,[],_,_,h=>by cases x<;>simp only[mtB,reduceCtorEq]at h
 |x::ws,id::ids,c,c',h=>by
  cases x with
  |cons=>simp only[mtB]at h;simp[jbu h]
  |io j=>simp only[mtB]at h;simp[jbu h]
  |box l=>
   simp only[mtB]at h;split at h
   .rw [Option.bind_eq_some_iff]at h;obtain⟨c1,g1,g2⟩:=h;simp[jbu g2]
   .cases h
theorem ZK{st:jg}{sh:Xf} :∀{ws:List OW}{ids:Xf}{c c':MAcc}{i id:Nat}{l:List Sh},mtB st sh ws ids c=some c'->ws[i]? = some (.box l)->ids[i]? = some id-> ∃cs,st id = .box cs
 | [],_,_,_,_,_,_,_,h,_=>by simp at h
 |_::_,[],_,_,_,_,_,_,_,h=>by simp at h
 |x::ws,y::ids,c,c',i,id,l,h,hi,hid=>by
  cases i with
  |zero=>
   simp at hi hid;subst hi hid;simp only[mtB]at h;split at h
   .rename_i cs hst;exact⟨cs,hst⟩
   .cases h
  |succ i=>
   simp only[List.getElem?_cons_succ]at hi hid;cases x with
   |cons=>simp only[mtB]at h;exact ZK h hi hid
   |io j=>simp only[mtB]at h;exact ZK h hi hid
   |box l=>
    simp only[mtB]at h;split at h
    .rw [Option.bind_eq_some_iff]at h;obtain⟨c1,g1,g2⟩:=h;exact ZK g2 hi hid
    .cases h
theorem jen:∀{ws:List OW}{sh:Xf},ws.length=sh.length->(Qr ws sh).length=ws.length/\ ∀(i:Nat)(ow:OW)(id:Nat),ws[i]? = some ow->sh[i]? = some id->(Qr ws sh)[i]? = some (owI id ow)
 | [],[],_=>⟨rfl,λi ow id h=>by simp at h⟩
 | [],_::_,h=>by cases h
 |_::_,[],h=>by cases h
 |x::ws,y::sh,h=>by
  obtain⟨h1,h2⟩:=jen (ws:=ws) (sh:=sh) (by simpa using h);have e:Qr (x::ws) (y::sh)=owI y x::Qr ws sh:=by cases x<;>rfl
  rw[e];refine⟨by simp[h1],λi ow id hi hid=>?_⟩;cases i with
  |zero=>simp at hi hid;subst hi hid;cases x<;>rfl
  |succ i=>exact h2 i ow id (by simpa using hi) (by simpa using hid)
theorem jcg:∀{ws:List OW}{sh:Xf},ws.length=sh.length->(ioL ws sh).length=ioN ws
 | [],[],_=>rfl
 | [],_::_,h=>by cases h
 |_::_,[],h=>by cases h
 |x::ws,y::sh,h=>by
  have:=jcg (ws:=ws) (sh:=sh) (by simpa using h);cases x<;>simp[ioL,ioN,this]
theorem ZH:∀{ws:List OW}{sh:Xf}{n:Nat},jn4 ws n=true-> ∀(i j id:Nat),ws[i]? = some (.io j)->sh[i]? = some id->n<=j/\(ioL ws sh)[j-n]? = some (some id)
 | [],_,_,_,i,j,id,h,_=>by simp at h
 |_::_,[],_,_,i,j,id,_,h=>by simp at h
 |x::ws,y::sh,n,ho,i,j,id,h,hid=>by
  cases x with
  |io j0=>
   simp only[jn4,Bool.and_eq_true]at ho;have e0:=Nat.eq_of_beq_eq_true ho.1;subst e0;cases i with
   |zero=>simp at h hid;subst h hid;exact⟨Nat.le_refl _,by simp[ioL]⟩
   |succ i=>
    obtain⟨h1,h2⟩:=ZH ho.2 i j id (by simpa using h) (by simpa using hid);refine⟨by omega,?_⟩;rw[show j-j0=(j-(j0+1))+1 by omega];simpa[ioL]using h2
  |cons=>
   cases i with
   |zero=>simp at h
   |succ i=>exact ZH (ws:=ws) (sh:=sh) (n:=n) ho i j id (by simpa using h) (by simpa using hid)
  |box l=>
   cases i with
   |zero=>simp at h
   |succ i=>exact ZH (ws:=ws) (sh:=sh) (n:=n) ho i j id (by simpa using h) (by simpa using hid)
theorem jms{a:A}{x:Unit}(h:pNo a=some x):zC a=false:=by
 unfold pNo at h;split at h
 .rfl
 .cases h
theorem jph{b:Bool}{k k':Nat}{xs:Xc}(h1:k'=kdK k)(h2:Nat.blt (kdK k) 64=true):Jr b k xs = .gone\/Jr b k xs = .row k' xs:=by
 rcases yU b k xs with h|⟨q,h,rfl⟩
 .exact Or.inl h
 .right;rw[h,h1];unfold qd;rw[h2];rfl
theorem YL{st:jg}{a:A} :∀{ks:Xf}{l:List (Option Nat)}{rs:List Xc},Ky st a ks l=some rs->rs.length=ks.length/\l.length=ks.length/\
  ∀(j:Nat)(x:Option Nat),l[j]? = some x-> ∃k xs,ks[j]? = some k/\rs[j]? = some xs/\rowIs st (zC a) k xs x
 | [],[],rs,h=>by simp only[Ky]at h;cases h;exact⟨rfl,rfl,λj x h=>by simp at h⟩
 | [],_::_,_,h=>by simp only[Ky,reduceCtorEq]at h
 |_::_,[],_,h=>by simp only[Ky,reduceCtorEq]at h
 |k::ks,none::l,rs,h=>by
  simp only[Ky]at h;obtain⟨r,hr,h⟩:=Option.bind_eq_some_iff.1 h;split at h
  .rename_i h128;cases h;obtain⟨h1,h2,h3⟩:=YL hr;refine⟨by simp[h1],by simp[h2],λj x hx=>?_⟩;cases j with
   |zero=>simp at hx;subst hx;exact⟨k,[],rfl,rfl,rfl,h128⟩
   |succ j=>simpa using h3 j x (by simpa using hx)
  .cases h
 |k::ks,some id::l,rs,h=>by
  simp only[Ky]at h;obtain⟨r,hr,h⟩:=Option.bind_eq_some_iff.1 h;obtain⟨h1,h2,h3⟩:=YL hr;have fin:∀xs,rs=xs::r->rowIs st (zC a) k xs (some id)->rs.length=(k::ks).length/\(some id::l).length=(k::ks).length/\
    ∀(j:Nat)(x:Option Nat),(some id::l)[j]? = some x-> ∃k_1 xs,(k::ks)[j]? = some k_1/\rs[j]? = some xs/\rowIs st (zC a) k_1 xs x:=by
   rintro xs rfl hi;refine⟨by simp[h1],by simp[h2],λj x hx=>?_⟩;cases j with
   |zero=>simp at hx;subst hx;exact⟨k,xs,rfl,rfl,hi⟩
   |succ j=>simpa using h3 j x (by simpa using hx)
  split at h
  .rename_i k' xs hst;split at h
   .rename_i hb;cases h;rw[Bool.and_eq_true]at hb;refine fin xs rfl ?_;rcases jph (b:=zC a) (xs:=xs) (Nat.eq_of_beq_eq_true hb.1) hb.2 with g|g
    .exact Or.inl g
    .exact Or.inr ⟨by rw[g,hst],by rw[g];rfl⟩
   .cases h
  .rename_i k' xs hst;split at h
   .rename_i hb;cases h;simp only[Bool.and_eq_true,Bool.not_eq_true']at hb;have hb1:=Nat.eq_of_beq_eq_true hb.1;refine fin xs rfl ?_;rcases yU (zC a) k xs with g|⟨q,g,rfl⟩
    .exact Or.inl g
    .have:Nat.blt (kdK k) 64=false:=by
      cases hh:Nat.blt (kdK k) 64 with
      |false=>rfl
      |true=>rw[Nat.blt_eq]at hh;omega
     have e:Jr (zC a) k xs = .tre true k' xs:=by
      rw[g];unfold qd;rw[this,hb.2];simp only[cond_false];rw[<-hb1,show k'+64-64=k' by omega]
     exact Or.inr ⟨by rw[e,hst],by rw[e];rfl⟩
   .cases h
  .rename_i xs hst;split at h
   .rename_i hb;cases h;have hb1:=Nat.eq_of_beq_eq_true hb;subst hb1;exact fin xs rfl (Or.inr ⟨hst,rfl⟩)
   .cases h
  .split at h
   .rename_i hst hb;obtain⟨u,hu,h⟩:=Option.bind_eq_some_iff.1 h;cases h;refine fin [] rfl (Or.inl ?_);rw[jms hu];have:Nat.blt k 256=false:=by
     cases hh:Nat.blt k 256 with
     |false=>rfl
     |true=>rw[Nat.blt_eq]at hh;rw[Nat.ble_eq]at hb;omega
    unfold Jr;rw[this];rfl
   .cases h
  .cases h
theorem jln:∀{ks:Xf}{rs:List Xc}{j k:Nat}{r:Xc},ks[j]? = some k->rs[j]? = some r->(slL ks rs)[j]? = some (.sl k r)
 | [],_,_,_,_,h,_=>by simp at h
 |_::_,[],_,_,_,_,h=>by simp at h
 |k0::ks,r0::rs,j,k,r,h1,h2=>by
  cases j with
  |zero=>simp at h1 h2;subst h1 h2;rfl
  |succ j=>simpa[slL]using jln (ks:=ks) (rs:=rs) (by simpa using h1) (by simpa using h2)
theorem Qj{x:Nat} :∀{l:List (Option Nat)},jho x l=true↔some x∈l
 | []=>by simp[jho]
 |none::l=>by simp only[jho,List.mem_cons,reduceCtorEq,false_or];exact Qj
 |some y::l=>by
  simp only[jho,Bool.or_eq_true,List.mem_cons,Option.some.injEq];rw[Qj];exact or_congr ⟨Nat.eq_of_beq_eq_true,λe=>by simp[e]⟩ Iff.rfl
theorem YG:∀{l:List (Option Nat)},jcG l=true-> ∀(i j x:Nat),l[i]? = some (some x)->l[j]? = some (some x)->i=j
 | [],_,i,j,x,h,_=>by simp at h
 |none::l,hn,i,j,x,h1,h2=>by
  cases i with
  |zero=>simp at h1
  |succ i=>
   cases j with
   |zero=>simp at h2
   |succ j=>congr 1;exact YG (l:=l) hn i j x (by simpa using h1) (by simpa using h2)
 |some y::l,hn,i,j,x,h1,h2=>by
  simp only[jcG,Bool.and_eq_true,Bool.not_eq_true']at hn;have hy:∀q,l[q]?≠some (some y):=λq hq=>by
   have:=Qj.mpr (List.mem_of_getElem? hq);rw[hn.1]at this;cases this
  cases i with
  |zero=>
   simp at h1;subst h1;cases j with
   |zero=>rfl
   |succ j=>exact absurd (by simpa using h2) (hy j)
  |succ i=>
   cases j with
   |zero=>simp at h2;subst h2;exact absurd (by simpa using h1) (hy i)
   |succ j=>congr 1;exact YG hn.2 i j x (by simpa using h1) (by simpa using h2)
theorem jnQ:∀{a b:Xf},eqP a b=true->a=b
 | [],[],_=>rfl
 | [],_::_,h=>by cases h
 |_::_,[],h=>by cases h
 |x::a,y::b,h=>by
  simp only[eqP,Bool.and_eq_true]at h;rw[Nat.eq_of_beq_eq_true h.1,jnQ h.2]
theorem jly:∀{k n q:Nat},q<k->(KD n k)[q]? = some (n+q)
 |0,_,_,h=>by omega
 |k+1,n,0,_=>rfl
 |k+1,n,q+1,h=>by
  have:=jly (k:=k) (n:=n+1) (q:=q) (by omega);simp only[KD,List.getElem?_cons_succ,this];congr 1;omega
theorem jhX{o:Abs.Obj}{k:Nat}{xs:Xc}(e:o=qd k xs):∃k xs,o = .row k xs\/o = .fro k xs\/(∃f,o = .tre f k xs)\/o = .map xs:=by
 rcases jaZ k xs with h|h|h
 .exact ⟨_,_,Or.inl (e.trans h)⟩
 .exact ⟨_,_,Or.inr (Or.inr (Or.inl ⟨_,e.trans h⟩))⟩
 .exact ⟨0,_,Or.inr (Or.inr (Or.inr (e.trans h)))⟩
theorem jqj{X:Ctx}{w:World}{O0:Nat->Prop}{m:jG}{st:jg}{sg:SigA}{sh:Xf}{vs:Xj}{out:Out}(hs:Sto X w O0 m st)(hshm:∀id∈sh,∃h,m id=some h)(h:jsS st sg sh vs=some out){u:Value}(hu:relV w (Ow O0 m st) m (Jd vs) u) :
  ∃as rs m',HolesOk sg out as rs/\(∀i id,sh[i]? = some id->m' i=m id)/\Sto X w O0 m' (jL (sg.objs as rs))/\(∀b,Mz m' (jL (sg.objs as rs)) b->Mz m st b)/\relV w (Ow O0 m' (jL (sg.objs as rs))) m' (sg.r.toV as) u:=by
 unfold jsS at h;rw[Option.bind_eq_some_iff]at h;obtain⟨c1,hB,h⟩:=h;rw[Option.bind_eq_some_iff]at h;obtain⟨F,hr,h⟩:=h;split at h;rotate_left
 .cases h
 rename_i hc;simp only[Bool.and_eq_true]at hc;obtain⟨⟨⟨⟨⟨hc1,hc2⟩,hc3⟩,hc4⟩,hc5⟩,hc6⟩:=hc;have hc1:=Nat.eq_of_beq_eq_true hc1;have hc2:=Nat.eq_of_beq_eq_true hc2;have hc4:=jnQ hc4;obtain⟨rs,hrs,h⟩:=Option.bind_eq_some_iff.1 h;cases h;generalize hlive:Qr sg.ws sh++F.ns=live at hc5 hc6;generalize hm':jdJ sh F.ns m=m';generalize hst':jL (sg.objs F.as rs)=st';have hwl:=jbu hB;obtain⟨la,hget⟩:=jen hwl;obtain⟨hrl,hll,hrow⟩:=YL hrs;have hiol:=jcg hwl;have hN:∀q,q<sg.nw.length->sg.nw[q]? = some (ioN sg.ws+q):=λq hq=>by rw[hc4];exact jly hq
 have lv1:∀i ow id,sg.ws[i]? = some ow->sh[i]? = some id->live[i]? = some (owI id ow):=λi ow id h1 h2=>by
  rw[<-hlive,List.getElem?_append_left (by rw[la];exact(List.getElem?_eq_some_iff.mp h1).1)]
  exact hget i ow id h1 h2
 have lv2:∀q x,F.ns[q]? = some x->live[sh.length+q]? = some x:=λq x h=>by
  rw[<-hlive,List.getElem?_append_right (by rw[la,hwl];omega),la,hwl,show sh.length+q-sh.length=q by omega]
  exact h
 generalize hbb:zC (jaI sg.ks F.as)=bb at *;have hobe:sg.objs F.as rs=sg.objsB bb F.as rs:=by rw[<-hbb];rfl
 have ob1:∀i ow,sg.ws[i]? = some ow->st' i=ow.toO bb sg.ks F.as rs:=λi ow h=>by
  rw[<-hst'];refine kM ?_;rw[hobe,SigA.objsB,List.getElem?_append_left (by simpa using(List.getElem?_eq_some_iff.mp h).1),List.getElem?_map,h];rfl
 have ob2:∀q,q<sg.nw.length->st' (sh.length+q)=jbj bb sg.ks rs (ioN sg.ws+q):=λq hq=>by
  rw[<-hst'];refine kM ?_;rw[hobe,SigA.objsB,List.getElem?_append_right (by simp;omega),List.length_map,hwl,show sh.length+q-sh.length=q by omega,List.getElem?_map,hN q hq];rfl
 have ob3:∀i,sh.length+sg.nw.length<=i->st' i = .dead:=λi hi=>by
  rw[<-hst'];exact qQ (by simp[SigA.objs,SigA.objsB];omega)
 have m1:∀i id,sh[i]? = some id->m' i=m id:=λi id h=>by rw[<-hm'];exact jf2 h
 have m2:∀q x,F.ns[q]? = some x->m' (sh.length+q)=nsM m x:=λq x h=>by rw[<-hm'];exact jf1 h
 have m3:∀i,sh.length+sg.nw.length<=i->m' i=none:=λi hi=>by
  rw[<-hm'];unfold jdJ;rw[if_neg (by omega),List.getElem?_eq_none (by omega)]
 have key:(∀b,Ow O0 m' st' b->Ow O0 m st b)->(∀b,Mz m' st' b-> ∃(i id:Nat)(hd:Hd),(live[i]?).join=some id/\(st id).alive=true/\m id=some hd/\b∈hd.blocks)->
   ∀(a:A)(r:Xm)(v:V)(u:Value),toA st 60 v=some (a,r)->(∀x∈r,x∈F.rds)->relV w (Ow O0 m st) m v u->rel w (Ow O0 m' st') a u:=by
  intro hsub hmi a r v u hto hsubr hrel;refine jU (MonoW.sub λb hb=>⟨hsub b hb,?_⟩) _ _ (QG hs 60 v hto hrel);rintro⟨id,o,hd,hmem,hal,hm,hi⟩;have hst:st id=o:=jbC 60 v hto _ hmem;rcases hb with hb|hb
  .exact (hs.blk id hd b (by rw[hst];exact hal) hm hi).2 hb
  .obtain ⟨i,id',hd',h1,h2,h3,hi'⟩:=hmi b hb;have:=hs.inj id id' hd hd' b (by rw[hst];exact hal) h2 hm h3 hi hi';subst this;have hin:some id∈live:=by
    cases hl:live[i]? with
    |none=>rw[hl]at h1;cases h1
    |some x=>rw[hl]at h1;simp only[Option.join_some]at h1;subst h1;exact List.mem_of_getElem? hl
   have hk:=List.all_eq_true.mp hc6 _ (hsubr _ hmem);simp only[hal,Bool.not_true,Bool.false_or,Bool.not_eq_true']at hk;rw[Qj.mpr hin]at hk;cases hk
 have hext:=(joA (w:=w) (m:=m) (O:=Ow O0 m st) (O':=Ow O0 m' st') (F:=F) sg.r (Jd vs) hr).1;have hbox:=(jjx (w:=w) (m:=m) (O:=Ow O0 m st) (O':=Ow O0 m' st') (F:=F) sg.ws sh hB).2.2;rw[hm']at hbox;obtain⟨hsto,hmz⟩:=Sto.pick (X:=X) (w:=w) (O0':=O0) (m':=m') (st':=st') hs hs.jn (λb hb=>Or.inl hb) (λi=>(live[i]?).join) (λi=>by
   by_cases hi:i<sh.length
   .have hg:sh[i]? = some sh[i]:=List.getElem?_eq_getElem hi;have hi':i<sg.ws.length:=by omega
    have hw:sg.ws[i]? = some sg.ws[i]:=List.getElem?_eq_getElem hi';have hl:=lv1 i _ _ hw hg;have ho:=ob1 i _ hw;have hm:=m1 i _ hg;generalize sg.ws[i]=ow at hw hl ho;cases ow with
    |cons=>exact Or.inr (Or.inl ho)
    |io j=>
     obtain⟨_,g1⟩:=ZH hc3 i j _ hw hg;have g1:(ioL sg.ws sh++F.ns)[j]? = some (some sh[i]):=by
      rw[List.getElem?_append_left (by have:=(List.getElem?_eq_some_iff.mp g1).1;simpa using this)]
      simpa using g1
     obtain⟨k,xs,g2,g3,g4⟩:=hrow j _ g1;have e:st' i=Jr bb k xs:=by rw[ho];simp[OW.toO,jbj,List.getD_eq_getElem?_getD,g2,g3]
     rcases g4 with g4|⟨g4,_⟩
     .exact Or.inr (Or.inl (e.trans g4))
     .rcases yU bb k xs with g5|⟨k',g5,_⟩
      .exact Or.inr (Or.inl (e.trans g5))
      .exact Or.inr (Or.inr (Or.inr ⟨sh[i],by rw[hl];rfl,hm,Or.inl ⟨jhX (e.trans g5),by rw[e];exact g4⟩⟩))
    |box l=>
     refine Or.inr (Or.inr (Or.inr ⟨sh[i],by rw[hl];rfl,hm,Or.inr ?_⟩))
     have hst:∃cs,st sh[i] = .box cs:=ZK hB hw hg;obtain⟨cs,hcs⟩:=hst;refine⟨cs,_,hcs,ho,λhsub hmi us hus=>?_⟩;obtain⟨cs',h1,h2⟩:=hbox (key hsub hmi) hext i l _ hw hg;rw[hcs]at h1;cases h1;exact h2 us hus
   .by_cases hi2:i<sh.length+sg.nw.length
    .obtain ⟨q,rfl⟩:∃q,i=sh.length+q:=⟨i-sh.length,by omega⟩;have hq:q<sg.nw.length:=by omega
     have hns:F.ns[q]? = some F.ns[q]:=List.getElem?_eq_getElem (by omega);have hl:=lv2 q _ hns;have ho:=ob2 q hq;have hm:=m2 q _ hns;generalize F.ns[q]=x at hns hl hm;have g1:(ioL sg.ws sh++F.ns)[ioN sg.ws+q]? = some x:=by
      rw[List.getElem?_append_right (by omega),hiol,show ioN sg.ws+q-ioN sg.ws=q by omega];exact hns
     obtain⟨k,xs,g2,g3,g4⟩:=hrow _ _ g1;have e:st' (sh.length+q)=Jr bb k xs:=by rw[ho];simp[jbj,List.getD_eq_getElem?_getD,g2,g3]
     cases x with
     |none=>
      obtain⟨g4,g5⟩:xs=[]/\Nat.blt (kdK k) 128=true:=g4;subst g4;rcases yU bb k []with g6|⟨k',g6,g7⟩
      .exact Or.inr (Or.inl (e.trans g6))
      .refine Or.inr (Or.inr (Or.inl ⟨?_,hm⟩));rw[e,g6,g7];have g8:Nat.beq (kdK k) 128=false:=by
        cases h:Nat.beq (kdK k) 128 with
        |false=>rfl
        |true=>rw[Nat.blt_eq,Nat.eq_of_beq_eq_true h]at g5;omega
       unfold qd;rw[g8];cases Nat.blt (kdK k) 64
       .exact ⟨_,Or.inr rfl⟩
       .exact ⟨_,Or.inl rfl⟩
     |some id=>
      rcases g4 with g4|⟨g4,_⟩
      .exact Or.inr (Or.inl (e.trans g4))
      .rcases yU bb k xs with g5|⟨k',g5,_⟩
       .exact Or.inr (Or.inl (e.trans g5))
       .exact Or.inr (Or.inr (Or.inr ⟨id,by rw[hl];rfl,hm,Or.inl ⟨jhX (e.trans g5),by rw[e];exact g4⟩⟩))
    .exact Or.inl ⟨ob3 i (by omega),m3 i (by omega)⟩)
  (λi i' id h1 h2 _ _=>by
   have g:∀i:Nat,(live[i]?).join=some id->live[i]? = some (some id):=λi h=>by
    cases hl:live[i]? with
    |none=>rw[hl]at h;cases h
    |some x=>rw[hl]at h;simp only[Option.join_some]at h;rw[h]
   exact YG hc5 i i' id (g i h1) (g i' h2))
  (λi id hd b h1 h2 h3 hi0 hb=>by
   have hl:live[i]? = some (some id):=by
    cases hl:live[i]? with
    |none=>rw[hl]at h1;cases h1
    |some x=>rw[hl]at h1;simp only[Option.join_some]at h1;rw[h1]
   have hal:(st id).alive=true:=by
    by_cases hi:i<sh.length
    .have hg:sh[i]? = some sh[i]:=List.getElem?_eq_getElem hi;have hw:sg.ws[i]? = some sg.ws[i]:=List.getElem?_eq_getElem (by omega);have hl':=lv1 i _ _ hw hg;rw[hl]at hl';generalize sg.ws[i]=ow at hw hl';cases ow with
     |cons=>cases hl'
     |io j=>
      simp only[owI,Option.some.injEq]at hl';subst hl';obtain⟨_,g1⟩:=ZH hc3 i j _ hw hg;have g1:(ioL sg.ws sh++F.ns)[j]? = some (some sh[i]):=by
       rw[List.getElem?_append_left (by have:=(List.getElem?_eq_some_iff.mp g1).1;simpa using this)]
       simpa using g1
      obtain⟨k,xs,g2,g3,g4⟩:=hrow j _ g1;have e:st' i=Jr bb k xs:=by rw[ob1 i _ hw];simp[OW.toO,jbj,List.getD_eq_getElem?_getD,g2,g3]
      exact(JD g4 e h2).2
     |box l=>
      simp only[owI,Option.some.injEq]at hl';subst hl';obtain⟨cs,hcs⟩:=ZK hB hw hg;rw[hcs];rfl
    .have hlt:=(List.getElem?_eq_some_iff.mp hl).1;rw[<-hlive,List.length_append,la,hwl]at hlt;obtain⟨q,rfl⟩:∃q,i=sh.length+q:=⟨i-sh.length,by omega⟩;have hns:F.ns[q]? = some F.ns[q]:=List.getElem?_eq_getElem (by omega);have hl':=lv2 q _ hns;rw[hl]at hl';have hl':=(Option.some.inj hl').symm;rw[hl']at hns;have g1:(ioL sg.ws sh++F.ns)[ioN sg.ws+q]? = some (some id):=by
      rw[List.getElem?_append_right (by omega),hiol,show ioN sg.ws+q-ioN sg.ws=q by omega];exact hns
     obtain⟨k,xs,g2,g3,g4⟩:=hrow _ _ g1;have e:st' (sh.length+q)=Jr bb k xs:=by rw[ob2 q (by omega)];simp[jbj,List.getD_eq_getElem?_getD,g2,g3]
     exact(JD g4 e h2).2
   exact(hs.blk id hd b hal h3 hi0).2 hb)
 refine⟨F.as,rs,m',⟨hc1,λi a h=>?_,hrl,λj r k h1 h2=>?_⟩,m1,by rw[hst'];exact hsto,by rw[hst'];exact hmz,?_⟩
 .simp only[hD];rw[List.getElem?_append_left (List.getElem?_eq_some_iff.mp h).1];exact h
 .simp only[hR];rw[List.getElem?_append_right (by omega),show sg.nd+j-F.as.length=j by omega,jln h2 h1];simp
 .rw [hst'];have hsub:∀b,Ow O0 m' st' b->Ow O0 m st b:=λb hb=>hb.imp id (hmz b);have hmi:∀b,Mz m' st' b-> ∃(i id:Nat)(hd:Hd),(live[i]?).join=some id/\(st id).alive=true/\m id=some hd/\b∈hd.blocks:=by
   rintro b ⟨i,hd,ha,hmm,hbi⟩;by_cases hi:i<sh.length
   .have hg:sh[i]? = some sh[i]:=List.getElem?_eq_getElem hi;have hw:sg.ws[i]? = some sg.ws[i]:=List.getElem?_eq_getElem (by omega);have hl:=lv1 i _ _ hw hg;have ho:=ob1 i _ hw;have hm:=m1 i _ hg;rw[hm]at hmm;generalize sg.ws[i]=ow at hw hl ho;cases ow with
    |cons=>rw[ho]at ha;cases ha
    |io j=>
     obtain⟨_,g1⟩:=ZH hc3 i j _ hw hg;have g1:(ioL sg.ws sh++F.ns)[j]? = some (some sh[i]):=by
      rw[List.getElem?_append_left (by have:=(List.getElem?_eq_some_iff.mp g1).1;simpa using this)]
      simpa using g1
     obtain⟨k,xs,g2,g3,g4⟩:=hrow j _ g1;have e:st' i=Jr bb k xs:=by rw[ho];simp[OW.toO,jbj,List.getD_eq_getElem?_getD,g2,g3]
     exact⟨i,sh[i],hd,by rw[hl];rfl,(JD g4 e ha).2,hmm,hbi⟩
    |box l=>
     obtain⟨cs,hcs⟩:=ZK hB hw hg;exact⟨i,sh[i],hd,by rw[hl];rfl,by rw[hcs];rfl,hmm,hbi⟩
   .by_cases hi2:i<sh.length+sg.nw.length
    .obtain ⟨q,rfl⟩:∃q,i=sh.length+q:=⟨i-sh.length,by omega⟩;have hns:F.ns[q]? = some F.ns[q]:=List.getElem?_eq_getElem (by omega);have hl:=lv2 q _ hns;have hm:=m2 q _ hns;rw[hm]at hmm;generalize F.ns[q]=x at hns hl hmm;cases x with
     |none=>cases hmm;simp[Hd.blocks]at hbi
     |some id=>
      have g1:(ioL sg.ws sh++F.ns)[ioN sg.ws+q]? = some (some id):=by
       rw[List.getElem?_append_right (by omega),hiol,show ioN sg.ws+q-ioN sg.ws=q by omega];exact hns
      obtain⟨k,xs,g2,g3,g4⟩:=hrow _ _ g1;have e:st' (sh.length+q)=Jr bb k xs:=by rw[ob2 q (by omega)];simp[jbj,List.getD_eq_getElem?_getD,g2,g3]
      exact⟨sh.length+q,id,hd,by rw[hl];rfl,(JD g4 e ha).2,hmm,hbi⟩
    .rw [m3 i (by omega)]at hmm;cases hmm
  have:=(joA (w:=w) (m:=m) (O:=Ow O0 m st) (O':=Ow O0 m' st') (F:=F) sg.r (Jd vs) hr).2 (key hsub hmi) (ExtM.refl _) u hu;rw[hm']at this;exact this
def Fin(C:Cfg)(X:Ctx)(f:FuncId)(w0:World)(Z0 O0:Nat->Prop)(shv:Option (List Hd))(fn:Func)(r:Out):Exit->Act->World->Prop:=
 λe a w=>∃ex s m,e=Ex.to ex/\s.n=fn.ntmps/\qB C f fn ex s=some r/\Sim X w0 Z0 O0 shv m s a w
theorem jnO{f:FuncId}{fn:Func}{ex:Ex}{out:Out}(h:qB C f fn ex s=some out):jnP C f fn s=some out/\(ex = .normal\/ex = .ret):=by
 cases ex with
 |normal=>exact⟨h,Or.inl rfl⟩
 |ret=>exact⟨h,Or.inr rfl⟩
 |exit id=>cases h
theorem jjS(hD:zl C.P C.D)(hs:Sim X w0 Z0 O0 shv m s a w){fn:Func}{vs:Xj}(hvs:jgp C s fn.results.toList fn.resultTypes.toList=some vs) :
  ∃v,(results fn a.tmps).run C.P w = .ok v w/\relV w (Ow O0 m s.st) m (Jd vs) v:=by
 obtain⟨us,h1,h2⟩:=jby hD hs _ _ hvs;have hm:(fn.results.mapM (ja4 a.tmps)).run C.P w = .ok us.toArray w:=by
  rw[Array.mapM_eq_mapM_toList];simp only[Sem.run_map,h1,Result.andThen_ok]
 have hl:=jZ h2;refine⟨if h:us.toArray.size=1 then us.toArray[0]else .tuple us.toArray,?_,?_⟩
 .have e:results fn a.tmps=(do let vs <-fn.results.mapM (ja4 a.tmps);pure (if h:vs.size=1 then vs[0]else .tuple vs)):=by
   unfold results;congr 1
  rw[e];simp only[Sem.run_bind,hm];simp only[Result.andThen_ok,Sem.run_pure]
 .match vs,us,h2,hl with
  | [r],[v],h2,_=>
   simp only[jb,List.cons.injEq]at h2;obtain⟨u,t,⟨rfl,rfl⟩,h3,_⟩:=h2;simpa[Jd]using h3
  | [],us,h2,hl=>
   have hne:¬us.toArray.size=1:=by simp at hl⊢;simp[hl]
   rw[dif_neg hne];simp only[Jd,relV];exact⟨us,rfl,h2⟩
  |r1::r2::rs,us,h2,hl=>
   have hne:¬us.toArray.size=1:=by simp at hl⊢;omega
   rw[dif_neg hne];simp only[Jd,relV];exact⟨us,rfl,h2⟩
theorem ja3{O:Nat->Prop}{args:Xj}{vs:Xh}{n:Nat}(hrel:jb w O m args vs)(hle:args.length<=n){i:Nat}{v:Value}(hv:(vs.toArray++Array.replicate (n-vs.toArray.size) undef)[i]? = some v):relV w O m (args.getD i .top) v:=by
 cases hc:args[i]? with
 |none=>rw[List.getD_eq_getElem?_getD,hc];simp[relV]
 |some x=>
  obtain⟨u,k1,k2⟩:=yT hrel hc;have hlt:i<vs.length:=(List.getElem?_eq_some_iff.mp k1).1;have:v=u:=by
   rw[Array.getElem?_append_left (by simpa using hlt)]at hv;rw[List.getElem?_toArray,k1]at hv;cases hv;rfl
  subst this;rw[List.getD_eq_getElem?_getD,hc];exact k2
theorem jtm{X:Ctx}{w:World}{O0:Nat->Prop}{m:jG}{st:jg}(hs:Sto X w O0 m st){id nid k n:Nat}{xs:Xc}(hid:st id = .row k xs)(hf:st nid = .dead){hd hd':Hd}(hm:m id=some hd)
  (hc:(hd' = .none/\xs.take n=[])\/(∃b c l,hd = .blk b c l/\hd' = .blk b c (xs.take n).length)) :
  Chg w m st w (upd m nid (some hd')) (upd (upd st id .gone) nid (.row k (xs.take n)))/\Sto X w O0 (upd m nid (some hd')) (upd (upd st id .gone) nid (.row k (xs.take n))):=by
 have hne:id≠nid:=λe=>by subst e;rw[hid]at hf;cases hf
 refine joz hs hne (by rw[hid];rfl) hf hm ?_ (λh=>by cases h) λhmono=>⟨hd',rfl,?_⟩
 .intro b e;rcases hc with⟨rfl,_⟩|⟨b',c',l',rfl,rfl⟩
  .simp [Hd.blocks]at e
  .rw [Kd e];exact y5
 .rcases hc with⟨rfl,h0⟩|⟨b,c,l,rfl,rfl⟩
  .exact h0
  .have ho:=hs.obj id;rw[hid]at ho;obtain⟨hd0,q1,q2⟩:=ho;rw[hm]at q1;cases q1;obtain⟨q0,q1,q2,q3,cc,T,q4,q5,q6,q7⟩:=q2;have hle:(xs.take n).length<=xs.length:=by simp;omega
   have htk:(cc.toList.take (xs.length*k)).take ((xs.take n).length*k)=cc.toList.take ((xs.take n).length*k):=by
    rw[List.take_take,Nat.min_eq_left (Nat.mul_le_mul_right k hle)]
   have hfl:(xs.take n).flatten=xs.flatten.take ((xs.take n).length*k):=by
    rw[<-qD xs _ q3];congr 1;simp
   refine⟨rfl,by omega,q2,λy hy=>q3 y (List.mem_of_mem_take hy),cc,T,q4,q5,?_,?_⟩
   .rw [<-htk];exact q6.take _
   .rw [<-htk,hfl];exact yk _ (jF hmono _ _ q7)
theorem jjV(t:Nat)(hs:Sim X w0 Z0 O0 shv m s a w):(QJ t s).sh=s.sh/\(QJ t s).n=s.n/\ ∃m',Sim X w0 Z0 O0 shv m' (QJ t s) a w:=by
 unfold QJ;split;rotate_left
 .exact ⟨rfl,rfl,m,hs⟩
 rename_i id k off n hfr;split;rotate_left
 .exact ⟨rfl,rfl,m,hs⟩
 rename_i k' xs hst;cases hb:Nat.beq k' k && (Nat.beq off 0 && jac (s.st s.nx))with
 |false=>exact⟨rfl,rfl,m,hs⟩
 |true=>
  simp only[Bool.and_eq_true]at hb;obtain⟨hk,h0,hdd⟩:=hb;have hk:=Nat.eq_of_beq_eq_true hk;have h0:=Nat.eq_of_beq_eq_true h0;subst hk;subst h0;have hf:s.st s.nx = .dead:=by
   cases hh:s.st s.nx<;>rw[hh]at hdd<;>first|rfl|cases hdd
  have ho:=hs.sto.obj id;rw[hst]at ho;obtain⟨hd,q1,q2⟩:=ho;obtain⟨hd',hc,hv⟩:∃hd',((hd' = .none/\xs.take n=[])\/(∃b c l,hd = .blk b c l/\hd' = .blk b c (xs.take n).length))/\ ∀v,z6 k' 0 n hd v->hdr hd' v:=by
   cases hd with
   |tre=>exact q2.elim
   |mp=>exact q2.elim
   |none=>
    simp only[rowOk]at q2;subst q2;exact⟨.none,Or.inl ⟨rfl,by simp⟩,λv hv=>hv.2.2⟩
   |blk b c l=>
    obtain⟨rfl,h1,_⟩:=q2;by_cases hc0:c=0
    .have:xs=[]:=List.eq_nil_of_length_eq_zero (by omega);subst this;refine⟨.none,Or.inl ⟨rfl,by simp⟩,λv hv=>?_⟩;simp only[z6]at hv;obtain⟨h2,q,h3,_⟩:=hv;have hn:n=0:=by simp at h2;omega
     subst hn;rw[hc0]at h3;exact⟨_,h3⟩
    .refine ⟨_,Or.inr ⟨b,c,_,rfl,rfl⟩,λv hv=>?_⟩;simp only[z6]at hv;obtain⟨h2,q,h3,h4⟩:=hv;have:=h4 (by omega);subst this;simp only[hdr];rw[h3];have:(xs.take n).length=n:=by simp;omega
     rw[this];simp
  obtain⟨k1,k2⟩:=jtm hs.sto hst hf q1 hc;have hs2:=hs.chg k1 k2;refine⟨rfl,rfl,_,hs2.defers,hs2.tsz,hs2.os,hs2.tape,hs2.output,hs2.size,hs2.keep,hs2.new,hs2.sto,λi v hi=>?_,hs2.sh,hs2.shf⟩;show relV _ _ _ (upd s.fr t (.row s.nx) i) v;by_cases e:i=t
  .subst e;rw[jf];have:=hs.fr i v hi;rw[hfr]at this;simp only[relV]at this⊢;obtain⟨h,e1,e2⟩:=this;rw[q1]at e1;cases e1;exact⟨hd',jf _ _ _,hv v e2⟩
  .rw [upd_ne _ _ e];exact hs2.fr i v hi
theorem Yt(o:Abs.Obj):(jlR o).alive=o.alive:=by cases o<;>rfl
theorem jqo(hs:Sim X w0 Z0 O0 shv m s a w):Sim X w0 Z0 O0 shv (λi=>(m i).map Hd.freeze) (jun s) a w:=by
 have hmle:JP m (λi=>(m i).map Hd.freeze):=λi h e=>⟨h.freeze,by simp[e],h.le_freeze⟩;have hmz:∀b,Mz (λi=>(m i).map Hd.freeze) (λi=>jlR (s.st i)) b->Mz m s.st b:=by
  rintro b ⟨i,hd,h1,h2,h3⟩;rw[Yt]at h1;obtain⟨h,e,rfl⟩:=Option.map_eq_some_iff.1 h2;exact⟨i,h,h1,e,by rwa[Hd.freeze_blocks]at h3⟩
 have hchg:Chg w m s.st w (λi=>(m i).map Hd.freeze) (λi=>jlR (s.st i)):=
  ⟨rfl,rfl,Quiet.refl _,Nat.le_refl _,λ_ _ _=>rfl,hmle,λb hb=>Or.inl (hmz b hb)⟩
 refine hs.chg hchg (hs.sto.chg hchg ?_ ?_ ?_ ?_)
 .intro i h;have:s.st i = .dead:=by
   cases hc:s.st i<;>rw[hc]at h<;>first|rfl|cases h
  rw[hs.sto.fresh i this];rfl
 .intro i hd b h1 h2 h3;rw[Yt]at h1;obtain⟨h,e,rfl⟩:=Option.map_eq_some_iff.1 h2;rw[Hd.freeze_blocks]at h3;exact Or.inr (hs.sto.blk i h b h1 e h3)
 .intro i i' hd hd' b h1 h2 h3 h4 h5 h6;rw[Yt]at h1 h2;obtain⟨h,e,rfl⟩:=Option.map_eq_some_iff.1 h3;obtain⟨h',e',rfl⟩:=Option.map_eq_some_iff.1 h4;rw[Hd.freeze_blocks]at h5 h6;exact hs.sto.inj i i' h h' b h1 h2 e e' h5 h6
 .intro i;have ho:=hs.sto.obj i;cases hc:s.st i with
  |gone=>exact Or.inr (by simp only[jlR];trivial)
  |dead=>exact Or.inr (by simp only[jlR];trivial)
  |tre f k xs=>
   rw[hc]at ho;obtain⟨hd,e1,e2,e3⟩:=ho;refine Or.inr ⟨hd.freeze,by rw[e1];rfl,KB e2,by rw[Hd.freeze_blocks];exact e3⟩
  |box cs=>
   refine Or.inl ⟨rfl,?_,λ_ _ _ _ _=>rfl⟩;rw[hc]at ho;obtain⟨hd,e1,e2⟩:=ho;rw[e1,Option.map_some,Hd.freeze_eq (jaE e2)]
  |row k xs=>
   refine Or.inl ⟨rfl,?_,λ_ _ _ _ _=>rfl⟩;rw[hc]at ho;obtain⟨hd,e1,e2⟩:=ho;rw[e1,Option.map_some,Hd.freeze_eq (Zo e2)]
  |map xs=>
   refine Or.inl ⟨rfl,?_,λ_ _ _ _ _=>rfl⟩;rw[hc]at ho;obtain⟨hd,e1,e2⟩:=ho;rw[e1,Option.map_some,Hd.freeze_eq (jaX e2)]
  |fro k xs=>
   refine Or.inl ⟨rfl,?_,λ_ _ _ _ _=>rfl⟩;rw[hc]at ho;obtain⟨hd,e1,e2,_⟩:=ho;rw[e1,Option.map_some,Hd.freeze_eq e2]
theorem jdd:∀(ts:Xf){s:St}{m:jG},Sim X w0 Z0 O0 shv m s a w->(QK ts s).sh=s.sh/\(QK ts s).n=s.n/\ ∃m',Sim X w0 Z0 O0 shv m' (QK ts s) a w
 | [],s,m,hs=>⟨rfl,rfl,_,jqo hs⟩
 |t::ts,s,m,hs=>by
  obtain⟨h1,h2,m1,h3⟩:=jjV t hs;obtain⟨g1,g2,g3⟩:=jdd ts h3;exact⟨g1.trans h1,g2.trans h2,g3⟩
theorem QO{κ:St->Xe}{r:Out} :∀(ts:Xf){s:St}{m:jG},Sim X w0 Z0 O0 shv m s a w->jj3 κ ts s=some r-> ∃s' m',κ s'=some r/\s'.sh=s.sh/\s'.n=s.n/\Sim X w0 Z0 O0 shv m' s' a w
 | [],s,m,hs,h=>⟨s,m,h,rfl,rfl,hs⟩
 |t::ts,s,m,hs,h=>by
  unfold jj3 at h;split at h;rotate_left
  .exact QO ts hs h
  rename_i id ii k j hfr;split at h;rotate_left
  .exact QO ts hs h
  rename_i k' xs hst;cases hb:Nat.beq k' k && Nat.blt j k with
  |false=>rw[hb]at h;exact QO ts hs h
  |true=>
   rw[hb]at h;simp only[cond_true,Option.bind_eq_some_iff]at h;obtain⟨cs,hcs,h⟩:=h;simp only[Bool.and_eq_true]at hb;have hk:=Nat.eq_of_beq_eq_true hb.1;subst hk;have hj:j<k':=by simpa[Nat.blt_eq]using hb.2
   cases hsl:jaP (jd cs j)with
   |false=>rw[hsl]at h;cases h
   |true=>
    rw[hsl]at h;obtain⟨l,ys,hly⟩:∃l ys,jd cs j = .sl l ys:=by
     cases hc:jd cs j<;>rw[hc]at hsl<;>first|exact⟨_,_,rfl⟩|cases hsl
    have hcj:cs[j]? = some (.sl l ys):=by
     unfold jd at hly;rw[List.getD_eq_getElem?_getD]at hly;cases hx:cs[j]? with
     |none=>rw[hx]at hly;cases hly
     |some y=>rw[hx]at hly;simp only[Option.getD_some]at hly;rw[hly]
    have hg:xs[ii]? = some cs:=hcs;have hto:toA s.st 60 (.sub id ii k' j)=some (.sl l ys,[.obj id (.tre true k' xs)]):=by
     simp[toA,hst,hj,hg,hcj]
    have hs2:=hs.chg (Chg.ghost (o:= .gone) (id:=id) (λh=>by cases h)) (hs.sto.kill id);obtain⟨s',m',g1,g2,g3,g4⟩:=QO ts (s:={ s with fr:=upd s.fr t (.d (jd cs j)),st:=upd s.st id .gone }) (m:=m)
     ⟨hs2.defers,hs2.tsz,hs2.os,hs2.tape,hs2.output,hs2.size,hs2.keep,hs2.new,hs2.sto,λi v hi=>by
      show relV _ _ _ (upd s.fr t (.d (jd cs j)) i) v;by_cases e:i=t
      .subst e;rw[jf];have:=hs.fr i v hi;rw[hfr]at this;have:=QG hs.sto 60 _ hto this;rw[hly];refine jU (MonoW.sub λb hb=>?_) _ _ this;rcases hb with hb|⟨id',hd,q1,q2,q3⟩
       .refine ⟨Or.inl hb,λ⟨i',o,hd,k1,k2,k3,k4⟩=>?_⟩;rw[List.mem_singleton]at k1;cases k1;exact(hs.sto.blk id hd b (by rw[hst];exact k2) k3 k4).2 hb
       .dsimp only at q1;by_cases e:id'=id
        .subst e;rw[jf]at q1;cases q1
        .rw [upd_ne _ _ e]at q1;refine⟨Or.inr ⟨id',hd,q1,q2,q3⟩,λ⟨i',o,hd',k1,k2,k3,k4⟩=>?_⟩;rw[List.mem_singleton]at k1;cases k1;exact e (hs.sto.inj id' id hd hd' b q1 (by rw[hst];exact k2) q2 k3 q3 k4)
      .rw [upd_ne _ _ e];exact hs2.fr i v hi,hs2.sh,hs2.shf⟩ h
    exact⟨s',m',g1,g2,g3,g4⟩
theorem jnh(hC:Sane C)(hext:∀f x args out,C.ext f=some x->x args=some out->yd X C.P f args out)(hextv:∀f x args objs sgs sg qs outs out,C.extv f=some x->C.sig f=some sgs->qT objs.length sgs=some sg->x.ask args objs=some qs->jgG X C.P qs outs->x.ans args objs outs=some out->SOk X C.P f args objs sg out):∀n,
  yD X C (Mn C n)/\StM X C (Mn C n)/\ ∀(rem:Option Xc)(f:FuncId)(fn:Func)(c:Code)(p:Xf)(b:Code)(fr:Xj)(objs:List Abs.Obj)(sh:Option Xf)(r:Out)(w0:World)(Z0 O0:Nat->Prop)(shv:Option (List Hd))(m:jG)(a:Act)(w:World),
   C.P.funcs[f]? = some fn->fn.body=some c->zE c p=some (.loop b)->Mn C n (jkP f p fr objs sh rem)=some r->jgP X w0 Z0 O0 shv m (St.of fn.ntmps fr objs sh) a w b rem->
   jW C.P b (postAt C.P c p (Fin C X f w0 Z0 O0 shv fn r)) a w
 |0=>⟨λf args out _ h=>(by cases h),λf args objs sgs sg out _ _ _ h=>(by cases h),λrem f fn c p b fr objs sh r w0 Z0 O0 shv m a w _ _ _ h _=>(by cases h)⟩
 |n+1=>by
  obtain⟨ih1,ih3,ih2⟩:=jnh hC hext hextv n;have loops:∀(f:FuncId)(fn:Func)(c:Code)(r:Out)(w0:World)(Z0 O0:Nat->Prop)(shv:Option (List Hd)),C.P.funcs[f]? = some fn->fn.body=some c->Js C (Mn C n) f X w0 Z0 O0 shv fn.ntmps r c [] (Fin C X f w0 Z0 O0 shv fn r):=by
   intro f fn c r w0 Z0 O0 shv hf hb rem q b s m a w hq hn hag hs;rw[List.nil_append]at hag;obtain⟨fr,objs,sh,m',h1,h2⟩:=jlE hag hs;rw[hn]at h2;exact ih2 rem f fn c q b fr objs sh r w0 Z0 O0 shv m' a w hf hb hq h1 h2
  have kok:∀(f:FuncId)(fn:Func)(r:Out)(w0:World)(Z0 O0:Nat->Prop)(shv:Option (List Hd)),KOk X w0 Z0 O0 shv fn.ntmps r (qB C f fn) (Fin C X f w0 Z0 O0 shv fn r):=
   λf fn r w0 Z0 O0 shv e s m a w hn hk hs=>⟨e,s,m,rfl,hn,hk,hs⟩
  refine⟨?_,?_,?_⟩
  .intro f args out hsig h;simp only[Mn,step]at h;split at h
   .rename_i x hx;exact hext f x args out hx h
   .rw [hsig]at h;dsimp only at h;split at h
    .rename_i fn hf;split at h
     .rename_i c hb;simp only[brn]at h;split at h
      .rename_i hle;have hle:args.length<=fn.ntmps:=by simpa using hle
       refine⟨yJ hf (hC.names _ _ hf) hb,?_⟩;intro w O vs hJ hN hO hrel;refine calls_of_wp hf hb ?_;have hl:=jy hrel;have hs:Sim X w (λ_=>False) O none (λ_=>none) (Kz fn args) { tmps:=vs.toArray++Array.replicate (fn.ntmps-vs.toArray.size) undef,defers:=[] } w:=by
        refine⟨rfl,by simp[Kz,St.of];omega,rfl,rfl,Quiet.refl _,Nat.le_refl _,λ_ _ _=>rfl,λb ⟨_,_,_,h2,_⟩=>(by cases h2),⟨hJ,hN,λ_ _=>rfl,hO,λid hd b _ h _=>(by cases h),λid id' hd hd' b _ _ h _ _ _=>(by cases h),λid=>by simp[Kz,St.of,JQ]⟩,?_,rfl,λ_ h=>(by cases h)⟩
        intro i v hv;have hOw:Ow O (λ_=>none) (Kz fn args).st=O:=by
         funext b;simp[Ow,Mz]
        rw[hOw];exact ja3 (YJ (m:=λ_=>none) hrel) (by simpa using hle) hv
       refine wp_mono (yK hC.ty ih1 ih3 hC.mixed c [] (Kz fn args) (qB C f fn) (Fin C X f w (λ_=>False) O none fn out) _ _ _ (hC.lex _ _ _ hf hb) rfl h hs (kok _ _ _ _ _ _ _) (loops _ _ _ _ _ _ _ _ hf hb)) ?_;rintro e a' w' ⟨ex,s,m,rfl,hn,hk,hs'⟩;have hbel:Below w.heap.size w w':=⟨hs'.os,hs'.tape,hs'.output,hs'.size,λb hb=>hs'.keep b hb (λh=>h)⟩;obtain⟨hk,hex⟩:=jnO hk;have hsh:s.sh=none:=by
        have:=hs'.sh;cases hh:s.sh with
        |none=>rfl
        |some l=>rw[hh]at this;cases this
       unfold jnP at hk;rw[hsh]at hk;obtain⟨v,h1,h2,_⟩:=jje hC.ty hs' hk;rcases hex with rfl|rfl
       .exact ⟨hs'.defers,v,h1,v,rfl,hbel,h2⟩
       .exact ⟨hs'.defers,v,h1,v,rfl,hbel,h2⟩
      .cases h
     .cases h
    .cases h
  .intro f args objs sgs sg out hsig halt hlo h;simp only[Mn,step]at h;split at h
   .rename_i x hx;obtain⟨qs,hq1,hq2⟩:=Option.bind_eq_some_iff.1 h;obtain⟨outs,hq3,hq4⟩:=Option.bind_eq_some_iff.1 hq2;exact hextv f x args objs sgs sg qs outs out hx hsig halt hq1 (jdW ih1 hq3) hq4
   .rename_i hxn;have hlo:objs.all jcz=true:=hlo.elim (λh=>h) λh=>by rw[hxn]at h;cases h
    clear hxn;split at h;rotate_left
    .cases h
    rename_i fn hf;split at h
    .rename_i c hb;simp only[brn]at h;split at h
     .rename_i hle;have hle:args.length<=fn.ntmps:=by simpa using hle
      refine⟨yJ hf (hC.names _ _ hf) hb,?_⟩;intro w O m vs hsto hsome hrel;refine calls_of_wp hf hb ?_;have hl:=jZ hrel;obtain⟨shm,hshm⟩:∃shm:List Hd,(List.range objs.length).map m=shm.map some:=by
       refine⟨(List.range objs.length).map λi=>(m i).getD .none,?_⟩;rw[List.map_map];refine List.map_congr_left λi hi=>?_;obtain⟨hd,hh,_⟩:=hsome i (by simpa using hi);simp[hh]
      have hshf:∀hd∈shm,hd.fixed=true:=λhd hm=>by
       obtain⟨i,hi⟩:=List.mem_iff_getElem?.mp hm;have h1:=congrArg (λx=>x[i]?) hshm;simp only[List.getElem?_map,hi,Option.map_some]at h1;obtain⟨j,hj,e⟩:=Option.map_eq_some_iff.1 h1;have hlt:i<objs.length:=by have:=(List.getElem?_eq_some_iff.mp hj).1;simpa using this
       rw[List.getElem?_range hlt]at hj;cases hj;obtain⟨hd',hh,hf⟩:=hsome i hlt;rw[hh]at e;cases e;exact hf (by rw[kM (List.getElem?_eq_getElem hlt)];exact List.all_eq_true.1 hlo _ (List.getElem_mem _))
      have hs:Sim X w (Mz m (jL objs)) O (some shm) m (YO fn args objs) { tmps:=vs.toArray++Array.replicate (fn.ntmps-vs.toArray.size) undef,defers:=[] } w:=by
       refine⟨rfl,by simp[YO,St.of];omega,rfl,rfl,Quiet.refl _,Nat.le_refl _,λ_ _ _=>rfl,λb hb=>Or.inl hb,hsto,?_,?_,λs h=>by cases h;exact hshf⟩
       .intro i v hv;exact ja3 hrel hle hv
       .show (some (List.range objs.length)).map _=_;simp only[Option.map_some,hshm]
      refine wp_mono (yK hC.ty ih1 ih3 hC.mixed c [] (YO fn args objs) (qB C f fn) (Fin C X f w (Mz m (jL objs)) O (some shm) fn out) _ _ _ (hC.lex _ _ _ hf hb) rfl h hs (kok _ _ _ _ _ _ _) (loops _ _ _ _ _ _ _ _ hf hb)) ?_;rintro e a' w' ⟨ex,s,m1,rfl,hn,hk,hs'⟩;obtain⟨hk,hex⟩:=jnO hk;obtain⟨hsh0,hn0,m2,hs2⟩:=jdd (QH fn.results.toList) hs';obtain⟨l,hsl,hlm⟩:∃l,s.sh=some l/\l.map m2=(List.range objs.length).map m:=by
       have:=hs2.sh;rw[hsh0]at this;cases hh:s.sh with
       |none=>rw[hh]at this;cases this
       |some l=>
        rw[hh]at this;simp only[Option.map_some,Option.some.injEq]at this;exact⟨l,rfl,this.trans hshm.symm⟩
      have hll:l.length=objs.length:=by simpa using congrArg List.length hlm
      unfold jnP at hk;rw[hsl]at hk;dsimp only at hk;rw[hsig]at hk;dsimp only at hk;rw[hll,halt]at hk;dsimp only at hk;obtain⟨s3,m3,hk,hsh3,_,hs3⟩:=QO _ hs2 hk;have hlm:l.map m3=(List.range objs.length).map m:=by
       have:=hs3.sh;rw[hsh3,hsh0,hsl]at this;simp only[Option.map_some,Option.some.injEq]at this;exact this.trans hshm.symm
      have hlg:∀i id,l[i]? = some id->m3 id=m i:=λi id hi=>by
       have h1:=congrArg (λx=>x[i]?) hlm;simp only[List.getElem?_map,hi,Option.map_some]at h1;have hlt:=(List.getElem?_eq_some_iff.mp hi).1;rw[List.getElem?_range (by omega)]at h1;simpa using h1
      unfold jui at hk;split at hk;rotate_left
      .cases hk
      rename_i rvs hrvs;obtain⟨v,h1,h2⟩:=jjS hC.ty hs3 hrvs;obtain⟨as,rs,m',g1,g2,g3,g4,g5⟩:=jqj hs3.sto (λid hid=>by
       obtain⟨i,hi⟩:=List.mem_iff_getElem?.mp hid;rw[hlg i id hi];obtain⟨h,hh,_⟩:=hsome i (by have:=(List.getElem?_eq_some_iff.mp hi).1;omega);exact⟨h,hh⟩) hk h2
      have key:∃v',Ending.returned v=Ending.returned v'/\ ∃as rs m',HolesOk sg out as rs/\(w'.os=w.os/\w'.tape=w.tape/\Quiet w w'/\w.heap.size<=w'.heap.size)/\
        (∀b,b<w.heap.size-> ¬Mz m (jL objs) b->w'.heap[b]? = w.heap[b]?)/\(∀b,Mz m' (jL (sg.objs as rs)) b->Mz m (jL objs) b\/w.heap.size<=b)/\(∀i,i<objs.length-> ∀h,m i=some h-> ∃h',m' i=some h'/\h.le h')/\
        Sto X w' O m' (jL (sg.objs as rs))/\relV w' (Ow O m' (jL (sg.objs as rs))) m' (sg.r.toV as) v':=by
       refine⟨v,rfl,as,rs,m',g1,⟨hs3.os,hs3.tape,hs3.output,hs3.size⟩,hs3.keep,λb hb=>hs3.new b (g4 b hb),λi hi h hh=>?_,g3,g5⟩;have hi':l[i]? = some l[i]:=List.getElem?_eq_getElem (by omega);exact⟨h,by rw[g2 i _ hi',hlg i _ hi'];exact hh,h.le_refl⟩
      rcases hex with rfl|rfl
      .exact ⟨hs'.defers,v,h1,key⟩
      .exact ⟨hs'.defers,v,h1,key⟩
     .cases h
    .cases h
  .intro rem f fn c p b fr objs sh r w0 Z0 O0 shv m a w hf hb hq h hs;cases rem with
   |none=>
    simp only[jkP,Mn,step]at h;rw[hf]at h;dsimp only at h;rw[hb]at h;dsimp only at h;exact jqi hC.ty ih1 ih3 hC.mixed c p [] _ _ _ m a w b (hC.lex _ _ _ hf hb) rfl h hq hs (kok _ _ _ _ _ _ _) (loops _ _ _ _ _ _ _ _ hf hb)
   |some xs=>
    simp only[jkP,Mn,step]at h;rw[hf]at h;dsimp only at h;rw[hb]at h;dsimp only at h;exact jnS hC.ty ih1 ih3 hC.mixed c p [] _ xs _ _ m a w b (hC.lex _ _ _ hf hb) rfl h hq hs (kok _ _ _ _ _ _ _) (loops _ _ _ _ _ _ _ _ hf hb)
theorem jtM{C:Cfg}{X:Ctx}(hC:Sane C)(hext:∀f x args out,C.ext f=some x->x args=some out->yd X C.P f args out)(hextv:∀f x args objs sgs sg qs outs out,C.extv f=some x->C.sig f=some sgs->qT objs.length sgs=some sg->x.ask args objs=some qs->jgG X C.P qs outs->x.ans args objs outs=some out->SOk X C.P f args objs sg out):yD X C (MM C):=by
 intro f args out hsig h;obtain⟨n,hn⟩:=jfr h;exact(jnh hC hext hextv n).1 f args out hsig hn
theorem jvI{C:Cfg}{X:Ctx}(hC:Sane C)(hext:∀f x args out,C.ext f=some x->x args=some out->yd X C.P f args out)(hextv:∀f x args objs sgs sg qs outs out,C.extv f=some x->C.sig f=some sgs->qT objs.length sgs=some sg->x.ask args objs=some qs->jgG X C.P qs outs->x.ans args objs outs=some out->SOk X C.P f args objs sg out):StM X C (MM C):=by
 intro f args objs sgs sg out hsig halt hlo h;obtain⟨n,hn⟩:=jfr h;exact(jnh hC hext hextv n).2.1 f args objs sgs sg out hsig halt hlo hn
end
end
open Go Go.RowKit Go.Deep
def Rdr(P:Program)(t:Nat){α:Type}(f:α->Xd)(p:α->Prop):Prop:=
 ∀(H:Type)(enc:TypeId×Value->H)(w:World)(base:Nat)(spare:Nat->Bool)(held:Bool)(fuel:Nat)(cs:Xh)(x:DataW H×List MemPlace),
  DataW.trod enc P w base spare held fuel t cs=some x-> ∃a,p a/\jm w (λ_=>False) (f a) cs/\jk cs
section
variable{P:Program}{t e:Nat}
theorem jtz{n:Int}(h:(Lit.int .i64 n).wf=true):I64 n:=by
 have h1:IntKind.i64.min = -9223372036854775808:=rfl;have h2:IntKind.i64.max=9223372036854775807:=rfl;simp[Lit.wf,h1,h2]at h;exact h
theorem Rdr.int(ht:P.underlying t=some (.int .i64)):Rdr P t (λn:Int=>[A.val (.int .i64 n)]) I64:=by
 intro H enc w base spare held fuel cs x h;obtain⟨n,rfl,_,hw⟩:=DataW.trod_int ht h;exact⟨n,jtz hw,by simp[jm,rel],by simp[jk,Value.oneCell']⟩
theorem Rdr.bool(ht:P.underlying t=some .bool):Rdr P t (λb:Bool=>[A.val (.bool b)]) (λ_=>True):=by
 intro H enc w base spare held fuel cs x h;obtain⟨b,rfl,_⟩:=DataW.trod_bool ht h;exact⟨b,trivial,by simp[jm,rel],by simp[jk,Value.oneCell']⟩
theorem Rdr.str(ht:P.underlying t=some .string):Rdr P t (λs:ByteArray=>[A.val (.string s)]) (λs=>s.size<=9223372036854775807):=by
 intro H enc w base spare held fuel cs x h;obtain⟨s,rfl,_,hs⟩:=DataW.trod_string ht h;exact⟨s,by simpa[maxLen]using hs,by simp[jm,rel],by simp[jk,Value.oneCell']⟩
theorem Y8{w:World}{base:Nat}{a:Addr}{n:Nat}{cs:Xh}(h:w.cells? base a n=some cs):cs.length=n/\ ∀j v,cs[j]? = some v->w.cell? (a.add j)=some v:=by
 unfold World.cells? at h;split at h
 .refine ⟨by simpa using mapM_some_length h,λj v hj=>?_⟩;have hl:cs.length=n:=by simpa using mapM_some_length h
  have hjn:j<n:=by rw[<-hl];exact(List.getElem?_eq_some_iff.1 hj).1
  have:=mapM_some_get h j j (by simp[hjn]);rw[this,hj]
 .cases h
theorem jbS{w:World}{α:Type}{f:α->Xd}{p:α->Prop}{k:Nat}(hk:∀a,(f a).length=k)(b off:Nat):∀(n:Nat),
  (∀i,i<n-> ∃a,p a/\ ∃cs,jm w (λ_=>False) (f a) cs/\jk cs/\Reads w b (off+i*k) cs)->
  ∃xs:List α,xs.length=n/\(∀x∈xs,p x)/\jR w (λ_=>False) k b off (xs.map f)
 |0,_=>⟨[],rfl,by simp,by simp[jR]⟩
 |n+1,h=>by
  obtain⟨a,pa,cs,h1,h1o,h2⟩:=h 0 (by omega);obtain⟨xs,h3,h4,h5⟩:=jbS hk b (off+k) n λi hi=>by
   obtain⟨a,pa,cs,g1,g1o,g2⟩:=h (i+1) (by omega);refine⟨a,pa,cs,g1,g1o,?_⟩;rwa[show off+(i+1)*k=off+k+i*k by rw[Nat.add_mul];omega]at g2
  refine⟨a::xs,by simp[h3],?_,?_⟩
  .intro x hx;rcases List.mem_cons.1 hx with rfl|hx
   .exact pa
   .exact h4 x hx
  .simp only[List.map_cons,jR];exact⟨hk a,yp h1 (by simpa using h2) h1o,h5⟩
theorem jpm{w:World}{α:Type}{f:α->Xd}{p:α->Prop}{k:Nat}(hk:∀a,(f a).length=k)(h0:0<k){H:Type}{enc:TypeId×Value->H}{base:Nat}{spare:Nat->Bool}{held:Bool}{fuel:Nat}{cs:Xh}{x:DataW H×List MemPlace}
  (ht:P.underlying t=some (.slice e)) (hc:P.cellsOf e=k)
  (he:∀(n:Nat)(cs:Xh)(x:DataW H×List MemPlace),n<fuel->DataW.trod enc P w base spare held n e cs=some x-> ∃a,p a/\jm w (λ_=>False) (f a) cs/\jk cs)
  (h:DataW.trod enc P w base spare held fuel t cs=some x) :
  ∃xs:List α,((∀x∈xs,p x)/\xs.length<=9223372036854775807)/\jm w (λ_=>False) [A.sl k (xs.map f)] cs/\jk cs:=by
 have hfuel:∃n,fuel=n+1:=by cases fuel with|zero=>simp[DataW.trod]at h|succ n=>exact⟨n,rfl⟩
 rcases DataW.trod_slice ht h with⟨rfl,_⟩|⟨a,len,cap,elems,rest,n,hfn,rfl,rfl,hb,hl,hm,hlen,hel,_,_⟩
 .exact ⟨[],by simp,by simp only[jm,rel,List.map_nil];exact⟨_,[],rfl,⟨none,0,rfl,by simp,by omega,Or.inl trivial⟩,rfl⟩,by simp[jk,Value.oneCell']⟩
 .have hn:n<fuel:=by omega
  have helem:∀i,i<len-> ∃cs',(w.cells? base (a.add (i*k)) k)=some cs'/\ ∃a',p a'/\jm w (λ_=>False) (f a') cs'/\jk cs':=by
   intro i hi;have h1:=hel i hi;rw[hc,List.getElem?_eq_getElem (by omega)]at h1;obtain⟨cs',h2,h3⟩:=Option.bind_eq_some_iff.1 h1;exact⟨cs',h2,he n cs' _ hn h3⟩
  by_cases h00:len=0
  .subst h00;exact⟨[],by simp,by simp only[jm,rel,List.map_nil];exact⟨_,[],rfl,⟨some a,cap,rfl,by simp,by simpa[maxLen]using hm,Or.inl trivial⟩,rfl⟩,by simp[jk,Value.oneCell']⟩
  .have hspot:a.spot=none/\a.block<w.heap.size:=by
    obtain⟨cs',h2,a',_,h3⟩:=helem 0 (by omega);obtain⟨g1,g2⟩:=Y8 h2;obtain⟨v,hv⟩:∃v,cs'[0]? = some v:=⟨_,List.getElem?_eq_getElem (by omega)⟩;have:=g2 0 v hv;have e1:(a.add (0*k)).add 0=a:=by simp[Addr.add]
    rw[e1]at this;unfold World.cell? at this;cases hb':w.heap[a.block]? with
    |none=>simp[hb']at this
    |some o=>
     refine⟨?_,(Array.getElem?_eq_some_iff.1 hb').1⟩;cases o<;>simp[hb']at this
     exact this.1
   obtain⟨block,off,spot⟩:=a;simp only at hspot;obtain⟨rfl,hblk⟩:=hspot;obtain⟨xs,h1,h2,h3⟩:=jbS (w:=w) (f:=f) (p:=p) hk block off len λi hi=>by
    obtain⟨cs',g1,a',g2,g3,g4⟩:=helem i hi;obtain⟨q1,q2⟩:=Y8 g1;refine⟨a',g2,cs',g3,g4,λj v hj=>?_⟩;have:=q2 j v hj;rwa[zW,zW]at this
   have hm':cap<=9223372036854775807:=by simpa[maxLen]using hm
   refine⟨xs,⟨h2,by omega⟩,?_,by simp[jk,Value.oneCell']⟩;simp only[jm,rel,List.length_map];refine⟨_,[],rfl,⟨some ⟨block,off,none⟩,cap,by rw[h1],by omega,hm',Or.inr ⟨block,off,rfl,hblk,λh=>h,h3⟩⟩,rfl⟩
theorem Rdr.slice{α:Type}{f:α->Xd}{p:α->Prop}{k:Nat}(ht:P.underlying t=some (.slice e))(hc:P.cellsOf e=k)(h0:0<k)(hk:∀a,(f a).length=k)(he:Rdr P e f p) :
  Rdr P t (λxs:List α=>[A.sl k (xs.map f)]) (λxs=>(∀x∈xs,p x)/\xs.length<=9223372036854775807):=
 λ_ _ _ _ _ _ _ _ _ h=>jpm hk h0 ht hc (λ_ _ _ _ h'=>he _ _ _ _ _ _ _ _ _ h') h
theorem jtn{w:World}{O:Nat->Prop}{a:A}{v:Value}(h:jm w O [a] v.cells.toList)(hv:v.cells = #[v]):rel w O a v:=by
 rw[hv]at h;simp only[jm,List.cons.injEq]at h;obtain⟨u,r,⟨rfl,_⟩,h2,_⟩:=h;exact h2
end
open Go Go.RowKit Go.Sort
noncomputable section
def jgw:Xd->Option Xb
 | [.val (.string s)]=>some (bs s)
 |_=>none
def KA:Xc->Option Xa
 | []=>some []
 |x::xs=>(match jgw x,KA xs with|some s,some l=>some (s::l)|_,_=>none)
def zV(ss:Xa):Xa:=ss.mergeSort λx y=>decide (x<=y)
def jpn:Xj->List Abs.Obj->Xe
 | [.row 0],[.row 1 xs]=>(match KA xs with
  |some ss=>if ss.length<4611686018427387904 then some (.top,[.sl 1 ((zV ss).map λs=>[sv s])])else none
  |none=>none)
 |_,_=>none
theorem jpp{x:Xd}{s:Xb}(h:jgw x=some s):x=[sv s]:=by
 unfold jgw at h;split at h
 .cases h;rw[ju5]
 .cases h
theorem jeR:∀{xs:Xc}{ss:Xa},KA xs=some ss->xs=ss.map λs=>[sv s]
 | [],ss,h=>by simp only[KA]at h;cases h;rfl
 |x::xs,ss,h=>by
  simp only[KA]at h;split at h
  .rename_i s l h1 h2;cases h;rw[jpp h1,jeR h2];rfl
  .cases h
theorem jj1:∀ss:Xa,KA (ss.map λs=>[sv s])=some ss
 | []=>rfl
 |s::ss=>by simp[KA,jgw,jj1 ss]
def jxA:ExtV:=⟨λ_ _=>some [],λargs objs _=>jpn args objs⟩
def YN:SigA:=⟨0,[1],[.io 0],[],.tup []⟩
theorem ZP{w:World}{O:Nat->Prop} :∀{ss:Xa}{vs:Xh},jm w O (ss.map λs=>[sv s]).flatten vs↔vs=ss.map encStr
 | [],vs=>by simp[jm]
 |s::ss,vs=>by
  simp only[List.map_cons,List.flatten_cons,List.cons_append,List.nil_append,jm,rel];constructor
  .rintro ⟨v,r,rfl,rfl,h⟩;rw[ZP]at h;rw[h]
  .intro h;exact⟨_,_,h,rfl,ZP.2 rfl⟩
theorem jiA{o o':Abs.Obj}(h:o.alive=o'.alive)(id:Nat):(jL [o] id).alive=(jL [o'] id).alive:=by
 cases id with
 |zero=>exact h
 |succ n=>rfl
theorem jhk{w:World}{b j:Nat}{c:Array Value}{T:TypeId}(h:w.heap[b]? = some (.cells c T (0,0))):w.frozen? ⟨b,j,none⟩=false:=by
 simp[World.frozen?,h]
theorem ju1{X:Ctx}{P:Program}{f:FuncId}(he:Enters P f)
  (h1:∀(blk off cap:Nat)(ss:Xa)(w:World),Holds encStr w blk off ss.toArray->blk<w.heap.size->ss.length<4611686018427387904->
   Calls P f #[.slice (some ⟨blk,off,none⟩) ss.length cap] w λe w'=>e = .returned (.tuple #[])/\ ∃n os,w'=grow (putRow encStr (Sort.ahead w n) blk off (ss.mergeSort λx y=>decide (x<=y)).toArray) os)
  (h0:∀(p:Option Addr)(cap:Nat)(w:World),Calls P f #[.slice p 0 cap] w λe w'=>e = .returned (.tuple #[])/\w'=w)
  {args:Xj} {objs:List Abs.Obj} {out:Out} (h:jpn args objs=some out):SOk X P f args objs YN out:=by
 unfold jpn at h;split at h;rotate_left
 .cases h
 rename_i xs;split at h;rotate_left
 .cases h
 rename_i ss hss;split at h;rotate_left
 .cases h
 rename_i hlen;cases h;have hxs:=jeR hss;refine⟨he,λw O m vs hsto hsome hrel=>?_⟩;simp only[jb,relV]at hrel;obtain⟨v,r,rfl,⟨hd,hm,hv⟩,rfl⟩:=hrel;have hob:=hsto.obj 0;have hst0:jL [Abs.Obj.row 1 xs] 0 = .row 1 xs:=rfl;rw[hst0,hm]at hob;obtain⟨hd',e1,hrow⟩:=hob;cases e1;have hholes:HolesOk YN (A.top,[A.sl 1 ((zV ss).map λs=>[sv s])]) [] [(zV ss).map λs=>[sv s]]:=by
  refine⟨rfl,λi a h=>by simp at h,rfl,λj r k h1 h2=>?_⟩;cases j with
  |zero=>
   simp[YN]at h1 h2;subst h1 h2;simp[hR,YN]
  |succ j=>simp at h1
 have hobjs:YN.objs [] [(zV ss).map λs=>[sv s]]=[.row 1 ((zV ss).map λs=>[sv s])]:=rfl;cases hd with
 |tre=>exact hrow.elim
 |mp=>exact hrow.elim
 |none=>
  simp only[rowOk]at hrow;simp only[hdr]at hv;obtain⟨a,rfl⟩:=hv;have hs0:ss=[]:=by
   rw[hrow]at hxs;simpa using hxs.symm
  subst hs0;refine(h0 a 0 w).mono ?_;rintro e w' ⟨rfl,rfl⟩;have hsb:zV []=[]:=by simp[zV]
  refine⟨_,rfl,[],[(zV []).map λs=>[sv s]],m,hholes,⟨rfl,rfl,Quiet.refl _,Nat.le_refl _⟩,λ_ _ _=>rfl,?_,λ_ _ h e=>⟨h,e,h.le_refl⟩,?_,?_⟩
  .rw [hobjs,hsb,hrow];exact λb hb=>Or.inl hb
  .rw [hobjs,hsb];rw[hrow]at hsto;exact hsto
  .simp only[YN,Sh.toV,relV];exact⟨[],rfl,by simp[Sh.toVL,jb]⟩
 |blk b cap n=>
  obtain⟨rfl,q1,q2,q3,c,T,q4,q5,q6,q7⟩:=hrow;simp only[hdr]at hv;subst hv;have hxl:xs.length=ss.length:=by rw[hxs];simp
  have hcells:c.toList.take (xs.length*1)=ss.map encStr:=by
   have:=q7;rw[hxs]at this;rw[ZP]at this;rw[<-hxs]at this;exact this
  have hget:∀j,j<ss.length->c[j]? = some (encStr ss[j]!):=by
   intro j hj;have:=congrArg (λl=>l[j]?) hcells;simp only[List.getElem?_take,List.getElem?_map]at this;rw[if_pos (by omega),List.getElem?_eq_getElem hj]at this;rw[<-Array.getElem?_toList,this];simp[hj]
  have hb:b<w.heap.size:=(Array.getElem?_eq_some_iff.1 q4).1;have hH:Holds encStr w b 0 ss.toArray:=by
   intro j hj;have hj:j<ss.length:=by simpa using hj
   refine⟨?_,jhk q4⟩;have:=hget j hj;simp only[World.cell?,q4,Nat.zero_add];rw[this];simp[hj]
  have hcall:=h1 b 0 cap ss w hH hb hlen;rw[<-hxl]at hcall;refine hcall.mono ?_;rintro e w' ⟨rfl,n,os,rfl⟩;have hsl:(zV ss).length=ss.length:=by simp[zV]
  generalize hW:grow (putRow encStr (Sort.ahead w n) b 0 (ss.mergeSort λx y=>decide (x<=y)).toArray) os=w';have hheap:w'.heap=(w.heap.modify b (onCells (putCells encStr 0 (ss.mergeSort λx y=>decide (x<=y)).toArray)))++os:=by rw[<-hW];rfl
  have hother:∀b',b'<w.heap.size->b'≠b->w'.heap[b']? = w.heap[b']? :=by
   intro b' hb' hne;rw[hheap,Array.getElem?_append_left (by simpa using hb'),Array.getElem?_modify,if_neg (Ne.symm hne)]
  have hself:w'.heap[b]? = some (.cells (putCells encStr 0 (zV ss).toArray c) T (0,0)):=by
   rw[hheap,Array.getElem?_append_left (by simpa using hb),Array.getElem?_modify,if_pos rfl,q4];rfl
  have hst:∀id,(jL [Abs.Obj.row 1 ((zV ss).map λs=>[sv s])] id).alive=(jL [Abs.Obj.row 1 xs] id).alive:=jiA rfl;have hmz:∀b',Mz m (jL [Abs.Obj.row 1 ((zV ss).map λs=>[sv s])]) b'->Mz m (jL [Abs.Obj.row 1 xs]) b':=by
   rintro b' ⟨id,hd',ha,hm',hi'⟩;exact⟨id,hd',by rw[<-hst id];exact ha,hm',hi'⟩
  have hbm:Mz m (jL [Abs.Obj.row 1 xs]) b:=⟨0,_,rfl,hm,y5⟩;have hsz:w.heap.size<=w'.heap.size:=by rw[hheap];simp
  have hchg:Chg w m (jL [Abs.Obj.row 1 xs]) w' m (jL [Abs.Obj.row 1 ((zV ss).map λs=>[sv s])]):=by
   refine⟨by rw[<-hW];rfl,by rw[<-hW];rfl,⟨by rw[<-hW];rfl,trivial⟩,hsz,λb' hb' hn=>hother b' hb' λe=>hn (by rw[e];exact hbm),JP.refl m,λb' h=>Or.inl (hmz b' h)⟩
  have hcut:(putCells encStr 0 (zV ss).toArray c).toList.take (xs.length*1)=(zV ss).map encStr:=by
   refine List.ext_getElem? λj=>?_;rw[List.getElem?_take,List.getElem?_map];by_cases hj:j<ss.length
   .have hjc:=hget j hj;have hjs:j<c.size:=(Array.getElem?_eq_some_iff.1 hjc).1;have hjb:j<(zV ss).length:=by omega
    rw[if_pos (by omega),Array.getElem?_toList];unfold putCells;rw[Array.getElem?_mapIdx,hjc];have:0<=j/\j<0+(zV ss).toArray.size:=⟨Nat.zero_le _,by simpa using hjb⟩;simp only[Option.map_some,this,and_self,if_true,Nat.sub_zero];rw[List.getElem?_eq_getElem hjb];simp[hjb]
   .rw [if_neg (by omega),List.getElem?_eq_none (show(zV ss).length<=j by omega)];rfl
  refine⟨_,rfl,[],[(zV ss).map λs=>[sv s]],m,hholes,⟨hchg.os,hchg.tape,hchg.output,hsz⟩,hchg.keep,λb' h=>Or.inl (hmz b' (by rw[hobjs]at h;exact h)),λ_ _ h e=>⟨h,e,h.le_refl⟩,?_,?_⟩
  .rw [hobjs];refine hsto.chg hchg ?_ (λid hd' b' ha hm' _=>Or.inl ⟨by rw[<-hst id];exact ha,hm'⟩) (λid id' hd1 hd2 b' ha ha'=>hsto.inj id id' hd1 hd2 b' (by rw[<-hst id];exact ha) (by rw[<-hst id'];exact ha')) ?_
   .intro id h;refine hsto.fresh id ?_;cases id with
    |zero=>cases h
    |succ id=>rfl
   .intro id;cases id with
    |succ id=>exact Or.inl ⟨rfl,rfl,λhd' b' ha=>by cases ha⟩
    |zero=>
     right;rw[hm];refine⟨_,rfl,by simp[hsl,hxl],by simp[hsl];omega,q2,by simp,_,T,hself,?_,?_,?_⟩
     .simp [putCells];omega
     .have e:((zV ss).map λs=>[sv s]).length=xs.length:=by simp[hsl,hxl]
      rw[e,hcut];intro u hu;obtain⟨s,_,rfl⟩:=List.mem_map.1 hu;rfl
     .have e:((zV ss).map λs=>[sv s]).length=xs.length:=by simp[hsl,hxl]
      rw[e,ZP];exact hcut
  .simp only[YN,Sh.toV,relV];exact⟨[],rfl,by simp[Sh.toVL,jb]⟩
end
noncomputable section
def juX:Xj->List Abs.Obj->Option (List (FuncId×Xd))
 | [.row 0,.fn g caps],[.row _ xs]=>(K1 caps).map λcs=>xs.flatMap λx=>xs.map λy=>(g,[A.agg x,A.agg y]++cs)
 |_,_=>none
def juD:Out->Option Int
 |(.val (.int .i64 c),[])=>some c
 |_=>none
def joM:List Out->Option Xi
 | []=>some []
 |o::os=>(match juD o,joM os with|some c,some l=>some (c::l)|_,_=>none)
def ltO{α:Type}(cf:α->α->Int)(x y:α):Bool:=decide (cf x y<0)
def jp5(N:Nat)(cs:Xi)(i j:_root_.Fin N):Int:=cs.getD (i.val*N+j.val) 0
open Classical in
def juY(k:Nat)(xs:Xc)(cs:Xi):Xe:=
 match xs with
 | []=>some (.top,[.sl k []])
 |x::r=>if SWO (ltO (jp5 (r.length+1) cs))/\r.length+1<4611686018427387904 then
   some (.top,[.sl k ((pdq (ltO (jp5 (r.length+1) cs)) (Array.ofFn (n:=r.length+1) id) 0 (r.length+1) (Lib.bitLen (r.length+1)) true true).toList.map λi=>(x::r).getD i.val [])])else none
def juW(k0:Nat):Xj->List Abs.Obj->List Out->Xe
 | [.row 0,.fn _ _],[.row k xs],outs=>if Nat.beq k k0 then(joM outs).bind λcs=>juY k xs cs else none
 |_,_,_=>none
def sfE(k:Nat):ExtV:=⟨juX,juW k⟩
def jyE(k:Nat):SigA:=⟨0,[k],[.io 0],[],.tup []⟩
def jtZ:Xj->List Abs.Obj->Option (List (FuncId×Xd))
 | [.row 0,.fn g []],[.tre _ _ xs]=>some (xs.flatMap λx=>xs.map λy=>(g,[A.agg x,A.agg y]))
 |_,_=>none
open Classical in
def jtr(n:Nat)(cs:Xi):Option Xf:=
 if SWO (ltO (jp5 (n+1) cs))/\n+1<4611686018427387904 then some ((pdq (ltO (jp5 (n+1) cs)) (Array.ofFn (n:=n+1) id) 0 (n+1) (Lib.bitLen (n+1)) true true).toList.map λi=>i.val)else none
def jw4{α:Type}(l:List (List α))(sel:Xf):List (List α):=sel.map λi=>l.getD i []
def juZ(xs:Xc)(cs:Xi):Option Xf:=match xs with| []=>some []|_::r=>jtr r.length cs
def jtq(k0:Nat):Xj->List Abs.Obj->List Out->Xe
 | [.row 0,.fn _ []],[.tre f k xs],outs=>if Nat.beq k k0 && (!f || xs.isEmpty)then(joM outs).bind λcs=>(juZ xs cs).map λsel=>(.top,[.sl (k+64) (jw4 xs sel)])else none
 |_,_,_=>none
def sfT(k:Nat):ExtV:=⟨jtZ,jtq k⟩
def jyF(k:Nat):SigA:=⟨0,[k+64],[.io 0],[],.tup []⟩
def cpR{α:Type}(q:α->α->Bool):α->List α->List α
 |_,[]=>[]
 |p,b::l=>if q b p then cpR q b l else b::cpR q b l
def cpA{α:Type}(q:α->α->Bool):List α->List α
 | []=>[]
 |a::l=>a::cpR q a l
def jnF:A->Option Nat
 |.val _=>some 0
 |.sl k _=>some (k+1)
 |_=>none
def jud:Xc->Bool
 | []=>true
 |x::r=>r.all λy=>decide (y.map jnF=x.map jnF)
open Classical in
def jsE(k0 g0:Nat):Xj->List Abs.Obj->List Out->Xe
 | [.row 0,.fn g []],[.tre true k xs],outs=>if h:(g=g0/\k=k0)/\jud xs=true/\xs.length<=1000000/\ ∃q:Xd->Xd->Bool,outs=xs.flatMap λx=>xs.map λy=>((.val (.bool (q x y)),[]):Out)then some (.top,[.sl (k+64) (cpA h.2.2.2.choose xs)])else none
 |_,_,_=>none
def cfT(k g0:Nat):ExtV:=⟨jtZ,jsE k g0⟩
def jyD(k:Nat):SigA:=⟨0,[k+64],[.cons],[0],.row 1⟩
def jkS:Xd->Xe
 | [.val (.int .i64 n)]=>if -9223372036854775808<=n/\n<=9223372036854775807 then some (sv (Lib.itoa n),[])else none
 |_=>none
end
noncomputable section
def strs:Xc->Option (List ByteArray)
 | []=>some []
 | [.val (.string s)]::r=>(strs r).map (s::·)
 |_=>none
def jkT:Xd->Xe
 | [.sl k rows,.val (.string sep)]=>if k=1 then(strs rows).bind λxs=>
   if xs.length<=140737488355328/\(Lib.join (xs.map (·.data.toList)) sep.data.toList).length<=140737488355328 then some (sv (Lib.join (xs.map (·.data.toList)) sep.data.toList),[])else none else none
 |_=>none
theorem jeT{x:Xd}{r:Xc}{xs:List ByteArray}(h:strs (x::r)=some xs):∃s ys,x=[.val (.string s)]/\strs r=some ys/\xs=s::ys:=by
 unfold strs at h;split at h
 .rename_i h1;cases h1
 .rename_i s r' h1;cases h1;obtain⟨ys,h2,rfl⟩:=Option.map_eq_some_iff.1 h;exact⟨s,ys,rfl,h2,rfl⟩
 .cases h
theorem jiB:∀{rows:Xc}{xs:List ByteArray},strs rows=some xs->xs.length=rows.length
 | [],xs,h=>by cases h;rfl
 |x::r,xs,h=>by
  obtain⟨s,ys,_,h2,rfl⟩:=jeT h;rw[List.length_cons,List.length_cons,jiB h2]
theorem jeS{w:World}{O:Nat->Prop}{b:Nat} :∀{rows:Xc}{off:Nat}{xs:List ByteArray},jR w O 1 b off rows->strs rows=some xs-> ∀(j:Nat) x,xs[j]? = some x->w.cell? ⟨b,off+j,none⟩=some (.string x)
 | [],off,xs,_,h,j,x,hx=>by cases h;simp at hx
 |r::rows,off,xs,hr,h,j,x,hx=>by
  obtain⟨s,ys,rfl,h2,rfl⟩:=jeT h;simp only[jR,kJ,rel]at hr;obtain⟨_,⟨⟨v,hv,_,rfl⟩,_⟩,hr⟩:=hr;cases j with
  |zero=>simp at hx;subst hx;exact hv
  |succ j=>
   have:=jeS hr h2 j x (by simpa using hx);rw[show off+(j+1)=off+1+j by omega];exact this
end
noncomputable section
def jgt:Xd->Xe
 | [.val (.string s),.val (.string sep)]=>if 1<=sep.size/\s.size<4294967281 then some (.sl 1 ((Lib.split s.data.toList sep.data.toList).map λx=>[sv x]),[])else none
 |_=>none
theorem jlu(x:ByteArray):sv x.data.toList = .val (.string x):=by unfold sv;rfl
theorem jeF{w:World}{O:Nat->Prop}{b:Nat} :∀(xs:List ByteArray)(off:Nat),(∀(j:Nat) x,xs[j]? = some x->w.cell? ⟨b,off+j,none⟩=some (.string x))->jR w O 1 b off (xs.map λx=>[A.val (.string x)])
 | [],_,_=>by simp only[List.map_nil,jR]
 |x::xs,off,h=>by
  simp only[List.map_cons,jR];refine⟨rfl,?_,jeF xs (off+1) λj y hy=>?_⟩
  .simp only[kJ,rel];exact⟨⟨_,h 0 x rfl,rfl,rfl⟩,trivial⟩
  .rw [show off+1+j=off+(j+1) by omega];exact h (j+1) y hy
theorem jjY(s sep:ByteArray):((Lib.split s.data.toList sep.data.toList).map λx=>[sv x])=(Lib.splitB sep 0 (Lib.countB s sep) s).map λx=>[A.val (.string x)]:=by
 unfold Lib.split;rw[show Lib.count s.data.toList sep.data.toList=Lib.countB s sep from rfl,<-Lib.splitB_data,List.map_map];exact List.map_congr_left λx _=>by rw[Function.comp_apply,jlu]
theorem jmS{w:World}{O:Nat->Prop}(s sep:ByteArray)(h1:1<=sep.size)(hs:s.size<4294967281)(hO:¬O w.heap.size)(t:TypeId) :
  rel (w.alloc (.cells ((Lib.splitB sep 0 (Lib.countB s sep) s).map Value.string).toArray t)) O (.sl 1 ((Lib.split s.data.toList sep.data.toList).map λx=>[sv x])) (.slice (some ⟨w.heap.size,0,none⟩) (Lib.countB s sep+1) (Lib.countB s sep+1)):=by
 have hl:=Lib.splitB_all sep h1 0 _ s rfl;have hle:=Lib.countB_le sep h1 s.size s (Nat.le_refl _);rw[jjY];simp only[rel];refine⟨_,_,by rw[List.length_map,hl],by rw[List.length_map,hl];exact Nat.le_refl _,by omega,Or.inr ⟨_,_,rfl,by show w.heap.size<(w.heap.push _).size;rw[Array.size_push];omega,hO,?_⟩⟩;refine jeF _ 0 λj x hx=>?_;rw[World.cell?_alloc_at _ _ _ _ rfl,Nat.zero_add];simp[hx]
end
noncomputable section
def jp7:Xd->Xe
 | [.val (.string s),.val (.string sep)]=>if s.size<4294967281 then some (.tup [sv (Lib.cut s.data.toList sep.data.toList).1,sv (Lib.cut s.data.toList sep.data.toList).2.1,.val (.bool (Lib.cut s.data.toList sep.data.toList).2.2)],[])else none
 |_=>none
def kU(s:Xb):Option Int:=
 match Lib.atoiAll s with
 |.ok v=>if(-999999<=v/\v<=999999)/\Lib.itoa v=s then some v else none
 |_=>none
def jla:Xd->Xe
 | [.val (.string s)]=>if s.size<=281474976710656 then some (.tup [.val (.int .i64 ((kU s.data.toList).getD 0)),.val (.bool (kU s.data.toList).isSome)],[])else none
 |_=>none
end
end Go.Proofs.YteoaojbmnibpcaaGreatDoor.Abs
