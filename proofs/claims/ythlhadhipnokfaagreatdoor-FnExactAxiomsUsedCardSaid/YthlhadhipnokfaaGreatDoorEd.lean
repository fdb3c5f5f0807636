/- Ed -/
import Derived.Test.YthlhadhipnokfaaGreatDoorEc
import Derived.Deep.Slices
import Derived.Sort.Grow
import Derived.Sort.EncStr
import Derived.Sort.AssemblyPlain
import Derived.Lib.BitFns
import Derived.Lib.ItoaNum
namespace Go.Proofs.YthlhadhipnokfaaGreatDoor.Abs
open Go Go.RowKit
set_option linter.unusedSimpArgs false
set_option linter.unusedVariables false
noncomputable section
def LeF(fr frC:Nat->V):Prop:=∀i,fr i = .top\/fr i=frC i
theorem LeF.refl(fr:Nat->V):LeF fr fr:=λ_=>Or.inr rfl
theorem LeF.put{fr frC:Nat->V}(h:LeF fr frC)(dst:Option Tmp){v v':V}(hv:v = .top\/v=v'):LeF (JL fr dst v) (JL frC dst v'):=by
 cases dst with
 |none=>exact h
 |some d=>
  intro i;simp only[JL];by_cases e:i=d
  .subst e;rw[jC,jC];exact hv
  .rw [upd_ne _ _ e,upd_ne _ _ e];exact h i
theorem LeF.rel{fr frC:Nat->V}(h:LeF fr frC)(n:Nat){w:World}{O:Nat->Prop}{m:zf}{x:Operand}{v:Value}(hr:relV w O m (evF n frC x) v):relV w O m (evF n fr x) v:=by
 cases x with
 |tmp t=>
  simp only[evF]at hr⊢;cases hb:Nat.blt t n with
  |false=>simp[relV]
  |true=>
   rw[hb]at hr;simp only[cond_true]at hr⊢;rcases h t with e|e
   .rw [e];simp[relV]
   .rw [e];exact hr
 |const v=>exact hr
 |global g=>exact hr
 |func f=>exact hr
theorem kG.le{P:Program}{X:Ctx}{o:Oper}{n:Nat}{fr frC:Nat->V}{t:Tx}(h:LeF fr frC)(ht:kG P X o (evF n fr) t):kG P X o (evF n frC) t:=
 λw O0 m st ev hs hr hx hc=>ht w O0 m st ev hs hr (λx hx'=>h.rel n (hx x hx')) hc
def jh0(gs:List GE)(frC:Nat->V):Prop:=∀g∈gs,∀t,frC g.gd = .d t->ZL t g.want=some true->g.v=frC g.dst
theorem jjl{i d:Nat}{w:Bool}{v:V} :∀{gs:List GE},jqG i d w gs=some v-> ∃g∈gs,g.dst=i/\g.gd=d/\g.want=w/\g.v=v
 | [],h=>by cases h
 |g::gs,h=>by
  simp only[jqG]at h;cases hb:(Nat.beq g.dst i && (Nat.beq g.gd d && (g.want == w)))with
  |true=>
   rw[hb]at h;simp only[cond_true,zI]at h;simp only[jI,beq_iff_eq]at hb;exact⟨g,by simp,kh hb.1,kh hb.2.1,hb.2.2,h⟩
  |false=>
   rw[hb]at h;simp only[cond_false]at h;obtain⟨g',h1,h2⟩:=jjl h;exact⟨g',by simp[h1],h2⟩
theorem jh0.over{gs:List GE}{fr frC:Nat->V}(h:jh0 gs frC)(hf:LeF fr frC){d:Nat}{w:Bool}{t:A}(hd:frC d = .d t)(hw:ZL t w=some true):LeF (jlP gs d w fr) frC:=by
 intro i;unfold jlP;cases hl:jqG i d w gs with
 |none=>exact hf i
 |some v=>
  obtain⟨g,h1,h2,h3,h4,h5⟩:=jjl hl;subst h2 h3 h4 h5;exact Or.inr (h g h1 t hd hw)
theorem jh0.drop{gs:List GE}{frC:Nat->V}(h:jh0 gs frC)(dst:Option Tmp)(v:V):jh0 (jc5 gs dst) (JL frC dst v):=by
 cases dst with
 |none=>exact h
 |some d=>
  intro g hg t ht hw;simp only[jc5,List.mem_filter,jI,QY]at hg;obtain⟨h1,h2,h3⟩:=hg;have e2:g.dst≠d:=λe=>by rw[e]at h2;simp at h2
  have e3:g.gd≠d:=λe=>by rw[e]at h3;simp at h3
  simp only[JL]at ht⊢;rw[upd_ne _ _ e3]at ht;rw[upd_ne _ _ e2];exact h g h1 t ht hw
theorem jh0.add{gs:List GE}{frC:Nat->V}(h:jh0 gs frC)(dst:Option Tmp){d:Nat}{want:Bool}{v u:V}{t:A}(hd:frC d = .d t)(hv:ZL t want=some true->u=v):jh0 (jFf gs dst d want v) (JL frC dst u):=by
 cases dst with
 |none=>exact h
 |some x=>
  simp only[jFf];cases hb:Nat.beq x d with
  |true=>exact h.drop (some x) u
  |false=>
   simp only[cond_false];have hne:d≠x:=λe=>by subst e;simp at hb
   intro g hg t' ht hw;rcases List.mem_cons.mp hg with rfl|hg
   .simp only[JL]at ht⊢;rw[upd_ne _ _ hne,hd]at ht;cases ht;rw[jC];exact(hv hw).symm
   .exact h.drop (some x) u g hg t' ht hw
theorem jvt{t:A}{want:Bool}{x:Xl}{a:A}(h:pG t want x=some a):(ZL t want=some true/\x=some a)\/(ZL t want=some false/\a = .val undef):=by
 unfold pG at h;unfold ZL;split at h
 .split at h
  .rename_i e;exact Or.inl ⟨by simp[e],h⟩
  .rename_i e;cases h;exact Or.inr ⟨by simp[e],rfl⟩
 .cases h;exact Or.inr ⟨rfl,rfl⟩
 .cases h
theorem jcj{ops:Array Oper}{o:Oper}{n j d:Nat}{want b:Bool}{frC:Nat->V}{t:A}(hg:o.guard=some (j,want))(hj:jyw ops j=some d)(hd:d<n)(ht:frC d = .d t)(hw:ZL t want=some b):Qo ops n o frC b:=by
 unfold Qo;rw[hg];have h1:(ops[j]?).bind (·.dst)=some d:=by
  unfold jyw at hj;cases ho:ops[j]? with
  |none=>rw[ho]at hj;cases hj
  |some o'=>rw[ho]at hj;exact hj
 unfold ZL at hw;split at hw
 .rename_i c;cases hw;refine⟨d,_,h1,hd,ht,?_⟩;cases c<;>cases want<;>rfl
 .cases hw;exact⟨d,_,h1,hd,ht,rfl⟩
 .cases hw
section
variable{C:Cfg}{X:Ctx}{M:Node->Xe}{o:Oper}{st:jA}{r:Out}
theorem yc.run{ρ:Operand->V}{κ:V->Xm->Xn->Xe} :∀{x:LX},yc C.P X M o ρ st x->x.run M κ=some r-> ∃v rds wrs,κ v rds wrs=some r/\kG C.P X o ρ ⟨v,rds,wrs⟩/\ ∀q∈rds,yh st q
 |.fail,_,h=>by cases h
 |.ret v rds wrs,hx,h=>⟨v,rds,wrs,h,hx.1,hx.2⟩
 |.bnd x k,hx,h=>by
  simp only[LX.run,yG]at h;obtain⟨a,h1,h2⟩:=h;exact yc.run (hx a h1) h2
 |.nat x k,hx,h=>by
  simp only[LX.run,yG]at h;obtain⟨a,h1,h2⟩:=h;exact yc.run (hx a h1) h2
 |.rows x k,hx,h=>by
  simp only[LX.run,yG]at h;obtain⟨a,h1,h2⟩:=h;exact yc.run (hx a h1) h2
 |.cells x k,hx,h=>by
  simp only[LX.run,yG]at h;obtain⟨a,h1,h2⟩:=h;exact yc.run (hx a h1) h2
 |.chk b k,hx,h=>by
  simp only[LX.run,brn]at h;split at h
  .rename_i hb;exact yc.run (hx hb) h
  .cases h
 |.node x k,hx,h=>by
  simp only[LX.run,yG]at h;obtain⟨a,h1,h2⟩:=h;exact yc.run (hx a h1) h2
 |.cnd a x y,hx,h=>by
  simp only[LX.run,yG]at h;obtain⟨t,h1,h2⟩:=h;cases t with
  |true=>exact yc.run (hx.1 h1) h2
  |false=>exact yc.run (hx.2 h1) h2
theorem jvA(hD:JI C.P C.D)(hM:Qz X C M)(hS:StM X C M){n:Nat}{fr:Nat->V}{nid:Nat}{κ:V->Xm->Xn->Xe}(h:run1 C M o n fr st nid κ=some r) :
  ∃v rds wrs,κ v rds wrs=some r/\kG C.P X o (evF n fr) ⟨v,rds,wrs⟩/\ ∀q∈rds,yh st q:=by
 unfold run1 at h;have hs:=jlj (X:=X) (o:=o) (ρ:=evF n fr) (st:=st) hD hM;split at h
 .rename_i v rds e;rw[e]at hs;exact⟨v,rds,[],h,hs.1,hs.2⟩
 .rename_i x rds e;rw[e]at hs;rw[yG]at h;obtain⟨a,h1,h2⟩:=h;obtain⟨g1,g2⟩:=hs a h1;exact⟨_,rds,[],h2,g1,g2⟩
 .split at h
  .rename_i hn;exact yc.run (jv6 hD hM hS nid hn) h
  .cases h
theorem jxb(hD:JI C.P C.D)(hM:Qz X C M)(hS:StM X C M){ops:Array Oper}{n:Nat}{fr frC:Nat->V}{nid:Nat}{gs:List GE}{κ:V->Xm->Xn->List GE->Xe}(hf:LeF fr frC)(hg:jh0 gs frC)(h:stepOp C M ops o n fr st nid gs κ=some r) :
  ∃(t:Tx)(v:V)(rds:Xm)(wrs:Xn)(gs':List GE),κ v rds wrs gs'=some r/\AY C.P X ops n o frC t/\(∀q∈t.rds,yh st q)/\(v = .top\/v=t.v)/\t.rds ⊆ rds/\t.wrs=wrs/\jh0 gs' (JL frC o.dst t.v):=by
 unfold stepOp at h;split at h
 .rename_i hgd;obtain⟨v,rds,wrs,h1,h2,h3⟩:=jvA hD hM hS h;exact⟨⟨v,rds,wrs⟩,v,rds,wrs,_,h1,Or.inl ⟨by simp[Qo,hgd],h2.le hf⟩,h3,Or.inr rfl,λ_ h=>h,rfl,hg.drop _ _⟩
 .rename_i j want hgd;split at h
  .rename_i d hj;split at h
   .rename_i hlt;have hlt:d<n:=by simpa[Zo]using hlt
    split at h
    .rename_i t ht;have htC:frC d = .d t:=by
      rcases hf d with e|e
      .rw [ht]at e;cases e
      .rw [<-e];exact ht
     have skip:ZL t want=some false->AY C.P X ops n o frC ⟨.d (.val undef),[],[]⟩:=λhw=>Or.inr ⟨jcj hgd hj hlt htC hw,rfl,rfl⟩;have hs:=jlj (X:=X) (o:=o) (ρ:=evF n (jlP gs d want fr)) (st:=st) hD hM;split at h
     .rename_i a rds e;rw[e]at hs;rw[yG]at h;obtain⟨a',h1,h2⟩:=h;rcases jvt h1 with⟨g1,g2⟩|⟨g1,g2⟩
      .cases g2;exact⟨⟨.d a,rds,[]⟩,_,_,_,_,h2,Or.inl ⟨jcj hgd hj hlt htC g1,hs.1.le (hg.over hf htC g1)⟩,hs.2,Or.inr rfl,λ_ h=>h,rfl,hg.drop _ _⟩
      .subst g2;exact⟨_,_,_,_,_,h2,skip g1,by simp,Or.inr rfl,by simp,rfl,hg.drop _ _⟩
     .rename_i v rds _ e;rw[e]at hs;rw[yG]at h;obtain⟨b,h1,h2⟩:=h;cases b with
      |true=>exact⟨⟨v,rds,[]⟩,_,_,_,_,h2,Or.inl ⟨jcj hgd hj hlt htC h1,hs.1.le (hg.over hf htC h1)⟩,hs.2,Or.inl rfl,λ_ h=>h,rfl,hg.add _ htC λ_=>rfl⟩
      |false=>exact⟨_,_,_,_,_,h2,skip h1,by simp,Or.inl rfl,by simp,rfl,hg.add _ htC λe=>by rw[h1]at e;cases e⟩
     .rename_i x rds e;rw[e]at hs;rw[yG]at h;obtain⟨a',h1,h2⟩:=h;rcases jvt h1 with⟨g1,g2⟩|⟨g1,g2⟩
      .obtain ⟨s1,s2⟩:=hs a' g2;exact⟨⟨.d a',rds,[]⟩,_,_,_,_,h2,Or.inl ⟨jcj hgd hj hlt htC g1,s1.le (hg.over hf htC g1)⟩,s2,Or.inr rfl,λ_ h=>h,rfl,hg.drop _ _⟩
      .subst g2;exact⟨_,_,_,_,_,h2,skip g1,by simp,Or.inr rfl,by simp,rfl,hg.drop _ _⟩
     .rw [yG]at h;obtain⟨b,h1,h2⟩:=h;cases b with
      |true=>
       obtain⟨v,rds,wrs,g1,g2,g3⟩:=jvA hD hM hS (show run1 C M o n (jlP gs d want fr) st nid (λv rds wrs=>κ v rds wrs (jc5 gs o.dst))=some r from h2);exact⟨⟨v,rds,wrs⟩,v,rds,wrs,_,g1,Or.inl ⟨jcj hgd hj hlt htC h1,g2.le (hg.over hf htC h1)⟩,g3,Or.inr rfl,λ_ h=>h,rfl,hg.drop _ _⟩
      |false=>exact⟨_,_,_,_,_,(show κ _ _ _ _=some r from h2),skip h1,by simp,Or.inr rfl,by simp,rfl,hg.drop _ _⟩
    .cases h
   .cases h
  .cases h
theorem jpM(hD:JI C.P C.D)(hM:Qz X C M)(hS:StM X C M){ops:Array Oper}{n:Nat}{k:(Nat->V)->jA->List Log->Xe} :∀(l:List Oper)(nid:Nat)(fr frC:Nat->V)(st:jA)(gs:List GE)(logs:List Log),LeF fr frC->jh0 gs frC->
  evOps C M ops n l nid fr st gs logs k=some r-> ∃(T:List Tx)(L:List Log)(fr' frC':Nat->V)(st':jA),k fr' st' (logs++L)=some r/\LeF fr' frC'/\T.length=l.length/\L.length=l.length/\
   (∀(i:Nat)(t:Tx)(lg:Log),T[i]? = some t->L[i]? = some lg->t.rds ⊆ lg.1/\t.wrs=lg.2)/\jAq C.P X ops n (λf s=>f=frC'/\s=st') l T frC st
 | [],nid,fr,frC,st,gs,logs,hf,hg,h=>⟨[],[],fr,frC,st,by simpa[evOps]using h,hf,rfl,rfl,by simp,rfl,rfl⟩
 |o::os,nid,fr,frC,st,gs,logs,hf,hg,h=>by
  obtain⟨t,v,rds,wrs,gs',h1,h2,h3,h4,h5,h6,h7⟩:=jxb hD hM hS hf hg h;have hf':LeF (JL fr o.dst v) (JL frC o.dst t.v):=hf.put o.dst h4;obtain⟨T,L,fr',frC',st',g1,g2,g3,g4,g5,g6⟩:=jpM hD hM hS os _ _ (JL frC o.dst t.v) _ gs' _ hf' h7 h1;refine⟨t::T,(rds,wrs)::L,fr',frC',st',by simpa using g1,g2,by simp[g3],by simp[g4],?_,h2,h3,?_⟩
  .intro i t' lg ht hl;cases i with
   |zero=>simp at ht hl;subst ht hl;exact⟨h5,h6⟩
   |succ i=>exact g5 i t' lg (by simpa using ht) (by simpa using hl)
  .rw [h6];exact g6
theorem jyi{w:Wr}{q:Rd}{ps:Xk}(h:cWR w q=some ps)(ha:apart ps=true):jbH w q:=by
 unfold cWR at h;split at h
 .split at h
  .cases h
  .rename_i hb;simp only[jbH];rename_i id off _ id' off' _;by_cases e:id=id'
   .exact Or.inr λe'=>hb (by simp[e,e'])
   .exact Or.inl e
 .split at h
  .cases h;simp only[apart,zR,List.all_nil,Bool.and_true,ky]at ha;exact Or.inr ha
  .rename_i hb;refine Or.inl λe=>hb ?_;simp[e]
 .split at h
  .cases h;simp only[apart,zR,List.all_nil,Bool.and_true,ky]at ha;exact Or.inr ha
  .rename_i hb;refine Or.inl λe=>hb ?_;simp[e]
 .trivial
 .trivial
 .trivial
 .split at h
  .cases h
  .rename_i hb;have hne:w.id≠q.id:=λe=>hb (by simp[e]);cases w<;>cases q<;>simp_all [jbH,Wr.id,Rd.id]
theorem jFK{w q:Wr}{ps:Xk}(h:cWW w q=some ps)(ha:apart ps=true):jbI w q:=by
 unfold cWW at h;split at h
 .split at h
  .cases h
  .rename_i hb;simp only[jbI];rename_i id off _ id' off' _;by_cases e:id=id'
   .exact Or.inr λe'=>hb (by simp[e,e'])
   .exact Or.inl e
 .split at h
  .cases h;simp only[apart,zR,List.all_nil,Bool.and_true,ky]at ha;exact Or.inr ha
  .rename_i hb;refine Or.inl λe=>hb ?_;simp[e]
 .split at h
  .cases h
  .rename_i hb;have hne:w.id≠q.id:=λe=>hb (by simp[e]);cases w<;>cases q<;>simp_all [jbI,Wr.id]
theorem Z8{ps qs:Xk}(h:apart (ps++qs)=true):apart ps=true/\apart qs=true:=by
 simpa[apart,List.all_append]using h
theorem juC{α:Type}{g:α->Option Xk}{R:α->Prop}(hR:∀b ps,g b=some ps->apart ps=true->R b):∀{bs:List α}{ps:Xk},jpu.cOne g bs=some ps->apart ps=true-> ∀b∈bs,R b
 | [],_,_,_=>by simp
 |b::bs,ps,h,ha=>by
  simp only[jpu.cOne]at h;split at h
  .rename_i x y h1 h2;cases h;obtain⟨a1,a2⟩:=Z8 ha;intro b' hb;rcases List.mem_cons.mp hb with rfl|hb
   .exact hR _ _ h1 a1
   .exact juC hR h2 a2 b' hb
  .cases h
theorem jhA{α β:Type}{f:α->β->Option Xk}{R:α->β->Prop}(hR:∀a b ps,f a b=some ps->apart ps=true->R a b):∀{as:List α}{bs:List β}{ps:Xk},jpu f as bs=some ps->apart ps=true-> ∀a∈as,∀b∈bs,R a b
 | [],_,_,_,_=>by simp
 |a::as,bs,ps,h,ha=>by
  simp only[jpu]at h;split at h
  .rename_i x y h1 h2;cases h;obtain⟨a1,a2⟩:=Z8 ha;intro a' ha';rcases List.mem_cons.mp ha' with rfl|ha'
   .exact juC (hR _) h1 a1
   .exact jhA hR h2 a2 a' ha'
  .cases h
theorem jCi{a b:Log}{ps:Xk}(h:jye a b=some ps)(ha:apart ps=true){t u:Tx}(h1:t.rds ⊆ a.1)(h2:t.wrs=a.2)(h3:u.rds ⊆ b.1)(h4:u.wrs=b.2):jyV t u:=by
 unfold jye at h;split at h
 .rename_i x y z e1 e2 e3;cases h;obtain⟨a1,a3⟩:=Z8 ha;obtain⟨a1,a2⟩:=Z8 a1;refine⟨λw hw q hq=>?_,λw hw q hq=>?_,λw hw q hq=>?_⟩
  .exact jhA (λ_ _ _=>jyi) e1 a1 w (h2 ▸ hw) q (h3 hq)
  .exact jhA (λ_ _ _=>jyi) e2 a2 w (h4 ▸ hw) q (h1 hq)
  .exact jhA (λ_ _ _=>jFK) e3 a3 w (h2 ▸ hw) q (h4 ▸ hq)
 .cases h
theorem juE{all:List Oper}{o:Oper}{b:Log} :∀{as:List Log}{i:Nat}{ps:Xk},jCl all o b i as=some ps->apart ps=true-> ∀(j:Nat)(a:Log),as[j]? = some a->(∃d,jiM all (i+j) d o=true)\/ ∃qs,jye a b=some qs/\apart qs=true
 | [],_,_,_,_=>by simp
 |a::as,i,ps,h,ha=>by
  simp only[jCl]at h;split at h
  .rename_i x y h1 h2;cases h;obtain⟨a1,a2⟩:=Z8 ha;intro j a' hj;cases j with
   |zero=>
    simp at hj;subst hj;split at h1
    .rename_i he;exact Or.inl ⟨2,he⟩
    .unfold jHB at h1;split at h1
     .rename_i y hy;cases h1;exact Or.inr ⟨_,hy,a1⟩
     .split at h1
      .rename_i he;exact Or.inl ⟨7,he⟩
      .cases h1
   |succ j=>
    rcases juE h2 a2 j a' (by simpa using hj)with g|g
    .exact Or.inl (by rwa[show i+(j+1)=i+1+j by omega])
    .exact Or.inr g
  .cases h
theorem juD{all:List Oper} :∀{l:List Oper}{done bs:List Log}{ps:Xk},jCk all l done bs=some ps->apart ps=true-> ∀(j:Nat)(o:Oper)(b:Log),l[j]? = some o->bs[j]? = some b->
  ∀(i:Nat)(a:Log),i<done.length+j->(done++bs)[i]? = some a->(∃d,jiM all i d o=true)\/ ∃qs,jye a b=some qs/\apart qs=true
 | [],_,_,_,_,_=>by simp
 |_::_,_,[],_,h,_=>by cases h
 |o::os,done,b::bs,ps,h,ha=>by
  simp only[jCk]at h;split at h
  .rename_i x y h1 h2;cases h;obtain⟨a1,a2⟩:=Z8 ha;intro j o' b' ho hb i a hi hia;cases j with
   |zero=>
    simp at ho hb;subst ho hb;have hi:i<done.length:=by simpa using hi
    rw[Kl hi]at hia;simpa using juE h1 a1 i a hia
   |succ j=>
    exact juD h2 a2 j o' b' (by simpa using ho) (by simpa using hb) i a (by simp;omega) (by simpa using hia)
  .cases h
theorem jpJ{all:List Oper}{i:Nat} :∀{d:Nat}{o:Oper},jiM all i d o=true->jnH .any all.toArray i d o
 |0,_,h=>by cases h
 |d+1,o,h=>by
  unfold jiM at h;rw[List.any_eq_true]at h;obtain⟨e,h1,h2⟩:=h;rw[jI,Bool.or_eq_true]at h2;refine⟨e,by simpa using h1,h2.1,?_⟩;rcases h2.2 with h3|h3
  .exact Or.inl (kh h3)
  .split at h3
   .rename_i ok hok;exact Or.inr ⟨ok,by simpa using hok,jpJ h3⟩
   .cases h3
theorem jyL(hD:JI C.P C.D)(hM:Qz X C M)(hS:StM X C M)(hm:C.P.follows .mixedOrders=true){id:Nat}{ops:Array Oper}{draw:Bool}(hx:jcT (.region id ops draw)=true){s:St}{κ:St->Xe}(h:evReg C M ops.toList draw s κ=some r)
  {w0:World} {Z0 O0:Nat->Prop} {shv:Option (List Hd)} {m:zf} {a:Act} {w:World} {Q:Exit->Act->World->Prop} (hs:Sim X w0 Z0 O0 shv m s a w)
  (hQ:∀s' m a w,s'.n=s.n->κ s'=some r->Sim X w0 Z0 O0 shv m s' a w->Q .normal a w):(Code.region id ops draw).wp C.P Q a w:=by
 unfold evReg at h;obtain⟨T,L,fr',frC',st',h1,h2,h3,h4,h5,h6⟩:=jpM hD hM hS _ _ _ s.fr _ [] _ (LeF.refl _) (by intro g hg;cases hg) h;rw[yF]at h1;have h1b:(!draw || jvw ops.toList L)=true/\κ ⟨s.n,fr',st',s.nx+8*ops.toList.length,s.sh⟩=some r:=by
  simp only[brn]at h1;split at h1
  .split at h1
   .rename_i hb;exact⟨hb,h1⟩
   .cases h1
  .cases h1
 have hops:ops=ops.toList.toArray:=by simp
 rw[hops];refine jkt (T:=T) (K:=λf s=>f=frC'/\s=st') hm hs ?_ h6 ?_
 .intro hd;subst hd;simp only[jcT,Bool.not_true,Bool.false_or]at hx h1b;refine⟨hx,h3,?_⟩;have hr:=h1b.1;unfold jvw at hr;split at hr
  .rename_i ps hps;intro i j oj ti tj hij hoj hti htj he;have hoj':ops.toList[j]? = some oj:=by simpa using hoj
   have hjl:j<L.length:=by
    rw[h4];have:=(List.getElem?_eq_some_iff.mp hoj').1;exact this
   have hil:i<L.length:=by omega
   obtain⟨p1,p2⟩:=h5 j tj _ htj (j7 hjl);obtain⟨q1,q2⟩:=h5 i ti _ hti (j7 hil);rcases juD hps hr j oj _ hoj' (j7 hjl) i _ (by simpa using hij) (show([]++L)[i]? = _ from j7 hil)with⟨d,g⟩|⟨qs,g1,g2⟩
   .exact absurd (jpJ g) (he d)
   .exact jCi g1 g2 q1 q2 p1 p2
  .cases hr
 .rintro fr st m a w ⟨rfl,rfl⟩ hs';refine hQ ⟨s.n,fr',st,s.nx+8*ops.toList.length,s.sh⟩ m a w rfl h1b.2 ?_;exact⟨hs'.defers,hs'.tsz,hs'.os,hs'.tape,hs'.output,hs'.size,hs'.keep,hs'.new,hs'.sto,λi v hi=>by
   rcases h2 i with e|e
   .show relV _ _ _ (fr' i) v;rw[e];simp[relV]
   .show relV _ _ _ (fr' i) v;rw[e];exact hs'.fr i v hi,hs'.sh,hs'.shf⟩
end
end
noncomputable section
theorem jlv{w:World}{O:Nat->Prop}{m:zf}{mask:Nat}{fr:Nat->V} :∀(n i:Nat)(us:Xh),us.length=n->(∀j u,us[j]? = some u->relV w O m (fr (i+j)) u)->jp w O m (jgK mask fr n i) us
 |0,_,us,hl,_=>by simp only[jgK,jp];exact List.length_eq_zero_iff.mp hl
 |n+1,i,[],hl,_=>by cases hl
 |n+1,i,u::us,hl,h=>by
  simp only[jgK,jp];refine⟨u,us,rfl,?_,jlv n (i+1) us (by simpa using hl) λj x hx=>by rw[show i+1+j=i+(j+1) by omega];exact h (j+1) x (by simpa using hx)⟩;split
  .exact h 0 u rfl
  .simp [relV]
theorem jlI{ids:Xf}{m m':zf}(h:∀q id,ids[q]? = some id->m' q=m id):∀{l r:Xf},jor ids l=some r->r.map m'=l.map m
 | [],r,e=>by cases e;rfl
 |x::l,r,e=>by
  simp only[jor]at e;split at e
  .rename_i i r' h1 h2;cases e;obtain⟨q,e1,e2⟩:=Jz h1;have e1:i=q:=by omega
   subst e1;simp only[kK];rw[h _ _ e2,jlI h h2]
  .cases e
theorem jxX{M:Node->Xe}{f:FuncId}{p:Xf}{mask:Nat}{s:St}{r:Out}{X:Ctx}{w0:World}{Z0 O0:Nat->Prop}{shv:Option (List Hd)}{m:zf}{a:Act}{w:World}
  (h:again M f p mask s=some r) (hs:Sim X w0 Z0 O0 shv m s a w) :
  ∃fr objs sh m',M (.head f p fr objs sh)=some r/\Sim X w0 Z0 O0 shv m' (St.of s.n fr objs sh) a w:=by
 unfold again at h;dsimp only at h;split at h;rotate_left
 .cases h
 rename_i hnd;generalize reach s.st 400 (jfa (jgK mask s.fr s.n 0)++shL s.sh) []=ids at h hnd;have hnd:=jcA hnd;split at h;rotate_left
 .cases h
 rename_i sh2 hsh;generalize e1:ZM (ZC ids (jgK mask s.fr s.n 0)) ids.length=q1 at h;obtain⟨fr2,os1⟩:=q1;dsimp only at h;generalize e3:JV (ids.map λid=>joG ids (s.st id)) (ids.length+os1.length)=q3 at h;obtain⟨ob,os3⟩:=q3;dsimp only at h;refine⟨_,_,_,jdF ids (os1.length+os3.length) m,h,?_⟩;generalize hM':jdF ids (os1.length+os3.length) m=m';have m1:∀q id,ids[q]? = some id->m' q=m id:=λq id hq=>by rw[<-hM'];exact joo hq
 have m2:∀i,ids.length<=i->i<ids.length+os1.length+os3.length->m' i=some .none:=λq h1 h2=>by
  rw[<-hM'];simp only[jdF];rw[jh (by omega),jg (by omega)]
 have m3:∀i,ids.length+os1.length+os3.length<=i->m' i=none:=λq h1=>by
  rw[<-hM'];simp only[jdF];rw[jh (by omega),jh (by omega)]
 have n1:Kn os1:=by have:=KU (ZC ids (jgK mask s.fr s.n 0)) ids.length;rw[e1]at this;exact this
 generalize hst:kD (ob++os1++os3)=st';obtain⟨l3,t1,t2,t3⟩:=jrd w (Ow O0 m' st') m' n1 e3 m2;rw[hst]at t1 t2 t3;have hal:∀i id,ids[i]? = some id->(st' i).alive=(s.st id).alive:=by
  intro i id hi;rcases t1 i id hi with h|⟨cs,cs',h1,h2,_⟩
  .rw [h,jj0]
  .rw [h1,h2];rfl
 have hren:(∀b,Ow O0 m' st' b->Ow O0 m s.st b)-> ∀(cs:Xj) us,jp w (Ow O0 m s.st) m cs us->jp w (Ow O0 m' st') m' (ZC ids cs) us:=
  λhsub cs us h=>Zh (MonoW.sub hsub) (λq id hq hd h=>by rw[m1 q id hq];exact h) _ _ h
 obtain⟨hsto,hmz⟩:=Sto.pick (X:=X) (w:=w) (O0':=O0) (m':=m') (st':=st') hs.sto hs.sto.jn (λb hb=>Or.inl hb) (λi=>ids[i]?) (λi=>by
   by_cases hi:i<ids.length
   .have hg:ids[i]? = some ids[i]:=j7 hi;rcases t1 i _ hg with h1|⟨cs,cs',h1,h2,h3⟩
    .cases hc:s.st ids[i]with
     |dead=>rw[hc]at h1;exact Or.inl ⟨h1,by rw[m1 i _ hg];exact hs.sto.fresh _ hc⟩
     |gone=>rw[hc]at h1;exact Or.inr (Or.inl h1)
     |box cs=>
      rw[hc]at h1;exact Or.inr (Or.inr (Or.inr ⟨_,hg,m1 i _ hg,Or.inr ⟨cs,_,hc,h1,λhsub _ us hus=>hren hsub _ _ hus⟩⟩))
     |row k xs=>rw[hc]at h1;exact Or.inr (Or.inr (Or.inr ⟨_,hg,m1 i _ hg,Or.inl ⟨⟨k,xs,Or.inl h1⟩,by rw[hc];exact h1.symm⟩⟩))
     |fro k xs=>rw[hc]at h1;exact Or.inr (Or.inr (Or.inr ⟨_,hg,m1 i _ hg,Or.inl ⟨⟨k,xs,Or.inr (Or.inl h1)⟩,by rw[hc];exact h1.symm⟩⟩))
     |tre f k xs=>rw[hc]at h1;exact Or.inr (Or.inr (Or.inr ⟨_,hg,m1 i _ hg,Or.inl ⟨⟨k,xs,Or.inr (Or.inr (Or.inl ⟨f,h1⟩))⟩,by rw[hc];exact h1.symm⟩⟩))
     |map xs=>rw[hc]at h1;exact Or.inr (Or.inr (Or.inr ⟨_,hg,m1 i _ hg,Or.inl ⟨⟨0,xs,Or.inr (Or.inr (Or.inr h1))⟩,by rw[hc];exact h1.symm⟩⟩))
    .exact Or.inr (Or.inr (Or.inr ⟨_,hg,m1 i _ hg,Or.inr ⟨cs,cs',h1,h2,λhsub _ us hus=>h3 us (hren hsub _ _ hus)⟩⟩))
   .by_cases hi':i<ids.length+os1.length+os3.length
    .obtain ⟨k,hk⟩:=t2 i (by omega) hi';exact Or.inr (Or.inr (Or.inl ⟨⟨k,Or.inl hk⟩,m2 i (by omega) hi'⟩))
    .exact Or.inl ⟨t3 i (by omega),m3 i (by omega)⟩)
  (λi i' id h1 h2 _ _=>(List.getElem?_inj (List.getElem?_eq_some_iff.mp h1).1 hnd).mp (h1.trans h2.symm))
  (λi id hd b h1 h2 h3 h4 hb=>(hs.sto.blk id hd b (by rw[<-hal i id h1];exact h2) h3 h4).2 hb)
 have hsub:∀b,Ow O0 m' st' b->Ow O0 m s.st b:=λb hb=>hb.imp id (hmz b);have hres:Sim X w0 Z0 O0 shv m' ⟨s.n,λi=>fr2.getD i .top,st',(ob++os1++os3).length,sh2⟩ a w:=by
  refine⟨hs.defers,hs.tsz,hs.os,hs.tape,hs.output,hs.size,hs.keep,λb hb=>hs.new b (hmz b hb),hsto,?_,?_,hs.shf⟩
  .intro i v hv;have g:=jlv (mask:=mask) (fr:=s.fr) s.n 0 a.tmps.toList (by rw[Zq,hs.tsz]) λj u hu=>by
    rw[yd];exact hs.fr j u (by simpa using hu)
   have g:=KV _ ids.length _ (λi h1 h2=>m2 i h1 (by rw[e1]at h2;dsimp only at h2;omega)) (hren hsub _ _ g)
   rw[e1]at g;show relV w (Ow O0 m' st') m' (fr2.getD i .top) v;cases hc:fr2[i]? with
   |none=>rw[zP,hc];simp[relV]
   |some c=>
    obtain⟨u,k1,k2⟩:=KX g hc;have hv':a.tmps.toList[i]? = some v:=by simpa using hv
    rw[hv']at k1;cases k1;rw[zP,hc];exact k2
  .have:=hs.sh;unfold jEW at hsh;split at hsh
   .rename_i h0;cases hsh;rw[h0]at this;exact this
   .rename_i l0 hl0;split at hsh
    .rename_i r hr;cases hsh;rw[hl0]at this;show(some r).map _=_;rw[<-this];simp only[qR];rw[jlI m1 hr]
    .cases hsh
 subst hst;exact hres
end
noncomputable section
def jfi:Code->Xf->Option Code
 |c,[]=>some c
 |.seq a _,0::r=>jfi a r
 |.seq _ b,1::r=>jfi b r
 |.cond _ x _,0::r=>jfi x r
 |.cond _ _ y,1::r=>jfi y r
 |.block _ b,0::r=>jfi b r
 |.loop b,0::r=>jfi b r
 |_,_=>none
def yZ(P:Program)(c:Code)(Q:Exit->Act->World->Prop)(a:Act)(w:World):Prop:=
 ∀(b:Frame)(k:List Item)(cs:List Frame),∃e a' w',Q e a' w'/\Arrives P (lone (b.at a (.code c:: .inLoop c::k)) cs w) b k cs e a' w'
theorem yZ.mk{P:Program}{c:Code}{Q:Exit->Act->World->Prop}{a:Act}{w:World}(h:c.wp P (Exit.then (yZ P c Q) Q) a w):yZ P c Q a w:=by
 intro b k cs;obtain⟨e,a₁,w₁,hq,harr⟩:=h b (.inLoop c::k) cs;cases e with
 |normal=>
  obtain⟨e₂,a₂,w₂,hq₂,harr₂⟩:=hq b k cs;exact⟨e₂,a₂,w₂,hq₂,.of_steps (Steps.trans harr (.one step_inLoop)) harr₂⟩
 |exit id=>exact⟨_,a₁,w₁,hq,.pass (x:= .inLoop c) rfl (λ_ _=>.inl (by simp)) harr⟩
 |goto l=>exact⟨_,a₁,w₁,hq,.pass (x:= .inLoop c) rfl (λ_ _=>.inl (by simp)) harr⟩
 |ret=>exact⟨_,a₁,w₁,hq,.pass (x:= .inLoop c) rfl (λ_ _=>.inl (by simp)) harr⟩
 |panic ch=>exact⟨_,a₁,w₁,hq,.pass (x:= .inLoop c) rfl (λ_ _=>.inl (by simp)) harr⟩
 |outgrown=>exact⟨_,a₁,w₁,hq,.pass (x:= .inLoop c) rfl (λ_ _=>.inl (by simp)) harr⟩
theorem yZ.wp{P:Program}{c:Code}{Q:Exit->Act->World->Prop}{a:Act}{w:World}(h:yZ P c Q a w):(Code.loop c).wp P Q a w:=by
 intro b k cs;obtain⟨e,a',w',hq,harr⟩:=h b k cs;exact⟨e,a',w',hq,.of_steps (.one step_loop) harr⟩
def postAt(P:Program):Code->Xf->(Exit->Act->World->Prop)->Exit->Act->World->Prop
 |.seq a b,0::r,Q=>postAt P a r (Exit.then (b.wp P Q) Q)
 |.seq _ b,1::r,Q=>postAt P b r Q
 |.cond _ x _,0::r,Q=>postAt P x r Q
 |.cond _ _ y,1::r,Q=>postAt P y r Q
 |.block id b,0::r,Q=>postAt P b r (Exit.inBlock id Q)
 |.loop b,0::r,Q=>postAt P b r (Exit.then (yZ P b Q) Q)
 |_,_,Q=>Q
def Ex.to:Ex->Exit
 |.normal=>.normal
 |.exit id=>.exit id
 |.ret=>.ret
section
variable{C:Cfg}{M:Node->Xe}{f:FuncId}{r:Out}{X:Ctx}{w0:World}{Z0 O0:Nat->Prop}{shv:Option (List Hd)}{sn:Nat}
def KOk(X:Ctx)(w0:World)(Z0 O0:Nat->Prop)(shv:Option (List Hd))(sn:Nat)(r:Out)(κ:Ex->St->Xe)(Q:Exit->Act->World->Prop):Prop:=
 ∀e s m a w,s.n=sn->κ e s=some r->Sim X w0 Z0 O0 shv m s a w->Q e.to a w
def jel(C:Cfg)(M:Node->Xe)(f:FuncId)(X:Ctx)(w0:World)(Z0 O0:Nat->Prop)(shv:Option (List Hd))(sn:Nat)(r:Out)(c:Code)(p:Xf)(Q:Exit->Act->World->Prop):Prop:=
 ∀q b s m a w,jfi c q=some (.loop b)->s.n=sn->again M f (p++q) (C.kp f (p++q)) s=some r->Sim X w0 Z0 O0 shv m s a w->yZ C.P b (postAt C.P c q Q) a w
theorem Yn(hD:JI C.P C.D)(hM:Qz X C M)(hS:StM X C M)(hm:C.P.follows .mixedOrders=true):∀(c:Code)(p:Xf)(s:St)(κ:Ex->St->Xe)(Q:Exit->Act->World->Prop)(m:zf)(a:Act)(w:World),
  jcT c=true->s.n=sn->evC C M f c p s κ=some r->Sim X w0 Z0 O0 shv m s a w->KOk X w0 Z0 O0 shv sn r κ Q->jel C M f X w0 Z0 O0 shv sn r c p Q->c.wp C.P Q a w
 |.skip,p,s,κ,Q,m,a,w,_,hn,h,hs,hκ,_=>wp_skip (hκ .normal s m a w hn h hs)
 |.region id ops draw,p,s,κ,Q,m,a,w,hx,hn,h,hs,hκ,_=>jyL (C:=C.at f) hD hM hS hm hx h hs λs' m' a' w' hn' hk hs'=>hκ .normal s' m' a' w' (hn'.trans hn) hk hs'
 |.seq x y,p,s,κ,Q,m,a,w,hx,hn,h,hs,hκ,hL=>by
  simp only[jcT,jI]at hx;refine wp_seq (Yn hD hM hS hm x (p++[0]) s _ _ m a w hx.1 hn h hs ?_ ?_)
  .intro e s' m' a' w' hn' hk hs';cases e with
   |normal=>
    refine Yn hD hM hS hm y (p++[1]) s' κ Q m' a' w' hx.2 hn' hk hs' hκ ?_;intro q b s m a w hq hn hag hs;rw[ze]at hag;exact hL (1::q) b s m a w hq hn hag hs
   |exit id=>exact hκ (.exit id) s' m' a' w' hn' hk hs'
   |ret=>exact hκ .ret s' m' a' w' hn' hk hs'
  .intro q b s m a w hq hn hag hs;rw[ze]at hag;exact hL (0::q) b s m a w hq hn hag hs
 |.cond c x y,p,s,κ,Q,m,a,w,hx,hn,h,hs,hκ,hL=>by
  simp only[jcT,jI]at hx;simp only[evC]at h;split at h
  .rename_i t ht;rw[yG]at h;obtain⟨b,h1,h2⟩:=h;have hc:a.eval c = .bool b:=by
    have:=hs.ev c;rw[ht]at this;unfold Ja at h1;split at h1
    .cases h1;simpa[relV,rel]using this
    .cases h1
   refine wp_cond hc ?_;cases b with
   |true=>
    refine Yn hD hM hS hm x (p++[0]) s κ Q m a w hx.1 hn h2 hs hκ ?_;intro q b s m a w hq hn hag hs;rw[ze]at hag;exact hL (0::q) b s m a w hq hn hag hs
   |false=>
    refine Yn hD hM hS hm y (p++[1]) s κ Q m a w hx.2 hn h2 hs hκ ?_;intro q b s m a w hq hn hag hs;rw[ze]at hag;exact hL (1::q) b s m a w hq hn hag hs
  .rename_i n neg ht;have hc:=hs.ev c;rw[ht]at hc;simp only[relV]at hc;obtain⟨b,hc,hb⟩:=hc;refine wp_cond hc ?_;have h:((b != neg)=true->evC C M f x (p++[0]) s κ=some r)/\((b != neg)=false->evC C M f y (p++[1]) s κ=some r):=by
    simp only[brn]at h;split at h
    .rw [jey]at h;exact⟨λ_=>h.1,λ_=>h.2⟩
    .rename_i hnz;have hb:=hb (by simpa[nz]using hnz);subst hb;cases neg
     .exact ⟨λh0=>(by cases h0),λ_=>by simpa using h⟩
     .exact ⟨λ_=>by simpa using h,λh0=>(by cases h0)⟩
   cases hbn:(b != neg)with
   |true=>
    have h:=h.1 hbn;refine Yn hD hM hS hm x (p++[0]) s κ Q m a w hx.1 hn h hs hκ ?_;intro q b s m a w hq hn hag hs;rw[ze]at hag;exact hL (0::q) b s m a w hq hn hag hs
   |false=>
    have h:=h.2 hbn;refine Yn hD hM hS hm y (p++[1]) s κ Q m a w hx.2 hn h hs hκ ?_;intro q b s m a w hq hn hag hs;rw[ze]at hag;exact hL (1::q) b s m a w hq hn hag hs
  .cases h
 |.block id b,p,s,κ,Q,m,a,w,hx,hn,h,hs,hκ,hL=>by
  refine wp_block (Yn hD hM hS hm b (p++[0]) s _ _ m a w hx hn h hs ?_ ?_)
  .intro e s' m' a' w' hn' hk hs';cases e with
   |normal=>exact hκ .normal s' m' a' w' hn' hk hs'
   |exit id'=>
    simp only[Ex.to,Exit.inBlock];dsimp only at hk;split at hk
    .rename_i hb;rw[jg (kh hb)];exact hκ .normal s' m' a' w' hn' hk hs'
    .rename_i hb;rw[jh (λe=>hb (by simp[e]))];exact hκ (.exit id') s' m' a' w' hn' hk hs'
   |ret=>exact hκ .ret s' m' a' w' hn' hk hs'
  .intro q b s m a w hq hn hag hs;rw[ze]at hag;exact hL (0::q) b s m a w hq hn hag hs
 |.loop b,p,s,κ,Q,m,a,w,hx,hn,h,hs,hκ,hL=>(hL [] b s m a w rfl hn (by rw[zm];exact h) hs).wp
 |.exit id,p,s,κ,Q,m,a,w,_,hn,h,hs,hκ,_=>wp_exit (hκ (.exit id) s m a w hn h hs)
 |.ret,p,s,κ,Q,m,a,w,_,hn,h,hs,hκ,_=>wp_ret (hκ .ret s m a w hn h hs)
 |.label _,p,s,κ,Q,m,a,w,_,hn,h,hs,hκ,_=>wp_label (hκ .normal s m a w hn h hs)
 |.rangeFunc _ _ _ _,_,_,_,_,_,_,_,_,_,h,_,_,_=>by cases h
 |.scope _,_,_,_,_,_,_,_,_,_,h,_,_,_=>by cases h
 |.goto _,_,_,_,_,_,_,_,_,_,h,_,_,_=>by cases h
 |.refuse _,_,_,_,_,_,_,_,_,_,h,_,_,_=>by cases h
theorem jC2(hD:JI C.P C.D)(hM:Qz X C M)(hS:StM X C M)(hm:C.P.follows .mixedOrders=true):∀(c:Code)(q p:Xf)(s:St)(κ:Ex->St->Xe)(Q:Exit->Act->World->Prop)(m:zf)(a:Act)(w:World)(b0:Code),
  jcT c=true->s.n=sn->evAt C M f c q p s κ=some r->jfi c q=some (.loop b0)->Sim X w0 Z0 O0 shv m s a w->KOk X w0 Z0 O0 shv sn r κ Q->jel C M f X w0 Z0 O0 shv sn r c p Q->yZ C.P b0 (postAt C.P c q Q) a w:=by
 intro c;induction c with
 |loop b ih=>
  intro q p s κ Q m a w b0 hx hn h hq hs hκ hL;have hκ':KOk X w0 Z0 O0 shv sn r (λe s'=>match e with|.normal=>again M f p (C.kp f p) s'|e=>κ e s') (Exit.then (yZ C.P b Q) Q):=by
   intro e s' m' a' w' hn' hk hs';cases e with
   |normal=>exact hL [] b s' m' a' w' rfl hn' (by rw[zm];exact hk) hs'
   |exit id=>exact hκ (.exit id) s' m' a' w' hn' hk hs'
   |ret=>exact hκ .ret s' m' a' w' hn' hk hs'
  have hL':jel C M f X w0 Z0 O0 shv sn r b (p++[0]) (Exit.then (yZ C.P b Q) Q):=by
   intro q b s m a w hq hn hag hs;rw[ze]at hag;exact hL (0::q) b s m a w hq hn hag hs
  rcases q with _|⟨_|n,q⟩
  .cases hq;exact yZ.mk (Yn hD hM hS hm b (p++[0]) s _ _ m a w hx hn h hs hκ' hL')
  .exact ih q (p++[0]) s _ _ m a w b0 hx hn h hq hs hκ' hL'
  .cases h
 |seq x y ihx ihy=>
  intro q p s κ Q m a w b0 hx hn h hq hs hκ hL;simp only[jcT,jI]at hx;have hL1:jel C M f X w0 Z0 O0 shv sn r y (p++[1]) Q:=by
   intro q b s m a w hq hn hag hs;rw[ze]at hag;exact hL (1::q) b s m a w hq hn hag hs
  rcases q with _|⟨_|_|n,q⟩
  .cases h
  .refine ihx q (p++[0]) s _ (Exit.then (y.wp C.P Q) Q) m a w b0 hx.1 hn h hq hs ?_ ?_
   .intro e s' m' a' w' hn' hk hs';cases e with
    |normal=>exact Yn hD hM hS hm y (p++[1]) s' κ Q m' a' w' hx.2 hn' hk hs' hκ hL1
    |exit id=>exact hκ (.exit id) s' m' a' w' hn' hk hs'
    |ret=>exact hκ .ret s' m' a' w' hn' hk hs'
   .intro q b s m a w hq hn hag hs;rw[ze]at hag;exact hL (0::q) b s m a w hq hn hag hs
  .exact ihy q (p++[1]) s κ Q m a w b0 hx.2 hn h hq hs hκ hL1
  .cases h
 |cond c x y ihx ihy=>
  intro q p s κ Q m a w b0 hx hn h hq hs hκ hL;simp only[jcT,jI]at hx;rcases q with _|⟨_|_|n,q⟩
  .cases h
  .refine ihx q (p++[0]) s κ Q m a w b0 hx.1 hn h hq hs hκ ?_;intro q b s m a w hq hn hag hs;rw[ze]at hag;exact hL (0::q) b s m a w hq hn hag hs
  .refine ihy q (p++[1]) s κ Q m a w b0 hx.2 hn h hq hs hκ ?_;intro q b s m a w hq hn hag hs;rw[ze]at hag;exact hL (1::q) b s m a w hq hn hag hs
  .cases h
 |block id b ih=>
  intro q p s κ Q m a w b0 hx hn h hq hs hκ hL;rcases q with _|⟨_|n,q⟩
  .cases h
  .refine ih q (p++[0]) s _ (Exit.inBlock id Q) m a w b0 hx hn h hq hs ?_ ?_
   .intro e s' m' a' w' hn' hk hs';cases e with
    |normal=>exact hκ .normal s' m' a' w' hn' hk hs'
    |exit id'=>
     simp only[Ex.to,Exit.inBlock];dsimp only at hk;split at hk
     .rename_i hb;rw[jg (kh hb)];exact hκ .normal s' m' a' w' hn' hk hs'
     .rename_i hb;rw[jh (λe=>hb (by simp[e]))];exact hκ (.exit id') s' m' a' w' hn' hk hs'
    |ret=>exact hκ .ret s' m' a' w' hn' hk hs'
   .intro q b s m a w hq hn hag hs;rw[ze]at hag;exact hL (0::q) b s m a w hq hn hag hs
  .cases h
 |_=>intro q p s κ Q m a w b0 hx hn h hq hs hκ hL;cases h
end
end
noncomputable section
section
variable{C:Cfg}{X:Ctx}{w0 w:World}{Z0 O0:Nat->Prop}{shv:Option (List Hd)}{m:zf}{s:St}{a:Act}{st:jA}
theorem jsT(hD:JI C.P C.D){t id off b c n:Nat}{v:V}{rds:Xm}(h:KP C t (.ptr id off) st = .val v rds)(hs:Sto X w O0 m st)(h1:m id=some (.blk b c n)) :
  ∃z,(loadVar t ⟨b,off,none⟩).run C.P w = .ok z w/\relV w (Ow O0 m st) m v z:=by
 unfold KP at h;split at h
 .cases h
 .rename_i i hi;dsimp only at h;split at h
  .rename_i cs hst;obtain⟨vs,g3,g4⟩:=jfV hs hst h1;split at h
   .rename_i hp;split at h
    .rename_i v' hv;cases h;obtain⟨u,g5,g6⟩:=KX g3 hv;have hlt:=(Zn.1 g5).1;have hk:i.kind.known=true:=by cases hi:i.kind<;>simp_all [TK.known,TK.plain]
     obtain⟨z,q1,q2⟩:=run_loadCells (P:=C.P) (hD _ _ hi) hk (g4.drop off) (by rw[(hD _ _ hi).one hp];simp;omega)
     rcases q2 with⟨_,q2⟩|⟨q2,_⟩
     .have e:z=u:=by rw[jcn,j6,g5]at q2;cases q2;rfl
      subst e;exact⟨z,by simpa using q1,g6⟩
     .rw [hp]at q2;cases q2
    .cases h
   .rename_i hp;split at h
    .rename_i hk;simp only[jI,jkv]at hk;cases h;have hvl:=zG g3;obtain⟨z,q1,q2⟩:=run_loadCells (P:=C.P) (hD _ _ hi) hk.1 (g4.drop off) (by simp;omega);rcases q2 with⟨q2,_⟩|⟨_,rfl⟩
     .exact absurd q2 hp
     .refine ⟨_,by simpa using q1,?_⟩;simp only[relV];exact⟨_,rfl,YH _ (YG _ g3)⟩
    .cases h
  .cases h
def jg2(tmps:Array Value):ResultVar->Sem Value
 |.tmp t=>pure (tmps.getD t undef)
 |.cell a t=>do loadVar t (<-asAddr (tmps.getD a undef))
theorem jvy(hD:JI C.P C.D)(hs:Sim X w0 Z0 O0 shv m s a w){x:ResultVar}{v:V}(h:jDK C s x=some v):∃z,(jg2 a.tmps x).run C.P w = .ok z w/\relV w (Ow O0 m s.st) m v z:=by
 cases x with
 |tmp t=>
  cases h;exact⟨a.tmps.getD t undef,by simp[jg2],hs.ev (.tmp t)⟩
 |cell b t=>
  simp only[jDK]at h;split at h
  .rename_i v' rds hl;cases h;have hb:=hs.ev (.tmp b);revert hl hb;generalize evF s.n s.fr (.tmp b)=p;intro hl hb;cases p with
   |ptr id off=>
    simp only[relV]at hb;obtain⟨bb,c,n,h1,h2⟩:=hb;obtain⟨z,h3,h4⟩:=jsT hD hl hs.sto h1;refine⟨z,?_,h4⟩;simp only[Act.eval]at h2;simp only[jg2,zQ,h2,asAddr,qJ,zE,h3]
   |d p=>
    unfold KP at hl;split at hl
    .cases hl
    .dsimp only at hl;split at hl
     .cases hl
     .split at hl<;>cases hl
   |rptr id i k j=>
    unfold KP at hl;split at hl
    .cases hl
    .dsimp only at hl;split at hl
     .split at hl
      .split at hl
       .cases hl
       .split at hl<;>cases hl
      .cases hl
     .cases hl
   |_=>
    unfold KP at hl;split at hl<;>cases hl
  .cases h
theorem jhQ(hD:JI C.P C.D)(hs:Sim X w0 Z0 O0 shv m s a w):∀(l:List ResultVar)(ts:List TypeId){vs:Xj},joH C s l ts=some vs-> ∃us,(l.mapM (jg2 a.tmps)).run C.P w = .ok us w/\jp w (Ow O0 m s.st) m vs us
 | [],ts,vs,h=>by
  simp only[joH]at h;cases h;exact⟨[],by simp,by simp[jp]⟩
 |x::l,[],vs,h=>by
  simp only[joH]at h;split at h
  .rename_i v vs' h1 h2;cases h;obtain⟨z,g1,g2⟩:=jvy hD hs h1;obtain⟨us,g3,g4⟩:=jhQ hD hs l [] h2;exact⟨z::us,by simp only[List.mapM_cons,zQ,g1,zE,g3,qJ],by simp only[jp];exact⟨z,us,rfl,g2,g4⟩⟩
  .cases h
 |x::l,t::ts,vs,h=>by
  simp only[joH]at h;split at h
  .rename_i v vs' h1 h2;cases h;obtain⟨z,g1,g2⟩:=jvy hD hs h1;obtain⟨us,g3,g4⟩:=jhQ hD hs l ts h2;exact⟨z::us,by simp only[List.mapM_cons,zQ,g1,zE,g3,qJ],by simp only[jp];exact⟨z,us,rfl,qD g2,g4⟩⟩
  .cases h
theorem jsW(hD:JI C.P C.D)(hs:Sim X w0 Z0 O0 shv m s a w){fn:Func}{out:Out}(h:jeF C fn s=some out):∃v,(results fn a.tmps).run C.P w = .ok v w/\rel w O0 out.1 v/\out.2=[]:=by
 unfold jeF at h;split at h
 .rename_i vs hvs;split at h
  .rename_i r rds hr;cases h;obtain⟨us,h1,h2⟩:=jhQ hD hs _ _ hvs;have hm:(fn.results.mapM (jg2 a.tmps)).run C.P w = .ok us.toArray w:=by
    rw[jBU];simp only[Sem.run_map,h1,zE]
   have hl:=zG h2;refine⟨if h:us.toArray.size=1 then us.toArray[0]else .tuple us.toArray,?_,?_,rfl⟩
   .have e:results fn a.tmps=(do let vs <-fn.results.mapM (jg2 a.tmps);pure (if h:vs.size=1 then vs[0]else .tuple vs)):=by
     unfold results;congr 1
    rw[e];simp only[zQ,hm];simp only[zE,qJ]
   .have hrel:relV w (Ow O0 m s.st) m (Yr vs) (if h:us.toArray.size=1 then us.toArray[0]else .tuple us.toArray):=by
     match vs,us,h2,hl with
     | [r],[v],h2,_=>
      simp only[jp,KH]at h2;obtain⟨u,t,⟨rfl,rfl⟩,h3,_⟩:=h2;simpa[Yr]using h3
     | [],us,h2,hl=>
      have hne:¬us.toArray.size=1:=by simp at hl⊢;simp[hl]
      rw[dif_neg hne];simp only[Yr,relV];exact⟨us,rfl,h2⟩
     |r1::r2::rs,us,h2,hl=>
      have hne:¬us.toArray.size=1:=by simp at hl⊢;omega
      rw[dif_neg hne];simp only[Yr,relV];exact⟨us,rfl,h2⟩
    have hg:=jhP hs.sto 60 (Yr vs) hr hrel;refine zu (MonoW.sub λb hb=>⟨Or.inl hb,?_⟩) _ _ hg;rintro⟨id,o,hd,h3,h4,h5,h7⟩;have h6:=jhU 60 (Yr vs) hr _ h3;simp only[yh]at h6;exact(hs.sto.blk id hd b (by rw[h6];exact h4) h5 h7).2 hb
  .cases h
 .cases h
structure Sane(C:Cfg):Prop where
 ty:JI C.P C.D
 mixed:C.P.follows .mixedOrders=true
 names:∀(f:FuncId)(fn:Func),C.P.funcs[f]? = some fn->(fn.name == "runtime.NumGoroutine")=false
 lex:∀(f:FuncId)(fn:Func)(c:Code),C.P.funcs[f]? = some fn->fn.body=some c->jcT c=true
theorem jdS{O:Nat->Prop} :∀{as:Xd}{us:Xh},jz w O as us->jp w O m (as.map V.d) us
 | [],us,h=>by simpa[jz,jp]using h
 |x::as,us,h=>by
  simp only[jz]at h;obtain⟨v,r,h1,h2,h3⟩:=h;simp only[kK,jp,relV];exact⟨v,r,h1,h2,jdS h3⟩
structure ExtM(c c':MAcc):Prop where
 as:∀(i:Nat)(a:A),c.as[i]? = some a->c'.as[i]? = some a
 ns:∀(i:Nat)(x:Option Nat),c.ns[i]? = some x->c'.ns[i]? = some x
 rds:∀x,x∈c.rds->x∈c'.rds
theorem ExtM.refl(c:MAcc):ExtM c c:=⟨λ_ _ h=>h,λ_ _ h=>h,λ_ h=>h⟩
theorem ExtM.trans{a b c:MAcc}(h:ExtM a b)(k:ExtM b c):ExtM a c:=⟨λi x e=>k.as i x (h.as i x e),λi x e=>k.ns i x (h.ns i x e),λx e=>k.rds x (h.rds x e)⟩
theorem juQ{α:Type}{l:List α}{x:α} :∀(i:Nat)(a:α),l[i]? = some a->(l++[x])[i]? = some a:=λi a h=>by
 rw[Kl (List.getElem?_eq_some_iff.mp h).1];exact h
theorem ExtM.ns1(c:MAcc)(x:Option Nat):ExtM c ⟨c.as,c.ns++[x],c.rds⟩:=⟨λ_ _ h=>h,juQ,λ_ h=>h⟩
theorem ExtM.as1(c:MAcc)(a:A)(r:Xm):ExtM c ⟨c.as++[a],c.ns,c.rds++r⟩:=⟨juQ,λ_ _ h=>h,λ_ h=>ZO _ h⟩
def nsM(m:zf):Option Nat->Option Hd
 |some id=>m id
 |none=>some .none
def owI(id:Nat):OW->Option Nat
 |.cons=>none
 |_=>some id
def rowIs(st:jA)(b:Bool)(k:Nat)(xs:Xc):Option Nat->Prop
 |none=>xs=[]/\Nat.blt (kdK k) 128=true
 |some id=>Z5 b k xs = .gone\/(st id=Z5 b k xs/\(Z5 b k xs).alive=true)
theorem Qd{st:jA}{b:Bool}{k:Nat}{xs:Xc}{id:Nat}{o:Abs.Obj}(h:rowIs st b k xs (some id))(e:o=Z5 b k xs)(ha:o.alive=true):st id=o/\(st id).alive=true:=by
 rcases h with h|⟨h1,h2⟩
 .rw [e,h]at ha;cases ha
 .rw [h1,e];exact⟨rfl,h2⟩
def jkQ(sh:Xf)(ns:List (Option Nat))(m:zf):zf:=λi=>
 if i<sh.length then(sh[i]?).bind m else match ns[i-sh.length]? with
  |some (some id)=>m id
  |some none=>some .none
  |none=>none
theorem joq{sh:Xf}{ns:List (Option Nat)}{m:zf}{q id:Nat}(h:sh[q]? = some id):jkQ sh ns m q=m id:=by
 have:=(List.getElem?_eq_some_iff.mp h).1;unfold jkQ;rw[jg this,h];rfl
theorem jop{sh:Xf}{ns:List (Option Nat)}{m:zf}{q:Nat}{x:Option Nat}(h:ns[q]? = some x):jkQ sh ns m (sh.length+q)=nsM m x:=by
 unfold jkQ;have e:sh.length+q-sh.length=q:=by omega
 rw[jh (by omega),e];rw[h];cases x<;>rfl
theorem jtA:∀(ds:Xd),((List.range ds.length).map λj=>V.d (jb ds j))=ds.map V.d:=λds=>by
 refine Qk λi=>?_;rw[qu,qu];by_cases h:i<ds.length
 .rw [jfy h,j7 h];simp[jb,h]
 .rw [qF (by simpa using h),qF (by omega)];rfl
def jB5(st:jA)(w:World)(m:zf)(O O':Nat->Prop)(F:MAcc):Prop:=∀(a:A)(r:Xm)(v:V)(u:Value),toA st 60 v=some (a,r)->(∀x∈r,x∈F.rds)->relV w O m v u->rel w O' a u
section
variable{O O':Nat->Prop}{F:MAcc}{sh:Xf}
mutual
theorem jlJ :
  ∀(s:Sh)(v:V){c c':MAcc},mt st sh s v c=some c'->ExtM c c'/\(jB5 st w m O O' F->ExtM c' F-> ∀u,relV w O m v u->relV w O' (jkQ sh F.ns m) (s.toV F.as) u)
 |.d i,v,c,c',h=>by
  simp only[mt]at h;split at h
  .rename_i a r ha;split at h
   .rename_i hb;cases h;have hb:=kh hb;refine⟨ExtM.as1 _ _ _,λhR hF u hu=>?_⟩;have:F.as[i]? = some a:=hF.as i a (by rw[hb];simp);simp only[Sh.toV,relV];rw[zP,this];exact hR a r v u ha (λx hx=>hF.rds x (by simp[hx])) hu
   .cases h
  .cases h
 |.row o,v,c,c',h=>by
  cases v<;>simp only[mt,reduceCtorEq]at h
  case row id=>
   split at h
   .rename_i q hq;split at h
    .rename_i hb;cases h;have hb:=kh hb;subst hb;refine⟨ExtM.refl _,λhR hF u hu=>?_⟩;simp only[relV,Sh.toV]at hu⊢;obtain⟨hd,h1,h2⟩:=hu;exact⟨hd,by rw[joq hq];exact h1,h2⟩
    .cases h
   .split at h
    .rename_i hb;cases h;have hb:=kh hb;refine⟨ExtM.ns1 _ _,λhR hF u hu=>?_⟩;simp only[relV,Sh.toV]at hu⊢;obtain⟨hd,h1,h2⟩:=hu;refine⟨hd,?_,h2⟩;rw[hb,jop (hF.ns c.ns.length (some id) (by simp))];exact h1
    .cases h
  case nil k=>
   split at h
   .rename_i hb;cases h;have hb:=kh hb;refine⟨ExtM.ns1 _ _,λhR hF u hu=>?_⟩;simp only[relV,Sh.toV]at hu⊢;refine⟨.none,?_,hu⟩;rw[hb,jop (hF.ns c.ns.length none (by simp))];rfl
   .cases h
 |.ptr o off,v,c,c',h=>by
  cases v<;>simp only[mt,reduceCtorEq]at h
  case ptr id off'=>
   split at h
   .rename_i q hq;split at h
    .rename_i hb;simp only[jI]at hb;cases h;have hb1:=kh hb.1;have hb2:=kh hb.2;subst hb1 hb2;refine⟨ExtM.refl _,λhR hF u hu=>?_⟩;simp only[relV,Sh.toV]at hu⊢;obtain⟨b,cc,n,h1,h2⟩:=hu;exact⟨b,cc,n,by rw[joq hq];exact h1,h2⟩
    .cases h
   .cases h
 |.agg l,v,c,c',h=>by
  cases v<;>simp only[mt,reduceCtorEq]at h
  case agg cs=>
   obtain⟨h1,h2⟩:=jjs l cs h;refine⟨h1,λhR hF u hu=>?_⟩;simp only[relV,Sh.toV]at hu⊢;obtain⟨vs,h3,h4⟩:=hu;exact⟨vs,h3,h2 hR hF vs h4⟩
  case d a=>
   rw[yG]at h;obtain⟨ds,ha,h⟩:=h;obtain⟨h1,h2⟩:=jjs l _ h;refine⟨h1,λhR hF u hu=>?_⟩;unfold jIg at ha;split at ha
   .split at ha
    .rename_i hl;cases ha;simp only[relV,rel,Sh.toV]at hu⊢;obtain⟨vs,h3,h4⟩:=hu;refine⟨vs,h3,h2 hR hF vs ?_⟩;rw[<-hl,jtA];exact jdS h4
    .cases ha
   .cases ha
 |.tup l,v,c,c',h=>by
  cases v<;>simp only[mt,reduceCtorEq]at h
  case tup cs=>
   obtain⟨h1,h2⟩:=jjs l cs h;refine⟨h1,λhR hF u hu=>?_⟩;simp only[relV,Sh.toV]at hu⊢;obtain⟨vs,h3,h4⟩:=hu;exact⟨vs,h3,h2 hR hF vs h4⟩
theorem jjs :
  ∀(l:List Sh)(vs:Xj){c c':MAcc},QM st sh l vs c=some c'->ExtM c c'/\(jB5 st w m O O' F->ExtM c' F-> ∀us,jp w O m vs us->jp w O' (jkQ sh F.ns m) (Sh.toVL F.as l) us)
 | [],[],c,c',h=>by
  simp only[QM]at h;cases h;exact⟨ExtM.refl _,λ_ _ us hu=>by simpa[jp,Sh.toVL]using hu⟩
 | [],_::_,_,_,h=>by simp only[QM,reduceCtorEq]at h
 |_::_,[],_,_,h=>by simp only[QM,reduceCtorEq]at h
 |s::l,v::vs,c,c',h=>by
  simp only[QM]at h;rw[yG]at h;obtain⟨c1,g1,g2⟩:=h;obtain⟨h1,h2⟩:=jlJ s v g1;obtain⟨h3,h4⟩:=jjs l vs g2;refine⟨h1.trans h3,λhR hF us hu=>?_⟩;simp only[jp,Sh.toVL]at hu⊢;obtain⟨x,r,e,q1,q2⟩:=hu;exact⟨x,r,e,h2 hR (h3.trans hF) x q1,h4 hR hF r q2⟩
end
theorem jtn :
  ∀(ws:List OW)(ids:Xf){c c':MAcc},mtB st sh ws ids c=some c'->ExtM c c'/\ws.length=ids.length/\(jB5 st w m O O' F->ExtM c' F-> ∀(i:Nat)(l:List Sh)(id:Nat),ws[i]? = some (.box l)->ids[i]? = some id-> ∃cs,st id = .box cs/\ ∀us,jp w O m cs us->jp w O' (jkQ sh F.ns m) (Sh.toVL F.as l) us)
 | [],[],c,c',h=>by
  simp only[mtB]at h;cases h;exact⟨ExtM.refl _,rfl,λ_ _ i l id h=>by simp at h⟩
 | [],_::_,_,_,h=>by simp only[mtB,reduceCtorEq]at h
 |x::_,[],_,_,h=>by cases x<;>simp only[mtB,reduceCtorEq]at h
 |x::ws,id::ids,c,c',h=>by
  have gen:mtB st sh ws ids c=some c'->(∀l,x≠ .box l)->ExtM c c'/\(x::ws).length=(id::ids).length/\(jB5 st w m O O' F->ExtM c' F-> ∀(i:Nat)(l:List Sh)(id':Nat),(x::ws)[i]? = some (.box l)->(id::ids)[i]? = some id'-> ∃cs,st id' = .box cs/\ ∀us,jp w O m cs us->jp w O' (jkQ sh F.ns m) (Sh.toVL F.as l) us):=by
   intro h hx;obtain⟨h1,h2,h3⟩:=jtn ws ids h;refine⟨h1,by simp[h2],λhR hF i l id' hi hid=>?_⟩;cases i with
   |zero=>simp at hi;exact absurd hi (hx l)
   |succ i=>exact h3 hR hF i l id' (by simpa using hi) (by simpa using hid)
  cases x with
  |cons=>exact gen (by simpa only[mtB]using h) λl h=>by cases h
  |io j=>exact gen (by simpa only[mtB]using h) λl h=>by cases h
  |box l=>
   simp only[mtB]at h;split at h
   .rename_i cs hst;rw[yG]at h;obtain⟨c1,g1,g2⟩:=h;obtain⟨h1,h2⟩:=jjs l cs g1;obtain⟨h3,h4,h5⟩:=jtn ws ids g2;refine⟨h1.trans h3,by simp[h4],λhR hF i l' id' hi hid=>?_⟩;cases i with
    |zero=>
     simp at hi hid;subst hi hid;exact⟨cs,hst,λus hus=>h2 hR (h3.trans hF) us hus⟩
    |succ i=>exact h5 hR hF i l' id' (by simpa using hi) (by simpa using hid)
   .cases h
end
theorem jhL{st:jA}{sh:Xf} :∀{ws:List OW}{ids:Xf}{c c':MAcc},mtB st sh ws ids c=some c'->ws.length=ids.length
 | [],[],c,c',_=>rfl
 | [],_::_,_,_,h=>by simp only[mtB,reduceCtorEq]at h
 |x::_,[],_,_,h=>by cases x<;>simp only[mtB,reduceCtorEq]at h
 |x::ws,id::ids,c,c',h=>by
  cases x with
  |cons=>simp only[mtB]at h;simp[jhL h]
  |io j=>simp only[mtB]at h;simp[jhL h]
  |box l=>
   simp only[mtB]at h;split at h
   .rw [yG]at h;obtain⟨c1,g1,g2⟩:=h;simp[jhL g2]
   .cases h
theorem jcz{st:jA}{sh:Xf} :∀{ws:List OW}{ids:Xf}{c c':MAcc}{i id:Nat}{l:List Sh},mtB st sh ws ids c=some c'->ws[i]? = some (.box l)->ids[i]? = some id-> ∃cs,st id = .box cs
 | [],_,_,_,_,_,_,_,h,_=>by simp at h
 |_::_,[],_,_,_,_,_,_,_,h=>by simp at h
 |x::ws,y::ids,c,c',i,id,l,h,hi,hid=>by
  cases i with
  |zero=>
   simp at hi hid;subst hi hid;simp only[mtB]at h;split at h
   .rename_i cs hst;exact⟨cs,hst⟩
   .cases h
  |succ i=>
   simp only[List.getElem?_cons_succ]at hi hid;cases x with
   |cons=>simp only[mtB]at h;exact jcz h hi hid
   |io j=>simp only[mtB]at h;exact jcz h hi hid
   |box l=>
    simp only[mtB]at h;split at h
    .rw [yG]at h;obtain⟨c1,g1,g2⟩:=h;exact jcz g2 hi hid
    .cases h
theorem jlG:∀{ws:List OW}{sh:Xf},ws.length=sh.length->(jeU ws sh).length=ws.length/\ ∀(i:Nat)(ow:OW)(id:Nat),ws[i]? = some ow->sh[i]? = some id->(jeU ws sh)[i]? = some (owI id ow)
 | [],[],_=>⟨rfl,λi ow id h=>by simp at h⟩
 | [],_::_,h=>by cases h
 |_::_,[],h=>by cases h
 |x::ws,y::sh,h=>by
  obtain⟨h1,h2⟩:=jlG (ws:=ws) (sh:=sh) (by simpa using h);have e:jeU (x::ws) (y::sh)=owI y x::jeU ws sh:=by cases x<;>rfl
  rw[e];refine⟨by simp[h1],λi ow id hi hid=>?_⟩;cases i with
  |zero=>simp at hi hid;subst hi hid;cases x<;>rfl
  |succ i=>exact h2 i ow id (by simpa using hi) (by simpa using hid)
theorem jiZ:∀{ws:List OW}{sh:Xf},ws.length=sh.length->(ioL ws sh).length=ioN ws
 | [],[],_=>rfl
 | [],_::_,h=>by cases h
 |_::_,[],h=>by cases h
 |x::ws,y::sh,h=>by
  have:=jiZ (ws:=ws) (sh:=sh) (by simpa using h);cases x<;>simp[ioL,ioN,this]
theorem jcv:∀{ws:List OW}{sh:Xf}{n:Nat},jy0 ws n=true-> ∀(i j id:Nat),ws[i]? = some (.io j)->sh[i]? = some id->n<=j/\(ioL ws sh)[j-n]? = some (some id)
 | [],_,_,_,i,j,id,h,_=>by simp at h
 |_::_,[],_,_,i,j,id,_,h=>by simp at h
 |x::ws,y::sh,n,ho,i,j,id,h,hid=>by
  cases x with
  |io j0=>
   simp only[jy0,jI]at ho;have e0:=kh ho.1;subst e0;cases i with
   |zero=>simp at h hid;subst h hid;exact⟨j4 _,by simp[ioL]⟩
   |succ i=>
    obtain⟨h1,h2⟩:=jcv ho.2 i j id (by simpa using h) (by simpa using hid);refine⟨by omega,?_⟩;rw[show j-j0=(j-(j0+1))+1 by omega];simpa[ioL]using h2
  |cons=>
   cases i with
   |zero=>simp at h
   |succ i=>exact jcv (ws:=ws) (sh:=sh) (n:=n) ho i j id (by simpa using h) (by simpa using hid)
  |box l=>
   cases i with
   |zero=>simp at h
   |succ i=>exact jcv (ws:=ws) (sh:=sh) (n:=n) ho i j id (by simpa using h) (by simpa using hid)
theorem jcC{a:A}{x:Unit}(h:pNo a=some x):K3 a=false:=by
 unfold pNo at h;split at h
 .rfl
 .cases h
theorem jBe{b:Bool}{k k':Nat}{xs:Xc}(h1:k'=kdK k)(h2:Nat.blt (kdK k) 64=true):Z5 b k xs = .gone\/Z5 b k xs = .row k' xs:=by
 rcases YI b k xs with h|⟨q,h,rfl⟩
 .exact Or.inl h
 .right;rw[h,h1];unfold ZI;rw[h2];rfl
theorem jdV{st:jA}{a:A} :∀{ks:Xf}{l:List (Option Nat)}{rs:List Xc},jaH st a ks l=some rs->rs.length=ks.length/\l.length=ks.length/\
  ∀(j:Nat)(x:Option Nat),l[j]? = some x-> ∃k xs,ks[j]? = some k/\rs[j]? = some xs/\rowIs st (K3 a) k xs x
 | [],[],rs,h=>by simp only[jaH]at h;cases h;exact⟨rfl,rfl,λj x h=>by simp at h⟩
 | [],_::_,_,h=>by simp only[jaH,reduceCtorEq]at h
 |_::_,[],_,h=>by simp only[jaH,reduceCtorEq]at h
 |k::ks,none::l,rs,h=>by
  simp only[jaH]at h;obtain⟨r,hr,h⟩:=yG.1 h;split at h
  .rename_i h128;cases h;obtain⟨h1,h2,h3⟩:=jdV hr;refine⟨by simp[h1],by simp[h2],λj x hx=>?_⟩;cases j with
   |zero=>simp at hx;subst hx;exact⟨k,[],rfl,rfl,rfl,h128⟩
   |succ j=>simpa using h3 j x (by simpa using hx)
  .cases h
 |k::ks,some id::l,rs,h=>by
  simp only[jaH]at h;obtain⟨r,hr,h⟩:=yG.1 h;obtain⟨h1,h2,h3⟩:=jdV hr;have fin:∀xs,rs=xs::r->rowIs st (K3 a) k xs (some id)->rs.length=(k::ks).length/\(some id::l).length=(k::ks).length/\
    ∀(j:Nat)(x:Option Nat),(some id::l)[j]? = some x-> ∃k_1 xs,(k::ks)[j]? = some k_1/\rs[j]? = some xs/\rowIs st (K3 a) k_1 xs x:=by
   rintro xs rfl hi;refine⟨by simp[h1],by simp[h2],λj x hx=>?_⟩;cases j with
   |zero=>simp at hx;subst hx;exact⟨k,xs,rfl,rfl,hi⟩
   |succ j=>simpa using h3 j x (by simpa using hx)
  split at h
  .rename_i k' xs hst;split at h
   .rename_i hb;cases h;rw[jI]at hb;refine fin xs rfl ?_;rcases jBe (b:=K3 a) (xs:=xs) (kh hb.1) hb.2 with g|g
    .exact Or.inl g
    .exact Or.inr ⟨by rw[g,hst],by rw[g];rfl⟩
   .cases h
  .rename_i k' xs hst;split at h
   .rename_i hb;cases h;simp only[jI,QY]at hb;have hb1:=kh hb.1;have hb2:=hb.2.1;have hb3:=hb.2.2;subst hb1;refine fin xs rfl (Or.inr ?_);have:Nat.blt (k'+64) 64=false:=by
     cases hh:Nat.blt (k'+64) 64 with
     |false=>rfl
     |true=>rw[Zo]at hh;omega
    have e:Z5 (K3 a) (k'+64) xs = .tre true k' xs:=by
     unfold Z5 ZI;rw[hb3,this,hb2];simp only[cond_true,cond_false];rw[show k'+64-64=k' by omega]
    exact⟨by rw[e,hst],by rw[e];rfl⟩
   .cases h
  .rename_i xs hst;split at h
   .rename_i hb;cases h;have hb1:=kh hb;subst hb1;exact fin xs rfl (Or.inr ⟨hst,rfl⟩)
   .cases h
  .split at h
   .rename_i hst hb;obtain⟨u,hu,h⟩:=yG.1 h;cases h;refine fin [] rfl (Or.inl ?_);rw[jcC hu];have:Nat.blt k 256=false:=by
     cases hh:Nat.blt k 256 with
     |false=>rfl
     |true=>rw[Zo]at hh;rw[jkv]at hb;omega
    unfold Z5;rw[this];rfl
   .cases h
  .cases h
theorem jvE:∀{ks:Xf}{rs:List Xc}{j k:Nat}{r:Xc},ks[j]? = some k->rs[j]? = some r->(slL ks rs)[j]? = some (.sl k r)
 | [],_,_,_,_,h,_=>by simp at h
 |_::_,[],_,_,_,_,h=>by simp at h
 |k0::ks,r0::rs,j,k,r,h1,h2=>by
  cases j with
  |zero=>simp at h1 h2;subst h1 h2;rfl
  |succ j=>simpa[slL]using jvE (ks:=ks) (rs:=rs) (by simpa using h1) (by simpa using h2)
theorem jeK{x:Nat} :∀{l:List (Option Nat)},jpY x l=true↔some x∈l
 | []=>by simp[jpY]
 |none::l=>by simp only[jpY,jK,reduceCtorEq,false_or];exact jeK
 |some y::l=>by
  simp only[jpY,Bool.or_eq_true,jK,zI];rw[jeK];exact or_congr ⟨kh,λe=>by simp[e]⟩ Iff.rfl
theorem jdM:∀{l:List (Option Nat)},jjw l=true-> ∀(i j x:Nat),l[i]? = some (some x)->l[j]? = some (some x)->i=j
 | [],_,i,j,x,h,_=>by simp at h
 |none::l,hn,i,j,x,h1,h2=>by
  cases i with
  |zero=>simp at h1
  |succ i=>
   cases j with
   |zero=>simp at h2
   |succ j=>congr 1;exact jdM (l:=l) hn i j x (by simpa using h1) (by simpa using h2)
 |some y::l,hn,i,j,x,h1,h2=>by
  simp only[jjw,jI,QY]at hn;have hy:∀q,l[q]?≠some (some y):=λq hq=>by
   have:=jeK.mpr (Jx hq);rw[hn.1]at this;cases this
  cases i with
  |zero=>
   simp at h1;subst h1;cases j with
   |zero=>rfl
   |succ j=>exact absurd (by simpa using h2) (hy j)
  |succ i=>
   cases j with
   |zero=>simp at h2;subst h2;exact absurd (by simpa using h1) (hy i)
   |succ j=>congr 1;exact jdM hn.2 i j x (by simpa using h1) (by simpa using h2)
theorem jyF:∀{a b:Xf},eqP a b=true->a=b
 | [],[],_=>rfl
 | [],_::_,h=>by cases h
 |_::_,[],h=>by cases h
 |x::a,y::b,h=>by
  simp only[eqP,jI]at h;rw[kh h.1,jyF h.2]
theorem jvK:∀{k n q:Nat},q<k->(ups n k)[q]? = some (n+q)
 |0,_,_,h=>by omega
 |k+1,n,0,_=>rfl
 |k+1,n,q+1,h=>by
  have:=jvK (k:=k) (n:=n+1) (q:=q) (by omega);simp only[ups,List.getElem?_cons_succ,this];congr 1;omega
theorem jqN{o:Abs.Obj}{k:Nat}{xs:Xc}(e:o=ZI k xs):∃k xs,o = .row k xs\/o = .fro k xs\/(∃f,o = .tre f k xs)\/o = .map xs:=by
 rcases jgU k xs with h|h|h
 .exact ⟨_,_,Or.inl (e.trans h)⟩
 .exact ⟨_,_,Or.inr (Or.inr (Or.inl ⟨_,e.trans h⟩))⟩
 .exact ⟨0,_,Or.inr (Or.inr (Or.inr (e.trans h)))⟩
theorem jC3{X:Ctx}{w:World}{O0:Nat->Prop}{m:zf}{st:jA}{sg:SigA}{sh:Xf}{vs:Xj}{out:Out}(hs:Sto X w O0 m st)(hshm:∀id∈sh,∃h,m id=some h)(h:jFT st sg sh vs=some out){u:Value}(hu:relV w (Ow O0 m st) m (Yr vs) u) :
  ∃as rs m',HolesOk sg out as rs/\(∀i id,sh[i]? = some id->m' i=m id)/\Sto X w O0 m' (kD (sg.objs as rs))/\(∀b,Mz m' (kD (sg.objs as rs)) b->Mz m st b)/\relV w (Ow O0 m' (kD (sg.objs as rs))) m' (sg.r.toV as) u:=by
 unfold jFT at h;rw[yG]at h;obtain⟨c1,hB,h⟩:=h;rw[yG]at h;obtain⟨F,hr,h⟩:=h;split at h;rotate_left
 .cases h
 rename_i hc;simp only[jI]at hc;obtain⟨⟨⟨⟨⟨hc1,hc2⟩,hc3⟩,hc4⟩,hc5⟩,hc6⟩:=hc;have hc1:=kh hc1;have hc2:=kh hc2;have hc4:=jyF hc4;obtain⟨rs,hrs,h⟩:=yG.1 h;cases h;generalize hlive:jeU sg.ws sh++F.ns=live at hc5 hc6;generalize hm':jkQ sh F.ns m=m';generalize hst':kD (sg.objs F.as rs)=st';have hwl:=jhL hB;obtain⟨la,hget⟩:=jlG hwl;obtain⟨hrl,hll,hrow⟩:=jdV hrs;have hiol:=jiZ hwl;have hN:∀q,q<sg.nw.length->sg.nw[q]? = some (ioN sg.ws+q):=λq hq=>by rw[hc4];exact jvK hq
 have lv1:∀i ow id,sg.ws[i]? = some ow->sh[i]? = some id->live[i]? = some (owI id ow):=λi ow id h1 h2=>by
  rw[<-hlive,Kl (by rw[la];exact(List.getElem?_eq_some_iff.mp h1).1)]
  exact hget i ow id h1 h2
 have lv2:∀q x,F.ns[q]? = some x->live[sh.length+q]? = some x:=λq x h=>by
  rw[<-hlive,JX (by rw[la,hwl];omega),la,hwl,show sh.length+q-sh.length=q by omega]
  exact h
 generalize hbb:K3 (jpB sg.ks F.as)=bb at *;have hobe:sg.objs F.as rs=sg.objsB bb F.as rs:=by rw[<-hbb];rfl
 have ob1:∀i ow,sg.ws[i]? = some ow->st' i=ow.toO bb sg.ks F.as rs:=λi ow h=>by
  rw[<-hst'];refine Ki ?_;rw[hobe,SigA.objsB,Kl (by simpa using(List.getElem?_eq_some_iff.mp h).1),qu,h];rfl
 have ob2:∀q,q<sg.nw.length->st' (sh.length+q)=jgl bb sg.ks rs (ioN sg.ws+q):=λq hq=>by
  rw[<-hst'];refine Ki ?_;rw[hobe,SigA.objsB,JX (by simp;omega),List.length_map,hwl,show sh.length+q-sh.length=q by omega,qu,hN q hq];rfl
 have ob3:∀i,sh.length+sg.nw.length<=i->st' i = .dead:=λi hi=>by
  rw[<-hst'];exact QS (by simp[SigA.objs,SigA.objsB];omega)
 have m1:∀i id,sh[i]? = some id->m' i=m id:=λi id h=>by rw[<-hm'];exact joq h
 have m2:∀q x,F.ns[q]? = some x->m' (sh.length+q)=nsM m x:=λq x h=>by rw[<-hm'];exact jop h
 have m3:∀i,sh.length+sg.nw.length<=i->m' i=none:=λi hi=>by
  rw[<-hm'];unfold jkQ;rw[jh (by omega),qF (by omega)]
 have key:(∀b,Ow O0 m' st' b->Ow O0 m st b)->(∀b,Mz m' st' b-> ∃(i id:Nat)(hd:Hd),(live[i]?).join=some id/\(st id).alive=true/\m id=some hd/\b∈hd.blocks)->
   ∀(a:A)(r:Xm)(v:V)(u:Value),toA st 60 v=some (a,r)->(∀x∈r,x∈F.rds)->relV w (Ow O0 m st) m v u->rel w (Ow O0 m' st') a u:=by
  intro hsub hmi a r v u hto hsubr hrel;refine zu (MonoW.sub λb hb=>⟨hsub b hb,?_⟩) _ _ (jhP hs 60 v hto hrel);rintro⟨id,o,hd,hmem,hal,hm,hi⟩;have hst:st id=o:=jhU 60 v hto _ hmem;rcases hb with hb|hb
  .exact (hs.blk id hd b (by rw[hst];exact hal) hm hi).2 hb
  .obtain ⟨i,id',hd',h1,h2,h3,hi'⟩:=hmi b hb;have:=hs.inj id id' hd hd' b (by rw[hst];exact hal) h2 hm h3 hi hi';subst this;have hin:some id∈live:=by
    cases hl:live[i]? with
    |none=>rw[hl]at h1;cases h1
    |some x=>rw[hl]at h1;simp only[Option.join_some]at h1;subst h1;exact Jx hl
   have hk:=List.all_eq_true.mp hc6 _ (hsubr _ hmem);simp only[hal,Bool.not_true,Bool.false_or,QY]at hk;rw[jeK.mpr hin]at hk;cases hk
 have hext:=(jlJ (w:=w) (m:=m) (O:=Ow O0 m st) (O':=Ow O0 m' st') (F:=F) sg.r (Yr vs) hr).1;have hbox:=(jtn (w:=w) (m:=m) (O:=Ow O0 m st) (O':=Ow O0 m' st') (F:=F) sg.ws sh hB).2.2;rw[hm']at hbox;obtain⟨hsto,hmz⟩:=Sto.pick (X:=X) (w:=w) (O0':=O0) (m':=m') (st':=st') hs hs.jn (λb hb=>Or.inl hb) (λi=>(live[i]?).join) (λi=>by
   by_cases hi:i<sh.length
   .have hg:sh[i]? = some sh[i]:=j7 hi;have hi':i<sg.ws.length:=by omega
    have hw:sg.ws[i]? = some sg.ws[i]:=j7 hi';have hl:=lv1 i _ _ hw hg;have ho:=ob1 i _ hw;have hm:=m1 i _ hg;generalize sg.ws[i]=ow at hw hl ho;cases ow with
    |cons=>exact Or.inr (Or.inl ho)
    |io j=>
     obtain⟨_,g1⟩:=jcv hc3 i j _ hw hg;have g1:(ioL sg.ws sh++F.ns)[j]? = some (some sh[i]):=by
      rw[Kl (by have:=(List.getElem?_eq_some_iff.mp g1).1;simpa using this)]
      simpa using g1
     obtain⟨k,xs,g2,g3,g4⟩:=hrow j _ g1;have e:st' i=Z5 bb k xs:=by rw[ho];simp[OW.toO,jgl,zP,g2,g3]
     rcases g4 with g4|⟨g4,_⟩
     .exact Or.inr (Or.inl (e.trans g4))
     .rcases YI bb k xs with g5|⟨k',g5,_⟩
      .exact Or.inr (Or.inl (e.trans g5))
      .exact Or.inr (Or.inr (Or.inr ⟨sh[i],by rw[hl];rfl,hm,Or.inl ⟨jqN (e.trans g5),by rw[e];exact g4⟩⟩))
    |box l=>
     refine Or.inr (Or.inr (Or.inr ⟨sh[i],by rw[hl];rfl,hm,Or.inr ?_⟩))
     have hst:∃cs,st sh[i] = .box cs:=jcz hB hw hg;obtain⟨cs,hcs⟩:=hst;refine⟨cs,_,hcs,ho,λhsub hmi us hus=>?_⟩;obtain⟨cs',h1,h2⟩:=hbox (key hsub hmi) hext i l _ hw hg;rw[hcs]at h1;cases h1;exact h2 us hus
   .by_cases hi2:i<sh.length+sg.nw.length
    .obtain ⟨q,rfl⟩:∃q,i=sh.length+q:=⟨i-sh.length,by omega⟩;have hq:q<sg.nw.length:=by omega
     have hns:F.ns[q]? = some F.ns[q]:=j7 (by omega);have hl:=lv2 q _ hns;have ho:=ob2 q hq;have hm:=m2 q _ hns;generalize F.ns[q]=x at hns hl hm;have g1:(ioL sg.ws sh++F.ns)[ioN sg.ws+q]? = some x:=by
      rw[JX (by omega),hiol,show ioN sg.ws+q-ioN sg.ws=q by omega];exact hns
     obtain⟨k,xs,g2,g3,g4⟩:=hrow _ _ g1;have e:st' (sh.length+q)=Z5 bb k xs:=by rw[ho];simp[jgl,zP,g2,g3]
     cases x with
     |none=>
      obtain⟨g4,g5⟩:xs=[]/\Nat.blt (kdK k) 128=true:=g4;subst g4;rcases YI bb k []with g6|⟨k',g6,g7⟩
      .exact Or.inr (Or.inl (e.trans g6))
      .refine Or.inr (Or.inr (Or.inl ⟨?_,hm⟩));rw[e,g6,g7];have g8:Nat.beq (kdK k) 128=false:=by
        cases h:Nat.beq (kdK k) 128 with
        |false=>rfl
        |true=>rw[Zo,kh h]at g5;omega
       unfold ZI;rw[g8];cases Nat.blt (kdK k) 64
       .exact ⟨_,Or.inr rfl⟩
       .exact ⟨_,Or.inl rfl⟩
     |some id=>
      rcases g4 with g4|⟨g4,_⟩
      .exact Or.inr (Or.inl (e.trans g4))
      .rcases YI bb k xs with g5|⟨k',g5,_⟩
       .exact Or.inr (Or.inl (e.trans g5))
       .exact Or.inr (Or.inr (Or.inr ⟨id,by rw[hl];rfl,hm,Or.inl ⟨jqN (e.trans g5),by rw[e];exact g4⟩⟩))
    .exact Or.inl ⟨ob3 i (by omega),m3 i (by omega)⟩)
  (λi i' id h1 h2 _ _=>by
   have g:∀i:Nat,(live[i]?).join=some id->live[i]? = some (some id):=λi h=>by
    cases hl:live[i]? with
    |none=>rw[hl]at h;cases h
    |some x=>rw[hl]at h;simp only[Option.join_some]at h;rw[h]
   exact jdM hc5 i i' id (g i h1) (g i' h2))
  (λi id hd b h1 h2 h3 hi0 hb=>by
   have hl:live[i]? = some (some id):=by
    cases hl:live[i]? with
    |none=>rw[hl]at h1;cases h1
    |some x=>rw[hl]at h1;simp only[Option.join_some]at h1;rw[h1]
   have hal:(st id).alive=true:=by
    by_cases hi:i<sh.length
    .have hg:sh[i]? = some sh[i]:=j7 hi;have hw:sg.ws[i]? = some sg.ws[i]:=j7 (by omega);have hl':=lv1 i _ _ hw hg;rw[hl]at hl';generalize sg.ws[i]=ow at hw hl';cases ow with
     |cons=>cases hl'
     |io j=>
      simp only[owI,zI]at hl';subst hl';obtain⟨_,g1⟩:=jcv hc3 i j _ hw hg;have g1:(ioL sg.ws sh++F.ns)[j]? = some (some sh[i]):=by
       rw[Kl (by have:=(List.getElem?_eq_some_iff.mp g1).1;simpa using this)]
       simpa using g1
      obtain⟨k,xs,g2,g3,g4⟩:=hrow j _ g1;have e:st' i=Z5 bb k xs:=by rw[ob1 i _ hw];simp[OW.toO,jgl,zP,g2,g3]
      exact(Qd g4 e h2).2
     |box l=>
      simp only[owI,zI]at hl';subst hl';obtain⟨cs,hcs⟩:=jcz hB hw hg;rw[hcs];rfl
    .have hlt:=(List.getElem?_eq_some_iff.mp hl).1;rw[<-hlive,zv,la,hwl]at hlt;obtain⟨q,rfl⟩:∃q,i=sh.length+q:=⟨i-sh.length,by omega⟩;have hns:F.ns[q]? = some F.ns[q]:=j7 (by omega);have hl':=lv2 q _ hns;rw[hl]at hl';have hl':=(jaZ hl').symm;rw[hl']at hns;have g1:(ioL sg.ws sh++F.ns)[ioN sg.ws+q]? = some (some id):=by
      rw[JX (by omega),hiol,show ioN sg.ws+q-ioN sg.ws=q by omega];exact hns
     obtain⟨k,xs,g2,g3,g4⟩:=hrow _ _ g1;have e:st' (sh.length+q)=Z5 bb k xs:=by rw[ob2 q (by omega)];simp[jgl,zP,g2,g3]
     exact(Qd g4 e h2).2
   exact(hs.blk id hd b hal h3 hi0).2 hb)
 refine⟨F.as,rs,m',⟨hc1,λi a h=>?_,hrl,λj r k h1 h2=>?_⟩,m1,by rw[hst'];exact hsto,by rw[hst'];exact hmz,?_⟩
 .simp only[hD];rw[Kl (List.getElem?_eq_some_iff.mp h).1];exact h
 .simp only[hR];rw[JX (by omega),show sg.nd+j-F.as.length=j by omega,jvE h2 h1];simp
 .rw [hst'];have hsub:∀b,Ow O0 m' st' b->Ow O0 m st b:=λb hb=>hb.imp id (hmz b);have hmi:∀b,Mz m' st' b-> ∃(i id:Nat)(hd:Hd),(live[i]?).join=some id/\(st id).alive=true/\m id=some hd/\b∈hd.blocks:=by
   rintro b ⟨i,hd,ha,hmm,hbi⟩;by_cases hi:i<sh.length
   .have hg:sh[i]? = some sh[i]:=j7 hi;have hw:sg.ws[i]? = some sg.ws[i]:=j7 (by omega);have hl:=lv1 i _ _ hw hg;have ho:=ob1 i _ hw;have hm:=m1 i _ hg;rw[hm]at hmm;generalize sg.ws[i]=ow at hw hl ho;cases ow with
    |cons=>rw[ho]at ha;cases ha
    |io j=>
     obtain⟨_,g1⟩:=jcv hc3 i j _ hw hg;have g1:(ioL sg.ws sh++F.ns)[j]? = some (some sh[i]):=by
      rw[Kl (by have:=(List.getElem?_eq_some_iff.mp g1).1;simpa using this)]
      simpa using g1
     obtain⟨k,xs,g2,g3,g4⟩:=hrow j _ g1;have e:st' i=Z5 bb k xs:=by rw[ho];simp[OW.toO,jgl,zP,g2,g3]
     exact⟨i,sh[i],hd,by rw[hl];rfl,(Qd g4 e ha).2,hmm,hbi⟩
    |box l=>
     obtain⟨cs,hcs⟩:=jcz hB hw hg;exact⟨i,sh[i],hd,by rw[hl];rfl,by rw[hcs];rfl,hmm,hbi⟩
   .by_cases hi2:i<sh.length+sg.nw.length
    .obtain ⟨q,rfl⟩:∃q,i=sh.length+q:=⟨i-sh.length,by omega⟩;have hns:F.ns[q]? = some F.ns[q]:=j7 (by omega);have hl:=lv2 q _ hns;have hm:=m2 q _ hns;rw[hm]at hmm;generalize F.ns[q]=x at hns hl hmm;cases x with
     |none=>cases hmm;simp[Hd.blocks]at hbi
     |some id=>
      have g1:(ioL sg.ws sh++F.ns)[ioN sg.ws+q]? = some (some id):=by
       rw[JX (by omega),hiol,show ioN sg.ws+q-ioN sg.ws=q by omega];exact hns
      obtain⟨k,xs,g2,g3,g4⟩:=hrow _ _ g1;have e:st' (sh.length+q)=Z5 bb k xs:=by rw[ob2 q (by omega)];simp[jgl,zP,g2,g3]
      exact⟨sh.length+q,id,hd,by rw[hl];rfl,(Qd g4 e ha).2,hmm,hbi⟩
    .rw [m3 i (by omega)]at hmm;cases hmm
  have:=(jlJ (w:=w) (m:=m) (O:=Ow O0 m st) (O':=Ow O0 m' st') (F:=F) sg.r (Yr vs) hr).2 (key hsub hmi) (ExtM.refl _) u hu;rw[hm']at this;exact this
def Fin(C:Cfg)(X:Ctx)(f:FuncId)(w0:World)(Z0 O0:Nat->Prop)(shv:Option (List Hd))(fn:Func)(r:Out):Exit->Act->World->Prop:=
 λe a w=>∃ex s m,e=Ex.to ex/\s.n=fn.ntmps/\QG C f fn ex s=some r/\Sim X w0 Z0 O0 shv m s a w
theorem jyB{f:FuncId}{fn:Func}{ex:Ex}{out:Out}(h:QG C f fn ex s=some out):jyC C f fn s=some out/\(ex = .normal\/ex = .ret):=by
 cases ex with
 |normal=>exact⟨h,Or.inl rfl⟩
 |ret=>exact⟨h,Or.inr rfl⟩
 |exit id=>cases h
theorem jtJ(hD:JI C.P C.D)(hs:Sim X w0 Z0 O0 shv m s a w){fn:Func}{vs:Xj}(hvs:joH C s fn.results.toList fn.resultTypes.toList=some vs) :
  ∃v,(results fn a.tmps).run C.P w = .ok v w/\relV w (Ow O0 m s.st) m (Yr vs) v:=by
 obtain⟨us,h1,h2⟩:=jhQ hD hs _ _ hvs;have hm:(fn.results.mapM (jg2 a.tmps)).run C.P w = .ok us.toArray w:=by
  rw[jBU];simp only[Sem.run_map,h1,zE]
 have hl:=zG h2;refine⟨if h:us.toArray.size=1 then us.toArray[0]else .tuple us.toArray,?_,?_⟩
 .have e:results fn a.tmps=(do let vs <-fn.results.mapM (jg2 a.tmps);pure (if h:vs.size=1 then vs[0]else .tuple vs)):=by
   unfold results;congr 1
  rw[e];simp only[zQ,hm];simp only[zE,qJ]
 .match vs,us,h2,hl with
  | [r],[v],h2,_=>
   simp only[jp,KH]at h2;obtain⟨u,t,⟨rfl,rfl⟩,h3,_⟩:=h2;simpa[Yr]using h3
  | [],us,h2,hl=>
   have hne:¬us.toArray.size=1:=by simp at hl⊢;simp[hl]
   rw[dif_neg hne];simp only[Yr,relV];exact⟨us,rfl,h2⟩
  |r1::r2::rs,us,h2,hl=>
   have hne:¬us.toArray.size=1:=by simp at hl⊢;omega
   rw[dif_neg hne];simp only[Yr,relV];exact⟨us,rfl,h2⟩
theorem jg0{O:Nat->Prop}{args:Xj}{vs:Xh}{n:Nat}(hrel:jp w O m args vs)(hle:args.length<=n){i:Nat}{v:Value}(hv:(vs.toArray++Array.replicate (n-vs.toArray.size) undef)[i]? = some v):relV w O m (args.getD i .top) v:=by
 cases hc:args[i]? with
 |none=>rw[zP,hc];simp[relV]
 |some x=>
  obtain⟨u,k1,k2⟩:=KX hrel hc;have hlt:i<vs.length:=(List.getElem?_eq_some_iff.mp k1).1;have:v=u:=by
   rw[jg5 (by simpa using hlt)]at hv;rw[List.getElem?_toArray,k1]at hv;cases hv;rfl
  subst this;rw[zP,hc];exact k2
theorem jGA{X:Ctx}{w:World}{O0:Nat->Prop}{m:zf}{st:jA}(hs:Sto X w O0 m st){id nid k n:Nat}{xs:Xc}(hid:st id = .row k xs)(hf:st nid = .dead){hd hd':Hd}(hm:m id=some hd)
  (hc:(hd' = .none/\xs.take n=[])\/(∃b c l,hd = .blk b c l/\hd' = .blk b c (xs.take n).length)) :
  Chg w m st w (upd m nid (some hd')) (upd (upd st id .gone) nid (.row k (xs.take n)))/\Sto X w O0 (upd m nid (some hd')) (upd (upd st id .gone) nid (.row k (xs.take n))):=by
 have hne:id≠nid:=λe=>by subst e;rw[hid]at hf;cases hf
 refine jAw hs hne (by rw[hid];rfl) hf hm ?_ (λh=>by cases h) λhmono=>⟨hd',rfl,?_⟩
 .intro b e;rcases hc with⟨rfl,_⟩|⟨b',c',l',rfl,rfl⟩
  .simp [Hd.blocks]at e
  .rw [jev e];exact JC
 .rcases hc with⟨rfl,h0⟩|⟨b,c,l,rfl,rfl⟩
  .exact h0
  .have ho:=hs.obj id;rw[hid]at ho;obtain⟨hd0,q1,q2⟩:=ho;rw[hm]at q1;cases q1;obtain⟨q0,q1,q2,q3,cc,T,q4,q5,q6,q7⟩:=q2;have hle:(xs.take n).length<=xs.length:=by simp;omega
   have htk:(cc.toList.take (xs.length*k)).take ((xs.take n).length*k)=cc.toList.take ((xs.take n).length*k):=by
    rw[List.take_take,Nat.min_eq_left (ZQ k hle)]
   have hfl:(xs.take n).flatten=xs.flatten.take ((xs.take n).length*k):=by
    rw[<-ZU xs _ q3];congr 1;simp
   refine⟨rfl,by omega,q2,λy hy=>q3 y (jmH hy),cc,T,q4,q5,?_,?_⟩
   .rw [<-htk];exact q6.take _
   .rw [<-htk,hfl];exact Kg _ (kT hmono _ _ q7)
theorem jtT(t:Nat)(hs:Sim X w0 Z0 O0 shv m s a w):(jff t s).sh=s.sh/\(jff t s).n=s.n/\ ∃m',Sim X w0 Z0 O0 shv m' (jff t s) a w:=by
 unfold jff;split;rotate_left
 .exact ⟨rfl,rfl,m,hs⟩
 rename_i id k off n hfr;split;rotate_left
 .exact ⟨rfl,rfl,m,hs⟩
 rename_i k' xs hst;cases hb:Nat.beq k' k && (Nat.beq off 0 && ji1 (s.st s.nx))with
 |false=>exact⟨rfl,rfl,m,hs⟩
 |true=>
  simp only[jI]at hb;obtain⟨hk,h0,hdd⟩:=hb;have hk:=kh hk;have h0:=kh h0;subst hk;subst h0;have hf:s.st s.nx = .dead:=by
   cases hh:s.st s.nx<;>rw[hh]at hdd<;>first|rfl|cases hdd
  have ho:=hs.sto.obj id;rw[hst]at ho;obtain⟨hd,q1,q2⟩:=ho;obtain⟨hd',hc,hv⟩:∃hd',((hd' = .none/\xs.take n=[])\/(∃b c l,hd = .blk b c l/\hd' = .blk b c (xs.take n).length))/\ ∀v,JN k' 0 n hd v->hdr hd' v:=by
   cases hd with
   |tre=>exact q2.elim
   |mp=>exact q2.elim
   |none=>
    simp only[rowOk]at q2;subst q2;exact⟨.none,Or.inl ⟨rfl,by simp⟩,λv hv=>hv.2.2⟩
   |blk b c l=>
    obtain⟨rfl,h1,_⟩:=q2;by_cases hc0:c=0
    .have:xs=[]:=jfw (by omega);subst this;refine⟨.none,Or.inl ⟨rfl,by simp⟩,λv hv=>?_⟩;simp only[JN]at hv;obtain⟨h2,q,h3,_⟩:=hv;have hn:n=0:=by simp at h2;omega
     subst hn;rw[hc0]at h3;exact⟨_,h3⟩
    .refine ⟨_,Or.inr ⟨b,c,_,rfl,rfl⟩,λv hv=>?_⟩;simp only[JN]at hv;obtain⟨h2,q,h3,h4⟩:=hv;have:=h4 (by omega);subst this;simp only[hdr];rw[h3];have:(xs.take n).length=n:=by simp;omega
     rw[this];simp
  obtain⟨k1,k2⟩:=jGA hs.sto hst hf q1 hc;have hs2:=hs.chg k1 k2;refine⟨rfl,rfl,_,hs2.defers,hs2.tsz,hs2.os,hs2.tape,hs2.output,hs2.size,hs2.keep,hs2.new,hs2.sto,λi v hi=>?_,hs2.sh,hs2.shf⟩;show relV _ _ _ (upd s.fr t (.row s.nx) i) v;by_cases e:i=t
  .subst e;rw[jC];have:=hs.fr i v hi;rw[hfr]at this;simp only[relV]at this⊢;obtain⟨h,e1,e2⟩:=this;rw[q1]at e1;cases e1;exact⟨hd',jC _ _ _,hv v e2⟩
  .rw [upd_ne _ _ e];exact hs2.fr i v hi
theorem jdw(o:Abs.Obj):(jwa o).alive=o.alive:=by cases o<;>rfl
theorem jC4(hs:Sim X w0 Z0 O0 shv m s a w):Sim X w0 Z0 O0 shv (λi=>(m i).map Hd.freeze) (jHH s) a w:=by
 have hmle:MLe m (λi=>(m i).map Hd.freeze):=λi h e=>⟨h.freeze,by simp[e],h.le_freeze⟩;have hmz:∀b,Mz (λi=>(m i).map Hd.freeze) (λi=>jwa (s.st i)) b->Mz m s.st b:=by
  rintro b ⟨i,hd,h1,h2,h3⟩;rw[jdw]at h1;obtain⟨h,e,rfl⟩:=Jh.1 h2;exact⟨i,h,h1,e,by rwa[Hd.freeze_blocks]at h3⟩
 have hchg:Chg w m s.st w (λi=>(m i).map Hd.freeze) (λi=>jwa (s.st i)):=
  ⟨rfl,rfl,Quiet.refl _,j4 _,λ_ _ _=>rfl,hmle,λb hb=>Or.inl (hmz b hb)⟩
 refine hs.chg hchg (hs.sto.chg hchg ?_ ?_ ?_ ?_)
 .intro i h;have:s.st i = .dead:=by
   cases hc:s.st i<;>rw[hc]at h<;>first|rfl|cases h
  rw[hs.sto.fresh i this];rfl
 .intro i hd b h1 h2 h3;rw[jdw]at h1;obtain⟨h,e,rfl⟩:=Jh.1 h2;rw[Hd.freeze_blocks]at h3;exact Or.inr (hs.sto.blk i h b h1 e h3)
 .intro i i' hd hd' b h1 h2 h3 h4 h5 h6;rw[jdw]at h1 h2;obtain⟨h,e,rfl⟩:=Jh.1 h3;obtain⟨h',e',rfl⟩:=Jh.1 h4;rw[Hd.freeze_blocks]at h5 h6;exact hs.sto.inj i i' h h' b h1 h2 e e' h5 h6
 .intro i;have ho:=hs.sto.obj i;cases hc:s.st i with
  |gone=>exact Or.inr (by simp only[jwa];trivial)
  |dead=>exact Or.inr (by simp only[jwa];trivial)
  |tre f k xs=>
   rw[hc]at ho;obtain⟨hd,e1,e2,e3⟩:=ho;refine Or.inr ⟨hd.freeze,by rw[e1];rfl,jfp e2,by rw[Hd.freeze_blocks];exact e3⟩
  |box cs=>
   refine Or.inl ⟨rfl,?_,λ_ _ _ _ _=>rfl⟩;rw[hc]at ho;obtain⟨hd,e1,e2⟩:=ho;rw[e1,qR,Hd.freeze_eq (jgz e2)]
  |row k xs=>
   refine Or.inl ⟨rfl,?_,λ_ _ _ _ _=>rfl⟩;rw[hc]at ho;obtain⟨hd,e1,e2⟩:=ho;rw[e1,qR,Hd.freeze_eq (jb4 e2)]
  |map xs=>
   refine Or.inl ⟨rfl,?_,λ_ _ _ _ _=>rfl⟩;rw[hc]at ho;obtain⟨hd,e1,e2⟩:=ho;rw[e1,qR,Hd.freeze_eq (jgP e2)]
  |fro k xs=>
   refine Or.inl ⟨rfl,?_,λ_ _ _ _ _=>rfl⟩;rw[hc]at ho;obtain⟨hd,e1,e2,_⟩:=ho;rw[e1,qR,Hd.freeze_eq e2]
theorem jkb:∀(ts:Xf){s:St}{m:zf},Sim X w0 Z0 O0 shv m s a w->(jfg ts s).sh=s.sh/\(jfg ts s).n=s.n/\ ∃m',Sim X w0 Z0 O0 shv m' (jfg ts s) a w
 | [],s,m,hs=>⟨rfl,rfl,_,jC4 hs⟩
 |t::ts,s,m,hs=>by
  obtain⟨h1,h2,m1,h3⟩:=jtT t hs;obtain⟨g1,g2,g3⟩:=jkb ts h3;exact⟨g1.trans h1,g2.trans h2,g3⟩
theorem jEm(hC:Sane C)(hext:∀f x args out,C.ext f=some x->x args=some out->Q8 X C.P f args out)(hextv:∀f x args objs sgs sg qs outs out,C.extv f=some x->C.sig f=some sgs->ZH objs.length sgs=some sg->x.ask args objs=some qs->jo9 X C.P qs outs->x.ans args objs outs=some out->SOk X C.P f args objs sg out):∀n,
  Qz X C (Mn C n)/\StM X C (Mn C n)/\ ∀(f:FuncId)(fn:Func)(c:Code)(p:Xf)(b:Code)(fr:Xj)(objs:List Abs.Obj)(sh:Option Xf)(r:Out)(w0:World)(Z0 O0:Nat->Prop)(shv:Option (List Hd))(m:zf)(a:Act)(w:World),
   C.P.funcs[f]? = some fn->fn.body=some c->jfi c p=some (.loop b)->Mn C n (.head f p fr objs sh)=some r->Sim X w0 Z0 O0 shv m (St.of fn.ntmps fr objs sh) a w->
   yZ C.P b (postAt C.P c p (Fin C X f w0 Z0 O0 shv fn r)) a w
 |0=>⟨λf args out _ h=>(by cases h),λf args objs sgs sg out _ _ h=>(by cases h),λf fn c p b fr objs sh r w0 Z0 O0 shv m a w _ _ _ h _=>(by cases h)⟩
 |n+1=>by
  obtain⟨ih1,ih3,ih2⟩:=jEm hC hext hextv n;have loops:∀(f:FuncId)(fn:Func)(c:Code)(r:Out)(w0:World)(Z0 O0:Nat->Prop)(shv:Option (List Hd)),C.P.funcs[f]? = some fn->fn.body=some c->jel C (Mn C n) f X w0 Z0 O0 shv fn.ntmps r c [] (Fin C X f w0 Z0 O0 shv fn r):=by
   intro f fn c r w0 Z0 O0 shv hf hb q b s m a w hq hn hag hs;rw[yF]at hag;obtain⟨fr,objs,sh,m',h1,h2⟩:=jxX hag hs;rw[hn]at h2;exact ih2 f fn c q b fr objs sh r w0 Z0 O0 shv m' a w hf hb hq h1 h2
  have kok:∀(f:FuncId)(fn:Func)(r:Out)(w0:World)(Z0 O0:Nat->Prop)(shv:Option (List Hd)),KOk X w0 Z0 O0 shv fn.ntmps r (QG C f fn) (Fin C X f w0 Z0 O0 shv fn r):=
   λf fn r w0 Z0 O0 shv e s m a w hn hk hs=>⟨e,s,m,rfl,hn,hk,hs⟩
  refine⟨?_,?_,?_⟩
  .intro f args out hsig h;simp only[Mn,step]at h;split at h
   .rename_i x hx;exact hext f x args out hx h
   .rw [hsig]at h;dsimp only at h;split at h
    .rename_i fn hf;split at h
     .rename_i c hb;simp only[brn]at h;split at h
      .rename_i hle;have hle:args.length<=fn.ntmps:=by simpa using hle
       refine⟨KO hf (hC.names _ _ hf) hb,?_⟩;intro w O vs hJ hN hO hrel;refine calls_of_wp hf hb ?_;have hl:=jZ hrel;have hs:Sim X w (λ_=>False) O none (λ_=>none) (jaJ fn args) { tmps:=vs.toArray++Array.replicate (fn.ntmps-vs.toArray.size) undef,defers:=[] } w:=by
        refine⟨rfl,by simp[jaJ,St.of];omega,rfl,rfl,Quiet.refl _,j4 _,λ_ _ _=>rfl,λb ⟨_,_,_,h2,_⟩=>(by cases h2),⟨hJ,hN,λ_ _=>rfl,hO,λid hd b _ h _=>(by cases h),λid id' hd hd' b _ _ h _ _ _=>(by cases h),λid=>by simp[jaJ,St.of,jc2]⟩,?_,rfl,λ_ h=>(by cases h)⟩
        intro i v hv;have hOw:Ow O (λ_=>none) (jaJ fn args).st=O:=by
         funext b;simp[Ow,Mz]
        rw[hOw];exact jg0 (jdS (m:=λ_=>none) hrel) (by simpa using hle) hv
       refine wp_mono (Yn hC.ty ih1 ih3 hC.mixed c [] (jaJ fn args) (QG C f fn) (Fin C X f w (λ_=>False) O none fn out) _ _ _ (hC.lex _ _ _ hf hb) rfl h hs (kok _ _ _ _ _ _ _) (loops _ _ _ _ _ _ _ _ hf hb)) ?_;rintro e a' w' ⟨ex,s,m,rfl,hn,hk,hs'⟩;have hbel:Below w.heap.size w w':=⟨hs'.os,hs'.tape,hs'.output,hs'.size,λb hb=>hs'.keep b hb (λh=>h)⟩;obtain⟨hk,hex⟩:=jyB hk;have hsh:s.sh=none:=by
        have:=hs'.sh;cases hh:s.sh with
        |none=>rfl
        |some l=>rw[hh]at this;cases this
       unfold jyC at hk;rw[hsh]at hk;obtain⟨v,h1,h2,_⟩:=jsW hC.ty hs' hk;rcases hex with rfl|rfl
       .exact ⟨hs'.defers,v,h1,v,rfl,hbel,h2⟩
       .exact ⟨hs'.defers,v,h1,v,rfl,hbel,h2⟩
      .cases h
     .cases h
    .cases h
  .intro f args objs sgs sg out hsig halt h;simp only[Mn,step]at h;split at h
   .rename_i x hx;obtain⟨qs,hq1,hq2⟩:=yG.1 h;obtain⟨outs,hq3,hq4⟩:=yG.1 hq2;exact hextv f x args objs sgs sg qs outs out hx hsig halt hq1 (jle ih1 hq3) hq4
   .rename_i hxn;clear hxn;split at h;rotate_left
    .cases h
    rename_i fn hf;split at h
    .rename_i c hb;simp only[brn]at h;split at h
     .rename_i hle;have hle:args.length<=fn.ntmps:=by simpa using hle
      refine⟨KO hf (hC.names _ _ hf) hb,?_⟩;intro w O m vs hsto hsome hrel;refine calls_of_wp hf hb ?_;have hl:=zG hrel;obtain⟨shm,hshm⟩:∃shm:List Hd,(List.range objs.length).map m=shm.map some:=by
       refine⟨(List.range objs.length).map λi=>(m i).getD .none,?_⟩;rw[YT];refine List.map_congr_left λi hi=>?_;obtain⟨hd,hh,_⟩:=hsome i (by simpa using hi);simp[hh]
      have hshf:∀hd∈shm,hd.fixed=true:=λhd hm=>by
       obtain⟨i,hi⟩:=List.mem_iff_getElem?.mp hm;have h1:=congrArg (λx=>x[i]?) hshm;simp only[qu,hi,qR]at h1;obtain⟨j,hj,e⟩:=Jh.1 h1;have hlt:i<objs.length:=by have:=(List.getElem?_eq_some_iff.mp hj).1;simpa using this
       rw[jfy hlt]at hj;cases hj;obtain⟨hd',hh,hf⟩:=hsome i hlt;rw[hh]at e;cases e;exact hf
      have hs:Sim X w (Mz m (kD objs)) O (some shm) m (jdX fn args objs) { tmps:=vs.toArray++Array.replicate (fn.ntmps-vs.toArray.size) undef,defers:=[] } w:=by
       refine⟨rfl,by simp[jdX,St.of];omega,rfl,rfl,Quiet.refl _,j4 _,λ_ _ _=>rfl,λb hb=>Or.inl hb,hsto,?_,?_,λs h=>by cases h;exact hshf⟩
       .intro i v hv;exact jg0 hrel hle hv
       .show (some (List.range objs.length)).map _=_;simp only[qR,hshm]
      refine wp_mono (Yn hC.ty ih1 ih3 hC.mixed c [] (jdX fn args objs) (QG C f fn) (Fin C X f w (Mz m (kD objs)) O (some shm) fn out) _ _ _ (hC.lex _ _ _ hf hb) rfl h hs (kok _ _ _ _ _ _ _) (loops _ _ _ _ _ _ _ _ hf hb)) ?_;rintro e a' w' ⟨ex,s,m1,rfl,hn,hk,hs'⟩;obtain⟨hk,hex⟩:=jyB hk;obtain⟨hsh0,hn0,m2,hs2⟩:=jkb (jhR fn.results.toList) hs';obtain⟨l,hsl,hlm⟩:∃l,s.sh=some l/\l.map m2=(List.range objs.length).map m:=by
       have:=hs2.sh;rw[hsh0]at this;cases hh:s.sh with
       |none=>rw[hh]at this;cases this
       |some l=>
        rw[hh]at this;simp only[qR,zI]at this;exact⟨l,rfl,this.trans hshm.symm⟩
      have hll:l.length=objs.length:=by simpa using congrArg List.length hlm
      have hlg:∀i id,l[i]? = some id->m2 id=m i:=λi id hi=>by
       have h1:=congrArg (λx=>x[i]?) hlm;simp only[qu,hi,qR]at h1;have hlt:=(List.getElem?_eq_some_iff.mp hi).1;rw[jfy (by omega)]at h1;simpa using h1
      unfold jyC at hk;rw[hsl]at hk;dsimp only at hk;rw[hsig]at hk;dsimp only at hk;rw[hll,halt]at hk;dsimp only at hk;unfold jHD at hk;split at hk;rotate_left
      .cases hk
      rename_i rvs hrvs;obtain⟨v,h1,h2⟩:=jtJ hC.ty hs2 hrvs;obtain⟨as,rs,m',g1,g2,g3,g4,g5⟩:=jC3 hs2.sto (λid hid=>by
       obtain⟨i,hi⟩:=List.mem_iff_getElem?.mp hid;rw[hlg i id hi];obtain⟨h,hh,_⟩:=hsome i (by have:=(List.getElem?_eq_some_iff.mp hi).1;omega);exact⟨h,hh⟩) hk h2
      have key:∃v',Ending.returned v=Ending.returned v'/\ ∃as rs m',HolesOk sg out as rs/\(w'.os=w.os/\w'.tape=w.tape/\Quiet w w'/\w.heap.size<=w'.heap.size)/\
        (∀b,b<w.heap.size-> ¬Mz m (kD objs) b->w'.heap[b]? = w.heap[b]?)/\(∀b,Mz m' (kD (sg.objs as rs)) b->Mz m (kD objs) b\/w.heap.size<=b)/\(∀i,i<objs.length->m' i=m i)/\
        Sto X w' O m' (kD (sg.objs as rs))/\relV w' (Ow O m' (kD (sg.objs as rs))) m' (sg.r.toV as) v':=by
       refine⟨v,rfl,as,rs,m',g1,⟨hs2.os,hs2.tape,hs2.output,hs2.size⟩,hs2.keep,λb hb=>hs2.new b (g4 b hb),λi hi=>?_,g3,g5⟩;have hi':l[i]? = some l[i]:=j7 (by omega);rw[g2 i _ hi',hlg i _ hi']
      rcases hex with rfl|rfl
      .exact ⟨hs'.defers,v,h1,key⟩
      .exact ⟨hs'.defers,v,h1,key⟩
     .cases h
    .cases h
  .intro f fn c p b fr objs sh r w0 Z0 O0 shv m a w hf hb hq h hs;simp only[Mn,step]at h;rw[hf]at h;dsimp only at h;rw[hb]at h;dsimp only at h;exact jC2 hC.ty ih1 ih3 hC.mixed c p [] _ _ _ m a w b (hC.lex _ _ _ hf hb) rfl h hq hs (kok _ _ _ _ _ _ _) (loops _ _ _ _ _ _ _ _ hf hb)
theorem jG2{C:Cfg}{X:Ctx}(hC:Sane C)(hext:∀f x args out,C.ext f=some x->x args=some out->Q8 X C.P f args out)(hextv:∀f x args objs sgs sg qs outs out,C.extv f=some x->C.sig f=some sgs->ZH objs.length sgs=some sg->x.ask args objs=some qs->jo9 X C.P qs outs->x.ans args objs outs=some out->SOk X C.P f args objs sg out):Qz X C (MM C):=by
 intro f args out hsig h;obtain⟨n,hn⟩:=juu h;exact(jEm hC hext hextv n).1 f args out hsig hn
end
end
open Go Go.RowKit Go.Deep
def Rdr(P:Program)(t:Nat){α:Type}(f:α->Xd)(p:α->Prop):Prop:=
 ∀(H:Type)(enc:TypeId×Value->H)(w:World)(base:Nat)(spare:Nat->Bool)(held:Bool)(fuel:Nat)(cs:Xh)(x:DataW H×List MemPlace),
  DataW.trod enc P w base spare held fuel t cs=some x-> ∃a,p a/\jz w (λ_=>False) (f a) cs/\jx cs
section
variable{P:Program}{t e:Nat}
theorem jGO{n:Int}(h:(Lit.int .i64 n).wf=true):I64 n:=by
 have h1:IntKind.i64.min = -9223372036854775808:=rfl;have h2:IntKind.i64.max=9223372036854775807:=rfl;simp[Lit.wf,h1,h2]at h;exact h
theorem Rdr.int(ht:P.underlying t=some (.int .i64)):Rdr P t (λn:Int=>[A.val (.int .i64 n)]) I64:=by
 intro H enc w base spare held fuel cs x h;obtain⟨n,rfl,_,hw⟩:=DataW.trod_int ht h;exact⟨n,jGO hw,by simp[jz,rel],by simp[jx,Value.oneCell']⟩
theorem Rdr.bool(ht:P.underlying t=some .bool):Rdr P t (λb:Bool=>[A.val (.bool b)]) (λ_=>True):=by
 intro H enc w base spare held fuel cs x h;obtain⟨b,rfl,_⟩:=DataW.trod_bool ht h;exact⟨b,trivial,by simp[jz,rel],by simp[jx,Value.oneCell']⟩
theorem Rdr.str(ht:P.underlying t=some .string):Rdr P t (λs:ByteArray=>[A.val (.string s)]) (λs=>s.size<=9223372036854775807):=by
 intro H enc w base spare held fuel cs x h;obtain⟨s,rfl,_,hs⟩:=DataW.trod_string ht h;exact⟨s,by simpa[maxLen]using hs,by simp[jz,rel],by simp[jx,Value.oneCell']⟩
theorem jez{w:World}{base:Nat}{a:Addr}{n:Nat}{cs:Xh}(h:w.cells? base a n=some cs):cs.length=n/\ ∀j v,cs[j]? = some v->w.cell? (a.add j)=some v:=by
 unfold World.cells? at h;split at h
 .refine ⟨by simpa using mapM_some_length h,λj v hj=>?_⟩;have hl:cs.length=n:=by simpa using mapM_some_length h
  have hjn:j<n:=by rw[<-hl];exact(Zn.1 hj).1
  have:=mapM_some_get h j j (by simp[hjn]);rw[this,hj]
 .cases h
theorem jiC{w:World}{α:Type}{f:α->Xd}{p:α->Prop}{k:Nat}(hk:∀a,(f a).length=k)(b off:Nat):∀(n:Nat),
  (∀i,i<n-> ∃a,p a/\ ∃cs,jz w (λ_=>False) (f a) cs/\jx cs/\Reads w b (off+i*k) cs)->
  ∃xs:List α,xs.length=n/\(∀x∈xs,p x)/\zi w (λ_=>False) k b off (xs.map f)
 |0,_=>⟨[],rfl,by simp,by simp[zi]⟩
 |n+1,h=>by
  obtain⟨a,pa,cs,h1,h1o,h2⟩:=h 0 (by omega);obtain⟨xs,h3,h4,h5⟩:=jiC hk b (off+k) n λi hi=>by
   obtain⟨a,pa,cs,g1,g1o,g2⟩:=h (i+1) (by omega);refine⟨a,pa,cs,g1,g1o,?_⟩;rwa[show off+(i+1)*k=off+k+i*k by rw[yy];omega]at g2
  refine⟨a::xs,by simp[h3],?_,?_⟩
  .intro x hx;rcases jK.1 hx with rfl|hx
   .exact pa
   .exact h4 x hx
  .simp only[kK,zi];exact⟨hk a,Kq h1 (by simpa using h2) h1o,h5⟩
theorem jrH{w:World}{α:Type}{f:α->Xd}{p:α->Prop}{k:Nat}(hk:∀a,(f a).length=k)(h0:0<k){H:Type}{enc:TypeId×Value->H}{base:Nat}{spare:Nat->Bool}{held:Bool}{fuel:Nat}{cs:Xh}{x:DataW H×List MemPlace}
  (ht:P.underlying t=some (.slice e)) (hc:P.cellsOf e=k)
  (he:∀(n:Nat)(cs:Xh)(x:DataW H×List MemPlace),n<fuel->DataW.trod enc P w base spare held n e cs=some x-> ∃a,p a/\jz w (λ_=>False) (f a) cs/\jx cs)
  (h:DataW.trod enc P w base spare held fuel t cs=some x) :
  ∃xs:List α,((∀x∈xs,p x)/\xs.length<=9223372036854775807)/\jz w (λ_=>False) [A.sl k (xs.map f)] cs/\jx cs:=by
 have hfuel:∃n,fuel=n+1:=by cases fuel with|zero=>simp[DataW.trod]at h|succ n=>exact⟨n,rfl⟩
 rcases DataW.trod_slice ht h with⟨rfl,_⟩|⟨a,len,cap,elems,rest,n,hfn,rfl,rfl,hb,hl,hm,hlen,hel,_,_⟩
 .exact ⟨[],by simp,by simp only[jz,rel,List.map_nil];exact⟨_,[],rfl,⟨none,0,rfl,by simp,by omega,Or.inl trivial⟩,rfl⟩,by simp[jx,Value.oneCell']⟩
 .have hn:n<fuel:=by omega
  have helem:∀i,i<len-> ∃cs',(w.cells? base (a.add (i*k)) k)=some cs'/\ ∃a',p a'/\jz w (λ_=>False) (f a') cs'/\jx cs':=by
   intro i hi;have h1:=hel i hi;rw[hc,j7 (by omega)]at h1;obtain⟨cs',h2,h3⟩:=yG.1 h1;exact⟨cs',h2,he n cs' _ hn h3⟩
  by_cases h00:len=0
  .subst h00;exact⟨[],by simp,by simp only[jz,rel,List.map_nil];exact⟨_,[],rfl,⟨some a,cap,rfl,by simp,by simpa[maxLen]using hm,Or.inl trivial⟩,rfl⟩,by simp[jx,Value.oneCell']⟩
  .have hspot:a.spot=none/\a.block<w.heap.size:=by
    obtain⟨cs',h2,a',_,h3⟩:=helem 0 (by omega);obtain⟨g1,g2⟩:=jez h2;obtain⟨v,hv⟩:∃v,cs'[0]? = some v:=⟨_,j7 (by omega)⟩;have:=g2 0 v hv;have e1:(a.add (0*k)).add 0=a:=by simp[Addr.add]
    rw[e1]at this;unfold World.cell? at this;cases hb':w.heap[a.block]? with
    |none=>simp[hb']at this
    |some o=>
     refine⟨?_,(ZP.1 hb').1⟩;cases o<;>simp[hb']at this
     exact this.1
   obtain⟨block,off,spot⟩:=a;simp only at hspot;obtain⟨rfl,hblk⟩:=hspot;obtain⟨xs,h1,h2,h3⟩:=jiC (w:=w) (f:=f) (p:=p) hk block off len λi hi=>by
    obtain⟨cs',g1,a',g2,g3,g4⟩:=helem i hi;obtain⟨q1,q2⟩:=jez g1;refine⟨a',g2,cs',g3,g4,λj v hj=>?_⟩;have:=q2 j v hj;rwa[JJ,JJ]at this
   have hm':cap<=9223372036854775807:=by simpa[maxLen]using hm
   refine⟨xs,⟨h2,by omega⟩,?_,by simp[jx,Value.oneCell']⟩;simp only[jz,rel,List.length_map];refine⟨_,[],rfl,⟨some ⟨block,off,none⟩,cap,by rw[h1],by omega,hm',Or.inr ⟨block,off,rfl,hblk,λh=>h,h3⟩⟩,rfl⟩
theorem Rdr.slice{α:Type}{f:α->Xd}{p:α->Prop}{k:Nat}(ht:P.underlying t=some (.slice e))(hc:P.cellsOf e=k)(h0:0<k)(hk:∀a,(f a).length=k)(he:Rdr P e f p) :
  Rdr P t (λxs:List α=>[A.sl k (xs.map f)]) (λxs=>(∀x∈xs,p x)/\xs.length<=9223372036854775807):=
 λ_ _ _ _ _ _ _ _ _ h=>jrH hk h0 ht hc (λ_ _ _ _ h'=>he _ _ _ _ _ _ _ _ _ h') h
theorem jtF{w:World}{O:Nat->Prop}{a:A}{v:Value}(h:jz w O [a] v.cells.toList)(hv:v.cells = #[v]):rel w O a v:=by
 rw[hv]at h;simp only[jz,KH]at h;obtain⟨u,r,⟨rfl,_⟩,h2,_⟩:=h;exact h2
end
open Go Go.RowKit Go.Sort
noncomputable section
def joV:Xd->Option Xb
 | [.val (.string s)]=>some (bs s)
 |_=>none
def jaK:Xc->Option Xa
 | []=>some []
 |x::xs=>(match joV x,jaK xs with|some s,some l=>some (s::l)|_,_=>none)
def yL(ss:Xa):Xa:=ss.mergeSort λx y=>decide (x<=y)
def jmf:Xj->List Abs.Obj->Xe
 | [.row 0],[.row 1 xs]=>(match jaK xs with
  |some ss=>if ss.length<4611686018427387904 then some (.top,[.sl 1 ((yL ss).map λs=>[sv s])])else none
  |none=>none)
 |_,_=>none
theorem jBw{x:Xd}{s:Xb}(h:joV x=some s):x=[sv s]:=by
 unfold joV at h;split at h
 .cases h;rw[jIE]
 .cases h
theorem jmh:∀{xs:Xc}{ss:Xa},jaK xs=some ss->xs=ss.map λs=>[sv s]
 | [],ss,h=>by simp only[jaK]at h;cases h;rfl
 |x::xs,ss,h=>by
  simp only[jaK]at h;split at h
  .rename_i s l h1 h2;cases h;rw[jBw h1,jmh h2];rfl
  .cases h
theorem jdY:∀ss:Xa,jaK (ss.map λs=>[sv s])=some ss
 | []=>rfl
 |s::ss=>by simp[jaK,joV,jdY ss]
def jEZ:ExtV:=⟨λ_ _=>some [],λargs objs _=>jmf args objs⟩
def qX:SigA:=⟨0,[1],[.io 0],[],.tup []⟩
theorem jcF{w:World}{O:Nat->Prop} :∀{ss:Xa}{vs:Xh},jz w O (ss.map λs=>[sv s]).flatten vs↔vs=ss.map encStr
 | [],vs=>by simp[jz]
 |s::ss,vs=>by
  simp only[kK,qQ,Zp,yF,jz,rel];constructor
  .rintro ⟨v,r,rfl,rfl,h⟩;rw[jcF]at h;rw[h]
  .intro h;exact⟨_,_,h,rfl,jcF.2 rfl⟩
theorem jca{o o':Abs.Obj}(h:o.alive=o'.alive)(id:Nat):(kD [o] id).alive=(kD [o'] id).alive:=by
 cases id with
 |zero=>exact h
 |succ n=>rfl
theorem jbF{w:World}{b j:Nat}{c:Array Value}{T:TypeId}(h:w.heap[b]? = some (.cells c T (0,0))):w.frozen? ⟨b,j,none⟩=false:=by
 simp[World.frozen?,h]
theorem jBt{X:Ctx}{P:Program}{f:FuncId}(he:Enters P f)
  (h1:∀(blk off cap:Nat)(ss:Xa)(w:World),Holds encStr w blk off ss.toArray->blk<w.heap.size->ss.length<4611686018427387904->
   Calls P f #[.slice (some ⟨blk,off,none⟩) ss.length cap] w λe w'=>e = .returned (.tuple #[])/\ ∃n os,w'=grow (putRow encStr (Sort.ahead w n) blk off (ss.mergeSort λx y=>decide (x<=y)).toArray) os)
  (h0:∀(p:Option Addr)(cap:Nat)(w:World),Calls P f #[.slice p 0 cap] w λe w'=>e = .returned (.tuple #[])/\w'=w)
  {args:Xj} {objs:List Abs.Obj} {out:Out} (h:jmf args objs=some out):SOk X P f args objs qX out:=by
 unfold jmf at h;split at h;rotate_left
 .cases h
 rename_i xs;split at h;rotate_left
 .cases h
 rename_i ss hss;split at h;rotate_left
 .cases h
 rename_i hlen;cases h;have hxs:=jmh hss;refine⟨he,λw O m vs hsto hsome hrel=>?_⟩;simp only[jp,relV]at hrel;obtain⟨v,r,rfl,⟨hd,hm,hv⟩,rfl⟩:=hrel;have hob:=hsto.obj 0;have hst0:kD [Abs.Obj.row 1 xs] 0 = .row 1 xs:=rfl;rw[hst0,hm]at hob;obtain⟨hd',e1,hrow⟩:=hob;cases e1;have hholes:HolesOk qX (A.top,[A.sl 1 ((yL ss).map λs=>[sv s])]) [] [(yL ss).map λs=>[sv s]]:=by
  refine⟨rfl,λi a h=>by simp at h,rfl,λj r k h1 h2=>?_⟩;cases j with
  |zero=>
   simp[qX]at h1 h2;subst h1 h2;simp[hR,qX]
  |succ j=>simp at h1
 have hobjs:qX.objs [] [(yL ss).map λs=>[sv s]]=[.row 1 ((yL ss).map λs=>[sv s])]:=rfl;cases hd with
 |tre=>exact hrow.elim
 |mp=>exact hrow.elim
 |none=>
  simp only[rowOk]at hrow;simp only[hdr]at hv;obtain⟨a,rfl⟩:=hv;have hs0:ss=[]:=by
   rw[hrow]at hxs;simpa using hxs.symm
  subst hs0;refine(h0 a 0 w).mono ?_;rintro e w' ⟨rfl,rfl⟩;have hsb:yL []=[]:=by simp[yL]
  refine⟨_,rfl,[],[(yL []).map λs=>[sv s]],m,hholes,⟨rfl,rfl,Quiet.refl _,j4 _⟩,λ_ _ _=>rfl,?_,λ_ _=>rfl,?_,?_⟩
  .rw [hobjs,hsb,hrow];exact λb hb=>Or.inl hb
  .rw [hobjs,hsb];rw[hrow]at hsto;exact hsto
  .simp only[qX,Sh.toV,relV];exact⟨[],rfl,by simp[Sh.toVL,jp]⟩
 |blk b cap n=>
  obtain⟨rfl,q1,q2,q3,c,T,q4,q5,q6,q7⟩:=hrow;simp only[hdr]at hv;subst hv;have hxl:xs.length=ss.length:=by rw[hxs];simp
  have hcells:c.toList.take (xs.length*1)=ss.map encStr:=by
   have:=q7;rw[hxs]at this;rw[jcF]at this;rw[<-hxs]at this;exact this
  have hget:∀j,j<ss.length->c[j]? = some (encStr ss[j]!):=by
   intro j hj;have:=congrArg (λl=>l[j]?) hcells;simp only[QZ,qu]at this;rw[jg (by omega),j7 hj]at this;rw[<-jaW,this];simp[hj]
  have hb:b<w.heap.size:=(ZP.1 q4).1;have hH:Holds encStr w b 0 ss.toArray:=by
   intro j hj;have hj:j<ss.length:=by simpa using hj
   refine⟨?_,jbF q4⟩;have:=hget j hj;simp only[World.cell?,q4,yd];rw[this];simp[hj]
  have hcall:=h1 b 0 cap ss w hH hb hlen;rw[<-hxl]at hcall;refine hcall.mono ?_;rintro e w' ⟨rfl,n,os,rfl⟩;have hsl:(yL ss).length=ss.length:=by simp[yL]
  generalize hW:grow (putRow encStr (Sort.ahead w n) b 0 (ss.mergeSort λx y=>decide (x<=y)).toArray) os=w';have hheap:w'.heap=(w.heap.modify b (onCells (putCells encStr 0 (ss.mergeSort λx y=>decide (x<=y)).toArray)))++os:=by rw[<-hW];rfl
  have hother:∀b',b'<w.heap.size->b'≠b->w'.heap[b']? = w.heap[b']? :=by
   intro b' hb' hne;rw[hheap,jg5 (by simpa using hb'),jmG,jh (Ne.symm hne)]
  have hself:w'.heap[b]? = some (.cells (putCells encStr 0 (yL ss).toArray c) T (0,0)):=by
   rw[hheap,jg5 (by simpa using hb),jmG,jg rfl,q4];rfl
  have hst:∀id,(kD [Abs.Obj.row 1 ((yL ss).map λs=>[sv s])] id).alive=(kD [Abs.Obj.row 1 xs] id).alive:=jca rfl;have hmz:∀b',Mz m (kD [Abs.Obj.row 1 ((yL ss).map λs=>[sv s])]) b'->Mz m (kD [Abs.Obj.row 1 xs]) b':=by
   rintro b' ⟨id,hd',ha,hm',hi'⟩;exact⟨id,hd',by rw[<-hst id];exact ha,hm',hi'⟩
  have hbm:Mz m (kD [Abs.Obj.row 1 xs]) b:=⟨0,_,rfl,hm,JC⟩;have hsz:w.heap.size<=w'.heap.size:=by rw[hheap];simp
  have hchg:Chg w m (kD [Abs.Obj.row 1 xs]) w' m (kD [Abs.Obj.row 1 ((yL ss).map λs=>[sv s])]):=by
   refine⟨by rw[<-hW];rfl,by rw[<-hW];rfl,⟨by rw[<-hW];rfl,by rw[<-hW];exact Nat.le_add_right _ _⟩,hsz,λb' hb' hn=>hother b' hb' λe=>hn (by rw[e];exact hbm),MLe.refl m,λb' h=>Or.inl (hmz b' h)⟩
  have hcut:(putCells encStr 0 (yL ss).toArray c).toList.take (xs.length*1)=(yL ss).map encStr:=by
   refine Qk λj=>?_;rw[QZ,qu];by_cases hj:j<ss.length
   .have hjc:=hget j hj;have hjs:j<c.size:=(ZP.1 hjc).1;have hjb:j<(yL ss).length:=by omega
    rw[jg (by omega),jaW];unfold putCells;rw[Array.getElem?_mapIdx,hjc];have:0<=j/\j<0+(yL ss).toArray.size:=⟨Nat.zero_le _,by simpa using hjb⟩;simp only[qR,this,and_self,qi,Nat.sub_zero];rw[j7 hjb];simp[hjb]
   .rw [jh (by omega),qF (show(yL ss).length<=j by omega)];rfl
  refine⟨_,rfl,[],[(yL ss).map λs=>[sv s]],m,hholes,⟨hchg.os,hchg.tape,hchg.output,hsz⟩,hchg.keep,λb' h=>Or.inl (hmz b' (by rw[hobjs]at h;exact h)),λ_ _=>rfl,?_,?_⟩
  .rw [hobjs];refine hsto.chg hchg ?_ (λid hd' b' ha hm' _=>Or.inl ⟨by rw[<-hst id];exact ha,hm'⟩) (λid id' hd1 hd2 b' ha ha'=>hsto.inj id id' hd1 hd2 b' (by rw[<-hst id];exact ha) (by rw[<-hst id'];exact ha')) ?_
   .intro id h;refine hsto.fresh id ?_;cases id with
    |zero=>cases h
    |succ id=>rfl
   .intro id;cases id with
    |succ id=>exact Or.inl ⟨rfl,rfl,λhd' b' ha=>by cases ha⟩
    |zero=>
     right;rw[hm];refine⟨_,rfl,by simp[hsl,hxl],by simp[hsl];omega,q2,by simp,_,T,hself,?_,?_,?_⟩
     .simp [putCells];omega
     .have e:((yL ss).map λs=>[sv s]).length=xs.length:=by simp[hsl,hxl]
      rw[e,hcut];intro u hu;obtain⟨s,_,rfl⟩:=yn.1 hu;rfl
     .have e:((yL ss).map λs=>[sv s]).length=xs.length:=by simp[hsl,hxl]
      rw[e,jcF];exact hcut
  .simp only[qX,Sh.toV,relV];exact⟨[],rfl,by simp[Sh.toVL,jp]⟩
end
noncomputable section
def jn5:Xd->Option (Int)
 | [.val (.int .i64 s)]=>some s
 |_=>none
def ZX:Xc->Option Xi
 | []=>some []
 |x::xs=>(match jn5 x,ZX xs with|some s,some l=>some (s::l)|_,_=>none)
def qg(ss:Xi):Xi:=ss.mergeSort λx y=>decide (x<=y)
def joS:Xj->List Abs.Obj->Xe
 | [.row 0],[.row 1 xs]=>(match ZX xs with
  |some ss=>if ss.length<4611686018427387904 then some (.top,[.sl 1 ((qg ss).map λs=>[vi s])])else none
  |none=>none)
 |_,_=>none
theorem jyY{x:Xd}{s:Int}(h:jn5 x=some s):x=[vi s]:=by
 unfold jn5 at h;split at h
 .cases h;rfl
 .cases h
theorem jlt:∀{xs:Xc}{ss:Xi},ZX xs=some ss->xs=ss.map λs=>[vi s]
 | [],ss,h=>by simp only[ZX]at h;cases h;rfl
 |x::xs,ss,h=>by
  simp only[ZX]at h;split at h
  .rename_i s l h1 h2;cases h;rw[jyY h1,jlt h2];rfl
  .cases h
theorem jiY:∀ss:Xi,ZX (ss.map λs=>[vi s])=some ss
 | []=>rfl
 |s::ss=>by simp[ZX,jn5,jiY ss]
def jE0:ExtV:=⟨λ_ _=>some [],λargs objs _=>joS args objs⟩
theorem jcD{w:World}{O:Nat->Prop} :∀{ss:Xi}{vs:Xh},jz w O (ss.map λs=>[vi s]).flatten vs↔vs=ss.map (Value.int .i64)
 | [],vs=>by simp[jz]
 |s::ss,vs=>by
  simp only[kK,qQ,Zp,yF,jz,rel];constructor
  .rintro ⟨v,r,rfl,rfl,h⟩;rw[jcD]at h;rw[h]
  .intro h;exact⟨_,_,h,rfl,jcD.2 rfl⟩
theorem jw6{X:Ctx}{P:Program}{f:FuncId}(he:Enters P f)
  (h1:∀(blk off cap:Nat)(ss:Xi)(w:World),Holds (Value.int .i64) w blk off ss.toArray->blk<w.heap.size->ss.length<4611686018427387904->
   Calls P f #[.slice (some ⟨blk,off,none⟩) ss.length cap] w λe w'=>e = .returned (.tuple #[])/\ ∃n os,w'=grow (putRow (Value.int .i64) (Sort.ahead w n) blk off (ss.mergeSort λx y=>decide (x<=y)).toArray) os)
  (h0:∀(p:Option Addr)(cap:Nat)(w:World),Calls P f #[.slice p 0 cap] w λe w'=>e = .returned (.tuple #[])/\w'=w)
  {args:Xj} {objs:List Abs.Obj} {out:Out} (h:joS args objs=some out):SOk X P f args objs qX out:=by
 unfold joS at h;split at h;rotate_left
 .cases h
 rename_i xs;split at h;rotate_left
 .cases h
 rename_i ss hss;split at h;rotate_left
 .cases h
 rename_i hlen;cases h;have hxs:=jlt hss;refine⟨he,λw O m vs hsto hsome hrel=>?_⟩;simp only[jp,relV]at hrel;obtain⟨v,r,rfl,⟨hd,hm,hv⟩,rfl⟩:=hrel;have hob:=hsto.obj 0;have hst0:kD [Abs.Obj.row 1 xs] 0 = .row 1 xs:=rfl;rw[hst0,hm]at hob;obtain⟨hd',e1,hrow⟩:=hob;cases e1;have hholes:HolesOk qX (A.top,[A.sl 1 ((qg ss).map λs=>[vi s])]) [] [(qg ss).map λs=>[vi s]]:=by
  refine⟨rfl,λi a h=>by simp at h,rfl,λj r k h1 h2=>?_⟩;cases j with
  |zero=>
   simp[qX]at h1 h2;subst h1 h2;simp[hR,qX]
  |succ j=>simp at h1
 have hobjs:qX.objs [] [(qg ss).map λs=>[vi s]]=[.row 1 ((qg ss).map λs=>[vi s])]:=rfl;cases hd with
 |tre=>exact hrow.elim
 |mp=>exact hrow.elim
 |none=>
  simp only[rowOk]at hrow;simp only[hdr]at hv;obtain⟨a,rfl⟩:=hv;have hs0:ss=[]:=by
   rw[hrow]at hxs;simpa using hxs.symm
  subst hs0;refine(h0 a 0 w).mono ?_;rintro e w' ⟨rfl,rfl⟩;have hsb:qg []=[]:=by simp[qg]
  refine⟨_,rfl,[],[(qg []).map λs=>[vi s]],m,hholes,⟨rfl,rfl,Quiet.refl _,j4 _⟩,λ_ _ _=>rfl,?_,λ_ _=>rfl,?_,?_⟩
  .rw [hobjs,hsb,hrow];exact λb hb=>Or.inl hb
  .rw [hobjs,hsb];rw[hrow]at hsto;exact hsto
  .simp only[qX,Sh.toV,relV];exact⟨[],rfl,by simp[Sh.toVL,jp]⟩
 |blk b cap n=>
  obtain⟨rfl,q1,q2,q3,c,T,q4,q5,q6,q7⟩:=hrow;simp only[hdr]at hv;subst hv;have hxl:xs.length=ss.length:=by rw[hxs];simp
  have hcells:c.toList.take (xs.length*1)=ss.map (Value.int .i64):=by
   have:=q7;rw[hxs]at this;rw[jcD]at this;rw[<-hxs]at this;exact this
  have hget:∀j,j<ss.length->c[j]? = some ((Value.int .i64) ss[j]!):=by
   intro j hj;have:=congrArg (λl=>l[j]?) hcells;simp only[QZ,qu]at this;rw[jg (by omega),j7 hj]at this;rw[<-jaW,this];simp[hj]
  have hb:b<w.heap.size:=(ZP.1 q4).1;have hH:Holds (Value.int .i64) w b 0 ss.toArray:=by
   intro j hj;have hj:j<ss.length:=by simpa using hj
   refine⟨?_,jbF q4⟩;have:=hget j hj;simp only[World.cell?,q4,yd];rw[this];simp[hj]
  have hcall:=h1 b 0 cap ss w hH hb hlen;rw[<-hxl]at hcall;refine hcall.mono ?_;rintro e w' ⟨rfl,n,os,rfl⟩;have hsl:(qg ss).length=ss.length:=by simp[qg]
  generalize hW:grow (putRow (Value.int .i64) (Sort.ahead w n) b 0 (ss.mergeSort λx y=>decide (x<=y)).toArray) os=w';have hheap:w'.heap=(w.heap.modify b (onCells (putCells (Value.int .i64) 0 (ss.mergeSort λx y=>decide (x<=y)).toArray)))++os:=by rw[<-hW];rfl
  have hother:∀b',b'<w.heap.size->b'≠b->w'.heap[b']? = w.heap[b']? :=by
   intro b' hb' hne;rw[hheap,jg5 (by simpa using hb'),jmG,jh (Ne.symm hne)]
  have hself:w'.heap[b]? = some (.cells (putCells (Value.int .i64) 0 (qg ss).toArray c) T (0,0)):=by
   rw[hheap,jg5 (by simpa using hb),jmG,jg rfl,q4];rfl
  have hst:∀id,(kD [Abs.Obj.row 1 ((qg ss).map λs=>[vi s])] id).alive=(kD [Abs.Obj.row 1 xs] id).alive:=jca rfl;have hmz:∀b',Mz m (kD [Abs.Obj.row 1 ((qg ss).map λs=>[vi s])]) b'->Mz m (kD [Abs.Obj.row 1 xs]) b':=by
   rintro b' ⟨id,hd',ha,hm',hi'⟩;exact⟨id,hd',by rw[<-hst id];exact ha,hm',hi'⟩
  have hbm:Mz m (kD [Abs.Obj.row 1 xs]) b:=⟨0,_,rfl,hm,JC⟩;have hsz:w.heap.size<=w'.heap.size:=by rw[hheap];simp
  have hchg:Chg w m (kD [Abs.Obj.row 1 xs]) w' m (kD [Abs.Obj.row 1 ((qg ss).map λs=>[vi s])]):=by
   refine⟨by rw[<-hW];rfl,by rw[<-hW];rfl,⟨by rw[<-hW];rfl,by rw[<-hW];exact Nat.le_add_right _ _⟩,hsz,λb' hb' hn=>hother b' hb' λe=>hn (by rw[e];exact hbm),MLe.refl m,λb' h=>Or.inl (hmz b' h)⟩
  have hcut:(putCells (Value.int .i64) 0 (qg ss).toArray c).toList.take (xs.length*1)=(qg ss).map (Value.int .i64):=by
   refine Qk λj=>?_;rw[QZ,qu];by_cases hj:j<ss.length
   .have hjc:=hget j hj;have hjs:j<c.size:=(ZP.1 hjc).1;have hjb:j<(qg ss).length:=by omega
    rw[jg (by omega),jaW];unfold putCells;rw[Array.getElem?_mapIdx,hjc];have:0<=j/\j<0+(qg ss).toArray.size:=⟨Nat.zero_le _,by simpa using hjb⟩;simp only[qR,this,and_self,qi,Nat.sub_zero];rw[j7 hjb];simp[hjb]
   .rw [jh (by omega),qF (show(qg ss).length<=j by omega)];rfl
  refine⟨_,rfl,[],[(qg ss).map λs=>[vi s]],m,hholes,⟨hchg.os,hchg.tape,hchg.output,hsz⟩,hchg.keep,λb' h=>Or.inl (hmz b' (by rw[hobjs]at h;exact h)),λ_ _=>rfl,?_,?_⟩
  .rw [hobjs];refine hsto.chg hchg ?_ (λid hd' b' ha hm' _=>Or.inl ⟨by rw[<-hst id];exact ha,hm'⟩) (λid id' hd1 hd2 b' ha ha'=>hsto.inj id id' hd1 hd2 b' (by rw[<-hst id];exact ha) (by rw[<-hst id'];exact ha')) ?_
   .intro id h;refine hsto.fresh id ?_;cases id with
    |zero=>cases h
    |succ id=>rfl
   .intro id;cases id with
    |succ id=>exact Or.inl ⟨rfl,rfl,λhd' b' ha=>by cases ha⟩
    |zero=>
     right;rw[hm];refine⟨_,rfl,by simp[hsl,hxl],by simp[hsl];omega,q2,by simp,_,T,hself,?_,?_,?_⟩
     .simp [putCells];omega
     .have e:((qg ss).map λs=>[vi s]).length=xs.length:=by simp[hsl,hxl]
      rw[e,hcut];intro u hu;obtain⟨s,_,rfl⟩:=yn.1 hu;rfl
     .have e:((qg ss).map λs=>[vi s]).length=xs.length:=by simp[hsl,hxl]
      rw[e,jcD];exact hcut
  .simp only[qX,Sh.toV,relV];exact⟨[],rfl,by simp[Sh.toVL,jp]⟩
end
noncomputable section
def jrG:Xj->List Abs.Obj->Option (List (FuncId×Xd))
 | [.row 0,.fn g caps],[.row _ xs]=>(jbA caps).map λcs=>xs.flatMap λx=>xs.map λy=>(g,[A.agg x,A.agg y]++cs)
 |_,_=>none
def jjH:Out->Option Int
 |(.val (.int .i64 c),[])=>some c
 |_=>none
def jgW:List Out->Option Xi
 | []=>some []
 |o::os=>(match jjH o,jgW os with|some c,some l=>some (c::l)|_,_=>none)
def ltO{α:Type}(cf:α->α->Int)(x y:α):Bool:=decide (cf x y<0)
def jg7(N:Nat)(cs:Xi)(i j:_root_.Fin N):Int:=cs.getD (i.val*N+j.val) 0
open Classical in
def jka(k:Nat)(xs:Xc)(cs:Xi):Xe:=
 match xs with
 | []=>some (.top,[.sl k []])
 |x::r=>if SWO (ltO (jg7 (r.length+1) cs))/\r.length+1<4611686018427387904 then
   some (.top,[.sl k ((pdq (ltO (jg7 (r.length+1) cs)) (Array.ofFn (n:=r.length+1) id) 0 (r.length+1) (Lib.bitLen (r.length+1)) true true).toList.map λi=>(x::r).getD i.val [])])else none
def jBo(k0:Nat):Xj->List Abs.Obj->List Out->Xe
 | [.row 0,.fn _ _],[.row k xs],outs=>if Nat.beq k k0 then(jgW outs).bind λcs=>jka k xs cs else none
 |_,_,_=>none
def sfE(k:Nat):ExtV:=⟨jrG,jBo k⟩
def jb9(k:Nat):SigA:=⟨0,[k],[.io 0],[],.tup []⟩
def juV:Xd->Xe
 | [.val (.int .i64 n)]=>if -9223372036854775808<=n/\n<=9223372036854775807 then some (sv (Lib.itoa n),[])else none
 |_=>none
end
end Go.Proofs.YthlhadhipnokfaaGreatDoor.Abs
