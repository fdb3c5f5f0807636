/- Ed -/
import Derived.Test.YtbgikpffkgjecaaGreatDoorEc
import Derived.Deep.Slices
import Derived.Sort.Grow
import Derived.Sort.EncStr
import Derived.Sort.AssemblyPlain
import Derived.Lib.BitFns
import Derived.Lib.ItoaNum
namespace Go.Proofs.YtbgikpffkgjecaaGreatDoor.Abs
open Go Go.RowKit
set_option linter.unusedSimpArgs false
set_option linter.unusedVariables false
noncomputable section
def LeF (fr frC:Nat->V):Prop:=∀i,fr i = .top\/fr i=frC i
theorem LeF.refl (fr:Nat->V):LeF fr fr:=λ_=>Or.inr rfl
theorem LeF.put {fr frC:Nat->V} (h:LeF fr frC) (dst:Option Tmp) {v v':V} (hv:v = .top\/v=v'):LeF (Kb fr dst v) (Kb frC dst v'):=by
 cases dst with
 | none=>exact h
 | some d=>
  intro i;simp only [Kb];by_cases e:i=d
  ·subst e;rw [jU,jU];exact hv
  ·rw [upd_ne _ _ e,upd_ne _ _ e];exact h i
theorem LeF.rel {fr frC:Nat->V} (h:LeF fr frC) (n:Nat) {w:World} {O:Nat->Prop} {m:zV} {x:Operand} {v:Value} (hr:relV w O m (evF n frC x) v):relV w O m (evF n fr x) v:=by
 cases x with
 | tmp t=>
  simp only [evF] at hr ⊢;cases hb:Nat.blt t n with
  | false=>simp [relV]
  | true=>
   rw [hb] at hr;simp only [cond_true] at hr ⊢;rcases h t with e|e
   ·rw [e];simp [relV]
   ·rw [e];exact hr
 | const v=>exact hr
 | global g=>exact hr
 | func f=>exact hr
theorem zB.le {P:Program} {X:Ctx} {o:Oper} {n:Nat} {fr frC:Nat->V} {t:Tx} (h:LeF fr frC) (ht:zB P X o (evF n fr) t):zB P X o (evF n frC) t:=
 λw O0 m st ev hs hr hx hc=>ht w O0 m st ev hs hr (λx hx'=>h.rel n (hx x hx')) hc
def jhT (gs:List GE) (frC:Nat->V):Prop:=∀g∈gs,∀t,frC g.gd = .d t->Yb t g.want=some true->g.v=frC g.dst
theorem ji3 {i d:Nat} {w:Bool} {v:V} :∀ {gs:List GE},jqc i d w gs=some v-> ∃g∈gs,g.dst=i/\g.gd=d/\g.want=w/\g.v=v
 | [],h=>by cases h
 | g::gs,h=>by
  simp only [jqc] at h;cases hb:(Nat.beq g.dst i && (Nat.beq g.gd d && (g.want == w))) with
  | true=>
   rw [hb] at h;simp only [cond_true,zg] at h;simp only [jy,beq_iff_eq] at hb;exact ⟨g,by simp,zw hb.1,zw hb.2.1,hb.2.2,h⟩
  | false=>
   rw [hb] at h;simp only [cond_false] at h;obtain ⟨g',h1,h2⟩:=ji3 h;exact ⟨g',by simp [h1],h2⟩
theorem jhT.over {gs:List GE} {fr frC:Nat->V} (h:jhT gs frC) (hf:LeF fr frC) {d:Nat} {w:Bool} {t:A} (hd:frC d = .d t) (hw:Yb t w=some true):LeF (jlu gs d w fr) frC:=by
 intro i;unfold jlu;cases hl:jqc i d w gs with
 | none=>exact hf i
 | some v=>
  obtain ⟨g,h1,h2,h3,h4,h5⟩:=ji3 hl;subst h2 h3 h4 h5;exact Or.inr (h g h1 t hd hw)
theorem jhT.drop {gs:List GE} {frC:Nat->V} (h:jhT gs frC) (dst:Option Tmp) (v:V):jhT (jdh gs dst) (Kb frC dst v):=by
 cases dst with
 | none=>exact h
 | some d=>
  intro g hg t ht hw;simp only [jdh,jki,jy,jan] at hg;obtain ⟨h1,h2,h3⟩:=hg;have e2:g.dst≠d:=λe=>by rw [e] at h2;simp at h2
  have e3:g.gd≠d:=λe=>by rw [e] at h3;simp at h3
  simp only [Kb] at ht ⊢;rw [upd_ne _ _ e3] at ht;rw [upd_ne _ _ e2];exact h g h1 t ht hw
theorem jhT.add {gs:List GE} {frC:Nat->V} (h:jhT gs frC) (dst:Option Tmp) {d:Nat} {want:Bool} {v u:V} {t:A} (hd:frC d = .d t) (hv:Yb t want=some true->u=v):jhT (jFH gs dst d want v) (Kb frC dst u):=by
 cases dst with
 | none=>exact h
 | some x=>
  simp only [jFH];cases hb:Nat.beq x d with
  | true=>exact h.drop (some x) u
  | false=>
   simp only [cond_false];have hne:d≠x:=λe=>by subst e;simp at hb
   intro g hg t' ht hw;rcases List.mem_cons.mp hg with rfl|hg
   ·simp only [Kb] at ht ⊢;rw [upd_ne _ _ hne,hd] at ht;cases ht;rw [jU];exact (hv hw).symm
   ·exact h.drop (some x) u g hg t' ht hw
theorem jvm {t:A} {want:Bool} {x:Option A} {a:A} (h:pG t want x=some a):(Yb t want=some true/\x=some a)\/(Yb t want=some false/\a = .val undef):=by
 unfold pG at h;unfold Yb;split at h
 ·split at h
  ·rename_i e;exact Or.inl ⟨by simp [e],h⟩
  ·rename_i e;cases h;exact Or.inr ⟨by simp [e],rfl⟩
 ·cases h;exact Or.inr ⟨rfl,rfl⟩
 ·cases h
theorem jcn {ops:Array Oper} {o:Oper} {n j d:Nat} {want b:Bool} {frC:Nat->V} {t:A} (hg:o.guard=some (j,want)) (hj:jyr ops j=some d) (hd:d < n) (ht:frC d = .d t) (hw:Yb t want=some b):QA ops n o frC b:=by
 unfold QA;rw [hg];have h1:(ops[j]?).bind (·.dst)=some d:=by
  unfold jyr at hj;cases ho:ops[j]? with
  | none=>rw [ho] at hj;cases hj
  | some o'=>rw [ho] at hj;exact hj
 unfold Yb at hw;split at hw
 ·rename_i c;cases hw;refine ⟨d,_,h1,hd,ht,?_⟩;cases c<;>cases want<;>rfl
 ·cases hw;exact ⟨d,_,h1,hd,ht,rfl⟩
 ·cases hw
section
variable {C:Cfg} {X:Ctx} {M:Node->Option Out} {o:Oper} {st:jB} {r:Out}
theorem yY.run {ρ:Operand->V} {κ:V->List Rd->List Wr->Option Out} :∀ {x:LX},yY C.P X M o ρ st x->x.run M κ=some r-> ∃v rds wrs,κ v rds wrs=some r/\zB C.P X o ρ ⟨v,rds,wrs⟩/\ ∀q∈rds,yV st q
 | .fail,_,h=>by cases h
 | .ret v rds wrs,hx,h=>⟨v,rds,wrs,h,hx.1,hx.2⟩
 | .bnd x k,hx,h=>by
  simp only [LX.run,zI] at h;obtain ⟨a,h1,h2⟩:=h;exact yY.run (hx a h1) h2
 | .nat x k,hx,h=>by
  simp only [LX.run,zI] at h;obtain ⟨a,h1,h2⟩:=h;exact yY.run (hx a h1) h2
 | .rows x k,hx,h=>by
  simp only [LX.run,zI] at h;obtain ⟨a,h1,h2⟩:=h;exact yY.run (hx a h1) h2
 | .cells x k,hx,h=>by
  simp only [LX.run,zI] at h;obtain ⟨a,h1,h2⟩:=h;exact yY.run (hx a h1) h2
 | .chk b k,hx,h=>by
  simp only [LX.run,brn] at h;split at h
  ·rename_i hb;exact yY.run (hx hb) h
  ·cases h
 | .node x k,hx,h=>by
  simp only [LX.run,zI] at h;obtain ⟨a,h1,h2⟩:=h;exact yY.run (hx a h1) h2
 | .cnd a x y,hx,h=>by
  simp only [LX.run,zI] at h;obtain ⟨t,h1,h2⟩:=h;cases t with
  | true=>exact yY.run (hx.1 h1) h2
  | false=>exact yY.run (hx.2 h1) h2
theorem jvv (hD:J7 C.P C.D) (hM:QU X C M) (hS:StM X C M) {n:Nat} {fr:Nat->V} {nid:Nat} {κ:V->List Rd->List Wr->Option Out} (h:run1 C M o n fr st nid κ=some r) :
  ∃v rds wrs,κ v rds wrs=some r/\zB C.P X o (evF n fr) ⟨v,rds,wrs⟩/\ ∀q∈rds,yV st q:=by
 unfold run1 at h;have hs:=jk3 (X:=X) (o:=o) (ρ:=evF n fr) (st:=st) hD hM;split at h
 ·rename_i v rds e;rw [e] at hs;exact ⟨v,rds,[],h,hs.1,hs.2⟩
 ·rename_i x rds e;rw [e] at hs;rw [zI] at h;obtain ⟨a,h1,h2⟩:=h;obtain ⟨g1,g2⟩:=hs a h1;exact ⟨_,rds,[],h2,g1,g2⟩
 ·split at h
  ·rename_i hn;exact yY.run (jv8 hD hM hS nid hn) h
  ·cases h
theorem jxg (hD:J7 C.P C.D) (hM:QU X C M) (hS:StM X C M) {ops:Array Oper} {n:Nat} {fr frC:Nat->V} {nid:Nat} {gs:List GE} {κ:V->List Rd->List Wr->List GE->Option Out} (hf:LeF fr frC) (hg:jhT gs frC) (h:stepOp C M ops o n fr st nid gs κ=some r) :
  ∃(t:Tx) (v:V) (rds:List Rd) (wrs:List Wr) (gs':List GE),κ v rds wrs gs'=some r/\AY C.P X ops n o frC t/\(∀q∈t.rds,yV st q)/\(v = .top\/v=t.v)/\t.rds ⊆ rds/\t.wrs=wrs/\jhT gs' (Kb frC o.dst t.v):=by
 unfold stepOp at h;split at h
 ·rename_i hgd;obtain ⟨v,rds,wrs,h1,h2,h3⟩:=jvv hD hM hS h;exact ⟨⟨v,rds,wrs⟩,v,rds,wrs,_,h1,Or.inl ⟨by simp [QA,hgd],h2.le hf⟩,h3,Or.inr rfl,λ_ h=>h,rfl,hg.drop _ _⟩
 ·rename_i j want hgd;split at h
  ·rename_i d hj;split at h
   ·rename_i hlt;have hlt:d < n:=by simpa [jcy] using hlt
    split at h
    ·rename_i t ht;have htC:frC d = .d t:=by
      rcases hf d with e|e
      ·rw [ht] at e;cases e
      ·rw [<-e];exact ht
     have skip:Yb t want=some false->AY C.P X ops n o frC ⟨.d (.val undef),[],[]⟩:=λhw=>Or.inr ⟨jcn hgd hj hlt htC hw,rfl,rfl⟩;have hs:=jk3 (X:=X) (o:=o) (ρ:=evF n (jlu gs d want fr)) (st:=st) hD hM;split at h
     ·rename_i a rds e;rw [e] at hs;rw [zI] at h;obtain ⟨a',h1,h2⟩:=h;rcases jvm h1 with ⟨g1,g2⟩|⟨g1,g2⟩
      ·cases g2;exact ⟨⟨.d a,rds,[]⟩,_,_,_,_,h2,Or.inl ⟨jcn hgd hj hlt htC g1,hs.1.le (hg.over hf htC g1)⟩,hs.2,Or.inr rfl,λ_ h=>h,rfl,hg.drop _ _⟩
      ·subst g2;exact ⟨_,_,_,_,_,h2,skip g1,by simp,Or.inr rfl,by simp,rfl,hg.drop _ _⟩
     ·rename_i v rds _ e;rw [e] at hs;rw [zI] at h;obtain ⟨b,h1,h2⟩:=h;cases b with
      | true=>exact ⟨⟨v,rds,[]⟩,_,_,_,_,h2,Or.inl ⟨jcn hgd hj hlt htC h1,hs.1.le (hg.over hf htC h1)⟩,hs.2,Or.inl rfl,λ_ h=>h,rfl,hg.add _ htC λ_=>rfl⟩
      | false=>exact ⟨_,_,_,_,_,h2,skip h1,by simp,Or.inl rfl,by simp,rfl,hg.add _ htC λe=>by rw [h1] at e;cases e⟩
     ·rename_i x rds e;rw [e] at hs;rw [zI] at h;obtain ⟨a',h1,h2⟩:=h;rcases jvm h1 with ⟨g1,g2⟩|⟨g1,g2⟩
      ·obtain ⟨s1,s2⟩:=hs a' g2;exact ⟨⟨.d a',rds,[]⟩,_,_,_,_,h2,Or.inl ⟨jcn hgd hj hlt htC g1,s1.le (hg.over hf htC g1)⟩,s2,Or.inr rfl,λ_ h=>h,rfl,hg.drop _ _⟩
      ·subst g2;exact ⟨_,_,_,_,_,h2,skip g1,by simp,Or.inr rfl,by simp,rfl,hg.drop _ _⟩
     ·rw [zI] at h;obtain ⟨b,h1,h2⟩:=h;cases b with
      | true=>
       obtain ⟨v,rds,wrs,g1,g2,g3⟩:=jvv hD hM hS (show run1 C M o n (jlu gs d want fr) st nid (λv rds wrs=>κ v rds wrs (jdh gs o.dst))=some r from h2);exact ⟨⟨v,rds,wrs⟩,v,rds,wrs,_,g1,Or.inl ⟨jcn hgd hj hlt htC h1,g2.le (hg.over hf htC h1)⟩,g3,Or.inr rfl,λ_ h=>h,rfl,hg.drop _ _⟩
      | false=>exact ⟨_,_,_,_,_,(show κ _ _ _ _=some r from h2),skip h1,by simp,Or.inr rfl,by simp,rfl,hg.drop _ _⟩
    ·cases h
   ·cases h
  ·cases h
theorem jpo (hD:J7 C.P C.D) (hM:QU X C M) (hS:StM X C M) {ops:Array Oper} {n:Nat} {k:(Nat->V)->jB->List Log->Option Out} :∀(l:List Oper) (nid:Nat) (fr frC:Nat->V) (st:jB) (gs:List GE) (logs:List Log),LeF fr frC->jhT gs frC->
  evOps C M ops n l nid fr st gs logs k=some r-> ∃(T:List Tx) (L:List Log) (fr' frC':Nat->V) (st':jB),k fr' st' (logs++L)=some r/\LeF fr' frC'/\T.length=l.length/\L.length=l.length/\
   (∀(i:Nat) (t:Tx) (lg:Log),T[i]? = some t->L[i]? = some lg->t.rds ⊆ lg.1/\t.wrs=lg.2)/\jAe C.P X ops n (λf s=>f=frC'/\s=st') l T frC st
 | [],nid,fr,frC,st,gs,logs,hf,hg,h=>⟨[],[],fr,frC,st,by simpa [evOps] using h,hf,rfl,rfl,by simp,rfl,rfl⟩
 | o::os,nid,fr,frC,st,gs,logs,hf,hg,h=>by
  obtain ⟨t,v,rds,wrs,gs',h1,h2,h3,h4,h5,h6,h7⟩:=jxg hD hM hS hf hg h;have hf':LeF (Kb fr o.dst v) (Kb frC o.dst t.v):=hf.put o.dst h4;obtain ⟨T,L,fr',frC',st',g1,g2,g3,g4,g5,g6⟩:=jpo hD hM hS os _ _ (Kb frC o.dst t.v) _ gs' _ hf' h7 h1;refine ⟨t::T,(rds,wrs)::L,fr',frC',st',by simpa using g1,g2,by simp [g3],by simp [g4],?_,h2,h3,?_⟩
  ·intro i t' lg ht hl;cases i with
   | zero=>simp at ht hl;subst ht hl;exact ⟨h5,h6⟩
   | succ i=>exact g5 i t' lg (by simpa using ht) (by simpa using hl)
  ·rw [h6];exact g6
theorem jyc {w:Wr} {q:Rd} {ps:List (Nat × Nat)} (h:cWR w q=some ps) (ha:apart ps=true):jbP w q:=by
 unfold cWR at h;split at h
 ·split at h
  ·cases h
  ·rename_i hb;simp only [jbP];rename_i id off _ id' off' _;by_cases e:id=id'
   ·exact Or.inr λe'=>hb (by simp [e,e'])
   ·exact Or.inl e
 ·split at h
  ·cases h;simp only [apart,yU,QO,ZC,kM] at ha;exact Or.inr ha
  ·rename_i hb;refine Or.inl λe=>hb ?_;simp [e]
 ·split at h
  ·cases h;simp only [apart,yU,QO,ZC,kM] at ha;exact Or.inr ha
  ·rename_i hb;refine Or.inl λe=>hb ?_;simp [e]
 ·trivial
 ·trivial
 ·trivial
 ·split at h
  ·cases h
  ·rename_i hb;have hne:w.id≠q.id:=λe=>hb (by simp [e]);cases w<;>cases q<;>simp_all [jbP,Wr.id,Rd.id]
theorem jGe {w q:Wr} {ps:List (Nat × Nat)} (h:cWW w q=some ps) (ha:apart ps=true):jbQ w q:=by
 unfold cWW at h;split at h
 ·split at h
  ·cases h
  ·rename_i hb;simp only [jbQ];rename_i id off _ id' off' _;by_cases e:id=id'
   ·exact Or.inr λe'=>hb (by simp [e,e'])
   ·exact Or.inl e
 ·split at h
  ·cases h;simp only [apart,yU,QO,ZC,kM] at ha;exact Or.inr ha
  ·rename_i hb;refine Or.inl λe=>hb ?_;simp [e]
 ·split at h
  ·cases h
  ·rename_i hb;have hne:w.id≠q.id:=λe=>hb (by simp [e]);cases w<;>cases q<;>simp_all [jbQ,Wr.id]
theorem Ys {ps qs:List (Nat × Nat)} (h:apart (ps++qs)=true):apart ps=true/\apart qs=true:=by
 simpa [apart,List.all_append] using h
theorem juE {α:Type} {g:α->Option (List (Nat × Nat))} {R:α->Prop} (hR:∀b ps,g b=some ps->apart ps=true->R b):∀ {bs:List α} {ps:List (Nat × Nat)},jo9.cOne g bs=some ps->apart ps=true-> ∀b∈bs,R b
 | [],_,_,_=>by simp
 | b::bs,ps,h,ha=>by
  simp only [jo9.cOne] at h;split at h
  ·rename_i x y h1 h2;cases h;obtain ⟨a1,a2⟩:=Ys ha;intro b' hb;rcases List.mem_cons.mp hb with rfl|hb
   ·exact hR _ _ h1 a1
   ·exact juE hR h2 a2 b' hb
  ·cases h
theorem jhu {α β:Type} {f:α->β->Option (List (Nat × Nat))} {R:α->β->Prop} (hR:∀a b ps,f a b=some ps->apart ps=true->R a b):∀ {as:List α} {bs:List β} {ps:List (Nat × Nat)},jo9 f as bs=some ps->apart ps=true-> ∀a∈as,∀b∈bs,R a b
 | [],_,_,_,_=>by simp
 | a::as,bs,ps,h,ha=>by
  simp only [jo9] at h;split at h
  ·rename_i x y h1 h2;cases h;obtain ⟨a1,a2⟩:=Ys ha;intro a' ha';rcases List.mem_cons.mp ha' with rfl|ha'
   ·exact juE (hR _) h1 a1
   ·exact jhu hR h2 a2 a' ha'
  ·cases h
theorem jCb {a b:Log} {ps:List (Nat × Nat)} (h:jyb a b=some ps) (ha:apart ps=true) {t u:Tx} (h1:t.rds ⊆ a.1) (h2:t.wrs=a.2) (h3:u.rds ⊆ b.1) (h4:u.wrs=b.2):jyW t u:=by
 unfold jyb at h;split at h
 ·rename_i x y z e1 e2 e3;cases h;obtain ⟨a1,a3⟩:=Ys ha;obtain ⟨a1,a2⟩:=Ys a1;refine ⟨λw hw q hq=> ?_,λw hw q hq=> ?_,λw hw q hq=> ?_⟩
  ·exact jhu (λ_ _ _=>jyc) e1 a1 w (h2 ▸ hw) q (h3 hq)
  ·exact jhu (λ_ _ _=>jyc) e2 a2 w (h4 ▸ hw) q (h1 hq)
  ·exact jhu (λ_ _ _=>jGe) e3 a3 w (h2 ▸ hw) q (h4 ▸ hq)
 ·cases h
theorem juG {all:List Oper} {o:Oper} {b:Log} :∀ {as:List Log} {i:Nat} {ps:List (Nat × Nat)},jCd all o b i as=some ps->apart ps=true-> ∀(j:Nat) (a:Log),as[j]? = some a->(∃d,jiw all (i+j) d o=true)\/ ∃qs,jyb a b=some qs/\apart qs=true
 | [],_,_,_,_=>by simp
 | a::as,i,ps,h,ha=>by
  simp only [jCd] at h;split at h
  ·rename_i x y h1 h2;cases h;obtain ⟨a1,a2⟩:=Ys ha;intro j a' hj;cases j with
   | zero=>
    simp at hj;subst hj;split at h1
    ·rename_i he;exact Or.inl ⟨2,he⟩
    ·unfold jIc at h1;split at h1
     ·rename_i y hy;cases h1;exact Or.inr ⟨_,hy,a1⟩
     ·split at h1
      ·rename_i he;exact Or.inl ⟨7,he⟩
      ·cases h1
   | succ j=>
    rcases juG h2 a2 j a' (by simpa using hj) with g|g
    ·exact Or.inl (by rwa [show i+(j+1)=i+1+j by omega])
    ·exact Or.inr g
  ·cases h
theorem juF {all:List Oper} :∀ {l:List Oper} {done bs:List Log} {ps:List (Nat × Nat)},jCc all l done bs=some ps->apart ps=true-> ∀(j:Nat) (o:Oper) (b:Log),l[j]? = some o->bs[j]? = some b->
  ∀(i:Nat) (a:Log),i < done.length+j->(done++bs)[i]? = some a->(∃d,jiw all i d o=true)\/ ∃qs,jyb a b=some qs/\apart qs=true
 | [],_,_,_,_,_=>by simp
 | _::_,_,[],_,h,_=>by cases h
 | o::os,done,b::bs,ps,h,ha=>by
  simp only [jCc] at h;split at h
  ·rename_i x y h1 h2;cases h;obtain ⟨a1,a2⟩:=Ys ha;intro j o' b' ho hb i a hi hia;cases j with
   | zero=>
    simp at ho hb;subst ho hb;have hi:i < done.length:=by simpa using hi
    rw [K7 hi] at hia;simpa using juG h1 a1 i a hia
   | succ j=>
    exact juF h2 a2 j o' b' (by simpa using ho) (by simpa using hb) i a (by simp;omega) (by simpa using hia)
  ·cases h
theorem jpl {all:List Oper} {i:Nat} :∀ {d:Nat} {o:Oper},jiw all i d o=true->jm9 .any all.toArray i d o
 | 0,_,h=>by cases h
 | d+1,o,h=>by
  unfold jiw at h;rw [List.any_eq_true] at h;obtain ⟨e,h1,h2⟩:=h;rw [jy,jow] at h2;refine ⟨e,by simpa using h1,h2.1,?_⟩;rcases h2.2 with h3|h3
  ·exact Or.inl (zw h3)
  ·split at h3
   ·rename_i ok hok;exact Or.inr ⟨ok,by simpa using hok,jpl h3⟩
   ·cases h3
theorem jyH (hD:J7 C.P C.D) (hM:QU X C M) (hS:StM X C M) (hm:C.P.follows .mixedOrders=true) {id:Nat} {ops:Array Oper} {draw:Bool} (hx:jc6 (.region id ops draw)=true) {s:St} {κ:St->Option Out} (h:evReg C M ops.toList draw s κ=some r)
  {w0:World} {Z0 O0:Nat->Prop} {shv:Option (List Hd)} {m:zV} {a:Act} {w:World} {Q:Exit->Act->World->Prop} (hs:Sim X w0 Z0 O0 shv m s a w)
  (hQ:∀s' m a w,s'.n=s.n->κ s'=some r->Sim X w0 Z0 O0 shv m s' a w->Q .normal a w):(Code.region id ops draw).wp C.P Q a w:=by
 unfold evReg at h;obtain ⟨T,L,fr',frC',st',h1,h2,h3,h4,h5,h6⟩:=jpo hD hM hS _ _ _ s.fr _ [] _ (LeF.refl _) (by intro g hg;cases hg) h;rw [Ju] at h1;have h1b:(!draw || jvr ops.toList L)=true/\κ ⟨s.n,fr',st',s.nx+8 * ops.toList.length,s.sh⟩=some r:=by
  simp only [brn] at h1;split at h1
  ·split at h1
   ·rename_i hb;exact ⟨hb,h1⟩
   ·cases h1
  ·cases h1
 have hops:ops=ops.toList.toArray:=by simp
 rw [hops];refine jj6 (T:=T) (K:=λf s=>f=frC'/\s=st') hm hs ?_ h6 ?_
 ·intro hd;subst hd;simp only [jc6,jgj,zF] at hx h1b;refine ⟨hx,h3,?_⟩;have hr:=h1b.1;unfold jvr at hr;split at hr
  ·rename_i ps hps;intro i j oj ti tj hij hoj hti htj he;have hoj':ops.toList[j]? = some oj:=by simpa using hoj
   have hjl:j < L.length:=by
    rw [h4];have:=(List.getElem?_eq_some_iff.mp hoj').1;exact this
   have hil:i < L.length:=by omega
   obtain ⟨p1,p2⟩:=h5 j tj _ htj (kO hjl);obtain ⟨q1,q2⟩:=h5 i ti _ hti (kO hil);rcases juF hps hr j oj _ hoj' (kO hjl) i _ (by simpa using hij) (show ([]++L)[i]? = _ from kO hil) with ⟨d,g⟩|⟨qs,g1,g2⟩
   ·exact absurd (jpl g) (he d)
   ·exact jCb g1 g2 q1 q2 p1 p2
  ·cases hr
 ·rintro fr st m a w ⟨rfl,rfl⟩ hs';refine hQ ⟨s.n,fr',st,s.nx+8 * ops.toList.length,s.sh⟩ m a w rfl h1b.2 ?_;exact ⟨hs'.defers,hs'.tsz,hs'.os,hs'.tape,hs'.output,hs'.size,hs'.keep,hs'.new,hs'.sto,λi v hi=>by
   rcases h2 i with e|e
   ·show relV _ _ _ (fr' i) v;rw [e];simp [relV]
   ·show relV _ _ _ (fr' i) v;rw [e];exact hs'.fr i v hi,hs'.sh,hs'.shf⟩
end
end
noncomputable section
theorem jld {w:World} {O:Nat->Prop} {m:zV} {mask:Nat} {fr:Nat->V} :∀(n i:Nat) (us:List Value),us.length=n->(∀j u,us[j]? = some u->relV w O m (fr (i+j)) u)->jx w O m (jgK mask fr n i) us
 | 0,_,us,hl,_=>by simp only [jgK,jx];exact List.length_eq_zero_iff.mp hl
 | n+1,i,[],hl,_=>by cases hl
 | n+1,i,u::us,hl,h=>by
  simp only [jgK,jx];refine ⟨u,us,rfl,?_,jld n (i+1) us (by simpa using hl) λj x hx=>by rw [show i+1+j=i+(j+1) by omega];exact h (j+1) x (by simpa using hx)⟩;split
  ·exact h 0 u rfl
  ·simp [relV]
theorem jln {ids:List Nat} {m m':zV} (h:∀q id,ids[q]? = some id->m' q=m id):∀ {l r:List Nat},jnN ids l=some r->r.map m'=l.map m
 | [],r,e=>by cases e;rfl
 | x::l,r,e=>by
  simp only [jnN] at e;split at e
  ·rename_i i r' h1 h2;cases e;obtain ⟨q,e1,e2⟩:=JX h1;have e1:i=q:=by omega
   subst e1;simp only [zf];rw [h _ _ e2,jln h h2]
  ·cases e
theorem jxU {M:Node->Option Out} {f:FuncId} {p:List Nat} {mask:Nat} {s:St} {r:Out} {X:Ctx} {w0:World} {Z0 O0:Nat->Prop} {shv:Option (List Hd)} {m:zV} {a:Act} {w:World}
  (h:again M f p mask s=some r) (hs:Sim X w0 Z0 O0 shv m s a w) :
  ∃fr objs sh m',M (.head f p fr objs sh)=some r/\Sim X w0 Z0 O0 shv m' (St.of s.n fr objs sh) a w:=by
 unfold again at h;dsimp only at h;split at h;rotate_left
 ·cases h
 rename_i hnd;generalize reach s.st 400 (je4 (jgK mask s.fr s.n 0)++shL s.sh) []=ids at h hnd;have hnd:=jfZ hnd;split at h;rotate_left
 ·cases h
 rename_i sh2 hsh;generalize e1:Yc (Z7 ids (jgK mask s.fr s.n 0)) ids.length=q1 at h;obtain ⟨fr2,os1⟩:=q1;dsimp only at h;generalize e3:Kj (ids.map λid=>jn3 ids (s.st id)) (ids.length+os1.length)=q3 at h;obtain ⟨ob,os3⟩:=q3;dsimp only at h;refine ⟨_,_,_,jdJ ids (os1.length+os3.length) m,h,?_⟩;generalize hM':jdJ ids (os1.length+os3.length) m=m';have m1:∀q id,ids[q]? = some id->m' q=m id:=λq id hq=>by rw [<-hM'];exact jnK hq
 have m2:∀i,ids.length<=i->i < ids.length+os1.length+os3.length->m' i=some .none:=λq h1 h2=>by
  rw [<-hM'];simp only [jdJ];rw [jf (by omega),jg (by omega)]
 have m3:∀i,ids.length+os1.length+os3.length<=i->m' i=none:=λq h1=>by
  rw [<-hM'];simp only [jdJ];rw [jf (by omega),jf (by omega)]
 have n1:KO os1:=by have:=Zu (Z7 ids (jgK mask s.fr s.n 0)) ids.length;rw [e1] at this;exact this
 generalize hst:z7 (ob++os1++os3)=st';obtain ⟨l3,t1,t2,t3⟩:=jqL w (Ow O0 m' st') m' n1 e3 m2;rw [hst] at t1 t2 t3;have hal:∀i id,ids[i]? = some id->(st' i).alive=(s.st id).alive:=by
  intro i id hi;rcases t1 i id hi with h|⟨cs,cs',h1,h2,_⟩
  ·rw [h,jjK]
  ·rw [h1,h2];rfl
 have hren:(∀b,Ow O0 m' st' b->Ow O0 m s.st b)-> ∀(cs:List V) us,jx w (Ow O0 m s.st) m cs us->jx w (Ow O0 m' st') m' (Z7 ids cs) us:=
  λhsub cs us h=>ZT (MonoW.sub hsub) (λq id hq hd h=>by rw [m1 q id hq];exact h) _ _ h
 obtain ⟨hsto,hmz⟩:=Sto.pick (X:=X) (w:=w) (O0':=O0) (m':=m') (st':=st') hs.sto hs.sto.jn (λb hb=>Or.inl hb) (λi=>ids[i]?) (λi=>by
   by_cases hi:i < ids.length
   ·have hg:ids[i]? = some ids[i]:=kO hi;rcases t1 i _ hg with h1|⟨cs,cs',h1,h2,h3⟩
    ·cases hc:s.st ids[i] with
     | dead=>rw [hc] at h1;exact Or.inl ⟨h1,by rw [m1 i _ hg];exact hs.sto.fresh _ hc⟩
     | gone=>rw [hc] at h1;exact Or.inr (Or.inl h1)
     | box cs=>
      rw [hc] at h1;exact Or.inr (Or.inr (Or.inr ⟨_,hg,m1 i _ hg,Or.inr ⟨cs,_,hc,h1,λhsub _ us hus=>hren hsub _ _ hus⟩⟩))
     | row k xs=>rw [hc] at h1;exact Or.inr (Or.inr (Or.inr ⟨_,hg,m1 i _ hg,Or.inl ⟨⟨k,xs,Or.inl h1⟩,by rw [hc];exact h1.symm⟩⟩))
     | fro k xs=>rw [hc] at h1;exact Or.inr (Or.inr (Or.inr ⟨_,hg,m1 i _ hg,Or.inl ⟨⟨k,xs,Or.inr (Or.inl h1)⟩,by rw [hc];exact h1.symm⟩⟩))
     | tre f k xs=>rw [hc] at h1;exact Or.inr (Or.inr (Or.inr ⟨_,hg,m1 i _ hg,Or.inl ⟨⟨k,xs,Or.inr (Or.inr (Or.inl ⟨f,h1⟩))⟩,by rw [hc];exact h1.symm⟩⟩))
     | map xs=>rw [hc] at h1;exact Or.inr (Or.inr (Or.inr ⟨_,hg,m1 i _ hg,Or.inl ⟨⟨0,xs,Or.inr (Or.inr (Or.inr h1))⟩,by rw [hc];exact h1.symm⟩⟩))
    ·exact Or.inr (Or.inr (Or.inr ⟨_,hg,m1 i _ hg,Or.inr ⟨cs,cs',h1,h2,λhsub _ us hus=>h3 us (hren hsub _ _ hus)⟩⟩))
   ·by_cases hi':i < ids.length+os1.length+os3.length
    ·obtain ⟨k,hk⟩:=t2 i (by omega) hi';exact Or.inr (Or.inr (Or.inl ⟨⟨k,Or.inl hk⟩,m2 i (by omega) hi'⟩))
    ·exact Or.inl ⟨t3 i (by omega),m3 i (by omega)⟩)
  (λi i' id h1 h2 _ _=>(List.getElem?_inj (List.getElem?_eq_some_iff.mp h1).1 hnd).mp (h1.trans h2.symm))
  (λi id hd b h1 h2 h3 h4 hb=>(hs.sto.blk id hd b (by rw [<-hal i id h1];exact h2) h3 h4).2 hb)
 have hsub:∀b,Ow O0 m' st' b->Ow O0 m s.st b:=λb hb=>hb.imp id (hmz b);have hres:Sim X w0 Z0 O0 shv m' ⟨s.n,λi=>fr2.getD i .top,st',(ob++os1++os3).length,sh2⟩ a w:=by
  refine ⟨hs.defers,hs.tsz,hs.os,hs.tape,hs.output,hs.size,hs.keep,λb hb=>hs.new b (hmz b hb),hsto,?_,?_,hs.shf⟩
  ·intro i v hv;have g:=jld (mask:=mask) (fr:=s.fr) s.n 0 a.tmps.toList (by rw [jao,hs.tsz]) λj u hu=>by
    rw [yd];exact hs.fr j u (by simpa using hu)
   have g:=Zv _ ids.length _ (λi h1 h2=>m2 i h1 (by rw [e1] at h2;dsimp only at h2;omega)) (hren hsub _ _ g)
   rw [e1] at g;show relV w (Ow O0 m' st') m' (fr2.getD i .top) v;cases hc:fr2[i]? with
   | none=>rw [zY,hc];simp [relV]
   | some c=>
    obtain ⟨u,k1,k2⟩:=Zy g hc;have hv':a.tmps.toList[i]? = some v:=by simpa using hv
    rw [hv'] at k1;cases k1;rw [zY,hc];exact k2
  ·have:=hs.sh;unfold jFn at hsh;split at hsh
   ·rename_i h0;cases hsh;rw [h0] at this;exact this
   ·rename_i l0 hl0;split at hsh
    ·rename_i r hr;cases hsh;rw [hl0] at this;show (some r).map _=_;rw [<-this];simp only [JS];rw [jln m1 hr]
    ·cases hsh
 subst hst;exact hres
end
noncomputable section
def jfg:Code->List Nat->Option Code
 | c,[]=>some c
 | .seq a _,0::r=>jfg a r
 | .seq _ b,1::r=>jfg b r
 | .cond _ x _,0::r=>jfg x r
 | .cond _ _ y,1::r=>jfg y r
 | .block _ b,0::r=>jfg b r
 | .loop b,0::r=>jfg b r
 | _,_=>none
def qw (P:Program) (c:Code) (Q:Exit->Act->World->Prop) (a:Act) (w:World):Prop:=
 ∀(b:Frame) (k:List Item) (cs:List Frame),∃e a' w',Q e a' w'/\Arrives P (lone (b.at a (.code c:: .inLoop c::k)) cs w) b k cs e a' w'
theorem qw.mk {P:Program} {c:Code} {Q:Exit->Act->World->Prop} {a:Act} {w:World} (h:c.wp P (Exit.then (qw P c Q) Q) a w):qw P c Q a w:=by
 intro b k cs;obtain ⟨e,a₁,w₁,hq,harr⟩:=h b (.inLoop c::k) cs;cases e with
 | normal=>
  obtain ⟨e₂,a₂,w₂,hq₂,harr₂⟩:=hq b k cs;exact ⟨e₂,a₂,w₂,hq₂,.of_steps (Steps.trans harr (.one step_inLoop)) harr₂⟩
 | exit id=>exact ⟨_,a₁,w₁,hq,.pass (x:= .inLoop c) rfl (λ_ _=> .inl (by simp)) harr⟩
 | goto l=>exact ⟨_,a₁,w₁,hq,.pass (x:= .inLoop c) rfl (λ_ _=> .inl (by simp)) harr⟩
 | ret=>exact ⟨_,a₁,w₁,hq,.pass (x:= .inLoop c) rfl (λ_ _=> .inl (by simp)) harr⟩
 | panic ch=>exact ⟨_,a₁,w₁,hq,.pass (x:= .inLoop c) rfl (λ_ _=> .inl (by simp)) harr⟩
 | outgrown=>exact ⟨_,a₁,w₁,hq,.pass (x:= .inLoop c) rfl (λ_ _=> .inl (by simp)) harr⟩
theorem qw.wp {P:Program} {c:Code} {Q:Exit->Act->World->Prop} {a:Act} {w:World} (h:qw P c Q a w):(Code.loop c).wp P Q a w:=by
 intro b k cs;obtain ⟨e,a',w',hq,harr⟩:=h b k cs;exact ⟨e,a',w',hq,.of_steps (.one step_loop) harr⟩
def postAt (P:Program):Code->List Nat->(Exit->Act->World->Prop)->Exit->Act->World->Prop
 | .seq a b,0::r,Q=>postAt P a r (Exit.then (b.wp P Q) Q)
 | .seq _ b,1::r,Q=>postAt P b r Q
 | .cond _ x _,0::r,Q=>postAt P x r Q
 | .cond _ _ y,1::r,Q=>postAt P y r Q
 | .block id b,0::r,Q=>postAt P b r (Exit.inBlock id Q)
 | .loop b,0::r,Q=>postAt P b r (Exit.then (qw P b Q) Q)
 | _,_,Q=>Q
def Ex.to:Ex->Exit
 | .normal=> .normal
 | .exit id=> .exit id
 | .ret=> .ret
section
variable {C:Cfg} {M:Node->Option Out} {f:FuncId} {r:Out} {X:Ctx} {w0:World} {Z0 O0:Nat->Prop} {shv:Option (List Hd)} {sn:Nat}
def KOk (X:Ctx) (w0:World) (Z0 O0:Nat->Prop) (shv:Option (List Hd)) (sn:Nat) (r:Out) (κ:Ex->St->Option Out) (Q:Exit->Act->World->Prop):Prop:=
 ∀e s m a w,s.n=sn->κ e s=some r->Sim X w0 Z0 O0 shv m s a w->Q e.to a w
def jeo (C:Cfg) (M:Node->Option Out) (f:FuncId) (X:Ctx) (w0:World) (Z0 O0:Nat->Prop) (shv:Option (List Hd)) (sn:Nat) (r:Out) (c:Code) (p:List Nat) (Q:Exit->Act->World->Prop):Prop:=
 ∀q b s m a w,jfg c q=some (.loop b)->s.n=sn->again M f (p++q) (C.kp f (p++q)) s=some r->Sim X w0 Z0 O0 shv m s a w->qw C.P b (postAt C.P c q Q) a w
theorem YL (hD:J7 C.P C.D) (hM:QU X C M) (hS:StM X C M) (hm:C.P.follows .mixedOrders=true):∀(c:Code) (p:List Nat) (s:St) (κ:Ex->St->Option Out) (Q:Exit->Act->World->Prop) (m:zV) (a:Act) (w:World),
  jc6 c=true->s.n=sn->evC C M f c p s κ=some r->Sim X w0 Z0 O0 shv m s a w->KOk X w0 Z0 O0 shv sn r κ Q->jeo C M f X w0 Z0 O0 shv sn r c p Q->c.wp C.P Q a w
 | .skip,p,s,κ,Q,m,a,w,_,hn,h,hs,hκ,_=>wp_skip (hκ .normal s m a w hn h hs)
 | .region id ops draw,p,s,κ,Q,m,a,w,hx,hn,h,hs,hκ,_=>jyH (C:=C.at f) hD hM hS hm hx h hs λs' m' a' w' hn' hk hs'=>hκ .normal s' m' a' w' (hn'.trans hn) hk hs'
 | .seq x y,p,s,κ,Q,m,a,w,hx,hn,h,hs,hκ,hL=>by
  simp only [jc6,jy] at hx;refine wp_seq (YL hD hM hS hm x (p++[0]) s _ _ m a w hx.1 hn h hs ?_ ?_)
  ·intro e s' m' a' w' hn' hk hs';cases e with
   | normal=>
    refine YL hD hM hS hm y (p++[1]) s' κ Q m' a' w' hx.2 hn' hk hs' hκ ?_;intro q b s m a w hq hn hag hs;rw [yv] at hag;exact hL (1::q) b s m a w hq hn hag hs
   | exit id=>exact hκ (.exit id) s' m' a' w' hn' hk hs'
   | ret=>exact hκ .ret s' m' a' w' hn' hk hs'
  ·intro q b s m a w hq hn hag hs;rw [yv] at hag;exact hL (0::q) b s m a w hq hn hag hs
 | .cond c x y,p,s,κ,Q,m,a,w,hx,hn,h,hs,hκ,hL=>by
  simp only [jc6,jy] at hx;simp only [evC] at h;split at h
  ·rename_i t ht;rw [zI] at h;obtain ⟨b,h1,h2⟩:=h;have hc:a.eval c = .bool b:=by
    have:=hs.ev c;rw [ht] at this;unfold JB at h1;split at h1
    ·cases h1;simpa [relV,rel] using this
    ·cases h1
   refine wp_cond hc ?_;cases b with
   | true=>
    refine YL hD hM hS hm x (p++[0]) s κ Q m a w hx.1 hn h2 hs hκ ?_;intro q b s m a w hq hn hag hs;rw [yv] at hag;exact hL (0::q) b s m a w hq hn hag hs
   | false=>
    refine YL hD hM hS hm y (p++[1]) s κ Q m a w hx.2 hn h2 hs hκ ?_;intro q b s m a w hq hn hag hs;rw [yv] at hag;exact hL (1::q) b s m a w hq hn hag hs
  ·rename_i n neg ht;have hc:=hs.ev c;rw [ht] at hc;simp only [relV] at hc;obtain ⟨b,hc,hb⟩:=hc;refine wp_cond hc ?_;have h:((b != neg)=true->evC C M f x (p++[0]) s κ=some r)/\((b != neg)=false->evC C M f y (p++[1]) s κ=some r):=by
    simp only [brn] at h;split at h
    ·rw [jey] at h;exact ⟨λ_=>h.1,λ_=>h.2⟩
    ·rename_i hnz;have hb:=hb (by simpa [nz] using hnz);subst hb;cases neg
     ·exact ⟨λh0=>(by cases h0),λ_=>by simpa using h⟩
     ·exact ⟨λ_=>by simpa using h,λh0=>(by cases h0)⟩
   cases hbn:(b != neg) with
   | true=>
    have h:=h.1 hbn;refine YL hD hM hS hm x (p++[0]) s κ Q m a w hx.1 hn h hs hκ ?_;intro q b s m a w hq hn hag hs;rw [yv] at hag;exact hL (0::q) b s m a w hq hn hag hs
   | false=>
    have h:=h.2 hbn;refine YL hD hM hS hm y (p++[1]) s κ Q m a w hx.2 hn h hs hκ ?_;intro q b s m a w hq hn hag hs;rw [yv] at hag;exact hL (1::q) b s m a w hq hn hag hs
  ·cases h
 | .block id b,p,s,κ,Q,m,a,w,hx,hn,h,hs,hκ,hL=>by
  refine wp_block (YL hD hM hS hm b (p++[0]) s _ _ m a w hx hn h hs ?_ ?_)
  ·intro e s' m' a' w' hn' hk hs';cases e with
   | normal=>exact hκ .normal s' m' a' w' hn' hk hs'
   | exit id'=>
    simp only [Ex.to,Exit.inBlock];dsimp only at hk;split at hk
    ·rename_i hb;rw [jg (zw hb)];exact hκ .normal s' m' a' w' hn' hk hs'
    ·rename_i hb;rw [jf (λe=>hb (by simp [e]))];exact hκ (.exit id') s' m' a' w' hn' hk hs'
   | ret=>exact hκ .ret s' m' a' w' hn' hk hs'
  ·intro q b s m a w hq hn hag hs;rw [yv] at hag;exact hL (0::q) b s m a w hq hn hag hs
 | .loop b,p,s,κ,Q,m,a,w,hx,hn,h,hs,hκ,hL=>(hL [] b s m a w rfl hn (by rw [qv];exact h) hs).wp
 | .exit id,p,s,κ,Q,m,a,w,_,hn,h,hs,hκ,_=>wp_exit (hκ (.exit id) s m a w hn h hs)
 | .ret,p,s,κ,Q,m,a,w,_,hn,h,hs,hκ,_=>wp_ret (hκ .ret s m a w hn h hs)
 | .label _,p,s,κ,Q,m,a,w,_,hn,h,hs,hκ,_=>wp_label (hκ .normal s m a w hn h hs)
 | .rangeFunc _ _ _ _,_,_,_,_,_,_,_,_,_,h,_,_,_=>by cases h
 | .scope _,_,_,_,_,_,_,_,_,_,h,_,_,_=>by cases h
 | .goto _,_,_,_,_,_,_,_,_,_,h,_,_,_=>by cases h
 | .refuse _,_,_,_,_,_,_,_,_,_,h,_,_,_=>by cases h
theorem jDf (hD:J7 C.P C.D) (hM:QU X C M) (hS:StM X C M) (hm:C.P.follows .mixedOrders=true):∀(c:Code) (q p:List Nat) (s:St) (κ:Ex->St->Option Out) (Q:Exit->Act->World->Prop) (m:zV) (a:Act) (w:World) (b0:Code),
  jc6 c=true->s.n=sn->evAt C M f c q p s κ=some r->jfg c q=some (.loop b0)->Sim X w0 Z0 O0 shv m s a w->KOk X w0 Z0 O0 shv sn r κ Q->jeo C M f X w0 Z0 O0 shv sn r c p Q->qw C.P b0 (postAt C.P c q Q) a w:=by
 intro c;induction c with
 | loop b ih=>
  intro q p s κ Q m a w b0 hx hn h hq hs hκ hL;have hκ':KOk X w0 Z0 O0 shv sn r (λe s'=>match e with | .normal=>again M f p (C.kp f p) s'|e=>κ e s') (Exit.then (qw C.P b Q) Q):=by
   intro e s' m' a' w' hn' hk hs';cases e with
   | normal=>exact hL [] b s' m' a' w' rfl hn' (by rw [qv];exact hk) hs'
   | exit id=>exact hκ (.exit id) s' m' a' w' hn' hk hs'
   | ret=>exact hκ .ret s' m' a' w' hn' hk hs'
  have hL':jeo C M f X w0 Z0 O0 shv sn r b (p++[0]) (Exit.then (qw C.P b Q) Q):=by
   intro q b s m a w hq hn hag hs;rw [yv] at hag;exact hL (0::q) b s m a w hq hn hag hs
  rcases q with _|⟨_|n,q⟩
  ·cases hq;exact qw.mk (YL hD hM hS hm b (p++[0]) s _ _ m a w hx hn h hs hκ' hL')
  ·exact ih q (p++[0]) s _ _ m a w b0 hx hn h hq hs hκ' hL'
  ·cases h
 | seq x y ihx ihy=>
  intro q p s κ Q m a w b0 hx hn h hq hs hκ hL;simp only [jc6,jy] at hx;have hL1:jeo C M f X w0 Z0 O0 shv sn r y (p++[1]) Q:=by
   intro q b s m a w hq hn hag hs;rw [yv] at hag;exact hL (1::q) b s m a w hq hn hag hs
  rcases q with _|⟨_|_|n,q⟩
  ·cases h
  ·refine ihx q (p++[0]) s _ (Exit.then (y.wp C.P Q) Q) m a w b0 hx.1 hn h hq hs ?_ ?_
   ·intro e s' m' a' w' hn' hk hs';cases e with
    | normal=>exact YL hD hM hS hm y (p++[1]) s' κ Q m' a' w' hx.2 hn' hk hs' hκ hL1
    | exit id=>exact hκ (.exit id) s' m' a' w' hn' hk hs'
    | ret=>exact hκ .ret s' m' a' w' hn' hk hs'
   ·intro q b s m a w hq hn hag hs;rw [yv] at hag;exact hL (0::q) b s m a w hq hn hag hs
  ·exact ihy q (p++[1]) s κ Q m a w b0 hx.2 hn h hq hs hκ hL1
  ·cases h
 | cond c x y ihx ihy=>
  intro q p s κ Q m a w b0 hx hn h hq hs hκ hL;simp only [jc6,jy] at hx;rcases q with _|⟨_|_|n,q⟩
  ·cases h
  ·refine ihx q (p++[0]) s κ Q m a w b0 hx.1 hn h hq hs hκ ?_;intro q b s m a w hq hn hag hs;rw [yv] at hag;exact hL (0::q) b s m a w hq hn hag hs
  ·refine ihy q (p++[1]) s κ Q m a w b0 hx.2 hn h hq hs hκ ?_;intro q b s m a w hq hn hag hs;rw [yv] at hag;exact hL (1::q) b s m a w hq hn hag hs
  ·cases h
 | block id b ih=>
  intro q p s κ Q m a w b0 hx hn h hq hs hκ hL;rcases q with _|⟨_|n,q⟩
  ·cases h
  ·refine ih q (p++[0]) s _ (Exit.inBlock id Q) m a w b0 hx hn h hq hs ?_ ?_
   ·intro e s' m' a' w' hn' hk hs';cases e with
    | normal=>exact hκ .normal s' m' a' w' hn' hk hs'
    | exit id'=>
     simp only [Ex.to,Exit.inBlock];dsimp only at hk;split at hk
     ·rename_i hb;rw [jg (zw hb)];exact hκ .normal s' m' a' w' hn' hk hs'
     ·rename_i hb;rw [jf (λe=>hb (by simp [e]))];exact hκ (.exit id') s' m' a' w' hn' hk hs'
    | ret=>exact hκ .ret s' m' a' w' hn' hk hs'
   ·intro q b s m a w hq hn hag hs;rw [yv] at hag;exact hL (0::q) b s m a w hq hn hag hs
  ·cases h
 | _=>intro q p s κ Q m a w b0 hx hn h hq hs hκ hL;cases h
end
end
noncomputable section
section
variable {C:Cfg} {X:Ctx} {w0 w:World} {Z0 O0:Nat->Prop} {shv:Option (List Hd)} {m:zV} {s:St} {a:Act} {st:jB}
theorem jsJ (hD:J7 C.P C.D) {t id off b c n:Nat} {v:V} {rds:List Rd} (h:Zn C t (.ptr id off) st = .val v rds) (hs:Sto X w O0 m st) (h1:m id=some (.blk b c n)) :
  ∃z,(loadVar t ⟨b,off,none⟩).run C.P w = .ok z w/\relV w (Ow O0 m st) m v z:=by
 unfold Zn at h;split at h
 ·cases h
 ·rename_i i hi;dsimp only at h;split at h
  ·rename_i cs hst;obtain ⟨vs,g3,g4⟩:=jfN hs hst h1;split at h
   ·rename_i hp;split at h
    ·rename_i v' hv;cases h;obtain ⟨u,g5,g6⟩:=Zy g3 hv;have hlt:=(ZW.1 g5).1;have hk:i.kind.known=true:=by cases hi:i.kind<;>simp_all [TK.known,TK.plain]
     obtain ⟨z,q1,q2⟩:=run_loadCells (P:=C.P) (hD _ _ hi) hk (g4.drop off) (by rw [(hD _ _ hi).one hp];simp;omega)
     rcases q2 with ⟨_,q2⟩|⟨q2,_⟩
     ·have e:z=u:=by rw [QQ,j9,g5] at q2;cases q2;rfl
      subst e;exact ⟨z,by simpa using q1,g6⟩
     ·rw [hp] at q2;cases q2
    ·cases h
   ·rename_i hp;split at h
    ·rename_i hk;simp only [jy,jdt] at hk;cases h;have hvl:=yf g3;obtain ⟨z,q1,q2⟩:=run_loadCells (P:=C.P) (hD _ _ hi) hk.1 (g4.drop off) (by simp;omega);rcases q2 with ⟨q2,_⟩|⟨_,rfl⟩
     ·exact absurd q2 hp
     ·refine ⟨_,by simpa using q1,?_⟩;simp only [relV];exact ⟨_,rfl,Y0 _ (YZ _ g3)⟩
    ·cases h
  ·cases h
def jg2 (tmps:Array Value):ResultVar->Sem Value
 | .tmp t=>pure (tmps.getD t undef)
 | .cell a t=>do loadVar t (<-asAddr (tmps.getD a undef))
theorem jvt (hD:J7 C.P C.D) (hs:Sim X w0 Z0 O0 shv m s a w) {x:ResultVar} {v:V} (h:jDU C s x=some v):∃z,(jg2 a.tmps x).run C.P w = .ok z w/\relV w (Ow O0 m s.st) m v z:=by
 cases x with
 | tmp t=>
  cases h;exact ⟨a.tmps.getD t undef,by simp [jg2],hs.ev (.tmp t)⟩
 | cell b t=>
  simp only [jDU] at h;split at h
  ·rename_i v' rds hl;cases h;have hb:=hs.ev (.tmp b);revert hl hb;generalize evF s.n s.fr (.tmp b)=p;intro hl hb;cases p with
   | ptr id off=>
    simp only [relV] at hb;obtain ⟨bb,c,n,h1,h2⟩:=hb;obtain ⟨z,h3,h4⟩:=jsJ hD hl hs.sto h1;refine ⟨z,?_,h4⟩;simp only [Act.eval] at h2;simp only [jg2,yz,h2,asAddr,yG,ym,h3]
   | d p=>
    unfold Zn at hl;split at hl
    ·cases hl
    ·dsimp only at hl;split at hl
     ·cases hl
     ·split at hl<;>cases hl
   | rptr id i k j=>
    unfold Zn at hl;split at hl
    ·cases hl
    ·dsimp only at hl;split at hl
     ·split at hl
      ·split at hl
       ·cases hl
       ·split at hl<;>cases hl
      ·cases hl
     ·cases hl
   | _=>
    unfold Zn at hl;split at hl<;>cases hl
  ·cases h
theorem jhG (hD:J7 C.P C.D) (hs:Sim X w0 Z0 O0 shv m s a w):∀(l:List ResultVar) (ts:List TypeId) {vs:List V},jn4 C s l ts=some vs-> ∃us,(l.mapM (jg2 a.tmps)).run C.P w = .ok us w/\jx w (Ow O0 m s.st) m vs us
 | [],ts,vs,h=>by
  simp only [jn4] at h;cases h;exact ⟨[],by simp,by simp [jx]⟩
 | x::l,[],vs,h=>by
  simp only [jn4] at h;split at h
  ·rename_i v vs' h1 h2;cases h;obtain ⟨z,g1,g2⟩:=jvt hD hs h1;obtain ⟨us,g3,g4⟩:=jhG hD hs l [] h2;exact ⟨z::us,by simp only [List.mapM_cons,yz,g1,ym,g3,yG],by simp only [jx];exact ⟨z,us,rfl,g2,g4⟩⟩
  ·cases h
 | x::l,t::ts,vs,h=>by
  simp only [jn4] at h;split at h
  ·rename_i v vs' h1 h2;cases h;obtain ⟨z,g1,g2⟩:=jvt hD hs h1;obtain ⟨us,g3,g4⟩:=jhG hD hs l ts h2;exact ⟨z::us,by simp only [List.mapM_cons,yz,g1,ym,g3,yG],by simp only [jx];exact ⟨z,us,rfl,qY g2,g4⟩⟩
  ·cases h
theorem jsM (hD:J7 C.P C.D) (hs:Sim X w0 Z0 O0 shv m s a w) {fn:Func} {out:Out} (h:jeG C fn s=some out):∃v,(results fn a.tmps).run C.P w = .ok v w/\rel w O0 out.1 v/\out.2 = []:=by
 unfold jeG at h;split at h
 ·rename_i vs hvs;split at h
  ·rename_i r rds hr;cases h;obtain ⟨us,h1,h2⟩:=jhG hD hs _ _ hvs;have hm:(fn.results.mapM (jg2 a.tmps)).run C.P w = .ok us.toArray w:=by
    rw [jtW];simp only [Sem.run_map,h1,ym]
   have hl:=yf h2;refine ⟨if h:us.toArray.size=1 then us.toArray[0] else .tuple us.toArray,?_,?_,rfl⟩
   ·have e:results fn a.tmps=(do let vs <-fn.results.mapM (jg2 a.tmps);pure (if h:vs.size=1 then vs[0] else .tuple vs)):=by
     unfold results;congr 1
    rw [e];simp only [yz,hm];simp only [ym,yG]
   ·have hrel:relV w (Ow O0 m s.st) m (YR vs) (if h:us.toArray.size=1 then us.toArray[0] else .tuple us.toArray):=by
     match vs,us,h2,hl with
     | [r],[v],h2,_=>
      simp only [jx,Qd] at h2;obtain ⟨u,t,⟨rfl,rfl⟩,h3,_⟩:=h2;simpa [YR] using h3
     | [],us,h2,hl=>
      have hne:¬us.toArray.size=1:=by simp at hl ⊢;simp [hl]
      rw [dif_neg hne];simp only [YR,relV];exact ⟨us,rfl,h2⟩
     | r1::r2::rs,us,h2,hl=>
      have hne:¬us.toArray.size=1:=by simp at hl ⊢;omega
      rw [dif_neg hne];simp only [YR,relV];exact ⟨us,rfl,h2⟩
    have hg:=jhF hs.sto 60 (YR vs) hr hrel;refine yc (MonoW.sub λb hb=>⟨Or.inl hb,?_⟩) _ _ hg;rintro ⟨id,o,hd,h3,h4,h5,h7⟩;have h6:=jhK 60 (YR vs) hr _ h3;simp only [yV] at h6;exact (hs.sto.blk id hd b (by rw [h6];exact h4) h5 h7).2 hb
  ·cases h
 ·cases h
structure Sane (C:Cfg):Prop where
 ty:J7 C.P C.D
 mixed:C.P.follows .mixedOrders=true
 names:∀(f:FuncId) (fn:Func),C.P.funcs[f]? = some fn->(fn.name == "runtime.NumGoroutine")=false
 lex:∀(f:FuncId) (fn:Func) (c:Code),C.P.funcs[f]? = some fn->fn.body=some c->jc6 c=true
theorem jdW {O:Nat->Prop} :∀ {as:List A} {us:List Value},jS w O as us->jx w O m (as.map V.d) us
 | [],us,h=>by simpa [jS,jx] using h
 | x::as,us,h=>by
  simp only [jS] at h;obtain ⟨v,r,h1,h2,h3⟩:=h;simp only [zf,jx,relV];exact ⟨v,r,h1,h2,jdW h3⟩
structure ExtM (c c':MAcc):Prop where
 as:∀(i:Nat) (a:A),c.as[i]? = some a->c'.as[i]? = some a
 ns:∀(i:Nat) (x:Option Nat),c.ns[i]? = some x->c'.ns[i]? = some x
 rds:∀x,x∈c.rds->x∈c'.rds
theorem ExtM.refl (c:MAcc):ExtM c c:=⟨λ_ _ h=>h,λ_ _ h=>h,λ_ h=>h⟩
theorem ExtM.trans {a b c:MAcc} (h:ExtM a b) (k:ExtM b c):ExtM a c:=⟨λi x e=>k.as i x (h.as i x e),λi x e=>k.ns i x (h.ns i x e),λx e=>k.rds x (h.rds x e)⟩
theorem juT {α:Type} {l:List α} {x:α} :∀(i:Nat) (a:α),l[i]? = some a->(l++[x])[i]? = some a:=λi a h=>by
 rw [K7 (List.getElem?_eq_some_iff.mp h).1];exact h
theorem ExtM.ns1 (c:MAcc) (x:Option Nat):ExtM c ⟨c.as,c.ns++[x],c.rds⟩:=⟨λ_ _ h=>h,juT,λ_ h=>h⟩
theorem ExtM.as1 (c:MAcc) (a:A) (r:List Rd):ExtM c ⟨c.as++[a],c.ns,c.rds++r⟩:=⟨juT,λ_ _ h=>h,λ_ h=>JA _ h⟩
def nsM (m:zV):Option Nat->Option Hd
 | some id=>m id
 | none=>some .none
def owI (id:Nat):OW->Option Nat
 | .cons=>none
 | _=>some id
def rowIs (st:jB) (b:Bool) (k:Nat) (xs:List (List A)):Option Nat->Prop
 | none=>xs = []/\Nat.blt (kdK k) 128=true
 | some id=>QI b k xs = .gone\/(st id=QI b k xs/\(QI b k xs).alive=true)
theorem Qw {st:jB} {b:Bool} {k:Nat} {xs:List (List A)} {id:Nat} {o:Abs.Obj} (h:rowIs st b k xs (some id)) (e:o=QI b k xs) (ha:o.alive=true):st id=o/\(st id).alive=true:=by
 rcases h with h|⟨h1,h2⟩
 ·rw [e,h] at ha;cases ha
 ·rw [h1,e];exact ⟨rfl,h2⟩
def jkC (sh:List Nat) (ns:List (Option Nat)) (m:zV):zV:=λi=>
 if i < sh.length then (sh[i]?).bind m else match ns[i - sh.length]? with
  | some (some id)=>m id
  | some none=>some .none
  | none=>none
theorem jnM {sh:List Nat} {ns:List (Option Nat)} {m:zV} {q id:Nat} (h:sh[q]? = some id):jkC sh ns m q=m id:=by
 have:=(List.getElem?_eq_some_iff.mp h).1;unfold jkC;rw [jg this,h];rfl
theorem jnL {sh:List Nat} {ns:List (Option Nat)} {m:zV} {q:Nat} {x:Option Nat} (h:ns[q]? = some x):jkC sh ns m (sh.length+q)=nsM m x:=by
 unfold jkC;have e:sh.length+q - sh.length=q:=by omega
 rw [jf (by omega),e];rw [h];cases x<;>rfl
theorem jtk:∀(ds:List A),((List.range ds.length).map λj=>V.d (jb ds j))=ds.map V.d:=λds=>by
 refine jbh λi=> ?_;rw [Jv,Jv];by_cases h:i < ds.length
 ·rw [jfs h,kO h];simp [jb,h]
 ·rw [y9 (by simpa using h),y9 (by omega)];rfl
def jB0 (st:jB) (w:World) (m:zV) (O O':Nat->Prop) (F:MAcc):Prop:=∀(a:A) (r:List Rd) (v:V) (u:Value),toA st 60 v=some (a,r)->(∀x∈r,x∈F.rds)->relV w O m v u->rel w O' a u
section
variable {O O':Nat->Prop} {F:MAcc} {sh:List Nat}
mutual
theorem jlo :
  ∀(s:Sh) (v:V) {c c':MAcc},mt st sh s v c=some c'->ExtM c c'/\(jB0 st w m O O' F->ExtM c' F-> ∀u,relV w O m v u->relV w O' (jkC sh F.ns m) (s.toV F.as) u)
 | .d i,v,c,c',h=>by
  simp only [mt] at h;split at h
  ·rename_i a r ha;split at h
   ·rename_i hb;cases h;have hb:=zw hb;refine ⟨ExtM.as1 _ _ _,λhR hF u hu=> ?_⟩;have:F.as[i]? = some a:=hF.as i a (by rw [hb];simp);simp only [Sh.toV,relV];rw [zY,this];exact hR a r v u ha (λx hx=>hF.rds x (by simp [hx])) hu
   ·cases h
  ·cases h
 | .row o,v,c,c',h=>by
  cases v<;>simp only [mt,reduceCtorEq] at h
  case row id=>
   split at h
   ·rename_i q hq;split at h
    ·rename_i hb;cases h;have hb:=zw hb;subst hb;refine ⟨ExtM.refl _,λhR hF u hu=> ?_⟩;simp only [relV,Sh.toV] at hu ⊢;obtain ⟨hd,h1,h2⟩:=hu;exact ⟨hd,by rw [jnM hq];exact h1,h2⟩
    ·cases h
   ·split at h
    ·rename_i hb;cases h;have hb:=zw hb;refine ⟨ExtM.ns1 _ _,λhR hF u hu=> ?_⟩;simp only [relV,Sh.toV] at hu ⊢;obtain ⟨hd,h1,h2⟩:=hu;refine ⟨hd,?_,h2⟩;rw [hb,jnL (hF.ns c.ns.length (some id) (by simp))];exact h1
    ·cases h
  case nil k=>
   split at h
   ·rename_i hb;cases h;have hb:=zw hb;refine ⟨ExtM.ns1 _ _,λhR hF u hu=> ?_⟩;simp only [relV,Sh.toV] at hu ⊢;refine ⟨.none,?_,hu⟩;rw [hb,jnL (hF.ns c.ns.length none (by simp))];rfl
   ·cases h
 | .ptr o off,v,c,c',h=>by
  cases v<;>simp only [mt,reduceCtorEq] at h
  case ptr id off'=>
   split at h
   ·rename_i q hq;split at h
    ·rename_i hb;simp only [jy] at hb;cases h;have hb1:=zw hb.1;have hb2:=zw hb.2;subst hb1 hb2;refine ⟨ExtM.refl _,λhR hF u hu=> ?_⟩;simp only [relV,Sh.toV] at hu ⊢;obtain ⟨b,cc,n,h1,h2⟩:=hu;exact ⟨b,cc,n,by rw [jnM hq];exact h1,h2⟩
    ·cases h
   ·cases h
 | .agg l,v,c,c',h=>by
  cases v<;>simp only [mt,reduceCtorEq] at h
  case agg cs=>
   obtain ⟨h1,h2⟩:=jja l cs h;refine ⟨h1,λhR hF u hu=> ?_⟩;simp only [relV,Sh.toV] at hu ⊢;obtain ⟨vs,h3,h4⟩:=hu;exact ⟨vs,h3,h2 hR hF vs h4⟩
  case d a=>
   rw [zI] at h;obtain ⟨ds,ha,h⟩:=h;obtain ⟨h1,h2⟩:=jja l _ h;refine ⟨h1,λhR hF u hu=> ?_⟩;unfold jIP at ha;split at ha
   ·split at ha
    ·rename_i hl;cases ha;simp only [relV,rel,Sh.toV] at hu ⊢;obtain ⟨vs,h3,h4⟩:=hu;refine ⟨vs,h3,h2 hR hF vs ?_⟩;rw [<-hl,jtk];exact jdW h4
    ·cases ha
   ·cases ha
 | .tup l,v,c,c',h=>by
  cases v<;>simp only [mt,reduceCtorEq] at h
  case tup cs=>
   obtain ⟨h1,h2⟩:=jja l cs h;refine ⟨h1,λhR hF u hu=> ?_⟩;simp only [relV,Sh.toV] at hu ⊢;obtain ⟨vs,h3,h4⟩:=hu;exact ⟨vs,h3,h2 hR hF vs h4⟩
theorem jja :
  ∀(l:List Sh) (vs:List V) {c c':MAcc},Q8 st sh l vs c=some c'->ExtM c c'/\(jB0 st w m O O' F->ExtM c' F-> ∀us,jx w O m vs us->jx w O' (jkC sh F.ns m) (Sh.toVL F.as l) us)
 | [],[],c,c',h=>by
  simp only [Q8] at h;cases h;exact ⟨ExtM.refl _,λ_ _ us hu=>by simpa [jx,Sh.toVL] using hu⟩
 | [],_::_,_,_,h=>by simp only [Q8,reduceCtorEq] at h
 | _::_,[],_,_,h=>by simp only [Q8,reduceCtorEq] at h
 | s::l,v::vs,c,c',h=>by
  simp only [Q8] at h;rw [zI] at h;obtain ⟨c1,g1,g2⟩:=h;obtain ⟨h1,h2⟩:=jlo s v g1;obtain ⟨h3,h4⟩:=jja l vs g2;refine ⟨h1.trans h3,λhR hF us hu=> ?_⟩;simp only [jx,Sh.toVL] at hu ⊢;obtain ⟨x,r,e,q1,q2⟩:=hu;exact ⟨x,r,e,h2 hR (h3.trans hF) x q1,h4 hR hF r q2⟩
end
theorem js9 :
  ∀(ws:List OW) (ids:List Nat) {c c':MAcc},mtB st sh ws ids c=some c'->ExtM c c'/\ws.length=ids.length/\(jB0 st w m O O' F->ExtM c' F-> ∀(i:Nat) (l:List Sh) (id:Nat),ws[i]? = some (.box l)->ids[i]? = some id-> ∃cs,st id = .box cs/\ ∀us,jx w O m cs us->jx w O' (jkC sh F.ns m) (Sh.toVL F.as l) us)
 | [],[],c,c',h=>by
  simp only [mtB] at h;cases h;exact ⟨ExtM.refl _,rfl,λ_ _ i l id h=>by simp at h⟩
 | [],_::_,_,_,h=>by simp only [mtB,reduceCtorEq] at h
 | x::_,[],_,_,h=>by cases x<;>simp only [mtB,reduceCtorEq] at h
 | x::ws,id::ids,c,c',h=>by
  have gen:mtB st sh ws ids c=some c'->(∀l,x≠ .box l)->ExtM c c'/\(x::ws).length=(id::ids).length/\(jB0 st w m O O' F->ExtM c' F-> ∀(i:Nat) (l:List Sh) (id':Nat),(x::ws)[i]? = some (.box l)->(id::ids)[i]? = some id'-> ∃cs,st id' = .box cs/\ ∀us,jx w O m cs us->jx w O' (jkC sh F.ns m) (Sh.toVL F.as l) us):=by
   intro h hx;obtain ⟨h1,h2,h3⟩:=js9 ws ids h;refine ⟨h1,by simp [h2],λhR hF i l id' hi hid=> ?_⟩;cases i with
   | zero=>simp at hi;exact absurd hi (hx l)
   | succ i=>exact h3 hR hF i l id' (by simpa using hi) (by simpa using hid)
  cases x with
  | cons=>exact gen (by simpa only [mtB] using h) λl h=>by cases h
  | io j=>exact gen (by simpa only [mtB] using h) λl h=>by cases h
  | box l=>
   simp only [mtB] at h;split at h
   ·rename_i cs hst;rw [zI] at h;obtain ⟨c1,g1,g2⟩:=h;obtain ⟨h1,h2⟩:=jja l cs g1;obtain ⟨h3,h4,h5⟩:=js9 ws ids g2;refine ⟨h1.trans h3,by simp [h4],λhR hF i l' id' hi hid=> ?_⟩;cases i with
    | zero=>
     simp at hi hid;subst hi hid;exact ⟨cs,hst,λus hus=>h2 hR (h3.trans hF) us hus⟩
    | succ i=>exact h5 hR hF i l' id' (by simpa using hi) (by simpa using hid)
   ·cases h
end
theorem jhC {st:jB} {sh:List Nat} :∀ {ws:List OW} {ids:List Nat} {c c':MAcc},mtB st sh ws ids c=some c'->ws.length=ids.length
 | [],[],c,c',_=>rfl
 | [],_::_,_,_,h=>by simp only [mtB,reduceCtorEq] at h
 | x::_,[],_,_,h=>by cases x<;>simp only [mtB,reduceCtorEq] at h
 | x::ws,id::ids,c,c',h=>by
  cases x with
  | cons=>simp only [mtB] at h;simp [jhC h]
  | io j=>simp only [mtB] at h;simp [jhC h]
  | box l=>
   simp only [mtB] at h;split at h
   ·rw [zI] at h;obtain ⟨c1,g1,g2⟩:=h;simp [jhC g2]
   ·cases h
theorem jcR {st:jB} {sh:List Nat} :∀ {ws:List OW} {ids:List Nat} {c c':MAcc} {i id:Nat} {l:List Sh},mtB st sh ws ids c=some c'->ws[i]? = some (.box l)->ids[i]? = some id-> ∃cs,st id = .box cs
 | [],_,_,_,_,_,_,_,h,_=>by simp at h
 | _::_,[],_,_,_,_,_,_,_,h=>by simp at h
 | x::ws,y::ids,c,c',i,id,l,h,hi,hid=>by
  cases i with
  | zero=>
   simp at hi hid;subst hi hid;simp only [mtB] at h;split at h
   ·rename_i cs hst;exact ⟨cs,hst⟩
   ·cases h
  | succ i=>
   simp only [j4] at hi hid;cases x with
   | cons=>simp only [mtB] at h;exact jcR h hi hid
   | io j=>simp only [mtB] at h;exact jcR h hi hid
   | box l=>
    simp only [mtB] at h;split at h
    ·rw [zI] at h;obtain ⟨c1,g1,g2⟩:=h;exact jcR g2 hi hid
    ·cases h
theorem jll:∀ {ws:List OW} {sh:List Nat},ws.length=sh.length->(jeV ws sh).length=ws.length/\ ∀(i:Nat) (ow:OW) (id:Nat),ws[i]? = some ow->sh[i]? = some id->(jeV ws sh)[i]? = some (owI id ow)
 | [],[],_=>⟨rfl,λi ow id h=>by simp at h⟩
 | [],_::_,h=>by cases h
 | _::_,[],h=>by cases h
 | x::ws,y::sh,h=>by
  obtain ⟨h1,h2⟩:=jll (ws:=ws) (sh:=sh) (by simpa using h);have e:jeV (x::ws) (y::sh)=owI y x::jeV ws sh:=by cases x<;>rfl
  rw [e];refine ⟨by simp [h1],λi ow id hi hid=> ?_⟩;cases i with
  | zero=>simp at hi hid;subst hi hid;cases x<;>rfl
  | succ i=>exact h2 i ow id (by simpa using hi) (by simpa using hid)
theorem jiE:∀ {ws:List OW} {sh:List Nat},ws.length=sh.length->(ioL ws sh).length=ioN ws
 | [],[],_=>rfl
 | [],_::_,h=>by cases h
 | _::_,[],h=>by cases h
 | x::ws,y::sh,h=>by
  have:=jiE (ws:=ws) (sh:=sh) (by simpa using h);cases x<;>simp [ioL,ioN,this]
theorem jcP:∀ {ws:List OW} {sh:List Nat} {n:Nat},jy0 ws n=true-> ∀(i j id:Nat),ws[i]? = some (.io j)->sh[i]? = some id->n<=j/\(ioL ws sh)[j - n]? = some (some id)
 | [],_,_,_,i,j,id,h,_=>by simp at h
 | _::_,[],_,_,i,j,id,_,h=>by simp at h
 | x::ws,y::sh,n,ho,i,j,id,h,hid=>by
  cases x with
  | io j0=>
   simp only [jy0,jy] at ho;have e0:=zw ho.1;subst e0;cases i with
   | zero=>simp at h hid;subst h hid;exact ⟨kz _,by simp [ioL]⟩
   | succ i=>
    obtain ⟨h1,h2⟩:=jcP ho.2 i j id (by simpa using h) (by simpa using hid);refine ⟨by omega,?_⟩;rw [show j - j0=(j - (j0+1))+1 by omega];simpa [ioL] using h2
  | cons=>
   cases i with
   | zero=>simp at h
   | succ i=>exact jcP (ws:=ws) (sh:=sh) (n:=n) ho i j id (by simpa using h) (by simpa using hid)
  | box l=>
   cases i with
   | zero=>simp at h
   | succ i=>exact jcP (ws:=ws) (sh:=sh) (n:=n) ho i j id (by simpa using h) (by simpa using hid)
theorem jcT {a:A} {x:Unit} (h:pNo a=some x):ZH a=false:=by
 unfold pNo at h;split at h
 ·rfl
 ·cases h
theorem jA5 {b:Bool} {k k':Nat} {xs:List (List A)} (h1:k'=kdK k) (h2:Nat.blt (kdK k) 64=true):QI b k xs = .gone\/QI b k xs = .row k' xs:=by
 rcases Y1 b k xs with h|⟨q,h,rfl⟩
 ·exact Or.inl h
 ·right;rw [h,h1];unfold Q7;rw [h2];rfl
theorem jdY {st:jB} {a:A} :∀ {ks:List Nat} {l:List (Option Nat)} {rs:List (List (List A))},jaU st a ks l=some rs->rs.length=ks.length/\l.length=ks.length/\
  ∀(j:Nat) (x:Option Nat),l[j]? = some x-> ∃k xs,ks[j]? = some k/\rs[j]? = some xs/\rowIs st (ZH a) k xs x
 | [],[],rs,h=>by simp only [jaU] at h;cases h;exact ⟨rfl,rfl,λj x h=>by simp at h⟩
 | [],_::_,_,h=>by simp only [jaU,reduceCtorEq] at h
 | _::_,[],_,h=>by simp only [jaU,reduceCtorEq] at h
 | k::ks,none::l,rs,h=>by
  simp only [jaU] at h;obtain ⟨r,hr,h⟩:=zI.1 h;split at h
  ·rename_i h128;cases h;obtain ⟨h1,h2,h3⟩:=jdY hr;refine ⟨by simp [h1],by simp [h2],λj x hx=> ?_⟩;cases j with
   | zero=>simp at hx;subst hx;exact ⟨k,[],rfl,rfl,rfl,h128⟩
   | succ j=>simpa using h3 j x (by simpa using hx)
  ·cases h
 | k::ks,some id::l,rs,h=>by
  simp only [jaU] at h;obtain ⟨r,hr,h⟩:=zI.1 h;obtain ⟨h1,h2,h3⟩:=jdY hr;have fin:∀xs,rs=xs::r->rowIs st (ZH a) k xs (some id)->rs.length=(k::ks).length/\(some id::l).length=(k::ks).length/\
    ∀(j:Nat) (x:Option Nat),(some id::l)[j]? = some x-> ∃k_1 xs,(k::ks)[j]? = some k_1/\rs[j]? = some xs/\rowIs st (ZH a) k_1 xs x:=by
   rintro xs rfl hi;refine ⟨by simp [h1],by simp [h2],λj x hx=> ?_⟩;cases j with
   | zero=>simp at hx;subst hx;exact ⟨k,xs,rfl,rfl,hi⟩
   | succ j=>simpa using h3 j x (by simpa using hx)
  split at h
  ·rename_i k' xs hst;split at h
   ·rename_i hb;cases h;rw [jy] at hb;refine fin xs rfl ?_;rcases jA5 (b:=ZH a) (xs:=xs) (zw hb.1) hb.2 with g|g
    ·exact Or.inl g
    ·exact Or.inr ⟨by rw [g,hst],by rw [g];rfl⟩
   ·cases h
  ·rename_i k' xs hst;split at h
   ·rename_i hb;cases h;simp only [jy,jan] at hb;have hb1:=zw hb.1;have hb2:=hb.2.1;have hb3:=hb.2.2;subst hb1;refine fin xs rfl (Or.inr ?_);have:Nat.blt (k'+64) 64=false:=by
     cases hh:Nat.blt (k'+64) 64 with
     | false=>rfl
     | true=>rw [jcy] at hh;omega
    have e:QI (ZH a) (k'+64) xs = .tre true k' xs:=by
     unfold QI Q7;rw [hb3,this,hb2];simp only [cond_true,cond_false];rw [show k'+64 - 64=k' by omega]
    exact ⟨by rw [e,hst],by rw [e];rfl⟩
   ·cases h
  ·rename_i xs hst;split at h
   ·rename_i hb;cases h;have hb1:=zw hb;subst hb1;exact fin xs rfl (Or.inr ⟨hst,rfl⟩)
   ·cases h
  ·split at h
   ·rename_i hst hb;obtain ⟨u,hu,h⟩:=zI.1 h;cases h;refine fin [] rfl (Or.inl ?_);rw [jcT hu];have:Nat.blt k 256=false:=by
     cases hh:Nat.blt k 256 with
     | false=>rfl
     | true=>rw [jcy] at hh;rw [jdt] at hb;omega
    unfold QI;rw [this];rfl
   ·cases h
  ·cases h
theorem jvz:∀ {ks:List Nat} {rs:List (List (List A))} {j k:Nat} {r:List (List A)},ks[j]? = some k->rs[j]? = some r->(slL ks rs)[j]? = some (.sl k r)
 | [],_,_,_,_,h,_=>by simp at h
 | _::_,[],_,_,_,_,h=>by simp at h
 | k0::ks,r0::rs,j,k,r,h1,h2=>by
  cases j with
  | zero=>simp at h1 h2;subst h1 h2;rfl
  | succ j=>simpa [slL] using jvz (ks:=ks) (rs:=rs) (by simpa using h1) (by simpa using h2)
theorem jeN {x:Nat} :∀ {l:List (Option Nat)},jpB x l=true↔some x∈l
 | []=>by simp [jpB]
 | none::l=>by simp only [jpB,jZ,reduceCtorEq,false_or];exact jeN
 | some y::l=>by
  simp only [jpB,jow,jZ,zg];rw [jeN];exact or_congr ⟨zw,λe=>by simp [e]⟩ Iff.rfl
theorem jdQ:∀ {l:List (Option Nat)},jjg l=true-> ∀(i j x:Nat),l[i]? = some (some x)->l[j]? = some (some x)->i=j
 | [],_,i,j,x,h,_=>by simp at h
 | none::l,hn,i,j,x,h1,h2=>by
  cases i with
  | zero=>simp at h1
  | succ i=>
   cases j with
   | zero=>simp at h2
   | succ j=>congr 1;exact jdQ (l:=l) hn i j x (by simpa using h1) (by simpa using h2)
 | some y::l,hn,i,j,x,h1,h2=>by
  simp only [jjg,jy,jan] at hn;have hy:∀q,l[q]?≠some (some y):=λq hq=>by
   have:=jeN.mpr (Yd hq);rw [hn.1] at this;cases this
  cases i with
  | zero=>
   simp at h1;subst h1;cases j with
   | zero=>rfl
   | succ j=>exact absurd (by simpa using h2) (hy j)
  | succ i=>
   cases j with
   | zero=>simp at h2;subst h2;exact absurd (by simpa using h1) (hy i)
   | succ j=>congr 1;exact jdQ hn.2 i j x (by simpa using h1) (by simpa using h2)
theorem jyF:∀ {a b:List Nat},eqP a b=true->a=b
 | [],[],_=>rfl
 | [],_::_,h=>by cases h
 | _::_,[],h=>by cases h
 | x::a,y::b,h=>by
  simp only [eqP,jy] at h;rw [zw h.1,jyF h.2]
theorem jvH:∀ {k n q:Nat},q < k->(ups n k)[q]? = some (n+q)
 | 0,_,_,h=>by omega
 | k+1,n,0,_=>rfl
 | k+1,n,q+1,h=>by
  have:=jvH (k:=k) (n:=n+1) (q:=q) (by omega);simp only [ups,j4,this];congr 1;omega
theorem jqi {o:Abs.Obj} {k:Nat} {xs:List (List A)} (e:o=Q7 k xs):∃k xs,o = .row k xs\/o = .fro k xs\/(∃f,o = .tre f k xs)\/o = .map xs:=by
 rcases jgS k xs with h|h|h
 ·exact ⟨_,_,Or.inl (e.trans h)⟩
 ·exact ⟨_,_,Or.inr (Or.inr (Or.inl ⟨_,e.trans h⟩))⟩
 ·exact ⟨0,_,Or.inr (Or.inr (Or.inr (e.trans h)))⟩
theorem jDg {X:Ctx} {w:World} {O0:Nat->Prop} {m:zV} {st:jB} {sg:SigA} {sh:List Nat} {vs:List V} {out:Out} (hs:Sto X w O0 m st) (hshm:∀id∈sh,∃h,m id=some h) (h:jGn st sg sh vs=some out) {u:Value} (hu:relV w (Ow O0 m st) m (YR vs) u) :
  ∃as rs m',HolesOk sg out as rs/\(∀i id,sh[i]? = some id->m' i=m id)/\Sto X w O0 m' (z7 (sg.objs as rs))/\(∀b,Mz m' (z7 (sg.objs as rs)) b->Mz m st b)/\relV w (Ow O0 m' (z7 (sg.objs as rs))) m' (sg.r.toV as) u:=by
 unfold jGn at h;rw [zI] at h;obtain ⟨c1,hB,h⟩:=h;rw [zI] at h;obtain ⟨F,hr,h⟩:=h;split at h;rotate_left
 ·cases h
 rename_i hc;simp only [jy] at hc;obtain ⟨⟨⟨⟨⟨hc1,hc2⟩,hc3⟩,hc4⟩,hc5⟩,hc6⟩:=hc;have hc1:=zw hc1;have hc2:=zw hc2;have hc4:=jyF hc4;obtain ⟨rs,hrs,h⟩:=zI.1 h;cases h;generalize hlive:jeV sg.ws sh++F.ns=live at hc5 hc6;generalize hm':jkC sh F.ns m=m';generalize hst':z7 (sg.objs F.as rs)=st';have hwl:=jhC hB;obtain ⟨la,hget⟩:=jll hwl;obtain ⟨hrl,hll,hrow⟩:=jdY hrs;have hiol:=jiE hwl;have hN:∀q,q < sg.nw.length->sg.nw[q]? = some (ioN sg.ws+q):=λq hq=>by rw [hc4];exact jvH hq
 have lv1:∀i ow id,sg.ws[i]? = some ow->sh[i]? = some id->live[i]? = some (owI id ow):=λi ow id h1 h2=>by
  rw [<-hlive,K7 (by rw [la];exact (List.getElem?_eq_some_iff.mp h1).1)]
  exact hget i ow id h1 h2
 have lv2:∀q x,F.ns[q]? = some x->live[sh.length+q]? = some x:=λq x h=>by
  rw [<-hlive,Qe (by rw [la,hwl];omega),la,hwl,show sh.length+q - sh.length=q by omega]
  exact h
 generalize hbb:ZH (jpf sg.ks F.as)=bb at *;have hobe:sg.objs F.as rs=sg.objsB bb F.as rs:=by rw [<-hbb];rfl
 have ob1:∀i ow,sg.ws[i]? = some ow->st' i=ow.toO bb sg.ks F.as rs:=λi ow h=>by
  rw [<-hst'];refine ZA ?_;rw [hobe,SigA.objsB,K7 (by simpa using (List.getElem?_eq_some_iff.mp h).1),Jv,h];rfl
 have ob2:∀q,q < sg.nw.length->st' (sh.length+q)=jkF bb sg.ks rs (ioN sg.ws+q):=λq hq=>by
  rw [<-hst'];refine ZA ?_;rw [hobe,SigA.objsB,Qe (by simp;omega),kj,hwl,show sh.length+q - sh.length=q by omega,Jv,hN q hq];rfl
 have ob3:∀i,sh.length+sg.nw.length<=i->st' i = .dead:=λi hi=>by
  rw [<-hst'];exact jlU (by simp [SigA.objs,SigA.objsB];omega)
 have m1:∀i id,sh[i]? = some id->m' i=m id:=λi id h=>by rw [<-hm'];exact jnM h
 have m2:∀q x,F.ns[q]? = some x->m' (sh.length+q)=nsM m x:=λq x h=>by rw [<-hm'];exact jnL h
 have m3:∀i,sh.length+sg.nw.length<=i->m' i=none:=λi hi=>by
  rw [<-hm'];unfold jkC;rw [jf (by omega),y9 (by omega)]
 have key:(∀b,Ow O0 m' st' b->Ow O0 m st b)->(∀b,Mz m' st' b-> ∃(i id:Nat) (hd:Hd),(live[i]?).join=some id/\(st id).alive=true/\m id=some hd/\b∈hd.blocks)->
   ∀(a:A) (r:List Rd) (v:V) (u:Value),toA st 60 v=some (a,r)->(∀x∈r,x∈F.rds)->relV w (Ow O0 m st) m v u->rel w (Ow O0 m' st') a u:=by
  intro hsub hmi a r v u hto hsubr hrel;refine yc (MonoW.sub λb hb=>⟨hsub b hb,?_⟩) _ _ (jhF hs 60 v hto hrel);rintro ⟨id,o,hd,hmem,hal,hm,hi⟩;have hst:st id=o:=jhK 60 v hto _ hmem;rcases hb with hb|hb
  ·exact (hs.blk id hd b (by rw [hst];exact hal) hm hi).2 hb
  ·obtain ⟨i,id',hd',h1,h2,h3,hi'⟩:=hmi b hb;have:=hs.inj id id' hd hd' b (by rw [hst];exact hal) h2 hm h3 hi hi';subst this;have hin:some id∈live:=by
    cases hl:live[i]? with
    | none=>rw [hl] at h1;cases h1
    | some x=>rw [hl] at h1;simp only [Option.join_some] at h1;subst h1;exact Yd hl
   have hk:=List.all_eq_true.mp hc6 _ (hsubr _ hmem);simp only [hal,jgj,zF,jan] at hk;rw [jeN.mpr hin] at hk;cases hk
 have hext:=(jlo (w:=w) (m:=m) (O:=Ow O0 m st) (O':=Ow O0 m' st') (F:=F) sg.r (YR vs) hr).1;have hbox:=(js9 (w:=w) (m:=m) (O:=Ow O0 m st) (O':=Ow O0 m' st') (F:=F) sg.ws sh hB).2.2;rw [hm'] at hbox;obtain ⟨hsto,hmz⟩:=Sto.pick (X:=X) (w:=w) (O0':=O0) (m':=m') (st':=st') hs hs.jn (λb hb=>Or.inl hb) (λi=>(live[i]?).join) (λi=>by
   by_cases hi:i < sh.length
   ·have hg:sh[i]? = some sh[i]:=kO hi;have hi':i < sg.ws.length:=by omega
    have hw:sg.ws[i]? = some sg.ws[i]:=kO hi';have hl:=lv1 i _ _ hw hg;have ho:=ob1 i _ hw;have hm:=m1 i _ hg;generalize sg.ws[i]=ow at hw hl ho;cases ow with
    | cons=>exact Or.inr (Or.inl ho)
    | io j=>
     obtain ⟨_,g1⟩:=jcP hc3 i j _ hw hg;have g1:(ioL sg.ws sh++F.ns)[j]? = some (some sh[i]):=by
      rw [K7 (by have:=(List.getElem?_eq_some_iff.mp g1).1;simpa using this)]
      simpa using g1
     obtain ⟨k,xs,g2,g3,g4⟩:=hrow j _ g1;have e:st' i=QI bb k xs:=by rw [ho];simp [OW.toO,jkF,zY,g2,g3]
     rcases g4 with g4|⟨g4,_⟩
     ·exact Or.inr (Or.inl (e.trans g4))
     ·rcases Y1 bb k xs with g5|⟨k',g5,_⟩
      ·exact Or.inr (Or.inl (e.trans g5))
      ·exact Or.inr (Or.inr (Or.inr ⟨sh[i],by rw [hl];rfl,hm,Or.inl ⟨jqi (e.trans g5),by rw [e];exact g4⟩⟩))
    | box l=>
     refine Or.inr (Or.inr (Or.inr ⟨sh[i],by rw [hl];rfl,hm,Or.inr ?_⟩))
     have hst:∃cs,st sh[i] = .box cs:=jcR hB hw hg;obtain ⟨cs,hcs⟩:=hst;refine ⟨cs,_,hcs,ho,λhsub hmi us hus=> ?_⟩;obtain ⟨cs',h1,h2⟩:=hbox (key hsub hmi) hext i l _ hw hg;rw [hcs] at h1;cases h1;exact h2 us hus
   ·by_cases hi2:i < sh.length+sg.nw.length
    ·obtain ⟨q,rfl⟩:∃q,i=sh.length+q:=⟨i - sh.length,by omega⟩;have hq:q < sg.nw.length:=by omega
     have hns:F.ns[q]? = some F.ns[q]:=kO (by omega);have hl:=lv2 q _ hns;have ho:=ob2 q hq;have hm:=m2 q _ hns;generalize F.ns[q]=x at hns hl hm;have g1:(ioL sg.ws sh++F.ns)[ioN sg.ws+q]? = some x:=by
      rw [Qe (by omega),hiol,show ioN sg.ws+q - ioN sg.ws=q by omega];exact hns
     obtain ⟨k,xs,g2,g3,g4⟩:=hrow _ _ g1;have e:st' (sh.length+q)=QI bb k xs:=by rw [ho];simp [jkF,zY,g2,g3]
     cases x with
     | none=>
      obtain ⟨g4,g5⟩:xs = []/\Nat.blt (kdK k) 128=true:=g4;subst g4;rcases Y1 bb k [] with g6|⟨k',g6,g7⟩
      ·exact Or.inr (Or.inl (e.trans g6))
      ·refine Or.inr (Or.inr (Or.inl ⟨?_,hm⟩));rw [e,g6,g7];have g8:Nat.beq (kdK k) 128=false:=by
        cases h:Nat.beq (kdK k) 128 with
        | false=>rfl
        | true=>rw [jcy,zw h] at g5;omega
       unfold Q7;rw [g8];cases Nat.blt (kdK k) 64
       ·exact ⟨_,Or.inr rfl⟩
       ·exact ⟨_,Or.inl rfl⟩
     | some id=>
      rcases g4 with g4|⟨g4,_⟩
      ·exact Or.inr (Or.inl (e.trans g4))
      ·rcases Y1 bb k xs with g5|⟨k',g5,_⟩
       ·exact Or.inr (Or.inl (e.trans g5))
       ·exact Or.inr (Or.inr (Or.inr ⟨id,by rw [hl];rfl,hm,Or.inl ⟨jqi (e.trans g5),by rw [e];exact g4⟩⟩))
    ·exact Or.inl ⟨ob3 i (by omega),m3 i (by omega)⟩)
  (λi i' id h1 h2 _ _=>by
   have g:∀i:Nat,(live[i]?).join=some id->live[i]? = some (some id):=λi h=>by
    cases hl:live[i]? with
    | none=>rw [hl] at h;cases h
    | some x=>rw [hl] at h;simp only [Option.join_some] at h;rw [h]
   exact jdQ hc5 i i' id (g i h1) (g i' h2))
  (λi id hd b h1 h2 h3 hi0 hb=>by
   have hl:live[i]? = some (some id):=by
    cases hl:live[i]? with
    | none=>rw [hl] at h1;cases h1
    | some x=>rw [hl] at h1;simp only [Option.join_some] at h1;rw [h1]
   have hal:(st id).alive=true:=by
    by_cases hi:i < sh.length
    ·have hg:sh[i]? = some sh[i]:=kO hi;have hw:sg.ws[i]? = some sg.ws[i]:=kO (by omega);have hl':=lv1 i _ _ hw hg;rw [hl] at hl';generalize sg.ws[i]=ow at hw hl';cases ow with
     | cons=>cases hl'
     | io j=>
      simp only [owI,zg] at hl';subst hl';obtain ⟨_,g1⟩:=jcP hc3 i j _ hw hg;have g1:(ioL sg.ws sh++F.ns)[j]? = some (some sh[i]):=by
       rw [K7 (by have:=(List.getElem?_eq_some_iff.mp g1).1;simpa using this)]
       simpa using g1
      obtain ⟨k,xs,g2,g3,g4⟩:=hrow j _ g1;have e:st' i=QI bb k xs:=by rw [ob1 i _ hw];simp [OW.toO,jkF,zY,g2,g3]
      exact (Qw g4 e h2).2
     | box l=>
      simp only [owI,zg] at hl';subst hl';obtain ⟨cs,hcs⟩:=jcR hB hw hg;rw [hcs];rfl
    ·have hlt:=(List.getElem?_eq_some_iff.mp hl).1;rw [<-hlive,zh,la,hwl] at hlt;obtain ⟨q,rfl⟩:∃q,i=sh.length+q:=⟨i - sh.length,by omega⟩;have hns:F.ns[q]? = some F.ns[q]:=kO (by omega);have hl':=lv2 q _ hns;rw [hl] at hl';have hl':=(jbf hl').symm;rw [hl'] at hns;have g1:(ioL sg.ws sh++F.ns)[ioN sg.ws+q]? = some (some id):=by
      rw [Qe (by omega),hiol,show ioN sg.ws+q - ioN sg.ws=q by omega];exact hns
     obtain ⟨k,xs,g2,g3,g4⟩:=hrow _ _ g1;have e:st' (sh.length+q)=QI bb k xs:=by rw [ob2 q (by omega)];simp [jkF,zY,g2,g3]
     exact (Qw g4 e h2).2
   exact (hs.blk id hd b hal h3 hi0).2 hb)
 refine ⟨F.as,rs,m',⟨hc1,λi a h=> ?_,hrl,λj r k h1 h2=> ?_⟩,m1,by rw [hst'];exact hsto,by rw [hst'];exact hmz,?_⟩
 ·simp only [hD];rw [K7 (List.getElem?_eq_some_iff.mp h).1];exact h
 ·simp only [hR];rw [Qe (by omega),show sg.nd+j - F.as.length=j by omega,jvz h2 h1];simp
 ·rw [hst'];have hsub:∀b,Ow O0 m' st' b->Ow O0 m st b:=λb hb=>hb.imp id (hmz b);have hmi:∀b,Mz m' st' b-> ∃(i id:Nat) (hd:Hd),(live[i]?).join=some id/\(st id).alive=true/\m id=some hd/\b∈hd.blocks:=by
   rintro b ⟨i,hd,ha,hmm,hbi⟩;by_cases hi:i < sh.length
   ·have hg:sh[i]? = some sh[i]:=kO hi;have hw:sg.ws[i]? = some sg.ws[i]:=kO (by omega);have hl:=lv1 i _ _ hw hg;have ho:=ob1 i _ hw;have hm:=m1 i _ hg;rw [hm] at hmm;generalize sg.ws[i]=ow at hw hl ho;cases ow with
    | cons=>rw [ho] at ha;cases ha
    | io j=>
     obtain ⟨_,g1⟩:=jcP hc3 i j _ hw hg;have g1:(ioL sg.ws sh++F.ns)[j]? = some (some sh[i]):=by
      rw [K7 (by have:=(List.getElem?_eq_some_iff.mp g1).1;simpa using this)]
      simpa using g1
     obtain ⟨k,xs,g2,g3,g4⟩:=hrow j _ g1;have e:st' i=QI bb k xs:=by rw [ho];simp [OW.toO,jkF,zY,g2,g3]
     exact ⟨i,sh[i],hd,by rw [hl];rfl,(Qw g4 e ha).2,hmm,hbi⟩
    | box l=>
     obtain ⟨cs,hcs⟩:=jcR hB hw hg;exact ⟨i,sh[i],hd,by rw [hl];rfl,by rw [hcs];rfl,hmm,hbi⟩
   ·by_cases hi2:i < sh.length+sg.nw.length
    ·obtain ⟨q,rfl⟩:∃q,i=sh.length+q:=⟨i - sh.length,by omega⟩;have hns:F.ns[q]? = some F.ns[q]:=kO (by omega);have hl:=lv2 q _ hns;have hm:=m2 q _ hns;rw [hm] at hmm;generalize F.ns[q]=x at hns hl hmm;cases x with
     | none=>cases hmm;simp [Hd.blocks] at hbi
     | some id=>
      have g1:(ioL sg.ws sh++F.ns)[ioN sg.ws+q]? = some (some id):=by
       rw [Qe (by omega),hiol,show ioN sg.ws+q - ioN sg.ws=q by omega];exact hns
      obtain ⟨k,xs,g2,g3,g4⟩:=hrow _ _ g1;have e:st' (sh.length+q)=QI bb k xs:=by rw [ob2 q (by omega)];simp [jkF,zY,g2,g3]
      exact ⟨sh.length+q,id,hd,by rw [hl];rfl,(Qw g4 e ha).2,hmm,hbi⟩
    ·rw [m3 i (by omega)] at hmm;cases hmm
  have:=(jlo (w:=w) (m:=m) (O:=Ow O0 m st) (O':=Ow O0 m' st') (F:=F) sg.r (YR vs) hr).2 (key hsub hmi) (ExtM.refl _) u hu;rw [hm'] at this;exact this
def Fin (C:Cfg) (X:Ctx) (f:FuncId) (w0:World) (Z0 O0:Nat->Prop) (shv:Option (List Hd)) (fn:Func) (r:Out):Exit->Act->World->Prop:=
 λe a w=>∃ex s m,e=Ex.to ex/\s.n=fn.ntmps/\Q0 C f fn ex s=some r/\Sim X w0 Z0 O0 shv m s a w
theorem jyz {f:FuncId} {fn:Func} {ex:Ex} {out:Out} (h:Q0 C f fn ex s=some out):jyA C f fn s=some out/\(ex = .normal\/ex = .ret):=by
 cases ex with
 | normal=>exact ⟨h,Or.inl rfl⟩
 | ret=>exact ⟨h,Or.inr rfl⟩
 | exit id=>cases h
theorem jtt (hD:J7 C.P C.D) (hs:Sim X w0 Z0 O0 shv m s a w) {fn:Func} {vs:List V} (hvs:jn4 C s fn.results.toList fn.resultTypes.toList=some vs) :
  ∃v,(results fn a.tmps).run C.P w = .ok v w/\relV w (Ow O0 m s.st) m (YR vs) v:=by
 obtain ⟨us,h1,h2⟩:=jhG hD hs _ _ hvs;have hm:(fn.results.mapM (jg2 a.tmps)).run C.P w = .ok us.toArray w:=by
  rw [jtW];simp only [Sem.run_map,h1,ym]
 have hl:=yf h2;refine ⟨if h:us.toArray.size=1 then us.toArray[0] else .tuple us.toArray,?_,?_⟩
 ·have e:results fn a.tmps=(do let vs <-fn.results.mapM (jg2 a.tmps);pure (if h:vs.size=1 then vs[0] else .tuple vs)):=by
   unfold results;congr 1
  rw [e];simp only [yz,hm];simp only [ym,yG]
 ·match vs,us,h2,hl with
  | [r],[v],h2,_=>
   simp only [jx,Qd] at h2;obtain ⟨u,t,⟨rfl,rfl⟩,h3,_⟩:=h2;simpa [YR] using h3
  | [],us,h2,hl=>
   have hne:¬us.toArray.size=1:=by simp at hl ⊢;simp [hl]
   rw [dif_neg hne];simp only [YR,relV];exact ⟨us,rfl,h2⟩
  | r1::r2::rs,us,h2,hl=>
   have hne:¬us.toArray.size=1:=by simp at hl ⊢;omega
   rw [dif_neg hne];simp only [YR,relV];exact ⟨us,rfl,h2⟩
theorem jg0 {O:Nat->Prop} {args:List V} {vs:List Value} {n:Nat} (hrel:jx w O m args vs) (hle:args.length<=n) {i:Nat} {v:Value} (hv:(vs.toArray++Array.replicate (n - vs.toArray.size) undef)[i]? = some v):relV w O m (args.getD i .top) v:=by
 cases hc:args[i]? with
 | none=>rw [zY,hc];simp [relV]
 | some x=>
  obtain ⟨u,k1,k2⟩:=Zy hrel hc;have hlt:i < vs.length:=(List.getElem?_eq_some_iff.mp k1).1;have:v=u:=by
   rw [jgu (by simpa using hlt)] at hv;rw [List.getElem?_toArray,k1] at hv;cases hv;rfl
  subst this;rw [zY,hc];exact k2
theorem jG1 {X:Ctx} {w:World} {O0:Nat->Prop} {m:zV} {st:jB} (hs:Sto X w O0 m st) {id nid k n:Nat} {xs:List (List A)} (hid:st id = .row k xs) (hf:st nid = .dead) {hd hd':Hd} (hm:m id=some hd)
  (hc:(hd' = .none/\xs.take n = [])\/(∃b c l,hd = .blk b c l/\hd' = .blk b c (xs.take n).length)) :
  Chg w m st w (upd m nid (some hd')) (upd (upd st id .gone) nid (.row k (xs.take n)))/\Sto X w O0 (upd m nid (some hd')) (upd (upd st id .gone) nid (.row k (xs.take n))):=by
 have hne:id≠nid:=λe=>by subst e;rw [hid] at hf;cases hf
 refine jAi hs hne (by rw [hid];rfl) hf hm ?_ (λh=>by cases h) λhmono=>⟨hd',rfl,?_⟩
 ·intro b e;rcases hc with ⟨rfl,_⟩|⟨b',c',l',rfl,rfl⟩
  ·simp [Hd.blocks] at e
  ·rw [jew e];exact Ko
 ·rcases hc with ⟨rfl,h0⟩|⟨b,c,l,rfl,rfl⟩
  ·exact h0
  ·have ho:=hs.obj id;rw [hid] at ho;obtain ⟨hd0,q1,q2⟩:=ho;rw [hm] at q1;cases q1;obtain ⟨q0,q1,q2,q3,cc,T,q4,q5,q6,q7⟩:=q2;have hle:(xs.take n).length<=xs.length:=by simp;omega
   have htk:(cc.toList.take (xs.length * k)).take ((xs.take n).length * k)=cc.toList.take ((xs.take n).length * k):=by
    rw [List.take_take,ja4 (jbg k hle)]
   have hfl:(xs.take n).flatten=xs.flatten.take ((xs.take n).length * k):=by
    rw [<-Yh xs _ q3];congr 1;simp
   refine ⟨rfl,by omega,q2,λy hy=>q3 y (jd3 hy),cc,T,q4,q5,?_,?_⟩
   ·rw [<-htk];exact q6.take _
   ·rw [<-htk,hfl];exact KE _ (zv hmono _ _ q7)
theorem jtC (t:Nat) (hs:Sim X w0 Z0 O0 shv m s a w):(jfb t s).sh=s.sh/\(jfb t s).n=s.n/\ ∃m',Sim X w0 Z0 O0 shv m' (jfb t s) a w:=by
 unfold jfb;split;rotate_left
 ·exact ⟨rfl,rfl,m,hs⟩
 rename_i id k off n hfr;split;rotate_left
 ·exact ⟨rfl,rfl,m,hs⟩
 rename_i k' xs hst;cases hb:Nat.beq k' k && (Nat.beq off 0 && jnu (s.st s.nx)) with
 | false=>exact ⟨rfl,rfl,m,hs⟩
 | true=>
  simp only [jy] at hb;obtain ⟨hk,h0,hdd⟩:=hb;have hk:=zw hk;have h0:=zw h0;subst hk;subst h0;have hf:s.st s.nx = .dead:=by
   cases hh:s.st s.nx<;>rw [hh] at hdd<;>first|rfl|cases hdd
  have ho:=hs.sto.obj id;rw [hst] at ho;obtain ⟨hd,q1,q2⟩:=ho;obtain ⟨hd',hc,hv⟩:∃hd',((hd' = .none/\xs.take n = [])\/(∃b c l,hd = .blk b c l/\hd' = .blk b c (xs.take n).length))/\ ∀v,Kf k' 0 n hd v->hdr hd' v:=by
   cases hd with
   | tre=>exact q2.elim
   | mp=>exact q2.elim
   | none=>
    simp only [rowOk] at q2;subst q2;exact ⟨.none,Or.inl ⟨rfl,by simp⟩,λv hv=>hv.2.2⟩
   | blk b c l=>
    obtain ⟨rfl,h1,_⟩:=q2;by_cases hc0:c=0
    ·have:xs = []:=jcv (by omega);subst this;refine ⟨.none,Or.inl ⟨rfl,by simp⟩,λv hv=> ?_⟩;simp only [Kf] at hv;obtain ⟨h2,q,h3,_⟩:=hv;have hn:n=0:=by simp at h2;omega
     subst hn;rw [hc0] at h3;exact ⟨_,h3⟩
    ·refine ⟨_,Or.inr ⟨b,c,_,rfl,rfl⟩,λv hv=> ?_⟩;simp only [Kf] at hv;obtain ⟨h2,q,h3,h4⟩:=hv;have:=h4 (by omega);subst this;simp only [hdr];rw [h3];have:(xs.take n).length=n:=by simp;omega
     rw [this];simp
  obtain ⟨k1,k2⟩:=jG1 hs.sto hst hf q1 hc;have hs2:=hs.chg k1 k2;refine ⟨rfl,rfl,_,hs2.defers,hs2.tsz,hs2.os,hs2.tape,hs2.output,hs2.size,hs2.keep,hs2.new,hs2.sto,λi v hi=> ?_,hs2.sh,hs2.shf⟩;show relV _ _ _ (upd s.fr t (.row s.nx) i) v;by_cases e:i=t
  ·subst e;rw [jU];have:=hs.fr i v hi;rw [hfr] at this;simp only [relV] at this ⊢;obtain ⟨h,e1,e2⟩:=this;rw [q1] at e1;cases e1;exact ⟨hd',jU _ _ _,hv v e2⟩
  ·rw [upd_ne _ _ e];exact hs2.fr i v hi
theorem jdB (o:Abs.Obj):(jwc o).alive=o.alive:=by cases o<;>rfl
theorem jDh (hs:Sim X w0 Z0 O0 shv m s a w):Sim X w0 Z0 O0 shv (λi=>(m i).map Hd.freeze) (jIi s) a w:=by
 have hmle:MLe m (λi=>(m i).map Hd.freeze):=λi h e=>⟨h.freeze,by simp [e],h.le_freeze⟩;have hmz:∀b,Mz (λi=>(m i).map Hd.freeze) (λi=>jwc (s.st i)) b->Mz m s.st b:=by
  rintro b ⟨i,hd,h1,h2,h3⟩;rw [jdB] at h1;obtain ⟨h,e,rfl⟩:=yB.1 h2;exact ⟨i,h,h1,e,by rwa [Hd.freeze_blocks] at h3⟩
 have hchg:Chg w m s.st w (λi=>(m i).map Hd.freeze) (λi=>jwc (s.st i)):=
  ⟨rfl,rfl,Quiet.refl _,kz _,λ_ _ _=>rfl,hmle,λb hb=>Or.inl (hmz b hb)⟩
 refine hs.chg hchg (hs.sto.chg hchg ?_ ?_ ?_ ?_)
 ·intro i h;have:s.st i = .dead:=by
   cases hc:s.st i<;>rw [hc] at h<;>first|rfl|cases h
  rw [hs.sto.fresh i this];rfl
 ·intro i hd b h1 h2 h3;rw [jdB] at h1;obtain ⟨h,e,rfl⟩:=yB.1 h2;rw [Hd.freeze_blocks] at h3;exact Or.inr (hs.sto.blk i h b h1 e h3)
 ·intro i i' hd hd' b h1 h2 h3 h4 h5 h6;rw [jdB] at h1 h2;obtain ⟨h,e,rfl⟩:=yB.1 h3;obtain ⟨h',e',rfl⟩:=yB.1 h4;rw [Hd.freeze_blocks] at h5 h6;exact hs.sto.inj i i' h h' b h1 h2 e e' h5 h6
 ·intro i;have ho:=hs.sto.obj i;cases hc:s.st i with
  | gone=>exact Or.inr (by simp only [jwc];trivial)
  | dead=>exact Or.inr (by simp only [jwc];trivial)
  | tre f k xs=>
   rw [hc] at ho;obtain ⟨hd,e1,e2,e3⟩:=ho;refine Or.inr ⟨hd.freeze,by rw [e1];rfl,joj e2,by rw [Hd.freeze_blocks];exact e3⟩
  | box cs=>
   refine Or.inl ⟨rfl,?_,λ_ _ _ _ _=>rfl⟩;rw [hc] at ho;obtain ⟨hd,e1,e2⟩:=ho;rw [e1,JS,Hd.freeze_eq (jgB e2)]
  | row k xs=>
   refine Or.inl ⟨rfl,?_,λ_ _ _ _ _=>rfl⟩;rw [hc] at ho;obtain ⟨hd,e1,e2⟩:=ho;rw [e1,JS,Hd.freeze_eq (jcd e2)]
  | map xs=>
   refine Or.inl ⟨rfl,?_,λ_ _ _ _ _=>rfl⟩;rw [hc] at ho;obtain ⟨hd,e1,e2⟩:=ho;rw [e1,JS,Hd.freeze_eq (jgR e2)]
  | fro k xs=>
   refine Or.inl ⟨rfl,?_,λ_ _ _ _ _=>rfl⟩;rw [hc] at ho;obtain ⟨hd,e1,e2,_⟩:=ho;rw [e1,JS,Hd.freeze_eq e2]
theorem jjU:∀(ts:List Nat) {s:St} {m:zV},Sim X w0 Z0 O0 shv m s a w->(jfc ts s).sh=s.sh/\(jfc ts s).n=s.n/\ ∃m',Sim X w0 Z0 O0 shv m' (jfc ts s) a w
 | [],s,m,hs=>⟨rfl,rfl,_,jDh hs⟩
 | t::ts,s,m,hs=>by
  obtain ⟨h1,h2,m1,h3⟩:=jtC t hs;obtain ⟨g1,g2,g3⟩:=jjU ts h3;exact ⟨g1.trans h1,g2.trans h2,g3⟩
theorem jEt (hC:Sane C) (hext:∀f x args out,C.ext f=some x->x args=some out->jas X C.P f args out) (hextv:∀f x args objs sgs sg qs outs out,C.extv f=some x->C.sig f=some sgs->ja6 objs.length sgs=some sg->x.ask args objs=some qs->joG X C.P qs outs->x.ans args objs outs=some out->SOk X C.P f args objs sg out):∀n,
  QU X C (Mn C n)/\StM X C (Mn C n)/\ ∀(f:FuncId) (fn:Func) (c:Code) (p:List Nat) (b:Code) (fr:List V) (objs:List Abs.Obj) (sh:Option (List Nat)) (r:Out) (w0:World) (Z0 O0:Nat->Prop) (shv:Option (List Hd)) (m:zV) (a:Act) (w:World),
   C.P.funcs[f]? = some fn->fn.body=some c->jfg c p=some (.loop b)->Mn C n (.head f p fr objs sh)=some r->Sim X w0 Z0 O0 shv m (St.of fn.ntmps fr objs sh) a w->
   qw C.P b (postAt C.P c p (Fin C X f w0 Z0 O0 shv fn r)) a w
 | 0=>⟨λf args out _ h=>(by cases h),λf args objs sgs sg out _ _ h=>(by cases h),λf fn c p b fr objs sh r w0 Z0 O0 shv m a w _ _ _ h _=>(by cases h)⟩
 | n+1=>by
  obtain ⟨ih1,ih3,ih2⟩:=jEt hC hext hextv n;have loops:∀(f:FuncId) (fn:Func) (c:Code) (r:Out) (w0:World) (Z0 O0:Nat->Prop) (shv:Option (List Hd)),C.P.funcs[f]? = some fn->fn.body=some c->jeo C (Mn C n) f X w0 Z0 O0 shv fn.ntmps r c [] (Fin C X f w0 Z0 O0 shv fn r):=by
   intro f fn c r w0 Z0 O0 shv hf hb q b s m a w hq hn hag hs;rw [Ju] at hag;obtain ⟨fr,objs,sh,m',h1,h2⟩:=jxU hag hs;rw [hn] at h2;exact ih2 f fn c q b fr objs sh r w0 Z0 O0 shv m' a w hf hb hq h1 h2
  have kok:∀(f:FuncId) (fn:Func) (r:Out) (w0:World) (Z0 O0:Nat->Prop) (shv:Option (List Hd)),KOk X w0 Z0 O0 shv fn.ntmps r (Q0 C f fn) (Fin C X f w0 Z0 O0 shv fn r):=
   λf fn r w0 Z0 O0 shv e s m a w hn hk hs=>⟨e,s,m,rfl,hn,hk,hs⟩
  refine ⟨?_,?_,?_⟩
  ·intro f args out hsig h;simp only [Mn,step] at h;split at h
   ·rename_i x hx;exact hext f x args out hx h
   ·rw [hsig] at h;dsimp only at h;split at h
    ·rename_i fn hf;split at h
     ·rename_i c hb;simp only [brn] at h;split at h
      ·rename_i hle;have hle:args.length<=fn.ntmps:=by simpa using hle
       refine ⟨Yv hf (hC.names _ _ hf) hb,?_⟩;intro w O vs hJ hN hO hrel;refine calls_of_wp hf hb ?_;have hl:=kC hrel;have hs:Sim X w (λ_=>False) O none (λ_=>none) (jaY fn args) { tmps:=vs.toArray++Array.replicate (fn.ntmps - vs.toArray.size) undef,defers:=[] } w:=by
        refine ⟨rfl,by simp [jaY,St.of];omega,rfl,rfl,Quiet.refl _,kz _,λ_ _ _=>rfl,λb ⟨_,_,_,h2,_⟩=>(by cases h2),⟨hJ,hN,λ_ _=>rfl,hO,λid hd b _ h _=>(by cases h),λid id' hd hd' b _ _ h _ _ _=>(by cases h),λid=>by simp [jaY,St.of,jdc]⟩,?_,rfl,λ_ h=>(by cases h)⟩
        intro i v hv;have hOw:Ow O (λ_=>none) (jaY fn args).st=O:=by
         funext b;simp [Ow,Mz]
        rw [hOw];exact jg0 (jdW (m:=λ_=>none) hrel) (by simpa using hle) hv
       refine wp_mono (YL hC.ty ih1 ih3 hC.mixed c [] (jaY fn args) (Q0 C f fn) (Fin C X f w (λ_=>False) O none fn out) _ _ _ (hC.lex _ _ _ hf hb) rfl h hs (kok _ _ _ _ _ _ _) (loops _ _ _ _ _ _ _ _ hf hb)) ?_;rintro e a' w' ⟨ex,s,m,rfl,hn,hk,hs'⟩;have hbel:Below w.heap.size w w':=⟨hs'.os,hs'.tape,hs'.output,hs'.size,λb hb=>hs'.keep b hb (λh=>h)⟩;obtain ⟨hk,hex⟩:=jyz hk;have hsh:s.sh=none:=by
        have:=hs'.sh;cases hh:s.sh with
        | none=>rfl
        | some l=>rw [hh] at this;cases this
       unfold jyA at hk;rw [hsh] at hk;obtain ⟨v,h1,h2,_⟩:=jsM hC.ty hs' hk;rcases hex with rfl|rfl
       ·exact ⟨hs'.defers,v,h1,v,rfl,hbel,h2⟩
       ·exact ⟨hs'.defers,v,h1,v,rfl,hbel,h2⟩
      ·cases h
     ·cases h
    ·cases h
  ·intro f args objs sgs sg out hsig halt h;simp only [Mn,step] at h;split at h
   ·rename_i x hx;obtain ⟨qs,hq1,hq2⟩:=zI.1 h;obtain ⟨outs,hq3,hq4⟩:=zI.1 hq2;exact hextv f x args objs sgs sg qs outs out hx hsig halt hq1 (jkX ih1 hq3) hq4
   ·rename_i hxn;clear hxn;split at h;rotate_left
    ·cases h
    rename_i fn hf;split at h
    ·rename_i c hb;simp only [brn] at h;split at h
     ·rename_i hle;have hle:args.length<=fn.ntmps:=by simpa using hle
      refine ⟨Yv hf (hC.names _ _ hf) hb,?_⟩;intro w O m vs hsto hsome hrel;refine calls_of_wp hf hb ?_;have hl:=yf hrel;obtain ⟨shm,hshm⟩:∃shm:List Hd,(List.range objs.length).map m=shm.map some:=by
       refine ⟨(List.range objs.length).map λi=>(m i).getD .none,?_⟩;rw [qa];refine K3 λi hi=> ?_;obtain ⟨hd,hh,_⟩:=hsome i (by simpa using hi);simp [hh]
      have hshf:∀hd∈shm,hd.fixed=true:=λhd hm=>by
       obtain ⟨i,hi⟩:=List.mem_iff_getElem?.mp hm;have h1:=congrArg (λx=>x[i]?) hshm;simp only [Jv,hi,JS] at h1;obtain ⟨j,hj,e⟩:=yB.1 h1;have hlt:i < objs.length:=by have:=(List.getElem?_eq_some_iff.mp hj).1;simpa using this
       rw [jfs hlt] at hj;cases hj;obtain ⟨hd',hh,hf⟩:=hsome i hlt;rw [hh] at e;cases e;exact hf
      have hs:Sim X w (Mz m (z7 objs)) O (some shm) m (jdZ fn args objs) { tmps:=vs.toArray++Array.replicate (fn.ntmps - vs.toArray.size) undef,defers:=[] } w:=by
       refine ⟨rfl,by simp [jdZ,St.of];omega,rfl,rfl,Quiet.refl _,kz _,λ_ _ _=>rfl,λb hb=>Or.inl hb,hsto,?_,?_,λs h=>by cases h;exact hshf⟩
       ·intro i v hv;exact jg0 hrel hle hv
       ·show (some (List.range objs.length)).map _=_;simp only [JS,hshm]
      refine wp_mono (YL hC.ty ih1 ih3 hC.mixed c [] (jdZ fn args objs) (Q0 C f fn) (Fin C X f w (Mz m (z7 objs)) O (some shm) fn out) _ _ _ (hC.lex _ _ _ hf hb) rfl h hs (kok _ _ _ _ _ _ _) (loops _ _ _ _ _ _ _ _ hf hb)) ?_;rintro e a' w' ⟨ex,s,m1,rfl,hn,hk,hs'⟩;obtain ⟨hk,hex⟩:=jyz hk;obtain ⟨hsh0,hn0,m2,hs2⟩:=jjU (jhH fn.results.toList) hs';obtain ⟨l,hsl,hlm⟩:∃l,s.sh=some l/\l.map m2=(List.range objs.length).map m:=by
       have:=hs2.sh;rw [hsh0] at this;cases hh:s.sh with
       | none=>rw [hh] at this;cases this
       | some l=>
        rw [hh] at this;simp only [JS,zg] at this;exact ⟨l,rfl,this.trans hshm.symm⟩
      have hll:l.length=objs.length:=by simpa using congrArg List.length hlm
      have hlg:∀i id,l[i]? = some id->m2 id=m i:=λi id hi=>by
       have h1:=congrArg (λx=>x[i]?) hlm;simp only [Jv,hi,JS] at h1;have hlt:=(List.getElem?_eq_some_iff.mp hi).1;rw [jfs (by omega)] at h1;simpa using h1
      unfold jyA at hk;rw [hsl] at hk;dsimp only at hk;rw [hsig] at hk;dsimp only at hk;rw [hll,halt] at hk;dsimp only at hk;unfold jIe at hk;split at hk;rotate_left
      ·cases hk
      rename_i rvs hrvs;obtain ⟨v,h1,h2⟩:=jtt hC.ty hs2 hrvs;obtain ⟨as,rs,m',g1,g2,g3,g4,g5⟩:=jDg hs2.sto (λid hid=>by
       obtain ⟨i,hi⟩:=List.mem_iff_getElem?.mp hid;rw [hlg i id hi];obtain ⟨h,hh,_⟩:=hsome i (by have:=(List.getElem?_eq_some_iff.mp hi).1;omega);exact ⟨h,hh⟩) hk h2
      have key:∃v',Ending.returned v=Ending.returned v'/\ ∃as rs m',HolesOk sg out as rs/\(w'.os=w.os/\w'.tape=w.tape/\Quiet w w'/\w.heap.size<=w'.heap.size)/\
        (∀b,b < w.heap.size-> ¬Mz m (z7 objs) b->w'.heap[b]? = w.heap[b]?)/\(∀b,Mz m' (z7 (sg.objs as rs)) b->Mz m (z7 objs) b\/w.heap.size<=b)/\(∀i,i < objs.length->m' i=m i)/\
        Sto X w' O m' (z7 (sg.objs as rs))/\relV w' (Ow O m' (z7 (sg.objs as rs))) m' (sg.r.toV as) v':=by
       refine ⟨v,rfl,as,rs,m',g1,⟨hs2.os,hs2.tape,hs2.output,hs2.size⟩,hs2.keep,λb hb=>hs2.new b (g4 b hb),λi hi=> ?_,g3,g5⟩;have hi':l[i]? = some l[i]:=kO (by omega);rw [g2 i _ hi',hlg i _ hi']
      rcases hex with rfl|rfl
      ·exact ⟨hs'.defers,v,h1,key⟩
      ·exact ⟨hs'.defers,v,h1,key⟩
     ·cases h
    ·cases h
  ·intro f fn c p b fr objs sh r w0 Z0 O0 shv m a w hf hb hq h hs;simp only [Mn,step] at h;rw [hf] at h;dsimp only at h;rw [hb] at h;dsimp only at h;exact jDf hC.ty ih1 ih3 hC.mixed c p [] _ _ _ m a w b (hC.lex _ _ _ hf hb) rfl h hq hs (kok _ _ _ _ _ _ _) (loops _ _ _ _ _ _ _ _ hf hb)
theorem jHy {C:Cfg} {X:Ctx} (hC:Sane C) (hext:∀f x args out,C.ext f=some x->x args=some out->jas X C.P f args out) (hextv:∀f x args objs sgs sg qs outs out,C.extv f=some x->C.sig f=some sgs->ja6 objs.length sgs=some sg->x.ask args objs=some qs->joG X C.P qs outs->x.ans args objs outs=some out->SOk X C.P f args objs sg out):QU X C (MM C):=by
 intro f args out hsig h;obtain ⟨n,hn⟩:=juu h;exact (jEt hC hext hextv n).1 f args out hsig hn
end
end
open Go Go.RowKit Go.Deep
def Rdr (P:Program) (t:Nat) {α:Type} (f:α->List A) (p:α->Prop):Prop:=
 ∀(H:Type) (enc:TypeId × Value->H) (w:World) (base:Nat) (spare:Nat->Bool) (held:Bool) (fuel:Nat) (cs:List Value) (x:DataW H × List MemPlace),
  DataW.trod enc P w base spare held fuel t cs=some x-> ∃a,p a/\jS w (λ_=>False) (f a) cs/\jJ cs
section
variable {P:Program} {t e:Nat}
theorem jHj {n:Int} (h:(Lit.int .i64 n).wf=true):I64 n:=by
 have h1:IntKind.i64.min = -9223372036854775808:=rfl;have h2:IntKind.i64.max=9223372036854775807:=rfl;simp [Lit.wf,h1,h2] at h;exact h
theorem Rdr.int (ht:P.underlying t=some (.int .i64)):Rdr P t (λn:Int=>[A.val (.int .i64 n)]) I64:=by
 intro H enc w base spare held fuel cs x h;obtain ⟨n,rfl,_,hw⟩:=DataW.trod_int ht h;exact ⟨n,jHj hw,by simp [jS,rel],by simp [jJ,Value.oneCell']⟩
theorem Rdr.bool (ht:P.underlying t=some .bool):Rdr P t (λb:Bool=>[A.val (.bool b)]) (λ_=>True):=by
 intro H enc w base spare held fuel cs x h;obtain ⟨b,rfl,_⟩:=DataW.trod_bool ht h;exact ⟨b,trivial,by simp [jS,rel],by simp [jJ,Value.oneCell']⟩
theorem Rdr.str (ht:P.underlying t=some .string):Rdr P t (λs:ByteArray=>[A.val (.string s)]) (λs=>s.size<=9223372036854775807):=by
 intro H enc w base spare held fuel cs x h;obtain ⟨s,rfl,_,hs⟩:=DataW.trod_string ht h;exact ⟨s,by simpa [maxLen] using hs,by simp [jS,rel],by simp [jJ,Value.oneCell']⟩
theorem jeA {w:World} {base:Nat} {a:Addr} {n:Nat} {cs:List Value} (h:w.cells? base a n=some cs):cs.length=n/\ ∀j v,cs[j]? = some v->w.cell? (a.add j)=some v:=by
 unfold World.cells? at h;split at h
 ·refine ⟨by simpa using mapM_some_length h,λj v hj=> ?_⟩;have hl:cs.length=n:=by simpa using mapM_some_length h
  have hjn:j < n:=by rw [<-hl];exact (ZW.1 hj).1
  have:=mapM_some_get h j j (by simp [hjn]);rw [this,hj]
 ·cases h
theorem jio {w:World} {α:Type} {f:α->List A} {p:α->Prop} {k:Nat} (hk:∀a,(f a).length=k) (b off:Nat):∀(n:Nat),
  (∀i,i < n-> ∃a,p a/\ ∃cs,jS w (λ_=>False) (f a) cs/\jJ cs/\Reads w b (off+i * k) cs)->
  ∃xs:List α,xs.length=n/\(∀x∈xs,p x)/\zG w (λ_=>False) k b off (xs.map f)
 | 0,_=>⟨[],rfl,by simp,by simp [zG]⟩
 | n+1,h=>by
  obtain ⟨a,pa,cs,h1,h1o,h2⟩:=h 0 (by omega);obtain ⟨xs,h3,h4,h5⟩:=jio hk b (off+k) n λi hi=>by
   obtain ⟨a,pa,cs,g1,g1o,g2⟩:=h (i+1) (by omega);refine ⟨a,pa,cs,g1,g1o,?_⟩;rwa [show off+(i+1) * k=off+k+i * k by rw [yF];omega] at g2
  refine ⟨a::xs,by simp [h3],?_,?_⟩
  ·intro x hx;rcases jZ.1 hx with rfl|hx
   ·exact pa
   ·exact h4 x hx
  ·simp only [zf,zG];exact ⟨hk a,KQ h1 (by simpa using h2) h1o,h5⟩
theorem jBm {w:World} {α:Type} {f:α->List A} {p:α->Prop} {k:Nat} (hk:∀a,(f a).length=k) (h0:0 < k) {H:Type} {enc:TypeId × Value->H} {base:Nat} {spare:Nat->Bool} {held:Bool} {fuel:Nat} {cs:List Value} {x:DataW H × List MemPlace}
  (ht:P.underlying t=some (.slice e)) (hc:P.cellsOf e=k)
  (he:∀(n:Nat) (cs:List Value) (x:DataW H × List MemPlace),n < fuel->DataW.trod enc P w base spare held n e cs=some x-> ∃a,p a/\jS w (λ_=>False) (f a) cs/\jJ cs)
  (h:DataW.trod enc P w base spare held fuel t cs=some x) :
  ∃xs:List α,((∀x∈xs,p x)/\xs.length<=9223372036854775807)/\jS w (λ_=>False) [A.sl k (xs.map f)] cs/\jJ cs:=by
 have hfuel:∃n,fuel=n+1:=by cases fuel with|zero=>simp [DataW.trod] at h|succ n=>exact ⟨n,rfl⟩
 rcases DataW.trod_slice ht h with ⟨rfl,_⟩|⟨a,len,cap,elems,rest,n,hfn,rfl,rfl,hb,hl,hm,hlen,hel,_,_⟩
 ·exact ⟨[],by simp,by simp only [jS,rel,ql];exact ⟨_,[],rfl,⟨none,0,rfl,by simp,by omega,Or.inl trivial⟩,rfl⟩,by simp [jJ,Value.oneCell']⟩
 ·have hn:n < fuel:=by omega
  have helem:∀i,i < len-> ∃cs',(w.cells? base (a.add (i * k)) k)=some cs'/\ ∃a',p a'/\jS w (λ_=>False) (f a') cs'/\jJ cs':=by
   intro i hi;have h1:=hel i hi;rw [hc,kO (by omega)] at h1;obtain ⟨cs',h2,h3⟩:=zI.1 h1;exact ⟨cs',h2,he n cs' _ hn h3⟩
  by_cases h00:len=0
  ·subst h00;exact ⟨[],by simp,by simp only [jS,rel,ql];exact ⟨_,[],rfl,⟨some a,cap,rfl,by simp,by simpa [maxLen] using hm,Or.inl trivial⟩,rfl⟩,by simp [jJ,Value.oneCell']⟩
  ·have hspot:a.spot=none/\a.block < w.heap.size:=by
    obtain ⟨cs',h2,a',_,h3⟩:=helem 0 (by omega);obtain ⟨g1,g2⟩:=jeA h2;obtain ⟨v,hv⟩:∃v,cs'[0]? = some v:=⟨_,kO (by omega)⟩;have:=g2 0 v hv;have e1:(a.add (0 * k)).add 0=a:=by simp [Addr.add]
    rw [e1] at this;unfold World.cell? at this;cases hb':w.heap[a.block]? with
    | none=>simp [hb'] at this
    | some o=>
     refine ⟨?_,(ZD.1 hb').1⟩;cases o<;>simp [hb'] at this
     exact this.1
   obtain ⟨block,off,spot⟩:=a;simp only at hspot;obtain ⟨rfl,hblk⟩:=hspot;obtain ⟨xs,h1,h2,h3⟩:=jio (w:=w) (f:=f) (p:=p) hk block off len λi hi=>by
    obtain ⟨cs',g1,a',g2,g3,g4⟩:=helem i hi;obtain ⟨q1,q2⟩:=jeA g1;refine ⟨a',g2,cs',g3,g4,λj v hj=> ?_⟩;have:=q2 j v hj;rwa [Kr,Kr] at this
   have hm':cap<=9223372036854775807:=by simpa [maxLen] using hm
   refine ⟨xs,⟨h2,by omega⟩,?_,by simp [jJ,Value.oneCell']⟩;simp only [jS,rel,kj];refine ⟨_,[],rfl,⟨some ⟨block,off,none⟩,cap,by rw [h1],by omega,hm',Or.inr ⟨block,off,rfl,hblk,λh=>h,h3⟩⟩,rfl⟩
theorem Rdr.slice {α:Type} {f:α->List A} {p:α->Prop} {k:Nat} (ht:P.underlying t=some (.slice e)) (hc:P.cellsOf e=k) (h0:0 < k) (hk:∀a,(f a).length=k) (he:Rdr P e f p) :
  Rdr P t (λxs:List α=>[A.sl k (xs.map f)]) (λxs=>(∀x∈xs,p x)/\xs.length<=9223372036854775807):=
 λ_ _ _ _ _ _ _ _ _ h=>jBm hk h0 ht hc (λ_ _ _ _ h'=>he _ _ _ _ _ _ _ _ _ h') h
theorem jtn {w:World} {O:Nat->Prop} {a:A} {v:Value} (h:jS w O [a] v.cells.toList) (hv:v.cells = #[v]):rel w O a v:=by
 rw [hv] at h;simp only [jS,Qd] at h;obtain ⟨u,r,⟨rfl,_⟩,h2,_⟩:=h;exact h2
end
open Go Go.RowKit Go.Sort
noncomputable section
def jof:List A->Option (List UInt8)
 | [.val (.string s)]=>some (bs s)
 | _=>none
def jaZ:List (List A)->Option (List (List UInt8))
 | []=>some []
 | x::xs=>(match jof x,jaZ xs with|some s,some l=>some (s::l)|_,_=>none)
def qf (ss:List (List UInt8)):List (List UInt8):=ss.mergeSort λx y=>decide (x<=y)
def jlT:List V->List Abs.Obj->Option Out
 | [.row 0],[.row 1 xs]=>(match jaZ xs with
  | some ss=>if ss.length < 4611686018427387904 then some (.top,[.sl 1 ((qf ss).map λs=>[sv s])]) else none
  | none=>none)
 | _,_=>none
theorem jBr {x:List A} {s:List UInt8} (h:jof x=some s):x = [sv s]:=by
 unfold jof at h;split at h
 ·cases h;rw [jJf]
 ·cases h
theorem jlV:∀ {xs:List (List A)} {ss:List (List UInt8)},jaZ xs=some ss->xs=ss.map λs=>[sv s]
 | [],ss,h=>by simp only [jaZ] at h;cases h;rfl
 | x::xs,ss,h=>by
  simp only [jaZ] at h;split at h
  ·rename_i s l h1 h2;cases h;rw [jBr h1,jlV h2];rfl
  ·cases h
theorem jd0:∀ss:List (List UInt8),jaZ (ss.map λs=>[sv s])=some ss
 | []=>rfl
 | s::ss=>by simp [jaZ,jof,jd0 ss]
def jFq:ExtV:=⟨λ_ _=>some [],λargs objs _=>jlT args objs⟩
def jaX:SigA:=⟨0,[1],[.io 0],[],.tup []⟩
theorem jcV {w:World} {O:Nat->Prop} :∀ {ss:List (List UInt8)} {vs:List Value},jS w O (ss.map λs=>[sv s]).flatten vs↔vs=ss.map encStr
 | [],vs=>by simp [jS]
 | s::ss,vs=>by
  simp only [zf,J6,K5,Ju,jS,rel];constructor
  ·rintro ⟨v,r,rfl,rfl,h⟩;rw [jcV] at h;rw [h]
  ·intro h;exact ⟨_,_,h,rfl,jcV.2 rfl⟩
theorem jg5 {o o':Abs.Obj} (h:o.alive=o'.alive) (id:Nat):(z7 [o] id).alive=(z7 [o'] id).alive:=by
 cases id with
 | zero=>exact h
 | succ n=>rfl
theorem jgJ {w:World} {b j:Nat} {c:Array Value} {T:TypeId} (h:w.heap[b]? = some (.cells c T (0,0))):w.frozen? ⟨b,j,none⟩=false:=by
 simp [World.frozen?,h]
theorem jBn {X:Ctx} {P:Program} {f:FuncId} (he:Enters P f)
  (h1:∀(blk off cap:Nat) (ss:List (List UInt8)) (w:World),Holds encStr w blk off ss.toArray->blk < w.heap.size->ss.length < 4611686018427387904->
   Calls P f #[.slice (some ⟨blk,off,none⟩) ss.length cap] w λe w'=>e = .returned (.tuple #[])/\ ∃n os,w'=grow (putRow encStr (Sort.ahead w n) blk off (ss.mergeSort λx y=>decide (x<=y)).toArray) os)
  (h0:∀(p:Option Addr) (cap:Nat) (w:World),Calls P f #[.slice p 0 cap] w λe w'=>e = .returned (.tuple #[])/\w'=w)
  {args:List V} {objs:List Abs.Obj} {out:Out} (h:jlT args objs=some out):SOk X P f args objs jaX out:=by
 unfold jlT at h;split at h;rotate_left
 ·cases h
 rename_i xs;split at h;rotate_left
 ·cases h
 rename_i ss hss;split at h;rotate_left
 ·cases h
 rename_i hlen;cases h;have hxs:=jlV hss;refine ⟨he,λw O m vs hsto hsome hrel=> ?_⟩;simp only [jx,relV] at hrel;obtain ⟨v,r,rfl,⟨hd,hm,hv⟩,rfl⟩:=hrel;have hob:=hsto.obj 0;have hst0:z7 [Abs.Obj.row 1 xs] 0 = .row 1 xs:=rfl;rw [hst0,hm] at hob;obtain ⟨hd',e1,hrow⟩:=hob;cases e1;have hholes:HolesOk jaX (A.top,[A.sl 1 ((qf ss).map λs=>[sv s])]) [] [(qf ss).map λs=>[sv s]]:=by
  refine ⟨rfl,λi a h=>by simp at h,rfl,λj r k h1 h2=> ?_⟩;cases j with
  | zero=>
   simp [jaX] at h1 h2;subst h1 h2;simp [hR,jaX]
  | succ j=>simp at h1
 have hobjs:jaX.objs [] [(qf ss).map λs=>[sv s]] = [.row 1 ((qf ss).map λs=>[sv s])]:=rfl;cases hd with
 | tre=>exact hrow.elim
 | mp=>exact hrow.elim
 | none=>
  simp only [rowOk] at hrow;simp only [hdr] at hv;obtain ⟨a,rfl⟩:=hv;have hs0:ss = []:=by
   rw [hrow] at hxs;simpa using hxs.symm
  subst hs0;refine (h0 a 0 w).mono ?_;rintro e w' ⟨rfl,rfl⟩;have hsb:qf [] = []:=by simp [qf]
  refine ⟨_,rfl,[],[(qf []).map λs=>[sv s]],m,hholes,⟨rfl,rfl,Quiet.refl _,kz _⟩,λ_ _ _=>rfl,?_,λ_ _=>rfl,?_,?_⟩
  ·rw [hobjs,hsb,hrow];exact λb hb=>Or.inl hb
  ·rw [hobjs,hsb];rw [hrow] at hsto;exact hsto
  ·simp only [jaX,Sh.toV,relV];exact ⟨[],rfl,by simp [Sh.toVL,jx]⟩
 | blk b cap n=>
  obtain ⟨rfl,q1,q2,q3,c,T,q4,q5,q6,q7⟩:=hrow;simp only [hdr] at hv;subst hv;have hxl:xs.length=ss.length:=by rw [hxs];simp
  have hcells:c.toList.take (xs.length * 1)=ss.map encStr:=by
   have:=q7;rw [hxs] at this;rw [jcV] at this;rw [<-hxs] at this;exact this
  have hget:∀j,j < ss.length->c[j]? = some (encStr ss[j]!):=by
   intro j hj;have:=congrArg (λl=>l[j]?) hcells;simp only [ja1,Jv] at this;rw [jg (by omega),kO hj] at this;rw [<-jft,this];simp [hj]
  have hb:b < w.heap.size:=(ZD.1 q4).1;have hH:Holds encStr w b 0 ss.toArray:=by
   intro j hj;have hj:j < ss.length:=by simpa using hj
   refine ⟨?_,jgJ q4⟩;have:=hget j hj;simp only [World.cell?,q4,yd];rw [this];simp [hj]
  have hcall:=h1 b 0 cap ss w hH hb hlen;rw [<-hxl] at hcall;refine hcall.mono ?_;rintro e w' ⟨rfl,n,os,rfl⟩;have hsl:(qf ss).length=ss.length:=by simp [qf]
  generalize hW:grow (putRow encStr (Sort.ahead w n) b 0 (ss.mergeSort λx y=>decide (x<=y)).toArray) os=w';have hheap:w'.heap=(w.heap.modify b (onCells (putCells encStr 0 (ss.mergeSort λx y=>decide (x<=y)).toArray)))++os:=by rw [<-hW];rfl
  have hother:∀b',b' < w.heap.size->b'≠b->w'.heap[b']? = w.heap[b']? :=by
   intro b' hb' hne;rw [hheap,jgu (by simpa using hb'),joB,jf (Ne.symm hne)]
  have hself:w'.heap[b]? = some (.cells (putCells encStr 0 (qf ss).toArray c) T (0,0)):=by
   rw [hheap,jgu (by simpa using hb),joB,jg rfl,q4];rfl
  have hst:∀id,(z7 [Abs.Obj.row 1 ((qf ss).map λs=>[sv s])] id).alive=(z7 [Abs.Obj.row 1 xs] id).alive:=jg5 rfl;have hmz:∀b',Mz m (z7 [Abs.Obj.row 1 ((qf ss).map λs=>[sv s])]) b'->Mz m (z7 [Abs.Obj.row 1 xs]) b':=by
   rintro b' ⟨id,hd',ha,hm',hi'⟩;exact ⟨id,hd',by rw [<-hst id];exact ha,hm',hi'⟩
  have hbm:Mz m (z7 [Abs.Obj.row 1 xs]) b:=⟨0,_,rfl,hm,Ko⟩;have hsz:w.heap.size<=w'.heap.size:=by rw [hheap];simp
  have hchg:Chg w m (z7 [Abs.Obj.row 1 xs]) w' m (z7 [Abs.Obj.row 1 ((qf ss).map λs=>[sv s])]):=by
   refine ⟨by rw [<-hW];rfl,by rw [<-hW];rfl,⟨by rw [<-hW];rfl,by rw [<-hW];exact Nat.le_add_right _ _⟩,hsz,λb' hb' hn=>hother b' hb' λe=>hn (by rw [e];exact hbm),MLe.refl m,λb' h=>Or.inl (hmz b' h)⟩
  have hcut:(putCells encStr 0 (qf ss).toArray c).toList.take (xs.length * 1)=(qf ss).map encStr:=by
   refine jbh λj=> ?_;rw [ja1,Jv];by_cases hj:j < ss.length
   ·have hjc:=hget j hj;have hjs:j < c.size:=(ZD.1 hjc).1;have hjb:j < (qf ss).length:=by omega
    rw [jg (by omega),jft];unfold putCells;rw [Array.getElem?_mapIdx,hjc];have:0<=j/\j < 0+(qf ss).toArray.size:=⟨ko _,by simpa using hjb⟩;simp only [JS,this,and_self,Jw,jak];rw [kO hjb];simp [hjb]
   ·rw [jf (by omega),y9 (show (qf ss).length<=j by omega)];rfl
  refine ⟨_,rfl,[],[(qf ss).map λs=>[sv s]],m,hholes,⟨hchg.os,hchg.tape,hchg.output,hsz⟩,hchg.keep,λb' h=>Or.inl (hmz b' (by rw [hobjs] at h;exact h)),λ_ _=>rfl,?_,?_⟩
  ·rw [hobjs];refine hsto.chg hchg ?_ (λid hd' b' ha hm' _=>Or.inl ⟨by rw [<-hst id];exact ha,hm'⟩) (λid id' hd1 hd2 b' ha ha'=>hsto.inj id id' hd1 hd2 b' (by rw [<-hst id];exact ha) (by rw [<-hst id'];exact ha')) ?_
   ·intro id h;refine hsto.fresh id ?_;cases id with
    | zero=>cases h
    | succ id=>rfl
   ·intro id;cases id with
    | succ id=>exact Or.inl ⟨rfl,rfl,λhd' b' ha=>by cases ha⟩
    | zero=>
     right;rw [hm];refine ⟨_,rfl,by simp [hsl,hxl],by simp [hsl];omega,q2,by simp,_,T,hself,?_,?_,?_⟩
     ·simp [putCells];omega
     ·have e:((qf ss).map λs=>[sv s]).length=xs.length:=by simp [hsl,hxl]
      rw [e,hcut];intro u hu;obtain ⟨s,_,rfl⟩:=zN.1 hu;rfl
     ·have e:((qf ss).map λs=>[sv s]).length=xs.length:=by simp [hsl,hxl]
      rw [e,jcV];exact hcut
  ·simp only [jaX,Sh.toV,relV];exact ⟨[],rfl,by simp [Sh.toVL,jx]⟩
end
noncomputable section
def jrd:List V->List Abs.Obj->Option (List (FuncId × List A))
 | [.row 0,.fn g caps],[.row _ xs]=>(jc5 caps).map λcs=>xs.flatMap λx=>xs.map λy=>(g,[A.agg x,A.agg y]++cs)
 | _,_=>none
def jjn:Out->Option Int
 | (.val (.int .i64 c),[])=>some c
 | _=>none
def jgU:List Out->Option (List Int)
 | []=>some []
 | o::os=>(match jjn o,jgU os with|some c,some l=>some (c::l)|_,_=>none)
def ltO {α:Type} (cf:α->α->Int) (x y:α):Bool:=decide (cf x y < 0)
def jhb (N:Nat) (cs:List Int) (i j:_root_.Fin N):Int:=cs.getD (i.val * N+j.val) 0
open Classical in
def jjT (k:Nat) (xs:List (List A)) (cs:List Int):Option Out:=
 match xs with
 | []=>some (.top,[.sl k []])
 | x::r=>if SWO (ltO (jhb (r.length+1) cs))/\r.length+1 < 4611686018427387904 then
   some (.top,[.sl k ((pdq (ltO (jhb (r.length+1) cs)) (Array.ofFn (n:=r.length+1) id) 0 (r.length+1) (Lib.bitLen (r.length+1)) true true).toList.map λi=>(x::r).getD i.val [])]) else none
def jBi (k0:Nat):List V->List Abs.Obj->List Out->Option Out
 | [.row 0,.fn _ _],[.row k xs],outs=>if Nat.beq k k0 then (jgU outs).bind λcs=>jjT k xs cs else none
 | _,_,_=>none
def sfE (k:Nat):ExtV:=⟨jrd,jBi k⟩
def jci (k:Nat):SigA:=⟨0,[k],[.io 0],[],.tup []⟩
def juZ:List A->Option Out
 | [.val (.int .i64 n)]=>if -9223372036854775808<=n/\n<=9223372036854775807 then some (sv (Lib.itoa n),[]) else none
 | _=>none
end
end Go.Proofs.YtbgikpffkgjecaaGreatDoor.Abs
