/- Pd -/
import Derived.Test.YtdbgbieenhcldaaGreatDoorPb
import Derived.Test.YtdbgbieenhcldaaGreatDoorPq
import Derived.Test.YtdbgbieenhcldaaGreatDoorPa
import Derived.KernelRfl
namespace Go.Proofs.YtdbgbieenhcldaaGreatDoor
open Go Go.RowKit Go.Proofs.YtdbgbieenhcldaaGreatDoor.Abs
set_option linter.unusedSimpArgs false
set_option linter.unusedVariables false
set_option maxHeartbeats 1000000
theorem jgm (x y:List UInt8):(yk x y || decide (x=y))=!yk y x:=by
 rw [KA,KA];by_cases h1:x < y
 ·rw [decide_eq_true h1,decide_eq_false (λh2=>List.lt_irrefl _ (List.lt_trans h1 h2))];rfl
 ·by_cases h2:x=y
  ·subst h2;rw [decide_eq_false h1,decide_eq_true rfl];rfl
  ·rw [decide_eq_false h1,decide_eq_false h2,decide_eq_true (jud h1 h2)];rfl
theorem jmZ (b:Bool) (x y:List UInt8):js .leq b (sv x) (sv y)=some (vb (!yk y x)):=by rw [<-jgm];rfl
def jdD:Option (List UInt8)->jz->Bool
 | _,[]=>true
 | none,q::r=>jh q.1 && (kQ q.2 && (!decide (q.2.name=q.1) && jdD (some q.1) r))
 | some m,q::r=>yk m q.1 && (jh q.1 && (kQ q.2 && (!decide (q.2.name=q.1) && jdD (some q.1) r)))
def okB (q:List UInt8 × T):Bool:=jh q.1 && (kQ q.2 && !decide (q.2.name=q.1))
theorem jeP:∀(s:jz) (m:List UInt8) (t:T),jdD (some m) s=(jji ((m,t)::s) && s.all okB)
 | [],m,t=>rfl
 | q::r,m,t=>by
  rw [jdD,jeP r q.1 q.2,jji,List.all_cons,okB];cases yk m q.1<;>cases jh q.1<;>cases kQ q.2<;>cases decide (q.2.name=q.1)<;>simp
theorem jnJ (s:jz):(jdD none s && decide (s.length<=12))=zt s:=by
 have hd:∀q:List UInt8 × T,dq q.2.name q.1=decide (q.2.name=q.1):=λq=>by
  by_cases h:q.2.name=q.1
  ·rw [yK.2 h,decide_eq_true h]
  ·rw [jg7.2 h,decide_eq_false h]
 have ha:s.all (λq=>jh q.1 && (kQ q.2 && !dq q.2.name q.1))=s.all okB:=by
  unfold okB;congr 1;funext q;rw [hd]
 unfold zt;rw [ha];cases s with
 | nil=>rfl
 | cons q r=>
  rw [jdD,jeP r q.1 q.2,List.all_cons];unfold okB;cases jh q.1<;>cases kQ q.2<;>cases decide (q.2.name=q.1)<;>simp [Bool.and_comm]
def SzB (s:jz):Prop:=s.length<=1000000/\ ∀q∈s,q.1.length<=1000000/\Tz q.2
theorem SzB.sz {s:jz} (h:SzB s):Sz 1048576 s:=⟨by have:=h.1;omega,λq hq=>⟨by have:=(h.2 q hq).1;omega,(h.2 q hq).2⟩⟩
theorem jgb (q:List UInt8 × T):jP 3 (.elt (bc q) 0)=some (.agg [sv q.1,sv q.2.name,kr q.2.args]):=rfl
theorem jnK (s:jz) (hs:SzB s):G 135 [sb s]=some (vb (zt s),[]):=by
 have hl:=hs.1;have key:=upto (P:=λi=>∀p:Option (List UInt8),(p=none↔i=0)->(∀m,p=some m-> ∃h:i - 1 < s.length,s[i - 1].1=m)->jfb (sbs s) (vi (s.length:Nat)) (vi (i:Nat)) (sbs s)=some (vb (jdD p (s.drop i) && decide (s.length<=12)),[])) (n:=s.length) ?_ ?_ 0 (Nat.zero_le _) none (by simp) (λm h=>by cases h)
 ·simp only [Int.natCast_zero,List.drop_zero] at key;rw [jnJ] at key;rw [jxt];simp only [jf,key]
 ·intro p _ _;have e:decide (((s.length:Nat):Int)<=12)=decide (s.length<=12):=by congr 1;exact propext (by omega)
  have:jdD p []=true:=by cases p<;>rfl
  rw [jo2,List.drop_length,this,Bool.true_and,<-e];simp only [jf]
 ·intro i hi ih p hp hq;have hlt:(i:Int) < ((s.length:Nat):Int):=by omega
  have h5:=jv hi (by show s.length<=9223372036854775807;omega)
  have hm:=hs.2 _ (List.getElem_mem hi);have e1:=Z5 s[i].1 (by show s[i].1.length<=9223372036854775807;omega);have e2:=K6 s[i].2 hm.2.wf hm.2;have ih:=ih (some s[i].1) (by simp) (λm h=>by cases h;exact ⟨by simpa using hi,rfl⟩);rw [jo2,jl hi];have e3:decide (s[i].2.name=s[i].1)=decide (s[i].2.name=s[i].1):=rfl;generalize hn:decide (s[i].2.name=s[i].1)=nn at *;have e4:js .eql false (sv s[i].2.name) (sv s[i].1)=some (vb nn):=by rw [jet,hn]
  generalize hv:jdD (some s[i].1) (s.drop (i+1))=vv at *;cases p with
  | none=>
   have h0:¬(0:Int) < (i:Int):=by have:=hp.1 rfl;omega
   rw [jdD,hn,hv];cases hb:jh s[i].1<;>rw [hb] at e1
   ·simp only [jf,hlt,jb hi,jgb,e1,Bool.false_and]
   cases hk:kQ s[i].2<;>rw [hk] at e2
   ·simp only [jf,hlt,jb hi,jgb,e1,e2,h0,Bool.false_and,Bool.true_and]
   cases nn
   ·simp only [jf,hlt,jb hi,jgb,e1,e2,h0,e4,h5,ih,Bool.true_and]
   ·simp only [jf,hlt,jb hi,jgb,e1,e2,h0,e4,Bool.false_and,Bool.true_and]
  | some m=>
   obtain ⟨hq1,rfl⟩:=hq m rfl;have h0:(0:Int) < (i:Int):=by
    have:¬i=0:=λh=>by have:=hp.2 h;cases this
    omega
   have c1:ck ((i:Int) - 1)=some (vi ((i - 1:Nat):Int)):=by rw [show (i:Int) - 1=((i - 1:Nat):Int) by omega];exact jH (by omega) (by omega)
   have e5:=jmZ false s[i].1 s[i - 1].1;rw [jdD,hn,hv];cases hb:jh s[i].1<;>rw [hb] at e1
   ·rw [Bool.false_and,Bool.and_false];simp only [jf,hlt,jb hi,jgb,e1,Bool.false_and]
   cases hc:yk s[i - 1].1 s[i].1<;>rw [hc] at e5
   ·simp only [jf,hlt,jb hi,jb hq1,jgb,Jx,y9,e1,h0,c1,e5,Bool.false_and]
   cases hk:kQ s[i].2<;>rw [hk] at e2
   ·simp only [jf,hlt,jb hi,jb hq1,jgb,Jx,y9,e1,h0,c1,e5,e2,Bool.false_and,Bool.true_and]
   cases nn
   ·simp only [jf,hlt,jb hi,jb hq1,jgb,Jx,y9,e1,h0,c1,e5,e2,e4,h5,ih,Bool.true_and]
   ·simp only [jf,hlt,jb hi,jb hq1,jgb,Jx,y9,e1,h0,c1,e5,e2,e4,Bool.false_and,Bool.true_and]
theorem jge {α:Type} {R:α->α->Prop} (irr:∀a,¬R a a) (asy:∀a b,R a b-> ¬R b a):∀ {l m:List α},l.Pairwise R->m.Pairwise R->(∀x,x∈l↔x∈m)->l=m
 | [],[],_,_,_=>rfl
 | [],b::m,_,_,hx=>absurd ((hx b).2 (by simp)) (by simp)
 | a::l,[],_,_,hx=>absurd ((hx a).1 (by simp)) (by simp)
 | a::l,b::m,h1,h2,hx=>by
  obtain ⟨g1,g2⟩:=List.pairwise_cons.1 h1;obtain ⟨k1,k2⟩:=List.pairwise_cons.1 h2;have hab:a=b:=by
   rcases List.mem_cons.1 ((hx a).1 (by simp)) with e|e
   ·exact e
   rcases List.mem_cons.1 ((hx b).2 (by simp)) with e'|e'
   ·exact e'.symm
   ·exact (asy _ _ (k1 a e) (g1 b e')).elim
  subst hab;have:l=m:=jge irr asy g2 k2 λx=>by
   constructor
   ·intro hxl;rcases List.mem_cons.1 ((hx x).1 (by simp [hxl])) with e|e
    ·exact (irr x (e ▸ g1 x hxl)).elim
    ·exact e
   ·intro hxm;rcases List.mem_cons.1 ((hx x).2 (by simp [hxm])) with e|e
    ·exact (irr x (e ▸ k1 x hxm)).elim
    ·exact e
  rw [this]
theorem jar {x y z:List UInt8} (h1:yk x y=true) (h2:yk y z=true):yk x z=true:=by
 rw [KA,decide_eq_true_eq] at *;exact List.lt_trans h1 h2
theorem jq9 (x y:List UInt8):jT x y < 0↔yk x y=true:=by
 unfold jT;cases h:yk x y with
 | true=>simp
 | false=>
  rw [if_neg Bool.false_ne_true];split<;>simp
def outT (o:Option T):Option Out:=match o with|some t=>some (.tup [tm t,vb true],[])|none=>some (.tup [.agg [sv [],.sl 2 []],vb false],[])
def AxT (t:T):Prop:=zO t=true\/(t.name = [61]/\t.args.length=2/\ ∀u∈t.args,zO u=true)
theorem AxT.rx {t:T} (h:AxT t):Rx' t:=h.elim Or.inl λh=>Or.inr ⟨h.1,h.2.2⟩
theorem AxT.tz {t:T} (h:AxT t) (hn:nodes t<=100000):Tz t:=by
 rcases h with h|h
 ·have:=jag t h;unfold Tz;omega
 ·unfold Tz;rw [jN] at hn;rw [j4,h.1,h.2.1];have:=jlG h.2.2;simp only [List.length_cons,List.length_nil];omega
theorem AxT.sub {s:jz} (hs:zt s=true) {t:T} (h:AxT t):AxT (sub s t):=by
 rcases h with h|h
 ·exact Or.inl (jau (jeT hs) t h)
 ·have hvn:jh t.name=false:=by rw [h.1];decide
  right;rw [QI hvn];refine ⟨h.1,by show (t.args.map _).length=2;rw [List.length_map,h.2.1],λu hu=> ?_⟩;obtain ⟨a,ha,rfl⟩:=List.mem_map.1 hu;exact jau (jeT hs) a (h.2.2 a ha)
theorem AxT.sub_tz {s:jz} (hs:zt s=true) {t:T} (h:AxT t) (hn:nodes t<=3000):Tz (Go.Proofs.YtdbgbieenhcldaaGreatDoor.sub s t):=by
 have:=jnw (u:=s) (Z:=30) (by decide) (jgB hs) t;exact (h.sub hs).tz (by omega)
abbrev LtB (p q:List UInt8 × T):Prop:=yk p.1 q.1=true
theorem jaZ (n:List UInt8) (t:T):∀s:jz,s.Pairwise LtB->(∀q∈s,q.1≠n)->(Qw s n t).Pairwise LtB
 | [],_,_=>by unfold Qw;simp
 | p::s,h,hn=>by
  obtain ⟨h1,h2⟩:=List.pairwise_cons.1 h;cases hc:yk p.1 n with
  | true=>
   have e:Qw (p::s) n t=p::Qw s n t:=by
    unfold Qw;rw [List.takeWhile_cons_of_pos (p:=λp:List UInt8 × T=>yk p.1 n) hc,List.dropWhile_cons_of_pos (p:=λp:List UInt8 × T=>yk p.1 n) hc,List.cons_append]
   rw [e];refine List.pairwise_cons.2 ⟨λx hx=> ?_,jaZ n t s h2 λq hq=>hn q (by simp [hq])⟩;rcases jdi.1 hx with hx|hx
   ·exact h1 x hx
   ·rw [hx];exact hc
  | false=>
   have e:Qw (p::s) n t=(n,t)::p::s:=by
    unfold Qw;rw [List.takeWhile_cons_of_neg (p:=λp:List UInt8 × T=>yk p.1 n) (by simp [hc]),List.dropWhile_cons_of_neg (p:=λp:List UInt8 × T=>yk p.1 n) (by simp [hc])];rfl
   have hlt:yk n p.1=true:=by
    have h3:=jgm n p.1;rw [hc] at h3;have h4:decide (n=p.1)=false:=decide_eq_false λe=>hn p (by simp) e.symm;rw [h4,Bool.or_false] at h3;exact h3
   rw [e];refine List.pairwise_cons.2 ⟨λx hx=> ?_,h⟩;rcases List.mem_cons.1 hx with e|e
   ·rw [e];exact hlt
   ·exact jar hlt (h1 x e)
theorem zV:∀(m s:jz),s.Pairwise LtB->(m.map Prod.fst).Nodup->(∀p∈m,∀q∈s,q.1≠p.1)->(m.foldl (λs p=>jij s p.1 p.2) s).Pairwise LtB
 | [],s,h,_,_=>h
 | p::m,s,h,hn,hd=>by
  rw [List.map_cons,List.nodup_cons] at hn;rw [List.foldl_cons];by_cases he:p.2.name=p.1
  ·have:jij s p.1 p.2=s:=if_pos he;rw [this];exact zV m s h hn.2 λq hq r hr=>hd q (by simp [hq]) r hr
  ·have:jij s p.1 p.2=Qw s p.1 p.2:=if_neg he;rw [this];refine zV m _ (jaZ p.1 p.2 s h (hd p (by simp))) hn.2 λq hq r hr=> ?_;rcases jdi.1 hr with hr|hr
   ·exact hd q (by simp [hq]) r hr
   ·rw [hr];intro e;exact hn.1 (List.mem_map.2 ⟨q,hq,e.symm⟩)
theorem jgo {l s:jz} (hn:(l.map Prod.fst).Nodup) (hk:∀p∈l,p.2.name≠p.1) (hp:s.Perm l) (hs:s.Pairwise λa b=>¬jT b.1 a.1 < 0):s=zj l:=by
 have h1:=zV l [] List.Pairwise.nil hn λp _ q h=>by cases h
 have h2:=(yB l [] hk).2;refine jge (R:=LtB) (λa h=>by unfold LtB at h;rw [ZJ] at h;cases h) (λa b h h'=>by have:=jar h h';rw [ZJ] at this;cases this) ?_ h1 λx=> ?_
 ·have hne:s.Pairwise λa b=>a.1≠b.1:=by
   have:(s.map Prod.fst).Nodup:=(hp.map Prod.fst).nodup_iff.2 hn;rw [List.nodup_iff_pairwise_ne] at this;exact List.pairwise_map.1 this
  refine (hs.and hne).imp λ{a b} h=> ?_;have h3:=jgm a.1 b.1;rw [decide_eq_false h.2,Bool.or_false] at h3;show yk a.1 b.1=true;rw [h3];cases hc:yk b.1 a.1 with
  | false=>rfl
  | true=>exact (h.1 ((jq9 _ _).2 hc)).elim
 ·rw [hp.mem_iff];have:=h2 x;simp only [List.not_mem_nil,false_or] at this;exact this.symm
def jvS (o:Option jz):Option Out:=match o with|some s=>some (.tup [sb s,vb true],[])|none=>some (.tup [.agg [.sl 3 []],vb false],[])
theorem jvX {n:Nat} (h:n<=1000000):jO n 56=true:=jyb (by omega)
def kX (l:jz):jz:=l.filter λp=> !decide (p.2.name=p.1)
def jyC (s u:jz):jz:=kX (s.map λq=>(q.1,sub u q.2))++u.filter λq=>(look s q.1).isNone
structure Mdl where
 M:List UInt8->List Int->Int
 Q:List UInt8->List Int->Bool
 good:Int->Prop
 ok:∀n vs,good (M n vs)
def yg (m:Mdl) (e:List UInt8->Int) (t:T):Bool:=if t.name = [61]/\t.args.length=2 then decide (val m.M e (jbk t)=val m.M e (jbn t)) else m.Q t.name (t.args.map (val m.M e))
def clV (m:Mdl) (e:List UInt8->Int) (c:jK):Prop:=∃l∈c,yg m e l.2=l.1
def juT (m:Mdl) (e:List UInt8->Int):Prop:=∀x,m.good (e x)
def trM (m:Mdl) (c:jK):Prop:=∀e,juT m e->clV m e c
def Sd (ps:List jK) (x:jK):Prop:=∀m:Mdl,(∀c∈ps,trM m c)->trM m x
theorem jfu {t:T} (h:t.args.length=2):t.args = [jbk t,jbn t]:=by
 obtain ⟨n,us⟩:=t
 match us,h with
 | [a,b],_=>rfl
theorem jco {m:Mdl} {e e':List UInt8->Int} {a b:T} (hn:a.name=b.name) (hv:a.args.map (val m.M e)=b.args.map (val m.M e')):yg m e a=yg m e' b:=by
 have hl:a.args.length=b.args.length:=by have:=congrArg List.length hv;simpa using this
 unfold yg;rw [hn,hl];by_cases c:b.name = [61]/\b.args.length=2
 ·rw [if_pos c,if_pos c];have ha:=jfu (t:=a) (by rw [hl];exact c.2);have hb:=jfu c.2;rw [ha,hb] at hv;simp only [List.map_cons,List.map_nil,List.cons.injEq] at hv;rw [hv.1,hv.2.1]
 ·rw [if_neg c,if_neg c,hv]
section
variable (m:Mdl)
theorem jsj {f:List UInt8->List UInt8} (hf:∀n,jh n=true->jh (f n)=true) (e:List UInt8->Int):∀t:T,zO t=true->val m.M e (jB f t)=val m.M (λx=>e (f x)) t:=by
 refine T.ind λt ih=> ?_;intro ht;rw [JB];cases hv:jh t.name with
 | true=>
  rw [if_pos rfl,jgA (t:=t) ht hv,jdE];show (if ([]:List T).isEmpty && upN (f t.name) then e (f t.name) else _)=_;rw [jgx (hf _ hv)];rfl
 | false=>
  have hs:=jbP (jj3 ht hv);rw [if_neg Bool.false_ne_true,jbQ (t:= .mk t.name (t.args.map (jB f))) hs,jbQ (t:=t) hs];show m.M t.name ((t.args.map (jB f)).map (val m.M e))=_;rw [List.map_map];exact congrArg _ (List.map_congr_left λa ha=>ih a ha (zH ht a ha))
theorem jhk {f:List UInt8->List UInt8} (hf:∀n,jh n=true->jh (f n)=true) (e:List UInt8->Int) {t:T} (h:Bx t):yg m e (jB f t)=yg m (λx=>e (f x)) t:=by
 have hv:=h.nv;refine jco (Zk hv) ?_;rw [Kc hv,List.map_map];exact List.map_congr_left λa ha=>jsj m hf e a (h.args a ha)
variable {m}
theorem jqm {f:List UInt8->List UInt8} (hf:∀n,jh n=true->jh (f n)=true) {c:jK} (hb:∀y∈c,Bx y.2) (h:trM m c):trM m (c.map λl=>(l.1,jB f l.2)):=by
 intro e he;obtain ⟨x,hx,hh⟩:=h (λx=>e (f x)) λx=>he _;exact ⟨(x.1,jB f x.2),List.mem_map.2 ⟨x,hx,rfl⟩,by show yg m e (jB f x.2)=x.1;rw [jhk m hf e (hb x hx)];exact hh⟩
theorem jsf {l:jK} (h:trM m l):trM m (zl cmpL l):=λe he=>by
 obtain ⟨x,hx,hh⟩:=h e he;exact ⟨x,yA.2 hx,hh⟩
theorem Y7 {p:UInt8} (hp:YG p=true) {c:jK} (hc:CN c):∀n,jh n=true->jh (jF p (ji c) n)=true:=λn hn=>JX hp (by have:=zE hc;omega) hn
theorem jsg {p:UInt8} (hp:YG p=true) {c:jK} (hc:CN c) (h:trM m c):trM m (renC p c):=jsf (jqm (Y7 hp hc) (λy hy=>(hc.2 y hy).1) h)
theorem jiK:∀(k:Nat) {c:jK},CN c->trM m c->trM m (normF k c)
 | 0,_,_,h=>h
 | k+1,c,hc,h=>by
  rw [normF];split
  ·exact h
  ·exact jiK k (hc.renC (by decide)) (jsg (by decide) hc h)
theorem jql {d:jK} (hd:kV d=true) (h:trM m d):trM m (zz d):=jqm (Y7 (by decide) (ky hd).1) (λy hy=>((ky hd).1.2 y hy).1) h
end
def jyZ (M:List UInt8->List Int->Int) (e:List UInt8->Int) (s:jz):Prop:=∀q∈s,e q.1=val M e q.2
section
variable {M:List UInt8->List Int->Int} {e:List UInt8->Int}
end
theorem jmf {p:UInt8} {ns:List (List UInt8)} (hd:ns.Nodup) {n n':List UInt8} (h:n∈ns) (h':n'∈ns) (e:jF p ns n=jF p ns n'):n=n':=by
 obtain ⟨i,hi,rfl⟩:=List.getElem_of_mem h;obtain ⟨j,hj,rfl⟩:=List.getElem_of_mem h';rw [yT hd hi,yT hd hj] at e;have:=jh0 e;subst this;rfl
def jcn (p:UInt8) (ns:List (List UInt8)) (x:List UInt8):List UInt8:=match ns.find? (λn=>decide (jF p ns n=x)) with|some n=>n|none=>x
theorem jli {p:UInt8} {ns:List (List UInt8)} (hd:ns.Nodup) {n:List UInt8} (h:n∈ns):jcn p ns (jF p ns n)=n:=by
 unfold jcn;split
 ·rename_i n' hn;have h1:=List.find?_some (p:=λn'=>decide (jF p ns n'=jF p ns n)) hn;exact jmf hd (List.mem_of_find?_eq_some hn) h (of_decide_eq_true h1)
 ·rename_i hn;exact absurd (decide_eq_true (rfl:jF p ns n=jF p ns n)) (List.find?_eq_none.1 hn n h)
theorem jeU:∀ {ts:List T} {a:T} {x:List UInt8},a∈ts->x∈kP a->x∈j8 ts
 | [],_,_,h,_=>by cases h
 | t::ts,a,x,h,hx=>by
  rw [j8];rcases List.mem_cons.1 h with e|h
  ·exact List.mem_append_left _ (e ▸ hx)
  ·exact List.mem_append_right _ (jeU h hx)
section
variable {m:Mdl}
theorem ja7 {p:UInt8} (hp:YG p=true) {c:jK} (hc:CN c) (h:trM m (c.map λl=>(l.1,jB (jF p (ji c)) l.2))):trM m c:=by
 intro e he;obtain ⟨x,hx,hh⟩:=h (λy=>e (jcn p (ji c) y)) λx=>he _;obtain ⟨l,hl,rfl⟩:=List.mem_map.1 hx;have hb:=(hc.2 l hl).1;have hh:yg m (λy=>e (jcn p (ji c) y)) (jB (jF p (ji c)) l.2)=l.1:=hh;rw [jhk m (Y7 hp hc) _ hb] at hh;refine ⟨l,hl,?_⟩;rw [<-hh];refine jco rfl (List.map_congr_left λa ha=>jeS a (hb.args a ha) λx hx=> ?_);have hn:x∈ji c:=yr.2 ⟨l,hl,by
  rw [kS,hb.nv,if_neg Bool.false_ne_true];exact jeU ha hx⟩
 show e x=e (jcn p (ji c) (jF p (ji c) x));rw [jli (kI c) hn]
theorem jgs {l:jK} (h:trM m (zl cmpL l)):trM m l:=λe he=>by
 obtain ⟨x,hx,hh⟩:=h e he;exact ⟨x,yA.1 hx,hh⟩
theorem jgt {p:UInt8} (hp:YG p=true) {c:jK} (hc:CN c) (h:trM m (renC p c)):trM m c:=ja7 hp hc (jgs h)
theorem Yc:∀(k:Nat) {c:jK},CN c->trM m (normF k c)->trM m c
 | 0,_,_,h=>h
 | k+1,c,hc,h=>by
  rw [normF] at h;split at h
  ·exact h
  ·exact jgt (by decide) hc (Yc k (hc.renC (by decide)) h)
theorem jdY {d:jK} (hd:kV d=true) (h:trM m (zz d)):trM m d:=ja7 (p:=89) (by decide) (ky hd).1 h
end
theorem jkm {c:jK} (hc:CN c) (hn:kV (normC c)=true):Sd [c] (zz (normC c))/\Sd [zz (normC c)] c:=
 ⟨λ_ t=>jql hn (jiK 10 hc (t c List.mem_cons_self)),λ_ t=>Yc 10 hc (jdY hn (t _ List.mem_cons_self))⟩
theorem jkC {c:jK} (h:kC c=true):kC (renC 88 c)=true:=by
 obtain ⟨hc,ha,hat⟩:=km h;have hr:=hc.renC (p:=88) (by decide);unfold kC;rw [Bool.and_eq_true,Bool.and_eq_true,List.all_eq_true,decide_eq_true_eq,jb4];refine ⟨λl hl=> ?_,(zS kK _).1,hr.1⟩;obtain ⟨l0,h0,rfl⟩:=List.mem_map.1 (yA.1 hl);exact qZ.2 ⟨(hr.2 _ hl).1,jnf _ (qZ.1 (hat l0 h0)).2⟩
theorem jba:∀(k:Nat) {c:jK},kC c=true->kC (normF k c)=true
 | 0,_,h=>h
 | k+1,c,h=>by
  rw [normF];split
  ·exact h
  ·exact jba k (jkC h)
theorem jj2 {c:jK} (h:kC c=true) (hl:(ji c).length<=10):kV (normC c)=true:=by
 obtain ⟨hc,ha,_⟩:=km h;unfold kV;rw [show kC (normC c)=true from jba 10 h,jfZ hc ha hl];rfl
theorem jhX {c:jK} (hn:zf c=true):normC c=c:=by
 show normF 10 c=c;rw [normF,if_pos hn]
def Agr (f:List UInt8->List UInt8) (m:jz):Prop:=∀n r,look m n=some r->r = .mk (f n) []
mutual
theorem jue {f:List UInt8->List UInt8} :∀(a:T) {m:jz},Agr f m-> ∃m',mt m a (jB f a)=some m'/\Agr f m'
 | .mk n us,m,hm=>by
  rw [jB];cases hv:jh n with
  | true=>
   rw [if_pos rfl,Yq (p:= .mk n us) hv];show ∃m',(match look m n with|some r=>if dq r (.mk (f n) []) then some m else none|none=>some (m++[(n,.mk (f n) [])]))=some m'/\Agr f m';cases hl:look m n with
   | some r=>
    have e:=hm n r hl;refine ⟨m,?_,hm⟩;show (if dq r (.mk (f n) [])=true then some m else none)=some m;rw [e,ZC,if_pos rfl]
   | none=>
    refine ⟨m++[(n,.mk (f n) [])],rfl,λx r hx=> ?_⟩;rw [jaS] at hx;cases hlx:look m x with
    | some r'=>
     rw [hlx] at hx;cases hx;exact hm x _ hlx
    | none=>
     rw [hlx] at hx;have hi:=Km hx;have e:=List.mem_singleton.1 hi;cases e;rfl
  | false=>
   have hl:us.length=(zd f us).length:=by rw [Jm,List.length_map]
   rw [if_neg Bool.false_ne_true,Zb (p:= .mk n us) hv];show ∃m',(if n=n/\us.length=(zd f us).length then Jp m us (zd f us) else none)=some m'/\Agr f m';rw [if_pos ⟨rfl,hl⟩];exact jlC us hm
theorem jlC {f:List UInt8->List UInt8} :∀(us:List T) {m:jz},Agr f m-> ∃m',Jp m us (zd f us)=some m'/\Agr f m'
 | [],m,hm=>⟨m,by rw [Jp],hm⟩
 | u::us,m,hm=>by
  obtain ⟨m1,e1,h1⟩:=jue u hm;obtain ⟨m2,e2,h2⟩:=jlC us h1;refine ⟨m2,?_,h2⟩;rw [zd,Jp];show (mt m u (jB f u)).bind _=_;rw [e1];exact e2
end
noncomputable def jyh (d:jK):List Lt->jz->Option jz
 | [],m=>some m
 | l::c,m=>d.findSome? λx=>if x.1=l.1 then (mt m l.2 x.2).bind λm'=>jyh d c m' else none
mutual
theorem QB {f g:List UInt8->List UInt8} (hf:∀n,jh n=true->jh (f n)=true):∀t:T,jB g (jB f t)=jB (λn=>g (f n)) t
 | .mk n us=>by
  rw [jB,jB];cases hv:jh n with
  | true=>
   rw [if_pos rfl,if_pos rfl,jB,if_pos (hf n hv)]
  | false=>
   rw [if_neg Bool.false_ne_true,if_neg Bool.false_ne_true,jB,hv,if_neg Bool.false_ne_true,jeE hf us]
theorem jeE {f g:List UInt8->List UInt8} (hf:∀n,jh n=true->jh (f n)=true):∀ts:List T,zd g (zd f ts)=zd (λn=>g (f n)) ts
 | []=>rfl
 | t::ts=>by rw [zd,zd,zd,QB hf t,jeE hf ts]
end
theorem YE {c:jK} (h:CN c) {l:Lt} (hl:l∈c) {n:List UInt8} (hn:n∈wV (wT l.2)):n∈ji c:=by
 rw [Jf c (λl hl=>(h.2 l hl).1),KE];exact Or.inr (List.mem_flatMap.2 ⟨l,hl,hn⟩)
theorem joH {p:UInt8} {ns:List (List UInt8)} (hv:∀n∈ns,jh n=true) (x:List UInt8) (hx:jh x=true):jh (jcn p ns x)=true:=by
 unfold jcn;split
 ·rename_i n hn;exact hv n (List.mem_of_find?_eq_some hn)
 ·exact hx
theorem jf1:∀(k:Nat) {c:jK},CN c-> ∃f g:List UInt8->List UInt8,(∀n,jh n=true->jh (f n)=true)/\(∀n,jh n=true->jh (g n)=true)/\(∀l∈c,(l.1,jB f l.2)∈normF k c)/\ ∀l∈normF k c,(l.1,jB g l.2)∈c:=by
 have base:∀ {c:jK},CN c-> ∀l∈c,(l.1,jB (λn=>n) l.2)∈c:=λhc l hl=>by
  rw [jgj (f:=λn=>n) (hc.2 l hl).1 (λn hn=>zF (YE hc hl hn)) (λn _=>rfl)];exact hl
 intro k;induction k with
 | zero=>intro c hc;exact ⟨λn=>n,λn=>n,λn h=>h,λn h=>h,base hc,base hc⟩
 | succ k ih=>
  intro c hc;rw [normF];cases hn:zf c with
  | true=>
   rw [if_pos rfl];exact ⟨λn=>n,λn=>n,λn h=>h,λn h=>h,base hc,base hc⟩
  | false=>
   rw [if_neg Bool.false_ne_true];obtain ⟨f,g,hf,hg,h1,h2⟩:=ih (hc.renC (p:=88) (by decide));have hb:=Y7 (p:=88) (by decide) hc;have hi:=joH (p:=88) (ns:=ji c) (λn=>zF);refine ⟨λn=>f (jF 88 (ji c) n),λn=>jcn 88 (ji c) (g n),λn h=>hf _ (hb n h),λn h=>hi _ (hg n h),λl hl=> ?_,λl hl=> ?_⟩
   ·have:=h1 (l.1,jB (jF 88 (ji c)) l.2) (yA.2 (List.mem_map.2 ⟨l,hl,rfl⟩));rw [QB hb] at this;exact this
   ·obtain ⟨l0,h0,e⟩:=List.mem_map.1 (yA.1 (h2 l hl));have e1:l0.1=l.1:=(Prod.mk.inj e).1;have e2:jB (jF 88 (ji c)) l0.2=jB g l.2:=(Prod.mk.inj e).2;have e3:jB (jcn 88 (ji c)) (jB (jF 88 (ji c)) l0.2)=l0.2:=by
     rw [QB hb];exact jgj (f:=λn=>jcn 88 (ji c) (jF 88 (ji c) n)) (hc.2 l0 h0).1 (λn hn=>hi _ (hb _ (zF (YE hc h0 hn)))) (λn hn=>jli (kI c) (YE hc h0 hn))
    rw [<-QB (g:=jcn 88 (ji c)) hg,<-e2,e3,<-e1];exact h0
theorem jgP {rem:List (List A)} {z:Option Out} {g:List A->List (List A)->Option Out} {o:Out} (hz:rem = []->z=some o) (h:∀i x,rem[i]? = some x->g x (rem.eraseIdx i)=some o):allR rem z g=some o:=by
 cases rem with
 | nil=>exact hz rfl
 | cons x xs=>exact (JS (by simp)).2 h
def yE (m:jz):jz:=m.mergeSort λp q=>decide (p.1<=q.1)
theorem jq4 (m:jz):jjq (m.map kv)=(yE m).map kv:=by
 symm;refine List.map_mergeSort λp _ q _=> ?_;show decide (p.1<=q.1)=decide (bs _<=bs _);refine decide_eq_decide.2 ?_;simp
theorem ZA (m:jz):(yE m).Perm m:=List.mergeSort_perm m _
theorem J0 {m:jz} {p:List UInt8 × T} :p∈yE m↔p∈m:=(ZA m).mem_iff
theorem jb8 {m:jz} (h:(m.map Prod.fst).Nodup):((yE m).map Prod.fst).Nodup:=((ZA m).map Prod.fst).nodup_iff.2 h
theorem jgZ {m m':jz} (h:m.Perm m') (hn:(m.map Prod.fst).Nodup):yE m=yE m':=by
 have st:∀l:jz,(l.map Prod.fst).Nodup->(yE l).Pairwise λa b=>a.1<=b.1/\a.1≠b.1:=λl hl=>by
  have h1:(yE l).Pairwise λa b=>decide (a.1<=b.1)=true:=List.pairwise_mergeSort (λa b c h1 h2=>by simp only [decide_eq_true_eq] at *;exact List.le_trans h1 h2) (λa b=>by simp only [Bool.or_eq_true,decide_eq_true_eq];exact List.le_total a.1 b.1) l
  have h2:=jb8 hl;rw [List.nodup_iff_pairwise_ne] at h2;exact (h1.and (List.pairwise_map.1 h2)).imp λh=>⟨of_decide_eq_true h.1,h.2⟩
 exact jge (R:=λa b=>a.1<=b.1/\a.1≠b.1) (λa h=>h.2 rfl) (λa b h h'=>h.2 (List.le_antisymm h.1 h'.1)) (st m hn) (st m' ((h.map Prod.fst).nodup_iff.1 hn)) λx=>by rw [J0,J0,h.mem_iff]
theorem joj:yE [] = []:=by simp [yE]
theorem jcg {α:Type} {m:List α} {i:Nat} (hi:i < m.length):(m[i]::m.eraseIdx i).Perm m:=by
 rw [List.eraseIdx_eq_take_drop_succ];refine List.perm_middle.symm.trans ?_;rw [<-List.drop_eq_getElem_cons hi,List.take_append_drop]
theorem jcT {α β:Type} {f:α->β} {m:List α} {i:Nat} {x:β} (h:(m.map f)[i]? = some x):∃hi:i < m.length,x=f m[i]:=by
 rw [List.getElem?_map,Option.map_eq_some_iff] at h;obtain ⟨y,h1,h2⟩:=h;obtain ⟨hi,h3⟩:=List.getElem?_eq_some_iff.1 h1;exact ⟨hi,by rw [h3];exact h2.symm⟩
theorem jen {α β:Type} (f:α->β) (m:List α) (i:Nat):(m.map f).eraseIdx i=(m.eraseIdx i).map f:=by
 induction m generalizing i with
 | nil=>simp
 | cons a m ih=>cases i with
  | zero=>simp
  | succ i=>simp [ih]
theorem jml:∀(n:Nat) (m acc:jz),m.length=n->((acc++m).map Prod.fst).Nodup->YT ((yE acc).map kv) (m.map kv)=some (.top,[.sl 128 ((yE (acc++m)).map kv)]):=by
 intro n;induction n with
 | zero=>
  intro m acc hl _;obtain rfl:=List.length_eq_zero_iff.1 hl;rw [jhy,List.append_nil];rfl
 | succ n ih=>
  intro m acc hl hn;rw [jhy];refine jgP (λe=>by rw [List.map_eq_nil_iff.1 e] at hl;cases hl) λi x hx=> ?_;obtain ⟨hi,rfl⟩:=jcT hx;rw [jen];have hp:=jcg hi;have hl2:(m.eraseIdx i).length=n:=by rw [List.length_eraseIdx,if_pos hi];omega
  generalize m.eraseIdx i=m2 at hp hl2;generalize m[i]=p at hp;have hperm:(acc++m).Perm (acc++[p]++m2):=by
   rw [List.append_assoc];exact (hp.symm).append_left acc
  have hn2:((acc++[p]++m2).map Prod.fst).Nodup:=(hperm.map Prod.fst).nodup_iff.1 hn;have hna:((acc++[p]).map Prod.fst).Nodup:=by
   rw [List.map_append] at hn2;exact (List.nodup_append.1 hn2).1
  have hlook:look (yE acc) p.1=none:=jel.2 λq hq e=>by
   rw [List.map_append,List.nodup_append] at hna;exact hna.2.2 q.1 (List.mem_map.2 ⟨q,J0.1 hq,rfl⟩) p.1 (by simp) e
  have h1:=jaj hlook p.2;have h2:jjq ((yE acc++[p]).map kv)=(yE (acc++[p])).map kv:=by
   rw [jq4];refine congrArg (λl=>List.map kv l) (jgZ ((ZA acc).append_right [p]) ?_);exact (((ZA acc).append_right [p]).map Prod.fst).nodup_iff.2 hna
  have h1:jbm none ((yE acc).map kv) (sv p.1) (.agg [sv p.2.name,kr p.2.args])=some ((yE acc++[p]).map kv):=h1;have h3:=ih m2 (acc++[p]) hl2 hn2;rw [jgZ hperm hn];have k0:jjH (kv p)=true:=rfl;have k1:Kr (A.tup [jc (kv p) 0,jc (kv p) 1]) 0=some (sv p.1):=rfl;have k2:Kr (A.tup [jc (kv p) 0,jc (kv p) 1]) 1=some (tm p.2):=rfl;simp only [jf,k0,k1,k2,h1,h2,h3]
theorem jop (m:jz) (hn:(m.map Prod.fst).Nodup):ji7 (.mp (m.map kv))=some (.top,[.sl 128 ((yE m).map kv)]):=by
 have h:=jml m.length m [] rfl hn;rw [List.nil_append] at h;have e:jjq []=(yE []).map kv:=by rw [joj];simp [jjq]
 rw [jtI];show (some (m.map kv)).bind _=_;rw [Option.bind_some,e];exact h
theorem jpg (p q:List UInt8 × T):G 133 [.agg (bc p),.agg (bc q)]=some (vi (jT p.1 q.1),[]):=by
 have e:=jaI p.1 q.1;rw [jxr];simp only [jf,e]
noncomputable def jcj (l:jz):Option Out:=jvS (if zt (zj l) then some (zj l) else none)
structure GoodB (l:jz):Prop where
 nod:(l.map Prod.fst).Nodup
 keep:∀p∈l,p.2.name≠p.1
 len:l.length<=1000
 sz:∀p∈l,p.1.length<=1000000/\Tz p.2
theorem GoodB.perm {l l':jz} (h:GoodB l) (hp:l.Perm l'):GoodB l':=⟨(hp.map Prod.fst).nodup_iff.1 h.nod,λp hm=>h.keep p (hp.mem_iff.2 hm),by rw [<-hp.length_eq];exact h.len,λp hm=>h.sz p (hp.mem_iff.2 hm)⟩
theorem jka {l l':jz} (h:GoodB l) (hp:l.Perm l'):zj l=zj l':=by
 have h':=h.perm hp;have f:=(yB l [] h.keep).2;have f':=(yB l' [] h'.keep).2;refine jge (R:=LtB) (λa h=>by unfold LtB at h;rw [ZJ] at h;cases h) (λa b h h'=>by have:=jar h h';rw [ZJ] at this;cases this) (zV l [] List.Pairwise.nil h.nod λp _ q h=>by cases h) (zV l' [] List.Pairwise.nil h'.nod λp _ q h=>by cases h) λx=> ?_;have e1:=f x;have e2:=f' x;simp only [List.not_mem_nil,false_or] at e1 e2;exact e1.trans ((hp.mem_iff).trans e2.symm)
theorem jed {l l':jz} (h:GoodB l) (hp:l.Perm l'):jcj l=jcj l':=by unfold jcj;rw [jka h hp]
theorem jm5 {l:jz} (h:GoodB l):SzB (zj l):=by
 obtain ⟨f1,f2⟩:=yB l [] h.keep;have:=h.len;refine ⟨by unfold zj;rw [f1];simp;omega,λq hq=> ?_⟩;have:=(f2 q).1 hq;simp only [List.not_mem_nil,false_or] at this;exact h.sz q this
theorem jnx (l:jz) (h:GoodB l):((je3 (l.map bc)).bind λt1=>(hR 3 t1 0).bind λt2=>((G 135 [A.agg [A.sl 3 t2]]).bind (fin true)).bind λt3=>(KR .not t3).bind λt4=>(zx t4).bind λt5=>brn t5 (some ((A.tup [A.agg [A.sl 3 []],vb false],[]))) (some ((A.tup [A.agg [A.sl 3 t2],vb true],[]))))=jcj l:=by
 obtain ⟨so,p1,p2,p3⟩:=jhd zv Prod.fst bc 3 133 rfl l (by have:=h.len;omega) λx _ y _=>jpg x y
 have hso:=jgo h.nod h.keep p1 p2;subst hso;have e1:=jnK (zj l) (jm5 h);have hC:je3 (l.map bc)=some (.top,[.sl 3 ((zj l).map bc)]):=by rw [jtL];exact p3
 have r1:hR 3 (A.top,[.sl 3 ((zj l).map bc)]) 0=some ((zj l).map bc):=rfl;unfold jcj;cases hv:zt (zj l)<;>rw [hv] at e1
 ·rw [if_neg Bool.false_ne_true];have e1:(G 135 [sb (zj l)]).bind (fin true)=some (vb false):=by rw [e1];rfl
  simp only [jf,hC,r1,e1];rfl
 ·rw [if_pos rfl];have e1:(G 135 [sb (zj l)]).bind (fin true)=some (vb true):=by rw [e1];rfl
  simp only [jf,hC,r1,e1];rfl
theorem jjK {a b:jz} (h:a.Perm b):(kX a).Perm (kX b):=h.filter _
theorem jks:∀(n:Nat) (m acc:jz),m.length=n->GoodB (acc++kX m)->(∀p∈m,Tz p.2)->jd2 [] (acc.map bc) (m.map kv)=jcj (acc++kX m):=by
 intro n;induction n with
 | zero=>
  intro m acc hl hg _;obtain rfl:=List.length_eq_zero_iff.1 hl;have hk:kX [] = []:=rfl;rw [hk,List.append_nil] at hg ⊢;rw [js2];exact jnx acc hg
 | succ n ih=>
  intro m acc hl hg hz;have hfin:∃o,jcj (acc++kX m)=some o:=by
   unfold jcj jvS;split<;>exact ⟨_,rfl⟩
  obtain ⟨o,ho⟩:=hfin;rw [ho,js2];refine jgP (λe=>by rw [List.map_eq_nil_iff.1 e] at hl;cases hl) λi x hx=> ?_;obtain ⟨hi,rfl⟩:=jcT hx;rw [jen,<-ho];have hp:=jcg hi;have hl2:(m.eraseIdx i).length=n:=by rw [List.length_eraseIdx,if_pos hi];omega
  generalize m.eraseIdx i=m2 at hp hl2;generalize m[i]=p at hp;have hkp:(kX m).Perm (kX (p::m2)):=jjK hp.symm;have hz2:∀q∈m2,Tz q.2:=λq hq=>hz q (hp.mem_iff.1 (by simp [hq]));have hzp:Tz p.2:=hz p (hp.mem_iff.1 (by simp));have k0:jjH (kv p)=true:=rfl;have k1:Kr (A.tup [jc (kv p) 0,jc (kv p) 1]) 0=some (sv p.1):=rfl;have k2:Kr (A.tup [jc (kv p) 0,jc (kv p) 1]) 1=some (tm p.2):=rfl;by_cases he:p.2.name=p.1
  ·have hk2:kX (p::m2)=kX m2:=by
    unfold kX;rw [List.filter_cons,if_neg (by simp [he])]
   rw [hk2] at hkp;have hpm:=hkp.append_left acc;have h3:=ih m2 acc hl2 (hg.perm hpm) hz2;rw [jed hg hpm];simp only [jf,k0,k1,k2,he,h3]
  ·have hk2:kX (p::m2)=p::kX m2:=by
    unfold kX;rw [List.filter_cons,if_pos (by simp [he])]
   rw [hk2] at hkp;have hpm:(acc++kX m).Perm (acc++[p]++kX m2):=by
    rw [List.append_assoc];exact hkp.append_left acc
   have hg2:=hg.perm hpm;have h3:=ih m2 (acc++[p]) hl2 hg2 hz2;have hlen:=hg2.len;rw [List.length_append,List.length_append,List.length_singleton] at hlen;rw [jed hg hpm];have e3:=jaJ p.2 hzp;have e3:G 131 [.agg [sv p.2.name,kr p.2.args]]=some (tm p.2,[]):=e3;have hf:jO (acc.length+1) 56=true:=jvX (by omega);have ha:kM (acc.map bc) [[sv p.1,sv p.2.name,kr p.2.args]]=(acc++[p]).map bc:=by rw [List.map_append];rfl
   have h3:jd2 [] (kM (acc.map bc) [[sv p.1,sv p.2.name,kr p.2.args]]) (m2.map kv)=jcj (acc++[p]++kX m2):=by rw [ha];exact h3
   simp only [jf,k0,k1,k2,he,e3];generalize hB:kT _ _ _=B;have hB':B=some (.agg [sv p.1,sv p.2.name,kr p.2.args]):=by rw [<-hB];kernel_rfl
   rw [hB'];simp only [jf,hf,h3]
theorem jqi (m:jz) (hg:GoodB (kX m)) (hz:∀p∈m,Tz p.2):G 82 [.mp (m.map kv)]=jcj (kX m):=by
 have h:=jks m.length m [] rfl (by rw [List.nil_append];exact hg) hz
 rw [List.nil_append] at h;rw [g82];exact h
noncomputable def jat (d:jK):List Lt->jz->Option jz
 | [],m=>some m
 | l::c,m=>d.findSome? λx=>if x.1=l.1 then (mt (yE m) l.2 x.2).bind λm'=>jat d c m' else none
def MIn (S:List (List UInt8)) (m:jz):Prop:=∀q∈m,q.1∈S
theorem jpm {S:List (List UInt8)} :∀(a:T) {m m':jz} {t:T},(∀x∈kP a,x∈S)->MIn S m->mt m a t=some m'->MIn S m':=by
 refine T.ind (p:=λa=>∀ {m m':jz} {t:T},(∀x∈kP a,x∈S)->MIn S m->mt m a t=some m'->MIn S m') λa ih=> ?_;intro m m' t hs hm h;rw [kS] at hs;cases hv:jh a.name with
 | true=>
  rw [hv,if_pos rfl] at hs;rw [Yq hv] at h;split at h
  ·split at h
   ·cases h;exact hm
   ·cases h
  ·cases h;intro q hq;rcases List.mem_append.1 hq with hq|hq
   ·exact hm q hq
   ·rw [List.mem_singleton.1 hq];exact hs _ (by simp)
 | false=>
  rw [hv,if_neg Bool.false_ne_true] at hs;rw [Zb hv] at h;split at h
  ·have key:∀(us:List T) (ts:List T) {m m':jz},(∀u∈us,u∈a.args)->(∀x∈j8 us,x∈S)->MIn S m->Jp m us ts=some m'->MIn S m':=by
    intro us;induction us with
    | nil=>intro ts m m' _ _ hm h;simp only [Jp,Option.some.injEq] at h;exact h ▸ hm
    | cons u us ih2=>
     intro ts m m' hu hx hm h;rw [j8] at hx;cases ts with
     | nil=>simp only [Jp,Option.some.injEq] at h;exact h ▸ hm
     | cons s ts=>
      simp only [Jp] at h;obtain ⟨m1,h1,h2⟩:=Option.bind_eq_some_iff.1 h;exact ih2 ts (λx hx=>hu x (by simp [hx])) (λx h=>hx x (List.mem_append_right _ h)) (ih u (hu u (by simp)) (λx h=>hx x (List.mem_append_left _ h)) hm h1) h2
   exact key a.args t.args (λ_ h=>h) hs hm h
  ·cases h
theorem Yp {p:T->Prop} (hp:∀t,p t-> ∀u∈t.args,p u):∀(us ts:List T) {m m':jz},(∀u∈ts,p u)->MOk p m->Jp m us ts=some m'->MOk p m':=by
 intro us;induction us with
 | nil=>intro ts m m' _ hm h;simp only [Jp,Option.some.injEq] at h;exact h ▸ hm
 | cons u us ih=>
  intro ts m m' hts hm h;cases ts with
  | nil=>simp only [Jp,Option.some.injEq] at h;exact h ▸ hm
  | cons s ts=>
   simp only [Jp] at h;obtain ⟨m1,h1,h2⟩:=Option.bind_eq_some_iff.1 h;exact ih ts (λx hx=>hts x (by simp [hx])) (jhU hp u hm (hts s (by simp)) h1) h2
theorem jlb {t u:T} (h:u∈t.args):qw u<=qw t:=by have h1:=jcb t;have h2:=jor h;omega
def Pt (t:T):Prop:=zO t=true/\nodes t<=30/\qw t<=8
theorem Pt.valid {t:T} (h:Pt t):kQ t=true:=by
 unfold kQ kG;rw [h.1,decide_eq_true h.2.1,decide_eq_true h.2.2];rfl
theorem Pt.args {t:T} (h:Pt t):∀u∈t.args,Pt u:=λu hu=>⟨zH h.1 u hu,by have:=jad hu;have:=h.2.1;omega,by have:=jlb hu;have:=h.2.2;omega⟩
theorem Pt.tz {t:T} (h:Pt t):Tz t:=by
 have h1:=jag t h.1;have:=h.2.1;unfold Tz;omega
def Pa (t:T):Prop:=Bx t/\nodes t<=30/\qw t<=8
theorem Pa.args {t:T} (h:Pa t):∀u∈t.args,Pt u:=λu hu=>⟨h.1.args u hu,by have:=jad hu;have:=h.2.1;omega,by have:=jlb hu;have:=h.2.2;omega⟩
theorem Pa.nv {t:T} (h:Pa t):jh t.name=false:=by
 rcases h.1 with h|h
 ·rw [h.1];decide
 ·exact YA h.1
theorem Pa.tz {t:T} (h:Pa t):Tz t:=by
 have h1:=h.1.tsz;have:=h.2.1;unfold Tz;omega
theorem jlB {a t:T} (ha:Pa a) (ht:Pa t) {m m':jz} (hm:MOk Pt m) (h:mt m a t=some m'):MOk Pt m':=by
 rw [Zb ha.nv] at h;split at h
 ·exact Yp (λ_ h=>h.args) _ _ ht.args hm h
 ·cases h
theorem MOk.can {p:T->Prop} {m:jz} (h:MOk p m):MOk p (yE m):=⟨jb8 h.1,λq hq=>h.2 q (J0.1 hq)⟩
theorem MIn.can {S:List (List UInt8)} {m:jz} (h:MIn S m):MIn S (yE m):=λq hq=>h q (J0.1 hq)
theorem jlX {S:List (List UInt8)} {d:jK} (hd:∀x∈d,Pa x.2):∀(c:List Lt),(∀l∈c,Pa l.2/\ ∀x∈kP l.2,x∈S)-> ∀ {m m':jz},MOk Pt m->MIn S m->jat d c m=some m'->MOk Pt m'/\MIn S m'
 | [],_,m,m',hm,hs,h=>by rw [jat] at h;cases h;exact ⟨hm,hs⟩
 | l::c,hc,m,m',hm,hs,h=>by
  rw [jat] at h;obtain ⟨x,hx,h⟩:=List.exists_of_findSome?_eq_some h;split at h
  ·obtain ⟨m1,h1,h2⟩:=Option.bind_eq_some_iff.1 h;obtain ⟨k1,k2⟩:=hc l List.mem_cons_self;exact jlX hd c (λy hy=>hc y (List.mem_cons_of_mem _ hy)) (jlB k1 (hd x hx) hm.can h1) (jpm l.2 k2 hs.can h1) h2
  ·cases h
def AgM (f:List UInt8->List UInt8) (m:jz):Prop:=∀q∈m,q.2 = .mk (f q.1) []
theorem AgM.can {f:List UInt8->List UInt8} {m:jz} (h:AgM f m):AgM f (yE m):=λq hq=>h q (J0.1 hq)
mutual
theorem jlD {f:List UInt8->List UInt8} :∀(a:T) {m:jz},AgM f m-> ∃m',mt m a (jB f a)=some m'/\AgM f m'
 | .mk n us,m,hm=>by
  rw [jB];cases hv:jh n with
  | true=>
   rw [if_pos rfl,Yq (p:= .mk n us) hv];show ∃m',(match look m n with|some r=>if dq r (.mk (f n) []) then some m else none|none=>some (m++[(n,.mk (f n) [])]))=some m'/\AgM f m';cases hl:look m n with
   | some r=>
    have e:r = .mk (f n) []:=hm (n,r) (Km hl);refine ⟨m,?_,hm⟩;show (if dq r (.mk (f n) [])=true then some m else none)=some m;rw [e,ZC,if_pos rfl]
   | none=>
    refine ⟨m++[(n,.mk (f n) [])],rfl,λq hq=> ?_⟩;rcases List.mem_append.1 hq with hq|hq
    ·exact hm q hq
    ·rw [List.mem_singleton.1 hq]
  | false=>
   have hl:us.length=(zd f us).length:=by rw [Jm,List.length_map]
   rw [if_neg Bool.false_ne_true,Zb (p:= .mk n us) hv];show ∃m',(if n=n/\us.length=(zd f us).length then Jp m us (zd f us) else none)=some m'/\AgM f m';rw [if_pos ⟨rfl,hl⟩];exact jhV us hm
theorem jhV {f:List UInt8->List UInt8} :∀(us:List T) {m:jz},AgM f m-> ∃m',Jp m us (zd f us)=some m'/\AgM f m'
 | [],m,hm=>⟨m,by rw [Jp],hm⟩
 | u::us,m,hm=>by
  obtain ⟨m1,e1,h1⟩:=jlD u hm;obtain ⟨m2,e2,h2⟩:=jhV us h1;refine ⟨m2,?_,h2⟩;rw [zd,Jp];show (mt m u (jB f u)).bind _=_;rw [e1];exact e2
end
theorem jiH {f:List UInt8->List UInt8} {d:jK} :∀(c:List Lt),(∀l∈c,(l.1,jB f l.2)∈d)-> ∀m,AgM f m-> ∃m',jat d c m=some m'
 | [],_,m,_=>⟨m,rfl⟩
 | l::c,h,m,hm=>by
  obtain ⟨m1,e1,h1⟩:=jlD (f:=f) l.2 hm.can;obtain ⟨m2,e2⟩:=jiH c (λx hx=>h x (List.mem_cons_of_mem _ hx)) m1 h1;rw [jat];refine Option.isSome_iff_exists.1 (List.findSome?_isSome_iff.2 ⟨(l.1,jB f l.2),h l List.mem_cons_self,?_⟩);show (if l.1=l.1 then (mt (yE m) l.2 (jB f l.2)).bind λm'=>jat d c m' else none).isSome=true;rw [if_pos rfl,e1];show (jat d c m1).isSome=true;rw [e2];rfl
theorem jmz (a:T) (h:Bx a):G 141 [.agg [sv a.name,kr a.args]]=some (vb (jh a.name),[]):=by
 rcases h.ax with h|h
 ·exact jcx a h
 ·have e1:=Kk 61;have hx:j6 (sv a.name) (vi 0)=some (vy 61):=by rw [h.1];exact kZ
  have hv:jh a.name=false:=by rw [h.1];decide
  have e1:G 180 [vy 61]=some (vb false,[]):=e1;rw [hv,jt5];simp only [jf,hx,e1]
theorem jmM (a:T) (ha:Pa a) (t:T) (m:jz) (ht:Tz t) (hm:∀q∈m,Tz q.2):MI (jbR (tm a) (sv t.name) (kr t.args) (m.map kv)) (mt m a t):=
 jmw a ha.tz (jmz a ha.1) (λhv=>by rw [ha.nv] at hv;cases hv) t m ht hm λu hu s m hs hm=>jpj u (ha.args u hu).tz (ha.args u hu).1 s m hs hm
def jwf (r:Option jz):Option Out:=match r with
 | some m=>some (.tup [.mp (m.map kv),vb true],[])
 | none=>some (.tup [.val (.map none),vb false],[])
theorem jdA (d:jK) (hl:d.length<=8) (hd:∀x∈d,Pa x.2):∀(c:List Lt),c.length<=8->(∀l∈c,Pa l.2)-> ∀(m:jz),MOk Pt m->G 81 [.mp (m.map kv),.sl 3 (c.map jC),cm d]=jwf (jat d c m)
 | [],_,_,m,hm=>by
  rw [g81,jat];simp only [jf];rfl
 | l::c,hc,hcl,m,hm=>by
  have ih:=jdA d hl hd c (by rw [List.length_cons] at hc;omega) (λy hy=>hcl y (List.mem_cons_of_mem _ hy))
  have hPl:=hcl l List.mem_cons_self;have key:=upto (n:=d.length) (P:=λi=>jgI (.mp (m.map kv)) (.sl 3 ((l::c).map jC)) (.sl 3 (d.map jC)) (vi (d.length:Nat)) (vi (i:Nat)) (.sl 3 (d.map jC))=jwf ((d.drop i).findSome? λx=>if x.1=l.1 then (mt (yE m) l.2 x.2).bind λm'=>jat d c m' else none)) ?_ ?_ 0 (Nat.zero_le _)
  ·rw [g81,jat];have nz:¬((((l::c).length:Nat):Int)=0):=by rw [List.length_cons];omega
   simp only [Int.natCast_zero,List.drop_zero] at key;generalize hX:(l::c).map jC=X at key ⊢;have hXl:X.length=(l::c).length:=by rw [<-hX,List.length_map]
   rw [<-hXl] at nz;simp only [jf,nz,key]
  ·have nlt:¬((d.length:Nat):Int) < ((d.length:Nat):Int):=by omega
   rw [js1,List.drop_length];simp only [jf,nlt];rfl
  ·intro i hi ih2;have hlt:(i:Int) < ((d.length:Nat):Int):=by omega
   have h5:=jv hi (by show d.length<=9223372036854775807;omega)
   have x1:ju 3 (.sl 3 (d.map jC)) (vi (i:Nat))=some (.elt (jC d[i]) 0):=jb hi;have hPx:=hd _ (List.getElem_mem hi);rw [jl hi,List.findSome?_cons];generalize d[i]=x at x1 hPx ⊢;have x2:jP 3 (.elt (jC x) 0)=some (.agg (jC x)):=rfl;have x3:ju 3 (.sl 3 ((l::c).map jC)) (vi 0)=some (.elt (jC l) 0):=by
    have:=jb (f:=jC) (xs:=l::c) (i:=0) (k:=3) (by rw [List.length_cons];omega)
    exact this
   have x4:JL 3 (.sl 3 ((l::c).map jC)) (some (vi 1)) none=some (.sl 3 (c.map jC)):=by
    have:=jia (k:=3) (xs:=(l::c).map jC) (i:=1) (by simp);exact this
   have y1:zn (.elt (jC l) 0)=some (vb l.1):=rfl;have y2:qL (.elt (jC l) 0) 1=some (.elt (jC l) 1):=rfl;have y3:jP 2 (.elt (jC l) 1)=some (tm l.2):=rfl;have y0:qL (.elt (jC l) 0) 0=some (.elt (jC l) 0):=rfl;have cp:=jop m hm.1;have hR0:hR 128 (A.top,[.sl 128 ((yE m).map kv)]) 0=some ((yE m).map kv):=rfl;have hm2:=hm.can;have mq:=jmM l.2 hPl x.2 (yE m) hPx.tz λq hq=>(hm2.2 q hq).2.tz;rw [js1];generalize (l::c).map jC=X at *;by_cases hb:x.1=l.1
   ·rw [if_pos hb];cases hq:mt (yE m) l.2 x.2 with
    | none=>
     rw [hq] at mq;obtain ⟨R,mq⟩:=mq;have hR1:hR 128 (A.top,[vb false,.sl 128 R]) 1=some R:=rfl;rw [Option.bind_none];simp only [jf,hlt,x1,x2,x3,x4,y0,y1,y2,y3,cp,hR0,hb,mq,hR1,h5,List.getElem?_cons_zero];exact ih2
    | some m1=>
     rw [hq] at mq;have mq:jbR (tm l.2) (sv x.2.name) (kr x.2.args) ((yE m).map kv)=some (.top,[vb true,.sl 128 (m1.map kv)]):=mq;have hR1:hR 128 (A.top,[vb true,.sl 128 (m1.map kv)]) 1=some (m1.map kv):=rfl;have e2:=ih m1 (jlB hPl hPx hm2 hq);rw [Option.bind_some];cases hs:jat d c m1 with
     | none=>
      rw [hs] at e2;have e2:G 81 [.mp (m1.map kv),.sl 3 (c.map jC),.agg [.sl 3 (d.map jC)]]=some (.tup [.val (.map none),vb false],[]):=e2;simp only [jf,hlt,x1,x2,x3,x4,y0,y1,y2,y3,cp,hR0,hb,mq,hR1,h5,e2,List.getElem?_cons_zero];exact ih2
     | some m2=>
      rw [hs] at e2;have e2:G 81 [.mp (m1.map kv),.sl 3 (c.map jC),.agg [.sl 3 (d.map jC)]]=some (.tup [.mp (m2.map kv),vb true],[]):=e2;simp only [jf,hlt,x1,x2,x3,x4,y0,y1,y2,y3,cp,hR0,hb,mq,hR1,h5,e2,List.getElem?_cons_zero];rfl
   ·rw [if_neg hb];simp only [jf,hlt,x1,x2,x3,x4,y0,y1,y2,y3,cp,hR0,hb,h5,List.getElem?_cons_zero];exact ih2
inductive Hgt (s:jz):Nat->Eqs->Prop
 | nil (r:Nat):Hgt s r []
 | blk (r τ δ:Nat) (b es:Eqs):9 * τ+(8 - δ) < r->τ<=s.length+1->δ<=8->b.length<=4->(τ=s.length+1-> ∀p∈b,sub s p.1=p.1/\sub s p.2=p.2/\qw p.1<=δ/\qw p.2<=δ)->Hgt s (9 * τ+(8 - δ)) es->Hgt s r (b++es)
theorem Hgt.len {s:jz} {r:Nat} {es:Eqs} (h:Hgt s r es):es.length<=4 * r:=by
 induction h with
 | nil r=>exact Nat.zero_le _
 | blk r τ δ b es h1 _ _ h4 _ _ ih=>rw [List.length_append];omega
theorem Hgt.mono {s:jz} {r r':Nat} {es:Eqs} (h:Hgt s r es) (hr:r<=r'):Hgt s r' es:=by
 induction h with
 | nil=>exact Hgt.nil _
 | blk r τ δ b es h1 h2 h3 h4 h5 h6 _=>exact Hgt.blk r' τ δ b es (by omega) h2 h3 h4 h5 h6
theorem Hgt.grow {s s':jz} (hs:s.length < s'.length) {r:Nat} {es:Eqs} (h:Hgt s r es):Hgt s' r es:=by
 induction h with
 | nil r=>exact Hgt.nil _
 | blk r τ δ b es h1 h2 h3 h4 h5 _ ih=>exact Hgt.blk r τ δ b es h1 (by omega) h3 h4 (λh=>by omega) ih
abbrev ec (p:T × T):List A:=[sv p.1.name,kr p.1.args,sv p.2.name,kr p.2.args]
def US (s:jz) (es:Eqs) (o:Option Out):Prop:=
 (∀(W:Eqs) (off:Nat),W.drop off=es->off<=W.length->W.length<=1000->juX (nA off) (nA (W.length - off)) (sbs s) (W.map ec) []=o)/\juZ (sbs s) (es.map ec) []=o/\
 (s = []->(∀(W:Eqs) (off:Nat),W.drop off=es->off<=W.length->W.length<=1000->juW (nA off) (nA (W.length - off)) (W.map ec) [] []=o)/\juY (es.map ec) [] []=o)
def USS (s:jz) (es:Eqs) (o:Option Out):Prop:=
 (∀(W:Eqs) (off:Nat),W.drop off=es->off<=W.length->W.length<=1000->ju1 (nA off) (nA (W.length - off)) (sbs s) (W.map ec) [] []=o)/\ju3 (sbs s) (es.map ec) [] []=o/\
 (s = []->(∀(W:Eqs) (off:Nat),W.drop off=es->off<=W.length->W.length<=1000->ju0 (nA off) (nA (W.length - off)) (W.map ec) [] [] []=o)/\ju2 (es.map ec) [] [] []=o)
open Go Go.RowKit Go.ChangeShapes Go.Deep Go.Proofs.YtdbgbieenhcldaaGreatDoor.Abs
section
variable {P:Program} {t:Nat} {H:Type} {enc:TypeId × Value->H} {w:World} {base:Nat} {spare:Nat->Bool} {held:Bool} {fuel:Nat} {cs:List Value} {x:DataW H × List MemPlace}
end
abbrev clc (c:jK):List A:=[.sl 3 (c.map jC)]
structure Stp where
 rule:Int
 par:List Int
 whr:List Int
 cls:jK
abbrev stc (s:Stp):List A:=[vi s.rule,ints s.par,ints s.whr,.sl 3 (s.cls.map jC)]
abbrev stm (s:Stp):A:= .agg [vi s.rule,ints s.par,ints s.whr,.sl 3 (s.cls.map jC)]
structure Prf where
 ax:List jK
 st:List Stp
abbrev cls (l:List jK):A:= .sl 1 (l.map clc)
abbrev jsb (l:List Stp):A:= .sl 4 (l.map stc)
abbrev prc (p:Prf):List A:=[cls p.ax,jsb p.st]
abbrev prm (p:Prf):A:= .agg [cls p.ax,jsb p.st]
structure Sch where
 prf:Prf
 act:List Int
 pas:List Int
 lost:Bool
abbrev scc (s:Sch):List A:=[cls s.prf.ax,jsb s.prf.st,ints s.act,ints s.pas,vb s.lost]
abbrev scm (s:Sch):A:= .agg [cls s.prf.ax,jsb s.prf.st,ints s.act,ints s.pas,vb s.lost]
def iwf (l:List Int):Prop:=(∀x∈l,I64 x)/\l.length<=9223372036854775807
def cwf (c:jK):Prop:=(∀l∈c,twf l.2)/\c.length<=9223372036854775807
def swf (s:Stp):Prop:=I64 s.rule/\iwf s.par/\iwf s.whr/\cwf s.cls
def pwf (p:Prf):Prop:=((∀c∈p.ax,cwf c)/\p.ax.length<=9223372036854775807)/\((∀s∈p.st,swf s)/\p.st.length<=9223372036854775807)
def jyQ (s:Sch):Prop:=pwf s.prf/\iwf s.act/\iwf s.pas
def lsz:jK->Nat
 | []=>0
 | l::c=>tsz l.2+lsz c
def csz (c:jK):Nat:=c.length+lsz c
def jvu:List jK->Nat
 | []=>0
 | c::l=>csz c+jvu l
def ssz (s:Stp):Nat:=s.par.length+s.whr.length+csz s.cls
def jwe:List Stp->Nat
 | []=>0
 | s::l=>ssz s+jwe l
def psz (p:Prf):Nat:=(p.ax.length+jvu p.ax)+(p.st.length+jwe p.st)
def jyP (s:Sch):Nat:=psz s.prf+s.act.length+s.pas.length
theorem jmc (d:jK) (h:kV d=true):G 36 [cm d]=some (cm (zz d),[]):=by
 obtain ⟨hc,_,_,hnm⟩:=ky h;have hl:=zE hc;have e1:=jeo d hc;have e2:=Z8 89 d hc (ji d) (λn=>zF) (hc.ren_tz (by decide));have e2:G 73 [cm d,.mp ((yR 89 0 (ji d)).map kn)]=some (cm (zz d),[]):=by rw [e2,<-apart_eq h];rfl
 have hnd:=kI d;have hnum:∀i (hi:i < (ji d).length),(ji d)[i]=kw 88 i:=λi hi=>by
  obtain ⟨j,hj,e,e'⟩:=Yt hnm (List.getElem_mem hi);rw [yT hnd hi] at e';rw [e,jh0 e']
 generalize ji d=ns at *;have key:=upto (P:=λi=>∀m:Nm',(∀n∈ns.drop i,kO m n=none)->m++yR 89 i (ns.drop i)=yR 89 0 ns->jkO (strs ns) (vi (ns.length:Nat)) (vi (i:Nat)) (.sl 3 (d.map jC)) (m.map kn) []=some (cm (zz d),[])) (n:=ns.length) ?_ ?_ 0 (Nat.zero_le _) [] (λn _=>rfl) (by rw [List.drop_zero];rfl)
 ·simp only [Int.natCast_zero,List.map_nil] at key;rw [g36];simp only [jf,e1,key]
 ·intro m _ hm;rw [List.drop_length,yR,List.append_nil] at hm;subst hm;rw [jsL];simp only [jf,e2]
 ·intro i hi ih m hm hp;have hlt:(i:Int) < ((ns.length:Nat):Int):=by omega
  have h5:=jv hi (by show ns.length<=9223372036854775807;omega)
  have ld:zn (.elt (cs ns[i]) 0)=some (sv ns[i]):=rfl;have hd:(ns.drop i).Nodup:=hnd.sublist (List.drop_sublist i ns);rw [jl hi] at hm hd hp;have pt:=jtb (hm ns[i] (List.mem_cons_self ..)) (kw 89 i);have e3:qN (sv ns[i]) (some (vi 1)) none=some (sv (Lib.decDigits i)):=by
   rw [hnum i hi];have hlen:(kw 88 i).length=(Lib.decDigits i).length+1:=rfl;show (if (0:Int)<=1/\(1:Int)<=(((kw 88 i).length:Nat):Int)/\(((kw 88 i).length:Nat):Int)<=(((kw 88 i).length:Nat):Int) then some (sv (((kw 88 i).take ((((kw 88 i).length:Nat):Int).toNat)).drop 1)) else none)=_;rw [if_pos ⟨by omega,by omega,by omega⟩,Int.toNat_natCast,List.take_length];rfl
  have e4:=juh 89 i (by omega);have ih:=ih (m++[(ns[i],kw 89 i)]) (λn hn'=>by
   rw [jaa,hm n (List.mem_cons_of_mem _ hn')];show (if ns[i]=n then _ else none)=none;rw [if_neg];rintro e;exact (List.nodup_cons.1 hd).1 (e ▸ hn')) (by rw [List.append_assoc];exact hp)
  rw [jsL];simp only [jf,hlt,jb hi,ld,e3,e4,pt,h5,ih]
def LN (l:jK):Prop:=l.length<=40/\ ∀x∈l,Bx x.2/\nodes x.2<=100
theorem LN.app {s:jz} (hs:zt s=true) {l:jK} (h:LN l):∀x∈l.map (λx=>(x.1,Go.Proofs.YtdbgbieenhcldaaGreatDoor.sub s x.2)),Bx x.2/\Tz x.2:=λx hx=>by
 obtain ⟨y,hy,rfl⟩:=List.mem_map.1 hx;have hb:=(h.2 y hy).1;exact ⟨hb.sub hs,AxT.sub_tz hs hb.ax (by have:=(h.2 y hy).2;omega)⟩
def jyU (f g:FuncId) (args:List A):Prop:=∃r:Option jK,G f args=jf8 r/\G g args=jf8 r/\ ∀x,r=some x->kV x=true
def jzB (c:jK) (i:Int):Bool:=KP 0 (((c.length:Nat):Int) - 1) i
theorem LN.erase {c:jK} (h:CN c) (i:Nat):LN (c.eraseIdx i):=⟨by have:=List.length_eraseIdx_le c i;have:=h.1;omega,λx hx=>by
 have:=h.2 x (List.mem_of_mem_eraseIdx hx);exact ⟨this.1,by omega⟩⟩
noncomputable def rwL (rs:List T):jK->Option jK
 | []=>some []
 | x::r=>(match rwN rs false 51 0 x.2 with
  | none=>none
  | some q=>(rwL rs r).map ((x.1,q.1)::·))
noncomputable def jy4 (rs:List T) (R:jK) (l:jK):Option jK:=(rwL rs l).bind λr=>jyf [] (R++r)
def jyq (ps:List jK) (f g:FuncId) (args:List A):Prop:=∃r:Option jK,G f args=jf8 r/\G g args=jf8 r/\ ∀x,r=some x->kV x=true/\Sd ps x
def Cz (c:jK):Prop:=c.length<=1048576/\ ∀l∈c,Tz l.2
noncomputable def wfP (p:Prf):Bool:=decide (p.ax.length<=30) && p.ax.all kV && decide (p.st.length<=60)
noncomputable def jx2 (out:List jK) (r:jK):Bool:=out.any λx=>dq x r
noncomputable def jwT (out:List jK) (r:jK):List jK:=if jx2 out r then out else out++[r]
noncomputable def jwl:List jK->List jK->List jK
 | out,[]=>out
 | out,r::l=>jwl (jwT out r) l
def jv5 (R:Nat->Option jK):Nat->Nat->List jK
 | 0,_=>[]
 | j+1,k=>(R k).toList++jv5 R j (k+1)
def jv7 (R:Nat->Nat->Option jK) (m:Nat):Nat->Nat->List jK
 | 0,_=>[]
 | j+1,i=>jv5 (R i) m 0++jv7 R m j (i+1)
theorem CN.cz {c:jK} (h:CN c):Cz c:=⟨by have:=h.1;omega,h.tz⟩
section
variable {c d:jK} {R:Nat->Nat->Option jK} (hR:∀i k:Nat,G 41 [cm c,vi (i:Nat),cm d,vi (k:Nat)]=jf8 (R i k)/\G 69 [cm c,vi (i:Nat),cm d,vi (k:Nat)]=jf8 (R i k)/\ ∀x,R i k=some x->Cz x)
include hR
end
section
variable {c:jK} {R:Nat->Nat->Option jK} (hR:∀i k:Nat,i<=100->G 46 [cm c,vi (i:Nat),vi (k:Nat)]=jf8 (R i k)/\G 47 [cm c,vi (i:Nat),vi (k:Nat)]=jf8 (R i k)/\ ∀x,R i k=some x->Cz x)
include hR
end
abbrev cy (n:Int):List A:=[vy n]
abbrev ke (l:List Int):A:= .sl 1 (l.map cy)
abbrev vu (n:Int):A:= .val (.int .u64 n)
def By (l:List Int):Prop:=(∀n∈l,0<=n/\n<=255)/\l.length<=65536
theorem yf (a x0 x1 x2 x3:A) (us:List T) (l:List A):hR 2 (a,x0::x1::x2::x3::kr us::l) 4=some (us.map jy):=by simp [hR,kr]
set_option maxRecDepth 100000 in
theorem jqy:∀n:Fin 256,IntKind.u64.wrap ((n.val:Nat):Int)=((n.val:Nat):Int):=by decide
theorem jpQ (x y:Int):js .mul false (vu x) (vu y)=some (vu (IntKind.u64.wrap (x * y))):=rfl
theorem jpP (x y:Int):js .add false (vu x) (vu y)=some (vu (IntKind.u64.wrap (x+y))):=rfl
theorem jux (x:Int):js .shr false (vu x) (vu 40)=some (vu (JV .shr .u64 x 40)):=by
 show (if (0:Int)<=40 then some (vu (JV .shr .u64 x 40)) else none)=_;rw [if_pos (by decide)]
theorem juw (x:Int):js .and false (vu x) (vu 255)=some (vu (JV .and .u64 x 255)):=rfl
theorem jmb (x:Int):0<=JV .and .u64 x 255/\JV .and .u64 x 255<=255:=by
 have h:(BitVec.ofInt 64 x &&& BitVec.ofInt 64 255).toNat<=255:=by
  rw [BitVec.toNat_and];have h2:(BitVec.ofInt 64 255).toNat=255:=by decide
  rw [h2];exact Nat.and_le_right
 show 0<=IntKind.u64.wrap (((BitVec.ofInt 64 x &&& BitVec.ofInt 64 255).toNat:Nat):Int)/\IntKind.u64.wrap (((BitVec.ofInt 64 x &&& BitVec.ofInt 64 255).toNat:Nat):Int)<=255;generalize (BitVec.ofInt 64 x &&& BitVec.ofInt 64 255).toNat=m at *;have:=jqy ⟨m,by omega⟩;simp only at this;rw [this];omega
theorem jpG (k:IntKind) (a:Int):KL .u64 (.val (.int k a))=some (vu (IntKind.u64.wrap a)):=rfl
theorem jj4 (k:IntKind) (a:Int):KL .i64 (.val (.int k a))=ck a:=rfl
theorem jpr (n:Int):jX (vu n)=true:=rfl
section
variable {code:List Int} (hb:By code)
include hb
theorem jrK (a s:Int) (h0:0<=a) (h1:a<=1000000000):∃s' x,0<=x/\x<=255/\jeZ (ke code) (vi a) (vu s)=some (.top,[ke code,vi (a+1),vu s',vi x]):=by
 obtain ⟨k,rfl⟩:∃k:Nat,a=(k:Nat):=⟨a.toNat,by omega⟩;have c1:ck (((k:Nat):Int)+1)=some (vi (((k:Nat):Int)+1)):=jH (by omega) (by omega);have hcl:=hb.2;rw [jtC];by_cases hk:k < code.length
 ·have hlt:((k:Nat):Int) < ((code.length:Nat):Int):=by omega
  have hle:((k:Nat):Int)+1<=((code.length:Nat):Int):=by omega
  have hv:=hb.1 code[k] (List.getElem_mem hk);have c2:ck code[k]=some (vi code[k]):=jH (by omega) (by omega);exact ⟨_,code[k],hv.1,hv.2,by simp only [jf,hlt,jb hk,jj4,c2,c1,jpQ,jpG,jpP,jpr,hle];rfl⟩
 ·have hlt:¬((k:Nat):Int) < ((code.length:Nat):Int):=by omega
  have hle:¬((k:Nat):Int)+1<=((code.length:Nat):Int):=by omega
  generalize hz:IntKind.u64.wrap (IntKind.u64.wrap (IntKind.u64.wrap (s * 6364136223846793005)+IntKind.u64.wrap 0)+892892)=z;have hbd:=jmb (JV .shr .u64 z 40);have c2:ck (JV .and .u64 (JV .shr .u64 z 40) 255)=some (vi (JV .and .u64 (JV .shr .u64 z 40) 255)):=jH (by omega) (by omega);exact ⟨z,_,hbd.1,hbd.2,by simp only [jf,hlt,c1,jpQ,jpG,jpP,hz,jpr,hle,jux,juw,jj4,c2]⟩
omit hb in
theorem jgc {x n:Int} (h0:0<=x) (hn:1<=n):js .rem false (vi x) (vi n)=some (vi (x % n)):=by
 show (if n=0 then none else some (vi (x.tmod n)))=_;rw [if_neg (by omega),Int.tmod_eq_emod_of_nonneg h0]
theorem zW (n:Int) (hn:1<=n) (hn':n<=200) (a s:Int) (h0:0<=a) (h1:a<=1000000000):∃a' s' x,a<=a'/\a'<=a+1/\0<=x/\x < n/\JQ (vi n) (ke code) (vi a) (vu s)=some (.top,[ke code,vi a',vu s',vi x]):=by
 rw [jvo];by_cases h:n<=1
 ·exact ⟨a,s,0,by omega,by omega,by omega,by omega,by simp only [jf,h]⟩
 ·obtain ⟨s',x,x0,x1,e⟩:=jrK hb a s h0 h1;have e2:=jgc x0 hn;have hg:¬(200:Int) < n:=by omega
  refine ⟨a+1,s',x % n,by omega,by omega,Int.emod_nonneg _ (by omega),Int.emod_lt_of_pos _ (by omega),?_⟩;simp only [jf,h,e,List.getElem?_cons_zero,List.getElem?_cons_succ,hg,e2,yf]
theorem JK (n:Int) (hn:1<=n) (hn':n<=200) (a s:Int) (h0:0<=a) (h1:a<=1000000000):∃a' s' b,a<=a'/\a'<=a+1/\YI (vi n) (ke code) (vi a) (vu s)=some (.top,[ke code,vi a',vu s',vb b]):=by
 obtain ⟨a',s',x,q1,q2,_,_,e⟩:=zW hb n hn hn' a s h0 h1;refine ⟨a',s',decide (x=0),q1,q2,?_⟩;rw [jvl];simp only [jf,e,List.getElem?_cons_zero,List.getElem?_cons_succ,yf]
theorem jlF (l:List (List UInt8)) (hn:1<=l.length) (hn':l.length<=200) (a s:Int) (h0:0<=a) (h1:a<=1000000000):∃a' s' w,w∈l/\a<=a'/\a'<=a+1/\ym (ke code) (vi a) (vu s) (l.map cs)=some (.top,[ke code,vi a',vu s',sv w]):=by
 obtain ⟨a',s',x,q1,q2,x0,x1,e⟩:=zW hb ((l.length:Nat):Int) (by omega) (by omega) a s h0 h1;obtain ⟨i,rfl⟩:∃i:Nat,x=(i:Nat):=⟨x.toNat,by omega⟩;have hi:i < l.length:=by omega
 have e1:Z7 l.length (vi ((i:Nat):Int))=some i:=yb hi;have e2:KM (l.map cs) i 0=some (sv l[i]):=by unfold KM;simp [hi]
 refine ⟨a',s',l[i],List.getElem_mem hi,q1,q2,?_⟩;rw [jtF];simp only [jf,e,List.getElem?_cons_zero,List.getElem?_cons_succ,e1,e2]
end
theorem jse (t:T):kr [t] = .sl 2 [[sv t.name,.sl 2 (t.args.map jy)]]:=by
 show A.sl 2 [jy t]=_;rw [kg]
theorem jku (t u:T):kr [t,u] = .sl 2 [[sv t.name,.sl 2 (t.args.map jy)],[sv u.name,.sl 2 (u.args.map jy)]]:=by
 show A.sl 2 [jy t,jy u]=_;rw [kg,kg]
abbrev S5:List (List UInt8):=[[88],[89],[90],[88,121,122,57],[81,49]]
def JJ (n:List UInt8):Bool:= !jh n || S5.contains n
mutual
def Zc:T->Bool
 | .mk n us=>JJ n && qK us
def qK:List T->Bool
 | []=>true
 | t::ts=>Zc t && qK ts
end
theorem jj1 (t:T):Zc t=(JJ t.name && qK t.args):=by cases t;rw [Zc];rfl
theorem jcX:∀us vs:List T,qK (us++vs)=(qK us && qK vs)
 | [],vs=>by rw [List.nil_append,qK,Bool.true_and]
 | u::us,vs=>by rw [List.cons_append,qK,qK,jcX us vs,Bool.and_assoc]
theorem nm0 {n:List UInt8} (h:JJ n=true):Zc (.mk n [])=true:=by rw [Zc,h];rfl
theorem nm1 {n:List UInt8} {t:T} (h:JJ n=true) (ht:Zc t=true):Zc (.mk n [t])=true:=by rw [Zc,h,qK,ht];rfl
theorem nm2 {n:List UInt8} {t u:T} (h:JJ n=true) (ht:Zc t=true) (hu:Zc u=true):Zc (.mk n [t,u])=true:=by rw [Zc,h,qK,ht,qK,hu];rfl
theorem nmA {t:T} (h:Zc t=true):qK t.args=true:=by rw [jj1,Bool.and_eq_true] at h;exact h.2
theorem nmN {t:T} (h:Zc t=true):JJ t.name=true:=by rw [jj1,Bool.and_eq_true] at h;exact h.1
theorem jhW {n:List UInt8} {us:List T} (h:JJ n=true) (hu:qK us=true):Zc (.mk n us)=true:=by rw [Zc,h,hu];rfl
def TD (code:List Int) (z q:Nat) (a:Int) (o:Option Out):Prop:=∃a' s' t,a<=a'/\a'<=a+(q:Nat)/\(tsz t<=z/\Zc t=true)/\o=some (.top,[ke code,vi a',vu s',sv (T.name t),kr (T.args t)])
section
variable {code:List Int} (hb:By code)
include hb
theorem jbC (l:List (List UInt8)) (hn:1<=l.length) (hn':l.length<=200) (hl:∀w∈l,w.length<=1/\JJ w=true) (a s:Int) (h0:0<=a) (h1:a<=1000000000) :
  ∃a' s' w,(w.length<=1/\JJ w=true)/\a<=a'/\a'<=a+1/\ym (ke code) (vi a) (vu s) (l.map cs)=some (.top,[ke code,vi a',vu s',sv w]):=by
 obtain ⟨a',s',w,hw,q1,q2,e⟩:=jlF hb l hn hn' a s h0 h1;exact ⟨a',s',w,hl w hw,q1,q2,e⟩
theorem joK:∀(d:Nat),d<=100-> ∀(qw:Int),qw<=(d:Nat)-> -1000<=qw-> ∀(a s:Int),0<=a->a+((3 * 4 ^ d:Nat):Int)<=1000000000->TD code (3 * 4 ^ d) (3 * 4 ^ d) a (z8 (vi qw) (ke code) (vi a) (vu s)):=by
 have base:∀(d:Nat) (qw:Int),qw<=1-> ∀(a s:Int),0<=a->a+((3 * 4 ^ d:Nat):Int)<=1000000000->TD code (3 * 4 ^ d) (3 * 4 ^ d) a (z8 (vi qw) (ke code) (vi a) (vu s)):=by
  intro d qw hd a s h0 h1;have hp:1<=4 ^ d:=Nat.pos_of_ne_zero (by simp);obtain ⟨a1,s1,w,hw,q1,q2,e⟩:=jbC hb [[88],[89],[90],[97],[98],[88],[97]] (by decide) (by decide) (by decide) a s h0 (by omega);have e:ym (ke code) (vi a) (vu s) [[sv [88]],[sv [89]],[sv [90]],[sv [97]],[sv [98]],[sv [88]],[sv [97]]]=some (.top,[ke code,vi a1,vu s1,sv w]):=e;refine ⟨a1,s1,.mk w [],q1,by omega,⟨by rw [yN];simp [zB];omega,nm0 hw.2⟩,?_⟩;rw [Ja];simp only [jf,hd,e,List.getElem?_cons_zero,List.getElem?_cons_succ,yf];rfl
 intro d;induction d with
 | zero=>intro _ qw hd _ a s h0 h1;exact base 0 qw (by omega) a s h0 h1
 | succ d ih=>
  intro hdd qw hd hd' a s h0 h1;by_cases hle:qw<=1
  ·exact base (d+1) qw hle a s h0 h1
  have hp:1<=4 ^ d:=Nat.pos_of_ne_zero (by simp);rw [Nat.pow_succ] at h1 ⊢;generalize 4 ^ d=P at *;obtain ⟨a1,s1,b1,q1,q2,e1⟩:=JK hb 3 (by decide) (by decide) a s h0 (by omega);cases b1 with
  | true=>
   obtain ⟨a2,s2,w,hw,r1,r2,e⟩:=jbC hb [[88],[89],[90],[97],[98],[88],[97]] (by decide) (by decide) (by decide) a1 s1 (by omega) (by omega);have e:ym (ke code) (vi a1) (vu s1) [[sv [88]],[sv [89]],[sv [90]],[sv [97]],[sv [98]],[sv [88]],[sv [97]]]=some (.top,[ke code,vi a2,vu s2,sv w]):=e;refine ⟨a2,s2,.mk w [],by omega,by omega,⟨by rw [yN];simp [zB];omega,nm0 hw.2⟩,?_⟩;rw [Ja];simp only [jf,hle,e1,e,List.getElem?_cons_zero,List.getElem?_cons_succ,yf];rfl
  | false=>
   obtain ⟨a2,s2,b2,r1,r2,e2⟩:=JK hb 2 (by decide) (by decide) a1 s1 (by omega) (by omega);have c1:ck (qw - 1)=some (vi (qw - 1)):=jH (by omega) (by omega);obtain ⟨a3,s3,t3,u1,u2,u3,e3⟩:=ih (by omega) (qw - 1) (by omega) (by omega) a2 s2 (by omega) (by omega);cases b2 with
   | true=>
    refine ⟨a3,s3,.mk [102] [t3],by omega,by omega,⟨by rw [yN];simp [zB];omega,nm1 (by decide) u3.2⟩,?_⟩
    rw [Ja];simp only [jf,hle,e1,e2,c1,e3,List.getElem?_cons_zero,List.getElem?_cons_succ,yf];rw [<-jse];rfl
   | false=>
    obtain ⟨a4,s4,t4,v1,v2,v3,e4⟩:=ih (by omega) (qw - 1) (by omega) (by omega) a3 s3 (by omega) (by omega);refine ⟨a4,s4,.mk [103] [t3,t4],by omega,by omega,⟨by rw [yN];simp [zB];omega,nm2 (by decide) u3.2 v3.2⟩,?_⟩;rw [Ja];simp only [jf,hle,e1,e2,c1,e3,e4,List.getElem?_cons_zero,List.getElem?_cons_succ,yf];rw [<-jku];rfl
theorem QN (a s:Int) (h0:0<=a) (h1:a<=999999000):TD code 192 193 a (JD (ke code) (vi a) (vu s)):=by
 obtain ⟨a1,s1,x,q1,q2,x0,x1,e1⟩:=zW hb 3 (by decide) (by decide) a s h0 (by omega);have c1:ck (1+x)=some (vi (1+x)):=jH (by omega) (by omega);obtain ⟨a2,s2,t,r1,r2,r3,e2⟩:=joK hb 3 (by decide) (1+x) (by omega) (by omega) a1 s1 (by omega) (by omega);refine ⟨a2,s2,t,by omega,by omega,r3,?_⟩;rw [joe];simp only [jf,e1,c1,e2,List.getElem?_cons_zero,List.getElem?_cons_succ,yf]
theorem jqk (d:Nat) (hd:d<=20) (a s:Int) (h0:0<=a) (h1:a<=999990000):TD code 60 1 a (jjc (vi (d:Nat)) (ke code) (vi a) (vu s)):=by
 obtain ⟨a1,s1,w,hw,q1,q2,e⟩:=jbC hb [[88],[97]] (by decide) (by decide) (by decide) a s h0 (by omega);have e:ym (ke code) (vi a) (vu s) [[sv [88]],[sv [97]]]=some (.top,[ke code,vi a1,vu s1,sv w]):=e;have loop:∀(k:Nat) (t:T) (x1:A) (r0:List (List A)),k<=20-> ∃u,(tsz u<=tsz t+2 * k/\(Zc t=true->Zc u=true))/\JR (vi (k:Nat)) x1 (sv t.name) (ke code) (vi a1) (vu s1) r0 (t.args.map jy)=some (.top,[ke code,vi a1,vu s1,sv (T.name u),kr (T.args u)]):=by
  intro k;induction k with
  | zero=>
   intro t x1 r0 _;refine ⟨t,⟨by omega,id⟩,?_⟩;have h:¬(1:Int) < ((0:Nat):Int):=by omega
   rw [jcF];simp only [jf,h]
  | succ k ih=>
   intro t x1 r0 hk;by_cases h:(1:Int) < ((k+1:Nat):Int)
   ·obtain ⟨u,hu,eu⟩:=ih (.mk [102] [t]) x1 r0 (by omega);rw [yN] at hu;simp only [List.length_cons,List.length_nil,zB] at hu;refine ⟨u,⟨by omega,λh=>hu.2 (nm1 (by decide) h)⟩,?_⟩;have c1:ck (((k+1:Nat):Int) - 1)=some (vi (k:Nat)):=by rw [show ((k+1:Nat):Int) - 1=(k:Nat) by omega];exact jH (by omega) (by omega)
    have eu:JR (vi (k:Nat)) x1 (sv [102]) (ke code) (vi a1) (vu s1) r0 [jy t]=_:=eu;rw [kg] at eu;rw [jcF];simp only [jf,h,c1,eu]
   ·refine ⟨t,⟨by omega,id⟩,?_⟩;rw [jcF];simp only [jf,h]
 obtain ⟨u,hu,eu⟩:=loop d (.mk w []) (sv []) [] hd;rw [yN] at hu;simp only [List.length_nil,zB] at hu;refine ⟨a1,s1,u,q1,q2,⟨by omega,hu.2 (nm0 hw.2)⟩,?_⟩;have eu:JR (vi (d:Nat)) (sv []) (sv w) (ke code) (vi a1) (vu s1) [] []=_:=eu;rw [jtQ];simp only [jf,e,List.getElem?_cons_zero,List.getElem?_cons_succ,eu,yf]
end
theorem juo {n:Nat} (h:n<=4194304):jO n 16=true:=by
 unfold jO;exact decide_eq_true ⟨by omega,by omega⟩
theorem jrQ {n:Nat} (h:n<=4194304):jO n 8=true:=by
 unfold jO;exact decide_eq_true ⟨by omega,by omega⟩
abbrev nbs (vs:List Int):A:= .sl 1 (vs.map ci)
theorem jyd {x n:Int} (h0:0<=x) (hn:2<=n) (hx:x<=9223372036854775807):js .quo false (vi x) (vi n)=some (vi (x / n)):=by
 show (if n=0 then none else ck (x.tdiv n))=_;rw [if_neg (by omega),Int.tdiv_eq_ediv_of_nonneg h0,jH]
 ·have:=Int.ediv_nonneg h0 (show (0:Int)<=n by omega);omega
 ·have:=Int.ediv_le_self n h0;omega
theorem jpH (x:Int) (h0:0<=x) (h1:x<=255):KL .i64 (vy x)=some (vi x):=by
 rw [jj4,jH (by omega) (by omega)]
theorem jda {l:List (List UInt8)} {i:Nat} (h:i < l.length):KM (l.map cs) i 0=some (sv l[i]):=by
 unfold KM;simp [h]
section
variable {code:List Int} (hb:By code)
include hb
theorem jqp (i:Int) (h0:0<=i) (h1:i<=1000):∃x,0<=x/\x<=255/\G 177 [ke code,vi i]=some (vi x,[]):=by
 obtain ⟨k,rfl⟩:∃k:Nat,i=(k:Nat):=⟨i.toNat,by omega⟩;have hl:=hb.2;rw [jxN];by_cases hk:k < code.length
 ·have hlt:((k:Nat):Int) < ((code.length:Nat):Int):=by omega
  have hv:=hb.1 code[k] (List.getElem_mem hk);have c:=jpH code[k] hv.1 hv.2;exact ⟨code[k],hv.1,hv.2,by simp only [jf,hlt,jb hk,c]⟩
 ·have hlt:¬((k:Nat):Int) < ((code.length:Nat):Int):=by omega
  have c1:ck (((k:Nat):Int) * 7)=some (vi (((k:Nat):Int) * 7)):=jH (by omega) (by omega);have c2:ck (((k:Nat):Int) * 7+((code.length:Nat):Int))=some (vi (((k:Nat):Int) * 7+((code.length:Nat):Int))):=jH (by omega) (by omega);have c3:=jgc (x:=((k:Nat):Int) * 7+((code.length:Nat):Int)) (n:=256) (by omega) (by decide);exact ⟨(((k:Nat):Int) * 7+((code.length:Nat):Int)) % 256,Int.emod_nonneg _ (by decide),by have:=Int.emod_lt_of_pos (((k:Nat):Int) * 7+((code.length:Nat):Int)) (show (0:Int) < 256 by decide);omega,by simp only [jf,hlt,c1,c2,c3]⟩
theorem jqq (vs:List Int) (hvs:∀v∈vs,0<=v/\v<=10) (hl:vs.length<=4000000):∀i,i<=vs.length-> ∀h:Int,0<=h->h < 65521-> ∃x,0<=x/\jfd (ke code) (nbs vs) (vi h) (vi (i:Nat))=some (vi x,[]):=by
 refine upto ?_ ?_
 ·intro h h0 h1;obtain ⟨a,a0,a1,ea⟩:=jqp hb (h % 53) (Int.emod_nonneg _ (by decide)) (by have:=Int.emod_lt_of_pos h (show (0:Int) < 53 by decide);omega);obtain ⟨b,b0,b1,eb⟩:=jqp hb (h % 89) (Int.emod_nonneg _ (by decide)) (by have:=Int.emod_lt_of_pos h (show (0:Int) < 89 by decide);omega);have r1:=jgc (x:=h) (n:=53) h0 (by decide);have r2:=jgc (x:=h) (n:=89) h0 (by decide);have c1:ck (13 * a)=some (vi (13 * a)):=jH (by omega) (by omega);have c2:ck (h+13 * a)=some (vi (h+13 * a)):=jH (by omega) (by omega);have c3:ck (h+13 * a+b)=some (vi (h+13 * a+b)):=jH (by omega) (by omega);have q:=jyd (x:=h+13 * a+b) (n:=3) (by omega) (by decide) (by omega);refine ⟨(h+13 * a+b) / 3,Int.ediv_nonneg (by omega) (by decide),?_⟩;rw [jo5];simp only [jf,r1,r2,ea,eb,c1,c2,c3,q]
 ·intro i hi ih h h0 h1;have hlt:(i:Int) < ((vs.length:Nat):Int):=by omega
  have h5:=jv hi (by show vs.length<=9223372036854775807;omega)
  have hv:=hvs vs[i] (List.getElem_mem hi);have c1:ck (37 * h)=some (vi (37 * h)):=jH (by omega) (by omega);have c2:ck (37 * h+vs[i])=some (vi (37 * h+vs[i])):=jH (by omega) (by omega);have c3:ck (37 * h+vs[i]+1)=some (vi (37 * h+vs[i]+1)):=jH (by omega) (by omega);have r:=jgc (x:=37 * h+vs[i]+1) (n:=65521) (by omega) (by decide);obtain ⟨x,x0,e⟩:=ih ((37 * h+vs[i]+1) % 65521) (Int.emod_nonneg _ (by decide)) (Int.emod_lt_of_pos _ (by decide));refine ⟨x,x0,?_⟩;rw [jo5];simp only [jf,hlt,jb hi,c1,c2,c3,r,h5,e]
theorem jsh (n:List UInt8) (hn:n.length<=4000000) (vs:List Int) (hvs:∀v∈vs,0<=v/\v<=10) (hl:vs.length<=4000000):∃x,0<=x/\G 137 [ke code,sv n,nbs vs]=some (vi x,[]):=by
 have key:∀i,i<=n.length-> ∀h:Int,0<=h->h < 65521-> ∃x,0<=x/\jfc (ke code) (sv n) (nbs vs) (vi h) (vi (i:Nat))=some (vi x,[]):=by
  refine upto ?_ ?_
  ·intro h h0 h1;obtain ⟨x,x0,e⟩:=jqq hb vs hvs hl 0 (Nat.zero_le _) h h0 h1;refine ⟨x,x0,?_⟩;rw [jo4];simp only [Int.natCast_zero] at e;simp only [jf,e]
  ·intro i hi ih h h0 h1;have hlt:(i:Int) < ((n.length:Nat):Int):=by omega
   have h5:=jv hi (by show n.length<=9223372036854775807;omega)
   have hx:=y8 hi;have hc:n[i].toNat<=255:=by have:=n[i].toNat_lt;omega
   generalize n[i].toNat=c at *;have c0:=jpH ((c:Nat):Int) (by omega) (by omega);have c1:ck (31 * h)=some (vi (31 * h)):=jH (by omega) (by omega);have c2:ck (31 * h+((c:Nat):Int))=some (vi (31 * h+((c:Nat):Int))):=jH (by omega) (by omega);have r:=jgc (x:=31 * h+((c:Nat):Int)) (n:=65521) (by omega) (by decide);obtain ⟨x,x0,e⟩:=ih ((31 * h+((c:Nat):Int)) % 65521) (Int.emod_nonneg _ (by decide)) (Int.emod_lt_of_pos _ (by decide));refine ⟨x,x0,?_⟩;rw [jo4];simp only [jf,hlt,hx,c0,c1,c2,r,h5,e]
 obtain ⟨x,x0,e⟩:=key 0 (Nat.zero_le _) 17 (by decide) (by decide);refine ⟨x,x0,?_⟩;rw [jxv];simp only [Int.natCast_zero] at e;exact e
end
noncomputable def jcU (code:List Int) (n:List UInt8) (vs:List Int):Int:=match G 137 [ke code,sv n,nbs vs] with|some (.val (.int _ x),_)=>x|_=>0
theorem jlA {code:List Int} (hb:By code) (n:List UInt8) (hn:n.length<=4000000) (vs:List Int) (hvs:∀v∈vs,0<=v/\v<=10) (hl:vs.length<=4000000):0<=jcU code n vs/\G 137 [ke code,sv n,nbs vs]=some (vi (jcU code n vs),[]):=by
 obtain ⟨x,x0,e⟩:=jsh hb n hn vs hvs hl;have:jcU code n vs=x:=by unfold jcU;rw [e]
 rw [this];exact ⟨x0,e⟩
noncomputable abbrev zh (code:List Int) (s:Int):List UInt8->List Int->Int:=λn vs=>jcU code n vs % s
abbrev Env:=List (List UInt8 × Int)
abbrev ev (E:Env):A:= .agg [.sl 1 (E.map λp=>cs p.1),.sl 1 (E.map λp=>ci p.2)]
def j7 (E:Env) (n:List UInt8):Int:=E.foldl (λa p=>if p.1=n then p.2 else a) 0
theorem jms (E:Env) (p:List UInt8 × Int) (n:List UInt8):j7 (E++[p]) n=if p.1=n then p.2 else j7 E n:=by
 unfold j7;rw [List.foldl_append];rfl
theorem jrw (E:Env) (hl:E.length<=4000000) (n:List UInt8):G 176 [ev E,sv n]=some (vi (j7 E n),[]):=by
 have key:∀k,k<=E.length->jfi (sv n) (vi ((k:Nat) - 1:Int)) (.sl 1 (E.map λp=>cs p.1)) (.sl 1 (E.map λp=>ci p.2))=some (vi (j7 (E.take k) n),[]):=by
  intro k;induction k with
  | zero=>
   intro _;have h:¬(0:Int)<=((0:Nat):Int) - 1:=by omega
   rw [jo9];simp only [jf,h];rfl
  | succ k ih=>
   intro hk;have hk':k < E.length:=by omega
   have h:(0:Int)<=(k:Int):=by omega
   have e1:((k+1:Nat):Int) - 1=(k:Int):=by omega
   have c1:ck ((k:Int) - 1)=some (vi ((k:Int) - 1)):=jH (by omega) (by omega);have i1:=jb (k:=1) (f:=λp:List UInt8 × Int=>cs p.1) hk';have i2:=jb (k:=1) (f:=λp:List UInt8 × Int=>ci p.2) hk';rw [e1,jo9,List.take_succ_eq_append_getElem hk',jms];by_cases hn:E[k].1=n
   ·rw [if_pos hn];simp only [jf,h,i1,i2,hn]
   ·rw [if_neg hn,<-ih (by omega)];simp only [jf,h,i1,i2,hn,c1]
 have:=key E.length (Nat.le_refl _);rw [List.take_length] at this;have c1:ck (((E.length:Nat):Int) - 1)=some (vi (((E.length:Nat):Int) - 1)):=jH (by omega) (by omega);rw [jxM];simp only [jf,c1,this]
theorem jac {code:List Int} (s:Int) (hs:1<=s) (n:List UInt8) (vs:List Int):0<=zh code s n vs/\zh code s n vs < s:=⟨Int.emod_nonneg _ (by omega),Int.emod_lt_of_pos _ (by omega)⟩
theorem jev {c:UInt8} {r:List UInt8} :j6 (sv (c::r)) (vi 0)=some (vy (c.toNat:Int)):=kZ
section
variable {code:List Int} (hb:By code)
include hb
theorem jiV (s:Int) (hs:1<=s/\s<=10) (E:Env) (hE:∀x,0<=j7 E x/\j7 E x < s) (n:List UInt8) (hn:n.length<=1048576) (us:List T) (hl:us.length<=1048576) (ih:∀u∈us,G 136 [ke code,vi s,ev E,tm u]=some (vi (val (zh code s) (j7 E) u),[])) :
  QU (ke code) (vi s) (vi 0) (.sl 1 (E.map λp=>cs p.1)) (.sl 1 (E.map λp=>ci p.2)) (sv n) (kr us) []=some (vi (zh code s n (us.map (val (zh code s) (j7 E)))),[]):=by
 have key:=upto (P:=λi=>QU (ke code) (vi s) (vi (i:Nat)) (.sl 1 (E.map λp=>cs p.1)) (.sl 1 (E.map λp=>ci p.2)) (sv n) (kr us) (((us.take i).map (val (zh code s) (j7 E))).map ci)=some (vi (zh code s n (us.map (val (zh code s) (j7 E)))),[])) (n:=us.length) ?_ ?_ 0 (Nat.zero_le _)
 ·exact key
 ·have hv:∀v∈us.map (val (zh code s) (j7 E)),0<=v/\v<=10:=by
   intro v hv;obtain ⟨u,_,rfl⟩:=List.mem_map.1 hv;have:=jiX (good:=λv=>0<=v/\v < s) (M:=zh code s) (jac s hs.1) hE u;omega
  obtain ⟨m0,me⟩:=jlA hb n (by omega) _ hv (by rw [List.length_map];omega)
  have r:=jgc (x:=jcU code n (us.map (val (zh code s) (j7 E)))) (n:=s) m0 hs.1;rw [List.take_length,jo3];generalize us.map (val (zh code s) (j7 E))=vs at *;show _=some (vi (jcU code n vs % s),[]);simp only [jf,me,r]
 ·intro i hi ihi;have hlt:(i:Int) < ((us.length:Nat):Int):=by omega
  have h5:=jv hi (by show us.length<=9223372036854775807;omega)
  have e1:=ih us[i] (List.getElem_mem hi);have f:jO (i+1) 8=true:=jrQ (by omega);have hmin:min i us.length=i:=by omega
  rw [List.take_succ_eq_append_getElem hi,List.map_append,List.map_append,show ([us[i]].map (val (zh code s) (j7 E))).map ci = [[vi (val (zh code s) (j7 E) us[i])]] from rfl] at ihi;rw [jo3];generalize val (zh code s) (j7 E) us[i]=v at *;have ihi:QU (ke code) (vi s) (vi ((i+1:Nat):Int)) (.sl 1 (E.map λp=>cs p.1)) (.sl 1 (E.map λp=>ci p.2)) (sv n) (kr us) (kM (((us.take i).map (val (zh code s) (j7 E))).map ci) [[vi v]])=_:=ihi;have hlen:(((us.take i).map (val (zh code s) (j7 E))).map ci).length=i:=by simp [hmin]
  generalize ((us.take i).map (val (zh code s) (j7 E))).map ci=R at *;have f2:jO (R.length+1) 8=true:=by rw [hlen];exact f
  simp only [jf,hlt,jb hi,jk,e1,h5,f2,ihi]
theorem jnI (s:Int) (hs:1<=s/\s<=10) (E:Env) (hEl:E.length<=4000000) (hE:∀x,0<=j7 E x/\j7 E x < s):∀t:T,Tz t->G 136 [ke code,vi s,ev E,tm t]=some (vi (val (zh code s) (j7 E) t),[]):=by
 refine T.ind λt ih ht=> ?_;have hz:=ht;unfold Tz at hz;rw [j4] at hz;have e0:=jiV hb s hs E hE t.name (by omega) t.args (by omega) λu hu=>ih u hu (ht.args u hu);have e1:=jrw E hEl t.name;rw [jxu,jdE];cases ha:t.args with
 | cons u us=>
  rw [ha] at e0;have hne:¬(((u::us).length:Nat):Int)=0:=by rw [List.length_cons];omega
  rw [show (u::us).isEmpty=false from rfl,Bool.false_and,if_neg Bool.false_ne_true];generalize u::us=vs at *;simp only [jf,ha,hne,e0]
 | nil=>
  rw [ha] at e0;rw [show ([]:List T).isEmpty=true from rfl,Bool.true_and];cases hn:t.name with
  | nil=>
   rw [hn] at e0;rw [show upN []=false from rfl,if_neg Bool.false_ne_true];have z1:(((([]:List T).length:Nat):Int)=0):=rfl;have z2:¬(0:Int) < ((0:Nat):Int):=by decide
   generalize hE0:([]:List T)=vs at *;simp only [jf,ha,hn,z1,z2,e0]
  | cons c r=>
   rw [hn] at e0 e1;have hpos:(0:Int) < (((c::r).length:Nat):Int):=Int.natCast_pos.2 (Nat.succ_pos _);have hx:=jev (c:=c) (r:=r);have hu:upN (c::r)=(decide ((65:Int)<=(c.toNat:Int)) && decide ((c.toNat:Int)<=90)):=rfl;rw [hu];have z1:(((([]:List T).length:Nat):Int)=0):=rfl;generalize hE0:([]:List T)=vs at *;generalize c::r=nm at *;by_cases h1:(65:Int)<=(c.toNat:Int)
   ·by_cases h2:(c.toNat:Int)<=90
    ·rw [decide_eq_true h1,decide_eq_true h2,Bool.and_self,if_pos rfl];simp only [jf,ha,hn,z1,hpos,hx,h1,h2,e1]
    ·rw [decide_eq_true h1,decide_eq_false h2,Bool.and_false,if_neg Bool.false_ne_true];simp only [jf,ha,hn,z1,hpos,hx,h1,h2,e0]
   ·rw [decide_eq_false h1,Bool.false_and,if_neg Bool.false_ne_true];simp only [jf,ha,hn,z1,hpos,hx,h1,e0]
end
theorem jsk (l:List (List UInt8)) (n:List UInt8):(Kd l n).length<=l.length+1:=by
 unfold Kd;split
 ·omega
 ·simp
theorem jdG:∀(t:T) (l:List (List UInt8)),(vn l t).length<=l.length+nodes t:=by
 refine T.ind λt ih l=> ?_;have hn:=jN t;rw [ji0];split
 ·have:=jsk l t.name;omega
 ·have key:∀us:List T,(∀u∈us,u∈t.args)-> ∀l:List (List UInt8),(vnL l us).length<=l.length+jA us:=by
   intro us;induction us with
   | nil=>intro _ l;simp [vnL,jA]
   | cons u us ih2=>
    intro hu l;have h1:=ih u (hu u (by simp)) l;have h2:=ih2 (λv hv=>hu v (by simp [hv])) (vn l u);rw [vnL,jA];omega
  have:=key t.args (λ_ h=>h) l;omega
theorem jkA (n:List UInt8) (x:A) (hx:n.length<=1048576) (l:List (List UInt8)) (hl:l.length<=4000000):Zw (vi 0) (sv n) x (l.map cs)=some (.top,[.sl 1 ((Kd l n).map cs)]):=by
 have key:=upto (P:=λi=>Zw (vi (i:Nat)) (sv n) x (l.map cs)=some (.top,[.sl 1 ((if (l.drop i).contains n then l else l++[n]).map cs)])) (n:=l.length) ?_ ?_ 0 (Nat.zero_le _)
 ·exact key
 ·have f:jO (l.length+1) 16=true:=juo (by omega);rw [jlt,List.drop_length,show ([]:List (List UInt8)).contains n=false from rfl,if_neg Bool.false_ne_true,List.map_append];simp only [jf,f];rfl
 ·intro i hi ih;have hlt:(i:Int) < ((l.length:Nat):Int):=by omega
  have h5:=jv hi (by show l.length<=9223372036854775807;omega)
  have x1:Z7 l.length (vi ((i:Nat):Int))=some i:=yb hi;have x2:=jda hi;rw [jlt,jl hi,List.contains_cons];by_cases he:l[i]=n
  ·rw [<-he,beq_self_eq_true,Bool.true_or,if_pos rfl];rw [he] at x2 ⊢;simp only [jf,hlt,x1,x2]
  ·have hne:(n == l[i])=false:=by
    cases h:(n == l[i]) with
    | false=>rfl
    | true=>exact absurd (eq_of_beq h).symm he
   rw [hne,Bool.false_or,<-ih];simp only [jf,hlt,x1,x2,he,h5]
theorem jaw:∀t:T,Tz t-> ∀l:List (List UInt8),l.length+nodes t<=4000000->jbS (tm t) (l.map cs)=some (.top,[.sl 1 ((vn l t).map cs)]):=by
 refine T.ind λt ih ht l hl=> ?_;have hz:=ht;unfold Tz at hz;rw [j4] at hz;have hn:=jN t;have e1:∀x,Zw (vi 0) (sv t.name) x (l.map cs)=_:=λx=>jkA t.name x (by omega) l (by omega);have key:=upto (P:=λi=>∀l:List (List UInt8),l.length+jA (t.args.drop i)<=4000000->jbt (vi (i:Nat)) (sv t.name) (kr t.args) (l.map cs)=some (.top,[.sl 1 ((vnL l (t.args.drop i)).map cs)])) (n:=t.args.length) ?_ ?_ 0 (Nat.zero_le _);rotate_left
 ·intro l _;rw [jfK,List.drop_length];simp only [jf];rfl
 ·intro i hi ihi l hl;have hlt:(i:Int) < ((t.args.length:Nat):Int):=by omega
  have h5:=jv hi (by show t.args.length<=9223372036854775807;omega)
  rw [jl hi,jA] at hl;have q:=ih t.args[i] (List.getElem_mem hi) (ht.args _ (List.getElem_mem hi)) l (by omega);have hln:=jdG t.args[i] l;have q2:=ihi (vn l t.args[i]) (by omega);rw [jfK,jl hi,vnL];generalize vn l t.args[i]=l' at *;have hr:hR 1 (A.top,[.sl 1 (l'.map cs)]) 0=some (l'.map cs):=rfl;simp only [jf,hlt,jb hi,jk,q,hr,h5,q2]
 have e2:jbs (vi 0) (sv t.name) (kr t.args) (l.map cs)=some (.top,[.sl 1 ((vnL l t.args).map cs)]):=by
  have key:=key l (by rw [List.drop_zero];omega)
  rw [List.drop_zero] at key;have:jbs (vi 0) (sv t.name) (kr t.args) (l.map cs)=jbt (vi 0) (sv t.name) (kr t.args) (l.map cs):=by rw [jrD,jfK]
  rw [this];exact key
 rw [jvk,ji0];cases ha:t.args with
 | cons u us=>
  rw [ha] at e2;have hne:¬(((u::us).length:Nat):Int)=0:=by rw [List.length_cons];omega
  rw [show (u::us).isEmpty=false from rfl,Bool.false_and,if_neg Bool.false_ne_true];generalize u::us=vs at *;simp only [jf,ha,hne,e2]
 | nil=>
  rw [ha] at e2;rw [show ([]:List T).isEmpty=true from rfl,Bool.true_and];cases hnm:t.name with
  | nil=>
   rw [hnm] at e2;rw [show upN []=false from rfl,if_neg Bool.false_ne_true];have z1:(((([]:List T).length:Nat):Int)=0):=rfl;have z2:¬(0:Int) < ((0:Nat):Int):=by decide
   generalize hE0:([]:List T)=vs at *;simp only [jf,ha,hnm,z1,z2,e2]
  | cons c r=>
   rw [hnm] at e1 e2;have hpos:(0:Int) < (((c::r).length:Nat):Int):=Int.natCast_pos.2 (Nat.succ_pos _);have hx:=jev (c:=c) (r:=r);have hu:upN (c::r)=(decide ((65:Int)<=(c.toNat:Int)) && decide ((c.toNat:Int)<=90)):=rfl;rw [hu];have z1:(((([]:List T).length:Nat):Int)=0):=rfl;generalize hE0:([]:List T)=vs at *;generalize c::r=nm at *;by_cases h1:(65:Int)<=(c.toNat:Int)
   ·by_cases h2:(c.toNat:Int)<=90
    ·rw [decide_eq_true h1,decide_eq_true h2,Bool.and_self,if_pos rfl];simp only [jf,ha,hnm,z1,hpos,hx,h1,h2,e1]
    ·rw [decide_eq_true h1,decide_eq_false h2,Bool.and_false,if_neg Bool.false_ne_true];simp only [jf,ha,hnm,z1,hpos,hx,h1,h2,e2]
   ·rw [decide_eq_false h1,Bool.false_and,if_neg Bool.false_ne_true];simp only [jf,ha,hnm,z1,hpos,hx,h1,e2]
theorem jvY {x n:Int} (h0:0<=x) (hn:1<=n) (hx:x<=9223372036854775807):js .quo false (vi x) (vi n)=some (vi (x / n)):=by
 show (if n=0 then none else ck (x.tdiv n))=_;rw [if_neg (by omega),Int.tdiv_eq_ediv_of_nonneg h0,jH]
 ·have:=Int.ediv_nonneg h0 (show (0:Int)<=n by omega);omega
 ·have:=Int.ediv_le_self n h0;omega
theorem joq {n:Nat} (hn:1<=n):∀(l k:Nat),∀v∈dec n l k,v < n
 | 0,_,v,h=>by cases h
 | l+1,k,v,h=>by
  rw [dec] at h;rcases List.mem_cons.1 h with rfl|h
  ·exact Nat.mod_lt _ (by omega)
  ·exact joq hn l _ v h
theorem jla (n:Nat):∀l k:Nat,(dec n l k).length=l
 | 0,_=>rfl
 | l+1,k=>by rw [dec,List.length_cons,jla n l]
theorem jmr {s:Int} (hs:1<=s) {E:Env} (h:∀p∈E,0<=p.2/\p.2 < s) (x:List UInt8):0<=j7 E x/\j7 E x < s:=by
 have key:∀(E:Env) (a:Int),(0<=a/\a < s)->(∀p∈E,0<=p.2/\p.2 < s)->0<=E.foldl (λa p=>if p.1=x then p.2 else a) a/\E.foldl (λa p=>if p.1=x then p.2 else a) a < s:=by
  intro E;induction E with
  | nil=>intro a ha _;exact ha
  | cons p E ih=>
   intro a ha h;rw [List.foldl_cons];refine ih _ ?_ λq hq=>h q (by simp [hq]);split
   ·exact h p (by simp)
   ·exact ha
 exact key E 0 ⟨by omega,by omega⟩ h
theorem joI (f:List UInt8->Int) {l:List (List UInt8)} {x:List UInt8} (hx:x∈l):j7 (l.map λn=>(n,f n)) x=f x:=by
 have key:∀(l:List (List UInt8)) (a:Int),(x∈l\/a=f x)->(l.map λn=>(n,f n)).foldl (λa (p:List UInt8 × Int)=>if p.1=x then p.2 else a) a=f x:=by
  intro l;induction l with
  | nil=>intro a h;exact h.elim (λh=>absurd h List.not_mem_nil) id
  | cons n l ih=>
   intro a h;rw [List.map_cons,List.foldl_cons];refine ih _ ?_;show x∈l\/(if n=x then f n else a)=f x;by_cases hn:n=x
   ·right;rw [if_pos hn,hn]
   ·rw [if_neg hn];rcases h with h|h
    ·rcases List.mem_cons.1 h with h|h
     ·exact absurd h.symm hn
     ·exact Or.inl h
    ·exact Or.inr h
 exact key l 0 (Or.inl hx)
theorem QO {α β:Type} (f:α->β):∀l:List α,l.zip (l.map f)=l.map λx=>(x,f x)
 | []=>rfl
 | x::l=>by rw [List.map_cons,List.zip_cons_cons,QO f l,List.map_cons]
def Q4 (s:Nat) (names:List (List UInt8)) (k:Nat):Env:=names.zip ((dec s names.length k).map λv=>((v:Nat):Int))
theorem jd9 {s:Nat} (hs:1<=s) (names:List (List UInt8)) (k:Nat) (x:List UInt8):0<=j7 (Q4 s names k) x/\j7 (Q4 s names k) x < (s:Int):=by
 refine jmr (by omega) (λp hp=> ?_) x;obtain ⟨v,hv,e⟩:=List.mem_map.1 (List.of_mem_zip hp).2;have:=joq hs _ _ v hv;rw [<-e];omega
theorem joA {s:Nat} (hs:1<=s) (names:List (List UInt8)) (e:List UInt8->Int) (he:∀x,0<=e x/\e x < (s:Int)):∃k,k < s ^ names.length/\ ∀x∈names,j7 (Q4 s names k) x=e x:=by
 have hv:∀v∈names.map (λx=>(e x).toNat),v < s:=by
  intro v hv;obtain ⟨x,_,rfl⟩:=List.mem_map.1 hv;have:=he x;omega
 refine ⟨enc s (names.map λx=>(e x).toNat),?_,λx hx=> ?_⟩
 ·have:=jox hs _ hv;rwa [List.length_map] at this
 ·have h1:=jk9 hs _ hv;rw [List.length_map] at h1;unfold Q4;rw [h1,List.map_map,QO,joI _ hx];have:=he x;show (((e x).toNat:Nat):Int)=e x;omega
theorem joB (s:Nat) (names:List (List UInt8)) (k:Nat):(Q4 s names k).length=names.length:=by
 unfold Q4;rw [List.length_zip,List.length_map,jla,Nat.min_self]
section
variable {code:List Int} (hb:By code)
include hb
omit hb in
theorem jqx (n:List UInt8) (v:Int) (E:Env) (hl:E.length<=1000000):jnZ (sv n) (vi v) (E.map λp=>cs p.1) (E.map λp=>ci p.2)=some (.top,[.sl 1 (E.map λp=>cs p.1),.sl 1 (E.map λp=>ci p.2),.sl 1 ((E++[(n,v)]).map λp=>cs p.1),.sl 1 ((E++[(n,v)]).map λp=>ci p.2)]):=by
 have f1:jO E.length 16=true:=juo (by omega);have f2:jO E.length 8=true:=jrQ (by omega);have f3:jO (E.length+1) 16=true:=juo (by omega);have f4:jO (E.length+1) 8=true:=jrQ (by omega);rw [jvr];simp only [jf,f1,f2,f3,f4,List.map_append];rfl
omit hb in
theorem jiR (s:Nat) (hs:1<=s/\s<=3) (al k:A) (X:A) (names:List (List UInt8)) (hn:names.length<=1000):∀(m i rest:Nat) (E:Env),i+m=names.length->E.length=i->rest<=1000000000->
  jkR (ke code) (vi (s:Nat)) al k (vi (rest:Nat)) (vi (i:Nat)) X (names.map cs) (E.map λp=>cs p.1) (E.map λp=>ci p.2) =
  jgF (ke code) (vi (s:Nat)) al k (vb false) (vi 0) X (names.map cs) ((E++(names.drop i).zip ((dec s m rest).map λv=>((v:Nat):Int))).map λp=>cs p.1) ((E++(names.drop i).zip ((dec s m rest).map λv=>((v:Nat):Int))).map λp=>ci p.2):=by
 intro m;induction m with
 | zero=>
  intro i rest E hi hE hr;have hlt:¬(i:Int) < ((names.length:Nat):Int):=by omega
  rw [dec,List.map_nil,List.zip_nil_right,List.append_nil,jsO];simp only [jf,hlt]
 | succ m ih=>
  intro i rest E hi hE hr;have hi':i < names.length:=by omega
  have hlt:(i:Int) < ((names.length:Nat):Int):=by omega
  have h5:=jv hi' (by show names.length<=9223372036854775807;omega)
  have x1:Z7 names.length (vi ((i:Nat):Int))=some i:=yb hi';have x2:=jda hi';have r1:=jgc (x:=((rest:Nat):Int)) (n:=((s:Nat):Int)) (by omega) (by omega);have r2:=jvY (x:=((rest:Nat):Int)) (n:=((s:Nat):Int)) (by omega) (by omega) (by omega);rw [<-Int.natCast_emod] at r1;rw [<-Int.natCast_ediv] at r2;have w:=jqx names[i] ((rest % s:Nat):Int) E (by omega);have hd:rest / s<=1000000000:=Nat.le_trans (Nat.div_le_self _ _) hr;have q:=ih (i+1) (rest / s) (E++[(names[i],((rest % s:Nat):Int))]) (by omega) (by rw [List.length_append,List.length_singleton,hE]) hd;rw [dec,jl hi',List.map_cons,List.zip_cons_cons,show E++(names[i],((rest % s:Nat):Int))::((names.drop (i+1)).zip ((dec s m (rest / s)).map λv=>((v:Nat):Int)))=(E++[(names[i],((rest % s:Nat):Int))])++(names.drop (i+1)).zip ((dec s m (rest / s)).map λv=>((v:Nat):Int)) by rw [List.append_assoc];rfl,<-q,jsO];generalize hE':E++[(names[i],((rest % s:Nat):Int))]=E' at *;have hR:∀a b c d:List (List A),hR 1 (A.top,[.sl 1 a,.sl 1 b,.sl 1 c,.sl 1 d]) 0=some a/\hR 1 (A.top,[.sl 1 a,.sl 1 b,.sl 1 c,.sl 1 d]) 1=some b/\hR 1 (A.top,[.sl 1 a,.sl 1 b,.sl 1 c,.sl 1 d]) 2=some c/\hR 1 (A.top,[.sl 1 a,.sl 1 b,.sl 1 c,.sl 1 d]) 3=some d:=λ_ _ _ _=>⟨rfl,rfl,rfl,rfl⟩;obtain ⟨z0,z1,z2,z3⟩:=hR (E.map λp=>cs p.1) (E.map λp=>ci p.2) (E'.map λp=>cs p.1) (E'.map λp=>ci p.2);simp only [jf,hlt,x1,x2,r1,r2,h5,w,z0,z1,z2,z3]
end
def R3 (S:List (List UInt8)) (r:T):Prop:=r.name = [61]/\r.args.length=2/\Tz r/\(zO (jbk r)=true/\VIn S (jbk r))/\zO (jbn r)=true/\VIn S (jbn r)
def jys (code:List Int) (s:Int) (r:T):Prop:=∀e:List UInt8->Int,(∀x,0<=e x/\e x < s)->val (zh code s) e (jbk r)=val (zh code s) e (jbn r)
section
variable {code:List Int} (hb:By code)
include hb
end
theorem jiU (n m:List UInt8) (ts us:List T) (hl:ts.length<=9223372036854775807) (hlen:ts.length=us.length) (ih:∀t∈ts,∀u∈us,G 34 [tm t,tm u]=some (vb (dq t u),[])) :
  ∀i,i<=ts.length->jkN (vi i) (sv n) (kr ts) (sv m) (kr us)=some (vb (dq (ts.drop i) (us.drop i)),[]):=by
 refine upto ?_ ?_
 ·rw [jsK,List.drop_length,hlen,List.drop_length,ZC];simp only [jf,hlen]
 ·intro i hi ih';have hlt:(i:Int) < ((ts.length:Nat):Int):=by omega
  have hi2:i < us.length:=by omega
  have h5:=jv hi hl;have e1:=ih ts[i] (List.getElem_mem _) us[i] (List.getElem_mem _);rw [jsK,jl hi,jl hi2,jld];cases hp:dq ts[i] us[i]<;>rw [hp] at e1
  ·simp only [jf,hlt,jb hi,jb hi2,jk,e1,Bool.false_and]
  ·simp only [jf,hlt,jb hi,jb hi2,jk,e1,h5,ih',Bool.true_and]
theorem jnH:∀s:T,twf s-> ∀t:T,twf t->G 34 [tm s,tm t]=some (vb (dq s t),[]):=by
 refine T.ind λs ih hw t hw'=> ?_;obtain ⟨w1,w2,w3⟩:=(zs s).1 hw;have w3:=(zi _).1 w3;obtain ⟨v1,v2,v3⟩:=(zs t).1 hw';have v3:=(zi _).1 v3;rw [g34,jvx];by_cases hn:s.name=t.name
 ·by_cases hlen:s.args.length=t.args.length
  ·have key:=jiU t.name t.name s.args t.args w2 hlen (λa ha b hb=>ih a ha (w3 a ha) b (v3 b hb)) 0 (Nat.zero_le _);simp only [Int.natCast_zero,List.drop_zero] at key;simp only [jf,hn,hlen,key,Bool.true_and]
  ·have hlen':¬((s.args.length:Nat):Int)=((t.args.length:Nat):Int):=by omega
   simp only [jf,hn,hlen',jou hlen,Bool.and_false]
 ·simp only [jf,hn,Bool.false_and]
def MD (code:List Int) (z q:Nat) (a:Int) (o:Option Out):Prop:=∃a' s' t,a<=a'/\a'<=a+(q:Nat)/\(tsz t<=z/\Zc t=true)/\o=some (.top,[ke code,vi a',vu s',tm t])
def fT (n:List UInt8):T:= .mk [102] [.mk n []]
def hT:T:= .mk [104] [fT [97],fT [97],fT [97],fT [97]]
def gT (us:List T):T:= .mk [103] us
section
variable {code:List Int} (hb:By code)
include hb
theorem jsm (a s:Int) (h0:0<=a) (h1:a<=999990000):MD code 200 2 a (je4 (ke code) (vi a) (vu s)):=by
 obtain ⟨a1,s1,b1,q1,q2,e1⟩:=JK hb 2 (by decide) (by decide) a s h0 (by omega);obtain ⟨a2,s2,b2,r1,r2,e2⟩:=JK hb 2 (by decide) (by decide) a1 s1 (by omega) (by omega);have inner:∀(x y:Int) (r1:List (List A)),x+1=y->0<=x->x < 4->r1.length<=10->YX (vi x) (vi 0) (ke code) (vi a) (vu s) (sv []) (sv [103]) (sv [104]) [] r1 []=KV (vi y) (ke code) (vi a) (vu s) (sv []) (sv [103]) [] (r1++[jy hT]):=by
  intro x y r1 hxy hx hi hr;have hf:jO (r1.length+1) 40=true:=jj6 (by omega);have c5:ck (x+1)=some (vi y):=by rw [hxy];exact jH (by omega) (by omega)
  have k1:ck ((0:Int)+1)=some (vi 1):=jH (by decide) (by decide);have k2:ck ((1:Int)+1)=some (vi 2):=jH (by decide) (by decide);have k3:ck ((2:Int)+1)=some (vi 3):=jH (by decide) (by decide);have k4:ck ((3:Int)+1)=some (vi 4):=jH (by decide) (by decide);have f1:jO (0+1) 40=true:=rfl;have f2:jO (1+1) 40=true:=rfl;have f3:jO (2+1) 40=true:=rfl;have f4:jO (3+1) 40=true:=rfl;have l0:((0:Int) < 4)=True:=by simp
  have l1:((1:Int) < 4)=True:=by simp
  have l2:((2:Int) < 4)=True:=by simp
  have l3:((3:Int) < 4)=True:=by simp
  rw [K9];simp only [jf,l0,f1,k1];rw [K9];simp only [jf,l1,f2,k2,kM];rw [K9];simp only [jf,l2,f3,k3,kM];rw [K9];simp only [jf,l3,f4,k4,kM];rw [K9];simp only [jf,hf,c5,kM];rfl
 have l0:((0:Int) < 4)=True:=by simp
 have l1:((1:Int) < 4)=True:=by simp
 have l2:((2:Int) < 4)=True:=by simp
 have l3:((3:Int) < 4)=True:=by simp
 have head:je4 (ke code) (vi a) (vu s)=KV (vi 4) (ke code) (vi a) (vu s) (sv []) (sv [103]) [] [jy hT,jy hT,jy hT,jy hT]:=by
  rw [jtR,K8];simp only [jf,l0];rw [inner 0 1 [] (by decide) (by decide) (by decide) (by decide),K8];simp only [jf,l1];rw [inner 1 2 _ (by decide) (by decide) (by decide) (by decide),K8];simp only [jf,l2];rw [inner 2 3 _ (by decide) (by decide) (by decide) (by decide),K8];simp only [jf,l3];rw [inner 3 4 _ (by decide) (by decide) (by decide) (by decide)];rfl
 rw [head,K8];have n4:((4:Int) < 4)=False:=by simp
 cases b1 with
 | true=>
  cases b2 with
  | true=>
   refine ⟨a2,s2,gT [hT,hT,hT,fT [98]],by omega,by omega,by decide,?_⟩;simp only [jf,n4,e1,e2,List.getElem?_cons_zero,List.getElem?_cons_succ];rfl
  | false=>
   refine ⟨a2,s2,gT [hT,hT,hT],by omega,by omega,by decide,?_⟩;simp only [jf,n4,e1,e2,List.getElem?_cons_zero,List.getElem?_cons_succ];rfl
 | false=>
  refine ⟨a2,s2,gT [hT,hT,hT,hT],by omega,by omega,by decide,?_⟩;cases b2<;>simp only [jf,n4,e1,e2,List.getElem?_cons_zero,List.getElem?_cons_succ]<;>rfl
theorem jjg (a s:Int) (h0:0<=a) (h1:a<=999980000):MD code 1000 1200 a (ji8 (ke code) (vi a) (vu s)):=by
 obtain ⟨a1,s1,t1,q1,q2,q3,e1⟩:=QN hb a s h0 (by omega);obtain ⟨a2,s2,x,r1,r2,x0,x1,e2⟩:=zW hb 24 (by decide) (by decide) a1 s1 (by omega) (by omega);have hz:=j4 t1;rw [jtM];by_cases y0:x=0
 ·subst y0;obtain ⟨a3,s3,w,hw,u1,u2,e⟩:=jlF hb [[],[116,114,117,101],[116,114,117,116,104],[105,102],[88,121,122,57],[88,121,122,57,57],[120,65],[97,95,98],[97,98,99,100,101,102],[97,98,99,100,101,102,103],[95,97],[57],[88,95],[61]] (by decide) (by decide) a2 s2 (by omega) (by omega);have hl:w.length<=7/\JJ w=true:=(show ∀w∈([[],[116,114,117,101],[116,114,117,116,104],[105,102],[88,121,122,57],[88,121,122,57,57],[120,65],[97,95,98],[97,98,99,100,101,102],[97,98,99,100,101,102,103],[95,97],[57],[88,95],[61]]:List (List UInt8)),w.length<=7/\JJ w=true by decide) w hw;have e:ym (ke code) (vi a2) (vu s2) [[sv []],[sv [116,114,117,101]],[sv [116,114,117,116,104]],[sv [105,102]],[sv [88,121,122,57]],[sv [88,121,122,57,57]],[sv [120,65]],[sv [97,95,98]],[sv [97,98,99,100,101,102]],[sv [97,98,99,100,101,102,103]],[sv [95,97]],[sv [57]],[sv [88,95]],[sv [61]]]=some (.top,[ke code,vi a3,vu s3,sv w]):=e;refine ⟨a3,s3,.mk w t1.args,by omega,by omega,⟨by rw [yN];omega,jhW hl.2 (nmA q3.2)⟩,?_⟩;simp only [jf,e1,e2,e,List.getElem?_cons_zero,List.getElem?_cons_succ,yf];rfl
 by_cases y1:x=1
 ·subst y1;obtain ⟨a3,s3,y,u1,u2,u3,u4,e3⟩:=zW hb 3 (by decide) (by decide) a2 s2 (by omega) (by omega);obtain ⟨k,hk⟩:∃k:Nat,7+y=(k:Nat):=⟨(7+y).toNat,by omega⟩;have c1:ck (7+y)=some (vi (k:Nat)):=by rw [hk];exact jH (by omega) (by omega)
  obtain ⟨a4,s4,t4,v1,v2,v3,e4⟩:=jqk hb k (by omega) a3 s3 (by omega) (by omega);refine ⟨a4,s4,t4,by omega,by omega,⟨by omega,v3.2⟩,?_⟩;simp only [jf,y0,e1,e2,e3,c1,e4,List.getElem?_cons_zero,List.getElem?_cons_succ,yf]
 by_cases y2:x=2
 ·subst y2;obtain ⟨a3,s3,t3,u1,u2,u3,e3⟩:=jsm hb a2 s2 (by omega) (by omega);refine ⟨a3,s3,t3,by omega,by omega,⟨by omega,u3.2⟩,?_⟩;simp only [jf,y0,y1,e1,e2,e3,List.getElem?_cons_zero,List.getElem?_cons_succ,yf]
 by_cases y3:x=3
 ·subst y3;obtain ⟨a3,s3,t3,u1,u2,u3,e3⟩:=QN hb a2 s2 (by omega) (by omega);obtain ⟨a4,s4,t4,v1,v2,v3,e4⟩:=QN hb a3 s3 (by omega) (by omega);obtain ⟨a5,s5,t5,w1,w2,w3,e5⟩:=QN hb a4 s4 (by omega) (by omega);have hf:jO (t1.args.length+3) 40=true:=jj6 (by omega);have hsz:∀us:List T,zB (us++[t3,t4,t5])=zB us+(tsz t3+(tsz t4+tsz t5)):=by
   intro us;induction us with
   | nil=>simp [zB]
   | cons u us ih=>simp only [List.cons_append,zB];omega
  refine ⟨a5,s5,.mk t1.name (t1.args++[t3,t4,t5]),by omega,by omega,⟨by rw [yN,hsz,List.length_append,List.length_cons,List.length_cons,List.length_cons,List.length_nil];omega,jhW (nmN q3.2) (by rw [jcX,nmA q3.2,qK,u3.2,qK,v3.2,qK,w3.2];rfl)⟩,?_⟩
  simp only [jf,y0,y1,y2,e1,e2,e3,e4,e5,hf,List.length_map,List.getElem?_cons_zero,List.getElem?_cons_succ,yf];show _=some (A.top,[ke code,vi a5,vu s5,A.agg [sv t1.name,.sl 2 ((t1.args++[t3,t4,t5]).map jy)]]);rw [List.map_append,List.map_cons,List.map_cons,List.map_cons,kg t3,kg t4,kg t5];rfl
 by_cases y4:x=4
 ·subst y4;cases ht:t1.args with
  | nil=>
   rw [ht] at e1;refine ⟨a2,s2,t1,by omega,by omega,⟨by omega,q3.2⟩,?_⟩;simp only [jf,y0,y1,y2,y3,e1,e2,Int.natCast_zero,List.map_nil,List.getElem?_cons_zero,List.getElem?_cons_succ,yf];rw [show tm t1=A.agg [sv t1.name,.sl 2 (t1.args.map jy)] from rfl,ht];rfl
  | cons u us=>
   rw [ht] at e1 hz;obtain ⟨a3,s3,w,hw,u1,u2,e⟩:=jlF hb [[61],[],[81,49],[98,50]] (by decide) (by decide) a2 s2 (by omega) (by omega);have hl:w.length<=2/\JJ w=true:=(show ∀w∈([[61],[],[81,49],[98,50]]:List (List UInt8)),w.length<=2/\JJ w=true by decide) w hw;have e:ym (ke code) (vi a2) (vu s2) [[sv [61]],[sv []],[sv [81,49]],[sv [98,50]]]=some (.top,[ke code,vi a3,vu s3,sv w]):=e;have hu:=j4 u;simp only [zB,List.length_cons] at hz;refine ⟨a3,s3,.mk t1.name (.mk w u.args::us),by omega,by omega,⟨by rw [yN];simp only [zB,List.length_cons,yN];omega,?_⟩,?_⟩
   ·have h1:=nmA q3.2;rw [ht,qK,Bool.and_eq_true] at h1;exact jhW (nmN q3.2) (by rw [qK,jhW hl.2 (nmA h1.1),h1.2];rfl)
   have x2:Z7 (us.length+1) (vi 0)=some 0:=yb (i:=0) (by omega);have x3:KM (jy u::us.map jy) 0 1=some (kr u.args):=by rw [kg];rfl
   have x4:(0:Int) < ((us.length+1:Nat):Int):=by omega
   simp only [jf,y0,y1,y2,y3,e1,e2,e,List.map_cons,List.length_cons,List.length_map,x2,x3,x4,List.getElem?_cons_zero,List.getElem?_cons_succ,yf];generalize hB:kT _ _ _=B;have hB':B=some (.agg [sv w,kr u.args]):=by rw [<-hB];kernel_rfl
   rw [hB'];simp only [jf,jgf,JM,jfw,List.getElem?_cons_zero,List.getElem?_cons_succ,yf];rw [kg];show some (A.top,[ke code,vi a3,vu s3,A.agg [sv t1.name,A.sl 2 (JY [sv u.name,A.sl 2 (List.map jy u.args)] 0 [sv w,kr u.args]::List.map jy us)]])=some (A.top,[ke code,vi a3,vu s3,A.agg [sv t1.name,.sl 2 (jy (.mk w u.args)::us.map jy)]]);rw [jfw,kg];rfl
 ·refine ⟨a2,s2,t1,by omega,by omega,⟨by omega,q3.2⟩,?_⟩;simp only [jf,e1,e2,y0,y1,y2,y3,y4,List.getElem?_cons_zero,List.getElem?_cons_succ,yf]
end
def OD (code:List Int) (q:Nat) (a:Int) (o:Option Out):Prop:=∃a' s' r,a<=a'/\a'<=a+(q:Nat)/\owf r/\o=some (.top,[ke code,vi a',vu s',od r])
section
variable {code:List Int} (hb:By code)
include hb
end
def PD (code:List Int) (z q:Nat) (a:Int) (o:Option Out):Prop:=∃a' s' t u,a<=a'/\a'<=a+(q:Nat)/\tsz t<=z/\tsz u<=z/\o=some (.top,[ke code,vi a',vu s',.tup [tm t,tm u]])
section
variable {code:List Int} (hb:By code)
include hb
end
section
variable {code:List Int} (hb:By code)
include hb
end
section
variable {code:List Int} (hb:By code)
include hb
end
abbrev S3:List (List UInt8):=[[88],[89],[90]]
theorem jvQ:∀t:T,zO t=true->VIn S3 t->Zc t=true:=by
 refine T.ind λt ih hk hv=> ?_;rw [ya] at hk;unfold VIn at hv;rw [kS] at hv;rw [jj1];cases h:jh t.name with
 | true=>
  rw [h,if_pos rfl] at hk hv;have h1:=hv t.name (by simp);have h2:JJ t.name=true:=by
   unfold JJ;simp only [List.mem_cons,List.not_mem_nil,or_false] at h1;rcases h1 with e|e|e<;>rw [e]<;>decide
  rw [h2,List.isEmpty_iff.1 hk];rfl
 | false=>
  rw [h,if_neg Bool.false_ne_true] at hk hv;simp only [Bool.and_eq_true] at hk;have h2:JJ t.name=true:=by unfold JJ;rw [h];rfl
  have h3:∀us:List T,(∀u∈us,u∈t.args)->(∀x∈j8 us,x∈S3)->Jg us=true->qK us=true:=by
   intro us;induction us with
   | nil=>intro _ _ _;rfl
   | cons u us ih2=>
    intro hm hx hk;rw [Jg,Bool.and_eq_true] at hk;rw [j8] at hx;rw [qK,ih u (hm u (by simp)) hk.1 (λx h=>hx x (List.mem_append_left _ h)),ih2 (λv h=>hm v (by simp [h])) (λx h=>hx x (List.mem_append_right _ h)) hk.2];rfl
  rw [h2,h3 t.args (λ_ h=>h) hv hk.2.2];rfl
def GT (N:Nat) (t:T):Prop:=zO t=true/\nodes t<=N/\VIn S3 t
theorem GT.valid {N:Nat} (hN:N<=8) {t:T} (h:GT N t):kQ t=true/\tsz t<=80:=by
 have h1:=jag t h.1;have h2:=jjv t;have h3:=h.2.1;refine ⟨?_,by omega⟩;unfold kQ kG;rw [h.1,decide_eq_true (show nodes t<=30 by omega),decide_eq_true (show qw t<=8 by omega)];rfl
theorem GT.nm {N:Nat} {t:T} (h:GT N t):Zc t=true:=jvQ t h.1 h.2.2
theorem GT.le {M N:Nat} (h:M<=N) {t:T} (ht:GT M t):GT N t:=⟨ht.1,Nat.le_trans ht.2.1 h,ht.2.2⟩
theorem GT.leaf {w:List UInt8} (h:w∈([[88],[89],[90],[97],[98]]:List (List UInt8))):GT 1 (.mk w []):=by
 simp only [List.mem_cons,List.not_mem_nil,or_false] at h;refine ⟨?_,Nat.le_refl _,?_⟩
 ·rcases h with rfl|rfl|rfl|rfl|rfl<;>decide
 ·intro x hx;rw [kS] at hx;rcases h with rfl|rfl|rfl|rfl|rfl<;>simp [jh,YG,KP,T.name,T.args,j8] at hx<;>simp [hx]
theorem GT.app {n:List UInt8} {us:List T} {N:Nat} (hv:jh n=false) (hs:zZ n=true) (hl:us.length<=4) (h:∀u∈us,zO u=true/\VIn S3 u) (hN:1+jA us<=N):GT N (.mk n us):=by
 refine ⟨?_,?_,?_⟩
 ·rw [ya];show (if jh n then _ else zZ n && (decide (us.length<=4) && Jg us))=true;rw [hv,if_neg Bool.false_ne_true,hs,decide_eq_true hl,Bool.true_and,Bool.true_and,zG,List.all_eq_true];exact λu hu=>(h u hu).1
 ·rw [jN];exact hN
 ·intro x hx;rw [kS] at hx;have hx:x∈(if jh n then [n] else j8 us):=hx;rw [hv,if_neg Bool.false_ne_true] at hx;have:∀us:List T,(∀u∈us,VIn S3 u)->x∈j8 us->x∈S3:=by
   intro us;induction us with
   | nil=>intro _ h;cases h
   | cons u us ih=>
    intro h hx;rw [j8] at hx;rcases List.mem_append.1 hx with hx|hx
    ·exact h u (by simp) x hx
    ·exact ih (λv hv=>h v (by simp [hv])) hx
  exact this us (λu hu=>(h u hu).2) hx
def GD (code:List Int) (N q:Nat) (a:Int) (o:Option Out):Prop:=∃a' s' t,a<=a'/\a'<=a+(q:Nat)/\GT N t/\o=some (.top,[ke code,vi a',vu s',sv (T.name t),kr (T.args t)])
section
variable {code:List Int} (hb:By code)
include hb
theorem jcK (a s:Int) (h0:0<=a) (h1:a<=1000000000):∃a' s' w,GT 1 (.mk w [])/\a<=a'/\a'<=a+1/\ym (ke code) (vi a) (vu s) [[sv [88]],[sv [89]],[sv [90]],[sv [97]],[sv [98]],[sv [88]],[sv [97]]]=some (.top,[ke code,vi a',vu s',sv w]):=by
 obtain ⟨a',s',w,hw,q1,q2,e⟩:=jlF hb [[88],[89],[90],[97],[98],[88],[97]] (by decide) (by decide) a s h0 h1;refine ⟨a',s',w,GT.leaf ?_,q1,q2,e⟩;simp only [List.mem_cons,List.not_mem_nil,or_false] at hw ⊢;rcases hw with h|h|h|h|h|h|h<;>simp [h]
theorem jeg (qw:Int) (hd:qw<=1) (a s:Int) (h0:0<=a) (h1:a<=999999000):GD code 1 1 a (z8 (vi qw) (ke code) (vi a) (vu s)):=by
 obtain ⟨a1,s1,w,hw,q1,q2,e⟩:=jcK hb a s h0 (by omega);refine ⟨a1,s1,.mk w [],q1,by omega,hw,?_⟩;rw [Ja];simp only [jf,hd,e,List.getElem?_cons_zero,List.getElem?_cons_succ,yf];rfl
theorem jmu (N q:Nat) (d:Nat) (h1d:1<=d) (hd:d<=10) (ih:∀a s:Int,0<=a->a<=999999000->GD code N q a (z8 (vi (d:Nat)) (ke code) (vi a) (vu s))) (hq:q<=300) (a s:Int) (h0:0<=a) (h1:a<=999998000):GD code (2 * N+1) (2 * q+3) a (z8 (vi ((d+1:Nat):Int)) (ke code) (vi a) (vu s)):=by
 have hle:¬((d+1:Nat):Int)<=1:=by omega
 obtain ⟨a1,s1,b1,q1,q2,e1⟩:=JK hb 3 (by decide) (by decide) a s h0 (by omega);cases b1 with
 | true=>
  obtain ⟨a2,s2,w,hw,r1,r2,e⟩:=jcK hb a1 s1 (by omega) (by omega);refine ⟨a2,s2,.mk w [],by omega,by omega,hw.le (by omega),?_⟩;rw [Ja];simp only [jf,hle,e1,e,List.getElem?_cons_zero,List.getElem?_cons_succ,yf];rfl
 | false=>
  obtain ⟨a2,s2,b2,r1,r2,e2⟩:=JK hb 2 (by decide) (by decide) a1 s1 (by omega) (by omega);have c1:ck (((d+1:Nat):Int) - 1)=some (vi (d:Nat)):=by rw [show ((d+1:Nat):Int) - 1=(d:Nat) by omega];exact jH (by omega) (by omega)
  obtain ⟨a3,s3,t3,u1,u2,u3,e3⟩:=ih a2 s2 (by omega) (by omega);cases b2 with
  | true=>
   refine ⟨a3,s3,.mk [102] [t3],by omega,by omega,GT.app (by decide) (by decide) (by simp) (λu hu=> ?_) ?_,?_⟩
   ·simp only [List.mem_singleton] at hu;subst hu;exact ⟨u3.1,u3.2.2⟩
   ·have:=u3.2.1;simp only [jA];omega
   rw [Ja];simp only [jf,hle,e1,e2,c1,e3,List.getElem?_cons_zero,List.getElem?_cons_succ,yf];rw [<-jse];rfl
  | false=>
   obtain ⟨a4,s4,t4,v1,v2,v3,e4⟩:=ih a3 s3 (by omega) (by omega);refine ⟨a4,s4,.mk [103] [t3,t4],by omega,by omega,GT.app (by decide) (by decide) (by simp) (λu hu=> ?_) ?_,?_⟩
   ·simp only [List.mem_cons,List.not_mem_nil,or_false] at hu;rcases hu with rfl|rfl
    ·exact ⟨u3.1,u3.2.2⟩
    ·exact ⟨v3.1,v3.2.2⟩
   ·have:=u3.2.1;have:=v3.2.1;simp only [jA];omega
   rw [Ja];simp only [jf,hle,e1,e2,c1,e3,e4,List.getElem?_cons_zero,List.getElem?_cons_succ,yf];rw [<-jku];rfl
theorem J3 (a s:Int) (h0:0<=a) (h1:a<=999998000):GD code 3 5 a (z8 (vi 2) (ke code) (vi a) (vu s)):=
 jmu hb 1 1 1 (by decide) (by decide) (λa s h0 h1=>jeg hb 1 (by decide) a s h0 h1) (by decide) a s h0 h1
theorem jmt (a s:Int) (h0:0<=a) (h1:a<=999997000):GD code 7 13 a (z8 (vi 3) (ke code) (vi a) (vu s)):=by
 obtain ⟨a1,s1,b1,q1,q2,e1⟩:=JK hb 3 (by decide) (by decide) a s h0 (by omega);have hle:¬(3:Int)<=1:=by decide
 cases b1 with
 | true=>
  obtain ⟨a2,s2,w,hw,r1,r2,e⟩:=jcK hb a1 s1 (by omega) (by omega);refine ⟨a2,s2,.mk w [],by omega,by omega,hw.le (by omega),?_⟩;rw [Ja];simp only [jf,hle,e1,e,List.getElem?_cons_zero,List.getElem?_cons_succ,yf];rfl
 | false=>
  obtain ⟨a2,s2,b2,r1,r2,e2⟩:=JK hb 2 (by decide) (by decide) a1 s1 (by omega) (by omega);have c1:ck ((3:Int) - 1)=some (vi 2):=jH (n:=3 - 1) (by decide) (by decide);obtain ⟨a3,s3,t3,u1,u2,u3,e3⟩:=J3 hb a2 s2 (by omega) (by omega);cases b2 with
  | true=>
   refine ⟨a3,s3,.mk [102] [t3],by omega,by omega,GT.app (by decide) (by decide) (by simp) (λu hu=> ?_) ?_,?_⟩
   ·simp only [List.mem_singleton] at hu;subst hu;exact ⟨u3.1,u3.2.2⟩
   ·have:=u3.2.1;simp only [jA];omega
   rw [Ja];simp only [jf,hle,e1,e2,c1,e3,List.getElem?_cons_zero,List.getElem?_cons_succ,yf];rw [<-jse];rfl
  | false=>
   obtain ⟨a4,s4,t4,v1,v2,v3,e4⟩:=J3 hb a3 s3 (by omega) (by omega);refine ⟨a4,s4,.mk [103] [t3,t4],by omega,by omega,GT.app (by decide) (by decide) (by simp) (λu hu=> ?_) ?_,?_⟩
   ·simp only [List.mem_cons,List.not_mem_nil,or_false] at hu;rcases hu with rfl|rfl
    ·exact ⟨u3.1,u3.2.2⟩
    ·exact ⟨v3.1,v3.2.2⟩
   ·have:=u3.2.1;have:=v3.2.1;simp only [jA];omega
   rw [Ja];simp only [jf,hle,e1,e2,c1,e3,e4,List.getElem?_cons_zero,List.getElem?_cons_succ,yf];rw [<-jku];rfl
end
def ED (code:List Int) (q:Nat) (a:Int) (o:Option Out):Prop:=∃a' s' r,a<=a'/\a'<=a+(q:Nat)/\R3 S3 r/\tsz r<=400/\o=some (.top,[ke code,vi a',vu s',tm r])
section
variable {code:List Int} (hb:By code)
include hb
end
def RT:T:= .mk [61] [.mk [102] [.mk [88] []],.mk [88] []]
def LD (code:List Int) (q:Nat) (a:Int) (o:Option Out):Prop:=∃a' s' rs,a<=a'/\a'<=a+(q:Nat)/\rs.length<=14/\(∀r∈rs,R3 S3 r/\tsz r<=400)/\o=some (.top,[ke code,vi a',vu s',kr rs])
section
variable {code:List Int} (hb:By code)
include hb
end
theorem jrx (a x0 x1 x2 x3 x4:A) (us:List T) (l:List A):hR 2 (a,x0::x1::x2::x3::x4::kr us::l) 5=some (us.map jy):=by simp [hR,kr]
def AD (code:List Int) (q:Nat) (a:Int) (o:Option Out):Prop:=∃a' s' t,a<=a'/\a'<=a+(q:Nat)/\(Bx t/\nodes t<=15/\Zc t=true)/\o=some (.top,[ke code,vi a',vu s',sv (T.name t),kr (T.args t)])
def LV (l:Lt):Prop:=Bx l.2/\nodes l.2<=15/\Zc l.2=true
def LtD (code:List Int) (q:Nat) (a:Int) (o:Option Out):Prop:=∃a' s' l,a<=a'/\a'<=a+(q:Nat)/\LV l/\o=some (.top,[ke code,vi a',vu s',vb (Prod.fst l),sv (T.name (Prod.snd l)),kr (T.args (Prod.snd l))])
theorem GT.two {n:List UInt8} (hn:n = [61]\/zZ n=true) {u v:T} (hu:GT 7 u) (hv:GT 7 v):Bx (.mk n [u,v])/\nodes (.mk n [u,v])<=15/\Zc (.mk n [u,v])=true:=by
 have h1:=hu.2.1;have h2:=hv.2.1;have hk:∀x ∈ [u,v],zO x=true:=λx hx=>by
  simp only [List.mem_cons,List.not_mem_nil,or_false] at hx;rcases hx with rfl|rfl
  ·exact hu.1
  ·exact hv.1
 have hnm:JJ n=true:=by
  rcases hn with rfl|hn
  ·decide
  ·unfold JJ;rw [YA hn];rfl
 refine ⟨?_,by rw [jN];show 1+jA [u,v]<=15;simp only [jA];omega,nm2 hnm hu.nm hv.nm⟩
 rcases hn with hn|hn
 ·exact Or.inl ⟨hn,rfl,hk⟩
 ·refine Or.inr ⟨hn,?_⟩;have hn':jh n=false:=YA hn;rw [ya];show (if jh n then _ else zZ n && (decide ([u,v].length<=4) && Jg [u,v]))=true;rw [hn',if_neg Bool.false_ne_true,hn,zG,List.all_eq_true.2 hk];rfl
theorem GT.one {n:List UInt8} (hn:zZ n=true) {u:T} (hu:GT 7 u):Bx (.mk n [u])/\nodes (.mk n [u])<=15/\Zc (.mk n [u])=true:=by
 have h1:=hu.2.1;have hk:∀x ∈ [u],zO x=true:=λx hx=>by
  simp only [List.mem_cons,List.not_mem_nil,or_false] at hx;rw [hx];exact hu.1
 refine ⟨Or.inr ⟨hn,?_⟩,by rw [jN];show 1+jA [u]<=15;simp only [jA];omega,nm1 (by unfold JJ;rw [YA hn];rfl) hu.nm⟩
 have hn':jh n=false:=YA hn;rw [ya];show (if jh n then _ else zZ n && (decide ([u].length<=4) && Jg [u]))=true;rw [hn',if_neg Bool.false_ne_true,hn,zG,List.all_eq_true.2 hk];rfl
theorem LV.tsz {l:Lt} (h:LV l):tsz l.2<=150:=by have:=h.1.tsz;have:=h.2;omega
theorem LV.tz {l:Lt} (h:LV l):Tz l.2:=by have:=h.tsz;unfold Tz;omega
section
variable {code:List Int} (hb:By code)
include hb
theorem jiJ (a s:Int) (h0:0<=a) (h1:a<=999996000):GD code 7 14 a (JD (ke code) (vi a) (vu s)):=by
 obtain ⟨a1,s1,x,q1,q2,x0,x1,e1⟩:=zW hb 3 (by decide) (by decide) a s h0 (by omega);have c1:ck (1+x)=some (vi (1+x)):=jH (by omega) (by omega);have key:GD code 7 13 a1 (z8 (vi (1+x)) (ke code) (vi a1) (vu s1)):=by
  by_cases y0:x=0
  ·subst y0;obtain ⟨a2,s2,t,r1,r2,r3,e⟩:=jeg hb (1+0) (by decide) a1 s1 (by omega) (by omega);exact ⟨a2,s2,t,r1,by omega,r3.le (by decide),e⟩
  by_cases y1:x=1
  ·subst y1;obtain ⟨a2,s2,t,r1,r2,r3,e⟩:=J3 hb a1 s1 (by omega) (by omega);exact ⟨a2,s2,t,r1,by omega,r3.le (by decide),e⟩
  ·have:x=2:=by omega
   subst this;exact jmt hb a1 s1 (by omega) (by omega)
 obtain ⟨a2,s2,t,r1,r2,r3,e2⟩:=key;refine ⟨a2,s2,t,by omega,by omega,r3,?_⟩;rw [joe];simp only [jf,e1,c1,e2,List.getElem?_cons_zero,List.getElem?_cons_succ,yf]
theorem jod (a s:Int) (h0:0<=a) (h1:a<=999990000):AD code 40 a (jnW (ke code) (vi a) (vu s)):=by
 obtain ⟨a1,s1,x,q1,q2,x0,x1,e1⟩:=zW hb 8 (by decide) (by decide) a s h0 (by omega);obtain ⟨a2,s2,t2,r1,r2,r3,e2⟩:=jiJ hb a1 s1 (by omega) (by omega);obtain ⟨a3,s3,t3,u1,u2,u3,e3⟩:=jiJ hb a2 s2 (by omega) (by omega);obtain ⟨a4,s4,t4,v1,v2,v3,e4⟩:=J3 hb a1 s1 (by omega) (by omega);obtain ⟨a5,s5,t5,w1,w2,w3,e5⟩:=J3 hb a4 s4 (by omega) (by omega);have v3:=v3.le (N:=7) (by decide);have w3:=w3.le (N:=7) (by decide);rw [jvm];by_cases y0:x=0
 ·subst y0;refine ⟨a3,s3,.mk [61] [t2,t3],by omega,by omega,GT.two (Or.inl rfl) r3 u3,?_⟩;simp only [jf,e1,e2,e3,List.getElem?_cons_zero,List.getElem?_cons_succ,yf];rw [<-jku];rfl
 by_cases y1:x=1
 ·subst y1;refine ⟨a3,s3,.mk [61] [t2,t3],by omega,by omega,GT.two (Or.inl rfl) r3 u3,?_⟩;simp only [jf,e1,e2,e3,List.getElem?_cons_zero,List.getElem?_cons_succ,yf];rw [<-jku];rfl
 by_cases y2:x=2
 ·subst y2;refine ⟨a1,s1,.mk [114] [],by omega,by omega,⟨Or.inr ⟨by decide,by decide⟩,by decide,by decide⟩,?_⟩;simp only [jf,e1,List.getElem?_cons_zero,List.getElem?_cons_succ,yf];rfl
 by_cases y3:x=3
 ·subst y3;refine ⟨a5,s5,.mk [113] [t4,t5],by omega,by omega,GT.two (Or.inr (by decide)) v3 w3,?_⟩;simp only [jf,e1,e4,e5,List.getElem?_cons_zero,List.getElem?_cons_succ,yf];rw [<-jku];rfl
 by_cases y4:x=4
 ·subst y4;refine ⟨a5,s5,.mk [113] [t4,t5],by omega,by omega,GT.two (Or.inr (by decide)) v3 w3,?_⟩;simp only [jf,e1,e4,e5,List.getElem?_cons_zero,List.getElem?_cons_succ,yf];rw [<-jku];rfl
 ·refine ⟨a4,s4,.mk [112] [t4],by omega,by omega,GT.one (by decide) v3,?_⟩;simp only [jf,e1,y0,y1,y2,y3,y4,e4,List.getElem?_cons_zero,List.getElem?_cons_succ,yf];rw [<-jse];rfl
theorem jcL (a s:Int) (h0:0<=a) (h1:a<=999980000):LtD code 41 a (jkF (ke code) (vi a) (vu s)):=by
 obtain ⟨a1,s1,b,q1,q2,e1⟩:=JK hb 2 (by decide) (by decide) a s h0 (by omega);obtain ⟨a2,s2,t,r1,r2,r3,e2⟩:=jod hb a1 s1 (by omega) (by omega);refine ⟨a2,s2,(b,t),by omega,by omega,r3,?_⟩;rw [jvp];simp only [jf,e1,e2,List.getElem?_cons_zero,List.getElem?_cons_succ,yf]
end
theorem YZ (ls:List Lt) (l:Lt):kM (ls.map jC) [jC l]=(ls++[l]).map jC:=by rw [List.map_append];rfl
def LsD (code:List Int) (m q:Nat) (a:Int) (o:Option Out):Prop:=∃a' s' ls,a<=a'/\a'<=a+(q:Nat)/\List.length ls<=m/\(∀l∈ls,LV l)/\o=some (.top,[ke code,vi a',vu s',.sl 3 (List.map jC ls)])
section
variable {code:List Int} (hb:By code)
include hb
theorem jmI:∀(k:Nat) (ls:List Lt),ls.length+k<=10->(∀l∈ls,LV l)-> ∀a s:Int,0<=a->a<=999970000 - 41 * (k:Nat)->LsD code (ls.length+k+1) (41 * k+2) a (Zz (vi (k:Nat)) (ke code) (vi a) (vu s) (ls.map jC)):=by
 intro k;induction k with
 | zero=>
  intro ls hl hls a s h0 h1;have hgt:¬(0:Int) < ((0:Nat):Int):=by decide
  by_cases hp:0 < ls.length
  ·have hp':(0:Int) < ((ls.length:Nat):Int):=by omega
   obtain ⟨a1,s1,b,q1,q2,e1⟩:=JK hb 8 (by decide) (by decide) a s h0 (by omega);cases b with
   | false=>
    refine ⟨a1,s1,ls,q1,by omega,by omega,hls,?_⟩;rw [jbB];simp only [jf,hgt,hp',e1,List.getElem?_cons_zero,List.getElem?_cons_succ]
   | true=>
    obtain ⟨a2,s2,x,r1,r2,x0,x1,e2⟩:=zW hb ((ls.length:Nat):Int) (by omega) (by omega) a1 s1 (by omega) (by omega);obtain ⟨i,rfl⟩:∃i:Nat,x=(i:Nat):=⟨x.toNat,by omega⟩;have hi:i < ls.length:=by omega
    have i1:Z7 ls.length (vi ((i:Nat):Int))=some i:=yb hi;have i2:=QC hi;have hv:=hls _ (List.getElem_mem hi);generalize ls[i]=y at i2 hv;have o1:=jf9 y.2 (by have:=hv.tsz;omega);have o1:G 102 [.agg [sv y.2.name,kr y.2.args]]=some (.agg [sv y.2.name,kr y.2.args],[]):=o1;have f1:jO (ls.length+1) 48=true:=jc7 (by omega);refine ⟨a2,s2,ls++[(!y.1,y.2)],by omega,by omega,by rw [List.length_append,List.length_singleton];omega,λl h=> ?_,?_⟩
    ·rcases List.mem_append.1 h with h|h
     ·exact hls l h
     ·rw [List.mem_singleton.1 h];exact hv
    rw [<-YZ];rw [jbB];have i2:yh (ls.map jC) i 0 3=some (.agg [vb y.1,sv y.2.name,kr y.2.args]):=i2;have rl:jw (ls.map jC)=ls.length:=by unfold jw;exact List.length_map ..
    simp only [jf,hgt,hp',e1,e2,i1,i2,o1,List.getElem?_cons_zero,List.getElem?_cons_succ];generalize hB:kT _ _ _=B;have hB':B=some (.agg [vb (!y.1),sv y.2.name,kr y.2.args]):=by rw [<-hB];kernel_rfl
    rw [hB'];simp only [jf,f1]
  ·have hp':¬(0:Int) < ((ls.length:Nat):Int):=by omega
   refine ⟨a,s,ls,by omega,by omega,by omega,hls,?_⟩;rw [jbB];simp only [jf,hgt,hp',List.getElem?_cons_zero,List.getElem?_cons_succ]
 | succ k ih=>
  intro ls hl hls a s h0 h1;have hgt:(0:Int) < ((k+1:Nat):Int):=by omega
  have c1:ck (((k+1:Nat):Int) - 1)=some (vi (k:Nat)):=by rw [show ((k+1:Nat):Int) - 1=(k:Nat) by omega];exact jH (by omega) (by omega)
  obtain ⟨a1,s1,l,q1,q2,hv,e1⟩:=jcL hb a s h0 (by omega);have f1:jO (ls.length+1) 48=true:=jc7 (by omega);obtain ⟨a2,s2,us,r1,r2,r3,r4,e2⟩:=ih (ls++[l]) (by rw [List.length_append,List.length_singleton];omega) (λy h=>by
   rcases List.mem_append.1 h with h|h
   ·exact hls y h
   ·rw [List.mem_singleton.1 h];exact hv) a1 s1 (by omega) (by omega)
  rw [<-YZ] at e2;rw [List.length_append,List.length_singleton] at r3;refine ⟨a2,s2,us,by omega,by omega,by omega,r4,?_⟩;rw [jbB];have e2:Zz (vi (k:Nat)) (ke code) (vi a1) (vu s1) (kM (ls.map jC) [[vb l.1,sv l.2.name,kr l.2.args]])=_:=e2;simp only [jf,hgt,e1,f1,c1,e2,List.getElem?_cons_zero,List.getElem?_cons_succ,jrx]
theorem jhI (m:Nat) (hm:m<=9) (a s:Int) (h0:0<=a) (h1:a<=999960000):LsD code (m+1) 500 a (jkG (vi (m:Nat)) (ke code) (vi a) (vu s)):=by
 have c1:ck (((m:Nat):Int)+1)=some (vi ((m:Nat)+1)):=jH (by omega) (by omega);obtain ⟨a1,s1,x,q1,q2,x0,x1,e1⟩:=zW hb (((m:Nat):Int)+1) (by omega) (by omega) a s h0 (by omega);obtain ⟨k,rfl⟩:∃k:Nat,x=(k:Nat):=⟨x.toNat,by omega⟩;obtain ⟨a2,s2,ls,r1,r2,r3,r4,e2⟩:=jmI hb k [] (by rw [List.length_nil];omega) (λl h=>by cases h) a1 s1 (by omega) (by omega);rw [List.length_nil] at r3;refine ⟨a2,s2,ls,by omega,by omega,by omega,r4,?_⟩;have e2:Zz (vi (k:Nat)) (ke code) (vi a1) (vu s1) []=_:=e2;rw [jvs];simp only [jf,c1,e1,e2,List.getElem?_cons_zero,List.getElem?_cons_succ]
end
end Go.Proofs.YtdbgbieenhcldaaGreatDoor
