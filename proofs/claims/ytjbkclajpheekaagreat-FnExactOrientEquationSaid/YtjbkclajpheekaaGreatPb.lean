/- Pb -/
import Derived.Test.YtjbkclajpheekaaGreatPa
import Derived.Test.YtjbkclajpheekaaGreatSn
import Derived.Shelf.Sort.Plain
import Derived.Shelf.Slices.In.SortNone
import Derived.Test.YtjbkclajpheekaaGreatRows
import Derived.ProofKit
import Derived.SizedLaws
import Derived.Lib.RowBridge
namespace Go.Proofs.YtjbkclajpheekaaGreat
open Go Go.RowKit Go.Proofs.YtjbkclajpheekaaGreat.Abs
set_option linter.unusedSimpArgs false
set_option linter.unusedVariables false
set_option maxHeartbeats 1000000
theorem jsm {n:Nat} (h:n<=4194304):Ji n 40=true:=by
 unfold Ji;exact ZO ⟨by omega,by omega⟩
theorem jhW (t:T):tsz t<=1048576->G 27 [tm t]=some (tm t,[]):=by
 refine T.ind (p:=λt=>tsz t<=1048576->G 27 [tm t]=some (tm t,[])) ?_ t;intro t ih h;rw [zH] at h;have key:=(upto (P:=λi=>jiB (vi i) (sv t.name) (zl t.args) (sv []) (sv t.name) [] ((t.args.take i).map jm)=some (tm t,[])) (n:=t.args.length) ?_ ?_ 0 (zZ _))
 ·rw [g27];simp only [ya,jm4,jfk] at key;simp only [jr,key]
 ·rw [joI,jrm];simp only [jr]
 ·intro i hi ih';have hlt:(i:Int) < ((t.args.length:Nat):Int):=by omega
  have h5:=jB hi (by show t.args.length<=9223372036854775807;omega)
  have e1:=ih t.args[i] (zf _) (by have:=zW (zf hi);omega)
  have hf:Ji (i+1) 40=true:=jsm (by omega);have hl:((t.args.take i).map jm).length=i:=by rw [jdj,jfv];omega
  have ha:Kb ((t.args.take i).map jm) [[sv t.args[i].name,zl t.args[i].args]]=(t.args.take (i+1)).map jm:=by
   rw [show [sv t.args[i].name,zl t.args[i].args]=jm t.args[i] from (kA _).symm,jsM,jL hi,jaP];rfl
  rw [joI];simp only [jr,hlt,jb hi,jg,e1,hl,hf,ha,h5,ih',jfv,jfr (jef hi)]
theorem jjw (o:Ord') (s t:T):kz o s t=0↔rk o s=rk o t/\s.args.length=t.args.length:=by
 unfold kz KN;constructor
 ·intro h;split at h
  ·rename_i h1;refine ⟨h1,?_⟩;split at h
   ·omega
   ·split at h<;>omega
  ·split at h
   ·omega
   ·split at h<;>omega
 ·rintro ⟨h1,h2⟩;rw [jq h1,jp (by omega),jp (by omega)]
theorem jp1 (o:Ord') (s t:T):0 < kz o s t↔rk o t < rk o s\/(rk o s=rk o t/\t.args.length < s.args.length):=by
 unfold kz KN;constructor
 ·intro h;split at h
  ·rename_i h1;right;refine ⟨h1,?_⟩;split at h
   ·omega
   ·split at h<;>omega
  ·left;split at h
   ·omega
   ·split at h<;>omega
 ·rintro (h|⟨h1,h2⟩)
  ·rw [jp (by omega),jp (by omega),jq h];decide
  ·rw [jq h1,jp (by omega),jq (by omega)];decide
theorem jn3 (o:Ord') (s:T):kz o s s=0:=(jjw o s s).2 ⟨rfl,rfl⟩
theorem ji6:∀l:List T,fd l l=none
 | []=>rfl
 | x::l=>by rw [fd,jq (k8.2 rfl),ji6 l]
theorem jfW {R:T->T->Prop} :∀ {l m r:List T} {a b c d:T},(∀x∈l,∀y∈m,∀z∈r,R x y->R y z->R x z)->(∀x∈l,¬R x x)->fd l m=some (a,b)->R a b->fd m r=some (c,d)->R c d-> ∃x z,fd l r=some (x,z)/\R x z
 | [],_,_,_,_,_,_,_,_,h,_,_,_=>by simp [fd] at h
 | _::_,[],_,_,_,_,_,_,_,h,_,_,_=>by simp [fd] at h
 | _::_,_::_,[],_,_,_,_,_,_,_,_,h,_=>by simp [fd] at h
 | x::l,y::m,z::r,a,b,c,d,htr,hir,h1,r1,h2,r2=>by
  rw [fd] at h1 h2 ⊢;by_cases e1:x=y
  ·rw [jq (k8.2 e1)] at h1;by_cases e2:y=z
   ·rw [jq (k8.2 e2)] at h2;rw [jq (k8.2 (e1.trans e2))];exact jfW (λu hu v hv w hw=>htr u (by simp [hu]) v (by simp [hv]) w (by simp [hw])) (λu hu=>hir u (by simp [hu])) h1 r1 h2 r2
   ·rw [jp (λh=>e2 (k8.1 h))] at h2;cases h2;subst e1;rw [jp (λh=>e2 (k8.1 h))];exact ⟨_,_,rfl,r2⟩
  ·rw [jp (λh=>e1 (k8.1 h))] at h1;cases h1;by_cases e2:y=z
   ·subst e2;rw [jp (λh=>e1 (k8.1 h))];exact ⟨_,_,rfl,r1⟩
   ·rw [jp (λh=>e2 (k8.1 h))] at h2;cases h2;have h3:=htr x (by simp) y (by simp) z (by simp) r1 r2;have e3:x≠z:=λe=>by
     subst e;exact hir x (by simp) h3
    rw [jp (λh=>e3 (k8.1 h))];exact ⟨_,_,rfl,h3⟩
def Lp (o:Ord') (s t:T):Prop:=jke o (nodes s+nodes t) s t=true
theorem qh {s a:T} (h:a∈s.args):nodes a < nodes s:=by
 have:=yj h;rw [jS s];omega
def Kp (o:Ord') (s t:T):Prop:=qa o (nodes s+nodes t) s t=true
theorem Yw (o:Ord'):∀(n m:Nat) (s t:T),nodes s+nodes t<=n->nodes s+nodes t<=m->qa o n s t=qa o m s t
 | 0,_,s,t,h,_=>by have:=qp s;omega
 | _+1,0,s,t,_,h=>by have:=qp s;omega
 | n+1,m+1,s,t,h1,h2=>by
  rw [qa,qa];cases hf:fd s.args t.args with
  | none=>rfl
  | some p=>
   obtain ⟨a,b⟩:=p;have hm:=jeC hf;have h3:=qh hm.1;have h4:=qh hm.2;simp only [Yw o n m a b (by omega) (by omega)]
theorem jek (o:Ord') (s t:T):Kp o s t↔bal s t=true/\(wt o t < wt o s\/(wt o s=wt o t/\(kS s.name=false/\kS t.name=false)/\(0 < kz o s t\/(kz o s t=0/\ ∃a b,fd s.args t.args=some (a,b)/\Kp o a b)))):=by
 unfold Kp;obtain ⟨n,hn⟩:∃n,nodes s+nodes t=n+1:=⟨nodes s+nodes t - 1,by have:=qp s;omega⟩;rw [hn,qa];have e3:(match fd s.args t.args with|some (a,b)=>qa o n a b|none=>false)=true↔ ∃a b,fd s.args t.args=some (a,b)/\qa o (nodes a+nodes b) a b=true:=by
  cases hf:fd s.args t.args with
  | none=>simp
  | some p=>
   obtain ⟨a,b⟩:=p;have hm:=jeC hf;have h3:=qh hm.1;have h4:=qh hm.2;dsimp only;rw [Yw o n (nodes a+nodes b) a b (by omega) (jV _)];constructor
   ·intro h;exact ⟨a,b,rfl,h⟩
   ·rintro ⟨a',b',h,h'⟩;cases h;exact h'
 cases hb:bal s t
 ·simp
 ·rw [jq rfl];simp only [true_and];by_cases hw:wt o s=wt o t
  ·rw [jq hw];have hw':¬wt o t < wt o s:=by omega
   cases hv:kS s.name
   ·cases hv2:kS t.name
    ·simp only [Bool.or_self,ZP,KC,true_and,and_self];by_cases hr:kz o s t=0
     ·rw [jq hr];refine Iff.trans e3 ?_;constructor
      ·intro h;exact Or.inr ⟨hw,Or.inr ⟨hr,h⟩⟩
      ·rintro (h|⟨_,h|⟨_,h⟩⟩)
       ·exact (hw' h).elim
       ·omega
       ·exact h
     ·rw [jp hr,jfs];constructor
      ·intro h;exact Or.inr ⟨hw,Or.inl h⟩
      ·rintro (h|⟨_,h|⟨h,_⟩⟩)
       ·exact (hw' h).elim
       ·exact h
       ·exact (hr h).elim
    ·simp [hw']
   ·simp [hw']
  ·rw [jp hw,jfs];constructor
   ·intro h;exact Or.inl h
   ·rintro (h|⟨h,_⟩)
    ·exact h
    ·exact (hw h).elim
theorem jg8 {n:List UInt8} (hn:kS n=true):∀t:T,KW t=true->(n∈Ja t↔1<=cnt n t):=by
 refine T.ind λt ih hk=> ?_;have hL:∀ts:List T,(∀u∈ts,(n∈Ja u↔1<=cnt n u))->(n∈zI ts↔1<=JR n ts):=by
  intro ts;induction ts with
  | nil=>intro _;simp [zI,JR]
  | cons u us ih2=>
   intro h;have h1:=h u (by simp);have h2:=ih2 λv hv=>h v (by simp [hv]);simp only [zI,JR,kH,h1,h2];omega
 have hargs:=hL t.args λu hu=>ih u hu (yV hk u hu);rw [QC,jeA];rw [YB] at hk;cases hv:kS t.name
 ·have hne:t.name≠n:=λe=>by rw [e,hn] at hv;cases hv
  rw [jp jcV,jp hne,hargs];omega
 ·rw [hv,jq rfl] at hk;have ha:=jfl.1 hk;rw [jq rfl,jR,ha];by_cases e:t.name=n
  ·rw [jq e];simp [JR,e]
  ·rw [jp e];simp [JR];exact λh=>e h.symm
theorem jmU {n:List UInt8} :∀t:T,n∈Ja t->kS n=true:=by
 refine T.ind λt ih h=> ?_;rw [QC] at h;cases hv:kS t.name
 ·rw [hv,jp jcV] at h;have:∀ts:List T,(∀u∈ts,n∈Ja u->kS n=true)->n∈zI ts->kS n=true:=by
   intro ts;induction ts with
   | nil=>intro _ h;simp [zI] at h
   | cons u us ih2=>
    intro h h2;simp only [zI,kH] at h2;rcases h2 with h2|h2
    ·exact h u (by simp) h2
    ·exact ih2 (λv hv=>h v (by simp [hv])) h2
  exact this t.args ih h
 ·rw [hv,jq rfl,jR] at h;rw [h];exact hv
theorem jnl {s t:T} :bal s t=true↔ ∀n∈Ja t,cnt n t<=cnt n s:=by
 unfold bal;rw [qg];simp
theorem jjU {s t u:T} (kt:KW t=true) (ku:KW u=true) (h1:bal s t=true) (h2:bal t u=true):bal s u=true:=by
 rw [jnl] at *;intro n hn;have hv:=jmU u hn;have c1:=(jg8 hv u ku).1 hn;have c2:=h2 n hn;have c3:=h1 n ((jg8 hv t kt).2 (by omega));omega
theorem jhh (o:Ord') (x:T):¬Kp o x x:=by
 intro h;obtain ⟨_,h|⟨_,_,h|⟨_,_,_,h,_⟩⟩⟩:=(jek o x x).1 h
 ·omega
 ·rw [jn3] at h;omega
 ·rw [ji6] at h;cases h
theorem jlQ (o:Ord'):∀N s t u,nodes s+nodes t+nodes u<=N->KW s=true->KW t=true->KW u=true->Kp o s t->Kp o t u->Kp o s u:=by
 intro N;induction N with
 | zero=>intro s _ _ h;have:=qp s;omega
 | succ N ih=>
  intro s t u hN ks kt ku h1 h2;obtain ⟨b1,c1⟩:=(jek o s t).1 h1;obtain ⟨b2,c2⟩:=(jek o t u).1 h2;refine (jek o s u).2 ⟨jjU kt ku b1 b2,?_⟩;rcases c1 with c1|⟨w1,v1,r1⟩
  ·left;rcases c2 with c2|⟨w2,_⟩<;>omega
  ·rcases c2 with c2|⟨w2,v2,r2⟩
   ·left;omega
   ·right;refine ⟨by omega,⟨v1.1,v2.2⟩,?_⟩;rw [jp1,jjw] at *;rcases r1 with r1|⟨r1,a,b,hf,hL⟩
    ·left;rcases r2 with r2|⟨r2,_⟩<;>omega
    ·rcases r2 with r2|⟨r2,a',b',hf2,hL2⟩
     ·left;omega
     ·right;refine ⟨⟨by omega,by omega⟩,?_⟩;exact jfW (R:=Kp o) (λx hx y hy z hz q1 q2=>by
       have n1:=qh hx;have n2:=qh hy;have n3:=qh hz;exact ih x y z (by omega) (yV ks x hx) (yV kt y hy) (yV ku z hz) q1 q2) (λx _=>jhh o x) hf hL hf2 hL2
theorem jk7 {o:Ord'} {s t u:T} (ks:KW s=true) (kt:KW t=true) (ku:KW u=true) (h1:Kp o s t) (h2:Kp o t u):Kp o s u:=jlQ o _ s t u (jV _) ks kt ku h1 h2
theorem QT (o:Ord') (s t:T):kW o s t=Yc (dq s t) (@decide (Kp o s t) (Classical.propDecidable _)) (@decide (Kp o t s) (Classical.propDecidable _)):=by
 have e1:qa o (nodes s+nodes t) s t = @decide (Kp o s t) (Classical.propDecidable _):=by
  unfold Kp;cases qa o (nodes s+nodes t) s t<;>simp
 have e2:qa o (nodes s+nodes t) t s = @decide (Kp o t s) (Classical.propDecidable _):=by
  rw [Yw o (nodes s+nodes t) (nodes t+nodes s) t s (by omega) (jV _)];unfold Kp;cases qa o (nodes t+nodes s) t s<;>simp
 unfold kW;rw [e1,e2]
def rbI (c:Int):Int:=if c=2 then 3 else if c=3 then 2 else c
open Classical in
theorem jj0 {R:T->T->Prop} {s t:T} (h:¬(R s t/\R t s)):Yc (dq t s) (decide (R t s)) (decide (R s t))=rbI (Yc (dq s t) (decide (R s t)) (decide (R t s))):=by
 have e:dq t s=dq s t:=by
  rw [Bool.eq_iff_iff,k8,k8];exact ⟨Eq.symm,Eq.symm⟩
 rw [e];unfold Yc rbI;cases dq s t
 ·by_cases h1:R s t
  ·have h2:¬R t s:=λh2=>h ⟨h1,h2⟩;simp [h1,h2]
  ·by_cases h2:R t s<;>simp [h1,h2]
 ·simp
open Classical in
theorem jlr {R:T->T->Prop} {s t:T} (hir:∀x,¬R x x):Yc (dq s t) (decide (R s t)) (decide (R t s))=2↔R s t:=by
 unfold Yc;cases hd:dq s t
 ·by_cases h1:R s t
  ·simp [h1]
  ·by_cases h2:R t s<;>simp [h1,h2]
 ·have:=k8.1 hd;subst this;simp [hir s]
theorem jlP {o:Ord'} {s t:T} (ks:KW s=true) (kt:KW t=true):kW o t s=rbI (kW o s t):=by
 rw [QT,QT];exact jj0 (R:=Kp o) λ⟨h1,h2⟩=>jhh o s (jk7 ks kt ks h1 h2)
theorem jje (o:Ord') (s t:T):kW o s t=2↔Kp o s t:=by
 rw [QT];exact jlr (R:=Kp o) (jhh o)
theorem Qa (s:List UInt8):kY (sv s)=true:=rfl
theorem jlF (b:Bool):kY (vb b)=true:=rfl
theorem jhs (ts:List T) (hl:ts.length<=1048576) (ih:∀t∈ts,jdk (tm t)=some (.top,[sv t.name,.sl 66 (t.args.map jm)])):jk3 (zl ts)=some (.top,[.sl 66 (ts.map jm)]):=by
 by_cases h0:ts.length=0
 ·have:ts = []:=JN h0;subst this;have hz:(((0:Nat):Int)=0)=True:=by simp
  rw [joy];simp only [jr,jfk,hz]
 have hn:¬(((ts.length:Nat):Int)=0):=by omega
 have key:=(upto (P:=λi=>ja8 (zl ts) (vi (ts.length:Nat)) (vi i) (part jm [sv [],.sl 2 []] ts i)=some (.top,[.sl 66 (ts.map jm)])) (n:=ts.length) ?_ ?_ 0 (zZ _))
 ·rw [joy];have hm:=ZZ (b:=40) (n:=ts.length) (by omega) hl;simp only [ya,<-Z1] at key;simp only [jr,hn,hm,key]
 ·rw [jjn,Qs];simp only [jr]
 ·intro i hi ih';have h1:=JZ (f:=jm) (z:=[sv [],.sl 2 []]) (jef hi);have h2:pIx (part jm [sv [],.sl 2 []] ts i).length (vi i)=some i:=YE (by omega);have h4:=Qu (f:=jm) (z:=[sv [],.sl 2 []]) hi;rw [kA] at h4;have h5:=jB hi (zK hl (by decide));have e1:=ih ts[i] (zf _);rw [jjn];simp only [jr,hi,Int.ofNat_lt,jb hi,jg,e1,Ze,Qi,Qa,h2,Qt hi,jey,h4,h5,ih']
theorem jqM (t:T):tsz t<=1048576->jdk (tm t)=some (.top,[sv t.name,.sl 66 (t.args.map jm)]):=by
 refine T.ind (p:=λt=>tsz t<=1048576->jdk (tm t)=some (.top,[sv t.name,.sl 66 (t.args.map jm)])) ?_ t;intro t ih h;rw [zH] at h;have e:=jhs t.args (by omega) λu hu=>ih u hu (by have:=zW hu;omega);rw [jqI];simp only [jr,e]
noncomputable def jbh (o:Ord') (t:T):A:=if kL o && Zm o t then .tup [if kW o (kT t) (ze t)=3 then .agg [sv t.name,zl [ze t,kT t]] else tm t,vb (decide (kW o (kT t) (ze t)=3) || decide (kW o (kT t) (ze t)=2)),vb true] else .tup [.agg [sv [],.sl 2 []],vb false,vb false]
theorem Jc {t u:T} (h:u∈t.args) (hs:tsz t<=1048576):tsz u<=1048576:=by
 have:=zW h;rw [zH] at hs;omega
theorem jfi:∀t:T,tsz t<=1048576->qB t:=by
 refine T.ind λt ih h=> ?_;have h':=h;rw [zH] at h';exact (j5 t).2 ⟨by omega,by omega,(jC _).2 λu hu=>ih u hu (Jc hu h)⟩
theorem cg2 (a b:A):jc [a,b] 0=a/\jc [a,b] 1=b:=⟨rfl,rfl⟩
theorem co1 (a b c:A):kE [a,b] 1 [c] = [a,c]:=rfl
theorem pR2 (xs:List (List A)):qX 2 (.sl 2 xs)=some xs:=rfl
theorem je8 (o:Ord') (t:T) (ho:owf o) (hs:tsz t<=1048576):G 7 [od o,tm t]=some (jbh o t,[]):=by
 have hw:=jfi t hs;have e1:=jkb o ho;have e2:=jdc o t ho hw hs;unfold jbh;rw [g7];cases hv:kL o<;>rw [hv] at e1
 ·rw [jK,jp jcV];simp only [jr,e1,jK]
 cases hx:Zm o t<;>rw [hx] at e2
 ·rw [kM,jp jcV];simp only [jr,e1,e2,kM]
 rw [Kg,jq rfl];obtain ⟨hn,hl,_,k0,k1,v0,v1⟩:=QV hx;obtain ⟨w1,w2,w3⟩:=(j5 t).1 hw;have w3:=(jC _).1 w3;obtain ⟨i0,i1,ma,mb⟩:=Jn hl;have e3:=jb4 hv ho.1.2 _ _ _ (jV _) (w3 _ ma) (w3 _ mb) (Jc ma hs) (Jc mb hs) v0 v1;have e4:=jb4 hv ho.1.2 _ _ _ (jV _) (w3 _ mb) (w3 _ ma) (Jc mb hs) (Jc ma hs) v1 v0;have o0:=jhW (kT t) (Jc ma hs);have o1:=jhW (ze t) (Jc mb hs);have ot:=jhW t hs;have b1:kW o (kT t) (ze t)=2↔qa o (nodes (kT t)+nodes (ze t)) (kT t) (ze t)=true:=jje o (kT t) (ze t);have b2:kW o (ze t) (kT t)=2↔qa o (nodes (ze t)+nodes (kT t)) (ze t) (kT t)=true:=jje o (ze t) (kT t);have b3:kW o (ze t) (kT t)=2↔kW o (kT t) (ze t)=3:=by
  rw [jlP (o:=o) k0 k1];unfold rbI;by_cases h2:kW o (kT t) (ze t)=2
  ·rw [jq h2,h2];decide
  by_cases h3:kW o (kT t) (ze t)=3
  ·rw [jp h2,jq h3,h3];decide
  ·rw [jp h2,jp h3];exact ⟨λh=>absurd h h2,λh=>absurd h h3⟩
 cases hk:qa o (nodes (ze t)+nodes (kT t)) (ze t) (kT t)<;>rw [hk] at e4
 ·have h3:¬kW o (kT t) (ze t)=3:=λh=>by
   have:=b2.1 (b3.2 h);rw [hk] at this;cases this
  have h2:decide (kW o (kT t) (ze t)=2)=qa o (nodes (kT t)+nodes (ze t)) (kT t) (ze t):=by
   cases h:qa o (nodes (kT t)+nodes (ze t)) (kT t) (ze t) with
   | true=>exact ZO (b1.2 h)
   | false=>exact jee λhh=>by have:=b1.1 hh;rw [h] at this;cases this
  rw [jp h3,jee h3,jZ,h2];simp only [jr,e1,e2,hl,i0,i1,jg,e3,e4,ot,Kg]
 ·have h3:kW o (kT t) (ze t)=3:=b3.1 (b2.2 hk);rw [jq h3,ZO h3,zB,hn];have q:(zl [ze t,kT t]:A) = .sl 2 [[sv (ze t).name,zl (ze t).args],[sv (kT t).name,zl (kT t).args]]:=by
   show A.sl 2 [jm _,jm _]=_;rw [kA,kA]
  rw [q];simp only [jr,e1,e2,hl,i0,i1,jg,e3,e4,o0,o1,Kg]
noncomputable def oT (o:Ord') (t:T):T:=if kL o && Zm o t then (if kW o (kT t) (ze t)=3 then .mk t.name [ze t,kT t] else t) else .mk [] []
noncomputable def oG (o:Ord') (t:T):Bool:=(kL o && Zm o t) && (decide (kW o (kT t) (ze t)=3) || decide (kW o (kT t) (ze t)=2))
theorem jhU (o:Ord') (t:T):jbh o t = .tup [tm (oT o t),vb (oG o t),vb (kL o && Zm o t)]:=by
 unfold jbh oT oG;cases kL o && Zm o t with
 | false=>rfl
 | true=>
  rw [jq rfl,jq rfl,jQ];by_cases h3:kW o (kT t) (ze t)=3
  ·rw [jq h3,jq h3];rfl
  ·rw [jp h3,jp h3]
theorem jq2 (o:Ord') (t:T) (hs:tsz t<=1048576):tsz (oT o t)<=1048576:=by
 unfold oT;split
 ·rename_i h;split
  ·rw [js] at h;have hl:=(QV h.2).2.1;obtain ⟨n,us⟩:=t
   match us,hl with
   | [a,b],_=>
    have hs:n.length+2+(tsz a+(tsz b+0))<=1048576:=hs;show n.length+2+(tsz b+(tsz a+0))<=1048576;omega
  ·exact hs
 ·decide
theorem jeF (o:Ord') (t:T) (ho:owf o) (hs:tsz t<=1048576):jiy (od o) (tm t)=some (.top,[sv (oT o t).name,vb (oG o t),vb (kL o && Zm o t),.sl 66 ((oT o t).args.map jm)]):=by
 have hw:=jfi t hs;have q0:=Ka t;have q1:=Yu o ho;unfold oT oG;by_cases he:t.name = [61];rotate_left
 ·rw [jee he] at q0;have hx:Zm o t=false:=by unfold Zm;rw [jee he];rfl
  rw [jfN,hx,kM,jp jcV];simp only [jr,q0];rfl
 rw [ZO he] at q0;cases hv:kL o<;>rw [hv] at q1
 ·rw [jfN,jK,jp jcV];simp only [jr,q0,q1];rfl
 have q2:=jbK o t ho hw hs he;cases hx:Zm o t<;>rw [hx] at q2
 ·rw [jfN,kM,jp jcV];simp only [jr,q0,q1,q2];rfl
 obtain ⟨_,hl,_,k0,k1,v0,v1⟩:=QV hx;obtain ⟨w1,w2,w3⟩:=(j5 t).1 hw;have w3:=(jC _).1 w3;obtain ⟨i0,i1,ma,mb⟩:=Jn hl;have q3:=jaU hv (kT t) (ze t) ho (w3 _ ma) (Jc ma hs) (w3 _ mb) (Jc mb hs) k0 k1 v0 v1;have q4:=jqM t hs;have ha:t.args = [kT t,ze t]:=by
  unfold kT ze
  match t.args,hl with
  | [a,b],_=>rfl
 rw [Kg,jq rfl,jQ];generalize kW o (kT t) (ze t)=x at *;generalize kT t=a at *;generalize ze t=b at *;by_cases h3:x=3;rotate_left
 ·rw [jfN,jp h3];simp only [jr,q0,q1,q2,q4,Ze,Qa,i0,i1,jg,q3,h3,jZ]
 ·rw [jq h3];subst h3;have m0:t.args.map jm = [[sv a.name,zl a.args],[sv b.name,zl b.args]]:=by rw [ha,<-kA,<-kA];rfl
  have m1: [b,a].map jm = [[sv b.name,zl b.args],[sv a.name,zl a.args]]:=by rw [<-kA,<-kA];rfl
  rw [m0] at q4;show _=some (A.top,[sv t.name,_,_,.sl 66 ([b,a].map jm)]);rw [m1,jfN];have x1:pIx 2 (vi 1)=some 1:=rfl;have x0:pIx 2 (vi 0)=some 0:=rfl;have y0:∀p q:List A,Zy [p,q] 0=some p:=λ_ _=>rfl;have y1:∀p q:List A,Zy [p,q] 1=some q:=λ_ _=>rfl;have s0:∀p q r:List A,zq [p,q] 0 r = [r,q]:=λ_ _ _=>rfl;have s1:∀p q r:List A,zq [p,q] 1 r = [p,r]:=λ_ _ _=>rfl;have n1:pNe 1 0=true:=rfl;have n2:pNe 0 1=true:=rfl;simp only [jr,q0,q1,q2,q4,Ze,Qa,i0,i1,jg,q3,x0,x1,y0,y1,s0,s1,n1,n2,cg2,co1,pR2,Qi,jey,zB]
theorem jdF (t:T) (hw:qB t) (k:Nat) (hk:k+Ki t.args<=100000000):∃us:List T,jbr (sv t.name) (vi (k:Nat)) (t.args.map jm)=some (.top,[vi ((k+Ki t.args:Nat):Int),.sl 66 (us.map jm)])/\G 15 [.agg [sv t.name,zl us],vi (k:Nat)]=some (vi ((k+Ki t.args:Nat):Int),[]):=by
 obtain ⟨us,h1,h2⟩:=jl2 t hw k hk;refine ⟨us,?_,?_⟩
 ·rw [jqD];simp only [jr,h1,Ze]
 ·have h3:¬((k+Ki t.args:Nat):Int) < 0:=by omega
  rw [g15];simp only [jr,h2,h3]
theorem cg3 (a b c:A):jc [a,b,c] 0=a/\jc [a,b,c] 1=b/\jc [a,b,c] 2=c:=⟨rfl,rfl,rfl⟩
theorem jr0 (a b:A):jc [a,b] 0=a/\jc [a,b] 1=b:=⟨rfl,rfl⟩
theorem jjq (t:T):Ki t.args<=tsz t:=by
 have:=jeS t.args;rw [zH];omega
set_option maxRecDepth 4000 in
theorem jhN (o:Ord') (t:T) (ho:owf o) (hw:qB t):G 3 [od o,tm t]=some (vb true,[]):=by
 have e1:=jqa o ho 1048576 (by decide) (by decide);have c1:YD 3 (od o)=some [strs o.syms,ints o.ws,vi o.var]:=rfl;have c2:YD 2 (tm t)=some [sv t.name,.sl 2 (t.args.map jm)]:=rfl;rw [g3];by_cases h1:kG 1048576 ((osz o:Nat):Int) < 0
 ·simp only [jr,c1,c2,cg3,jr0,e1,h1]
 obtain ⟨b1,b2,b3⟩:=jgl (by decide) (by decide) h1;generalize kG 1048576 ((osz o:Nat):Int)=l1 at *;have e2:=jom t hw l1 b1 b2;by_cases h2:kG l1 ((tsz t:Nat):Int) < 0
 ·simp only [jr,c1,c2,cg3,jr0,e1,h1,e2,h2]
 obtain ⟨b4,b5,b6⟩:=jgl b1 b2 h2;generalize kG l1 ((tsz t:Nat):Int)=l2 at *;have a1:=joo o b3;have a2:=jmP t b6;have a3:=je8 o t ho b6;have a4:=jeF o t ho b6;rw [jhU] at a3;have hz:=jq2 o t b6;generalize oT o t=e at *;generalize oG o t=g at *;generalize (kL o && Zm o t)=ok at *;have hwe:=jfi e hz;have a5:=jpD o ho;have a6:=ji5 t hw;have a7:=ji5 e hwe;obtain ⟨X,Y,a8⟩:=jhP o b3;have k1:=jjq t;have k2:=jjq e;have ob:1+o.syms.length+o.ws.length<=1048577:=by unfold osz at b3;omega
 obtain ⟨us,a9,_⟩:=jdF t hw (1+o.syms.length+o.ws.length) (by omega);obtain ⟨vs,a10,a11⟩:=jdF e hwe 1 (by omega);have n1:¬((1+o.syms.length+o.ws.length+Ki t.args:Nat):Int) < 0:=by omega
 have n2:¬((1+Ki e.args:Nat):Int) < 0:=by omega
 have a10:jbr (sv e.name) (vi 1) (e.args.map jm)=_:=a10;have a11:G 15 [.agg [sv e.name,zl vs],vi 1]=_:=a11;have r3:hR 66 (A.top,[sv e.name,vb g,vb ok,.sl 66 (e.args.map jm)]) 3=some (e.args.map jm):=rfl;cases g<;>cases ok<;>simp only [jr,c1,c2,cg3,jr0,e1,h1,e2,h2,a1,a2,a3,a4,r3,a5,a6,a7,a8,a9,a10,a11,Ze,jjP,Qa,jlF,n1,n2]
end Go.Proofs.YtjbkclajpheekaaGreat
namespace Go.Proofs
open Go.Shelf
set_option linter.unusedSimpArgs false
set_option linter.unusedVariables false
def Tryz.lays190_ren:Go.Shelf.Ren:=⟨λ| 190=>117|125=>128|258=>127|128=>141|129=>142|302=>132|303=>133|304=>134|305=>135|306=>136|307=>137|308=>138|309=>139|310=>140|333=>145|329=>146|330=>147|334=>148|335=>149|336=>150|344=>151|n=>n,λ| 31=>22|9=>9|3=>3|46=>119|0=>0|51=>132|53=>134|4=>4|183=>125|182=>124|131=>106|5=>5|218=>139|222=>143|228=>145|229=>146|n=>n,λ| n=>n⟩
theorem Tryz.lays190:Go.Proofs.Lays.n190 Tryz.prog Tryz.lays190_ren:={
 mixed:=by kernel_rfl
 f125:=Tryz.func128.trans (congrArg some (by kernel_rfl))
 f128:=Tryz.func141.trans (congrArg some (by kernel_rfl))
 f129:=Tryz.func142.trans (congrArg some (by kernel_rfl))
 f190:=Tryz.func117.trans (congrArg some (by kernel_rfl))
 f258:=Tryz.func127.trans (congrArg some (by kernel_rfl))
 f302:=Tryz.func132.trans (congrArg some (by kernel_rfl))
 f303:=Tryz.func133.trans (congrArg some (by kernel_rfl))
 f304:=Tryz.func134.trans (congrArg some (by kernel_rfl))
 f305:=Tryz.func135.trans (congrArg some (by kernel_rfl))
 f306:=Tryz.func136.trans (congrArg some (by kernel_rfl))
 f307:=Tryz.func137.trans (congrArg some (by kernel_rfl))
 f308:=Tryz.func138.trans (congrArg some (by kernel_rfl))
 f309:=Tryz.func139.trans (congrArg some (by kernel_rfl))
 f310:=Tryz.func140.trans (congrArg some (by kernel_rfl))
 f329:=Tryz.func146.trans (congrArg some (by kernel_rfl))
 f330:=Tryz.func147.trans (congrArg some (by kernel_rfl))
 f333:=Tryz.func145.trans (congrArg some (by kernel_rfl))
 f334:=Tryz.func148.trans (congrArg some (by kernel_rfl))
 f335:=Tryz.func149.trans (congrArg some (by kernel_rfl))
 f336:=Tryz.func150.trans (congrArg some (by kernel_rfl))
 f344:=Tryz.func151.trans (congrArg some (by kernel_rfl))
 t0:=Tryz.underlying0
 a0:=Tryz.isAgg0
 z0:=Tryz.sizeOf0
 v0:=Tryz.zeroValue0
 t3:=Tryz.underlying3
 a3:=Tryz.isAgg3
 z3:=Tryz.sizeOf3
 v3:=Tryz.zeroValue3
 t4:=Tryz.underlying4
 a4:=Tryz.isAgg4
 z4:=Tryz.sizeOf4
 v4:=Tryz.zeroValue4
 t5:=Tryz.underlying5
 a5:=Tryz.isAgg5
 z5:=Tryz.sizeOf5
 v5:=Tryz.zeroValue5
 t9:=Tryz.underlying9
 a9:=Tryz.isAgg9
 z9:=Tryz.sizeOf9
 v9:=Tryz.zeroValue9
 t31:=Tryz.underlying22
 a31:=Tryz.isAgg22
 z31:=Tryz.sizeOf22
 v31:=Tryz.zeroValue22
 t46:=Tryz.underlying119
 a46:=Tryz.isAgg119
 z46:=Tryz.sizeOf119
 v46:=Tryz.zeroValue119
 t51:=Tryz.underlying132
 a51:=Tryz.isAgg132
 z51:=Tryz.sizeOf132
 v51:=Tryz.zeroValue132
 t53:=Tryz.underlying134
 a53:=Tryz.isAgg134
 z53:=Tryz.sizeOf134
 v53:=Tryz.zeroValue134
 t131:=Tryz.underlying106
 a131:=Tryz.isAgg106
 z131:=Tryz.sizeOf106
 v131:=Tryz.zeroValue106
 t182:=Tryz.underlying124
 a182:=Tryz.isAgg124
 z182:=Tryz.sizeOf124
 v182:=Tryz.zeroValue124
 t183:=Tryz.underlying125
 a183:=Tryz.isAgg125
 z183:=Tryz.sizeOf125
 v183:=Tryz.zeroValue125
 t218:=Tryz.underlying139
 a218:=Tryz.isAgg139
 z218:=Tryz.sizeOf139
 v218:=Tryz.zeroValue139
 t222:=Tryz.underlying143
 a222:=Tryz.isAgg143
 z222:=Tryz.sizeOf143
 v222:=Tryz.zeroValue143
 t228:=Tryz.underlying145
 a228:=Tryz.isAgg145
 z228:=Tryz.sizeOf145
 v228:=Tryz.zeroValue145
 t229:=Tryz.underlying146
 a229:=Tryz.isAgg146
 z229:=Tryz.sizeOf146
 v229:=Tryz.zeroValue146 }
end Go.Proofs
namespace Go.Proofs.YtjbkclajpheekaaGreat
open Go Go.RowKit Go.Sort Go.Proofs.YtjbkclajpheekaaGreat.Abs
set_option linter.unusedSimpArgs false
set_option linter.unusedVariables false
theorem jgZ:Tryz.lays190_ren.f 190=117:=by kernel_rfl
theorem jie (blk off cap:Nat) (ss:List (List UInt8)) (w:World) (hH:Holds encStr w blk off ss.toArray) (hblk:blk < w.heap.size) (hsz:ss.length < 4611686018427387904) :
  Calls Tryz.prog 117 #[.slice (some ⟨blk,off,none⟩) ss.length cap] w λe w'=>e = .returned (.tuple #[])/\ ∃n os,w'=Sort.grow (putRow encStr (Sort.ahead w n) blk off (ss.mergeSort λx y=>decide (x<=y)).toArray) os:=by
 have:=Any.slices_Sort_string Tryz.lays190 blk off cap ss w hH hblk hsz;rw [jgZ] at this;exact this
theorem jgX (p:Option Addr) (cap:Nat) (w:World):Calls Tryz.prog 117 #[.slice p 0 cap] w λe w'=>e = .returned (.tuple #[])/\w'=w:=by
 have:=Any.slices_Sort_string_none Tryz.lays190 p cap w;rw [jgZ] at this;exact this
theorem jgY:Enters Tryz.prog 117:=
 QU Tryz.func117 (jk6.names _ _ Tryz.func117) (Kq rfl)
theorem jpm {X:Ctx} (f:FuncId) (x:ExtV) (args:List V) (objs:List Abs.Obj) (sgs:Sig) (sg:SigA) (qs:List (FuncId × List A)) (outs:List Out) (out:Out) (h1:K.extv f=some x) (h2:K.sig f=some sgs) (h3:Ju objs.length sgs=some sg) (_:x.ask args objs=some qs) (_:jfw X K.P qs outs) (h4:x.ans args objs outs=some out):SOk X K.P f args objs sg out:=by
 have hf:f=117/\x=jmH:=by
  have h1:Zj none f jhw=some x:=h1;unfold jhw at h1;simp only [Zj] at h1;cases hb:Nat.beq f 117 with
  | true=>rw [hb] at h1;cases h1;exact ⟨jx hb,rfl⟩
  | false=>rw [hb] at h1;cases h1
 obtain ⟨rfl,rfl⟩:=hf;have hsg:sgs = [JG]:=by
  have h2:some [JG]=some sgs:=h2;exact (QE h2).symm
 subst hsg;have hsg:sg=JG:=by
  simp only [Ju] at h3;split at h3
  ·exact (QE h3).symm
  ·cases h3
 subst hsg;exact jmI jgY jie jgX h4
theorem jrE {X:Ctx} {f:FuncId} {args:List A} {out:Out} (hs:K.pureF f=true) (h:G f args=some out):J7 X Tryz.prog f args out:=
 jqq jk6 (λf x args out h=>by cases h) jpm f args out hs h
open Go Go.ChangeShapes Go.WideShapes Go.ChangeAt Go.RowKit Go.Proofs.YtjbkclajpheekaaGreat.Abs
theorem Tryz.ownK:ownKnob Tryz.prog.godebug=none:=by kernel_rfl
theorem Tryz.laid:laidOutB Tryz.prog=true:=by kernel_rfl
def Xf:Ctx:=⟨λ_=>True,λ_=>False,λ_ _ _ h=>h⟩
theorem jqp {X:Ctx} {f:FuncId} {args:List A} {a:A} (hs:K.pureF f=true) (h:G f args=some (a,[])):J7 X Tryz.prog f args (a,[]):=jrE hs h
theorem K1 {w:World} {O:Nat->Prop} {l:List A} {cs:Array Value} (h:jk w O l (Value.agg cs).cells.toList):rel w O (.agg l) (.agg cs):=by
 simp only [rel];exact ⟨cs.toList,by simp,by simpa [Value.cells] using h⟩
end Go.Proofs.YtjbkclajpheekaaGreat
