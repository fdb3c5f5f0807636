/- Pb -/
import Derived.Test.YtbidbdhamhbebaaGreatDoorPa
import Derived.Test.YtbidbdhamhbebaaGreatDoorPq
import Derived.Sort.Walk0
import Derived.Lib.ItoaNum
namespace Go.Proofs.YtbidbdhamhbebaaGreatDoor
open Go Go.RowKit Go.Proofs.YtbidbdhamhbebaaGreatDoor.Abs
set_option linter.unusedSimpArgs false
set_option linter.unusedVariables false
set_option maxHeartbeats 1000000
abbrev js:=List (List UInt8 × T)
mutual
noncomputable def mt (m:js) (p:T) (t:T):Option js:=
 match p with
 | .mk n us=>if jp n then (match look m n with|some r=>if dq r t then some m else none|none=>some (m++[(n,t)]))
   else if n=t.name/\us.length=t.args.length then Zp m us t.args else none
termination_by structural p
noncomputable def Zp (m:js) (ps:List T) (ts:List T):Option js:=
 match ps with
 | []=>some m
 | u::us=>(match ts with | []=>some m|t::ts=>(mt m u t).bind λm'=>Zp m' us ts)
termination_by structural ps
end
theorem QW {m:js} {p t:T} (h:jp p.name=true):mt m p t=(match look m p.name with|some r=>if dq r t then some m else none|none=>some (m++[(p.name,t)])):=by
 obtain ⟨n,us⟩:=p;have h:jp n=true:=h;simp only [mt,h,Jm,T.name]
theorem YU {m:js} {p t:T} (h:jp p.name=false):mt m p t=if p.name=t.name/\p.args.length=t.args.length then Zp m p.args t.args else none:=by
 obtain ⟨n,us⟩:=p;have h:jp n=false:=h;simp only [mt,h,Zg,K6];rfl
theorem jgR:∀(u v:js) (n:List UInt8),look (u++v) n=(match look u n with|some r=>some r|none=>look v n)
 | [],v,n=>rfl
 | p::u,v,n=>by
  rw [Jl,look,look];by_cases h:p.1=n
  .rw [jl h,jl h]
  .rw [jo h,jo h];exact jgR u v n
theorem qa {u:js} {n:List UInt8} :look u n=none↔ ∀p∈u,p.1≠n:=by
 induction u with
 | nil=>simp [look]
 | cons p u ih=>
  rw [look];by_cases h:p.1=n
  .rw [jl h];simp [h]
  .rw [jo h,ih];simp [h]
theorem qV:∀ {u:js} {n:List UInt8} {r:T},look u n=some r->(n,r)∈u
 | p::u,n,r,h=>by
  rw [look] at h;by_cases e:p.1=n
  .rw [jl e] at h;cases h;rw [<-e];simp
  .rw [jo e] at h;exact Jw _ (qV h)
def MOk (p:T->Prop) (m:js):Prop:=(m.map Prod.fst).Nodup/\(∀q∈m,jp q.1=true/\p q.2)
theorem MOk.nil (p:T->Prop):MOk p []:=⟨by simp,λq h=>by cases h⟩
theorem MOk.push {p:T->Prop} {m:js} (h:MOk p m) {n:List UInt8} {t:T} (hn:jp n=true) (ht:p t) (hl:look m n=none):MOk p (m++[(n,t)]):=by
 refine ⟨?_,λq hq=> ?_⟩
 .rw [zz,jbm];refine ⟨h.1,by simp,λa ha b hb=> ?_⟩;simp only [yH,ya,zi] at hb;subst hb;obtain ⟨q,hq,rfl⟩:=ym.1 ha;exact qa.1 hl q hq
 .rcases zh.1 hq with hq|hq
  .exact h.2 q hq
  .simp only [zi] at hq;subst hq;exact ⟨hn,ht⟩
theorem ji7 {p:T->Prop} (hp:∀t,p t-> ∀u∈t.args,p u):∀(a:T) {m m':js} {t:T},MOk p m->p t->mt m a t=some m'->MOk p m':=by
 refine T.ind (p:=λa=>∀ {m m':js} {t:T},MOk p m->p t->mt m a t=some m'->MOk p m') λa ih=> ?_;intro m m' t hm ht h;cases hv:jp a.name with
 | true=>
  rw [QW hv] at h;split at h
  .split at h
   .cases h;exact hm
   .cases h
  .rename_i hl;cases h;exact hm.push hv ht hl
 | false=>
  rw [YU hv] at h;split at h
  .have key:∀(us:List T) (ts:List T) {m m':js},(∀u∈us,u∈a.args)->(∀u∈ts,p u)->MOk p m->Zp m us ts=some m'->MOk p m':=by
    intro us;induction us with
    | nil=>intro ts m m' _ _ hm h;simp only [Zp,kL] at h;exact h ▸ hm
    | cons u us ih2=>
     intro ts m m' hu hts hm h;cases ts with
     | nil=>simp only [Zp,kL] at h;exact h ▸ hm
     | cons s ts=>
      simp only [Zp] at h;obtain ⟨m1,h1,h2⟩:=zB.1 h;exact ih2 ts (λx hx=>hu x (by simp [hx])) (λx hx=>hts x (by simp [hx])) (ih u (hu u (by simp)) hm (hts s (by simp)) h1) h2
   exact key a.args t.args (λ_ h=>h) (hp t ht) hm h
  .cases h
def Y3 (s:js) (n:List UInt8) (t:T):js:=s.takeWhile (λp=>yQ p.1 n)++(n,t)::s.dropWhile (λp=>yQ p.1 n)
def Ki (s:js) (n:List UInt8) (t:T):js:=if t.name=n then s else Y3 s n t
def Jo (m:js):js:=m.foldl (λs p=>Ki s p.1 p.2) []
theorem ja3 (a:List UInt8):yQ a a=false:=by
 unfold yQ;cases h:Op.bytesLess a a with
 | false=>rfl
 | true=>
  exfalso;induction a with
  | nil=>simp [Op.bytesLess] at h
  | cons c r ih=>simp [Op.bytesLess] at h;exact ih h
theorem jvO (n:List UInt8) (t:T) (x:List UInt8):∀s:js,look (Y3 s n t) x=if n=x then some t else look s x:=by
 intro s;unfold Y3;induction s with
 | nil=>simp [look]
 | cons p s ih=>
  cases hl:yQ p.1 n with
  | true=>
   rw [ju4 (p:=λp:List UInt8 × T=>yQ p.1 n) hl,jAX (p:=λp:List UInt8 × T=>yQ p.1 n) hl,Jl,look,ih,look];by_cases h1:p.1=x
   .rw [jl h1,jl h1];have:n≠x:=λe=>by rw [h1,<-e,ja3] at hl;cases hl
    rw [jo this]
   .rw [jo h1,jo h1]
  | false=>
   rw [jrJ (p:=λp:List UInt8 × T=>yQ p.1 n) (by simp [hl]),ju5 (p:=λp:List UInt8 × T=>yQ p.1 n) (by simp [hl]),KN,look]
theorem jll (s:js) (n:List UInt8) (t:T) (x:List UInt8):look (Ki s n t) x=if n=x/\t.name≠x then some t else look s x:=by
 unfold Ki;by_cases h:t.name=n
 .rw [jl h];by_cases h2:n=x
  .rw [jo (λh3=>h3.2 (h.trans h2))]
  .rw [jo (λh3=>h2 h3.1)]
 .rw [jo h,jvO];by_cases h2:n=x
  .rw [jl h2,jl ⟨h2,λe=>h (e.trans h2.symm)⟩]
  .rw [jo h2,jo (λh3=>h2 h3.1)]
theorem ji4 (x:List UInt8):∀(m s:js),(m.map Prod.fst).Nodup->look (m.foldl (λs p=>Ki s p.1 p.2) s) x=(match look m x with|some t=>if t.name=x then look s x else some t|none=>look s x)
 | [],s,_=>rfl
 | p::m,s,hn=>by
  rw [yH,jha] at hn;rw [Zf,ji4 x m _ hn.2,look];by_cases h:p.1=x
  .have:look m x=none:=qa.2 λq hq e=>hn.1 (by rw [h,<-e];exact List.mem_map_of_mem hq)
   rw [this,jl h];show look (Ki s p.1 p.2) x=if p.2.name=x then look s x else some p.2;rw [jll];by_cases h2:p.2.name=x
   .rw [jl h2,jo (λh3=>h3.2 h2)]
   .rw [jo h2,jl ⟨h,h2⟩]
  .rw [jo h];have e:look (Ki s p.1 p.2) x=look s x:=by rw [jll,jo (λh3=>h h3.1)]
   rw [e]
theorem jtn {m:js} (hm:MOk (λt=>yv t=true) m) {x:List UInt8} (hx:jp x=true):jbC (Jo m) x=jbC m x:=by
 unfold jbC Jo;rw [ji4 x m [] hm.1];cases h:look m x with
 | none=>rfl
 | some t=>
  show Option.getD (if t.name=x then look [] x else some t) _=t;by_cases h2:t.name=x
  .rw [jl h2];have hk:=(hm.2 _ (qV h)).2;have ha:=JN hk (by rw [h2];exact hx);show T.mk x []=t;rw [<-h2,<-ha,T.eta]
  .rw [jo h2];rfl
theorem jwJ {u v:js} (h:∀x,jp x=true->jbC u x=jbC v x):∀t:T,sub u t=sub v t:=by
 refine T.ind λt ih=> ?_;cases hv:jp t.name with
 | true=>rw [K0 hv,K0 hv,h _ hv]
 | false=>rw [JY hv,JY hv,jko ih]
theorem jwK {m:js} (hm:MOk (λt=>yv t=true) m) (t:T):sub (Jo m) t=sub m t:=jwJ (λ_ hx=>jtn hm hx) t
theorem jzO (n:List UInt8) (h:jp n=true):yv (.mk n [])=true:=by rw [yT];show (if jp n then _ else _)=true;rw [jl h];rfl
theorem ja7 {u:js} (hu:∀q∈u,yv q.2=true):∀t:T,yv t=true->yv (sub u t)=true:=by
 refine T.ind λt ih hk=> ?_;cases hv:jp t.name with
 | true=>
  rw [K0 hv,jbC];cases h:look u t.name with
  | none=>exact jzO _ hv
  | some r=>exact hu _ (qV h)
 | false=>
  have hk':=hk;rw [yT,hv,jo kh,ju,ju,Ke] at hk;rw [yT,jjV hv,hv,jo kh,je9 hv,ju,ju,Ke];refine ⟨hk.1,by simpa using hk.2.1,?_⟩;rw [List.all_map,qm];intro a ha;exact ih a ha (qm.1 hk.2.2 a ha)
def Jx (r:T):T:=r.args.getD 0 (.mk [] [])
def Za (r:T):T:=r.args.getD 1 (.mk [] [])
noncomputable def J2:List T->T->Option T
 | [],_=>none
 | r::rs,t=>(match mt [] (Jx r) t with|some m=>some (sub m (Za r))|none=>J2 rs t)
mutual
noncomputable def jal (rs:List T) (root:Bool):T->Option T
 | .mk n us=>(match ZT rs us with|some us'=>some (.mk n us')|none=>if root then J2 rs (.mk n us) else none)
noncomputable def ZT (rs:List T):List T->Option (List T)
 | []=>none
 | t::ts=>(match jal rs true t with|some t'=>some (t'::ts)|none=>(ZT rs ts).map (t::·))
end
theorem jeQ (rs:List T) (root:Bool) (t:T):jal rs root t=(match ZT rs t.args with|some us=>some (.mk t.name us)|none=>if root then J2 rs t else none):=by cases t;rfl
def atT:List Nat->T->T
 | [],t=>t
 | i::p,t=>atT p (t.args.getD i (.mk [] []))
def zt (s:T):List Nat->T->T
 | [],_=>s
 | i::p,t=> .mk t.name (t.args.set i (zt s p (t.args.getD i (.mk [] []))))
mutual
def jao:T->List (List Nat)
 | .mk _ us=>QE 0 us++[[]]
def QE (i:Nat):List T->List (List Nat)
 | []=>[]
 | t::ts=>(jao t).map (i::·)++QE (i+1) ts
end
theorem jqM (t:T):jao t=QE 0 t.args++[[]]:=by cases t;rfl
theorem jew {α β γ:Type} (f:β->Option γ) (g:α->β):∀l:List α,(l.map g).findSome? f=l.findSome? (λa=>f (g a))
 | []=>rfl
 | a::l=>by rw [yH,jbo,jbo,jew f g l]
theorem jbY {α β:Type} {f g:α->Option β} :∀ {l:List α},(∀a∈l,f a=g a)->l.findSome? f=l.findSome? g
 | [],_=>rfl
 | a::l,h=>by rw [jbo,jbo,h a (by simp),jbY λb hb=>h b (by simp [hb])]
theorem jc8 {α β γ:Type} (f:α->Option β) (g:β->γ):∀l:List α,l.findSome? (λa=>(f a).map g)=(l.findSome? f).map g
 | []=>rfl
 | a::l=>by
  rw [jbo,jbo];cases h:f a with
  | none=>exact jc8 f g l
  | some b=>rfl
noncomputable def Qa (rs:List T) (root:Bool) (t:T) (p:List Nat):Option T:=if p = []/\root=false then none else (J2 rs (atT p t)).map λs=>zt s p t
theorem jvX (rs:List T):∀(t:T) (root:Bool),(jao t).findSome? (Qa rs root t)=jal rs root t:=by
 refine T.ind λt ih root=> ?_;have hL:∀(us:List T) (i:Nat),(∀u∈us,u∈t.args)->t.args.drop i=us->(QE i us).findSome? (Qa rs root t)=(ZT rs us).map λus'=> .mk t.name (t.args.take i++us'):=by
  intro us;induction us with
  | nil=>intro i _ _;rfl
  | cons u us ih2=>
   intro i hu hd;have hi:i < t.args.length:=by
    rcases jfj i t.args.length with h|h
    .exact h
    .rw [jmc h] at hd;cases hd
   have hui:t.args.getD i (.mk [] [])=u:=by
    rw [qE];have:=congrArg (λl=>l[0]?) hd;simp only [Q2,j6,qk] at this;rw [this];rfl
   have hd2:t.args.drop (i+1)=us:=by
    have:=congrArg (λl=>l.drop 1) hd;simpa [jdX,Nat.add_comm] using this
   rw [QE,List.findSome?_append,jew,ZT];have e1:(jao u).findSome? (λp=>Qa rs root t (i::p))=(jal rs true u).map λu'=> .mk t.name (t.args.set i u'):=by
    rw [<-ih u (hu u (by simp)) true,<-jc8];refine jbY λp _=> ?_;unfold Qa;rw [jo (by simp),jo (by simp),atT,hui];cases J2 rs (atT p u) with
    | none=>rfl
    | some s=>show some (zt s (i::p) t)=some (T.mk t.name (t.args.set i (zt s p u)));rw [zt,hui]
   rw [e1];cases ho:jal rs true u with
   | some u'=>
    show some (T.mk t.name (t.args.set i u'))=some (T.mk t.name (t.args.take i++u'::us));rw [List.set_eq_take_append_cons_drop,jl hi,hd2]
   | none=>
    show (QE (i+1) us).findSome? (Qa rs root t)=_;rw [ih2 (i+1) (λx hx=>hu x (by simp [hx])) hd2];cases ZT rs us with
    | none=>rfl
    | some us'=>
     show some (T.mk t.name (t.args.take (i+1)++us'))=some (T.mk t.name (t.args.take i++u::us'));have:t.args.take (i+1)=t.args.take i++[u]:=by
      rw [jbp];congr 1;have h0:t.args[i]? = some u:=by
       have:=congrArg (λl=>l[0]?) hd;simpa using this
      rw [h0];rfl
     rw [this,zH];rfl
 rw [jqM,List.findSome?_append,hL t.args 0 (λ_ h=>h) rfl,jeQ];cases ZT rs t.args with
 | some us=>rfl
 | none=>
  show ([[]]:List (List Nat)).findSome? (Qa rs root t)=(if root=true then J2 rs t else none);rw [jbo];unfold Qa;cases root with
  | false=>rfl
  | true=>
   rw [jo (by simp),jl rfl];rw [atT];cases J2 rs t<;>rfl
def jm7 (rs:List T):Prop:=∀r∈rs,yv (Jx r)=true/\yv (Za r)=true
theorem jq3 {t:T} (ht:yv t=true):∀ {rs:List T} {u:T},jm7 rs->J2 rs t=some u->yv u=true
 | r::rs,u,hr,h=>by
  rw [J2] at h;split at h
  .rename_i m hm;cases h;have hM:=ji7 (p:=λt=>yv t=true) (λt ht u hu=>by
    cases hv:jp t.name with
    | true=>rw [JN ht hv] at hu;cases hu
    | false=>
     rw [yT,hv,jo kh,ju,ju,Ke] at ht;exact qm.1 ht.2.2 u hu) _ (MOk.nil _) ht hm
   exact ja7 (λq hq=>(hM.2 q hq).2) _ (hr r (by simp)).2
  .exact jq3 ht (λq hq=>hr q (by simp [hq])) h
theorem jdN {rs:List T} :∀ {us us':List T},ZT rs us=some us'->us'.length=us.length/\ ∀p:T->Prop,(∀u∈us,p u)->(∀u∈us,∀u',jal rs true u=some u'->p u')-> ∀u∈us',p u
 | t::ts,us',h=>by
  rw [ZT] at h;split at h
  .rename_i t' ht;cases h;refine ⟨by simp,λp h1 h2 u hu=> ?_⟩;rcases j7.1 hu with rfl|hu
   .exact h2 t (by simp) _ ht
   .exact h1 u (by simp [hu])
  .rw [yP] at h;obtain ⟨r,h3,rfl⟩:=h;obtain ⟨g1,g2⟩:=jdN h3;refine ⟨by simp [g1],λp h1 h2 u hu=> ?_⟩;rcases j7.1 hu with rfl|hu
   .exact h1 _ (by simp)
   .exact g2 p (λu hu=>h1 u (by simp [hu])) (λu hu=>h2 u (by simp [hu])) u hu
theorem jCr {rs:List T} (hr:jm7 rs):∀(t:T) {u:T},yv t=true->jal rs true t=some u->yv u=true:=by
 refine T.ind (p:=λt=>∀ {u:T},yv t=true->jal rs true t=some u->yv u=true) λt ih=> ?_;intro u ht h;rw [jeQ] at h;split at h
 .rename_i us ho;cases h;obtain ⟨g1,g2⟩:=jdN ho;cases hv:jp t.name with
  | true=>
   rw [JN ht hv] at ho;cases ho
  | false=>
   have ha:=zK ht;rw [yT,hv,jo kh,ju,ju] at ht;rw [yT];show (if jp t.name then _ else qP t.name && (decide (us.length<=4) && jca us))=true;rw [hv,jo kh,ju,ju,g1,Ke,qm];exact ⟨ht.1,ht.2.1,g2 _ ha λu hu u' hu'=>ih u hu (ha u hu) hu'⟩
 .exact jq3 ht hr h
noncomputable def rwN (rs:List T) (root:Bool):Nat->Nat->T->Option (T × Nat)
 | 0,_,_=>none
 | k+1,n,t=>(match jal rs root t with
  | none=>some (t,n)
  | some u=>if k=0\/jD u=false then none else rwN rs root k (n+1) u)
theorem jaG (ts:List T) (hl:ts.length<=1048576) (ih:∀t∈ts,G 199 [tm t]=some (tm t,[])):jme (jQ ts)=some (.top,[jQ ts]):=by
 rw [jEQ];by_cases h0:ts.length=0
 .have:ts = []:=jhc.1 h0;subst this;simp only [je,jP];rfl
 have hz:¬((ts.length:Nat):Int)=0:=by omega
 have hm:=JV (b:=40) (n:=ts.length) (by omega) hl;have key:=(upto (P:=λi=>jec (jQ ts) (vi (ts.length:Nat)) (vi i) (part jm [sv [],.sl 2 []] ts i)=some (.top,[jQ ts])) (n:=ts.length) ?_ ?_ 0 (jE _))
 .simp only [jP,<-Zw] at key;simp only [je,hz,hm,key]
 .rw [jp1,Y0];simp only [je]
 .intro i hi ih';have hlt:(i:Int) < ((ts.length:Nat):Int):=by omega
  have h1:=JD (f:=jm) (z:=[sv [],.sl 2 []]) (Z1 hi);have h2:Q4 (part jm [sv [],.sl 2 []] ts i).length (vi i)=some i:=yj (by omega);have h4:=Y2 (f:=jm) (z:=[sv [],.sl 2 []]) hi;rw [zq] at h4;have h5:=jq hi (qN hl (by decide));have e1:G 199 [A.agg [sv ts[i].name,jQ ts[i].args]]=_:=ih ts[i] (jr _);rw [jp1];simp only [je,hlt,jb hi,jf,e1,qk,h2,Y1 hi,jhu,h4,h5,ih']
theorem Jy (t:T):tsz t<=1048576->G 199 [tm t]=some (tm t,[]):=by
 refine T.ind (p:=λt=>tsz t<=1048576->G 199 [tm t]=some (tm t,[])) ?_ t;intro t ih h;rw [kW] at h;have e1:=jaG t.args (by omega) λu hu=>ih u hu (by have:=yL hu;omega);rw [jJm];simp only [je,e1]
theorem jng (t:T) (h:tsz t<=1048576):jft (sv t.name) (jQ t.args)=some (.top,[sv t.name,jQ t.args]):=by
 rw [kW] at h;have e1:=jaG t.args (by omega) λu hu=>Jy u (by have:=yL hu;omega);rw [jxs];simp only [je,e1]
theorem jcO:pNo (vb false)=some ():=rfl
theorem jD9:slL [259] [[]] = [.sl 259 []]:=rfl
theorem jsZ {n:Nat} (h:n<=4194304):jW n 56=true:=by
 unfold jW;exact jR ⟨by omega,by omega⟩
theorem jfY {p:T->Prop} (hp:∀t,p t-> ∀u∈t.args,p u):∀(a:T) {m m':js} {t:T},(∀q∈m,p q.2)->p t->mt m a t=some m'->(∀q∈m',p q.2)/\m'.length<=m.length+nodes a:=by
 refine T.ind (p:=λa=>∀ {m m':js} {t:T},(∀q∈m,p q.2)->p t->mt m a t=some m'->(∀q∈m',p q.2)/\m'.length<=m.length+nodes a) λa ih=> ?_;intro m m' t hm ht h;have hn:=jU a;cases hv:jp a.name with
 | true=>
  rw [QW hv] at h;split at h
  .split at h
   .cases h;exact ⟨hm,by omega⟩
   .cases h
  .cases h;refine ⟨λq hq=> ?_,by rw [yn,List.length_singleton];omega⟩;rcases zh.1 hq with hq|hq
   .exact hm q hq
   .simp only [zi] at hq;subst hq;exact ht
 | false=>
  rw [YU hv] at h;split at h
  .have key:∀(us:List T) (ts:List T) {m m':js},(∀u∈us,u∈a.args)->(∀u∈ts,p u)->(∀q∈m,p q.2)->Zp m us ts=some m'->(∀q∈m',p q.2)/\m'.length<=m.length+jx us:=by
    intro us;induction us with
    | nil=>intro ts m m' _ _ hm h;simp only [Zp,kL] at h;exact h ▸ ⟨hm,by omega⟩
    | cons u us ih2=>
     intro ts m m' hu hts hm h;have e:jx (u::us)=nodes u+jx us:=rfl;cases ts with
     | nil=>simp only [Zp,kL] at h;exact h ▸ ⟨hm,by omega⟩
     | cons s ts=>
      simp only [Zp] at h;obtain ⟨m1,h1,h2⟩:=zB.1 h;obtain ⟨i1,i2⟩:=ih u (hu u (by simp)) hm (hts s (by simp)) h1;obtain ⟨j1,j2⟩:=ih2 ts (λx hx=>hu x (by simp [hx])) (λx hx=>hts x (by simp [hx])) i1 h2;exact ⟨j1,by omega⟩
   obtain ⟨i1,i2⟩:=key a.args t.args (λ_ h=>h) (hp t ht) hm h;exact ⟨i1,by omega⟩
  .cases h
def MR (o:Option Out) (r:Option js):Prop:=match r with
 | some m'=>o=some (.top,[vb true,.sl 259 (m'.map bc)])
 | none=>∃R,o=some (.top,[vb false,.sl 259 R])
theorem jjp {m:js} {i:Nat} (hi:i < m.length):jan (m.map bc) i 0=some (sv m[i].1):=by unfold jan;simp [hi]
theorem jqF {m:js} {i:Nat} (hi:i < m.length):Yg (m.map bc) i 1 2=some (tm m[i].2):=by unfold Yg;simp [hi]
def Tz (t:T):Prop:=tsz t<=1048576
theorem Tz.args {t:T} (h:Tz t):∀u∈t.args,Tz u:=λu hu=>by
 have:=yL hu;unfold Tz at h ⊢;rw [kW] at h;omega
theorem Tz.wf {t:T} (h:Tz t):J3 t:=jF3 t h
theorem jvE (n:List UInt8) (x:A) (t:T) (ht:Tz t) (m:js) (hm:∀q∈m,Tz q.2) (hl:m.length<=4000000) (hx:j9 x=true):MR (jbH (vi 0) (sv n) x (sv t.name) (jQ t.args) (m.map bc)) (match look m n with|some r=>if dq r t then some m else none|none=>some (m++[(n,t)])):=by
 have key:=upto (P:=λi=>MR (jbH (vi i) (sv n) x (sv t.name) (jQ t.args) (m.map bc)) (match look (m.drop i) n with|some r=>if dq r t then some m else none|none=>some (m++[(n,t)]))) (n:=m.length) ?_ ?_ 0 (jE _)
 .exact key
 .rw [j4,jpT];have hf:=jsZ (n:=m.length+1) (by omega);show _=_;simp only [je,hx,hf];rw [zz];rfl
 .intro i hi ih;have hlt:(i:Int) < ((m.length:Nat):Int):=by omega
  have h5:=jq hi (by show m.length<=9223372036854775807;omega)
  have x1:Q4 m.length (vi ((i:Nat):Int))=some i:=yj hi;have x2:=jjp hi;have x3:=jqF hi;have e1:=qo m[i].2 (hm _ (jr hi)).wf t ht.wf;rw [jpT,ji hi,look];by_cases he:m[i].1=n
  .rw [jl he];show MR _ (if dq m[i].2 t=true then some m else none);cases hd:dq m[i].2 t<;>rw [hd] at e1
   .rw [jo kh];refine ⟨m.map bc,?_⟩;simp only [je,hlt,x1,x2,x3,he,e1]
   .rw [jl rfl];show _=_;simp only [je,hlt,x1,x2,x3,he,e1]
  .rw [jo he];simp only [je,hlt,x1,x2,x3,he,h5];exact ih
theorem jsM (a t:T) (ht:Tz t) (ha:Tz a) (hl:a.args.length=t.args.length) (m:js) (hm:∀q∈m,Tz q.2) (hk:m.length+jx a.args<=4000000)
  (ih:∀u∈a.args,∀(s:T) (m:js),Tz s->(∀q∈m,Tz q.2)->m.length+nodes u<=4000000->MR (QK (tm u) (tm s) (m.map bc)) (mt m u s)) :
  MR (jd4 (vi 0) (sv a.name) (jQ a.args) (sv t.name) (jQ t.args) (m.map bc)) (Zp m a.args t.args):=by
 have ha':=ha;unfold Tz at ha;rw [kW] at ha;have nd:∀i,i < a.args.length->jx (a.args.drop i)=jx a.args->True:=λ_ _ _=>trivial;have key2:=upto (P:=λi=>∀m:js,(∀q∈m,Tz q.2)->m.length+jx (a.args.drop i)<=4000000->MR (jd5 (vi i) (sv a.name) (jQ a.args) (sv t.name) (jQ t.args) (m.map bc)) (Zp m (a.args.drop i) (t.args.drop i))) (n:=a.args.length) ?_ ?_;rotate_left
 .intro m hm hk;rw [j4,jiP];simp only [Zp];show _=_;simp only [je]
 .intro i hi ih2 m hm hk;have hi':i < t.args.length:=by omega
  have hlt:(i:Int) < ((a.args.length:Nat):Int):=by omega
  have h5:=jq hi (by show a.args.length<=9223372036854775807;omega)
  have e:jx (a.args.drop i)=nodes a.args[i]+jx (a.args.drop (i+1)):=by rw [ji hi];rfl
  have q:=ih a.args[i] (jr _) t.args[i] m (ht.args _ (jr _)) hm (by omega);rw [ji hi,ji hi',jiP];simp only [Zp];cases hq:mt m a.args[i] t.args[i] with
  | none=>
   rw [hq] at q;obtain ⟨R,q⟩:=q;refine ⟨[],?_⟩;simp only [je,hlt,jb hi,jb hi',jf,q,qk,jcO,jD9]
  | some m1=>
   rw [hq] at q;have q:QK (tm a.args[i]) (tm t.args[i]) (m.map bc)=some (.top,[vb true,.sl 259 (m1.map bc)]):=q;obtain ⟨i1,i2⟩:=jfY (p:=Tz) (λ_ h=>h.args) _ hm (ht.args _ (jr hi')) hq;simp only [je,hlt,jb hi,jb hi',jf,q,qk,h5];exact ih2 m1 i1 (by omega)
 have e1:∀(m:js) (i:Nat),jd4 (vi i) (sv a.name) (jQ a.args) (sv t.name) (jQ t.args) (m.map bc)=jd5 (vi i) (sv a.name) (jQ a.args) (sv t.name) (jQ t.args) (m.map bc):=λm i=>by
  rw [jyr,jiP]
 have:=key2 0 (jE _) m hm hk;rw [<-e1] at this;exact this
theorem jvD (n:List UInt8) (x:A) (t:T) (ht:Tz t) (m:js) (hm:∀q∈m,Tz q.2) (hl:m.length<=4000000) (hx:j9 x=true):MR (jbI (vi 0) (sv n) x (sv t.name) (jQ t.args) (m.map bc)) (match look m n with|some r=>if dq r t then some m else none|none=>some (m++[(n,t)])):=by
 have key:=upto (P:=λi=>MR (jbI (vi i) (sv n) x (sv t.name) (jQ t.args) (m.map bc)) (match look (m.drop i) n with|some r=>if dq r t then some m else none|none=>some (m++[(n,t)]))) (n:=m.length) ?_ ?_ 0 (jE _)
 .exact key
 .rw [j4,jpU];have hf:=jsZ (n:=m.length+1) (by omega);show _=_;simp only [je,hx,hf];rw [zz];rfl
 .intro i hi ih;have hlt:(i:Int) < ((m.length:Nat):Int):=by omega
  have h5:=jq hi (by show m.length<=9223372036854775807;omega)
  have x1:Q4 m.length (vi ((i:Nat):Int))=some i:=yj hi;have x2:=jjp hi;have x3:=jqF hi;have e1:=qo m[i].2 (hm _ (jr hi)).wf t ht.wf;rw [jpU,ji hi,look];by_cases he:m[i].1=n
  .rw [jl he];show MR _ (if dq m[i].2 t=true then some m else none);cases hd:dq m[i].2 t<;>rw [hd] at e1
   .rw [jo kh];refine ⟨m.map bc,?_⟩;simp only [je,hlt,x1,x2,x3,he,e1]
   .rw [jl rfl];show _=_;simp only [je,hlt,x1,x2,x3,he,e1]
  .rw [jo he];simp only [je,hlt,x1,x2,x3,he,h5];exact ih
theorem jsL (a t:T) (ht:Tz t) (ha:Tz a) (hl:a.args.length=t.args.length) (m:js) (hm:∀q∈m,Tz q.2) (hk:m.length+jx a.args<=4000000)
  (ih:∀u∈a.args,∀(s:T) (m:js),Tz s->(∀q∈m,Tz q.2)->m.length+nodes u<=4000000->MR (QK (tm u) (tm s) (m.map bc)) (mt m u s)) :
  MR (jd6 (vi 0) (sv a.name) (jQ a.args) (sv t.name) (jQ t.args) (m.map bc)) (Zp m a.args t.args):=by
 have ha':=ha;unfold Tz at ha;rw [kW] at ha;have nd:∀i,i < a.args.length->jx (a.args.drop i)=jx a.args->True:=λ_ _ _=>trivial;have key2:=upto (P:=λi=>∀m:js,(∀q∈m,Tz q.2)->m.length+jx (a.args.drop i)<=4000000->MR (jd7 (vi i) (sv a.name) (jQ a.args) (sv t.name) (jQ t.args) (m.map bc)) (Zp m (a.args.drop i) (t.args.drop i))) (n:=a.args.length) ?_ ?_;rotate_left
 .intro m hm hk;rw [j4,jiQ];simp only [Zp];show _=_;simp only [je]
 .intro i hi ih2 m hm hk;have hi':i < t.args.length:=by omega
  have hlt:(i:Int) < ((a.args.length:Nat):Int):=by omega
  have h5:=jq hi (by show a.args.length<=9223372036854775807;omega)
  have e:jx (a.args.drop i)=nodes a.args[i]+jx (a.args.drop (i+1)):=by rw [ji hi];rfl
  have q:=ih a.args[i] (jr _) t.args[i] m (ht.args _ (jr _)) hm (by omega);rw [ji hi,ji hi',jiQ];simp only [Zp];cases hq:mt m a.args[i] t.args[i] with
  | none=>
   rw [hq] at q;obtain ⟨R,q⟩:=q;refine ⟨[],?_⟩;simp only [je,hlt,jb hi,jb hi',jf,q,qk,jcO,jD9]
  | some m1=>
   rw [hq] at q;have q:QK (tm a.args[i]) (tm t.args[i]) (m.map bc)=some (.top,[vb true,.sl 259 (m1.map bc)]):=q;obtain ⟨i1,i2⟩:=jfY (p:=Tz) (λ_ h=>h.args) _ hm (ht.args _ (jr hi')) hq;simp only [je,hlt,jb hi,jb hi',jf,q,qk,h5];exact ih2 m1 i1 (by omega)
 have e1:∀(m:js) (i:Nat),jd6 (vi i) (sv a.name) (jQ a.args) (sv t.name) (jQ t.args) (m.map bc)=jd7 (vi i) (sv a.name) (jQ a.args) (sv t.name) (jQ t.args) (m.map bc):=λm i=>by
  rw [jys,jiQ]
 have:=key2 0 (jE _) m hm hk;rw [<-e1] at this;exact this
theorem jiW:∀(a:T),Tz a-> ∀(t:T) (m:js),Tz t->(∀q∈m,Tz q.2)->m.length+nodes a<=4000000->MR (QK (tm a) (tm t) (m.map bc)) (mt m a t):=by
 refine T.ind λa ih ha t m ht hm hk=> ?_;have hn:=jU a;have e1:=zE a.name (((kH a).1 ha.wf).1);have hal:a.args.length<=1048576:=by unfold Tz at ha;rw [kW] at ha;omega
 rw [jEF];cases hv:jp a.name<;>rw [hv] at e1
 .rw [YU hv];by_cases he:a.name=t.name/\a.args.length=t.args.length
  .rw [jl he];have hl:((a.args.length:Nat):Int)=((t.args.length:Nat):Int):=by omega
   have:=jsM a t ht ha he.2 m hm (by omega) λu hu s m hs hm hk=>ih u hu (ha.args u hu) s m hs hm hk;rw [he.1] at e1 this;simp only [je,he.1,e1,hl];exact this
  .rw [jo he];refine ⟨m.map bc,?_⟩;by_cases h1:a.name=t.name
   .have hl:¬((a.args.length:Nat):Int)=((t.args.length:Nat):Int):=λh=>he ⟨h1,by omega⟩;rw [h1] at e1;simp only [je,e1,h1,hl]
   .simp only [je,e1,h1]
 .rw [QW hv];have:=jvE a.name (jQ a.args) t ht m hm (by omega) (jsT _ _);simp only [je,e1];exact this
theorem jp5 (a:T) (ha:Tz a) (t:T) (m:js) (ht:Tz t) (hm:∀q∈m,Tz q.2) (hk:m.length+nodes a<=4000000):MR (jhO (tm a) (sv t.name) (jQ t.args) (m.map bc)) (mt m a t):=by
 have hn:=jU a;have e1:=zE a.name (((kH a).1 ha.wf).1);rw [jEG];cases hv:jp a.name<;>rw [hv] at e1
 .rw [YU hv];by_cases he:a.name=t.name/\a.args.length=t.args.length
  .rw [jl he];have hl:((a.args.length:Nat):Int)=((t.args.length:Nat):Int):=by omega
   have:=jsL a t ht ha he.2 m hm (by omega) λu hu s m hs hm hk=>jiW u (ha.args u hu) s m hs hm hk;rw [he.1] at e1 this;simp only [je,he.1,e1,hl];exact this
  .rw [jo he];refine ⟨m.map bc,?_⟩;by_cases h1:a.name=t.name
   .have hl:¬((a.args.length:Nat):Int)=((t.args.length:Nat):Int):=λh=>he ⟨h1,by omega⟩;rw [h1] at e1;simp only [je,e1,h1,hl]
   .simp only [je,e1,h1]
 .rw [QW hv];have:=jvD a.name (jQ a.args) t ht m hm (by omega) (jsT _ _);simp only [je,e1];exact this
abbrev kv (p:List UInt8 × T):List A:=[sv p.1,tm p.2]
theorem jxU (a b:List UInt8):eqK none (sv a) (sv b)=some (decide (a=b)):=by show some (decide (bs _=bs _))=_;refine congrArg some (jkm.2 ?_);simp
theorem jaQ (n:List UInt8):∀(m:js) (k:Nat),qR none (sv n) (m.map kv) k=some (match look m n with|some _=>(match m.findIdx? (λp=>decide (p.1=n)) with|some j=>some (k+j,tm ((look m n).getD (.mk [] [])))|none=>none)|none=>none)
 | [],k=>rfl
 | p::m,k=>by
  rw [yH,look,qR,jxU];by_cases h:p.1=n
  .rw [jl h,jR h.symm,joB,jl (jR h)];rfl
  .rw [jo h,kx (λe=>h e.symm),joB,jo (by simp [h])];show qR none (sv n) (m.map kv) (k+1)=_;rw [jaQ n m (k+1)];cases look m n with
   | none=>rfl
   | some r=>
    cases m.findIdx? (λp=>decide (p.1=n)) with
    | none=>rfl
    | some j=>show some (some (k+1+j,_))=some (some (k+(j+1),_));rw [show k+1+j=k+(j+1) by omega]
theorem ji3 {n:List UInt8} :∀ {m:js} {r:T},look m n=some r-> ∃j,m.findIdx? (λp=>decide (p.1=n))=some j/\m.set j (n,r)=m
 | p::m,r,h=>by
  rw [look] at h;rw [joB];by_cases e:p.1=n
  .rw [jl e] at h;rw [jl (jR e)];cases h;exact ⟨0,rfl,by rw [<-e];rfl⟩
  .rw [jo e] at h;rw [jo (by simp [e])];obtain ⟨j,h1,h2⟩:=ji3 h;exact ⟨j+1,by rw [h1];rfl,by rw [jki,h2]⟩
theorem jjm (z:List A) (m:js) (n:List UInt8):KD none true false z (.mp (m.map kv)) (sv n)=some (match look m n with|some r=> .tup [tm r,vb true]|none=> .tup [.agg z,vb false]):=by
 show ((some (m.map kv)).bind λxs=>(qR none (sv n) xs 0).map (jqf true false z))=_;rw [yo,jaQ];cases h:look m n with
 | none=>rfl
 | some r=>
  obtain ⟨j,h1,_⟩:=ji3 h;show (some (match m.findIdx? _ with|some j=>some (0+j,tm r)|none=>none)).map _=_;rw [h1];rfl
theorem jf5 {m:js} {n:List UInt8} (h:look m n=none) (t:T):jeW none (m.map kv) (sv n) (tm t)=some ((m++[(n,t)]).map kv):=by
 show (qR none (sv n) (m.map kv) 0).map _=_;rw [jaQ,h,zz];rfl
theorem jlv {m:js} {n:List UInt8} {r:T} (h:look m n=some r) (a:A):∃R,jeW none (m.map kv) (sv n) a=some R/\(a=tm r->R=m.map kv):=by
 obtain ⟨j,h1,h2⟩:=ji3 h;refine ⟨(m.map kv).set j [sv n,a],?_,λe=> ?_⟩
 .show (qR none (sv n) (m.map kv) 0).map _=_;rw [jaQ,h];show (some (match m.findIdx? _ with|some j=>some (0+j,tm r)|none=>none)).map _=_;rw [h1];show some ((m.map kv).set (0+j) [sv n,a])=_;rw [Jg]
 .rw [e];have:([sv n,tm r]:List A)=kv (n,r):=rfl;rw [this,<-List.map_set,h2]
def MI (o:Option Out) (r:Option js):Prop:=match r with
 | some m'=>o=some (.top,[vb true,.sl 128 (m'.map kv)])
 | none=>∃R,o=some (.top,[vb false,.sl 128 R])
theorem jvw (a t:T) (ht:Tz t) (ha:Tz a) (hl:a.args.length=t.args.length) (m:js) (hm:∀q∈m,Tz q.2)
  (ih:∀u∈a.args,∀(s:T) (m:js),Tz s->(∀q∈m,Tz q.2)->MI (Z2 (sv u.name) (jQ u.args) (tm s) (m.map kv)) (mt m u s)) :
  MI (jbG (jQ a.args) (vi (a.args.length:Nat)) (vi 0) (sv t.name) (jQ t.args) (m.map kv)) (Zp m a.args t.args):=by
 have ha':=ha;unfold Tz at ha;rw [kW] at ha;have key2:=upto (P:=λi=>∀m:js,(∀q∈m,Tz q.2)->MI (jbG (jQ a.args) (vi (a.args.length:Nat)) (vi i) (sv t.name) (jQ t.args) (m.map kv)) (Zp m (a.args.drop i) (t.args.drop i))) (n:=a.args.length) ?_ ?_;rotate_left
 .intro m hm;rw [j4,jpS];simp only [Zp];show _=_;simp only [je]
 .intro i hi ih2 m hm;have hi':i < t.args.length:=by omega
  have hlt:(i:Int) < ((a.args.length:Nat):Int):=by omega
  have h5:=jq hi (by show a.args.length<=9223372036854775807;omega)
  have q:=ih a.args[i] (jr _) t.args[i] m (ht.args _ (jr _)) hm;rw [ji hi,ji hi',jpS];simp only [Zp];cases hq:mt m a.args[i] t.args[i] with
  | none=>
   rw [hq] at q;obtain ⟨R,q⟩:=q;refine ⟨R,?_⟩;simp only [je,hlt,jb hi,jb hi',jf,q,qk]
  | some m1=>
   rw [hq] at q;have q:Z2 (sv a.args[i].name) (jQ a.args[i].args) (tm t.args[i]) (m.map kv)=some (.top,[vb true,.sl 128 (m1.map kv)]):=q;obtain ⟨i1,i2⟩:=jfY (p:=Tz) (λ_ h=>h.args) _ hm (ht.args _ (jr hi')) hq;simp only [je,hlt,jb hi,jb hi',jf,q,qk,h5];exact ih2 m1 i1
 exact key2 0 (jE _) m hm
theorem jvv (a t:T) (ht:Tz t) (ha:Tz a) (hl:a.args.length=t.args.length) (m:js) (hm:∀q∈m,Tz q.2)
  (ih:∀u∈a.args,∀(s:T) (m:js),Tz s->(∀q∈m,Tz q.2)->MI (Z2 (sv u.name) (jQ u.args) (tm s) (m.map kv)) (mt m u s)) :
  MI (jbF (jQ a.args) (vi (a.args.length:Nat)) (vi 0) (sv t.name) (jQ t.args) (m.map kv)) (Zp m a.args t.args):=by
 have ha':=ha;unfold Tz at ha;rw [kW] at ha;have key2:=upto (P:=λi=>∀m:js,(∀q∈m,Tz q.2)->MI (jbF (jQ a.args) (vi (a.args.length:Nat)) (vi i) (sv t.name) (jQ t.args) (m.map kv)) (Zp m (a.args.drop i) (t.args.drop i))) (n:=a.args.length) ?_ ?_;rotate_left
 .intro m hm;rw [j4,jpR];simp only [Zp];show _=_;simp only [je]
 .intro i hi ih2 m hm;have hi':i < t.args.length:=by omega
  have hlt:(i:Int) < ((a.args.length:Nat):Int):=by omega
  have h5:=jq hi (by show a.args.length<=9223372036854775807;omega)
  have q:=ih a.args[i] (jr _) t.args[i] m (ht.args _ (jr _)) hm;rw [ji hi,ji hi',jpR];simp only [Zp];cases hq:mt m a.args[i] t.args[i] with
  | none=>
   rw [hq] at q;obtain ⟨R,q⟩:=q;refine ⟨R,?_⟩;simp only [je,hlt,jb hi,jb hi',jf,q,qk]
  | some m1=>
   rw [hq] at q;have q:Z2 (sv a.args[i].name) (jQ a.args[i].args) (tm t.args[i]) (m.map kv)=some (.top,[vb true,.sl 128 (m1.map kv)]):=q;obtain ⟨i1,i2⟩:=jfY (p:=Tz) (λ_ h=>h.args) _ hm (ht.args _ (jr hi')) hq;simp only [je,hlt,jb hi,jb hi',jf,q,qk,h5];exact ih2 m1 i1
 exact key2 0 (jE _) m hm
theorem jx9 (a:T) (ha:Tz a) (hk:yv a=true) (t:T) (m:js) (ht:Tz t) (hm:∀q∈m,Tz q.2)
  (ih:∀u∈a.args,∀(s:T) (m:js),Tz s->(∀q∈m,Tz q.2)->MI (Z2 (sv u.name) (jQ u.args) (tm s) (m.map kv)) (mt m u s)) :
  MI (Z2 (sv a.name) (jQ a.args) (tm t) (m.map kv)) (mt m a t):=by
 have e1:G 123 [.agg [sv a.name,jQ a.args]]=some (vb (jp a.name),[]):=ZS a hk;have hal:a.args.length<=1048576:=by unfold Tz at ha;rw [kW] at ha;omega
 rw [jEE];cases hv:jp a.name<;>rw [hv] at e1
 .rw [YU hv];have pk:(if ((a.args.length:Nat):Int)=0 then G 123 [.agg [sv a.name,jQ a.args]] else some (vb false,[]))=some (vb false,[]):=by split<;>first|exact e1|rfl
  by_cases he:a.name=t.name/\a.args.length=t.args.length
  .rw [jl he];have hl:((a.args.length:Nat):Int)=((t.args.length:Nat):Int):=by omega
   have:=jvw a t ht ha he.2 m hm ih;by_cases h0:((a.args.length:Nat):Int)=0
   .have h0':((t.args.length:Nat):Int)=0:=by omega
    rw [he.1] at e1;rw [he.2,h0'] at this;simp only [je,he.1,h0',e1,hl];exact this
   .have h0':¬((t.args.length:Nat):Int)=0:=by omega
    rw [he.1] at e1;rw [he.2] at this;simp only [je,he.1,h0',hl];exact this
  .rw [jo he];refine ⟨m.map kv,?_⟩;by_cases h1:a.name=t.name
   .have hl:¬((a.args.length:Nat):Int)=((t.args.length:Nat):Int):=λh=>he ⟨h1,by omega⟩;rw [h1] at e1;by_cases h0:((a.args.length:Nat):Int)=0
    .have hl0:¬(0:Int)=((t.args.length:Nat):Int):=by omega
     simp only [je,e1,h1,h0,hl0]
    .simp only [je,h1,h0,hl]
   .by_cases h0:((a.args.length:Nat):Int)=0
    .simp only [je,e1,h1,h0]
    .simp only [je,h1,h0]
 .rw [QW hv];have h0:a.args = []:=JN hk hv;rw [h0] at e1;have hz:(((0:Nat):Int)=0)=True:=by simp
  have lk:=jjm [sv [],.sl 2 []] m a.name;cases hl:look m a.name with
  | none=>
   rw [hl] at lk;have lk:KD none true false [sv [],.sl 2 []] (.mp (m.map kv)) (sv a.name)=some (.tup [.agg [sv [],.sl 2 []],vb false]):=lk;have pp:=jf5 hl t;show _=_;rw [h0];simp only [je,e1,hz,lk,pp,ya]
  | some r=>
   rw [hl] at lk;have lk:KD none true false [sv [],.sl 2 []] (.mp (m.map kv)) (sv a.name)=some (.tup [tm r,vb true]):=lk;obtain ⟨R,pp,hR⟩:=jlv hl (tm t);have e2:=zw r (hm _ (qV hl)).wf t ht.wf;show MI _ (if dq r t=true then some m else none);rw [h0];cases hd:dq r t<;>rw [hd] at e2
   .rw [jo kh];refine ⟨R,?_⟩;simp only [je,e1,hz,lk,pp,e2,ya]
   .rw [jl rfl];have hr:R=m.map kv:=hR (by rw [Jr.1 hd]);rw [hr] at pp;show _=_;simp only [je,e1,hz,lk,pp,e2,ya]
theorem jk9 (a:T) (ha:Tz a) (e1:G 123 [.agg [sv a.name,jQ a.args]]=some (vb (jp a.name),[])) (hva:jp a.name=true->a.args = []) (t:T) (m:js) (ht:Tz t) (hm:∀q∈m,Tz q.2)
  (ih:∀u∈a.args,∀(s:T) (m:js),Tz s->(∀q∈m,Tz q.2)->MI (Z2 (sv u.name) (jQ u.args) (tm s) (m.map kv)) (mt m u s)) :
  MI (QJ (tm a) (sv t.name) (jQ t.args) (m.map kv)) (mt m a t):=by
 have hal:a.args.length<=1048576:=by unfold Tz at ha;rw [kW] at ha;omega
 rw [jED];cases hv:jp a.name<;>rw [hv] at e1
 .rw [YU hv];have pk:(if ((a.args.length:Nat):Int)=0 then G 123 [.agg [sv a.name,jQ a.args]] else some (vb false,[]))=some (vb false,[]):=by split<;>first|exact e1|rfl
  by_cases he:a.name=t.name/\a.args.length=t.args.length
  .rw [jl he];have hl:((a.args.length:Nat):Int)=((t.args.length:Nat):Int):=by omega
   have:=jvv a t ht ha he.2 m hm ih;by_cases h0:((a.args.length:Nat):Int)=0
   .have h0':((t.args.length:Nat):Int)=0:=by omega
    rw [he.1] at e1;rw [he.2,h0'] at this;simp only [je,he.1,h0',e1,hl];exact this
   .have h0':¬((t.args.length:Nat):Int)=0:=by omega
    rw [he.1] at e1;rw [he.2] at this;simp only [je,he.1,h0',hl];exact this
  .rw [jo he];refine ⟨m.map kv,?_⟩;by_cases h1:a.name=t.name
   .have hl:¬((a.args.length:Nat):Int)=((t.args.length:Nat):Int):=λh=>he ⟨h1,by omega⟩;rw [h1] at e1;by_cases h0:((a.args.length:Nat):Int)=0
    .have hl0:¬(0:Int)=((t.args.length:Nat):Int):=by omega
     simp only [je,e1,h1,h0,hl0]
    .simp only [je,h1,h0,hl]
   .by_cases h0:((a.args.length:Nat):Int)=0
    .simp only [je,e1,h1,h0]
    .simp only [je,h1,h0]
 .rw [QW hv];have h0:a.args = []:=hva hv;rw [h0] at e1;have hz:(((0:Nat):Int)=0)=True:=by simp
  have hta:tm a = .agg [sv a.name,jQ []]:=by show A.agg [_,A.sl 2 (a.args.map jm)]=_;rw [h0]
  have lk:=jjm [sv [],.sl 2 []] m a.name;cases hl:look m a.name with
  | none=>
   rw [hl] at lk;have lk:KD none true false [sv [],.sl 2 []] (.mp (m.map kv)) (sv a.name)=some (.tup [.agg [sv [],.sl 2 []],vb false]):=lk;have pp:=jf5 hl t;show _=_;rw [hta];simp only [je,e1,hz,lk,pp,ya]
  | some r=>
   rw [hl] at lk;have lk:KD none true false [sv [],.sl 2 []] (.mp (m.map kv)) (sv a.name)=some (.tup [tm r,vb true]):=lk;obtain ⟨R,pp,hR⟩:=jlv hl (tm t);have e2:=zw r (hm _ (qV hl)).wf t ht.wf;show MI _ (if dq r t=true then some m else none);rw [hta];cases hd:dq r t<;>rw [hd] at e2
   .rw [jo kh];refine ⟨R,?_⟩;simp only [je,e1,hz,lk,pp,e2,ya]
   .rw [jl rfl];have hr:R=m.map kv:=hR (by rw [Jr.1 hd]);rw [hr] at pp;show _=_;simp only [je,e1,hz,lk,pp,e2,ya]
theorem jx8 (a:T) (ha:Tz a) (hk:yv a=true) (t:T) (m:js) (ht:Tz t) (hm:∀q∈m,Tz q.2)
  (ih:∀u∈a.args,∀(s:T) (m:js),Tz s->(∀q∈m,Tz q.2)->MI (Z2 (sv u.name) (jQ u.args) (tm s) (m.map kv)) (mt m u s)) :
  MI (QJ (tm a) (sv t.name) (jQ t.args) (m.map kv)) (mt m a t):=jk9 a ha (ZS a hk) (λhv=>JN hk hv) t m ht hm ih
theorem jqm:∀(a:T),Tz a->yv a=true-> ∀(t:T) (m:js),Tz t->(∀q∈m,Tz q.2)->MI (Z2 (sv a.name) (jQ a.args) (tm t) (m.map kv)) (mt m a t):=by
 refine T.ind λa ih ha hk t m ht hm=> ?_;exact jx9 a ha hk t m ht hm λu hu s m hs hm=>ih u hu (ha.args u hu) (zK hk u hu) s m hs hm
theorem jvS (a:T) (ha:Tz a) (hk:yv a=true) (t:T) (m:js) (ht:Tz t) (hm:∀q∈m,Tz q.2):MI (QJ (tm a) (sv t.name) (jQ t.args) (m.map kv)) (mt m a t):=
 jx8 a ha hk t m ht hm λu hu s m hs hm=>jqm u (ha.args u hu) (zK hk u hu) s m hs hm
theorem jta {m:js} (hv:∀q∈m,jp q.1=true) (hm:∀q∈m,Tz q.2):∀t:T,Tz t->yv t=true->G 228 [tm t,.mp (m.map kv)]=some (tm (sub m t),[]):=by
 refine T.ind λt ih ht hk=> ?_;have hs:=ht;unfold Tz at hs;rw [kW] at hs;have lk:=jjm [sv [],.sl 2 []] m t.name;rw [jJE];cases h:jp t.name with
 | true=>
  have h0:t.args = []:=JN hk h;have hz:(((0:Nat):Int)=0)=True:=by simp
  have hta:tm t = .agg [sv t.name,jQ []]:=by show A.agg [_,A.sl 2 (t.args.map jm)]=_;rw [h0]
  rw [K0 h,jbC,hta];cases hl:look m t.name with
  | none=>
   rw [hl] at lk;have lk:KD none true false [sv [],.sl 2 []] (.mp (m.map kv)) (sv t.name)=some (.tup [.agg [sv [],.sl 2 []],vb false]):=lk;have h1:(0:Int) < ((0:Nat):Int)↔False:=by simp
   simp only [je,lk];rw [jsF];simp only [je,hz,h1,Option.getD_none,ya];rfl
  | some r=>
   rw [hl] at lk;have lk:KD none true false [sv [],.sl 2 []] (.mp (m.map kv)) (sv t.name)=some (.tup [tm r,vb true]):=lk;have e2:=Jy r (hm _ (qV hl));simp only [je,lk,hz,e2,jdY]
 | false=>
  have hn:look m t.name=none:=by
   cases hl:look m t.name with
   | none=>rfl
   | some r=>have:=hv _ (qV hl);rw [h] at this;cases this
  rw [hn] at lk;have lk:KD none true false [sv [],.sl 2 []] (.mp (m.map kv)) (sv t.name)=some (.tup [.agg [sv [],.sl 2 []],vb false]):=lk;have key:=(upto (P:=λi=>jmJ (.mp (m.map kv)) (jQ t.args) (vi (t.args.length:Nat)) (vi i) (sv []) (sv t.name) [] (((t.args.map (sub m)).take i).map jm)=some (tm (sub m t),[])) (n:=t.args.length) ?_ ?_ 0 (jE _))
  .simp only [jP,Jv,ya] at key;simp only [je,lk,key]
  .rw [jsF,ql (by rw [jK];omega),JY h]
   simp only [je];rfl
  .intro i hi ih';have hlt:(i:Int) < ((t.args.length:Nat):Int):=by omega
   have h5:=jq hi (by show t.args.length<=9223372036854775807;omega)
   have e2:=ih t.args[i] (jr _) (ht.args _ (jr _)) (zK hk _ (jr _));have hf:jW (i+1) 40=true:=jqD (by omega);have hi2:i < (t.args.map (sub m)).length:=by rw [jK];exact hi
   have hl:(((t.args.map (sub m)).take i).map jm).length=i:=by rw [jK,qD,jK];omega
   have ha:kq (((t.args.map (sub m)).take i).map jm) [[sv (sub m t.args[i]).name,jQ (sub m t.args[i]).args]]=((t.args.map (sub m)).take (i+1)).map jm:=by
    rw [show [sv (sub m t.args[i]).name,jQ (sub m t.args[i]).args]=jm (sub m t.args[i]) from (zq _).symm,jbp,zk hi2,zz,jdj];rfl
   generalize ((t.args.map (sub m)).take i).map jm=R at *;rw [jsF];simp only [je,hlt,jb hi,jf,e2,hl,hf,ha,h5,ih']
theorem jf9 (n:List UInt8) (t:T):∀(s:js) (i:Nat),i<=s.length->(∀j,(h:j < i)-> ∀h':j < s.length,yQ s[j].1 n=true)->((∃h:i < s.length,yQ s[i].1 n=false)\/i=s.length)->Y3 s n t=s.take i++(n,t)::s.drop i
 | [],i,hi,_,_=>by
  have:i=0:=by simpa using hi
  subst this;rfl
 | p::s,0,_,_,h=>by
  have hp:yQ p.1 n=false:=by
   rcases h with ⟨_,h⟩|h
   .exact h
   .cases h
  unfold Y3;rw [jrJ (p:=λp:List UInt8 × T=>yQ p.1 n) (by simp [hp]),ju5 (p:=λp:List UInt8 × T=>yQ p.1 n) (by simp [hp])];rfl
 | p::s,i+1,hi,h1,h=>by
  have hp:yQ p.1 n=true:=h1 0 (by omega) (by simp);have:=jf9 n t s i (by simpa using hi) (λj hj hj'=>h1 (j+1) (by omega) (by simpa using hj')) (by
   rcases h with ⟨h,h2⟩|h
   .exact Or.inl ⟨by simpa using h,h2⟩
   .exact Or.inr (by simpa using h))
  unfold Y3 at this ⊢;rw [ju4 (p:=λp:List UInt8 × T=>yQ p.1 n) hp,jAX (p:=λp:List UInt8 × T=>yQ p.1 n) hp,Jl,this];rfl
theorem qK {α:Type} (f:α->List A) (l:List α):yU (l.map f)=l.length:=jK ..
theorem jqR (u:js) (hl:u.length<=1000000) (i:Nat) (hi:i<=u.length) :
  pB u.length u.length (some (vi (i:Nat)))=some i/\Ja (u.map bc) 0 i=(u.take i).map bc/\jW (u.take i).length 56=true/\pB u.length u.length none=some u.length/\pB 0 u.length (some (vi (i:Nat)))=some i/\Ja (u.map bc) i (u.length - i)=(u.drop i).map bc/\yq (u.map bc) 0=u.length/\jW ((u.take i).length+1) 56=true/\jW ((u.take i).length+1+(u.drop i).length) 56=true:=by
 refine ⟨Js hi,by rw [Ja,kj,jfm],jsZ (by rw [qD];omega),yi (kD _),Js hi,?_,by rw [yq,jK];rfl,jsZ (by rw [qD];omega),jsZ (by rw [qD,qS];omega)⟩
 rw [Ja,<-jfl,ql (by rw [jK,qS];omega)]
theorem jqQ (u v:js) (n:List UInt8) (t:T):kq (kq (u.map bc) [[sv n,sv t.name,jQ t.args]]) (v.map bc)=(u++(n,t)::v).map bc:=by
 rw [zz];show (u.map bc++[_])++v.map bc=u.map bc++_::v.map bc;rw [zH];rfl
theorem jqS (u:js) (n:List UInt8) (t:T):(kq (u.map bc) [[sv n,sv t.name,jQ t.args]]).length=u.length+1:=by
 simp [kq]
theorem jnY (u:js) (hl:u.length<=1000000) (n:List UInt8) (t:T) (ht:Tz t):jhQ (sv n) (tm t) (u.map bc)=some (.top,[ZK (Ki u n t)]):=by
 have e1:=jcc t ht;have key:=upto (P:=λi=>(∀j,(h:j < i)-> ∀h':j < u.length,yQ u[j].1 n=true)->jbK (sv n) (vi i) (sv t.name) (jQ t.args) (u.map bc) []=some (.top,[ZK (Y3 u n t)])) (n:=u.length) ?_ ?_ 0 (jE _) (λj h=>absurd h (Nat.not_lt_zero _))
 .rw [jES,Ki];by_cases h:t.name=n
  .rw [jl h];simp only [je,h]
  .rw [jo h];have e:jbK (sv n) (vi 0) (sv t.name) (jQ t.args) (u.map bc) []=some (.top,[ZK (Y3 u n t)]):=key;simp only [je,h,e]
 .intro hall;rw [jf9 n t u u.length (kD _) hall (Or.inr rfl)];obtain ⟨k1,k2,k3,k4,k5,k6,k7,k8,k9⟩:=jqR u hl u.length (kD _);have m1:=jqQ (u.take u.length) (u.drop u.length) n t;have m2:=jqS (u.take u.length) n t;rw [jiS];simp only [je,qK,k1,k2,k3,k4,k5,k6,k7,qW,jdm,Jg,e1];generalize hB:zY _ _ _=B;have hB':B=some (.agg [sv n,sv t.name,jQ t.args]):=by rw [<-hB];kernel_rfl
  rw [hB'];simp only [je,k3,k8,k9,m1,m2]
 .intro i hi ih hall;have hlt:(i:Int) < ((u.length:Nat):Int):=by omega
  have h5:=jq hi (by show u.length<=9223372036854775807;omega)
  have x1:Q4 u.length (vi ((i:Nat):Int))=some i:=yj hi;have x2:=jjp hi;cases hs:yQ u[i].1 n
  .rw [jf9 n t u i (by omega) hall (Or.inl ⟨hi,hs⟩)];obtain ⟨k1,k2,k3,k4,k5,k6,k7,k8,k9⟩:=jqR u hl i (by omega);have m1:=jqQ (u.take i) (u.drop i) n t;have m2:=jqS (u.take i) n t;rw [jiS];simp only [je,hlt,x1,x2,hs,qK,k1,k2,k3,k4,k5,k6,k7,qW,jdm,Jg,e1];generalize hB:zY _ _ _=B;have hB':B=some (.agg [sv n,sv t.name,jQ t.args]):=by rw [<-hB];kernel_rfl
   rw [hB'];simp only [je,k3,k8,k9,m1,m2]
  .have ih:=ih λj hj hj'=>by
    by_cases h:j=i
    .subst h;exact hs
    .exact hall j (by omega) hj'
   rw [jiS];simp only [je,hlt,x1,x2,hs,h5,ih]
theorem jeY (s:js) (n:List UInt8) (t:T):(Ki s n t).length<=s.length+1:=by
 unfold Ki;split
 .omega
 .unfold Y3;rw [yn,zM];have:=jrK (p:=λp:List UInt8 × T=>yQ p.1 n) (l:=s);have:=congrArg List.length this;rw [yn] at this;omega
theorem jjv {s:js} {n:List UInt8} {t:T} {q:List UInt8 × T} (h:q∈Ki s n t):q∈s\/q=(n,t):=by
 unfold Ki at h;split at h
 .exact Or.inl h
 .unfold Y3 at h;rw [zh,j7] at h;rcases h with h|h|h
  .exact Or.inl (List.takeWhile_subset _ h)
  .exact Or.inr h
  .exact Or.inl (List.dropWhile_subset _ h)
theorem jk6:∀(m s:js),(m.foldl (λs p=>Ki s p.1 p.2) s).length<=s.length+m.length
 | [],s=>by simp
 | p::m,s=>by
  rw [Zf,zM];have:=jk6 m (Ki s p.1 p.2);have:=jeY s p.1 p.2;omega
theorem jk7:∀(m s:js) {q:List UInt8 × T},q∈m.foldl (λs p=>Ki s p.1 p.2) s->q∈s\/q∈m
 | [],s,q,h=>Or.inl h
 | p::m,s,q,h=>by
  rw [Zf] at h;rcases jk7 m _ h with h|h
  .rcases jjv h with h|h
   .exact Or.inl h
   .exact Or.inr (by rw [h];simp)
  .exact Or.inr (by simp [h])
theorem jwd {m:js} {q:List UInt8 × T} (h:q∈Jo m):q∈m:=by
 rcases jk7 m [] h with h|h
 .cases h
 .exact h
theorem jz8 (m:js) (hm:∀q∈m,Tz q.2) (hl:m.length<=1000000):G 270 [ZK m]=some (sb (Jo m),[]):=by
 have key:=upto (P:=λi=>∀s:js,s.length<=i->jmY (ZK m) (vi i) [] (s.map bc)=some (sb ((m.drop i).foldl (λs p=>Ki s p.1 p.2) s),[])) (n:=m.length) ?_ ?_ 0 (jE _) [] (kD _)
 .rw [jKa];exact key
 .intro s _;rw [jzq,j4];simp only [je];rfl
 .intro i hi ih s hs;have hlt:(i:Int) < ((m.length:Nat):Int):=by omega
  have h5:=jq hi (by show m.length<=9223372036854775807;omega)
  have e1:=jnY s (by omega) m[i].1 m[i].2 (hm _ (jr _));have:=jeY s m[i].1 m[i].2;have ih:=ih (Ki s m[i].1 m[i].2) (by omega);rw [jzq,ji hi,Zf];simp only [je,hlt,jb hi,qw,yx,YZ,e1,h5,ih]
theorem jHk {n:Nat} (h:n<=4194304):jW n 24=true:=by
 unfold jW;exact jR ⟨by omega,by omega⟩
theorem jHl {n:Nat} (h:n<=4194304):jW n 8=true:=by
 unfold jW;exact jR ⟨by omega,by omega⟩
abbrev pln (p:List Nat):A:= .sl 1 (p.map λn=>[vi (n:Nat)])
abbrev plc (p:List Nat):List A:=[pln p]
theorem jCt (p:List Nat) (h:p.length<=4194304):jmf (pln p)=some (.top,[pln p]):=by
 rw [jEW];have:=jHl (n:=p.length) h;simp only [je,this]
mutual
theorem jf7:∀t:T,(jao t).length=nodes t
 | .mk n us=>by
  rw [jao,nodes,yn,jly us 0];simp;omega
theorem jly:∀(us:List T) (i:Nat),(QE i us).length=jx us
 | [],i=>rfl
 | t::ts,i=>by
  rw [QE,jx,yn,jK,jf7 t,jly ts (i+1)]
end
theorem post_eq:∀(t:T) (p:List Nat),Tz t->p.length+tsz t<=2000000->G 269 [tm t,pln p]=some (.sl 1 ((jao t).map λq=>plc (p++q)),[]):=by
 refine T.ind λt ih p ht hp=> ?_;have hs:=ht;unfold Tz at hs;rw [kW] at hs hp;have hnl:=Jj t;have hne:=jU t;have e0:=jCt p (by omega);have hsplit:∀i,i<=t.args.length->jx (t.args.take i)+jx (t.args.drop i)=jx t.args:=by
  intro i _;have:∀a b:List T,jx (a++b)=jx a+jx b:=by
   intro a b;induction a with
   | nil=>simp [jx]
   | cons x a ih=>simp only [Jl,jx,ih];omega
  rw [<-this,Ql]
 have key:=upto (P:=λi=>∀R:List (List A),R.length+jx (t.args.drop i)<=2000000->jmX (pln p) (vi i) (sv t.name) (jQ t.args) R=some (.sl 1 (R++(QE i (t.args.drop i)++[[]]).map λq=>plc (p++q)),[])) (n:=t.args.length) ?_ ?_ 0 (jE _) [] (by simp;unfold Tz at ht;omega)
 .rw [jJ9,jqM];simp only [jP,KN,kj] at key;simp only [je,key]
 .intro R hR;rw [jzp,j4];have hf:jW (R.length+1) 24=true:=jHk (by omega);simp only [je,e0,hf];rw [QE,KN,yH,y8];rfl
 .intro i hi ih2 R hR;have hlt:(i:Int) < ((t.args.length:Nat):Int):=by omega
  have h5:=jq hi (by show t.args.length<=9223372036854775807;omega)
  have hm:tsz t.args[i]<=Qc t.args:=yL (jr _);have ed:jx (t.args.drop i)=nodes t.args[i]+jx (t.args.drop (i+1)):=by rw [ji hi];rfl
  have e2:=ih t.args[i] (jr _) (p++[i]) (ht.args _ (jr _)) (by rw [yn,List.length_singleton];omega)
  have ea:kq (p.map λn:Nat=>[vi (n:Nat)]) [[vi (i:Nat)]]=(p++[i]).map λn:Nat=>[vi (n:Nat)]:=by rw [zz];rfl
  have hf1:jW (p.length+1) 8=true:=jHl (by omega);have hpl:=jf7 t.args[i];have hf2:jW (R.length+(jao t.args[i]).length) 24=true:=jHk (by omega);have ih3:=ih2 (kq R ((jao t.args[i]).map λq=>plc ((p++[i])++q))) (by show (R++_).length+_<=_;rw [yn,jK];omega);rw [jzp,ji hi,QE];simp only [je,hlt,jb hi,jf,e0,hf1,ea,e2,hf2,h5,ih3];congr 2;show A.sl 1 ((R++_)++_)=_;congr 1;rw [zH,zH,zz,zz,Jf];congr 2;refine jko λq _=> ?_;show plc (p++[i]++q)=plc (p++(i::q));rw [zH];rfl;rw [zz]
def okP:List Nat->T->Prop
 | [],_=>True
 | i::p,t=>i < t.args.length/\okP p (t.args.getD i (.mk [] []))
theorem qu {ts:List T} {i:Nat} (h:i < ts.length):ts.getD i (.mk [] [])=ts[i]:=by rw [qE,zk h];rfl
mutual
theorem jqN:∀(t:T),∀p∈jao t,okP p t/\p.length<=nodes t
 | .mk n us=>λp hp=>by
  rw [jao,zh] at hp;rcases hp with hp|hp
  .obtain ⟨j,q,rfl,h1,h2,h3⟩:=jqL us 0 p hp;refine ⟨?_,?_⟩
   .show (0+j) < us.length/\okP q (us.getD (0+j) _);rw [Jg];exact ⟨h1,h2⟩
   .rw [zM,nodes];omega
  .rw [zi] at hp;subst hp;exact ⟨trivial,by simp⟩
theorem jqL:∀(us:List T) (i:Nat),∀p∈QE i us,∃j q,p=(i+j)::q/\j < us.length/\okP q (us.getD j (.mk [] []))/\q.length<=jx us
 | [],i,p,hp=>by rw [QE] at hp;cases hp
 | t::ts,i,p,hp=>by
  rw [QE,zh] at hp;rcases hp with hp|hp
  .obtain ⟨q,hq,rfl⟩:=ym.1 hp;obtain ⟨h1,h2⟩:=jqN t q hq;exact ⟨0,q,rfl,by simp,h1,by rw [jx];omega⟩
  .obtain ⟨j,q,rfl,h1,h2,h3⟩:=jqL ts (i+1) p hp;exact ⟨j+1,q,by rw [show i+1+j=i+(j+1) by omega],by simpa using h1,by simpa using h2,by rw [jx];omega⟩
end
theorem juC {q:T->Prop} (hq:∀t,q t-> ∀u∈t.args,q u):∀ {p:List Nat} {t:T},okP p t->q t->q (atT p t)
 | [],_,_,h=>h
 | i::p,t,hp,h=>by
  obtain ⟨h1,h2⟩:=hp;refine juC (p:=p) hq h2 ?_;rw [qu h1];exact hq t h _ (jr _)
theorem jqK (i:Nat) (p:List Nat):pln (i::p) = .sl 1 ([vi (i:Nat)]::p.map λn=>[vi (n:Nat)]):=rfl
theorem YX {p:List Nat} {i:Nat} (h:i < p.length):jh 1 (pln p) (vi (i:Nat))=some (.elt [vi (p[i]:Nat)] 0):=jb h
theorem at_eq (t:T) (p:List Nat) (ht:Tz t) (hp:okP p t) (hl:p.length<=2000000):G 182 [tm t,pln p]=some (.tup [tm (atT p t),vb true],[]):=by
 have key:=upto (P:=λi=>∀t:T,Tz t->okP (p.drop i) t->jhZ (pln p) (vi i) (sv t.name) (jQ t.args) (sv []) []=some (.tup [tm (atT (p.drop i) t),vb true],[])) (n:=p.length) ?_ ?_ 0 (jE _) t ht hp
 .rw [jGS];simp only [je];exact key
 .intro t ht _;have e1:=jcc t ht;rw [jnw,j4];simp only [je,e1];rfl
 .intro i hi ih t ht hp;have hlt:(i:Int) < ((p.length:Nat):Int):=by omega
  have h5:=jq hi (by show p.length<=9223372036854775807;omega)
  have hs:=ht;unfold Tz at hs;rw [kW] at hs;rw [ji hi] at hp ⊢;obtain ⟨h1,h2⟩:=hp;have hsub:ck (((t.args.length:Nat):Int) - 1)=some (vi (((t.args.length:Nat):Int) - 1)):=j8 (by omega) (by omega);have hin:=yb ((p[i]:Nat):Int) 0 (((t.args.length:Nat):Int) - 1);have hb:qg 0 (((t.args.length:Nat):Int) - 1) ((p[i]:Nat):Int)=true:=by unfold qg;simp;omega
  rw [hb] at hin;have e:t.args.getD p[i] (.mk [] [])=t.args[p[i]]:=qu h1;rw [e] at h2;have ih:=ih _ (ht.args _ (jr h1)) h2;rw [jnw,atT,e];simp only [je,hlt,YX hi,hsub,hin,jb h1,jf,h5,ih]
theorem juE (t:T) (ht:Tz t):jmd (sv t.name) (jQ t.args)=some (.top,[sv t.name,jQ t.args]):=by
 have h:=ht;unfold Tz at h;rw [kW] at h;have key:=(upto (P:=λi=>jd9 (vi i) (sv t.name) (jQ t.args) (sv []) (sv t.name) [] ((t.args.take i).map jm)=some (.top,[sv t.name,jQ t.args])) (n:=t.args.length) ?_ ?_ 0 (jE _))
 .rw [jEK];simp only [jP,Jv,ya] at key;simp only [je,key]
 .rw [jpZ,jfk];simp only [je]
 .intro i hi ih';have hlt:(i:Int) < ((t.args.length:Nat):Int):=by omega
  have h5:=jq hi (by show t.args.length<=9223372036854775807;omega)
  have e1:=jcc t.args[i] (by have:=yL (jr hi);omega)
  have hf:jW (i+1) 40=true:=jqD (by omega);have hl:((t.args.take i).map jm).length=i:=by rw [jK,qD];omega
  have ha:kq ((t.args.take i).map jm) [[sv t.args[i].name,jQ t.args[i].args]]=(t.args.take (i+1)).map jm:=by
   rw [show [sv t.args[i].name,jQ t.args[i].args]=jm t.args[i] from (zq _).symm,jbp,zk hi,zz];rfl
  rw [jpZ];simp only [je,hlt,jb hi,jf,e1,hl,hf,ha,h5,ih',qD,ja9 (Z1 hi)]
theorem joo (s:T) (hs:Tz s):∀(p:List Nat) (t:T),Tz t->okP p t->p.length<=2000000->G 185 [tm t,pln p,tm s]=some (tm (zt s p t),[])
 | [],t,_,_,_=>by
  have e1:=juE s hs;have hz:(((0:Nat):Int)=0)=True:=by simp
  rw [jGT,zt];simp only [je,hz,e1,ya,qk]
 | i::p,t,ht,hp,hl=>by
  obtain ⟨h1,h2⟩:=hp;have e:t.args.getD i (.mk [] [])=t.args[i]:=qu h1;rw [e] at h2;have e1:=juE t ht;have e2:=joo s hs p t.args[i] (ht.args _ (jr h1)) h2 (by rw [zM] at hl;omega);have hz:¬((p.length+1:Nat):Int)=0:=by omega
  have hz2:¬((p.length:Nat):Int)+1=0:=by omega
  have i0:jh 1 (pln (i::p)) (vi 0)=some (.elt [vi (i:Nat)] 0):=YX (p:=i::p) (i:=0) (by simp);have sl:zZ 1 (pln (i::p)) (some (vi 1)) none=some (pln p):=by
   have:=yZ (k:=1) (xs:=(i::p).map λn:Nat=>[vi (n:Nat)]) (i:=1) (by simp);exact this
  have ix:Q4 t.args.length (vi (i:Nat))=some i:=yj h1;have rg:jga (t.args.map jm) i=some (jm t.args[i]):=by unfold jga;simp [h1]
  have co:KR (jm t.args[i]) 0 [sv (zt s p t.args[i]).name,jQ (zt s p t.args[i]).args]=jm (zt s p t.args[i]):=by rw [zq,zq];rfl
  have rs:K9 (t.args.map jm) i (jm (zt s p t.args[i]))=(t.args.set i (zt s p t.args[i])).map jm:=by unfold K9;rw [List.map_set]
  have ll:(zg (pln (i::p)))=some (vi ((p.length+1:Nat):Int)):=by rw [jqK];simp only [je]
  rw [jGT,zt,e];simp only [je,ll,hz,e1,i0,jb h1,jf,sl,e2,ix,rg,co,rs,qk];rfl
theorem jfe {n:List UInt8} (h:jp n=true):n.length<=4:=by
 cases n with
 | nil=>simp
 | cons c r=>
  simp only [jp,ju,kG] at h;rw [zM];omega
theorem jwL {n:List UInt8} (h:qP n=true):n.length<=6:=by
 cases n with
 | nil=>simp
 | cons c r=>
  simp only [qP,ju,kG] at h;rw [zM];omega
theorem jdM:∀t:T,yv t=true->tsz t<=10 * nodes t:=by
 refine T.ind λt ih hk=> ?_;have hL:∀us:List T,(∀u∈us,tsz u<=10 * nodes u)->Qc us<=10 * jx us:=by
  intro us;induction us with
  | nil=>intro _;simp [Qc]
  | cons u us ih2=>
   intro h;have:=h u (by simp);have:=ih2 λw hw=>h w (by simp [hw]);simp only [Qc,jx];omega
 have h1:=hL t.args λu hu=>ih u hu (zK hk u hu);rw [kW,jU];rw [yT] at hk;cases hv:jp t.name with
 | true=>
  rw [hv,jl rfl] at hk;have:=jfe hv;rw [jdl.1 hk] at h1 ⊢;simp only [qO,Qc] at h1 ⊢;omega
 | false=>
  rw [hv,jo kh,ju,ju,kG] at hk;have:=jwL hk.1;omega
theorem jlU {u:js} {Z:Nat} (hZ:1<=Z) (hu:∀q∈u,nodes q.2<=Z):∀t:T,nodes (sub u t)<=nodes t * Z:=by
 refine T.ind λt ih=> ?_;cases hv:jp t.name with
 | true=>
  have h1:=qH t;have h2:1 * Z<=nodes t * Z:=jcC Z h1;rw [K0 hv,jbC];cases hl:look u t.name with
  | none=>show 1+0<=_;omega
  | some r=>have:nodes r<=Z:=hu _ (qV hl);show nodes r<=_;omega
 | false=>
  have hL:∀us:List T,(∀v∈us,nodes (sub u v)<=nodes v * Z)->jx (us.map (sub u))<=jx us * Z:=by
   intro us;induction us with
   | nil=>intro _;simp [jx]
   | cons v us ih2=>
    intro h;have:=h v (by simp);have:=ih2 λw hw=>h w (by simp [hw]);simp only [yH,jx,qf];omega
  have:=hL t.args ih;rw [jU,je9 hv,jU t,qf];omega
theorem qp {t u:T} (h:u∈t.args):nodes u < nodes t:=by
 have:=qz h;have:=jU t;omega
def Vs (t:T):Prop:=yv t=true/\nodes t<=30
theorem Vs.args {t:T} (h:Vs t):∀u∈t.args,Vs u:=λu hu=>⟨zK h.1 u hu,by have:=qp hu;have:=h.2;omega⟩
theorem Vs.tz {t:T} (h:Vs t):Tz t:=by
 have:=jdM t h.1;have:=h.2;unfold Tz;omega
def RS (rs:List T):Prop:=rs.length<=10/\ ∀r∈rs,r.args.length=2/\Vs (Jx r)/\Vs (Za r)
theorem RS.ok {rs:List T} (h:RS rs):jm7 rs:=λr hr=>⟨(h.2 r hr).2.1.1,(h.2 r hr).2.2.1⟩
def EX (root:Bool) (t:T):Prop:=(nodes t<=31/\Tz t)/\(∀u∈t.args,Vs u)/\(root=true->Vs t)
theorem jzG {a s:T} {m:js} (hs:Vs s) (h:mt [] a s=some m):MOk Vs m:=ji7 (p:=Vs) (λ_ h=>h.args) a (MOk.nil _) hs h
theorem jlJ {r:T} (hl:r.args.length=2):jh 2 (jQ r.args) (vi 0)=some (.elt (jm (Jx r)) 0)/\jh 2 (jQ r.args) (vi 1)=some (.elt (jm (Za r)) 0):=by
 have i0:jh 2 (jQ r.args) (vi 0)=some (.elt (jm r.args[0]) 0):=jb (i:=0) (by omega);have i1:jh 2 (jQ r.args) (vi 1)=some (.elt (jm r.args[1]) 0):=jb (i:=1) (by omega);have e0:Jx r=r.args[0]:=qu (by omega);have e1:Za r=r.args[1]:=qu (by omega);rw [e0,e1];exact ⟨i0,i1⟩
theorem jAD {m:js} {r:T} (hm:MOk Vs m) (hr:Vs r):yv (sub m r)=true/\nodes (sub m r)<=900/\Tz (sub m r):=by
 have h1:=ja7 (u:=m) (λq hq=>(hm.2 q hq).2.1) r hr.1;have h2:=jlU (u:=m) (Z:=30) (by decide) (λq hq=>(hm.2 q hq).2.2) r;have h3:=hr.2;have h4:=jdM _ h1;exact ⟨h1,by omega,by unfold Tz;omega⟩
theorem jAn {rs:List T} (hr:RS rs) {s v:T} (hs:Vs s) (h:J2 rs s=some v):yv v=true/\nodes v<=900:=by
 have key:∀rs:List T,(∀r∈rs,r.args.length=2/\Vs (Jx r)/\Vs (Za r))->J2 rs s=some v->yv v=true/\nodes v<=900:=by
  intro rs;induction rs with
  | nil=>intro _ h;simp [J2] at h
  | cons r rs ih=>
   intro hr h;rw [J2] at h;split at h
   .rename_i m hm;cases h;obtain ⟨a,b,_⟩:=jAD (jzG hs hm) (hr r (by simp)).2.2;exact ⟨a,b⟩
   .exact ih (λq hq=>hr q (by simp [hq])) h
 exact key rs hr.2 h
def jCs (t:T) (o:Option T):Option Out:=match o with|some u=>some (.tup [tm u,vb true],[])|none=>some (.tup [tm t,vb false],[])
theorem EX.at {root:Bool} {t:T} (h:EX root t) {p:List Nat} (hp:okP p t) (hne:¬(p = []/\root=false)):Vs (atT p t):=by
 obtain ⟨_,h1,h2⟩:=h;cases p with
 | nil=>
  cases root
  .exact absurd ⟨rfl,rfl⟩ hne
  .exact h2 rfl
 | cons i p=>
  obtain ⟨a,b⟩:=hp;refine juC (p:=p) (q:=Vs) (λ_ h=>h.args) b ?_;rw [qu a];exact h1 _ (jr _)
theorem jvY (rs:List T) (hr:RS rs) (root:Bool) (t:T) (h:EX root t):G 245 [tm t,jQ rs,vb root]=jCs t (jal rs root t):=by
 have hrt:=h.1.2;have hpost:=post_eq t [] hrt (by have:=hrt;unfold Tz at this;simp;omega);have hpost:G 269 [tm t,.sl 1 []]=some (.sl 1 ((jao t).map plc),[]):=hpost;have hok:=jqN t;have hln:=jf7 t;have hr1:=hr.1;rw [<-jvX];generalize hP:jao t=P at *;have key:=upto (P:=λi=>jfC (jQ rs) (vb root) (.sl 1 (P.map plc)) (vi i) (sv t.name) (jQ t.args) (sv []) []=jCs t ((P.drop i).findSome? (Qa rs root t))) (n:=P.length) ?_ ?_ 0 (jE _)
 .rw [jJT];simp only [jP,kj] at key;simp only [je,hpost,key]
 .rw [jsG,j4];show _=some (A.tup [tm t,vb false],[]);simp only [je]
 .intro i hi ih;have hn:=h.1.1;have hlt:(i:Int) < ((P.length:Nat):Int):=by omega
  have h5:=jq hi (by show P.length<=9223372036854775807;omega)
  have hpi:jh 1 (.sl 1 (P.map plc)) (vi (i:Nat))=some (.elt (plc P[i]) 0):=jb hi;have hpl:zg (pln P[i])=some (vi ((P[i].length:Nat):Int)):=by simp only [je]
  obtain ⟨ho,hl⟩:=hok P[i] (jr _);rw [ji hi,jbo];by_cases hc:P[i] = []/\root=false
  .rw [Qa,jl hc];obtain ⟨c1,c2⟩:=hc;subst c2;have c3:(((P[i]).length:Nat):Int)=0:=by rw [c1];rfl
   rw [jsG];simp only [je,hlt,hpi,hpl,c3,h5,ih]
  .have hs:=h.at ho hc;rw [Qa,jo hc];have e1:=at_eq t P[i] hrt ho (by omega);have inner:∀j,j<=rs.length->jfD (jQ rs) (vb root) (.sl 1 (P.map plc)) (vi i) (vi j) (sv t.name) (jQ t.args) (sv []) (sv (atT P[i] t).name) (jQ (atT P[i] t).args) []=(match J2 (rs.drop j) (atT P[i] t) with|some v=>jCs t (some (zt v P[i] t))|none=>jCs t ((P.drop (i+1)).findSome? (Qa rs root t))):=by
    refine upto ?_ ?_
    .rw [jzg,j4,J2];simp only [je,h5,ih]
    .intro j hj ihj;have hltj:(j:Int) < ((rs.length:Nat):Int):=by omega
     have h5j:=jq hj (by show rs.length<=9223372036854775807;omega)
     obtain ⟨hr2,hr3,hr4⟩:=hr.2 rs[j] (jr _);obtain ⟨i0,i1⟩:=jlJ hr2;have ad:ye (.elt (jm rs[j]) 0) 1=some (.elt (jm rs[j]) 1):=by rw [qI]
     have lp:ku (.elt (jm rs[j]) 1)=some (jQ rs[j].args):=by rw [zq];rfl
     have q:=jp5 (Jx rs[j]) hr3.tz (atT P[i] t) [] hs.tz (λq hq=>by cases hq) (by have:=hr3.2;simp;omega)
     rw [jzg,ji hj,J2];cases hm:mt [] (Jx rs[j]) (atT P[i] t) with
     | none=>
      rw [hm] at q;obtain ⟨R,q⟩:=q;have q:jhO (tm (Jx rs[j])) (sv (atT P[i] t).name) (jQ (atT P[i] t).args) []=some (.top,[vb false,.sl 259 R]):=q;simp only [je,hltj,jb hj,ad,lp,i0,jf,q,qk,h5j,ihj]
     | some m=>
      rw [hm] at q;have q:jhO (tm (Jx rs[j])) (sv (atT P[i] t).name) (jQ (atT P[i] t).args) []=some (.top,[vb true,.sl 259 (m.map bc)]):=q;have hM:=jzG hs hm;obtain ⟨_,hml⟩:=jfY (p:=Vs) (λ_ h=>h.args) _ (m:=[]) (λq hq=>by cases hq) hs hm;have hml:m.length<=30:=by have:=hr3.2;simp at hml;omega
      have p1:=jz8 m (λq hq=>(hM.2 q hq).2.tz) (by omega);have hsz:Sz 1048576 (Jo m):=by
       refine ⟨?_,λq hq=> ?_⟩
       .have:=jk6 m [];show (Jo m).length<=_;unfold Jo;simp at this;omega
       .have hq:=jwd hq;have:=jfe (hM.2 q hq).1;have:=(hM.2 q hq).2.tz;unfold Tz at this;exact ⟨by omega,by omega⟩
      have p2:=Zo (Jo m) hsz (Za rs[j]) hr4.tz;rw [jwK (m:=m) ⟨hM.1,λq hq=>⟨(hM.2 q hq).1,(hM.2 q hq).2.1⟩⟩] at p2;obtain ⟨_,_,s3⟩:=jAD hM hr4;have p3:=joo (sub m (Za rs[j])) s3 P[i] t hrt ho (by omega);show _=some (A.tup [tm (zt (sub m (Za rs[j])) P[i] t),vb true],[]);simp only [je,hltj,jb hj,ad,lp,i0,i1,jf,q,qk,hpi,p1,p2,p3]
   have inner:=inner 0 (jE _);simp only [kj,jP] at inner;have fin:jfC (jQ rs) (vb root) (.sl 1 (P.map plc)) (vi i) (sv t.name) (jQ t.args) (sv []) []=jfD (jQ rs) (vb root) (.sl 1 (P.map plc)) (vi i) (vi 0) (sv t.name) (jQ t.args) (sv []) (sv (atT P[i] t).name) (jQ (atT P[i] t).args) []:=by
    rw [jsG];cases root with
    | true=>
     by_cases c:(((P[i]).length:Nat):Int)=0
     .simp only [je,hlt,hpi,hpl,c,e1]
     .simp only [je,hlt,hpi,hpl,c,e1]
    | false=>
     have c:¬(((P[i]).length:Nat):Int)=0:=λc=>hc ⟨jhc.1 (by omega),rfl⟩;simp only [je,hlt,hpi,hpl,c,e1]
   rw [fin,inner];cases J2 rs (atT P[i] t) with
   | none=>rfl
   | some v=>rfl
def jji (o:Option T):Option Out:=match o with|some u=>some (.tup [tm u,vb true],[])|none=>some (.tup [.agg [sv [],.sl 2 []],vb false],[])
theorem jsV (rs:List T) (hr:RS rs):∀(t:T) (root:Bool),Tz t->(∀u∈t.args,Vs u)->(root=true->Vs t\/ ∀r∈rs,mt [] (Jx r) t=none)->G 200 [tm t,jQ rs,vb root]=jji (jal rs root t):=by
 refine T.ind λt ih root ht hA hRt=> ?_;have hs:=ht;unfold Tz at hs;rw [kW] at hs;have hr1:=hr.1;have second:jfz (vb root) (jQ rs) (vi (rs.length:Nat)) (vi 0) (sv t.name) (jQ t.args) (sv []) []=jji (if root then J2 rs t else none):=by
  have key:=upto (P:=λj=>jfz (vb root) (jQ rs) (vi (rs.length:Nat)) (vi j) (sv t.name) (jQ t.args) (sv []) []=jji (if root then J2 (rs.drop j) t else none)) (n:=rs.length) ?_ ?_ 0 (jE _)
  .exact key
  .rw [jyS,j4,J2,ite_self];show _=some (A.tup [.agg [sv [],.sl 2 []],vb false],[]);simp only [je]
  .intro j hj ihj;have hltj:(j:Int) < ((rs.length:Nat):Int):=by omega
   have h5j:=jq hj (by show rs.length<=9223372036854775807;omega)
   obtain ⟨hr2,hr3,hr4⟩:=hr.2 rs[j] (jr _);obtain ⟨i0,i1⟩:=jlJ hr2;rw [jyS,ji hj,J2];cases root with
   | false=>
    simp only [je,hltj,jb hj,jf,h5j,ihj]
   | true=>
    have q:=jvS (Jx rs[j]) hr3.tz hr3.1 t [] ht (λq hq=>by cases hq);cases hm:mt [] (Jx rs[j]) t with
    | none=>
     rw [hm] at q;obtain ⟨R,q⟩:=q;have q:QJ (tm (Jx rs[j])) (sv t.name) (jQ t.args) []=some (.top,[vb false,.sl 128 R]):=q;simp only [je,hltj,jb hj,i0,jf,q,qk,h5j,ihj]
    | some m=>
     rw [hm] at q;have q:QJ (tm (Jx rs[j])) (sv t.name) (jQ t.args) []=some (.top,[vb true,.sl 128 (m.map kv)]):=q;have hM:=(match hRt rfl with|Or.inl hv=>jzG hv hm|Or.inr hno=>by rw [hno _ (jr _)] at hm;cases hm);have p1:=jta (m:=m) (λq hq=>(hM.2 q hq).1) (λq hq=>(hM.2 q hq).2.tz) (Za rs[j]) hr4.tz hr4.1;show _=some (A.tup [tm (sub m (Za rs[j])),vb true],[]);simp only [je,hltj,jb hj,i0,i1,jf,q,qk,p1]
 have first:∀i,i<=t.args.length->jmB (jQ rs) (vb root) (jQ t.args) (vi (t.args.length:Nat)) (vi i) (sv t.name) (jQ t.args) (sv []) []=(match ZT rs (t.args.drop i) with|some us=>jji (some (.mk t.name (t.args.take i++us)))|none=>jji (if root then J2 rs t else none)):=by
  refine upto ?_ ?_
  .rw [jyR,j4,ZT];simp only [je,second]
  .intro i hi ih2;have hlt:(i:Int) < ((t.args.length:Nat):Int):=by omega
   have h5:=jq hi (by show t.args.length<=9223372036854775807;omega)
   have hu:t.args[i]∈t.args:=jr _;have hv:=hA _ hu;have e1:=ih t.args[i] hu true hv.tz hv.args λ_=>Or.inl hv;rw [jyR,ji hi,ZT];cases ho:jal rs true t.args[i] with
   | none=>
    rw [ho] at e1;have e1:G 200 [tm t.args[i],jQ rs,vb true]=some (.tup [.agg [sv [],.sl 2 []],vb false],[]):=e1;simp only [je,hlt,jb hi,jf,e1,h5,ih2];cases ZT rs (t.args.drop (i+1)) with
    | none=>rfl
    | some us=>
     show jji (some (.mk t.name (t.args.take (i+1)++us)))=jji (some (.mk t.name (t.args.take i++t.args[i]::us)));have e:t.args.take (i+1)++us=t.args.take i++t.args[i]::us:=by
      rw [jbp,zk hi,zH];rfl
     rw [e]
   | some u=>
    rw [ho] at e1;have e1:G 200 [tm t.args[i],jQ rs,vb true]=some (.tup [tm u,vb true],[]):=e1;have e2:=jng t ht;have ix:Q4 t.args.length (vi (i:Nat))=some i:=yj hi;have rg:jga (t.args.map jm) i=some (jm t.args[i]):=by unfold jga;simp [hi]
    have co:KR (jm t.args[i]) 0 [sv u.name,jQ u.args]=jm u:=by rw [zq,zq];rfl
    have rs':K9 (t.args.map jm) i (jm u)=(t.args.take i++u::t.args.drop (i+1)).map jm:=by
     unfold K9;rw [<-List.map_set,List.set_eq_take_append_cons_drop,jl hi]
    show _=some (A.tup [tm (.mk t.name (t.args.take i++u::t.args.drop (i+1))),vb true],[]);simp only [je,hlt,jb hi,jf,e1,e2,ix,rg,co,rs',qk];rfl
 have first:=first 0 (jE _)
 simp only [kj,jP,Jv,KN] at first
 rw [jJn,jeQ];simp only [je,first];cases ZT rs t.args<;>rfl
theorem jvW (rs:List T) (hr:RS rs) (t:T) (root:Bool) (h:EX root t):G 200 [tm t,jQ rs,vb root]=jji (jal rs root t):=jsV rs hr t root h.1.2 h.2.1 λe=>Or.inl (h.2.2 e)
def Srt (l:List (List UInt8)):Prop:=l.Pairwise λx y=>x < y
theorem Y8 (x y:List UInt8):yQ x y=decide (x < y):=Go.Proofs.bytesLess_eq x y
theorem jzD {x y:List UInt8} (h1:¬x < y) (h2:x≠y):y < x:=by
 have h3:y<=x:=List.not_lt.1 h1;exact Std.lt_of_le_of_ne h3 (Ne.symm h2)
theorem juT:∀(a b:List (List UInt8)),Srt a->Srt b->(∀n,n∈a↔n∈b)->a=b
 | [],[],_,_,_=>rfl
 | [],y::b,_,_,h=>by have:=(h y).2 (by simp);cases this
 | x::a,[],_,_,h=>by have:=(h x).1 (by simp);cases this
 | x::a,y::b,ha,hb,h=>by
  have ha':=J4.1 ha;have hb':=J4.1 hb;have hxy:x=y:=by
   have h1:x∈y::b:=(h x).1 (by simp);have h2:y∈x::a:=(h y).2 (by simp);rcases j7.1 h1 with h1|h1
   .exact h1
   .rcases j7.1 h2 with h2|h2
    .exact h2.symm
    .exact absurd (jl9 (ha'.1 y h2) (hb'.1 x h1)) (jl8 x)
  subst hxy;refine congrArg (x::·) (juT a b ha'.2 hb'.2 λn=>⟨λhn=> ?_,λhn=> ?_⟩)
  .rcases j7.1 ((h n).1 (Jw _ hn)) with e|e
   .subst e;exact absurd (ha'.1 _ hn) (jl8 _)
   .exact e
  .rcases j7.1 ((h n).2 (Jw _ hn)) with e|e
   .subst e;exact absurd (hb'.1 _ hn) (jl8 _)
   .exact e
theorem jAz {l:List (List UInt8)} (h:l.Nodup):Srt (y5 l):=by
 have h1:(y5 l).Pairwise λx y=>decide (x<=y)=true:=List.pairwise_mergeSort (λa b c h1 h2=>by simp only [kG] at *;exact List.le_trans h1 h2) (λa b=>by simp only [jgq,kG];exact List.le_total a b) l
 have h2:(y5 l).Nodup:=(List.mergeSort_perm l _).nodup_iff.2 h;exact (h1.and h2).imp λ{x y} hxy=>Std.lt_of_le_of_ne (by simpa using hxy.1) hxy.2
theorem juU {l:List (List UInt8)} {s:List UInt8} {i:Nat} (hl:Srt l) (h1:∀x∈l.take i,x < s) (h2:∀h:i < l.length,s < l[i]):Srt (l.take i++[s]++l.drop i):=by
 have hl':Srt (l.take i++l.drop i):=by rw [Ql];exact hl
 obtain ⟨p1,p2,p3⟩:=jmb.1 hl';have h3:∀y∈l.drop i,s < y:=by
  intro y hy;have hlt:i < l.length:=by
   rcases jfj i l.length with h|h
   .exact h
   .rw [jmc h] at hy;cases hy
  rw [jot hlt] at hy p2;rcases j7.1 hy with e|e
  .subst e;exact h2 hlt
  .exact jl9 (h2 hlt) ((J4.1 p2).1 y e)
 refine jmb.2 ⟨jmb.2 ⟨p1,by simp,λa ha b hb=> ?_⟩,p2,λa ha b hb=> ?_⟩
 .rw [zi.1 hb];exact h1 a ha
 .rcases zh.1 ha with ha|ha
  .exact p3 a ha b hb
  .rw [zi.1 ha];exact h3 b hb
theorem jwE {l:List (List UInt8)} (h:Srt l):l.Nodup:=h.imp λ{x y} hxy e=>by subst e;exact jl8 _ hxy
mutual
def Qb:T->List (List UInt8)
 | .mk n us=>(if jp n then [] else [n])++JL us
def JL:List T->List (List UInt8)
 | []=>[]
 | t::ts=>Qb t++JL ts
end
theorem jas (t:T):Qb t=(if jp t.name then [] else [t.name])++JL t.args:=by cases t;rfl
theorem jvB (l:List (List UInt8)) (s:List UInt8) (hl:l.length<=2100000):∃r,G 240 [strs l,sv s]=some (strs r,[])/\jd2 l [s] 1 r/\(Srt l->Srt r):=by
 have key:=upto (P:=λi=>(Srt l-> ∀x∈l.take i,x < s)-> ∃r,jh8 (strs l) (sv s) (vi i)=some (strs r,[])/\jd2 l [s] 1 r/\(Srt l->Srt r)) (n:=l.length) ?_ ?_ 0 (jE _)
 .simp only [jP] at key;rw [jGY];exact key (by simp)
 .intro hless;have hx:¬((l.length:Nat):Int) < ((l.length:Nat):Int):=Int.lt_irrefl _;have s1:zZ 1 (strs l) none (some (vi (l.length:Nat)))=some (strs l):=by rw [JC (by simp),ql (by simp)]
  have s2:zZ 1 (strs l) (some (vi (l.length:Nat))) none=some (.sl 1 []):=by rw [yZ (by simp),jmc (by simp)]
  have f1:jW l.length 16=true:=Kl (by omega);have f2:jW (l.length+1) 16=true:=Kl (by omega);have happ:kq (kq (l.map cs) [[sv s]]) []=(l++[s]).map cs:=by simp [kq]
  have hlen:(kq (l.map cs) [[sv s]]).length=l.length+1:=by simp [kq]
  refine ⟨l++[s],?_,⟨by intro n;simp,by simp⟩,λh=> ?_⟩
  .rw [jnx];simp only [je,hx,s1,s2,f1,f2,hlen,happ,j6]
  .have:=juU (s:=s) (i:=l.length) h (hless h) (λh=>absurd h (Nat.lt_irrefl _));simpa using this
 .intro i hi ih hless;have hlt:(i:Int) < ((l.length:Nat):Int):=by omega
  have h5:=jq hi (by omega);rw [jnx];cases h1:yQ l[i] s
  .by_cases h2:l[i]=s
   .refine ⟨l,?_,⟨λn=>⟨λh=>Or.inl h,λh=>by
     rcases h with h|h
     .exact h
     .simp at h;rw [h,<-h2];exact jr _⟩,by omega⟩,id⟩
    rw [h2] at h1;simp only [je,hlt,jb hi,h2,h1]
   .have s1:zZ 1 (strs l) none (some (vi i))=some (strs (l.take i)):=by rw [JC (by simp;omega),<-jfm]
    have s2:zZ 1 (strs l) (some (vi i)) none=some (strs (l.drop i)):=by rw [yZ (by simp;omega),<-jfl]
    have ht:(l.take i).length=i:=by rw [qD];omega
    have f1:jW i 16=true:=Kl (by omega);have f2:jW (i+1) 16=true:=Kl (by omega);have f3:jW (i+1+(l.drop i).length) 16=true:=Kl (by rw [qS];omega);have happ:kq (kq ((l.take i).map cs) [[sv s]]) ((l.drop i).map cs)=(l.take i++[s]++l.drop i).map cs:=by simp [kq]
    have hlen:(kq ((l.take i).map cs) [[sv s]]).length=i+1:=by simp [kq];omega
    refine ⟨l.take i++[s]++l.drop i,?_,⟨λn=> ?_,by simp;omega⟩,λh=> ?_⟩
    .simp only [je,hlt,jb hi,h1,h2,s1,s2,ht,f1,f2,f3,hlen,happ]
    .have hm:n∈l↔n∈l.take i\/n∈l.drop i:=by rw [<-zh,Ql]
     simp only [zh,zi,hm];exact ⟨λh=>by rcases h with (h|h)|h<;>simp [h],λh=>by rcases h with (h|h)|h<;>simp [h]⟩
    .rw [Y8,Yc] at h1;exact juU h (hless h) λ_=>jzD h1 h2
  .have hx:l[i] < s:=by rw [Y8,kG] at h1;exact h1
   obtain ⟨r,e,c⟩:=ih λh x hm=>by
    rw [List.take_succ_eq_append_getElem hi] at hm;rcases zh.1 hm with hm|hm
    .exact hless h x hm
    .rw [zi.1 hm];exact hx
   refine ⟨r,?_,c⟩;simp only [je,hlt,jb hi,h1,h5,e]
theorem jgO:∀t:T,J3 t-> ∀l:List (List UInt8),l.length+nodes t<=2100000-> ∃r,G 212 [strs l,tm t]=some (strs r,[])/\jd2 l (Qb t) (nodes t) r/\(Srt l->Srt r):=by
 refine T.ind λt ih hw l hb=> ?_;obtain ⟨w1,w2,w3⟩:=(kH t).1 hw;have w3:=(kE _).1 w3;have e1:=zE t.name w1;rw [jJx,jas];rw [jU] at hb ⊢;have key:=upto (P:=λi=>∀l:List (List UInt8),l.length+jx (t.args.drop i)<=2100000-> ∃r,jh3 (strs l) (vi i) (sv t.name) (jQ t.args)=some (strs r,[])/\jd2 l (JL (t.args.drop i)) (jx (t.args.drop i)) r/\(Srt l->Srt r)) (n:=t.args.length) ?_ ?_ 0 (jE _)
 .simp only [jP,kj] at key;cases hv:jp t.name<;>rw [hv] at e1
  .obtain ⟨r0,e0,⟨b1,b2⟩,b3⟩:=jvB l t.name (by omega);obtain ⟨r,e,⟨c1,c2⟩,c3⟩:=key r0 (by omega);refine ⟨r,?_,⟨λn=> ?_,by omega⟩,λh=>c3 (b3 h)⟩
   .simp only [je,e1,e0,e]
   .rw [c1,b1];simp only [Zg,K6,zh];exact jbq
  .obtain ⟨r,e,⟨c1,c2⟩,c3⟩:=key l (by omega);refine ⟨r,?_,⟨by simpa using c1,by omega⟩,c3⟩;simp only [je,e1,e]
 .intro l hb;rw [jy0,j4];refine ⟨l,?_,⟨by simp [JL],by omega⟩,id⟩;simp only [je]
 .intro i hi ih' l hb;have hlt:(i:Int) < ((t.args.length:Nat):Int):=by omega
  have h5:=jq hi w2;rw [ji hi] at hb ⊢;simp only [jx,JL] at hb ⊢;obtain ⟨r1,a1,⟨c1,c2⟩,c3⟩:=ih t.args[i] (jr _) (w3 _ (jr _)) l (by omega);obtain ⟨r2,a2,⟨d1,d2⟩,d3⟩:=ih' r1 (by omega);rw [jy0];refine ⟨r2,?_,⟨λn=> ?_,by omega⟩,λh=>d3 (c3 h)⟩
  .simp only [je,hlt,jb hi,jf,a1,h5,a2]
  .rw [d1,c1,zh];exact jbq
theorem jjY {n:List UInt8} (h:jp n=true):qP n=false:=by
 cases n with
 | nil=>rfl
 | cons c r=>
  simp only [jp,ju,upc,qg,kG] at h;have:jdD c=false:=by unfold jdD qg;rw [Bool.and_eq_false_iff];left;rw [Yc];omega
  simp [qP,this]
theorem jrs {t:T} (h:yv t=true):qP t.name=!jp t.name:=by
 obtain ⟨c,r,_,hv,hs⟩:=jqu h;cases hx:jp t.name
 .rw [hv] at hx;rw [hs hx];rfl
 .rw [jjY hx];rfl
def jkP (l vs:List (List UInt8)) (k:Nat) (r:List (List UInt8)):Prop:=jd2 l vs k r/\(l.Nodup->r.Nodup)
theorem jct (ts:List T) (hl:ts.length<=9223372036854775807) (ih:∀t∈ts,∀l:List (List UInt8),l.length+nodes t<=2100000-> ∃r,jax (sv t.name) (jQ t.args) (l.map cs)=some (.top,[strs r])/\jkP l (Qb t) (nodes t) r) :
  ∀i,i<=ts.length-> ∀l:List (List UInt8),l.length+jx (ts.drop i)<=2100000-> ∃r,jea (jQ ts) (vi (ts.length:Nat)) (vi i) (l.map cs)=some (.top,[strs r])/\jkP l (JL (ts.drop i)) (jx (ts.drop i)) r:=by
 refine upto ?_ ?_
 .intro l hb;rw [jp0,j4];refine ⟨l,?_,⟨by simp [JL],by omega⟩,id⟩;simp only [je]
 .intro i hi ih' l hb;have hlt:(i:Int) < ((ts.length:Nat):Int):=by omega
  have h5:=jq hi hl;rw [ji hi] at hb ⊢;simp only [jx,JL] at hb ⊢;obtain ⟨r1,e1,⟨c1,c2⟩,c3⟩:=ih ts[i] (jr _) l (by omega);obtain ⟨r2,e2,⟨d1,d2⟩,d3⟩:=ih' r1 (by omega);rw [jp0];refine ⟨r2,?_,⟨λn=> ?_,by omega⟩,λh=>d3 (c3 h)⟩
  .simp only [je,hlt,jb hi,jf,e1,h5,e2]
  .rw [d1,c1,zh];exact jbq
theorem jbl (ts:List T) (hl:ts.length<=9223372036854775807) (ih:∀t∈ts,∀l:List (List UInt8),l.length+nodes t<=2100000-> ∃r,jax (sv t.name) (jQ t.args) (l.map cs)=some (.top,[strs r])/\jkP l (Qb t) (nodes t) r) (l:List (List UInt8)) (hb:l.length+jx ts<=2100000) :
  ∃r,jh6 (jQ ts) (vi (ts.length:Nat)) (vi 0) (l.map cs)=some (.top,[strs r])/\jkP l (JL ts) (jx ts) r:=by
 have loop:=jct ts hl ih;rw [jy5];by_cases h0:ts.length=0
 .have ha:ts = []:=jhc.1 h0;rw [ha];refine ⟨l,?_,⟨by simp [JL],by simp [jx]⟩,id⟩;simp only [je];rfl
 .have hi:0 < ts.length:=by omega
  have hlt:(0:Int) < ((ts.length:Nat):Int):=by omega
  have hix:jh 2 (jQ ts) (vi 0)=some (.elt (jm ts[0]) 0):=jb (i:=0) hi;have h5:jz .add false (vi 0) (vi 1)=some (vi ((1:Nat):Int)):=by rw [KZ,j8 (by decide) (by decide)];rfl
  have hd:ts=ts[0]::ts.drop 1:=by have:=ji hi;simpa using this
  have hns:jx ts=nodes ts[0]+jx (ts.drop 1):=by conv=>lhs;rw [hd,jx]
  have hvs:JL ts=Qb ts[0]++JL (ts.drop 1):=by conv=>lhs;rw [hd,JL]
  obtain ⟨r1,e1,⟨c1,c2⟩,c3⟩:=ih ts[0] (jr _) l (by omega);obtain ⟨r2,e2,⟨d1,d2⟩,d3⟩:=loop 1 (by omega) r1 (by omega);refine ⟨r2,?_,⟨λn=> ?_,by omega⟩,λh=>d3 (c3 h)⟩
  .simp only [je,hlt,hix,jf,e1,h5,e2]
  .rw [d1,c1,hvs,zh];exact jbq
theorem jfa:∀t:T,J3 t->yv t=true-> ∀l:List (List UInt8),l.length+nodes t<=2100000-> ∃r,jax (sv t.name) (jQ t.args) (l.map cs)=some (.top,[strs r])/\jkP l (Qb t) (nodes t) r:=by
 refine T.ind λt ih hw hk l hb=> ?_;obtain ⟨w1,w2,w3⟩:=(kH t).1 hw;have w3:=(kE _).1 w3;have hks:=zK hk;have e1:=jb3 t.name w1;have e2:=ZF l t.name (by omega);rw [jrs hk] at e1;rw [jEO,jas];have ih':∀u∈t.args,∀l:List (List UInt8),l.length+nodes u<=2100000-> ∃r,jax (sv u.name) (jQ u.args) (l.map cs)=some (.top,[strs r])/\jkP l (Qb u) (nodes u) r:=λu hu=>ih u hu (w3 u hu) (hks u hu);rw [jU] at hb ⊢;cases hv:jp t.name<;>rw [hv] at e1
 .cases hc:l.contains t.name<;>rw [hc] at e2
  .have hn:¬t.name∈l:=by simpa using hc
   obtain ⟨r,e,⟨c1,c2⟩,c3⟩:=jct t.args w2 ih' 0 (jE _) (l++[t.name]) (by simp;omega)
   simp only [jP,kj,yn,List.length_singleton] at e c1 c2;have happ:kq (l.map cs) [[sv t.name]]=(l++[t.name]).map cs:=by simp [kq]
   have f1:jW (l.length+1) 16=true:=Kl (by omega);refine ⟨r,?_,⟨λn=> ?_,by omega⟩,λh=>c3 ?_⟩
   .simp only [je,e1,e2,f1,happ,e]
   .rw [c1];simp only [Zg,K6,zh];exact jbq
   .exact jbm.2 ⟨h,by simp,λa ha b hb e=>by rw [zi.1 hb] at e;rw [e] at ha;exact hn ha⟩
  .have hn:t.name∈l:=by simpa using hc
   obtain ⟨r,e,⟨c1,c2⟩,c3⟩:=jbl t.args w2 ih' l (by omega);refine ⟨r,?_,⟨λn=> ?_,by omega⟩,c3⟩
   .simp only [je,e1,e2,e]
   .rw [c1];simp only [Zg,K6,zh,zi];exact ⟨λh=>by rcases h with h|h<;>simp [h],λh=>by
     rcases h with h|h|h
     .exact Or.inl h
     .exact Or.inl (h ▸ hn)
     .exact Or.inr h⟩
 .obtain ⟨r,e,⟨c1,c2⟩,c3⟩:=jbl t.args w2 ih' l (by omega);refine ⟨r,?_,⟨by simpa using c1,by omega⟩,c3⟩;simp only [je,e1,e]
theorem jzZ {n:Nat} (h:n<=4000000):jW n 8=true:=by
 unfold jW;simp;omega
theorem jCF (n:Nat) (h:n<=12):((Jk .u64 (qh [[vi 1]])).bind λt2=>(Jk .u64 (vi n)).bind λt3=>(G 254 [t2,t3]).bind (fin false))=some (.tup [.val (.int .u64 0),.val (.int .u64 n)]):=by
 have c:(Jk .u64 (qh [[vi 1]]))=some (.val (.int .u64 1)):=by kernel_rfl
 have d:Jk .u64 (vi n)=some (.val (.int .u64 n)):=by
  rcases n with _|_|_|_|_|_|_|_|_|_|_|_|_|n
  rotate_right
  .omega
  all_goals kernel_rfl
 rw [c,d];simp only [yo];rw [jJZ];simp only [cev];rw [jKe];clear c d;rcases n with _|_|_|_|_|_|_|_|_|_|_|_|_|n
 rotate_right
 .omega
 all_goals (show _=_;kernel_rfl)
theorem jxM {α:Type} {a b:α} {i j k:Nat} (h:i<=k):(List.replicate i a++List.replicate j b).drop k=List.replicate (j - (k - i)) b:=by
 rw [List.drop_append,List.drop_replicate,List.drop_replicate,K2,show i - k=0 by omega];rfl
theorem jAk {n:Nat} (hn:n<=12) (r1:List (List A)):∀(f j:Nat),n - j<=f->1<=j->j<=n->
  jeb (vi (j:Nat)) (List.replicate j [vi 1]++List.replicate (n - j) [vi 0]) r1=some (.top,[.sl 1 (List.replicate n [vi 1])]):=by
 intro f;induction f with
 | zero=>
  intro j h1 h2 h3;have:j=n:=by omega
  subst this;rw [jeL];simp only [je,yn,K2,jdZ,List.replicate_zero,y8]
 | succ f ih=>
  intro j h1 h2 h3;by_cases hj:j=n
  .subst hj;rw [jeL];simp only [je,yn,K2,jdZ,List.replicate_zero,y8]
  .rw [jeL];simp only [cev];have hl:(List.replicate j [vi 1]++List.replicate (n - j) [vi 0]).length=n:=by simp;omega
   have e1:decide ((j:Int) < (n:Int))=true:=by simp;omega
   have hm:j+min j (n - j)<=n:=by omega
   have e2:jz .add false (vi j) (vi (min j (n - j):Nat))=some (vi (j+min j (n - j):Nat)):=by
    rw [KZ,j8 (by omega) (by omega)];rfl
   have ew:(((List.replicate j [vi 1]++List.replicate (n - j) [vi 0]).drop 0).take j)=List.replicate j [vi 1]:=by
    rw [kj,jfn (by simp),ql (by simp)]
   have eo:qj (List.replicate j [vi 1]++List.replicate (n - j) [vi 0]) (0+j) ((List.replicate j [vi 1]).take (n - j))=List.replicate (j+min j (n - j)) [vi 1]++List.replicate (n - (j+min j (n - j))) [vi 0]:=by
    rw [jap,Jg,jfn (by simp),ql (by simp),List.take_replicate,K2,jxM]
    .rw [List.replicate_append_replicate,Nat.min_comm (n - j) j];congr 2;omega
    .omega
   have key:=ih (j+min j (n - j)) (by omega) (by omega) hm;simp only [Yu,jnZ,qZ,hl,jeS,yo,YW,e1,jep,jdm,yi (kD n),Js h3,jeZ,qW,ew,juH,jqT,K2,e2,eo,key]
theorem jFR {n:Nat} (h:n<=12):jrW (vi (n:Nat)) [[vi 1]]=some (.top,[.sl 1 (List.replicate n [vi 1])]):=by
 rw [jEP];simp only [cev];have e0:decide ((n:Int) < 0)=false:=by simp
 have em:=jCF n h;have eg:decide ((0:Int) < 0)=false:=by simp
 have ec:Jk .i64 (A.val (.int .u64 n))=some (vi n):=j8 (by omega) (by omega);have ek:jz .gtr false (A.val (.int .u64 n)) (A.val (.int .u64 9223372036854775807))=some (vb false):=by
  show some (vb (decide ((9223372036854775807:Int) < n)))=_;rw [kx (by omega)]
 have ek0:jz .gtr false (A.val (.int .u64 0)) (A.val (.int .u64 0))=some (vb false):=rfl;have emk:jjn 8 (vi n) (vi n)=some n:=by
  show (if jA8 8 (n:Int) (n:Int) then some (n:Int).toNat else none)=_;rw [jl ⟨by omega,by omega,by omega,by omega⟩];rfl
 have hm:∀(k:A->A->Option Out),((Jk .u64 (qh [[vi 1]])).bind λt2=>(Jk .u64 (vi n)).bind λt3=>((G 254 [t2,t3]).bind (fin false)).bind λt4=>(QX t4 0).bind λt5=>(QX t4 1).bind λt6=>k t5 t6) =
   k (.val (.int .u64 0)) (.val (.int .u64 n)):=by
  intro k;have:((Jk .u64 (qh [[vi 1]])).bind λt2=>(Jk .u64 (vi n)).bind λt3=>((G 254 [t2,t3]).bind (fin false)).bind λt4=>(QX t4 0).bind λt5=>(QX t4 1).bind λt6=>k t5 t6) =
    (((Jk .u64 (qh [[vi 1]])).bind λt2=>(Jk .u64 (vi n)).bind λt3=>(G 254 [t2,t3]).bind (fin false)).bind λt4=>(QX t4 0).bind λt5=>(QX t4 1).bind λt6=>k t5 t6):=by
   simp only [Option.bind_assoc]
  rw [this,em];rfl
 rw [jeS,e0];simp only [yo,YW,YB];rw [hm];simp only [ek0,ek,yo,jz1,Jm,jjo,Zg,K6,YW,YB,ec,emk,Jp,jnZ,K2];rcases n with _|n
 .have e1:jwh [[vi 1]] 0=vi ((0:Nat):Int):=rfl;have e2:qj (List.replicate 0 [vi 0]) 0 (jlz [[vi 1]] 0) = []:=rfl;rw [e1,e2,jeL];rfl
 .have key:=jAk (n:=n+1) h [[vi 1]] (n+1) 1 (by omega) (by omega) (by omega);have e1:jwh [[vi 1]] (n+1)=vi ((1:Nat):Int):=by
   rw [juH];have:min [[vi 1]].length (n+1)=1:=by simp
   rw [this]
  have e2:qj (List.replicate (n+1) [vi 0]) 0 (jlz [[vi 1]] (n+1))=List.replicate 1 [vi 1]++List.replicate (n+1 - 1) [vi 0]:=by
   rw [jap,jqT];simp [Qf]
  rw [e1,e2];exact key
theorem jjZ {ts:List T} {n:List UInt8} :n∈JL ts↔ ∃t∈ts,n∈Qb t:=by
 induction ts with
 | nil=>simp [JL]
 | cons t ts ih=>simp [JL,ih]
theorem jlV:∀t:T,yv t=true-> ∀n∈Qb t,qP n=true:=by
 refine T.ind λt ih hk n hn=> ?_;rw [jas,zh] at hn;rcases hn with hn|hn
 .cases hv:jp t.name<;>rw [hv] at hn
  .simp at hn;rw [hn,jrs hk,hv];rfl
  .simp at hn
 .obtain ⟨u,hu,hm⟩:=jjZ.1 hn;exact ih u hu (zK hk u hu) n hm
theorem jph (l:List (List UInt8)):∀t:T,(∀n∈Qb t,n∈l)->K7 l t=true:=by
 refine T.ind λt ih h=> ?_;rw [jas] at h;rw [Kj,jaf,ju];refine ⟨?_,qm.2 λu hu=>ih u hu λn hn=>h n (Qg _ (jjZ.2 ⟨u,hu,hn⟩))⟩;cases hv:jp t.name
 .rw [hv] at h;rw [kN];exact jgl.2 (h t.name (by simp))
 .rfl
def jjQ (r:List (List UInt8)):Ord':=⟨r,List.replicate r.length 1,1⟩
theorem jwU {r:List (List UInt8)} (h1:1<=r.length) (h2:r.length<=12) (hs:∀n∈r,qP n=true) (hn:r.Nodup):qe (jjQ r)=true:=by
 have hb:qg 1 12 (r.length:Nat)=true:=by unfold qg;rw [ju,kG,kG];omega
 unfold qe jjQ;simp only [hb,K2,decide_true,jI,ju];refine ⟨by decide,qm.2 λi hi=> ?_⟩;have hi:i < r.length:=List.mem_range.1 hi;have g1:r.getD i []=r[i]:=by simp [qE,hi]
 have g2:(List.replicate r.length (1:Int)).getD i 0=1:=by simp [qE,hi]
 unfold jvf;simp only [g1,g2,hs _ (jr _),jI,ju];refine ⟨?_,by decide⟩;rw [JO,<-Bool.not_eq_true,jgl];intro hm;obtain ⟨j,hj,e⟩:=List.mem_take_iff_getElem.1 hm;have:=(joq.1 hn);have:=jma.1 this j i (by omega) hi (by omega);exact this e
theorem jAF {n:List UInt8} (h:qP n=true):n.length<=6:=by
 cases n with
 | nil=>simp
 | cons c r=>
  simp only [qP,ju,kG] at h;simp only [zM];omega
theorem jip (o:Ord') (s t:T) (hw:J3 s) (hw':J3 t) (x y:Bool) (e5:G 257 [od o,tm s,tm t]=some (vb x,[])) (e6:G 257 [od o,tm t,tm s]=some (vb y,[])):G 226 [od o,tm s,tm t]=some (vi (jbS (dq s t) x y),[]):=by
 have e4:=zw s hw t hw';have c1:G 256 [.elt (jnS o) 0,.elt [sv s.name,.sl 2 (s.args.map jm)] 0,.elt [sv t.name,.sl 2 (t.args.map jm)] 0]=some (vb x,[]):=by
  rw [jGZ];simp only [je,jeU,jeV,e5]
 have c2:G 258 [.elt (jnS o) 0,.elt [sv t.name,.sl 2 (t.args.map jm)] 0,.elt [sv s.name,.sl 2 (s.args.map jm)] 0]=some (vb y,[]):=by
  rw [jG1];simp only [je,jeU,jeV,e6]
 have e7:=jjh (f:=256) (g:=258) rfl rfl (dq s t) _ _ c1 c2;rw [jGX];simp only [je,e4,e7]
theorem jau {t:T} (hk:yv t=true) (hv:jp t.name=true):t.args = []:=by
 rw [yT,hv,jl rfl] at hk;exact jdl.1 hk
theorem jpO (o:Ord') (s t:T) (hw:J3 s) (hw':J3 t) (hk:yv s=true) (hk':yv t=true) (hv:jp s.name=true) (hv':jp t.name=true) (hne:¬s.name=t.name):G 257 [od o,tm s,tm t]=some (vb false,[]):=by
 have as_:=jau hk hv;have at_:=jau hk' hv';have ns:nodes s<=1048577:=by rw [jU,as_];simp [jx]
 have nt:nodes t<=1048577:=by rw [jU,at_];simp [jx]
 obtain ⟨r,er,c1,c2⟩:=jff t hw' hk' nt;have hvt:kT t = [t.name]:=by rw [Qd,jl hv']
 have hpos:0 < r.length:=by
  rcases Nat.eq_zero_or_pos r.length with h|h
  .have hr:r = []:=jhc.1 h;have:=(c1 t.name).2 (by rw [hvt];simp);rw [hr] at this;cases this
  .exact h
 have h0:r[0]=t.name:=by
  have:=(c1 r[0]).1 (jr _);rw [hvt] at this;simpa using this
 have hlt:(0:Int) < ((r.length:Nat):Int):=by omega
 have hix:jh 1 (strs r) (vi 0)=some (.elt (cs t.name) 0):=by have:=jb (k:=1) (f:=cs) (i:=0) hpos;rw [h0] at this;exact this
 have a1:=KU t.name s hw ns;have a2:=KU t.name t hw' nt;have k1:cnt t.name s=0:=by rw [jfP,as_,jo hne];simp [Yk]
 have k2:cnt t.name t=1:=by rw [jfP,at_];simp [Yk]
 rw [k1] at a1;rw [k2] at a2;have h':((0:Nat):Int) < ((1:Nat):Int):=by omega
 rw [jG0];simp only [je,er];rw [jsI];simp only [je,hlt,hix,a1,a2,h']
theorem jAA (a b:T) (r:List (List UInt8)) (hr:r.length<=12) (x:Int) (ok:Bool) (e:G 213 [.agg [strs r,.sl 1 (List.replicate r.length [vi 1]),vi 1],tm a,tm b]=some (.tup [vi x,vb ok],[])) :
  jh0 (vi 0) (sv a.name) (jQ a.args) (sv b.name) (jQ b.args) (strs r) (vi 1) []=some (vi (if ok then x else 0),[]):=by
 have key:=upto (P:=λi=>jh0 (vi i) (sv a.name) (jQ a.args) (sv b.name) (jQ b.args) (strs r) (vi 1) (List.replicate i [vi 1])=some (vi (if ok then x else 0),[])) (n:=r.length) ?_ ?_ 0 (jE _)
 .simpa using key
 .rw [jyH];have hf:fin true (A.tup [vi x,vb ok],[])=some (A.tup [vi x,vb ok]):=rfl;cases ok
  .simp only [je,e,hf]
  .simp only [je,e,hf]
 .intro i hi ih;have hlt:(i:Int) < ((r.length:Nat):Int):=by omega
  have h5:=jq hi (by omega);have f1:jW (i+1) 8=true:=jzZ (by omega);have happ:kq (List.replicate i [vi 1]) [[vi 1]]=List.replicate (i+1) [vi 1]:=by rw [List.replicate_succ'];rfl
  have hlen:(List.replicate i ([vi 1]:List A)).length=i:=K2;rw [jyH];simp only [je,hlt,hlen,f1,h5,happ,ih]
theorem jFi {o:Ord'} (hv:qe o=true) {s t:T} (ks:yv s=true) (hc:K7 o.syms t=true) (h:Kp o s t):jp s.name=false:=by
 cases hs:jp s.name with
 | false=>rfl
 | true=>
  obtain ⟨_,h⟩:=(jxb o s t).1 h;rcases h with h|⟨_,h,_⟩
  .have:=jF9 hv hc;rw [jrG o s,jau ks hs,hs,jl rfl] at h;simp only [wtL] at h;omega
  .rw [hs] at h;cases h.1
theorem jqy (a b:T) (hw:J3 a) (hw':J3 b) (hs:tsz a<=1048576) (hs':tsz b<=1048576) (hva:kY a=true) (hvb:kY b=true) :
  ∃x:Int,G 184 [tm a,tm b]=some (vi x,[])/\G 195 [tm a,tm b]=some (vi x,[])/\(x=2->jp a.name=false):=by
 have hk:yv a=true:=by unfold kY at hva;rw [ju] at hva;exact hva.2
 have hk':yv b=true:=by unfold kY at hvb;rw [ju] at hvb;exact hvb.2
 have na:nodes a<=30:=by simp only [kY,jD,ju,kG] at hva;exact hva.1.1
 have nb:nodes b<=30:=by simp only [kY,jD,ju,kG] at hvb;exact hvb.1.1
 have e1:=qo a hw b hw';have e2:=zw a hw b hw';rw [jJb,jJk];cases hd:dq a b<;>rw [hd] at e1 e2
 rotate_left
 .exact ⟨1,by simp only [je,e1],by simp only [je,e2],λh=>absurd h (by decide)⟩
 obtain ⟨r1,f1,⟨c1,c2⟩,c3⟩:=jgO a hw [] (by simp;omega)
 obtain ⟨r,f2,⟨d1,d2⟩,d3⟩:=jgO b hw' r1 (by simp at c2;omega)
 have hsrt:Srt r:=d3 (c3 List.Pairwise.nil);have hmem:∀n,n∈r↔n∈Qb a\/n∈Qb b:=λn=>by rw [d1,c1];simp
 have hlen:r.length<=60:=by simp at c2;omega
 have f1:G 212 [.sl 1 [],tm a]=some (strs r1,[]):=f1;obtain ⟨p1,g1,⟨i1,i2⟩,i3⟩:=jfa a hw hk [] (by simp;omega);obtain ⟨p,g2,⟨j1,j2⟩,j3⟩:=jfa b hw' hk' p1 (by simp at i2;omega);have hnd:p.Nodup:=j3 (i3 jgm);have hpm:∀n,n∈p↔n∈Qb a\/n∈Qb b:=λn=>by rw [j1,i1];simp
 have hsort:y5 p=r:=juT _ _ (jAz hnd) hsrt λn=>by rw [hmem,<-hpm];unfold y5;exact List.mem_mergeSort
 have hpl:p.length=r.length:=by rw [<-hsort];simp [y5]
 have g1:jax (sv a.name) (jQ a.args) []=some (.top,[strs p1]):=g1;have g3:jhP (p.map cs)=some (.top,[strs r]):=by
  rw [jxt];simp only [jlS,jdU];rw [jl (by omega),hsort]
 by_cases h12:r.length<=12;rotate_left
 .have hgt:((12:Nat):Int) < ((r.length:Nat):Int):=by omega
  have hle:¬((r.length:Nat):Int)<=12:=by omega
  have hgt:(12:Int) < ((r.length:Nat):Int):=by omega
  have hz:¬((r.length:Nat):Int)=0:=by omega
  refine ⟨0,?_,?_,λh=>absurd h (by decide)⟩
  .simp only [je,e1,f1,f2,hz,hle,hgt]
  .simp only [je,e2,g1,g2,hpl,hle,hgt]
 have hle:((r.length:Nat):Int)<=12:=by omega
 have hgt:¬(12:Int) < ((r.length:Nat):Int):=by omega
 have hrep:=jFR h12;have hci:(ints (List.replicate r.length 1):A) = .sl 1 (List.replicate r.length [vi 1]):=by show A.sl 1 _=_;rw [List.map_replicate]
 have hod:(od (jjQ r):A) = .agg [strs r,.sl 1 (List.replicate r.length [vi 1]),vi 1]:=by rw [<-hci];rfl
 by_cases h0:r.length=0
 .have hr:r = []:=jhc.1 h0;have hz:((r.length:Nat):Int)=0:=by omega
  have va:jp a.name=true:=by
   cases hv:jp a.name
   .have:=(hmem a.name).2 (Or.inl (by rw [jas,hv];simp))
    rw [hr] at this;cases this
   .rfl
  have vb':jp b.name=true:=by
   cases hv:jp b.name
   .have:=(hmem b.name).2 (Or.inr (by rw [jas,hv];simp))
    rw [hr] at this;cases this
   .rfl
  have hne:¬a.name=b.name:=λe=>by
   rw [jE2,e,jau hk va,jau hk' vb',Qw] at hd;simp at hd
  have q:=jip (jjQ r) a b hw hw' false false (jpO _ a b hw hw' hk hk' va vb' hne) (jpO _ b a hw' hw hk' hk vb' va (λe=>hne e.symm));rw [hd,hod] at q;refine ⟨0,?_,?_,λh=>absurd h (by decide)⟩
  .simp only [je,e1,f1,f2,hz]
  .simp only [je,e2,g1,g2,hpl,hle,hgt,g3,hrep,q,jbS]
 have hsym:∀n∈r,qP n=true:=λn hn=>by
  rcases (hmem n).1 hn with h|h
  .exact jlV a hk n h
  .exact jlV b hk' n h
 have hval:=jwU (by omega) h12 hsym (jwE hsrt);have hca:K7 (jjQ r).syms a=true:=jph _ a λn hn=>(hmem n).2 (Or.inl hn);have hcb:K7 (jjQ r).syms b=true:=jph _ b λn hn=>(hmem n).2 (Or.inr hn);have howf:owf (jjQ r):=by
  refine ⟨⟨λs hs=> ?_,by show r.length<=_;omega⟩,⟨λx hx=> ?_,by show (List.replicate r.length (1:Int)).length<=_;rw [K2];omega⟩,by show I64 1;exact ⟨by decide,by decide⟩⟩
  .have:=jAF (hsym s hs);omega
  .have:x=1:=by have:=jgs hx;exact this
   rw [this];exact ⟨by decide,by decide⟩
 have q1:=jho (jjQ r) a b howf hw hs hw' hs';have q2:=jhf hval a b howf hw hs hw' hs' hk hk' hca hcb;have q3:jaF (jjQ r) a b = .tup [vi (jaD (jjQ r) a b),vb true]:=by unfold jaF good;rw [hval,hva,hvb,hca,hcb];rfl
 rw [q3,hod] at q1;rw [hod] at q2;have q4:=jAA a b r h12 _ _ q1;have hz:¬((r.length:Nat):Int)=0:=by omega
 refine ⟨jaD (jjQ r) a b,?_,?_,λh=>jFi hval hk hcb ((jCa _ _ _).1 h)⟩
 .simp only [je,e1,f1,f2,hz,hgt,hle,q4]
 .simp only [je,e2,g1,g2,hpl,hle,hgt,g3,hrep,q2]
theorem jit {ts:List T} {t:T} (h:t∈ts):Yf t<=QQ ts:=by
 induction ts with
 | nil=>cases h
 | cons u us ih=>
  simp only [QQ];rcases j7.1 h with h|h
  .subst h;omega
  .have:=ih h;omega
theorem jlR {t u:T} (h:u∈t.args) (hs:jD t=true):jD u=true:=by
 simp only [jD,ju,kG] at hs ⊢;have h1:=qz h;have h2:=jit h;rw [jU,Zi] at hs;omega
theorem jgz (t:T) (hs:Tz t) (he:¬t.name = [61]):G 59 [tm t]=some (vb (qP t.name && kY t),[]):=by
 have e1:=QB t.name ((kH t).1 hs.wf).1;have e2:=Zn t hs.wf hs;rw [g59];cases h:qP t.name<;>rw [h] at e1
 .simp only [je,he,e1,jH]
 .simp only [je,he,e1,e2,jI]
theorem jx0 {t:T} (h:jbW t=true):t.args.length=2/\Vs (Jx t)/\Vs (Za t)/\jD t=true:=by
 have h':=h;unfold jbW at h;rw [ju,ju,ju,kG] at h;obtain ⟨h1,h2,h3,h4⟩:=h;obtain ⟨_,_,ma,mb⟩:=Zh h1;have hn:nodes t<=30:=by simp only [jD,ju,kG] at h2;exact h2.1
 exact ⟨h1,⟨h3,by have:=qp ma;show nodes (jab t)<=30;omega⟩,⟨h4,by have:=qp mb;show nodes (jbx t)<=30;omega⟩,h2⟩
theorem jCJ (t:T) (hs:Tz t):∃b:Bool,G 214 [tm t]=some (vb b,[])/\G 198 [tm t]=some (vb b,[])/\(b=true->t.name = [61]/\jbW t=true/\jp (Jx t).name=false):=by
 have hw:=hs.wf;obtain ⟨w1,w2,w3⟩:=(kH t).1 hw;have w3:=(kE _).1 w3;have q0:=yX t;by_cases he:t.name = [61];rotate_left
 .have e1:=jgz t hs he;rw [kx he] at q0;refine ⟨false,?_,?_,λh=>by cases h⟩
  .rw [jGW];cases h1:(qP t.name && kY t)<;>rw [h1] at e1<;>simp only [je,he,e1]
  .rw [jGV];simp only [je,q0]
 .have e1:=jdB t hw hs he;have e2:=jbi t hw hs he;rw [jR he] at q0;have het:(t.name = [61])=True:=eq_true he;rw [jGW,jGV];cases h:jbW t<;>rw [h] at e1 e2
  .exact ⟨false,by simp only [je,e1],by simp only [je,q0,e2],λh=>by cases h⟩
  .obtain ⟨h1,v1,v2,hsm⟩:=jx0 h;obtain ⟨i0,i1,ma,mb⟩:=Zh h1;have va:kY (jab t)=true:=by unfold kY;rw [jlR ma hsm];exact v1.1
   have vb':kY (jbx t)=true:=by unfold kY;rw [jlR mb hsm];exact v2.1
   obtain ⟨x,o1,o2,o3⟩:=jqy (jab t) (jbx t) (w3 _ ma) (w3 _ mb) v1.tz v2.tz va vb';refine ⟨decide (x=2),?_,?_,λhx=>⟨he,rfl,o3 (jhd hx)⟩⟩
   .simp only [je,e1,het,i0,i1,jf,o1]
   .simp only [je,q0,e2,i0,i1,jf,o2]
theorem jq7 (rs:List T) (hl:rs.length<=1048576) (hs:∀r∈rs,Tz r):∃b:Bool,G 186 [jQ rs]=some (vb b,[])/\G 168 [jQ rs]=some (vb b,[])/\(b=true->RS rs/\ ∀r∈rs,r.name = [61]/\jbW r=true/\jp (Jx r).name=false):=by
 obtain ⟨p,hp⟩:=Classical.axiomOfChoice (r:=λ(t:T) (b:Bool)=>Tz t->G 214 [tm t]=some (vb b,[])/\G 198 [tm t]=some (vb b,[])/\(b=true->t.name = [61]/\jbW t=true/\jp (Jx t).name=false)) λt=>by
  by_cases h:Tz t
  .obtain ⟨b,hb⟩:=jCJ t h;exact ⟨b,λ_=>hb⟩
  .exact ⟨false,λh'=>absurd h' h⟩
 have hp:∀r∈rs,G 214 [tm r]=some (vb (p r),[])/\G 198 [tm r]=some (vb (p r),[])/\(p r=true->r.name = [61]/\jbW r=true/\jp (Jx r).name=false):=λr hr=>hp r (hs r hr);refine ⟨decide (rs.length<=10) && rs.all p,?_,?_,λh=> ?_⟩
 .have key:=upto (P:=λi=>jmv (jQ rs) (vi i)=some (vb (decide (rs.length<=10) && (rs.drop i).all p),[])) (n:=rs.length) ?_ ?_ 0 (jE _)
  .rw [jJc];exact key
  .rw [jyI,j4];have e:decide (((rs.length:Nat):Int)<=10)=decide (rs.length<=10):=by
    by_cases h:rs.length<=10
    .rw [jR h,jR (by omega)]
    .rw [kx h,kx (by omega)]
   simp only [je,e]
  .intro i hi ih;have hlt:(i:Int) < ((rs.length:Nat):Int):=by omega
   have h5:=jq hi (by show rs.length<=9223372036854775807;omega)
   obtain ⟨e1,_,_⟩:=hp rs[i] (jr _);rw [jyI,ji hi,yC];cases h:p rs[i]<;>rw [h] at e1
   .simp only [je,hlt,jb hi,jf,e1,jH,z8]
   .simp only [je,hlt,jb hi,jf,e1,h5,ih,jI]
 .have e1:=jbU (f:=197) (caps:=[]) rfl (λr=> !p r) rs (by show rs.length<=9223372036854775807;omega) λr hr=>by
   obtain ⟨_,e2,_⟩:=hp r hr;rw [jJl];simp only [je,e2]
  rw [jgA] at e1;rw [jI2];by_cases h:rs.length<=10
  .have h':((rs.length:Nat):Int)<=10:=by omega
   simp only [je,h,h',e1,jI,Bool.not_not]
  .have h':¬((rs.length:Nat):Int)<=10:=by omega
   simp only [je,h,h',jH]
 .rw [ju,kG,qm] at h;refine ⟨⟨h.1,λr hr=> ?_⟩,λr hr=>(hp r hr).2.2 (h.2 r hr)⟩;obtain ⟨_,h2,_⟩:=(hp r hr).2.2 (h.2 r hr);obtain ⟨q1,q2,q3,_⟩:=jx0 h2;exact ⟨q1,q2,q3⟩
theorem jsW {rs:List T} (hr:RS rs):∀(t:T) (root:Bool) {u:T},EX root t->jal rs root t=some u->nodes u<=nodes t+900:=by
 refine T.ind (p:=λt=>∀(root:Bool) {u:T},EX root t->jal rs root t=some u->nodes u<=nodes t+900) λt ih=> ?_;intro root u h ho;have hL:∀(us:List T) {us':List T},(∀u∈us,∀u',jal rs true u=some u'->nodes u'<=nodes u+900)->ZT rs us=some us'->jx us'<=jx us+900:=by
  intro us;induction us with
  | nil=>intro us' _ h;simp [ZT] at h
  | cons v vs ih2=>
   intro us' hv h;rw [ZT] at h;split at h
   .rename_i v' hv';cases h;have:=hv v (by simp) _ hv';simp only [jx];omega
   .rw [yP] at h;obtain ⟨r,h3,rfl⟩:=h;have:=ih2 (λw hw=>hv w (by simp [hw])) h3;simp only [jx];omega
 rw [jeQ] at ho;split at ho
 .rename_i us hus;cases ho;have:=hL t.args (λv hv u' hu'=>by
   have hw:=h.2.1 v hv;exact ih v hv true ⟨⟨by have:=hw.2;omega,hw.tz⟩,hw.args,λ_=>hw⟩ hu') hus
  rw [jU t];show 1+jx us<=_;omega
 .cases root with
  | false=>cases ho
  | true=>
   have:=(jAn hr (h.2.2 rfl) ho).2;omega
def EX' (root:Bool) (t:T):Prop:=EX root t/\(root=false->t.name = [61]/\t.args.length=2)
theorem juB {us:List T} (h:∀u∈us,yv u=true):Qc us<=10 * jx us:=by
 induction us with
 | nil=>simp [Qc]
 | cons u us ih=>
  have:=jdM u (h u (by simp));have:=ih λw hw=>h w (by simp [hw]);simp only [Qc,jx];omega
theorem juD {t:T} (h:yv t=true):¬t.name = [61]:=λe=>by
 rw [yT,e] at h;exact absurd h (by
  rw [show jp [61]=false from by decide,jo kh,show qP [61]=false from by decide];simp)
theorem jna {t:T} (ht:Tz t) (h:yv t=true\/(t.name = [61]/\t.args.length=2/\ ∀u∈t.args,yv u=true)):G 236 [tm t]=some (vb (jD t),[]):=by
 have e2:=Zn t ht.wf ht;rw [jJM];rcases h with h|⟨h1,h2,h3⟩
 .have hv:kY t=jD t:=by unfold kY;rw [h,jaw]
  rw [hv] at e2;have e1:=jgz t ht (juD h);rw [hv] at e1;cases hs:jD t<;>rw [hs] at e1 e2
  .rw [z8] at e1;simp only [je,e1,e2]
  .simp only [je,e2]
 .have hk:yv t=false:=by
   cases hk:yv t with
   | false=>rfl
   | true=>exact absurd h1 (juD hk)
  have hv:kY t=false:=by unfold kY;rw [hk,z8]
  rw [hv] at e2;have e1:=jdB t ht.wf ht h1;obtain ⟨_,_,ma,mb⟩:=Zh h2;have he:jbW t=jD t:=by unfold jbW;rw [jR h2,h3 _ ma,h3 _ mb];simp
  rw [he] at e1;simp only [je,e1,e2]
def jqz (o:Option (T × Nat)):Option Out:=match o with|some r=>some (.tup [tm r.1,vi (r.2:Nat),vb true],[])|none=>some (.tup [.agg [sv [],.sl 2 []],vi 0,vb false],[])
structure Law3 {α:Type} (c:α->α->Int):Prop where
 zero:∀a b,c a b=0↔a=b
 flip:∀a b,c b a = -(c a b)
 trans:∀a b d,c a b < 0->c b d < 0->c a d < 0
section
variable {α:Type} {c:α->α->Int}
def Asc (c:α->α->Int) (l:List α):Prop:=l.Pairwise λa b=>c a b < 0
theorem jnd (h:Law3 c):∀ {l m:List α},Asc c l->Asc c m->(∀x,x∈l↔x∈m)->l=m
 | [],[],_,_,_=>rfl
 | [],b::m,_,_,hx=>absurd ((hx b).2 (by simp)) (by simp)
 | a::l,[],_,_,hx=>absurd ((hx a).1 (by simp)) (by simp)
 | a::l,b::m,h1,h2,hx=>by
  obtain ⟨g1,g2⟩:=J4.1 h1;obtain ⟨k1,k2⟩:=J4.1 h2;have hab:a=b:=by
   rcases j7.1 ((hx a).1 (by simp)) with e|e
   .exact e
   rcases j7.1 ((hx b).2 (by simp)) with e'|e'
   .exact e'.symm
   .have q1:=k1 a e;have q2:=g1 b e';have q3:=h.flip a b;omega
  subst hab;have:l=m:=jnd h g2 k2 λx=>by
   constructor
   .intro hxl;rcases j7.1 ((hx x).1 (by simp [hxl])) with e|e
    .have:=g1 x hxl;rw [e,(h.zero a a).2 rfl] at this;omega
    .exact e
   .intro hxm;rcases j7.1 ((hx x).2 (by simp [hxm])) with e|e
    .have:=k1 x hxm;rw [e,(h.zero a a).2 rfl] at this;omega
    .exact e
  rw [this]
def jes (eq:α->α->Bool):List α->List α
 | []=>[]
 | a::l=>(match jes eq l with | []=>[a]|b::m=>if eq a b then b::m else a::b::m)
theorem jk0 (h:Law3 c) {eq:α->α->Bool} (he:∀a b,eq a b=true↔a=b):∀ {l:List α},l.Pairwise (λa b=>¬c b a < 0)->Asc c (jes eq l)/\ ∀x,x∈jes eq l↔x∈l
 | [],_=>⟨List.Pairwise.nil,λx=>Iff.rfl⟩
 | a::l,hp=>by
  obtain ⟨g1,g2⟩:=J4.1 hp;obtain ⟨k1,k2⟩:=jk0 h he g2;rw [jes];cases hc:jes eq l with
  | nil=>
   rw [hc] at k2;refine ⟨by unfold Asc;simp,λx=> ?_⟩;show x ∈ [a]↔_;constructor
   .intro hx;simp only [zi] at hx;simp [hx]
   .intro hx;rcases j7.1 hx with e|e
    .simp [e]
    .exact absurd ((k2 x).2 e) (by simp)
  | cons b m=>
   rw [hc] at k1 k2;have hbl:b∈l:=(k2 b).1 (by simp);by_cases hab:a=b
   .show Asc c (if eq a b then b::m else a::b::m)/\_;have he':=(he a b).2 hab;have e2:(if eq a b then b::m else a::b::m)=b::m:=jl he';refine ⟨by rw [e2];exact k1,λx=> ?_⟩;show x∈(if eq a b then b::m else a::b::m)↔_;rw [e2,k2,j7];constructor
    .exact Or.inr
    .rintro (e|e)
     .rw [e,hab];exact hbl
     .exact e
   .have he':¬eq a b=true:=λe=>hab ((he a b).1 e);have e2:(if eq a b then b::m else a::b::m)=a::b::m:=jo he';have hlt:c a b < 0:=by
     have q1:=g1 b hbl;have q2:=h.flip a b;have q3:c a b≠0:=λe=>hab ((h.zero a b).1 e);omega
    refine ⟨?_,λx=> ?_⟩
    .show Asc c (if eq a b then b::m else a::b::m);rw [e2];refine J4.2 ⟨λx hx=> ?_,k1⟩;rcases j7.1 hx with e|e
     .rw [e];exact hlt
     .exact h.trans a b x hlt ((J4.1 k1).1 x e)
    .show x∈(if eq a b then b::m else a::b::m)↔_;rw [e2,j7,k2,j7]
theorem jdg {p:α->Bool} :∀ {l:List α} {a:α},a∈l.takeWhile p->p a=true
 | x::l,a,h=>by
  by_cases hx:p x=true
  .rw [ju4 hx] at h;rcases j7.1 h with e|e
   .rw [e];exact hx
   .exact jdg e
  .rw [jrJ hx] at h;cases h
def jbz (c:α->α->Int) (l:List α) (x:α):List α:=if (l.dropWhile λa=>decide (c a x < 0)).head?.any (λb=>decide (c b x=0)) then l else l.takeWhile (λa=>decide (c a x < 0))++x::l.dropWhile λa=>decide (c a x < 0)
theorem jiG (h:Law3 c) {l:List α} (hl:Asc c l) (x:α):Asc c (jbz c l x)/\ ∀y,y∈jbz c l x↔y∈l\/y=x:=by
 have e:=jrK (p:=λa=>decide (c a x < 0)) (l:=l);have ht:∀a∈l.takeWhile (λa=>decide (c a x < 0)),c a x < 0:=λa ha=>jhd (jdg (p:=λa=>decide (c a x < 0)) ha);unfold jbz;generalize l.takeWhile (λa=>decide (c a x < 0))=t at *;cases hd:l.dropWhile (λa=>decide (c a x < 0)) with
 | nil=>
  rw [hd,y8] at e;subst e;rw [jo (by simp)];refine ⟨?_,λy=>by simp⟩;refine jmb.2 ⟨hl,by simp,λa ha b hb=> ?_⟩;simp only [zi] at hb;rw [hb];exact ht a ha
 | cons b m=>
  have hb:¬c b x < 0:=by
   intro hb;have:=List.head?_dropWhile_not (p:=λa=>decide (c a x < 0)) l;rw [hd] at this;simp [hb] at this
  rw [hd] at e;by_cases h0:c b x=0
  .rw [jl (by simp [h0])];refine ⟨hl,λy=>⟨Or.inl,λhy=> ?_⟩⟩;rcases hy with hy|hy
   .exact hy
   .rw [hy,<-(h.zero b x).1 h0,<-e];simp
  .rw [jo (by simp [h0])];rw [<-e] at hl;obtain ⟨p1,p2,p3⟩:=jmb.1 hl;have hxb:c x b < 0:=by have:=h.flip b x;omega
   refine ⟨jmb.2 ⟨p1,J4.2 ⟨λy hy=> ?_,p2⟩,λa ha y hy=> ?_⟩,λy=> ?_⟩
   .rcases j7.1 hy with e'|e'
    .rw [e'];exact hxb
    .exact h.trans x b y hxb ((J4.1 p2).1 y e')
   .rcases j7.1 hy with e'|e'
    .rw [e'];exact ht a ha
    .exact p3 a ha y e'
   .rw [<-e];simp only [zh,j7];constructor
    .rintro (h|h|h|h)
     .exact Or.inl (Or.inl h)
     .exact Or.inr h
     .exact Or.inl (Or.inr (Or.inl h))
     .exact Or.inl (Or.inr (Or.inr h))
    .rintro ((h|h|h)|h)
     .exact Or.inl h
     .exact Or.inr (Or.inr (Or.inl h))
     .exact Or.inr (Or.inr (Or.inr h))
     .exact Or.inr (Or.inl h)
def qi (c:α->α->Int) (l:List α):List α:=l.foldl (jbz c) []
theorem jcL (h:Law3 c) (l:List α):Asc c (qi c l)/\ ∀y,y∈qi c l↔y∈l:=by
 have key:∀(l m:List α),Asc c m->Asc c (l.foldl (jbz c) m)/\ ∀y,y∈l.foldl (jbz c) m↔y∈m\/y∈l:=by
  intro l;induction l with
  | nil=>intro m hm;exact ⟨hm,λy=>by simp⟩
  | cons x l ih=>
   intro m hm;obtain ⟨g1,g2⟩:=jiG h hm x;obtain ⟨k1,k2⟩:=ih _ g1;refine ⟨k1,λy=> ?_⟩;rw [Zf,k2,g2,j7,jbq]
 obtain ⟨g1,g2⟩:=key l [] List.Pairwise.nil;exact ⟨g1,λy=>by rw [qi,g2];simp⟩
theorem jCf (h:Law3 c) {eq:α->α->Bool} (he:∀a b,eq a b=true↔a=b) {l s:List α} (hs:s.Pairwise λa b=>¬c b a < 0) (hm:∀x,x∈s↔x∈l):jes eq s=qi c l:=by
 obtain ⟨g1,g2⟩:=jk0 h he hs;obtain ⟨k1,k2⟩:=jcL h l;exact jnd h g1 k1 λx=>by rw [g2,k2,hm]
end
theorem jFt {α β γ:Type} {f:γ->α} {g:γ->β} {c:α->α->Int} {d:β->β->Int} (hc:Law3 c) (hd:Law3 d) (hi:∀x y,f x=f y->g x=g y->x=y):Law3 λx y:γ=>if c (f x) (f y)≠0 then c (f x) (f y) else d (g x) (g y):=by
 refine ⟨λa b=> ?_,λa b=> ?_,λa b e=> ?_⟩
 .show (if c (f a) (f b)≠0 then c (f a) (f b) else d (g a) (g b))=0↔_;by_cases h:c (f a) (f b)=0
  .rw [jo (λh'=>h' h),hd.zero];exact ⟨λh2=>hi a b ((hc.zero _ _).1 h) h2,λh2=>by rw [h2]⟩
  .rw [jl h];exact ⟨λh2=>absurd h2 h,λh2=>by rw [h2] at h;exact absurd ((hc.zero _ _).2 rfl) h⟩
 .show (if c (f b) (f a)≠0 then c (f b) (f a) else d (g b) (g a)) = -(if c (f a) (f b)≠0 then c (f a) (f b) else d (g a) (g b));rw [hc.flip (f a) (f b),hd.flip (g a) (g b)];by_cases h:c (f a) (f b)=0
  .rw [jo (by omega),jo (by omega)]
  .rw [jl (by omega),jl (by omega)]
 .show (if c (f a) (f b)≠0 then c (f a) (f b) else d (g a) (g b)) < 0->(if c (f b) (f e)≠0 then c (f b) (f e) else d (g b) (g e)) < 0->(if c (f a) (f e)≠0 then c (f a) (f e) else d (g a) (g e)) < 0;by_cases h1:c (f a) (f b)=0
  .have e1:=(hc.zero _ _).1 h1;rw [jo (λh'=>h' h1),e1];by_cases h2:c (f b) (f e)=0
   .rw [jo (λh'=>h' h2),jo (λh'=>h' h2)];exact hd.trans _ _ _
   .rw [jl h2,jl h2];exact λ_ h=>h
  .rw [jl h1];by_cases h2:c (f b) (f e)=0
   .have e2:=(hc.zero _ _).1 h2;rw [jo (λh'=>h' h2),<-e2,jl h1];exact λh _=>h
   .rw [jl h2];intro h3 h4;have:=hc.trans _ _ _ h3 h4;rw [jl (by omega)];exact this
def zI (x y:List UInt8):Int:=if yQ x y then -1 else if x=y then 0 else 1
theorem ZO:Law3 zI:=by
 have irr:=ja3;have asy:∀x y,yQ x y=true->yQ y x=true->False:=λx y h1 h2=>by
  rw [Y8,kG] at h1 h2;exact absurd (jl9 h1 h2) (jl8 _)
 have tot:∀x y,x=y\/yQ x y=true\/yQ y x=true:=λx y=>by
  rw [Y8,Y8,kG,kG];rcases Classical.em (x < y) with h|h
  .exact Or.inr (Or.inl h)
  rcases Classical.em (y < x) with h'|h'
  .exact Or.inr (Or.inr h')
  .exact Or.inl (List.le_antisymm (List.not_lt.1 h') (List.not_lt.1 h))
 have tr:∀x y z,yQ x y=true->yQ y z=true->yQ x z=true:=λx y z h1 h2=>by
  rw [Y8,kG] at *;exact jl9 h1 h2
 have neg:∀x y,zI x y < 0↔yQ x y=true:=λx y=>by
  unfold zI;cases h:yQ x y with
  | true=>simp
  | false=>
   rw [jo kh];split<;>simp
 refine ⟨λa b=> ?_,λa b=> ?_,λa b d h1 h2=>(neg _ _).2 (tr _ _ _ ((neg _ _).1 h1) ((neg _ _).1 h2))⟩
 .unfold zI;cases h:yQ a b with
  | true=>rw [jl rfl];exact ⟨λh'=>by omega,λe=>by rw [e,irr] at h;cases h⟩
  | false=>
   rw [jo kh];by_cases e:a=b
   .rw [jl e];exact ⟨λ_=>e,λ_=>rfl⟩
   .rw [jo e];exact ⟨λh'=>by omega,λh'=>absurd h' e⟩
 .unfold zI;rcases tot a b with e|e|e
  .subst e;rw [irr,jo kh,jl rfl];rfl
  .have h2:yQ b a=false:=by
    cases h:yQ b a with
    | false=>rfl
    | true=>exact (asy _ _ e h).elim
   have hne:¬b=a:=λh=>by rw [h,irr] at e;cases e
   rw [e,h2,jo kh,jo hne,jl rfl];rfl
  .have h2:yQ a b=false:=by
    cases h:yQ a b with
    | false=>rfl
    | true=>exact (asy _ _ e h).elim
   have hne:¬a=b:=λh=>by rw [h,irr] at e;cases e
   rw [e,h2,jo kh,jo hne,jl rfl]
def zJ (x y:Nat):Int:=if x < y then -1 else if y < x then 1 else 0
theorem jbR:Law3 zJ:=by
 refine ⟨λa b=> ?_,λa b=> ?_,λa b d=> ?_⟩<;>unfold zJ
 .split
  .omega
  .split<;>omega
 .split<;>split<;>(try split)<;>omega
 .intro h1 h2;by_cases h:a < b
  .by_cases h3:b < d
   .rw [jl (by omega)];omega
   .rw [jo h3] at h2;split at h2<;>omega
  .rw [jo h] at h1;split at h1<;>omega
def vF (n:List UInt8):Nat:=if jp n then 0 else 1
abbrev Key:=Nat × (List UInt8 × Nat)
def cK (x y:Key):Int:=if zJ x.1 y.1≠0 then zJ x.1 y.1 else if zI x.2.1 y.2.1≠0 then zI x.2.1 y.2.1 else zJ x.2.2 y.2.2
theorem QP:Law3 cK:=by
 have h2:Law3 λx y:List UInt8 × Nat=>if zI x.1 y.1≠0 then zI x.1 y.1 else zJ x.2 y.2:=jFt (f:=Prod.fst) (g:=Prod.snd) ZO jbR λx y h1 h2=>Prod.ext h1 h2;exact jFt (f:=Prod.fst) (g:=Prod.snd) jbR h2 λx y h1 h2=>Prod.ext h1 h2
def yS (t:T):Key:=(vF t.name,(t.name,t.args.length))
mutual
def y9 (a b:T):Int:=
 match a with
 | .mk n us=>if cK (yS (.mk n us)) (yS b)≠0 then cK (yS (.mk n us)) (yS b) else yg us b.args
termination_by structural a
def yg (xs bs:List T):Int:=
 match xs with
 | []=>0
 | a::xs=>(match bs with | []=>0|b::bs=>if y9 a b≠0 then y9 a b else yg xs bs)
termination_by structural xs
end
theorem Yj (a b:T):y9 a b=if cK (yS a) (yS b)≠0 then cK (yS a) (yS b) else yg a.args b.args:=by cases a;rfl
theorem jfT {a b:T} (h:yS a=yS b):a.name=b.name/\a.args.length=b.args.length:=by
 unfold yS at h;simp only [qB] at h;exact h.2
theorem jGp {a b:T} (h1:a.name=b.name) (h2:a.args=b.args):a=b:=by
 cases a;cases b;simp only [T.name,T.args] at h1 h2;rw [h1,h2]
theorem jEi:∀ {xs bs:List T},(∀u∈xs,∀v,y9 u v=0↔u=v)->xs.length=bs.length->(yg xs bs=0↔xs=bs)
 | [],[],_,_=>by simp [yg]
 | [],_::_,_,h=>by cases h
 | _::_,[],_,h=>by cases h
 | a::xs,b::bs,h,hl=>by
  rw [yg];have ih:=jEi (xs:=xs) (bs:=bs) (λu hu=>h u (by simp [hu])) (Nat.succ.inj hl);by_cases h0:y9 a b=0
  .rw [jo (λh'=>h' h0),ih,(h a (by simp) b).1 h0];simp
  .rw [jl h0];exact ⟨λh'=>absurd h' h0,λe=>by rw [Ju] at e;exact (h a (by simp) b).2 e.1⟩
theorem jDn:∀ {xs bs:List T},(∀u∈xs,∀v,y9 v u = -(y9 u v))->xs.length=bs.length->yg bs xs = -(yg xs bs)
 | [],[],_,_=>by simp [yg]
 | [],_::_,_,h=>by cases h
 | _::_,[],_,h=>by cases h
 | a::xs,b::bs,h,hl=>by
  rw [yg,yg,h a (by simp) b,jDn (xs:=xs) (bs:=bs) (λu hu=>h u (by simp [hu])) (Nat.succ.inj hl)];by_cases h0:y9 a b=0
  .rw [jo (by omega),jo (by omega)]
  .rw [jl (by omega),jl (by omega)]
theorem jAN (z:∀u v:T,y9 u v=0↔u=v):∀ {xs bs ds:List T},(∀u∈xs,∀v w,y9 u v < 0->y9 v w < 0->y9 u w < 0)->xs.length=bs.length->bs.length=ds.length->yg xs bs < 0->yg bs ds < 0->yg xs ds < 0
 | [],_,_,_,_,_,h1,_=>by simp [yg] at h1
 | a::xs,[],_,_,h,_,_,_=>by cases h
 | a::xs,b::bs,[],_,_,h,_,_=>by cases h
 | a::xs,b::bs,d::ds,h,hl,hl2,h1,h2=>by
  rw [yg] at h1 h2 ⊢;by_cases c1:y9 a b=0
  .have e1:=(z a b).1 c1;rw [jo (λh'=>h' c1)] at h1;rw [e1];by_cases c2:y9 b d=0
   .rw [jo (λh'=>h' c2)] at h2;rw [jo (λh'=>h' c2)];exact jAN z (λu hu=>h u (by simp [hu])) (Nat.succ.inj hl) (Nat.succ.inj hl2) h1 h2
   .rw [jl c2] at h2;rw [jl c2];exact h2
  .rw [jl c1] at h1;by_cases c2:y9 b d=0
   .rw [<-(z b d).1 c2,jl c1];exact h1
   .rw [jl c2] at h2;have:=h a (by simp) b d h1 h2;rw [jl (by omega)];exact this
theorem jxD:Law3 y9:=by
 have z:∀a b:T,y9 a b=0↔a=b:=by
  refine T.ind λa ih b=> ?_;rw [Yj];by_cases h:cK (yS a) (yS b)=0
  .have hk:=(QP.zero _ _).1 h;obtain ⟨h1,h2⟩:=jfT hk;rw [jo (λh'=>h' h),jEi ih h2];exact ⟨λe=>jGp h1 e,λe=>by rw [e]⟩
  .rw [jl h];exact ⟨λh'=>absurd h' h,λe=>by rw [e] at h;exact absurd ((QP.zero _ _).2 rfl) h⟩
 refine ⟨z,?_,?_⟩
 .refine T.ind λa ih b=> ?_;rw [Yj,Yj a b,QP.flip (yS a) (yS b)];by_cases h:cK (yS a) (yS b)=0
  .obtain ⟨_,h2⟩:=jfT ((QP.zero _ _).1 h);rw [jo (by omega),jo (by omega),jDn ih h2]
  .rw [jl (by omega),jl (by omega)]
 .refine T.ind λa ih b d h1 h2=> ?_;rw [Yj] at h1 h2 ⊢;by_cases c1:cK (yS a) (yS b)=0
  .have e1:=(QP.zero _ _).1 c1;rw [jo (λh'=>h' c1)] at h1;rw [e1];by_cases c2:cK (yS b) (yS d)=0
   .have e2:=(QP.zero _ _).1 c2;rw [jo (λh'=>h' c2)] at h2;rw [jo (λh'=>h' c2)];exact jAN z ih (jfT e1).2 (jfT e2).2 h1 h2
   .rw [jl c2] at h2;rw [jl c2];exact h2
  .rw [jl c1] at h1;by_cases c2:cK (yS b) (yS d)=0
   .rw [<-(QP.zero _ _).1 c2,jl c1];exact h1
   .rw [jl c2] at h2;have:=QP.trans _ _ _ h1 h2;rw [jl (by omega)];exact this
def upN:List UInt8->Bool
 | []=>false
 | c::_=>upc c
mutual
def val (M:List UInt8->List Int->Int) (e:List UInt8->Int):T->Int
 | .mk n us=>if us.isEmpty && upN n then e n else M n (jHI M e us)
def jHI (M:List UInt8->List Int->Int) (e:List UInt8->Int):List T->List Int
 | []=>[]
 | t::ts=>val M e t::jHI M e ts
end
section
variable {M:List UInt8->List Int->Int}
def Ext (m m':js):Prop:=∀x r,look m x=some r->look m' x=some r
theorem Ext.refl (m:js):Ext m m:=λ_ _ h=>h
theorem Ext.trans {a b c:js} (h:Ext a b) (h':Ext b c):Ext a c:=λx r hx=>h' x r (h x r hx)
variable {good:Int->Prop}
def jKO (M:List UInt8->List Int->Int) (good:Int->Prop) (rs:List T):Prop:=∀r∈rs,∀e:List UInt8->Int,(∀x,good (e x))->val M e (Jx r)=val M e (Za r)
end
def dec (n:Nat):Nat->Nat->List Nat
 | 0,_=>[]
 | l+1,k=>k % n::dec n l (k / n)
def enc (n:Nat):List Nat->Nat
 | []=>0
 | v::vs=>v+n * enc n vs
def vnA (l:List (List UInt8)) (n:List UInt8):List (List UInt8):=if l.contains n then l else l++[n]
mutual
def vn (l:List (List UInt8)):T->List (List UInt8)
 | .mk n us=>if us.isEmpty && upN n then vnA l n else vnL l us
def vnL (l:List (List UInt8)):List T->List (List UInt8)
 | []=>l
 | t::ts=>vnL (vn l t) ts
end
def VIn (S:List (List UInt8)) (t:T):Prop:=∀x∈kT t,x∈S
abbrev Lt:=Bool × T
def fl (b:Bool):Nat:=if b then 1 else 0
def cmpL (a b:Lt):Int:=if y9 a.2 b.2≠0 then y9 a.2 b.2 else zJ (fl a.1) (fl b.1)
theorem KT:Law3 cmpL:=jFt (f:=Prod.snd) (g:=λl:Lt=>fl l.1) jxD jbR λx y h1 h2=>by
 obtain ⟨p,t⟩:=x;obtain ⟨q,u⟩:=y;have h1:t=u:=h1;have h2:fl p=fl q:=h2;subst h1;cases p<;>cases q<;>first|rfl|(simp [fl] at h2)
abbrev kR:=List Lt
def jo2:kR->Bool
 | a::b::l=>decide (cmpL a b < 0) && jo2 (b::l)
 | _=>true
theorem jo3:∀c:kR,jo2 c=true↔Asc cmpL c
 | []=>by simp [jo2,Asc]
 | [a]=>by simp [jo2,Asc]
 | a::b::l=>by
  rw [jo2,ju,kG,jo3 (b::l)];unfold Asc;constructor
  .rintro ⟨h1,h2⟩;refine J4.2 ⟨λx hx=> ?_,h2⟩;rcases j7.1 hx with e|e
   .rw [e];exact h1
   .exact KT.trans a b x h1 ((J4.1 h2).1 x e)
  .intro h;exact ⟨(J4.1 h).1 b (by simp),(J4.1 h).2⟩
mutual
def Zt (l:List (List UInt8)):T->List (List UInt8)
 | .mk n us=>if jp n then vnA l n else jaS l us
def jaS (l:List (List UInt8)):List T->List (List UInt8)
 | []=>l
 | t::ts=>jaS (Zt l t) ts
end
theorem jnV (l:List (List UInt8)) (t:T):Zt l t=if jp t.name then vnA l t.name else jaS l t.args:=by cases t;rfl
def zl (c:kR):List (List UInt8):=c.foldl (λl x=>Zt l x.2) []
def Kd (p:UInt8) (i:Nat):List UInt8:=p::Lib.decDigits i
def KX (c:kR):Bool:=decide (zl c=(List.range (zl c).length).map (Kd 88))
mutual
def ze (f:List UInt8->List UInt8):T->T
 | .mk n us=>if jp n then .mk (f n) [] else .mk n (qx f us)
def qx (f:List UInt8->List UInt8):List T->List T
 | []=>[]
 | t::ts=>ze f t::qx f ts
end
theorem jcj (f:List UInt8->List UInt8):∀ts:List T,qx f ts=ts.map (ze f)
 | []=>rfl
 | t::ts=>by rw [qx,jcj f ts,yH]
theorem jaZ (f:List UInt8->List UInt8) (t:T):ze f t=if jp t.name then .mk (f t.name) [] else .mk t.name (t.args.map (ze f)):=by
 cases t;rw [ze,jcj];rfl
def zx (p:UInt8) (l:List (List UInt8)) (n:List UInt8):List UInt8:=match l.findIdx? (λx=>decide (x=n)) with|some i=>Kd p i|none=>n
def renC (p:UInt8) (c:kR):kR:=qi cmpL (c.map λl=>(l.1,ze (zx p (zl c)) l.2))
def normF:Nat->kR->kR
 | 0,c=>c
 | k+1,c=>if KX c then c else normF k (renC 88 c)
def normC (c:kR):kR:=normF 10 c
theorem yJ (t:T) (h:yv t=true\/t.name = [61]):G 123 [tm t]=some (vb (jp t.name),[]):=by
 rcases h with h|h
 .exact ZS t h
 .have e1:=jaM 61;have hx:yD (sv t.name) (vi 0)=some (vy ((61:UInt8).toNat:Int)):=by rw [h];exact qJ
  have hv:jp t.name=upc 61:=by rw [h];decide
  rw [jE9,hv];simp only [je,hx,e1]
theorem jaE (x y:List UInt8):zI x y=if yQ x y then -1 else if yQ y x then 1 else 0:=by
 have hf:=ZO.flip x y;cases h1:yQ x y with
 | true=>unfold zI;rw [h1];rfl
 | false=>
  rw [jo kh];cases h2:yQ y x with
  | true=>
   have:zI y x = -1:=by unfold zI;rw [h2,jl rfl]
   rw [jl rfl];omega
  | false=>
   rw [jo kh];have a1:zI x y=0\/zI x y=1:=by
    unfold zI;rw [h1,jo kh];split<;>simp
   have a2:zI y x=0\/zI y x=1:=by
    unfold zI;rw [h2,jo kh];split<;>simp
   omega
theorem jf2 (b:Bool) (x y:List UInt8):jz .gtr b (sv x) (sv y)=some (vb (yQ y x)):=by
 show some (vb (!(yQ x y || decide (x=y))))=_;by_cases e:x=y
 .subst e;rw [ja3,jR rfl];rfl
 have h1:=jaE x y;have h3:=ZO.flip x y;have h4:=jaE y x;rw [kx e,jfi];cases a:yQ x y<;>cases c:yQ y x<;>rw [a,c] at h1 h4
 .exact absurd ((ZO.zero x y).1 h1) e
 .rfl
 .rfl
 .have h1:zI x y = -1:=h1;have h4:zI y x = -1:=h4;omega
theorem jbT (x y:List UInt8):G 124 [sv x,sv y]=some (vi (zI x y),[]):=by
 have n1:G 153 [sv x]=some (vb false,[]):=by rw [jGR];simp only [je]
 have n2:G 153 [sv y]=some (vb false,[]):=by rw [jGR];simp only [je]
 rw [jIE,jaE];cases h1:yQ x y<;>cases h2:yQ y x<;>simp only [je,n1,n2,jf2,h1,h2]
theorem jgI (x y:Nat):G 97 [vi (x:Nat),vi (y:Nat)]=some (vi (zJ x y),[]):=by
 have n1:G 93 [vi (x:Nat)]=some (vb false,[]):=by rw [g93];simp only [je]
 have n2:G 93 [vi (y:Nat)]=some (vb false,[]):=by rw [g93];simp only [je]
 rw [g97];unfold zJ;by_cases h1:x < y
 .have h1':((x:Nat):Int) < ((y:Nat):Int):=by omega
  rw [jl h1];simp only [je,n1,n2,h1']
 .have h1':¬((x:Nat):Int) < ((y:Nat):Int):=by omega
  rw [jo h1];by_cases h2:y < x
  .have h2':((y:Nat):Int) < ((x:Nat):Int):=by omega
   rw [jl h2];simp only [je,n1,n2,h1',h2']
  .have h2':¬((y:Nat):Int) < ((x:Nat):Int):=by omega
   rw [jo h2];simp only [je,n1,n2,h1',h2']
theorem jzT (a b:Int):G 95 [.sl 1 [[vi a],[vi b]]]=some (vi (if a≠0 then a else b),[]):=by
 have i0:jh 1 (.sl 1 [[vi a],[vi b]]) (vi 0)=some (.elt [vi a] 0):=rfl;have i1:jh 1 (.sl 1 [[vi a],[vi b]]) (vi 1)=some (.elt [vi b] 0):=rfl;have ll:zg (.sl 1 [[vi a],[vi b]])=some (vi 2):=rfl;have c0:jz .add false (vi 0) (vi 1)=some (vi 1):=by rw [KZ,j8 (by decide) (by decide)];rfl
 have c1:jz .add false (vi 1) (vi 1)=some (vi 2):=by rw [KZ,j8 (by decide) (by decide)];rfl
 have z0:(0:Int) < 2:=by decide
 have z1:(1:Int) < 2:=by decide
 have z2:¬(2:Int) < 2:=by decide
 generalize A.sl 1 [[vi a],[vi b]]=X at *;have k2:joT (vi 0) X (vi 2) (vi 2)=some (vi 0,[]):=by rw [jzA];simp only [je,z2]
 have k1:joT (vi 0) X (vi 2) (vi 1)=some (vi b,[]):=by
  rw [jzA];by_cases hb:b=0
  .simp only [je,z1,i1,hb,c1,k2]
  .simp only [je,z1,i1,hb]
 rw [g95];simp only [cev];rw [ll,yo,jzA];by_cases ha:a=0
 .rw [jo (λh=>h ha)];simp only [je,z0,i0,ha,c0,k1]
 .rw [jl ha];simp only [je,z0,i0,ha]
end Go.Proofs.YtbidbdhamhbebaaGreatDoor
