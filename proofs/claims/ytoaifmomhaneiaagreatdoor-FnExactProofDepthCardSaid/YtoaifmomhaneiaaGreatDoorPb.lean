/- Pb -/
import Derived.Test.YtoaifmomhaneiaaGreatDoorPa
import Derived.Test.YtoaifmomhaneiaaGreatDoorPq
import Derived.Sort.Walk0
import Derived.Lib.ItoaNum
namespace Go.Proofs.YtoaifmomhaneiaaGreatDoor
open Go Go.RowKit Go.Proofs.YtoaifmomhaneiaaGreatDoor.Abs
set_option linter.unusedSimpArgs false
set_option linter.unusedVariables false
set_option maxHeartbeats 1000000
abbrev jz:=List (List UInt8 × T)
mutual
noncomputable def mt (m:jz) (p:T) (t:T):Option jz:=
 match p with
 | .mk n us=>if ju n then (match look m n with|some r=>if dq r t then some m else none|none=>some (m++[(n,t)]))
   else if n=t.name/\us.length=t.args.length then mtL m us t.args else none
termination_by structural p
noncomputable def mtL (m:jz) (ps:List T) (ts:List T):Option jz:=
 match ps with
 | []=>some m
 | u::us=>(match ts with | []=>some m|t::ts=>(mt m u t).bind λm'=>mtL m' us ts)
termination_by structural ps
end
theorem jgW {m:jz} {p t:T} (h:ju p.name=true):mt m p t=(match look m p.name with|some r=>if dq r t then some m else none|none=>some (m++[(p.name,t)])):=by
 obtain ⟨n,us⟩:=p;have h:ju n=true:=h;simp only [mt,h,Jk,T.name]
theorem jgV {m:jz} {p t:T} (h:ju p.name=false):mt m p t=if p.name=t.name/\p.args.length=t.args.length then mtL m p.args t.args else none:=by
 obtain ⟨n,us⟩:=p;have h:ju n=false:=h;simp only [mt,h,K5,KU];rfl
theorem JJ {u:jz} {n:List UInt8} :look u n=none↔ ∀p∈u,p.1≠n:=by
 induction u with
 | nil=>simp [look]
 | cons p u ih=>
  rw [look];by_cases h:p.1=n
  .rw [jp h];simp [h]
  .rw [jq h,ih];simp [h]
theorem J8:∀ {u:jz} {n:List UInt8} {r:T},look u n=some r->(n,r)∈u
 | p::u,n,r,h=>by
  rw [look] at h;by_cases e:p.1=n
  .rw [jp e] at h;cases h;rw [<-e];simp
  .rw [jq e] at h;exact JE _ (J8 h)
def MOk (p:T->Prop) (m:jz):Prop:=(m.map Prod.fst).Nodup/\(∀q∈m,ju q.1=true/\p q.2)
theorem MOk.nil (p:T->Prop):MOk p []:=⟨by simp,λq h=>by cases h⟩
theorem MOk.push {p:T->Prop} {m:jz} (h:MOk p m) {n:List UInt8} {t:T} (hn:ju n=true) (ht:p t) (hl:look m n=none):MOk p (m++[(n,t)]):=by
 refine ⟨?_,λq hq=> ?_⟩
 .rw [zV,jk8];refine ⟨h.1,by simp,λa ha b hb=> ?_⟩;simp only [kV,ye,kG] at hb;subst hb;obtain ⟨q,hq,rfl⟩:=yP.1 ha;exact JJ.1 hl q hq
 .rcases kM.1 hq with hq|hq
  .exact h.2 q hq
  .simp only [kG] at hq;subst hq;exact ⟨hn,ht⟩
theorem jmj {p:T->Prop} (hp:∀t,p t-> ∀u∈t.args,p u):∀(a:T) {m m':jz} {t:T},MOk p m->p t->mt m a t=some m'->MOk p m':=by
 refine T.ind (p:=λa=>∀ {m m':jz} {t:T},MOk p m->p t->mt m a t=some m'->MOk p m') λa ih=> ?_;intro m m' t hm ht h;cases hv:ju a.name with
 | true=>
  rw [jgW hv] at h;split at h
  .split at h
   .cases h;exact hm
   .cases h
  .rename_i hl;cases h;exact hm.push hv ht hl
 | false=>
  rw [jgV hv] at h;split at h
  .have key:∀(us:List T) (ts:List T) {m m':jz},(∀u∈us,u∈a.args)->(∀u∈ts,p u)->MOk p m->mtL m us ts=some m'->MOk p m':=by
    intro us;induction us with
    | nil=>intro ts m m' _ _ hm h;simp only [mtL,kY] at h;exact h ▸ hm
    | cons u us ih2=>
     intro ts m m' hu hts hm h;cases ts with
     | nil=>simp only [mtL,kY] at h;exact h ▸ hm
     | cons s ts=>
      simp only [mtL] at h;obtain ⟨m1,h1,h2⟩:=zJ.1 h;exact ih2 ts (λx hx=>hu x (by simp [hx])) (λx hx=>hts x (by simp [hx])) (ih u (hu u (by simp)) hm (hts s (by simp)) h1) h2
   exact key a.args t.args (λ_ h=>h) (hp t ht) hm h
  .cases h
def Y4 (s:jz) (n:List UInt8) (t:T):jz:=s.takeWhile (λp=>yT p.1 n)++(n,t)::s.dropWhile (λp=>yT p.1 n)
def J5 (s:jz) (n:List UInt8) (t:T):jz:=if t.name=n then s else Y4 s n t
def JU (m:jz):jz:=m.foldl (λs p=>J5 s p.1 p.2) []
theorem jbT (a:List UInt8):yT a a=false:=by
 unfold yT;cases h:Op.bytesLess a a with
 | false=>rfl
 | true=>
  exfalso;induction a with
  | nil=>simp [Op.bytesLess] at h
  | cons c r ih=>simp [Op.bytesLess] at h;exact ih h
theorem jvY (n:List UInt8) (t:T) (x:List UInt8):∀s:jz,look (Y4 s n t) x=if n=x then some t else look s x:=by
 intro s;unfold Y4;induction s with
 | nil=>simp [look]
 | cons p s ih=>
  cases hl:yT p.1 n with
  | true=>
   rw [jpq (p:=λp:List UInt8 × T=>yT p.1 n) hl,jt6 (p:=λp:List UInt8 × T=>yT p.1 n) hl,Qn,look,ih,look];by_cases h1:p.1=x
   .rw [jp h1,jp h1];have:n≠x:=λe=>by rw [h1,<-e,jbT] at hl;cases hl
    rw [jq this]
   .rw [jq h1,jq h1]
  | false=>
   rw [jsr (p:=λp:List UInt8 × T=>yT p.1 n) (by simp [hl]),jvt (p:=λp:List UInt8 × T=>yT p.1 n) (by simp [hl]),qQ,look]
theorem jmh (s:jz) (n:List UInt8) (t:T) (x:List UInt8):look (J5 s n t) x=if n=x/\t.name≠x then some t else look s x:=by
 unfold J5;by_cases h:t.name=n
 .rw [jp h];by_cases h2:n=x
  .rw [jq (λh3=>h3.2 (h.trans h2))]
  .rw [jq (λh3=>h2 h3.1)]
 .rw [jq h,jvY];by_cases h2:n=x
  .rw [jp h2,jp ⟨h2,λe=>h (e.trans h2.symm)⟩]
  .rw [jq h2,jq (λh3=>h2 h3.1)]
theorem jjZ (x:List UInt8):∀(m s:jz),(m.map Prod.fst).Nodup->look (m.foldl (λs p=>J5 s p.1 p.2) s) x=(match look m x with|some t=>if t.name=x then look s x else some t|none=>look s x)
 | [],s,_=>rfl
 | p::m,s,hn=>by
  rw [kV,jho] at hn;rw [K6,jjZ x m _ hn.2,look];by_cases h:p.1=x
  .have:look m x=none:=JJ.2 λq hq e=>hn.1 (by rw [h,<-e];exact List.mem_map_of_mem hq)
   rw [this,jp h];show look (J5 s p.1 p.2) x=if p.2.name=x then look s x else some p.2;rw [jmh];by_cases h2:p.2.name=x
   .rw [jp h2,jq (λh3=>h3.2 h2)]
   .rw [jq h2,jp ⟨h,h2⟩]
  .rw [jq h];have e:look (J5 s p.1 p.2) x=look s x:=by rw [jmh,jq (λh3=>h h3.1)]
   rw [e]
theorem jtT {m:jz} (hm:MOk (λt=>yH t=true) m) {x:List UInt8} (hx:ju x=true):jct (JU m) x=jct m x:=by
 unfold jct JU;rw [jjZ x m [] hm.1];cases h:look m x with
 | none=>rfl
 | some t=>
  show Option.getD (if t.name=x then look [] x else some t) _=t;by_cases h2:t.name=x
  .rw [jp h2];have hk:=(hm.2 _ (J8 h)).2;have ha:=JC hk (by rw [h2];exact hx);show T.mk x []=t;rw [<-h2,<-ha,T.eta]
  .rw [jq h2];rfl
theorem jwR {u v:jz} (h:∀x,ju x=true->jct u x=jct v x):∀t:T,sub u t=sub v t:=by
 refine T.ind λt ih=> ?_;cases hv:ju t.name with
 | true=>rw [KP hv,KP hv,h _ hv]
 | false=>rw [JN hv,JN hv,jhj ih]
theorem jwS {m:jz} (hm:MOk (λt=>yH t=true) m) (t:T):sub (JU m) t=sub m t:=jwR (λ_ hx=>jtT hm hx) t
theorem jzW (n:List UInt8) (h:ju n=true):yH (.mk n [])=true:=by rw [yW];show (if ju n then _ else _)=true;rw [jp h];rfl
theorem jbY {u:jz} (hu:∀q∈u,yH q.2=true):∀t:T,yH t=true->yH (sub u t)=true:=by
 refine T.ind λt ih hk=> ?_;cases hv:ju t.name with
 | true=>
  rw [KP hv,jct];cases h:look u t.name with
  | none=>exact jzW _ hv
  | some r=>exact hu _ (J8 h)
 | false=>
  have hk':=hk;rw [yW,hv,jq kx,jy,jy,J2] at hk;rw [yW,jkP hv,hv,jq kx,jf7 hv,jy,jy,J2];refine ⟨hk.1,by simpa using hk.2.1,?_⟩;rw [List.all_map,z7];intro a ha;exact ih a ha (z7.1 hk.2.2 a ha)
def jag (r:T):T:=r.args.getD 0 (.mk [] [])
def jha (r:T):T:=r.args.getD 1 (.mk [] [])
noncomputable def JQ:List T->T->Option T
 | [],_=>none
 | r::rs,t=>(match mt [] (jag r) t with|some m=>some (sub m (jha r))|none=>JQ rs t)
mutual
noncomputable def jaT (rs:List T) (root:Bool):T->Option T
 | .mk n us=>(match ZI rs us with|some us'=>some (.mk n us')|none=>if root then JQ rs (.mk n us) else none)
noncomputable def ZI (rs:List T):List T->Option (List T)
 | []=>none
 | t::ts=>(match jaT rs true t with|some t'=>some (t'::ts)|none=>(ZI rs ts).map (t::·))
end
theorem jfQ (rs:List T) (root:Bool) (t:T):jaT rs root t=(match ZI rs t.args with|some us=>some (.mk t.name us)|none=>if root then JQ rs t else none):=by cases t;rfl
def atT:List Nat->T->T
 | [],t=>t
 | i::p,t=>atT p (t.args.getD i (.mk [] []))
def zq (s:T):List Nat->T->T
 | [],_=>s
 | i::p,t=> .mk t.name (t.args.set i (zq s p (t.args.getD i (.mk [] []))))
mutual
def jaW:T->List (List Nat)
 | .mk _ us=>QK 0 us++[[]]
def QK (i:Nat):List T->List (List Nat)
 | []=>[]
 | t::ts=>(jaW t).map (i::·)++QK (i+1) ts
end
theorem jru (t:T):jaW t=QK 0 t.args++[[]]:=by cases t;rfl
theorem jfx {α β γ:Type} (f:β->Option γ) (g:α->β):∀l:List α,(l.map g).findSome? f=l.findSome? (λa=>f (g a))
 | []=>rfl
 | a::l=>by rw [kV,jdH,jdH,jfx f g l]
theorem jc1 {α β:Type} {f g:α->Option β} :∀ {l:List α},(∀a∈l,f a=g a)->l.findSome? f=l.findSome? g
 | [],_=>rfl
 | a::l,h=>by rw [jdH,jdH,h a (by simp),jc1 λb hb=>h b (by simp [hb])]
theorem jej {α β γ:Type} (f:α->Option β) (g:β->γ):∀l:List α,l.findSome? (λa=>(f a).map g)=(l.findSome? f).map g
 | []=>rfl
 | a::l=>by
  rw [jdH,jdH];cases h:f a with
  | none=>exact jej f g l
  | some b=>rfl
noncomputable def Qd (rs:List T) (root:Bool) (t:T) (p:List Nat):Option T:=if p = []/\root=false then none else (JQ rs (atT p t)).map λs=>zq s p t
theorem jv5 (rs:List T):∀(t:T) (root:Bool),(jaW t).findSome? (Qd rs root t)=jaT rs root t:=by
 refine T.ind λt ih root=> ?_;have hL:∀(us:List T) (i:Nat),(∀u∈us,u∈t.args)->t.args.drop i=us->(QK i us).findSome? (Qd rs root t)=(ZI rs us).map λus'=> .mk t.name (t.args.take i++us'):=by
  intro us;induction us with
  | nil=>intro i _ _;rfl
  | cons u us ih2=>
   intro i hu hd;have hi:i < t.args.length:=by
    rcases jb6 i t.args.length with h|h
    .exact h
    .rw [jhk h] at hd;cases hd
   have hui:t.args.getD i (.mk [] [])=u:=by
    rw [zO];have:=congrArg (λl=>l[0]?) hd;simp only [jet,kC,qa] at this;rw [this];rfl
   have hd2:t.args.drop (i+1)=us:=by
    have:=congrArg (λl=>l.drop 1) hd;simpa [jlf,Nat.add_comm] using this
   rw [QK,List.findSome?_append,jfx,ZI];have e1:(jaW u).findSome? (λp=>Qd rs root t (i::p))=(jaT rs true u).map λu'=> .mk t.name (t.args.set i u'):=by
    rw [<-ih u (hu u (by simp)) true,<-jej];refine jc1 λp _=> ?_;unfold Qd;rw [jq (by simp),jq (by simp),atT,hui];cases JQ rs (atT p u) with
    | none=>rfl
    | some s=>show some (zq s (i::p) t)=some (T.mk t.name (t.args.set i (zq s p u)));rw [zq,hui]
   rw [e1];cases ho:jaT rs true u with
   | some u'=>
    show some (T.mk t.name (t.args.set i u'))=some (T.mk t.name (t.args.take i++u'::us));rw [List.set_eq_take_append_cons_drop,jp hi,hd2]
   | none=>
    show (QK (i+1) us).findSome? (Qd rs root t)=_;rw [ih2 (i+1) (λx hx=>hu x (by simp [hx])) hd2];cases ZI rs us with
    | none=>rfl
    | some us'=>
     show some (T.mk t.name (t.args.take (i+1)++us'))=some (T.mk t.name (t.args.take i++u::us'));have:t.args.take (i+1)=t.args.take i++[u]:=by
      rw [jcf];congr 1;have h0:t.args[i]? = some u:=by
       have:=congrArg (λl=>l[0]?) hd;simpa using this
      rw [h0];rfl
     rw [this,yf];rfl
 rw [jru,List.findSome?_append,hL t.args 0 (λ_ h=>h) rfl,jfQ];cases ZI rs t.args with
 | some us=>rfl
 | none=>
  show ([[]]:List (List Nat)).findSome? (Qd rs root t)=(if root=true then JQ rs t else none);rw [jdH];unfold Qd;cases root with
  | false=>rfl
  | true=>
   rw [jq (by simp),jp rfl];rw [atT];cases JQ rs t<;>rfl
def job (rs:List T):Prop:=∀r∈rs,yH (jag r)=true/\yH (jha r)=true
theorem jrM {t:T} (ht:yH t=true):∀ {rs:List T} {u:T},job rs->JQ rs t=some u->yH u=true
 | r::rs,u,hr,h=>by
  rw [JQ] at h;split at h
  .rename_i m hm;cases h;have hM:=jmj (p:=λt=>yH t=true) (λt ht u hu=>by
    cases hv:ju t.name with
    | true=>rw [JC ht hv] at hu;cases hu
    | false=>
     rw [yW,hv,jq kx,jy,jy,J2] at ht;exact z7.1 ht.2.2 u hu) _ (MOk.nil _) ht hm
   exact jbY (λq hq=>(hM.2 q hq).2) _ (hr r (by simp)).2
  .exact jrM ht (λq hq=>hr q (by simp [hq])) h
theorem jeU {rs:List T} :∀ {us us':List T},ZI rs us=some us'->us'.length=us.length/\ ∀p:T->Prop,(∀u∈us,p u)->(∀u∈us,∀u',jaT rs true u=some u'->p u')-> ∀u∈us',p u
 | t::ts,us',h=>by
  rw [ZI] at h;split at h
  .rename_i t' ht;cases h;refine ⟨by simp,λp h1 h2 u hu=> ?_⟩;rcases kW.1 hu with rfl|hu
   .exact h2 t (by simp) _ ht
   .exact h1 u (by simp [hu])
  .rw [Jl] at h;obtain ⟨r,h3,rfl⟩:=h;obtain ⟨g1,g2⟩:=jeU h3;refine ⟨by simp [g1],λp h1 h2 u hu=> ?_⟩;rcases kW.1 hu with rfl|hu
   .exact h1 _ (by simp)
   .exact g2 p (λu hu=>h1 u (by simp [hu])) (λu hu=>h2 u (by simp [hu])) u hu
theorem jBS {rs:List T} (hr:job rs):∀(t:T) {u:T},yH t=true->jaT rs true t=some u->yH u=true:=by
 refine T.ind (p:=λt=>∀ {u:T},yH t=true->jaT rs true t=some u->yH u=true) λt ih=> ?_;intro u ht h;rw [jfQ] at h;split at h
 .rename_i us ho;cases h;obtain ⟨g1,g2⟩:=jeU ho;cases hv:ju t.name with
  | true=>
   rw [JC ht hv] at ho;cases ho
  | false=>
   have ha:=zM ht;rw [yW,hv,jq kx,jy,jy] at ht;rw [yW];show (if ju t.name then _ else qN t.name && (decide (us.length<=4) && jka us))=true;rw [hv,jq kx,jy,jy,g1,J2,z7];exact ⟨ht.1,ht.2.1,g2 _ ha λu hu u' hu'=>ih u hu (ha u hu) hu'⟩
 .exact jrM ht hr h
noncomputable def rwN (rs:List T) (root:Bool):Nat->Nat->T->Option (T × Nat)
 | 0,_,_=>none
 | k+1,n,t=>(match jaT rs root t with
  | none=>some (t,n)
  | some u=>if k=0\/jG u=false then none else rwN rs root k (n+1) u)
theorem jbz (ts:List T) (hl:ts.length<=1048576) (ih:∀t∈ts,G 202 [tm t]=some (tm t,[])):jm9 (jQ ts)=some (.top,[jQ ts]):=by
 rw [jDV];by_cases h0:ts.length=0
 .have:ts = []:=jhr.1 h0;subst this;simp only [jd,jP];rfl
 have hz:¬((ts.length:Nat):Int)=0:=by omega
 have hm:=Jg (b:=40) (n:=ts.length) (by omega) hl;have key:=(upto (P:=λi=>jfc (jQ ts) (vi (ts.length:Nat)) (vi i) (part jw [sv [],.sl 2 []] ts i)=some (.top,[jQ ts])) (n:=ts.length) ?_ ?_ 0 (jD _))
 .simp only [jP,<-Zj] at key;simp only [jd,hz,hm,key]
 .rw [jqL,Y1];simp only [jd]
 .intro i hi ih';have hlt:(i:Int) < ((ts.length:Nat):Int):=by omega
  have h1:=Js (f:=jw) (z:=[sv [],.sl 2 []]) (ZQ hi);have h2:QI (part jw [sv [],.sl 2 []] ts i).length (vi i)=some i:=yp (by omega);have h4:=Y3 (f:=jw) (z:=[sv [],.sl 2 []]) hi;rw [zn] at h4;have h5:=jm hi (ZR hl (by decide));have e1:G 202 [A.agg [sv ts[i].name,jQ ts[i].args]]=_:=ih ts[i] (jo _);rw [jqL];simp only [jd,hlt,ja hi,jf,e1,qa,h2,Y2 hi,jiq,h4,h5,ih']
theorem Jp (t:T):tsz t<=1048576->G 202 [tm t]=some (tm t,[]):=by
 refine T.ind (p:=λt=>tsz t<=1048576->G 202 [tm t]=some (tm t,[])) ?_ t;intro t ih h;rw [kQ] at h;have e1:=jbz t.args (by omega) λu hu=>ih u hu (by have:=yC hu;omega);rw [jLo];simp only [jd,e1]
theorem joj (t:T) (h:tsz t<=1048576):jgq (sv t.name) (jQ t.args)=some (.top,[sv t.name,jQ t.args]):=by
 rw [kQ] at h;have e1:=jbz t.args (by omega) λu hu=>Jp u (by have:=yC hu;omega);rw [jxs];simp only [jd,e1]
theorem jdW:pNo (vb false)=some ():=rfl
theorem jDm:slL [259] [[]] = [.sl 259 []]:=rfl
theorem jwl {n:Nat} (h:n<=4194304):jK n 56=true:=by
 unfold jK;exact jW ⟨by omega,by omega⟩
theorem jj2 {p:T->Prop} (hp:∀t,p t-> ∀u∈t.args,p u):∀(a:T) {m m':jz} {t:T},(∀q∈m,p q.2)->p t->mt m a t=some m'->(∀q∈m',p q.2)/\m'.length<=m.length+nodes a:=by
 refine T.ind (p:=λa=>∀ {m m':jz} {t:T},(∀q∈m,p q.2)->p t->mt m a t=some m'->(∀q∈m',p q.2)/\m'.length<=m.length+nodes a) λa ih=> ?_;intro m m' t hm ht h;have hn:=jS a;cases hv:ju a.name with
 | true=>
  rw [jgW hv] at h;split at h
  .split at h
   .cases h;exact ⟨hm,by omega⟩
   .cases h
  .cases h;refine ⟨λq hq=> ?_,by rw [ym,List.length_singleton];omega⟩;rcases kM.1 hq with hq|hq
   .exact hm q hq
   .simp only [kG] at hq;subst hq;exact ht
 | false=>
  rw [jgV hv] at h;split at h
  .have key:∀(us:List T) (ts:List T) {m m':jz},(∀u∈us,u∈a.args)->(∀u∈ts,p u)->(∀q∈m,p q.2)->mtL m us ts=some m'->(∀q∈m',p q.2)/\m'.length<=m.length+js us:=by
    intro us;induction us with
    | nil=>intro ts m m' _ _ hm h;simp only [mtL,kY] at h;exact h ▸ ⟨hm,by omega⟩
    | cons u us ih2=>
     intro ts m m' hu hts hm h;have e:js (u::us)=nodes u+js us:=rfl;cases ts with
     | nil=>simp only [mtL,kY] at h;exact h ▸ ⟨hm,by omega⟩
     | cons s ts=>
      simp only [mtL] at h;obtain ⟨m1,h1,h2⟩:=zJ.1 h;obtain ⟨i1,i2⟩:=ih u (hu u (by simp)) hm (hts s (by simp)) h1;obtain ⟨j1,j2⟩:=ih2 ts (λx hx=>hu x (by simp [hx])) (λx hx=>hts x (by simp [hx])) i1 h2;exact ⟨j1,by omega⟩
   obtain ⟨i1,i2⟩:=key a.args t.args (λ_ h=>h) (hp t ht) hm h;exact ⟨i1,by omega⟩
  .cases h
def MR (o:Option Out) (r:Option jz):Prop:=match r with
 | some m'=>o=some (.top,[vb true,.sl 259 (m'.map bc)])
 | none=>∃R,o=some (.top,[vb false,.sl 259 R])
theorem jkk {m:jz} {i:Nat} (hi:i < m.length):Yb (m.map bc) i 0=some (sv m[i].1):=by unfold Yb;simp [hi]
theorem jrn {m:jz} {i:Nat} (hi:i < m.length):K2 (m.map bc) i 1 2=some (tm m[i].2):=by unfold K2;simp [hi]
def Tz (t:T):Prop:=tsz t<=1048576
theorem Tz.args {t:T} (h:Tz t):∀u∈t.args,Tz u:=λu hu=>by
 have:=yC hu;unfold Tz at h ⊢;rw [kQ] at h;omega
theorem Tz.wf {t:T} (h:Tz t):JO t:=jE4 t h
theorem jvU (n:List UInt8) (x:A) (t:T) (ht:Tz t) (m:jz) (hm:∀q∈m,Tz q.2) (hl:m.length<=4000000) (hx:jR x=true):MR (jcO (vi 0) (sv n) x (sv t.name) (jQ t.args) (m.map bc)) (match look m n with|some r=>if dq r t then some m else none|none=>some (m++[(n,t)])):=by
 have key:=upto (P:=λi=>MR (jcO (vi i) (sv n) x (sv t.name) (jQ t.args) (m.map bc)) (match look (m.drop i) n with|some r=>if dq r t then some m else none|none=>some (m++[(n,t)]))) (n:=m.length) ?_ ?_ 0 (jD _)
 .exact key
 .rw [j6,jqS];have hf:=jwl (n:=m.length+1) (by omega);show _=_;simp only [jd,hx,hf];rw [zV];rfl
 .intro i hi ih;have hlt:(i:Int) < ((m.length:Nat):Int):=by omega
  have h5:=jm hi (by show m.length<=9223372036854775807;omega)
  have x1:QI m.length (vi ((i:Nat):Int))=some i:=yp hi;have x2:=jkk hi;have x3:=jrn hi;have e1:=Jd m[i].2 (hm _ (jo hi)).wf t ht.wf;rw [jqS,jh hi,look];by_cases he:m[i].1=n
  .rw [jp he];show MR _ (if dq m[i].2 t=true then some m else none);cases hd:dq m[i].2 t<;>rw [hd] at e1
   .rw [jq kx];refine ⟨m.map bc,?_⟩;simp only [jd,hlt,x1,x2,x3,he,e1]
   .rw [jp rfl];show _=_;simp only [jd,hlt,x1,x2,x3,he,e1]
  .rw [jq he];simp only [jd,hlt,x1,x2,x3,he,h5];exact ih
theorem jto (a t:T) (ht:Tz t) (ha:Tz a) (hl:a.args.length=t.args.length) (m:jz) (hm:∀q∈m,Tz q.2) (hk:m.length+js a.args<=4000000)
  (ih:∀u∈a.args,∀(s:T) (m:jz),Tz s->(∀q∈m,Tz q.2)->m.length+nodes u<=4000000->MR (QS (tm u) (tm s) (m.map bc)) (mt m u s)) :
  MR (jfg (vi 0) (sv a.name) (jQ a.args) (sv t.name) (jQ t.args) (m.map bc)) (mtL m a.args t.args):=by
 have ha':=ha;unfold Tz at ha;rw [kQ] at ha;have nd:∀i,i < a.args.length->js (a.args.drop i)=js a.args->True:=λ_ _ _=>trivial;have key2:=upto (P:=λi=>∀m:jz,(∀q∈m,Tz q.2)->m.length+js (a.args.drop i)<=4000000->MR (jcP (vi i) (sv a.name) (jQ a.args) (sv t.name) (jQ t.args) (m.map bc)) (mtL m (a.args.drop i) (t.args.drop i))) (n:=a.args.length) ?_ ?_;rotate_left
 .intro m hm hk;rw [j6,jjQ];simp only [mtL];show _=_;simp only [jd]
 .intro i hi ih2 m hm hk;have hi':i < t.args.length:=by omega
  have hlt:(i:Int) < ((a.args.length:Nat):Int):=by omega
  have h5:=jm hi (by show a.args.length<=9223372036854775807;omega)
  have e:js (a.args.drop i)=nodes a.args[i]+js (a.args.drop (i+1)):=by rw [jh hi];rfl
  have q:=ih a.args[i] (jo _) t.args[i] m (ht.args _ (jo _)) hm (by omega);rw [jh hi,jh hi',jjQ];simp only [mtL];cases hq:mt m a.args[i] t.args[i] with
  | none=>
   rw [hq] at q;obtain ⟨R,q⟩:=q;refine ⟨[],?_⟩;simp only [jd,hlt,ja hi,ja hi',jf,q,qa,jdW,jDm]
  | some m1=>
   rw [hq] at q;have q:QS (tm a.args[i]) (tm t.args[i]) (m.map bc)=some (.top,[vb true,.sl 259 (m1.map bc)]):=q;obtain ⟨i1,i2⟩:=jj2 (p:=Tz) (λ_ h=>h.args) _ hm (ht.args _ (jo hi')) hq;simp only [jd,hlt,ja hi,ja hi',jf,q,qa,h5];exact ih2 m1 i1 (by omega)
 have e1:∀(m:jz) (i:Nat),jfg (vi i) (sv a.name) (jQ a.args) (sv t.name) (jQ t.args) (m.map bc)=jcP (vi i) (sv a.name) (jQ a.args) (sv t.name) (jQ t.args) (m.map bc):=λm i=>by
  rw [jzx,jjQ]
 have:=key2 0 (jD _) m hm hk;rw [<-e1] at this;exact this
theorem jvT (n:List UInt8) (x:A) (t:T) (ht:Tz t) (m:jz) (hm:∀q∈m,Tz q.2) (hl:m.length<=4000000) (hx:jR x=true):MR (jcM (vi 0) (sv n) x (sv t.name) (jQ t.args) (m.map bc)) (match look m n with|some r=>if dq r t then some m else none|none=>some (m++[(n,t)])):=by
 have key:=upto (P:=λi=>MR (jcM (vi i) (sv n) x (sv t.name) (jQ t.args) (m.map bc)) (match look (m.drop i) n with|some r=>if dq r t then some m else none|none=>some (m++[(n,t)]))) (n:=m.length) ?_ ?_ 0 (jD _)
 .exact key
 .rw [j6,jqR];have hf:=jwl (n:=m.length+1) (by omega);show _=_;simp only [jd,hx,hf];rw [zV];rfl
 .intro i hi ih;have hlt:(i:Int) < ((m.length:Nat):Int):=by omega
  have h5:=jm hi (by show m.length<=9223372036854775807;omega)
  have x1:QI m.length (vi ((i:Nat):Int))=some i:=yp hi;have x2:=jkk hi;have x3:=jrn hi;have e1:=Jd m[i].2 (hm _ (jo hi)).wf t ht.wf;rw [jqR,jh hi,look];by_cases he:m[i].1=n
  .rw [jp he];show MR _ (if dq m[i].2 t=true then some m else none);cases hd:dq m[i].2 t<;>rw [hd] at e1
   .rw [jq kx];refine ⟨m.map bc,?_⟩;simp only [jd,hlt,x1,x2,x3,he,e1]
   .rw [jp rfl];show _=_;simp only [jd,hlt,x1,x2,x3,he,e1]
  .rw [jq he];simp only [jd,hlt,x1,x2,x3,he,h5];exact ih
theorem jtn (a t:T) (ht:Tz t) (ha:Tz a) (hl:a.args.length=t.args.length) (m:jz) (hm:∀q∈m,Tz q.2) (hk:m.length+js a.args<=4000000)
  (ih:∀u∈a.args,∀(s:T) (m:jz),Tz s->(∀q∈m,Tz q.2)->m.length+nodes u<=4000000->MR (QS (tm u) (tm s) (m.map bc)) (mt m u s)) :
  MR (jff (vi 0) (sv a.name) (jQ a.args) (sv t.name) (jQ t.args) (m.map bc)) (mtL m a.args t.args):=by
 have ha':=ha;unfold Tz at ha;rw [kQ] at ha;have nd:∀i,i < a.args.length->js (a.args.drop i)=js a.args->True:=λ_ _ _=>trivial;have key2:=upto (P:=λi=>∀m:jz,(∀q∈m,Tz q.2)->m.length+js (a.args.drop i)<=4000000->MR (jcN (vi i) (sv a.name) (jQ a.args) (sv t.name) (jQ t.args) (m.map bc)) (mtL m (a.args.drop i) (t.args.drop i))) (n:=a.args.length) ?_ ?_;rotate_left
 .intro m hm hk;rw [j6,jjP];simp only [mtL];show _=_;simp only [jd]
 .intro i hi ih2 m hm hk;have hi':i < t.args.length:=by omega
  have hlt:(i:Int) < ((a.args.length:Nat):Int):=by omega
  have h5:=jm hi (by show a.args.length<=9223372036854775807;omega)
  have e:js (a.args.drop i)=nodes a.args[i]+js (a.args.drop (i+1)):=by rw [jh hi];rfl
  have q:=ih a.args[i] (jo _) t.args[i] m (ht.args _ (jo _)) hm (by omega);rw [jh hi,jh hi',jjP];simp only [mtL];cases hq:mt m a.args[i] t.args[i] with
  | none=>
   rw [hq] at q;obtain ⟨R,q⟩:=q;refine ⟨[],?_⟩;simp only [jd,hlt,ja hi,ja hi',jf,q,qa,jdW,jDm]
  | some m1=>
   rw [hq] at q;have q:QS (tm a.args[i]) (tm t.args[i]) (m.map bc)=some (.top,[vb true,.sl 259 (m1.map bc)]):=q;obtain ⟨i1,i2⟩:=jj2 (p:=Tz) (λ_ h=>h.args) _ hm (ht.args _ (jo hi')) hq;simp only [jd,hlt,ja hi,ja hi',jf,q,qa,h5];exact ih2 m1 i1 (by omega)
 have e1:∀(m:jz) (i:Nat),jff (vi i) (sv a.name) (jQ a.args) (sv t.name) (jQ t.args) (m.map bc)=jcN (vi i) (sv a.name) (jQ a.args) (sv t.name) (jQ t.args) (m.map bc):=λm i=>by
  rw [jzw,jjP]
 have:=key2 0 (jD _) m hm hk;rw [<-e1] at this;exact this
theorem jtm:∀(a:T),Tz a-> ∀(t:T) (m:jz),Tz t->(∀q∈m,Tz q.2)->m.length+nodes a<=4000000->MR (QS (tm a) (tm t) (m.map bc)) (mt m a t):=by
 refine T.ind λa ih ha t m ht hm hk=> ?_;have hn:=jS a;have e1:=zy a.name (((kJ a).1 ha.wf).1);have hal:a.args.length<=1048576:=by unfold Tz at ha;rw [kQ] at ha;omega
 rw [jD2];cases hv:ju a.name<;>rw [hv] at e1
 .rw [jgV hv];by_cases he:a.name=t.name/\a.args.length=t.args.length
  .rw [jp he];have hl:((a.args.length:Nat):Int)=((t.args.length:Nat):Int):=by omega
   have:=jto a t ht ha he.2 m hm (by omega) λu hu s m hs hm hk=>ih u hu (ha.args u hu) s m hs hm hk;rw [he.1] at e1 this;simp only [jd,he.1,e1,hl];exact this
  .rw [jq he];refine ⟨m.map bc,?_⟩;by_cases h1:a.name=t.name
   .have hl:¬((a.args.length:Nat):Int)=((t.args.length:Nat):Int):=λh=>he ⟨h1,by omega⟩;rw [h1] at e1;simp only [jd,e1,h1,hl]
   .simp only [jd,e1,h1]
 .rw [jgW hv];have:=jvU a.name (jQ a.args) t ht m hm (by omega) (jtv _ _);simp only [jd,e1];exact this
theorem jqT (a:T) (ha:Tz a) (t:T) (m:jz) (ht:Tz t) (hm:∀q∈m,Tz q.2) (hk:m.length+nodes a<=4000000):MR (jiM (tm a) (sv t.name) (jQ t.args) (m.map bc)) (mt m a t):=by
 have hn:=jS a;have e1:=zy a.name (((kJ a).1 ha.wf).1);rw [jD1];cases hv:ju a.name<;>rw [hv] at e1
 .rw [jgV hv];by_cases he:a.name=t.name/\a.args.length=t.args.length
  .rw [jp he];have hl:((a.args.length:Nat):Int)=((t.args.length:Nat):Int):=by omega
   have:=jtn a t ht ha he.2 m hm (by omega) λu hu s m hs hm hk=>jtm u (ha.args u hu) s m hs hm hk;rw [he.1] at e1 this;simp only [jd,he.1,e1,hl];exact this
  .rw [jq he];refine ⟨m.map bc,?_⟩;by_cases h1:a.name=t.name
   .have hl:¬((a.args.length:Nat):Int)=((t.args.length:Nat):Int):=λh=>he ⟨h1,by omega⟩;rw [h1] at e1;simp only [jd,e1,h1,hl]
   .simp only [jd,e1,h1]
 .rw [jgW hv];have:=jvT a.name (jQ a.args) t ht m hm (by omega) (jtv _ _);simp only [jd,e1];exact this
abbrev kv (p:List UInt8 × T):List A:=[sv p.1,tm p.2]
theorem jxP (a b:List UInt8):eqK none (sv a) (sv b)=some (decide (a=b)):=by show some (decide (bs _=bs _))=_;refine congrArg some (jhi.2 ?_);simp
theorem jbI (n:List UInt8):∀(m:jz) (k:Nat),Jr none (sv n) (m.map kv) k=some (match look m n with|some _=>(match m.findIdx? (λp=>decide (p.1=n)) with|some j=>some (k+j,tm ((look m n).getD (.mk [] [])))|none=>none)|none=>none)
 | [],k=>rfl
 | p::m,k=>by
  rw [kV,look,Jr,jxP];by_cases h:p.1=n
  .rw [jp h,jW h.symm,jpn,jp (jW h)];rfl
  .rw [jq h,kA (λe=>h e.symm),jpn,jq (by simp [h])];show Jr none (sv n) (m.map kv) (k+1)=_;rw [jbI n m (k+1)];cases look m n with
   | none=>rfl
   | some r=>
    cases m.findIdx? (λp=>decide (p.1=n)) with
    | none=>rfl
    | some j=>show some (some (k+1+j,_))=some (some (k+(j+1),_));rw [show k+1+j=k+(j+1) by omega]
theorem jjY {n:List UInt8} :∀ {m:jz} {r:T},look m n=some r-> ∃j,m.findIdx? (λp=>decide (p.1=n))=some j/\m.set j (n,r)=m
 | p::m,r,h=>by
  rw [look] at h;rw [jpn];by_cases e:p.1=n
  .rw [jp e] at h;rw [jp (jW e)];cases h;exact ⟨0,rfl,by rw [<-e];rfl⟩
  .rw [jq e] at h;rw [jq (by simp [e])];obtain ⟨j,h1,h2⟩:=jjY h;exact ⟨j+1,by rw [h1];rfl,by rw [jk2,h2]⟩
theorem jki (z:List A) (m:jz) (n:List UInt8):Kq none true false z (.mp (m.map kv)) (sv n)=some (match look m n with|some r=> .tup [tm r,vb true]|none=> .tup [.agg z,vb false]):=by
 show ((some (m.map kv)).bind λxs=>(Jr none (sv n) xs 0).map (jq2 true false z))=_;rw [yz,jbI];cases h:look m n with
 | none=>rfl
 | some r=>
  obtain ⟨j,h1,_⟩:=jjY h;show (some (match m.findIdx? _ with|some j=>some (0+j,tm r)|none=>none)).map _=_;rw [h1];rfl
theorem jmr {m:jz} {n:List UInt8} (h:look m n=none) (t:T):jik none (m.map kv) (sv n) (tm t)=some ((m++[(n,t)]).map kv):=by
 show (Jr none (sv n) (m.map kv) 0).map _=_;rw [jbI,h,zV];rfl
theorem jms {m:jz} {n:List UInt8} {r:T} (h:look m n=some r) (a:A):∃R,jik none (m.map kv) (sv n) a=some R/\(a=tm r->R=m.map kv):=by
 obtain ⟨j,h1,h2⟩:=jjY h;refine ⟨(m.map kv).set j [sv n,a],?_,λe=> ?_⟩
 .show (Jr none (sv n) (m.map kv) 0).map _=_;rw [jbI,h];show (some (match m.findIdx? _ with|some j=>some (0+j,tm r)|none=>none)).map _=_;rw [h1];show some ((m.map kv).set (0+j) [sv n,a])=_;rw [yc]
 .rw [e];have:([sv n,tm r]:List A)=kv (n,r):=rfl;rw [this,<-jm5,h2]
def MI (o:Option Out) (r:Option jz):Prop:=match r with
 | some m'=>o=some (.top,[vb true,.sl 128 (m'.map kv)])
 | none=>∃R,o=some (.top,[vb false,.sl 128 R])
theorem jvN (a t:T) (ht:Tz t) (ha:Tz a) (hl:a.args.length=t.args.length) (m:jz) (hm:∀q∈m,Tz q.2)
  (ih:∀u∈a.args,∀(s:T) (m:jz),Tz s->(∀q∈m,Tz q.2)->MI (YG (sv u.name) (jQ u.args) (tm s) (m.map kv)) (mt m u s)) :
  MI (jcK (jQ a.args) (vi (a.args.length:Nat)) (vi 0) (sv t.name) (jQ t.args) (m.map kv)) (mtL m a.args t.args):=by
 have ha':=ha;unfold Tz at ha;rw [kQ] at ha;have key2:=upto (P:=λi=>∀m:jz,(∀q∈m,Tz q.2)->MI (jcK (jQ a.args) (vi (a.args.length:Nat)) (vi i) (sv t.name) (jQ t.args) (m.map kv)) (mtL m (a.args.drop i) (t.args.drop i))) (n:=a.args.length) ?_ ?_;rotate_left
 .intro m hm;rw [j6,jqN];simp only [mtL];show _=_;simp only [jd]
 .intro i hi ih2 m hm;have hi':i < t.args.length:=by omega
  have hlt:(i:Int) < ((a.args.length:Nat):Int):=by omega
  have h5:=jm hi (by show a.args.length<=9223372036854775807;omega)
  have q:=ih a.args[i] (jo _) t.args[i] m (ht.args _ (jo _)) hm;rw [jh hi,jh hi',jqN];simp only [mtL];cases hq:mt m a.args[i] t.args[i] with
  | none=>
   rw [hq] at q;obtain ⟨R,q⟩:=q;refine ⟨R,?_⟩;simp only [jd,hlt,ja hi,ja hi',jf,q,qa]
  | some m1=>
   rw [hq] at q;have q:YG (sv a.args[i].name) (jQ a.args[i].args) (tm t.args[i]) (m.map kv)=some (.top,[vb true,.sl 128 (m1.map kv)]):=q;obtain ⟨i1,i2⟩:=jj2 (p:=Tz) (λ_ h=>h.args) _ hm (ht.args _ (jo hi')) hq;simp only [jd,hlt,ja hi,ja hi',jf,q,qa,h5];exact ih2 m1 i1
 exact key2 0 (jD _) m hm
theorem jvM (a t:T) (ht:Tz t) (ha:Tz a) (hl:a.args.length=t.args.length) (m:jz) (hm:∀q∈m,Tz q.2)
  (ih:∀u∈a.args,∀(s:T) (m:jz),Tz s->(∀q∈m,Tz q.2)->MI (YG (sv u.name) (jQ u.args) (tm s) (m.map kv)) (mt m u s)) :
  MI (jcJ (jQ a.args) (vi (a.args.length:Nat)) (vi 0) (sv t.name) (jQ t.args) (m.map kv)) (mtL m a.args t.args):=by
 have ha':=ha;unfold Tz at ha;rw [kQ] at ha;have key2:=upto (P:=λi=>∀m:jz,(∀q∈m,Tz q.2)->MI (jcJ (jQ a.args) (vi (a.args.length:Nat)) (vi i) (sv t.name) (jQ t.args) (m.map kv)) (mtL m (a.args.drop i) (t.args.drop i))) (n:=a.args.length) ?_ ?_;rotate_left
 .intro m hm;rw [j6,jqM];simp only [mtL];show _=_;simp only [jd]
 .intro i hi ih2 m hm;have hi':i < t.args.length:=by omega
  have hlt:(i:Int) < ((a.args.length:Nat):Int):=by omega
  have h5:=jm hi (by show a.args.length<=9223372036854775807;omega)
  have q:=ih a.args[i] (jo _) t.args[i] m (ht.args _ (jo _)) hm;rw [jh hi,jh hi',jqM];simp only [mtL];cases hq:mt m a.args[i] t.args[i] with
  | none=>
   rw [hq] at q;obtain ⟨R,q⟩:=q;refine ⟨R,?_⟩;simp only [jd,hlt,ja hi,ja hi',jf,q,qa]
  | some m1=>
   rw [hq] at q;have q:YG (sv a.args[i].name) (jQ a.args[i].args) (tm t.args[i]) (m.map kv)=some (.top,[vb true,.sl 128 (m1.map kv)]):=q;obtain ⟨i1,i2⟩:=jj2 (p:=Tz) (λ_ h=>h.args) _ hm (ht.args _ (jo hi')) hq;simp only [jd,hlt,ja hi,ja hi',jf,q,qa,h5];exact ih2 m1 i1
 exact key2 0 (jD _) m hm
theorem jx3 (a:T) (ha:Tz a) (hk:yH a=true) (t:T) (m:jz) (ht:Tz t) (hm:∀q∈m,Tz q.2)
  (ih:∀u∈a.args,∀(s:T) (m:jz),Tz s->(∀q∈m,Tz q.2)->MI (YG (sv u.name) (jQ u.args) (tm s) (m.map kv)) (mt m u s)) :
  MI (YG (sv a.name) (jQ a.args) (tm t) (m.map kv)) (mt m a t):=by
 have e1:G 195 [.agg [sv a.name,jQ a.args]]=some (vb (ju a.name),[]):=YT a hk;have hal:a.args.length<=1048576:=by unfold Tz at ha;rw [kQ] at ha;omega
 rw [jDX];cases hv:ju a.name<;>rw [hv] at e1
 .rw [jgV hv];have pk:(if ((a.args.length:Nat):Int)=0 then G 195 [.agg [sv a.name,jQ a.args]] else some (vb false,[]))=some (vb false,[]):=by split<;>first|exact e1|rfl
  by_cases he:a.name=t.name/\a.args.length=t.args.length
  .rw [jp he];have hl:((a.args.length:Nat):Int)=((t.args.length:Nat):Int):=by omega
   have:=jvN a t ht ha he.2 m hm ih;by_cases h0:((a.args.length:Nat):Int)=0
   .have h0':((t.args.length:Nat):Int)=0:=by omega
    rw [he.1] at e1;rw [he.2,h0'] at this;simp only [jd,he.1,h0',e1,hl];exact this
   .have h0':¬((t.args.length:Nat):Int)=0:=by omega
    rw [he.1] at e1;rw [he.2] at this;simp only [jd,he.1,h0',hl];exact this
  .rw [jq he];refine ⟨m.map kv,?_⟩;by_cases h1:a.name=t.name
   .have hl:¬((a.args.length:Nat):Int)=((t.args.length:Nat):Int):=λh=>he ⟨h1,by omega⟩;rw [h1] at e1;by_cases h0:((a.args.length:Nat):Int)=0
    .have hl0:¬(0:Int)=((t.args.length:Nat):Int):=by omega
     simp only [jd,e1,h1,h0,hl0]
    .simp only [jd,h1,h0,hl]
   .by_cases h0:((a.args.length:Nat):Int)=0
    .simp only [jd,e1,h1,h0]
    .simp only [jd,h1,h0]
 .rw [jgW hv];have h0:a.args = []:=JC hk hv;rw [h0] at e1;have hz:(((0:Nat):Int)=0)=True:=by simp
  have lk:=jki [sv [],.sl 2 []] m a.name;cases hl:look m a.name with
  | none=>
   rw [hl] at lk;have lk:Kq none true false [sv [],.sl 2 []] (.mp (m.map kv)) (sv a.name)=some (.tup [.agg [sv [],.sl 2 []],vb false]):=lk;have pp:=jmr hl t;show _=_;rw [h0];simp only [jd,e1,hz,lk,pp,ye]
  | some r=>
   rw [hl] at lk;have lk:Kq none true false [sv [],.sl 2 []] (.mp (m.map kv)) (sv a.name)=some (.tup [tm r,vb true]):=lk;obtain ⟨R,pp,hR⟩:=jms hl (tm t);have e2:=zQ r (hm _ (J8 hl)).wf t ht.wf;show MI _ (if dq r t=true then some m else none);rw [h0];cases hd:dq r t<;>rw [hd] at e2
   .rw [jq kx];refine ⟨R,?_⟩;simp only [jd,e1,hz,lk,pp,e2,ye]
   .rw [jp rfl];have hr:R=m.map kv:=hR (by rw [Ji.1 hd]);rw [hr] at pp;show _=_;simp only [jd,e1,hz,lk,pp,e2,ye]
theorem jx2 (a:T) (ha:Tz a) (hk:yH a=true) (t:T) (m:jz) (ht:Tz t) (hm:∀q∈m,Tz q.2)
  (ih:∀u∈a.args,∀(s:T) (m:jz),Tz s->(∀q∈m,Tz q.2)->MI (YG (sv u.name) (jQ u.args) (tm s) (m.map kv)) (mt m u s)) :
  MI (jgr (tm a) (sv t.name) (jQ t.args) (m.map kv)) (mt m a t):=by
 have e1:G 195 [.agg [sv a.name,jQ a.args]]=some (vb (ju a.name),[]):=YT a hk;have hal:a.args.length<=1048576:=by unfold Tz at ha;rw [kQ] at ha;omega
 rw [jDW];cases hv:ju a.name<;>rw [hv] at e1
 .rw [jgV hv];have pk:(if ((a.args.length:Nat):Int)=0 then G 195 [.agg [sv a.name,jQ a.args]] else some (vb false,[]))=some (vb false,[]):=by split<;>first|exact e1|rfl
  by_cases he:a.name=t.name/\a.args.length=t.args.length
  .rw [jp he];have hl:((a.args.length:Nat):Int)=((t.args.length:Nat):Int):=by omega
   have:=jvM a t ht ha he.2 m hm ih;by_cases h0:((a.args.length:Nat):Int)=0
   .have h0':((t.args.length:Nat):Int)=0:=by omega
    rw [he.1] at e1;rw [he.2,h0'] at this;simp only [jd,he.1,h0',e1,hl];exact this
   .have h0':¬((t.args.length:Nat):Int)=0:=by omega
    rw [he.1] at e1;rw [he.2] at this;simp only [jd,he.1,h0',hl];exact this
  .rw [jq he];refine ⟨m.map kv,?_⟩;by_cases h1:a.name=t.name
   .have hl:¬((a.args.length:Nat):Int)=((t.args.length:Nat):Int):=λh=>he ⟨h1,by omega⟩;rw [h1] at e1;by_cases h0:((a.args.length:Nat):Int)=0
    .have hl0:¬(0:Int)=((t.args.length:Nat):Int):=by omega
     simp only [jd,e1,h1,h0,hl0]
    .simp only [jd,h1,h0,hl]
   .by_cases h0:((a.args.length:Nat):Int)=0
    .simp only [jd,e1,h1,h0]
    .simp only [jd,h1,h0]
 .rw [jgW hv];have h0:a.args = []:=JC hk hv;rw [h0] at e1;have hz:(((0:Nat):Int)=0)=True:=by simp
  have hta:tm a = .agg [sv a.name,jQ []]:=by show A.agg [_,A.sl 2 (a.args.map jw)]=_;rw [h0]
  have lk:=jki [sv [],.sl 2 []] m a.name;cases hl:look m a.name with
  | none=>
   rw [hl] at lk;have lk:Kq none true false [sv [],.sl 2 []] (.mp (m.map kv)) (sv a.name)=some (.tup [.agg [sv [],.sl 2 []],vb false]):=lk;have pp:=jmr hl t;show _=_;rw [hta];simp only [jd,e1,hz,lk,pp,ye]
  | some r=>
   rw [hl] at lk;have lk:Kq none true false [sv [],.sl 2 []] (.mp (m.map kv)) (sv a.name)=some (.tup [tm r,vb true]):=lk;obtain ⟨R,pp,hR⟩:=jms hl (tm t);have e2:=zQ r (hm _ (J8 hl)).wf t ht.wf;show MI _ (if dq r t=true then some m else none);rw [hta];cases hd:dq r t<;>rw [hd] at e2
   .rw [jq kx];refine ⟨R,?_⟩;simp only [jd,e1,hz,lk,pp,e2,ye]
   .rw [jp rfl];have hr:R=m.map kv:=hR (by rw [Ji.1 hd]);rw [hr] at pp;show _=_;simp only [jd,e1,hz,lk,pp,e2,ye]
theorem jzM:∀(a:T),Tz a->yH a=true-> ∀(t:T) (m:jz),Tz t->(∀q∈m,Tz q.2)->MI (YG (sv a.name) (jQ a.args) (tm t) (m.map kv)) (mt m a t):=by
 refine T.ind λa ih ha hk t m ht hm=> ?_;exact jx3 a ha hk t m ht hm λu hu s m hs hm=>ih u hu (ha.args u hu) (zM hk u hu) s m hs hm
theorem jv1 (a:T) (ha:Tz a) (hk:yH a=true) (t:T) (m:jz) (ht:Tz t) (hm:∀q∈m,Tz q.2):MI (jgr (tm a) (sv t.name) (jQ t.args) (m.map kv)) (mt m a t):=
 jx2 a ha hk t m ht hm λu hu s m hs hm=>jzM u (ha.args u hu) (zM hk u hu) s m hs hm
theorem jtG {m:jz} (hv:∀q∈m,ju q.1=true) (hm:∀q∈m,Tz q.2):∀t:T,Tz t->yH t=true->G 250 [tm t,.mp (m.map kv)]=some (tm (sub m t),[]):=by
 refine T.ind λt ih ht hk=> ?_;have hs:=ht;unfold Tz at hs;rw [kQ] at hs;have lk:=jki [sv [],.sl 2 []] m t.name;rw [jLW];cases h:ju t.name with
 | true=>
  have h0:t.args = []:=JC hk h;have hz:(((0:Nat):Int)=0)=True:=by simp
  have hta:tm t = .agg [sv t.name,jQ []]:=by show A.agg [_,A.sl 2 (t.args.map jw)]=_;rw [h0]
  rw [KP h,jct,hta];cases hl:look m t.name with
  | none=>
   rw [hl] at lk;have lk:Kq none true false [sv [],.sl 2 []] (.mp (m.map kv)) (sv t.name)=some (.tup [.agg [sv [],.sl 2 []],vb false]):=lk;have h1:(0:Int) < ((0:Nat):Int)↔False:=by simp
   simp only [jd,lk];rw [jtg];simp only [jd,hz,h1,Option.getD_none,ye];rfl
  | some r=>
   rw [hl] at lk;have lk:Kq none true false [sv [],.sl 2 []] (.mp (m.map kv)) (sv t.name)=some (.tup [tm r,vb true]):=lk;have e2:=Jp r (hm _ (J8 hl));simp only [jd,lk,hz,e2,jk3]
 | false=>
  have hn:look m t.name=none:=by
   cases hl:look m t.name with
   | none=>rfl
   | some r=>have:=hv _ (J8 hl);rw [h] at this;cases this
  rw [hn] at lk;have lk:Kq none true false [sv [],.sl 2 []] (.mp (m.map kv)) (sv t.name)=some (.tup [.agg [sv [],.sl 2 []],vb false]):=lk;have key:=(upto (P:=λi=>jnL (.mp (m.map kv)) (jQ t.args) (vi (t.args.length:Nat)) (vi i) (sv []) (sv t.name) [] (((t.args.map (sub m)).take i).map jw)=some (tm (sub m t),[])) (n:=t.args.length) ?_ ?_ 0 (jD _))
  .simp only [jP,Jm,ye] at key;simp only [jd,lk,key]
  .rw [jtg,qf (by rw [jM];omega),JN h]
   simp only [jd];rfl
  .intro i hi ih';have hlt:(i:Int) < ((t.args.length:Nat):Int):=by omega
   have h5:=jm hi (by show t.args.length<=9223372036854775807;omega)
   have e2:=ih t.args[i] (jo _) (ht.args _ (jo _)) (zM hk _ (jo _));have hf:jK (i+1) 40=true:=jrk (by omega);have hi2:i < (t.args.map (sub m)).length:=by rw [jM];exact hi
   have hl:(((t.args.map (sub m)).take i).map jw).length=i:=by rw [jM,qe,jM];omega
   have ha:jU (((t.args.map (sub m)).take i).map jw) [[sv (sub m t.args[i]).name,jQ (sub m t.args[i]).args]]=((t.args.map (sub m)).take (i+1)).map jw:=by
    rw [show [sv (sub m t.args[i]).name,jQ (sub m t.args[i]).args]=jw (sub m t.args[i]) from (zn _).symm,jcf,kh hi2,zV,jex];rfl
   generalize ((t.args.map (sub m)).take i).map jw=R at *;rw [jtg];simp only [jd,hlt,ja hi,jf,e2,hl,hf,ha,h5,ih']
theorem jg7 (n:List UInt8) (t:T):∀(s:jz) (i:Nat),i<=s.length->(∀j,(h:j < i)-> ∀h':j < s.length,yT s[j].1 n=true)->((∃h:i < s.length,yT s[i].1 n=false)\/i=s.length)->Y4 s n t=s.take i++(n,t)::s.drop i
 | [],i,hi,_,_=>by
  have:i=0:=by simpa using hi
  subst this;rfl
 | p::s,0,_,_,h=>by
  have hp:yT p.1 n=false:=by
   rcases h with ⟨_,h⟩|h
   .exact h
   .cases h
  unfold Y4;rw [jsr (p:=λp:List UInt8 × T=>yT p.1 n) (by simp [hp]),jvt (p:=λp:List UInt8 × T=>yT p.1 n) (by simp [hp])];rfl
 | p::s,i+1,hi,h1,h=>by
  have hp:yT p.1 n=true:=h1 0 (by omega) (by simp);have:=jg7 n t s i (by simpa using hi) (λj hj hj'=>h1 (j+1) (by omega) (by simpa using hj')) (by
   rcases h with ⟨h,h2⟩|h
   .exact Or.inl ⟨by simpa using h,h2⟩
   .exact Or.inr (by simpa using h))
  unfold Y4 at this ⊢;rw [jpq (p:=λp:List UInt8 × T=>yT p.1 n) hp,jt6 (p:=λp:List UInt8 × T=>yT p.1 n) hp,Qn,this];rfl
theorem qJ {α:Type} (f:α->List A) (l:List α):z6 (l.map f)=l.length:=jM ..
theorem jrA (u:jz) (hl:u.length<=1000000) (i:Nat) (hi:i<=u.length) :
  pB u.length u.length (some (vi (i:Nat)))=some i/\zj (u.map bc) 0 i=(u.take i).map bc/\jK (u.take i).length 56=true/\pB u.length u.length none=some u.length/\pB 0 u.length (some (vi (i:Nat)))=some i/\zj (u.map bc) i (u.length - i)=(u.drop i).map bc/\zG (u.map bc) 0=u.length/\jK ((u.take i).length+1) 56=true/\jK ((u.take i).length+1+(u.drop i).length) 56=true:=by
 refine ⟨Jj hi,by rw [zj,kg,jev],jwl (by rw [qe];omega),yj (kH _),Jj hi,?_,by rw [zG,jM];rfl,jwl (by rw [qe];omega),jwl (by rw [qe,qR];omega)⟩
 rw [zj,<-jgi,qf (by rw [jM,qR];omega)]
theorem jrz (u v:jz) (n:List UInt8) (t:T):jU (jU (u.map bc) [[sv n,sv t.name,jQ t.args]]) (v.map bc)=(u++(n,t)::v).map bc:=by
 rw [zV];show (u.map bc++[_])++v.map bc=u.map bc++_::v.map bc;rw [yf];rfl
theorem jrB (u:jz) (n:List UInt8) (t:T):(jU (u.map bc) [[sv n,sv t.name,jQ t.args]]).length=u.length+1:=by
 simp [jU]
theorem joY (u:jz) (hl:u.length<=1000000) (n:List UInt8) (t:T) (ht:Tz t):jiL (sv n) (tm t) (u.map bc)=some (.top,[Zz (J5 u n t)]):=by
 have e1:=jdh t ht;have key:=upto (P:=λi=>(∀j,(h:j < i)-> ∀h':j < u.length,yT u[j].1 n=true)->jaF (sv n) (vi i) (sv t.name) (jQ t.args) (u.map bc) []=some (.top,[Zz (Y4 u n t)])) (n:=u.length) ?_ ?_ 0 (jD _) (λj h=>absurd h (Nat.not_lt_zero _))
 .rw [jDZ,J5];by_cases h:t.name=n
  .rw [jp h];simp only [jd,h]
  .rw [jq h];have e:jaF (sv n) (vi 0) (sv t.name) (jQ t.args) (u.map bc) []=some (.top,[Zz (Y4 u n t)]):=key;simp only [jd,h,e]
 .intro hall;rw [jg7 n t u u.length (kH _) hall (Or.inr rfl)];obtain ⟨k1,k2,k3,k4,k5,k6,k7,k8,k9⟩:=jrA u hl u.length (kH _);have m1:=jrz (u.take u.length) (u.drop u.length) n t;have m2:=jrB (u.take u.length) n t;rw [jjL];simp only [jd,qJ,k1,k2,k3,k4,k5,k6,k7,qS,jeu,yc,e1];generalize hB:zo _ _ _=B;have hB':B=some (.agg [sv n,sv t.name,jQ t.args]):=by rw [<-hB];kernel_rfl
  rw [hB'];simp only [jd,k3,k8,k9,m1,m2]
 .intro i hi ih hall;have hlt:(i:Int) < ((u.length:Nat):Int):=by omega
  have h5:=jm hi (by show u.length<=9223372036854775807;omega)
  have x1:QI u.length (vi ((i:Nat):Int))=some i:=yp hi;have x2:=jkk hi;cases hs:yT u[i].1 n
  .rw [jg7 n t u i (by omega) hall (Or.inl ⟨hi,hs⟩)];obtain ⟨k1,k2,k3,k4,k5,k6,k7,k8,k9⟩:=jrA u hl i (by omega);have m1:=jrz (u.take i) (u.drop i) n t;have m2:=jrB (u.take i) n t;rw [jjL];simp only [jd,hlt,x1,x2,hs,qJ,k1,k2,k3,k4,k5,k6,k7,qS,jeu,yc,e1];generalize hB:zo _ _ _=B;have hB':B=some (.agg [sv n,sv t.name,jQ t.args]):=by rw [<-hB];kernel_rfl
   rw [hB'];simp only [jd,k3,k8,k9,m1,m2]
  .have ih:=ih λj hj hj'=>by
    by_cases h:j=i
    .subst h;exact hs
    .exact hall j (by omega) hj'
   rw [jjL];simp only [jd,hlt,x1,x2,hs,h5,ih]
theorem jfV (s:jz) (n:List UInt8) (t:T):(J5 s n t).length<=s.length+1:=by
 unfold J5;split
 .omega
 .unfold Y4;rw [ym,yd];have:=jk6 (p:=λp:List UInt8 × T=>yT p.1 n) (l:=s);have:=congrArg List.length this;rw [ym] at this;omega
theorem jkq {s:jz} {n:List UInt8} {t:T} {q:List UInt8 × T} (h:q∈J5 s n t):q∈s\/q=(n,t):=by
 unfold J5 at h;split at h
 .exact Or.inl h
 .unfold Y4 at h;rw [kM,kW] at h;rcases h with h|h|h
  .exact Or.inl (List.takeWhile_subset _ h)
  .exact Or.inr h
  .exact Or.inl (List.dropWhile_subset _ h)
theorem jl2:∀(m s:jz),(m.foldl (λs p=>J5 s p.1 p.2) s).length<=s.length+m.length
 | [],s=>by simp
 | p::m,s=>by
  rw [K6,yd];have:=jl2 m (J5 s p.1 p.2);have:=jfV s p.1 p.2;omega
theorem jl3:∀(m s:jz) {q:List UInt8 × T},q∈m.foldl (λs p=>J5 s p.1 p.2) s->q∈s\/q∈m
 | [],s,q,h=>Or.inl h
 | p::m,s,q,h=>by
  rw [K6] at h;rcases jl3 m _ h with h|h
  .rcases jkq h with h|h
   .exact Or.inl h
   .exact Or.inr (by rw [h];simp)
  .exact Or.inr (by simp [h])
theorem jwn {m:jz} {q:List UInt8 × T} (h:q∈JU m):q∈m:=by
 rcases jl3 m [] h with h|h
 .cases h
 .exact h
theorem jAe (m:jz) (hm:∀q∈m,Tz q.2) (hl:m.length<=1000000):G 301 [Zz m]=some (sb (JU m),[]):=by
 have key:=upto (P:=λi=>∀s:jz,s.length<=i->jn2 (Zz m) (vi i) [] (s.map bc)=some (sb ((m.drop i).foldl (λs p=>J5 s p.1 p.2) s),[])) (n:=m.length) ?_ ?_ 0 (jD _) [] (kH _)
 .rw [jMA];exact key
 .intro s _;rw [jzy,j6];simp only [jd];rfl
 .intro i hi ih s hs;have hlt:(i:Int) < ((m.length:Nat):Int):=by omega
  have h5:=jm hi (by show m.length<=9223372036854775807;omega)
  have e1:=joY s (by omega) m[i].1 m[i].2 (hm _ (jo _));have:=jfV s m[i].1 m[i].2;have ih:=ih (J5 s m[i].1 m[i].2) (by omega);rw [jzy,jh hi,K6];simp only [jd,hlt,ja hi,qo,yu,Y0,e1,h5,ih]
theorem jGa {n:Nat} (h:n<=4194304):jK n 24=true:=by
 unfold jK;exact jW ⟨by omega,by omega⟩
theorem jGb {n:Nat} (h:n<=4194304):jK n 8=true:=by
 unfold jK;exact jW ⟨by omega,by omega⟩
abbrev pln (p:List Nat):A:= .sl 1 (p.map λn=>[vi (n:Nat)])
abbrev plc (p:List Nat):List A:=[pln p]
theorem jBU (p:List Nat) (h:p.length<=4194304):jna (pln p)=some (.top,[pln p]):=by
 rw [jD3];have:=jGb (n:=p.length) h;simp only [jd,this]
mutual
theorem jg5:∀t:T,(jaW t).length=nodes t
 | .mk n us=>by
  rw [jaW,nodes,ym,jmv us 0];simp;omega
theorem jmv:∀(us:List T) (i:Nat),(QK i us).length=js us
 | [],i=>rfl
 | t::ts,i=>by
  rw [QK,js,ym,jM,jg5 t,jmv ts (i+1)]
end
theorem post_eq:∀(t:T) (p:List Nat),Tz t->p.length+tsz t<=2000000->G 299 [tm t,pln p]=some (.sl 1 ((jaW t).map λq=>plc (p++q)),[]):=by
 refine T.ind λt ih p ht hp=> ?_;have hs:=ht;unfold Tz at hs;rw [kQ] at hs hp;have hnl:=qG t;have hne:=jS t;have e0:=jBU p (by omega);have hsplit:∀i,i<=t.args.length->js (t.args.take i)+js (t.args.drop i)=js t.args:=by
  intro i _;have:∀a b:List T,js (a++b)=js a+js b:=by
   intro a b;induction a with
   | nil=>simp [js]
   | cons x a ih=>simp only [Qn,js,ih];omega
  rw [<-this,jew]
 have key:=upto (P:=λi=>∀R:List (List A),R.length+js (t.args.drop i)<=2000000->jn1 (pln p) (vi i) (sv t.name) (jQ t.args) R=some (.sl 1 (R++(QK i (t.args.drop i)++[[]]).map λq=>plc (p++q)),[])) (n:=t.args.length) ?_ ?_ 0 (jD _) [] (by simp;unfold Tz at ht;omega)
 .rw [jMz,jru];simp only [jP,qQ,kg] at key;simp only [jd,key]
 .intro R hR;rw [jzu,j6];have hf:jK (R.length+1) 24=true:=jGa (by omega);simp only [jd,e0,hf];rw [QK,qQ,kV,JD];rfl
 .intro i hi ih2 R hR;have hlt:(i:Int) < ((t.args.length:Nat):Int):=by omega
  have h5:=jm hi (by show t.args.length<=9223372036854775807;omega)
  have hm:tsz t.args[i]<=Qf t.args:=yC (jo _);have ed:js (t.args.drop i)=nodes t.args[i]+js (t.args.drop (i+1)):=by rw [jh hi];rfl
  have e2:=ih t.args[i] (jo _) (p++[i]) (ht.args _ (jo _)) (by rw [ym,List.length_singleton];omega)
  have ea:jU (p.map λn:Nat=>[vi (n:Nat)]) [[vi (i:Nat)]]=(p++[i]).map λn:Nat=>[vi (n:Nat)]:=by rw [zV];rfl
  have hf1:jK (p.length+1) 8=true:=jGb (by omega);have hpl:=jg5 t.args[i];have hf2:jK (R.length+(jaW t.args[i]).length) 24=true:=jGa (by omega);have ih3:=ih2 (jU R ((jaW t.args[i]).map λq=>plc ((p++[i])++q))) (by show (R++_).length+_<=_;rw [ym,jM];omega);rw [jzu,jh hi,QK];simp only [jd,hlt,ja hi,jf,e0,hf1,ea,e2,hf2,h5,ih3];congr 2;show A.sl 1 ((R++_)++_)=_;congr 1;rw [yf,yf,zV,zV,qY];congr 2;refine jhj λq _=> ?_;show plc (p++[i]++q)=plc (p++(i::q));rw [yf];rfl;rw [zV]
def okP:List Nat->T->Prop
 | [],_=>True
 | i::p,t=>i < t.args.length/\okP p (t.args.getD i (.mk [] []))
theorem ql {ts:List T} {i:Nat} (h:i < ts.length):ts.getD i (.mk [] [])=ts[i]:=by rw [zO,kh h];rfl
mutual
theorem jrv:∀(t:T),∀p∈jaW t,okP p t/\p.length<=nodes t
 | .mk n us=>λp hp=>by
  rw [jaW,kM] at hp;rcases hp with hp|hp
  .obtain ⟨j,q,rfl,h1,h2,h3⟩:=jrt us 0 p hp;refine ⟨?_,?_⟩
   .show (0+j) < us.length/\okP q (us.getD (0+j) _);rw [yc];exact ⟨h1,h2⟩
   .rw [yd,nodes];omega
  .rw [kG] at hp;subst hp;exact ⟨trivial,by simp⟩
theorem jrt:∀(us:List T) (i:Nat),∀p∈QK i us,∃j q,p=(i+j)::q/\j < us.length/\okP q (us.getD j (.mk [] []))/\q.length<=js us
 | [],i,p,hp=>by rw [QK] at hp;cases hp
 | t::ts,i,p,hp=>by
  rw [QK,kM] at hp;rcases hp with hp|hp
  .obtain ⟨q,hq,rfl⟩:=yP.1 hp;obtain ⟨h1,h2⟩:=jrv t q hq;exact ⟨0,q,rfl,by simp,h1,by rw [js];omega⟩
  .obtain ⟨j,q,rfl,h1,h2,h3⟩:=jrt ts (i+1) p hp;exact ⟨j+1,q,by rw [show i+1+j=i+(j+1) by omega],by simpa using h1,by simpa using h2,by rw [js];omega⟩
end
theorem juY {q:T->Prop} (hq:∀t,q t-> ∀u∈t.args,q u):∀ {p:List Nat} {t:T},okP p t->q t->q (atT p t)
 | [],_,_,h=>h
 | i::p,t,hp,h=>by
  obtain ⟨h1,h2⟩:=hp;refine juY (p:=p) hq h2 ?_;rw [ql h1];exact hq t h _ (jo _)
theorem jrs (i:Nat) (p:List Nat):pln (i::p) = .sl 1 ([vi (i:Nat)]::p.map λn=>[vi (n:Nat)]):=rfl
theorem YY {p:List Nat} {i:Nat} (h:i < p.length):jg 1 (pln p) (vi (i:Nat))=some (.elt [vi (p[i]:Nat)] 0):=ja h
theorem at_eq (t:T) (p:List Nat) (ht:Tz t) (hp:okP p t) (hl:p.length<=2000000):G 176 [tm t,pln p]=some (.tup [tm (atT p t),vb true],[]):=by
 have key:=upto (P:=λi=>∀t:T,Tz t->okP (p.drop i) t->jiV (pln p) (vi i) (sv t.name) (jQ t.args) (sv []) []=some (.tup [tm (atT (p.drop i) t),vb true],[])) (n:=p.length) ?_ ?_ 0 (jD _) t ht hp
 .rw [jFH];simp only [jd];exact key
 .intro t ht _;have e1:=jdh t ht;rw [jox,j6];simp only [jd,e1];rfl
 .intro i hi ih t ht hp;have hlt:(i:Int) < ((p.length:Nat):Int):=by omega
  have h5:=jm hi (by show p.length<=9223372036854775807;omega)
  have hs:=ht;unfold Tz at hs;rw [kQ] at hs;rw [jh hi] at hp ⊢;obtain ⟨h1,h2⟩:=hp;have hsub:ck (((t.args.length:Nat):Int) - 1)=some (vi (((t.args.length:Nat):Int) - 1)):=jZ (by omega) (by omega);have hin:=zN ((p[i]:Nat):Int) 0 (((t.args.length:Nat):Int) - 1);have hb:yS 0 (((t.args.length:Nat):Int) - 1) ((p[i]:Nat):Int)=true:=by unfold yS;simp;omega
  rw [hb] at hin;have e:t.args.getD p[i] (.mk [] [])=t.args[p[i]]:=ql h1;rw [e] at h2;have ih:=ih _ (ht.args _ (jo h1)) h2;rw [jox,atT,e];simp only [jd,hlt,YY hi,hsub,hin,ja h1,jf,h5,ih]
theorem ju0 (t:T) (ht:Tz t):jm7 (sv t.name) (jQ t.args)=some (.top,[sv t.name,jQ t.args]):=by
 have h:=ht;unfold Tz at h;rw [kQ] at h;have key:=(upto (P:=λi=>jfa (vi i) (sv t.name) (jQ t.args) (sv []) (sv t.name) [] ((t.args.take i).map jw)=some (.top,[sv t.name,jQ t.args])) (n:=t.args.length) ?_ ?_ 0 (jD _))
 .rw [jDP];simp only [jP,Jm,ye] at key;simp only [jd,key]
 .rw [jqI,jgk];simp only [jd]
 .intro i hi ih';have hlt:(i:Int) < ((t.args.length:Nat):Int):=by omega
  have h5:=jm hi (by show t.args.length<=9223372036854775807;omega)
  have e1:=jdh t.args[i] (by have:=yC (jo hi);omega)
  have hf:jK (i+1) 40=true:=jrk (by omega);have hl:((t.args.take i).map jw).length=i:=by rw [jM,qe];omega
  have ha:jU ((t.args.take i).map jw) [[sv t.args[i].name,jQ t.args[i].args]]=(t.args.take (i+1)).map jw:=by
   rw [show [sv t.args[i].name,jQ t.args[i].args]=jw t.args[i] from (zn _).symm,jcf,kh hi,zV];rfl
  rw [jqI];simp only [jd,hlt,ja hi,jf,e1,hl,hf,ha,h5,ih',qe,jgl (ZQ hi)]
theorem jpk (s:T) (hs:Tz s):∀(p:List Nat) (t:T),Tz t->okP p t->p.length<=2000000->G 180 [tm t,pln p,tm s]=some (tm (zq s p t),[])
 | [],t,_,_,_=>by
  have e1:=ju0 s hs;have hz:(((0:Nat):Int)=0)=True:=by simp
  rw [jFI,zq];simp only [jd,hz,e1,ye,qa]
 | i::p,t,ht,hp,hl=>by
  obtain ⟨h1,h2⟩:=hp;have e:t.args.getD i (.mk [] [])=t.args[i]:=ql h1;rw [e] at h2;have e1:=ju0 t ht;have e2:=jpk s hs p t.args[i] (ht.args _ (jo h1)) h2 (by rw [yd] at hl;omega);have hz:¬((p.length+1:Nat):Int)=0:=by omega
  have hz2:¬((p.length:Nat):Int)+1=0:=by omega
  have i0:jg 1 (pln (i::p)) (vi 0)=some (.elt [vi (i:Nat)] 0):=YY (p:=i::p) (i:=0) (by simp);have sl:zS 1 (pln (i::p)) (some (vi 1)) none=some (pln p):=by
   have:=qt (k:=1) (xs:=(i::p).map λn:Nat=>[vi (n:Nat)]) (i:=1) (by simp);exact this
  have ix:QI t.args.length (vi (i:Nat))=some i:=yp h1;have rg:jd9 (t.args.map jw) i=some (jw t.args[i]):=by unfold jd9;simp [h1]
  have co:Jo (jw t.args[i]) 0 [sv (zq s p t.args[i]).name,jQ (zq s p t.args[i]).args]=jw (zq s p t.args[i]):=by rw [zn,zn];rfl
  have rs:J6 (t.args.map jw) i (jw (zq s p t.args[i]))=(t.args.set i (zq s p t.args[i])).map jw:=by unfold J6;rw [jm5]
  have ll:(kE (pln (i::p)))=some (vi ((p.length+1:Nat):Int)):=by rw [jrs];simp only [jd]
  rw [jFI,zq,e];simp only [jd,ll,hz,e1,i0,ja h1,jf,sl,e2,ix,rg,co,rs,qa];rfl
theorem jgb {n:List UInt8} (h:ju n=true):n.length<=4:=by
 cases n with
 | nil=>simp
 | cons c r=>
  simp only [ju,jy,kK] at h;rw [yd];omega
theorem jwT {n:List UInt8} (h:qN n=true):n.length<=6:=by
 cases n with
 | nil=>simp
 | cons c r=>
  simp only [qN,jy,kK] at h;rw [yd];omega
theorem jgY:∀t:T,yH t=true->tsz t<=10 * nodes t:=by
 refine T.ind λt ih hk=> ?_;have hL:∀us:List T,(∀u∈us,tsz u<=10 * nodes u)->Qf us<=10 * js us:=by
  intro us;induction us with
  | nil=>intro _;simp [Qf]
  | cons u us ih2=>
   intro h;have:=h u (by simp);have:=ih2 λw hw=>h w (by simp [hw]);simp only [Qf,js];omega
 have h1:=hL t.args λu hu=>ih u hu (zM hk u hu);rw [kQ,jS];rw [yW] at hk;cases hv:ju t.name with
 | true=>
  rw [hv,jp rfl] at hk;have:=jgb hv;rw [jlh.1 hk] at h1 ⊢;simp only [qM,Qf] at h1 ⊢;omega
 | false=>
  rw [hv,jq kx,jy,jy,kK] at hk;have:=jwT hk.1;omega
theorem jmR {u:jz} {Z:Nat} (hZ:1<=Z) (hu:∀q∈u,nodes q.2<=Z):∀t:T,nodes (sub u t)<=nodes t * Z:=by
 refine T.ind λt ih=> ?_;cases hv:ju t.name with
 | true=>
  have h1:=qH t;have h2:1 * Z<=nodes t * Z:=Qi Z h1;rw [KP hv,jct];cases hl:look u t.name with
  | none=>show 1+0<=_;omega
  | some r=>have:nodes r<=Z:=hu _ (J8 hl);show nodes r<=_;omega
 | false=>
  have hL:∀us:List T,(∀v∈us,nodes (sub u v)<=nodes v * Z)->js (us.map (sub u))<=js us * Z:=by
   intro us;induction us with
   | nil=>intro _;simp [js]
   | cons v us ih2=>
    intro h;have:=h v (by simp);have:=ih2 λw hw=>h w (by simp [hw]);simp only [kV,js,z8];omega
  have:=hL t.args ih;rw [jS,jf7 hv,jS t,z8];omega
theorem Je {t u:T} (h:u∈t.args):nodes u < nodes t:=by
 have:=qw h;have:=jS t;omega
def Vs (t:T):Prop:=yH t=true/\nodes t<=30
theorem Vs.args {t:T} (h:Vs t):∀u∈t.args,Vs u:=λu hu=>⟨zM h.1 u hu,by have:=Je hu;have:=h.2;omega⟩
theorem Vs.tz {t:T} (h:Vs t):Tz t:=by
 have:=jgY t h.1;have:=h.2;unfold Tz;omega
def RS (rs:List T):Prop:=rs.length<=10/\ ∀r∈rs,r.args.length=2/\Vs (jag r)/\Vs (jha r)
theorem RS.ok {rs:List T} (h:RS rs):job rs:=λr hr=>⟨(h.2 r hr).2.1.1,(h.2 r hr).2.2.1⟩
def EX (root:Bool) (t:T):Prop:=(nodes t<=31/\Tz t)/\(∀u∈t.args,Vs u)/\(root=true->Vs t)
theorem jzO {a s:T} {m:jz} (hs:Vs s) (h:mt [] a s=some m):MOk Vs m:=jmj (p:=Vs) (λ_ h=>h.args) a (MOk.nil _) hs h
theorem jmG {r:T} (hl:r.args.length=2):jg 2 (jQ r.args) (vi 0)=some (.elt (jw (jag r)) 0)/\jg 2 (jQ r.args) (vi 1)=some (.elt (jw (jha r)) 0):=by
 have i0:jg 2 (jQ r.args) (vi 0)=some (.elt (jw r.args[0]) 0):=ja (i:=0) (by omega);have i1:jg 2 (jQ r.args) (vi 1)=some (.elt (jw r.args[1]) 0):=ja (i:=1) (by omega);have e0:jag r=r.args[0]:=ql (by omega);have e1:jha r=r.args[1]:=ql (by omega);rw [e0,e1];exact ⟨i0,i1⟩
theorem jAG {m:jz} {r:T} (hm:MOk Vs m) (hr:Vs r):yH (sub m r)=true/\nodes (sub m r)<=900/\Tz (sub m r):=by
 have h1:=jbY (u:=m) (λq hq=>(hm.2 q hq).2.1) r hr.1;have h2:=jmR (u:=m) (Z:=30) (by decide) (λq hq=>(hm.2 q hq).2.2) r;have h3:=hr.2;have h4:=jgY _ h1;exact ⟨h1,by omega,by unfold Tz;omega⟩
theorem jAq {rs:List T} (hr:RS rs) {s v:T} (hs:Vs s) (h:JQ rs s=some v):yH v=true/\nodes v<=900:=by
 have key:∀rs:List T,(∀r∈rs,r.args.length=2/\Vs (jag r)/\Vs (jha r))->JQ rs s=some v->yH v=true/\nodes v<=900:=by
  intro rs;induction rs with
  | nil=>intro _ h;simp [JQ] at h
  | cons r rs ih=>
   intro hr h;rw [JQ] at h;split at h
   .rename_i m hm;cases h;obtain ⟨a,b,_⟩:=jAG (jzO hs hm) (hr r (by simp)).2.2;exact ⟨a,b⟩
   .exact ih (λq hq=>hr q (by simp [hq])) h
 exact key rs hr.2 h
def jBT (t:T) (o:Option T):Option Out:=match o with|some u=>some (.tup [tm u,vb true],[])|none=>some (.tup [tm t,vb false],[])
theorem EX.at {root:Bool} {t:T} (h:EX root t) {p:List Nat} (hp:okP p t) (hne:¬(p = []/\root=false)):Vs (atT p t):=by
 obtain ⟨_,h1,h2⟩:=h;cases p with
 | nil=>
  cases root
  .exact absurd ⟨rfl,rfl⟩ hne
  .exact h2 rfl
 | cons i p=>
  obtain ⟨a,b⟩:=hp;refine juY (p:=p) (q:=Vs) (λ_ h=>h.args) b ?_;rw [ql a];exact h1 _ (jo _)
theorem jv6 (rs:List T) (hr:RS rs) (root:Bool) (t:T) (h:EX root t):G 269 [tm t,jQ rs,vb root]=jBT t (jaT rs root t):=by
 have hrt:=h.1.2;have hpost:=post_eq t [] hrt (by have:=hrt;unfold Tz at this;simp;omega);have hpost:G 299 [tm t,.sl 1 []]=some (.sl 1 ((jaW t).map plc),[]):=hpost;have hok:=jrv t;have hln:=jg5 t;have hr1:=hr.1;rw [<-jv5];generalize hP:jaW t=P at *;have key:=upto (P:=λi=>jgy (jQ rs) (vb root) (.sl 1 (P.map plc)) (vi i) (sv t.name) (jQ t.args) (sv []) []=jBT t ((P.drop i).findSome? (Qd rs root t))) (n:=P.length) ?_ ?_ 0 (jD _)
 .rw [jMd];simp only [jP,kg] at key;simp only [jd,hpost,key]
 .rw [jth,j6];show _=some (A.tup [tm t,vb false],[]);simp only [jd]
 .intro i hi ih;have hn:=h.1.1;have hlt:(i:Int) < ((P.length:Nat):Int):=by omega
  have h5:=jm hi (by show P.length<=9223372036854775807;omega)
  have hpi:jg 1 (.sl 1 (P.map plc)) (vi (i:Nat))=some (.elt (plc P[i]) 0):=ja hi;have hpl:kE (pln P[i])=some (vi ((P[i].length:Nat):Int)):=by simp only [jd]
  obtain ⟨ho,hl⟩:=hok P[i] (jo _);rw [jh hi,jdH];by_cases hc:P[i] = []/\root=false
  .rw [Qd,jp hc];obtain ⟨c1,c2⟩:=hc;subst c2;have c3:(((P[i]).length:Nat):Int)=0:=by rw [c1];rfl
   rw [jth];simp only [jd,hlt,hpi,hpl,c3,h5,ih]
  .have hs:=h.at ho hc;rw [Qd,jq hc];have e1:=at_eq t P[i] hrt ho (by omega);have inner:∀j,j<=rs.length->jgz (jQ rs) (vb root) (.sl 1 (P.map plc)) (vi i) (vi j) (sv t.name) (jQ t.args) (sv []) (sv (atT P[i] t).name) (jQ (atT P[i] t).args) []=(match JQ (rs.drop j) (atT P[i] t) with|some v=>jBT t (some (zq v P[i] t))|none=>jBT t ((P.drop (i+1)).findSome? (Qd rs root t))):=by
    refine upto ?_ ?_
    .rw [jzk,j6,JQ];simp only [jd,h5,ih]
    .intro j hj ihj;have hltj:(j:Int) < ((rs.length:Nat):Int):=by omega
     have h5j:=jm hj (by show rs.length<=9223372036854775807;omega)
     obtain ⟨hr2,hr3,hr4⟩:=hr.2 rs[j] (jo _);obtain ⟨i0,i1⟩:=jmG hr2;have ad:yI (.elt (jw rs[j]) 0) 1=some (.elt (jw rs[j]) 1):=by rw [qp]
     have lp:kq (.elt (jw rs[j]) 1)=some (jQ rs[j].args):=by rw [zn];rfl
     have q:=jqT (jag rs[j]) hr3.tz (atT P[i] t) [] hs.tz (λq hq=>by cases hq) (by have:=hr3.2;simp;omega)
     rw [jzk,jh hj,JQ];cases hm:mt [] (jag rs[j]) (atT P[i] t) with
     | none=>
      rw [hm] at q;obtain ⟨R,q⟩:=q;have q:jiM (tm (jag rs[j])) (sv (atT P[i] t).name) (jQ (atT P[i] t).args) []=some (.top,[vb false,.sl 259 R]):=q;simp only [jd,hltj,ja hj,ad,lp,i0,jf,q,qa,h5j,ihj]
     | some m=>
      rw [hm] at q;have q:jiM (tm (jag rs[j])) (sv (atT P[i] t).name) (jQ (atT P[i] t).args) []=some (.top,[vb true,.sl 259 (m.map bc)]):=q;have hM:=jzO hs hm;obtain ⟨_,hml⟩:=jj2 (p:=Vs) (λ_ h=>h.args) _ (m:=[]) (λq hq=>by cases hq) hs hm;have hml:m.length<=30:=by have:=hr3.2;simp at hml;omega
      have p1:=jAe m (λq hq=>(hM.2 q hq).2.tz) (by omega);have hsz:Sz 1048576 (JU m):=by
       refine ⟨?_,λq hq=> ?_⟩
       .have:=jl2 m [];show (JU m).length<=_;unfold JU;simp at this;omega
       .have hq:=jwn hq;have:=jgb (hM.2 q hq).1;have:=(hM.2 q hq).2.tz;unfold Tz at this;exact ⟨by omega,by omega⟩
      have p2:=Ze (JU m) hsz (jha rs[j]) hr4.tz;rw [jwS (m:=m) ⟨hM.1,λq hq=>⟨(hM.2 q hq).1,(hM.2 q hq).2.1⟩⟩] at p2;obtain ⟨_,_,s3⟩:=jAG hM hr4;have p3:=jpk (sub m (jha rs[j])) s3 P[i] t hrt ho (by omega);show _=some (A.tup [tm (zq (sub m (jha rs[j])) P[i] t),vb true],[]);simp only [jd,hltj,ja hj,ad,lp,i0,i1,jf,q,qa,hpi,p1,p2,p3]
   have inner:=inner 0 (jD _);simp only [kg,jP] at inner;have fin:jgy (jQ rs) (vb root) (.sl 1 (P.map plc)) (vi i) (sv t.name) (jQ t.args) (sv []) []=jgz (jQ rs) (vb root) (.sl 1 (P.map plc)) (vi i) (vi 0) (sv t.name) (jQ t.args) (sv []) (sv (atT P[i] t).name) (jQ (atT P[i] t).args) []:=by
    rw [jth];cases root with
    | true=>
     by_cases c:(((P[i]).length:Nat):Int)=0
     .simp only [jd,hlt,hpi,hpl,c,e1]
     .simp only [jd,hlt,hpi,hpl,c,e1]
    | false=>
     have c:¬(((P[i]).length:Nat):Int)=0:=λc=>hc ⟨jhr.1 (by omega),rfl⟩;simp only [jd,hlt,hpi,hpl,c,e1]
   rw [fin,inner];cases JQ rs (atT P[i] t) with
   | none=>rfl
   | some v=>rfl
def jke (o:Option T):Option Out:=match o with|some u=>some (.tup [tm u,vb true],[])|none=>some (.tup [.agg [sv [],.sl 2 []],vb false],[])
theorem jtx (rs:List T) (hr:RS rs):∀(t:T) (root:Bool),Tz t->(∀u∈t.args,Vs u)->(root=true->Vs t\/ ∀r∈rs,mt [] (jag r) t=none)->G 203 [tm t,jQ rs,vb root]=jke (jaT rs root t):=by
 refine T.ind λt ih root ht hA hRt=> ?_;have hs:=ht;unfold Tz at hs;rw [kQ] at hs;have hr1:=hr.1;have second:jgw (vb root) (jQ rs) (vi (rs.length:Nat)) (vi 0) (sv t.name) (jQ t.args) (sv []) []=jke (if root then JQ rs t else none):=by
  have key:=upto (P:=λj=>jgw (vb root) (jQ rs) (vi (rs.length:Nat)) (vi j) (sv t.name) (jQ t.args) (sv []) []=jke (if root then JQ (rs.drop j) t else none)) (n:=rs.length) ?_ ?_ 0 (jD _)
  .exact key
  .rw [jyO,j6,JQ,ite_self];show _=some (A.tup [.agg [sv [],.sl 2 []],vb false],[]);simp only [jd]
  .intro j hj ihj;have hltj:(j:Int) < ((rs.length:Nat):Int):=by omega
   have h5j:=jm hj (by show rs.length<=9223372036854775807;omega)
   obtain ⟨hr2,hr3,hr4⟩:=hr.2 rs[j] (jo _);obtain ⟨i0,i1⟩:=jmG hr2;rw [jyO,jh hj,JQ];cases root with
   | false=>
    simp only [jd,hltj,ja hj,jf,h5j,ihj]
   | true=>
    have q:=jv1 (jag rs[j]) hr3.tz hr3.1 t [] ht (λq hq=>by cases hq);cases hm:mt [] (jag rs[j]) t with
    | none=>
     rw [hm] at q;obtain ⟨R,q⟩:=q;have q:jgr (tm (jag rs[j])) (sv t.name) (jQ t.args) []=some (.top,[vb false,.sl 128 R]):=q;simp only [jd,hltj,ja hj,i0,jf,q,qa,h5j,ihj]
    | some m=>
     rw [hm] at q;have q:jgr (tm (jag rs[j])) (sv t.name) (jQ t.args) []=some (.top,[vb true,.sl 128 (m.map kv)]):=q;have hM:=(match hRt rfl with|Or.inl hv=>jzO hv hm|Or.inr hno=>by rw [hno _ (jo _)] at hm;cases hm);have p1:=jtG (m:=m) (λq hq=>(hM.2 q hq).1) (λq hq=>(hM.2 q hq).2.tz) (jha rs[j]) hr4.tz hr4.1;show _=some (A.tup [tm (sub m (jha rs[j])),vb true],[]);simp only [jd,hltj,ja hj,i0,i1,jf,q,qa,p1]
 have first:∀i,i<=t.args.length->jnw (jQ rs) (vb root) (jQ t.args) (vi (t.args.length:Nat)) (vi i) (sv t.name) (jQ t.args) (sv []) []=(match ZI rs (t.args.drop i) with|some us=>jke (some (.mk t.name (t.args.take i++us)))|none=>jke (if root then JQ rs t else none)):=by
  refine upto ?_ ?_
  .rw [jyN,j6,ZI];simp only [jd,second]
  .intro i hi ih2;have hlt:(i:Int) < ((t.args.length:Nat):Int):=by omega
   have h5:=jm hi (by show t.args.length<=9223372036854775807;omega)
   have hu:t.args[i]∈t.args:=jo _;have hv:=hA _ hu;have e1:=ih t.args[i] hu true hv.tz hv.args λ_=>Or.inl hv;rw [jyN,jh hi,ZI];cases ho:jaT rs true t.args[i] with
   | none=>
    rw [ho] at e1;have e1:G 203 [tm t.args[i],jQ rs,vb true]=some (.tup [.agg [sv [],.sl 2 []],vb false],[]):=e1;simp only [jd,hlt,ja hi,jf,e1,h5,ih2];cases ZI rs (t.args.drop (i+1)) with
    | none=>rfl
    | some us=>
     show jke (some (.mk t.name (t.args.take (i+1)++us)))=jke (some (.mk t.name (t.args.take i++t.args[i]::us)));have e:t.args.take (i+1)++us=t.args.take i++t.args[i]::us:=by
      rw [jcf,kh hi,yf];rfl
     rw [e]
   | some u=>
    rw [ho] at e1;have e1:G 203 [tm t.args[i],jQ rs,vb true]=some (.tup [tm u,vb true],[]):=e1;have e2:=joj t ht;have ix:QI t.args.length (vi (i:Nat))=some i:=yp hi;have rg:jd9 (t.args.map jw) i=some (jw t.args[i]):=by unfold jd9;simp [hi]
    have co:Jo (jw t.args[i]) 0 [sv u.name,jQ u.args]=jw u:=by rw [zn,zn];rfl
    have rs':J6 (t.args.map jw) i (jw u)=(t.args.take i++u::t.args.drop (i+1)).map jw:=by
     unfold J6;rw [<-jm5,List.set_eq_take_append_cons_drop,jp hi]
    show _=some (A.tup [tm (.mk t.name (t.args.take i++u::t.args.drop (i+1))),vb true],[]);simp only [jd,hlt,ja hi,jf,e1,e2,ix,rg,co,rs',qa];rfl
 have first:=first 0 (jD _)
 simp only [kg,jP,Jm,qQ] at first
 rw [jLp,jfQ];simp only [jd,first];cases ZI rs t.args<;>rfl
theorem jv4 (rs:List T) (hr:RS rs) (t:T) (root:Bool) (h:EX root t):G 203 [tm t,jQ rs,vb root]=jke (jaT rs root t):=jtx rs hr t root h.1.2 h.2.1 λe=>Or.inl (h.2.2 e)
def Srt (l:List (List UInt8)):Prop:=l.Pairwise λx y=>x < y
theorem Qa (x y:List UInt8):yT x y=decide (x < y):=Go.Proofs.bytesLess_eq x y
theorem jzK {x y:List UInt8} (h1:¬x < y) (h2:x≠y):y < x:=by
 have h3:y<=x:=List.not_lt.1 h1;exact Std.lt_of_le_of_ne h3 (Ne.symm h2)
theorem jvg:∀(a b:List (List UInt8)),Srt a->Srt b->(∀n,n∈a↔n∈b)->a=b
 | [],[],_,_,_=>rfl
 | [],y::b,_,_,h=>by have:=(h y).2 (by simp);cases this
 | x::a,[],_,_,h=>by have:=(h x).1 (by simp);cases this
 | x::a,y::b,ha,hb,h=>by
  have ha':=qi.1 ha;have hb':=qi.1 hb;have hxy:x=y:=by
   have h1:x∈y::b:=(h x).1 (by simp);have h2:y∈x::a:=(h y).2 (by simp);rcases kW.1 h1 with h1|h1
   .exact h1
   .rcases kW.1 h2 with h2|h2
    .exact h2.symm
    .exact absurd (jhm (ha'.1 y h2) (hb'.1 x h1)) (jhn x)
  subst hxy;refine congrArg (x::·) (jvg a b ha'.2 hb'.2 λn=>⟨λhn=> ?_,λhn=> ?_⟩)
  .rcases kW.1 ((h n).1 (JE _ hn)) with e|e
   .subst e;exact absurd (ha'.1 _ hn) (jhn _)
   .exact e
  .rcases kW.1 ((h n).2 (JE _ hn)) with e|e
   .subst e;exact absurd (hb'.1 _ hn) (jhn _)
   .exact e
theorem jAB {l:List (List UInt8)} (h:l.Nodup):Srt (y5 l):=by
 have h1:(y5 l).Pairwise λx y=>decide (x<=y)=true:=List.pairwise_mergeSort (λa b c h1 h2=>by simp only [kK] at *;exact List.le_trans h1 h2) (λa b=>by simp only [jk7,kK];exact List.le_total a b) l
 have h2:(y5 l).Nodup:=(List.mergeSort_perm l _).nodup_iff.2 h;exact (h1.and h2).imp λ{x y} hxy=>Std.lt_of_le_of_ne (by simpa using hxy.1) hxy.2
theorem jvh {l:List (List UInt8)} {s:List UInt8} {i:Nat} (hl:Srt l) (h1:∀x∈l.take i,x < s) (h2:∀h:i < l.length,s < l[i]):Srt (l.take i++[s]++l.drop i):=by
 have hl':Srt (l.take i++l.drop i):=by rw [jew];exact hl
 obtain ⟨p1,p2,p3⟩:=jhl.1 hl';have h3:∀y∈l.drop i,s < y:=by
  intro y hy;have hlt:i < l.length:=by
   rcases jb6 i l.length with h|h
   .exact h
   .rw [jhk h] at hy;cases hy
  rw [jt5 hlt] at hy p2;rcases kW.1 hy with e|e
  .subst e;exact h2 hlt
  .exact jhm (h2 hlt) ((qi.1 p2).1 y e)
 refine jhl.2 ⟨jhl.2 ⟨p1,by simp,λa ha b hb=> ?_⟩,p2,λa ha b hb=> ?_⟩
 .rw [kG.1 hb];exact h1 a ha
 .rcases kM.1 ha with ha|ha
  .exact p3 a ha b hb
  .rw [kG.1 ha];exact h3 b hb
theorem jwM {l:List (List UInt8)} (h:Srt l):l.Nodup:=h.imp λ{x y} hxy e=>by subst e;exact jhn _ hxy
mutual
def Qe:T->List (List UInt8)
 | .mk n us=>(if ju n then [] else [n])++JA us
def JA:List T->List (List UInt8)
 | []=>[]
 | t::ts=>Qe t++JA ts
end
theorem ja0 (t:T):Qe t=(if ju t.name then [] else [t.name])++JA t.args:=by cases t;rfl
theorem jvQ (l:List (List UInt8)) (s:List UInt8) (hl:l.length<=2100000):∃r,G 264 [strs l,sv s]=some (strs r,[])/\je7 l [s] 1 r/\(Srt l->Srt r):=by
 have key:=upto (P:=λi=>(Srt l-> ∀x∈l.take i,x < s)-> ∃r,ji8 (strs l) (sv s) (vi i)=some (strs r,[])/\je7 l [s] 1 r/\(Srt l->Srt r)) (n:=l.length) ?_ ?_ 0 (jD _)
 .simp only [jP] at key;rw [jFP];exact key (by simp)
 .intro hless;have hx:¬((l.length:Nat):Int) < ((l.length:Nat):Int):=Int.lt_irrefl _;have s1:zS 1 (strs l) none (some (vi (l.length:Nat)))=some (strs l):=by rw [qP (by simp),qf (by simp)]
  have s2:zS 1 (strs l) (some (vi (l.length:Nat))) none=some (.sl 1 []):=by rw [qt (by simp),jhk (by simp)]
  have f1:jK l.length 16=true:=Ka (by omega);have f2:jK (l.length+1) 16=true:=Ka (by omega);have happ:jU (jU (l.map cs) [[sv s]]) []=(l++[s]).map cs:=by simp [jU]
  have hlen:(jU (l.map cs) [[sv s]]).length=l.length+1:=by simp [jU]
  refine ⟨l++[s],?_,⟨by intro n;simp,by simp⟩,λh=> ?_⟩
  .rw [joy];simp only [jd,hx,s1,s2,f1,f2,hlen,happ,kC]
  .have:=jvh (s:=s) (i:=l.length) h (hless h) (λh=>absurd h (Nat.lt_irrefl _));simpa using this
 .intro i hi ih hless;have hlt:(i:Int) < ((l.length:Nat):Int):=by omega
  have h5:=jm hi (by omega);rw [joy];cases h1:yT l[i] s
  .by_cases h2:l[i]=s
   .refine ⟨l,?_,⟨λn=>⟨λh=>Or.inl h,λh=>by
     rcases h with h|h
     .exact h
     .simp at h;rw [h,<-h2];exact jo _⟩,by omega⟩,id⟩
    rw [h2] at h1;simp only [jd,hlt,ja hi,h2,h1]
   .have s1:zS 1 (strs l) none (some (vi i))=some (strs (l.take i)):=by rw [qP (by simp;omega),<-jev]
    have s2:zS 1 (strs l) (some (vi i)) none=some (strs (l.drop i)):=by rw [qt (by simp;omega),<-jgi]
    have ht:(l.take i).length=i:=by rw [qe];omega
    have f1:jK i 16=true:=Ka (by omega);have f2:jK (i+1) 16=true:=Ka (by omega);have f3:jK (i+1+(l.drop i).length) 16=true:=Ka (by rw [qR];omega);have happ:jU (jU ((l.take i).map cs) [[sv s]]) ((l.drop i).map cs)=(l.take i++[s]++l.drop i).map cs:=by simp [jU]
    have hlen:(jU ((l.take i).map cs) [[sv s]]).length=i+1:=by simp [jU];omega
    refine ⟨l.take i++[s]++l.drop i,?_,⟨λn=> ?_,by simp;omega⟩,λh=> ?_⟩
    .simp only [jd,hlt,ja hi,h1,h2,s1,s2,ht,f1,f2,f3,hlen,happ]
    .have hm:n∈l↔n∈l.take i\/n∈l.drop i:=by rw [<-kM,jew]
     simp only [kM,kG,hm];exact ⟨λh=>by rcases h with (h|h)|h<;>simp [h],λh=>by rcases h with (h|h)|h<;>simp [h]⟩
    .rw [Qa,jcg] at h1;exact jvh h (hless h) λ_=>jzK h1 h2
  .have hx:l[i] < s:=by rw [Qa,kK] at h1;exact h1
   obtain ⟨r,e,c⟩:=ih λh x hm=>by
    rw [List.take_succ_eq_append_getElem hi] at hm;rcases kM.1 hm with hm|hm
    .exact hless h x hm
    .rw [kG.1 hm];exact hx
   refine ⟨r,?_,c⟩;simp only [jd,hlt,ja hi,h1,h5,e]
theorem jhM:∀t:T,JO t-> ∀l:List (List UInt8),l.length+nodes t<=2100000-> ∃r,G 223 [strs l,tm t]=some (strs r,[])/\je7 l (Qe t) (nodes t) r/\(Srt l->Srt r):=by
 refine T.ind λt ih hw l hb=> ?_;obtain ⟨w1,w2,w3⟩:=(kJ t).1 hw;have w3:=(kD _).1 w3;have e1:=zy t.name w1;rw [jLI,ja0];rw [jS] at hb ⊢;have key:=upto (P:=λi=>∀l:List (List UInt8),l.length+js (t.args.drop i)<=2100000-> ∃r,ji1 (strs l) (vi i) (sv t.name) (jQ t.args)=some (strs r,[])/\je7 l (JA (t.args.drop i)) (js (t.args.drop i)) r/\(Srt l->Srt r)) (n:=t.args.length) ?_ ?_ 0 (jD _)
 .simp only [jP,kg] at key;cases hv:ju t.name<;>rw [hv] at e1
  .obtain ⟨r0,e0,⟨b1,b2⟩,b3⟩:=jvQ l t.name (by omega);obtain ⟨r,e,⟨c1,c2⟩,c3⟩:=key r0 (by omega);refine ⟨r,?_,⟨λn=> ?_,by omega⟩,λh=>c3 (b3 h)⟩
   .simp only [jd,e1,e0,e]
   .rw [c1,b1];simp only [K5,KU,kM];exact Ya
  .obtain ⟨r,e,⟨c1,c2⟩,c3⟩:=key l (by omega);refine ⟨r,?_,⟨by simpa using c1,by omega⟩,c3⟩;simp only [jd,e1,e]
 .intro l hb;rw [jy0,j6];refine ⟨l,?_,⟨by simp [JA],by omega⟩,id⟩;simp only [jd]
 .intro i hi ih' l hb;have hlt:(i:Int) < ((t.args.length:Nat):Int):=by omega
  have h5:=jm hi w2;rw [jh hi] at hb ⊢;simp only [js,JA] at hb ⊢;obtain ⟨r1,a1,⟨c1,c2⟩,c3⟩:=ih t.args[i] (jo _) (w3 _ (jo _)) l (by omega);obtain ⟨r2,a2,⟨d1,d2⟩,d3⟩:=ih' r1 (by omega);rw [jy0];refine ⟨r2,?_,⟨λn=> ?_,by omega⟩,λh=>d3 (c3 h)⟩
  .simp only [jd,hlt,ja hi,jf,a1,h5,a2]
  .rw [d1,c1,kM];exact Ya
theorem jkR {n:List UInt8} (h:ju n=true):qN n=false:=by
 cases n with
 | nil=>rfl
 | cons c r=>
  simp only [ju,jy,upc,yS,kK] at h;have:jeM c=false:=by unfold jeM yS;rw [Bool.and_eq_false_iff];left;rw [jcg];omega
  simp [qN,this]
theorem jsa {t:T} (h:yH t=true):qN t.name=!ju t.name:=by
 obtain ⟨c,r,_,hv,hs⟩:=jrb h;cases hx:ju t.name
 .rw [hv] at hx;rw [hs hx];rfl
 .rw [jkR hx];rfl
def jlG (l vs:List (List UInt8)) (k:Nat) (r:List (List UInt8)):Prop:=je7 l vs k r/\(l.Nodup->r.Nodup)
theorem jdx (ts:List T) (hl:ts.length<=9223372036854775807) (ih:∀t∈ts,∀l:List (List UInt8),l.length+nodes t<=2100000-> ∃r,QR (sv t.name) (jQ t.args) (l.map cs)=some (.top,[strs r])/\jlG l (Qe t) (nodes t) r) :
  ∀i,i<=ts.length-> ∀l:List (List UInt8),l.length+js (ts.drop i)<=2100000-> ∃r,jcI (jQ ts) (vi (ts.length:Nat)) (vi i) (l.map cs)=some (.top,[strs r])/\jlG l (JA (ts.drop i)) (js (ts.drop i)) r:=by
 refine upto ?_ ?_
 .intro l hb;rw [jqK,j6];refine ⟨l,?_,⟨by simp [JA],by omega⟩,id⟩;simp only [jd]
 .intro i hi ih' l hb;have hlt:(i:Int) < ((ts.length:Nat):Int):=by omega
  have h5:=jm hi hl;rw [jh hi] at hb ⊢;simp only [js,JA] at hb ⊢;obtain ⟨r1,e1,⟨c1,c2⟩,c3⟩:=ih ts[i] (jo _) l (by omega);obtain ⟨r2,e2,⟨d1,d2⟩,d3⟩:=ih' r1 (by omega);rw [jqK];refine ⟨r2,?_,⟨λn=> ?_,by omega⟩,λh=>d3 (c3 h)⟩
  .simp only [jd,hlt,ja hi,jf,e1,h5,e2]
  .rw [d1,c1,kM];exact Ya
theorem jcd (ts:List T) (hl:ts.length<=9223372036854775807) (ih:∀t∈ts,∀l:List (List UInt8),l.length+nodes t<=2100000-> ∃r,QR (sv t.name) (jQ t.args) (l.map cs)=some (.top,[strs r])/\jlG l (Qe t) (nodes t) r) (l:List (List UInt8)) (hb:l.length+js ts<=2100000) :
  ∃r,ji6 (jQ ts) (vi (ts.length:Nat)) (vi 0) (l.map cs)=some (.top,[strs r])/\jlG l (JA ts) (js ts) r:=by
 have loop:=jdx ts hl ih;rw [jy6];by_cases h0:ts.length=0
 .have ha:ts = []:=jhr.1 h0;rw [ha];refine ⟨l,?_,⟨by simp [JA],by simp [js]⟩,id⟩;simp only [jd];rfl
 .have hi:0 < ts.length:=by omega
  have hlt:(0:Int) < ((ts.length:Nat):Int):=by omega
  have hix:jg 2 (jQ ts) (vi 0)=some (.elt (jw ts[0]) 0):=ja (i:=0) hi;have h5:jr .add false (vi 0) (vi 1)=some (vi ((1:Nat):Int)):=by rw [KO,jZ (by decide) (by decide)];rfl
  have hd:ts=ts[0]::ts.drop 1:=by have:=jh hi;simpa using this
  have hns:js ts=nodes ts[0]+js (ts.drop 1):=by conv=>lhs;rw [hd,js]
  have hvs:JA ts=Qe ts[0]++JA (ts.drop 1):=by conv=>lhs;rw [hd,JA]
  obtain ⟨r1,e1,⟨c1,c2⟩,c3⟩:=ih ts[0] (jo _) l (by omega);obtain ⟨r2,e2,⟨d1,d2⟩,d3⟩:=loop 1 (by omega) r1 (by omega);refine ⟨r2,?_,⟨λn=> ?_,by omega⟩,λh=>d3 (c3 h)⟩
  .simp only [jd,hlt,hix,jf,e1,h5,e2]
  .rw [d1,c1,hvs,kM];exact Ya
theorem jf8:∀t:T,JO t->yH t=true-> ∀l:List (List UInt8),l.length+nodes t<=2100000-> ∃r,QR (sv t.name) (jQ t.args) (l.map cs)=some (.top,[strs r])/\jlG l (Qe t) (nodes t) r:=by
 refine T.ind λt ih hw hk l hb=> ?_;obtain ⟨w1,w2,w3⟩:=(kJ t).1 hw;have w3:=(kD _).1 w3;have hks:=zM hk;have e1:=jc6 t.name w1;have e2:=Zv l t.name (by omega);rw [jsa hk] at e1;rw [jDT,ja0];have ih':∀u∈t.args,∀l:List (List UInt8),l.length+nodes u<=2100000-> ∃r,QR (sv u.name) (jQ u.args) (l.map cs)=some (.top,[strs r])/\jlG l (Qe u) (nodes u) r:=λu hu=>ih u hu (w3 u hu) (hks u hu);rw [jS] at hb ⊢;cases hv:ju t.name<;>rw [hv] at e1
 .cases hc:l.contains t.name<;>rw [hc] at e2
  .have hn:¬t.name∈l:=by simpa using hc
   obtain ⟨r,e,⟨c1,c2⟩,c3⟩:=jdx t.args w2 ih' 0 (jD _) (l++[t.name]) (by simp;omega)
   simp only [jP,kg,ym,List.length_singleton] at e c1 c2;have happ:jU (l.map cs) [[sv t.name]]=(l++[t.name]).map cs:=by simp [jU]
   have f1:jK (l.length+1) 16=true:=Ka (by omega);refine ⟨r,?_,⟨λn=> ?_,by omega⟩,λh=>c3 ?_⟩
   .simp only [jd,e1,e2,f1,happ,e]
   .rw [c1];simp only [K5,KU,kM];exact Ya
   .exact jk8.2 ⟨h,by simp,λa ha b hb e=>by rw [kG.1 hb] at e;rw [e] at ha;exact hn ha⟩
  .have hn:t.name∈l:=by simpa using hc
   obtain ⟨r,e,⟨c1,c2⟩,c3⟩:=jcd t.args w2 ih' l (by omega);refine ⟨r,?_,⟨λn=> ?_,by omega⟩,c3⟩
   .simp only [jd,e1,e2,e]
   .rw [c1];simp only [K5,KU,kM,kG];exact ⟨λh=>by rcases h with h|h<;>simp [h],λh=>by
     rcases h with h|h|h
     .exact Or.inl h
     .exact Or.inl (h ▸ hn)
     .exact Or.inr h⟩
 .obtain ⟨r,e,⟨c1,c2⟩,c3⟩:=jcd t.args w2 ih' l (by omega);refine ⟨r,?_,⟨by simpa using c1,by omega⟩,c3⟩;simp only [jd,e1,e]
theorem jz5 {n:Nat} (h:n<=4000000):jK n 8=true:=by
 unfold jK;simp;omega
theorem jB7 (n:Nat) (h:n<=12):((Jb .u64 (yX [[vi 1]])).bind λt2=>(Jb .u64 (vi n)).bind λt3=>(G 284 [t2,t3]).bind (fin false))=some (.tup [.val (.int .u64 0),.val (.int .u64 n)]):=by
 have c:(Jb .u64 (yX [[vi 1]]))=some (.val (.int .u64 1)):=by kernel_rfl
 have d:Jb .u64 (vi n)=some (.val (.int .u64 n)):=by
  rcases n with _|_|_|_|_|_|_|_|_|_|_|_|_|n
  rotate_right
  .omega
  all_goals kernel_rfl
 rw [c,d];simp only [yz];rw [jMp];simp only [cev];rw [jMK];clear c d;rcases n with _|_|_|_|_|_|_|_|_|_|_|_|_|n
 rotate_right
 .omega
 all_goals (show _=_;kernel_rfl)
theorem jxK {α:Type} {a b:α} {i j k:Nat} (h:i<=k):(List.replicate i a++List.replicate j b).drop k=List.replicate (j - (k - i)) b:=by
 rw [List.drop_append,List.drop_replicate,List.drop_replicate,KT,show i - k=0 by omega];rfl
theorem jAn {n:Nat} (hn:n<=12) (r1:List (List A)):∀(f j:Nat),n - j<=f->1<=j->j<=n->
  jfb (vi (j:Nat)) (List.replicate j [vi 1]++List.replicate (n - j) [vi 0]) r1=some (.top,[.sl 1 (List.replicate n [vi 1])]):=by
 intro f;induction f with
 | zero=>
  intro j h1 h2 h3;have:j=n:=by omega
  subst this;rw [jfK];simp only [jd,ym,KT,jb2,List.replicate_zero,JD]
 | succ f ih=>
  intro j h1 h2 h3;by_cases hj:j=n
  .subst hj;rw [jfK];simp only [jd,ym,KT,jb2,List.replicate_zero,JD]
  .rw [jfK];simp only [cev];have hl:(List.replicate j [vi 1]++List.replicate (n - j) [vi 0]).length=n:=by simp;omega
   have e1:decide ((j:Int) < (n:Int))=true:=by simp;omega
   have hm:j+min j (n - j)<=n:=by omega
   have e2:jr .add false (vi j) (vi (min j (n - j):Nat))=some (vi (j+min j (n - j):Nat)):=by
    rw [KO,jZ (by omega) (by omega)];rfl
   have ew:(((List.replicate j [vi 1]++List.replicate (n - j) [vi 0]).drop 0).take j)=List.replicate j [vi 1]:=by
    rw [kg,jgj (by simp),qf (by simp)]
   have eo:qc (List.replicate j [vi 1]++List.replicate (n - j) [vi 0]) (0+j) ((List.replicate j [vi 1]).take (n - j))=List.replicate (j+min j (n - j)) [vi 1]++List.replicate (n - (j+min j (n - j))) [vi 0]:=by
    rw [jaX,yc,jgj (by simp),qf (by simp),List.take_replicate,KT,jxK]
    .rw [List.replicate_append_replicate,Nat.min_comm (n - j) j];congr 2;omega
    .omega
   have key:=ih (j+min j (n - j)) (by omega) (by omega) hm;simp only [Ys,joZ,qU,hl,jfS,yz,YX,e1,jfs,jeu,yj (kH n),Jj h3,jfW,qS,ew,ju3,jrC,KT,e2,eo,key]
theorem jET {n:Nat} (h:n<=12):jsB (vi (n:Nat)) [[vi 1]]=some (.top,[.sl 1 (List.replicate n [vi 1])]):=by
 rw [jDU];simp only [cev];have e0:decide ((n:Int) < 0)=false:=by simp
 have em:=jB7 n h;have eg:decide ((0:Int) < 0)=false:=by simp
 have ec:Jb .i64 (A.val (.int .u64 n))=some (vi n):=jZ (by omega) (by omega);have ek:jr .gtr false (A.val (.int .u64 n)) (A.val (.int .u64 9223372036854775807))=some (vb false):=by
  show some (vb (decide ((9223372036854775807:Int) < n)))=_;rw [kA (by omega)]
 have ek0:jr .gtr false (A.val (.int .u64 0)) (A.val (.int .u64 0))=some (vb false):=rfl;have emk:jhW 8 (vi n) (vi n)=some n:=by
  show (if jA8 8 (n:Int) (n:Int) then some (n:Int).toNat else none)=_;rw [jp ⟨by omega,by omega,by omega,by omega⟩];rfl
 have hm:∀(k:A->A->Option Out),((Jb .u64 (yX [[vi 1]])).bind λt2=>(Jb .u64 (vi n)).bind λt3=>((G 284 [t2,t3]).bind (fin false)).bind λt4=>(jaV t4 0).bind λt5=>(jaV t4 1).bind λt6=>k t5 t6) =
   k (.val (.int .u64 0)) (.val (.int .u64 n)):=by
  intro k;have:((Jb .u64 (yX [[vi 1]])).bind λt2=>(Jb .u64 (vi n)).bind λt3=>((G 284 [t2,t3]).bind (fin false)).bind λt4=>(jaV t4 0).bind λt5=>(jaV t4 1).bind λt6=>k t5 t6) =
    (((Jb .u64 (yX [[vi 1]])).bind λt2=>(Jb .u64 (vi n)).bind λt3=>(G 284 [t2,t3]).bind (fin false)).bind λt4=>(jaV t4 0).bind λt5=>(jaV t4 1).bind λt6=>k t5 t6):=by
   simp only [Option.bind_assoc]
  rw [this,em];rfl
 rw [jfS,e0];simp only [yz,YX,Yz];rw [hm];simp only [ek0,ek,yz,jz7,Jk,jkj,K5,KU,YX,Yz,ec,emk,qV,joZ,KT];rcases n with _|n
 .have e1:jws [[vi 1]] 0=vi ((0:Nat):Int):=rfl;have e2:qc (List.replicate 0 [vi 0]) 0 (jmw [[vi 1]] 0) = []:=rfl;rw [e1,e2,jfK];rfl
 .have key:=jAn (n:=n+1) h [[vi 1]] (n+1) 1 (by omega) (by omega) (by omega);have e1:jws [[vi 1]] (n+1)=vi ((1:Nat):Int):=by
   rw [ju3];have:min [[vi 1]].length (n+1)=1:=by simp
   rw [this]
  have e2:qc (List.replicate (n+1) [vi 0]) 0 (jmw [[vi 1]] (n+1))=List.replicate 1 [vi 1]++List.replicate (n+1 - 1) [vi 0]:=by
   rw [jaX,jrC];simp [Z8]
  rw [e1,e2];exact key
theorem jkS {ts:List T} {n:List UInt8} :n∈JA ts↔ ∃t∈ts,n∈Qe t:=by
 induction ts with
 | nil=>simp [JA]
 | cons t ts ih=>simp [JA,ih]
theorem jmS:∀t:T,yH t=true-> ∀n∈Qe t,qN n=true:=by
 refine T.ind λt ih hk n hn=> ?_;rw [ja0,kM] at hn;rcases hn with hn|hn
 .cases hv:ju t.name<;>rw [hv] at hn
  .simp at hn;rw [hn,jsa hk,hv];rfl
  .simp at hn
 .obtain ⟨u,hu,hm⟩:=jkS.1 hn;exact ih u hu (zM hk u hu) n hm
theorem jp2 (l:List (List UInt8)):∀t:T,(∀n∈Qe t,n∈l)->KX l t=true:=by
 refine T.ind λt ih h=> ?_;rw [ja0] at h;rw [J7,jaL,jy];refine ⟨?_,z7.2 λu hu=>ih u hu λn hn=>h n (jgh _ (jkS.2 ⟨u,hu,hn⟩))⟩;cases hv:ju t.name
 .rw [hv] at h;rw [zI];exact jhp.2 (h t.name (by simp))
 .rfl
def jkM (r:List (List UInt8)):Ord':=⟨r,List.replicate r.length 1,1⟩
theorem jw1 {r:List (List UInt8)} (h1:1<=r.length) (h2:r.length<=12) (hs:∀n∈r,qN n=true) (hn:r.Nodup):y9 (jkM r)=true:=by
 have hb:yS 1 12 (r.length:Nat)=true:=by unfold yS;rw [jy,kK,kK];omega
 unfold y9 jkM;simp only [hb,KT,decide_true,jJ,jy];refine ⟨by decide,z7.2 λi hi=> ?_⟩;have hi:i < r.length:=List.mem_range.1 hi;have g1:r.getD i []=r[i]:=by simp [zO,hi]
 have g2:(List.replicate r.length (1:Int)).getD i 0=1:=by simp [zO,hi]
 unfold jvB;simp only [g1,g2,hs _ (jo _),jJ,jy];refine ⟨?_,by decide⟩;rw [JF,<-Bool.not_eq_true,jhp];intro hm;obtain ⟨j,hj,e⟩:=List.mem_take_iff_getElem.1 hm;have:=(jt4.1 hn);have:=jhq.1 this j i (by omega) hi (by omega);exact this e
theorem jAI {n:List UInt8} (h:qN n=true):n.length<=6:=by
 cases n with
 | nil=>simp
 | cons c r=>
  simp only [qN,jy,kK] at h;simp only [yd];omega
theorem jjo (o:Ord') (s t:T) (hw:JO s) (hw':JO t) (x y:Bool) (e5:G 287 [od o,tm s,tm t]=some (vb x,[])) (e6:G 287 [od o,tm t,tm s]=some (vb y,[])):G 246 [od o,tm s,tm t]=some (vi (jcU (dq s t) x y),[]):=by
 have e4:=zQ s hw t hw';have c1:G 286 [.elt (joS o) 0,.elt [sv s.name,.sl 2 (s.args.map jw)] 0,.elt [sv t.name,.sl 2 (t.args.map jw)] 0]=some (vb x,[]):=by
  rw [jFQ];simp only [jd,jfT,jfU,e5]
 have c2:G 288 [.elt (joS o) 0,.elt [sv t.name,.sl 2 (t.args.map jw)] 0,.elt [sv s.name,.sl 2 (s.args.map jw)] 0]=some (vb y,[]):=by
  rw [jFS];simp only [jd,jfT,jfU,e6]
 have e7:=jkd (f:=286) (g:=288) rfl rfl (dq s t) _ _ c1 c2;rw [jFO];simp only [jd,e4,e7]
theorem ja5 {t:T} (hk:yH t=true) (hv:ju t.name=true):t.args = []:=by
 rw [yW,hv,jp rfl] at hk;exact jlh.1 hk
theorem jqC (o:Ord') (s t:T) (hw:JO s) (hw':JO t) (hk:yH s=true) (hk':yH t=true) (hv:ju s.name=true) (hv':ju t.name=true) (hne:¬s.name=t.name):G 287 [od o,tm s,tm t]=some (vb false,[]):=by
 have as_:=ja5 hk hv;have at_:=ja5 hk' hv';have ns:nodes s<=1048577:=by rw [jS,as_];simp [js]
 have nt:nodes t<=1048577:=by rw [jS,at_];simp [js]
 obtain ⟨r,er,c1,c2⟩:=jgc t hw' hk' nt;have hvt:kT t = [t.name]:=by rw [Qg,jp hv']
 have hpos:0 < r.length:=by
  rcases Nat.eq_zero_or_pos r.length with h|h
  .have hr:r = []:=jhr.1 h;have:=(c1 t.name).2 (by rw [hvt];simp);rw [hr] at this;cases this
  .exact h
 have h0:r[0]=t.name:=by
  have:=(c1 r[0]).1 (jo _);rw [hvt] at this;simpa using this
 have hlt:(0:Int) < ((r.length:Nat):Int):=by omega
 have hix:jg 1 (strs r) (vi 0)=some (.elt (cs t.name) 0):=by have:=ja (k:=1) (f:=cs) (i:=0) hpos;rw [h0] at this;exact this
 have a1:=KI t.name s hw ns;have a2:=KI t.name t hw' nt;have k1:cnt t.name s=0:=by rw [jgL,as_,jq hne];simp [Yj]
 have k2:cnt t.name t=1:=by rw [jgL,at_];simp [Yj]
 rw [k1] at a1;rw [k2] at a2;have h':((0:Nat):Int) < ((1:Nat):Int):=by omega
 rw [jFR];simp only [jd,er];rw [jtj];simp only [jd,hlt,hix,a1,a2,h']
theorem jAC (a b:T) (r:List (List UInt8)) (hr:r.length<=12) (x:Int) (ok:Bool) (e:G 224 [.agg [strs r,.sl 1 (List.replicate r.length [vi 1]),vi 1],tm a,tm b]=some (.tup [vi x,vb ok],[])) :
  jiW (vi 0) (sv a.name) (jQ a.args) (sv b.name) (jQ b.args) (strs r) (vi 1) []=some (vi (if ok then x else 0),[]):=by
 have key:=upto (P:=λi=>jiW (vi i) (sv a.name) (jQ a.args) (sv b.name) (jQ b.args) (strs r) (vi 1) (List.replicate i [vi 1])=some (vi (if ok then x else 0),[])) (n:=r.length) ?_ ?_ 0 (jD _)
 .simpa using key
 .rw [jyC];have hf:fin true (A.tup [vi x,vb ok],[])=some (A.tup [vi x,vb ok]):=rfl;cases ok
  .simp only [jd,e,hf]
  .simp only [jd,e,hf]
 .intro i hi ih;have hlt:(i:Int) < ((r.length:Nat):Int):=by omega
  have h5:=jm hi (by omega);have f1:jK (i+1) 8=true:=jz5 (by omega);have happ:jU (List.replicate i [vi 1]) [[vi 1]]=List.replicate (i+1) [vi 1]:=by rw [List.replicate_succ'];rfl
  have hlen:(List.replicate i ([vi 1]:List A)).length=i:=KT;rw [jyC];simp only [jd,hlt,hlen,f1,h5,happ,ih]
theorem jEq {o:Ord'} (hv:y9 o=true) {s t:T} (ks:yH s=true) (hc:KX o.syms t=true) (h:Kp o s t):ju s.name=false:=by
 cases hs:ju s.name with
 | false=>rfl
 | true=>
  obtain ⟨_,h⟩:=(jxf o s t).1 h;rcases h with h|⟨_,h,_⟩
  .have:=jFa hv hc;rw [jsn o s,ja5 ks hs,hs,jp rfl] at h;simp only [wtL] at h;omega
  .rw [hs] at h;cases h.1
theorem jrf (a b:T) (hw:JO a) (hw':JO b) (hs:tsz a<=1048576) (hs':tsz b<=1048576) (hva:kZ a=true) (hvb:kZ b=true) :
  ∃x:Int,G 179 [tm a,tm b]=some (vi x,[])/\G 197 [tm a,tm b]=some (vi x,[])/\(x=2->ju a.name=false):=by
 have hk:yH a=true:=by unfold kZ at hva;rw [jy] at hva;exact hva.2
 have hk':yH b=true:=by unfold kZ at hvb;rw [jy] at hvb;exact hvb.2
 have na:nodes a<=30:=by simp only [kZ,jG,jy,kK] at hva;exact hva.1.1
 have nb:nodes b<=30:=by simp only [kZ,jG,jy,kK] at hvb;exact hvb.1.1
 have e1:=Jd a hw b hw';have e2:=zQ a hw b hw';rw [jK7,jLl];cases hd:dq a b<;>rw [hd] at e1 e2
 rotate_left
 .exact ⟨1,by simp only [jd,e1],by simp only [jd,e2],λh=>absurd h (by decide)⟩
 obtain ⟨r1,f1,⟨c1,c2⟩,c3⟩:=jhM a hw [] (by simp;omega)
 obtain ⟨r,f2,⟨d1,d2⟩,d3⟩:=jhM b hw' r1 (by simp at c2;omega)
 have hsrt:Srt r:=d3 (c3 List.Pairwise.nil);have hmem:∀n,n∈r↔n∈Qe a\/n∈Qe b:=λn=>by rw [d1,c1];simp
 have hlen:r.length<=60:=by simp at c2;omega
 have f1:G 223 [.sl 1 [],tm a]=some (strs r1,[]):=f1;obtain ⟨p1,g1,⟨i1,i2⟩,i3⟩:=jf8 a hw hk [] (by simp;omega);obtain ⟨p,g2,⟨j1,j2⟩,j3⟩:=jf8 b hw' hk' p1 (by simp at i2;omega);have hnd:p.Nodup:=j3 (i3 List.nodup_nil);have hpm:∀n,n∈p↔n∈Qe a\/n∈Qe b:=λn=>by rw [j1,i1];simp
 have hsort:y5 p=r:=jvg _ _ (jAB hnd) hsrt λn=>by rw [hmem,<-hpm];unfold y5;exact List.mem_mergeSort
 have hpl:p.length=r.length:=by rw [<-hsort];simp [y5]
 have g1:QR (sv a.name) (jQ a.args) []=some (.top,[strs p1]):=g1;have g3:jm8 (p.map cs)=some (.top,[strs r]):=by
  rw [jyb];simp only [jr2,je1];rw [jp (by omega),hsort]
 by_cases h12:r.length<=12;rotate_left
 .have hgt:((12:Nat):Int) < ((r.length:Nat):Int):=by omega
  have hle:¬((r.length:Nat):Int)<=12:=by omega
  have hgt:(12:Int) < ((r.length:Nat):Int):=by omega
  have hz:¬((r.length:Nat):Int)=0:=by omega
  refine ⟨0,?_,?_,λh=>absurd h (by decide)⟩
  .simp only [jd,e1,f1,f2,hz,hle,hgt]
  .simp only [jd,e2,g1,g2,hpl,hle,hgt]
 have hle:((r.length:Nat):Int)<=12:=by omega
 have hgt:¬(12:Int) < ((r.length:Nat):Int):=by omega
 have hrep:=jET h12;have hci:(ints (List.replicate r.length 1):A) = .sl 1 (List.replicate r.length [vi 1]):=by show A.sl 1 _=_;rw [List.map_replicate]
 have hod:(od (jkM r):A) = .agg [strs r,.sl 1 (List.replicate r.length [vi 1]),vi 1]:=by rw [<-hci];rfl
 by_cases h0:r.length=0
 .have hr:r = []:=jhr.1 h0;have hz:((r.length:Nat):Int)=0:=by omega
  have va:ju a.name=true:=by
   cases hv:ju a.name
   .have:=(hmem a.name).2 (Or.inl (by rw [ja0,hv];simp))
    rw [hr] at this;cases this
   .rfl
  have vb':ju b.name=true:=by
   cases hv:ju b.name
   .have:=(hmem b.name).2 (Or.inr (by rw [ja0,hv];simp))
    rw [hr] at this;cases this
   .rfl
  have hne:¬a.name=b.name:=λe=>by
   rw [jEa,e,ja5 hk va,ja5 hk' vb',jdO] at hd;simp at hd
  have q:=jjo (jkM r) a b hw hw' false false (jqC _ a b hw hw' hk hk' va vb' hne) (jqC _ b a hw' hw hk' hk vb' va (λe=>hne e.symm));rw [hd,hod] at q;refine ⟨0,?_,?_,λh=>absurd h (by decide)⟩
  .simp only [jd,e1,f1,f2,hz]
  .simp only [jd,e2,g1,g2,hpl,hle,hgt,g3,hrep,q,jcU]
 have hsym:∀n∈r,qN n=true:=λn hn=>by
  rcases (hmem n).1 hn with h|h
  .exact jmS a hk n h
  .exact jmS b hk' n h
 have hval:=jw1 (by omega) h12 hsym (jwM hsrt);have hca:KX (jkM r).syms a=true:=jp2 _ a λn hn=>(hmem n).2 (Or.inl hn);have hcb:KX (jkM r).syms b=true:=jp2 _ b λn hn=>(hmem n).2 (Or.inr hn);have howf:owf (jkM r):=by
  refine ⟨⟨λs hs=> ?_,by show r.length<=_;omega⟩,⟨λx hx=> ?_,by show (List.replicate r.length (1:Int)).length<=_;rw [KT];omega⟩,by show I64 1;exact ⟨by decide,by decide⟩⟩
  .have:=jAI (hsym s hs);omega
  .have:x=1:=by have:=jhu hx;exact this
   rw [this];exact ⟨by decide,by decide⟩
 have q1:=jim (jkM r) a b howf hw hs hw' hs';have q2:=jia hval a b howf hw hs hw' hs' hk hk' hca hcb;have q3:jby (jkM r) a b = .tup [vi (jbw (jkM r) a b),vb true]:=by unfold jby jeE;rw [hval,hva,hvb,hca,hcb];rfl
 rw [q3,hod] at q1;rw [hod] at q2;have q4:=jAC a b r h12 _ _ q1;have hz:¬((r.length:Nat):Int)=0:=by omega
 refine ⟨jbw (jkM r) a b,?_,?_,λh=>jEq hval hk hcb ((jBE _ _ _).1 h)⟩
 .simp only [jd,e1,f1,f2,hz,hgt,hle,q4]
 .simp only [jd,e2,g1,g2,hpl,hle,hgt,g3,hrep,q2]
theorem jp6 {ts:List T} {t:T} (h:t∈ts):Qp t<=jab ts:=by
 induction ts with
 | nil=>cases h
 | cons u us ih=>
  simp only [jab];rcases kW.1 h with h|h
  .subst h;omega
  .have:=ih h;omega
theorem jmP {t u:T} (h:u∈t.args) (hs:jG t=true):jG u=true:=by
 simp only [jG,jy,kK] at hs ⊢;have h1:=qw h;have h2:=jp6 h;rw [jS,ZZ] at hs;omega
theorem jhy (t:T) (hs:Tz t) (he:¬t.name = [61]):G 137 [tm t]=some (vb (qN t.name && kZ t),[]):=by
 have e1:=QG t.name ((kJ t).1 hs.wf).1;have e2:=Zd t hs.wf hs;rw [jEm];cases h:qN t.name<;>rw [h] at e1
 .simp only [jd,he,e1,jH]
 .simp only [jd,he,e1,e2,jJ]
theorem jxV {t:T} (h:jcZ t=true):t.args.length=2/\Vs (jag t)/\Vs (jha t)/\jG t=true:=by
 have h':=h;unfold jcZ at h;rw [jy,jy,jy,kK] at h;obtain ⟨h1,h2,h3,h4⟩:=h;obtain ⟨_,_,ma,mb⟩:=K8 h1;have hn:nodes t<=30:=by simp only [jG,jy,kK] at h2;exact h2.1
 exact ⟨h1,⟨h3,by have:=Je ma;show nodes (jaJ t)<=30;omega⟩,⟨h4,by have:=Je mb;show nodes (jcp t)<=30;omega⟩,h2⟩
theorem jCb (t:T) (hs:Tz t):∃b:Bool,G 225 [tm t]=some (vb b,[])/\G 201 [tm t]=some (vb b,[])/\(b=true->t.name = [61]/\jcZ t=true/\ju (jag t).name=false):=by
 have hw:=hs.wf;obtain ⟨w1,w2,w3⟩:=(kJ t).1 hw;have w3:=(kD _).1 w3;have q0:=qv t;by_cases he:t.name = [61];rotate_left
 .have e1:=jhy t hs he;rw [kA he] at q0;refine ⟨false,?_,?_,λh=>by cases h⟩
  .rw [jFM];cases h1:(qN t.name && kZ t)<;>rw [h1] at e1<;>simp only [jd,he,e1]
  .rw [jFL];simp only [jd,q0]
 .have e1:=jeJ t hw hs he;have e2:=jca t hw hs he;rw [jW he] at q0;have het:(t.name = [61])=True:=eq_true he;rw [jFM,jFL];cases h:jcZ t<;>rw [h] at e1 e2
  .exact ⟨false,by simp only [jd,e1],by simp only [jd,q0,e2],λh=>by cases h⟩
  .obtain ⟨h1,v1,v2,hsm⟩:=jxV h;obtain ⟨i0,i1,ma,mb⟩:=K8 h1;have va:kZ (jaJ t)=true:=by unfold kZ;rw [jmP ma hsm];exact v1.1
   have vb':kZ (jcp t)=true:=by unfold kZ;rw [jmP mb hsm];exact v2.1
   obtain ⟨x,o1,o2,o3⟩:=jrf (jaJ t) (jcp t) (w3 _ ma) (w3 _ mb) v1.tz v2.tz va vb';refine ⟨decide (x=2),?_,?_,λhx=>⟨he,rfl,o3 (ja7 hx)⟩⟩
   .simp only [jd,e1,het,i0,i1,jf,o1]
   .simp only [jd,q0,e2,i0,i1,jf,o2]
theorem jrQ (rs:List T) (hl:rs.length<=1048576) (hs:∀r∈rs,Tz r):∃b:Bool,G 181 [jQ rs]=some (vb b,[])/\G 154 [jQ rs]=some (vb b,[])/\(b=true->RS rs/\ ∀r∈rs,r.name = [61]/\jcZ r=true/\ju (jag r).name=false):=by
 obtain ⟨p,hp⟩:=Classical.axiomOfChoice (r:=λ(t:T) (b:Bool)=>Tz t->G 225 [tm t]=some (vb b,[])/\G 201 [tm t]=some (vb b,[])/\(b=true->t.name = [61]/\jcZ t=true/\ju (jag t).name=false)) λt=>by
  by_cases h:Tz t
  .obtain ⟨b,hb⟩:=jCb t h;exact ⟨b,λ_=>hb⟩
  .exact ⟨false,λh'=>absurd h' h⟩
 have hp:∀r∈rs,G 225 [tm r]=some (vb (p r),[])/\G 201 [tm r]=some (vb (p r),[])/\(p r=true->r.name = [61]/\jcZ r=true/\ju (jag r).name=false):=λr hr=>hp r (hs r hr);refine ⟨decide (rs.length<=10) && rs.all p,?_,?_,λh=> ?_⟩
 .have key:=upto (P:=λi=>jnp (jQ rs) (vi i)=some (vb (decide (rs.length<=10) && (rs.drop i).all p),[])) (n:=rs.length) ?_ ?_ 0 (jD _)
  .rw [jK8];exact key
  .rw [jyD,j6];have e:decide (((rs.length:Nat):Int)<=10)=decide (rs.length<=10):=by
    by_cases h:rs.length<=10
    .rw [jW h,jW (by omega)]
    .rw [kA h,kA (by omega)]
   simp only [jd,e]
  .intro i hi ih;have hlt:(i:Int) < ((rs.length:Nat):Int):=by omega
   have h5:=jm hi (by show rs.length<=9223372036854775807;omega)
   obtain ⟨e1,_,_⟩:=hp rs[i] (jo _);rw [jyD,jh hi,zB];cases h:p rs[i]<;>rw [h] at e1
   .simp only [jd,hlt,ja hi,jf,e1,jH,yb]
   .simp only [jd,hlt,ja hi,jf,e1,h5,ih,jJ]
 .have e1:=jcW (f:=200) (caps:=[]) rfl (λr=> !p r) rs (by show rs.length<=9223372036854775807;omega) λr hr=>by
   obtain ⟨_,e2,_⟩:=hp r hr;rw [jLn];simp only [jd,e2]
  rw [jhz] at e1;rw [jKQ];by_cases h:rs.length<=10
  .have h':((rs.length:Nat):Int)<=10:=by omega
   simp only [jd,h,h',e1,jJ,Bool.not_not]
  .have h':¬((rs.length:Nat):Int)<=10:=by omega
   simp only [jd,h,h',jH]
 .rw [jy,kK,z7] at h;refine ⟨⟨h.1,λr hr=> ?_⟩,λr hr=>(hp r hr).2.2 (h.2 r hr)⟩;obtain ⟨_,h2,_⟩:=(hp r hr).2.2 (h.2 r hr);obtain ⟨q1,q2,q3,_⟩:=jxV h2;exact ⟨q1,q2,q3⟩
theorem jty {rs:List T} (hr:RS rs):∀(t:T) (root:Bool) {u:T},EX root t->jaT rs root t=some u->nodes u<=nodes t+900:=by
 refine T.ind (p:=λt=>∀(root:Bool) {u:T},EX root t->jaT rs root t=some u->nodes u<=nodes t+900) λt ih=> ?_;intro root u h ho;have hL:∀(us:List T) {us':List T},(∀u∈us,∀u',jaT rs true u=some u'->nodes u'<=nodes u+900)->ZI rs us=some us'->js us'<=js us+900:=by
  intro us;induction us with
  | nil=>intro us' _ h;simp [ZI] at h
  | cons v vs ih2=>
   intro us' hv h;rw [ZI] at h;split at h
   .rename_i v' hv';cases h;have:=hv v (by simp) _ hv';simp only [js];omega
   .rw [Jl] at h;obtain ⟨r,h3,rfl⟩:=h;have:=ih2 (λw hw=>hv w (by simp [hw])) h3;simp only [js];omega
 rw [jfQ] at ho;split at ho
 .rename_i us hus;cases ho;have:=hL t.args (λv hv u' hu'=>by
   have hw:=h.2.1 v hv;exact ih v hv true ⟨⟨by have:=hw.2;omega,hw.tz⟩,hw.args,λ_=>hw⟩ hu') hus
  rw [jS t];show 1+js us<=_;omega
 .cases root with
  | false=>cases ho
  | true=>
   have:=(jAq hr (h.2.2 rfl) ho).2;omega
def EX' (root:Bool) (t:T):Prop:=EX root t/\(root=false->t.name = [61]/\t.args.length=2)
theorem juX {us:List T} (h:∀u∈us,yH u=true):Qf us<=10 * js us:=by
 induction us with
 | nil=>simp [Qf]
 | cons u us ih=>
  have:=jgY u (h u (by simp));have:=ih λw hw=>h w (by simp [hw]);simp only [Qf,js];omega
theorem juZ {t:T} (h:yH t=true):¬t.name = [61]:=λe=>by
 rw [yW,e] at h;exact absurd h (by
  rw [show ju [61]=false from by decide,jq kx,show qN [61]=false from by decide];simp)
theorem jod {t:T} (ht:Tz t) (h:yH t=true\/(t.name = [61]/\t.args.length=2/\ ∀u∈t.args,yH u=true)):G 260 [tm t]=some (vb (jG t),[]):=by
 have e2:=Zd t ht.wf ht;rw [jL6];rcases h with h|⟨h1,h2,h3⟩
 .have hv:kZ t=jG t:=by unfold kZ;rw [h,ja8]
  rw [hv] at e2;have e1:=jhy t ht (juZ h);rw [hv] at e1;cases hs:jG t<;>rw [hs] at e1 e2
  .rw [yb] at e1;simp only [jd,e1,e2]
  .simp only [jd,e2]
 .have hk:yH t=false:=by
   cases hk:yH t with
   | false=>rfl
   | true=>exact absurd h1 (juZ hk)
  have hv:kZ t=false:=by unfold kZ;rw [hk,yb]
  rw [hv] at e2;have e1:=jeJ t ht.wf ht h1;obtain ⟨_,_,ma,mb⟩:=K8 h2;have he:jcZ t=jG t:=by unfold jcZ;rw [jW h2,h3 _ ma,h3 _ mb];simp
  rw [he] at e1;simp only [jd,e1,e2]
def jrg (o:Option (T × Nat)):Option Out:=match o with|some r=>some (.tup [tm r.1,vi (r.2:Nat),vb true],[])|none=>some (.tup [.agg [sv [],.sl 2 []],vi 0,vb false],[])
structure Law3 {α:Type} (c:α->α->Int):Prop where
 zero:∀a b,c a b=0↔a=b
 flip:∀a b,c b a = -(c a b)
 trans:∀a b d,c a b < 0->c b d < 0->c a d < 0
section
variable {α:Type} {c:α->α->Int}
def Asc (c:α->α->Int) (l:List α):Prop:=l.Pairwise λa b=>c a b < 0
theorem jog (h:Law3 c):∀ {l m:List α},Asc c l->Asc c m->(∀x,x∈l↔x∈m)->l=m
 | [],[],_,_,_=>rfl
 | [],b::m,_,_,hx=>absurd ((hx b).2 (by simp)) (by simp)
 | a::l,[],_,_,hx=>absurd ((hx a).1 (by simp)) (by simp)
 | a::l,b::m,h1,h2,hx=>by
  obtain ⟨g1,g2⟩:=qi.1 h1;obtain ⟨k1,k2⟩:=qi.1 h2;have hab:a=b:=by
   rcases kW.1 ((hx a).1 (by simp)) with e|e
   .exact e
   rcases kW.1 ((hx b).2 (by simp)) with e'|e'
   .exact e'.symm
   .have q1:=k1 a e;have q2:=g1 b e';have q3:=h.flip a b;omega
  subst hab;have:l=m:=jog h g2 k2 λx=>by
   constructor
   .intro hxl;rcases kW.1 ((hx x).1 (by simp [hxl])) with e|e
    .have:=g1 x hxl;rw [e,(h.zero a a).2 rfl] at this;omega
    .exact e
   .intro hxm;rcases kW.1 ((hx x).2 (by simp [hxm])) with e|e
    .have:=k1 x hxm;rw [e,(h.zero a a).2 rfl] at this;omega
    .exact e
  rw [this]
def jfv (eq:α->α->Bool):List α->List α
 | []=>[]
 | a::l=>(match jfv eq l with | []=>[a]|b::m=>if eq a b then b::m else a::b::m)
theorem jlT (h:Law3 c) {eq:α->α->Bool} (he:∀a b,eq a b=true↔a=b):∀ {l:List α},l.Pairwise (λa b=>¬c b a < 0)->Asc c (jfv eq l)/\ ∀x,x∈jfv eq l↔x∈l
 | [],_=>⟨List.Pairwise.nil,λx=>Iff.rfl⟩
 | a::l,hp=>by
  obtain ⟨g1,g2⟩:=qi.1 hp;obtain ⟨k1,k2⟩:=jlT h he g2;rw [jfv];cases hc:jfv eq l with
  | nil=>
   rw [hc] at k2;refine ⟨by unfold Asc;simp,λx=> ?_⟩;show x ∈ [a]↔_;constructor
   .intro hx;simp only [kG] at hx;simp [hx]
   .intro hx;rcases kW.1 hx with e|e
    .simp [e]
    .exact absurd ((k2 x).2 e) (by simp)
  | cons b m=>
   rw [hc] at k1 k2;have hbl:b∈l:=(k2 b).1 (by simp);by_cases hab:a=b
   .show Asc c (if eq a b then b::m else a::b::m)/\_;have he':=(he a b).2 hab;have e2:(if eq a b then b::m else a::b::m)=b::m:=jp he';refine ⟨by rw [e2];exact k1,λx=> ?_⟩;show x∈(if eq a b then b::m else a::b::m)↔_;rw [e2,k2,kW];constructor
    .exact Or.inr
    .rintro (e|e)
     .rw [e,hab];exact hbl
     .exact e
   .have he':¬eq a b=true:=λe=>hab ((he a b).1 e);have e2:(if eq a b then b::m else a::b::m)=a::b::m:=jq he';have hlt:c a b < 0:=by
     have q1:=g1 b hbl;have q2:=h.flip a b;have q3:c a b≠0:=λe=>hab ((h.zero a b).1 e);omega
    refine ⟨?_,λx=> ?_⟩
    .show Asc c (if eq a b then b::m else a::b::m);rw [e2];refine qi.2 ⟨λx hx=> ?_,k1⟩;rcases kW.1 hx with e|e
     .rw [e];exact hlt
     .exact h.trans a b x hlt ((qi.1 k1).1 x e)
    .show x∈(if eq a b then b::m else a::b::m)↔_;rw [e2,kW,k2,kW]
theorem jeq {p:α->Bool} :∀ {l:List α} {a:α},a∈l.takeWhile p->p a=true
 | x::l,a,h=>by
  by_cases hx:p x=true
  .rw [jpq hx] at h;rcases kW.1 h with e|e
   .rw [e];exact hx
   .exact jeq e
  .rw [jsr hx] at h;cases h
def jcr (c:α->α->Int) (l:List α) (x:α):List α:=if (l.dropWhile λa=>decide (c a x < 0)).head?.any (λb=>decide (c b x=0)) then l else l.takeWhile (λa=>decide (c a x < 0))++x::l.dropWhile λa=>decide (c a x < 0)
theorem jjA (h:Law3 c) {l:List α} (hl:Asc c l) (x:α):Asc c (jcr c l x)/\ ∀y,y∈jcr c l x↔y∈l\/y=x:=by
 have e:=jk6 (p:=λa=>decide (c a x < 0)) (l:=l);have ht:∀a∈l.takeWhile (λa=>decide (c a x < 0)),c a x < 0:=λa ha=>ja7 (jeq (p:=λa=>decide (c a x < 0)) ha);unfold jcr;generalize l.takeWhile (λa=>decide (c a x < 0))=t at *;cases hd:l.dropWhile (λa=>decide (c a x < 0)) with
 | nil=>
  rw [hd,JD] at e;subst e;rw [jq (by simp)];refine ⟨?_,λy=>by simp⟩;refine jhl.2 ⟨hl,by simp,λa ha b hb=> ?_⟩;simp only [kG] at hb;rw [hb];exact ht a ha
 | cons b m=>
  have hb:¬c b x < 0:=by
   intro hb;have:=List.head?_dropWhile_not (p:=λa=>decide (c a x < 0)) l;rw [hd] at this;simp [hb] at this
  rw [hd] at e;by_cases h0:c b x=0
  .rw [jp (by simp [h0])];refine ⟨hl,λy=>⟨Or.inl,λhy=> ?_⟩⟩;rcases hy with hy|hy
   .exact hy
   .rw [hy,<-(h.zero b x).1 h0,<-e];simp
  .rw [jq (by simp [h0])];rw [<-e] at hl;obtain ⟨p1,p2,p3⟩:=jhl.1 hl;have hxb:c x b < 0:=by have:=h.flip b x;omega
   refine ⟨jhl.2 ⟨p1,qi.2 ⟨λy hy=> ?_,p2⟩,λa ha y hy=> ?_⟩,λy=> ?_⟩
   .rcases kW.1 hy with e'|e'
    .rw [e'];exact hxb
    .exact h.trans x b y hxb ((qi.1 p2).1 y e')
   .rcases kW.1 hy with e'|e'
    .rw [e'];exact ht a ha
    .exact p3 a ha y e'
   .rw [<-e];simp only [kM,kW];constructor
    .rintro (h|h|h|h)
     .exact Or.inl (Or.inl h)
     .exact Or.inr h
     .exact Or.inl (Or.inr (Or.inl h))
     .exact Or.inl (Or.inr (Or.inr h))
    .rintro ((h|h|h)|h)
     .exact Or.inl h
     .exact Or.inr (Or.inr (Or.inl h))
     .exact Or.inr (Or.inr (Or.inr h))
     .exact Or.inr (Or.inl h)
def qb (c:α->α->Int) (l:List α):List α:=l.foldl (jcr c) []
theorem jdT (h:Law3 c) (l:List α):Asc c (qb c l)/\ ∀y,y∈qb c l↔y∈l:=by
 have key:∀(l m:List α),Asc c m->Asc c (l.foldl (jcr c) m)/\ ∀y,y∈l.foldl (jcr c) m↔y∈m\/y∈l:=by
  intro l;induction l with
  | nil=>intro m hm;exact ⟨hm,λy=>by simp⟩
  | cons x l ih=>
   intro m hm;obtain ⟨g1,g2⟩:=jjA h hm x;obtain ⟨k1,k2⟩:=ih _ g1;refine ⟨k1,λy=> ?_⟩;rw [K6,k2,g2,kW,Ya]
 obtain ⟨g1,g2⟩:=key l [] List.Pairwise.nil;exact ⟨g1,λy=>by rw [qb,g2];simp⟩
theorem jBJ (h:Law3 c) {eq:α->α->Bool} (he:∀a b,eq a b=true↔a=b) {l s:List α} (hs:s.Pairwise λa b=>¬c b a < 0) (hm:∀x,x∈s↔x∈l):jfv eq s=qb c l:=by
 obtain ⟨g1,g2⟩:=jlT h he hs;obtain ⟨k1,k2⟩:=jdT h l;exact jog h g1 k1 λx=>by rw [g2,k2,hm]
end
theorem jEB {α β γ:Type} {f:γ->α} {g:γ->β} {c:α->α->Int} {d:β->β->Int} (hc:Law3 c) (hd:Law3 d) (hi:∀x y,f x=f y->g x=g y->x=y):Law3 λx y:γ=>if c (f x) (f y)≠0 then c (f x) (f y) else d (g x) (g y):=by
 refine ⟨λa b=> ?_,λa b=> ?_,λa b e=> ?_⟩
 .show (if c (f a) (f b)≠0 then c (f a) (f b) else d (g a) (g b))=0↔_;by_cases h:c (f a) (f b)=0
  .rw [jq (λh'=>h' h),hd.zero];exact ⟨λh2=>hi a b ((hc.zero _ _).1 h) h2,λh2=>by rw [h2]⟩
  .rw [jp h];exact ⟨λh2=>absurd h2 h,λh2=>by rw [h2] at h;exact absurd ((hc.zero _ _).2 rfl) h⟩
 .show (if c (f b) (f a)≠0 then c (f b) (f a) else d (g b) (g a)) = -(if c (f a) (f b)≠0 then c (f a) (f b) else d (g a) (g b));rw [hc.flip (f a) (f b),hd.flip (g a) (g b)];by_cases h:c (f a) (f b)=0
  .rw [jq (by omega),jq (by omega)]
  .rw [jp (by omega),jp (by omega)]
 .show (if c (f a) (f b)≠0 then c (f a) (f b) else d (g a) (g b)) < 0->(if c (f b) (f e)≠0 then c (f b) (f e) else d (g b) (g e)) < 0->(if c (f a) (f e)≠0 then c (f a) (f e) else d (g a) (g e)) < 0;by_cases h1:c (f a) (f b)=0
  .have e1:=(hc.zero _ _).1 h1;rw [jq (λh'=>h' h1),e1];by_cases h2:c (f b) (f e)=0
   .rw [jq (λh'=>h' h2),jq (λh'=>h' h2)];exact hd.trans _ _ _
   .rw [jp h2,jp h2];exact λ_ h=>h
  .rw [jp h1];by_cases h2:c (f b) (f e)=0
   .have e2:=(hc.zero _ _).1 h2;rw [jq (λh'=>h' h2),<-e2,jp h1];exact λh _=>h
   .rw [jp h2];intro h3 h4;have:=hc.trans _ _ _ h3 h4;rw [jp (by omega)];exact this
def zE (x y:List UInt8):Int:=if yT x y then -1 else if x=y then 0 else 1
theorem ZD:Law3 zE:=by
 have irr:=jbT;have asy:∀x y,yT x y=true->yT y x=true->False:=λx y h1 h2=>by
  rw [Qa,kK] at h1 h2;exact absurd (jhm h1 h2) (jhn _)
 have tot:∀x y,x=y\/yT x y=true\/yT y x=true:=λx y=>by
  rw [Qa,Qa,kK,kK];rcases Classical.em (x < y) with h|h
  .exact Or.inr (Or.inl h)
  rcases Classical.em (y < x) with h'|h'
  .exact Or.inr (Or.inr h')
  .exact Or.inl (List.le_antisymm (List.not_lt.1 h') (List.not_lt.1 h))
 have tr:∀x y z,yT x y=true->yT y z=true->yT x z=true:=λx y z h1 h2=>by
  rw [Qa,kK] at *;exact jhm h1 h2
 have neg:∀x y,zE x y < 0↔yT x y=true:=λx y=>by
  unfold zE;cases h:yT x y with
  | true=>simp
  | false=>
   rw [jq kx];split<;>simp
 refine ⟨λa b=> ?_,λa b=> ?_,λa b d h1 h2=>(neg _ _).2 (tr _ _ _ ((neg _ _).1 h1) ((neg _ _).1 h2))⟩
 .unfold zE;cases h:yT a b with
  | true=>rw [jp rfl];exact ⟨λh'=>by omega,λe=>by rw [e,irr] at h;cases h⟩
  | false=>
   rw [jq kx];by_cases e:a=b
   .rw [jp e];exact ⟨λ_=>e,λ_=>rfl⟩
   .rw [jq e];exact ⟨λh'=>by omega,λh'=>absurd h' e⟩
 .unfold zE;rcases tot a b with e|e|e
  .subst e;rw [irr,jq kx,jp rfl];rfl
  .have h2:yT b a=false:=by
    cases h:yT b a with
    | false=>rfl
    | true=>exact (asy _ _ e h).elim
   have hne:¬b=a:=λh=>by rw [h,irr] at e;cases e
   rw [e,h2,jq kx,jq hne,jp rfl];rfl
  .have h2:yT a b=false:=by
    cases h:yT a b with
    | false=>rfl
    | true=>exact (asy _ _ e h).elim
   have hne:¬a=b:=λh=>by rw [h,irr] at e;cases e
   rw [e,h2,jq kx,jq hne,jp rfl]
def zF (x y:Nat):Int:=if x < y then -1 else if y < x then 1 else 0
theorem jcT:Law3 zF:=by
 refine ⟨λa b=> ?_,λa b=> ?_,λa b d=> ?_⟩<;>unfold zF
 .split
  .omega
  .split<;>omega
 .split<;>split<;>(try split)<;>omega
 .intro h1 h2;by_cases h:a < b
  .by_cases h3:b < d
   .rw [jp (by omega)];omega
   .rw [jq h3] at h2;split at h2<;>omega
  .rw [jq h] at h1;split at h1<;>omega
def vF (n:List UInt8):Nat:=if ju n then 0 else 1
abbrev Key:=Nat × (List UInt8 × Nat)
def cK (x y:Key):Int:=if zF x.1 y.1≠0 then zF x.1 y.1 else if zE x.2.1 y.2.1≠0 then zE x.2.1 y.2.1 else zF x.2.2 y.2.2
theorem jbu:Law3 cK:=by
 have h2:Law3 λx y:List UInt8 × Nat=>if zE x.1 y.1≠0 then zE x.1 y.1 else zF x.2 y.2:=jEB (f:=Prod.fst) (g:=Prod.snd) ZD jcT λx y h1 h2=>Prod.ext h1 h2;exact jEB (f:=Prod.fst) (g:=Prod.snd) jcT h2 λx y h1 h2=>Prod.ext h1 h2
def qB (t:T):Key:=(vF t.name,(t.name,t.args.length))
mutual
def qk (a b:T):Int:=
 match a with
 | .mk n us=>if cK (qB (.mk n us)) (qB b)≠0 then cK (qB (.mk n us)) (qB b) else yF us b.args
termination_by structural a
def yF (xs bs:List T):Int:=
 match xs with
 | []=>0
 | a::xs=>(match bs with | []=>0|b::bs=>if qk a b≠0 then qk a b else yF xs bs)
termination_by structural xs
end
theorem QA (a b:T):qk a b=if cK (qB a) (qB b)≠0 then cK (qB a) (qB b) else yF a.args b.args:=by cases a;rfl
theorem jjI {a b:T} (h:qB a=qB b):a.name=b.name/\a.args.length=b.args.length:=by
 unfold qB at h;simp only [Kz] at h;exact h.2
theorem jFk {a b:T} (h1:a.name=b.name) (h2:a.args=b.args):a=b:=by
 cases a;cases b;simp only [T.name,T.args] at h1 h2;rw [h1,h2]
theorem jDt:∀ {xs bs:List T},(∀u∈xs,∀v,qk u v=0↔u=v)->xs.length=bs.length->(yF xs bs=0↔xs=bs)
 | [],[],_,_=>by simp [yF]
 | [],_::_,_,h=>by cases h
 | _::_,[],_,h=>by cases h
 | a::xs,b::bs,h,hl=>by
  rw [yF];have ih:=jDt (xs:=xs) (bs:=bs) (λu hu=>h u (by simp [hu])) (Nat.succ.inj hl);by_cases h0:qk a b=0
  .rw [jq (λh'=>h' h0),ih,(h a (by simp) b).1 h0];simp
  .rw [jp h0];exact ⟨λh'=>absurd h' h0,λe=>by rw [ZS] at e;exact (h a (by simp) b).2 e.1⟩
theorem jCL:∀ {xs bs:List T},(∀u∈xs,∀v,qk v u = -(qk u v))->xs.length=bs.length->yF bs xs = -(yF xs bs)
 | [],[],_,_=>by simp [yF]
 | [],_::_,_,h=>by cases h
 | _::_,[],_,h=>by cases h
 | a::xs,b::bs,h,hl=>by
  rw [yF,yF,h a (by simp) b,jCL (xs:=xs) (bs:=bs) (λu hu=>h u (by simp [hu])) (Nat.succ.inj hl)];by_cases h0:qk a b=0
  .rw [jq (by omega),jq (by omega)]
  .rw [jp (by omega),jp (by omega)]
theorem jAQ (z:∀u v:T,qk u v=0↔u=v):∀ {xs bs ds:List T},(∀u∈xs,∀v w,qk u v < 0->qk v w < 0->qk u w < 0)->xs.length=bs.length->bs.length=ds.length->yF xs bs < 0->yF bs ds < 0->yF xs ds < 0
 | [],_,_,_,_,_,h1,_=>by simp [yF] at h1
 | a::xs,[],_,_,h,_,_,_=>by cases h
 | a::xs,b::bs,[],_,_,h,_,_=>by cases h
 | a::xs,b::bs,d::ds,h,hl,hl2,h1,h2=>by
  rw [yF] at h1 h2 ⊢;by_cases c1:qk a b=0
  .have e1:=(z a b).1 c1;rw [jq (λh'=>h' c1)] at h1;rw [e1];by_cases c2:qk b d=0
   .rw [jq (λh'=>h' c2)] at h2;rw [jq (λh'=>h' c2)];exact jAQ z (λu hu=>h u (by simp [hu])) (Nat.succ.inj hl) (Nat.succ.inj hl2) h1 h2
   .rw [jp c2] at h2;rw [jp c2];exact h2
  .rw [jp c1] at h1;by_cases c2:qk b d=0
   .rw [<-(z b d).1 c2,jp c1];exact h1
   .rw [jp c2] at h2;have:=h a (by simp) b d h1 h2;rw [jp (by omega)];exact this
theorem jxC:Law3 qk:=by
 have z:∀a b:T,qk a b=0↔a=b:=by
  refine T.ind λa ih b=> ?_;rw [QA];by_cases h:cK (qB a) (qB b)=0
  .have hk:=(jbu.zero _ _).1 h;obtain ⟨h1,h2⟩:=jjI hk;rw [jq (λh'=>h' h),jDt ih h2];exact ⟨λe=>jFk h1 e,λe=>by rw [e]⟩
  .rw [jp h];exact ⟨λh'=>absurd h' h,λe=>by rw [e] at h;exact absurd ((jbu.zero _ _).2 rfl) h⟩
 refine ⟨z,?_,?_⟩
 .refine T.ind λa ih b=> ?_;rw [QA,QA a b,jbu.flip (qB a) (qB b)];by_cases h:cK (qB a) (qB b)=0
  .obtain ⟨_,h2⟩:=jjI ((jbu.zero _ _).1 h);rw [jq (by omega),jq (by omega),jCL ih h2]
  .rw [jp (by omega),jp (by omega)]
 .refine T.ind λa ih b d h1 h2=> ?_;rw [QA] at h1 h2 ⊢;by_cases c1:cK (qB a) (qB b)=0
  .have e1:=(jbu.zero _ _).1 c1;rw [jq (λh'=>h' c1)] at h1;rw [e1];by_cases c2:cK (qB b) (qB d)=0
   .have e2:=(jbu.zero _ _).1 c2;rw [jq (λh'=>h' c2)] at h2;rw [jq (λh'=>h' c2)];exact jAQ z ih (jjI e1).2 (jjI e2).2 h1 h2
   .rw [jp c2] at h2;rw [jp c2];exact h2
  .rw [jp c1] at h1;by_cases c2:cK (qB b) (qB d)=0
   .rw [<-(jbu.zero _ _).1 c2,jp c1];exact h1
   .rw [jp c2] at h2;have:=jbu.trans _ _ _ h1 h2;rw [jp (by omega)];exact this
def upN:List UInt8->Bool
 | []=>false
 | c::_=>upc c
mutual
def val (M:List UInt8->List Int->Int) (e:List UInt8->Int):T->Int
 | .mk n us=>if us.isEmpty && upN n then e n else M n (jJT M e us)
def jJT (M:List UInt8->List Int->Int) (e:List UInt8->Int):List T->List Int
 | []=>[]
 | t::ts=>val M e t::jJT M e ts
end
section
variable {M:List UInt8->List Int->Int}
def Ext (m m':jz):Prop:=∀x r,look m x=some r->look m' x=some r
theorem Ext.refl (m:jz):Ext m m:=λ_ _ h=>h
theorem Ext.trans {a b c:jz} (h:Ext a b) (h':Ext b c):Ext a c:=λx r hx=>h' x r (h x r hx)
variable {jeE:Int->Prop}
def jOz (M:List UInt8->List Int->Int) (jeE:Int->Prop) (rs:List T):Prop:=∀r∈rs,∀e:List UInt8->Int,(∀x,jeE (e x))->val M e (jag r)=val M e (jha r)
end
def dec (n:Nat):Nat->Nat->List Nat
 | 0,_=>[]
 | l+1,k=>k % n::dec n l (k / n)
def enc (n:Nat):List Nat->Nat
 | []=>0
 | v::vs=>v+n * enc n vs
def vnA (l:List (List UInt8)) (n:List UInt8):List (List UInt8):=if l.contains n then l else l++[n]
mutual
def vn (l:List (List UInt8)):T->List (List UInt8)
 | .mk n us=>if us.isEmpty && upN n then vnA l n else vnL l us
def vnL (l:List (List UInt8)):List T->List (List UInt8)
 | []=>l
 | t::ts=>vnL (vn l t) ts
end
def VIn (S:List (List UInt8)) (t:T):Prop:=∀x∈kT t,x∈S
abbrev Lt:=Bool × T
def fl (b:Bool):Nat:=if b then 1 else 0
def cmpL (a b:Lt):Int:=if qk a.2 b.2≠0 then qk a.2 b.2 else zF (fl a.1) (fl b.1)
theorem KH:Law3 cmpL:=jEB (f:=Prod.snd) (g:=λl:Lt=>fl l.1) jxC jcT λx y h1 h2=>by
 obtain ⟨p,t⟩:=x;obtain ⟨q,u⟩:=y;have h1:t=u:=h1;have h2:fl p=fl q:=h2;subst h1;cases p<;>cases q<;>first|rfl|(simp [fl] at h2)
abbrev zg:=List Lt
def jpO:zg->Bool
 | a::b::l=>decide (cmpL a b < 0) && jpO (b::l)
 | _=>true
theorem jpP:∀c:zg,jpO c=true↔Asc cmpL c
 | []=>by simp [jpO,Asc]
 | [a]=>by simp [jpO,Asc]
 | a::b::l=>by
  rw [jpO,jy,kK,jpP (b::l)];unfold Asc;constructor
  .rintro ⟨h1,h2⟩;refine qi.2 ⟨λx hx=> ?_,h2⟩;rcases kW.1 hx with e|e
   .rw [e];exact h1
   .exact KH.trans a b x h1 ((qi.1 h2).1 x e)
  .intro h;exact ⟨(qi.1 h).1 b (by simp),(qi.1 h).2⟩
mutual
def Z3 (l:List (List UInt8)):T->List (List UInt8)
 | .mk n us=>if ju n then vnA l n else jdg l us
def jdg (l:List (List UInt8)):List T->List (List UInt8)
 | []=>l
 | t::ts=>jdg (Z3 l t) ts
end
theorem joW (l:List (List UInt8)) (t:T):Z3 l t=if ju t.name then vnA l t.name else jdg l t.args:=by cases t;rfl
def zi (c:zg):List (List UInt8):=c.foldl (λl x=>Z3 l x.2) []
def J1 (p:UInt8) (i:Nat):List UInt8:=p::Lib.decDigits i
def KM (c:zg):Bool:=decide (zi c=(List.range (zi c).length).map (J1 88))
mutual
def zv (f:List UInt8->List UInt8):T->T
 | .mk n us=>if ju n then .mk (f n) [] else .mk n (Z5 f us)
def Z5 (f:List UInt8->List UInt8):List T->List T
 | []=>[]
 | t::ts=>zv f t::Z5 f ts
end
theorem jrG (f:List UInt8->List UInt8):∀ts:List T,Z5 f ts=ts.map (zv f)
 | []=>rfl
 | t::ts=>by rw [Z5,jrG f ts,kV]
theorem jbP (f:List UInt8->List UInt8) (t:T):zv f t=if ju t.name then .mk (f t.name) [] else .mk t.name (t.args.map (zv f)):=by
 cases t;rw [zv,jrG];rfl
def zx (p:UInt8) (l:List (List UInt8)) (n:List UInt8):List UInt8:=match l.findIdx? (λx=>decide (x=n)) with|some i=>J1 p i|none=>n
def renC (p:UInt8) (c:zg):zg:=qb cmpL (c.map λl=>(l.1,zv (zx p (zi c)) l.2))
def normF:Nat->zg->zg
 | 0,c=>c
 | k+1,c=>if KM c then c else normF k (renC 88 c)
def normC (c:zg):zg:=normF 10 c
theorem yM (t:T) (h:yH t=true\/t.name = [61]):G 195 [tm t]=some (vb (ju t.name),[]):=by
 rcases h with h|h
 .exact YT t h
 .have e1:=jeH 61;have hx:yB (sv t.name) (vi 0)=some (vy ((61:UInt8).toNat:Int)):=by rw [h];exact Jf
  have hv:ju t.name=upc 61:=by rw [h];decide
  rw [jFJ,hv];simp only [jd,hx,e1]
theorem jbx (x y:List UInt8):zE x y=if yT x y then -1 else if yT y x then 1 else 0:=by
 have hf:=ZD.flip x y;cases h1:yT x y with
 | true=>unfold zE;rw [h1];rfl
 | false=>
  rw [jq kx];cases h2:yT y x with
  | true=>
   have:zE y x = -1:=by unfold zE;rw [h2,jp rfl]
   rw [jp rfl];omega
  | false=>
   rw [jq kx];have a1:zE x y=0\/zE x y=1:=by
    unfold zE;rw [h1,jq kx];split<;>simp
   have a2:zE y x=0\/zE y x=1:=by
    unfold zE;rw [h2,jq kx];split<;>simp
   omega
theorem jg1 (b:Bool) (x y:List UInt8):jr .gtr b (sv x) (sv y)=some (vb (yT y x)):=by
 show some (vb (!(yT x y || decide (x=y))))=_;by_cases e:x=y
 .subst e;rw [jbT,jW rfl];rfl
 have h1:=jbx x y;have h3:=ZD.flip x y;have h4:=jbx y x;rw [kA e,jb5];cases a:yT x y<;>cases c:yT y x<;>rw [a,c] at h1 h4
 .exact absurd ((ZD.zero x y).1 h1) e
 .rfl
 .rfl
 .have h1:zE x y = -1:=h1;have h4:zE y x = -1:=h4;omega
theorem jcV (x y:List UInt8):G 273 [sv x,sv y]=some (vi (zE x y),[]):=by
 have n1:G 307 [sv x]=some (vb false,[]):=by rw [jFT];simp only [jd]
 have n2:G 307 [sv y]=some (vb false,[]):=by rw [jFT];simp only [jd]
 rw [jMh,jbx];cases h1:yT x y<;>cases h2:yT y x<;>simp only [jd,n1,n2,jg1,h1,h2]
theorem jhH (x y:Nat):G 231 [vi (x:Nat),vi (y:Nat)]=some (vi (zF x y),[]):=by
 have n1:G 121 [vi (x:Nat)]=some (vb false,[]):=by rw [jEl];simp only [jd]
 have n2:G 121 [vi (y:Nat)]=some (vb false,[]):=by rw [jEl];simp only [jd]
 rw [jLO];unfold zF;by_cases h1:x < y
 .have h1':((x:Nat):Int) < ((y:Nat):Int):=by omega
  rw [jp h1];simp only [jd,n1,n2,h1']
 .have h1':¬((x:Nat):Int) < ((y:Nat):Int):=by omega
  rw [jq h1];by_cases h2:y < x
  .have h2':((y:Nat):Int) < ((x:Nat):Int):=by omega
   rw [jp h2];simp only [jd,n1,n2,h1',h2']
  .have h2':¬((y:Nat):Int) < ((x:Nat):Int):=by omega
   rw [jq h2];simp only [jd,n1,n2,h1',h2']
theorem jz0 (a b:Int):G 229 [.sl 1 [[vi a],[vi b]]]=some (vi (if a≠0 then a else b),[]):=by
 have i0:jg 1 (.sl 1 [[vi a],[vi b]]) (vi 0)=some (.elt [vi a] 0):=rfl;have i1:jg 1 (.sl 1 [[vi a],[vi b]]) (vi 1)=some (.elt [vi b] 0):=rfl;have ll:kE (.sl 1 [[vi a],[vi b]])=some (vi 2):=rfl;have c0:jr .add false (vi 0) (vi 1)=some (vi 1):=by rw [KO,jZ (by decide) (by decide)];rfl
 have c1:jr .add false (vi 1) (vi 1)=some (vi 2):=by rw [KO,jZ (by decide) (by decide)];rfl
 have z0:(0:Int) < 2:=by decide
 have z1:(1:Int) < 2:=by decide
 have z2:¬(2:Int) < 2:=by decide
 generalize A.sl 1 [[vi a],[vi b]]=X at *;have k2:ji3 (vi 0) X (vi 2) (vi 2)=some (vi 0,[]):=by rw [jtf];simp only [jd,z2]
 have k1:ji3 (vi 0) X (vi 2) (vi 1)=some (vi b,[]):=by
  rw [jtf];by_cases hb:b=0
  .simp only [jd,z1,i1,hb,c1,k2]
  .simp only [jd,z1,i1,hb]
 rw [jLM];simp only [cev];rw [ll,yz,jtf];by_cases ha:a=0
 .rw [jq (λh=>h ha)];simp only [jd,z0,i0,ha,c0,k1]
 .rw [jp ha];simp only [jd,z0,i0,ha]
end Go.Proofs.YtoaifmomhaneiaaGreatDoor
