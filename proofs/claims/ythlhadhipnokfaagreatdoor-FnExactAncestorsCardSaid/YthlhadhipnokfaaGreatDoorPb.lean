/- Pb -/
import Derived.Test.YthlhadhipnokfaaGreatDoorPa
import Derived.Test.YthlhadhipnokfaaGreatDoorPq
import Derived.Sort.Walk0
import Derived.Lib.ItoaNum
namespace Go.Proofs.YthlhadhipnokfaaGreatDoor
open Go Go.RowKit Go.Proofs.YthlhadhipnokfaaGreatDoor.Abs
set_option linter.unusedSimpArgs false
set_option linter.unusedVariables false
set_option maxHeartbeats 1000000
abbrev jgn:=List (Xb×T)
mutual
noncomputable def mt(m:jgn)(p:T)(t:T):Option jgn:=
 match p with
 |.mk n us=>if jgk n then(match look m n with|some r=>if dq r t then some m else none|none=>some (m++[(n,t)]))
   else if n=t.name/\us.length=t.args.length then mtL m us t.args else none
termination_by structural p
noncomputable def mtL(m:jgn)(ps:Xg)(ts:Xg):Option jgn:=
 match ps with
 | []=>some m
 |u::us=>(match ts with| []=>some m|t::ts=>(mt m u t).bind λm'=>mtL m' us ts)
termination_by structural ps
end
theorem jnm{m:jgn}{p t:T}(h:jgk p.name=true):mt m p t=(match look m p.name with|some r=>if dq r t then some m else none|none=>some (m++[(p.name,t)])):=by
 obtain⟨n,us⟩:=p;have h:jgk n=true:=h;simp only[mt,h,jer,T.name]
theorem jnl{m:jgn}{p t:T}(h:jgk p.name=false):mt m p t=if p.name=t.name/\p.args.length=t.args.length then mtL m p.args t.args else none:=by
 obtain⟨n,us⟩:=p;have h:jgk n=false:=h;simp only[mt,h,jfB,if_false];rfl
theorem jma:∀(u v:jgn)(n:Xb),look (u++v) n=(match look u n with|some r=>some r|none=>look v n)
 | [],v,n=>rfl
 |p::u,v,n=>by
  rw[jf0,look,look];by_cases h:p.1=n
  .rw [jbZ h,jbZ h]
  .rw [ja0 h,ja0 h];exact jma u v n
theorem jix{u:jgn}{n:Xb} :look u n=none↔ ∀p∈u,p.1≠n:=by
 induction u with
 |nil=>simp[look]
 |cons p u ih=>
  rw[look];by_cases h:p.1=n
  .rw [jbZ h];simp[h]
  .rw [ja0 h,ih];simp[h]
theorem jiw:∀{u:jgn}{n:Xb}{r:T},look u n=some r->(n,r)∈u
 |p::u,n,r,h=>by
  rw[look]at h;by_cases e:p.1=n
  .rw [jbZ e]at h;cases h;rw[<-e];simp
  .rw [ja0 e]at h;exact List.mem_cons_of_mem _ (jiw h)
def MOk(p:T->Prop)(m:jgn):Prop:=(m.map Prod.fst).Nodup/\(∀q∈m,jgk q.1=true/\p q.2)
theorem MOk.nil(p:T->Prop):MOk p []:=⟨by simp,λq h=>by cases h⟩
theorem MOk.push{p:T->Prop}{m:jgn}(h:MOk p m){n:Xb}{t:T}(hn:jgk n=true)(ht:p t)(hl:look m n=none):MOk p (m++[(n,t)]):=by
 refine⟨?_,λq hq=>?_⟩
 .rw [List.map_append,jfq];refine⟨h.1,by simp,λa ha b hb=>?_⟩;simp only[jd1,List.map_nil,jdC]at hb;subst hb;obtain⟨q,hq,rfl⟩:=jfx.1 ha;exact jix.1 hl q hq
 .rcases jeO.1 hq with hq|hq
  .exact h.2 q hq
  .simp only[jdC]at hq;subst hq;exact⟨hn,ht⟩
theorem jbw{p:T->Prop}(hp:∀t,p t-> ∀u∈t.args,p u):∀(a:T){m m':jgn}{t:T},MOk p m->p t->mt m a t=some m'->MOk p m':=by
 refine T.ind (p:=λa=>∀{m m':jgn}{t:T},MOk p m->p t->mt m a t=some m'->MOk p m') λa ih=>?_;intro m m' t hm ht h;cases hv:jgk a.name with
 |true=>
  rw[jnm hv]at h;split at h
  .split at h
   .cases h;exact hm
   .cases h
  .rename_i hl;cases h;exact hm.push hv ht hl
 |false=>
  rw[jnl hv]at h;split at h
  .have key:∀(us:Xg)(ts:Xg){m m':jgn},(∀u∈us,u∈a.args)->(∀u∈ts,p u)->MOk p m->mtL m us ts=some m'->MOk p m':=by
    intro us;induction us with
    |nil=>intro ts m m' _ _ hm h;simp only[mtL,jb4]at h;exact h ▸ hm
    |cons u us ih2=>
     intro ts m m' hu hts hm h;cases ts with
     |nil=>simp only[mtL,jb4]at h;exact h ▸ hm
     |cons s ts=>
      simp only[mtL]at h;obtain⟨m1,h1,h2⟩:=jcv.1 h;exact ih2 ts (λx hx=>hu x (by simp[hx])) (λx hx=>hts x (by simp[hx])) (ih u (hu u (by simp)) hm (hts s (by simp)) h1) h2
   exact key a.args t.args (λ_ h=>h) (hp t ht) hm h
  .cases h
def jj8(s:jgn)(n:Xb)(t:T):jgn:=s.takeWhile (λp=>sLt p.1 n)++(n,t)::s.dropWhile (λp=>sLt p.1 n)
def jiJ(s:jgn)(n:Xb)(t:T):jgn:=if t.name=n then s else jj8 s n t
def jiC(m:jgn):jgn:=m.foldl (λs p=>jiJ s p.1 p.2) []
theorem jlr(a:Xb):sLt a a=false:=by
 unfold sLt;cases h:Op.bytesLess a a with
 |false=>rfl
 |true=>
  exfalso;induction a with
  |nil=>simp[Op.bytesLess]at h
  |cons c r ih=>simp[Op.bytesLess]at h;exact ih h
theorem jzf(n:Xb)(t:T)(x:Xb):∀s:jgn,look (jj8 s n t) x=if n=x then some t else look s x:=by
 intro s;unfold jj8;induction s with
 |nil=>simp[look]
 |cons p s ih=>
  cases hl:sLt p.1 n with
  |true=>
   rw[List.takeWhile_cons_of_pos (p:=λp:Xb×T=>sLt p.1 n) hl,List.dropWhile_cons_of_pos (p:=λp:Xb×T=>sLt p.1 n) hl,jf0,look,ih,look];by_cases h1:p.1=x
   .rw [jbZ h1,jbZ h1];have:n≠x:=λe=>by rw[h1,<-e,jlr]at hl;cases hl
    rw[ja0 this]
   .rw [ja0 h1,ja0 h1]
  |false=>
   rw[List.takeWhile_cons_of_neg (p:=λp:Xb×T=>sLt p.1 n) (by simp[hl]),List.dropWhile_cons_of_neg (p:=λp:Xb×T=>sLt p.1 n) (by simp[hl]),jfw,look]
theorem jsa(s:jgn)(n:Xb)(t:T)(x:Xb):look (jiJ s n t) x=if n=x/\t.name≠x then some t else look s x:=by
 unfold jiJ;by_cases h:t.name=n
 .rw [jbZ h];by_cases h2:n=x
  .rw [ja0 (λh3=>h3.2 (h.trans h2))]
  .rw [ja0 (λh3=>h2 h3.1)]
 .rw [ja0 h,jzf];by_cases h2:n=x
  .rw [jbZ h2,jbZ ⟨h2,λe=>h (e.trans h2.symm)⟩]
  .rw [ja0 h2,ja0 (λh3=>h2 h3.1)]
theorem jqS(x:Xb):∀(m s:jgn),(m.map Prod.fst).Nodup->look (m.foldl (λs p=>jiJ s p.1 p.2) s) x=(match look m x with|some t=>if t.name=x then look s x else some t|none=>look s x)
 | [],s,_=>rfl
 |p::m,s,hn=>by
  rw[jd1,jfP]at hn;rw[List.foldl_cons,jqS x m _ hn.2,look];by_cases h:p.1=x
  .have:look m x=none:=jix.2 λq hq e=>hn.1 (by rw[h,<-e];exact List.mem_map_of_mem hq)
   rw[this,jbZ h];show look (jiJ s p.1 p.2) x=if p.2.name=x then look s x else some p.2;rw[jsa];by_cases h2:p.2.name=x
   .rw [jbZ h2,ja0 (λh3=>h3.2 h2)]
   .rw [ja0 h2,jbZ ⟨h,h2⟩]
  .rw [ja0 h];have e:look (jiJ s p.1 p.2) x=look s x:=by rw[jsa,ja0 (λh3=>h h3.1)]
   rw[e]
theorem jxA{m:jgn}(hm:MOk (λt=>okT t=true) m){x:Xb}(hx:jgk x=true):jid (jiC m) x=jid m x:=by
 unfold jid jiC;rw[jqS x m [] hm.1];cases h:look m x with
 |none=>rfl
 |some t=>
  show Option.getD (if t.name=x then look [] x else some t) _=t;by_cases h2:t.name=x
  .rw [jbZ h2];have hk:=(hm.2 _ (jiw h)).2;have ha:=jh7 hk (by rw[h2];exact hx);show T.mk x []=t;rw[<-h2,<-ha,T.eta]
  .rw [ja0 h2];rfl
theorem jzN{u v:jgn}(h:∀x,jgk x=true->jid u x=jid v x):∀t:T,sub u t=sub v t:=by
 refine T.ind λt ih=>?_;cases hv:jgk t.name with
 |true=>rw[jig hv,jig hv,h _ hv]
 |false=>rw[jhK hv,jhK hv,List.map_congr_left ih]
theorem jzO{m:jgn}(hm:MOk (λt=>okT t=true) m)(t:T):sub (jiC m) t=sub m t:=jzN (λ_ hx=>jxA hm hx) t
theorem jCC(n:Xb)(h:jgk n=true):okT (.mk n [])=true:=by rw[jht];show(if jgk n then _ else _)=true;rw[jbZ h];rfl
theorem jkc{u:jgn}(hu:∀q∈u,okT q.2=true):∀t:T,okT t=true->okT (sub u t)=true:=by
 refine T.ind λt ih hk=>?_;cases hv:jgk t.name with
 |true=>
  rw[jig hv,jid];cases h:look u t.name with
  |none=>exact jCC _ hv
  |some r=>exact hu _ (jiw h)
 |false=>
  have hk':=hk;rw[jht,hv,ja0 Bool.false_ne_true,jbX,jbX,jiH]at hk;rw[jht,job hv,hv,ja0 Bool.false_ne_true,jmm hv,jbX,jbX,jiH];refine⟨hk.1,by simpa using hk.2.1,?_⟩;rw[List.all_map,jfn];intro a ha;exact ih a ha (jfn.1 hk.2.2 a ha)
def ji6(r:T):T:=r.args.getD 0 (.mk [] [])
def jkC(r:T):T:=r.args.getD 1 (.mk [] [])
noncomputable def jif:Xg->T->Option T
 | [],_=>none
 |r::rs,t=>(match mt [] (ji6 r) t with|some m=>some (sub m (jkC r))|none=>jif rs t)
mutual
noncomputable def jj0(rs:Xg)(root:Bool):T->Option T
 |.mk n us=>(match ji7 rs us with|some us'=>some (.mk n us')|none=>if root then jif rs (.mk n us)else none)
noncomputable def ji7(rs:Xg):Xg->Option Xg
 | []=>none
 |t::ts=>(match jj0 rs true t with|some t'=>some (t'::ts)|none=>(ji7 rs ts).map (t::·))
end
theorem jlo(rs:Xg)(root:Bool)(t:T):jj0 rs root t=(match ji7 rs t.args with|some us=>some (.mk t.name us)|none=>if root then jif rs t else none):=by cases t;rfl
def atT:Xf->T->T
 | [],t=>t
 |i::p,t=>atT p (t.args.getD i (.mk [] []))
def jgM(s:T):Xf->T->T
 | [],_=>s
 |i::p,t=>.mk t.name (t.args.set i (jgM s p (t.args.getD i (.mk [] []))))
mutual
def jkS:T->List Xf
 |.mk _ us=>jkq 0 us++[[]]
def jkq(i:Nat):Xg->List Xf
 | []=>[]
 |t::ts=>(jkS t).map (i::·)++jkq (i+1) ts
end
theorem jvE(t:T):jkS t=jkq 0 t.args++[[]]:=by cases t;rfl
theorem jnS{α β γ:Type}(f:β->Option γ)(g:α->β):∀l:List α,(l.map g).findSome? f=l.findSome? (λa=>f (g a))
 | []=>rfl
 |a::l=>by rw[jd1,List.findSome?_cons,List.findSome?_cons,jnS f g l]
theorem jl2{α β:Type}{f g:α->Option β} :∀{l:List α},(∀a∈l,f a=g a)->l.findSome? f=l.findSome? g
 | [],_=>rfl
 |a::l,h=>by rw[List.findSome?_cons,List.findSome?_cons,h a (by simp),jl2 λb hb=>h b (by simp[hb])]
theorem jmV{α β γ:Type}(f:α->Option β)(g:β->γ):∀l:List α,l.findSome? (λa=>(f a).map g)=(l.findSome? f).map g
 | []=>rfl
 |a::l=>by
  rw[List.findSome?_cons,List.findSome?_cons];cases h:f a with
  |none=>exact jmV f g l
  |some b=>rfl
noncomputable def jkb(rs:Xg)(root:Bool)(t:T)(p:Xf):Option T:=if p=[]/\root=false then none else(jif rs (atT p t)).map λs=>jgM s p t
theorem jzl(rs:Xg):∀(t:T)(root:Bool),(jkS t).findSome? (jkb rs root t)=jj0 rs root t:=by
 refine T.ind λt ih root=>?_;have hL:∀(us:Xg)(i:Nat),(∀u∈us,u∈t.args)->t.args.drop i=us->(jkq i us).findSome? (jkb rs root t)=(ji7 rs us).map λus'=>.mk t.name (t.args.take i++us'):=by
  intro us;induction us with
  |nil=>intro i _ _;rfl
  |cons u us ih2=>
   intro i hu hd;have hi:i<t.args.length:=by
    rcases Nat.lt_or_ge i t.args.length with h|h
    .exact h
    .rw [List.drop_of_length_le h]at hd;cases hd
   have hui:t.args.getD i (.mk [] [])=u:=by
    rw[jcQ];have:=congrArg (λl=>l[0]?) hd;simp only[jfp,jfg,List.getElem?_cons_zero]at this;rw[this];rfl
   have hd2:t.args.drop (i+1)=us:=by
    have:=congrArg (λl=>l.drop 1) hd;simpa[List.drop_drop,Nat.add_comm]using this
   rw[jkq,List.findSome?_append,jnS,ji7];have e1:(jkS u).findSome? (λp=>jkb rs root t (i::p))=(jj0 rs true u).map λu'=>.mk t.name (t.args.set i u'):=by
    rw[<-ih u (hu u (by simp)) true,<-jmV];refine jl2 λp _=>?_;unfold jkb;rw[ja0 (by simp),ja0 (by simp),atT,hui];cases jif rs (atT p u)with
    |none=>rfl
    |some s=>show some (jgM s (i::p) t)=some (T.mk t.name (t.args.set i (jgM s p u)));rw[jgM,hui]
   rw[e1];cases ho:jj0 rs true u with
   |some u'=>
    show some (T.mk t.name (t.args.set i u'))=some (T.mk t.name (t.args.take i++u'::us));rw[List.set_eq_take_append_cons_drop,jbZ hi,hd2]
   |none=>
    show(jkq (i+1) us).findSome? (jkb rs root t)=_;rw[ih2 (i+1) (λx hx=>hu x (by simp[hx])) hd2];cases ji7 rs us with
    |none=>rfl
    |some us'=>
     show some (T.mk t.name (t.args.take (i+1)++us'))=some (T.mk t.name (t.args.take i++u::us'));have:t.args.take (i+1)=t.args.take i++[u]:=by
      rw[List.take_add_one];congr 1;have h0:t.args[i]? = some u:=by
       have:=congrArg (λl=>l[0]?) hd;simpa using this
      rw[h0];rfl
     rw[this,jet];rfl
 rw[jvE,List.findSome?_append,hL t.args 0 (λ_ h=>h) rfl,jlo];cases ji7 rs t.args with
 |some us=>rfl
 |none=>
  show([[]]:List Xf).findSome? (jkb rs root t)=(if root=true then jif rs t else none);rw[List.findSome?_cons];unfold jkb;cases root with
  |false=>rfl
  |true=>
   rw[ja0 (by simp),jbZ rfl];rw[atT];cases jif rs t<;>rfl
def jk6(rs:Xg):Prop:=∀r∈rs,okT (ji6 r)=true/\okT (jkC r)=true
theorem jvR{t:T}(ht:okT t=true):∀{rs:Xg}{u:T},jk6 rs->jif rs t=some u->okT u=true
 |r::rs,u,hr,h=>by
  rw[jif]at h;split at h
  .rename_i m hm;cases h;have hM:=jbw (p:=λt=>okT t=true) (λt ht u hu=>by
    cases hv:jgk t.name with
    |true=>rw[jh7 ht hv]at hu;cases hu
    |false=>
     rw[jht,hv,ja0 Bool.false_ne_true,jbX,jbX,jiH]at ht;exact jfn.1 ht.2.2 u hu) _ (MOk.nil _) ht hm
   exact jkc (λq hq=>(hM.2 q hq).2) _ (hr r (by simp)).2
  .exact jvR ht (λq hq=>hr q (by simp[hq])) h
theorem jln{rs:Xg} :∀{us us':Xg},ji7 rs us=some us'->us'.length=us.length/\ ∀p:T->Prop,(∀u∈us,p u)->(∀u∈us,∀u',jj0 rs true u=some u'->p u')-> ∀u∈us',p u
 |t::ts,us',h=>by
  rw[ji7]at h;split at h
  .rename_i t' ht;cases h;refine⟨by simp,λp h1 h2 u hu=>?_⟩;rcases ja1.1 hu with rfl|hu
   .exact h2 t (by simp) _ ht
   .exact h1 u (by simp[hu])
  .rw [jeq]at h;obtain⟨r,h3,rfl⟩:=h;obtain⟨g1,g2⟩:=jln h3;refine⟨by simp[g1],λp h1 h2 u hu=>?_⟩;rcases ja1.1 hu with rfl|hu
   .exact h1 _ (by simp)
   .exact g2 p (λu hu=>h1 u (by simp[hu])) (λu hu=>h2 u (by simp[hu])) u hu
theorem jyz{rs:Xg}(hr:jk6 rs):∀(t:T){u:T},okT t=true->jj0 rs true t=some u->okT u=true:=by
 refine T.ind (p:=λt=>∀{u:T},okT t=true->jj0 rs true t=some u->okT u=true) λt ih=>?_;intro u ht h;rw[jlo]at h;split at h
 .rename_i us ho;cases h;obtain⟨g1,g2⟩:=jln ho;cases hv:jgk t.name with
  |true=>
   rw[jh7 ht hv]at ho;cases ho
  |false=>
   have ha:=jgQ ht;rw[jht,hv,ja0 Bool.false_ne_true,jbX,jbX]at ht;rw[jht];show(if jgk t.name then _ else jhO t.name && (decide (us.length<=4) && jqZ us))=true;rw[hv,ja0 Bool.false_ne_true,jbX,jbX,g1,jiH,jfn];exact⟨ht.1,ht.2.1,g2 _ ha λu hu u' hu'=>ih u hu (ha u hu) hu'⟩
 .exact jvR ht hr h
noncomputable def rwN(rs:Xg)(root:Bool):Nat->Nat->T->Option (T×Nat)
 |0,_,_=>none
 |k+1,n,t=>(match jj0 rs root t with
  |none=>some (t,n)
  |some u=>if k=0\/jgr u=false then none else rwN rs root k (n+1) u)
theorem jlf(ts:Xg)(hl:ts.length<=1048576)(ih:∀t∈ts,G 138 [tm t]=some (tm t,[])):jsC (tms ts)=some (.top,[tms ts]):=by
 rw[jFX];by_cases h0:ts.length=0
 .have:ts=[]:=List.length_eq_zero_iff.1 h0;subst this;simp only[evz,Int.natCast_zero];rfl
 have hz:¬((ts.length:Nat):Int)=0:=by omega
 have hm:=jic (b:=40) (n:=ts.length) (by omega) hl;have key:=(upto (P:=λi=>jnz (tms ts) (vi (ts.length:Nat)) (vi i) (part jgi [sv [],.sl 2 []] ts i)=some (.top,[tms ts])) (n:=ts.length) ?_ ?_ 0 (Nat.zero_le _))
 .simp only[Int.natCast_zero,<-jjh]at key;simp only[evz,hz,hm,key]
 .rw [juZ,jj5];simp only[evz]
 .intro i hi ih';have hlt:(i:Int)<((ts.length:Nat):Int):=by omega
  have h1:=jir (f:=jgi) (z:=[sv [],.sl 2 []]) (Nat.le_of_lt hi);have h2:pIx (part jgi [sv [],.sl 2 []] ts i).length (vi i)=some i:=jgZ (by omega);have h4:=jj7 (f:=jgi) (z:=[sv [],.sl 2 []]) hi;rw[jgT]at h4;have h5:=jgj hi (jfI hl (by decide));have e1:G 138 [A.agg [sv ts[i].name,tms ts[i].args]]=_:=ih ts[i] (jfL _);rw[juZ];simp only[evz,hlt,jfY hi,jga,e1,h2,jj6 hi,jpF,h4,h5,ih']
theorem jim(t:T):tsz t<=1048576->G 138 [tm t]=some (tm t,[]):=by
 refine T.ind (p:=λt=>tsz t<=1048576->G 138 [tm t]=some (tm t,[])) ?_ t;intro t ih h;rw[jgL]at h;have e1:=jlf t.args (by omega) λu hu=>ih u hu (by have:=jhr hu;omega);rw[jJc];simp only[evz,e1]
theorem jtB(t:T)(h:tsz t<=1048576):jom (sv t.name) (tms t.args)=some (.top,[sv t.name,tms t.args]):=by
 rw[jgL]at h;have e1:=jlf t.args (by omega) λu hu=>jim u (by have:=jhr hu;omega);rw[jAs];simp only[evz,e1]
theorem jaF:pNo (vb false)=some ():=rfl
theorem jFC:slL [259] [[]]=[.sl 259 []]:=rfl
theorem jzA{n:Nat}(h:n<=4194304):jbB n 56=true:=by
 unfold jbB;exact decide_eq_true ⟨by omega,by omega⟩
theorem jqU{p:T->Prop}(hp:∀t,p t-> ∀u∈t.args,p u):∀(a:T){m m':jgn}{t:T},(∀q∈m,p q.2)->p t->mt m a t=some m'->(∀q∈m',p q.2)/\m'.length<=m.length+nodes a:=by
 refine T.ind (p:=λa=>∀{m m':jgn}{t:T},(∀q∈m,p q.2)->p t->mt m a t=some m'->(∀q∈m',p q.2)/\m'.length<=m.length+nodes a) λa ih=>?_;intro m m' t hm ht h;have hn:=jgx a;cases hv:jgk a.name with
 |true=>
  rw[jnm hv]at h;split at h
  .split at h
   .cases h;exact⟨hm,by omega⟩
   .cases h
  .cases h;refine⟨λq hq=>?_,by rw[jf7,List.length_singleton];omega⟩;rcases jeO.1 hq with hq|hq
   .exact hm q hq
   .simp only[jdC]at hq;subst hq;exact ht
 |false=>
  rw[jnl hv]at h;split at h
  .have key:∀(us:Xg)(ts:Xg){m m':jgn},(∀u∈us,u∈a.args)->(∀u∈ts,p u)->(∀q∈m,p q.2)->mtL m us ts=some m'->(∀q∈m',p q.2)/\m'.length<=m.length+jgm us:=by
    intro us;induction us with
    |nil=>intro ts m m' _ _ hm h;simp only[mtL,jb4]at h;exact h ▸ ⟨hm,by omega⟩
    |cons u us ih2=>
     intro ts m m' hu hts hm h;have e:jgm (u::us)=nodes u+jgm us:=rfl;cases ts with
     |nil=>simp only[mtL,jb4]at h;exact h ▸ ⟨hm,by omega⟩
     |cons s ts=>
      simp only[mtL]at h;obtain⟨m1,h1,h2⟩:=jcv.1 h;obtain⟨i1,i2⟩:=ih u (hu u (by simp)) hm (hts s (by simp)) h1;obtain⟨j1,j2⟩:=ih2 ts (λx hx=>hu x (by simp[hx])) (λx hx=>hts x (by simp[hx])) i1 h2;exact⟨j1,by omega⟩
   obtain⟨i1,i2⟩:=key a.args t.args (λ_ h=>h) (hp t ht) hm h;exact⟨i1,by omega⟩
  .cases h
def MR(o:Xe)(r:Option jgn):Prop:=match r with
 |some m'=>o=some (.top,[vb true,.sl 259 (m'.map bc)])
 |none=>∃R,o=some (.top,[vb false,.sl 259 R])
theorem jq8{m:jgn}{i:Nat}(hi:i<m.length):jc0 (m.map bc) i 0=some (sv m[i].1):=by unfold jc0;simp[hi]
theorem jvx{m:jgn}{i:Nat}(hi:i<m.length):jcZ (m.map bc) i 1 2=some (tm m[i].2):=by unfold jcZ;simp[hi]
def Tz(t:T):Prop:=tsz t<=1048576
theorem Tz.args{t:T}(h:Tz t):∀u∈t.args,Tz u:=λu hu=>by
 have:=jhr hu;unfold Tz at h⊢;rw[jgL]at h;omega
theorem Tz.wf{t:T}(h:Tz t):twf t:=jG4 t h
theorem jza(n:Xb)(x:A)(t:T)(ht:Tz t)(m:jgn)(hm:∀q∈m,Tz q.2)(hl:m.length<=4000000)(hx:Ka x=true):MR (jlT (vi 0) (sv n) x (sv t.name) (tms t.args) (m.map bc)) (match look m n with|some r=>if dq r t then some m else none|none=>some (m++[(n,t)])):=by
 have key:=upto (P:=λi=>MR (jlT (vi i) (sv n) x (sv t.name) (tms t.args) (m.map bc)) (match look (m.drop i) n with|some r=>if dq r t then some m else none|none=>some (m++[(n,t)]))) (n:=m.length) ?_ ?_ 0 (Nat.zero_le _)
 .exact key
 .rw [List.drop_length,jva];have hf:=jzA (n:=m.length+1) (by omega);show _=_;simp only[evz,hf];rw[List.map_append];rfl
 .intro i hi ih;have hlt:(i:Int)<((m.length:Nat):Int):=by omega
  have h5:=jgj hi (by show m.length<=9223372036854775807;omega)
  have x1:pIx m.length (vi ((i:Nat):Int))=some i:=jgZ hi;have x2:=jq8 hi;have x3:=jvx hi;have e1:=jiU m[i].2 (hm _ (jfL hi)).wf t ht.wf;rw[jva,jgg hi,look];by_cases he:m[i].1=n
  .rw [jbZ he];show MR _ (if dq m[i].2 t=true then some m else none);cases hd:dq m[i].2 t<;>rw[hd]at e1
   .rw [ja0 Bool.false_ne_true];refine⟨m.map bc,?_⟩;simp only[evz,hlt,x1,x2,x3,he,e1]
   .rw [jbZ rfl];show _=_;simp only[evz,hlt,x1,x2,x3,he,e1]
  .rw [ja0 he];simp only[evz,hlt,x1,x2,x3,he,h5];exact ih
theorem jw5(a t:T)(ht:Tz t)(ha:Tz a)(hl:a.args.length=t.args.length)(m:jgn)(hm:∀q∈m,Tz q.2)(hk:m.length+jgm a.args<=4000000)
  (ih:∀u∈a.args,∀(s:T)(m:jgn),Tz s->(∀q∈m,Tz q.2)->m.length+nodes u<=4000000->MR (jlI (tm u) (tm s) (m.map bc)) (mt m u s)) :
  MR (jnH (vi 0) (sv a.name) (tms a.args) (sv t.name) (tms t.args) (m.map bc)) (mtL m a.args t.args):=by
 have ha':=ha;unfold Tz at ha;rw[jgL]at ha;have nd:∀i,i<a.args.length->jgm (a.args.drop i)=jgm a.args->True:=λ_ _ _=>trivial;have key2:=upto (P:=λi=>∀m:jgn,(∀q∈m,Tz q.2)->m.length+jgm (a.args.drop i)<=4000000->MR (jnI (vi i) (sv a.name) (tms a.args) (sv t.name) (tms t.args) (m.map bc)) (mtL m (a.args.drop i) (t.args.drop i))) (n:=a.args.length) ?_ ?_;rotate_left
 .intro m hm hk;rw[List.drop_length,jqI];simp only[mtL];show _=_;simp only[evz]
 .intro i hi ih2 m hm hk;have hi':i<t.args.length:=by omega
  have hlt:(i:Int)<((a.args.length:Nat):Int):=by omega
  have h5:=jgj hi (by show a.args.length<=9223372036854775807;omega)
  have e:jgm (a.args.drop i)=nodes a.args[i]+jgm (a.args.drop (i+1)):=by rw[jgg hi];rfl
  have q:=ih a.args[i] (jfL _) t.args[i] m (ht.args _ (jfL _)) hm (by omega);rw[jgg hi,jgg hi',jqI];simp only[mtL];cases hq:mt m a.args[i] t.args[i]with
  |none=>
   rw[hq]at q;obtain⟨R,q⟩:=q;refine⟨[],?_⟩;simp only[evz,hlt,jfY hi,jfY hi',jga,q,List.getElem?_cons_zero,jaF,jFC]
  |some m1=>
   rw[hq]at q;have q:jlI (tm a.args[i]) (tm t.args[i]) (m.map bc)=some (.top,[vb true,.sl 259 (m1.map bc)]):=q;obtain⟨i1,i2⟩:=jqU (p:=Tz) (λ_ h=>h.args) _ hm (ht.args _ (jfL hi')) hq;simp only[evz,hlt,jfY hi,jfY hi',jga,q,List.getElem?_cons_zero,h5];exact ih2 m1 i1 (by omega)
 have e1:∀(m:jgn)(i:Nat),jnH (vi i) (sv a.name) (tms a.args) (sv t.name) (tms t.args) (m.map bc)=jnI (vi i) (sv a.name) (tms a.args) (sv t.name) (tms t.args) (m.map bc):=λm i=>by
  rw[jCg,jqI]
 have:=key2 0 (Nat.zero_le _) m hm hk;rw[<-e1]at this;exact this
theorem jy9(n:Xb)(x:A)(t:T)(ht:Tz t)(m:jgn)(hm:∀q∈m,Tz q.2)(hl:m.length<=4000000)(hx:Ka x=true):MR (jlS (vi 0) (sv n) x (sv t.name) (tms t.args) (m.map bc)) (match look m n with|some r=>if dq r t then some m else none|none=>some (m++[(n,t)])):=by
 have key:=upto (P:=λi=>MR (jlS (vi i) (sv n) x (sv t.name) (tms t.args) (m.map bc)) (match look (m.drop i) n with|some r=>if dq r t then some m else none|none=>some (m++[(n,t)]))) (n:=m.length) ?_ ?_ 0 (Nat.zero_le _)
 .exact key
 .rw [List.drop_length,ju9];have hf:=jzA (n:=m.length+1) (by omega);show _=_;simp only[evz,hf];rw[List.map_append];rfl
 .intro i hi ih;have hlt:(i:Int)<((m.length:Nat):Int):=by omega
  have h5:=jgj hi (by show m.length<=9223372036854775807;omega)
  have x1:pIx m.length (vi ((i:Nat):Int))=some i:=jgZ hi;have x2:=jq8 hi;have x3:=jvx hi;have e1:=jiU m[i].2 (hm _ (jfL hi)).wf t ht.wf;rw[ju9,jgg hi,look];by_cases he:m[i].1=n
  .rw [jbZ he];show MR _ (if dq m[i].2 t=true then some m else none);cases hd:dq m[i].2 t<;>rw[hd]at e1
   .rw [ja0 Bool.false_ne_true];refine⟨m.map bc,?_⟩;simp only[evz,hlt,x1,x2,x3,he,e1]
   .rw [jbZ rfl];show _=_;simp only[evz,hlt,x1,x2,x3,he,e1]
  .rw [ja0 he];simp only[evz,hlt,x1,x2,x3,he,h5];exact ih
theorem jw4(a t:T)(ht:Tz t)(ha:Tz a)(hl:a.args.length=t.args.length)(m:jgn)(hm:∀q∈m,Tz q.2)(hk:m.length+jgm a.args<=4000000)
  (ih:∀u∈a.args,∀(s:T)(m:jgn),Tz s->(∀q∈m,Tz q.2)->m.length+nodes u<=4000000->MR (jlI (tm u) (tm s) (m.map bc)) (mt m u s)) :
  MR (jnF (vi 0) (sv a.name) (tms a.args) (sv t.name) (tms t.args) (m.map bc)) (mtL m a.args t.args):=by
 have ha':=ha;unfold Tz at ha;rw[jgL]at ha;have nd:∀i,i<a.args.length->jgm (a.args.drop i)=jgm a.args->True:=λ_ _ _=>trivial;have key2:=upto (P:=λi=>∀m:jgn,(∀q∈m,Tz q.2)->m.length+jgm (a.args.drop i)<=4000000->MR (jnG (vi i) (sv a.name) (tms a.args) (sv t.name) (tms t.args) (m.map bc)) (mtL m (a.args.drop i) (t.args.drop i))) (n:=a.args.length) ?_ ?_;rotate_left
 .intro m hm hk;rw[List.drop_length,jqH];simp only[mtL];show _=_;simp only[evz]
 .intro i hi ih2 m hm hk;have hi':i<t.args.length:=by omega
  have hlt:(i:Int)<((a.args.length:Nat):Int):=by omega
  have h5:=jgj hi (by show a.args.length<=9223372036854775807;omega)
  have e:jgm (a.args.drop i)=nodes a.args[i]+jgm (a.args.drop (i+1)):=by rw[jgg hi];rfl
  have q:=ih a.args[i] (jfL _) t.args[i] m (ht.args _ (jfL _)) hm (by omega);rw[jgg hi,jgg hi',jqH];simp only[mtL];cases hq:mt m a.args[i] t.args[i]with
  |none=>
   rw[hq]at q;obtain⟨R,q⟩:=q;refine⟨[],?_⟩;simp only[evz,hlt,jfY hi,jfY hi',jga,q,List.getElem?_cons_zero,jaF,jFC]
  |some m1=>
   rw[hq]at q;have q:jlI (tm a.args[i]) (tm t.args[i]) (m.map bc)=some (.top,[vb true,.sl 259 (m1.map bc)]):=q;obtain⟨i1,i2⟩:=jqU (p:=Tz) (λ_ h=>h.args) _ hm (ht.args _ (jfL hi')) hq;simp only[evz,hlt,jfY hi,jfY hi',jga,q,List.getElem?_cons_zero,h5];exact ih2 m1 i1 (by omega)
 have e1:∀(m:jgn)(i:Nat),jnF (vi i) (sv a.name) (tms a.args) (sv t.name) (tms t.args) (m.map bc)=jnG (vi i) (sv a.name) (tms a.args) (sv t.name) (tms t.args) (m.map bc):=λm i=>by
  rw[jCf,jqH]
 have:=key2 0 (Nat.zero_le _) m hm hk;rw[<-e1]at this;exact this
theorem jw3:∀(a:T),Tz a-> ∀(t:T)(m:jgn),Tz t->(∀q∈m,Tz q.2)->m.length+nodes a<=4000000->MR (jlI (tm a) (tm t) (m.map bc)) (mt m a t):=by
 refine T.ind λa ih ha t m ht hm hk=>?_;have hn:=jgx a;have e1:=jg9 a.name (((jgK a).1 ha.wf).1);have hal:a.args.length<=1048576:=by unfold Tz at ha;rw[jgL]at ha;omega
 rw[jGd];cases hv:jgk a.name<;>rw[hv]at e1
 .rw [jnl hv];by_cases he:a.name=t.name/\a.args.length=t.args.length
  .rw [jbZ he];have hl:((a.args.length:Nat):Int)=((t.args.length:Nat):Int):=by omega
   have:=jw5 a t ht ha he.2 m hm (by omega) λu hu s m hs hm hk=>ih u hu (ha.args u hu) s m hs hm hk;rw[he.1]at e1 this;simp only[evz,he.1,e1,hl];exact this
  .rw [ja0 he];refine⟨m.map bc,?_⟩;by_cases h1:a.name=t.name
   .have hl:¬((a.args.length:Nat):Int)=((t.args.length:Nat):Int):=λh=>he ⟨h1,by omega⟩;rw[h1]at e1;simp only[evz,e1,h1,hl]
   .simp only[evz,e1,h1]
 .rw [jnm hv];have:=jza a.name (tms a.args) t ht m hm (by omega) (jxc _ _);simp only[evz,e1];exact this
theorem jvc(a:T)(ha:Tz a)(t:T)(m:jgn)(ht:Tz t)(hm:∀q∈m,Tz q.2)(hk:m.length+nodes a<=4000000):MR (jpQ (tm a) (sv t.name) (tms t.args) (m.map bc)) (mt m a t):=by
 have hn:=jgx a;have e1:=jg9 a.name (((jgK a).1 ha.wf).1);rw[jGc];cases hv:jgk a.name<;>rw[hv]at e1
 .rw [jnl hv];by_cases he:a.name=t.name/\a.args.length=t.args.length
  .rw [jbZ he];have hl:((a.args.length:Nat):Int)=((t.args.length:Nat):Int):=by omega
   have:=jw4 a t ht ha he.2 m hm (by omega) λu hu s m hs hm hk=>jw3 u (ha.args u hu) s m hs hm hk;rw[he.1]at e1 this;simp only[evz,he.1,e1,hl];exact this
  .rw [ja0 he];refine⟨m.map bc,?_⟩;by_cases h1:a.name=t.name
   .have hl:¬((a.args.length:Nat):Int)=((t.args.length:Nat):Int):=λh=>he ⟨h1,by omega⟩;rw[h1]at e1;simp only[evz,e1,h1,hl]
   .simp only[evz,e1,h1]
 .rw [jnm hv];have:=jy9 a.name (tms a.args) t ht m hm (by omega) (jxc _ _);simp only[evz,e1];exact this
abbrev kv(p:Xb×T):Xd:=[sv p.1,tm p.2]
theorem jAP(a b:Xb):eqK none (sv a) (sv b)=some (decide (a=b)):=by show some (decide (bs _=bs _))=_;refine congrArg some (decide_eq_decide.2 ?_);simp
theorem jll(n:Xb):∀(m:jgn)(k:Nat),KD none (sv n) (m.map kv) k=some (match look m n with|some _=>(match m.findIdx? (λp=>decide (p.1=n))with|some j=>some (k+j,tm ((look m n).getD (.mk [] [])))|none=>none)|none=>none)
 | [],k=>rfl
 |p::m,k=>by
  rw[jd1,look,KD,jAP];by_cases h:p.1=n
  .rw [jbZ h,decide_eq_true h.symm,List.findIdx?_cons,jbZ (decide_eq_true h)];rfl
  .rw [ja0 h,decide_eq_false (λe=>h e.symm),List.findIdx?_cons,ja0 (by simp[h])];show KD none (sv n) (m.map kv) (k+1)=_;rw[jll n m (k+1)];cases look m n with
   |none=>rfl
   |some r=>
    cases m.findIdx? (λp=>decide (p.1=n))with
    |none=>rfl
    |some j=>show some (some (k+1+j,_))=some (some (k+(j+1),_));rw[show k+1+j=k+(j+1) by omega]
theorem jqQ{n:Xb} :∀{m:jgn}{r:T},look m n=some r-> ∃j,m.findIdx? (λp=>decide (p.1=n))=some j/\m.set j (n,r)=m
 |p::m,r,h=>by
  rw[look]at h;rw[List.findIdx?_cons];by_cases e:p.1=n
  .rw [jbZ e]at h;rw[jbZ (decide_eq_true e)];cases h;exact⟨0,rfl,by rw[<-e];rfl⟩
  .rw [ja0 e]at h;rw[ja0 (by simp[e])];obtain⟨j,h1,h2⟩:=jqQ h;exact⟨j+1,by rw[h1];rfl,by rw[List.set_cons_succ,h2]⟩
theorem jq6(z:Xd)(m:jgn)(n:Xb):jak none true false z (.mp (m.map kv)) (sv n)=some (match look m n with|some r=>.tup [tm r,vb true]|none=>.tup [.agg z,vb false]):=by
 show((some (m.map kv)).bind λxs=>(KD none (sv n) xs 0).map (jcT true false z))=_;rw[Option.bind_some,jll];cases h:look m n with
 |none=>rfl
 |some r=>
  obtain⟨j,h1,_⟩:=jqQ h;show(some (match m.findIdx? _ with|some j=>some (0+j,tm r)|none=>none)).map _=_;rw[h1];rfl
theorem jsf{m:jgn}{n:Xb}(h:look m n=none)(t:T):jdp none (m.map kv) (sv n) (tm t)=some ((m++[(n,t)]).map kv):=by
 show(KD none (sv n) (m.map kv) 0).map _=_;rw[jll,h,List.map_append];rfl
theorem jsg{m:jgn}{n:Xb}{r:T}(h:look m n=some r)(a:A):∃R,jdp none (m.map kv) (sv n) a=some R/\(a=tm r->R=m.map kv):=by
 obtain⟨j,h1,h2⟩:=jqQ h;refine⟨(m.map kv).set j [sv n,a],?_,λe=>?_⟩
 .show (KD none (sv n) (m.map kv) 0).map _=_;rw[jll,h];show(some (match m.findIdx? _ with|some j=>some (0+j,tm r)|none=>none)).map _=_;rw[h1];show some ((m.map kv).set (0+j) [sv n,a])=_;rw[je8]
 .rw [e];have:([sv n,tm r]:Xd)=kv (n,r):=rfl;rw[this,<-List.map_set,h2]
def MI(o:Xe)(r:Option jgn):Prop:=match r with
 |some m'=>o=some (.top,[vb true,.sl 128 (m'.map kv)])
 |none=>∃R,o=some (.top,[vb false,.sl 128 R])
theorem jy4(a t:T)(ht:Tz t)(ha:Tz a)(hl:a.args.length=t.args.length)(m:jgn)(hm:∀q∈m,Tz q.2)
  (ih:∀u∈a.args,∀(s:T)(m:jgn),Tz s->(∀q∈m,Tz q.2)->MI (jjt (sv u.name) (tms u.args) (tm s) (m.map kv)) (mt m u s)) :
  MI (jlP (tms a.args) (vi (a.args.length:Nat)) (vi 0) (sv t.name) (tms t.args) (m.map kv)) (mtL m a.args t.args):=by
 have ha':=ha;unfold Tz at ha;rw[jgL]at ha;have key2:=upto (P:=λi=>∀m:jgn,(∀q∈m,Tz q.2)->MI (jlP (tms a.args) (vi (a.args.length:Nat)) (vi i) (sv t.name) (tms t.args) (m.map kv)) (mtL m (a.args.drop i) (t.args.drop i))) (n:=a.args.length) ?_ ?_;rotate_left
 .intro m hm;rw[List.drop_length,ju6];simp only[mtL];show _=_;simp only[evz]
 .intro i hi ih2 m hm;have hi':i<t.args.length:=by omega
  have hlt:(i:Int)<((a.args.length:Nat):Int):=by omega
  have h5:=jgj hi (by show a.args.length<=9223372036854775807;omega)
  have q:=ih a.args[i] (jfL _) t.args[i] m (ht.args _ (jfL _)) hm;rw[jgg hi,jgg hi',ju6];simp only[mtL];cases hq:mt m a.args[i] t.args[i]with
  |none=>
   rw[hq]at q;obtain⟨R,q⟩:=q;refine⟨R,?_⟩;simp only[evz,hlt,jfY hi,jfY hi',jga,q,List.getElem?_cons_zero]
  |some m1=>
   rw[hq]at q;have q:jjt (sv a.args[i].name) (tms a.args[i].args) (tm t.args[i]) (m.map kv)=some (.top,[vb true,.sl 128 (m1.map kv)]):=q;obtain⟨i1,i2⟩:=jqU (p:=Tz) (λ_ h=>h.args) _ hm (ht.args _ (jfL hi')) hq;simp only[evz,hlt,jfY hi,jfY hi',jga,q,List.getElem?_cons_zero,h5];exact ih2 m1 i1
 exact key2 0 (Nat.zero_le _) m hm
theorem jy3(a t:T)(ht:Tz t)(ha:Tz a)(hl:a.args.length=t.args.length)(m:jgn)(hm:∀q∈m,Tz q.2)
  (ih:∀u∈a.args,∀(s:T)(m:jgn),Tz s->(∀q∈m,Tz q.2)->MI (jjt (sv u.name) (tms u.args) (tm s) (m.map kv)) (mt m u s)) :
  MI (jlO (tms a.args) (vi (a.args.length:Nat)) (vi 0) (sv t.name) (tms t.args) (m.map kv)) (mtL m a.args t.args):=by
 have ha':=ha;unfold Tz at ha;rw[jgL]at ha;have key2:=upto (P:=λi=>∀m:jgn,(∀q∈m,Tz q.2)->MI (jlO (tms a.args) (vi (a.args.length:Nat)) (vi i) (sv t.name) (tms t.args) (m.map kv)) (mtL m (a.args.drop i) (t.args.drop i))) (n:=a.args.length) ?_ ?_;rotate_left
 .intro m hm;rw[List.drop_length,ju5];simp only[mtL];show _=_;simp only[evz]
 .intro i hi ih2 m hm;have hi':i<t.args.length:=by omega
  have hlt:(i:Int)<((a.args.length:Nat):Int):=by omega
  have h5:=jgj hi (by show a.args.length<=9223372036854775807;omega)
  have q:=ih a.args[i] (jfL _) t.args[i] m (ht.args _ (jfL _)) hm;rw[jgg hi,jgg hi',ju5];simp only[mtL];cases hq:mt m a.args[i] t.args[i]with
  |none=>
   rw[hq]at q;obtain⟨R,q⟩:=q;refine⟨R,?_⟩;simp only[evz,hlt,jfY hi,jfY hi',jga,q,List.getElem?_cons_zero]
  |some m1=>
   rw[hq]at q;have q:jjt (sv a.args[i].name) (tms a.args[i].args) (tm t.args[i]) (m.map kv)=some (.top,[vb true,.sl 128 (m1.map kv)]):=q;obtain⟨i1,i2⟩:=jqU (p:=Tz) (λ_ h=>h.args) _ hm (ht.args _ (jfL hi')) hq;simp only[evz,hlt,jfY hi,jfY hi',jga,q,List.getElem?_cons_zero,h5];exact ih2 m1 i1
 exact key2 0 (Nat.zero_le _) m hm
theorem jA2(a:T)(ha:Tz a)(hk:okT a=true)(t:T)(m:jgn)(ht:Tz t)(hm:∀q∈m,Tz q.2)
  (ih:∀u∈a.args,∀(s:T)(m:jgn),Tz s->(∀q∈m,Tz q.2)->MI (jjt (sv u.name) (tms u.args) (tm s) (m.map kv)) (mt m u s)) :
  MI (jjt (sv a.name) (tms a.args) (tm t) (m.map kv)) (mt m a t):=by
 have e1:G 197 [.agg [sv a.name,tms a.args]]=some (vb (jgk a.name),[]):=jjW a hk;have hal:a.args.length<=1048576:=by unfold Tz at ha;rw[jgL]at ha;omega
 rw[jF6];cases hv:jgk a.name<;>rw[hv]at e1
 .rw [jnl hv];have pk:(if((a.args.length:Nat):Int)=0 then G 197 [.agg [sv a.name,tms a.args]]else some (vb false,[]))=some (vb false,[]):=by split<;>first|exact e1|rfl
  by_cases he:a.name=t.name/\a.args.length=t.args.length
  .rw [jbZ he];have hl:((a.args.length:Nat):Int)=((t.args.length:Nat):Int):=by omega
   have:=jy4 a t ht ha he.2 m hm ih;by_cases h0:((a.args.length:Nat):Int)=0
   .have h0':((t.args.length:Nat):Int)=0:=by omega
    rw[he.1]at e1;rw[he.2,h0']at this;simp only[evz,he.1,h0',e1,hl];exact this
   .have h0':¬((t.args.length:Nat):Int)=0:=by omega
    rw[he.1]at e1;rw[he.2]at this;simp only[evz,he.1,h0',hl];exact this
  .rw [ja0 he];refine⟨m.map kv,?_⟩;by_cases h1:a.name=t.name
   .have hl:¬((a.args.length:Nat):Int)=((t.args.length:Nat):Int):=λh=>he ⟨h1,by omega⟩;rw[h1]at e1;by_cases h0:((a.args.length:Nat):Int)=0
    .have hl0:¬(0:Int)=((t.args.length:Nat):Int):=by omega
     simp only[evz,e1,h1,h0,hl0]
    .simp only[evz,h1,h0,hl]
   .by_cases h0:((a.args.length:Nat):Int)=0
    .simp only[evz,e1,h1,h0]
    .simp only[evz,h1,h0]
 .rw [jnm hv];have h0:a.args=[]:=jh7 hk hv;rw[h0]at e1;have hz:(((0:Nat):Int)=0)=True:=by simp
  have lk:=jq6 [sv [],.sl 2 []] m a.name;cases hl:look m a.name with
  |none=>
   rw[hl]at lk;have lk:jak none true false [sv [],.sl 2 []] (.mp (m.map kv)) (sv a.name)=some (.tup [.agg [sv [],.sl 2 []],vb false]):=lk;have pp:=jsf hl t;show _=_;rw[h0];simp only[evz,e1,hz,lk,pp,List.map_nil]
  |some r=>
   rw[hl]at lk;have lk:jak none true false [sv [],.sl 2 []] (.mp (m.map kv)) (sv a.name)=some (.tup [tm r,vb true]):=lk;obtain⟨R,pp,hR⟩:=jsg hl (tm t);have e2:=jhm r (hm _ (jiw hl)).wf t ht.wf;show MI _ (if dq r t=true then some m else none);rw[h0];cases hd:dq r t<;>rw[hd]at e2
   .rw [ja0 Bool.false_ne_true];refine⟨R,?_⟩;simp only[evz,e1,hz,lk,pp,e2,List.map_nil]
   .rw [jbZ rfl];have hr:R=m.map kv:=hR (by rw[jhF.1 hd]);rw[hr]at pp;show _=_;simp only[evz,e1,hz,lk,pp,e2,List.map_nil]
theorem jy2(a:T)(ha:Tz a)(e1:G 197 [.agg [sv a.name,tms a.args]]=some (vb (jgk a.name),[]))(hva:jgk a.name=true->a.args=[])(t:T)(m:jgn)(ht:Tz t)(hm:∀q∈m,Tz q.2)
  (ih:∀u∈a.args,∀(s:T)(m:jgn),Tz s->(∀q∈m,Tz q.2)->MI (jjt (sv u.name) (tms u.args) (tm s) (m.map kv)) (mt m u s)) :
  MI (jm8 (tm a) (sv t.name) (tms t.args) (m.map kv)) (mt m a t):=by
 have hal:a.args.length<=1048576:=by unfold Tz at ha;rw[jgL]at ha;omega
 rw[jF5];cases hv:jgk a.name<;>rw[hv]at e1
 .rw [jnl hv];have pk:(if((a.args.length:Nat):Int)=0 then G 197 [.agg [sv a.name,tms a.args]]else some (vb false,[]))=some (vb false,[]):=by split<;>first|exact e1|rfl
  by_cases he:a.name=t.name/\a.args.length=t.args.length
  .rw [jbZ he];have hl:((a.args.length:Nat):Int)=((t.args.length:Nat):Int):=by omega
   have:=jy3 a t ht ha he.2 m hm ih;by_cases h0:((a.args.length:Nat):Int)=0
   .have h0':((t.args.length:Nat):Int)=0:=by omega
    rw[he.1]at e1;rw[he.2,h0']at this;simp only[evz,he.1,h0',e1,hl];exact this
   .have h0':¬((t.args.length:Nat):Int)=0:=by omega
    rw[he.1]at e1;rw[he.2]at this;simp only[evz,he.1,h0',hl];exact this
  .rw [ja0 he];refine⟨m.map kv,?_⟩;by_cases h1:a.name=t.name
   .have hl:¬((a.args.length:Nat):Int)=((t.args.length:Nat):Int):=λh=>he ⟨h1,by omega⟩;rw[h1]at e1;by_cases h0:((a.args.length:Nat):Int)=0
    .have hl0:¬(0:Int)=((t.args.length:Nat):Int):=by omega
     simp only[evz,e1,h1,h0,hl0]
    .simp only[evz,h1,h0,hl]
   .by_cases h0:((a.args.length:Nat):Int)=0
    .simp only[evz,e1,h1,h0]
    .simp only[evz,h1,h0]
 .rw [jnm hv];have h0:a.args=[]:=hva hv;rw[h0]at e1;have hz:(((0:Nat):Int)=0)=True:=by simp
  have hta:tm a = .agg [sv a.name,tms []]:=by show A.agg [_,A.sl 2 (a.args.map jgi)]=_;rw[h0]
  have lk:=jq6 [sv [],.sl 2 []] m a.name;cases hl:look m a.name with
  |none=>
   rw[hl]at lk;have lk:jak none true false [sv [],.sl 2 []] (.mp (m.map kv)) (sv a.name)=some (.tup [.agg [sv [],.sl 2 []],vb false]):=lk;have pp:=jsf hl t;show _=_;rw[hta];simp only[evz,e1,hz,lk,pp,List.map_nil]
  |some r=>
   rw[hl]at lk;have lk:jak none true false [sv [],.sl 2 []] (.mp (m.map kv)) (sv a.name)=some (.tup [tm r,vb true]):=lk;obtain⟨R,pp,hR⟩:=jsg hl (tm t);have e2:=jhm r (hm _ (jiw hl)).wf t ht.wf;show MI _ (if dq r t=true then some m else none);rw[hta];cases hd:dq r t<;>rw[hd]at e2
   .rw [ja0 Bool.false_ne_true];refine⟨R,?_⟩;simp only[evz,e1,hz,lk,pp,e2,List.map_nil]
   .rw [jbZ rfl];have hr:R=m.map kv:=hR (by rw[jhF.1 hd]);rw[hr]at pp;show _=_;simp only[evz,e1,hz,lk,pp,e2,List.map_nil]
theorem jA1(a:T)(ha:Tz a)(hk:okT a=true)(t:T)(m:jgn)(ht:Tz t)(hm:∀q∈m,Tz q.2)
  (ih:∀u∈a.args,∀(s:T)(m:jgn),Tz s->(∀q∈m,Tz q.2)->MI (jjt (sv u.name) (tms u.args) (tm s) (m.map kv)) (mt m u s)) :
  MI (jm8 (tm a) (sv t.name) (tms t.args) (m.map kv)) (mt m a t):=jy2 a ha (jjW a hk) (λhv=>jh7 hk hv) t m ht hm ih
theorem jCu:∀(a:T),Tz a->okT a=true-> ∀(t:T)(m:jgn),Tz t->(∀q∈m,Tz q.2)->MI (jjt (sv a.name) (tms a.args) (tm t) (m.map kv)) (mt m a t):=by
 refine T.ind λa ih ha hk t m ht hm=>?_;exact jA2 a ha hk t m ht hm λu hu s m hs hm=>ih u hu (ha.args u hu) (jgQ hk u hu) s m hs hm
theorem jzi(a:T)(ha:Tz a)(hk:okT a=true)(t:T)(m:jgn)(ht:Tz t)(hm:∀q∈m,Tz q.2):MI (jm8 (tm a) (sv t.name) (tms t.args) (m.map kv)) (mt m a t):=
 jA1 a ha hk t m ht hm λu hu s m hs hm=>jCu u (ha.args u hu) (jgQ hk u hu) s m hs hm
theorem jxn{m:jgn}(hv:∀q∈m,jgk q.1=true)(hm:∀q∈m,Tz q.2):∀t:T,Tz t->okT t=true->G 241 [tm t,.mp (m.map kv)]=some (tm (sub m t),[]):=by
 refine T.ind λt ih ht hk=>?_;have hs:=ht;unfold Tz at hs;rw[jgL]at hs;have lk:=jq6 [sv [],.sl 2 []] m t.name;rw[jKq];cases h:jgk t.name with
 |true=>
  have h0:t.args=[]:=jh7 hk h;have hz:(((0:Nat):Int)=0)=True:=by simp
  have hta:tm t = .agg [sv t.name,tms []]:=by show A.agg [_,A.sl 2 (t.args.map jgi)]=_;rw[h0]
  rw[jig h,jid,hta];cases hl:look m t.name with
  |none=>
   rw[hl]at lk;have lk:jak none true false [sv [],.sl 2 []] (.mp (m.map kv)) (sv t.name)=some (.tup [.agg [sv [],.sl 2 []],vb false]):=lk;have h1:(0:Int)<((0:Nat):Int)↔False:=by simp
   simp only[evz,lk];rw[jwW];simp only[evz,h1,Option.getD_none];rfl
  |some r=>
   rw[hl]at lk;have lk:jak none true false [sv [],.sl 2 []] (.mp (m.map kv)) (sv t.name)=some (.tup [tm r,vb true]):=lk;have e2:=jim r (hm _ (jiw hl));simp only[evz,lk,hz,e2,Option.getD_some]
 |false=>
  have hn:look m t.name=none:=by
   cases hl:look m t.name with
   |none=>rfl
   |some r=>have:=hv _ (jiw hl);rw[h]at this;cases this
  rw[hn]at lk;have lk:jak none true false [sv [],.sl 2 []] (.mp (m.map kv)) (sv t.name)=some (.tup [.agg [sv [],.sl 2 []],vb false]):=lk;have key:=(upto (P:=λi=>js6 (.mp (m.map kv)) (tms t.args) (vi (t.args.length:Nat)) (vi i) (sv []) (sv t.name) [] (((t.args.map (sub m)).take i).map jgi)=some (tm (sub m t),[])) (n:=t.args.length) ?_ ?_ 0 (Nat.zero_le _))
  .simp only[Int.natCast_zero,List.take_zero,List.map_nil]at key;simp only[evz,lk,key]
  .rw [jwW,jfU (by rw[List.length_map];omega),jhK h]
   simp only[evz];rfl
  .intro i hi ih';have hlt:(i:Int)<((t.args.length:Nat):Int):=by omega
   have h5:=jgj hi (by show t.args.length<=9223372036854775807;omega)
   have e2:=ih t.args[i] (jfL _) (ht.args _ (jfL _)) (jgQ hk _ (jfL _));have hf:jbB (i+1) 40=true:=jvw (by omega);have hi2:i<(t.args.map (sub m)).length:=by rw[List.length_map];exact hi
   have hl:(((t.args.map (sub m)).take i).map jgi).length=i:=by rw[List.length_map,List.length_take,List.length_map];omega
   have ha:jeV (((t.args.map (sub m)).take i).map jgi) [[sv (sub m t.args[i]).name,tms (sub m t.args[i]).args]]=((t.args.map (sub m)).take (i+1)).map jgi:=by
    rw[show[sv (sub m t.args[i]).name,tms (sub m t.args[i]).args]=jgi (sub m t.args[i]) from(jgT _).symm,List.take_add_one,jam hi2,List.map_append,List.getElem_map];rfl
   generalize ((t.args.map (sub m)).take i).map jgi=R at *;rw[jwW];simp only[evz,hlt,jfY hi,jga,e2,hl,hf,ha,h5,ih']
theorem joR(n:Xb)(t:T):∀(s:jgn)(i:Nat),i<=s.length->(∀j,(h:j<i)-> ∀h':j<s.length,sLt s[j].1 n=true)->((∃h:i<s.length,sLt s[i].1 n=false)\/i=s.length)->jj8 s n t=s.take i++(n,t)::s.drop i
 | [],i,hi,_,_=>by
  have:i=0:=by simpa using hi
  subst this;rfl
 |p::s,0,_,_,h=>by
  have hp:sLt p.1 n=false:=by
   rcases h with⟨_,h⟩|h
   .exact h
   .cases h
  unfold jj8;rw[List.takeWhile_cons_of_neg (p:=λp:Xb×T=>sLt p.1 n) (by simp[hp]),List.dropWhile_cons_of_neg (p:=λp:Xb×T=>sLt p.1 n) (by simp[hp])];rfl
 |p::s,i+1,hi,h1,h=>by
  have hp:sLt p.1 n=true:=h1 0 (by omega) (by simp);have:=joR n t s i (by simpa using hi) (λj hj hj'=>h1 (j+1) (by omega) (by simpa using hj')) (by
   rcases h with⟨h,h2⟩|h
   .exact Or.inl ⟨by simpa using h,h2⟩
   .exact Or.inr (by simpa using h))
  unfold jj8 at this⊢;rw[List.takeWhile_cons_of_pos (p:=λp:Xb×T=>sLt p.1 n) hp,List.dropWhile_cons_of_pos (p:=λp:Xb×T=>sLt p.1 n) hp,jf0,this];rfl
theorem jhY{α:Type}(f:α->Xd)(l:List α):jaJ (l.map f)=l.length:=List.length_map ..
theorem jvI(u:jgn)(hl:u.length<=1000000)(i:Nat)(hi:i<=u.length) :
  pB u.length u.length (some (vi (i:Nat)))=some i/\jeX (u.map bc) 0 i=(u.take i).map bc/\jbB (u.take i).length 56=true/\pB u.length u.length none=some u.length/\pB 0 u.length (some (vi (i:Nat)))=some i/\jeX (u.map bc) i (u.length-i)=(u.drop i).map bc/\jd6 (u.map bc) 0=u.length/\jbB ((u.take i).length+1) 56=true/\jbB ((u.take i).length+1+(u.drop i).length) 56=true:=by
 refine⟨jiq hi,by rw[jeX,List.drop_zero,List.map_take],jzA (by rw[List.length_take];omega),jhe (jdB _),jiq hi,?_,by rw[jd6,List.length_map];rfl,jzA (by rw[List.length_take];omega),jzA (by rw[List.length_take,List.length_drop];omega)⟩
 rw[jeX,<-List.map_drop,jfU (by rw[List.length_map,List.length_drop];omega)]
theorem jvH(u v:jgn)(n:Xb)(t:T):jeV (jeV (u.map bc) [[sv n,sv t.name,tms t.args]]) (v.map bc)=(u++(n,t)::v).map bc:=by
 rw[List.map_append];show(u.map bc++[_])++v.map bc=u.map bc++_::v.map bc;rw[jet];rfl
theorem jvJ(u:jgn)(n:Xb)(t:T):(jeV (u.map bc) [[sv n,sv t.name,tms t.args]]).length=u.length+1:=by
 simp[jeV]
theorem jt0(u:jgn)(hl:u.length<=1000000)(n:Xb)(t:T)(ht:Tz t):jpP (sv n) (tm t) (u.map bc)=some (.top,[sbs (jiJ u n t)]):=by
 have e1:=jmh t ht;have key:=upto (P:=λi=>(∀j,(h:j<i)-> ∀h':j<u.length,sLt u[j].1 n=true)->jlQ (sv n) (vi i) (sv t.name) (tms t.args) (u.map bc) []=some (.top,[sbs (jj8 u n t)])) (n:=u.length) ?_ ?_ 0 (Nat.zero_le _) (λj h=>absurd h (Nat.not_lt_zero _))
 .rw [jF8,jiJ];by_cases h:t.name=n
  .rw [jbZ h];simp only[evz,h]
  .rw [ja0 h];have e:jlQ (sv n) (vi 0) (sv t.name) (tms t.args) (u.map bc) []=some (.top,[sbs (jj8 u n t)]):=key;simp only[evz,h,e]
 .intro hall;rw[joR n t u u.length (jdB _) hall (Or.inr rfl)];obtain⟨k1,k2,k3,k4,k5,k6,k7,k8,k9⟩:=jvI u hl u.length (jdB _);have m1:=jvH (u.take u.length) (u.drop u.length) n t;have m2:=jvJ (u.take u.length) n t;rw[jqG];simp only[evz,jhY,k1,k2,k3,k4,k5,k6,k7,jie,Nat.sub_zero,e1];generalize hB:Jt _ _ _=B;have hB':B=some (.agg [sv n,sv t.name,tms t.args]):=by rw[<-hB];kernel_rfl
  rw[hB'];simp only[evz,k8,k9,m1,m2]
 .intro i hi ih hall;have hlt:(i:Int)<((u.length:Nat):Int):=by omega
  have h5:=jgj hi (by show u.length<=9223372036854775807;omega)
  have x1:pIx u.length (vi ((i:Nat):Int))=some i:=jgZ hi;have x2:=jq8 hi;cases hs:sLt u[i].1 n
  .rw [joR n t u i (by omega) hall (Or.inl ⟨hi,hs⟩)];obtain⟨k1,k2,k3,k4,k5,k6,k7,k8,k9⟩:=jvI u hl i (by omega);have m1:=jvH (u.take i) (u.drop i) n t;have m2:=jvJ (u.take i) n t;rw[jqG];simp only[evz,hlt,x1,x2,hs,jhY,k1,k2,k3,k4,k5,k6,k7,jie,Nat.sub_zero,e1];generalize hB:Jt _ _ _=B;have hB':B=some (.agg [sv n,sv t.name,tms t.args]):=by rw[<-hB];kernel_rfl
   rw[hB'];simp only[evz,k8,k9,m1,m2]
  .have ih:=ih λj hj hj'=>by
    by_cases h:j=i
    .subst h;exact hs
    .exact hall j (by omega) hj'
   rw[jqG];simp only[evz,hlt,x1,x2,hs,h5,ih]
theorem jn6(s:jgn)(n:Xb)(t:T):(jiJ s n t).length<=s.length+1:=by
 unfold jiJ;split
 .omega
 .unfold jj8;rw[jf7,jfC];have:=List.takeWhile_append_dropWhile (p:=λp:Xb×T=>sLt p.1 n) (l:=s);have:=congrArg List.length this;rw[jf7]at this;omega
theorem jrb{s:jgn}{n:Xb}{t:T}{q:Xb×T}(h:q∈jiJ s n t):q∈s\/q=(n,t):=by
 unfold jiJ at h;split at h
 .exact Or.inl h
 .unfold jj8 at h;rw[jeO,ja1]at h;rcases h with h|h|h
  .exact Or.inl (List.takeWhile_subset _ h)
  .exact Or.inr h
  .exact Or.inl (List.dropWhile_subset _ h)
theorem jrY:∀(m s:jgn),(m.foldl (λs p=>jiJ s p.1 p.2) s).length<=s.length+m.length
 | [],s=>by simp
 |p::m,s=>by
  rw[List.foldl_cons,jfC];have:=jrY m (jiJ s p.1 p.2);have:=jn6 s p.1 p.2;omega
theorem jrZ:∀(m s:jgn){q:Xb×T},q∈m.foldl (λs p=>jiJ s p.1 p.2) s->q∈s\/q∈m
 | [],s,q,h=>Or.inl h
 |p::m,s,q,h=>by
  rw[List.foldl_cons]at h;rcases jrZ m _ h with h|h
  .rcases jrb h with h|h
   .exact Or.inl h
   .exact Or.inr (by rw[h];simp)
  .exact Or.inr (by simp[h])
theorem jzB{m:jgn}{q:Xb×T}(h:q∈jiC m):q∈m:=by
 rcases jrZ m [] h with h|h
 .cases h
 .exact h
theorem jCT(m:jgn)(hm:∀q∈m,Tz q.2)(hl:m.length<=1000000):G 294 [sbs m]=some (sb (jiC m),[]):=by
 have key:=upto (P:=λi=>∀s:jgn,s.length<=i->jtn (sbs m) (vi i) [] (s.map bc)=some (sb ((m.drop i).foldl (λs p=>jiJ s p.1 p.2) s),[])) (n:=m.length) ?_ ?_ 0 (Nat.zero_le _) [] (jdB _)
 .rw [jK3];exact key
 .intro s _;rw[jCh,List.drop_length];simp only[evz];rfl
 .intro i hi ih s hs;have hlt:(i:Int)<((m.length:Nat):Int):=by omega
  have h5:=jgj hi (by show m.length<=9223372036854775807;omega)
  have e1:=jt0 s (by omega) m[i].1 m[i].2 (hm _ (jfL _));have:=jn6 s m[i].1 m[i].2;have ih:=ih (jiJ s m[i].1 m[i].2) (by omega);rw[jCh,jgg hi,List.foldl_cons];simp only[evz,hlt,jfY hi,jj4,e1,h5,ih]
theorem jH9{n:Nat}(h:n<=4194304):jbB n 24=true:=by
 unfold jbB;exact decide_eq_true ⟨by omega,by omega⟩
theorem jIa{n:Nat}(h:n<=4194304):jbB n 8=true:=by
 unfold jbB;exact decide_eq_true ⟨by omega,by omega⟩
abbrev pln(p:Xf):A:= .sl 1 (p.map λn=>[vi (n:Nat)])
abbrev plc(p:Xf):Xd:=[pln p]
theorem jEA(p:Xf)(h:p.length<=4194304):jxJ (pln p)=some (.top,[pln p]):=by
 rw[jHA];have:=jIa (n:=p.length) h;simp only[evz,this]
mutual
theorem joQ:∀t:T,(jkS t).length=nodes t
 |.mk n us=>by
  rw[jkS,nodes,jf7,jsh us 0];simp;omega
theorem jsh:∀(us:Xg)(i:Nat),(jkq i us).length=jgm us
 | [],i=>rfl
 |t::ts,i=>by
  rw[jkq,jgm,jf7,List.length_map,joQ t,jsh ts (i+1)]
end
theorem post_eq:∀(t:T)(p:Xf),Tz t->p.length+tsz t<=2000000->G 292 [tm t,pln p]=some (.sl 1 ((jkS t).map λq=>plc (p++q)),[]):=by
 refine T.ind λt ih p ht hp=>?_;have hs:=ht;unfold Tz at hs;rw[jgL]at hs hp;have hnl:=jh5 t;have hne:=jgx t;have e0:=jEA p (by omega);have hsplit:∀i,i<=t.args.length->jgm (t.args.take i)+jgm (t.args.drop i)=jgm t.args:=by
  intro i _;have:∀a b:Xg,jgm (a++b)=jgm a+jgm b:=by
   intro a b;induction a with
   |nil=>simp[jgm]
   |cons x a ih=>simp only[jf0,jgm,ih];omega
  rw[<-this,jfK]
 have key:=upto (P:=λi=>∀R:Xc,R.length+jgm (t.args.drop i)<=2000000->jtm (pln p) (vi i) (sv t.name) (tms t.args) R=some (.sl 1 (R++(jkq i (t.args.drop i)++[[]]).map λq=>plc (p++q)),[])) (n:=t.args.length) ?_ ?_ 0 (Nat.zero_le _) [] (by simp;unfold Tz at ht;omega)
 .rw [jK2,jvE];simp only[Int.natCast_zero,jfw,List.drop_zero]at key;simp only[evz,key]
 .intro R hR;rw[jCe,List.drop_length];have hf:jbB (R.length+1) 24=true:=jH9 (by omega);simp only[evz,e0,hf];rw[jkq,jfw,jd1,jf4];rfl
 .intro i hi ih2 R hR;have hlt:(i:Int)<((t.args.length:Nat):Int):=by omega
  have h5:=jgj hi (by show t.args.length<=9223372036854775807;omega)
  have hm:tsz t.args[i]<=jjE t.args:=jhr (jfL _);have ed:jgm (t.args.drop i)=nodes t.args[i]+jgm (t.args.drop (i+1)):=by rw[jgg hi];rfl
  have e2:=ih t.args[i] (jfL _) (p++[i]) (ht.args _ (jfL _)) (by rw[jf7,List.length_singleton];omega)
  have ea:jeV (p.map λn:Nat=>[vi (n:Nat)]) [[vi (i:Nat)]]=(p++[i]).map λn:Nat=>[vi (n:Nat)]:=by rw[List.map_append];rfl
  have hf1:jbB (p.length+1) 8=true:=jIa (by omega);have hpl:=joQ t.args[i];have hf2:jbB (R.length+(jkS t.args[i]).length) 24=true:=jH9 (by omega);have ih3:=ih2 (jeV R ((jkS t.args[i]).map λq=>plc ((p++[i])++q))) (by show(R++_).length+_<=_;rw[jf7,List.length_map];omega);rw[jCe,jgg hi,jkq];simp only[evz,hlt,jfY hi,jga,e0,hf1,ea,e2,hf2,h5,ih3];congr 2;show A.sl 1 ((R++_)++_)=_;congr 1;rw[jet,jet,List.map_append,List.map_append,jfs];congr 2;refine List.map_congr_left λq _=>?_;show plc (p++[i]++q)=plc (p++(i::q));rw[jet];rfl;rw[List.map_append]
def okP:Xf->T->Prop
 | [],_=>True
 |i::p,t=>i<t.args.length/\okP p (t.args.getD i (.mk [] []))
theorem jhC{ts:Xg}{i:Nat}(h:i<ts.length):ts.getD i (.mk [] [])=ts[i]:=by rw[jcQ,jam h];rfl
mutual
theorem jvF:∀(t:T),∀p∈jkS t,okP p t/\p.length<=nodes t
 |.mk n us=>λp hp=>by
  rw[jkS,jeO]at hp;rcases hp with hp|hp
  .obtain ⟨j,q,rfl,h1,h2,h3⟩:=jvD us 0 p hp;refine⟨?_,?_⟩
   .show (0+j)<us.length/\okP q (us.getD (0+j) _);rw[je8];exact⟨h1,h2⟩
   .rw [jfC,nodes];omega
  .rw [jdC]at hp;subst hp;exact⟨trivial,by simp⟩
theorem jvD:∀(us:Xg)(i:Nat),∀p∈jkq i us,∃j q,p=(i+j)::q/\j<us.length/\okP q (us.getD j (.mk [] []))/\q.length<=jgm us
 | [],i,p,hp=>by rw[jkq]at hp;cases hp
 |t::ts,i,p,hp=>by
  rw[jkq,jeO]at hp;rcases hp with hp|hp
  .obtain ⟨q,hq,rfl⟩:=jfx.1 hp;obtain⟨h1,h2⟩:=jvF t q hq;exact⟨0,q,rfl,by simp,h1,by rw[jgm];omega⟩
  .obtain ⟨j,q,rfl,h1,h2,h3⟩:=jvD ts (i+1) p hp;exact⟨j+1,q,by rw[show i+1+j=i+(j+1) by omega],by simpa using h1,by simpa using h2,by rw[jgm];omega⟩
end
theorem jyx{q:T->Prop}(hq:∀t,q t-> ∀u∈t.args,q u):∀{p:Xf}{t:T},okP p t->q t->q (atT p t)
 | [],_,_,h=>h
 |i::p,t,hp,h=>by
  obtain⟨h1,h2⟩:=hp;refine jyx (p:=p) hq h2 ?_;rw[jhC h1];exact hq t h _ (jfL _)
theorem jvC(i:Nat)(p:Xf):pln (i::p) = .sl 1 ([vi (i:Nat)]::p.map λn=>[vi (n:Nat)]):=rfl
theorem jj2{p:Xf}{i:Nat}(h:i<p.length):kL 1 (pln p) (vi (i:Nat))=some (.elt [vi (p[i]:Nat)] 0):=jfY h
theorem at_eq(t:T)(p:Xf)(ht:Tz t)(hp:okP p t)(hl:p.length<=2000000):G 177 [tm t,pln p]=some (.tup [tm (atT p t),vb true],[]):=by
 have key:=upto (P:=λi=>∀t:T,Tz t->okP (p.drop i) t->jpZ (pln p) (vi i) (sv t.name) (tms t.args) (sv []) []=some (.tup [tm (atT (p.drop i) t),vb true],[])) (n:=p.length) ?_ ?_ 0 (Nat.zero_le _) t ht hp
 .rw [jHK];simp only[evz];exact key
 .intro t ht _;have e1:=jmh t ht;rw[jtK,List.drop_length];simp only[evz,e1];rfl
 .intro i hi ih t ht hp;have hlt:(i:Int)<((p.length:Nat):Int):=by omega
  have h5:=jgj hi (by show p.length<=9223372036854775807;omega)
  have hs:=ht;unfold Tz at hs;rw[jgL]at hs;rw[jgg hi]at hp⊢;obtain⟨h1,h2⟩:=hp;have hsub:ck (((t.args.length:Nat):Int)-1)=some (vi (((t.args.length:Nat):Int)-1)):=jgA (by omega) (by omega);have hin:=jhd ((p[i]:Nat):Int) 0 (((t.args.length:Nat):Int)-1);have hb:inB 0 (((t.args.length:Nat):Int)-1) ((p[i]:Nat):Int)=true:=by unfold inB;simp;omega
  rw[hb]at hin;have e:t.args.getD p[i] (.mk [] [])=t.args[p[i]]:=jhC h1;rw[e]at h2;have ih:=ih _ (ht.args _ (jfL h1)) h2;rw[jtK,atT,e];simp only[evz,hlt,jj2 hi,hsub,hin,jfY h1,jga,h5,ih]
theorem jyA(t:T)(ht:Tz t):jxI (sv t.name) (tms t.args)=some (.top,[sv t.name,tms t.args]):=by
 have h:=ht;unfold Tz at h;rw[jgL]at h;have key:=(upto (P:=λi=>jpE (vi i) (sv t.name) (tms t.args) (sv []) (sv t.name) [] ((t.args.take i).map jgi)=some (.top,[sv t.name,tms t.args])) (n:=t.args.length) ?_ ?_ 0 (Nat.zero_le _))
 .rw [jHz];simp only[Int.natCast_zero,List.take_zero,List.map_nil]at key;simp only[evz,key]
 .rw [jyq,List.take_length];simp only[evz]
 .intro i hi ih';have hlt:(i:Int)<((t.args.length:Nat):Int):=by omega
  have h5:=jgj hi (by show t.args.length<=9223372036854775807;omega)
  have e1:=jmh t.args[i] (by have:=jhr (jfL hi);omega)
  have hf:jbB (i+1) 40=true:=jvw (by omega);have hl:((t.args.take i).map jgi).length=i:=by rw[List.length_map,List.length_take];omega
  have ha:jeV ((t.args.take i).map jgi) [[sv t.args[i].name,tms t.args[i].args]]=(t.args.take (i+1)).map jgi:=by
   rw[show[sv t.args[i].name,tms t.args[i].args]=jgi t.args[i] from(jgT _).symm,List.take_add_one,jam hi,List.map_append];rfl
  rw[jyq];simp only[evz,hlt,jfY hi,jga,e1,hl,hf,ha,h5,ih']
theorem jue(s:T)(hs:Tz s):∀(p:Xf)(t:T),Tz t->okP p t->p.length<=2000000->G 180 [tm t,pln p,tm s]=some (tm (jgM s p t),[])
 | [],t,_,_,_=>by
  have e1:=jyA s hs;have hz:(((0:Nat):Int)=0)=True:=by simp
  rw[jHL,jgM];simp only[evz,hz,e1,List.map_nil,List.getElem?_cons_zero]
 |i::p,t,ht,hp,hl=>by
  obtain⟨h1,h2⟩:=hp;have e:t.args.getD i (.mk [] [])=t.args[i]:=jhC h1;rw[e]at h2;have e1:=jyA t ht;have e2:=jue s hs p t.args[i] (ht.args _ (jfL h1)) h2 (by rw[jfC]at hl;omega);have hz:¬((p.length+1:Nat):Int)=0:=by omega
  have hz2:¬((p.length:Nat):Int)+1=0:=by omega
  have i0:kL 1 (pln (i::p)) (vi 0)=some (.elt [vi (i:Nat)] 0):=jj2 (p:=i::p) (i:=0) (by simp);have sl:Jy 1 (pln (i::p)) (some (vi 1)) none=some (pln p):=by
   have:=jhJ (k:=1) (xs:=(i::p).map λn:Nat=>[vi (n:Nat)]) (i:=1) (by simp);exact this
  have ix:pIx t.args.length (vi (i:Nat))=some i:=jgZ h1;have rg:jbF (t.args.map jgi) i=some (jgi t.args[i]):=by unfold jbF;simp[h1]
  have co:Zj (jgi t.args[i]) 0 [sv (jgM s p t.args[i]).name,tms (jgM s p t.args[i]).args]=jgi (jgM s p t.args[i]):=by rw[jgT,jgT];rfl
  have rs:Y9 (t.args.map jgi) i (jgi (jgM s p t.args[i]))=(t.args.set i (jgM s p t.args[i])).map jgi:=by unfold Y9;rw[List.map_set]
  have ll:(jcV (pln (i::p)))=some (vi ((p.length+1:Nat):Int)):=by rw[jvC];simp only[evz]
  rw[jHL,jgM,e];simp only[evz,ll,hz,e1,i0,jfY h1,jga,sl,e2,ix,rg,co,rs,List.getElem?_cons_zero];rfl
theorem joi{n:Xb}(h:jgk n=true):n.length<=4:=by
 cases n with
 |nil=>simp
 |cons c r=>
  simp only[jgk,jbX,jfH]at h;rw[jfC];omega
theorem jzP{n:Xb}(h:jhO n=true):n.length<=6:=by
 cases n with
 |nil=>simp
 |cons c r=>
  simp only[jhO,jbX,jfH]at h;rw[jfC];omega
theorem joL:∀t:T,okT t=true->tsz t<=10*nodes t:=by
 refine T.ind λt ih hk=>?_;have hL:∀us:Xg,(∀u∈us,tsz u<=10*nodes u)->jjE us<=10*jgm us:=by
  intro us;induction us with
  |nil=>intro _;simp[jjE]
  |cons u us ih2=>
   intro h;have:=h u (by simp);have:=ih2 λw hw=>h w (by simp[hw]);simp only[jjE,jgm];omega
 have h1:=hL t.args λu hu=>ih u hu (jgQ hk u hu);rw[jgL,jgx];rw[jht]at hk;cases hv:jgk t.name with
 |true=>
  rw[hv,jbZ rfl]at hk;have:=joi hv;rw[List.isEmpty_iff.1 hk]at h1⊢;simp only[jfJ,jjE]at h1⊢;omega
 |false=>
  rw[hv,ja0 Bool.false_ne_true,jbX,jbX,jfH]at hk;have:=jzP hk.1;omega
theorem jso{u:jgn}{Z:Nat}(hZ:1<=Z)(hu:∀q∈u,nodes q.2<=Z):∀t:T,nodes (sub u t)<=nodes t*Z:=by
 refine T.ind λt ih=>?_;cases hv:jgk t.name with
 |true=>
  have h1:=jhX t;have h2:1*Z<=nodes t*Z:=jeS Z h1;rw[jig hv,jid];cases hl:look u t.name with
  |none=>show 1+0<=_;omega
  |some r=>have:nodes r<=Z:=hu _ (jiw hl);show nodes r<=_;omega
 |false=>
  have hL:∀us:Xg,(∀v∈us,nodes (sub u v)<=nodes v*Z)->jgm (us.map (sub u))<=jgm us*Z:=by
   intro us;induction us with
   |nil=>intro _;simp[jgm]
   |cons v us ih2=>
    intro h;have:=h v (by simp);have:=ih2 λw hw=>h w (by simp[hw]);simp only[jd1,jgm,jb5];omega
  have:=hL t.args ih;rw[jgx,jmm hv,jgx t,jb5];omega
theorem jh9{t u:T}(h:u∈t.args):nodes u<nodes t:=by
 have:=jhN h;have:=jgx t;omega
def Vs(t:T):Prop:=okT t=true/\nodes t<=30
theorem Vs.args{t:T}(h:Vs t):∀u∈t.args,Vs u:=λu hu=>⟨jgQ h.1 u hu,by have:=jh9 hu;have:=h.2;omega⟩
theorem Vs.tz{t:T}(h:Vs t):Tz t:=by
 have:=joL t h.1;have:=h.2;unfold Tz;omega
def RS(rs:Xg):Prop:=rs.length<=10/\ ∀r∈rs,r.args.length=2/\Vs (ji6 r)/\Vs (jkC r)
theorem RS.ok{rs:Xg}(h:RS rs):jk6 rs:=λr hr=>⟨(h.2 r hr).2.1.1,(h.2 r hr).2.2.1⟩
def EX(root:Bool)(t:T):Prop:=(nodes t<=31/\Tz t)/\(∀u∈t.args,Vs u)/\(root=true->Vs t)
theorem jCw{a s:T}{m:jgn}(hs:Vs s)(h:mt [] a s=some m):MOk Vs m:=jbw (p:=Vs) (λ_ h=>h.args) a (MOk.nil _) hs h
theorem jsm{r:T}(hl:r.args.length=2):kL 2 (tms r.args) (vi 0)=some (.elt (jgi (ji6 r)) 0)/\kL 2 (tms r.args) (vi 1)=some (.elt (jgi (jkC r)) 0):=by
 have i0:kL 2 (tms r.args) (vi 0)=some (.elt (jgi r.args[0]) 0):=jfY (i:=0) (by omega);have i1:kL 2 (tms r.args) (vi 1)=some (.elt (jgi r.args[1]) 0):=jfY (i:=1) (by omega);have e0:ji6 r=r.args[0]:=jhC (by omega);have e1:jkC r=r.args[1]:=jhC (by omega);rw[e0,e1];exact⟨i0,i1⟩
theorem jDg{m:jgn}{r:T}(hm:MOk Vs m)(hr:Vs r):okT (sub m r)=true/\nodes (sub m r)<=900/\Tz (sub m r):=by
 have h1:=jkc (u:=m) (λq hq=>(hm.2 q hq).2.1) r hr.1;have h2:=jso (u:=m) (Z:=30) (by decide) (λq hq=>(hm.2 q hq).2.2) r;have h3:=hr.2;have h4:=joL _ h1;exact⟨h1,by omega,by unfold Tz;omega⟩
theorem jC4{rs:Xg}(hr:RS rs){s v:T}(hs:Vs s)(h:jif rs s=some v):okT v=true/\nodes v<=900:=by
 have key:∀rs:Xg,(∀r∈rs,r.args.length=2/\Vs (ji6 r)/\Vs (jkC r))->jif rs s=some v->okT v=true/\nodes v<=900:=by
  intro rs;induction rs with
  |nil=>intro _ h;simp[jif]at h
  |cons r rs ih=>
   intro hr h;rw[jif]at h;split at h
   .rename_i m hm;cases h;obtain⟨a,b,_⟩:=jDg (jCw hs hm) (hr r (by simp)).2.2;exact⟨a,b⟩
   .exact ih (λq hq=>hr q (by simp[hq])) h
 exact key rs hr.2 h
def jEz(t:T)(o:Option T):Xe:=match o with|some u=>some (.tup [tm u,vb true],[])|none=>some (.tup [tm t,vb false],[])
theorem EX.at{root:Bool}{t:T}(h:EX root t){p:Xf}(hp:okP p t)(hne:¬(p=[]/\root=false)):Vs (atT p t):=by
 obtain⟨_,h1,h2⟩:=h;cases p with
 |nil=>
  cases root
  .exact absurd ⟨rfl,rfl⟩ hne
  .exact h2 rfl
 |cons i p=>
  obtain⟨a,b⟩:=hp;refine jyx (p:=p) (q:=Vs) (λ_ h=>h.args) b ?_;rw[jhC a];exact h1 _ (jfL _)
theorem jzm(rs:Xg)(hr:RS rs)(root:Bool)(t:T)(h:EX root t):G 259 [tm t,tms rs,vb root]=jEz t (jj0 rs root t):=by
 have hrt:=h.1.2;have hpost:=post_eq t [] hrt (by have:=hrt;unfold Tz at this;simp;omega);have hpost:G 292 [tm t,.sl 1 []]=some (.sl 1 ((jkS t).map plc),[]):=hpost;have hok:=jvF t;have hln:=joQ t;have hr1:=hr.1;rw[<-jzl];generalize hP:jkS t=P at *;have key:=upto (P:=λi=>jov (tms rs) (vb root) (.sl 1 (P.map plc)) (vi i) (sv t.name) (tms t.args) (sv []) []=jEz t ((P.drop i).findSome? (jkb rs root t))) (n:=P.length) ?_ ?_ 0 (Nat.zero_le _)
 .rw [jKG];simp only[Int.natCast_zero,List.drop_zero]at key;simp only[evz,hpost,key]
 .rw [jwY,List.drop_length];show _=some (A.tup [tm t,vb false],[]);simp only[evz]
 .intro i hi ih;have hn:=h.1.1;have hlt:(i:Int)<((P.length:Nat):Int):=by omega
  have h5:=jgj hi (by show P.length<=9223372036854775807;omega)
  have hpi:kL 1 (.sl 1 (P.map plc)) (vi (i:Nat))=some (.elt (plc P[i]) 0):=jfY hi;have hpl:jcV (pln P[i])=some (vi ((P[i].length:Nat):Int)):=by simp only[evz]
  obtain⟨ho,hl⟩:=hok P[i] (jfL _);rw[jgg hi,List.findSome?_cons];by_cases hc:P[i]=[]/\root=false
  .rw [jkb,jbZ hc];obtain⟨c1,c2⟩:=hc;subst c2;have c3:(((P[i]).length:Nat):Int)=0:=by rw[c1];rfl
   rw[jwY];simp only[evz,hlt,hpi,hpl,c3,h5,ih]
  .have hs:=h.at ho hc;rw[jkb,ja0 hc];have e1:=at_eq t P[i] hrt ho (by omega);have inner:∀j,j<=rs.length->jow (tms rs) (vb root) (.sl 1 (P.map plc)) (vi i) (vi j) (sv t.name) (tms t.args) (sv []) (sv (atT P[i] t).name) (tms (atT P[i] t).args) []=(match jif (rs.drop j) (atT P[i] t)with|some v=>jEz t (some (jgM v P[i] t))|none=>jEz t ((P.drop (i+1)).findSome? (jkb rs root t))):=by
    refine upto ?_ ?_
    .rw [jB4,List.drop_length,jif];simp only[evz,h5,ih]
    .intro j hj ihj;have hltj:(j:Int)<((rs.length:Nat):Int):=by omega
     have h5j:=jgj hj (by show rs.length<=9223372036854775807;omega)
     obtain⟨hr2,hr3,hr4⟩:=hr.2 rs[j] (jfL _);obtain⟨i0,i1⟩:=jsm hr2;have ad:jdk (.elt (jgi rs[j]) 0) 1=some (.elt (jgi rs[j]) 1):=by rw[jip]
     have lp:QO (.elt (jgi rs[j]) 1)=some (tms rs[j].args):=by rw[jgT];rfl
     have q:=jvc (ji6 rs[j]) hr3.tz (atT P[i] t) [] hs.tz (λq hq=>by cases hq) (by have:=hr3.2;simp;omega)
     rw[jB4,jgg hj,jif];cases hm:mt [] (ji6 rs[j]) (atT P[i] t)with
     |none=>
      rw[hm]at q;obtain⟨R,q⟩:=q;have q:jpQ (tm (ji6 rs[j])) (sv (atT P[i] t).name) (tms (atT P[i] t).args) []=some (.top,[vb false,.sl 259 R]):=q;simp only[evz,hltj,jfY hj,ad,lp,i0,jga,q,List.getElem?_cons_zero,h5j,ihj]
     |some m=>
      rw[hm]at q;have q:jpQ (tm (ji6 rs[j])) (sv (atT P[i] t).name) (tms (atT P[i] t).args) []=some (.top,[vb true,.sl 259 (m.map bc)]):=q;have hM:=jCw hs hm;obtain⟨_,hml⟩:=jqU (p:=Vs) (λ_ h=>h.args) _ (m:=[]) (λq hq=>by cases hq) hs hm;have hml:m.length<=30:=by have:=hr3.2;simp at hml;omega
      have p1:=jCT m (λq hq=>(hM.2 q hq).2.tz) (by omega);have hsz:Sz 1048576 (jiC m):=by
       refine⟨?_,λq hq=>?_⟩
       .have:=jrY m [];show(jiC m).length<=_;unfold jiC;simp at this;omega
       .have hq:=jzB hq;have:=joi (hM.2 q hq).1;have:=(hM.2 q hq).2.tz;unfold Tz at this;exact⟨by omega,by omega⟩
      have p2:=jjg (jiC m) hsz (jkC rs[j]) hr4.tz;rw[jzO (m:=m) ⟨hM.1,λq hq=>⟨(hM.2 q hq).1,(hM.2 q hq).2.1⟩⟩]at p2;obtain⟨_,_,s3⟩:=jDg hM hr4;have p3:=jue (sub m (jkC rs[j])) s3 P[i] t hrt ho (by omega);show _=some (A.tup [tm (jgM (sub m (jkC rs[j])) P[i] t),vb true],[]);simp only[evz,hltj,jfY hj,ad,lp,i0,i1,jga,q,List.getElem?_cons_zero,hpi,p1,p2,p3]
   have inner:=inner 0 (Nat.zero_le _);simp only[List.drop_zero,Int.natCast_zero]at inner;have fin:jov (tms rs) (vb root) (.sl 1 (P.map plc)) (vi i) (sv t.name) (tms t.args) (sv []) []=jow (tms rs) (vb root) (.sl 1 (P.map plc)) (vi i) (vi 0) (sv t.name) (tms t.args) (sv []) (sv (atT P[i] t).name) (tms (atT P[i] t).args) []:=by
    rw[jwY];cases root with
    |true=>
     by_cases c:(((P[i]).length:Nat):Int)=0
     .simp only[evz,hlt,hpi,hpl,c,e1]
     .simp only[evz,hlt,hpi,hpl,c,e1]
    |false=>
     have c:¬(((P[i]).length:Nat):Int)=0:=λc=>hc ⟨List.length_eq_zero_iff.1 (by omega),rfl⟩;simp only[evz,hlt,hpi,hpl,c,e1]
   rw[fin,inner];cases jif rs (atT P[i] t)with
   |none=>rfl
   |some v=>rfl
def jd0(o:Option T):Xe:=match o with|some u=>some (.tup [tm u,vb true],[])|none=>some (.tup [.agg [sv [],.sl 2 []],vb false],[])
theorem jxd(rs:Xg)(hr:RS rs):∀(t:T)(root:Bool),Tz t->(∀u∈t.args,Vs u)->(root=true->Vs t\/ ∀r∈rs,mt [] (ji6 r) t=none)->G 204 [tm t,tms rs,vb root]=jd0 (jj0 rs root t):=by
 refine T.ind λt ih root ht hA hRt=>?_;have hs:=ht;unfold Tz at hs;rw[jgL]at hs;have hr1:=hr.1;have second:jos (vb root) (tms rs) (vi (rs.length:Nat)) (vi 0) (sv t.name) (tms t.args) (sv []) []=jd0 (if root then jif rs t else none):=by
  have key:=upto (P:=λj=>jos (vb root) (tms rs) (vi (rs.length:Nat)) (vi j) (sv t.name) (tms t.args) (sv []) []=jd0 (if root then jif (rs.drop j) t else none)) (n:=rs.length) ?_ ?_ 0 (Nat.zero_le _)
  .exact key
  .rw [jBE,List.drop_length,jif,ite_self];show _=some (A.tup [.agg [sv [],.sl 2 []],vb false],[]);simp only[evz]
  .intro j hj ihj;have hltj:(j:Int)<((rs.length:Nat):Int):=by omega
   have h5j:=jgj hj (by show rs.length<=9223372036854775807;omega)
   obtain⟨hr2,hr3,hr4⟩:=hr.2 rs[j] (jfL _);obtain⟨i0,i1⟩:=jsm hr2;rw[jBE,jgg hj,jif];cases root with
   |false=>
    simp only[evz,hltj,jfY hj,jga,h5j,ihj]
   |true=>
    have q:=jzi (ji6 rs[j]) hr3.tz hr3.1 t [] ht (λq hq=>by cases hq);cases hm:mt [] (ji6 rs[j]) t with
    |none=>
     rw[hm]at q;obtain⟨R,q⟩:=q;have q:jm8 (tm (ji6 rs[j])) (sv t.name) (tms t.args) []=some (.top,[vb false,.sl 128 R]):=q;simp only[evz,hltj,jfY hj,i0,jga,q,List.getElem?_cons_zero,h5j,ihj]
    |some m=>
     rw[hm]at q;have q:jm8 (tm (ji6 rs[j])) (sv t.name) (tms t.args) []=some (.top,[vb true,.sl 128 (m.map kv)]):=q;have hM:=(match hRt rfl with|Or.inl hv=>jCw hv hm|Or.inr hno=>by rw[hno _ (jfL _)]at hm;cases hm);have p1:=jxn (m:=m) (λq hq=>(hM.2 q hq).1) (λq hq=>(hM.2 q hq).2.tz) (jkC rs[j]) hr4.tz hr4.1;show _=some (A.tup [tm (sub m (jkC rs[j])),vb true],[]);simp only[evz,hltj,jfY hj,i0,i1,jga,q,List.getElem?_cons_zero,p1]
 have first:∀i,i<=t.args.length->jsW (tms rs) (vb root) (tms t.args) (vi (t.args.length:Nat)) (vi i) (sv t.name) (tms t.args) (sv []) []=(match ji7 rs (t.args.drop i)with|some us=>jd0 (some (.mk t.name (t.args.take i++us)))|none=>jd0 (if root then jif rs t else none)):=by
  refine upto ?_ ?_
  .rw [jBD,List.drop_length,ji7];simp only[evz,second]
  .intro i hi ih2;have hlt:(i:Int)<((t.args.length:Nat):Int):=by omega
   have h5:=jgj hi (by show t.args.length<=9223372036854775807;omega)
   have hu:t.args[i]∈t.args:=jfL _;have hv:=hA _ hu;have e1:=ih t.args[i] hu true hv.tz hv.args λ_=>Or.inl hv;rw[jBD,jgg hi,ji7];cases ho:jj0 rs true t.args[i]with
   |none=>
    rw[ho]at e1;have e1:G 204 [tm t.args[i],tms rs,vb true]=some (.tup [.agg [sv [],.sl 2 []],vb false],[]):=e1;simp only[evz,hlt,jfY hi,jga,e1,h5,ih2];cases ji7 rs (t.args.drop (i+1))with
    |none=>rfl
    |some us=>
     show jd0 (some (.mk t.name (t.args.take (i+1)++us)))=jd0 (some (.mk t.name (t.args.take i++t.args[i]::us)));have e:t.args.take (i+1)++us=t.args.take i++t.args[i]::us:=by
      rw[List.take_add_one,jam hi,jet];rfl
     rw[e]
   |some u=>
    rw[ho]at e1;have e1:G 204 [tm t.args[i],tms rs,vb true]=some (.tup [tm u,vb true],[]):=e1;have e2:=jtB t ht;have ix:pIx t.args.length (vi (i:Nat))=some i:=jgZ hi;have rg:jbF (t.args.map jgi) i=some (jgi t.args[i]):=by unfold jbF;simp[hi]
    have co:Zj (jgi t.args[i]) 0 [sv u.name,tms u.args]=jgi u:=by rw[jgT,jgT];rfl
    have rs':Y9 (t.args.map jgi) i (jgi u)=(t.args.take i++u::t.args.drop (i+1)).map jgi:=by
     unfold Y9;rw[<-List.map_set,List.set_eq_take_append_cons_drop,jbZ hi]
    show _=some (A.tup [tm (.mk t.name (t.args.take i++u::t.args.drop (i+1))),vb true],[]);simp only[evz,hlt,jfY hi,jga,e1,e2,ix,rg,co,rs',List.getElem?_cons_zero];rfl
 have first:=first 0 (Nat.zero_le _)
 simp only[List.drop_zero,Int.natCast_zero,List.take_zero,jfw]at first
 rw[jJZ,jlo];simp only[evz,first];cases ji7 rs t.args<;>rfl
theorem jzk(rs:Xg)(hr:RS rs)(t:T)(root:Bool)(h:EX root t):G 204 [tm t,tms rs,vb root]=jd0 (jj0 rs root t):=jxd rs hr t root h.1.2 h.2.1 λe=>Or.inl (h.2.2 e)
def Srt(l:Xa):Prop:=l.Pairwise λx y=>x<y
theorem jj9(x y:Xb):sLt x y=decide (x<y):=Go.Proofs.bytesLess_eq x y
theorem jCt{x y:Xb}(h1:¬x<y)(h2:x≠y):y<x:=by
 have h3:y<=x:=List.not_lt.1 h1;exact Std.lt_of_le_of_ne h3 (Ne.symm h2)
theorem jyG:∀(a b:Xa),Srt a->Srt b->(∀n,n∈a↔n∈b)->a=b
 | [],[],_,_,_=>rfl
 | [],y::b,_,_,h=>by have:=(h y).2 (by simp);cases this
 |x::a,[],_,_,h=>by have:=(h x).1 (by simp);cases this
 |x::a,y::b,ha,hb,h=>by
  have ha':=List.pairwise_cons.1 ha;have hb':=List.pairwise_cons.1 hb;have hxy:x=y:=by
   have h1:x∈y::b:=(h x).1 (by simp);have h2:y∈x::a:=(h y).2 (by simp);rcases ja1.1 h1 with h1|h1
   .exact h1
   .rcases ja1.1 h2 with h2|h2
    .exact h2.symm
    .exact absurd (List.lt_trans (ha'.1 y h2) (hb'.1 x h1)) (List.lt_irrefl x)
  subst hxy;refine congrArg (x::·) (jyG a b ha'.2 hb'.2 λn=>⟨λhn=>?_,λhn=>?_⟩)
  .rcases ja1.1 ((h n).1 (List.mem_cons_of_mem _ hn))with e|e
   .subst e;exact absurd (ha'.1 _ hn) (List.lt_irrefl _)
   .exact e
  .rcases ja1.1 ((h n).2 (List.mem_cons_of_mem _ hn))with e|e
   .subst e;exact absurd (hb'.1 _ hn) (List.lt_irrefl _)
   .exact e
theorem jDd{l:Xa}(h:l.Nodup):Srt (ke l):=by
 have h1:(ke l).Pairwise λx y=>decide (x<=y)=true:=List.pairwise_mergeSort (λa b c h1 h2=>by simp only[jfH]at *;exact List.le_trans h1 h2) (λa b=>by simp only[Bool.or_eq_true,jfH];exact List.le_total a b) l
 have h2:(ke l).Nodup:=(List.mergeSort_perm l _).nodup_iff.2 h;exact(h1.and h2).imp λ{x y} hxy=>Std.lt_of_le_of_ne (by simpa using hxy.1) hxy.2
theorem jyH{l:Xa}{s:Xb}{i:Nat}(hl:Srt l)(h1:∀x∈l.take i,x<s)(h2:∀h:i<l.length,s<l[i]):Srt (l.take i++[s]++l.drop i):=by
 have hl':Srt (l.take i++l.drop i):=by rw[jfK];exact hl
 obtain⟨p1,p2,p3⟩:=List.pairwise_append.1 hl';have h3:∀y∈l.drop i,s<y:=by
  intro y hy;have hlt:i<l.length:=by
   rcases Nat.lt_or_ge i l.length with h|h
   .exact h
   .rw [List.drop_of_length_le h]at hy;cases hy
  rw[List.drop_eq_getElem_cons hlt]at hy p2;rcases ja1.1 hy with e|e
  .subst e;exact h2 hlt
  .exact List.lt_trans (h2 hlt) ((List.pairwise_cons.1 p2).1 y e)
 refine List.pairwise_append.2 ⟨List.pairwise_append.2 ⟨p1,by simp,λa ha b hb=>?_⟩,p2,λa ha b hb=>?_⟩
 .rw [jdC.1 hb];exact h1 a ha
 .rcases jeO.1 ha with ha|ha
  .exact p3 a ha b hb
  .rw [jdC.1 ha];exact h3 b hb
theorem jzL{l:Xa}(h:Srt l):l.Nodup:=h.imp λ{x y} hxy e=>by subst e;exact List.lt_irrefl _ hxy
mutual
def jkd:T->Xa
 |.mk n us=>(if jgk n then[]else[n])++jis us
def jis:Xg->Xa
 | []=>[]
 |t::ts=>jkd t++jis ts
end
theorem jkW(t:T):jkd t=(if jgk t.name then[]else[t.name])++jis t.args:=by cases t;rfl
theorem jy7(l:Xa)(s:Xb)(hl:l.length<=2100000):∃r,G 254 [strs l,sv s]=some (strs r,[])/\jnu l [s] 1 r/\(Srt l->Srt r):=by
 have key:=upto (P:=λi=>(Srt l-> ∀x∈l.take i,x<s)-> ∃r,jqa (strs l) (sv s) (vi i)=some (strs r,[])/\jnu l [s] 1 r/\(Srt l->Srt r)) (n:=l.length) ?_ ?_ 0 (Nat.zero_le _)
 .simp only[Int.natCast_zero]at key;rw[jHS];exact key (by simp)
 .intro hless;have hx:¬((l.length:Nat):Int)<((l.length:Nat):Int):=Int.lt_irrefl _;have s1:Jy 1 (strs l) none (some (vi (l.length:Nat)))=some (strs l):=by rw[jiW (by simp),jfU (by simp)]
  have s2:Jy 1 (strs l) (some (vi (l.length:Nat))) none=some (.sl 1 []):=by rw[jhJ (by simp),List.drop_of_length_le (by simp)]
  have f1:jbB l.length 16=true:=jiN (by omega);have f2:jbB (l.length+1) 16=true:=jiN (by omega);have happ:jeV (jeV (l.map cs) [[sv s]]) []=(l++[s]).map cs:=by simp[jeV]
  have hlen:(jeV (l.map cs) [[sv s]]).length=l.length+1:=by simp[jeV]
  refine⟨l++[s],?_,⟨by intro n;simp,by simp⟩,λh=>?_⟩
  .rw [jtM];simp only[evz,hx,s1,s2,f1,f2,hlen,happ,jfg]
  .have:=jyH (s:=s) (i:=l.length) h (hless h) (λh=>absurd h (Nat.lt_irrefl _));simpa using this
 .intro i hi ih hless;have hlt:(i:Int)<((l.length:Nat):Int):=by omega
  have h5:=jgj hi (by omega);rw[jtM];cases h1:sLt l[i] s
  .by_cases h2:l[i]=s
   .refine ⟨l,?_,⟨λn=>⟨λh=>Or.inl h,λh=>by
     rcases h with h|h
     .exact h
     .simp at h;rw[h,<-h2];exact jfL _⟩,by omega⟩,id⟩
    rw[h2]at h1;simp only[evz,hlt,jfY hi,h2,h1]
   .have s1:Jy 1 (strs l) none (some (vi i))=some (strs (l.take i)):=by rw[jiW (by simp;omega),<-List.map_take]
    have s2:Jy 1 (strs l) (some (vi i)) none=some (strs (l.drop i)):=by rw[jhJ (by simp;omega),<-List.map_drop]
    have ht:(l.take i).length=i:=by rw[List.length_take];omega
    have f1:jbB i 16=true:=jiN (by omega);have f2:jbB (i+1) 16=true:=jiN (by omega);have f3:jbB (i+1+(l.drop i).length) 16=true:=jiN (by rw[List.length_drop];omega);have happ:jeV (jeV ((l.take i).map cs) [[sv s]]) ((l.drop i).map cs)=(l.take i++[s]++l.drop i).map cs:=by simp[jeV]
    have hlen:(jeV ((l.take i).map cs) [[sv s]]).length=i+1:=by simp[jeV];omega
    refine⟨l.take i++[s]++l.drop i,?_,⟨λn=>?_,by simp;omega⟩,λh=>?_⟩
    .simp only[evz,hlt,jfY hi,h1,h2,s1,s2,ht,f1,f2,f3,hlen,happ]
    .have hm:n∈l↔n∈l.take i\/n∈l.drop i:=by rw[<-jeO,jfK]
     simp only[jeO,jdC,hm];exact⟨λh=>by rcases h with(h|h)|h<;>simp[h],λh=>by rcases h with(h|h)|h<;>simp[h]⟩
    .rw [jj9,decide_eq_false_iff_not]at h1;exact jyH h (hless h) λ_=>jCt h1 h2
  .have hx:l[i]<s:=by rw[jj9,jfH]at h1;exact h1
   obtain⟨r,e,c⟩:=ih λh x hm=>by
    rw[List.take_succ_eq_append_getElem hi]at hm;rcases jeO.1 hm with hm|hm
    .exact hless h x hm
    .rw [jdC.1 hm];exact hx
   refine⟨r,?_,c⟩;simp only[evz,hlt,jfY hi,h1,h5,e]
theorem jo6:∀t:T,twf t-> ∀l:Xa,l.length+nodes t<=2100000-> ∃r,G 216 [strs l,tm t]=some (strs r,[])/\jnu l (jkd t) (nodes t) r/\(Srt l->Srt r):=by
 refine T.ind λt ih hw l hb=>?_;obtain⟨w1,w2,w3⟩:=(jgK t).1 hw;have w3:=(jgF _).1 w3;have e1:=jg9 t.name w1;rw[jKb,jkW];rw[jgx]at hb⊢;have key:=upto (P:=λi=>∀l:Xa,l.length+jgm (t.args.drop i)<=2100000-> ∃r,jp4 (strs l) (vi i) (sv t.name) (tms t.args)=some (strs r,[])/\jnu l (jis (t.args.drop i)) (jgm (t.args.drop i)) r/\(Srt l->Srt r)) (n:=t.args.length) ?_ ?_ 0 (Nat.zero_le _)
 .simp only[Int.natCast_zero,List.drop_zero]at key;cases hv:jgk t.name<;>rw[hv]at e1
  .obtain ⟨r0,e0,⟨b1,b2⟩,b3⟩:=jy7 l t.name (by omega);obtain⟨r,e,⟨c1,c2⟩,c3⟩:=key r0 (by omega);refine⟨r,?_,⟨λn=>?_,by omega⟩,λh=>c3 (b3 h)⟩
   .simp only[evz,e1,e0,e]
   .rw [c1,b1];simp only[jfB,if_false,jeO];exact or_assoc
  .obtain ⟨r,e,⟨c1,c2⟩,c3⟩:=key l (by omega);refine⟨r,?_,⟨by simpa using c1,by omega⟩,c3⟩;simp only[evz,e1,e]
 .intro l hb;rw[jBM,List.drop_length];refine⟨l,?_,⟨by simp[jis],by omega⟩,id⟩;simp only[evz]
 .intro i hi ih' l hb;have hlt:(i:Int)<((t.args.length:Nat):Int):=by omega
  have h5:=jgj hi w2;rw[jgg hi]at hb⊢;simp only[jgm,jis]at hb⊢;obtain⟨r1,a1,⟨c1,c2⟩,c3⟩:=ih t.args[i] (jfL _) (w3 _ (jfL _)) l (by omega);obtain⟨r2,a2,⟨d1,d2⟩,d3⟩:=ih' r1 (by omega);rw[jBM];refine⟨r2,?_,⟨λn=>?_,by omega⟩,λh=>d3 (c3 h)⟩
  .simp only[evz,hlt,jfY hi,jga,a1,h5,a2]
  .rw [d1,c1,jeO];exact or_assoc
theorem jrm{n:Xb}(h:jgk n=true):jhO n=false:=by
 cases n with
 |nil=>rfl
 |cons c r=>
  simp only[jgk,jbX,upc,inB,jfH]at h;have:jmQ c=false:=by unfold jmQ inB;rw[Bool.and_eq_false_iff];left;rw[decide_eq_false_iff_not];omega
  simp[jhO,this]
theorem jv1{t:T}(h:okT t=true):jhO t.name=!jgk t.name:=by
 obtain⟨c,r,_,hv,hs⟩:=jvp h;cases hx:jgk t.name
 .rw [hv]at hx;rw[hs hx];rfl
 .rw [jrm hx];rfl
def jrO(l vs:Xa)(k:Nat)(r:Xa):Prop:=jnu l vs k r/\(l.Nodup->r.Nodup)
theorem jmn(ts:Xg)(hl:ts.length<=9223372036854775807)(ih:∀t∈ts,∀l:Xa,l.length+nodes t<=2100000-> ∃r,jk2 (sv t.name) (tms t.args) (l.map cs)=some (.top,[strs r])/\jrO l (jkd t) (nodes t) r) :
  ∀i,i<=ts.length-> ∀l:Xa,l.length+jgm (ts.drop i)<=2100000-> ∃r,jnB (tms ts) (vi (ts.length:Nat)) (vi i) (l.map cs)=some (.top,[strs r])/\jrO l (jis (ts.drop i)) (jgm (ts.drop i)) r:=by
 refine upto ?_ ?_
 .intro l hb;rw[ju4,List.drop_length];refine⟨l,?_,⟨by simp[jis],by omega⟩,id⟩;simp only[evz]
 .intro i hi ih' l hb;have hlt:(i:Int)<((ts.length:Nat):Int):=by omega
  have h5:=jgj hi hl;rw[jgg hi]at hb⊢;simp only[jgm,jis]at hb⊢;obtain⟨r1,e1,⟨c1,c2⟩,c3⟩:=ih ts[i] (jfL _) l (by omega);obtain⟨r2,e2,⟨d1,d2⟩,d3⟩:=ih' r1 (by omega);rw[ju4];refine⟨r2,?_,⟨λn=>?_,by omega⟩,λh=>d3 (c3 h)⟩
  .simp only[evz,hlt,jfY hi,jga,e1,h5,e2]
  .rw [d1,c1,jeO];exact or_assoc
theorem jly(ts:Xg)(hl:ts.length<=9223372036854775807)(ih:∀t∈ts,∀l:Xa,l.length+nodes t<=2100000-> ∃r,jk2 (sv t.name) (tms t.args) (l.map cs)=some (.top,[strs r])/\jrO l (jkd t) (nodes t) r)(l:Xa)(hb:l.length+jgm ts<=2100000) :
  ∃r,jp8 (tms ts) (vi (ts.length:Nat)) (vi 0) (l.map cs)=some (.top,[strs r])/\jrO l (jis ts) (jgm ts) r:=by
 have loop:=jmn ts hl ih;rw[jBS];by_cases h0:ts.length=0
 .have ha:ts=[]:=List.length_eq_zero_iff.1 h0;rw[ha];refine⟨l,?_,⟨by simp[jis],by simp[jgm]⟩,id⟩;simp only[evz];rfl
 .have hi:0<ts.length:=by omega
  have hlt:(0:Int)<((ts.length:Nat):Int):=by omega
  have hix:kL 2 (tms ts) (vi 0)=some (.elt (jgi ts[0]) 0):=jfY (i:=0) hi;have h5:jdl .add false (vi 0) (vi 1)=some (vi ((1:Nat):Int)):=by rw[ji8,jgA (by decide) (by decide)];rfl
  have hd:ts=ts[0]::ts.drop 1:=by have:=jgg hi;simpa using this
  have hns:jgm ts=nodes ts[0]+jgm (ts.drop 1):=by conv=>lhs;rw[hd,jgm]
  have hvs:jis ts=jkd ts[0]++jis (ts.drop 1):=by conv=>lhs;rw[hd,jis]
  obtain⟨r1,e1,⟨c1,c2⟩,c3⟩:=ih ts[0] (jfL _) l (by omega);obtain⟨r2,e2,⟨d1,d2⟩,d3⟩:=loop 1 (by omega) r1 (by omega);refine⟨r2,?_,⟨λn=>?_,by omega⟩,λh=>d3 (c3 h)⟩
  .simp only[evz,hlt,hix,jga,e1,h5,e2]
  .rw [d1,c1,hvs,jeO];exact or_assoc
theorem joc:∀t:T,twf t->okT t=true-> ∀l:Xa,l.length+nodes t<=2100000-> ∃r,jk2 (sv t.name) (tms t.args) (l.map cs)=some (.top,[strs r])/\jrO l (jkd t) (nodes t) r:=by
 refine T.ind λt ih hw hk l hb=>?_;obtain⟨w1,w2,w3⟩:=(jgK t).1 hw;have w3:=(jgF _).1 w3;have hks:=jgQ hk;have e1:=jl4 t.name w1;have e2:=jjj l t.name (by omega);rw[jv1 hk]at e1;rw[jF3,jkW];have ih':∀u∈t.args,∀l:Xa,l.length+nodes u<=2100000-> ∃r,jk2 (sv u.name) (tms u.args) (l.map cs)=some (.top,[strs r])/\jrO l (jkd u) (nodes u) r:=λu hu=>ih u hu (w3 u hu) (hks u hu);rw[jgx]at hb⊢;cases hv:jgk t.name<;>rw[hv]at e1
 .cases hc:l.contains t.name<;>rw[hc]at e2
  .have hn:¬t.name∈l:=by simpa using hc
   obtain⟨r,e,⟨c1,c2⟩,c3⟩:=jmn t.args w2 ih' 0 (Nat.zero_le _) (l++[t.name]) (by simp;omega)
   simp only[Int.natCast_zero,List.drop_zero,jf7,List.length_singleton]at e c1 c2;have happ:jeV (l.map cs) [[sv t.name]]=(l++[t.name]).map cs:=by simp[jeV]
   have f1:jbB (l.length+1) 16=true:=jiN (by omega);refine⟨r,?_,⟨λn=>?_,by omega⟩,λh=>c3 ?_⟩
   .simp only[evz,e1,e2,f1,happ,e]
   .rw [c1];simp only[jfB,if_false,jeO];exact or_assoc
   .exact jfq.2 ⟨h,by simp,λa ha b hb e=>by rw[jdC.1 hb]at e;rw[e]at ha;exact hn ha⟩
  .have hn:t.name∈l:=by simpa using hc
   obtain⟨r,e,⟨c1,c2⟩,c3⟩:=jly t.args w2 ih' l (by omega);refine⟨r,?_,⟨λn=>?_,by omega⟩,c3⟩
   .simp only[evz,e1,e2,e]
   .rw [c1];simp only[jfB,if_false,jeO,jdC];exact⟨λh=>by rcases h with h|h<;>simp[h],λh=>by
     rcases h with h|h|h
     .exact Or.inl h
     .exact Or.inl (h ▸ hn)
     .exact Or.inr h⟩
 .obtain ⟨r,e,⟨c1,c2⟩,c3⟩:=jly t.args w2 ih' l (by omega);refine⟨r,?_,⟨by simpa using c1,by omega⟩,c3⟩;simp only[evz,e1,e]
theorem jCM{n:Nat}(h:n<=4000000):jbB n 8=true:=by
 unfold jbB;simp;omega
theorem jEM(n:Nat)(h:n<=12):((jbA .u64 (jaK [[vi 1]])).bind λt2=>(jbA .u64 (vi n)).bind λt3=>(G 278 [t2,t3]).bind (fin false))=some (.tup [.val (.int .u64 0),.val (.int .u64 n)]):=by
 have c:(jbA .u64 (jaK [[vi 1]]))=some (.val (.int .u64 1)):=by kernel_rfl
 have d:jbA .u64 (vi n)=some (.val (.int .u64 n)):=by
  rcases n with _|_|_|_|_|_|_|_|_|_|_|_|_|n
  rotate_right
  .omega
  all_goals kernel_rfl
 rw[c,d];simp only[Option.bind_some];rw[jKT];simp only[cev];rw[jK7];clear c d;rcases n with _|_|_|_|_|_|_|_|_|_|_|_|_|n
 rotate_right
 .omega
 all_goals (show _=_;kernel_rfl)
theorem jAK{α:Type}{a b:α}{i j k:Nat}(h:i<=k):(List.replicate i a++List.replicate j b).drop k=List.replicate (j-(k-i)) b:=by
 rw[List.drop_append,List.drop_replicate,List.drop_replicate,jfA,show i-k=0 by omega];rfl
theorem jCZ{n:Nat}(hn:n<=12)(r1:Xc):∀(f j:Nat),n-j<=f->1<=j->j<=n->
  jnC (vi (j:Nat)) (List.replicate j [vi 1]++List.replicate (n-j) [vi 0]) r1=some (.top,[.sl 1 (List.replicate n [vi 1])]):=by
 intro f;induction f with
 |zero=>
  intro j h1 h2 h3;have:j=n:=by omega
  subst this;rw[jnZ];simp only[evz,jfA,Nat.sub_self,List.replicate_zero,jf4]
 |succ f ih=>
  intro j h1 h2 h3;by_cases hj:j=n
  .subst hj;rw[jnZ];simp only[evz,jfA,Nat.sub_self,List.replicate_zero,jf4]
  .rw [jnZ];simp only[cev];have hl:(List.replicate j [vi 1]++List.replicate (n-j) [vi 0]).length=n:=by simp;omega
   have e1:decide ((j:Int)<(n:Int))=true:=by simp;omega
   have hm:j+min j (n-j)<=n:=by omega
   have e2:jdl .add false (vi j) (vi (min j (n-j):Nat))=some (vi (j+min j (n-j):Nat)):=by
    rw[ji8,jgA (by omega) (by omega)];rfl
   have ew:(((List.replicate j [vi 1]++List.replicate (n-j) [vi 0]).drop 0).take j)=List.replicate j [vi 1]:=by
    rw[List.drop_zero,jf5 (by simp),jfU (by simp)]
   have eo:yn (List.replicate j [vi 1]++List.replicate (n-j) [vi 0]) (0+j) ((List.replicate j [vi 1]).take (n-j))=List.replicate (j+min j (n-j)) [vi 1]++List.replicate (n-(j+min j (n-j))) [vi 0]:=by
    rw[jkT,je8,jf5 (by simp),jfU (by simp),List.take_replicate,jfA,jAK]
    .rw [List.replicate_append_replicate,Nat.min_comm (n-j) j];congr 2;omega
    .omega
   have key:=ih (j+min j (n-j)) (by omega) (by omega) hm;simp only[jn7,jt1,jh2,hl,jn3,Option.bind_some,jj1,e1,jql,Nat.sub_zero,jhe (jdB n),jiq h3,jn8,jie,ew,jyC,jvK,jfA,e2,eo,key]
theorem jGY{n:Nat}(h:n<=12):jwp (vi (n:Nat)) [[vi 1]]=some (.top,[.sl 1 (List.replicate n [vi 1])]):=by
 rw[jF4];simp only[cev];have e0:decide ((n:Int)<0)=false:=by simp
 have em:=jEM n h;have eg:decide ((0:Int)<0)=false:=by simp
 have ec:jbA .i64 (A.val (.int .u64 n))=some (vi n):=jgA (by omega) (by omega);have ek:jdl .gtr false (A.val (.int .u64 n)) (A.val (.int .u64 9223372036854775807))=some (vb false):=by
  show some (vb (decide ((9223372036854775807:Int)<n)))=_;rw[decide_eq_false (by omega)]
 have ek0:jdl .gtr false (A.val (.int .u64 0)) (A.val (.int .u64 0))=some (vb false):=rfl;have emk:Zw 8 (vi n) (vi n)=some n:=by
  show(if jdD 8 (n:Int) (n:Int)then some (n:Int).toNat else none)=_;rw[jbZ ⟨by omega,by omega,by omega,by omega⟩];rfl
 have hm:∀(k:A->A->Xe),((jbA .u64 (jaK [[vi 1]])).bind λt2=>(jbA .u64 (vi n)).bind λt3=>((G 278 [t2,t3]).bind (fin false)).bind λt4=>(jd5 t4 0).bind λt5=>(jd5 t4 1).bind λt6=>k t5 t6) =
   k (.val (.int .u64 0)) (.val (.int .u64 n)):=by
  intro k;have:((jbA .u64 (jaK [[vi 1]])).bind λt2=>(jbA .u64 (vi n)).bind λt3=>((G 278 [t2,t3]).bind (fin false)).bind λt4=>(jd5 t4 0).bind λt5=>(jd5 t4 1).bind λt6=>k t5 t6) =
    (((jbA .u64 (jaK [[vi 1]])).bind λt2=>(jbA .u64 (vi n)).bind λt3=>(G 278 [t2,t3]).bind (fin false)).bind λt4=>(jd5 t4 0).bind λt5=>(jd5 t4 1).bind λt6=>k t5 t6):=by
   simp only[Option.bind_assoc]
  rw[this,em];rfl
 rw[jn3,e0];simp only[Option.bind_some,jj1,jjO];rw[hm];simp only[ek0,ek,Option.bind_some,jCO,jer,jq7,jfB,if_false,jj1,jjO,ec,emk,QP,jt1,jfA];rcases n with _|n
 .have e1:jeW [[vi 1]] 0=vi ((0:Nat):Int):=rfl;have e2:yn (List.replicate 0 [vi 0]) 0 (jd7 [[vi 1]] 0)=[]:=rfl;rw[e1,e2,jnZ];rfl
 .have key:=jCZ (n:=n+1) h [[vi 1]] (n+1) 1 (by omega) (by omega) (by omega);have e1:jeW [[vi 1]] (n+1)=vi ((1:Nat):Int):=by
   rw[jyC];have:min [[vi 1]].length (n+1)=1:=by simp
   rw[this]
  have e2:yn (List.replicate (n+1) [vi 0]) 0 (jd7 [[vi 1]] (n+1))=List.replicate 1 [vi 1]++List.replicate (n+1-1) [vi 0]:=by
   rw[jkT,jvK];simp[jeZ]
  rw[e1,e2];exact key
theorem jrn{ts:Xg}{n:Xb} :n∈jis ts↔ ∃t∈ts,n∈jkd t:=by
 induction ts with
 |nil=>simp[jis]
 |cons t ts ih=>simp[jis,ih]
theorem jsp:∀t:T,okT t=true-> ∀n∈jkd t,jhO n=true:=by
 refine T.ind λt ih hk n hn=>?_;rw[jkW,jeO]at hn;rcases hn with hn|hn
 .cases hv:jgk t.name<;>rw[hv]at hn
  .simp at hn;rw[hn,jv1 hk,hv];rfl
  .simp at hn
 .obtain ⟨u,hu,hm⟩:=jrn.1 hn;exact ih u hu (jgQ hk u hu) n hm
theorem juA(l:Xa):∀t:T,(∀n∈jkd t,n∈l)->jja l t=true:=by
 refine T.ind λt ih h=>?_;rw[jkW]at h;rw[jiK,jkI,jbX];refine⟨?_,jfn.2 λu hu=>ih u hu λn hn=>h n (jfZ _ (jrn.2 ⟨u,hu,hn⟩))⟩;cases hv:jgk t.name
 .rw [hv]at h;rw[Bool.false_or];exact List.contains_iff_mem.2 (h t.name (by simp))
 .rfl
def jrj(r:Xa):Ord':=⟨r,List.replicate r.length 1,1⟩
theorem jzZ{r:Xa}(h1:1<=r.length)(h2:r.length<=12)(hs:∀n∈r,jhO n=true)(hn:r.Nodup):jhB (jrj r)=true:=by
 have hb:inB 1 12 (r.length:Nat)=true:=by unfold inB;rw[jbX,jfH,jfH];omega
 unfold jhB jrj;simp only[hb,jfA,decide_true,Bool.true_and,jbX];refine⟨by decide,jfn.2 λi hi=>?_⟩;have hi:i<r.length:=List.mem_range.1 hi;have g1:r.getD i []=r[i]:=by simp[jcQ,hi]
 have g2:(List.replicate r.length (1:Int)).getD i 0=1:=by simp[jcQ,hi]
 unfold jyR;simp only[g1,g2,hs _ (jfL _),Bool.true_and,jbX];refine⟨?_,by decide⟩;rw[jfl,<-Bool.not_eq_true,List.contains_iff_mem];intro hm;obtain⟨j,hj,e⟩:=List.mem_take_iff_getElem.1 hm;have:=(List.nodup_iff_pairwise_ne.1 hn);have:=List.pairwise_iff_getElem.1 this j i (by omega) hi (by omega);exact this e
theorem jDh{n:Xb}(h:jhO n=true):n.length<=6:=by
 cases n with
 |nil=>simp
 |cons c r=>
  simp only[jhO,jbX,jfH]at h;simp only[jfC];omega
theorem jqp(o:Ord')(s t:T)(hw:twf s)(hw':twf t)(x y:Bool)(e5:G 281 [od o,tm s,tm t]=some (vb x,[]))(e6:G 281 [od o,tm t,tm s]=some (vb y,[])):G 238 [od o,tm s,tm t]=some (vi (jlW (dq s t) x y),[]):=by
 have e4:=jhm s hw t hw';have c1:G 280 [.elt (jtY o) 0,.elt [sv s.name,.sl 2 (s.args.map jgi)] 0,.elt [sv t.name,.sl 2 (t.args.map jgi)] 0]=some (vb x,[]):=by
  rw[jHU];simp only[evz,jn4,jn5,e5]
 have c2:G 282 [.elt (jtY o) 0,.elt [sv t.name,.sl 2 (t.args.map jgi)] 0,.elt [sv s.name,.sl 2 (s.args.map jgi)] 0]=some (vb y,[]):=by
  rw[jHW];simp only[evz,jn4,jn5,e6]
 have e7:=jq3 (f:=280) (g:=282) rfl rfl (dq s t) _ _ c1 c2;rw[jHR];simp only[evz,e4,e7]
theorem jkY{t:T}(hk:okT t=true)(hv:jgk t.name=true):t.args=[]:=by
 rw[jht,hv,jbZ rfl]at hk;exact List.isEmpty_iff.1 hk
theorem juW(o:Ord')(s t:T)(hw:twf s)(hw':twf t)(hk:okT s=true)(hk':okT t=true)(hv:jgk s.name=true)(hv':jgk t.name=true)(hne:¬s.name=t.name):G 281 [od o,tm s,tm t]=some (vb false,[]):=by
 have as_:=jkY hk hv;have at_:=jkY hk' hv';have ns:nodes s<=1048577:=by rw[jgx,as_];simp[jgm]
 have nt:nodes t<=1048577:=by rw[jgx,at_];simp[jgm]
 obtain⟨r,er,c1,c2⟩:=joj t hw' hk' nt;have hvt:jgN t=[t.name]:=by rw[jjs,jbZ hv']
 have hpos:0<r.length:=by
  rcases Nat.eq_zero_or_pos r.length with h|h
  .have hr:r=[]:=List.length_eq_zero_iff.1 h;have:=(c1 t.name).2 (by rw[hvt];simp);rw[hr]at this;cases this
  .exact h
 have h0:r[0]=t.name:=by
  have:=(c1 r[0]).1 (jfL _);rw[hvt]at this;simpa using this
 have hlt:(0:Int)<((r.length:Nat):Int):=by omega
 have hix:kL 1 (strs r) (vi 0)=some (.elt (cs t.name) 0):=by have:=jfY (k:=1) (f:=cs) (i:=0) hpos;rw[h0]at this;exact this
 have a1:=ji2 t.name s hw ns;have a2:=ji2 t.name t hw' nt;have k1:cnt t.name s=0:=by rw[joD,as_,ja0 hne];simp[jjJ]
 have k2:cnt t.name t=1:=by rw[joD,at_];simp[jjJ]
 rw[k1]at a1;rw[k2]at a2;have h':((0:Nat):Int)<((1:Nat):Int):=by omega
 rw[jHV];simp only[evz,er];rw[jw0];simp only[evz,hlt,hix,a1,a2,h']
theorem jDe(a b:T)(r:Xa)(hr:r.length<=12)(x:Int)(ok:Bool)(e:G 217 [.agg [strs r,.sl 1 (List.replicate r.length [vi 1]),vi 1],tm a,tm b]=some (.tup [vi x,vb ok],[])) :
  jp0 (vi 0) (sv a.name) (tms a.args) (sv b.name) (tms b.args) (strs r) (vi 1) []=some (vi (if ok then x else 0),[]):=by
 have key:=upto (P:=λi=>jp0 (vi i) (sv a.name) (tms a.args) (sv b.name) (tms b.args) (strs r) (vi 1) (List.replicate i [vi 1])=some (vi (if ok then x else 0),[])) (n:=r.length) ?_ ?_ 0 (Nat.zero_le _)
 .simpa using key
 .rw [jBv];have hf:fin true (A.tup [vi x,vb ok],[])=some (A.tup [vi x,vb ok]):=rfl;cases ok
  .simp only[evz,e,hf]
  .simp only[evz,e,hf]
 .intro i hi ih;have hlt:(i:Int)<((r.length:Nat):Int):=by omega
  have h5:=jgj hi (by omega);have f1:jbB (i+1) 8=true:=jCM (by omega);have happ:jeV (List.replicate i [vi 1]) [[vi 1]]=List.replicate (i+1) [vi 1]:=by rw[List.replicate_succ'];rfl
  have hlen:(List.replicate i ([vi 1]:Xd)).length=i:=jfA;rw[jBv];simp only[evz,hlt,hlen,f1,h5,happ,ih]
theorem jGw{o:Ord'}(hv:jhB o=true){s t:T}(ks:okT s=true)(hc:jja o.syms t=true)(h:Kp o s t):jgk s.name=false:=by
 cases hs:jgk s.name with
 |false=>rfl
 |true=>
  obtain⟨_,h⟩:=(jAj o s t).1 h;rcases h with h|⟨_,h,_⟩
  .have:=jG8 hv hc;rw[jwh o s,jkY ks hs,hs,jbZ rfl]at h;simp only[wtL]at h;omega
  .rw [hs]at h;cases h.1
theorem jvs(a b:T)(hw:twf a)(hw':twf b)(hs:tsz a<=1048576)(hs':tsz b<=1048576)(hva:jgR a=true)(hvb:jgR b=true) :
  ∃x:Int,G 179 [tm a,tm b]=some (vi x,[])/\G 199 [tm a,tm b]=some (vi x,[])/\(x=2->jgk a.name=false):=by
 have hk:okT a=true:=by unfold jgR at hva;rw[jbX]at hva;exact hva.2
 have hk':okT b=true:=by unfold jgR at hvb;rw[jbX]at hvb;exact hvb.2
 have na:nodes a<=30:=by simp only[jgR,jgr,jbX,jfH]at hva;exact hva.1.1
 have nb:nodes b<=30:=by simp only[jgR,jgr,jbX,jfH]at hvb;exact hvb.1.1
 have e1:=jiU a hw b hw';have e2:=jhm a hw b hw';rw[jJI,jJW];cases hd:dq a b<;>rw[hd]at e1 e2
 rotate_left
 .exact ⟨1,by simp only[evz,e1],by simp only[evz,e2],λh=>absurd h (by decide)⟩
 obtain⟨r1,f1,⟨c1,c2⟩,c3⟩:=jo6 a hw [] (by simp;omega)
 obtain⟨r,f2,⟨d1,d2⟩,d3⟩:=jo6 b hw' r1 (by simp at c2;omega)
 have hsrt:Srt r:=d3 (c3 List.Pairwise.nil);have hmem:∀n,n∈r↔n∈jkd a\/n∈jkd b:=λn=>by rw[d1,c1];simp
 have hlen:r.length<=60:=by simp at c2;omega
 have f1:G 216 [.sl 1 [],tm a]=some (strs r1,[]):=f1;obtain⟨p1,g1,⟨i1,i2⟩,i3⟩:=joc a hw hk [] (by simp;omega);obtain⟨p,g2,⟨j1,j2⟩,j3⟩:=joc b hw' hk' p1 (by simp at i2;omega);have hnd:p.Nodup:=j3 (i3 List.nodup_nil);have hpm:∀n,n∈p↔n∈jkd a\/n∈jkd b:=λn=>by rw[j1,i1];simp
 have hsort:ke p=r:=jyG _ _ (jDd hnd) hsrt λn=>by rw[hmem,<-hpm];unfold ke;exact List.mem_mergeSort
 have hpl:p.length=r.length:=by rw[<-hsort];simp[ke]
 have g1:jk2 (sv a.name) (tms a.args) []=some (.top,[strs p1]):=g1;have g3:jpO (p.map cs)=some (.top,[strs r]):=by
  rw[jAu];simp only[jbQ,QY];rw[jbZ (by omega),hsort]
 by_cases h12:r.length<=12;rotate_left
 .have hgt:((12:Nat):Int)<((r.length:Nat):Int):=by omega
  have hle:¬((r.length:Nat):Int)<=12:=by omega
  have hgt:(12:Int)<((r.length:Nat):Int):=by omega
  have hz:¬((r.length:Nat):Int)=0:=by omega
  refine⟨0,?_,?_,λh=>absurd h (by decide)⟩
  .simp only[evz,e1,f1,f2,hz,hgt]
  .simp only[evz,e2,g1,g2,hpl,hgt]
 have hle:((r.length:Nat):Int)<=12:=by omega
 have hgt:¬(12:Int)<((r.length:Nat):Int):=by omega
 have hrep:=jGY h12;have hci:(ints (List.replicate r.length 1):A) = .sl 1 (List.replicate r.length [vi 1]):=by show A.sl 1 _=_;rw[List.map_replicate]
 have hod:(od (jrj r):A) = .agg [strs r,.sl 1 (List.replicate r.length [vi 1]),vi 1]:=by rw[<-hci];rfl
 by_cases h0:r.length=0
 .have hr:r=[]:=List.length_eq_zero_iff.1 h0;have hz:((r.length:Nat):Int)=0:=by omega
  have va:jgk a.name=true:=by
   cases hv:jgk a.name
   .have:=(hmem a.name).2 (Or.inl (by rw[jkW,hv];simp))
    rw[hr]at this;cases this
   .rfl
  have vb':jgk b.name=true:=by
   cases hv:jgk b.name
   .have:=(hmem b.name).2 (Or.inr (by rw[jkW,hv];simp))
    rw[hr]at this;cases this
   .rfl
  have hne:¬a.name=b.name:=λe=>by
   rw[jGk,e,jkY hk va,jkY hk' vb',jmu]at hd;simp at hd
  have q:=jqp (jrj r) a b hw hw' false false (juW _ a b hw hw' hk hk' va vb' hne) (juW _ b a hw' hw hk' hk vb' va (λe=>hne e.symm));rw[hd,hod]at q;refine⟨0,?_,?_,λh=>absurd h (by decide)⟩
  .simp only[evz,e1,f1,f2,hz]
  .simp only[evz,e2,g1,g2,hpl,hgt,g3,hrep,q,jlW]
 have hsym:∀n∈r,jhO n=true:=λn hn=>by
  rcases(hmem n).1 hn with h|h
  .exact jsp a hk n h
  .exact jsp b hk' n h
 have hval:=jzZ (by omega) h12 hsym (jzL hsrt);have hca:jja (jrj r).syms a=true:=juA _ a λn hn=>(hmem n).2 (Or.inl hn);have hcb:jja (jrj r).syms b=true:=juA _ b λn hn=>(hmem n).2 (Or.inr hn);have howf:owf (jrj r):=by
  refine⟨⟨λs hs=>?_,by show r.length<=_;omega⟩,⟨λx hx=>?_,by show(List.replicate r.length (1:Int)).length<=_;rw[jfA];omega⟩,by show I64 1;exact⟨by decide,by decide⟩⟩
  .have:=jDh (hsym s hs);omega
  .have:x=1:=by have:=jfW hx;exact this
   rw[this];exact⟨by decide,by decide⟩
 have q1:=jpq (jrj r) a b howf hw hs hw' hs';have q2:=jpi hval a b howf hw hs hw' hs' hk hk' hca hcb;have q3:jle (jrj r) a b = .tup [vi (jlc (jrj r) a b),vb true]:=by unfold jle good;rw[hval,hva,hvb,hca,hcb];rfl
 rw[q3,hod]at q1;rw[hod]at q2;have q4:=jDe a b r h12 _ _ q1;have hz:¬((r.length:Nat):Int)=0:=by omega
 refine⟨jlc (jrj r) a b,?_,?_,λh=>jGw hval hk hcb ((jEr _ _ _).1 h)⟩
 .simp only[evz,e1,f1,f2,hz,hgt,q4]
 .simp only[evz,e2,g1,g2,hpl,hgt,g3,hrep,q2]
theorem juC{ts:Xg}{t:T}(h:t∈ts):dep t<=jky ts:=by
 induction ts with
 |nil=>cases h
 |cons u us ih=>
  simp only[jky];rcases ja1.1 h with h|h
  .subst h;omega
  .have:=ih h;omega
theorem jsn{t u:T}(h:u∈t.args)(hs:jgr t=true):jgr u=true:=by
 simp only[jgr,jbX,jfH]at hs⊢;have h1:=jhN h;have h2:=juC h;rw[jgx,jjv]at hs;omega
theorem joY(t:T)(hs:Tz t)(he:¬t.name=[61]):G 112 [tm t]=some (vb (jhO t.name && jgR t),[]):=by
 have e1:=jko t.name ((jgK t).1 hs.wf).1;have e2:=jjf t hs.wf hs;rw[jGo];cases h:jhO t.name<;>rw[h]at e1
 .simp only[evz,he,e1,Bool.false_and]
 .simp only[evz,he,e1,e2,Bool.true_and]
theorem jAV{t:T}(h:jl0 t=true):t.args.length=2/\Vs (ji6 t)/\Vs (jkC t)/\jgr t=true:=by
 have h':=h;unfold jl0 at h;rw[jbX,jbX,jbX,jfH]at h;obtain⟨h1,h2,h3,h4⟩:=h;obtain⟨_,_,ma,mb⟩:=jjd h1;have hn:nodes t<=30:=by simp only[jgr,jbX,jfH]at h2;exact h2.1
 exact⟨h1,⟨h3,by have:=jh9 ma;show nodes (jjS t)<=30;omega⟩,⟨h4,by have:=jh9 mb;show nodes (jkx t)<=30;omega⟩,h2⟩
theorem jEO(t:T)(hs:Tz t):∃b:Bool,G 218 [tm t]=some (vb b,[])/\G 203 [tm t]=some (vb b,[])/\(b=true->t.name=[61]/\jl0 t=true/\jgk (ji6 t).name=false):=by
 have hw:=hs.wf;obtain⟨w1,w2,w3⟩:=(jgK t).1 hw;have w3:=(jgF _).1 w3;have q0:=jhL t;by_cases he:t.name=[61];rotate_left
 .have e1:=joY t hs he;rw[decide_eq_false he]at q0;refine⟨false,?_,?_,λh=>by cases h⟩
  .rw [jHQ];cases h1:(jhO t.name && jgR t)<;>rw[h1]at e1<;>simp only[evz,he,e1]
  .rw [jHP];simp only[evz,q0]
 .have e1:=jni t hw hs he;have e2:=jlv t hw hs he;rw[decide_eq_true he]at q0;have het:(t.name=[61])=True:=eq_true he;rw[jHQ,jHP];cases h:jl0 t<;>rw[h]at e1 e2
  .exact ⟨false,by simp only[evz,e1],by simp only[evz,q0,e2],λh=>by cases h⟩
  .obtain ⟨h1,v1,v2,hsm⟩:=jAV h;obtain⟨i0,i1,ma,mb⟩:=jjd h1;have va:jgR (jjS t)=true:=by unfold jgR;rw[jsn ma hsm];exact v1.1
   have vb':jgR (jkx t)=true:=by unfold jgR;rw[jsn mb hsm];exact v2.1
   obtain⟨x,o1,o2,o3⟩:=jvs (jjS t) (jkx t) (w3 _ ma) (w3 _ mb) v1.tz v2.tz va vb';refine⟨decide (x=2),?_,?_,λhx=>⟨he,rfl,o3 (of_decide_eq_true hx)⟩⟩
   .simp only[evz,e1,het,i0,i1,jga,o1]
   .simp only[evz,q0,e2,i0,i1,jga,o2]
theorem jvT(rs:Xg)(hl:rs.length<=1048576)(hs:∀r∈rs,Tz r):∃b:Bool,G 181 [tms rs]=some (vb b,[])/\G 161 [tms rs]=some (vb b,[])/\(b=true->RS rs/\ ∀r∈rs,r.name=[61]/\jl0 r=true/\jgk (ji6 r).name=false):=by
 obtain⟨p,hp⟩:=Classical.axiomOfChoice (r:=λ(t:T)(b:Bool)=>Tz t->G 218 [tm t]=some (vb b,[])/\G 203 [tm t]=some (vb b,[])/\(b=true->t.name=[61]/\jl0 t=true/\jgk (ji6 t).name=false)) λt=>by
  by_cases h:Tz t
  .obtain ⟨b,hb⟩:=jEO t h;exact⟨b,λ_=>hb⟩
  .exact ⟨false,λh'=>absurd h' h⟩
 have hp:∀r∈rs,G 218 [tm r]=some (vb (p r),[])/\G 203 [tm r]=some (vb (p r),[])/\(p r=true->r.name=[61]/\jl0 r=true/\jgk (ji6 r).name=false):=λr hr=>hp r (hs r hr);refine⟨decide (rs.length<=10) && rs.all p,?_,?_,λh=>?_⟩
 .have key:=upto (P:=λi=>jsQ (tms rs) (vi i)=some (vb (decide (rs.length<=10) && (rs.drop i).all p),[])) (n:=rs.length) ?_ ?_ 0 (Nat.zero_le _)
  .rw [jJJ];exact key
  .rw [jBw,List.drop_length];have e:decide (((rs.length:Nat):Int)<=10)=decide (rs.length<=10):=by
    by_cases h:rs.length<=10
    .rw [decide_eq_true h,decide_eq_true (by omega)]
    .rw [decide_eq_false h,decide_eq_false (by omega)]
   simp only[evz,e]
  .intro i hi ih;have hlt:(i:Int)<((rs.length:Nat):Int):=by omega
   have h5:=jgj hi (by show rs.length<=9223372036854775807;omega)
   obtain⟨e1,_,_⟩:=hp rs[i] (jfL _);rw[jBw,jgg hi,jev];cases h:p rs[i]<;>rw[h]at e1
   .simp only[evz,hlt,jfY hi,jga,e1,Bool.false_and,Bool.and_false]
   .simp only[evz,hlt,jfY hi,jga,e1,h5,ih,Bool.true_and]
 .have e1:=jlY (f:=202) (caps:=[]) rfl (λr=> !p r) rs (by show rs.length<=9223372036854775807;omega) λr hr=>by
   obtain⟨_,e2,_⟩:=hp r hr;rw[jJY];simp only[evz,e2]
  rw[joZ]at e1;rw[jJt];by_cases h:rs.length<=10
  .have h':((rs.length:Nat):Int)<=10:=by omega
   simp only[evz,h,h',e1,Bool.true_and,Bool.not_not]
  .have h':¬((rs.length:Nat):Int)<=10:=by omega
   simp only[evz,h,h',Bool.false_and]
 .rw [jbX,jfH,jfn]at h;refine⟨⟨h.1,λr hr=>?_⟩,λr hr=>(hp r hr).2.2 (h.2 r hr)⟩;obtain⟨_,h2,_⟩:=(hp r hr).2.2 (h.2 r hr);obtain⟨q1,q2,q3,_⟩:=jAV h2;exact⟨q1,q2,q3⟩
theorem jxe{rs:Xg}(hr:RS rs):∀(t:T)(root:Bool){u:T},EX root t->jj0 rs root t=some u->nodes u<=nodes t+900:=by
 refine T.ind (p:=λt=>∀(root:Bool){u:T},EX root t->jj0 rs root t=some u->nodes u<=nodes t+900) λt ih=>?_;intro root u h ho;have hL:∀(us:Xg){us':Xg},(∀u∈us,∀u',jj0 rs true u=some u'->nodes u'<=nodes u+900)->ji7 rs us=some us'->jgm us'<=jgm us+900:=by
  intro us;induction us with
  |nil=>intro us' _ h;simp[ji7]at h
  |cons v vs ih2=>
   intro us' hv h;rw[ji7]at h;split at h
   .rename_i v' hv';cases h;have:=hv v (by simp) _ hv';simp only[jgm];omega
   .rw [jeq]at h;obtain⟨r,h3,rfl⟩:=h;have:=ih2 (λw hw=>hv w (by simp[hw])) h3;simp only[jgm];omega
 rw[jlo]at ho;split at ho
 .rename_i us hus;cases ho;have:=hL t.args (λv hv u' hu'=>by
   have hw:=h.2.1 v hv;exact ih v hv true ⟨⟨by have:=hw.2;omega,hw.tz⟩,hw.args,λ_=>hw⟩ hu') hus
  rw[jgx t];show 1+jgm us<=_;omega
 .cases root with
  |false=>cases ho
  |true=>
   have:=(jC4 hr (h.2.2 rfl) ho).2;omega
def EX'(root:Bool)(t:T):Prop:=EX root t/\(root=false->t.name=[61]/\t.args.length=2)
theorem jyw{us:Xg}(h:∀u∈us,okT u=true):jjE us<=10*jgm us:=by
 induction us with
 |nil=>simp[jjE]
 |cons u us ih=>
  have:=joL u (h u (by simp));have:=ih λw hw=>h w (by simp[hw]);simp only[jjE,jgm];omega
theorem jyy{t:T}(h:okT t=true):¬t.name=[61]:=λe=>by
 rw[jht,e]at h;exact absurd h (by
  rw[show jgk [61]=false from by decide,ja0 Bool.false_ne_true,show jhO [61]=false from by decide];simp)
theorem jtt{t:T}(ht:Tz t)(h:okT t=true\/(t.name=[61]/\t.args.length=2/\ ∀u∈t.args,okT u=true)):G 250 [tm t]=some (vb (jgr t),[]):=by
 have e2:=jjf t ht.wf ht;rw[jKz];rcases h with h|⟨h1,h2,h3⟩
 .have hv:jgR t=jgr t:=by unfold jgR;rw[h,Bool.and_true]
  rw[hv]at e2;have e1:=joY t ht (jyy h);rw[hv]at e1;cases hs:jgr t<;>rw[hs]at e1 e2
  .rw [Bool.and_false]at e1;simp only[evz,e1,e2]
  .simp only[evz,e2]
 .have hk:okT t=false:=by
   cases hk:okT t with
   |false=>rfl
   |true=>exact absurd h1 (jyy hk)
  have hv:jgR t=false:=by unfold jgR;rw[hk,Bool.and_false]
  rw[hv]at e2;have e1:=jni t ht.wf ht h1;obtain⟨_,_,ma,mb⟩:=jjd h2;have he:jl0 t=jgr t:=by unfold jl0;rw[decide_eq_true h2,h3 _ ma,h3 _ mb];simp
  rw[he]at e1;simp only[evz,e1,e2]
def jvt(o:Option (T×Nat)):Xe:=match o with|some r=>some (.tup [tm r.1,vi (r.2:Nat),vb true],[])|none=>some (.tup [.agg [sv [],.sl 2 []],vi 0,vb false],[])
structure Law3{α:Type}(c:α->α->Int):Prop where
 zero:∀a b,c a b=0↔a=b
 flip:∀a b,c b a = -(c a b)
 trans:∀a b d,c a b<0->c b d<0->c a d<0
section
variable{α:Type}{c:α->α->Int}
def Asc(c:α->α->Int)(l:List α):Prop:=l.Pairwise λa b=>c a b<0
theorem jtw(h:Law3 c):∀{l m:List α},Asc c l->Asc c m->(∀x,x∈l↔x∈m)->l=m
 | [],[],_,_,_=>rfl
 | [],b::m,_,_,hx=>absurd ((hx b).2 (by simp)) (by simp)
 |a::l,[],_,_,hx=>absurd ((hx a).1 (by simp)) (by simp)
 |a::l,b::m,h1,h2,hx=>by
  obtain⟨g1,g2⟩:=List.pairwise_cons.1 h1;obtain⟨k1,k2⟩:=List.pairwise_cons.1 h2;have hab:a=b:=by
   rcases ja1.1 ((hx a).1 (by simp))with e|e
   .exact e
   rcases ja1.1 ((hx b).2 (by simp))with e'|e'
   .exact e'.symm
   .have q1:=k1 a e;have q2:=g1 b e';have q3:=h.flip a b;omega
  subst hab;have:l=m:=jtw h g2 k2 λx=>by
   constructor
   .intro hxl;rcases ja1.1 ((hx x).1 (by simp[hxl]))with e|e
    .have:=g1 x hxl;rw[e,(h.zero a a).2 rfl]at this;omega
    .exact e
   .intro hxm;rcases ja1.1 ((hx x).2 (by simp[hxm]))with e|e
    .have:=k1 x hxm;rw[e,(h.zero a a).2 rfl]at this;omega
    .exact e
  rw[this]
def jnP(eq:α->α->Bool):List α->List α
 | []=>[]
 |a::l=>(match jnP eq l with| []=>[a]|b::m=>if eq a b then b::m else a::b::m)
theorem jrW(h:Law3 c){eq:α->α->Bool}(he:∀a b,eq a b=true↔a=b):∀{l:List α},l.Pairwise (λa b=>¬c b a<0)->Asc c (jnP eq l)/\ ∀x,x∈jnP eq l↔x∈l
 | [],_=>⟨List.Pairwise.nil,λx=>Iff.rfl⟩
 |a::l,hp=>by
  obtain⟨g1,g2⟩:=List.pairwise_cons.1 hp;obtain⟨k1,k2⟩:=jrW h he g2;rw[jnP];cases hc:jnP eq l with
  |nil=>
   rw[hc]at k2;refine⟨by unfold Asc;simp,λx=>?_⟩;show x ∈ [a]↔_;constructor
   .intro hx;simp only[jdC]at hx;simp[hx]
   .intro hx;rcases ja1.1 hx with e|e
    .simp [e]
    .exact absurd ((k2 x).2 e) (by simp)
  |cons b m=>
   rw[hc]at k1 k2;have hbl:b∈l:=(k2 b).1 (by simp);by_cases hab:a=b
   .show Asc c (if eq a b then b::m else a::b::m)/\_;have he':=(he a b).2 hab;have e2:(if eq a b then b::m else a::b::m)=b::m:=jbZ he';refine⟨by rw[e2];exact k1,λx=>?_⟩;show x∈(if eq a b then b::m else a::b::m)↔_;rw[e2,k2,ja1];constructor
    .exact Or.inr
    .rintro (e|e)
     .rw [e,hab];exact hbl
     .exact e
   .have he':¬eq a b=true:=λe=>hab ((he a b).1 e);have e2:(if eq a b then b::m else a::b::m)=a::b::m:=ja0 he';have hlt:c a b<0:=by
     have q1:=g1 b hbl;have q2:=h.flip a b;have q3:c a b≠0:=λe=>hab ((h.zero a b).1 e);omega
    refine⟨?_,λx=>?_⟩
    .show Asc c (if eq a b then b::m else a::b::m);rw[e2];refine List.pairwise_cons.2 ⟨λx hx=>?_,k1⟩;rcases ja1.1 hx with e|e
     .rw [e];exact hlt
     .exact h.trans a b x hlt ((List.pairwise_cons.1 k1).1 x e)
    .show x∈(if eq a b then b::m else a::b::m)↔_;rw[e2,ja1,k2,ja1]
theorem jm5{p:α->Bool} :∀{l:List α}{a:α},a∈l.takeWhile p->p a=true
 |x::l,a,h=>by
  by_cases hx:p x=true
  .rw [List.takeWhile_cons_of_pos hx]at h;rcases ja1.1 h with e|e
   .rw [e];exact hx
   .exact jm5 e
  .rw [List.takeWhile_cons_of_neg hx]at h;cases h
def jlD(c:α->α->Int)(l:List α)(x:α):List α:=if(l.dropWhile λa=>decide (c a x<0)).head?.any (λb=>decide (c b x=0))then l else l.takeWhile (λa=>decide (c a x<0))++x::l.dropWhile λa=>decide (c a x<0)
theorem jqy(h:Law3 c){l:List α}(hl:Asc c l)(x:α):Asc c (jlD c l x)/\ ∀y,y∈jlD c l x↔y∈l\/y=x:=by
 have e:=List.takeWhile_append_dropWhile (p:=λa=>decide (c a x<0)) (l:=l);have ht:∀a∈l.takeWhile (λa=>decide (c a x<0)),c a x<0:=λa ha=>of_decide_eq_true (jm5 (p:=λa=>decide (c a x<0)) ha);unfold jlD;generalize l.takeWhile (λa=>decide (c a x<0))=t at *;cases hd:l.dropWhile (λa=>decide (c a x<0))with
 |nil=>
  rw[hd,jf4]at e;subst e;rw[ja0 (by simp)];refine⟨?_,λy=>by simp⟩;refine List.pairwise_append.2 ⟨hl,by simp,λa ha b hb=>?_⟩;simp only[jdC]at hb;rw[hb];exact ht a ha
 |cons b m=>
  have hb:¬c b x<0:=by
   intro hb;have:=List.head?_dropWhile_not (p:=λa=>decide (c a x<0)) l;rw[hd]at this;simp[hb]at this
  rw[hd]at e;by_cases h0:c b x=0
  .rw [jbZ (by simp[h0])];refine⟨hl,λy=>⟨Or.inl,λhy=>?_⟩⟩;rcases hy with hy|hy
   .exact hy
   .rw [hy,<-(h.zero b x).1 h0,<-e];simp
  .rw [ja0 (by simp[h0])];rw[<-e]at hl;obtain⟨p1,p2,p3⟩:=List.pairwise_append.1 hl;have hxb:c x b<0:=by have:=h.flip b x;omega
   refine⟨List.pairwise_append.2 ⟨p1,List.pairwise_cons.2 ⟨λy hy=>?_,p2⟩,λa ha y hy=>?_⟩,λy=>?_⟩
   .rcases ja1.1 hy with e'|e'
    .rw [e'];exact hxb
    .exact h.trans x b y hxb ((List.pairwise_cons.1 p2).1 y e')
   .rcases ja1.1 hy with e'|e'
    .rw [e'];exact ht a ha
    .exact p3 a ha y e'
   .rw [<-e];simp only[jeO,ja1];constructor
    .rintro (h|h|h|h)
     .exact Or.inl (Or.inl h)
     .exact Or.inr h
     .exact Or.inl (Or.inr (Or.inl h))
     .exact Or.inl (Or.inr (Or.inr h))
    .rintro ((h|h|h)|h)
     .exact Or.inl h
     .exact Or.inr (Or.inr (Or.inl h))
     .exact Or.inr (Or.inr (Or.inr h))
     .exact Or.inr (Or.inl h)
def jhA(c:α->α->Int)(l:List α):List α:=l.foldl (jlD c) []
theorem jmw(h:Law3 c)(l:List α):Asc c (jhA c l)/\ ∀y,y∈jhA c l↔y∈l:=by
 have key:∀(l m:List α),Asc c m->Asc c (l.foldl (jlD c) m)/\ ∀y,y∈l.foldl (jlD c) m↔y∈m\/y∈l:=by
  intro l;induction l with
  |nil=>intro m hm;exact⟨hm,λy=>by simp⟩
  |cons x l ih=>
   intro m hm;obtain⟨g1,g2⟩:=jqy h hm x;obtain⟨k1,k2⟩:=ih _ g1;refine⟨k1,λy=>?_⟩;rw[List.foldl_cons,k2,g2,ja1,or_assoc]
 obtain⟨g1,g2⟩:=key l [] List.Pairwise.nil;exact⟨g1,λy=>by rw[jhA,g2];simp⟩
theorem jEt(h:Law3 c){eq:α->α->Bool}(he:∀a b,eq a b=true↔a=b){l s:List α}(hs:s.Pairwise λa b=>¬c b a<0)(hm:∀x,x∈s↔x∈l):jnP eq s=jhA c l:=by
 obtain⟨g1,g2⟩:=jrW h he hs;obtain⟨k1,k2⟩:=jmw h l;exact jtw h g1 k1 λx=>by rw[g2,k2,hm]
end
theorem jGH{α β γ:Type}{f:γ->α}{g:γ->β}{c:α->α->Int}{d:β->β->Int}(hc:Law3 c)(hd:Law3 d)(hi:∀x y,f x=f y->g x=g y->x=y):Law3 λx y:γ=>if c (f x) (f y)≠0 then c (f x) (f y)else d (g x) (g y):=by
 refine⟨λa b=>?_,λa b=>?_,λa b e=>?_⟩
 .show (if c (f a) (f b)≠0 then c (f a) (f b)else d (g a) (g b))=0↔_;by_cases h:c (f a) (f b)=0
  .rw [ja0 (λh'=>h' h),hd.zero];exact⟨λh2=>hi a b ((hc.zero _ _).1 h) h2,λh2=>by rw[h2]⟩
  .rw [jbZ h];exact⟨λh2=>absurd h2 h,λh2=>by rw[h2]at h;exact absurd ((hc.zero _ _).2 rfl) h⟩
 .show (if c (f b) (f a)≠0 then c (f b) (f a)else d (g b) (g a)) = -(if c (f a) (f b)≠0 then c (f a) (f b)else d (g a) (g b));rw[hc.flip (f a) (f b),hd.flip (g a) (g b)];by_cases h:c (f a) (f b)=0
  .rw [ja0 (by omega),ja0 (by omega)]
  .rw [jbZ (by omega),jbZ (by omega)]
 .show (if c (f a) (f b)≠0 then c (f a) (f b)else d (g a) (g b))<0->(if c (f b) (f e)≠0 then c (f b) (f e)else d (g b) (g e))<0->(if c (f a) (f e)≠0 then c (f a) (f e)else d (g a) (g e))<0;by_cases h1:c (f a) (f b)=0
  .have e1:=(hc.zero _ _).1 h1;rw[ja0 (λh'=>h' h1),e1];by_cases h2:c (f b) (f e)=0
   .rw [ja0 (λh'=>h' h2),ja0 (λh'=>h' h2)];exact hd.trans _ _ _
   .rw [jbZ h2,jbZ h2];exact λ_ h=>h
  .rw [jbZ h1];by_cases h2:c (f b) (f e)=0
   .have e2:=(hc.zero _ _).1 h2;rw[ja0 (λh'=>h' h2),<-e2,jbZ h1];exact λh _=>h
   .rw [jbZ h2];intro h3 h4;have:=hc.trans _ _ _ h3 h4;rw[jbZ (by omega)];exact this
def jg0(x y:Xb):Int:=if sLt x y then -1 else if x=y then 0 else 1
theorem jjl:Law3 jg0:=by
 have irr:=jlr;have asy:∀x y,sLt x y=true->sLt y x=true->False:=λx y h1 h2=>by
  rw[jj9,jfH]at h1 h2;exact absurd (List.lt_trans h1 h2) (List.lt_irrefl _)
 have tot:∀x y,x=y\/sLt x y=true\/sLt y x=true:=λx y=>by
  rw[jj9,jj9,jfH,jfH];rcases Classical.em (x<y)with h|h
  .exact Or.inr (Or.inl h)
  rcases Classical.em (y<x)with h'|h'
  .exact Or.inr (Or.inr h')
  .exact Or.inl (List.le_antisymm (List.not_lt.1 h') (List.not_lt.1 h))
 have tr:∀x y z,sLt x y=true->sLt y z=true->sLt x z=true:=λx y z h1 h2=>by
  rw[jj9,jfH]at *;exact List.lt_trans h1 h2
 have neg:∀x y,jg0 x y<0↔sLt x y=true:=λx y=>by
  unfold jg0;cases h:sLt x y with
  |true=>simp
  |false=>
   rw[ja0 Bool.false_ne_true];split<;>simp
 refine⟨λa b=>?_,λa b=>?_,λa b d h1 h2=>(neg _ _).2 (tr _ _ _ ((neg _ _).1 h1) ((neg _ _).1 h2))⟩
 .unfold jg0;cases h:sLt a b with
  |true=>rw[jbZ rfl];exact⟨λh'=>by omega,λe=>by rw[e,irr]at h;cases h⟩
  |false=>
   rw[ja0 Bool.false_ne_true];by_cases e:a=b
   .rw [jbZ e];exact⟨λ_=>e,λ_=>rfl⟩
   .rw [ja0 e];exact⟨λh'=>by omega,λh'=>absurd h' e⟩
 .unfold jg0;rcases tot a b with e|e|e
  .subst e;rw[irr,ja0 Bool.false_ne_true,jbZ rfl];rfl
  .have h2:sLt b a=false:=by
    cases h:sLt b a with
    |false=>rfl
    |true=>exact(asy _ _ e h).elim
   have hne:¬b=a:=λh=>by rw[h,irr]at e;cases e
   rw[e,h2,ja0 Bool.false_ne_true,ja0 hne,jbZ rfl];rfl
  .have h2:sLt a b=false:=by
    cases h:sLt a b with
    |false=>rfl
    |true=>exact(asy _ _ e h).elim
   have hne:¬a=b:=λh=>by rw[h,irr]at e;cases e
   rw[e,h2,ja0 Bool.false_ne_true,ja0 hne,jbZ rfl]
def jg1(x y:Nat):Int:=if x<y then -1 else if y<x then 1 else 0
theorem jlV:Law3 jg1:=by
 refine⟨λa b=>?_,λa b=>?_,λa b d=>?_⟩<;>unfold jg1
 .split
  .omega
  .split<;>omega
 .split<;>split<;>(try split)<;>omega
 .intro h1 h2;by_cases h:a<b
  .by_cases h3:b<d
   .rw [jbZ (by omega)];omega
   .rw [ja0 h3]at h2;split at h2<;>omega
  .rw [ja0 h]at h1;split at h1<;>omega
def vF(n:Xb):Nat:=if jgk n then 0 else 1
abbrev Key:=Nat×(Xb×Nat)
def cK(x y:Key):Int:=if jg1 x.1 y.1≠0 then jg1 x.1 y.1 else if jg0 x.2.1 y.2.1≠0 then jg0 x.2.1 y.2.1 else jg1 x.2.2 y.2.2
theorem jlb:Law3 cK:=by
 have h2:Law3 λx y:Xb×Nat=>if jg0 x.1 y.1≠0 then jg0 x.1 y.1 else jg1 x.2 y.2:=jGH (f:=Prod.fst) (g:=Prod.snd) jjl jlV λx y h1 h2=>Prod.ext h1 h2;exact jGH (f:=Prod.fst) (g:=Prod.snd) jlV h2 λx y h1 h2=>Prod.ext h1 h2
def jhS(t:T):Key:=(vF t.name,(t.name,t.args.length))
mutual
def jhE(a b:T):Int:=
 match a with
 |.mk n us=>if cK (jhS (.mk n us)) (jhS b)≠0 then cK (jhS (.mk n us)) (jhS b)else jhn us b.args
termination_by structural a
def jhn(xs bs:Xg):Int:=
 match xs with
 | []=>0
 |a::xs=>(match bs with| []=>0|b::bs=>if jhE a b≠0 then jhE a b else jhn xs bs)
termination_by structural xs
end
theorem jkk(a b:T):jhE a b=if cK (jhS a) (jhS b)≠0 then cK (jhS a) (jhS b)else jhn a.args b.args:=by cases a;rfl
theorem jqD{a b:T}(h:jhS a=jhS b):a.name=b.name/\a.args.length=b.args.length:=by
 unfold jhS at h;simp only[jem]at h;exact h.2
theorem jHi{a b:T}(h1:a.name=b.name)(h2:a.args=b.args):a=b:=by
 cases a;cases b;simp only[T.name,T.args]at h1 h2;rw[h1,h2]
theorem jFH:∀{xs bs:Xg},(∀u∈xs,∀v,jhE u v=0↔u=v)->xs.length=bs.length->(jhn xs bs=0↔xs=bs)
 | [],[],_,_=>by simp[jhn]
 | [],_::_,_,h=>by cases h
 |_::_,[],_,h=>by cases h
 |a::xs,b::bs,h,hl=>by
  rw[jhn];have ih:=jFH (xs:=xs) (bs:=bs) (λu hu=>h u (by simp[hu])) (Nat.succ.inj hl);by_cases h0:jhE a b=0
  .rw [ja0 (λh'=>h' h0),ih,(h a (by simp) b).1 h0];simp
  .rw [jbZ h0];exact⟨λh'=>absurd h' h0,λe=>by rw[jfk]at e;exact(h a (by simp) b).2 e.1⟩
theorem jFc:∀{xs bs:Xg},(∀u∈xs,∀v,jhE v u = -(jhE u v))->xs.length=bs.length->jhn bs xs = -(jhn xs bs)
 | [],[],_,_=>by simp[jhn]
 | [],_::_,_,h=>by cases h
 |_::_,[],_,h=>by cases h
 |a::xs,b::bs,h,hl=>by
  rw[jhn,jhn,h a (by simp) b,jFc (xs:=xs) (bs:=bs) (λu hu=>h u (by simp[hu])) (Nat.succ.inj hl)];by_cases h0:jhE a b=0
  .rw [ja0 (by omega),ja0 (by omega)]
  .rw [jbZ (by omega),jbZ (by omega)]
theorem jDr(z:∀u v:T,jhE u v=0↔u=v):∀{xs bs ds:Xg},(∀u∈xs,∀v w,jhE u v<0->jhE v w<0->jhE u w<0)->xs.length=bs.length->bs.length=ds.length->jhn xs bs<0->jhn bs ds<0->jhn xs ds<0
 | [],_,_,_,_,_,h1,_=>by simp[jhn]at h1
 |a::xs,[],_,_,h,_,_,_=>by cases h
 |a::xs,b::bs,[],_,_,h,_,_=>by cases h
 |a::xs,b::bs,d::ds,h,hl,hl2,h1,h2=>by
  rw[jhn]at h1 h2⊢;by_cases c1:jhE a b=0
  .have e1:=(z a b).1 c1;rw[ja0 (λh'=>h' c1)]at h1;rw[e1];by_cases c2:jhE b d=0
   .rw [ja0 (λh'=>h' c2)]at h2;rw[ja0 (λh'=>h' c2)];exact jDr z (λu hu=>h u (by simp[hu])) (Nat.succ.inj hl) (Nat.succ.inj hl2) h1 h2
   .rw [jbZ c2]at h2;rw[jbZ c2];exact h2
  .rw [jbZ c1]at h1;by_cases c2:jhE b d=0
   .rw [<-(z b d).1 c2,jbZ c1];exact h1
   .rw [jbZ c2]at h2;have:=h a (by simp) b d h1 h2;rw[jbZ (by omega)];exact this
theorem jAC:Law3 jhE:=by
 have z:∀a b:T,jhE a b=0↔a=b:=by
  refine T.ind λa ih b=>?_;rw[jkk];by_cases h:cK (jhS a) (jhS b)=0
  .have hk:=(jlb.zero _ _).1 h;obtain⟨h1,h2⟩:=jqD hk;rw[ja0 (λh'=>h' h),jFH ih h2];exact⟨λe=>jHi h1 e,λe=>by rw[e]⟩
  .rw [jbZ h];exact⟨λh'=>absurd h' h,λe=>by rw[e]at h;exact absurd ((jlb.zero _ _).2 rfl) h⟩
 refine⟨z,?_,?_⟩
 .refine T.ind λa ih b=>?_;rw[jkk,jkk a b,jlb.flip (jhS a) (jhS b)];by_cases h:cK (jhS a) (jhS b)=0
  .obtain ⟨_,h2⟩:=jqD ((jlb.zero _ _).1 h);rw[ja0 (by omega),ja0 (by omega),jFc ih h2]
  .rw [jbZ (by omega),jbZ (by omega)]
 .refine T.ind λa ih b d h1 h2=>?_;rw[jkk]at h1 h2⊢;by_cases c1:cK (jhS a) (jhS b)=0
  .have e1:=(jlb.zero _ _).1 c1;rw[ja0 (λh'=>h' c1)]at h1;rw[e1];by_cases c2:cK (jhS b) (jhS d)=0
   .have e2:=(jlb.zero _ _).1 c2;rw[ja0 (λh'=>h' c2)]at h2;rw[ja0 (λh'=>h' c2)];exact jDr z ih (jqD e1).2 (jqD e2).2 h1 h2
   .rw [jbZ c2]at h2;rw[jbZ c2];exact h2
  .rw [jbZ c1]at h1;by_cases c2:cK (jhS b) (jhS d)=0
   .rw [<-(jlb.zero _ _).1 c2,jbZ c1];exact h1
   .rw [jbZ c2]at h2;have:=jlb.trans _ _ _ h1 h2;rw[jbZ (by omega)];exact this
def upN:Xb->Bool
 | []=>false
 |c::_=>upc c
mutual
def val(M:Xb->Xi->Int)(e:Xb->Int):T->Int
 |.mk n us=>if us.isEmpty && upN n then e n else M n (jE1 M e us)
def jE1(M:Xb->Xi->Int)(e:Xb->Int):Xg->Xi
 | []=>[]
 |t::ts=>val M e t::jE1 M e ts
end
theorem jv9(M:Xb->Xi->Int)(e:Xb->Int):∀ts:Xg,jE1 M e ts=ts.map (val M e)
 | []=>rfl
 |t::ts=>by rw[jE1,jv9 M e ts,jd1]
theorem jlt(M:Xb->Xi->Int)(e:Xb->Int)(t:T):val M e t=if t.args.isEmpty && upN t.name then e t.name else M t.name (t.args.map (val M e)):=by
 obtain⟨n,us⟩:=t;rw[val,jv9];rfl
theorem jud{n:Xb}(h:jgk n=true):upN n=true:=by
 cases n with
 |nil=>cases h
 |cons c r=>simp only[jgk,jbX]at h;exact h.1
theorem jog{n:Xb}(h:jhO n=true):upN n=false:=by
 cases n with
 |nil=>rfl
 |cons c r=>
  simp only[jhO,jbX]at h;have h:=h.1;show upc c=false;cases hu:upc c with
  |false=>rfl
  |true=>
   simp only[upc,jmQ,inB,jbX,jfH]at h hu;omega
theorem jq0{t:T}(h:okT t=true)(hv:jgk t.name=false):jhO t.name=true:=by
 rw[jht,hv,ja0 Bool.false_ne_true,jbX]at h;exact h.1
section
variable{M:Xb->Xi->Int}
theorem jmG{e:Xb->Int}{t:T}(h:okT t=true)(hv:jgk t.name=true):val M e t=e t.name:=by
 rw[jlt,jh7 h hv,jud hv];rfl
theorem jku{e:Xb->Int}{t:T}(h:upN t.name=false):val M e t=M t.name (t.args.map (val M e)):=by
 rw[jlt,h,Bool.and_false,ja0 Bool.false_ne_true]
theorem joh(u:jgn)(e:Xb->Int):∀t:T,okT t=true->val M e (sub u t)=val M (λx=>val M e (jid u x)) t:=by
 refine T.ind λt ih=>?_;intro ht;cases hv:jgk t.name with
 |true=>rw[jmG ht hv,jig hv]
 |false=>
  have hs:=jog (jq0 ht hv);rw[jku hs,jhK hv,jku (t:= .mk t.name (t.args.map (sub u))) hs];show M t.name ((t.args.map (sub u)).map (val M e))=_;rw[jfs];congr 1;exact List.map_congr_left λa ha=>ih a ha (jgQ ht a ha)
theorem jzW{e e':Xb->Int} :∀t:T,okT t=true->(∀x∈jgN t,e x=e' x)->val M e t=val M e' t:=by
 refine T.ind λt ih=>?_;intro ht h;rw[jjs]at h;cases hv:jgk t.name with
 |true=>
  rw[jmG ht hv,jmG ht hv];rw[hv,jbZ rfl]at h;exact h _ (by simp)
 |false=>
  have hs:=jog (jq0 ht hv);rw[jku hs,jku hs];rw[hv,ja0 Bool.false_ne_true]at h;congr 1;refine List.map_congr_left λa ha=>ih a ha (jgQ ht a ha) λx hx=>h x ?_;have:∀us:Xg,a∈us->x∈jhg us:=by
   intro us;induction us with
   |nil=>intro h;cases h
   |cons v vs ih=>
    intro h;rw[jhg];rcases ja1.1 h with rfl|h
    .exact jfv _ hx
    .exact jfZ _ (ih h)
  exact this _ ha
def Ext(m m':jgn):Prop:=∀x r,look m x=some r->look m' x=some r
theorem Ext.refl(m:jgn):Ext m m:=λ_ _ h=>h
theorem Ext.trans{a b c:jgn}(h:Ext a b)(h':Ext b c):Ext a c:=λx r hx=>h' x r (h x r hx)
theorem jGI:∀(a:T){m m':jgn}{t:T},okT a=true->mt m a t=some m'->Ext m m'/\ ∀m'',Ext m' m''->sub m'' a=t:=by
 refine T.ind (p:=λa=>∀{m m':jgn}{t:T},okT a=true->mt m a t=some m'->Ext m m'/\ ∀m'',Ext m' m''->sub m'' a=t) λa ih=>?_;intro m m' t ha h;cases hv:jgk a.name with
 |true=>
  rw[jnm hv]at h;split at h
  .rename_i r hl;split at h
   .rename_i hd;cases h;refine⟨Ext.refl _,λm'' h=>?_⟩;rw[jig hv,jid,h _ _ hl];exact jhF.1 hd
   .cases h
  .rename_i hl;cases h;refine⟨λx r hx=>by rw[jma,hx],λm'' h=>?_⟩;have:look (m++[(a.name,t)]) a.name=some t:=by rw[jma,hl];simp[look]
   rw[jig hv,jid,h _ _ this];rfl
 |false=>
  rw[jnl hv]at h;split at h
  .rename_i hn;have key:∀(us:Xg)(ts:Xg){m m':jgn},(∀u∈us,u∈a.args)->us.length=ts.length->mtL m us ts=some m'->Ext m m'/\ ∀m'',Ext m' m''->us.map (sub m'')=ts:=by
    intro us;induction us with
    |nil=>
     intro ts m m' _ hl h;simp only[mtL,jb4]at h;cases ts with
     |nil=>exact h ▸ ⟨Ext.refl _,λ_ _=>rfl⟩
     |cons=>cases hl
    |cons u us ih2=>
     intro ts m m' hu hl h;cases ts with
     |nil=>cases hl
     |cons s ts=>
      simp only[mtL]at h;obtain⟨m1,h1,h2⟩:=jcv.1 h;obtain⟨x1,x2⟩:=ih u (hu u (by simp)) (jgQ ha u (hu u (by simp))) h1;obtain⟨y1,y2⟩:=ih2 ts (λv hv=>hu v (by simp[hv])) (Nat.succ.inj hl) h2;exact⟨x1.trans y1,λm'' h=>by rw[jd1,x2 m'' (y1.trans h),y2 m'' h]⟩
   obtain⟨x1,x2⟩:=key a.args t.args (λ_ h=>h) hn.2 h;refine⟨x1,λm'' h=>?_⟩;rw[jhK hv,x2 m'' h,hn.1];cases t;rfl
  .cases h
variable{good:Int->Prop}
theorem jwa(hM:∀n vs,good (M n vs)){e:Xb->Int}(he:∀x,good (e x))(t:T):good (val M e t):=by
 rw[jlt];split
 .exact he _
 .exact hM _ _
def juo(M:Xb->Xi->Int)(good:Int->Prop)(rs:Xg):Prop:=∀r∈rs,∀e:Xb->Int,(∀x,good (e x))->val M e (ji6 r)=val M e (jkC r)
theorem jsk(hM:∀n vs,good (M n vs)){e:Xb->Int}(he:∀x,good (e x)){t:T} :∀{rs:Xg}{u:T},jk6 rs->juo M good rs->jif rs t=some u->val M e u=val M e t
 |r::rs,u,hr,hh,h=>by
  rw[jif]at h;split at h
  .rename_i m hm;cases h;obtain⟨r1,r2⟩:=hr r (by simp);obtain⟨_,x2⟩:=jGI _ r1 hm;have:=x2 m (Ext.refl m);rw[<-this,joh m e _ r1,joh m e _ r2];exact(hh r (by simp) _ λx=>jwa hM he _).symm
  .exact jsk hM he (λq hq=>hr q (by simp[hq])) (λq hq=>hh q (by simp[hq])) h
theorem joM{rs:Xg}{e:Xb->Int} :∀{us us':Xg},(∀u∈us,∀u',jj0 rs true u=some u'->val M e u'=val M e u)->ji7 rs us=some us'->us'.map (val M e)=us.map (val M e)/\us'.length=us.length
 |t::ts,us',hk,h=>by
  rw[ji7]at h;split at h
  .rename_i t' ht;cases h;rw[jd1,jd1,hk t (by simp) _ ht];exact⟨rfl,by simp⟩
  .rw [jeq]at h;obtain⟨r,h3,rfl⟩:=h;obtain⟨g1,g2⟩:=joM (λu hu=>hk u (by simp[hu])) h3;rw[jd1,jd1,g1];exact⟨rfl,by simp[g2]⟩
theorem jCD(hM:∀n vs,good (M n vs)){e:Xb->Int}(he:∀x,good (e x)){rs:Xg}(hr:jk6 rs)(hh:juo M good rs):∀(t:T){u:T},okT t=true->jj0 rs true t=some u->val M e u=val M e t:=by
 refine T.ind (p:=λt=>∀{u:T},okT t=true->jj0 rs true t=some u->val M e u=val M e t) λt ih=>?_;intro u ht h;rw[jlo]at h;split at h
 .rename_i us ho;cases h;obtain⟨g1,g2⟩:=joM (M:=M) (e:=e) (λv hv u' hu'=>ih v hv (jgQ ht v hv) hu') ho;rw[jlt,jlt M e t];show(if us.isEmpty && upN t.name then e t.name else M t.name (us.map (val M e)))=_;rw[g1];have:us.isEmpty=t.args.isEmpty:=by
   cases us<;>cases hta:t.args<;>rw[hta]at g2<;>simp_all
  rw[this]
 .exact jsk hM he hr hh h
theorem jC7(hM:∀n vs,good (M n vs)){e:Xb->Int}(he:∀x,good (e x)){rs:Xg}(hr:jk6 rs)(hh:juo M good rs):∀(k n:Nat)(t:T){r:T×Nat},(∀u∈t.args,okT u=true)->rwN rs false k n t=some r->r.1.name=t.name/\r.1.args.map (val M e)=t.args.map (val M e)/\ ∀u∈r.1.args,okT u=true:=by
 intro k;induction k with
 |zero=>intro n t r _ h;cases h
 |succ k ih=>
  intro n t r ht h;rw[rwN]at h;split at h
  .cases h;exact⟨rfl,rfl,ht⟩
  .rename_i u hu;split at h
   .cases h
   .rw [jlo]at hu;split at hu;rotate_left
    .cases hu
    rename_i us ho;cases hu;obtain⟨_,g2⟩:=jln ho;have hk:∀v∈us,okT v=true:=g2 (λv=>okT v=true) ht λv hv u' hu'=>jyz hr v (ht v hv) hu';obtain⟨q1,q2,q3⟩:=ih (n+1) (.mk t.name us) hk h;exact⟨q1,q2.trans (joM (M:=M) (e:=e) (λv hv u' hu'=>jCD hM he hr hh v (ht v hv) hu') ho).1,q3⟩
end
def dec(n:Nat):Nat->Nat->Xf
 |0,_=>[]
 |l+1,k=>k % n::dec n l (k / n)
def enc(n:Nat):Xf->Nat
 | []=>0
 |v::vs=>v+n*enc n vs
def vnA(l:Xa)(n:Xb):Xa:=if l.contains n then l else l++[n]
mutual
def vn(l:Xa):T->Xa
 |.mk n us=>if us.isEmpty && upN n then vnA l n else vnL l us
def vnL(l:Xa):Xg->Xa
 | []=>l
 |t::ts=>vnL (vn l t) ts
end
def VIn(S:Xa)(t:T):Prop:=∀x∈jgN t,x∈S
abbrev Lt:=Bool×T
def fl(b:Bool):Nat:=if b then 1 else 0
def cmpL(a b:Lt):Int:=if jhE a.2 b.2≠0 then jhE a.2 b.2 else jg1 (fl a.1) (fl b.1)
theorem ji1:Law3 cmpL:=jGH (f:=Prod.snd) (g:=λl:Lt=>fl l.1) jAC jlV λx y h1 h2=>by
 obtain⟨p,t⟩:=x;obtain⟨q,u⟩:=y;have h1:t=u:=h1;have h2:fl p=fl q:=h2;subst h1;cases p<;>cases q<;>first|rfl|(simp[fl]at h2)
abbrev Cls:=List Lt
def juq:Cls->Bool
 |a::b::l=>decide (cmpL a b<0) && juq (b::l)
 |_=>true
theorem jur:∀c:Cls,juq c=true↔Asc cmpL c
 | []=>by simp[juq,Asc]
 | [a]=>by simp[juq,Asc]
 |a::b::l=>by
  rw[juq,jbX,jfH,jur (b::l)];unfold Asc;constructor
  .rintro ⟨h1,h2⟩;refine List.pairwise_cons.2 ⟨λx hx=>?_,h2⟩;rcases ja1.1 hx with e|e
   .rw [e];exact h1
   .exact ji1.trans a b x h1 ((List.pairwise_cons.1 h2).1 x e)
  .intro h;exact⟨(List.pairwise_cons.1 h).1 b (by simp),(List.pairwise_cons.1 h).2⟩
mutual
def jjz(l:Xa):T->Xa
 |.mk n us=>if jgk n then vnA l n else jmg l us
def jmg(l:Xa):Xg->Xa
 | []=>l
 |t::ts=>jmg (jjz l t) ts
end
theorem jtZ(l:Xa)(t:T):jjz l t=if jgk t.name then vnA l t.name else jmg l t.args:=by cases t;rfl
def jgU(c:Cls):Xa:=c.foldl (λl x=>jjz l x.2) []
def jiG(p:UInt8)(i:Nat):Xb:=p::Lib.decDigits i
def ji4(c:Cls):Bool:=decide (jgU c=(List.range (jgU c).length).map (jiG 88))
mutual
def jgV(f:Xb->Xb):T->T
 |.mk n us=>if jgk n then .mk (f n) []else .mk n (y9 f us)
def y9(f:Xb->Xb):Xg->Xg
 | []=>[]
 |t::ts=>jgV f t::y9 f ts
end
theorem jvM(f:Xb->Xb):∀ts:Xg,y9 f ts=ts.map (jgV f)
 | []=>rfl
 |t::ts=>by rw[y9,jvM f ts,jd1]
theorem jkr(f:Xb->Xb)(t:T):jgV f t=if jgk t.name then .mk (f t.name) []else .mk t.name (t.args.map (jgV f)):=by
 cases t;rw[jgV,jvM];rfl
def jgY(p:UInt8)(l:Xa)(n:Xb):Xb:=match l.findIdx? (λx=>decide (x=n))with|some i=>jiG p i|none=>n
def renC(p:UInt8)(c:Cls):Cls:=jhA cmpL (c.map λl=>(l.1,jgV (jgY p (jgU c)) l.2))
def normF:Nat->Cls->Cls
 |0,c=>c
 |k+1,c=>if ji4 c then c else normF k (renC 88 c)
def normC(c:Cls):Cls:=normF 10 c
end Go.Proofs.YthlhadhipnokfaaGreatDoor
