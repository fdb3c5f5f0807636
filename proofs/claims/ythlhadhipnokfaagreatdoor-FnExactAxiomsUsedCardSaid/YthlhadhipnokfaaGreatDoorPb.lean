/- Pb -/
import Derived.Test.YthlhadhipnokfaaGreatDoorPa
import Derived.Test.YthlhadhipnokfaaGreatDoorPq
import Derived.Sort.Walk0
import Derived.Lib.ItoaNum
namespace Go.Proofs.YthlhadhipnokfaaGreatDoor
open Go Go.RowKit Go.Proofs.YthlhadhipnokfaaGreatDoor.Abs
set_option linter.unusedSimpArgs false
set_option linter.unusedVariables false
set_option maxHeartbeats 1000000
abbrev jw:=List (Xb×T)
mutual
noncomputable def mt(m:jw)(p:T)(t:T):Option jw:=
 match p with
 |.mk n us=>if js n then(match look m n with|some r=>if dq r t then some m else none|none=>some (m++[(n,t)]))
   else if n=t.name/\us.length=t.args.length then QM m us t.args else none
termination_by structural p
noncomputable def QM(m:jw)(ps:Xg)(ts:Xg):Option jw:=
 match ps with
 | []=>some m
 |u::us=>(match ts with| []=>some m|t::ts=>(mt m u t).bind λm'=>QM m' us ts)
termination_by structural ps
end
theorem jdJ{m:jw}{p t:T}(h:js p.name=true):mt m p t=(match look m p.name with|some r=>if dq r t then some m else none|none=>some (m++[(p.name,t)])):=by
 obtain⟨n,us⟩:=p;have h:js n=true:=h;simp only[mt,h,qi,T.name]
theorem jdI{m:jw}{p t:T}(h:js p.name=false):mt m p t=if p.name=t.name/\p.args.length=t.args.length then QM m p.args t.args else none:=by
 obtain⟨n,us⟩:=p;have h:js n=false:=h;simp only[mt,h,KI,if_false];rfl
theorem jbP:∀(u v:jw)(n:Xb),look (u++v) n=(match look u n with|some r=>some r|none=>look v n)
 | [],v,n=>rfl
 |p::u,v,n=>by
  rw[Zp,look,look];by_cases h:p.1=n
  .rw [jg h,jg h]
  .rw [jh h,jh h];exact jbP u v n
theorem JB{u:jw}{n:Xb} :look u n=none↔ ∀p∈u,p.1≠n:=by
 induction u with
 |nil=>simp[look]
 |cons p u ih=>
  rw[look];by_cases h:p.1=n
  .rw [jg h];simp[h]
  .rw [jh h,ih];simp[h]
theorem JA:∀{u:jw}{n:Xb}{r:T},look u n=some r->(n,r)∈u
 |p::u,n,r,h=>by
  rw[look]at h;by_cases e:p.1=n
  .rw [jg e]at h;cases h;rw[<-e];simp
  .rw [jh e]at h;exact List.mem_cons_of_mem _ (JA h)
def MOk(p:T->Prop)(m:jw):Prop:=(m.map Prod.fst).Nodup/\(∀q∈m,js q.1=true/\p q.2)
theorem MOk.nil(p:T->Prop):MOk p []:=⟨by simp,λq h=>by cases h⟩
theorem MOk.push{p:T->Prop}{m:jw}(h:MOk p m){n:Xb}{t:T}(hn:js n=true)(ht:p t)(hl:look m n=none):MOk p (m++[(n,t)]):=by
 refine⟨?_,λq hq=>?_⟩
 .rw [List.map_append,ja1];refine⟨h.1,by simp,λa ha b hb=>?_⟩;simp only[kK,List.map_nil,zx]at hb;subst hb;obtain⟨q,hq,rfl⟩:=yn.1 ha;exact JB.1 hl q hq
 .rcases kW.1 hq with hq|hq
  .exact h.2 q hq
  .simp only[zx]at hq;subst hq;exact⟨hn,ht⟩
theorem jlJ{p:T->Prop}(hp:∀t,p t-> ∀u∈t.args,p u):∀(a:T){m m':jw}{t:T},MOk p m->p t->mt m a t=some m'->MOk p m':=by
 refine T.ind (p:=λa=>∀{m m':jw}{t:T},MOk p m->p t->mt m a t=some m'->MOk p m') λa ih=>?_;intro m m' t hm ht h;cases hv:js a.name with
 |true=>
  rw[jdJ hv]at h;split at h
  .split at h
   .cases h;exact hm
   .cases h
  .rename_i hl;cases h;exact hm.push hv ht hl
 |false=>
  rw[jdI hv]at h;split at h
  .have key:∀(us:Xg)(ts:Xg){m m':jw},(∀u∈us,u∈a.args)->(∀u∈ts,p u)->MOk p m->QM m us ts=some m'->MOk p m':=by
    intro us;induction us with
    |nil=>intro ts m m' _ _ hm h;simp only[QM,zI]at h;exact h ▸ hm
    |cons u us ih2=>
     intro ts m m' hu hts hm h;cases ts with
     |nil=>simp only[QM,zI]at h;exact h ▸ hm
     |cons s ts=>
      simp only[QM]at h;obtain⟨m1,h1,h2⟩:=yG.1 h;exact ih2 ts (λx hx=>hu x (by simp[hx])) (λx hx=>hts x (by simp[hx])) (ih u (hu u (by simp)) hm (hts s (by simp)) h1) h2
   exact key a.args t.args (λ_ h=>h) (hp t ht) hm h
  .cases h
def YC(s:jw)(n:Xb)(t:T):jw:=s.takeWhile (λp=>yK p.1 n)++(n,t)::s.dropWhile (λp=>yK p.1 n)
def JW(s:jw)(n:Xb)(t:T):jw:=if t.name=n then s else YC s n t
def JK(m:jw):jw:=m.foldl (λs p=>JW s p.1 p.2) []
theorem jaI(a:Xb):yK a a=false:=by
 unfold yK;cases h:Op.bytesLess a a with
 |false=>rfl
 |true=>
  exfalso;induction a with
  |nil=>simp[Op.bytesLess]at h
  |cons c r ih=>simp[Op.bytesLess]at h;exact ih h
theorem jwo(n:Xb)(t:T)(x:Xb):∀s:jw,look (YC s n t) x=if n=x then some t else look s x:=by
 intro s;unfold YC;induction s with
 |nil=>simp[look]
 |cons p s ih=>
  cases hl:yK p.1 n with
  |true=>
   rw[List.takeWhile_cons_of_pos (p:=λp:Xb×T=>yK p.1 n) hl,List.dropWhile_cons_of_pos (p:=λp:Xb×T=>yK p.1 n) hl,Zp,look,ih,look];by_cases h1:p.1=x
   .rw [jg h1,jg h1];have:n≠x:=λe=>by rw[h1,<-e,jaI]at hl;cases hl
    rw[jh this]
   .rw [jh h1,jh h1]
  |false=>
   rw[List.takeWhile_cons_of_neg (p:=λp:Xb×T=>yK p.1 n) (by simp[hl]),List.dropWhile_cons_of_neg (p:=λp:Xb×T=>yK p.1 n) (by simp[hl]),yF,look]
theorem jlH(s:jw)(n:Xb)(t:T)(x:Xb):look (JW s n t) x=if n=x/\t.name≠x then some t else look s x:=by
 unfold JW;by_cases h:t.name=n
 .rw [jg h];by_cases h2:n=x
  .rw [jh (λh3=>h3.2 (h.trans h2))]
  .rw [jh (λh3=>h2 h3.1)]
 .rw [jh h,jwo];by_cases h2:n=x
  .rw [jg h2,jg ⟨h2,λe=>h (e.trans h2.symm)⟩]
  .rw [jh h2,jh (λh3=>h2 h3.1)]
theorem jjp(x:Xb):∀(m s:jw),(m.map Prod.fst).Nodup->look (m.foldl (λs p=>JW s p.1 p.2) s) x=(match look m x with|some t=>if t.name=x then look s x else some t|none=>look s x)
 | [],s,_=>rfl
 |p::m,s,hn=>by
  rw[kK,jdl]at hn;rw[List.foldl_cons,jjp x m _ hn.2,look];by_cases h:p.1=x
  .have:look m x=none:=JB.2 λq hq e=>hn.1 (by rw[h,<-e];exact List.mem_map_of_mem hq)
   rw[this,jg h];show look (JW s p.1 p.2) x=if p.2.name=x then look s x else some p.2;rw[jlH];by_cases h2:p.2.name=x
   .rw [jg h2,jh (λh3=>h3.2 h2)]
   .rw [jh h2,jg ⟨h,h2⟩]
  .rw [jh h];have e:look (JW s p.1 p.2) x=look s x:=by rw[jlH,jh (λh3=>h h3.1)]
   rw[e]
theorem jtZ{m:jw}(hm:MOk (λt=>zy t=true) m){x:Xb}(hx:js x=true):qY (JK m) x=qY m x:=by
 unfold qY JK;rw[jjp x m [] hm.1];cases h:look m x with
 |none=>rfl
 |some t=>
  show Option.getD (if t.name=x then look [] x else some t) _=t;by_cases h2:t.name=x
  .rw [jg h2];have hk:=(hm.2 _ (JA h)).2;have ha:=qP hk (by rw[h2];exact hx);show T.mk x []=t;rw[<-h2,<-ha,T.eta]
  .rw [jh h2];rfl
theorem jxd{u v:jw}(h:∀x,js x=true->qY u x=qY v x):∀t:T,sub u t=sub v t:=by
 refine T.ind λt ih=>?_;cases hv:js t.name with
 |true=>rw[Jc hv,Jc hv,h _ hv]
 |false=>rw[qh hv,qh hv,List.map_congr_left ih]
theorem jxe{m:jw}(hm:MOk (λt=>zy t=true) m)(t:T):sub (JK m) t=sub m t:=jxd (λ_ hx=>jtZ hm hx) t
theorem jAD(n:Xb)(h:js n=true):zy (.mk n [])=true:=by rw[yA];show(if js n then _ else _)=true;rw[jg h];rfl
theorem YM{u:jw}(hu:∀q∈u,zy q.2=true):∀t:T,zy t=true->zy (sub u t)=true:=by
 refine T.ind λt ih hk=>?_;cases hv:js t.name with
 |true=>
  rw[Jc hv,qY];cases h:look u t.name with
  |none=>exact jAD _ hv
  |some r=>exact hu _ (JA h)
 |false=>
  have hk':=hk;rw[yA,hv,jh Bool.false_ne_true,jI,jI,JS]at hk;rw[yA,jfj hv,hv,jh Bool.false_ne_true,jcc hv,jI,jI,JS];refine⟨hk.1,by simpa using hk.2.1,?_⟩;rw[List.all_map,yx];intro a ha;exact ih a ha (yx.1 hk.2.2 a ha)
def Kx(r:T):T:=r.args.getD 0 (.mk [] [])
def Qw(r:T):T:=r.args.getD 1 (.mk [] [])
noncomputable def Jb:Xg->T->Option T
 | [],_=>none
 |r::rs,t=>(match mt [] (Kx r) t with|some m=>some (sub m (Qw r))|none=>Jb rs t)
mutual
noncomputable def Yt(rs:Xg)(root:Bool):T->Option T
 |.mk n us=>(match Ky rs us with|some us'=>some (.mk n us')|none=>if root then Jb rs (.mk n us)else none)
noncomputable def Ky(rs:Xg):Xg->Option Xg
 | []=>none
 |t::ts=>(match Yt rs true t with|some t'=>some (t'::ts)|none=>(Ky rs ts).map (t::·))
end
theorem jay(rs:Xg)(root:Bool)(t:T):Yt rs root t=(match Ky rs t.args with|some us=>some (.mk t.name us)|none=>if root then Jb rs t else none):=by cases t;rfl
def atT:Xf->T->T
 | [],t=>t
 |i::p,t=>atT p (t.args.getD i (.mk [] []))
def kJ(s:T):Xf->T->T
 | [],_=>s
 |i::p,t=>.mk t.name (t.args.set i (kJ s p (t.args.getD i (.mk [] []))))
mutual
def QP:T->List Xf
 |.mk _ us=>Qa 0 us++[[]]
def Qa(i:Nat):Xg->List Xf
 | []=>[]
 |t::ts=>(QP t).map (i::·)++Qa (i+1) ts
end
theorem jra(t:T):QP t=Qa 0 t.args++[[]]:=by cases t;rfl
theorem jeE{α β γ:Type}(f:β->Option γ)(g:α->β):∀l:List α,(l.map g).findSome? f=l.findSome? (λa=>f (g a))
 | []=>rfl
 |a::l=>by rw[kK,List.findSome?_cons,List.findSome?_cons,jeE f g l]
theorem jbD{α β:Type}{f g:α->Option β} :∀{l:List α},(∀a∈l,f a=g a)->l.findSome? f=l.findSome? g
 | [],_=>rfl
 |a::l,h=>by rw[List.findSome?_cons,List.findSome?_cons,h a (by simp),jbD λb hb=>h b (by simp[hb])]
theorem jc6{α β γ:Type}(f:α->Option β)(g:β->γ):∀l:List α,l.findSome? (λa=>(f a).map g)=(l.findSome? f).map g
 | []=>rfl
 |a::l=>by
  rw[List.findSome?_cons,List.findSome?_cons];cases h:f a with
  |none=>exact jc6 f g l
  |some b=>rfl
noncomputable def YL(rs:Xg)(root:Bool)(t:T)(p:Xf):Option T:=if p=[]/\root=false then none else(Jb rs (atT p t)).map λs=>kJ s p t
theorem jwv(rs:Xg):∀(t:T)(root:Bool),(QP t).findSome? (YL rs root t)=Yt rs root t:=by
 refine T.ind λt ih root=>?_;have hL:∀(us:Xg)(i:Nat),(∀u∈us,u∈t.args)->t.args.drop i=us->(Qa i us).findSome? (YL rs root t)=(Ky rs us).map λus'=>.mk t.name (t.args.take i++us'):=by
  intro us;induction us with
  |nil=>intro i _ _;rfl
  |cons u us ih2=>
   intro i hu hd;have hi:i<t.args.length:=by
    rcases Nat.lt_or_ge i t.args.length with h|h
    .exact h
    .rw [List.drop_of_length_le h]at hd;cases hd
   have hui:t.args.getD i (.mk [] [])=u:=by
    rw[zP];have:=congrArg (λl=>l[0]?) hd;simp only[jcn,j6,List.getElem?_cons_zero]at this;rw[this];rfl
   have hd2:t.args.drop (i+1)=us:=by
    have:=congrArg (λl=>l.drop 1) hd;simpa[List.drop_drop,Nat.add_comm]using this
   rw[Qa,List.findSome?_append,jeE,Ky];have e1:(QP u).findSome? (λp=>YL rs root t (i::p))=(Yt rs true u).map λu'=>.mk t.name (t.args.set i u'):=by
    rw[<-ih u (hu u (by simp)) true,<-jc6];refine jbD λp _=>?_;unfold YL;rw[jh (by simp),jh (by simp),atT,hui];cases Jb rs (atT p u)with
    |none=>rfl
    |some s=>show some (kJ s (i::p) t)=some (T.mk t.name (t.args.set i (kJ s p u)));rw[kJ,hui]
   rw[e1];cases ho:Yt rs true u with
   |some u'=>
    show some (T.mk t.name (t.args.set i u'))=some (T.mk t.name (t.args.take i++u'::us));rw[List.set_eq_take_append_cons_drop,jg hi,hd2]
   |none=>
    show(Qa (i+1) us).findSome? (YL rs root t)=_;rw[ih2 (i+1) (λx hx=>hu x (by simp[hx])) hd2];cases Ky rs us with
    |none=>rfl
    |some us'=>
     show some (T.mk t.name (t.args.take (i+1)++us'))=some (T.mk t.name (t.args.take i++u::us'));have:t.args.take (i+1)=t.args.take i++[u]:=by
      rw[List.take_add_one];congr 1;have h0:t.args[i]? = some u:=by
       have:=congrArg (λl=>l[0]?) hd;simpa using this
      rw[h0];rfl
     rw[this,ze];rfl
 rw[jra,List.findSome?_append,hL t.args 0 (λ_ h=>h) rfl,jay];cases Ky rs t.args with
 |some us=>rfl
 |none=>
  show([[]]:List Xf).findSome? (YL rs root t)=(if root=true then Jb rs t else none);rw[List.findSome?_cons];unfold YL;cases root with
  |false=>rfl
  |true=>
   rw[jh (by simp),jg rfl];rw[atT];cases Jb rs t<;>rfl
def Q9(rs:Xg):Prop:=∀r∈rs,zy (Kx r)=true/\zy (Qw r)=true
theorem jrs{t:T}(ht:zy t=true):∀{rs:Xg}{u:T},Q9 rs->Jb rs t=some u->zy u=true
 |r::rs,u,hr,h=>by
  rw[Jb]at h;split at h
  .rename_i m hm;cases h;have hM:=jlJ (p:=λt=>zy t=true) (λt ht u hu=>by
    cases hv:js t.name with
    |true=>rw[qP ht hv]at hu;cases hu
    |false=>
     rw[yA,hv,jh Bool.false_ne_true,jI,jI,JS]at ht;exact yx.1 ht.2.2 u hu) _ (MOk.nil _) ht hm
   exact YM (λq hq=>(hM.2 q hq).2) _ (hr r (by simp)).2
  .exact jrs ht (λq hq=>hr q (by simp[hq])) h
theorem jax{rs:Xg} :∀{us us':Xg},Ky rs us=some us'->us'.length=us.length/\ ∀p:T->Prop,(∀u∈us,p u)->(∀u∈us,∀u',Yt rs true u=some u'->p u')-> ∀u∈us',p u
 |t::ts,us',h=>by
  rw[Ky]at h;split at h
  .rename_i t' ht;cases h;refine⟨by simp,λp h1 h2 u hu=>?_⟩;rcases jK.1 hu with rfl|hu
   .exact h2 t (by simp) _ ht
   .exact h1 u (by simp[hu])
  .rw [Jh]at h;obtain⟨r,h3,rfl⟩:=h;obtain⟨g1,g2⟩:=jax h3;refine⟨by simp[g1],λp h1 h2 u hu=>?_⟩;rcases jK.1 hu with rfl|hu
   .exact h1 _ (by simp)
   .exact g2 p (λu hu=>h1 u (by simp[hu])) (λu hu=>h2 u (by simp[hu])) u hu
theorem jvq{rs:Xg}(hr:Q9 rs):∀(t:T){u:T},zy t=true->Yt rs true t=some u->zy u=true:=by
 refine T.ind (p:=λt=>∀{u:T},zy t=true->Yt rs true t=some u->zy u=true) λt ih=>?_;intro u ht h;rw[jay]at h;split at h
 .rename_i us ho;cases h;obtain⟨g1,g2⟩:=jax ho;cases hv:js t.name with
  |true=>
   rw[qP ht hv]at ho;cases ho
  |false=>
   have ha:=kO ht;rw[yA,hv,jh Bool.false_ne_true,jI,jI]at ht;rw[yA];show(if js t.name then _ else qo t.name && (decide (us.length<=4) && jjA us))=true;rw[hv,jh Bool.false_ne_true,jI,jI,g1,JS,yx];exact⟨ht.1,ht.2.1,g2 _ ha λu hu u' hu'=>ih u hu (ha u hu) hu'⟩
 .exact jrs ht hr h
noncomputable def rwN(rs:Xg)(root:Bool):Nat->Nat->T->Option (T×Nat)
 |0,_,_=>none
 |k+1,n,t=>(match Yt rs root t with
  |none=>some (t,n)
  |some u=>if k=0\/jF u=false then none else rwN rs root k (n+1) u)
theorem jal(ts:Xg)(hl:ts.length<=1048576)(ih:∀t∈ts,G 138 [tm t]=some (tm t,[])):jmN (jG ts)=some (.top,[jG ts]):=by
 rw[jFt];by_cases h0:ts.length=0
 .have:ts=[]:=List.length_eq_zero_iff.1 h0;subst this;simp only[je,Int.natCast_zero];rfl
 have hz:¬((ts.length:Nat):Int)=0:=by omega
 have hm:=qV (b:=40) (n:=ts.length) (by omega) hl;have key:=(upto (P:=λi=>jea (jG ts) (vi (ts.length:Nat)) (vi i) (part jm [sv [],.sl 2 []] ts i)=some (.top,[jG ts])) (n:=ts.length) ?_ ?_ 0 (Nat.zero_le _))
 .simp only[Int.natCast_zero,<-KT]at key;simp only[je,hz,hm,key]
 .rw [jql,Yz];simp only[je]
 .intro i hi ih';have hlt:(i:Int)<((ts.length:Nat):Int):=by omega
  have h1:=Jq (f:=jm) (z:=[sv [],.sl 2 []]) (Nat.le_of_lt hi);have h2:Zt (part jm [sv [],.sl 2 []] ts i).length (vi i)=some i:=zg (by omega);have h4:=YB (f:=jm) (z:=[sv [],.sl 2 []]) hi;rw[kU]at h4;have h5:=jo hi (Zs hl (by decide));have e1:G 138 [A.agg [sv ts[i].name,jG ts[i].args]]=_:=ih ts[i] (jr _);rw[jql];simp only[je,hlt,ja hi,jd,e1,h2,YA hi,jhB,h4,h5,ih']
theorem Jm(t:T):tsz t<=1048576->G 138 [tm t]=some (tm t,[]):=by
 refine T.ind (p:=λt=>tsz t<=1048576->G 138 [tm t]=some (tm t,[])) ?_ t;intro t ih h;rw[kH]at h;have e1:=jal t.args (by omega) λu hu=>ih u hu (by have:=yv hu;omega);rw[jJM];simp only[je,e1]
theorem jnU(t:T)(h:tsz t<=1048576):jfB (sv t.name) (jG t.args)=some (.top,[sv t.name,jG t.args]):=by
 rw[kH]at h;have e1:=jal t.args (by omega) λu hu=>Jm u (by have:=yv hu;omega);rw[jx8];simp only[je,e1]
theorem jcC:pNo (vb false)=some ():=rfl
theorem jEX:slL [259] [[]]=[.sl 259 []]:=rfl
theorem jwK{n:Nat}(h:n<=4194304):jM n 56=true:=by
 unfold jM;exact decide_eq_true ⟨by omega,by omega⟩
theorem jjt{p:T->Prop}(hp:∀t,p t-> ∀u∈t.args,p u):∀(a:T){m m':jw}{t:T},(∀q∈m,p q.2)->p t->mt m a t=some m'->(∀q∈m',p q.2)/\m'.length<=m.length+nodes a:=by
 refine T.ind (p:=λa=>∀{m m':jw}{t:T},(∀q∈m,p q.2)->p t->mt m a t=some m'->(∀q∈m',p q.2)/\m'.length<=m.length+nodes a) λa ih=>?_;intro m m' t hm ht h;have hn:=jO a;cases hv:js a.name with
 |true=>
  rw[jdJ hv]at h;split at h
  .split at h
   .cases h;exact⟨hm,by omega⟩
   .cases h
  .cases h;refine⟨λq hq=>?_,by rw[zv,List.length_singleton];omega⟩;rcases kW.1 hq with hq|hq
   .exact hm q hq
   .simp only[zx]at hq;subst hq;exact ht
 |false=>
  rw[jdI hv]at h;split at h
  .have key:∀(us:Xg)(ts:Xg){m m':jw},(∀u∈us,u∈a.args)->(∀u∈ts,p u)->(∀q∈m,p q.2)->QM m us ts=some m'->(∀q∈m',p q.2)/\m'.length<=m.length+ju us:=by
    intro us;induction us with
    |nil=>intro ts m m' _ _ hm h;simp only[QM,zI]at h;exact h ▸ ⟨hm,by omega⟩
    |cons u us ih2=>
     intro ts m m' hu hts hm h;have e:ju (u::us)=nodes u+ju us:=rfl;cases ts with
     |nil=>simp only[QM,zI]at h;exact h ▸ ⟨hm,by omega⟩
     |cons s ts=>
      simp only[QM]at h;obtain⟨m1,h1,h2⟩:=yG.1 h;obtain⟨i1,i2⟩:=ih u (hu u (by simp)) hm (hts s (by simp)) h1;obtain⟨j1,j2⟩:=ih2 ts (λx hx=>hu x (by simp[hx])) (λx hx=>hts x (by simp[hx])) i1 h2;exact⟨j1,by omega⟩
   obtain⟨i1,i2⟩:=key a.args t.args (λ_ h=>h) (hp t ht) hm h;exact⟨i1,by omega⟩
  .cases h
def MR(o:Xe)(r:Option jw):Prop:=match r with
 |some m'=>o=some (.top,[vb true,.sl 259 (m'.map bc)])
 |none=>∃R,o=some (.top,[vb false,.sl 259 R])
theorem jjL{m:jw}{i:Nat}(hi:i<m.length):ZK (m.map bc) i 0=some (sv m[i].1):=by unfold ZK;simp[hi]
theorem jq3{m:jw}{i:Nat}(hi:i<m.length):ZJ (m.map bc) i 1 2=some (tm m[i].2):=by unfold ZJ;simp[hi]
def Tz(t:T):Prop:=tsz t<=1048576
theorem Tz.args{t:T}(h:Tz t):∀u∈t.args,Tz u:=λu hu=>by
 have:=yv hu;unfold Tz at h⊢;rw[kH]at h;omega
theorem Tz.wf{t:T}(h:Tz t):Jv t:=jGK t h
theorem jwj(n:Xb)(x:A)(t:T)(ht:Tz t)(m:jw)(hm:∀q∈m,Tz q.2)(hl:m.length<=4000000)(hx:jU x=true):MR (jbr (vi 0) (sv n) x (sv t.name) (jG t.args) (m.map bc)) (match look m n with|some r=>if dq r t then some m else none|none=>some (m++[(n,t)])):=by
 have key:=upto (P:=λi=>MR (jbr (vi i) (sv n) x (sv t.name) (jG t.args) (m.map bc)) (match look (m.drop i) n with|some r=>if dq r t then some m else none|none=>some (m++[(n,t)]))) (n:=m.length) ?_ ?_ 0 (Nat.zero_le _)
 .exact key
 .rw [List.drop_length,jqw];have hf:=jwK (n:=m.length+1) (by omega);show _=_;simp only[je,hf];rw[List.map_append];rfl
 .intro i hi ih;have hlt:(i:Int)<((m.length:Nat):Int):=by omega
  have h5:=jo hi (by show m.length<=9223372036854775807;omega)
  have x1:Zt m.length (vi ((i:Nat):Int))=some i:=zg hi;have x2:=jjL hi;have x3:=jq3 hi;have e1:=Kd m[i].2 (hm _ (jr hi)).wf t ht.wf;rw[jqw,ji hi,look];by_cases he:m[i].1=n
  .rw [jg he];show MR _ (if dq m[i].2 t=true then some m else none);cases hd:dq m[i].2 t<;>rw[hd]at e1
   .rw [jh Bool.false_ne_true];refine⟨m.map bc,?_⟩;simp only[je,hlt,x1,x2,x3,he,e1]
   .rw [jg rfl];show _=_;simp only[je,hlt,x1,x2,x3,he,e1]
  .rw [jh he];simp only[je,hlt,x1,x2,x3,he,h5];exact ih
theorem jti(a t:T)(ht:Tz t)(ha:Tz a)(hl:a.args.length=t.args.length)(m:jw)(hm:∀q∈m,Tz q.2)(hk:m.length+ju a.args<=4000000)
  (ih:∀u∈a.args,∀(s:T)(m:jw),Tz s->(∀q∈m,Tz q.2)->m.length+nodes u<=4000000->MR (jbc (tm u) (tm s) (m.map bc)) (mt m u s)) :
  MR (jei (vi 0) (sv a.name) (jG a.args) (sv t.name) (jG t.args) (m.map bc)) (QM m a.args t.args):=by
 have ha':=ha;unfold Tz at ha;rw[kH]at ha;have nd:∀i,i<a.args.length->ju (a.args.drop i)=ju a.args->True:=λ_ _ _=>trivial;have key2:=upto (P:=λi=>∀m:jw,(∀q∈m,Tz q.2)->m.length+ju (a.args.drop i)<=4000000->MR (jej (vi i) (sv a.name) (jG a.args) (sv t.name) (jG t.args) (m.map bc)) (QM m (a.args.drop i) (t.args.drop i))) (n:=a.args.length) ?_ ?_;rotate_left
 .intro m hm hk;rw[List.drop_length,jjb];simp only[QM];show _=_;simp only[je]
 .intro i hi ih2 m hm hk;have hi':i<t.args.length:=by omega
  have hlt:(i:Int)<((a.args.length:Nat):Int):=by omega
  have h5:=jo hi (by show a.args.length<=9223372036854775807;omega)
  have e:ju (a.args.drop i)=nodes a.args[i]+ju (a.args.drop (i+1)):=by rw[ji hi];rfl
  have q:=ih a.args[i] (jr _) t.args[i] m (ht.args _ (jr _)) hm (by omega);rw[ji hi,ji hi',jjb];simp only[QM];cases hq:mt m a.args[i] t.args[i]with
  |none=>
   rw[hq]at q;obtain⟨R,q⟩:=q;refine⟨[],?_⟩;simp only[je,hlt,ja hi,ja hi',jd,q,List.getElem?_cons_zero,jcC,jEX]
  |some m1=>
   rw[hq]at q;have q:jbc (tm a.args[i]) (tm t.args[i]) (m.map bc)=some (.top,[vb true,.sl 259 (m1.map bc)]):=q;obtain⟨i1,i2⟩:=jjt (p:=Tz) (λ_ h=>h.args) _ hm (ht.args _ (jr hi')) hq;simp only[je,hlt,ja hi,ja hi',jd,q,List.getElem?_cons_zero,h5];exact ih2 m1 i1 (by omega)
 have e1:∀(m:jw)(i:Nat),jei (vi i) (sv a.name) (jG a.args) (sv t.name) (jG t.args) (m.map bc)=jej (vi i) (sv a.name) (jG a.args) (sv t.name) (jG t.args) (m.map bc):=λm i=>by
  rw[jAf,jjb]
 have:=key2 0 (Nat.zero_le _) m hm hk;rw[<-e1]at this;exact this
theorem jwi(n:Xb)(x:A)(t:T)(ht:Tz t)(m:jw)(hm:∀q∈m,Tz q.2)(hl:m.length<=4000000)(hx:jU x=true):MR (jbq (vi 0) (sv n) x (sv t.name) (jG t.args) (m.map bc)) (match look m n with|some r=>if dq r t then some m else none|none=>some (m++[(n,t)])):=by
 have key:=upto (P:=λi=>MR (jbq (vi i) (sv n) x (sv t.name) (jG t.args) (m.map bc)) (match look (m.drop i) n with|some r=>if dq r t then some m else none|none=>some (m++[(n,t)]))) (n:=m.length) ?_ ?_ 0 (Nat.zero_le _)
 .exact key
 .rw [List.drop_length,jqv];have hf:=jwK (n:=m.length+1) (by omega);show _=_;simp only[je,hf];rw[List.map_append];rfl
 .intro i hi ih;have hlt:(i:Int)<((m.length:Nat):Int):=by omega
  have h5:=jo hi (by show m.length<=9223372036854775807;omega)
  have x1:Zt m.length (vi ((i:Nat):Int))=some i:=zg hi;have x2:=jjL hi;have x3:=jq3 hi;have e1:=Kd m[i].2 (hm _ (jr hi)).wf t ht.wf;rw[jqv,ji hi,look];by_cases he:m[i].1=n
  .rw [jg he];show MR _ (if dq m[i].2 t=true then some m else none);cases hd:dq m[i].2 t<;>rw[hd]at e1
   .rw [jh Bool.false_ne_true];refine⟨m.map bc,?_⟩;simp only[je,hlt,x1,x2,x3,he,e1]
   .rw [jg rfl];show _=_;simp only[je,hlt,x1,x2,x3,he,e1]
  .rw [jh he];simp only[je,hlt,x1,x2,x3,he,h5];exact ih
theorem jth(a t:T)(ht:Tz t)(ha:Tz a)(hl:a.args.length=t.args.length)(m:jw)(hm:∀q∈m,Tz q.2)(hk:m.length+ju a.args<=4000000)
  (ih:∀u∈a.args,∀(s:T)(m:jw),Tz s->(∀q∈m,Tz q.2)->m.length+nodes u<=4000000->MR (jbc (tm u) (tm s) (m.map bc)) (mt m u s)) :
  MR (jeg (vi 0) (sv a.name) (jG a.args) (sv t.name) (jG t.args) (m.map bc)) (QM m a.args t.args):=by
 have ha':=ha;unfold Tz at ha;rw[kH]at ha;have nd:∀i,i<a.args.length->ju (a.args.drop i)=ju a.args->True:=λ_ _ _=>trivial;have key2:=upto (P:=λi=>∀m:jw,(∀q∈m,Tz q.2)->m.length+ju (a.args.drop i)<=4000000->MR (jeh (vi i) (sv a.name) (jG a.args) (sv t.name) (jG t.args) (m.map bc)) (QM m (a.args.drop i) (t.args.drop i))) (n:=a.args.length) ?_ ?_;rotate_left
 .intro m hm hk;rw[List.drop_length,jja];simp only[QM];show _=_;simp only[je]
 .intro i hi ih2 m hm hk;have hi':i<t.args.length:=by omega
  have hlt:(i:Int)<((a.args.length:Nat):Int):=by omega
  have h5:=jo hi (by show a.args.length<=9223372036854775807;omega)
  have e:ju (a.args.drop i)=nodes a.args[i]+ju (a.args.drop (i+1)):=by rw[ji hi];rfl
  have q:=ih a.args[i] (jr _) t.args[i] m (ht.args _ (jr _)) hm (by omega);rw[ji hi,ji hi',jja];simp only[QM];cases hq:mt m a.args[i] t.args[i]with
  |none=>
   rw[hq]at q;obtain⟨R,q⟩:=q;refine⟨[],?_⟩;simp only[je,hlt,ja hi,ja hi',jd,q,List.getElem?_cons_zero,jcC,jEX]
  |some m1=>
   rw[hq]at q;have q:jbc (tm a.args[i]) (tm t.args[i]) (m.map bc)=some (.top,[vb true,.sl 259 (m1.map bc)]):=q;obtain⟨i1,i2⟩:=jjt (p:=Tz) (λ_ h=>h.args) _ hm (ht.args _ (jr hi')) hq;simp only[je,hlt,ja hi,ja hi',jd,q,List.getElem?_cons_zero,h5];exact ih2 m1 i1 (by omega)
 have e1:∀(m:jw)(i:Nat),jeg (vi i) (sv a.name) (jG a.args) (sv t.name) (jG t.args) (m.map bc)=jeh (vi i) (sv a.name) (jG a.args) (sv t.name) (jG t.args) (m.map bc):=λm i=>by
  rw[jAe,jja]
 have:=key2 0 (Nat.zero_le _) m hm hk;rw[<-e1]at this;exact this
theorem jtg:∀(a:T),Tz a-> ∀(t:T)(m:jw),Tz t->(∀q∈m,Tz q.2)->m.length+nodes a<=4000000->MR (jbc (tm a) (tm t) (m.map bc)) (mt m a t):=by
 refine T.ind λa ih ha t m ht hm hk=>?_;have hn:=jO a;have e1:=zL a.name (((kE a).1 ha.wf).1);have hal:a.args.length<=1048576:=by unfold Tz at ha;rw[kH]at ha;omega
 rw[jFJ];cases hv:js a.name<;>rw[hv]at e1
 .rw [jdI hv];by_cases he:a.name=t.name/\a.args.length=t.args.length
  .rw [jg he];have hl:((a.args.length:Nat):Int)=((t.args.length:Nat):Int):=by omega
   have:=jti a t ht ha he.2 m hm (by omega) λu hu s m hs hm hk=>ih u hu (ha.args u hu) s m hs hm hk;rw[he.1]at e1 this;simp only[je,he.1,e1,hl];exact this
  .rw [jh he];refine⟨m.map bc,?_⟩;by_cases h1:a.name=t.name
   .have hl:¬((a.args.length:Nat):Int)=((t.args.length:Nat):Int):=λh=>he ⟨h1,by omega⟩;rw[h1]at e1;simp only[je,e1,h1,hl]
   .simp only[je,e1,h1]
 .rw [jdJ hv];have:=jwj a.name (jG a.args) t ht m hm (by omega) (jts _ _);simp only[je,e1];exact this
theorem jqy(a:T)(ha:Tz a)(t:T)(m:jw)(ht:Tz t)(hm:∀q∈m,Tz q.2)(hk:m.length+nodes a<=4000000):MR (jhZ (tm a) (sv t.name) (jG t.args) (m.map bc)) (mt m a t):=by
 have hn:=jO a;have e1:=zL a.name (((kE a).1 ha.wf).1);rw[jFI];cases hv:js a.name<;>rw[hv]at e1
 .rw [jdI hv];by_cases he:a.name=t.name/\a.args.length=t.args.length
  .rw [jg he];have hl:((a.args.length:Nat):Int)=((t.args.length:Nat):Int):=by omega
   have:=jth a t ht ha he.2 m hm (by omega) λu hu s m hs hm hk=>jtg u (ha.args u hu) s m hs hm hk;rw[he.1]at e1 this;simp only[je,he.1,e1,hl];exact this
  .rw [jh he];refine⟨m.map bc,?_⟩;by_cases h1:a.name=t.name
   .have hl:¬((a.args.length:Nat):Int)=((t.args.length:Nat):Int):=λh=>he ⟨h1,by omega⟩;rw[h1]at e1;simp only[je,e1,h1,hl]
   .simp only[je,e1,h1]
 .rw [jdJ hv];have:=jwi a.name (jG a.args) t ht m hm (by omega) (jts _ _);simp only[je,e1];exact this
abbrev kv(p:Xb×T):Xd:=[sv p.1,tm p.2]
theorem jyD(a b:Xb):eqK none (sv a) (sv b)=some (decide (a=b)):=by show some (decide (bs _=bs _))=_;refine congrArg some (decide_eq_decide.2 ?_);simp
theorem jav(n:Xb):∀(m:jw)(k:Nat),Ze none (sv n) (m.map kv) k=some (match look m n with|some _=>(match m.findIdx? (λp=>decide (p.1=n))with|some j=>some (k+j,tm ((look m n).getD (.mk [] [])))|none=>none)|none=>none)
 | [],k=>rfl
 |p::m,k=>by
  rw[kK,look,Ze,jyD];by_cases h:p.1=n
  .rw [jg h,decide_eq_true h.symm,List.findIdx?_cons,jg (decide_eq_true h)];rfl
  .rw [jh h,decide_eq_false (λe=>h e.symm),List.findIdx?_cons,jh (by simp[h])];show Ze none (sv n) (m.map kv) (k+1)=_;rw[jav n m (k+1)];cases look m n with
   |none=>rfl
   |some r=>
    cases m.findIdx? (λp=>decide (p.1=n))with
    |none=>rfl
    |some j=>show some (some (k+1+j,_))=some (some (k+(j+1),_));rw[show k+1+j=k+(j+1) by omega]
theorem jjn{n:Xb} :∀{m:jw}{r:T},look m n=some r-> ∃j,m.findIdx? (λp=>decide (p.1=n))=some j/\m.set j (n,r)=m
 |p::m,r,h=>by
  rw[look]at h;rw[List.findIdx?_cons];by_cases e:p.1=n
  .rw [jg e]at h;rw[jg (decide_eq_true e)];cases h;exact⟨0,rfl,by rw[<-e];rfl⟩
  .rw [jh e]at h;rw[jh (by simp[e])];obtain⟨j,h1,h2⟩:=jjn h;exact⟨j+1,by rw[h1];rfl,by rw[List.set_cons_succ,h2]⟩
theorem jjJ(z:Xd)(m:jw)(n:Xb):KF none true false z (.mp (m.map kv)) (sv n)=some (match look m n with|some r=>.tup [tm r,vb true]|none=>.tup [.agg z,vb false]):=by
 show((some (m.map kv)).bind λxs=>(Ze none (sv n) xs 0).map (jvg true false z))=_;rw[Option.bind_some,jav];cases h:look m n with
 |none=>rfl
 |some r=>
  obtain⟨j,h1,_⟩:=jjn h;show(some (match m.findIdx? _ with|some j=>some (0+j,tm r)|none=>none)).map _=_;rw[h1];rfl
theorem jlQ{m:jw}{n:Xb}(h:look m n=none)(t:T):jkT none (m.map kv) (sv n) (tm t)=some ((m++[(n,t)]).map kv):=by
 show(Ze none (sv n) (m.map kv) 0).map _=_;rw[jav,h,List.map_append];rfl
theorem jlR{m:jw}{n:Xb}{r:T}(h:look m n=some r)(a:A):∃R,jkT none (m.map kv) (sv n) a=some R/\(a=tm r->R=m.map kv):=by
 obtain⟨j,h1,h2⟩:=jjn h;refine⟨(m.map kv).set j [sv n,a],?_,λe=>?_⟩
 .show (Ze none (sv n) (m.map kv) 0).map _=_;rw[jav,h];show(some (match m.findIdx? _ with|some j=>some (0+j,tm r)|none=>none)).map _=_;rw[h1];show some ((m.map kv).set (0+j) [sv n,a])=_;rw[yd]
 .rw [e];have:([sv n,tm r]:Xd)=kv (n,r):=rfl;rw[this,<-List.map_set,h2]
def MI(o:Xe)(r:Option jw):Prop:=match r with
 |some m'=>o=some (.top,[vb true,.sl 128 (m'.map kv)])
 |none=>∃R,o=some (.top,[vb false,.sl 128 R])
theorem jwd(a t:T)(ht:Tz t)(ha:Tz a)(hl:a.args.length=t.args.length)(m:jw)(hm:∀q∈m,Tz q.2)
  (ih:∀u∈a.args,∀(s:T)(m:jw),Tz s->(∀q∈m,Tz q.2)->MI (Zu (sv u.name) (jG u.args) (tm s) (m.map kv)) (mt m u s)) :
  MI (jbn (jG a.args) (vi (a.args.length:Nat)) (vi 0) (sv t.name) (jG t.args) (m.map kv)) (QM m a.args t.args):=by
 have ha':=ha;unfold Tz at ha;rw[kH]at ha;have key2:=upto (P:=λi=>∀m:jw,(∀q∈m,Tz q.2)->MI (jbn (jG a.args) (vi (a.args.length:Nat)) (vi i) (sv t.name) (jG t.args) (m.map kv)) (QM m (a.args.drop i) (t.args.drop i))) (n:=a.args.length) ?_ ?_;rotate_left
 .intro m hm;rw[List.drop_length,jqs];simp only[QM];show _=_;simp only[je]
 .intro i hi ih2 m hm;have hi':i<t.args.length:=by omega
  have hlt:(i:Int)<((a.args.length:Nat):Int):=by omega
  have h5:=jo hi (by show a.args.length<=9223372036854775807;omega)
  have q:=ih a.args[i] (jr _) t.args[i] m (ht.args _ (jr _)) hm;rw[ji hi,ji hi',jqs];simp only[QM];cases hq:mt m a.args[i] t.args[i]with
  |none=>
   rw[hq]at q;obtain⟨R,q⟩:=q;refine⟨R,?_⟩;simp only[je,hlt,ja hi,ja hi',jd,q,List.getElem?_cons_zero]
  |some m1=>
   rw[hq]at q;have q:Zu (sv a.args[i].name) (jG a.args[i].args) (tm t.args[i]) (m.map kv)=some (.top,[vb true,.sl 128 (m1.map kv)]):=q;obtain⟨i1,i2⟩:=jjt (p:=Tz) (λ_ h=>h.args) _ hm (ht.args _ (jr hi')) hq;simp only[je,hlt,ja hi,ja hi',jd,q,List.getElem?_cons_zero,h5];exact ih2 m1 i1
 exact key2 0 (Nat.zero_le _) m hm
theorem jwc(a t:T)(ht:Tz t)(ha:Tz a)(hl:a.args.length=t.args.length)(m:jw)(hm:∀q∈m,Tz q.2)
  (ih:∀u∈a.args,∀(s:T)(m:jw),Tz s->(∀q∈m,Tz q.2)->MI (Zu (sv u.name) (jG u.args) (tm s) (m.map kv)) (mt m u s)) :
  MI (jbm (jG a.args) (vi (a.args.length:Nat)) (vi 0) (sv t.name) (jG t.args) (m.map kv)) (QM m a.args t.args):=by
 have ha':=ha;unfold Tz at ha;rw[kH]at ha;have key2:=upto (P:=λi=>∀m:jw,(∀q∈m,Tz q.2)->MI (jbm (jG a.args) (vi (a.args.length:Nat)) (vi i) (sv t.name) (jG t.args) (m.map kv)) (QM m (a.args.drop i) (t.args.drop i))) (n:=a.args.length) ?_ ?_;rotate_left
 .intro m hm;rw[List.drop_length,jqr];simp only[QM];show _=_;simp only[je]
 .intro i hi ih2 m hm;have hi':i<t.args.length:=by omega
  have hlt:(i:Int)<((a.args.length:Nat):Int):=by omega
  have h5:=jo hi (by show a.args.length<=9223372036854775807;omega)
  have q:=ih a.args[i] (jr _) t.args[i] m (ht.args _ (jr _)) hm;rw[ji hi,ji hi',jqr];simp only[QM];cases hq:mt m a.args[i] t.args[i]with
  |none=>
   rw[hq]at q;obtain⟨R,q⟩:=q;refine⟨R,?_⟩;simp only[je,hlt,ja hi,ja hi',jd,q,List.getElem?_cons_zero]
  |some m1=>
   rw[hq]at q;have q:Zu (sv a.args[i].name) (jG a.args[i].args) (tm t.args[i]) (m.map kv)=some (.top,[vb true,.sl 128 (m1.map kv)]):=q;obtain⟨i1,i2⟩:=jjt (p:=Tz) (λ_ h=>h.args) _ hm (ht.args _ (jr hi')) hq;simp only[je,hlt,ja hi,ja hi',jd,q,List.getElem?_cons_zero,h5];exact ih2 m1 i1
 exact key2 0 (Nat.zero_le _) m hm
theorem jyU(a:T)(ha:Tz a)(hk:zy a=true)(t:T)(m:jw)(ht:Tz t)(hm:∀q∈m,Tz q.2)
  (ih:∀u∈a.args,∀(s:T)(m:jw),Tz s->(∀q∈m,Tz q.2)->MI (Zu (sv u.name) (jG u.args) (tm s) (m.map kv)) (mt m u s)) :
  MI (Zu (sv a.name) (jG a.args) (tm t) (m.map kv)) (mt m a t):=by
 have e1:G 197 [.agg [sv a.name,jG a.args]]=some (vb (js a.name),[]):=Yp a hk;have hal:a.args.length<=1048576:=by unfold Tz at ha;rw[kH]at ha;omega
 rw[jFC];cases hv:js a.name<;>rw[hv]at e1
 .rw [jdI hv];have pk:(if((a.args.length:Nat):Int)=0 then G 197 [.agg [sv a.name,jG a.args]]else some (vb false,[]))=some (vb false,[]):=by split<;>first|exact e1|rfl
  by_cases he:a.name=t.name/\a.args.length=t.args.length
  .rw [jg he];have hl:((a.args.length:Nat):Int)=((t.args.length:Nat):Int):=by omega
   have:=jwd a t ht ha he.2 m hm ih;by_cases h0:((a.args.length:Nat):Int)=0
   .have h0':((t.args.length:Nat):Int)=0:=by omega
    rw[he.1]at e1;rw[he.2,h0']at this;simp only[je,he.1,h0',e1,hl];exact this
   .have h0':¬((t.args.length:Nat):Int)=0:=by omega
    rw[he.1]at e1;rw[he.2]at this;simp only[je,he.1,h0',hl];exact this
  .rw [jh he];refine⟨m.map kv,?_⟩;by_cases h1:a.name=t.name
   .have hl:¬((a.args.length:Nat):Int)=((t.args.length:Nat):Int):=λh=>he ⟨h1,by omega⟩;rw[h1]at e1;by_cases h0:((a.args.length:Nat):Int)=0
    .have hl0:¬(0:Int)=((t.args.length:Nat):Int):=by omega
     simp only[je,e1,h1,h0,hl0]
    .simp only[je,h1,h0,hl]
   .by_cases h0:((a.args.length:Nat):Int)=0
    .simp only[je,e1,h1,h0]
    .simp only[je,h1,h0]
 .rw [jdJ hv];have h0:a.args=[]:=qP hk hv;rw[h0]at e1;have hz:(((0:Nat):Int)=0)=True:=by simp
  have lk:=jjJ [sv [],.sl 2 []] m a.name;cases hl:look m a.name with
  |none=>
   rw[hl]at lk;have lk:KF none true false [sv [],.sl 2 []] (.mp (m.map kv)) (sv a.name)=some (.tup [.agg [sv [],.sl 2 []],vb false]):=lk;have pp:=jlQ hl t;show _=_;rw[h0];simp only[je,e1,hz,lk,pp,List.map_nil]
  |some r=>
   rw[hl]at lk;have lk:KF none true false [sv [],.sl 2 []] (.mp (m.map kv)) (sv a.name)=some (.tup [tm r,vb true]):=lk;obtain⟨R,pp,hR⟩:=jlR hl (tm t);have e2:=yi r (hm _ (JA hl)).wf t ht.wf;show MI _ (if dq r t=true then some m else none);rw[h0];cases hd:dq r t<;>rw[hd]at e2
   .rw [jh Bool.false_ne_true];refine⟨R,?_⟩;simp only[je,e1,hz,lk,pp,e2,List.map_nil]
   .rw [jg rfl];have hr:R=m.map kv:=hR (by rw[y7.1 hd]);rw[hr]at pp;show _=_;simp only[je,e1,hz,lk,pp,e2,List.map_nil]
theorem jwb(a:T)(ha:Tz a)(e1:G 197 [.agg [sv a.name,jG a.args]]=some (vb (js a.name),[]))(hva:js a.name=true->a.args=[])(t:T)(m:jw)(ht:Tz t)(hm:∀q∈m,Tz q.2)
  (ih:∀u∈a.args,∀(s:T)(m:jw),Tz s->(∀q∈m,Tz q.2)->MI (Zu (sv u.name) (jG u.args) (tm s) (m.map kv)) (mt m u s)) :
  MI (jdp (tm a) (sv t.name) (jG t.args) (m.map kv)) (mt m a t):=by
 have hal:a.args.length<=1048576:=by unfold Tz at ha;rw[kH]at ha;omega
 rw[jFB];cases hv:js a.name<;>rw[hv]at e1
 .rw [jdI hv];have pk:(if((a.args.length:Nat):Int)=0 then G 197 [.agg [sv a.name,jG a.args]]else some (vb false,[]))=some (vb false,[]):=by split<;>first|exact e1|rfl
  by_cases he:a.name=t.name/\a.args.length=t.args.length
  .rw [jg he];have hl:((a.args.length:Nat):Int)=((t.args.length:Nat):Int):=by omega
   have:=jwc a t ht ha he.2 m hm ih;by_cases h0:((a.args.length:Nat):Int)=0
   .have h0':((t.args.length:Nat):Int)=0:=by omega
    rw[he.1]at e1;rw[he.2,h0']at this;simp only[je,he.1,h0',e1,hl];exact this
   .have h0':¬((t.args.length:Nat):Int)=0:=by omega
    rw[he.1]at e1;rw[he.2]at this;simp only[je,he.1,h0',hl];exact this
  .rw [jh he];refine⟨m.map kv,?_⟩;by_cases h1:a.name=t.name
   .have hl:¬((a.args.length:Nat):Int)=((t.args.length:Nat):Int):=λh=>he ⟨h1,by omega⟩;rw[h1]at e1;by_cases h0:((a.args.length:Nat):Int)=0
    .have hl0:¬(0:Int)=((t.args.length:Nat):Int):=by omega
     simp only[je,e1,h1,h0,hl0]
    .simp only[je,h1,h0,hl]
   .by_cases h0:((a.args.length:Nat):Int)=0
    .simp only[je,e1,h1,h0]
    .simp only[je,h1,h0]
 .rw [jdJ hv];have h0:a.args=[]:=hva hv;rw[h0]at e1;have hz:(((0:Nat):Int)=0)=True:=by simp
  have hta:tm a = .agg [sv a.name,jG []]:=by show A.agg [_,A.sl 2 (a.args.map jm)]=_;rw[h0]
  have lk:=jjJ [sv [],.sl 2 []] m a.name;cases hl:look m a.name with
  |none=>
   rw[hl]at lk;have lk:KF none true false [sv [],.sl 2 []] (.mp (m.map kv)) (sv a.name)=some (.tup [.agg [sv [],.sl 2 []],vb false]):=lk;have pp:=jlQ hl t;show _=_;rw[hta];simp only[je,e1,hz,lk,pp,List.map_nil]
  |some r=>
   rw[hl]at lk;have lk:KF none true false [sv [],.sl 2 []] (.mp (m.map kv)) (sv a.name)=some (.tup [tm r,vb true]):=lk;obtain⟨R,pp,hR⟩:=jlR hl (tm t);have e2:=yi r (hm _ (JA hl)).wf t ht.wf;show MI _ (if dq r t=true then some m else none);rw[hta];cases hd:dq r t<;>rw[hd]at e2
   .rw [jh Bool.false_ne_true];refine⟨R,?_⟩;simp only[je,e1,hz,lk,pp,e2,List.map_nil]
   .rw [jg rfl];have hr:R=m.map kv:=hR (by rw[y7.1 hd]);rw[hr]at pp;show _=_;simp only[je,e1,hz,lk,pp,e2,List.map_nil]
theorem jyT(a:T)(ha:Tz a)(hk:zy a=true)(t:T)(m:jw)(ht:Tz t)(hm:∀q∈m,Tz q.2)
  (ih:∀u∈a.args,∀(s:T)(m:jw),Tz s->(∀q∈m,Tz q.2)->MI (Zu (sv u.name) (jG u.args) (tm s) (m.map kv)) (mt m u s)) :
  MI (jdp (tm a) (sv t.name) (jG t.args) (m.map kv)) (mt m a t):=jwb a ha (Yp a hk) (λhv=>qP hk hv) t m ht hm ih
theorem jAu:∀(a:T),Tz a->zy a=true-> ∀(t:T)(m:jw),Tz t->(∀q∈m,Tz q.2)->MI (Zu (sv a.name) (jG a.args) (tm t) (m.map kv)) (mt m a t):=by
 refine T.ind λa ih ha hk t m ht hm=>?_;exact jyU a ha hk t m ht hm λu hu s m hs hm=>ih u hu (ha.args u hu) (kO hk u hu) s m hs hm
theorem jwr(a:T)(ha:Tz a)(hk:zy a=true)(t:T)(m:jw)(ht:Tz t)(hm:∀q∈m,Tz q.2):MI (jdp (tm a) (sv t.name) (jG t.args) (m.map kv)) (mt m a t):=
 jyT a ha hk t m ht hm λu hu s m hs hm=>jAu u (ha.args u hu) (kO hk u hu) s m hs hm
theorem jtH{m:jw}(hv:∀q∈m,js q.1=true)(hm:∀q∈m,Tz q.2):∀t:T,Tz t->zy t=true->G 241 [tm t,.mp (m.map kv)]=some (tm (sub m t),[]):=by
 refine T.ind λt ih ht hk=>?_;have hs:=ht;unfold Tz at hs;rw[kH]at hs;have lk:=jjJ [sv [],.sl 2 []] m t.name;rw[jK0];cases h:js t.name with
 |true=>
  have h0:t.args=[]:=qP hk h;have hz:(((0:Nat):Int)=0)=True:=by simp
  have hta:tm t = .agg [sv t.name,jG []]:=by show A.agg [_,A.sl 2 (t.args.map jm)]=_;rw[h0]
  rw[Jc h,qY,hta];cases hl:look m t.name with
  |none=>
   rw[hl]at lk;have lk:KF none true false [sv [],.sl 2 []] (.mp (m.map kv)) (sv t.name)=some (.tup [.agg [sv [],.sl 2 []],vb false]):=lk;have h1:(0:Int)<((0:Nat):Int)↔False:=by simp
   simp only[je,lk];rw[js9];simp only[je,h1,Option.getD_none];rfl
  |some r=>
   rw[hl]at lk;have lk:KF none true false [sv [],.sl 2 []] (.mp (m.map kv)) (sv t.name)=some (.tup [tm r,vb true]):=lk;have e2:=Jm r (hm _ (JA hl));simp only[je,lk,hz,e2,Option.getD_some]
 |false=>
  have hn:look m t.name=none:=by
   cases hl:look m t.name with
   |none=>rfl
   |some r=>have:=hv _ (JA hl);rw[h]at this;cases this
  rw[hn]at lk;have lk:KF none true false [sv [],.sl 2 []] (.mp (m.map kv)) (sv t.name)=some (.tup [.agg [sv [],.sl 2 []],vb false]):=lk;have key:=(upto (P:=λi=>jnj (.mp (m.map kv)) (jG t.args) (vi (t.args.length:Nat)) (vi i) (sv []) (sv t.name) [] (((t.args.map (sub m)).take i).map jm)=some (tm (sub m t),[])) (n:=t.args.length) ?_ ?_ 0 (Nat.zero_le _))
  .simp only[Int.natCast_zero,List.take_zero,List.map_nil]at key;simp only[je,lk,key]
  .rw [js9,yN (by rw[List.length_map];omega),qh h]
   simp only[je];rfl
  .intro i hi ih';have hlt:(i:Int)<((t.args.length:Nat):Int):=by omega
   have h5:=jo hi (by show t.args.length<=9223372036854775807;omega)
   have e2:=ih t.args[i] (jr _) (ht.args _ (jr _)) (kO hk _ (jr _));have hf:jM (i+1) 40=true:=jq0 (by omega);have hi2:i<(t.args.map (sub m)).length:=by rw[List.length_map];exact hi
   have hl:(((t.args.map (sub m)).take i).map jm).length=i:=by rw[List.length_map,List.length_take,List.length_map];omega
   have ha:jR (((t.args.map (sub m)).take i).map jm) [[sv (sub m t.args[i]).name,jG (sub m t.args[i]).args]]=((t.args.map (sub m)).take (i+1)).map jm:=by
    rw[show[sv (sub m t.args[i]).name,jG (sub m t.args[i]).args]=jm (sub m t.args[i]) from(kU _).symm,List.take_add_one,j7 hi2,List.map_append,List.getElem_map];rfl
   generalize ((t.args.map (sub m)).take i).map jm=R at *;rw[js9];simp only[je,hlt,ja hi,jd,e2,hl,hf,ha,h5,ih']
theorem jgi(n:Xb)(t:T):∀(s:jw)(i:Nat),i<=s.length->(∀j,(h:j<i)-> ∀h':j<s.length,yK s[j].1 n=true)->((∃h:i<s.length,yK s[i].1 n=false)\/i=s.length)->YC s n t=s.take i++(n,t)::s.drop i
 | [],i,hi,_,_=>by
  have:i=0:=by simpa using hi
  subst this;rfl
 |p::s,0,_,_,h=>by
  have hp:yK p.1 n=false:=by
   rcases h with⟨_,h⟩|h
   .exact h
   .cases h
  unfold YC;rw[List.takeWhile_cons_of_neg (p:=λp:Xb×T=>yK p.1 n) (by simp[hp]),List.dropWhile_cons_of_neg (p:=λp:Xb×T=>yK p.1 n) (by simp[hp])];rfl
 |p::s,i+1,hi,h1,h=>by
  have hp:yK p.1 n=true:=h1 0 (by omega) (by simp);have:=jgi n t s i (by simpa using hi) (λj hj hj'=>h1 (j+1) (by omega) (by simpa using hj')) (by
   rcases h with⟨h,h2⟩|h
   .exact Or.inl ⟨by simpa using h,h2⟩
   .exact Or.inr (by simpa using h))
  unfold YC at this⊢;rw[List.takeWhile_cons_of_pos (p:=λp:Xb×T=>yK p.1 n) hp,List.dropWhile_cons_of_pos (p:=λp:Xb×T=>yK p.1 n) hp,Zp,this];rfl
theorem yf{α:Type}(f:α->Xd)(l:List α):zX (l.map f)=l.length:=List.length_map ..
theorem jrf(u:jw)(hl:u.length<=1000000)(i:Nat)(hi:i<=u.length) :
  pB u.length u.length (some (vi (i:Nat)))=some i/\yI (u.map bc) 0 i=(u.take i).map bc/\jM (u.take i).length 56=true/\pB u.length u.length none=some u.length/\pB 0 u.length (some (vi (i:Nat)))=some i/\yI (u.map bc) i (u.length-i)=(u.drop i).map bc/\zj (u.map bc) 0=u.length/\jM ((u.take i).length+1) 56=true/\jM ((u.take i).length+1+(u.drop i).length) 56=true:=by
 refine⟨yW hi,by rw[yI,List.drop_zero,List.map_take],jwK (by rw[List.length_take];omega),zn (j4 _),yW hi,?_,by rw[zj,List.length_map];rfl,jwK (by rw[List.length_take];omega),jwK (by rw[List.length_take,List.length_drop];omega)⟩
 rw[yI,<-List.map_drop,yN (by rw[List.length_map,List.length_drop];omega)]
theorem jre(u v:jw)(n:Xb)(t:T):jR (jR (u.map bc) [[sv n,sv t.name,jG t.args]]) (v.map bc)=(u++(n,t)::v).map bc:=by
 rw[List.map_append];show(u.map bc++[_])++v.map bc=u.map bc++_::v.map bc;rw[ze];rfl
theorem jrg(u:jw)(n:Xb)(t:T):(jR (u.map bc) [[sv n,sv t.name,jG t.args]]).length=u.length+1:=by
 simp[jR]
theorem joC(u:jw)(hl:u.length<=1000000)(n:Xb)(t:T)(ht:Tz t):jhY (sv n) (tm t) (u.map bc)=some (.top,[ZN (JW u n t)]):=by
 have e1:=jbW t ht;have key:=upto (P:=λi=>(∀j,(h:j<i)-> ∀h':j<u.length,yK u[j].1 n=true)->jbo (sv n) (vi i) (sv t.name) (jG t.args) (u.map bc) []=some (.top,[ZN (YC u n t)])) (n:=u.length) ?_ ?_ 0 (Nat.zero_le _) (λj h=>absurd h (Nat.not_lt_zero _))
 .rw [jFE,JW];by_cases h:t.name=n
  .rw [jg h];simp only[je,h]
  .rw [jh h];have e:jbo (sv n) (vi 0) (sv t.name) (jG t.args) (u.map bc) []=some (.top,[ZN (YC u n t)]):=key;simp only[je,h,e]
 .intro hall;rw[jgi n t u u.length (j4 _) hall (Or.inr rfl)];obtain⟨k1,k2,k3,k4,k5,k6,k7,k8,k9⟩:=jrf u hl u.length (j4 _);have m1:=jre (u.take u.length) (u.drop u.length) n t;have m2:=jrg (u.take u.length) n t;rw[ji9];simp only[je,yf,k1,k2,k3,k4,k5,k6,k7,yV,Nat.sub_zero,e1];generalize hB:zH _ _ _=B;have hB':B=some (.agg [sv n,sv t.name,jG t.args]):=by rw[<-hB];kernel_rfl
  rw[hB'];simp only[je,k8,k9,m1,m2]
 .intro i hi ih hall;have hlt:(i:Int)<((u.length:Nat):Int):=by omega
  have h5:=jo hi (by show u.length<=9223372036854775807;omega)
  have x1:Zt u.length (vi ((i:Nat):Int))=some i:=zg hi;have x2:=jjL hi;cases hs:yK u[i].1 n
  .rw [jgi n t u i (by omega) hall (Or.inl ⟨hi,hs⟩)];obtain⟨k1,k2,k3,k4,k5,k6,k7,k8,k9⟩:=jrf u hl i (by omega);have m1:=jre (u.take i) (u.drop i) n t;have m2:=jrg (u.take i) n t;rw[ji9];simp only[je,hlt,x1,x2,hs,yf,k1,k2,k3,k4,k5,k6,k7,yV,Nat.sub_zero,e1];generalize hB:zH _ _ _=B;have hB':B=some (.agg [sv n,sv t.name,jG t.args]):=by rw[<-hB];kernel_rfl
   rw[hB'];simp only[je,k8,k9,m1,m2]
  .have ih:=ih λj hj hj'=>by
    by_cases h:j=i
    .subst h;exact hs
    .exact hall j (by omega) hj'
   rw[ji9];simp only[je,hlt,x1,x2,hs,h5,ih]
theorem je8(s:jw)(n:Xb)(t:T):(JW s n t).length<=s.length+1:=by
 unfold JW;split
 .omega
 .unfold YC;rw[zv,j8];have:=List.takeWhile_append_dropWhile (p:=λp:Xb×T=>yK p.1 n) (l:=s);have:=congrArg List.length this;rw[zv]at this;omega
theorem jjR{s:jw}{n:Xb}{t:T}{q:Xb×T}(h:q∈JW s n t):q∈s\/q=(n,t):=by
 unfold JW at h;split at h
 .exact Or.inl h
 .unfold YC at h;rw[kW,jK]at h;rcases h with h|h|h
  .exact Or.inl (List.takeWhile_subset _ h)
  .exact Or.inr h
  .exact Or.inl (List.dropWhile_subset _ h)
theorem jlo:∀(m s:jw),(m.foldl (λs p=>JW s p.1 p.2) s).length<=s.length+m.length
 | [],s=>by simp
 |p::m,s=>by
  rw[List.foldl_cons,j8];have:=jlo m (JW s p.1 p.2);have:=je8 s p.1 p.2;omega
theorem jlp:∀(m s:jw){q:Xb×T},q∈m.foldl (λs p=>JW s p.1 p.2) s->q∈s\/q∈m
 | [],s,q,h=>Or.inl h
 |p::m,s,q,h=>by
  rw[List.foldl_cons]at h;rcases jlp m _ h with h|h
  .rcases jjR h with h|h
   .exact Or.inl h
   .exact Or.inr (by rw[h];simp)
  .exact Or.inr (by simp[h])
theorem jwM{m:jw}{q:Xb×T}(h:q∈JK m):q∈m:=by
 rcases jlp m [] h with h|h
 .cases h
 .exact h
theorem jAY(m:jw)(hm:∀q∈m,Tz q.2)(hl:m.length<=1000000):G 294 [ZN m]=some (sb (JK m),[]):=by
 have key:=upto (P:=λi=>∀s:jw,s.length<=i->jnA (ZN m) (vi i) [] (s.map bc)=some (sb ((m.drop i).foldl (λs p=>JW s p.1 p.2) s),[])) (n:=m.length) ?_ ?_ 0 (Nat.zero_le _) [] (j4 _)
 .rw [jLD];exact key
 .intro s _;rw[jAg,List.drop_length];simp only[je];rfl
 .intro i hi ih s hs;have hlt:(i:Int)<((m.length:Nat):Int):=by omega
  have h5:=jo hi (by show m.length<=9223372036854775807;omega)
  have e1:=joC s (by omega) m[i].1 m[i].2 (hm _ (jr _));have:=je8 s m[i].1 m[i].2;have ih:=ih (JW s m[i].1 m[i].2) (by omega);rw[jAg,ji hi,List.foldl_cons];simp only[je,hlt,ja hi,Yy,e1,h5,ih]
theorem jIj{n:Nat}(h:n<=4194304):jM n 24=true:=by
 unfold jM;exact decide_eq_true ⟨by omega,by omega⟩
theorem jIk{n:Nat}(h:n<=4194304):jM n 8=true:=by
 unfold jM;exact decide_eq_true ⟨by omega,by omega⟩
abbrev pln(p:Xf):A:= .sl 1 (p.map λn=>[vi (n:Nat)])
abbrev plc(p:Xf):Xd:=[pln p]
theorem jDv(p:Xf)(h:p.length<=4194304):juf (pln p)=some (.top,[pln p]):=by
 rw[jHy];have:=jIk (n:=p.length) h;simp only[je,this]
mutual
theorem jgg:∀t:T,(QP t).length=nodes t
 |.mk n us=>by
  rw[QP,nodes,zv,jlU us 0];simp;omega
theorem jlU:∀(us:Xg)(i:Nat),(Qa i us).length=ju us
 | [],i=>rfl
 |t::ts,i=>by
  rw[Qa,ju,zv,List.length_map,jgg t,jlU ts (i+1)]
end
theorem post_eq:∀(t:T)(p:Xf),Tz t->p.length+tsz t<=2000000->G 292 [tm t,pln p]=some (.sl 1 ((QP t).map λq=>plc (p++q)),[]):=by
 refine T.ind λt ih p ht hp=>?_;have hs:=ht;unfold Tz at hs;rw[kH]at hs hp;have hnl:=qN t;have hne:=jO t;have e0:=jDv p (by omega);have hsplit:∀i,i<=t.args.length->ju (t.args.take i)+ju (t.args.drop i)=ju t.args:=by
  intro i _;have:∀a b:Xg,ju (a++b)=ju a+ju b:=by
   intro a b;induction a with
   |nil=>simp[ju]
   |cons x a ih=>simp only[Zp,ju,ih];omega
  rw[<-this,Qj]
 have key:=upto (P:=λi=>∀R:Xc,R.length+ju (t.args.drop i)<=2000000->jnz (pln p) (vi i) (sv t.name) (jG t.args) R=some (.sl 1 (R++(Qa i (t.args.drop i)++[[]]).map λq=>plc (p++q)),[])) (n:=t.args.length) ?_ ?_ 0 (Nat.zero_le _) [] (by simp;unfold Tz at ht;omega)
 .rw [jLC,jra];simp only[Int.natCast_zero,yF,List.drop_zero]at key;simp only[je,key]
 .intro R hR;rw[jAd,List.drop_length];have hf:jM (R.length+1) 24=true:=jIj (by omega);simp only[je,e0,hf];rw[Qa,yF,kK,zm];rfl
 .intro i hi ih2 R hR;have hlt:(i:Int)<((t.args.length:Nat):Int):=by omega
  have h5:=jo hi (by show t.args.length<=9223372036854775807;omega)
  have hm:tsz t.args[i]<=ZG t.args:=yv (jr _);have ed:ju (t.args.drop i)=nodes t.args[i]+ju (t.args.drop (i+1)):=by rw[ji hi];rfl
  have e2:=ih t.args[i] (jr _) (p++[i]) (ht.args _ (jr _)) (by rw[zv,List.length_singleton];omega)
  have ea:jR (p.map λn:Nat=>[vi (n:Nat)]) [[vi (i:Nat)]]=(p++[i]).map λn:Nat=>[vi (n:Nat)]:=by rw[List.map_append];rfl
  have hf1:jM (p.length+1) 8=true:=jIk (by omega);have hpl:=jgg t.args[i];have hf2:jM (R.length+(QP t.args[i]).length) 24=true:=jIj (by omega);have ih3:=ih2 (jR R ((QP t.args[i]).map λq=>plc ((p++[i])++q))) (by show(R++_).length+_<=_;rw[zv,List.length_map];omega);rw[jAd,ji hi,Qa];simp only[je,hlt,ja hi,jd,e0,hf1,ea,e2,hf2,h5,ih3];congr 2;show A.sl 1 ((R++_)++_)=_;congr 1;rw[ze,ze,List.map_append,List.map_append,YT];congr 2;refine List.map_congr_left λq _=>?_;show plc (p++[i]++q)=plc (p++(i::q));rw[ze];rfl;rw[List.map_append]
def okP:Xf->T->Prop
 | [],_=>True
 |i::p,t=>i<t.args.length/\okP p (t.args.getD i (.mk [] []))
theorem yU{ts:Xg}{i:Nat}(h:i<ts.length):ts.getD i (.mk [] [])=ts[i]:=by rw[zP,j7 h];rfl
mutual
theorem jrb:∀(t:T),∀p∈QP t,okP p t/\p.length<=nodes t
 |.mk n us=>λp hp=>by
  rw[QP,kW]at hp;rcases hp with hp|hp
  .obtain ⟨j,q,rfl,h1,h2,h3⟩:=jq9 us 0 p hp;refine⟨?_,?_⟩
   .show (0+j)<us.length/\okP q (us.getD (0+j) _);rw[yd];exact⟨h1,h2⟩
   .rw [j8,nodes];omega
  .rw [zx]at hp;subst hp;exact⟨trivial,by simp⟩
theorem jq9:∀(us:Xg)(i:Nat),∀p∈Qa i us,∃j q,p=(i+j)::q/\j<us.length/\okP q (us.getD j (.mk [] []))/\q.length<=ju us
 | [],i,p,hp=>by rw[Qa]at hp;cases hp
 |t::ts,i,p,hp=>by
  rw[Qa,kW]at hp;rcases hp with hp|hp
  .obtain ⟨q,hq,rfl⟩:=yn.1 hp;obtain⟨h1,h2⟩:=jrb t q hq;exact⟨0,q,rfl,by simp,h1,by rw[ju];omega⟩
  .obtain ⟨j,q,rfl,h1,h2,h3⟩:=jq9 ts (i+1) p hp;exact⟨j+1,q,by rw[show i+1+j=i+(j+1) by omega],by simpa using h1,by simpa using h2,by rw[ju];omega⟩
end
theorem jvo{q:T->Prop}(hq:∀t,q t-> ∀u∈t.args,q u):∀{p:Xf}{t:T},okP p t->q t->q (atT p t)
 | [],_,_,h=>h
 |i::p,t,hp,h=>by
  obtain⟨h1,h2⟩:=hp;refine jvo (p:=p) hq h2 ?_;rw[yU h1];exact hq t h _ (jr _)
theorem jq8(i:Nat)(p:Xf):pln (i::p) = .sl 1 ([vi (i:Nat)]::p.map λn=>[vi (n:Nat)]):=rfl
theorem Yv{p:Xf}{i:Nat}(h:i<p.length):jk 1 (pln p) (vi (i:Nat))=some (.elt [vi (p[i]:Nat)] 0):=ja h
theorem at_eq(t:T)(p:Xf)(ht:Tz t)(hp:okP p t)(hl:p.length<=2000000):G 177 [tm t,pln p]=some (.tup [tm (atT p t),vb true],[]):=by
 have key:=upto (P:=λi=>∀t:T,Tz t->okP (p.drop i) t->jh9 (pln p) (vi i) (sv t.name) (jG t.args) (sv []) []=some (.tup [tm (atT (p.drop i) t),vb true],[])) (n:=p.length) ?_ ?_ 0 (Nat.zero_le _) t ht hp
 .rw [jHO];simp only[je];exact key
 .intro t ht _;have e1:=jbW t ht;rw[joe,List.drop_length];simp only[je,e1];rfl
 .intro i hi ih t ht hp;have hlt:(i:Int)<((p.length:Nat):Int):=by omega
  have h5:=jo hi (by show p.length<=9223372036854775807;omega)
  have hs:=ht;unfold Tz at hs;rw[kH]at hs;rw[ji hi]at hp⊢;obtain⟨h1,h2⟩:=hp;have hsub:ck (((t.args.length:Nat):Int)-1)=some (vi (((t.args.length:Nat):Int)-1)):=jV (by omega) (by omega);have hin:=zW ((p[i]:Nat):Int) 0 (((t.args.length:Nat):Int)-1);have hb:y8 0 (((t.args.length:Nat):Int)-1) ((p[i]:Nat):Int)=true:=by unfold y8;simp;omega
  rw[hb]at hin;have e:t.args.getD p[i] (.mk [] [])=t.args[p[i]]:=yU h1;rw[e]at h2;have ih:=ih _ (ht.args _ (jr h1)) h2;rw[joe,atT,e];simp only[je,hlt,Yv hi,hsub,hin,ja h1,jd,h5,ih]
theorem jvr(t:T)(ht:Tz t):jue (sv t.name) (jG t.args)=some (.top,[sv t.name,jG t.args]):=by
 have h:=ht;unfold Tz at h;rw[kH]at h;have key:=(upto (P:=λi=>jhz (vi i) (sv t.name) (jG t.args) (sv []) (sv t.name) [] ((t.args.take i).map jm)=some (.top,[sv t.name,jG t.args])) (n:=t.args.length) ?_ ?_ 0 (Nat.zero_le _))
 .rw [jHx];simp only[Int.natCast_zero,List.take_zero,List.map_nil]at key;simp only[je,key]
 .rw [jvf,List.take_length];simp only[je]
 .intro i hi ih';have hlt:(i:Int)<((t.args.length:Nat):Int):=by omega
  have h5:=jo hi (by show t.args.length<=9223372036854775807;omega)
  have e1:=jbW t.args[i] (by have:=yv (jr hi);omega)
  have hf:jM (i+1) 40=true:=jq0 (by omega);have hl:((t.args.take i).map jm).length=i:=by rw[List.length_map,List.length_take];omega
  have ha:jR ((t.args.take i).map jm) [[sv t.args[i].name,jG t.args[i].args]]=(t.args.take (i+1)).map jm:=by
   rw[show[sv t.args[i].name,jG t.args[i].args]=jm t.args[i] from(kU _).symm,List.take_add_one,j7 hi,List.map_append];rfl
  rw[jvf];simp only[je,hlt,ja hi,jd,e1,hl,hf,ha,h5,ih']
theorem jo2(s:T)(hs:Tz s):∀(p:Xf)(t:T),Tz t->okP p t->p.length<=2000000->G 180 [tm t,pln p,tm s]=some (tm (kJ s p t),[])
 | [],t,_,_,_=>by
  have e1:=jvr s hs;have hz:(((0:Nat):Int)=0)=True:=by simp
  rw[jHP,kJ];simp only[je,hz,e1,List.map_nil,List.getElem?_cons_zero]
 |i::p,t,ht,hp,hl=>by
  obtain⟨h1,h2⟩:=hp;have e:t.args.getD i (.mk [] [])=t.args[i]:=yU h1;rw[e]at h2;have e1:=jvr t ht;have e2:=jo2 s hs p t.args[i] (ht.args _ (jr h1)) h2 (by rw[j8]at hl;omega);have hz:¬((p.length+1:Nat):Int)=0:=by omega
  have hz2:¬((p.length:Nat):Int)+1=0:=by omega
  have i0:jk 1 (pln (i::p)) (vi 0)=some (.elt [vi (i:Nat)] 0):=Yv (p:=i::p) (i:=0) (by simp);have sl:yb 1 (pln (i::p)) (some (vi 1)) none=some (pln p):=by
   have:=qf (k:=1) (xs:=(i::p).map λn:Nat=>[vi (n:Nat)]) (i:=1) (by simp);exact this
  have ix:Zt t.args.length (vi (i:Nat))=some i:=zg h1;have rg:YD (t.args.map jm) i=some (jm t.args[i]):=by unfold YD;simp[h1]
  have co:jS (jm t.args[i]) 0 [sv (kJ s p t.args[i]).name,jG (kJ s p t.args[i]).args]=jm (kJ s p t.args[i]):=by rw[kU,kU];rfl
  have rs:kX (t.args.map jm) i (jm (kJ s p t.args[i]))=(t.args.set i (kJ s p t.args[i])).map jm:=by unfold kX;rw[List.map_set]
  have ll:(kP (pln (i::p)))=some (vi ((p.length+1:Nat):Int)):=by rw[jq8];simp only[je]
  rw[jHP,kJ,e];simp only[je,ll,hz,e1,i0,ja h1,jd,sl,e2,ix,rg,co,rs,List.getElem?_cons_zero];rfl
theorem jft{n:Xb}(h:js n=true):n.length<=4:=by
 cases n with
 |nil=>simp
 |cons c r=>
  simp only[js,jI,ky]at h;rw[j8];omega
theorem jxf{n:Xb}(h:qo n=true):n.length<=6:=by
 cases n with
 |nil=>simp
 |cons c r=>
  simp only[qo,jI,ky]at h;rw[j8];omega
theorem jf8:∀t:T,zy t=true->tsz t<=10*nodes t:=by
 refine T.ind λt ih hk=>?_;have hL:∀us:Xg,(∀u∈us,tsz u<=10*nodes u)->ZG us<=10*ju us:=by
  intro us;induction us with
  |nil=>intro _;simp[ZG]
  |cons u us ih2=>
   intro h;have:=h u (by simp);have:=ih2 λw hw=>h w (by simp[hw]);simp only[ZG,ju];omega
 have h1:=hL t.args λu hu=>ih u hu (kO hk u hu);rw[kH,jO];rw[yA]at hk;cases hv:js t.name with
 |true=>
  rw[hv,jg rfl]at hk;have:=jft hv;rw[List.isEmpty_iff.1 hk]at h1⊢;simp only[zO,ZG]at h1⊢;omega
 |false=>
  rw[hv,jh Bool.false_ne_true,jI,jI,ky]at hk;have:=jxf hk.1;omega
theorem jmi{u:jw}{Z:Nat}(hZ:1<=Z)(hu:∀q∈u,nodes q.2<=Z):∀t:T,nodes (sub u t)<=nodes t*Z:=by
 refine T.ind λt ih=>?_;cases hv:js t.name with
 |true=>
  have h1:=qz t;have h2:1*Z<=nodes t*Z:=ZQ Z h1;rw[Jc hv,qY];cases hl:look u t.name with
  |none=>show 1+0<=_;omega
  |some r=>have:nodes r<=Z:=hu _ (JA hl);show nodes r<=_;omega
 |false=>
  have hL:∀us:Xg,(∀v∈us,nodes (sub u v)<=nodes v*Z)->ju (us.map (sub u))<=ju us*Z:=by
   intro us;induction us with
   |nil=>intro _;simp[ju]
   |cons v us ih2=>
    intro h;have:=h v (by simp);have:=ih2 λw hw=>h w (by simp[hw]);simp only[kK,ju,yy];omega
  have:=hL t.args ih;rw[jO,jcc hv,jO t,yy];omega
theorem qT{t u:T}(h:u∈t.args):nodes u<nodes t:=by
 have:=ql h;have:=jO t;omega
def Vs(t:T):Prop:=zy t=true/\nodes t<=30
theorem Vs.args{t:T}(h:Vs t):∀u∈t.args,Vs u:=λu hu=>⟨kO h.1 u hu,by have:=qT hu;have:=h.2;omega⟩
theorem Vs.tz{t:T}(h:Vs t):Tz t:=by
 have:=jf8 t h.1;have:=h.2;unfold Tz;omega
def RS(rs:Xg):Prop:=rs.length<=10/\ ∀r∈rs,r.args.length=2/\Vs (Kx r)/\Vs (Qw r)
theorem RS.ok{rs:Xg}(h:RS rs):Q9 rs:=λr hr=>⟨(h.2 r hr).2.1.1,(h.2 r hr).2.2.1⟩
def EX(root:Bool)(t:T):Prop:=(nodes t<=31/\Tz t)/\(∀u∈t.args,Vs u)/\(root=true->Vs t)
theorem jAx{a s:T}{m:jw}(hs:Vs s)(h:mt [] a s=some m):MOk Vs m:=jlJ (p:=Vs) (λ_ h=>h.args) a (MOk.nil _) hs h
theorem jl5{r:T}(hl:r.args.length=2):jk 2 (jG r.args) (vi 0)=some (.elt (jm (Kx r)) 0)/\jk 2 (jG r.args) (vi 1)=some (.elt (jm (Qw r)) 0):=by
 have i0:jk 2 (jG r.args) (vi 0)=some (.elt (jm r.args[0]) 0):=ja (i:=0) (by omega);have i1:jk 2 (jG r.args) (vi 1)=some (.elt (jm r.args[1]) 0):=ja (i:=1) (by omega);have e0:Kx r=r.args[0]:=yU (by omega);have e1:Qw r=r.args[1]:=yU (by omega);rw[e0,e1];exact⟨i0,i1⟩
theorem jBy{m:jw}{r:T}(hm:MOk Vs m)(hr:Vs r):zy (sub m r)=true/\nodes (sub m r)<=900/\Tz (sub m r):=by
 have h1:=YM (u:=m) (λq hq=>(hm.2 q hq).2.1) r hr.1;have h2:=jmi (u:=m) (Z:=30) (by decide) (λq hq=>(hm.2 q hq).2.2) r;have h3:=hr.2;have h4:=jf8 _ h1;exact⟨h1,by omega,by unfold Tz;omega⟩
theorem jBd{rs:Xg}(hr:RS rs){s v:T}(hs:Vs s)(h:Jb rs s=some v):zy v=true/\nodes v<=900:=by
 have key:∀rs:Xg,(∀r∈rs,r.args.length=2/\Vs (Kx r)/\Vs (Qw r))->Jb rs s=some v->zy v=true/\nodes v<=900:=by
  intro rs;induction rs with
  |nil=>intro _ h;simp[Jb]at h
  |cons r rs ih=>
   intro hr h;rw[Jb]at h;split at h
   .rename_i m hm;cases h;obtain⟨a,b,_⟩:=jBy (jAx hs hm) (hr r (by simp)).2.2;exact⟨a,b⟩
   .exact ih (λq hq=>hr q (by simp[hq])) h
 exact key rs hr.2 h
def jDu(t:T)(o:Option T):Xe:=match o with|some u=>some (.tup [tm u,vb true],[])|none=>some (.tup [tm t,vb false],[])
theorem EX.at{root:Bool}{t:T}(h:EX root t){p:Xf}(hp:okP p t)(hne:¬(p=[]/\root=false)):Vs (atT p t):=by
 obtain⟨_,h1,h2⟩:=h;cases p with
 |nil=>
  cases root
  .exact absurd ⟨rfl,rfl⟩ hne
  .exact h2 rfl
 |cons i p=>
  obtain⟨a,b⟩:=hp;refine jvo (p:=p) (q:=Vs) (λ_ h=>h.args) b ?_;rw[yU a];exact h1 _ (jr _)
theorem jww(rs:Xg)(hr:RS rs)(root:Bool)(t:T)(h:EX root t):G 259 [tm t,jG rs,vb root]=jDu t (Yt rs root t):=by
 have hrt:=h.1.2;have hpost:=post_eq t [] hrt (by have:=hrt;unfold Tz at this;simp;omega);have hpost:G 292 [tm t,.sl 1 []]=some (.sl 1 ((QP t).map plc),[]):=hpost;have hok:=jrb t;have hln:=jgg t;have hr1:=hr.1;rw[<-jwv];generalize hP:QP t=P at *;have key:=upto (P:=λi=>jfL (jG rs) (vb root) (.sl 1 (P.map plc)) (vi i) (sv t.name) (jG t.args) (sv []) []=jDu t ((P.drop i).findSome? (YL rs root t))) (n:=P.length) ?_ ?_ 0 (Nat.zero_le _)
 .rw [jLg];simp only[Int.natCast_zero,List.drop_zero]at key;simp only[je,hpost,key]
 .rw [jtb,List.drop_length];show _=some (A.tup [tm t,vb false],[]);simp only[je]
 .intro i hi ih;have hn:=h.1.1;have hlt:(i:Int)<((P.length:Nat):Int):=by omega
  have h5:=jo hi (by show P.length<=9223372036854775807;omega)
  have hpi:jk 1 (.sl 1 (P.map plc)) (vi (i:Nat))=some (.elt (plc P[i]) 0):=ja hi;have hpl:kP (pln P[i])=some (vi ((P[i].length:Nat):Int)):=by simp only[je]
  obtain⟨ho,hl⟩:=hok P[i] (jr _);rw[ji hi,List.findSome?_cons];by_cases hc:P[i]=[]/\root=false
  .rw [YL,jg hc];obtain⟨c1,c2⟩:=hc;subst c2;have c3:(((P[i]).length:Nat):Int)=0:=by rw[c1];rfl
   rw[jtb];simp only[je,hlt,hpi,hpl,c3,h5,ih]
  .have hs:=h.at ho hc;rw[YL,jh hc];have e1:=at_eq t P[i] hrt ho (by omega);have inner:∀j,j<=rs.length->jfM (jG rs) (vb root) (.sl 1 (P.map plc)) (vi i) (vi j) (sv t.name) (jG t.args) (sv []) (sv (atT P[i] t).name) (jG (atT P[i] t).args) []=(match Jb (rs.drop j) (atT P[i] t)with|some v=>jDu t (some (kJ v P[i] t))|none=>jDu t ((P.drop (i+1)).findSome? (YL rs root t))):=by
    refine upto ?_ ?_
    .rw [jz3,List.drop_length,Jb];simp only[je,h5,ih]
    .intro j hj ihj;have hltj:(j:Int)<((rs.length:Nat):Int):=by omega
     have h5j:=jo hj (by show rs.length<=9223372036854775807;omega)
     obtain⟨hr2,hr3,hr4⟩:=hr.2 rs[j] (jr _);obtain⟨i0,i1⟩:=jl5 hr2;have ad:qe (.elt (jm rs[j]) 0) 1=some (.elt (jm rs[j]) 1):=by rw[qA]
     have lp:j9 (.elt (jm rs[j]) 1)=some (jG rs[j].args):=by rw[kU];rfl
     have q:=jqy (Kx rs[j]) hr3.tz (atT P[i] t) [] hs.tz (λq hq=>by cases hq) (by have:=hr3.2;simp;omega)
     rw[jz3,ji hj,Jb];cases hm:mt [] (Kx rs[j]) (atT P[i] t)with
     |none=>
      rw[hm]at q;obtain⟨R,q⟩:=q;have q:jhZ (tm (Kx rs[j])) (sv (atT P[i] t).name) (jG (atT P[i] t).args) []=some (.top,[vb false,.sl 259 R]):=q;simp only[je,hltj,ja hj,ad,lp,i0,jd,q,List.getElem?_cons_zero,h5j,ihj]
     |some m=>
      rw[hm]at q;have q:jhZ (tm (Kx rs[j])) (sv (atT P[i] t).name) (jG (atT P[i] t).args) []=some (.top,[vb true,.sl 259 (m.map bc)]):=q;have hM:=jAx hs hm;obtain⟨_,hml⟩:=jjt (p:=Vs) (λ_ h=>h.args) _ (m:=[]) (λq hq=>by cases hq) hs hm;have hml:m.length<=30:=by have:=hr3.2;simp at hml;omega
      have p1:=jAY m (λq hq=>(hM.2 q hq).2.tz) (by omega);have hsz:Sz 1048576 (JK m):=by
       refine⟨?_,λq hq=>?_⟩
       .have:=jlo m [];show(JK m).length<=_;unfold JK;simp at this;omega
       .have hq:=jwM hq;have:=jft (hM.2 q hq).1;have:=(hM.2 q hq).2.tz;unfold Tz at this;exact⟨by omega,by omega⟩
      have p2:=KR (JK m) hsz (Qw rs[j]) hr4.tz;rw[jxe (m:=m) ⟨hM.1,λq hq=>⟨(hM.2 q hq).1,(hM.2 q hq).2.1⟩⟩]at p2;obtain⟨_,_,s3⟩:=jBy hM hr4;have p3:=jo2 (sub m (Qw rs[j])) s3 P[i] t hrt ho (by omega);show _=some (A.tup [tm (kJ (sub m (Qw rs[j])) P[i] t),vb true],[]);simp only[je,hltj,ja hj,ad,lp,i0,i1,jd,q,List.getElem?_cons_zero,hpi,p1,p2,p3]
   have inner:=inner 0 (Nat.zero_le _);simp only[List.drop_zero,Int.natCast_zero]at inner;have fin:jfL (jG rs) (vb root) (.sl 1 (P.map plc)) (vi i) (sv t.name) (jG t.args) (sv []) []=jfM (jG rs) (vb root) (.sl 1 (P.map plc)) (vi i) (vi 0) (sv t.name) (jG t.args) (sv []) (sv (atT P[i] t).name) (jG (atT P[i] t).args) []:=by
    rw[jtb];cases root with
    |true=>
     by_cases c:(((P[i]).length:Nat):Int)=0
     .simp only[je,hlt,hpi,hpl,c,e1]
     .simp only[je,hlt,hpi,hpl,c,e1]
    |false=>
     have c:¬(((P[i]).length:Nat):Int)=0:=λc=>hc ⟨List.length_eq_zero_iff.1 (by omega),rfl⟩;simp only[je,hlt,hpi,hpl,c,e1]
   rw[fin,inner];cases Jb rs (atT P[i] t)with
   |none=>rfl
   |some v=>rfl
def jjH(o:Option T):Xe:=match o with|some u=>some (.tup [tm u,vb true],[])|none=>some (.tup [.agg [sv [],.sl 2 []],vb false],[])
theorem jtt(rs:Xg)(hr:RS rs):∀(t:T)(root:Bool),Tz t->(∀u∈t.args,Vs u)->(root=true->Vs t\/ ∀r∈rs,mt [] (Kx r) t=none)->G 204 [tm t,jG rs,vb root]=jjH (Yt rs root t):=by
 refine T.ind λt ih root ht hA hRt=>?_;have hs:=ht;unfold Tz at hs;rw[kH]at hs;have hr1:=hr.1;have second:jfI (vb root) (jG rs) (vi (rs.length:Nat)) (vi 0) (sv t.name) (jG t.args) (sv []) []=jjH (if root then Jb rs t else none):=by
  have key:=upto (P:=λj=>jfI (vb root) (jG rs) (vi (rs.length:Nat)) (vi j) (sv t.name) (jG t.args) (sv []) []=jjH (if root then Jb (rs.drop j) t else none)) (n:=rs.length) ?_ ?_ 0 (Nat.zero_le _)
  .exact key
  .rw [jzD,List.drop_length,Jb,ite_self];show _=some (A.tup [.agg [sv [],.sl 2 []],vb false],[]);simp only[je]
  .intro j hj ihj;have hltj:(j:Int)<((rs.length:Nat):Int):=by omega
   have h5j:=jo hj (by show rs.length<=9223372036854775807;omega)
   obtain⟨hr2,hr3,hr4⟩:=hr.2 rs[j] (jr _);obtain⟨i0,i1⟩:=jl5 hr2;rw[jzD,ji hj,Jb];cases root with
   |false=>
    simp only[je,hltj,ja hj,jd,h5j,ihj]
   |true=>
    have q:=jwr (Kx rs[j]) hr3.tz hr3.1 t [] ht (λq hq=>by cases hq);cases hm:mt [] (Kx rs[j]) t with
    |none=>
     rw[hm]at q;obtain⟨R,q⟩:=q;have q:jdp (tm (Kx rs[j])) (sv t.name) (jG t.args) []=some (.top,[vb false,.sl 128 R]):=q;simp only[je,hltj,ja hj,i0,jd,q,List.getElem?_cons_zero,h5j,ihj]
    |some m=>
     rw[hm]at q;have q:jdp (tm (Kx rs[j])) (sv t.name) (jG t.args) []=some (.top,[vb true,.sl 128 (m.map kv)]):=q;have hM:=(match hRt rfl with|Or.inl hv=>jAx hv hm|Or.inr hno=>by rw[hno _ (jr _)]at hm;cases hm);have p1:=jtH (m:=m) (λq hq=>(hM.2 q hq).1) (λq hq=>(hM.2 q hq).2.tz) (Qw rs[j]) hr4.tz hr4.1;show _=some (A.tup [tm (sub m (Qw rs[j])),vb true],[]);simp only[je,hltj,ja hj,i0,i1,jd,q,List.getElem?_cons_zero,p1]
 have first:∀i,i<=t.args.length->jm9 (jG rs) (vb root) (jG t.args) (vi (t.args.length:Nat)) (vi i) (sv t.name) (jG t.args) (sv []) []=(match Ky rs (t.args.drop i)with|some us=>jjH (some (.mk t.name (t.args.take i++us)))|none=>jjH (if root then Jb rs t else none)):=by
  refine upto ?_ ?_
  .rw [jzC,List.drop_length,Ky];simp only[je,second]
  .intro i hi ih2;have hlt:(i:Int)<((t.args.length:Nat):Int):=by omega
   have h5:=jo hi (by show t.args.length<=9223372036854775807;omega)
   have hu:t.args[i]∈t.args:=jr _;have hv:=hA _ hu;have e1:=ih t.args[i] hu true hv.tz hv.args λ_=>Or.inl hv;rw[jzC,ji hi,Ky];cases ho:Yt rs true t.args[i]with
   |none=>
    rw[ho]at e1;have e1:G 204 [tm t.args[i],jG rs,vb true]=some (.tup [.agg [sv [],.sl 2 []],vb false],[]):=e1;simp only[je,hlt,ja hi,jd,e1,h5,ih2];cases Ky rs (t.args.drop (i+1))with
    |none=>rfl
    |some us=>
     show jjH (some (.mk t.name (t.args.take (i+1)++us)))=jjH (some (.mk t.name (t.args.take i++t.args[i]::us)));have e:t.args.take (i+1)++us=t.args.take i++t.args[i]::us:=by
      rw[List.take_add_one,j7 hi,ze];rfl
     rw[e]
   |some u=>
    rw[ho]at e1;have e1:G 204 [tm t.args[i],jG rs,vb true]=some (.tup [tm u,vb true],[]):=e1;have e2:=jnU t ht;have ix:Zt t.args.length (vi (i:Nat))=some i:=zg hi;have rg:YD (t.args.map jm) i=some (jm t.args[i]):=by unfold YD;simp[hi]
    have co:jS (jm t.args[i]) 0 [sv u.name,jG u.args]=jm u:=by rw[kU,kU];rfl
    have rs':kX (t.args.map jm) i (jm u)=(t.args.take i++u::t.args.drop (i+1)).map jm:=by
     unfold kX;rw[<-List.map_set,List.set_eq_take_append_cons_drop,jg hi]
    show _=some (A.tup [tm (.mk t.name (t.args.take i++u::t.args.drop (i+1))),vb true],[]);simp only[je,hlt,ja hi,jd,e1,e2,ix,rg,co,rs',List.getElem?_cons_zero];rfl
 have first:=first 0 (Nat.zero_le _)
 simp only[List.drop_zero,Int.natCast_zero,List.take_zero,yF]at first
 rw[jKz,jay];simp only[je,first];cases Ky rs t.args<;>rfl
theorem jwu(rs:Xg)(hr:RS rs)(t:T)(root:Bool)(h:EX root t):G 204 [tm t,jG rs,vb root]=jjH (Yt rs root t):=jtt rs hr t root h.1.2 h.2.1 λe=>Or.inl (h.2.2 e)
def Srt(l:Xa):Prop:=l.Pairwise λx y=>x<y
theorem YJ(x y:Xb):yK x y=decide (x<y):=Go.Proofs.bytesLess_eq x y
theorem jAs{x y:Xb}(h1:¬x<y)(h2:x≠y):y<x:=by
 have h3:y<=x:=List.not_lt.1 h1;exact Std.lt_of_le_of_ne h3 (Ne.symm h2)
theorem jvF:∀(a b:Xa),Srt a->Srt b->(∀n,n∈a↔n∈b)->a=b
 | [],[],_,_,_=>rfl
 | [],y::b,_,_,h=>by have:=(h y).2 (by simp);cases this
 |x::a,[],_,_,h=>by have:=(h x).1 (by simp);cases this
 |x::a,y::b,ha,hb,h=>by
  have ha':=List.pairwise_cons.1 ha;have hb':=List.pairwise_cons.1 hb;have hxy:x=y:=by
   have h1:x∈y::b:=(h x).1 (by simp);have h2:y∈x::a:=(h y).2 (by simp);rcases jK.1 h1 with h1|h1
   .exact h1
   .rcases jK.1 h2 with h2|h2
    .exact h2.symm
    .exact absurd (List.lt_trans (ha'.1 y h2) (hb'.1 x h1)) (List.lt_irrefl x)
  subst hxy;refine congrArg (x::·) (jvF a b ha'.2 hb'.2 λn=>⟨λhn=>?_,λhn=>?_⟩)
  .rcases jK.1 ((h n).1 (List.mem_cons_of_mem _ hn))with e|e
   .subst e;exact absurd (ha'.1 _ hn) (List.lt_irrefl _)
   .exact e
  .rcases jK.1 ((h n).2 (List.mem_cons_of_mem _ hn))with e|e
   .subst e;exact absurd (hb'.1 _ hn) (List.lt_irrefl _)
   .exact e
theorem jBu{l:Xa}(h:l.Nodup):Srt (yL l):=by
 have h1:(yL l).Pairwise λx y=>decide (x<=y)=true:=List.pairwise_mergeSort (λa b c h1 h2=>by simp only[ky]at *;exact List.le_trans h1 h2) (λa b=>by simp only[Bool.or_eq_true,ky];exact List.le_total a b) l
 have h2:(yL l).Nodup:=(List.mergeSort_perm l _).nodup_iff.2 h;exact(h1.and h2).imp λ{x y} hxy=>Std.lt_of_le_of_ne (by simpa using hxy.1) hxy.2
theorem jvG{l:Xa}{s:Xb}{i:Nat}(hl:Srt l)(h1:∀x∈l.take i,x<s)(h2:∀h:i<l.length,s<l[i]):Srt (l.take i++[s]++l.drop i):=by
 have hl':Srt (l.take i++l.drop i):=by rw[Qj];exact hl
 obtain⟨p1,p2,p3⟩:=List.pairwise_append.1 hl';have h3:∀y∈l.drop i,s<y:=by
  intro y hy;have hlt:i<l.length:=by
   rcases Nat.lt_or_ge i l.length with h|h
   .exact h
   .rw [List.drop_of_length_le h]at hy;cases hy
  rw[List.drop_eq_getElem_cons hlt]at hy p2;rcases jK.1 hy with e|e
  .subst e;exact h2 hlt
  .exact List.lt_trans (h2 hlt) ((List.pairwise_cons.1 p2).1 y e)
 refine List.pairwise_append.2 ⟨List.pairwise_append.2 ⟨p1,by simp,λa ha b hb=>?_⟩,p2,λa ha b hb=>?_⟩
 .rw [zx.1 hb];exact h1 a ha
 .rcases kW.1 ha with ha|ha
  .exact p3 a ha b hb
  .rw [zx.1 ha];exact h3 b hb
theorem jw9{l:Xa}(h:Srt l):l.Nodup:=h.imp λ{x y} hxy e=>by subst e;exact List.lt_irrefl _ hxy
mutual
def YO:T->Xa
 |.mk n us=>(if js n then[]else[n])++Ju us
def Ju:Xg->Xa
 | []=>[]
 |t::ts=>YO t++Ju ts
end
theorem QT(t:T):YO t=(if js t.name then[]else[t.name])++Ju t.args:=by cases t;rfl
theorem jwg(l:Xa)(s:Xb)(hl:l.length<=2100000):∃r,G 254 [strs l,sv s]=some (strs r,[])/\jd4 l [s] 1 r/\(Srt l->Srt r):=by
 have key:=upto (P:=λi=>(Srt l-> ∀x∈l.take i,x<s)-> ∃r,jik (strs l) (sv s) (vi i)=some (strs r,[])/\jd4 l [s] 1 r/\(Srt l->Srt r)) (n:=l.length) ?_ ?_ 0 (Nat.zero_le _)
 .simp only[Int.natCast_zero]at key;rw[jHW];exact key (by simp)
 .intro hless;have hx:¬((l.length:Nat):Int)<((l.length:Nat):Int):=Int.lt_irrefl _;have s1:yb 1 (strs l) none (some (vi (l.length:Nat)))=some (strs l):=by rw[Kf (by simp),yN (by simp)]
  have s2:yb 1 (strs l) (some (vi (l.length:Nat))) none=some (.sl 1 []):=by rw[qf (by simp),List.drop_of_length_le (by simp)]
  have f1:jM l.length 16=true:=JZ (by omega);have f2:jM (l.length+1) 16=true:=JZ (by omega);have happ:jR (jR (l.map cs) [[sv s]]) []=(l++[s]).map cs:=by simp[jR]
  have hlen:(jR (l.map cs) [[sv s]]).length=l.length+1:=by simp[jR]
  refine⟨l++[s],?_,⟨by intro n;simp,by simp⟩,λh=>?_⟩
  .rw [jog];simp only[je,hx,s1,s2,f1,f2,hlen,happ,j6]
  .have:=jvG (s:=s) (i:=l.length) h (hless h) (λh=>absurd h (Nat.lt_irrefl _));simpa using this
 .intro i hi ih hless;have hlt:(i:Int)<((l.length:Nat):Int):=by omega
  have h5:=jo hi (by omega);rw[jog];cases h1:yK l[i] s
  .by_cases h2:l[i]=s
   .refine ⟨l,?_,⟨λn=>⟨λh=>Or.inl h,λh=>by
     rcases h with h|h
     .exact h
     .simp at h;rw[h,<-h2];exact jr _⟩,by omega⟩,id⟩
    rw[h2]at h1;simp only[je,hlt,ja hi,h2,h1]
   .have s1:yb 1 (strs l) none (some (vi i))=some (strs (l.take i)):=by rw[Kf (by simp;omega),<-List.map_take]
    have s2:yb 1 (strs l) (some (vi i)) none=some (strs (l.drop i)):=by rw[qf (by simp;omega),<-List.map_drop]
    have ht:(l.take i).length=i:=by rw[List.length_take];omega
    have f1:jM i 16=true:=JZ (by omega);have f2:jM (i+1) 16=true:=JZ (by omega);have f3:jM (i+1+(l.drop i).length) 16=true:=JZ (by rw[List.length_drop];omega);have happ:jR (jR ((l.take i).map cs) [[sv s]]) ((l.drop i).map cs)=(l.take i++[s]++l.drop i).map cs:=by simp[jR]
    have hlen:(jR ((l.take i).map cs) [[sv s]]).length=i+1:=by simp[jR];omega
    refine⟨l.take i++[s]++l.drop i,?_,⟨λn=>?_,by simp;omega⟩,λh=>?_⟩
    .simp only[je,hlt,ja hi,h1,h2,s1,s2,ht,f1,f2,f3,hlen,happ]
    .have hm:n∈l↔n∈l.take i\/n∈l.drop i:=by rw[<-kW,Qj]
     simp only[kW,zx,hm];exact⟨λh=>by rcases h with(h|h)|h<;>simp[h],λh=>by rcases h with(h|h)|h<;>simp[h]⟩
    .rw [YJ,decide_eq_false_iff_not]at h1;exact jvG h (hless h) λ_=>jAs h1 h2
  .have hx:l[i]<s:=by rw[YJ,ky]at h1;exact h1
   obtain⟨r,e,c⟩:=ih λh x hm=>by
    rw[List.take_succ_eq_append_getElem hi]at hm;rcases kW.1 hm with hm|hm
    .exact hless h x hm
    .rw [zx.1 hm];exact hx
   refine⟨r,?_,c⟩;simp only[je,hlt,ja hi,h1,h5,e]
theorem jgL:∀t:T,Jv t-> ∀l:Xa,l.length+nodes t<=2100000-> ∃r,G 216 [strs l,tm t]=some (strs r,[])/\jd4 l (YO t) (nodes t) r/\(Srt l->Srt r):=by
 refine T.ind λt ih hw l hb=>?_;obtain⟨w1,w2,w3⟩:=(kE t).1 hw;have w3:=(ke _).1 w3;have e1:=zL t.name w1;rw[jKL,QT];rw[jO]at hb⊢;have key:=upto (P:=λi=>∀l:Xa,l.length+ju (t.args.drop i)<=2100000-> ∃r,jie (strs l) (vi i) (sv t.name) (jG t.args)=some (strs r,[])/\jd4 l (Ju (t.args.drop i)) (ju (t.args.drop i)) r/\(Srt l->Srt r)) (n:=t.args.length) ?_ ?_ 0 (Nat.zero_le _)
 .simp only[Int.natCast_zero,List.drop_zero]at key;cases hv:js t.name<;>rw[hv]at e1
  .obtain ⟨r0,e0,⟨b1,b2⟩,b3⟩:=jwg l t.name (by omega);obtain⟨r,e,⟨c1,c2⟩,c3⟩:=key r0 (by omega);refine⟨r,?_,⟨λn=>?_,by omega⟩,λh=>c3 (b3 h)⟩
   .simp only[je,e1,e0,e]
   .rw [c1,b1];simp only[KI,if_false,kW];exact or_assoc
  .obtain ⟨r,e,⟨c1,c2⟩,c3⟩:=key l (by omega);refine⟨r,?_,⟨by simpa using c1,by omega⟩,c3⟩;simp only[je,e1,e]
 .intro l hb;rw[jzL,List.drop_length];refine⟨l,?_,⟨by simp[Ju],by omega⟩,id⟩;simp only[je]
 .intro i hi ih' l hb;have hlt:(i:Int)<((t.args.length:Nat):Int):=by omega
  have h5:=jo hi w2;rw[ji hi]at hb⊢;simp only[ju,Ju]at hb⊢;obtain⟨r1,a1,⟨c1,c2⟩,c3⟩:=ih t.args[i] (jr _) (w3 _ (jr _)) l (by omega);obtain⟨r2,a2,⟨d1,d2⟩,d3⟩:=ih' r1 (by omega);rw[jzL];refine⟨r2,?_,⟨λn=>?_,by omega⟩,λh=>d3 (c3 h)⟩
  .simp only[je,hlt,ja hi,jd,a1,h5,a2]
  .rw [d1,c1,kW];exact or_assoc
theorem jki{n:Xb}(h:js n=true):qo n=false:=by
 cases n with
 |nil=>rfl
 |cons c r=>
  simp only[js,jI,upc,y8,ky]at h;have:jcU c=false:=by unfold jcU y8;rw[Bool.and_eq_false_iff];left;rw[decide_eq_false_iff_not];omega
  simp[qo,this]
theorem jrR{t:T}(h:zy t=true):qo t.name=!js t.name:=by
 obtain⟨c,r,_,hv,hs⟩:=jqR h;cases hx:js t.name
 .rw [hv]at hx;rw[hs hx];rfl
 .rw [jki hx];rfl
def jk4(l vs:Xa)(k:Nat)(r:Xa):Prop:=jd4 l vs k r/\(l.Nodup->r.Nodup)
theorem jcd(ts:Xg)(hl:ts.length<=9223372036854775807)(ih:∀t∈ts,∀l:Xa,l.length+nodes t<=2100000-> ∃r,Q1 (sv t.name) (jG t.args) (l.map cs)=some (.top,[strs r])/\jk4 l (YO t) (nodes t) r) :
  ∀i,i<=ts.length-> ∀l:Xa,l.length+ju (ts.drop i)<=2100000-> ∃r,jec (jG ts) (vi (ts.length:Nat)) (vi i) (l.map cs)=some (.top,[strs r])/\jk4 l (Ju (ts.drop i)) (ju (ts.drop i)) r:=by
 refine upto ?_ ?_
 .intro l hb;rw[jqq,List.drop_length];refine⟨l,?_,⟨by simp[Ju],by omega⟩,id⟩;simp only[je]
 .intro i hi ih' l hb;have hlt:(i:Int)<((ts.length:Nat):Int):=by omega
  have h5:=jo hi hl;rw[ji hi]at hb⊢;simp only[ju,Ju]at hb⊢;obtain⟨r1,e1,⟨c1,c2⟩,c3⟩:=ih ts[i] (jr _) l (by omega);obtain⟨r2,e2,⟨d1,d2⟩,d3⟩:=ih' r1 (by omega);rw[jqq];refine⟨r2,?_,⟨λn=>?_,by omega⟩,λh=>d3 (c3 h)⟩
  .simp only[je,hlt,ja hi,jd,e1,h5,e2]
  .rw [d1,c1,kW];exact or_assoc
theorem jaT(ts:Xg)(hl:ts.length<=9223372036854775807)(ih:∀t∈ts,∀l:Xa,l.length+nodes t<=2100000-> ∃r,Q1 (sv t.name) (jG t.args) (l.map cs)=some (.top,[strs r])/\jk4 l (YO t) (nodes t) r)(l:Xa)(hb:l.length+ju ts<=2100000) :
  ∃r,jii (jG ts) (vi (ts.length:Nat)) (vi 0) (l.map cs)=some (.top,[strs r])/\jk4 l (Ju ts) (ju ts) r:=by
 have loop:=jcd ts hl ih;rw[jzR];by_cases h0:ts.length=0
 .have ha:ts=[]:=List.length_eq_zero_iff.1 h0;rw[ha];refine⟨l,?_,⟨by simp[Ju],by simp[ju]⟩,id⟩;simp only[je];rfl
 .have hi:0<ts.length:=by omega
  have hlt:(0:Int)<((ts.length:Nat):Int):=by omega
  have hix:jk 2 (jG ts) (vi 0)=some (.elt (jm ts[0]) 0):=ja (i:=0) hi;have h5:jy .add false (vi 0) (vi 1)=some (vi ((1:Nat):Int)):=by rw[Kz,jV (by decide) (by decide)];rfl
  have hd:ts=ts[0]::ts.drop 1:=by have:=ji hi;simpa using this
  have hns:ju ts=nodes ts[0]+ju (ts.drop 1):=by conv=>lhs;rw[hd,ju]
  have hvs:Ju ts=YO ts[0]++Ju (ts.drop 1):=by conv=>lhs;rw[hd,Ju]
  obtain⟨r1,e1,⟨c1,c2⟩,c3⟩:=ih ts[0] (jr _) l (by omega);obtain⟨r2,e2,⟨d1,d2⟩,d3⟩:=loop 1 (by omega) r1 (by omega);refine⟨r2,?_,⟨λn=>?_,by omega⟩,λh=>d3 (c3 h)⟩
  .simp only[je,hlt,hix,jd,e1,h5,e2]
  .rw [d1,c1,hvs,kW];exact or_assoc
theorem jfk:∀t:T,Jv t->zy t=true-> ∀l:Xa,l.length+nodes t<=2100000-> ∃r,Q1 (sv t.name) (jG t.args) (l.map cs)=some (.top,[strs r])/\jk4 l (YO t) (nodes t) r:=by
 refine T.ind λt ih hw hk l hb=>?_;obtain⟨w1,w2,w3⟩:=(kE t).1 hw;have w3:=(ke _).1 w3;have hks:=kO hk;have e1:=jbJ t.name w1;have e2:=K1 l t.name (by omega);rw[jrR hk]at e1;rw[jFz,QT];have ih':∀u∈t.args,∀l:Xa,l.length+nodes u<=2100000-> ∃r,Q1 (sv u.name) (jG u.args) (l.map cs)=some (.top,[strs r])/\jk4 l (YO u) (nodes u) r:=λu hu=>ih u hu (w3 u hu) (hks u hu);rw[jO]at hb⊢;cases hv:js t.name<;>rw[hv]at e1
 .cases hc:l.contains t.name<;>rw[hc]at e2
  .have hn:¬t.name∈l:=by simpa using hc
   obtain⟨r,e,⟨c1,c2⟩,c3⟩:=jcd t.args w2 ih' 0 (Nat.zero_le _) (l++[t.name]) (by simp;omega)
   simp only[Int.natCast_zero,List.drop_zero,zv,List.length_singleton]at e c1 c2;have happ:jR (l.map cs) [[sv t.name]]=(l++[t.name]).map cs:=by simp[jR]
   have f1:jM (l.length+1) 16=true:=JZ (by omega);refine⟨r,?_,⟨λn=>?_,by omega⟩,λh=>c3 ?_⟩
   .simp only[je,e1,e2,f1,happ,e]
   .rw [c1];simp only[KI,if_false,kW];exact or_assoc
   .exact ja1.2 ⟨h,by simp,λa ha b hb e=>by rw[zx.1 hb]at e;rw[e]at ha;exact hn ha⟩
  .have hn:t.name∈l:=by simpa using hc
   obtain⟨r,e,⟨c1,c2⟩,c3⟩:=jaT t.args w2 ih' l (by omega);refine⟨r,?_,⟨λn=>?_,by omega⟩,c3⟩
   .simp only[je,e1,e2,e]
   .rw [c1];simp only[KI,if_false,kW,zx];exact⟨λh=>by rcases h with h|h<;>simp[h],λh=>by
     rcases h with h|h|h
     .exact Or.inl h
     .exact Or.inl (h ▸ hn)
     .exact Or.inr h⟩
 .obtain ⟨r,e,⟨c1,c2⟩,c3⟩:=jaT t.args w2 ih' l (by omega);refine⟨r,?_,⟨by simpa using c1,by omega⟩,c3⟩;simp only[je,e1,e]
theorem jAP{n:Nat}(h:n<=4000000):jM n 8=true:=by
 unfold jM;simp;omega
theorem jDJ(n:Nat)(h:n<=12):((qB .u64 (yB [[vi 1]])).bind λt2=>(qB .u64 (vi n)).bind λt3=>(G 278 [t2,t3]).bind (fin false))=some (.tup [.val (.int .u64 0),.val (.int .u64 n)]):=by
 have c:(qB .u64 (yB [[vi 1]]))=some (.val (.int .u64 1)):=by kernel_rfl
 have d:qB .u64 (vi n)=some (.val (.int .u64 n)):=by
  rcases n with _|_|_|_|_|_|_|_|_|_|_|_|_|n
  rotate_right
  .omega
  all_goals kernel_rfl
 rw[c,d];simp only[Option.bind_some];rw[jLt];simp only[cev];rw[jLH];clear c d;rcases n with _|_|_|_|_|_|_|_|_|_|_|_|_|n
 rotate_right
 .omega
 all_goals (show _=_;kernel_rfl)
theorem jyv{α:Type}{a b:α}{i j k:Nat}(h:i<=k):(List.replicate i a++List.replicate j b).drop k=List.replicate (j-(k-i)) b:=by
 rw[List.drop_append,List.drop_replicate,List.drop_replicate,Zr,show i-k=0 by omega];rfl
theorem jA8{n:Nat}(hn:n<=12)(r1:Xc):∀(f j:Nat),n-j<=f->1<=j->j<=n->
  jed (vi (j:Nat)) (List.replicate j [vi 1]++List.replicate (n-j) [vi 0]) r1=some (.top,[.sl 1 (List.replicate n [vi 1])]):=by
 intro f;induction f with
 |zero=>
  intro j h1 h2 h3;have:j=n:=by omega
  subst this;rw[jeT];simp only[je,Zr,Nat.sub_self,List.replicate_zero,zm]
 |succ f ih=>
  intro j h1 h2 h3;by_cases hj:j=n
  .subst hj;rw[jeT];simp only[je,Zr,Nat.sub_self,List.replicate_zero,zm]
  .rw [jeT];simp only[cev];have hl:(List.replicate j [vi 1]++List.replicate (n-j) [vi 0]).length=n:=by simp;omega
   have e1:decide ((j:Int)<(n:Int))=true:=by simp;omega
   have hm:j+min j (n-j)<=n:=by omega
   have e2:jy .add false (vi j) (vi (min j (n-j):Nat))=some (vi (j+min j (n-j):Nat)):=by
    rw[Kz,jV (by omega) (by omega)];rfl
   have ew:(((List.replicate j [vi 1]++List.replicate (n-j) [vi 0]).drop 0).take j)=List.replicate j [vi 1]:=by
    rw[List.drop_zero,jfx (by simp),yN (by simp)]
   have eo:yt (List.replicate j [vi 1]++List.replicate (n-j) [vi 0]) (0+j) ((List.replicate j [vi 1]).take (n-j))=List.replicate (j+min j (n-j)) [vi 1]++List.replicate (n-(j+min j (n-j))) [vi 0]:=by
    rw[YE,yd,jfx (by simp),yN (by simp),List.take_replicate,Zr,jyv]
    .rw [List.replicate_append_replicate,Nat.min_comm (n-j) j];congr 2;omega
    .omega
   have key:=ih (j+min j (n-j)) (by omega) (by omega) hm;simp only[je9,joD,yu,hl,je1,Option.bind_some,Yu,e1,jiB,Nat.sub_zero,zn (j4 n),yW h3,Z2,yV,ew,jvu,jri,Zr,e2,eo,key]
theorem jGB{n:Nat}(h:n<=12):jso (vi (n:Nat)) [[vi 1]]=some (.top,[.sl 1 (List.replicate n [vi 1])]):=by
 rw[jFA];simp only[cev];have e0:decide ((n:Int)<0)=false:=by simp
 have em:=jDJ n h;have eg:decide ((0:Int)<0)=false:=by simp
 have ec:qB .i64 (A.val (.int .u64 n))=some (vi n):=jV (by omega) (by omega);have ek:jy .gtr false (A.val (.int .u64 n)) (A.val (.int .u64 9223372036854775807))=some (vb false):=by
  show some (vb (decide ((9223372036854775807:Int)<n)))=_;rw[decide_eq_false (by omega)]
 have ek0:jy .gtr false (A.val (.int .u64 0)) (A.val (.int .u64 0))=some (vb false):=rfl;have emk:je6 8 (vi n) (vi n)=some n:=by
  show(if jB4 8 (n:Int) (n:Int)then some (n:Int).toNat else none)=_;rw[jg ⟨by omega,by omega,by omega,by omega⟩];rfl
 have hm:∀(k:A->A->Xe),((qB .u64 (yB [[vi 1]])).bind λt2=>(qB .u64 (vi n)).bind λt3=>((G 278 [t2,t3]).bind (fin false)).bind λt4=>(jbY t4 0).bind λt5=>(jbY t4 1).bind λt6=>k t5 t6) =
   k (.val (.int .u64 0)) (.val (.int .u64 n)):=by
  intro k;have:((qB .u64 (yB [[vi 1]])).bind λt2=>(qB .u64 (vi n)).bind λt3=>((G 278 [t2,t3]).bind (fin false)).bind λt4=>(jbY t4 0).bind λt5=>(jbY t4 1).bind λt6=>k t5 t6) =
    (((qB .u64 (yB [[vi 1]])).bind λt2=>(qB .u64 (vi n)).bind λt3=>(G 278 [t2,t3]).bind (fin false)).bind λt4=>(jbY t4 0).bind λt5=>(jbY t4 1).bind λt6=>k t5 t6):=by
   simp only[Option.bind_assoc]
  rw[this,em];rfl
 rw[je1,e0];simp only[Option.bind_some,Yu,Z9];rw[hm];simp only[ek0,ek,Option.bind_some,jAR,qi,jjK,KI,if_false,Yu,Z9,ec,emk,yH,joD,Zr];rcases n with _|n
 .have e1:jwQ [[vi 1]] 0=vi ((0:Nat):Int):=rfl;have e2:yt (List.replicate 0 [vi 0]) 0 (jlV [[vi 1]] 0)=[]:=rfl;rw[e1,e2,jeT];rfl
 .have key:=jA8 (n:=n+1) h [[vi 1]] (n+1) 1 (by omega) (by omega) (by omega);have e1:jwQ [[vi 1]] (n+1)=vi ((1:Nat):Int):=by
   rw[jvu];have:min [[vi 1]].length (n+1)=1:=by simp
   rw[this]
  have e2:yt (List.replicate (n+1) [vi 0]) 0 (jlV [[vi 1]] (n+1))=List.replicate 1 [vi 1]++List.replicate (n+1-1) [vi 0]:=by
   rw[YE,jri];simp[ZR]
  rw[e1,e2];exact key
theorem jkj{ts:Xg}{n:Xb} :n∈Ju ts↔ ∃t∈ts,n∈YO t:=by
 induction ts with
 |nil=>simp[Ju]
 |cons t ts ih=>simp[Ju,ih]
theorem jml:∀t:T,zy t=true-> ∀n∈YO t,qo n=true:=by
 refine T.ind λt ih hk n hn=>?_;rw[QT,kW]at hn;rcases hn with hn|hn
 .cases hv:js t.name<;>rw[hv]at hn
  .simp at hn;rw[hn,jrR hk,hv];rfl
  .simp at hn
 .obtain ⟨u,hu,hm⟩:=jkj.1 hn;exact ih u hu (kO hk u hu) n hm
theorem jpF(l:Xa):∀t:T,(∀n∈YO t,n∈l)->KB l t=true:=by
 refine T.ind λt ih h=>?_;rw[QT]at h;rw[JY,QF,jI];refine⟨?_,yx.2 λu hu=>ih u hu λn hn=>h n (YS _ (jkj.2 ⟨u,hu,hn⟩))⟩;cases hv:js t.name
 .rw [hv]at h;rw[Bool.false_or];exact List.contains_iff_mem.2 (h t.name (by simp))
 .rfl
def jkc(r:Xa):Ord':=⟨r,List.replicate r.length 1,1⟩
theorem jxu{r:Xa}(h1:1<=r.length)(h2:r.length<=12)(hs:∀n∈r,qo n=true)(hn:r.Nodup):yT (jkc r)=true:=by
 have hb:y8 1 12 (r.length:Nat)=true:=by unfold y8;rw[jI,ky,ky];omega
 unfold yT jkc;simp only[hb,Zr,decide_true,Bool.true_and,jI];refine⟨by decide,yx.2 λi hi=>?_⟩;have hi:i<r.length:=List.mem_range.1 hi;have g1:r.getD i []=r[i]:=by simp[zP,hi]
 have g2:(List.replicate r.length (1:Int)).getD i 0=1:=by simp[zP,hi]
 unfold jvY;simp only[g1,g2,hs _ (jr _),Bool.true_and,jI];refine⟨?_,by decide⟩;rw[QY,<-Bool.not_eq_true,List.contains_iff_mem];intro hm;obtain⟨j,hj,e⟩:=List.mem_take_iff_getElem.1 hm;have:=(List.nodup_iff_pairwise_ne.1 hn);have:=List.pairwise_iff_getElem.1 this j i (by omega) hi (by omega);exact this e
theorem jBz{n:Xb}(h:qo n=true):n.length<=6:=by
 cases n with
 |nil=>simp
 |cons c r=>
  simp only[qo,jI,ky]at h;simp only[j8];omega
theorem jiH(o:Ord')(s t:T)(hw:Jv s)(hw':Jv t)(x y:Bool)(e5:G 281 [od o,tm s,tm t]=some (vb x,[]))(e6:G 281 [od o,tm t,tm s]=some (vb y,[])):G 238 [od o,tm s,tm t]=some (vi (jbw (dq s t) x y),[]):=by
 have e4:=yi s hw t hw';have c1:G 280 [.elt (jox o) 0,.elt [sv s.name,.sl 2 (s.args.map jm)] 0,.elt [sv t.name,.sl 2 (t.args.map jm)] 0]=some (vb x,[]):=by
  rw[jHY];simp only[je,je4,je5,e5]
 have c2:G 282 [.elt (jox o) 0,.elt [sv t.name,.sl 2 (t.args.map jm)] 0,.elt [sv s.name,.sl 2 (s.args.map jm)] 0]=some (vb y,[]):=by
  rw[jH0];simp only[je,je4,je5,e6]
 have e7:=jjE (f:=280) (g:=282) rfl rfl (dq s t) _ _ c1 c2;rw[jHV];simp only[je,e4,e7]
theorem QV{t:T}(hk:zy t=true)(hv:js t.name=true):t.args=[]:=by
 rw[yA,hv,jg rfl]at hk;exact List.isEmpty_iff.1 hk
theorem jqf(o:Ord')(s t:T)(hw:Jv s)(hw':Jv t)(hk:zy s=true)(hk':zy t=true)(hv:js s.name=true)(hv':js t.name=true)(hne:¬s.name=t.name):G 281 [od o,tm s,tm t]=some (vb false,[]):=by
 have as_:=QV hk hv;have at_:=QV hk' hv';have ns:nodes s<=1048577:=by rw[jO,as_];simp[ju]
 have nt:nodes t<=1048577:=by rw[jO,at_];simp[ju]
 obtain⟨r,er,c1,c2⟩:=jfu t hw' hk' nt;have hvt:kL t=[t.name]:=by rw[Zm,jg hv']
 have hpos:0<r.length:=by
  rcases Nat.eq_zero_or_pos r.length with h|h
  .have hr:r=[]:=List.length_eq_zero_iff.1 h;have:=(c1 t.name).2 (by rw[hvt];simp);rw[hr]at this;cases this
  .exact h
 have h0:r[0]=t.name:=by
  have:=(c1 r[0]).1 (jr _);rw[hvt]at this;simpa using this
 have hlt:(0:Int)<((r.length:Nat):Int):=by omega
 have hix:jk 1 (strs r) (vi 0)=some (.elt (cs t.name) 0):=by have:=ja (k:=1) (f:=cs) (i:=0) hpos;rw[h0]at this;exact this
 have a1:=Ks t.name s hw ns;have a2:=Ks t.name t hw' nt;have k1:cnt t.name s=0:=by rw[jfY,as_,jh hne];simp[ZT]
 have k2:cnt t.name t=1:=by rw[jfY,at_];simp[ZT]
 rw[k1]at a1;rw[k2]at a2;have h':((0:Nat):Int)<((1:Nat):Int):=by omega
 rw[jHZ];simp only[je,er];rw[jtd];simp only[je,hlt,hix,a1,a2,h']
theorem jBv(a b:T)(r:Xa)(hr:r.length<=12)(x:Int)(ok:Bool)(e:G 217 [.agg [strs r,.sl 1 (List.replicate r.length [vi 1]),vi 1],tm a,tm b]=some (.tup [vi x,vb ok],[])) :
  jia (vi 0) (sv a.name) (jG a.args) (sv b.name) (jG b.args) (strs r) (vi 1) []=some (vi (if ok then x else 0),[]):=by
 have key:=upto (P:=λi=>jia (vi i) (sv a.name) (jG a.args) (sv b.name) (jG b.args) (strs r) (vi 1) (List.replicate i [vi 1])=some (vi (if ok then x else 0),[])) (n:=r.length) ?_ ?_ 0 (Nat.zero_le _)
 .simpa using key
 .rw [jzu];have hf:fin true (A.tup [vi x,vb ok],[])=some (A.tup [vi x,vb ok]):=rfl;cases ok
  .simp only[je,e,hf]
  .simp only[je,e,hf]
 .intro i hi ih;have hlt:(i:Int)<((r.length:Nat):Int):=by omega
  have h5:=jo hi (by omega);have f1:jM (i+1) 8=true:=jAP (by omega);have happ:jR (List.replicate i [vi 1]) [[vi 1]]=List.replicate (i+1) [vi 1]:=by rw[List.replicate_succ'];rfl
  have hlen:(List.replicate i ([vi 1]:Xd)).length=i:=Zr;rw[jzu];simp only[je,hlt,hlen,f1,h5,happ,ih]
theorem jF5{o:Ord'}(hv:yT o=true){s t:T}(ks:zy s=true)(hc:KB o.syms t=true)(h:Kp o s t):js s.name=false:=by
 cases hs:js s.name with
 |false=>rfl
 |true=>
  obtain⟨_,h⟩:=(jxQ o s t).1 h;rcases h with h|⟨_,h,_⟩
  .have:=jGQ hv hc;rw[jsc o s,QV ks hs,hs,jg rfl]at h;simp only[wtL]at h;omega
  .rw [hs]at h;cases h.1
theorem jqV(a b:T)(hw:Jv a)(hw':Jv b)(hs:tsz a<=1048576)(hs':tsz b<=1048576)(hva:kQ a=true)(hvb:kQ b=true) :
  ∃x:Int,G 179 [tm a,tm b]=some (vi x,[])/\G 199 [tm a,tm b]=some (vi x,[])/\(x=2->js a.name=false):=by
 have hk:zy a=true:=by unfold kQ at hva;rw[jI]at hva;exact hva.2
 have hk':zy b=true:=by unfold kQ at hvb;rw[jI]at hvb;exact hvb.2
 have na:nodes a<=30:=by simp only[kQ,jF,jI,ky]at hva;exact hva.1.1
 have nb:nodes b<=30:=by simp only[kQ,jF,jI,ky]at hvb;exact hvb.1.1
 have e1:=Kd a hw b hw';have e2:=yi a hw b hw';rw[jKi,jKw];cases hd:dq a b<;>rw[hd]at e1 e2
 rotate_left
 .exact ⟨1,by simp only[je,e1],by simp only[je,e2],λh=>absurd h (by decide)⟩
 obtain⟨r1,f1,⟨c1,c2⟩,c3⟩:=jgL a hw [] (by simp;omega)
 obtain⟨r,f2,⟨d1,d2⟩,d3⟩:=jgL b hw' r1 (by simp at c2;omega)
 have hsrt:Srt r:=d3 (c3 List.Pairwise.nil);have hmem:∀n,n∈r↔n∈YO a\/n∈YO b:=λn=>by rw[d1,c1];simp
 have hlen:r.length<=60:=by simp at c2;omega
 have f1:G 216 [.sl 1 [],tm a]=some (strs r1,[]):=f1;obtain⟨p1,g1,⟨i1,i2⟩,i3⟩:=jfk a hw hk [] (by simp;omega);obtain⟨p,g2,⟨j1,j2⟩,j3⟩:=jfk b hw' hk' p1 (by simp at i2;omega);have hnd:p.Nodup:=j3 (i3 List.nodup_nil);have hpm:∀n,n∈p↔n∈YO a\/n∈YO b:=λn=>by rw[j1,i1];simp
 have hsort:yL p=r:=jvF _ _ (jBu hnd) hsrt λn=>by rw[hmem,<-hpm];unfold yL;exact List.mem_mergeSort
 have hpl:p.length=r.length:=by rw[<-hsort];simp[yL]
 have g1:Q1 (sv a.name) (jG a.args) []=some (.top,[strs p1]):=g1;have g3:jhX (p.map cs)=some (.top,[strs r]):=by
  rw[jyb];simp only[jmf,jdY];rw[jg (by omega),hsort]
 by_cases h12:r.length<=12;rotate_left
 .have hgt:((12:Nat):Int)<((r.length:Nat):Int):=by omega
  have hle:¬((r.length:Nat):Int)<=12:=by omega
  have hgt:(12:Int)<((r.length:Nat):Int):=by omega
  have hz:¬((r.length:Nat):Int)=0:=by omega
  refine⟨0,?_,?_,λh=>absurd h (by decide)⟩
  .simp only[je,e1,f1,f2,hz,hgt]
  .simp only[je,e2,g1,g2,hpl,hgt]
 have hle:((r.length:Nat):Int)<=12:=by omega
 have hgt:¬(12:Int)<((r.length:Nat):Int):=by omega
 have hrep:=jGB h12;have hci:(ints (List.replicate r.length 1):A) = .sl 1 (List.replicate r.length [vi 1]):=by show A.sl 1 _=_;rw[List.map_replicate]
 have hod:(od (jkc r):A) = .agg [strs r,.sl 1 (List.replicate r.length [vi 1]),vi 1]:=by rw[<-hci];rfl
 by_cases h0:r.length=0
 .have hr:r=[]:=List.length_eq_zero_iff.1 h0;have hz:((r.length:Nat):Int)=0:=by omega
  have va:js a.name=true:=by
   cases hv:js a.name
   .have:=(hmem a.name).2 (Or.inl (by rw[QT,hv];simp))
    rw[hr]at this;cases this
   .rfl
  have vb':js b.name=true:=by
   cases hv:js b.name
   .have:=(hmem b.name).2 (Or.inr (by rw[QT,hv];simp))
    rw[hr]at this;cases this
   .rfl
  have hne:¬a.name=b.name:=λe=>by
   rw[jFQ,e,QV hk va,QV hk' vb',jct]at hd;simp at hd
  have q:=jiH (jkc r) a b hw hw' false false (jqf _ a b hw hw' hk hk' va vb' hne) (jqf _ b a hw' hw hk' hk vb' va (λe=>hne e.symm));rw[hd,hod]at q;refine⟨0,?_,?_,λh=>absurd h (by decide)⟩
  .simp only[je,e1,f1,f2,hz]
  .simp only[je,e2,g1,g2,hpl,hgt,g3,hrep,q,jbw]
 have hsym:∀n∈r,qo n=true:=λn hn=>by
  rcases(hmem n).1 hn with h|h
  .exact jml a hk n h
  .exact jml b hk' n h
 have hval:=jxu (by omega) h12 hsym (jw9 hsrt);have hca:KB (jkc r).syms a=true:=jpF _ a λn hn=>(hmem n).2 (Or.inl hn);have hcb:KB (jkc r).syms b=true:=jpF _ b λn hn=>(hmem n).2 (Or.inr hn);have howf:owf (jkc r):=by
  refine⟨⟨λs hs=>?_,by show r.length<=_;omega⟩,⟨λx hx=>?_,by show(List.replicate r.length (1:Int)).length<=_;rw[Zr];omega⟩,by show I64 1;exact⟨by decide,by decide⟩⟩
  .have:=jBz (hsym s hs);omega
  .have:x=1:=by have:=jmK hx;exact this
   rw[this];exact⟨by decide,by decide⟩
 have q1:=jhi (jkc r) a b howf hw hs hw' hs';have q2:=jg8 hval a b howf hw hs hw' hs' hk hk' hca hcb;have q3:jak (jkc r) a b = .tup [vi (jai (jkc r) a b),vb true]:=by unfold jak good;rw[hval,hva,hvb,hca,hcb];rfl
 rw[q3,hod]at q1;rw[hod]at q2;have q4:=jBv a b r h12 _ _ q1;have hz:¬((r.length:Nat):Int)=0:=by omega
 refine⟨jai (jkc r) a b,?_,?_,λh=>jF5 hval hk hcb ((jDb _ _ _).1 h)⟩
 .simp only[je,e1,f1,f2,hz,hgt,q4]
 .simp only[je,e2,g1,g2,hpl,hgt,g3,hrep,q2]
theorem jpI{ts:Xg}{t:T}(h:t∈ts):YU t<=Qr ts:=by
 induction ts with
 |nil=>cases h
 |cons u us ih=>
  simp only[Qr];rcases jK.1 h with h|h
  .subst h;omega
  .have:=ih h;omega
theorem jmd{t u:T}(h:u∈t.args)(hs:jF t=true):jF u=true:=by
 simp only[jF,jI,ky]at hs⊢;have h1:=ql h;have h2:=jpI h;rw[jO,Zw]at hs;omega
theorem jgv(t:T)(hs:Tz t)(he:¬t.name=[61]):G 112 [tm t]=some (vb (qo t.name && kQ t),[]):=by
 have e1:=Y8 t.name ((kE t).1 hs.wf).1;have e2:=KQ t hs.wf hs;rw[jFW];cases h:qo t.name<;>rw[h]at e1
 .simp only[je,he,e1,Bool.false_and]
 .simp only[je,he,e1,e2,Bool.true_and]
theorem jyK{t:T}(h:jbB t=true):t.args.length=2/\Vs (Kx t)/\Vs (Qw t)/\jF t=true:=by
 have h':=h;unfold jbB at h;rw[jI,jI,jI,ky]at h;obtain⟨h1,h2,h3,h4⟩:=h;obtain⟨_,_,ma,mb⟩:=KM h1;have hn:nodes t<=30:=by simp only[jF,jI,ky]at h2;exact h2.1
 exact⟨h1,⟨h3,by have:=qT ma;show nodes (Yh t)<=30;omega⟩,⟨h4,by have:=qT mb;show nodes (Qp t)<=30;omega⟩,h2⟩
theorem jDM(t:T)(hs:Tz t):∃b:Bool,G 218 [tm t]=some (vb b,[])/\G 203 [tm t]=some (vb b,[])/\(b=true->t.name=[61]/\jbB t=true/\js (Kx t).name=false):=by
 have hw:=hs.wf;obtain⟨w1,w2,w3⟩:=(kE t).1 hw;have w3:=(ke _).1 w3;have q0:=qj t;by_cases he:t.name=[61];rotate_left
 .have e1:=jgv t hs he;rw[decide_eq_false he]at q0;refine⟨false,?_,?_,λh=>by cases h⟩
  .rw [jHU];cases h1:(qo t.name && kQ t)<;>rw[h1]at e1<;>simp only[je,he,e1]
  .rw [jHT];simp only[je,q0]
 .have e1:=jdC t hw hs he;have e2:=jaQ t hw hs he;rw[decide_eq_true he]at q0;have het:(t.name=[61])=True:=eq_true he;rw[jHU,jHT];cases h:jbB t<;>rw[h]at e1 e2
  .exact ⟨false,by simp only[je,e1],by simp only[je,q0,e2],λh=>by cases h⟩
  .obtain ⟨h1,v1,v2,hsm⟩:=jyK h;obtain⟨i0,i1,ma,mb⟩:=KM h1;have va:kQ (Yh t)=true:=by unfold kQ;rw[jmd ma hsm];exact v1.1
   have vb':kQ (Qp t)=true:=by unfold kQ;rw[jmd mb hsm];exact v2.1
   obtain⟨x,o1,o2,o3⟩:=jqV (Yh t) (Qp t) (w3 _ ma) (w3 _ mb) v1.tz v2.tz va vb';refine⟨decide (x=2),?_,?_,λhx=>⟨he,rfl,o3 (of_decide_eq_true hx)⟩⟩
   .simp only[je,e1,het,i0,i1,jd,o1]
   .simp only[je,q0,e2,i0,i1,jd,o2]
theorem jrw(rs:Xg)(hl:rs.length<=1048576)(hs:∀r∈rs,Tz r):∃b:Bool,G 181 [jG rs]=some (vb b,[])/\G 161 [jG rs]=some (vb b,[])/\(b=true->RS rs/\ ∀r∈rs,r.name=[61]/\jbB r=true/\js (Kx r).name=false):=by
 obtain⟨p,hp⟩:=Classical.axiomOfChoice (r:=λ(t:T)(b:Bool)=>Tz t->G 218 [tm t]=some (vb b,[])/\G 203 [tm t]=some (vb b,[])/\(b=true->t.name=[61]/\jbB t=true/\js (Kx t).name=false)) λt=>by
  by_cases h:Tz t
  .obtain ⟨b,hb⟩:=jDM t h;exact⟨b,λ_=>hb⟩
  .exact ⟨false,λh'=>absurd h' h⟩
 have hp:∀r∈rs,G 218 [tm r]=some (vb (p r),[])/\G 203 [tm r]=some (vb (p r),[])/\(p r=true->r.name=[61]/\jbB r=true/\js (Kx r).name=false):=λr hr=>hp r (hs r hr);refine⟨decide (rs.length<=10) && rs.all p,?_,?_,λh=>?_⟩
 .have key:=upto (P:=λi=>jm3 (jG rs) (vi i)=some (vb (decide (rs.length<=10) && (rs.drop i).all p),[])) (n:=rs.length) ?_ ?_ 0 (Nat.zero_le _)
  .rw [jKj];exact key
  .rw [jzv,List.drop_length];have e:decide (((rs.length:Nat):Int)<=10)=decide (rs.length<=10):=by
    by_cases h:rs.length<=10
    .rw [decide_eq_true h,decide_eq_true (by omega)]
    .rw [decide_eq_false h,decide_eq_false (by omega)]
   simp only[je,e]
  .intro i hi ih;have hlt:(i:Int)<((rs.length:Nat):Int):=by omega
   have h5:=jo hi (by show rs.length<=9223372036854775807;omega)
   obtain⟨e1,_,_⟩:=hp rs[i] (jr _);rw[jzv,ji hi,zR];cases h:p rs[i]<;>rw[h]at e1
   .simp only[je,hlt,ja hi,jd,e1,Bool.false_and,Bool.and_false]
   .simp only[je,hlt,ja hi,jd,e1,h5,ih,Bool.true_and]
 .have e1:=jby (f:=202) (caps:=[]) rfl (λr=> !p r) rs (by show rs.length<=9223372036854775807;omega) λr hr=>by
   obtain⟨_,e2,_⟩:=hp r hr;rw[jKy];simp only[je,e2]
  rw[jgw]at e1;rw[jJ3];by_cases h:rs.length<=10
  .have h':((rs.length:Nat):Int)<=10:=by omega
   simp only[je,h,h',e1,Bool.true_and,Bool.not_not]
  .have h':¬((rs.length:Nat):Int)<=10:=by omega
   simp only[je,h,h',Bool.false_and]
 .rw [jI,ky,yx]at h;refine⟨⟨h.1,λr hr=>?_⟩,λr hr=>(hp r hr).2.2 (h.2 r hr)⟩;obtain⟨_,h2,_⟩:=(hp r hr).2.2 (h.2 r hr);obtain⟨q1,q2,q3,_⟩:=jyK h2;exact⟨q1,q2,q3⟩
theorem jtu{rs:Xg}(hr:RS rs):∀(t:T)(root:Bool){u:T},EX root t->Yt rs root t=some u->nodes u<=nodes t+900:=by
 refine T.ind (p:=λt=>∀(root:Bool){u:T},EX root t->Yt rs root t=some u->nodes u<=nodes t+900) λt ih=>?_;intro root u h ho;have hL:∀(us:Xg){us':Xg},(∀u∈us,∀u',Yt rs true u=some u'->nodes u'<=nodes u+900)->Ky rs us=some us'->ju us'<=ju us+900:=by
  intro us;induction us with
  |nil=>intro us' _ h;simp[Ky]at h
  |cons v vs ih2=>
   intro us' hv h;rw[Ky]at h;split at h
   .rename_i v' hv';cases h;have:=hv v (by simp) _ hv';simp only[ju];omega
   .rw [Jh]at h;obtain⟨r,h3,rfl⟩:=h;have:=ih2 (λw hw=>hv w (by simp[hw])) h3;simp only[ju];omega
 rw[jay]at ho;split at ho
 .rename_i us hus;cases ho;have:=hL t.args (λv hv u' hu'=>by
   have hw:=h.2.1 v hv;exact ih v hv true ⟨⟨by have:=hw.2;omega,hw.tz⟩,hw.args,λ_=>hw⟩ hu') hus
  rw[jO t];show 1+ju us<=_;omega
 .cases root with
  |false=>cases ho
  |true=>
   have:=(jBd hr (h.2.2 rfl) ho).2;omega
def EX'(root:Bool)(t:T):Prop:=EX root t/\(root=false->t.name=[61]/\t.args.length=2)
theorem jvn{us:Xg}(h:∀u∈us,zy u=true):ZG us<=10*ju us:=by
 induction us with
 |nil=>simp[ZG]
 |cons u us ih=>
  have:=jf8 u (h u (by simp));have:=ih λw hw=>h w (by simp[hw]);simp only[ZG,ju];omega
theorem jvp{t:T}(h:zy t=true):¬t.name=[61]:=λe=>by
 rw[yA,e]at h;exact absurd h (by
  rw[show js [61]=false from by decide,jh Bool.false_ne_true,show qo [61]=false from by decide];simp)
theorem jnL{t:T}(ht:Tz t)(h:zy t=true\/(t.name=[61]/\t.args.length=2/\ ∀u∈t.args,zy u=true)):G 250 [tm t]=some (vb (jF t),[]):=by
 have e2:=KQ t ht.wf ht;rw[jK9];rcases h with h|⟨h1,h2,h3⟩
 .have hv:kQ t=jF t:=by unfold kQ;rw[h,Bool.and_true]
  rw[hv]at e2;have e1:=jgv t ht (jvp h);rw[hv]at e1;cases hs:jF t<;>rw[hs]at e1 e2
  .rw [Bool.and_false]at e1;simp only[je,e1,e2]
  .simp only[je,e2]
 .have hk:zy t=false:=by
   cases hk:zy t with
   |false=>rfl
   |true=>exact absurd h1 (jvp hk)
  have hv:kQ t=false:=by unfold kQ;rw[hk,Bool.and_false]
  rw[hv]at e2;have e1:=jdC t ht.wf ht h1;obtain⟨_,_,ma,mb⟩:=KM h2;have he:jbB t=jF t:=by unfold jbB;rw[decide_eq_true h2,h3 _ ma,h3 _ mb];simp
  rw[he]at e1;simp only[je,e1,e2]
def jqW(o:Option (T×Nat)):Xe:=match o with|some r=>some (.tup [tm r.1,vi (r.2:Nat),vb true],[])|none=>some (.tup [.agg [sv [],.sl 2 []],vi 0,vb false],[])
structure Law3{α:Type}(c:α->α->Int):Prop where
 zero:∀a b,c a b=0↔a=b
 flip:∀a b,c b a = -(c a b)
 trans:∀a b d,c a b<0->c b d<0->c a d<0
section
variable{α:Type}{c:α->α->Int}
def Asc(c:α->α->Int)(l:List α):Prop:=l.Pairwise λa b=>c a b<0
theorem jnO(h:Law3 c):∀{l m:List α},Asc c l->Asc c m->(∀x,x∈l↔x∈m)->l=m
 | [],[],_,_,_=>rfl
 | [],b::m,_,_,hx=>absurd ((hx b).2 (by simp)) (by simp)
 |a::l,[],_,_,hx=>absurd ((hx a).1 (by simp)) (by simp)
 |a::l,b::m,h1,h2,hx=>by
  obtain⟨g1,g2⟩:=List.pairwise_cons.1 h1;obtain⟨k1,k2⟩:=List.pairwise_cons.1 h2;have hab:a=b:=by
   rcases jK.1 ((hx a).1 (by simp))with e|e
   .exact e
   rcases jK.1 ((hx b).2 (by simp))with e'|e'
   .exact e'.symm
   .have q1:=k1 a e;have q2:=g1 b e';have q3:=h.flip a b;omega
  subst hab;have:l=m:=jnO h g2 k2 λx=>by
   constructor
   .intro hxl;rcases jK.1 ((hx x).1 (by simp[hxl]))with e|e
    .have:=g1 x hxl;rw[e,(h.zero a a).2 rfl]at this;omega
    .exact e
   .intro hxm;rcases jK.1 ((hx x).2 (by simp[hxm]))with e|e
    .have:=k1 x hxm;rw[e,(h.zero a a).2 rfl]at this;omega
    .exact e
  rw[this]
def jeB(eq:α->α->Bool):List α->List α
 | []=>[]
 |a::l=>(match jeB eq l with| []=>[a]|b::m=>if eq a b then b::m else a::b::m)
theorem jlh(h:Law3 c){eq:α->α->Bool}(he:∀a b,eq a b=true↔a=b):∀{l:List α},l.Pairwise (λa b=>¬c b a<0)->Asc c (jeB eq l)/\ ∀x,x∈jeB eq l↔x∈l
 | [],_=>⟨List.Pairwise.nil,λx=>Iff.rfl⟩
 |a::l,hp=>by
  obtain⟨g1,g2⟩:=List.pairwise_cons.1 hp;obtain⟨k1,k2⟩:=jlh h he g2;rw[jeB];cases hc:jeB eq l with
  |nil=>
   rw[hc]at k2;refine⟨by unfold Asc;simp,λx=>?_⟩;show x ∈ [a]↔_;constructor
   .intro hx;simp only[zx]at hx;simp[hx]
   .intro hx;rcases jK.1 hx with e|e
    .simp [e]
    .exact absurd ((k2 x).2 e) (by simp)
  |cons b m=>
   rw[hc]at k1 k2;have hbl:b∈l:=(k2 b).1 (by simp);by_cases hab:a=b
   .show Asc c (if eq a b then b::m else a::b::m)/\_;have he':=(he a b).2 hab;have e2:(if eq a b then b::m else a::b::m)=b::m:=jg he';refine⟨by rw[e2];exact k1,λx=>?_⟩;show x∈(if eq a b then b::m else a::b::m)↔_;rw[e2,k2,jK];constructor
    .exact Or.inr
    .rintro (e|e)
     .rw [e,hab];exact hbl
     .exact e
   .have he':¬eq a b=true:=λe=>hab ((he a b).1 e);have e2:(if eq a b then b::m else a::b::m)=a::b::m:=jh he';have hlt:c a b<0:=by
     have q1:=g1 b hbl;have q2:=h.flip a b;have q3:c a b≠0:=λe=>hab ((h.zero a b).1 e);omega
    refine⟨?_,λx=>?_⟩
    .show Asc c (if eq a b then b::m else a::b::m);rw[e2];refine List.pairwise_cons.2 ⟨λx hx=>?_,k1⟩;rcases jK.1 hx with e|e
     .rw [e];exact hlt
     .exact h.trans a b x hlt ((List.pairwise_cons.1 k1).1 x e)
    .show x∈(if eq a b then b::m else a::b::m)↔_;rw[e2,jK,k2,jK]
theorem jdj{p:α->Bool} :∀{l:List α}{a:α},a∈l.takeWhile p->p a=true
 |x::l,a,h=>by
  by_cases hx:p x=true
  .rw [List.takeWhile_cons_of_pos hx]at h;rcases jK.1 h with e|e
   .rw [e];exact hx
   .exact jdj e
  .rw [List.takeWhile_cons_of_neg hx]at h;cases h
def ja6(c:α->α->Int)(l:List α)(x:α):List α:=if(l.dropWhile λa=>decide (c a x<0)).head?.any (λb=>decide (c b x=0))then l else l.takeWhile (λa=>decide (c a x<0))++x::l.dropWhile λa=>decide (c a x<0)
theorem jiW(h:Law3 c){l:List α}(hl:Asc c l)(x:α):Asc c (ja6 c l x)/\ ∀y,y∈ja6 c l x↔y∈l\/y=x:=by
 have e:=List.takeWhile_append_dropWhile (p:=λa=>decide (c a x<0)) (l:=l);have ht:∀a∈l.takeWhile (λa=>decide (c a x<0)),c a x<0:=λa ha=>of_decide_eq_true (jdj (p:=λa=>decide (c a x<0)) ha);unfold ja6;generalize l.takeWhile (λa=>decide (c a x<0))=t at *;cases hd:l.dropWhile (λa=>decide (c a x<0))with
 |nil=>
  rw[hd,zm]at e;subst e;rw[jh (by simp)];refine⟨?_,λy=>by simp⟩;refine List.pairwise_append.2 ⟨hl,by simp,λa ha b hb=>?_⟩;simp only[zx]at hb;rw[hb];exact ht a ha
 |cons b m=>
  have hb:¬c b x<0:=by
   intro hb;have:=List.head?_dropWhile_not (p:=λa=>decide (c a x<0)) l;rw[hd]at this;simp[hb]at this
  rw[hd]at e;by_cases h0:c b x=0
  .rw [jg (by simp[h0])];refine⟨hl,λy=>⟨Or.inl,λhy=>?_⟩⟩;rcases hy with hy|hy
   .exact hy
   .rw [hy,<-(h.zero b x).1 h0,<-e];simp
  .rw [jh (by simp[h0])];rw[<-e]at hl;obtain⟨p1,p2,p3⟩:=List.pairwise_append.1 hl;have hxb:c x b<0:=by have:=h.flip b x;omega
   refine⟨List.pairwise_append.2 ⟨p1,List.pairwise_cons.2 ⟨λy hy=>?_,p2⟩,λa ha y hy=>?_⟩,λy=>?_⟩
   .rcases jK.1 hy with e'|e'
    .rw [e'];exact hxb
    .exact h.trans x b y hxb ((List.pairwise_cons.1 p2).1 y e')
   .rcases jK.1 hy with e'|e'
    .rw [e'];exact ht a ha
    .exact p3 a ha y e'
   .rw [<-e];simp only[kW,jK];constructor
    .rintro (h|h|h|h)
     .exact Or.inl (Or.inl h)
     .exact Or.inr h
     .exact Or.inl (Or.inr (Or.inl h))
     .exact Or.inl (Or.inr (Or.inr h))
    .rintro ((h|h|h)|h)
     .exact Or.inl h
     .exact Or.inr (Or.inr (Or.inl h))
     .exact Or.inr (Or.inr (Or.inr h))
     .exact Or.inr (Or.inl h)
def yR(c:α->α->Int)(l:List α):List α:=l.foldl (ja6 c) []
theorem jcx(h:Law3 c)(l:List α):Asc c (yR c l)/\ ∀y,y∈yR c l↔y∈l:=by
 have key:∀(l m:List α),Asc c m->Asc c (l.foldl (ja6 c) m)/\ ∀y,y∈l.foldl (ja6 c) m↔y∈m\/y∈l:=by
  intro l;induction l with
  |nil=>intro m hm;exact⟨hm,λy=>by simp⟩
  |cons x l ih=>
   intro m hm;obtain⟨g1,g2⟩:=jiW h hm x;obtain⟨k1,k2⟩:=ih _ g1;refine⟨k1,λy=>?_⟩;rw[List.foldl_cons,k2,g2,jK,or_assoc]
 obtain⟨g1,g2⟩:=key l [] List.Pairwise.nil;exact⟨g1,λy=>by rw[yR,g2];simp⟩
theorem jDh(h:Law3 c){eq:α->α->Bool}(he:∀a b,eq a b=true↔a=b){l s:List α}(hs:s.Pairwise λa b=>¬c b a<0)(hm:∀x,x∈s↔x∈l):jeB eq s=yR c l:=by
 obtain⟨g1,g2⟩:=jlh h he hs;obtain⟨k1,k2⟩:=jcx h l;exact jnO h g1 k1 λx=>by rw[g2,k2,hm]
end
theorem jGg{α β γ:Type}{f:γ->α}{g:γ->β}{c:α->α->Int}{d:β->β->Int}(hc:Law3 c)(hd:Law3 d)(hi:∀x y,f x=f y->g x=g y->x=y):Law3 λx y:γ=>if c (f x) (f y)≠0 then c (f x) (f y)else d (g x) (g y):=by
 refine⟨λa b=>?_,λa b=>?_,λa b e=>?_⟩
 .show (if c (f a) (f b)≠0 then c (f a) (f b)else d (g a) (g b))=0↔_;by_cases h:c (f a) (f b)=0
  .rw [jh (λh'=>h' h),hd.zero];exact⟨λh2=>hi a b ((hc.zero _ _).1 h) h2,λh2=>by rw[h2]⟩
  .rw [jg h];exact⟨λh2=>absurd h2 h,λh2=>by rw[h2]at h;exact absurd ((hc.zero _ _).2 rfl) h⟩
 .show (if c (f b) (f a)≠0 then c (f b) (f a)else d (g b) (g a)) = -(if c (f a) (f b)≠0 then c (f a) (f b)else d (g a) (g b));rw[hc.flip (f a) (f b),hd.flip (g a) (g b)];by_cases h:c (f a) (f b)=0
  .rw [jh (by omega),jh (by omega)]
  .rw [jg (by omega),jg (by omega)]
 .show (if c (f a) (f b)≠0 then c (f a) (f b)else d (g a) (g b))<0->(if c (f b) (f e)≠0 then c (f b) (f e)else d (g b) (g e))<0->(if c (f a) (f e)≠0 then c (f a) (f e)else d (g a) (g e))<0;by_cases h1:c (f a) (f b)=0
  .have e1:=(hc.zero _ _).1 h1;rw[jh (λh'=>h' h1),e1];by_cases h2:c (f b) (f e)=0
   .rw [jh (λh'=>h' h2),jh (λh'=>h' h2)];exact hd.trans _ _ _
   .rw [jg h2,jg h2];exact λ_ h=>h
  .rw [jg h1];by_cases h2:c (f b) (f e)=0
   .have e2:=(hc.zero _ _).1 h2;rw[jh (λh'=>h' h2),<-e2,jg h1];exact λh _=>h
   .rw [jg h2];intro h3 h4;have:=hc.trans _ _ _ h3 h4;rw[jg (by omega)];exact this
def zs(x y:Xb):Int:=if yK x y then -1 else if x=y then 0 else 1
theorem K9:Law3 zs:=by
 have irr:=jaI;have asy:∀x y,yK x y=true->yK y x=true->False:=λx y h1 h2=>by
  rw[YJ,ky]at h1 h2;exact absurd (List.lt_trans h1 h2) (List.lt_irrefl _)
 have tot:∀x y,x=y\/yK x y=true\/yK y x=true:=λx y=>by
  rw[YJ,YJ,ky,ky];rcases Classical.em (x<y)with h|h
  .exact Or.inr (Or.inl h)
  rcases Classical.em (y<x)with h'|h'
  .exact Or.inr (Or.inr h')
  .exact Or.inl (List.le_antisymm (List.not_lt.1 h') (List.not_lt.1 h))
 have tr:∀x y z,yK x y=true->yK y z=true->yK x z=true:=λx y z h1 h2=>by
  rw[YJ,ky]at *;exact List.lt_trans h1 h2
 have neg:∀x y,zs x y<0↔yK x y=true:=λx y=>by
  unfold zs;cases h:yK x y with
  |true=>simp
  |false=>
   rw[jh Bool.false_ne_true];split<;>simp
 refine⟨λa b=>?_,λa b=>?_,λa b d h1 h2=>(neg _ _).2 (tr _ _ _ ((neg _ _).1 h1) ((neg _ _).1 h2))⟩
 .unfold zs;cases h:yK a b with
  |true=>rw[jg rfl];exact⟨λh'=>by omega,λe=>by rw[e,irr]at h;cases h⟩
  |false=>
   rw[jh Bool.false_ne_true];by_cases e:a=b
   .rw [jg e];exact⟨λ_=>e,λ_=>rfl⟩
   .rw [jh e];exact⟨λh'=>by omega,λh'=>absurd h' e⟩
 .unfold zs;rcases tot a b with e|e|e
  .subst e;rw[irr,jh Bool.false_ne_true,jg rfl];rfl
  .have h2:yK b a=false:=by
    cases h:yK b a with
    |false=>rfl
    |true=>exact(asy _ _ e h).elim
   have hne:¬b=a:=λh=>by rw[h,irr]at e;cases e
   rw[e,h2,jh Bool.false_ne_true,jh hne,jg rfl];rfl
  .have h2:yK a b=false:=by
    cases h:yK a b with
    |false=>rfl
    |true=>exact(asy _ _ e h).elim
   have hne:¬a=b:=λh=>by rw[h,irr]at e;cases e
   rw[e,h2,jh Bool.false_ne_true,jh hne,jg rfl]
def zt(x y:Nat):Int:=if x<y then -1 else if y<x then 1 else 0
theorem jbv:Law3 zt:=by
 refine⟨λa b=>?_,λa b=>?_,λa b d=>?_⟩<;>unfold zt
 .split
  .omega
  .split<;>omega
 .split<;>split<;>(try split)<;>omega
 .intro h1 h2;by_cases h:a<b
  .by_cases h3:b<d
   .rw [jg (by omega)];omega
   .rw [jh h3]at h2;split at h2<;>omega
  .rw [jh h]at h1;split at h1<;>omega
def vF(n:Xb):Nat:=if js n then 0 else 1
abbrev Key:=Nat×(Xb×Nat)
def cK(x y:Key):Int:=if zt x.1 y.1≠0 then zt x.1 y.1 else if zs x.2.1 y.2.1≠0 then zs x.2.1 y.2.1 else zt x.2.2 y.2.2
theorem jag:Law3 cK:=by
 have h2:Law3 λx y:Xb×Nat=>if zs x.1 y.1≠0 then zs x.1 y.1 else zt x.2 y.2:=jGg (f:=Prod.fst) (g:=Prod.snd) K9 jbv λx y h1 h2=>Prod.ext h1 h2;exact jGg (f:=Prod.fst) (g:=Prod.snd) jbv h2 λx y h1 h2=>Prod.ext h1 h2
def qv(t:T):Key:=(vF t.name,(t.name,t.args.length))
mutual
def y5(a b:T):Int:=
 match a with
 |.mk n us=>if cK (qv (.mk n us)) (qv b)≠0 then cK (qv (.mk n us)) (qv b)else yk us b.args
termination_by structural a
def yk(xs bs:Xg):Int:=
 match xs with
 | []=>0
 |a::xs=>(match bs with| []=>0|b::bs=>if y5 a b≠0 then y5 a b else yk xs bs)
termination_by structural xs
end
theorem Y0(a b:T):y5 a b=if cK (qv a) (qv b)≠0 then cK (qv a) (qv b)else yk a.args b.args:=by cases a;rfl
theorem ji6{a b:T}(h:qv a=qv b):a.name=b.name/\a.args.length=b.args.length:=by
 unfold qv at h;simp only[Jd]at h;exact h.2
theorem jG3{a b:T}(h1:a.name=b.name)(h2:a.args=b.args):a=b:=by
 cases a;cases b;simp only[T.name,T.args]at h1 h2;rw[h1,h2]
theorem jE6:∀{xs bs:Xg},(∀u∈xs,∀v,y5 u v=0↔u=v)->xs.length=bs.length->(yk xs bs=0↔xs=bs)
 | [],[],_,_=>by simp[yk]
 | [],_::_,_,h=>by cases h
 |_::_,[],_,h=>by cases h
 |a::xs,b::bs,h,hl=>by
  rw[yk];have ih:=jE6 (xs:=xs) (bs:=bs) (λu hu=>h u (by simp[hu])) (Nat.succ.inj hl);by_cases h0:y5 a b=0
  .rw [jh (λh'=>h' h0),ih,(h a (by simp) b).1 h0];simp
  .rw [jg h0];exact⟨λh'=>absurd h' h0,λe=>by rw[KH]at e;exact(h a (by simp) b).2 e.1⟩
theorem jEu:∀{xs bs:Xg},(∀u∈xs,∀v,y5 v u = -(y5 u v))->xs.length=bs.length->yk bs xs = -(yk xs bs)
 | [],[],_,_=>by simp[yk]
 | [],_::_,_,h=>by cases h
 |_::_,[],_,h=>by cases h
 |a::xs,b::bs,h,hl=>by
  rw[yk,yk,h a (by simp) b,jEu (xs:=xs) (bs:=bs) (λu hu=>h u (by simp[hu])) (Nat.succ.inj hl)];by_cases h0:y5 a b=0
  .rw [jh (by omega),jh (by omega)]
  .rw [jg (by omega),jg (by omega)]
theorem jBJ(z:∀u v:T,y5 u v=0↔u=v):∀{xs bs ds:Xg},(∀u∈xs,∀v w,y5 u v<0->y5 v w<0->y5 u w<0)->xs.length=bs.length->bs.length=ds.length->yk xs bs<0->yk bs ds<0->yk xs ds<0
 | [],_,_,_,_,_,h1,_=>by simp[yk]at h1
 |a::xs,[],_,_,h,_,_,_=>by cases h
 |a::xs,b::bs,[],_,_,h,_,_=>by cases h
 |a::xs,b::bs,d::ds,h,hl,hl2,h1,h2=>by
  rw[yk]at h1 h2⊢;by_cases c1:y5 a b=0
  .have e1:=(z a b).1 c1;rw[jh (λh'=>h' c1)]at h1;rw[e1];by_cases c2:y5 b d=0
   .rw [jh (λh'=>h' c2)]at h2;rw[jh (λh'=>h' c2)];exact jBJ z (λu hu=>h u (by simp[hu])) (Nat.succ.inj hl) (Nat.succ.inj hl2) h1 h2
   .rw [jg c2]at h2;rw[jg c2];exact h2
  .rw [jg c1]at h1;by_cases c2:y5 b d=0
   .rw [<-(z b d).1 c2,jg c1];exact h1
   .rw [jg c2]at h2;have:=h a (by simp) b d h1 h2;rw[jg (by omega)];exact this
theorem jyl:Law3 y5:=by
 have z:∀a b:T,y5 a b=0↔a=b:=by
  refine T.ind λa ih b=>?_;rw[Y0];by_cases h:cK (qv a) (qv b)=0
  .have hk:=(jag.zero _ _).1 h;obtain⟨h1,h2⟩:=ji6 hk;rw[jh (λh'=>h' h),jE6 ih h2];exact⟨λe=>jG3 h1 e,λe=>by rw[e]⟩
  .rw [jg h];exact⟨λh'=>absurd h' h,λe=>by rw[e]at h;exact absurd ((jag.zero _ _).2 rfl) h⟩
 refine⟨z,?_,?_⟩
 .refine T.ind λa ih b=>?_;rw[Y0,Y0 a b,jag.flip (qv a) (qv b)];by_cases h:cK (qv a) (qv b)=0
  .obtain ⟨_,h2⟩:=ji6 ((jag.zero _ _).1 h);rw[jh (by omega),jh (by omega),jEu ih h2]
  .rw [jg (by omega),jg (by omega)]
 .refine T.ind λa ih b d h1 h2=>?_;rw[Y0]at h1 h2⊢;by_cases c1:cK (qv a) (qv b)=0
  .have e1:=(jag.zero _ _).1 c1;rw[jh (λh'=>h' c1)]at h1;rw[e1];by_cases c2:cK (qv b) (qv d)=0
   .have e2:=(jag.zero _ _).1 c2;rw[jh (λh'=>h' c2)]at h2;rw[jh (λh'=>h' c2)];exact jBJ z ih (ji6 e1).2 (ji6 e2).2 h1 h2
   .rw [jg c2]at h2;rw[jg c2];exact h2
  .rw [jg c1]at h1;by_cases c2:cK (qv b) (qv d)=0
   .rw [<-(jag.zero _ _).1 c2,jg c1];exact h1
   .rw [jg c2]at h2;have:=jag.trans _ _ _ h1 h2;rw[jg (by omega)];exact this
def upN:Xb->Bool
 | []=>false
 |c::_=>upc c
mutual
def val(M:Xb->Xi->Int)(e:Xb->Int):T->Int
 |.mk n us=>if us.isEmpty && upN n then e n else M n (jEb M e us)
def jEb(M:Xb->Xi->Int)(e:Xb->Int):Xg->Xi
 | []=>[]
 |t::ts=>val M e t::jEb M e ts
end
theorem jr4(M:Xb->Xi->Int)(e:Xb->Int):∀ts:Xg,jEb M e ts=ts.map (val M e)
 | []=>rfl
 |t::ts=>by rw[jEb,jr4 M e ts,kK]
theorem jaN(M:Xb->Xi->Int)(e:Xb->Int)(t:T):val M e t=if t.args.isEmpty && upN t.name then e t.name else M t.name (t.args.map (val M e)):=by
 obtain⟨n,us⟩:=t;rw[val,jr4];rfl
theorem jo1{n:Xb}(h:js n=true):upN n=true:=by
 cases n with
 |nil=>cases h
 |cons c r=>simp only[js,jI]at h;exact h.1
theorem jfr{n:Xb}(h:qo n=true):upN n=false:=by
 cases n with
 |nil=>rfl
 |cons c r=>
  simp only[qo,jI]at h;have h:=h.1;show upc c=false;cases hu:upc c with
  |false=>rfl
  |true=>
   simp only[upc,jcU,y8,jI,ky]at h hu;omega
theorem jjB{t:T}(h:zy t=true)(hv:js t.name=false):qo t.name=true:=by
 rw[yA,hv,jh Bool.false_ne_true,jI]at h;exact h.1
section
variable{M:Xb->Xi->Int}
theorem jcO{e:Xb->Int}{t:T}(h:zy t=true)(hv:js t.name=true):val M e t=e t.name:=by
 rw[jaN,qP h hv,jo1 hv];rfl
theorem Qg{e:Xb->Int}{t:T}(h:upN t.name=false):val M e t=M t.name (t.args.map (val M e)):=by
 rw[jaN,h,Bool.and_false,jh Bool.false_ne_true]
theorem jfs(u:jw)(e:Xb->Int):∀t:T,zy t=true->val M e (sub u t)=val M (λx=>val M e (qY u x)) t:=by
 refine T.ind λt ih=>?_;intro ht;cases hv:js t.name with
 |true=>rw[jcO ht hv,Jc hv]
 |false=>
  have hs:=jfr (jjB ht hv);rw[Qg hs,qh hv,Qg (t:= .mk t.name (t.args.map (sub u))) hs];show M t.name ((t.args.map (sub u)).map (val M e))=_;rw[YT];congr 1;exact List.map_congr_left λa ha=>ih a ha (kO ht a ha)
theorem jxr{e e':Xb->Int} :∀t:T,zy t=true->(∀x∈kL t,e x=e' x)->val M e t=val M e' t:=by
 refine T.ind λt ih=>?_;intro ht h;rw[Zm]at h;cases hv:js t.name with
 |true=>
  rw[jcO ht hv,jcO ht hv];rw[hv,jg rfl]at h;exact h _ (by simp)
 |false=>
  have hs:=jfr (jjB ht hv);rw[Qg hs,Qg hs];rw[hv,jh Bool.false_ne_true]at h;congr 1;refine List.map_congr_left λa ha=>ih a ha (kO ht a ha) λx hx=>h x ?_;have:∀us:Xg,a∈us->x∈z7 us:=by
   intro us;induction us with
   |nil=>intro h;cases h
   |cons v vs ih=>
    intro h;rw[z7];rcases jK.1 h with rfl|h
    .exact ZO _ hx
    .exact YS _ (ih h)
  exact this _ ha
def Ext(m m':jw):Prop:=∀x r,look m x=some r->look m' x=some r
theorem Ext.refl(m:jw):Ext m m:=λ_ _ h=>h
theorem Ext.trans{a b c:jw}(h:Ext a b)(h':Ext b c):Ext a c:=λx r hx=>h' x r (h x r hx)
theorem jGi:∀(a:T){m m':jw}{t:T},zy a=true->mt m a t=some m'->Ext m m'/\ ∀m'',Ext m' m''->sub m'' a=t:=by
 refine T.ind (p:=λa=>∀{m m':jw}{t:T},zy a=true->mt m a t=some m'->Ext m m'/\ ∀m'',Ext m' m''->sub m'' a=t) λa ih=>?_;intro m m' t ha h;cases hv:js a.name with
 |true=>
  rw[jdJ hv]at h;split at h
  .rename_i r hl;split at h
   .rename_i hd;cases h;refine⟨Ext.refl _,λm'' h=>?_⟩;rw[Jc hv,qY,h _ _ hl];exact y7.1 hd
   .cases h
  .rename_i hl;cases h;refine⟨λx r hx=>by rw[jbP,hx],λm'' h=>?_⟩;have:look (m++[(a.name,t)]) a.name=some t:=by rw[jbP,hl];simp[look]
   rw[Jc hv,qY,h _ _ this];rfl
 |false=>
  rw[jdI hv]at h;split at h
  .rename_i hn;have key:∀(us:Xg)(ts:Xg){m m':jw},(∀u∈us,u∈a.args)->us.length=ts.length->QM m us ts=some m'->Ext m m'/\ ∀m'',Ext m' m''->us.map (sub m'')=ts:=by
    intro us;induction us with
    |nil=>
     intro ts m m' _ hl h;simp only[QM,zI]at h;cases ts with
     |nil=>exact h ▸ ⟨Ext.refl _,λ_ _=>rfl⟩
     |cons=>cases hl
    |cons u us ih2=>
     intro ts m m' hu hl h;cases ts with
     |nil=>cases hl
     |cons s ts=>
      simp only[QM]at h;obtain⟨m1,h1,h2⟩:=yG.1 h;obtain⟨x1,x2⟩:=ih u (hu u (by simp)) (kO ha u (hu u (by simp))) h1;obtain⟨y1,y2⟩:=ih2 ts (λv hv=>hu v (by simp[hv])) (Nat.succ.inj hl) h2;exact⟨x1.trans y1,λm'' h=>by rw[kK,x2 m'' (y1.trans h),y2 m'' h]⟩
   obtain⟨x1,x2⟩:=key a.args t.args (λ_ h=>h) hn.2 h;refine⟨x1,λm'' h=>?_⟩;rw[qh hv,x2 m'' h,hn.1];cases t;rfl
  .cases h
variable{good:Int->Prop}
theorem jr5(hM:∀n vs,good (M n vs)){e:Xb->Int}(he:∀x,good (e x))(t:T):good (val M e t):=by
 rw[jaN];split
 .exact he _
 .exact hM _ _
def jph(M:Xb->Xi->Int)(good:Int->Prop)(rs:Xg):Prop:=∀r∈rs,∀e:Xb->Int,(∀x,good (e x))->val M e (Kx r)=val M e (Qw r)
theorem jl2(hM:∀n vs,good (M n vs)){e:Xb->Int}(he:∀x,good (e x)){t:T} :∀{rs:Xg}{u:T},Q9 rs->jph M good rs->Jb rs t=some u->val M e u=val M e t
 |r::rs,u,hr,hh,h=>by
  rw[Jb]at h;split at h
  .rename_i m hm;cases h;obtain⟨r1,r2⟩:=hr r (by simp);obtain⟨_,x2⟩:=jGi _ r1 hm;have:=x2 m (Ext.refl m);rw[<-this,jfs m e _ r1,jfs m e _ r2];exact(hh r (by simp) _ λx=>jr5 hM he _).symm
  .exact jl2 hM he (λq hq=>hr q (by simp[hq])) (λq hq=>hh q (by simp[hq])) h
theorem jf9{rs:Xg}{e:Xb->Int} :∀{us us':Xg},(∀u∈us,∀u',Yt rs true u=some u'->val M e u'=val M e u)->Ky rs us=some us'->us'.map (val M e)=us.map (val M e)/\us'.length=us.length
 |t::ts,us',hk,h=>by
  rw[Ky]at h;split at h
  .rename_i t' ht;cases h;rw[kK,kK,hk t (by simp) _ ht];exact⟨rfl,by simp⟩
  .rw [Jh]at h;obtain⟨r,h3,rfl⟩:=h;obtain⟨g1,g2⟩:=jf9 (λu hu=>hk u (by simp[hu])) h3;rw[kK,kK,g1];exact⟨rfl,by simp[g2]⟩
theorem jAG(hM:∀n vs,good (M n vs)){e:Xb->Int}(he:∀x,good (e x)){rs:Xg}(hr:Q9 rs)(hh:jph M good rs):∀(t:T){u:T},zy t=true->Yt rs true t=some u->val M e u=val M e t:=by
 refine T.ind (p:=λt=>∀{u:T},zy t=true->Yt rs true t=some u->val M e u=val M e t) λt ih=>?_;intro u ht h;rw[jay]at h;split at h
 .rename_i us ho;cases h;obtain⟨g1,g2⟩:=jf9 (M:=M) (e:=e) (λv hv u' hu'=>ih v hv (kO ht v hv) hu') ho;rw[jaN,jaN M e t];show(if us.isEmpty && upN t.name then e t.name else M t.name (us.map (val M e)))=_;rw[g1];have:us.isEmpty=t.args.isEmpty:=by
   cases us<;>cases hta:t.args<;>rw[hta]at g2<;>simp_all
  rw[this]
 .exact jl2 hM he hr hh h
theorem jBj(hM:∀n vs,good (M n vs)){e:Xb->Int}(he:∀x,good (e x)){rs:Xg}(hr:Q9 rs)(hh:jph M good rs):∀(k n:Nat)(t:T){r:T×Nat},(∀u∈t.args,zy u=true)->rwN rs false k n t=some r->r.1.name=t.name/\r.1.args.map (val M e)=t.args.map (val M e)/\ ∀u∈r.1.args,zy u=true:=by
 intro k;induction k with
 |zero=>intro n t r _ h;cases h
 |succ k ih=>
  intro n t r ht h;rw[rwN]at h;split at h
  .cases h;exact⟨rfl,rfl,ht⟩
  .rename_i u hu;split at h
   .cases h
   .rw [jay]at hu;split at hu;rotate_left
    .cases hu
    rename_i us ho;cases hu;obtain⟨_,g2⟩:=jax ho;have hk:∀v∈us,zy v=true:=g2 (λv=>zy v=true) ht λv hv u' hu'=>jvq hr v (ht v hv) hu';obtain⟨q1,q2,q3⟩:=ih (n+1) (.mk t.name us) hk h;exact⟨q1,q2.trans (jf9 (M:=M) (e:=e) (λv hv u' hu'=>jAG hM he hr hh v (ht v hv) hu') ho).1,q3⟩
end
def dec(n:Nat):Nat->Nat->Xf
 |0,_=>[]
 |l+1,k=>k % n::dec n l (k / n)
def enc(n:Nat):Xf->Nat
 | []=>0
 |v::vs=>v+n*enc n vs
def vnA(l:Xa)(n:Xb):Xa:=if l.contains n then l else l++[n]
mutual
def vn(l:Xa):T->Xa
 |.mk n us=>if us.isEmpty && upN n then vnA l n else vnL l us
def vnL(l:Xa):Xg->Xa
 | []=>l
 |t::ts=>vnL (vn l t) ts
end
def VIn(S:Xa)(t:T):Prop:=∀x∈kL t,x∈S
abbrev Lt:=Bool×T
def fl(b:Bool):Nat:=if b then 1 else 0
def cmpL(a b:Lt):Int:=if y5 a.2 b.2≠0 then y5 a.2 b.2 else zt (fl a.1) (fl b.1)
theorem Kr:Law3 cmpL:=jGg (f:=Prod.snd) (g:=λl:Lt=>fl l.1) jyl jbv λx y h1 h2=>by
 obtain⟨p,t⟩:=x;obtain⟨q,u⟩:=y;have h1:t=u:=h1;have h2:fl p=fl q:=h2;subst h1;cases p<;>cases q<;>first|rfl|(simp[fl]at h2)
abbrev kj:=List Lt
def jpn:kj->Bool
 |a::b::l=>decide (cmpL a b<0) && jpn (b::l)
 |_=>true
theorem jpo:∀c:kj,jpn c=true↔Asc cmpL c
 | []=>by simp[jpn,Asc]
 | [a]=>by simp[jpn,Asc]
 |a::b::l=>by
  rw[jpn,jI,ky,jpo (b::l)];unfold Asc;constructor
  .rintro ⟨h1,h2⟩;refine List.pairwise_cons.2 ⟨λx hx=>?_,h2⟩;rcases jK.1 hx with e|e
   .rw [e];exact h1
   .exact Kr.trans a b x h1 ((List.pairwise_cons.1 h2).1 x e)
  .intro h;exact⟨(List.pairwise_cons.1 h).1 b (by simp),(List.pairwise_cons.1 h).2⟩
mutual
def ZA(l:Xa):T->Xa
 |.mk n us=>if js n then vnA l n else jbV l us
def jbV(l:Xa):Xg->Xa
 | []=>l
 |t::ts=>jbV (ZA l t) ts
end
theorem joA(l:Xa)(t:T):ZA l t=if js t.name then vnA l t.name else jbV l t.args:=by cases t;rfl
def kV(c:kj):Xa:=c.foldl (λl x=>ZA l x.2) []
def JR(p:UInt8)(i:Nat):Xb:=p::Lib.decDigits i
def Kv(c:kj):Bool:=decide (kV c=(List.range (kV c).length).map (JR 88))
mutual
def kZ(f:Xb->Xb):T->T
 |.mk n us=>if js n then .mk (f n) []else .mk n (ZC f us)
def ZC(f:Xb->Xb):Xg->Xg
 | []=>[]
 |t::ts=>kZ f t::ZC f ts
end
theorem jrn(f:Xb->Xb):∀ts:Xg,ZC f ts=ts.map (kZ f)
 | []=>rfl
 |t::ts=>by rw[ZC,jrn f ts,kK]
theorem Qc(f:Xb->Xb)(t:T):kZ f t=if js t.name then .mk (f t.name) []else .mk t.name (t.args.map (kZ f)):=by
 cases t;rw[kZ,jrn];rfl
def zk(p:UInt8)(l:Xa)(n:Xb):Xb:=match l.findIdx? (λx=>decide (x=n))with|some i=>JR p i|none=>n
def renC(p:UInt8)(c:kj):kj:=yR cmpL (c.map λl=>(l.1,kZ (zk p (kV c)) l.2))
def normF:Nat->kj->kj
 |0,c=>c
 |k+1,c=>if Kv c then c else normF k (renC 88 c)
def normC(c:kj):kj:=normF 10 c
end Go.Proofs.YthlhadhipnokfaaGreatDoor
