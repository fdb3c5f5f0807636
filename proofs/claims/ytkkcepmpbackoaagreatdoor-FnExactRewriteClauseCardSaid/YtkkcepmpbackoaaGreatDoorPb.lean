/- Pb -/
import Derived.Test.YtkkcepmpbackoaaGreatDoorPa
import Derived.Test.YtkkcepmpbackoaaGreatDoorPq
import Derived.Sort.Walk0
import Derived.Lib.ItoaNum
namespace Go.Proofs.YtkkcepmpbackoaaGreatDoor
open Go Go.RowKit Go.Proofs.YtkkcepmpbackoaaGreatDoor.Abs
set_option linter.unusedSimpArgs false
set_option linter.unusedVariables false
set_option maxHeartbeats 1000000
abbrev ju:=List (Xb×T)
mutual
noncomputable def mt(m:ju)(p:T)(t:T):Option ju:=
 match p with
 |.mk n us=>if jr n then(match look m n with|some r=>if dq r t then some m else none|none=>some (m++[(n,t)]))
   else if n=t.name/\us.length=t.args.length then mtL m us t.args else none
termination_by structural p
noncomputable def mtL(m:ju)(ps:Xg)(ts:Xg):Option ju:=
 match ps with
 | []=>some m
 |u::us=>(match ts with| []=>some m|t::ts=>(mt m u t).bind λm'=>mtL m' us ts)
termination_by structural ps
end
theorem jDg{m:ju}{p t:T}(h:jr p.name=true):mt m p t=(match look m p.name with|some r=>if dq r t then some m else none|none=>some (m++[(p.name,t)])):=by
 obtain⟨n,us⟩:=p;have h:jr n=true:=h;simp only[mt,h,if_true,T.name]
theorem jC4{m:ju}{p t:T}(h:jr p.name=false):mt m p t=if p.name=t.name/\p.args.length=t.args.length then mtL m p.args t.args else none:=by
 obtain⟨n,us⟩:=p;have h:jr n=false:=h;simp only[mt,h,Bool.false_eq_true,if_false];rfl
theorem qK{u:ju}{n:Xb} :look u n=none↔ ∀p∈u,p.1≠n:=by
 induction u with
 |nil=>simp[look]
 |cons p u ih=>
  rw[look];by_cases h:p.1=n
  .rw [if_pos h];simp[h]
  .rw [if_neg h,ih];simp[h]
theorem Zz:∀{u:ju}{n:Xb}{r:T},look u n=some r->(n,r)∈u
 |p::u,n,r,h=>by
  rw[look]at h;by_cases e:p.1=n
  .rw [if_pos e]at h;cases h;rw[<-e];simp
  .rw [if_neg e]at h;exact List.mem_cons_of_mem _ (Zz h)
def MOk(p:T->Prop)(m:ju):Prop:=(m.map Prod.fst).Nodup/\(∀q∈m,jr q.1=true/\p q.2)
theorem MOk.nil(p:T->Prop):MOk p []:=⟨by simp,λq h=>by cases h⟩
theorem MOk.push{p:T->Prop}{m:ju}(h:MOk p m){n:Xb}{t:T}(hn:jr n=true)(ht:p t)(hl:look m n=none):MOk p (m++[(n,t)]):=by
 refine⟨?_,λq hq=>?_⟩
 .rw [List.map_append,List.nodup_append];refine⟨h.1,by simp,λa ha b hb=>?_⟩;simp only[List.map_cons,List.map_nil,List.mem_singleton]at hb;subst hb;obtain⟨q,hq,rfl⟩:=List.mem_map.1 ha;exact qK.1 hl q hq
 .rcases List.mem_append.1 hq with hq|hq
  .exact h.2 q hq
  .simp only[List.mem_singleton]at hq;subst hq;exact⟨hn,ht⟩
theorem jrq{p:T->Prop}(hp:∀t,p t-> ∀u∈t.args,p u):∀(a:T){m m':ju}{t:T},MOk p m->p t->mt m a t=some m'->MOk p m':=by
 refine T.ind (p:=λa=>∀{m m':ju}{t:T},MOk p m->p t->mt m a t=some m'->MOk p m') λa ih=>?_;intro m m' t hm ht h;cases hv:jr a.name with
 |true=>
  rw[jDg hv]at h;split at h
  .split at h
   .cases h;exact hm
   .cases h
  .rename_i hl;cases h;exact hm.push hv ht hl
 |false=>
  rw[jC4 hv]at h;split at h
  .have key:∀(us:Xg)(ts:Xg){m m':ju},(∀u∈us,u∈a.args)->(∀u∈ts,p u)->MOk p m->mtL m us ts=some m'->MOk p m':=by
    intro us;induction us with
    |nil=>intro ts m m' _ _ hm h;simp only[mtL,Option.some.injEq]at h;exact h ▸ hm
    |cons u us ih2=>
     intro ts m m' hu hts hm h;cases ts with
     |nil=>simp only[mtL,Option.some.injEq]at h;exact h ▸ hm
     |cons s ts=>
      simp only[mtL]at h;obtain⟨m1,h1,h2⟩:=Option.bind_eq_some_iff.1 h;exact ih2 ts (λx hx=>hu x (by simp[hx])) (λx hx=>hts x (by simp[hx])) (ih u (hu u (by simp)) hm (hts s (by simp)) h1) h2
   exact key a.args t.args (λ_ h=>h) (hp t ht) hm h
  .cases h
def KT(s:ju)(n:Xb)(t:T):ju:=s.takeWhile (λp=>zz p.1 n)++(n,t)::s.dropWhile (λp=>zz p.1 n)
def Ks(s:ju)(n:Xb)(t:T):ju:=if t.name=n then s else KT s n t
def QV(m:ju):ju:=m.foldl (λs p=>Ks s p.1 p.2) []
theorem Y6(a:Xb):zz a a=false:=by
 unfold zz;cases h:Op.bytesLess a a with
 |false=>rfl
 |true=>
  exfalso;induction a with
  |nil=>simp[Op.bytesLess]at h
  |cons c r ih=>simp[Op.bytesLess]at h;exact ih h
theorem jFO(n:Xb)(t:T)(x:Xb):∀s:ju,look (KT s n t) x=if n=x then some t else look s x:=by
 intro s;unfold KT;induction s with
 |nil=>simp[look]
 |cons p s ih=>
  cases hl:zz p.1 n with
  |true=>
   rw[List.takeWhile_cons_of_pos (p:=λp:Xb×T=>zz p.1 n) hl,List.dropWhile_cons_of_pos (p:=λp:Xb×T=>zz p.1 n) hl,List.cons_append,look,ih,look];by_cases h1:p.1=x
   .rw [if_pos h1,if_pos h1];have:n≠x:=λe=>by rw[h1,<-e,Y6]at hl;cases hl
    rw[if_neg this]
   .rw [if_neg h1,if_neg h1]
  |false=>
   rw[List.takeWhile_cons_of_neg (p:=λp:Xb×T=>zz p.1 n) (by simp[hl]),List.dropWhile_cons_of_neg (p:=λp:Xb×T=>zz p.1 n) (by simp[hl]),List.nil_append,look]
theorem jEq(s:ju)(n:Xb)(t:T)(x:Xb):look (Ks s n t) x=if n=x/\t.name≠x then some t else look s x:=by
 unfold Ks;by_cases h:t.name=n
 .rw [if_pos h];by_cases h2:n=x
  .rw [if_neg (λh3=>h3.2 (h.trans h2))]
  .rw [if_neg (λh3=>h2 h3.1)]
 .rw [if_neg h,jFO];by_cases h2:n=x
  .rw [if_pos h2,if_pos ⟨h2,λe=>h (e.trans h2.symm)⟩]
  .rw [if_neg h2,if_neg (λh3=>h2 h3.1)]
theorem jDS(x:Xb):∀(m s:ju),(m.map Prod.fst).Nodup->look (m.foldl (λs p=>Ks s p.1 p.2) s) x=(match look m x with|some t=>if t.name=x then look s x else some t|none=>look s x)
 | [],s,_=>rfl
 |p::m,s,hn=>by
  rw[List.map_cons,List.nodup_cons]at hn;rw[List.foldl_cons,jDS x m _ hn.2,look];by_cases h:p.1=x
  .have:look m x=none:=qK.2 λq hq e=>hn.1 (by rw[h,<-e];exact List.mem_map_of_mem hq)
   rw[this,if_pos h];show look (Ks s p.1 p.2) x=if p.2.name=x then look s x else some p.2;rw[jEq];by_cases h2:p.2.name=x
   .rw [if_pos h2,if_neg (λh3=>h3.2 h2)]
   .rw [if_neg h2,if_pos ⟨h,h2⟩]
  .rw [if_neg h];have e:look (Ks s p.1 p.2) x=look s x:=by rw[jEq,if_neg (λh3=>h h3.1)]
   rw[e]
theorem jFA{m:ju}(hm:MOk (λt=>qb t=true) m){x:Xb}(hx:jr x=true):jc1 (QV m) x=jc1 m x:=by
 unfold jc1 QV;rw[jDS x m [] hm.1];cases h:look m x with
 |none=>rfl
 |some t=>
  show Option.getD (if t.name=x then look [] x else some t) _=t;by_cases h2:t.name=x
  .rw [if_pos h2];have hk:=(hm.2 _ (Zz h)).2;have ha:=jbp hk (by rw[h2];exact hx);show T.mk x []=t;rw[<-h2,<-ha,T.eta]
  .rw [if_neg h2];rfl
theorem jFZ{u v:ju}(h:∀x,jr x=true->jc1 u x=jc1 v x):∀t:T,sub u t=sub v t:=by
 refine T.ind λt ih=>?_;cases hv:jr t.name with
 |true=>rw[KI hv,KI hv,h _ hv]
 |false=>rw[Jb hv,Jb hv,List.map_congr_left ih]
theorem jF0{m:ju}(hm:MOk (λt=>qb t=true) m)(t:T):sub (QV m) t=sub m t:=jFZ (λ_ hx=>jFA hm hx) t
theorem jrx(n:Xb)(h:jr n=true):qb (.mk n [])=true:=by rw[qj];show(if jr n then _ else _)=true;rw[if_pos h];rfl
theorem jb4{u:ju}(hu:∀q∈u,qb q.2=true):∀t:T,qb t=true->qb (sub u t)=true:=by
 refine T.ind λt ih hk=>?_;cases hv:jr t.name with
 |true=>
  rw[KI hv,jc1];cases h:look u t.name with
  |none=>exact jrx _ hv
  |some r=>exact hu _ (Zz h)
 |false=>
  have hk':=hk;rw[qj,hv,if_neg Bool.false_ne_true,Bool.and_eq_true,Bool.and_eq_true,Ze]at hk;rw[qj,je5 hv,hv,if_neg Bool.false_ne_true,jbm hv,Bool.and_eq_true,Bool.and_eq_true,Ze];refine⟨hk.1,by simpa using hk.2.1,?_⟩;rw[List.all_map,List.all_eq_true];intro a ha;exact ih a ha (List.all_eq_true.1 hk.2.2 a ha)
def jtH(r:T):T:=r.args.getD 0 (.mk [] [])
def jt9(r:T):T:=r.args.getD 1 (.mk [] [])
noncomputable def jr0:Xg->T->Option T
 | [],_=>none
 |r::rs,t=>(match mt [] (jtH r) t with|some m=>some (sub m (jt9 r))|none=>jr0 rs t)
mutual
noncomputable def jyh(rs:Xg)(root:Bool):T->Option T
 |.mk n us=>(match jvl rs us with|some us'=>some (.mk n us')|none=>if root then jr0 rs (.mk n us)else none)
noncomputable def jvl(rs:Xg):Xg->Option Xg
 | []=>none
 |t::ts=>(match jyh rs true t with|some t'=>some (t'::ts)|none=>(jvl rs ts).map (t::·))
end
theorem jCH(rs:Xg)(root:Bool)(t:T):jyh rs root t=(match jvl rs t.args with|some us=>some (.mk t.name us)|none=>if root then jr0 rs t else none):=by cases t;rfl
def atT:Xf->T->T
 | [],t=>t
 |i::p,t=>atT p (t.args.getD i (.mk [] []))
def jvz(s:T):Xf->T->T
 | [],_=>s
 |i::p,t=>.mk t.name (t.args.set i (jvz s p (t.args.getD i (.mk [] []))))
mutual
def jjX:T->List Xf
 |.mk _ us=>jeF 0 us++[[]]
def jeF(i:Nat):Xg->List Xf
 | []=>[]
 |t::ts=>(jjX t).map (i::·)++jeF (i+1) ts
end
theorem jEZ(t:T):jjX t=jeF 0 t.args++[[]]:=by cases t;rfl
theorem jCB{α β γ:Type}(f:β->Option γ)(g:α->β):∀l:List α,(l.map g).findSome? f=l.findSome? (λa=>f (g a))
 | []=>rfl
 |a::l=>by rw[List.map_cons,List.findSome?_cons,List.findSome?_cons,jCB f g l]
theorem jBu{α β:Type}{f g:α->Option β} :∀{l:List α},(∀a∈l,f a=g a)->l.findSome? f=l.findSome? g
 | [],_=>rfl
 |a::l,h=>by rw[List.findSome?_cons,List.findSome?_cons,h a (by simp),jBu λb hb=>h b (by simp[hb])]
theorem jBA{α β γ:Type}(f:α->Option β)(g:β->γ):∀l:List α,l.findSome? (λa=>(f a).map g)=(l.findSome? f).map g
 | []=>rfl
 |a::l=>by
  rw[List.findSome?_cons,List.findSome?_cons];cases h:f a with
  |none=>exact jBA f g l
  |some b=>rfl
noncomputable def jAH(rs:Xg)(root:Bool)(t:T)(p:Xf):Option T:=if p=[]/\root=false then none else(jr0 rs (atT p t)).map λs=>jvz s p t
theorem jFT(rs:Xg):∀(t:T)(root:Bool),(jjX t).findSome? (jAH rs root t)=jyh rs root t:=by
 refine T.ind λt ih root=>?_;have hL:∀(us:Xg)(i:Nat),(∀u∈us,u∈t.args)->t.args.drop i=us->(jeF i us).findSome? (jAH rs root t)=(jvl rs us).map λus'=>.mk t.name (t.args.take i++us'):=by
  intro us;induction us with
  |nil=>intro i _ _;rfl
  |cons u us ih2=>
   intro i hu hd;have hi:i<t.args.length:=by
    rcases Nat.lt_or_ge i t.args.length with h|h
    .exact h
    .rw [List.drop_of_length_le h]at hd;cases hd
   have hui:t.args.getD i (.mk [] [])=u:=by
    rw[List.getD_eq_getElem?_getD];have:=congrArg (λl=>l[0]?) hd;simp only[List.getElem?_drop,Nat.add_zero,List.getElem?_cons_zero]at this;rw[this];rfl
   have hd2:t.args.drop (i+1)=us:=by
    have:=congrArg (λl=>l.drop 1) hd;simpa[List.drop_drop,Nat.add_comm]using this
   rw[jeF,List.findSome?_append,jCB,jvl];have e1:(jjX u).findSome? (λp=>jAH rs root t (i::p))=(jyh rs true u).map λu'=>.mk t.name (t.args.set i u'):=by
    rw[<-ih u (hu u (by simp)) true,<-jBA];refine jBu λp _=>?_;unfold jAH;rw[if_neg (by simp),if_neg (by simp),atT,hui];cases jr0 rs (atT p u)with
    |none=>rfl
    |some s=>show some (jvz s (i::p) t)=some (T.mk t.name (t.args.set i (jvz s p u)));rw[jvz,hui]
   rw[e1];cases ho:jyh rs true u with
   |some u'=>
    show some (T.mk t.name (t.args.set i u'))=some (T.mk t.name (t.args.take i++u'::us));rw[List.set_eq_take_append_cons_drop,if_pos hi,hd2]
   |none=>
    show(jeF (i+1) us).findSome? (jAH rs root t)=_;rw[ih2 (i+1) (λx hx=>hu x (by simp[hx])) hd2];cases jvl rs us with
    |none=>rfl
    |some us'=>
     show some (T.mk t.name (t.args.take (i+1)++us'))=some (T.mk t.name (t.args.take i++u::us'));have:t.args.take (i+1)=t.args.take i++[u]:=by
      rw[List.take_add_one];congr 1;have h0:t.args[i]? = some u:=by
       have:=congrArg (λl=>l[0]?) hd;simpa using this
      rw[h0];rfl
     rw[this,List.append_assoc];rfl
 rw[jEZ,List.findSome?_append,hL t.args 0 (λ_ h=>h) rfl,jCH];cases jvl rs t.args with
 |some us=>rfl
 |none=>
  show([[]]:List Xf).findSome? (jAH rs root t)=(if root=true then jr0 rs t else none);rw[List.findSome?_cons];unfold jAH;cases root with
  |false=>rfl
  |true=>
   rw[if_neg (by simp),if_pos rfl];rw[atT];cases jr0 rs t<;>rfl
def jyN(rs:Xg):Prop:=∀r∈rs,qb (jtH r)=true/\qb (jt9 r)=true
theorem jE0{t:T}(ht:qb t=true):∀{rs:Xg}{u:T},jyN rs->jr0 rs t=some u->qb u=true
 |r::rs,u,hr,h=>by
  rw[jr0]at h;split at h
  .rename_i m hm;cases h;have hM:=jrq (p:=λt=>qb t=true) (λt ht u hu=>by
    cases hv:jr t.name with
    |true=>rw[jbp ht hv]at hu;cases hu
    |false=>
     rw[qj,hv,if_neg Bool.false_ne_true,Bool.and_eq_true,Bool.and_eq_true,Ze]at ht;exact List.all_eq_true.1 ht.2.2 u hu) _ (MOk.nil _) ht hm
   exact jb4 (λq hq=>(hM.2 q hq).2) _ (hr r (by simp)).2
  .exact jE0 ht (λq hq=>hr q (by simp[hq])) h
theorem jBQ{rs:Xg} :∀{us us':Xg},jvl rs us=some us'->us'.length=us.length/\ ∀p:T->Prop,(∀u∈us,p u)->(∀u∈us,∀u',jyh rs true u=some u'->p u')-> ∀u∈us',p u
 |t::ts,us',h=>by
  rw[jvl]at h;split at h
  .rename_i t' ht;cases h;refine⟨by simp,λp h1 h2 u hu=>?_⟩;rcases List.mem_cons.1 hu with rfl|hu
   .exact h2 t (by simp) _ ht
   .exact h1 u (by simp[hu])
  .rw [Option.map_eq_some_iff]at h;obtain⟨r,h3,rfl⟩:=h;obtain⟨g1,g2⟩:=jBQ h3;refine⟨by simp[g1],λp h1 h2 u hu=>?_⟩;rcases List.mem_cons.1 hu with rfl|hu
   .exact h1 _ (by simp)
   .exact g2 p (λu hu=>h1 u (by simp[hu])) (λu hu=>h2 u (by simp[hu])) u hu
theorem jGE{rs:Xg}(hr:jyN rs):∀(t:T){u:T},qb t=true->jyh rs true t=some u->qb u=true:=by
 refine T.ind (p:=λt=>∀{u:T},qb t=true->jyh rs true t=some u->qb u=true) λt ih=>?_;intro u ht h;rw[jCH]at h;split at h
 .rename_i us ho;cases h;obtain⟨g1,g2⟩:=jBQ ho;cases hv:jr t.name with
  |true=>
   rw[jbp ht hv]at ho;cases ho
  |false=>
   have ha:=qi ht;rw[qj,hv,if_neg Bool.false_ne_true,Bool.and_eq_true,Bool.and_eq_true]at ht;rw[qj];show(if jr t.name then _ else qz t.name && (decide (us.length<=4) && jjI us))=true;rw[hv,if_neg Bool.false_ne_true,Bool.and_eq_true,Bool.and_eq_true,g1,Ze,List.all_eq_true];exact⟨ht.1,ht.2.1,g2 _ ha λu hu u' hu'=>ih u hu (ha u hu) hu'⟩
 .exact jE0 ht hr h
noncomputable def rwN(rs:Xg)(root:Bool):Nat->Nat->T->Option (T×Nat)
 |0,_,_=>none
 |k+1,n,t=>(match jyh rs root t with
  |none=>some (t,n)
  |some u=>if k=0\/jH u=false then none else rwN rs root k (n+1) u)
theorem joC:pNo (vb false)=some ():=rfl
theorem jGO:slL [259] [[]]=[.sl 259 []]:=rfl
theorem jtX{n:Nat}(h:n<=4194304):jO n 56=true:=by
 unfold jO;exact decide_eq_true ⟨by omega,by omega⟩
theorem jDU{p:T->Prop}(hp:∀t,p t-> ∀u∈t.args,p u):∀(a:T){m m':ju}{t:T},(∀q∈m,p q.2)->p t->mt m a t=some m'->(∀q∈m',p q.2)/\m'.length<=m.length+nodes a:=by
 refine T.ind (p:=λa=>∀{m m':ju}{t:T},(∀q∈m,p q.2)->p t->mt m a t=some m'->(∀q∈m',p q.2)/\m'.length<=m.length+nodes a) λa ih=>?_;intro m m' t hm ht h;have hn:=jU a;cases hv:jr a.name with
 |true=>
  rw[jDg hv]at h;split at h
  .split at h
   .cases h;exact⟨hm,by omega⟩
   .cases h
  .cases h;refine⟨λq hq=>?_,by rw[List.length_append,List.length_singleton];omega⟩;rcases List.mem_append.1 hq with hq|hq
   .exact hm q hq
   .simp only[List.mem_singleton]at hq;subst hq;exact ht
 |false=>
  rw[jC4 hv]at h;split at h
  .have key:∀(us:Xg)(ts:Xg){m m':ju},(∀u∈us,u∈a.args)->(∀u∈ts,p u)->(∀q∈m,p q.2)->mtL m us ts=some m'->(∀q∈m',p q.2)/\m'.length<=m.length+jF us:=by
    intro us;induction us with
    |nil=>intro ts m m' _ _ hm h;simp only[mtL,Option.some.injEq]at h;exact h ▸ ⟨hm,by omega⟩
    |cons u us ih2=>
     intro ts m m' hu hts hm h;have e:jF (u::us)=nodes u+jF us:=rfl;cases ts with
     |nil=>simp only[mtL,Option.some.injEq]at h;exact h ▸ ⟨hm,by omega⟩
     |cons s ts=>
      simp only[mtL]at h;obtain⟨m1,h1,h2⟩:=Option.bind_eq_some_iff.1 h;obtain⟨i1,i2⟩:=ih u (hu u (by simp)) hm (hts s (by simp)) h1;obtain⟨j1,j2⟩:=ih2 ts (λx hx=>hu x (by simp[hx])) (λx hx=>hts x (by simp[hx])) i1 h2;exact⟨j1,by omega⟩
   obtain⟨i1,i2⟩:=key a.args t.args (λ_ h=>h) (hp t ht) hm h;exact⟨i1,by omega⟩
  .cases h
def MR(o:Xe)(r:Option ju):Prop:=match r with
 |some m'=>o=some (.top,[vb true,.sl 259 (m'.map bc)])
 |none=>∃R,o=some (.top,[vb false,.sl 259 R])
theorem jrP{m:ju}{i:Nat}(hi:i<m.length):jgh (m.map bc) i 0=some (sv m[i].1):=by unfold jgh;simp[hi]
theorem jEY{m:ju}{i:Nat}(hi:i<m.length):y5 (m.map bc) i 1 2=some (tm m[i].2):=by unfold y5;simp[hi]
def Tz(t:T):Prop:=tsz t<=1048576
theorem Tz.args{t:T}(h:Tz t):∀u∈t.args,Tz u:=λu hu=>by
 have:=yQ hu;unfold Tz at h⊢;rw[ze]at h;omega
theorem Tz.wf{t:T}(h:Tz t):KZ t:=jwW t h
theorem jFN(n:Xb)(x:A)(t:T)(ht:Tz t)(m:ju)(hm:∀q∈m,Tz q.2)(hl:m.length<=4000000)(hx:jQ x=true):MR (jBt (vi 0) (sv n) x (sv t.name) (jS t.args) (m.map bc)) (match look m n with|some r=>if dq r t then some m else none|none=>some (m++[(n,t)])):=by
 have key:=upto (P:=λi=>MR (jBt (vi i) (sv n) x (sv t.name) (jS t.args) (m.map bc)) (match look (m.drop i) n with|some r=>if dq r t then some m else none|none=>some (m++[(n,t)]))) (n:=m.length) ?_ ?_ 0 (Nat.zero_le _)
 .exact key
 .rw [List.drop_length,jEV];have hf:=jtX (n:=m.length+1) (by omega);show _=_;simp only[jg,hf];rw[List.map_append];rfl
 .intro i hi ih;have hlt:(i:Int)<((m.length:Nat):Int):=by omega
  have h5:=jy hi (by show m.length<=9223372036854775807;omega)
  have x1:ZB m.length (vi ((i:Nat):Int))=some i:=zR hi;have x2:=jrP hi;have x3:=jEY hi;have e1:=jf7 m[i].2 (hm _ (List.getElem_mem hi)).wf t ht.wf;rw[jEV,js hi,look];by_cases he:m[i].1=n
  .rw [if_pos he];show MR _ (if dq m[i].2 t=true then some m else none);cases hd:dq m[i].2 t<;>rw[hd]at e1
   .rw [if_neg Bool.false_ne_true];refine⟨m.map bc,?_⟩;simp only[jg,hlt,x1,x2,x3,he,e1]
   .rw [if_pos rfl];show _=_;simp only[jg,hlt,x1,x2,x3,he,e1]
  .rw [if_neg he];simp only[jg,hlt,x1,x2,x3,he,h5];exact ih
theorem jFw(a t:T)(ht:Tz t)(ha:Tz a)(hl:a.args.length=t.args.length)(m:ju)(hm:∀q∈m,Tz q.2)(hk:m.length+jF a.args<=4000000)
  (ih:∀u∈a.args,∀(s:T)(m:ju),Tz s->(∀q∈m,Tz q.2)->m.length+nodes u<=4000000->MR (jBm (tm u) (tm s) (m.map bc)) (mt m u s)) :
  MR (jB9 (vi 0) (sv a.name) (jS a.args) (sv t.name) (jS t.args) (m.map bc)) (mtL m a.args t.args):=by
 have ha':=ha;unfold Tz at ha;rw[ze]at ha;have nd:∀i,i<a.args.length->jF (a.args.drop i)=jF a.args->True:=λ_ _ _=>trivial;have key2:=upto (P:=λi=>∀m:ju,(∀q∈m,Tz q.2)->m.length+jF (a.args.drop i)<=4000000->MR (jCl (vi i) (sv a.name) (jS a.args) (sv t.name) (jS t.args) (m.map bc)) (mtL m (a.args.drop i) (t.args.drop i))) (n:=a.args.length) ?_ ?_;rotate_left
 .intro m hm hk;rw[List.drop_length,jDQ];simp only[mtL];show _=_;simp only[jg]
 .intro i hi ih2 m hm hk;have hi':i<t.args.length:=by omega
  have hlt:(i:Int)<((a.args.length:Nat):Int):=by omega
  have h5:=jy hi (by show a.args.length<=9223372036854775807;omega)
  have e:jF (a.args.drop i)=nodes a.args[i]+jF (a.args.drop (i+1)):=by rw[js hi];rfl
  have q:=ih a.args[i] (List.getElem_mem _) t.args[i] m (ht.args _ (List.getElem_mem _)) hm (by omega);rw[js hi,js hi',jDQ];simp only[mtL];cases hq:mt m a.args[i] t.args[i]with
  |none=>
   rw[hq]at q;obtain⟨R,q⟩:=q;refine⟨[],?_⟩;simp only[jg,hlt,jb hi,jb hi',ji,q,List.getElem?_cons_zero,joC,jGO]
  |some m1=>
   rw[hq]at q;have q:jBm (tm a.args[i]) (tm t.args[i]) (m.map bc)=some (.top,[vb true,.sl 259 (m1.map bc)]):=q;obtain⟨i1,i2⟩:=jDU (p:=Tz) (λ_ h=>h.args) _ hm (ht.args _ (List.getElem_mem hi')) hq;simp only[jg,hlt,jb hi,jb hi',ji,q,List.getElem?_cons_zero,h5];exact ih2 m1 i1 (by omega)
 have e1:∀(m:ju)(i:Nat),jB9 (vi i) (sv a.name) (jS a.args) (sv t.name) (jS t.args) (m.map bc)=jCl (vi i) (sv a.name) (jS a.args) (sv t.name) (jS t.args) (m.map bc):=λm i=>by
  rw[jGh,jDQ]
 have:=key2 0 (Nat.zero_le _) m hm hk;rw[<-e1]at this;exact this
theorem jFM(n:Xb)(x:A)(t:T)(ht:Tz t)(m:ju)(hm:∀q∈m,Tz q.2)(hl:m.length<=4000000)(hx:jQ x=true):MR (jBs (vi 0) (sv n) x (sv t.name) (jS t.args) (m.map bc)) (match look m n with|some r=>if dq r t then some m else none|none=>some (m++[(n,t)])):=by
 have key:=upto (P:=λi=>MR (jBs (vi i) (sv n) x (sv t.name) (jS t.args) (m.map bc)) (match look (m.drop i) n with|some r=>if dq r t then some m else none|none=>some (m++[(n,t)]))) (n:=m.length) ?_ ?_ 0 (Nat.zero_le _)
 .exact key
 .rw [List.drop_length,jEU];have hf:=jtX (n:=m.length+1) (by omega);show _=_;simp only[jg,hf];rw[List.map_append];rfl
 .intro i hi ih;have hlt:(i:Int)<((m.length:Nat):Int):=by omega
  have h5:=jy hi (by show m.length<=9223372036854775807;omega)
  have x1:ZB m.length (vi ((i:Nat):Int))=some i:=zR hi;have x2:=jrP hi;have x3:=jEY hi;have e1:=jf7 m[i].2 (hm _ (List.getElem_mem hi)).wf t ht.wf;rw[jEU,js hi,look];by_cases he:m[i].1=n
  .rw [if_pos he];show MR _ (if dq m[i].2 t=true then some m else none);cases hd:dq m[i].2 t<;>rw[hd]at e1
   .rw [if_neg Bool.false_ne_true];refine⟨m.map bc,?_⟩;simp only[jg,hlt,x1,x2,x3,he,e1]
   .rw [if_pos rfl];show _=_;simp only[jg,hlt,x1,x2,x3,he,e1]
  .rw [if_neg he];simp only[jg,hlt,x1,x2,x3,he,h5];exact ih
theorem jFv(a t:T)(ht:Tz t)(ha:Tz a)(hl:a.args.length=t.args.length)(m:ju)(hm:∀q∈m,Tz q.2)(hk:m.length+jF a.args<=4000000)
  (ih:∀u∈a.args,∀(s:T)(m:ju),Tz s->(∀q∈m,Tz q.2)->m.length+nodes u<=4000000->MR (jBm (tm u) (tm s) (m.map bc)) (mt m u s)) :
  MR (jBT (vi 0) (sv a.name) (jS a.args) (sv t.name) (jS t.args) (m.map bc)) (mtL m a.args t.args):=by
 have ha':=ha;unfold Tz at ha;rw[ze]at ha;have nd:∀i,i<a.args.length->jF (a.args.drop i)=jF a.args->True:=λ_ _ _=>trivial;have key2:=upto (P:=λi=>∀m:ju,(∀q∈m,Tz q.2)->m.length+jF (a.args.drop i)<=4000000->MR (jBY (vi i) (sv a.name) (jS a.args) (sv t.name) (jS t.args) (m.map bc)) (mtL m (a.args.drop i) (t.args.drop i))) (n:=a.args.length) ?_ ?_;rotate_left
 .intro m hm hk;rw[List.drop_length,jDO];simp only[mtL];show _=_;simp only[jg]
 .intro i hi ih2 m hm hk;have hi':i<t.args.length:=by omega
  have hlt:(i:Int)<((a.args.length:Nat):Int):=by omega
  have h5:=jy hi (by show a.args.length<=9223372036854775807;omega)
  have e:jF (a.args.drop i)=nodes a.args[i]+jF (a.args.drop (i+1)):=by rw[js hi];rfl
  have q:=ih a.args[i] (List.getElem_mem _) t.args[i] m (ht.args _ (List.getElem_mem _)) hm (by omega);rw[js hi,js hi',jDO];simp only[mtL];cases hq:mt m a.args[i] t.args[i]with
  |none=>
   rw[hq]at q;obtain⟨R,q⟩:=q;refine⟨[],?_⟩;simp only[jg,hlt,jb hi,jb hi',ji,q,List.getElem?_cons_zero,joC,jGO]
  |some m1=>
   rw[hq]at q;have q:jBm (tm a.args[i]) (tm t.args[i]) (m.map bc)=some (.top,[vb true,.sl 259 (m1.map bc)]):=q;obtain⟨i1,i2⟩:=jDU (p:=Tz) (λ_ h=>h.args) _ hm (ht.args _ (List.getElem_mem hi')) hq;simp only[jg,hlt,jb hi,jb hi',ji,q,List.getElem?_cons_zero,h5];exact ih2 m1 i1 (by omega)
 have e1:∀(m:ju)(i:Nat),jBT (vi i) (sv a.name) (jS a.args) (sv t.name) (jS t.args) (m.map bc)=jBY (vi i) (sv a.name) (jS a.args) (sv t.name) (jS t.args) (m.map bc):=λm i=>by
  rw[jGg,jDO]
 have:=key2 0 (Nat.zero_le _) m hm hk;rw[<-e1]at this;exact this
theorem jFu:∀(a:T),Tz a-> ∀(t:T)(m:ju),Tz t->(∀q∈m,Tz q.2)->m.length+nodes a<=4000000->MR (jBm (tm a) (tm t) (m.map bc)) (mt m a t):=by
 refine T.ind λa ih ha t m ht hm hk=>?_;have hn:=jU a;have e1:=yc a.name (((kQ a).1 ha.wf).1);have hal:a.args.length<=1048576:=by unfold Tz at ha;rw[ze]at ha;omega
 rw[jGW];cases hv:jr a.name<;>rw[hv]at e1
 .rw [jC4 hv];by_cases he:a.name=t.name/\a.args.length=t.args.length
  .rw [if_pos he];have hl:((a.args.length:Nat):Int)=((t.args.length:Nat):Int):=by omega
   have:=jFw a t ht ha he.2 m hm (by omega) λu hu s m hs hm hk=>ih u hu (ha.args u hu) s m hs hm hk;rw[he.1]at e1 this;simp only[jg,he.1,e1,hl];exact this
  .rw [if_neg he];refine⟨m.map bc,?_⟩;by_cases h1:a.name=t.name
   .have hl:¬((a.args.length:Nat):Int)=((t.args.length:Nat):Int):=λh=>he ⟨h1,by omega⟩;rw[h1]at e1;simp only[jg,e1,h1,hl]
   .simp only[jg,e1,h1]
 .rw [jDg hv];have:=jFN a.name (jS a.args) t ht m hm (by omega) (jwt _ _);simp only[jg,e1];exact this
theorem jEW(a:T)(ha:Tz a)(t:T)(m:ju)(ht:Tz t)(hm:∀q∈m,Tz q.2)(hk:m.length+nodes a<=4000000):MR (jDD (tm a) (sv t.name) (jS t.args) (m.map bc)) (mt m a t):=by
 have hn:=jU a;have e1:=yc a.name (((kQ a).1 ha.wf).1);rw[jGV];cases hv:jr a.name<;>rw[hv]at e1
 .rw [jC4 hv];by_cases he:a.name=t.name/\a.args.length=t.args.length
  .rw [if_pos he];have hl:((a.args.length:Nat):Int)=((t.args.length:Nat):Int):=by omega
   have:=jFv a t ht ha he.2 m hm (by omega) λu hu s m hs hm hk=>jFu u (ha.args u hu) s m hs hm hk;rw[he.1]at e1 this;simp only[jg,he.1,e1,hl];exact this
  .rw [if_neg he];refine⟨m.map bc,?_⟩;by_cases h1:a.name=t.name
   .have hl:¬((a.args.length:Nat):Int)=((t.args.length:Nat):Int):=λh=>he ⟨h1,by omega⟩;rw[h1]at e1;simp only[jg,e1,h1,hl]
   .simp only[jg,e1,h1]
 .rw [jDg hv];have:=jFM a.name (jS a.args) t ht m hm (by omega) (jwt _ _);simp only[jg,e1];exact this
abbrev kv(p:Xb×T):Xd:=[sv p.1,tm p.2]
theorem jwb(a b:Xb):eqK none (sv a) (sv b)=some (decide (a=b)):=by show some (decide (bs _=bs _))=_;refine congrArg some (decide_eq_decide.2 ?_);simp
theorem jBh(n:Xb):∀(m:ju)(k:Nat),Kz none (sv n) (m.map kv) k=some (match look m n with|some _=>(match m.findIdx? (λp=>decide (p.1=n))with|some j=>some (k+j,tm ((look m n).getD (.mk [] [])))|none=>none)|none=>none)
 | [],k=>rfl
 |p::m,k=>by
  rw[List.map_cons,look,Kz,jwb];by_cases h:p.1=n
  .rw [if_pos h,decide_eq_true h.symm,List.findIdx?_cons,if_pos (decide_eq_true h)];rfl
  .rw [if_neg h,decide_eq_false (λe=>h e.symm),List.findIdx?_cons,if_neg (by simp[h])];show Kz none (sv n) (m.map kv) (k+1)=_;rw[jBh n m (k+1)];cases look m n with
   |none=>rfl
   |some r=>
    cases m.findIdx? (λp=>decide (p.1=n))with
    |none=>rfl
    |some j=>show some (some (k+1+j,_))=some (some (k+(j+1),_));rw[show k+1+j=k+(j+1) by omega]
theorem jDR{n:Xb} :∀{m:ju}{r:T},look m n=some r-> ∃j,m.findIdx? (λp=>decide (p.1=n))=some j/\m.set j (n,r)=m
 |p::m,r,h=>by
  rw[look]at h;rw[List.findIdx?_cons];by_cases e:p.1=n
  .rw [if_pos e]at h;rw[if_pos (decide_eq_true e)];cases h;exact⟨0,rfl,by rw[<-e];rfl⟩
  .rw [if_neg e]at h;rw[if_neg (by simp[e])];obtain⟨j,h1,h2⟩:=jDR h;exact⟨j+1,by rw[h1];rfl,by rw[List.set_cons_succ,h2]⟩
theorem jDV(z:Xd)(m:ju)(n:Xb):jez none true false z (.mp (m.map kv)) (sv n)=some (match look m n with|some r=>.tup [tm r,vb true]|none=>.tup [.agg z,vb false]):=by
 show((some (m.map kv)).bind λxs=>(Kz none (sv n) xs 0).map (jrh true false z))=_;rw[Option.bind_some,jBh];cases h:look m n with
 |none=>rfl
 |some r=>
  obtain⟨j,h1,_⟩:=jDR h;show(some (match m.findIdx? _ with|some j=>some (0+j,tm r)|none=>none)).map _=_;rw[h1];rfl
theorem jEr{m:ju}{n:Xb}(h:look m n=none)(t:T):jrN none (m.map kv) (sv n) (tm t)=some ((m++[(n,t)]).map kv):=by
 show(Kz none (sv n) (m.map kv) 0).map _=_;rw[jBh,h,List.map_append];rfl
theorem jEs{m:ju}{n:Xb}{r:T}(h:look m n=some r)(a:A):∃R,jrN none (m.map kv) (sv n) a=some R/\(a=tm r->R=m.map kv):=by
 obtain⟨j,h1,h2⟩:=jDR h;refine⟨(m.map kv).set j [sv n,a],?_,λe=>?_⟩
 .show (Kz none (sv n) (m.map kv) 0).map _=_;rw[jBh,h];show(some (match m.findIdx? _ with|some j=>some (0+j,tm r)|none=>none)).map _=_;rw[h1];show some ((m.map kv).set (0+j) [sv n,a])=_;rw[Nat.zero_add]
 .rw [e];have:([sv n,tm r]:Xd)=kv (n,r):=rfl;rw[this,<-List.map_set,h2]
def MI(o:Xe)(r:Option ju):Prop:=match r with
 |some m'=>o=some (.top,[vb true,.sl 128 (m'.map kv)])
 |none=>∃R,o=some (.top,[vb false,.sl 128 R])
theorem jFL(a t:T)(ht:Tz t)(ha:Tz a)(hl:a.args.length=t.args.length)(m:ju)(hm:∀q∈m,Tz q.2)
  (ih:∀u∈a.args,∀(s:T)(m:ju),Tz s->(∀q∈m,Tz q.2)->MI (jp2 (sv u.name) (jS u.args) (tm s) (m.map kv)) (mt m u s)) :
  MI (jBq (jS a.args) (vi (a.args.length:Nat)) (vi 0) (sv t.name) (jS t.args) (m.map kv)) (mtL m a.args t.args):=by
 have ha':=ha;unfold Tz at ha;rw[ze]at ha;have key2:=upto (P:=λi=>∀m:ju,(∀q∈m,Tz q.2)->MI (jBq (jS a.args) (vi (a.args.length:Nat)) (vi i) (sv t.name) (jS t.args) (m.map kv)) (mtL m (a.args.drop i) (t.args.drop i))) (n:=a.args.length) ?_ ?_;rotate_left
 .intro m hm;rw[List.drop_length,jET];simp only[mtL];show _=_;simp only[jg]
 .intro i hi ih2 m hm;have hi':i<t.args.length:=by omega
  have hlt:(i:Int)<((a.args.length:Nat):Int):=by omega
  have h5:=jy hi (by show a.args.length<=9223372036854775807;omega)
  have q:=ih a.args[i] (List.getElem_mem _) t.args[i] m (ht.args _ (List.getElem_mem _)) hm;rw[js hi,js hi',jET];simp only[mtL];cases hq:mt m a.args[i] t.args[i]with
  |none=>
   rw[hq]at q;obtain⟨R,q⟩:=q;refine⟨R,?_⟩;simp only[jg,hlt,jb hi,jb hi',ji,q,List.getElem?_cons_zero]
  |some m1=>
   rw[hq]at q;have q:jp2 (sv a.args[i].name) (jS a.args[i].args) (tm t.args[i]) (m.map kv)=some (.top,[vb true,.sl 128 (m1.map kv)]):=q;obtain⟨i1,i2⟩:=jDU (p:=Tz) (λ_ h=>h.args) _ hm (ht.args _ (List.getElem_mem hi')) hq;simp only[jg,hlt,jb hi,jb hi',ji,q,List.getElem?_cons_zero,h5];exact ih2 m1 i1
 exact key2 0 (Nat.zero_le _) m hm
theorem jFK(a t:T)(ht:Tz t)(ha:Tz a)(hl:a.args.length=t.args.length)(m:ju)(hm:∀q∈m,Tz q.2)
  (ih:∀u∈a.args,∀(s:T)(m:ju),Tz s->(∀q∈m,Tz q.2)->MI (jp2 (sv u.name) (jS u.args) (tm s) (m.map kv)) (mt m u s)) :
  MI (jBn (jS a.args) (vi (a.args.length:Nat)) (vi 0) (sv t.name) (jS t.args) (m.map kv)) (mtL m a.args t.args):=by
 have ha':=ha;unfold Tz at ha;rw[ze]at ha;have key2:=upto (P:=λi=>∀m:ju,(∀q∈m,Tz q.2)->MI (jBn (jS a.args) (vi (a.args.length:Nat)) (vi i) (sv t.name) (jS t.args) (m.map kv)) (mtL m (a.args.drop i) (t.args.drop i))) (n:=a.args.length) ?_ ?_;rotate_left
 .intro m hm;rw[List.drop_length,jES];simp only[mtL];show _=_;simp only[jg]
 .intro i hi ih2 m hm;have hi':i<t.args.length:=by omega
  have hlt:(i:Int)<((a.args.length:Nat):Int):=by omega
  have h5:=jy hi (by show a.args.length<=9223372036854775807;omega)
  have q:=ih a.args[i] (List.getElem_mem _) t.args[i] m (ht.args _ (List.getElem_mem _)) hm;rw[js hi,js hi',jES];simp only[mtL];cases hq:mt m a.args[i] t.args[i]with
  |none=>
   rw[hq]at q;obtain⟨R,q⟩:=q;refine⟨R,?_⟩;simp only[jg,hlt,jb hi,jb hi',ji,q,List.getElem?_cons_zero]
  |some m1=>
   rw[hq]at q;have q:jp2 (sv a.args[i].name) (jS a.args[i].args) (tm t.args[i]) (m.map kv)=some (.top,[vb true,.sl 128 (m1.map kv)]):=q;obtain⟨i1,i2⟩:=jDU (p:=Tz) (λ_ h=>h.args) _ hm (ht.args _ (List.getElem_mem hi')) hq;simp only[jg,hlt,jb hi,jb hi',ji,q,List.getElem?_cons_zero,h5];exact ih2 m1 i1
 exact key2 0 (Nat.zero_le _) m hm
theorem jGc(a:T)(ha:Tz a)(hk:qb a=true)(t:T)(m:ju)(ht:Tz t)(hm:∀q∈m,Tz q.2)
  (ih:∀u∈a.args,∀(s:T)(m:ju),Tz s->(∀q∈m,Tz q.2)->MI (jp2 (sv u.name) (jS u.args) (tm s) (m.map kv)) (mt m u s)) :
  MI (jp2 (sv a.name) (jS a.args) (tm t) (m.map kv)) (mt m a t):=by
 have e1:G 81 [.agg [sv a.name,jS a.args]]=some (vb (jr a.name),[]):=jqv a hk;have hal:a.args.length<=1048576:=by unfold Tz at ha;rw[ze]at ha;omega
 rw[jGT];cases hv:jr a.name<;>rw[hv]at e1
 .rw [jC4 hv];have pk:(if((a.args.length:Nat):Int)=0 then G 81 [.agg [sv a.name,jS a.args]]else some (vb false,[]))=some (vb false,[]):=by split<;>first|exact e1|rfl
  by_cases he:a.name=t.name/\a.args.length=t.args.length
  .rw [if_pos he];have hl:((a.args.length:Nat):Int)=((t.args.length:Nat):Int):=by omega
   have:=jFL a t ht ha he.2 m hm ih;by_cases h0:((a.args.length:Nat):Int)=0
   .have h0':((t.args.length:Nat):Int)=0:=by omega
    rw[he.1]at e1;rw[he.2,h0']at this;simp only[jg,he.1,h0',e1,hl];exact this
   .have h0':¬((t.args.length:Nat):Int)=0:=by omega
    rw[he.1]at e1;rw[he.2]at this;simp only[jg,he.1,h0',hl];exact this
  .rw [if_neg he];refine⟨m.map kv,?_⟩;by_cases h1:a.name=t.name
   .have hl:¬((a.args.length:Nat):Int)=((t.args.length:Nat):Int):=λh=>he ⟨h1,by omega⟩;rw[h1]at e1;by_cases h0:((a.args.length:Nat):Int)=0
    .have hl0:¬(0:Int)=((t.args.length:Nat):Int):=by omega
     simp only[jg,e1,h1,h0,hl0]
    .simp only[jg,h1,h0,hl]
   .by_cases h0:((a.args.length:Nat):Int)=0
    .simp only[jg,e1,h1,h0]
    .simp only[jg,h1,h0]
 .rw [jDg hv];have h0:a.args=[]:=jbp hk hv;rw[h0]at e1;have hz:(((0:Nat):Int)=0)=True:=by simp
  have lk:=jDV [sv [],.sl 2 []] m a.name;cases hl:look m a.name with
  |none=>
   rw[hl]at lk;have lk:jez none true false [sv [],.sl 2 []] (.mp (m.map kv)) (sv a.name)=some (.tup [.agg [sv [],.sl 2 []],vb false]):=lk;have pp:=jEr hl t;show _=_;rw[h0];simp only[jg,e1,hz,lk,pp,List.map_nil]
  |some r=>
   rw[hl]at lk;have lk:jez none true false [sv [],.sl 2 []] (.mp (m.map kv)) (sv a.name)=some (.tup [tm r,vb true]):=lk;obtain⟨R,pp,hR⟩:=jEs hl (tm t);have e2:=KP r (hm _ (Zz hl)).wf t ht.wf;show MI _ (if dq r t=true then some m else none);rw[h0];cases hd:dq r t<;>rw[hd]at e2
   .rw [if_neg Bool.false_ne_true];refine⟨R,?_⟩;simp only[jg,e1,hz,lk,pp,e2,List.map_nil]
   .rw [if_pos rfl];have hr:R=m.map kv:=hR (by rw[Kw.1 hd]);rw[hr]at pp;show _=_;simp only[jg,e1,hz,lk,pp,e2,List.map_nil]
theorem jFJ(a:T)(ha:Tz a)(e1:G 81 [.agg [sv a.name,jS a.args]]=some (vb (jr a.name),[]))(hva:jr a.name=true->a.args=[])(t:T)(m:ju)(ht:Tz t)(hm:∀q∈m,Tz q.2)
  (ih:∀u∈a.args,∀(s:T)(m:ju),Tz s->(∀q∈m,Tz q.2)->MI (jp2 (sv u.name) (jS u.args) (tm s) (m.map kv)) (mt m u s)) :
  MI (jBP (tm a) (sv t.name) (jS t.args) (m.map kv)) (mt m a t):=by
 have hal:a.args.length<=1048576:=by unfold Tz at ha;rw[ze]at ha;omega
 rw[jGS];cases hv:jr a.name<;>rw[hv]at e1
 .rw [jC4 hv];have pk:(if((a.args.length:Nat):Int)=0 then G 81 [.agg [sv a.name,jS a.args]]else some (vb false,[]))=some (vb false,[]):=by split<;>first|exact e1|rfl
  by_cases he:a.name=t.name/\a.args.length=t.args.length
  .rw [if_pos he];have hl:((a.args.length:Nat):Int)=((t.args.length:Nat):Int):=by omega
   have:=jFK a t ht ha he.2 m hm ih;by_cases h0:((a.args.length:Nat):Int)=0
   .have h0':((t.args.length:Nat):Int)=0:=by omega
    rw[he.1]at e1;rw[he.2,h0']at this;simp only[jg,he.1,h0',e1,hl];exact this
   .have h0':¬((t.args.length:Nat):Int)=0:=by omega
    rw[he.1]at e1;rw[he.2]at this;simp only[jg,he.1,h0',hl];exact this
  .rw [if_neg he];refine⟨m.map kv,?_⟩;by_cases h1:a.name=t.name
   .have hl:¬((a.args.length:Nat):Int)=((t.args.length:Nat):Int):=λh=>he ⟨h1,by omega⟩;rw[h1]at e1;by_cases h0:((a.args.length:Nat):Int)=0
    .have hl0:¬(0:Int)=((t.args.length:Nat):Int):=by omega
     simp only[jg,e1,h1,h0,hl0]
    .simp only[jg,h1,h0,hl]
   .by_cases h0:((a.args.length:Nat):Int)=0
    .simp only[jg,e1,h1,h0]
    .simp only[jg,h1,h0]
 .rw [jDg hv];have h0:a.args=[]:=hva hv;rw[h0]at e1;have hz:(((0:Nat):Int)=0)=True:=by simp
  have hta:tm a = .agg [sv a.name,jS []]:=by show A.agg [_,A.sl 2 (a.args.map jm)]=_;rw[h0]
  have lk:=jDV [sv [],.sl 2 []] m a.name;cases hl:look m a.name with
  |none=>
   rw[hl]at lk;have lk:jez none true false [sv [],.sl 2 []] (.mp (m.map kv)) (sv a.name)=some (.tup [.agg [sv [],.sl 2 []],vb false]):=lk;have pp:=jEr hl t;show _=_;rw[hta];simp only[jg,e1,hz,lk,pp,List.map_nil]
  |some r=>
   rw[hl]at lk;have lk:jez none true false [sv [],.sl 2 []] (.mp (m.map kv)) (sv a.name)=some (.tup [tm r,vb true]):=lk;obtain⟨R,pp,hR⟩:=jEs hl (tm t);have e2:=KP r (hm _ (Zz hl)).wf t ht.wf;show MI _ (if dq r t=true then some m else none);rw[hta];cases hd:dq r t<;>rw[hd]at e2
   .rw [if_neg Bool.false_ne_true];refine⟨R,?_⟩;simp only[jg,e1,hz,lk,pp,e2,List.map_nil]
   .rw [if_pos rfl];have hr:R=m.map kv:=hR (by rw[Kw.1 hd]);rw[hr]at pp;show _=_;simp only[jg,e1,hz,lk,pp,e2,List.map_nil]
theorem jGb(a:T)(ha:Tz a)(hk:qb a=true)(t:T)(m:ju)(ht:Tz t)(hm:∀q∈m,Tz q.2)
  (ih:∀u∈a.args,∀(s:T)(m:ju),Tz s->(∀q∈m,Tz q.2)->MI (jp2 (sv u.name) (jS u.args) (tm s) (m.map kv)) (mt m u s)) :
  MI (jBP (tm a) (sv t.name) (jS t.args) (m.map kv)) (mt m a t):=jFJ a ha (jqv a hk) (λhv=>jbp hk hv) t m ht hm ih
theorem jGk:∀(a:T),Tz a->qb a=true-> ∀(t:T)(m:ju),Tz t->(∀q∈m,Tz q.2)->MI (jp2 (sv a.name) (jS a.args) (tm t) (m.map kv)) (mt m a t):=by
 refine T.ind λa ih ha hk t m ht hm=>?_;exact jGc a ha hk t m ht hm λu hu s m hs hm=>ih u hu (ha.args u hu) (qi hk u hu) s m hs hm
theorem jFQ(a:T)(ha:Tz a)(hk:qb a=true)(t:T)(m:ju)(ht:Tz t)(hm:∀q∈m,Tz q.2):MI (jBP (tm a) (sv t.name) (jS t.args) (m.map kv)) (mt m a t):=
 jGb a ha hk t m ht hm λu hu s m hs hm=>jGk u (ha.args u hu) (qi hk u hu) s m hs hm
theorem jb1(n:Xb)(t:T):∀(s:ju)(i:Nat),i<=s.length->(∀j,(h:j<i)-> ∀h':j<s.length,zz s[j].1 n=true)->((∃h:i<s.length,zz s[i].1 n=false)\/i=s.length)->KT s n t=s.take i++(n,t)::s.drop i
 | [],i,hi,_,_=>by
  have:i=0:=by simpa using hi
  subst this;rfl
 |p::s,0,_,_,h=>by
  have hp:zz p.1 n=false:=by
   rcases h with⟨_,h⟩|h
   .exact h
   .cases h
  unfold KT;rw[List.takeWhile_cons_of_neg (p:=λp:Xb×T=>zz p.1 n) (by simp[hp]),List.dropWhile_cons_of_neg (p:=λp:Xb×T=>zz p.1 n) (by simp[hp])];rfl
 |p::s,i+1,hi,h1,h=>by
  have hp:zz p.1 n=true:=h1 0 (by omega) (by simp);have:=jb1 n t s i (by simpa using hi) (λj hj hj'=>h1 (j+1) (by omega) (by simpa using hj')) (by
   rcases h with⟨h,h2⟩|h
   .exact Or.inl ⟨by simpa using h,h2⟩
   .exact Or.inr (by simpa using h))
  unfold KT at this⊢;rw[List.takeWhile_cons_of_pos (p:=λp:Xb×T=>zz p.1 n) hp,List.dropWhile_cons_of_pos (p:=λp:Xb×T=>zz p.1 n) hp,List.cons_append,this];rfl
theorem zU{α:Type}(f:α->Xd)(l:List α):zS (l.map f)=l.length:=List.length_map ..
theorem jj3(u:ju)(hl:u.length<=1000000)(i:Nat)(hi:i<=u.length) :
  pB u.length u.length (some (vi (i:Nat)))=some i/\yi (u.map bc) 0 i=(u.take i).map bc/\jO (u.take i).length 56=true/\pB u.length u.length none=some u.length/\pB 0 u.length (some (vi (i:Nat)))=some i/\yi (u.map bc) i (u.length-i)=(u.drop i).map bc/\kY (u.map bc) 0=u.length/\jO ((u.take i).length+1) 56=true/\jO ((u.take i).length+1+(u.drop i).length) 56=true:=by
 refine⟨yO hi,by rw[yi,List.drop_zero,List.map_take],jtX (by rw[List.length_take];omega),jbs (Nat.le_refl _),yO hi,?_,by rw[kY,List.length_map];rfl,jtX (by rw[List.length_take];omega),jtX (by rw[List.length_take,List.length_drop];omega)⟩
 rw[yi,<-List.map_drop,List.take_of_length_le (by rw[List.length_map,List.length_drop];omega)]
theorem jj2(u v:ju)(n:Xb)(t:T):j4 (j4 (u.map bc) [[sv n,sv t.name,jS t.args]]) (v.map bc)=(u++(n,t)::v).map bc:=by
 rw[List.map_append];show(u.map bc++[_])++v.map bc=u.map bc++_::v.map bc;rw[List.append_assoc];rfl
theorem jj4(u:ju)(n:Xb)(t:T):(j4 (u.map bc) [[sv n,sv t.name,jS t.args]]).length=u.length+1:=by
 simp[j4]
theorem jnq(u:ju)(hl:u.length<=1000000)(n:Xb)(t:T)(ht:Tz t):jkQ (sv n) (tm t) (u.map bc)=some (.top,[JY (Ks u n t)]):=by
 have e1:=jhZ t ht;have key:=upto (P:=λi=>(∀j,(h:j<i)-> ∀h':j<u.length,zz u[j].1 n=true)->jdt (sv n) (vi i) (sv t.name) (jS t.args) (u.map bc) []=some (.top,[JY (KT u n t)])) (n:=u.length) ?_ ?_ 0 (Nat.zero_le _) (λj h=>absurd h (Nat.not_lt_zero _))
 .rw [jvT,Ks];by_cases h:t.name=n
  .rw [if_pos h];simp only[jg,h]
  .rw [if_neg h];have e:jdt (sv n) (vi 0) (sv t.name) (jS t.args) (u.map bc) []=some (.top,[JY (KT u n t)]):=key;simp only[jg,h,e]
 .intro hall;rw[jb1 n t u u.length (Nat.le_refl _) hall (Or.inr rfl)];obtain⟨k1,k2,k3,k4,k5,k6,k7,k8,k9⟩:=jj3 u hl u.length (Nat.le_refl _);have m1:=jj2 (u.take u.length) (u.drop u.length) n t;have m2:=jj4 (u.take u.length) n t;rw[jqR];simp only[jg,zU,k1,k2,k3,k4,k5,k6,k7,yP,Nat.sub_zero,e1];generalize hB:zk _ _ _=B;have hB':B=some (.agg [sv n,sv t.name,jS t.args]):=by rw[<-hB];kernel_rfl
  rw[hB'];simp only[jg,k8,k9,m1,m2]
 .intro i hi ih hall;have hlt:(i:Int)<((u.length:Nat):Int):=by omega
  have h5:=jy hi (by show u.length<=9223372036854775807;omega)
  have x1:ZB u.length (vi ((i:Nat):Int))=some i:=zR hi;have x2:=jrP hi;cases hs:zz u[i].1 n
  .rw [jb1 n t u i (by omega) hall (Or.inl ⟨hi,hs⟩)];obtain⟨k1,k2,k3,k4,k5,k6,k7,k8,k9⟩:=jj3 u hl i (by omega);have m1:=jj2 (u.take i) (u.drop i) n t;have m2:=jj4 (u.take i) n t;rw[jqR];simp only[jg,hlt,x1,x2,hs,zU,k1,k2,k3,k4,k5,k6,k7,yP,Nat.sub_zero,e1];generalize hB:zk _ _ _=B;have hB':B=some (.agg [sv n,sv t.name,jS t.args]):=by rw[<-hB];kernel_rfl
   rw[hB'];simp only[jg,k8,k9,m1,m2]
  .have ih:=ih λj hj hj'=>by
    by_cases h:j=i
    .subst h;exact hs
    .exact hall j (by omega) hj'
   rw[jqR];simp only[jg,hlt,x1,x2,hs,h5,ih]
theorem jj0(s:ju)(n:Xb)(t:T):(Ks s n t).length<=s.length+1:=by
 unfold Ks;split
 .omega
 .unfold KT;rw[List.length_append,List.length_cons];have:=List.takeWhile_append_dropWhile (p:=λp:Xb×T=>zz p.1 n) (l:=s);have:=congrArg List.length this;rw[List.length_append]at this;omega
theorem jj1{s:ju}{n:Xb}{t:T}{q:Xb×T}(h:q∈Ks s n t):q∈s\/q=(n,t):=by
 unfold Ks at h;split at h
 .exact Or.inl h
 .unfold KT at h;rw[List.mem_append,List.mem_cons]at h;rcases h with h|h|h
  .exact Or.inl (List.takeWhile_subset _ h)
  .exact Or.inr h
  .exact Or.inl (List.dropWhile_subset _ h)
theorem jEo:∀(m s:ju),(m.foldl (λs p=>Ks s p.1 p.2) s).length<=s.length+m.length
 | [],s=>by simp
 |p::m,s=>by
  rw[List.foldl_cons,List.length_cons];have:=jEo m (Ks s p.1 p.2);have:=jj0 s p.1 p.2;omega
theorem jEp:∀(m s:ju){q:Xb×T},q∈m.foldl (λs p=>Ks s p.1 p.2) s->q∈s\/q∈m
 | [],s,q,h=>Or.inl h
 |p::m,s,q,h=>by
  rw[List.foldl_cons]at h;rcases jEp m _ h with h|h
  .rcases jj1 h with h|h
   .exact Or.inl h
   .exact Or.inr (by rw[h];simp)
  .exact Or.inr (by simp[h])
theorem jFV{m:ju}{q:Xb×T}(h:q∈QV m):q∈m:=by
 rcases jEp m [] h with h|h
 .cases h
 .exact h
theorem jGn(m:ju)(hm:∀q∈m,Tz q.2)(hl:m.length<=1000000):G 157 [JY m]=some (sb (QV m),[]):=by
 have key:=upto (P:=λi=>∀s:ju,s.length<=i->jEF (JY m) (vi i) [] (s.map bc)=some (sb ((m.drop i).foldl (λs p=>Ks s p.1 p.2) s),[])) (n:=m.length) ?_ ?_ 0 (Nat.zero_le _) [] (Nat.le_refl _)
 .rw [jHT];exact key
 .intro s _;rw[jGi,List.drop_length];simp only[jg];rfl
 .intro i hi ih s hs;have hlt:(i:Int)<((m.length:Nat):Int):=by omega
  have h5:=jy hi (by show m.length<=9223372036854775807;omega)
  have e1:=jnq s (by omega) m[i].1 m[i].2 (hm _ (List.getElem_mem _));have:=jj0 s m[i].1 m[i].2;have ih:=ih (Ks s m[i].1 m[i].2) (by omega);rw[jGi,js hi,List.foldl_cons];simp only[jg,hlt,jb hi,ZC,e1,h5,ih]
theorem jHm{n:Nat}(h:n<=4194304):jO n 24=true:=by
 unfold jO;exact decide_eq_true ⟨by omega,by omega⟩
theorem jHn{n:Nat}(h:n<=4194304):jO n 8=true:=by
 unfold jO;exact decide_eq_true ⟨by omega,by omega⟩
abbrev pln(p:Xf):A:= .sl 1 (p.map λn=>[vi (n:Nat)])
abbrev plc(p:Xf):Xd:=[pln p]
theorem jGF(p:Xf)(h:p.length<=4194304):jEy (pln p)=some (.top,[pln p]):=by
 rw[jGX];have:=jHn (n:=p.length) h;simp only[jg,this]
mutual
theorem joD:∀t:T,(jjX t).length=nodes t
 |.mk n us=>by
  rw[jjX,nodes,List.length_append,jgm us 0];simp;omega
theorem jgm:∀(us:Xg)(i:Nat),(jeF i us).length=jF us
 | [],i=>rfl
 |t::ts,i=>by
  rw[jeF,jF,List.length_append,List.length_map,joD t,jgm ts (i+1)]
end
theorem post_eq:∀(t:T)(p:Xf),Tz t->p.length+tsz t<=2000000->G 155 [tm t,pln p]=some (.sl 1 ((jjX t).map λq=>plc (p++q)),[]):=by
 refine T.ind λt ih p ht hp=>?_;have hs:=ht;unfold Tz at hs;rw[ze]at hs hp;have hnl:=Yk t;have hne:=jU t;have e0:=jGF p (by omega);have hsplit:∀i,i<=t.args.length->jF (t.args.take i)+jF (t.args.drop i)=jF t.args:=by
  intro i _;have:∀a b:Xg,jF (a++b)=jF a+jF b:=by
   intro a b;induction a with
   |nil=>simp[jF]
   |cons x a ih=>simp only[List.cons_append,jF,ih];omega
  rw[<-this,List.take_append_drop]
 have key:=upto (P:=λi=>∀R:Xc,R.length+jF (t.args.drop i)<=2000000->jEE (pln p) (vi i) (sv t.name) (jS t.args) R=some (.sl 1 (R++(jeF i (t.args.drop i)++[[]]).map λq=>plc (p++q)),[])) (n:=t.args.length) ?_ ?_ 0 (Nat.zero_le _) [] (by simp;unfold Tz at ht;omega)
 .rw [jHS,jEZ];simp only[Int.natCast_zero,List.nil_append,List.drop_zero]at key;simp only[jg,key]
 .intro R hR;rw[jGf,List.drop_length];have hf:jO (R.length+1) 24=true:=jHm (by omega);simp only[jg,e0,hf];rw[jeF,List.nil_append,List.map_cons,List.append_nil];rfl
 .intro i hi ih2 R hR;have hlt:(i:Int)<((t.args.length:Nat):Int):=by omega
  have h5:=jy hi (by show t.args.length<=9223372036854775807;omega)
  have hm:tsz t.args[i]<=JP t.args:=yQ (List.getElem_mem _);have ed:jF (t.args.drop i)=nodes t.args[i]+jF (t.args.drop (i+1)):=by rw[js hi];rfl
  have e2:=ih t.args[i] (List.getElem_mem _) (p++[i]) (ht.args _ (List.getElem_mem _)) (by rw[List.length_append,List.length_singleton];omega)
  have ea:j4 (p.map λn:Nat=>[vi (n:Nat)]) [[vi (i:Nat)]]=(p++[i]).map λn:Nat=>[vi (n:Nat)]:=by rw[List.map_append];rfl
  have hf1:jO (p.length+1) 8=true:=jHn (by omega);have hpl:=joD t.args[i];have hf2:jO (R.length+(jjX t.args[i]).length) 24=true:=jHm (by omega);have ih3:=ih2 (j4 R ((jjX t.args[i]).map λq=>plc ((p++[i])++q))) (by show(R++_).length+_<=_;rw[List.length_append,List.length_map];omega);rw[jGf,js hi,jeF];simp only[jg,hlt,jb hi,ji,e0,hf1,ea,e2,hf2,h5,ih3];congr 2;show A.sl 1 ((R++_)++_)=_;congr 1;rw[List.append_assoc,List.append_assoc,List.map_append,List.map_append,List.map_map];congr 2;refine List.map_congr_left λq _=>?_;show plc (p++[i]++q)=plc (p++(i::q));rw[List.append_assoc];rfl;rw[List.map_append]
def okP:Xf->T->Prop
 | [],_=>True
 |i::p,t=>i<t.args.length/\okP p (t.args.getD i (.mk [] []))
theorem jmY{ts:Xg}{i:Nat}(h:i<ts.length):ts.getD i (.mk [] [])=ts[i]:=by rw[List.getD_eq_getElem?_getD,List.getElem?_eq_getElem h];rfl
mutual
theorem jrS:∀(t:T),∀p∈jjX t,okP p t/\p.length<=nodes t
 |.mk n us=>λp hp=>by
  rw[jjX,List.mem_append]at hp;rcases hp with hp|hp
  .obtain ⟨j,q,rfl,h1,h2,h3⟩:=jjW us 0 p hp;refine⟨?_,?_⟩
   .show (0+j)<us.length/\okP q (us.getD (0+j) _);rw[Nat.zero_add];exact⟨h1,h2⟩
   .rw [List.length_cons,nodes];omega
  .rw [List.mem_singleton]at hp;subst hp;exact⟨trivial,by simp⟩
theorem jjW:∀(us:Xg)(i:Nat),∀p∈jeF i us,∃j q,p=(i+j)::q/\j<us.length/\okP q (us.getD j (.mk [] []))/\q.length<=jF us
 | [],i,p,hp=>by rw[jeF]at hp;cases hp
 |t::ts,i,p,hp=>by
  rw[jeF,List.mem_append]at hp;rcases hp with hp|hp
  .obtain ⟨q,hq,rfl⟩:=List.mem_map.1 hp;obtain⟨h1,h2⟩:=jrS t q hq;exact⟨0,q,rfl,by simp,h1,by rw[jF];omega⟩
  .obtain ⟨j,q,rfl,h1,h2,h3⟩:=jjW ts (i+1) p hp;exact⟨j+1,q,by rw[show i+1+j=i+(j+1) by omega],by simpa using h1,by simpa using h2,by rw[jF];omega⟩
end
theorem jnm{q:T->Prop}(hq:∀t,q t-> ∀u∈t.args,q u):∀{p:Xf}{t:T},okP p t->q t->q (atT p t)
 | [],_,_,h=>h
 |i::p,t,hp,h=>by
  obtain⟨h1,h2⟩:=hp;refine jnm (p:=p) hq h2 ?_;rw[jmY h1];exact hq t h _ (List.getElem_mem _)
theorem jyY(i:Nat)(p:Xf):pln (i::p) = .sl 1 ([vi (i:Nat)]::p.map λn=>[vi (n:Nat)]):=rfl
theorem jc3{p:Xf}{i:Nat}(h:i<p.length):jz 1 (pln p) (vi (i:Nat))=some (.elt [vi (p[i]:Nat)] 0):=jb h
theorem at_eq(t:T)(p:Xf)(ht:Tz t)(hp:okP p t)(hl:p.length<=2000000):G 72 [tm t,pln p]=some (.tup [tm (atT p t),vb true],[]):=by
 have key:=upto (P:=λi=>∀t:T,Tz t->okP (p.drop i) t->jCb (pln p) (vi i) (sv t.name) (jS t.args) (sv []) []=some (.tup [tm (atT (p.drop i) t),vb true],[])) (n:=p.length) ?_ ?_ 0 (Nat.zero_le _) t ht hp
 .rw [g72];simp only[jg];exact key
 .intro t ht _;have e1:=jhZ t ht;rw[jD0,List.drop_length];simp only[jg,e1];rfl
 .intro i hi ih t ht hp;have hlt:(i:Int)<((p.length:Nat):Int):=by omega
  have h5:=jy hi (by show p.length<=9223372036854775807;omega)
  have hs:=ht;unfold Tz at hs;rw[ze]at hs;rw[js hi]at hp⊢;obtain⟨h1,h2⟩:=hp;have hsub:ck (((t.args.length:Nat):Int)-1)=some (vi (((t.args.length:Nat):Int)-1)):=jZ (by omega) (by omega);have hin:=jaO ((p[i]:Nat):Int) 0 (((t.args.length:Nat):Int)-1);have hb:ZW 0 (((t.args.length:Nat):Int)-1) ((p[i]:Nat):Int)=true:=by unfold ZW;simp;omega
  rw[hb]at hin;have e:t.args.getD p[i] (.mk [] [])=t.args[p[i]]:=jmY h1;rw[e]at h2;have ih:=ih _ (ht.args _ (List.getElem_mem h1)) h2;rw[jD0,atT,e];simp only[jg,hlt,jc3 hi,hsub,hin,jb h1,ji,h5,ih]
theorem jCr(t:T)(ht:Tz t):jA5 (sv t.name) (jS t.args)=some (.top,[sv t.name,jS t.args]):=by
 have h:=ht;unfold Tz at h;rw[ze]at h;have key:=(upto (P:=λi=>jsA (vi i) (sv t.name) (jS t.args) (sv []) (sv t.name) [] ((t.args.take i).map jm)=some (.top,[sv t.name,jS t.args])) (n:=t.args.length) ?_ ?_ 0 (Nat.zero_le _))
 .rw [jEc];simp only[Int.natCast_zero,List.take_zero,List.map_nil]at key;simp only[jg,key]
 .rw [jBD,List.take_length];simp only[jg]
 .intro i hi ih';have hlt:(i:Int)<((t.args.length:Nat):Int):=by omega
  have h5:=jy hi (by show t.args.length<=9223372036854775807;omega)
  have e1:=jhZ t.args[i] (by have:=yQ (List.getElem_mem hi);omega)
  have hf:jO (i+1) 40=true:=jtW (by omega);have hl:((t.args.take i).map jm).length=i:=by rw[List.length_map,List.length_take];omega
  have ha:j4 ((t.args.take i).map jm) [[sv t.args[i].name,jS t.args[i].args]]=(t.args.take (i+1)).map jm:=by
   rw[show[sv t.args[i].name,jS t.args[i].args]=jm t.args[i] from(kR _).symm,List.take_add_one,List.getElem?_eq_getElem hi,List.map_append];rfl
  rw[jBD];simp only[jg,hlt,jb hi,ji,e1,hl,hf,ha,h5,ih']
theorem jCv(s:T)(hs:Tz s):∀(p:Xf)(t:T),Tz t->okP p t->p.length<=2000000->G 77 [tm t,pln p,tm s]=some (tm (jvz s p t),[])
 | [],t,_,_,_=>by
  have e1:=jCr s hs;have hz:(((0:Nat):Int)=0)=True:=by simp
  rw[g77,jvz];simp only[jg,hz,e1,List.map_nil,List.getElem?_cons_zero]
 |i::p,t,ht,hp,hl=>by
  obtain⟨h1,h2⟩:=hp;have e:t.args.getD i (.mk [] [])=t.args[i]:=jmY h1;rw[e]at h2;have e1:=jCr t ht;have e2:=jCv s hs p t.args[i] (ht.args _ (List.getElem_mem h1)) h2 (by rw[List.length_cons]at hl;omega);have hz:¬((p.length+1:Nat):Int)=0:=by omega
  have hz2:¬((p.length:Nat):Int)+1=0:=by omega
  have i0:jz 1 (pln (i::p)) (vi 0)=some (.elt [vi (i:Nat)] 0):=jc3 (p:=i::p) (i:=0) (by simp);have sl:yt 1 (pln (i::p)) (some (vi 1)) none=some (pln p):=by
   have:=Yq (k:=1) (xs:=(i::p).map λn:Nat=>[vi (n:Nat)]) (i:=1) (by simp);exact this
  have ix:ZB t.args.length (vi (i:Nat))=some i:=zR h1;have rg:ZY (t.args.map jm) i=some (jm t.args[i]):=by unfold ZY;simp[h1]
  have co:zf (jm t.args[i]) 0 [sv (jvz s p t.args[i]).name,jS (jvz s p t.args[i]).args]=jm (jvz s p t.args[i]):=by rw[kR,kR];rfl
  have rs:yh (t.args.map jm) i (jm (jvz s p t.args[i]))=(t.args.set i (jvz s p t.args[i])).map jm:=by unfold yh;rw[List.map_set]
  have ll:(zG (pln (i::p)))=some (vi ((p.length+1:Nat):Int)):=by rw[jyY];simp only[jg]
  rw[g77,jvz,e];simp only[jg,ll,hz,e1,i0,jb h1,ji,sl,e2,ix,rg,co,rs,List.getElem?_cons_zero];rfl
theorem jfc{n:Xb}(h:jr n=true):n.length<=4:=by
 cases n with
 |nil=>simp
 |cons c r=>
  simp only[jr,Bool.and_eq_true,decide_eq_true_eq]at h;rw[List.length_cons];omega
theorem jo5{n:Xb}(h:qz n=true):n.length<=6:=by
 cases n with
 |nil=>simp
 |cons c r=>
  simp only[qz,Bool.and_eq_true,decide_eq_true_eq]at h;rw[List.length_cons];omega
theorem jev:∀t:T,qb t=true->tsz t<=10*nodes t:=by
 refine T.ind λt ih hk=>?_;have hL:∀us:Xg,(∀u∈us,tsz u<=10*nodes u)->JP us<=10*jF us:=by
  intro us;induction us with
  |nil=>intro _;simp[JP]
  |cons u us ih2=>
   intro h;have:=h u (by simp);have:=ih2 λw hw=>h w (by simp[hw]);simp only[JP,jF];omega
 have h1:=hL t.args λu hu=>ih u hu (qi hk u hu);rw[ze,jU];rw[qj]at hk;cases hv:jr t.name with
 |true=>
  rw[hv,if_pos rfl]at hk;have:=jfc hv;rw[List.isEmpty_iff.1 hk]at h1⊢;simp only[List.length_nil,JP]at h1⊢;omega
 |false=>
  rw[hv,if_neg Bool.false_ne_true,Bool.and_eq_true,Bool.and_eq_true,decide_eq_true_eq]at hk;have:=jo5 hk.1;omega
theorem jo4{u:ju}{Z:Nat}(hZ:1<=Z)(hu:∀q∈u,nodes q.2<=Z):∀t:T,nodes (sub u t)<=nodes t*Z:=by
 refine T.ind λt ih=>?_;cases hv:jr t.name with
 |true=>
  have h1:=Zc t;have h2:1*Z<=nodes t*Z:=Nat.mul_le_mul_right Z h1;rw[KI hv,jc1];cases hl:look u t.name with
  |none=>show 1+0<=_;omega
  |some r=>have:nodes r<=Z:=hu _ (Zz hl);show nodes r<=_;omega
 |false=>
  have hL:∀us:Xg,(∀v∈us,nodes (sub u v)<=nodes v*Z)->jF (us.map (sub u))<=jF us*Z:=by
   intro us;induction us with
   |nil=>intro _;simp[jF]
   |cons v us ih2=>
    intro h;have:=h v (by simp);have:=ih2 λw hw=>h w (by simp[hw]);simp only[List.map_cons,jF,Nat.add_mul];omega
  have:=hL t.args ih;rw[jU,jbm hv,jU t,Nat.add_mul];omega
theorem Zb{t u:T}(h:u∈t.args):nodes u<nodes t:=by
 have:=ZA h;have:=jU t;omega
def Vs(t:T):Prop:=qb t=true/\nodes t<=30
theorem Vs.args{t:T}(h:Vs t):∀u∈t.args,Vs u:=λu hu=>⟨qi h.1 u hu,by have:=Zb hu;have:=h.2;omega⟩
theorem Vs.tz{t:T}(h:Vs t):Tz t:=by
 have:=jev t h.1;have:=h.2;unfold Tz;omega
def RS(rs:Xg):Prop:=rs.length<=10/\ ∀r∈rs,r.args.length=2/\Vs (jtH r)/\Vs (jt9 r)
theorem RS.ok{rs:Xg}(h:RS rs):jyN rs:=λr hr=>⟨(h.2 r hr).2.1.1,(h.2 r hr).2.2.1⟩
def EX(root:Bool)(t:T):Prop:=(nodes t<=31/\Tz t)/\(∀u∈t.args,Vs u)/\(root=true->Vs t)
theorem jGl{a s:T}{m:ju}(hs:Vs s)(h:mt [] a s=some m):MOk Vs m:=jrq (p:=Vs) (λ_ h=>h.args) a (MOk.nil _) hs h
theorem jEt{r:T}(hl:r.args.length=2):jz 2 (jS r.args) (vi 0)=some (.elt (jm (jtH r)) 0)/\jz 2 (jS r.args) (vi 1)=some (.elt (jm (jt9 r)) 0):=by
 have i0:jz 2 (jS r.args) (vi 0)=some (.elt (jm r.args[0]) 0):=jb (i:=0) (by omega);have i1:jz 2 (jS r.args) (vi 1)=some (.elt (jm r.args[1]) 0):=jb (i:=1) (by omega);have e0:jtH r=r.args[0]:=jmY (by omega);have e1:jt9 r=r.args[1]:=jmY (by omega);rw[e0,e1];exact⟨i0,i1⟩
theorem jGs{m:ju}{r:T}(hm:MOk Vs m)(hr:Vs r):qb (sub m r)=true/\nodes (sub m r)<=900/\Tz (sub m r):=by
 have h1:=jb4 (u:=m) (λq hq=>(hm.2 q hq).2.1) r hr.1;have h2:=jo4 (u:=m) (Z:=30) (by decide) (λq hq=>(hm.2 q hq).2.2) r;have h3:=hr.2;have h4:=jev _ h1;exact⟨h1,by omega,by unfold Tz;omega⟩
theorem jGq{rs:Xg}(hr:RS rs){s v:T}(hs:Vs s)(h:jr0 rs s=some v):qb v=true/\nodes v<=900:=by
 have key:∀rs:Xg,(∀r∈rs,r.args.length=2/\Vs (jtH r)/\Vs (jt9 r))->jr0 rs s=some v->qb v=true/\nodes v<=900:=by
  intro rs;induction rs with
  |nil=>intro _ h;simp[jr0]at h
  |cons r rs ih=>
   intro hr h;rw[jr0]at h;split at h
   .rename_i m hm;cases h;obtain⟨a,b,_⟩:=jGs (jGl hs hm) (hr r (by simp)).2.2;exact⟨a,b⟩
   .exact ih (λq hq=>hr q (by simp[hq])) h
 exact key rs hr.2 h
def jCd(t:T)(o:Option T):Xe:=match o with|some u=>some (.tup [tm u,vb true],[])|none=>some (.tup [tm t,vb false],[])
theorem EX.at{root:Bool}{t:T}(h:EX root t){p:Xf}(hp:okP p t)(hne:¬(p=[]/\root=false)):Vs (atT p t):=by
 obtain⟨_,h1,h2⟩:=h;cases p with
 |nil=>
  cases root
  .exact absurd ⟨rfl,rfl⟩ hne
  .exact h2 rfl
 |cons i p=>
  obtain⟨a,b⟩:=hp;refine jnm (p:=p) (q:=Vs) (λ_ h=>h.args) b ?_;rw[jmY a];exact h1 _ (List.getElem_mem _)
theorem jFU(rs:Xg)(hr:RS rs)(root:Bool)(t:T)(h:EX root t):G 105 [tm t,jS rs,vb root]=jCd t (jyh rs root t):=by
 have hrt:=h.1.2;have hpost:=post_eq t [] hrt (by have:=hrt;unfold Tz at this;simp;omega);have hpost:G 155 [tm t,.sl 1 []]=some (.sl 1 ((jjX t).map plc),[]):=hpost;have hok:=jrS t;have hln:=joD t;have hr1:=hr.1;rw[<-jFT];generalize hP:jjX t=P at *;have key:=upto (P:=λi=>jCN (jS rs) (vb root) (.sl 1 (P.map plc)) (vi i) (sv t.name) (jS t.args) (sv []) []=jCd t ((P.drop i).findSome? (jAH rs root t))) (n:=P.length) ?_ ?_ 0 (Nat.zero_le _)
 .rw [jHR];simp only[Int.natCast_zero,List.drop_zero]at key;simp only[jg,hpost,key]
 .rw [jFt,List.drop_length];show _=some (A.tup [tm t,vb false],[]);simp only[jg]
 .intro i hi ih;have hn:=h.1.1;have hlt:(i:Int)<((P.length:Nat):Int):=by omega
  have h5:=jy hi (by show P.length<=9223372036854775807;omega)
  have hpi:jz 1 (.sl 1 (P.map plc)) (vi (i:Nat))=some (.elt (plc P[i]) 0):=jb hi;have hpl:zG (pln P[i])=some (vi ((P[i].length:Nat):Int)):=by simp only[jg]
  obtain⟨ho,hl⟩:=hok P[i] (List.getElem_mem _);rw[js hi,List.findSome?_cons];by_cases hc:P[i]=[]/\root=false
  .rw [jAH,if_pos hc];obtain⟨c1,c2⟩:=hc;subst c2;have c3:(((P[i]).length:Nat):Int)=0:=by rw[c1];rfl
   rw[jFt];simp only[jg,hlt,hpi,hpl,c3,h5,ih]
  .have hs:=h.at ho hc;rw[jAH,if_neg hc];have e1:=at_eq t P[i] hrt ho (by omega);have inner:∀j,j<=rs.length->jCP (jS rs) (vb root) (.sl 1 (P.map plc)) (vi i) (vi j) (sv t.name) (jS t.args) (sv []) (sv (atT P[i] t).name) (jS (atT P[i] t).args) []=(match jr0 (rs.drop j) (atT P[i] t)with|some v=>jCd t (some (jvz v P[i] t))|none=>jCd t ((P.drop (i+1)).findSome? (jAH rs root t))):=by
    refine upto ?_ ?_
    .rw [jGe,List.drop_length,jr0];simp only[jg,h5,ih]
    .intro j hj ihj;have hltj:(j:Int)<((rs.length:Nat):Int):=by omega
     have h5j:=jy hj (by show rs.length<=9223372036854775807;omega)
     obtain⟨hr2,hr3,hr4⟩:=hr.2 rs[j] (List.getElem_mem _);obtain⟨i0,i1⟩:=jEt hr2;have ad:Jk (.elt (jm rs[j]) 0) 1=some (.elt (jm rs[j]) 1):=by rw[yN]
     have lp:kU (.elt (jm rs[j]) 1)=some (jS rs[j].args):=by rw[kR];rfl
     have q:=jEW (jtH rs[j]) hr3.tz (atT P[i] t) [] hs.tz (λq hq=>by cases hq) (by have:=hr3.2;simp;omega)
     rw[jGe,js hj,jr0];cases hm:mt [] (jtH rs[j]) (atT P[i] t)with
     |none=>
      rw[hm]at q;obtain⟨R,q⟩:=q;have q:jDD (tm (jtH rs[j])) (sv (atT P[i] t).name) (jS (atT P[i] t).args) []=some (.top,[vb false,.sl 259 R]):=q;simp only[jg,hltj,jb hj,ad,lp,i0,ji,q,List.getElem?_cons_zero,h5j,ihj]
     |some m=>
      rw[hm]at q;have q:jDD (tm (jtH rs[j])) (sv (atT P[i] t).name) (jS (atT P[i] t).args) []=some (.top,[vb true,.sl 259 (m.map bc)]):=q;have hM:=jGl hs hm;obtain⟨_,hml⟩:=jDU (p:=Vs) (λ_ h=>h.args) _ (m:=[]) (λq hq=>by cases hq) hs hm;have hml:m.length<=30:=by have:=hr3.2;simp at hml;omega
      have p1:=jGn m (λq hq=>(hM.2 q hq).2.tz) (by omega);have hsz:Sz 1048576 (QV m):=by
       refine⟨?_,λq hq=>?_⟩
       .have:=jEo m [];show(QV m).length<=_;unfold QV;simp at this;omega
       .have hq:=jFV hq;have:=jfc (hM.2 q hq).1;have:=(hM.2 q hq).2.tz;unfold Tz at this;exact⟨by omega,by omega⟩
      have p2:=QN (QV m) hsz (jt9 rs[j]) hr4.tz;rw[jF0 (m:=m) ⟨hM.1,λq hq=>⟨(hM.2 q hq).1,(hM.2 q hq).2.1⟩⟩]at p2;obtain⟨_,_,s3⟩:=jGs hM hr4;have p3:=jCv (sub m (jt9 rs[j])) s3 P[i] t hrt ho (by omega);show _=some (A.tup [tm (jvz (sub m (jt9 rs[j])) P[i] t),vb true],[]);simp only[jg,hltj,jb hj,ad,lp,i0,i1,ji,q,List.getElem?_cons_zero,hpi,p1,p2,p3]
   have inner:=inner 0 (Nat.zero_le _);simp only[List.drop_zero,Int.natCast_zero]at inner;have fin:jCN (jS rs) (vb root) (.sl 1 (P.map plc)) (vi i) (sv t.name) (jS t.args) (sv []) []=jCP (jS rs) (vb root) (.sl 1 (P.map plc)) (vi i) (vi 0) (sv t.name) (jS t.args) (sv []) (sv (atT P[i] t).name) (jS (atT P[i] t).args) []:=by
    rw[jFt];cases root with
    |true=>
     by_cases c:(((P[i]).length:Nat):Int)=0
     .simp only[jg,hlt,hpi,hpl,c,e1]
     .simp only[jg,hlt,hpi,hpl,c,e1]
    |false=>
     have c:¬(((P[i]).length:Nat):Int)=0:=λc=>hc ⟨List.length_eq_zero_iff.1 (by omega),rfl⟩;simp only[jg,hlt,hpi,hpl,c,e1]
   rw[fin,inner];cases jr0 rs (atT P[i] t)with
   |none=>rfl
   |some v=>rfl
def jwy(o:Option T):Xe:=match o with|some u=>some (.tup [tm u,vb true],[])|none=>some (.tup [.agg [sv [],.sl 2 []],vb false],[])
def Srt(l:Xa):Prop:=l.Pairwise λx y=>x<y
theorem Q3(x y:Xb):zz x y=decide (x<y):=Go.Proofs.bytesLess_eq x y
theorem jwq{x y:Xb}(h1:¬x<y)(h2:x≠y):y<x:=by
 have h3:y<=x:=List.not_lt.1 h1;exact Std.lt_of_le_of_ne h3 (Ne.symm h2)
theorem jCt:∀(a b:Xa),Srt a->Srt b->(∀n,n∈a↔n∈b)->a=b
 | [],[],_,_,_=>rfl
 | [],y::b,_,_,h=>by have:=(h y).2 (by simp);cases this
 |x::a,[],_,_,h=>by have:=(h x).1 (by simp);cases this
 |x::a,y::b,ha,hb,h=>by
  have ha':=List.pairwise_cons.1 ha;have hb':=List.pairwise_cons.1 hb;have hxy:x=y:=by
   have h1:x∈y::b:=(h x).1 (by simp);have h2:y∈x::a:=(h y).2 (by simp);rcases List.mem_cons.1 h1 with h1|h1
   .exact h1
   .rcases List.mem_cons.1 h2 with h2|h2
    .exact h2.symm
    .exact absurd (List.lt_trans (ha'.1 y h2) (hb'.1 x h1)) (List.lt_irrefl x)
  subst hxy;refine congrArg (x::·) (jCt a b ha'.2 hb'.2 λn=>⟨λhn=>?_,λhn=>?_⟩)
  .rcases List.mem_cons.1 ((h n).1 (List.mem_cons_of_mem _ hn))with e|e
   .subst e;exact absurd (ha'.1 _ hn) (List.lt_irrefl _)
   .exact e
  .rcases List.mem_cons.1 ((h n).2 (List.mem_cons_of_mem _ hn))with e|e
   .subst e;exact absurd (hb'.1 _ hn) (List.lt_irrefl _)
   .exact e
theorem jDn{l:Xa}(h:l.Nodup):Srt (yG l):=by
 have h1:(yG l).Pairwise λx y=>decide (x<=y)=true:=List.pairwise_mergeSort (λa b c h1 h2=>by simp only[decide_eq_true_eq]at *;exact List.le_trans h1 h2) (λa b=>by simp only[Bool.or_eq_true,decide_eq_true_eq];exact List.le_total a b) l
 have h2:(yG l).Nodup:=(List.mergeSort_perm l _).nodup_iff.2 h;exact(h1.and h2).imp λ{x y} hxy=>Std.lt_of_le_of_ne (by simpa using hxy.1) hxy.2
theorem jCu{l:Xa}{s:Xb}{i:Nat}(hl:Srt l)(h1:∀x∈l.take i,x<s)(h2:∀h:i<l.length,s<l[i]):Srt (l.take i++[s]++l.drop i):=by
 have hl':Srt (l.take i++l.drop i):=by rw[List.take_append_drop];exact hl
 obtain⟨p1,p2,p3⟩:=List.pairwise_append.1 hl';have h3:∀y∈l.drop i,s<y:=by
  intro y hy;have hlt:i<l.length:=by
   rcases Nat.lt_or_ge i l.length with h|h
   .exact h
   .rw [List.drop_of_length_le h]at hy;cases hy
  rw[List.drop_eq_getElem_cons hlt]at hy p2;rcases List.mem_cons.1 hy with e|e
  .subst e;exact h2 hlt
  .exact List.lt_trans (h2 hlt) ((List.pairwise_cons.1 p2).1 y e)
 refine List.pairwise_append.2 ⟨List.pairwise_append.2 ⟨p1,by simp,λa ha b hb=>?_⟩,p2,λa ha b hb=>?_⟩
 .rw [List.mem_singleton.1 hb];exact h1 a ha
 .rcases List.mem_append.1 ha with ha|ha
  .exact p3 a ha b hb
  .rw [List.mem_singleton.1 ha];exact h3 b hb
theorem jCM{l:Xa}(h:Srt l):l.Nodup:=h.imp λ{x y} hxy e=>by subst e;exact List.lt_irrefl _ hxy
mutual
def jyD:T->Xa
 |.mk n us=>(if jr n then[]else[n])++jsj us
def jsj:Xg->Xa
 | []=>[]
 |t::ts=>jyD t++jsj ts
end
theorem jf0(t:T):jyD t=(if jr t.name then[]else[t.name])++jsj t.args:=by cases t;rfl
theorem jCD(l:Xa)(s:Xb)(hl:l.length<=2100000):∃r,G 169 [strs l,sv s]=some (strs r,[])/\jps l [s] 1 r/\(Srt l->Srt r):=by
 have key:=upto (P:=λi=>(Srt l-> ∀x∈l.take i,x<s)-> ∃r,jhe (strs l) (sv s) (vi i)=some (strs r,[])/\jps l [s] 1 r/\(Srt l->Srt r)) (n:=l.length) ?_ ?_ 0 (Nat.zero_le _)
 .simp only[Int.natCast_zero]at key;rw[jAb];exact key (by simp)
 .intro hless;have hx:¬((l.length:Nat):Int)<((l.length:Nat):Int):=Int.lt_irrefl _;have s1:yt 1 (strs l) none (some (vi (l.length:Nat)))=some (strs l):=by rw[Yr (by simp),List.take_of_length_le (by simp)]
  have s2:yt 1 (strs l) (some (vi (l.length:Nat))) none=some (.sl 1 []):=by rw[Yq (by simp),List.drop_of_length_le (by simp)]
  have f1:jO l.length 16=true:=jaY (by omega);have f2:jO (l.length+1) 16=true:=jaY (by omega);have happ:j4 (j4 (l.map cs) [[sv s]]) []=(l++[s]).map cs:=by simp[j4]
  have hlen:(j4 (l.map cs) [[sv s]]).length=l.length+1:=by simp[j4]
  refine⟨l++[s],?_,⟨by intro n;simp,by simp⟩,λh=>?_⟩
  .rw [jq0];simp only[jg,hx,s1,s2,f1,f2,hlen,happ,Nat.add_zero]
  .have:=jCu (s:=s) (i:=l.length) h (hless h) (λh=>absurd h (Nat.lt_irrefl _));simpa using this
 .intro i hi ih hless;have hlt:(i:Int)<((l.length:Nat):Int):=by omega
  have h5:=jy hi (by omega);rw[jq0];cases h1:zz l[i] s
  .by_cases h2:l[i]=s
   .refine ⟨l,?_,⟨λn=>⟨λh=>Or.inl h,λh=>by
     rcases h with h|h
     .exact h
     .simp at h;rw[h,<-h2];exact List.getElem_mem _⟩,by omega⟩,id⟩
    rw[h2]at h1;simp only[jg,hlt,jb hi,h2,h1]
   .have s1:yt 1 (strs l) none (some (vi i))=some (strs (l.take i)):=by rw[Yr (by simp;omega),<-List.map_take]
    have s2:yt 1 (strs l) (some (vi i)) none=some (strs (l.drop i)):=by rw[Yq (by simp;omega),<-List.map_drop]
    have ht:(l.take i).length=i:=by rw[List.length_take];omega
    have f1:jO i 16=true:=jaY (by omega);have f2:jO (i+1) 16=true:=jaY (by omega);have f3:jO (i+1+(l.drop i).length) 16=true:=jaY (by rw[List.length_drop];omega);have happ:j4 (j4 ((l.take i).map cs) [[sv s]]) ((l.drop i).map cs)=(l.take i++[s]++l.drop i).map cs:=by simp[j4]
    have hlen:(j4 ((l.take i).map cs) [[sv s]]).length=i+1:=by simp[j4];omega
    refine⟨l.take i++[s]++l.drop i,?_,⟨λn=>?_,by simp;omega⟩,λh=>?_⟩
    .simp only[jg,hlt,jb hi,h1,h2,s1,s2,ht,f1,f2,f3,hlen,happ]
    .have hm:n∈l↔n∈l.take i\/n∈l.drop i:=by rw[<-List.mem_append,List.take_append_drop]
     simp only[List.mem_append,List.mem_singleton,hm];exact⟨λh=>by rcases h with(h|h)|h<;>simp[h],λh=>by rcases h with(h|h)|h<;>simp[h]⟩
    .rw [Q3,decide_eq_false_iff_not]at h1;exact jCu h (hless h) λ_=>jwq h1 h2
  .have hx:l[i]<s:=by rw[Q3,decide_eq_true_eq]at h1;exact h1
   obtain⟨r,e,c⟩:=ih λh x hm=>by
    rw[List.take_succ_eq_append_getElem hi]at hm;rcases List.mem_append.1 hm with hm|hm
    .exact hless h x hm
    .rw [List.mem_singleton.1 hm];exact hx
   refine⟨r,?_,c⟩;simp only[jg,hlt,jb hi,h1,h5,e]
theorem jw3:∀t:T,KZ t-> ∀l:Xa,l.length+nodes t<=2100000-> ∃r,G 124 [strs l,tm t]=some (strs r,[])/\jps l (jyD t) (nodes t) r/\(Srt l->Srt r):=by
 refine T.ind λt ih hw l hb=>?_;obtain⟨w1,w2,w3⟩:=(kQ t).1 hw;have w3:=(kK _).1 w3;have e1:=yc t.name w1;rw[jE7,jf0];rw[jU]at hb⊢;have key:=upto (P:=λi=>∀l:Xa,l.length+jF (t.args.drop i)<=2100000-> ∃r,jyA (strs l) (vi i) (sv t.name) (jS t.args)=some (strs r,[])/\jps l (jsj (t.args.drop i)) (jF (t.args.drop i)) r/\(Srt l->Srt r)) (n:=t.args.length) ?_ ?_ 0 (Nat.zero_le _)
 .simp only[Int.natCast_zero,List.drop_zero]at key;cases hv:jr t.name<;>rw[hv]at e1
  .obtain ⟨r0,e0,⟨b1,b2⟩,b3⟩:=jCD l t.name (by omega);obtain⟨r,e,⟨c1,c2⟩,c3⟩:=key r0 (by omega);refine⟨r,?_,⟨λn=>?_,by omega⟩,λh=>c3 (b3 h)⟩
   .simp only[jg,e1,e0,e]
   .rw [c1,b1];simp only[Bool.false_eq_true,if_false,List.mem_append];exact or_assoc
  .obtain ⟨r,e,⟨c1,c2⟩,c3⟩:=key l (by omega);refine⟨r,?_,⟨by simpa using c1,by omega⟩,c3⟩;simp only[jg,e1,e]
 .intro l hb;rw[jC5,List.drop_length];refine⟨l,?_,⟨by simp[jsj],by omega⟩,id⟩;simp only[jg]
 .intro i hi ih' l hb;have hlt:(i:Int)<((t.args.length:Nat):Int):=by omega
  have h5:=jy hi w2;rw[js hi]at hb⊢;simp only[jF,jsj]at hb⊢;obtain⟨r1,a1,⟨c1,c2⟩,c3⟩:=ih t.args[i] (List.getElem_mem _) (w3 _ (List.getElem_mem _)) l (by omega);obtain⟨r2,a2,⟨d1,d2⟩,d3⟩:=ih' r1 (by omega);rw[jC5];refine⟨r2,?_,⟨λn=>?_,by omega⟩,λh=>d3 (c3 h)⟩
  .simp only[jg,hlt,jb hi,ji,a1,h5,a2]
  .rw [d1,c1,List.mem_append];exact or_assoc
theorem jl9{n:Xb}(h:jr n=true):qz n=false:=by
 cases n with
 |nil=>rfl
 |cons c r=>
  simp only[jr,Bool.and_eq_true,upc,ZW,decide_eq_true_eq]at h;have:QO c=false:=by unfold QO ZW;rw[Bool.and_eq_false_iff];left;rw[decide_eq_false_iff_not];omega
  simp[qz,this]
theorem jBK{t:T}(h:qb t=true):qz t.name=!jr t.name:=by
 obtain⟨c,r,_,hv,hs⟩:=jry h;cases hx:jr t.name
 .rw [hv]at hx;rw[hs hx];rfl
 .rw [jl9 hx];rfl
def jAT(l vs:Xa)(k:Nat)(r:Xa):Prop:=jps l vs k r/\(l.Nodup->r.Nodup)
theorem jn5(ts:Xg)(hl:ts.length<=9223372036854775807)(ih:∀t∈ts,∀l:Xa,l.length+nodes t<=2100000-> ∃r,jin (sv t.name) (jS t.args) (l.map cs)=some (.top,[strs r])/\jAT l (jyD t) (nodes t) r) :
  ∀i,i<=ts.length-> ∀l:Xa,l.length+jF (ts.drop i)<=2100000-> ∃r,jsB (jS ts) (vi (ts.length:Nat)) (vi i) (l.map cs)=some (.top,[strs r])/\jAT l (jsj (ts.drop i)) (jF (ts.drop i)) r:=by
 refine upto ?_ ?_
 .intro l hb;rw[jBE,List.drop_length];refine⟨l,?_,⟨by simp[jsj],by omega⟩,id⟩;simp only[jg]
 .intro i hi ih' l hb;have hlt:(i:Int)<((ts.length:Nat):Int):=by omega
  have h5:=jy hi hl;rw[js hi]at hb⊢;simp only[jF,jsj]at hb⊢;obtain⟨r1,e1,⟨c1,c2⟩,c3⟩:=ih ts[i] (List.getElem_mem _) l (by omega);obtain⟨r2,e2,⟨d1,d2⟩,d3⟩:=ih' r1 (by omega);rw[jBE];refine⟨r2,?_,⟨λn=>?_,by omega⟩,λh=>d3 (c3 h)⟩
  .simp only[jg,hlt,jb hi,ji,e1,h5,e2]
  .rw [d1,c1,List.mem_append];exact or_assoc
theorem jip(ts:Xg)(hl:ts.length<=9223372036854775807)(ih:∀t∈ts,∀l:Xa,l.length+nodes t<=2100000-> ∃r,jin (sv t.name) (jS t.args) (l.map cs)=some (.top,[strs r])/\jAT l (jyD t) (nodes t) r)(l:Xa)(hb:l.length+jF ts<=2100000) :
  ∃r,jyF (jS ts) (vi (ts.length:Nat)) (vi 0) (l.map cs)=some (.top,[strs r])/\jAT l (jsj ts) (jF ts) r:=by
 have loop:=jn5 ts hl ih;rw[jC6];by_cases h0:ts.length=0
 .have ha:ts=[]:=List.length_eq_zero_iff.1 h0;rw[ha];refine⟨l,?_,⟨by simp[jsj],by simp[jF]⟩,id⟩;simp only[jg];rfl
 .have hi:0<ts.length:=by omega
  have hlt:(0:Int)<((ts.length:Nat):Int):=by omega
  have hix:jz 2 (jS ts) (vi 0)=some (.elt (jm ts[0]) 0):=jb (i:=0) hi;have h5:jq .add false (vi 0) (vi 1)=some (vi ((1:Nat):Int)):=by rw[Zf,jZ (by decide) (by decide)];rfl
  have hd:ts=ts[0]::ts.drop 1:=by have:=js hi;simpa using this
  have hns:jF ts=nodes ts[0]+jF (ts.drop 1):=by conv=>lhs;rw[hd,jF]
  have hvs:jsj ts=jyD ts[0]++jsj (ts.drop 1):=by conv=>lhs;rw[hd,jsj]
  obtain⟨r1,e1,⟨c1,c2⟩,c3⟩:=ih ts[0] (List.getElem_mem _) l (by omega);obtain⟨r2,e2,⟨d1,d2⟩,d3⟩:=loop 1 (by omega) r1 (by omega);refine⟨r2,?_,⟨λn=>?_,by omega⟩,λh=>d3 (c3 h)⟩
  .simp only[jg,hlt,hix,ji,e1,h5,e2]
  .rw [d1,c1,hvs,List.mem_append];exact or_assoc
theorem jvr:∀t:T,KZ t->qb t=true-> ∀l:Xa,l.length+nodes t<=2100000-> ∃r,jin (sv t.name) (jS t.args) (l.map cs)=some (.top,[strs r])/\jAT l (jyD t) (nodes t) r:=by
 refine T.ind λt ih hw hk l hb=>?_;obtain⟨w1,w2,w3⟩:=(kQ t).1 hw;have w3:=(kK _).1 w3;have hks:=qi hk;have e1:=jcw t.name w1;have e2:=Qm l t.name (by omega);rw[jBK hk]at e1;rw[jEd,jf0];have ih':∀u∈t.args,∀l:Xa,l.length+nodes u<=2100000-> ∃r,jin (sv u.name) (jS u.args) (l.map cs)=some (.top,[strs r])/\jAT l (jyD u) (nodes u) r:=λu hu=>ih u hu (w3 u hu) (hks u hu);rw[jU]at hb⊢;cases hv:jr t.name<;>rw[hv]at e1
 .cases hc:l.contains t.name<;>rw[hc]at e2
  .have hn:¬t.name∈l:=by simpa using hc
   obtain⟨r,e,⟨c1,c2⟩,c3⟩:=jn5 t.args w2 ih' 0 (Nat.zero_le _) (l++[t.name]) (by simp;omega)
   simp only[Int.natCast_zero,List.drop_zero,List.length_append,List.length_singleton]at e c1 c2;have happ:j4 (l.map cs) [[sv t.name]]=(l++[t.name]).map cs:=by simp[j4]
   have f1:jO (l.length+1) 16=true:=jaY (by omega);refine⟨r,?_,⟨λn=>?_,by omega⟩,λh=>c3 ?_⟩
   .simp only[jg,e1,e2,f1,happ,e]
   .rw [c1];simp only[Bool.false_eq_true,if_false,List.mem_append];exact or_assoc
   .exact List.nodup_append.2 ⟨h,by simp,λa ha b hb e=>by rw[List.mem_singleton.1 hb]at e;rw[e]at ha;exact hn ha⟩
  .have hn:t.name∈l:=by simpa using hc
   obtain⟨r,e,⟨c1,c2⟩,c3⟩:=jip t.args w2 ih' l (by omega);refine⟨r,?_,⟨λn=>?_,by omega⟩,c3⟩
   .simp only[jg,e1,e2,e]
   .rw [c1];simp only[Bool.false_eq_true,if_false,List.mem_append,List.mem_singleton];exact⟨λh=>by rcases h with h|h<;>simp[h],λh=>by
     rcases h with h|h|h
     .exact Or.inl h
     .exact Or.inl (h ▸ hn)
     .exact Or.inr h⟩
 .obtain ⟨r,e,⟨c1,c2⟩,c3⟩:=jip t.args w2 ih' l (by omega);refine⟨r,?_,⟨by simpa using c1,by omega⟩,c3⟩;simp only[jg,e1,e]
theorem jDl{n:Nat}(h:n<=4000000):jO n 8=true:=by
 unfold jO;simp;omega
theorem jDM(n:Nat)(h:n<=12):((jaW .u64 (qS [[vi 1]])).bind λt2=>(jaW .u64 (vi n)).bind λt3=>(G 177 [t2,t3]).bind (fin false))=some (.tup [.val (.int .u64 0),.val (.int .u64 n)]):=by
 have c:(jaW .u64 (qS [[vi 1]]))=some (.val (.int .u64 1)):=by kernel_rfl
 have d:jaW .u64 (vi n)=some (.val (.int .u64 n)):=by
  rcases n with _|_|_|_|_|_|_|_|_|_|_|_|_|n
  rotate_right
  .omega
  all_goals kernel_rfl
 rw[c,d];simp only[Option.bind_some];rw[jFd];simp only[cev];rw[jFk];clear c d;rcases n with _|_|_|_|_|_|_|_|_|_|_|_|_|n
 rotate_right
 .omega
 all_goals (show _=_;kernel_rfl)
theorem jC0{α:Type}{a b:α}{i j k:Nat}(h:i<=k):(List.replicate i a++List.replicate j b).drop k=List.replicate (j-(k-i)) b:=by
 rw[List.drop_append,List.drop_replicate,List.drop_replicate,List.length_replicate,show i-k=0 by omega];rfl
theorem jDm{n:Nat}(hn:n<=12)(r1:Xc):∀(f j:Nat),n-j<=f->1<=j->j<=n->
  jsC (vi (j:Nat)) (List.replicate j [vi 1]++List.replicate (n-j) [vi 0]) r1=some (.top,[.sl 1 (List.replicate n [vi 1])]):=by
 intro f;induction f with
 |zero=>
  intro j h1 h2 h3;have:j=n:=by omega
  subst this;rw[juK];simp only[jg,List.length_replicate,Nat.sub_self,List.replicate_zero,List.append_nil]
 |succ f ih=>
  intro j h1 h2 h3;by_cases hj:j=n
  .subst hj;rw[juK];simp only[jg,List.length_replicate,Nat.sub_self,List.replicate_zero,List.append_nil]
  .rw [juK];simp only[cev];have hl:(List.replicate j [vi 1]++List.replicate (n-j) [vi 0]).length=n:=by simp;omega
   have e1:decide ((j:Int)<(n:Int))=true:=by simp;omega
   have hm:j+min j (n-j)<=n:=by omega
   have e2:jq .add false (vi j) (vi (min j (n-j):Nat))=some (vi (j+min j (n-j):Nat)):=by
    rw[Zf,jZ (by omega) (by omega)];rfl
   have ew:(((List.replicate j [vi 1]++List.replicate (n-j) [vi 0]).drop 0).take j)=List.replicate j [vi 1]:=by
    rw[List.drop_zero,List.take_append_of_le_length (by simp),List.take_of_length_le (by simp)]
   have eo:yd (List.replicate j [vi 1]++List.replicate (n-j) [vi 0]) (0+j) ((List.replicate j [vi 1]).take (n-j))=List.replicate (j+min j (n-j)) [vi 1]++List.replicate (n-(j+min j (n-j))) [vi 0]:=by
    rw[ja4,Nat.zero_add,List.take_append_of_le_length (by simp),List.take_of_length_le (by simp),List.take_replicate,List.length_replicate,jC0]
    .rw [List.replicate_append_replicate,Nat.min_comm (n-j) j];congr 2;omega
    .omega
   have key:=ih (j+min j (n-j)) (by omega) (by omega) hm;simp only[jh2,jt2,yk,hl,jjN,Option.bind_some,jaV,e1,jiI,Nat.sub_zero,jbs (Nat.le_refl n),yO h3,jdg,yP,ew,jCs,jBJ,List.length_replicate,e2,eo,key]
theorem jEk{n:Nat}(h:n<=12):jBU (vi (n:Nat)) [[vi 1]]=some (.top,[.sl 1 (List.replicate n [vi 1])]):=by
 rw[jEe];simp only[cev];have e0:decide ((n:Int)<0)=false:=by simp
 have em:=jDM n h;have eg:decide ((0:Int)<0)=false:=by simp
 have ec:jaW .i64 (A.val (.int .u64 n))=some (vi n):=jZ (by omega) (by omega);have ek:jq .gtr false (A.val (.int .u64 n)) (A.val (.int .u64 9223372036854775807))=some (vb false):=by
  show some (vb (decide ((9223372036854775807:Int)<n)))=_;rw[decide_eq_false (by omega)]
 have ek0:jq .gtr false (A.val (.int .u64 0)) (A.val (.int .u64 0))=some (vb false):=rfl;have emk:jcH 8 (vi n) (vi n)=some n:=by
  show(if jvB 8 (n:Int) (n:Int)then some (n:Int).toNat else none)=_;rw[if_pos ⟨by omega,by omega,by omega,by omega⟩];rfl
 have hm:∀(k:A->A->Xe),((jaW .u64 (qS [[vi 1]])).bind λt2=>(jaW .u64 (vi n)).bind λt3=>((G 177 [t2,t3]).bind (fin false)).bind λt4=>(jeA t4 0).bind λt5=>(jeA t4 1).bind λt6=>k t5 t6) =
   k (.val (.int .u64 0)) (.val (.int .u64 n)):=by
  intro k;have:((jaW .u64 (qS [[vi 1]])).bind λt2=>(jaW .u64 (vi n)).bind λt3=>((G 177 [t2,t3]).bind (fin false)).bind λt4=>(jeA t4 0).bind λt5=>(jeA t4 1).bind λt6=>k t5 t6) =
    (((jaW .u64 (qS [[vi 1]])).bind λt2=>(jaW .u64 (vi n)).bind λt3=>(G 177 [t2,t3]).bind (fin false)).bind λt4=>(jeA t4 0).bind λt5=>(jeA t4 1).bind λt6=>k t5 t6):=by
   simp only[Option.bind_assoc]
  rw[this,em];rfl
 rw[jjN,e0];simp only[Option.bind_some,jaV,YP];rw[hm];simp only[ek0,ek,Option.bind_some,jvn,if_true,jjQ,Bool.false_eq_true,if_false,jaV,YP,ec,emk,JM,jt2,List.length_replicate];rcases n with _|n
 .have e1:jAG [[vi 1]] 0=vi ((0:Nat):Int):=rfl;have e2:yd (List.replicate 0 [vi 0]) 0 (jyo [[vi 1]] 0)=[]:=rfl;rw[e1,e2,juK];rfl
 .have key:=jDm (n:=n+1) h [[vi 1]] (n+1) 1 (by omega) (by omega) (by omega);have e1:jAG [[vi 1]] (n+1)=vi ((1:Nat):Int):=by
   rw[jCs];have:min [[vi 1]].length (n+1)=1:=by simp
   rw[this]
  have e2:yd (List.replicate (n+1) [vi 0]) 0 (jyo [[vi 1]] (n+1))=List.replicate 1 [vi 1]++List.replicate (n+1-1) [vi 0]:=by
   rw[ja4,jBJ];simp[List.replicate_succ]
  rw[e1,e2];exact key
theorem jyZ{ts:Xg}{n:Xb} :n∈jsj ts↔ ∃t∈ts,n∈jyD t:=by
 induction ts with
 |nil=>simp[jsj]
 |cons t ts ih=>simp[jsj,ih]
theorem jA2:∀t:T,qb t=true-> ∀n∈jyD t,qz n=true:=by
 refine T.ind λt ih hk n hn=>?_;rw[jf0,List.mem_append]at hn;rcases hn with hn|hn
 .cases hv:jr t.name<;>rw[hv]at hn
  .simp at hn;rw[hn,jBK hk,hv];rfl
  .simp at hn
 .obtain ⟨u,hu,hm⟩:=jyZ.1 hn;exact ih u hu (qi hk u hu) n hm
theorem jBz(l:Xa):∀t:T,(∀n∈jyD t,n∈l)->js3 l t=true:=by
 refine T.ind λt ih h=>?_;rw[jf0]at h;rw[jbA,jfP,Bool.and_eq_true];refine⟨?_,List.all_eq_true.2 λu hu=>ih u hu λn hn=>h n (List.mem_append_right _ (jyZ.2 ⟨u,hu,hn⟩))⟩;cases hv:jr t.name
 .rw [hv]at h;rw[Bool.false_or];exact List.contains_iff_mem.2 (h t.name (by simp))
 .rfl
def jCh(r:Xa):Ord':=⟨r,List.replicate r.length 1,1⟩
theorem jCO{r:Xa}(h1:1<=r.length)(h2:r.length<=12)(hs:∀n∈r,qz n=true)(hn:r.Nodup):jmi (jCh r)=true:=by
 have hb:ZW 1 12 (r.length:Nat)=true:=by unfold ZW;rw[Bool.and_eq_true,decide_eq_true_eq,decide_eq_true_eq];omega
 unfold jmi jCh;simp only[hb,List.length_replicate,decide_true,Bool.true_and,Bool.and_eq_true];refine⟨by decide,List.all_eq_true.2 λi hi=>?_⟩;have hi:i<r.length:=List.mem_range.1 hi;have g1:r.getD i []=r[i]:=by simp[List.getD_eq_getElem?_getD,hi]
 have g2:(List.replicate r.length (1:Int)).getD i 0=1:=by simp[List.getD_eq_getElem?_getD,hi]
 unfold jzt;simp only[g1,g2,hs _ (List.getElem_mem _),Bool.true_and,Bool.and_eq_true];refine⟨?_,by decide⟩;rw[Bool.not_eq_true',<-Bool.not_eq_true,List.contains_iff_mem];intro hm;obtain⟨j,hj,e⟩:=List.mem_take_iff_getElem.1 hm;have:=(List.nodup_iff_pairwise_ne.1 hn);have:=List.pairwise_iff_getElem.1 this j i (by omega) hi (by omega);exact this e
theorem jDp{n:Xb}(h:qz n=true):n.length<=6:=by
 cases n with
 |nil=>simp
 |cons c r=>
  simp only[qz,Bool.and_eq_true,decide_eq_true_eq]at h;simp only[List.length_cons];omega
theorem jyT(o:Ord')(s t:T)(hw:KZ s)(hw':KZ t)(x y:Bool)(e5:G 180 [od o,tm s,tm t]=some (vb x,[]))(e6:G 180 [od o,tm t,tm s]=some (vb y,[])):G 131 [od o,tm s,tm t]=some (vi (juH (dq s t) x y),[]):=by
 have e4:=KP s hw t hw';have c1:G 179 [.elt (jAB o) 0,.elt [sv s.name,.sl 2 (s.args.map jm)] 0,.elt [sv t.name,.sl 2 (t.args.map jm)] 0]=some (vb x,[]):=by
  rw[jEA];simp only[jg,juN,juO,e5]
 have c2:G 181 [.elt (jAB o) 0,.elt [sv t.name,.sl 2 (t.args.map jm)] 0,.elt [sv s.name,.sl 2 (s.args.map jm)] 0]=some (vb y,[]):=by
  rw[jEC];simp only[jg,juN,juO,e6]
 have e7:=jyX (f:=179) (g:=181) rfl rfl (dq s t) _ _ c1 c2;rw[jEz];simp only[jg,e4,e7]
theorem jil{t:T}(hk:qb t=true)(hv:jr t.name=true):t.args=[]:=by
 rw[qj,hv,if_pos rfl]at hk;exact List.isEmpty_iff.1 hk
theorem jBC(o:Ord')(s t:T)(hw:KZ s)(hw':KZ t)(hk:qb s=true)(hk':qb t=true)(hv:jr s.name=true)(hv':jr t.name=true)(hne:¬s.name=t.name):G 180 [od o,tm s,tm t]=some (vb false,[]):=by
 have as_:=jil hk hv;have at_:=jil hk' hv';have ns:nodes s<=1048577:=by rw[jU,as_];simp[jF]
 have nt:nodes t<=1048577:=by rw[jU,at_];simp[jF]
 obtain⟨r,er,c1,c2⟩:=jvw t hw' hk' nt;have hvt:ke t=[t.name]:=by rw[YI,if_pos hv']
 have hpos:0<r.length:=by
  rcases Nat.eq_zero_or_pos r.length with h|h
  .have hr:r=[]:=List.length_eq_zero_iff.1 h;have:=(c1 t.name).2 (by rw[hvt];simp);rw[hr]at this;cases this
  .exact h
 have h0:r[0]=t.name:=by
  have:=(c1 r[0]).1 (List.getElem_mem _);rw[hvt]at this;simpa using this
 have hlt:(0:Int)<((r.length:Nat):Int):=by omega
 have hix:jz 1 (strs r) (vi 0)=some (.elt (cs t.name) 0):=by have:=jb (k:=1) (f:=cs) (i:=0) hpos;rw[h0]at this;exact this
 have a1:=jhv t.name s hw ns;have a2:=jhv t.name t hw' nt;have k1:cnt t.name s=0:=by rw[jk9,as_,if_neg hne];simp[ZU]
 have k2:cnt t.name t=1:=by rw[jk9,at_];simp[ZU]
 rw[k1]at a1;rw[k2]at a2;have h':((0:Nat):Int)<((1:Nat):Int):=by omega
 rw[jEB];simp only[jg,er];rw[jB0];simp only[jg,hlt,hix,a1,a2,h']
theorem jDo(a b:T)(r:Xa)(hr:r.length<=12)(x:Int)(ok:Bool)(e:G 125 [.agg [strs r,.sl 1 (List.replicate r.length [vi 1]),vi 1],tm a,tm b]=some (.tup [vi x,vb ok],[])) :
  jBv (vi 0) (sv a.name) (jS a.args) (sv b.name) (jS b.args) (strs r) (vi 1) []=some (vi (if ok then x else 0),[]):=by
 have key:=upto (P:=λi=>jBv (vi i) (sv a.name) (jS a.args) (sv b.name) (jS b.args) (strs r) (vi 1) (List.replicate i [vi 1])=some (vi (if ok then x else 0),[])) (n:=r.length) ?_ ?_ 0 (Nat.zero_le _)
 .simpa using key
 .rw [jD1];have hf:fin true (A.tup [vi x,vb ok],[])=some (A.tup [vi x,vb ok]):=rfl;cases ok
  .simp only[jg,e,hf]
  .simp only[jg,e,hf]
 .intro i hi ih;have hlt:(i:Int)<((r.length:Nat):Int):=by omega
  have h5:=jy hi (by omega);have f1:jO (i+1) 8=true:=jDl (by omega);have happ:j4 (List.replicate i [vi 1]) [[vi 1]]=List.replicate (i+1) [vi 1]:=by rw[List.replicate_succ'];rfl
  have hlen:(List.replicate i ([vi 1]:Xd)).length=i:=List.length_replicate;rw[jD1];simp only[jg,hlt,hlen,f1,h5,happ,ih]
theorem jEi{o:Ord'}(hv:jmi o=true){s t:T}(ks:qb s=true)(hc:js3 o.syms t=true)(h:Kp o s t):jr s.name=false:=by
 cases hs:jr s.name with
 |false=>rfl
 |true=>
  obtain⟨_,h⟩:=(jCR o s t).1 h;rcases h with h|⟨_,h,_⟩
  .have:=jEm hv hc;rw[jBO o s,jil ks hs,hs,if_pos rfl]at h;simp only[wtL]at h;omega
  .rw [hs]at h;cases h.1
theorem jDk(a b:T)(hw:KZ a)(hw':KZ b)(hs:tsz a<=1048576)(hs':tsz b<=1048576)(hva:kV a=true)(hvb:kV b=true) :
  ∃x:Int,G 76 [tm a,tm b]=some (vi x,[])/\G 83 [tm a,tm b]=some (vi x,[])/\(x=2->jr a.name=false):=by
 have hk:qb a=true:=by unfold kV at hva;rw[Bool.and_eq_true]at hva;exact hva.2
 have hk':qb b=true:=by unfold kV at hvb;rw[Bool.and_eq_true]at hvb;exact hvb.2
 have na:nodes a<=30:=by simp only[kV,jH,Bool.and_eq_true,decide_eq_true_eq]at hva;exact hva.1.1
 have nb:nodes b<=30:=by simp only[kV,jH,Bool.and_eq_true,decide_eq_true_eq]at hvb;exact hvb.1.1
 have e1:=jf7 a hw b hw';have e2:=KP a hw b hw';rw[g76,g83];cases hd:dq a b<;>rw[hd]at e1 e2
 rotate_left
 .exact ⟨1,by simp only[jg,e1],by simp only[jg,e2],λh=>absurd h (by decide)⟩
 obtain⟨r1,f1,⟨c1,c2⟩,c3⟩:=jw3 a hw [] (by simp;omega)
 obtain⟨r,f2,⟨d1,d2⟩,d3⟩:=jw3 b hw' r1 (by simp at c2;omega)
 have hsrt:Srt r:=d3 (c3 List.Pairwise.nil);have hmem:∀n,n∈r↔n∈jyD a\/n∈jyD b:=λn=>by rw[d1,c1];simp
 have hlen:r.length<=60:=by simp at c2;omega
 have f1:G 124 [.sl 1 [],tm a]=some (strs r1,[]):=f1;obtain⟨p1,g1,⟨i1,i2⟩,i3⟩:=jvr a hw hk [] (by simp;omega);obtain⟨p,g2,⟨j1,j2⟩,j3⟩:=jvr b hw' hk' p1 (by simp at i2;omega);have hnd:p.Nodup:=j3 (i3 List.nodup_nil);have hpm:∀n,n∈p↔n∈jyD a\/n∈jyD b:=λn=>by rw[j1,i1];simp
 have hsort:yG p=r:=jCt _ _ (jDn hnd) hsrt λn=>by rw[hmem,<-hpm];unfold yG;exact List.mem_mergeSort
 have hpl:p.length=r.length:=by rw[<-hsort];simp[yG]
 have g1:jin (sv a.name) (jS a.args) []=some (.top,[strs p1]):=g1;have g3:jyi (p.map cs)=some (.top,[strs r]):=by
  rw[jCW];simp only[jse,jl1];rw[if_pos (by omega),hsort]
 by_cases h12:r.length<=12;rotate_left
 .have hgt:((12:Nat):Int)<((r.length:Nat):Int):=by omega
  have hle:¬((r.length:Nat):Int)<=12:=by omega
  have hgt:(12:Int)<((r.length:Nat):Int):=by omega
  have hz:¬((r.length:Nat):Int)=0:=by omega
  refine⟨0,?_,?_,λh=>absurd h (by decide)⟩
  .simp only[jg,e1,f1,f2,hz,hgt]
  .simp only[jg,e2,g1,g2,hpl,hgt]
 have hle:((r.length:Nat):Int)<=12:=by omega
 have hgt:¬(12:Int)<((r.length:Nat):Int):=by omega
 have hrep:=jEk h12;have hci:(ints (List.replicate r.length 1):A) = .sl 1 (List.replicate r.length [vi 1]):=by show A.sl 1 _=_;rw[List.map_replicate]
 have hod:(od (jCh r):A) = .agg [strs r,.sl 1 (List.replicate r.length [vi 1]),vi 1]:=by rw[<-hci];rfl
 by_cases h0:r.length=0
 .have hr:r=[]:=List.length_eq_zero_iff.1 h0;have hz:((r.length:Nat):Int)=0:=by omega
  have va:jr a.name=true:=by
   cases hv:jr a.name
   .have:=(hmem a.name).2 (Or.inl (by rw[jf0,hv];simp))
    rw[hr]at this;cases this
   .rfl
  have vb':jr b.name=true:=by
   cases hv:jr b.name
   .have:=(hmem b.name).2 (Or.inr (by rw[jf0,hv];simp))
    rw[hr]at this;cases this
   .rfl
  have hne:¬a.name=b.name:=λe=>by
   rw[jxL,e,jil hk va,jil hk' vb',jhx]at hd;simp at hd
  have q:=jyT (jCh r) a b hw hw' false false (jBC _ a b hw hw' hk hk' va vb' hne) (jBC _ b a hw' hw hk' hk vb' va (λe=>hne e.symm));rw[hd,hod]at q;refine⟨0,?_,?_,λh=>absurd h (by decide)⟩
  .simp only[jg,e1,f1,f2,hz]
  .simp only[jg,e2,g1,g2,hpl,hgt,g3,hrep,q,juH]
 have hsym:∀n∈r,qz n=true:=λn hn=>by
  rcases(hmem n).1 hn with h|h
  .exact jA2 a hk n h
  .exact jA2 b hk' n h
 have hval:=jCO (by omega) h12 hsym (jCM hsrt);have hca:js3 (jCh r).syms a=true:=jBz _ a λn hn=>(hmem n).2 (Or.inl hn);have hcb:js3 (jCh r).syms b=true:=jBz _ b λn hn=>(hmem n).2 (Or.inr hn);have howf:owf (jCh r):=by
  refine⟨⟨λs hs=>?_,by show r.length<=_;omega⟩,⟨λx hx=>?_,by show(List.replicate r.length (1:Int)).length<=_;rw[List.length_replicate];omega⟩,by show I64 1;exact⟨by decide,by decide⟩⟩
  .have:=jDp (hsym s hs);omega
  .have:x=1:=by have:=List.eq_of_mem_replicate hx;exact this
   rw[this];exact⟨by decide,by decide⟩
 have q1:=jw9 (jCh r) a b howf hw hs hw' hs';have q2:=jw6 hval a b howf hw hs hw' hs' hk hk' hca hcb;have q3:jv9 (jCh r) a b = .tup [vi (jv4 (jCh r) a b),vb true]:=by unfold jv9 ji0;rw[hval,hva,hvb,hca,hcb];rfl
 rw[q3,hod]at q1;rw[hod]at q2;have q4:=jDo a b r h12 _ _ q1;have hz:¬((r.length:Nat):Int)=0:=by omega
 refine⟨jv4 (jCh r) a b,?_,?_,λh=>jEi hval hk hcb ((jDF _ _ _).1 h)⟩
 .simp only[jg,e1,f1,f2,hz,hgt,q4]
 .simp only[jg,e2,g1,g2,hpl,hgt,g3,hrep,q2]
theorem jp3{ts:Xg}{t:T}(h:t∈ts):Ko t<=KO ts:=by
 induction ts with
 |nil=>cases h
 |cons u us ih=>
  simp only[KO];rcases List.mem_cons.1 h with h|h
  .subst h;omega
  .have:=ih h;omega
theorem jEx{t u:T}(h:u∈t.args)(hs:jH t=true):jH u=true:=by
 simp only[jH,Bool.and_eq_true,decide_eq_true_eq]at hs⊢;have h1:=ZA h;have h2:=jp3 h;rw[jU,Kc]at hs;omega
theorem jiC(t:T)(hs:Tz t)(he:¬t.name=[61]):G 86 [tm t]=some (vb (qz t.name && kV t),[]):=by
 have e1:=Yh t.name ((kQ t).1 hs.wf).1;have e2:=YV t hs.wf hs;rw[g86];cases h:qz t.name<;>rw[h]at e1
 .simp only[jg,he,e1,Bool.false_and]
 .simp only[jg,he,e1,e2,Bool.true_and]
theorem jGa{t:T}(h:jfo t=true):t.args.length=2/\Vs (jtH t)/\Vs (jt9 t)/\jH t=true:=by
 have h':=h;unfold jfo at h;rw[Bool.and_eq_true,Bool.and_eq_true,Bool.and_eq_true,decide_eq_true_eq]at h;obtain⟨h1,h2,h3,h4⟩:=h;obtain⟨_,_,ma,mb⟩:=K3 h1;have hn:nodes t<=30:=by simp only[jH,Bool.and_eq_true,decide_eq_true_eq]at h2;exact h2.1
 exact⟨h1,⟨h3,by have:=Zb ma;show nodes (QA t)<=30;omega⟩,⟨h4,by have:=Zb mb;show nodes (jbD t)<=30;omega⟩,h2⟩
theorem jGG(t:T)(hs:Tz t):∃b:Bool,G 61 [tm t]=some (vb b,[])/\G 65 [tm t]=some (vb b,[])/\(b=true->t.name=[61]/\jfo t=true/\jr (jtH t).name=false):=by
 have hw:=hs.wf;obtain⟨w1,w2,w3⟩:=(kQ t).1 hw;have w3:=(kK _).1 w3;have q0:=KR t;by_cases he:t.name=[61];rotate_left
 .have e1:=jiC t hs he;rw[decide_eq_false he]at q0;refine⟨false,?_,?_,λh=>by cases h⟩
  .rw [g61];cases h1:(qz t.name && kV t)<;>rw[h1]at e1<;>simp only[jg,he,e1]
  .rw [g65];simp only[jg,q0]
 .have e1:=jed t hw hs he;have e2:=jcV t hw hs he;rw[decide_eq_true he]at q0;have het:(t.name=[61])=True:=eq_true he;rw[g61,g65];cases h:jfo t<;>rw[h]at e1 e2
  .exact ⟨false,by simp only[jg,e1],by simp only[jg,q0,e2],λh=>by cases h⟩
  .obtain ⟨h1,v1,v2,hsm⟩:=jGa h;obtain⟨i0,i1,ma,mb⟩:=K3 h1;have va:kV (QA t)=true:=by unfold kV;rw[jEx ma hsm];exact v1.1
   have vb':kV (jbD t)=true:=by unfold kV;rw[jEx mb hsm];exact v2.1
   obtain⟨x,o1,o2,o3⟩:=jDk (QA t) (jbD t) (w3 _ ma) (w3 _ mb) v1.tz v2.tz va vb';refine⟨decide (x=2),?_,?_,λhx=>⟨he,rfl,o3 (of_decide_eq_true hx)⟩⟩
   .simp only[jg,e1,het,i0,i1,ji,o1]
   .simp only[jg,q0,e2,i0,i1,ji,o2]
theorem jGr(rs:Xg)(hl:rs.length<=1048576)(hs:∀r∈rs,Tz r):∃b:Bool,G 34 [jS rs]=some (vb b,[])/\G 37 [jS rs]=some (vb b,[])/\(b=true->RS rs/\ ∀r∈rs,r.name=[61]/\jfo r=true/\jr (jtH r).name=false):=by
 obtain⟨p,hp⟩:=Classical.axiomOfChoice (r:=λ(t:T)(b:Bool)=>Tz t->G 61 [tm t]=some (vb b,[])/\G 65 [tm t]=some (vb b,[])/\(b=true->t.name=[61]/\jfo t=true/\jr (jtH t).name=false)) λt=>by
  by_cases h:Tz t
  .obtain ⟨b,hb⟩:=jGG t h;exact⟨b,λ_=>hb⟩
  .exact ⟨false,λh'=>absurd h' h⟩
 have hp:∀r∈rs,G 61 [tm r]=some (vb (p r),[])/\G 65 [tm r]=some (vb (p r),[])/\(p r=true->r.name=[61]/\jfo r=true/\jr (jtH r).name=false):=λr hr=>hp r (hs r hr);refine⟨decide (rs.length<=10) && rs.all p,?_,?_,λh=>?_⟩
 .have key:=upto (P:=λi=>jFC (jS rs) (vi i)=some (vb (decide (rs.length<=10) && (rs.drop i).all p),[])) (n:=rs.length) ?_ ?_ 0 (Nat.zero_le _)
  .rw [g34];exact key
  .rw [jGL,List.drop_length];have e:decide (((rs.length:Nat):Int)<=10)=decide (rs.length<=10):=by
    by_cases h:rs.length<=10
    .rw [decide_eq_true h,decide_eq_true (by omega)]
    .rw [decide_eq_false h,decide_eq_false (by omega)]
   simp only[jg,e]
  .intro i hi ih;have hlt:(i:Int)<((rs.length:Nat):Int):=by omega
   have h5:=jy hi (by show rs.length<=9223372036854775807;omega)
   obtain⟨e1,_,_⟩:=hp rs[i] (List.getElem_mem _);rw[jGL,js hi,List.all_cons];cases h:p rs[i]<;>rw[h]at e1
   .simp only[jg,hlt,jb hi,ji,e1,Bool.false_and,Bool.and_false]
   .simp only[jg,hlt,jb hi,ji,e1,h5,ih,Bool.true_and]
 .have e1:=jdL (f:=64) (caps:=[]) rfl (λr=> !p r) rs (by show rs.length<=9223372036854775807;omega) λr hr=>by
   obtain⟨_,e2,_⟩:=hp r hr;rw[g64];simp only[jg,e2]
  rw[jiD]at e1;rw[g37];by_cases h:rs.length<=10
  .have h':((rs.length:Nat):Int)<=10:=by omega
   simp only[jg,h,h',e1,Bool.true_and,Bool.not_not]
  .have h':¬((rs.length:Nat):Int)<=10:=by omega
   simp only[jg,h,h',Bool.false_and]
 .rw [Bool.and_eq_true,decide_eq_true_eq,List.all_eq_true]at h;refine⟨⟨h.1,λr hr=>?_⟩,λr hr=>(hp r hr).2.2 (h.2 r hr)⟩;obtain⟨_,h2,_⟩:=(hp r hr).2.2 (h.2 r hr);obtain⟨q1,q2,q3,_⟩:=jGa h2;exact⟨q1,q2,q3⟩
theorem jFx{rs:Xg}(hr:RS rs):∀(t:T)(root:Bool){u:T},EX root t->jyh rs root t=some u->nodes u<=nodes t+900:=by
 refine T.ind (p:=λt=>∀(root:Bool){u:T},EX root t->jyh rs root t=some u->nodes u<=nodes t+900) λt ih=>?_;intro root u h ho;have hL:∀(us:Xg){us':Xg},(∀u∈us,∀u',jyh rs true u=some u'->nodes u'<=nodes u+900)->jvl rs us=some us'->jF us'<=jF us+900:=by
  intro us;induction us with
  |nil=>intro us' _ h;simp[jvl]at h
  |cons v vs ih2=>
   intro us' hv h;rw[jvl]at h;split at h
   .rename_i v' hv';cases h;have:=hv v (by simp) _ hv';simp only[jF];omega
   .rw [Option.map_eq_some_iff]at h;obtain⟨r,h3,rfl⟩:=h;have:=ih2 (λw hw=>hv w (by simp[hw])) h3;simp only[jF];omega
 rw[jCH]at ho;split at ho
 .rename_i us hus;cases ho;have:=hL t.args (λv hv u' hu'=>by
   have hw:=h.2.1 v hv;exact ih v hv true ⟨⟨by have:=hw.2;omega,hw.tz⟩,hw.args,λ_=>hw⟩ hu') hus
  rw[jU t];show 1+jF us<=_;omega
 .cases root with
  |false=>cases ho
  |true=>
   have:=(jGq hr (h.2.2 rfl) ho).2;omega
def EX'(root:Bool)(t:T):Prop:=EX root t/\(root=false->t.name=[61]/\t.args.length=2)
theorem jnl{us:Xg}(h:∀u∈us,qb u=true):JP us<=10*jF us:=by
 induction us with
 |nil=>simp[JP]
 |cons u us ih=>
  have:=jev u (h u (by simp));have:=ih λw hw=>h w (by simp[hw]);simp only[JP,jF];omega
theorem jnn{t:T}(h:qb t=true):¬t.name=[61]:=λe=>by
 rw[qj,e]at h;exact absurd h (by
  rw[show jr [61]=false from by decide,if_neg Bool.false_ne_true,show qz [61]=false from by decide];simp)
theorem jmH{t:T}(ht:Tz t)(h:qb t=true\/(t.name=[61]/\t.args.length=2/\ ∀u∈t.args,qb u=true)):G 106 [tm t]=some (vb (jH t),[]):=by
 have e2:=YV t ht.wf ht;rw[jzz];rcases h with h|⟨h1,h2,h3⟩
 .have hv:kV t=jH t:=by unfold kV;rw[h,Bool.and_true]
  rw[hv]at e2;have e1:=jiC t ht (jnn h);rw[hv]at e1;cases hs:jH t<;>rw[hs]at e1 e2
  .rw [Bool.and_false]at e1;simp only[jg,e1,e2]
  .simp only[jg,e2]
 .have hk:qb t=false:=by
   cases hk:qb t with
   |false=>rfl
   |true=>exact absurd h1 (jnn hk)
  have hv:kV t=false:=by unfold kV;rw[hk,Bool.and_false]
  rw[hv]at e2;have e1:=jed t ht.wf ht h1;obtain⟨_,_,ma,mb⟩:=K3 h2;have he:jfo t=jH t:=by unfold jfo;rw[decide_eq_true h2,h3 _ ma,h3 _ mb];simp
  rw[he]at e1;simp only[jg,e1,e2]
def jCc(o:Option (T×Nat)):Xe:=match o with|some r=>some (.tup [tm r.1,vi (r.2:Nat),vb true],[])|none=>some (.tup [.agg [sv [],.sl 2 []],vi 0,vb false],[])
structure Law3{α:Type}(c:α->α->Int):Prop where
 zero:∀a b,c a b=0↔a=b
 flip:∀a b,c b a = -(c a b)
 trans:∀a b d,c a b<0->c b d<0->c a d<0
section
variable{α:Type}{c:α->α->Int}
def Asc(c:α->α->Int)(l:List α):Prop:=l.Pairwise λa b=>c a b<0
theorem jht(h:Law3 c):∀{l m:List α},Asc c l->Asc c m->(∀x,x∈l↔x∈m)->l=m
 | [],[],_,_,_=>rfl
 | [],b::m,_,_,hx=>absurd ((hx b).2 (by simp)) (by simp)
 |a::l,[],_,_,hx=>absurd ((hx a).1 (by simp)) (by simp)
 |a::l,b::m,h1,h2,hx=>by
  obtain⟨g1,g2⟩:=List.pairwise_cons.1 h1;obtain⟨k1,k2⟩:=List.pairwise_cons.1 h2;have hab:a=b:=by
   rcases List.mem_cons.1 ((hx a).1 (by simp))with e|e
   .exact e
   rcases List.mem_cons.1 ((hx b).2 (by simp))with e'|e'
   .exact e'.symm
   .have q1:=k1 a e;have q2:=g1 b e';have q3:=h.flip a b;omega
  subst hab;have:l=m:=jht h g2 k2 λx=>by
   constructor
   .intro hxl;rcases List.mem_cons.1 ((hx x).1 (by simp[hxl]))with e|e
    .have:=g1 x hxl;rw[e,(h.zero a a).2 rfl]at this;omega
    .exact e
   .intro hxm;rcases List.mem_cons.1 ((hx x).2 (by simp[hxm]))with e|e
    .have:=k1 x hxm;rw[e,(h.zero a a).2 rfl]at this;omega
    .exact e
  rw[this]
def Ql(eq:α->α->Bool):List α->List α
 | []=>[]
 |a::l=>(match Ql eq l with| []=>[a]|b::m=>if eq a b then b::m else a::b::m)
theorem jfN(h:Law3 c){eq:α->α->Bool}(he:∀a b,eq a b=true↔a=b):∀{l:List α},l.Pairwise (λa b=>¬c b a<0)->Asc c (Ql eq l)/\ ∀x,x∈Ql eq l↔x∈l
 | [],_=>⟨List.Pairwise.nil,λx=>Iff.rfl⟩
 |a::l,hp=>by
  obtain⟨g1,g2⟩:=List.pairwise_cons.1 hp;obtain⟨k1,k2⟩:=jfN h he g2;rw[Ql];cases hc:Ql eq l with
  |nil=>
   rw[hc]at k2;refine⟨by unfold Asc;simp,λx=>?_⟩;show x ∈ [a]↔_;constructor
   .intro hx;simp only[List.mem_singleton]at hx;simp[hx]
   .intro hx;rcases List.mem_cons.1 hx with e|e
    .simp [e]
    .exact absurd ((k2 x).2 e) (by simp)
  |cons b m=>
   rw[hc]at k1 k2;have hbl:b∈l:=(k2 b).1 (by simp);by_cases hab:a=b
   .show Asc c (if eq a b then b::m else a::b::m)/\_;have he':=(he a b).2 hab;have e2:(if eq a b then b::m else a::b::m)=b::m:=if_pos he';refine⟨by rw[e2];exact k1,λx=>?_⟩;show x∈(if eq a b then b::m else a::b::m)↔_;rw[e2,k2,List.mem_cons];constructor
    .exact Or.inr
    .rintro (e|e)
     .rw [e,hab];exact hbl
     .exact e
   .have he':¬eq a b=true:=λe=>hab ((he a b).1 e);have e2:(if eq a b then b::m else a::b::m)=a::b::m:=if_neg he';have hlt:c a b<0:=by
     have q1:=g1 b hbl;have q2:=h.flip a b;have q3:c a b≠0:=λe=>hab ((h.zero a b).1 e);omega
    refine⟨?_,λx=>?_⟩
    .show Asc c (if eq a b then b::m else a::b::m);rw[e2];refine List.pairwise_cons.2 ⟨λx hx=>?_,k1⟩;rcases List.mem_cons.1 hx with e|e
     .rw [e];exact hlt
     .exact h.trans a b x hlt ((List.pairwise_cons.1 k1).1 x e)
    .show x∈(if eq a b then b::m else a::b::m)↔_;rw[e2,List.mem_cons,k2,List.mem_cons]
theorem Qy{p:α->Bool} :∀{l:List α}{a:α},a∈l.takeWhile p->p a=true
 |x::l,a,h=>by
  by_cases hx:p x=true
  .rw [List.takeWhile_cons_of_pos hx]at h;rcases List.mem_cons.1 h with e|e
   .rw [e];exact hx
   .exact Qy e
  .rw [List.takeWhile_cons_of_neg hx]at h;cases h
def ZX(c:α->α->Int)(l:List α)(x:α):List α:=if(l.dropWhile λa=>decide (c a x<0)).head?.any (λb=>decide (c b x=0))then l else l.takeWhile (λa=>decide (c a x<0))++x::l.dropWhile λa=>decide (c a x<0)
theorem jd2(h:Law3 c){l:List α}(hl:Asc c l)(x:α):Asc c (ZX c l x)/\ ∀y,y∈ZX c l x↔y∈l\/y=x:=by
 have e:=List.takeWhile_append_dropWhile (p:=λa=>decide (c a x<0)) (l:=l);have ht:∀a∈l.takeWhile (λa=>decide (c a x<0)),c a x<0:=λa ha=>of_decide_eq_true (Qy (p:=λa=>decide (c a x<0)) ha);unfold ZX;generalize l.takeWhile (λa=>decide (c a x<0))=t at *;cases hd:l.dropWhile (λa=>decide (c a x<0))with
 |nil=>
  rw[hd,List.append_nil]at e;subst e;rw[if_neg (by simp)];refine⟨?_,λy=>by simp⟩;refine List.pairwise_append.2 ⟨hl,by simp,λa ha b hb=>?_⟩;simp only[List.mem_singleton]at hb;rw[hb];exact ht a ha
 |cons b m=>
  have hb:¬c b x<0:=by
   intro hb;have:=List.head?_dropWhile_not (p:=λa=>decide (c a x<0)) l;rw[hd]at this;simp[hb]at this
  rw[hd]at e;by_cases h0:c b x=0
  .rw [if_pos (by simp[h0])];refine⟨hl,λy=>⟨Or.inl,λhy=>?_⟩⟩;rcases hy with hy|hy
   .exact hy
   .rw [hy,<-(h.zero b x).1 h0,<-e];simp
  .rw [if_neg (by simp[h0])];rw[<-e]at hl;obtain⟨p1,p2,p3⟩:=List.pairwise_append.1 hl;have hxb:c x b<0:=by have:=h.flip b x;omega
   refine⟨List.pairwise_append.2 ⟨p1,List.pairwise_cons.2 ⟨λy hy=>?_,p2⟩,λa ha y hy=>?_⟩,λy=>?_⟩
   .rcases List.mem_cons.1 hy with e'|e'
    .rw [e'];exact hxb
    .exact h.trans x b y hxb ((List.pairwise_cons.1 p2).1 y e')
   .rcases List.mem_cons.1 hy with e'|e'
    .rw [e'];exact ht a ha
    .exact p3 a ha y e'
   .rw [<-e];simp only[List.mem_append,List.mem_cons];constructor
    .rintro (h|h|h|h)
     .exact Or.inl (Or.inl h)
     .exact Or.inr h
     .exact Or.inl (Or.inr (Or.inl h))
     .exact Or.inl (Or.inr (Or.inr h))
    .rintro ((h|h|h)|h)
     .exact Or.inl h
     .exact Or.inr (Or.inr (Or.inl h))
     .exact Or.inr (Or.inr (Or.inr h))
     .exact Or.inr (Or.inl h)
def zi(c:α->α->Int)(l:List α):List α:=l.foldl (ZX c) []
theorem YY(h:Law3 c)(l:List α):Asc c (zi c l)/\ ∀y,y∈zi c l↔y∈l:=by
 have key:∀(l m:List α),Asc c m->Asc c (l.foldl (ZX c) m)/\ ∀y,y∈l.foldl (ZX c) m↔y∈m\/y∈l:=by
  intro l;induction l with
  |nil=>intro m hm;exact⟨hm,λy=>by simp⟩
  |cons x l ih=>
   intro m hm;obtain⟨g1,g2⟩:=jd2 h hm x;obtain⟨k1,k2⟩:=ih _ g1;refine⟨k1,λy=>?_⟩;rw[List.foldl_cons,k2,g2,List.mem_cons,or_assoc]
 obtain⟨g1,g2⟩:=key l [] List.Pairwise.nil;exact⟨g1,λy=>by rw[zi,g2];simp⟩
theorem jtI(h:Law3 c){eq:α->α->Bool}(he:∀a b,eq a b=true↔a=b){l s:List α}(hs:s.Pairwise λa b=>¬c b a<0)(hm:∀x,x∈s↔x∈l):Ql eq s=zi c l:=by
 obtain⟨g1,g2⟩:=jfN h he hs;obtain⟨k1,k2⟩:=YY h l;exact jht h g1 k1 λx=>by rw[g2,k2,hm]
end
theorem jwo{α β γ:Type}{f:γ->α}{g:γ->β}{c:α->α->Int}{d:β->β->Int}(hc:Law3 c)(hd:Law3 d)(hi:∀x y,f x=f y->g x=g y->x=y):Law3 λx y:γ=>if c (f x) (f y)≠0 then c (f x) (f y)else d (g x) (g y):=by
 refine⟨λa b=>?_,λa b=>?_,λa b e=>?_⟩
 .show (if c (f a) (f b)≠0 then c (f a) (f b)else d (g a) (g b))=0↔_;by_cases h:c (f a) (f b)=0
  .rw [if_neg (λh'=>h' h),hd.zero];exact⟨λh2=>hi a b ((hc.zero _ _).1 h) h2,λh2=>by rw[h2]⟩
  .rw [if_pos h];exact⟨λh2=>absurd h2 h,λh2=>by rw[h2]at h;exact absurd ((hc.zero _ _).2 rfl) h⟩
 .show (if c (f b) (f a)≠0 then c (f b) (f a)else d (g b) (g a)) = -(if c (f a) (f b)≠0 then c (f a) (f b)else d (g a) (g b));rw[hc.flip (f a) (f b),hd.flip (g a) (g b)];by_cases h:c (f a) (f b)=0
  .rw [if_neg (by omega),if_neg (by omega)]
  .rw [if_pos (by omega),if_pos (by omega)]
 .show (if c (f a) (f b)≠0 then c (f a) (f b)else d (g a) (g b))<0->(if c (f b) (f e)≠0 then c (f b) (f e)else d (g b) (g e))<0->(if c (f a) (f e)≠0 then c (f a) (f e)else d (g a) (g e))<0;by_cases h1:c (f a) (f b)=0
  .have e1:=(hc.zero _ _).1 h1;rw[if_neg (λh'=>h' h1),e1];by_cases h2:c (f b) (f e)=0
   .rw [if_neg (λh'=>h' h2),if_neg (λh'=>h' h2)];exact hd.trans _ _ _
   .rw [if_pos h2,if_pos h2];exact λ_ h=>h
  .rw [if_pos h1];by_cases h2:c (f b) (f e)=0
   .have e2:=(hc.zero _ _).1 h2;rw[if_neg (λh'=>h' h2),<-e2,if_pos h1];exact λh _=>h
   .rw [if_pos h2];intro h3 h4;have:=hc.trans _ _ _ h3 h4;rw[if_pos (by omega)];exact this
def kz(x y:Xb):Int:=if zz x y then -1 else if x=y then 0 else 1
theorem Jg:Law3 kz:=by
 have irr:=Y6;have asy:∀x y,zz x y=true->zz y x=true->False:=λx y h1 h2=>by
  rw[Q3,decide_eq_true_eq]at h1 h2;exact absurd (List.lt_trans h1 h2) (List.lt_irrefl _)
 have tot:∀x y,x=y\/zz x y=true\/zz y x=true:=λx y=>by
  rw[Q3,Q3,decide_eq_true_eq,decide_eq_true_eq];rcases Classical.em (x<y)with h|h
  .exact Or.inr (Or.inl h)
  rcases Classical.em (y<x)with h'|h'
  .exact Or.inr (Or.inr h')
  .exact Or.inl (List.le_antisymm (List.not_lt.1 h') (List.not_lt.1 h))
 have tr:∀x y z,zz x y=true->zz y z=true->zz x z=true:=λx y z h1 h2=>by
  rw[Q3,decide_eq_true_eq]at *;exact List.lt_trans h1 h2
 have neg:∀x y,kz x y<0↔zz x y=true:=λx y=>by
  unfold kz;cases h:zz x y with
  |true=>simp
  |false=>
   rw[if_neg Bool.false_ne_true];split<;>simp
 refine⟨λa b=>?_,λa b=>?_,λa b d h1 h2=>(neg _ _).2 (tr _ _ _ ((neg _ _).1 h1) ((neg _ _).1 h2))⟩
 .unfold kz;cases h:zz a b with
  |true=>rw[if_pos rfl];exact⟨λh'=>by omega,λe=>by rw[e,irr]at h;cases h⟩
  |false=>
   rw[if_neg Bool.false_ne_true];by_cases e:a=b
   .rw [if_pos e];exact⟨λ_=>e,λ_=>rfl⟩
   .rw [if_neg e];exact⟨λh'=>by omega,λh'=>absurd h' e⟩
 .unfold kz;rcases tot a b with e|e|e
  .subst e;rw[irr,if_neg Bool.false_ne_true,if_pos rfl];rfl
  .have h2:zz b a=false:=by
    cases h:zz b a with
    |false=>rfl
    |true=>exact(asy _ _ e h).elim
   have hne:¬b=a:=λh=>by rw[h,irr]at e;cases e
   rw[e,h2,if_neg Bool.false_ne_true,if_neg hne,if_pos rfl];rfl
  .have h2:zz a b=false:=by
    cases h:zz a b with
    |false=>rfl
    |true=>exact(asy _ _ e h).elim
   have hne:¬a=b:=λh=>by rw[h,irr]at e;cases e
   rw[e,h2,if_neg Bool.false_ne_true,if_neg hne,if_pos rfl]
def km(x y:Nat):Int:=if x<y then -1 else if y<x then 1 else 0
theorem Z6:Law3 km:=by
 refine⟨λa b=>?_,λa b=>?_,λa b d=>?_⟩<;>unfold km
 .split
  .omega
  .split<;>omega
 .split<;>split<;>(try split)<;>omega
 .intro h1 h2;by_cases h:a<b
  .by_cases h3:b<d
   .rw [if_pos (by omega)];omega
   .rw [if_neg h3]at h2;split at h2<;>omega
  .rw [if_neg h]at h1;split at h1<;>omega
def vF(n:Xb):Nat:=if jr n then 0 else 1
abbrev Key:=Nat×(Xb×Nat)
def cK(x y:Key):Int:=if km x.1 y.1≠0 then km x.1 y.1 else if kz x.2.1 y.2.1≠0 then kz x.2.1 y.2.1 else km x.2.2 y.2.2
theorem Z4:Law3 cK:=by
 have h2:Law3 λx y:Xb×Nat=>if kz x.1 y.1≠0 then kz x.1 y.1 else km x.2 y.2:=jwo (f:=Prod.fst) (g:=Prod.snd) Jg Z6 λx y h1 h2=>Prod.ext h1 h2;exact jwo (f:=Prod.fst) (g:=Prod.snd) Z6 h2 λx y h1 h2=>Prod.ext h1 h2
def Jv(t:T):Key:=(vF t.name,(t.name,t.args.length))
mutual
def ya(a b:T):Int:=
 match a with
 |.mk n us=>if cK (Jv (.mk n us)) (Jv b)≠0 then cK (Jv (.mk n us)) (Jv b)else zt us b.args
termination_by structural a
def zt(xs bs:Xg):Int:=
 match xs with
 | []=>0
 |a::xs=>(match bs with| []=>0|b::bs=>if ya a b≠0 then ya a b else zt xs bs)
termination_by structural xs
end
theorem YR(a b:T):ya a b=if cK (Jv a) (Jv b)≠0 then cK (Jv a) (Jv b)else zt a.args b.args:=by cases a;rfl
theorem jhH{a b:T}(h:Jv a=Jv b):a.name=b.name/\a.args.length=b.args.length:=by
 unfold Jv at h;simp only[Prod.mk.injEq]at h;exact h.2
theorem jxe{a b:T}(h1:a.name=b.name)(h2:a.args=b.args):a=b:=by
 cases a;cases b;simp only[T.name,T.args]at h1 h2;rw[h1,h2]
theorem jvA:∀{xs bs:Xg},(∀u∈xs,∀v,ya u v=0↔u=v)->xs.length=bs.length->(zt xs bs=0↔xs=bs)
 | [],[],_,_=>by simp[zt]
 | [],_::_,_,h=>by cases h
 |_::_,[],_,h=>by cases h
 |a::xs,b::bs,h,hl=>by
  rw[zt];have ih:=jvA (xs:=xs) (bs:=bs) (λu hu=>h u (by simp[hu])) (Nat.succ.inj hl);by_cases h0:ya a b=0
  .rw [if_neg (λh'=>h' h0),ih,(h a (by simp) b).1 h0];simp
  .rw [if_pos h0];exact⟨λh'=>absurd h' h0,λe=>by rw[List.cons.injEq]at e;exact(h a (by simp) b).2 e.1⟩
theorem juL:∀{xs bs:Xg},(∀u∈xs,∀v,ya v u = -(ya u v))->xs.length=bs.length->zt bs xs = -(zt xs bs)
 | [],[],_,_=>by simp[zt]
 | [],_::_,_,h=>by cases h
 |_::_,[],_,h=>by cases h
 |a::xs,b::bs,h,hl=>by
  rw[zt,zt,h a (by simp) b,juL (xs:=xs) (bs:=bs) (λu hu=>h u (by simp[hu])) (Nat.succ.inj hl)];by_cases h0:ya a b=0
  .rw [if_neg (by omega),if_neg (by omega)]
  .rw [if_pos (by omega),if_pos (by omega)]
theorem jso(z:∀u v:T,ya u v=0↔u=v):∀{xs bs ds:Xg},(∀u∈xs,∀v w,ya u v<0->ya v w<0->ya u w<0)->xs.length=bs.length->bs.length=ds.length->zt xs bs<0->zt bs ds<0->zt xs ds<0
 | [],_,_,_,_,_,h1,_=>by simp[zt]at h1
 |a::xs,[],_,_,h,_,_,_=>by cases h
 |a::xs,b::bs,[],_,_,h,_,_=>by cases h
 |a::xs,b::bs,d::ds,h,hl,hl2,h1,h2=>by
  rw[zt]at h1 h2⊢;by_cases c1:ya a b=0
  .have e1:=(z a b).1 c1;rw[if_neg (λh'=>h' c1)]at h1;rw[e1];by_cases c2:ya b d=0
   .rw [if_neg (λh'=>h' c2)]at h2;rw[if_neg (λh'=>h' c2)];exact jso z (λu hu=>h u (by simp[hu])) (Nat.succ.inj hl) (Nat.succ.inj hl2) h1 h2
   .rw [if_pos c2]at h2;rw[if_pos c2];exact h2
  .rw [if_pos c1]at h1;by_cases c2:ya b d=0
   .rw [<-(z b d).1 c2,if_pos c1];exact h1
   .rw [if_pos c2]at h2;have:=h a (by simp) b d h1 h2;rw[if_pos (by omega)];exact this
theorem jp0:Law3 ya:=by
 have z:∀a b:T,ya a b=0↔a=b:=by
  refine T.ind λa ih b=>?_;rw[YR];by_cases h:cK (Jv a) (Jv b)=0
  .have hk:=(Z4.zero _ _).1 h;obtain⟨h1,h2⟩:=jhH hk;rw[if_neg (λh'=>h' h),jvA ih h2];exact⟨λe=>jxe h1 e,λe=>by rw[e]⟩
  .rw [if_pos h];exact⟨λh'=>absurd h' h,λe=>by rw[e]at h;exact absurd ((Z4.zero _ _).2 rfl) h⟩
 refine⟨z,?_,?_⟩
 .refine T.ind λa ih b=>?_;rw[YR,YR a b,Z4.flip (Jv a) (Jv b)];by_cases h:cK (Jv a) (Jv b)=0
  .obtain ⟨_,h2⟩:=jhH ((Z4.zero _ _).1 h);rw[if_neg (by omega),if_neg (by omega),juL ih h2]
  .rw [if_pos (by omega),if_pos (by omega)]
 .refine T.ind λa ih b d h1 h2=>?_;rw[YR]at h1 h2⊢;by_cases c1:cK (Jv a) (Jv b)=0
  .have e1:=(Z4.zero _ _).1 c1;rw[if_neg (λh'=>h' c1)]at h1;rw[e1];by_cases c2:cK (Jv b) (Jv d)=0
   .have e2:=(Z4.zero _ _).1 c2;rw[if_neg (λh'=>h' c2)]at h2;rw[if_neg (λh'=>h' c2)];exact jso z ih (jhH e1).2 (jhH e2).2 h1 h2
   .rw [if_pos c2]at h2;rw[if_pos c2];exact h2
  .rw [if_pos c1]at h1;by_cases c2:cK (Jv b) (Jv d)=0
   .rw [<-(Z4.zero _ _).1 c2,if_pos c1];exact h1
   .rw [if_pos c2]at h2;have:=Z4.trans _ _ _ h1 h2;rw[if_pos (by omega)];exact this
def upN:Xb->Bool
 | []=>false
 |c::_=>upc c
mutual
def val(M:Xb->Xi->Int)(e:Xb->Int):T->Int
 |.mk n us=>if us.isEmpty && upN n then e n else M n (jyL M e us)
def jyL(M:Xb->Xi->Int)(e:Xb->Int):Xg->Xi
 | []=>[]
 |t::ts=>val M e t::jyL M e ts
end
section
variable{M:Xb->Xi->Int}
def Ext(m m':ju):Prop:=∀x r,look m x=some r->look m' x=some r
theorem Ext.refl(m:ju):Ext m m:=λ_ _ h=>h
theorem Ext.trans{a b c:ju}(h:Ext a b)(h':Ext b c):Ext a c:=λx r hx=>h' x r (h x r hx)
variable{ji0:Int->Prop}
def jAX(M:Xb->Xi->Int)(ji0:Int->Prop)(rs:Xg):Prop:=∀r∈rs,∀e:Xb->Int,(∀x,ji0 (e x))->val M e (jtH r)=val M e (jt9 r)
end
def dec(n:Nat):Nat->Nat->Xf
 |0,_=>[]
 |l+1,k=>k % n::dec n l (k / n)
def enc(n:Nat):Xf->Nat
 | []=>0
 |v::vs=>v+n*enc n vs
def vnA(l:Xa)(n:Xb):Xa:=if l.contains n then l else l++[n]
mutual
def vn(l:Xa):T->Xa
 |.mk n us=>if us.isEmpty && upN n then vnA l n else vnL l us
def vnL(l:Xa):Xg->Xa
 | []=>l
 |t::ts=>vnL (vn l t) ts
end
def VIn(S:Xa)(t:T):Prop:=∀x∈ke t,x∈S
abbrev Lt:=Bool×T
def fl(b:Bool):Nat:=if b then 1 else 0
def cmpL(a b:Lt):Int:=if ya a.2 b.2≠0 then ya a.2 b.2 else km (fl a.1) (fl b.1)
theorem qe:Law3 cmpL:=jwo (f:=Prod.snd) (g:=λl:Lt=>fl l.1) jp0 Z6 λx y h1 h2=>by
 obtain⟨p,t⟩:=x;obtain⟨q,u⟩:=y;have h1:t=u:=h1;have h2:fl p=fl q:=h2;subst h1;cases p<;>cases q<;>first|rfl|(simp[fl]at h2)
abbrev kg:=List Lt
def jiE:kg->Bool
 |a::b::l=>decide (cmpL a b<0) && jiE (b::l)
 |_=>true
theorem jiF:∀c:kg,jiE c=true↔Asc cmpL c
 | []=>by simp[jiE,Asc]
 | [a]=>by simp[jiE,Asc]
 |a::b::l=>by
  rw[jiE,Bool.and_eq_true,decide_eq_true_eq,jiF (b::l)];unfold Asc;constructor
  .rintro ⟨h1,h2⟩;refine List.pairwise_cons.2 ⟨λx hx=>?_,h2⟩;rcases List.mem_cons.1 hx with e|e
   .rw [e];exact h1
   .exact qe.trans a b x h1 ((List.pairwise_cons.1 h2).1 x e)
  .intro h;exact⟨(List.pairwise_cons.1 h).1 b (by simp),(List.pairwise_cons.1 h).2⟩
mutual
def qv(l:Xa):T->Xa
 |.mk n us=>if jr n then vnA l n else Yo l us
def Yo(l:Xa):Xg->Xa
 | []=>l
 |t::ts=>Yo (qv l t) ts
end
theorem jhY(l:Xa)(t:T):qv l t=if jr t.name then vnA l t.name else Yo l t.args:=by cases t;rfl
def kh(c:kg):Xa:=c.foldl (λl x=>qv l x.2) []
def Yn(p:UInt8)(i:Nat):Xb:=p::Lib.decDigits i
def qY(c:kg):Bool:=decide (kh c=(List.range (kh c).length).map (Yn 88))
mutual
def kN(f:Xb->Xb):T->T
 |.mk n us=>if jr n then .mk (f n) []else .mk n (Jm f us)
def Jm(f:Xb->Xb):Xg->Xg
 | []=>[]
 |t::ts=>kN f t::Jm f ts
end
theorem jj9(f:Xb->Xb):∀ts:Xg,Jm f ts=ts.map (kN f)
 | []=>rfl
 |t::ts=>by rw[Jm,jj9 f ts,List.map_cons]
theorem jba(f:Xb->Xb)(t:T):kN f t=if jr t.name then .mk (f t.name) []else .mk t.name (t.args.map (kN f)):=by
 cases t;rw[kN,jj9];rfl
def kG(p:UInt8)(l:Xa)(n:Xb):Xb:=match l.findIdx? (λx=>decide (x=n))with|some i=>Yn p i|none=>n
def renC(p:UInt8)(c:kg):kg:=zi cmpL (c.map λl=>(l.1,kN (kG p (kh c)) l.2))
def normF:Nat->kg->kg
 |0,c=>c
 |k+1,c=>if qY c then c else normF k (renC 88 c)
def normC(c:kg):kg:=normF 10 c
theorem yA(t:T)(h:qb t=true\/t.name=[61]):G 81 [tm t]=some (vb (jr t.name),[]):=by
 rcases h with h|h
 .exact jqv t h
 .have e1:=QJ 61;have hx:zj (sv t.name) (vi 0)=some (vy ((61:UInt8).toNat:Int)):=by rw[h];exact yf
  have hv:jr t.name=upc 61:=by rw[h];decide
  rw[g81,hv];simp only[jg,hx,e1]
theorem Zu(x y:Xb):kz x y=if zz x y then -1 else if zz y x then 1 else 0:=by
 have hf:=Jg.flip x y;cases h1:zz x y with
 |true=>unfold kz;rw[h1];rfl
 |false=>
  rw[if_neg Bool.false_ne_true];cases h2:zz y x with
  |true=>
   have:kz y x = -1:=by unfold kz;rw[h2,if_pos rfl]
   rw[if_pos rfl];omega
  |false=>
   rw[if_neg Bool.false_ne_true];have a1:kz x y=0\/kz x y=1:=by
    unfold kz;rw[h1,if_neg Bool.false_ne_true];split<;>simp
   have a2:kz y x=0\/kz y x=1:=by
    unfold kz;rw[h2,if_neg Bool.false_ne_true];split<;>simp
   omega
theorem jbT(b:Bool)(x y:Xb):jq .gtr b (sv x) (sv y)=some (vb (zz y x)):=by
 show some (vb (!(zz x y || decide (x=y))))=_;by_cases e:x=y
 .subst e;rw[Y6,decide_eq_true rfl];rfl
 have h1:=Zu x y;have h3:=Jg.flip x y;have h4:=Zu y x;rw[decide_eq_false e,Bool.or_false];cases a:zz x y<;>cases c:zz y x<;>rw[a,c]at h1 h4
 .exact absurd ((Jg.zero x y).1 h1) e
 .rfl
 .rfl
 .have h1:kz x y = -1:=h1;have h4:kz y x = -1:=h4;omega
theorem Z7(x y:Xb):G 154 [sv x,sv y]=some (vi (kz x y),[]):=by
 have n1:G 193 [sv x]=some (vb false,[]):=by rw[jxW];simp only[jg]
 have n2:G 193 [sv y]=some (vb false,[]):=by rw[jxW];simp only[jg]
 rw[jz2,Zu];cases h1:zz x y<;>cases h2:zz y x<;>simp only[jg,n1,n2,jbT,h1,h2]
theorem jcn(x y:Nat):G 144 [vi (x:Nat),vi (y:Nat)]=some (vi (km x y),[]):=by
 have n1:G 186 [vi (x:Nat)]=some (vb false,[]):=by rw[jxV];simp only[jg]
 have n2:G 186 [vi (y:Nat)]=some (vb false,[]):=by rw[jxV];simp only[jg]
 rw[jzV];unfold km;by_cases h1:x<y
 .have h1':((x:Nat):Int)<((y:Nat):Int):=by omega
  rw[if_pos h1];simp only[jg,n1,n2,h1']
 .have h1':¬((x:Nat):Int)<((y:Nat):Int):=by omega
  rw[if_neg h1];by_cases h2:y<x
  .have h2':((y:Nat):Int)<((x:Nat):Int):=by omega
   rw[if_pos h2];simp only[jg,n1,n2,h1',h2']
  .have h2':¬((y:Nat):Int)<((x:Nat):Int):=by omega
   rw[if_neg h2];simp only[jg,n1,n2,h1',h2']
theorem jrC(a b:Int):G 142 [.sl 1 [[vi a],[vi b]]]=some (vi (if a≠0 then a else b),[]):=by
 have i0:jz 1 (.sl 1 [[vi a],[vi b]]) (vi 0)=some (.elt [vi a] 0):=rfl;have i1:jz 1 (.sl 1 [[vi a],[vi b]]) (vi 1)=some (.elt [vi b] 0):=rfl;have ll:zG (.sl 1 [[vi a],[vi b]])=some (vi 2):=rfl;have c0:jq .add false (vi 0) (vi 1)=some (vi 1):=by rw[Zf,jZ (by decide) (by decide)];rfl
 have c1:jq .add false (vi 1) (vi 1)=some (vi 2):=by rw[Zf,jZ (by decide) (by decide)];rfl
 have z0:(0:Int)<2:=by decide
 have z1:(1:Int)<2:=by decide
 have z2:¬(2:Int)<2:=by decide
 generalize A.sl 1 [[vi a],[vi b]]=X at *;have k2:jdu (vi 0) X (vi 2) (vi 2)=some (vi 0,[]):=by rw[jlo];simp only[jg,z2]
 have k1:jdu (vi 0) X (vi 2) (vi 1)=some (vi b,[]):=by
  rw[jlo];by_cases hb:b=0
  .simp only[jg,z1,i1,hb,c1,k2]
  .simp only[jg,z1,i1,hb]
 rw[jzT];simp only[cev];rw[ll,Option.bind_some,jlo];by_cases ha:a=0
 .rw [if_neg (λh=>h ha)];simp only[jg,z0,i0,ha,c0,k1]
 .rw [if_pos ha];simp only[jg,z0,i0,ha]
def Rx'(t:T):Prop:=qb t=true\/(t.name=[61]/\ ∀u∈t.args,qb u=true)
theorem Rx'.args{t:T}(h:Rx' t):∀u∈t.args,Rx' u:=λu hu=>Or.inl (by
 rcases h with h|h
 .exact qi h u hu
 .exact h.2 u hu)
theorem jbF(ts us:Xg)(hl:ts.length<=1048576)(hlen:ts.length=us.length)(ih:∀t∈ts,∀u∈us,G 143 [tm t,tm u]=some (vi (ya t u),[])) :
  ∀i,i<=ts.length->jhh (jS ts) (jS us) (.fn 143 []) (jS ts) (vi (ts.length:Nat)) (vi (i:Nat))=some (vi (zt (ts.drop i) (us.drop i)),[]):=by
 refine upto ?_ ?_
 .rw [jq4,List.drop_length,zt];simp only[jg,hlen]
 .intro i hi ih';have hlt:(i:Int)<((ts.length:Nat):Int):=by omega
  have hi2:i<us.length:=by omega
  have hge:¬((us.length:Nat):Int)<=(i:Int):=by omega
  have h5:=jy hi (by show ts.length<=9223372036854775807;omega)
  have e1:=ih ts[i] (List.getElem_mem _) us[i] (List.getElem_mem _);rw[jq4,js hi,js hi2,zt];by_cases hc:ya ts[i] us[i]=0
  .rw [if_neg (λh=>h hc)];rw[hc]at e1;simp only[jg,hlt,jb hi,jb hi2,ji,hge,Je (f:=143) rfl,List.append_nil,e1,h5,ih']
  .rw [if_pos hc];generalize ya ts[i] us[i]=c at *;simp only[jg,hlt,jb hi,jb hi2,ji,hge,Je (f:=143) rfl,List.append_nil,e1,hc]
theorem jcS:∀a:T,Rx' a->Tz a-> ∀b:T,Rx' b->Tz b->G 143 [tm a,tm b]=some (vi (ya a b),[]):=by
 refine T.ind λa ih ha za b hb zb=>?_;have va:=yA a (ha.imp id λh=>h.1);have vb':=yA b (hb.imp id λh=>h.1);have hz:=za;unfold Tz at hz;rw[ze]at hz;have e1:=Z7 a.name b.name;have e2:=jcn a.args.length b.args.length;have e3:=jrC (kz a.name b.name) (km a.args.length b.args.length);have e4:a.args.length=b.args.length->G 185 [jS a.args,jS b.args,.fn 143 []]=some (vi (zt a.args b.args),[]):=λhlen=>by
  have key:=jbF a.args b.args (by omega) hlen (λt ht u hu=>ih t ht (ha.args t ht) (za.args t ht) u (hb.args u hu) (zb.args u hu)) 0 (Nat.zero_le _);simp only[Int.natCast_zero,List.drop_zero]at key;rw[jAg];simp only[jg,key]
 rw[jzU,YR];unfold cK Jv vF;cases h1:jr a.name<;>cases h2:jr b.name<;>rw[h1]at va<;>rw[h2]at vb'
 .show _=some (vi (if(if km 1 1≠0 then km 1 1 else if kz a.name b.name≠0 then kz a.name b.name else km a.args.length b.args.length)≠0 then(if km 1 1≠0 then km 1 1 else if kz a.name b.name≠0 then kz a.name b.name else km a.args.length b.args.length)else zt a.args b.args),[]);rw[if_neg (show ¬km 1 1≠0 by decide)];by_cases hz0:(if kz a.name b.name≠0 then kz a.name b.name else km a.args.length b.args.length)=0
  .have hlen:a.args.length=b.args.length:=by
    split at hz0
    .rename_i h;exact absurd hz0 h
    .exact (Z6.zero _ _).1 hz0
   rw[if_neg (λh=>h hz0)];rw[hz0]at e3;simp only[jg,va,vb',e1,e2,e3,e4 hlen]
  .rw [if_pos hz0];generalize (if kz a.name b.name≠0 then kz a.name b.name else km a.args.length b.args.length)=c at *;simp only[jg,va,vb',e1,e2,e3,hz0]
 .have:(if(if km 1 0≠0 then km 1 0 else if kz a.name b.name≠0 then kz a.name b.name else km a.args.length b.args.length)≠0 then(if km 1 0≠0 then km 1 0 else if kz a.name b.name≠0 then kz a.name b.name else km a.args.length b.args.length)else zt a.args b.args)=1:=by
   rw[if_pos (show km 1 0≠0 by decide),if_pos (show km 1 0≠0 by decide)];rfl
  show _=some (vi (if(if km 1 0≠0 then km 1 0 else if kz a.name b.name≠0 then kz a.name b.name else km a.args.length b.args.length)≠0 then(if km 1 0≠0 then km 1 0 else if kz a.name b.name≠0 then kz a.name b.name else km a.args.length b.args.length)else zt a.args b.args),[]);rw[this];simp only[jg,va,vb']
 .have:(if(if km 0 1≠0 then km 0 1 else if kz a.name b.name≠0 then kz a.name b.name else km a.args.length b.args.length)≠0 then(if km 0 1≠0 then km 0 1 else if kz a.name b.name≠0 then kz a.name b.name else km a.args.length b.args.length)else zt a.args b.args) = -1:=by
   rw[if_pos (show km 0 1≠0 by decide),if_pos (show km 0 1≠0 by decide)];rfl
  show _=some (vi (if(if km 0 1≠0 then km 0 1 else if kz a.name b.name≠0 then kz a.name b.name else km a.args.length b.args.length)≠0 then(if km 0 1≠0 then km 0 1 else if kz a.name b.name≠0 then kz a.name b.name else km a.args.length b.args.length)else zt a.args b.args),[]);rw[this];simp only[jg,va,vb']
 .show _=some (vi (if(if km 0 0≠0 then km 0 0 else if kz a.name b.name≠0 then kz a.name b.name else km a.args.length b.args.length)≠0 then(if km 0 0≠0 then km 0 0 else if kz a.name b.name≠0 then kz a.name b.name else km a.args.length b.args.length)else zt a.args b.args),[]);rw[if_neg (show ¬km 0 0≠0 by decide)];by_cases hz0:(if kz a.name b.name≠0 then kz a.name b.name else km a.args.length b.args.length)=0
  .have hlen:a.args.length=b.args.length:=by
    split at hz0
    .rename_i h;exact absurd hz0 h
    .exact (Z6.zero _ _).1 hz0
   rw[if_neg (λh=>h hz0)];rw[hz0]at e3;simp only[jg,va,vb',e1,e2,e3,e4 hlen]
  .rw [if_pos hz0];generalize (if kz a.name b.name≠0 then kz a.name b.name else km a.args.length b.args.length)=c at *;simp only[jg,va,vb',e1,e2,e3,hz0]
theorem jn8(x y:Xb):G 182 [sv x,sv y]=some (vi (kz x y),[]):=by
 rw[jAd,Zu];cases h1:zz x y<;>cases h2:zz y x<;>simp only[jg,jbT,h1,h2]
theorem jee(n m:Xb)(ts us:Xg)(hl:ts.length<=1048576)(hlen:ts.length=us.length)(ih:∀t∈ts,∀u∈us,G 134 [tm t,tm u]=some (vi (ya t u),[])) :
  ∀i,i<=ts.length->jds (vi (i:Nat)) (sv n) (jS ts) (sv m) (jS us)=some (vi (zt (ts.drop i) (us.drop i)),[]):=by
 refine upto ?_ ?_
 .rw [jqN,List.drop_length,zt];simp only[jg]
 .intro i hi ih';have hlt:(i:Int)<((ts.length:Nat):Int):=by omega
  have hi2:i<us.length:=by omega
  have h5:=jy hi (by show ts.length<=9223372036854775807;omega)
  have e1:=ih ts[i] (List.getElem_mem _) us[i] (List.getElem_mem _);rw[jqN,js hi,js hi2,zt];by_cases hc:ya ts[i] us[i]=0
  .rw [if_neg (λh=>h hc)];rw[hc]at e1;simp only[jg,hlt,jb hi,jb hi2,ji,e1,h5,ih']
  .rw [if_pos hc];generalize ya ts[i] us[i]=c at *;simp only[jg,hlt,jb hi,jb hi2,ji,e1,hc]
theorem jk8(a b:T):ya a b=if jr a.name=true/\jr b.name=false then -1 else if jr a.name=false/\jr b.name=true then 1 else if ¬a.name=b.name then kz a.name b.name else if a.args.length<b.args.length then -1 else if b.args.length<a.args.length then 1 else zt a.args b.args:=by
 rw[YR];unfold cK Jv vF;have hn:=Jg.zero a.name b.name;have hzr:km 1 1=0/\km 0 0=0/\km 0 1 = -1/\km 1 0=1:=by decide
 obtain⟨z1,z2,z3,z4⟩:=hzr;have hz:km a.args.length b.args.length=if a.args.length<b.args.length then -1 else if b.args.length<a.args.length then 1 else 0:=rfl;cases h1:jr a.name<;>cases h2:jr b.name<;>simp only[Bool.false_eq_true,if_true,if_false,z1,z2,z3,z4,hz]
 all_goals have hs:=(Jg.zero b.name b.name).2 rfl
 all_goals by_cases e:a.name=b.name
 all_goals by_cases l1:a.args.length<b.args.length
 all_goals by_cases l2:b.args.length<a.args.length
 all_goals first
  |(simp[e,hs,l1,l2];done)
  |(have ne:¬kz a.name b.name=0:=λh=>e (hn.1 h);simp only[ne_eq,e,ne,not_false_eq_true,not_true_eq_false,if_true,if_false,and_true,and_false,reduceCtorEq];done)
  |simp[l1,l2]
theorem jhL:∀a:T,Tz a-> ∀b:T,Tz b->G 134 [tm a,tm b]=some (vi (ya a b),[]):=by
 refine T.ind λa ih za b zb=>?_;have va:=yc a.name (((kQ a).1 za.wf).1);have vb':=yc b.name (((kQ b).1 zb.wf).1);have hz:=za;unfold Tz at hz;rw[ze]at hz;have e1:=jn8 a.name b.name;have e4:a.args.length=b.args.length->jds (vi 0) (sv a.name) (jS a.args) (sv b.name) (jS b.args)=some (vi (zt a.args b.args),[]):=λhlen=>by
  have key:=jee a.name b.name a.args b.args (by omega) hlen (λt ht u hu=>ih t ht (za.args t ht) u (zb.args u hu)) 0 (Nat.zero_le _);simp only[Int.natCast_zero,List.drop_zero]at key;exact key
 rw[jzN,jk8];have main:∀p:Bool,G 73 [sv a.name]=some (vb p,[])->G 73 [sv b.name]=some (vb p,[])->_:=λp _ _=>trivial;clear main;cases h1:jr a.name<;>cases h2:jr b.name<;>rw[h1]at va<;>rw[h2]at vb'
 all_goals by_cases en:a.name=b.name
 all_goals try (exfalso;rw[en,h2]at h1;cases h1;done)
 all_goals by_cases l1:a.args.length<b.args.length
 all_goals by_cases l2:b.args.length<a.args.length
 all_goals have l1':(((a.args.length:Nat):Int)<((b.args.length:Nat):Int))=(a.args.length<b.args.length):=propext (by omega)
 all_goals have l2':(((b.args.length:Nat):Int)<((a.args.length:Nat):Int))=(b.args.length<a.args.length):=propext (by omega)
 all_goals first
  |(have e4:=e4 (by omega);rw[en]at e4;simp only[jg,vb',en,l1,l2,l1',l2',e4,and_true,and_false];done)
  |(simp only[jg,va,vb',e1,en,l1,l2,l1',l2',and_true,and_false];done)
  |(simp only[jg,va,vb',e1,en,l1,l2,l1',l2',and_true,true_and,and_false,false_and])
abbrev jD(l:Lt):Xd:=[vb l.1,sv l.2.name,.sl 2 (l.2.args.map jm)]
abbrev ltm(l:Lt):A:= .agg [vb l.1,sv l.2.name,.sl 2 (l.2.args.map jm)]
theorem jmW(b:Bool):G 145 [vb b]=some (vi (fl b:Nat),[]):=by
 rw[jzW];cases b<;>simp only[jg]<;>rfl
theorem Kb(a b:Lt)(ha:Rx' a.2)(za:Tz a.2)(hb:Rx' b.2)(zb:Tz b.2):G 96 [ltm a,ltm b]=some (vi (cmpL a b),[]):=by
 have e1:=jcS a.2 ha za b.2 hb zb;have e2:=jmW a.1;have e3:=jmW b.1;have e4:=jcn (fl a.1) (fl b.1);have e5:=jrC (ya a.2 b.2) (km (fl a.1) (fl b.1));have e6:cmpL a b=if ya a.2 b.2≠0 then ya a.2 b.2 else km (fl a.1) (fl b.1):=rfl;rw[g96,e6];generalize (if ya a.2 b.2≠0 then ya a.2 b.2 else km (fl a.1) (fl b.1))=c at *;generalize km (fl a.1) (fl b.1)=d at *;generalize ya a.2 b.2=f at *;simp only[jg,e1,e2,e3,e4,e5]
theorem Qt(a b:Lt)(za:Tz a.2)(zb:Tz b.2):G 87 [ltm a,ltm b]=some (vi (cmpL a b),[]):=by
 have e1:=jhL a.2 za b.2 zb;have e6:cmpL a b=if ya a.2 b.2≠0 then ya a.2 b.2 else km (fl a.1) (fl b.1):=rfl;rw[g87,e6];by_cases h:ya a.2 b.2=0
 .rw [if_neg (λh'=>h' h)];rw[h]at e1;obtain⟨p,t⟩:=a;obtain⟨q,u⟩:=b;have d1:km (fl false) (fl true) = -1:=by decide
  have d2:km (fl true) (fl false)=1:=by decide
  have d3:km (fl true) (fl true)=0:=by decide
  have d4:km (fl false) (fl false)=0:=by decide
  cases p<;>cases q<;>simp only[jg,e1,d1,d2,d3,d4]
 .rw [if_pos h];generalize ya a.2 b.2=c at *;simp only[jg,e1,h]
end Go.Proofs.YtkkcepmpbackoaaGreatDoor
