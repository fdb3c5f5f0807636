/- Pb -/
import Derived.Test.YtjbkclajpheekaaGreatPa
import Derived.Test.YtjbkclajpheekaaGreatPq
import Derived.Sort.Walk0
namespace Go.Proofs.YtjbkclajpheekaaGreat
open Go Go.RowKit Go.Proofs.YtjbkclajpheekaaGreat.Abs
set_option linter.unusedSimpArgs false
set_option linter.unusedVariables false
set_option maxHeartbeats 1000000
def look:List (List UInt8 × T)->List UInt8->Option T
 | [],_=>none
 | p::u,n=>if p.1=n then some p.2 else look u n
def jsW (u:List (List UInt8 × T)) (n:List UInt8):T:=(look u n).getD (.mk n [])
mutual
def sub (u:List (List UInt8 × T)):T->T
 | .mk n us=>if kS n then jsW u n else .mk n (jvw u us)
def jvw (u:List (List UInt8 × T)):List T->List T
 | []=>[]
 | t::ts=>sub u t::jvw u ts
end
theorem juy (u:List (List UInt8 × T)):∀ts:List T,jvw u ts=ts.map (sub u)
 | []=>rfl
 | t::ts=>by rw [jvw,juy u ts,zd]
theorem jqo {u:List (List UInt8 × T)} {t:T} (h:kS t.name=true):sub u t=jsW u t.name:=by
 obtain ⟨n,us⟩:=t;have h:kS n=true:=h;show (if kS n then jsW u n else T.mk n (jvw u us))=_;rw [jq h];rfl
theorem jm5 {u:List (List UInt8 × T)} {t:T} (h:kS t.name=false):sub u t = .mk t.name (t.args.map (sub u)):=by
 obtain ⟨n,us⟩:=t;have h:kS n=false:=h;show (if kS n then jsW u n else T.mk n (jvw u us))=_;rw [h,jp jcV,juy];rfl
theorem jwh {u:List (List UInt8 × T)} {t:T} (h:kS t.name=false):(sub u t).name=t.name:=by rw [jm5 h];rfl
theorem juz {u:List (List UInt8 × T)} {t:T} (h:kS t.name=false):(sub u t).args=t.args.map (sub u):=by rw [jm5 h];rfl
theorem jjs {t:T} (h:KW t=true) (hv:kS t.name=true):t.args = []:=by
 rw [YB,hv,jq rfl] at h;exact jfl.1 h
def jyr (f:List UInt8->Int):List (List UInt8)->Int
 | []=>0
 | x::l=>f x+jyr f l
theorem jwl {o:Ord'} (hv:kL o=true) {n:List UInt8} (h:o.syms.contains n=true):o.var<=jfc o n:=by
 obtain ⟨k,hk,hlt⟩:=jbJ h;obtain ⟨h1,h2,h3,h4⟩:=ZJ hv;have h5:=h4 k hlt;have hlt':k < o.ws.length:=by omega
 have e:jfc o n=o.ws.getD k 0:=by simp [jfc,hk]
 rw [e];exact h5.1
theorem jxq {o:Ord'} (hv:kL o=true) {t:T} (hc:y9 o.syms t=true):o.var<=wt o t:=by
 have hc':=hc;rw [yR,js] at hc';have hb:=(Z7 hv hc'.2).1;rw [jmX];cases hn:kS t.name with
 | true=>simp only [yf];omega
 | false=>
  have hcn:=hc'.1;rw [hn,jZ] at hcn;have:=jwl hv hcn;simp only [ZP,KC];omega
abbrev bc (p:List UInt8 × T):List A:=[sv p.1,sv p.2.name,.sl 2 (p.2.args.map jm)]
abbrev sbs (u:List (List UInt8 × T)):A:= .sl 3 (u.map bc)
abbrev sb (u:List (List UInt8 × T)):A:= .agg [sbs u]
theorem jts (p:List UInt8 × T):zz 2 (.elt (bc p) 1)=some (tm p.2):=rfl
theorem jqn (p:List UInt8 × T):yW (.elt (bc p) 0)=some (sv p.1):=rfl
theorem jr2 (p:List UInt8 × T) (n:Nat):jeX (.elt (bc p) 0) n=some (.elt (bc p) n):=by rw [jcg,J3]
def Sz (z:Nat) (u:List (List UInt8 × T)):Prop:=u.length<=z/\ ∀p∈u,p.1.length<=z/\tsz p.2<=z
theorem jvk (u:List (List UInt8 × T)) (hl:u.length<=1048576) (n:List UInt8):(look u n=none/\G 121 [sb u,sv n]=some (vi (-1),[]))\/ ∃k,∃h:k < u.length,look u n=some u[k].2/\G 121 [sb u,sv n]=some (vi (k:Nat),[]):=by
 have key:=upto (P:=λi=>(look (u.drop i) n=none/\jte (sv n) (vi i) (sbs u)=some (vi (-1),[]))\/ ∃k,∃h:k < u.length,look (u.drop i) n=some u[k].2/\jte (sv n) (vi i) (sbs u)=some (vi (k:Nat),[])) (n:=u.length) ?_ ?_ 0 (zZ _)
 ·rw [jyi];exact key
 ·left;rw [zw,jvU];exact ⟨rfl,by simp only [jr]⟩
 ·intro i hi ih;have hlt:(i:Int) < ((u.length:Nat):Int):=by omega
  have h5:=jB hi (by show u.length<=9223372036854775807;omega)
  rw [jvU,jA hi,look];by_cases he:u[i].1=n
  ·right;rw [jq he];exact ⟨i,hi,rfl,by simp only [jr,hlt,jb hi,jr2,jqn,he]⟩
  ·rw [jp he];rcases ih with ⟨h1,h2⟩|⟨k,hk,h1,h2⟩
   ·left;exact ⟨h1,by simp only [jr,hlt,jb hi,jr2,jqn,he,h5,h2]⟩
   ·right;exact ⟨k,hk,h1,by simp only [jr,hlt,jb hi,jr2,jqn,he,h5,h2]⟩
theorem juK (u:List (List UInt8 × T)) (hu:Sz 1048576 u) (t:T):tsz t<=1048576->G 102 [sb u,tm t]=some (tm (sub u t),[]):=by
 refine T.ind (p:=λt=>tsz t<=1048576->G 102 [sb u,tm t]=some (tm (sub u t),[])) ?_ t;intro t ih hs;have h:=hs;rw [zH] at h;have e1:=Kt t.name (by show t.name.length<=9223372036854775807;omega);rw [jyd];cases hv:kS t.name<;>rw [hv] at e1
 ·have key:=(upto (P:=λi=>jtX (vi i) (sbs u) (sv t.name) (zl t.args) (sv []) (sv t.name) [] (((t.args.map (sub u)).take i).map jm)=some (tm (sub u t),[])) (n:=t.args.length) ?_ ?_ 0 (zZ _))
  ·simp only [ya,jm4,jfk] at key;simp only [jr,e1,key]
  ·rw [jvR,jdi (by rw [jdj];omega),jm5 hv]
   simp only [jr];rfl
  ·intro i hi ih';have hlt:(i:Int) < ((t.args.length:Nat):Int):=by omega
   have h5:=jB hi (by show t.args.length<=9223372036854775807;omega)
   have e2:=ih t.args[i] (zf _) (by have:=zW (zf hi);omega)
   have hf:Ji (i+1) 40=true:=jsm (by omega);have hi2:i < (t.args.map (sub u)).length:=by rw [jdj];exact hi
   have hl:(((t.args.map (sub u)).take i).map jm).length=i:=by rw [jdj,jfv,jdj];omega
   have ha:Kb (((t.args.map (sub u)).take i).map jm) [[sv (sub u t.args[i]).name,zl (sub u t.args[i]).args]]=((t.args.map (sub u)).take (i+1)).map jm:=by
    rw [show [sv (sub u t.args[i]).name,zl (sub u t.args[i]).args]=jm (sub u t.args[i]) from (kA _).symm,jsM,jL hi2,jaP,js3];rfl
   generalize ((t.args.map (sub u)).take i).map jm=R at *;rw [jvR];simp only [jr,hlt,jb hi,jg,e2,hl,hf,ha,h5,ih']
 ·rw [jqo hv,jsW];rcases jvk u hu.1 t.name with ⟨h1,h2⟩|⟨k,hk,h1,h2⟩
  ·rw [h1];simp only [jr,e1,h2];rfl
  ·rw [h1];have hm:=hu.2 _ (zf hk);have e3:=jhW u[k].2 hm.2;have hk0:(0:Int)<=((k:Nat):Int):=by omega
   simp only [jr,e1,h2,hk0,jb hk,jr2,jts,e3,jmY]
abbrev ku:=List (List UInt8 × T)
mutual
noncomputable def mt (m:ku) (p:T) (t:T):Option ku:=
 match p with
 | .mk n us=>if kS n then (match look m n with|some r=>if dq r t then some m else none|none=>some (m++[(n,t)]))
   else if n=t.name/\us.length=t.args.length then mtL m us t.args else none
termination_by structural p
noncomputable def mtL (m:ku) (ps:List T) (ts:List T):Option ku:=
 match ps with
 | []=>some m
 | u::us=>(match ts with | []=>some m|t::ts=>(mt m u t).bind λm'=>mtL m' us ts)
termination_by structural ps
end
theorem jsR {m:ku} {p t:T} (h:kS p.name=true):mt m p t=(match look m p.name with|some r=>if dq r t then some m else none|none=>some (m++[(p.name,t)])):=by
 obtain ⟨n,us⟩:=p;have h:kS n=true:=h;simp only [mt,h,yf,T.name]
theorem jpf {m:ku} {p t:T} (h:kS p.name=false):mt m p t=if p.name=t.name/\p.args.length=t.args.length then mtL m p.args t.args else none:=by
 obtain ⟨n,us⟩:=p;have h:kS n=false:=h;simp only [mt,h,ZP,KC];rfl
theorem jtL {u:ku} {n:List UInt8} :look u n=none↔ ∀p∈u,p.1≠n:=by
 induction u with
 | nil=>simp [look]
 | cons p u ih=>
  rw [look];by_cases h:p.1=n
  ·rw [jq h];simp [h]
  ·rw [jp h,ih];simp [h]
theorem jhf:∀ {u:ku} {n:List UInt8} {r:T},look u n=some r->(n,r)∈u
 | p::u,n,r,h=>by
  rw [look] at h;by_cases e:p.1=n
  ·rw [jq e] at h;cases h;rw [<-e];simp
  ·rw [jp e] at h;exact YO _ (jhf h)
def MOk (p:T->Prop) (m:ku):Prop:=(m.map Prod.fst).Nodup/\(∀q∈m,kS q.1=true/\p q.2)
theorem MOk.nil (p:T->Prop):MOk p []:=⟨by simp,λq h=>by cases h⟩
theorem MOk.push {p:T->Prop} {m:ku} (h:MOk p m) {n:List UInt8} {t:T} (hn:kS n=true) (ht:p t) (hl:look m n=none):MOk p (m++[(n,t)]):=by
 refine ⟨?_,λq hq=> ?_⟩
 ·rw [jaP,z8];refine ⟨h.1,by simp,λa ha b hb=> ?_⟩;simp only [zd,jfk,jR] at hb;subst hb;obtain ⟨q,hq,rfl⟩:=z7.1 ha;exact jtL.1 hl q hq
 ·rcases kH.1 hq with hq|hq
  ·exact h.2 q hq
  ·simp only [jR] at hq;subst hq;exact ⟨hn,ht⟩
theorem jl6 {p:T->Prop} (hp:∀t,p t-> ∀u∈t.args,p u):∀(a:T) {m m':ku} {t:T},MOk p m->p t->mt m a t=some m'->MOk p m':=by
 refine T.ind (p:=λa=>∀ {m m':ku} {t:T},MOk p m->p t->mt m a t=some m'->MOk p m') λa ih=> ?_;intro m m' t hm ht h;cases hv:kS a.name with
 | true=>
  rw [jsR hv] at h;split at h
  ·split at h
   ·cases h;exact hm
   ·cases h
  ·rename_i hl;cases h;exact hm.push hv ht hl
 | false=>
  rw [jpf hv] at h;split at h
  ·have key:∀(us:List T) (ts:List T) {m m':ku},(∀u∈us,u∈a.args)->(∀u∈ts,p u)->MOk p m->mtL m us ts=some m'->MOk p m':=by
    intro us;induction us with
    | nil=>intro ts m m' _ _ hm h;simp only [mtL,jW] at h;exact h ▸ hm
    | cons u us ih2=>
     intro ts m m' hu hts hm h;cases ts with
     | nil=>simp only [mtL,jW] at h;exact h ▸ hm
     | cons s ts=>
      simp only [mtL] at h;obtain ⟨m1,h1,h2⟩:=kh.1 h;exact ih2 ts (λx hx=>hu x (by simp [hx])) (λx hx=>hts x (by simp [hx])) (ih u (hu u (by simp)) hm (hts s (by simp)) h1) h2
   exact key a.args t.args (λ_ h=>h) (hp t ht) hm h
  ·cases h
def jtB (s:ku) (n:List UInt8) (t:T):ku:=s.takeWhile (λp=>sLt p.1 n)++(n,t)::s.dropWhile (λp=>sLt p.1 n)
def jpL (s:ku) (n:List UInt8) (t:T):ku:=if t.name=n then s else jtB s n t
def jmS (m:ku):ku:=m.foldl (λs p=>jpL s p.1 p.2) []
theorem jwM (a:List UInt8):sLt a a=false:=by
 unfold sLt;cases h:Op.bytesLess a a with
 | false=>rfl
 | true=>
  exfalso;induction a with
  | nil=>simp [Op.bytesLess] at h
  | cons c r ih=>simp [Op.bytesLess] at h;exact ih h
theorem jvo (n:List UInt8) (t:T) (x:List UInt8):∀s:ku,look (jtB s n t) x=if n=x then some t else look s x:=by
 intro s;unfold jtB;induction s with
 | nil=>simp [look]
 | cons p s ih=>
  cases hl:sLt p.1 n with
  | true=>
   rw [js6 (p:=λp:List UInt8 × T=>sLt p.1 n) hl,js7 (p:=λp:List UInt8 × T=>sLt p.1 n) hl,JO,look,ih,look];by_cases h1:p.1=x
   ·rw [jq h1,jq h1];have:n≠x:=λe=>by rw [h1,<-e,jwM] at hl;cases hl
    rw [jp this]
   ·rw [jp h1,jp h1]
  | false=>
   rw [js4 (p:=λp:List UInt8 × T=>sLt p.1 n) (by simp [hl]),js5 (p:=λp:List UInt8 × T=>sLt p.1 n) (by simp [hl]),Jb,look]
theorem jtM (s:ku) (n:List UInt8) (t:T) (x:List UInt8):look (jpL s n t) x=if n=x/\t.name≠x then some t else look s x:=by
 unfold jpL;by_cases h:t.name=n
 ·rw [jq h];by_cases h2:n=x
  ·rw [jp (λh3=>h3.2 (h.trans h2))]
  ·rw [jp (λh3=>h2 h3.1)]
 ·rw [jp h,jvo];by_cases h2:n=x
  ·rw [jq h2,jq ⟨h2,λe=>h (e.trans h2.symm)⟩]
  ·rw [jp h2,jp (λh3=>h2 h3.1)]
theorem jtp (x:List UInt8):∀(m s:ku),(m.map Prod.fst).Nodup->look (m.foldl (λs p=>jpL s p.1 p.2) s) x=(match look m x with|some t=>if t.name=x then look s x else some t|none=>look s x)
 | [],s,_=>rfl
 | p::m,s,hn=>by
  rw [zd,JL] at hn;rw [jrl,jtp x m _ hn.2,look];by_cases h:p.1=x
  ·have:look m x=none:=jtL.2 λq hq e=>hn.1 (by rw [h,<-e];exact List.mem_map_of_mem hq)
   rw [this,jq h];show look (jpL s p.1 p.2) x=if p.2.name=x then look s x else some p.2;rw [jtM];by_cases h2:p.2.name=x
   ·rw [jq h2,jp (λh3=>h3.2 h2)]
   ·rw [jp h2,jq ⟨h,h2⟩]
  ·rw [jp h];have e:look (jpL s p.1 p.2) x=look s x:=by rw [jtM,jp (λh3=>h h3.1)]
   rw [e]
theorem juQ {m:ku} (hm:MOk (λt=>KW t=true) m) {x:List UInt8} (hx:kS x=true):jsW (jmS m) x=jsW m x:=by
 unfold jsW jmS;rw [jtp x m [] hm.1];cases h:look m x with
 | none=>rfl
 | some t=>
  show Option.getD (if t.name=x then look [] x else some t) _=t;by_cases h2:t.name=x
  ·rw [jq h2];have hk:=(hm.2 _ (jhf h)).2;have ha:=jjs hk (by rw [h2];exact hx);show T.mk x []=t;rw [<-h2,<-ha,T.eta]
  ·rw [jp h2];rfl
theorem jvx {u v:ku} (h:∀x,kS x=true->jsW u x=jsW v x):∀t:T,sub u t=sub v t:=by
 refine T.ind λt ih=> ?_;cases hv:kS t.name with
 | true=>rw [jqo hv,jqo hv,h _ hv]
 | false=>rw [jm5 hv,jm5 hv,jis ih]
theorem jvz {m:ku} (hm:MOk (λt=>KW t=true) m) (t:T):sub (jmS m) t=sub m t:=jvx (λ_ hx=>juQ hm hx) t
theorem jxj (n:List UInt8) (h:kS n=true):KW (.mk n [])=true:=by rw [YB];show (if kS n then _ else _)=true;rw [jq h];rfl
theorem jwi {u:ku} (hu:∀q∈u,KW q.2=true):∀t:T,KW t=true->KW (sub u t)=true:=by
 refine T.ind λt ih hk=> ?_;cases hv:kS t.name with
 | true=>
  rw [jqo hv,jsW];cases h:look u t.name with
  | none=>exact jxj _ hv
  | some r=>exact hu _ (jhf h)
 | false=>
  have hk':=hk;rw [YB,hv,jp jcV,js,js,jcf] at hk;rw [YB,jwh hv,hv,jp jcV,juz hv,js,js,jcf];refine ⟨hk.1,by simpa using hk.2.1,?_⟩;rw [List.all_map,qg];intro a ha;exact ih a ha (qg.1 hk.2.2 a ha)
def jcZ (r:T):T:=r.args.getD 0 (.mk [] [])
def jsi (r:T):T:=r.args.getD 1 (.mk [] [])
noncomputable def jbe:List T->T->Option T
 | [],_=>none
 | r::rs,t=>(match mt [] (jcZ r) t with|some m=>some (sub m (jsi r))|none=>jbe rs t)
mutual
noncomputable def jda (rs:List T) (root:Bool):T->Option T
 | .mk n us=>(match jdJ rs us with|some us'=>some (.mk n us')|none=>if root then jbe rs (.mk n us) else none)
noncomputable def jdJ (rs:List T):List T->Option (List T)
 | []=>none
 | t::ts=>(match jda rs true t with|some t'=>some (t'::ts)|none=>(jdJ rs ts).map (t::·))
end
theorem jkW (rs:List T) (root:Bool) (t:T):jda rs root t=(match jdJ rs t.args with|some us=>some (.mk t.name us)|none=>if root then jbe rs t else none):=by cases t;rfl
def atT:List Nat->T->T
 | [],t=>t
 | i::p,t=>atT p (t.args.getD i (.mk [] []))
def jhd (s:T):List Nat->T->T
 | [],_=>s
 | i::p,t=> .mk t.name (t.args.set i (jhd s p (t.args.getD i (.mk [] []))))
mutual
def jjb:T->List (List Nat)
 | .mk _ us=>jhC 0 us++[[]]
def jhC (i:Nat):List T->List (List Nat)
 | []=>[]
 | t::ts=>(jjb t).map (i::·)++jhC (i+1) ts
end
theorem juo (t:T):jjb t=jhC 0 t.args++[[]]:=by cases t;rfl
theorem jrA {α β γ:Type} (f:β->Option γ) (g:α->β):∀l:List α,(l.map g).findSome? f=l.findSome? (λa=>f (g a))
 | []=>rfl
 | a::l=>by rw [zd,jsL,jsL,jrA f g l]
theorem jpc {α β:Type} {f g:α->Option β} :∀ {l:List α},(∀a∈l,f a=g a)->l.findSome? f=l.findSome? g
 | [],_=>rfl
 | a::l,h=>by rw [jsL,jsL,h a (by simp),jpc λb hb=>h b (by simp [hb])]
theorem jqQ {α β γ:Type} (f:α->Option β) (g:β->γ):∀l:List α,l.findSome? (λa=>(f a).map g)=(l.findSome? f).map g
 | []=>rfl
 | a::l=>by
  rw [jsL,jsL];cases h:f a with
  | none=>exact jqQ f g l
  | some b=>rfl
noncomputable def jfF (rs:List T) (root:Bool) (t:T) (p:List Nat):Option T:=if p = []/\root=false then none else (jbe rs (atT p t)).map λs=>jhd s p t
theorem jvq (rs:List T):∀(t:T) (root:Bool),(jjb t).findSome? (jfF rs root t)=jda rs root t:=by
 refine T.ind λt ih root=> ?_;have hL:∀(us:List T) (i:Nat),(∀u∈us,u∈t.args)->t.args.drop i=us->(jhC i us).findSome? (jfF rs root t)=(jdJ rs us).map λus'=> .mk t.name (t.args.take i++us'):=by
  intro us;induction us with
  | nil=>intro i _ _;rfl
  | cons u us ih2=>
   intro i hu hd;have hi:i < t.args.length:=by
    rcases jcT i t.args.length with h|h
    ·exact h
    ·rw [jei h] at hd;cases hd
   have hui:t.args.getD i (.mk [] [])=u:=by
    rw [jU];have:=congrArg (λl=>l[0]?) hd;simp only [ZN,zJ,Ze] at this;rw [this];rfl
   have hd2:t.args.drop (i+1)=us:=by
    have:=congrArg (λl=>l.drop 1) hd;simpa [jjO,Nat.add_comm] using this
   rw [jhC,List.findSome?_append,jrA,jdJ];have e1:(jjb u).findSome? (λp=>jfF rs root t (i::p))=(jda rs true u).map λu'=> .mk t.name (t.args.set i u'):=by
    rw [<-ih u (hu u (by simp)) true,<-jqQ];refine jpc λp _=> ?_;unfold jfF;rw [jp (by simp),jp (by simp),atT,hui];cases jbe rs (atT p u) with
    | none=>rfl
    | some s=>show some (jhd s (i::p) t)=some (T.mk t.name (t.args.set i (jhd s p u)));rw [jhd,hui]
   rw [e1];cases ho:jda rs true u with
   | some u'=>
    show some (T.mk t.name (t.args.set i u'))=some (T.mk t.name (t.args.take i++u'::us));rw [List.set_eq_take_append_cons_drop,jq hi,hd2]
   | none=>
    show (jhC (i+1) us).findSome? (jfF rs root t)=_;rw [ih2 (i+1) (λx hx=>hu x (by simp [hx])) hd2];cases jdJ rs us with
    | none=>rfl
    | some us'=>
     show some (T.mk t.name (t.args.take (i+1)++us'))=some (T.mk t.name (t.args.take i++u::us'));have:t.args.take (i+1)=t.args.take i++[u]:=by
      rw [jsM];congr 1;have h0:t.args[i]? = some u:=by
       have:=congrArg (λl=>l[0]?) hd;simpa using this
      rw [h0];rfl
     rw [this,zj];rfl
 rw [juo,List.findSome?_append,hL t.args 0 (λ_ h=>h) rfl,jkW];cases jdJ rs t.args with
 | some us=>rfl
 | none=>
  show ([[]]:List (List Nat)).findSome? (jfF rs root t)=(if root=true then jbe rs t else none);rw [jsL];unfold jfF;cases root with
  | false=>rfl
  | true=>
   rw [jp (by simp),jq rfl];rw [atT];cases jbe rs t<;>rfl
def jt0 (rs:List T):Prop:=∀r∈rs,KW (jcZ r)=true/\KW (jsi r)=true
theorem jux {t:T} (ht:KW t=true):∀ {rs:List T} {u:T},jt0 rs->jbe rs t=some u->KW u=true
 | r::rs,u,hr,h=>by
  rw [jbe] at h;split at h
  ·rename_i m hm;cases h;have hM:=jl6 (p:=λt=>KW t=true) (λt ht u hu=>by
    cases hv:kS t.name with
    | true=>rw [jjs ht hv] at hu;cases hu
    | false=>
     rw [YB,hv,jp jcV,js,js,jcf] at ht;exact qg.1 ht.2.2 u hu) _ (MOk.nil _) ht hm
   exact jwi (λq hq=>(hM.2 q hq).2) _ (hr r (by simp)).2
  ·exact jux ht (λq hq=>hr q (by simp [hq])) h
theorem jro {rs:List T} :∀ {us us':List T},jdJ rs us=some us'->us'.length=us.length/\ ∀p:T->Prop,(∀u∈us,p u)->(∀u∈us,∀u',jda rs true u=some u'->p u')-> ∀u∈us',p u
 | t::ts,us',h=>by
  rw [jdJ] at h;split at h
  ·rename_i t' ht;cases h;refine ⟨by simp,λp h1 h2 u hu=> ?_⟩;rcases jH.1 hu with rfl|hu
   ·exact h2 t (by simp) _ ht
   ·exact h1 u (by simp [hu])
  ·rw [kC] at h;obtain ⟨r,h3,rfl⟩:=h;obtain ⟨g1,g2⟩:=jro h3;refine ⟨by simp [g1],λp h1 h2 u hu=> ?_⟩;rcases jH.1 hu with rfl|hu
   ·exact h1 _ (by simp)
   ·exact g2 p (λu hu=>h1 u (by simp [hu])) (λu hu=>h2 u (by simp [hu])) u hu
theorem ju5 {rs:List T} (hr:jt0 rs):∀(t:T) {u:T},KW t=true->jda rs true t=some u->KW u=true:=by
 refine T.ind (p:=λt=>∀ {u:T},KW t=true->jda rs true t=some u->KW u=true) λt ih=> ?_;intro u ht h;rw [jkW] at h;split at h
 ·rename_i us ho;cases h;obtain ⟨g1,g2⟩:=jro ho;cases hv:kS t.name with
  | true=>
   rw [jjs ht hv] at ho;cases ho
  | false=>
   have ha:=yV ht;rw [YB,hv,jp jcV,js,js] at ht;rw [YB];show (if kS t.name then _ else Kz t.name && (decide (us.length<=4) && jgx us))=true;rw [hv,jp jcV,js,js,g1,jcf,qg];exact ⟨ht.1,ht.2.1,g2 _ ha λu hu u' hu'=>ih u hu (ha u hu) hu'⟩
 ·exact jux ht hr h
noncomputable def rwN (rs:List T) (root:Bool):Nat->Nat->T->Option (T × Nat)
 | 0,_,_=>none
 | k+1,n,t=>(match jda rs root t with
  | none=>some (t,n)
  | some u=>if k=0\/JH u=false then none else rwN rs root k (n+1) u)
theorem jkv:pNo (vb false)=some ():=rfl
theorem jwY:slL [259] [[]] = [.sl 259 []]:=rfl
theorem jv2 {n:Nat} (h:n<=4194304):Ji n 56=true:=by
 unfold Ji;exact ZO ⟨by omega,by omega⟩
theorem jtq {p:T->Prop} (hp:∀t,p t-> ∀u∈t.args,p u):∀(a:T) {m m':ku} {t:T},(∀q∈m,p q.2)->p t->mt m a t=some m'->(∀q∈m',p q.2)/\m'.length<=m.length+nodes a:=by
 refine T.ind (p:=λa=>∀ {m m':ku} {t:T},(∀q∈m,p q.2)->p t->mt m a t=some m'->(∀q∈m',p q.2)/\m'.length<=m.length+nodes a) λa ih=> ?_;intro m m' t hm ht h;have hn:=jS a;cases hv:kS a.name with
 | true=>
  rw [jsR hv] at h;split at h
  ·split at h
   ·cases h;exact ⟨hm,by omega⟩
   ·cases h
  ·cases h;refine ⟨λq hq=> ?_,by rw [jaQ,jsz];omega⟩;rcases kH.1 hq with hq|hq
   ·exact hm q hq
   ·simp only [jR] at hq;subst hq;exact ht
 | false=>
  rw [jpf hv] at h;split at h
  ·have key:∀(us:List T) (ts:List T) {m m':ku},(∀u∈us,u∈a.args)->(∀u∈ts,p u)->(∀q∈m,p q.2)->mtL m us ts=some m'->(∀q∈m',p q.2)/\m'.length<=m.length+jE us:=by
    intro us;induction us with
    | nil=>intro ts m m' _ _ hm h;simp only [mtL,jW] at h;exact h ▸ ⟨hm,by omega⟩
    | cons u us ih2=>
     intro ts m m' hu hts hm h;have e:jE (u::us)=nodes u+jE us:=rfl;cases ts with
     | nil=>simp only [mtL,jW] at h;exact h ▸ ⟨hm,by omega⟩
     | cons s ts=>
      simp only [mtL] at h;obtain ⟨m1,h1,h2⟩:=kh.1 h;obtain ⟨i1,i2⟩:=ih u (hu u (by simp)) hm (hts s (by simp)) h1;obtain ⟨j1,j2⟩:=ih2 ts (λx hx=>hu x (by simp [hx])) (λx hx=>hts x (by simp [hx])) i1 h2;exact ⟨j1,by omega⟩
   obtain ⟨i1,i2⟩:=key a.args t.args (λ_ h=>h) (hp t ht) hm h;exact ⟨i1,by omega⟩
  ·cases h
def MR (o:Option Out) (r:Option ku):Prop:=match r with
 | some m'=>o=some (.top,[vb true,.sl 259 (m'.map bc)])
 | none=>∃R,o=some (.top,[vb false,.sl 259 R])
theorem jtu {m:ku} {i:Nat} (hi:i < m.length):jmr (m.map bc) i 0=some (sv m[i].1):=by unfold jmr;simp [hi]
theorem jum {m:ku} {i:Nat} (hi:i < m.length):jmq (m.map bc) i 1 2=some (tm m[i].2):=by unfold jmq;simp [hi]
def Tz (t:T):Prop:=tsz t<=1048576
theorem Tz.args {t:T} (h:Tz t):∀u∈t.args,Tz u:=λu hu=>by
 have:=zW hu;unfold Tz at h ⊢;rw [zH] at h;omega
theorem Tz.wf {t:T} (h:Tz t):qB t:=jxp t h
theorem jvm (n:List UInt8) (x:A) (t:T) (ht:Tz t) (m:ku) (hm:∀q∈m,Tz q.2) (hl:m.length<=4000000) (hx:zL x=true):MR (jna (vi 0) (sv n) x (sv t.name) (zl t.args) (m.map bc)) (match look m n with|some r=>if dq r t then some m else none|none=>some (m++[(n,t)])):=by
 have key:=upto (P:=λi=>MR (jna (vi i) (sv n) x (sv t.name) (zl t.args) (m.map bc)) (match look (m.drop i) n with|some r=>if dq r t then some m else none|none=>some (m++[(n,t)]))) (n:=m.length) ?_ ?_ 0 (zZ _)
 ·exact key
 ·rw [zw,jug];have hf:=jv2 (n:=m.length+1) (by omega);show _=_;simp only [jr,hx,hf];rw [jaP];rfl
 ·intro i hi ih;have hlt:(i:Int) < ((m.length:Nat):Int):=by omega
  have h5:=jB hi (by show m.length<=9223372036854775807;omega)
  have x1:pIx m.length (vi ((i:Nat):Int))=some i:=YE hi;have x2:=jtu hi;have x3:=jum hi;have e1:=jj9 m[i].2 (hm _ (zf hi)).wf t ht.wf;rw [jug,jA hi,look];by_cases he:m[i].1=n
  ·rw [jq he];show MR _ (if dq m[i].2 t=true then some m else none);cases hd:dq m[i].2 t<;>rw [hd] at e1
   ·rw [jp jcV];refine ⟨m.map bc,?_⟩;simp only [jr,hlt,x1,x2,x3,he,e1]
   ·rw [jq rfl];show _=_;simp only [jr,hlt,x1,x2,x3,he,e1]
  ·rw [jp he];simp only [jr,hlt,x1,x2,x3,he,h5];exact ih
theorem juN (a t:T) (ht:Tz t) (ha:Tz a) (hl:a.args.length=t.args.length) (m:ku) (hm:∀q∈m,Tz q.2) (hk:m.length+jE a.args<=4000000)
  (ih:∀u∈a.args,∀(s:T) (m:ku),Tz s->(∀q∈m,Tz q.2)->m.length+nodes u<=4000000->MR (jm8 (tm u) (tm s) (m.map bc)) (mt m u s)) :
  MR (jru (vi 0) (sv a.name) (zl a.args) (sv t.name) (zl t.args) (m.map bc)) (mtL m a.args t.args):=by
 have ha':=ha;unfold Tz at ha;rw [zH] at ha;have nd:∀i,i < a.args.length->jE (a.args.drop i)=jE a.args->True:=λ_ _ _=>trivial;have key2:=upto (P:=λi=>∀m:ku,(∀q∈m,Tz q.2)->m.length+jE (a.args.drop i)<=4000000->MR (jrv (vi i) (sv a.name) (zl a.args) (sv t.name) (zl t.args) (m.map bc)) (mtL m (a.args.drop i) (t.args.drop i))) (n:=a.args.length) ?_ ?_;rotate_left
 ·intro m hm hk;rw [zw,jtl];simp only [mtL];show _=_;simp only [jr]
 ·intro i hi ih2 m hm hk;have hi':i < t.args.length:=by omega
  have hlt:(i:Int) < ((a.args.length:Nat):Int):=by omega
  have h5:=jB hi (by show a.args.length<=9223372036854775807;omega)
  have e:jE (a.args.drop i)=nodes a.args[i]+jE (a.args.drop (i+1)):=by rw [jA hi];rfl
  have q:=ih a.args[i] (zf _) t.args[i] m (ht.args _ (zf _)) hm (by omega);rw [jA hi,jA hi',jtl];simp only [mtL];cases hq:mt m a.args[i] t.args[i] with
  | none=>
   rw [hq] at q;obtain ⟨R,q⟩:=q;refine ⟨[],?_⟩;simp only [jr,hlt,jb hi,jb hi',jg,q,Ze,jkv,jwY]
  | some m1=>
   rw [hq] at q;have q:jm8 (tm a.args[i]) (tm t.args[i]) (m.map bc)=some (.top,[vb true,.sl 259 (m1.map bc)]):=q;obtain ⟨i1,i2⟩:=jtq (p:=Tz) (λ_ h=>h.args) _ hm (ht.args _ (zf hi')) hq;simp only [jr,hlt,jb hi,jb hi',jg,q,Ze,h5];exact ih2 m1 i1 (by omega)
 have e1:∀(m:ku) (i:Nat),jru (vi i) (sv a.name) (zl a.args) (sv t.name) (zl t.args) (m.map bc)=jrv (vi i) (sv a.name) (zl a.args) (sv t.name) (zl t.args) (m.map bc):=λm i=>by
  rw [jvQ,jtl]
 have:=key2 0 (zZ _) m hm hk;rw [<-e1] at this;exact this
theorem jvl (n:List UInt8) (x:A) (t:T) (ht:Tz t) (m:ku) (hm:∀q∈m,Tz q.2) (hl:m.length<=4000000) (hx:zL x=true):MR (jm9 (vi 0) (sv n) x (sv t.name) (zl t.args) (m.map bc)) (match look m n with|some r=>if dq r t then some m else none|none=>some (m++[(n,t)])):=by
 have key:=upto (P:=λi=>MR (jm9 (vi i) (sv n) x (sv t.name) (zl t.args) (m.map bc)) (match look (m.drop i) n with|some r=>if dq r t then some m else none|none=>some (m++[(n,t)]))) (n:=m.length) ?_ ?_ 0 (zZ _)
 ·exact key
 ·rw [zw,juf];have hf:=jv2 (n:=m.length+1) (by omega);show _=_;simp only [jr,hx,hf];rw [jaP];rfl
 ·intro i hi ih;have hlt:(i:Int) < ((m.length:Nat):Int):=by omega
  have h5:=jB hi (by show m.length<=9223372036854775807;omega)
  have x1:pIx m.length (vi ((i:Nat):Int))=some i:=YE hi;have x2:=jtu hi;have x3:=jum hi;have e1:=jj9 m[i].2 (hm _ (zf hi)).wf t ht.wf;rw [juf,jA hi,look];by_cases he:m[i].1=n
  ·rw [jq he];show MR _ (if dq m[i].2 t=true then some m else none);cases hd:dq m[i].2 t<;>rw [hd] at e1
   ·rw [jp jcV];refine ⟨m.map bc,?_⟩;simp only [jr,hlt,x1,x2,x3,he,e1]
   ·rw [jq rfl];show _=_;simp only [jr,hlt,x1,x2,x3,he,e1]
  ·rw [jp he];simp only [jr,hlt,x1,x2,x3,he,h5];exact ih
theorem juM (a t:T) (ht:Tz t) (ha:Tz a) (hl:a.args.length=t.args.length) (m:ku) (hm:∀q∈m,Tz q.2) (hk:m.length+jE a.args<=4000000)
  (ih:∀u∈a.args,∀(s:T) (m:ku),Tz s->(∀q∈m,Tz q.2)->m.length+nodes u<=4000000->MR (jm8 (tm u) (tm s) (m.map bc)) (mt m u s)) :
  MR (jrs (vi 0) (sv a.name) (zl a.args) (sv t.name) (zl t.args) (m.map bc)) (mtL m a.args t.args):=by
 have ha':=ha;unfold Tz at ha;rw [zH] at ha;have nd:∀i,i < a.args.length->jE (a.args.drop i)=jE a.args->True:=λ_ _ _=>trivial;have key2:=upto (P:=λi=>∀m:ku,(∀q∈m,Tz q.2)->m.length+jE (a.args.drop i)<=4000000->MR (jrt (vi i) (sv a.name) (zl a.args) (sv t.name) (zl t.args) (m.map bc)) (mtL m (a.args.drop i) (t.args.drop i))) (n:=a.args.length) ?_ ?_;rotate_left
 ·intro m hm hk;rw [zw,jtk];simp only [mtL];show _=_;simp only [jr]
 ·intro i hi ih2 m hm hk;have hi':i < t.args.length:=by omega
  have hlt:(i:Int) < ((a.args.length:Nat):Int):=by omega
  have h5:=jB hi (by show a.args.length<=9223372036854775807;omega)
  have e:jE (a.args.drop i)=nodes a.args[i]+jE (a.args.drop (i+1)):=by rw [jA hi];rfl
  have q:=ih a.args[i] (zf _) t.args[i] m (ht.args _ (zf _)) hm (by omega);rw [jA hi,jA hi',jtk];simp only [mtL];cases hq:mt m a.args[i] t.args[i] with
  | none=>
   rw [hq] at q;obtain ⟨R,q⟩:=q;refine ⟨[],?_⟩;simp only [jr,hlt,jb hi,jb hi',jg,q,Ze,jkv,jwY]
  | some m1=>
   rw [hq] at q;have q:jm8 (tm a.args[i]) (tm t.args[i]) (m.map bc)=some (.top,[vb true,.sl 259 (m1.map bc)]):=q;obtain ⟨i1,i2⟩:=jtq (p:=Tz) (λ_ h=>h.args) _ hm (ht.args _ (zf hi')) hq;simp only [jr,hlt,jb hi,jb hi',jg,q,Ze,h5];exact ih2 m1 i1 (by omega)
 have e1:∀(m:ku) (i:Nat),jrs (vi i) (sv a.name) (zl a.args) (sv t.name) (zl t.args) (m.map bc)=jrt (vi i) (sv a.name) (zl a.args) (sv t.name) (zl t.args) (m.map bc):=λm i=>by
  rw [jvP,jtk]
 have:=key2 0 (zZ _) m hm hk;rw [<-e1] at this;exact this
theorem juL:∀(a:T),Tz a-> ∀(t:T) (m:ku),Tz t->(∀q∈m,Tz q.2)->m.length+nodes a<=4000000->MR (jm8 (tm a) (tm t) (m.map bc)) (mt m a t):=by
 refine T.ind λa ih ha t m ht hm hk=> ?_;have hn:=jS a;have e1:=Kt a.name (((j5 a).1 ha.wf).1);have hal:a.args.length<=1048576:=by unfold Tz at ha;rw [zH] at ha;omega
 rw [jw4];cases hv:kS a.name<;>rw [hv] at e1
 ·rw [jpf hv];by_cases he:a.name=t.name/\a.args.length=t.args.length
  ·rw [jq he];have hl:((a.args.length:Nat):Int)=((t.args.length:Nat):Int):=by omega
   have:=juN a t ht ha he.2 m hm (by omega) λu hu s m hs hm hk=>ih u hu (ha.args u hu) s m hs hm hk;rw [he.1] at e1 this;simp only [jr,he.1,e1,hl];exact this
  ·rw [jp he];refine ⟨m.map bc,?_⟩;by_cases h1:a.name=t.name
   ·have hl:¬((a.args.length:Nat):Int)=((t.args.length:Nat):Int):=λh=>he ⟨h1,by omega⟩;rw [h1] at e1;simp only [jr,e1,h1,hl]
   ·simp only [jr,e1,h1]
 ·rw [jsR hv];have:=jvm a.name (zl a.args) t ht m hm (by omega) (jpP _ _);simp only [jr,e1];exact this
theorem juk (a:T) (ha:Tz a) (t:T) (m:ku) (ht:Tz t) (hm:∀q∈m,Tz q.2) (hk:m.length+nodes a<=4000000):MR (js2 (tm a) (sv t.name) (zl t.args) (m.map bc)) (mt m a t):=by
 have hn:=jS a;have e1:=Kt a.name (((j5 a).1 ha.wf).1);rw [jw3];cases hv:kS a.name<;>rw [hv] at e1
 ·rw [jpf hv];by_cases he:a.name=t.name/\a.args.length=t.args.length
  ·rw [jq he];have hl:((a.args.length:Nat):Int)=((t.args.length:Nat):Int):=by omega
   have:=juM a t ht ha he.2 m hm (by omega) λu hu s m hs hm hk=>juL u (ha.args u hu) s m hs hm hk;rw [he.1] at e1 this;simp only [jr,he.1,e1,hl];exact this
  ·rw [jp he];refine ⟨m.map bc,?_⟩;by_cases h1:a.name=t.name
   ·have hl:¬((a.args.length:Nat):Int)=((t.args.length:Nat):Int):=λh=>he ⟨h1,by omega⟩;rw [h1] at e1;simp only [jr,e1,h1,hl]
   ·simp only [jr,e1,h1]
 ·rw [jsR hv];have:=jvl a.name (zl a.args) t ht m hm (by omega) (jpP _ _);simp only [jr,e1];exact this
abbrev kv (p:List UInt8 × T):List A:=[sv p.1,tm p.2]
theorem jxc (a b:List UInt8):eqK none (sv a) (sv b)=some (decide (a=b)):=by show some (decide (bs _=bs _))=_;refine congrArg some (jsC.2 ?_);simp
theorem jkh (n:List UInt8):∀(m:ku) (k:Nat),Yi none (sv n) (m.map kv) k=some (match look m n with|some _=>(match m.findIdx? (λp=>decide (p.1=n)) with|some j=>some (k+j,tm ((look m n).getD (.mk [] [])))|none=>none)|none=>none)
 | [],k=>rfl
 | p::m,k=>by
  rw [zd,look,Yi,jxc];by_cases h:p.1=n
  ·rw [jq h,ZO h.symm,jsu,jq (ZO h)];rfl
  ·rw [jp h,jee (λe=>h e.symm),jsu,jp (by simp [h])];show Yi none (sv n) (m.map kv) (k+1)=_;rw [jkh n m (k+1)];cases look m n with
   | none=>rfl
   | some r=>
    cases m.findIdx? (λp=>decide (p.1=n)) with
    | none=>rfl
    | some j=>show some (some (k+1+j,_))=some (some (k+(j+1),_));rw [show k+1+j=k+(j+1) by omega]
theorem jto {n:List UInt8} :∀ {m:ku} {r:T},look m n=some r-> ∃j,m.findIdx? (λp=>decide (p.1=n))=some j/\m.set j (n,r)=m
 | p::m,r,h=>by
  rw [look] at h;rw [jsu];by_cases e:p.1=n
  ·rw [jq e] at h;rw [jq (ZO e)];cases h;exact ⟨0,rfl,by rw [<-e];rfl⟩
  ·rw [jp e] at h;rw [jp (by simp [e])];obtain ⟨j,h1,h2⟩:=jto h;exact ⟨j+1,by rw [h1];rfl,by rw [jhb,h2]⟩
theorem jtt (z:List A) (m:ku) (n:List UInt8):jju none true false z (.mp (m.map kv)) (sv n)=some (match look m n with|some r=> .tup [tm r,vb true]|none=> .tup [.agg z,vb false]):=by
 show ((some (m.map kv)).bind λxs=>(Yi none (sv n) xs 0).map (jo5 true false z))=_;rw [QD,jkh];cases h:look m n with
 | none=>rfl
 | some r=>
  obtain ⟨j,h1,_⟩:=jto h;show (some (match m.findIdx? _ with|some j=>some (0+j,tm r)|none=>none)).map _=_;rw [h1];rfl
theorem jtO {m:ku} {n:List UInt8} (h:look m n=none) (t:T):jpW none (m.map kv) (sv n) (tm t)=some ((m++[(n,t)]).map kv):=by
 show (Yi none (sv n) (m.map kv) 0).map _=_;rw [jkh,h,jaP];rfl
theorem jtP {m:ku} {n:List UInt8} {r:T} (h:look m n=some r) (a:A):∃R,jpW none (m.map kv) (sv n) a=some R/\(a=tm r->R=m.map kv):=by
 obtain ⟨j,h1,h2⟩:=jto h;refine ⟨(m.map kv).set j [sv n,a],?_,λe=> ?_⟩
 ·show (Yi none (sv n) (m.map kv) 0).map _=_;rw [jkh,h];show (some (match m.findIdx? _ with|some j=>some (0+j,tm r)|none=>none)).map _=_;rw [h1];show some ((m.map kv).set (0+j) [sv n,a])=_;rw [J3]
 ·rw [e];have:([sv n,tm r]:List A)=kv (n,r):=rfl;rw [this,<-jsx,h2]
def MI (o:Option Out) (r:Option ku):Prop:=match r with
 | some m'=>o=some (.top,[vb true,.sl 128 (m'.map kv)])
 | none=>∃R,o=some (.top,[vb false,.sl 128 R])
theorem jvg (a t:T) (ht:Tz t) (ha:Tz a) (hl:a.args.length=t.args.length) (m:ku) (hm:∀q∈m,Tz q.2)
  (ih:∀u∈a.args,∀(s:T) (m:ku),Tz s->(∀q∈m,Tz q.2)->MI (jeb (sv u.name) (zl u.args) (tm s) (m.map kv)) (mt m u s)) :
  MI (jox (zl a.args) (vi (a.args.length:Nat)) (vi 0) (sv t.name) (zl t.args) (m.map kv)) (mtL m a.args t.args):=by
 have ha':=ha;unfold Tz at ha;rw [zH] at ha;have key2:=upto (P:=λi=>∀m:ku,(∀q∈m,Tz q.2)->MI (jox (zl a.args) (vi (a.args.length:Nat)) (vi i) (sv t.name) (zl t.args) (m.map kv)) (mtL m (a.args.drop i) (t.args.drop i))) (n:=a.args.length) ?_ ?_;rotate_left
 ·intro m hm;rw [zw,jui];simp only [mtL];show _=_;simp only [jr]
 ·intro i hi ih2 m hm;have hi':i < t.args.length:=by omega
  have hlt:(i:Int) < ((a.args.length:Nat):Int):=by omega
  have h5:=jB hi (by show a.args.length<=9223372036854775807;omega)
  have q:=ih a.args[i] (zf _) t.args[i] m (ht.args _ (zf _)) hm;rw [jA hi,jA hi',jui];simp only [mtL];cases hq:mt m a.args[i] t.args[i] with
  | none=>
   rw [hq] at q;obtain ⟨R,q⟩:=q;refine ⟨R,?_⟩;simp only [jr,hlt,jb hi,jb hi',jg,q,Ze]
  | some m1=>
   rw [hq] at q;have q:jeb (sv a.args[i].name) (zl a.args[i].args) (tm t.args[i]) (m.map kv)=some (.top,[vb true,.sl 128 (m1.map kv)]):=q;obtain ⟨i1,i2⟩:=jtq (p:=Tz) (λ_ h=>h.args) _ hm (ht.args _ (zf hi')) hq;simp only [jr,hlt,jb hi,jb hi',jg,q,Ze,h5];exact ih2 m1 i1
 exact key2 0 (zZ _) m hm
theorem jvf (a t:T) (ht:Tz t) (ha:Tz a) (hl:a.args.length=t.args.length) (m:ku) (hm:∀q∈m,Tz q.2)
  (ih:∀u∈a.args,∀(s:T) (m:ku),Tz s->(∀q∈m,Tz q.2)->MI (jeb (sv u.name) (zl u.args) (tm s) (m.map kv)) (mt m u s)) :
  MI (jnG (zl a.args) (vi (a.args.length:Nat)) (vi 0) (sv t.name) (zl t.args) (m.map kv)) (mtL m a.args t.args):=by
 have ha':=ha;unfold Tz at ha;rw [zH] at ha;have key2:=upto (P:=λi=>∀m:ku,(∀q∈m,Tz q.2)->MI (jnG (zl a.args) (vi (a.args.length:Nat)) (vi i) (sv t.name) (zl t.args) (m.map kv)) (mtL m (a.args.drop i) (t.args.drop i))) (n:=a.args.length) ?_ ?_;rotate_left
 ·intro m hm;rw [zw,juh];simp only [mtL];show _=_;simp only [jr]
 ·intro i hi ih2 m hm;have hi':i < t.args.length:=by omega
  have hlt:(i:Int) < ((a.args.length:Nat):Int):=by omega
  have h5:=jB hi (by show a.args.length<=9223372036854775807;omega)
  have q:=ih a.args[i] (zf _) t.args[i] m (ht.args _ (zf _)) hm;rw [jA hi,jA hi',juh];simp only [mtL];cases hq:mt m a.args[i] t.args[i] with
  | none=>
   rw [hq] at q;obtain ⟨R,q⟩:=q;refine ⟨R,?_⟩;simp only [jr,hlt,jb hi,jb hi',jg,q,Ze]
  | some m1=>
   rw [hq] at q;have q:jeb (sv a.args[i].name) (zl a.args[i].args) (tm t.args[i]) (m.map kv)=some (.top,[vb true,.sl 128 (m1.map kv)]):=q;obtain ⟨i1,i2⟩:=jtq (p:=Tz) (λ_ h=>h.args) _ hm (ht.args _ (zf hi')) hq;simp only [jr,hlt,jb hi,jb hi',jg,q,Ze,h5];exact ih2 m1 i1
 exact key2 0 (zZ _) m hm
theorem jvM (a:T) (ha:Tz a) (hk:KW a=true) (t:T) (m:ku) (ht:Tz t) (hm:∀q∈m,Tz q.2)
  (ih:∀u∈a.args,∀(s:T) (m:ku),Tz s->(∀q∈m,Tz q.2)->MI (jeb (sv u.name) (zl u.args) (tm s) (m.map kv)) (mt m u s)) :
  MI (jeb (sv a.name) (zl a.args) (tm t) (m.map kv)) (mt m a t):=by
 have e1:G 89 [.agg [sv a.name,zl a.args]]=some (vb (kS a.name),[]):=Zq a hk;have hal:a.args.length<=1048576:=by unfold Tz at ha;rw [zH] at ha;omega
 rw [jw6];cases hv:kS a.name<;>rw [hv] at e1
 ·rw [jpf hv];have pk:(if ((a.args.length:Nat):Int)=0 then G 89 [.agg [sv a.name,zl a.args]] else some (vb false,[]))=some (vb false,[]):=by split<;>first|exact e1|rfl
  by_cases he:a.name=t.name/\a.args.length=t.args.length
  ·rw [jq he];have hl:((a.args.length:Nat):Int)=((t.args.length:Nat):Int):=by omega
   have:=jvg a t ht ha he.2 m hm ih;by_cases h0:((a.args.length:Nat):Int)=0
   ·have h0':((t.args.length:Nat):Int)=0:=by omega
    rw [he.1] at e1;rw [he.2,h0'] at this;simp only [jr,he.1,h0',e1,hl];exact this
   ·have h0':¬((t.args.length:Nat):Int)=0:=by omega
    rw [he.1] at e1;rw [he.2] at this;simp only [jr,he.1,h0',hl];exact this
  ·rw [jp he];refine ⟨m.map kv,?_⟩;by_cases h1:a.name=t.name
   ·have hl:¬((a.args.length:Nat):Int)=((t.args.length:Nat):Int):=λh=>he ⟨h1,by omega⟩;rw [h1] at e1;by_cases h0:((a.args.length:Nat):Int)=0
    ·have hl0:¬(0:Int)=((t.args.length:Nat):Int):=by omega
     simp only [jr,e1,h1,h0,hl0]
    ·simp only [jr,h1,h0,hl]
   ·by_cases h0:((a.args.length:Nat):Int)=0
    ·simp only [jr,e1,h1,h0]
    ·simp only [jr,h1,h0]
 ·rw [jsR hv];have h0:a.args = []:=jjs hk hv;rw [h0] at e1;have hz:(((0:Nat):Int)=0)=True:=by simp
  have lk:=jtt [sv [],.sl 2 []] m a.name;cases hl:look m a.name with
  | none=>
   rw [hl] at lk;have lk:jju none true false [sv [],.sl 2 []] (.mp (m.map kv)) (sv a.name)=some (.tup [.agg [sv [],.sl 2 []],vb false]):=lk;have pp:=jtO hl t;show _=_;rw [h0];simp only [jr,e1,hz,lk,pp,jfk]
  | some r=>
   rw [hl] at lk;have lk:jju none true false [sv [],.sl 2 []] (.mp (m.map kv)) (sv a.name)=some (.tup [tm r,vb true]):=lk;obtain ⟨R,pp,hR⟩:=jtP hl (tm t);have e2:=Ye r (hm _ (jhf hl)).wf t ht.wf;show MI _ (if dq r t=true then some m else none);rw [h0];cases hd:dq r t<;>rw [hd] at e2
   ·rw [jp jcV];refine ⟨R,?_⟩;simp only [jr,e1,hz,lk,pp,e2,jfk]
   ·rw [jq rfl];have hr:R=m.map kv:=hR (by rw [jc4.1 hd]);rw [hr] at pp;show _=_;simp only [jr,e1,hz,lk,pp,e2,jfk]
theorem jve (a:T) (ha:Tz a) (e1:G 89 [.agg [sv a.name,zl a.args]]=some (vb (kS a.name),[])) (hva:kS a.name=true->a.args = []) (t:T) (m:ku) (ht:Tz t) (hm:∀q∈m,Tz q.2)
  (ih:∀u∈a.args,∀(s:T) (m:ku),Tz s->(∀q∈m,Tz q.2)->MI (jeb (sv u.name) (zl u.args) (tm s) (m.map kv)) (mt m u s)) :
  MI (jq4 (tm a) (sv t.name) (zl t.args) (m.map kv)) (mt m a t):=by
 have hal:a.args.length<=1048576:=by unfold Tz at ha;rw [zH] at ha;omega
 rw [jw5];cases hv:kS a.name<;>rw [hv] at e1
 ·rw [jpf hv];have pk:(if ((a.args.length:Nat):Int)=0 then G 89 [.agg [sv a.name,zl a.args]] else some (vb false,[]))=some (vb false,[]):=by split<;>first|exact e1|rfl
  by_cases he:a.name=t.name/\a.args.length=t.args.length
  ·rw [jq he];have hl:((a.args.length:Nat):Int)=((t.args.length:Nat):Int):=by omega
   have:=jvf a t ht ha he.2 m hm ih;by_cases h0:((a.args.length:Nat):Int)=0
   ·have h0':((t.args.length:Nat):Int)=0:=by omega
    rw [he.1] at e1;rw [he.2,h0'] at this;simp only [jr,he.1,h0',e1,hl];exact this
   ·have h0':¬((t.args.length:Nat):Int)=0:=by omega
    rw [he.1] at e1;rw [he.2] at this;simp only [jr,he.1,h0',hl];exact this
  ·rw [jp he];refine ⟨m.map kv,?_⟩;by_cases h1:a.name=t.name
   ·have hl:¬((a.args.length:Nat):Int)=((t.args.length:Nat):Int):=λh=>he ⟨h1,by omega⟩;rw [h1] at e1;by_cases h0:((a.args.length:Nat):Int)=0
    ·have hl0:¬(0:Int)=((t.args.length:Nat):Int):=by omega
     simp only [jr,e1,h1,h0,hl0]
    ·simp only [jr,h1,h0,hl]
   ·by_cases h0:((a.args.length:Nat):Int)=0
    ·simp only [jr,e1,h1,h0]
    ·simp only [jr,h1,h0]
 ·rw [jsR hv];have h0:a.args = []:=hva hv;rw [h0] at e1;have hz:(((0:Nat):Int)=0)=True:=by simp
  have hta:tm a = .agg [sv a.name,zl []]:=by show A.agg [_,A.sl 2 (a.args.map jm)]=_;rw [h0]
  have lk:=jtt [sv [],.sl 2 []] m a.name;cases hl:look m a.name with
  | none=>
   rw [hl] at lk;have lk:jju none true false [sv [],.sl 2 []] (.mp (m.map kv)) (sv a.name)=some (.tup [.agg [sv [],.sl 2 []],vb false]):=lk;have pp:=jtO hl t;show _=_;rw [hta];simp only [jr,e1,hz,lk,pp,jfk]
  | some r=>
   rw [hl] at lk;have lk:jju none true false [sv [],.sl 2 []] (.mp (m.map kv)) (sv a.name)=some (.tup [tm r,vb true]):=lk;obtain ⟨R,pp,hR⟩:=jtP hl (tm t);have e2:=Ye r (hm _ (jhf hl)).wf t ht.wf;show MI _ (if dq r t=true then some m else none);rw [hta];cases hd:dq r t<;>rw [hd] at e2
   ·rw [jp jcV];refine ⟨R,?_⟩;simp only [jr,e1,hz,lk,pp,e2,jfk]
   ·rw [jq rfl];have hr:R=m.map kv:=hR (by rw [jc4.1 hd]);rw [hr] at pp;show _=_;simp only [jr,e1,hz,lk,pp,e2,jfk]
theorem jvL (a:T) (ha:Tz a) (hk:KW a=true) (t:T) (m:ku) (ht:Tz t) (hm:∀q∈m,Tz q.2)
  (ih:∀u∈a.args,∀(s:T) (m:ku),Tz s->(∀q∈m,Tz q.2)->MI (jeb (sv u.name) (zl u.args) (tm s) (m.map kv)) (mt m u s)) :
  MI (jq4 (tm a) (sv t.name) (zl t.args) (m.map kv)) (mt m a t):=jve a ha (Zq a hk) (λhv=>jjs hk hv) t m ht hm ih
theorem jvX:∀(a:T),Tz a->KW a=true-> ∀(t:T) (m:ku),Tz t->(∀q∈m,Tz q.2)->MI (jeb (sv a.name) (zl a.args) (tm t) (m.map kv)) (mt m a t):=by
 refine T.ind λa ih ha hk t m ht hm=> ?_;exact jvM a ha hk t m ht hm λu hu s m hs hm=>ih u hu (ha.args u hu) (yV hk u hu) s m hs hm
theorem jvp (a:T) (ha:Tz a) (hk:KW a=true) (t:T) (m:ku) (ht:Tz t) (hm:∀q∈m,Tz q.2):MI (jq4 (tm a) (sv t.name) (zl t.args) (m.map kv)) (mt m a t):=
 jvL a ha hk t m ht hm λu hu s m hs hm=>jvX u (ha.args u hu) (yV hk u hu) s m hs hm
theorem jsT (n:List UInt8) (t:T):∀(s:ku) (i:Nat),i<=s.length->(∀j,(h:j < i)-> ∀h':j < s.length,sLt s[j].1 n=true)->((∃h:i < s.length,sLt s[i].1 n=false)\/i=s.length)->jtB s n t=s.take i++(n,t)::s.drop i
 | [],i,hi,_,_=>by
  have:i=0:=by simpa using hi
  subst this;rfl
 | p::s,0,_,_,h=>by
  have hp:sLt p.1 n=false:=by
   rcases h with ⟨_,h⟩|h
   ·exact h
   ·cases h
  unfold jtB;rw [js4 (p:=λp:List UInt8 × T=>sLt p.1 n) (by simp [hp]),js5 (p:=λp:List UInt8 × T=>sLt p.1 n) (by simp [hp])];rfl
 | p::s,i+1,hi,h1,h=>by
  have hp:sLt p.1 n=true:=h1 0 (by omega) (by simp);have:=jsT n t s i (by simpa using hi) (λj hj hj'=>h1 (j+1) (by omega) (by simpa using hj')) (by
   rcases h with ⟨h,h2⟩|h
   ·exact Or.inl ⟨by simpa using h,h2⟩
   ·exact Or.inr (by simpa using h))
  unfold jtB at this ⊢;rw [js6 (p:=λp:List UInt8 × T=>sLt p.1 n) hp,js7 (p:=λp:List UInt8 × T=>sLt p.1 n) hp,JO,this];rfl
theorem jtR {α:Type} (f:α->List A) (l:List α):jkz (l.map f)=l.length:=jdj ..
theorem jus (u:ku) (hl:u.length<=1000000) (i:Nat) (hi:i<=u.length) :
  pB u.length u.length (some (vi (i:Nat)))=some i/\jsp (u.map bc) 0 i=(u.take i).map bc/\Ji (u.take i).length 56=true/\pB u.length u.length none=some u.length/\pB 0 u.length (some (vi (i:Nat)))=some i/\jsp (u.map bc) i (u.length - i)=(u.drop i).map bc/\jq9 (u.map bc) 0=u.length/\Ji ((u.take i).length+1) 56=true/\Ji ((u.take i).length+1+(u.drop i).length) 56=true:=by
 refine ⟨jv1 hi,by rw [jsp,kV,jm3],jv2 (by rw [jfv];omega),jtr (jV _),jv1 hi,?_,by rw [jq9,jdj];rfl,jv2 (by rw [jfv];omega),jv2 (by rw [jfv,jph];omega)⟩
 rw [jsp,<-jrk,jdi (by rw [jdj,jph];omega)]
theorem jur (u v:ku) (n:List UInt8) (t:T):Kb (Kb (u.map bc) [[sv n,sv t.name,zl t.args]]) (v.map bc)=(u++(n,t)::v).map bc:=by
 rw [jaP];show (u.map bc++[_])++v.map bc=u.map bc++_::v.map bc;rw [zj];rfl
theorem jut (u:ku) (n:List UInt8) (t:T):(Kb (u.map bc) [[sv n,sv t.name,zl t.args]]).length=u.length+1:=by
 simp [Kb]
theorem jwE (u:ku) (hl:u.length<=1000000) (n:List UInt8) (t:T) (ht:Tz t):juG (sv n) (tm t) (u.map bc)=some (.top,[sbs (jpL u n t)]):=by
 have e1:=jhW t ht;have key:=upto (P:=λi=>(∀j,(h:j < i)-> ∀h':j < u.length,sLt u[j].1 n=true)->jo7 (sv n) (vi i) (sv t.name) (zl t.args) (u.map bc) []=some (.top,[sbs (jtB u n t)])) (n:=u.length) ?_ ?_ 0 (zZ _) (λj h=>absurd h (Nat.not_lt_zero _))
 ·rw [jw9,jpL];by_cases h:t.name=n
  ·rw [jq h];simp only [jr,h]
  ·rw [jp h];have e:jo7 (sv n) (vi 0) (sv t.name) (zl t.args) (u.map bc) []=some (.top,[sbs (jtB u n t)]):=key;simp only [jr,h,e]
 ·intro hall;rw [jsT n t u u.length (jV _) hall (Or.inr rfl)];obtain ⟨k1,k2,k3,k4,k5,k6,k7,k8,k9⟩:=jus u hl u.length (jV _);have m1:=jur (u.take u.length) (u.drop u.length) n t;have m2:=jut (u.take u.length) n t;rw [jtn];simp only [jr,jtR,k1,k2,k3,k4,k5,k6,k7,jt3,jpi,J3,e1];generalize hB:QS _ _ _=B;have hB':B=some (.agg [sv n,sv t.name,zl t.args]):=by rw [<-hB];kernel_rfl
  rw [hB'];simp only [jr,k3,k8,k9,m1,m2]
 ·intro i hi ih hall;have hlt:(i:Int) < ((u.length:Nat):Int):=by omega
  have h5:=jB hi (by show u.length<=9223372036854775807;omega)
  have x1:pIx u.length (vi ((i:Nat):Int))=some i:=YE hi;have x2:=jtu hi;cases hs:sLt u[i].1 n
  ·rw [jsT n t u i (by omega) hall (Or.inl ⟨hi,hs⟩)];obtain ⟨k1,k2,k3,k4,k5,k6,k7,k8,k9⟩:=jus u hl i (by omega);have m1:=jur (u.take i) (u.drop i) n t;have m2:=jut (u.take i) n t;rw [jtn];simp only [jr,hlt,x1,x2,hs,jtR,k1,k2,k3,k4,k5,k6,k7,jt3,jpi,J3,e1];generalize hB:QS _ _ _=B;have hB':B=some (.agg [sv n,sv t.name,zl t.args]):=by rw [<-hB];kernel_rfl
   rw [hB'];simp only [jr,k3,k8,k9,m1,m2]
  ·have ih:=ih λj hj hj'=>by
    by_cases h:j=i
    ·subst h;exact hs
    ·exact hall j (by omega) hj'
   rw [jtn];simp only [jr,hlt,x1,x2,hs,h5,ih]
theorem juq (s:ku) (n:List UInt8) (t:T):(jpL s n t).length<=s.length+1:=by
 unfold jpL;split
 ·omega
 ·unfold jtB;rw [jaQ,qf];have:=js8 (p:=λp:List UInt8 × T=>sLt p.1 n) (l:=s);have:=congrArg List.length this;rw [jaQ] at this;omega
theorem jv6 {s:ku} {n:List UInt8} {t:T} {q:List UInt8 × T} (h:q∈jpL s n t):q∈s\/q=(n,t):=by
 unfold jpL at h;split at h
 ·exact Or.inl h
 ·unfold jtB at h;rw [kH,jH] at h;rcases h with h|h|h
  ·exact Or.inl (List.takeWhile_subset _ h)
  ·exact Or.inr h
  ·exact Or.inl (List.dropWhile_subset _ h)
theorem jtH:∀(m s:ku),(m.foldl (λs p=>jpL s p.1 p.2) s).length<=s.length+m.length
 | [],s=>by simp
 | p::m,s=>by
  rw [jrl,qf];have:=jtH m (jpL s p.1 p.2);have:=juq s p.1 p.2;omega
theorem jtI:∀(m s:ku) {q:List UInt8 × T},q∈m.foldl (λs p=>jpL s p.1 p.2) s->q∈s\/q∈m
 | [],s,q,h=>Or.inl h
 | p::m,s,q,h=>by
  rw [jrl] at h;rcases jtI m _ h with h|h
  ·rcases jv6 h with h|h
   ·exact Or.inl h
   ·exact Or.inr (by rw [h];simp)
  ·exact Or.inr (by simp [h])
theorem jvt {m:ku} {q:List UInt8 × T} (h:q∈jmS m):q∈m:=by
 rcases jtI m [] h with h|h
 ·cases h
 ·exact h
theorem jv4 (m:ku) (hm:∀q∈m,Tz q.2) (hl:m.length<=1000000):G 103 [sbs m]=some (sb (jmS m),[]):=by
 have key:=upto (P:=λi=>∀s:ku,s.length<=i->jtY (sbs m) (vi i) [] (s.map bc)=some (sb ((m.drop i).foldl (λs p=>jpL s p.1 p.2) s),[])) (n:=m.length) ?_ ?_ 0 (zZ _) [] (jV _)
 ·rw [jye];exact key
 ·intro s _;rw [jvS,zw];simp only [jr];rfl
 ·intro i hi ih s hs;have hlt:(i:Int) < ((m.length:Nat):Int):=by omega
  have h5:=jB hi (by show m.length<=9223372036854775807;omega)
  have e1:=jwE s (by omega) m[i].1 m[i].2 (hm _ (zf _));have:=juq s m[i].1 m[i].2;have ih:=ih (jpL s m[i].1 m[i].2) (by omega);rw [jvS,jA hi,jrl];simp only [jr,hlt,jb hi,jr2,jqn,jts,e1,h5,ih]
theorem jxL {n:Nat} (h:n<=4194304):Ji n 24=true:=by
 unfold Ji;exact ZO ⟨by omega,by omega⟩
theorem jxN {n:Nat} (h:n<=4194304):Ji n 8=true:=by
 unfold Ji;exact ZO ⟨by omega,by omega⟩
abbrev pln (p:List Nat):A:= .sl 1 (p.map λn=>[vi (n:Nat)])
abbrev plc (p:List Nat):List A:=[pln p]
theorem jwD (p:List Nat) (h:p.length<=4194304):jtW (pln p)=some (.top,[pln p]):=by
 rw [jw8];have:=jxN (n:=p.length) h;simp only [jr,this]
mutual
theorem jsS:∀t:T,(jjb t).length=nodes t
 | .mk n us=>by
  rw [jjb,nodes,jaQ,jtQ us 0];simp;omega
theorem jtQ:∀(us:List T) (i:Nat),(jhC i us).length=jE us
 | [],i=>rfl
 | t::ts,i=>by
  rw [jhC,jE,jaQ,jdj,jsS t,jtQ ts (i+1)]
end
theorem post_eq:∀(t:T) (p:List Nat),Tz t->p.length+tsz t<=2000000->G 98 [tm t,pln p]=some (.sl 1 ((jjb t).map λq=>plc (p++q)),[]):=by
 refine T.ind λt ih p ht hp=> ?_;have hs:=ht;unfold Tz at hs;rw [zH] at hs hp;have hnl:=yB t;have hne:=jS t;have e0:=jwD p (by omega);have hsplit:∀i,i<=t.args.length->jE (t.args.take i)+jE (t.args.drop i)=jE t.args:=by
  intro i _;have:∀a b:List T,jE (a++b)=jE a+jE b:=by
   intro a b;induction a with
   | nil=>simp [jE]
   | cons x a ih=>simp only [JO,jE,ih];omega
  rw [<-this,jaR]
 have key:=upto (P:=λi=>∀R:List (List A),R.length+jE (t.args.drop i)<=2000000->juU (pln p) (vi i) (sv t.name) (zl t.args) R=some (.sl 1 (R++(jhC i (t.args.drop i)++[[]]).map λq=>plc (p++q)),[])) (n:=t.args.length) ?_ ?_ 0 (zZ _) [] (by simp;unfold Tz at ht;omega)
 ·rw [g98,juo];simp only [ya,Jb,kV] at key;simp only [jr,key]
 ·intro R hR;rw [jwT,zw];have hf:Ji (R.length+1) 24=true:=jxL (by omega);simp only [jr,e0,hf];rw [jhC,Jb,zd,qO];rfl
 ·intro i hi ih2 R hR;have hlt:(i:Int) < ((t.args.length:Nat):Int):=by omega
  have h5:=jB hi (by show t.args.length<=9223372036854775807;omega)
  have hm:tsz t.args[i]<=ZI t.args:=zW (zf _);have ed:jE (t.args.drop i)=nodes t.args[i]+jE (t.args.drop (i+1)):=by rw [jA hi];rfl
  have e2:=ih t.args[i] (zf _) (p++[i]) (ht.args _ (zf _)) (by rw [jaQ,jsz];omega)
  have ea:Kb (p.map λn:Nat=>[vi (n:Nat)]) [[vi (i:Nat)]]=(p++[i]).map λn:Nat=>[vi (n:Nat)]:=by rw [jaP];rfl
  have hf1:Ji (p.length+1) 8=true:=jxN (by omega);have hpl:=jsS t.args[i];have hf2:Ji (R.length+(jjb t.args[i]).length) 24=true:=jxL (by omega);have ih3:=ih2 (Kb R ((jjb t.args[i]).map λq=>plc ((p++[i])++q))) (by show (R++_).length+_<=_;rw [jaQ,jdj];omega);rw [jwT,jA hi,jhC];simp only [jr,hlt,jb hi,jg,e0,hf1,ea,e2,hf2,h5,ih3];congr 2;show A.sl 1 ((R++_)++_)=_;congr 1;rw [zj,zj,jaP,jaP,qW];congr 2;refine jis λq _=> ?_;show plc (p++[i]++q)=plc (p++(i::q));rw [zj];rfl;rw [jaP]
def okP:List Nat->T->Prop
 | [],_=>True
 | i::p,t=>i < t.args.length/\okP p (t.args.getD i (.mk [] []))
theorem jqm {ts:List T} {i:Nat} (h:i < ts.length):ts.getD i (.mk [] [])=ts[i]:=by rw [jU,jL h];rfl
mutual
theorem jup:∀(t:T),∀p∈jjb t,okP p t/\p.length<=nodes t
 | .mk n us=>λp hp=>by
  rw [jjb,kH] at hp;rcases hp with hp|hp
  ·obtain ⟨j,q,rfl,h1,h2,h3⟩:=jun us 0 p hp;refine ⟨?_,?_⟩
   ·show (0+j) < us.length/\okP q (us.getD (0+j) _);rw [J3];exact ⟨h1,h2⟩
   ·rw [qf,nodes];omega
  ·rw [jR] at hp;subst hp;exact ⟨trivial,by simp⟩
theorem jun:∀(us:List T) (i:Nat),∀p∈jhC i us,∃j q,p=(i+j)::q/\j < us.length/\okP q (us.getD j (.mk [] []))/\q.length<=jE us
 | [],i,p,hp=>by rw [jhC] at hp;cases hp
 | t::ts,i,p,hp=>by
  rw [jhC,kH] at hp;rcases hp with hp|hp
  ·obtain ⟨q,hq,rfl⟩:=z7.1 hp;obtain ⟨h1,h2⟩:=jup t q hq;exact ⟨0,q,rfl,by simp,h1,by rw [jE];omega⟩
  ·obtain ⟨j,q,rfl,h1,h2,h3⟩:=jun ts (i+1) p hp;exact ⟨j+1,q,by rw [show i+1+j=i+(j+1) by omega],by simpa using h1,by simpa using h2,by rw [jE];omega⟩
end
theorem ju3 {q:T->Prop} (hq:∀t,q t-> ∀u∈t.args,q u):∀ {p:List Nat} {t:T},okP p t->q t->q (atT p t)
 | [],_,_,h=>h
 | i::p,t,hp,h=>by
  obtain ⟨h1,h2⟩:=hp;refine ju3 (p:=p) hq h2 ?_;rw [jqm h1];exact hq t h _ (zf _)
theorem jv5 (i:Nat) (p:List Nat):pln (i::p) = .sl 1 ([vi (i:Nat)]::p.map λn=>[vi (n:Nat)]):=rfl
theorem jpl {p:List Nat} {i:Nat} (h:i < p.length):jw 1 (pln p) (vi (i:Nat))=some (.elt [vi (p[i]:Nat)] 0):=jb h
theorem at_eq (t:T) (p:List Nat) (ht:Tz t) (hp:okP p t) (hl:p.length<=2000000):G 99 [tm t,pln p]=some (.tup [tm (atT p t),vb true],[]):=by
 have key:=upto (P:=λi=>∀t:T,Tz t->okP (p.drop i) t->juV (pln p) (vi i) (sv t.name) (zl t.args) (sv []) []=some (.tup [tm (atT (p.drop i) t),vb true],[])) (n:=p.length) ?_ ?_ 0 (zZ _) t ht hp
 ·rw [g99];simp only [jr];exact key
 ·intro t ht _;have e1:=jhW t ht;rw [jwU,zw];simp only [jr,e1];rfl
 ·intro i hi ih t ht hp;have hlt:(i:Int) < ((p.length:Nat):Int):=by omega
  have h5:=jB hi (by show p.length<=9223372036854775807;omega)
  have hs:=ht;unfold Tz at hs;rw [zH] at hs;rw [jA hi] at hp ⊢;obtain ⟨h1,h2⟩:=hp;have hsub:ck (((t.args.length:Nat):Int) - 1)=some (vi (((t.args.length:Nat):Int) - 1)):=qK (by omega) (by omega);have hin:=KV ((p[i]:Nat):Int) 0 (((t.args.length:Nat):Int) - 1);have hb:Kh 0 (((t.args.length:Nat):Int) - 1) ((p[i]:Nat):Int)=true:=by unfold Kh;simp;omega
  rw [hb] at hin;have e:t.args.getD p[i] (.mk [] [])=t.args[p[i]]:=jqm h1;rw [e] at h2;have ih:=ih _ (ht.args _ (zf h1)) h2;rw [jwU,atT,e];simp only [jr,hlt,jpl hi,hsub,hin,jb h1,jg,h5,ih]
theorem ju6 (t:T) (ht:Tz t):juS (sv t.name) (zl t.args)=some (.top,[sv t.name,zl t.args]):=by
 have h:=ht;unfold Tz at h;rw [zH] at h;have key:=(upto (P:=λi=>js0 (vi i) (sv t.name) (zl t.args) (sv []) (sv t.name) [] ((t.args.take i).map jm)=some (.top,[sv t.name,zl t.args])) (n:=t.args.length) ?_ ?_ 0 (zZ _))
 ·rw [jxx];simp only [ya,jm4,jfk] at key;simp only [jr,key]
 ·rw [ju0,jrm];simp only [jr]
 ·intro i hi ih';have hlt:(i:Int) < ((t.args.length:Nat):Int):=by omega
  have h5:=jB hi (by show t.args.length<=9223372036854775807;omega)
  have e1:=jhW t.args[i] (by have:=zW (zf hi);omega)
  have hf:Ji (i+1) 40=true:=jsm (by omega);have hl:((t.args.take i).map jm).length=i:=by rw [jdj,jfv];omega
  have ha:Kb ((t.args.take i).map jm) [[sv t.args[i].name,zl t.args[i].args]]=(t.args.take (i+1)).map jm:=by
   rw [show [sv t.args[i].name,zl t.args[i].args]=jm t.args[i] from (kA _).symm,jsM,jL hi,jaP];rfl
  rw [ju0];simp only [jr,hlt,jb hi,jg,e1,hl,hf,ha,h5,ih',jfv,jfr (jef hi)]
theorem jvd (s:T) (hs:Tz s):∀(p:List Nat) (t:T),Tz t->okP p t->p.length<=2000000->G 101 [tm t,pln p,tm s]=some (tm (jhd s p t),[])
 | [],t,_,_,_=>by
  have e1:=ju6 s hs;have hz:(((0:Nat):Int)=0)=True:=by simp
  rw [jxC,jhd];simp only [jr,hz,e1,jfk,Ze]
 | i::p,t,ht,hp,hl=>by
  obtain ⟨h1,h2⟩:=hp;have e:t.args.getD i (.mk [] [])=t.args[i]:=jqm h1;rw [e] at h2;have e1:=ju6 t ht;have e2:=jvd s hs p t.args[i] (ht.args _ (zf h1)) h2 (by rw [qf] at hl;omega);have hz:¬((p.length+1:Nat):Int)=0:=by omega
  have hz2:¬((p.length:Nat):Int)+1=0:=by omega
  have i0:jw 1 (pln (i::p)) (vi 0)=some (.elt [vi (i:Nat)] 0):=jpl (p:=i::p) (i:=0) (by simp);have sl:zU 1 (pln (i::p)) (some (vi 1)) none=some (pln p):=by
   have:=jaG (k:=1) (xs:=(i::p).map λn:Nat=>[vi (n:Nat)]) (i:=1) (by simp);exact this
  have ix:pIx t.args.length (vi (i:Nat))=some i:=YE h1;have rg:Zy (t.args.map jm) i=some (jm t.args[i]):=by unfold Zy;simp [h1]
  have co:kE (jm t.args[i]) 0 [sv (jhd s p t.args[i]).name,zl (jhd s p t.args[i]).args]=jm (jhd s p t.args[i]):=by rw [kA,kA];rfl
  have rs:zq (t.args.map jm) i (jm (jhd s p t.args[i]))=(t.args.set i (jhd s p t.args[i])).map jm:=by unfold zq;rw [jsx]
  have ll:(qe (pln (i::p)))=some (vi ((p.length+1:Nat):Int)):=by rw [jv5];simp only [jr]
  rw [jxC,jhd,e];simp only [jr,ll,hz,e1,i0,jb h1,jg,sl,e2,ix,rg,co,rs,Ze];rfl
theorem juC {n:List UInt8} (h:kS n=true):n.length<=4:=by
 cases n with
 | nil=>simp
 | cons c r=>
  simp only [kS,js,JP] at h;rw [qf];omega
theorem jvA {n:List UInt8} (h:Kz n=true):n.length<=6:=by
 cases n with
 | nil=>simp
 | cons c r=>
  simp only [Kz,js,JP] at h;rw [qf];omega
theorem jt4:∀t:T,KW t=true->tsz t<=10 * nodes t:=by
 refine T.ind λt ih hk=> ?_;have hL:∀us:List T,(∀u∈us,tsz u<=10 * nodes u)->ZI us<=10 * jE us:=by
  intro us;induction us with
  | nil=>intro _;simp [ZI]
  | cons u us ih2=>
   intro h;have:=h u (by simp);have:=ih2 λw hw=>h w (by simp [hw]);simp only [ZI,jE];omega
 have h1:=hL t.args λu hu=>ih u hu (yV hk u hu);rw [zH,jS];rw [YB] at hk;cases hv:kS t.name with
 | true=>
  rw [hv,jq rfl] at hk;have:=juC hv;rw [jfl.1 hk] at h1 ⊢;simp only [jed,ZI] at h1 ⊢;omega
 | false=>
  rw [hv,jp jcV,js,js,JP] at hk;have:=jvA hk.1;omega
theorem jvy {u:ku} {Z:Nat} (hZ:1<=Z) (hu:∀q∈u,nodes q.2<=Z):∀t:T,nodes (sub u t)<=nodes t * Z:=by
 refine T.ind λt ih=> ?_;cases hv:kS t.name with
 | true=>
  have h1:=qp t;have h2:1 * Z<=nodes t * Z:=qP Z h1;rw [jqo hv,jsW];cases hl:look u t.name with
  | none=>show 1+0<=_;omega
  | some r=>have:nodes r<=Z:=hu _ (jhf hl);show nodes r<=_;omega
 | false=>
  have hL:∀us:List T,(∀v∈us,nodes (sub u v)<=nodes v * Z)->jE (us.map (sub u))<=jE us * Z:=by
   intro us;induction us with
   | nil=>intro _;simp [jE]
   | cons v us ih2=>
    intro h;have:=h v (by simp);have:=ih2 λw hw=>h w (by simp [hw]);simp only [zd,jE,kK];omega
  have:=hL t.args ih;rw [jS,juz hv,jS t,kK];omega
theorem ji3 {t u:T} (h:u∈t.args):nodes u < nodes t:=by
 have:=yj h;have:=jS t;omega
def Vs (t:T):Prop:=KW t=true/\nodes t<=30
theorem Vs.args {t:T} (h:Vs t):∀u∈t.args,Vs u:=λu hu=>⟨yV h.1 u hu,by have:=ji3 hu;have:=h.2;omega⟩
theorem Vs.tz {t:T} (h:Vs t):Tz t:=by
 have:=jt4 t h.1;have:=h.2;unfold Tz;omega
def RS (rs:List T):Prop:=rs.length<=10/\ ∀r∈rs,r.args.length=2/\Vs (jcZ r)/\Vs (jsi r)
theorem RS.ok {rs:List T} (h:RS rs):jt0 rs:=λr hr=>⟨(h.2 r hr).2.1.1,(h.2 r hr).2.2.1⟩
def EX (root:Bool) (t:T):Prop:=(nodes t<=31/\Tz t)/\(∀u∈t.args,Vs u)/\(root=true->Vs t)
theorem jvY {a s:T} {m:ku} (hs:Vs s) (h:mt [] a s=some m):MOk Vs m:=jl6 (p:=Vs) (λ_ h=>h.args) a (MOk.nil _) hs h
theorem jtT {r:T} (hl:r.args.length=2):jw 2 (zl r.args) (vi 0)=some (.elt (jm (jcZ r)) 0)/\jw 2 (zl r.args) (vi 1)=some (.elt (jm (jsi r)) 0):=by
 have i0:jw 2 (zl r.args) (vi 0)=some (.elt (jm r.args[0]) 0):=jb (i:=0) (by omega);have i1:jw 2 (zl r.args) (vi 1)=some (.elt (jm r.args[1]) 0):=jb (i:=1) (by omega);have e0:jcZ r=r.args[0]:=jqm (by omega);have e1:jsi r=r.args[1]:=jqm (by omega);rw [e0,e1];exact ⟨i0,i1⟩
theorem jwj {m:ku} {r:T} (hm:MOk Vs m) (hr:Vs r):KW (sub m r)=true/\nodes (sub m r)<=900/\Tz (sub m r):=by
 have h1:=jwi (u:=m) (λq hq=>(hm.2 q hq).2.1) r hr.1;have h2:=jvy (u:=m) (Z:=30) (by decide) (λq hq=>(hm.2 q hq).2.2) r;have h3:=hr.2;have h4:=jt4 _ h1;exact ⟨h1,by omega,by unfold Tz;omega⟩
theorem jwa {rs:List T} (hr:RS rs) {s v:T} (hs:Vs s) (h:jbe rs s=some v):KW v=true/\nodes v<=900:=by
 have key:∀rs:List T,(∀r∈rs,r.args.length=2/\Vs (jcZ r)/\Vs (jsi r))->jbe rs s=some v->KW v=true/\nodes v<=900:=by
  intro rs;induction rs with
  | nil=>intro _ h;simp [jbe] at h
  | cons r rs ih=>
   intro hr h;rw [jbe] at h;split at h
   ·rename_i m hm;cases h;obtain ⟨a,b,_⟩:=jwj (jvY hs hm) (hr r (by simp)).2.2;exact ⟨a,b⟩
   ·exact ih (λq hq=>hr q (by simp [hq])) h
 exact key rs hr.2 h
def jwC (t:T) (o:Option T):Option Out:=match o with|some u=>some (.tup [tm u,vb true],[])|none=>some (.tup [tm t,vb false],[])
theorem EX.at {root:Bool} {t:T} (h:EX root t) {p:List Nat} (hp:okP p t) (hne:¬(p = []/\root=false)):Vs (atT p t):=by
 obtain ⟨_,h1,h2⟩:=h;cases p with
 | nil=>
  cases root
  ·exact absurd ⟨rfl,rfl⟩ hne
  ·exact h2 rfl
 | cons i p=>
  obtain ⟨a,b⟩:=hp;refine ju3 (p:=p) (q:=Vs) (λ_ h=>h.args) b ?_;rw [jqm a];exact h1 _ (zf _)
theorem jvr (rs:List T) (hr:RS rs) (root:Bool) (t:T) (h:EX root t):G 70 [tm t,zl rs,vb root]=jwC t (jda rs root t):=by
 have hrt:=h.1.2;have hpost:=post_eq t [] hrt (by have:=hrt;unfold Tz at this;simp;omega);have hpost:G 98 [tm t,.sl 1 []]=some (.sl 1 ((jjb t).map plc),[]):=hpost;have hok:=jup t;have hln:=jsS t;have hr1:=hr.1;rw [<-jvq];generalize hP:jjb t=P at *;have key:=upto (P:=λi=>jtF (zl rs) (vb root) (.sl 1 (P.map plc)) (vi i) (sv t.name) (zl t.args) (sv []) []=jwC t ((P.drop i).findSome? (jfF rs root t))) (n:=P.length) ?_ ?_ 0 (zZ _)
 ·rw [g70];simp only [ya,kV] at key;simp only [jr,hpost,key]
 ·rw [jvW,zw];show _=some (A.tup [tm t,vb false],[]);simp only [jr]
 ·intro i hi ih;have hn:=h.1.1;have hlt:(i:Int) < ((P.length:Nat):Int):=by omega
  have h5:=jB hi (by show P.length<=9223372036854775807;omega)
  have hpi:jw 1 (.sl 1 (P.map plc)) (vi (i:Nat))=some (.elt (plc P[i]) 0):=jb hi;have hpl:qe (pln P[i])=some (vi ((P[i].length:Nat):Int)):=by simp only [jr]
  obtain ⟨ho,hl⟩:=hok P[i] (zf _);rw [jA hi,jsL];by_cases hc:P[i] = []/\root=false
  ·rw [jfF,jq hc];obtain ⟨c1,c2⟩:=hc;subst c2;have c3:(((P[i]).length:Nat):Int)=0:=by rw [c1];rfl
   rw [jvW];simp only [jr,hlt,hpi,hpl,c3,h5,ih]
  ·have hs:=h.at ho hc;rw [jfF,jp hc];have e1:=at_eq t P[i] hrt ho (by omega);have inner:∀j,j<=rs.length->jtG (zl rs) (vb root) (.sl 1 (P.map plc)) (vi i) (vi j) (sv t.name) (zl t.args) (sv []) (sv (atT P[i] t).name) (zl (atT P[i] t).args) []=(match jbe (rs.drop j) (atT P[i] t) with|some v=>jwC t (some (jhd v P[i] t))|none=>jwC t ((P.drop (i+1)).findSome? (jfF rs root t))):=by
    refine upto ?_ ?_
    ·rw [jwR,zw,jbe];simp only [jr,h5,ih]
    ·intro j hj ihj;have hltj:(j:Int) < ((rs.length:Nat):Int):=by omega
     have h5j:=jB hj (by show rs.length<=9223372036854775807;omega)
     obtain ⟨hr2,hr3,hr4⟩:=hr.2 rs[j] (zf _);obtain ⟨i0,i1⟩:=jtT hr2;have ad:jeX (.elt (jm rs[j]) 0) 1=some (.elt (jm rs[j]) 1):=by rw [jcg]
     have lp:yW (.elt (jm rs[j]) 1)=some (zl rs[j].args):=by rw [kA];rfl
     have q:=juk (jcZ rs[j]) hr3.tz (atT P[i] t) [] hs.tz (λq hq=>by cases hq) (by have:=hr3.2;simp;omega)
     rw [jwR,jA hj,jbe];cases hm:mt [] (jcZ rs[j]) (atT P[i] t) with
     | none=>
      rw [hm] at q;obtain ⟨R,q⟩:=q;have q:js2 (tm (jcZ rs[j])) (sv (atT P[i] t).name) (zl (atT P[i] t).args) []=some (.top,[vb false,.sl 259 R]):=q;simp only [jr,hltj,jb hj,ad,lp,i0,jg,q,Ze,h5j,ihj]
     | some m=>
      rw [hm] at q;have q:js2 (tm (jcZ rs[j])) (sv (atT P[i] t).name) (zl (atT P[i] t).args) []=some (.top,[vb true,.sl 259 (m.map bc)]):=q;have hM:=jvY hs hm;obtain ⟨_,hml⟩:=jtq (p:=Vs) (λ_ h=>h.args) _ (m:=[]) (λq hq=>by cases hq) hs hm;have hml:m.length<=30:=by have:=hr3.2;simp at hml;omega
      have p1:=jv4 m (λq hq=>(hM.2 q hq).2.tz) (by omega);have hsz:Sz 1048576 (jmS m):=by
       refine ⟨?_,λq hq=> ?_⟩
       ·have:=jtH m [];show (jmS m).length<=_;unfold jmS;simp at this;omega
       ·have hq:=jvt hq;have:=juC (hM.2 q hq).1;have:=(hM.2 q hq).2.tz;unfold Tz at this;exact ⟨by omega,by omega⟩
      have p2:=juK (jmS m) hsz (jsi rs[j]) hr4.tz;rw [jvz (m:=m) ⟨hM.1,λq hq=>⟨(hM.2 q hq).1,(hM.2 q hq).2.1⟩⟩] at p2;obtain ⟨_,_,s3⟩:=jwj hM hr4;have p3:=jvd (sub m (jsi rs[j])) s3 P[i] t hrt ho (by omega);show _=some (A.tup [tm (jhd (sub m (jsi rs[j])) P[i] t),vb true],[]);simp only [jr,hltj,jb hj,ad,lp,i0,i1,jg,q,Ze,hpi,p1,p2,p3]
   have inner:=inner 0 (zZ _);simp only [kV,ya] at inner;have fin:jtF (zl rs) (vb root) (.sl 1 (P.map plc)) (vi i) (sv t.name) (zl t.args) (sv []) []=jtG (zl rs) (vb root) (.sl 1 (P.map plc)) (vi i) (vi 0) (sv t.name) (zl t.args) (sv []) (sv (atT P[i] t).name) (zl (atT P[i] t).args) []:=by
    rw [jvW];cases root with
    | true=>
     by_cases c:(((P[i]).length:Nat):Int)=0
     ·simp only [jr,hlt,hpi,hpl,c,e1]
     ·simp only [jr,hlt,hpi,hpl,c,e1]
    | false=>
     have c:¬(((P[i]).length:Nat):Int)=0:=λc=>hc ⟨jm2.1 (by omega),rfl⟩;simp only [jr,hlt,hpi,hpl,c,e1]
   rw [fin,inner];cases jbe rs (atT P[i] t) with
   | none=>rfl
   | some v=>rfl
def jq3 (o:Option T):Option Out:=match o with|some u=>some (.tup [tm u,vb true],[])|none=>some (.tup [.agg [sv [],.sl 2 []],vb false],[])
def Srt (l:List (List UInt8)):Prop:=l.Pairwise λx y=>x < y
theorem jwe (x y:List UInt8):sLt x y=decide (x < y):=Go.Proofs.bytesLess_eq x y
theorem jxh {x y:List UInt8} (h1:¬x < y) (h2:x≠y):y < x:=by
 have h3:y<=x:=List.not_lt.1 h1;exact Std.lt_of_le_of_ne h3 (Ne.symm h2)
theorem jva:∀(a b:List (List UInt8)),Srt a->Srt b->(∀n,n∈a↔n∈b)->a=b
 | [],[],_,_,_=>rfl
 | [],y::b,_,_,h=>by have:=(h y).2 (by simp);cases this
 | x::a,[],_,_,h=>by have:=(h x).1 (by simp);cases this
 | x::a,y::b,ha,hb,h=>by
  have ha':=jsD.1 ha;have hb':=jsD.1 hb;have hxy:x=y:=by
   have h1:x∈y::b:=(h x).1 (by simp);have h2:y∈x::a:=(h y).2 (by simp);rcases jH.1 h1 with h1|h1
   ·exact h1
   ·rcases jH.1 h2 with h2|h2
    ·exact h2.symm
    ·exact absurd (jsE (ha'.1 y h2) (hb'.1 x h1)) (jsF x)
  subst hxy;refine congrArg (x::·) (jva a b ha'.2 hb'.2 λn=>⟨λhn=> ?_,λhn=> ?_⟩)
  ·rcases jH.1 ((h n).1 (YO _ hn)) with e|e
   ·subst e;exact absurd (ha'.1 _ hn) (jsF _)
   ·exact e
  ·rcases jH.1 ((h n).2 (YO _ hn)) with e|e
   ·subst e;exact absurd (hb'.1 _ hn) (jsF _)
   ·exact e
theorem jwf {l:List (List UInt8)} (h:l.Nodup):Srt (zP l):=by
 have h1:(zP l).Pairwise λx y=>decide (x<=y)=true:=List.pairwise_mergeSort (λa b c h1 h2=>by simp only [JP] at *;exact List.le_trans h1 h2) (λa b=>by simp only [jcO,JP];exact List.le_total a b) l
 have h2:(zP l).Nodup:=(List.mergeSort_perm l _).nodup_iff.2 h;exact (h1.and h2).imp λ{x y} hxy=>Std.lt_of_le_of_ne (by simpa using hxy.1) hxy.2
theorem jvb {l:List (List UInt8)} {s:List UInt8} {i:Nat} (hl:Srt l) (h1:∀x∈l.take i,x < s) (h2:∀h:i < l.length,s < l[i]):Srt (l.take i++[s]++l.drop i):=by
 have hl':Srt (l.take i++l.drop i):=by rw [jaR];exact hl
 obtain ⟨p1,p2,p3⟩:=jsG.1 hl';have h3:∀y∈l.drop i,s < y:=by
  intro y hy;have hlt:i < l.length:=by
   rcases jcT i l.length with h|h
   ·exact h
   ·rw [jei h] at hy;cases hy
  rw [jm1 hlt] at hy p2;rcases jH.1 hy with e|e
  ·subst e;exact h2 hlt
  ·exact jsE (h2 hlt) ((jsD.1 p2).1 y e)
 refine jsG.2 ⟨jsG.2 ⟨p1,by simp,λa ha b hb=> ?_⟩,p2,λa ha b hb=> ?_⟩
 ·rw [jR.1 hb];exact h1 a ha
 ·rcases kH.1 ha with ha|ha
  ·exact p3 a ha b hb
  ·rw [jR.1 ha];exact h3 b hb
theorem jvv {l:List (List UInt8)} (h:Srt l):l.Nodup:=h.imp λ{x y} hxy e=>by subst e;exact jsF _ hxy
mutual
def jfH:T->List (List UInt8)
 | .mk n us=>(if kS n then [] else [n])++jcY us
def jcY:List T->List (List UInt8)
 | []=>[]
 | t::ts=>jfH t++jcY ts
end
theorem jjc (t:T):jfH t=(if kS t.name then [] else [t.name])++jcY t.args:=by cases t;rfl
theorem jvj (l:List (List UInt8)) (s:List UInt8) (hl:l.length<=2100000):∃r,G 126 [strs l,sv s]=some (strs r,[])/\jej l [s] 1 r/\(Srt l->Srt r):=by
 have key:=upto (P:=λi=>(Srt l-> ∀x∈l.take i,x < s)-> ∃r,jer (strs l) (sv s) (vi i)=some (strs r,[])/\jej l [s] 1 r/\(Srt l->Srt r)) (n:=l.length) ?_ ?_ 0 (zZ _)
 ·simp only [ya] at key;rw [jsd];exact key (by simp)
 ·intro hless;have hx:¬((l.length:Nat):Int) < ((l.length:Nat):Int):=Int.lt_irrefl _;have s1:zU 1 (strs l) none (some (vi (l.length:Nat)))=some (strs l):=by rw [JY (by simp),jdi (by simp)]
  have s2:zU 1 (strs l) (some (vi (l.length:Nat))) none=some (.sl 1 []):=by rw [jaG (by simp),jei (by simp)]
  have f1:Ji l.length 16=true:=ZY (by omega);have f2:Ji (l.length+1) 16=true:=ZY (by omega);have happ:Kb (Kb (l.map cs) [[sv s]]) []=(l++[s]).map cs:=by simp [Kb]
  have hlen:(Kb (l.map cs) [[sv s]]).length=l.length+1:=by simp [Kb]
  refine ⟨l++[s],?_,⟨by intro n;simp,by simp⟩,λh=> ?_⟩
  ·rw [jlY];simp only [jr,hx,s1,s2,f1,f2,hlen,happ,zJ]
  ·have:=jvb (s:=s) (i:=l.length) h (hless h) (λh=>absurd h (Nat.lt_irrefl _));simpa using this
 ·intro i hi ih hless;have hlt:(i:Int) < ((l.length:Nat):Int):=by omega
  have h5:=jB hi (by omega);rw [jlY];cases h1:sLt l[i] s
  ·by_cases h2:l[i]=s
   ·refine ⟨l,?_,⟨λn=>⟨λh=>Or.inl h,λh=>by
     rcases h with h|h
     ·exact h
     ·simp at h;rw [h,<-h2];exact zf _⟩,by omega⟩,id⟩
    rw [h2] at h1;simp only [jr,hlt,jb hi,h2,h1]
   ·have s1:zU 1 (strs l) none (some (vi i))=some (strs (l.take i)):=by rw [JY (by simp;omega),<-jm3]
    have s2:zU 1 (strs l) (some (vi i)) none=some (strs (l.drop i)):=by rw [jaG (by simp;omega),<-jrk]
    have ht:(l.take i).length=i:=by rw [jfv];omega
    have f1:Ji i 16=true:=ZY (by omega);have f2:Ji (i+1) 16=true:=ZY (by omega);have f3:Ji (i+1+(l.drop i).length) 16=true:=ZY (by rw [jph];omega);have happ:Kb (Kb ((l.take i).map cs) [[sv s]]) ((l.drop i).map cs)=(l.take i++[s]++l.drop i).map cs:=by simp [Kb]
    have hlen:(Kb ((l.take i).map cs) [[sv s]]).length=i+1:=by simp [Kb];omega
    refine ⟨l.take i++[s]++l.drop i,?_,⟨λn=> ?_,by simp;omega⟩,λh=> ?_⟩
    ·simp only [jr,hlt,jb hi,h1,h2,s1,s2,ht,f1,f2,f3,hlen,happ]
    ·have hm:n∈l↔n∈l.take i\/n∈l.drop i:=by rw [<-kH,jaR]
     simp only [kH,jR,hm];exact ⟨λh=>by rcases h with (h|h)|h<;>simp [h],λh=>by rcases h with (h|h)|h<;>simp [h]⟩
    ·rw [jwe,jiu] at h1;exact jvb h (hless h) λ_=>jxh h1 h2
  ·have hx:l[i] < s:=by rw [jwe,JP] at h1;exact h1
   obtain ⟨r,e,c⟩:=ih λh x hm=>by
    rw [jqh hi] at hm;rcases kH.1 hm with hm|hm
    ·exact hless h x hm
    ·rw [jR.1 hm];exact hx
   refine ⟨r,?_,c⟩;simp only [jr,hlt,jb hi,h1,h5,e]
theorem jsX:∀t:T,qB t-> ∀l:List (List UInt8),l.length+nodes t<=2100000-> ∃r,G 118 [strs l,tm t]=some (strs r,[])/\jej l (jfH t) (nodes t) r/\(Srt l->Srt r):=by
 refine T.ind λt ih hw l hb=> ?_;obtain ⟨w1,w2,w3⟩:=(j5 t).1 hw;have w3:=(jC _).1 w3;have e1:=Kt t.name w1;rw [jyg,jjc];rw [jS] at hb ⊢;have key:=upto (P:=λi=>∀l:List (List UInt8),l.length+jE (t.args.drop i)<=2100000-> ∃r,jtd (strs l) (vi i) (sv t.name) (zl t.args)=some (strs r,[])/\jej l (jcY (t.args.drop i)) (jE (t.args.drop i)) r/\(Srt l->Srt r)) (n:=t.args.length) ?_ ?_ 0 (zZ _)
 ·simp only [ya,kV] at key;cases hv:kS t.name<;>rw [hv] at e1
  ·obtain ⟨r0,e0,⟨b1,b2⟩,b3⟩:=jvj l t.name (by omega);obtain ⟨r,e,⟨c1,c2⟩,c3⟩:=key r0 (by omega);refine ⟨r,?_,⟨λn=> ?_,by omega⟩,λh=>c3 (b3 h)⟩
   ·simp only [jr,e1,e0,e]
   ·rw [c1,b1];simp only [ZP,KC,kH];exact jiv
  ·obtain ⟨r,e,⟨c1,c2⟩,c3⟩:=key l (by omega);refine ⟨r,?_,⟨by simpa using c1,by omega⟩,c3⟩;simp only [jr,e1,e]
 ·intro l hb;rw [jvT,zw];refine ⟨l,?_,⟨by simp [jcY],by omega⟩,id⟩;simp only [jr]
 ·intro i hi ih' l hb;have hlt:(i:Int) < ((t.args.length:Nat):Int):=by omega
  have h5:=jB hi w2;rw [jA hi] at hb ⊢;simp only [jE,jcY] at hb ⊢;obtain ⟨r1,a1,⟨c1,c2⟩,c3⟩:=ih t.args[i] (zf _) (w3 _ (zf _)) l (by omega);obtain ⟨r2,a2,⟨d1,d2⟩,d3⟩:=ih' r1 (by omega);rw [jvT];refine ⟨r2,?_,⟨λn=> ?_,by omega⟩,λh=>d3 (c3 h)⟩
  ·simp only [jr,hlt,jb hi,jg,a1,h5,a2]
  ·rw [d1,c1,kH];exact jiv
theorem juR {n:List UInt8} (h:kS n=true):Kz n=false:=by
 cases n with
 | nil=>rfl
 | cons c r=>
  simp only [kS,js,upc,Kh,JP] at h;have:QY c=false:=by unfold QY Kh;rw [Bool.and_eq_false_iff];left;rw [jiu];omega
  simp [Kz,this]
theorem juA {t:T} (h:KW t=true):Kz t.name=!kS t.name:=by
 obtain ⟨c,r,_,hv,hs⟩:=jl8 h;cases hx:kS t.name
 ·rw [hv] at hx;rw [hs hx];rfl
 ·rw [juR hx];rfl
def jtE (l vs:List (List UInt8)) (k:Nat) (r:List (List UInt8)):Prop:=jej l vs k r/\(l.Nodup->r.Nodup)
theorem jqk (ts:List T) (hl:ts.length<=9223372036854775807) (ih:∀t∈ts,∀l:List (List UInt8),l.length+nodes t<=2100000-> ∃r,jjI (sv t.name) (zl t.args) (l.map cs)=some (.top,[strs r])/\jtE l (jfH t) (nodes t) r) :
  ∀i,i<=ts.length-> ∀l:List (List UInt8),l.length+jE (ts.drop i)<=2100000-> ∃r,jrx (zl ts) (vi (ts.length:Nat)) (vi i) (l.map cs)=some (.top,[strs r])/\jtE l (jcY (ts.drop i)) (jE (ts.drop i)) r:=by
 refine upto ?_ ?_
 ·intro l hb;rw [juj,zw];refine ⟨l,?_,⟨by simp [jcY],by omega⟩,id⟩;simp only [jr]
 ·intro i hi ih' l hb;have hlt:(i:Int) < ((ts.length:Nat):Int):=by omega
  have h5:=jB hi hl;rw [jA hi] at hb ⊢;simp only [jE,jcY] at hb ⊢;obtain ⟨r1,e1,⟨c1,c2⟩,c3⟩:=ih ts[i] (zf _) l (by omega);obtain ⟨r2,e2,⟨d1,d2⟩,d3⟩:=ih' r1 (by omega);rw [juj];refine ⟨r2,?_,⟨λn=> ?_,by omega⟩,λh=>d3 (c3 h)⟩
  ·simp only [jr,hlt,jb hi,jg,e1,h5,e2]
  ·rw [d1,c1,kH];exact jiv
theorem jm7 (ts:List T) (hl:ts.length<=9223372036854775807) (ih:∀t∈ts,∀l:List (List UInt8),l.length+nodes t<=2100000-> ∃r,jjI (sv t.name) (zl t.args) (l.map cs)=some (.top,[strs r])/\jtE l (jfH t) (nodes t) r) (l:List (List UInt8)) (hb:l.length+jE ts<=2100000) :
  ∃r,jtg (zl ts) (vi (ts.length:Nat)) (vi 0) (l.map cs)=some (.top,[strs r])/\jtE l (jcY ts) (jE ts) r:=by
 have loop:=jqk ts hl ih;rw [jvV];by_cases h0:ts.length=0
 ·have ha:ts = []:=jm2.1 h0;rw [ha];refine ⟨l,?_,⟨by simp [jcY],by simp [jE]⟩,id⟩;simp only [jr];rfl
 ·have hi:0 < ts.length:=by omega
  have hlt:(0:Int) < ((ts.length:Nat):Int):=by omega
  have hix:jw 2 (zl ts) (vi 0)=some (.elt (jm ts[0]) 0):=jb (i:=0) hi;have h5:jD .add false (vi 0) (vi 1)=some (vi ((1:Nat):Int)):=by rw [Zu,qK (by decide) (by decide)];rfl
  have hd:ts=ts[0]::ts.drop 1:=by have:=jA hi;simpa using this
  have hns:jE ts=nodes ts[0]+jE (ts.drop 1):=by conv=>lhs;rw [hd,jE]
  have hvs:jcY ts=jfH ts[0]++jcY (ts.drop 1):=by conv=>lhs;rw [hd,jcY]
  obtain ⟨r1,e1,⟨c1,c2⟩,c3⟩:=ih ts[0] (zf _) l (by omega);obtain ⟨r2,e2,⟨d1,d2⟩,d3⟩:=loop 1 (by omega) r1 (by omega);refine ⟨r2,?_,⟨λn=> ?_,by omega⟩,λh=>d3 (c3 h)⟩
  ·simp only [jr,hlt,hix,jg,e1,h5,e2]
  ·rw [d1,c1,hvs,kH];exact jiv
theorem jsn:∀t:T,qB t->KW t=true-> ∀l:List (List UInt8),l.length+nodes t<=2100000-> ∃r,jjI (sv t.name) (zl t.args) (l.map cs)=some (.top,[strs r])/\jtE l (jfH t) (nodes t) r:=by
 refine T.ind λt ih hw hk l hb=> ?_;obtain ⟨w1,w2,w3⟩:=(j5 t).1 hw;have w3:=(jC _).1 w3;have hks:=yV hk;have e1:=jau t.name w1;have e2:=qF l t.name (by omega);rw [juA hk] at e1;rw [jxa,jjc];have ih':∀u∈t.args,∀l:List (List UInt8),l.length+nodes u<=2100000-> ∃r,jjI (sv u.name) (zl u.args) (l.map cs)=some (.top,[strs r])/\jtE l (jfH u) (nodes u) r:=λu hu=>ih u hu (w3 u hu) (hks u hu);rw [jS] at hb ⊢;cases hv:kS t.name<;>rw [hv] at e1
 ·cases hc:l.contains t.name<;>rw [hc] at e2
  ·have hn:¬t.name∈l:=by simpa using hc
   obtain ⟨r,e,⟨c1,c2⟩,c3⟩:=jqk t.args w2 ih' 0 (zZ _) (l++[t.name]) (by simp;omega)
   simp only [ya,kV,jaQ,jsz] at e c1 c2;have happ:Kb (l.map cs) [[sv t.name]]=(l++[t.name]).map cs:=by simp [Kb]
   have f1:Ji (l.length+1) 16=true:=ZY (by omega);refine ⟨r,?_,⟨λn=> ?_,by omega⟩,λh=>c3 ?_⟩
   ·simp only [jr,e1,e2,f1,happ,e]
   ·rw [c1];simp only [ZP,KC,kH];exact jiv
   ·exact z8.2 ⟨h,by simp,λa ha b hb e=>by rw [jR.1 hb] at e;rw [e] at ha;exact hn ha⟩
  ·have hn:t.name∈l:=by simpa using hc
   obtain ⟨r,e,⟨c1,c2⟩,c3⟩:=jm7 t.args w2 ih' l (by omega);refine ⟨r,?_,⟨λn=> ?_,by omega⟩,c3⟩
   ·simp only [jr,e1,e2,e]
   ·rw [c1];simp only [ZP,KC,kH,jR];exact ⟨λh=>by rcases h with h|h<;>simp [h],λh=>by
     rcases h with h|h|h
     ·exact Or.inl h
     ·exact Or.inl (h ▸ hn)
     ·exact Or.inr h⟩
 ·obtain ⟨r,e,⟨c1,c2⟩,c3⟩:=jm7 t.args w2 ih' l (by omega);refine ⟨r,?_,⟨by simpa using c1,by omega⟩,c3⟩;simp only [jr,e1,e]
theorem jv3 {n:Nat} (h:n<=4000000):Ji n 8=true:=by
 unfold Ji;simp;omega
theorem jwH (n:Nat) (h:n<=12):((jgB .u64 (jcp [[vi 1]])).bind λt2=>(jgB .u64 (vi n)).bind λt3=>(G 131 [t2,t3]).bind (fin false))=some (.tup [.val (.int .u64 0),.val (.int .u64 n)]):=by
 have c:(jgB .u64 (jcp [[vi 1]]))=some (.val (.int .u64 1)):=by kernel_rfl
 have d:jgB .u64 (vi n)=some (.val (.int .u64 n)):=by
  rcases n with _|_|_|_|_|_|_|_|_|_|_|_|_|n
  rotate_right
  ·omega
  all_goals kernel_rfl
 rw [c,d];simp only [QD];rw [jyl];simp only [cev];rw [jym];clear c d;rcases n with _|_|_|_|_|_|_|_|_|_|_|_|_|n
 rotate_right
 ·omega
 all_goals (show _=_;kernel_rfl)
theorem jvJ {α:Type} {a b:α} {i j k:Nat} (h:i<=k):(List.replicate i a++List.replicate j b).drop k=List.replicate (j - (k - i)) b:=by
 rw [List.drop_append,List.drop_replicate,List.drop_replicate,YR,show i - k=0 by omega];rfl
theorem jv8 {n:Nat} (hn:n<=12) (r1:List (List A)):∀(f j:Nat),n - j<=f->1<=j->j<=n->
  jry (vi (j:Nat)) (List.replicate j [vi 1]++List.replicate (n - j) [vi 0]) r1=some (.top,[.sl 1 (List.replicate n [vi 1])]):=by
 intro f;induction f with
 | zero=>
  intro j h1 h2 h3;have:j=n:=by omega
  subst this;rw [jrB];simp only [jr,jaQ,YR,jmZ,List.replicate_zero,qO]
 | succ f ih=>
  intro j h1 h2 h3;by_cases hj:j=n
  ·subst hj;rw [jrB];simp only [jr,jaQ,YR,jmZ,List.replicate_zero,qO]
  ·rw [jrB];simp only [cev];have hl:(List.replicate j [vi 1]++List.replicate (n - j) [vi 0]).length=n:=by simp;omega
   have e1:decide ((j:Int) < (n:Int))=true:=by simp;omega
   have hm:j+min j (n - j)<=n:=by omega
   have e2:jD .add false (vi j) (vi (min j (n - j):Nat))=some (vi (j+min j (n - j):Nat)):=by
    rw [Zu,qK (by omega) (by omega)];rfl
   have ew:(((List.replicate j [vi 1]++List.replicate (n - j) [vi 0]).drop 0).take j)=List.replicate j [vi 1]:=by
    rw [kV,jcR (by simp),jdi (by simp)]
   have eo:Zc (List.replicate j [vi 1]++List.replicate (n - j) [vi 0]) (0+j) ((List.replicate j [vi 1]).take (n - j))=List.replicate (j+min j (n - j)) [vi 1]++List.replicate (n - (j+min j (n - j))) [vi 0]:=by
    rw [juu,J3,jcR (by simp),jdi (by simp),List.take_replicate,YR,jvJ]
    ·rw [List.replicate_append_replicate,Nat.min_comm (n - j) j];congr 2;omega
    ·omega
   have key:=ih (j+min j (n - j)) (by omega) (by omega) hm;simp only [jn2,ju7,jwF,hl,jmf,QD,jmj,e1,jlj,jpi,jtr (jV n),jv1 h3,jwG,jt3,ew,ju8,juv,YR,e2,eo,key]
theorem jxk {n:Nat} (h:n<=12):juH (vi (n:Nat)) [[vi 1]]=some (.top,[.sl 1 (List.replicate n [vi 1])]):=by
 rw [jxb];simp only [cev];have e0:decide ((n:Int) < 0)=false:=by simp
 have em:=jwH n h;have eg:decide ((0:Int) < 0)=false:=by simp
 have ec:jgB .i64 (A.val (.int .u64 n))=some (vi n):=qK (by omega) (by omega);have ek:jD .gtr false (A.val (.int .u64 n)) (A.val (.int .u64 9223372036854775807))=some (vb false):=by
  show some (vb (decide ((9223372036854775807:Int) < n)))=_;rw [jee (by omega)]
 have ek0:jD .gtr false (A.val (.int .u64 0)) (A.val (.int .u64 0))=some (vb false):=rfl;have emk:jaF 8 (vi n) (vi n)=some n:=by
  show (if jpk 8 (n:Int) (n:Int) then some (n:Int).toNat else none)=_;rw [jq ⟨by omega,by omega,by omega,by omega⟩];rfl
 have hm:∀(k:A->A->Option Out),((jgB .u64 (jcp [[vi 1]])).bind λt2=>(jgB .u64 (vi n)).bind λt3=>((G 131 [t2,t3]).bind (fin false)).bind λt4=>(jci t4 0).bind λt5=>(jci t4 1).bind λt6=>k t5 t6) =
   k (.val (.int .u64 0)) (.val (.int .u64 n)):=by
  intro k;have:((jgB .u64 (jcp [[vi 1]])).bind λt2=>(jgB .u64 (vi n)).bind λt3=>((G 131 [t2,t3]).bind (fin false)).bind λt4=>(jci t4 0).bind λt5=>(jci t4 1).bind λt6=>k t5 t6) =
    (((jgB .u64 (jcp [[vi 1]])).bind λt2=>(jgB .u64 (vi n)).bind λt3=>(G 131 [t2,t3]).bind (fin false)).bind λt4=>(jci t4 0).bind λt5=>(jci t4 1).bind λt6=>k t5 t6):=by
   simp only [Option.bind_assoc]
  rw [this,em];rfl
 rw [jmf,e0];simp only [QD,jmj,jjV];rw [hm];simp only [ek0,ek,QD,jq7,yf,jmp,ZP,KC,jmj,jjV,ec,emk,Q1,ju7,YR];rcases n with _|n
 ·have e1:jso [[vi 1]] 0=vi ((0:Nat):Int):=rfl;have e2:Zc (List.replicate 0 [vi 0]) 0 (jra [[vi 1]] 0) = []:=rfl;rw [e1,e2,jrB];rfl
 ·have key:=jv8 (n:=n+1) h [[vi 1]] (n+1) 1 (by omega) (by omega) (by omega);have e1:jso [[vi 1]] (n+1)=vi ((1:Nat):Int):=by
   rw [ju8];have:min [[vi 1]].length (n+1)=1:=by simp
   rw [this]
  have e2:Zc (List.replicate (n+1) [vi 0]) 0 (jra [[vi 1]] (n+1))=List.replicate 1 [vi 1]++List.replicate (n+1 - 1) [vi 0]:=by
   rw [juu,juv];simp [JQ]
  rw [e1,e2];exact key
theorem jtw {ts:List T} {n:List UInt8} :n∈jcY ts↔ ∃t∈ts,n∈jfH t:=by
 induction ts with
 | nil=>simp [jcY]
 | cons t ts ih=>simp [jcY,ih]
theorem jtV:∀t:T,KW t=true-> ∀n∈jfH t,Kz n=true:=by
 refine T.ind λt ih hk n hn=> ?_;rw [jjc,kH] at hn;rcases hn with hn|hn
 ·cases hv:kS t.name<;>rw [hv] at hn
  ·simp at hn;rw [hn,juA hk,hv];rfl
  ·simp at hn
 ·obtain ⟨u,hu,hm⟩:=jtw.1 hn;exact ih u hu (yV hk u hu) n hm
theorem juc (l:List (List UInt8)):∀t:T,(∀n∈jfH t,n∈l)->y9 l t=true:=by
 refine T.ind λt ih h=> ?_;rw [jjc] at h;rw [yR,Kr,js];refine ⟨?_,qg.2 λu hu=>ih u hu λn hn=>h n (jfo _ (jtw.2 ⟨u,hu,hn⟩))⟩;cases hv:kS t.name
 ·rw [hv] at h;rw [jZ];exact jsB.2 (h t.name (by simp))
 ·rfl
def jtv (r:List (List UInt8)):Ord':=⟨r,List.replicate r.length 1,1⟩
theorem jvC {r:List (List UInt8)} (h1:1<=r.length) (h2:r.length<=12) (hs:∀n∈r,Kz n=true) (hn:r.Nodup):kL (jtv r)=true:=by
 have hb:Kh 1 12 (r.length:Nat)=true:=by unfold Kh;rw [js,JP,JP];omega
 unfold kL jtv;simp only [hb,YR,decide_true,jQ,js];refine ⟨by decide,qg.2 λi hi=> ?_⟩;have hi:i < r.length:=List.mem_range.1 hi;have g1:r.getD i []=r[i]:=by simp [jU,hi]
 have g2:(List.replicate r.length (1:Int)).getD i 0=1:=by simp [jU,hi]
 unfold jfP;simp only [g1,g2,hs _ (zf _),jQ,js];refine ⟨?_,by decide⟩;rw [KD,<-Bool.not_eq_true,jsB];intro hm;obtain ⟨j,hj,e⟩:=List.mem_take_iff_getElem.1 hm;have:=(jsI.1 hn);have:=jsJ.1 this j i (by omega) hi (by omega);exact this e
theorem jwk {n:List UInt8} (h:Kz n=true):n.length<=6:=by
 cases n with
 | nil=>simp
 | cons c r=>
  simp only [Kz,js,JP] at h;simp only [qf];omega
theorem jth (o:Ord') (s t:T) (hw:qB s) (hw':qB t) (x y:Bool) (e5:G 67 [od o,tm s,tm t]=some (vb x,[])) (e6:G 67 [od o,tm t,tm s]=some (vb y,[])):G 34 [od o,tm s,tm t]=some (vi (Yc (dq s t) x y),[]):=by
 have e4:=Ye s hw t hw';have c1:G 66 [.elt (jce o) 0,.elt [sv s.name,.sl 2 (s.args.map jm)] 0,.elt [sv t.name,.sl 2 (t.args.map jm)] 0]=some (vb x,[]):=by
  rw [g66];simp only [jr,jgC,jgD,e5]
 have c2:G 68 [.elt (jce o) 0,.elt [sv t.name,.sl 2 (t.args.map jm)] 0,.elt [sv s.name,.sl 2 (s.args.map jm)] 0]=some (vb y,[]):=by
  rw [g68];simp only [jr,jgC,jgD,e6]
 have e7:=jhT (f:=66) (g:=68) rfl rfl (dq s t) _ _ c1 c2;rw [g34];simp only [jr,e4,e7]
theorem jjy {t:T} (hk:KW t=true) (hv:kS t.name=true):t.args = []:=by
 rw [YB,hv,jq rfl] at hk;exact jfl.1 hk
theorem jud (o:Ord') (s t:T) (hw:qB s) (hw':qB t) (hk:KW s=true) (hk':KW t=true) (hv:kS s.name=true) (hv':kS t.name=true) (hne:¬s.name=t.name):G 67 [od o,tm s,tm t]=some (vb false,[]):=by
 have as_:=jjy hk hv;have at_:=jjy hk' hv';have ns:nodes s<=1048577:=by rw [jS,as_];simp [jE]
 have nt:nodes t<=1048577:=by rw [jS,at_];simp [jE]
 obtain ⟨r,er,c1,c2⟩:=jfj t hw' hk' nt;have hvt:Ja t = [t.name]:=by rw [QC,jq hv']
 have hpos:0 < r.length:=by
  rcases Nat.eq_zero_or_pos r.length with h|h
  ·have hr:r = []:=jm2.1 h;have:=(c1 t.name).2 (by rw [hvt];simp);rw [hr] at this;cases this
  ·exact h
 have h0:r[0]=t.name:=by
  have:=(c1 r[0]).1 (zf _);rw [hvt] at this;simpa using this
 have hlt:(0:Int) < ((r.length:Nat):Int):=by omega
 have hix:jw 1 (strs r) (vi 0)=some (.elt (cs t.name) 0):=by have:=jb (k:=1) (f:=cs) (i:=0) hpos;rw [h0] at this;exact this
 have a1:=Y4 t.name s hw ns;have a2:=Y4 t.name t hw' nt;have k1:cnt t.name s=0:=by rw [jeA,as_,jp hne];simp [JR]
 have k2:cnt t.name t=1:=by rw [jeA,at_];simp [JR]
 rw [k1] at a1;rw [k2] at a2;have h':((0:Nat):Int) < ((1:Nat):Int):=by omega
 rw [g67];simp only [jr,er];rw [joV];simp only [jr,hlt,hix,a1,a2,h']
theorem jwg (a b:T) (r:List (List UInt8)) (hr:r.length<=12) (x:Int) (ok:Bool) (e:G 119 [.agg [strs r,.sl 1 (List.replicate r.length [vi 1]),vi 1],tm a,tm b]=some (.tup [vi x,vb ok],[])) :
  jt6 (vi 0) (sv a.name) (zl a.args) (sv b.name) (zl b.args) (strs r) (vi 1) []=some (vi (if ok then x else 0),[]):=by
 have key:=upto (P:=λi=>jt6 (vi i) (sv a.name) (zl a.args) (sv b.name) (zl b.args) (strs r) (vi 1) (List.replicate i [vi 1])=some (vi (if ok then x else 0),[])) (n:=r.length) ?_ ?_ 0 (zZ _)
 ·simpa using key
 ·rw [jwS];have hf:fin true (A.tup [vi x,vb ok],[])=some (A.tup [vi x,vb ok]):=rfl;cases ok
  ·simp only [jr,e,hf]
  ·simp only [jr,e,hf]
 ·intro i hi ih;have hlt:(i:Int) < ((r.length:Nat):Int):=by omega
  have h5:=jB hi (by omega);have f1:Ji (i+1) 8=true:=jv3 (by omega);have happ:Kb (List.replicate i [vi 1]) [[vi 1]]=List.replicate (i+1) [vi 1]:=by rw [List.replicate_succ'];rfl
  have hlen:(List.replicate i ([vi 1]:List A)).length=i:=YR;rw [jwS];simp only [jr,hlt,hlen,f1,h5,happ,ih]
theorem jxg {o:Ord'} (hv:kL o=true) {s t:T} (ks:KW s=true) (hc:y9 o.syms t=true) (h:Kp o s t):kS s.name=false:=by
 cases hs:kS s.name with
 | false=>rfl
 | true=>
  obtain ⟨_,h⟩:=(jek o s t).1 h;rcases h with h|⟨_,h,_⟩
  ·have:=jxq hv hc;rw [jmX o s,jjy ks hs,hs,jq rfl] at h;simp only [wtL] at h;omega
  ·rw [hs] at h;cases h.1
theorem jv0 (a b:T) (hw:qB a) (hw':qB b) (hs:tsz a<=1048576) (hs':tsz b<=1048576) (hva:jqd a=true) (hvb:jqd b=true) :
  ∃x:Int,G 97 [tm a,tm b]=some (vi x,[])/\G 107 [tm a,tm b]=some (vi x,[])/\(x=2->kS a.name=false):=by
 have hk:KW a=true:=by unfold jqd at hva;rw [js] at hva;exact hva.2
 have hk':KW b=true:=by unfold jqd at hvb;rw [js] at hvb;exact hvb.2
 have na:nodes a<=30:=by simp only [jqd,JH,js,JP] at hva;exact hva.1.1
 have nb:nodes b<=30:=by simp only [jqd,JH,js,JP] at hvb;exact hvb.1.1
 have e1:=jj9 a hw b hw';have e2:=Ye a hw b hw';rw [g97,jyf];cases hd:dq a b<;>rw [hd] at e1 e2
 rotate_left
 ·exact ⟨1,by simp only [jr,e1],by simp only [jr,e2],λh=>absurd h (by decide)⟩
 obtain ⟨r1,f1,⟨c1,c2⟩,c3⟩:=jsX a hw [] (by simp;omega)
 obtain ⟨r,f2,⟨d1,d2⟩,d3⟩:=jsX b hw' r1 (by simp at c2;omega)
 have hsrt:Srt r:=d3 (c3 List.Pairwise.nil);have hmem:∀n,n∈r↔n∈jfH a\/n∈jfH b:=λn=>by rw [d1,c1];simp
 have hlen:r.length<=60:=by simp at c2;omega
 have f1:G 118 [.sl 1 [],tm a]=some (strs r1,[]):=f1;obtain ⟨p1,g1,⟨i1,i2⟩,i3⟩:=jsn a hw hk [] (by simp;omega);obtain ⟨p,g2,⟨j1,j2⟩,j3⟩:=jsn b hw' hk' p1 (by simp at i2;omega);have hnd:p.Nodup:=j3 (i3 jfq);have hpm:∀n,n∈p↔n∈jfH a\/n∈jfH b:=λn=>by rw [j1,i1];simp
 have hsort:zP p=r:=jva _ _ (jwf hnd) hsrt λn=>by rw [hmem,<-hpm];unfold zP;exact List.mem_mergeSort
 have hpl:p.length=r.length:=by rw [<-hsort];simp [zP]
 have g1:jjI (sv a.name) (zl a.args) []=some (.top,[strs p1]):=g1;have g3:jhg (p.map cs)=some (.top,[strs r]):=by
  rw [jpw];simp only [jgW,jcD];rw [jq (by omega),hsort]
 by_cases h12:r.length<=12;rotate_left
 ·have hgt:((12:Nat):Int) < ((r.length:Nat):Int):=by omega
  have hle:¬((r.length:Nat):Int)<=12:=by omega
  have hgt:(12:Int) < ((r.length:Nat):Int):=by omega
  have hz:¬((r.length:Nat):Int)=0:=by omega
  refine ⟨0,?_,?_,λh=>absurd h (by decide)⟩
  ·simp only [jr,e1,f1,f2,hz,hle,hgt]
  ·simp only [jr,e2,g1,g2,hpl,hle,hgt]
 have hle:((r.length:Nat):Int)<=12:=by omega
 have hgt:¬(12:Int) < ((r.length:Nat):Int):=by omega
 have hrep:=jxk h12;have hci:(ints (List.replicate r.length 1):A) = .sl 1 (List.replicate r.length [vi 1]):=by show A.sl 1 _=_;rw [List.map_replicate]
 have hod:(od (jtv r):A) = .agg [strs r,.sl 1 (List.replicate r.length [vi 1]),vi 1]:=by rw [<-hci];rfl
 by_cases h0:r.length=0
 ·have hr:r = []:=jm2.1 h0;have hz:((r.length:Nat):Int)=0:=by omega
  have va:kS a.name=true:=by
   cases hv:kS a.name
   ·have:=(hmem a.name).2 (Or.inl (by rw [jjc,hv];simp))
    rw [hr] at this;cases this
   ·rfl
  have vb':kS b.name=true:=by
   cases hv:kS b.name
   ·have:=(hmem b.name).2 (Or.inr (by rw [jjc,hv];simp))
    rw [hr] at this;cases this
   ·rfl
  have hne:¬a.name=b.name:=λe=>by
   rw [jqN,e,jjy hk va,jjy hk' vb',ji1] at hd;simp at hd
  have q:=jth (jtv r) a b hw hw' false false (jud _ a b hw hw' hk hk' va vb' hne) (jud _ b a hw' hw hk' hk vb' va (λe=>hne e.symm));rw [hd,hod] at q;refine ⟨0,?_,?_,λh=>absurd h (by decide)⟩
  ·simp only [jr,e1,f1,f2,hz]
  ·simp only [jr,e2,g1,g2,hpl,hle,hgt,g3,hrep,q,Yc]
 have hsym:∀n∈r,Kz n=true:=λn hn=>by
  rcases (hmem n).1 hn with h|h
  ·exact jtV a hk n h
  ·exact jtV b hk' n h
 have hval:=jvC (by omega) h12 hsym (jvv hsrt);have hca:y9 (jtv r).syms a=true:=juc _ a λn hn=>(hmem n).2 (Or.inl hn);have hcb:y9 (jtv r).syms b=true:=juc _ b λn hn=>(hmem n).2 (Or.inr hn);have howf:owf (jtv r):=by
  refine ⟨⟨λs hs=> ?_,by show r.length<=_;omega⟩,⟨λx hx=> ?_,by show (List.replicate r.length (1:Int)).length<=_;rw [YR];omega⟩,by show I64 1;exact ⟨by decide,by decide⟩⟩
  ·have:=jwk (hsym s hs);omega
  ·have:x=1:=by have:=jcQ hx;exact this
   rw [this];exact ⟨by decide,by decide⟩
 have q1:=jsZ (jtv r) a b howf hw hs hw' hs';have q2:=jaU hval a b howf hw hs hw' hs' hk hk' hca hcb;have q3:jpB (jtv r) a b = .tup [vi (kW (jtv r) a b),vb true]:=by unfold jpB jlI;rw [hval,hva,hvb,hca,hcb];rfl
 rw [q3,hod] at q1;rw [hod] at q2;have q4:=jwg a b r h12 _ _ q1;have hz:¬((r.length:Nat):Int)=0:=by omega
 refine ⟨kW (jtv r) a b,?_,?_,λh=>jxg hval hk hcb ((jje _ _ _).1 h)⟩
 ·simp only [jr,e1,f1,f2,hz,hgt,hle,q4]
 ·simp only [jr,e2,g1,g2,hpl,hle,hgt,g3,hrep,q2]
theorem jvI {ts:List T} {t:T} (h:t∈ts):dep t<=jaV ts:=by
 induction ts with
 | nil=>cases h
 | cons u us ih=>
  simp only [jaV];rcases jH.1 h with h|h
  ·subst h;omega
  ·have:=ih h;omega
theorem jtU {t u:T} (h:u∈t.args) (hs:JH t=true):JH u=true:=by
 simp only [JH,js,JP] at hs ⊢;have h1:=yj h;have h2:=jvI h;rw [jS,jht] at hs;omega
theorem jpa (t:T) (hs:Tz t) (he:¬t.name = [61]):G 51 [tm t]=some (vb (Kz t.name && jqd t),[]):=by
 have e1:=jay t.name ((j5 t).1 hs.wf).1;have e2:=jhV t hs.wf hs;rw [g51];cases h:Kz t.name<;>rw [h] at e1
 ·simp only [jr,he,e1,jK]
 ·simp only [jr,he,e1,e2,jQ]
theorem jvK {t:T} (h:jc5 t=true):t.args.length=2/\Vs (jcZ t)/\Vs (jsi t)/\JH t=true:=by
 have h':=h;unfold jc5 at h;rw [js,js,js,JP] at h;obtain ⟨h1,h2,h3,h4⟩:=h;obtain ⟨_,_,ma,mb⟩:=Jn h1;have hn:nodes t<=30:=by simp only [JH,js,JP] at h2;exact h2.1
 exact ⟨h1,⟨h3,by have:=ji3 ma;show nodes (kT t)<=30;omega⟩,⟨h4,by have:=ji3 mb;show nodes (ze t)<=30;omega⟩,h2⟩
theorem jwJ (t:T) (hs:Tz t):∃b:Bool,G 69 [tm t]=some (vb b,[])/\G 76 [tm t]=some (vb b,[])/\(b=true->t.name = [61]/\jc5 t=true/\kS (jcZ t).name=false):=by
 have hw:=hs.wf;obtain ⟨w1,w2,w3⟩:=(j5 t).1 hw;have w3:=(jC _).1 w3;have q0:=Ka t;by_cases he:t.name = [61];rotate_left
 ·have e1:=jpa t hs he;rw [jee he] at q0;refine ⟨false,?_,?_,λh=>by cases h⟩
  ·rw [g69];cases h1:(Kz t.name && jqd t)<;>rw [h1] at e1<;>simp only [jr,he,e1]
  ·rw [g76];simp only [jr,q0]
 ·have e1:=jhK t hw hs he;have e2:=jaY t hw hs he;rw [ZO he] at q0;have het:(t.name = [61])=True:=jm0 he;rw [g69,g76];cases h:jc5 t<;>rw [h] at e1 e2
  ·exact ⟨false,by simp only [jr,e1],by simp only [jr,q0,e2],λh=>by cases h⟩
  ·obtain ⟨h1,v1,v2,hsm⟩:=jvK h;obtain ⟨i0,i1,ma,mb⟩:=Jn h1;have va:jqd (kT t)=true:=by unfold jqd;rw [jtU ma hsm];exact v1.1
   have vb':jqd (ze t)=true:=by unfold jqd;rw [jtU mb hsm];exact v2.1
   obtain ⟨x,o1,o2,o3⟩:=jv0 (kT t) (ze t) (w3 _ ma) (w3 _ mb) v1.tz v2.tz va vb';refine ⟨decide (x=2),?_,?_,λhx=>⟨he,rfl,o3 (jjN hx)⟩⟩
   ·simp only [jr,e1,het,i0,i1,jg,o1]
   ·simp only [jr,q0,e2,i0,i1,jg,o2]
theorem jwb (rs:List T) (hl:rs.length<=1048576) (hs:∀r∈rs,Tz r):∃b:Bool,G 41 [zl rs]=some (vb b,[])/\G 45 [zl rs]=some (vb b,[])/\(b=true->RS rs/\ ∀r∈rs,r.name = [61]/\jc5 r=true/\kS (jcZ r).name=false):=by
 obtain ⟨p,hp⟩:=Classical.axiomOfChoice (r:=λ(t:T) (b:Bool)=>Tz t->G 69 [tm t]=some (vb b,[])/\G 76 [tm t]=some (vb b,[])/\(b=true->t.name = [61]/\jc5 t=true/\kS (jcZ t).name=false)) λt=>by
  by_cases h:Tz t
  ·obtain ⟨b,hb⟩:=jwJ t h;exact ⟨b,λ_=>hb⟩
  ·exact ⟨false,λh'=>absurd h' h⟩
 have hp:∀r∈rs,G 69 [tm r]=some (vb (p r),[])/\G 76 [tm r]=some (vb (p r),[])/\(p r=true->r.name = [61]/\jc5 r=true/\kS (jcZ r).name=false):=λr hr=>hp r (hs r hr);refine ⟨decide (rs.length<=10) && rs.all p,?_,?_,λh=> ?_⟩
 ·have key:=upto (P:=λi=>juT (zl rs) (vi i)=some (vb (decide (rs.length<=10) && (rs.drop i).all p),[])) (n:=rs.length) ?_ ?_ 0 (zZ _)
  ·rw [g41];exact key
  ·rw [jwQ,zw];have e:decide (((rs.length:Nat):Int)<=10)=decide (rs.length<=10):=by
    by_cases h:rs.length<=10
    ·rw [ZO h,ZO (by omega)]
    ·rw [jee h,jee (by omega)]
   simp only [jr,e]
  ·intro i hi ih;have hlt:(i:Int) < ((rs.length:Nat):Int):=by omega
   have h5:=jB hi (by show rs.length<=9223372036854775807;omega)
   obtain ⟨e1,_,_⟩:=hp rs[i] (zf _);rw [jwQ,jA hi,zk];cases h:p rs[i]<;>rw [h] at e1
   ·simp only [jr,hlt,jb hi,jg,e1,jK,kM]
   ·simp only [jr,hlt,jb hi,jg,e1,h5,ih,jQ]
 ·have e1:=Zk (f:=75) (caps:=[]) rfl (λr=> !p r) rs (by show rs.length<=9223372036854775807;omega) λr hr=>by
   obtain ⟨_,e2,_⟩:=hp r hr;rw [g75];simp only [jr,e2]
  rw [jai] at e1;rw [g45];by_cases h:rs.length<=10
  ·have h':((rs.length:Nat):Int)<=10:=by omega
   simp only [jr,h,h',e1,jQ,Bool.not_not]
  ·have h':¬((rs.length:Nat):Int)<=10:=by omega
   simp only [jr,h,h',jK]
 ·rw [js,JP,qg] at h;refine ⟨⟨h.1,λr hr=> ?_⟩,λr hr=>(hp r hr).2.2 (h.2 r hr)⟩;obtain ⟨_,h2,_⟩:=(hp r hr).2.2 (h.2 r hr);obtain ⟨q1,q2,q3,_⟩:=jvK h2;exact ⟨q1,q2,q3⟩
theorem juO {rs:List T} (hr:RS rs):∀(t:T) (root:Bool) {u:T},EX root t->jda rs root t=some u->nodes u<=nodes t+900:=by
 refine T.ind (p:=λt=>∀(root:Bool) {u:T},EX root t->jda rs root t=some u->nodes u<=nodes t+900) λt ih=> ?_;intro root u h ho;have hL:∀(us:List T) {us':List T},(∀u∈us,∀u',jda rs true u=some u'->nodes u'<=nodes u+900)->jdJ rs us=some us'->jE us'<=jE us+900:=by
  intro us;induction us with
  | nil=>intro us' _ h;simp [jdJ] at h
  | cons v vs ih2=>
   intro us' hv h;rw [jdJ] at h;split at h
   ·rename_i v' hv';cases h;have:=hv v (by simp) _ hv';simp only [jE];omega
   ·rw [kC] at h;obtain ⟨r,h3,rfl⟩:=h;have:=ih2 (λw hw=>hv w (by simp [hw])) h3;simp only [jE];omega
 rw [jkW] at ho;split at ho
 ·rename_i us hus;cases ho;have:=hL t.args (λv hv u' hu'=>by
   have hw:=h.2.1 v hv;exact ih v hv true ⟨⟨by have:=hw.2;omega,hw.tz⟩,hw.args,λ_=>hw⟩ hu') hus
  rw [jS t];show 1+jE us<=_;omega
 ·cases root with
  | false=>cases ho
  | true=>
   have:=(jwa hr (h.2.2 rfl) ho).2;omega
def EX' (root:Bool) (t:T):Prop:=EX root t/\(root=false->t.name = [61]/\t.args.length=2)
theorem jwA {us:List T} (h:∀u∈us,KW u=true):ZI us<=10 * jE us:=by
 induction us with
 | nil=>simp [ZI]
 | cons u us ih=>
  have:=jt4 u (h u (by simp));have:=ih λw hw=>h w (by simp [hw]);simp only [ZI,jE];omega
theorem jrC {t:T} (h:KW t=true):¬t.name = [61]:=λe=>by
 rw [YB,e] at h;exact absurd h (by
  rw [show kS [61]=false from by decide,jp jcV,show Kz [61]=false from by decide];simp)
theorem juW {t:T} (ht:Tz t) (h:KW t=true\/(t.name = [61]/\t.args.length=2/\ ∀u∈t.args,KW u=true)):G 40 [tm t]=some (vb (JH t),[]):=by
 have e2:=jhV t ht.wf ht;rw [g40];rcases h with h|⟨h1,h2,h3⟩
 ·have hv:jqd t=JH t:=by unfold jqd;rw [h,YM]
  rw [hv] at e2;have e1:=jpa t ht (jrC h);rw [hv] at e1;cases hs:JH t<;>rw [hs] at e1 e2
  ·rw [kM] at e1;simp only [jr,e1,e2]
  ·simp only [jr,e2]
 ·have hk:KW t=false:=by
   cases hk:KW t with
   | false=>rfl
   | true=>exact absurd h1 (jrC hk)
  have hv:jqd t=false:=by unfold jqd;rw [hk,kM]
  rw [hv] at e2;have e1:=jhK t ht.wf ht h1;obtain ⟨_,_,ma,mb⟩:=Jn h2;have he:jc5 t=JH t:=by unfold jc5;rw [ZO h2,h3 _ ma,h3 _ mb];simp
  rw [he] at e1;simp only [jr,e1,e2]
theorem jkX {rs:List T} (hr:RS rs) {root:Bool} {t u:T} (h:EX' root t) (ho:jda rs root t=some u):Tz u/\(JH u=true->EX' root u)/\G 40 [tm u]=some (vb (JH u),[]):=by
 have hn:=juO hr t root h.1 ho;have ht:=h.1.1.1;cases root with
 | true=>
  have hk:=ju5 hr.ok t (h.1.2.2 rfl).1 ho;have hz:Tz u:=by have:=jt4 u hk;unfold Tz;omega
  refine ⟨hz,λhs=> ?_,juW hz (Or.inl hk)⟩;have hv:Vs u:=⟨hk,by simp only [JH,js,JP] at hs;exact hs.1⟩;exact ⟨⟨⟨by have:=hv.2;omega,hz⟩,hv.args,λ_=>hv⟩,λh=>by cases h⟩
 | false=>
  obtain ⟨n1,n2⟩:=h.2 rfl;rw [jkW] at ho;split at ho;rotate_left
  ·cases ho
  rename_i us hus;cases ho;obtain ⟨g1,g2⟩:=jro hus;have hk:∀v∈us,KW v=true:=g2 (λv=>KW v=true) (λv hv=>(h.1.2.1 v hv).1) λv hv u' hu'=>ju5 hr.ok v (h.1.2.1 v hv).1 hu';have hz:Tz (.mk t.name us):=by
   have:=jwA hk;have e:nodes (.mk t.name us)=1+jE us:=rfl;unfold Tz;rw [jxo,n1,g1,n2];simp only [qf,jed];omega
  refine ⟨hz,λhs=> ?_,juW hz (Or.inr ⟨n1,g1.trans n2,hk⟩)⟩;have hns:nodes (.mk t.name us)<=30:=by simp only [JH,js,JP] at hs;exact hs.1
  refine ⟨⟨⟨by omega,hz⟩,λv hv=>⟨hk v hv,?_⟩,λh=>by cases h⟩,λ_=>⟨n1,g1.trans n2⟩⟩;have:=ji3 (t:= .mk t.name us) hv;omega
def jvs (o:Option (T × Nat)):Option Out:=match o with|some r=>some (.tup [tm r.1,vi (r.2:Nat),vb true],[])|none=>some (.tup [.agg [sv [],.sl 2 []],vi 0,vb false],[])
theorem jvu (rs:List T) (hr:RS rs) (root:Bool):∀(k n:Nat),k+n=51->1<=k-> ∀t:T,EX' root t->jt5 (zl rs) (vb root) (vi (n:Nat)) (sv []) (sv t.name) (zl t.args) []=jvs (rwN rs root k n t):=by
 intro k;induction k with
 | zero=>intro n _ h;omega
 | succ k ih=>
  intro n hk _ t ht;have e1:=jvr rs hr root t ht.1;rw [jxG,rwN];cases ho:jda rs root t with
  | none=>
   rw [ho] at e1;have e1:G 70 [tm t,zl rs,vb root]=some (.tup [tm t,vb false],[]):=e1;show _=some (A.tup [tm t,vi (n:Nat),vb true],[]);simp only [jr,e1]
  | some u=>
   rw [ho] at e1;have e1:G 70 [tm t,zl rs,vb root]=some (.tup [tm u,vb true],[]):=e1;obtain ⟨hu,hs,hA⟩:=jkX hr ht ho;have e2:G 40 [tm u]=some (vb (JH u),[]):=hA;by_cases h50:n=50
   ·have hk0:k=0:=by omega
    have hn:((n:Nat):Int)=50:=by omega
    show _=jvs (if k=0\/JH u=false then none else rwN rs root k (n+1) u);rw [jq (Or.inl hk0)];show _=some (A.tup [.agg [sv [],.sl 2 []],vi 0,vb false],[]);simp only [jr,e1,hn]
   ·have hn:¬((n:Nat):Int)=50:=by omega
    have hk0:¬k=0:=by omega
    show _=jvs (if k=0\/JH u=false then none else rwN rs root k (n+1) u);cases hsm:JH u with
    | false=>
     rw [hsm] at e2;rw [jq (Or.inr rfl)];show _=some (A.tup [.agg [sv [],.sl 2 []],vi 0,vb false],[]);simp only [jr,e1,hn,e2]
    | true=>
     rw [hsm] at e2;rw [jp (by simp [hk0])];have h5:ck ((n:Int)+1)=some (vi ((n+1:Nat):Int)):=qK (by omega) (by omega);have:=ih (n+1) (by omega) (by omega) u (hs hsm);rw [<-this];simp only [jr,e1,hn,e2,h5]
theorem jwI (rs:List T) (hr:RS rs) (root:Bool) (t:T) (ht:EX' root t):G 42 [tm t,zl rs,vb root]=jvs (rwN rs root 51 0 t):=by
 have e1:=jhW t ht.1.1.2;have:=jvu rs hr root 51 0 rfl (by decide) t ht;have:jt5 (zl rs) (vb root) (vi 0) (sv []) (sv t.name) (zl t.args) []=_:=this;rw [g42];simp only [jr,e1,this]
theorem Vs.ex {t:T} (h:Vs t):EX' true t:=⟨⟨⟨by have:=h.2;omega,h.tz⟩,h.args,λ_=>h⟩,λh=>by cases h⟩
def upN:List UInt8->Bool
 | []=>false
 | c::_=>upc c
mutual
def val (M:List UInt8->List Int->Int) (e:List UInt8->Int):T->Int
 | .mk n us=>if us.isEmpty && upN n then e n else M n (jxR M e us)
def jxR (M:List UInt8->List Int->Int) (e:List UInt8->Int):List T->List Int
 | []=>[]
 | t::ts=>val M e t::jxR M e ts
end
section
variable {M:List UInt8->List Int->Int}
def Ext (m m':ku):Prop:=∀x r,look m x=some r->look m' x=some r
theorem Ext.trans {a b c:ku} (h:Ext a b) (h':Ext b c):Ext a c:=λx r hx=>h' x r (h x r hx)
variable {jlI:Int->Prop}
def jys (M:List UInt8->List Int->Int) (jlI:Int->Prop) (rs:List T):Prop:=∀r∈rs,∀e:List UInt8->Int,(∀x,jlI (e x))->val M e (jcZ r)=val M e (jsi r)
end
theorem jwK {rs:List T} {root:Bool} :∀(k n:Nat) (t:T) {r:T × Nat},rwN rs root k n t=some r->jda rs root r.1=none/\n<=r.2/\(r.2=n->r.1=t):=by
 intro k;induction k with
 | zero=>intro n t r h;cases h
 | succ k ih=>
  intro n t r h;rw [rwN] at h;split at h
  ·rename_i ho;cases h;exact ⟨ho,jV _,λ_=>rfl⟩
  ·split at h
   ·cases h
   ·obtain ⟨q1,q2,_⟩:=ih (n+1) _ h;exact ⟨q1,by omega,λh=>by omega⟩
theorem jwc {rs:List T} {root:Bool} {t:T} (h:jda rs root t=none) (k n:Nat):rwN rs root (k+1) n t=some (t,n):=by
 rw [rwN,h]
theorem jtS {t:T} (ht:t.name = [61]):∀ {rs:List T},(∀r∈rs,KW (jcZ r)=true/\kS (jcZ r).name=false)->jbe rs t=none
 | [],_=>rfl
 | r::rs,h=>by
  obtain ⟨h1,h2⟩:=h r (by simp);have:mt [] (jcZ r) t=none:=by
   rw [jpf h2,jp];intro hh;exact jrC h1 (hh.1.trans ht)
  rw [jbe,this];exact jtS ht λq hq=>h q (by simp [hq])
theorem jvZ {rs:List T} (hr:∀r∈rs,KW (jcZ r)=true/\kS (jcZ r).name=false) {t:T} (ht:t.name = [61]):jda rs true t=jda rs false t:=by
 rw [jkW,jkW,jtS ht hr];rfl
def dec (n:Nat):Nat->Nat->List Nat
 | 0,_=>[]
 | l+1,k=>k % n::dec n l (k / n)
def enc (n:Nat):List Nat->Nat
 | []=>0
 | v::vs=>v+n * enc n vs
def vnA (l:List (List UInt8)) (n:List UInt8):List (List UInt8):=if l.contains n then l else l++[n]
mutual
def vn (l:List (List UInt8)):T->List (List UInt8)
 | .mk n us=>if us.isEmpty && upN n then vnA l n else vnL l us
def vnL (l:List (List UInt8)):List T->List (List UInt8)
 | []=>l
 | t::ts=>vnL (vn l t) ts
end
def VIn (S:List (List UInt8)) (t:T):Prop:=∀x∈Ja t,x∈S
def jhH (t:T):Bool:=jqd t || (decide (t.name = [61]) && jc5 t)
theorem jvh (t:T) (ht:Tz t):G 44 [tm t]=some (vb (jhH t),[]):=by
 have e1:=jtj t ht.wf ht;have e2:=Ka t;unfold jhH;rw [g44];cases hv:jqd t<;>rw [hv] at e1
 ·by_cases he:t.name = [61]
  ·have e3:=jaY t ht.wf ht he;rw [ZO he] at e2 ⊢;simp only [jr,e1,e2,e3,jZ,jQ]
  ·simp only [jr,e1,e2,he,jZ,jK]
 ·simp only [jr,e1,e2,zB]
theorem jvN (t:T) (ht:Tz t):G 40 [tm t]=some (vb (jhH t),[]):=by
 have e1:=jhV t ht.wf ht;unfold jhH;rw [g40];cases hv:jqd t<;>rw [hv] at e1
 ·by_cases he:t.name = [61]
  ·have e3:=jhK t ht.wf ht he;rw [ZO he];simp only [jr,e1,e3,jZ,jQ]
  ·have e3:=jpa t ht he;rw [hv,kM] at e3;simp only [jr,e1,he,e3,jZ,jK]
 ·simp only [jr,e1,zB]
theorem juB {t:T} (h:jqd t=true):Vs t/\JH t=true:=by
 unfold jqd at h;rw [js] at h;refine ⟨⟨h.2,?_⟩,h.1⟩;have:=h.1;simp only [JH,js,JP] at this;exact this.1
theorem jxd {t:T} (ht:Tz t) (hn:t.name = [61]) (h:jc5 t=true):EX' false t/\JH t=true:=by
 unfold jc5 at h;rw [js,JP,js,js] at h;obtain ⟨hl,hs,k0,k1⟩:=h;have hsm:nodes t<=30:=by simp only [JH,js,JP] at hs;exact hs.1
 refine ⟨⟨⟨⟨by omega,ht⟩,λu hu=> ?_,λh=>by cases h⟩,λ_=>⟨hn,hl⟩⟩,hs⟩;have hnu:=ji3 hu;refine ⟨?_,by omega⟩;obtain ⟨n,us⟩:=t
 match us,hl with
 | [a,b],_=>
  have hu:u ∈ [a,b]:=hu;simp only [jH,jcW,jfm] at hu;rcases hu with rfl|rfl
  ·exact k0
  ·exact k1
def LH (rs:List T):Prop:=∀r∈rs,KW (jcZ r)=true/\kS (jcZ r).name=false
theorem jxi {r t:T} (h:KW (jcZ r)=true/\kS (jcZ r).name=false) (ht:t.name = [61]):mt [] (jcZ r) t=none:=by
 rw [jpf h.2,jp];intro hh;exact jrC h.1 (hh.1.trans ht)
noncomputable def rwX (rs:List T) (t:T):Option (T × Nat):=rwN rs (jqd t) 51 0 t
theorem juX {t:T} (ht:Tz t) (h:jhH t=true):EX' (jqd t) t/\JH t=true:=by
 unfold jhH at h;cases hv:jqd t with
 | true=>exact ⟨(juB hv).1.ex,(juB hv).2⟩
 | false=>
  rw [hv,jZ,js,JP] at h;exact jxd ht h.1 h.2
section
variable {rs:List T} (hl:rs.length<=1048576) (hs:∀r∈rs,Tz r)
include hl hs
end
theorem jxn {rs:List T} (hr:RS rs) (root:Bool):∀(k n:Nat) (t:T) {r:T × Nat},EX' root t->JH t=true->rwN rs root k n t=some r->EX' root r.1/\JH r.1=true:=by
 intro k;induction k with
 | zero=>intro n t r _ _ h;cases h
 | succ k ih=>
  intro n t r ht hsm h;rw [rwN] at h;split at h
  ·cases h;exact ⟨ht,hsm⟩
  ·rename_i u hu;obtain ⟨_,h2,_⟩:=jkX hr ht hu;split at h
   ·cases h
   ·rename_i hk;have hs:JH u=true:=by
     cases hs:JH u with
     | true=>rfl
     | false=>exact absurd (Or.inr hs) hk
    exact ih (n+1) u (h2 hs) hs h
theorem jwL {rs:List T} (hr:RS rs) {t:T} (ht:Tz t) (he:jhH t=true) {u:T} {n:Nat} (h:rwX rs t=some (u,n)):Tz u/\jhH u=true/\jqd u=jqd t/\rwX rs u=some (u,0)/\(n=0->u=t):=by
 obtain ⟨hE,hsm⟩:=juX ht he;unfold rwX at h;obtain ⟨h1,h2⟩:=jxn hr (jqd t) 51 0 t hE hsm h;obtain ⟨g1,g2,g3⟩:=jwK 51 0 t h;have hz:Tz u:=h1.1.1.2;have hvu:jqd u=jqd t:=by
  cases hv:jqd t with
  | true=>
   rw [hv] at h1;unfold jqd;rw [show JH u=true from h2,(h1.1.2.2 rfl).1];rfl
  | false=>
   rw [hv] at h1;cases hk:KW u with
   | false=>unfold jqd;rw [hk,kM]
   | true=>exact absurd (h1.2 rfl).1 (jrC hk)
 refine ⟨hz,?_,hvu,?_,λhn=>g3 hn⟩
 ·unfold jhH;rw [hvu];cases hv:jqd t with
  | true=>rfl
  | false=>
   rw [hv] at h1;obtain ⟨k1,k2⟩:=h1.2 rfl;rw [jZ,ZO k1,jQ];obtain ⟨_,_,ma,mb⟩:=Jn k2;unfold jc5;rw [ZO k2,show JH u=true from h2,(h1.1.2.1 _ ma).1,(h1.1.2.1 _ mb).1];rfl
 ·unfold rwX;rw [hvu];exact jwc g1 50 0
theorem jxM {n:Nat} (h:n<=1048576):Ji n 40=true:=by
 unfold Ji;exact ZO ⟨by omega,by omega⟩
theorem jv9 {m:ku} (hv:∀q∈m,kS q.1=true) (hm:∀q∈m,Tz q.2):∀t:T,Tz t->KW t=true->jtc (tm t) (.mp (m.map kv))=some (.top,[sv (sub m t).name,.sl 66 ((sub m t).args.map jm)]):=by
 refine T.ind λt ih ht hk=> ?_;have hs:=ht;unfold Tz at hs;rw [zH] at hs;have lk:=jtt [sv [],.sl 2 []] m t.name;rw [jw7];cases h:kS t.name with
 | true=>
  have h0:t.args = []:=jjs hk h;have hz:(((0:Nat):Int)=0)=True:=by simp
  have hta:tm t = .agg [sv t.name,zl []]:=by show A.agg [_,A.sl 2 (t.args.map jm)]=_;rw [h0]
  rw [jqo h,jsW,hta];cases hl:look m t.name with
  | none=>
   rw [hl] at lk;have lk:jju none true false [sv [],.sl 2 []] (.mp (m.map kv)) (sv t.name)=some (.tup [.agg [sv [],.sl 2 []],vb false]):=lk;have h1:(0:Int) < ((0:Nat):Int)↔False:=by simp
   simp only [jr,lk];rw [jtm];simp only [jr,hz,h1,Option.getD_none,jfk];rfl
  | some r=>
   rw [hl] at lk;have lk:jju none true false [sv [],.sl 2 []] (.mp (m.map kv)) (sv t.name)=some (.tup [tm r,vb true]):=lk;have e2:=jqM r (hm _ (jhf hl));simp only [jr,lk,hz,e2,jmY,Ze,Qa]
 | false=>
  have hn:look m t.name=none:=by
   cases hl:look m t.name with
   | none=>rfl
   | some r=>have:=hv _ (jhf hl);rw [h] at this;cases this
  rw [hn] at lk;have lk:jju none true false [sv [],.sl 2 []] (.mp (m.map kv)) (sv t.name)=some (.tup [.agg [sv [],.sl 2 []],vb false]):=lk;have e0:sub m t = .mk t.name (t.args.map (sub m)):=jm5 h;have key:=(upto (P:=λi=>jrw (.mp (m.map kv)) (zl t.args) (vi (t.args.length:Nat)) (vi i) (sv []) (sv t.name) [] (((t.args.map (sub m)).take i).map jm)=some (.top,[sv (sub m t).name,.sl 66 ((sub m t).args.map jm)])) (n:=t.args.length) ?_ ?_ 0 (zZ _))
  ·simp only [ya,jm4,jfk] at key;simp only [jr,lk,key]
  ·rw [jtm,jdi (by rw [jdj];omega),jm5 h]
   simp only [jr];rfl
  ·intro i hi ih';have hlt:(i:Int) < ((t.args.length:Nat):Int):=by omega
   have h5:=jB hi (by show t.args.length<=9223372036854775807;omega)
   have e2:=ih t.args[i] (zf _) (ht.args _ (zf _)) (yV hk _ (zf _));have hf:Ji (i+1) 40=true:=jxM (by omega);have hi2:i < (t.args.map (sub m)).length:=by rw [jdj];exact hi
   have hl:(((t.args.map (sub m)).take i).map jm).length=i:=by rw [jdj,jfv,jdj];omega
   have ha:Kb (((t.args.map (sub m)).take i).map jm) [[sv (sub m t.args[i]).name,zl (sub m t.args[i]).args]]=((t.args.map (sub m)).take (i+1)).map jm:=by
    rw [show [sv (sub m t.args[i]).name,zl (sub m t.args[i]).args]=jm (sub m t.args[i]) from (kA _).symm,jsM,jL hi2,jaP,js3];rfl
   generalize ((t.args.map (sub m)).take i).map jm=R at *;rw [jtm];simp only [jr,hlt,jb hi,jg,e2,hl,hf,ha,h5,ih',Ze,jjP,Qa,Qi]
def jq1 (o:Option T):Out:=match o with|some u=>(.top,[sv u.name,vb true,.sl 578 (u.args.map jm)])|none=>(.top,[sv [],vb false,.sl 578 []])
theorem hR2 (x y:A) (k:Nat) (r:List (List A)):hR k (A.top,[x,y,.sl k r]) 2=some r:=by
 unfold hR;simp
theorem hR3 (x y z:A) (k:Nat) (r:List (List A)):hR k (A.top,[x,y,z,.sl k r]) 3=some r:=by
 unfold hR;simp
theorem hD2 (x y z:A) (l:List A):hD (A.top,x::y::z::l) 2=some z:=rfl
theorem jwW (rs:List T) (hr:RS rs):∀(t:T) (root:Bool),Tz t->(∀u∈t.args,Vs u)->(root=true->Vs t\/ ∀r∈rs,mt [] (jcZ r) t=none)->jhD (tm t) (zl rs) (vb root)=some (jq1 (jda rs root t)):=by
 refine T.ind λt ih root ht hA hRt=> ?_;have hs:=ht;unfold Tz at hs;rw [zH] at hs;have hr1:=hr.1;have second:jql (vb root) (zl rs) (vi (rs.length:Nat)) (vi 0) (sv t.name) (zl t.args) (sv []) []=some (jq1 (if root then jbe rs t else none)):=by
  have key:=upto (P:=λj=>jql (vb root) (zl rs) (vi (rs.length:Nat)) (vi j) (sv t.name) (zl t.args) (sv []) []=some (jq1 (if root then jbe (rs.drop j) t else none))) (n:=rs.length) ?_ ?_ 0 (zZ _)
  ·exact key
  ·rw [ju2,zw,jbe,ite_self];show _=some (A.top,[sv [],vb false,.sl 578 []]);simp only [jr]
  ·intro j hj ihj;have hltj:(j:Int) < ((rs.length:Nat):Int):=by omega
   have h5j:=jB hj (by show rs.length<=9223372036854775807;omega)
   obtain ⟨hr2,hr3,hr4⟩:=hr.2 rs[j] (zf _);obtain ⟨i0,i1⟩:=jtT hr2;rw [ju2,jA hj,jbe];cases root with
   | false=>
    simp only [jr,hltj,jb hj,jg,h5j,ihj]
   | true=>
    have q:=jvp (jcZ rs[j]) hr3.tz hr3.1 t [] ht (λq hq=>by cases hq);cases hm:mt [] (jcZ rs[j]) t with
    | none=>
     rw [hm] at q;obtain ⟨R,q⟩:=q;have q:jq4 (tm (jcZ rs[j])) (sv t.name) (zl t.args) []=some (.top,[vb false,.sl 128 R]):=q;simp only [jr,hltj,jb hj,i0,jg,q,Ze,h5j,ihj]
    | some m=>
     rw [hm] at q;have q:jq4 (tm (jcZ rs[j])) (sv t.name) (zl t.args) []=some (.top,[vb true,.sl 128 (m.map kv)]):=q;have hM:=(match hRt rfl with|Or.inl hv=>jvY hv hm|Or.inr hno=>by rw [hno _ (zf _)] at hm;cases hm);have p1:=jv9 (m:=m) (λq hq=>(hM.2 q hq).1) (λq hq=>(hM.2 q hq).2.tz) (jsi rs[j]) hr4.tz hr4.1;show _=some (A.top,[sv (sub m (jsi rs[j])).name,vb true,.sl 578 ((sub m (jsi rs[j])).args.map jm)]);simp only [jr,hltj,jb hj,i0,i1,jg,q,Ze,jjP,p1,Qa]
 have first:∀i,i<=t.args.length->jrz (zl rs) (vb root) (zl t.args) (vi (t.args.length:Nat)) (vi i) (sv t.name) (zl t.args) (sv []) []=some (match jdJ rs (t.args.drop i) with|some us=>jq1 (some (.mk t.name (t.args.take i++us)))|none=>jq1 (if root then jbe rs t else none)):=by
  refine upto ?_ ?_
  ·rw [ju1,zw,jdJ];simp only [jr,second]
  ·intro i hi ih2;have hlt:(i:Int) < ((t.args.length:Nat):Int):=by omega
   have h5:=jB hi (by show t.args.length<=9223372036854775807;omega)
   have hu:t.args[i]∈t.args:=zf _;have hv:=hA _ hu;have e1:=ih t.args[i] hu true hv.tz hv.args λ_=>Or.inl hv;rw [ju1,jA hi,jdJ];cases ho:jda rs true t.args[i] with
   | none=>
    rw [ho] at e1;have e1:jhD (tm t.args[i]) (zl rs) (vb true)=some (.top,[sv [],vb false,.sl 578 []]):=e1;simp only [jr,hlt,jb hi,jg,e1,hR2,Ze,jjP,Qa,jlF,h5,ih2];cases jdJ rs (t.args.drop (i+1)) with
    | none=>rfl
    | some us=>
     show some (jq1 (some (.mk t.name (t.args.take (i+1)++us))))=some (jq1 (some (.mk t.name (t.args.take i++t.args[i]::us))));have e:t.args.take (i+1)++us=t.args.take i++t.args[i]::us:=by
      rw [jsM,jL hi,zj];rfl
     rw [e]
   | some u=>
    rw [ho] at e1;have e1:jhD (tm t.args[i]) (zl rs) (vb true)=some (.top,[sv u.name,vb true,.sl 578 (u.args.map jm)]):=e1;have e2:=jqM t ht;have ix:pIx t.args.length (vi (i:Nat))=some i:=YE hi;have rg:Zy (t.args.map jm) i=some (jm t.args[i]):=by unfold Zy;simp [hi]
    have co:kE (jm t.args[i]) 0 [sv u.name,zl u.args]=jm u:=by rw [kA,kA];rfl
    have rs':zq (t.args.map jm) i (jm u)=(t.args.take i++u::t.args.drop (i+1)).map jm:=by
     unfold zq;rw [<-jsx,List.set_eq_take_append_cons_drop,jq hi]
    show _=some (A.top,[sv t.name,vb true,.sl 578 ((t.args.take i++u::t.args.drop (i+1)).map jm)]);simp only [jr,hlt,jb hi,jg,e1,e2,ix,rg,co,rs',hR2,Ze,jjP,Qa,jlF,Qi]
 have first:=first 0 (zZ _)
 simp only [kV,ya,jm4,Jb] at first
 rw [jxz,jkW];simp only [jr,first];cases jdJ rs t.args<;>rfl
def jrY (o:Option (T × Nat)):Out:=match o with|some r=>(.top,[sv r.1.name,vi (r.2:Nat),vb true,.sl 66 (r.1.args.map jm)])|none=>(.top,[sv [],vi 0,vb false,.sl 66 []])
theorem jxm (rs:List T) (hr:RS rs) (root:Bool) (H:∀t,EX' root t->jhD (tm t) (zl rs) (vb true)=some (jq1 (jda rs root t))):∀(k n:Nat),k+n=51->1<=k-> ∀t:T,EX' root t->jtZ (zl rs) (vb true) (vi (n:Nat)) (sv []) (sv t.name) [] (t.args.map jm)=some (jrY (rwN rs root k n t)):=by
 intro k;induction k with
 | zero=>intro n _ h;omega
 | succ k ih=>
 intro n hk _ t ht;have e1:=H t ht;rw [jwz,rwN];cases ho:jda rs root t with
 | none=>
  rw [ho] at e1;have e1:jhD (tm t) (zl rs) (vb true)=some (.top,[sv [],vb false,.sl 578 []]):=e1;show _=some (A.top,[sv t.name,vi (n:Nat),vb true,.sl 66 (t.args.map jm)]);simp only [jr,e1,hR2,Ze,jjP,Qa,jlF]
 | some u=>
  rw [ho] at e1;have e1:jhD (tm t) (zl rs) (vb true)=some (.top,[sv u.name,vb true,.sl 578 (u.args.map jm)]):=e1;obtain ⟨hu,hs,hA⟩:=jkX hr ht ho;have e2:G 78 [tm u]=some (vb (JH u),[]):=jhB u hu.wf hu;by_cases h50:n=50
  ·have hk0:k=0:=by omega
   have hn:((n:Nat):Int)=50:=by omega
   show _=some (jrY (if k=0\/JH u=false then none else rwN rs root k (n+1) u));rw [jq (Or.inl hk0)];show _=some (A.top,[sv [],vi 0,vb false,.sl 66 []]);simp only [jr,e1,hn,hR2,Ze,jjP,Qa,jlF]
  ·have hn:¬((n:Nat):Int)=50:=by omega
   have hk0:¬k=0:=by omega
   show _=some (jrY (if k=0\/JH u=false then none else rwN rs root k (n+1) u));cases hsm:JH u with
   | false=>
    rw [hsm] at e2;rw [jq (Or.inr rfl)];show _=some (A.top,[sv [],vi 0,vb false,.sl 66 []]);simp only [jr,e1,hn,e2,hR2,Ze,jjP,Qa,jlF]
   | true=>
    rw [hsm] at e2;rw [jp (by simp [hk0])];have h5:ck ((n:Int)+1)=some (vi ((n+1:Nat):Int)):=qK (by omega) (by omega);have:=ih (n+1) (by omega) (by omega) u (hs hsm);rw [<-this];simp only [jr,e1,hn,e2,h5,hR2,Ze,jjP,Qa,jlF]
theorem jxl (rs:List T) (hr:RS rs) (root:Bool) (H:∀t,EX' root t->jhD (tm t) (zl rs) (vb true)=some (jq1 (jda rs root t))):∀(k n:Nat),k+1+n=51-> ∀t:T,EX' root t->js1 (zl rs) (vb true) (vi (n:Nat)) (sv []) (sv t.name) (t.args.map jm) []=some (jrY (rwN rs root (k+1) n t)):=by
 intro k n hk t ht;have e1:=H t ht;rw [jwy,rwN];cases ho:jda rs root t with
 | none=>
  rw [ho] at e1;have e1:jhD (tm t) (zl rs) (vb true)=some (.top,[sv [],vb false,.sl 578 []]):=e1;show _=some (A.top,[sv t.name,vi (n:Nat),vb true,.sl 66 (t.args.map jm)]);simp only [jr,e1,hR2,Ze,jjP,Qa,jlF]
 | some u=>
  rw [ho] at e1;have e1:jhD (tm t) (zl rs) (vb true)=some (.top,[sv u.name,vb true,.sl 578 (u.args.map jm)]):=e1;obtain ⟨hu,hs,hA⟩:=jkX hr ht ho;have e2:G 78 [tm u]=some (vb (JH u),[]):=jhB u hu.wf hu;by_cases h50:n=50
  ·have hk0:k=0:=by omega
   have hn:((n:Nat):Int)=50:=by omega
   show _=some (jrY (if k=0\/JH u=false then none else rwN rs root k (n+1) u));rw [jq (Or.inl hk0)];show _=some (A.top,[sv [],vi 0,vb false,.sl 66 []]);simp only [jr,e1,hn,hR2,Ze,jjP,Qa,jlF]
  ·have hn:¬((n:Nat):Int)=50:=by omega
   have hk0:¬k=0:=by omega
   show _=some (jrY (if k=0\/JH u=false then none else rwN rs root k (n+1) u));cases hsm:JH u with
   | false=>
    rw [hsm] at e2;rw [jq (Or.inr rfl)];show _=some (A.top,[sv [],vi 0,vb false,.sl 66 []]);simp only [jr,e1,hn,e2,hR2,Ze,jjP,Qa,jlF]
   | true=>
    rw [hsm] at e2;rw [jp (by simp [hk0])];have h5:ck ((n:Int)+1)=some (vi ((n+1:Nat):Int)):=qK (by omega) (by omega);have:=jxm rs hr root H k (n+1) (by omega) (by omega) u (hs hsm);rw [<-this];simp only [jr,e1,hn,e2,h5,hR2,Ze,jjP,Qa,jlF]
theorem juw (rs:List T) (hr:RS rs) (root:Bool) (H:∀t,EX' root t->jhD (tm t) (zl rs) (vb true)=some (jq1 (jda rs root t))) (t:T) (ht:EX' root t):jtD (tm t) (zl rs) (vb true)=some (jrY (rwN rs root 51 0 t)):=by
 have e1:=jqM t ht.1.1.2;have:=jxl rs hr root H 50 0 rfl t ht;have:js1 (zl rs) (vb true) (vi 0) (sv []) (sv t.name) (t.args.map jm) []=_:=this;rw [jxy];simp only [jr,e1,this,Ze,jjP,Qa]
section
variable {rs:List T} (hl:rs.length<=1048576) (hs:∀r∈rs,Tz r)
include hl hs
theorem jxP:∃b:Bool,(b=true->RS rs/\LH rs)/\ ∀t:T,Tz t->
  jor (tm t) (zl rs)=some (jrY (if jhH t && b then rwX rs t else none))/\G 17 [tm t,zl rs]=jvs (if jhH t && b then rwX rs t else none):=by
 obtain ⟨b,r1,r2,r3⟩:=jwb rs hl hs;have hLH:b=true->RS rs/\LH rs:=λhb=>⟨(r3 hb).1,λr hr=>⟨((r3 hb).1.2 r hr).2.1.1,((r3 hb).2 r hr).2.2⟩⟩;refine ⟨b,hLH,λt ht=> ?_⟩;have e1:=jvh t ht;have e2:=jvN t ht;have e3:=jhV t ht.wf ht;rw [jxw,g17];cases he:jhH t<;>rw [he] at e1 e2
 ·rw [jK,jp jcV];exact ⟨by simp only [jr,e1];rfl,by simp only [jr,e2];rfl⟩
 cases b with
 | false=>
  rw [kM,jp jcV];exact ⟨by simp only [jr,e1,r2];rfl,by simp only [jr,e2,r1];rfl⟩
 | true=>
  rw [Kg,jq rfl];obtain ⟨hR,hLh⟩:=hLH rfl;obtain ⟨hE,hsm⟩:=juX ht he;have x1:jtD (tm t) (zl rs) (vb true)=some (jrY (rwX rs t)):=by
   unfold rwX;cases hv:jqd t with
   | true=>
    rw [hv] at hE;exact juw rs hR true (λu hu=>jwW rs hR u true hu.1.1.2 hu.1.2.1 λe=>Or.inl (hu.1.2.2 e)) t hE
   | false=>
    rw [hv] at hE;refine juw rs hR false (λu hu=> ?_) t hE;have htn:=(hu.2 rfl).1;have e1:=jwW rs hR u true hu.1.1.2 hu.1.2.1 λ_=>Or.inr λr hr=>jxi (hLh r hr) htn;rw [jvZ hLh htn] at e1;exact e1
  have x2:G 42 [tm t,zl rs,vb (jqd t)]=jvs (rwX rs t):=jwI rs hR (jqd t) t hE;generalize jqd t=v at *;cases hx:rwX rs t with
  | none=>
   rw [hx] at x1 x2;have x1:jtD (tm t) (zl rs) (vb true)=some (A.top,[sv [],vi 0,vb false,.sl 66 []]):=x1;have x2:G 42 [tm t,zl rs,vb v]=some (.tup [.agg [sv [],.sl 2 []],vi 0,vb false],[]):=x2;exact ⟨by simp only [jr,e1,r2,x1,hR3,hD2,Ze,jjP,Qa,jlF,jti];rfl,by simp only [jr,e2,r1,e3,x2];rfl⟩
  | some r=>
   rw [hx] at x1 x2;have x1:jtD (tm t) (zl rs) (vb true)=some (A.top,[sv r.1.name,vi (r.2:Nat),vb true,.sl 66 (r.1.args.map jm)]):=x1;have x2:G 42 [tm t,zl rs,vb v]=some (.tup [tm r.1,vi (r.2:Nat),vb true],[]):=x2;exact ⟨by simp only [jr,e1,r2,x1,hR3,hD2,Ze,jjP,Qa,jlF,jti];rfl,by simp only [jr,e2,r1,e3,x2];rfl⟩
theorem jxQ (t:T) (ht:Tz t):∃(e:T) (n:Nat) (ok:Bool),Tz e/\
  jor (tm t) (zl rs)=some (.top,[sv e.name,vi (n:Nat),vb ok,.sl 66 (e.args.map jm)])/\G 17 [tm t,zl rs]=some (.tup [tm e,vi (n:Nat),vb ok],[]):=by
 obtain ⟨b,hb,h⟩:=jxP hl hs;obtain ⟨h1,h2⟩:=h t ht;cases he:jhH t && b with
 | false=>
  rw [he,jp jcV] at h1 h2;exact ⟨.mk [] [],0,false,by unfold Tz;decide,h1,h2⟩
 | true=>
  rw [he,jq rfl] at h1 h2;rw [js] at he;cases hx:rwX rs t with
  | none=>
   rw [hx] at h1 h2;exact ⟨.mk [] [],0,false,by unfold Tz;decide,h1,h2⟩
  | some r=>
   rw [hx] at h1 h2;exact ⟨r.1,r.2,true,(jwL (hb he.2).1 ht he.1 hx).1,h1,h2⟩
end
set_option maxRecDepth 4000 in
theorem jsY (t:T) (rs:List T) (hw:qB t) (hwr:(∀t∈rs,qB t)/\rs.length<=9223372036854775807):G 4 [tm t,zl rs]=some (vb true,[]):=by
 have e1:=jom t hw 1048576 (by decide) (by decide);have c2:YD 2 (tm t)=some [sv t.name,.sl 2 (t.args.map jm)]:=rfl;rw [g4];by_cases h1:kG 1048576 ((tsz t:Nat):Int) < 0
 ·simp only [jr,c2,jr0,e1,h1]
 obtain ⟨b1,b2,b3⟩:=jgl (by decide) (by decide) h1;generalize kG 1048576 ((tsz t:Nat):Int)=l1 at *;have e2:=jmL rs hwr.2 (λt ht=>jom t (hwr.1 t ht)) l1 b1 b2;by_cases h2:kG l1 ((rs.length+ZI rs:Nat):Int) < 0
 ·simp only [jr,c2,jr0,e1,h1,e2,h2]
 obtain ⟨b4,b5,b6⟩:=jgl b1 b2 h2;generalize kG l1 ((rs.length+ZI rs:Nat):Int)=l2 at *;have hs:∀r∈rs,tsz r<=1048576:=λr hr=>by have:=zW hr;omega
 have a1:=jmP t b3;have a2:=jkQ rs (by omega) λu hu=>jmQ u (jon u (hs u hu));obtain ⟨e,n,ok,hz,a4,a3⟩:=jxQ (rs:=rs) (by omega) hs t b3;have hwe:=jfi e hz;have a5:=jlA rs hwr.2 λt ht=>ji5 t (hwr.1 t ht);have a6:=ji5 t hw;have a7:=ji5 e hwe;have k1:=jjq t;have k2:=jjq e;have k3:=jeS rs;have hz':tsz e<=1048576:=hz;obtain ⟨us,a9,_⟩:=jdF t hw 1 (by omega);obtain ⟨X,a8⟩:=jt2 rs hwr.1 hwr.2 (1+Ki t.args) (by omega);obtain ⟨vs,a10,a11⟩:=jdF e hwe 1 (by omega);have n1:¬((1+Ki t.args+Ki rs:Nat):Int) < 0:=by omega
 have n2:¬((1+Ki e.args:Nat):Int) < 0:=by omega
 have a9:jbr (sv t.name) (vi 1) (t.args.map jm)=_:=a9;have a10:jbr (sv e.name) (vi 1) (e.args.map jm)=_:=a10;have a11:G 15 [.agg [sv e.name,zl vs],vi 1]=_:=a11;cases ok<;>simp only [jr,c2,jr0,e1,h1,e2,h2,a1,a2,a3,a4,hR3,hD2,a5,a6,a7,a8,a9,a10,a11,Ze,jjP,Qa,jlF,jti,n1,n2]
end Go.Proofs.YtjbkclajpheekaaGreat
