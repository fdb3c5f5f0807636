/- Pb -/
import Derived.Test.YtbgikpffkgjecaaGreatDoorPa
import Derived.Test.YtbgikpffkgjecaaGreatDoorPq
import Derived.Sort.Walk0
import Derived.Lib.ItoaNum
namespace Go.Proofs.YtbgikpffkgjecaaGreatDoor
open Go Go.RowKit Go.Proofs.YtbgikpffkgjecaaGreatDoor.Abs
set_option linter.unusedSimpArgs false
set_option linter.unusedVariables false
set_option maxHeartbeats 1000000
theorem jaB (ts:List T) (hl:ts.length<=1048576) (ih:∀t∈ts,G 129 [tm t]=some (tm t,[])):jml (jH ts)=some (.top,[jH ts]):=by
 rw [jF6];by_cases h0:ts.length=0
 ·have:ts = []:=jgs.1 h0;subst this;simp only [jd,kU];rfl
 have hz:¬((ts.length:Nat):Int)=0:=by omega
 have hm:=jf6 (b:=40) (n:=ts.length) (by omega) hl;have key:=(upto (P:=λi=>jeh (jH ts) (vi (ts.length:Nat)) (vi i) (part jo [sv [],.sl 2 []] ts i)=some (.top,[jH ts])) (n:=ts.length) ?_ ?_ 0 (ko _))
 ·simp only [kU,<-jlz] at key;simp only [jd,hz,hm,key]
 ·rw [jpW,jqC];simp only [jd]
 ·intro i hi ih';have hlt:(i:Int) < ((ts.length:Nat):Int):=by omega
  have h1:=jgV (f:=jo) (z:=[sv [],.sl 2 []]) (Qc hi);have h2:Zf (part jo [sv [],.sl 2 []] ts i).length (vi i)=some i:=zz (by omega);have h4:=jqE (f:=jo) (z:=[sv [],.sl 2 []]) hi;rw [kG] at h4;have h5:=js hi (K2 hl (by decide));have e1:G 129 [A.agg [sv ts[i].name,jH ts[i].args]]=_:=ih ts[i] (jC _);rw [jpW];simp only [jd,hlt,ja hi,je,e1,jM,h2,jqD hi,jez,h4,h5,ih']
theorem JH (t:T):tsz t<=1048576->G 129 [tm t]=some (tm t,[]):=by
 refine T.ind (p:=λt=>tsz t<=1048576->G 129 [tm t]=some (tm t,[])) ?_ t;intro t ih h;rw [kH] at h;have e1:=jaB t.args (by omega) λu hu=>ih u hu (by have:=y7 hu;omega);rw [jKs];simp only [jd,e1]
theorem jni (t:T) (h:tsz t<=1048576):jfz (sv t.name) (jH t.args)=some (.top,[sv t.name,jH t.args]):=by
 rw [kH] at h;have e1:=jaB t.args (by omega) λu hu=>JH u (by have:=y7 hu;omega);rw [jx6];simp only [jd,e1]
theorem jcT:pNo (vb false)=some ():=rfl
theorem jFo:slL [259] [[]] = [.sl 259 []]:=rfl
theorem jnW {n:Nat} (h:n<=4194304):jA n 56=true:=by
 unfold jA;exact jQ ⟨by omega,by omega⟩
theorem jjb {p:T->Prop} (hp:∀t,p t-> ∀u∈t.args,p u):∀(a:T) {m m':jw} {t:T},(∀q∈m,p q.2)->p t->mt m a t=some m'->(∀q∈m',p q.2)/\m'.length<=m.length+nodes a:=by
 refine T.ind (p:=λa=>∀ {m m':jw} {t:T},(∀q∈m,p q.2)->p t->mt m a t=some m'->(∀q∈m',p q.2)/\m'.length<=m.length+nodes a) λa ih=> ?_;intro m m' t hm ht h;have hn:=jT a;cases hv:jp a.name with
 | true=>
  rw [jdM hv] at h;split at h
  ·split at h
   ·cases h;exact ⟨hm,by omega⟩
   ·cases h
  ·cases h;refine ⟨λq hq=> ?_,by rw [zh,qm];omega⟩;rcases kZ.1 hq with hq|hq
   ·exact hm q hq
   ·simp only [ku] at hq;subst hq;exact ht
 | false=>
  rw [jdL hv] at h;split at h
  ·have key:∀(us:List T) (ts:List T) {m m':jw},(∀u∈us,u∈a.args)->(∀u∈ts,p u)->(∀q∈m,p q.2)->Q8 m us ts=some m'->(∀q∈m',p q.2)/\m'.length<=m.length+jr us:=by
    intro us;induction us with
    | nil=>intro ts m m' _ _ hm h;simp only [Q8,zg] at h;exact h ▸ ⟨hm,by omega⟩
    | cons u us ih2=>
     intro ts m m' hu hts hm h;have e:jr (u::us)=nodes u+jr us:=rfl;cases ts with
     | nil=>simp only [Q8,zg] at h;exact h ▸ ⟨hm,by omega⟩
     | cons s ts=>
      simp only [Q8] at h;obtain ⟨m1,h1,h2⟩:=zI.1 h;obtain ⟨i1,i2⟩:=ih u (hu u (by simp)) hm (hts s (by simp)) h1;obtain ⟨j1,j2⟩:=ih2 ts (λx hx=>hu x (by simp [hx])) (λx hx=>hts x (by simp [hx])) i1 h2;exact ⟨j1,by omega⟩
   obtain ⟨i1,i2⟩:=key a.args t.args (λ_ h=>h) (hp t ht) hm h;exact ⟨i1,by omega⟩
  ·cases h
def MR (o:Option Out) (r:Option jw):Prop:=match r with
 | some m'=>o=some (.top,[vb true,.sl 259 (m'.map bc)])
 | none=>∃R,o=some (.top,[vb false,.sl 259 R])
theorem jjv {m:jw} {i:Nat} (hi:i < m.length):J5 (m.map bc) i 0=some (sv m[i].1):=by unfold J5;simp [hi]
theorem jqw {m:jw} {i:Nat} (hi:i < m.length):qc (m.map bc) i 1 2=some (tm m[i].2):=by unfold qc;simp [hi]
def Tz (t:T):Prop:=tsz t<=1048576
theorem Tz.args {t:T} (h:Tz t):∀u∈t.args,Tz u:=λu hu=>by
 have:=y7 hu;unfold Tz at h ⊢;rw [kH] at h;omega
theorem Tz.wf {t:T} (h:Tz t):Zc t:=jHe t h
theorem jwo (n:List UInt8) (x:A) (t:T) (ht:Tz t) (m:jw) (hm:∀q∈m,Tz q.2) (hl:m.length<=4000000) (hx:jI x=true):MR (jbz (vi 0) (sv n) x (sv t.name) (jH t.args) (m.map bc)) (match look m n with|some r=>if dq r t then some m else none|none=>some (m++[(n,t)])):=by
 have key:=upto (P:=λi=>MR (jbz (vi i) (sv n) x (sv t.name) (jH t.args) (m.map bc)) (match look (m.drop i) n with|some r=>if dq r t then some m else none|none=>some (m++[(n,t)]))) (n:=m.length) ?_ ?_ 0 (ko _)
 ·exact key
 ·rw [kg,jp2];have hf:=jnW (n:=m.length+1) (by omega);show _=_;simp only [jd,hx,hf];rw [zy];rfl
 ·intro i hi ih;have hlt:(i:Int) < ((m.length:Nat):Int):=by omega
  have h5:=js hi (by show m.length<=9223372036854775807;omega)
  have x1:Zf m.length (vi ((i:Nat):Int))=some i:=zz hi;have x2:=jjv hi;have x3:=jqw hi;have e1:=Jx m[i].2 (hm _ (jC hi)).wf t ht.wf;rw [jp2,ji hi,look];by_cases he:m[i].1=n
  ·rw [jg he];show MR _ (if dq m[i].2 t=true then some m else none);cases hd:dq m[i].2 t<;>rw [hd] at e1
   ·rw [jf j7];refine ⟨m.map bc,?_⟩;simp only [jd,hlt,x1,x2,x3,he,e1]
   ·rw [jg rfl];show _=_;simp only [jd,hlt,x1,x2,x3,he,e1]
  ·rw [jf he];simp only [jd,hlt,x1,x2,x3,he,h5];exact ih
theorem js4 (a t:T) (ht:Tz t) (ha:Tz a) (hl:a.args.length=t.args.length) (m:jw) (hm:∀q∈m,Tz q.2) (hk:m.length+jr a.args<=4000000)
  (ih:∀u∈a.args,∀(s:T) (m:jw),Tz s->(∀q∈m,Tz q.2)->m.length+nodes u<=4000000->MR (jbm (tm u) (tm s) (m.map bc)) (mt m u s)) :
  MR (jel (vi 0) (sv a.name) (jH a.args) (sv t.name) (jH t.args) (m.map bc)) (Q8 m a.args t.args):=by
 have ha':=ha;unfold Tz at ha;rw [kH] at ha;have nd:∀i,i < a.args.length->jr (a.args.drop i)=jr a.args->True:=λ_ _ _=>trivial;have key2:=upto (P:=λi=>∀m:jw,(∀q∈m,Tz q.2)->m.length+jr (a.args.drop i)<=4000000->MR (jem (vi i) (sv a.name) (jH a.args) (sv t.name) (jH t.args) (m.map bc)) (Q8 m (a.args.drop i) (t.args.drop i))) (n:=a.args.length) ?_ ?_;rotate_left
 ·intro m hm hk;rw [kg,jiS];simp only [Q8];show _=_;simp only [jd]
 ·intro i hi ih2 m hm hk;have hi':i < t.args.length:=by omega
  have hlt:(i:Int) < ((a.args.length:Nat):Int):=by omega
  have h5:=js hi (by show a.args.length<=9223372036854775807;omega)
  have e:jr (a.args.drop i)=nodes a.args[i]+jr (a.args.drop (i+1)):=by rw [ji hi];rfl
  have q:=ih a.args[i] (jC _) t.args[i] m (ht.args _ (jC _)) hm (by omega);rw [ji hi,ji hi',jiS];simp only [Q8];cases hq:mt m a.args[i] t.args[i] with
  | none=>
   rw [hq] at q;obtain ⟨R,q⟩:=q;refine ⟨[],?_⟩;simp only [jd,hlt,ja hi,ja hi',je,q,jM,jcT,jFo]
  | some m1=>
   rw [hq] at q;have q:jbm (tm a.args[i]) (tm t.args[i]) (m.map bc)=some (.top,[vb true,.sl 259 (m1.map bc)]):=q;obtain ⟨i1,i2⟩:=jjb (p:=Tz) (λ_ h=>h.args) _ hm (ht.args _ (jC hi')) hq;simp only [jd,hlt,ja hi,ja hi',je,q,jM,h5];exact ih2 m1 i1 (by omega)
 have e1:∀(m:jw) (i:Nat),jel (vi i) (sv a.name) (jH a.args) (sv t.name) (jH t.args) (m.map bc)=jem (vi i) (sv a.name) (jH a.args) (sv t.name) (jH t.args) (m.map bc):=λm i=>by
  rw [jz9,jiS]
 have:=key2 0 (ko _) m hm hk;rw [<-e1] at this;exact this
theorem jwn (n:List UInt8) (x:A) (t:T) (ht:Tz t) (m:jw) (hm:∀q∈m,Tz q.2) (hl:m.length<=4000000) (hx:jI x=true):MR (jby (vi 0) (sv n) x (sv t.name) (jH t.args) (m.map bc)) (match look m n with|some r=>if dq r t then some m else none|none=>some (m++[(n,t)])):=by
 have key:=upto (P:=λi=>MR (jby (vi i) (sv n) x (sv t.name) (jH t.args) (m.map bc)) (match look (m.drop i) n with|some r=>if dq r t then some m else none|none=>some (m++[(n,t)]))) (n:=m.length) ?_ ?_ 0 (ko _)
 ·exact key
 ·rw [kg,jp1];have hf:=jnW (n:=m.length+1) (by omega);show _=_;simp only [jd,hx,hf];rw [zy];rfl
 ·intro i hi ih;have hlt:(i:Int) < ((m.length:Nat):Int):=by omega
  have h5:=js hi (by show m.length<=9223372036854775807;omega)
  have x1:Zf m.length (vi ((i:Nat):Int))=some i:=zz hi;have x2:=jjv hi;have x3:=jqw hi;have e1:=Jx m[i].2 (hm _ (jC hi)).wf t ht.wf;rw [jp1,ji hi,look];by_cases he:m[i].1=n
  ·rw [jg he];show MR _ (if dq m[i].2 t=true then some m else none);cases hd:dq m[i].2 t<;>rw [hd] at e1
   ·rw [jf j7];refine ⟨m.map bc,?_⟩;simp only [jd,hlt,x1,x2,x3,he,e1]
   ·rw [jg rfl];show _=_;simp only [jd,hlt,x1,x2,x3,he,e1]
  ·rw [jf he];simp only [jd,hlt,x1,x2,x3,he,h5];exact ih
theorem js3 (a t:T) (ht:Tz t) (ha:Tz a) (hl:a.args.length=t.args.length) (m:jw) (hm:∀q∈m,Tz q.2) (hk:m.length+jr a.args<=4000000)
  (ih:∀u∈a.args,∀(s:T) (m:jw),Tz s->(∀q∈m,Tz q.2)->m.length+nodes u<=4000000->MR (jbm (tm u) (tm s) (m.map bc)) (mt m u s)) :
  MR (jej (vi 0) (sv a.name) (jH a.args) (sv t.name) (jH t.args) (m.map bc)) (Q8 m a.args t.args):=by
 have ha':=ha;unfold Tz at ha;rw [kH] at ha;have nd:∀i,i < a.args.length->jr (a.args.drop i)=jr a.args->True:=λ_ _ _=>trivial;have key2:=upto (P:=λi=>∀m:jw,(∀q∈m,Tz q.2)->m.length+jr (a.args.drop i)<=4000000->MR (jek (vi i) (sv a.name) (jH a.args) (sv t.name) (jH t.args) (m.map bc)) (Q8 m (a.args.drop i) (t.args.drop i))) (n:=a.args.length) ?_ ?_;rotate_left
 ·intro m hm hk;rw [kg,jiR];simp only [Q8];show _=_;simp only [jd]
 ·intro i hi ih2 m hm hk;have hi':i < t.args.length:=by omega
  have hlt:(i:Int) < ((a.args.length:Nat):Int):=by omega
  have h5:=js hi (by show a.args.length<=9223372036854775807;omega)
  have e:jr (a.args.drop i)=nodes a.args[i]+jr (a.args.drop (i+1)):=by rw [ji hi];rfl
  have q:=ih a.args[i] (jC _) t.args[i] m (ht.args _ (jC _)) hm (by omega);rw [ji hi,ji hi',jiR];simp only [Q8];cases hq:mt m a.args[i] t.args[i] with
  | none=>
   rw [hq] at q;obtain ⟨R,q⟩:=q;refine ⟨[],?_⟩;simp only [jd,hlt,ja hi,ja hi',je,q,jM,jcT,jFo]
  | some m1=>
   rw [hq] at q;have q:jbm (tm a.args[i]) (tm t.args[i]) (m.map bc)=some (.top,[vb true,.sl 259 (m1.map bc)]):=q;obtain ⟨i1,i2⟩:=jjb (p:=Tz) (λ_ h=>h.args) _ hm (ht.args _ (jC hi')) hq;simp only [jd,hlt,ja hi,ja hi',je,q,jM,h5];exact ih2 m1 i1 (by omega)
 have e1:∀(m:jw) (i:Nat),jej (vi i) (sv a.name) (jH a.args) (sv t.name) (jH t.args) (m.map bc)=jek (vi i) (sv a.name) (jH a.args) (sv t.name) (jH t.args) (m.map bc):=λm i=>by
  rw [jz8,jiR]
 have:=key2 0 (ko _) m hm hk;rw [<-e1] at this;exact this
theorem js2:∀(a:T),Tz a-> ∀(t:T) (m:jw),Tz t->(∀q∈m,Tz q.2)->m.length+nodes a<=4000000->MR (jbm (tm a) (tm t) (m.map bc)) (mt m a t):=by
 refine T.ind λa ih ha t m ht hm hk=> ?_;have hn:=jT a;have e1:=zK a.name (((kR a).1 ha.wf).1);have hal:a.args.length<=1048576:=by unfold Tz at ha;rw [kH] at ha;omega
 rw [jGd];cases hv:jp a.name<;>rw [hv] at e1
 ·rw [jdL hv];by_cases he:a.name=t.name/\a.args.length=t.args.length
  ·rw [jg he];have hl:((a.args.length:Nat):Int)=((t.args.length:Nat):Int):=by omega
   have:=js4 a t ht ha he.2 m hm (by omega) λu hu s m hs hm hk=>ih u hu (ha.args u hu) s m hs hm hk;rw [he.1] at e1 this;simp only [jd,he.1,e1,hl];exact this
  ·rw [jf he];refine ⟨m.map bc,?_⟩;by_cases h1:a.name=t.name
   ·have hl:¬((a.args.length:Nat):Int)=((t.args.length:Nat):Int):=λh=>he ⟨h1,by omega⟩;rw [h1] at e1;simp only [jd,e1,h1,hl]
   ·simp only [jd,e1,h1]
 ·rw [jdM hv];have:=jwo a.name (jH a.args) t ht m hm (by omega) (jtd _ _);simp only [jd,e1];exact this
theorem jp4 (a:T) (ha:Tz a) (t:T) (m:jw) (ht:Tz t) (hm:∀q∈m,Tz q.2) (hk:m.length+nodes a<=4000000):MR (jhO (tm a) (sv t.name) (jH t.args) (m.map bc)) (mt m a t):=by
 have hn:=jT a;have e1:=zK a.name (((kR a).1 ha.wf).1);rw [jGc];cases hv:jp a.name<;>rw [hv] at e1
 ·rw [jdL hv];by_cases he:a.name=t.name/\a.args.length=t.args.length
  ·rw [jg he];have hl:((a.args.length:Nat):Int)=((t.args.length:Nat):Int):=by omega
   have:=js3 a t ht ha he.2 m hm (by omega) λu hu s m hs hm hk=>js2 u (ha.args u hu) s m hs hm hk;rw [he.1] at e1 this;simp only [jd,he.1,e1,hl];exact this
  ·rw [jf he];refine ⟨m.map bc,?_⟩;by_cases h1:a.name=t.name
   ·have hl:¬((a.args.length:Nat):Int)=((t.args.length:Nat):Int):=λh=>he ⟨h1,by omega⟩;rw [h1] at e1;simp only [jd,e1,h1,hl]
   ·simp only [jd,e1,h1]
 ·rw [jdM hv];have:=jwn a.name (jH a.args) t ht m hm (by omega) (jtd _ _);simp only [jd,e1];exact this
abbrev kv (p:List UInt8 × T):List A:=[sv p.1,tm p.2]
theorem jyD (a b:List UInt8):eqK none (sv a) (sv b)=some (decide (a=b)):=by show some (decide (bs _=bs _))=_;refine congrArg some (jgo.2 ?_);simp
theorem jaJ (n:List UInt8):∀(m:jw) (k:Nat),ZQ none (sv n) (m.map kv) k=some (match look m n with|some _=>(match m.findIdx? (λp=>decide (p.1=n)) with|some j=>some (k+j,tm ((look m n).getD (.mk [] [])))|none=>none)|none=>none)
 | [],k=>rfl
 | p::m,k=>by
  rw [zf,look,ZQ,jyD];by_cases h:p.1=n
  ·rw [jg h,jQ h.symm,jos,jg (jQ h)];rfl
  ·rw [jf h,kA (λe=>h e.symm),jos,jf (by simp [h])];show ZQ none (sv n) (m.map kv) (k+1)=_;rw [jaJ n m (k+1)];cases look m n with
   | none=>rfl
   | some r=>
    cases m.findIdx? (λp=>decide (p.1=n)) with
    | none=>rfl
    | some j=>show some (some (k+1+j,_))=some (some (k+(j+1),_));rw [show k+1+j=k+(j+1) by omega]
theorem ji5 {n:List UInt8} :∀ {m:jw} {r:T},look m n=some r-> ∃j,m.findIdx? (λp=>decide (p.1=n))=some j/\m.set j (n,r)=m
 | p::m,r,h=>by
  rw [look] at h;rw [jos];by_cases e:p.1=n
  ·rw [jg e] at h;rw [jg (jQ e)];cases h;exact ⟨0,rfl,by rw [<-e];rfl⟩
  ·rw [jf e] at h;rw [jf (by simp [e])];obtain ⟨j,h1,h2⟩:=ji5 h;exact ⟨j+1,by rw [h1];rfl,by rw [jrP,h2]⟩
theorem jjs (z:List A) (m:jw) (n:List UInt8):Zg none true false z (.mp (m.map kv)) (sv n)=some (match look m n with|some r=> .tup [tm r,vb true]|none=> .tup [.agg z,vb false]):=by
 show ((some (m.map kv)).bind λxs=>(ZQ none (sv n) xs 0).map (ju9 true false z))=_;rw [yy,jaJ];cases h:look m n with
 | none=>rfl
 | some r=>
  obtain ⟨j,h1,_⟩:=ji5 h;show (some (match m.findIdx? _ with|some j=>some (0+j,tm r)|none=>none)).map _=_;rw [h1];rfl
theorem jlw {m:jw} {n:List UInt8} (h:look m n=none) (t:T):jkD none (m.map kv) (sv n) (tm t)=some ((m++[(n,t)]).map kv):=by
 show (ZQ none (sv n) (m.map kv) 0).map _=_;rw [jaJ,h,zy];rfl
theorem jlx {m:jw} {n:List UInt8} {r:T} (h:look m n=some r) (a:A):∃R,jkD none (m.map kv) (sv n) a=some R/\(a=tm r->R=m.map kv):=by
 obtain ⟨j,h1,h2⟩:=ji5 h;refine ⟨(m.map kv).set j [sv n,a],?_,λe=> ?_⟩
 ·show (ZQ none (sv n) (m.map kv) 0).map _=_;rw [jaJ,h];show (some (match m.findIdx? _ with|some j=>some (0+j,tm r)|none=>none)).map _=_;rw [h1];show some ((m.map kv).set (0+j) [sv n,a])=_;rw [yd]
 ·rw [e];have:([sv n,tm r]:List A)=kv (n,r):=rfl;rw [this,<-jct,h2]
def MI (o:Option Out) (r:Option jw):Prop:=match r with
 | some m'=>o=some (.top,[vb true,.sl 128 (m'.map kv)])
 | none=>∃R,o=some (.top,[vb false,.sl 128 R])
theorem jwj (a t:T) (ht:Tz t) (ha:Tz a) (hl:a.args.length=t.args.length) (m:jw) (hm:∀q∈m,Tz q.2)
  (ih:∀u∈a.args,∀(s:T) (m:jw),Tz s->(∀q∈m,Tz q.2)->MI (ZY (sv u.name) (jH u.args) (tm s) (m.map kv)) (mt m u s)) :
  MI (jbw (jH a.args) (vi (a.args.length:Nat)) (vi 0) (sv t.name) (jH t.args) (m.map kv)) (Q8 m a.args t.args):=by
 have ha':=ha;unfold Tz at ha;rw [kH] at ha;have key2:=upto (P:=λi=>∀m:jw,(∀q∈m,Tz q.2)->MI (jbw (jH a.args) (vi (a.args.length:Nat)) (vi i) (sv t.name) (jH t.args) (m.map kv)) (Q8 m (a.args.drop i) (t.args.drop i))) (n:=a.args.length) ?_ ?_;rotate_left
 ·intro m hm;rw [kg,jpY];simp only [Q8];show _=_;simp only [jd]
 ·intro i hi ih2 m hm;have hi':i < t.args.length:=by omega
  have hlt:(i:Int) < ((a.args.length:Nat):Int):=by omega
  have h5:=js hi (by show a.args.length<=9223372036854775807;omega)
  have q:=ih a.args[i] (jC _) t.args[i] m (ht.args _ (jC _)) hm;rw [ji hi,ji hi',jpY];simp only [Q8];cases hq:mt m a.args[i] t.args[i] with
  | none=>
   rw [hq] at q;obtain ⟨R,q⟩:=q;refine ⟨R,?_⟩;simp only [jd,hlt,ja hi,ja hi',je,q,jM]
  | some m1=>
   rw [hq] at q;have q:ZY (sv a.args[i].name) (jH a.args[i].args) (tm t.args[i]) (m.map kv)=some (.top,[vb true,.sl 128 (m1.map kv)]):=q;obtain ⟨i1,i2⟩:=jjb (p:=Tz) (λ_ h=>h.args) _ hm (ht.args _ (jC hi')) hq;simp only [jd,hlt,ja hi,ja hi',je,q,jM,h5];exact ih2 m1 i1
 exact key2 0 (ko _) m hm
theorem jwi (a t:T) (ht:Tz t) (ha:Tz a) (hl:a.args.length=t.args.length) (m:jw) (hm:∀q∈m,Tz q.2)
  (ih:∀u∈a.args,∀(s:T) (m:jw),Tz s->(∀q∈m,Tz q.2)->MI (ZY (sv u.name) (jH u.args) (tm s) (m.map kv)) (mt m u s)) :
  MI (jbv (jH a.args) (vi (a.args.length:Nat)) (vi 0) (sv t.name) (jH t.args) (m.map kv)) (Q8 m a.args t.args):=by
 have ha':=ha;unfold Tz at ha;rw [kH] at ha;have key2:=upto (P:=λi=>∀m:jw,(∀q∈m,Tz q.2)->MI (jbv (jH a.args) (vi (a.args.length:Nat)) (vi i) (sv t.name) (jH t.args) (m.map kv)) (Q8 m (a.args.drop i) (t.args.drop i))) (n:=a.args.length) ?_ ?_;rotate_left
 ·intro m hm;rw [kg,jpX];simp only [Q8];show _=_;simp only [jd]
 ·intro i hi ih2 m hm;have hi':i < t.args.length:=by omega
  have hlt:(i:Int) < ((a.args.length:Nat):Int):=by omega
  have h5:=js hi (by show a.args.length<=9223372036854775807;omega)
  have q:=ih a.args[i] (jC _) t.args[i] m (ht.args _ (jC _)) hm;rw [ji hi,ji hi',jpX];simp only [Q8];cases hq:mt m a.args[i] t.args[i] with
  | none=>
   rw [hq] at q;obtain ⟨R,q⟩:=q;refine ⟨R,?_⟩;simp only [jd,hlt,ja hi,ja hi',je,q,jM]
  | some m1=>
   rw [hq] at q;have q:ZY (sv a.args[i].name) (jH a.args[i].args) (tm t.args[i]) (m.map kv)=some (.top,[vb true,.sl 128 (m1.map kv)]):=q;obtain ⟨i1,i2⟩:=jjb (p:=Tz) (λ_ h=>h.args) _ hm (ht.args _ (jC hi')) hq;simp only [jd,hlt,ja hi,ja hi',je,q,jM,h5];exact ih2 m1 i1
 exact key2 0 (ko _) m hm
theorem jyV (a:T) (ha:Tz a) (hk:zS a=true) (t:T) (m:jw) (ht:Tz t) (hm:∀q∈m,Tz q.2)
  (ih:∀u∈a.args,∀(s:T) (m:jw),Tz s->(∀q∈m,Tz q.2)->MI (ZY (sv u.name) (jH u.args) (tm s) (m.map kv)) (mt m u s)) :
  MI (ZY (sv a.name) (jH a.args) (tm t) (m.map kv)) (mt m a t):=by
 have e1:G 122 [.agg [sv a.name,jH a.args]]=some (vb (jp a.name),[]):=YN a hk;have hal:a.args.length<=1048576:=by unfold Tz at ha;rw [kH] at ha;omega
 rw [jF8];cases hv:jp a.name<;>rw [hv] at e1
 ·rw [jdL hv];have pk:(if ((a.args.length:Nat):Int)=0 then G 122 [.agg [sv a.name,jH a.args]] else some (vb false,[]))=some (vb false,[]):=by split<;>first|exact e1|rfl
  by_cases he:a.name=t.name/\a.args.length=t.args.length
  ·rw [jg he];have hl:((a.args.length:Nat):Int)=((t.args.length:Nat):Int):=by omega
   have:=jwj a t ht ha he.2 m hm ih;by_cases h0:((a.args.length:Nat):Int)=0
   ·have h0':((t.args.length:Nat):Int)=0:=by omega
    rw [he.1] at e1;rw [he.2,h0'] at this;simp only [jd,he.1,h0',e1,hl];exact this
   ·have h0':¬((t.args.length:Nat):Int)=0:=by omega
    rw [he.1] at e1;rw [he.2] at this;simp only [jd,he.1,h0',hl];exact this
  ·rw [jf he];refine ⟨m.map kv,?_⟩;by_cases h1:a.name=t.name
   ·have hl:¬((a.args.length:Nat):Int)=((t.args.length:Nat):Int):=λh=>he ⟨h1,by omega⟩;rw [h1] at e1;by_cases h0:((a.args.length:Nat):Int)=0
    ·have hl0:¬(0:Int)=((t.args.length:Nat):Int):=by omega
     simp only [jd,e1,h1,h0,hl0]
    ·simp only [jd,h1,h0,hl]
   ·by_cases h0:((a.args.length:Nat):Int)=0
    ·simp only [jd,e1,h1,h0]
    ·simp only [jd,h1,h0]
 ·rw [jdM hv];have h0:a.args = []:=Ja hk hv;rw [h0] at e1;have hz:(((0:Nat):Int)=0)=True:=by simp
  have lk:=jjs [sv [],.sl 2 []] m a.name;cases hl:look m a.name with
  | none=>
   rw [hl] at lk;have lk:Zg none true false [sv [],.sl 2 []] (.mp (m.map kv)) (sv a.name)=some (.tup [.agg [sv [],.sl 2 []],vb false]):=lk;have pp:=jlw hl t;show _=_;rw [h0];simp only [jd,e1,hz,lk,pp,ql]
  | some r=>
   rw [hl] at lk;have lk:Zg none true false [sv [],.sl 2 []] (.mp (m.map kv)) (sv a.name)=some (.tup [tm r,vb true]):=lk;obtain ⟨R,pp,hR⟩:=jlx hl (tm t);have e2:=ya r (hm _ (JY hl)).wf t ht.wf;show MI _ (if dq r t=true then some m else none);rw [h0];cases hd:dq r t<;>rw [hd] at e2
   ·rw [jf j7];refine ⟨R,?_⟩;simp only [jd,e1,hz,lk,pp,e2,ql]
   ·rw [jg rfl];have hr:R=m.map kv:=hR (by rw [qz.1 hd]);rw [hr] at pp;show _=_;simp only [jd,e1,hz,lk,pp,e2,ql]
theorem jwh (a:T) (ha:Tz a) (e1:G 122 [.agg [sv a.name,jH a.args]]=some (vb (jp a.name),[])) (hva:jp a.name=true->a.args = []) (t:T) (m:jw) (ht:Tz t) (hm:∀q∈m,Tz q.2)
  (ih:∀u∈a.args,∀(s:T) (m:jw),Tz s->(∀q∈m,Tz q.2)->MI (ZY (sv u.name) (jH u.args) (tm s) (m.map kv)) (mt m u s)) :
  MI (jdv (tm a) (sv t.name) (jH t.args) (m.map kv)) (mt m a t):=by
 have hal:a.args.length<=1048576:=by unfold Tz at ha;rw [kH] at ha;omega
 rw [jF7];cases hv:jp a.name<;>rw [hv] at e1
 ·rw [jdL hv];have pk:(if ((a.args.length:Nat):Int)=0 then G 122 [.agg [sv a.name,jH a.args]] else some (vb false,[]))=some (vb false,[]):=by split<;>first|exact e1|rfl
  by_cases he:a.name=t.name/\a.args.length=t.args.length
  ·rw [jg he];have hl:((a.args.length:Nat):Int)=((t.args.length:Nat):Int):=by omega
   have:=jwi a t ht ha he.2 m hm ih;by_cases h0:((a.args.length:Nat):Int)=0
   ·have h0':((t.args.length:Nat):Int)=0:=by omega
    rw [he.1] at e1;rw [he.2,h0'] at this;simp only [jd,he.1,h0',e1,hl];exact this
   ·have h0':¬((t.args.length:Nat):Int)=0:=by omega
    rw [he.1] at e1;rw [he.2] at this;simp only [jd,he.1,h0',hl];exact this
  ·rw [jf he];refine ⟨m.map kv,?_⟩;by_cases h1:a.name=t.name
   ·have hl:¬((a.args.length:Nat):Int)=((t.args.length:Nat):Int):=λh=>he ⟨h1,by omega⟩;rw [h1] at e1;by_cases h0:((a.args.length:Nat):Int)=0
    ·have hl0:¬(0:Int)=((t.args.length:Nat):Int):=by omega
     simp only [jd,e1,h1,h0,hl0]
    ·simp only [jd,h1,h0,hl]
   ·by_cases h0:((a.args.length:Nat):Int)=0
    ·simp only [jd,e1,h1,h0]
    ·simp only [jd,h1,h0]
 ·rw [jdM hv];have h0:a.args = []:=hva hv;rw [h0] at e1;have hz:(((0:Nat):Int)=0)=True:=by simp
  have hta:tm a = .agg [sv a.name,jH []]:=by show A.agg [_,A.sl 2 (a.args.map jo)]=_;rw [h0]
  have lk:=jjs [sv [],.sl 2 []] m a.name;cases hl:look m a.name with
  | none=>
   rw [hl] at lk;have lk:Zg none true false [sv [],.sl 2 []] (.mp (m.map kv)) (sv a.name)=some (.tup [.agg [sv [],.sl 2 []],vb false]):=lk;have pp:=jlw hl t;show _=_;rw [hta];simp only [jd,e1,hz,lk,pp,ql]
  | some r=>
   rw [hl] at lk;have lk:Zg none true false [sv [],.sl 2 []] (.mp (m.map kv)) (sv a.name)=some (.tup [tm r,vb true]):=lk;obtain ⟨R,pp,hR⟩:=jlx hl (tm t);have e2:=ya r (hm _ (JY hl)).wf t ht.wf;show MI _ (if dq r t=true then some m else none);rw [hta];cases hd:dq r t<;>rw [hd] at e2
   ·rw [jf j7];refine ⟨R,?_⟩;simp only [jd,e1,hz,lk,pp,e2,ql]
   ·rw [jg rfl];have hr:R=m.map kv:=hR (by rw [qz.1 hd]);rw [hr] at pp;show _=_;simp only [jd,e1,hz,lk,pp,e2,ql]
theorem jyU (a:T) (ha:Tz a) (hk:zS a=true) (t:T) (m:jw) (ht:Tz t) (hm:∀q∈m,Tz q.2)
  (ih:∀u∈a.args,∀(s:T) (m:jw),Tz s->(∀q∈m,Tz q.2)->MI (ZY (sv u.name) (jH u.args) (tm s) (m.map kv)) (mt m u s)) :
  MI (jdv (tm a) (sv t.name) (jH t.args) (m.map kv)) (mt m a t):=jwh a ha (YN a hk) (λhv=>Ja hk hv) t m ht hm ih
theorem jAh:∀(a:T),Tz a->zS a=true-> ∀(t:T) (m:jw),Tz t->(∀q∈m,Tz q.2)->MI (ZY (sv a.name) (jH a.args) (tm t) (m.map kv)) (mt m a t):=by
 refine T.ind λa ih ha hk t m ht hm=> ?_;exact jyV a ha hk t m ht hm λu hu s m hs hm=>ih u hu (ha.args u hu) (zj hk u hu) s m hs hm
theorem jwy (a:T) (ha:Tz a) (hk:zS a=true) (t:T) (m:jw) (ht:Tz t) (hm:∀q∈m,Tz q.2):MI (jdv (tm a) (sv t.name) (jH t.args) (m.map kv)) (mt m a t):=
 jyU a ha hk t m ht hm λu hu s m hs hm=>jAh u (ha.args u hu) (zj hk u hu) s m hs hm
theorem jtq {m:jw} (hv:∀q∈m,jp q.1=true) (hm:∀q∈m,Tz q.2):∀t:T,Tz t->zS t=true->G 178 [tm t,.mp (m.map kv)]=some (tm (sub m t),[]):=by
 refine T.ind λt ih ht hk=> ?_;have hs:=ht;unfold Tz at hs;rw [kH] at hs;have lk:=jjs [sv [],.sl 2 []] m t.name;rw [jKY];cases h:jp t.name with
 | true=>
  have h0:t.args = []:=Ja hk h;have hz:(((0:Nat):Int)=0)=True:=by simp
  have hta:tm t = .agg [sv t.name,jH []]:=by show A.agg [_,A.sl 2 (t.args.map jo)]=_;rw [h0]
  rw [Jk h,Js,hta];cases hl:look m t.name with
  | none=>
   rw [hl] at lk;have lk:Zg none true false [sv [],.sl 2 []] (.mp (m.map kv)) (sv t.name)=some (.tup [.agg [sv [],.sl 2 []],vb false]):=lk;have h1:(0:Int) < ((0:Nat):Int)↔False:=by simp
   simp only [jd,lk];rw [jsU];simp only [jd,hz,h1,Option.getD_none,ql];rfl
  | some r=>
   rw [hl] at lk;have lk:Zg none true false [sv [],.sl 2 []] (.mp (m.map kv)) (sv t.name)=some (.tup [tm r,vb true]):=lk;have e2:=JH r (hm _ (JY hl));simp only [jd,lk,hz,e2,jBO]
 | false=>
  have hn:look m t.name=none:=by
   cases hl:look m t.name with
   | none=>rfl
   | some r=>have:=hv _ (JY hl);rw [h] at this;cases this
  rw [hn] at lk;have lk:Zg none true false [sv [],.sl 2 []] (.mp (m.map kv)) (sv t.name)=some (.tup [.agg [sv [],.sl 2 []],vb false]):=lk;have key:=(upto (P:=λi=>jmH (.mp (m.map kv)) (jH t.args) (vi (t.args.length:Nat)) (vi i) (sv []) (sv t.name) [] (((t.args.map (sub m)).take i).map jo)=some (tm (sub m t),[])) (n:=t.args.length) ?_ ?_ 0 (ko _))
  ·simp only [kU,jal,ql] at key;simp only [jd,lk,key]
  ·rw [jsU,Zd (by rw [kj];omega),qE h]
   simp only [jd];rfl
  ·intro i hi ih';have hlt:(i:Int) < ((t.args.length:Nat):Int):=by omega
   have h5:=js hi (by show t.args.length<=9223372036854775807;omega)
   have e2:=ih t.args[i] (jC _) (ht.args _ (jC _)) (zj hk _ (jC _));have hf:jA (i+1) 40=true:=jjp (by omega);have hi2:i < (t.args.map (sub m)).length:=by rw [kj];exact hi
   have hl:(((t.args.map (sub m)).take i).map jo).length=i:=by rw [kj,Ky,kj];omega
   have ha:jW (((t.args.map (sub m)).take i).map jo) [[sv (sub m t.args[i]).name,jH (sub m t.args[i]).args]]=((t.args.map (sub m)).take (i+1)).map jo:=by
    rw [show [sv (sub m t.args[i]).name,jH (sub m t.args[i]).args]=jo (sub m t.args[i]) from (kG _).symm,jho,kO hi2,zy,jcs];rfl
   generalize ((t.args.map (sub m)).take i).map jo=R at *;rw [jsU];simp only [jd,hlt,ja hi,je,e2,hl,hf,ha,h5,ih']
theorem jga (n:List UInt8) (t:T):∀(s:jw) (i:Nat),i<=s.length->(∀j,(h:j < i)-> ∀h':j < s.length,yX s[j].1 n=true)->((∃h:i < s.length,yX s[i].1 n=false)\/i=s.length)->YW s n t=s.take i++(n,t)::s.drop i
 | [],i,hi,_,_=>by
  have:i=0:=by simpa using hi
  subst this;rfl
 | p::s,0,_,_,h=>by
  have hp:yX p.1 n=false:=by
   rcases h with ⟨_,h⟩|h
   ·exact h
   ·cases h
  unfold YW;rw [jrK (p:=λp:List UInt8 × T=>yX p.1 n) (by simp [hp]),jvR (p:=λp:List UInt8 × T=>yX p.1 n) (by simp [hp])];rfl
 | p::s,i+1,hi,h1,h=>by
  have hp:yX p.1 n=true:=h1 0 (by omega) (by simp);have:=jga n t s i (by simpa using hi) (λj hj hj'=>h1 (j+1) (by omega) (by simpa using hj')) (by
   rcases h with ⟨h,h2⟩|h
   ·exact Or.inl ⟨by simpa using h,h2⟩
   ·exact Or.inr (by simpa using h))
  unfold YW at this ⊢;rw [jvS (p:=λp:List UInt8 × T=>yX p.1 n) hp,jBP (p:=λp:List UInt8 × T=>yX p.1 n) hp,K5,this];rfl
theorem qX {α:Type} (f:α->List A) (l:List α):yM (l.map f)=l.length:=kj ..
theorem jqN (u:jw) (hl:u.length<=1000000) (i:Nat) (hi:i<=u.length) :
  pB u.length u.length (some (vi (i:Nat)))=some i/\yW (u.map bc) 0 i=(u.take i).map bc/\jA (u.take i).length 56=true/\pB u.length u.length none=some u.length/\pB 0 u.length (some (vi (i:Nat)))=some i/\yW (u.map bc) i (u.length - i)=(u.drop i).map bc/\yi (u.map bc) 0=u.length/\jA ((u.take i).length+1) 56=true/\jA ((u.take i).length+1+(u.drop i).length) 56=true:=by
 refine ⟨Jq hi,by rw [yW,kD,jfr],jnW (by rw [Ky];omega),yg (kz _),Jq hi,?_,by rw [yi,kj];rfl,jnW (by rw [Ky];omega),jnW (by rw [Ky,qu];omega)⟩
 rw [yW,<-jcA,Zd (by rw [kj,qu];omega)]
theorem jqM (u v:jw) (n:List UInt8) (t:T):jW (jW (u.map bc) [[sv n,sv t.name,jH t.args]]) (v.map bc)=(u++(n,t)::v).map bc:=by
 rw [zy];show (u.map bc++[_])++v.map bc=u.map bc++_::v.map bc;rw [yv];rfl
theorem jqO (u:jw) (n:List UInt8) (t:T):(jW (u.map bc) [[sv n,sv t.name,jH t.args]]).length=u.length+1:=by
 simp [jW]
theorem jnZ (u:jw) (hl:u.length<=1000000) (n:List UInt8) (t:T) (ht:Tz t):jhM (sv n) (tm t) (u.map bc)=some (.top,[K8 (Kk u n t)]):=by
 have e1:=Z5 t ht;have key:=upto (P:=λi=>(∀j,(h:j < i)-> ∀h':j < u.length,yX u[j].1 n=true)->jbr (sv n) (vi i) (sv t.name) (jH t.args) (u.map bc) []=some (.top,[K8 (YW u n t)])) (n:=u.length) ?_ ?_ 0 (ko _) (λj h=>absurd h (Nat.not_lt_zero _))
 ·rw [jFY,Kk];by_cases h:t.name=n
  ·rw [jg h];simp only [jd,h]
  ·rw [jf h];have e:jbr (sv n) (vi 0) (sv t.name) (jH t.args) (u.map bc) []=some (.top,[K8 (YW u n t)]):=key;simp only [jd,h,e]
 ·intro hall;rw [jga n t u u.length (kz _) hall (Or.inr rfl)];obtain ⟨k1,k2,k3,k4,k5,k6,k7,k8,k9⟩:=jqN u hl u.length (kz _);have m1:=jqM (u.take u.length) (u.drop u.length) n t;have m2:=jqO (u.take u.length) n t;rw [jiO];simp only [jd,qX,k1,k2,k3,k4,k5,k6,k7,qO,jak,yd,e1];generalize hB:kX _ _ _=B;have hB':B=some (.agg [sv n,sv t.name,jH t.args]):=by rw [<-hB];kernel_rfl
  rw [hB'];simp only [jd,k3,k8,k9,m1,m2]
 ·intro i hi ih hall;have hlt:(i:Int) < ((u.length:Nat):Int):=by omega
  have h5:=js hi (by show u.length<=9223372036854775807;omega)
  have x1:Zf u.length (vi ((i:Nat):Int))=some i:=zz hi;have x2:=jjv hi;cases hs:yX u[i].1 n
  ·rw [jga n t u i (by omega) hall (Or.inl ⟨hi,hs⟩)];obtain ⟨k1,k2,k3,k4,k5,k6,k7,k8,k9⟩:=jqN u hl i (by omega);have m1:=jqM (u.take i) (u.drop i) n t;have m2:=jqO (u.take i) n t;rw [jiO];simp only [jd,hlt,x1,x2,hs,qX,k1,k2,k3,k4,k5,k6,k7,qO,jak,yd,e1];generalize hB:kX _ _ _=B;have hB':B=some (.agg [sv n,sv t.name,jH t.args]):=by rw [<-hB];kernel_rfl
   rw [hB'];simp only [jd,k3,k8,k9,m1,m2]
  ·have ih:=ih λj hj hj'=>by
    by_cases h:j=i
    ·subst h;exact hs
    ·exact hall j (by omega) hj'
   rw [jiO];simp only [jd,hlt,x1,x2,hs,h5,ih]
theorem je2 (s:jw) (n:List UInt8) (t:T):(Kk s n t).length<=s.length+1:=by
 unfold Kk;split
 ·omega
 ·unfold YW;rw [zh,zk];have:=jrL (p:=λp:List UInt8 × T=>yX p.1 n) (l:=s);have:=congrArg List.length this;rw [zh] at this;omega
theorem jjC {s:jw} {n:List UInt8} {t:T} {q:List UInt8 × T} (h:q∈Kk s n t):q∈s\/q=(n,t):=by
 unfold Kk at h;split at h
 ·exact Or.inl h
 ·unfold YW at h;rw [kZ,jZ] at h;rcases h with h|h|h
  ·exact Or.inl (List.takeWhile_subset _ h)
  ·exact Or.inr h
  ·exact Or.inl (List.dropWhile_subset _ h)
theorem jk7:∀(m s:jw),(m.foldl (λs p=>Kk s p.1 p.2) s).length<=s.length+m.length
 | [],s=>by simp
 | p::m,s=>by
  rw [Km,zk];have:=jk7 m (Kk s p.1 p.2);have:=je2 s p.1 p.2;omega
theorem jk8:∀(m s:jw) {q:List UInt8 × T},q∈m.foldl (λs p=>Kk s p.1 p.2) s->q∈s\/q∈m
 | [],s,q,h=>Or.inl h
 | p::m,s,q,h=>by
  rw [Km] at h;rcases jk8 m _ h with h|h
  ·rcases jjC h with h|h
   ·exact Or.inl h
   ·exact Or.inr (by rw [h];simp)
  ·exact Or.inr (by simp [h])
theorem jwT {m:jw} {q:List UInt8 × T} (h:q∈Ka m):q∈m:=by
 rcases jk8 m [] h with h|h
 ·cases h
 ·exact h
theorem jAQ (m:jw) (hm:∀q∈m,Tz q.2) (hl:m.length<=1000000):G 274 [K8 m]=some (sb (Ka m),[]):=by
 have key:=upto (P:=λi=>∀s:jw,s.length<=i->jm4 (K8 m) (vi i) [] (s.map bc)=some (sb ((m.drop i).foldl (λs p=>Kk s p.1 p.2) s),[])) (n:=m.length) ?_ ?_ 0 (ko _) [] (kz _)
 ·rw [jLZ];exact key
 ·intro s _;rw [jAa,kg];simp only [jd];rfl
 ·intro i hi ih s hs;have hlt:(i:Int) < ((m.length:Nat):Int):=by omega
  have h5:=js hi (by show m.length<=9223372036854775807;omega)
  have e1:=jnZ s (by omega) m[i].1 m[i].2 (hm _ (jC _));have:=je2 s m[i].1 m[i].2;have ih:=ih (Kk s m[i].1 m[i].2) (by omega);rw [jAa,ji hi,Km];simp only [jd,hlt,ja hi,qC,yA,YV,e1,h5,ih]
theorem jIS {n:Nat} (h:n<=4194304):jA n 24=true:=by
 unfold jA;exact jQ ⟨by omega,by omega⟩
theorem jIT {n:Nat} (h:n<=4194304):jA n 8=true:=by
 unfold jA;exact jQ ⟨by omega,by omega⟩
abbrev pln (p:List Nat):A:= .sl 1 (p.map λn=>[vi (n:Nat)])
abbrev plc (p:List Nat):List A:=[pln p]
theorem jDI (p:List Nat) (h:p.length<=4194304):jhP (pln p)=some (.top,[pln p]):=by
 rw [jEy];have:=jIT (n:=p.length) h;simp only [jd,this]
mutual
theorem jf8:∀t:T,(jab t).length=nodes t
 | .mk n us=>by
  rw [jab,nodes,zh,jlC us 0];simp;omega
theorem jlC:∀(us:List T) (i:Nat),(Qt i us).length=jr us
 | [],i=>rfl
 | t::ts,i=>by
  rw [Qt,jr,zh,kj,jf8 t,jlC ts (i+1)]
end
theorem post_eq:∀(t:T) (p:List Nat),Tz t->p.length+tsz t<=2000000->G 272 [tm t,pln p]=some (.sl 1 ((jab t).map λq=>plc (p++q)),[]):=by
 refine T.ind λt ih p ht hp=> ?_;have hs:=ht;unfold Tz at hs;rw [kH] at hs hp;have hnl:=Jp t;have hne:=jT t;have e0:=jDI p (by omega);have hsplit:∀i,i<=t.args.length->jr (t.args.take i)+jr (t.args.drop i)=jr t.args:=by
  intro i _;have:∀a b:List T,jr (a++b)=jr a+jr b:=by
   intro a b;induction a with
   | nil=>simp [jr]
   | cons x a ih=>simp only [K5,jr,ih];omega
  rw [<-this,jmf]
 have key:=upto (P:=λi=>∀R:List (List A),R.length+jr (t.args.drop i)<=2000000->jm3 (pln p) (vi i) (sv t.name) (jH t.args) R=some (.sl 1 (R++(Qt i (t.args.drop i)++[[]]).map λq=>plc (p++q)),[])) (n:=t.args.length) ?_ ?_ 0 (ko _) [] (by simp;unfold Tz at ht;omega)
 ·rw [jLY,jqI];simp only [kU,Ju,kD] at key;simp only [jd,key]
 ·intro R hR;rw [jz7,kg];have hf:jA (R.length+1) 24=true:=jIS (by omega);simp only [jd,e0,hf];rw [Qt,Ju,zf,qv];rfl
 ·intro i hi ih2 R hR;have hlt:(i:Int) < ((t.args.length:Nat):Int):=by omega
  have h5:=js hi (by show t.args.length<=9223372036854775807;omega)
  have hm:tsz t.args[i]<=Jd t.args:=y7 (jC _);have ed:jr (t.args.drop i)=nodes t.args[i]+jr (t.args.drop (i+1)):=by rw [ji hi];rfl
  have e2:=ih t.args[i] (jC _) (p++[i]) (ht.args _ (jC _)) (by rw [zh,qm];omega)
  have ea:jW (p.map λn:Nat=>[vi (n:Nat)]) [[vi (i:Nat)]]=(p++[i]).map λn:Nat=>[vi (n:Nat)]:=by rw [zy];rfl
  have hf1:jA (p.length+1) 8=true:=jIT (by omega);have hpl:=jf8 t.args[i];have hf2:jA (R.length+(jab t.args[i]).length) 24=true:=jIS (by omega);have ih3:=ih2 (jW R ((jab t.args[i]).map λq=>plc ((p++[i])++q))) (by show (R++_).length+_<=_;rw [zh,kj];omega);rw [jz7,ji hi,Qt];simp only [jd,hlt,ja hi,je,e0,hf1,ea,e2,hf2,h5,ih3];congr 2;show A.sl 1 ((R++_)++_)=_;congr 1;rw [yv,yv,zy,zy,qa];congr 2;refine K3 λq _=> ?_;show plc (p++[i]++q)=plc (p++(i::q));rw [yv];rfl;rw [zy]
def okP:List Nat->T->Prop
 | [],_=>True
 | i::p,t=>i < t.args.length/\okP p (t.args.getD i (.mk [] []))
theorem qo {ts:List T} {i:Nat} (h:i < ts.length):ts.getD i (.mk [] [])=ts[i]:=by rw [zY,kO h];rfl
mutual
theorem jqJ:∀(t:T),∀p∈jab t,okP p t/\p.length<=nodes t
 | .mk n us=>λp hp=>by
  rw [jab,kZ] at hp;rcases hp with hp|hp
  ·obtain ⟨j,q,rfl,h1,h2,h3⟩:=jqH us 0 p hp;refine ⟨?_,?_⟩
   ·show (0+j) < us.length/\okP q (us.getD (0+j) _);rw [yd];exact ⟨h1,h2⟩
   ·rw [zk,nodes];omega
  ·rw [ku] at hp;subst hp;exact ⟨trivial,by simp⟩
theorem jqH:∀(us:List T) (i:Nat),∀p∈Qt i us,∃j q,p=(i+j)::q/\j < us.length/\okP q (us.getD j (.mk [] []))/\q.length<=jr us
 | [],i,p,hp=>by rw [Qt] at hp;cases hp
 | t::ts,i,p,hp=>by
  rw [Qt,kZ] at hp;rcases hp with hp|hp
  ·obtain ⟨q,hq,rfl⟩:=zN.1 hp;obtain ⟨h1,h2⟩:=jqJ t q hq;exact ⟨0,q,rfl,by simp,h1,by rw [jr];omega⟩
  ·obtain ⟨j,q,rfl,h1,h2,h3⟩:=jqH ts (i+1) p hp;exact ⟨j+1,q,by rw [show i+1+j=i+(j+1) by omega],by simpa using h1,by simpa using h2,by rw [jr];omega⟩
end
theorem jvf {q:T->Prop} (hq:∀t,q t-> ∀u∈t.args,q u):∀ {p:List Nat} {t:T},okP p t->q t->q (atT p t)
 | [],_,_,h=>h
 | i::p,t,hp,h=>by
  obtain ⟨h1,h2⟩:=hp;refine jvf (p:=p) hq h2 ?_;rw [qo h1];exact hq t h _ (jC _)
theorem jqG (i:Nat) (p:List Nat):pln (i::p) = .sl 1 ([vi (i:Nat)]::p.map λn=>[vi (n:Nat)]):=rfl
theorem YU {p:List Nat} {i:Nat} (h:i < p.length):jl 1 (pln p) (vi (i:Nat))=some (.elt [vi (p[i]:Nat)] 0):=ja h
theorem at_eq (t:T) (p:List Nat) (ht:Tz t) (hp:okP p t) (hl:p.length<=2000000):G 148 [tm t,pln p]=some (.tup [tm (atT p t),vb true],[]):=by
 have key:=upto (P:=λi=>∀t:T,Tz t->okP (p.drop i) t->jh2 (pln p) (vi i) (sv t.name) (jH t.args) (sv []) []=some (.tup [tm (atT (p.drop i) t),vb true],[])) (n:=p.length) ?_ ?_ 0 (ko _) t ht hp
 ·rw [jIm];simp only [jd];exact key
 ·intro t ht _;have e1:=Z5 t ht;rw [jnx,kg];simp only [jd,e1];rfl
 ·intro i hi ih t ht hp;have hlt:(i:Int) < ((p.length:Nat):Int):=by omega
  have h5:=js hi (by show p.length<=9223372036854775807;omega)
  have hs:=ht;unfold Tz at hs;rw [kH] at hs;rw [ji hi] at hp ⊢;obtain ⟨h1,h2⟩:=hp;have hsub:ck (((t.args.length:Nat):Int) - 1)=some (vi (((t.args.length:Nat):Int) - 1)):=jE (by omega) (by omega);have hin:=yx ((p[i]:Nat):Int) 0 (((t.args.length:Nat):Int) - 1);have hb:qx 0 (((t.args.length:Nat):Int) - 1) ((p[i]:Nat):Int)=true:=by unfold qx;simp;omega
  rw [hb] at hin;have e:t.args.getD p[i] (.mk [] [])=t.args[p[i]]:=qo h1;rw [e] at h2;have ih:=ih _ (ht.args _ (jC h1)) h2;rw [jnx,atT,e];simp only [jd,hlt,YU hi,hsub,hin,ja h1,je,h5,ih]
theorem jvi (t:T) (ht:Tz t):jt3 (sv t.name) (jH t.args)=some (.top,[sv t.name,jH t.args]):=by
 have h:=ht;unfold Tz at h;rw [kH] at h;have key:=(upto (P:=λi=>jht (vi i) (sv t.name) (jH t.args) (sv []) (sv t.name) [] ((t.args.take i).map jo)=some (.top,[sv t.name,jH t.args])) (n:=t.args.length) ?_ ?_ 0 (ko _))
 ·rw [jH7];simp only [kU,jal,ql] at key;simp only [jd,key]
 ·rw [ju8,jam];simp only [jd]
 ·intro i hi ih';have hlt:(i:Int) < ((t.args.length:Nat):Int):=by omega
  have h5:=js hi (by show t.args.length<=9223372036854775807;omega)
  have e1:=Z5 t.args[i] (by have:=y7 (jC hi);omega)
  have hf:jA (i+1) 40=true:=jjp (by omega);have hl:((t.args.take i).map jo).length=i:=by rw [kj,Ky];omega
  have ha:jW ((t.args.take i).map jo) [[sv t.args[i].name,jH t.args[i].args]]=(t.args.take (i+1)).map jo:=by
   rw [show [sv t.args[i].name,jH t.args[i].args]=jo t.args[i] from (kG _).symm,jho,kO hi,zy];rfl
  rw [ju8];simp only [jd,hlt,ja hi,je,e1,hl,hf,ha,h5,ih',Ky,ja4 (Qc hi)]
theorem joo (s:T) (hs:Tz s):∀(p:List Nat) (t:T),Tz t->okP p t->p.length<=2000000->G 150 [tm t,pln p,tm s]=some (tm (ze s p t),[])
 | [],t,_,_,_=>by
  have e1:=jvi s hs;have hz:(((0:Nat):Int)=0)=True:=by simp
  rw [jIn,ze];simp only [jd,hz,e1,ql,jM]
 | i::p,t,ht,hp,hl=>by
  obtain ⟨h1,h2⟩:=hp;have e:t.args.getD i (.mk [] [])=t.args[i]:=qo h1;rw [e] at h2;have e1:=jvi t ht;have e2:=joo s hs p t.args[i] (ht.args _ (jC h1)) h2 (by rw [zk] at hl;omega);have hz:¬((p.length+1:Nat):Int)=0:=by omega
  have hz2:¬((p.length:Nat):Int)+1=0:=by omega
  have i0:jl 1 (pln (i::p)) (vi 0)=some (.elt [vi (i:Nat)] 0):=YU (p:=i::p) (i:=0) (by simp);have sl:yq 1 (pln (i::p)) (some (vi 1)) none=some (pln p):=by
   have:=qd (k:=1) (xs:=(i::p).map λn:Nat=>[vi (n:Nat)]) (i:=1) (by simp);exact this
  have ix:Zf t.args.length (vi (i:Nat))=some i:=zz h1;have rg:jac (t.args.map jo) i=some (jo t.args[i]):=by unfold jac;simp [h1]
  have co:yO (jo t.args[i]) 0 [sv (ze s p t.args[i]).name,jH (ze s p t.args[i]).args]=jo (ze s p t.args[i]):=by rw [kG,kG];rfl
  have rs:qg (t.args.map jo) i (jo (ze s p t.args[i]))=(t.args.set i (ze s p t.args[i])).map jo:=by unfold qg;rw [jct]
  have ll:(zn (pln (i::p)))=some (vi ((p.length+1:Nat):Int)):=by rw [jqG];simp only [jd]
  rw [jIn,ze,e];simp only [jd,ll,hz,e1,i0,ja h1,je,sl,e2,ix,rg,co,rs,jM];rfl
theorem jfn {n:List UInt8} (h:jp n=true):n.length<=4:=by
 cases n with
 | nil=>simp
 | cons c r=>
  simp only [jp,jy,kM] at h;rw [zk];omega
theorem jxk {n:List UInt8} (h:y5 n=true):n.length<=6:=by
 cases n with
 | nil=>simp
 | cons c r=>
  simp only [y5,jy,kM] at h;rw [zk];omega
theorem jdT:∀t:T,zS t=true->tsz t<=10 * nodes t:=by
 refine T.ind λt ih hk=> ?_;have hL:∀us:List T,(∀u∈us,tsz u<=10 * nodes u)->Jd us<=10 * jr us:=by
  intro us;induction us with
  | nil=>intro _;simp [Jd]
  | cons u us ih2=>
   intro h;have:=h u (by simp);have:=ih2 λw hw=>h w (by simp [hw]);simp only [Jd,jr];omega
 have h1:=hL t.args λu hu=>ih u hu (zj hk u hu);rw [kH,jT];rw [yp] at hk;cases hv:jp t.name with
 | true=>
  rw [hv,jg rfl] at hk;have:=jfn hv;rw [jcr.1 hk] at h1 ⊢;simp only [yw,Jd] at h1 ⊢;omega
 | false=>
  rw [hv,jf j7,jy,jy,kM] at hk;have:=jxk hk.1;omega
theorem jlW {u:jw} {Z:Nat} (hZ:1<=Z) (hu:∀q∈u,nodes q.2<=Z):∀t:T,nodes (sub u t)<=nodes t * Z:=by
 refine T.ind λt ih=> ?_;cases hv:jp t.name with
 | true=>
  have h1:=qT t;have h2:1 * Z<=nodes t * Z:=jbg Z h1;rw [Jk hv,Js];cases hl:look u t.name with
  | none=>show 1+0<=_;omega
  | some r=>have:nodes r<=Z:=hu _ (JY hl);show nodes r<=_;omega
 | false=>
  have hL:∀us:List T,(∀v∈us,nodes (sub u v)<=nodes v * Z)->jr (us.map (sub u))<=jr us * Z:=by
   intro us;induction us with
   | nil=>intro _;simp [jr]
   | cons v us ih2=>
    intro h;have:=h v (by simp);have:=ih2 λw hw=>h w (by simp [hw]);simp only [zf,jr,yF];omega
  have:=hL t.args ih;rw [jT,jag hv,jT t,yF];omega
theorem Jy {t u:T} (h:u∈t.args):nodes u < nodes t:=by
 have:=qH h;have:=jT t;omega
def Vs (t:T):Prop:=zS t=true/\nodes t<=30
theorem Vs.args {t:T} (h:Vs t):∀u∈t.args,Vs u:=λu hu=>⟨zj h.1 u hu,by have:=Jy hu;have:=h.2;omega⟩
theorem Vs.tz {t:T} (h:Vs t):Tz t:=by
 have:=jdT t h.1;have:=h.2;unfold Tz;omega
def RS (rs:List T):Prop:=rs.length<=10/\ ∀r∈rs,r.args.length=2/\Vs (JD r)/\Vs (Zb r)
theorem RS.ok {rs:List T} (h:RS rs):jat rs:=λr hr=>⟨(h.2 r hr).2.1.1,(h.2 r hr).2.2.1⟩
def EX (root:Bool) (t:T):Prop:=(nodes t<=31/\Tz t)/\(∀u∈t.args,Vs u)/\(root=true->Vs t)
theorem jAj {a s:T} {m:jw} (hs:Vs s) (h:mt [] a s=some m):MOk Vs m:=jlo (p:=Vs) (λ_ h=>h.args) a (MOk.nil _) hs h
theorem jlK {r:T} (hl:r.args.length=2):jl 2 (jH r.args) (vi 0)=some (.elt (jo (JD r)) 0)/\jl 2 (jH r.args) (vi 1)=some (.elt (jo (Zb r)) 0):=by
 have i0:jl 2 (jH r.args) (vi 0)=some (.elt (jo r.args[0]) 0):=ja (i:=0) (by omega);have i1:jl 2 (jH r.args) (vi 1)=some (.elt (jo r.args[1]) 0):=ja (i:=1) (by omega);have e0:JD r=r.args[0]:=qo (by omega);have e1:Zb r=r.args[1]:=qo (by omega);rw [e0,e1];exact ⟨i0,i1⟩
theorem jBu {m:jw} {r:T} (hm:MOk Vs m) (hr:Vs r):zS (sub m r)=true/\nodes (sub m r)<=900/\Tz (sub m r):=by
 have h1:=Y5 (u:=m) (λq hq=>(hm.2 q hq).2.1) r hr.1;have h2:=jlW (u:=m) (Z:=30) (by decide) (λq hq=>(hm.2 q hq).2.2) r;have h3:=hr.2;have h4:=jdT _ h1;exact ⟨h1,by omega,by unfold Tz;omega⟩
theorem jA4 {rs:List T} (hr:RS rs) {s v:T} (hs:Vs s) (h:JC rs s=some v):zS v=true/\nodes v<=900:=by
 have key:∀rs:List T,(∀r∈rs,r.args.length=2/\Vs (JD r)/\Vs (Zb r))->JC rs s=some v->zS v=true/\nodes v<=900:=by
  intro rs;induction rs with
  | nil=>intro _ h;simp [JC] at h
  | cons r rs ih=>
   intro hr h;rw [JC] at h;split at h
   ·rename_i m hm;cases h;obtain ⟨a,b,_⟩:=jBu (jAj hs hm) (hr r (by simp)).2.2;exact ⟨a,b⟩
   ·exact ih (λq hq=>hr q (by simp [hq])) h
 exact key rs hr.2 h
def jDH (t:T) (o:Option T):Option Out:=match o with|some u=>some (.tup [tm u,vb true],[])|none=>some (.tup [tm t,vb false],[])
theorem EX.at {root:Bool} {t:T} (h:EX root t) {p:List Nat} (hp:okP p t) (hne:¬(p = []/\root=false)):Vs (atT p t):=by
 obtain ⟨_,h1,h2⟩:=h;cases p with
 | nil=>
  cases root
  ·exact absurd ⟨rfl,rfl⟩ hne
  ·exact h2 rfl
 | cons i p=>
  obtain ⟨a,b⟩:=hp;refine jvf (p:=p) (q:=Vs) (λ_ h=>h.args) b ?_;rw [qo a];exact h1 _ (jC _)
theorem jwE (rs:List T) (hr:RS rs) (root:Bool) (t:T) (h:EX root t):G 233 [tm t,jH rs,vb root]=jDH t (YS rs root t):=by
 have hrt:=h.1.2;have hpost:=post_eq t [] hrt (by have:=hrt;unfold Tz at this;simp;omega);have hpost:G 272 [tm t,.sl 1 []]=some (.sl 1 ((jab t).map plc),[]):=hpost;have hok:=jqJ t;have hln:=jf8 t;have hr1:=hr.1;rw [<-jwD];generalize hP:jab t=P at *;have key:=upto (P:=λi=>jfG (jH rs) (vb root) (.sl 1 (P.map plc)) (vi i) (sv t.name) (jH t.args) (sv []) []=jDH t ((P.drop i).findSome? (Y4 rs root t))) (n:=P.length) ?_ ?_ 0 (ko _)
 ·rw [jLF];simp only [kU,kD] at key;simp only [jd,hpost,key]
 ·rw [jsZ,kg];show _=some (A.tup [tm t,vb false],[]);simp only [jd]
 ·intro i hi ih;have hn:=h.1.1;have hlt:(i:Int) < ((P.length:Nat):Int):=by omega
  have h5:=js hi (by show P.length<=9223372036854775807;omega)
  have hpi:jl 1 (.sl 1 (P.map plc)) (vi (i:Nat))=some (.elt (plc P[i]) 0):=ja hi;have hpl:zn (pln P[i])=some (vi ((P[i].length:Nat):Int)):=by simp only [jd]
  obtain ⟨ho,hl⟩:=hok P[i] (jC _);rw [ji hi,jcz];by_cases hc:P[i] = []/\root=false
  ·rw [Y4,jg hc];obtain ⟨c1,c2⟩:=hc;subst c2;have c3:(((P[i]).length:Nat):Int)=0:=by rw [c1];rfl
   rw [jsZ];simp only [jd,hlt,hpi,hpl,c3,h5,ih]
  ·have hs:=h.at ho hc;rw [Y4,jf hc];have e1:=at_eq t P[i] hrt ho (by omega);have inner:∀j,j<=rs.length->jfH (jH rs) (vb root) (.sl 1 (P.map plc)) (vi i) (vi j) (sv t.name) (jH t.args) (sv []) (sv (atT P[i] t).name) (jH (atT P[i] t).args) []=(match JC (rs.drop j) (atT P[i] t) with|some v=>jDH t (some (ze v P[i] t))|none=>jDH t ((P.drop (i+1)).findSome? (Y4 rs root t))):=by
    refine upto ?_ ?_
    ·rw [jzW,kg,JC];simp only [jd,h5,ih]
    ·intro j hj ihj;have hltj:(j:Int) < ((rs.length:Nat):Int):=by omega
     have h5j:=js hj (by show rs.length<=9223372036854775807;omega)
     obtain ⟨hr2,hr3,hr4⟩:=hr.2 rs[j] (jC _);obtain ⟨i0,i1⟩:=jlK hr2;have ad:qi (.elt (jo rs[j]) 0) 1=some (.elt (jo rs[j]) 1):=by rw [qV]
     have lp:kN (.elt (jo rs[j]) 1)=some (jH rs[j].args):=by rw [kG];rfl
     have q:=jp4 (JD rs[j]) hr3.tz (atT P[i] t) [] hs.tz (λq hq=>by cases hq) (by have:=hr3.2;simp;omega)
     rw [jzW,ji hj,JC];cases hm:mt [] (JD rs[j]) (atT P[i] t) with
     | none=>
      rw [hm] at q;obtain ⟨R,q⟩:=q;have q:jhO (tm (JD rs[j])) (sv (atT P[i] t).name) (jH (atT P[i] t).args) []=some (.top,[vb false,.sl 259 R]):=q;simp only [jd,hltj,ja hj,ad,lp,i0,je,q,jM,h5j,ihj]
     | some m=>
      rw [hm] at q;have q:jhO (tm (JD rs[j])) (sv (atT P[i] t).name) (jH (atT P[i] t).args) []=some (.top,[vb true,.sl 259 (m.map bc)]):=q;have hM:=jAj hs hm;obtain ⟨_,hml⟩:=jjb (p:=Vs) (λ_ h=>h.args) _ (m:=[]) (λq hq=>by cases hq) hs hm;have hml:m.length<=30:=by have:=hr3.2;simp at hml;omega
      have p1:=jAQ m (λq hq=>(hM.2 q hq).2.tz) (by omega);have hsz:Sz 1048576 (Ka m):=by
       refine ⟨?_,λq hq=> ?_⟩
       ·have:=jk7 m [];show (Ka m).length<=_;unfold Ka;simp at this;omega
       ·have hq:=jwT hq;have:=jfn (hM.2 q hq).1;have:=(hM.2 q hq).2.tz;unfold Tz at this;exact ⟨by omega,by omega⟩
      have p2:=Ku (Ka m) hsz (Zb rs[j]) hr4.tz;rw [jxj (m:=m) ⟨hM.1,λq hq=>⟨(hM.2 q hq).1,(hM.2 q hq).2.1⟩⟩] at p2;obtain ⟨_,_,s3⟩:=jBu hM hr4;have p3:=joo (sub m (Zb rs[j])) s3 P[i] t hrt ho (by omega);show _=some (A.tup [tm (ze (sub m (Zb rs[j])) P[i] t),vb true],[]);simp only [jd,hltj,ja hj,ad,lp,i0,i1,je,q,jM,hpi,p1,p2,p3]
   have inner:=inner 0 (ko _);simp only [kD,kU] at inner;have fin:jfG (jH rs) (vb root) (.sl 1 (P.map plc)) (vi i) (sv t.name) (jH t.args) (sv []) []=jfH (jH rs) (vb root) (.sl 1 (P.map plc)) (vi i) (vi 0) (sv t.name) (jH t.args) (sv []) (sv (atT P[i] t).name) (jH (atT P[i] t).args) []:=by
    rw [jsZ];cases root with
    | true=>
     by_cases c:(((P[i]).length:Nat):Int)=0
     ·simp only [jd,hlt,hpi,hpl,c,e1]
     ·simp only [jd,hlt,hpi,hpl,c,e1]
    | false=>
     have c:¬(((P[i]).length:Nat):Int)=0:=λc=>hc ⟨jgs.1 (by omega),rfl⟩;simp only [jd,hlt,hpi,hpl,c,e1]
   rw [fin,inner];cases JC rs (atT P[i] t) with
   | none=>rfl
   | some v=>rfl
def jjn (o:Option T):Option Out:=match o with|some u=>some (.tup [tm u,vb true],[])|none=>some (.tup [.agg [sv [],.sl 2 []],vb false],[])
theorem jte (rs:List T) (hr:RS rs):∀(t:T) (root:Bool),Tz t->(∀u∈t.args,Vs u)->(root=true->Vs t\/ ∀r∈rs,mt [] (JD r) t=none)->G 130 [tm t,jH rs,vb root]=jjn (YS rs root t):=by
 refine T.ind λt ih root ht hA hRt=> ?_;have hs:=ht;unfold Tz at hs;rw [kH] at hs;have hr1:=hr.1;have second:jfB (vb root) (jH rs) (vi (rs.length:Nat)) (vi 0) (sv t.name) (jH t.args) (sv []) []=jjn (if root then JC rs t else none):=by
  have key:=upto (P:=λj=>jfB (vb root) (jH rs) (vi (rs.length:Nat)) (vi j) (sv t.name) (jH t.args) (sv []) []=jjn (if root then JC (rs.drop j) t else none)) (n:=rs.length) ?_ ?_ 0 (ko _)
  ·exact key
  ·rw [jze,kg,JC,ite_self];show _=some (A.tup [.agg [sv [],.sl 2 []],vb false],[]);simp only [jd]
  ·intro j hj ihj;have hltj:(j:Int) < ((rs.length:Nat):Int):=by omega
   have h5j:=js hj (by show rs.length<=9223372036854775807;omega)
   obtain ⟨hr2,hr3,hr4⟩:=hr.2 rs[j] (jC _);obtain ⟨i0,i1⟩:=jlK hr2;rw [jze,ji hj,JC];cases root with
   | false=>
    simp only [jd,hltj,ja hj,je,h5j,ihj]
   | true=>
    have q:=jwy (JD rs[j]) hr3.tz hr3.1 t [] ht (λq hq=>by cases hq);cases hm:mt [] (JD rs[j]) t with
    | none=>
     rw [hm] at q;obtain ⟨R,q⟩:=q;have q:jdv (tm (JD rs[j])) (sv t.name) (jH t.args) []=some (.top,[vb false,.sl 128 R]):=q;simp only [jd,hltj,ja hj,i0,je,q,jM,h5j,ihj]
    | some m=>
     rw [hm] at q;have q:jdv (tm (JD rs[j])) (sv t.name) (jH t.args) []=some (.top,[vb true,.sl 128 (m.map kv)]):=q;have hM:=(match hRt rfl with|Or.inl hv=>jAj hv hm|Or.inr hno=>by rw [hno _ (jC _)] at hm;cases hm);have p1:=jtq (m:=m) (λq hq=>(hM.2 q hq).1) (λq hq=>(hM.2 q hq).2.tz) (Zb rs[j]) hr4.tz hr4.1;show _=some (A.tup [tm (sub m (Zb rs[j])),vb true],[]);simp only [jd,hltj,ja hj,i0,i1,je,q,jM,p1]
 have first:∀i,i<=t.args.length->jmu (jH rs) (vb root) (jH t.args) (vi (t.args.length:Nat)) (vi i) (sv t.name) (jH t.args) (sv []) []=(match KV rs (t.args.drop i) with|some us=>jjn (some (.mk t.name (t.args.take i++us)))|none=>jjn (if root then JC rs t else none)):=by
  refine upto ?_ ?_
  ·rw [jzd,kg,KV];simp only [jd,second]
  ·intro i hi ih2;have hlt:(i:Int) < ((t.args.length:Nat):Int):=by omega
   have h5:=js hi (by show t.args.length<=9223372036854775807;omega)
   have hu:t.args[i]∈t.args:=jC _;have hv:=hA _ hu;have e1:=ih t.args[i] hu true hv.tz hv.args λ_=>Or.inl hv;rw [jzd,ji hi,KV];cases ho:YS rs true t.args[i] with
   | none=>
    rw [ho] at e1;have e1:G 130 [tm t.args[i],jH rs,vb true]=some (.tup [.agg [sv [],.sl 2 []],vb false],[]):=e1;simp only [jd,hlt,ja hi,je,e1,h5,ih2];cases KV rs (t.args.drop (i+1)) with
    | none=>rfl
    | some us=>
     show jjn (some (.mk t.name (t.args.take (i+1)++us)))=jjn (some (.mk t.name (t.args.take i++t.args[i]::us)));have e:t.args.take (i+1)++us=t.args.take i++t.args[i]::us:=by
      rw [jho,kO hi,yv];rfl
     rw [e]
   | some u=>
    rw [ho] at e1;have e1:G 130 [tm t.args[i],jH rs,vb true]=some (.tup [tm u,vb true],[]):=e1;have e2:=jni t ht;have ix:Zf t.args.length (vi (i:Nat))=some i:=zz hi;have rg:jac (t.args.map jo) i=some (jo t.args[i]):=by unfold jac;simp [hi]
    have co:yO (jo t.args[i]) 0 [sv u.name,jH u.args]=jo u:=by rw [kG,kG];rfl
    have rs':qg (t.args.map jo) i (jo u)=(t.args.take i++u::t.args.drop (i+1)).map jo:=by
     unfold qg;rw [<-jct,List.set_eq_take_append_cons_drop,jg hi]
    show _=some (A.tup [tm (.mk t.name (t.args.take i++u::t.args.drop (i+1))),vb true],[]);simp only [jd,hlt,ja hi,je,e1,e2,ix,rg,co,rs',jM];rfl
 have first:=first 0 (ko _)
 simp only [kD,kU,jal,Ju] at first
 rw [jKt,jaN];simp only [jd,first];cases KV rs t.args<;>rfl
theorem jwC (rs:List T) (hr:RS rs) (t:T) (root:Bool) (h:EX root t):G 130 [tm t,jH rs,vb root]=jjn (YS rs root t):=jte rs hr t root h.1.2 h.2.1 λe=>Or.inl (h.2.2 e)
def Srt (l:List (List UInt8)):Prop:=l.Pairwise λx y=>x < y
theorem Y2 (x y:List UInt8):yX x y=decide (x < y):=Go.Proofs.bytesLess_eq x y
theorem jAf {x y:List UInt8} (h1:¬x < y) (h2:x≠y):y < x:=by
 have h3:y<=x:=List.not_lt.1 h1;exact Std.lt_of_le_of_ne h3 (Ne.symm h2)
theorem jvA:∀(a b:List (List UInt8)),Srt a->Srt b->(∀n,n∈a↔n∈b)->a=b
 | [],[],_,_,_=>rfl
 | [],y::b,_,_,h=>by have:=(h y).2 (by simp);cases this
 | x::a,[],_,_,h=>by have:=(h x).1 (by simp);cases this
 | x::a,y::b,ha,hb,h=>by
  have ha':=qJ.1 ha;have hb':=qJ.1 hb;have hxy:x=y:=by
   have h1:x∈y::b:=(h x).1 (by simp);have h2:y∈x::a:=(h y).2 (by simp);rcases jZ.1 h1 with h1|h1
   ·exact h1
   ·rcases jZ.1 h2 with h2|h2
    ·exact h2.symm
    ·exact absurd (jgp (ha'.1 y h2) (hb'.1 x h1)) (jgq x)
  subst hxy;refine congrArg (x::·) (jvA a b ha'.2 hb'.2 λn=>⟨λhn=> ?_,λhn=> ?_⟩)
  ·rcases jZ.1 ((h n).1 (JR _ hn)) with e|e
   ·subst e;exact absurd (ha'.1 _ hn) (jgq _)
   ·exact e
  ·rcases jZ.1 ((h n).2 (JR _ hn)) with e|e
   ·subst e;exact absurd (hb'.1 _ hn) (jgq _)
   ·exact e
theorem jBp {l:List (List UInt8)} (h:l.Nodup):Srt (qf l):=by
 have h1:(qf l).Pairwise λx y=>decide (x<=y)=true:=List.pairwise_mergeSort (λa b c h1 h2=>by simp only [kM] at *;exact List.le_trans h1 h2) (λa b=>by simp only [jow,kM];exact List.le_total a b) l
 have h2:(qf l).Nodup:=(List.mergeSort_perm l _).nodup_iff.2 h;exact (h1.and h2).imp λ{x y} hxy=>Std.lt_of_le_of_ne (by simpa using hxy.1) hxy.2
theorem jvB {l:List (List UInt8)} {s:List UInt8} {i:Nat} (hl:Srt l) (h1:∀x∈l.take i,x < s) (h2:∀h:i < l.length,s < l[i]):Srt (l.take i++[s]++l.drop i):=by
 have hl':Srt (l.take i++l.drop i):=by rw [jmf];exact hl
 obtain ⟨p1,p2,p3⟩:=jgr.1 hl';have h3:∀y∈l.drop i,s < y:=by
  intro y hy;have hlt:i < l.length:=by
   rcases ja3 i l.length with h|h
   ·exact h
   ·rw [jmi h] at hy;cases hy
  rw [jtT hlt] at hy p2;rcases jZ.1 hy with e|e
  ·subst e;exact h2 hlt
  ·exact jgp (h2 hlt) ((qJ.1 p2).1 y e)
 refine jgr.2 ⟨jgr.2 ⟨p1,by simp,λa ha b hb=> ?_⟩,p2,λa ha b hb=> ?_⟩
 ·rw [ku.1 hb];exact h1 a ha
 ·rcases kZ.1 ha with ha|ha
  ·exact p3 a ha b hb
  ·rw [ku.1 ha];exact h3 b hb
theorem jxe {l:List (List UInt8)} (h:Srt l):l.Nodup:=h.imp λ{x y} hxy e=>by subst e;exact jgq _ hxy
mutual
def Y6:T->List (List UInt8)
 | .mk n us=>(if jp n then [] else [n])++JO us
def JO:List T->List (List UInt8)
 | []=>[]
 | t::ts=>Y6 t++JO ts
end
theorem jah (t:T):Y6 t=(if jp t.name then [] else [t.name])++JO t.args:=by cases t;rfl
theorem jwl (l:List (List UInt8)) (s:List UInt8) (hl:l.length<=2100000):∃r,G 187 [strs l,sv s]=some (strs r,[])/\jd8 l [s] 1 r/\(Srt l->Srt r):=by
 have key:=upto (P:=λi=>(Srt l-> ∀x∈l.take i,x < s)-> ∃r,jh6 (strs l) (sv s) (vi i)=some (strs r,[])/\jd8 l [s] 1 r/\(Srt l->Srt r)) (n:=l.length) ?_ ?_ 0 (ko _)
 ·simp only [kU] at key;rw [jIq];exact key (by simp)
 ·intro hless;have hx:¬((l.length:Nat):Int) < ((l.length:Nat):Int):=Int.lt_irrefl _;have s1:yq 1 (strs l) none (some (vi (l.length:Nat)))=some (strs l):=by rw [KD (by simp),Zd (by simp)]
  have s2:yq 1 (strs l) (some (vi (l.length:Nat))) none=some (.sl 1 []):=by rw [qd (by simp),jmi (by simp)]
  have f1:jA l.length 16=true:=Kq (by omega);have f2:jA (l.length+1) 16=true:=Kq (by omega);have happ:jW (jW (l.map cs) [[sv s]]) []=(l++[s]).map cs:=by simp [jW]
  have hlen:(jW (l.map cs) [[sv s]]).length=l.length+1:=by simp [jW]
  refine ⟨l++[s],?_,⟨by intro n;simp,by simp⟩,λh=> ?_⟩
  ·rw [jny];simp only [jd,hx,s1,s2,f1,f2,hlen,happ,j9]
  ·have:=jvB (s:=s) (i:=l.length) h (hless h) (λh=>absurd h (Nat.lt_irrefl _));simpa using this
 ·intro i hi ih hless;have hlt:(i:Int) < ((l.length:Nat):Int):=by omega
  have h5:=js hi (by omega);rw [jny];cases h1:yX l[i] s
  ·by_cases h2:l[i]=s
   ·refine ⟨l,?_,⟨λn=>⟨λh=>Or.inl h,λh=>by
     rcases h with h|h
     ·exact h
     ·simp at h;rw [h,<-h2];exact jC _⟩,by omega⟩,id⟩
    rw [h2] at h1;simp only [jd,hlt,ja hi,h2,h1]
   ·have s1:yq 1 (strs l) none (some (vi i))=some (strs (l.take i)):=by rw [KD (by simp;omega),<-jfr]
    have s2:yq 1 (strs l) (some (vi i)) none=some (strs (l.drop i)):=by rw [qd (by simp;omega),<-jcA]
    have ht:(l.take i).length=i:=by rw [Ky];omega
    have f1:jA i 16=true:=Kq (by omega);have f2:jA (i+1) 16=true:=Kq (by omega);have f3:jA (i+1+(l.drop i).length) 16=true:=Kq (by rw [qu];omega);have happ:jW (jW ((l.take i).map cs) [[sv s]]) ((l.drop i).map cs)=(l.take i++[s]++l.drop i).map cs:=by simp [jW]
    have hlen:(jW ((l.take i).map cs) [[sv s]]).length=i+1:=by simp [jW];omega
    refine ⟨l.take i++[s]++l.drop i,?_,⟨λn=> ?_,by simp;omega⟩,λh=> ?_⟩
    ·simp only [jd,hlt,ja hi,h1,h2,s1,s2,ht,f1,f2,f3,hlen,happ]
    ·have hm:n∈l↔n∈l.take i\/n∈l.drop i:=by rw [<-kZ,jmf]
     simp only [kZ,ku,hm];exact ⟨λh=>by rcases h with (h|h)|h<;>simp [h],λh=>by rcases h with (h|h)|h<;>simp [h]⟩
    ·rw [Y2,jcx] at h1;exact jvB h (hless h) λ_=>jAf h1 h2
  ·have hx:l[i] < s:=by rw [Y2,kM] at h1;exact h1
   obtain ⟨r,e,c⟩:=ih λh x hm=>by
    rw [jkf hi] at hm;rcases kZ.1 hm with hm|hm
    ·exact hless h x hm
    ·rw [ku.1 hm];exact hx
   refine ⟨r,?_,c⟩;simp only [jd,hlt,ja hi,h1,h5,e]
theorem jgL:∀t:T,Zc t-> ∀l:List (List UInt8),l.length+nodes t<=2100000-> ∃r,G 138 [strs l,tm t]=some (strs r,[])/\jd8 l (Y6 t) (nodes t) r/\(Srt l->Srt r):=by
 refine T.ind λt ih hw l hb=> ?_;obtain ⟨w1,w2,w3⟩:=(kR t).1 hw;have w3:=(kW _).1 w3;have e1:=zK t.name w1;rw [jKA,jah];rw [jT] at hb ⊢;have key:=upto (P:=λi=>∀l:List (List UInt8),l.length+jr (t.args.drop i)<=2100000-> ∃r,jhY (strs l) (vi i) (sv t.name) (jH t.args)=some (strs r,[])/\jd8 l (JO (t.args.drop i)) (jr (t.args.drop i)) r/\(Srt l->Srt r)) (n:=t.args.length) ?_ ?_ 0 (ko _)
 ·simp only [kU,kD] at key;cases hv:jp t.name<;>rw [hv] at e1
  ·obtain ⟨r0,e0,⟨b1,b2⟩,b3⟩:=jwl l t.name (by omega);obtain ⟨r,e,⟨c1,c2⟩,c3⟩:=key r0 (by omega);refine ⟨r,?_,⟨λn=> ?_,by omega⟩,λh=>c3 (b3 h)⟩
   ·simp only [jd,e1,e0,e]
   ·rw [c1,b1];simp only [Zi,K6,kZ];exact Ya
  ·obtain ⟨r,e,⟨c1,c2⟩,c3⟩:=key l (by omega);refine ⟨r,?_,⟨by simpa using c1,by omega⟩,c3⟩;simp only [jd,e1,e]
 ·intro l hb;rw [jzm,kg];refine ⟨l,?_,⟨by simp [JO],by omega⟩,id⟩;simp only [jd]
 ·intro i hi ih' l hb;have hlt:(i:Int) < ((t.args.length:Nat):Int):=by omega
  have h5:=js hi w2;rw [ji hi] at hb ⊢;simp only [jr,JO] at hb ⊢;obtain ⟨r1,a1,⟨c1,c2⟩,c3⟩:=ih t.args[i] (jC _) (w3 _ (jC _)) l (by omega);obtain ⟨r2,a2,⟨d1,d2⟩,d3⟩:=ih' r1 (by omega);rw [jzm];refine ⟨r2,?_,⟨λn=> ?_,by omega⟩,λh=>d3 (c3 h)⟩
  ·simp only [jd,hlt,ja hi,je,a1,h5,a2]
  ·rw [d1,c1,kZ];exact Ya
theorem jjX {n:List UInt8} (h:jp n=true):y5 n=false:=by
 cases n with
 | nil=>rfl
 | cons c r=>
  simp only [jp,jy,upc,qx,kM] at h;have:jc7 c=false:=by unfold jc7 qx;rw [Bool.and_eq_false_iff];left;rw [jcx];omega
  simp [y5,this]
theorem jrk {t:T} (h:zS t=true):y5 t.name=!jp t.name:=by
 obtain ⟨c,r,_,hv,hs⟩:=jqo h;cases hx:jp t.name
 ·rw [hv] at hx;rw [hs hx];rfl
 ·rw [jjX hx];rfl
def jkL (l vs:List (List UInt8)) (k:Nat) (r:List (List UInt8)):Prop:=jd8 l vs k r/\(l.Nodup->r.Nodup)
theorem jck (ts:List T) (hl:ts.length<=9223372036854775807) (ih:∀t∈ts,∀l:List (List UInt8),l.length+nodes t<=2100000-> ∃r,jaq (sv t.name) (jH t.args) (l.map cs)=some (.top,[strs r])/\jkL l (Y6 t) (nodes t) r) :
  ∀i,i<=ts.length-> ∀l:List (List UInt8),l.length+jr (ts.drop i)<=2100000-> ∃r,jef (jH ts) (vi (ts.length:Nat)) (vi i) (l.map cs)=some (.top,[strs r])/\jkL l (JO (ts.drop i)) (jr (ts.drop i)) r:=by
 refine upto ?_ ?_
 ·intro l hb;rw [jpV,kg];refine ⟨l,?_,⟨by simp [JO],by omega⟩,id⟩;simp only [jd]
 ·intro i hi ih' l hb;have hlt:(i:Int) < ((ts.length:Nat):Int):=by omega
  have h5:=js hi hl;rw [ji hi] at hb ⊢;simp only [jr,JO] at hb ⊢;obtain ⟨r1,e1,⟨c1,c2⟩,c3⟩:=ih ts[i] (jC _) l (by omega);obtain ⟨r2,e2,⟨d1,d2⟩,d3⟩:=ih' r1 (by omega);rw [jpV];refine ⟨r2,?_,⟨λn=> ?_,by omega⟩,λh=>d3 (c3 h)⟩
  ·simp only [jd,hlt,ja hi,je,e1,h5,e2]
  ·rw [d1,c1,kZ];exact Ya
theorem jbe (ts:List T) (hl:ts.length<=9223372036854775807) (ih:∀t∈ts,∀l:List (List UInt8),l.length+nodes t<=2100000-> ∃r,jaq (sv t.name) (jH t.args) (l.map cs)=some (.top,[strs r])/\jkL l (Y6 t) (nodes t) r) (l:List (List UInt8)) (hb:l.length+jr ts<=2100000) :
  ∃r,jh5 (jH ts) (vi (ts.length:Nat)) (vi 0) (l.map cs)=some (.top,[strs r])/\jkL l (JO ts) (jr ts) r:=by
 have loop:=jck ts hl ih;rw [jzD];by_cases h0:ts.length=0
 ·have ha:ts = []:=jgs.1 h0;rw [ha];refine ⟨l,?_,⟨by simp [JO],by simp [jr]⟩,id⟩;simp only [jd];rfl
 ·have hi:0 < ts.length:=by omega
  have hlt:(0:Int) < ((ts.length:Nat):Int):=by omega
  have hix:jl 2 (jH ts) (vi 0)=some (.elt (jo ts[0]) 0):=ja (i:=0) hi;have h5:ju .add false (vi 0) (vi 1)=some (vi ((1:Nat):Int)):=by rw [KX,jE (by decide) (by decide)];rfl
  have hd:ts=ts[0]::ts.drop 1:=by have:=ji hi;simpa using this
  have hns:jr ts=nodes ts[0]+jr (ts.drop 1):=by conv=>lhs;rw [hd,jr]
  have hvs:JO ts=Y6 ts[0]++JO (ts.drop 1):=by conv=>lhs;rw [hd,JO]
  obtain ⟨r1,e1,⟨c1,c2⟩,c3⟩:=ih ts[0] (jC _) l (by omega);obtain ⟨r2,e2,⟨d1,d2⟩,d3⟩:=loop 1 (by omega) r1 (by omega);refine ⟨r2,?_,⟨λn=> ?_,by omega⟩,λh=>d3 (c3 h)⟩
  ·simp only [jd,hlt,hix,je,e1,h5,e2]
  ·rw [d1,c1,hvs,kZ];exact Ya
theorem jfh:∀t:T,Zc t->zS t=true-> ∀l:List (List UInt8),l.length+nodes t<=2100000-> ∃r,jaq (sv t.name) (jH t.args) (l.map cs)=some (.top,[strs r])/\jkL l (Y6 t) (nodes t) r:=by
 refine T.ind λt ih hw hk l hb=> ?_;obtain ⟨w1,w2,w3⟩:=(kR t).1 hw;have w3:=(kW _).1 w3;have hks:=zj hk;have e1:=jbR t.name w1;have e2:=ZF l t.name (by omega);rw [jrk hk] at e1;rw [jF4,jah];have ih':∀u∈t.args,∀l:List (List UInt8),l.length+nodes u<=2100000-> ∃r,jaq (sv u.name) (jH u.args) (l.map cs)=some (.top,[strs r])/\jkL l (Y6 u) (nodes u) r:=λu hu=>ih u hu (w3 u hu) (hks u hu);rw [jT] at hb ⊢;cases hv:jp t.name<;>rw [hv] at e1
 ·cases hc:l.contains t.name<;>rw [hc] at e2
  ·have hn:¬t.name∈l:=by simpa using hc
   obtain ⟨r,e,⟨c1,c2⟩,c3⟩:=jck t.args w2 ih' 0 (ko _) (l++[t.name]) (by simp;omega)
   simp only [kU,kD,zh,qm] at e c1 c2;have happ:jW (l.map cs) [[sv t.name]]=(l++[t.name]).map cs:=by simp [jW]
   have f1:jA (l.length+1) 16=true:=Kq (by omega);refine ⟨r,?_,⟨λn=> ?_,by omega⟩,λh=>c3 ?_⟩
   ·simp only [jd,e1,e2,f1,happ,e]
   ·rw [c1];simp only [Zi,K6,kZ];exact Ya
   ·exact jke.2 ⟨h,by simp,λa ha b hb e=>by rw [ku.1 hb] at e;rw [e] at ha;exact hn ha⟩
  ·have hn:t.name∈l:=by simpa using hc
   obtain ⟨r,e,⟨c1,c2⟩,c3⟩:=jbe t.args w2 ih' l (by omega);refine ⟨r,?_,⟨λn=> ?_,by omega⟩,c3⟩
   ·simp only [jd,e1,e2,e]
   ·rw [c1];simp only [Zi,K6,kZ,ku];exact ⟨λh=>by rcases h with h|h<;>simp [h],λh=>by
     rcases h with h|h|h
     ·exact Or.inl h
     ·exact Or.inl (h ▸ hn)
     ·exact Or.inr h⟩
 ·obtain ⟨r,e,⟨c1,c2⟩,c3⟩:=jbe t.args w2 ih' l (by omega);refine ⟨r,?_,⟨by simpa using c1,by omega⟩,c3⟩;simp only [jd,e1,e]
theorem jAE {n:Nat} (h:n<=4000000):jA n 8=true:=by
 unfold jA;simp;omega
theorem jDT (n:Nat) (h:n<=12):((yS .u64 (zU [[vi 1]])).bind λt2=>(yS .u64 (vi n)).bind λt3=>(G 216 [t2,t3]).bind (fin false))=some (.tup [.val (.int .u64 0),.val (.int .u64 n)]):=by
 have c:(yS .u64 (zU [[vi 1]]))=some (.val (.int .u64 1)):=by kernel_rfl
 have d:yS .u64 (vi n)=some (.val (.int .u64 n)):=by
  rcases n with _|_|_|_|_|_|_|_|_|_|_|_|_|n
  rotate_right
  ·omega
  all_goals kernel_rfl
 rw [c,d];simp only [yy];rw [jLt];simp only [cev];rw [jLQ];clear c d;rcases n with _|_|_|_|_|_|_|_|_|_|_|_|_|n
 rotate_right
 ·omega
 all_goals (show _=_;kernel_rfl)
theorem jyq {α:Type} {a b:α} {i j k:Nat} (h:i<=k):(List.replicate i a++List.replicate j b).drop k=List.replicate (j - (k - i)) b:=by
 rw [List.drop_append,List.drop_replicate,List.drop_replicate,K4,show i - k=0 by omega];rfl
theorem jA0 {n:Nat} (hn:n<=12) (r1:List (List A)):∀(f j:Nat),n - j<=f->1<=j->j<=n->
  jeg (vi (j:Nat)) (List.replicate j [vi 1]++List.replicate (n - j) [vi 0]) r1=some (.top,[.sl 1 (List.replicate n [vi 1])]):=by
 intro f;induction f with
 | zero=>
  intro j h1 h2 h3;have:j=n:=by omega
  subst this;rw [jeU];simp only [jd,zh,K4,jgk,List.replicate_zero,qv]
 | succ f ih=>
  intro j h1 h2 h3;by_cases hj:j=n
  ·subst hj;rw [jeU];simp only [jd,zh,K4,jgk,List.replicate_zero,qv]
  ·rw [jeU];simp only [cev];have hl:(List.replicate j [vi 1]++List.replicate (n - j) [vi 0]).length=n:=by simp;omega
   have e1:decide ((j:Int) < (n:Int))=true:=by simp;omega
   have hm:j+min j (n - j)<=n:=by omega
   have e2:ju .add false (vi j) (vi (min j (n - j):Nat))=some (vi (j+min j (n - j):Nat)):=by
    rw [KX,jE (by omega) (by omega)];rfl
   have ew:(((List.replicate j [vi 1]++List.replicate (n - j) [vi 0]).drop 0).take j)=List.replicate j [vi 1]:=by
    rw [kD,ja2 (by simp),Zd (by simp)]
   have eo:qj (List.replicate j [vi 1]++List.replicate (n - j) [vi 0]) (0+j) ((List.replicate j [vi 1]).take (n - j))=List.replicate (j+min j (n - j)) [vi 1]++List.replicate (n - (j+min j (n - j))) [vi 0]:=by
    rw [jad,yd,ja2 (by simp),Zd (by simp),List.take_replicate,K4,jyq]
    ·rw [List.replicate_append_replicate,Nat.min_comm (n - j) j];congr 2;omega
    ·omega
   have key:=ih (j+min j (n - j)) (by omega) (by omega) hm;simp only [KZ,jn0,Jh,hl,jeZ,yy,YT,e1,jex,jak,yg (kz n),Jq h3,je3,qO,ew,jvq,jqQ,K4,e2,eo,key]
theorem jG2 {n:Nat} (h:n<=12):jr5 (vi (n:Nat)) [[vi 1]]=some (.top,[.sl 1 (List.replicate n [vi 1])]):=by
 rw [jF5];simp only [cev];have e0:decide ((n:Int) < 0)=false:=by simp
 have em:=jDT n h;have eg:decide ((0:Int) < 0)=false:=by simp
 have ec:yS .i64 (A.val (.int .u64 n))=some (vi n):=jE (by omega) (by omega);have ek:ju .gtr false (A.val (.int .u64 n)) (A.val (.int .u64 9223372036854775807))=some (vb false):=by
  show some (vb (decide ((9223372036854775807:Int) < n)))=_;rw [kA (by omega)]
 have ek0:ju .gtr false (A.val (.int .u64 0)) (A.val (.int .u64 0))=some (vb false):=rfl;have emk:jjt 8 (vi n) (vi n)=some n:=by
  show (if jBZ 8 (n:Int) (n:Int) then some (n:Int).toNat else none)=_;rw [jg ⟨by omega,by omega,by omega,by omega⟩];rfl
 have hm:∀(k:A->A->Option Out),((yS .u64 (zU [[vi 1]])).bind λt2=>(yS .u64 (vi n)).bind λt3=>((G 216 [t2,t3]).bind (fin false)).bind λt4=>(jb7 t4 0).bind λt5=>(jb7 t4 1).bind λt6=>k t5 t6) =
   k (.val (.int .u64 0)) (.val (.int .u64 n)):=by
  intro k;have:((yS .u64 (zU [[vi 1]])).bind λt2=>(yS .u64 (vi n)).bind λt3=>((G 216 [t2,t3]).bind (fin false)).bind λt4=>(jb7 t4 0).bind λt5=>(jb7 t4 1).bind λt6=>k t5 t6) =
    (((yS .u64 (zU [[vi 1]])).bind λt2=>(yS .u64 (vi n)).bind λt3=>(G 216 [t2,t3]).bind (fin false)).bind λt4=>(jb7 t4 0).bind λt5=>(jb7 t4 1).bind λt6=>k t5 t6):=by
   simp only [Option.bind_assoc]
  rw [this,em];rfl
 rw [jeZ,e0];simp only [yy,YT,Yt];rw [hm];simp only [ek0,ek,yy,jAG,Jw,jju,Zi,K6,YT,Yt,ec,emk,Zw,jn0,K4];rcases n with _|n
 ·have e1:jwX [[vi 1]] 0=vi ((0:Nat):Int):=rfl;have e2:qj (List.replicate 0 [vi 0]) 0 (jlD [[vi 1]] 0) = []:=rfl;rw [e1,e2,jeU];rfl
 ·have key:=jA0 (n:=n+1) h [[vi 1]] (n+1) 1 (by omega) (by omega) (by omega);have e1:jwX [[vi 1]] (n+1)=vi ((1:Nat):Int):=by
   rw [jvq];have:min [[vi 1]].length (n+1)=1:=by simp
   rw [this]
  have e2:qj (List.replicate (n+1) [vi 0]) 0 (jlD [[vi 1]] (n+1))=List.replicate 1 [vi 1]++List.replicate (n+1 - 1) [vi 0]:=by
   rw [jad,jqQ];simp [jcB]
  rw [e1,e2];exact key
theorem jjY {ts:List T} {n:List UInt8} :n∈JO ts↔ ∃t∈ts,n∈Y6 t:=by
 induction ts with
 | nil=>simp [JO]
 | cons t ts ih=>simp [JO,ih]
theorem jlX:∀t:T,zS t=true-> ∀n∈Y6 t,y5 n=true:=by
 refine T.ind λt ih hk n hn=> ?_;rw [jah,kZ] at hn;rcases hn with hn|hn
 ·cases hv:jp t.name<;>rw [hv] at hn
  ·simp at hn;rw [hn,jrk hk,hv];rfl
  ·simp at hn
 ·obtain ⟨u,hu,hm⟩:=jjY.1 hn;exact ih u hu (zj hk u hu) n hm
theorem jph (l:List (List UInt8)):∀t:T,(∀n∈Y6 t,n∈l)->K9 l t=true:=by
 refine T.ind λt ih h=> ?_;rw [jah] at h;rw [Kn,QZ,jy];refine ⟨?_,qn.2 λu hu=>ih u hu λn hn=>h n (Kg _ (jjY.2 ⟨u,hu,hn⟩))⟩;cases hv:jp t.name
 ·rw [hv] at h;rw [zF];exact jcw.2 (h t.name (by simp))
 ·rfl
def jjV (r:List (List UInt8)):Ord':=⟨r,List.replicate r.length 1,1⟩
theorem jxu {r:List (List UInt8)} (h1:1<=r.length) (h2:r.length<=12) (hs:∀n∈r,y5 n=true) (hn:r.Nodup):qk (jjV r)=true:=by
 have hb:qx 1 12 (r.length:Nat)=true:=by unfold qx;rw [jy,kM,kM];omega
 unfold qk jjV;simp only [hb,K4,decide_true,jR,jy];refine ⟨by decide,qn.2 λi hi=> ?_⟩;have hi:i < r.length:=List.mem_range.1 hi;have g1:r.getD i []=r[i]:=by simp [zY,hi]
 have g2:(List.replicate r.length (1:Int)).getD i 0=1:=by simp [zY,hi]
 unfold jv0;simp only [g1,g2,hs _ (jC _),jR,jy];refine ⟨?_,by decide⟩;rw [jan,<-Bool.not_eq_true,jcw];intro hm;obtain ⟨j,hj,e⟩:=List.mem_take_iff_getElem.1 hm;have:=(jtU.1 hn);have:=jkh.1 this j i (by omega) hi (by omega);exact this e
theorem jBw {n:List UInt8} (h:y5 n=true):n.length<=6:=by
 cases n with
 | nil=>simp
 | cons c r=>
  simp only [y5,jy,kM] at h;simp only [zk];omega
theorem jir (o:Ord') (s t:T) (hw:Zc s) (hw':Zc t) (x y:Bool) (e5:G 219 [od o,tm s,tm t]=some (vb x,[])) (e6:G 219 [od o,tm t,tm s]=some (vb y,[])):G 174 [od o,tm s,tm t]=some (vi (jbG (dq s t) x y),[]):=by
 have e4:=ya s hw t hw';have c1:G 218 [.elt (jnS o) 0,.elt [sv s.name,.sl 2 (s.args.map jo)] 0,.elt [sv t.name,.sl 2 (t.args.map jo)] 0]=some (vb x,[]):=by
  rw [jIt];simp only [jd,je0,je1,e5]
 have c2:G 220 [.elt (jnS o) 0,.elt [sv t.name,.sl 2 (t.args.map jo)] 0,.elt [sv s.name,.sl 2 (s.args.map jo)] 0]=some (vb y,[]):=by
  rw [jIv];simp only [jd,je0,je1,e6]
 have e7:=jjm (f:=218) (g:=220) rfl rfl (dq s t) _ _ c1 c2;rw [jIp];simp only [jd,e4,e7]
theorem jai {t:T} (hk:zS t=true) (hv:jp t.name=true):t.args = []:=by
 rw [yp,hv,jg rfl] at hk;exact jcr.1 hk
theorem jpN (o:Ord') (s t:T) (hw:Zc s) (hw':Zc t) (hk:zS s=true) (hk':zS t=true) (hv:jp s.name=true) (hv':jp t.name=true) (hne:¬s.name=t.name):G 219 [od o,tm s,tm t]=some (vb false,[]):=by
 have as_:=jai hk hv;have at_:=jai hk' hv';have ns:nodes s<=1048577:=by rw [jT,as_];simp [jr]
 have nt:nodes t<=1048577:=by rw [jT,at_];simp [jr]
 obtain ⟨r,er,c1,c2⟩:=jfo t hw' hk' nt;have hvt:kK t = [t.name]:=by rw [Jt,jg hv']
 have hpos:0 < r.length:=by
  rcases Nat.eq_zero_or_pos r.length with h|h
  ·have hr:r = []:=jgs.1 h;have:=(c1 t.name).2 (by rw [hvt];simp);rw [hr] at this;cases this
  ·exact h
 have h0:r[0]=t.name:=by
  have:=(c1 r[0]).1 (jC _);rw [hvt] at this;simpa using this
 have hlt:(0:Int) < ((r.length:Nat):Int):=by omega
 have hix:jl 1 (strs r) (vi 0)=some (.elt (cs t.name) 0):=by have:=ja (k:=1) (f:=cs) (i:=0) hpos;rw [h0] at this;exact this
 have a1:=KR t.name s hw ns;have a2:=KR t.name t hw' nt;have k1:cnt t.name s=0:=by rw [jfP,as_,jf hne];simp [Yf]
 have k2:cnt t.name t=1:=by rw [jfP,at_];simp [Yf]
 rw [k1] at a1;rw [k2] at a2;have h':((0:Nat):Int) < ((1:Nat):Int):=by omega
 rw [jIu];simp only [jd,er];rw [jsY];simp only [jd,hlt,hix,a1,a2,h']
theorem jBq (a b:T) (r:List (List UInt8)) (hr:r.length<=12) (x:Int) (ok:Bool) (e:G 139 [.agg [strs r,.sl 1 (List.replicate r.length [vi 1]),vi 1],tm a,tm b]=some (.tup [vi x,vb ok],[])) :
  joT (vi 0) (sv a.name) (jH a.args) (sv b.name) (jH b.args) (strs r) (vi 1) []=some (vi (if ok then x else 0),[]):=by
 have key:=upto (P:=λi=>joT (vi i) (sv a.name) (jH a.args) (sv b.name) (jH b.args) (strs r) (vi 1) (List.replicate i [vi 1])=some (vi (if ok then x else 0),[])) (n:=r.length) ?_ ?_ 0 (ko _)
 ·simpa using key
 ·rw [jFc];have hf:fin true (A.tup [vi x,vb ok],[])=some (A.tup [vi x,vb ok]):=rfl;cases ok
  ·simp only [jd,e,hf]
  ·simp only [jd,e,hf]
 ·intro i hi ih;have hlt:(i:Int) < ((r.length:Nat):Int):=by omega
  have h5:=js hi (by omega);have f1:jA (i+1) 8=true:=jAE (by omega);have happ:jW (List.replicate i [vi 1]) [[vi 1]]=List.replicate (i+1) [vi 1]:=by rw [List.replicate_succ'];rfl
  have hlen:(List.replicate i ([vi 1]:List A)).length=i:=K4;rw [jFc];simp only [jd,hlt,hlen,f1,h5,happ,ih]
theorem jGv {o:Ord'} (hv:qk o=true) {s t:T} (ks:zS s=true) (hc:K9 o.syms t=true) (h:Kp o s t):jp s.name=false:=by
 cases hs:jp s.name with
 | false=>rfl
 | true=>
  obtain ⟨_,h⟩:=(jxO o s t).1 h;rcases h with h|⟨_,h,_⟩
  ·have:=jHl hv hc;rw [jrJ o s,jai ks hs,hs,jg rfl] at h;simp only [wtL] at h;omega
  ·rw [hs] at h;cases h.1
theorem jjl (a b:T) (hw:Zc a) (hw':Zc b) (hs:tsz a<=1048576) (hs':tsz b<=1048576) (hva:zl a=true) (hvb:zl b=true) :
  ∃x:Int,G 98 [tm a,tm b]=some (vi x,[])/\G 124 [tm a,tm b]=some (vi x,[])/\(x=2->jp a.name=false):=by
 have hk:zS a=true:=by unfold zl at hva;rw [jy] at hva;exact hva.2
 have hk':zS b=true:=by unfold zl at hvb;rw [jy] at hvb;exact hvb.2
 have na:nodes a<=30:=by simp only [zl,jD,jy,kM] at hva;exact hva.1.1
 have nb:nodes b<=30:=by simp only [zl,jD,jy,kM] at hvb;exact hvb.1.1
 have e1:=Jx a hw b hw';have e2:=ya a hw b hw';rw [g98,jKp];cases hd:dq a b<;>rw [hd] at e1 e2
 rotate_left
 ·exact ⟨1,by simp only [jd,e1],by simp only [jd,e2],λh=>absurd h (by decide)⟩
 obtain ⟨r1,f1,⟨c1,c2⟩,c3⟩:=jgL a hw [] (by simp;omega)
 obtain ⟨r,f2,⟨d1,d2⟩,d3⟩:=jgL b hw' r1 (by simp at c2;omega)
 have hsrt:Srt r:=d3 (c3 List.Pairwise.nil);have hmem:∀n,n∈r↔n∈Y6 a\/n∈Y6 b:=λn=>by rw [d1,c1];simp
 have hlen:r.length<=60:=by simp at c2;omega
 have f1:G 138 [.sl 1 [],tm a]=some (strs r1,[]):=f1;obtain ⟨p1,g1,⟨i1,i2⟩,i3⟩:=jfh a hw hk [] (by simp;omega);obtain ⟨p,g2,⟨j1,j2⟩,j3⟩:=jfh b hw' hk' p1 (by simp at i2;omega);have hnd:p.Nodup:=j3 (i3 jkc);have hpm:∀n,n∈p↔n∈Y6 a\/n∈Y6 b:=λn=>by rw [j1,i1];simp
 have hsort:qf p=r:=jvA _ _ (jBp hnd) hsrt λn=>by rw [hmem,<-hpm];unfold qf;exact List.mem_mergeSort
 have hpl:p.length=r.length:=by rw [<-hsort];simp [qf]
 have g1:jaq (sv a.name) (jH a.args) []=some (.top,[strs p1]):=g1;have g3:jhN (p.map cs)=some (.top,[strs r]):=by
  rw [jx8];simp only [jlT,jd0];rw [jg (by omega),hsort]
 by_cases h12:r.length<=12;rotate_left
 ·have hgt:((12:Nat):Int) < ((r.length:Nat):Int):=by omega
  have hle:¬((r.length:Nat):Int)<=12:=by omega
  have hgt:(12:Int) < ((r.length:Nat):Int):=by omega
  have hz:¬((r.length:Nat):Int)=0:=by omega
  refine ⟨0,?_,?_,λh=>absurd h (by decide)⟩
  ·simp only [jd,e1,f1,f2,hz,hle,hgt]
  ·simp only [jd,e2,g1,g2,hpl,hle,hgt]
 have hle:((r.length:Nat):Int)<=12:=by omega
 have hgt:¬(12:Int) < ((r.length:Nat):Int):=by omega
 have hrep:=jG2 h12;have hci:(ints (List.replicate r.length 1):A) = .sl 1 (List.replicate r.length [vi 1]):=by show A.sl 1 _=_;rw [List.map_replicate]
 have hod:(od (jjV r):A) = .agg [strs r,.sl 1 (List.replicate r.length [vi 1]),vi 1]:=by rw [<-hci];rfl
 by_cases h0:r.length=0
 ·have hr:r = []:=jgs.1 h0;have hz:((r.length:Nat):Int)=0:=by omega
  have va:jp a.name=true:=by
   cases hv:jp a.name
   ·have:=(hmem a.name).2 (Or.inl (by rw [jah,hv];simp))
    rw [hr] at this;cases this
   ·rfl
  have vb':jp b.name=true:=by
   cases hv:jp b.name
   ·have:=(hmem b.name).2 (Or.inr (by rw [jah,hv];simp))
    rw [hr] at this;cases this
   ·rfl
  have hne:¬a.name=b.name:=λe=>by
   rw [jGk,e,jai hk va,jai hk' vb',jcO] at hd;simp at hd
  have q:=jir (jjV r) a b hw hw' false false (jpN _ a b hw hw' hk hk' va vb' hne) (jpN _ b a hw' hw hk' hk vb' va (λe=>hne e.symm));rw [hd,hod] at q;refine ⟨0,?_,?_,λh=>absurd h (by decide)⟩
  ·simp only [jd,e1,f1,f2,hz]
  ·simp only [jd,e2,g1,g2,hpl,hle,hgt,g3,hrep,q,jbG]
 have hsym:∀n∈r,y5 n=true:=λn hn=>by
  rcases (hmem n).1 hn with h|h
  ·exact jlX a hk n h
  ·exact jlX b hk' n h
 have hval:=jxu (by omega) h12 hsym (jxe hsrt);have hca:K9 (jjV r).syms a=true:=jph _ a λn hn=>(hmem n).2 (Or.inl hn);have hcb:K9 (jjV r).syms b=true:=jph _ b λn hn=>(hmem n).2 (Or.inr hn);have howf:owf (jjV r):=by
  refine ⟨⟨λs hs=> ?_,by show r.length<=_;omega⟩,⟨λx hx=> ?_,by show (List.replicate r.length (1:Int)).length<=_;rw [K4];omega⟩,by show I64 1;exact ⟨by decide,by decide⟩⟩
  ·have:=jBw (hsym s hs);omega
  ·have:x=1:=by have:=jgn hx;exact this
   rw [this];exact ⟨by decide,by decide⟩
 have q1:=jhk (jjV r) a b howf hw hs hw' hs';have q2:=jhc hval a b howf hw hs hw' hs' hk hk' hca hcb;have q3:jaA (jjV r) a b = .tup [vi (jay (jjV r) a b),vb true]:=by unfold jaA good;rw [hval,hva,hvb,hca,hcb];rfl
 rw [q3,hod] at q1;rw [hod] at q2;have q4:=jBq a b r h12 _ _ q1;have hz:¬((r.length:Nat):Int)=0:=by omega
 refine ⟨jay (jjV r) a b,?_,?_,λh=>jGv hval hk hcb ((jDo _ _ _).1 h)⟩
 ·simp only [jd,e1,f1,f2,hz,hgt,hle,q4]
 ·simp only [jd,e2,g1,g2,hpl,hle,hgt,g3,hrep,q2]
theorem jpk {ts:List T} {t:T} (h:t∈ts):J8 t<=QE ts:=by
 induction ts with
 | nil=>cases h
 | cons u us ih=>
  simp only [QE];rcases jZ.1 h with h|h
  ·subst h;omega
  ·have:=ih h;omega
theorem jlS {t u:T} (h:u∈t.args) (hs:jD t=true):jD u=true:=by
 simp only [jD,jy,kM] at hs ⊢;have h1:=qH h;have h2:=jpk h;rw [jT,ZZ] at hs;omega
theorem jgx (t:T) (hs:Tz t) (he:¬t.name = [61]):G 113 [tm t]=some (vb (y5 t.name && zl t),[]):=by
 have e1:=Qq t.name ((kR t).1 hs.wf).1;have e2:=Zp t hs.wf hs;rw [jGr];cases h:y5 t.name<;>rw [h] at e1
 ·simp only [jd,he,e1,jK]
 ·simp only [jd,he,e1,e2,jR]
theorem jyG {t:T} (h:jbK t=true):t.args.length=2/\Vs (JD t)/\Vs (Zb t)/\jD t=true:=by
 have h':=h;unfold jbK at h;rw [jy,jy,jy,kM] at h;obtain ⟨h1,h2,h3,h4⟩:=h;obtain ⟨_,_,ma,mb⟩:=Zk h1;have hn:nodes t<=30:=by simp only [jD,jy,kM] at h2;exact h2.1
 exact ⟨h1,⟨h3,by have:=Jy ma;show nodes (YF t)<=30;omega⟩,⟨h4,by have:=Jy mb;show nodes (QC t)<=30;omega⟩,h2⟩
theorem jDW (t:T) (hs:Tz t):∃b:Bool,G 196 [tm t]=some (vb b,[])/\G 128 [tm t]=some (vb b,[])/\(b=true->t.name = [61]/\jbK t=true/\jp (JD t).name=false):=by
 have hw:=hs.wf;obtain ⟨w1,w2,w3⟩:=(kR t).1 hw;have w3:=(kW _).1 w3;have q0:=qG t;by_cases he:t.name = [61];rotate_left
 ·have e1:=jgx t hs he;rw [kA he] at q0;refine ⟨false,?_,?_,λh=>by cases h⟩
  ·rw [jIr];cases h1:(y5 t.name && zl t)<;>rw [h1] at e1<;>simp only [jd,he,e1]
  ·rw [jIl];simp only [jd,q0]
 ·have e1:=jdH t hw hs he;have e2:=ja9 t hw hs he;rw [jQ he] at q0;have het:(t.name = [61])=True:=yC he;rw [jIr,jIl];cases h:jbK t<;>rw [h] at e1 e2
  ·exact ⟨false,by simp only [jd,e1],by simp only [jd,q0,e2],λh=>by cases h⟩
  ·obtain ⟨h1,v1,v2,hsm⟩:=jyG h;obtain ⟨i0,i1,ma,mb⟩:=Zk h1;have va:zl (YF t)=true:=by unfold zl;rw [jlS ma hsm];exact v1.1
   have vb':zl (QC t)=true:=by unfold zl;rw [jlS mb hsm];exact v2.1
   obtain ⟨x,o1,o2,o3⟩:=jjl (YF t) (QC t) (w3 _ ma) (w3 _ mb) v1.tz v2.tz va vb';refine ⟨decide (x=2),?_,?_,λhx=>⟨he,rfl,o3 (jg9 hx)⟩⟩
   ·simp only [jd,e1,het,i0,i1,je,o1]
   ·simp only [jd,q0,e2,i0,i1,je,o2]
theorem jq3 (rs:List T) (hl:rs.length<=1048576) (hs:∀r∈rs,Tz r):∃b:Bool,G 151 [jH rs]=some (vb b,[])/\G 88 [jH rs]=some (vb b,[])/\(b=true->RS rs/\ ∀r∈rs,r.name = [61]/\jbK r=true/\jp (JD r).name=false):=by
 obtain ⟨p,hp⟩:=Classical.axiomOfChoice (r:=λ(t:T) (b:Bool)=>Tz t->G 196 [tm t]=some (vb b,[])/\G 128 [tm t]=some (vb b,[])/\(b=true->t.name = [61]/\jbK t=true/\jp (JD t).name=false)) λt=>by
  by_cases h:Tz t
  ·obtain ⟨b,hb⟩:=jDW t h;exact ⟨b,λ_=>hb⟩
  ·exact ⟨false,λh'=>absurd h' h⟩
 have hp:∀r∈rs,G 196 [tm r]=some (vb (p r),[])/\G 128 [tm r]=some (vb (p r),[])/\(p r=true->r.name = [61]/\jbK r=true/\jp (JD r).name=false):=λr hr=>hp r (hs r hr);refine ⟨decide (rs.length<=10) && rs.all p,?_,?_,λh=> ?_⟩
 ·have key:=upto (P:=λi=>jmC (jH rs) (vi i)=some (vb (decide (rs.length<=10) && (rs.drop i).all p),[])) (n:=rs.length) ?_ ?_ 0 (ko _)
  ·rw [jKJ];exact key
  ·rw [jzv,kg];have e:decide (((rs.length:Nat):Int)<=10)=decide (rs.length<=10):=by
    by_cases h:rs.length<=10
    ·rw [jQ h,jQ (by omega)]
    ·rw [kA h,kA (by omega)]
   simp only [jd,e]
  ·intro i hi ih;have hlt:(i:Int) < ((rs.length:Nat):Int):=by omega
   have h5:=js hi (by show rs.length<=9223372036854775807;omega)
   obtain ⟨e1,_,_⟩:=hp rs[i] (jC _);rw [jzv,ji hi,yU];cases h:p rs[i]<;>rw [h] at e1
   ·simp only [jd,hlt,ja hi,je,e1,jK,zr]
   ·simp only [jd,hlt,ja hi,je,e1,h5,ih,jR]
 ·have e1:=jbI (f:=127) (caps:=[]) rfl (λr=> !p r) rs (by show rs.length<=9223372036854775807;omega) λr hr=>by
   obtain ⟨_,e2,_⟩:=hp r hr;rw [jKr];simp only [jd,e2]
  rw [jgy] at e1;rw [g88];by_cases h:rs.length<=10
  ·have h':((rs.length:Nat):Int)<=10:=by omega
   simp only [jd,h,h',e1,jR,Bool.not_not]
  ·have h':¬((rs.length:Nat):Int)<=10:=by omega
   simp only [jd,h,h',jK]
 ·rw [jy,kM,qn] at h;refine ⟨⟨h.1,λr hr=> ?_⟩,λr hr=>(hp r hr).2.2 (h.2 r hr)⟩;obtain ⟨_,h2,_⟩:=(hp r hr).2.2 (h.2 r hr);obtain ⟨q1,q2,q3,_⟩:=jyG h2;exact ⟨q1,q2,q3⟩
theorem jtf {rs:List T} (hr:RS rs):∀(t:T) (root:Bool) {u:T},EX root t->YS rs root t=some u->nodes u<=nodes t+900:=by
 refine T.ind (p:=λt=>∀(root:Bool) {u:T},EX root t->YS rs root t=some u->nodes u<=nodes t+900) λt ih=> ?_;intro root u h ho;have hL:∀(us:List T) {us':List T},(∀u∈us,∀u',YS rs true u=some u'->nodes u'<=nodes u+900)->KV rs us=some us'->jr us'<=jr us+900:=by
  intro us;induction us with
  | nil=>intro us' _ h;simp [KV] at h
  | cons v vs ih2=>
   intro us' hv h;rw [KV] at h;split at h
   ·rename_i v' hv';cases h;have:=hv v (by simp) _ hv';simp only [jr];omega
   ·rw [yB] at h;obtain ⟨r,h3,rfl⟩:=h;have:=ih2 (λw hw=>hv w (by simp [hw])) h3;simp only [jr];omega
 rw [jaN] at ho;split at ho
 ·rename_i us hus;cases ho;have:=hL t.args (λv hv u' hu'=>by
   have hw:=h.2.1 v hv;exact ih v hv true ⟨⟨by have:=hw.2;omega,hw.tz⟩,hw.args,λ_=>hw⟩ hu') hus
  rw [jT t];show 1+jr us<=_;omega
 ·cases root with
  | false=>cases ho
  | true=>
   have:=(jA4 hr (h.2.2 rfl) ho).2;omega
def EX' (root:Bool) (t:T):Prop:=EX root t/\(root=false->t.name = [61]/\t.args.length=2)
theorem jve {us:List T} (h:∀u∈us,zS u=true):Jd us<=10 * jr us:=by
 induction us with
 | nil=>simp [Jd]
 | cons u us ih=>
  have:=jdT u (h u (by simp));have:=ih λw hw=>h w (by simp [hw]);simp only [Jd,jr];omega
theorem jvg {t:T} (h:zS t=true):¬t.name = [61]:=λe=>by
 rw [yp,e] at h;exact absurd h (by
  rw [show jp [61]=false from by decide,jf j7,show y5 [61]=false from by decide];simp)
theorem jnb {t:T} (ht:Tz t) (h:zS t=true\/(t.name = [61]/\t.args.length=2/\ ∀u∈t.args,zS u=true)):G 230 [tm t]=some (vb (jD t),[]):=by
 have e2:=Zp t ht.wf ht;rw [jLC];rcases h with h|⟨h1,h2,h3⟩
 ·have hv:zl t=jD t:=by unfold zl;rw [h,ZC]
  rw [hv] at e2;have e1:=jgx t ht (jvg h);rw [hv] at e1;cases hs:jD t<;>rw [hs] at e1 e2
  ·rw [zr] at e1;simp only [jd,e1,e2]
  ·simp only [jd,e2]
 ·have hk:zS t=false:=by
   cases hk:zS t with
   | false=>rfl
   | true=>exact absurd h1 (jvg hk)
  have hv:zl t=false:=by unfold zl;rw [hk,zr]
  rw [hv] at e2;have e1:=jdH t ht.wf ht h1;obtain ⟨_,_,ma,mb⟩:=Zk h2;have he:jbK t=jD t:=by unfold jbK;rw [jQ h2,h3 _ ma,h3 _ mb];simp
  rw [he] at e1;simp only [jd,e1,e2]
def jqs (o:Option (T × Nat)):Option Out:=match o with|some r=>some (.tup [tm r.1,vi (r.2:Nat),vb true],[])|none=>some (.tup [.agg [sv [],.sl 2 []],vi 0,vb false],[])
structure Law3 {α:Type} (c:α->α->Int):Prop where
 zero:∀a b,c a b=0↔a=b
 flip:∀a b,c b a = -(c a b)
 trans:∀a b d,c a b < 0->c b d < 0->c a d < 0
section
variable {α:Type} {c:α->α->Int}
def Asc (c:α->α->Int) (l:List α):Prop:=l.Pairwise λa b=>c a b < 0
theorem jnf (h:Law3 c):∀ {l m:List α},Asc c l->Asc c m->(∀x,x∈l↔x∈m)->l=m
 | [],[],_,_,_=>rfl
 | [],b::m,_,_,hx=>absurd ((hx b).2 (by simp)) (by simp)
 | a::l,[],_,_,hx=>absurd ((hx a).1 (by simp)) (by simp)
 | a::l,b::m,h1,h2,hx=>by
  obtain ⟨g1,g2⟩:=qJ.1 h1;obtain ⟨k1,k2⟩:=qJ.1 h2;have hab:a=b:=by
   rcases jZ.1 ((hx a).1 (by simp)) with e|e
   ·exact e
   rcases jZ.1 ((hx b).2 (by simp)) with e'|e'
   ·exact e'.symm
   ·have q1:=k1 a e;have q2:=g1 b e';have q3:=h.flip a b;omega
  subst hab;have:l=m:=jnf h g2 k2 λx=>by
   constructor
   ·intro hxl;rcases jZ.1 ((hx x).1 (by simp [hxl])) with e|e
    ·have:=g1 x hxl;rw [e,(h.zero a a).2 rfl] at this;omega
    ·exact e
   ·intro hxm;rcases jZ.1 ((hx x).2 (by simp [hxm])) with e|e
    ·have:=k1 x hxm;rw [e,(h.zero a a).2 rfl] at this;omega
    ·exact e
  rw [this]
def jeB (eq:α->α->Bool):List α->List α
 | []=>[]
 | a::l=>(match jeB eq l with | []=>[a]|b::m=>if eq a b then b::m else a::b::m)
theorem jk0 (h:Law3 c) {eq:α->α->Bool} (he:∀a b,eq a b=true↔a=b):∀ {l:List α},l.Pairwise (λa b=>¬c b a < 0)->Asc c (jeB eq l)/\ ∀x,x∈jeB eq l↔x∈l
 | [],_=>⟨List.Pairwise.nil,λx=>Iff.rfl⟩
 | a::l,hp=>by
  obtain ⟨g1,g2⟩:=qJ.1 hp;obtain ⟨k1,k2⟩:=jk0 h he g2;rw [jeB];cases hc:jeB eq l with
  | nil=>
   rw [hc] at k2;refine ⟨by unfold Asc;simp,λx=> ?_⟩;show x ∈ [a]↔_;constructor
   ·intro hx;simp only [ku] at hx;simp [hx]
   ·intro hx;rcases jZ.1 hx with e|e
    ·simp [e]
    ·exact absurd ((k2 x).2 e) (by simp)
  | cons b m=>
   rw [hc] at k1 k2;have hbl:b∈l:=(k2 b).1 (by simp);by_cases hab:a=b
   ·show Asc c (if eq a b then b::m else a::b::m)/\_;have he':=(he a b).2 hab;have e2:(if eq a b then b::m else a::b::m)=b::m:=jg he';refine ⟨by rw [e2];exact k1,λx=> ?_⟩;show x∈(if eq a b then b::m else a::b::m)↔_;rw [e2,k2,jZ];constructor
    ·exact Or.inr
    ·rintro (e|e)
     ·rw [e,hab];exact hbl
     ·exact e
   ·have he':¬eq a b=true:=λe=>hab ((he a b).1 e);have e2:(if eq a b then b::m else a::b::m)=a::b::m:=jf he';have hlt:c a b < 0:=by
     have q1:=g1 b hbl;have q2:=h.flip a b;have q3:c a b≠0:=λe=>hab ((h.zero a b).1 e);omega
    refine ⟨?_,λx=> ?_⟩
    ·show Asc c (if eq a b then b::m else a::b::m);rw [e2];refine qJ.2 ⟨λx hx=> ?_,k1⟩;rcases jZ.1 hx with e|e
     ·rw [e];exact hlt
     ·exact h.trans a b x hlt ((qJ.1 k1).1 x e)
    ·show x∈(if eq a b then b::m else a::b::m)↔_;rw [e2,jZ,k2,jZ]
theorem jdr {p:α->Bool} :∀ {l:List α} {a:α},a∈l.takeWhile p->p a=true
 | x::l,a,h=>by
  by_cases hx:p x=true
  ·rw [jvS hx] at h;rcases jZ.1 h with e|e
   ·rw [e];exact hx
   ·exact jdr e
  ·rw [jrK hx] at h;cases h
def Z2 (c:α->α->Int) (l:List α) (x:α):List α:=if (l.dropWhile λa=>decide (c a x < 0)).head?.any (λb=>decide (c b x=0)) then l else l.takeWhile (λa=>decide (c a x < 0))++x::l.dropWhile λa=>decide (c a x < 0)
theorem jeR (h:Law3 c) {l:List α} (hl:Asc c l) (x:α):Asc c (Z2 c l x)/\ ∀y,y∈Z2 c l x↔y∈l\/y=x:=by
 have e:=jrL (p:=λa=>decide (c a x < 0)) (l:=l);have ht:∀a∈l.takeWhile (λa=>decide (c a x < 0)),c a x < 0:=λa ha=>jg9 (jdr (p:=λa=>decide (c a x < 0)) ha);unfold Z2;generalize l.takeWhile (λa=>decide (c a x < 0))=t at *;cases hd:l.dropWhile (λa=>decide (c a x < 0)) with
 | nil=>
  rw [hd,qv] at e;subst e;rw [jf (by simp)];refine ⟨?_,λy=>by simp⟩;refine jgr.2 ⟨hl,by simp,λa ha b hb=> ?_⟩;simp only [ku] at hb;rw [hb];exact ht a ha
 | cons b m=>
  have hb:¬c b x < 0:=by
   intro hb;have:=List.head?_dropWhile_not (p:=λa=>decide (c a x < 0)) l;rw [hd] at this;simp [hb] at this
  rw [hd] at e;by_cases h0:c b x=0
  ·rw [jg (by simp [h0])];refine ⟨hl,λy=>⟨Or.inl,λhy=> ?_⟩⟩;rcases hy with hy|hy
   ·exact hy
   ·rw [hy,<-(h.zero b x).1 h0,<-e];simp
  ·rw [jf (by simp [h0])];rw [<-e] at hl;obtain ⟨p1,p2,p3⟩:=jgr.1 hl;have hxb:c x b < 0:=by have:=h.flip b x;omega
   refine ⟨jgr.2 ⟨p1,qJ.2 ⟨λy hy=> ?_,p2⟩,λa ha y hy=> ?_⟩,λy=> ?_⟩
   ·rcases jZ.1 hy with e'|e'
    ·rw [e'];exact hxb
    ·exact h.trans x b y hxb ((qJ.1 p2).1 y e')
   ·rcases jZ.1 hy with e'|e'
    ·rw [e'];exact ht a ha
    ·exact p3 a ha y e'
   ·rw [<-e];simp only [kZ,jZ];constructor
    ·rintro (h|h|h|h)
     ·exact Or.inl (Or.inl h)
     ·exact Or.inr h
     ·exact Or.inl (Or.inr (Or.inl h))
     ·exact Or.inl (Or.inr (Or.inr h))
    ·rintro ((h|h|h)|h)
     ·exact Or.inl h
     ·exact Or.inr (Or.inr (Or.inl h))
     ·exact Or.inr (Or.inr (Or.inr h))
     ·exact Or.inr (Or.inl h)
def yL (c:α->α->Int) (l:List α):List α:=l.foldl (Z2 c) []
theorem Q5 (h:Law3 c) (l:List α):Asc c (yL c l)/\ ∀y,y∈yL c l↔y∈l:=by
 have key:∀(l m:List α),Asc c m->Asc c (l.foldl (Z2 c) m)/\ ∀y,y∈l.foldl (Z2 c) m↔y∈m\/y∈l:=by
  intro l;induction l with
  | nil=>intro m hm;exact ⟨hm,λy=>by simp⟩
  | cons x l ih=>
   intro m hm;obtain ⟨g1,g2⟩:=jeR h hm x;obtain ⟨k1,k2⟩:=ih _ g1;refine ⟨k1,λy=> ?_⟩;rw [Km,k2,g2,jZ,Ya]
 obtain ⟨g1,g2⟩:=key l [] List.Pairwise.nil;exact ⟨g1,λy=>by rw [yL,g2];simp⟩
theorem jDv (h:Law3 c) {eq:α->α->Bool} (he:∀a b,eq a b=true↔a=b) {l s:List α} (hs:s.Pairwise λa b=>¬c b a < 0) (hm:∀x,x∈s↔x∈l):jeB eq s=yL c l:=by
 obtain ⟨g1,g2⟩:=jk0 h he hs;obtain ⟨k1,k2⟩:=Q5 h l;exact jnf h g1 k1 λx=>by rw [g2,k2,hm]
end
theorem jGG {α β γ:Type} {f:γ->α} {g:γ->β} {c:α->α->Int} {d:β->β->Int} (hc:Law3 c) (hd:Law3 d) (hi:∀x y,f x=f y->g x=g y->x=y):Law3 λx y:γ=>if c (f x) (f y)≠0 then c (f x) (f y) else d (g x) (g y):=by
 refine ⟨λa b=> ?_,λa b=> ?_,λa b e=> ?_⟩
 ·show (if c (f a) (f b)≠0 then c (f a) (f b) else d (g a) (g b))=0↔_;by_cases h:c (f a) (f b)=0
  ·rw [jf (λh'=>h' h),hd.zero];exact ⟨λh2=>hi a b ((hc.zero _ _).1 h) h2,λh2=>by rw [h2]⟩
  ·rw [jg h];exact ⟨λh2=>absurd h2 h,λh2=>by rw [h2] at h;exact absurd ((hc.zero _ _).2 rfl) h⟩
 ·show (if c (f b) (f a)≠0 then c (f b) (f a) else d (g b) (g a)) = -(if c (f a) (f b)≠0 then c (f a) (f b) else d (g a) (g b));rw [hc.flip (f a) (f b),hd.flip (g a) (g b)];by_cases h:c (f a) (f b)=0
  ·rw [jf (by omega),jf (by omega)]
  ·rw [jg (by omega),jg (by omega)]
 ·show (if c (f a) (f b)≠0 then c (f a) (f b) else d (g a) (g b)) < 0->(if c (f b) (f e)≠0 then c (f b) (f e) else d (g b) (g e)) < 0->(if c (f a) (f e)≠0 then c (f a) (f e) else d (g a) (g e)) < 0;by_cases h1:c (f a) (f b)=0
  ·have e1:=(hc.zero _ _).1 h1;rw [jf (λh'=>h' h1),e1];by_cases h2:c (f b) (f e)=0
   ·rw [jf (λh'=>h' h2),jf (λh'=>h' h2)];exact hd.trans _ _ _
   ·rw [jg h2,jg h2];exact λ_ h=>h
  ·rw [jg h1];by_cases h2:c (f b) (f e)=0
   ·have e2:=(hc.zero _ _).1 h2;rw [jf (λh'=>h' h2),<-e2,jg h1];exact λh _=>h
   ·rw [jg h2];intro h3 h4;have:=hc.trans _ _ _ h3 h4;rw [jg (by omega)];exact this
def zQ (x y:List UInt8):Int:=if yX x y then -1 else if x=y then 0 else 1
theorem ZM:Law3 zQ:=by
 have irr:=jaW;have asy:∀x y,yX x y=true->yX y x=true->False:=λx y h1 h2=>by
  rw [Y2,kM] at h1 h2;exact absurd (jgp h1 h2) (jgq _)
 have tot:∀x y,x=y\/yX x y=true\/yX y x=true:=λx y=>by
  rw [Y2,Y2,kM,kM];rcases Classical.em (x < y) with h|h
  ·exact Or.inr (Or.inl h)
  rcases Classical.em (y < x) with h'|h'
  ·exact Or.inr (Or.inr h')
  ·exact Or.inl (List.le_antisymm (List.not_lt.1 h') (List.not_lt.1 h))
 have tr:∀x y z,yX x y=true->yX y z=true->yX x z=true:=λx y z h1 h2=>by
  rw [Y2,kM] at *;exact jgp h1 h2
 have neg:∀x y,zQ x y < 0↔yX x y=true:=λx y=>by
  unfold zQ;cases h:yX x y with
  | true=>simp
  | false=>
   rw [jf j7];split<;>simp
 refine ⟨λa b=> ?_,λa b=> ?_,λa b d h1 h2=>(neg _ _).2 (tr _ _ _ ((neg _ _).1 h1) ((neg _ _).1 h2))⟩
 ·unfold zQ;cases h:yX a b with
  | true=>rw [jg rfl];exact ⟨λh'=>by omega,λe=>by rw [e,irr] at h;cases h⟩
  | false=>
   rw [jf j7];by_cases e:a=b
   ·rw [jg e];exact ⟨λ_=>e,λ_=>rfl⟩
   ·rw [jf e];exact ⟨λh'=>by omega,λh'=>absurd h' e⟩
 ·unfold zQ;rcases tot a b with e|e|e
  ·subst e;rw [irr,jf j7,jg rfl];rfl
  ·have h2:yX b a=false:=by
    cases h:yX b a with
    | false=>rfl
    | true=>exact (asy _ _ e h).elim
   have hne:¬b=a:=λh=>by rw [h,irr] at e;cases e
   rw [e,h2,jf j7,jf hne,jg rfl];rfl
  ·have h2:yX a b=false:=by
    cases h:yX a b with
    | false=>rfl
    | true=>exact (asy _ _ e h).elim
   have hne:¬a=b:=λh=>by rw [h,irr] at e;cases e
   rw [e,h2,jf j7,jf hne,jg rfl]
def zR (x y:Nat):Int:=if x < y then -1 else if y < x then 1 else 0
theorem jbF:Law3 zR:=by
 refine ⟨λa b=> ?_,λa b=> ?_,λa b d=> ?_⟩<;>unfold zR
 ·split
  ·omega
  ·split<;>omega
 ·split<;>split<;>(try split)<;>omega
 ·intro h1 h2;by_cases h:a < b
  ·by_cases h3:b < d
   ·rw [jg (by omega)];omega
   ·rw [jf h3] at h2;split at h2<;>omega
  ·rw [jf h] at h1;split at h1<;>omega
def vF (n:List UInt8):Nat:=if jp n then 0 else 1
abbrev Key:=Nat × (List UInt8 × Nat)
def cK (x y:Key):Int:=if zR x.1 y.1≠0 then zR x.1 y.1 else if zQ x.2.1 y.2.1≠0 then zQ x.2.1 y.2.1 else zR x.2.2 y.2.2
theorem jaw:Law3 cK:=by
 have h2:Law3 λx y:List UInt8 × Nat=>if zQ x.1 y.1≠0 then zQ x.1 y.1 else zR x.2 y.2:=jGG (f:=Prod.fst) (g:=Prod.snd) ZM jbF λx y h1 h2=>Prod.ext h1 h2;exact jGG (f:=Prod.fst) (g:=Prod.snd) jbF h2 λx y h1 h2=>Prod.ext h1 h2
def qM (t:T):Key:=(vF t.name,(t.name,t.args.length))
mutual
def qy (a b:T):Int:=
 match a with
 | .mk n us=>if cK (qM (.mk n us)) (qM b)≠0 then cK (qM (.mk n us)) (qM b) else yI us b.args
termination_by structural a
def yI (xs bs:List T):Int:=
 match xs with
 | []=>0
 | a::xs=>(match bs with | []=>0|b::bs=>if qy a b≠0 then qy a b else yI xs bs)
termination_by structural xs
end
theorem Qk (a b:T):qy a b=if cK (qM a) (qM b)≠0 then cK (qM a) (qM b) else yI a.args b.args:=by cases a;rfl
theorem jiL {a b:T} (h:qM a=qM b):a.name=b.name/\a.args.length=b.args.length:=by
 unfold qM at h;simp only [Jc] at h;exact h.2
theorem jHA {a b:T} (h1:a.name=b.name) (h2:a.args=b.args):a=b:=by
 cases a;cases b;simp only [T.name,T.args] at h1 h2;rw [h1,h2]
theorem jFv:∀ {xs bs:List T},(∀u∈xs,∀v,qy u v=0↔u=v)->xs.length=bs.length->(yI xs bs=0↔xs=bs)
 | [],[],_,_=>by simp [yI]
 | [],_::_,_,h=>by cases h
 | _::_,[],_,h=>by cases h
 | a::xs,b::bs,h,hl=>by
  rw [yI];have ih:=jFv (xs:=xs) (bs:=bs) (λu hu=>h u (by simp [hu])) (Nat.succ.inj hl);by_cases h0:qy a b=0
  ·rw [jf (λh'=>h' h0),ih,(h a (by simp) b).1 h0];simp
  ·rw [jg h0];exact ⟨λh'=>absurd h' h0,λe=>by rw [Qd] at e;exact (h a (by simp) b).2 e.1⟩
theorem jEB:∀ {xs bs:List T},(∀u∈xs,∀v,qy v u = -(qy u v))->xs.length=bs.length->yI bs xs = -(yI xs bs)
 | [],[],_,_=>by simp [yI]
 | [],_::_,_,h=>by cases h
 | _::_,[],_,h=>by cases h
 | a::xs,b::bs,h,hl=>by
  rw [yI,yI,h a (by simp) b,jEB (xs:=xs) (bs:=bs) (λu hu=>h u (by simp [hu])) (Nat.succ.inj hl)];by_cases h0:qy a b=0
  ·rw [jf (by omega),jf (by omega)]
  ·rw [jg (by omega),jg (by omega)]
theorem jBA (z:∀u v:T,qy u v=0↔u=v):∀ {xs bs ds:List T},(∀u∈xs,∀v w,qy u v < 0->qy v w < 0->qy u w < 0)->xs.length=bs.length->bs.length=ds.length->yI xs bs < 0->yI bs ds < 0->yI xs ds < 0
 | [],_,_,_,_,_,h1,_=>by simp [yI] at h1
 | a::xs,[],_,_,h,_,_,_=>by cases h
 | a::xs,b::bs,[],_,_,h,_,_=>by cases h
 | a::xs,b::bs,d::ds,h,hl,hl2,h1,h2=>by
  rw [yI] at h1 h2 ⊢;by_cases c1:qy a b=0
  ·have e1:=(z a b).1 c1;rw [jf (λh'=>h' c1)] at h1;rw [e1];by_cases c2:qy b d=0
   ·rw [jf (λh'=>h' c2)] at h2;rw [jf (λh'=>h' c2)];exact jBA z (λu hu=>h u (by simp [hu])) (Nat.succ.inj hl) (Nat.succ.inj hl2) h1 h2
   ·rw [jg c2] at h2;rw [jg c2];exact h2
  ·rw [jg c1] at h1;by_cases c2:qy b d=0
   ·rw [<-(z b d).1 c2,jg c1];exact h1
   ·rw [jg c2] at h2;have:=h a (by simp) b d h1 h2;rw [jg (by omega)];exact this
theorem jyg:Law3 qy:=by
 have z:∀a b:T,qy a b=0↔a=b:=by
  refine T.ind λa ih b=> ?_;rw [Qk];by_cases h:cK (qM a) (qM b)=0
  ·have hk:=(jaw.zero _ _).1 h;obtain ⟨h1,h2⟩:=jiL hk;rw [jf (λh'=>h' h),jFv ih h2];exact ⟨λe=>jHA h1 e,λe=>by rw [e]⟩
  ·rw [jg h];exact ⟨λh'=>absurd h' h,λe=>by rw [e] at h;exact absurd ((jaw.zero _ _).2 rfl) h⟩
 refine ⟨z,?_,?_⟩
 ·refine T.ind λa ih b=> ?_;rw [Qk,Qk a b,jaw.flip (qM a) (qM b)];by_cases h:cK (qM a) (qM b)=0
  ·obtain ⟨_,h2⟩:=jiL ((jaw.zero _ _).1 h);rw [jf (by omega),jf (by omega),jEB ih h2]
  ·rw [jg (by omega),jg (by omega)]
 ·refine T.ind λa ih b d h1 h2=> ?_;rw [Qk] at h1 h2 ⊢;by_cases c1:cK (qM a) (qM b)=0
  ·have e1:=(jaw.zero _ _).1 c1;rw [jf (λh'=>h' c1)] at h1;rw [e1];by_cases c2:cK (qM b) (qM d)=0
   ·have e2:=(jaw.zero _ _).1 c2;rw [jf (λh'=>h' c2)] at h2;rw [jf (λh'=>h' c2)];exact jBA z ih (jiL e1).2 (jiL e2).2 h1 h2
   ·rw [jg c2] at h2;rw [jg c2];exact h2
  ·rw [jg c1] at h1;by_cases c2:cK (qM b) (qM d)=0
   ·rw [<-(jaw.zero _ _).1 c2,jg c1];exact h1
   ·rw [jg c2] at h2;have:=jaw.trans _ _ _ h1 h2;rw [jg (by omega)];exact this
def upN:List UInt8->Bool
 | []=>false
 | c::_=>upc c
mutual
def val (M:List UInt8->List Int->Int) (e:List UInt8->Int):T->Int
 | .mk n us=>if us.isEmpty && upN n then e n else M n (jEg M e us)
def jEg (M:List UInt8->List Int->Int) (e:List UInt8->Int):List T->List Int
 | []=>[]
 | t::ts=>val M e t::jEg M e ts
end
theorem jrC (M:List UInt8->List Int->Int) (e:List UInt8->Int):∀ts:List T,jEg M e ts=ts.map (val M e)
 | []=>rfl
 | t::ts=>by rw [jEg,jrC M e ts,zf]
theorem QK (M:List UInt8->List Int->Int) (e:List UInt8->Int) (t:T):val M e t=if t.args.isEmpty && upN t.name then e t.name else M t.name (t.args.map (val M e)):=by
 obtain ⟨n,us⟩:=t;rw [val,jrC];rfl
theorem jhL {n:List UInt8} (h:jp n=true):upN n=true:=by
 cases n with
 | nil=>cases h
 | cons c r=>simp only [jp,jy] at h;exact h.1
theorem ja0 {n:List UInt8} (h:y5 n=true):upN n=false:=by
 cases n with
 | nil=>rfl
 | cons c r=>
  simp only [y5,jy] at h;have h:=h.1;show upc c=false;cases hu:upc c with
  | false=>rfl
  | true=>
   simp only [upc,jc7,qx,jy,kM] at h hu;omega
theorem jf1 {t:T} (h:zS t=true) (hv:jp t.name=false):y5 t.name=true:=by
 rw [yp,hv,jf j7,jy] at h;exact h.1
section
variable {M:List UInt8->List Int->Int}
theorem jc1 {e:List UInt8->Int} {t:T} (h:zS t=true) (hv:jp t.name=true):val M e t=e t.name:=by
 rw [QK,Ja h hv,jhL hv];rfl
theorem Qy {e:List UInt8->Int} {t:T} (h:upN t.name=false):val M e t=M t.name (t.args.map (val M e)):=by
 rw [QK,h,zr,jf j7]
theorem jfm (u:jw) (e:List UInt8->Int):∀t:T,zS t=true->val M e (sub u t)=val M (λx=>val M e (Js u x)) t:=by
 refine T.ind λt ih=> ?_;intro ht;cases hv:jp t.name with
 | true=>rw [jc1 ht hv,Jk hv]
 | false=>
  have hs:=ja0 (jf1 ht hv);rw [Qy hs,qE hv,Qy (t:= .mk t.name (t.args.map (sub u))) hs];show M t.name ((t.args.map (sub u)).map (val M e))=_;rw [qa];congr 1;exact K3 λa ha=>ih a ha (zj ht a ha)
theorem jl6 {e e':List UInt8->Int} :∀t:T,zS t=true->(∀x∈kK t,e x=e' x)->val M e t=val M e' t:=by
 refine T.ind λt ih=> ?_;intro ht h;rw [Jt] at h;cases hv:jp t.name with
 | true=>
  rw [jc1 ht hv,jc1 ht hv];rw [hv,jg rfl] at h;exact h _ (by simp)
 | false=>
  have hs:=ja0 (jf1 ht hv);rw [Qy hs,Qy hs];rw [hv,jf j7] at h;congr 1;refine K3 λa ha=>ih a ha (zj ht a ha) λx hx=>h x ?_;have:∀us:List T,a∈us->x∈zD us:=by
   intro us;induction us with
   | nil=>intro h;cases h
   | cons v vs ih=>
    intro h;rw [zD];rcases jZ.1 h with rfl|h
    ·exact JA _ hx
    ·exact Kg _ (ih h)
  exact this _ ha
def Ext (m m':jw):Prop:=∀x r,look m x=some r->look m' x=some r
theorem Ext.refl (m:jw):Ext m m:=λ_ _ h=>h
theorem Ext.trans {a b c:jw} (h:Ext a b) (h':Ext b c):Ext a c:=λx r hx=>h' x r (h x r hx)
theorem jGI:∀(a:T) {m m':jw} {t:T},zS a=true->mt m a t=some m'->Ext m m'/\ ∀m'',Ext m' m''->sub m'' a=t:=by
 refine T.ind (p:=λa=>∀ {m m':jw} {t:T},zS a=true->mt m a t=some m'->Ext m m'/\ ∀m'',Ext m' m''->sub m'' a=t) λa ih=> ?_;intro m m' t ha h;cases hv:jp a.name with
 | true=>
  rw [jdM hv] at h;split at h
  ·rename_i r hl;split at h
   ·rename_i hd;cases h;refine ⟨Ext.refl _,λm'' h=> ?_⟩;rw [Jk hv,Js,h _ _ hl];exact qz.1 hd
   ·cases h
  ·rename_i hl;cases h;refine ⟨λx r hx=>by rw [jbZ,hx],λm'' h=> ?_⟩;have:look (m++[(a.name,t)]) a.name=some t:=by rw [jbZ,hl];simp [look]
   rw [Jk hv,Js,h _ _ this];rfl
 | false=>
  rw [jdL hv] at h;split at h
  ·rename_i hn;have key:∀(us:List T) (ts:List T) {m m':jw},(∀u∈us,u∈a.args)->us.length=ts.length->Q8 m us ts=some m'->Ext m m'/\ ∀m'',Ext m' m''->us.map (sub m'')=ts:=by
    intro us;induction us with
    | nil=>
     intro ts m m' _ hl h;simp only [Q8,zg] at h;cases ts with
     | nil=>exact h ▸ ⟨Ext.refl _,λ_ _=>rfl⟩
     | cons=>cases hl
    | cons u us ih2=>
     intro ts m m' hu hl h;cases ts with
     | nil=>cases hl
     | cons s ts=>
      simp only [Q8] at h;obtain ⟨m1,h1,h2⟩:=zI.1 h;obtain ⟨x1,x2⟩:=ih u (hu u (by simp)) (zj ha u (hu u (by simp))) h1;obtain ⟨y1,y2⟩:=ih2 ts (λv hv=>hu v (by simp [hv])) (Nat.succ.inj hl) h2;exact ⟨x1.trans y1,λm'' h=>by rw [zf,x2 m'' (y1.trans h),y2 m'' h]⟩
   obtain ⟨x1,x2⟩:=key a.args t.args (λ_ h=>h) hn.2 h;refine ⟨x1,λm'' h=> ?_⟩;rw [qE hv,x2 m'' h,hn.1];cases t;rfl
  ·cases h
variable {good:Int->Prop}
theorem jfl (hM:∀n vs,good (M n vs)) {e:List UInt8->Int} (he:∀x,good (e x)) (t:T):good (val M e t):=by
 rw [QK];split
 ·exact he _
 ·exact hM _ _
def joW (M:List UInt8->List Int->Int) (good:Int->Prop) (rs:List T):Prop:=∀r∈rs,∀e:List UInt8->Int,(∀x,good (e x))->val M e (JD r)=val M e (Zb r)
theorem jlH (hM:∀n vs,good (M n vs)) {e:List UInt8->Int} (he:∀x,good (e x)) {t:T} :∀ {rs:List T} {u:T},jat rs->joW M good rs->JC rs t=some u->val M e u=val M e t
 | r::rs,u,hr,hh,h=>by
  rw [JC] at h;split at h
  ·rename_i m hm;cases h;obtain ⟨r1,r2⟩:=hr r (by simp);obtain ⟨_,x2⟩:=jGI _ r1 hm;have:=x2 m (Ext.refl m);rw [<-this,jfm m e _ r1,jfm m e _ r2];exact (hh r (by simp) _ λx=>jfl hM he _).symm
  ·exact jlH hM he (λq hq=>hr q (by simp [hq])) (λq hq=>hh q (by simp [hq])) h
theorem jf2 {rs:List T} {e:List UInt8->Int} :∀ {us us':List T},(∀u∈us,∀u',YS rs true u=some u'->val M e u'=val M e u)->KV rs us=some us'->us'.map (val M e)=us.map (val M e)/\us'.length=us.length
 | t::ts,us',hk,h=>by
  rw [KV] at h;split at h
  ·rename_i t' ht;cases h;rw [zf,zf,hk t (by simp) _ ht];exact ⟨rfl,by simp⟩
  ·rw [yB] at h;obtain ⟨r,h3,rfl⟩:=h;obtain ⟨g1,g2⟩:=jf2 (λu hu=>hk u (by simp [hu])) h3;rw [zf,zf,g1];exact ⟨rfl,by simp [g2]⟩
theorem jAv (hM:∀n vs,good (M n vs)) {e:List UInt8->Int} (he:∀x,good (e x)) {rs:List T} (hr:jat rs) (hh:joW M good rs):∀(t:T) {u:T},zS t=true->YS rs true t=some u->val M e u=val M e t:=by
 refine T.ind (p:=λt=>∀ {u:T},zS t=true->YS rs true t=some u->val M e u=val M e t) λt ih=> ?_;intro u ht h;rw [jaN] at h;split at h
 ·rename_i us ho;cases h;obtain ⟨g1,g2⟩:=jf2 (M:=M) (e:=e) (λv hv u' hu'=>ih v hv (zj ht v hv) hu') ho;rw [QK,QK M e t];show (if us.isEmpty && upN t.name then e t.name else M t.name (us.map (val M e)))=_;rw [g1];have:us.isEmpty=t.args.isEmpty:=by
   cases us<;>cases hta:t.args<;>rw [hta] at g2<;>simp_all
  rw [this]
 ·exact jlH hM he hr hh h
theorem jBd (hM:∀n vs,good (M n vs)) {e:List UInt8->Int} (he:∀x,good (e x)) {rs:List T} (hr:jat rs) (hh:joW M good rs):∀(k n:Nat) (t:T) {r:T × Nat},(∀u∈t.args,zS u=true)->rwN rs false k n t=some r->r.1.name=t.name/\r.1.args.map (val M e)=t.args.map (val M e)/\ ∀u∈r.1.args,zS u=true:=by
 intro k;induction k with
 | zero=>intro n t r _ h;cases h
 | succ k ih=>
  intro n t r ht h;rw [rwN] at h;split at h
  ·cases h;exact ⟨rfl,rfl,ht⟩
  ·rename_i u hu;split at h
   ·cases h
   ·rw [jaN] at hu;split at hu;rotate_left
    ·cases hu
    rename_i us ho;cases hu;obtain ⟨_,g2⟩:=jaM ho;have hk:∀v∈us,zS v=true:=g2 (λv=>zS v=true) ht λv hv u' hu'=>jvh hr v (ht v hv) hu';obtain ⟨q1,q2,q3⟩:=ih (n+1) (.mk t.name us) hk h;exact ⟨q1,q2.trans (jf2 (M:=M) (e:=e) (λv hv u' hu'=>jAv hM he hr hh v (ht v hv) hu') ho).1,q3⟩
end
def dec (n:Nat):Nat->Nat->List Nat
 | 0,_=>[]
 | l+1,k=>k % n::dec n l (k / n)
def enc (n:Nat):List Nat->Nat
 | []=>0
 | v::vs=>v+n * enc n vs
theorem jyy {n:Nat} (hn:1<=n):∀vs:List Nat,(∀v∈vs,v < n)->enc n vs < n ^ vs.length
 | [],_=>by simp [enc]
 | v::vs,h=>by
  have h1:=h v (by simp);have h2:=jyy hn vs λw hw=>h w (by simp [hw]);rw [enc,zk,Nat.pow_succ,Nat.mul_comm (n ^ vs.length) n];have:n * (enc n vs+1)<=n * n ^ vs.length:=Nat.mul_le_mul_left n h2;rw [Nat.mul_add] at this;omega
theorem juK {n:Nat} (hn:1<=n):∀vs:List Nat,(∀v∈vs,v < n)->dec n vs.length (enc n vs)=vs
 | [],_=>rfl
 | v::vs,h=>by
  have h1:=h v (by simp);have h2:=juK hn vs λw hw=>h w (by simp [hw]);rw [zk,dec,enc,Nat.add_mul_mod_self_left,Nat.mod_eq_of_lt h1,Nat.add_mul_div_left _ _ (by omega),Nat.div_eq_of_lt h1,yd,h2]
def vnA (l:List (List UInt8)) (n:List UInt8):List (List UInt8):=if l.contains n then l else l++[n]
mutual
def vn (l:List (List UInt8)):T->List (List UInt8)
 | .mk n us=>if us.isEmpty && upN n then vnA l n else vnL l us
def vnL (l:List (List UInt8)):List T->List (List UInt8)
 | []=>l
 | t::ts=>vnL (vn l t) ts
end
theorem jvM (l:List (List UInt8)) (t:T):vn l t=if t.args.isEmpty && upN t.name then vnA l t.name else vnL l t.args:=by cases t;rfl
def VIn (S:List (List UInt8)) (t:T):Prop:=∀x∈kK t,x∈S
theorem jxv {S l:List (List UInt8)} {n:List UInt8} (hl:l.Nodup) (hS:∀x∈l,x∈S) (hn:n∈S):(vnA l n).Nodup/\(∀x∈vnA l n,x∈S)/\(∀x∈l,x∈vnA l n)/\n∈vnA l n:=by
 unfold vnA;split
 ·rename_i h;exact ⟨hl,hS,λ_ h=>h,jcw.1 h⟩
 ·rename_i h;have h:n ∉ l:=λhh=>h (jcw.2 hh);refine ⟨?_,λx hx=> ?_,λx hx=>JA _ hx,by simp⟩
  ·rw [jke];exact ⟨hl,by simp,λa ha b hb=>by simp only [ku] at hb;subst hb;exact λe=>h (e ▸ ha)⟩
  ·rcases kZ.1 hx with hx|hx
   ·exact hS x hx
   ·simp only [ku] at hx;exact hx ▸ hn
theorem jBJ {S:List (List UInt8)} :∀(t:T),zS t=true->VIn S t-> ∀l:List (List UInt8),l.Nodup->(∀x∈l,x∈S)->(vn l t).Nodup/\(∀x∈vn l t,x∈S)/\(∀x∈l,x∈vn l t)/\ ∀x∈kK t,x∈vn l t:=by
 refine T.ind λt ih=> ?_;intro ht hV l hl hS;rw [jvM];unfold VIn at hV;rw [Jt] at hV ⊢;cases hv:jp t.name with
 | true=>
  rw [hv,jg rfl] at hV;rw [Ja ht hv,jhL hv,jg rfl];obtain ⟨q1,q2,q3,q4⟩:=jxv hl hS (hV t.name (by simp));exact ⟨q1,q2,q3,λx hx=>by simp only [Jw,ku] at hx;exact hx ▸ q4⟩
 | false=>
  rw [hv,jf j7] at hV;rw [ja0 (jf1 ht hv),zr,jf j7];have key:∀us:List T,(∀u∈us,u∈t.args)->(∀x∈zD us,x∈S)-> ∀l:List (List UInt8),l.Nodup->(∀x∈l,x∈S)->(vnL l us).Nodup/\(∀x∈vnL l us,x∈S)/\(∀x∈l,x∈vnL l us)/\ ∀x∈zD us,x∈vnL l us:=by
   intro us;induction us with
   | nil=>intro _ _ l hl hS;exact ⟨hl,hS,λ_ h=>h,λx h=>by cases h⟩
   | cons u us ih2=>
    intro hu hV l hl hS;rw [zD] at hV;obtain ⟨q1,q2,q3,q4⟩:=ih u (hu u (by simp)) (zj ht u (hu u (by simp))) (λx hx=>hV x (JA _ hx)) l hl hS;obtain ⟨p1,p2,p3,p4⟩:=ih2 (λv hv=>hu v (by simp [hv])) (λx hx=>hV x (Kg _ hx)) (vn l u) q1 q2;rw [vnL,zD];refine ⟨p1,p2,λx hx=>p3 x (q3 x hx),λx hx=> ?_⟩;rcases kZ.1 hx with hx|hx
    ·exact p3 x (q4 x hx)
    ·exact p4 x hx
  exact key t.args (λ_ h=>h) hV l hl hS
abbrev Lt:=Bool × T
def fl (b:Bool):Nat:=if b then 1 else 0
def cmpL (a b:Lt):Int:=if qy a.2 b.2≠0 then qy a.2 b.2 else zR (fl a.1) (fl b.1)
theorem JG:Law3 cmpL:=jGG (f:=Prod.snd) (g:=λl:Lt=>fl l.1) jyg jbF λx y h1 h2=>by
 obtain ⟨p,t⟩:=x;obtain ⟨q,u⟩:=y;have h1:t=u:=h1;have h2:fl p=fl q:=h2;subst h1;cases p<;>cases q<;>first|rfl|(simp [fl] at h2)
abbrev kh:=List Lt
def jo2:kh->Bool
 | a::b::l=>decide (cmpL a b < 0) && jo2 (b::l)
 | _=>true
theorem jo3:∀c:kh,jo2 c=true↔Asc cmpL c
 | []=>by simp [jo2,Asc]
 | [a]=>by simp [jo2,Asc]
 | a::b::l=>by
  rw [jo2,jy,kM,jo3 (b::l)];unfold Asc;constructor
  ·rintro ⟨h1,h2⟩;refine qJ.2 ⟨λx hx=> ?_,h2⟩;rcases jZ.1 hx with e|e
   ·rw [e];exact h1
   ·exact JG.trans a b x h1 ((qJ.1 h2).1 x e)
  ·intro h;exact ⟨(qJ.1 h).1 b (by simp),(qJ.1 h).2⟩
mutual
def Z4 (l:List (List UInt8)):T->List (List UInt8)
 | .mk n us=>if jp n then vnA l n else jb3 l us
def jb3 (l:List (List UInt8)):List T->List (List UInt8)
 | []=>l
 | t::ts=>jb3 (Z4 l t) ts
end
theorem jnV (l:List (List UInt8)) (t:T):Z4 l t=if jp t.name then vnA l t.name else jb3 l t.args:=by cases t;rfl
def zt (c:kh):List (List UInt8):=c.foldl (λl x=>Z4 l x.2) []
def Kh (p:UInt8) (i:Nat):List UInt8:=p::Lib.decDigits i
def KT (c:kh):Bool:=decide (zt c=(List.range (zt c).length).map (Kh 88))
mutual
def zx (f:List UInt8->List UInt8):T->T
 | .mk n us=>if jp n then .mk (f n) [] else .mk n (Z7 f us)
def Z7 (f:List UInt8->List UInt8):List T->List T
 | []=>[]
 | t::ts=>zx f t::Z7 f ts
end
theorem jqV (f:List UInt8->List UInt8):∀ts:List T,Z7 f ts=ts.map (zx f)
 | []=>rfl
 | t::ts=>by rw [Z7,jqV f ts,zf]
theorem Qv (f:List UInt8->List UInt8) (t:T):zx f t=if jp t.name then .mk (f t.name) [] else .mk t.name (t.args.map (zx f)):=by
 cases t;rw [zx,jqV];rfl
def zH (p:UInt8) (l:List (List UInt8)) (n:List UInt8):List UInt8:=match l.findIdx? (λx=>decide (x=n)) with|some i=>Kh p i|none=>n
def renC (p:UInt8) (c:kh):kh:=yL cmpL (c.map λl=>(l.1,zx (zH p (zt c)) l.2))
def normF:Nat->kh->kh
 | 0,c=>c
 | k+1,c=>if KT c then c else normF k (renC 88 c)
def normC (c:kh):kh:=normF 10 c
theorem yP (t:T) (h:zS t=true\/t.name = [61]):G 122 [tm t]=some (vb (jp t.name),[]):=by
 rcases h with h|h
 ·exact YN t h
 ·have e1:=jdF 61;have hx:ye (sv t.name) (vi 0)=some (vy ((61:UInt8).toNat:Int)):=by rw [h];exact qW
  have hv:jp t.name=upc 61:=by rw [h];decide
  rw [jIj,hv];simp only [jd,hx,e1]
theorem jaz (x y:List UInt8):zQ x y=if yX x y then -1 else if yX y x then 1 else 0:=by
 have hf:=ZM.flip x y;cases h1:yX x y with
 | true=>unfold zQ;rw [h1];rfl
 | false=>
  rw [jf j7];cases h2:yX y x with
  | true=>
   have:zQ y x = -1:=by unfold zQ;rw [h2,jg rfl]
   rw [jg rfl];omega
  | false=>
   rw [jf j7];have a1:zQ x y=0\/zQ x y=1:=by
    unfold zQ;rw [h1,jf j7];split<;>simp
   have a2:zQ y x=0\/zQ y x=1:=by
    unfold zQ;rw [h2,jf j7];split<;>simp
   omega
theorem jf4 (b:Bool) (x y:List UInt8):ju .gtr b (sv x) (sv y)=some (vb (yX y x)):=by
 show some (vb (!(yX x y || decide (x=y))))=_;by_cases e:x=y
 ·subst e;rw [jaW,jQ rfl];rfl
 have h1:=jaz x y;have h3:=ZM.flip x y;have h4:=jaz y x;rw [kA e,QN];cases a:yX x y<;>cases c:yX y x<;>rw [a,c] at h1 h4
 ·exact absurd ((ZM.zero x y).1 h1) e
 ·rfl
 ·rfl
 ·have h1:zQ x y = -1:=h1;have h4:zQ y x = -1:=h4;omega
theorem jbH (x y:List UInt8):G 201 [sv x,sv y]=some (vi (zQ x y),[]):=by
 have n1:G 239 [sv x]=some (vb false,[]):=by rw [jIw];simp only [jd]
 have n2:G 239 [sv y]=some (vb false,[]):=by rw [jIw];simp only [jd]
 rw [jLj,jaz];cases h1:yX x y<;>cases h2:yX y x<;>simp only [jd,n1,n2,jf4,h1,h2]
theorem jgF (x y:Nat):G 156 [vi (x:Nat),vi (y:Nat)]=some (vi (zR x y),[]):=by
 have n1:G 203 [vi (x:Nat)]=some (vb false,[]):=by rw [jIs];simp only [jd]
 have n2:G 203 [vi (y:Nat)]=some (vb false,[]):=by rw [jIs];simp only [jd]
 rw [jKN];unfold zR;by_cases h1:x < y
 ·have h1':((x:Nat):Int) < ((y:Nat):Int):=by omega
  rw [jg h1];simp only [jd,n1,n2,h1']
 ·have h1':¬((x:Nat):Int) < ((y:Nat):Int):=by omega
  rw [jf h1];by_cases h2:y < x
  ·have h2':((y:Nat):Int) < ((x:Nat):Int):=by omega
   rw [jg h2];simp only [jd,n1,n2,h1',h2']
  ·have h2':¬((y:Nat):Int) < ((x:Nat):Int):=by omega
   rw [jf h2];simp only [jd,n1,n2,h1',h2']
theorem jAx (a b:Int):G 154 [.sl 1 [[vi a],[vi b]]]=some (vi (if a≠0 then a else b),[]):=by
 have i0:jl 1 (.sl 1 [[vi a],[vi b]]) (vi 0)=some (.elt [vi a] 0):=rfl;have i1:jl 1 (.sl 1 [[vi a],[vi b]]) (vi 1)=some (.elt [vi b] 0):=rfl;have ll:zn (.sl 1 [[vi a],[vi b]])=some (vi 2):=rfl;have c0:ju .add false (vi 0) (vi 1)=some (vi 1):=by rw [KX,jE (by decide) (by decide)];rfl
 have c1:ju .add false (vi 1) (vi 1)=some (vi 2):=by rw [KX,jE (by decide) (by decide)];rfl
 have z0:(0:Int) < 2:=by decide
 have z1:(1:Int) < 2:=by decide
 have z2:¬(2:Int) < 2:=by decide
 generalize A.sl 1 [[vi a],[vi b]]=X at *;have k2:jh3 (vi 0) X (vi 2) (vi 2)=some (vi 0,[]):=by rw [jsT];simp only [jd,z2]
 have k1:jh3 (vi 0) X (vi 2) (vi 1)=some (vi b,[]):=by
  rw [jsT];by_cases hb:b=0
  ·simp only [jd,z1,i1,hb,c1,k2]
  ·simp only [jd,z1,i1,hb]
 rw [jKL];simp only [cev];rw [ll,yy,jsT];by_cases ha:a=0
 ·rw [jf (λh=>h ha)];simp only [jd,z0,i0,ha,c0,k1]
 ·rw [jg ha];simp only [jd,z0,i0,ha]
def Rx' (t:T):Prop:=zS t=true\/(t.name = [61]/\ ∀u∈t.args,zS u=true)
theorem Rx'.args {t:T} (h:Rx' t):∀u∈t.args,Rx' u:=λu hu=>Or.inl (by
 rcases h with h|h
 ·exact zj h u hu
 ·exact h.2 u hu)
theorem jfQ (ts us:List T) (hl:ts.length<=1048576) (hlen:ts.length=us.length) (ih:∀t∈ts,∀u∈us,G 155 [tm t,tm u]=some (vi (qy t u),[])) :
  ∀i,i<=ts.length->jmQ (jH ts) (jH us) (.fn 155 []) (jH ts) (vi (ts.length:Nat)) (vi (i:Nat))=some (vi (yI (ts.drop i) (us.drop i)),[]):=by
 refine upto ?_ ?_
 ·rw [jzO,kg,yI];simp only [jd,hlen]
 ·intro i hi ih';have hlt:(i:Int) < ((ts.length:Nat):Int):=by omega
  have hi2:i < us.length:=by omega
  have hge:¬((us.length:Nat):Int)<=(i:Int):=by omega
  have h5:=js hi (by show ts.length<=9223372036854775807;omega)
  have e1:=ih ts[i] (jC _) us[i] (jC _);rw [jzO,ji hi,ji hi2,yI];by_cases hc:qy ts[i] us[i]=0
  ·rw [jf (λh=>h hc)];rw [hc] at e1;simp only [jd,hlt,ja hi,ja hi2,je,hge,qP (f:=155) rfl,qv,e1,h5,ih']
  ·rw [jg hc];generalize qy ts[i] us[i]=c at *;simp only [jd,hlt,ja hi,ja hi2,je,hge,qP (f:=155) rfl,qv,e1,hc]
theorem jhd:∀a:T,Rx' a->Tz a-> ∀b:T,Rx' b->Tz b->G 155 [tm a,tm b]=some (vi (qy a b),[]):=by
 refine T.ind λa ih ha za b hb zb=> ?_;have va:=yP a (ha.imp id λh=>h.1);have vb':=yP b (hb.imp id λh=>h.1);have hz:=za;unfold Tz at hz;rw [kH] at hz;have e1:=jbH a.name b.name;have e2:=jgF a.args.length b.args.length;have e3:=jAx (zQ a.name b.name) (zR a.args.length b.args.length);have e4:a.args.length=b.args.length->G 202 [jH a.args,jH b.args,.fn 155 []]=some (vi (yI a.args b.args),[]):=λhlen=>by
  have key:=jfQ a.args b.args (by omega) hlen (λt ht u hu=>ih t ht (ha.args t ht) (za.args t ht) u (hb.args u hu) (zb.args u hu)) 0 (ko _);simp only [kU,kD] at key;rw [jLk];simp only [jd,key]
 rw [jKM,Qk];unfold cK qM vF;cases h1:jp a.name<;>cases h2:jp b.name<;>rw [h1] at va<;>rw [h2] at vb'
 ·show _=some (vi (if (if zR 1 1≠0 then zR 1 1 else if zQ a.name b.name≠0 then zQ a.name b.name else zR a.args.length b.args.length)≠0 then (if zR 1 1≠0 then zR 1 1 else if zQ a.name b.name≠0 then zQ a.name b.name else zR a.args.length b.args.length) else yI a.args b.args),[]);rw [jf (show ¬zR 1 1≠0 by decide)];by_cases hz0:(if zQ a.name b.name≠0 then zQ a.name b.name else zR a.args.length b.args.length)=0
  ·have hlen:a.args.length=b.args.length:=by
    split at hz0
    ·rename_i h;exact absurd hz0 h
    ·exact (jbF.zero _ _).1 hz0
   rw [jf (λh=>h hz0)];rw [hz0] at e3;simp only [jd,va,vb',e1,e2,e3,e4 hlen]
  ·rw [jg hz0];generalize (if zQ a.name b.name≠0 then zQ a.name b.name else zR a.args.length b.args.length)=c at *;simp only [jd,va,vb',e1,e2,e3,hz0]
 ·have:(if (if zR 1 0≠0 then zR 1 0 else if zQ a.name b.name≠0 then zQ a.name b.name else zR a.args.length b.args.length)≠0 then (if zR 1 0≠0 then zR 1 0 else if zQ a.name b.name≠0 then zQ a.name b.name else zR a.args.length b.args.length) else yI a.args b.args)=1:=by
   rw [jg (show zR 1 0≠0 by decide),jg (show zR 1 0≠0 by decide)];rfl
  show _=some (vi (if (if zR 1 0≠0 then zR 1 0 else if zQ a.name b.name≠0 then zQ a.name b.name else zR a.args.length b.args.length)≠0 then (if zR 1 0≠0 then zR 1 0 else if zQ a.name b.name≠0 then zQ a.name b.name else zR a.args.length b.args.length) else yI a.args b.args),[]);rw [this];simp only [jd,va,vb']
 ·have:(if (if zR 0 1≠0 then zR 0 1 else if zQ a.name b.name≠0 then zQ a.name b.name else zR a.args.length b.args.length)≠0 then (if zR 0 1≠0 then zR 0 1 else if zQ a.name b.name≠0 then zQ a.name b.name else zR a.args.length b.args.length) else yI a.args b.args) = -1:=by
   rw [jg (show zR 0 1≠0 by decide),jg (show zR 0 1≠0 by decide)];rfl
  show _=some (vi (if (if zR 0 1≠0 then zR 0 1 else if zQ a.name b.name≠0 then zQ a.name b.name else zR a.args.length b.args.length)≠0 then (if zR 0 1≠0 then zR 0 1 else if zQ a.name b.name≠0 then zQ a.name b.name else zR a.args.length b.args.length) else yI a.args b.args),[]);rw [this];simp only [jd,va,vb']
 ·show _=some (vi (if (if zR 0 0≠0 then zR 0 0 else if zQ a.name b.name≠0 then zQ a.name b.name else zR a.args.length b.args.length)≠0 then (if zR 0 0≠0 then zR 0 0 else if zQ a.name b.name≠0 then zQ a.name b.name else zR a.args.length b.args.length) else yI a.args b.args),[]);rw [jf (show ¬zR 0 0≠0 by decide)];by_cases hz0:(if zQ a.name b.name≠0 then zQ a.name b.name else zR a.args.length b.args.length)=0
  ·have hlen:a.args.length=b.args.length:=by
    split at hz0
    ·rename_i h;exact absurd hz0 h
    ·exact (jbF.zero _ _).1 hz0
   rw [jf (λh=>h hz0)];rw [hz0] at e3;simp only [jd,va,vb',e1,e2,e3,e4 hlen]
  ·rw [jg hz0];generalize (if zQ a.name b.name≠0 then zQ a.name b.name else zR a.args.length b.args.length)=c at *;simp only [jd,va,vb',e1,e2,e3,hz0]
end Go.Proofs.YtbgikpffkgjecaaGreatDoor
