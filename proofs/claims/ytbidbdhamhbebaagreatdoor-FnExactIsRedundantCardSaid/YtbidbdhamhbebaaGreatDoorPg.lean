/- Pg -/
import Derived.Test.YtbidbdhamhbebaaGreatDoorPf
import Derived.Test.YtbidbdhamhbebaaGreatDoorPd
import Derived.Test.YtbidbdhamhbebaaGreatDoorPe
import Derived.Test.YtbidbdhamhbebaaGreatDoorPb
import Derived.Test.YtbidbdhamhbebaaGreatDoorPa
namespace Go.Proofs.YtbidbdhamhbebaaGreatDoor
open Go Go.RowKit Go.Proofs.YtbidbdhamhbebaaGreatDoor.Abs
set_option linter.unusedSimpArgs false
set_option linter.unusedVariables false
set_option maxHeartbeats 1000000
def wgt:kR->Nat
 | []=>0
 | l::c=>nodes l.2+wgt c
theorem jtz {p:Prf} (hp:Pz p) (h:Q1 p=true) (i:Nat) (hi:i < p.st.length):jV p.st[i].cls=true:=by
 unfold Q1 at h;rw [ju,kG] at h;exact (jdt hp i hi).2.2 (jey p _ 0 h.2 i (jE _) (by omega)) h.1
def wAt (p:Prf) (x:Int):Nat:=wgt (((p.st[x.toNat]?).map Stp.cls).getD [])
def jHp (p:Prf):Int->List Int->Int
 | b,[]=>b
 | b,x::r=>jHp p (if wAt p x < wAt p b then x else b) r
section
variable {s:Sch} (hp:Pz s.prf) (hv:Q1 s.prf=true)
include hp hv
end
mutual
def wT:T->List Key
 | .mk n us=>yS (.mk n us)::wTL us
def wTL:List T->List Key
 | []=>[]
 | t::ts=>wT t++wTL ts
end
def jvK:List Key->List Key->Int
 | [],[]=>0
 | [],_::_=> -1
 | _::_,[]=>1
 | a::x,b::y=>if cK a b≠0 then cK a b else jvK x y
mutual
theorem jFu:∀(a b:T) (x y:List Key),jvK (wT a++x) (wT b++y)=if y9 a b≠0 then y9 a b else jvK x y
 | .mk n us,.mk m vs,x,y=>by
  have e:=Yj (.mk n us) (.mk m vs);rw [wT,wT,Jl,Jl,jvK];by_cases h:cK (yS (.mk n us)) (yS (.mk m vs))=0
  .rw [jo (by simpa using h)] at e ⊢;have e:y9 (.mk n us) (.mk m vs)=yg us vs:=e;have hk:=jfT ((QP.zero _ _).1 h);have hl:us.length=vs.length:=hk.2;rw [e,juw us vs x y hl]
  .rw [jl h] at e ⊢;rw [e,jl h]
theorem juw:∀(us vs:List T) (x y:List Key),us.length=vs.length->jvK (wTL us++x) (wTL vs++y)=if yg us vs≠0 then yg us vs else jvK x y
 | [],[],x,y,_=>by
  rw [yg,jo (λh=>h rfl)];rfl
 | [],_::_,_,_,h=>by cases h
 | _::_,[],_,_,h=>by cases h
 | a::us,b::vs,x,y,h=>by
  rw [wTL,wTL,zH,zH,jFu a b,juw us vs x y (Nat.succ.inj h),yg];by_cases h0:y9 a b=0
  .simp [h0]
  .simp [h0]
end
def rK (f:List UInt8->List UInt8) (k:Key):Key:=if k.1=0 then (0,(f k.2.1,0)) else k
def wV:List Key->List (List UInt8)
 | []=>[]
 | k::w=>if k.1=0 then k.2.1::wV w else wV w
theorem jon:∀x y:List Key,wV (x++y)=wV x++wV y
 | [],_=>rfl
 | k::x,y=>by
  rw [Jl,wV,wV,jon x y];split<;>rfl
theorem jeK {n:List UInt8} (h:jp n=true):yS (.mk n [])=(0,(n,0)):=by
 unfold yS vF;show ((if jp n then 0 else 1),(n,0))=_;rw [jl h]
theorem jeJ {n:List UInt8} {us:List T} (h:jp n=false):yS (.mk n us)=(1,(n,us.length)):=by
 unfold yS vF;show ((if jp n then 0 else 1),(n,us.length))=_;rw [h,jo kh]
mutual
theorem jzU:∀(t:T) (l:List (List UInt8)),yv t=true->Zt l t=(wV (wT t)).foldl vnA l
 | .mk n us,l,h=>by
  rw [yv] at h;rw [Zt,wT];cases hv:jp n with
  | true=>
   rw [hv,jl rfl] at h;have:us = []:=jdl.1 h;subst this;rw [jl rfl,jeK hv,wV,jl rfl];rfl
  | false=>
   rw [hv,jo kh,ju,ju] at h;rw [jo kh,jeJ hv,wV,jo Nat.one_ne_zero];exact jlr us l h.2.2
theorem jlr:∀(ts:List T) (l:List (List UInt8)),jca ts=true->jaS l ts=(wV (wTL ts)).foldl vnA l
 | [],_,_=>rfl
 | t::ts,l,h=>by
  rw [jca,ju] at h;rw [jaS,wTL,jon,List.foldl_append,jzU t l h.1,jlr ts _ h.2]
end
section
variable {f:List UInt8->List UInt8}
mutual
theorem jAj:∀(t:T),yv t=true->(∀n∈wV (wT t),jp (f n)=true)->wT (ze f t)=(wT t).map (rK f)
 | .mk n us,h,hf=>by
  rw [yv] at h;rw [ze];cases hv:jp n with
  | true=>
   rw [hv,jl rfl] at h;have:us = []:=jdl.1 h;subst this;have hn:jp (f n)=true:=hf n (by rw [wT,jeK hv,wV,jl rfl];exact JP);rw [jl rfl,wT,wT,jeK hv,jeK hn];rfl
  | false=>
   rw [hv,jo kh,ju,ju] at h;have hl:(qx f us).length=us.length:=by rw [jcj,jK]
   rw [jo kh,wT,wT,jeJ hv,jeJ hv,hl,yH,jlG us h.2.2 (λm hm=>hf m (by rw [wT,jeJ hv,wV,jo Nat.one_ne_zero];exact hm))]
   rfl
theorem jlG:∀(ts:List T),jca ts=true->(∀n∈wV (wTL ts),jp (f n)=true)->wTL (qx f ts)=(wTL ts).map (rK f)
 | [],_,_=>rfl
 | t::ts,h,hf=>by
  rw [jca,ju] at h;rw [qx,wTL,wTL,zz,jAj t h.1 (λn hn=>hf n (by rw [wTL,jon];exact Yd _ hn)),jlG ts h.2 (λn hn=>hf n (by rw [wTL,jon];exact Qg _ hn))]
end
end
def Zc (c:kR):List (List UInt8):=c.flatMap λl=>wV (wT l.2)
mutual
theorem jzP:∀t:T,yv t=true-> ∀k∈wT t,k.1=0->k.2.2=0
 | .mk n us,h,k,hk,h0=>by
  rw [yv] at h;rw [wT] at hk;cases hv:jp n with
  | true=>
   rw [hv,jl rfl] at h;have:us = []:=jdl.1 h;subst this;rw [jeK hv] at hk;rcases j7.1 hk with e|hk
   .rw [e]
   .cases hk
  | false=>
   rw [hv,jo kh,ju,ju] at h;rw [jeJ hv] at hk;rcases j7.1 hk with e|hk
   .rw [e] at h0;cases h0
   .exact jlq us h.2.2 k hk h0
theorem jlq:∀ts:List T,jca ts=true-> ∀k∈wTL ts,k.1=0->k.2.2=0
 | [],_,k,hk,_=>by cases hk
 | t::ts,h,k,hk,h0=>by
  rw [jca,ju] at h;rw [wTL] at hk;rcases zh.1 hk with hk|hk
  .exact jzP t h.1 k hk h0
  .exact jlq ts h.2 k hk h0
end
structure Mdl where
 M:List UInt8->List Int->Int
 Q:List UInt8->List Int->Bool
 good:Int->Prop
 ok:∀n vs,good (M n vs)
def jG8 (m:Mdl) (e:List UInt8->Int) (t:T):Bool:=if t.name = [61]/\t.args.length=2 then decide (val m.M e (Jx t)=val m.M e (Za t)) else m.Q t.name (t.args.map (val m.M e))
def clV (m:Mdl) (e:List UInt8->Int) (c:kR):Prop:=∃l∈c,jG8 m e l.2=l.1
def jGl (m:Mdl) (e:List UInt8->Int):Prop:=∀x,m.good (e x)
def trM (m:Mdl) (c:kR):Prop:=∀e,jGl m e->clV m e c
def Sd (ps:List kR) (x:kR):Prop:=∀m:Mdl,(∀c∈ps,trM m c)->trM m x
theorem jzC {t:T} (h:t.args.length=2):Jx t∈t.args/\Za t∈t.args:=by
 obtain ⟨n,us⟩:=t
 match us,h with
 | [a,b],_=>exact ⟨JP ..,Jw _ (JP ..)⟩
section
variable (m:Mdl)
variable {m}
end
def jLc (M:List UInt8->List Int->Int) (e:List UInt8->Int) (s:js):Prop:=∀q∈s,e q.1=val M e q.2
section
variable {M:List UInt8->List Int->Int} {e:List UInt8->Int}
end
def jMc (p:UInt8) (ns:List (List UInt8)) (x:List UInt8):List UInt8:=match ns.find? (λn=>decide (zx p ns n=x)) with|some n=>n|none=>x
section
variable {m:Mdl}
end
def Agr (f:List UInt8->List UInt8) (m:js):Prop:=∀n r,look m n=some r->r = .mk (f n) []
mutual
theorem jFw {f:List UInt8->List UInt8} :∀(a:T) {m:js},Agr f m-> ∃m',mt m a (ze f a)=some m'/\Agr f m'
 | .mk n us,m,hm=>by
  rw [ze];cases hv:jp n with
  | true=>
   rw [jl rfl,QW (p:= .mk n us) hv];show ∃m',(match look m n with|some r=>if dq r (.mk (f n) []) then some m else none|none=>some (m++[(n,.mk (f n) [])]))=some m'/\Agr f m';cases hl:look m n with
   | some r=>
    have e:=hm n r hl;refine ⟨m,?_,hm⟩;show (if dq r (.mk (f n) [])=true then some m else none)=some m;rw [e,Qw,jl rfl]
   | none=>
    refine ⟨m++[(n,.mk (f n) [])],rfl,λx r hx=> ?_⟩;rw [jgR] at hx;cases hlx:look m x with
    | some r'=>
     rw [hlx] at hx;cases hx;exact hm x _ hlx
    | none=>
     rw [hlx] at hx;have hi:=qV hx;have e:=zi.1 hi;cases e;rfl
  | false=>
   have hl:us.length=(qx f us).length:=by rw [jcj,jK]
   rw [jo kh,YU (p:= .mk n us) hv];show ∃m',(if n=n/\us.length=(qx f us).length then Zp m us (qx f us) else none)=some m'/\Agr f m';rw [jl ⟨rfl,hl⟩];exact juz us hm
theorem juz {f:List UInt8->List UInt8} :∀(us:List T) {m:js},Agr f m-> ∃m',Zp m us (qx f us)=some m'/\Agr f m'
 | [],m,hm=>⟨m,by rw [Zp],hm⟩
 | u::us,m,hm=>by
  obtain ⟨m1,e1,h1⟩:=jFw u hm;obtain ⟨m2,e2,h2⟩:=juz us h1;refine ⟨m2,?_,h2⟩;rw [qx,Zp];show (mt m u (ze f u)).bind _=_;rw [e1];exact e2
end
noncomputable def jjT (d:kR):List Lt->js->Option js
 | [],m=>some m
 | l::c,m=>d.findSome? λx=>if x.1=l.1 then (mt m l.2 x.2).bind λm'=>jjT d c m' else none
mutual
theorem jAh {f g:List UInt8->List UInt8} (hf:∀n,jp n=true->jp (f n)=true):∀t:T,ze g (ze f t)=ze (λn=>g (f n)) t
 | .mk n us=>by
  rw [ze,ze];cases hv:jp n with
  | true=>
   rw [jl rfl,jl rfl,ze,jl (hf n hv)]
  | false=>
   rw [jo kh,jo kh,ze,hv,jo kh,jlE hf us]
theorem jlE {f g:List UInt8->List UInt8} (hf:∀n,jp n=true->jp (f n)=true):∀ts:List T,qx g (qx f ts)=qx (λn=>g (f n)) ts
 | []=>rfl
 | t::ts=>by rw [qx,qx,qx,jAh hf t,jlE hf ts]
end
theorem jxi {rem:List (List A)} {z:Option Out} {g:List A->List (List A)->Option Out} {o:Out} (hz:rem = []->z=some o) (h:∀i x,rem[i]? = some x->g x (rem.eraseIdx i)=some o):allR rem z g=some o:=by
 cases rem with
 | nil=>exact hz rfl
 | cons x xs=>exact (Q9 (by simp)).2 h
def Kq (m:js):js:=m.mergeSort λp q=>decide (p.1<=q.1)
theorem jBm (m:js):jsg (m.map kv)=(Kq m).map kv:=by
 symm;refine List.map_mergeSort λp _ q _=> ?_;show decide (p.1<=q.1)=decide (bs _<=bs _);refine jkm.2 ?_;simp
theorem jae (m:js):(Kq m).Perm m:=List.mergeSort_perm m _
theorem jad {m:js} {p:List UInt8 × T} :p∈Kq m↔p∈m:=(jae m).mem_iff
theorem jim {m:js} (h:(m.map Prod.fst).Nodup):((Kq m).map Prod.fst).Nodup:=((jae m).map Prod.fst).nodup_iff.2 h
theorem jo9 {m m':js} (h:m.Perm m') (hn:(m.map Prod.fst).Nodup):Kq m=Kq m':=by
 have st:∀l:js,(l.map Prod.fst).Nodup->(Kq l).Pairwise λa b=>a.1<=b.1/\a.1≠b.1:=λl hl=>by
  have h1:(Kq l).Pairwise λa b=>decide (a.1<=b.1)=true:=List.pairwise_mergeSort (λa b c h1 h2=>by simp only [kG] at *;exact List.le_trans h1 h2) (λa b=>by simp only [jgq,kG];exact List.le_total a.1 b.1) l
  have h2:=jim hl;rw [joq] at h2;exact (h1.and (jke.1 h2)).imp λh=>⟨jhd h.1,h.2⟩
 exact js3 (R:=λa b=>a.1<=b.1/\a.1≠b.1) (λa h=>h.2 rfl) (λa b h h'=>h.2 (List.le_antisymm h.1 h'.1)) (st m hn) (st m' ((h.map Prod.fst).nodup_iff.1 hn)) λx=>by rw [jad,jad,h.mem_iff]
theorem jxA:Kq [] = []:=by simp [Kq]
theorem jss {α:Type} {m:List α} {i:Nat} (hi:i < m.length):(m[i]::m.eraseIdx i).Perm m:=by
 rw [jAW];refine List.perm_middle.symm.trans ?_;rw [<-jot hi,Ql]
theorem jnM {α β:Type} {f:α->β} {m:List α} {i:Nat} {x:β} (h:(m.map f)[i]? = some x):∃hi:i < m.length,x=f m[i]:=by
 rw [yu,yP] at h;obtain ⟨y,h1,h2⟩:=h;obtain ⟨hi,h3⟩:=qM.1 h1;exact ⟨hi,by rw [h3];exact h2.symm⟩
theorem jvR {α β:Type} (f:α->β) (m:List α) (i:Nat):(m.map f).eraseIdx i=(m.eraseIdx i).map f:=by
 induction m generalizing i with
 | nil=>simp
 | cons a m ih=>cases i with
  | zero=>simp
  | succ i=>simp [ih]
theorem jvi:∀(n:Nat) (m acc:js),m.length=n->((acc++m).map Prod.fst).Nodup->jd3 ((Kq acc).map kv) (m.map kv)=some (.top,[.sl 128 ((Kq (acc++m)).map kv)]):=by
 intro n;induction n with
 | zero=>
  intro m acc hl _;obtain rfl:=jhc.1 hl;rw [jpQ,y8];rfl
 | succ n ih=>
  intro m acc hl hn;rw [jpQ];refine jxi (λe=>by rw [List.map_eq_nil_iff.1 e] at hl;cases hl) λi x hx=> ?_;obtain ⟨hi,rfl⟩:=jnM hx;rw [jvR];have hp:=jss hi;have hl2:(m.eraseIdx i).length=n:=by rw [List.length_eraseIdx,jl hi];omega
  generalize m.eraseIdx i=m2 at hp hl2;generalize m[i]=p at hp;have hperm:(acc++m).Perm (acc++[p]++m2):=by
   rw [zH];exact (hp.symm).append_left acc
  have hn2:((acc++[p]++m2).map Prod.fst).Nodup:=(hperm.map Prod.fst).nodup_iff.1 hn;have hna:((acc++[p]).map Prod.fst).Nodup:=by
   rw [zz] at hn2;exact (jbm.1 hn2).1
  have hlook:look (Kq acc) p.1=none:=qa.2 λq hq e=>by
   rw [zz,jbm] at hna;exact hna.2.2 q.1 (ym.2 ⟨q,jad.1 hq,rfl⟩) p.1 (by simp) e
  have h1:=jf5 hlook p.2;have h2:jsg ((Kq acc++[p]).map kv)=(Kq (acc++[p])).map kv:=by
   rw [jBm];refine congrArg (λl=>List.map kv l) (jo9 ((jae acc).append_right [p]) ?_);exact (((jae acc).append_right [p]).map Prod.fst).nodup_iff.2 hna
  have h1:jeW none ((Kq acc).map kv) (sv p.1) (.agg [sv p.2.name,jQ p.2.args])=some ((Kq acc++[p]).map kv):=h1;have h3:=ih m2 (acc++[p]) hl2 hn2;rw [jo9 hperm hn];have k0:jyg (kv p)=true:=rfl;have k1:QX (A.tup [jc (kv p) 0,jc (kv p) 1]) 0=some (sv p.1):=rfl;have k2:QX (A.tup [jc (kv p) 0,jc (kv p) 1]) 1=some (tm p.2):=rfl;simp only [je,k0,k1,k2,h1,h2,h3]
theorem jxI (m:js) (hn:(m.map Prod.fst).Nodup):jrS (.mp (m.map kv))=some (.top,[.sl 128 ((Kq m).map kv)]):=by
 have h:=jvi m.length m [] rfl hn;rw [KN] at h;have e:jsg []=(Kq []).map kv:=by rw [jxA];simp [jsg]
 rw [jEC];show (some (m.map kv)).bind _=_;rw [yo,e];exact h
noncomputable def jLg (l:js):Option Out:=yd (if jN (Jo l) then some (Jo l) else none)
structure GoodB (l:js):Prop where
 nod:(l.map Prod.fst).Nodup
 keep:∀p∈l,p.2.name≠p.1
 len:l.length<=1000
 sz:∀p∈l,p.1.length<=1000000/\Tz p.2
noncomputable def jkK (d:kR):List Lt->js->Option js
 | [],m=>some m
 | l::c,m=>d.findSome? λx=>if x.1=l.1 then (mt (Kq m) l.2 x.2).bind λm'=>jkK d c m' else none
def MIn (S:List (List UInt8)) (m:js):Prop:=∀q∈m,q.1∈S
theorem jdG {p:T->Prop} (hp:∀t,p t-> ∀u∈t.args,p u):∀(us ts:List T) {m m':js},(∀u∈ts,p u)->MOk p m->Zp m us ts=some m'->MOk p m':=by
 intro us;induction us with
 | nil=>intro ts m m' _ hm h;simp only [Zp,kL] at h;exact h ▸ hm
 | cons u us ih=>
  intro ts m m' hts hm h;cases ts with
  | nil=>simp only [Zp,kL] at h;exact h ▸ hm
  | cons s ts=>
   simp only [Zp] at h;obtain ⟨m1,h1,h2⟩:=zB.1 h;exact ih ts (λx hx=>hts x (by simp [hx])) (ji7 hp u hm (hts s (by simp)) h1) h2
theorem jua {t u:T} (h:u∈t.args):Yf u<=Yf t:=by have h1:=Zi t;have h2:=jit h;omega
def Pt (t:T):Prop:=yv t=true/\nodes t<=30/\Yf t<=8
theorem Pt.valid {t:T} (h:Pt t):kY t=true:=by
 unfold kY jD;rw [h.1,jR h.2.1,jR h.2.2];rfl
theorem Pt.args {t:T} (h:Pt t):∀u∈t.args,Pt u:=λu hu=>⟨zK h.1 u hu,by have:=qp hu;have:=h.2.1;omega,by have:=jua hu;have:=h.2.2;omega⟩
theorem Pt.tz {t:T} (h:Pt t):Tz t:=by
 have h1:=jdM t h.1;have:=h.2.1;unfold Tz;omega
def Pa (t:T):Prop:=Bx t/\nodes t<=30/\Yf t<=8
theorem Pa.args {t:T} (h:Pa t):∀u∈t.args,Pt u:=λu hu=>⟨h.1.args u hu,by have:=qp hu;have:=h.2.1;omega,by have:=jua hu;have:=h.2.2;omega⟩
theorem Pa.nv {t:T} (h:Pa t):jp t.name=false:=by
 rcases h.1 with h|h
 .rw [h.1];decide
 .exact joj h.1
theorem Pa.tz {t:T} (h:Pa t):Tz t:=by
 have h1:=h.1.tsz;have:=h.2.1;unfold Tz;omega
theorem jCi {a t:T} (ha:Pa a) (ht:Pa t) {m m':js} (hm:MOk Pt m) (h:mt m a t=some m'):MOk Pt m':=by
 rw [YU ha.nv] at h;split at h
 .exact jdG (λ_ h=>h.args) _ _ ht.args hm h
 .cases h
theorem MOk.can {p:T->Prop} {m:js} (h:MOk p m):MOk p (Kq m):=⟨jim h.1,λq hq=>h.2 q (jad.1 hq)⟩
theorem MIn.can {S:List (List UInt8)} {m:js} (h:MIn S m):MIn S (Kq m):=λq hq=>h q (jad.1 hq)
def AgM (f:List UInt8->List UInt8) (m:js):Prop:=∀q∈m,q.2 = .mk (f q.1) []
theorem AgM.can {f:List UInt8->List UInt8} {m:js} (h:AgM f m):AgM f (Kq m):=λq hq=>h q (jad.1 hq)
mutual
theorem jCk {f:List UInt8->List UInt8} :∀(a:T) {m:js},AgM f m-> ∃m',mt m a (ze f a)=some m'/\AgM f m'
 | .mk n us,m,hm=>by
  rw [ze];cases hv:jp n with
  | true=>
   rw [jl rfl,QW (p:= .mk n us) hv];show ∃m',(match look m n with|some r=>if dq r (.mk (f n) []) then some m else none|none=>some (m++[(n,.mk (f n) [])]))=some m'/\AgM f m';cases hl:look m n with
   | some r=>
    have e:r = .mk (f n) []:=hm (n,r) (qV hl);refine ⟨m,?_,hm⟩;show (if dq r (.mk (f n) [])=true then some m else none)=some m;rw [e,Qw,jl rfl]
   | none=>
    refine ⟨m++[(n,.mk (f n) [])],rfl,λq hq=> ?_⟩;rcases zh.1 hq with hq|hq
    .exact hm q hq
    .rw [zi.1 hq]
  | false=>
   have hl:us.length=(qx f us).length:=by rw [jcj,jK]
   rw [jo kh,YU (p:= .mk n us) hv];show ∃m',(if n=n/\us.length=(qx f us).length then Zp m us (qx f us) else none)=some m'/\AgM f m';rw [jl ⟨rfl,hl⟩];exact jqq us hm
theorem jqq {f:List UInt8->List UInt8} :∀(us:List T) {m:js},AgM f m-> ∃m',Zp m us (qx f us)=some m'/\AgM f m'
 | [],m,hm=>⟨m,by rw [Zp],hm⟩
 | u::us,m,hm=>by
  obtain ⟨m1,e1,h1⟩:=jCk u hm;obtain ⟨m2,e2,h2⟩:=jqq us h1;refine ⟨m2,?_,h2⟩;rw [qx,Zp];show (mt m u (ze f u)).bind _=_;rw [e1];exact e2
end
theorem jvy (a:T) (h:Bx a):G 123 [.agg [sv a.name,jQ a.args]]=some (vb (jp a.name),[]):=by
 rcases h.ax with h|h
 .exact ZS a h
 .have e1:=jaM 61;have hx:yD (sv a.name) (vi 0)=some (vy 61):=by rw [h.1];exact qJ
  have hv:jp a.name=false:=by rw [h.1];decide
  have e1:G 152 [vy 61]=some (vb false,[]):=e1;rw [hv,jE9];simp only [je,hx,e1]
theorem jvT (a:T) (ha:Pa a) (t:T) (m:js) (ht:Tz t) (hm:∀q∈m,Tz q.2):MI (QJ (tm a) (sv t.name) (jQ t.args) (m.map kv)) (mt m a t):=
 jk9 a ha.tz (jvy a ha.1) (λhv=>by rw [ha.nv] at hv;cases hv) t m ht hm λu hu s m hs hm=>jqm u (ha.args u hu).tz (ha.args u hu).1 s m hs hm
def jHA (r:Option js):Option Out:=match r with
 | some m=>some (.tup [.mp (m.map kv),vb true],[])
 | none=>some (.tup [.val (.map none),vb false],[])
theorem jjW (d:kR) (hl:d.length<=8) (hd:∀x∈d,Pa x.2):∀(c:List Lt),c.length<=8->(∀l∈c,Pa l.2)-> ∀(m:js),MOk Pt m->G 75 [.mp (m.map kv),.sl 3 (c.map jL),cm d]=jHA (jkK d c m)
 | [],_,_,m,hm=>by
  rw [g75,jkK];simp only [je];rfl
 | l::c,hc,hcl,m,hm=>by
  have ih:=jjW d hl hd c (by rw [zM] at hc;omega) (λy hy=>hcl y (Jw _ hy))
  have hPl:=hcl l JP;have key:=upto (n:=d.length) (P:=λi=>joP (.mp (m.map kv)) (.sl 3 ((l::c).map jL)) (.sl 3 (d.map jL)) (vi (d.length:Nat)) (vi (i:Nat)) (.sl 3 (d.map jL))=jHA ((d.drop i).findSome? λx=>if x.1=l.1 then (mt (Kq m) l.2 x.2).bind λm'=>jkK d c m' else none)) ?_ ?_ 0 (jE _)
  .rw [g75,jkK];have nz:¬((((l::c).length:Nat):Int)=0):=by rw [zM];omega
   simp only [jP,kj] at key;generalize hX:(l::c).map jL=X at key ⊢;have hXl:X.length=(l::c).length:=by rw [<-hX,jK]
   rw [<-hXl] at nz;simp only [je,nz,key]
  .have nlt:¬((d.length:Nat):Int) < ((d.length:Nat):Int):=by omega
   rw [jDS,j4];simp only [je,nlt];rfl
  .intro i hi ih2;have hlt:(i:Int) < ((d.length:Nat):Int):=by omega
   have h5:=jq hi (by show d.length<=9223372036854775807;omega)
   have x1:jh 3 (.sl 3 (d.map jL)) (vi (i:Nat))=some (.elt (jL d[i]) 0):=jb hi;have hPx:=hd _ (jr hi);rw [ji hi,jbo];generalize d[i]=x at x1 hPx ⊢;have x2:ke 3 (.elt (jL x) 0)=some (.agg (jL x)):=rfl;have x3:jh 3 (.sl 3 ((l::c).map jL)) (vi 0)=some (.elt (jL l) 0):=by
    have:=jb (f:=jL) (xs:=l::c) (i:=0) (k:=3) (by rw [zM];omega)
    exact this
   have x4:zZ 3 (.sl 3 ((l::c).map jL)) (some (vi 1)) none=some (.sl 3 (c.map jL)):=by
    have:=yZ (k:=3) (xs:=(l::c).map jL) (i:=1) (by simp);exact this
   have y1:ku (.elt (jL l) 0)=some (vb l.1):=rfl;have y2:ye (.elt (jL l) 0) 1=some (.elt (jL l) 1):=rfl;have y3:ke 2 (.elt (jL l) 1)=some (tm l.2):=rfl;have y0:ye (.elt (jL l) 0) 0=some (.elt (jL l) 0):=rfl;have cp:=jxI m hm.1;have hR0:hR 128 (A.top,[.sl 128 ((Kq m).map kv)]) 0=some ((Kq m).map kv):=rfl;have hm2:=hm.can;have mq:=jvT l.2 hPl x.2 (Kq m) hPx.tz λq hq=>(hm2.2 q hq).2.tz;rw [jDS];generalize (l::c).map jL=X at *;by_cases hb:x.1=l.1
   .rw [jl hb];cases hq:mt (Kq m) l.2 x.2 with
    | none=>
     rw [hq] at mq;obtain ⟨R,mq⟩:=mq;have hR1:hR 128 (A.top,[vb false,.sl 128 R]) 1=some R:=rfl;rw [Option.bind_none];simp only [je,hlt,x1,x2,x3,x4,y0,y1,y2,y3,cp,hR0,hb,mq,hR1,h5,qk];exact ih2
    | some m1=>
     rw [hq] at mq;have mq:QJ (tm l.2) (sv x.2.name) (jQ x.2.args) ((Kq m).map kv)=some (.top,[vb true,.sl 128 (m1.map kv)]):=mq;have hR1:hR 128 (A.top,[vb true,.sl 128 (m1.map kv)]) 1=some (m1.map kv):=rfl;have e2:=ih m1 (jCi hPl hPx hm2 hq);rw [yo];cases hs:jkK d c m1 with
     | none=>
      rw [hs] at e2;have e2:G 75 [.mp (m1.map kv),.sl 3 (c.map jL),.agg [.sl 3 (d.map jL)]]=some (.tup [.val (.map none),vb false],[]):=e2;simp only [je,hlt,x1,x2,x3,x4,y0,y1,y2,y3,cp,hR0,hb,mq,hR1,h5,e2,qk];exact ih2
     | some m2=>
      rw [hs] at e2;have e2:G 75 [.mp (m1.map kv),.sl 3 (c.map jL),.agg [.sl 3 (d.map jL)]]=some (.tup [.mp (m2.map kv),vb true],[]):=e2;simp only [je,hlt,x1,x2,x3,x4,y0,y1,y2,y3,cp,hR0,hb,mq,hR1,h5,e2,qk];rfl
   .rw [jo hb];simp only [je,hlt,x1,x2,x3,x4,y0,y1,y2,y3,cp,hR0,hb,h5,qk];exact ih2
theorem jqg:∀ {m:js} {n:List UInt8} {r:T},(m.map Prod.fst).Nodup->(n,r)∈m->look m n=some r
 | p::m,n,r,hn,h=>by
  rw [yH,jha] at hn;rw [look];rcases j7.1 h with e|h
  .rw [<-e,jl rfl]
  .rw [jo λe=>hn.1 (ym.2 ⟨(n,r),h,e.symm⟩)];exact jqg hn.2 h
theorem jvN {m m':js} (h:m.Perm m') (hn:(m.map Prod.fst).Nodup) (n:List UInt8):look m n=look m' n:=by
 cases hl:look m n with
 | some r=>exact (jqg ((h.map Prod.fst).nodup_iff.1 hn) (h.mem_iff.1 (qV hl))).symm
 | none=>exact (qa.2 λp hp=>qa.1 hl p (h.mem_iff.2 hp)).symm
def OP (o o':Option js):Prop:=match o,o' with
 | some r,some r'=>r.Perm r'/\(r.map Prod.fst).Nodup
 | none,none=>True
 | _,_=>False
theorem jCj:∀(a:T) {m m':js} {t:T},m.Perm m'->(m.map Prod.fst).Nodup->OP (mt m a t) (mt m' a t):=by
 refine T.ind (p:=λa=>∀ {m m':js} {t:T},m.Perm m'->(m.map Prod.fst).Nodup->OP (mt m a t) (mt m' a t)) λa ih=> ?_;intro m m' t hp hn;cases hv:jp a.name with
 | true=>
  rw [QW hv,QW hv,<-jvN hp hn];cases hl:look m a.name with
  | some r=>
   show OP (if dq r t then some m else none) (if dq r t then some m' else none);split
   .exact ⟨hp,hn⟩
   .trivial
  | none=>
   show OP (some (m++[(a.name,t)])) (some (m'++[(a.name,t)]));refine ⟨hp.append_right _,?_⟩;rw [zz,jbm];refine ⟨hn,by simp,λx hx y hy=> ?_⟩;obtain ⟨q,hq,rfl⟩:=ym.1 hx;have hy:y=a.name:=by simpa using hy
   rw [hy];exact qa.1 hl q hq
 | false=>
  rw [YU hv,YU hv];split
  .have key:∀(us ts:List T) {m m':js},(∀u∈us,u∈a.args)->m.Perm m'->(m.map Prod.fst).Nodup->OP (Zp m us ts) (Zp m' us ts):=by
    intro us;induction us with
    | nil=>intro ts m m' _ hp hn;simp only [Zp];exact ⟨hp,hn⟩
    | cons u us ih2=>
     intro ts m m' hu hp hn;cases ts with
     | nil=>simp only [Zp];exact ⟨hp,hn⟩
     | cons s ts=>
      simp only [Zp];have h1:=ih u (hu u (by simp)) (t:=s) hp hn;cases e1:mt m u s with
      | none=>
       cases e2:mt m' u s with
       | none=>trivial
       | some r'=>rw [e1,e2] at h1;exact h1.elim
      | some r=>
       cases e2:mt m' u s with
       | none=>rw [e1,e2] at h1;exact h1.elim
       | some r'=>
        rw [e1,e2] at h1;exact ih2 ts (λx hx=>hu x (by simp [hx])) h1.1 h1.2
   exact key a.args t.args (λ_ h=>h) hp hn
  .trivial
theorem jx3 {α:Type} {f g:α->Option js} :∀(l:List α),(∀x∈l,OP (f x) (g x))->OP (l.findSome? f) (l.findSome? g)
 | [],_=>trivial
 | x::l,h=>by
  rw [jbo,jbo];have h1:=h x JP;cases e1:f x with
  | none=>
   cases e2:g x with
   | none=>exact jx3 l λy hy=>h y (Jw _ hy)
   | some r'=>rw [e1,e2] at h1;exact h1.elim
  | some r=>
   cases e2:g x with
   | none=>rw [e1,e2] at h1;exact h1.elim
   | some r'=>rw [e1,e2] at h1;exact h1
theorem jrr (d:kR):∀(c:List Lt) {m m':js},m.Perm m'->(m.map Prod.fst).Nodup->OP (jjT d c m) (jkK d c m')
 | [],m,m',hp,hn=>⟨hp,hn⟩
 | l::c,m,m',hp,hn=>by
  rw [jjT,jkK];refine jx3 d λx _=> ?_;split
  .have h1:=jCj l.2 (t:=x.2) (hp.trans (jae m').symm) hn;cases e1:mt m l.2 x.2 with
   | none=>
    cases e2:mt (Kq m') l.2 x.2 with
    | none=>trivial
    | some r'=>rw [e1,e2] at h1;exact h1.elim
   | some r=>
    cases e2:mt (Kq m') l.2 x.2 with
    | none=>rw [e1,e2] at h1;exact h1.elim
    | some r'=>rw [e1,e2] at h1;exact jrr d c h1.1 h1.2
  .trivial
def jK1 (s:js) (c:kR):kR:=c.map λl=>(l.1,sub s l.2)
noncomputable def qT (l:Lt):Bool:=l.1 && (decide (l.2.name = [61]) && dq (Jx l.2) (Za l.2))
noncomputable def jbk (p:Option Lt) (l:Lt):Bool:=match p with|none=>false|some q=>dq q.2 l.2
noncomputable def jEe:List Lt->Option Lt->Bool
 | [],_=>false
 | l::c,p=>qT l || (jbk p l || jEe c (some l))
noncomputable def KL (p:Option Lt) (c:List Lt):Bool:=jEe c p
theorem jlW (p:Option Lt):KL p []=false:=rfl
theorem jj0 (p:Option Lt) (l:Lt) (c:List Lt):KL p (l::c)=(qT l || (jbk p l || KL (some l) c)):=rfl
theorem jcV {c:kR} (h:yO c=true):∀l∈c,Pa l.2:=λl hl=>by
 obtain ⟨h1,h2⟩:=jbO.1 ((qy h).2.2 l hl);unfold jD at h2;rw [ju,kG,kG] at h2;exact ⟨h1,h2.1,h2.2⟩
def jFF (m:js) (r:Option js):Option Out:=match r with
 | some m'=>some (.tup [.sl 3 (m'.map bc),vb true],[])
 | none=>some (.tup [.sl 3 (m.map bc),vb false],[])
theorem jsO (c d:kR) (hcl:c.length<=8) (hc:∀l∈c,Pa l.2) (hdl:d.length<=8) (hd:∀x∈d,Pa x.2):∀i,i<=c.length-> ∀m:js,(∀q∈m,Tz q.2)->m.length<=30 * i->G 89 [cm c,vi (i:Nat),cm d,.sl 3 (m.map bc)]=jFF m (jjT d (c.drop i) m):=by
 refine upto (P:=λi=>∀m:js,(∀q∈m,Tz q.2)->m.length<=30 * i->G 89 [cm c,vi (i:Nat),cm d,.sl 3 (m.map bc)]=jFF m (jjT d (c.drop i) m)) ?_ ?_
 .intro m _ _;rw [j4,jjT,g89];simp only [je];rfl
 .intro i hi ih m hm hml;have hne:¬((i:Nat):Int)=((c.length:Nat):Int):=by omega
  have hPl:=hc _ (jr hi);have c1:ck ((i:Int)+1)=some (vi ((i+1:Nat):Int)):=j8 (by omega) (by omega);have a1:jh 3 (.sl 3 (c.map jL)) (vi (i:Nat))=some (.elt (jL c[i]) 0):=jb hi;rw [ji hi];generalize c[i]=l at hPl a1 ⊢;have z0:ye (.elt (jL l) 0) 0=some (.elt (jL l) 0):=rfl;have z1:ku (.elt (jL l) 0)=some (vb l.1):=rfl;have z2:ye (.elt (jL l) 0) 1=some (.elt (jL l) 1):=rfl;have z3:ke 2 (.elt (jL l) 1)=some (tm l.2):=rfl;have pr:jeX 3 (.sl 3 (m.map bc))=some (m.map bc):=by unfold jeX;exact jl rfl
  have fm:jW m.length 56=true:=jsZ (by omega);have key:=upto (n:=d.length) (P:=λk=>jig (vi (i:Nat)) (.sl 3 (m.map bc)) (vi (k:Nat)) (.sl 3 (c.map jL)) (.sl 3 (d.map jL))=jFF m ((d.drop k).findSome? λx=>if x.1=l.1 then (mt m l.2 x.2).bind λm'=>jjT d (c.drop (i+1)) m' else none)) ?_ ?_ 0 (jE _)
  .rw [g89,jjT];simp only [jP,kj] at key;simp only [je,hne,key]
  .have nlt:¬((d.length:Nat):Int) < ((d.length:Nat):Int):=by omega
   rw [jDX,j4];simp only [je,nlt];rfl
  .intro k hk ih2;have hlt:(k:Int) < ((d.length:Nat):Int):=by omega
   have h5:=jq hk (by show d.length<=9223372036854775807;omega)
   have x1:jh 3 (.sl 3 (d.map jL)) (vi (k:Nat))=some (.elt (jL d[k]) 0):=jb hk;have hPx:=hd _ (jr hk);rw [ji hk,jbo];generalize d[k]=x at x1 hPx ⊢;have y0:ye (.elt (jL x) 0) 0=some (.elt (jL x) 0):=rfl;have y1:ku (.elt (jL x) 0)=some (vb x.1):=rfl;have y2:ye (.elt (jL x) 0) 1=some (.elt (jL x) 1):=rfl;have y3:ke 2 (.elt (jL x) 1)=some (tm x.2):=rfl;have mq:=jiW l.2 hPl.tz x.2 m hPx.tz hm (by have:=hPl.2.1;omega);rw [jDX];by_cases hb:x.1=l.1
   .rw [jl hb];cases hq:mt m l.2 x.2 with
    | none=>
     rw [hq] at mq;obtain ⟨R,mq⟩:=mq;have hR1:hR 259 (A.top,[vb false,.sl 259 R]) 1=some R:=rfl;rw [Option.bind_none];simp only [je,hlt,x1,a1,z0,z1,z2,z3,y0,y1,y2,y3,hb,pr,fm,jK,mq,hR1,h5,qk];exact ih2
    | some m1=>
     rw [hq] at mq;have mq:QK (tm l.2) (tm x.2) (m.map bc)=some (.top,[vb true,.sl 259 (m1.map bc)]):=mq;have hR1:hR 259 (A.top,[vb true,.sl 259 (m1.map bc)]) 1=some (m1.map bc):=rfl;obtain ⟨v1,v2⟩:=jfY (p:=Tz) (λ_ h=>h.args) l.2 hm hPx.tz hq;have e2:=ih m1 v1 (by have:=hPl.2.1;omega);rw [yo];cases hs:jjT d (c.drop (i+1)) m1 with
     | none=>
      rw [hs] at e2;have e2:G 89 [.agg [.sl 3 (c.map jL)],vi ((i+1:Nat):Int),.agg [.sl 3 (d.map jL)],.sl 3 (m1.map bc)]=some (.tup [.sl 3 (m1.map bc),vb false],[]):=e2;simp only [je,hlt,x1,a1,z0,z1,z2,z3,y0,y1,y2,y3,hb,pr,fm,jK,mq,hR1,h5,c1,e2,qk];exact ih2
     | some m2=>
      rw [hs] at e2;have e2:G 89 [.agg [.sl 3 (c.map jL)],vi ((i+1:Nat):Int),.agg [.sl 3 (d.map jL)],.sl 3 (m1.map bc)]=some (.tup [.sl 3 (m2.map bc),vb true],[]):=e2;simp only [je,hlt,x1,a1,z0,z1,z2,z3,y0,y1,y2,y3,hb,pr,fm,jK,mq,hR1,h5,c1,e2,qk];rfl
   .have hb':¬l.1=x.1:=λh=>hb h.symm;rw [jo hb];simp only [je,hlt,x1,a1,z0,z1,y0,y1,hb',h5];exact ih2
def J1 (d:kR) (i:Nat):Option Lt:=if i=0 then none else d[i - 1]?
theorem jvx (d:kR) (hd:CN d):G 50 [cm d]=some (vb (KL none d),[]):=by
 have key:=upto (n:=d.length) (P:=λi=>joM (.sl 3 (d.map jL)) (vi (d.length:Nat)) (vi (i:Nat)) (.sl 3 (d.map jL))=some (vb (KL (J1 d i) (d.drop i)),[])) ?_ ?_ 0 (jE _)
 .simp only [jP,kj] at key;rw [g50];simp only [je,key];rfl
 .have nlt:¬((d.length:Nat):Int) < ((d.length:Nat):Int):=by omega
  rw [jDJ,j4];rw [jlW];simp only [je,nlt]
 .intro i hi ih;have hlt:(i:Int) < ((d.length:Nat):Int):=by omega
  have h5:=jq hi (by have:=hd.1;show d.length<=9223372036854775807;omega)
  have x1:jh 3 (.sl 3 (d.map jL)) (vi (i:Nat))=some (.elt (jL d[i]) 0):=jb hi;have hb:=(hd.2 _ (jr hi)).1;have hz:=(hd.tz _ (jr hi));have hp1:J1 d (i+1)=some d[i]:=by
   unfold J1;rw [jo (by omega),Nat.add_sub_cancel,zk hi]
  rw [hp1] at ih;rw [ji hi,jj0];have hprev:(i=0/\J1 d i=none)\/ ∃q,J1 d i=some q/\0 < i/\jh 3 (.sl 3 (d.map jL)) (vi ((i:Nat) - 1:Int))=some (.elt (jL q) 0)/\Tz q.2:=by
   by_cases h0:i=0
   .exact Or.inl ⟨h0,by unfold J1;rw [jl h0]⟩
   .have hi1:i - 1 < d.length:=by omega
    refine Or.inr ⟨d[i - 1],by unfold J1;rw [jo h0,zk hi1],by omega,?_,hd.tz _ (jr hi1)⟩
    rw [show ((i:Nat):Int) - 1=((i - 1:Nat):Int) by omega];exact jb hi1
  generalize d[i]=l at x1 hb hz ih ⊢;have y3:ke 3 (.elt (jL l) 0)=some (ltm l):=rfl;have ie:=yX l.2;have ie:G 76 [.agg [sv l.2.name,.sl 2 (l.2.args.map jm)]]=some (vb (decide (l.2.name = [61])),[]):=ie;have second:∀(sel:Bool),sel=qT l->((pG (vb sel) false (some (vi (i:Nat)))).bind λt23=>(pG (vb sel) false (jz .gtr false t23 (vi 0))).bind λt24=>(pG (vb sel) false (some t24)).bind λt25=>(Kg t25 true).bind λ_=>(pG t25 true (some (.sl 3 (d.map jL)))).bind λt27=>(pG t25 true (some (vi (i:Nat)))).bind λt28=>(pG t25 true (jz .sub false t28 (vi 1))).bind λt29=>(pG t25 true (jh 3 t27 t29)).bind λt30=>(pG t25 true (ye t30 1)).bind λt31=>(pG t25 true (ke 2 t31)).bind λt32=>(Kg t25 true).bind λ_=>(Kg t25 true).bind λ_=>(pG t25 true ((G 77 [t32,A.agg [sv l.2.name,.sl 2 (l.2.args.map jm)]]).bind (fin false))).bind λt35=>(pG (vb sel) false (J0 t25 t35 (vb false))).bind λt36=>(J0 (vb sel) (vb true) t36).bind λt37=>(JB t37).bind λt38=>brn t38 (some ((vb true,[]))) ((jz .add false (vi (i:Nat)) (vi 1)).bind λt39=>joM (.sl 3 (d.map jL)) (vi (d.length:Nat)) t39 (.sl 3 (d.map jL))))=some (vb (qT l || (jbk (J1 d i) l || KL (some l) (d.drop (i+1)))),[]):=by
   intro sel hsel;rw [<-hsel];cases sel with
   | true=>simp only [je,yz]
   | false=>
    rw [kN];rcases hprev with ⟨h0,hp⟩|⟨q,hp,hpos,hix,hzq⟩
    .rw [hp,show jbk none l=false from rfl,kN];subst h0;have n0:¬(0:Int) < ((0:Nat):Int):=by decide
     simp only [je,n0,h5,ih]
    .rw [hp];have p0:(0:Int) < ((i:Nat):Int):=by omega
     have c2:ck ((i:Int) - 1)=some (vi ((i:Nat) - 1:Int)):=by have:=hd.1;exact j8 (by omega) (by omega)
     have w2:ye (.elt (jL q) 0) 1=some (.elt (jL q) 1):=rfl;have w3:ke 2 (.elt (jL q) 1)=some (tm q.2):=rfl;have eq2:=zw q.2 hzq.wf l.2 hz.wf;have eq2:G 77 [tm q.2,.agg [sv l.2.name,.sl 2 (l.2.args.map jm)]]=some (vb (dq q.2 l.2),[]):=eq2;show _=some (vb (dq q.2 l.2 || KL (some l) (d.drop (i+1))),[]);cases hdq:dq q.2 l.2<;>rw [hdq] at eq2
     .rw [kN];simp only [je,p0,c2,hix,w2,w3,eq2,h5,ih]
     .rw [yz];simp only [je,p0,c2,hix,w2,w3,eq2]
  rw [jDJ];cases h1:l.1 with
  | false=>
   have hs:qT l=false:=by unfold qT;rw [h1];rfl
   have:=second false hs.symm;have y3:ke 3 (.elt (jL l) 0)=some (.agg [vb false,sv l.2.name,.sl 2 (l.2.args.map jm)]):=by rw [<-h1];exact y3
   generalize hX:(some (vb (qT l || (jbk (J1 d i) l || KL (some l) (d.drop (i+1)))),[]):Option Out)=X at this ⊢;simp only [je,hlt,x1,y3];simp only [je] at this;exact this
  | true=>
   have y3:ke 3 (.elt (jL l) 0)=some (.agg [vb true,sv l.2.name,.sl 2 (l.2.args.map jm)]):=by rw [<-h1];exact y3
   by_cases hn:l.2.name = [61]
   .rw [jR hn] at ie;have h2:l.2.args.length=2:=by
     rcases hb with h|h
     .exact h.2.1
     .rw [hn] at h;exact absurd h.1 (by decide)
    have i0:jh 2 (.sl 2 (l.2.args.map jm)) (vi 0)=some (.elt (jm (Jx l.2)) 0):=by
     have:=jb (f:=jm) (xs:=l.2.args) (i:=0) (k:=2) (by omega);rw [show l.2.args[0]=Jx l.2 by unfold Jx;rw [qE,zk (by omega)];rfl] at this;exact this
    have i1:jh 2 (.sl 2 (l.2.args.map jm)) (vi 1)=some (.elt (jm (Za l.2)) 0):=by
     have:=jb (f:=jm) (xs:=l.2.args) (i:=1) (k:=2) (by omega);rw [show l.2.args[1]=Za l.2 by unfold Za;rw [qE,zk (by omega)];rfl] at this;exact this
    have hm:=jzC h2;have eq1:=zw (Jx l.2) (hz.args _ hm.1).wf (Za l.2) (hz.args _ hm.2).wf;have hs:qT l=dq (Jx l.2) (Za l.2):=by unfold qT;rw [h1,jR hn,jI,jI]
    have:=second (dq (Jx l.2) (Za l.2)) hs.symm;generalize hX:(some (vb (qT l || (jbk (J1 d i) l || KL (some l) (d.drop (i+1)))),[]):Option Out)=X at this ⊢;simp only [je,hlt,x1,y3,ie,i0,i1,jf,eq1];simp only [je] at this;exact this
   .rw [kx hn] at ie;have hs:qT l=false:=by unfold qT;rw [h1,kx hn];rfl
    have:=second false hs.symm;generalize hX:(some (vb (qT l || (jbk (J1 d i) l || KL (some l) (d.drop (i+1)))),[]):Option Out)=X at this ⊢;simp only [je,hlt,x1,y3,ie];simp only [je] at this;exact this
noncomputable def jdu (e d:kR):Bool:=(jjT d e []).isSome
theorem jgJ {e d:kR} (he:yO e=true) (hd:yO d=true):G 48 [cm e,cm d]=some (vb (jdu e d),[])/\ ∃m,G 64 [cm e,cm d]=some (.tup [.sl 3 m,vb (jdu e d)],[]):=by
 obtain ⟨en,_,_⟩:=qy he;obtain ⟨dn,_,_⟩:=qy hd;have e1:=jjW d dn.1 (jcV hd) e en.1 (jcV he) [] (MOk.nil _);have f1:=jsO e d en.1 (jcV he) dn.1 (jcV hd) 0 (jE _) [] (λq h=>by cases h) (by simp);have hop:=jrr d e (m:=[]) (m':=[]) (List.Perm.refl _) (by simp);rw [kj] at f1;unfold jdu;cases hM:jjT d e [] with
 | none=>
  cases hN:jkK d e [] with
  | some m=>rw [hM,hN] at hop;exact hop.elim
  | none=>
   rw [hN] at e1;rw [hM] at f1;have e1:G 75 [.mp [],.sl 3 (e.map jL),.agg [.sl 3 (d.map jL)]]=some (.tup [.val (.map none),vb false],[]):=e1;have f1:G 89 [.agg [.sl 3 (e.map jL)],vi 0,.agg [.sl 3 (d.map jL)],.sl 3 []]=some (.tup [.sl 3 [],vb false],[]):=f1;refine ⟨?_,[],?_⟩
   .rw [g48];simp only [je,e1,jor]
   .rw [g64];simp only [je,f1,jor]
 | some mr=>
  cases hN:jkK d e [] with
  | none=>rw [hM,hN] at hop;exact hop.elim
  | some m=>
   rw [hN] at e1;rw [hM] at f1;have e1:G 75 [.mp [],.sl 3 (e.map jL),.agg [.sl 3 (d.map jL)]]=some (.tup [.mp (m.map kv),vb true],[]):=e1;have f1:G 89 [.agg [.sl 3 (e.map jL)],vi 0,.agg [.sl 3 (d.map jL)],.sl 3 []]=some (.tup [.sl 3 (mr.map bc),vb true],[]):=f1;refine ⟨?_,mr.map bc,?_⟩
   .rw [g48];simp only [je,e1,Option.isSome_some]
   .rw [g64];simp only [je,f1,Option.isSome_some]
theorem jvH (d:kR) (hd:CN d):G 36 [cm d]=some (vb (KL none d),[]):=by
 have key:=upto (n:=d.length) (P:=λi=>joL (vi (i:Nat)) (.sl 3 (d.map jL))=some (vb (KL (J1 d i) (d.drop i)),[])) ?_ ?_ 0 (jE _)
 .simp only [jP,kj] at key;rw [g36];simp only [je,key];rfl
 .have nlt:¬((d.length:Nat):Int) < ((d.length:Nat):Int):=by omega
  rw [jDD,j4];rw [jlW];simp only [je,nlt]
 .intro i hi ih;have hlt:(i:Int) < ((d.length:Nat):Int):=by omega
  have h5:=jq hi (by have:=hd.1;show d.length<=9223372036854775807;omega)
  have x1:jh 3 (.sl 3 (d.map jL)) (vi (i:Nat))=some (.elt (jL d[i]) 0):=jb hi;have hb:=(hd.2 _ (jr hi)).1;have hz:=(hd.tz _ (jr hi));have hp1:J1 d (i+1)=some d[i]:=by
   unfold J1;rw [jo (by omega),Nat.add_sub_cancel,zk hi]
  rw [hp1] at ih;rw [ji hi,jj0];have hprev:(i=0/\J1 d i=none)\/ ∃q,J1 d i=some q/\0 < i/\jh 3 (.sl 3 (d.map jL)) (vi ((i:Nat) - 1:Int))=some (.elt (jL q) 0)/\Tz q.2:=by
   by_cases h0:i=0
   .exact Or.inl ⟨h0,by unfold J1;rw [jl h0]⟩
   .have hi1:i - 1 < d.length:=by omega
    refine Or.inr ⟨d[i - 1],by unfold J1;rw [jo h0,zk hi1],by omega,?_,hd.tz _ (jr hi1)⟩
    rw [show ((i:Nat):Int) - 1=((i - 1:Nat):Int) by omega];exact jb hi1
  generalize d[i]=l at x1 hb hz ih ⊢;have y1:ke 2 (.elt (jL l) 1)=some (tm l.2):=rfl;have y2:ye (.elt (jL l) 0) 1=some (.elt (jL l) 1):=rfl;have y3:ku (.elt (jL l) 0)=some (vb l.1):=rfl;have y4:ye (.elt (jL l) 0) 0=some (.elt (jL l) 0):=rfl;have second:((jz .gtr false (vi (i:Nat)) (vi 0)).bind λt26=>(Kg t26 true).bind λ_=>(pG t26 true (some (.sl 3 (d.map jL)))).bind λt28=>(pG t26 true (some (vi (i:Nat)))).bind λt29=>(pG t26 true (jz .sub false t29 (vi 1))).bind λt30=>(pG t26 true (jh 3 t28 t30)).bind λt31=>(pG t26 true (ye t31 1)).bind λt32=>(pG t26 true (ke 2 t32)).bind λt33=>(Kg t26 true).bind λ_=>(pG t26 true ((G 63 [t33,A.agg [sv l.2.name,.sl 2 (l.2.args.map jm)]]).bind (fin false))).bind λt35=>(J0 t26 t35 (vb false)).bind λt36=>(JB t36).bind λt37=>brn t37 (some ((vb true,[]))) ((jz .add false (vi (i:Nat)) (vi 1)).bind λt38=>joL t38 (.sl 3 (d.map jL))))=some (vb (jbk (J1 d i) l || KL (some l) (d.drop (i+1))),[]):=by
   rcases hprev with ⟨h0,hp⟩|⟨q,hp,hpos,hix,hzq⟩
   .rw [hp,show jbk none l=false from rfl,kN];subst h0;have n0:¬(0:Int) < ((0:Nat):Int):=by decide
    simp only [je,n0,h5,ih]
   .rw [hp];have p0:(0:Int) < ((i:Nat):Int):=by omega
    have c2:ck ((i:Int) - 1)=some (vi ((i:Nat) - 1:Int)):=by have:=hd.1;exact j8 (by omega) (by omega)
    have w2:ye (.elt (jL q) 0) 1=some (.elt (jL q) 1):=rfl;have w3:ke 2 (.elt (jL q) 1)=some (tm q.2):=rfl;have eq2:=qo q.2 hzq.wf l.2 hz.wf;have eq2:G 63 [tm q.2,.agg [sv l.2.name,.sl 2 (l.2.args.map jm)]]=some (vb (dq q.2 l.2),[]):=eq2;show _=some (vb (dq q.2 l.2 || KL (some l) (d.drop (i+1))),[]);cases hdq:dq q.2 l.2<;>rw [hdq] at eq2
    .rw [kN];simp only [je,p0,c2,hix,w2,w3,eq2,h5,ih]
    .rw [yz];simp only [je,p0,c2,hix,w2,w3,eq2]
  rw [jDD];cases h1:l.1 with
  | false=>
   have hs:qT l=false:=by unfold qT;rw [h1];rfl
   rw [hs,kN];rw [h1] at y3;generalize hX:(some (vb (jbk (J1 d i) l || KL (some l) (d.drop (i+1))),[]):Option Out)=X at second ⊢;simp only [je,hlt,x1,y1,y2,y3,y4];simp only [je] at second;exact second
  | true=>
   rw [h1] at y3;by_cases hn:l.2.name = [61]
   .have h2:l.2.args.length=2:=by
     rcases hb with h|h
     .exact h.2.1
     .rw [hn] at h;exact absurd h.1 (by decide)
    have i0:jh 2 (.sl 2 (l.2.args.map jm)) (vi 0)=some (.elt (jm (Jx l.2)) 0):=by
     have:=jb (f:=jm) (xs:=l.2.args) (i:=0) (k:=2) (by omega);rw [show l.2.args[0]=Jx l.2 by unfold Jx;rw [qE,zk (by omega)];rfl] at this;exact this
    have i1:jh 2 (.sl 2 (l.2.args.map jm)) (vi 1)=some (.elt (jm (Za l.2)) 0):=by
     have:=jb (f:=jm) (xs:=l.2.args) (i:=1) (k:=2) (by omega);rw [show l.2.args[1]=Za l.2 by unfold Za;rw [qE,zk (by omega)];rfl] at this;exact this
    have hm:=jzC h2;have eq1:=qo (Jx l.2) (hz.args _ hm.1).wf (Za l.2) (hz.args _ hm.2).wf;have hs:qT l=dq (Jx l.2) (Za l.2):=by unfold qT;rw [h1,jR hn,jI,jI]
    rw [hs];cases hdq:dq (Jx l.2) (Za l.2)<;>rw [hdq] at eq1
    .rw [kN];generalize hX:(some (vb (jbk (J1 d i) l || KL (some l) (d.drop (i+1))),[]):Option Out)=X at second ⊢;simp only [je,hlt,x1,y1,y2,y3,y4,hn,i0,i1,jf,eq1];rw [hn] at second;simp only [je] at second;exact second
    .rw [yz];simp only [je,hlt,x1,y1,y2,y3,y4,hn,i0,i1,jf,eq1]
   .have hs:qT l=false:=by unfold qT;rw [h1,kx hn];rfl
    rw [hs,kN];generalize hX:(some (vb (jbk (J1 d i) l || KL (some l) (d.drop (i+1))),[]):Option Out)=X at second ⊢;simp only [je,hlt,x1,y1,y2,y3,y4,hn];simp only [je] at second;exact second
def YO (p:Prf) (x:Int):kR:=((p.st[x.toNat]?).map Stp.cls).getD []
noncomputable def jlA (s:Sch) (c:kR):Bool:=(KL none c || s.act.any λx=>jdu (YO s.prf x) c) || s.pas.any λx=>jdu (YO s.prf x) c
section
variable {s:Sch} (hp:Pz s.prf) (hv:Q1 s.prf=true) {c:kR} (hc:jV c=true)
include hp hv
theorem juV {x:Int} (hx:0<=x/\x < ((s.prf.st.length:Nat):Int)):∃q:Stp,jh 4 (Jd s.prf.st) (vi x)=some (.elt (stc q) 0)/\q.cls=YO s.prf x/\yO (YO s.prf x)=true:=by
 obtain ⟨n,rfl⟩:=jcB hx.1;have hn:n < s.prf.st.length:=by omega
 have h1:=(ky (jtz hp hv n hn)).2.2.1;have e:YO s.prf (n:Int)=s.prf.st[n].cls:=by
  unfold YO;rw [jkn,zk hn];rfl
 rw [e];exact ⟨s.prf.st[n],jb hn,rfl,h1⟩
include hc
theorem jGB {x:Int} (hx:0<=x/\x < ((s.prf.st.length:Nat):Int)):G 47 [vi x,.elt [.elt (scc s) 0] 0,.elt (clc c) 0]=some (vb (jdu (YO s.prf x) c),[]):=by
 obtain ⟨q,q1,q2,q3⟩:=juV hp hv hx;have ck0:jsY (.elt (scc s) 0)=some (.elt (scc s) 0):=rfl;have ad0:ye (.elt (scc s) 0) 0=some (.elt (scc s) 0):=by rw [qI]
 have ad1:ye (.elt (scc s) 0) 1=some (.elt (scc s) 1):=by rw [qI,Jg]
 have ld1:ku (.elt (scc s) 1)=some (Jd s.prf.st):=rfl;have cl:G 49 [.elt (scc s) 0,vi x]=some (cm q.cls,[]):=by
  rw [g49];simp only [je,ck0,ad0,ad1,ld1,q1,adS,ldC]
 have l0:ku (.elt [.elt (scc s) 0] 0)=some (.elt (scc s) 0):=rfl;have l1:ke 1 (.elt (clc c) 0)=some (cm c):=rfl;have fc:fin false (cm q.cls,[])=some (cm q.cls):=rfl;have e:=(jgJ q3 (ky hc).2.2.1).1;rw [q2] at cl fc;rw [g47];simp only [je,l0,l1,cl,fc,e]
theorem jc5 (l:List Int) (hl:l.length<=1048576) (hr:∀x∈l,0<=x/\x < ((s.prf.st.length:Nat):Int)):G 51 [ints l,.fn 47 [.elt [.elt (scc s) 0] 0,.elt (clc c) 0]]=some (vb (l.any λx=>jdu (YO s.prf x) c),[]):=by
 have key:=upto (P:=λj=>∃k:Int,joQ (ints l) (.fn 47 [.elt [.elt (scc s) 0] 0,.elt (clc c) 0]) (vi (l.length:Nat)) (vi (j:Nat))=some (vi k,[])/\decide (k>=0)=(l.drop j).any λx=>jdu (YO s.prf x) c) (n:=l.length) ?_ ?_ 0 (jE _)
 .obtain ⟨k,h1,h2⟩:=key;simp only [jP,kj] at h1 h2;have e2:G 78 [ints l,.fn 47 [.elt [.elt (scc s) 0] 0,.elt (clc c) 0]]=some (vi k,[]):=by
   rw [g78];simp only [je,h1]
  rw [g51,<-h2];simp only [je,e2]
 .refine ⟨-1,?_,?_⟩
  .rw [juu];simp only [je]
  .rw [j4];rfl
 .intro j hj ⟨k,ih1,ih2⟩;have hlt:(j:Int) < ((l.length:Nat):Int):=by omega
  have h5:=jq hj (by show l.length<=9223372036854775807;omega)
  have e1:=jGB hp hv hc (hr _ (jr hj));have x1:jh 1 (ints l) (vi (j:Nat))=some (.elt (ci l[j]) 0):=jb hj;rw [juu,ji hj,List.any_cons];generalize l[j]=x at e1 x1 ⊢;have hpu:K.pureF 47=true:=rfl;have cc:DX.run K (MM K) (.callc (.fn 47 [.elt [.elt (scc s) 0] 0,.elt (clc c) 0]) [vi x] false)=some (vb (jdu (YO s.prf x) c)):=by
   rw [qt hpu];show (G 47 [vi x,.elt [.elt (scc s) 0] 0,.elt (clc c) 0]).bind _=_;rw [e1];rfl
  cases hn:jdu (YO s.prf x) c<;>rw [hn] at cc
  .refine ⟨k,?_,?_⟩
   .simp only [je,hlt,x1,qb,cc,h5,ih1]
   .rw [ih2,kN]
  .refine ⟨j,?_,?_⟩
   .simp only [je,hlt,x1,qb,cc]
   .rw [jR (by omega)];rfl
theorem jis (l:List Int) (hl:l.length<=1048576) (hr:∀x∈l,0<=x/\x < ((s.prf.st.length:Nat):Int)):G 37 [prm s.prf,ints l,cm c]=some (vb (l.any λx=>jdu (YO s.prf x) c),[]):=by
 have key:=upto (P:=λj=>jtL (ints l) (vi (j:Nat)) (cls s.prf.ax) (Jd s.prf.st) (.sl 3 (c.map jL))=some (vb ((l.drop j).any λx=>jdu (YO s.prf x) c),[])) (n:=l.length) ?_ ?_ 0 (jE _)
 .simp only [jP,kj] at key;rw [g37];simp only [je,key]
 .rw [jDE,j4];simp only [je];rfl
 .intro j hj ih;have hlt:(j:Int) < ((l.length:Nat):Int):=by omega
  have h5:=jq hj (by show l.length<=9223372036854775807;omega)
  have x1:jh 1 (ints l) (vi (j:Nat))=some (.elt (ci l[j]) 0):=jb hj;have hx:=hr _ (jr hj);rw [jDE,ji hj,List.any_cons];generalize l[j]=x at hx x1 ⊢;obtain ⟨q,q1,q2,q3⟩:=juV hp hv hx;obtain ⟨m,e⟩:=(jgJ q3 (ky hc).2.2.1).2;rw [<-q2] at e ⊢;cases hn:jdu q.cls c<;>rw [hn] at e
  .rw [kN];simp only [je,hlt,x1,qb,q1,adS,ldC,e,h5,ih]
  .rw [yz];simp only [je,hlt,x1,qb,q1,adS,ldC,e]
theorem jAg (hl:s.act.length+s.pas.length<=1048576) (hr:∀x∈s.act++s.pas,0<=x/\x < ((s.prf.st.length:Nat):Int)) :
  G 23 [.elt (scc s) 0,cm c]=some (vb (jlA s c),[])/\G 17 [scm s,cm c]=some (vb (jlA s c),[]):=by
 have cn:=(ky hc).1;have t1:=jvx c cn;have t2:=jvH c cn;have a1:=jc5 hp hv hc s.act (by omega) λx hx=>hr x (Yd _ hx);have a2:=jc5 hp hv hc s.pas (by omega) λx hx=>hr x (Qg _ hx);have b1:=jis hp hv hc s.act (by omega) λx hx=>hr x (Yd _ hx);have b2:=jis hp hv hc s.pas (by omega) λx hx=>hr x (Qg _ hx);have ok0:j9 (.elt (scc s) 0)=true:=rfl;have ck0:jsY (.elt (scc s) 0)=some (.elt (scc s) 0):=rfl;have ad2:ye (.elt (scc s) 0) 2=some (.elt (scc s) 2):=by rw [qI,Jg]
 have ad3:ye (.elt (scc s) 0) 3=some (.elt (scc s) 3):=by rw [qI,Jg]
 have ld2:ku (.elt (scc s) 2)=some (ints s.act):=rfl;have ld3:ku (.elt (scc s) 3)=some (ints s.pas):=rfl;have fb:∀b:Bool,fin true (vb b,[])=some (vb b):=λb=>rfl;unfold jlA;constructor
 .rw [g23];cases h1:KL none c<;>rw [h1] at t1
  .cases h2:(s.act.any λx=>jdu (YO s.prf x) c)<;>rw [h2] at a1
   .simp only [je,ok0,t1,ck0,ad2,ad3,ld2,ld3,a1,a2,fb,kN]
   .simp only [je,ok0,t1,ck0,ad2,ld2,a1,fb,kN,yz]
  .simp only [je,ok0,t1,yz]
 .rw [g17];cases h1:KL none c<;>rw [h1] at t2
  .cases h2:(s.act.any λx=>jdu (YO s.prf x) c)<;>rw [h2] at b1
   .simp only [je,t2,b1,b2,Ky,kN]
   .simp only [je,t2,b1,Ky,kN,yz]
  .simp only [je,t2,yz]
end
theorem jn0 {s:Sch} (hs:Zs s) (c:kR) (hc:Cz c):∃(d b:Bool),G 9 [scm s,cm c]=some (.tup [vb d,vb b],[])/\G 6 [scm s,cm c]=some (.tup [vb d,vb b],[]):=by
 have hl:=hs.len;have v1:=jtx hs;have v2:=jty hs;have n1:=yr c hc.1 hc.2;have n2:=yY c hc.1 hc.2;cases hv:jcX s<;>rw [hv] at v1 v2
 .refine ⟨false,false,?_,?_⟩
  .rw [g9];simp only [je,v1,Ky]
  .rw [g6];simp only [je,v2,Ky]
 cases hn:jV c<;>rw [hn] at n1 n2
 .refine ⟨false,false,?_,?_⟩
  .rw [g9];simp only [je,v1,n1,Ky]
  .rw [g6];simp only [je,v2,n2,Ky]
 unfold jcX at hv;rw [ju,ju,ju,jje] at hv;have hr:∀x∈s.act++s.pas,0<=x/\x < ((s.prf.st.length:Nat):Int):=λx hx=>by
  have:=(hv.2.2.1.1 x hx).1;unfold qg at this;rw [ju,kG,kG] at this;omega
 obtain ⟨g1,g2⟩:=jAg hs.prf hv.2.1 hn hl hr;have fb:fin true (vb (jlA s c),[])=some (vb (jlA s c)):=rfl;refine ⟨jlA s c,true,?_,?_⟩
 .rw [g9];simp only [je,v1,n1,g1,fb,Ky]
 .rw [g6];simp only [je,v2,n2,g2,Ky]
theorem jhl (s:Sch) (c:kR) (hw:jrc s) (hwc:cwf c):G 3 [scm s,cm c]=some (vb true,[]):=by
 have e1:=jwM s hw 1048576 (by decide) (by decide);rw [g3];by_cases h1:kA 1048576 ((jg6 s:Nat):Int) < 0
 .simp only [je,e1,h1,Ky]
 .obtain ⟨b1,b2,b3⟩:=jqb (by decide) (by decide) h1;have e2:=jtr c hwc _ b1 b2;by_cases h2:kA (kA 1048576 ((jg6 s:Nat):Int)) ((csz c:Nat):Int) < 0
  .simp only [je,e1,h1,e2,h2,Ky]
  .obtain ⟨d1,d2,d3⟩:=jqb b1 b2 h2;have a1:=jwQ s b3;have a2:=jvn s hw;have a3:=jts c d3;have a4:=jsr c hwc;have hz:Cz c:=Cz.of d3;obtain ⟨x,b,r1,r2⟩:=jn0 (Zs.of hw b3) c hz;simp only [je,e1,h1,e2,h2,a1,a2,a3,a4,r1,r2,Ky]
end Go.Proofs.YtbidbdhamhbebaaGreatDoor
