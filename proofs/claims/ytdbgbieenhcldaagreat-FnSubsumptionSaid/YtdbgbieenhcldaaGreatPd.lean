/- Pd -/
import Derived.Test.YtdbgbieenhcldaaGreatPb
import Derived.Test.YtdbgbieenhcldaaGreatPa
import Derived.Test.YtdbgbieenhcldaaGreatPq
import Derived.KernelRfl
namespace Go.Proofs.YtdbgbieenhcldaaGreat
open Go Go.RowKit Go.Proofs.YtdbgbieenhcldaaGreat.Abs
set_option linter.unusedSimpArgs false
set_option linter.unusedVariables false
set_option maxHeartbeats 1000000
noncomputable def KB (d:j7):List Lt->jk->Option jk
 | [],m=>some m
 | l::c,m=>d.findSome? λx=>if x.1=l.1 then (mt (z6 m) l.2 x.2).bind λm'=>KB d c m' else none
def MIn (S:List (List UInt8)) (m:jk):Prop:=∀q∈m,q.1∈S
theorem jnV {S:List (List UInt8)} :∀(a:T) {m m':jk} {t:T},(∀x∈yd a,x∈S)->MIn S m->mt m a t=some m'->MIn S m':=by
 refine T.ind (p:=λa=>∀ {m m':jk} {t:T},(∀x∈yd a,x∈S)->MIn S m->mt m a t=some m'->MIn S m') λa ih=> ?_;intro m m' t hs hm h;rw [Jj] at hs;cases hv:ju a.name with
 | true=>
  rw [hv,if_pos rfl] at hs;rw [Jb hv] at h;split at h
  ·split at h
   ·cases h;exact hm
   ·cases h
  ·cases h;intro q hq;rcases List.mem_append.1 hq with hq|hq
   ·exact hm q hq
   ·rw [List.mem_singleton.1 hq];exact hs _ (by simp)
 | false=>
  rw [hv,if_neg Bool.false_ne_true] at hs;rw [yP hv] at h;split at h
  ·have key:∀(us:List T) (ts:List T) {m m':jk},(∀u∈us,u∈a.args)->(∀x∈kO us,x∈S)->MIn S m->yw m us ts=some m'->MIn S m':=by
    intro us;induction us with
    | nil=>intro ts m m' _ _ hm h;simp only [yw,Option.some.injEq] at h;exact h ▸ hm
    | cons u us ih2=>
     intro ts m m' hu hx hm h;rw [kO] at hx;cases ts with
     | nil=>simp only [yw,Option.some.injEq] at h;exact h ▸ hm
     | cons s ts=>
      simp only [yw] at h;obtain ⟨m1,h1,h2⟩:=Option.bind_eq_some_iff.1 h;exact ih2 ts (λx hx=>hu x (by simp [hx])) (λx h=>hx x (List.mem_append_right _ h)) (ih u (hu u (by simp)) (λx h=>hx x (List.mem_append_left _ h)) hm h1) h2
   exact key a.args t.args (λ_ h=>h) hs hm h
  ·cases h
theorem Yd {p:T->Prop} (hp:∀t,p t-> ∀u∈t.args,p u):∀(us ts:List T) {m m':jk},(∀u∈ts,p u)->Z2 p m->yw m us ts=some m'->Z2 p m':=by
 intro us;induction us with
 | nil=>intro ts m m' _ hm h;simp only [yw,Option.some.injEq] at h;exact h ▸ hm
 | cons u us ih=>
  intro ts m m' hts hm h;cases ts with
  | nil=>simp only [yw,Option.some.injEq] at h;exact h ▸ hm
  | cons s ts=>
   simp only [yw] at h;obtain ⟨m1,h1,h2⟩:=Option.bind_eq_some_iff.1 h;exact ih ts (λx hx=>hts x (by simp [hx])) (jgL hp u hm (hts s (by simp)) h1) h2
theorem jjX {t u:T} (h:u∈t.args):qn u<=qn t:=by have h1:=jby t;have h2:=jnh h;omega
def Pt (t:T):Prop:=zt t=true/\nodes t<=30/\qn t<=8
theorem Pt.valid {t:T} (h:Pt t):kD t=true:=by
 unfold kD ko;rw [h.1,decide_eq_true h.2.1,decide_eq_true h.2.2];rfl
theorem Pt.args {t:T} (h:Pt t):∀u∈t.args,Pt u:=λu hu=>⟨zz h.1 u hu,by have:=QE hu;have:=h.2.1;omega,by have:=jjX hu;have:=h.2.2;omega⟩
theorem Pt.tz {t:T} (h:Pt t):Tz t:=by
 have h1:=Yg t h.1;have:=h.2.1;unfold Tz;omega
def Pa (t:T):Prop:=Bx t/\nodes t<=30/\qn t<=8
theorem Pa.args {t:T} (h:Pa t):∀u∈t.args,Pt u:=λu hu=>⟨h.1.args u hu,by have:=QE hu;have:=h.2.1;omega,by have:=jjX hu;have:=h.2.2;omega⟩
theorem Pa.nv {t:T} (h:Pa t):ju t.name=false:=by
 rcases h.1 with h|h
 ·rw [h.1];decide
 ·exact QU h.1
theorem Pa.tz {t:T} (h:Pa t):Tz t:=by
 have h1:=h.1.tsz;have:=h.2.1;unfold Tz;omega
theorem jeZ {a t:T} (ha:Pa a) (ht:Pa t) {m m':jk} (hm:Z2 Pt m) (h:mt m a t=some m'):Z2 Pt m':=by
 rw [yP ha.nv] at h;split at h
 ·exact Yd (λ_ h=>h.args) _ _ ht.args hm h
 ·cases h
theorem Z2.can {p:T->Prop} {m:jk} (h:Z2 p m):Z2 p (z6 m):=⟨jbt h.1,λq hq=>h.2 q (JU.1 hq)⟩
theorem MIn.can {S:List (List UInt8)} {m:jk} (h:MIn S m):MIn S (z6 m):=λq hq=>h q (JU.1 hq)
theorem jba {S:List (List UInt8)} {d:j7} (hd:∀x∈d,Pa x.2):∀(c:List Lt),(∀l∈c,Pa l.2/\ ∀x∈yd l.2,x∈S)-> ∀ {m m':jk},Z2 Pt m->MIn S m->KB d c m=some m'->Z2 Pt m'/\MIn S m'
 | [],_,m,m',hm,hs,h=>by rw [KB] at h;cases h;exact ⟨hm,hs⟩
 | l::c,hc,m,m',hm,hs,h=>by
  rw [KB] at h;obtain ⟨x,hx,h⟩:=List.exists_of_findSome?_eq_some h;split at h
  ·obtain ⟨m1,h1,h2⟩:=Option.bind_eq_some_iff.1 h;obtain ⟨k1,k2⟩:=hc l List.mem_cons_self;exact jba hd c (λy hy=>hc y (List.mem_cons_of_mem _ hy)) (jeZ k1 (hd x hx) hm.can h1) (jnV l.2 k2 hs.can h1) h2
  ·cases h
def AgM (f:List UInt8->List UInt8) (m:jk):Prop:=∀q∈m,q.2 = .mk (f q.1) []
theorem AgM.can {f:List UInt8->List UInt8} {m:jk} (h:AgM f m):AgM f (z6 m):=λq hq=>h q (JU.1 hq)
mutual
theorem jqb {f:List UInt8->List UInt8} :∀(a:T) {m:jk},AgM f m-> ∃m',mt m a (zX f a)=some m'/\AgM f m'
 | .mk n us,m,hm=>by
  rw [zX];cases hv:ju n with
  | true=>
   rw [if_pos rfl,Jb (p:= .mk n us) hv];show ∃m',(match look m n with|some r=>if dq r (.mk (f n) []) then some m else none|none=>some (m++[(n,.mk (f n) [])]))=some m'/\AgM f m';cases hl:look m n with
   | some r=>
    have e:r = .mk (f n) []:=hm (n,r) (ye hl);refine ⟨m,?_,hm⟩;show (if dq r (.mk (f n) [])=true then some m else none)=some m;rw [e,Kd,if_pos rfl]
   | none=>
    refine ⟨m++[(n,.mk (f n) [])],rfl,λq hq=> ?_⟩;rcases List.mem_append.1 hq with hq|hq
    ·exact hm q hq
    ·rw [List.mem_singleton.1 hq]
  | false=>
   have hl:us.length=(kX f us).length:=by rw [Zc,List.length_map]
   rw [if_neg Bool.false_ne_true,yP (p:= .mk n us) hv];show ∃m',(if n=n/\us.length=(kX f us).length then yw m us (kX f us) else none)=some m'/\AgM f m';rw [if_pos ⟨rfl,hl⟩];exact jgM us hm
theorem jgM {f:List UInt8->List UInt8} :∀(us:List T) {m:jk},AgM f m-> ∃m',yw m us (kX f us)=some m'/\AgM f m'
 | [],m,hm=>⟨m,by rw [yw],hm⟩
 | u::us,m,hm=>by
  obtain ⟨m1,e1,h1⟩:=jqb u hm;obtain ⟨m2,e2,h2⟩:=jgM us h1;refine ⟨m2,?_,h2⟩;rw [kX,yw];show (mt m u (zX f u)).bind _=_;rw [e1];exact e2
end
theorem jll (a:T) (h:Bx a):G 102 [.agg [sv a.name,j6 a.args]]=some (vb (ju a.name),[]):=by
 rcases h.ax with h|h
 ·exact jbS a h
 ·have e1:=Kg 61;have hx:j8 (sv a.name) (vi 0)=some (vy 61):=by rw [h.1];exact kR
  have hv:ju a.name=false:=by rw [h.1];decide
  have e1:G 85 [vy 61]=some (vb false,[]):=e1;rw [hv,jsx];simp only [jf,hx,e1]
theorem jlA (a:T) (ha:Pa a) (t:T) (m:jk) (ht:Tz t) (hm:∀q∈m,Tz q.2):MI (jfC (tm a) (sv t.name) (j6 t.args) (m.map kv)) (mt m a t):=
 jlh a ha.tz (jll a ha.1) (λhv=>by rw [ha.nv] at hv;cases hv) t m ht hm λu hu s m hs hm=>jnT u (ha.args u hu).tz (ha.args u hu).1 s m hs hm
def juS (r:Option jk):Option Out:=match r with
 | some m=>some (.tup [.mp (m.map kv),vb true],[])
 | none=>some (.tup [.val (.map none),vb false],[])
theorem jcM (d:j7) (hl:d.length<=8) (hd:∀x∈d,Pa x.2):∀(c:List Lt),c.length<=8->(∀l∈c,Pa l.2)-> ∀(m:jk),Z2 Pt m->G 44 [.mp (m.map kv),.sl 3 (c.map jy),cm d]=juS (KB d c m)
 | [],_,_,m,hm=>by
  rw [g44,KB];simp only [jf];rfl
 | l::c,hc,hcl,m,hm=>by
  have ih:=jcM d hl hd c (by rw [List.length_cons] at hc;omega) (λy hy=>hcl y (List.mem_cons_of_mem _ hy))
  have hPl:=hcl l List.mem_cons_self;have key:=upto (n:=d.length) (P:=λi=>jfG (.mp (m.map kv)) (.sl 3 ((l::c).map jy)) (.sl 3 (d.map jy)) (vi (d.length:Nat)) (vi (i:Nat)) (.sl 3 (d.map jy))=juS ((d.drop i).findSome? λx=>if x.1=l.1 then (mt (z6 m) l.2 x.2).bind λm'=>KB d c m' else none)) ?_ ?_ 0 (Nat.zero_le _)
  ·rw [g44,KB];have nz:¬((((l::c).length:Nat):Int)=0):=by rw [List.length_cons];omega
   simp only [Int.natCast_zero,List.drop_zero] at key;generalize hX:(l::c).map jy=X at key ⊢;have hXl:X.length=(l::c).length:=by rw [<-hX,List.length_map]
   rw [<-hXl] at nz;simp only [jf,nz,key]
  ·have nlt:¬((d.length:Nat):Int) < ((d.length:Nat):Int):=by omega
   rw [jrv,List.drop_length];simp only [jf,nlt];rfl
  ·intro i hi ih2;have hlt:(i:Int) < ((d.length:Nat):Int):=by omega
   have h5:=jz hi (by show d.length<=9223372036854775807;omega)
   have x1:jh 3 (.sl 3 (d.map jy)) (vi (i:Nat))=some (.elt (jy d[i]) 0):=jb hi;have hPx:=hd _ (List.getElem_mem hi);rw [jl hi,List.findSome?_cons];generalize d[i]=x at x1 hPx ⊢;have x2:jF 3 (.elt (jy x) 0)=some (.agg (jy x)):=rfl;have x3:jh 3 (.sl 3 ((l::c).map jy)) (vi 0)=some (.elt (jy l) 0):=by
    have:=jb (f:=jy) (xs:=l::c) (i:=0) (k:=3) (by rw [List.length_cons];omega)
    exact this
   have x4:JH 3 (.sl 3 ((l::c).map jy)) (some (vi 1)) none=some (.sl 3 (c.map jy)):=by
    have:=jg1 (k:=3) (xs:=(l::c).map jy) (i:=1) (by simp);exact this
   have y1:kZ (.elt (jy l) 0)=some (vb l.1):=rfl;have y2:zU (.elt (jy l) 0) 1=some (.elt (jy l) 1):=rfl;have y3:jF 2 (.elt (jy l) 1)=some (tm l.2):=rfl;have y0:zU (.elt (jy l) 0) 0=some (.elt (jy l) 0):=rfl;have cp:=jnf m hm.1;have hR0:hR 128 (A.top,[.sl 128 ((z6 m).map kv)]) 0=some ((z6 m).map kv):=rfl;have hm2:=hm.can;have mq:=jlA l.2 hPl x.2 (z6 m) hPx.tz λq hq=>(hm2.2 q hq).2.tz;rw [jrv];generalize (l::c).map jy=X at *;by_cases hb:x.1=l.1
   ·rw [if_pos hb];cases hq:mt (z6 m) l.2 x.2 with
    | none=>
     rw [hq] at mq;obtain ⟨R,mq⟩:=mq;have hR1:hR 128 (A.top,[vb false,.sl 128 R]) 1=some R:=rfl;rw [Option.bind_none];simp only [jf,hlt,x1,x2,x3,x4,y0,y1,y2,y3,cp,hR0,hb,mq,hR1,h5,List.getElem?_cons_zero];exact ih2
    | some m1=>
     rw [hq] at mq;have mq:jfC (tm l.2) (sv x.2.name) (j6 x.2.args) ((z6 m).map kv)=some (.top,[vb true,.sl 128 (m1.map kv)]):=mq;have hR1:hR 128 (A.top,[vb true,.sl 128 (m1.map kv)]) 1=some (m1.map kv):=rfl;have e2:=ih m1 (jeZ hPl hPx hm2 hq);rw [Option.bind_some];cases hs:KB d c m1 with
     | none=>
      rw [hs] at e2;have e2:G 44 [.mp (m1.map kv),.sl 3 (c.map jy),.agg [.sl 3 (d.map jy)]]=some (.tup [.val (.map none),vb false],[]):=e2;simp only [jf,hlt,x1,x2,x3,x4,y0,y1,y2,y3,cp,hR0,hb,mq,hR1,h5,e2,List.getElem?_cons_zero];exact ih2
     | some m2=>
      rw [hs] at e2;have e2:G 44 [.mp (m1.map kv),.sl 3 (c.map jy),.agg [.sl 3 (d.map jy)]]=some (.tup [.mp (m2.map kv),vb true],[]):=e2;simp only [jf,hlt,x1,x2,x3,x4,y0,y1,y2,y3,cp,hR0,hb,mq,hR1,h5,e2,List.getElem?_cons_zero];rfl
   ·rw [if_neg hb];simp only [jf,hlt,x1,x2,x3,x4,y0,y1,y2,y3,cp,hR0,hb,h5,List.getElem?_cons_zero];exact ih2
theorem jgE:∀ {m:jk} {n:List UInt8} {r:T},(m.map Prod.fst).Nodup->(n,r)∈m->look m n=some r
 | p::m,n,r,hn,h=>by
  rw [List.map_cons,List.nodup_cons] at hn;rw [look];rcases List.mem_cons.1 h with e|h
  ·rw [<-e,if_pos rfl]
  ·rw [if_neg λe=>hn.1 (List.mem_map.2 ⟨(n,r),h,e.symm⟩)];exact jgE hn.2 h
theorem jdA {m m':jk} (h:m.Perm m') (hn:(m.map Prod.fst).Nodup) (n:List UInt8):look m n=look m' n:=by
 cases hl:look m n with
 | some r=>exact (jgE ((h.map Prod.fst).nodup_iff.1 hn) (h.mem_iff.1 (ye hl))).symm
 | none=>exact (zL.2 λp hp=>zL.1 hl p (h.mem_iff.2 hp)).symm
def OP (o o':Option jk):Prop:=match o,o' with
 | some r,some r'=>r.Perm r'/\(r.map Prod.fst).Nodup
 | none,none=>True
 | _,_=>False
theorem jqa:∀(a:T) {m m':jk} {t:T},m.Perm m'->(m.map Prod.fst).Nodup->OP (mt m a t) (mt m' a t):=by
 refine T.ind (p:=λa=>∀ {m m':jk} {t:T},m.Perm m'->(m.map Prod.fst).Nodup->OP (mt m a t) (mt m' a t)) λa ih=> ?_;intro m m' t hp hn;cases hv:ju a.name with
 | true=>
  rw [Jb hv,Jb hv,<-jdA hp hn];cases hl:look m a.name with
  | some r=>
   show OP (if dq r t then some m else none) (if dq r t then some m' else none);split
   ·exact ⟨hp,hn⟩
   ·trivial
  | none=>
   show OP (some (m++[(a.name,t)])) (some (m'++[(a.name,t)]));refine ⟨hp.append_right _,?_⟩;rw [List.map_append,List.nodup_append];refine ⟨hn,by simp,λx hx y hy=> ?_⟩;obtain ⟨q,hq,rfl⟩:=List.mem_map.1 hx;have hy:y=a.name:=by simpa using hy
   rw [hy];exact zL.1 hl q hq
 | false=>
  rw [yP hv,yP hv];split
  ·have key:∀(us ts:List T) {m m':jk},(∀u∈us,u∈a.args)->m.Perm m'->(m.map Prod.fst).Nodup->OP (yw m us ts) (yw m' us ts):=by
    intro us;induction us with
    | nil=>intro ts m m' _ hp hn;simp only [yw];exact ⟨hp,hn⟩
    | cons u us ih2=>
     intro ts m m' hu hp hn;cases ts with
     | nil=>simp only [yw];exact ⟨hp,hn⟩
     | cons s ts=>
      simp only [yw];have h1:=ih u (hu u (by simp)) (t:=s) hp hn;cases e1:mt m u s with
      | none=>
       cases e2:mt m' u s with
       | none=>trivial
       | some r'=>rw [e1,e2] at h1;exact h1.elim
      | some r=>
       cases e2:mt m' u s with
       | none=>rw [e1,e2] at h1;exact h1.elim
       | some r'=>
        rw [e1,e2] at h1;exact ih2 ts (λx hx=>hu x (by simp [hx])) h1.1 h1.2
   exact key a.args t.args (λ_ h=>h) hp hn
  ·trivial
theorem jns {α:Type} {f g:α->Option jk} :∀(l:List α),(∀x∈l,OP (f x) (g x))->OP (l.findSome? f) (l.findSome? g)
 | [],_=>trivial
 | x::l,h=>by
  rw [List.findSome?_cons,List.findSome?_cons];have h1:=h x List.mem_cons_self;cases e1:f x with
  | none=>
   cases e2:g x with
   | none=>exact jns l λy hy=>h y (List.mem_cons_of_mem _ hy)
   | some r'=>rw [e1,e2] at h1;exact h1.elim
  | some r=>
   cases e2:g x with
   | none=>rw [e1,e2] at h1;exact h1.elim
   | some r'=>rw [e1,e2] at h1;exact h1
theorem jhC (d:j7):∀(c:List Lt) {m m':jk},m.Perm m'->(m.map Prod.fst).Nodup->OP (jda d c m) (KB d c m')
 | [],m,m',hp,hn=>⟨hp,hn⟩
 | l::c,m,m',hp,hn=>by
  rw [jda,KB];refine jns d λx _=> ?_;split
  ·have h1:=jqa l.2 (t:=x.2) (hp.trans (qM m').symm) hn;cases e1:mt m l.2 x.2 with
   | none=>
    cases e2:mt (z6 m') l.2 x.2 with
    | none=>trivial
    | some r'=>rw [e1,e2] at h1;exact h1.elim
   | some r=>
    cases e2:mt (z6 m') l.2 x.2 with
    | none=>rw [e1,e2] at h1;exact h1.elim
    | some r'=>rw [e1,e2] at h1;exact jhC d c h1.1 h1.2
  ·trivial
theorem jp9:∀(us ts:List T) {m m':jk},(∀u∈us,zt u=true)->us.length=ts.length->yw m us ts=some m'->Ext m m'/\ ∀m'',Ext m' m''->us.map (sub m'')=ts:=by
 intro us;induction us with
 | nil=>
  intro ts m m' _ hl h;simp only [yw,Option.some.injEq] at h;cases ts with
  | nil=>exact h ▸ ⟨Ext.refl _,λ_ _=>rfl⟩
  | cons=>cases hl
 | cons u us ih=>
  intro ts m m' hu hl h;cases ts with
  | nil=>cases hl
  | cons s ts=>
   simp only [yw] at h;obtain ⟨m1,h1,h2⟩:=Option.bind_eq_some_iff.1 h;obtain ⟨k1,k2⟩:=jsH u (hu u (by simp)) h1;obtain ⟨q1,q2⟩:=ih ts (λx hx=>hu x (by simp [hx])) (by simpa using hl) h2;exact ⟨k1.trans q1,λm'' h=>by rw [List.map_cons,k2 m'' (q1.trans h),q2 m'' h]⟩
theorem jqc {a t:T} (ha:Bx a) (hv:ju a.name=false) {m m':jk} (h:mt m a t=some m'):Ext m m'/\ ∀m'',Ext m' m''->sub m'' a=t:=by
 rw [yP hv] at h;split at h
 ·rename_i hn;obtain ⟨k1,k2⟩:=jp9 a.args t.args ha.args hn.2 h;refine ⟨k1,λm'' hm=> ?_⟩;rw [yh hv,k2 m'' hm,hn.1];cases t;rfl
 ·cases h
theorem jpS {m:jk} (hn:(m.map Prod.fst).Nodup):Ext m (z6 m):=λx r h=>by rw [<-jdA (qM m).symm hn];exact h
theorem jcL {d:j7} (hd:∀x∈d,Pa x.2):∀(c:List Lt),(∀l∈c,Pa l.2)-> ∀ {m m':jk},Z2 Pt m->KB d c m=some m'->Ext m m'/\ ∀l∈c,∃x∈d,x.1=l.1/\ ∀m'',Ext m' m''->sub m'' l.2=x.2
 | [],_,m,m',_,h=>by rw [KB] at h;cases h;exact ⟨Ext.refl _,λl h=>by cases h⟩
 | l::c,hc,m,m',hm,h=>by
  rw [KB] at h;obtain ⟨x,hx,h⟩:=List.exists_of_findSome?_eq_some h;split at h
  ·rename_i hb;obtain ⟨m1,h1,h2⟩:=Option.bind_eq_some_iff.1 h;have hl:=hc l List.mem_cons_self;obtain ⟨k1,k2⟩:=jqc hl.1 hl.nv h1;obtain ⟨q1,q2⟩:=jcL hd c (λy hy=>hc y (List.mem_cons_of_mem _ hy)) (jeZ hl (hd x hx) hm.can h1) h2;refine ⟨((jpS hm.1).trans k1).trans q1,λy hy=> ?_⟩;rcases List.mem_cons.1 hy with rfl|hy
   ·exact ⟨x,hx,hb,λm'' h=>k2 m'' (q1.trans h)⟩
   ·exact q2 y hy
  ·cases h
theorem jbW (m:jk):jR (jW m)=jR m:=(Yj m []).symm
def qZ (s:jk) (c:j7):j7:=c.map λl=>(l.1,sub s l.2)
theorem jpY {d c:j7} (hd:∀x∈d,Pa x.2) (hc:∀l∈c,Pa l.2) {m:jk} (h:KB d c []=some m):∀l∈qZ (jR (jW m)) c,l∈d:=by
 intro l hl;obtain ⟨l0,h0,rfl⟩:=List.mem_map.1 hl;obtain ⟨_,k2⟩:=jcL hd c hc (Z2.nil _) h;obtain ⟨k3,_⟩:=jba (S:=zj c) hd c (λl hl=>⟨hc l hl,λx hx=>Kj.2 ⟨l,hl,hx⟩⟩) (Z2.nil _) (λq h=>by cases h) h;obtain ⟨x,hx,e1,e2⟩:=k2 l0 h0;have hok:Z2 (λt=>zt t=true) m:=⟨k3.1,λq hq=>⟨(k3.2 q hq).1,(k3.2 q hq).2.1⟩⟩;show (l0.1,sub (jR (jW m)) l0.2)∈d;rw [jbW,jme hok,e2 m (Ext.refl _),<-e1];exact hx
theorem js0 {c d:j7} (hc:∀y∈c,Bx y.2) {s:jk} (h:∀l∈qZ s c,l∈d):Sd [c] d:=by
 intro m t e he;obtain ⟨x,hx,hh⟩:=jsk m hc (t c List.mem_cons_self _ (jnw m he s));exact ⟨x,h x hx,hh⟩
theorem jit {c d:j7} (hc:c.length<=8) (hd:jM d=true) {s:jk} (h:∀l∈qZ s c,l∈d):jM (kz cmpL (qZ s c))=true/\ ∀l∈kz cmpL (qZ s c),l∈d:=by
 have hm:∀l∈kz cmpL (qZ s c),l∈d:=λl hl=>h l (qP.1 hl);obtain ⟨_,_,hat⟩:=kr hd;have hlen:=J1 cmpL (qZ s c);have hil:(qZ s c).length=c.length:=List.length_map ..;refine ⟨?_,hm⟩;unfold jM;rw [Bool.and_eq_true,Bool.and_eq_true,List.all_eq_true,decide_eq_true_eq,jbq];exact ⟨λl hl=>hat l (hm l hl),(Zz z7 _).1,by omega⟩
noncomputable def yA (l:Lt):Bool:=l.1 && (decide (l.2.name = [61]) && dq (J0 l.2) (J5 l.2))
noncomputable def jcq (p:Option Lt) (l:Lt):Bool:=match p with|none=>false|some q=>dq q.2 l.2
noncomputable def jrX:List Lt->Option Lt->Bool
 | [],_=>false
 | l::c,p=>yA l || (jcq p l || jrX c (some l))
noncomputable def Ji (p:Option Lt) (c:List Lt):Bool:=jrX c p
theorem jd8 (p:Option Lt):Ji p []=false:=rfl
theorem jcO (p:Option Lt) (l:Lt) (c:List Lt):Ji p (l::c)=(yA l || (jcq p l || Ji (some l) c)):=rfl
theorem jd9 {m:Mdl} {e:List UInt8->Int} :∀(c:List Lt) (p:Option Lt),(∀l∈c,Bx l.2)->Asc cmpL (p.toList++c)->Ji p c=true->(∃l∈c,zn m e l.2=l.1)\/ ∃q,p=some q/\zn m e q.2=q.1
 | [],_,_,_,h=>by rw [jd8] at h;cases h
 | l::c,p,hb,ha,h=>by
  rw [jcO,Bool.or_eq_true,Bool.or_eq_true] at h;rcases h with h|h|h
  ·left;refine ⟨l,List.mem_cons_self,?_⟩;unfold yA at h;simp only [Bool.and_eq_true,decide_eq_true_eq] at h;obtain ⟨h1,h2,h3⟩:=h;have h4:l.2.args.length=2:=by
    rcases hb l List.mem_cons_self with hh|hh
    ·exact hh.2.1
    ·rw [h2] at hh;exact absurd hh.1 (by decide)
   unfold zn;rw [if_pos ⟨h2,h4⟩,zv.1 h3,h1];simp
  ·cases p with
   | none=>cases h
   | some q=>
    have he:q.2=l.2:=zv.1 h;have hlt:cmpL q l < 0:=(List.pairwise_cons.1 ha).1 l (by simp);have hne:q.1≠l.1:=λh1=>by
     have:cmpL q l=0:=(z7.zero q l).2 (Prod.ext h1 he);omega
    cases hh:decide (zn m e l.2=l.1) with
    | true=>exact Or.inl ⟨l,List.mem_cons_self,of_decide_eq_true hh⟩
    | false=>
     have hh:=of_decide_eq_false hh;refine Or.inr ⟨q,rfl,?_⟩;rw [he];cases h1:zn m e l.2<;>cases h2:l.1<;>cases h3:q.1<;>simp_all
  ·have ha':Asc cmpL ((some l).toList++c):=by
    cases p with
    | none=>exact ha
    | some q=>exact (List.pairwise_cons.1 ha).2
   rcases jd9 c (some l) (λy hy=>hb y (List.mem_cons_of_mem _ hy)) ha' h with ⟨y,hy,hh⟩|⟨q,hq,hh⟩
   ·exact Or.inl ⟨y,List.mem_cons_of_mem _ hy,hh⟩
   ·cases hq;exact Or.inl ⟨l,List.mem_cons_self,hh⟩
theorem jqF {d:j7} (hd:CN d) (ha:Asc cmpL d) (h:Ji none d=true):Sd [] d:=by
 intro m _ e _;rcases jd9 (m:=m) (e:=e) d none (λl hl=>(hd.2 l hl).1) ha h with h|⟨q,hq,_⟩
 ·exact h
 ·cases hq
abbrev cy (n:Int):List A:=[vy n]
abbrev jZ (l:List Int):A:= .sl 1 (l.map cy)
abbrev vu (n:Int):A:= .val (.int .u64 n)
def By (l:List Int):Prop:=(∀n∈l,0<=n/\n<=255)/\l.length<=65536
theorem zJ (a x0 x1 x2 x3:A) (us:List T) (l:List A):hR 2 (a,x0::x1::x2::x3::j6 us::l) 4=some (us.map jx):=by simp [hR,j6]
set_option maxRecDepth 100000 in
theorem jo1:∀n:Fin 256,IntKind.u64.wrap ((n.val:Nat):Int)=((n.val:Nat):Int):=by decide
theorem jor (x y:Int):js .mul false (vu x) (vu y)=some (vu (IntKind.u64.wrap (x * y))):=rfl
theorem joq (x y:Int):js .add false (vu x) (vu y)=some (vu (IntKind.u64.wrap (x+y))):=rfl
theorem jsW (x:Int):js .shr false (vu x) (vu 40)=some (vu (JR .shr .u64 x 40)):=by
 show (if (0:Int)<=40 then some (vu (JR .shr .u64 x 40)) else none)=_;rw [if_pos (by decide)]
theorem jsV (x:Int):js .and false (vu x) (vu 255)=some (vu (JR .and .u64 x 255)):=rfl
theorem jk0 (x:Int):0<=JR .and .u64 x 255/\JR .and .u64 x 255<=255:=by
 have h:(BitVec.ofInt 64 x &&& BitVec.ofInt 64 255).toNat<=255:=by
  rw [BitVec.toNat_and];have h2:(BitVec.ofInt 64 255).toNat=255:=by decide
  rw [h2];exact Nat.and_le_right
 show 0<=IntKind.u64.wrap (((BitVec.ofInt 64 x &&& BitVec.ofInt 64 255).toNat:Nat):Int)/\IntKind.u64.wrap (((BitVec.ofInt 64 x &&& BitVec.ofInt 64 255).toNat:Nat):Int)<=255;generalize (BitVec.ofInt 64 x &&& BitVec.ofInt 64 255).toNat=m at *;have:=jo1 ⟨m,by omega⟩;simp only at this;rw [this];omega
theorem jof (k:IntKind) (a:Int):qy .u64 (.val (.int k a))=some (vu (IntKind.u64.wrap a)):=rfl
theorem jiN (k:IntKind) (a:Int):qy .i64 (.val (.int k a))=ck a:=rfl
theorem jn0 (n:Int):jP (vu n)=true:=rfl
section
variable {code:List Int} (hb:By code)
include hb
theorem jqf (a s:Int) (h0:0<=a) (h1:a<=1000000000):∃s' x,0<=x/\x<=255/\jjk (jZ code) (vi a) (vu s)=some (.top,[jZ code,vi (a+1),vu s',vi x]):=by
 obtain ⟨k,rfl⟩:∃k:Nat,a=(k:Nat):=⟨a.toNat,by omega⟩;have c1:ck (((k:Nat):Int)+1)=some (vi (((k:Nat):Int)+1)):=jE (by omega) (by omega);have hcl:=hb.2;rw [jtO];by_cases hk:k < code.length
 ·have hlt:((k:Nat):Int) < ((code.length:Nat):Int):=by omega
  have hle:((k:Nat):Int)+1<=((code.length:Nat):Int):=by omega
  have hv:=hb.1 code[k] (List.getElem_mem hk);have c2:ck code[k]=some (vi code[k]):=jE (by omega) (by omega);exact ⟨_,code[k],hv.1,hv.2,by simp only [jf,hlt,jb hk,jiN,c2,c1,jor,jof,joq,jn0,hle];rfl⟩
 ·have hlt:¬((k:Nat):Int) < ((code.length:Nat):Int):=by omega
  have hle:¬((k:Nat):Int)+1<=((code.length:Nat):Int):=by omega
  generalize hz:IntKind.u64.wrap (IntKind.u64.wrap (IntKind.u64.wrap (s * 6364136223846793005)+IntKind.u64.wrap 0)+892892)=z;have hbd:=jk0 (JR .shr .u64 z 40);have c2:ck (JR .and .u64 (JR .shr .u64 z 40) 255)=some (vi (JR .and .u64 (JR .shr .u64 z 40) 255)):=jE (by omega) (by omega);exact ⟨z,_,hbd.1,hbd.2,by simp only [jf,hlt,c1,jor,jof,joq,hz,jn0,hle,jsW,jsV,jiN,c2]⟩
omit hb in
theorem jfa {x n:Int} (h0:0<=x) (hn:1<=n):js .rem false (vi x) (vi n)=some (vi (x % n)):=by
 show (if n=0 then none else some (vi (x.tmod n)))=_;rw [if_neg (by omega),Int.tmod_eq_emod_of_nonneg h0]
theorem zN (n:Int) (hn:1<=n) (hn':n<=200) (a s:Int) (h0:0<=a) (h1:a<=1000000000):∃a' s' x,a<=a'/\a'<=a+1/\0<=x/\x < n/\JM (vi n) (jZ code) (vi a) (vu s)=some (.top,[jZ code,vi a',vu s',vi x]):=by
 rw [jtF];by_cases h:n<=1
 ·exact ⟨a,s,0,by omega,by omega,by omega,by omega,by simp only [jf,h]⟩
 ·obtain ⟨s',x,x0,x1,e⟩:=jqf hb a s h0 h1;have e2:=jfa x0 hn;have hg:¬(200:Int) < n:=by omega
  refine ⟨a+1,s',x % n,by omega,by omega,Int.emod_nonneg _ (by omega),Int.emod_lt_of_pos _ (by omega),?_⟩;simp only [jf,h,e,List.getElem?_cons_zero,List.getElem?_cons_succ,hg,e2,zJ]
theorem qp (n:Int) (hn:1<=n) (hn':n<=200) (a s:Int) (h0:0<=a) (h1:a<=1000000000):∃a' s' b,a<=a'/\a'<=a+1/\KF (vi n) (jZ code) (vi a) (vu s)=some (.top,[jZ code,vi a',vu s',vb b]):=by
 obtain ⟨a',s',x,q1,q2,_,_,e⟩:=zN hb n hn hn' a s h0 h1;refine ⟨a',s',decide (x=0),q1,q2,?_⟩;rw [jtB];simp only [jf,e,List.getElem?_cons_zero,List.getElem?_cons_succ,zJ]
theorem jkt (l:List (List UInt8)) (hn:1<=l.length) (hn':l.length<=200) (a s:Int) (h0:0<=a) (h1:a<=1000000000):∃a' s' w,w∈l/\a<=a'/\a'<=a+1/\qT (jZ code) (vi a) (vu s) (l.map cs)=some (.top,[jZ code,vi a',vu s',sv w]):=by
 obtain ⟨a',s',x,q1,q2,x0,x1,e⟩:=zN hb ((l.length:Nat):Int) (by omega) (by omega) a s h0 h1;obtain ⟨i,rfl⟩:∃i:Nat,x=(i:Nat):=⟨x.toNat,by omega⟩;have hi:i < l.length:=by omega
 have e1:KE l.length (vi ((i:Nat):Int))=some i:=ze hi;have e2:yE (l.map cs) i 0=some (sv l[i]):=by unfold yE;simp [hi]
 refine ⟨a',s',l[i],List.getElem_mem hi,q1,q2,?_⟩;rw [jtH];simp only [jf,e,List.getElem?_cons_zero,List.getElem?_cons_succ,e1,e2]
end
theorem jqM (t:T):j6 [t] = .sl 2 [[sv t.name,.sl 2 (t.args.map jx)]]:=by
 show A.sl 2 [jx t]=_;rw [ku]
theorem ji9 (t u:T):j6 [t,u] = .sl 2 [[sv t.name,.sl 2 (t.args.map jx)],[sv u.name,.sl 2 (u.args.map jx)]]:=by
 show A.sl 2 [jx t,jx u]=_;rw [ku,ku]
abbrev S5:List (List UInt8):=[[88],[89],[90],[88,121,122,57],[81,49]]
def JF (n:List UInt8):Bool:= !ju n || S5.contains n
mutual
def K0:T->Bool
 | .mk n us=>JF n && qG us
def qG:List T->Bool
 | []=>true
 | t::ts=>K0 t && qG ts
end
theorem jiK (t:T):K0 t=(JF t.name && qG t.args):=by cases t;rw [K0];rfl
theorem jcc:∀us vs:List T,qG (us++vs)=(qG us && qG vs)
 | [],vs=>by rw [List.nil_append,qG,Bool.true_and]
 | u::us,vs=>by rw [List.cons_append,qG,qG,jcc us vs,Bool.and_assoc]
theorem nm0 {n:List UInt8} (h:JF n=true):K0 (.mk n [])=true:=by rw [K0,h];rfl
theorem nm1 {n:List UInt8} {t:T} (h:JF n=true) (ht:K0 t=true):K0 (.mk n [t])=true:=by rw [K0,h,qG,ht];rfl
theorem nm2 {n:List UInt8} {t u:T} (h:JF n=true) (ht:K0 t=true) (hu:K0 u=true):K0 (.mk n [t,u])=true:=by rw [K0,h,qG,ht,qG,hu];rfl
theorem nmA {t:T} (h:K0 t=true):qG t.args=true:=by rw [jiK,Bool.and_eq_true] at h;exact h.2
theorem nmN {t:T} (h:K0 t=true):JF t.name=true:=by rw [jiK,Bool.and_eq_true] at h;exact h.1
theorem jgO {n:List UInt8} {us:List T} (h:JF n=true) (hu:qG us=true):K0 (.mk n us)=true:=by rw [K0,h,hu];rfl
def TD (code:List Int) (z q:Nat) (a:Int) (o:Option Out):Prop:=∃a' s' t,a<=a'/\a'<=a+(q:Nat)/\(tsz t<=z/\K0 t=true)/\o=some (.top,[jZ code,vi a',vu s',sv (T.name t),j6 (T.args t)])
section
variable {code:List Int} (hb:By code)
include hb
theorem ja0 (l:List (List UInt8)) (hn:1<=l.length) (hn':l.length<=200) (hl:∀w∈l,w.length<=1/\JF w=true) (a s:Int) (h0:0<=a) (h1:a<=1000000000) :
  ∃a' s' w,(w.length<=1/\JF w=true)/\a<=a'/\a'<=a+1/\qT (jZ code) (vi a) (vu s) (l.map cs)=some (.top,[jZ code,vi a',vu s',sv w]):=by
 obtain ⟨a',s',w,hw,q1,q2,e⟩:=jkt hb l hn hn' a s h0 h1;exact ⟨a',s',w,hl w hw,q1,q2,e⟩
theorem jnx:∀(d:Nat),d<=100-> ∀(qn:Int),qn<=(d:Nat)-> -1000<=qn-> ∀(a s:Int),0<=a->a+((3 * 4 ^ d:Nat):Int)<=1000000000->TD code (3 * 4 ^ d) (3 * 4 ^ d) a (qw (vi qn) (jZ code) (vi a) (vu s)):=by
 have base:∀(d:Nat) (qn:Int),qn<=1-> ∀(a s:Int),0<=a->a+((3 * 4 ^ d:Nat):Int)<=1000000000->TD code (3 * 4 ^ d) (3 * 4 ^ d) a (qw (vi qn) (jZ code) (vi a) (vu s)):=by
  intro d qn hd a s h0 h1;have hp:1<=4 ^ d:=Nat.pos_of_ne_zero (by simp);obtain ⟨a1,s1,w,hw,q1,q2,e⟩:=ja0 hb [[88],[89],[90],[97],[98],[88],[97]] (by decide) (by decide) (by decide) a s h0 (by omega);have e:qT (jZ code) (vi a) (vu s) [[sv [88]],[sv [89]],[sv [90]],[sv [97]],[sv [98]],[sv [88]],[sv [97]]]=some (.top,[jZ code,vi a1,vu s1,sv w]):=e;refine ⟨a1,s1,.mk w [],q1,by omega,⟨by rw [yH];simp [zu];omega,nm0 hw.2⟩,?_⟩;rw [KN];simp only [jf,hd,e,List.getElem?_cons_zero,List.getElem?_cons_succ,zJ];rfl
 intro d;induction d with
 | zero=>intro _ qn hd _ a s h0 h1;exact base 0 qn (by omega) a s h0 h1
 | succ d ih=>
  intro hdd qn hd hd' a s h0 h1;by_cases hle:qn<=1
  ·exact base (d+1) qn hle a s h0 h1
  have hp:1<=4 ^ d:=Nat.pos_of_ne_zero (by simp);rw [Nat.pow_succ] at h1 ⊢;generalize 4 ^ d=P at *;obtain ⟨a1,s1,b1,q1,q2,e1⟩:=qp hb 3 (by decide) (by decide) a s h0 (by omega);cases b1 with
  | true=>
   obtain ⟨a2,s2,w,hw,r1,r2,e⟩:=ja0 hb [[88],[89],[90],[97],[98],[88],[97]] (by decide) (by decide) (by decide) a1 s1 (by omega) (by omega);have e:qT (jZ code) (vi a1) (vu s1) [[sv [88]],[sv [89]],[sv [90]],[sv [97]],[sv [98]],[sv [88]],[sv [97]]]=some (.top,[jZ code,vi a2,vu s2,sv w]):=e;refine ⟨a2,s2,.mk w [],by omega,by omega,⟨by rw [yH];simp [zu];omega,nm0 hw.2⟩,?_⟩;rw [KN];simp only [jf,hle,e1,e,List.getElem?_cons_zero,List.getElem?_cons_succ,zJ];rfl
  | false=>
   obtain ⟨a2,s2,b2,r1,r2,e2⟩:=qp hb 2 (by decide) (by decide) a1 s1 (by omega) (by omega);have c1:ck (qn - 1)=some (vi (qn - 1)):=jE (by omega) (by omega);obtain ⟨a3,s3,t3,u1,u2,u3,e3⟩:=ih (by omega) (qn - 1) (by omega) (by omega) a2 s2 (by omega) (by omega);cases b2 with
   | true=>
    refine ⟨a3,s3,.mk [102] [t3],by omega,by omega,⟨by rw [yH];simp [zu];omega,nm1 (by decide) u3.2⟩,?_⟩
    rw [KN];simp only [jf,hle,e1,e2,c1,e3,List.getElem?_cons_zero,List.getElem?_cons_succ,zJ];rw [<-jqM];rfl
   | false=>
    obtain ⟨a4,s4,t4,v1,v2,v3,e4⟩:=ih (by omega) (qn - 1) (by omega) (by omega) a3 s3 (by omega) (by omega);refine ⟨a4,s4,.mk [103] [t3,t4],by omega,by omega,⟨by rw [yH];simp [zu];omega,nm2 (by decide) u3.2 v3.2⟩,?_⟩;rw [KN];simp only [jf,hle,e1,e2,c1,e3,e4,List.getElem?_cons_zero,List.getElem?_cons_succ,zJ];rw [<-ji9];rfl
theorem ZG (a s:Int) (h0:0<=a) (h1:a<=999999000):TD code 192 193 a (KG (jZ code) (vi a) (vu s)):=by
 obtain ⟨a1,s1,x,q1,q2,x0,x1,e1⟩:=zN hb 3 (by decide) (by decide) a s h0 (by omega);have c1:ck (1+x)=some (vi (1+x)):=jE (by omega) (by omega);obtain ⟨a2,s2,t,r1,r2,r3,e2⟩:=jnx hb 3 (by decide) (1+x) (by omega) (by omega) a1 s1 (by omega) (by omega);refine ⟨a2,s2,t,by omega,by omega,r3,?_⟩;rw [jq4];simp only [jf,e1,c1,e2,List.getElem?_cons_zero,List.getElem?_cons_succ,zJ]
theorem joS (d:Nat) (hd:d<=20) (a s:Int) (h0:0<=a) (h1:a<=999990000):TD code 60 1 a (jmO (vi (d:Nat)) (jZ code) (vi a) (vu s)):=by
 obtain ⟨a1,s1,w,hw,q1,q2,e⟩:=ja0 hb [[88],[97]] (by decide) (by decide) (by decide) a s h0 (by omega);have e:qT (jZ code) (vi a) (vu s) [[sv [88]],[sv [97]]]=some (.top,[jZ code,vi a1,vu s1,sv w]):=e;have loop:∀(k:Nat) (t:T) (x1:A) (r0:List (List A)),k<=20-> ∃u,(tsz u<=tsz t+2 * k/\(K0 t=true->K0 u=true))/\Zu (vi (k:Nat)) x1 (sv t.name) (jZ code) (vi a1) (vu s1) r0 (t.args.map jx)=some (.top,[jZ code,vi a1,vu s1,sv (T.name u),j6 (T.args u)]):=by
  intro k;induction k with
  | zero=>
   intro t x1 r0 _;refine ⟨t,⟨by omega,id⟩,?_⟩;have h:¬(1:Int) < ((0:Nat):Int):=by omega
   rw [jeT];simp only [jf,h]
  | succ k ih=>
   intro t x1 r0 hk;by_cases h:(1:Int) < ((k+1:Nat):Int)
   ·obtain ⟨u,hu,eu⟩:=ih (.mk [102] [t]) x1 r0 (by omega);rw [yH] at hu;simp only [List.length_cons,List.length_nil,zu] at hu;refine ⟨u,⟨by omega,λh=>hu.2 (nm1 (by decide) h)⟩,?_⟩;have c1:ck (((k+1:Nat):Int) - 1)=some (vi (k:Nat)):=by rw [show ((k+1:Nat):Int) - 1=(k:Nat) by omega];exact jE (by omega) (by omega)
    have eu:Zu (vi (k:Nat)) x1 (sv [102]) (jZ code) (vi a1) (vu s1) r0 [jx t]=_:=eu;rw [ku] at eu;rw [jeT];simp only [jf,h,c1,eu]
   ·refine ⟨t,⟨by omega,id⟩,?_⟩;rw [jeT];simp only [jf,h]
 obtain ⟨u,hu,eu⟩:=loop d (.mk w []) (sv []) [] hd;rw [yH] at hu;simp only [List.length_nil,zu] at hu;refine ⟨a1,s1,u,q1,q2,⟨by omega,hu.2 (nm0 hw.2)⟩,?_⟩;have eu:Zu (vi (d:Nat)) (sv []) (sv w) (jZ code) (vi a1) (vu s1) [] []=_:=eu;rw [jtY];simp only [jf,e,List.getElem?_cons_zero,List.getElem?_cons_succ,eu,zJ]
end
theorem jsO {n:Nat} (h:n<=4194304):jJ n 16=true:=by
 unfold jJ;exact decide_eq_true ⟨by omega,by omega⟩
theorem jqn {n:Nat} (h:n<=4194304):jJ n 8=true:=by
 unfold jJ;exact decide_eq_true ⟨by omega,by omega⟩
abbrev nbs (vs:List Int):A:= .sl 1 (vs.map ci)
theorem jwh {x n:Int} (h0:0<=x) (hn:2<=n) (hx:x<=9223372036854775807):js .quo false (vi x) (vi n)=some (vi (x / n)):=by
 show (if n=0 then none else ck (x.tdiv n))=_;rw [if_neg (by omega),Int.tdiv_eq_ediv_of_nonneg h0,jE]
 ·have:=Int.ediv_nonneg h0 (show (0:Int)<=n by omega);omega
 ·have:=Int.ediv_le_self n h0;omega
theorem jog (x:Int) (h0:0<=x) (h1:x<=255):qy .i64 (vy x)=some (vi x):=by
 rw [jiN,jE (by omega) (by omega)]
theorem jg0 {l:List (List UInt8)} {i:Nat} (h:i < l.length):yE (l.map cs) i 0=some (sv l[i]):=by
 unfold yE;simp [h]
section
variable {code:List Int} (hb:By code)
include hb
theorem joV (i:Int) (h0:0<=i) (h1:i<=1000):∃x,0<=x/\x<=255/\G 111 [jZ code,vi i]=some (vi x,[]):=by
 obtain ⟨k,rfl⟩:∃k:Nat,i=(k:Nat):=⟨i.toNat,by omega⟩;have hl:=hb.2;rw [jvU];by_cases hk:k < code.length
 ·have hlt:((k:Nat):Int) < ((code.length:Nat):Int):=by omega
  have hv:=hb.1 code[k] (List.getElem_mem hk);have c:=jog code[k] hv.1 hv.2;exact ⟨code[k],hv.1,hv.2,by simp only [jf,hlt,jb hk,c]⟩
 ·have hlt:¬((k:Nat):Int) < ((code.length:Nat):Int):=by omega
  have c1:ck (((k:Nat):Int) * 7)=some (vi (((k:Nat):Int) * 7)):=jE (by omega) (by omega);have c2:ck (((k:Nat):Int) * 7+((code.length:Nat):Int))=some (vi (((k:Nat):Int) * 7+((code.length:Nat):Int))):=jE (by omega) (by omega);have c3:=jfa (x:=((k:Nat):Int) * 7+((code.length:Nat):Int)) (n:=256) (by omega) (by decide);exact ⟨(((k:Nat):Int) * 7+((code.length:Nat):Int)) % 256,Int.emod_nonneg _ (by decide),by have:=Int.emod_lt_of_pos (((k:Nat):Int) * 7+((code.length:Nat):Int)) (show (0:Int) < 256 by decide);omega,by simp only [jf,hlt,c1,c2,c3]⟩
theorem joW (vs:List Int) (hvs:∀v∈vs,0<=v/\v<=10) (hl:vs.length<=4000000):∀i,i<=vs.length-> ∀h:Int,0<=h->h < 65521-> ∃x,0<=x/\jjG (jZ code) (nbs vs) (vi h) (vi (i:Nat))=some (vi x,[]):=by
 refine upto ?_ ?_
 ·intro h h0 h1;obtain ⟨a,a0,a1,ea⟩:=joV hb (h % 53) (Int.emod_nonneg _ (by decide)) (by have:=Int.emod_lt_of_pos h (show (0:Int) < 53 by decide);omega);obtain ⟨b,b0,b1,eb⟩:=joV hb (h % 89) (Int.emod_nonneg _ (by decide)) (by have:=Int.emod_lt_of_pos h (show (0:Int) < 89 by decide);omega);have r1:=jfa (x:=h) (n:=53) h0 (by decide);have r2:=jfa (x:=h) (n:=89) h0 (by decide);have c1:ck (13 * a)=some (vi (13 * a)):=jE (by omega) (by omega);have c2:ck (h+13 * a)=some (vi (h+13 * a)):=jE (by omega) (by omega);have c3:ck (h+13 * a+b)=some (vi (h+13 * a+b)):=jE (by omega) (by omega);have q:=jwh (x:=h+13 * a+b) (n:=3) (by omega) (by decide) (by omega);refine ⟨(h+13 * a+b) / 3,Int.ediv_nonneg (by omega) (by decide),?_⟩;rw [jrI];simp only [jf,r1,r2,ea,eb,c1,c2,c3,q]
 ·intro i hi ih h h0 h1;have hlt:(i:Int) < ((vs.length:Nat):Int):=by omega
  have h5:=jz hi (by show vs.length<=9223372036854775807;omega)
  have hv:=hvs vs[i] (List.getElem_mem hi);have c1:ck (37 * h)=some (vi (37 * h)):=jE (by omega) (by omega);have c2:ck (37 * h+vs[i])=some (vi (37 * h+vs[i])):=jE (by omega) (by omega);have c3:ck (37 * h+vs[i]+1)=some (vi (37 * h+vs[i]+1)):=jE (by omega) (by omega);have r:=jfa (x:=37 * h+vs[i]+1) (n:=65521) (by omega) (by decide);obtain ⟨x,x0,e⟩:=ih ((37 * h+vs[i]+1) % 65521) (Int.emod_nonneg _ (by decide)) (Int.emod_lt_of_pos _ (by decide));refine ⟨x,x0,?_⟩;rw [jrI];simp only [jf,hlt,jb hi,c1,c2,c3,r,h5,e]
theorem jqN (n:List UInt8) (hn:n.length<=4000000) (vs:List Int) (hvs:∀v∈vs,0<=v/\v<=10) (hl:vs.length<=4000000):∃x,0<=x/\G 84 [jZ code,sv n,nbs vs]=some (vi x,[]):=by
 have key:∀i,i<=n.length-> ∀h:Int,0<=h->h < 65521-> ∃x,0<=x/\jjF (jZ code) (sv n) (nbs vs) (vi h) (vi (i:Nat))=some (vi x,[]):=by
  refine upto ?_ ?_
  ·intro h h0 h1;obtain ⟨x,x0,e⟩:=joW hb vs hvs hl 0 (Nat.zero_le _) h h0 h1;refine ⟨x,x0,?_⟩;rw [jrH];simp only [Int.natCast_zero] at e;simp only [jf,e]
  ·intro i hi ih h h0 h1;have hlt:(i:Int) < ((n.length:Nat):Int):=by omega
   have h5:=jz hi (by show n.length<=9223372036854775807;omega)
   have hx:=yS hi;have hc:n[i].toNat<=255:=by have:=n[i].toNat_lt;omega
   generalize n[i].toNat=c at *;have c0:=jog ((c:Nat):Int) (by omega) (by omega);have c1:ck (31 * h)=some (vi (31 * h)):=jE (by omega) (by omega);have c2:ck (31 * h+((c:Nat):Int))=some (vi (31 * h+((c:Nat):Int))):=jE (by omega) (by omega);have r:=jfa (x:=31 * h+((c:Nat):Int)) (n:=65521) (by omega) (by decide);obtain ⟨x,x0,e⟩:=ih ((31 * h+((c:Nat):Int)) % 65521) (Int.emod_nonneg _ (by decide)) (Int.emod_lt_of_pos _ (by decide));refine ⟨x,x0,?_⟩;rw [jrH];simp only [jf,hlt,hx,c0,c1,c2,r,h5,e]
 obtain ⟨x,x0,e⟩:=key 0 (Nat.zero_le _) 17 (by decide) (by decide);refine ⟨x,x0,?_⟩;rw [g84];simp only [Int.natCast_zero] at e;exact e
end
noncomputable def jca (code:List Int) (n:List UInt8) (vs:List Int):Int:=match G 84 [jZ code,sv n,nbs vs] with|some (.val (.int _ x),_)=>x|_=>0
theorem jkr {code:List Int} (hb:By code) (n:List UInt8) (hn:n.length<=4000000) (vs:List Int) (hvs:∀v∈vs,0<=v/\v<=10) (hl:vs.length<=4000000):0<=jca code n vs/\G 84 [jZ code,sv n,nbs vs]=some (vi (jca code n vs),[]):=by
 obtain ⟨x,x0,e⟩:=jqN hb n hn vs hvs hl;have:jca code n vs=x:=by unfold jca;rw [e]
 rw [this];exact ⟨x0,e⟩
noncomputable abbrev kV (code:List Int) (s:Int):List UInt8->List Int->Int:=λn vs=>jca code n vs % s
abbrev Env:=List (List UInt8 × Int)
abbrev ev (E:Env):A:= .agg [.sl 1 (E.map λp=>cs p.1),.sl 1 (E.map λp=>ci p.2)]
def j5 (E:Env) (n:List UInt8):Int:=E.foldl (λa p=>if p.1=n then p.2 else a) 0
theorem jld (E:Env) (p:List UInt8 × Int) (n:List UInt8):j5 (E++[p]) n=if p.1=n then p.2 else j5 E n:=by
 unfold j5;rw [List.foldl_append];rfl
theorem jpW (E:Env) (hl:E.length<=4000000) (n:List UInt8):G 110 [ev E,sv n]=some (vi (j5 E n),[]):=by
 have key:∀k,k<=E.length->jen (sv n) (vi ((k:Nat) - 1:Int)) (.sl 1 (E.map λp=>cs p.1)) (.sl 1 (E.map λp=>ci p.2))=some (vi (j5 (E.take k) n),[]):=by
  intro k;induction k with
  | zero=>
   intro _;have h:¬(0:Int)<=((0:Nat):Int) - 1:=by omega
   rw [jnG];simp only [jf,h];rfl
  | succ k ih=>
   intro hk;have hk':k < E.length:=by omega
   have h:(0:Int)<=(k:Int):=by omega
   have e1:((k+1:Nat):Int) - 1=(k:Int):=by omega
   have c1:ck ((k:Int) - 1)=some (vi ((k:Int) - 1)):=jE (by omega) (by omega);have i1:=jb (k:=1) (f:=λp:List UInt8 × Int=>cs p.1) hk';have i2:=jb (k:=1) (f:=λp:List UInt8 × Int=>ci p.2) hk';rw [e1,jnG,List.take_succ_eq_append_getElem hk',jld];by_cases hn:E[k].1=n
   ·rw [if_pos hn];simp only [jf,h,i1,i2,hn]
   ·rw [if_neg hn,<-ih (by omega)];simp only [jf,h,i1,i2,hn,c1]
 have:=key E.length (Nat.le_refl _);rw [List.take_length] at this;have c1:ck (((E.length:Nat):Int) - 1)=some (vi (((E.length:Nat):Int) - 1)):=jE (by omega) (by omega);rw [jvT];simp only [jf,c1,this]
theorem QD {code:List Int} (s:Int) (hs:1<=s) (n:List UInt8) (vs:List Int):0<=kV code s n vs/\kV code s n vs < s:=⟨Int.emod_nonneg _ (by omega),Int.emod_lt_of_pos _ (by omega)⟩
theorem jdL {c:UInt8} {r:List UInt8} :j8 (sv (c::r)) (vi 0)=some (vy (c.toNat:Int)):=kR
section
variable {code:List Int} (hb:By code)
include hb
theorem jhR (s:Int) (hs:1<=s/\s<=10) (E:Env) (hE:∀x,0<=j5 E x/\j5 E x < s) (n:List UInt8) (hn:n.length<=1048576) (us:List T) (hl:us.length<=1048576) (ih:∀u∈us,G 83 [jZ code,vi s,ev E,tm u]=some (vi (val (kV code s) (j5 E) u),[])) :
  jdh (jZ code) (vi s) (vi 0) (.sl 1 (E.map λp=>cs p.1)) (.sl 1 (E.map λp=>ci p.2)) (sv n) (j6 us) []=some (vi (kV code s n (us.map (val (kV code s) (j5 E)))),[]):=by
 have key:=upto (P:=λi=>jdh (jZ code) (vi s) (vi (i:Nat)) (.sl 1 (E.map λp=>cs p.1)) (.sl 1 (E.map λp=>ci p.2)) (sv n) (j6 us) (((us.take i).map (val (kV code s) (j5 E))).map ci)=some (vi (kV code s n (us.map (val (kV code s) (j5 E)))),[])) (n:=us.length) ?_ ?_ 0 (Nat.zero_le _)
 ·exact key
 ·have hv:∀v∈us.map (val (kV code s) (j5 E)),0<=v/\v<=10:=by
   intro v hv;obtain ⟨u,_,rfl⟩:=List.mem_map.1 hv;have:=jcS (good:=λv=>0<=v/\v < s) (M:=kV code s) (QD s hs.1) hE u;omega
  obtain ⟨m0,me⟩:=jkr hb n (by omega) _ hv (by rw [List.length_map];omega)
  have r:=jfa (x:=jca code n (us.map (val (kV code s) (j5 E)))) (n:=s) m0 hs.1;rw [List.take_length,jrG];generalize us.map (val (kV code s) (j5 E))=vs at *;show _=some (vi (jca code n vs % s),[]);simp only [jf,me,r]
 ·intro i hi ihi;have hlt:(i:Int) < ((us.length:Nat):Int):=by omega
  have h5:=jz hi (by show us.length<=9223372036854775807;omega)
  have e1:=ih us[i] (List.getElem_mem hi);have f:jJ (i+1) 8=true:=jqn (by omega);have hmin:min i us.length=i:=by omega
  rw [List.take_succ_eq_append_getElem hi,List.map_append,List.map_append,show ([us[i]].map (val (kV code s) (j5 E))).map ci = [[vi (val (kV code s) (j5 E) us[i])]] from rfl] at ihi;rw [jrG];generalize val (kV code s) (j5 E) us[i]=v at *;have ihi:jdh (jZ code) (vi s) (vi ((i+1:Nat):Int)) (.sl 1 (E.map λp=>cs p.1)) (.sl 1 (E.map λp=>ci p.2)) (sv n) (j6 us) (km (((us.take i).map (val (kV code s) (j5 E))).map ci) [[vi v]])=_:=ihi;have hlen:(((us.take i).map (val (kV code s) (j5 E))).map ci).length=i:=by simp [hmin]
  generalize ((us.take i).map (val (kV code s) (j5 E))).map ci=R at *;have f2:jJ (R.length+1) 8=true:=by rw [hlen];exact f
  simp only [jf,hlt,jb hi,jg,e1,h5,f2,ihi]
theorem jmo (s:Int) (hs:1<=s/\s<=10) (E:Env) (hEl:E.length<=4000000) (hE:∀x,0<=j5 E x/\j5 E x < s):∀t:T,Tz t->G 83 [jZ code,vi s,ev E,tm t]=some (vi (val (kV code s) (j5 E) t),[]):=by
 refine T.ind λt ih ht=> ?_;have hz:=ht;unfold Tz at hz;rw [jY] at hz;have e0:=jhR hb s hs E hE t.name (by omega) t.args (by omega) λu hu=>ih u hu (ht.args u hu);have e1:=jpW E hEl t.name;rw [g83,jfu];cases ha:t.args with
 | cons u us=>
  rw [ha] at e0;have hne:¬(((u::us).length:Nat):Int)=0:=by rw [List.length_cons];omega
  rw [show (u::us).isEmpty=false from rfl,Bool.false_and,if_neg Bool.false_ne_true];generalize u::us=vs at *;simp only [jf,ha,hne,e0]
 | nil=>
  rw [ha] at e0;rw [show ([]:List T).isEmpty=true from rfl,Bool.true_and];cases hn:t.name with
  | nil=>
   rw [hn] at e0;rw [show upN []=false from rfl,if_neg Bool.false_ne_true];have z1:(((([]:List T).length:Nat):Int)=0):=rfl;have z2:¬(0:Int) < ((0:Nat):Int):=by decide
   generalize hE0:([]:List T)=vs at *;simp only [jf,ha,hn,z1,z2,e0]
  | cons c r=>
   rw [hn] at e0 e1;have hpos:(0:Int) < (((c::r).length:Nat):Int):=Int.natCast_pos.2 (Nat.succ_pos _);have hx:=jdL (c:=c) (r:=r);have hu:upN (c::r)=(decide ((65:Int)<=(c.toNat:Int)) && decide ((c.toNat:Int)<=90)):=rfl;rw [hu];have z1:(((([]:List T).length:Nat):Int)=0):=rfl;generalize hE0:([]:List T)=vs at *;generalize c::r=nm at *;by_cases h1:(65:Int)<=(c.toNat:Int)
   ·by_cases h2:(c.toNat:Int)<=90
    ·rw [decide_eq_true h1,decide_eq_true h2,Bool.and_self,if_pos rfl];simp only [jf,ha,hn,z1,hpos,hx,h1,h2,e1]
    ·rw [decide_eq_true h1,decide_eq_false h2,Bool.and_false,if_neg Bool.false_ne_true];simp only [jf,ha,hn,z1,hpos,hx,h1,h2,e0]
   ·rw [decide_eq_false h1,Bool.false_and,if_neg Bool.false_ne_true];simp only [jf,ha,hn,z1,hpos,hx,h1,e0]
end
theorem jqQ (l:List (List UInt8)) (n:List UInt8):(vnA l n).length<=l.length+1:=by
 unfold vnA;split
 ·omega
 ·simp
theorem jfw:∀(t:T) (l:List (List UInt8)),(vn l t).length<=l.length+nodes t:=by
 refine T.ind λt ih l=> ?_;have hn:=jN t;rw [jkV];split
 ·have:=jqQ l t.name;omega
 ·have key:∀us:List T,(∀u∈us,u∈t.args)-> ∀l:List (List UInt8),(vnL l us).length<=l.length+jA us:=by
   intro us;induction us with
   | nil=>intro _ l;simp [vnL,jA]
   | cons u us ih2=>
    intro hu l;have h1:=ih u (hu u (by simp)) l;have h2:=ih2 (λv hv=>hu v (by simp [hv])) (vn l u);rw [vnL,jA];omega
  have:=key t.args (λ_ h=>h) l;omega
theorem jjf (n:List UInt8) (x:A) (hx:n.length<=1048576) (l:List (List UInt8)) (hl:l.length<=4000000):Zt (vi 0) (sv n) x (l.map cs)=some (.top,[.sl 1 ((vnA l n).map cs)]):=by
 have key:=upto (P:=λi=>Zt (vi (i:Nat)) (sv n) x (l.map cs)=some (.top,[.sl 1 ((if (l.drop i).contains n then l else l++[n]).map cs)])) (n:=l.length) ?_ ?_ 0 (Nat.zero_le _)
 ·exact key
 ·have f:jJ (l.length+1) 16=true:=jsO (by omega);rw [jkg,List.drop_length,show ([]:List (List UInt8)).contains n=false from rfl,if_neg Bool.false_ne_true,List.map_append];simp only [jf,f];rfl
 ·intro i hi ih;have hlt:(i:Int) < ((l.length:Nat):Int):=by omega
  have h5:=jz hi (by show l.length<=9223372036854775807;omega)
  have x1:KE l.length (vi ((i:Nat):Int))=some i:=ze hi;have x2:=jg0 hi;rw [jkg,jl hi,List.contains_cons];by_cases he:l[i]=n
  ·rw [<-he,beq_self_eq_true,Bool.true_or,if_pos rfl];rw [he] at x2 ⊢;simp only [jf,hlt,x1,x2]
  ·have hne:(n == l[i])=false:=by
    cases h:(n == l[i]) with
    | false=>rfl
    | true=>exact absurd (eq_of_beq h).symm he
   rw [hne,Bool.false_or,<-ih];simp only [jf,hlt,x1,x2,he,h5]
theorem jea:∀t:T,Tz t-> ∀l:List (List UInt8),l.length+nodes t<=4000000->jfB (tm t) (l.map cs)=some (.top,[.sl 1 ((vn l t).map cs)]):=by
 refine T.ind λt ih ht l hl=> ?_;have hz:=ht;unfold Tz at hz;rw [jY] at hz;have hn:=jN t;have e1:∀x,Zt (vi 0) (sv t.name) x (l.map cs)=_:=λx=>jjf t.name x (by omega) l (by omega);have key:=upto (P:=λi=>∀l:List (List UInt8),l.length+jA (t.args.drop i)<=4000000->jaP (vi (i:Nat)) (sv t.name) (j6 t.args) (l.map cs)=some (.top,[.sl 1 ((vnL l (t.args.drop i)).map cs)])) (n:=t.args.length) ?_ ?_ 0 (Nat.zero_le _);rotate_left
 ·intro l _;rw [jeQ,List.drop_length];simp only [jf];rfl
 ·intro i hi ihi l hl;have hlt:(i:Int) < ((t.args.length:Nat):Int):=by omega
  have h5:=jz hi (by show t.args.length<=9223372036854775807;omega)
  rw [jl hi,jA] at hl;have q:=ih t.args[i] (List.getElem_mem hi) (ht.args _ (List.getElem_mem hi)) l (by omega);have hln:=jfw t.args[i] l;have q2:=ihi (vn l t.args[i]) (by omega);rw [jeQ,jl hi,vnL];generalize vn l t.args[i]=l' at *;have hr:hR 1 (A.top,[.sl 1 (l'.map cs)]) 0=some (l'.map cs):=rfl;simp only [jf,hlt,jb hi,jg,q,hr,h5,q2]
 have e2:jaO (vi 0) (sv t.name) (j6 t.args) (l.map cs)=some (.top,[.sl 1 ((vnL l t.args).map cs)]):=by
  have key:=key l (by rw [List.drop_zero];omega)
  rw [List.drop_zero] at key;have:jaO (vi 0) (sv t.name) (j6 t.args) (l.map cs)=jaP (vi 0) (sv t.name) (j6 t.args) (l.map cs):=by rw [jp4,jeQ]
  rw [this];exact key
 rw [jtM,jkV];cases ha:t.args with
 | cons u us=>
  rw [ha] at e2;have hne:¬(((u::us).length:Nat):Int)=0:=by rw [List.length_cons];omega
  rw [show (u::us).isEmpty=false from rfl,Bool.false_and,if_neg Bool.false_ne_true];generalize u::us=vs at *;simp only [jf,ha,hne,e2]
 | nil=>
  rw [ha] at e2;rw [show ([]:List T).isEmpty=true from rfl,Bool.true_and];cases hnm:t.name with
  | nil=>
   rw [hnm] at e2;rw [show upN []=false from rfl,if_neg Bool.false_ne_true];have z1:(((([]:List T).length:Nat):Int)=0):=rfl;have z2:¬(0:Int) < ((0:Nat):Int):=by decide
   generalize hE0:([]:List T)=vs at *;simp only [jf,ha,hnm,z1,z2,e2]
  | cons c r=>
   rw [hnm] at e1 e2;have hpos:(0:Int) < (((c::r).length:Nat):Int):=Int.natCast_pos.2 (Nat.succ_pos _);have hx:=jdL (c:=c) (r:=r);have hu:upN (c::r)=(decide ((65:Int)<=(c.toNat:Int)) && decide ((c.toNat:Int)<=90)):=rfl;rw [hu];have z1:(((([]:List T).length:Nat):Int)=0):=rfl;generalize hE0:([]:List T)=vs at *;generalize c::r=nm at *;by_cases h1:(65:Int)<=(c.toNat:Int)
   ·by_cases h2:(c.toNat:Int)<=90
    ·rw [decide_eq_true h1,decide_eq_true h2,Bool.and_self,if_pos rfl];simp only [jf,ha,hnm,z1,hpos,hx,h1,h2,e1]
    ·rw [decide_eq_true h1,decide_eq_false h2,Bool.and_false,if_neg Bool.false_ne_true];simp only [jf,ha,hnm,z1,hpos,hx,h1,h2,e2]
   ·rw [decide_eq_false h1,Bool.false_and,if_neg Bool.false_ne_true];simp only [jf,ha,hnm,z1,hpos,hx,h1,e2]
theorem juz {x n:Int} (h0:0<=x) (hn:1<=n) (hx:x<=9223372036854775807):js .quo false (vi x) (vi n)=some (vi (x / n)):=by
 show (if n=0 then none else ck (x.tdiv n))=_;rw [if_neg (by omega),Int.tdiv_eq_ediv_of_nonneg h0,jE]
 ·have:=Int.ediv_nonneg h0 (show (0:Int)<=n by omega);omega
 ·have:=Int.ediv_le_self n h0;omega
theorem jng {n:Nat} (hn:1<=n):∀(l k:Nat),∀v∈dec n l k,v < n
 | 0,_,v,h=>by cases h
 | l+1,k,v,h=>by
  rw [dec] at h;rcases List.mem_cons.1 h with rfl|h
  ·exact Nat.mod_lt _ (by omega)
  ·exact jng hn l _ v h
theorem jjW (n:Nat):∀l k:Nat,(dec n l k).length=l
 | 0,_=>rfl
 | l+1,k=>by rw [dec,List.length_cons,jjW n l]
theorem jlc {s:Int} (hs:1<=s) {E:Env} (h:∀p∈E,0<=p.2/\p.2 < s) (x:List UInt8):0<=j5 E x/\j5 E x < s:=by
 have key:∀(E:Env) (a:Int),(0<=a/\a < s)->(∀p∈E,0<=p.2/\p.2 < s)->0<=E.foldl (λa p=>if p.1=x then p.2 else a) a/\E.foldl (λa p=>if p.1=x then p.2 else a) a < s:=by
  intro E;induction E with
  | nil=>intro a ha _;exact ha
  | cons p E ih=>
   intro a ha h;rw [List.foldl_cons];refine ih _ ?_ λq hq=>h q (by simp [hq]);split
   ·exact h p (by simp)
   ·exact ha
 exact key E 0 ⟨by omega,by omega⟩ h
theorem jnu (f:List UInt8->Int) {l:List (List UInt8)} {x:List UInt8} (hx:x∈l):j5 (l.map λn=>(n,f n)) x=f x:=by
 have key:∀(l:List (List UInt8)) (a:Int),(x∈l\/a=f x)->(l.map λn=>(n,f n)).foldl (λa (p:List UInt8 × Int)=>if p.1=x then p.2 else a) a=f x:=by
  intro l;induction l with
  | nil=>intro a h;exact h.elim (λh=>absurd h List.not_mem_nil) id
  | cons n l ih=>
   intro a h;rw [List.map_cons,List.foldl_cons];refine ih _ ?_;show x∈l\/(if n=x then f n else a)=f x;by_cases hn:n=x
   ·right;rw [if_pos hn,hn]
   ·rw [if_neg hn];rcases h with h|h
    ·rcases List.mem_cons.1 h with h|h
     ·exact absurd h.symm hn
     ·exact Or.inl h
    ·exact Or.inr h
 exact key l 0 (Or.inl hx)
theorem Qn {α β:Type} (f:α->β):∀l:List α,l.zip (l.map f)=l.map λx=>(x,f x)
 | []=>rfl
 | x::l=>by rw [List.map_cons,List.zip_cons_cons,Qn f l,List.map_cons]
def QA (s:Nat) (names:List (List UInt8)) (k:Nat):Env:=names.zip ((dec s names.length k).map λv=>((v:Nat):Int))
theorem jdm {s:Nat} (hs:1<=s) (names:List (List UInt8)) (k:Nat) (x:List UInt8):0<=j5 (QA s names k) x/\j5 (QA s names k) x < (s:Int):=by
 refine jlc (by omega) (λp hp=> ?_) x;obtain ⟨v,hv,e⟩:=List.mem_map.1 (List.of_mem_zip hp).2;have:=jng hs _ _ v hv;rw [<-e];omega
theorem jnn {s:Nat} (hs:1<=s) (names:List (List UInt8)) (e:List UInt8->Int) (he:∀x,0<=e x/\e x < (s:Int)):∃k,k < s ^ names.length/\ ∀x∈names,j5 (QA s names k) x=e x:=by
 have hv:∀v∈names.map (λx=>(e x).toNat),v < s:=by
  intro v hv;obtain ⟨x,_,rfl⟩:=List.mem_map.1 hv;have:=he x;omega
 refine ⟨enc s (names.map λx=>(e x).toNat),?_,λx hx=> ?_⟩
 ·have:=jnk hs _ hv;rwa [List.length_map] at this
 ·have h1:=jjV hs _ hv;rw [List.length_map] at h1;unfold QA;rw [h1,List.map_map,Qn,jnu _ hx];have:=he x;show (((e x).toNat:Nat):Int)=e x;omega
theorem jno (s:Nat) (names:List (List UInt8)) (k:Nat):(QA s names k).length=names.length:=by
 unfold QA;rw [List.length_zip,List.length_map,jjW,Nat.min_self]
section
variable {code:List Int} (hb:By code)
include hb
omit hb in
theorem jo0 (n:List UInt8) (v:Int) (E:Env) (hl:E.length<=1000000):jmI (sv n) (vi v) (E.map λp=>cs p.1) (E.map λp=>ci p.2)=some (.top,[.sl 1 (E.map λp=>cs p.1),.sl 1 (E.map λp=>ci p.2),.sl 1 ((E++[(n,v)]).map λp=>cs p.1),.sl 1 ((E++[(n,v)]).map λp=>ci p.2)]):=by
 have f1:jJ E.length 16=true:=jsO (by omega);have f2:jJ E.length 8=true:=jqn (by omega);have f3:jJ (E.length+1) 16=true:=jsO (by omega);have f4:jJ (E.length+1) 8=true:=jqn (by omega);rw [jtN];simp only [jf,f1,f2,f3,f4,List.map_append];rfl
omit hb in
theorem jhN (s:Nat) (hs:1<=s/\s<=3) (al k:A) (X:A) (names:List (List UInt8)) (hn:names.length<=1000):∀(m i rest:Nat) (E:Env),i+m=names.length->E.length=i->rest<=1000000000->
  jjw (jZ code) (vi (s:Nat)) al k (vi (rest:Nat)) (vi (i:Nat)) X (names.map cs) (E.map λp=>cs p.1) (E.map λp=>ci p.2) =
  jfF (jZ code) (vi (s:Nat)) al k (vb false) (vi 0) X (names.map cs) ((E++(names.drop i).zip ((dec s m rest).map λv=>((v:Nat):Int))).map λp=>cs p.1) ((E++(names.drop i).zip ((dec s m rest).map λv=>((v:Nat):Int))).map λp=>ci p.2):=by
 intro m;induction m with
 | zero=>
  intro i rest E hi hE hr;have hlt:¬(i:Int) < ((names.length:Nat):Int):=by omega
  rw [dec,List.map_nil,List.zip_nil_right,List.append_nil,jrn];simp only [jf,hlt]
 | succ m ih=>
  intro i rest E hi hE hr;have hi':i < names.length:=by omega
  have hlt:(i:Int) < ((names.length:Nat):Int):=by omega
  have h5:=jz hi' (by show names.length<=9223372036854775807;omega)
  have x1:KE names.length (vi ((i:Nat):Int))=some i:=ze hi';have x2:=jg0 hi';have r1:=jfa (x:=((rest:Nat):Int)) (n:=((s:Nat):Int)) (by omega) (by omega);have r2:=juz (x:=((rest:Nat):Int)) (n:=((s:Nat):Int)) (by omega) (by omega) (by omega);rw [<-Int.natCast_emod] at r1;rw [<-Int.natCast_ediv] at r2;have w:=jo0 names[i] ((rest % s:Nat):Int) E (by omega);have hd:rest / s<=1000000000:=Nat.le_trans (Nat.div_le_self _ _) hr;have q:=ih (i+1) (rest / s) (E++[(names[i],((rest % s:Nat):Int))]) (by omega) (by rw [List.length_append,List.length_singleton,hE]) hd;rw [dec,jl hi',List.map_cons,List.zip_cons_cons,show E++(names[i],((rest % s:Nat):Int))::((names.drop (i+1)).zip ((dec s m (rest / s)).map λv=>((v:Nat):Int)))=(E++[(names[i],((rest % s:Nat):Int))])++(names.drop (i+1)).zip ((dec s m (rest / s)).map λv=>((v:Nat):Int)) by rw [List.append_assoc];rfl,<-q,jrn];generalize hE':E++[(names[i],((rest % s:Nat):Int))]=E' at *;have hR:∀a b c d:List (List A),hR 1 (A.top,[.sl 1 a,.sl 1 b,.sl 1 c,.sl 1 d]) 0=some a/\hR 1 (A.top,[.sl 1 a,.sl 1 b,.sl 1 c,.sl 1 d]) 1=some b/\hR 1 (A.top,[.sl 1 a,.sl 1 b,.sl 1 c,.sl 1 d]) 2=some c/\hR 1 (A.top,[.sl 1 a,.sl 1 b,.sl 1 c,.sl 1 d]) 3=some d:=λ_ _ _ _=>⟨rfl,rfl,rfl,rfl⟩;obtain ⟨z0,z1,z2,z3⟩:=hR (E.map λp=>cs p.1) (E.map λp=>ci p.2) (E'.map λp=>cs p.1) (E'.map λp=>ci p.2);simp only [jf,hlt,x1,x2,r1,r2,h5,w,z0,z1,z2,z3]
end
def R3 (S:List (List UInt8)) (r:T):Prop:=r.name = [61]/\r.args.length=2/\Tz r/\(zt (J0 r)=true/\VIn S (J0 r))/\zt (J5 r)=true/\VIn S (J5 r)
def jwt (code:List Int) (s:Int) (r:T):Prop:=∀e:List UInt8->Int,(∀x,0<=e x/\e x < s)->val (kV code s) e (J0 r)=val (kV code s) e (J5 r)
section
variable {code:List Int} (hb:By code)
include hb
end
theorem jhQ (n m:List UInt8) (ts us:List T) (hl:ts.length<=9223372036854775807) (hlen:ts.length=us.length) (ih:∀t∈ts,∀u∈us,G 12 [tm t,tm u]=some (vb (dq t u),[])) :
  ∀i,i<=ts.length->jjo (vi i) (sv n) (j6 ts) (sv m) (j6 us)=some (vb (dq (ts.drop i) (us.drop i)),[]):=by
 refine upto ?_ ?_
 ·rw [jre,List.drop_length,hlen,List.drop_length,Kd];simp only [jf,hlen]
 ·intro i hi ih';have hlt:(i:Int) < ((ts.length:Nat):Int):=by omega
  have hi2:i < us.length:=by omega
  have h5:=jz hi hl;have e1:=ih ts[i] (List.getElem_mem _) us[i] (List.getElem_mem _);rw [jre,jl hi,jl hi2,jeC];cases hp:dq ts[i] us[i]<;>rw [hp] at e1
  ·simp only [jf,hlt,jb hi,jb hi2,jg,e1,Bool.false_and]
  ·simp only [jf,hlt,jb hi,jb hi2,jg,e1,h5,ih',Bool.true_and]
theorem jmn:∀s:T,QV s-> ∀t:T,QV t->G 12 [tm s,tm t]=some (vb (dq s t),[]):=by
 refine T.ind λs ih hw t hw'=> ?_;obtain ⟨w1,w2,w3⟩:=(zg s).1 hw;have w3:=(kK _).1 w3;obtain ⟨v1,v2,v3⟩:=(zg t).1 hw';have v3:=(kK _).1 v3;rw [g12,jsq];by_cases hn:s.name=t.name
 ·by_cases hlen:s.args.length=t.args.length
  ·have key:=jhQ t.name t.name s.args t.args w2 hlen (λa ha b hb=>ih a ha (w3 a ha) b (v3 b hb)) 0 (Nat.zero_le _);simp only [Int.natCast_zero,List.drop_zero] at key;simp only [jf,hn,hlen,key,Bool.true_and]
  ·have hlen':¬((s.args.length:Nat):Int)=((t.args.length:Nat):Int):=by omega
   simp only [jf,hn,hlen',jij hlen,Bool.and_false]
 ·simp only [jf,hn,Bool.false_and]
def MD (code:List Int) (z q:Nat) (a:Int) (o:Option Out):Prop:=∃a' s' t,a<=a'/\a'<=a+(q:Nat)/\(tsz t<=z/\K0 t=true)/\o=some (.top,[jZ code,vi a',vu s',tm t])
def fT (n:List UInt8):T:= .mk [102] [.mk n []]
def hT:T:= .mk [104] [fT [97],fT [97],fT [97],fT [97]]
def gT (us:List T):T:= .mk [103] us
section
variable {code:List Int} (hb:By code)
include hb
theorem jqT (a s:Int) (h0:0<=a) (h1:a<=999990000):MD code 200 2 a (jjm (jZ code) (vi a) (vu s)):=by
 obtain ⟨a1,s1,b1,q1,q2,e1⟩:=qp hb 2 (by decide) (by decide) a s h0 (by omega);obtain ⟨a2,s2,b2,r1,r2,e2⟩:=qp hb 2 (by decide) (by decide) a1 s1 (by omega) (by omega);have inner:∀(x y:Int) (r1:List (List A)),x+1=y->0<=x->x < 4->r1.length<=10->jaU (vi x) (vi 0) (jZ code) (vi a) (vu s) (sv []) (sv [103]) (sv [104]) [] r1 []=YC (vi y) (jZ code) (vi a) (vu s) (sv []) (sv [103]) [] (r1++[jx hT]):=by
  intro x y r1 hxy hx hi hr;have hf:jJ (r1.length+1) 40=true:=joh (by omega);have c5:ck (x+1)=some (vi y):=by rw [hxy];exact jE (by omega) (by omega)
  have k1:ck ((0:Int)+1)=some (vi 1):=jE (by decide) (by decide);have k2:ck ((1:Int)+1)=some (vi 2):=jE (by decide) (by decide);have k3:ck ((2:Int)+1)=some (vi 3):=jE (by decide) (by decide);have k4:ck ((3:Int)+1)=some (vi 4):=jE (by decide) (by decide);have f1:jJ (0+1) 40=true:=rfl;have f2:jJ (1+1) 40=true:=rfl;have f3:jJ (2+1) 40=true:=rfl;have f4:jJ (3+1) 40=true:=rfl;have l0:((0:Int) < 4)=True:=by simp
  have l1:((1:Int) < 4)=True:=by simp
  have l2:((2:Int) < 4)=True:=by simp
  have l3:((3:Int) < 4)=True:=by simp
  rw [Y7];simp only [jf,l0,f1,k1];rw [Y7];simp only [jf,l1,f2,k2,km];rw [Y7];simp only [jf,l2,f3,k3,km];rw [Y7];simp only [jf,l3,f4,k4,km];rw [Y7];simp only [jf,hf,c5,km];rfl
 have l0:((0:Int) < 4)=True:=by simp
 have l1:((1:Int) < 4)=True:=by simp
 have l2:((2:Int) < 4)=True:=by simp
 have l3:((3:Int) < 4)=True:=by simp
 have head:jjm (jZ code) (vi a) (vu s)=YC (vi 4) (jZ code) (vi a) (vu s) (sv []) (sv [103]) [] [jx hT,jx hT,jx hT,jx hT]:=by
  rw [jtZ,Y6];simp only [jf,l0];rw [inner 0 1 [] (by decide) (by decide) (by decide) (by decide),Y6];simp only [jf,l1];rw [inner 1 2 _ (by decide) (by decide) (by decide) (by decide),Y6];simp only [jf,l2];rw [inner 2 3 _ (by decide) (by decide) (by decide) (by decide),Y6];simp only [jf,l3];rw [inner 3 4 _ (by decide) (by decide) (by decide) (by decide)];rfl
 rw [head,Y6];have n4:((4:Int) < 4)=False:=by simp
 cases b1 with
 | true=>
  cases b2 with
  | true=>
   refine ⟨a2,s2,gT [hT,hT,hT,fT [98]],by omega,by omega,by decide,?_⟩;simp only [jf,n4,e1,e2,List.getElem?_cons_zero,List.getElem?_cons_succ];rfl
  | false=>
   refine ⟨a2,s2,gT [hT,hT,hT],by omega,by omega,by decide,?_⟩;simp only [jf,n4,e1,e2,List.getElem?_cons_zero,List.getElem?_cons_succ];rfl
 | false=>
  refine ⟨a2,s2,gT [hT,hT,hT,hT],by omega,by omega,by decide,?_⟩;cases b2<;>simp only [jf,n4,e1,e2,List.getElem?_cons_zero,List.getElem?_cons_succ]<;>rfl
theorem jh6 (a s:Int) (h0:0<=a) (h1:a<=999980000):MD code 1000 1200 a (jmJ (jZ code) (vi a) (vu s)):=by
 obtain ⟨a1,s1,t1,q1,q2,q3,e1⟩:=ZG hb a s h0 (by omega);obtain ⟨a2,s2,x,r1,r2,x0,x1,e2⟩:=zN hb 24 (by decide) (by decide) a1 s1 (by omega) (by omega);have hz:=jY t1;rw [jtP];by_cases y0:x=0
 ·subst y0;obtain ⟨a3,s3,w,hw,u1,u2,e⟩:=jkt hb [[],[116,114,117,101],[116,114,117,116,104],[105,102],[88,121,122,57],[88,121,122,57,57],[120,65],[97,95,98],[97,98,99,100,101,102],[97,98,99,100,101,102,103],[95,97],[57],[88,95],[61]] (by decide) (by decide) a2 s2 (by omega) (by omega);have hl:w.length<=7/\JF w=true:=(show ∀w∈([[],[116,114,117,101],[116,114,117,116,104],[105,102],[88,121,122,57],[88,121,122,57,57],[120,65],[97,95,98],[97,98,99,100,101,102],[97,98,99,100,101,102,103],[95,97],[57],[88,95],[61]]:List (List UInt8)),w.length<=7/\JF w=true by decide) w hw;have e:qT (jZ code) (vi a2) (vu s2) [[sv []],[sv [116,114,117,101]],[sv [116,114,117,116,104]],[sv [105,102]],[sv [88,121,122,57]],[sv [88,121,122,57,57]],[sv [120,65]],[sv [97,95,98]],[sv [97,98,99,100,101,102]],[sv [97,98,99,100,101,102,103]],[sv [95,97]],[sv [57]],[sv [88,95]],[sv [61]]]=some (.top,[jZ code,vi a3,vu s3,sv w]):=e;refine ⟨a3,s3,.mk w t1.args,by omega,by omega,⟨by rw [yH];omega,jgO hl.2 (nmA q3.2)⟩,?_⟩;simp only [jf,e1,e2,e,List.getElem?_cons_zero,List.getElem?_cons_succ,zJ];rfl
 by_cases y1:x=1
 ·subst y1;obtain ⟨a3,s3,y,u1,u2,u3,u4,e3⟩:=zN hb 3 (by decide) (by decide) a2 s2 (by omega) (by omega);obtain ⟨k,hk⟩:∃k:Nat,7+y=(k:Nat):=⟨(7+y).toNat,by omega⟩;have c1:ck (7+y)=some (vi (k:Nat)):=by rw [hk];exact jE (by omega) (by omega)
  obtain ⟨a4,s4,t4,v1,v2,v3,e4⟩:=joS hb k (by omega) a3 s3 (by omega) (by omega);refine ⟨a4,s4,t4,by omega,by omega,⟨by omega,v3.2⟩,?_⟩;simp only [jf,y0,e1,e2,e3,c1,e4,List.getElem?_cons_zero,List.getElem?_cons_succ,zJ]
 by_cases y2:x=2
 ·subst y2;obtain ⟨a3,s3,t3,u1,u2,u3,e3⟩:=jqT hb a2 s2 (by omega) (by omega);refine ⟨a3,s3,t3,by omega,by omega,⟨by omega,u3.2⟩,?_⟩;simp only [jf,y0,y1,e1,e2,e3,List.getElem?_cons_zero,List.getElem?_cons_succ,zJ]
 by_cases y3:x=3
 ·subst y3;obtain ⟨a3,s3,t3,u1,u2,u3,e3⟩:=ZG hb a2 s2 (by omega) (by omega);obtain ⟨a4,s4,t4,v1,v2,v3,e4⟩:=ZG hb a3 s3 (by omega) (by omega);obtain ⟨a5,s5,t5,w1,w2,w3,e5⟩:=ZG hb a4 s4 (by omega) (by omega);have hf:jJ (t1.args.length+3) 40=true:=joh (by omega);have hsz:∀us:List T,zu (us++[t3,t4,t5])=zu us+(tsz t3+(tsz t4+tsz t5)):=by
   intro us;induction us with
   | nil=>simp [zu]
   | cons u us ih=>simp only [List.cons_append,zu];omega
  refine ⟨a5,s5,.mk t1.name (t1.args++[t3,t4,t5]),by omega,by omega,⟨by rw [yH,hsz,List.length_append,List.length_cons,List.length_cons,List.length_cons,List.length_nil];omega,jgO (nmN q3.2) (by rw [jcc,nmA q3.2,qG,u3.2,qG,v3.2,qG,w3.2];rfl)⟩,?_⟩
  simp only [jf,y0,y1,y2,e1,e2,e3,e4,e5,hf,List.length_map,List.getElem?_cons_zero,List.getElem?_cons_succ,zJ];show _=some (A.top,[jZ code,vi a5,vu s5,A.agg [sv t1.name,.sl 2 ((t1.args++[t3,t4,t5]).map jx)]]);rw [List.map_append,List.map_cons,List.map_cons,List.map_cons,ku t3,ku t4,ku t5];rfl
 by_cases y4:x=4
 ·subst y4;cases ht:t1.args with
  | nil=>
   rw [ht] at e1;refine ⟨a2,s2,t1,by omega,by omega,⟨by omega,q3.2⟩,?_⟩;simp only [jf,y0,y1,y2,y3,e1,e2,Int.natCast_zero,List.map_nil,List.getElem?_cons_zero,List.getElem?_cons_succ,zJ];rw [show tm t1=A.agg [sv t1.name,.sl 2 (t1.args.map jx)] from rfl,ht];rfl
  | cons u us=>
   rw [ht] at e1 hz;obtain ⟨a3,s3,w,hw,u1,u2,e⟩:=jkt hb [[61],[],[81,49],[98,50]] (by decide) (by decide) a2 s2 (by omega) (by omega);have hl:w.length<=2/\JF w=true:=(show ∀w∈([[61],[],[81,49],[98,50]]:List (List UInt8)),w.length<=2/\JF w=true by decide) w hw;have e:qT (jZ code) (vi a2) (vu s2) [[sv [61]],[sv []],[sv [81,49]],[sv [98,50]]]=some (.top,[jZ code,vi a3,vu s3,sv w]):=e;have hu:=jY u;simp only [zu,List.length_cons] at hz;refine ⟨a3,s3,.mk t1.name (.mk w u.args::us),by omega,by omega,⟨by rw [yH];simp only [zu,List.length_cons,yH];omega,?_⟩,?_⟩
   ·have h1:=nmA q3.2;rw [ht,qG,Bool.and_eq_true] at h1;exact jgO (nmN q3.2) (by rw [qG,jgO hl.2 (nmA h1.1),h1.2];rfl)
   have x2:KE (us.length+1) (vi 0)=some 0:=ze (i:=0) (by omega);have x3:yE (jx u::us.map jx) 0 1=some (j6 u.args):=by rw [ku];rfl
   have x4:(0:Int) < ((us.length+1:Nat):Int):=by omega
   simp only [jf,y0,y1,y2,y3,e1,e2,e,List.map_cons,List.length_cons,List.length_map,x2,x3,x4,List.getElem?_cons_zero,List.getElem?_cons_succ,zJ];generalize hB:kJ _ _ _=B;have hB':B=some (.agg [sv w,j6 u.args]):=by rw [<-hB];kernel_rfl
   rw [hB'];simp only [jf,jc9,Jd,YL,List.getElem?_cons_zero,List.getElem?_cons_succ,zJ];rw [ku];show some (A.top,[jZ code,vi a3,vu s3,A.agg [sv t1.name,A.sl 2 (Jr [sv u.name,A.sl 2 (List.map jx u.args)] 0 [sv w,j6 u.args]::List.map jx us)]])=some (A.top,[jZ code,vi a3,vu s3,A.agg [sv t1.name,.sl 2 (jx (.mk w u.args)::us.map jx)]]);rw [YL,ku];rfl
 ·refine ⟨a2,s2,t1,by omega,by omega,⟨by omega,q3.2⟩,?_⟩;simp only [jf,e1,e2,y0,y1,y2,y3,y4,List.getElem?_cons_zero,List.getElem?_cons_succ,zJ]
end
theorem jhf {α:Type} (f:α->List A) (l:List α):yV (l.map f)=l.length:=List.length_map ..
def OD (code:List Int) (q:Nat) (a:Int) (o:Option Out):Prop:=∃a' s' r,a<=a'/\a'<=a+(q:Nat)/\owf r/\o=some (.top,[jZ code,vi a',vu s',od r])
section
variable {code:List Int} (hb:By code)
include hb
end
def PD (code:List Int) (z q:Nat) (a:Int) (o:Option Out):Prop:=∃a' s' t u,a<=a'/\a'<=a+(q:Nat)/\tsz t<=z/\tsz u<=z/\o=some (.top,[jZ code,vi a',vu s',.tup [tm t,tm u]])
section
variable {code:List Int} (hb:By code)
include hb
end
section
variable {code:List Int} (hb:By code)
include hb
end
theorem jky (u:List (List UInt8 × T)) (hl:u.length<=1000) (i:Nat) (hi:i<=u.length) :
  pB u.length u.length (some (vi (i:Nat)))=some i/\yl (u.map bc) 0 i=(u.take i).map bc/\jJ (u.take i).length 56=true/\pB u.length u.length none=some u.length/\pB 0 u.length (some (vi (i:Nat)))=some i/\yl (u.map bc) i (u.length - i)=(u.drop i).map bc/\qi (u.map bc) 0=u.length/\jJ ((u.take i).length+1) 56=true/\jJ ((u.take i).length+1+(u.drop i).length) 56=true:=by
 refine ⟨Qc hi,by rw [yl,List.drop_zero,List.map_take],je7 (by rw [List.length_take];omega),Jc (Nat.le_refl _),Qc hi,?_,by rw [qi,List.length_map];rfl,je7 (by rw [List.length_take];omega),je7 (by rw [List.length_take,List.length_drop];omega)⟩
 rw [yl,<-List.map_drop,List.take_of_length_le (by rw [List.length_map,List.length_drop];omega)]
theorem jkx (u v:List (List UInt8 × T)) (n:List UInt8) (t:T):km (km (u.map bc) [[sv n,sv t.name,j6 t.args]]) (v.map bc)=(u++[(n,t)]++v).map bc:=by
 rw [List.map_append,List.map_append];rfl
theorem jkz (u:List (List UInt8 × T)) (n:List UInt8) (t:T):(km (u.map bc) [[sv n,sv t.name,j6 t.args]]).length=u.length+1:=by
 simp [km]
theorem put_eq (u:List (List UInt8 × T)) (hl:u.length<=1000) (n:List UInt8) (t:T) (ht:tsz t<=1048576):∃u',u'.length<=u.length+1/\(∀p∈u',p∈u\/p=(n,t))/\jmH (sv n) (sv t.name) (u.map bc) (t.args.map jx)=some (.top,[sbs u']):=by
 have e1:=QH t ht;have key:=upto (P:=λi=>∃j,j<=u.length/\Yx (sv n) (vi i) (sv t.name) (u.map bc) (t.args.map jx) []=some (.top,[sbs (u.take j++[(n,t)]++u.drop j)])) (n:=u.length) ?_ ?_ 0 (Nat.zero_le _)
 ·rw [jtK];by_cases h:t.name=n
  ·refine ⟨u,by omega,λp hp=>Or.inl hp,?_⟩;simp only [jf,h]
  ·obtain ⟨j,hj,e⟩:=key;have e:Yx (sv n) (vi 0) (sv t.name) (u.map bc) (t.args.map jx) []=some (.top,[sbs (u.take j++[(n,t)]++u.drop j)]):=e;refine ⟨u.take j++[(n,t)]++u.drop j,by rw [List.length_append,List.length_append,List.length_take,List.length_drop,List.length_singleton];omega,λp hp=> ?_,?_⟩
   ·rw [List.mem_append,List.mem_append,List.mem_singleton] at hp;rcases hp with (hp|hp)|hp
    ·exact Or.inl (List.mem_of_mem_take hp)
    ·exact Or.inr hp
    ·exact Or.inl (List.mem_of_mem_drop hp)
   ·simp only [jf,h,e]
 ·refine ⟨u.length,Nat.le_refl _,?_⟩;obtain ⟨k1,k2,k3,k4,k5,k6,k7,k8,k9⟩:=jky u hl u.length (Nat.le_refl _);have m1:=jkx (u.take u.length) (u.drop u.length) n t;have m2:=jkz (u.take u.length) n t;rw [jeP];simp only [jf,jhf,k1,k2,k3,k4,k5,k6,k7,qE,Nat.sub_zero,Nat.zero_add,e1];generalize hB:kJ _ _ _=B;have hB':B=some (.agg [sv n,sv t.name,j6 t.args]):=by rw [<-hB];kernel_rfl
  rw [hB'];simp only [jf,k3,k8,k9,m1,m2]
 ·intro i hi ih;have hlt:(i:Int) < ((u.length:Nat):Int):=by omega
  have h5:=jz hi (by show u.length<=9223372036854775807;omega)
  have x1:KE u.length (vi ((i:Nat):Int))=some i:=ze hi;have x2:yE (u.map bc) i 0=some (sv u[i].1):=by unfold yE;simp [hi]
  cases hs:kQ u[i].1 n
  ·refine ⟨i,by omega,?_⟩;obtain ⟨k1,k2,k3,k4,k5,k6,k7,k8,k9⟩:=jky u hl i (by omega);have m1:=jkx (u.take i) (u.drop i) n t;have m2:=jkz (u.take i) n t;rw [jeP];simp only [jf,hlt,x1,x2,hs,jhf,k1,k2,k3,k4,k5,k6,k7,qE,Nat.sub_zero,Nat.zero_add,e1];generalize hB:kJ _ _ _=B;have hB':B=some (.agg [sv n,sv t.name,j6 t.args]):=by rw [<-hB];kernel_rfl
   rw [hB'];simp only [jf,k3,k8,k9,m1,m2]
  ·obtain ⟨j,hj,e⟩:=ih;refine ⟨j,hj,?_⟩;rw [jeP];simp only [jf,hlt,x1,x2,hs,h5,e]
section
variable {code:List Int} (hb:By code)
include hb
theorem jaK (a s:Int) (h0:0<=a) (h1:a<=999960000):∃a' s' u,a<=a'/\a'<=a+1000/\u.length<=4/\Sz 192 u/\jmE (jZ code) (vi a) (vu s)=some (.top,[jZ code,vi a',vu s',sb u]):=by
 have key:=upto (P:=λi=>∀(u:List (List UInt8 × T)) (a s:Int),0<=a->a<=999961000 - 200 * ((4:Int) - (i:Int))->u.length<=i->Sz 192 u-> ∃a' s' u',a<=a'/\a'<=a+200 * ((4:Int) - (i:Int))/\u'.length<=4/\Sz 192 u'/\Yv (vi 4) (vi i) (jZ code) (vi a) (vu s) ([[85],[88],[89],[90]].map cs) [] (u.map bc)=some (.top,[jZ code,vi a',vu s',sb u'])) (n:=4) ?_ ?_ 0 (Nat.zero_le _)
 ·obtain ⟨a',s',u,q1,q2,q3,q4,e⟩:=key [] a s h0 (by omega) (by simp) ⟨by simp,by simp⟩;refine ⟨a',s',u,q1,by omega,q3,q4,?_⟩;rw [jtC];exact e
 ·intro u a s h0 h1 hl hu;refine ⟨a,s,u,by omega,by omega,hl,hu,?_⟩;have n4:((4:Nat):Int)=4:=rfl;rw [jkd];simp only [jf,n4]
 ·intro i hi ih u a s h0 h1 hl hu;have hlt:(i:Int) < 4:=by omega
  have h5:ck ((i:Int)+1)=some (vi ((i+1:Nat):Int)):=jE (by omega) (by omega);obtain ⟨a1,s1,b,q1,q2,e1⟩:=qp hb 2 (by decide) (by decide) a s h0 (by omega);have hi4:i < ([[85],[88],[89],[90]]:List (List UInt8)).length:=hi;have x1:KE ([[85],[88],[89],[90]]:List (List UInt8)).length (vi ((i:Nat):Int))=some i:=ze hi4;obtain ⟨nm,hnm,x2⟩:∃nm:List UInt8,nm.length<=1/\yE (([[85],[88],[89],[90]]:List (List UInt8)).map cs) i 0=some (sv nm):=by
   match i,hi with
   | 0,_=>exact ⟨[85],by decide,rfl⟩
   | 1,_=>exact ⟨[88],by decide,rfl⟩
   | 2,_=>exact ⟨[89],by decide,rfl⟩
   | 3,_=>exact ⟨[90],by decide,rfl⟩
  rw [jkd];generalize ([[85],[88],[89],[90]]:List (List UInt8))=l at *;cases b with
  | true=>
   obtain ⟨a2,s2,t,r1,r2,r3,e2⟩:=ZG hb a1 s1 (by omega) (by omega);obtain ⟨u',v1,v2,e3⟩:=put_eq u (by omega) nm t (by omega);have hu':Sz 192 u':=⟨by omega,λp hp=>by
    rcases v2 p hp with h|h
    ·exact hu.2 p h
    ·rw [h];exact ⟨by show nm.length<=192;omega,r3.1⟩⟩
   obtain ⟨a3,s3,u3,w1,w2,w3,w4,e4⟩:=ih u' a2 s2 (by omega) (by omega) (by omega) hu';have x3:hR 3 (A.top,[sbs u']) 0=some (u'.map bc):=by simp [hR]
   refine ⟨a3,s3,u3,by omega,by omega,w3,w4,?_⟩;simp only [jf,hlt,x1,x2,e1,e2,List.getElem?_cons_zero,List.getElem?_cons_succ,zJ,e3,x3,h5,e4]
  | false=>
   obtain ⟨a3,s3,u3,w1,w2,w3,w4,e4⟩:=ih u a1 s1 (by omega) (by omega) (by omega) hu;refine ⟨a3,s3,u3,by omega,by omega,w3,w4,?_⟩;simp only [jf,hlt,x1,x2,e1,List.getElem?_cons_zero,List.getElem?_cons_succ,zJ,h5,e4]
end
abbrev S3:List (List UInt8):=[[88],[89],[90]]
theorem juq:∀t:T,zt t=true->VIn S3 t->K0 t=true:=by
 refine T.ind λt ih hk hv=> ?_;rw [zS] at hk;unfold VIn at hv;rw [Jj] at hv;rw [jiK];cases h:ju t.name with
 | true=>
  rw [h,if_pos rfl] at hk hv;have h1:=hv t.name (by simp);have h2:JF t.name=true:=by
   unfold JF;simp only [List.mem_cons,List.not_mem_nil,or_false] at h1;rcases h1 with e|e|e<;>rw [e]<;>decide
  rw [h2,List.isEmpty_iff.1 hk];rfl
 | false=>
  rw [h,if_neg Bool.false_ne_true] at hk hv;simp only [Bool.and_eq_true] at hk;have h2:JF t.name=true:=by unfold JF;rw [h];rfl
  have h3:∀us:List T,(∀u∈us,u∈t.args)->(∀x∈kO us,x∈S3)->Kk us=true->qG us=true:=by
   intro us;induction us with
   | nil=>intro _ _ _;rfl
   | cons u us ih2=>
    intro hm hx hk;rw [Kk,Bool.and_eq_true] at hk;rw [kO] at hx;rw [qG,ih u (hm u (by simp)) hk.1 (λx h=>hx x (List.mem_append_left _ h)),ih2 (λv h=>hm v (by simp [h])) (λx h=>hx x (List.mem_append_right _ h)) hk.2];rfl
  rw [h2,h3 t.args (λ_ h=>h) hv hk.2.2];rfl
def GT (N:Nat) (t:T):Prop:=zt t=true/\nodes t<=N/\VIn S3 t
theorem GT.valid {N:Nat} (hN:N<=8) {t:T} (h:GT N t):kD t=true/\tsz t<=80:=by
 have h1:=Yg t h.1;have h2:=jih t;have h3:=h.2.1;refine ⟨?_,by omega⟩;unfold kD ko;rw [h.1,decide_eq_true (show nodes t<=30 by omega),decide_eq_true (show qn t<=8 by omega)];rfl
theorem GT.nm {N:Nat} {t:T} (h:GT N t):K0 t=true:=juq t h.1 h.2.2
theorem GT.le {M N:Nat} (h:M<=N) {t:T} (ht:GT M t):GT N t:=⟨ht.1,Nat.le_trans ht.2.1 h,ht.2.2⟩
theorem GT.leaf {w:List UInt8} (h:w∈([[88],[89],[90],[97],[98]]:List (List UInt8))):GT 1 (.mk w []):=by
 simp only [List.mem_cons,List.not_mem_nil,or_false] at h;refine ⟨?_,Nat.le_refl _,?_⟩
 ·rcases h with rfl|rfl|rfl|rfl|rfl<;>decide
 ·intro x hx;rw [Jj] at hx;rcases h with rfl|rfl|rfl|rfl|rfl<;>simp [ju,upc,Kz,T.name,T.args,kO] at hx<;>simp [hx]
theorem GT.app {n:List UInt8} {us:List T} {N:Nat} (hv:ju n=false) (hs:zQ n=true) (hl:us.length<=4) (h:∀u∈us,zt u=true/\VIn S3 u) (hN:1+jA us<=N):GT N (.mk n us):=by
 refine ⟨?_,?_,?_⟩
 ·rw [zS];show (if ju n then _ else zQ n && (decide (us.length<=4) && Kk us))=true;rw [hv,if_neg Bool.false_ne_true,hs,decide_eq_true hl,Bool.true_and,Bool.true_and,yD,List.all_eq_true];exact λu hu=>(h u hu).1
 ·rw [jN];exact hN
 ·intro x hx;rw [Jj] at hx;have hx:x∈(if ju n then [n] else kO us):=hx;rw [hv,if_neg Bool.false_ne_true] at hx;have:∀us:List T,(∀u∈us,VIn S3 u)->x∈kO us->x∈S3:=by
   intro us;induction us with
   | nil=>intro _ h;cases h
   | cons u us ih=>
    intro h hx;rw [kO] at hx;rcases List.mem_append.1 hx with hx|hx
    ·exact h u (by simp) x hx
    ·exact ih (λv hv=>h v (by simp [hv])) hx
  exact this us (λu hu=>(h u hu).2) hx
def GD (code:List Int) (N q:Nat) (a:Int) (o:Option Out):Prop:=∃a' s' t,a<=a'/\a'<=a+(q:Nat)/\GT N t/\o=some (.top,[jZ code,vi a',vu s',sv (T.name t),j6 (T.args t)])
section
variable {code:List Int} (hb:By code)
include hb
theorem jb0 (a s:Int) (h0:0<=a) (h1:a<=1000000000):∃a' s' w,GT 1 (.mk w [])/\a<=a'/\a'<=a+1/\qT (jZ code) (vi a) (vu s) [[sv [88]],[sv [89]],[sv [90]],[sv [97]],[sv [98]],[sv [88]],[sv [97]]]=some (.top,[jZ code,vi a',vu s',sv w]):=by
 obtain ⟨a',s',w,hw,q1,q2,e⟩:=jkt hb [[88],[89],[90],[97],[98],[88],[97]] (by decide) (by decide) a s h0 h1;refine ⟨a',s',w,GT.leaf ?_,q1,q2,e⟩;simp only [List.mem_cons,List.not_mem_nil,or_false] at hw ⊢;rcases hw with h|h|h|h|h|h|h<;>simp [h]
theorem jds (qn:Int) (hd:qn<=1) (a s:Int) (h0:0<=a) (h1:a<=999999000):GD code 1 1 a (qw (vi qn) (jZ code) (vi a) (vu s)):=by
 obtain ⟨a1,s1,w,hw,q1,q2,e⟩:=jb0 hb a s h0 (by omega);refine ⟨a1,s1,.mk w [],q1,by omega,hw,?_⟩;rw [KN];simp only [jf,hd,e,List.getElem?_cons_zero,List.getElem?_cons_succ,zJ];rfl
theorem jlf (N q:Nat) (d:Nat) (h1d:1<=d) (hd:d<=10) (ih:∀a s:Int,0<=a->a<=999999000->GD code N q a (qw (vi (d:Nat)) (jZ code) (vi a) (vu s))) (hq:q<=300) (a s:Int) (h0:0<=a) (h1:a<=999998000):GD code (2 * N+1) (2 * q+3) a (qw (vi ((d+1:Nat):Int)) (jZ code) (vi a) (vu s)):=by
 have hle:¬((d+1:Nat):Int)<=1:=by omega
 obtain ⟨a1,s1,b1,q1,q2,e1⟩:=qp hb 3 (by decide) (by decide) a s h0 (by omega);cases b1 with
 | true=>
  obtain ⟨a2,s2,w,hw,r1,r2,e⟩:=jb0 hb a1 s1 (by omega) (by omega);refine ⟨a2,s2,.mk w [],by omega,by omega,hw.le (by omega),?_⟩;rw [KN];simp only [jf,hle,e1,e,List.getElem?_cons_zero,List.getElem?_cons_succ,zJ];rfl
 | false=>
  obtain ⟨a2,s2,b2,r1,r2,e2⟩:=qp hb 2 (by decide) (by decide) a1 s1 (by omega) (by omega);have c1:ck (((d+1:Nat):Int) - 1)=some (vi (d:Nat)):=by rw [show ((d+1:Nat):Int) - 1=(d:Nat) by omega];exact jE (by omega) (by omega)
  obtain ⟨a3,s3,t3,u1,u2,u3,e3⟩:=ih a2 s2 (by omega) (by omega);cases b2 with
  | true=>
   refine ⟨a3,s3,.mk [102] [t3],by omega,by omega,GT.app (by decide) (by decide) (by simp) (λu hu=> ?_) ?_,?_⟩
   ·simp only [List.mem_singleton] at hu;subst hu;exact ⟨u3.1,u3.2.2⟩
   ·have:=u3.2.1;simp only [jA];omega
   rw [KN];simp only [jf,hle,e1,e2,c1,e3,List.getElem?_cons_zero,List.getElem?_cons_succ,zJ];rw [<-jqM];rfl
  | false=>
   obtain ⟨a4,s4,t4,v1,v2,v3,e4⟩:=ih a3 s3 (by omega) (by omega);refine ⟨a4,s4,.mk [103] [t3,t4],by omega,by omega,GT.app (by decide) (by decide) (by simp) (λu hu=> ?_) ?_,?_⟩
   ·simp only [List.mem_cons,List.not_mem_nil,or_false] at hu;rcases hu with rfl|rfl
    ·exact ⟨u3.1,u3.2.2⟩
    ·exact ⟨v3.1,v3.2.2⟩
   ·have:=u3.2.1;have:=v3.2.1;simp only [jA];omega
   rw [KN];simp only [jf,hle,e1,e2,c1,e3,e4,List.getElem?_cons_zero,List.getElem?_cons_succ,zJ];rw [<-ji9];rfl
theorem JV (a s:Int) (h0:0<=a) (h1:a<=999998000):GD code 3 5 a (qw (vi 2) (jZ code) (vi a) (vu s)):=
 jlf hb 1 1 1 (by decide) (by decide) (λa s h0 h1=>jds hb 1 (by decide) a s h0 h1) (by decide) a s h0 h1
theorem jle (a s:Int) (h0:0<=a) (h1:a<=999997000):GD code 7 13 a (qw (vi 3) (jZ code) (vi a) (vu s)):=by
 obtain ⟨a1,s1,b1,q1,q2,e1⟩:=qp hb 3 (by decide) (by decide) a s h0 (by omega);have hle:¬(3:Int)<=1:=by decide
 cases b1 with
 | true=>
  obtain ⟨a2,s2,w,hw,r1,r2,e⟩:=jb0 hb a1 s1 (by omega) (by omega);refine ⟨a2,s2,.mk w [],by omega,by omega,hw.le (by omega),?_⟩;rw [KN];simp only [jf,hle,e1,e,List.getElem?_cons_zero,List.getElem?_cons_succ,zJ];rfl
 | false=>
  obtain ⟨a2,s2,b2,r1,r2,e2⟩:=qp hb 2 (by decide) (by decide) a1 s1 (by omega) (by omega);have c1:ck ((3:Int) - 1)=some (vi 2):=jE (n:=3 - 1) (by decide) (by decide);obtain ⟨a3,s3,t3,u1,u2,u3,e3⟩:=JV hb a2 s2 (by omega) (by omega);cases b2 with
  | true=>
   refine ⟨a3,s3,.mk [102] [t3],by omega,by omega,GT.app (by decide) (by decide) (by simp) (λu hu=> ?_) ?_,?_⟩
   ·simp only [List.mem_singleton] at hu;subst hu;exact ⟨u3.1,u3.2.2⟩
   ·have:=u3.2.1;simp only [jA];omega
   rw [KN];simp only [jf,hle,e1,e2,c1,e3,List.getElem?_cons_zero,List.getElem?_cons_succ,zJ];rw [<-jqM];rfl
  | false=>
   obtain ⟨a4,s4,t4,v1,v2,v3,e4⟩:=JV hb a3 s3 (by omega) (by omega);refine ⟨a4,s4,.mk [103] [t3,t4],by omega,by omega,GT.app (by decide) (by decide) (by simp) (λu hu=> ?_) ?_,?_⟩
   ·simp only [List.mem_cons,List.not_mem_nil,or_false] at hu;rcases hu with rfl|rfl
    ·exact ⟨u3.1,u3.2.2⟩
    ·exact ⟨v3.1,v3.2.2⟩
   ·have:=u3.2.1;have:=v3.2.1;simp only [jA];omega
   rw [KN];simp only [jf,hle,e1,e2,c1,e3,e4,List.getElem?_cons_zero,List.getElem?_cons_succ,zJ];rw [<-ji9];rfl
end
def ED (code:List Int) (q:Nat) (a:Int) (o:Option Out):Prop:=∃a' s' r,a<=a'/\a'<=a+(q:Nat)/\R3 S3 r/\tsz r<=400/\o=some (.top,[jZ code,vi a',vu s',tm r])
section
variable {code:List Int} (hb:By code)
include hb
end
def RT:T:= .mk [61] [.mk [102] [.mk [88] []],.mk [88] []]
def LD (code:List Int) (q:Nat) (a:Int) (o:Option Out):Prop:=∃a' s' rs,a<=a'/\a'<=a+(q:Nat)/\rs.length<=14/\(∀r∈rs,R3 S3 r/\tsz r<=400)/\o=some (.top,[jZ code,vi a',vu s',j6 rs])
section
variable {code:List Int} (hb:By code)
include hb
end
open Go Go.RowKit Go.ChangeShapes Go.Deep Go.Proofs.YtdbgbieenhcldaaGreat.Abs
section
variable {P:Program} {t:Nat} {H:Type} {enc:TypeId × Value->H} {w:World} {base:Nat} {spare:Nat->Bool} {held:Bool} {fuel:Nat} {cs:List Value} {x:DataW H × List MemPlace}
end
abbrev clc (c:j7):List A:=[.sl 3 (c.map jy)]
structure Stp where
 rule:Int
 par:List Int
 whr:List Int
 cls:j7
abbrev stc (s:Stp):List A:=[vi s.rule,ints s.par,ints s.whr,.sl 3 (s.cls.map jy)]
abbrev stm (s:Stp):A:= .agg [vi s.rule,ints s.par,ints s.whr,.sl 3 (s.cls.map jy)]
structure Prf where
 ax:List j7
 st:List Stp
abbrev cls (l:List j7):A:= .sl 1 (l.map clc)
abbrev jqK (l:List Stp):A:= .sl 4 (l.map stc)
abbrev prc (p:Prf):List A:=[cls p.ax,jqK p.st]
abbrev prm (p:Prf):A:= .agg [cls p.ax,jqK p.st]
structure Sch where
 prf:Prf
 act:List Int
 pas:List Int
 lost:Bool
abbrev scc (s:Sch):List A:=[cls s.prf.ax,jqK s.prf.st,ints s.act,ints s.pas,vb s.lost]
abbrev scm (s:Sch):A:= .agg [cls s.prf.ax,jqK s.prf.st,ints s.act,ints s.pas,vb s.lost]
def iwf (l:List Int):Prop:=(∀x∈l,I64 x)/\l.length<=9223372036854775807
def cwf (c:j7):Prop:=(∀l∈c,QV l.2)/\c.length<=9223372036854775807
def swf (s:Stp):Prop:=I64 s.rule/\iwf s.par/\iwf s.whr/\cwf s.cls
def pwf (p:Prf):Prop:=((∀c∈p.ax,cwf c)/\p.ax.length<=9223372036854775807)/\((∀s∈p.st,swf s)/\p.st.length<=9223372036854775807)
def jwT (s:Sch):Prop:=pwf s.prf/\iwf s.act/\iwf s.pas
theorem jpX (a x0 x1 x2 x3 x4:A) (us:List T) (l:List A):hR 2 (a,x0::x1::x2::x3::x4::j6 us::l) 5=some (us.map jx):=by simp [hR,j6]
def AD (code:List Int) (q:Nat) (a:Int) (o:Option Out):Prop:=∃a' s' t,a<=a'/\a'<=a+(q:Nat)/\(Bx t/\nodes t<=15/\K0 t=true)/\o=some (.top,[jZ code,vi a',vu s',sv (T.name t),j6 (T.args t)])
def LV (l:Lt):Prop:=Bx l.2/\nodes l.2<=15/\K0 l.2=true
def LtD (code:List Int) (q:Nat) (a:Int) (o:Option Out):Prop:=∃a' s' l,a<=a'/\a'<=a+(q:Nat)/\LV l/\o=some (.top,[jZ code,vi a',vu s',vb (Prod.fst l),sv (T.name (Prod.snd l)),j6 (T.args (Prod.snd l))])
theorem GT.two {n:List UInt8} (hn:n = [61]\/zQ n=true) {u v:T} (hu:GT 7 u) (hv:GT 7 v):Bx (.mk n [u,v])/\nodes (.mk n [u,v])<=15/\K0 (.mk n [u,v])=true:=by
 have h1:=hu.2.1;have h2:=hv.2.1;have hk:∀x ∈ [u,v],zt x=true:=λx hx=>by
  simp only [List.mem_cons,List.not_mem_nil,or_false] at hx;rcases hx with rfl|rfl
  ·exact hu.1
  ·exact hv.1
 have hnm:JF n=true:=by
  rcases hn with rfl|hn
  ·decide
  ·unfold JF;rw [QU hn];rfl
 refine ⟨?_,by rw [jN];show 1+jA [u,v]<=15;simp only [jA];omega,nm2 hnm hu.nm hv.nm⟩
 rcases hn with hn|hn
 ·exact Or.inl ⟨hn,rfl,hk⟩
 ·refine Or.inr ⟨hn,?_⟩;have hn':ju n=false:=QU hn;rw [zS];show (if ju n then _ else zQ n && (decide ([u,v].length<=4) && Kk [u,v]))=true;rw [hn',if_neg Bool.false_ne_true,hn,yD,List.all_eq_true.2 hk];rfl
theorem GT.one {n:List UInt8} (hn:zQ n=true) {u:T} (hu:GT 7 u):Bx (.mk n [u])/\nodes (.mk n [u])<=15/\K0 (.mk n [u])=true:=by
 have h1:=hu.2.1;have hk:∀x ∈ [u],zt x=true:=λx hx=>by
  simp only [List.mem_cons,List.not_mem_nil,or_false] at hx;rw [hx];exact hu.1
 refine ⟨Or.inr ⟨hn,?_⟩,by rw [jN];show 1+jA [u]<=15;simp only [jA];omega,nm1 (by unfold JF;rw [QU hn];rfl) hu.nm⟩
 have hn':ju n=false:=QU hn;rw [zS];show (if ju n then _ else zQ n && (decide ([u].length<=4) && Kk [u]))=true;rw [hn',if_neg Bool.false_ne_true,hn,yD,List.all_eq_true.2 hk];rfl
theorem LV.tsz {l:Lt} (h:LV l):tsz l.2<=150:=by have:=h.1.tsz;have:=h.2;omega
theorem LV.tz {l:Lt} (h:LV l):Tz l.2:=by have:=h.tsz;unfold Tz;omega
section
variable {code:List Int} (hb:By code)
include hb
theorem jhF (a s:Int) (h0:0<=a) (h1:a<=999996000):GD code 7 14 a (KG (jZ code) (vi a) (vu s)):=by
 obtain ⟨a1,s1,x,q1,q2,x0,x1,e1⟩:=zN hb 3 (by decide) (by decide) a s h0 (by omega);have c1:ck (1+x)=some (vi (1+x)):=jE (by omega) (by omega);have key:GD code 7 13 a1 (qw (vi (1+x)) (jZ code) (vi a1) (vu s1)):=by
  by_cases y0:x=0
  ·subst y0;obtain ⟨a2,s2,t,r1,r2,r3,e⟩:=jds hb (1+0) (by decide) a1 s1 (by omega) (by omega);exact ⟨a2,s2,t,r1,by omega,r3.le (by decide),e⟩
  by_cases y1:x=1
  ·subst y1;obtain ⟨a2,s2,t,r1,r2,r3,e⟩:=JV hb a1 s1 (by omega) (by omega);exact ⟨a2,s2,t,r1,by omega,r3.le (by decide),e⟩
  ·have:x=2:=by omega
   subst this;exact jle hb a1 s1 (by omega) (by omega)
 obtain ⟨a2,s2,t,r1,r2,r3,e2⟩:=key;refine ⟨a2,s2,t,by omega,by omega,r3,?_⟩;rw [jq4];simp only [jf,e1,c1,e2,List.getElem?_cons_zero,List.getElem?_cons_succ,zJ]
theorem jm3 (a s:Int) (h0:0<=a) (h1:a<=999990000):AD code 40 a (jmK (jZ code) (vi a) (vu s)):=by
 obtain ⟨a1,s1,x,q1,q2,x0,x1,e1⟩:=zN hb 8 (by decide) (by decide) a s h0 (by omega);obtain ⟨a2,s2,t2,r1,r2,r3,e2⟩:=jhF hb a1 s1 (by omega) (by omega);obtain ⟨a3,s3,t3,u1,u2,u3,e3⟩:=jhF hb a2 s2 (by omega) (by omega);obtain ⟨a4,s4,t4,v1,v2,v3,e4⟩:=JV hb a1 s1 (by omega) (by omega);obtain ⟨a5,s5,t5,w1,w2,w3,e5⟩:=JV hb a4 s4 (by omega) (by omega);have v3:=v3.le (N:=7) (by decide);have w3:=w3.le (N:=7) (by decide);rw [jtQ];by_cases y0:x=0
 ·subst y0;refine ⟨a3,s3,.mk [61] [t2,t3],by omega,by omega,GT.two (Or.inl rfl) r3 u3,?_⟩;simp only [jf,e1,e2,e3,List.getElem?_cons_zero,List.getElem?_cons_succ,zJ];rw [<-ji9];rfl
 by_cases y1:x=1
 ·subst y1;refine ⟨a3,s3,.mk [61] [t2,t3],by omega,by omega,GT.two (Or.inl rfl) r3 u3,?_⟩;simp only [jf,e1,e2,e3,List.getElem?_cons_zero,List.getElem?_cons_succ,zJ];rw [<-ji9];rfl
 by_cases y2:x=2
 ·subst y2;refine ⟨a1,s1,.mk [114] [],by omega,by omega,⟨Or.inr ⟨by decide,by decide⟩,by decide,by decide⟩,?_⟩;simp only [jf,e1,List.getElem?_cons_zero,List.getElem?_cons_succ,zJ];rfl
 by_cases y3:x=3
 ·subst y3;refine ⟨a5,s5,.mk [113] [t4,t5],by omega,by omega,GT.two (Or.inr (by decide)) v3 w3,?_⟩;simp only [jf,e1,e4,e5,List.getElem?_cons_zero,List.getElem?_cons_succ,zJ];rw [<-ji9];rfl
 by_cases y4:x=4
 ·subst y4;refine ⟨a5,s5,.mk [113] [t4,t5],by omega,by omega,GT.two (Or.inr (by decide)) v3 w3,?_⟩;simp only [jf,e1,e4,e5,List.getElem?_cons_zero,List.getElem?_cons_succ,zJ];rw [<-ji9];rfl
 ·refine ⟨a4,s4,.mk [112] [t4],by omega,by omega,GT.one (by decide) v3,?_⟩;simp only [jf,e1,y0,y1,y2,y3,y4,e4,List.getElem?_cons_zero,List.getElem?_cons_succ,zJ];rw [<-jqM];rfl
theorem jb1 (a s:Int) (h0:0<=a) (h1:a<=999980000):LtD code 41 a (jjj (jZ code) (vi a) (vu s)):=by
 obtain ⟨a1,s1,b,q1,q2,e1⟩:=qp hb 2 (by decide) (by decide) a s h0 (by omega);obtain ⟨a2,s2,t,r1,r2,r3,e2⟩:=jm3 hb a1 s1 (by omega) (by omega);refine ⟨a2,s2,(b,t),by omega,by omega,r3,?_⟩;rw [jtL];simp only [jf,e1,e2,List.getElem?_cons_zero,List.getElem?_cons_succ,zJ]
end
theorem YE (ls:List Lt) (l:Lt):km (ls.map jy) [jy l]=(ls++[l]).map jy:=by rw [List.map_append];rfl
def LsD (code:List Int) (m q:Nat) (a:Int) (o:Option Out):Prop:=∃a' s' ls,a<=a'/\a'<=a+(q:Nat)/\List.length ls<=m/\(∀l∈ls,LV l)/\o=some (.top,[jZ code,vi a',vu s',.sl 3 (List.map jy ls)])
section
variable {code:List Int} (hb:By code)
include hb
theorem jlw:∀(k:Nat) (ls:List Lt),ls.length+k<=10->(∀l∈ls,LV l)-> ∀a s:Int,0<=a->a<=999970000 - 41 * (k:Nat)->LsD code (ls.length+k+1) (41 * k+2) a (Zr (vi (k:Nat)) (jZ code) (vi a) (vu s) (ls.map jy)):=by
 intro k;induction k with
 | zero=>
  intro ls hl hls a s h0 h1;have hgt:¬(0:Int) < ((0:Nat):Int):=by decide
  by_cases hp:0 < ls.length
  ·have hp':(0:Int) < ((ls.length:Nat):Int):=by omega
   obtain ⟨a1,s1,b,q1,q2,e1⟩:=qp hb 8 (by decide) (by decide) a s h0 (by omega);cases b with
   | false=>
    refine ⟨a1,s1,ls,q1,by omega,by omega,hls,?_⟩;rw [jaY];simp only [jf,hgt,hp',e1,List.getElem?_cons_zero,List.getElem?_cons_succ]
   | true=>
    obtain ⟨a2,s2,x,r1,r2,x0,x1,e2⟩:=zN hb ((ls.length:Nat):Int) (by omega) (by omega) a1 s1 (by omega) (by omega);obtain ⟨i,rfl⟩:∃i:Nat,x=(i:Nat):=⟨x.toNat,by omega⟩;have hi:i < ls.length:=by omega
    have i1:KE ls.length (vi ((i:Nat):Int))=some i:=ze hi;have i2:=Qh hi;have hv:=hls _ (List.getElem_mem hi);generalize ls[i]=y at i2 hv;have o1:=QH y.2 (by have:=hv.tsz;omega);have o1:G 41 [.agg [sv y.2.name,j6 y.2.args]]=some (.agg [sv y.2.name,j6 y.2.args],[]):=o1;have f1:jJ (ls.length+1) 48=true:=jaI (by omega);refine ⟨a2,s2,ls++[(!y.1,y.2)],by omega,by omega,by rw [List.length_append,List.length_singleton];omega,λl h=> ?_,?_⟩
    ·rcases List.mem_append.1 h with h|h
     ·exact hls l h
     ·rw [List.mem_singleton.1 h];exact hv
    rw [<-YE];rw [jaY];have i2:zB (ls.map jy) i 0 3=some (.agg [vb y.1,sv y.2.name,j6 y.2.args]):=i2;have rl:jw (ls.map jy)=ls.length:=by unfold jw;exact List.length_map ..
    simp only [jf,hgt,hp',e1,e2,i1,i2,o1,List.getElem?_cons_zero,List.getElem?_cons_succ];generalize hB:kJ _ _ _=B;have hB':B=some (.agg [vb (!y.1),sv y.2.name,j6 y.2.args]):=by rw [<-hB];kernel_rfl
    rw [hB'];simp only [jf,f1]
  ·have hp':¬(0:Int) < ((ls.length:Nat):Int):=by omega
   refine ⟨a,s,ls,by omega,by omega,by omega,hls,?_⟩;rw [jaY];simp only [jf,hgt,hp',List.getElem?_cons_zero,List.getElem?_cons_succ]
 | succ k ih=>
  intro ls hl hls a s h0 h1;have hgt:(0:Int) < ((k+1:Nat):Int):=by omega
  have c1:ck (((k+1:Nat):Int) - 1)=some (vi (k:Nat)):=by rw [show ((k+1:Nat):Int) - 1=(k:Nat) by omega];exact jE (by omega) (by omega)
  obtain ⟨a1,s1,l,q1,q2,hv,e1⟩:=jb1 hb a s h0 (by omega);have f1:jJ (ls.length+1) 48=true:=jaI (by omega);obtain ⟨a2,s2,us,r1,r2,r3,r4,e2⟩:=ih (ls++[l]) (by rw [List.length_append,List.length_singleton];omega) (λy h=>by
   rcases List.mem_append.1 h with h|h
   ·exact hls y h
   ·rw [List.mem_singleton.1 h];exact hv) a1 s1 (by omega) (by omega)
  rw [<-YE] at e2;rw [List.length_append,List.length_singleton] at r3;refine ⟨a2,s2,us,by omega,by omega,by omega,r4,?_⟩;rw [jaY];have e2:Zr (vi (k:Nat)) (jZ code) (vi a1) (vu s1) (km (ls.map jy) [[vb l.1,sv l.2.name,j6 l.2.args]])=_:=e2;simp only [jf,hgt,e1,f1,c1,e2,List.getElem?_cons_zero,List.getElem?_cons_succ,jpX]
theorem jag (m:Nat) (hm:m<=9) (a s:Int) (h0:0<=a) (h1:a<=999960000):LsD code (m+1) 500 a (jdc (vi (m:Nat)) (jZ code) (vi a) (vu s)):=by
 have c1:ck (((m:Nat):Int)+1)=some (vi ((m:Nat)+1)):=jE (by omega) (by omega);obtain ⟨a1,s1,x,q1,q2,x0,x1,e1⟩:=zN hb (((m:Nat):Int)+1) (by omega) (by omega) a s h0 (by omega);obtain ⟨k,rfl⟩:∃k:Nat,x=(k:Nat):=⟨x.toNat,by omega⟩;obtain ⟨a2,s2,ls,r1,r2,r3,r4,e2⟩:=jlw hb k [] (by rw [List.length_nil];omega) (λl h=>by cases h) a1 s1 (by omega) (by omega);rw [List.length_nil] at r3;refine ⟨a2,s2,ls,by omega,by omega,by omega,r4,?_⟩;have e2:Zr (vi (k:Nat)) (jZ code) (vi a1) (vu s1) []=_:=e2;rw [jtD];simp only [jf,c1,e1,e2,List.getElem?_cons_zero,List.getElem?_cons_succ]
end
inductive Hgt (s:jk):Nat->Eqs->Prop
 | nil (r:Nat):Hgt s r []
 | blk (r τ δ:Nat) (b es:Eqs):9 * τ+(8 - δ) < r->τ<=s.length+1->δ<=8->b.length<=4->(τ=s.length+1-> ∀p∈b,sub s p.1=p.1/\sub s p.2=p.2/\qn p.1<=δ/\qn p.2<=δ)->Hgt s (9 * τ+(8 - δ)) es->Hgt s r (b++es)
theorem Hgt.len {s:jk} {r:Nat} {es:Eqs} (h:Hgt s r es):es.length<=4 * r:=by
 induction h with
 | nil r=>exact Nat.zero_le _
 | blk r τ δ b es h1 _ _ h4 _ _ ih=>rw [List.length_append];omega
theorem Hgt.mono {s:jk} {r r':Nat} {es:Eqs} (h:Hgt s r es) (hr:r<=r'):Hgt s r' es:=by
 induction h with
 | nil=>exact Hgt.nil _
 | blk r τ δ b es h1 h2 h3 h4 h5 h6 _=>exact Hgt.blk r' τ δ b es (by omega) h2 h3 h4 h5 h6
abbrev ec (p:T × T):List A:=[sv p.1.name,j6 p.1.args,sv p.2.name,j6 p.2.args]
def lsz:j7->Nat
 | []=>0
 | l::c=>tsz l.2+lsz c
def csz (c:j7):Nat:=c.length+lsz c
def jt1:List j7->Nat
 | []=>0
 | c::l=>csz c+jt1 l
def ssz (s:Stp):Nat:=s.par.length+s.whr.length+csz s.cls
def juR:List Stp->Nat
 | []=>0
 | s::l=>ssz s+juR l
def psz (p:Prf):Nat:=(p.ax.length+jt1 p.ax)+(p.st.length+juR p.st)
def jwS (s:Sch):Nat:=psz s.prf+s.act.length+s.pas.length
def LN (l:j7):Prop:=l.length<=40/\ ∀x∈l,Bx x.2/\nodes x.2<=100
theorem LN.app {s:jk} (hs:kC s=true) {l:j7} (h:LN l):∀x∈l.map (λx=>(x.1,Go.Proofs.YtdbgbieenhcldaaGreat.sub s x.2)),Bx x.2/\Tz x.2:=λx hx=>by
 obtain ⟨y,hy,rfl⟩:=List.mem_map.1 hx;have hb:=(h.2 y hy).1;exact ⟨hb.sub hs,AxT.sub_tz hs hb.ax (by have:=(h.2 y hy).2;omega)⟩
theorem jm0 (s:jk) (hs:kC s=true) (l:j7) (h:LN l):G 29 [sb s,.sl 3 (l.map jy)]=jiM (jbp s l):=by
 have hl:=h.1;have happ:=h.app hs;have e1:=jf5 (l.map λx=>(x.1,sub s x.2)) (by rw [List.length_map];omega) (λx hx=>(happ x hx).1.rx) λx hx=>(happ x hx).2;have e2:=jgp (kz cmpL (l.map λx=>(x.1,sub s x.2))) (by have:=J1 cmpL (l.map λx=>(x.1,sub s x.2));rw [List.length_map] at this;omega) λx hx=>(happ x (qP.1 hx)).2;generalize hd:l.map (λx=>(x.1,sub s x.2))=d at *;have hdl:d.length=l.length:=by rw [<-hd,List.length_map]
 have key:=upto (P:=λi=>jjy (.sl 3 (l.map jy)) (vi (l.length:Nat)) (vi (i:Nat)) (sbs s) ((d.take i).map jy) []=jiM (if ((l.drop i).all λx=>ko (sub s x.2)) && jM (kz cmpL d) then some (kz cmpL d) else none)) (n:=l.length) ?_ ?_ 0 (Nat.zero_le _)
 ·simp only [Int.natCast_zero,List.take_zero,List.map_nil,List.drop_zero] at key;unfold jbp;rw [hd,<-key,g29];simp only [jf]
 ·rw [jrq,<-hdl,List.take_length,hdl,List.drop_length,List.all_nil,Bool.true_and];rw [<-hdl];cases hv:jM (kz cmpL d)<;>rw [hv] at e2
  ·rw [if_neg Bool.false_ne_true] at e2 ⊢;have e2:G 57 [cm (kz cmpL d)]=some (.tup [cz,vb false],[]):=e2;simp only [jf,e1,e2];rfl
  ·rw [if_pos rfl] at e2 ⊢;have e2:G 57 [cm (kz cmpL d)]=some (.tup [cm (kz cmpL d),vb true],[]):=e2;simp only [jf,e1,e2];rfl
 ·intro i hi ih;have hi2:i < d.length:=by omega
  have hlt:(i:Int) < ((l.length:Nat):Int):=by omega
  have h5:=jz hi (by show l.length<=9223372036854775807;omega)
  have hb:=h.2 _ (List.getElem_mem hi);have e3:=jfT s hs l[i].2 hb.1.ax (by omega);have hdi:d[i]=(l[i].1,sub s l[i].2):=by simp only [<-hd,List.getElem_map]
  have ta:=jcN (f:=jy) hi2;have tl:=take_len (f:=jy) (Nat.le_of_lt hi2);have hf:jJ (i+1) 48=true:=jaI (by omega);rw [hdi] at ta;rw [jrq,jl hi,List.all_cons];cases hsm:ko (sub s l[i].2)<;>rw [hsm] at e3
  ·rw [Bool.false_and,Bool.false_and,if_neg Bool.false_ne_true];have e3:G 56 [sb s,tm l[i].2]=some (.tup [.agg [sv [],.sl 2 []],vb false],[]):=e3;simp only [jf,hlt,jb hi,yg,e3];rfl
  ·rw [Bool.true_and];have e3:G 56 [sb s,tm l[i].2]=some (.tup [tm (sub s l[i].2),vb true],[]):=e3;generalize (d.take i).map jy=R at *;generalize sub s l[i].2=u at *;rw [<-ih];simp only [jf,hlt,jb hi,yg,e3,tl,hf,ta,h5]
def jwX (f g:FuncId) (args:List A):Prop:=∃r:Option j7,G f args=jiM r/\G g args=jiM r/\ ∀x,r=some x->ja2 x=true
def jxZ (c:j7) (i:Int):Bool:=Kz 0 (((c.length:Nat):Int) - 1) i
theorem LN.erase {c:j7} (h:CN c) (i:Nat):LN (c.eraseIdx i):=⟨by have:=List.length_eraseIdx_le c i;have:=h.1;omega,λx hx=>by
 have:=h.2 x (List.mem_of_mem_eraseIdx hx);exact ⟨this.1,by omega⟩⟩
noncomputable def rwL (rs:List T):j7->Option j7
 | []=>some []
 | x::r=>(match rwN rs false 51 0 x.2 with
  | none=>none
  | some q=>(rwL rs r).map ((x.1,q.1)::·))
noncomputable def jw6 (rs:List T) (R:j7) (l:j7):Option j7:=(rwL rs l).bind λr=>jwj [] (R++r)
def jwp (ps:List j7) (f g:FuncId) (args:List A):Prop:=∃r:Option j7,G f args=jiM r/\G g args=jiM r/\ ∀x,r=some x->ja2 x=true/\Sd ps x
def Cz (c:j7):Prop:=c.length<=1048576/\ ∀l∈c,Tz l.2
noncomputable def wfP (p:Prf):Bool:=decide (p.ax.length<=30) && p.ax.all ja2 && decide (p.st.length<=60)
noncomputable def jwa (out:List j7) (r:j7):Bool:=out.any λx=>dq x r
noncomputable def jvx (out:List j7) (r:j7):List j7:=if jwa out r then out else out++[r]
noncomputable def juZ:List j7->List j7->List j7
 | out,[]=>out
 | out,r::l=>juZ (jvx out r) l
def juH (R:Nat->Option j7):Nat->Nat->List j7
 | 0,_=>[]
 | j+1,k=>(R k).toList++juH R j (k+1)
def juJ (R:Nat->Nat->Option j7) (m:Nat):Nat->Nat->List j7
 | 0,_=>[]
 | j+1,i=>juH (R i) m 0++juJ R m j (i+1)
theorem CN.cz {c:j7} (h:CN c):Cz c:=⟨by have:=h.1;omega,h.tz⟩
theorem jeS (l:List Lt) (hl:l.length<=1000) (hz:∀x∈l,Tz x.2) (i:Nat) (hi:i < l.length) (u:List Lt) (hu:u.length<=1000) (hzu:∀x∈u,Tz x.2):∀k,k<=u.length->(∀j,(h:j < k)-> ∀h':j < u.length,cmpL u[j] l[i] < 0)->
  jaN (vi (i:Nat)) (vi (k:Nat)) (l.map jy) (u.map jy) []=Zs (vi ((i+1:Nat):Int)) (l.map jy) ((qo cmpL u l[i]).map jy) []:=by
 have xi:KE l.length (vi (i:Nat))=some i:=ze hi;have ri:=Qh hi;have rp:yE (l.map jy) i 0=some (vb l[i].1):=by unfold yE;simp [hi,jy]
 have rn:zB (l.map jy) i 1 2=some (tm l[i].2):=by unfold zB;simp [hi,jy]
 have e2:=QH l[i].2 (hz _ (List.getElem_mem _));have hck:ck ((i:Int)+1)=some (vi ((i+1:Nat):Int)):=jE (by omega) (by omega);refine upto ?_ ?_
 ·intro hall;obtain ⟨t1,t2⟩:=jkO (p:=λa=>decide (cmpL a l[i] < 0)) (Nat.le_refl u.length) (λj h h'=>decide_eq_true (hall j h h')) (Or.inr rfl);obtain ⟨k1,k2,k3,k4,k5,k6,k7,k8,k9⟩:=jaX u (by omega) u.length (Nat.le_refl _) l[i];have hins:qo cmpL u l[i]=u.take u.length++l[i]::u.drop u.length:=by
   unfold qo;rw [t1,t2,List.drop_length,if_neg (by simp)]
  have nlt:¬((u.length:Nat):Int) < ((u.length:Nat):Int):=by omega
  rw [hins,jkf];simp only [jf,nlt,xi,ri,rp,rn,e2];generalize hB:kJ _ _ _=B;have hB':B=some (ltm l[i]):=by rw [<-hB];kernel_rfl
  rw [hB'];simp only [jf,k1,k2,k4,k5];rw [if_pos k3,if_pos k7,k6,if_pos k8,hck,Option.bind_some,k9]
 ·intro k hk ih hall;have hlt:((k:Nat):Int) < ((u.length:Nat):Int):=by omega
  have x1:KE u.length (vi (k:Nat))=some k:=ze hk;have r1:=Qh hk;have e1:=JE u[k] l[i] (hzu _ (List.getElem_mem _)) (hz _ (List.getElem_mem _));rw [jkf];by_cases hc:cmpL u[k] l[i] < 0
  ·have ih:=ih λj h h'=>by
    by_cases hj:j=k
    ·subst hj;exact hc
    ·exact hall j (by omega) h'
   have hk1:ck ((k:Int)+1)=some (vi ((k+1:Nat):Int)):=jE (by omega) (by omega);generalize cmpL u[k] l[i]=d at *;simp only [jf,hlt,x1,r1,xi,ri,e1,hc,hk1];exact ih
  ·obtain ⟨t1,t2⟩:=jkO (p:=λa=>decide (cmpL a l[i] < 0)) (Nat.le_of_lt hk) (λj h h'=>decide_eq_true (hall j h h')) (Or.inl ⟨hk,decide_eq_false hc⟩);have hins:qo cmpL u l[i]=if cmpL u[k] l[i]=0 then u else u.take k++l[i]::u.drop k:=by
    unfold qo;rw [t1,t2,jl hk];by_cases h0:cmpL u[k] l[i]=0
    ·rw [if_pos h0];exact if_pos (decide_eq_true h0)
    ·rw [if_neg h0];exact if_neg (λe=>h0 (of_decide_eq_true e))
   rw [hins];by_cases h0:cmpL u[k] l[i]=0
   ·rw [if_pos h0];rw [h0] at e1;simp only [jf,hlt,x1,r1,xi,ri,e1,hck]
   ·obtain ⟨k1,k2,k3,k4,k5,k6,k7,k8,k9⟩:=jaX u (by omega) k (Nat.le_of_lt hk) l[i];rw [if_neg h0];generalize cmpL u[k] l[i]=d at *;simp only [jf,hlt,x1,r1,xi,ri,e1,hc,h0,rp,rn,e2];generalize hB:kJ _ _ _=B;have hB':B=some (ltm l[i]):=by rw [<-hB];kernel_rfl
    rw [hB'];simp only [jf,k1,k2,k4,k5];rw [if_pos k3,if_pos k7,k6,if_pos k8,hck,Option.bind_some,k9]
theorem jiE (l:List Lt) (hl:l.length<=900) (hz:∀x∈l,Tz x.2):jmF (l.map jy)=some (.top,[.sl 3 ((kz cmpL l).map jy)]):=by
 have key:=upto (P:=λi=>∀u:List Lt,Asc cmpL u->u.length<=i->(∀x∈u,Tz x.2)->Zs (vi (i:Nat)) (l.map jy) (u.map jy) []=some (.top,[.sl 3 (((l.drop i).foldl (qo cmpL) u).map jy)])) (n:=l.length) ?_ ?_ 0 (Nat.zero_le _) [] List.Pairwise.nil (Nat.le_refl _) (λx h=>by cases h)
 ·rw [List.drop_zero] at key;simp only [Int.natCast_zero,List.map_nil] at key;rw [jtI,key];rfl
 ·intro u _ _ _;have nlt:¬((l.length:Nat):Int) < ((l.length:Nat):Int):=by omega
  rw [jke,List.drop_length];simp only [jf,nlt];rfl
 ·intro i hi ih u ha hu hzu;have hlt:(i:Int) < ((l.length:Nat):Int):=by omega
  have:=jeS l (by omega) hz i hi u (by omega) hzu 0 (Nat.zero_le _) (λj h=>absurd h (Nat.not_lt_zero _));simp only [Int.natCast_zero] at this;have h2:=ih (qo cmpL u l[i]) (YZ z7 ha l[i]).1 (by have:=jbL cmpL u l[i];omega) λx hx=>by
   rcases (jgq ha l[i]).1 hx with h|h
   ·exact hzu x h
   ·rw [h];exact hz _ (List.getElem_mem _)
  rw [jke,jl hi,List.foldl_cons];simp only [jf,hlt,this,h2]
def Cq (c:j7):Prop:=c.length<=12/\ ∀l∈c,tsz l.2<=1000
theorem Cq.cz {c:j7} (h:Cq c):Cz c:=⟨by have:=h.1;omega,λl hl=>by have:=h.2 l hl;unfold Tz;omega⟩
theorem jsn {c:j7} (h:CN c):∀l∈c,tsz l.2<=300:=λl hl=>by have:=(h.2 l hl).1.tsz;have:=(h.2 l hl).2;omega
theorem CN.cq {c:j7} (h:CN c):Cq c:=⟨by have:=h.1;omega,λl hl=>by have:=jsn h l hl;omega⟩
def RwD (code:List Int) (q:Nat) (a:Int) (o:Option Out):Prop:=∃a' s' c,a<=a'/\a'<=a+(q:Nat)/\(List.length c<=5/\Asc cmpL c/\ ∀l∈c,LV l)/\o=some (.top,[jZ code,vi a',vu s',.sl 3 (List.map jy c)])
def CqD (code:List Int) (q:Nat) (a:Int) (o:Option Out):Prop:=∃a' s' c,a<=a'/\a'<=a+(q:Nat)/\Cq c/\o=some (.top,[jZ code,vi a',vu s',cm c])
def CqN (code:List Int) (q:Nat) (a:Int) (o:Option Out):Prop:=∃a' s' c,a<=a'/\a'<=a+(q:Nat)/\(List.length c<=12/\ ∀l∈c,tsz (Prod.snd l)<=1000/\K0 (Prod.snd l)=true)/\o=some (.top,[jZ code,vi a',vu s',cm c])
theorem CqN.cq {code:List Int} {q:Nat} {a:Int} {o:Option Out} (h:CqN code q a o):CqD code q a o:=by
 obtain ⟨a',s',c,h1,h2,h3,h4⟩:=h;exact ⟨a',s',c,h1,h2,⟨h3.1,λl hl=>(h3.2 l hl).1⟩,h4⟩
def CnD (code:List Int) (q:Nat) (a:Int) (o:Option Out):Prop:=∃a' s' c,a<=a'/\a'<=a+(q:Nat)/\CN c/\o=some (.top,[jZ code,vi a',vu s',cm c])
theorem ZV (a x0 x1 x2:A) (xs:List (List A)) (l:List A):hR 3 (a,x0::x1::x2:: .sl 3 xs::l) 3=some xs:=by simp [hR]
section
variable {code:List Int} (hb:By code)
include hb
theorem jbv (a s:Int) (h0:0<=a) (h1:a<=999950000):RwD code 500 a (jjh (jZ code) (vi a) (vu s)):=by
 obtain ⟨a1,s1,ls,q1,q2,hl,hv,e1⟩:=jag hb 4 (by decide) a s h0 (by omega);have e1:jdc (vi 4) (jZ code) (vi a) (vu s)=_:=e1;have e2:=jiE ls (by omega) (λx hx=>(hv x hx).tz);have hm:=J1 cmpL ls;refine ⟨a1,s1,kz cmpL ls,q1,q2,⟨by omega,(Zz z7 ls).1,λl h=>hv l (qP.1 h)⟩,?_⟩;rw [jtE];simp only [jf,e1,ZV,e2,List.getElem?_cons_zero,List.getElem?_cons_succ]
theorem jbo (a s:Int) (h0:0<=a) (h1:a<=999950000):∃a' s' l,a<=a'/\a'<=a+1300/\(tsz (Prod.snd l)<=1000/\K0 (Prod.snd l)=true)/\jji (jZ code) (vi a) (vu s)=some (.top,[jZ code,vi a',vu s',ltm l]):=by
 obtain ⟨a1,s1,l,q1,q2,hv,e1⟩:=jb1 hb a s h0 (by omega);obtain ⟨a2,s2,x,r1,r2,x0,x1,e2⟩:=zN hb 16 (by decide) (by decide) a1 s1 (by omega) (by omega);have hz:=hv.tsz;rw [jtG];by_cases y0:x=0
 ·subst y0;obtain ⟨a3,s3,t3,u1,u2,u3,e3⟩:=jh6 hb a2 s2 (by omega) (by omega);refine ⟨a3,s3,(l.1,t3),by omega,by omega,u3,?_⟩;simp only [jf,e1,e2,e3,List.getElem?_cons_zero,List.getElem?_cons_succ,jpX]
 by_cases y1:x=1
 ·subst y1;obtain ⟨a3,s3,t3,u1,u2,u3,e3⟩:=ZG hb a2 s2 (by omega) (by omega);have hargs:l.2.args.length<=1000:=by have:=jY l.2;omega
  have hf:jJ (l.2.args.length+1) 40=true:=joh (by omega);have hsz:∀us:List T,zu (us++[t3])=zu us+tsz t3:=by
   intro us;induction us with
   | nil=>simp [zu]
   | cons u us ih=>simp only [List.cons_append,zu];omega
  have hq:=jY l.2;refine ⟨a3,s3,(l.1,.mk l.2.name (l.2.args++[t3])),by omega,by omega,⟨by show tsz (.mk _ _)<=1000;rw [yH,hsz,List.length_append,List.length_singleton];omega,jgO (nmN hv.2.2) (by rw [jcc,nmA hv.2.2,qG,u3.2];rfl)⟩,?_⟩;simp only [jf,e1,e2,e3,hf,List.length_map,List.getElem?_cons_zero,List.getElem?_cons_succ,jpX,zJ];show _=some (A.top,[jZ code,vi a3,vu s3,A.agg [vb l.1,sv l.2.name,.sl 2 ((l.2.args++[t3]).map jx)]]);rw [List.map_append,List.map_cons,ku t3];rfl
 ·refine ⟨a2,s2,l,by omega,by omega,⟨by omega,hv.2.2⟩,?_⟩;simp only [jf,e1,e2,y0,y1,List.getElem?_cons_zero,List.getElem?_cons_succ,jpX]
theorem jiG:∀(k i:Nat),i+k=9-> ∀(c:j7),c.length=i->(∀l∈c,tsz l.2<=1000/\K0 l.2=true)-> ∀a s:Int,0<=a->a<=999980000 - 10 * (k:Nat)->CqN code (2 * k+2) a (Zq (vi (i:Nat)) (jZ code) (vi a) (vu s) (c.map jy) []):=by
 intro k;induction k with
 | zero=>
  intro i hi c hc hz a s h0 h1;obtain ⟨a1,s1,x,q1,q2,x0,x1,e1⟩:=zN hb 2 (by decide) (by decide) a s h0 (by omega);have c1:ck (8+x)=some (vi (8+x)):=jE (by omega) (by omega);have nlt:¬((i:Nat):Int) < 8+x:=by omega
  refine ⟨a1,s1,c,q1,by omega,⟨by omega,hz⟩,?_⟩;rw [jeL];simp only [jf,e1,c1,nlt,List.getElem?_cons_zero,List.getElem?_cons_succ]
 | succ k ih=>
  intro i hi c hc hz a s h0 h1;obtain ⟨a1,s1,x,q1,q2,x0,x1,e1⟩:=zN hb 2 (by decide) (by decide) a s h0 (by omega);have c1:ck (8+x)=some (vi (8+x)):=jE (by omega) (by omega);by_cases hlt:((i:Nat):Int) < 8+x
  ·have n1:=jnL i (by omega);have hd:=(qA 6 i (by omega)).2;have a2:js .add false (sv [112]) (sv (Lib.decDigits i))=some (sv ([112]++Lib.decDigits i)):=by rw [QI,if_pos (by simp only [List.length_cons,List.length_nil];omega)]
   obtain ⟨a3,s3,w,hw,r1,r2,e3⟩:=ja0 hb [[88],[89]] (by decide) (by decide) (by decide) a1 s1 (by omega) (by omega);have e3:qT (jZ code) (vi a1) (vu s1) [[sv [88]],[sv [89]]]=some (.top,[jZ code,vi a3,vu s3,sv w]):=e3;have f1:jJ (c.length+1) 48=true:=jaI (by omega);have c5:ck ((i:Int)+1)=some (vi ((i+1:Nat):Int)):=jE (by omega) (by omega);obtain ⟨a4,s4,c',v1,v2,v3,e4⟩:=ih (i+1) (by omega) (c++[(true,.mk ([112]++Lib.decDigits i) [.mk w []])]) (by rw [List.length_append,List.length_singleton];omega) (λl h=>by
    rcases List.mem_append.1 h with h|h
    ·exact hz l h
    ·rw [List.mem_singleton.1 h];refine ⟨?_,nm1 rfl (nm0 hw.2)⟩;show tsz (.mk _ _)<=1000;rw [yH];simp only [List.length_append,List.length_cons,List.length_nil,zu,yH];omega) a3 s3 (by omega) (by omega)
   refine ⟨a4,s4,c',by omega,by omega,v3,?_⟩;rw [<-YE] at e4;have e4:Zq (vi ((i+1:Nat):Int)) (jZ code) (vi a3) (vu s3) (km (c.map jy) [[vb true,sv ([112]++Lib.decDigits i),.sl 2 [[sv w,.sl 2 []]]]]) []=_:=e4;rw [jeL];generalize [112]++Lib.decDigits i=nm at *;simp only [jf,e1,c1,hlt,n1,a2,e3,f1,c5,e4,List.getElem?_cons_zero,List.getElem?_cons_succ]
  ·refine ⟨a1,s1,c,q1,by omega,⟨by omega,hz⟩,?_⟩;rw [jeL];simp only [jf,e1,c1,hlt,List.getElem?_cons_zero,List.getElem?_cons_succ]
theorem ZP (a s:Int) (h0:0<=a) (h1:a<=999940000):CqN code 2000 a (jfA (jZ code) (vi a) (vu s)):=by
 obtain ⟨a1,s1,c,q1,q2,⟨hl,ha,hv⟩,e1⟩:=jbv hb a s h0 (by omega);obtain ⟨a2,s2,x,r1,r2,x0,x1,e2⟩:=zN hb 20 (by decide) (by decide) a1 s1 (by omega) (by omega);have hz:∀l∈c,tsz l.2<=1000/\K0 l.2=true:=λl h=>⟨by have:=(hv l h).tsz;omega,(hv l h).2.2⟩;have hq:List.length c<=12/\ ∀l∈c,tsz (Prod.snd l)<=1000/\K0 (Prod.snd l)=true:=⟨by omega,hz⟩;have f1:jJ (c.length+1) 48=true:=jaI (by omega);rw [jtA];by_cases y0:x=0
 ·subst y0;obtain ⟨a3,s3,l,u1,u2,u3,e3⟩:=jbo hb a2 s2 (by omega) (by omega);refine ⟨a3,s3,c++[l],by omega,by omega,⟨by rw [List.length_append,List.length_singleton];omega,λy h=>by
   rcases List.mem_append.1 h with h|h
   ·exact hz y h
   ·rw [List.mem_singleton.1 h];exact u3⟩,?_⟩
  have e3:jji (jZ code) (vi a2) (vu s2)=some (.top,[jZ code,vi a3,vu s3,.agg [vb l.1,sv l.2.name,j6 l.2.args]]):=e3;show _=some (A.top,[jZ code,vi a3,vu s3,.agg [.sl 3 ((c++[l]).map jy)]]);rw [<-YE];simp only [jf,e1,e2,e3,ZV,f1,List.getElem?_cons_zero,List.getElem?_cons_succ]
 by_cases y1:x=1
 ·subst y1;by_cases hg:(1:Int) < ((c.length:Nat):Int)
  ·obtain ⟨l0,l1,r,rfl⟩:∃l0 l1 r,c=l0::l1::r:=by
    match c,hg with
    | l0::l1::r,_=>exact ⟨l0,l1,r,rfl⟩
    | [],h=>simp at h
    | [x],h=>simp at h
   refine ⟨a2,s2,l1::l0::r,by omega,by omega,⟨by simp only [List.length_cons] at hl ⊢;omega,λy h=>hz y (by
    simp only [List.mem_cons] at h ⊢;rcases h with h|h|h
    ·exact Or.inr (Or.inl h)
    ·exact Or.inl h
    ·exact Or.inr (Or.inr h))⟩,?_⟩
   have i0:KE ((l0::l1::r).map jy).length (vi 0)=some 0:=joj (f:=jy) (xs:=l0::l1::r) (i:=0) (by simp);have i1:KE ((l0::l1::r).map jy).length (vi 1)=some 1:=joj (f:=jy) (xs:=l0::l1::r) (i:=1) (by simp);have j1:KE ((l1::l1::r).map jy).length (vi 1)=some 1:=joj (f:=jy) (xs:=l1::l1::r) (i:=1) (by simp);have r0:zB ((l0::l1::r).map jy) 0 0 3=some (.agg [vb l0.1,sv l0.2.name,j6 l0.2.args]):=rfl;have r1:zB ((l0::l1::r).map jy) 1 0 3=some (.agg [vb l1.1,sv l1.2.name,j6 l1.2.args]):=rfl;have g0:jc9 ((l0::l1::r).map jy) 0=some (jy l0):=rfl;have s0:Jd ((l0::l1::r).map jy) 0 (Jr (jy l0) 0 [vb l1.1,sv l1.2.name,j6 l1.2.args])=(l1::l1::r).map jy:=rfl;have g1:jc9 ((l1::l1::r).map jy) 1=some (jy l1):=rfl;have s1':Jd ((l1::l1::r).map jy) 1 (Jr (jy l1) 0 [vb l0.1,sv l0.2.name,j6 l0.2.args])=(l1::l0::r).map jy:=rfl;have hg:(1:Int) < ((((l0::l1::r).map jy).length:Nat):Int):=by rw [List.length_map];exact hg
   have n0:js .eql false (vi 1) (vi 0)=some (vb false):=rfl;show _=some (A.top,[jZ code,vi a2,vu s2,.agg [.sl 3 ((l1::l0::r).map jy)]]);rw [<-s1'];generalize (l0::l1::r).map jy=X at *;generalize (l1::l1::r).map jy=Y at *;simp only [jf,e1,e2,y0,ZV,hg,i0,r0,i1,r1,g0,s0,j1,g1,List.getElem?_cons_zero,List.getElem?_cons_succ]
  ·refine ⟨a2,s2,c,by omega,by omega,hq,?_⟩;simp only [jf,e1,e2,y0,hg,ZV,List.getElem?_cons_zero,List.getElem?_cons_succ]
 by_cases y2:x=2
 ·subst y2;obtain ⟨a3,s3,c',u1,u2,u3,e3⟩:=jiG hb 9 0 (by decide) [] rfl (λl h=>by cases h) a2 s2 (by omega) (by omega);have e3:Zq (vi 0) (jZ code) (vi a2) (vu s2) [] []=_:=e3;refine ⟨a3,s3,c',by omega,by omega,u3,?_⟩;simp only [jf,e1,e2,y0,y1,e3,ZV,List.getElem?_cons_zero,List.getElem?_cons_succ]
 by_cases y3:x=3
 ·subst y3;by_cases hg:(0:Int) < ((c.length:Nat):Int)
  ·have hi:c.length - 1 < c.length:=by omega
   have c1:ck (((c.length:Nat):Int) - 1)=some (vi ((c.length - 1:Nat):Int)):=by rw [show ((c.length:Nat):Int) - 1=((c.length - 1:Nat):Int) by omega];exact jE (by omega) (by omega)
   have i1:KE c.length (vi ((c.length - 1:Nat):Int))=some (c.length - 1):=ze hi;have r1:=Qh hi;have hzl:=hz _ (List.getElem_mem hi);generalize c[c.length - 1]=l at r1 hzl;have r1:zB (c.map jy) (c.length - 1) 0 3=some (.agg [vb l.1,sv l.2.name,j6 l.2.args]):=r1;refine ⟨a2,s2,c++[l],by omega,by omega,⟨by rw [List.length_append,List.length_singleton];omega,λy h=>by
    rcases List.mem_append.1 h with h|h
    ·exact hz y h
    ·rw [List.mem_singleton.1 h];exact hzl⟩,?_⟩
   show _=some (A.top,[jZ code,vi a2,vu s2,.agg [.sl 3 ((c++[l]).map jy)]]);rw [<-YE];simp only [jf,e1,e2,y0,y1,y2,ZV,hg,c1,i1,r1,f1,List.getElem?_cons_zero,List.getElem?_cons_succ]
  ·refine ⟨a2,s2,c,by omega,by omega,hq,?_⟩;simp only [jf,e1,e2,y0,y1,y2,hg,ZV,List.getElem?_cons_zero,List.getElem?_cons_succ]
 ·refine ⟨a2,s2,c,by omega,by omega,hq,?_⟩;simp only [jf,e1,e2,y0,y1,y2,y3,ZV,List.getElem?_cons_zero,List.getElem?_cons_succ]
theorem jcY (a s:Int) (h0:0<=a) (h1:a<=999940000):CqD code 2000 a (jfA (jZ code) (vi a) (vu s)):=(ZP hb a s h0 h1).cq
end
noncomputable def ZL (code:List Int) (s:Int) (hs:1<=s):Mdl:=⟨kV code s,λn vs=>decide (jca code (126::n) vs % 2=1),λv=>0<=v/\v < s,QD s hs⟩
section
variable {code:List Int} (hb:By code)
include hb
theorem jje (s:Int) (hs:1<=s/\s<=10) (E:Env) (hEl:E.length<=4000000) (hE:∀x,0<=j5 E x/\j5 E x < s) (t:T) (ht:Tz t):G 53 [jZ code,vi s,ev E,tm t]=some (vb (zn (ZL code s hs.1) (j5 E) t),[]):=by
 have hz:=ht;unfold Tz at hz;rw [jY] at hz;have hv:∀v∈t.args.map (val (kV code s) (j5 E)),0<=v/\v<=10:=by
  intro v hv;obtain ⟨u,_,rfl⟩:=List.mem_map.1 hv;have:=jcS (good:=λv=>0<=v/\v < s) (M:=kV code s) (QD s hs.1) hE u;omega
 have key:=upto (P:=λi=>jfH (jZ code) (vi s) (vi (i:Nat)) (.sl 1 (E.map λp=>cs p.1)) (.sl 1 (E.map λp=>ci p.2)) (sv t.name) (j6 t.args) (((t.args.take i).map (val (kV code s) (j5 E))).map ci)=some (vb (zn (ZL code s hs.1) (j5 E) t),[])) (n:=t.args.length) ?_ ?_ 0 (Nat.zero_le _)
 ·rw [g53];exact key
 ·obtain ⟨m0,me⟩:=jkr hb (126::t.name) (by rw [List.length_cons];omega) _ hv (by rw [List.length_map];omega)
  have r:=jfa (x:=jca code (126::t.name) (t.args.map (val (kV code s) (j5 E)))) (n:=2) m0 (by decide);have sa:js .add false (sv [126]) (sv t.name)=some (sv (126::t.name)):=by rw [QI,if_pos (by simp;omega)];rfl
  have lt0:¬((t.args.length:Nat):Int) < ((t.args.length:Nat):Int):=by omega
  have hlen:(t.args.map (val (kV code s) (j5 E))).length=t.args.length:=List.length_map ..;rw [List.take_length,jrz];by_cases hn:t.name = [61]
  ·by_cases h2:t.args.length=2
   ·have ha:=jey h2;have hh:zn (ZL code s hs.1) (j5 E) t=decide (val (kV code s) (j5 E) (J0 t)=val (kV code s) (j5 E) (J5 t)):=by
     unfold zn;rw [if_pos ⟨hn,h2⟩];rfl
    rw [hh];have hm:(t.args.map (val (kV code s) (j5 E))).map ci = [[vi (val (kV code s) (j5 E) (J0 t))],[vi (val (kV code s) (j5 E) (J5 t))]]:=by rw [ha];rfl
    rw [hm];generalize val (kV code s) (j5 E) (J0 t)=x at *;generalize val (kV code s) (j5 E) (J5 t)=y at *;have p0:KE 2 (vi 0)=some 0:=rfl;have p1:KE 2 (vi 1)=some 1:=rfl;have q0:yE [[vi x],[vi y]] 0 0=some (vi x):=rfl;have q1:yE [[vi x],[vi y]] 1 0=some (vi y):=rfl;have hl2:([[vi x],[vi y]]:List (List A)).length=2:=rfl;have h22:((2:Nat):Int)=2:=rfl;generalize hR: [[vi x],[vi y]]=R at *;simp only [jf,lt0,hn,hl2,h22,p0,p1,q0,q1]
   ·have hh:zn (ZL code s hs.1) (j5 E) t=decide (jca code (126::t.name) (t.args.map (val (kV code s) (j5 E))) % 2=1):=by
     unfold zn;rw [if_neg (λh=>h2 h.2)];rfl
    have h2':¬((t.args.length:Nat):Int)=2:=by omega
    rw [hh];generalize t.args.map (val (kV code s) (j5 E))=vs at *;have hl:((vs.length:Nat):Int)=((t.args.length:Nat):Int):=by rw [hlen]
    rw [hn] at sa me r;simp only [jf,lt0,hn,hl,h2',sa,me,r]
  ·have hh:zn (ZL code s hs.1) (j5 E) t=decide (jca code (126::t.name) (t.args.map (val (kV code s) (j5 E))) % 2=1):=by
    unfold zn;rw [if_neg (λh=>hn h.1)];rfl
   rw [hh];generalize t.args.map (val (kV code s) (j5 E))=vs at *;simp only [jf,lt0,hn,sa,me,r]
 ·intro i hi ihi;have hlt:(i:Int) < ((t.args.length:Nat):Int):=by omega
  have h5:=jz hi (by show t.args.length<=9223372036854775807;omega)
  have e1:=jmo hb s hs E hEl hE t.args[i] (ht.args _ (List.getElem_mem hi));have f:jJ (i+1) 8=true:=jqn (by omega);have hmin:min i t.args.length=i:=by omega
  rw [List.take_succ_eq_append_getElem hi,List.map_append,List.map_append,show ([t.args[i]].map (val (kV code s) (j5 E))).map ci = [[vi (val (kV code s) (j5 E) t.args[i])]] from rfl] at ihi;rw [jrz];generalize val (kV code s) (j5 E) t.args[i]=v at *;have ihi:jfH (jZ code) (vi s) (vi ((i+1:Nat):Int)) (.sl 1 (E.map λp=>cs p.1)) (.sl 1 (E.map λp=>ci p.2)) (sv t.name) (j6 t.args) (km (((t.args.take i).map (val (kV code s) (j5 E))).map ci) [[vi v]])=_:=ihi;have hlen:(((t.args.take i).map (val (kV code s) (j5 E))).map ci).length=i:=by simp [hmin]
  generalize ((t.args.take i).map (val (kV code s) (j5 E))).map ci=R at *;have f2:jJ (R.length+1) 8=true:=by rw [hlen];exact f
  simp only [jf,hlt,jb hi,jg,e1,h5,f2,ihi]
end
def QX (l:List (List UInt8)) (c:j7):List (List UInt8):=c.foldl (λl x=>vn l x.2) l
theorem js7 {t:T} (hk:zt t=true) {l:List (List UInt8)} (hl:l.Nodup):(vn l t).Nodup/\(∀x∈l,x∈vn l t)/\ ∀x∈yd t,x∈vn l t:=by
 obtain ⟨a,_,b,c⟩:=joX (S:=l++yd t) t hk (λx hx=>List.mem_append_right _ hx) l hl (λx hx=>List.mem_append_left _ hx);exact ⟨a,b,c⟩
theorem jkU:∀ {ts:List T} {l:List (List UInt8)},(∀t∈ts,zt t=true)->l.Nodup->(vnL l ts).Nodup/\(∀x∈l,x∈vnL l ts)/\ ∀t∈ts,∀x∈yd t,x∈vnL l ts
 | [],l,_,hl=>⟨hl,λx h=>h,λt h=>by cases h⟩
 | t::ts,l,hk,hl=>by
  obtain ⟨a,b,c⟩:=js7 (hk t (List.mem_cons_self ..)) hl;obtain ⟨a',b',c'⟩:=jkU (ts:=ts) (λu hu=>hk u (List.mem_cons_of_mem _ hu)) a;refine ⟨a',λx hx=>b' x (b x hx),λu hu x hx=> ?_⟩;rcases List.mem_cons.1 hu with rfl|hu
  ·exact b' x (c x hx)
  ·exact c' u hu x hx
theorem jtz {t:T} (h:Bx t):upN t.name=false:=h.elim (λh=>by rw [h.1];decide) λh=>jbd h.1
theorem jqS {t:T} (h:Bx t) (l:List (List UInt8)):vn l t=vnL l t.args:=by rw [jkV,jtz h,Bool.and_false,if_neg Bool.false_ne_true]
theorem jkT:∀ {c:j7} {l:List (List UInt8)},(∀y∈c,Bx y.2)->l.Nodup->(∀x∈l,x∈QX l c)/\ ∀y∈c,∀t∈y.2.args,∀x∈yd t,x∈QX l c
 | [],l,_,hl=>⟨λx h=>h,λy h=>by cases h⟩
 | y::c,l,hk,hl=>by
  have hy:=hk y (List.mem_cons_self ..);obtain ⟨a,b,d⟩:=jkU (ts:=y.2.args) hy.args hl;rw [<-jqS hy] at a b d;obtain ⟨a',b'⟩:=jkT (c:=c) (l:=vn l y.2) (λz hz=>hk z (List.mem_cons_of_mem _ hz)) a;refine ⟨λx hx=>a' x (b x hx),λz hz t ht x hx=> ?_⟩;rcases List.mem_cons.1 hz with rfl|hz
  ·exact a' x (d t ht x hx)
  ·exact b' z hz t ht x hx
theorem jna {m:Mdl} {e e':List UInt8->Int} {c:j7} (hk:∀y∈c,Bx y.2) (h:∀x∈QX [] c,e x=e' x) (hc:clV m e c):clV m e' c:=by
 obtain ⟨y,hy,hv⟩:=hc;refine ⟨y,hy,?_⟩;rw [<-hv];refine jgl rfl (List.map_congr_left λt ht=> ?_);exact jmp t ((hk y hy).args t ht) λx hx=>(h x ((jkT (l:=[]) hk List.nodup_nil).2 y hy t ht x hx)).symm
def jay (s:Nat):Nat->Nat->Nat
 | 0,a=>a
 | k+1,a=>if a < 200 then jay s k (a * s) else a
theorem jjL {s:Nat} (hs:s<=3):∀(k a:Nat),a<=600->jay s k a<=600
 | 0,a,h=>h
 | k+1,a,h=>by
  rw [jay];split
  ·refine jjL hs k _ ?_;have:a * s<=a * 3:=Nat.mul_le_mul_left _ hs;omega
  ·exact h
theorem jfQ:∀k:Nat,jay 1 k 1=1
 | 0=>rfl
 | k+1=>by rw [jay,if_pos (by decide),Nat.mul_one,jfQ k]
theorem jh5 {s k:Nat} (h1:1<=s) (hs:s<=3) (hk:s=1\/k<=4):jay s k 1=s ^ k:=by
 rcases hk with rfl|hk
 ·rw [jfQ,Nat.one_pow]
 ·have:∀s,s < 4-> ∀k,k < 5->jay s k 1=s ^ k:=by decide
  exact this s (by omega) k (by omega)
section
variable {code:List Int} (hb:By code)
include hb
theorem jfs (s:Nat) (hs:1<=s/\s<=3) (hs1:(1:Int)<=(s:Int)) (c:j7) (hc:c.length<=1000) (hz:∀l∈c,Tz l.2) (al:A) (k:Nat) (hk:k<=1000) (names:List (List UInt8)) (E:Env) (hEl:E.length<=4000000) (hE:∀x,0<=j5 E x/\j5 E x < (s:Int)) :
  ∀i,i<=c.length-> ∀b:Bool,jfF (jZ code) (vi (s:Nat)) al (vi (k:Nat)) (vb b) (vi (i:Nat)) (.sl 3 (c.map jy)) (names.map cs) (E.map λp=>cs p.1) (E.map λp=>ci p.2) =
   if b || (c.drop i).any (λl=>decide (zn (ZL code s hs1) (j5 E) l.2=l.1)) then jbj (jZ code) (vi (s:Nat)) al (vi ((k+1:Nat):Int)) (.sl 3 (c.map jy)) (names.map cs) else some (vb false,[]):=by
 have ck1:js .add false (vi (k:Nat)) (vi 1)=some (vi ((k+1:Nat):Int)):=jz (n:=k+1) (by omega) (by omega);have ld2:∀l:Lt,jF 2 (.elt (jy l) 1)=some (tm l.2):=λl=>rfl;have ld0:∀l:Lt,kZ (.elt (jy l) 0)=some (vb l.1):=λl=>rfl;have ad:∀(l:Lt) (n:Nat),zU (.elt (jy l) 0) n=some (.elt (jy l) n):=λl n=>by rw [qh,Nat.zero_add]
 generalize hZ:jbj (jZ code) (vi (s:Nat)) al (vi ((k+1:Nat):Int)) (.sl 3 (c.map jy)) (names.map cs)=Z;refine upto ?_ ?_
 ·intro b;have nlt:¬((c.length:Nat):Int) < ((c.length:Nat):Int):=by omega
  rw [List.drop_length,List.any_nil,Bool.or_false,jro];cases b<;>simp only [jf,nlt,ck1,hZ]
 ·intro i hi ih b;have hlt:(i:Int) < ((c.length:Nat):Int):=by omega
  have h5:=jz hi (by show c.length<=9223372036854775807;omega)
  have x1:jh 3 (.sl 3 (c.map jy)) (vi (i:Nat))=some (.elt (jy c[i]) 0):=jb hi;have e:=jje hb (s:Nat) (by omega) E hEl hE c[i].2 (hz _ (List.getElem_mem hi));rw [jl hi,List.any_cons,jro];generalize c[i]=l at x1 e ⊢;cases b with
  | true=>simp only [jf,hlt,ck1,hZ,Bool.true_or]
  | false=>
   have ih:=ih (decide (zn (ZL code s hs1) (j5 E) l.2=l.1));rw [Bool.false_or];generalize zn (ZL code s hs1) (j5 E) l.2=h at e ih ⊢;rw [<-ih];simp only [jf,hlt,x1,ad,ld2,ld0,e,h5]
omit hb in
theorem jiJ (s:Nat) (c:j7) (hc:c.length<=1000) (hz:∀l∈c,Tz l.2) (hn:∀l∈c,nodes l.2<=3000):∀i,i<=c.length-> ∀l:List (List UInt8),l.length<=3000 * i->jjv (jZ code) (vi (s:Nat)) (vi (i:Nat)) (.sl 3 (c.map jy)) (l.map cs)=jfE (jZ code) (vi (s:Nat)) (vi 1) (vi 0) (.sl 3 (c.map jy)) ((QX l (c.drop i)).map cs):=by
 have ld2:∀l:Lt,jF 2 (.elt (jy l) 1)=some (tm l.2):=λl=>rfl;have ad:∀(l:Lt) (n:Nat),zU (.elt (jy l) 0) n=some (.elt (jy l) n):=λl n=>by rw [qh,Nat.zero_add]
 have hr:∀x:List (List A),hR 1 (A.top,[.sl 1 x]) 0=some x:=λx=>rfl;refine upto ?_ ?_
 ·intro l hl;have nlt:¬((c.length:Nat):Int) < ((c.length:Nat):Int):=by omega
  rw [List.drop_length,jrm];simp only [jf,nlt,QX,List.foldl_nil]
 ·intro i hi ih l hl;have hlt:(i:Int) < ((c.length:Nat):Int):=by omega
  have h5:=jz hi (by show c.length<=9223372036854775807;omega)
  have x1:jh 3 (.sl 3 (c.map jy)) (vi (i:Nat))=some (.elt (jy c[i]) 0):=jb hi;have hm:=List.getElem_mem hi;have nn:=hn _ hm;have e:=jea c[i].2 (hz _ hm) l (by omega);have ln:=jfw c[i].2 l;have ih:=ih (vn l c[i].2) (by omega);rw [jl hi,show QX l (c[i]::c.drop (i+1))=QX (vn l c[i].2) (c.drop (i+1)) from rfl,<-ih,jrm];generalize c[i]=y at x1 e ⊢;simp only [jf,hlt,x1,ad,ld2,e,hr,h5]
omit hb in
theorem jmv (s:Nat) (hs:1<=s/\s<=3) (C:A) (names:List (List UInt8)) (hn:names.length<=3000000):∀i,i<=names.length-> ∀a:Nat,a<=600->jfE (jZ code) (vi (s:Nat)) (vi (a:Nat)) (vi (i:Nat)) C (names.map cs)=jbj (jZ code) (vi (s:Nat)) (vi ((jay s (names.length - i) a:Nat):Int)) (vi 0) C (names.map cs):=by
 refine upto ?_ ?_
 ·intro a ha;have nlt:¬((names.length:Nat):Int) < ((names.length:Nat):Int):=by omega
  rw [Nat.sub_self,jay,jnM];simp only [jf,nlt]
 ·intro i hi ih a ha;have hlt:(i:Int) < ((names.length:Nat):Int):=by omega
  have h5:=jz hi (by show names.length<=9223372036854775807;omega)
  rw [show names.length - i=(names.length - (i+1))+1 by omega,jay];by_cases h2:a < 200
  ·have h2':(a:Int) < 200:=by omega
   have hm:a * s<=600:=by have:a * s<=a * 3:=Nat.mul_le_mul_left _ hs.2;omega
   have c1:ck ((a:Int) * ((s:Nat):Int))=some (vi ((a * s:Nat):Int)):=by rw [<-Int.natCast_mul,jE (by omega) (by omega)]
   have ih:=ih (a * s) hm;rw [if_pos h2,<-ih,jnM];simp only [jf,hlt,h2',c1,h5]
  ·have h2':¬(a:Int) < 200:=by omega
   rw [if_neg h2,jnM];simp only [jf,hlt,h2']
theorem jaw (s:Nat) (hs:1<=s/\s<=3) (hs1:(1:Int)<=(s:Int)) (c:j7) (hc:c.length<=1000) (hz:∀l∈c,Tz l.2) (hn:∀l∈c,nodes l.2<=3000) (hnm:(QX [] c).length<=1000) :
  ∃b,G 27 [jZ code,vi (s:Nat),cm c]=some (vb b,[])/\(b=true↔ ∀k,k < jay s (QX [] c).length 1->clV (ZL code s hs1) (j5 (QA s (QX [] c) k)) c):=by
 have e0:=jiJ (code:=code) s c hc hz hn 0 (Nat.zero_le _) [] (Nat.zero_le _);have hall:=jjL hs.2 (QX [] c).length 1 (by decide);have e1:=jmv (code:=code) s hs (.sl 3 (c.map jy)) (QX [] c) (by omega) 0 (Nat.zero_le _) 1 (by decide);rw [Nat.sub_zero] at e1;simp only [Int.natCast_zero,Int.natCast_one,List.drop_zero,List.map_nil] at e0 e1;generalize QX [] c=names at *;generalize jay s names.length 1=n at *;have key:∀k,k<=n-> ∃b,jbj (jZ code) (vi (s:Nat)) (vi (n:Nat)) (vi (k:Nat)) (.sl 3 (c.map jy)) (names.map cs)=some (vb b,[])/\(b=true↔ ∀k',k<=k'->k' < n->clV (ZL code s hs1) (j5 (QA s names k')) c):=by
  refine upto ?_ ?_
  ·refine ⟨true,?_,by simp;intro k' h1 h2;omega⟩
   have nlt:¬((n:Nat):Int) < ((n:Nat):Int):=by omega
   rw [jnN];simp only [jf,nlt]
  ·rintro k hk ⟨b,e,hbb⟩;have hlt:(k:Int) < ((n:Nat):Int):=by omega
   have en:=jhN (code:=code) s hs (vi (n:Nat)) (vi (k:Nat)) (.sl 3 (c.map jy)) names hnm names.length 0 k [] (by omega) rfl (by omega);have el:=jfs hb s hs hs1 c hc hz (vi (n:Nat)) k (by omega) names (QA s names k) (by rw [jno];omega) (jdm hs.1 names k) 0 (Nat.zero_le _) false;simp only [Int.natCast_zero] at el;rw [List.drop_zero,List.nil_append,show names.zip ((dec s names.length k).map λv=>((v:Nat):Int))=QA s names k from rfl,el,Bool.false_or,List.drop_zero,e] at en;have hcl:c.any (λl=>decide (zn (ZL code s hs1) (j5 (QA s names k)) l.2=l.1))=true↔clV (ZL code s hs1) (j5 (QA s names k)) c:=by
    rw [List.any_eq_true];unfold clV;simp only [decide_eq_true_eq]
   simp only [Int.natCast_zero,List.map_nil] at en;by_cases ha:c.any (λl=>decide (zn (ZL code s hs1) (j5 (QA s names k)) l.2=l.1))=true
   ·rw [if_pos ha] at en;refine ⟨b,by rw [jnN];simp only [jf,hlt,en],hbb.trans ⟨λh k' h1 h2=> ?_,λh k' h1 h2=>h k' (by omega) h2⟩⟩;by_cases hkk:k'=k
    ·rw [hkk];exact hcl.1 ha
    ·exact h k' (by omega) h2
   ·rw [if_neg ha] at en;refine ⟨false,by rw [jnN];simp only [jf,hlt,en],⟨λh=>(by cases h),λh=>absurd (hcl.2 (h k (Nat.le_refl _) hk)) ha⟩⟩
 obtain ⟨b,e,hbb⟩:=key 0 (Nat.zero_le _);simp only [Int.natCast_zero] at e;refine ⟨b,?_,hbb.trans ⟨λh k hk=>h k (Nat.zero_le _) hk,λh k _ hk=>h k hk⟩⟩;rw [g27];simp only [jf,e0,e1,e]
theorem jft (s:Nat) (hs:1<=s/\s<=3) (hs1:(1:Int)<=(s:Int)) (c:j7) (hc:c.length<=1000) (hz:∀l∈c,Tz l.2) (hn:∀l∈c,nodes l.2<=3000) (hnm:(QX [] c).length<=1000) (ht:trM (ZL code s hs1) c):G 27 [jZ code,vi (s:Nat),cm c]=some (vb true,[]):=by
 obtain ⟨b,e,h⟩:=jaw hb s hs hs1 c hc hz hn hnm;rw [h.2 λk _=>ht _ (jdm hs.1 _ k)] at e;exact e
theorem jjd (s:Nat) (hs:1<=s/\s<=3) (hs1:(1:Int)<=(s:Int)) (c:j7) (hc:c.length<=1000) (hz:∀l∈c,Tz l.2) (hn:∀l∈c,nodes l.2<=3000) (hnm:(QX [] c).length<=1000) (hk:∀y∈c,Bx y.2) (hsm:s=1\/(QX [] c).length<=4):∃b,G 27 [jZ code,vi (s:Nat),cm c]=some (vb b,[])/\(b=true->trM (ZL code s hs1) c):=by
 obtain ⟨b,e,h⟩:=jaw hb s hs hs1 c hc hz hn hnm;refine ⟨b,e,λhb1 e' he=> ?_⟩;obtain ⟨k,hk1,hk2⟩:=jnn hs.1 (QX [] c) e' he;exact jna hk hk2 (h.1 hb1 k (by rw [jh5 hs.1 hs.2 hsm];exact hk1))
end
end Go.Proofs.YtdbgbieenhcldaaGreat
