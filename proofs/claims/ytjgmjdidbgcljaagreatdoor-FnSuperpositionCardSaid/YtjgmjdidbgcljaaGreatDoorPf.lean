/- Pf -/
import Derived.Test.YtjgmjdidbgcljaaGreatDoorPe
import Derived.Test.YtjgmjdidbgcljaaGreatDoorPd
import Derived.Test.YtjgmjdidbgcljaaGreatDoorPb
namespace Go.Proofs.YtjgmjdidbgcljaaGreatDoor
open Go Go.RowKit Go.Proofs.YtjgmjdidbgcljaaGreatDoor.Abs
set_option linter.unusedSimpArgs false
set_option linter.unusedVariables false
set_option maxHeartbeats 1000000
theorem jsf(n:Nat)(x:Int):inB 0 (((n:Nat):Int)-1) x=decide (0<=x/\x<(n:Int)):=by
 unfold inB;rw[<-Bool.decide_and];exact decide_eq_decide.2 ⟨λh=>⟨h.1,by omega⟩,λh=>⟨h.1,by omega⟩⟩
theorem jEb(t:T)(p:Xi)(ht:Tz t)(hl:p.length<=1048576):G 57 [tm t,ints p]=outT (atI p t):=by
 have key:=upto (P:=λi=>∀t:T,Tz t->jwm (ints p) (vi (p.length:Nat)) (vi (i:Nat)) (sv t.name) (tms t.args) (sv []) []=outT (atI (p.drop i) t)) (n:=p.length) ?_ ?_ 0 (Nat.zero_le _) t ht
 .simp only[Int.natCast_zero,List.drop_zero]at key;rw[g57];simp only[evz,key]
 .intro t ht;rw[jDD,List.drop_length,atI];simp only[evz];rfl
 .intro i hi ih t ht;have hz:=ht;unfold Tz at hz;rw[jgG]at hz;have hlt:(i:Int)<((p.length:Nat):Int):=by omega
  have h5:=jef hi (by show p.length<=9223372036854775807;omega)
  have c1:ck (((t.args.length:Nat):Int)-1)=some (vi (((t.args.length:Nat):Int)-1)):=jeY (by omega) (by omega);have e1:=jiF p[i] 0 (((t.args.length:Nat):Int)-1);rw[jsf]at e1;have ix:=jiv hi;rw[jDD,jdb hi,atI];by_cases hc:0<=p[i]/\p[i]<(t.args.length:Int)
  .rw [decide_eq_true hc]at e1;rw[jc6 hc];have hn:p[i].toNat<t.args.length:=by omega
   have ix2:=jaa (k:=2) (f:=jdd) hn;rw[show((p[i].toNat:Nat):Int)=p[i] by omega]at ix2;rw[jhT hn];have:=ih t.args[p[i].toNat] (ht.args _ (jcF hn));simp only[evz,hlt,ix,c1,e1,ix2,ja1,h5,this]
  .rw [decide_eq_false hc]at e1;rw[ko hc];simp only[evz,hlt,ix,c1,e1];rfl
theorem jEc(t:T)(p:Xi)(ht:Tz t)(hl:p.length<=1048576):G 68 [tm t,ints p]=outT (atI p t):=by
 have key:=upto (P:=λi=>∀t:T,Tz t->jwp (ints p) (vi (i:Nat)) (sv t.name) (tms t.args) (sv []) []=outT (atI (p.drop i) t)) (n:=p.length) ?_ ?_ 0 (Nat.zero_le _) t ht
 .simp only[Int.natCast_zero,List.drop_zero]at key;rw[g68];simp only[evz,key]
 .intro t ht;have e1:=jkL t ht;rw[jDH,List.drop_length,atI];simp only[evz,e1];rfl
 .intro i hi ih t ht;have hz:=ht;unfold Tz at hz;rw[jgG]at hz;have hlt:(i:Int)<((p.length:Nat):Int):=by omega
  have h5:=jef hi (by show p.length<=9223372036854775807;omega)
  have c1:ck (((t.args.length:Nat):Int)-1)=some (vi (((t.args.length:Nat):Int)-1)):=jeY (by omega) (by omega);have e1:=jhz p[i] 0 (((t.args.length:Nat):Int)-1);rw[jsf]at e1;have ix:=jiv hi;rw[jDH,jdb hi,atI];by_cases hc:0<=p[i]/\p[i]<(t.args.length:Int)
  .rw [decide_eq_true hc]at e1;rw[jc6 hc];have hn:p[i].toNat<t.args.length:=by omega
   have ix2:=jaa (k:=2) (f:=jdd) hn;rw[show((p[i].toNat:Nat):Int)=p[i] by omega]at ix2;rw[jhT hn];have:=ih t.args[p[i].toNat] (ht.args _ (jcF hn));simp only[evz,hlt,ix,c1,e1,ix2,ja1,h5,this]
  .rw [decide_eq_false hc]at e1;rw[ko hc];simp only[evz,hlt,ix,c1,e1];rfl
theorem jzw(q:Xf):ints (q.map λn:Nat=>(n:Int))=pln q:=by
 show A.sl 1 ((q.map _).map ci)=_;rw[jbx];rfl
theorem jtt(t:T)(ht:Tz t):jrA (sv t.name) (tms t.args)=some (.top,[sv t.name,tms t.args]):=by
 have hz:=ht;unfold Tz at hz;rw[jgG]at hz;have e1:=jmO t.args (by omega) λu hu=>jjS u (ht.args u hu);have r1:hR 2 (A.top,[tms t.args]) 0=some (t.args.map jdd):=rfl;rw[jEh];simp only[evz,e1,r1]
theorem jod(s:T)(hs:Tz s):∀(p:Xf)(t:T),Tz t->okP p t->p.length<=2000000->G 62 [tm t,pln p,tm s]=some (tm (jgJ s p t),[])
 | [],t,_,_,_=>by
  have e1:=jtt s hs;have hz:(((0:Nat):Int)=0)=True:=by simp
  rw[g62,jgJ];simp only[evz,hz,e1,List.map_nil,List.getElem?_cons_zero]
 |i::p,t,ht,hp,hl=>by
  obtain⟨h1,h2⟩:=hp;have e:t.args.getD i (.mk [] [])=t.args[i]:=jhT h1;rw[e]at h2;have e1:=jtt t ht;have e2:=jod s hs p t.args[i] (ht.args _ (jcF h1)) h2 (by rw[yv]at hl;omega);have hz:¬((p.length+1:Nat):Int)=0:=by omega
  have i0:jda 1 (pln (i::p)) (vi 0)=some (.elt [vi (i:Nat)] 0):=jlu (p:=i::p) (i:=0) (by simp);have sl:J2 1 (pln (i::p)) (some (vi 1)) none=some (pln p):=by
   have:=jid (k:=1) (xs:=(i::p).map λn:Nat=>[vi (n:Nat)]) (i:=1) (by simp);exact this
  have ix:pIx t.args.length (vi (i:Nat))=some i:=jg7 h1;have rg:jfx (t.args.map jdd) i=some (jdd t.args[i]):=by unfold jfx;simp[h1]
  have co:jfg (jdd t.args[i]) 0 [sv (jgJ s p t.args[i]).name,tms (jgJ s p t.args[i]).args]=jdd (jgJ s p t.args[i]):=by rw[jfY,jfY];rfl
  have rs:jau (t.args.map jdd) i (jdd (jgJ s p t.args[i]))=(t.args.set i (jgJ s p t.args[i])).map jdd:=by unfold jau;rw[List.map_set]
  have ll:(jd7 (pln (i::p)))=some (vi ((p.length+1:Nat):Int)):=by rw[jue];simp only[evz]
  rw[g62,jgJ,e];simp only[evz,ll,hz,e1,i0,jaa h1,ja1,sl,e2,ix,rg,co,rs,List.getElem?_cons_zero];rfl
theorem jmp{t:T}(hk:okT t=true)(hn:nodes t<=30):Tz t/\Exx t:=⟨AxT.tz (Or.inl hk) (by omega),Or.inl hk,by omega⟩
theorem jlV{s:jem}(hs:je0 s=true){t:T}(hk:okT t=true):jgQ (sub s t)=jfs (sub s t):=by
 unfold jgQ;rw[jkO (jii hs) t hk,Bool.and_true]
noncomputable def rwL(rs:Xg):Cls->Option Cls
 | []=>some []
 |x::r=>(match rwN rs false 51 0 x.2 with
  |none=>none
  |some q=>(rwL rs r).map ((x.1,q.1)::·))
noncomputable def jI3(rs:Xg)(R:Cls)(l:Cls):Option Cls:=(rwL rs l).bind λr=>jk2 [] (R++r)
structure Mdl where
 M:Xb->Xi->Int
 Q:Xb->Xi->Bool
 good:Int->Prop
 ok:∀n vs,good (M n vs)
def jhR(m:Mdl)(e:Xb->Int)(t:T):Bool:=if t.name=[61]/\t.args.length=2 then decide (val m.M e (jk1 t)=val m.M e (jk3 t))else m.Q t.name (t.args.map (val m.M e))
def clV(m:Mdl)(e:Xb->Int)(c:Cls):Prop:=∃l∈c,jhR m e l.2=l.1
def jwb(m:Mdl)(e:Xb->Int):Prop:=∀x,m.good (e x)
def trM(m:Mdl)(c:Cls):Prop:=∀e,jwb m e->clV m e c
def Sd(ps:List Cls)(x:Cls):Prop:=∀m:Mdl,(∀c∈ps,trM m c)->trM m x
theorem jsa{t:T}(h:t.args.length=2):t.args=[jk1 t,jk3 t]:=by
 obtain⟨n,us⟩:=t
 match us,h with
 | [a,b],_=>rfl
theorem jmU{m:Mdl}{e e':Xb->Int}{a b:T}(hn:a.name=b.name)(hv:a.args.map (val m.M e)=b.args.map (val m.M e')):jhR m e a=jhR m e' b:=by
 have hl:a.args.length=b.args.length:=by have:=congrArg List.length hv;simpa using this
 unfold jhR;rw[hn,hl];by_cases c:b.name=[61]/\b.args.length=2
 .rw [jc6 c,jc6 c];have ha:=jsa (t:=a) (by rw[hl];exact c.2);have hb:=jsa c.2;rw[ha,hb]at hv;simp only[j5,List.map_nil,j8]at hv;rw[hv.1,hv.2.1]
 .rw [ko c,ko c,hv]
section
variable(m:Mdl)
theorem jzv(u:jem)(e:Xb->Int){t:T}(h:Bx t):jhR m e (sub u t)=jhR m (λx=>val m.M e (jiQ u x)) t:=by
 have hv:=h.nv;refine jmU (jlz hv) ?_;rw[jkq hv,jbx];exact List.map_congr_left λa ha=>jsR u e a (h.args a ha)
theorem jpr{e:Xb->Int}(he:jwb m e)(u:jem):jwb m (λx=>val m.M e (jiQ u x)):=λ_=>jqj m.ok he _
theorem jEs{u:jem}{e:Xb->Int}{l:Cls}(hb:∀y∈l,Bx y.2)(h:clV m (λx=>val m.M e (jiQ u x)) l):clV m e (l.map λx=>(x.1,sub u x.2)):=by
 obtain⟨x,hx,hh⟩:=h;exact⟨(x.1,sub u x.2),jN.2 ⟨x,hx,rfl⟩,by show jhR m e (sub u x.2)=x.1;rw[jzv m u e (hb x hx)];exact hh⟩
theorem jC8{f:Xb->Xb}(hf:∀n,jdc n=true->jdc (f n)=true)(e:Xb->Int):∀t:T,okT t=true->val m.M e (jfW f t)=val m.M (λx=>e (f x)) t:=by
 refine T.ind λt ih=>?_;intro ht;rw[jjn];cases hv:jdc t.name with
 |true=>
  rw[jc6 rfl,jlS (t:=t) ht hv,jlB];show(if([]:Xg).isEmpty && upN (f t.name)then e (f t.name)else _)=_;rw[joR (hf _ hv)];rfl
 |false=>
  have hs:=jkQ (jnJ ht hv);rw[ko Bool.false_ne_true,jj2 (t:= .mk t.name (t.args.map (jfW f))) hs,jj2 (t:=t) hs];show m.M t.name ((t.args.map (jfW f)).map (val m.M e))=_;rw[jbx];exact congrArg _ (List.map_congr_left λa ha=>ih a ha (jgW ht a ha))
theorem jzu{f:Xb->Xb}(hf:∀n,jdc n=true->jdc (f n)=true)(e:Xb->Int){t:T}(h:Bx t):jhR m e (jfW f t)=jhR m (λx=>e (f x)) t:=by
 have hv:=h.nv;refine jmU (jlw hv) ?_;rw[jko hv,jbx];exact List.map_congr_left λa ha=>jC8 m hf e a (h.args a ha)
variable{m}
theorem jBh{f:Xb->Xb}(hf:∀n,jdc n=true->jdc (f n)=true){c:Cls}(hb:∀y∈c,Bx y.2)(h:trM m c):trM m (c.map λl=>(l.1,jfW f l.2)):=by
 intro e he;obtain⟨x,hx,hh⟩:=h (λx=>e (f x)) λx=>he _;exact⟨(x.1,jfW f x.2),jN.2 ⟨x,hx,rfl⟩,by show jhR m e (jfW f x.2)=x.1;rw[jzu m hf e (hb x hx)];exact hh⟩
theorem jxm{l:Cls}(h:trM m l):trM m (jhe cmpL l):=λe he=>by
 obtain⟨x,hx,hh⟩:=h e he;exact⟨x,jiC.2 hx,hh⟩
theorem jtq{p:UInt8}(hp:upc p=true){c:Cls}(hc:CN c):∀n,jdc n=true->jdc (jfV p (jgg c) n)=true:=λn hn=>jnv hp (by have:=jib hc;omega) hn
theorem jC5{p:UInt8}(hp:upc p=true){c:Cls}(hc:CN c)(h:trM m c):trM m (renC p c):=jxm (jBh (jtq hp hc) (λy hy=>(hc.2 y hy).1) h)
theorem juH:∀(k:Nat){c:Cls},CN c->trM m c->trM m (normF k c)
 |0,_,_,h=>h
 |k+1,c,hc,h=>by
  rw[normF];split
  .exact h
  .exact juH k (hc.renC (by decide)) (jC5 (by decide) hc h)
theorem jBg{d:Cls}(hd:jgN d=true)(h:trM m d):trM m (jfT d):=jBh (jtq (by decide) (jgA hd).1) (λy hy=>((jgA hd).1.2 y hy).1) h
theorem jxh{u:jem}{l x:Cls}(hx:jk2 u l=some x)(hb:∀y∈l,Bx y.2)(hl:∀e,jwb m e->clV m (λx=>val m.M e (jiQ u x)) l):trM m x:=by
 unfold jk2 at hx;rw[qf]at hx;obtain⟨d,hd,hx⟩:=hx;have hv:=(jky hd).1;split at hx
 .cases hx;refine juH 10 (jhD hv).1 ?_;unfold jjw at hd;split at hd
  .cases hd;exact jxm λe he=>jEs m hb (hl e he)
  .cases hd
 .cases hx
end
def jr8(M:Xb->Xi->Int)(e:Xb->Int)(s:jem):Prop:=∀q∈s,e q.1=val M e q.2
section
variable{M:Xb->Xi->Int}{e:Xb->Int}
theorem jA5{s:jem}(h:jr8 M e s){n:Xb}(hn:jdc n=true):val M e (jiQ s n)=e n:=by
 rw[jiQ];cases hl:look s n with
 |some r=>exact(h _ (jjY hl)).symm
 |none=>
  show val M e (.mk n [])=e n;rw[jlB];show(if([]:Xg).isEmpty && upN n then e n else _)=_;rw[joR hn];rfl
theorem jsF{s:jem}(h:jr8 M e s){t:T}(ht:okT t=true):val M e (sub s t)=val M e t:=by
 rw[jsR s e t ht];exact jrt t ht λx hx=>jA5 h (juV t hx)
theorem jBo{a b:T}(ha:okT a=true)(hb:okT b=true)(va:jdc a.name=false)(vb:jdc b.name=false)(hn:a.name=b.name)(hv:a.args.map (val M e)=b.args.map (val M e)):val M e a=val M e b:=by
 rw[jj2 (t:=a) (jkQ (jnJ ha va)),jj2 (t:=b) (jkQ (jnJ hb vb)),hn,hv]
theorem jxx:∀{us bs:Xg},us.length=bs.length->(∀p∈us.zip bs,val M e p.1=val M e p.2)->us.map (val M e)=bs.map (val M e)
 | [],[],_,_=>rfl
 |a::us,b::bs,hl,h=>by
  rw[j5,j5,h (a,b) (by simp),jxx (by simpa using hl) λp hp=>h p (by simp[hp])]
 | [],b::bs,hl,_=>by cases hl
 |a::us,[],hl,_=>by cases hl
theorem jBl:∀(k:Nat)(s:jem)(es:Eqs){u:jem},ji9 s es->(∀p∈es,okT p.1=true/\okT p.2=true)->jgX k s es=some (some u)->jr8 M e u->jr8 M e s/\ ∀p∈es,val M e p.1=val M e p.2:=by
 intro k;induction k with
 |zero=>
  intro s es u h ho hu hs;cases es with
  |nil=>simp only[jgX,jp]at hu;rw[hu];exact⟨hs,λp hp=>by cases hp⟩
  |cons p es=>simp[jgX]at hu
 |succ k ih=>
  intro s es u h ho hu hs;cases es with
  |nil=>simp only[jgX,jp]at hu;rw[hu];exact⟨hs,λp hp=>by cases hp⟩
  |cons p es=>
   obtain⟨l,r⟩:=p;rw[jgX]at hu;cases hst:jhH s l r es with
   |none=>
    have hst:jhH s (l,r).1 (l,r).2 es=none:=hst;rw[hst]at hu;simp at hu
   |some q=>
    have hst':jhH s (l,r).1 (l,r).2 es=some q:=hst;rw[hst']at hu;obtain⟨s',es'⟩:=q;have hu:jgX k s' es'=some (some u):=hu;have hinv:=(jho h hst).1;obtain⟨ol,or'⟩:=ho (l,r) (Q1 ..);have ores:∀p∈es,okT p.1=true/\okT p.2=true:=λp hp=>ho p (kO _ hp);obtain⟨hv,hi,he⟩:=h;have hk:=jii hv;have kl:=jkO hk l ol;have kr:=jkO hk r or';have fin:∀{es0:Eqs},jr8 M e s->val M e (sub s l)=val M e (sub s r)->(∀p∈es,val M e p.1=val M e p.2)->jr8 M e s/\ ∀p∈(l,r)::es,val M e p.1=val M e p.2:=by
     intro _ h1 h2 h3;refine⟨h1,λp hp=>?_⟩;rcases yN.1 hp with rfl|hp
     .rw [jsF h1 ol,jsF h1 or']at h2;exact h2
     .exact h3 p hp
    unfold jhH at hst;split at hst
    .cases hst
    split at hst
    .rename_i heq;cases hst;obtain⟨h1,h2⟩:=ih s es hinv ores hu hs;exact fin (es0:=[]) h1 (by rw[jiI.1 heq]) h2
    split at hst
    .rename_i hvar;split at hst
     .cases hst
     rename_i hno;cases hst;obtain⟨h1,h2⟩:=ih _ es hinv ores hu hs;have c1:(jep (sub s l) (sub s r)).1 ∉ jgi (jep (sub s l) (sub s r)).2:=λh=>hno (Or.inl h);have c3:je0 [jep (sub s l) (sub s r)]=true:=by
      cases h:je0 [jep (sub s l) (sub s r)]with
      |true=>rfl
      |false=>exact absurd (Or.inr (Or.inl h)) hno
     obtain⟨_,_,h4⟩:=jfR c3;obtain⟨k1,_,k3⟩:=h4 _ (List.mem_singleton_self _);have hb:look s (jep (sub s l) (sub s r)).1=none/\(∀x∈jgi (jep (sub s l) (sub s r)).2,look s x=none)/\(e (jep (sub s l) (sub s r)).1=val M e (jep (sub s l) (sub s r)).2->val M e (sub s l)=val M e (sub s r)):=by
      unfold jep;split
      .rename_i hc;have hy:jdc (sub s r).name=true:=by
        rcases hc with hc|hc
        .rcases hvar with h|h
         .rw [hc]at h;cases h
         .exact h
        .exact hc.1
       exact⟨jjL hi r (by rw[vsv hy];simp),λx hx=>jjL hi l hx,λh=>by rw[jlS kr hy];exact h.symm⟩
      .rename_i hc;have hx:jdc (sub s l).name=true:=by
        cases h:jdc (sub s l).name with
        |true=>rfl
        |false=>exact absurd (Or.inl h) hc
       exact⟨jjL hi l (by rw[vsv hx];simp),λx hx=>jjL hi r hx,λh=>by rw[jlS kl hx];exact h⟩
     generalize jep (sub s l) (sub s r)=b at *;obtain⟨n,t⟩:=b;obtain⟨_,_,c5,_⟩:=jpj hv hi k1 hb.1 hb.2.1 c1 k3;have hb1:e n=val M e t:=h1 (n,t) ((c5 _).2 (Or.inr rfl));have hsb:jr8 M e [(n,t)]:=λq hq=>by rw[jU.1 hq];exact hb1
     have hss:jr8 M e s:=λq hq=>by
      have:=h1 _ ((c5 _).2 (Or.inl ⟨q,hq,rfl⟩));have h6:val M e (sub [(n,t)] q.2)=val M e q.2:=jsF hsb (hk q hq);rw[<-h6];exact this
     exact fin (es0:=[]) hss (hb.2.2 hb1) h2
    .rename_i hnv;split at hst
     .rename_i hnm;cases hst;have v1:jdc (sub s l).name=false:=by
       cases h:jdc (sub s l).name with
       |false=>rfl
       |true=>exact absurd (Or.inl h) hnv
      have v2:jdc (sub s r).name=false:=by
       cases h:jdc (sub s r).name with
       |false=>rfl
       |true=>exact absurd (Or.inr h) hnv
      obtain⟨h1,h2⟩:=ih s _ hinv (λp hp=>by
       rcases Yo.1 hp with hp|hp
       .have hm:=List.of_mem_zip (a:=p.1) (b:=p.2) hp;exact⟨jgW kl _ hm.1,jgW kr _ hm.2⟩
       .exact ores p hp) hu hs
      exact fin (es0:=[]) h1 (jBo kl kr v1 v2 hnm.1 (jxx hnm.2 λp hp=>h2 p (jbv _ hp))) λp hp=>h2 p (JL _ hp)
     .cases hst
theorem jpN:∀{u:jem}{q:Xb×T},(u.map Prod.fst).Nodup->q∈u->look u q.1=some q.2
 |p::u,q,hn,hq=>by
  rw[look];rcases yN.1 hq with rfl|hq
  .rw [jc6 rfl]
  .rw [j5,Q0]at hn;rw[ko (λe=>hn.1 (by rw[e];exact jN.2 ⟨q,hq,rfl⟩))];exact jpN hn.2 hq
theorem jE4{u:jem}(hv:je0 u=true)(hi:IdS u):jr8 M (λx=>val M e (jiQ u x)) u:=by
 intro q hq;have hk:=jii hv;have hl:=jpN (jlr hv) hq;show val M e (jiQ u q.1)=val M (λx=>val M e (jiQ u x)) q.2;rw[<-jsR u e q.2 (hk q hq),jsK q.2 (hk q hq) λx hx=>hi q hq x hx,jiQ,hl];rfl
end
theorem jnH{α:Type}{c:List α}{m:Nat}(h:m<c.length){l:α}(hl:l∈c):l=c[m]\/l∈c.eraseIdx m:=by
 obtain⟨i,hi,rfl⟩:=List.getElem_of_mem hl;by_cases e:i=m
 .subst e;exact Or.inl rfl
 .exact Or.inr (List.mem_eraseIdx_iff_getElem.2 ⟨i,hi,e,rfl⟩)
theorem jpi{c:Cls}(h:CN c)(m:Nat):∀y∈c.eraseIdx m,Bx y.2:=λy hy=>(h.2 y (List.mem_of_mem_eraseIdx hy)).1
theorem jrn{M:Xb->Xi->Int}{e:Xb->Int}{a b:T}(ka:okT a=true)(kb:okT b=true)(na:nodes a<=31)(nb:nodes b<=31){u:jem}(hu:jjJ a b=some u):val M (λx=>val M e (jiQ u x)) a=val M (λx=>val M e (jiQ u x)) b:=by
 have xa:Exx a:=⟨Or.inl ka,na⟩;have xb:Exx b:=⟨Or.inl kb,nb⟩;obtain⟨k,hk⟩:=jj1 xa xb;rw[hu]at hk;have hinv:=juL xa xb;obtain⟨hv,hi⟩:=juM k _ _ hinv hk;exact(jBl k _ _ hinv (λp hp=>by rw[jU.1 hp];exact⟨ka,kb⟩) hk (jE4 (M:=M) (e:=e) hv hi)).2 (a,b) (List.mem_singleton_self _)
theorem jtB(M:Mdl)(e:Xb->Int){t:T}(hn:t.name=[61])(hl:t.args.length=2):jhR M e t=decide (val M.M e (jk1 t)=val M.M e (jk3 t)):=by
 unfold jhR;rw[jc6 ⟨hn,hl⟩]
theorem jsG{c:Cls}(hc:CN c){m:Nat}(hm:m<c.length)(hs:c[m].1=false)(he:c[m].2.name=[61])(hl:c[m].2.args.length=2)(k0:okT (jkg c[m].2)=true)(k1:okT (jkX c[m].2)=true)(n0:nodes (jkg c[m].2)<=30)(n1:nodes (jkX c[m].2)<=30){u:jem}(hu:jjJ (jkg c[m].2) (jkX c[m].2)=some u){x:Cls}(hx:jk2 u (c.eraseIdx m)=some x):Sd [c] x:=by
 intro M hM;have tc:=hM c (by simp);refine jxh hx (jpi hc m) λe hg=>?_;obtain⟨l,hl',h1⟩:=tc _ (jpr M hg u);rcases jnH hm hl' with h|h
 .exfalso;have hv:=jrn (M:=M.M) (e:=e) k0 k1 (by omega) (by omega) hu;rw[h,jtB M _ he hl,hs]at h1;exact absurd (decide_eq_true (show val M.M _ (jk1 c[m].2)=val M.M _ (jk3 c[m].2) from hv)) (by rw[h1];decide)
 .exact ⟨l,h,h1⟩
theorem juX{M:Xb->Xi->Int}{e:Xb->Int}{r:T} :∀(p:Xf)(t:T),okP p t->val M e r=val M e (atT p t)->val M e (jgJ r p t)=val M e t/\(p≠ []->(jgJ r p t).name=t.name/\(jgJ r p t).args.map (val M e)=t.args.map (val M e))
 | [],t,_,h=>⟨h,λh=>absurd rfl h⟩
 |i::p,t,hk,h=>by
  obtain⟨h1,h2⟩:=hk;rw[atT]at h;obtain⟨q,_⟩:=juX p _ h2 h;have hargs:(jgJ r (i::p) t).args.map (val M e)=t.args.map (val M e):=by
   rw[jgJ];show(t.args.set i (jgJ r p (t.args.getD i (.mk [] [])))).map (val M e)=_;rw[List.map_set,q,jhT h1];have:(t.args.map (val M e))[i]'(by rw[jbw];exact h1)=val M e t.args[i]:=List.getElem_map _;rw[<-this];exact List.set_getElem_self _
  have hlen:(jgJ r (i::p) t).args.isEmpty=false/\t.args.isEmpty=false:=by
   constructor
   .rw [jgJ];show(t.args.set i _).isEmpty=false;cases hq:t.args with
    |nil=>rw[hq]at h1;simp at h1
    |cons a l=>cases i<;>rfl
   .cases hq:t.args with
    |nil=>rw[hq]at h1;simp at h1
    |cons a l=>rfl
  refine⟨?_,λ_=>⟨rfl,hargs⟩⟩;rw[jlB,jlB M e t,hlen.1,hlen.2,hargs];rfl
theorem jsH{c d:Cls}(hc:CN c)(hd:jgN d=true){m n:Nat}(hm:m<c.length)(hn:n<(jfT d).length)(hs:c[m].1=true)(he:c[m].2.name=[61])(hl2:c[m].2.args.length=2){l r:T}(hlr:(l=jk1 c[m].2/\r=jk3 c[m].2)\/(l=jk3 c[m].2/\r=jk1 c[m].2))(kl:okT l=true)(kr:okT r=true)(nl:nodes l<=30){q:Xf}(hq:q≠ [])(hk:okP q (jfT d)[n].2)(kw:okT (atT q (jfT d)[n].2)=true)(nw:nodes (atT q (jfT d)[n].2)<=31){u:jem}(hu:jjJ l (atT q (jfT d)[n].2)=some u){x:Cls}(hx:jk2 u (c.eraseIdx m++(jfT d).eraseIdx n++[((jfT d)[n].1,jgJ r q (jfT d)[n].2)])=some x):Sd [c,d] x:=by
 intro M hM;have tc:=hM c (by simp);have td:=jBg hd (hM d (by simp));have ce:=jtk hd;have b2:=ce.2 _ (jcF hn);refine jxh hx (λy hy=>?_) λe hg=>?_
 .rcases Yo.1 hy with hy|hy
  .exact (Yo.1 hy).elim (jpi hc m y) (jpi ce n y)
  .rw [jU.1 hy];exact jxv kr hq hk b2.1
 obtain⟨y,hy,h1⟩:=tc _ (jpr M hg u);obtain⟨z,hz,h2⟩:=td _ (jpr M hg u);rcases jnH hm hy with h|h
 .rcases jnH hn hz with h'|h'
  .have hv:=jrn (M:=M.M) (e:=e) kl kw (by omega) nw hu;rw[h,jtB M _ he hl2,hs,Q5]at h1;have hr:val M.M (λx=>val M.M e (jiQ u x)) r=val M.M (λx=>val M.M e (jiQ u x)) (atT q (jfT d)[n].2):=by
    rcases hlr with⟨rfl,rfl⟩|⟨rfl,rfl⟩
    .rw [<-hv,h1]
    .rw [<-hv,h1]
   obtain⟨w1,w2⟩:=(juX q _ hk hr).2 hq;refine⟨_,JL _ (List.mem_singleton_self _),?_⟩;show jhR M _ (jgJ r q (jfT d)[n].2)=(jfT d)[n].1;rw[jmU w1 w2,<-h',h2]
  .exact ⟨z,jbv _ (JL _ h'),h2⟩
 .exact ⟨y,jbv _ (jbv _ h),h1⟩
def jyH(ps:List Cls)(f g:FuncId)(args:Xd):Prop:=∃r:Option Cls,G f args=jjl r/\G g args=jjl r/\ ∀x,r=some x->jgN x=true/\Sd ps x
theorem jme{ps:List Cls}{f g:FuncId}{args:Xd}(h1:G f args=some (.tup [cz,vb false],[]))(h2:G g args=some (.tup [cz,vb false],[])):jyH ps f g args:=⟨none,h1,h2,λx h=>by cases h⟩
theorem jup(c:Cls)(hc:jgN c=true)(i:Int):∃r:Option Cls,G 33 [cm c,vi i]=jjl r/\G 34 [cm c,vi i]=jjl r/\ ∀x,r=some x->jgN x=true/\Sd [c] x:=by
 obtain⟨cc,_,_,_⟩:=jgA hc;have lc:=cc.1;have p1:=jis c (by omega) i;have c1:ck (((c.length:Nat):Int)-1)=some (vi (((c.length:Nat):Int)-1)):=jeY (by omega) (by omega);have q1:=jhz i 0 (((c.length:Nat):Int)-1);have hi':inB 0 (((c.length:Nat):Int)-1) i=jnC c i:=rfl;rw[hi']at q1;rw[g33,g34];cases hi:jnC c i<;>rw[hi]at p1 q1
 .exact ⟨none,by simp only[evz,p1];rfl,by simp only[evz,c1,q1];rfl,λx h=>by cases h⟩
 obtain⟨m,rfl,hm⟩:=jnD hi;have x1:=jaa (k:=3) (f:=ltc) hm;have hb1:=cc.2 _ (jcF hm);have e3:=jit c[m].2;have e4:=jlh c[m] false;generalize hl:c[m]=l at *;have e4:G 67 [ltm l,vb false]=_:=e4;cases hs:l.1<;>rw[hs]at e4
 rotate_left
 .exact ⟨none,by simp only[evz,p1,x1,adL,ldB,hs];rfl,by simp only[evz,c1,q1,x1,jgV,hs,e4,Bool.false_and];rfl,λx h=>by cases h⟩
 by_cases he:l.2.name=[61];rotate_left
 .rw [decide_eq_false he]at e3 e4;exact⟨none,by simp only[evz,p1,x1,adL,ldB,ldT,hs,e3];rfl,by simp only[evz,c1,q1,x1,jgV,hs,e4,Bool.and_false];rfl,λx h=>by cases h⟩
 rw[decide_eq_true he]at e3 e4;obtain⟨l2,k0,k1,n0,n1,i0,i1⟩:=jtx hb1.1 he hb1.2;have u1:=juN (jkg l.2) (jkX l.2) ⟨Or.inl k0,by omega⟩ ⟨Or.inl k1,by omega⟩;have u2:=jpF (jkg l.2) (jkX l.2) ⟨Or.inl k0,by omega⟩ ⟨Or.inl k1,by omega⟩;obtain⟨u,b,hu,hut,huf⟩:=jq7 (jjJ (jkg l.2) (jkX l.2));rw[hu]at u1 u2;cases b
 .exact ⟨none,by simp only[evz,p1,x1,adL,jke,ldA,ldB,ldT,hs,e3,i0,i1,ja1,u1];rfl,by simp only[evz,c1,q1,x1,jgV,hs,e4,Bool.and_self,adL,jke,ldA,i0,i1,ja1,u2];rfl,λx h=>by cases h⟩
 have hv:=jni ⟨Or.inl k0,by omega⟩ ⟨Or.inl k1,by omega⟩ (hut rfl);have hln:=LN.erase cc m;have w1:=jms c (by omega) m hm;have w3:=jlD c (by omega) m hm;have e1:=jnY u hv _ hln;have e2:=jm3 u hv _ hln;refine⟨jk2 u (c.eraseIdx m),?_,?_,λx hx=>⟨joe hx,jsG cc hm (by rw[hl];exact hs) (by rw[hl];exact he) (by rw[hl];exact l2) (by rw[hl];exact k0) (by rw[hl];exact k1) (by rw[hl];exact n0) (by rw[hl];exact n1) (by rw[hl];exact hut rfl) hx⟩⟩
 .obtain ⟨c',b',hr⟩:=jju (jk2 u (c.eraseIdx m));rw[hr]at e1⊢;simp only[evz,p1,x1,adL,jke,ldA,ldB,ldT,hs,e3,i0,i1,ja1,u1,w1,e1]
 .obtain ⟨c',b',hr⟩:=jju (jk2 u (c.eraseIdx m));rw[hr]at e2⊢;simp only[evz,c1,q1,x1,jgV,hs,e4,Bool.and_self,adL,jke,ldA,i0,i1,ja1,u2,w3,hRl,e2]
theorem jos(c:Cls)(lc:c.length<=1048576)(zc:∀l∈c,Tz l.2)(i:Int):jyH [c] 10 11 [cm c,vi i]:=by
 have n1:=jh9 c lc zc;have m1:=jiA c lc zc;cases hc:jgN c<;>rw[hc]at n1 m1
 .exact jme (by rw[g10];simp only[evz,n1]) (by rw[g11];simp only[evz,m1])
 obtain⟨r,e1,e2,e3⟩:=jup c hc i;obtain⟨c',b',hr⟩:=jju r;refine⟨r,?_,?_,e3⟩
 .rw [hr]at e1⊢;rw[g10];simp only[evz,n1,e1]
 .rw [hr]at e2⊢;rw[g11];simp only[evz,m1,e2]
theorem jkU(c d:Cls)(cc:CN c)(hd:jgN d=true)(m n:Nat)(hm:m<c.length)(hn:n<d.length)(hs:c[m].1=true)(he:c[m].2.name=[61])(hl2:c[m].2.args.length=2)(l r:T)(hlr:(l=jk1 c[m].2/\r=jk3 c[m].2)\/(l=jk3 c[m].2/\r=jk1 c[m].2))(side:Int)(hside:inB 0 1 side=true)(sl:jda 2 (tms c[m].2.args) (vi side)=some (.elt (jdd l) 0))(sr:jda 2 (tms c[m].2.args) (vi (1-side))=some (.elt (jdd r) 0))(kl:okT l=true)(kr:okT r=true)(nl:nodes l<=30)(nr:nodes r<=30)(p:Xi)(hpl:p.length<=1048576)(hp:p≠ []) :
  ∃o:Option Cls,G 27 [cm c,vi (m:Nat),vi side,cm d,vi (n:Nat),ints p]=jjl o/\G 29 [cm c,vi (m:Nat),vi side,cm d,vi (n:Nat),ints p]=jjl o/\ ∀x,o=some x->jgN x=true/\Sd [c,d] x:=by
 obtain⟨cd,_,_,_⟩:=jgA hd;have lc:=cc.1;have ld:=cd.1;have ce:=jtk hd;have le:=jqH d;have a1:=jxA d hd;have a2:=jqG d hd;have p1:=jis c (by omega) (m:Nat);have p2:=jis d (by omega) (n:Nat);have hi:jnC c (m:Nat)=true:=by unfold jnC;rw[jsf];exact decide_eq_true ⟨by omega,by omega⟩
 have hk:jnC d (n:Nat)=true:=by unfold jnC;rw[jsf];exact decide_eq_true ⟨by omega,by omega⟩
 have c1:ck (((c.length:Nat):Int)-1)=some (vi (((c.length:Nat):Int)-1)):=jeY (by omega) (by omega);have c2:ck ((((jfT d).length:Nat):Int)-1)=some (vi ((((jfT d).length:Nat):Int)-1)):=jeY (by omega) (by omega);have q1:=jhz (m:Nat) 0 (((c.length:Nat):Int)-1);have q2:=jhz (n:Nat) 0 ((((jfT d).length:Nat):Int)-1);have q3:=jhz side 0 1;have p3:=jiF side 0 1;have hi':inB 0 (((c.length:Nat):Int)-1) (m:Nat)=true:=hi;have hk':inB 0 ((((jfT d).length:Nat):Int)-1) (n:Nat)=true:=by rw[le];exact hk
 rw[hi']at q1;rw[hk']at q2;rw[hside]at q3 p3;rw[hi]at p1;rw[hk]at p2;have hn2:n<(jfT d).length:=by omega
 have x1:=jaa (k:=3) (f:=ltc) hm;have x3:=jaa (k:=3) (f:=ltc) hn2;have hb2:=ce.2 _ (jcF hn2);have e3:=jit c[m].2;have e4:=jlh c[m] true;rw[hs,he,decide_eq_true rfl,decide_eq_true rfl,Bool.and_self]at e4;rw[decide_eq_true he]at e3;have e4:G 67 [.agg [vb c[m].1,sv c[m].2.name,tms c[m].2.args],vb true]=some (vb true,[]):=e4;have hp0:¬((p.length:Nat):Int)=0:=by
  cases p with
  |nil=>exact(hp rfl).elim
  |cons _ _=>simp only[yv];omega
 have cs:ck (1-side)=some (vi (1-side)):=by
  unfold inB at hside;rw[Yn,Q5,Q5]at hside;exact jeY (by omega) (by omega)
 have sdx:∀{q:Xf},q≠ []->okP q (jfT d)[n].2->okT (atT q (jfT d)[n].2)=true->nodes (atT q (jfT d)[n].2)<=31-> ∀{u:jem},jjJ l (atT q (jfT d)[n].2)=some u-> ∀{x:Cls},jk2 u (c.eraseIdx m++(jfT d).eraseIdx n++[((jfT d)[n].1,jgJ r q (jfT d)[n].2)])=some x->Sd [c,d] x:=λ{q} hq hk kw nw {u} hu {x} hx=>jsH cc hd hm hn2 hs he hl2 hlr kl kr nl hq hk kw nw hu hx;generalize hL:c[m]=L at *;generalize hE:(jfT d)[n]=E at *;have tE:=hb2.1.tz (by omega);have t1:=jEb E.2 p tE hpl;have t2:=jEc E.2 p tE hpl;rw[g27,g29];cases hat:atI p E.2 with
 |none=>
  rw[hat]at t1 t2;have t1:G 57 [tm E.2,ints p]=some (.tup [.agg [sv [],.sl 2 []],vb false],[]):=t1;have t2:G 68 [tm E.2,ints p]=some (.tup [.agg [sv [],.sl 2 []],vb false],[]):=t2;refine⟨none,?_,?_,λx h=>by cases h⟩
  .simp only[evz,p1,p2,p3,x1,x3,adL,jke,ldA,ldB,ldT,hs,e3,hp0,sl,sr,cs,ja1,a1,t1];rfl
  .simp only[evz,a2,c1,q1,c2,q2,q3,x1,x3,jgV,e4,hp0,adL,jke,ldA,ldB,ldT,sl,sr,cs,ja1,t2];rfl
 |some w=>
  rw[hat]at t1 t2;have t1:G 57 [tm E.2,ints p]=some (.tup [tm w,vb true],[]):=t1;have t2:G 68 [tm E.2,ints p]=some (.tup [tm w,vb true],[]):=t2;obtain⟨q,hpe,hq,hw⟩:=jy0 hat;have hqne:q≠ []:=λh=>hp (by rw[hpe,h];rfl);have hql:q.length<=2000000:=by rw[hpe,jbw]at hpl;omega
  obtain⟨kw,nw⟩:=jAw hqne hq hb2.1.args;rw[<-hw]at kw nw;obtain⟨tzw,exw⟩:=jmp kw (by omega);obtain⟨tzl,exl⟩:=jmp kl nl;obtain⟨tzr,exr⟩:=jmp kr nr;have v1:=jh1 w (Or.inl kw);have v2:=jg8 w.name ((jgM w).1 tzw.wf).1;cases hv:jdc w.name<;>rw[hv]at v1 v2
  rotate_left
  .refine ⟨none,?_,?_,λx h=>by cases h⟩
   .simp only[evz,p1,p2,p3,x1,x3,adL,jke,ldA,ldB,ldT,hs,e3,hp0,sl,sr,cs,ja1,a1,t1,v1];rfl
   .simp only[evz,a2,c1,q1,c2,q2,q3,x1,x3,jgV,e4,hp0,adL,jke,ldA,ldB,ldT,sl,sr,cs,ja1,t2,v2];rfl
  have u1:=juN l w exl exw;have u2:=jpF l w exl exw;obtain⟨u,b,hu,hut,huf⟩:=jq7 (jjJ l w);rw[hu]at u1 u2;cases b
  .refine ⟨none,?_,?_,λx h=>by cases h⟩
   .simp only[evz,p1,p2,p3,x1,x3,adL,jke,ldA,ldB,ldT,hs,e3,hp0,sl,sr,cs,ja1,a1,t1,v1,u1];rfl
   .simp only[evz,a2,c1,q1,c2,q2,q3,x1,x3,jgV,e4,hp0,adL,jke,ldA,ldB,ldT,sl,sr,cs,ja1,t2,v2,u2];rfl
  have hval:=jni exl exw (hut rfl);have b1:=jh7 u hval l (Or.inl kl) (by omega);have b2:=jh7 u hval r (Or.inl kr) (by omega);have b3:=jia u (jhl hval).sz l tzl;have b4:=jia u (jhl hval).sz r tzr;have tsl:=AxT.sub_tz hval (Or.inl kl) (by omega);have tsr:=AxT.sub_tz hval (Or.inl kr) (by omega);have b5:=jiX (sub u l) tsl.wf tsl;have b6:=jiX (sub u r) tsr.wf tsr;rw[jlV hval kl]at b5;rw[jlV hval kr]at b6;cases s1:jfs (sub u l)<;>rw[s1]at b1 b5
  .have b1:G 60 [sb u,tm l]=some (.tup [.agg [sv [],.sl 2 []],vb false],[]):=b1;obtain⟨z,hz⟩:∃z:T×Bool,G 60 [sb u,tm r]=some (.tup [tm z.1,vb z.2],[]):=by
    cases h:jfs (sub u r)<;>rw[h]at b2
    .exact ⟨(.mk [] [],false),b2⟩
    .exact ⟨(sub u r,true),b2⟩
   refine⟨none,?_,?_,λx h=>by cases h⟩
   .simp only[evz,p1,p2,p3,x1,x3,adL,jke,ldA,ldB,ldT,hs,e3,hp0,sl,sr,cs,ja1,a1,t1,v1,u1,b1,hz];rfl
   .simp only[evz,a2,c1,q1,c2,q2,q3,x1,x3,jgV,e4,hp0,adL,jke,ldA,ldB,ldT,sl,sr,cs,ja1,t2,v2,u2,b3,b4,b5];rfl
  have b1:G 60 [sb u,tm l]=some (.tup [tm (sub u l),vb true],[]):=b1;cases s2:jfs (sub u r)<;>rw[s2]at b2 b6
  .have b2:G 60 [sb u,tm r]=some (.tup [.agg [sv [],.sl 2 []],vb false],[]):=b2;refine⟨none,?_,?_,λx h=>by cases h⟩
   .simp only[evz,p1,p2,p3,x1,x3,adL,jke,ldA,ldB,ldT,hs,e3,hp0,sl,sr,cs,ja1,a1,t1,v1,u1,b1,b2];rfl
   .simp only[evz,a2,c1,q1,c2,q2,q3,x1,x3,jgV,e4,hp0,adL,jke,ldA,ldB,ldT,sl,sr,cs,ja1,t2,v2,u2,b3,b4,b5,b6];rfl
  have b2:G 60 [sb u,tm r]=some (.tup [tm (sub u r),vb true],[]):=b2;obtain⟨o,o1,o2,_⟩:=jt3 (sub u l) (sub u r) tsl.wf tsr.wf tsl tsr (by rw[jlV hval kl];exact s1) (by rw[jlV hval kr];exact s2);by_cases h1:o=1
  .refine ⟨none,?_,?_,λx h=>by cases h⟩
   .simp only[evz,p1,p2,p3,x1,x3,adL,jke,ldA,ldB,ldT,hs,e3,hp0,sl,sr,cs,ja1,a1,t1,v1,u1,b1,b2,o2,h1];rfl
   .simp only[evz,a2,c1,q1,c2,q2,q3,x1,x3,jgV,e4,hp0,adL,jke,ldA,ldB,ldT,sl,sr,cs,ja1,t2,v2,u2,b3,b4,b5,b6,o1,h1];rfl
  by_cases h3:o=3
  .refine ⟨none,?_,?_,λx h=>by cases h⟩
   .have h13:¬(3:Int)=1:=by decide
    simp only[evz,p1,p2,p3,x1,x3,adL,jke,ldA,ldB,ldT,hs,e3,hp0,sl,sr,cs,ja1,a1,t1,v1,u1,b1,b2,o2,h3,h13];rfl
   .have h13:¬(3:Int)=1:=by decide
    simp only[evz,a2,c1,q1,c2,q2,q3,x1,x3,jgV,e4,hp0,adL,jke,ldA,ldB,ldT,sl,sr,cs,ja1,t2,v2,u2,b3,b4,b5,b6,o1,h3,h13];rfl
  have hint:=jzw q;have rp1:=jod r tzr q E.2 tE hq hql;have rp2:=jxw r tzr q E.2 tE hq hql;rw[<-hint,<-hpe]at rp1 rp2;have hbw:=jxv kr hqne hq hb2.1;have hnw:=jqk r q E.2 hq;have hlnA:=LN.append cc ce m n;have hlen8:(c.eraseIdx m).length<=8/\((jfT d).eraseIdx n).length<=8:=⟨by have:=List.length_eraseIdx_le c m;omega,by have:=List.length_eraseIdx_le (jfT d) n;have:=ce.1;omega⟩;have hln:LN (c.eraseIdx m++(jfT d).eraseIdx n++[(E.1,jgJ r q E.2)]):=⟨by
   rw[yM,yM];simp only[yv,jgS];omega,λx hx=>by
   rcases Yo.1 hx with hx|hx
   .exact hlnA.2 x hx
   .rw [jU.1 hx];exact⟨hbw,by show nodes (jgJ r q E.2)<=100;omega⟩⟩
  have w1:=jms c (by omega) m hm;have w2:=jms (jfT d) (by omega) n hn2;have w3:=jlD c (by omega) m hm;have w4:=jlD (jfT d) (by omega) n hn2;have cat:=jxJ [c.eraseIdx m,(jfT d).eraseIdx n,[(E.1,jgJ r q E.2)]] (by simp) (λx hx=>by
   simp only[yN,jby,or_false]at hx;rcases hx with rfl|rfl|rfl
   .omega
   .omega
   .simp)
  have hfl: [c.eraseIdx m,(jfT d).eraseIdx n,[(E.1,jgJ r q E.2)]].flatten=c.eraseIdx m++(jfT d).eraseIdx n++[(E.1,jgJ r q E.2)]:=by simp
  rw[hfl]at cat;have cat:jv6 [[.sl 3 ((c.eraseIdx m).map ltc)],[.sl 3 (((jfT d).eraseIdx n).map ltc)],[.sl 3 [[vb E.1,sv (jgJ r q E.2).name,tms (jgJ r q E.2).args]]]]=some (.top,[.sl 3 ((c.eraseIdx m++(jfT d).eraseIdx n++[(E.1,jgJ r q E.2)]).map ltc)]):=cat;have g1:=jnY u hval _ hln;have g2:=jm3 u hval _ hln;have hf:jcK ((c.eraseIdx m).length+((jfT d).eraseIdx n).length) 48=true:=jjg (by omega);have ha:jgo ((c.eraseIdx m).map ltc) (((jfT d).eraseIdx n).map ltc)=(c.eraseIdx m++(jfT d).eraseIdx n).map ltc:=by rw[jv];rfl
  have hf2:jcK ((c.eraseIdx m++(jfT d).eraseIdx n).length+1) 48=true:=jjg (by rw[yM];omega)
  have ha2:jgo ((c.eraseIdx m++(jfT d).eraseIdx n).map ltc) [[vb E.1,sv (jgJ r q E.2).name,tms (jgJ r q E.2).args]]=(c.eraseIdx m++(jfT d).eraseIdx n++[(E.1,jgJ r q E.2)]).map ltc:=by rw[jv (l₁:=c.eraseIdx m++(jfT d).eraseIdx n)];rfl
  refine⟨jk2 u (c.eraseIdx m++(jfT d).eraseIdx n++[(E.1,jgJ r q E.2)]),?_,?_,λx hx=>⟨joe hx,sdx hqne hq (by rw[<-hw];exact kw) (by rw[<-hw];omega) (by rw[<-hw];exact hut rfl) hx⟩⟩
  .obtain ⟨c',b',hr⟩:=jju (jk2 u (c.eraseIdx m++(jfT d).eraseIdx n++[(E.1,jgJ r q E.2)]));rw[hr]at g1⊢;generalize c.eraseIdx m++(jfT d).eraseIdx n++[(E.1,jgJ r q E.2)]=Z at *;simp only[evz,p1,p2,p3,x1,x3,adL,jke,ldA,ldB,ldT,hs,e3,hp0,sl,sr,cs,ja1,a1,t1,v1,u1,b1,b2,o2,h1,h3,rp1];generalize hB:JY _ _ _=B;have hB':B=some (ltm (E.1,jgJ r q E.2)):=by rw[<-hB];kernel_rfl
   rw[hB'];simp only[evz,w1,w2,cat,hRl,g1]
  .obtain ⟨c',b',hr⟩:=jju (jk2 u (c.eraseIdx m++(jfT d).eraseIdx n++[(E.1,jgJ r q E.2)]));rw[hr]at g2⊢;generalize c.eraseIdx m++(jfT d).eraseIdx n++[(E.1,jgJ r q E.2)]=Z at *;simp only[evz,a2,c1,q1,c2,q2,q3,x1,x3,jgV,e4,hp0,adL,jke,ldA,ldB,ldT,sl,sr,cs,ja1,t2,v2,u2,b3,b4,b5,b6,o1,h1,h3,w3,w4,hRl,hf,ha,rp2];generalize hB:JY _ _ _=B;have hB':B=some (ltm (E.1,jgJ r q E.2)):=by rw[<-hB];kernel_rfl
   rw[hB'];simp only[evz,hf2,ha2,g2]
theorem juC(c d:Cls)(hc:jgN c=true)(hd:jgN d=true)(i side k:Int)(p:Xi)(hpl:p.length<=1048576):∃o:Option Cls,G 27 [cm c,vi i,vi side,cm d,vi k,ints p]=jjl o/\G 29 [cm c,vi i,vi side,cm d,vi k,ints p]=jjl o/\ ∀x,o=some x->jgN x=true/\Sd [c,d] x:=by
 obtain⟨cc,_,_,_⟩:=jgA hc;obtain⟨cd,_,_,_⟩:=jgA hd;have lc:=cc.1;have ld:=cd.1;have le:=jqH d;have a2:=jqG d hd;have p1:=jis c (by omega) i;have p2:=jis d (by omega) k;have c1:ck (((c.length:Nat):Int)-1)=some (vi (((c.length:Nat):Int)-1)):=jeY (by omega) (by omega);have c2:ck ((((jfT d).length:Nat):Int)-1)=some (vi ((((jfT d).length:Nat):Int)-1)):=jeY (by omega) (by omega);have q1:=jhz i 0 (((c.length:Nat):Int)-1);have q2:=jhz k 0 ((((jfT d).length:Nat):Int)-1);have q3:=jhz side 0 1;have p3:=jiF side 0 1;have hi':inB 0 (((c.length:Nat):Int)-1) i=jnC c i:=rfl;have hk':inB 0 ((((jfT d).length:Nat):Int)-1) k=jnC d k:=by rw[le];rfl
 rw[hi']at q1;rw[hk']at q2;cases hi:jnC c i<;>rw[hi]at p1 q1
 .exact ⟨none,by rw[g27];simp only[evz,p1];rfl,by rw[g29];simp only[evz,a2,c1,q1];rfl,λx h=>by cases h⟩
 cases hk:jnC d k<;>rw[hk]at p2 q2
 .exact ⟨none,by rw[g27];simp only[evz,p1,p2];rfl,by rw[g29];simp only[evz,a2,c1,q1,c2,q2];rfl,λx h=>by cases h⟩
 cases hs:inB 0 1 side<;>rw[hs]at p3 q3
 .exact ⟨none,by rw[g27];simp only[evz,p1,p2,p3];rfl,by rw[g29];simp only[evz,a2,c1,q1,c2,q2,q3];rfl,λx h=>by cases h⟩
 obtain⟨m,rfl,hm⟩:=jnD hi;obtain⟨n,rfl,hn⟩:=jnD hk;have x1:=jaa (k:=3) (f:=ltc) hm;have hb1:=cc.2 _ (jcF hm);have e3:=jit c[m].2;have e4:=jlh c[m] true;have e4:G 67 [.agg [vb c[m].1,sv c[m].2.name,tms c[m].2.args],vb true]=_:=e4;by_cases hp:c[m].1=true;rotate_left
 .have hp0:c[m].1=false:=by cases h:c[m].1 with|false=>rfl|true=>exact(hp h).elim
  rw[decide_eq_false hp,Bool.false_and]at e4;refine⟨none,?_,?_,λx h=>by cases h⟩
  .rw [g27];simp only[evz,p1,p2,p3,x1,adL,ldB,hp0];rfl
  .rw [g29];simp only[evz,a2,c1,q1,c2,q2,q3,x1,jgV,e4];rfl
 rw[decide_eq_true hp,Bool.true_and]at e4;by_cases he:c[m].2.name=[61];rotate_left
 .rw [decide_eq_false he]at e3 e4;refine⟨none,?_,?_,λx h=>by cases h⟩
  .rw [g27];simp only[evz,p1,p2,p3,x1,adL,ldB,ldT,hp,e3];rfl
  .rw [g29];simp only[evz,a2,c1,q1,c2,q2,q3,x1,jgV,e4];rfl
 by_cases hne:p=[]
 .have e3':=e3;rw[decide_eq_true he]at e3' e4;subst hne;have hl:jd7 (ints [])=some (vi 0):=rfl;refine⟨none,?_,?_,λx h=>by cases h⟩
  .rw [g27];simp only[evz,p1,p2,p3,x1,adL,ldB,ldT,hp,e3',hl];rfl
  .rw [g29];simp only[evz,a2,c1,q1,c2,q2,q3,x1,jgV,e4,hl];rfl
 obtain⟨l2,k0,k1,n0,n1,i0,i1⟩:=jtx hb1.1 he hb1.2;have hside:side=0\/side=1:=by
  unfold inB at hs;rw[Yn,Q5,Q5]at hs;omega
 rcases hside with rfl|rfl
 .exact jkU c d cc hd m n hm hn hp he l2 (jkg c[m].2) (jkX c[m].2) (Or.inl ⟨rfl,rfl⟩) 0 hs i0 i1 k0 k1 n0 n1 p hpl hne
 .exact jkU c d cc hd m n hm hn hp he l2 (jkX c[m].2) (jkg c[m].2) (Or.inr ⟨rfl,rfl⟩) 1 hs i1 i0 k1 k0 n1 n0 p hpl hne
theorem jov(c d:Cls)(lc:c.length<=1048576)(zc:∀l∈c,Tz l.2)(ld:d.length<=1048576)(zd:∀l∈d,Tz l.2)(i side k:Int)(p:Xi)(hpl:p.length<=1048576):jyH [c,d] 6 7 [cm c,vi i,vi side,cm d,vi k,ints p]:=by
 have n1:=jh9 c lc zc;have n2:=jh9 d ld zd;have m1:=jiA c lc zc;have m2:=jiA d ld zd;cases hc:jgN c<;>rw[hc]at n1 m1
 .exact jme (by rw[g6];simp only[evz,n1]) (by rw[g7];simp only[evz,m1])
 cases hd:jgN d<;>rw[hd]at n2 m2
 .exact jme (by rw[g6];simp only[evz,n1,n2]) (by rw[g7];simp only[evz,m1,m2])
 obtain⟨r,e1,e2,e3⟩:=juC c d hc hd i side k p hpl;obtain⟨c',b',hr⟩:=jju r;refine⟨r,?_,?_,e3⟩
 .rw [hr]at e1⊢;rw[g6];simp only[evz,n1,n2,e1]
 .rw [hr]at e2⊢;rw[g7];simp only[evz,m1,m2,e2]
def Cz(c:Cls):Prop:=c.length<=1048576/\ ∀l∈c,Tz l.2
noncomputable def wfP(p:Prf):Bool:=decide (p.ax.length<=30) && p.ax.all jgN && decide (p.st.length<=60)
noncomputable def jIl(out:List Cls)(r:Cls):Bool:=out.any λx=>dq x r
noncomputable def jG0(out:List Cls)(r:Cls):List Cls:=if jIl out r then out else out++[r]
noncomputable def jGC:List Cls->List Cls->List Cls
 |out,[]=>out
 |out,r::l=>jGC (jG0 out r) l
def jGq(R:Nat->Option Cls):Nat->Nat->List Cls
 |0,_=>[]
 |j+1,k=>(R k).toList++jGq R j (k+1)
def jGs(R:Nat->Nat->Option Cls)(m:Nat):Nat->Nat->List Cls
 |0,_=>[]
 |j+1,i=>jGq (R i) m 0++jGs R m j (i+1)
theorem CN.cz{c:Cls}(h:CN c):Cz c:=⟨by have:=h.1;omega,h.tz⟩
theorem jst(l:List Lt)(hl:l.length<=1000)(hz:∀x∈l,Tz x.2)(i:Nat)(hi:i<l.length)(u:List Lt)(hu:u.length<=1000)(hzu:∀x∈u,Tz x.2):∀k,k<=u.length->(∀j,(h:j<k)-> ∀h':j<u.length,cmpL u[j] l[i]<0)->
  joA (vi (i:Nat)) (vi (k:Nat)) (l.map ltc) (u.map ltc) []=jlF (vi ((i+1:Nat):Int)) (l.map ltc) ((jje cmpL u l[i]).map ltc) []:=by
 have xi:pIx l.length (vi (i:Nat))=some i:=jg7 hi;have ri:=jnd hi;have rp:jec (l.map ltc) i 0=some (vb l[i].1):=by unfold jec;simp[hi,ltc]
 have rn:jeb (l.map ltc) i 1 2=some (tm l[i].2):=by unfold jeb;simp[hi,ltc]
 have e2:=jkL l[i].2 (hz _ (jcF _));have hck:ck ((i:Int)+1)=some (vi ((i+1:Nat):Int)):=jeY (by omega) (by omega);refine upto ?_ ?_
 .intro hall;obtain⟨t1,t2⟩:=jxn (p:=λa=>decide (cmpL a l[i]<0)) (jl u.length) (λj h h'=>decide_eq_true (hall j h h')) (Or.inr rfl);obtain⟨k1,k2,k3,k4,k5,k6,k7,k8,k9⟩:=joK u (by omega) u.length (jl _) l[i];have hins:jje cmpL u l[i]=u.take u.length++l[i]::u.drop u.length:=by
   unfold jje;rw[t1,t2,List.drop_length,ko (by simp)]
  have nlt:¬((u.length:Nat):Int)<((u.length:Nat):Int):=by omega
  rw[hins,jwQ];simp only[evz,nlt,xi,ri,rp,rn,e2];generalize hB:JY _ _ _=B;have hB':B=some (ltm l[i]):=by rw[<-hB];kernel_rfl
  rw[hB'];simp only[evz,k1,k2,k4,k5];rw[jc6 k3,jc6 k7,k6,jc6 k8,hck,Option.bind_some,k9]
 .intro k hk ih hall;have hlt:((k:Nat):Int)<((u.length:Nat):Int):=by omega
  have x1:pIx u.length (vi (k:Nat))=some k:=jg7 hk;have r1:=jnd hk;have e1:=jj7 u[k] l[i] (hzu _ (jcF _)) (hz _ (jcF _));rw[jwQ];by_cases hc:cmpL u[k] l[i]<0
  .have ih:=ih λj h h'=>by
    by_cases hj:j=k
    .subst hj;exact hc
    .exact hall j (by omega) h'
   have hk1:ck ((k:Int)+1)=some (vi ((k+1:Nat):Int)):=jeY (by omega) (by omega);generalize cmpL u[k] l[i]=d at *;simp only[evz,hlt,x1,r1,xi,ri,e1,hc,hk1];exact ih
  .obtain ⟨t1,t2⟩:=jxn (p:=λa=>decide (cmpL a l[i]<0)) (Nat.le_of_lt hk) (λj h h'=>decide_eq_true (hall j h h')) (Or.inl ⟨hk,decide_eq_false hc⟩);have hins:jje cmpL u l[i]=if cmpL u[k] l[i]=0 then u else u.take k++l[i]::u.drop k:=by
    unfold jje;rw[t1,t2,jdb hk];by_cases h0:cmpL u[k] l[i]=0
    .rw [jc6 h0];exact jc6 (decide_eq_true h0)
    .rw [ko h0];exact ko (λe=>h0 (of_decide_eq_true e))
   rw[hins];by_cases h0:cmpL u[k] l[i]=0
   .rw [jc6 h0];rw[h0]at e1;simp only[evz,hlt,x1,r1,xi,ri,e1,hck]
   .obtain ⟨k1,k2,k3,k4,k5,k6,k7,k8,k9⟩:=joK u (by omega) k (Nat.le_of_lt hk) l[i];rw[ko h0];generalize cmpL u[k] l[i]=d at *;simp only[evz,hlt,x1,r1,xi,ri,e1,hc,h0,rp,rn,e2];generalize hB:JY _ _ _=B;have hB':B=some (ltm l[i]):=by rw[<-hB];kernel_rfl
    rw[hB'];simp only[evz,k1,k2,k4,k5];rw[jc6 k3,jc6 k7,k6,jc6 k8,hck,Option.bind_some,k9]
theorem jvA(l:List Lt)(hl:l.length<=900)(hz:∀x∈l,Tz x.2):jyJ (l.map ltc)=some (.top,[.sl 3 ((jhe cmpL l).map ltc)]):=by
 have key:=upto (P:=λi=>∀u:List Lt,Asc cmpL u->u.length<=i->(∀x∈u,Tz x.2)->jlF (vi (i:Nat)) (l.map ltc) (u.map ltc) []=some (.top,[.sl 3 (((l.drop i).foldl (jje cmpL) u).map ltc)])) (n:=l.length) ?_ ?_ 0 (Nat.zero_le _) [] List.Pairwise.nil (jl _) (λx h=>by cases h)
 .rw [List.drop_zero]at key;simp only[Int.natCast_zero,List.map_nil]at key;rw[jFr,key];rfl
 .intro u _ _ _;have nlt:¬((l.length:Nat):Int)<((l.length:Nat):Int):=by omega
  rw[jwP,List.drop_length];simp only[evz,nlt];rfl
 .intro i hi ih u ha hu hzu;have hlt:(i:Int)<((l.length:Nat):Int):=by omega
  have:=jst l (by omega) hz i hi u (by omega) hzu 0 (Nat.zero_le _) (λj h=>absurd h (Nat.not_lt_zero _));simp only[Int.natCast_zero]at this;have h2:=ih (jje cmpL u l[i]) (jmV jhX ha l[i]).1 (by have:=jps cmpL u l[i];omega) λx hx=>by
   rcases(jtD ha l[i]).1 hx with h|h
   .exact hzu x h
   .rw [h];exact hz _ (jcF _)
  rw[jwP,jdb hi,List.foldl_cons];simp only[evz,hlt,this,h2]
def Cq(c:Cls):Prop:=c.length<=12/\ ∀l∈c,tsz l.2<=1000
theorem Cq.cz{c:Cls}(h:Cq c):Cz c:=⟨by have:=h.1;omega,λl hl=>by have:=h.2 l hl;unfold Tz;omega⟩
theorem jEu{c:Cls}(h:CN c):∀l∈c,tsz l.2<=300:=λl hl=>by have:=(h.2 l hl).1.tsz;have:=(h.2 l hl).2;omega
theorem CN.cq{c:Cls}(h:CN c):Cq c:=⟨by have:=h.1;omega,λl hl=>by have:=jEu h l hl;omega⟩
def RwD(code:Xi)(q:Nat)(a:Int)(o:Xe):Prop:=∃a' s' c,a<=a'/\a'<=a+(q:Nat)/\(List.length c<=5/\Asc cmpL c/\ ∀l∈c,LV l)/\o=some (.top,[bts code,vi a',vu s',.sl 3 (List.map ltc c)])
def CqD(code:Xi)(q:Nat)(a:Int)(o:Xe):Prop:=∃a' s' c,a<=a'/\a'<=a+(q:Nat)/\Cq c/\o=some (.top,[bts code,vi a',vu s',cm c])
def CqN(code:Xi)(q:Nat)(a:Int)(o:Xe):Prop:=∃a' s' c,a<=a'/\a'<=a+(q:Nat)/\(List.length c<=12/\ ∀l∈c,tsz (Prod.snd l)<=1000/\nmT (Prod.snd l)=true)/\o=some (.top,[bts code,vi a',vu s',cm c])
theorem CqN.cq{code:Xi}{q:Nat}{a:Int}{o:Xe}(h:CqN code q a o):CqD code q a o:=by
 obtain⟨a',s',c,h1,h2,h3,h4⟩:=h;exact⟨a',s',c,h1,h2,⟨h3.1,λl hl=>(h3.2 l hl).1⟩,h4⟩
def CnD(code:Xi)(q:Nat)(a:Int)(o:Xe):Prop:=∃a' s' c,a<=a'/\a'<=a+(q:Nat)/\CN c/\o=some (.top,[bts code,vi a',vu s',cm c])
theorem jGg{c:Cls}(h1:c.length<=5)(h2:∀l∈c,LV l):CN c:=⟨by omega,λl hl=>⟨(h2 l hl).1,by have:=(h2 l hl).2;omega⟩⟩
theorem jjV(a x0 x1 x2:A)(xs:Xc)(l:Xd):hR 3 (a,x0::x1::x2:: .sl 3 xs::l) 3=some xs:=by simp[hR]
theorem jq2{c:Cls}(h:CN c)(ha:Asc cmpL c):∃b:Bool,G 13 [cm c]=some (.tup [cm (normC c),vb b],[])/\CN (normC c):=⟨_,jn2 c h ha,h.normC⟩
section
variable{code:Xi}(hb:By code)
include hb
theorem jph(a s:Int)(h0:0<=a)(h1:a<=999950000):RwD code 500 a (jv7 (bts code) (vi a) (vu s)):=by
 obtain⟨a1,s1,ls,q1,q2,hl,hv,e1⟩:=jjX hb 4 (by decide) a s h0 (by omega);have e1:jl0 (vi 4) (bts code) (vi a) (vu s)=_:=e1;have e2:=jvA ls (by omega) (λx hx=>(hv x hx).tz);have hm:=ji0 cmpL ls;refine⟨a1,s1,jhe cmpL ls,q1,q2,⟨by omega,(jjs jhX ls).1,λl h=>hv l (jiC.1 h)⟩,?_⟩;rw[jFM];simp only[evz,e1,jjV,e2,List.getElem?_cons_zero,List.getElem?_cons_succ]
theorem jvG(a s:Int)(h0:0<=a)(h1:a<=999950000):CnD code 500 a (jyM (bts code) (vi a) (vu s)):=by
 obtain⟨a1,s1,c,q1,q2,⟨hl,ha,hv⟩,e1⟩:=jph hb a s h0 h1;obtain⟨b,e2,hcn⟩:=jq2 (jGg hl hv) ha;refine⟨a1,s1,normC c,q1,q2,hcn,?_⟩;rw[jFG];simp only[evz,e1,jjV,e2,List.getElem?_cons_zero,List.getElem?_cons_succ]
theorem jpb(a s:Int)(h0:0<=a)(h1:a<=999950000):∃a' s' l,a<=a'/\a'<=a+1300/\(tsz (Prod.snd l)<=1000/\nmT (Prod.snd l)=true)/\jv8 (bts code) (vi a) (vu s)=some (.top,[bts code,vi a',vu s',ltm l]):=by
 obtain⟨a1,s1,l,q1,q2,hv,e1⟩:=jpL hb a s h0 (by omega);obtain⟨a2,s2,x,r1,r2,x0,x1,e2⟩:=jg9 hb 16 (by decide) (by decide) a1 s1 (by omega) (by omega);have hz:=hv.tsz;rw[jFN];by_cases y0:x=0
 .subst y0;obtain⟨a3,s3,t3,u1,u2,u3,e3⟩:=jvf hb a2 s2 (by omega) (by omega);refine⟨a3,s3,(l.1,t3),by omega,by omega,u3,?_⟩;simp only[evz,e1,e2,e3,List.getElem?_cons_zero,List.getElem?_cons_succ,jCv]
 by_cases y1:x=1
 .subst y1;obtain⟨a3,s3,t3,u1,u2,u3,e3⟩:=jlR hb a2 s2 (by omega) (by omega);have hargs:l.2.args.length<=1000:=by have:=jgG l.2;omega
  have hf:jcK (l.2.args.length+1) 40=true:=jsB (by omega);have hsz:∀us:Xg,jhv (us++[t3])=jhv us+tsz t3:=by
   intro us;induction us with
   |nil=>simp[jhv]
   |cons u us ih=>simp only[jG,jhv];omega
  have hq:=jgG l.2;refine⟨a3,s3,(l.1,.mk l.2.name (l.2.args++[t3])),by omega,by omega,⟨by show tsz (.mk _ _)<=1000;rw[jif,hsz,yM,List.length_singleton];omega,jtW (nmN hv.2.2) (by rw[jpS,nmA hv.2.2,jjM,u3.2];rfl)⟩,?_⟩;simp only[evz,e1,e2,e3,hf,jbw,List.getElem?_cons_zero,List.getElem?_cons_succ,jCv,jhF];show _=some (A.top,[bts code,vi a3,vu s3,A.agg [vb l.1,sv l.2.name,.sl 2 ((l.2.args++[t3]).map jdd)]]);rw[jv,j5,jfY t3];rfl
 .refine ⟨a2,s2,l,by omega,by omega,⟨by omega,hv.2.2⟩,?_⟩;simp only[evz,e1,e2,y0,y1,List.getElem?_cons_zero,List.getElem?_cons_succ,jCv]
theorem jvC:∀(k i:Nat),i+k=9-> ∀(c:Cls),c.length=i->(∀l∈c,tsz l.2<=1000/\nmT l.2=true)-> ∀a s:Int,0<=a->a<=999980000-10*(k:Nat)->CqN code (2*k+2) a (jlH (vi (i:Nat)) (bts code) (vi a) (vu s) (c.map ltc) []):=by
 intro k;induction k with
 |zero=>
  intro i hi c hc hz a s h0 h1;obtain⟨a1,s1,x,q1,q2,x0,x1,e1⟩:=jg9 hb 2 (by decide) (by decide) a s h0 (by omega);have c1:ck (8+x)=some (vi (8+x)):=jeY (by omega) (by omega);have nlt:¬((i:Nat):Int)<8+x:=by omega
  refine⟨a1,s1,c,q1,by omega,⟨by omega,hz⟩,?_⟩;rw[jsn];simp only[evz,e1,c1,nlt,List.getElem?_cons_zero,List.getElem?_cons_succ]
 |succ k ih=>
  intro i hi c hc hz a s h0 h1;obtain⟨a1,s1,x,q1,q2,x0,x1,e1⟩:=jg9 hb 2 (by decide) (by decide) a s h0 (by omega);have c1:ck (8+x)=some (vi (8+x)):=jeY (by omega) (by omega);by_cases hlt:((i:Nat):Int)<8+x
  .have n1:=jlq i (by omega);have hd:=(jhS 6 i (by omega)).2;have a2:jeH .add false (sv [112]) (sv (Lib.decDigits i))=some (sv ([112]++Lib.decDigits i)):=by rw[jkm,jc6 (by simp only[yv,jgS];omega)]
   obtain⟨a3,s3,w,hw,r1,r2,e3⟩:=joM hb [[88],[89]] (by decide) (by decide) (by decide) a1 s1 (by omega) (by omega);have e3:ji8 (bts code) (vi a1) (vu s1) [[sv [88]],[sv [89]]]=some (.top,[bts code,vi a3,vu s3,sv w]):=e3;have f1:jcK (c.length+1) 48=true:=jjg (by omega);have c5:ck ((i:Int)+1)=some (vi ((i+1:Nat):Int)):=jeY (by omega) (by omega);obtain⟨a4,s4,c',v1,v2,v3,e4⟩:=ih (i+1) (by omega) (c++[(true,.mk ([112]++Lib.decDigits i) [.mk w []])]) (by rw[yM,List.length_singleton];omega) (λl h=>by
    rcases Yo.1 h with h|h
    .exact hz l h
    .rw [jU.1 h];refine⟨?_,nm1 rfl (nm0 hw.2)⟩;show tsz (.mk _ _)<=1000;rw[jif];simp only[yM,yv,jgS,jhv,jif];omega) a3 s3 (by omega) (by omega)
   refine⟨a4,s4,c',by omega,by omega,v3,?_⟩;rw[<-jkx]at e4;have e4:jlH (vi ((i+1:Nat):Int)) (bts code) (vi a3) (vu s3) (jgo (c.map ltc) [[vb true,sv ([112]++Lib.decDigits i),.sl 2 [[sv w,.sl 2 []]]]]) []=_:=e4;rw[jsn];generalize [112]++Lib.decDigits i=nm at *;simp only[evz,e1,c1,hlt,n1,a2,e3,f1,c5,e4,List.getElem?_cons_zero,List.getElem?_cons_succ]
  .refine ⟨a1,s1,c,q1,by omega,⟨by omega,hz⟩,?_⟩;rw[jsn];simp only[evz,e1,c1,hlt,List.getElem?_cons_zero,List.getElem?_cons_succ]
theorem jqp(a s:Int)(h0:0<=a)(h1:a<=999940000):CqN code 2000 a (jsV (bts code) (vi a) (vu s)):=by
 obtain⟨a1,s1,c,q1,q2,⟨hl,ha,hv⟩,e1⟩:=jph hb a s h0 (by omega);obtain⟨a2,s2,x,r1,r2,x0,x1,e2⟩:=jg9 hb 20 (by decide) (by decide) a1 s1 (by omega) (by omega);have hz:∀l∈c,tsz l.2<=1000/\nmT l.2=true:=λl h=>⟨by have:=(hv l h).tsz;omega,(hv l h).2.2⟩;have hq:List.length c<=12/\ ∀l∈c,tsz (Prod.snd l)<=1000/\nmT (Prod.snd l)=true:=⟨by omega,hz⟩;have f1:jcK (c.length+1) 48=true:=jjg (by omega);rw[jFy];by_cases y0:x=0
 .subst y0;obtain⟨a3,s3,l,u1,u2,u3,e3⟩:=jpb hb a2 s2 (by omega) (by omega);refine⟨a3,s3,c++[l],by omega,by omega,⟨by rw[yM,List.length_singleton];omega,λy h=>by
   rcases Yo.1 h with h|h
   .exact hz y h
   .rw [jU.1 h];exact u3⟩,?_⟩
  have e3:jv8 (bts code) (vi a2) (vu s2)=some (.top,[bts code,vi a3,vu s3,.agg [vb l.1,sv l.2.name,tms l.2.args]]):=e3;show _=some (A.top,[bts code,vi a3,vu s3,.agg [.sl 3 ((c++[l]).map ltc)]]);rw[<-jkx];simp only[evz,e1,e2,e3,jjV,f1,List.getElem?_cons_zero,List.getElem?_cons_succ]
 by_cases y1:x=1
 .subst y1;by_cases hg:(1:Int)<((c.length:Nat):Int)
  .obtain ⟨l0,l1,r,rfl⟩:∃l0 l1 r,c=l0::l1::r:=by
    match c,hg with
    |l0::l1::r,_=>exact⟨l0,l1,r,rfl⟩
    | [],h=>simp at h
    | [x],h=>simp at h
   refine⟨a2,s2,l1::l0::r,by omega,by omega,⟨by simp only[yv]at hl⊢;omega,λy h=>hz y (by
    simp only[yN]at h⊢;rcases h with h|h|h
    .exact Or.inr (Or.inl h)
    .exact Or.inl h
    .exact Or.inr (Or.inr h))⟩,?_⟩
   have i0:pIx ((l0::l1::r).map ltc).length (vi 0)=some 0:=jAL (f:=ltc) (xs:=l0::l1::r) (i:=0) (by simp);have i1:pIx ((l0::l1::r).map ltc).length (vi 1)=some 1:=jAL (f:=ltc) (xs:=l0::l1::r) (i:=1) (by simp);have j1:pIx ((l1::l1::r).map ltc).length (vi 1)=some 1:=jAL (f:=ltc) (xs:=l1::l1::r) (i:=1) (by simp);have r0:jeb ((l0::l1::r).map ltc) 0 0 3=some (.agg [vb l0.1,sv l0.2.name,tms l0.2.args]):=rfl;have r1:jeb ((l0::l1::r).map ltc) 1 0 3=some (.agg [vb l1.1,sv l1.2.name,tms l1.2.args]):=rfl;have g0:jfx ((l0::l1::r).map ltc) 0=some (ltc l0):=rfl;have s0:jau ((l0::l1::r).map ltc) 0 (jfg (ltc l0) 0 [vb l1.1,sv l1.2.name,tms l1.2.args])=(l1::l1::r).map ltc:=rfl;have g1:jfx ((l1::l1::r).map ltc) 1=some (ltc l1):=rfl;have s1':jau ((l1::l1::r).map ltc) 1 (jfg (ltc l1) 0 [vb l0.1,sv l0.2.name,tms l0.2.args])=(l1::l0::r).map ltc:=rfl;have hg:(1:Int)<((((l0::l1::r).map ltc).length:Nat):Int):=by rw[jbw];exact hg
   have n0:jeH .eql false (vi 1) (vi 0)=some (vb false):=rfl;show _=some (A.top,[bts code,vi a2,vu s2,.agg [.sl 3 ((l1::l0::r).map ltc)]]);rw[<-s1'];generalize (l0::l1::r).map ltc=X at *;generalize (l1::l1::r).map ltc=Y at *;simp only[evz,e1,e2,y0,jjV,hg,i0,r0,i1,r1,g0,s0,j1,g1,List.getElem?_cons_zero,List.getElem?_cons_succ]
  .refine ⟨a2,s2,c,by omega,by omega,hq,?_⟩;simp only[evz,e1,e2,y0,hg,jjV,List.getElem?_cons_zero,List.getElem?_cons_succ]
 by_cases y2:x=2
 .subst y2;obtain⟨a3,s3,c',u1,u2,u3,e3⟩:=jvC hb 9 0 (by decide) [] rfl (λl h=>by cases h) a2 s2 (by omega) (by omega);have e3:jlH (vi 0) (bts code) (vi a2) (vu s2) [] []=_:=e3;refine⟨a3,s3,c',by omega,by omega,u3,?_⟩;simp only[evz,e1,e2,y0,y1,e3,jjV,List.getElem?_cons_zero,List.getElem?_cons_succ]
 by_cases y3:x=3
 .subst y3;by_cases hg:(0:Int)<((c.length:Nat):Int)
  .have hi:c.length-1<c.length:=by omega
   have c1:ck (((c.length:Nat):Int)-1)=some (vi ((c.length-1:Nat):Int)):=by rw[show((c.length:Nat):Int)-1=((c.length-1:Nat):Int) by omega];exact jeY (by omega) (by omega)
   have i1:pIx c.length (vi ((c.length-1:Nat):Int))=some (c.length-1):=jg7 hi;have r1:=jnd hi;have hzl:=hz _ (jcF hi);generalize c[c.length-1]=l at r1 hzl;have r1:jeb (c.map ltc) (c.length-1) 0 3=some (.agg [vb l.1,sv l.2.name,tms l.2.args]):=r1;refine⟨a2,s2,c++[l],by omega,by omega,⟨by rw[yM,List.length_singleton];omega,λy h=>by
    rcases Yo.1 h with h|h
    .exact hz y h
    .rw [jU.1 h];exact hzl⟩,?_⟩
   show _=some (A.top,[bts code,vi a2,vu s2,.agg [.sl 3 ((c++[l]).map ltc)]]);rw[<-jkx];simp only[evz,e1,e2,y0,y1,y2,jjV,hg,c1,i1,r1,f1,List.getElem?_cons_zero,List.getElem?_cons_succ]
  .refine ⟨a2,s2,c,by omega,by omega,hq,?_⟩;simp only[evz,e1,e2,y0,y1,y2,hg,jjV,List.getElem?_cons_zero,List.getElem?_cons_succ]
 .refine ⟨a2,s2,c,by omega,by omega,hq,?_⟩;simp only[evz,e1,e2,y0,y1,y2,y3,jjV,List.getElem?_cons_zero,List.getElem?_cons_succ]
theorem jl1(a s:Int)(h0:0<=a)(h1:a<=999940000):CqD code 2000 a (jsV (bts code) (vi a) (vu s)):=(jqp hb a s h0 h1).cq
theorem jl2(a s:Int)(h0:0<=a)(h1:a<=999930000):CqD code 2001 a (jvZ (bts code) (vi a) (vu s)):=by
 obtain⟨a1,s1,b,q1,q2,e1⟩:=jhV hb 16 (by decide) (by decide) a s h0 (by omega);rw[jFv];cases b with
 |true=>
  obtain⟨a2,s2,c,r1,r2,r3,e2⟩:=jl1 hb a1 s1 (by omega) (by omega);refine⟨a2,s2,c,by omega,by omega,r3,?_⟩;simp only[evz,e1,e2,List.getElem?_cons_zero,List.getElem?_cons_succ]
 |false=>
  obtain⟨a2,s2,c,r1,r2,r3,e2⟩:=jvG hb a1 s1 (by omega) (by omega);refine⟨a2,s2,c,by omega,by omega,r3.cq,?_⟩;simp only[evz,e1,e2,List.getElem?_cons_zero,List.getElem?_cons_succ]
omit hb in
theorem made{ls:List Lt}(hl:ls.length<=20)(hz:∀l∈ls,tsz l.2<=1000)(p:Bool){u:List (Xb×T)}(hu:u.length<=4/\Sz 192 u){t:T}(ht:tsz t<=1000):∃e:Cls,
  G 17 [sb u,tm t]=some (tm (sub u t),[])/\G 14 [.sl 3 ((ls++[(p,sub u t)]).map ltc)]=some (cm e,[])/\G 21 [cm e]=some (vb (jg1 e),[])/\(jg1 e=true-> ∃b:Bool,G 13 [cm e]=some (.tup [cm (normC e),vb b],[])/\CN (normC e)):=by
 have e1:=jia u ⟨by omega,λq hq=>by have:=hu.2.2 q hq;omega⟩ t (by omega)
 have hsz:=jqc (u:=u) (Z:=192) (by decide) (λq hq=>(hu.2.2 q hq).2) t;have hz':∀l∈ls++[(p,sub u t)],Tz l.2:=λl h=>by
  rcases Yo.1 h with h|h
  .have:=hz l h;unfold Tz;omega
  .rw [jU.1 h];show tsz (sub u t)<=1048576;omega
 have e2:=jiY (ls++[(p,sub u t)]) (by rw[yM,List.length_singleton];omega) hz'
 have hm:=ji0 cmpL (ls++[(p,sub u t)]);rw[yM,List.length_singleton]at hm;have e3:=jiB (jhe cmpL (ls++[(p,sub u t)])) (by omega) (λl h=>hz' l (jiC.1 h));exact⟨_,e1,e2,e3,λhv=>jq2 (jhD hv).1 (jhD hv).2.1⟩
end
noncomputable def jlY(code:Xi)(s:Int)(hs:1<=s):Mdl:=⟨jhA code s,λn vs=>decide (jpP code (126::n) vs % 2=1),λv=>0<=v/\v<s,jnI s hs⟩
section
variable{code:Xi}(hb:By code)
include hb
theorem jvW(s:Int)(hs:1<=s/\s<=10)(E:Env)(hEl:E.length<=4000000)(hE:∀x,0<=jg0 E x/\jg0 E x<s)(t:T)(ht:Tz t):G 76 [bts code,vi s,ev E,tm t]=some (vb (jhR (jlY code s hs.1) (jg0 E) t),[]):=by
 have hz:=ht;unfold Tz at hz;rw[jgG]at hz;have hv:∀v∈t.args.map (val (jhA code s) (jg0 E)),0<=v/\v<=10:=by
  intro v hv;obtain⟨u,_,rfl⟩:=jN.1 hv;have:=jqj (good:=λv=>0<=v/\v<s) (M:=jhA code s) (jnI s hs.1) hE u;omega
 have key:=upto (P:=λi=>js8 (bts code) (vi s) (vi (i:Nat)) (.sl 1 (E.map λp=>cs p.1)) (.sl 1 (E.map λp=>ci p.2)) (sv t.name) (tms t.args) (((t.args.take i).map (val (jhA code s) (jg0 E))).map ci)=some (vb (jhR (jlY code s hs.1) (jg0 E) t),[])) (n:=t.args.length) ?_ ?_ 0 (Nat.zero_le _)
 .rw [g76];exact key
 .obtain ⟨m0,me⟩:=jw2 hb (126::t.name) (by rw[yv];omega) _ hv (by rw[jbw];omega)
  have r:=jqz (x:=jpP code (126::t.name) (t.args.map (val (jhA code s) (jg0 E)))) (n:=2) m0 (by decide);have sa:jeH .add false (sv [126]) (sv t.name)=some (sv (126::t.name)):=by rw[jkm,jc6 (by simp;omega)];rfl
  have lt0:¬((t.args.length:Nat):Int)<((t.args.length:Nat):Int):=by omega
  have hlen:(t.args.map (val (jhA code s) (jg0 E))).length=t.args.length:=jbw ..;rw[List.take_length,jDL];by_cases hn:t.name=[61]
  .by_cases h2:t.args.length=2
   .have ha:=jsa h2;have hh:jhR (jlY code s hs.1) (jg0 E) t=decide (val (jhA code s) (jg0 E) (jk1 t)=val (jhA code s) (jg0 E) (jk3 t)):=by
     unfold jhR;rw[jc6 ⟨hn,h2⟩];rfl
    rw[hh];have hm:(t.args.map (val (jhA code s) (jg0 E))).map ci=[[vi (val (jhA code s) (jg0 E) (jk1 t))],[vi (val (jhA code s) (jg0 E) (jk3 t))]]:=by rw[ha];rfl
    rw[hm];generalize val (jhA code s) (jg0 E) (jk1 t)=x at *;generalize val (jhA code s) (jg0 E) (jk3 t)=y at *;have p0:pIx 2 (vi 0)=some 0:=rfl;have p1:pIx 2 (vi 1)=some 1:=rfl;have q0:jec [[vi x],[vi y]] 0 0=some (vi x):=rfl;have q1:jec [[vi x],[vi y]] 1 0=some (vi y):=rfl;have hl2:([[vi x],[vi y]]:Xc).length=2:=rfl;have h22:((2:Nat):Int)=2:=rfl;generalize hR: [[vi x],[vi y]]=R at *;simp only[evz,lt0,hn,hl2,h22,p0,p1,q0,q1]
   .have hh:jhR (jlY code s hs.1) (jg0 E) t=decide (jpP code (126::t.name) (t.args.map (val (jhA code s) (jg0 E))) % 2=1):=by
     unfold jhR;rw[ko (λh=>h2 h.2)];rfl
    have h2':¬((t.args.length:Nat):Int)=2:=by omega
    rw[hh];generalize t.args.map (val (jhA code s) (jg0 E))=vs at *;have hl:((vs.length:Nat):Int)=((t.args.length:Nat):Int):=by rw[hlen]
    rw[hn]at sa me r;simp only[evz,lt0,hn,hl,h2',sa,me,r]
  .have hh:jhR (jlY code s hs.1) (jg0 E) t=decide (jpP code (126::t.name) (t.args.map (val (jhA code s) (jg0 E))) % 2=1):=by
    unfold jhR;rw[ko (λh=>hn h.1)];rfl
   rw[hh];generalize t.args.map (val (jhA code s) (jg0 E))=vs at *;simp only[evz,lt0,hn,sa,me,r]
 .intro i hi ihi;have hlt:(i:Int)<((t.args.length:Nat):Int):=by omega
  have h5:=jef hi (by show t.args.length<=9223372036854775807;omega)
  have e1:=jyv hb s hs E hEl hE t.args[i] (ht.args _ (jcF hi));have f:jcK (i+1) 8=true:=jCO (by omega);have hmin:min i t.args.length=i:=by omega
  rw[List.take_succ_eq_append_getElem hi,jv,jv,show([t.args[i]].map (val (jhA code s) (jg0 E))).map ci=[[vi (val (jhA code s) (jg0 E) t.args[i])]] from rfl]at ihi;rw[jDL];generalize val (jhA code s) (jg0 E) t.args[i]=v at *;have ihi:js8 (bts code) (vi s) (vi ((i+1:Nat):Int)) (.sl 1 (E.map λp=>cs p.1)) (.sl 1 (E.map λp=>ci p.2)) (sv t.name) (tms t.args) (jgo (((t.args.take i).map (val (jhA code s) (jg0 E))).map ci) [[vi v]])=_:=ihi;have hlen:(((t.args.take i).map (val (jhA code s) (jg0 E))).map ci).length=i:=by simp[hmin]
  generalize ((t.args.take i).map (val (jhA code s) (jg0 E))).map ci=R at *;have f2:jcK (R.length+1) 8=true:=by rw[hlen];exact f
  simp only[evz,hlt,jaa hi,ja1,e1,h5,f2,ihi]
end
def vnC(l:Xa)(c:Cls):Xa:=c.foldl (λl x=>vn l x.2) l
theorem jFb{t:T}(hk:okT t=true){l:Xa}(hl:l.Nodup):(vn l t).Nodup/\(∀x∈l,x∈vn l t)/\ ∀x∈jgi t,x∈vn l t:=by
 obtain⟨a,_,b,c⟩:=jBr (S:=l++jgi t) t hk (λx hx=>JL _ hx) l hl (λx hx=>jbv _ hx);exact⟨a,b,c⟩
theorem jxt:∀{ts:Xg}{l:Xa},(∀t∈ts,okT t=true)->l.Nodup->(vnL l ts).Nodup/\(∀x∈l,x∈vnL l ts)/\ ∀t∈ts,∀x∈jgi t,x∈vnL l ts
 | [],l,_,hl=>⟨hl,λx h=>h,λt h=>by cases h⟩
 |t::ts,l,hk,hl=>by
  obtain⟨a,b,c⟩:=jFb (hk t (Q1 ..)) hl;obtain⟨a',b',c'⟩:=jxt (ts:=ts) (λu hu=>hk u (kO _ hu)) a;refine⟨a',λx hx=>b' x (b x hx),λu hu x hx=>?_⟩;rcases yN.1 hu with rfl|hu
  .exact b' x (c x hx)
  .exact c' u hu x hx
theorem jFp{t:T}(h:Bx t):upN t.name=false:=h.elim (λh=>by rw[h.1];decide) λh=>jkQ h.1
theorem jDb{t:T}(h:Bx t)(l:Xa):vn l t=vnL l t.args:=by rw[jxu,jFp h,Bool.and_false,ko Bool.false_ne_true]
theorem jxs:∀{c:Cls}{l:Xa},(∀y∈c,Bx y.2)->l.Nodup->(∀x∈l,x∈vnC l c)/\ ∀y∈c,∀t∈y.2.args,∀x∈jgi t,x∈vnC l c
 | [],l,_,hl=>⟨λx h=>h,λy h=>by cases h⟩
 |y::c,l,hk,hl=>by
  have hy:=hk y (Q1 ..);obtain⟨a,b,d⟩:=jxt (ts:=y.2.args) hy.args hl;rw[<-jDb hy]at a b d;obtain⟨a',b'⟩:=jxs (c:=c) (l:=vn l y.2) (λz hz=>hk z (kO _ hz)) a;refine⟨λx hx=>a' x (b x hx),λz hz t ht x hx=>?_⟩;rcases yN.1 hz with rfl|hz
  .exact a' x (d t ht x hx)
  .exact b' z hz t ht x hx
theorem jy7{m:Mdl}{e e':Xb->Int}{c:Cls}(hk:∀y∈c,Bx y.2)(h:∀x∈vnC [] c,e x=e' x)(hc:clV m e c):clV m e' c:=by
 obtain⟨y,hy,hv⟩:=hc;refine⟨y,hy,?_⟩;rw[<-hv];refine jmU rfl (List.map_congr_left λt ht=>?_);exact jrt t ((hk y hy).args t ht) λx hx=>(h x ((jxs (l:=[]) hk List.nodup_nil).2 y hy t ht x hx)).symm
def joi(s:Nat):Nat->Nat->Nat
 |0,a=>a
 |k+1,a=>if a<200 then joi s k (a*s)else a
theorem jwy{s:Nat}(hs:s<=3):∀(k a:Nat),a<=600->joi s k a<=600
 |0,a,h=>h
 |k+1,a,h=>by
  rw[joi];split
  .refine jwy hs k _ ?_;have:a*s<=a*3:=Nat.mul_le_mul_left _ hs;omega
  .exact h
theorem jth:∀k:Nat,joi 1 k 1=1
 |0=>rfl
 |k+1=>by rw[joi,jc6 (by decide),Nat.mul_one,jth k]
theorem jve{s k:Nat}(h1:1<=s)(hs:s<=3)(hk:s=1\/k<=4):joi s k 1=s ^ k:=by
 rcases hk with rfl|hk
 .rw [jth,Nat.one_pow]
 .have:∀s,s<4-> ∀k,k<5->joi s k 1=s ^ k:=by decide
  exact this s (by omega) k (by omega)
section
variable{code:Xi}(hb:By code)
include hb
theorem jsP(s:Nat)(hs:1<=s/\s<=3)(hs1:(1:Int)<=(s:Int))(c:Cls)(hc:c.length<=1000)(hz:∀l∈c,Tz l.2)(al:A)(k:Nat)(hk:k<=1000)(names:Xa)(E:Env)(hEl:E.length<=4000000)(hE:∀x,0<=jg0 E x/\jg0 E x<(s:Int)) :
  ∀i,i<=c.length-> ∀b:Bool,js1 (bts code) (vi (s:Nat)) al (vi (k:Nat)) (vb b) (vi (i:Nat)) (.sl 3 (c.map ltc)) (names.map cs) (E.map λp=>cs p.1) (E.map λp=>ci p.2) =
   if b || (c.drop i).any (λl=>decide (jhR (jlY code s hs1) (jg0 E) l.2=l.1))then jo7 (bts code) (vi (s:Nat)) al (vi ((k+1:Nat):Int)) (.sl 3 (c.map ltc)) (names.map cs)else some (vb false,[]):=by
 have ck1:jeH .add false (vi (k:Nat)) (vi 1)=some (vi ((k+1:Nat):Int)):=jef (n:=k+1) (by omega) (by omega);have ld2:∀l:Lt,jar 2 (.elt (ltc l) 1)=some (tm l.2):=λl=>rfl;have ld0:∀l:Lt,jas (.elt (ltc l) 0)=some (vb l.1):=λl=>rfl;have ad:∀(l:Lt)(n:Nat),jeG (.elt (ltc l) 0) n=some (.elt (ltc l) n):=λl n=>by rw[jhj,jfO]
 generalize hZ:jo7 (bts code) (vi (s:Nat)) al (vi ((k+1:Nat):Int)) (.sl 3 (c.map ltc)) (names.map cs)=Z;refine upto ?_ ?_
 .intro b;have nlt:¬((c.length:Nat):Int)<((c.length:Nat):Int):=by omega
  rw[List.drop_length,List.any_nil,Bool.or_false,jDv];cases b<;>simp only[evz,nlt,ck1,hZ]
 .intro i hi ih b;have hlt:(i:Int)<((c.length:Nat):Int):=by omega
  have h5:=jef hi (by show c.length<=9223372036854775807;omega)
  have x1:jda 3 (.sl 3 (c.map ltc)) (vi (i:Nat))=some (.elt (ltc c[i]) 0):=jaa hi;have e:=jvW hb (s:Nat) (by omega) E hEl hE c[i].2 (hz _ (jcF hi));rw[jdb hi,List.any_cons,jDv];generalize c[i]=l at x1 e⊢;cases b with
  |true=>simp only[evz,hlt,ck1,hZ,Bool.true_or]
  |false=>
   have ih:=ih (decide (jhR (jlY code s hs1) (jg0 E) l.2=l.1));rw[Bool.false_or];generalize jhR (jlY code s hs1) (jg0 E) l.2=h at e ih⊢;rw[<-ih];simp only[evz,hlt,x1,ad,ld2,ld0,e,h5]
omit hb in
theorem jvD(s:Nat)(c:Cls)(hc:c.length<=1000)(hz:∀l∈c,Tz l.2)(hn:∀l∈c,nodes l.2<=3000):∀i,i<=c.length-> ∀l:Xa,l.length<=3000*i->jwg (bts code) (vi (s:Nat)) (vi (i:Nat)) (.sl 3 (c.map ltc)) (l.map cs)=js0 (bts code) (vi (s:Nat)) (vi 1) (vi 0) (.sl 3 (c.map ltc)) ((vnC l (c.drop i)).map cs):=by
 have ld2:∀l:Lt,jar 2 (.elt (ltc l) 1)=some (tm l.2):=λl=>rfl;have ad:∀(l:Lt)(n:Nat),jeG (.elt (ltc l) 0) n=some (.elt (ltc l) n):=λl n=>by rw[jhj,jfO]
 have hr:∀x:Xc,hR 1 (A.top,[.sl 1 x]) 0=some x:=λx=>rfl;refine upto ?_ ?_
 .intro l hl;have nlt:¬((c.length:Nat):Int)<((c.length:Nat):Int):=by omega
  rw[List.drop_length,jDt];simp only[evz,nlt,vnC,List.foldl_nil]
 .intro i hi ih l hl;have hlt:(i:Int)<((c.length:Nat):Int):=by omega
  have h5:=jef hi (by show c.length<=9223372036854775807;omega)
  have x1:jda 3 (.sl 3 (c.map ltc)) (vi (i:Nat))=some (.elt (ltc c[i]) 0):=jaa hi;have hm:=jcF hi;have nn:=hn _ hm;have e:=jro c[i].2 (hz _ hm) l (by omega);have ln:=jsS c[i].2 l;have ih:=ih (vn l c[i].2) (by omega);rw[jdb hi,show vnC l (c[i]::c.drop (i+1))=vnC (vn l c[i].2) (c.drop (i+1)) from rfl,<-ih,jDt];generalize c[i]=y at x1 e⊢;simp only[evz,hlt,x1,ad,ld2,e,hr,h5]
omit hb in
theorem jyA(s:Nat)(hs:1<=s/\s<=3)(C:A)(names:Xa)(hn:names.length<=3000000):∀i,i<=names.length-> ∀a:Nat,a<=600->js0 (bts code) (vi (s:Nat)) (vi (a:Nat)) (vi (i:Nat)) C (names.map cs)=jo7 (bts code) (vi (s:Nat)) (vi ((joi s (names.length-i) a:Nat):Int)) (vi 0) C (names.map cs):=by
 refine upto ?_ ?_
 .intro a ha;have nlt:¬((names.length:Nat):Int)<((names.length:Nat):Int):=by omega
  rw[Nat.sub_self,joi,jAe];simp only[evz,nlt]
 .intro i hi ih a ha;have hlt:(i:Int)<((names.length:Nat):Int):=by omega
  have h5:=jef hi (by show names.length<=9223372036854775807;omega)
  rw[show names.length-i=(names.length-(i+1))+1 by omega,joi];by_cases h2:a<200
  .have h2':(a:Int)<200:=by omega
   have hm:a*s<=600:=by have:a*s<=a*3:=Nat.mul_le_mul_left _ hs.2;omega
   have c1:ck ((a:Int)*((s:Nat):Int))=some (vi ((a*s:Nat):Int)):=by rw[<-Int.natCast_mul,jeY (by omega) (by omega)]
   have ih:=ih (a*s) hm;rw[jc6 h2,<-ih,jAe];simp only[evz,hlt,h2',c1,h5]
  .have h2':¬(a:Int)<200:=by omega
   rw[ko h2,jAe];simp only[evz,hlt,h2']
theorem jog(s:Nat)(hs:1<=s/\s<=3)(hs1:(1:Int)<=(s:Int))(c:Cls)(hc:c.length<=1000)(hz:∀l∈c,Tz l.2)(hn:∀l∈c,nodes l.2<=3000)(hnm:(vnC [] c).length<=1000) :
  ∃b,G 31 [bts code,vi (s:Nat),cm c]=some (vb b,[])/\(b=true↔ ∀k,k<joi s (vnC [] c).length 1->clV (jlY code s hs1) (jg0 (jnB s (vnC [] c) k)) c):=by
 have e0:=jvD (code:=code) s c hc hz hn 0 (Nat.zero_le _) [] (Nat.zero_le _);have hall:=jwy hs.2 (vnC [] c).length 1 (by decide);have e1:=jyA (code:=code) s hs (.sl 3 (c.map ltc)) (vnC [] c) (by omega) 0 (Nat.zero_le _) 1 (by decide);rw[Nat.sub_zero]at e1;simp only[Int.natCast_zero,Int.natCast_one,List.drop_zero,List.map_nil]at e0 e1;generalize vnC [] c=names at *;generalize joi s names.length 1=n at *;have key:∀k,k<=n-> ∃b,jo7 (bts code) (vi (s:Nat)) (vi (n:Nat)) (vi (k:Nat)) (.sl 3 (c.map ltc)) (names.map cs)=some (vb b,[])/\(b=true↔ ∀k',k<=k'->k'<n->clV (jlY code s hs1) (jg0 (jnB s names k')) c):=by
  refine upto ?_ ?_
  .refine ⟨true,?_,by simp;intro k' h1 h2;omega⟩
   have nlt:¬((n:Nat):Int)<((n:Nat):Int):=by omega
   rw[jAf];simp only[evz,nlt]
  .rintro k hk ⟨b,e,hbb⟩;have hlt:(k:Int)<((n:Nat):Int):=by omega
   have en:=juO (code:=code) s hs (vi (n:Nat)) (vi (k:Nat)) (.sl 3 (c.map ltc)) names hnm names.length 0 k [] (by omega) rfl (by omega);have el:=jsP hb s hs hs1 c hc hz (vi (n:Nat)) k (by omega) names (jnB s names k) (by rw[jzp];omega) (jqP hs.1 names k) 0 (Nat.zero_le _) false;simp only[Int.natCast_zero]at el;rw[List.drop_zero,zx,show names.zip ((dec s names.length k).map λv=>((v:Nat):Int))=jnB s names k from rfl,el,Bool.false_or,List.drop_zero,e]at en;have hcl:c.any (λl=>decide (jhR (jlY code s hs1) (jg0 (jnB s names k)) l.2=l.1))=true↔clV (jlY code s hs1) (jg0 (jnB s names k)) c:=by
    rw[List.any_eq_true];unfold clV;simp only[Q5]
   simp only[Int.natCast_zero,List.map_nil]at en;by_cases ha:c.any (λl=>decide (jhR (jlY code s hs1) (jg0 (jnB s names k)) l.2=l.1))=true
   .rw [jc6 ha]at en;refine⟨b,by rw[jAf];simp only[evz,hlt,en],hbb.trans ⟨λh k' h1 h2=>?_,λh k' h1 h2=>h k' (by omega) h2⟩⟩;by_cases hkk:k'=k
    .rw [hkk];exact hcl.1 ha
    .exact h k' (by omega) h2
   .rw [ko ha]at en;refine⟨false,by rw[jAf];simp only[evz,hlt,en],⟨λh=>(by cases h),λh=>absurd (hcl.2 (h k (jl _) hk)) ha⟩⟩
 obtain⟨b,e,hbb⟩:=key 0 (Nat.zero_le _);simp only[Int.natCast_zero]at e;refine⟨b,?_,hbb.trans ⟨λh k hk=>h k (Nat.zero_le _) hk,λh k _ hk=>h k hk⟩⟩;rw[g31];simp only[evz,e0,e1,e]
theorem jsQ(s:Nat)(hs:1<=s/\s<=3)(hs1:(1:Int)<=(s:Int))(c:Cls)(hc:c.length<=1000)(hz:∀l∈c,Tz l.2)(hn:∀l∈c,nodes l.2<=3000)(hnm:(vnC [] c).length<=1000)(ht:trM (jlY code s hs1) c):G 31 [bts code,vi (s:Nat),cm c]=some (vb true,[]):=by
 obtain⟨b,e,h⟩:=jog hb s hs hs1 c hc hz hn hnm;rw[h.2 λk _=>ht _ (jqP hs.1 _ k)]at e;exact e
theorem jvV(s:Nat)(hs:1<=s/\s<=3)(hs1:(1:Int)<=(s:Int))(c:Cls)(hc:c.length<=1000)(hz:∀l∈c,Tz l.2)(hn:∀l∈c,nodes l.2<=3000)(hnm:(vnC [] c).length<=1000)(hk:∀y∈c,Bx y.2)(hsm:s=1\/(vnC [] c).length<=4):∃b,G 31 [bts code,vi (s:Nat),cm c]=some (vb b,[])/\(b=true->trM (jlY code s hs1) c):=by
 obtain⟨b,e,h⟩:=jog hb s hs hs1 c hc hz hn hnm;refine⟨b,e,λhb1 e' he=>?_⟩;obtain⟨k,hk1,hk2⟩:=jzo hs.1 (vnC [] c) e' he;exact jy7 hk hk2 (h.1 hb1 k (by rw[jve hs.1 hs.2 hsm];exact hk1))
end
theorem jxr:∀{c:Cls}{l:Xa},(∀y∈c,nodes y.2<=30)->(vnC l c).length<=l.length+30*c.length
 | [],l,_=>by simp[vnC]
 |y::c,l,h=>by
  have h1:=jsS y.2 l;have h2:=h y (by simp);have h3:=jxr (c:=c) (l:=vn l y.2) λz hz=>h z (by simp[hz]);show(vnC (vn l y.2) c).length<=_;rw[yv];omega
theorem CN.vn{c:Cls}(h:CN c):(vnC [] c).length<=240:=by
 have h1:=jxr (c:=c) (l:=[]) λy hy=>(h.2 y hy).2;have h2:=h.1;rw[jgS]at h1;omega
theorem CN.nodes{c:Cls}(h:CN c):∀l∈c,nodes l.2<=3000:=λl hl=>by have:=(h.2 l hl).2;omega
section
variable{code:Xi}(hb:By code)
include hb
omit hb in
theorem jyu(s:Nat)(c:Cls)(h:CN c):G 30 [vi (s:Nat),cm c]=some (vb (decide (s=1\/(vnC [] c).length<=4)),[]):=by
 have ld2:∀l:Lt,jar 2 (.elt (ltc l) 1)=some (tm l.2):=λl=>rfl;have ad:∀(l:Lt)(n:Nat),jeG (.elt (ltc l) 0) n=some (.elt (ltc l) n):=λl n=>by rw[jhj,jfO]
 have hr:∀x:Xc,hR 1 (A.top,[.sl 1 x]) 0=some x:=λx=>rfl;have hcl:=h.1;have key:=upto (n:=c.length) (P:=λi=>∀l:Xa,l.length<=3000*i->jwf (vi (s:Nat)) (vi (i:Nat)) (.sl 3 (c.map ltc)) (l.map cs)=some (vb (decide (s=1\/(vnC l (c.drop i)).length<=4)),[])) ?_ ?_ 0 (Nat.zero_le _) [] (Nat.zero_le _)
 .simp only[Int.natCast_zero,List.drop_zero,List.map_nil]at key;rw[g30];simp only[evz,key]
 .intro l _;have nlt:¬((c.length:Nat):Int)<((c.length:Nat):Int):=by omega
  rw[List.drop_length,jDs,show vnC l []=l from rfl];by_cases hs:s=1
  .subst hs;have e1:((1:Nat):Int)=1:=rfl;simp only[evz,nlt,e1,true_or]
  .have e1:¬((s:Nat):Int)=1:=by omega
   have e2:decide (((l.length:Nat):Int)<=4)=decide (s=1\/l.length<=4):=by congr 1;exact propext ⟨λh=>Or.inr (by omega),λh=>by omega⟩
   rw[<-e2];simp only[evz,nlt,e1]
 .intro i hi ih l hl;have hlt:(i:Int)<((c.length:Nat):Int):=by omega
  have h5:=jef hi (by show c.length<=9223372036854775807;omega)
  have x1:jda 3 (.sl 3 (c.map ltc)) (vi (i:Nat))=some (.elt (ltc c[i]) 0):=jaa hi;have hm:=jcF hi;have nn:=h.nodes _ hm;have e:=jro c[i].2 (h.tz _ hm) l (by omega);have ln:=jsS c[i].2 l;have ih:=ih (vn l c[i].2) (by omega);rw[jdb hi,show vnC l (c[i]::c.drop (i+1))=vnC (vn l c[i].2) (c.drop (i+1)) from rfl,<-ih,jDs];generalize c[i]=y at x1 e⊢;simp only[evz,hlt,x1,ad,ld2,e,hr,h5]
theorem juP(ps:List Cls)(hp:ps.length<=1000)(hps:∀c∈ps,CN c)(x:Cls)(hx:CN x)(hsd:Sd ps x)(s:Nat)(hs:1<=s/\s<=3)(hs1:(1:Int)<=(s:Int)) :
  ∀i,i<=ps.length-> ∀b:Bool,(b=true-> ∀j,(h:j<ps.length)->j<i->trM (jlY code s hs1) ps[j])->jBH (bts code) (cls ps) (vi (s:Nat)) (vb b) (vi (i:Nat)) (.sl 3 (x.map ltc))=jr7 (bts code) (cls ps) (vi ((s+1:Nat):Int)) (.sl 3 (x.map ltc)):=by
 have cs1:jeH .add false (vi (s:Nat)) (vi 1)=some (vi ((s+1:Nat):Int)):=jef (n:=s+1) (by omega) (by omega);generalize hZ:jr7 (bts code) (cls ps) (vi ((s+1:Nat):Int)) (.sl 3 (x.map ltc))=Z;refine upto ?_ ?_
 .intro b hbt;have nlt:¬((ps.length:Nat):Int)<((ps.length:Nat):Int):=by omega
  rw[jGf];cases b with
  |false=>simp only[evz,nlt,cs1,hZ]
  |true=>
   have e:=jsQ hb s hs hs1 x (by have:=hx.1;omega) hx.tz hx.nodes (by have:=hx.vn;omega) (hsd _ λc hc=>by
    obtain⟨j,hj,rfl⟩:=List.getElem_of_mem hc;exact hbt rfl j hj hj)
   simp only[evz,nlt,cs1,hZ,e]
 .intro i hi ih b hbt;have hlt:(i:Int)<((ps.length:Nat):Int):=by omega
  have h5:=jef hi (by show ps.length<=9223372036854775807;omega)
  have hm:=jcF hi;have hc:=hps _ hm;have x1:jda 1 (cls ps) (vi (i:Nat))=some (.elt (clc ps[i]) 0):=jaa hi;have ld:jar 1 (.elt (clc ps[i]) 0)=some (cm ps[i]):=rfl;rw[jGf];cases b with
  |false=>simp only[evz,hlt,cs1,hZ]
  |true=>
   have e1:=jyu s ps[i] hc;by_cases hsm:s=1\/(vnC [] ps[i]).length<=4
   .rw [decide_eq_true hsm]at e1;obtain⟨b',e2,hb'⟩:=jvV hb s hs hs1 ps[i] (by have:=hc.1;omega) hc.tz hc.nodes (by have:=hc.vn;omega) (λy hy=>(hc.2 y hy).1) hsm;have ih:=ih b' (λhbb j hj hj2=>by
     by_cases hji:j=i
     .subst hji;exact hb' hbb
     .exact hbt rfl j hj (by omega))
    simp only[evz,hlt,x1,ld,e1,e2,h5,ih]
   .rw [decide_eq_false hsm]at e1;have ih:=ih false (λh=>by cases h);simp only[evz,hlt,x1,ld,e1,h5,ih]
theorem juQ(ps:List Cls)(hp:ps.length<=1000)(hps:∀c∈ps,CN c)(x:Cls)(hx:CN x)(hsd:Sd ps x):G 8 [bts code,cls ps,cm x]=some (vb true,[]):=by
 have key:∀s:Nat,1<=s->s<=3->jr7 (bts code) (cls ps) (vi (s:Nat)) (.sl 3 (x.map ltc))=jr7 (bts code) (cls ps) (vi ((s+1:Nat):Int)) (.sl 3 (x.map ltc)):=by
  intro s h1 h3;have hs1:(1:Int)<=(s:Int):=by omega
  have e:=juP hb ps hp hps x hx hsd s ⟨h1,h3⟩ hs1 0 (Nat.zero_le _) true (λ_ j _ h=>absurd h (Nat.not_lt_zero _));have hlt:((s:Nat):Int)<4:=by omega
  simp only[Int.natCast_zero]at e;rw[<-e,jGe];simp only[evz,hlt]
 have k1:=key 1 (by decide) (by decide);have k2:=key 2 (by decide) (by decide);have k3:=key 3 (by decide) (by decide);have n4:¬((4:Nat):Int)<4:=by decide
 have hl:jr7 (bts code) (cls ps) (vi 1) (.sl 3 (x.map ltc))=some (vb true,[]):=by
  refine(k1.trans (k2.trans k3)).trans ?_;show jr7 (bts code) (cls ps) (vi ((4:Nat):Int)) (.sl 3 (x.map ltc))=_;rw[jGe];simp only[evz,n4]
 rw[g8];simp only[evz,hl]
end
theorem jEe(code:Xi):G 4 [bts code]=some (vb (decide (65536<((code.length:Nat):Int))),[]):=by
 rw[g4];simp only[evz]
section
variable{code:Xi}(hb:By code)
include hb
theorem juz(ps:List Cls)(hp:ps.length<=100)(hps:∀c∈ps,CN c)(x:Cls)(hx:CN x)(h:Sd ps x):G 8 [bts code,cls ps,cm x]=some (vb true,[]):=juQ hb ps (by omega) hps x hx h
end
theorem jAp{ls:List Lt}(hl:ls.length<=3)(hz:∀l∈ls,tsz l.2<=195000)(p:Bool){tt:T}(ht:tsz tt<=195000):∃e e':Cls,∃b:Bool,
  G 14 [.sl 3 ((ls++[(p,tt)]).map ltc)]=some (cm e,[])/\G 13 [cm e]=some (.tup [cm e',vb b],[])/\e'.length<=4/\(∀l∈e',Tz l.2/\nodes l.2<=200000)/\G 21 [cm e']=some (vb (jg1 e'),[]):=by
 have hz':∀l∈ls++[(p,tt)],tsz l.2<=195000:=λl h=>by
  rcases Yo.1 h with h|h
  .exact hz l h
  .rw [jU.1 h];exact ht
 have e2:=jiY (ls++[(p,tt)]) (by rw[yM,List.length_singleton];omega) λl h=>by have:=hz' l h;unfold Tz;omega
 have hm:=ji0 cmpL (ls++[(p,tt)]);rw[yM,List.length_singleton]at hm;have hB:CB (jhe cmpL (ls++[(p,tt)])):=CB.of (by omega) λl h=>hz' l (jiC.1 h);obtain⟨e',b,hc,e3⟩:=jsu _ hB (jjs jhX _).1;have e4:=jiB e' (by have:=hc.1;omega) λl h=>(hc.2 l h).1;exact⟨_,e',b,e2,e3,hc.1,λl h=>⟨(hc.2 l h).1,(hc.2 l h).2.2⟩,e4⟩
theorem jxo{n:Xb}(hn:n.length<=10){u v:T}(hu:tsz u<=90000)(hv:tsz v<=90000):tsz (.mk n [u,v])<=195000:=by
 rw[jif];simp only[yv,jgS,jhv];omega
section
variable{code:Xi}(hb:By code)
include hb
theorem jp5(c:Cls)(hc:c.length<=1000):∀(k i:Nat),i+k=c.length+1-> ∀a s:Int,0<=a->a<=999900000-> ∃x:Int,jBI (vi (i:Nat)) (bts code) (vi a) (vu s) (.sl 3 (c.map ltc)) []=some (.tup [cm c,vi x],[]):=by
 intro k;induction k with
 |zero=>
  intro i hi a s h0 h1;have c1:ck (((c.length:Nat):Int)-1)=some (vi (((c.length:Nat):Int)-1)):=jeY (by omega) (by omega);have nlt:¬((i:Nat):Int)<((c.length:Nat):Int)-1:=by omega
  obtain⟨a1,s1,b,q1,q2,e1⟩:=jhV hb 10 (by decide) (by decide) a s h0 (by omega);have oc:Za (A.sl 3 (c.map ltc))=true:=rfl;rw[jEJ];cases b with
  |false=>exact⟨_,by simp only[evz,c1,nlt,e1,oc,List.getElem?_cons_zero,List.getElem?_cons_succ];rfl⟩
  |true=>
   obtain⟨a2,s2,y,r1,r2,y0,y1,e2⟩:=jg9 hb 5 (by decide) (by decide) a1 s1 (by omega) (by omega);have c2:ck (y-1)=some (vi (y-1)):=jeY (by omega) (by omega);exact⟨y-1,by simp only[evz,c1,nlt,e1,e2,c2,oc,List.getElem?_cons_zero,List.getElem?_cons_succ]⟩
 |succ k ih=>
  intro i hi a s h0 h1;have c1:ck (((c.length:Nat):Int)-1)=some (vi (((c.length:Nat):Int)-1)):=jeY (by omega) (by omega);have oc:Za (A.sl 3 (c.map ltc))=true:=rfl;obtain⟨a1,s1,b,q1,q2,e1⟩:=jhV hb 10 (by decide) (by decide) a s h0 (by omega);obtain⟨a2,s2,y,r1,r2,y0,y1,e2⟩:=jg9 hb 5 (by decide) (by decide) a1 s1 (by omega) (by omega);have c2:ck (y-1)=some (vi (y-1)):=jeY (by omega) (by omega);by_cases hlt:((i:Nat):Int)<((c.length:Nat):Int)-1
  .have hi2:i<c.length:=by omega
   have x1:jda 3 (.sl 3 (c.map ltc)) (vi (i:Nat))=some (.elt (ltc c[i]) 0):=jaa hi2;have p1:jeG (.elt (ltc c[i]) 0) 1=some (.elt (ltc c[i]) 1):=by rw[jhj]
   have p2:jeG (.elt (ltc c[i]) 1) 0=some (.elt (ltc c[i]) 1):=by rw[jhj]
   have l1:jas (.elt (ltc c[i]) 1)=some (sv c[i].2.name):=rfl;rw[jEJ];by_cases hn:c[i].2.name=[61]
   .cases b with
    |false=>exact⟨_,by simp only[evz,c1,hlt,x1,p1,p2,l1,hn,e1,oc,List.getElem?_cons_zero,List.getElem?_cons_succ];rfl⟩
    |true=>exact⟨y-1,by simp only[evz,c1,hlt,x1,p1,p2,l1,hn,e1,e2,c2,oc,List.getElem?_cons_zero,List.getElem?_cons_succ]⟩
   .obtain ⟨x,e⟩:=ih (i+1) (by omega) a s h0 h1;have h5:=jef hi2 (by omega);exact⟨x,by simp only[evz,c1,hlt,x1,p1,p2,l1,hn,h5,e]⟩
  .rw [jEJ];cases b with
   |false=>exact⟨_,by simp only[evz,c1,hlt,e1,oc,List.getElem?_cons_zero,List.getElem?_cons_succ];rfl⟩
   |true=>exact⟨y-1,by simp only[evz,c1,hlt,e1,e2,c2,oc,List.getElem?_cons_zero,List.getElem?_cons_succ]⟩
theorem jnz:∃(c:Cls)(x:Int),Cz c/\G 9 [bts code]=some (.tup [cm c,vi x],[]):=by
 have okb:Za (bts code)=true:=rfl;obtain⟨a1,s1,t,q1,q2,q3,e1⟩:=jnh hb 0 0 (by decide) (by decide);obtain⟨a2,s2,ls,r1,r2,r3,r4,e2⟩:=jjX hb 2 (by decide) a1 s1 (by omega) (by omega);have e2:jl0 (vi 2) (bts code) (vi a1) (vu s1)=_:=e2;obtain⟨a3,s3,b,u1,u2,e3⟩:=jhV hb 8 (by decide) (by decide) a2 s2 (by omega) (by omega);obtain⟨a4,s4,u,v1,v2,v3,v4,e4⟩:=jkT hb a3 s3 (by omega) (by omega);have ht:=(q3.valid (by decide)).2;have e5:=jia u ⟨by omega,λq hq=>by have:=v4.2 q hq;omega⟩ t (by omega);have hsz:=jqc (u:=u) (Z:=192) (by decide) (λq hq=>(v4.2 q hq).2) t;obtain⟨e,e',b',m1,m2,m3,m4,m5⟩:=jAp (ls:=ls) (by omega) (λl h=>by have:=(r4 l h).tsz;omega) b (tt:= .mk [61] [t,sub u t]) (jxo (by decide) (by omega) (by omega));have f1:jcK (ls.length+1) 48=true:=jjg (by omega);rw[<-jkx]at m1;have m1:G 14 [.sl 3 (jgo (ls.map ltc) [[vb b,sv [61],.sl 2 [[sv t.name,tms t.args],[sv (sub u t).name,tms (sub u t).args]]]])]=some (cm e,[]):=by
  rw[<-m1];show _=G _ [A.sl 3 (jgo (ls.map ltc) [[vb b,sv [61],A.sl 2 [jdd t,jdd (sub u t)]]])];rw[jfY t,jfY (sub u t)]
 rw[g9];cases hv:jg1 e' with
 |false=>
  rw[hv]at m5;obtain⟨a5,s5,c,w1,w2,w3,e6⟩:=jl1 hb a4 s4 (by omega) (by omega);refine⟨c,0,w3.cz,?_⟩;simp only[evz,okb,e1,e2,e3,e4,e5,f1,m1,m2,m5,e6,jjV,jhF,List.getElem?_cons_zero,List.getElem?_cons_succ]
 |true=>
  rw[hv]at m5;obtain⟨x,lp⟩:=jp5 hb e' (by omega) (e'.length+1) 0 (by omega) a4 s4 (by omega) (by omega);simp only[Int.natCast_zero]at lp;refine⟨e',x,⟨by omega,λl h=>(m4 l h).1⟩,?_⟩;simp only[evz,okb,e1,e2,e3,e4,e5,f1,m1,m2,m5,lp,jjV,jhF,List.getElem?_cons_zero,List.getElem?_cons_succ]
end
abbrev pcl(q:Xi):Xd:=[ints q]
theorem jxq(l:Xi):joz (l.map ci)=true:=by
 unfold joz;rw[jE];intro x hx;obtain⟨z,hz,hx⟩:=zy.1 hx;obtain⟨y,_,rfl⟩:=jN.1 hz;rw[jU.1 hx];rfl
theorem jGm(p:Xi)(h:p.length<=4194304):jwa (ints p)=some (.top,[ints p]):=by
 rw[jFQ];have:=jCN (n:=p.length) h;simp only[evz,this]
theorem jwM(a:A)(xs:Xc)(l:Xd):hR 65 (a,.sl 65 xs::l) 0=some xs:=by simp[hR]
theorem jDl(a:A)(xs:Xc)(l:Xd):hR 1 (a,.sl 1 xs::l) 0=some xs:=by simp[hR]
theorem jBs:∀(t:T)(p:Xi),Tz t->p.length+tsz t<=2000000-> ∃qs:List Xi,1<=qs.length/\qs.length<=nodes t/\(∀q∈qs,q.length<=p.length+nodes t)/\jsW (tm t) (ints p)=some (.top,[.sl 65 (qs.map pcl)]):=by
 refine T.ind λt ih p ht hp=>?_;have hs:=ht;unfold Tz at hs;have hnt:=jhM t;have hne:=jfj t;rw[jgG]at hs hp hnt;rw[hne];have e0:=jGm p (by omega);have v0:=jxq p;have key:=upto (P:=λi=>∀R:List Xi,R.length+jdi (t.args.drop i)<=2000000-> ∃qs:List Xi,qs.length<=jdi (t.args.drop i)/\(∀q∈qs,q.length<=p.length+(1+jdi t.args))/\jlI (ints p) (vi i) (sv t.name) (tms t.args) (R.map pcl)=some (.top,[.sl 65 ((R++qs).map pcl)])) (n:=t.args.length) ?_ ?_ 0 (Nat.zero_le _) [p] (by rw[List.drop_zero];simp only[yv,jgS];omega)
 .obtain ⟨qs,h1,h2,h3⟩:=key;simp only[Int.natCast_zero,List.drop_zero]at h1 h3;refine⟨p::qs,by simp,by simp only[yv];omega,λq hq=>?_,?_⟩
  .rcases yN.1 hq with rfl|hq
   .omega
   .exact h2 q hq
  .rw [jFH];have h3:jlI (ints p) (vi 0) (sv t.name) (tms t.args) [[.sl 1 (p.map ci)]]=_:=h3;simp only[evz,e0,jDl,v0,h3];rfl
 .intro R hR;refine⟨[],by simp,by simp,?_⟩;rw[jwW,ZE];simp only[evz]
 .intro i hi ih2 R hR;have hlt:(i:Int)<((t.args.length:Nat):Int):=by omega
  have h5:=jef hi (by show t.args.length<=9223372036854775807;omega)
  have hm:tsz t.args[i]<=jhv t.args:=jhq (jcF _);have hd0:jdi (t.args.drop i)<=jdi t.args:=jtX t.args i;have ed:jdi (t.args.drop i)=nodes t.args[i]+jdi (t.args.drop (i+1)):=by rw[jdb hi];rfl
  obtain⟨qs,q1,q2,q3,e2⟩:=ih t.args[i] (jcF _) (p++[(i:Int)]) (ht.args _ (jcF _)) (by rw[yM,List.length_singleton];omega)
  have ea:jgo (p.map ci) [[vi (i:Nat)]]=(p++[(i:Int)]).map ci:=by rw[jv];rfl
  have hf1:jcK (p.length+1) 8=true:=jCN (by omega);have hf2:jcK (R.length+qs.length) 24=true:=jIo (by omega);obtain⟨rs,r1,r2,r3⟩:=ih2 (R++qs) (by rw[yM];omega);have r3:jlI (ints p) (vi ((i+1:Nat):Int)) (sv t.name) (tms t.args) (jgo (R.map pcl) (qs.map pcl))=some (.top,[.sl 65 ((R++qs++rs).map pcl)]):=by
   rw[<-r3];rw[jv];rfl
  have v1:joz [[vi (i:Nat)]]=true:=rfl;have o1:Za (vi (i:Nat))=true:=rfl;have o2:jfm (vi (i:Nat))=true:=rfl;refine⟨qs++rs,by rw[yM];omega,λq hq=>?_,?_⟩
  .rcases Yo.1 hq with hq|hq
   .have:=q3 q hq;rw[yM,List.length_singleton]at this;omega
   .exact r2 q hq
  .rw [jwW];simp only[evz,hlt,jaa hi,ja1,e0,jDl,jwM,o1,o2,v1,hf1,ea,e2,hf2,h5,r3];rw[jbs]
section
variable{code:Xi}(hb:By code)
include hb
theorem jAT(n:Int)(hn:1<=n)(a s:Int)(h0:0<=a)(h1:a<=999999990):∃a' s' x,a<=a'/\a'<=a+2/\0<=x/\x<n/\jhQ (vi n) (bts code) (vi a) (vu s)=some (.top,[bts code,vi a',vu s',vi x]):=by
 by_cases hs:n<=200
 .obtain ⟨a',s',x,q1,q2,x0,x1,e⟩:=jg9 hb n hn hs a s h0 (by omega);exact⟨a',s',x,q1,by omega,x0,x1,e⟩
 .rw [jDh];obtain⟨s1,x,x0,x1,e1⟩:=jsx hb a s h0 (by omega);obtain⟨s2,y,y0,y1,e2⟩:=jsx hb (a+1) s1 (by omega) (by omega);have h:¬n<=1:=by omega
  have hg:(200:Int)<n:=by omega
  have c1:jeH .mul false (vi x) (vi 256)=some (vi (x*256)):=by show ck (x*256)=_;exact jeY (by omega) (by omega)
  have c2:ck (x*256+y)=some (vi (x*256+y)):=jeY (by omega) (by omega);have e3:=jqz (x:=x*256+y) (n:=n) (by omega) hn;exact⟨a+1+1,s2,(x*256+y) % n,by omega,by omega,Int.emod_nonneg _ (by omega),Int.emod_lt_of_pos _ (by omega),by simp only[evz,h,e1,e2,c1,c2,hg,e3,List.getElem?_cons_zero,List.getElem?_cons_succ]⟩
theorem jAU(t:T)(ht:Tz t)(hs:nodes t<=1000000)(a s:Int)(h0:0<=a)(h1:a<=999999000):∃(a' s':Int)(p:Xi),a<=a'/\a'<=a+6/\p.length<=1048576/\jv0 (tm t) (bts code) (vi a) (vu s)=some (.top,[bts code,vi a',vu s',ints p]):=by
 obtain⟨qs,l1,l2,l3,e1⟩:=jBs t [] ht (by unfold Tz at ht;simp only[jgS];omega)
 have e1:jsW (.agg [sv t.name,tms t.args]) (.sl 1 [])=_:=e1;obtain⟨a1,s1,x,q1,q2,x0,x1,e2⟩:=jAT hb ((qs.length:Nat):Int) (by omega) a s h0 (by omega);obtain⟨i,rfl⟩:∃i:Nat,x=(i:Nat):=⟨x.toNat,by omega⟩;have hi:i<qs.length:=by omega
 have g1:pIx qs.length (vi ((i:Nat):Int))=some i:=jg7 hi;have g2:jfx (qs.map pcl) i=some (pcl qs[i]):=by unfold jfx;simp[hi]
 have hq:=l3 _ (jcF hi);rw[jgS]at hq;generalize qs[i]=q at *;have g3:jd3 (.sl 1 (q.map ci))=true:=rfl;obtain⟨a2,s2,y,r1,r2,y0,y1,e3⟩:=jg9 hb 16 (by decide) (by decide) a1 s1 (by omega) (by omega);obtain⟨a3,s3,z,u1,u2,z0,z1,e4⟩:=jg9 hb 3 (by decide) (by decide) a2 s2 (by omega) (by omega);have c1:ck (z-1)=some (vi (z-1)):=jeY (by omega) (by omega);have v0:=jxq q;have f1:jcK (q.length+1) 8=true:=jCN (by omega);have f2:jcK (1+q.length) 8=true:=jCN (by omega);have o1:Za (vi (z-1))=true:=rfl;have o2:Za (vi z)=true:=rfl;rw[jFw];by_cases hy:y=0
 .refine ⟨a3,s3,q++[z-1],by omega,by omega,by rw[yM,List.length_singleton];omega,?_⟩
  simp only[evz,e1,jwM,e2,e3,e4,g1,g2,g3,hy,c1,v0,f1,o1,List.getElem?_cons_zero,List.getElem?_cons_succ];show some (A.top,[bts code,vi a3,vu s3,A.sl 1 (q.map ci++[ci (z-1)])])=_;simp only[ints,jv,j5,List.map_nil]
 .by_cases hy1:y=1
  .refine ⟨a3,s3,z::q,by omega,by omega,by rw[yv];omega,?_⟩
   have hn:¬(1:Int)=0:=by decide
   simp only[evz,e1,jwM,e2,e3,e4,g1,g2,g3,hn,hy1,v0,f2,o2,List.getElem?_cons_zero,List.getElem?_cons_succ];rfl
  .refine ⟨a2,s2,q,by omega,by omega,by omega,?_⟩;simp only[evz,e1,jwM,e2,e3,g1,g2,g3,hy,hy1,List.getElem?_cons_zero,List.getElem?_cons_succ]
theorem joO(a s:Int)(h0:0<=a)(h1:a<=999999000):∃a1 s1 y,(a<=a1/\a1<=a+1/\(0:Int)<=y/\y<9/\jhQ (vi 9) (bts code) (vi a) (vu s)=some (.top,[bts code,vi a1,vu s1,vi y]))/\jeH .quo false (vi y) (vi 4)=some (vi (y / 4))/\ck (4+y / 4)=some (vi (4+y / 4))/\ ∃(l:A)(a2 s2 w:Int),J2 1 (.sl 1 [[vi 0],[vi 0],[vi 1],[vi 1],[vi 2],[vi (-1)]]) none (some (vi (4+y / 4)))=some l/\jv1 l (bts code) (vi a1) (vu s1)=some (.top,[bts code,vi a2,vu s2,vi w]):=by
 obtain⟨a1,s1,y,q1,q2,y0,y1,e1⟩:=jg9 hb 9 (by decide) (by decide) a s h0 (by omega);refine⟨a1,s1,y,⟨q1,q2,y0,y1,e1⟩,jGo y0 (by decide) (by omega),jeY (by omega) (by omega),?_⟩;obtain⟨l,l1,l2,e2⟩:∃l:Xi,1<=l.length/\l.length<=6/\J2 1 (.sl 1 [[vi 0],[vi 0],[vi 1],[vi 1],[vi 2],[vi (-1)]]) none (some (vi (4+y / 4)))=some (.sl 1 (l.map ci)):=by
  have:y / 4=0\/y / 4=1\/y / 4=2:=by omega
  rcases this with h|h|h<;>rw[h]
  .exact ⟨[0,0,1,1],by decide,by decide,rfl⟩
  .exact ⟨[0,0,1,1,2],by decide,by decide,rfl⟩
  .exact ⟨[0,0,1,1,2,-1],by decide,by decide,rfl⟩
 obtain⟨a2,s2,x,r1,r2,x0,x1,e3⟩:=jg9 hb ((l.length:Nat):Int) (by omega) (by omega) a1 s1 (by omega) (by omega);obtain⟨i,rfl⟩:∃i:Nat,x=(i:Nat):=⟨x.toNat,by omega⟩;have hi:i<l.length:=by omega
 have g1:jda 1 (.sl 1 (l.map ci)) (vi ((i:Nat):Int))=some (.elt (ci l[i]) 0):=jaa hi;have g2:jas (.elt (ci l[i]) 0)=some (vi l[i]):=rfl;refine⟨_,a2,s2,l[i],e2,?_⟩;rw[jFx];simp only[evz,e3,g1,g2,List.getElem?_cons_zero,List.getElem?_cons_succ]
end
def SpD(c h:Cls)(o:Xe):Prop:=∃(i side k:Int)(p:Xi),p.length<=1048576/\o=some (.tup [cm c,vi i,vi side,cm h,vi k,ints p],[])
section
variable{code:Xi}(hb:By code)
include hb
theorem jka(c h:Cls)(hh:Cz h)(hz:∀l∈h,nodes l.2<=1000000)(i k:Nat)(a s:Int)(h0:0<=a)(h1:a<=999900000)(hc:¬((k:Nat):Int)<((h.length:Nat):Int)-1\/ ∃hk:k<h.length,((k:Nat):Int)<((h.length:Nat):Int)-1/\h[k].2.name=[113]) :
  SpD c h (jxy (vi (i:Nat)) (vi (k:Nat)) (bts code) (vi a) (vu s) (.sl 3 (c.map ltc)) (.sl 3 (h.map ltc)) [] []):=by
 have hl:=hh.1;have c1:ck (((h.length:Nat):Int)-1)=some (vi (((h.length:Nat):Int)-1)):=jeY (by omega) (by omega);have oc:Za (A.sl 3 (c.map ltc))=true:=rfl;have oh:Za (A.sl 3 (h.map ltc))=true:=rfl;obtain⟨a1,s1,b,q1,q2,e1⟩:=jhV hb 10 (by decide) (by decide) a s h0 (by omega);have ld:∀l:Lt,jar 2 (.elt (ltc l) 1)=some (tm l.2):=λl=>rfl;have pa:∀l:Lt,jeG (.elt (ltc l) 0) 1=some (.elt (ltc l) 1):=λl=>by rw[jhj]
 have pb:∀l:Lt,jeG (.elt (ltc l) 1) 0=some (.elt (ltc l) 1):=λl=>by rw[jhj]
 have lp:∀l:Lt,jas (.elt (ltc l) 1)=some (sv l.2.name):=λl=>rfl;have fin1:∀(k':Int)(a s:Int),0<=a->a<=999990000-> ∃(b2:Bool),inB 0 (((h.length:Nat):Int)-1) k'=b2/\(b2=true-> ∃(l:Lt)(a2 s2:Int)(p:Xi),(0<=a2/\a2<=999999000/\p.length<=1048576)/\jda 3 (.sl 3 (h.map ltc)) (vi k')=some (.elt (ltc l) 0)/\jv0 (tm l.2) (bts code) (vi a) (vu s)=some (.top,[bts code,vi a2,vu s2,ints p])):=by
  intro k' a s g0 g1;refine⟨_,rfl,λhin=>?_⟩;simp only[inB,Q5,Yn]at hin;obtain⟨n,rfl⟩:∃n:Nat,k'=(n:Nat):=⟨k'.toNat,by omega⟩;have hn:n<h.length:=by omega
  obtain⟨a2,s2,p,r1,r2,r3,e⟩:=jAU hb h[n].2 (hh.2 _ (jcF hn)) (hz _ (jcF hn)) a s g0 (by omega);exact⟨h[n],a2,s2,p,⟨by omega,by omega,r3⟩,jaa hn,e⟩
 obtain⟨a2,s2,y,r1,r2,y0,y1,e2⟩:=jg9 hb 5 (by decide) (by decide) a1 s1 (by omega) (by omega);have c2:ck (y-1)=some (vi (y-1)):=jeY (by omega) (by omega);obtain⟨a3,s3,z,u1,u2,z0,z1,e3⟩:=jg9 hb 5 (by decide) (by decide) a2 s2 (by omega) (by omega);have c3:ck (z-1)=some (vi (z-1)):=jeY (by omega) (by omega);unfold SpD;have cond:∃cb:Bool,decide (((k:Nat):Int)<((h.length:Nat):Int)-1)=cb/\(cb=true-> ∃hk:k<h.length,h[k].2.name=[113]):=by
  refine⟨_,rfl,λhd=>?_⟩;rcases hc with hc|⟨hk,_,hn⟩
  .exact absurd (of_decide_eq_true hd) hc
  .exact ⟨hk,hn⟩
 obtain⟨cb,hcb,hcn⟩:=cond;cases b with
 |false=>
  obtain⟨b2,hb2,hx⟩:=fin1 ((k:Nat):Int) a1 s1 (by omega) (by omega);have q:=jhz ((k:Nat):Int) 0 (((h.length:Nat):Int)-1);rw[hb2]at q;cases b2 with
  |false=>
   obtain⟨a4,s4,w,⟨_,_,_,_,d1⟩,d2,d3,l,a5,s5,v,d4,d5⟩:=joO hb a1 s1 (by omega) (by omega);refine⟨(i:Nat),v,(k:Nat),[],by simp,?_⟩;rw[jAj];cases cb with
   |false=>
    have hlt:=of_decide_eq_false hcb;simp only[evz,c1,hlt,e1,q,d1,d2,d3,d4,d5,oc,oh,List.getElem?_cons_zero,List.getElem?_cons_succ];rfl
   |true=>
    have hlt:=of_decide_eq_true hcb;obtain⟨hk,hn⟩:=hcn rfl;have x1:jda 3 (.sl 3 (h.map ltc)) (vi (k:Nat))=some (.elt (ltc h[k]) 0):=jaa hk;simp only[evz,c1,hlt,x1,pa,pb,lp,hn,e1,q,d1,d2,d3,d4,d5,oc,oh,List.getElem?_cons_zero,List.getElem?_cons_succ];rfl
  |true=>
   obtain⟨l0,a6,s6,p,⟨p0,p1,p2⟩,x2,e4⟩:=hx rfl;obtain⟨a4,s4,w,⟨_,_,_,_,d1⟩,d2,d3,l,a5,s5,v,d4,d5⟩:=joO hb a6 s6 p0 p1;refine⟨(i:Nat),v,(k:Nat),p,p2,?_⟩;rw[jAj];cases cb with
   |false=>
    have hlt:=of_decide_eq_false hcb;simp only[evz,c1,hlt,e1,q,x2,pa,ld,e4,d1,d2,d3,d4,d5,oc,oh,List.getElem?_cons_zero,List.getElem?_cons_succ]
   |true=>
    have hlt:=of_decide_eq_true hcb;obtain⟨hk,hn⟩:=hcn rfl;have x1:jda 3 (.sl 3 (h.map ltc)) (vi (k:Nat))=some (.elt (ltc h[k]) 0):=jaa hk;rw[x1]at x2;have hl0:ltc l0=ltc h[k]:=by
     simp only[jp,A.elt.injEq]at x2;exact x2.1.symm
    have ld':jar 2 (.elt (ltc h[k]) 1)=some (tm l0.2):=by rw[<-hl0];rfl
    simp only[evz,c1,hlt,x1,pa,pb,lp,hn,e1,q,ld',e4,d1,d2,d3,d4,d5,oc,oh,List.getElem?_cons_zero,List.getElem?_cons_succ]
 |true=>
  obtain⟨b2,hb2,hx⟩:=fin1 (z-1) a3 s3 (by omega) (by omega);have q:=jhz (z-1) 0 (((h.length:Nat):Int)-1);rw[hb2]at q;cases b2 with
  |false=>
   obtain⟨a4,s4,w,⟨_,_,_,_,d1⟩,d2,d3,l,a5,s5,v,d4,d5⟩:=joO hb a3 s3 (by omega) (by omega);refine⟨y-1,v,z-1,[],by simp,?_⟩;rw[jAj];cases cb with
   |false=>
    have hlt:=of_decide_eq_false hcb;simp only[evz,c1,hlt,e1,e2,e3,c2,c3,q,d1,d2,d3,d4,d5,oc,oh,List.getElem?_cons_zero,List.getElem?_cons_succ];rfl
   |true=>
    have hlt:=of_decide_eq_true hcb;obtain⟨hk,hn⟩:=hcn rfl;have x1:jda 3 (.sl 3 (h.map ltc)) (vi (k:Nat))=some (.elt (ltc h[k]) 0):=jaa hk;simp only[evz,c1,hlt,x1,pa,pb,lp,hn,e1,e2,e3,c2,c3,q,d1,d2,d3,d4,d5,oc,oh,List.getElem?_cons_zero,List.getElem?_cons_succ];rfl
  |true=>
   obtain⟨l0,a6,s6,p,⟨p0,p1,p2⟩,x2,e4⟩:=hx rfl;obtain⟨a4,s4,w,⟨_,_,_,_,d1⟩,d2,d3,l,a5,s5,v,d4,d5⟩:=joO hb a6 s6 p0 p1;refine⟨y-1,v,z-1,p,p2,?_⟩;rw[jAj];cases cb with
   |false=>
    have hlt:=of_decide_eq_false hcb;simp only[evz,c1,hlt,e1,e2,e3,c2,c3,q,x2,pa,ld,e4,d1,d2,d3,d4,d5,oc,oh,List.getElem?_cons_zero,List.getElem?_cons_succ]
   |true=>
    have hlt:=of_decide_eq_true hcb;obtain⟨hk,hn⟩:=hcn rfl;have x1:jda 3 (.sl 3 (h.map ltc)) (vi (k:Nat))=some (.elt (ltc h[k]) 0):=jaa hk;simp only[evz,c1,hlt,x1,x2,pa,pb,lp,ld,hn,e1,e2,e3,c2,c3,q,e4,d1,d2,d3,d4,d5,oc,oh,List.getElem?_cons_zero,List.getElem?_cons_succ]
theorem jox(c h:Cls)(hh:Cz h)(hz:∀l∈h,nodes l.2<=1000000)(i:Nat)(a s:Int)(h0:0<=a)(h1:a<=999900000):∀(n k:Nat),k+n=h.length+1->SpD c h (jxy (vi (i:Nat)) (vi (k:Nat)) (bts code) (vi a) (vu s) (.sl 3 (c.map ltc)) (.sl 3 (h.map ltc)) [] []):=by
 intro n;have hl:=hh.1;induction n with
 |zero=>exact λk hk=>jka hb c h hh hz i k a s h0 h1 (Or.inl (by omega))
 |succ n ih=>
  intro k hk;by_cases hlt:((k:Nat):Int)<((h.length:Nat):Int)-1
  .have hk2:k<h.length:=by omega
   by_cases hn:h[k].2.name=[113]
   .exact jka hb c h hh hz i k a s h0 h1 (Or.inr ⟨hk2,hlt,hn⟩)
   .have c1:ck (((h.length:Nat):Int)-1)=some (vi (((h.length:Nat):Int)-1)):=jeY (by omega) (by omega);have x1:jda 3 (.sl 3 (h.map ltc)) (vi (k:Nat))=some (.elt (ltc h[k]) 0):=jaa hk2;have pa:jeG (.elt (ltc h[k]) 0) 1=some (.elt (ltc h[k]) 1):=by rw[jhj]
    have pb:jeG (.elt (ltc h[k]) 1) 0=some (.elt (ltc h[k]) 1):=by rw[jhj]
    have lp:jas (.elt (ltc h[k]) 1)=some (sv h[k].2.name):=rfl;obtain⟨x,y,z,p,r1,r2⟩:=ih (k+1) (by omega);have h5:=jef hk2 (by omega);refine⟨x,y,z,p,r1,?_⟩;rw[jAj];simp only[evz,c1,hlt,x1,pa,pb,lp,hn,h5,r2]
  .exact jka hb c h hh hz i k a s h0 h1 (Or.inl hlt)
theorem jow(c h:Cls)(hc:Cz c)(hh:Cz h)(hz:∀l∈h,nodes l.2<=1000000)(a s:Int)(h0:0<=a)(h1:a<=999900000):∀(n i:Nat),i+n=c.length+1->SpD c h (jyU (vi (i:Nat)) (vi 0) (bts code) (vi a) (vu s) (.sl 3 (c.map ltc)) (.sl 3 (h.map ltc)) [] []):=by
 intro n;have hl:=hc.1;have c1:ck (((c.length:Nat):Int)-1)=some (vi (((c.length:Nat):Int)-1)):=jeY (by omega) (by omega);have stop:∀i:Nat,SpD c h (jxy (vi (i:Nat)) (vi 0) (bts code) (vi a) (vu s) (.sl 3 (c.map ltc)) (.sl 3 (h.map ltc)) [] []):=λi=>jox hb c h hh hz i a s h0 h1 (h.length+1) 0 (by omega);induction n with
 |zero=>
  intro i hi;obtain⟨x,y,z,p,r1,r2⟩:=stop i;refine⟨x,y,z,p,r1,?_⟩;have nlt:¬((i:Nat):Int)<((c.length:Nat):Int)-1:=by omega
  rw[jCE];simp only[evz,c1,nlt,r2]
 |succ n ih=>
  intro i hi;by_cases hlt:((i:Nat):Int)<((c.length:Nat):Int)-1
  .have hk2:i<c.length:=by omega
   have x1:jda 3 (.sl 3 (c.map ltc)) (vi (i:Nat))=some (.elt (ltc c[i]) 0):=jaa hk2;have pa:jeG (.elt (ltc c[i]) 0) 1=some (.elt (ltc c[i]) 1):=by rw[jhj]
   have pb:jeG (.elt (ltc c[i]) 1) 0=some (.elt (ltc c[i]) 1):=by rw[jhj]
   have lp:jas (.elt (ltc c[i]) 1)=some (sv c[i].2.name):=rfl;by_cases hn:c[i].2.name=[61]
   .obtain ⟨x,y,z,p,r1,r2⟩:=stop i;refine⟨x,y,z,p,r1,?_⟩;rw[jCE];simp only[evz,c1,hlt,x1,pa,pb,lp,hn,r2]
   .obtain ⟨x,y,z,p,r1,r2⟩:=ih (i+1) (by omega);have h5:=jef hk2 (by omega);refine⟨x,y,z,p,r1,?_⟩;rw[jCE];simp only[evz,c1,hlt,x1,pa,pb,lp,hn,h5,r2]
  .obtain ⟨x,y,z,p,r1,r2⟩:=stop i;refine⟨x,y,z,p,r1,?_⟩;rw[jCE];simp only[evz,c1,hlt,r2]
theorem jnA:∃c h:Cls,Cz c/\Cz h/\SpD c h (G 5 [bts code]):=by
 have okb:Za (bts code)=true:=rfl;obtain⟨a1,s1,r,q1,q2,q3,q4,e1⟩:=jvp hb 0 0 (by decide) (by decide);obtain⟨a2,s2,ls,r1,r2,r3,r4,e2⟩:=jjX hb 2 (by decide) a1 s1 (by omega) (by omega);have e2:jl0 (vi 2) (bts code) (vi a1) (vu s1)=_:=e2;obtain⟨a3,s3,b,u1,u2,e3⟩:=jhV hb 8 (by decide) (by decide) a2 s2 (by omega) (by omega);obtain⟨a4,s4,ms,v1,v2,v3,v4,e4⟩:=jjX hb 2 (by decide) a3 s3 (by omega) (by omega);have e4:jl0 (vi 2) (bts code) (vi a3) (vu s3)=_:=e4;obtain⟨a5,s5,b2,w1,w2,e5⟩:=jhV hb 2 (by decide) (by decide) a4 s4 (by omega) (by omega);obtain⟨a6,s6,u,x1,x2,x3,x4,e6⟩:=jkT hb a5 s5 (by omega) (by omega);obtain⟨a7,s7,y,y1,y2,y3,y4,e7⟩:=jg9 hb 2 (by decide) (by decide) a6 s6 (by omega) (by omega);obtain⟨a8,s8,t,z1,z2,z3,e8⟩:=jnh hb a7 s7 (by omega) (by omega);obtain⟨rn,rl,rz,_⟩:=q3;obtain⟨j,rfl⟩:∃j:Nat,y=(j:Nat):=⟨y.toNat,by omega⟩;have hj:j<r.args.length:=by omega
 have i1:jda 2 (tms r.args) (vi (j:Nat))=some (.elt (jdd r.args[j]) 0):=jaa hj;have hm:tsz r.args[j]<=jhv r.args:=jhq (jcF hj);have hre:=jgG r;have hside:tsz r.args[j]<=400:=by have:=q4.1;omega
 generalize r.args[j]=g at *;have ht:=(z3.valid (by decide)).2;have e9:=jia u ⟨by omega,λq hq=>by have:=x4.2 q hq;omega⟩ g (by omega);have hsz:=jqc (u:=u) (Z:=192) (by decide) (λq hq=>(x4.2 q hq).2) g;obtain⟨c,c',d,m1,m2,m3,m4,m5⟩:=jAp (ls:=ls) (by omega) (λl h=>by have:=(r4 l h).tsz;omega) (!b) (tt:=r) (by have:=q4.1;omega);obtain⟨h,h',d',n1,n2,n3,n4,n5⟩:=jAp (ls:=ms) (by omega) (λl h=>by have:=(v4 l h).tsz;omega) b2 (tt:= .mk [113] [sub u g,t]) (jxo (by decide) (by omega) (by omega));have f1:jcK (ls.length+1) 48=true:=jjg (by omega);have f2:jcK (ms.length+1) 48=true:=jjg (by omega);rw[<-jkx]at m1 n1;have m1:G 14 [.sl 3 (jgo (ls.map ltc) [[vb (!b),sv r.name,tms r.args]])]=some (cm c,[]):=m1;have n1:G 14 [.sl 3 (jgo (ms.map ltc) [[vb b2,sv [113],.sl 2 [[sv (sub u g).name,tms (sub u g).args],[sv t.name,tms t.args]]]])]=some (cm h,[]):=by
  rw[<-n1];show _=G _ [A.sl 3 (jgo (ms.map ltc) [[vb b2,sv [113],A.sl 2 [jdd (sub u g),jdd t]]])];rw[jfY t,jfY (sub u g)]
 have tail:jg1 c'=true->jg1 h'=true-> ∀o,o=jyU (vi 0) (vi 0) (bts code) (vi a8) (vu s8) (.sl 3 (c'.map ltc)) (.sl 3 (h'.map ltc)) [] []->SpD c' h' o:=λ_ _ o ho=>by
  rw[ho];exact jow hb c' h' ⟨by omega,λl h=>(m4 l h).1⟩ ⟨by omega,λl h=>(n4 l h).1⟩ (λl hl=>by have:=(n4 l hl).2;omega) a8 s8 (by omega) (by omega) (c'.length+1) 0 (by omega)
 rw[g5];by_cases hv:jg1 c'=true/\jg1 h'=true
 .refine ⟨c',h',⟨by omega,λl h=>(m4 l h).1⟩,⟨by omega,λl h=>(n4 l h).1⟩,tail hv.1 hv.2 _ ?_⟩;rw[hv.1]at m5;rw[hv.2]at n5;simp only[evz,okb,e1,e2,e3,e4,e5,e6,e7,e8,e9,i1,ja1,f1,f2,m1,m2,m5,n1,n2,n5,jjV,jhF,List.getElem?_cons_zero,List.getElem?_cons_succ]
 .obtain ⟨a9,s9,k1,p1,p2,p3,e10⟩:=jl2 hb a8 s8 (by omega) (by omega);obtain⟨a10,s10,k2,p4,p5,p6,e11⟩:=jl2 hb a9 s9 (by omega) (by omega);refine⟨k1,k2,p3.cz,p6.cz,0,0,0,[0],by simp,?_⟩;cases hv1:jg1 c' with
  |false=>
   rw[hv1]at m5;simp only[evz,okb,e1,e2,e3,e4,e5,e6,e7,e8,e9,i1,ja1,f1,f2,m1,m2,m5,n1,n2,n5,e10,e11,jjV,jhF,List.getElem?_cons_zero,List.getElem?_cons_succ];rfl
  |true=>
   cases hv2:jg1 h' with
   |true=>exact absurd ⟨hv1,hv2⟩ hv
   |false=>
    rw[hv1]at m5;rw[hv2]at n5;simp only[evz,okb,e1,e2,e3,e4,e5,e6,e7,e8,e9,i1,ja1,f1,f2,m1,m2,m5,n1,n2,n5,e10,e11,jjV,jhF,List.getElem?_cons_zero,List.getElem?_cons_succ];rfl
end
theorem jmd{P:Cls->Prop}{f g:FuncId}{args:Xd}(h1:G f args=some (.tup [cz,vb false],[]))(h2:G g args=some (.tup [cz,vb false],[])):∃r:Option Cls,G f args=jjl r/\G g args=jjl r/\ ∀x,r=some x->P x:=⟨none,h1,h2,λx h=>by cases h⟩
theorem jou(c d:Cls)(zc:Cz c)(zd:Cz d)(i side k:Int)(p:Xi)(hpl:p.length<=1048576):∃r:Option Cls,G 6 [cm c,vi i,vi side,cm d,vi k,ints p]=jjl r/\G 7 [cm c,vi i,vi side,cm d,vi k,ints p]=jjl r/\ ∀x,r=some x->(CN c/\CN d)/\CN x/\Sd [c,d] x:=by
 have n1:=jh9 c zc.1 zc.2;have n2:=jh9 d zd.1 zd.2;have m1:=jiA c zc.1 zc.2;have m2:=jiA d zd.1 zd.2;cases hc:jgN c<;>rw[hc]at n1 m1
 .exact jmd (by rw[g6];simp only[evz,n1]) (by rw[g7];simp only[evz,m1])
 cases hd:jgN d<;>rw[hd]at n2 m2
 .exact jmd (by rw[g6];simp only[evz,n1,n2]) (by rw[g7];simp only[evz,m1,m2])
 obtain⟨r,h1,h2,h3⟩:=jov c d zc.1 zc.2 zd.1 zd.2 i side k p hpl;exact⟨r,h1,h2,λx hx=>⟨⟨(jgA hc).1,(jgA hd).1⟩,(jgA (h3 x hx).1).1,(h3 x hx).2⟩⟩
theorem jor(c:Cls)(zc:Cz c)(i:Int):∃r:Option Cls,G 10 [cm c,vi i]=jjl r/\G 11 [cm c,vi i]=jjl r/\ ∀x,r=some x->CN c/\CN x/\Sd [c] x:=by
 have n1:=jh9 c zc.1 zc.2;have m1:=jiA c zc.1 zc.2;cases hc:jgN c<;>rw[hc]at n1 m1
 .exact jmd (by rw[g10];simp only[evz,n1]) (by rw[g11];simp only[evz,m1])
 obtain⟨r,h1,h2,h3⟩:=jos c zc.1 zc.2 i;exact⟨r,h1,h2,λx hx=>⟨(jgA hc).1,(jgA (h3 x hx).1).1,(h3 x hx).2⟩⟩
theorem jmT(b:Bool):zn (vb b)=true:=rfl
theorem jm4(code:Xi)(hp:(∀n∈code,0<=n/\n<=255)/\code.length<=9223372036854775807):G 3 [bts code]=some (vb true,[]):=by
 have e0:=jEe code;rw[g3];by_cases hbig:65536<((code.length:Nat):Int)
 .rw [decide_eq_true hbig]at e0;simp only[evz,e0]
 rw[decide_eq_false hbig]at e0;have hb:By code:=⟨hp.1,by omega⟩;obtain⟨c,d,hc,hd,i,side,k,p,hpl,e1⟩:=jnA hb;obtain⟨r,r1,r2,r3⟩:=jou c d hc hd i side k p hpl;obtain⟨e,n,he,e2⟩:=jnz hb;obtain⟨q,q1,q2,q3⟩:=jor e he n;have t3:∀x0 x1 x2 x3 x4 x5:A,jfw (.tup [x0,x1,x2,x3,x4,x5]) 3=some x3:=λ_ _ _ _ _ _=>rfl;have t4:∀x0 x1 x2 x3 x4 x5:A,jfw (.tup [x0,x1,x2,x3,x4,x5]) 4=some x4:=λ_ _ _ _ _ _=>rfl;have t5:∀x0 x1 x2 x3 x4 x5:A,jfw (.tup [x0,x1,x2,x3,x4,x5]) 5=some x5:=λ_ _ _ _ _ _=>rfl;have oc:Za (A.sl 3 (c.map ltc))=true:=rfl;have od:Za (A.sl 3 (d.map ltc))=true:=rfl;have oe:Za (A.sl 3 (e.map ltc))=true:=rfl;have s1:∀x,r=some x->G 8 [bts code,.sl 1 [[.sl 3 (c.map ltc)],[.sl 3 (d.map ltc)]],.agg [.sl 3 (x.map ltc)]]=some (vb true,[]):=λx hx=>by
  obtain⟨⟨h1,h2⟩,h3,h4⟩:=r3 x hx;exact juz hb [c,d] (by simp) (λy h=>by
   simp only[yN,jby,or_false]at h;rcases h with h|h
   .rw [h];exact h1
   .rw [h];exact h2) x h3 h4
 have s2:∀x,q=some x->G 8 [bts code,.sl 1 [[.sl 3 (e.map ltc)]],.agg [.sl 3 (x.map ltc)]]=some (vb true,[]):=λx hx=>by
  obtain⟨h1,h3,h4⟩:=q3 x hx;exact juz hb [e] (by simp) (λy h=>by simp only[jU]at h;rw[h];exact h1) x h3 h4
 cases r with
 |none=>
  have r1:G 6 [cm c,vi i,vi side,cm d,vi k,ints p]=some (.tup [cz,vb false],[]):=r1;have r2:G 7 [cm c,vi i,vi side,cm d,vi k,ints p]=some (.tup [cz,vb false],[]):=r2;cases q with
  |none=>
   have q1:G 10 [cm e,vi n]=some (.tup [cz,vb false],[]):=q1;have q2:G 11 [cm e,vi n]=some (.tup [cz,vb false],[]):=q2;simp only[evz,e0,e1,r1,r2,e2,q1,q2,oc,od,oe,t3,t4,t5,jmT]
  |some y=>
   have q1:G 10 [cm e,vi n]=some (.tup [cm y,vb true],[]):=q1;have q2:G 11 [cm e,vi n]=some (.tup [cm y,vb true],[]):=q2;have s2:=s2 y rfl;simp only[evz,e0,e1,r1,r2,e2,q1,q2,s2,oc,od,oe,t3,t4,t5,jmT]
 |some x=>
  have r1:G 6 [cm c,vi i,vi side,cm d,vi k,ints p]=some (.tup [cm x,vb true],[]):=r1;have r2:G 7 [cm c,vi i,vi side,cm d,vi k,ints p]=some (.tup [cm x,vb true],[]):=r2;have s1:=s1 x rfl;cases q with
  |none=>
   have q1:G 10 [cm e,vi n]=some (.tup [cz,vb false],[]):=q1;have q2:G 11 [cm e,vi n]=some (.tup [cz,vb false],[]):=q2;simp only[evz,e0,e1,r1,r2,s1,e2,q1,q2,oc,od,oe,t3,t4,t5,jmT]
  |some y=>
   have q1:G 10 [cm e,vi n]=some (.tup [cm y,vb true],[]):=q1;have q2:G 11 [cm e,vi n]=some (.tup [cm y,vb true],[]):=q2;have s2:=s2 y rfl;simp only[evz,e0,e1,r1,r2,s1,e2,q1,q2,s2,oc,od,oe,t3,t4,t5,jmT]
end Go.Proofs.YtjgmjdidbgcljaaGreatDoor
