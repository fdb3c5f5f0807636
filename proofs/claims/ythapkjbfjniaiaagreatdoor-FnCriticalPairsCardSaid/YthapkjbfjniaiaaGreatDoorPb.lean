/- Pb -/
import Derived.Test.YthapkjbfjniaiaaGreatDoorPa
import Derived.Test.YthapkjbfjniaiaaGreatDoorPq
import Derived.Sort.Walk0
import Derived.Lib.ItoaNum
namespace Go.Proofs.YthapkjbfjniaiaaGreatDoor
open Go Go.RowKit Go.Proofs.YthapkjbfjniaiaaGreatDoor.Abs
set_option linter.unusedSimpArgs false
set_option linter.unusedVariables false
set_option maxHeartbeats 1000000
theorem jB1{n:Nat}(h:n<=4194304):jbk n 24=true:=by
 unfold jbk;exact decide_eq_true ⟨by omega,by omega⟩
theorem jAE{n:Nat}(h:n<=4194304):jbk n 8=true:=by
 unfold jbk;exact decide_eq_true ⟨by omega,by omega⟩
abbrev pln(p:Xf):A:= .sl 1 (p.map λn=>[vi (n:Nat)])
abbrev plc(p:Xf):Xd:=[pln p]
theorem jyT(p:Xf)(h:p.length<=4194304):jti (pln p)=some (.top,[pln p]):=by
 rw[jBm];have:=jAE (n:=p.length) h;simp only[evz,this]
mutual
theorem jve:∀t:T,(jrU t).length=nodes t
 |.mk n us=>by
  rw[jrU,nodes,Y0,jpQ us 0];simp;omega
theorem jpQ:∀(us:Xg)(i:Nat),(joU i us).length=jcO us
 | [],i=>rfl
 |t::ts,i=>by
  rw[joU,jcO,Y0,jbP,jve t,jpQ ts (i+1)]
end
def okP:Xf->T->Prop
 | [],_=>True
 |i::p,t=>i<t.args.length/\okP p (t.args.getD i (.mk [] []))
theorem ji3{ts:Xg}{i:Nat}(h:i<ts.length):ts.getD i (.mk [] [])=ts[i]:=by rw[zk,jv h];rfl
mutual
theorem jxk:∀(t:T),∀p∈jrU t,okP p t/\p.length<=nodes t
 |.mk n us=>λp hp=>by
  rw[jrU,j4]at hp;rcases hp with hp|hp
  .obtain ⟨j,q,rfl,h1,h2,h3⟩:=jrT us 0 p hp;refine⟨?_,?_⟩
   .show (0+j)<us.length/\okP q (us.getD (0+j) _);rw[qM];exact⟨h1,h2⟩
   .rw [KP,nodes];omega
  .rw [jA]at hp;subst hp;exact⟨trivial,by simp⟩
theorem jrT:∀(us:Xg)(i:Nat),∀p∈joU i us,∃j q,p=(i+j)::q/\j<us.length/\okP q (us.getD j (.mk [] []))/\q.length<=jcO us
 | [],i,p,hp=>by rw[joU]at hp;cases hp
 |t::ts,i,p,hp=>by
  rw[joU,j4]at hp;rcases hp with hp|hp
  .obtain ⟨q,hq,rfl⟩:=qQ.1 hp;obtain⟨h1,h2⟩:=jxk t q hq;exact⟨0,q,rfl,by simp,h1,by rw[jcO];omega⟩
  .obtain ⟨j,q,rfl,h1,h2,h3⟩:=jrT ts (i+1) p hp;exact⟨j+1,q,by rw[show i+1+j=i+(j+1) by omega],by simpa using h1,by simpa using h2,by rw[jcO];omega⟩
end
theorem jqJ{q:T->Prop}(hq:∀t,q t-> ∀u∈t.args,q u):∀{p:Xf}{t:T},okP p t->q t->q (atT p t)
 | [],_,_,h=>h
 |i::p,t,hp,h=>by
  obtain⟨h1,h2⟩:=hp;refine jqJ (p:=p) hq h2 ?_;rw[ji3 h1];exact hq t h _ (YX _)
theorem jrS(i:Nat)(p:Xf):pln (i::p) = .sl 1 ([vi (i:Nat)]::p.map λn=>[vi (n:Nat)]):=rfl
theorem jkr{p:Xf}{i:Nat}(h:i<p.length):zN 1 (pln p) (vi (i:Nat))=some (.elt [vi (p[i]:Nat)] 0):=jaH h
theorem at_eq(t:T)(p:Xf)(ht:Tz t)(hp:okP p t)(hl:p.length<=2000000):G 53 [tm t,pln p]=some (.tup [tm (atT p t),vb true],[]):=by
 have key:=upto (P:=λi=>∀t:T,Tz t->okP (p.drop i) t->jty (pln p) (vi i) (sv t.name) (tms t.args) (sv []) []=some (.tup [tm (atT (p.drop i) t),vb true],[])) (n:=p.length) ?_ ?_ 0 (Nat.zero_le _) t ht hp
 .rw [g53];simp only[evz];exact key
 .intro t ht _;have e1:=jni t ht;rw[jzA,List.drop_length];simp only[evz,e1];rfl
 .intro i hi ih t ht hp;have hlt:(i:Int)<((p.length:Nat):Int):=by omega
  have h5:=jeZ hi (by show p.length<=9223372036854775807;omega)
  have hs:=ht;unfold Tz at hs;rw[jhG]at hs;rw[jeX hi]at hp⊢;obtain⟨h1,h2⟩:=hp;have hsub:ck (((t.args.length:Nat):Int)-1)=some (vi (((t.args.length:Nat):Int)-1)):=jgN (by omega) (by omega);have hin:=jkC ((p[i]:Nat):Int) 0 (((t.args.length:Nat):Int)-1);have hb:inB 0 (((t.args.length:Nat):Int)-1) ((p[i]:Nat):Int)=true:=by unfold inB;simp;omega
  rw[hb]at hin;have e:t.args.getD p[i] (.mk [] [])=t.args[p[i]]:=ji3 h1;rw[e]at h2;have ih:=ih _ (ht.args _ (YX h1)) h2;rw[jzA,atT,e];simp only[evz,hlt,jkr hi,hsub,hin,jaH h1,jbV,h5,ih]
theorem jub(t:T)(ht:Tz t):jtf (sv t.name) (tms t.args)=some (.top,[sv t.name,tms t.args]):=by
 have h:=ht;unfold Tz at h;rw[jhG]at h;have key:=(upto (P:=λi=>jnO (vi i) (sv t.name) (tms t.args) (sv []) (sv t.name) [] ((t.args.take i).map jbY)=some (.top,[sv t.name,tms t.args])) (n:=t.args.length) ?_ ?_ 0 (Nat.zero_le _))
 .rw [jBd];simp only[Int.natCast_zero,List.take_zero,List.map_nil]at key;simp only[evz,key]
 .rw [jtW,List.take_length];simp only[evz]
 .intro i hi ih';have hlt:(i:Int)<((t.args.length:Nat):Int):=by omega
  have h5:=jeZ hi (by show t.args.length<=9223372036854775807;omega)
  have e1:=jni t.args[i] (by have:=jiK (YX hi);omega)
  have hf:jbk (i+1) 40=true:=js0 (by omega);have hl:((t.args.take i).map jbY).length=i:=by rw[jbP,List.length_take];omega
  have ha:jgD ((t.args.take i).map jbY) [[sv t.args[i].name,tms t.args[i].args]]=(t.args.take (i+1)).map jbY:=by
   rw[show[sv t.args[i].name,tms t.args[i].args]=jbY t.args[i] from(jhF _).symm,List.take_add_one,jv hi,jbM];rfl
  rw[jtW];simp only[evz,hlt,jaH hi,jbV,e1,hl,hf,ha,h5,ih']
theorem juu(s:T)(hs:Tz s):∀(p:Xf)(t:T),Tz t->okP p t->p.length<=2000000->G 56 [tm t,pln p,tm s]=some (tm (jhD s p t),[])
 | [],t,_,_,_=>by
  have e1:=jub s hs;have hz:(((0:Nat):Int)=0)=True:=by simp
  rw[g56,jhD];simp only[evz,hz,e1,List.map_nil,List.getElem?_cons_zero]
 |i::p,t,ht,hp,hl=>by
  obtain⟨h1,h2⟩:=hp;have e:t.args.getD i (.mk [] [])=t.args[i]:=ji3 h1;rw[e]at h2;have e1:=jub t ht;have e2:=juu s hs p t.args[i] (ht.args _ (YX h1)) h2 (by rw[KP]at hl;omega);have hz:¬((p.length+1:Nat):Int)=0:=by omega
  have hz2:¬((p.length:Nat):Int)+1=0:=by omega
  have i0:zN 1 (pln (i::p)) (vi 0)=some (.elt [vi (i:Nat)] 0):=jkr (p:=i::p) (i:=0) (by simp);have sl:K6 1 (pln (i::p)) (some (vi 1)) none=some (pln p):=by
   have:=jjs (k:=1) (xs:=(i::p).map λn:Nat=>[vi (n:Nat)]) (i:=1) (by simp);exact this
  have ix:pIx t.args.length (vi (i:Nat))=some i:=jiG h1;have rg:jbm (t.args.map jbY) i=some (jbY t.args[i]):=by unfold jbm;simp[h1]
  have co:Z4 (jbY t.args[i]) 0 [sv (jhD s p t.args[i]).name,tms (jhD s p t.args[i]).args]=jbY (jhD s p t.args[i]):=by rw[jhF,jhF];rfl
  have rs:jat (t.args.map jbY) i (jbY (jhD s p t.args[i]))=(t.args.set i (jhD s p t.args[i])).map jbY:=by unfold jat;rw[List.map_set]
  have ll:(jf1 (pln (i::p)))=some (vi ((p.length+1:Nat):Int)):=by rw[jrS];simp only[evz]
  rw[g56,jhD,e];simp only[evz,ll,hz,e1,i0,jaH h1,jbV,sl,e2,ix,rg,co,rs,List.getElem?_cons_zero];rfl
theorem jo7{n:Xb}(h:jc2 n=true):n.length<=4:=by
 cases n with
 |nil=>simp
 |cons c r=>
  simp only[jc2,jm,KR]at h;rw[KP];omega
theorem jvk{n:Xb}(h:jiX n=true):n.length<=6:=by
 cases n with
 |nil=>simp
 |cons c r=>
  simp only[jiX,jm,KR]at h;rw[KP];omega
theorem jjK:∀t:T,okT t=true->tsz t<=10*nodes t:=by
 refine T.ind λt ih hk=>?_;have hL:∀us:Xg,(∀u∈us,tsz u<=10*nodes u)->jks us<=10*jcO us:=by
  intro us;induction us with
  |nil=>intro _;simp[jks]
  |cons u us ih2=>
   intro h;have:=h u (by simp);have:=ih2 λw hw=>h w (by simp[hw]);simp only[jks,jcO];omega
 have h1:=hL t.args λu hu=>ih u hu (jhB hk u hu);rw[jhG,jfw];rw[jiM]at hk;cases hv:jc2 t.name with
 |true=>
  rw[hv,ju rfl]at hk;have:=jo7 hv;rw[List.isEmpty_iff.1 hk]at h1⊢;simp only[YU,jks]at h1⊢;omega
 |false=>
  rw[hv,jo Bool.false_ne_true,jm,jm,KR]at hk;have:=jvk hk.1;omega
theorem jnn{u:je6}{Z:Nat}(hZ:1<=Z)(hu:∀q∈u,nodes q.2<=Z):∀t:T,nodes (sub u t)<=nodes t*Z:=by
 refine T.ind λt ih=>?_;cases hv:jc2 t.name with
 |true=>
  have h1:=jiO t;have h2:1*Z<=nodes t*Z:=z8 Z h1;rw[jkd hv,jkc];cases hl:look u t.name with
  |none=>show 1+0<=_;omega
  |some r=>have:nodes r<=Z:=hu _ (jkD hl);show nodes r<=_;omega
 |false=>
  have hL:∀us:Xg,(∀v∈us,nodes (sub u v)<=nodes v*Z)->jcO (us.map (sub u))<=jcO us*Z:=by
   intro us;induction us with
   |nil=>intro _;simp[jcO]
   |cons v us ih2=>
    intro h;have:=h v (by simp);have:=ih2 λw hw=>h w (by simp[hw]);simp only[zB,jcO,jV];omega
  have:=hL t.args ih;rw[jfw,jmV hv,jfw t,jV];omega
theorem jkP{t u:T}(h:u∈t.args):nodes u<nodes t:=by
 have:=jiH h;have:=jfw t;omega
def Vs(t:T):Prop:=okT t=true/\nodes t<=30
theorem Vs.args{t:T}(h:Vs t):∀u∈t.args,Vs u:=λu hu=>⟨jhB h.1 u hu,by have:=jkP hu;have:=h.2;omega⟩
theorem Vs.tz{t:T}(h:Vs t):Tz t:=by
 have:=jjK t h.1;have:=h.2;unfold Tz;omega
def RS(rs:Xg):Prop:=rs.length<=10/\ ∀r∈rs,r.args.length=2/\Vs (jge r)/\Vs (jhE r)
theorem RS.ok{rs:Xg}(h:RS rs):jxV rs:=λr hr=>⟨(h.2 r hr).2.1.1,(h.2 r hr).2.2.1⟩
def EX(root:Bool)(t:T):Prop:=(nodes t<=31/\Tz t)/\(∀u∈t.args,Vs u)/\(root=true->Vs t)
theorem jkh{r:T}(hl:r.args.length=2):zN 2 (tms r.args) (vi 0)=some (.elt (jbY (jge r)) 0)/\zN 2 (tms r.args) (vi 1)=some (.elt (jbY (jhE r)) 0):=by
 have i0:zN 2 (tms r.args) (vi 0)=some (.elt (jbY r.args[0]) 0):=jaH (i:=0) (by omega);have i1:zN 2 (tms r.args) (vi 1)=some (.elt (jbY r.args[1]) 0):=jaH (i:=1) (by omega);have e0:jge r=r.args[0]:=ji3 (by omega);have e1:jhE r=r.args[1]:=ji3 (by omega);rw[e0,e1];exact⟨i0,i1⟩
def jEW(t:T)(o:Option T):Xe:=match o with|some u=>some (.tup [tm u,vb true],[])|none=>some (.tup [tm t,vb false],[])
theorem EX.at{root:Bool}{t:T}(h:EX root t){p:Xf}(hp:okP p t)(hne:¬(p=[]/\root=false)):Vs (atT p t):=by
 obtain⟨_,h1,h2⟩:=h;cases p with
 |nil=>
  cases root
  .exact absurd ⟨rfl,rfl⟩ hne
  .exact h2 rfl
 |cons i p=>
  obtain⟨a,b⟩:=hp;refine jqJ (p:=p) (q:=Vs) (λ_ h=>h.args) b ?_;rw[ji3 a];exact h1 _ (YX _)
def jhc(o:Option T):Xe:=match o with|some u=>some (.tup [tm u,vb true],[])|none=>some (.tup [.agg [sv [],.sl 2 []],vb false],[])
def Srt(l:Xa):Prop:=l.Pairwise λx y=>x<y
theorem jlc(x y:Xb):sLt x y=decide (x<y):=Go.Proofs.bytesLess_eq x y
theorem jwS{x y:Xb}(h1:¬x<y)(h2:x≠y):y<x:=by
 have h3:y<=x:=List.not_lt.1 h1;exact Std.lt_of_le_of_ne h3 (Ne.symm h2)
theorem jn4:∀(a b:Xa),Srt a->Srt b->(∀n,n∈a↔n∈b)->a=b
 | [],[],_,_,_=>rfl
 | [],y::b,_,_,h=>by have:=(h y).2 (by simp);cases this
 |x::a,[],_,_,h=>by have:=(h x).1 (by simp);cases this
 |x::a,y::b,ha,hb,h=>by
  have ha':=List.pairwise_cons.1 ha;have hb':=List.pairwise_cons.1 hb;have hxy:x=y:=by
   have h1:x∈y::b:=(h x).1 (by simp);have h2:y∈x::a:=(h y).2 (by simp);rcases jK.1 h1 with h1|h1
   .exact h1
   .rcases jK.1 h2 with h2|h2
    .exact h2.symm
    .exact absurd (List.lt_trans (ha'.1 y h2) (hb'.1 x h1)) (List.lt_irrefl x)
  subst hxy;refine congrArg (x::·) (jn4 a b ha'.2 hb'.2 λn=>⟨λhn=>?_,λhn=>?_⟩)
  .rcases jK.1 ((h n).1 (YY _ hn))with e|e
   .subst e;exact absurd (ha'.1 _ hn) (List.lt_irrefl _)
   .exact e
  .rcases jK.1 ((h n).2 (YY _ hn))with e|e
   .subst e;exact absurd (hb'.1 _ hn) (List.lt_irrefl _)
   .exact e
theorem jsd{l:Xa}(h:l.Nodup):Srt (kY l):=by
 have h1:(kY l).Pairwise λx y=>decide (x<=y)=true:=List.pairwise_mergeSort (λa b c h1 h2=>by simp only[KR]at *;exact List.le_trans h1 h2) (λa b=>by simp only[jbO,KR];exact List.le_total a b) l
 have h2:(kY l).Nodup:=(List.mergeSort_perm l _).nodup_iff.2 h;exact(h1.and h2).imp λ{x y} hxy=>Std.lt_of_le_of_ne (by simpa using hxy.1) hxy.2
theorem juq{l:Xa}{s:Xb}{i:Nat}(hl:Srt l)(h1:∀x∈l.take i,x<s)(h2:∀h:i<l.length,s<l[i]):Srt (l.take i++[s]++l.drop i):=by
 have hl':Srt (l.take i++l.drop i):=by rw[jbQ];exact hl
 obtain⟨p1,p2,p3⟩:=List.pairwise_append.1 hl';have h3:∀y∈l.drop i,s<y:=by
  intro y hy;have hlt:i<l.length:=by
   rcases Nat.lt_or_ge i l.length with h|h
   .exact h
   .rw [List.drop_of_length_le h]at hy;cases hy
  rw[List.drop_eq_getElem_cons hlt]at hy p2;rcases jK.1 hy with e|e
  .subst e;exact h2 hlt
  .exact List.lt_trans (h2 hlt) ((List.pairwise_cons.1 p2).1 y e)
 refine List.pairwise_append.2 ⟨List.pairwise_append.2 ⟨p1,by simp,λa ha b hb=>?_⟩,p2,λa ha b hb=>?_⟩
 .rw [jA.1 hb];exact h1 a ha
 .rcases j4.1 ha with ha|ha
  .exact p3 a ha b hb
  .rw [jA.1 ha];exact h3 b hb
theorem jpS{l:Xa}(h:Srt l):l.Nodup:=h.imp λ{x y} hxy e=>by subst e;exact List.lt_irrefl _ hxy
mutual
def jjl:T->Xa
 |.mk n us=>(if jc2 n then[]else[n])++jje us
def jje:Xg->Xa
 | []=>[]
 |t::ts=>jjl t++jje ts
end
theorem jjV(t:T):jjl t=(if jc2 t.name then[]else[t.name])++jje t.args:=by cases t;rfl
theorem juM(l:Xa)(s:Xb)(hl:l.length<=2100000):∃r,G 102 [strs l,sv s]=some (strs r,[])/\jmu l [s] 1 r/\(Srt l->Srt r):=by
 have key:=upto (P:=λi=>(Srt l-> ∀x∈l.take i,x<s)-> ∃r,jn9 (strs l) (sv s) (vi i)=some (strs r,[])/\jmu l [s] 1 r/\(Srt l->Srt r)) (n:=l.length) ?_ ?_ 0 (Nat.zero_le _)
 .simp only[Int.natCast_zero]at key;rw[jBA];exact key (by simp)
 .intro hless;have hx:¬((l.length:Nat):Int)<((l.length:Nat):Int):=Int.lt_irrefl _;have s1:K6 1 (strs l) none (some (vi (l.length:Nat)))=some (strs l):=by rw[jjU (by simp),YZ (by simp)]
  have s2:K6 1 (strs l) (some (vi (l.length:Nat))) none=some (.sl 1 []):=by rw[jjs (by simp),List.drop_of_length_le (by simp)]
  have f1:jbk l.length 16=true:=jjn (by omega);have f2:jbk (l.length+1) 16=true:=jjn (by omega);have happ:jgD (jgD (l.map cs) [[sv s]]) []=(l++[s]).map cs:=by simp[jgD]
  have hlen:(jgD (l.map cs) [[sv s]]).length=l.length+1:=by simp[jgD]
  refine⟨l++[s],?_,⟨by intro n;simp,by simp⟩,λh=>?_⟩
  .rw [jqy];simp only[evz,hx,s1,s2,f1,f2,hlen,happ,Jt]
  .have:=juq (s:=s) (i:=l.length) h (hless h) (λh=>absurd h (Nat.lt_irrefl _));simpa using this
 .intro i hi ih hless;have hlt:(i:Int)<((l.length:Nat):Int):=by omega
  have h5:=jeZ hi (by omega);rw[jqy];cases h1:sLt l[i] s
  .by_cases h2:l[i]=s
   .refine ⟨l,?_,⟨λn=>⟨λh=>Or.inl h,λh=>by
     rcases h with h|h
     .exact h
     .simp at h;rw[h,<-h2];exact YX _⟩,by omega⟩,id⟩
    rw[h2]at h1;simp only[evz,hlt,jaH hi,h2,h1]
   .have s1:K6 1 (strs l) none (some (vi i))=some (strs (l.take i)):=by rw[jjU (by simp;omega),<-List.map_take]
    have s2:K6 1 (strs l) (some (vi i)) none=some (strs (l.drop i)):=by rw[jjs (by simp;omega),<-List.map_drop]
    have ht:(l.take i).length=i:=by rw[List.length_take];omega
    have f1:jbk i 16=true:=jjn (by omega);have f2:jbk (i+1) 16=true:=jjn (by omega);have f3:jbk (i+1+(l.drop i).length) 16=true:=jjn (by rw[List.length_drop];omega);have happ:jgD (jgD ((l.take i).map cs) [[sv s]]) ((l.drop i).map cs)=(l.take i++[s]++l.drop i).map cs:=by simp[jgD]
    have hlen:(jgD ((l.take i).map cs) [[sv s]]).length=i+1:=by simp[jgD];omega
    refine⟨l.take i++[s]++l.drop i,?_,⟨λn=>?_,by simp;omega⟩,λh=>?_⟩
    .simp only[evz,hlt,jaH hi,h1,h2,s1,s2,ht,f1,f2,f3,hlen,happ]
    .have hm:n∈l↔n∈l.take i\/n∈l.drop i:=by rw[<-j4,jbQ]
     simp only[j4,jA,hm];exact⟨λh=>by rcases h with(h|h)|h<;>simp[h],λh=>by rcases h with(h|h)|h<;>simp[h]⟩
    .rw [jlc,decide_eq_false_iff_not]at h1;exact juq h (hless h) λ_=>jwS h1 h2
  .have hx:l[i]<s:=by rw[jlc,KR]at h1;exact h1
   obtain⟨r,e,c⟩:=ih λh x hm=>by
    rw[List.take_succ_eq_append_getElem hi]at hm;rcases j4.1 hm with hm|hm
    .exact hless h x hm
    .rw [jA.1 hm];exact hx
   refine⟨r,?_,c⟩;simp only[evz,hlt,jaH hi,h1,h5,e]
theorem jkB:∀t:T,twf t-> ∀l:Xa,l.length+nodes t<=2100000-> ∃r,G 66 [strs l,tm t]=some (strs r,[])/\jmu l (jjl t) (nodes t) r/\(Srt l->Srt r):=by
 refine T.ind λt ih hw l hb=>?_;obtain⟨w1,w2,w3⟩:=(jhC t).1 hw;have w3:=(jgO _).1 w3;have e1:=jit t.name w1;rw[g66,jjV];rw[jfw]at hb⊢;have key:=upto (P:=λi=>∀l:Xa,l.length+jcO (t.args.drop i)<=2100000-> ∃r,jq8 (strs l) (vi i) (sv t.name) (tms t.args)=some (strs r,[])/\jmu l (jje (t.args.drop i)) (jcO (t.args.drop i)) r/\(Srt l->Srt r)) (n:=t.args.length) ?_ ?_ 0 (Nat.zero_le _)
 .simp only[Int.natCast_zero,List.drop_zero]at key;cases hv:jc2 t.name<;>rw[hv]at e1
  .obtain ⟨r0,e0,⟨b1,b2⟩,b3⟩:=juM l t.name (by omega);obtain⟨r,e,⟨c1,c2⟩,c3⟩:=key r0 (by omega);refine⟨r,?_,⟨λn=>?_,by omega⟩,λh=>c3 (b3 h)⟩
   .simp only[evz,e1,e0,e]
   .rw [c1,b1];simp only[jbH,if_false,j4];exact or_assoc
  .obtain ⟨r,e,⟨c1,c2⟩,c3⟩:=key l (by omega);refine⟨r,?_,⟨by simpa using c1,by omega⟩,c3⟩;simp only[evz,e1,e]
 .intro l hb;rw[jzF,List.drop_length];refine⟨l,?_,⟨by simp[jje],by omega⟩,id⟩;simp only[evz]
 .intro i hi ih' l hb;have hlt:(i:Int)<((t.args.length:Nat):Int):=by omega
  have h5:=jeZ hi w2;rw[jeX hi]at hb⊢;simp only[jcO,jje]at hb⊢;obtain⟨r1,a1,⟨c1,c2⟩,c3⟩:=ih t.args[i] (YX _) (w3 _ (YX _)) l (by omega);obtain⟨r2,a2,⟨d1,d2⟩,d3⟩:=ih' r1 (by omega);rw[jzF];refine⟨r2,?_,⟨λn=>?_,by omega⟩,λh=>d3 (c3 h)⟩
  .simp only[evz,hlt,jaH hi,jbV,a1,h5,a2]
  .rw [d1,c1,j4];exact or_assoc
theorem jo2{n:Xb}(h:jc2 n=true):jiX n=false:=by
 cases n with
 |nil=>rfl
 |cons c r=>
  simp only[jc2,jm,upc,inB,KR]at h;have:jl3 c=false:=by unfold jl3 inB;rw[Bool.and_eq_false_iff];left;rw[decide_eq_false_iff_not];omega
  simp[jiX,this]
theorem jsg{t:T}(h:okT t=true):jiX t.name=!jc2 t.name:=by
 obtain⟨c,r,_,hv,hs⟩:=jrH h;cases hx:jc2 t.name
 .rw [hv]at hx;rw[hs hx];rfl
 .rw [jo2 hx];rfl
def jpp(l vs:Xa)(k:Nat)(r:Xa):Prop:=jmu l vs k r/\(l.Nodup->r.Nodup)
theorem jlD(ts:Xg)(hl:ts.length<=9223372036854775807)(ih:∀t∈ts,∀l:Xa,l.length+nodes t<=2100000-> ∃r,jl5 (sv t.name) (tms t.args) (l.map cs)=some (.top,[strs r])/\jpp l (jjl t) (nodes t) r) :
  ∀i,i<=ts.length-> ∀l:Xa,l.length+jcO (ts.drop i)<=2100000-> ∃r,jnT (tms ts) (vi (ts.length:Nat)) (vi i) (l.map cs)=some (.top,[strs r])/\jpp l (jje (ts.drop i)) (jcO (ts.drop i)) r:=by
 refine upto ?_ ?_
 .intro l hb;rw[jt2,List.drop_length];refine⟨l,?_,⟨by simp[jje],by omega⟩,id⟩;simp only[evz]
 .intro i hi ih' l hb;have hlt:(i:Int)<((ts.length:Nat):Int):=by omega
  have h5:=jeZ hi hl;rw[jeX hi]at hb⊢;simp only[jcO,jje]at hb⊢;obtain⟨r1,e1,⟨c1,c2⟩,c3⟩:=ih ts[i] (YX _) l (by omega);obtain⟨r2,e2,⟨d1,d2⟩,d3⟩:=ih' r1 (by omega);rw[jt2];refine⟨r2,?_,⟨λn=>?_,by omega⟩,λh=>d3 (c3 h)⟩
  .simp only[evz,hlt,jaH hi,jbV,e1,h5,e2]
  .rw [d1,c1,j4];exact or_assoc
theorem jlh(ts:Xg)(hl:ts.length<=9223372036854775807)(ih:∀t∈ts,∀l:Xa,l.length+nodes t<=2100000-> ∃r,jl5 (sv t.name) (tms t.args) (l.map cs)=some (.top,[strs r])/\jpp l (jjl t) (nodes t) r)(l:Xa)(hb:l.length+jcO ts<=2100000) :
  ∃r,jqo (tms ts) (vi (ts.length:Nat)) (vi 0) (l.map cs)=some (.top,[strs r])/\jpp l (jje ts) (jcO ts) r:=by
 have loop:=jlD ts hl ih;rw[jyI];by_cases h0:ts.length=0
 .have ha:ts=[]:=List.length_eq_zero_iff.1 h0;rw[ha];refine⟨l,?_,⟨by simp[jje],by simp[jcO]⟩,id⟩;simp only[evz];rfl
 .have hi:0<ts.length:=by omega
  have hlt:(0:Int)<((ts.length:Nat):Int):=by omega
  have hix:zN 2 (tms ts) (vi 0)=some (.elt (jbY ts[0]) 0):=jaH (i:=0) hi;have h5:jgx .add false (vi 0) (vi 1)=some (vi ((1:Nat):Int)):=by rw[jjy,jgN (by decide) (by decide)];rfl
  have hd:ts=ts[0]::ts.drop 1:=by have:=jeX hi;simpa using this
  have hns:jcO ts=nodes ts[0]+jcO (ts.drop 1):=by conv=>lhs;rw[hd,jcO]
  have hvs:jje ts=jjl ts[0]++jje (ts.drop 1):=by conv=>lhs;rw[hd,jje]
  obtain⟨r1,e1,⟨c1,c2⟩,c3⟩:=ih ts[0] (YX _) l (by omega);obtain⟨r2,e2,⟨d1,d2⟩,d3⟩:=loop 1 (by omega) r1 (by omega);refine⟨r2,?_,⟨λn=>?_,by omega⟩,λh=>d3 (c3 h)⟩
  .simp only[evz,hlt,hix,jbV,e1,h5,e2]
  .rw [d1,c1,hvs,j4];exact or_assoc
theorem jke:∀t:T,twf t->okT t=true-> ∀l:Xa,l.length+nodes t<=2100000-> ∃r,jl5 (sv t.name) (tms t.args) (l.map cs)=some (.top,[strs r])/\jpp l (jjl t) (nodes t) r:=by
 refine T.ind λt ih hw hk l hb=>?_;obtain⟨w1,w2,w3⟩:=(jhC t).1 hw;have w3:=(jgO _).1 w3;have hks:=jhB hk;have e1:=jnt t.name w1;have e2:=jjO l t.name (by omega);rw[jsg hk]at e1;rw[jBn,jjV];have ih':∀u∈t.args,∀l:Xa,l.length+nodes u<=2100000-> ∃r,jl5 (sv u.name) (tms u.args) (l.map cs)=some (.top,[strs r])/\jpp l (jjl u) (nodes u) r:=λu hu=>ih u hu (w3 u hu) (hks u hu);rw[jfw]at hb⊢;cases hv:jc2 t.name<;>rw[hv]at e1
 .cases hc:l.contains t.name<;>rw[hc]at e2
  .have hn:¬t.name∈l:=by simpa using hc
   obtain⟨r,e,⟨c1,c2⟩,c3⟩:=jlD t.args w2 ih' 0 (Nat.zero_le _) (l++[t.name]) (by simp;omega)
   simp only[Int.natCast_zero,List.drop_zero,Y0,List.length_singleton]at e c1 c2;have happ:jgD (l.map cs) [[sv t.name]]=(l++[t.name]).map cs:=by simp[jgD]
   have f1:jbk (l.length+1) 16=true:=jjn (by omega);refine⟨r,?_,⟨λn=>?_,by omega⟩,λh=>c3 ?_⟩
   .simp only[evz,e1,e2,f1,happ,e]
   .rw [c1];simp only[jbH,if_false,j4];exact or_assoc
   .exact zG.2 ⟨h,by simp,λa ha b hb e=>by rw[jA.1 hb]at e;rw[e]at ha;exact hn ha⟩
  .have hn:t.name∈l:=by simpa using hc
   obtain⟨r,e,⟨c1,c2⟩,c3⟩:=jlh t.args w2 ih' l (by omega);refine⟨r,?_,⟨λn=>?_,by omega⟩,c3⟩
   .simp only[evz,e1,e2,e]
   .rw [c1];simp only[jbH,if_false,j4,jA];exact⟨λh=>by rcases h with h|h<;>simp[h],λh=>by
     rcases h with h|h|h
     .exact Or.inl h
     .exact Or.inl (h ▸ hn)
     .exact Or.inr h⟩
 .obtain ⟨r,e,⟨c1,c2⟩,c3⟩:=jlh t.args w2 ih' l (by omega);refine⟨r,?_,⟨by simpa using c1,by omega⟩,c3⟩;simp only[evz,e1,e]
theorem jxa{n:Nat}(h:n<=4000000):jbk n 8=true:=by
 unfold jbk;simp;omega
theorem jy1(n:Nat)(h:n<=12):((jeA .u64 (jdE [[vi 1]])).bind λt2=>(jeA .u64 (vi n)).bind λt3=>(G 95 [t2,t3]).bind (fin false))=some (.tup [.val (.int .u64 0),.val (.int .u64 n)]):=by
 have c:(jeA .u64 (jdE [[vi 1]]))=some (.val (.int .u64 1)):=by kernel_rfl
 have d:jeA .u64 (vi n)=some (.val (.int .u64 n)):=by
  rcases n with _|_|_|_|_|_|_|_|_|_|_|_|_|n
  rotate_right
  .omega
  all_goals kernel_rfl
 rw[c,d];simp only[Option.bind_some];rw[g95];simp only[cev];rw[jCU];clear c d;rcases n with _|_|_|_|_|_|_|_|_|_|_|_|_|n
 rotate_right
 .omega
 all_goals (show _=_;kernel_rfl)
theorem jv1{α:Type}{a b:α}{i j k:Nat}(h:i<=k):(List.replicate i a++List.replicate j b).drop k=List.replicate (j-(k-i)) b:=by
 rw[List.drop_append,List.drop_replicate,List.drop_replicate,Ka,show i-k=0 by omega];rfl
theorem jxs{n:Nat}(hn:n<=12)(r1:Xc):∀(f j:Nat),n-j<=f->1<=j->j<=n->
  jnU (vi (j:Nat)) (List.replicate j [vi 1]++List.replicate (n-j) [vi 0]) r1=some (.top,[.sl 1 (List.replicate n [vi 1])]):=by
 intro f;induction f with
 |zero=>
  intro j h1 h2 h3;have:j=n:=by omega
  subst this;rw[jn1];simp only[evz,Ka,Nat.sub_self,List.replicate_zero,KQ]
 |succ f ih=>
  intro j h1 h2 h3;by_cases hj:j=n
  .subst hj;rw[jn1];simp only[evz,Ka,Nat.sub_self,List.replicate_zero,KQ]
  .rw [jn1];simp only[cev];have hl:(List.replicate j [vi 1]++List.replicate (n-j) [vi 0]).length=n:=by simp;omega
   have e1:decide ((j:Int)<(n:Int))=true:=by simp;omega
   have hm:j+min j (n-j)<=n:=by omega
   have e2:jgx .add false (vi j) (vi (min j (n-j):Nat))=some (vi (j+min j (n-j):Nat)):=by
    rw[jjy,jgN (by omega) (by omega)];rfl
   have ew:(((List.replicate j [vi 1]++List.replicate (n-j) [vi 0]).drop 0).take j)=List.replicate j [vi 1]:=by
    rw[List.drop_zero,jbK (by simp),YZ (by simp)]
   have eo:qK (List.replicate j [vi 1]++List.replicate (n-j) [vi 0]) (0+j) ((List.replicate j [vi 1]).take (n-j))=List.replicate (j+min j (n-j)) [vi 1]++List.replicate (n-(j+min j (n-j))) [vi 0]:=by
    rw[jr2,qM,jbK (by simp),YZ (by simp),List.take_replicate,Ka,jv1]
    .rw [List.replicate_append_replicate,Nat.min_comm (n-j) j];congr 2;omega
    .omega
   have key:=ih (j+min j (n-j)) (by omega) (by omega) hm;simp only[jui,juh,jkb,hl,joT,Option.bind_some,jmQ,e1,jrm,Nat.sub_zero,jiW (jR n),jlA h3,juk,jqH,ew,juj,jr3,Ka,e2,eo,key]
theorem jxr{n:Nat}(h:n<=12):jvA (vi (n:Nat)) [[vi 1]]=some (.top,[.sl 1 (List.replicate n [vi 1])]):=by
 rw[jBo];simp only[cev];have e0:decide ((n:Int)<0)=false:=by simp
 have em:=jy1 n h;have eg:decide ((0:Int)<0)=false:=by simp
 have ec:jeA .i64 (A.val (.int .u64 n))=some (vi n):=jgN (by omega) (by omega);have ek:jgx .gtr false (A.val (.int .u64 n)) (A.val (.int .u64 9223372036854775807))=some (vb false):=by
  show some (vb (decide ((9223372036854775807:Int)<n)))=_;rw[decide_eq_false (by omega)]
 have ek0:jgx .gtr false (A.val (.int .u64 0)) (A.val (.int .u64 0))=some (vb false):=rfl;have emk:Qw 8 (vi n) (vi n)=some n:=by
  show(if jgQ 8 (n:Int) (n:Int)then some (n:Int).toNat else none)=_;rw[ju ⟨by omega,by omega,by omega,by omega⟩];rfl
 have hm:∀(k:A->A->Xe),((jeA .u64 (jdE [[vi 1]])).bind λt2=>(jeA .u64 (vi n)).bind λt3=>((G 95 [t2,t3]).bind (fin false)).bind λt4=>(jhh t4 0).bind λt5=>(jhh t4 1).bind λt6=>k t5 t6) =
   k (.val (.int .u64 0)) (.val (.int .u64 n)):=by
  intro k;have:((jeA .u64 (jdE [[vi 1]])).bind λt2=>(jeA .u64 (vi n)).bind λt3=>((G 95 [t2,t3]).bind (fin false)).bind λt4=>(jhh t4 0).bind λt5=>(jhh t4 1).bind λt6=>k t5 t6) =
    (((jeA .u64 (jdE [[vi 1]])).bind λt2=>(jeA .u64 (vi n)).bind λt3=>(G 95 [t2,t3]).bind (fin false)).bind λt4=>(jhh t4 0).bind λt5=>(jhh t4 1).bind λt6=>k t5 t6):=by
   simp only[Option.bind_assoc]
  rw[this,em];rfl
 rw[joT,e0];simp only[Option.bind_some,jmQ,jm4];rw[hm];simp only[ek0,ek,Option.bind_some,jzS,zw,jrK,jbH,if_false,jmQ,jm4,ec,emk,jck,juh,Ka];rcases n with _|n
 .have e1:jh6 [[vi 1]] 0=vi ((0:Nat):Int):=rfl;have e2:qK (List.replicate 0 [vi 0]) 0 (jhj [[vi 1]] 0)=[]:=rfl;rw[e1,e2,jn1];rfl
 .have key:=jxs (n:=n+1) h [[vi 1]] (n+1) 1 (by omega) (by omega) (by omega);have e1:jh6 [[vi 1]] (n+1)=vi ((1:Nat):Int):=by
   rw[juj];have:min [[vi 1]].length (n+1)=1:=by simp
   rw[this]
  have e2:qK (List.replicate (n+1) [vi 0]) 0 (jhj [[vi 1]] (n+1))=List.replicate 1 [vi 1]++List.replicate (n+1-1) [vi 0]:=by
   rw[jr2,jr3];simp[yR]
  rw[e1,e2];exact key
theorem jo3{ts:Xg}{n:Xb} :n∈jje ts↔ ∃t∈ts,n∈jjl t:=by
 induction ts with
 |nil=>simp[jje]
 |cons t ts ih=>simp[jje,ih]
theorem jlU:∀t:T,okT t=true-> ∀n∈jjl t,jiX n=true:=by
 refine T.ind λt ih hk n hn=>?_;rw[jjV,j4]at hn;rcases hn with hn|hn
 .cases hv:jc2 t.name<;>rw[hv]at hn
  .simp at hn;rw[hn,jsg hk,hv];rfl
  .simp at hn
 .obtain ⟨u,hu,hm⟩:=jo3.1 hn;exact ih u hu (jhB hk u hu) n hm
theorem jmF(l:Xa):∀t:T,(∀n∈jjl t,n∈l)->jjv l t=true:=by
 refine T.ind λt ih h=>?_;rw[jjV]at h;rw[jjm,jkN,jm];refine⟨?_,jaF.2 λu hu=>ih u hu λn hn=>h n (jdj _ (jo3.2 ⟨u,hu,hn⟩))⟩;cases hv:jc2 t.name
 .rw [hv]at h;rw[Bool.false_or];exact List.contains_iff_mem.2 (h t.name (by simp))
 .rfl
def jli(r:Xa):Ord':=⟨r,List.replicate r.length 1,1⟩
theorem jpY{r:Xa}(h1:1<=r.length)(h2:r.length<=12)(hs:∀n∈r,jiX n=true)(hn:r.Nodup):jiJ (jli r)=true:=by
 have hb:inB 1 12 (r.length:Nat)=true:=by unfold inB;rw[jm,KR,KR];omega
 unfold jiJ jli;simp only[hb,Ka,decide_true,Bool.true_and,jm];refine⟨by decide,jaF.2 λi hi=>?_⟩;have hi:i<r.length:=List.mem_range.1 hi;have g1:r.getD i []=r[i]:=by simp[zk,hi]
 have g2:(List.replicate r.length (1:Int)).getD i 0=1:=by simp[zk,hi]
 unfold juA;simp only[g1,g2,hs _ (YX _),Bool.true_and,jm];refine⟨?_,by decide⟩;rw[qO,<-Bool.not_eq_true,List.contains_iff_mem];intro hm;obtain⟨j,hj,e⟩:=List.mem_take_iff_getElem.1 hm;have:=(List.nodup_iff_pairwise_ne.1 hn);have:=List.pairwise_iff_getElem.1 this j i (by omega) hi (by omega);exact this e
theorem jsf{n:Xb}(h:jiX n=true):n.length<=6:=by
 cases n with
 |nil=>simp
 |cons c r=>
  simp only[jiX,jm,KR]at h;simp only[KP];omega
theorem jlq(o:Ord')(s t:T)(hw:twf s)(hw':twf t)(x y:Bool)(e5:G 98 [od o,tm s,tm t]=some (vb x,[]))(e6:G 98 [od o,tm t,tm s]=some (vb y,[])):G 62 [od o,tm s,tm t]=some (vi (jkj (dq s t) x y),[]):=by
 have e4:=jix s hw t hw';have c1:G 97 [.elt (jqI o) 0,.elt [sv s.name,.sl 2 (s.args.map jbY)] 0,.elt [sv t.name,.sl 2 (t.args.map jbY)] 0]=some (vb x,[]):=by
  rw[g97];simp only[evz,jmR,jmS,e5]
 have c2:G 99 [.elt (jqI o) 0,.elt [sv t.name,.sl 2 (t.args.map jbY)] 0,.elt [sv s.name,.sl 2 (s.args.map jbY)] 0]=some (vb y,[]):=by
  rw[g99];simp only[evz,jmR,jmS,e6]
 have e7:=joR (f:=97) (g:=99) rfl rfl (dq s t) _ _ c1 c2;rw[g62];simp only[evz,e4,e7]
theorem jjN{t:T}(hk:okT t=true)(hv:jc2 t.name=true):t.args=[]:=by
 rw[jiM,hv,ju rfl]at hk;exact List.isEmpty_iff.1 hk
theorem jmM(o:Ord')(s t:T)(hw:twf s)(hw':twf t)(hk:okT s=true)(hk':okT t=true)(hv:jc2 s.name=true)(hv':jc2 t.name=true)(hne:¬s.name=t.name):G 98 [od o,tm s,tm t]=some (vb false,[]):=by
 have as_:=jjN hk hv;have at_:=jjN hk' hv';have ns:nodes s<=1048577:=by rw[jfw,as_];simp[jcO]
 have nt:nodes t<=1048577:=by rw[jfw,at_];simp[jcO]
 obtain⟨r,er,c1,c2⟩:=jmY t hw' hk' nt;have hvt:jhx t=[t.name]:=by rw[ji6,ju hv']
 have hpos:0<r.length:=by
  rcases Nat.eq_zero_or_pos r.length with h|h
  .have hr:r=[]:=List.length_eq_zero_iff.1 h;have:=(c1 t.name).2 (by rw[hvt];simp);rw[hr]at this;cases this
  .exact h
 have h0:r[0]=t.name:=by
  have:=(c1 r[0]).1 (YX _);rw[hvt]at this;simpa using this
 have hlt:(0:Int)<((r.length:Nat):Int):=by omega
 have hix:zN 1 (strs r) (vi 0)=some (.elt (cs t.name) 0):=by have:=jaH (k:=1) (f:=cs) (i:=0) hpos;rw[h0]at this;exact this
 have a1:=jjw t.name s hw ns;have a2:=jjw t.name t hw' nt;have k1:cnt t.name s=0:=by rw[jm7,as_,jo hne];simp[jj6]
 have k2:cnt t.name t=1:=by rw[jm7,at_];simp[jj6]
 rw[k1]at a1;rw[k2]at a2;have h':((0:Nat):Int)<((1:Nat):Int):=by omega
 rw[g98];simp only[evz,er];rw[jwQ];simp only[evz,hlt,hix,a1,a2,h']
theorem jxy(a b:T)(r:Xa)(hr:r.length<=12)(x:Int)(ok:Bool)(e:G 67 [.agg [strs r,.sl 1 (List.replicate r.length [vi 1]),vi 1],tm a,tm b]=some (.tup [vi x,vb ok],[])) :
  jq4 (vi 0) (sv a.name) (tms a.args) (sv b.name) (tms b.args) (strs r) (vi 1) []=some (vi (if ok then x else 0),[]):=by
 have key:=upto (P:=λi=>jq4 (vi i) (sv a.name) (tms a.args) (sv b.name) (tms b.args) (strs r) (vi 1) (List.replicate i [vi 1])=some (vi (if ok then x else 0),[])) (n:=r.length) ?_ ?_ 0 (Nat.zero_le _)
 .simpa using key
 .rw [jzp];have hf:fin true (A.tup [vi x,vb ok],[])=some (A.tup [vi x,vb ok]):=rfl;cases ok
  .simp only[evz,e,hf]
  .simp only[evz,e,hf]
 .intro i hi ih;have hlt:(i:Int)<((r.length:Nat):Int):=by omega
  have h5:=jeZ hi (by omega);have f1:jbk (i+1) 8=true:=jxa (by omega);have happ:jgD (List.replicate i [vi 1]) [[vi 1]]=List.replicate (i+1) [vi 1]:=by rw[List.replicate_succ'];rfl
  have hlen:(List.replicate i ([vi 1]:Xd)).length=i:=Ka;rw[jzp];simp only[evz,hlt,hlen,f1,h5,happ,ih]
theorem jAo{o:Ord'}(hv:jiJ o=true){s t:T}(ks:okT s=true)(hc:jjv o.syms t=true)(h:Kp o s t):jc2 s.name=false:=by
 cases hs:jc2 s.name with
 |false=>rfl
 |true=>
  obtain⟨_,h⟩:=(jn8 o s t).1 h;rcases h with h|⟨_,h,_⟩
  .have:=jAZ hv hc;rw[jsv o s,jjN ks hs,hs,ju rfl]at h;simp only[wtL]at h;omega
  .rw [hs]at h;cases h.1
theorem joP(a b:T)(hw:twf a)(hw':twf b)(hs:tsz a<=1048576)(hs':tsz b<=1048576)(hva:jgc a=true)(hvb:jgc b=true) :
  ∃x:Int,G 33 [tm a,tm b]=some (vi x,[])/\G 28 [tm a,tm b]=some (vi x,[])/\(x=2->jc2 a.name=false):=by
 have hk:okT a=true:=by unfold jgc at hva;rw[jm]at hva;exact hva.2
 have hk':okT b=true:=by unfold jgc at hvb;rw[jm]at hvb;exact hvb.2
 have na:nodes a<=30:=by simp only[jgc,je7,jm,KR]at hva;exact hva.1.1
 have nb:nodes b<=30:=by simp only[jgc,je7,jm,KR]at hvb;exact hvb.1.1
 have e1:=jjI a hw b hw';have e2:=jix a hw b hw';rw[g33,g28];cases hd:dq a b<;>rw[hd]at e1 e2
 rotate_left
 .exact ⟨1,by simp only[evz,e1],by simp only[evz,e2],λh=>absurd h (by decide)⟩
 obtain⟨r1,f1,⟨c1,c2⟩,c3⟩:=jkB a hw [] (by simp;omega)
 obtain⟨r,f2,⟨d1,d2⟩,d3⟩:=jkB b hw' r1 (by simp at c2;omega)
 have hsrt:Srt r:=d3 (c3 List.Pairwise.nil);have hmem:∀n,n∈r↔n∈jjl a\/n∈jjl b:=λn=>by rw[d1,c1];simp
 have hlen:r.length<=60:=by simp at c2;omega
 have f1:G 66 [.sl 1 [],tm a]=some (strs r1,[]):=f1;obtain⟨p1,g1,⟨i1,i2⟩,i3⟩:=jke a hw hk [] (by simp;omega);obtain⟨p,g2,⟨j1,j2⟩,j3⟩:=jke b hw' hk' p1 (by simp at i2;omega);have hnd:p.Nodup:=j3 (i3 List.nodup_nil);have hpm:∀n,n∈p↔n∈jjl a\/n∈jjl b:=λn=>by rw[j1,i1];simp
 have hsort:kY p=r:=jn4 _ _ (jsd hnd) hsrt λn=>by rw[hmem,<-hpm];unfold kY;exact List.mem_mergeSort
 have hpl:p.length=r.length:=by rw[<-hsort];simp[kY]
 have g1:jl5 (sv a.name) (tms a.args) []=some (.top,[strs p1]):=g1;have g3:jpo (p.map cs)=some (.top,[strs r]):=by
  rw[jvS];simp only[jeO,jcv];rw[ju (by omega),hsort]
 by_cases h12:r.length<=12;rotate_left
 .have hgt:((12:Nat):Int)<((r.length:Nat):Int):=by omega
  have hle:¬((r.length:Nat):Int)<=12:=by omega
  have hgt:(12:Int)<((r.length:Nat):Int):=by omega
  have hz:¬((r.length:Nat):Int)=0:=by omega
  refine⟨0,?_,?_,λh=>absurd h (by decide)⟩
  .simp only[evz,e1,f1,f2,hz,hgt]
  .simp only[evz,e2,g1,g2,hpl,hgt]
 have hle:((r.length:Nat):Int)<=12:=by omega
 have hgt:¬(12:Int)<((r.length:Nat):Int):=by omega
 have hrep:=jxr h12;have hci:(ints (List.replicate r.length 1):A) = .sl 1 (List.replicate r.length [vi 1]):=by show A.sl 1 _=_;rw[List.map_replicate]
 have hod:(od (jli r):A) = .agg [strs r,.sl 1 (List.replicate r.length [vi 1]),vi 1]:=by rw[<-hci];rfl
 by_cases h0:r.length=0
 .have hr:r=[]:=List.length_eq_zero_iff.1 h0;have hz:((r.length:Nat):Int)=0:=by omega
  have va:jc2 a.name=true:=by
   cases hv:jc2 a.name
   .have:=(hmem a.name).2 (Or.inl (by rw[jjV,hv];simp))
    rw[hr]at this;cases this
   .rfl
  have vb':jc2 b.name=true:=by
   cases hv:jc2 b.name
   .have:=(hmem b.name).2 (Or.inr (by rw[jjV,hv];simp))
    rw[hr]at this;cases this
   .rfl
  have hne:¬a.name=b.name:=λe=>by
   rw[jx3,e,jjN hk va,jjN hk' vb',jmG]at hd;simp at hd
  have q:=jlq (jli r) a b hw hw' false false (jmM _ a b hw hw' hk hk' va vb' hne) (jmM _ b a hw' hw hk' hk vb' va (λe=>hne e.symm));rw[hd,hod]at q;refine⟨0,?_,?_,λh=>absurd h (by decide)⟩
  .simp only[evz,e1,f1,f2,hz]
  .simp only[evz,e2,g1,g2,hpl,hgt,g3,hrep,q,jkj]
 have hsym:∀n∈r,jiX n=true:=λn hn=>by
  rcases(hmem n).1 hn with h|h
  .exact jlU a hk n h
  .exact jlU b hk' n h
 have hval:=jpY (by omega) h12 hsym (jpS hsrt);have hca:jjv (jli r).syms a=true:=jmF _ a λn hn=>(hmem n).2 (Or.inl hn);have hcb:jjv (jli r).syms b=true:=jmF _ b λn hn=>(hmem n).2 (Or.inr hn);have howf:owf (jli r):=by
  refine⟨⟨λs hs=>?_,by show r.length<=_;omega⟩,⟨λx hx=>?_,by show(List.replicate r.length (1:Int)).length<=_;rw[Ka];omega⟩,by show I64 1;exact⟨by decide,by decide⟩⟩
  .have:=jsf (hsym s hs);omega
  .have:x=1:=by have:=jbT hx;exact this
   rw[this];exact⟨by decide,by decide⟩
 have q1:=jnL (jli r) a b howf hw hs hw' hs';have q2:=jle hval a b howf hw hs hw' hs' hk hk' hca hcb;have q3:jk0 (jli r) a b = .tup [vi (jjH (jli r) a b),vb true]:=by unfold jk0 good;rw[hval,hva,hvb,hca,hcb];rfl
 rw[q3,hod]at q1;rw[hod]at q2;have q4:=jxy a b r h12 _ _ q1;have hz:¬((r.length:Nat):Int)=0:=by omega
 refine⟨jjH (jli r) a b,?_,?_,λh=>jAo hval hk hcb ((jyE _ _ _).1 h)⟩
 .simp only[evz,e1,f1,f2,hz,hgt,q4]
 .simp only[evz,e2,g1,g2,hpl,hgt,g3,hrep,q2]
theorem jrs{ts:Xg}{t:T}(h:t∈ts):dep t<=jkH ts:=by
 induction ts with
 |nil=>cases h
 |cons u us ih=>
  simp only[jkH];rcases jK.1 h with h|h
  .subst h;omega
  .have:=ih h;omega
theorem jlQ{t u:T}(h:u∈t.args)(hs:je7 t=true):je7 u=true:=by
 simp only[je7,jm,KR]at hs⊢;have h1:=jiH h;have h2:=jrs h;rw[jfw,jjY]at hs;omega
theorem jnq(t:T)(hs:Tz t)(he:¬t.name=[61]):G 48 [tm t]=some (vb (jiX t.name && jgc t),[]):=by
 have e1:=jlx t.name ((jhC t).1 hs.wf).1;have e2:=jlL t hs.wf hs;rw[g48];cases h:jiX t.name<;>rw[h]at e1
 .simp only[evz,he,e1,Bool.false_and]
 .simp only[evz,he,e1,e2,Bool.true_and]
theorem jsM{t:T}(h:jjS t=true):t.args.length=2/\Vs (jge t)/\Vs (jhE t)/\je7 t=true:=by
 have h':=h;unfold jjS at h;rw[jm,jm,jm,KR]at h;obtain⟨h1,h2,h3,h4⟩:=h;obtain⟨_,_,ma,mb⟩:=jjF h1;have hn:nodes t<=30:=by simp only[je7,jm,KR]at h2;exact h2.1
 exact⟨h1,⟨h3,by have:=jkP ma;show nodes (jmA t)<=30;omega⟩,⟨h4,by have:=jkP mb;show nodes (jnE t)<=30;omega⟩,h2⟩
theorem jup(t:T)(hs:Tz t):∃b:Bool,G 20 [tm t]=some (vb b,[])/\G 8 [tm t]=some (vb b,[])/\(b=true->t.name=[61]/\jjS t=true/\jc2 (jge t).name=false):=by
 have hw:=hs.wf;obtain⟨w1,w2,w3⟩:=(jhC t).1 hw;have w3:=(jgO _).1 w3;have q0:=jjP t;by_cases he:t.name=[61];rotate_left
 .have e1:=jnq t hs he;rw[decide_eq_false he]at q0;refine⟨false,?_,?_,λh=>by cases h⟩
  .rw [g20];cases h1:(jiX t.name && jgc t)<;>rw[h1]at e1<;>simp only[evz,he,e1]
  .rw [g8];simp only[evz,q0]
 .have e1:=jmm t hw hs he;have e2:=jjZ t hw hs he;rw[decide_eq_true he]at q0;have het:(t.name=[61])=True:=eq_true he;rw[g20,g8];cases h:jjS t<;>rw[h]at e1 e2
  .exact ⟨false,by simp only[evz,e1],by simp only[evz,q0,e2],λh=>by cases h⟩
  .obtain ⟨h1,v1,v2,hsm⟩:=jsM h;obtain⟨i0,i1,ma,mb⟩:=jjF h1;have va:jgc (jmA t)=true:=by unfold jgc;rw[jlQ ma hsm];exact v1.1
   have vb':jgc (jnE t)=true:=by unfold jgc;rw[jlQ mb hsm];exact v2.1
   obtain⟨x,o1,o2,o3⟩:=joP (jmA t) (jnE t) (w3 _ ma) (w3 _ mb) v1.tz v2.tz va vb';refine⟨decide (x=2),?_,?_,λhx=>⟨he,rfl,o3 (of_decide_eq_true hx)⟩⟩
   .simp only[evz,e1,het,i0,i1,jbV,o1]
   .simp only[evz,q0,e2,i0,i1,jbV,o2]
def EX'(root:Bool)(t:T):Prop:=EX root t/\(root=false->t.name=[61]/\t.args.length=2)
theorem jt9{us:Xg}(h:∀u∈us,okT u=true):jks us<=10*jcO us:=by
 induction us with
 |nil=>simp[jks]
 |cons u us ih=>
  have:=jjK u (h u (by simp));have:=ih λw hw=>h w (by simp[hw]);simp only[jks,jcO];omega
theorem jua{t:T}(h:okT t=true):¬t.name=[61]:=λe=>by
 rw[jiM,e]at h;exact absurd h (by
  rw[show jc2 [61]=false from by decide,jo Bool.false_ne_true,show jiX [61]=false from by decide];simp)
theorem jtI{t:T}(ht:Tz t)(h:okT t=true\/(t.name=[61]/\t.args.length=2/\ ∀u∈t.args,okT u=true)):G 120 [tm t]=some (vb (je7 t),[]):=by
 have e2:=jlL t ht.wf ht;rw[jCR];rcases h with h|⟨h1,h2,h3⟩
 .have hv:jgc t=je7 t:=by unfold jgc;rw[h,Bool.and_true]
  rw[hv]at e2;have e1:=jnq t ht (jua h);rw[hv]at e1;cases hs:je7 t<;>rw[hs]at e1 e2
  .rw [Bool.and_false]at e1;simp only[evz,e1,e2]
  .simp only[evz,e2]
 .have hk:okT t=false:=by
   cases hk:okT t with
   |false=>rfl
   |true=>exact absurd h1 (jua hk)
  have hv:jgc t=false:=by unfold jgc;rw[hk,Bool.and_false]
  rw[hv]at e2;have e1:=jmm t ht.wf ht h1;obtain⟨_,_,ma,mb⟩:=jjF h2;have he:jjS t=je7 t:=by unfold jjS;rw[decide_eq_true h2,h3 _ ma,h3 _ mb];simp
  rw[he]at e1;simp only[evz,e1,e2]
def jEV(o:Option (T×Nat)):Xe:=match o with|some r=>some (.tup [tm r.1,vi (r.2:Nat),vb true],[])|none=>some (.tup [.agg [sv [],.sl 2 []],vi 0,vb false],[])
theorem Vs.ex{t:T}(h:Vs t):EX' true t:=⟨⟨⟨by have:=h.2;omega,h.tz⟩,h.args,λ_=>h⟩,λh=>by cases h⟩
structure Law3{α:Type}(c:α->α->Int):Prop where
 zero:∀a b,c a b=0↔a=b
 flip:∀a b,c b a = -(c a b)
 trans:∀a b d,c a b<0->c b d<0->c a d<0
section
variable{α:Type}{c:α->α->Int}
def Asc(c:α->α->Int)(l:List α):Prop:=l.Pairwise λa b=>c a b<0
def jBw(eq:α->α->Bool):List α->List α
 | []=>[]
 |a::l=>(match jBw eq l with| []=>[a]|b::m=>if eq a b then b::m else a::b::m)
theorem jmb{p:α->Bool} :∀{l:List α}{a:α},a∈l.takeWhile p->p a=true
 |x::l,a,h=>by
  by_cases hx:p x=true
  .rw [List.takeWhile_cons_of_pos hx]at h;rcases jK.1 h with e|e
   .rw [e];exact hx
   .exact jmb e
  .rw [List.takeWhile_cons_of_neg hx]at h;cases h
def jpf(c:α->α->Int)(l:List α)(x:α):List α:=if(l.dropWhile λa=>decide (c a x<0)).head?.any (λb=>decide (c b x=0))then l else l.takeWhile (λa=>decide (c a x<0))++x::l.dropWhile λa=>decide (c a x<0)
theorem jwc(h:Law3 c){l:List α}(hl:Asc c l)(x:α):Asc c (jpf c l x)/\ ∀y,y∈jpf c l x↔y∈l\/y=x:=by
 have e:=List.takeWhile_append_dropWhile (p:=λa=>decide (c a x<0)) (l:=l);have ht:∀a∈l.takeWhile (λa=>decide (c a x<0)),c a x<0:=λa ha=>of_decide_eq_true (jmb (p:=λa=>decide (c a x<0)) ha);unfold jpf;generalize l.takeWhile (λa=>decide (c a x<0))=t at *;cases hd:l.dropWhile (λa=>decide (c a x<0))with
 |nil=>
  rw[hd,KQ]at e;subst e;rw[jo (by simp)];refine⟨?_,λy=>by simp⟩;refine List.pairwise_append.2 ⟨hl,by simp,λa ha b hb=>?_⟩;simp only[jA]at hb;rw[hb];exact ht a ha
 |cons b m=>
  have hb:¬c b x<0:=by
   intro hb;have:=List.head?_dropWhile_not (p:=λa=>decide (c a x<0)) l;rw[hd]at this;simp[hb]at this
  rw[hd]at e;by_cases h0:c b x=0
  .rw [ju (by simp[h0])];refine⟨hl,λy=>⟨Or.inl,λhy=>?_⟩⟩;rcases hy with hy|hy
   .exact hy
   .rw [hy,<-(h.zero b x).1 h0,<-e];simp
  .rw [jo (by simp[h0])];rw[<-e]at hl;obtain⟨p1,p2,p3⟩:=List.pairwise_append.1 hl;have hxb:c x b<0:=by have:=h.flip b x;omega
   refine⟨List.pairwise_append.2 ⟨p1,List.pairwise_cons.2 ⟨λy hy=>?_,p2⟩,λa ha y hy=>?_⟩,λy=>?_⟩
   .rcases jK.1 hy with e'|e'
    .rw [e'];exact hxb
    .exact h.trans x b y hxb ((List.pairwise_cons.1 p2).1 y e')
   .rcases jK.1 hy with e'|e'
    .rw [e'];exact ht a ha
    .exact p3 a ha y e'
   .rw [<-e];simp only[j4,jK];constructor
    .rintro (h|h|h|h)
     .exact Or.inl (Or.inl h)
     .exact Or.inr h
     .exact Or.inl (Or.inr (Or.inl h))
     .exact Or.inl (Or.inr (Or.inr h))
    .rintro ((h|h|h)|h)
     .exact Or.inl h
     .exact Or.inr (Or.inr (Or.inl h))
     .exact Or.inr (Or.inr (Or.inr h))
     .exact Or.inr (Or.inl h)
def jma(c:α->α->Int)(l:List α):List α:=l.foldl (jpf c) []
theorem juS(h:Law3 c)(l:List α):Asc c (jma c l)/\ ∀y,y∈jma c l↔y∈l:=by
 have key:∀(l m:List α),Asc c m->Asc c (l.foldl (jpf c) m)/\ ∀y,y∈l.foldl (jpf c) m↔y∈m\/y∈l:=by
  intro l;induction l with
  |nil=>intro m hm;exact⟨hm,λy=>by simp⟩
  |cons x l ih=>
   intro m hm;obtain⟨g1,g2⟩:=jwc h hm x;obtain⟨k1,k2⟩:=ih _ g1;refine⟨k1,λy=>?_⟩;rw[List.foldl_cons,k2,g2,jK,or_assoc]
 obtain⟨g1,g2⟩:=key l [] List.Pairwise.nil;exact⟨g1,λy=>by rw[jma,g2];simp⟩
end
theorem jAs{α β γ:Type}{f:γ->α}{g:γ->β}{c:α->α->Int}{d:β->β->Int}(hc:Law3 c)(hd:Law3 d)(hi:∀x y,f x=f y->g x=g y->x=y):Law3 λx y:γ=>if c (f x) (f y)≠0 then c (f x) (f y)else d (g x) (g y):=by
 refine⟨λa b=>?_,λa b=>?_,λa b e=>?_⟩
 .show (if c (f a) (f b)≠0 then c (f a) (f b)else d (g a) (g b))=0↔_;by_cases h:c (f a) (f b)=0
  .rw [jo (λh'=>h' h),hd.zero];exact⟨λh2=>hi a b ((hc.zero _ _).1 h) h2,λh2=>by rw[h2]⟩
  .rw [ju h];exact⟨λh2=>absurd h2 h,λh2=>by rw[h2]at h;exact absurd ((hc.zero _ _).2 rfl) h⟩
 .show (if c (f b) (f a)≠0 then c (f b) (f a)else d (g b) (g a)) = -(if c (f a) (f b)≠0 then c (f a) (f b)else d (g a) (g b));rw[hc.flip (f a) (f b),hd.flip (g a) (g b)];by_cases h:c (f a) (f b)=0
  .rw [jo (by omega),jo (by omega)]
  .rw [ju (by omega),ju (by omega)]
 .show (if c (f a) (f b)≠0 then c (f a) (f b)else d (g a) (g b))<0->(if c (f b) (f e)≠0 then c (f b) (f e)else d (g b) (g e))<0->(if c (f a) (f e)≠0 then c (f a) (f e)else d (g a) (g e))<0;by_cases h1:c (f a) (f b)=0
  .have e1:=(hc.zero _ _).1 h1;rw[jo (λh'=>h' h1),e1];by_cases h2:c (f b) (f e)=0
   .rw [jo (λh'=>h' h2),jo (λh'=>h' h2)];exact hd.trans _ _ _
   .rw [ju h2,ju h2];exact λ_ h=>h
  .rw [ju h1];by_cases h2:c (f b) (f e)=0
   .have e2:=(hc.zero _ _).1 h2;rw[jo (λh'=>h' h2),<-e2,ju h1];exact λh _=>h
   .rw [ju h2];intro h3 h4;have:=hc.trans _ _ _ h3 h4;rw[ju (by omega)];exact this
def jjo(x y:Xb):Int:=if sLt x y then -1 else if x=y then 0 else 1
theorem jkM:Law3 jjo:=by
 have irr:=jlP;have asy:∀x y,sLt x y=true->sLt y x=true->False:=λx y h1 h2=>by
  rw[jlc,KR]at h1 h2;exact absurd (List.lt_trans h1 h2) (List.lt_irrefl _)
 have tot:∀x y,x=y\/sLt x y=true\/sLt y x=true:=λx y=>by
  rw[jlc,jlc,KR,KR];rcases Classical.em (x<y)with h|h
  .exact Or.inr (Or.inl h)
  rcases Classical.em (y<x)with h'|h'
  .exact Or.inr (Or.inr h')
  .exact Or.inl (List.le_antisymm (List.not_lt.1 h') (List.not_lt.1 h))
 have tr:∀x y z,sLt x y=true->sLt y z=true->sLt x z=true:=λx y z h1 h2=>by
  rw[jlc,KR]at *;exact List.lt_trans h1 h2
 have neg:∀x y,jjo x y<0↔sLt x y=true:=λx y=>by
  unfold jjo;cases h:sLt x y with
  |true=>simp
  |false=>
   rw[jo Bool.false_ne_true];split<;>simp
 refine⟨λa b=>?_,λa b=>?_,λa b d h1 h2=>(neg _ _).2 (tr _ _ _ ((neg _ _).1 h1) ((neg _ _).1 h2))⟩
 .unfold jjo;cases h:sLt a b with
  |true=>rw[ju rfl];exact⟨λh'=>by omega,λe=>by rw[e,irr]at h;cases h⟩
  |false=>
   rw[jo Bool.false_ne_true];by_cases e:a=b
   .rw [ju e];exact⟨λ_=>e,λ_=>rfl⟩
   .rw [jo e];exact⟨λh'=>by omega,λh'=>absurd h' e⟩
 .unfold jjo;rcases tot a b with e|e|e
  .subst e;rw[irr,jo Bool.false_ne_true,ju rfl];rfl
  .have h2:sLt b a=false:=by
    cases h:sLt b a with
    |false=>rfl
    |true=>exact(asy _ _ e h).elim
   have hne:¬b=a:=λh=>by rw[h,irr]at e;cases e
   rw[e,h2,jo Bool.false_ne_true,jo hne,ju rfl];rfl
  .have h2:sLt a b=false:=by
    cases h:sLt a b with
    |false=>rfl
    |true=>exact(asy _ _ e h).elim
   have hne:¬a=b:=λh=>by rw[h,irr]at e;cases e
   rw[e,h2,jo Bool.false_ne_true,jo hne,ju rfl]
def jsH(x y:Nat):Int:=if x<y then -1 else if y<x then 1 else 0
theorem joq:Law3 jsH:=by
 refine⟨λa b=>?_,λa b=>?_,λa b d=>?_⟩<;>unfold jsH
 .split
  .omega
  .split<;>omega
 .split<;>split<;>(try split)<;>omega
 .intro h1 h2;by_cases h:a<b
  .by_cases h3:b<d
   .rw [ju (by omega)];omega
   .rw [jo h3]at h2;split at h2<;>omega
  .rw [jo h]at h1;split at h1<;>omega
def vF(n:Xb):Nat:=if jc2 n then 0 else 1
abbrev Key:=Nat×(Xb×Nat)
def cK(x y:Key):Int:=if jsH x.1 y.1≠0 then jsH x.1 y.1 else if jjo x.2.1 y.2.1≠0 then jjo x.2.1 y.2.1 else jsH x.2.2 y.2.2
theorem jlp:Law3 cK:=by
 have h2:Law3 λx y:Xb×Nat=>if jjo x.1 y.1≠0 then jjo x.1 y.1 else jsH x.2 y.2:=jAs (f:=Prod.fst) (g:=Prod.snd) jkM joq λx y h1 h2=>Prod.ext h1 h2;exact jAs (f:=Prod.fst) (g:=Prod.snd) joq h2 λx y h1 h2=>Prod.ext h1 h2
def jkq(t:T):Key:=(vF t.name,(t.name,t.args.length))
mutual
def jkY(a b:T):Int:=
 match a with
 |.mk n us=>if cK (jkq (.mk n us)) (jkq b)≠0 then cK (jkq (.mk n us)) (jkq b)else jj4 us b.args
termination_by structural a
def jj4(xs bs:Xg):Int:=
 match xs with
 | []=>0
 |a::xs=>(match bs with| []=>0|b::bs=>if jkY a b≠0 then jkY a b else jj4 xs bs)
termination_by structural xs
end
theorem jnX(a b:T):jkY a b=if cK (jkq a) (jkq b)≠0 then cK (jkq a) (jkq b)else jj4 a.args b.args:=by cases a;rfl
theorem jqx{a b:T}(h:jkq a=jkq b):a.name=b.name/\a.args.length=b.args.length:=by
 unfold jkq at h;simp only[ze]at h;exact h.2
theorem jA8{a b:T}(h1:a.name=b.name)(h2:a.args=b.args):a=b:=by
 cases a;cases b;simp only[T.name,T.args]at h1 h2;rw[h1,h2]
theorem jzZ:∀{xs bs:Xg},(∀u∈xs,∀v,jkY u v=0↔u=v)->xs.length=bs.length->(jj4 xs bs=0↔xs=bs)
 | [],[],_,_=>by simp[jj4]
 | [],_::_,_,h=>by cases h
 |_::_,[],_,h=>by cases h
 |a::xs,b::bs,h,hl=>by
  rw[jj4];have ih:=jzZ (xs:=xs) (bs:=bs) (λu hu=>h u (by simp[hu])) (Nat.succ.inj hl);by_cases h0:jkY a b=0
  .rw [jo (λh'=>h' h0),ih,(h a (by simp) b).1 h0];simp
  .rw [ju h0];exact⟨λh'=>absurd h' h0,λe=>by rw[ya]at e;exact(h a (by simp) b).2 e.1⟩
theorem jzg:∀{xs bs:Xg},(∀u∈xs,∀v,jkY v u = -(jkY u v))->xs.length=bs.length->jj4 bs xs = -(jj4 xs bs)
 | [],[],_,_=>by simp[jj4]
 | [],_::_,_,h=>by cases h
 |_::_,[],_,h=>by cases h
 |a::xs,b::bs,h,hl=>by
  rw[jj4,jj4,h a (by simp) b,jzg (xs:=xs) (bs:=bs) (λu hu=>h u (by simp[hu])) (Nat.succ.inj hl)];by_cases h0:jkY a b=0
  .rw [jo (by omega),jo (by omega)]
  .rw [ju (by omega),ju (by omega)]
theorem jxB(z:∀u v:T,jkY u v=0↔u=v):∀{xs bs ds:Xg},(∀u∈xs,∀v w,jkY u v<0->jkY v w<0->jkY u w<0)->xs.length=bs.length->bs.length=ds.length->jj4 xs bs<0->jj4 bs ds<0->jj4 xs ds<0
 | [],_,_,_,_,_,h1,_=>by simp[jj4]at h1
 |a::xs,[],_,_,h,_,_,_=>by cases h
 |a::xs,b::bs,[],_,_,h,_,_=>by cases h
 |a::xs,b::bs,d::ds,h,hl,hl2,h1,h2=>by
  rw[jj4]at h1 h2⊢;by_cases c1:jkY a b=0
  .have e1:=(z a b).1 c1;rw[jo (λh'=>h' c1)]at h1;rw[e1];by_cases c2:jkY b d=0
   .rw [jo (λh'=>h' c2)]at h2;rw[jo (λh'=>h' c2)];exact jxB z (λu hu=>h u (by simp[hu])) (Nat.succ.inj hl) (Nat.succ.inj hl2) h1 h2
   .rw [ju c2]at h2;rw[ju c2];exact h2
  .rw [ju c1]at h1;by_cases c2:jkY b d=0
   .rw [<-(z b d).1 c2,ju c1];exact h1
   .rw [ju c2]at h2;have:=h a (by simp) b d h1 h2;rw[ju (by omega)];exact this
theorem jvV:Law3 jkY:=by
 have z:∀a b:T,jkY a b=0↔a=b:=by
  refine T.ind λa ih b=>?_;rw[jnX];by_cases h:cK (jkq a) (jkq b)=0
  .have hk:=(jlp.zero _ _).1 h;obtain⟨h1,h2⟩:=jqx hk;rw[jo (λh'=>h' h),jzZ ih h2];exact⟨λe=>jA8 h1 e,λe=>by rw[e]⟩
  .rw [ju h];exact⟨λh'=>absurd h' h,λe=>by rw[e]at h;exact absurd ((jlp.zero _ _).2 rfl) h⟩
 refine⟨z,?_,?_⟩
 .refine T.ind λa ih b=>?_;rw[jnX,jnX a b,jlp.flip (jkq a) (jkq b)];by_cases h:cK (jkq a) (jkq b)=0
  .obtain ⟨_,h2⟩:=jqx ((jlp.zero _ _).1 h);rw[jo (by omega),jo (by omega),jzg ih h2]
  .rw [ju (by omega),ju (by omega)]
 .refine T.ind λa ih b d h1 h2=>?_;rw[jnX]at h1 h2⊢;by_cases c1:cK (jkq a) (jkq b)=0
  .have e1:=(jlp.zero _ _).1 c1;rw[jo (λh'=>h' c1)]at h1;rw[e1];by_cases c2:cK (jkq b) (jkq d)=0
   .have e2:=(jlp.zero _ _).1 c2;rw[jo (λh'=>h' c2)]at h2;rw[jo (λh'=>h' c2)];exact jxB z ih (jqx e1).2 (jqx e2).2 h1 h2
   .rw [ju c2]at h2;rw[ju c2];exact h2
  .rw [ju c1]at h1;by_cases c2:cK (jkq b) (jkq d)=0
   .rw [<-(jlp.zero _ _).1 c2,ju c1];exact h1
   .rw [ju c2]at h2;have:=jlp.trans _ _ _ h1 h2;rw[ju (by omega)];exact this
def upN:Xb->Bool
 | []=>false
 |c::_=>upc c
mutual
def val(M:Xb->Xi->Int)(e:Xb->Int):T->Int
 |.mk n us=>if us.isEmpty && upN n then e n else M n (jy9 M e us)
def jy9(M:Xb->Xi->Int)(e:Xb->Int):Xg->Xi
 | []=>[]
 |t::ts=>val M e t::jy9 M e ts
end
theorem jsq(M:Xb->Xi->Int)(e:Xb->Int):∀ts:Xg,jy9 M e ts=ts.map (val M e)
 | []=>rfl
 |t::ts=>by rw[jy9,jsq M e ts,zB]
theorem jlE(M:Xb->Xi->Int)(e:Xb->Int)(t:T):val M e t=if t.args.isEmpty && upN t.name then e t.name else M t.name (t.args.map (val M e)):=by
 obtain⟨n,us⟩:=t;rw[val,jsq];rfl
theorem jn6{n:Xb}(h:jc2 n=true):upN n=true:=by
 cases n with
 |nil=>cases h
 |cons c r=>simp only[jc2,jm]at h;exact h.1
theorem jlV{n:Xb}(h:jiX n=true):upN n=false:=by
 cases n with
 |nil=>rfl
 |cons c r=>
  simp only[jiX,jm]at h;have h:=h.1;show upc c=false;cases hu:upc c with
  |false=>rfl
  |true=>
   simp only[upc,jl3,inB,jm,KR]at h hu;omega
theorem jng{t:T}(h:okT t=true)(hv:jc2 t.name=false):jiX t.name=true:=by
 rw[jiM,hv,jo Bool.false_ne_true,jm]at h;exact h.1
section
variable{M:Xb->Xi->Int}
theorem jlW{e:Xb->Int}{t:T}(h:okT t=true)(hv:jc2 t.name=true):val M e t=e t.name:=by
 rw[jlE,jjW h hv,jn6 hv];rfl
theorem jkF{e:Xb->Int}{t:T}(h:upN t.name=false):val M e t=M t.name (t.args.map (val M e)):=by
 rw[jlE,h,Bool.and_false,jo Bool.false_ne_true]
theorem jn7(u:je6)(e:Xb->Int):∀t:T,okT t=true->val M e (sub u t)=val M (λx=>val M e (jkc u x)) t:=by
 refine T.ind λt ih=>?_;intro ht;cases hv:jc2 t.name with
 |true=>rw[jlW ht hv,jkd hv]
 |false=>
  have hs:=jlV (jng ht hv);rw[jkF hs,jjA hv,jkF (t:= .mk t.name (t.args.map (sub u))) hs];show M t.name ((t.args.map (sub u)).map (val M e))=_;rw[qP];congr 1;exact List.map_congr_left λa ha=>ih a ha (jhB ht a ha)
theorem jnp{e e':Xb->Int} :∀t:T,okT t=true->(∀x∈jhx t,e x=e' x)->val M e t=val M e' t:=by
 refine T.ind λt ih=>?_;intro ht h;rw[ji6]at h;cases hv:jc2 t.name with
 |true=>
  rw[jlW ht hv,jlW ht hv];rw[hv,ju rfl]at h;exact h _ (by simp)
 |false=>
  have hs:=jlV (jng ht hv);rw[jkF hs,jkF hs];rw[hv,jo Bool.false_ne_true]at h;congr 1;refine List.map_congr_left λa ha=>ih a ha (jhB ht a ha) λx hx=>h x ?_;have:∀us:Xg,a∈us->x∈jhV us:=by
   intro us;induction us with
   |nil=>intro h;cases h
   |cons v vs ih=>
    intro h;rw[jhV];rcases jK.1 h with rfl|h
    .exact Y1 _ hx
    .exact jdj _ (ih h)
  exact this _ ha
def Ext(m m':je6):Prop:=∀x r,look m x=some r->look m' x=some r
theorem Ext.refl(m:je6):Ext m m:=λ_ _ h=>h
theorem Ext.trans{a b c:je6}(h:Ext a b)(h':Ext b c):Ext a c:=λx r hx=>h' x r (h x r hx)
variable{good:Int->Prop}
theorem jo6(hM:∀n vs,good (M n vs)){e:Xb->Int}(he:∀x,good (e x))(t:T):good (val M e t):=by
 rw[jlE];split
 .exact he _
 .exact hM _ _
def jDy(M:Xb->Xi->Int)(good:Int->Prop)(rs:Xg):Prop:=∀r∈rs,∀e:Xb->Int,(∀x,good (e x))->val M e (jge r)=val M e (jhE r)
end
def dec(n:Nat):Nat->Nat->Xf
 |0,_=>[]
 |l+1,k=>k % n::dec n l (k / n)
def enc(n:Nat):Xf->Nat
 | []=>0
 |v::vs=>v+n*enc n vs
theorem jv6{n:Nat}(hn:1<=n):∀vs:Xf,(∀v∈vs,v<n)->enc n vs<n ^ vs.length
 | [],_=>by simp[enc]
 |v::vs,h=>by
  have h1:=h v (by simp);have h2:=jv6 hn vs λw hw=>h w (by simp[hw]);rw[enc,KP,Nat.pow_succ,Nat.mul_comm (n ^ vs.length) n];have:n*(enc n vs+1)<=n*n ^ vs.length:=Nat.mul_le_mul_left n h2;rw[Nat.mul_add]at this;omega
theorem jtO{n:Nat}(hn:1<=n):∀vs:Xf,(∀v∈vs,v<n)->dec n vs.length (enc n vs)=vs
 | [],_=>rfl
 |v::vs,h=>by
  have h1:=h v (by simp);have h2:=jtO hn vs λw hw=>h w (by simp[hw]);rw[KP,dec,enc,Nat.add_mul_mod_self_left,Nat.mod_eq_of_lt h1,Nat.add_mul_div_left _ _ (by omega),Nat.div_eq_of_lt h1,qM,h2]
def vnA(l:Xa)(n:Xb):Xa:=if l.contains n then l else l++[n]
mutual
def vn(l:Xa):T->Xa
 |.mk n us=>if us.isEmpty && upN n then vnA l n else vnL l us
def vnL(l:Xa):Xg->Xa
 | []=>l
 |t::ts=>vnL (vn l t) ts
end
theorem jut(l:Xa)(t:T):vn l t=if t.args.isEmpty && upN t.name then vnA l t.name else vnL l t.args:=by cases t;rfl
def VIn(S:Xa)(t:T):Prop:=∀x∈jhx t,x∈S
theorem jvr{S l:Xa}{n:Xb}(hl:l.Nodup)(hS:∀x∈l,x∈S)(hn:n∈S):(vnA l n).Nodup/\(∀x∈vnA l n,x∈S)/\(∀x∈l,x∈vnA l n)/\n∈vnA l n:=by
 unfold vnA;split
 .rename_i h;exact⟨hl,hS,λ_ h=>h,List.contains_iff_mem.1 h⟩
 .rename_i h;have h:n ∉ l:=λhh=>h (List.contains_iff_mem.2 hh);refine⟨?_,λx hx=>?_,λx hx=>Y1 _ hx,by simp⟩
  .rw [zG];exact⟨hl,by simp,λa ha b hb=>by simp only[jA]at hb;subst hb;exact λe=>h (e ▸ ha)⟩
  .rcases j4.1 hx with hx|hx
   .exact hS x hx
   .simp only[jA]at hx;exact hx ▸ hn
theorem jss{S:Xa} :∀(t:T),okT t=true->VIn S t-> ∀l:Xa,l.Nodup->(∀x∈l,x∈S)->(vn l t).Nodup/\(∀x∈vn l t,x∈S)/\(∀x∈l,x∈vn l t)/\ ∀x∈jhx t,x∈vn l t:=by
 refine T.ind λt ih=>?_;intro ht hV l hl hS;rw[jut];unfold VIn at hV;rw[ji6]at hV⊢;cases hv:jc2 t.name with
 |true=>
  rw[hv,ju rfl]at hV;rw[jjW ht hv,jn6 hv,ju rfl];obtain⟨q1,q2,q3,q4⟩:=jvr hl hS (hV t.name (by simp));exact⟨q1,q2,q3,λx hx=>by simp only[jA]at hx;exact hx ▸ q4⟩
 |false=>
  rw[hv,jo Bool.false_ne_true]at hV;rw[jlV (jng ht hv),Bool.and_false,jo Bool.false_ne_true];have key:∀us:Xg,(∀u∈us,u∈t.args)->(∀x∈jhV us,x∈S)-> ∀l:Xa,l.Nodup->(∀x∈l,x∈S)->(vnL l us).Nodup/\(∀x∈vnL l us,x∈S)/\(∀x∈l,x∈vnL l us)/\ ∀x∈jhV us,x∈vnL l us:=by
   intro us;induction us with
   |nil=>intro _ _ l hl hS;exact⟨hl,hS,λ_ h=>h,λx h=>by cases h⟩
   |cons u us ih2=>
    intro hu hV l hl hS;rw[jhV]at hV;obtain⟨q1,q2,q3,q4⟩:=ih u (hu u (by simp)) (jhB ht u (hu u (by simp))) (λx hx=>hV x (Y1 _ hx)) l hl hS;obtain⟨p1,p2,p3,p4⟩:=ih2 (λv hv=>hu v (by simp[hv])) (λx hx=>hV x (jdj _ hx)) (vn l u) q1 q2;rw[vnL,jhV];refine⟨p1,p2,λx hx=>p3 x (q3 x hx),λx hx=>?_⟩;rcases j4.1 hx with hx|hx
    .exact p3 x (q4 x hx)
    .exact p4 x hx
  exact key t.args (λ_ h=>h) hV l hl hS
theorem jpK{α:Type}[DecidableEq α]:∀(S l:List α),l.Nodup->(∀x∈l,x∈S)->l.length<=S.length
 |S,[],_,_=>Nat.zero_le _
 |S,x::l,hl,h=>by
  have hx:=h x (by simp);rw[Ju]at hl;have:=jpK (S.erase x) l hl.2 λy hy=>(List.mem_erase_of_ne (λe:y=x=>hl.1 (by rw[<-e];exact hy))).2 (h y (by simp[hy]));rw[List.length_erase_of_mem hx]at this;have:0<S.length:=List.length_pos_of_mem hx;rw[KP];omega
abbrev Lt:=Bool×T
def fl(b:Bool):Nat:=if b then 1 else 0
def cmpL(a b:Lt):Int:=if jkY a.2 b.2≠0 then jkY a.2 b.2 else jsH (fl a.1) (fl b.1)
theorem jvW:Law3 cmpL:=jAs (f:=Prod.snd) (g:=λl:Lt=>fl l.1) jvV joq λx y h1 h2=>by
 obtain⟨p,t⟩:=x;obtain⟨q,u⟩:=y;have h1:t=u:=h1;have h2:fl p=fl q:=h2;subst h1;cases p<;>cases q<;>first|rfl|(simp[fl]at h2)
abbrev Cls:=List Lt
def jBa:Cls->Bool
 |a::b::l=>decide (cmpL a b<0) && jBa (b::l)
 |_=>true
mutual
def jiN(l:Xa):T->Xa
 |.mk n us=>if jc2 n then vnA l n else jk7 l us
def jk7(l:Xa):Xg->Xa
 | []=>l
 |t::ts=>jk7 (jiN l t) ts
end
theorem jmP(l:Xa)(t:T):jiN l t=if jc2 t.name then vnA l t.name else jk7 l t.args:=by cases t;rfl
def jk6(c:Cls):Xa:=c.foldl (λl x=>jiN l x.2) []
def jnf(p:UInt8)(i:Nat):Xb:=p::Lib.decDigits i
def jtV(c:Cls):Bool:=decide (jk6 c=(List.range (jk6 c).length).map (jnf 88))
mutual
def jiv(f:Xb->Xb):T->T
 |.mk n us=>if jc2 n then .mk (f n) []else .mk n (Jg f us)
def Jg(f:Xb->Xb):Xg->Xg
 | []=>[]
 |t::ts=>jiv f t::Jg f ts
end
theorem jr4(f:Xb->Xb):∀ts:Xg,Jg f ts=ts.map (jiv f)
 | []=>rfl
 |t::ts=>by rw[Jg,jr4 f ts,zB]
theorem jlb(f:Xb->Xb)(t:T):jiv f t=if jc2 t.name then .mk (f t.name) []else .mk t.name (t.args.map (jiv f)):=by
 cases t;rw[jiv,jr4];rfl
def jiC(p:UInt8)(l:Xa)(n:Xb):Xb:=match l.findIdx? (λx=>decide (x=n))with|some i=>jnf p i|none=>n
def renC(p:UInt8)(c:Cls):Cls:=jma cmpL (c.map λl=>(l.1,jiv (jiC p (jk6 c)) l.2))
def normF:Nat->Cls->Cls
 |0,c=>c
 |k+1,c=>if jtV c then c else normF k (renC 88 c)
def normC(c:Cls):Cls:=normF 10 c
theorem jjr(t:T)(h:okT t=true\/t.name=[61]):G 41 [tm t]=some (vb (jc2 t.name),[]):=by
 rcases h with h|h
 .exact jlw t h
 .have e1:=jk3 61;have hx:jar (sv t.name) (vi 0)=some (vy ((61:UInt8).toNat:Int)):=by rw[h];exact ji0
  have hv:jc2 t.name=upc 61:=by rw[h];decide
  rw[g41,hv];simp only[evz,hx,e1]
theorem jmi(x y:Xb):jjo x y=if sLt x y then -1 else if sLt y x then 1 else 0:=by
 have hf:=jkM.flip x y;cases h1:sLt x y with
 |true=>unfold jjo;rw[h1];rfl
 |false=>
  rw[jo Bool.false_ne_true];cases h2:sLt y x with
  |true=>
   have:jjo y x = -1:=by unfold jjo;rw[h2,ju rfl]
   rw[ju rfl];omega
  |false=>
   rw[jo Bool.false_ne_true];have a1:jjo x y=0\/jjo x y=1:=by
    unfold jjo;rw[h1,jo Bool.false_ne_true];split<;>simp
   have a2:jjo y x=0\/jjo y x=1:=by
    unfold jjo;rw[h2,jo Bool.false_ne_true];split<;>simp
   omega
theorem jpM(b:Bool)(x y:Xb):jgx .gtr b (sv x) (sv y)=some (vb (sLt y x)):=by
 show some (vb (!(sLt x y || decide (x=y))))=_;by_cases e:x=y
 .subst e;rw[jlP,decide_eq_true rfl];rfl
 have h1:=jmi x y;have h3:=jkM.flip x y;have h4:=jmi y x;rw[decide_eq_false e,Bool.or_false];cases a:sLt x y<;>cases c:sLt y x<;>rw[a,c]at h1 h4
 .exact absurd ((jkM.zero x y).1 h1) e
 .rfl
 .rfl
 .have h1:jjo x y = -1:=h1;have h4:jjo y x = -1:=h4;omega
theorem jnr(x y:Xb):G 113 [sv x,sv y]=some (vi (jjo x y),[]):=by
 have n1:G 151 [sv x]=some (vb false,[]):=by rw[jBC];simp only[evz]
 have n2:G 151 [sv y]=some (vb false,[]):=by rw[jBC];simp only[evz]
 rw[jCL,jmi];cases h1:sLt x y<;>cases h2:sLt y x<;>simp only[evz,n1,n2,jpM,h1,h2]
def Rx'(t:T):Prop:=okT t=true\/(t.name=[61]/\ ∀u∈t.args,okT u=true)
theorem Rx'.args{t:T}(h:Rx' t):∀u∈t.args,Rx' u:=λu hu=>Or.inl (by
 rcases h with h|h
 .exact jhB h u hu
 .exact h.2 u hu)
abbrev ltc(l:Lt):Xd:=[vb l.1,sv l.2.name,.sl 2 (l.2.args.map jbY)]
abbrev ltm(l:Lt):A:= .agg [vb l.1,sv l.2.name,.sl 2 (l.2.args.map jbY)]
def jon(t:T):Bool:=if t.name=[61]then jjS t else jiX t.name && jgc t
abbrev cm(c:Cls):A:= .agg [.sl 3 (c.map ltc)]
def jxK(c:Cls):Bool:=c.all (λl=>jon l.2) && (jBa c && decide (c.length<=8))
def jCc:Option Lt->Cls->Bool
 |_,[]=>true
 |none,l::r=>jon l.2 && jCc (some l) r
 |some p,l::r=>jon l.2 && (decide (cmpL p l<0) && jCc (some l) r)
theorem jAX(l:Xa)(n:Xb):(vnA l n).length<=l.length+1:=by
 unfold vnA;split
 .omega
 .simp
theorem jzR{n:Nat}(h:n<=4194304):jbk n 16=true:=by
 unfold jbk;exact decide_eq_true ⟨by omega,by omega⟩
theorem jlM:∀(t:T)(l:Xa),(jiN l t).length<=l.length+nodes t:=by
 refine T.ind λt ih l=>?_;have hn:=jfw t;rw[jmP];split
 .have:=jAX l t.name;omega
 .have key:∀us:Xg,(∀u∈us,u∈t.args)-> ∀l:Xa,(jk7 l us).length<=l.length+jcO us:=by
   intro us;induction us with
   |nil=>intro _ l;simp[jk7,jcO]
   |cons u us ih2=>
    intro hu l;have h1:=ih u (hu u (by simp)) l;have h2:=ih2 (λv hv=>hu v (by simp[hv])) (jiN l u);rw[jk7,jcO];omega
  have:=key t.args (λ_ h=>h) l;omega
theorem jmo:∀t:T,Tz t-> ∀l:Xa,l.length+nodes t<=4000000->jq0 (tm t) (l.map cs)=some (.top,[.sl 1 ((jiN l t).map cs)]):=by
 refine T.ind λt ih ht l hl=>?_;have hz:=ht;unfold Tz at hz;rw[jhG]at hz;have hn:=jfw t;have e0:=jit t.name (((jhC t).1 ht.wf).1);have e1:=jqD l t.name (by show l.length<=9223372036854775807;omega);have key:=upto (P:=λi=>∀l:Xa,l.length+jcO (t.args.drop i)<=4000000->jnS (vi (i:Nat)) (sv t.name) (tms t.args) (l.map cs)=some (.top,[.sl 1 ((jk7 l (t.args.drop i)).map cs)])) (n:=t.args.length) ?_ ?_ 0 (Nat.zero_le _);rotate_left
 .intro l _;rw[jqA,List.drop_length];simp only[evz];rfl
 .intro i hi ihi l hl;have hlt:(i:Int)<((t.args.length:Nat):Int):=by omega
  have h5:=jeZ hi (by show t.args.length<=9223372036854775807;omega)
  rw[jeX hi,jcO]at hl;have q:=ih t.args[i] (YX hi) (ht.args _ (YX hi)) l (by omega);have hln:=jlM t.args[i] l;have q2:=ihi (jiN l t.args[i]) (by omega);rw[jqA,jeX hi,jk7];generalize jiN l t.args[i]=l' at *;have hr:hR 1 (A.top,[.sl 1 (l'.map cs)]) 0=some (l'.map cs):=rfl;simp only[evz,hlt,jaH hi,jbV,q,hr,h5,q2]
 have e2:jnR (vi 0) (sv t.name) (tms t.args) (l.map cs)=some (.top,[.sl 1 ((jk7 l t.args).map cs)]):=by
  have key:=key l (by rw[List.drop_zero];omega)
  rw[List.drop_zero]at key;have:jnR (vi 0) (sv t.name) (tms t.args) (l.map cs)=jnS (vi 0) (sv t.name) (tms t.args) (l.map cs):=by rw[jyH,jqA]
  rw[this];exact key
 rw[jBi,jmP];cases hv:jc2 t.name<;>rw[hv]at e0
 .rw [jo Bool.false_ne_true];simp only[evz,e0,e2]
 .rw [ju rfl];unfold vnA;cases hc:l.contains t.name<;>rw[hc]at e1
  .have f:jbk (l.length+1) 16=true:=jzR (by omega);rw[jo Bool.false_ne_true,jbM];simp only[evz,e0,e1,f];rfl
  .rw [ju rfl];simp only[evz,e0,e1]
theorem jrn:∀t:T,Rx' t->Tz t-> ∀l:Xa,l.length+nodes t<=4000000->jmt (sv t.name) (tms t.args) (l.map cs)=some (.top,[.sl 1 ((jiN l t).map cs)]):=by
 refine T.ind λt ih hk ht l hl=>?_;have hz:=ht;unfold Tz at hz;rw[jhG]at hz;have hn:=jfw t;have e0:=jjr t (hk.imp id λh=>h.1);have e1:=jjO l t.name (by show l.length<=9223372036854775807;omega);have key:=upto (P:=λi=>∀l:Xa,l.length+jcO (t.args.drop i)<=4000000->jmx (tms t.args) (vi (t.args.length:Nat)) (vi (i:Nat)) (l.map cs)=some (.top,[.sl 1 ((jk7 l (t.args.drop i)).map cs)])) (n:=t.args.length) ?_ ?_ 0 (Nat.zero_le _);rotate_left
 .intro l _;rw[jmN,List.drop_length];simp only[evz];rfl
 .intro i hi ihi l hl;have hlt:(i:Int)<((t.args.length:Nat):Int):=by omega
  have h5:=jeZ hi (by show t.args.length<=9223372036854775807;omega)
  rw[jeX hi,jcO]at hl;have q:=ih t.args[i] (YX hi) (hk.args _ (YX hi)) (ht.args _ (YX hi)) l (by omega);have hln:=jlM t.args[i] l;have q2:=ihi (jiN l t.args[i]) (by omega);rw[jmN,jeX hi,jk7];generalize jiN l t.args[i]=l' at *;have hr:hR 1 (A.top,[.sl 1 (l'.map cs)]) 0=some (l'.map cs):=rfl;simp only[evz,hlt,jaH hi,jbV,q,hr,h5,q2]
 have e2:jmw (tms t.args) (vi (t.args.length:Nat)) (vi 0) (l.map cs)=some (.top,[.sl 1 ((jk7 l t.args).map cs)]):=by
  have key:=key l (by rw[List.drop_zero];omega)
  rw[List.drop_zero]at key;have:∀n:A,jmw (tms t.args) n (vi 0) (l.map cs)=jmx (tms t.args) n (vi 0) (l.map cs):=λn=>by rw[jt0,jmN]
  rw[this];exact key
 rw[jzf,jmP];cases hv:jc2 t.name<;>rw[hv]at e0
 .rw [jo Bool.false_ne_true];by_cases hl0:((t.args.length:Nat):Int)=0
  .simp only[evz,hl0,e0];rw[hl0]at e2;exact e2
  .simp only[evz,hl0,e2]
 .have ha:t.args=[]:=by
   rcases hk with h|h
   .exact jjW h hv
   .rw [h.1]at hv;exact absurd hv (by decide)
  have hl0:((t.args.length:Nat):Int)=0:=by rw[ha];rfl
  rw[ju rfl];unfold vnA;cases hc:l.contains t.name<;>rw[hc]at e1
  .have f:jbk (l.length+1) 16=true:=jzR (by omega);rw[jo Bool.false_ne_true,jbM];simp only[evz,hl0,e0,e1,f];rfl
  .rw [ju rfl];simp only[evz,hl0,e0,e1]
abbrev Eqs:=List (T×T)
def jri:je6->Bool
 | []=>true
 | [_]=>true
 |p::q::s=>sLt p.1 q.1 && jri (q::s)
noncomputable def jfN(s:je6):Bool:=decide (s.length<=12) && (jri s && s.all λq=>jc2 q.1 && (jgc q.2 && !dq q.2.name q.1))
def jh0(s u:je6):je6:=jmq (s.map (λq=>(q.1,sub u q.2))++u.filter λq=>(look s q.1).isNone)
def jeY(x y:T):Xb×T:=if jc2 x.name=false\/(jc2 y.name=true/\sLt x.name y.name=true)then(y.name,x)else(x.name,y)
noncomputable def jiF(s:je6)(l r:T)(rest:Eqs):Option (je6×Eqs):=
 if je7 (sub s l)=false\/je7 (sub s r)=false then none
 else if dq (sub s l) (sub s r)then some (s,rest)
 else if jc2 (sub s l).name=true\/jc2 (sub s r).name=true then
  (if(jeY (sub s l) (sub s r)).1∈jhx (jeY (sub s l) (sub s r)).2\/jfN [jeY (sub s l) (sub s r)]=false\/jfN (jh0 s [jeY (sub s l) (sub s r)])=false then none else some (jh0 s [jeY (sub s l) (sub s r)],rest))
 else if(sub s l).name=(sub s r).name/\(sub s l).args.length=(sub s r).args.length then some (s,(sub s l).args.zip (sub s r).args++rest)else none
noncomputable def jhp:Nat->je6->Eqs->Option (Option je6)
 |_,s,[]=>some (some s)
 |0,_,_::_=>none
 |k+1,s,p::rest=>(match jiF s p.1 p.2 rest with|none=>some none|some q=>jhp k q.1 q.2)
def Exx(t:T):Prop:=(okT t=true\/(t.name=[61]/\t.args.length=2/\ ∀u∈t.args,okT u=true))/\nodes t<=31
def IdS(s:je6):Prop:=∀q∈s,∀x∈jhx q.2,look s x=none
def jjE(s:je6)(es:Eqs):Prop:=jfN s=true/\IdS s/\ ∀p∈es,Exx p.1/\Exx p.2
theorem jf9{s:je6}(h:jfN s=true):s.length<=12/\jri s=true/\ ∀q∈s,jc2 q.1=true/\jgc q.2=true/\q.2.name≠q.1:=by
 unfold jfN at h;rw[jm,KR,jm,jaF]at h;refine⟨h.1,h.2.1,λq hq=>?_⟩;have:=h.2.2 q hq;rw[jm,jm,qO]at this;exact⟨this.1,this.2.1,λe=>by rw[e,jmG]at this;exact absurd this.2.2 (by decide)⟩
theorem jlY{t:T}(h:jgc t=true):okT t=true:=by
 unfold jgc at h;rw[jm]at h;exact h.2
theorem vsv{t:T}(h:jc2 t.name=true):jhx t=[t.name]:=by rw[ji6,h,ju rfl]
theorem vsf{t:T}(h:jc2 t.name=false):jhx t=jhV t.args:=by rw[ji6,h,jo Bool.false_ne_true]
theorem jjf{x:Xb} :∀{ts:Xg},x∈jhV ts↔ ∃t∈ts,x∈jhx t
 | []=>by simp[jhV]
 |t::ts=>by rw[jhV,j4,jjf];simp
theorem jkt{s:je6}(hs:IdS s):∀(w:T){x:Xb},x∈jhx (sub s w)->look s x=none:=by
 refine T.ind (p:=λw=>∀{x:Xb},x∈jhx (sub s w)->look s x=none) λw ih=>?_;intro x hx;cases hv:jc2 w.name with
 |true=>
  rw[jkd hv,jkc]at hx;cases hl:look s w.name with
  |some r=>rw[hl]at hx;exact hs _ (jkD hl) x hx
  |none=>
   rw[hl]at hx;have hx:x∈jhx (.mk w.name []):=hx;rw[vsv (t:= .mk w.name []) hv,jA]at hx;rw[hx];exact hl
 |false=>
  rw[jjA hv,vsf (t:= .mk w.name (w.args.map (sub s))) hv,jjf]at hx;obtain⟨t,ht,hx⟩:=hx;obtain⟨a,ha,rfl⟩:=qQ.1 ht;exact ih a ha hx
theorem jpZ{n:Xb}{t:T} :∀(w:T){x:Xb},x∈jhx (sub [(n,t)] w)->(x∈jhx w/\x≠n)\/x∈jhx t:=by
 refine T.ind (p:=λw=>∀{x:Xb},x∈jhx (sub [(n,t)] w)->(x∈jhx w/\x≠n)\/x∈jhx t) λw ih=>?_;intro x hx;cases hv:jc2 w.name with
 |true=>
  rw[jkd hv,jkc]at hx;by_cases hn:n=w.name
  .have:look [(n,t)] w.name=some t:=by rw[look,ju hn]
   rw[this]at hx;exact Or.inr hx
  .have:look [(n,t)] w.name=none:=by rw[look,jo hn,look]
   rw[this]at hx;have hx:x∈jhx (.mk w.name []):=hx;rw[vsv (t:= .mk w.name []) hv,jA]at hx;left;rw[vsv hv,hx];exact⟨by simp[T.name],λe=>hn e.symm⟩
 |false=>
  rw[jjA hv,vsf (t:= .mk w.name (w.args.map (sub [(n,t)]))) hv,jjf]at hx;obtain⟨u,hu,hx⟩:=hx;obtain⟨a,ha,rfl⟩:=qQ.1 hu;rcases ih a ha hx with⟨h1,h2⟩|h
  .left;rw[vsf hv,jjf];exact⟨⟨a,ha,h1⟩,h2⟩
  .exact Or.inr h
theorem jqR{s:je6} :∀(w:T),okT w=true->(∀x∈jhx w,look s x=none)->sub s w=w:=by
 refine T.ind λw ih=>?_;intro hk h;cases hv:jc2 w.name with
 |true=>
  rw[jkd hv,jkc,h w.name (by rw[vsv hv];simp)]
  have ha:=jjW hk hv;show T.mk w.name []=w;rw[<-ha,T.eta]
 |false=>
  rw[jjA hv];have:w.args.map (sub s)=w.args:=by
   conv=>rhs;rw[<-List.map_id w.args]
   refine List.map_congr_left λa ha=>ih a ha (jhB hk a ha) λx hx=>h x ?_;rw[vsf hv,jjf];exact⟨a,ha,hx⟩
  rw[this,T.eta]
theorem joV{s:je6}{n:Xb}{t:T}{q:Xb×T} :q∈jkI s n t↔q∈s\/q=(n,t):=by
 unfold jkI;have e:=List.takeWhile_append_dropWhile (p:=λp:Xb×T=>sLt p.1 n) (l:=s);constructor
 .intro h;rcases j4.1 h with h|h
  .left;rw[<-e];exact Y1 _ h
  .rcases jK.1 h with h|h
   .exact Or.inr h
   .left;rw[<-e];exact jdj _ h
 .rintro (h|h)
  .rw [<-e]at h;rcases j4.1 h with h|h
   .exact Y1 _ h
   .exact jdj _ (YY _ h)
  .rw [h];exact jdj _ (Y3 ..)
theorem jxl(s:je6)(n:Xb)(t:T):(jkI s n t).length=s.length+1:=by
 unfold jkI;have e:=congrArg List.length (List.takeWhile_append_dropWhile (p:=λp:Xb×T=>sLt p.1 n) (l:=s));rw[Y0]at e;rw[Y0,KP];omega
theorem jkE:∀(m s:je6),(∀q∈m,q.2.name≠q.1)->(m.foldl (λs p=>jkv s p.1 p.2) s).length=s.length+m.length/\ ∀q,q∈m.foldl (λs p=>jkv s p.1 p.2) s↔q∈s\/q∈m
 | [],s,_=>⟨rfl,λq=>by simp⟩
 |p::m,s,h=>by
  rw[List.foldl_cons];have e:jkv s p.1 p.2=jkI s p.1 p.2:=jo (h p (by simp));obtain⟨h1,h2⟩:=jkE m (jkv s p.1 p.2) λq hq=>h q (by simp[hq]);refine⟨by rw[h1,e,jxl,KP];omega,λq=>?_⟩;rw[h2,e,joV,jK,or_assoc]
theorem jor{s:je6}(hs:jfN s=true)(hi:IdS s){n:Xb}{t:T}(hn:jc2 n=true)(hd:look s n=none)(ht:∀x∈jhx t,look s x=none)(ho:n ∉ jhx t)(htn:t.name≠n) :
  (jh0 s [(n,t)]).length=s.length+1/\IdS (jh0 s [(n,t)])/\(∀q,q∈jh0 s [(n,t)]↔(∃p∈s,q=(p.1,sub [(n,t)] p.2))\/q=(n,t))/\ ∀q∈s.map (λq=>(q.1,sub [(n,t)] q.2))++[(n,t)],q.2.name≠q.1:=by
 obtain⟨_,_,hv⟩:=jf9 hs;have hf:([(n,t)]:je6).filter (λq=>(look s q.1).isNone)=[(n,t)]:=by simp[hd]
 have hname:∀q∈s.map (λq=>(q.1,sub [(n,t)] q.2))++[(n,t)],q.2.name≠q.1:=by
  intro q hq;rcases j4.1 hq with hq|hq
  .obtain ⟨p,hp,rfl⟩:=qQ.1 hq;intro e;have e:(sub [(n,t)] p.2).name=p.1:=e;have hx:p.1∈jhx (sub [(n,t)] p.2):=by rw[vsv (by rw[e];exact(hv p hp).1),e];simp
   have hk:look s p.1≠none:=λh=>jjJ.1 h p hp rfl;rcases jpZ _ hx with⟨h1,_⟩|h1
   .exact hk (hi p hp _ h1)
   .exact hk (ht _ h1)
  .simp only[jA]at hq;rw[hq];exact htn
 obtain⟨f1,f2⟩:=jkE _ [] hname;have hm:∀q,q∈jh0 s [(n,t)]↔(∃p∈s,q=(p.1,sub [(n,t)] p.2))\/q=(n,t):=by
  intro q;unfold jh0 jmq;rw[hf,f2];simp only[Y2,false_or,j4,qQ,jA];constructor
  .rintro (⟨p,h1,h2⟩|h)
   .exact Or.inl ⟨p,h1,h2.symm⟩
   .exact Or.inr h
  .rintro (⟨p,h1,h2⟩|h)
   .exact Or.inl ⟨p,h1,h2.symm⟩
   .exact Or.inr h
 refine⟨?_,?_,hm,hname⟩
 .unfold jh0 jmq;rw[hf,f1,Y0,jbP];simp
 .intro q hq x hx;have hxn:x≠n/\look s x=none:=by
   rcases(hm q).1 hq with⟨p,hp,rfl⟩|rfl
   .rcases jpZ _ hx with⟨h1,h2⟩|h1
    .exact ⟨h2,hi p hp _ h1⟩
    .exact ⟨λe=>ho (e ▸ h1),ht _ h1⟩
   .exact ⟨λe=>ho (e ▸ hx),ht _ hx⟩
  refine jjJ.2 λp hp e=>?_;rcases(hm p).1 hp with⟨p',hp',rfl⟩|rfl
  .exact jjJ.1 hxn.2 p' hp' e
  .exact hxn.1 e.symm
def mz(s:je6):Eqs->Nat
 | []=>0
 |p::r=>nodes (sub s p.1)+nodes (sub s p.2)+mz s r
theorem jpJ(s:je6):∀a b:Eqs,mz s (a++b)=mz s a+mz s b
 | [],b=>by simp[mz]
 |p::a,b=>by rw[qN,mz,mz,jpJ s a b];omega
theorem jwT{s:je6} :∀(a b:Xg),(∀u∈a,sub s u=u)->(∀u∈b,sub s u=u)->mz s (a.zip b)<=jcO a+jcO b
 | [],_,_,_=>by simp[mz]
 |_::_,[],_,_=>by simp[mz]
 |x::a,y::b,h1,h2=>by
  have:=jwT a b (λu hu=>h1 u (by simp[hu])) (λu hu=>h2 u (by simp[hu]));rw[List.zip_cons_cons,mz,h1 x (by simp),h2 y (by simp)];simp only[jcO];omega
theorem Exx.sub{s:je6}(hs:jfN s=true){t:T}(h:Exx t):okT (sub s t)=true\/((sub s t).name=[61]/\(sub s t).args.length=2/\ ∀u∈(sub s t).args,okT u=true):=by
 obtain⟨_,_,hv⟩:=jf9 hs;have ho:∀q∈s,okT q.2=true:=λq hq=>(jlY (hv q hq).2.1);rcases h.1 with h|⟨h1,h2,h3⟩
 .exact Or.inl (jkJ ho t h)
 .have hvn:jc2 t.name=false:=by rw[h1];decide
  right;rw[jjA hvn];refine⟨h1,by show(t.args.map _).length=2;rw[jbP,h2],λu hu=>?_⟩;obtain⟨a,ha,rfl⟩:=qQ.1 hu;exact jkJ ho a (h3 a ha)
theorem jiA{t:T}(h:je7 t=true):nodes t<=30:=by
 simp only[je7,jm,KR]at h;exact h.1
theorem jtR{t:T}(h:okT t=true\/(t.name=[61]/\t.args.length=2/\ ∀u∈t.args,okT u=true)):∀u∈t.args,okT u=true:=by
 rcases h with h|h
 .exact jhB h
 .exact h.2.2
theorem jiB{s:je6}{l r:T}{rest:Eqs}(h:jjE s ((l,r)::rest)){s':je6}{es:Eqs}(hst:jiF s l r rest=some (s',es)):jjE s' es/\((s'=s/\mz s' es<mz s ((l,r)::rest))\/s'.length=s.length+1):=by
 obtain⟨hv,hi,he⟩:=h;obtain⟨el,er⟩:=he (l,r) (by simp);have hrest:∀p∈rest,Exx p.1/\Exx p.2:=λp hp=>he p (by simp[hp]);have xl:=el.sub hv;have xr:=er.sub hv;have nl:=jiO (sub s l);have vl:=λ{x} (hx:x∈jhx (sub s l))=>jkt hi l hx;have vr:=λ{x} (hx:x∈jhx (sub s r))=>jkt hi r hx;have hmz:mz s ((l,r)::rest)=nodes (sub s l)+nodes (sub s r)+mz s rest:=rfl;unfold jiF at hst;split at hst
 .cases hst
 rename_i hsm;have hs1:je7 (sub s l)=true:=by
  cases h:je7 (sub s l)with
  |true=>rfl
  |false=>exact absurd (Or.inl h) hsm
 have hs2:je7 (sub s r)=true:=by
  cases h:je7 (sub s r)with
  |true=>rfl
  |false=>exact absurd (Or.inr h) hsm
 split at hst
 .cases hst;exact⟨⟨hv,hi,hrest⟩,Or.inl ⟨rfl,by rw[hmz];omega⟩⟩
 split at hst
 .rename_i hvar;split at hst
  .cases hst
  rename_i hno;cases hst;have h1:(jeY (sub s l) (sub s r)).1 ∉ jhx (jeY (sub s l) (sub s r)).2:=λh=>hno (Or.inl h);have h2:jfN (jh0 s [jeY (sub s l) (sub s r)])=true:=by
   cases h:jfN (jh0 s [jeY (sub s l) (sub s r)])with
   |true=>rfl
   |false=>exact absurd (Or.inr (Or.inr h)) hno
  have h3:jfN [jeY (sub s l) (sub s r)]=true:=by
   cases h:jfN [jeY (sub s l) (sub s r)]with
   |true=>rfl
   |false=>exact absurd (Or.inr (Or.inl h)) hno
  have hb:look s (jeY (sub s l) (sub s r)).1=none/\ ∀x∈jhx (jeY (sub s l) (sub s r)).2,look s x=none:=by
   unfold jeY;split
   .rename_i hc;have hy:jc2 (sub s r).name=true:=by
     rcases hc with hc|hc
     .rcases hvar with h|h
      .rw [hc]at h;cases h
      .exact h
     .exact hc.1
    exact⟨vr (by rw[vsv hy];simp),λx hx=>vl hx⟩
   .rename_i hc;have hx:jc2 (sub s l).name=true:=by
     cases h:jc2 (sub s l).name with
     |true=>rfl
     |false=>exact absurd (Or.inl h) hc
    exact⟨vl (by rw[vsv hx];simp),λx hx=>vr hx⟩
  obtain⟨_,_,h4⟩:=jf9 h3;obtain⟨k1,_,k3⟩:=h4 _ (List.mem_singleton_self _);generalize jeY (sub s l) (sub s r)=p at *;obtain⟨n,t⟩:=p;obtain⟨c1,c2,_,_⟩:=jor hv hi k1 hb.1 hb.2 h1 k3;exact⟨⟨h2,c2,hrest⟩,Or.inr c1⟩
 .rename_i hnv;split at hst
  .rename_i hnm;cases hst;have v1:jc2 (sub s l).name=false:=by
    cases h:jc2 (sub s l).name with
    |false=>rfl
    |true=>exact absurd (Or.inl h) hnv
   have v2:jc2 (sub s r).name=false:=by
    cases h:jc2 (sub s r).name with
    |false=>rfl
    |true=>exact absurd (Or.inr h) hnv
   have a1:∀u∈(sub s l).args,okT u=true/\nodes u<=31/\sub s u=u:=λu hu=>by
    have hk:=jtR xl u hu;have:=jkP hu;have:=jiA hs1;exact⟨hk,by omega,jqR u hk λx hx=>vl (by rw[vsf v1,jjf];exact⟨u,hu,hx⟩)⟩
   have a2:∀u∈(sub s r).args,okT u=true/\nodes u<=31/\sub s u=u:=λu hu=>by
    have hk:=jtR xr u hu;have:=jkP hu;have:=jiA hs2;exact⟨hk,by omega,jqR u hk λx hx=>vr (by rw[vsf v2,jjf];exact⟨u,hu,hx⟩)⟩
   refine⟨⟨hv,hi,λp hp=>?_⟩,Or.inl ⟨rfl,?_⟩⟩
   .rcases j4.1 hp with hp|hp
    .have hm:=List.of_mem_zip (a:=p.1) (b:=p.2) hp;exact⟨⟨Or.inl (a1 _ hm.1).1,(a1 _ hm.1).2.1⟩,⟨Or.inl (a2 _ hm.2).1,(a2 _ hm.2).2.1⟩⟩
    .exact hrest p hp
   .have:=jwT (s:=s) (sub s l).args (sub s r).args (λu hu=>(a1 u hu).2.2) (λu hu=>(a2 u hu).2.2);have e1:=jfw (sub s l);have e2:=jfw (sub s r);rw[jpJ,hmz];omega
  .cases hst
theorem js8:∀(m1 m2:Nat)(s:je6)(es:Eqs),jjE s es->13-s.length<=m1->mz s es<=m2-> ∃k res,jhp k s es=some res:=by
 intro m1;induction m1 with
 |zero=>
  intro m2 s es h h1;have:=(jf9 h.1).1;omega
 |succ m1 ih1=>
  intro m2;induction m2 with
  |zero=>
   intro s es h _ h2;cases es with
   |nil=>exact⟨0,_,rfl⟩
   |cons p es=>
    have:=jiO (sub s p.1);simp only[mz]at h2;omega
  |succ m2 ih2=>
   intro s es h h1 h2;cases es with
   |nil=>exact⟨0,_,rfl⟩
   |cons p es=>
    obtain⟨l,r⟩:=p;cases hst:jiF s l r es with
    |none=>exact⟨1,none,by rw[jhp,hst]⟩
    |some q=>
     obtain⟨s',es'⟩:=q;obtain⟨hinv,hor⟩:=jiB h hst;have hl:=(jf9 h.1).1;rcases hor with⟨e,hlt⟩|e
     .obtain ⟨k,res,hk⟩:=ih2 s' es' hinv (by rw[e];exact h1) (by omega)
      exact⟨k+1,res,by rw[jhp,hst];exact hk⟩
     .obtain ⟨k,res,hk⟩:=ih1 (mz s' es') s' es' hinv (by omega) (jR _);exact⟨k+1,res,by rw[jhp,hst];exact hk⟩
theorem jsk:∀(k:Nat)(s:je6)(es:Eqs){u:je6},jjE s es->jhp k s es=some (some u)->jfN u=true/\IdS u:=by
 intro k;induction k with
 |zero=>
  intro s es u h hu;cases es with
  |nil=>simp only[jhp,jz]at hu;rw[<-hu];exact⟨h.1,h.2.1⟩
  |cons p es=>simp[jhp]at hu
 |succ k ih=>
  intro s es u h hu;cases es with
  |nil=>simp only[jhp,jz]at hu;rw[<-hu];exact⟨h.1,h.2.1⟩
  |cons p es=>
   obtain⟨l,r⟩:=p;rw[jhp]at hu;cases hst:jiF s l r es with
   |none=>rw[hst]at hu;simp at hu
   |some q=>
    rw[hst]at hu;exact ih q.1 q.2 (jiB h hst).1 hu
def Bx(t:T):Prop:=(t.name=[61]/\t.args.length=2/\ ∀u∈t.args,okT u=true)\/(jiX t.name=true/\okT t=true)
theorem Bx.rx{t:T}(h:Bx t):Rx' t:=h.elim (λh=>Or.inr ⟨h.1,h.2.2⟩) λh=>Or.inl h.2
theorem Bx.ax{t:T}(h:Bx t):okT t=true\/(t.name=[61]/\t.args.length=2/\ ∀u∈t.args,okT u=true):=h.elim Or.inr λh=>Or.inl h.2
theorem Bx.args{t:T}(h:Bx t):∀u∈t.args,okT u=true:=h.elim (λh=>h.2.2) λh=>jhB h.2
theorem jAR{n:Xb}(h:jiX n=true):jc2 n=false:=by
 cases hv:jc2 n with
 |false=>rfl
 |true=>rw[jo2 hv]at h;cases h
theorem Bx.nv{t:T}(h:Bx t):jc2 t.name=false:=h.elim (λh=>by rw[h.1];decide) λh=>jAR h.1
theorem jA9{t:T}(h:t.args.length=2):t.args=[jmA t,jnE t]:=by
 obtain⟨n,us⟩:=t
 match us,h with
 | [a,b],_=>rfl
theorem jrk{t:T} :jon t=true↔Bx t/\je7 t=true:=by
 unfold jon Bx;by_cases he:t.name=[61]
 .rw [ju he];unfold jjS;rw[jm,jm,jm,KR];constructor
  .rintro ⟨h1,h2,h3,h4⟩;refine⟨Or.inl ⟨he,h1,λu hu=>?_⟩,h2⟩;rw[jA9 h1]at hu;simp only[jK,Y2,or_false]at hu;rcases hu with rfl|rfl
   .exact h3
   .exact h4
  .rintro ⟨h|h,h2⟩
   .obtain ⟨_,_,ma,mb⟩:=jjF h.2.1;exact⟨h.2.1,h2,h.2.2 _ ma,h.2.2 _ mb⟩
   .rw [he]at h;exact absurd h.1 (by decide)
 .rw [jo he];unfold jgc;rw[jm,jm];constructor
  .rintro ⟨h1,h2,h3⟩;exact⟨Or.inr ⟨h1,h3⟩,h2⟩
  .rintro ⟨h|h,h2⟩
   .exact absurd h.1 he
   .exact ⟨h.1,h2,h.2⟩
theorem Bx.atom{t:T}(h:Bx t):jon t=je7 t:=by
 cases hs:je7 t with
 |true=>exact jrk.2 ⟨h,hs⟩
 |false=>
  cases ha:jon t with
  |false=>rfl
  |true=>rw[(jrk.1 ha).2]at hs;cases hs
theorem Bx.tsz{t:T}(h:Bx t):tsz t<=10*nodes t:=by
 rcases h with h|h
 .rw [jhG,jfw,h.1,h.2.1];have:=jt9 h.2.2;simp only[KP,YU];omega
 .exact jjK t h.2
theorem Bx.tz{t:T}(h:Bx t)(hn:nodes t<=100000):Tz t:=by have:=h.tsz;unfold Tz;omega
theorem Bx.sub{s:je6}(hs:jfN s=true){t:T}(h:Bx t):Bx (sub s t):=by
 obtain⟨_,_,hv⟩:=jf9 hs;have ho:∀q∈s,okT q.2=true:=λq hq=>jlY (hv q hq).2.1;have hn:=h.nv;rcases h with h|h
 .left;rw[jo1 hn,jmV hn,jbP];refine⟨h.1,h.2.1,λu hu=>?_⟩;obtain⟨a,ha,rfl⟩:=qQ.1 hu;exact jkJ ho a (h.2.2 a ha)
 .right;rw[jo1 hn];exact⟨h.1,jkJ ho t h.2⟩
theorem jjg{s:je6}(hs:jfN s=true):∀q∈s,nodes q.2<=30:=λq hq=>by
 have:=((jf9 hs).2.2 q hq).2.1;unfold jgc at this;rw[jm]at this;exact jiA this.1
theorem ji7{s:je6}(hs:jfN s=true):∀q∈s,okT q.2=true:=λq hq=>jlY ((jf9 hs).2.2 q hq).2.1
theorem jvq:jfN []=true:=by unfold jfN;simp[jri]
mutual
theorem jnm(f:Xb->Xb):∀t:T,nodes (jiv f t)<=nodes t
 |.mk n us=>by
  rw[jiv];split
  .have:=jiO (.mk n us);show 1+0<=_;omega
  .have:=joY f us;simp only[nodes];omega
theorem joY(f:Xb->Xb):∀ts:Xg,jcO (Jg f ts)<=jcO ts
 | []=>jR _
 |t::ts=>by have:=jnm f t;have:=joY f ts;simp only[Jg,jcO];omega
end
mutual
theorem jy0(f:Xb->Xb):∀t:T,dep (jiv f t)<=dep t
 |.mk n us=>by
  rw[jiv];split
  .rw [jjY (.mk n us)];show 1+0<=_;omega
  .have:=jr6 f us;simp only[dep];omega
theorem jr6(f:Xb->Xb):∀ts:Xg,jkH (Jg f ts)<=jkH ts
 | []=>jR _
 |t::ts=>by have:=jy0 f t;have:=jr6 f ts;simp only[Jg,jkH];omega
end
theorem joX{f:Xb->Xb}{t:T}(h:jc2 t.name=false):(jiv f t).name=t.name:=by rw[jlb,h,jo Bool.false_ne_true];rfl
theorem jr5{f:Xb->Xb}{t:T}(h:jc2 t.name=false):(jiv f t).args=t.args.map (jiv f):=by rw[jlb,h,jo Bool.false_ne_true];rfl
theorem jqN{f:Xb->Xb}(hf:∀n,jc2 n=true->jc2 (f n)=true):∀t:T,okT t=true->okT (jiv f t)=true:=by
 refine T.ind λt ih h=>?_;cases hv:jc2 t.name with
 |true=>rw[jlb,hv,ju rfl];exact jwZ _ (hf _ hv)
 |false=>
  have hk:=h;rw[jiM,hv,jo Bool.false_ne_true,jm,jm,KR]at h;rw[jiM,joX hv,jr5 hv,hv,jo Bool.false_ne_true,jm,jm,KR,jbP,jjT,jaF];refine⟨h.1,h.2.1,λu hu=>?_⟩;obtain⟨a,ha,rfl⟩:=qQ.1 hu;exact ih a ha (jhB hk a ha)
theorem Bx.ren{f:Xb->Xb}(hf:∀n,jc2 n=true->jc2 (f n)=true){t:T}(h:Bx t):Bx (jiv f t):=by
 have hn:=h.nv;rcases h with h|h
 .left;rw[joX hn,jr5 hn,jbP];refine⟨h.1,h.2.1,λu hu=>?_⟩;obtain⟨a,ha,rfl⟩:=qQ.1 hu;exact jqN hf a (h.2.2 a ha)
 .right;rw[joX hn];exact⟨h.1,jqN hf t h.2⟩
theorem jm8:∀d:Nat,d<10->jjk (UInt8.ofNat (48+d))=true:=by decide
theorem jlt{u:Nat}(h:u<10):Lib.decDigits u=[UInt8.ofNat (48+u)]:=Lib.decDigits_one h
theorem jou{u:Nat}(h:¬u<10):Lib.decDigits u=Lib.decDigits (u / 10)++[UInt8.ofNat (48+u % 10)]:=by rw[Lib.decDigits,dif_neg h]
theorem jj7:∀(k u:Nat),u<10 ^ (k+1)->(Lib.decDigits u).all jjk=true/\(Lib.decDigits u).length<=k+1
 |0,u,h=>by rw[jlt (by omega)];exact⟨by rw[zE,jm8 u (by omega),List.all_nil];rfl,by simp⟩
 |k+1,u,h=>by
  by_cases hu:u<10
  .rw [jlt hu];exact⟨by rw[zE,jm8 u hu,List.all_nil];rfl,by simp⟩
  .obtain ⟨h1,h2⟩:=jj7 k (u / 10) (by rw[Nat.pow_succ]at h;omega)
   rw[jou hu,List.all_append,h1,Y0];exact⟨by rw[zE,jm8 (u % 10) (by omega),List.all_nil];rfl,by simp only[KP,YU];omega⟩
theorem jwX{p:UInt8}(hp:upc p=true){i:Nat}(hi:i<1000):jc2 (jnf p i)=true:=by
 obtain⟨h1,h2⟩:=jj7 2 i (by omega);show(upc p && ((Lib.decDigits i).all jjk && decide ((Lib.decDigits i).length<=3)))=true;rw[hp,h1,decide_eq_true (by omega)];rfl
theorem jzb{l:Xa}{n x:Xb} :x∈vnA l n↔x∈l\/x=n:=by
 unfold vnA;split
 .rename_i h;rw[List.contains_iff_mem]at h;exact⟨Or.inl,λh'=>h'.elim id λe=>e ▸ h⟩
 .simp
theorem jvs{l:Xa}{n:Xb}(h:l.Nodup):(vnA l n).Nodup:=by
 unfold vnA;split
 .exact h
 .rename_i hc;rw[List.contains_iff_mem]at hc;refine zG.2 ⟨h,by simp,λa ha b hb=>?_⟩;simp only[jA]at hb;rintro rfl;exact hc (hb ▸ ha)
mutual
theorem jrJ:∀(t:T)(l:Xa)(x:Xb),x∈jiN l t↔x∈l\/x∈jhx t
 |.mk n us,l,x=>by
  rw[jiN,jhx];split
  .rw [jzb];simp
  .exact jrI us l x
theorem jrI:∀(ts:Xg)(l:Xa)(x:Xb),x∈jk7 l ts↔x∈l\/x∈jhV ts
 | [],l,x=>by simp[jk7,jhV]
 |t::ts,l,x=>by rw[jk7,jhV,jrI ts,jrJ t,j4,or_assoc]
end
mutual
theorem joO:∀(t:T){l:Xa},l.Nodup->(jiN l t).Nodup
 |.mk n us,l,h=>by
  rw[jiN];split
  .exact jvs h
  .exact joN us h
theorem joN:∀(ts:Xg){l:Xa},l.Nodup->(jk7 l ts).Nodup
 | [],l,h=>h
 |t::ts,l,h=>by rw[jk7];exact joN ts (joO t h)
end
def CN(c:Cls):Prop:=c.length<=8/\ ∀l∈c,Bx l.2/\nodes l.2<=30
theorem jsV{c:Cls}(h:CN c):(jk6 c).length<=240:=by
 have:∀(c:Cls)(l:Xa),(∀y∈c,nodes y.2<=30)->(c.foldl (λl x=>jiN l x.2) l).length<=l.length+30*c.length:=by
  intro c;induction c with
  |nil=>intro l _;simp
  |cons y c ih=>
   intro l h;have h1:=jlM y.2 l;have h2:=h y (by simp);have h3:=ih (jiN l y.2) λz hz=>h z (by simp[hz]);rw[List.foldl_cons,KP];omega
 have h2:=this c [] λy hy=>(h.2 y hy).2;have h3:=h.1;rw[YU]at h2;unfold jk6;omega
theorem jm5{p:UInt8}(hp:upc p=true){l:Xa}(hl:l.length<=1000){n:Xb}(hn:jc2 n=true):jc2 (jiC p l n)=true:=by
 unfold jiC;split
 .rename_i i h;have:=(List.findIdx?_eq_some_iff_getElem.1 h).1;exact jwX hp (by omega)
 .exact hn
theorem jwd{α:Type}(c:α->α->Int)(l:List α)(x:α):(jpf c l x).length<=l.length+1:=by
 unfold jpf;split
 .omega
 .have:=congrArg List.length (List.takeWhile_append_dropWhile (p:=λa=>decide (c a x<0)) (l:=l));rw[Y0]at this;rw[Y0,KP];omega
theorem juT{α:Type}(c:α->α->Int)(l:List α):(jma c l).length<=l.length:=by
 have:∀(l m:List α),(l.foldl (jpf c) m).length<=m.length+l.length:=by
  intro l;induction l with
  |nil=>intro m;simp
  |cons x l ih=>
   intro m;have h1:=jwd c m x;have h2:=ih (jpf c m x);rw[List.foldl_cons,KP];omega
 have:=this l [];simpa[jma]using this
theorem juU{l:Cls}{x:Lt} :x∈jma cmpL l↔x∈l:=(juS jvW l).2 x
theorem CN.make{l:Cls}(hl:l.length<=8)(h:∀x∈l,Bx x.2/\nodes x.2<=30):CN (jma cmpL l):=⟨by have:=juT cmpL l;omega,λx hx=>h x (juU.1 hx)⟩
theorem CN.ren{p:UInt8}(hp:upc p=true){c:Cls}(h:CN c):∀x∈c.map (λl=>(l.1,jiv (jiC p (jk6 c)) l.2)),Bx x.2/\nodes x.2<=30:=by
 intro x hx;obtain⟨l,hl,rfl⟩:=qQ.1 hx;have hn:=jsV h;have:=jnm (jiC p (jk6 c)) l.2;have:=(h.2 l hl).2;exact⟨(h.2 l hl).1.ren λn hn=>jm5 hp (by omega) hn,by show nodes (jiv (jiC p (jk6 c)) l.2)<=30;omega⟩
theorem CN.renC{p:UInt8}(hp:upc p=true){c:Cls}(h:CN c):CN (renC p c):=CN.make (by rw[jbP];exact h.1) (h.ren hp)
theorem CN.normF:∀(k:Nat){c:Cls},CN c->CN (normF k c)
 |0,c,h=>h
 |k+1,c,h=>by
  rw[Go.Proofs.YthapkjbfjniaiaaGreatDoor.normF];split
  .exact h
  .exact CN.normF k (CN.renC (by decide) h)
theorem CN.normC{c:Cls}(h:CN c):CN (normC c):=CN.normF 10 h
theorem CN.tz{c:Cls}(h:CN c):∀l∈c,Tz l.2:=λl hl=>(h.2 l hl).1.tz (by have:=(h.2 l hl).2;omega)
theorem CN.rx{c:Cls}(h:CN c):∀l∈c,Rx' l.2:=λl hl=>(h.2 l hl).1.rx
theorem Rx'.va{t:T}(h:Rx' t)(hv:jc2 t.name=true):t.args=[]:=h.elim (λh=>jjW h hv) λh=>by rw[h.1]at hv;exact absurd hv (by decide)
def jCy(d:Cls):Cls:=d.map λl=>(l.1,jiv (jiC 89 (jk6 d)) l.2)
def jt7(c:Cls):Bool:=jxK c && jtV c
theorem jo4:∀(k:Nat)(s:je6)(es:Eqs){r:Option je6},jhp k s es=some r->jhp (k+1) s es=some r
 |_,s,[],r,h=>by
  unfold jhp at h⊢;exact h
 |0,s,p::es,r,h=>by simp[jhp]at h
 |k+1,s,p::es,r,h=>by
  rw[jhp]at h⊢;cases hst:jiF s p.1 p.2 es with
  |none=>rw[hst]at h;exact h
  |some q=>
   rw[hst]at h;exact jo4 k q.1 q.2 h
theorem jsj{k m:Nat}(h:k<=m){s:je6}{es:Eqs}{r:Option je6}(hk:jhp k s es=some r):jhp m s es=some r:=by
 induction h with
 |refl=>exact hk
 |step _ ih=>exact jo4 _ _ _ ih
open Classical in
noncomputable def jj2(a b:T):Option je6:=if h:∃r k,jhp k [] [(a,b)]=some r then h.choose else none
theorem jpT{a b:T}(ha:Exx a)(hb:Exx b):jjE [] [(a,b)]:=⟨jvq,(λ_ h=>(Y2 h).elim:IdS []),λp hp=>by rw[jA.1 hp];exact⟨ha,hb⟩⟩
theorem jju{a b:T}(ha:Exx a)(hb:Exx b):∃k,jhp k [] [(a,b)]=some (jj2 a b):=by
 obtain⟨k,r,h⟩:=js8 13 _ [] [(a,b)] (jpT ha hb) (by simp) (jR _);have hex:∃r k,jhp k [] [(a,b)]=some r:=⟨r,k,h⟩;unfold jj2;rw[dif_pos hex];exact hex.choose_spec
theorem jkf{a b:T}(ha:Exx a)(hb:Exx b){u:je6}(h:jj2 a b=some u):jfN u=true:=by
 obtain⟨k,hk⟩:=jju ha hb;rw[h]at hk;exact(jsk k _ _ (jpT ha hb) hk).1
noncomputable def jz3(s:je6)(l:Cls):Option Cls:=if(l.all λx=>je7 (sub s x.2)) && jxK (jma cmpL (l.map λx=>(x.1,sub s x.2)))then some (jma cmpL (l.map λx=>(x.1,sub s x.2)))else none
noncomputable def jE0(s:je6)(l:Cls):Option Cls:=(jz3 s l).bind λc=>if jt7 (normC c)then some (normC c)else none
abbrev cz:A:= .agg [.sl 3 []]
def jBY(o:Option Cls):Xe:=match o with|some c=>some (.tup [cm c,vb true],[])|none=>some (.tup [cz,vb false],[])
def atI:Xi->T->Option T
 | [],t=>some t
 |i::p,t=>if 0<=i/\i<(t.args.length:Int)then atI p (t.args.getD i.toNat (.mk [] []))else none
theorem juv{s:T}(hs:okT s=true):∀{p:Xf}{t:T},okP p t->okT t=true->okT (jhD s p t)=true
 | [],t,_,_=>hs
 |i::p,t,h,hk=>by
  obtain⟨h1,h2⟩:=h;rw[ji3 h1]at h2;have hv:jc2 t.name=false:=by
   cases hv:jc2 t.name with
   |false=>rfl
   |true=>rw[jjW hk hv]at h1;simp at h1
  have hk':=hk;rw[jiM,hv,jo Bool.false_ne_true,jm,jm,KR]at hk;rw[jhD,ji3 h1,jiM];show(if jc2 t.name=true then _ else(jiX t.name && (decide ((t.args.set i (jhD s p t.args[i])).length<=4) && jnJ (t.args.set i (jhD s p t.args[i])))))=true;rw[hv,jo Bool.false_ne_true,ZG,hk.1,decide_eq_true hk.2.1,jjT,Bool.true_and,Bool.true_and,jaF];intro u hu;rcases QZ hu with hu|hu
  .exact jhB hk' u hu
  .rw [hu];exact juv hs h2 (jhB hk' _ (YX h1))
theorem jpa(s:T):∀(p:Xf)(t:T),okP p t->nodes (jhD s p t)<=nodes t+nodes s
 | [],t,_=>by rw[jhD];omega
 |i::p,t,h=>by
  obtain⟨h1,h2⟩:=h;rw[ji3 h1]at h2;have ih:=jpa s p t.args[i] h2;rw[jhD,ji3 h1,jfw t];show 1+jcO (t.args.set i (jhD s p t.args[i]))<=_;have key:∀(ts:Xg)(i:Nat)(h:i<ts.length)(u:T),nodes u<=nodes ts[i]+nodes s->jcO (ts.set i u)<=jcO ts+nodes s:=by
   intro ts;induction ts with
   |nil=>intro i h;simp at h
   |cons x xs ih2=>
    intro i h u hu;cases i with
    |zero=>simp only[jdh,jcO,List.getElem_cons_zero]at hu⊢;omega
    |succ i=>
     have:=ih2 i (by simpa using h) u (by simpa using hu);simp only[jbL,jcO];omega
  have:=key t.args i h1 _ ih;omega
def EXB(t:T):Prop:=EX false t/\Bx t
open Go Go.RowKit Go.Proofs.YthapkjbfjniaiaaGreatDoor.Abs Go.Sort
section
variable{α:Type}{c:α->α->Int}
theorem jrO{β γ:Type}(f:β->β->γ)(ys:List β):∀(xs:List β)(i j:Nat)(x y:β),xs[i]? = some x->ys[j]? = some y->(xs.flatMap λx=>ys.map λy=>f x y)[i*ys.length+j]? = some (f x y)
 | [],i,j,x,y,h,_=>by simp at h
 |a::xs,i,j,x,y,h,hy=>by
  have hj:=(kq.1 hy).1;rw[List.flatMap_cons];cases i with
  |zero=>simp at h;subst h;rw[Nat.zero_mul,qM,kS (by simpa using hj),kL,hy];rfl
  |succ i=>
   rw[zF (by simp[jV];omega)]
   have:(i+1)*ys.length+j-(ys.map λy=>f a y).length=i*ys.length+j:=by simp[jV];omega
   rw[this];exact jrO f ys xs i j x y (by simpa using h) hy
theorem extract_all{β:Type}(e:Array β){n:Nat}(h:e.size=n):e.extract 0 n=e:=by subst h;simp
theorem Law3.swo(h:Law3 c){β:Type}(g:β->α){lt:β->β->Bool}(hl:∀i j,lt i j=decide (c (g i) (g j)<0)):SWO lt:=by
 refine⟨λx=>?_,λx y z h1 h2=>?_,λx y z h1 h2=>?_⟩
 .rw [hl,(h.zero _ _).2 rfl];rfl
 .rw [hl,KR]at *;exact h.trans _ _ _ h1 h2
 .rw [hl,decide_eq_false_iff_not]at *;intro h3;have f1:=h.flip (g x) (g y);have f2:=h.flip (g y) (g z);by_cases e1:c (g x) (g y)=0
  .rw [(h.zero _ _).1 e1]at h3;exact h2 h3
  by_cases e2:c (g y) (g z)=0
  .rw [<-(h.zero _ _).1 e2]at h3;exact h1 h3
  have:=h.trans (g z) (g y) (g x) (by omega) (by omega);have f3:=h.flip (g x) (g z);omega
theorem jqP{γ:Type}{c:γ->γ->Int}(hc:Law3 c)(f:α->γ)(enc:α->Xd)(k:Nat)(l:List α)(hl:l.length<4611686018427387904):∃s:List α,s.Perm l/\s.Pairwise (λa b=>¬c (f b) (f a)<0)/\jeL k (l.map enc) (l.flatMap λx=>l.map λy=>c (f x) (f y))=some (.top,[.sl k (s.map enc)]):=by
 cases l with
 |nil=>exact⟨[],List.Perm.refl _,List.Pairwise.nil,rfl⟩
 |cons a l'=>
  generalize hcs:((a::l').flatMap λx=>(a::l').map λy=>c (f x) (f y))=cs;rw[zB];have hN:(l'.map enc).length+1=(a::l').length:=by simp
  let g:Fin ((l'.map enc).length+1)->α:=λi=>(a::l')[i.val]'(by rw[<-hN];exact i.isLt)
  have hg:∀i:Fin ((l'.map enc).length+1),(a::l')[i.val]? = some (g i):=λi=>jv _;have hT:∀i j,ltO (jb6 ((l'.map enc).length+1) cs) i j=decide (c (f (g i)) (f (g j))<0):=λi j=>by
   have:=jrO (λx y=>c (f x) (f y)) (a::l') (a::l') i.val j.val _ _ (hg i) (hg j);rw[hcs,<-hN]at this;unfold ltO jb6;rw[zk,this];rfl
  have hS:=hc.swo (λi=>f (g i)) hT;have hsz:(l'.map enc).length+1<4611686018427387904:=by rw[hN];exact hl
  generalize hd:(Array.ofFn (n:=(l'.map enc).length+1) id)=d;have hds:d.size=(l'.map enc).length+1:=by rw[<-hd];simp
  obtain⟨hp,hs⟩:=pdq_sorts (ltO (jb6 ((l'.map enc).length+1) cs)) hS d 0 ((l'.map enc).length+1) (Lib.bitLen ((l'.map enc).length+1)) true true (Nat.zero_le _) (by omega) (Or.inl rfl);have hrow:jeL k (enc a::l'.map enc) cs=some (.top,[.sl k ((pdq (ltO (jb6 ((l'.map enc).length+1) cs)) d 0 ((l'.map enc).length+1) (Lib.bitLen ((l'.map enc).length+1)) true true).toList.map λi=>(enc a::l'.map enc).getD i.val [])]):=by
   unfold jeL;simp only;rw[ju ⟨hS,hsz⟩,hd]
  rw[hrow];generalize pdq (ltO (jb6 ((l'.map enc).length+1) cs)) d 0 ((l'.map enc).length+1) (Lib.bitLen ((l'.map enc).length+1)) true true=D at *;obtain⟨p1,_,p3⟩:=hp;rw[extract_all D (by omega),extract_all d hds]at p3;refine⟨D.toList.map g,?_,?_,?_⟩
  .have h1:(D.toList.map g).Perm (d.toList.map g):=p3.map g;have h2:d.toList.map g=a::l':=by
    refine ZJ λi=>?_;rw[<-hd];by_cases hi:i<(l'.map enc).length+1
    .rw [kL,Js,yP (by simpa using hi)];simp only[Array.getElem_ofFn,kH,id];exact(hg ⟨i,hi⟩).symm
    .rw [yn (by simp at hi⊢;omega),yn (by simp at hi⊢;omega)]
   rw[h2]at h1;exact h1
  .rw [List.pairwise_map];rw[List.pairwise_iff_getElem];intro i j hi hj hij;have hD:D.size=(l'.map enc).length+1:=by omega
   rw[zy]at hi hj;have:=hs i j (Nat.zero_le _) hij (by omega);rw[JS D i hi,JS D j hj,hT,decide_eq_false_iff_not]at this;simpa using this
  .congr 3;rw[qP];refine congrArg (A.sl k) (List.map_congr_left λi _=>?_);rw[<-zB,zk,kL,hg i];rfl
end
theorem jom{β:Type}(f:β->FuncId×Xd)(r:β->Int):∀qs:List β,(∀b∈qs,K.pureF (f b).1=true/\G (f b).1 (f b).2=some (vi (r b),[]))->askAll K (MM K) (qs.map f)=some (qs.map λb=>(vi (r b),[]))
 | [],_=>rfl
 |b::qs,h=>by
  have ih:=jom f r qs λb' hb=>h b' (by simp[hb]);obtain⟨h1,h2⟩:=h b (by simp);rw[zB,zB];show(if K.pureF (f b).1 then(MM K (.call (f b).1 (f b).2)).bind λo=>(askAll K (MM K) (qs.map f)).bind λos=>some (o::os)else none)=_;have h2:MM K (.call (f b).1 (f b).2)=some (vi (r b),[]):=h2;rw[h1,ju rfl,h2,ih];rfl
theorem jpL{β:Type}(r:β->Int):∀qs:List β,jbi (qs.map λb=>(vi (r b),[]))=some (qs.map r)
 | []=>rfl
 |b::qs=>by
  rw[zB,zB,jbi,jpL r qs];rfl
theorem jv8{α γ:Type}{c:γ->γ->Int}(hc:Law3 c)(f:α->γ)(enc:α->Xd)(k:Nat)(g:FuncId)(hp:K.pureF g=true)(l:List α)(hl:l.length<4611686018427387904)(h:∀x∈l,∀y∈l,G g [.agg (enc x),.agg (enc y)]=some (vi (c (f x) (f y)),[])):∃s:List α,s.Perm l/\s.Pairwise (λa b=>¬c (f b) (f a)<0)/\extRun K (MM K) (sfE k) [V.row 0,V.fn g []] [.row k (l.map enc)]=some (.top,[.sl k (s.map enc)]):=by
 obtain⟨s,h1,h2,h3⟩:=jqP hc f enc k l hl;refine⟨s,h1,h2,?_⟩;have hq:jeK [V.row 0,V.fn g []] [.row k (l.map enc)]=some ((l.flatMap λx=>l.map λy=>(x,y)).map λq=>(g,[A.agg (enc q.1),A.agg (enc q.2)])):=by
  show some ((l.map enc).flatMap λx=>(l.map enc).map λy=>(g,[A.agg x,A.agg y]++[]))=_;congr 1;rw[List.flatMap_map,List.map_flatMap];refine congrArg (λh=>l.flatMap h) (funext λx=>?_);rw[qP,qP];rfl
 have ha:=jom (λq:α×α=>(g,[A.agg (enc q.1),A.agg (enc q.2)])) (λq=>c (f q.1) (f q.2)) (l.flatMap λx=>l.map λy=>(x,y)) λq hq=>by
  obtain⟨x,hx,hq⟩:=List.mem_flatMap.1 hq;obtain⟨y,hy,rfl⟩:=qQ.1 hq;exact⟨hp,h x hx y hy⟩
 have hc':((l.flatMap λx=>l.map λy=>(x,y)).map λq=>c (f q.1) (f q.2))=l.flatMap λx=>l.map λy=>c (f x) (f y):=by
  rw[List.map_flatMap];refine congrArg (λh=>l.flatMap h) (funext λx=>?_);rw[qP];rfl
 have ho:=jpL (λq:α×α=>c (f q.1) (f q.2)) (l.flatMap λx=>l.map λy=>(x,y));rw[hc']at ho;show(jeK [V.row 0,V.fn g []] [.row k (l.map enc)]).bind _=_;rw[hq,Option.bind_some,ha,Option.bind_some];show(if Nat.beq k k then(jbi _).bind λcs=>jeL k (l.map enc) cs else none)=_;rw[Nat.beq_refl,ju rfl,ho];exact h3
theorem jzV:∀d:Nat,d<10->ZP (sv [48,49,50,51,52,53,54,55,56,57]) (some (vi (d:Nat))) (some (vi ((d+1:Nat):Int)))=some (sv [UInt8.ofNat (48+d)])
 |0,_=>rfl|1,_=>rfl|2,_=>rfl|3,_=>rfl|4,_=>rfl|5,_=>rfl|6,_=>rfl|7,_=>rfl|8,_=>rfl|9,_=>rfl
theorem jwG:∀n:Nat,n<=1000000->G 50 [vi (n:Nat)]=some (sv (Lib.decDigits n),[]):=by
 intro n;induction n using Nat.strongRecOn with
 |ind n ih=>
  intro hn;have h0:¬((n:Nat):Int)<0:=by omega
  rw[g50];by_cases h:n<10
  .have h1:((n:Nat):Int)<10:=by omega
   have h2:ck ((n:Int)+1)=some (vi ((n+1:Nat):Int)):=jgN (by omega) (by omega);have h3:=jzV n h;rw[jlt h];simp only[evz,h0,h1,h2,h3]
  .have h1:¬((n:Nat):Int)<10:=by omega
   have hq:jgx .quo false (vi (n:Nat)) (vi 10)=some (vi ((n / 10:Nat):Int)):=by
    show ck (((n:Nat):Int).tdiv 10)=_;rw[Int.tdiv_eq_ediv_of_nonneg (by omega)];exact jgN (by omega) (by omega)
   have hr:jgx .rem false (vi (n:Nat)) (vi 10)=some (vi ((n % 10:Nat):Int)):=by
    show some (vi (((n:Nat):Int).tmod 10))=_;rw[Int.tmod_eq_emod_of_nonneg (by omega)];rfl
   have h2:ck (((n % 10:Nat):Int)+1)=some (vi ((n % 10+1:Nat):Int)):=jgN (by omega) (by omega);have h3:=jzV (n % 10) (by omega);have h4:=ih (n / 10) (by omega) (by omega);have hl:(Lib.decDigits (n / 10)).length + [UInt8.ofNat (48+n % 10)].length<=9223372036854775807:=by
    have:=(jj7 6 (n / 10) (by omega)).2;simp only[KP,YU];omega
   have h5:=jnj false (Lib.decDigits (n / 10)) [UInt8.ofNat (48+n % 10)];rw[ju hl]at h5;rw[jou h];simp only[evz,h0,h1,hq,hr,h2,h3,h4,h5]
theorem jyB(n:Nat)(hn:n<=1000000):G 69 [vi (n:Nat)]=some (sv (Lib.decDigits n),[]):=by
 have:K.ext 69=some jg8:=rfl;rw[jib this];show(if -9223372036854775808<=((n:Nat):Int)/\((n:Nat):Int)<=9223372036854775807 then some (sv (Lib.itoa (n:Nat)),[])else none)=_;rw[ju (by omega)];unfold Lib.itoa;rw[jo (by omega),Int.toNat_natCast]
def jBT:Nat->Xa->Bool
 |_,[]=>true
 |i,n::r=>decide (n=jnf 88 i) && jBT (i+1) r
abbrev Nm':=List (Xb×Xb)
abbrev kn(p:Xb×Xb):Xd:=[sv p.1,sv p.2]
def jiD:Nm'->Xb->Option Xb
 | [],_=>none
 |p::m,n=>if p.1=n then some p.2 else jiD m n
theorem jsU(n:Xb):∀(m:Nm')(k:Nat),∃j,JM none (sv n) (m.map kn) k=some ((jiD m n).map λr=>(j,sv r))
 | [],k=>⟨0,rfl⟩
 |p::m,k=>by
  rw[zB,jiD,JM,jAg];by_cases h:p.1=n
  .rw [ju h,decide_eq_true h.symm];exact⟨k,rfl⟩
  .rw [jo h,decide_eq_false (λe=>h e.symm)];exact jsU n m (k+1)
theorem jAG(m:Nm')(n:Xb):jcZ none true true [sv []] (.mp (m.map kn)) (sv n)=some (match jiD m n with|some r=>.tup [sv r,vb true]|none=>.tup [sv [],vb false]):=by
 show((some (m.map kn)).bind λxs=>(JM none (sv n) xs 0).map (jfZ true true [sv []]))=_;obtain⟨j,h⟩:=jsU n m 0;rw[Option.bind_some,h];cases jiD m n<;>rfl
theorem jB2{m:Nm'}{n:Xb}(h:jiD m n=none)(r:Xb):jgB none (m.map kn) (sv n) (sv r)=some ((m++[(n,r)]).map kn):=by
 obtain⟨j,h2⟩:=jsU n m 0;show(JM none (sv n) (m.map kn) 0).map _=_;rw[h2,h,jbM];rfl
theorem jpI:∀(m:Nm')(p:Xb×Xb)(n:Xb),jiD (m++[p]) n=(match jiD m n with|some r=>some r|none=>if p.1=n then some p.2 else none)
 | [],p,n=>rfl
 |q::m,p,n=>by
  rw[qN,jiD,jiD,jpI m p n];by_cases h:q.1=n
  .rw [ju h,ju h]
  .rw [jo h,jo h]
def jlf(p:UInt8):Nat->Xa->Nm'
 |_,[]=>[]
 |i,n::r=>(n,jnf p i)::jlf p (i+1) r
theorem joI(p:UInt8)(n:Xb):∀(ns:Xa)(k:Nat),jiD (jlf p k ns) n=(ns.findIdx? λx=>decide (x=n)).map λi=>jnf p (k+i)
 | [],k=>rfl
 |x::ns,k=>by
  rw[jlf,jiD,List.findIdx?_cons];by_cases h:x=n
  .rw [ju h,ju (decide_eq_true h)];rfl
  .rw [jo h,jo (by simp[h]),joI p n ns (k+1),Option.map_map];refine congrArg (λf=>Option.map f _) (funext λi=>?_);show jnf p (k+1+i)=jnf p (k+(i+1));rw[show k+1+i=k+(i+1) by omega]
theorem jsF(p:UInt8)(ns:Xa):(λn=>(jiD (jlf p 0 ns) n).getD n)=jiC p ns:=by
 funext n;rw[joI];unfold jiC;cases ns.findIdx? (λx=>decide (x=n))with
 |none=>rfl
 |some i=>show jnf p (0+i)=_;rw[qM]
theorem jrN{p:UInt8} :∀{ns:Xa}{k:Nat},(∀n∈ns,jc2 n=true)-> ∀q∈jlf p k ns,jc2 q.1=true
 | [],k,_,q,h=>by cases h
 |x::ns,k,hv,q,h=>by
  rw[jlf]at h;rcases jK.1 h with e|e
  .rw [e];exact hv x (by simp)
  .exact jrN (λn hn=>hv n (by simp[hn])) q e
theorem jBU(p:UInt8)(i:Nat)(h:i<=1000000):jgx .add false (sv [p]) (sv (Lib.decDigits i))=some (sv (jnf p i)):=by
 rw[jnj,ju]
 .rfl
 .have:=(jj7 6 i (by omega)).2;simp only[KP,YU];omega
theorem jr7(p:UInt8)(ns:Xa)(hn:ns.Nodup)(hl:ns.length<=1000):G 38 [strs ns,sv [p]]=some (.mp ((jlf p 0 ns).map kn),[]):=by
 have key:=upto (P:=λi=>∀m:Nm',(∀n∈ns.drop i,jiD m n=none)->jtr (sv [p]) (strs ns) (vi (ns.length:Nat)) (vi (i:Nat)) (m.map kn)=some (.mp ((m++jlf p i (ns.drop i)).map kn),[])) (n:=ns.length) ?_ ?_ 0 (Nat.zero_le _) [] (λn _=>rfl)
 .rw [List.drop_zero]at key;simp only[Int.natCast_zero,List.map_nil,qf]at key;rw[g38];simp only[evz,key]
 .intro m _;rw[jzq,List.drop_length,jlf,KQ];simp only[evz]
 .intro i hi ih m hm;have hlt:(i:Int)<((ns.length:Nat):Int):=by omega
  have h5:=jeZ hi (by show ns.length<=9223372036854775807;omega)
  have e1:=jyB i (by omega);have e2:=jBU p i (by omega);have ld:jci (.elt (cs ns[i]) 0)=some (sv ns[i]):=rfl;have hd:(ns.drop i).Nodup:=hn.sublist (List.drop_sublist i ns);rw[jeX hi]at hm hd⊢;have pt:=jB2 (hm ns[i] (Y3 ..)) (jnf p i);have ih:=ih (m++[(ns[i],jnf p i)]) λn hn'=>by
   rw[jpI,hm n (YY _ hn')];show(if ns[i]=n then _ else none)=none;rw[jo];rintro e;exact(Ju.1 hd).1 (e ▸ hn')
  rw[jio]at ih;rw[jzq,jlf];simp only[evz,hlt,jaH hi,ld,e1,e2,pt,h5,ih];rfl
theorem juQ{m:Nm'}(hm:∀p∈m,jc2 p.1=true){n:Xb}(h:jc2 n=false):jiD m n=none:=by
 induction m with
 |nil=>rfl
 |cons p m ih=>
  rw[jiD,jo,ih λq hq=>hm q (by simp[hq])];intro e;rw[<-e,hm p (by simp)]at h;cases h
theorem jly(p:UInt8)(ns:Xa)(hn:ns.length<=1000):∀t:T,Tz t->G 21 [tm t,strs ns,sv [p]]=some (tm (jiv (jiC p ns) t),[]):=by
 refine T.ind λt ih ht=>?_;have hz:=ht;unfold Tz at hz;rw[jhG]at hz;have e0:=jit t.name (((jhC t).1 ht.wf).1);rw[g21,jlb];cases hv:jc2 t.name<;>rw[hv]at e0
 .rw [jo Bool.false_ne_true];have key:=(upto (P:=λi=>jto (strs ns) (sv [p]) (vi i) (sv t.name) (tms t.args) (sv []) (sv t.name) [] (((t.args.map (jiv (jiC p ns))).take i).map jbY)=some (tm (.mk t.name (t.args.map (jiv (jiC p ns)))),[])) (n:=t.args.length) ?_ ?_ 0 (Nat.zero_le _))
  .simp only[Int.natCast_zero,List.take_zero,List.map_nil]at key;simp only[evz,e0,key]
  .rw [jzl,YZ (by rw[jbP];omega)]
   simp only[evz];rfl
  .intro i hi ih';have hlt:(i:Int)<((t.args.length:Nat):Int):=by omega
   have h5:=jeZ hi (by show t.args.length<=9223372036854775807;omega)
   have e2:=ih t.args[i] (YX _) (ht.args _ (YX _));have hf:jbk (i+1) 40=true:=js0 (by omega);have hi2:i<(t.args.map (jiv (jiC p ns))).length:=by rw[jbP];exact hi
   have hl:(((t.args.map (jiv (jiC p ns))).take i).map jbY).length=i:=by rw[jbP,List.length_take,jbP];omega
   have ha:jgD (((t.args.map (jiv (jiC p ns))).take i).map jbY) [[sv (jiv (jiC p ns) t.args[i]).name,tms (jiv (jiC p ns) t.args[i]).args]]=((t.args.map (jiv (jiC p ns))).take (i+1)).map jbY:=by
    rw[show[sv (jiv (jiC p ns) t.args[i]).name,tms (jiv (jiC p ns) t.args[i]).args]=jbY (jiv (jiC p ns) t.args[i]) from(jhF _).symm,List.take_add_one,jv hi2,jbM,List.getElem_map];rfl
   generalize ((t.args.map (jiv (jiC p ns))).take i).map jbY=R at *;generalize jiv (jiC p ns) t.args[i]=u at *;rw[jzl];simp only[evz,hlt,jaH hi,jbV,e2,hl,hf,ha,h5,ih']
 .rw [ju rfl];have key:=(upto (P:=λi=>(∀j,(h:j<i)-> ∀h':j<ns.length,ns[j]≠t.name)->jtn (strs ns) (sv [p]) (vi i) (sv t.name) (tms t.args) (sv []) []=some (tm (.mk (jiC p ns t.name) []),[])) (n:=ns.length) ?_ ?_ 0 (Nat.zero_le _)) (λj h=>by omega)
  .simp only[Int.natCast_zero]at key;simp only[evz,e0,key]
  .intro hall;have:jiC p ns t.name=t.name:=by
    unfold jiC;have:ns.findIdx? (λx=>decide (x=t.name))=none:=by
     rw[List.findIdx?_eq_none_iff];intro x hx;obtain⟨j,hj,rfl⟩:=List.mem_iff_getElem.1 hx;simpa using hall j hj hj
    rw[this]
   rw[jzk,this];simp only[evz];rfl
  .intro i hi ih' hall;have hlt:(i:Int)<((ns.length:Nat):Int):=by omega
   have h5:=jeZ hi (by show ns.length<=9223372036854775807;omega)
   have ld:jci (.elt (cs ns[i]) 0)=some (sv ns[i]):=rfl;rw[jzk];by_cases he:ns[i]=t.name
   .have e1:=jwG i (by omega);have e2:=jBU p i (by omega);have:jiC p ns t.name=jnf p i:=by
     unfold jiC;have:ns.findIdx? (λx=>decide (x=t.name))=some i:=by
      rw[List.findIdx?_eq_some_iff_getElem];exact⟨hi,by simp[he],λj hj=>by simpa using hall j hj (by omega)⟩
     rw[this]
    rw[this];simp only[evz,hlt,jaH hi,he,e1,e2];rfl
   .have ih':=ih' λj hj hj'=>by
     by_cases h:j=i
     .subst h;exact he
     .exact hall j (by omega) hj'
    simp only[evz,hlt,jaH hi,ld,he,h5,ih']
theorem take_len{α:Type}{f:α->Xd}{xs:List α}{i:Nat}(h:i<=xs.length):((xs.take i).map f).length=i:=by rw[jbP,List.length_take];omega
noncomputable def eqL(a b:Lt):Bool:=decide (a.1=b.1) && dq a.2 b.2
noncomputable def cpG:Lt->List Lt->List Lt
 |_,[]=>[]
 |p,b::l=>if eqL b p then cpG b l else b::cpG b l
noncomputable def sameC(a b:Cls):Bool:=dq a b
end Go.Proofs.YthapkjbfjniaiaaGreatDoor
