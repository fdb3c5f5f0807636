/- Pb -/
import Derived.Test.YtjgmjdidbgcljaaGreatDoorPa
import Derived.Test.YtjgmjdidbgcljaaGreatDoorPq
import Derived.Sort.Walk0
import Derived.Lib.ItoaNum
namespace Go.Proofs.YtjgmjdidbgcljaaGreatDoor
open Go Go.RowKit Go.Proofs.YtjgmjdidbgcljaaGreatDoor.Abs
set_option linter.unusedSimpArgs false
set_option linter.unusedVariables false
set_option maxHeartbeats 1000000
theorem jIo{n:Nat}(h:n<=4194304):jcK n 24=true:=by
 unfold jcK;exact decide_eq_true ⟨by omega,by omega⟩
theorem jCN{n:Nat}(h:n<=4194304):jcK n 8=true:=by
 unfold jcK;exact decide_eq_true ⟨by omega,by omega⟩
abbrev pln(p:Xf):A:= .sl 1 (p.map λn=>[vi (n:Nat)])
abbrev plc(p:Xf):Xd:=[pln p]
mutual
theorem jyf:∀t:T,(jug t).length=nodes t
 |.mk n us=>by
  rw[jug,nodes,yM,jrc us 0];simp;omega
theorem jrc:∀(us:Xg)(i:Nat),(jp1 i us).length=jdi us
 | [],i=>rfl
 |t::ts,i=>by
  rw[jp1,jdi,yM,jbw,jyf t,jrc ts (i+1)]
end
def okP:Xf->T->Prop
 | [],_=>True
 |i::p,t=>i<t.args.length/\okP p (t.args.getD i (.mk [] []))
theorem jhT{ts:Xg}{i:Nat}(h:i<ts.length):ts.getD i (.mk [] [])=ts[i]:=by rw[jK,jz h];rfl
mutual
theorem jAV:∀(t:T),∀p∈jug t,okP p t/\p.length<=nodes t
 |.mk n us=>λp hp=>by
  rw[jug,Yo]at hp;rcases hp with hp|hp
  .obtain ⟨j,q,rfl,h1,h2,h3⟩:=juf us 0 p hp;refine⟨?_,?_⟩
   .show (0+j)<us.length/\okP q (us.getD (0+j) _);rw[jfO];exact⟨h1,h2⟩
   .rw [yv,nodes];omega
  .rw [jU]at hp;subst hp;exact⟨trivial,by simp⟩
theorem juf:∀(us:Xg)(i:Nat),∀p∈jp1 i us,∃j q,p=(i+j)::q/\j<us.length/\okP q (us.getD j (.mk [] []))/\q.length<=jdi us
 | [],i,p,hp=>by rw[jp1]at hp;cases hp
 |t::ts,i,p,hp=>by
  rw[jp1,Yo]at hp;rcases hp with hp|hp
  .obtain ⟨q,hq,rfl⟩:=jN.1 hp;obtain⟨h1,h2⟩:=jAV t q hq;exact⟨0,q,rfl,by simp,h1,by rw[jdi];omega⟩
  .obtain ⟨j,q,rfl,h1,h2,h3⟩:=juf ts (i+1) p hp;exact⟨j+1,q,by rw[show i+1+j=i+(j+1) by omega],by simpa using h1,by simpa using h2,by rw[jdi];omega⟩
end
theorem jw5{q:T->Prop}(hq:∀t,q t-> ∀u∈t.args,q u):∀{p:Xf}{t:T},okP p t->q t->q (atT p t)
 | [],_,_,h=>h
 |i::p,t,hp,h=>by
  obtain⟨h1,h2⟩:=hp;refine jw5 (p:=p) hq h2 ?_;rw[jhT h1];exact hq t h _ (jcF _)
theorem jue(i:Nat)(p:Xf):pln (i::p) = .sl 1 ([vi (i:Nat)]::p.map λn=>[vi (n:Nat)]):=rfl
theorem jlu{p:Xf}{i:Nat}(h:i<p.length):jda 1 (pln p) (vi (i:Nat))=some (.elt [vi (p[i]:Nat)] 0):=jaa h
theorem jw7(t:T)(ht:Tz t):jv2 (sv t.name) (tms t.args)=some (.top,[sv t.name,tms t.args]):=by
 have h:=ht;unfold Tz at h;rw[jgG]at h;have key:=(upto (P:=λi=>joB (vi i) (sv t.name) (tms t.args) (sv []) (sv t.name) [] ((t.args.take i).map jdd)=some (.top,[sv t.name,tms t.args])) (n:=t.args.length) ?_ ?_ 0 (Nat.zero_le _))
 .rw [jFA];simp only[Int.natCast_zero,List.take_zero,List.map_nil]at key;simp only[evz,key]
 .rw [jwV,List.take_length];simp only[evz]
 .intro i hi ih';have hlt:(i:Int)<((t.args.length:Nat):Int):=by omega
  have h5:=jef hi (by show t.args.length<=9223372036854775807;omega)
  have e1:=jkL t.args[i] (by have:=jhq (jcF hi);omega)
  have hf:jcK (i+1) 40=true:=jsB (by omega);have hl:((t.args.take i).map jdd).length=i:=by rw[jbw,List.length_take];omega
  have ha:jgo ((t.args.take i).map jdd) [[sv t.args[i].name,tms t.args[i].args]]=(t.args.take (i+1)).map jdd:=by
   rw[show[sv t.args[i].name,tms t.args[i].args]=jdd t.args[i] from(jfY _).symm,List.take_add_one,jz hi,jv];rfl
  rw[jwV];simp only[evz,hlt,jaa hi,ja1,e1,hl,hf,ha,h5,ih']
theorem jxw(s:T)(hs:Tz s):∀(p:Xf)(t:T),Tz t->okP p t->p.length<=2000000->G 72 [tm t,pln p,tm s]=some (tm (jgJ s p t),[])
 | [],t,_,_,_=>by
  have e1:=jw7 s hs;have hz:(((0:Nat):Int)=0)=True:=by simp
  rw[g72,jgJ];simp only[evz,hz,e1,List.map_nil,List.getElem?_cons_zero]
 |i::p,t,ht,hp,hl=>by
  obtain⟨h1,h2⟩:=hp;have e:t.args.getD i (.mk [] [])=t.args[i]:=jhT h1;rw[e]at h2;have e1:=jw7 t ht;have e2:=jxw s hs p t.args[i] (ht.args _ (jcF h1)) h2 (by rw[yv]at hl;omega);have hz:¬((p.length+1:Nat):Int)=0:=by omega
  have hz2:¬((p.length:Nat):Int)+1=0:=by omega
  have i0:jda 1 (pln (i::p)) (vi 0)=some (.elt [vi (i:Nat)] 0):=jlu (p:=i::p) (i:=0) (by simp);have sl:J2 1 (pln (i::p)) (some (vi 1)) none=some (pln p):=by
   have:=jid (k:=1) (xs:=(i::p).map λn:Nat=>[vi (n:Nat)]) (i:=1) (by simp);exact this
  have ix:pIx t.args.length (vi (i:Nat))=some i:=jg7 h1;have rg:jfx (t.args.map jdd) i=some (jdd t.args[i]):=by unfold jfx;simp[h1]
  have co:jfg (jdd t.args[i]) 0 [sv (jgJ s p t.args[i]).name,tms (jgJ s p t.args[i]).args]=jdd (jgJ s p t.args[i]):=by rw[jfY,jfY];rfl
  have rs:jau (t.args.map jdd) i (jdd (jgJ s p t.args[i]))=(t.args.set i (jgJ s p t.args[i])).map jdd:=by unfold jau;rw[List.map_set]
  have ll:(jd7 (pln (i::p)))=some (vi ((p.length+1:Nat):Int)):=by rw[jue];simp only[evz]
  rw[g72,jgJ,e];simp only[evz,ll,hz,e1,i0,jaa h1,ja1,sl,e2,ix,rg,co,rs,List.getElem?_cons_zero];rfl
theorem jnj{n:Xb}(h:jdc n=true):n.length<=4:=by
 cases n with
 |nil=>simp
 |cons c r=>
  simp only[jdc,Yn,Q5]at h;rw[yv];omega
theorem jyp{n:Xb}(h:jhu n=true):n.length<=6:=by
 cases n with
 |nil=>simp
 |cons c r=>
  simp only[jhu,Yn,Q5]at h;rw[yv];omega
theorem jnK:∀t:T,okT t=true->tsz t<=10*nodes t:=by
 refine T.ind λt ih hk=>?_;have hL:∀us:Xg,(∀u∈us,tsz u<=10*nodes u)->jhv us<=10*jdi us:=by
  intro us;induction us with
  |nil=>intro _;simp[jhv]
  |cons u us ih2=>
   intro h;have:=h u (by simp);have:=ih2 λw hw=>h w (by simp[hw]);simp only[jhv,jdi];omega
 have h1:=hL t.args λu hu=>ih u hu (jgW hk u hu);rw[jgG,jfj];rw[jhp]at hk;cases hv:jdc t.name with
 |true=>
  rw[hv,jc6 rfl]at hk;have:=jnj hv;rw[List.isEmpty_iff.1 hk]at h1⊢;simp only[jgS,jhv]at h1⊢;omega
 |false=>
  rw[hv,ko Bool.false_ne_true,Yn,Yn,Q5]at hk;have:=jyp hk.1;omega
theorem jyo{u:jem}{Z:Nat}(hZ:1<=Z)(hu:∀q∈u,nodes q.2<=Z):∀t:T,nodes (sub u t)<=nodes t*Z:=by
 refine T.ind λt ih=>?_;cases hv:jdc t.name with
 |true=>
  have h1:=jhN t;have h2:1*Z<=nodes t*Z:=ky Z h1;rw[ji6 hv,jiQ];cases hl:look u t.name with
  |none=>show 1+0<=_;omega
  |some r=>have:nodes r<=Z:=hu _ (jjY hl);show nodes r<=_;omega
 |false=>
  have hL:∀us:Xg,(∀v∈us,nodes (sub u v)<=nodes v*Z)->jdi (us.map (sub u))<=jdi us*Z:=by
   intro us;induction us with
   |nil=>intro _;simp[jdi]
   |cons v us ih2=>
    intro h;have:=h v (by simp);have:=ih2 λw hw=>h w (by simp[hw]);simp only[j5,jdi,zZ];omega
  have:=hL t.args ih;rw[jfj,jkq hv,jfj t,zZ];omega
theorem jjt{t u:T}(h:u∈t.args):nodes u<nodes t:=by
 have:=jhU h;have:=jfj t;omega
def Vs(t:T):Prop:=okT t=true/\nodes t<=30
theorem Vs.args{t:T}(h:Vs t):∀u∈t.args,Vs u:=λu hu=>⟨jgW h.1 u hu,by have:=jjt hu;have:=h.2;omega⟩
theorem Vs.tz{t:T}(h:Vs t):Tz t:=by
 have:=jnK t h.1;have:=h.2;unfold Tz;omega
def RS(rs:Xg):Prop:=rs.length<=10/\ ∀r∈rs,r.args.length=2/\Vs (jk1 r)/\Vs (jk3 r)
theorem RS.ok{rs:Xg}(h:RS rs):jBJ rs:=λr hr=>⟨(h.2 r hr).2.1.1,(h.2 r hr).2.2.1⟩
def EX(root:Bool)(t:T):Prop:=(nodes t<=31/\Tz t)/\(∀u∈t.args,Vs u)/\(root=true->Vs t)
def jJT(t:T)(o:Option T):Xe:=match o with|some u=>some (.tup [tm u,vb true],[])|none=>some (.tup [tm t,vb false],[])
theorem EX.at{root:Bool}{t:T}(h:EX root t){p:Xf}(hp:okP p t)(hne:¬(p=[]/\root=false)):Vs (atT p t):=by
 obtain⟨_,h1,h2⟩:=h;cases p with
 |nil=>
  cases root
  .exact absurd ⟨rfl,rfl⟩ hne
  .exact h2 rfl
 |cons i p=>
  obtain⟨a,b⟩:=hp;refine jw5 (p:=p) (q:=Vs) (λ_ h=>h.args) b ?_;rw[jhT a];exact h1 _ (jcF _)
def jfr(o:Option T):Xe:=match o with|some u=>some (.tup [tm u,vb true],[])|none=>some (.tup [.agg [sv [],.sl 2 []],vb false],[])
def Srt(l:Xa):Prop:=l.Pairwise λx y=>x<y
theorem jjF(x y:Xb):sLt x y=decide (x<y):=Go.Proofs.bytesLess_eq x y
theorem jAo{x y:Xb}(h1:¬x<y)(h2:x≠y):y<x:=by
 have h3:y<=x:=List.not_lt.1 h1;exact Std.lt_of_le_of_ne h3 (Ne.symm h2)
theorem jxk:∀(a b:Xa),Srt a->Srt b->(∀n,n∈a↔n∈b)->a=b
 | [],[],_,_,_=>rfl
 | [],y::b,_,_,h=>by have:=(h y).2 (by simp);cases this
 |x::a,[],_,_,h=>by have:=(h x).1 (by simp);cases this
 |x::a,y::b,ha,hb,h=>by
  have ha':=List.pairwise_cons.1 ha;have hb':=List.pairwise_cons.1 hb;have hxy:x=y:=by
   have h1:x∈y::b:=(h x).1 (by simp);have h2:y∈x::a:=(h y).2 (by simp);rcases yN.1 h1 with h1|h1
   .exact h1
   .rcases yN.1 h2 with h2|h2
    .exact h2.symm
    .exact absurd (List.lt_trans (ha'.1 y h2) (hb'.1 x h1)) (List.lt_irrefl x)
  subst hxy;refine congrArg (x::·) (jxk a b ha'.2 hb'.2 λn=>⟨λhn=>?_,λhn=>?_⟩)
  .rcases yN.1 ((h n).1 (kO _ hn))with e|e
   .subst e;exact absurd (ha'.1 _ hn) (List.lt_irrefl _)
   .exact e
  .rcases yN.1 ((h n).2 (kO _ hn))with e|e
   .subst e;exact absurd (hb'.1 _ hn) (List.lt_irrefl _)
   .exact e
theorem jA9{l:Xa}(h:l.Nodup):Srt (kx l):=by
 have h1:(kx l).Pairwise λx y=>decide (x<=y)=true:=List.pairwise_mergeSort (λa b c h1 h2=>by simp only[Q5]at *;exact List.le_trans h1 h2) (λa b=>by simp only[QY,Q5];exact List.le_total a b) l
 have h2:(kx l).Nodup:=(List.mergeSort_perm l _).nodup_iff.2 h;exact(h1.and h2).imp λ{x y} hxy=>Std.lt_of_le_of_ne (by simpa using hxy.1) hxy.2
theorem jxl{l:Xa}{s:Xb}{i:Nat}(hl:Srt l)(h1:∀x∈l.take i,x<s)(h2:∀h:i<l.length,s<l[i]):Srt (l.take i++[s]++l.drop i):=by
 have hl':Srt (l.take i++l.drop i):=by rw[Q3];exact hl
 obtain⟨p1,p2,p3⟩:=List.pairwise_append.1 hl';have h3:∀y∈l.drop i,s<y:=by
  intro y hy;have hlt:i<l.length:=by
   rcases Nat.lt_or_ge i l.length with h|h
   .exact h
   .rw [List.drop_of_length_le h]at hy;cases hy
  rw[List.drop_eq_getElem_cons hlt]at hy p2;rcases yN.1 hy with e|e
  .subst e;exact h2 hlt
  .exact List.lt_trans (h2 hlt) ((List.pairwise_cons.1 p2).1 y e)
 refine List.pairwise_append.2 ⟨List.pairwise_append.2 ⟨p1,by simp,λa ha b hb=>?_⟩,p2,λa ha b hb=>?_⟩
 .rw [jU.1 hb];exact h1 a ha
 .rcases Yo.1 ha with ha|ha
  .exact p3 a ha b hb
  .rw [jU.1 ha];exact h3 b hb
theorem jym{l:Xa}(h:Srt l):l.Nodup:=h.imp λ{x y} hxy e=>by subst e;exact List.lt_irrefl _ hxy
mutual
def jjH:T->Xa
 |.mk n us=>(if jdc n then[]else[n])++jie us
def jie:Xg->Xa
 | []=>[]
 |t::ts=>jjH t++jie ts
end
theorem jkr(t:T):jjH t=(if jdc t.name then[]else[t.name])++jie t.args:=by cases t;rfl
theorem jxS(l:Xa)(s:Xb)(hl:l.length<=2100000):∃r,G 119 [strs l,sv s]=some (strs r,[])/\jmv l [s] 1 r/\(Srt l->Srt r):=by
 have key:=upto (P:=λi=>(Srt l-> ∀x∈l.take i,x<s)-> ∃r,joW (strs l) (sv s) (vi i)=some (strs r,[])/\jmv l [s] 1 r/\(Srt l->Srt r)) (n:=l.length) ?_ ?_ 0 (Nat.zero_le _)
 .simp only[Int.natCast_zero]at key;rw[jFV];exact key (by simp)
 .intro hless;have hx:¬((l.length:Nat):Int)<((l.length:Nat):Int):=Int.lt_irrefl _;have s1:J2 1 (strs l) none (some (vi (l.length:Nat)))=some (strs l):=by rw[jiD (by simp),jT (by simp)]
  have s2:J2 1 (strs l) (some (vi (l.length:Nat))) none=some (.sl 1 []):=by rw[jid (by simp),List.drop_of_length_le (by simp)]
  have f1:jcK l.length 16=true:=jix (by omega);have f2:jcK (l.length+1) 16=true:=jix (by omega);have happ:jgo (jgo (l.map cs) [[sv s]]) []=(l++[s]).map cs:=by simp[jgo]
  have hlen:(jgo (l.map cs) [[sv s]]).length=l.length+1:=by simp[jgo]
  refine⟨l++[s],?_,⟨by intro n;simp,by simp⟩,λh=>?_⟩
  .rw [jsg];simp only[evz,hx,s1,s2,f1,f2,hlen,happ,z7]
  .have:=jxl (s:=s) (i:=l.length) h (hless h) (λh=>absurd h (Nat.lt_irrefl _));simpa using this
 .intro i hi ih hless;have hlt:(i:Int)<((l.length:Nat):Int):=by omega
  have h5:=jef hi (by omega);rw[jsg];cases h1:sLt l[i] s
  .by_cases h2:l[i]=s
   .refine ⟨l,?_,⟨λn=>⟨λh=>Or.inl h,λh=>by
     rcases h with h|h
     .exact h
     .simp at h;rw[h,<-h2];exact jcF _⟩,by omega⟩,id⟩
    rw[h2]at h1;simp only[evz,hlt,jaa hi,h2,h1]
   .have s1:J2 1 (strs l) none (some (vi i))=some (strs (l.take i)):=by rw[jiD (by simp;omega),<-List.map_take]
    have s2:J2 1 (strs l) (some (vi i)) none=some (strs (l.drop i)):=by rw[jid (by simp;omega),<-List.map_drop]
    have ht:(l.take i).length=i:=by rw[List.length_take];omega
    have f1:jcK i 16=true:=jix (by omega);have f2:jcK (i+1) 16=true:=jix (by omega);have f3:jcK (i+1+(l.drop i).length) 16=true:=jix (by rw[List.length_drop];omega);have happ:jgo (jgo ((l.take i).map cs) [[sv s]]) ((l.drop i).map cs)=(l.take i++[s]++l.drop i).map cs:=by simp[jgo]
    have hlen:(jgo ((l.take i).map cs) [[sv s]]).length=i+1:=by simp[jgo];omega
    refine⟨l.take i++[s]++l.drop i,?_,⟨λn=>?_,by simp;omega⟩,λh=>?_⟩
    .simp only[evz,hlt,jaa hi,h1,h2,s1,s2,ht,f1,f2,f3,hlen,happ]
    .have hm:n∈l↔n∈l.take i\/n∈l.drop i:=by rw[<-Yo,Q3]
     simp only[Yo,jU,hm];exact⟨λh=>by rcases h with(h|h)|h<;>simp[h],λh=>by rcases h with(h|h)|h<;>simp[h]⟩
    .rw [jjF,decide_eq_false_iff_not]at h1;exact jxl h (hless h) λ_=>jAo h1 h2
  .have hx:l[i]<s:=by rw[jjF,Q5]at h1;exact h1
   obtain⟨r,e,c⟩:=ih λh x hm=>by
    rw[List.take_succ_eq_append_getElem hi]at hm;rcases Yo.1 hm with hm|hm
    .exact hless h x hm
    .rw [jU.1 hm];exact hx
   refine⟨r,?_,c⟩;simp only[evz,hlt,jaa hi,h1,h5,e]
theorem jn0:∀t:T,twf t-> ∀l:Xa,l.length+nodes t<=2100000-> ∃r,G 81 [strs l,tm t]=some (strs r,[])/\jmv l (jjH t) (nodes t) r/\(Srt l->Srt r):=by
 refine T.ind λt ih hw l hb=>?_;obtain⟨w1,w2,w3⟩:=(jgM t).1 hw;have w3:=(jgz _).1 w3;have e1:=jg8 t.name w1;rw[g81,jkr];rw[jfj]at hb⊢;have key:=upto (P:=λi=>∀l:Xa,l.length+jdi (t.args.drop i)<=2100000-> ∃r,js9 (strs l) (vi i) (sv t.name) (tms t.args)=some (strs r,[])/\jmv l (jie (t.args.drop i)) (jdi (t.args.drop i)) r/\(Srt l->Srt r)) (n:=t.args.length) ?_ ?_ 0 (Nat.zero_le _)
 .simp only[Int.natCast_zero,List.drop_zero]at key;cases hv:jdc t.name<;>rw[hv]at e1
  .obtain ⟨r0,e0,⟨b1,b2⟩,b3⟩:=jxS l t.name (by omega);obtain⟨r,e,⟨c1,c2⟩,c3⟩:=key r0 (by omega);refine⟨r,?_,⟨λn=>?_,by omega⟩,λh=>c3 (b3 h)⟩
   .simp only[evz,e1,e0,e]
   .rw [c1,b1];simp only[JG,if_false,Yo];exact or_assoc
  .obtain ⟨r,e,⟨c1,c2⟩,c3⟩:=key l (by omega);refine⟨r,?_,⟨by simpa using c1,by omega⟩,c3⟩;simp only[evz,e1,e]
 .intro l hb;rw[jDN,List.drop_length];refine⟨l,?_,⟨by simp[jie],by omega⟩,id⟩;simp only[evz]
 .intro i hi ih' l hb;have hlt:(i:Int)<((t.args.length:Nat):Int):=by omega
  have h5:=jef hi w2;rw[jdb hi]at hb⊢;simp only[jdi,jie]at hb⊢;obtain⟨r1,a1,⟨c1,c2⟩,c3⟩:=ih t.args[i] (jcF _) (w3 _ (jcF _)) l (by omega);obtain⟨r2,a2,⟨d1,d2⟩,d3⟩:=ih' r1 (by omega);rw[jDN];refine⟨r2,?_,⟨λn=>?_,by omega⟩,λh=>d3 (c3 h)⟩
  .simp only[evz,hlt,jaa hi,ja1,a1,h5,a2]
  .rw [d1,c1,Yo];exact or_assoc
theorem jqh{n:Xb}(h:jdc n=true):jhu n=false:=by
 cases n with
 |nil=>rfl
 |cons c r=>
  simp only[jdc,Yn,upc,inB,Q5]at h;have:jlX c=false:=by unfold jlX inB;rw[Bool.and_eq_false_iff];left;rw[decide_eq_false_iff_not];omega
  simp[jhu,this]
theorem juD{t:T}(h:okT t=true):jhu t.name=!jdc t.name:=by
 obtain⟨c,r,_,hv,hs⟩:=jt0 h;cases hx:jdc t.name
 .rw [hv]at hx;rw[hs hx];rfl
 .rw [jqh hx];rfl
def jqB(l vs:Xa)(k:Nat)(r:Xa):Prop:=jmv l vs k r/\(l.Nodup->r.Nodup)
theorem jlA(ts:Xg)(hl:ts.length<=9223372036854775807)(ih:∀t∈ts,∀l:Xa,l.length+nodes t<=2100000-> ∃r,jku (sv t.name) (tms t.args) (l.map cs)=some (.top,[strs r])/\jqB l (jjH t) (nodes t) r) :
  ∀i,i<=ts.length-> ∀l:Xa,l.length+jdi (ts.drop i)<=2100000-> ∃r,jmw (tms ts) (vi (ts.length:Nat)) (vi i) (l.map cs)=some (.top,[strs r])/\jqB l (jie (ts.drop i)) (jdi (ts.drop i)) r:=by
 refine upto ?_ ?_
 .intro l hb;rw[jtK,List.drop_length];refine⟨l,?_,⟨by simp[jie],by omega⟩,id⟩;simp only[evz]
 .intro i hi ih' l hb;have hlt:(i:Int)<((ts.length:Nat):Int):=by omega
  have h5:=jef hi hl;rw[jdb hi]at hb⊢;simp only[jdi,jie]at hb⊢;obtain⟨r1,e1,⟨c1,c2⟩,c3⟩:=ih ts[i] (jcF _) l (by omega);obtain⟨r2,e2,⟨d1,d2⟩,d3⟩:=ih' r1 (by omega);rw[jtK];refine⟨r2,?_,⟨λn=>?_,by omega⟩,λh=>d3 (c3 h)⟩
  .simp only[evz,hlt,jaa hi,ja1,e1,h5,e2]
  .rw [d1,c1,Yo];exact or_assoc
theorem jkV(ts:Xg)(hl:ts.length<=9223372036854775807)(ih:∀t∈ts,∀l:Xa,l.length+nodes t<=2100000-> ∃r,jku (sv t.name) (tms t.args) (l.map cs)=some (.top,[strs r])/\jqB l (jjH t) (nodes t) r)(l:Xa)(hb:l.length+jdi ts<=2100000) :
  ∃r,joV (tms ts) (vi (ts.length:Nat)) (vi 0) (l.map cs)=some (.top,[strs r])/\jqB l (jie ts) (jdi ts) r:=by
 have loop:=jlA ts hl ih;rw[jzF];by_cases h0:ts.length=0
 .have ha:ts=[]:=List.length_eq_zero_iff.1 h0;rw[ha];refine⟨l,?_,⟨by simp[jie],by simp[jdi]⟩,id⟩;simp only[evz];rfl
 .have hi:0<ts.length:=by omega
  have hlt:(0:Int)<((ts.length:Nat):Int):=by omega
  have hix:jda 2 (tms ts) (vi 0)=some (.elt (jdd ts[0]) 0):=jaa (i:=0) hi;have h5:jeH .add false (vi 0) (vi 1)=some (vi ((1:Nat):Int)):=by rw[jiM,jeY (by decide) (by decide)];rfl
  have hd:ts=ts[0]::ts.drop 1:=by have:=jdb hi;simpa using this
  have hns:jdi ts=nodes ts[0]+jdi (ts.drop 1):=by conv=>lhs;rw[hd,jdi]
  have hvs:jie ts=jjH ts[0]++jie (ts.drop 1):=by conv=>lhs;rw[hd,jie]
  obtain⟨r1,e1,⟨c1,c2⟩,c3⟩:=ih ts[0] (jcF _) l (by omega);obtain⟨r2,e2,⟨d1,d2⟩,d3⟩:=loop 1 (by omega) r1 (by omega);refine⟨r2,?_,⟨λn=>?_,by omega⟩,λh=>d3 (c3 h)⟩
  .simp only[evz,hlt,hix,ja1,e1,h5,e2]
  .rw [d1,c1,hvs,Yo];exact or_assoc
theorem jne:∀t:T,twf t->okT t=true-> ∀l:Xa,l.length+nodes t<=2100000-> ∃r,jku (sv t.name) (tms t.args) (l.map cs)=some (.top,[strs r])/\jqB l (jjH t) (nodes t) r:=by
 refine T.ind λt ih hw hk l hb=>?_;obtain⟨w1,w2,w3⟩:=(jgM t).1 hw;have w3:=(jgz _).1 w3;have hks:=jgW hk;have e1:=jlj t.name w1;have e2:=ji5 l t.name (by omega);rw[juD hk]at e1;rw[jEf,jkr];have ih':∀u∈t.args,∀l:Xa,l.length+nodes u<=2100000-> ∃r,jku (sv u.name) (tms u.args) (l.map cs)=some (.top,[strs r])/\jqB l (jjH u) (nodes u) r:=λu hu=>ih u hu (w3 u hu) (hks u hu);rw[jfj]at hb⊢;cases hv:jdc t.name<;>rw[hv]at e1
 .cases hc:l.contains t.name<;>rw[hc]at e2
  .have hn:¬t.name∈l:=by simpa using hc
   obtain⟨r,e,⟨c1,c2⟩,c3⟩:=jlA t.args w2 ih' 0 (Nat.zero_le _) (l++[t.name]) (by simp;omega)
   simp only[Int.natCast_zero,List.drop_zero,yM,List.length_singleton]at e c1 c2;have happ:jgo (l.map cs) [[sv t.name]]=(l++[t.name]).map cs:=by simp[jgo]
   have f1:jcK (l.length+1) 16=true:=jix (by omega);refine⟨r,?_,⟨λn=>?_,by omega⟩,λh=>c3 ?_⟩
   .simp only[evz,e1,e2,f1,happ,e]
   .rw [c1];simp only[JG,if_false,Yo];exact or_assoc
   .exact jfP.2 ⟨h,by simp,λa ha b hb e=>by rw[jU.1 hb]at e;rw[e]at ha;exact hn ha⟩
  .have hn:t.name∈l:=by simpa using hc
   obtain⟨r,e,⟨c1,c2⟩,c3⟩:=jkV t.args w2 ih' l (by omega);refine⟨r,?_,⟨λn=>?_,by omega⟩,c3⟩
   .simp only[evz,e1,e2,e]
   .rw [c1];simp only[JG,if_false,Yo,jU];exact⟨λh=>by rcases h with h|h<;>simp[h],λh=>by
     rcases h with h|h|h
     .exact Or.inl h
     .exact Or.inl (h ▸ hn)
     .exact Or.inr h⟩
 .obtain ⟨r,e,⟨c1,c2⟩,c3⟩:=jkV t.args w2 ih' l (by omega);refine⟨r,?_,⟨by simpa using c1,by omega⟩,c3⟩;simp only[evz,e1,e]
theorem jAI{n:Nat}(h:n<=4000000):jcK n 8=true:=by
 unfold jcK;simp;omega
theorem jCW(n:Nat)(h:n<=12):((jcJ .u64 (jbS [[vi 1]])).bind λt2=>(jcJ .u64 (vi n)).bind λt3=>(G 150 [t2,t3]).bind (fin false))=some (.tup [.val (.int .u64 0),.val (.int .u64 n)]):=by
 have c:(jcJ .u64 (jbS [[vi 1]]))=some (.val (.int .u64 1)):=by kernel_rfl
 have d:jcJ .u64 (vi n)=some (.val (.int .u64 n)):=by
  rcases n with _|_|_|_|_|_|_|_|_|_|_|_|_|n
  rotate_right
  .omega
  all_goals kernel_rfl
 rw[c,d];simp only[Option.bind_some];rw[jHC];simp only[cev];rw[jH6];clear c d;rcases n with _|_|_|_|_|_|_|_|_|_|_|_|_|n
 rotate_right
 .omega
 all_goals (show _=_;kernel_rfl)
theorem jzi{α:Type}{a b:α}{i j k:Nat}(h:i<=k):(List.replicate i a++List.replicate j b).drop k=List.replicate (j-(k-i)) b:=by
 rw[List.drop_append,List.drop_replicate,List.drop_replicate,jiq,show i-k=0 by omega];rfl
theorem jA2{n:Nat}(hn:n<=12)(r1:Xc):∀(f j:Nat),n-j<=f->1<=j->j<=n->
  jmx (vi (j:Nat)) (List.replicate j [vi 1]++List.replicate (n-j) [vi 0]) r1=some (.top,[.sl 1 (List.replicate n [vi 1])]):=by
 intro f;induction f with
 |zero=>
  intro j h1 h2 h3;have:j=n:=by omega
  subst this;rw[jm2];simp only[evz,jiq,Nat.sub_self,List.replicate_zero,ZE]
 |succ f ih=>
  intro j h1 h2 h3;by_cases hj:j=n
  .subst hj;rw[jm2];simp only[evz,jiq,Nat.sub_self,List.replicate_zero,ZE]
  .rw [jm2];simp only[cev];have hl:(List.replicate j [vi 1]++List.replicate (n-j) [vi 0]).length=n:=by simp;omega
   have e1:decide ((j:Int)<(n:Int))=true:=by simp;omega
   have hm:j+min j (n-j)<=n:=by omega
   have e2:jeH .add false (vi j) (vi (min j (n-j):Nat))=some (vi (j+min j (n-j):Nat)):=by
    rw[jiM,jeY (by omega) (by omega)];rfl
   have ew:(((List.replicate j [vi 1]++List.replicate (n-j) [vi 0]).drop 0).take j)=List.replicate j [vi 1]:=by
    rw[List.drop_zero,qL (by simp),jT (by simp)]
   have eo:yL (List.replicate j [vi 1]++List.replicate (n-j) [vi 0]) (0+j) ((List.replicate j [vi 1]).take (n-j))=List.replicate (j+min j (n-j)) [vi 1]++List.replicate (n-(j+min j (n-j))) [vi 0]:=by
    rw[jkn,jfO,qL (by simp),jT (by simp),List.take_replicate,jiq,jzi]
    .rw [List.replicate_append_replicate,Nat.min_comm (n-j) j];congr 2;omega
    .omega
   have key:=ih (j+min j (n-j)) (by omega) (by omega) hm;simp only[jnb,jsC,jhW,hl,jm8,Option.bind_some,jjE,e1,jpe,Nat.sub_zero,jg6 (jl n),jhY h3,jnc,jhJ,ew,jxe,juo,jiq,e2,eo,key]
theorem jE2{n:Nat}(h:n<=12):ju3 (vi (n:Nat)) [[vi 1]]=some (.top,[.sl 1 (List.replicate n [vi 1])]):=by
 rw[jEg];simp only[cev];have e0:decide ((n:Int)<0)=false:=by simp
 have em:=jCW n h;have eg:decide ((0:Int)<0)=false:=by simp
 have ec:jcJ .i64 (A.val (.int .u64 n))=some (vi n):=jeY (by omega) (by omega);have ek:jeH .gtr false (A.val (.int .u64 n)) (A.val (.int .u64 9223372036854775807))=some (vb false):=by
  show some (vb (decide ((9223372036854775807:Int)<n)))=_;rw[decide_eq_false (by omega)]
 have ek0:jeH .gtr false (A.val (.int .u64 0)) (A.val (.int .u64 0))=some (vb false):=rfl;have emk:ja7 8 (vi n) (vi n)=some n:=by
  show(if je2 8 (n:Int) (n:Int)then some (n:Int).toNat else none)=_;rw[jc6 ⟨by omega,by omega,by omega,by omega⟩];rfl
 have hm:∀(k:A->A->Xe),((jcJ .u64 (jbS [[vi 1]])).bind λt2=>(jcJ .u64 (vi n)).bind λt3=>((G 150 [t2,t3]).bind (fin false)).bind λt4=>(jfw t4 0).bind λt5=>(jfw t4 1).bind λt6=>k t5 t6) =
   k (.val (.int .u64 0)) (.val (.int .u64 n)):=by
  intro k;have:((jcJ .u64 (jbS [[vi 1]])).bind λt2=>(jcJ .u64 (vi n)).bind λt3=>((G 150 [t2,t3]).bind (fin false)).bind λt4=>(jfw t4 0).bind λt5=>(jfw t4 1).bind λt6=>k t5 t6) =
    (((jcJ .u64 (jbS [[vi 1]])).bind λt2=>(jcJ .u64 (vi n)).bind λt3=>(G 150 [t2,t3]).bind (fin false)).bind λt4=>(jfw t4 0).bind λt5=>(jfw t4 1).bind λt6=>k t5 t6):=by
   simp only[Option.bind_assoc]
  rw[this,em];rfl
 rw[jm8,e0];simp only[Option.bind_some,jjE,jjp];rw[hm];simp only[ek0,ek,Option.bind_some,jAK,zv,jpZ,JG,if_false,jjE,jjp,ec,emk,jcP,jsC,jiq];rcases n with _|n
 .have e1:jgp [[vi 1]] 0=vi ((0:Nat):Int):=rfl;have e2:yL (List.replicate 0 [vi 0]) 0 (jfz [[vi 1]] 0)=[]:=rfl;rw[e1,e2,jm2];rfl
 .have key:=jA2 (n:=n+1) h [[vi 1]] (n+1) 1 (by omega) (by omega) (by omega);have e1:jgp [[vi 1]] (n+1)=vi ((1:Nat):Int):=by
   rw[jxe];have:min [[vi 1]].length (n+1)=1:=by simp
   rw[this]
  have e2:yL (List.replicate (n+1) [vi 0]) 0 (jfz [[vi 1]] (n+1))=List.replicate 1 [vi 1]++List.replicate (n+1-1) [vi 0]:=by
   rw[jkn,juo];simp[jc9]
  rw[e1,e2];exact key
theorem jqi{ts:Xg}{n:Xb} :n∈jie ts↔ ∃t∈ts,n∈jjH t:=by
 induction ts with
 |nil=>simp[jie]
 |cons t ts ih=>simp[jie,ih]
theorem jrh:∀t:T,okT t=true-> ∀n∈jjH t,jhu n=true:=by
 refine T.ind λt ih hk n hn=>?_;rw[jkr,Yo]at hn;rcases hn with hn|hn
 .cases hv:jdc t.name<;>rw[hv]at hn
  .simp at hn;rw[hn,juD hk,hv];rfl
  .simp at hn
 .obtain ⟨u,hu,hm⟩:=jqi.1 hn;exact ih u hu (jgW hk u hu) n hm
theorem jtu(l:Xa):∀t:T,(∀n∈jjH t,n∈l)->jiP l t=true:=by
 refine T.ind λt ih h=>?_;rw[jkr]at h;rw[jiw,jki,Yn];refine⟨?_,jE.2 λu hu=>ih u hu λn hn=>h n (JL _ (jqi.2 ⟨u,hu,hn⟩))⟩;cases hv:jdc t.name
 .rw [hv]at h;rw[Bool.false_or];exact List.contains_iff_mem.2 (h t.name (by simp))
 .rfl
def jqa(r:Xa):Ord':=⟨r,List.replicate r.length 1,1⟩
theorem jyx{r:Xa}(h1:1<=r.length)(h2:r.length<=12)(hs:∀n∈r,jhu n=true)(hn:r.Nodup):jhr (jqa r)=true:=by
 have hb:inB 1 12 (r.length:Nat)=true:=by unfold inB;rw[Yn,Q5,Q5];omega
 unfold jhr jqa;simp only[hb,jiq,decide_true,Bool.true_and,Yn];refine⟨by decide,jE.2 λi hi=>?_⟩;have hi:i<r.length:=List.mem_range.1 hi;have g1:r.getD i []=r[i]:=by simp[jK,hi]
 have g2:(List.replicate r.length (1:Int)).getD i 0=1:=by simp[jK,hi]
 unfold jxG;simp only[g1,g2,hs _ (jcF _),Bool.true_and,Yn];refine⟨?_,by decide⟩;rw[JK,<-Bool.not_eq_true,List.contains_iff_mem];intro hm;obtain⟨j,hj,e⟩:=List.mem_take_iff_getElem.1 hm;have:=(List.nodup_iff_pairwise_ne.1 hn);have:=List.pairwise_iff_getElem.1 this j i (by omega) hi (by omega);exact this e
theorem jBd{n:Xb}(h:jhu n=true):n.length<=6:=by
 cases n with
 |nil=>simp
 |cons c r=>
  simp only[jhu,Yn,Q5]at h;simp only[yv];omega
theorem jpk(o:Ord')(s t:T)(hw:twf s)(hw':twf t)(x y:Bool)(e5:G 153 [od o,tm s,tm t]=some (vb x,[]))(e6:G 153 [od o,tm t,tm s]=some (vb y,[])):G 106 [od o,tm s,tm t]=some (vi (jle (dq s t) x y),[]):=by
 have e4:=jhE s hw t hw';have c1:G 152 [.elt (jsz o) 0,.elt [sv s.name,.sl 2 (s.args.map jdd)] 0,.elt [sv t.name,.sl 2 (t.args.map jdd)] 0]=some (vb x,[]):=by
  rw[jFX];simp only[evz,jm9,jna,e5]
 have c2:G 154 [.elt (jsz o) 0,.elt [sv t.name,.sl 2 (t.args.map jdd)] 0,.elt [sv s.name,.sl 2 (s.args.map jdd)] 0]=some (vb y,[]):=by
  rw[jFZ];simp only[evz,jm9,jna,e6]
 have e7:=jpY (f:=152) (g:=154) rfl rfl (dq s t) _ _ c1 c2;rw[jFU];simp only[evz,e4,e7]
theorem jks{t:T}(hk:okT t=true)(hv:jdc t.name=true):t.args=[]:=by
 rw[jhp,hv,jc6 rfl]at hk;exact List.isEmpty_iff.1 hk
theorem jtG(o:Ord')(s t:T)(hw:twf s)(hw':twf t)(hk:okT s=true)(hk':okT t=true)(hv:jdc s.name=true)(hv':jdc t.name=true)(hne:¬s.name=t.name):G 153 [od o,tm s,tm t]=some (vb false,[]):=by
 have as_:=jks hk hv;have at_:=jks hk' hv';have ns:nodes s<=1048577:=by rw[jfj,as_];simp[jdi]
 have nt:nodes t<=1048577:=by rw[jfj,at_];simp[jdi]
 obtain⟨r,er,c1,c2⟩:=jnk t hw' hk' nt;have hvt:jgi t=[t.name]:=by rw[jh0,jc6 hv']
 have hpos:0<r.length:=by
  rcases Nat.eq_zero_or_pos r.length with h|h
  .have hr:r=[]:=List.length_eq_zero_iff.1 h;have:=(c1 t.name).2 (by rw[hvt];simp);rw[hr]at this;cases this
  .exact h
 have h0:r[0]=t.name:=by
  have:=(c1 r[0]).1 (jcF _);rw[hvt]at this;simpa using this
 have hlt:(0:Int)<((r.length:Nat):Int):=by omega
 have hix:jda 1 (strs r) (vi 0)=some (.elt (cs t.name) 0):=by have:=jaa (k:=1) (f:=cs) (i:=0) hpos;rw[h0]at this;exact this
 have a1:=jiH t.name s hw ns;have a2:=jiH t.name t hw' nt;have k1:cnt t.name s=0:=by rw[jnw,as_,ko hne];simp[jjk]
 have k2:cnt t.name t=1:=by rw[jnw,at_];simp[jjk]
 rw[k1]at a1;rw[k2]at a2;have h':((0:Nat):Int)<((1:Nat):Int):=by omega
 rw[jFY];simp only[evz,er];rw[jvx];simp only[evz,hlt,hix,a1,a2,h']
theorem jBa(a b:T)(r:Xa)(hr:r.length<=12)(x:Int)(ok:Bool)(e:G 82 [.agg [strs r,.sl 1 (List.replicate r.length [vi 1]),vi 1],tm a,tm b]=some (.tup [vi x,vb ok],[])) :
  js2 (vi 0) (sv a.name) (tms a.args) (sv b.name) (tms b.args) (strs r) (vi 1) []=some (vi (if ok then x else 0),[]):=by
 have key:=upto (P:=λi=>js2 (vi i) (sv a.name) (tms a.args) (sv b.name) (tms b.args) (strs r) (vi 1) (List.replicate i [vi 1])=some (vi (if ok then x else 0),[])) (n:=r.length) ?_ ?_ 0 (Nat.zero_le _)
 .simpa using key
 .rw [jDw];have hf:fin true (A.tup [vi x,vb ok],[])=some (A.tup [vi x,vb ok]):=rfl;cases ok
  .simp only[evz,e,hf]
  .simp only[evz,e,hf]
 .intro i hi ih;have hlt:(i:Int)<((r.length:Nat):Int):=by omega
  have h5:=jef hi (by omega);have f1:jcK (i+1) 8=true:=jAI (by omega);have happ:jgo (List.replicate i [vi 1]) [[vi 1]]=List.replicate (i+1) [vi 1]:=by rw[List.replicate_succ'];rfl
  have hlen:(List.replicate i ([vi 1]:Xd)).length=i:=jiq;rw[jDw];simp only[evz,hlt,hlen,f1,h5,happ,ih]
theorem jEH{o:Ord'}(hv:jhr o=true){s t:T}(ks:okT s=true)(hc:jiP o.syms t=true)(h:Kp o s t):jdc s.name=false:=by
 cases hs:jdc s.name with
 |false=>rfl
 |true=>
  obtain⟨_,h⟩:=(jyQ o s t).1 h;rcases h with h|⟨_,h,_⟩
  .have:=jFc hv hc;rw[juY o s,jks ks hs,hs,jc6 rfl]at h;simp only[wtL]at h;omega
  .rw [hs]at h;cases h.1
theorem jt3(a b:T)(hw:twf a)(hw':twf b)(hs:tsz a<=1048576)(hs':tsz b<=1048576)(hva:jgQ a=true)(hvb:jgQ b=true) :
  ∃x:Int,G 37 [tm a,tm b]=some (vi x,[])/\G 61 [tm a,tm b]=some (vi x,[])/\(x=2->jdc a.name=false):=by
 have hk:okT a=true:=by unfold jgQ at hva;rw[Yn]at hva;exact hva.2
 have hk':okT b=true:=by unfold jgQ at hvb;rw[Yn]at hvb;exact hvb.2
 have na:nodes a<=30:=by simp only[jgQ,jfs,Yn,Q5]at hva;exact hva.1.1
 have nb:nodes b<=30:=by simp only[jgQ,jfs,Yn,Q5]at hvb;exact hvb.1.1
 have e1:=jkk a hw b hw';have e2:=jhE a hw b hw';rw[g37,g61];cases hd:dq a b<;>rw[hd]at e1 e2
 rotate_left
 .exact ⟨1,by simp only[evz,e1],by simp only[evz,e2],λh=>absurd h (by decide)⟩
 obtain⟨r1,f1,⟨c1,c2⟩,c3⟩:=jn0 a hw [] (by simp;omega)
 obtain⟨r,f2,⟨d1,d2⟩,d3⟩:=jn0 b hw' r1 (by simp at c2;omega)
 have hsrt:Srt r:=d3 (c3 List.Pairwise.nil);have hmem:∀n,n∈r↔n∈jjH a\/n∈jjH b:=λn=>by rw[d1,c1];simp
 have hlen:r.length<=60:=by simp at c2;omega
 have f1:G 81 [.sl 1 [],tm a]=some (strs r1,[]):=f1;obtain⟨p1,g1,⟨i1,i2⟩,i3⟩:=jne a hw hk [] (by simp;omega);obtain⟨p,g2,⟨j1,j2⟩,j3⟩:=jne b hw' hk' p1 (by simp at i2;omega);have hnd:p.Nodup:=j3 (i3 List.nodup_nil);have hpm:∀n,n∈p↔n∈jjH a\/n∈jjH b:=λn=>by rw[j1,i1];simp
 have hsort:kx p=r:=jxk _ _ (jA9 hnd) hsrt λn=>by rw[hmem,<-hpm];unfold kx;exact List.mem_mergeSort
 have hpl:p.length=r.length:=by rw[<-hsort];simp[kx]
 have g1:jku (sv a.name) (tms a.args) []=some (.top,[strs p1]):=g1;have g3:joS (p.map cs)=some (.top,[strs r]):=by
  rw[jy3];simp only[jcY,jaE];rw[jc6 (by omega),hsort]
 by_cases h12:r.length<=12;rotate_left
 .have hgt:((12:Nat):Int)<((r.length:Nat):Int):=by omega
  have hle:¬((r.length:Nat):Int)<=12:=by omega
  have hgt:(12:Int)<((r.length:Nat):Int):=by omega
  have hz:¬((r.length:Nat):Int)=0:=by omega
  refine⟨0,?_,?_,λh=>absurd h (by decide)⟩
  .simp only[evz,e1,f1,f2,hz,hgt]
  .simp only[evz,e2,g1,g2,hpl,hgt]
 have hle:((r.length:Nat):Int)<=12:=by omega
 have hgt:¬(12:Int)<((r.length:Nat):Int):=by omega
 have hrep:=jE2 h12;have hci:(ints (List.replicate r.length 1):A) = .sl 1 (List.replicate r.length [vi 1]):=by show A.sl 1 _=_;rw[List.map_replicate]
 have hod:(od (jqa r):A) = .agg [strs r,.sl 1 (List.replicate r.length [vi 1]),vi 1]:=by rw[<-hci];rfl
 by_cases h0:r.length=0
 .have hr:r=[]:=List.length_eq_zero_iff.1 h0;have hz:((r.length:Nat):Int)=0:=by omega
  have va:jdc a.name=true:=by
   cases hv:jdc a.name
   .have:=(hmem a.name).2 (Or.inl (by rw[jkr,hv];simp))
    rw[hr]at this;cases this
   .rfl
  have vb':jdc b.name=true:=by
   cases hv:jdc b.name
   .have:=(hmem b.name).2 (Or.inr (by rw[jkr,hv];simp))
    rw[hr]at this;cases this
   .rfl
  have hne:¬a.name=b.name:=λe=>by
   rw[jEx,e,jks hk va,jks hk' vb',joH]at hd;simp at hd
  have q:=jpk (jqa r) a b hw hw' false false (jtG _ a b hw hw' hk hk' va vb' hne) (jtG _ b a hw' hw hk' hk vb' va (λe=>hne e.symm));rw[hd,hod]at q;refine⟨0,?_,?_,λh=>absurd h (by decide)⟩
  .simp only[evz,e1,f1,f2,hz]
  .simp only[evz,e2,g1,g2,hpl,hgt,g3,hrep,q,jle]
 have hsym:∀n∈r,jhu n=true:=λn hn=>by
  rcases(hmem n).1 hn with h|h
  .exact jrh a hk n h
  .exact jrh b hk' n h
 have hval:=jyx (by omega) h12 hsym (jym hsrt);have hca:jiP (jqa r).syms a=true:=jtu _ a λn hn=>(hmem n).2 (Or.inl hn);have hcb:jiP (jqa r).syms b=true:=jtu _ b λn hn=>(hmem n).2 (Or.inr hn);have howf:owf (jqa r):=by
  refine⟨⟨λs hs=>?_,by show r.length<=_;omega⟩,⟨λx hx=>?_,by show(List.replicate r.length (1:Int)).length<=_;rw[jiq];omega⟩,by show I64 1;exact⟨by decide,by decide⟩⟩
  .have:=jBd (hsym s hs);omega
  .have:x=1:=by have:=jrz hx;exact this
   rw[this];exact⟨by decide,by decide⟩
 have q1:=jot (jqa r) a b howf hw hs hw' hs';have q2:=joj hval a b howf hw hs hw' hs' hk hk' hca hcb;have q3:jkF (jqa r) a b = .tup [vi (jkD (jqa r) a b),vb true]:=by unfold jkF good;rw[hval,hva,hvb,hca,hcb];rfl
 rw[q3,hod]at q1;rw[hod]at q2;have q4:=jBa a b r h12 _ _ q1;have hz:¬((r.length:Nat):Int)=0:=by omega
 refine⟨jkD (jqa r) a b,?_,?_,λh=>jEH hval hk hcb ((jCz _ _ _).1 h)⟩
 .simp only[evz,e1,f1,f2,hz,hgt,q4]
 .simp only[evz,e2,g1,g2,hpl,hgt,g3,hrep,q2]
theorem jze{ts:Xg}{t:T}(h:t∈ts):dep t<=jj4 ts:=by
 induction ts with
 |nil=>cases h
 |cons u us ih=>
  simp only[jj4];rcases yN.1 h with h|h
  .subst h;omega
  .have:=ih h;omega
theorem jti(t:T)(hs:Tz t)(he:¬t.name=[61]):G 48 [tm t]=some (vb (jhu t.name && jgQ t),[]):=by
 have e1:=jjW t.name ((jgM t).1 hs.wf).1;have e2:=jiX t hs.wf hs;rw[g48];cases h:jhu t.name<;>rw[h]at e1
 .simp only[evz,he,e1,Bool.false_and]
 .simp only[evz,he,e1,e2,Bool.true_and]
def EX'(root:Bool)(t:T):Prop:=EX root t/\(root=false->t.name=[61]/\t.args.length=2)
theorem jw4{us:Xg}(h:∀u∈us,okT u=true):jhv us<=10*jdi us:=by
 induction us with
 |nil=>simp[jhv]
 |cons u us ih=>
  have:=jnK u (h u (by simp));have:=ih λw hw=>h w (by simp[hw]);simp only[jhv,jdi];omega
theorem jw6{t:T}(h:okT t=true):¬t.name=[61]:=λe=>by
 rw[jhp,e]at h;exact absurd h (by
  rw[show jdc [61]=false from by decide,ko Bool.false_ne_true,show jhu [61]=false from by decide];simp)
theorem jwz{t:T}(ht:Tz t)(h:okT t=true\/(t.name=[61]/\t.args.length=2/\ ∀u∈t.args,okT u=true)):G 160 [tm t]=some (vb (jfs t),[]):=by
 have e2:=jiX t ht.wf ht;rw[jHI];rcases h with h|⟨h1,h2,h3⟩
 .have hv:jgQ t=jfs t:=by unfold jgQ;rw[h,Bool.and_true]
  rw[hv]at e2;have e1:=jti t ht (jw6 h);rw[hv]at e1;cases hs:jfs t<;>rw[hs]at e1 e2
  .rw [Bool.and_false]at e1;simp only[evz,e1,e2]
  .simp only[evz,e2]
 .have hk:okT t=false:=by
   cases hk:okT t with
   |false=>rfl
   |true=>exact absurd h1 (jw6 hk)
  have hv:jgQ t=false:=by unfold jgQ;rw[hk,Bool.and_false]
  rw[hv]at e2;have e1:=jpA t ht.wf ht h1;obtain⟨_,_,ma,mb⟩:=jkh h2;have he:jqs t=jfs t:=by unfold jqs;rw[decide_eq_true h2,h3 _ ma,h3 _ mb];simp
  rw[he]at e1;simp only[evz,e1,e2]
def jJS(o:Option (T×Nat)):Xe:=match o with|some r=>some (.tup [tm r.1,vi (r.2:Nat),vb true],[])|none=>some (.tup [.agg [sv [],.sl 2 []],vi 0,vb false],[])
structure Law3{α:Type}(c:α->α->Int):Prop where
 zero:∀a b,c a b=0↔a=b
 flip:∀a b,c b a = -(c a b)
 trans:∀a b d,c a b<0->c b d<0->c a d<0
section
variable{α:Type}{c:α->α->Int}
def Asc(c:α->α->Int)(l:List α):Prop:=l.Pairwise λa b=>c a b<0
theorem jsc(h:Law3 c):∀{l m:List α},Asc c l->Asc c m->(∀x,x∈l↔x∈m)->l=m
 | [],[],_,_,_=>rfl
 | [],b::m,_,_,hx=>absurd ((hx b).2 (by simp)) (by simp)
 |a::l,[],_,_,hx=>absurd ((hx a).1 (by simp)) (by simp)
 |a::l,b::m,h1,h2,hx=>by
  obtain⟨g1,g2⟩:=List.pairwise_cons.1 h1;obtain⟨k1,k2⟩:=List.pairwise_cons.1 h2;have hab:a=b:=by
   rcases yN.1 ((hx a).1 (by simp))with e|e
   .exact e
   rcases yN.1 ((hx b).2 (by simp))with e'|e'
   .exact e'.symm
   .have q1:=k1 a e;have q2:=g1 b e';have q3:=h.flip a b;omega
  subst hab;have:l=m:=jsc h g2 k2 λx=>by
   constructor
   .intro hxl;rcases yN.1 ((hx x).1 (by simp[hxl]))with e|e
    .have:=g1 x hxl;rw[e,(h.zero a a).2 rfl]at this;omega
    .exact e
   .intro hxm;rcases yN.1 ((hx x).2 (by simp[hxm]))with e|e
    .have:=k1 x hxm;rw[e,(h.zero a a).2 rfl]at this;omega
    .exact e
  rw[this]
def jmN(eq:α->α->Bool):List α->List α
 | []=>[]
 |a::l=>(match jmN eq l with| []=>[a]|b::m=>if eq a b then b::m else a::b::m)
theorem jqO(h:Law3 c){eq:α->α->Bool}(he:∀a b,eq a b=true↔a=b):∀{l:List α},l.Pairwise (λa b=>¬c b a<0)->Asc c (jmN eq l)/\ ∀x,x∈jmN eq l↔x∈l
 | [],_=>⟨List.Pairwise.nil,λx=>Iff.rfl⟩
 |a::l,hp=>by
  obtain⟨g1,g2⟩:=List.pairwise_cons.1 hp;obtain⟨k1,k2⟩:=jqO h he g2;rw[jmN];cases hc:jmN eq l with
  |nil=>
   rw[hc]at k2;refine⟨by unfold Asc;simp,λx=>?_⟩;show x ∈ [a]↔_;constructor
   .intro hx;simp only[jU]at hx;simp[hx]
   .intro hx;rcases yN.1 hx with e|e
    .simp [e]
    .exact absurd ((k2 x).2 e) (by simp)
  |cons b m=>
   rw[hc]at k1 k2;have hbl:b∈l:=(k2 b).1 (by simp);by_cases hab:a=b
   .show Asc c (if eq a b then b::m else a::b::m)/\_;have he':=(he a b).2 hab;have e2:(if eq a b then b::m else a::b::m)=b::m:=jc6 he';refine⟨by rw[e2];exact k1,λx=>?_⟩;show x∈(if eq a b then b::m else a::b::m)↔_;rw[e2,k2,yN];constructor
    .exact Or.inr
    .rintro (e|e)
     .rw [e,hab];exact hbl
     .exact e
   .have he':¬eq a b=true:=λe=>hab ((he a b).1 e);have e2:(if eq a b then b::m else a::b::m)=a::b::m:=ko he';have hlt:c a b<0:=by
     have q1:=g1 b hbl;have q2:=h.flip a b;have q3:c a b≠0:=λe=>hab ((h.zero a b).1 e);omega
    refine⟨?_,λx=>?_⟩
    .show Asc c (if eq a b then b::m else a::b::m);rw[e2];refine List.pairwise_cons.2 ⟨λx hx=>?_,k1⟩;rcases yN.1 hx with e|e
     .rw [e];exact hlt
     .exact h.trans a b x hlt ((List.pairwise_cons.1 k1).1 x e)
    .show x∈(if eq a b then b::m else a::b::m)↔_;rw[e2,yN,k2,yN]
theorem jl6{p:α->Bool} :∀{l:List α}{a:α},a∈l.takeWhile p->p a=true
 |x::l,a,h=>by
  by_cases hx:p x=true
  .rw [List.takeWhile_cons_of_pos hx]at h;rcases yN.1 h with e|e
   .rw [e];exact hx
   .exact jl6 e
  .rw [List.takeWhile_cons_of_neg hx]at h;cases h
def jje(c:α->α->Int)(l:List α)(x:α):List α:=if(l.dropWhile λa=>decide (c a x<0)).head?.any (λb=>decide (c b x=0))then l else l.takeWhile (λa=>decide (c a x<0))++x::l.dropWhile λa=>decide (c a x<0)
theorem jmV(h:Law3 c){l:List α}(hl:Asc c l)(x:α):Asc c (jje c l x)/\ ∀y,y∈jje c l x↔y∈l\/y=x:=by
 have e:=List.takeWhile_append_dropWhile (p:=λa=>decide (c a x<0)) (l:=l);have ht:∀a∈l.takeWhile (λa=>decide (c a x<0)),c a x<0:=λa ha=>of_decide_eq_true (jl6 (p:=λa=>decide (c a x<0)) ha);unfold jje;generalize l.takeWhile (λa=>decide (c a x<0))=t at *;cases hd:l.dropWhile (λa=>decide (c a x<0))with
 |nil=>
  rw[hd,ZE]at e;subst e;rw[ko (by simp)];refine⟨?_,λy=>by simp⟩;refine List.pairwise_append.2 ⟨hl,by simp,λa ha b hb=>?_⟩;simp only[jU]at hb;rw[hb];exact ht a ha
 |cons b m=>
  have hb:¬c b x<0:=by
   intro hb;have:=List.head?_dropWhile_not (p:=λa=>decide (c a x<0)) l;rw[hd]at this;simp[hb]at this
  rw[hd]at e;by_cases h0:c b x=0
  .rw [jc6 (by simp[h0])];refine⟨hl,λy=>⟨Or.inl,λhy=>?_⟩⟩;rcases hy with hy|hy
   .exact hy
   .rw [hy,<-(h.zero b x).1 h0,<-e];simp
  .rw [ko (by simp[h0])];rw[<-e]at hl;obtain⟨p1,p2,p3⟩:=List.pairwise_append.1 hl;have hxb:c x b<0:=by have:=h.flip b x;omega
   refine⟨List.pairwise_append.2 ⟨p1,List.pairwise_cons.2 ⟨λy hy=>?_,p2⟩,λa ha y hy=>?_⟩,λy=>?_⟩
   .rcases yN.1 hy with e'|e'
    .rw [e'];exact hxb
    .exact h.trans x b y hxb ((List.pairwise_cons.1 p2).1 y e')
   .rcases yN.1 hy with e'|e'
    .rw [e'];exact ht a ha
    .exact p3 a ha y e'
   .rw [<-e];simp only[Yo,yN];constructor
    .rintro (h|h|h|h)
     .exact Or.inl (Or.inl h)
     .exact Or.inr h
     .exact Or.inl (Or.inr (Or.inl h))
     .exact Or.inl (Or.inr (Or.inr h))
    .rintro ((h|h|h)|h)
     .exact Or.inl h
     .exact Or.inr (Or.inr (Or.inl h))
     .exact Or.inr (Or.inr (Or.inr h))
     .exact Or.inr (Or.inl h)
def jhe(c:α->α->Int)(l:List α):List α:=l.foldl (jje c) []
theorem jjs(h:Law3 c)(l:List α):Asc c (jhe c l)/\ ∀y,y∈jhe c l↔y∈l:=by
 have key:∀(l m:List α),Asc c m->Asc c (l.foldl (jje c) m)/\ ∀y,y∈l.foldl (jje c) m↔y∈m\/y∈l:=by
  intro l;induction l with
  |nil=>intro m hm;exact⟨hm,λy=>by simp⟩
  |cons x l ih=>
   intro m hm;obtain⟨g1,g2⟩:=jmV h hm x;obtain⟨k1,k2⟩:=ih _ g1;refine⟨k1,λy=>?_⟩;rw[List.foldl_cons,k2,g2,yN,or_assoc]
 obtain⟨g1,g2⟩:=key l [] List.Pairwise.nil;exact⟨g1,λy=>by rw[jhe,g2];simp⟩
theorem jCH(h:Law3 c){eq:α->α->Bool}(he:∀a b,eq a b=true↔a=b){l s:List α}(hs:s.Pairwise λa b=>¬c b a<0)(hm:∀x,x∈s↔x∈l):jmN eq s=jhe c l:=by
 obtain⟨g1,g2⟩:=jqO h he hs;obtain⟨k1,k2⟩:=jjs h l;exact jsc h g1 k1 λx=>by rw[g2,k2,hm]
end
theorem jEL{α β γ:Type}{f:γ->α}{g:γ->β}{c:α->α->Int}{d:β->β->Int}(hc:Law3 c)(hd:Law3 d)(hi:∀x y,f x=f y->g x=g y->x=y):Law3 λx y:γ=>if c (f x) (f y)≠0 then c (f x) (f y)else d (g x) (g y):=by
 refine⟨λa b=>?_,λa b=>?_,λa b e=>?_⟩
 .show (if c (f a) (f b)≠0 then c (f a) (f b)else d (g a) (g b))=0↔_;by_cases h:c (f a) (f b)=0
  .rw [ko (λh'=>h' h),hd.zero];exact⟨λh2=>hi a b ((hc.zero _ _).1 h) h2,λh2=>by rw[h2]⟩
  .rw [jc6 h];exact⟨λh2=>absurd h2 h,λh2=>by rw[h2]at h;exact absurd ((hc.zero _ _).2 rfl) h⟩
 .show (if c (f b) (f a)≠0 then c (f b) (f a)else d (g b) (g a)) = -(if c (f a) (f b)≠0 then c (f a) (f b)else d (g a) (g b));rw[hc.flip (f a) (f b),hd.flip (g a) (g b)];by_cases h:c (f a) (f b)=0
  .rw [ko (by omega),ko (by omega)]
  .rw [jc6 (by omega),jc6 (by omega)]
 .show (if c (f a) (f b)≠0 then c (f a) (f b)else d (g a) (g b))<0->(if c (f b) (f e)≠0 then c (f b) (f e)else d (g b) (g e))<0->(if c (f a) (f e)≠0 then c (f a) (f e)else d (g a) (g e))<0;by_cases h1:c (f a) (f b)=0
  .have e1:=(hc.zero _ _).1 h1;rw[ko (λh'=>h' h1),e1];by_cases h2:c (f b) (f e)=0
   .rw [ko (λh'=>h' h2),ko (λh'=>h' h2)];exact hd.trans _ _ _
   .rw [jc6 h2,jc6 h2];exact λ_ h=>h
  .rw [jc6 h1];by_cases h2:c (f b) (f e)=0
   .have e2:=(hc.zero _ _).1 h2;rw[ko (λh'=>h' h2),<-e2,jc6 h1];exact λh _=>h
   .rw [jc6 h2];intro h3 h4;have:=hc.trans _ _ _ h3 h4;rw[jc6 (by omega)];exact this
def jgY(x y:Xb):Int:=if sLt x y then -1 else if x=y then 0 else 1
theorem jja:Law3 jgY:=by
 have irr:=jlM;have asy:∀x y,sLt x y=true->sLt y x=true->False:=λx y h1 h2=>by
  rw[jjF,Q5]at h1 h2;exact absurd (List.lt_trans h1 h2) (List.lt_irrefl _)
 have tot:∀x y,x=y\/sLt x y=true\/sLt y x=true:=λx y=>by
  rw[jjF,jjF,Q5,Q5];rcases Classical.em (x<y)with h|h
  .exact Or.inr (Or.inl h)
  rcases Classical.em (y<x)with h'|h'
  .exact Or.inr (Or.inr h')
  .exact Or.inl (List.le_antisymm (List.not_lt.1 h') (List.not_lt.1 h))
 have tr:∀x y z,sLt x y=true->sLt y z=true->sLt x z=true:=λx y z h1 h2=>by
  rw[jjF,Q5]at *;exact List.lt_trans h1 h2
 have neg:∀x y,jgY x y<0↔sLt x y=true:=λx y=>by
  unfold jgY;cases h:sLt x y with
  |true=>simp
  |false=>
   rw[ko Bool.false_ne_true];split<;>simp
 refine⟨λa b=>?_,λa b=>?_,λa b d h1 h2=>(neg _ _).2 (tr _ _ _ ((neg _ _).1 h1) ((neg _ _).1 h2))⟩
 .unfold jgY;cases h:sLt a b with
  |true=>rw[jc6 rfl];exact⟨λh'=>by omega,λe=>by rw[e,irr]at h;cases h⟩
  |false=>
   rw[ko Bool.false_ne_true];by_cases e:a=b
   .rw [jc6 e];exact⟨λ_=>e,λ_=>rfl⟩
   .rw [ko e];exact⟨λh'=>by omega,λh'=>absurd h' e⟩
 .unfold jgY;rcases tot a b with e|e|e
  .subst e;rw[irr,ko Bool.false_ne_true,jc6 rfl];rfl
  .have h2:sLt b a=false:=by
    cases h:sLt b a with
    |false=>rfl
    |true=>exact(asy _ _ e h).elim
   have hne:¬b=a:=λh=>by rw[h,irr]at e;cases e
   rw[e,h2,ko Bool.false_ne_true,ko hne,jc6 rfl];rfl
  .have h2:sLt a b=false:=by
    cases h:sLt a b with
    |false=>rfl
    |true=>exact(asy _ _ e h).elim
   have hne:¬a=b:=λh=>by rw[h,irr]at e;cases e
   rw[e,h2,ko Bool.false_ne_true,ko hne,jc6 rfl]
def jgZ(x y:Nat):Int:=if x<y then -1 else if y<x then 1 else 0
theorem jld:Law3 jgZ:=by
 refine⟨λa b=>?_,λa b=>?_,λa b d=>?_⟩<;>unfold jgZ
 .split
  .omega
  .split<;>omega
 .split<;>split<;>(try split)<;>omega
 .intro h1 h2;by_cases h:a<b
  .by_cases h3:b<d
   .rw [jc6 (by omega)];omega
   .rw [ko h3]at h2;split at h2<;>omega
  .rw [ko h]at h1;split at h1<;>omega
def vF(n:Xb):Nat:=if jdc n then 0 else 1
abbrev Key:=Nat×(Xb×Nat)
def cK(x y:Key):Int:=if jgZ x.1 y.1≠0 then jgZ x.1 y.1 else if jgY x.2.1 y.2.1≠0 then jgY x.2.1 y.2.1 else jgZ x.2.2 y.2.2
theorem jkC:Law3 cK:=by
 have h2:Law3 λx y:Xb×Nat=>if jgY x.1 y.1≠0 then jgY x.1 y.1 else jgZ x.2 y.2:=jEL (f:=Prod.fst) (g:=Prod.snd) jja jld λx y h1 h2=>Prod.ext h1 h2;exact jEL (f:=Prod.fst) (g:=Prod.snd) jld h2 λx y h1 h2=>Prod.ext h1 h2
def jhI(t:T):Key:=(vF t.name,(t.name,t.args.length))
mutual
def jhy(a b:T):Int:=
 match a with
 |.mk n us=>if cK (jhI (.mk n us)) (jhI b)≠0 then cK (jhI (.mk n us)) (jhI b)else jhg us b.args
termination_by structural a
def jhg(xs bs:Xg):Int:=
 match xs with
 | []=>0
 |a::xs=>(match bs with| []=>0|b::bs=>if jhy a b≠0 then jhy a b else jhg xs bs)
termination_by structural xs
end
theorem jjR(a b:T):jhy a b=if cK (jhI a) (jhI b)≠0 then cK (jhI a) (jhI b)else jhg a.args b.args:=by cases a;rfl
theorem jpy{a b:T}(h:jhI a=jhI b):a.name=b.name/\a.args.length=b.args.length:=by
 unfold jhI at h;simp only[Yl]at h;exact h.2
theorem jFn{a b:T}(h1:a.name=b.name)(h2:a.args=b.args):a=b:=by
 cases a;cases b;simp only[T.name,T.args]at h1 h2;rw[h1,h2]
theorem jD6:∀{xs bs:Xg},(∀u∈xs,∀v,jhy u v=0↔u=v)->xs.length=bs.length->(jhg xs bs=0↔xs=bs)
 | [],[],_,_=>by simp[jhg]
 | [],_::_,_,h=>by cases h
 |_::_,[],_,h=>by cases h
 |a::xs,b::bs,h,hl=>by
  rw[jhg];have ih:=jD6 (xs:=xs) (bs:=bs) (λu hu=>h u (by simp[hu])) (Nat.succ.inj hl);by_cases h0:jhy a b=0
  .rw [ko (λh'=>h' h0),ih,(h a (by simp) b).1 h0];simp
  .rw [jc6 h0];exact⟨λh'=>absurd h' h0,λe=>by rw[j8]at e;exact(h a (by simp) b).2 e.1⟩
theorem jDk:∀{xs bs:Xg},(∀u∈xs,∀v,jhy v u = -(jhy u v))->xs.length=bs.length->jhg bs xs = -(jhg xs bs)
 | [],[],_,_=>by simp[jhg]
 | [],_::_,_,h=>by cases h
 |_::_,[],_,h=>by cases h
 |a::xs,b::bs,h,hl=>by
  rw[jhg,jhg,h a (by simp) b,jDk (xs:=xs) (bs:=bs) (λu hu=>h u (by simp[hu])) (Nat.succ.inj hl)];by_cases h0:jhy a b=0
  .rw [ko (by omega),ko (by omega)]
  .rw [jc6 (by omega),jc6 (by omega)]
theorem jBi(z:∀u v:T,jhy u v=0↔u=v):∀{xs bs ds:Xg},(∀u∈xs,∀v w,jhy u v<0->jhy v w<0->jhy u w<0)->xs.length=bs.length->bs.length=ds.length->jhg xs bs<0->jhg bs ds<0->jhg xs ds<0
 | [],_,_,_,_,_,h1,_=>by simp[jhg]at h1
 |a::xs,[],_,_,h,_,_,_=>by cases h
 |a::xs,b::bs,[],_,_,h,_,_=>by cases h
 |a::xs,b::bs,d::ds,h,hl,hl2,h1,h2=>by
  rw[jhg]at h1 h2⊢;by_cases c1:jhy a b=0
  .have e1:=(z a b).1 c1;rw[ko (λh'=>h' c1)]at h1;rw[e1];by_cases c2:jhy b d=0
   .rw [ko (λh'=>h' c2)]at h2;rw[ko (λh'=>h' c2)];exact jBi z (λu hu=>h u (by simp[hu])) (Nat.succ.inj hl) (Nat.succ.inj hl2) h1 h2
   .rw [jc6 c2]at h2;rw[jc6 c2];exact h2
  .rw [jc6 c1]at h1;by_cases c2:jhy b d=0
   .rw [<-(z b d).1 c2,jc6 c1];exact h1
   .rw [jc6 c2]at h2;have:=h a (by simp) b d h1 h2;rw[jc6 (by omega)];exact this
theorem jy9:Law3 jhy:=by
 have z:∀a b:T,jhy a b=0↔a=b:=by
  refine T.ind λa ih b=>?_;rw[jjR];by_cases h:cK (jhI a) (jhI b)=0
  .have hk:=(jkC.zero _ _).1 h;obtain⟨h1,h2⟩:=jpy hk;rw[ko (λh'=>h' h),jD6 ih h2];exact⟨λe=>jFn h1 e,λe=>by rw[e]⟩
  .rw [jc6 h];exact⟨λh'=>absurd h' h,λe=>by rw[e]at h;exact absurd ((jkC.zero _ _).2 rfl) h⟩
 refine⟨z,?_,?_⟩
 .refine T.ind λa ih b=>?_;rw[jjR,jjR a b,jkC.flip (jhI a) (jhI b)];by_cases h:cK (jhI a) (jhI b)=0
  .obtain ⟨_,h2⟩:=jpy ((jkC.zero _ _).1 h);rw[ko (by omega),ko (by omega),jDk ih h2]
  .rw [jc6 (by omega),jc6 (by omega)]
 .refine T.ind λa ih b d h1 h2=>?_;rw[jjR]at h1 h2⊢;by_cases c1:cK (jhI a) (jhI b)=0
  .have e1:=(jkC.zero _ _).1 c1;rw[ko (λh'=>h' c1)]at h1;rw[e1];by_cases c2:cK (jhI b) (jhI d)=0
   .have e2:=(jkC.zero _ _).1 c2;rw[ko (λh'=>h' c2)]at h2;rw[ko (λh'=>h' c2)];exact jBi z ih (jpy e1).2 (jpy e2).2 h1 h2
   .rw [jc6 c2]at h2;rw[jc6 c2];exact h2
  .rw [jc6 c1]at h1;by_cases c2:cK (jhI b) (jhI d)=0
   .rw [<-(jkC.zero _ _).1 c2,jc6 c1];exact h1
   .rw [jc6 c2]at h2;have:=jkC.trans _ _ _ h1 h2;rw[jc6 (by omega)];exact this
def upN:Xb->Bool
 | []=>false
 |c::_=>upc c
mutual
def val(M:Xb->Xi->Int)(e:Xb->Int):T->Int
 |.mk n us=>if us.isEmpty && upN n then e n else M n (jC7 M e us)
def jC7(M:Xb->Xi->Int)(e:Xb->Int):Xg->Xi
 | []=>[]
 |t::ts=>val M e t::jC7 M e ts
end
theorem juS(M:Xb->Xi->Int)(e:Xb->Int):∀ts:Xg,jC7 M e ts=ts.map (val M e)
 | []=>rfl
 |t::ts=>by rw[jC7,juS M e ts,j5]
theorem jlB(M:Xb->Xi->Int)(e:Xb->Int)(t:T):val M e t=if t.args.isEmpty && upN t.name then e t.name else M t.name (t.args.map (val M e)):=by
 obtain⟨n,us⟩:=t;rw[val,juS];rfl
theorem joR{n:Xb}(h:jdc n=true):upN n=true:=by
 cases n with
 |nil=>cases h
 |cons c r=>simp only[jdc,Yn]at h;exact h.1
theorem jkQ{n:Xb}(h:jhu n=true):upN n=false:=by
 cases n with
 |nil=>rfl
 |cons c r=>
  simp only[jhu,Yn]at h;have h:=h.1;show upc c=false;cases hu:upc c with
  |false=>rfl
  |true=>
   simp only[upc,jlX,inB,Yn,Q5]at h hu;omega
theorem jnJ{t:T}(h:okT t=true)(hv:jdc t.name=false):jhu t.name=true:=by
 rw[jhp,hv,ko Bool.false_ne_true,Yn]at h;exact h.1
section
variable{M:Xb->Xi->Int}
theorem jlS{e:Xb->Int}{t:T}(h:okT t=true)(hv:jdc t.name=true):val M e t=e t.name:=by
 rw[jlB,jjK h hv,joR hv];rfl
theorem jj2{e:Xb->Int}{t:T}(h:upN t.name=false):val M e t=M t.name (t.args.map (val M e)):=by
 rw[jlB,h,Bool.and_false,ko Bool.false_ne_true]
theorem jsR(u:jem)(e:Xb->Int):∀t:T,okT t=true->val M e (sub u t)=val M (λx=>val M e (jiQ u x)) t:=by
 refine T.ind λt ih=>?_;intro ht;cases hv:jdc t.name with
 |true=>rw[jlS ht hv,ji6 hv]
 |false=>
  have hs:=jkQ (jnJ ht hv);rw[jj2 hs,jiO hv,jj2 (t:= .mk t.name (t.args.map (sub u))) hs];show M t.name ((t.args.map (sub u)).map (val M e))=_;rw[jbx];congr 1;exact List.map_congr_left λa ha=>ih a ha (jgW ht a ha)
theorem jrt{e e':Xb->Int} :∀t:T,okT t=true->(∀x∈jgi t,e x=e' x)->val M e t=val M e' t:=by
 refine T.ind λt ih=>?_;intro ht h;rw[jh0]at h;cases hv:jdc t.name with
 |true=>
  rw[jlS ht hv,jlS ht hv];rw[hv,jc6 rfl]at h;exact h _ (by simp)
 |false=>
  have hs:=jkQ (jnJ ht hv);rw[jj2 hs,jj2 hs];rw[hv,ko Bool.false_ne_true]at h;congr 1;refine List.map_congr_left λa ha=>ih a ha (jgW ht a ha) λx hx=>h x ?_;have:∀us:Xg,a∈us->x∈jgR us:=by
   intro us;induction us with
   |nil=>intro h;cases h
   |cons v vs ih=>
    intro h;rw[jgR];rcases yN.1 h with rfl|h
    .exact jbv _ hx
    .exact JL _ (ih h)
  exact this _ ha
def Ext(m m':jem):Prop:=∀x r,look m x=some r->look m' x=some r
theorem Ext.refl(m:jem):Ext m m:=λ_ _ h=>h
theorem Ext.trans{a b c:jem}(h:Ext a b)(h':Ext b c):Ext a c:=λx r hx=>h' x r (h x r hx)
variable{good:Int->Prop}
theorem jqj(hM:∀n vs,good (M n vs)){e:Xb->Int}(he:∀x,good (e x))(t:T):good (val M e t):=by
 rw[jlB];split
 .exact he _
 .exact hM _ _
def jIC(M:Xb->Xi->Int)(good:Int->Prop)(rs:Xg):Prop:=∀r∈rs,∀e:Xb->Int,(∀x,good (e x))->val M e (jk1 r)=val M e (jk3 r)
end
def dec(n:Nat):Nat->Nat->Xf
 |0,_=>[]
 |l+1,k=>k % n::dec n l (k / n)
def enc(n:Nat):Xf->Nat
 | []=>0
 |v::vs=>v+n*enc n vs
theorem jzn{n:Nat}(hn:1<=n):∀vs:Xf,(∀v∈vs,v<n)->enc n vs<n ^ vs.length
 | [],_=>by simp[enc]
 |v::vs,h=>by
  have h1:=h v (by simp);have h2:=jzn hn vs λw hw=>h w (by simp[hw]);rw[enc,yv,Nat.pow_succ,Nat.mul_comm (n ^ vs.length) n];have:n*(enc n vs+1)<=n*n ^ vs.length:=Nat.mul_le_mul_left n h2;rw[Nat.mul_add]at this;omega
theorem jwE{n:Nat}(hn:1<=n):∀vs:Xf,(∀v∈vs,v<n)->dec n vs.length (enc n vs)=vs
 | [],_=>rfl
 |v::vs,h=>by
  have h1:=h v (by simp);have h2:=jwE hn vs λw hw=>h w (by simp[hw]);rw[yv,dec,enc,Nat.add_mul_mod_self_left,Nat.mod_eq_of_lt h1,Nat.add_mul_div_left _ _ (by omega),Nat.div_eq_of_lt h1,jfO,h2]
def vnA(l:Xa)(n:Xb):Xa:=if l.contains n then l else l++[n]
mutual
def vn(l:Xa):T->Xa
 |.mk n us=>if us.isEmpty && upN n then vnA l n else vnL l us
def vnL(l:Xa):Xg->Xa
 | []=>l
 |t::ts=>vnL (vn l t) ts
end
theorem jxu(l:Xa)(t:T):vn l t=if t.args.isEmpty && upN t.name then vnA l t.name else vnL l t.args:=by cases t;rfl
def VIn(S:Xa)(t:T):Prop:=∀x∈jgi t,x∈S
theorem jyy{S l:Xa}{n:Xb}(hl:l.Nodup)(hS:∀x∈l,x∈S)(hn:n∈S):(vnA l n).Nodup/\(∀x∈vnA l n,x∈S)/\(∀x∈l,x∈vnA l n)/\n∈vnA l n:=by
 unfold vnA;split
 .rename_i h;exact⟨hl,hS,λ_ h=>h,List.contains_iff_mem.1 h⟩
 .rename_i h;have h:n ∉ l:=λhh=>h (List.contains_iff_mem.2 hh);refine⟨?_,λx hx=>?_,λx hx=>jbv _ hx,by simp⟩
  .rw [jfP];exact⟨hl,by simp,λa ha b hb=>by simp only[jU]at hb;subst hb;exact λe=>h (e ▸ ha)⟩
  .rcases Yo.1 hx with hx|hx
   .exact hS x hx
   .simp only[jU]at hx;exact hx ▸ hn
theorem jBr{S:Xa} :∀(t:T),okT t=true->VIn S t-> ∀l:Xa,l.Nodup->(∀x∈l,x∈S)->(vn l t).Nodup/\(∀x∈vn l t,x∈S)/\(∀x∈l,x∈vn l t)/\ ∀x∈jgi t,x∈vn l t:=by
 refine T.ind λt ih=>?_;intro ht hV l hl hS;rw[jxu];unfold VIn at hV;rw[jh0]at hV⊢;cases hv:jdc t.name with
 |true=>
  rw[hv,jc6 rfl]at hV;rw[jjK ht hv,joR hv,jc6 rfl];obtain⟨q1,q2,q3,q4⟩:=jyy hl hS (hV t.name (by simp));exact⟨q1,q2,q3,λx hx=>by simp only[jU]at hx;exact hx ▸ q4⟩
 |false=>
  rw[hv,ko Bool.false_ne_true]at hV;rw[jkQ (jnJ ht hv),Bool.and_false,ko Bool.false_ne_true];have key:∀us:Xg,(∀u∈us,u∈t.args)->(∀x∈jgR us,x∈S)-> ∀l:Xa,l.Nodup->(∀x∈l,x∈S)->(vnL l us).Nodup/\(∀x∈vnL l us,x∈S)/\(∀x∈l,x∈vnL l us)/\ ∀x∈jgR us,x∈vnL l us:=by
   intro us;induction us with
   |nil=>intro _ _ l hl hS;exact⟨hl,hS,λ_ h=>h,λx h=>by cases h⟩
   |cons u us ih2=>
    intro hu hV l hl hS;rw[jgR]at hV;obtain⟨q1,q2,q3,q4⟩:=ih u (hu u (by simp)) (jgW ht u (hu u (by simp))) (λx hx=>hV x (jbv _ hx)) l hl hS;obtain⟨p1,p2,p3,p4⟩:=ih2 (λv hv=>hu v (by simp[hv])) (λx hx=>hV x (JL _ hx)) (vn l u) q1 q2;rw[vnL,jgR];refine⟨p1,p2,λx hx=>p3 x (q3 x hx),λx hx=>?_⟩;rcases Yo.1 hx with hx|hx
    .exact p3 x (q4 x hx)
    .exact p4 x hx
  exact key t.args (λ_ h=>h) hV l hl hS
abbrev Lt:=Bool×T
def fl(b:Bool):Nat:=if b then 1 else 0
def cmpL(a b:Lt):Int:=if jhy a.2 b.2≠0 then jhy a.2 b.2 else jgZ (fl a.1) (fl b.1)
theorem jhX:Law3 cmpL:=jEL (f:=Prod.snd) (g:=λl:Lt=>fl l.1) jy9 jld λx y h1 h2=>by
 obtain⟨p,t⟩:=x;obtain⟨q,u⟩:=y;have h1:t=u:=h1;have h2:fl p=fl q:=h2;subst h1;cases p<;>cases q<;>first|rfl|(simp[fl]at h2)
abbrev Cls:=List Lt
def jtl:Cls->Bool
 |a::b::l=>decide (cmpL a b<0) && jtl (b::l)
 |_=>true
theorem jtm:∀c:Cls,jtl c=true↔Asc cmpL c
 | []=>by simp[jtl,Asc]
 | [a]=>by simp[jtl,Asc]
 |a::b::l=>by
  rw[jtl,Yn,Q5,jtm (b::l)];unfold Asc;constructor
  .rintro ⟨h1,h2⟩;refine List.pairwise_cons.2 ⟨λx hx=>?_,h2⟩;rcases yN.1 hx with e|e
   .rw [e];exact h1
   .exact jhX.trans a b x h1 ((List.pairwise_cons.1 h2).1 x e)
  .intro h;exact⟨(List.pairwise_cons.1 h).1 b (by simp),(List.pairwise_cons.1 h).2⟩
mutual
def jiG(l:Xa):T->Xa
 |.mk n us=>if jdc n then vnA l n else jlt l us
def jlt(l:Xa):Xg->Xa
 | []=>l
 |t::ts=>jlt (jiG l t) ts
end
theorem jsA(l:Xa)(t:T):jiG l t=if jdc t.name then vnA l t.name else jlt l t.args:=by cases t;rfl
def jgg(c:Cls):Xa:=c.foldl (λl x=>jiG l x.2) []
def jic(p:UInt8)(i:Nat):Xb:=p::Lib.decDigits i
def jih(c:Cls):Bool:=decide (jgg c=(List.range (jgg c).length).map (jic 88))
mutual
def jfW(f:Xb->Xb):T->T
 |.mk n us=>if jdc n then .mk (f n) []else .mk n (jiy f us)
def jiy(f:Xb->Xb):Xg->Xg
 | []=>[]
 |t::ts=>jfW f t::jiy f ts
end
theorem jp8(f:Xb->Xb):∀ts:Xg,jiy f ts=ts.map (jfW f)
 | []=>rfl
 |t::ts=>by rw[jiy,jp8 f ts,j5]
theorem jjn(f:Xb->Xb)(t:T):jfW f t=if jdc t.name then .mk (f t.name) []else .mk t.name (t.args.map (jfW f)):=by
 cases t;rw[jfW,jp8];rfl
def jfV(p:UInt8)(l:Xa)(n:Xb):Xb:=match l.findIdx? (λx=>decide (x=n))with|some i=>jic p i|none=>n
def renC(p:UInt8)(c:Cls):Cls:=jhe cmpL (c.map λl=>(l.1,jfW (jfV p (jgg c)) l.2))
def normF:Nat->Cls->Cls
 |0,c=>c
 |k+1,c=>if jih c then c else normF k (renC 88 c)
def normC(c:Cls):Cls:=normF 10 c
theorem jh1(t:T)(h:okT t=true\/t.name=[61]):G 58 [tm t]=some (vb (jdc t.name),[]):=by
 rcases h with h|h
 .exact jll t h
 .have e1:=jmi 61;have hx:YM (sv t.name) (vi 0)=some (vy ((61:UInt8).toNat:Int)):=by rw[h];exact jhO
  have hv:jdc t.name=upc 61:=by rw[h];decide
  rw[g58,hv];simp only[evz,hx,e1]
theorem jkE(x y:Xb):jgY x y=if sLt x y then -1 else if sLt y x then 1 else 0:=by
 have hf:=jja.flip x y;cases h1:sLt x y with
 |true=>unfold jgY;rw[h1];rfl
 |false=>
  rw[ko Bool.false_ne_true];cases h2:sLt y x with
  |true=>
   have:jgY y x = -1:=by unfold jgY;rw[h2,jc6 rfl]
   rw[jc6 rfl];omega
  |false=>
   rw[ko Bool.false_ne_true];have a1:jgY x y=0\/jgY x y=1:=by
    unfold jgY;rw[h1,ko Bool.false_ne_true];split<;>simp
   have a2:jgY y x=0\/jgY y x=1:=by
    unfold jgY;rw[h2,ko Bool.false_ne_true];split<;>simp
   omega
theorem jnM(b:Bool)(x y:Xb):jeH .gtr b (sv x) (sv y)=some (vb (sLt y x)):=by
 show some (vb (!(sLt x y || decide (x=y))))=_;by_cases e:x=y
 .subst e;rw[jlM,decide_eq_true rfl];rfl
 have h1:=jkE x y;have h3:=jja.flip x y;have h4:=jkE y x;rw[decide_eq_false e,Bool.or_false];cases a:sLt x y<;>cases c:sLt y x<;>rw[a,c]at h1 h4
 .exact absurd ((jja.zero x y).1 h1) e
 .rfl
 .rfl
 .have h1:jgY x y = -1:=h1;have h4:jgY y x = -1:=h4;omega
theorem jlf(x y:Xb):G 143 [sv x,sv y]=some (vi (jgY x y),[]):=by
 have n1:G 187 [sv x]=some (vb false,[]):=by rw[jF1];simp only[evz]
 have n2:G 187 [sv y]=some (vb false,[]):=by rw[jF1];simp only[evz]
 rw[jHx,jkE];cases h1:sLt x y<;>cases h2:sLt y x<;>simp only[evz,n1,n2,jnM,h1,h2]
theorem jnW(x y:Nat):G 131 [vi (x:Nat),vi (y:Nat)]=some (vi (jgZ x y),[]):=by
 have n1:G 176 [vi (x:Nat)]=some (vb false,[]):=by rw[jF0];simp only[evz]
 have n2:G 176 [vi (y:Nat)]=some (vb false,[]):=by rw[jF0];simp only[evz]
 rw[jHo];unfold jgZ;by_cases h1:x<y
 .have h1':((x:Nat):Int)<((y:Nat):Int):=by omega
  rw[jc6 h1];simp only[evz,n1,n2,h1']
 .have h1':¬((x:Nat):Int)<((y:Nat):Int):=by omega
  rw[ko h1];by_cases h2:y<x
  .have h2':((y:Nat):Int)<((x:Nat):Int):=by omega
   rw[jc6 h2];simp only[evz,n1,n2,h1',h2']
  .have h2':¬((y:Nat):Int)<((x:Nat):Int):=by omega
   rw[ko h2];simp only[evz,n1,n2,h1',h2']
theorem jAA(a b:Int):G 129 [.sl 1 [[vi a],[vi b]]]=some (vi (if a≠0 then a else b),[]):=by
 have i0:jda 1 (.sl 1 [[vi a],[vi b]]) (vi 0)=some (.elt [vi a] 0):=rfl;have i1:jda 1 (.sl 1 [[vi a],[vi b]]) (vi 1)=some (.elt [vi b] 0):=rfl;have ll:jd7 (.sl 1 [[vi a],[vi b]])=some (vi 2):=rfl;have c0:jeH .add false (vi 0) (vi 1)=some (vi 1):=by rw[jiM,jeY (by decide) (by decide)];rfl
 have c1:jeH .add false (vi 1) (vi 1)=some (vi 2):=by rw[jiM,jeY (by decide) (by decide)];rfl
 have z0:(0:Int)<2:=by decide
 have z1:(1:Int)<2:=by decide
 have z2:¬(2:Int)<2:=by decide
 generalize A.sl 1 [[vi a],[vi b]]=X at *;have k2:joX (vi 0) X (vi 2) (vi 2)=some (vi 0,[]):=by rw[jvu];simp only[evz,z2]
 have k1:joX (vi 0) X (vi 2) (vi 1)=some (vi b,[]):=by
  rw[jvu];by_cases hb:b=0
  .simp only[evz,z1,i1,hb,c1,k2]
  .simp only[evz,z1,i1,hb]
 rw[jHm];simp only[cev];rw[ll,Option.bind_some,jvu];by_cases ha:a=0
 .rw [ko (λh=>h ha)];simp only[evz,z0,i0,ha,c0,k1]
 .rw [jc6 ha];simp only[evz,z0,i0,ha]
def Rx'(t:T):Prop:=okT t=true\/(t.name=[61]/\ ∀u∈t.args,okT u=true)
theorem Rx'.args{t:T}(h:Rx' t):∀u∈t.args,Rx' u:=λu hu=>Or.inl (by
 rcases h with h|h
 .exact jgW h u hu
 .exact h.2 u hu)
theorem jnx(ts us:Xg)(hl:ts.length<=1048576)(hlen:ts.length=us.length)(ih:∀t∈ts,∀u∈us,G 130 [tm t,tm u]=some (vi (jhy t u),[])) :
  ∀i,i<=ts.length->jrY (tms ts) (tms us) (.fn 130 []) (tms ts) (vi (ts.length:Nat)) (vi (i:Nat))=some (vi (jhg (ts.drop i) (us.drop i)),[]):=by
 refine upto ?_ ?_
 .rw [jz1,List.drop_length,jhg];simp only[evz,hlen]
 .intro i hi ih';have hlt:(i:Int)<((ts.length:Nat):Int):=by omega
  have hi2:i<us.length:=by omega
  have hge:¬((us.length:Nat):Int)<=(i:Int):=by omega
  have h5:=jef hi (by show ts.length<=9223372036854775807;omega)
  have e1:=ih ts[i] (jcF _) us[i] (jcF _);rw[jz1,jdb hi,jdb hi2,jhg];by_cases hc:jhy ts[i] us[i]=0
  .rw [ko (λh=>h hc)];rw[hc]at e1;simp only[evz,hlt,jaa hi,jaa hi2,ja1,hge,jir (f:=130) rfl,ZE,e1,h5,ih']
  .rw [jc6 hc];generalize jhy ts[i] us[i]=c at *;simp only[evz,hlt,jaa hi,jaa hi2,ja1,hge,jir (f:=130) rfl,ZE,e1,hc]
theorem jok:∀a:T,Rx' a->Tz a-> ∀b:T,Rx' b->Tz b->G 130 [tm a,tm b]=some (vi (jhy a b),[]):=by
 refine T.ind λa ih ha za b hb zb=>?_;have va:=jh1 a (ha.imp id λh=>h.1);have vb':=jh1 b (hb.imp id λh=>h.1);have hz:=za;unfold Tz at hz;rw[jgG]at hz;have e1:=jlf a.name b.name;have e2:=jnW a.args.length b.args.length;have e3:=jAA (jgY a.name b.name) (jgZ a.args.length b.args.length);have e4:a.args.length=b.args.length->G 175 [tms a.args,tms b.args,.fn 130 []]=some (vi (jhg a.args b.args),[]):=λhlen=>by
  have key:=jnx a.args b.args (by omega) hlen (λt ht u hu=>ih t ht (ha.args t ht) (za.args t ht) u (hb.args u hu) (zb.args u hu)) 0 (Nat.zero_le _);simp only[Int.natCast_zero,List.drop_zero]at key;rw[jHV];simp only[evz,key]
 rw[jHn,jjR];unfold cK jhI vF;cases h1:jdc a.name<;>cases h2:jdc b.name<;>rw[h1]at va<;>rw[h2]at vb'
 .show _=some (vi (if(if jgZ 1 1≠0 then jgZ 1 1 else if jgY a.name b.name≠0 then jgY a.name b.name else jgZ a.args.length b.args.length)≠0 then(if jgZ 1 1≠0 then jgZ 1 1 else if jgY a.name b.name≠0 then jgY a.name b.name else jgZ a.args.length b.args.length)else jhg a.args b.args),[]);rw[ko (show ¬jgZ 1 1≠0 by decide)];by_cases hz0:(if jgY a.name b.name≠0 then jgY a.name b.name else jgZ a.args.length b.args.length)=0
  .have hlen:a.args.length=b.args.length:=by
    split at hz0
    .rename_i h;exact absurd hz0 h
    .exact (jld.zero _ _).1 hz0
   rw[ko (λh=>h hz0)];rw[hz0]at e3;simp only[evz,va,vb',e1,e2,e3,e4 hlen]
  .rw [jc6 hz0];generalize (if jgY a.name b.name≠0 then jgY a.name b.name else jgZ a.args.length b.args.length)=c at *;simp only[evz,va,vb',e1,e2,e3,hz0]
 .have:(if(if jgZ 1 0≠0 then jgZ 1 0 else if jgY a.name b.name≠0 then jgY a.name b.name else jgZ a.args.length b.args.length)≠0 then(if jgZ 1 0≠0 then jgZ 1 0 else if jgY a.name b.name≠0 then jgY a.name b.name else jgZ a.args.length b.args.length)else jhg a.args b.args)=1:=by
   rw[jc6 (show jgZ 1 0≠0 by decide),jc6 (show jgZ 1 0≠0 by decide)];rfl
  show _=some (vi (if(if jgZ 1 0≠0 then jgZ 1 0 else if jgY a.name b.name≠0 then jgY a.name b.name else jgZ a.args.length b.args.length)≠0 then(if jgZ 1 0≠0 then jgZ 1 0 else if jgY a.name b.name≠0 then jgY a.name b.name else jgZ a.args.length b.args.length)else jhg a.args b.args),[]);rw[this];simp only[evz,va,vb']
 .have:(if(if jgZ 0 1≠0 then jgZ 0 1 else if jgY a.name b.name≠0 then jgY a.name b.name else jgZ a.args.length b.args.length)≠0 then(if jgZ 0 1≠0 then jgZ 0 1 else if jgY a.name b.name≠0 then jgY a.name b.name else jgZ a.args.length b.args.length)else jhg a.args b.args) = -1:=by
   rw[jc6 (show jgZ 0 1≠0 by decide),jc6 (show jgZ 0 1≠0 by decide)];rfl
  show _=some (vi (if(if jgZ 0 1≠0 then jgZ 0 1 else if jgY a.name b.name≠0 then jgY a.name b.name else jgZ a.args.length b.args.length)≠0 then(if jgZ 0 1≠0 then jgZ 0 1 else if jgY a.name b.name≠0 then jgY a.name b.name else jgZ a.args.length b.args.length)else jhg a.args b.args),[]);rw[this];simp only[evz,va,vb']
 .show _=some (vi (if(if jgZ 0 0≠0 then jgZ 0 0 else if jgY a.name b.name≠0 then jgY a.name b.name else jgZ a.args.length b.args.length)≠0 then(if jgZ 0 0≠0 then jgZ 0 0 else if jgY a.name b.name≠0 then jgY a.name b.name else jgZ a.args.length b.args.length)else jhg a.args b.args),[]);rw[ko (show ¬jgZ 0 0≠0 by decide)];by_cases hz0:(if jgY a.name b.name≠0 then jgY a.name b.name else jgZ a.args.length b.args.length)=0
  .have hlen:a.args.length=b.args.length:=by
    split at hz0
    .rename_i h;exact absurd hz0 h
    .exact (jld.zero _ _).1 hz0
   rw[ko (λh=>h hz0)];rw[hz0]at e3;simp only[evz,va,vb',e1,e2,e3,e4 hlen]
  .rw [jc6 hz0];generalize (if jgY a.name b.name≠0 then jgY a.name b.name else jgZ a.args.length b.args.length)=c at *;simp only[evz,va,vb',e1,e2,e3,hz0]
theorem jxT(x y:Xb):G 125 [sv x,sv y]=some (vi (jgY x y),[]):=by
 rw[jHj,jkE];cases h1:sLt x y<;>cases h2:sLt y x<;>simp only[evz,jnM,h1,h2]
theorem jpB(n m:Xb)(ts us:Xg)(hl:ts.length<=1048576)(hlen:ts.length=us.length)(ih:∀t∈ts,∀u∈us,G 85 [tm t,tm u]=some (vi (jhy t u),[])) :
  ∀i,i<=ts.length->jtc (vi (i:Nat)) (sv n) (tms ts) (sv m) (tms us)=some (vi (jhg (ts.drop i) (us.drop i)),[]):=by
 refine upto ?_ ?_
 .rw [jDO,List.drop_length,jhg];simp only[evz]
 .intro i hi ih';have hlt:(i:Int)<((ts.length:Nat):Int):=by omega
  have hi2:i<us.length:=by omega
  have h5:=jef hi (by show ts.length<=9223372036854775807;omega)
  have e1:=ih ts[i] (jcF _) us[i] (jcF _);rw[jDO,jdb hi,jdb hi2,jhg];by_cases hc:jhy ts[i] us[i]=0
  .rw [ko (λh=>h hc)];rw[hc]at e1;simp only[evz,hlt,jaa hi,jaa hi2,ja1,e1,h5,ih']
  .rw [jc6 hc];generalize jhy ts[i] us[i]=c at *;simp only[evz,hlt,jaa hi,jaa hi2,ja1,e1,hc]
theorem jvi(a b:T):jhy a b=if jdc a.name=true/\jdc b.name=false then -1 else if jdc a.name=false/\jdc b.name=true then 1 else if ¬a.name=b.name then jgY a.name b.name else if a.args.length<b.args.length then -1 else if b.args.length<a.args.length then 1 else jhg a.args b.args:=by
 rw[jjR];unfold cK jhI vF;have hn:=jja.zero a.name b.name;have hzr:jgZ 1 1=0/\jgZ 0 0=0/\jgZ 0 1 = -1/\jgZ 1 0=1:=by decide
 obtain⟨z1,z2,z3,z4⟩:=hzr;have hz:jgZ a.args.length b.args.length=if a.args.length<b.args.length then -1 else if b.args.length<a.args.length then 1 else 0:=rfl;cases h1:jdc a.name<;>cases h2:jdc b.name<;>simp only[JG,zv,if_false,z1,z2,z3,z4,hz]
 all_goals have hs:=(jja.zero b.name b.name).2 rfl
 all_goals by_cases e:a.name=b.name
 all_goals by_cases l1:a.args.length<b.args.length
 all_goals by_cases l2:b.args.length<a.args.length
 all_goals first
  |(simp[e,hs,l1,l2];done)
  |(have ne:¬jgY a.name b.name=0:=λh=>e (hn.1 h);simp only[ne_eq,e,ne,not_false_eq_true,not_true_eq_false,zv,if_false,and_true,and_false,reduceCtorEq];done)
  |simp[l1,l2]
theorem jsj:∀a:T,Tz a-> ∀b:T,Tz b->G 85 [tm a,tm b]=some (vi (jhy a b),[]):=by
 refine T.ind λa ih za b zb=>?_;have va:=jg8 a.name (((jgM a).1 za.wf).1);have vb':=jg8 b.name (((jgM b).1 zb.wf).1);have hz:=za;unfold Tz at hz;rw[jgG]at hz;have e1:=jxT a.name b.name;have e4:a.args.length=b.args.length->jtc (vi 0) (sv a.name) (tms a.args) (sv b.name) (tms b.args)=some (vi (jhg a.args b.args),[]):=λhlen=>by
  have key:=jpB a.name b.name a.args b.args (by omega) hlen (λt ht u hu=>ih t ht (za.args t ht) u (zb.args u hu)) 0 (Nat.zero_le _);simp only[Int.natCast_zero,List.drop_zero]at key;exact key
 rw[g85,jvi];have main:∀p:Bool,G 44 [sv a.name]=some (vb p,[])->G 44 [sv b.name]=some (vb p,[])->_:=λp _ _=>trivial;clear main;cases h1:jdc a.name<;>cases h2:jdc b.name<;>rw[h1]at va<;>rw[h2]at vb'
 all_goals by_cases en:a.name=b.name
 all_goals try (exfalso;rw[en,h2]at h1;cases h1;done)
 all_goals by_cases l1:a.args.length<b.args.length
 all_goals by_cases l2:b.args.length<a.args.length
 all_goals have l1':(((a.args.length:Nat):Int)<((b.args.length:Nat):Int))=(a.args.length<b.args.length):=propext (by omega)
 all_goals have l2':(((b.args.length:Nat):Int)<((a.args.length:Nat):Int))=(b.args.length<a.args.length):=propext (by omega)
 all_goals first
  |(have e4:=e4 (by omega);rw[en]at e4;simp only[evz,vb',en,l1,l2,l1',l2',e4,and_true,and_false];done)
  |(simp only[evz,va,vb',e1,en,l1,l2,l1',l2',and_true,and_false];done)
  |(simp only[evz,va,vb',e1,en,l1,l2,l1',l2',and_true,true_and,and_false,false_and])
abbrev ltc(l:Lt):Xd:=[vb l.1,sv l.2.name,.sl 2 (l.2.args.map jdd)]
abbrev ltm(l:Lt):A:= .agg [vb l.1,sv l.2.name,.sl 2 (l.2.args.map jdd)]
theorem jwK(b:Bool):G 132 [vb b]=some (vi (fl b:Nat),[]):=by
 rw[jHp];cases b<;>simp only[evz]<;>rfl
theorem jjx(a b:Lt)(ha:Rx' a.2)(za:Tz a.2)(hb:Rx' b.2)(zb:Tz b.2):G 93 [ltm a,ltm b]=some (vi (cmpL a b),[]):=by
 have e1:=jok a.2 ha za b.2 hb zb;have e2:=jwK a.1;have e3:=jwK b.1;have e4:=jnW (fl a.1) (fl b.1);have e5:=jAA (jhy a.2 b.2) (jgZ (fl a.1) (fl b.1));have e6:cmpL a b=if jhy a.2 b.2≠0 then jhy a.2 b.2 else jgZ (fl a.1) (fl b.1):=rfl;rw[g93,e6];generalize (if jhy a.2 b.2≠0 then jhy a.2 b.2 else jgZ (fl a.1) (fl b.1))=c at *;generalize jgZ (fl a.1) (fl b.1)=d at *;generalize jhy a.2 b.2=f at *;simp only[evz,e1,e2,e3,e4,e5]
theorem jj7(a b:Lt)(za:Tz a.2)(zb:Tz b.2):G 41 [ltm a,ltm b]=some (vi (cmpL a b),[]):=by
 have e1:=jsj a.2 za b.2 zb;have e6:cmpL a b=if jhy a.2 b.2≠0 then jhy a.2 b.2 else jgZ (fl a.1) (fl b.1):=rfl;rw[g41,e6];by_cases h:jhy a.2 b.2=0
 .rw [ko (λh'=>h' h)];rw[h]at e1;obtain⟨p,t⟩:=a;obtain⟨q,u⟩:=b;have d1:jgZ (fl false) (fl true) = -1:=by decide
  have d2:jgZ (fl true) (fl false)=1:=by decide
  have d3:jgZ (fl true) (fl true)=0:=by decide
  have d4:jgZ (fl false) (fl false)=0:=by decide
  cases p<;>cases q<;>simp only[evz,e1,d1,d2,d3,d4]
 .rw [jc6 h];generalize jhy a.2 b.2=c at *;simp only[evz,e1,h]
def jij(t:T):Bool:=if t.name=[61]then jqs t else jhu t.name && jgQ t
theorem jqW(t:T)(hw:twf t)(hs:tsz t<=1048576):G 48 [tm t]=some (vb (jij t),[]):=by
 unfold jij;by_cases he:t.name=[61]
 .rw [jc6 he];exact jpA t hw hs he
 .have e1:=jjW t.name ((jgM t).1 hw).1;have e2:=jiX t hw hs;rw[ko he,g48];cases h:jhu t.name<;>rw[h]at e1
  .simp only[evz,he,e1,Bool.false_and]
  .simp only[evz,he,e1,e2,Bool.true_and]
theorem jpu(t:T)(hw:twf t)(hs:tsz t<=1048576):G 128 [tm t]=some (vb (jij t),[]):=by
 unfold jij;by_cases he:t.name=[61]
 .rw [jc6 he];exact jon t hw hs he
 .have e0:=jit t;rw[decide_eq_false he]at e0;have e1:=jlj t.name ((jgM t).1 hw).1;have e2:=jlk t hw hs;rw[ko he,jFW];cases h:jhu t.name<;>rw[h]at e1
  .simp only[evz,e0,e1,Bool.false_and]
  .simp only[evz,e0,e1,e2,Bool.true_and]
abbrev cm(c:Cls):A:= .agg [.sl 3 (c.map ltc)]
def jg1(c:Cls):Bool:=c.all (λl=>jij l.2) && (jtl c && decide (c.length<=8))
theorem jwA{t:T}(h:jij t=true):Rx' t:=by
 unfold jij at h;by_cases he:t.name=[61]
 .rw [jc6 he]at h;unfold jqs at h;rw[Yn,Q5,Yn,Yn]at h;refine Or.inr ⟨he,λu hu=>?_⟩;obtain⟨n,us⟩:=t
  match us,h.1 with
  | [a,b],_=>
   have hu:u ∈ [a,b]:=hu;simp only[yN,jby,or_false]at hu;rcases hu with rfl|rfl
   .exact h.2.2.1
   .exact h.2.2.2
 .rw [ko he,Yn]at h;have h2:=h.2;unfold jgQ at h2;rw[Yn]at h2;exact Or.inl h2.2
theorem jmW(l:Lt)(hz:Tz l.2):G 92 [ltm l]=some (vb (jij l.2),[]):=by
 have e:=jpu l.2 hz.wf hz;rw[g92];simp only[evz,e]
def jk4:Option Lt->Cls->Bool
 |_,[]=>true
 |none,l::r=>jij l.2 && jk4 (some l) r
 |some p,l::r=>jij l.2 && (decide (cmpL p l<0) && jk4 (some l) r)
theorem jrs:∀(p:Lt)(c:Cls),jk4 (some p) c=(c.all (λl=>jij l.2) && jtl (p::c))
 |p,[]=>rfl
 |p,l::r=>by
  rw[jk4,jrs l r,jbq,jtl];cases jij l.2<;>cases decide (cmpL p l<0)<;>simp
theorem jrr(c:Cls):(jk4 none c && decide (c.length<=8))=jg1 c:=by
 unfold jg1;cases c with
 |nil=>rfl
 |cons l r=>rw[jk4,jrs,jbq];cases jij l.2<;>simp[Bool.and_assoc]
theorem jgV(l:Lt):jar 3 (.elt (ltc l) 0)=some (ltm l):=rfl
theorem juT(c:Cls)(hl:c.length<=1048576)(hz:∀l∈c,Tz l.2):∀i,i<=c.length-> ∀p:Option Lt,(p=none↔i=0)->(∀q,p=some q->jij q.2=true/\ ∃h:i-1<c.length,c[i-1]=q)->
  jwj (.sl 3 (c.map ltc)) (vi (c.length:Nat)) (vi (i:Nat)) (.sl 3 (c.map ltc))=some (vb (jk4 p (c.drop i) && decide (c.length<=8)),[]):=by
 refine upto ?_ ?_
 .intro p _ _;have e:decide (((c.length:Nat):Int)<=8)=decide (c.length<=8):=by congr 1;exact propext (by omega)
  rw[jDA,List.drop_length,<-e];have:jk4 p []=true:=by cases p<;>rfl
  rw[this];simp only[evz,Bool.true_and]
 .intro i hi ih p hp hq;have hlt:(i:Int)<((c.length:Nat):Int):=by omega
  have h5:=jef hi (by show c.length<=9223372036854775807;omega)
  have e1:=jmW c[i] (hz _ (jcF hi));have ix:=jaa (k:=3) (f:=ltc) hi;have e1:G 92 [.agg [vb c[i].1,sv c[i].2.name,tms c[i].2.args]]=some (vb (jij c[i].2),[]):=e1;rw[jDA,jdb hi];cases ha:jij c[i].2 with
  |false=>
   rw[ha]at e1;have:jk4 p (c[i]::c.drop (i+1))=false:=by cases p<;>rw[jk4,ha]<;>rfl
   rw[this];simp only[evz,hlt,ix,jgV,e1,Bool.false_and]
  |true=>
   rw[ha]at e1;have ih1:=ih (some c[i]) (by simp) (λq hq=>by cases hq;exact⟨ha,by simpa using hi,rfl⟩);cases p with
   |none=>
    have h0:i=0:=hp.1 rfl;have hg:¬(0:Int)<(i:Int):=by omega
    rw[jk4,ha,Bool.true_and,<-ih1];simp only[evz,hlt,ix,jgV,e1,hg,h5]
   |some q=>
    obtain⟨hqa,hq1,hq2⟩:=hq q rfl;have hi0:¬i=0:=λh=>by have:=hp.2 h;cases this
    have hg:(0:Int)<(i:Int):=by omega
    have c1:ck ((i:Int)-1)=some (vi ((i-1:Nat):Int)):=by rw[show(i:Int)-1=((i-1:Nat):Int) by omega,jeY (by omega) (by omega)]
    have ix2:=jaa (k:=3) (f:=ltc) hq1;rw[hq2]at ix2;have hqz:Tz q.2:=by rw[<-hq2];exact hz _ (jcF hq1)
    have e2:=jjx q c[i] (jwA hqa) hqz (jwA ha) (hz _ (jcF hi));have e2:G 93 [.agg [vb q.1,sv q.2.name,tms q.2.args],.agg [vb c[i].1,sv c[i].2.name,tms c[i].2.args]]=some (vi (cmpL q c[i]),[]):=e2;rw[jk4,ha,Bool.true_and];by_cases hc:cmpL q c[i]<0
    .have hc':¬(0:Int)<=cmpL q c[i]:=by omega
     rw[decide_eq_true hc,Bool.true_and,<-ih1];generalize cmpL q c[i]=d at *;simp only[evz,hlt,ix,jgV,e1,hg,c1,ix2,e2,hc',h5]
    .have hc':(0:Int)<=cmpL q c[i]:=by omega
     rw[decide_eq_false hc];generalize cmpL q c[i]=d at *;simp only[evz,hlt,ix,jgV,e1,hg,c1,ix2,e2,hc',Bool.false_and]
theorem jkj(c:Cls)(hl:c.length<=1048576)(hz:∀l∈c,Tz l.2):G 51 [cm c]=some (vb (jg1 c),[]):=by
 have key:=juT c hl hz 0 (Nat.zero_le _) none (by simp) (λq h=>by cases h);rw[List.drop_zero,jrr]at key;simp only[Int.natCast_zero]at key;rw[g51];simp only[evz,key]
theorem juU(c:Cls)(hl:c.length<=1048576)(hz:∀l∈c,Tz l.2):∀i,i<=c.length-> ∀p:Option Lt,(p=none↔i=0)->(∀q,p=some q-> ∃h:i-1<c.length,c[i-1]=q)->
  jwe (vi (i:Nat)) (.sl 3 (c.map ltc))=some (vb (jk4 p (c.drop i)),[]):=by
 refine upto ?_ ?_
 .intro p _ _;rw[jDr,List.drop_length];have:jk4 p []=true:=by cases p<;>rfl
  rw[this];simp only[evz]
 .intro i hi ih p hp hq;have hlt:(i:Int)<((c.length:Nat):Int):=by omega
  have h5:=jef hi (by show c.length<=9223372036854775807;omega)
  have e1:=jqW c[i].2 (hz _ (jcF hi)).wf (hz _ (jcF hi));have ix:=jaa (k:=3) (f:=ltc) hi;have ad:jeG (.elt (ltc c[i]) 0) 1=some (.elt (ltc c[i]) 1):=rfl;have ld:jar 2 (.elt (ltc c[i]) 1)=some (tm c[i].2):=rfl;rw[jDr,jdb hi];cases ha:jij c[i].2 with
  |false=>
   rw[ha]at e1;have:jk4 p (c[i]::c.drop (i+1))=false:=by cases p<;>rw[jk4,ha]<;>rfl
   rw[this];simp only[evz,hlt,ix,ad,ld,e1]
  |true=>
   rw[ha]at e1;have ih1:=ih (some c[i]) (by simp) (λq hq=>by cases hq;exact⟨by simpa using hi,rfl⟩);cases p with
   |none=>
    have h0:i=0:=hp.1 rfl;have hg:¬(0:Int)<(i:Int):=by omega
    rw[jk4,ha,Bool.true_and,<-ih1];simp only[evz,hlt,ix,ad,ld,e1,hg,h5]
   |some q=>
    obtain⟨hq1,hq2⟩:=hq q rfl;have hi0:¬i=0:=λh=>by have:=hp.2 h;cases this
    have hg:(0:Int)<(i:Int):=by omega
    have c1:ck ((i:Int)-1)=some (vi ((i-1:Nat):Int)):=by rw[show(i:Int)-1=((i-1:Nat):Int) by omega,jeY (by omega) (by omega)]
    have ix2:=jaa (k:=3) (f:=ltc) hq1;rw[hq2]at ix2;have hqz:Tz q.2:=by rw[<-hq2];exact hz _ (jcF hq1)
    have e2:=jj7 q c[i] hqz (hz _ (jcF hi));rw[jk4,ha,Bool.true_and];by_cases hc:cmpL q c[i]<0
    .have hc':¬(0:Int)<=cmpL q c[i]:=by omega
     rw[decide_eq_true hc,Bool.true_and,<-ih1];generalize cmpL q c[i]=d at *;simp only[evz,hlt,ix,ad,ld,jgV,e1,hg,c1,ix2,e2,hc',h5]
    .have hc':(0:Int)<=cmpL q c[i]:=by omega
     rw[decide_eq_false hc];generalize cmpL q c[i]=d at *;simp only[evz,hlt,ix,ad,ld,jgV,e1,hg,c1,ix2,e2,hc',Bool.false_and]
theorem jiB(c:Cls)(hl:c.length<=1048576)(hz:∀l∈c,Tz l.2):G 21 [cm c]=some (vb (jg1 c),[]):=by
 have key:=juU c hl hz 0 (Nat.zero_le _) none (by simp) (λq h=>by cases h);rw[List.drop_zero]at key;simp only[Int.natCast_zero]at key;rw[g21,<-jrr];by_cases h8:c.length<=8
 .have h8':¬(8:Int)<((c.length:Nat):Int):=by omega
  rw[decide_eq_true h8,Bool.and_true];simp only[evz,h8',key]
 .have h8':(8:Int)<((c.length:Nat):Int):=by omega
  rw[decide_eq_false h8,Bool.and_false];simp only[evz,h8']
theorem jFa(l:Xa)(n:Xb):(vnA l n).length<=l.length+1:=by
 unfold vnA;split
 .omega
 .simp
theorem jDX{n:Nat}(h:n<=4194304):jcK n 16=true:=by
 unfold jcK;exact decide_eq_true ⟨by omega,by omega⟩
theorem jkK:∀(t:T)(l:Xa),(jiG l t).length<=l.length+nodes t:=by
 refine T.ind λt ih l=>?_;have hn:=jfj t;rw[jsA];split
 .have:=jFa l t.name;omega
 .have key:∀us:Xg,(∀u∈us,u∈t.args)-> ∀l:Xa,(jlt l us).length<=l.length+jdi us:=by
   intro us;induction us with
   |nil=>intro _ l;simp[jlt,jdi]
   |cons u us ih2=>
    intro hu l;have h1:=ih u (hu u (by simp)) l;have h2:=ih2 (λv hv=>hu v (by simp[hv])) (jiG l u);rw[jlt,jdi];omega
  have:=key t.args (λ_ h=>h) l;omega
theorem jpE:∀t:T,Tz t-> ∀l:Xa,l.length+nodes t<=4000000->jv9 (tm t) (l.map cs)=some (.top,[.sl 1 ((jiG l t).map cs)]):=by
 refine T.ind λt ih ht l hl=>?_;have hz:=ht;unfold Tz at hz;rw[jgG]at hz;have hn:=jfj t;have e0:=jg8 t.name (((jgM t).1 ht.wf).1);have e1:=jsm l t.name (by show l.length<=9223372036854775807;omega);have key:=upto (P:=λi=>∀l:Xa,l.length+jdi (t.args.drop i)<=4000000->joG (vi (i:Nat)) (sv t.name) (tms t.args) (l.map cs)=some (.top,[.sl 1 ((jlt l (t.args.drop i)).map cs)])) (n:=t.args.length) ?_ ?_ 0 (Nat.zero_le _);rotate_left
 .intro l _;rw[jsw,List.drop_length];simp only[evz];rfl
 .intro i hi ihi l hl;have hlt:(i:Int)<((t.args.length:Nat):Int):=by omega
  have h5:=jef hi (by show t.args.length<=9223372036854775807;omega)
  rw[jdb hi,jdi]at hl;have q:=ih t.args[i] (jcF hi) (ht.args _ (jcF hi)) l (by omega);have hln:=jkK t.args[i] l;have q2:=ihi (jiG l t.args[i]) (by omega);rw[jsw,jdb hi,jlt];generalize jiG l t.args[i]=l' at *;have hr:hR 1 (A.top,[.sl 1 (l'.map cs)]) 0=some (l'.map cs):=rfl;simp only[evz,hlt,jaa hi,ja1,q,hr,h5,q2]
 have e2:joF (vi 0) (sv t.name) (tms t.args) (l.map cs)=some (.top,[.sl 1 ((jlt l t.args).map cs)]):=by
  have key:=key l (by rw[List.drop_zero];omega)
  rw[List.drop_zero]at key;have:joF (vi 0) (sv t.name) (tms t.args) (l.map cs)=joG (vi 0) (sv t.name) (tms t.args) (l.map cs):=by rw[jCG,jsw]
  rw[this];exact key
 rw[jFO,jsA];cases hv:jdc t.name<;>rw[hv]at e0
 .rw [ko Bool.false_ne_true];simp only[evz,e0,e2]
 .rw [jc6 rfl];unfold vnA;cases hc:l.contains t.name<;>rw[hc]at e1
  .have f:jcK (l.length+1) 16=true:=jDX (by omega);rw[ko Bool.false_ne_true,jv];simp only[evz,e0,e1,f];rfl
  .rw [jc6 rfl];simp only[evz,e0,e1]
theorem jpI(c:Cls)(hl:c.length<=1000)(hz:∀l∈c,Tz l.2)(hs:∀l∈c,nodes l.2<=1000):G 40 [cm c]=some (.sl 1 ((jgg c).map cs),[]):=by
 have key:=upto (P:=λi=>∀l:Xa,l.length<=1000*i->jo8 (vi (i:Nat)) (.sl 3 (c.map ltc)) (l.map cs)=some (.sl 1 (((c.drop i).foldl (λl x=>jiG l x.2) l).map cs),[])) (n:=c.length) ?_ ?_ 0 (Nat.zero_le _)
 .have key:=key [] (by simp);rw[List.drop_zero]at key;have key:jo8 (vi 0) (.sl 3 (c.map ltc)) []=some (.sl 1 ((jgg c).map cs),[]):=key;rw[g40];simp only[evz,key]
 .intro l _;rw[jwU,List.drop_length];simp only[evz];rfl
 .intro i hi ih l hll;have hlt:(i:Int)<((c.length:Nat):Int):=by omega
  have h5:=jef hi (by show c.length<=9223372036854775807;omega)
  have ix:=jaa (k:=3) (f:=ltc) hi;have ad:jeG (.elt (ltc c[i]) 0) 1=some (.elt (ltc c[i]) 1):=rfl;have ld:jar 2 (.elt (ltc c[i]) 1)=some (tm c[i].2):=rfl;have hn:=hs _ (jcF hi);have q:=jpE c[i].2 (hz _ (jcF hi)) l (by omega);have hol:=jkK c[i].2 l;have q2:=ih (jiG l c[i].2) (by omega);rw[jwU,jdb hi,List.foldl_cons];generalize jiG l c[i].2=l' at *;have hr:hR 1 (A.top,[.sl 1 (l'.map cs)]) 0=some (l'.map cs):=rfl;simp only[evz,hlt,ix,ad,ld,q,hr,h5,q2]
theorem jtr:∀t:T,Rx' t->Tz t-> ∀l:Xa,l.length+nodes t<=4000000->jk5 (sv t.name) (tms t.args) (l.map cs)=some (.top,[.sl 1 ((jiG l t).map cs)]):=by
 refine T.ind λt ih hk ht l hl=>?_;have hz:=ht;unfold Tz at hz;rw[jgG]at hz;have hn:=jfj t;have e0:=jh1 t (hk.imp id λh=>h.1);have e1:=ji5 l t.name (by show l.length<=9223372036854775807;omega);have key:=upto (P:=λi=>∀l:Xa,l.length+jdi (t.args.drop i)<=4000000->jk9 (tms t.args) (vi (t.args.length:Nat)) (vi (i:Nat)) (l.map cs)=some (.top,[.sl 1 ((jlt l (t.args.drop i)).map cs)])) (n:=t.args.length) ?_ ?_ 0 (Nat.zero_le _);rotate_left
 .intro l _;rw[jln,List.drop_length];simp only[evz];rfl
 .intro i hi ihi l hl;have hlt:(i:Int)<((t.args.length:Nat):Int):=by omega
  have h5:=jef hi (by show t.args.length<=9223372036854775807;omega)
  rw[jdb hi,jdi]at hl;have q:=ih t.args[i] (jcF hi) (hk.args _ (jcF hi)) (ht.args _ (jcF hi)) l (by omega);have hln:=jkK t.args[i] l;have q2:=ihi (jiG l t.args[i]) (by omega);rw[jln,jdb hi,jlt];generalize jiG l t.args[i]=l' at *;have hr:hR 1 (A.top,[.sl 1 (l'.map cs)]) 0=some (l'.map cs):=rfl;simp only[evz,hlt,jaa hi,ja1,q,hr,h5,q2]
 have e2:jk8 (tms t.args) (vi (t.args.length:Nat)) (vi 0) (l.map cs)=some (.top,[.sl 1 ((jlt l t.args).map cs)]):=by
  have key:=key l (by rw[List.drop_zero];omega)
  rw[List.drop_zero]at key;have:∀n:A,jk8 (tms t.args) n (vi 0) (l.map cs)=jk9 (tms t.args) n (vi 0) (l.map cs):=λn=>by rw[jtL,jln]
  rw[this];exact key
 rw[jy4,jsA];cases hv:jdc t.name<;>rw[hv]at e0
 .rw [ko Bool.false_ne_true];by_cases hl0:((t.args.length:Nat):Int)=0
  .simp only[evz,hl0,e0];rw[hl0]at e2;exact e2
  .simp only[evz,hl0,e2]
 .have ha:t.args=[]:=by
   rcases hk with h|h
   .exact jjK h hv
   .rw [h.1]at hv;exact absurd hv (by decide)
  have hl0:((t.args.length:Nat):Int)=0:=by rw[ha];rfl
  rw[jc6 rfl];unfold vnA;cases hc:l.contains t.name<;>rw[hc]at e1
  .have f:jcK (l.length+1) 16=true:=jDX (by omega);rw[ko Bool.false_ne_true,jv];simp only[evz,hl0,e0,e1,f];rfl
  .rw [jc6 rfl];simp only[evz,hl0,e0,e1]
theorem jpR(c:Cls)(hl:c.length<=1000)(hk:∀l∈c,Rx' l.2)(hz:∀l∈c,Tz l.2)(hs:∀l∈c,nodes l.2<=1000):G 94 [cm c]=some (.sl 1 ((jgg c).map cs),[]):=by
 have key:=upto (P:=λi=>∀l:Xa,l.length<=1000*i->jtd (.sl 3 (c.map ltc)) (vi (c.length:Nat)) (vi (i:Nat)) (l.map cs)=some (.sl 1 (((c.drop i).foldl (λl x=>jiG l x.2) l).map cs),[])) (n:=c.length) ?_ ?_ 0 (Nat.zero_le _)
 .have key:=key [] (by simp);rw[List.drop_zero]at key;have key:jtd (.sl 3 (c.map ltc)) (vi (c.length:Nat)) (vi 0) []=some (.sl 1 ((jgg c).map cs),[]):=key;rw[g94];simp only[evz,key]
 .intro l _;rw[jDR,List.drop_length];simp only[evz];rfl
 .intro i hi ih l hll;have hlt:(i:Int)<((c.length:Nat):Int):=by omega
  have h5:=jef hi (by show c.length<=9223372036854775807;omega)
  have ix:=jaa (k:=3) (f:=ltc) hi;have hn:=hs _ (jcF hi);have q:=jtr c[i].2 (hk _ (jcF hi)) (hz _ (jcF hi)) l (by omega);have hol:=jkK c[i].2 l;have q2:=ih (jiG l c[i].2) (by omega);rw[jDR,jdb hi,List.foldl_cons];generalize jiG l c[i].2=l' at *;have hr:hR 1 (A.top,[.sl 1 (l'.map cs)]) 0=some (l'.map cs):=rfl;simp only[evz,hlt,ix,jgV,q,hr,h5,q2]
abbrev Eqs:=List (T×T)
def jtn:jem->Bool
 | []=>true
 | [_]=>true
 |p::q::s=>sLt p.1 q.1 && jtn (q::s)
noncomputable def je0(s:jem):Bool:=decide (s.length<=12) && (jtn s && s.all λq=>jdc q.1 && (jgQ q.2 && !dq q.2.name q.1))
def jg2(s u:jem):jem:=jmq (s.map (λq=>(q.1,sub u q.2))++u.filter λq=>(look s q.1).isNone)
def jep(x y:T):Xb×T:=if jdc x.name=false\/(jdc y.name=true/\sLt x.name y.name=true)then(y.name,x)else(x.name,y)
noncomputable def jhH(s:jem)(l r:T)(rest:Eqs):Option (jem×Eqs):=
 if jfs (sub s l)=false\/jfs (sub s r)=false then none
 else if dq (sub s l) (sub s r)then some (s,rest)
 else if jdc (sub s l).name=true\/jdc (sub s r).name=true then
  (if(jep (sub s l) (sub s r)).1∈jgi (jep (sub s l) (sub s r)).2\/je0 [jep (sub s l) (sub s r)]=false\/je0 (jg2 s [jep (sub s l) (sub s r)])=false then none else some (jg2 s [jep (sub s l) (sub s r)],rest))
 else if(sub s l).name=(sub s r).name/\(sub s l).args.length=(sub s r).args.length then some (s,(sub s l).args.zip (sub s r).args++rest)else none
noncomputable def jgX:Nat->jem->Eqs->Option (Option jem)
 |_,s,[]=>some (some s)
 |0,_,_::_=>none
 |k+1,s,p::rest=>(match jhH s p.1 p.2 rest with|none=>some none|some q=>jgX k q.1 q.2)
def Exx(t:T):Prop:=(okT t=true\/(t.name=[61]/\t.args.length=2/\ ∀u∈t.args,okT u=true))/\nodes t<=31
def IdS(s:jem):Prop:=∀q∈s,∀x∈jgi q.2,look s x=none
def ji9(s:jem)(es:Eqs):Prop:=je0 s=true/\IdS s/\ ∀p∈es,Exx p.1/\Exx p.2
theorem jfR{s:jem}(h:je0 s=true):s.length<=12/\jtn s=true/\ ∀q∈s,jdc q.1=true/\jgQ q.2=true/\q.2.name≠q.1:=by
 unfold je0 at h;rw[Yn,Q5,Yn,jE]at h;refine⟨h.1,h.2.1,λq hq=>?_⟩;have:=h.2.2 q hq;rw[Yn,Yn,JK]at this;exact⟨this.1,this.2.1,λe=>by rw[e,joH]at this;exact absurd this.2.2 (by decide)⟩
theorem jlU{t:T}(h:jgQ t=true):okT t=true:=by
 unfold jgQ at h;rw[Yn]at h;exact h.2
theorem vsv{t:T}(h:jdc t.name=true):jgi t=[t.name]:=by rw[jh0,h,jc6 rfl]
theorem vsf{t:T}(h:jdc t.name=false):jgi t=jgR t.args:=by rw[jh0,h,ko Bool.false_ne_true]
theorem jhG{x:Xb} :∀{ts:Xg},x∈jgR ts↔ ∃t∈ts,x∈jgi t
 | []=>by simp[jgR]
 |t::ts=>by rw[jgR,Yo,jhG];simp
theorem jjL{s:jem}(hs:IdS s):∀(w:T){x:Xb},x∈jgi (sub s w)->look s x=none:=by
 refine T.ind (p:=λw=>∀{x:Xb},x∈jgi (sub s w)->look s x=none) λw ih=>?_;intro x hx;cases hv:jdc w.name with
 |true=>
  rw[ji6 hv,jiQ]at hx;cases hl:look s w.name with
  |some r=>rw[hl]at hx;exact hs _ (jjY hl) x hx
  |none=>
   rw[hl]at hx;have hx:x∈jgi (.mk w.name []):=hx;rw[vsv (t:= .mk w.name []) hv,jU]at hx;rw[hx];exact hl
 |false=>
  rw[jiO hv,vsf (t:= .mk w.name (w.args.map (sub s))) hv,jhG]at hx;obtain⟨t,ht,hx⟩:=hx;obtain⟨a,ha,rfl⟩:=jN.1 ht;exact ih a ha hx
theorem jrw{n:Xb}{t:T} :∀(w:T){x:Xb},x∈jgi (sub [(n,t)] w)->(x∈jgi w/\x≠n)\/x∈jgi t:=by
 refine T.ind (p:=λw=>∀{x:Xb},x∈jgi (sub [(n,t)] w)->(x∈jgi w/\x≠n)\/x∈jgi t) λw ih=>?_;intro x hx;cases hv:jdc w.name with
 |true=>
  rw[ji6 hv,jiQ]at hx;by_cases hn:n=w.name
  .have:look [(n,t)] w.name=some t:=by rw[look,jc6 hn]
   rw[this]at hx;exact Or.inr hx
  .have:look [(n,t)] w.name=none:=by rw[look,ko hn,look]
   rw[this]at hx;have hx:x∈jgi (.mk w.name []):=hx;rw[vsv (t:= .mk w.name []) hv,jU]at hx;left;rw[vsv hv,hx];exact⟨by simp[T.name],λe=>hn e.symm⟩
 |false=>
  rw[jiO hv,vsf (t:= .mk w.name (w.args.map (sub [(n,t)]))) hv,jhG]at hx;obtain⟨u,hu,hx⟩:=hx;obtain⟨a,ha,rfl⟩:=jN.1 hu;rcases ih a ha hx with⟨h1,h2⟩|h
  .left;rw[vsf hv,jhG];exact⟨⟨a,ha,h1⟩,h2⟩
  .exact Or.inr h
theorem jsK{s:jem} :∀(w:T),okT w=true->(∀x∈jgi w,look s x=none)->sub s w=w:=by
 refine T.ind λw ih=>?_;intro hk h;cases hv:jdc w.name with
 |true=>
  rw[ji6 hv,jiQ,h w.name (by rw[vsv hv];simp)]
  have ha:=jjK hk hv;show T.mk w.name []=w;rw[<-ha,T.eta]
 |false=>
  rw[jiO hv];have:w.args.map (sub s)=w.args:=by
   conv=>rhs;rw[<-List.map_id w.args]
   refine List.map_congr_left λa ha=>ih a ha (jgW hk a ha) λx hx=>h x ?_;rw[vsf hv,jhG];exact⟨a,ha,hx⟩
  rw[this,T.eta]
theorem jp3{s:jem}{n:Xb}{t:T}{q:Xb×T} :q∈jj8 s n t↔q∈s\/q=(n,t):=by
 unfold jj8;have e:=List.takeWhile_append_dropWhile (p:=λp:Xb×T=>sLt p.1 n) (l:=s);constructor
 .intro h;rcases Yo.1 h with h|h
  .left;rw[<-e];exact jbv _ h
  .rcases yN.1 h with h|h
   .exact Or.inr h
   .left;rw[<-e];exact JL _ h
 .rintro (h|h)
  .rw [<-e]at h;rcases Yo.1 h with h|h
   .exact jbv _ h
   .exact JL _ (kO _ h)
  .rw [h];exact JL _ (Q1 ..)
theorem jAW(s:jem)(n:Xb)(t:T):(jj8 s n t).length=s.length+1:=by
 unfold jj8;have e:=congrArg List.length (List.takeWhile_append_dropWhile (p:=λp:Xb×T=>sLt p.1 n) (l:=s));rw[yM]at e;rw[yM,yv];omega
theorem jj0:∀(m s:jem),(∀q∈m,q.2.name≠q.1)->(m.foldl (λs p=>jjN s p.1 p.2) s).length=s.length+m.length/\ ∀q,q∈m.foldl (λs p=>jjN s p.1 p.2) s↔q∈s\/q∈m
 | [],s,_=>⟨rfl,λq=>by simp⟩
 |p::m,s,h=>by
  rw[List.foldl_cons];have e:jjN s p.1 p.2=jj8 s p.1 p.2:=ko (h p (by simp));obtain⟨h1,h2⟩:=jj0 m (jjN s p.1 p.2) λq hq=>h q (by simp[hq]);refine⟨by rw[h1,e,jAW,yv];omega,λq=>?_⟩;rw[h2,e,jp3,yN,or_assoc]
theorem jpj{s:jem}(hs:je0 s=true)(hi:IdS s){n:Xb}{t:T}(hn:jdc n=true)(hd:look s n=none)(ht:∀x∈jgi t,look s x=none)(ho:n ∉ jgi t)(htn:t.name≠n) :
  (jg2 s [(n,t)]).length=s.length+1/\IdS (jg2 s [(n,t)])/\(∀q,q∈jg2 s [(n,t)]↔(∃p∈s,q=(p.1,sub [(n,t)] p.2))\/q=(n,t))/\ ∀q∈s.map (λq=>(q.1,sub [(n,t)] q.2))++[(n,t)],q.2.name≠q.1:=by
 obtain⟨_,_,hv⟩:=jfR hs;have hf:([(n,t)]:jem).filter (λq=>(look s q.1).isNone)=[(n,t)]:=by simp[hd]
 have hname:∀q∈s.map (λq=>(q.1,sub [(n,t)] q.2))++[(n,t)],q.2.name≠q.1:=by
  intro q hq;rcases Yo.1 hq with hq|hq
  .obtain ⟨p,hp,rfl⟩:=jN.1 hq;intro e;have e:(sub [(n,t)] p.2).name=p.1:=e;have hx:p.1∈jgi (sub [(n,t)] p.2):=by rw[vsv (by rw[e];exact(hv p hp).1),e];simp
   have hk:look s p.1≠none:=λh=>jiZ.1 h p hp rfl;rcases jrw _ hx with⟨h1,_⟩|h1
   .exact hk (hi p hp _ h1)
   .exact hk (ht _ h1)
  .simp only[jU]at hq;rw[hq];exact htn
 obtain⟨f1,f2⟩:=jj0 _ [] hname;have hm:∀q,q∈jg2 s [(n,t)]↔(∃p∈s,q=(p.1,sub [(n,t)] p.2))\/q=(n,t):=by
  intro q;unfold jg2 jmq;rw[hf,f2];simp only[jby,false_or,Yo,jN,jU];constructor
  .rintro (⟨p,h1,h2⟩|h)
   .exact Or.inl ⟨p,h1,h2.symm⟩
   .exact Or.inr h
  .rintro (⟨p,h1,h2⟩|h)
   .exact Or.inl ⟨p,h1,h2.symm⟩
   .exact Or.inr h
 refine⟨?_,?_,hm,hname⟩
 .unfold jg2 jmq;rw[hf,f1,yM,jbw];simp
 .intro q hq x hx;have hxn:x≠n/\look s x=none:=by
   rcases(hm q).1 hq with⟨p,hp,rfl⟩|rfl
   .rcases jrw _ hx with⟨h1,h2⟩|h1
    .exact ⟨h2,hi p hp _ h1⟩
    .exact ⟨λe=>ho (e ▸ h1),ht _ h1⟩
   .exact ⟨λe=>ho (e ▸ hx),ht _ hx⟩
  refine jiZ.2 λp hp e=>?_;rcases(hm p).1 hp with⟨p',hp',rfl⟩|rfl
  .exact jiZ.1 hxn.2 p' hp' e
  .exact hxn.1 e.symm
def mz(s:jem):Eqs->Nat
 | []=>0
 |p::r=>nodes (sub s p.1)+nodes (sub s p.2)+mz s r
theorem jq4(s:jem):∀a b:Eqs,mz s (a++b)=mz s a+mz s b
 | [],b=>by simp[mz]
 |p::a,b=>by rw[jG,mz,mz,jq4 s a b];omega
theorem jAq{s:jem} :∀(a b:Xg),(∀u∈a,sub s u=u)->(∀u∈b,sub s u=u)->mz s (a.zip b)<=jdi a+jdi b
 | [],_,_,_=>by simp[mz]
 |_::_,[],_,_=>by simp[mz]
 |x::a,y::b,h1,h2=>by
  have:=jAq a b (λu hu=>h1 u (by simp[hu])) (λu hu=>h2 u (by simp[hu]));rw[List.zip_cons_cons,mz,h1 x (by simp),h2 y (by simp)];simp only[jdi];omega
theorem Exx.sub{s:jem}(hs:je0 s=true){t:T}(h:Exx t):okT (sub s t)=true\/((sub s t).name=[61]/\(sub s t).args.length=2/\ ∀u∈(sub s t).args,okT u=true):=by
 obtain⟨_,_,hv⟩:=jfR hs;have ho:∀q∈s,okT q.2=true:=λq hq=>(jlU (hv q hq).2.1);rcases h.1 with h|⟨h1,h2,h3⟩
 .exact Or.inl (jkO ho t h)
 .have hvn:jdc t.name=false:=by rw[h1];decide
  right;rw[jiO hvn];refine⟨h1,by show(t.args.map _).length=2;rw[jbw,h2],λu hu=>?_⟩;obtain⟨a,ha,rfl⟩:=jN.1 hu;exact jkO ho a (h3 a ha)
theorem jhc{t:T}(h:jfs t=true):nodes t<=30:=by
 simp only[jfs,Yn,Q5]at h;exact h.1
theorem jwI{t:T}(h:okT t=true\/(t.name=[61]/\t.args.length=2/\ ∀u∈t.args,okT u=true)):∀u∈t.args,okT u=true:=by
 rcases h with h|h
 .exact jgW h
 .exact h.2.2
theorem jho{s:jem}{l r:T}{rest:Eqs}(h:ji9 s ((l,r)::rest)){s':jem}{es:Eqs}(hst:jhH s l r rest=some (s',es)):ji9 s' es/\((s'=s/\mz s' es<mz s ((l,r)::rest))\/s'.length=s.length+1):=by
 obtain⟨hv,hi,he⟩:=h;obtain⟨el,er⟩:=he (l,r) (by simp);have hrest:∀p∈rest,Exx p.1/\Exx p.2:=λp hp=>he p (by simp[hp]);have xl:=el.sub hv;have xr:=er.sub hv;have nl:=jhN (sub s l);have vl:=λ{x} (hx:x∈jgi (sub s l))=>jjL hi l hx;have vr:=λ{x} (hx:x∈jgi (sub s r))=>jjL hi r hx;have hmz:mz s ((l,r)::rest)=nodes (sub s l)+nodes (sub s r)+mz s rest:=rfl;unfold jhH at hst;split at hst
 .cases hst
 rename_i hsm;have hs1:jfs (sub s l)=true:=by
  cases h:jfs (sub s l)with
  |true=>rfl
  |false=>exact absurd (Or.inl h) hsm
 have hs2:jfs (sub s r)=true:=by
  cases h:jfs (sub s r)with
  |true=>rfl
  |false=>exact absurd (Or.inr h) hsm
 split at hst
 .cases hst;exact⟨⟨hv,hi,hrest⟩,Or.inl ⟨rfl,by rw[hmz];omega⟩⟩
 split at hst
 .rename_i hvar;split at hst
  .cases hst
  rename_i hno;cases hst;have h1:(jep (sub s l) (sub s r)).1 ∉ jgi (jep (sub s l) (sub s r)).2:=λh=>hno (Or.inl h);have h2:je0 (jg2 s [jep (sub s l) (sub s r)])=true:=by
   cases h:je0 (jg2 s [jep (sub s l) (sub s r)])with
   |true=>rfl
   |false=>exact absurd (Or.inr (Or.inr h)) hno
  have h3:je0 [jep (sub s l) (sub s r)]=true:=by
   cases h:je0 [jep (sub s l) (sub s r)]with
   |true=>rfl
   |false=>exact absurd (Or.inr (Or.inl h)) hno
  have hb:look s (jep (sub s l) (sub s r)).1=none/\ ∀x∈jgi (jep (sub s l) (sub s r)).2,look s x=none:=by
   unfold jep;split
   .rename_i hc;have hy:jdc (sub s r).name=true:=by
     rcases hc with hc|hc
     .rcases hvar with h|h
      .rw [hc]at h;cases h
      .exact h
     .exact hc.1
    exact⟨vr (by rw[vsv hy];simp),λx hx=>vl hx⟩
   .rename_i hc;have hx:jdc (sub s l).name=true:=by
     cases h:jdc (sub s l).name with
     |true=>rfl
     |false=>exact absurd (Or.inl h) hc
    exact⟨vl (by rw[vsv hx];simp),λx hx=>vr hx⟩
  obtain⟨_,_,h4⟩:=jfR h3;obtain⟨k1,_,k3⟩:=h4 _ (List.mem_singleton_self _);generalize jep (sub s l) (sub s r)=p at *;obtain⟨n,t⟩:=p;obtain⟨c1,c2,_,_⟩:=jpj hv hi k1 hb.1 hb.2 h1 k3;exact⟨⟨h2,c2,hrest⟩,Or.inr c1⟩
 .rename_i hnv;split at hst
  .rename_i hnm;cases hst;have v1:jdc (sub s l).name=false:=by
    cases h:jdc (sub s l).name with
    |false=>rfl
    |true=>exact absurd (Or.inl h) hnv
   have v2:jdc (sub s r).name=false:=by
    cases h:jdc (sub s r).name with
    |false=>rfl
    |true=>exact absurd (Or.inr h) hnv
   have a1:∀u∈(sub s l).args,okT u=true/\nodes u<=31/\sub s u=u:=λu hu=>by
    have hk:=jwI xl u hu;have:=jjt hu;have:=jhc hs1;exact⟨hk,by omega,jsK u hk λx hx=>vl (by rw[vsf v1,jhG];exact⟨u,hu,hx⟩)⟩
   have a2:∀u∈(sub s r).args,okT u=true/\nodes u<=31/\sub s u=u:=λu hu=>by
    have hk:=jwI xr u hu;have:=jjt hu;have:=jhc hs2;exact⟨hk,by omega,jsK u hk λx hx=>vr (by rw[vsf v2,jhG];exact⟨u,hu,hx⟩)⟩
   refine⟨⟨hv,hi,λp hp=>?_⟩,Or.inl ⟨rfl,?_⟩⟩
   .rcases Yo.1 hp with hp|hp
    .have hm:=List.of_mem_zip (a:=p.1) (b:=p.2) hp;exact⟨⟨Or.inl (a1 _ hm.1).1,(a1 _ hm.1).2.1⟩,⟨Or.inl (a2 _ hm.2).1,(a2 _ hm.2).2.1⟩⟩
    .exact hrest p hp
   .have:=jAq (s:=s) (sub s l).args (sub s r).args (λu hu=>(a1 u hu).2.2) (λu hu=>(a2 u hu).2.2);have e1:=jfj (sub s l);have e2:=jfj (sub s r);rw[jq4,hmz];omega
  .cases hst
theorem jvU:∀(m1 m2:Nat)(s:jem)(es:Eqs),ji9 s es->13-s.length<=m1->mz s es<=m2-> ∃k res,jgX k s es=some res:=by
 intro m1;induction m1 with
 |zero=>
  intro m2 s es h h1;have:=(jfR h.1).1;omega
 |succ m1 ih1=>
  intro m2;induction m2 with
  |zero=>
   intro s es h _ h2;cases es with
   |nil=>exact⟨0,_,rfl⟩
   |cons p es=>
    have:=jhN (sub s p.1);simp only[mz]at h2;omega
  |succ m2 ih2=>
   intro s es h h1 h2;cases es with
   |nil=>exact⟨0,_,rfl⟩
   |cons p es=>
    obtain⟨l,r⟩:=p;cases hst:jhH s l r es with
    |none=>exact⟨1,none,by rw[jgX,hst]⟩
    |some q=>
     obtain⟨s',es'⟩:=q;obtain⟨hinv,hor⟩:=jho h hst;have hl:=(jfR h.1).1;rcases hor with⟨e,hlt⟩|e
     .obtain ⟨k,res,hk⟩:=ih2 s' es' hinv (by rw[e];exact h1) (by omega)
      exact⟨k+1,res,by rw[jgX,hst];exact hk⟩
     .obtain ⟨k,res,hk⟩:=ih1 (mz s' es') s' es' hinv (by omega) (jl _);exact⟨k+1,res,by rw[jgX,hst];exact hk⟩
theorem juM:∀(k:Nat)(s:jem)(es:Eqs){u:jem},ji9 s es->jgX k s es=some (some u)->je0 u=true/\IdS u:=by
 intro k;induction k with
 |zero=>
  intro s es u h hu;cases es with
  |nil=>simp only[jgX,jp]at hu;rw[<-hu];exact⟨h.1,h.2.1⟩
  |cons p es=>simp[jgX]at hu
 |succ k ih=>
  intro s es u h hu;cases es with
  |nil=>simp only[jgX,jp]at hu;rw[<-hu];exact⟨h.1,h.2.1⟩
  |cons p es=>
   obtain⟨l,r⟩:=p;rw[jgX]at hu;cases hst:jhH s l r es with
   |none=>rw[hst]at hu;simp at hu
   |some q=>
    rw[hst]at hu;exact ih q.1 q.2 (jho h hst).1 hu
def Bx(t:T):Prop:=(t.name=[61]/\t.args.length=2/\ ∀u∈t.args,okT u=true)\/(jhu t.name=true/\okT t=true)
theorem Bx.rx{t:T}(h:Bx t):Rx' t:=h.elim (λh=>Or.inr ⟨h.1,h.2.2⟩) λh=>Or.inl h.2
theorem Bx.ax{t:T}(h:Bx t):okT t=true\/(t.name=[61]/\t.args.length=2/\ ∀u∈t.args,okT u=true):=h.elim Or.inr λh=>Or.inl h.2
theorem Bx.args{t:T}(h:Bx t):∀u∈t.args,okT u=true:=h.elim (λh=>h.2.2) λh=>jgW h.2
theorem jqg{n:Xb}(h:jhu n=true):jdc n=false:=by
 cases hv:jdc n with
 |false=>rfl
 |true=>rw[jqh hv]at h;cases h
theorem Bx.nv{t:T}(h:Bx t):jdc t.name=false:=h.elim (λh=>by rw[h.1];decide) λh=>jqg h.1
theorem jFo{t:T}(h:t.args.length=2):t.args=[jkg t,jkX t]:=by
 obtain⟨n,us⟩:=t
 match us,h with
 | [a,b],_=>rfl
theorem jmI{t:T} :jij t=true↔Bx t/\jfs t=true:=by
 unfold jij Bx;by_cases he:t.name=[61]
 .rw [jc6 he];unfold jqs;rw[Yn,Yn,Yn,Q5];constructor
  .rintro ⟨h1,h2,h3,h4⟩;refine⟨Or.inl ⟨he,h1,λu hu=>?_⟩,h2⟩;rw[jFo h1]at hu;simp only[yN,jby,or_false]at hu;rcases hu with rfl|rfl
   .exact h3
   .exact h4
  .rintro ⟨h|h,h2⟩
   .obtain ⟨_,_,ma,mb⟩:=jkh h.2.1;exact⟨h.2.1,h2,h.2.2 _ ma,h.2.2 _ mb⟩
   .rw [he]at h;exact absurd h.1 (by decide)
 .rw [ko he];unfold jgQ;rw[Yn,Yn];constructor
  .rintro ⟨h1,h2,h3⟩;exact⟨Or.inr ⟨h1,h3⟩,h2⟩
  .rintro ⟨h|h,h2⟩
   .exact absurd h.1 he
   .exact ⟨h.1,h2,h.2⟩
theorem Bx.atom{t:T}(h:Bx t):jij t=jfs t:=by
 cases hs:jfs t with
 |true=>exact jmI.2 ⟨h,hs⟩
 |false=>
  cases ha:jij t with
  |false=>rfl
  |true=>rw[(jmI.1 ha).2]at hs;cases hs
theorem Bx.tsz{t:T}(h:Bx t):tsz t<=10*nodes t:=by
 rcases h with h|h
 .rw [jgG,jfj,h.1,h.2.1];have:=jw4 h.2.2;simp only[yv,jgS];omega
 .exact jnK t h.2
theorem Bx.tz{t:T}(h:Bx t)(hn:nodes t<=100000):Tz t:=by have:=h.tsz;unfold Tz;omega
theorem Bx.sub{s:jem}(hs:je0 s=true){t:T}(h:Bx t):Bx (sub s t):=by
 obtain⟨_,_,hv⟩:=jfR hs;have ho:∀q∈s,okT q.2=true:=λq hq=>jlU (hv q hq).2.1;have hn:=h.nv;rcases h with h|h
 .left;rw[jlz hn,jkq hn,jbw];refine⟨h.1,h.2.1,λu hu=>?_⟩;obtain⟨a,ha,rfl⟩:=jN.1 hu;exact jkO ho a (h.2.2 a ha)
 .right;rw[jlz hn];exact⟨h.1,jkO ho t h.2⟩
theorem jjo{s:jem}(hs:je0 s=true):∀q∈s,nodes q.2<=30:=λq hq=>by
 have:=((jfR hs).2.2 q hq).2.1;unfold jgQ at this;rw[Yn]at this;exact jhc this.1
theorem jii{s:jem}(hs:je0 s=true):∀q∈s,okT q.2=true:=λq hq=>jlU ((jfR hs).2.2 q hq).2.1
theorem jyw:je0 []=true:=by unfold je0;simp[jtn]
mutual
theorem jnP(f:Xb->Xb):∀t:T,nodes (jfW f t)<=nodes t
 |.mk n us=>by
  rw[jfW];split
  .have:=jhN (.mk n us);show 1+0<=_;omega
  .have:=jp9 f us;simp only[nodes];omega
theorem jp9(f:Xb->Xb):∀ts:Xg,jdi (jiy f ts)<=jdi ts
 | []=>jl _
 |t::ts=>by have:=jnP f t;have:=jp9 f ts;simp only[jiy,jdi];omega
end
mutual
theorem jCV(f:Xb->Xb):∀t:T,dep (jfW f t)<=dep t
 |.mk n us=>by
  rw[jfW];split
  .rw [jjz (.mk n us)];show 1+0<=_;omega
  .have:=juq f us;simp only[dep];omega
theorem juq(f:Xb->Xb):∀ts:Xg,jj4 (jiy f ts)<=jj4 ts
 | []=>jl _
 |t::ts=>by have:=jCV f t;have:=juq f ts;simp only[jiy,jj4];omega
end
theorem jlw{f:Xb->Xb}{t:T}(h:jdc t.name=false):(jfW f t).name=t.name:=by rw[jjn,h,ko Bool.false_ne_true];rfl
theorem jko{f:Xb->Xb}{t:T}(h:jdc t.name=false):(jfW f t).args=t.args.map (jfW f):=by rw[jjn,h,ko Bool.false_ne_true];rfl
theorem jA0{f:Xb->Xb}(hf:∀n,jdc n=true->jdc (f n)=true):∀t:T,okT t=true->okT (jfW f t)=true:=by
 refine T.ind λt ih h=>?_;cases hv:jdc t.name with
 |true=>rw[jjn,hv,jc6 rfl];exact jAy _ (hf _ hv)
 |false=>
  have hk:=h;rw[jhp,hv,ko Bool.false_ne_true,Yn,Yn,Q5]at h;rw[jhp,jlw hv,jko hv,hv,ko Bool.false_ne_true,Yn,Yn,Q5,jbw,jiu,jE];refine⟨h.1,h.2.1,λu hu=>?_⟩;obtain⟨a,ha,rfl⟩:=jN.1 hu;exact ih a ha (jgW hk a ha)
theorem Bx.ren{f:Xb->Xb}(hf:∀n,jdc n=true->jdc (f n)=true){t:T}(h:Bx t):Bx (jfW f t):=by
 have hn:=h.nv;rcases h with h|h
 .left;rw[jlw hn,jko hn,jbw];refine⟨h.1,h.2.1,λu hu=>?_⟩;obtain⟨a,ha,rfl⟩:=jN.1 hu;exact jA0 hf a (h.2.2 a ha)
 .right;rw[jlw hn];exact⟨h.1,jA0 hf t h.2⟩
theorem jny:∀d:Nat,d<10->jio (UInt8.ofNat (48+d))=true:=by decide
theorem jh8{u:Nat}(h:u<10):Lib.decDigits u=[UInt8.ofNat (48+u)]:=Lib.decDigits_one h
theorem jiV{u:Nat}(h:¬u<10):Lib.decDigits u=Lib.decDigits (u / 10)++[UInt8.ofNat (48+u % 10)]:=by rw[Lib.decDigits,dif_neg h]
theorem jhS:∀(k u:Nat),u<10 ^ (k+1)->(Lib.decDigits u).all jio=true/\(Lib.decDigits u).length<=k+1
 |0,u,h=>by rw[jh8 (by omega)];exact⟨by rw[jbq,jny u (by omega),List.all_nil];rfl,by simp⟩
 |k+1,u,h=>by
  by_cases hu:u<10
  .rw [jh8 hu];exact⟨by rw[jbq,jny u hu,List.all_nil];rfl,by simp⟩
  .obtain ⟨h1,h2⟩:=jhS k (u / 10) (by rw[Nat.pow_succ]at h;omega)
   rw[jiV hu,List.all_append,h1,yM];exact⟨by rw[jbq,jny (u % 10) (by omega),List.all_nil];rfl,by simp only[yv,jgS];omega⟩
theorem jzg:∀a:Nat,a<10-> ∀b:Nat,b<10->UInt8.ofNat (48+a)=UInt8.ofNat (48+b)->a=b:=by decide
theorem jwG(a b:Nat)(h1:a<10)(h2:b<10)(h:UInt8.ofNat (48+a)=UInt8.ofNat (48+b)):a=b:=jzg a h1 b h2 h
theorem jvn:∀(u v:Nat),Lib.decDigits u=Lib.decDigits v->u=v:=by
 intro u;induction u using Nat.strongRecOn with
 |ind u ih=>
  intro v h;by_cases hu:u<10<;>by_cases hv:v<10
  .rw [jh8 hu,jh8 hv]at h;exact jwG u v hu hv (by simpa using h)
  .have h2:=congrArg List.length h;rw[jh8 hu,jiV hv,yM,Lib.decDigits_length]at h2;have:=Lib.nDigits_pos (v / 10);simp only[yv,jgS]at h2;omega
  .have h2:=congrArg List.length h;rw[jh8 hv,jiV hu,yM,Lib.decDigits_length]at h2;have:=Lib.nDigits_pos (u / 10);simp only[yv,jgS]at h2;omega
  .rw [jiV hu,jiV hv]at h;obtain⟨h1,h2⟩:=List.append_inj' h rfl;have e1:=ih (u / 10) (by omega) (v / 10) h1;have e2:=jwG (u % 10) (v % 10) (by omega) (by omega) (by simpa using h2);omega
theorem jAt{p:UInt8}{i j:Nat}(h:jic p i=jic p j):i=j:=by
 unfold jic at h;exact jvn i j (by simpa using h)
theorem jAu{p:UInt8}(hp:upc p=true){i:Nat}(hi:i<1000):jdc (jic p i)=true:=by
 obtain⟨h1,h2⟩:=jhS 2 i (by omega);show(upc p && ((Lib.decDigits i).all jio && decide ((Lib.decDigits i).length<=3)))=true;rw[hp,h1,decide_eq_true (by omega)];rfl
theorem jDa{l:Xa}{n x:Xb} :x∈vnA l n↔x∈l\/x=n:=by
 unfold vnA;split
 .rename_i h;rw[List.contains_iff_mem]at h;exact⟨Or.inl,λh'=>h'.elim id λe=>e ▸ h⟩
 .simp
theorem jyz{l:Xa}{n:Xb}(h:l.Nodup):(vnA l n).Nodup:=by
 unfold vnA;split
 .exact h
 .rename_i hc;rw[List.contains_iff_mem]at hc;refine jfP.2 ⟨h,by simp,λa ha b hb=>?_⟩;simp only[jU]at hb;rintro rfl;exact hc (hb ▸ ha)
mutual
theorem jt2:∀(t:T)(l:Xa)(x:Xb),x∈jiG l t↔x∈l\/x∈jgi t
 |.mk n us,l,x=>by
  rw[jiG,jgi];split
  .rw [jDa];simp
  .exact jt1 us l x
theorem jt1:∀(ts:Xg)(l:Xa)(x:Xb),x∈jlt l ts↔x∈l\/x∈jgR ts
 | [],l,x=>by simp[jlt,jgR]
 |t::ts,l,x=>by rw[jlt,jgR,jt1 ts,jt2 t,Yo,or_assoc]
end
mutual
theorem jpX:∀(t:T){l:Xa},l.Nodup->(jiG l t).Nodup
 |.mk n us,l,h=>by
  rw[jiG];split
  .exact jyz h
  .exact jpW us h
theorem jpW:∀(ts:Xg){l:Xa},l.Nodup->(jlt l ts).Nodup
 | [],l,h=>h
 |t::ts,l,h=>by rw[jlt];exact jpW ts (jpX t h)
end
theorem jpQ:∀(c:Cls)(l:Xa)(x:Xb),x∈c.foldl (λl x=>jiG l x.2) l↔x∈l\/ ∃y∈c,x∈jgi y.2
 | [],l,x=>by simp
 |y::c,l,x=>by rw[List.foldl_cons,jpQ c,jt2,or_assoc];simp
theorem jml{c:Cls}{x:Xb} :x∈jgg c↔ ∃y∈c,x∈jgi y.2:=by unfold jgg;rw[jpQ];simp
theorem jkJ(c:Cls):(jgg c).Nodup:=by
 have:∀(c:Cls)(l:Xa),l.Nodup->(c.foldl (λl x=>jiG l x.2) l).Nodup:=by
  intro c;induction c with
  |nil=>intro l h;exact h
  |cons y c ih=>intro l h;exact ih _ (jpX y.2 h)
 exact this c [] List.nodup_nil
theorem jmm{c:Cls}{x:Xb}(h:x∈jgg c):jdc x=true:=by
 obtain⟨y,_,hx⟩:=jml.1 h;exact juV y.2 hx
def CN(c:Cls):Prop:=c.length<=8/\ ∀l∈c,Bx l.2/\nodes l.2<=30
theorem jib{c:Cls}(h:CN c):(jgg c).length<=240:=by
 have:∀(c:Cls)(l:Xa),(∀y∈c,nodes y.2<=30)->(c.foldl (λl x=>jiG l x.2) l).length<=l.length+30*c.length:=by
  intro c;induction c with
  |nil=>intro l _;simp
  |cons y c ih=>
   intro l h;have h1:=jkK y.2 l;have h2:=h y (by simp);have h3:=ih (jiG l y.2) λz hz=>h z (by simp[hz]);rw[List.foldl_cons,yv];omega
 have h2:=this c [] λy hy=>(h.2 y hy).2;have h3:=h.1;rw[jgS]at h2;unfold jgg;omega
theorem jqL{p:UInt8}{l:Xa}{i:Nat}(hl:l.Nodup)(hi:i<l.length):jfV p l l[i]=jic p i:=by
 unfold jfV;have:l.findIdx? (λx=>decide (x=l[i]))=some i:=by
  rw[List.findIdx?_eq_some_iff_getElem];refine⟨hi,by simp,λj hj=>?_⟩;simp only[Q5];intro e;exact(List.pairwise_iff_getElem.1 hl) j i (by omega) hi hj e
 rw[this]
theorem jnv{p:UInt8}(hp:upc p=true){l:Xa}(hl:l.length<=1000){n:Xb}(hn:jdc n=true):jdc (jfV p l n)=true:=by
 unfold jfV;split
 .rename_i i h;have:=(List.findIdx?_eq_some_iff_getElem.1 h).1;exact jAu hp (by omega)
 .exact hn
theorem jps{α:Type}(c:α->α->Int)(l:List α)(x:α):(jje c l x).length<=l.length+1:=by
 unfold jje;split
 .omega
 .have:=congrArg List.length (List.takeWhile_append_dropWhile (p:=λa=>decide (c a x<0)) (l:=l));rw[yM]at this;rw[yM,yv];omega
theorem ji0{α:Type}(c:α->α->Int)(l:List α):(jhe c l).length<=l.length:=by
 have:∀(l m:List α),(l.foldl (jje c) m).length<=m.length+l.length:=by
  intro l;induction l with
  |nil=>intro m;simp
  |cons x l ih=>
   intro m;have h1:=jps c m x;have h2:=ih (jje c m x);rw[List.foldl_cons,yv];omega
 have:=this l [];simpa[jhe]using this
theorem jiC{l:Cls}{x:Lt} :x∈jhe cmpL l↔x∈l:=(jjs jhX l).2 x
theorem jpO{l:Cls}(h:Asc cmpL l):jhe cmpL l=l:=by
 obtain⟨h1,h2⟩:=jjs jhX l;exact jsc jhX h1 h h2
theorem CN.make{l:Cls}(hl:l.length<=8)(h:∀x∈l,Bx x.2/\nodes x.2<=30):CN (jhe cmpL l):=⟨by have:=ji0 cmpL l;omega,λx hx=>h x (jiC.1 hx)⟩
theorem CN.ren{p:UInt8}(hp:upc p=true){c:Cls}(h:CN c):∀x∈c.map (λl=>(l.1,jfW (jfV p (jgg c)) l.2)),Bx x.2/\nodes x.2<=30:=by
 intro x hx;obtain⟨l,hl,rfl⟩:=jN.1 hx;have hn:=jib h;have:=jnP (jfV p (jgg c)) l.2;have:=(h.2 l hl).2;exact⟨(h.2 l hl).1.ren λn hn=>jnv hp (by omega) hn,by show nodes (jfW (jfV p (jgg c)) l.2)<=30;omega⟩
theorem CN.renC{p:UInt8}(hp:upc p=true){c:Cls}(h:CN c):CN (renC p c):=CN.make (by rw[jbw];exact h.1) (h.ren hp)
theorem CN.normF:∀(k:Nat){c:Cls},CN c->CN (normF k c)
 |0,c,h=>h
 |k+1,c,h=>by
  rw[Go.Proofs.YtjgmjdidbgcljaaGreatDoor.normF];split
  .exact h
  .exact CN.normF k (CN.renC (by decide) h)
theorem CN.normC{c:Cls}(h:CN c):CN (normC c):=CN.normF 10 h
theorem jhD{c:Cls}(h:jg1 c=true):CN c/\Asc cmpL c/\(∀l∈c,jij l.2=true):=by
 unfold jg1 at h;rw[Yn,Yn,jE,Q5,jtm]at h;exact⟨⟨h.2.2,λl hl=>⟨(jmI.1 (h.1 l hl)).1,jhc (jmI.1 (h.1 l hl)).2⟩⟩,h.2.1,h.1⟩
theorem CN.tz{c:Cls}(h:CN c):∀l∈c,Tz l.2:=λl hl=>(h.2 l hl).1.tz (by have:=(h.2 l hl).2;omega)
theorem CN.rx{c:Cls}(h:CN c):∀l∈c,Rx' l.2:=λl hl=>(h.2 l hl).1.rx
theorem jqN{f:Xb->Xb} :∀{xs bs:Xg},(∀u∈xs,∀v∈bs,jhy (jfW f u) (jfW f v)=jhy u v)->jhg (xs.map (jfW f)) (bs.map (jfW f))=jhg xs bs
 | [],_,_=>rfl
 |_::_,[],_=>rfl
 |x::xs,b::bs,h=>by
  rw[j5,j5,jhg,jhg,h x (by simp) b (by simp),jqN λu hu v hv=>h u (by simp[hu]) v (by simp[hv])]
theorem Rx'.va{t:T}(h:Rx' t)(hv:jdc t.name=true):t.args=[]:=h.elim (λh=>jjK h hv) λh=>by rw[h.1]at hv;exact absurd hv (by decide)
theorem jBN{L:Xa}{f:Xb->Xb}(hf:∀n∈L,jdc (f n)=true)(hc:∀n∈L,∀m∈L,jgY (f n) (f m)=jgY n m):∀a:T,Rx' a->(∀x∈jgi a,x∈L)-> ∀b:T,Rx' b->(∀x∈jgi b,x∈L)->jhy (jfW f a) (jfW f b)=jhy a b:=by
 refine T.ind λa ih ra la b rb lb=>?_;have hk:cK (jhI (jfW f a)) (jhI (jfW f b))=cK (jhI a) (jhI b):=by
  have v1:∀t:T,Rx' t->(∀x∈jgi t,x∈L)->jdc t.name=true->jhI t=(0,(t.name,0))/\jhI (jfW f t)=(0,(f t.name,0))/\t.name∈L:=λt rt lt hv=>by
   have ha:=rt.va hv;have hm:t.name∈L:=lt _ (by rw[vsv hv];simp);have e1:vF t.name=0:=by unfold vF;rw[hv,jc6 rfl]
   have e2:vF (f t.name)=0:=by unfold vF;rw[hf _ hm,jc6 rfl]
   refine⟨by unfold jhI;rw[e1,ha];rfl,?_,hm⟩
   rw[jjn,hv,jc6 rfl];show(vF (f t.name),(f t.name,0))=_;rw[e2]
  have v2:∀t:T,jdc t.name=false->jhI (jfW f t)=jhI t/\(jhI t).1=1:=λt hv=>by
   refine⟨by unfold jhI;rw[jlw hv,jko hv,jbw],?_⟩
   show vF t.name=1;unfold vF;rw[hv,ko Bool.false_ne_true]
  cases va:jdc a.name<;>cases vb:jdc b.name
  .rw [(v2 a va).1,(v2 b vb).1]
  .obtain ⟨p1,p2,_⟩:=v1 b rb lb vb;obtain⟨q1,q2⟩:=v2 a va;rw[q1,p1,p2];have e:∀z:Key,z.1=0->cK (jhI a) z=1:=λz hz=>by
    have:jgZ (jhI a).1 z.1=1:=by rw[q2,hz];decide
    unfold cK;rw[this,jc6 (by decide)]
   rw[e _ rfl,e _ rfl]
  .obtain ⟨p1,p2,_⟩:=v1 a ra la va;obtain⟨q1,q2⟩:=v2 b vb;rw[q1,p1,p2];have e:∀z:Key,z.1=0->cK z (jhI b) = -1:=λz hz=>by
    have:jgZ z.1 (jhI b).1 = -1:=by rw[q2,hz];decide
    unfold cK;rw[this,jc6 (by decide)]
   rw[e _ rfl,e _ rfl]
  .obtain ⟨p1,p2,p3⟩:=v1 a ra la va;obtain⟨q1,q2,q3⟩:=v1 b rb lb vb;rw[p1,p2,q1,q2];unfold cK;simp only;rw[hc _ p3 _ q3]
 rw[jjR,jjR a b,hk];by_cases h0:cK (jhI a) (jhI b)=0
 .rw [ko (λh=>h h0),ko (λh=>h h0)];cases va:jdc a.name with
  |true=>
   have:(jfW f a).args=[]:=by rw[jjn,va,jc6 rfl];rfl
   rw[this,ra.va va];rfl
  |false=>
   have vb:jdc b.name=false:=by rw[<-(jpy ((jkC.zero _ _).1 h0)).1];exact va
   rw[jko va,jko vb];exact jqN λu hu v hv=>ih u hu (ra.args u hu) (λx hx=>la x (by rw[vsf va,jhG];exact⟨u,hu,hx⟩)) v (rb.args v hv) λx hx=>lb x (by rw[vsf vb,jhG];exact⟨v,hv,hx⟩)
 .rw [jc6 h0,jc6 h0]
def jfT(d:Cls):Cls:=d.map λl=>(l.1,jfW (jfV 89 (jgg d)) l.2)
def jgN(c:Cls):Bool:=jg1 c && jih c
theorem jgA{c:Cls}(h:jgN c=true):CN c/\Asc cmpL c/\jg1 c=true/\jih c=true:=by
 unfold jgN at h;rw[Yn]at h;exact⟨(jhD h.1).1,(jhD h.1).2.1,h.1,h.2⟩
theorem jxI(p q:UInt8)(x y:Xb):jgY (p::x) (p::y)=jgY (q::x) (q::y):=by
 have e:sLt (p::x) (p::y)=sLt (q::x) (q::y):=by
  rw[jjF,jjF];congr 1;simp[]
 unfold jgY;rw[e];simp
theorem jmo{d:Cls}(h:jih d=true){n:Xb}(hn:n∈jgg d):∃i,i<(jgg d).length/\n=jic 88 i/\jfV 89 (jgg d) n=jic 89 i:=by
 obtain⟨i,hi,rfl⟩:=List.mem_iff_getElem.1 hn;unfold jih at h;rw[Q5]at h;refine⟨i,hi,?_,jqL (jkJ d) hi⟩;have:=congrArg (λl=>l[i]?) h;simp only[jz hi,Kw,yt hi,z6]at this;exact QW this
theorem jxB{d:Cls}(h:jgN d=true):Asc cmpL (jfT d):=by
 obtain⟨hc,ha,_,hn⟩:=jgA h;have hl:=jib hc;unfold Asc jfT;rw[List.pairwise_map];refine List.Pairwise.imp_of_mem ?_ ha;intro x y hx hy hlt;have e:jhy (jfW (jfV 89 (jgg d)) x.2) (jfW (jfV 89 (jgg d)) y.2)=jhy x.2 y.2:=by
  refine jBN (L:=jgg d) (λn hn'=>jnv (by decide) (by omega) (jmm hn')) (λn h1 m h2=>?_) x.2 (hc.rx x hx) (λz hz=>jml.2 ⟨x,hx,hz⟩) y.2 (hc.rx y hy) (λz hz=>jml.2 ⟨y,hy,hz⟩);obtain⟨i,_,rfl,e1⟩:=jmo hn h1;obtain⟨j,_,rfl,e2⟩:=jmo hn h2;rw[e1,e2];exact jxI _ _ _ _
 show cmpL (x.1,jfW (jfV 89 (jgg d)) x.2) (y.1,jfW (jfV 89 (jgg d)) y.2)<0;unfold cmpL at hlt⊢;simp only;rw[e];exact hlt
theorem apart_eq{d:Cls}(h:jgN d=true):renC 89 d=jfT d:=jpO (jxB h)
theorem jtk{d:Cls}(h:jgN d=true):CN (jfT d):=⟨by unfold jfT;rw[jbw];exact(jgA h).1.1,(jgA h).1.ren (by decide)⟩
theorem jqH(d:Cls):(jfT d).length=d.length:=by unfold jfT;rw[jbw]
open Classical in
noncomputable def jjJ(a b:T):Option jem:=if h:∃r k,jgX k [] [(a,b)]=some r then h.choose else none
theorem juL{a b:T}(ha:Exx a)(hb:Exx b):ji9 [] [(a,b)]:=⟨jyw,(λ_ h=>(jby h).elim:IdS []),λp hp=>by rw[jU.1 hp];exact⟨ha,hb⟩⟩
theorem jj1{a b:T}(ha:Exx a)(hb:Exx b):∃k,jgX k [] [(a,b)]=some (jjJ a b):=by
 obtain⟨k,r,h⟩:=jvU 13 _ [] [(a,b)] (juL ha hb) (by simp) (jl _);have hex:∃r k,jgX k [] [(a,b)]=some r:=⟨r,k,h⟩;unfold jjJ;rw[dif_pos hex];exact hex.choose_spec
theorem jni{a b:T}(ha:Exx a)(hb:Exx b){u:jem}(h:jjJ a b=some u):je0 u=true:=by
 obtain⟨k,hk⟩:=jj1 ha hb;rw[h]at hk;exact(juM k _ _ (juL ha hb) hk).1
noncomputable def jjw(s:jem)(l:Cls):Option Cls:=if(l.all λx=>jfs (sub s x.2)) && jg1 (jhe cmpL (l.map λx=>(x.1,sub s x.2)))then some (jhe cmpL (l.map λx=>(x.1,sub s x.2)))else none
noncomputable def jk2(s:jem)(l:Cls):Option Cls:=(jjw s l).bind λc=>if jgN (normC c)then some (normC c)else none
abbrev cz:A:= .agg [.sl 3 []]
def jjl(o:Option Cls):Xe:=match o with|some c=>some (.tup [cm c,vb true],[])|none=>some (.tup [cz,vb false],[])
theorem joe{s:jem}{l:Cls}{c:Cls}(h:jk2 s l=some c):jgN c=true:=by
 unfold jk2 at h;rw[qf]at h;obtain⟨d,_,h⟩:=h;split at h
 .rename_i hn;cases h;exact hn
 .cases h
theorem jky{s:jem}{l:Cls}{c:Cls}(h:jjw s l=some c):jg1 c=true/\Asc cmpL c:=by
 unfold jjw at h;split at h
 .rename_i hn;cases h;rw[Yn]at hn;exact⟨hn.2,(jjs jhX _).1⟩
 .cases h
def atI:Xi->T->Option T
 | [],t=>some t
 |i::p,t=>if 0<=i/\i<(t.args.length:Int)then atI p (t.args.getD i.toNat (.mk [] []))else none
theorem jy0:∀{p:Xi}{t u:T},atI p t=some u-> ∃q:Xf,p=q.map (λn:Nat=>(n:Int))/\okP q t/\u=atT q t
 | [],t,u,h=>by simp only[atI,jp]at h;exact⟨[],rfl,trivial,h.symm⟩
 |i::p,t,u,h=>by
  rw[atI]at h;split at h;rotate_left
  .cases h
  rename_i hi;obtain⟨q,e,h1,h2⟩:=jy0 h;refine⟨i.toNat::q,?_,⟨by omega,h1⟩,h2⟩;rw[j5,<-e];congr 1;omega
theorem jAw:∀{p:Xf}{t:T},p≠ []->okP p t->(∀u∈t.args,okT u=true)->okT (atT p t)=true/\nodes (atT p t)<=nodes t
 | [],t,h,_,_=>absurd rfl h
 |i::p,t,_,h,ha=>by
  obtain⟨h1,h2⟩:=h;rw[atT];rw[jhT h1]at h2⊢;have hm:t.args[i]∈t.args:=jcF h1;have hk:=ha _ hm;have hn:=jjt hm;by_cases hp:p=[]
  .subst hp;exact⟨hk,by show nodes t.args[i]<=_;omega⟩
  .have:=jAw hp h2 (jgW hk);exact⟨this.1,by omega⟩
theorem jsT{s:T}(hs:okT s=true):∀{p:Xf}{t:T},okP p t->okT t=true->okT (jgJ s p t)=true
 | [],t,_,_=>hs
 |i::p,t,h,hk=>by
  obtain⟨h1,h2⟩:=h;rw[jhT h1]at h2;have hv:jdc t.name=false:=by
   cases hv:jdc t.name with
   |false=>rfl
   |true=>rw[jjK hk hv]at h1;simp at h1
  have hk':=hk;rw[jhp,hv,ko Bool.false_ne_true,Yn,Yn,Q5]at hk;rw[jgJ,jhT h1,jhp];show(if jdc t.name=true then _ else(jhu t.name && (decide ((t.args.set i (jgJ s p t.args[i])).length<=4) && jm6 (t.args.set i (jgJ s p t.args[i])))))=true;rw[hv,ko Bool.false_ne_true,QX,hk.1,decide_eq_true hk.2.1,jiu,Bool.true_and,Bool.true_and,jE];intro u hu;rcases JJ hu with hu|hu
  .exact jgW hk' u hu
  .rw [hu];exact jsT hs h2 (jgW hk' _ (jcF h1))
theorem jxv{s:T}(hs:okT s=true){p:Xf}{t:T}(hp:p≠ [])(h:okP p t)(hb:Bx t):Bx (jgJ s p t):=by
 match p,hp,h with
 |i::p,_,⟨h1,h2⟩=>
  rw[jhT h1]at h2;rcases hb with hb|hb
  .left;rw[jgJ,jhT h1];refine⟨hb.1,by show(t.args.set i _).length=2;rw[QX];exact hb.2.1,λu hu=>?_⟩;rcases JJ (show u∈t.args.set i (jgJ s p t.args[i]) from hu)with hu|hu
   .exact hb.2.2 u hu
   .rw [hu];exact jsT hs h2 (hb.2.2 _ (jcF h1))
  .right;refine⟨hb.1,?_⟩;exact jsT (p:=i::p) hs ⟨h1,by rw[jhT h1];exact h2⟩ hb.2
theorem jqk(s:T):∀(p:Xf)(t:T),okP p t->nodes (jgJ s p t)<=nodes t+nodes s
 | [],t,_=>by rw[jgJ];omega
 |i::p,t,h=>by
  obtain⟨h1,h2⟩:=h;rw[jhT h1]at h2;have ih:=jqk s p t.args[i] h2;rw[jgJ,jhT h1,jfj t];show 1+jdi (t.args.set i (jgJ s p t.args[i]))<=_;have key:∀(ts:Xg)(i:Nat)(h:i<ts.length)(u:T),nodes u<=nodes ts[i]+nodes s->jdi (ts.set i u)<=jdi ts+nodes s:=by
   intro ts;induction ts with
   |nil=>intro i h;simp at h
   |cons x xs ih2=>
    intro i h u hu;cases i with
    |zero=>simp only[ZB,jdi,List.getElem_cons_zero]at hu⊢;omega
    |succ i=>
     have:=ih2 i (by simpa using h) u (by simpa using hu);simp only[ZC,jdi];omega
  have:=key t.args i h1 _ ih;omega
def EXB(t:T):Prop:=EX false t/\Bx t
end Go.Proofs.YtjgmjdidbgcljaaGreatDoor
