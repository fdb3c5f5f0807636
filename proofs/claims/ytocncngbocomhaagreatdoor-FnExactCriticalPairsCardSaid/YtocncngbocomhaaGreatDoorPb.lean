/- Pb -/
import Derived.Test.YtocncngbocomhaaGreatDoorPa
import Derived.Test.YtocncngbocomhaaGreatDoorPq
import Derived.Sort.Walk0
import Derived.Lib.ItoaNum
namespace Go.Proofs.YtocncngbocomhaaGreatDoor
open Go Go.RowKit Go.Proofs.YtocncngbocomhaaGreatDoor.Abs
set_option linter.unusedSimpArgs false
set_option linter.unusedVariables false
set_option maxHeartbeats 1000000
theorem jmK(n:Xb)(t:T):∀(s:jeM)(i:Nat),i<=s.length->(∀j,(h:j<i)-> ∀h':j<s.length,sLt s[j].1 n=true)->((∃h:i<s.length,sLt s[i].1 n=false)\/i=s.length)->jkg s n t=s.take i++(n,t)::s.drop i
 | [],i,hi,_,_=>by
  have:i=0:=by simpa using hi
  subst this;rfl
 |p::s,0,_,_,h=>by
  have hp:sLt p.1 n=false:=by
   rcases h with⟨_,h⟩|h
   .exact h
   .cases h
  unfold jkg;rw[List.takeWhile_cons_of_neg (p:=λp:Xb×T=>sLt p.1 n) (by simp[hp]),List.dropWhile_cons_of_neg (p:=λp:Xb×T=>sLt p.1 n) (by simp[hp])];rfl
 |p::s,i+1,hi,h1,h=>by
  have hp:sLt p.1 n=true:=h1 0 (by omega) (by simp);have:=jmK n t s i (by simpa using hi) (λj hj hj'=>h1 (j+1) (by omega) (by simpa using hj')) (by
   rcases h with⟨h,h2⟩|h
   .exact Or.inl ⟨by simpa using h,h2⟩
   .exact Or.inr (by simpa using h))
  unfold jkg at this⊢;rw[List.takeWhile_cons_of_pos (p:=λp:Xb×T=>sLt p.1 n) hp,List.dropWhile_cons_of_pos (p:=λp:Xb×T=>sLt p.1 n) hp,jr,this];rfl
theorem jjL{α:Type}(f:α->Xd)(l:List α):jds (l.map f)=l.length:=jbD ..
theorem jqW(u:jeM)(hl:u.length<=1000000)(i:Nat)(hi:i<=u.length) :
  pB u.length u.length (some (vi (i:Nat)))=some i/\jhW (u.map bc) 0 i=(u.take i).map bc/\jbb (u.take i).length 56=true/\pB u.length u.length none=some u.length/\pB 0 u.length (some (vi (i:Nat)))=some i/\jhW (u.map bc) i (u.length-i)=(u.drop i).map bc/\jg7 (u.map bc) 0=u.length/\jbb ((u.take i).length+1) 56=true/\jbb ((u.take i).length+1+(u.drop i).length) 56=true:=by
 refine⟨jld hi,by rw[jhW,List.drop_zero,List.map_take],jwR (by rw[List.length_take];omega),jiC (jl _),jld hi,?_,by rw[jg7,jbD];rfl,jwR (by rw[List.length_take];omega),jwR (by rw[List.length_take,List.length_drop];omega)⟩
 rw[jhW,<-List.map_drop,jQ (by rw[jbD,List.length_drop];omega)]
theorem jqV(u v:jeM)(n:Xb)(t:T):jgs (jgs (u.map bc) [[sv n,sv t.name,tms t.args]]) (v.map bc)=(u++(n,t)::v).map bc:=by
 rw[jB];show(u.map bc++[_])++v.map bc=u.map bc++_::v.map bc;rw[JP];rfl
theorem jqX(u:jeM)(n:Xb)(t:T):(jgs (u.map bc) [[sv n,sv t.name,tms t.args]]).length=u.length+1:=by
 simp[jgs]
theorem jsV(u:jeM)(hl:u.length<=1000000)(n:Xb)(t:T)(ht:Tz t):jr1 (sv n) (tm t) (u.map bc)=some (.top,[sbs (jj1 u n t)]):=by
 have e1:=jn5 t ht;have key:=upto (P:=λi=>(∀j,(h:j<i)-> ∀h':j<u.length,sLt u[j].1 n=true)->jl5 (sv n) (vi i) (sv t.name) (tms t.args) (u.map bc) []=some (.top,[sbs (jkg u n t)])) (n:=u.length) ?_ ?_ 0 (Nat.zero_le _) (λj h=>absurd h (Nat.not_lt_zero _))
 .rw [jzj,jj1];by_cases h:t.name=n
  .rw [jc6 h];simp only[evz,h]
  .rw [ko h];have e:jl5 (sv n) (vi 0) (sv t.name) (tms t.args) (u.map bc) []=some (.top,[sbs (jkg u n t)]):=key;simp only[evz,h,e]
 .intro hall;rw[jmK n t u u.length (jl _) hall (Or.inr rfl)];obtain⟨k1,k2,k3,k4,k5,k6,k7,k8,k9⟩:=jqW u hl u.length (jl _);have m1:=jqV (u.take u.length) (u.drop u.length) n t;have m2:=jqX (u.take u.length) n t;rw[jpH];simp only[evz,jjL,k1,k2,k3,k4,k5,k6,k7,jpJ,Nat.sub_zero,e1];generalize hB:K1 _ _ _=B;have hB':B=some (.agg [sv n,sv t.name,tms t.args]):=by rw[<-hB];kernel_rfl
  rw[hB'];simp only[evz,k8,k9,m1,m2]
 .intro i hi ih hall;have hlt:(i:Int)<((u.length:Nat):Int):=by omega
  have h5:=jeN hi (by show u.length<=9223372036854775807;omega)
  have x1:pIx u.length (vi ((i:Nat):Int))=some i:=jit hi;have x2:=jvs hi;cases hs:sLt u[i].1 n
  .rw [jmK n t u i (by omega) hall (Or.inl ⟨hi,hs⟩)];obtain⟨k1,k2,k3,k4,k5,k6,k7,k8,k9⟩:=jqW u hl i (by omega);have m1:=jqV (u.take i) (u.drop i) n t;have m2:=jqX (u.take i) n t;rw[jpH];simp only[evz,hlt,x1,x2,hs,jjL,k1,k2,k3,k4,k5,k6,k7,jpJ,Nat.sub_zero,e1];generalize hB:K1 _ _ _=B;have hB':B=some (.agg [sv n,sv t.name,tms t.args]):=by rw[<-hB];kernel_rfl
   rw[hB'];simp only[evz,k8,k9,m1,m2]
  .have ih:=ih λj hj hj'=>by
    by_cases h:j=i
    .subst h;exact hs
    .exact hall j (by omega) hj'
   rw[jpH];simp only[evz,hlt,x1,x2,hs,h5,ih]
theorem jqT(s:jeM)(n:Xb)(t:T):(jj1 s n t).length<=s.length+1:=by
 unfold jj1;split
 .omega
 .unfold jkg;rw[qg,zz];have:=List.takeWhile_append_dropWhile (p:=λp:Xb×T=>sLt p.1 n) (l:=s);have:=congrArg List.length this;rw[qg]at this;omega
theorem jqU{s:jeM}{n:Xb}{t:T}{q:Xb×T}(h:q∈jj1 s n t):q∈s\/q=(n,t):=by
 unfold jj1 at h;split at h
 .exact Or.inl h
 .unfold jkg at h;rw[YW,zC]at h;rcases h with h|h|h
  .exact Or.inl (List.takeWhile_subset _ h)
  .exact Or.inr h
  .exact Or.inl (List.dropWhile_subset _ h)
theorem jzS{n:Nat}(h:n<=4194304):jbb n 24=true:=by
 unfold jbb;exact decide_eq_true ⟨by omega,by omega⟩
theorem jyB{n:Nat}(h:n<=4194304):jbb n 8=true:=by
 unfold jbb;exact decide_eq_true ⟨by omega,by omega⟩
abbrev pln(p:Xf):A:= .sl 1 (p.map λn=>[vi (n:Nat)])
abbrev plc(p:Xf):Xd:=[pln p]
theorem jwP(p:Xf)(h:p.length<=4194304):jrY (pln p)=some (.top,[pln p]):=by
 rw[jzc];have:=jyB (n:=p.length) h;simp only[evz,this]
mutual
theorem jtH:∀t:T,(jqQ t).length=nodes t
 |.mk n us=>by
  rw[jqQ,nodes,qg,jo4 us 0];simp;omega
theorem jo4:∀(us:Xg)(i:Nat),(job i us).length=jct us
 | [],i=>rfl
 |t::ts,i=>by
  rw[job,jct,qg,jbD,jtH t,jo4 ts (i+1)]
end
def okP:Xf->T->Prop
 | [],_=>True
 |i::p,t=>i<t.args.length/\okP p (t.args.getD i (.mk [] []))
theorem jiM{ts:Xg}{i:Nat}(h:i<ts.length):ts.getD i (.mk [] [])=ts[i]:=by rw[jX,jw h];rfl
mutual
theorem jvw:∀(t:T),∀p∈jqQ t,okP p t/\p.length<=nodes t
 |.mk n us=>λp hp=>by
  rw[jqQ,YW]at hp;rcases hp with hp|hp
  .obtain ⟨j,q,rfl,h1,h2,h3⟩:=jqP us 0 p hp;refine⟨?_,?_⟩
   .show (0+j)<us.length/\okP q (us.getD (0+j) _);rw[jbz];exact⟨h1,h2⟩
   .rw [zz,nodes];omega
  .rw [j6]at hp;subst hp;exact⟨trivial,by simp⟩
theorem jqP:∀(us:Xg)(i:Nat),∀p∈job i us,∃j q,p=(i+j)::q/\j<us.length/\okP q (us.getD j (.mk [] []))/\q.length<=jct us
 | [],i,p,hp=>by rw[job]at hp;cases hp
 |t::ts,i,p,hp=>by
  rw[job,YW]at hp;rcases hp with hp|hp
  .obtain ⟨q,hq,rfl⟩:=j7.1 hp;obtain⟨h1,h2⟩:=jvw t q hq;exact⟨0,q,rfl,by simp,h1,by rw[jct];omega⟩
  .obtain ⟨j,q,rfl,h1,h2,h3⟩:=jqP ts (i+1) p hp;exact⟨j+1,q,by rw[show i+1+j=i+(j+1) by omega],by simpa using h1,by simpa using h2,by rw[jct];omega⟩
end
theorem jpL{q:T->Prop}(hq:∀t,q t-> ∀u∈t.args,q u):∀{p:Xf}{t:T},okP p t->q t->q (atT p t)
 | [],_,_,h=>h
 |i::p,t,hp,h=>by
  obtain⟨h1,h2⟩:=hp;refine jpL (p:=p) hq h2 ?_;rw[jiM h1];exact hq t h _ (jdM _)
theorem jqO(i:Nat)(p:Xf):pln (i::p) = .sl 1 ([vi (i:Nat)]::p.map λn=>[vi (n:Nat)]):=rfl
theorem jjS{p:Xf}{i:Nat}(h:i<p.length):zP 1 (pln p) (vi (i:Nat))=some (.elt [vi (p[i]:Nat)] 0):=jay h
theorem at_eq(t:T)(p:Xf)(ht:Tz t)(hp:okP p t)(hl:p.length<=2000000):G 35 [tm t,pln p]=some (.tup [tm (atT p t),vb true],[]):=by
 have key:=upto (P:=λi=>∀t:T,Tz t->okP (p.drop i) t->jsa (pln p) (vi i) (sv t.name) (tms t.args) (sv []) []=some (.tup [tm (atT (p.drop i) t),vb true],[])) (n:=p.length) ?_ ?_ 0 (Nat.zero_le _) t ht hp
 .rw [g35];simp only[evz];exact key
 .intro t ht _;have e1:=jn5 t ht;rw[jxs,List.drop_length];simp only[evz,e1];rfl
 .intro i hi ih t ht hp;have hlt:(i:Int)<((p.length:Nat):Int):=by omega
  have h5:=jeN hi (by show p.length<=9223372036854775807;omega)
  have hs:=ht;unfold Tz at hs;rw[jhq]at hs;rw[jcS hi]at hp⊢;obtain⟨h1,h2⟩:=hp;have hsub:ck (((t.args.length:Nat):Int)-1)=some (vi (((t.args.length:Nat):Int)-1)):=jht (by omega) (by omega);have hin:=jj8 ((p[i]:Nat):Int) 0 (((t.args.length:Nat):Int)-1);have hb:inB 0 (((t.args.length:Nat):Int)-1) ((p[i]:Nat):Int)=true:=by unfold inB;simp;omega
  rw[hb]at hin;have e:t.args.getD p[i] (.mk [] [])=t.args[p[i]]:=jiM h1;rw[e]at h2;have ih:=ih _ (ht.args _ (jdM h1)) h2;rw[jxs,atT,e];simp only[evz,hlt,jjS hi,hsub,hin,jay h1,jbK,h5,ih]
theorem jsR(t:T)(ht:Tz t):jrZ (sv t.name) (tms t.args)=some (.top,[sv t.name,tms t.args]):=by
 have h:=ht;unfold Tz at h;rw[jhq]at h;have key:=(upto (P:=λi=>jne (vi i) (sv t.name) (tms t.args) (sv []) (sv t.name) [] ((t.args.take i).map jbL)=some (.top,[sv t.name,tms t.args])) (n:=t.args.length) ?_ ?_ 0 (Nat.zero_le _))
 .rw [jze];simp only[Int.natCast_zero,List.take_zero,List.map_nil]at key;simp only[evz,key]
 .rw [jsH,List.take_length];simp only[evz]
 .intro i hi ih';have hlt:(i:Int)<((t.args.length:Nat):Int):=by omega
  have h5:=jeN hi (by show t.args.length<=9223372036854775807;omega)
  have e1:=jn5 t.args[i] (by have:=jim (jdM hi);omega)
  have hf:jbb (i+1) 40=true:=jrM (by omega);have hl:((t.args.take i).map jbL).length=i:=by rw[jbD,List.length_take];omega
  have ha:jgs ((t.args.take i).map jbL) [[sv t.args[i].name,tms t.args[i].args]]=(t.args.take (i+1)).map jbL:=by
   rw[show[sv t.args[i].name,tms t.args[i].args]=jbL t.args[i] from(jf3 _).symm,List.take_add_one,jw hi,jB];rfl
  rw[jsH];simp only[evz,hlt,jay hi,jbK,e1,hl,hf,ha,h5,ih']
theorem js6(s:T)(hs:Tz s):∀(p:Xf)(t:T),Tz t->okP p t->p.length<=2000000->G 38 [tm t,pln p,tm s]=some (tm (jhs s p t),[])
 | [],t,_,_,_=>by
  have e1:=jsR s hs;have hz:(((0:Nat):Int)=0)=True:=by simp
  rw[g38,jhs];simp only[evz,hz,e1,List.map_nil,List.getElem?_cons_zero]
 |i::p,t,ht,hp,hl=>by
  obtain⟨h1,h2⟩:=hp;have e:t.args.getD i (.mk [] [])=t.args[i]:=jiM h1;rw[e]at h2;have e1:=jsR t ht;have e2:=js6 s hs p t.args[i] (ht.args _ (jdM h1)) h2 (by rw[zz]at hl;omega);have hz:¬((p.length+1:Nat):Int)=0:=by omega
  have hz2:¬((p.length:Nat):Int)+1=0:=by omega
  have i0:zP 1 (pln (i::p)) (vi 0)=some (.elt [vi (i:Nat)] 0):=jjS (p:=i::p) (i:=0) (by simp);have sl:K4 1 (pln (i::p)) (some (vi 1)) none=some (pln p):=by
   have:=jja (k:=1) (xs:=(i::p).map λn:Nat=>[vi (n:Nat)]) (i:=1) (by simp);exact this
  have ix:pIx t.args.length (vi (i:Nat))=some i:=jit h1;have rg:jbd (t.args.map jbL) i=some (jbL t.args[i]):=by unfold jbd;simp[h1]
  have co:Z4 (jbL t.args[i]) 0 [sv (jhs s p t.args[i]).name,tms (jhs s p t.args[i]).args]=jbL (jhs s p t.args[i]):=by rw[jf3,jf3];rfl
  have rs:jal (t.args.map jbL) i (jbL (jhs s p t.args[i]))=(t.args.set i (jhs s p t.args[i])).map jbL:=by unfold jal;rw[List.map_set]
  have ll:(jfQ (pln (i::p)))=some (vi ((p.length+1:Nat):Int)):=by rw[jqO];simp only[evz]
  rw[g38,jhs,e];simp only[evz,ll,hz,e1,i0,jay h1,jbK,sl,e2,ix,rg,co,rs,List.getElem?_cons_zero];rfl
theorem jon{n:Xb}(h:jcE n=true):n.length<=4:=by
 cases n with
 |nil=>simp
 |cons c r=>
  simp only[jcE,QR,YZ]at h;rw[zz];omega
theorem jtP{n:Xb}(h:jiO n=true):n.length<=6:=by
 cases n with
 |nil=>simp
 |cons c r=>
  simp only[jiO,QR,YZ]at h;rw[zz];omega
theorem jjy:∀t:T,okT t=true->tsz t<=10*nodes t:=by
 refine T.ind λt ih hk=>?_;have hL:∀us:Xg,(∀u∈us,tsz u<=10*nodes u)->jji us<=10*jct us:=by
  intro us;induction us with
  |nil=>intro _;simp[jji]
  |cons u us ih2=>
   intro h;have:=h u (by simp);have:=ih2 λw hw=>h w (by simp[hw]);simp only[jji,jct];omega
 have h1:=hL t.args λu hu=>ih u hu (jhU hk u hu);rw[jhq,jeU];rw[jiH]at hk;cases hv:jcE t.name with
 |true=>
  rw[hv,jc6 rfl]at hk;have:=jon hv;rw[List.isEmpty_iff.1 hk]at h1⊢;simp only[jhr,jji]at h1⊢;omega
 |false=>
  rw[hv,ko Bool.false_ne_true,QR,QR,YZ]at hk;have:=jtP hk.1;omega
theorem jmM{u:jeM}{Z:Nat}(hZ:1<=Z)(hu:∀q∈u,nodes q.2<=Z):∀t:T,nodes (sub u t)<=nodes t*Z:=by
 refine T.ind λt ih=>?_;cases hv:jcE t.name with
 |true=>
  have h1:=jiG t;have h2:1*Z<=nodes t*Z:=kM Z h1;rw[jka hv,jm7];cases hl:look u t.name with
  |none=>show 1+0<=_;omega
  |some r=>have:nodes r<=Z:=hu _ (jkI hl);show nodes r<=_;omega
 |false=>
  have hL:∀us:Xg,(∀v∈us,nodes (sub u v)<=nodes v*Z)->jct (us.map (sub u))<=jct us*Z:=by
   intro us;induction us with
   |nil=>intro _;simp[jct]
   |cons v us ih2=>
    intro h;have:=h v (by simp);have:=ih2 λw hw=>h w (by simp[hw]);simp only[ky,jct,jhv];omega
  have:=hL t.args ih;rw[jeU,jmq hv,jeU t,jhv];omega
theorem jks{t u:T}(h:u∈t.args):nodes u<nodes t:=by
 have:=jis h;have:=jeU t;omega
def Vs(t:T):Prop:=okT t=true/\nodes t<=30
theorem Vs.args{t:T}(h:Vs t):∀u∈t.args,Vs u:=λu hu=>⟨jhU h.1 u hu,by have:=jks hu;have:=h.2;omega⟩
theorem Vs.tz{t:T}(h:Vs t):Tz t:=by
 have:=jjy t h.1;have:=h.2;unfold Tz;omega
def RS(rs:Xg):Prop:=rs.length<=10/\ ∀r∈rs,r.args.length=2/\Vs (jhp r)/\Vs (jii r)
theorem RS.ok{rs:Xg}(h:RS rs):jv6 rs:=λr hr=>⟨(h.2 r hr).2.1.1,(h.2 r hr).2.2.1⟩
def EX(root:Bool)(t:T):Prop:=(nodes t<=31/\Tz t)/\(∀u∈t.args,Vs u)/\(root=true->Vs t)
theorem jkt{r:T}(hl:r.args.length=2):zP 2 (tms r.args) (vi 0)=some (.elt (jbL (jhp r)) 0)/\zP 2 (tms r.args) (vi 1)=some (.elt (jbL (jii r)) 0):=by
 have i0:zP 2 (tms r.args) (vi 0)=some (.elt (jbL r.args[0]) 0):=jay (i:=0) (by omega);have i1:zP 2 (tms r.args) (vi 1)=some (.elt (jbL r.args[1]) 0):=jay (i:=1) (by omega);have e0:jhp r=r.args[0]:=jiM (by omega);have e1:jii r=r.args[1]:=jiM (by omega);rw[e0,e1];exact⟨i0,i1⟩
def jCI(t:T)(o:Option T):Xe:=match o with|some u=>some (.tup [tm u,vb true],[])|none=>some (.tup [tm t,vb false],[])
theorem EX.at{root:Bool}{t:T}(h:EX root t){p:Xf}(hp:okP p t)(hne:¬(p=[]/\root=false)):Vs (atT p t):=by
 obtain⟨_,h1,h2⟩:=h;cases p with
 |nil=>
  cases root
  .exact absurd ⟨rfl,rfl⟩ hne
  .exact h2 rfl
 |cons i p=>
  obtain⟨a,b⟩:=hp;refine jpL (p:=p) (q:=Vs) (λ_ h=>h.args) b ?_;rw[jiM a];exact h1 _ (jdM _)
def jg1(o:Option T):Xe:=match o with|some u=>some (.tup [tm u,vb true],[])|none=>some (.tup [.agg [sv [],.sl 2 []],vb false],[])
def Srt(l:Xa):Prop:=l.Pairwise λx y=>x<y
theorem jkN(x y:Xb):sLt x y=decide (x<y):=Go.Proofs.bytesLess_eq x y
theorem ju5{x y:Xb}(h1:¬x<y)(h2:x≠y):y<x:=by
 have h3:y<=x:=List.not_lt.1 h1;exact Std.lt_of_le_of_ne h3 (Ne.symm h2)
theorem js3:∀(a b:Xa),Srt a->Srt b->(∀n,n∈a↔n∈b)->a=b
 | [],[],_,_,_=>rfl
 | [],y::b,_,_,h=>by have:=(h y).2 (by simp);cases this
 |x::a,[],_,_,h=>by have:=(h x).1 (by simp);cases this
 |x::a,y::b,ha,hb,h=>by
  have ha':=List.pairwise_cons.1 ha;have hb':=List.pairwise_cons.1 hb;have hxy:x=y:=by
   have h1:x∈y::b:=(h x).1 (by simp);have h2:y∈x::a:=(h y).2 (by simp);rcases zC.1 h1 with h1|h1
   .exact h1
   .rcases zC.1 h2 with h2|h2
    .exact h2.symm
    .exact absurd (List.lt_trans (ha'.1 y h2) (hb'.1 x h1)) (List.lt_irrefl x)
  subst hxy;refine congrArg (x::·) (js3 a b ha'.2 hb'.2 λn=>⟨λhn=>?_,λhn=>?_⟩)
  .rcases zC.1 ((h n).1 (kT _ hn))with e|e
   .subst e;exact absurd (ha'.1 _ hn) (List.lt_irrefl _)
   .exact e
  .rcases zC.1 ((h n).2 (kT _ hn))with e|e
   .subst e;exact absurd (hb'.1 _ hn) (List.lt_irrefl _)
   .exact e
theorem jvH{l:Xa}(h:l.Nodup):Srt (kZ l):=by
 have h1:(kZ l).Pairwise λx y=>decide (x<=y)=true:=List.pairwise_mergeSort (λa b c h1 h2=>by simp only[YZ]at *;exact List.le_trans h1 h2) (λa b=>by simp only[QV,YZ];exact List.le_total a b) l
 have h2:(kZ l).Nodup:=(List.mergeSort_perm l _).nodup_iff.2 h;exact(h1.and h2).imp λ{x y} hxy=>Std.lt_of_le_of_ne (by simpa using hxy.1) hxy.2
theorem js4{l:Xa}{s:Xb}{i:Nat}(hl:Srt l)(h1:∀x∈l.take i,x<s)(h2:∀h:i<l.length,s<l[i]):Srt (l.take i++[s]++l.drop i):=by
 have hl':Srt (l.take i++l.drop i):=by rw[jbH];exact hl
 obtain⟨p1,p2,p3⟩:=List.pairwise_append.1 hl';have h3:∀y∈l.drop i,s<y:=by
  intro y hy;have hlt:i<l.length:=by
   rcases Nat.lt_or_ge i l.length with h|h
   .exact h
   .rw [List.drop_of_length_le h]at hy;cases hy
  rw[List.drop_eq_getElem_cons hlt]at hy p2;rcases zC.1 hy with e|e
  .subst e;exact h2 hlt
  .exact List.lt_trans (h2 hlt) ((List.pairwise_cons.1 p2).1 y e)
 refine List.pairwise_append.2 ⟨List.pairwise_append.2 ⟨p1,by simp,λa ha b hb=>?_⟩,p2,λa ha b hb=>?_⟩
 .rw [j6.1 hb];exact h1 a ha
 .rcases YW.1 ha with ha|ha
  .exact p3 a ha b hb
  .rw [j6.1 ha];exact h3 b hb
theorem jtN{l:Xa}(h:Srt l):l.Nodup:=h.imp λ{x y} hxy e=>by subst e;exact List.lt_irrefl _ hxy
mutual
def jjU:T->Xa
 |.mk n us=>(if jcE n then[]else[n])++jiS us
def jiS:Xg->Xa
 | []=>[]
 |t::ts=>jjU t++jiS ts
end
theorem jkv(t:T):jjU t=(if jcE t.name then[]else[t.name])++jiS t.args:=by cases t;rfl
theorem jtg(l:Xa)(s:Xb)(hl:l.length<=2100000):∃r,G 86 [strs l,sv s]=some (strs r,[])/\jlY l [s] 1 r/\(Srt l->Srt r):=by
 have key:=upto (P:=λi=>(Srt l-> ∀x∈l.take i,x<s)-> ∃r,jqb (strs l) (sv s) (vi i)=some (strs r,[])/\jlY l [s] 1 r/\(Srt l->Srt r)) (n:=l.length) ?_ ?_ 0 (Nat.zero_le _)
 .simp only[Int.natCast_zero]at key;rw[g86];exact key (by simp)
 .intro hless;have hx:¬((l.length:Nat):Int)<((l.length:Nat):Int):=Int.lt_irrefl _;have s1:K4 1 (strs l) none (some (vi (l.length:Nat)))=some (strs l):=by rw[jju (by simp),jQ (by simp)]
  have s2:K4 1 (strs l) (some (vi (l.length:Nat))) none=some (.sl 1 []):=by rw[jja (by simp),List.drop_of_length_le (by simp)]
  have f1:jbb l.length 16=true:=ji3 (by omega);have f2:jbb (l.length+1) 16=true:=ji3 (by omega);have happ:jgs (jgs (l.map cs) [[sv s]]) []=(l++[s]).map cs:=by simp[jgs]
  have hlen:(jgs (l.map cs) [[sv s]]).length=l.length+1:=by simp[jgs]
  refine⟨l++[s],?_,⟨by intro n;simp,by simp⟩,λh=>?_⟩
  .rw [jsK];simp only[evz,hx,s1,s2,f1,f2,hlen,happ,zH]
  .have:=js4 (s:=s) (i:=l.length) h (hless h) (λh=>absurd h (Nat.lt_irrefl _));simpa using this
 .intro i hi ih hless;have hlt:(i:Int)<((l.length:Nat):Int):=by omega
  have h5:=jeN hi (by omega);rw[jsK];cases h1:sLt l[i] s
  .by_cases h2:l[i]=s
   .refine ⟨l,?_,⟨λn=>⟨λh=>Or.inl h,λh=>by
     rcases h with h|h
     .exact h
     .simp at h;rw[h,<-h2];exact jdM _⟩,by omega⟩,id⟩
    rw[h2]at h1;simp only[evz,hlt,jay hi,h2,h1]
   .have s1:K4 1 (strs l) none (some (vi i))=some (strs (l.take i)):=by rw[jju (by simp;omega),<-List.map_take]
    have s2:K4 1 (strs l) (some (vi i)) none=some (strs (l.drop i)):=by rw[jja (by simp;omega),<-List.map_drop]
    have ht:(l.take i).length=i:=by rw[List.length_take];omega
    have f1:jbb i 16=true:=ji3 (by omega);have f2:jbb (i+1) 16=true:=ji3 (by omega);have f3:jbb (i+1+(l.drop i).length) 16=true:=ji3 (by rw[List.length_drop];omega);have happ:jgs (jgs ((l.take i).map cs) [[sv s]]) ((l.drop i).map cs)=(l.take i++[s]++l.drop i).map cs:=by simp[jgs]
    have hlen:(jgs ((l.take i).map cs) [[sv s]]).length=i+1:=by simp[jgs];omega
    refine⟨l.take i++[s]++l.drop i,?_,⟨λn=>?_,by simp;omega⟩,λh=>?_⟩
    .simp only[evz,hlt,jay hi,h1,h2,s1,s2,ht,f1,f2,f3,hlen,happ]
    .have hm:n∈l↔n∈l.take i\/n∈l.drop i:=by rw[<-YW,jbH]
     simp only[YW,j6,hm];exact⟨λh=>by rcases h with(h|h)|h<;>simp[h],λh=>by rcases h with(h|h)|h<;>simp[h]⟩
    .rw [jkN,decide_eq_false_iff_not]at h1;exact js4 h (hless h) λ_=>ju5 h1 h2
  .have hx:l[i]<s:=by rw[jkN,YZ]at h1;exact h1
   obtain⟨r,e,c⟩:=ih λh x hm=>by
    rw[List.take_succ_eq_append_getElem hi]at hm;rcases YW.1 hm with hm|hm
    .exact hless h x hm
    .rw [j6.1 hm];exact hx
   refine⟨r,?_,c⟩;simp only[evz,hlt,jay hi,h1,h5,e]
theorem jmS:∀t:T,twf t-> ∀l:Xa,l.length+nodes t<=2100000-> ∃r,G 59 [strs l,tm t]=some (strs r,[])/\jlY l (jjU t) (nodes t) r/\(Srt l->Srt r):=by
 refine T.ind λt ih hw l hb=>?_;obtain⟨w1,w2,w3⟩:=(jgC t).1 hw;have w3:=(jfY _).1 w3;have e1:=jhT t.name w1;rw[g59,jkv];rw[jeU]at hb⊢;have key:=upto (P:=λi=>∀l:Xa,l.length+jct (t.args.drop i)<=2100000-> ∃r,jp6 (strs l) (vi i) (sv t.name) (tms t.args)=some (strs r,[])/\jlY l (jiS (t.args.drop i)) (jct (t.args.drop i)) r/\(Srt l->Srt r)) (n:=t.args.length) ?_ ?_ 0 (Nat.zero_le _)
 .simp only[Int.natCast_zero,List.drop_zero]at key;cases hv:jcE t.name<;>rw[hv]at e1
  .obtain ⟨r0,e0,⟨b1,b2⟩,b3⟩:=jtg l t.name (by omega);obtain⟨r,e,⟨c1,c2⟩,c3⟩:=key r0 (by omega);refine⟨r,?_,⟨λn=>?_,by omega⟩,λh=>c3 (b3 h)⟩
   .simp only[evz,e1,e0,e]
   .rw [c1,b1];simp only[KL,if_false,YW];exact or_assoc
  .obtain ⟨r,e,⟨c1,c2⟩,c3⟩:=key l (by omega);refine⟨r,?_,⟨by simpa using c1,by omega⟩,c3⟩;simp only[evz,e1,e]
 .intro l hb;rw[jxH,List.drop_length];refine⟨l,?_,⟨by simp[jiS],by omega⟩,id⟩;simp only[evz]
 .intro i hi ih' l hb;have hlt:(i:Int)<((t.args.length:Nat):Int):=by omega
  have h5:=jeN hi w2;rw[jcS hi]at hb⊢;simp only[jct,jiS]at hb⊢;obtain⟨r1,a1,⟨c1,c2⟩,c3⟩:=ih t.args[i] (jdM _) (w3 _ (jdM _)) l (by omega);obtain⟨r2,a2,⟨d1,d2⟩,d3⟩:=ih' r1 (by omega);rw[jxH];refine⟨r2,?_,⟨λn=>?_,by omega⟩,λh=>d3 (c3 h)⟩
  .simp only[evz,hlt,jay hi,jbK,a1,h5,a2]
  .rw [d1,c1,YW];exact or_assoc
theorem joj{n:Xb}(h:jcE n=true):jiO n=false:=by
 cases n with
 |nil=>rfl
 |cons c r=>
  simp only[jcE,QR,upc,inB,YZ]at h;have:jlR c=false:=by unfold jlR inB;rw[Bool.and_eq_false_iff];left;rw[decide_eq_false_iff_not];omega
  simp[jiO,this]
theorem jra{t:T}(h:okT t=true):jiO t.name=!jcE t.name:=by
 obtain⟨c,r,_,hv,hs⟩:=jqH h;cases hx:jcE t.name
 .rw [hv]at hx;rw[hs hx];rfl
 .rw [joj hx];rfl
def joG(l vs:Xa)(k:Nat)(r:Xa):Prop:=jlY l vs k r/\(l.Nodup->r.Nodup)
theorem jli(ts:Xg)(hl:ts.length<=9223372036854775807)(ih:∀t∈ts,∀l:Xa,l.length+nodes t<=2100000-> ∃r,jlX (sv t.name) (tms t.args) (l.map cs)=some (.top,[strs r])/\joG l (jjU t) (nodes t) r) :
  ∀i,i<=ts.length-> ∀l:Xa,l.length+jct (ts.drop i)<=2100000-> ∃r,jnf (tms ts) (vi (ts.length:Nat)) (vi i) (l.map cs)=some (.top,[strs r])/\joG l (jiS (ts.drop i)) (jct (ts.drop i)) r:=by
 refine upto ?_ ?_
 .intro l hb;rw[jsJ,List.drop_length];refine⟨l,?_,⟨by simp[jiS],by omega⟩,id⟩;simp only[evz]
 .intro i hi ih' l hb;have hlt:(i:Int)<((ts.length:Nat):Int):=by omega
  have h5:=jeN hi hl;rw[jcS hi]at hb⊢;simp only[jct,jiS]at hb⊢;obtain⟨r1,e1,⟨c1,c2⟩,c3⟩:=ih ts[i] (jdM _) l (by omega);obtain⟨r2,e2,⟨d1,d2⟩,d3⟩:=ih' r1 (by omega);rw[jsJ];refine⟨r2,?_,⟨λn=>?_,by omega⟩,λh=>d3 (c3 h)⟩
  .simp only[evz,hlt,jay hi,jbK,e1,h5,e2]
  .rw [d1,c1,YW];exact or_assoc
theorem jkU(ts:Xg)(hl:ts.length<=9223372036854775807)(ih:∀t∈ts,∀l:Xa,l.length+nodes t<=2100000-> ∃r,jlX (sv t.name) (tms t.args) (l.map cs)=some (.top,[strs r])/\joG l (jjU t) (nodes t) r)(l:Xa)(hb:l.length+jct ts<=2100000) :
  ∃r,jps (tms ts) (vi (ts.length:Nat)) (vi 0) (l.map cs)=some (.top,[strs r])/\joG l (jiS ts) (jct ts) r:=by
 have loop:=jli ts hl ih;rw[jwJ];by_cases h0:ts.length=0
 .have ha:ts=[]:=List.length_eq_zero_iff.1 h0;rw[ha];refine⟨l,?_,⟨by simp[jiS],by simp[jct]⟩,id⟩;simp only[evz];rfl
 .have hi:0<ts.length:=by omega
  have hlt:(0:Int)<((ts.length:Nat):Int):=by omega
  have hix:zP 2 (tms ts) (vi 0)=some (.elt (jbL ts[0]) 0):=jay (i:=0) hi;have h5:jgm .add false (vi 0) (vi 1)=some (vi ((1:Nat):Int)):=by rw[jjR,jht (by decide) (by decide)];rfl
  have hd:ts=ts[0]::ts.drop 1:=by have:=jcS hi;simpa using this
  have hns:jct ts=nodes ts[0]+jct (ts.drop 1):=by conv=>lhs;rw[hd,jct]
  have hvs:jiS ts=jjU ts[0]++jiS (ts.drop 1):=by conv=>lhs;rw[hd,jiS]
  obtain⟨r1,e1,⟨c1,c2⟩,c3⟩:=ih ts[0] (jdM _) l (by omega);obtain⟨r2,e2,⟨d1,d2⟩,d3⟩:=loop 1 (by omega) r1 (by omega);refine⟨r2,?_,⟨λn=>?_,by omega⟩,λh=>d3 (c3 h)⟩
  .simp only[evz,hlt,hix,jbK,e1,h5,e2]
  .rw [d1,c1,hvs,YW];exact or_assoc
theorem jmr:∀t:T,twf t->okT t=true-> ∀l:Xa,l.length+nodes t<=2100000-> ∃r,jlX (sv t.name) (tms t.args) (l.map cs)=some (.top,[strs r])/\joG l (jjU t) (nodes t) r:=by
 refine T.ind λt ih hw hk l hb=>?_;obtain⟨w1,w2,w3⟩:=(jgC t).1 hw;have w3:=(jfY _).1 w3;have hks:=jhU hk;have e1:=jmQ t.name w1;have e2:=jjn l t.name (by omega);rw[jra hk]at e1;rw[jzf,jkv];have ih':∀u∈t.args,∀l:Xa,l.length+nodes u<=2100000-> ∃r,jlX (sv u.name) (tms u.args) (l.map cs)=some (.top,[strs r])/\joG l (jjU u) (nodes u) r:=λu hu=>ih u hu (w3 u hu) (hks u hu);rw[jeU]at hb⊢;cases hv:jcE t.name<;>rw[hv]at e1
 .cases hc:l.contains t.name<;>rw[hc]at e2
  .have hn:¬t.name∈l:=by simpa using hc
   obtain⟨r,e,⟨c1,c2⟩,c3⟩:=jli t.args w2 ih' 0 (Nat.zero_le _) (l++[t.name]) (by simp;omega)
   simp only[Int.natCast_zero,List.drop_zero,qg,List.length_singleton]at e c1 c2;have happ:jgs (l.map cs) [[sv t.name]]=(l++[t.name]).map cs:=by simp[jgs]
   have f1:jbb (l.length+1) 16=true:=ji3 (by omega);refine⟨r,?_,⟨λn=>?_,by omega⟩,λh=>c3 ?_⟩
   .simp only[evz,e1,e2,f1,happ,e]
   .rw [c1];simp only[KL,if_false,YW];exact or_assoc
   .exact Js.2 ⟨h,by simp,λa ha b hb e=>by rw[j6.1 hb]at e;rw[e]at ha;exact hn ha⟩
  .have hn:t.name∈l:=by simpa using hc
   obtain⟨r,e,⟨c1,c2⟩,c3⟩:=jkU t.args w2 ih' l (by omega);refine⟨r,?_,⟨λn=>?_,by omega⟩,c3⟩
   .simp only[evz,e1,e2,e]
   .rw [c1];simp only[KL,if_false,YW,j6];exact⟨λh=>by rcases h with h|h<;>simp[h],λh=>by
     rcases h with h|h|h
     .exact Or.inl h
     .exact Or.inl (h ▸ hn)
     .exact Or.inr h⟩
 .obtain ⟨r,e,⟨c1,c2⟩,c3⟩:=jkU t.args w2 ih' l (by omega);refine⟨r,?_,⟨by simpa using c1,by omega⟩,c3⟩;simp only[evz,e1,e]
theorem jvo{n:Nat}(h:n<=4000000):jbb n 8=true:=by
 unfold jbb;simp;omega
theorem jwZ(n:Nat)(h:n<=12):((jep .u64 (jdt [[vi 1]])).bind λt2=>(jep .u64 (vi n)).bind λt3=>(G 103 [t2,t3]).bind (fin false))=some (.tup [.val (.int .u64 0),.val (.int .u64 n)]):=by
 have c:(jep .u64 (jdt [[vi 1]]))=some (.val (.int .u64 1)):=by kernel_rfl
 have d:jep .u64 (vi n)=some (.val (.int .u64 n)):=by
  rcases n with _|_|_|_|_|_|_|_|_|_|_|_|_|n
  rotate_right
  .omega
  all_goals kernel_rfl
 rw[c,d];simp only[Option.bind_some];rw[jAu];simp only[cev];rw[jAL];clear c d;rcases n with _|_|_|_|_|_|_|_|_|_|_|_|_|n
 rotate_right
 .omega
 all_goals (show _=_;kernel_rfl)
theorem jup{α:Type}{a b:α}{i j k:Nat}(h:i<=k):(List.replicate i a++List.replicate j b).drop k=List.replicate (j-(k-i)) b:=by
 rw[List.drop_append,List.drop_replicate,List.drop_replicate,ji0,show i-k=0 by omega];rfl
theorem jvC{n:Nat}(hn:n<=12)(r1:Xc):∀(f j:Nat),n-j<=f->1<=j->j<=n->
  jng (vi (j:Nat)) (List.replicate j [vi 1]++List.replicate (n-j) [vi 0]) r1=some (.top,[.sl 1 (List.replicate n [vi 1])]):=by
 intro f;induction f with
 |zero=>
  intro j h1 h2 h3;have:j=n:=by omega
  subst this;rw[jnn];simp only[evz,ji0,Nat.sub_self,List.replicate_zero,KO]
 |succ f ih=>
  intro j h1 h2 h3;by_cases hj:j=n
  .subst hj;rw[jnn];simp only[evz,ji0,Nat.sub_self,List.replicate_zero,KO]
  .rw [jnn];simp only[cev];have hl:(List.replicate j [vi 1]++List.replicate (n-j) [vi 0]).length=n:=by simp;omega
   have e1:decide ((j:Int)<(n:Int))=true:=by simp;omega
   have hm:j+min j (n-j)<=n:=by omega
   have e2:jgm .add false (vi j) (vi (min j (n-j):Nat))=some (vi (j+min j (n-j):Nat)):=by
    rw[jjR,jht (by omega) (by omega)];rfl
   have ew:(((List.replicate j [vi 1]++List.replicate (n-j) [vi 0]).drop 0).take j)=List.replicate j [vi 1]:=by
    rw[List.drop_zero,yc (by simp),jQ (by simp)]
   have eo:qJ (List.replicate j [vi 1]++List.replicate (n-j) [vi 0]) (0+j) ((List.replicate j [vi 1]).take (n-j))=List.replicate (j+min j (n-j)) [vi 1]++List.replicate (n-(j+min j (n-j))) [vi 0]:=by
    rw[jqY,jbz,yc (by simp),jQ (by simp),List.take_replicate,ji0,jup]
    .rw [List.replicate_append_replicate,Nat.min_comm (n-j) j];congr 2;omega
    .omega
   have key:=ih (j+min j (n-j)) (by omega) (by omega) hm;simp only[jsX,jsW,jjJ,hl,jn7,Option.bind_some,jmk,e1,jql,Nat.sub_zero,jiC (jl n),jld h3,jsZ,jpJ,ew,jsY,jqZ,ji0,e2,eo,key]
theorem jyI{n:Nat}(h:n<=12):jtZ (vi (n:Nat)) [[vi 1]]=some (.top,[.sl 1 (List.replicate n [vi 1])]):=by
 rw[jzg];simp only[cev];have e0:decide ((n:Int)<0)=false:=by simp
 have em:=jwZ n h;have eg:decide ((0:Int)<0)=false:=by simp
 have ec:jep .i64 (A.val (.int .u64 n))=some (vi n):=jht (by omega) (by omega);have ek:jgm .gtr false (A.val (.int .u64 n)) (A.val (.int .u64 9223372036854775807))=some (vb false):=by
  show some (vb (decide ((9223372036854775807:Int)<n)))=_;rw[decide_eq_false (by omega)]
 have ek0:jgm .gtr false (A.val (.int .u64 0)) (A.val (.int .u64 0))=some (vb false):=rfl;have emk:Qp 8 (vi n) (vi n)=some n:=by
  show(if jgF 8 (n:Int) (n:Int)then some (n:Int).toNat else none)=_;rw[jc6 ⟨by omega,by omega,by omega,by omega⟩];rfl
 have hm:∀(k:A->A->Xe),((jep .u64 (jdt [[vi 1]])).bind λt2=>(jep .u64 (vi n)).bind λt3=>((G 103 [t2,t3]).bind (fin false)).bind λt4=>(jg6 t4 0).bind λt5=>(jg6 t4 1).bind λt6=>k t5 t6) =
   k (.val (.int .u64 0)) (.val (.int .u64 n)):=by
  intro k;have:((jep .u64 (jdt [[vi 1]])).bind λt2=>(jep .u64 (vi n)).bind λt3=>((G 103 [t2,t3]).bind (fin false)).bind λt4=>(jg6 t4 0).bind λt5=>(jg6 t4 1).bind λt6=>k t5 t6) =
    (((jep .u64 (jdt [[vi 1]])).bind λt2=>(jep .u64 (vi n)).bind λt3=>(G 103 [t2,t3]).bind (fin false)).bind λt4=>(jg6 t4 0).bind λt5=>(jg6 t4 1).bind λt6=>k t5 t6):=by
   simp only[Option.bind_assoc]
  rw[this,em];rfl
 rw[jn7,e0];simp only[Option.bind_some,jmk,jmz];rw[hm];simp only[ek0,ek,Option.bind_some,jxV,yb,jqK,KL,if_false,jmk,jmz,ec,emk,jb9,jsW,ji0];rcases n with _|n
 .have e1:jhV [[vi 1]] 0=vi ((0:Nat):Int):=rfl;have e2:qJ (List.replicate 0 [vi 0]) 0 (jg8 [[vi 1]] 0)=[]:=rfl;rw[e1,e2,jnn];rfl
 .have key:=jvC (n:=n+1) h [[vi 1]] (n+1) 1 (by omega) (by omega) (by omega);have e1:jhV [[vi 1]] (n+1)=vi ((1:Nat):Int):=by
   rw[jsY];have:min [[vi 1]].length (n+1)=1:=by simp
   rw[this]
  have e2:qJ (List.replicate (n+1) [vi 0]) 0 (jg8 [[vi 1]] (n+1))=List.replicate 1 [vi 1]++List.replicate (n+1-1) [vi 0]:=by
   rw[jqY,jqZ];simp[jeK]
  rw[e1,e2];exact key
theorem jok{ts:Xg}{n:Xb} :n∈jiS ts↔ ∃t∈ts,n∈jjU t:=by
 induction ts with
 |nil=>simp[jiS]
 |cons t ts ih=>simp[jiS,ih]
theorem jo7:∀t:T,okT t=true-> ∀n∈jjU t,jiO n=true:=by
 refine T.ind λt ih hk n hn=>?_;rw[jkv,YW]at hn;rcases hn with hn|hn
 .cases hv:jcE t.name<;>rw[hv]at hn
  .simp at hn;rw[hn,jra hk,hv];rfl
  .simp at hn
 .obtain ⟨u,hu,hm⟩:=jok.1 hn;exact ih u hu (jhU hk u hu) n hm
theorem jqp(l:Xa):∀t:T,(∀n∈jjU t,n∈l)->jjh l t=true:=by
 refine T.ind λt ih h=>?_;rw[jkv]at h;rw[ji1,jkp,QR];refine⟨?_,jz.2 λu hu=>ih u hu λn hn=>h n (KP _ (jok.2 ⟨u,hu,hn⟩))⟩;cases hv:jcE t.name
 .rw [hv]at h;rw[Bool.false_or];exact List.contains_iff_mem.2 (h t.name (by simp))
 .rfl
def jog(r:Xa):Ord':=⟨r,List.replicate r.length 1,1⟩
theorem jtU{r:Xa}(h1:1<=r.length)(h2:r.length<=12)(hs:∀n∈r,jiO n=true)(hn:r.Nodup):jiu (jog r)=true:=by
 have hb:inB 1 12 (r.length:Nat)=true:=by unfold inB;rw[QR,YZ,YZ];omega
 unfold jiu jog;simp only[hb,ji0,decide_true,Bool.true_and,QR];refine⟨by decide,jz.2 λi hi=>?_⟩;have hi:i<r.length:=List.mem_range.1 hi;have g1:r.getD i []=r[i]:=by simp[jX,hi]
 have g2:(List.replicate r.length (1:Int)).getD i 0=1:=by simp[jX,hi]
 unfold js9;simp only[g1,g2,hs _ (jdM _),Bool.true_and,QR];refine⟨?_,by decide⟩;rw[yR,<-Bool.not_eq_true,List.contains_iff_mem];intro hm;obtain⟨j,hj,e⟩:=List.mem_take_iff_getElem.1 hm;have:=(List.nodup_iff_pairwise_ne.1 hn);have:=List.pairwise_iff_getElem.1 this j i (by omega) hi (by omega);exact this e
theorem jvK{n:Xb}(h:jiO n=true):n.length<=6:=by
 cases n with
 |nil=>simp
 |cons c r=>
  simp only[jiO,QR,YZ]at h;simp only[zz];omega
theorem jnJ(o:Ord')(s t:T)(hw:twf s)(hw':twf t)(x y:Bool)(e5:G 106 [od o,tm s,tm t]=some (vb x,[]))(e6:G 106 [od o,tm t,tm s]=some (vb y,[])):G 73 [od o,tm s,tm t]=some (vi (jkZ (dq s t) x y),[]):=by
 have e4:=jin s hw t hw';have c1:G 105 [.elt (jpK o) 0,.elt [sv s.name,.sl 2 (s.args.map jbL)] 0,.elt [sv t.name,.sl 2 (t.args.map jbL)] 0]=some (vb x,[]):=by
  rw[jzq];simp only[evz,jml,jmm,e5]
 have c2:G 107 [.elt (jpK o) 0,.elt [sv t.name,.sl 2 (t.args.map jbL)] 0,.elt [sv s.name,.sl 2 (s.args.map jbL)] 0]=some (vb y,[]):=by
  rw[jzs];simp only[evz,jml,jmm,e6]
 have e7:=jn4 (f:=105) (g:=107) rfl rfl (dq s t) _ _ c1 c2;rw[g73];simp only[evz,e4,e7]
theorem jkx{t:T}(hk:okT t=true)(hv:jcE t.name=true):t.args=[]:=by
 rw[jiH,hv,jc6 rfl]at hk;exact List.isEmpty_iff.1 hk
theorem jqz(o:Ord')(s t:T)(hw:twf s)(hw':twf t)(hk:okT s=true)(hk':okT t=true)(hv:jcE s.name=true)(hv':jcE t.name=true)(hne:¬s.name=t.name):G 106 [od o,tm s,tm t]=some (vb false,[]):=by
 have as_:=jkx hk hv;have at_:=jkx hk' hv';have ns:nodes s<=1048577:=by rw[jeU,as_];simp[jct]
 have nt:nodes t<=1048577:=by rw[jeU,at_];simp[jct]
 obtain⟨r,er,c1,c2⟩:=jmu t hw' hk' nt;have hvt:jhn t=[t.name]:=by rw[jjW,jc6 hv']
 have hpos:0<r.length:=by
  rcases Nat.eq_zero_or_pos r.length with h|h
  .have hr:r=[]:=List.length_eq_zero_iff.1 h;have:=(c1 t.name).2 (by rw[hvt];simp);rw[hr]at this;cases this
  .exact h
 have h0:r[0]=t.name:=by
  have:=(c1 r[0]).1 (jdM _);rw[hvt]at this;simpa using this
 have hlt:(0:Int)<((r.length:Nat):Int):=by omega
 have hix:zP 1 (strs r) (vi 0)=some (.elt (cs t.name) 0):=by have:=jay (k:=1) (f:=cs) (i:=0) hpos;rw[h0]at this;exact this
 have a1:=jjd t.name s hw ns;have a2:=jjd t.name t hw' nt;have k1:cnt t.name s=0:=by rw[jmA,as_,ko hne];simp[jjG]
 have k2:cnt t.name t=1:=by rw[jmA,at_];simp[jjG]
 rw[k1]at a1;rw[k2]at a2;have h':((0:Nat):Int)<((1:Nat):Int):=by omega
 rw[jzr];simp only[evz,er];rw[jrB];simp only[evz,hlt,hix,a1,a2,h']
theorem jvI(a b:T)(r:Xa)(hr:r.length<=12)(x:Int)(ok:Bool)(e:G 60 [.agg [strs r,.sl 1 (List.replicate r.length [vi 1]),vi 1],tm a,tm b]=some (.tup [vi x,vb ok],[])) :
  jp3 (vi 0) (sv a.name) (tms a.args) (sv b.name) (tms b.args) (strs r) (vi 1) []=some (vi (if ok then x else 0),[]):=by
 have key:=upto (P:=λi=>jp3 (vi i) (sv a.name) (tms a.args) (sv b.name) (tms b.args) (strs r) (vi 1) (List.replicate i [vi 1])=some (vi (if ok then x else 0),[])) (n:=r.length) ?_ ?_ 0 (Nat.zero_le _)
 .simpa using key
 .rw [jxp];have hf:fin true (A.tup [vi x,vb ok],[])=some (A.tup [vi x,vb ok]):=rfl;cases ok
  .simp only[evz,e,hf]
  .simp only[evz,e,hf]
 .intro i hi ih;have hlt:(i:Int)<((r.length:Nat):Int):=by omega
  have h5:=jeN hi (by omega);have f1:jbb (i+1) 8=true:=jvo (by omega);have happ:jgs (List.replicate i [vi 1]) [[vi 1]]=List.replicate (i+1) [vi 1]:=by rw[List.replicate_succ'];rfl
  have hlen:(List.replicate i ([vi 1]:Xd)).length=i:=ji0;rw[jxp];simp only[evz,hlt,hlen,f1,h5,happ,ih]
theorem jyq{o:Ord'}(hv:jiu o=true){s t:T}(ks:okT s=true)(hc:jjh o.syms t=true)(h:Kp o s t):jcE s.name=false:=by
 cases hs:jcE s.name with
 |false=>rfl
 |true=>
  obtain⟨_,h⟩:=(jt3 o s t).1 h;rcases h with h|⟨_,h,_⟩
  .have:=jyS hv hc;rw[jri o s,jkx ks hs,hs,jc6 rfl]at h;simp only[wtL]at h;omega
  .rw [hs]at h;cases h.1
theorem jvf(a b:T)(hw:twf a)(hw':twf b)(hs:tsz a<=1048576)(hs':tsz b<=1048576)(hva:jgE a=true)(hvb:jgE b=true) :
  ∃x:Int,G 30 [tm a,tm b]=some (vi x,[])/\G 41 [tm a,tm b]=some (vi x,[])/\(x=2->jcE a.name=false):=by
 have hk:okT a=true:=by unfold jgE at hva;rw[QR]at hva;exact hva.2
 have hk':okT b=true:=by unfold jgE at hvb;rw[QR]at hvb;exact hvb.2
 have na:nodes a<=30:=by simp only[jgE,jeO,QR,YZ]at hva;exact hva.1.1
 have nb:nodes b<=30:=by simp only[jgE,jeO,QR,YZ]at hvb;exact hvb.1.1
 have e1:=jjj a hw b hw';have e2:=jin a hw b hw';rw[g30,g41];cases hd:dq a b<;>rw[hd]at e1 e2
 rotate_left
 .exact ⟨1,by simp only[evz,e1],by simp only[evz,e2],λh=>absurd h (by decide)⟩
 obtain⟨r1,f1,⟨c1,c2⟩,c3⟩:=jmS a hw [] (by simp;omega)
 obtain⟨r,f2,⟨d1,d2⟩,d3⟩:=jmS b hw' r1 (by simp at c2;omega)
 have hsrt:Srt r:=d3 (c3 List.Pairwise.nil);have hmem:∀n,n∈r↔n∈jjU a\/n∈jjU b:=λn=>by rw[d1,c1];simp
 have hlen:r.length<=60:=by simp at c2;omega
 have f1:G 59 [.sl 1 [],tm a]=some (strs r1,[]):=f1;obtain⟨p1,g1,⟨i1,i2⟩,i3⟩:=jmr a hw hk [] (by simp;omega);obtain⟨p,g2,⟨j1,j2⟩,j3⟩:=jmr b hw' hk' p1 (by simp at i2;omega);have hnd:p.Nodup:=j3 (i3 List.nodup_nil);have hpm:∀n,n∈p↔n∈jjU a\/n∈jjU b:=λn=>by rw[j1,i1];simp
 have hsort:kZ p=r:=js3 _ _ (jvH hnd) hsrt λn=>by rw[hmem,<-hpm];unfold kZ;exact List.mem_mergeSort
 have hpl:p.length=r.length:=by rw[<-hsort];simp[kZ]
 have g1:jlX (sv a.name) (tms a.args) []=some (.top,[strs p1]):=g1;have g3:jp0 (p.map cs)=some (.top,[strs r]):=by
  rw[jxd];simp only[jeD,jck];rw[jc6 (by omega),hsort]
 by_cases h12:r.length<=12;rotate_left
 .have hgt:((12:Nat):Int)<((r.length:Nat):Int):=by omega
  have hle:¬((r.length:Nat):Int)<=12:=by omega
  have hgt:(12:Int)<((r.length:Nat):Int):=by omega
  have hz:¬((r.length:Nat):Int)=0:=by omega
  refine⟨0,?_,?_,λh=>absurd h (by decide)⟩
  .simp only[evz,e1,f1,f2,hz,hgt]
  .simp only[evz,e2,g1,g2,hpl,hgt]
 have hle:((r.length:Nat):Int)<=12:=by omega
 have hgt:¬(12:Int)<((r.length:Nat):Int):=by omega
 have hrep:=jyI h12;have hci:(ints (List.replicate r.length 1):A) = .sl 1 (List.replicate r.length [vi 1]):=by show A.sl 1 _=_;rw[List.map_replicate]
 have hod:(od (jog r):A) = .agg [strs r,.sl 1 (List.replicate r.length [vi 1]),vi 1]:=by rw[<-hci];rfl
 by_cases h0:r.length=0
 .have hr:r=[]:=List.length_eq_zero_iff.1 h0;have hz:((r.length:Nat):Int)=0:=by omega
  have va:jcE a.name=true:=by
   cases hv:jcE a.name
   .have:=(hmem a.name).2 (Or.inl (by rw[jkv,hv];simp))
    rw[hr]at this;cases this
   .rfl
  have vb':jcE b.name=true:=by
   cases hv:jcE b.name
   .have:=(hmem b.name).2 (Or.inr (by rw[jkv,hv];simp))
    rw[hr]at this;cases this
   .rfl
  have hne:¬a.name=b.name:=λe=>by
   rw[jyj,e,jkx hk va,jkx hk' vb',jnj]at hd;simp at hd
  have q:=jnJ (jog r) a b hw hw' false false (jqz _ a b hw hw' hk hk' va vb' hne) (jqz _ b a hw' hw hk' hk vb' va (λe=>hne e.symm));rw[hd,hod]at q;refine⟨0,?_,?_,λh=>absurd h (by decide)⟩
  .simp only[evz,e1,f1,f2,hz]
  .simp only[evz,e2,g1,g2,hpl,hgt,g3,hrep,q,jkZ]
 have hsym:∀n∈r,jiO n=true:=λn hn=>by
  rcases(hmem n).1 hn with h|h
  .exact jo7 a hk n h
  .exact jo7 b hk' n h
 have hval:=jtU (by omega) h12 hsym (jtN hsrt);have hca:jjh (jog r).syms a=true:=jqp _ a λn hn=>(hmem n).2 (Or.inl hn);have hcb:jjh (jog r).syms b=true:=jqp _ b λn hn=>(hmem n).2 (Or.inr hn);have howf:owf (jog r):=by
  refine⟨⟨λs hs=>?_,by show r.length<=_;omega⟩,⟨λx hx=>?_,by show(List.replicate r.length (1:Int)).length<=_;rw[ji0];omega⟩,by show I64 1;exact⟨by decide,by decide⟩⟩
  .have:=jvK (hsym s hs);omega
  .have:x=1:=by have:=jpe hx;exact this
   rw[this];exact⟨by decide,by decide⟩
 have q1:=jm6 (jog r) a b howf hw hs hw' hs';have q2:=jm1 hval a b howf hw hs hw' hs' hk hk' hca hcb;have q3:jkD (jog r) a b = .tup [vi (jkC (jog r) a b),vb true]:=by unfold jkD jlK;rw[hval,hva,hvb,hca,hcb];rfl
 rw[q3,hod]at q1;rw[hod]at q2;have q4:=jvI a b r h12 _ _ q1;have hz:¬((r.length:Nat):Int)=0:=by omega
 refine⟨jkC (jog r) a b,?_,?_,λh=>jyq hval hk hcb ((jwE _ _ _).1 h)⟩
 .simp only[evz,e1,f1,f2,hz,hgt,q4]
 .simp only[evz,e2,g1,g2,hpl,hgt,g3,hrep,q2]
theorem jqs{ts:Xg}{t:T}(h:t∈ts):dep t<=jke ts:=by
 induction ts with
 |nil=>cases h
 |cons u us ih=>
  simp only[jke];rcases zC.1 h with h|h
  .subst h;omega
  .have:=ih h;omega
theorem jo6{t u:T}(h:u∈t.args)(hs:jeO t=true):jeO u=true:=by
 simp only[jeO,QR,YZ]at hs⊢;have h1:=jis h;have h2:=jqs h;rw[jeU,jjw]at hs;omega
theorem jmN(t:T)(hs:Tz t)(he:¬t.name=[61]):G 29 [tm t]=some (vb (jiO t.name && jgE t),[]):=by
 have e1:=jk9 t.name ((jgC t).1 hs.wf).1;have e2:=jlp t hs.wf hs;rw[g29];cases h:jiO t.name<;>rw[h]at e1
 .simp only[evz,he,e1,Bool.false_and]
 .simp only[evz,he,e1,e2,Bool.true_and]
theorem juu{t:T}(h:jkq t=true):t.args.length=2/\Vs (jhp t)/\Vs (jii t)/\jeO t=true:=by
 have h':=h;unfold jkq at h;rw[QR,QR,QR,YZ]at h;obtain⟨h1,h2,h3,h4⟩:=h;obtain⟨_,_,ma,mb⟩:=jjK h1;have hn:nodes t<=30:=by simp only[jeO,QR,YZ]at h2;exact h2.1
 exact⟨h1,⟨h3,by have:=jks ma;show nodes (jm0 t)<=30;omega⟩,⟨h4,by have:=jks mb;show nodes (jov t)<=30;omega⟩,h2⟩
theorem js2(t:T)(hs:Tz t):∃b:Bool,G 14 [tm t]=some (vb b,[])/\G 21 [tm t]=some (vb b,[])/\(b=true->t.name=[61]/\jkq t=true/\jcE (jhp t).name=false):=by
 have hw:=hs.wf;obtain⟨w1,w2,w3⟩:=(jgC t).1 hw;have w3:=(jfY _).1 w3;have q0:=jkf t;by_cases he:t.name=[61];rotate_left
 .have e1:=jmN t hs he;rw[decide_eq_false he]at q0;refine⟨false,?_,?_,λh=>by cases h⟩
  .rw [g14];cases h1:(jiO t.name && jgE t)<;>rw[h1]at e1<;>simp only[evz,he,e1]
  .rw [g21];simp only[evz,q0]
 .have e1:=jlO t hw hs he;have e2:=jkR t hw hs he;rw[decide_eq_true he]at q0;have het:(t.name=[61])=True:=eq_true he;rw[g14,g21];cases h:jkq t<;>rw[h]at e1 e2
  .exact ⟨false,by simp only[evz,e1],by simp only[evz,q0,e2],λh=>by cases h⟩
  .obtain ⟨h1,v1,v2,hsm⟩:=juu h;obtain⟨i0,i1,ma,mb⟩:=jjK h1;have va:jgE (jm0 t)=true:=by unfold jgE;rw[jo6 ma hsm];exact v1.1
   have vb':jgE (jov t)=true:=by unfold jgE;rw[jo6 mb hsm];exact v2.1
   obtain⟨x,o1,o2,o3⟩:=jvf (jm0 t) (jov t) (w3 _ ma) (w3 _ mb) v1.tz v2.tz va vb';refine⟨decide (x=2),?_,?_,λhx=>⟨he,rfl,o3 (of_decide_eq_true hx)⟩⟩
   .simp only[evz,e1,het,i0,i1,jbK,o1]
   .simp only[evz,q0,e2,i0,i1,jbK,o2]
def EX'(root:Bool)(t:T):Prop:=EX root t/\(root=false->t.name=[61]/\t.args.length=2)
theorem jsP{us:Xg}(h:∀u∈us,okT u=true):jji us<=10*jct us:=by
 induction us with
 |nil=>simp[jji]
 |cons u us ih=>
  have:=jjy u (h u (by simp));have:=ih λw hw=>h w (by simp[hw]);simp only[jji,jct];omega
theorem jsQ{t:T}(h:okT t=true):¬t.name=[61]:=λe=>by
 rw[jiH,e]at h;exact absurd h (by
  rw[show jcE [61]=false from by decide,ko Bool.false_ne_true,show jiO [61]=false from by decide];simp)
theorem jss{t:T}(ht:Tz t)(h:okT t=true\/(t.name=[61]/\t.args.length=2/\ ∀u∈t.args,okT u=true)):G 92 [tm t]=some (vb (jeO t),[]):=by
 have e2:=jlp t ht.wf ht;rw[g92];rcases h with h|⟨h1,h2,h3⟩
 .have hv:jgE t=jeO t:=by unfold jgE;rw[h,Bool.and_true]
  rw[hv]at e2;have e1:=jmN t ht (jsQ h);rw[hv]at e1;cases hs:jeO t<;>rw[hs]at e1 e2
  .rw [Bool.and_false]at e1;simp only[evz,e1,e2]
  .simp only[evz,e2]
 .have hk:okT t=false:=by
   cases hk:okT t with
   |false=>rfl
   |true=>exact absurd h1 (jsQ hk)
  have hv:jgE t=false:=by unfold jgE;rw[hk,Bool.and_false]
  rw[hv]at e2;have e1:=jlO t ht.wf ht h1;obtain⟨_,_,ma,mb⟩:=jjK h2;have he:jkq t=jeO t:=by unfold jkq;rw[decide_eq_true h2,h3 _ ma,h3 _ mb];simp
  rw[he]at e1;simp only[evz,e1,e2]
def jCH(o:Option (T×Nat)):Xe:=match o with|some r=>some (.tup [tm r.1,vi (r.2:Nat),vb true],[])|none=>some (.tup [.agg [sv [],.sl 2 []],vi 0,vb false],[])
theorem Vs.ex{t:T}(h:Vs t):EX' true t:=⟨⟨⟨by have:=h.2;omega,h.tz⟩,h.args,λ_=>h⟩,λh=>by cases h⟩
structure Law3{α:Type}(c:α->α->Int):Prop where
 zero:∀a b,c a b=0↔a=b
 flip:∀a b,c b a = -(c a b)
 trans:∀a b d,c a b<0->c b d<0->c a d<0
section
variable{α:Type}{c:α->α->Int}
def Asc(c:α->α->Int)(l:List α):Prop:=l.Pairwise λa b=>c a b<0
def jzm(eq:α->α->Bool):List α->List α
 | []=>[]
 |a::l=>(match jzm eq l with| []=>[a]|b::m=>if eq a b then b::m else a::b::m)
theorem jlI{p:α->Bool} :∀{l:List α}{a:α},a∈l.takeWhile p->p a=true
 |x::l,a,h=>by
  by_cases hx:p x=true
  .rw [List.takeWhile_cons_of_pos hx]at h;rcases zC.1 h with e|e
   .rw [e];exact hx
   .exact jlI e
  .rw [List.takeWhile_cons_of_neg hx]at h;cases h
def jox(c:α->α->Int)(l:List α)(x:α):List α:=if(l.dropWhile λa=>decide (c a x<0)).head?.any (λb=>decide (c b x=0))then l else l.takeWhile (λa=>decide (c a x<0))++x::l.dropWhile λa=>decide (c a x<0)
theorem juy(h:Law3 c){l:List α}(hl:Asc c l)(x:α):Asc c (jox c l x)/\ ∀y,y∈jox c l x↔y∈l\/y=x:=by
 have e:=List.takeWhile_append_dropWhile (p:=λa=>decide (c a x<0)) (l:=l);have ht:∀a∈l.takeWhile (λa=>decide (c a x<0)),c a x<0:=λa ha=>of_decide_eq_true (jlI (p:=λa=>decide (c a x<0)) ha);unfold jox;generalize l.takeWhile (λa=>decide (c a x<0))=t at *;cases hd:l.dropWhile (λa=>decide (c a x<0))with
 |nil=>
  rw[hd,KO]at e;subst e;rw[ko (by simp)];refine⟨?_,λy=>by simp⟩;refine List.pairwise_append.2 ⟨hl,by simp,λa ha b hb=>?_⟩;simp only[j6]at hb;rw[hb];exact ht a ha
 |cons b m=>
  have hb:¬c b x<0:=by
   intro hb;have:=List.head?_dropWhile_not (p:=λa=>decide (c a x<0)) l;rw[hd]at this;simp[hb]at this
  rw[hd]at e;by_cases h0:c b x=0
  .rw [jc6 (by simp[h0])];refine⟨hl,λy=>⟨Or.inl,λhy=>?_⟩⟩;rcases hy with hy|hy
   .exact hy
   .rw [hy,<-(h.zero b x).1 h0,<-e];simp
  .rw [ko (by simp[h0])];rw[<-e]at hl;obtain⟨p1,p2,p3⟩:=List.pairwise_append.1 hl;have hxb:c x b<0:=by have:=h.flip b x;omega
   refine⟨List.pairwise_append.2 ⟨p1,List.pairwise_cons.2 ⟨λy hy=>?_,p2⟩,λa ha y hy=>?_⟩,λy=>?_⟩
   .rcases zC.1 hy with e'|e'
    .rw [e'];exact hxb
    .exact h.trans x b y hxb ((List.pairwise_cons.1 p2).1 y e')
   .rcases zC.1 hy with e'|e'
    .rw [e'];exact ht a ha
    .exact p3 a ha y e'
   .rw [<-e];simp only[YW,zC];constructor
    .rintro (h|h|h|h)
     .exact Or.inl (Or.inl h)
     .exact Or.inr h
     .exact Or.inl (Or.inr (Or.inl h))
     .exact Or.inl (Or.inr (Or.inr h))
    .rintro ((h|h|h)|h)
     .exact Or.inl h
     .exact Or.inr (Or.inr (Or.inl h))
     .exact Or.inr (Or.inr (Or.inr h))
     .exact Or.inr (Or.inl h)
def jlG(c:α->α->Int)(l:List α):List α:=l.foldl (jox c) []
theorem jtn(h:Law3 c)(l:List α):Asc c (jlG c l)/\ ∀y,y∈jlG c l↔y∈l:=by
 have key:∀(l m:List α),Asc c m->Asc c (l.foldl (jox c) m)/\ ∀y,y∈l.foldl (jox c) m↔y∈m\/y∈l:=by
  intro l;induction l with
  |nil=>intro m hm;exact⟨hm,λy=>by simp⟩
  |cons x l ih=>
   intro m hm;obtain⟨g1,g2⟩:=juy h hm x;obtain⟨k1,k2⟩:=ih _ g1;refine⟨k1,λy=>?_⟩;rw[List.foldl_cons,k2,g2,zC,or_assoc]
 obtain⟨g1,g2⟩:=key l [] List.Pairwise.nil;exact⟨g1,λy=>by rw[jlG,g2];simp⟩
end
theorem jyt{α β γ:Type}{f:γ->α}{g:γ->β}{c:α->α->Int}{d:β->β->Int}(hc:Law3 c)(hd:Law3 d)(hi:∀x y,f x=f y->g x=g y->x=y):Law3 λx y:γ=>if c (f x) (f y)≠0 then c (f x) (f y)else d (g x) (g y):=by
 refine⟨λa b=>?_,λa b=>?_,λa b e=>?_⟩
 .show (if c (f a) (f b)≠0 then c (f a) (f b)else d (g a) (g b))=0↔_;by_cases h:c (f a) (f b)=0
  .rw [ko (λh'=>h' h),hd.zero];exact⟨λh2=>hi a b ((hc.zero _ _).1 h) h2,λh2=>by rw[h2]⟩
  .rw [jc6 h];exact⟨λh2=>absurd h2 h,λh2=>by rw[h2]at h;exact absurd ((hc.zero _ _).2 rfl) h⟩
 .show (if c (f b) (f a)≠0 then c (f b) (f a)else d (g b) (g a)) = -(if c (f a) (f b)≠0 then c (f a) (f b)else d (g a) (g b));rw[hc.flip (f a) (f b),hd.flip (g a) (g b)];by_cases h:c (f a) (f b)=0
  .rw [ko (by omega),ko (by omega)]
  .rw [jc6 (by omega),jc6 (by omega)]
 .show (if c (f a) (f b)≠0 then c (f a) (f b)else d (g a) (g b))<0->(if c (f b) (f e)≠0 then c (f b) (f e)else d (g b) (g e))<0->(if c (f a) (f e)≠0 then c (f a) (f e)else d (g a) (g e))<0;by_cases h1:c (f a) (f b)=0
  .have e1:=(hc.zero _ _).1 h1;rw[ko (λh'=>h' h1),e1];by_cases h2:c (f b) (f e)=0
   .rw [ko (λh'=>h' h2),ko (λh'=>h' h2)];exact hd.trans _ _ _
   .rw [jc6 h2,jc6 h2];exact λ_ h=>h
  .rw [jc6 h1];by_cases h2:c (f b) (f e)=0
   .have e2:=(hc.zero _ _).1 h2;rw[ko (λh'=>h' h2),<-e2,jc6 h1];exact λh _=>h
   .rw [jc6 h2];intro h3 h4;have:=hc.trans _ _ _ h3 h4;rw[jc6 (by omega)];exact this
def ji4(x y:Xb):Int:=if sLt x y then -1 else if x=y then 0 else 1
theorem jko:Law3 ji4:=by
 have irr:=jlv;have asy:∀x y,sLt x y=true->sLt y x=true->False:=λx y h1 h2=>by
  rw[jkN,YZ]at h1 h2;exact absurd (List.lt_trans h1 h2) (List.lt_irrefl _)
 have tot:∀x y,x=y\/sLt x y=true\/sLt y x=true:=λx y=>by
  rw[jkN,jkN,YZ,YZ];rcases Classical.em (x<y)with h|h
  .exact Or.inr (Or.inl h)
  rcases Classical.em (y<x)with h'|h'
  .exact Or.inr (Or.inr h')
  .exact Or.inl (List.le_antisymm (List.not_lt.1 h') (List.not_lt.1 h))
 have tr:∀x y z,sLt x y=true->sLt y z=true->sLt x z=true:=λx y z h1 h2=>by
  rw[jkN,YZ]at *;exact List.lt_trans h1 h2
 have neg:∀x y,ji4 x y<0↔sLt x y=true:=λx y=>by
  unfold ji4;cases h:sLt x y with
  |true=>simp
  |false=>
   rw[ko Bool.false_ne_true];split<;>simp
 refine⟨λa b=>?_,λa b=>?_,λa b d h1 h2=>(neg _ _).2 (tr _ _ _ ((neg _ _).1 h1) ((neg _ _).1 h2))⟩
 .unfold ji4;cases h:sLt a b with
  |true=>rw[jc6 rfl];exact⟨λh'=>by omega,λe=>by rw[e,irr]at h;cases h⟩
  |false=>
   rw[ko Bool.false_ne_true];by_cases e:a=b
   .rw [jc6 e];exact⟨λ_=>e,λ_=>rfl⟩
   .rw [ko e];exact⟨λh'=>by omega,λh'=>absurd h' e⟩
 .unfold ji4;rcases tot a b with e|e|e
  .subst e;rw[irr,ko Bool.false_ne_true,jc6 rfl];rfl
  .have h2:sLt b a=false:=by
    cases h:sLt b a with
    |false=>rfl
    |true=>exact(asy _ _ e h).elim
   have hne:¬b=a:=λh=>by rw[h,irr]at e;cases e
   rw[e,h2,ko Bool.false_ne_true,ko hne,jc6 rfl];rfl
  .have h2:sLt a b=false:=by
    cases h:sLt a b with
    |false=>rfl
    |true=>exact(asy _ _ e h).elim
   have hne:¬a=b:=λh=>by rw[h,irr]at e;cases e
   rw[e,h2,ko Bool.false_ne_true,ko hne,jc6 rfl]
def jrt(x y:Nat):Int:=if x<y then -1 else if y<x then 1 else 0
theorem jnI:Law3 jrt:=by
 refine⟨λa b=>?_,λa b=>?_,λa b d=>?_⟩<;>unfold jrt
 .split
  .omega
  .split<;>omega
 .split<;>split<;>(try split)<;>omega
 .intro h1 h2;by_cases h:a<b
  .by_cases h3:b<d
   .rw [jc6 (by omega)];omega
   .rw [ko h3]at h2;split at h2<;>omega
  .rw [ko h]at h1;split at h1<;>omega
def vF(n:Xb):Nat:=if jcE n then 0 else 1
abbrev Key:=Nat×(Xb×Nat)
def cK(x y:Key):Int:=if jrt x.1 y.1≠0 then jrt x.1 y.1 else if ji4 x.2.1 y.2.1≠0 then ji4 x.2.1 y.2.1 else jrt x.2.2 y.2.2
theorem jkY:Law3 cK:=by
 have h2:Law3 λx y:Xb×Nat=>if ji4 x.1 y.1≠0 then ji4 x.1 y.1 else jrt x.2 y.2:=jyt (f:=Prod.fst) (g:=Prod.snd) jko jnI λx y h1 h2=>Prod.ext h1 h2;exact jyt (f:=Prod.fst) (g:=Prod.snd) jnI h2 λx y h1 h2=>Prod.ext h1 h2
def jjP(t:T):Key:=(vF t.name,(t.name,t.args.length))
mutual
def jkB(a b:T):Int:=
 match a with
 |.mk n us=>if cK (jjP (.mk n us)) (jjP b)≠0 then cK (jjP (.mk n us)) (jjP b)else jjC us b.args
termination_by structural a
def jjC(xs bs:Xg):Int:=
 match xs with
 | []=>0
 |a::xs=>(match bs with| []=>0|b::bs=>if jkB a b≠0 then jkB a b else jjC xs bs)
termination_by structural xs
end
theorem jni(a b:T):jkB a b=if cK (jjP a) (jjP b)≠0 then cK (jjP a) (jjP b)else jjC a.args b.args:=by cases a;rfl
theorem jpz{a b:T}(h:jjP a=jjP b):a.name=b.name/\a.args.length=b.args.length:=by
 unfold jjP at h;simp only[KM]at h;exact h.2
theorem jy2{a b:T}(h1:a.name=b.name)(h2:a.args=b.args):a=b:=by
 cases a;cases b;simp only[T.name,T.args]at h1 h2;rw[h1,h2]
theorem jx2:∀{xs bs:Xg},(∀u∈xs,∀v,jkB u v=0↔u=v)->xs.length=bs.length->(jjC xs bs=0↔xs=bs)
 | [],[],_,_=>by simp[jjC]
 | [],_::_,_,h=>by cases h
 |_::_,[],_,h=>by cases h
 |a::xs,b::bs,h,hl=>by
  rw[jjC];have ih:=jx2 (xs:=xs) (bs:=bs) (λu hu=>h u (by simp[hu])) (Nat.succ.inj hl);by_cases h0:jkB a b=0
  .rw [ko (λh'=>h' h0),ih,(h a (by simp) b).1 h0];simp
  .rw [jc6 h0];exact⟨λh'=>absurd h' h0,λe=>by rw[kq]at e;exact(h a (by simp) b).2 e.1⟩
theorem jxe:∀{xs bs:Xg},(∀u∈xs,∀v,jkB v u = -(jkB u v))->xs.length=bs.length->jjC bs xs = -(jjC xs bs)
 | [],[],_,_=>by simp[jjC]
 | [],_::_,_,h=>by cases h
 |_::_,[],_,h=>by cases h
 |a::xs,b::bs,h,hl=>by
  rw[jjC,jjC,h a (by simp) b,jxe (xs:=xs) (bs:=bs) (λu hu=>h u (by simp[hu])) (Nat.succ.inj hl)];by_cases h0:jkB a b=0
  .rw [ko (by omega),ko (by omega)]
  .rw [jc6 (by omega),jc6 (by omega)]
theorem jvO(z:∀u v:T,jkB u v=0↔u=v):∀{xs bs ds:Xg},(∀u∈xs,∀v w,jkB u v<0->jkB v w<0->jkB u w<0)->xs.length=bs.length->bs.length=ds.length->jjC xs bs<0->jjC bs ds<0->jjC xs ds<0
 | [],_,_,_,_,_,h1,_=>by simp[jjC]at h1
 |a::xs,[],_,_,h,_,_,_=>by cases h
 |a::xs,b::bs,[],_,_,h,_,_=>by cases h
 |a::xs,b::bs,d::ds,h,hl,hl2,h1,h2=>by
  rw[jjC]at h1 h2⊢;by_cases c1:jkB a b=0
  .have e1:=(z a b).1 c1;rw[ko (λh'=>h' c1)]at h1;rw[e1];by_cases c2:jkB b d=0
   .rw [ko (λh'=>h' c2)]at h2;rw[ko (λh'=>h' c2)];exact jvO z (λu hu=>h u (by simp[hu])) (Nat.succ.inj hl) (Nat.succ.inj hl2) h1 h2
   .rw [jc6 c2]at h2;rw[jc6 c2];exact h2
  .rw [jc6 c1]at h1;by_cases c2:jkB b d=0
   .rw [<-(z b d).1 c2,jc6 c1];exact h1
   .rw [jc6 c2]at h2;have:=h a (by simp) b d h1 h2;rw[jc6 (by omega)];exact this
theorem juj:Law3 jkB:=by
 have z:∀a b:T,jkB a b=0↔a=b:=by
  refine T.ind λa ih b=>?_;rw[jni];by_cases h:cK (jjP a) (jjP b)=0
  .have hk:=(jkY.zero _ _).1 h;obtain⟨h1,h2⟩:=jpz hk;rw[ko (λh'=>h' h),jx2 ih h2];exact⟨λe=>jy2 h1 e,λe=>by rw[e]⟩
  .rw [jc6 h];exact⟨λh'=>absurd h' h,λe=>by rw[e]at h;exact absurd ((jkY.zero _ _).2 rfl) h⟩
 refine⟨z,?_,?_⟩
 .refine T.ind λa ih b=>?_;rw[jni,jni a b,jkY.flip (jjP a) (jjP b)];by_cases h:cK (jjP a) (jjP b)=0
  .obtain ⟨_,h2⟩:=jpz ((jkY.zero _ _).1 h);rw[ko (by omega),ko (by omega),jxe ih h2]
  .rw [jc6 (by omega),jc6 (by omega)]
 .refine T.ind λa ih b d h1 h2=>?_;rw[jni]at h1 h2⊢;by_cases c1:cK (jjP a) (jjP b)=0
  .have e1:=(jkY.zero _ _).1 c1;rw[ko (λh'=>h' c1)]at h1;rw[e1];by_cases c2:cK (jjP b) (jjP d)=0
   .have e2:=(jkY.zero _ _).1 c2;rw[ko (λh'=>h' c2)]at h2;rw[ko (λh'=>h' c2)];exact jvO z ih (jpz e1).2 (jpz e2).2 h1 h2
   .rw [jc6 c2]at h2;rw[jc6 c2];exact h2
  .rw [jc6 c1]at h1;by_cases c2:cK (jjP b) (jjP d)=0
   .rw [<-(jkY.zero _ _).1 c2,jc6 c1];exact h1
   .rw [jc6 c2]at h2;have:=jkY.trans _ _ _ h1 h2;rw[jc6 (by omega)];exact this
def upN:Xb->Bool
 | []=>false
 |c::_=>upc c
mutual
def val(M:Xb->Xi->Int)(e:Xb->Int):T->Int
 |.mk n us=>if us.isEmpty && upN n then e n else M n (jz1 M e us)
def jz1(M:Xb->Xi->Int)(e:Xb->Int):Xg->Xi
 | []=>[]
 |t::ts=>val M e t::jz1 M e ts
end
section
variable{M:Xb->Xi->Int}
def Ext(m m':jeM):Prop:=∀x r,look m x=some r->look m' x=some r
theorem Ext.refl(m:jeM):Ext m m:=λ_ _ h=>h
theorem Ext.trans{a b c:jeM}(h:Ext a b)(h':Ext b c):Ext a c:=λx r hx=>h' x r (h x r hx)
variable{jlK:Int->Prop}
def jBc(M:Xb->Xi->Int)(jlK:Int->Prop)(rs:Xg):Prop:=∀r∈rs,∀e:Xb->Int,(∀x,jlK (e x))->val M e (jhp r)=val M e (jii r)
end
def dec(n:Nat):Nat->Nat->Xf
 |0,_=>[]
 |l+1,k=>k % n::dec n l (k / n)
def enc(n:Nat):Xf->Nat
 | []=>0
 |v::vs=>v+n*enc n vs
def vnA(l:Xa)(n:Xb):Xa:=if l.contains n then l else l++[n]
mutual
def vn(l:Xa):T->Xa
 |.mk n us=>if us.isEmpty && upN n then vnA l n else vnL l us
def vnL(l:Xa):Xg->Xa
 | []=>l
 |t::ts=>vnL (vn l t) ts
end
def VIn(S:Xa)(t:T):Prop:=∀x∈jhn t,x∈S
abbrev Lt:=Bool×T
def fl(b:Bool):Nat:=if b then 1 else 0
def cmpL(a b:Lt):Int:=if jkB a.2 b.2≠0 then jkB a.2 b.2 else jrt (fl a.1) (fl b.1)
theorem juk:Law3 cmpL:=jyt (f:=Prod.snd) (g:=λl:Lt=>fl l.1) juj jnI λx y h1 h2=>by
 obtain⟨p,t⟩:=x;obtain⟨q,u⟩:=y;have h1:t=u:=h1;have h2:fl p=fl q:=h2;subst h1;cases p<;>cases q<;>first|rfl|(simp[fl]at h2)
abbrev Cls:=List Lt
def jy4:Cls->Bool
 |a::b::l=>decide (cmpL a b<0) && jy4 (b::l)
 |_=>true
mutual
def jiz(l:Xa):T->Xa
 |.mk n us=>if jcE n then vnA l n else jkK l us
def jkK(l:Xa):Xg->Xa
 | []=>l
 |t::ts=>jkK (jiz l t) ts
end
theorem jmj(l:Xa)(t:T):jiz l t=if jcE t.name then vnA l t.name else jkK l t.args:=by cases t;rfl
def jkJ(c:Cls):Xa:=c.foldl (λl x=>jiz l x.2) []
def jmF(p:UInt8)(i:Nat):Xb:=p::Lib.decDigits i
def jsC(c:Cls):Bool:=decide (jkJ c=(List.range (jkJ c).length).map (jmF 88))
mutual
def jik(f:Xb->Xb):T->T
 |.mk n us=>if jcE n then .mk (f n) []else .mk n (Je f us)
def Je(f:Xb->Xb):Xg->Xg
 | []=>[]
 |t::ts=>jik f t::Je f ts
end
theorem jq0(f:Xb->Xb):∀ts:Xg,Je f ts=ts.map (jik f)
 | []=>rfl
 |t::ts=>by rw[Je,jq0 f ts,ky]
theorem jlu(f:Xb->Xb)(t:T):jik f t=if jcE t.name then .mk (f t.name) []else .mk t.name (t.args.map (jik f)):=by
 cases t;rw[jik,jq0];rfl
def jiq(p:UInt8)(l:Xa)(n:Xb):Xb:=match l.findIdx? (λx=>decide (x=n))with|some i=>jmF p i|none=>n
def renC(p:UInt8)(c:Cls):Cls:=jlG cmpL (c.map λl=>(l.1,jik (jiq p (jkJ c)) l.2))
def normF:Nat->Cls->Cls
 |0,c=>c
 |k+1,c=>if jsC c then c else normF k (renC 88 c)
def normC(c:Cls):Cls:=normF 10 c
theorem ji9(t:T)(h:okT t=true\/t.name=[61]):G 48 [tm t]=some (vb (jcE t.name),[]):=by
 rcases h with h|h
 .exact jk7 t h
 .have e1:=jkG 61;have hx:jaj (sv t.name) (vi 0)=some (vy ((61:UInt8).toNat:Int)):=by rw[h];exact jiK
  have hv:jcE t.name=upc 61:=by rw[h];decide
  rw[g48,hv];simp only[evz,hx,e1]
theorem jlJ(x y:Xb):ji4 x y=if sLt x y then -1 else if sLt y x then 1 else 0:=by
 have hf:=jko.flip x y;cases h1:sLt x y with
 |true=>unfold ji4;rw[h1];rfl
 |false=>
  rw[ko Bool.false_ne_true];cases h2:sLt y x with
  |true=>
   have:ji4 y x = -1:=by unfold ji4;rw[h2,jc6 rfl]
   rw[jc6 rfl];omega
  |false=>
   rw[ko Bool.false_ne_true];have a1:ji4 x y=0\/ji4 x y=1:=by
    unfold ji4;rw[h1,ko Bool.false_ne_true];split<;>simp
   have a2:ji4 y x=0\/ji4 y x=1:=by
    unfold ji4;rw[h2,ko Bool.false_ne_true];split<;>simp
   omega
theorem jo3(b:Bool)(x y:Xb):jgm .gtr b (sv x) (sv y)=some (vb (sLt y x)):=by
 show some (vb (!(sLt x y || decide (x=y))))=_;by_cases e:x=y
 .subst e;rw[jlv,decide_eq_true rfl];rfl
 have h1:=jlJ x y;have h3:=jko.flip x y;have h4:=jlJ y x;rw[decide_eq_false e,Bool.or_false];cases a:sLt x y<;>cases c:sLt y x<;>rw[a,c]at h1 h4
 .exact absurd ((jko.zero x y).1 h1) e
 .rfl
 .rfl
 .have h1:ji4 x y = -1:=h1;have h4:ji4 y x = -1:=h4;omega
theorem jmO(x y:Xb):G 114 [sv x,sv y]=some (vi (ji4 x y),[]):=by
 have n1:G 146 [sv x]=some (vb false,[]):=by rw[jzu];simp only[evz]
 have n2:G 146 [sv y]=some (vb false,[]):=by rw[jzu];simp only[evz]
 rw[jAA,jlJ];cases h1:sLt x y<;>cases h2:sLt y x<;>simp only[evz,n1,n2,jo3,h1,h2]
def Rx'(t:T):Prop:=okT t=true\/(t.name=[61]/\ ∀u∈t.args,okT u=true)
theorem Rx'.args{t:T}(h:Rx' t):∀u∈t.args,Rx' u:=λu hu=>Or.inl (by
 rcases h with h|h
 .exact jhU h u hu
 .exact h.2 u hu)
abbrev ltc(l:Lt):Xd:=[vb l.1,sv l.2.name,.sl 2 (l.2.args.map jbL)]
abbrev ltm(l:Lt):A:= .agg [vb l.1,sv l.2.name,.sl 2 (l.2.args.map jbL)]
def jnG(t:T):Bool:=if t.name=[61]then jkq t else jiO t.name && jgE t
abbrev cm(c:Cls):A:= .agg [.sl 3 (c.map ltc)]
def jvS(c:Cls):Bool:=c.all (λl=>jnG l.2) && (jy4 c && decide (c.length<=8))
def jz0:Option Lt->Cls->Bool
 |_,[]=>true
 |none,l::r=>jnG l.2 && jz0 (some l) r
 |some p,l::r=>jnG l.2 && (decide (cmpL p l<0) && jz0 (some l) r)
theorem jyQ(l:Xa)(n:Xb):(vnA l n).length<=l.length+1:=by
 unfold vnA;split
 .omega
 .simp
theorem jxU{n:Nat}(h:n<=4194304):jbb n 16=true:=by
 unfold jbb;exact decide_eq_true ⟨by omega,by omega⟩
theorem jlr:∀(t:T)(l:Xa),(jiz l t).length<=l.length+nodes t:=by
 refine T.ind λt ih l=>?_;have hn:=jeU t;rw[jmj];split
 .have:=jyQ l t.name;omega
 .have key:∀us:Xg,(∀u∈us,u∈t.args)-> ∀l:Xa,(jkK l us).length<=l.length+jct us:=by
   intro us;induction us with
   |nil=>intro _ l;simp[jkK,jct]
   |cons u us ih2=>
    intro hu l;have h1:=ih u (hu u (by simp)) l;have h2:=ih2 (λv hv=>hu v (by simp[hv])) (jiz l u);rw[jkK,jct];omega
  have:=key t.args (λ_ h=>h) l;omega
theorem jlQ:∀t:T,Tz t-> ∀l:Xa,l.length+nodes t<=4000000->jpY (tm t) (l.map cs)=some (.top,[.sl 1 ((jiz l t).map cs)]):=by
 refine T.ind λt ih ht l hl=>?_;have hz:=ht;unfold Tz at hz;rw[jhq]at hz;have hn:=jeU t;have e0:=jhT t.name (((jgC t).1 ht.wf).1);have e1:=jpE l t.name (by show l.length<=9223372036854775807;omega);have key:=upto (P:=λi=>∀l:Xa,l.length+jct (t.args.drop i)<=4000000->jnc (vi (i:Nat)) (sv t.name) (tms t.args) (l.map cs)=some (.top,[.sl 1 ((jkK l (t.args.drop i)).map cs)])) (n:=t.args.length) ?_ ?_ 0 (Nat.zero_le _);rotate_left
 .intro l _;rw[jpB,List.drop_length];simp only[evz];rfl
 .intro i hi ihi l hl;have hlt:(i:Int)<((t.args.length:Nat):Int):=by omega
  have h5:=jeN hi (by show t.args.length<=9223372036854775807;omega)
  rw[jcS hi,jct]at hl;have q:=ih t.args[i] (jdM hi) (ht.args _ (jdM hi)) l (by omega);have hln:=jlr t.args[i] l;have q2:=ihi (jiz l t.args[i]) (by omega);rw[jpB,jcS hi,jkK];generalize jiz l t.args[i]=l' at *;have hr:hR 1 (A.top,[.sl 1 (l'.map cs)]) 0=some (l'.map cs):=rfl;simp only[evz,hlt,jay hi,jbK,q,hr,h5,q2]
 have e2:jnb (vi 0) (sv t.name) (tms t.args) (l.map cs)=some (.top,[.sl 1 ((jkK l t.args).map cs)]):=by
  have key:=key l (by rw[List.drop_zero];omega)
  rw[List.drop_zero]at key;have:jnb (vi 0) (sv t.name) (tms t.args) (l.map cs)=jnc (vi 0) (sv t.name) (tms t.args) (l.map cs):=by rw[jwH,jpB]
  rw[this];exact key
 rw[jy8,jmj];cases hv:jcE t.name<;>rw[hv]at e0
 .rw [ko Bool.false_ne_true];simp only[evz,e0,e2]
 .rw [jc6 rfl];unfold vnA;cases hc:l.contains t.name<;>rw[hc]at e1
  .have f:jbb (l.length+1) 16=true:=jxU (by omega);rw[ko Bool.false_ne_true,jB];simp only[evz,e0,e1,f];rfl
  .rw [jc6 rfl];simp only[evz,e0,e1]
theorem jqm:∀t:T,Rx' t->Tz t-> ∀l:Xa,l.length+nodes t<=4000000->jlW (sv t.name) (tms t.args) (l.map cs)=some (.top,[.sl 1 ((jiz l t).map cs)]):=by
 refine T.ind λt ih hk ht l hl=>?_;have hz:=ht;unfold Tz at hz;rw[jhq]at hz;have hn:=jeU t;have e0:=ji9 t (hk.imp id λh=>h.1);have e1:=jjn l t.name (by show l.length<=9223372036854775807;omega);have key:=upto (P:=λi=>∀l:Xa,l.length+jct (t.args.drop i)<=4000000->jl3 (tms t.args) (vi (t.args.length:Nat)) (vi (i:Nat)) (l.map cs)=some (.top,[.sl 1 ((jkK l (t.args.drop i)).map cs)])) (n:=t.args.length) ?_ ?_ 0 (Nat.zero_le _);rotate_left
 .intro l _;rw[jmf,List.drop_length];simp only[evz];rfl
 .intro i hi ihi l hl;have hlt:(i:Int)<((t.args.length:Nat):Int):=by omega
  have h5:=jeN hi (by show t.args.length<=9223372036854775807;omega)
  rw[jcS hi,jct]at hl;have q:=ih t.args[i] (jdM hi) (hk.args _ (jdM hi)) (ht.args _ (jdM hi)) l (by omega);have hln:=jlr t.args[i] l;have q2:=ihi (jiz l t.args[i]) (by omega);rw[jmf,jcS hi,jkK];generalize jiz l t.args[i]=l' at *;have hr:hR 1 (A.top,[.sl 1 (l'.map cs)]) 0=some (l'.map cs):=rfl;simp only[evz,hlt,jay hi,jbK,q,hr,h5,q2]
 have e2:jl2 (tms t.args) (vi (t.args.length:Nat)) (vi 0) (l.map cs)=some (.top,[.sl 1 ((jkK l t.args).map cs)]):=by
  have key:=key l (by rw[List.drop_zero];omega)
  rw[List.drop_zero]at key;have:∀n:A,jl2 (tms t.args) n (vi 0) (l.map cs)=jl3 (tms t.args) n (vi 0) (l.map cs):=λn=>by rw[jsG,jmf]
  rw[this];exact key
 rw[jxc,jmj];cases hv:jcE t.name<;>rw[hv]at e0
 .rw [ko Bool.false_ne_true];by_cases hl0:((t.args.length:Nat):Int)=0
  .simp only[evz,hl0,e0];rw[hl0]at e2;exact e2
  .simp only[evz,hl0,e2]
 .have ha:t.args=[]:=by
   rcases hk with h|h
   .exact jkw h hv
   .rw [h.1]at hv;exact absurd hv (by decide)
  have hl0:((t.args.length:Nat):Int)=0:=by rw[ha];rfl
  rw[jc6 rfl];unfold vnA;cases hc:l.contains t.name<;>rw[hc]at e1
  .have f:jbb (l.length+1) 16=true:=jxU (by omega);rw[ko Bool.false_ne_true,jB];simp only[evz,hl0,e0,e1,f];rfl
  .rw [jc6 rfl];simp only[evz,hl0,e0,e1]
abbrev Eqs:=List (T×T)
def jqh:jeM->Bool
 | []=>true
 | [_]=>true
 |p::q::s=>sLt p.1 q.1 && jqh (q::s)
noncomputable def jfl(s:jeM):Bool:=decide (s.length<=12) && (jqh s && s.all λq=>jcE q.1 && (jgE q.2 && !dq q.2.name q.1))
def jhu(s u:jeM):jeM:=jlS (s.map (λq=>(q.1,sub u q.2))++u.filter λq=>(look s q.1).isNone)
def jeL(x y:T):Xb×T:=if jcE x.name=false\/(jcE y.name=true/\sLt x.name y.name=true)then(y.name,x)else(x.name,y)
noncomputable def jiA(s:jeM)(l r:T)(rest:Eqs):Option (jeM×Eqs):=
 if jeO (sub s l)=false\/jeO (sub s r)=false then none
 else if dq (sub s l) (sub s r)then some (s,rest)
 else if jcE (sub s l).name=true\/jcE (sub s r).name=true then
  (if(jeL (sub s l) (sub s r)).1∈jhn (jeL (sub s l) (sub s r)).2\/jfl [jeL (sub s l) (sub s r)]=false\/jfl (jhu s [jeL (sub s l) (sub s r)])=false then none else some (jhu s [jeL (sub s l) (sub s r)],rest))
 else if(sub s l).name=(sub s r).name/\(sub s l).args.length=(sub s r).args.length then some (s,(sub s l).args.zip (sub s r).args++rest)else none
noncomputable def jhe:Nat->jeM->Eqs->Option (Option jeM)
 |_,s,[]=>some (some s)
 |0,_,_::_=>none
 |k+1,s,p::rest=>(match jiA s p.1 p.2 rest with|none=>some none|some q=>jhe k q.1 q.2)
def Exx(t:T):Prop:=(okT t=true\/(t.name=[61]/\t.args.length=2/\ ∀u∈t.args,okT u=true))/\nodes t<=31
def IdS(s:jeM):Prop:=∀q∈s,∀x∈jhn q.2,look s x=none
def jjq(s:jeM)(es:Eqs):Prop:=jfl s=true/\IdS s/\ ∀p∈es,Exx p.1/\Exx p.2
theorem jfK{s:jeM}(h:jfl s=true):s.length<=12/\jqh s=true/\ ∀q∈s,jcE q.1=true/\jgE q.2=true/\q.2.name≠q.1:=by
 unfold jfl at h;rw[QR,YZ,QR,jz]at h;refine⟨h.1,h.2.1,λq hq=>?_⟩;have:=h.2.2 q hq;rw[QR,QR,yR]at this;exact⟨this.1,this.2.1,λe=>by rw[e,jnj]at this;exact absurd this.2.2 (by decide)⟩
theorem jlA{t:T}(h:jgE t=true):okT t=true:=by
 unfold jgE at h;rw[QR]at h;exact h.2
theorem vsv{t:T}(h:jcE t.name=true):jhn t=[t.name]:=by rw[jjW,h,jc6 rfl]
theorem vsf{t:T}(h:jcE t.name=false):jhn t=jic t.args:=by rw[jjW,h,ko Bool.false_ne_true]
theorem jiT{x:Xb} :∀{ts:Xg},x∈jic ts↔ ∃t∈ts,x∈jhn t
 | []=>by simp[jic]
 |t::ts=>by rw[jic,YW,jiT];simp
theorem joo{s:jeM}(hs:IdS s):∀(w:T){x:Xb},x∈jhn (sub s w)->look s x=none:=by
 refine T.ind (p:=λw=>∀{x:Xb},x∈jhn (sub s w)->look s x=none) λw ih=>?_;intro x hx;cases hv:jcE w.name with
 |true=>
  rw[jka hv,jm7]at hx;cases hl:look s w.name with
  |some r=>rw[hl]at hx;exact hs _ (jkI hl) x hx
  |none=>
   rw[hl]at hx;have hx:x∈jhn (.mk w.name []):=hx;rw[vsv (t:= .mk w.name []) hv,j6]at hx;rw[hx];exact hl
 |false=>
  rw[jjp hv,vsf (t:= .mk w.name (w.args.map (sub s))) hv,jiT]at hx;obtain⟨t,ht,hx⟩:=hx;obtain⟨a,ha,rfl⟩:=j7.1 ht;exact ih a ha hx
theorem jpb{n:Xb}{t:T} :∀(w:T){x:Xb},x∈jhn (sub [(n,t)] w)->(x∈jhn w/\x≠n)\/x∈jhn t:=by
 refine T.ind (p:=λw=>∀{x:Xb},x∈jhn (sub [(n,t)] w)->(x∈jhn w/\x≠n)\/x∈jhn t) λw ih=>?_;intro x hx;cases hv:jcE w.name with
 |true=>
  rw[jka hv,jm7]at hx;by_cases hn:n=w.name
  .have:look [(n,t)] w.name=some t:=by rw[look,jc6 hn]
   rw[this]at hx;exact Or.inr hx
  .have:look [(n,t)] w.name=none:=by rw[look,ko hn,look]
   rw[this]at hx;have hx:x∈jhn (.mk w.name []):=hx;rw[vsv (t:= .mk w.name []) hv,j6]at hx;left;rw[vsv hv,hx];exact⟨by simp[T.name],λe=>hn e.symm⟩
 |false=>
  rw[jjp hv,vsf (t:= .mk w.name (w.args.map (sub [(n,t)]))) hv,jiT]at hx;obtain⟨u,hu,hx⟩:=hx;obtain⟨a,ha,rfl⟩:=j7.1 hu;rcases ih a ha hx with⟨h1,h2⟩|h
  .left;rw[vsf hv,jiT];exact⟨⟨a,ha,h1⟩,h2⟩
  .exact Or.inr h
theorem jrU{s:jeM} :∀(w:T),okT w=true->(∀x∈jhn w,look s x=none)->sub s w=w:=by
 refine T.ind λw ih=>?_;intro hk h;cases hv:jcE w.name with
 |true=>
  rw[jka hv,jm7,h w.name (by rw[vsv hv];simp)]
  have ha:=jkw hk hv;show T.mk w.name []=w;rw[<-ha,T.eta]
 |false=>
  rw[jjp hv];have:w.args.map (sub s)=w.args:=by
   conv=>rhs;rw[<-List.map_id w.args]
   refine List.map_congr_left λa ha=>ih a ha (jhU hk a ha) λx hx=>h x ?_;rw[vsf hv,jiT];exact⟨a,ha,hx⟩
  rw[this,T.eta]
theorem joc{s:jeM}{n:Xb}{t:T}{q:Xb×T} :q∈jkg s n t↔q∈s\/q=(n,t):=by
 unfold jkg;have e:=List.takeWhile_append_dropWhile (p:=λp:Xb×T=>sLt p.1 n) (l:=s);constructor
 .intro h;rcases YW.1 h with h|h
  .left;rw[<-e];exact jbC _ h
  .rcases zC.1 h with h|h
   .exact Or.inr h
   .left;rw[<-e];exact KP _ h
 .rintro (h|h)
  .rw [<-e]at h;rcases YW.1 h with h|h
   .exact jbC _ h
   .exact KP _ (kT _ h)
  .rw [h];exact KP _ (YY ..)
theorem jvx(s:jeM)(n:Xb)(t:T):(jkg s n t).length=s.length+1:=by
 unfold jkg;have e:=congrArg List.length (List.takeWhile_append_dropWhile (p:=λp:Xb×T=>sLt p.1 n) (l:=s));rw[qg]at e;rw[qg,zz];omega
theorem jj9:∀(m s:jeM),(∀q∈m,q.2.name≠q.1)->(m.foldl (λs p=>jj1 s p.1 p.2) s).length=s.length+m.length/\ ∀q,q∈m.foldl (λs p=>jj1 s p.1 p.2) s↔q∈s\/q∈m
 | [],s,_=>⟨rfl,λq=>by simp⟩
 |p::m,s,h=>by
  rw[List.foldl_cons];have e:jj1 s p.1 p.2=jkg s p.1 p.2:=ko (h p (by simp));obtain⟨h1,h2⟩:=jj9 m (jj1 s p.1 p.2) λq hq=>h q (by simp[hq]);refine⟨by rw[h1,e,jvx,zz];omega,λq=>?_⟩;rw[h2,e,joc,zC,or_assoc]
theorem jrv{s:jeM}(hs:jfl s=true)(hi:IdS s){n:Xb}{t:T}(hn:jcE n=true)(hd:look s n=none)(ht:∀x∈jhn t,look s x=none)(ho:n ∉ jhn t)(htn:t.name≠n) :
  (jhu s [(n,t)]).length=s.length+1/\IdS (jhu s [(n,t)])/\(∀q,q∈jhu s [(n,t)]↔(∃p∈s,q=(p.1,sub [(n,t)] p.2))\/q=(n,t))/\ ∀q∈s.map (λq=>(q.1,sub [(n,t)] q.2))++[(n,t)],q.2.name≠q.1:=by
 obtain⟨_,_,hv⟩:=jfK hs;have hf:([(n,t)]:jeM).filter (λq=>(look s q.1).isNone)=[(n,t)]:=by simp[hd]
 have hname:∀q∈s.map (λq=>(q.1,sub [(n,t)] q.2))++[(n,t)],q.2.name≠q.1:=by
  intro q hq;rcases YW.1 hq with hq|hq
  .obtain ⟨p,hp,rfl⟩:=j7.1 hq;intro e;have e:(sub [(n,t)] p.2).name=p.1:=e;have hx:p.1∈jhn (sub [(n,t)] p.2):=by rw[vsv (by rw[e];exact(hv p hp).1),e];simp
   have hk:look s p.1≠none:=λh=>jjk.1 h p hp rfl;rcases jpb _ hx with⟨h1,_⟩|h1
   .exact hk (hi p hp _ h1)
   .exact hk (ht _ h1)
  .simp only[j6]at hq;rw[hq];exact htn
 obtain⟨f1,f2⟩:=jj9 _ [] hname;have hm:∀q,q∈jhu s [(n,t)]↔(∃p∈s,q=(p.1,sub [(n,t)] p.2))\/q=(n,t):=by
  intro q;unfold jhu jlS;rw[hf,f2];simp only[jbF,false_or,YW,j7,j6];constructor
  .rintro (⟨p,h1,h2⟩|h)
   .exact Or.inl ⟨p,h1,h2.symm⟩
   .exact Or.inr h
  .rintro (⟨p,h1,h2⟩|h)
   .exact Or.inl ⟨p,h1,h2.symm⟩
   .exact Or.inr h
 refine⟨?_,?_,hm,hname⟩
 .unfold jhu jlS;rw[hf,f1,qg,jbD];simp
 .intro q hq x hx;have hxn:x≠n/\look s x=none:=by
   rcases(hm q).1 hq with⟨p,hp,rfl⟩|rfl
   .rcases jpb _ hx with⟨h1,h2⟩|h1
    .exact ⟨h2,hi p hp _ h1⟩
    .exact ⟨λe=>ho (e ▸ h1),ht _ h1⟩
   .exact ⟨λe=>ho (e ▸ hx),ht _ hx⟩
  refine jjk.2 λp hp e=>?_;rcases(hm p).1 hp with⟨p',hp',rfl⟩|rfl
  .exact jjk.1 hxn.2 p' hp' e
  .exact hxn.1 e.symm
def mz(s:jeM):Eqs->Nat
 | []=>0
 |p::r=>nodes (sub s p.1)+nodes (sub s p.2)+mz s r
theorem jo0(s:jeM):∀a b:Eqs,mz s (a++b)=mz s a+mz s b
 | [],b=>by simp[mz]
 |p::a,b=>by rw[jr,mz,mz,jo0 s a b];omega
theorem ju8{s:jeM} :∀(a b:Xg),(∀u∈a,sub s u=u)->(∀u∈b,sub s u=u)->mz s (a.zip b)<=jct a+jct b
 | [],_,_,_=>by simp[mz]
 |_::_,[],_,_=>by simp[mz]
 |x::a,y::b,h1,h2=>by
  have:=ju8 a b (λu hu=>h1 u (by simp[hu])) (λu hu=>h2 u (by simp[hu]));rw[List.zip_cons_cons,mz,h1 x (by simp),h2 y (by simp)];simp only[jct];omega
theorem Exx.sub{s:jeM}(hs:jfl s=true){t:T}(h:Exx t):okT (sub s t)=true\/((sub s t).name=[61]/\(sub s t).args.length=2/\ ∀u∈(sub s t).args,okT u=true):=by
 obtain⟨_,_,hv⟩:=jfK hs;have ho:∀q∈s,okT q.2=true:=λq hq=>(jlA (hv q hq).2.1);rcases h.1 with h|⟨h1,h2,h3⟩
 .exact Or.inl (jlh ho t h)
 .have hvn:jcE t.name=false:=by rw[h1];decide
  right;rw[jjp hvn];refine⟨h1,by show(t.args.map _).length=2;rw[jbD,h2],λu hu=>?_⟩;obtain⟨a,ha,rfl⟩:=j7.1 hu;exact jlh ho a (h3 a ha)
theorem jif{t:T}(h:jeO t=true):nodes t<=30:=by
 simp only[jeO,QR,YZ]at h;exact h.1
theorem jsy{t:T}(h:okT t=true\/(t.name=[61]/\t.args.length=2/\ ∀u∈t.args,okT u=true)):∀u∈t.args,okT u=true:=by
 rcases h with h|h
 .exact jhU h
 .exact h.2.2
theorem jil{s:jeM}{l r:T}{rest:Eqs}(h:jjq s ((l,r)::rest)){s':jeM}{es:Eqs}(hst:jiA s l r rest=some (s',es)):jjq s' es/\((s'=s/\mz s' es<mz s ((l,r)::rest))\/s'.length=s.length+1):=by
 obtain⟨hv,hi,he⟩:=h;obtain⟨el,er⟩:=he (l,r) (by simp);have hrest:∀p∈rest,Exx p.1/\Exx p.2:=λp hp=>he p (by simp[hp]);have xl:=el.sub hv;have xr:=er.sub hv;have nl:=jiG (sub s l);have vl:=λ{x} (hx:x∈jhn (sub s l))=>joo hi l hx;have vr:=λ{x} (hx:x∈jhn (sub s r))=>joo hi r hx;have hmz:mz s ((l,r)::rest)=nodes (sub s l)+nodes (sub s r)+mz s rest:=rfl;unfold jiA at hst;split at hst
 .cases hst
 rename_i hsm;have hs1:jeO (sub s l)=true:=by
  cases h:jeO (sub s l)with
  |true=>rfl
  |false=>exact absurd (Or.inl h) hsm
 have hs2:jeO (sub s r)=true:=by
  cases h:jeO (sub s r)with
  |true=>rfl
  |false=>exact absurd (Or.inr h) hsm
 split at hst
 .cases hst;exact⟨⟨hv,hi,hrest⟩,Or.inl ⟨rfl,by rw[hmz];omega⟩⟩
 split at hst
 .rename_i hvar;split at hst
  .cases hst
  rename_i hno;cases hst;have h1:(jeL (sub s l) (sub s r)).1 ∉ jhn (jeL (sub s l) (sub s r)).2:=λh=>hno (Or.inl h);have h2:jfl (jhu s [jeL (sub s l) (sub s r)])=true:=by
   cases h:jfl (jhu s [jeL (sub s l) (sub s r)])with
   |true=>rfl
   |false=>exact absurd (Or.inr (Or.inr h)) hno
  have h3:jfl [jeL (sub s l) (sub s r)]=true:=by
   cases h:jfl [jeL (sub s l) (sub s r)]with
   |true=>rfl
   |false=>exact absurd (Or.inr (Or.inl h)) hno
  have hb:look s (jeL (sub s l) (sub s r)).1=none/\ ∀x∈jhn (jeL (sub s l) (sub s r)).2,look s x=none:=by
   unfold jeL;split
   .rename_i hc;have hy:jcE (sub s r).name=true:=by
     rcases hc with hc|hc
     .rcases hvar with h|h
      .rw [hc]at h;cases h
      .exact h
     .exact hc.1
    exact⟨vr (by rw[vsv hy];simp),λx hx=>vl hx⟩
   .rename_i hc;have hx:jcE (sub s l).name=true:=by
     cases h:jcE (sub s l).name with
     |true=>rfl
     |false=>exact absurd (Or.inl h) hc
    exact⟨vl (by rw[vsv hx];simp),λx hx=>vr hx⟩
  obtain⟨_,_,h4⟩:=jfK h3;obtain⟨k1,_,k3⟩:=h4 _ (List.mem_singleton_self _);generalize jeL (sub s l) (sub s r)=p at *;obtain⟨n,t⟩:=p;obtain⟨c1,c2,_,_⟩:=jrv hv hi k1 hb.1 hb.2 h1 k3;exact⟨⟨h2,c2,hrest⟩,Or.inr c1⟩
 .rename_i hnv;split at hst
  .rename_i hnm;cases hst;have v1:jcE (sub s l).name=false:=by
    cases h:jcE (sub s l).name with
    |false=>rfl
    |true=>exact absurd (Or.inl h) hnv
   have v2:jcE (sub s r).name=false:=by
    cases h:jcE (sub s r).name with
    |false=>rfl
    |true=>exact absurd (Or.inr h) hnv
   have a1:∀u∈(sub s l).args,okT u=true/\nodes u<=31/\sub s u=u:=λu hu=>by
    have hk:=jsy xl u hu;have:=jks hu;have:=jif hs1;exact⟨hk,by omega,jrU u hk λx hx=>vl (by rw[vsf v1,jiT];exact⟨u,hu,hx⟩)⟩
   have a2:∀u∈(sub s r).args,okT u=true/\nodes u<=31/\sub s u=u:=λu hu=>by
    have hk:=jsy xr u hu;have:=jks hu;have:=jif hs2;exact⟨hk,by omega,jrU u hk λx hx=>vr (by rw[vsf v2,jiT];exact⟨u,hu,hx⟩)⟩
   refine⟨⟨hv,hi,λp hp=>?_⟩,Or.inl ⟨rfl,?_⟩⟩
   .rcases YW.1 hp with hp|hp
    .have hm:=List.of_mem_zip (a:=p.1) (b:=p.2) hp;exact⟨⟨Or.inl (a1 _ hm.1).1,(a1 _ hm.1).2.1⟩,⟨Or.inl (a2 _ hm.2).1,(a2 _ hm.2).2.1⟩⟩
    .exact hrest p hp
   .have:=ju8 (s:=s) (sub s l).args (sub s r).args (λu hu=>(a1 u hu).2.2) (λu hu=>(a2 u hu).2.2);have e1:=jeU (sub s l);have e2:=jeU (sub s r);rw[jo0,hmz];omega
  .cases hst
theorem jrW:∀(m1 m2:Nat)(s:jeM)(es:Eqs),jjq s es->13-s.length<=m1->mz s es<=m2-> ∃k res,jhe k s es=some res:=by
 intro m1;induction m1 with
 |zero=>
  intro m2 s es h h1;have:=(jfK h.1).1;omega
 |succ m1 ih1=>
  intro m2;induction m2 with
  |zero=>
   intro s es h _ h2;cases es with
   |nil=>exact⟨0,_,rfl⟩
   |cons p es=>
    have:=jiG (sub s p.1);simp only[mz]at h2;omega
  |succ m2 ih2=>
   intro s es h h1 h2;cases es with
   |nil=>exact⟨0,_,rfl⟩
   |cons p es=>
    obtain⟨l,r⟩:=p;cases hst:jiA s l r es with
    |none=>exact⟨1,none,by rw[jhe,hst]⟩
    |some q=>
     obtain⟨s',es'⟩:=q;obtain⟨hinv,hor⟩:=jil h hst;have hl:=(jfK h.1).1;rcases hor with⟨e,hlt⟩|e
     .obtain ⟨k,res,hk⟩:=ih2 s' es' hinv (by rw[e];exact h1) (by omega)
      exact⟨k+1,res,by rw[jhe,hst];exact hk⟩
     .obtain ⟨k,res,hk⟩:=ih1 (mz s' es') s' es' hinv (by omega) (jl _);exact⟨k+1,res,by rw[jhe,hst];exact hk⟩
theorem jvQ:∀(k:Nat)(s:jeM)(es:Eqs){u:jeM},jjq s es->jhe k s es=some (some u)->jfl u=true/\IdS u:=by
 intro k;induction k with
 |zero=>
  intro s es u h hu;cases es with
  |nil=>simp only[jhe,jv]at hu;rw[<-hu];exact⟨h.1,h.2.1⟩
  |cons p es=>simp[jhe]at hu
 |succ k ih=>
  intro s es u h hu;cases es with
  |nil=>simp only[jhe,jv]at hu;rw[<-hu];exact⟨h.1,h.2.1⟩
  |cons p es=>
   obtain⟨l,r⟩:=p;rw[jhe]at hu;cases hst:jiA s l r es with
   |none=>rw[hst]at hu;simp at hu
   |some q=>
    rw[hst]at hu;exact ih q.1 q.2 (jil h hst).1 hu
def Bx(t:T):Prop:=(t.name=[61]/\t.args.length=2/\ ∀u∈t.args,okT u=true)\/(jiO t.name=true/\okT t=true)
theorem Bx.rx{t:T}(h:Bx t):Rx' t:=h.elim (λh=>Or.inr ⟨h.1,h.2.2⟩) λh=>Or.inl h.2
theorem Bx.ax{t:T}(h:Bx t):okT t=true\/(t.name=[61]/\t.args.length=2/\ ∀u∈t.args,okT u=true):=h.elim Or.inr λh=>Or.inl h.2
theorem Bx.args{t:T}(h:Bx t):∀u∈t.args,okT u=true:=h.elim (λh=>h.2.2) λh=>jhU h.2
theorem jyL{n:Xb}(h:jiO n=true):jcE n=false:=by
 cases hv:jcE n with
 |false=>rfl
 |true=>rw[joj hv]at h;cases h
theorem Bx.nv{t:T}(h:Bx t):jcE t.name=false:=h.elim (λh=>by rw[h.1];decide) λh=>jyL h.1
theorem jy3{t:T}(h:t.args.length=2):t.args=[jm0 t,jov t]:=by
 obtain⟨n,us⟩:=t
 match us,h with
 | [a,b],_=>rfl
theorem jqj{t:T} :jnG t=true↔Bx t/\jeO t=true:=by
 unfold jnG Bx;by_cases he:t.name=[61]
 .rw [jc6 he];unfold jkq;rw[QR,QR,QR,YZ];constructor
  .rintro ⟨h1,h2,h3,h4⟩;refine⟨Or.inl ⟨he,h1,λu hu=>?_⟩,h2⟩;rw[jy3 h1]at hu;simp only[zC,jbF,or_false]at hu;rcases hu with rfl|rfl
   .exact h3
   .exact h4
  .rintro ⟨h|h,h2⟩
   .obtain ⟨_,_,ma,mb⟩:=jjK h.2.1;exact⟨h.2.1,h2,h.2.2 _ ma,h.2.2 _ mb⟩
   .rw [he]at h;exact absurd h.1 (by decide)
 .rw [ko he];unfold jgE;rw[QR,QR];constructor
  .rintro ⟨h1,h2,h3⟩;exact⟨Or.inr ⟨h1,h3⟩,h2⟩
  .rintro ⟨h|h,h2⟩
   .exact absurd h.1 he
   .exact ⟨h.1,h2,h.2⟩
theorem Bx.atom{t:T}(h:Bx t):jnG t=jeO t:=by
 cases hs:jeO t with
 |true=>exact jqj.2 ⟨h,hs⟩
 |false=>
  cases ha:jnG t with
  |false=>rfl
  |true=>rw[(jqj.1 ha).2]at hs;cases hs
theorem Bx.tsz{t:T}(h:Bx t):tsz t<=10*nodes t:=by
 rcases h with h|h
 .rw [jhq,jeU,h.1,h.2.1];have:=jsP h.2.2;simp only[zz,jhr];omega
 .exact jjy t h.2
theorem Bx.tz{t:T}(h:Bx t)(hn:nodes t<=100000):Tz t:=by have:=h.tsz;unfold Tz;omega
theorem Bx.sub{s:jeM}(hs:jfl s=true){t:T}(h:Bx t):Bx (sub s t):=by
 obtain⟨_,_,hv⟩:=jfK hs;have ho:∀q∈s,okT q.2=true:=λq hq=>jlA (hv q hq).2.1;have hn:=h.nv;rcases h with h|h
 .left;rw[joi hn,jmq hn,jbD];refine⟨h.1,h.2.1,λu hu=>?_⟩;obtain⟨a,ha,rfl⟩:=j7.1 hu;exact jlh ho a (h.2.2 a ha)
 .right;rw[joi hn];exact⟨h.1,jlh ho t h.2⟩
theorem jiW{s:jeM}(hs:jfl s=true):∀q∈s,nodes q.2<=30:=λq hq=>by
 have:=((jfK hs).2.2 q hq).2.1;unfold jgE at this;rw[QR]at this;exact jif this.1
theorem jjc{s:jeM}(hs:jfl s=true):∀q∈s,okT q.2=true:=λq hq=>jlA ((jfK hs).2.2 q hq).2.1
theorem jtT:jfl []=true:=by unfold jfl;simp[jqh]
mutual
theorem jmL(f:Xb->Xb):∀t:T,nodes (jik f t)<=nodes t
 |.mk n us=>by
  rw[jik];split
  .have:=jiG (.mk n us);show 1+0<=_;omega
  .have:=jof f us;simp only[nodes];omega
theorem jof(f:Xb->Xb):∀ts:Xg,jct (Je f ts)<=jct ts
 | []=>jl _
 |t::ts=>by have:=jmL f t;have:=jof f ts;simp only[Je,jct];omega
end
mutual
theorem jwX(f:Xb->Xb):∀t:T,dep (jik f t)<=dep t
 |.mk n us=>by
  rw[jik];split
  .rw [jjw (.mk n us)];show 1+0<=_;omega
  .have:=jq2 f us;simp only[dep];omega
theorem jq2(f:Xb->Xb):∀ts:Xg,jke (Je f ts)<=jke ts
 | []=>jl _
 |t::ts=>by have:=jwX f t;have:=jq2 f ts;simp only[Je,jke];omega
end
theorem joe{f:Xb->Xb}{t:T}(h:jcE t.name=false):(jik f t).name=t.name:=by rw[jlu,h,ko Bool.false_ne_true];rfl
theorem jq1{f:Xb->Xb}{t:T}(h:jcE t.name=false):(jik f t).args=t.args.map (jik f):=by rw[jlu,h,ko Bool.false_ne_true];rfl
theorem jpQ{f:Xb->Xb}(hf:∀n,jcE n=true->jcE (f n)=true):∀t:T,okT t=true->okT (jik f t)=true:=by
 refine T.ind λt ih h=>?_;cases hv:jcE t.name with
 |true=>rw[jlu,hv,jc6 rfl];exact jvd _ (hf _ hv)
 |false=>
  have hk:=h;rw[jiH,hv,ko Bool.false_ne_true,QR,QR,YZ]at h;rw[jiH,joe hv,jq1 hv,hv,ko Bool.false_ne_true,QR,QR,YZ,jbD,jjQ,jz];refine⟨h.1,h.2.1,λu hu=>?_⟩;obtain⟨a,ha,rfl⟩:=j7.1 hu;exact ih a ha (jhU hk a ha)
theorem Bx.ren{f:Xb->Xb}(hf:∀n,jcE n=true->jcE (f n)=true){t:T}(h:Bx t):Bx (jik f t):=by
 have hn:=h.nv;rcases h with h|h
 .left;rw[joe hn,jq1 hn,jbD];refine⟨h.1,h.2.1,λu hu=>?_⟩;obtain⟨a,ha,rfl⟩:=j7.1 hu;exact jpQ hf a (h.2.2 a ha)
 .right;rw[joe hn];exact⟨h.1,jpQ hf t h.2⟩
theorem jmB:∀d:Nat,d<10->jiZ (UInt8.ofNat (48+d))=true:=by decide
theorem jk2{u:Nat}(h:u<10):Lib.decDigits u=[UInt8.ofNat (48+u)]:=Lib.decDigits_one h
theorem jnM{u:Nat}(h:¬u<10):Lib.decDigits u=Lib.decDigits (u / 10)++[UInt8.ofNat (48+u % 10)]:=by rw[Lib.decDigits,dif_neg h]
theorem jjH:∀(k u:Nat),u<10 ^ (k+1)->(Lib.decDigits u).all jiZ=true/\(Lib.decDigits u).length<=k+1
 |0,u,h=>by rw[jk2 (by omega)];exact⟨by rw[jby,jmB u (by omega),List.all_nil];rfl,by simp⟩
 |k+1,u,h=>by
  by_cases hu:u<10
  .rw [jk2 hu];exact⟨by rw[jby,jmB u hu,List.all_nil];rfl,by simp⟩
  .obtain ⟨h1,h2⟩:=jjH k (u / 10) (by rw[Nat.pow_succ]at h;omega)
   rw[jnM hu,List.all_append,h1,qg];exact⟨by rw[jby,jmB (u % 10) (by omega),List.all_nil];rfl,by simp only[zz,jhr];omega⟩
theorem jvc{p:UInt8}(hp:upc p=true){i:Nat}(hi:i<1000):jcE (jmF p i)=true:=by
 obtain⟨h1,h2⟩:=jjH 2 i (by omega);show(upc p && ((Lib.decDigits i).all jiZ && decide ((Lib.decDigits i).length<=3)))=true;rw[hp,h1,decide_eq_true (by omega)];rfl
theorem jw7{l:Xa}{n x:Xb} :x∈vnA l n↔x∈l\/x=n:=by
 unfold vnA;split
 .rename_i h;rw[List.contains_iff_mem]at h;exact⟨Or.inl,λh'=>h'.elim id λe=>e ▸ h⟩
 .simp
theorem jtV{l:Xa}{n:Xb}(h:l.Nodup):(vnA l n).Nodup:=by
 unfold vnA;split
 .exact h
 .rename_i hc;rw[List.contains_iff_mem]at hc;refine Js.2 ⟨h,by simp,λa ha b hb=>?_⟩;simp only[j6]at hb;rintro rfl;exact hc (hb ▸ ha)
mutual
theorem jqJ:∀(t:T)(l:Xa)(x:Xb),x∈jiz l t↔x∈l\/x∈jhn t
 |.mk n us,l,x=>by
  rw[jiz,jhn];split
  .rw [jw7];simp
  .exact jqI us l x
theorem jqI:∀(ts:Xg)(l:Xa)(x:Xb),x∈jkK l ts↔x∈l\/x∈jic ts
 | [],l,x=>by simp[jkK,jic]
 |t::ts,l,x=>by rw[jkK,jic,jqI ts,jqJ t,YW,or_assoc]
end
mutual
theorem jn3:∀(t:T){l:Xa},l.Nodup->(jiz l t).Nodup
 |.mk n us,l,h=>by
  rw[jiz];split
  .exact jtV h
  .exact jn2 us h
theorem jn2:∀(ts:Xg){l:Xa},l.Nodup->(jkK l ts).Nodup
 | [],l,h=>h
 |t::ts,l,h=>by rw[jkK];exact jn2 ts (jn3 t h)
end
def CN(c:Cls):Prop:=c.length<=8/\ ∀l∈c,Bx l.2/\nodes l.2<=30
theorem jrH{c:Cls}(h:CN c):(jkJ c).length<=240:=by
 have:∀(c:Cls)(l:Xa),(∀y∈c,nodes y.2<=30)->(c.foldl (λl x=>jiz l x.2) l).length<=l.length+30*c.length:=by
  intro c;induction c with
  |nil=>intro l _;simp
  |cons y c ih=>
   intro l h;have h1:=jlr y.2 l;have h2:=h y (by simp);have h3:=ih (jiz l y.2) λz hz=>h z (by simp[hz]);rw[List.foldl_cons,zz];omega
 have h2:=this c [] λy hy=>(h.2 y hy).2;have h3:=h.1;rw[jhr]at h2;unfold jkJ;omega
theorem joM{p:UInt8}(hp:upc p=true){l:Xa}(hl:l.length<=1000){n:Xb}(hn:jcE n=true):jcE (jiq p l n)=true:=by
 unfold jiq;split
 .rename_i i h;have:=(List.findIdx?_eq_some_iff_getElem.1 h).1;exact jvc hp (by omega)
 .exact hn
theorem juz{α:Type}(c:α->α->Int)(l:List α)(x:α):(jox c l x).length<=l.length+1:=by
 unfold jox;split
 .omega
 .have:=congrArg List.length (List.takeWhile_append_dropWhile (p:=λa=>decide (c a x<0)) (l:=l));rw[qg]at this;rw[qg,zz];omega
theorem jto{α:Type}(c:α->α->Int)(l:List α):(jlG c l).length<=l.length:=by
 have:∀(l m:List α),(l.foldl (jox c) m).length<=m.length+l.length:=by
  intro l;induction l with
  |nil=>intro m;simp
  |cons x l ih=>
   intro m;have h1:=juz c m x;have h2:=ih (jox c m x);rw[List.foldl_cons,zz];omega
 have:=this l [];simpa[jlG]using this
theorem jtp{l:Cls}{x:Lt} :x∈jlG cmpL l↔x∈l:=(jtn juk l).2 x
theorem CN.make{l:Cls}(hl:l.length<=8)(h:∀x∈l,Bx x.2/\nodes x.2<=30):CN (jlG cmpL l):=⟨by have:=jto cmpL l;omega,λx hx=>h x (jtp.1 hx)⟩
theorem CN.ren{p:UInt8}(hp:upc p=true){c:Cls}(h:CN c):∀x∈c.map (λl=>(l.1,jik (jiq p (jkJ c)) l.2)),Bx x.2/\nodes x.2<=30:=by
 intro x hx;obtain⟨l,hl,rfl⟩:=j7.1 hx;have hn:=jrH h;have:=jmL (jiq p (jkJ c)) l.2;have:=(h.2 l hl).2;exact⟨(h.2 l hl).1.ren λn hn=>joM hp (by omega) hn,by show nodes (jik (jiq p (jkJ c)) l.2)<=30;omega⟩
theorem CN.renC{p:UInt8}(hp:upc p=true){c:Cls}(h:CN c):CN (renC p c):=CN.make (by rw[jbD];exact h.1) (h.ren hp)
theorem CN.normF:∀(k:Nat){c:Cls},CN c->CN (normF k c)
 |0,c,h=>h
 |k+1,c,h=>by
  rw[Go.Proofs.YtocncngbocomhaaGreatDoor.normF];split
  .exact h
  .exact CN.normF k (CN.renC (by decide) h)
theorem CN.normC{c:Cls}(h:CN c):CN (normC c):=CN.normF 10 h
theorem CN.tz{c:Cls}(h:CN c):∀l∈c,Tz l.2:=λl hl=>(h.2 l hl).1.tz (by have:=(h.2 l hl).2;omega)
theorem CN.rx{c:Cls}(h:CN c):∀l∈c,Rx' l.2:=λl hl=>(h.2 l hl).1.rx
theorem Rx'.va{t:T}(h:Rx' t)(hv:jcE t.name=true):t.args=[]:=h.elim (λh=>jkw h hv) λh=>by rw[h.1]at hv;exact absurd hv (by decide)
def jAo(d:Cls):Cls:=d.map λl=>(l.1,jik (jiq 89 (jkJ d)) l.2)
def jsO(c:Cls):Bool:=jvS c && jsC c
theorem jol:∀(k:Nat)(s:jeM)(es:Eqs){r:Option jeM},jhe k s es=some r->jhe (k+1) s es=some r
 |_,s,[],r,h=>by
  unfold jhe at h⊢;exact h
 |0,s,p::es,r,h=>by simp[jhe]at h
 |k+1,s,p::es,r,h=>by
  rw[jhe]at h⊢;cases hst:jiA s p.1 p.2 es with
  |none=>rw[hst]at h;exact h
  |some q=>
   rw[hst]at h;exact jol k q.1 q.2 h
theorem jrf{k m:Nat}(h:k<=m){s:jeM}{es:Eqs}{r:Option jeM}(hk:jhe k s es=some r):jhe m s es=some r:=by
 induction h with
 |refl=>exact hk
 |step _ ih=>exact jol _ _ _ ih
open Classical in
noncomputable def jjV(a b:T):Option jeM:=if h:∃r k,jhe k [] [(a,b)]=some r then h.choose else none
theorem jre{a b:T}(ha:Exx a)(hb:Exx b):jjq [] [(a,b)]:=⟨jtT,(λ_ h=>(jbF h).elim:IdS []),λp hp=>by rw[j6.1 hp];exact⟨ha,hb⟩⟩
theorem jjv{a b:T}(ha:Exx a)(hb:Exx b):∃k,jhe k [] [(a,b)]=some (jjV a b):=by
 obtain⟨k,r,h⟩:=jrW 13 _ [] [(a,b)] (jre ha hb) (by simp) (jl _);have hex:∃r k,jhe k [] [(a,b)]=some r:=⟨r,k,h⟩;unfold jjV;rw[dif_pos hex];exact hex.choose_spec
theorem jkP{a b:T}(ha:Exx a)(hb:Exx b){u:jeM}(h:jjV a b=some u):jfl u=true:=by
 obtain⟨k,hk⟩:=jjv ha hb;rw[h]at hk;exact(jvQ k _ _ (jre ha hb) hk).1
noncomputable def jx8(s:jeM)(l:Cls):Option Cls:=if(l.all λx=>jeO (sub s x.2)) && jvS (jlG cmpL (l.map λx=>(x.1,sub s x.2)))then some (jlG cmpL (l.map λx=>(x.1,sub s x.2)))else none
noncomputable def jCM(s:jeM)(l:Cls):Option Cls:=(jx8 s l).bind λc=>if jsO (normC c)then some (normC c)else none
abbrev cz:A:= .agg [.sl 3 []]
def jzO(o:Option Cls):Xe:=match o with|some c=>some (.tup [cm c,vb true],[])|none=>some (.tup [cz,vb false],[])
def atI:Xi->T->Option T
 | [],t=>some t
 |i::p,t=>if 0<=i/\i<(t.args.length:Int)then atI p (t.args.getD i.toNat (.mk [] []))else none
theorem js7{s:T}(hs:okT s=true):∀{p:Xf}{t:T},okP p t->okT t=true->okT (jhs s p t)=true
 | [],t,_,_=>hs
 |i::p,t,h,hk=>by
  obtain⟨h1,h2⟩:=h;rw[jiM h1]at h2;have hv:jcE t.name=false:=by
   cases hv:jcE t.name with
   |false=>rfl
   |true=>rw[jkw hk hv]at h1;simp at h1
  have hk':=hk;rw[jiH,hv,ko Bool.false_ne_true,QR,QR,YZ]at hk;rw[jhs,jiM h1,jiH];show(if jcE t.name=true then _ else(jiO t.name && (decide ((t.args.set i (jhs s p t.args[i])).length<=4) && jpM (t.args.set i (jhs s p t.args[i])))))=true;rw[hv,ko Bool.false_ne_true,QS,hk.1,decide_eq_true hk.2.1,jjQ,Bool.true_and,Bool.true_and,jz];intro u hu;rcases JQ hu with hu|hu
  .exact jhU hk' u hu
  .rw [hu];exact js7 hs h2 (jhU hk' _ (jdM h1))
theorem jop(s:T):∀(p:Xf)(t:T),okP p t->nodes (jhs s p t)<=nodes t+nodes s
 | [],t,_=>by rw[jhs];omega
 |i::p,t,h=>by
  obtain⟨h1,h2⟩:=h;rw[jiM h1]at h2;have ih:=jop s p t.args[i] h2;rw[jhs,jiM h1,jeU t];show 1+jct (t.args.set i (jhs s p t.args[i]))<=_;have key:∀(ts:Xg)(i:Nat)(h:i<ts.length)(u:T),nodes u<=nodes ts[i]+nodes s->jct (ts.set i u)<=jct ts+nodes s:=by
   intro ts;induction ts with
   |nil=>intro i h;simp at h
   |cons x xs ih2=>
    intro i h u hu;cases i with
    |zero=>simp only[JO,jct,List.getElem_cons_zero]at hu⊢;omega
    |succ i=>
     have:=ih2 i (by simpa using h) u (by simpa using hu);simp only[ZD,jct];omega
  have:=key t.args i h1 _ ih;omega
def EXB(t:T):Prop:=EX false t/\Bx t
open Go Go.RowKit Go.Proofs.YtocncngbocomhaaGreatDoor.Abs Go.Sort
section
variable{α:Type}{c:α->α->Int}
theorem jqN{β γ:Type}(f:β->β->γ)(ys:List β):∀(xs:List β)(i j:Nat)(x y:β),xs[i]? = some x->ys[j]? = some y->(xs.flatMap λx=>ys.map λy=>f x y)[i*ys.length+j]? = some (f x y)
 | [],i,j,x,y,h,_=>by simp at h
 |a::xs,i,j,x,y,h,hy=>by
  have hj:=(qL.1 hy).1;rw[List.flatMap_cons];cases i with
  |zero=>simp at h;subst h;rw[Nat.zero_mul,jbz,zF (by simpa using hj),KN,hy];rfl
  |succ i=>
   rw[QQ (by simp[jhv];omega)]
   have:(i+1)*ys.length+j-(ys.map λy=>f a y).length=i*ys.length+j:=by simp[jhv];omega
   rw[this];exact jqN f ys xs i j x y (by simpa using h) hy
theorem extract_all{β:Type}(e:Array β){n:Nat}(h:e.size=n):e.extract 0 n=e:=by subst h;simp
theorem Law3.swo(h:Law3 c){β:Type}(g:β->α){lt:β->β->Bool}(hl:∀i j,lt i j=decide (c (g i) (g j)<0)):SWO lt:=by
 refine⟨λx=>?_,λx y z h1 h2=>?_,λx y z h1 h2=>?_⟩
 .rw [hl,(h.zero _ _).2 rfl];rfl
 .rw [hl,YZ]at *;exact h.trans _ _ _ h1 h2
 .rw [hl,decide_eq_false_iff_not]at *;intro h3;have f1:=h.flip (g x) (g y);have f2:=h.flip (g y) (g z);by_cases e1:c (g x) (g y)=0
  .rw [(h.zero _ _).1 e1]at h3;exact h2 h3
  by_cases e2:c (g y) (g z)=0
  .rw [<-(h.zero _ _).1 e2]at h3;exact h1 h3
  have:=h.trans (g z) (g y) (g x) (by omega) (by omega);have f3:=h.flip (g x) (g z);omega
theorem jpS{γ:Type}{c:γ->γ->Int}(hc:Law3 c)(f:α->γ)(enc:α->Xd)(k:Nat)(l:List α)(hl:l.length<4611686018427387904):∃s:List α,s.Perm l/\s.Pairwise (λa b=>¬c (f b) (f a)<0)/\jeA k (l.map enc) (l.flatMap λx=>l.map λy=>c (f x) (f y))=some (.top,[.sl k (s.map enc)]):=by
 cases l with
 |nil=>exact⟨[],List.Perm.refl _,List.Pairwise.nil,rfl⟩
 |cons a l'=>
  generalize hcs:((a::l').flatMap λx=>(a::l').map λy=>c (f x) (f y))=cs;rw[ky];have hN:(l'.map enc).length+1=(a::l').length:=by simp
  let g:Fin ((l'.map enc).length+1)->α:=λi=>(a::l')[i.val]'(by rw[<-hN];exact i.isLt)
  have hg:∀i:Fin ((l'.map enc).length+1),(a::l')[i.val]? = some (g i):=λi=>jw _;have hT:∀i j,ltO (jbU ((l'.map enc).length+1) cs) i j=decide (c (f (g i)) (f (g j))<0):=λi j=>by
   have:=jqN (λx y=>c (f x) (f y)) (a::l') (a::l') i.val j.val _ _ (hg i) (hg j);rw[hcs,<-hN]at this;unfold ltO jbU;rw[jX,this];rfl
  have hS:=hc.swo (λi=>f (g i)) hT;have hsz:(l'.map enc).length+1<4611686018427387904:=by rw[hN];exact hl
  generalize hd:(Array.ofFn (n:=(l'.map enc).length+1) id)=d;have hds:d.size=(l'.map enc).length+1:=by rw[<-hd];simp
  obtain⟨hp,hs⟩:=pdq_sorts (ltO (jbU ((l'.map enc).length+1) cs)) hS d 0 ((l'.map enc).length+1) (Lib.bitLen ((l'.map enc).length+1)) true true (Nat.zero_le _) (by omega) (Or.inl rfl);have hrow:jeA k (enc a::l'.map enc) cs=some (.top,[.sl k ((pdq (ltO (jbU ((l'.map enc).length+1) cs)) d 0 ((l'.map enc).length+1) (Lib.bitLen ((l'.map enc).length+1)) true true).toList.map λi=>(enc a::l'.map enc).getD i.val [])]):=by
   unfold jeA;simp only;rw[jc6 ⟨hS,hsz⟩,hd]
  rw[hrow];generalize pdq (ltO (jbU ((l'.map enc).length+1) cs)) d 0 ((l'.map enc).length+1) (Lib.bitLen ((l'.map enc).length+1)) true true=D at *;obtain⟨p1,_,p3⟩:=hp;rw[extract_all D (by omega),extract_all d hds]at p3;refine⟨D.toList.map g,?_,?_,?_⟩
  .have h1:(D.toList.map g).Perm (d.toList.map g):=p3.map g;have h2:d.toList.map g=a::l':=by
    refine jW λi=>?_;rw[<-hd];by_cases hi:i<(l'.map enc).length+1
    .rw [KN,kH,qN (by simpa using hi)];simp only[Array.getElem_ofFn,zy,id];exact(hg ⟨i,hi⟩).symm
    .rw [ZJ (by simp at hi⊢;omega),ZJ (by simp at hi⊢;omega)]
   rw[h2]at h1;exact h1
  .rw [List.pairwise_map];rw[List.pairwise_iff_getElem];intro i j hi hj hij;have hD:D.size=(l'.map enc).length+1:=by omega
   rw[kN]at hi hj;have:=hs i j (Nat.zero_le _) hij (by omega);rw[zx D i hi,zx D j hj,hT,decide_eq_false_iff_not]at this;simpa using this
  .congr 3;rw[QW];refine congrArg (A.sl k) (List.map_congr_left λi _=>?_);rw[<-ky,jX,KN,hg i];rfl
end
theorem jnF{β:Type}(f:β->FuncId×Xd)(r:β->Int):∀qs:List β,(∀b∈qs,K.pureF (f b).1=true/\G (f b).1 (f b).2=some (vi (r b),[]))->askAll K (MM K) (qs.map f)=some (qs.map λb=>(vi (r b),[]))
 | [],_=>rfl
 |b::qs,h=>by
  have ih:=jnF f r qs λb' hb=>h b' (by simp[hb]);obtain⟨h1,h2⟩:=h b (by simp);rw[ky,ky];show(if K.pureF (f b).1 then(MM K (.call (f b).1 (f b).2)).bind λo=>(askAll K (MM K) (qs.map f)).bind λos=>some (o::os)else none)=_;have h2:MM K (.call (f b).1 (f b).2)=some (vi (r b),[]):=h2;rw[h1,jc6 rfl,h2,ih];rfl
theorem jo2{β:Type}(r:β->Int):∀qs:List β,ja9 (qs.map λb=>(vi (r b),[]))=some (qs.map r)
 | []=>rfl
 |b::qs=>by
  rw[ky,ky,ja9,jo2 r qs];rfl
theorem juv{α γ:Type}{c:γ->γ->Int}(hc:Law3 c)(f:α->γ)(enc:α->Xd)(k:Nat)(g:FuncId)(hp:K.pureF g=true)(l:List α)(hl:l.length<4611686018427387904)(h:∀x∈l,∀y∈l,G g [.agg (enc x),.agg (enc y)]=some (vi (c (f x) (f y)),[])):∃s:List α,s.Perm l/\s.Pairwise (λa b=>¬c (f b) (f a)<0)/\extRun K (MM K) (sfE k) [V.row 0,V.fn g []] [.row k (l.map enc)]=some (.top,[.sl k (s.map enc)]):=by
 obtain⟨s,h1,h2,h3⟩:=jpS hc f enc k l hl;refine⟨s,h1,h2,?_⟩;have hq:jez [V.row 0,V.fn g []] [.row k (l.map enc)]=some ((l.flatMap λx=>l.map λy=>(x,y)).map λq=>(g,[A.agg (enc q.1),A.agg (enc q.2)])):=by
  show some ((l.map enc).flatMap λx=>(l.map enc).map λy=>(g,[A.agg x,A.agg y]++[]))=_;congr 1;rw[List.flatMap_map,List.map_flatMap];refine congrArg (λh=>l.flatMap h) (funext λx=>?_);rw[QW,QW];rfl
 have ha:=jnF (λq:α×α=>(g,[A.agg (enc q.1),A.agg (enc q.2)])) (λq=>c (f q.1) (f q.2)) (l.flatMap λx=>l.map λy=>(x,y)) λq hq=>by
  obtain⟨x,hx,hq⟩:=List.mem_flatMap.1 hq;obtain⟨y,hy,rfl⟩:=j7.1 hq;exact⟨hp,h x hx y hy⟩
 have hc':((l.flatMap λx=>l.map λy=>(x,y)).map λq=>c (f q.1) (f q.2))=l.flatMap λx=>l.map λy=>c (f x) (f y):=by
  rw[List.map_flatMap];refine congrArg (λh=>l.flatMap h) (funext λx=>?_);rw[QW];rfl
 have ho:=jo2 (λq:α×α=>c (f q.1) (f q.2)) (l.flatMap λx=>l.map λy=>(x,y));rw[hc']at ho;show(jez [V.row 0,V.fn g []] [.row k (l.map enc)]).bind _=_;rw[hq,Option.bind_some,ha,Option.bind_some];show(if Nat.beq k k then(ja9 _).bind λcs=>jeA k (l.map enc) cs else none)=_;rw[Nat.beq_refl,jc6 rfl,ho];exact h3
theorem jxY:∀d:Nat,d<10->ZP (sv [48,49,50,51,52,53,54,55,56,57]) (some (vi (d:Nat))) (some (vi ((d+1:Nat):Int)))=some (sv [UInt8.ofNat (48+d)])
 |0,_=>rfl|1,_=>rfl|2,_=>rfl|3,_=>rfl|4,_=>rfl|5,_=>rfl|6,_=>rfl|7,_=>rfl|8,_=>rfl|9,_=>rfl
theorem juS:∀n:Nat,n<=1000000->G 32 [vi (n:Nat)]=some (sv (Lib.decDigits n),[]):=by
 intro n;induction n using Nat.strongRecOn with
 |ind n ih=>
  intro hn;have h0:¬((n:Nat):Int)<0:=by omega
  rw[g32];by_cases h:n<10
  .have h1:((n:Nat):Int)<10:=by omega
   have h2:ck ((n:Int)+1)=some (vi ((n+1:Nat):Int)):=jht (by omega) (by omega);have h3:=jxY n h;rw[jk2 h];simp only[evz,h0,h1,h2,h3]
  .have h1:¬((n:Nat):Int)<10:=by omega
   have hq:jgm .quo false (vi (n:Nat)) (vi 10)=some (vi ((n / 10:Nat):Int)):=by
    show ck (((n:Nat):Int).tdiv 10)=_;rw[Int.tdiv_eq_ediv_of_nonneg (by omega)];exact jht (by omega) (by omega)
   have hr:jgm .rem false (vi (n:Nat)) (vi 10)=some (vi ((n % 10:Nat):Int)):=by
    show some (vi (((n:Nat):Int).tmod 10))=_;rw[Int.tmod_eq_emod_of_nonneg (by omega)];rfl
   have h2:ck (((n % 10:Nat):Int)+1)=some (vi ((n % 10+1:Nat):Int)):=jht (by omega) (by omega);have h3:=jxY (n % 10) (by omega);have h4:=ih (n / 10) (by omega) (by omega);have hl:(Lib.decDigits (n / 10)).length + [UInt8.ofNat (48+n % 10)].length<=9223372036854775807:=by
    have:=(jjH 6 (n / 10) (by omega)).2;simp only[zz,jhr];omega
   have h5:=jls false (Lib.decDigits (n / 10)) [UInt8.ofNat (48+n % 10)];rw[jc6 hl]at h5;rw[jnM h];simp only[evz,h0,h1,hq,hr,h2,h3,h4,h5]
theorem jwA(n:Nat)(hn:n<=1000000):G 74 [vi (n:Nat)]=some (sv (Lib.decDigits n),[]):=by
 have:K.ext 74=some jgX:=rfl;rw[jh0 this];show(if -9223372036854775808<=((n:Nat):Int)/\((n:Nat):Int)<=9223372036854775807 then some (sv (Lib.itoa (n:Nat)),[])else none)=_;rw[jc6 (by omega)];unfold Lib.itoa;rw[ko (by omega),Int.toNat_natCast]
def jzK:Nat->Xa->Bool
 |_,[]=>true
 |i,n::r=>decide (n=jmF 88 i) && jzK (i+1) r
abbrev Nm':=List (Xb×Xb)
abbrev kn(p:Xb×Xb):Xd:=[sv p.1,sv p.2]
def jih:Nm'->Xb->Option Xb
 | [],_=>none
 |p::m,n=>if p.1=n then some p.2 else jih m n
theorem jrG(n:Xb):∀(m:Nm')(k:Nat),∃j,JK none (sv n) (m.map kn) k=some ((jih m n).map λr=>(j,sv r))
 | [],k=>⟨0,rfl⟩
 |p::m,k=>by
  rw[ky,jih,JK,jyk];by_cases h:p.1=n
  .rw [jc6 h,decide_eq_true h.symm];exact⟨k,rfl⟩
  .rw [ko h,decide_eq_false (λe=>h e.symm)];exact jrG n m (k+1)
theorem jyD(m:Nm')(n:Xb):jcP none true true [sv []] (.mp (m.map kn)) (sv n)=some (match jih m n with|some r=>.tup [sv r,vb true]|none=>.tup [sv [],vb false]):=by
 show((some (m.map kn)).bind λxs=>(JK none (sv n) xs 0).map (jfO true true [sv []]))=_;obtain⟨j,h⟩:=jrG n m 0;rw[Option.bind_some,h];cases jih m n<;>rfl
theorem jzT{m:Nm'}{n:Xb}(h:jih m n=none)(r:Xb):jgq none (m.map kn) (sv n) (sv r)=some ((m++[(n,r)]).map kn):=by
 obtain⟨j,h2⟩:=jrG n m 0;show(JK none (sv n) (m.map kn) 0).map _=_;rw[h2,h,jB];rfl
theorem joY:∀(m:Nm')(p:Xb×Xb)(n:Xb),jih (m++[p]) n=(match jih m n with|some r=>some r|none=>if p.1=n then some p.2 else none)
 | [],p,n=>rfl
 |q::m,p,n=>by
  rw[jr,jih,jih,joY m p n];by_cases h:q.1=n
  .rw [jc6 h,jc6 h]
  .rw [ko h,ko h]
def jkS(p:UInt8):Nat->Xa->Nm'
 |_,[]=>[]
 |i,n::r=>(n,jmF p i)::jkS p (i+1) r
theorem jn0(p:UInt8)(n:Xb):∀(ns:Xa)(k:Nat),jih (jkS p k ns) n=(ns.findIdx? λx=>decide (x=n)).map λi=>jmF p (k+i)
 | [],k=>rfl
 |x::ns,k=>by
  rw[jkS,jih,List.findIdx?_cons];by_cases h:x=n
  .rw [jc6 h,jc6 (decide_eq_true h)];rfl
  .rw [ko h,ko (by simp[h]),jn0 p n ns (k+1),Option.map_map];refine congrArg (λf=>Option.map f _) (funext λi=>?_);show jmF p (k+1+i)=jmF p (k+(i+1));rw[show k+1+i=k+(i+1) by omega]
theorem jrr(p:UInt8)(ns:Xa):(λn=>(jih (jkS p 0 ns) n).getD n)=jiq p ns:=by
 funext n;rw[jn0];unfold jiq;cases ns.findIdx? (λx=>decide (x=n))with
 |none=>rfl
 |some i=>show jmF p (0+i)=_;rw[jbz]
theorem jqM{p:UInt8} :∀{ns:Xa}{k:Nat},(∀n∈ns,jcE n=true)-> ∀q∈jkS p k ns,jcE q.1=true
 | [],k,_,q,h=>by cases h
 |x::ns,k,hv,q,h=>by
  rw[jkS]at h;rcases zC.1 h with e|e
  .rw [e];exact hv x (by simp)
  .exact jqM (λn hn=>hv n (by simp[hn])) q e
theorem jzL(p:UInt8)(i:Nat)(h:i<=1000000):jgm .add false (sv [p]) (sv (Lib.decDigits i))=some (sv (jmF p i)):=by
 rw[jls,jc6]
 .rfl
 .have:=(jjH 6 i (by omega)).2;simp only[zz,jhr];omega
theorem jq3(p:UInt8)(ns:Xa)(hn:ns.Nodup)(hl:ns.length<=1000):G 45 [strs ns,sv [p]]=some (.mp ((jkS p 0 ns).map kn),[]):=by
 have key:=upto (P:=λi=>∀m:Nm',(∀n∈ns.drop i,jih m n=none)->jse (sv [p]) (strs ns) (vi (ns.length:Nat)) (vi (i:Nat)) (m.map kn)=some (.mp ((m++jkS p i (ns.drop i)).map kn),[])) (n:=ns.length) ?_ ?_ 0 (Nat.zero_le _) [] (λn _=>rfl)
 .rw [List.drop_zero]at key;simp only[Int.natCast_zero,List.map_nil,jY]at key;rw[g45];simp only[evz,key]
 .intro m _;rw[jxx,List.drop_length,jkS,KO];simp only[evz]
 .intro i hi ih m hm;have hlt:(i:Int)<((ns.length:Nat):Int):=by omega
  have h5:=jeN hi (by show ns.length<=9223372036854775807;omega)
  have e1:=jwA i (by omega);have e2:=jzL p i (by omega);have ld:jb7 (.elt (cs ns[i]) 0)=some (sv ns[i]):=rfl;have hd:(ns.drop i).Nodup:=hn.sublist (List.drop_sublist i ns);rw[jcS hi]at hm hd⊢;have pt:=jzT (hm ns[i] (YY ..)) (jmF p i);have ih:=ih (m++[(ns[i],jmF p i)]) λn hn'=>by
   rw[joY,hm n (kT _ hn')];show(if ns[i]=n then _ else none)=none;rw[ko];rintro e;exact(jbE.1 hd).1 (e ▸ hn')
  rw[JP]at ih;rw[jxx,jkS];simp only[evz,hlt,jay hi,ld,e1,e2,pt,h5,ih];rfl
theorem jtl{m:Nm'}(hm:∀p∈m,jcE p.1=true){n:Xb}(h:jcE n=false):jih m n=none:=by
 induction m with
 |nil=>rfl
 |cons p m ih=>
  rw[jih,ko,ih λq hq=>hm q (by simp[hq])];intro e;rw[<-e,hm p (by simp)]at h;cases h
theorem jla(p:UInt8)(ns:Xa)(hn:ns.length<=1000):∀t:T,Tz t->G 15 [tm t,strs ns,sv [p]]=some (tm (jik (jiq p ns) t),[]):=by
 refine T.ind λt ih ht=>?_;have hz:=ht;unfold Tz at hz;rw[jhq]at hz;have e0:=jhT t.name (((jgC t).1 ht.wf).1);rw[g15,jlu];cases hv:jcE t.name<;>rw[hv]at e0
 .rw [ko Bool.false_ne_true];have key:=(upto (P:=λi=>jr4 (strs ns) (sv [p]) (vi i) (sv t.name) (tms t.args) (sv []) (sv t.name) [] (((t.args.map (jik (jiq p ns))).take i).map jbL)=some (tm (.mk t.name (t.args.map (jik (jiq p ns)))),[])) (n:=t.args.length) ?_ ?_ 0 (Nat.zero_le _))
  .simp only[Int.natCast_zero,List.take_zero,List.map_nil]at key;simp only[evz,e0,key]
  .rw [jxj,jQ (by rw[jbD];omega)]
   simp only[evz];rfl
  .intro i hi ih';have hlt:(i:Int)<((t.args.length:Nat):Int):=by omega
   have h5:=jeN hi (by show t.args.length<=9223372036854775807;omega)
   have e2:=ih t.args[i] (jdM _) (ht.args _ (jdM _));have hf:jbb (i+1) 40=true:=jrM (by omega);have hi2:i<(t.args.map (jik (jiq p ns))).length:=by rw[jbD];exact hi
   have hl:(((t.args.map (jik (jiq p ns))).take i).map jbL).length=i:=by rw[jbD,List.length_take,jbD];omega
   have ha:jgs (((t.args.map (jik (jiq p ns))).take i).map jbL) [[sv (jik (jiq p ns) t.args[i]).name,tms (jik (jiq p ns) t.args[i]).args]]=((t.args.map (jik (jiq p ns))).take (i+1)).map jbL:=by
    rw[show[sv (jik (jiq p ns) t.args[i]).name,tms (jik (jiq p ns) t.args[i]).args]=jbL (jik (jiq p ns) t.args[i]) from(jf3 _).symm,List.take_add_one,jw hi2,jB,List.getElem_map];rfl
   generalize ((t.args.map (jik (jiq p ns))).take i).map jbL=R at *;generalize jik (jiq p ns) t.args[i]=u at *;rw[jxj];simp only[evz,hlt,jay hi,jbK,e2,hl,hf,ha,h5,ih']
 .rw [jc6 rfl];have key:=(upto (P:=λi=>(∀j,(h:j<i)-> ∀h':j<ns.length,ns[j]≠t.name)->jr3 (strs ns) (sv [p]) (vi i) (sv t.name) (tms t.args) (sv []) []=some (tm (.mk (jiq p ns t.name) []),[])) (n:=ns.length) ?_ ?_ 0 (Nat.zero_le _)) (λj h=>by omega)
  .simp only[Int.natCast_zero]at key;simp only[evz,e0,key]
  .intro hall;have:jiq p ns t.name=t.name:=by
    unfold jiq;have:ns.findIdx? (λx=>decide (x=t.name))=none:=by
     rw[List.findIdx?_eq_none_iff];intro x hx;obtain⟨j,hj,rfl⟩:=List.mem_iff_getElem.1 hx;simpa using hall j hj hj
    rw[this]
   rw[jxi,this];simp only[evz];rfl
  .intro i hi ih' hall;have hlt:(i:Int)<((ns.length:Nat):Int):=by omega
   have h5:=jeN hi (by show ns.length<=9223372036854775807;omega)
   have ld:jb7 (.elt (cs ns[i]) 0)=some (sv ns[i]):=rfl;rw[jxi];by_cases he:ns[i]=t.name
   .have e1:=juS i (by omega);have e2:=jzL p i (by omega);have:jiq p ns t.name=jmF p i:=by
     unfold jiq;have:ns.findIdx? (λx=>decide (x=t.name))=some i:=by
      rw[List.findIdx?_eq_some_iff_getElem];exact⟨hi,by simp[he],λj hj=>by simpa using hall j hj (by omega)⟩
     rw[this]
    rw[this];simp only[evz,hlt,jay hi,he,e1,e2];rfl
   .have ih':=ih' λj hj hj'=>by
     by_cases h:j=i
     .subst h;exact he
     .exact hall j (by omega) hj'
    simp only[evz,hlt,jay hi,ld,he,h5,ih']
theorem take_len{α:Type}{f:α->Xd}{xs:List α}{i:Nat}(h:i<=xs.length):((xs.take i).map f).length=i:=by rw[jbD,List.length_take];omega
noncomputable def eqL(a b:Lt):Bool:=decide (a.1=b.1) && dq a.2 b.2
noncomputable def cpG:Lt->List Lt->List Lt
 |_,[]=>[]
 |p,b::l=>if eqL b p then cpG b l else b::cpG b l
noncomputable def sameC(a b:Cls):Bool:=dq a b
end Go.Proofs.YtocncngbocomhaaGreatDoor
