/- Pb -/
import Derived.Test.YtkkcepmpbackoaaGreatDoorPa
import Derived.Test.YtkkcepmpbackoaaGreatDoorPq
import Derived.Sort.Walk0
import Derived.Lib.ItoaNum
namespace Go.Proofs.YtkkcepmpbackoaaGreatDoor
open Go Go.RowKit Go.Proofs.YtkkcepmpbackoaaGreatDoor.Abs
set_option linter.unusedSimpArgs false
set_option linter.unusedVariables false
set_option maxHeartbeats 1000000
theorem jb1(n:Xb)(t:T):∀(s:ju)(i:Nat),i<=s.length->(∀j,(h:j<i)-> ∀h':j<s.length,zz s[j].1 n=true)->((∃h:i<s.length,zz s[i].1 n=false)\/i=s.length)->KT s n t=s.take i++(n,t)::s.drop i
 | [],i,hi,_,_=>by
  have:i=0:=by simpa using hi
  subst this;rfl
 |p::s,0,_,_,h=>by
  have hp:zz p.1 n=false:=by
   rcases h with⟨_,h⟩|h
   .exact h
   .cases h
  unfold KT;rw[List.takeWhile_cons_of_neg (p:=λp:Xb×T=>zz p.1 n) (by simp[hp]),List.dropWhile_cons_of_neg (p:=λp:Xb×T=>zz p.1 n) (by simp[hp])];rfl
 |p::s,i+1,hi,h1,h=>by
  have hp:zz p.1 n=true:=h1 0 (by omega) (by simp);have:=jb1 n t s i (by simpa using hi) (λj hj hj'=>h1 (j+1) (by omega) (by simpa using hj')) (by
   rcases h with⟨h,h2⟩|h
   .exact Or.inl ⟨by simpa using h,h2⟩
   .exact Or.inr (by simpa using h))
  unfold KT at this⊢;rw[List.takeWhile_cons_of_pos (p:=λp:Xb×T=>zz p.1 n) hp,List.dropWhile_cons_of_pos (p:=λp:Xb×T=>zz p.1 n) hp,List.cons_append,this];rfl
theorem zU{α:Type}(f:α->Xd)(l:List α):zS (l.map f)=l.length:=List.length_map ..
theorem jj3(u:ju)(hl:u.length<=1000000)(i:Nat)(hi:i<=u.length) :
  pB u.length u.length (some (vi (i:Nat)))=some i/\yi (u.map bc) 0 i=(u.take i).map bc/\jO (u.take i).length 56=true/\pB u.length u.length none=some u.length/\pB 0 u.length (some (vi (i:Nat)))=some i/\yi (u.map bc) i (u.length-i)=(u.drop i).map bc/\kY (u.map bc) 0=u.length/\jO ((u.take i).length+1) 56=true/\jO ((u.take i).length+1+(u.drop i).length) 56=true:=by
 refine⟨yO hi,by rw[yi,List.drop_zero,List.map_take],jtX (by rw[List.length_take];omega),jbs (Nat.le_refl _),yO hi,?_,by rw[kY,List.length_map];rfl,jtX (by rw[List.length_take];omega),jtX (by rw[List.length_take,List.length_drop];omega)⟩
 rw[yi,<-List.map_drop,List.take_of_length_le (by rw[List.length_map,List.length_drop];omega)]
theorem jj2(u v:ju)(n:Xb)(t:T):j4 (j4 (u.map bc) [[sv n,sv t.name,jS t.args]]) (v.map bc)=(u++(n,t)::v).map bc:=by
 rw[List.map_append];show(u.map bc++[_])++v.map bc=u.map bc++_::v.map bc;rw[List.append_assoc];rfl
theorem jj4(u:ju)(n:Xb)(t:T):(j4 (u.map bc) [[sv n,sv t.name,jS t.args]]).length=u.length+1:=by
 simp[j4]
theorem jnq(u:ju)(hl:u.length<=1000000)(n:Xb)(t:T)(ht:Tz t):jgV (sv n) (tm t) (u.map bc)=some (.top,[JY (Ks u n t)]):=by
 have e1:=jhZ t ht;have key:=upto (P:=λi=>(∀j,(h:j<i)-> ∀h':j<u.length,zz u[j].1 n=true)->Z1 (sv n) (vi i) (sv t.name) (jS t.args) (u.map bc) []=some (.top,[JY (KT u n t)])) (n:=u.length) ?_ ?_ 0 (Nat.zero_le _) (λj h=>absurd h (Nat.not_lt_zero _))
 .rw [jvU,Ks];by_cases h:t.name=n
  .rw [if_pos h];simp only[jg,h]
  .rw [if_neg h];have e:Z1 (sv n) (vi 0) (sv t.name) (jS t.args) (u.map bc) []=some (.top,[JY (KT u n t)]):=key;simp only[jg,h,e]
 .intro hall;rw[jb1 n t u u.length (Nat.le_refl _) hall (Or.inr rfl)];obtain⟨k1,k2,k3,k4,k5,k6,k7,k8,k9⟩:=jj3 u hl u.length (Nat.le_refl _);have m1:=jj2 (u.take u.length) (u.drop u.length) n t;have m2:=jj4 (u.take u.length) n t;rw[jeb];simp only[jg,zU,k1,k2,k3,k4,k5,k6,k7,yP,Nat.sub_zero,e1];generalize hB:zk _ _ _=B;have hB':B=some (.agg [sv n,sv t.name,jS t.args]):=by rw[<-hB];kernel_rfl
  rw[hB'];simp only[jg,k8,k9,m1,m2]
 .intro i hi ih hall;have hlt:(i:Int)<((u.length:Nat):Int):=by omega
  have h5:=jy hi (by show u.length<=9223372036854775807;omega)
  have x1:ZB u.length (vi ((i:Nat):Int))=some i:=zR hi;have x2:=jrP hi;cases hs:zz u[i].1 n
  .rw [jb1 n t u i (by omega) hall (Or.inl ⟨hi,hs⟩)];obtain⟨k1,k2,k3,k4,k5,k6,k7,k8,k9⟩:=jj3 u hl i (by omega);have m1:=jj2 (u.take i) (u.drop i) n t;have m2:=jj4 (u.take i) n t;rw[jeb];simp only[jg,hlt,x1,x2,hs,zU,k1,k2,k3,k4,k5,k6,k7,yP,Nat.sub_zero,e1];generalize hB:zk _ _ _=B;have hB':B=some (.agg [sv n,sv t.name,jS t.args]):=by rw[<-hB];kernel_rfl
   rw[hB'];simp only[jg,k8,k9,m1,m2]
  .have ih:=ih λj hj hj'=>by
    by_cases h:j=i
    .subst h;exact hs
    .exact hall j (by omega) hj'
   rw[jeb];simp only[jg,hlt,x1,x2,hs,h5,ih]
theorem jj0(s:ju)(n:Xb)(t:T):(Ks s n t).length<=s.length+1:=by
 unfold Ks;split
 .omega
 .unfold KT;rw[List.length_append,List.length_cons];have:=List.takeWhile_append_dropWhile (p:=λp:Xb×T=>zz p.1 n) (l:=s);have:=congrArg List.length this;rw[List.length_append]at this;omega
theorem jj1{s:ju}{n:Xb}{t:T}{q:Xb×T}(h:q∈Ks s n t):q∈s\/q=(n,t):=by
 unfold Ks at h;split at h
 .exact Or.inl h
 .unfold KT at h;rw[List.mem_append,List.mem_cons]at h;rcases h with h|h|h
  .exact Or.inl (List.takeWhile_subset _ h)
  .exact Or.inr h
  .exact Or.inl (List.dropWhile_subset _ h)
abbrev pln(p:Xf):A:= .sl 1 (p.map λn=>[vi (n:Nat)])
abbrev plc(p:Xf):Xd:=[pln p]
mutual
theorem joD:∀t:T,(jjX t).length=nodes t
 |.mk n us=>by
  rw[jjX,nodes,List.length_append,jgm us 0];simp;omega
theorem jgm:∀(us:Xg)(i:Nat),(jeF i us).length=jF us
 | [],i=>rfl
 |t::ts,i=>by
  rw[jeF,jF,List.length_append,List.length_map,joD t,jgm ts (i+1)]
end
def okP:Xf->T->Prop
 | [],_=>True
 |i::p,t=>i<t.args.length/\okP p (t.args.getD i (.mk [] []))
theorem jmY{ts:Xg}{i:Nat}(h:i<ts.length):ts.getD i (.mk [] [])=ts[i]:=by rw[List.getD_eq_getElem?_getD,List.getElem?_eq_getElem h];rfl
mutual
theorem jrS:∀(t:T),∀p∈jjX t,okP p t/\p.length<=nodes t
 |.mk n us=>λp hp=>by
  rw[jjX,List.mem_append]at hp;rcases hp with hp|hp
  .obtain ⟨j,q,rfl,h1,h2,h3⟩:=jjW us 0 p hp;refine⟨?_,?_⟩
   .show (0+j)<us.length/\okP q (us.getD (0+j) _);rw[Nat.zero_add];exact⟨h1,h2⟩
   .rw [List.length_cons,nodes];omega
  .rw [List.mem_singleton]at hp;subst hp;exact⟨trivial,by simp⟩
theorem jjW:∀(us:Xg)(i:Nat),∀p∈jeF i us,∃j q,p=(i+j)::q/\j<us.length/\okP q (us.getD j (.mk [] []))/\q.length<=jF us
 | [],i,p,hp=>by rw[jeF]at hp;cases hp
 |t::ts,i,p,hp=>by
  rw[jeF,List.mem_append]at hp;rcases hp with hp|hp
  .obtain ⟨q,hq,rfl⟩:=List.mem_map.1 hp;obtain⟨h1,h2⟩:=jrS t q hq;exact⟨0,q,rfl,by simp,h1,by rw[jF];omega⟩
  .obtain ⟨j,q,rfl,h1,h2,h3⟩:=jjW ts (i+1) p hp;exact⟨j+1,q,by rw[show i+1+j=i+(j+1) by omega],by simpa using h1,by simpa using h2,by rw[jF];omega⟩
end
theorem jnm{q:T->Prop}(hq:∀t,q t-> ∀u∈t.args,q u):∀{p:Xf}{t:T},okP p t->q t->q (atT p t)
 | [],_,_,h=>h
 |i::p,t,hp,h=>by
  obtain⟨h1,h2⟩:=hp;refine jnm (p:=p) hq h2 ?_;rw[jmY h1];exact hq t h _ (List.getElem_mem _)
theorem jyY(i:Nat)(p:Xf):pln (i::p) = .sl 1 ([vi (i:Nat)]::p.map λn=>[vi (n:Nat)]):=rfl
theorem jc3{p:Xf}{i:Nat}(h:i<p.length):jz 1 (pln p) (vi (i:Nat))=some (.elt [vi (p[i]:Nat)] 0):=jb h
theorem jCr(t:T)(ht:Tz t):jA5 (sv t.name) (jS t.args)=some (.top,[sv t.name,jS t.args]):=by
 have h:=ht;unfold Tz at h;rw[ze]at h;have key:=(upto (P:=λi=>jsA (vi i) (sv t.name) (jS t.args) (sv []) (sv t.name) [] ((t.args.take i).map jm)=some (.top,[sv t.name,jS t.args])) (n:=t.args.length) ?_ ?_ 0 (Nat.zero_le _))
 .rw [jEc];simp only[Int.natCast_zero,List.take_zero,List.map_nil]at key;simp only[jg,key]
 .rw [jBD,List.take_length];simp only[jg]
 .intro i hi ih';have hlt:(i:Int)<((t.args.length:Nat):Int):=by omega
  have h5:=jy hi (by show t.args.length<=9223372036854775807;omega)
  have e1:=jhZ t.args[i] (by have:=yQ (List.getElem_mem hi);omega)
  have hf:jO (i+1) 40=true:=jtW (by omega);have hl:((t.args.take i).map jm).length=i:=by rw[List.length_map,List.length_take];omega
  have ha:j4 ((t.args.take i).map jm) [[sv t.args[i].name,jS t.args[i].args]]=(t.args.take (i+1)).map jm:=by
   rw[show[sv t.args[i].name,jS t.args[i].args]=jm t.args[i] from(kR _).symm,List.take_add_one,List.getElem?_eq_getElem hi,List.map_append];rfl
  rw[jBD];simp only[jg,hlt,jb hi,ji,e1,hl,hf,ha,h5,ih']
theorem jCv(s:T)(hs:Tz s):∀(p:Xf)(t:T),Tz t->okP p t->p.length<=2000000->G 77 [tm t,pln p,tm s]=some (tm (jvz s p t),[])
 | [],t,_,_,_=>by
  have e1:=jCr s hs;have hz:(((0:Nat):Int)=0)=True:=by simp
  rw[g77,jvz];simp only[jg,hz,e1,List.map_nil,List.getElem?_cons_zero]
 |i::p,t,ht,hp,hl=>by
  obtain⟨h1,h2⟩:=hp;have e:t.args.getD i (.mk [] [])=t.args[i]:=jmY h1;rw[e]at h2;have e1:=jCr t ht;have e2:=jCv s hs p t.args[i] (ht.args _ (List.getElem_mem h1)) h2 (by rw[List.length_cons]at hl;omega);have hz:¬((p.length+1:Nat):Int)=0:=by omega
  have hz2:¬((p.length:Nat):Int)+1=0:=by omega
  have i0:jz 1 (pln (i::p)) (vi 0)=some (.elt [vi (i:Nat)] 0):=jc3 (p:=i::p) (i:=0) (by simp);have sl:yt 1 (pln (i::p)) (some (vi 1)) none=some (pln p):=by
   have:=Yq (k:=1) (xs:=(i::p).map λn:Nat=>[vi (n:Nat)]) (i:=1) (by simp);exact this
  have ix:ZB t.args.length (vi (i:Nat))=some i:=zR h1;have rg:ZY (t.args.map jm) i=some (jm t.args[i]):=by unfold ZY;simp[h1]
  have co:zf (jm t.args[i]) 0 [sv (jvz s p t.args[i]).name,jS (jvz s p t.args[i]).args]=jm (jvz s p t.args[i]):=by rw[kR,kR];rfl
  have rs:yh (t.args.map jm) i (jm (jvz s p t.args[i]))=(t.args.set i (jvz s p t.args[i])).map jm:=by unfold yh;rw[List.map_set]
  have ll:(zG (pln (i::p)))=some (vi ((p.length+1:Nat):Int)):=by rw[jyY];simp only[jg]
  rw[g77,jvz,e];simp only[jg,ll,hz,e1,i0,jb h1,ji,sl,e2,ix,rg,co,rs,List.getElem?_cons_zero];rfl
theorem jfc{n:Xb}(h:jr n=true):n.length<=4:=by
 cases n with
 |nil=>simp
 |cons c r=>
  simp only[jr,Bool.and_eq_true,decide_eq_true_eq]at h;rw[List.length_cons];omega
theorem jo5{n:Xb}(h:qz n=true):n.length<=6:=by
 cases n with
 |nil=>simp
 |cons c r=>
  simp only[qz,Bool.and_eq_true,decide_eq_true_eq]at h;rw[List.length_cons];omega
theorem jev:∀t:T,qb t=true->tsz t<=10*nodes t:=by
 refine T.ind λt ih hk=>?_;have hL:∀us:Xg,(∀u∈us,tsz u<=10*nodes u)->JP us<=10*jF us:=by
  intro us;induction us with
  |nil=>intro _;simp[JP]
  |cons u us ih2=>
   intro h;have:=h u (by simp);have:=ih2 λw hw=>h w (by simp[hw]);simp only[JP,jF];omega
 have h1:=hL t.args λu hu=>ih u hu (qi hk u hu);rw[ze,jU];rw[qj]at hk;cases hv:jr t.name with
 |true=>
  rw[hv,if_pos rfl]at hk;have:=jfc hv;rw[List.isEmpty_iff.1 hk]at h1⊢;simp only[List.length_nil,JP]at h1⊢;omega
 |false=>
  rw[hv,if_neg Bool.false_ne_true,Bool.and_eq_true,Bool.and_eq_true,decide_eq_true_eq]at hk;have:=jo5 hk.1;omega
theorem jo4{u:ju}{Z:Nat}(hZ:1<=Z)(hu:∀q∈u,nodes q.2<=Z):∀t:T,nodes (sub u t)<=nodes t*Z:=by
 refine T.ind λt ih=>?_;cases hv:jr t.name with
 |true=>
  have h1:=Zc t;have h2:1*Z<=nodes t*Z:=Nat.mul_le_mul_right Z h1;rw[KI hv,jc1];cases hl:look u t.name with
  |none=>show 1+0<=_;omega
  |some r=>have:nodes r<=Z:=hu _ (Zz hl);show nodes r<=_;omega
 |false=>
  have hL:∀us:Xg,(∀v∈us,nodes (sub u v)<=nodes v*Z)->jF (us.map (sub u))<=jF us*Z:=by
   intro us;induction us with
   |nil=>intro _;simp[jF]
   |cons v us ih2=>
    intro h;have:=h v (by simp);have:=ih2 λw hw=>h w (by simp[hw]);simp only[List.map_cons,jF,Nat.add_mul];omega
  have:=hL t.args ih;rw[jU,jbm hv,jU t,Nat.add_mul];omega
theorem Zb{t u:T}(h:u∈t.args):nodes u<nodes t:=by
 have:=ZA h;have:=jU t;omega
def Vs(t:T):Prop:=qb t=true/\nodes t<=30
theorem Vs.args{t:T}(h:Vs t):∀u∈t.args,Vs u:=λu hu=>⟨qi h.1 u hu,by have:=Zb hu;have:=h.2;omega⟩
theorem Vs.tz{t:T}(h:Vs t):Tz t:=by
 have:=jev t h.1;have:=h.2;unfold Tz;omega
def RS(rs:Xg):Prop:=rs.length<=10/\ ∀r∈rs,r.args.length=2/\Vs (jtH r)/\Vs (jt9 r)
theorem RS.ok{rs:Xg}(h:RS rs):jyN rs:=λr hr=>⟨(h.2 r hr).2.1.1,(h.2 r hr).2.2.1⟩
def EX(root:Bool)(t:T):Prop:=(nodes t<=31/\Tz t)/\(∀u∈t.args,Vs u)/\(root=true->Vs t)
def jCd(t:T)(o:Option T):Xe:=match o with|some u=>some (.tup [tm u,vb true],[])|none=>some (.tup [tm t,vb false],[])
theorem EX.at{root:Bool}{t:T}(h:EX root t){p:Xf}(hp:okP p t)(hne:¬(p=[]/\root=false)):Vs (atT p t):=by
 obtain⟨_,h1,h2⟩:=h;cases p with
 |nil=>
  cases root
  .exact absurd ⟨rfl,rfl⟩ hne
  .exact h2 rfl
 |cons i p=>
  obtain⟨a,b⟩:=hp;refine jnm (p:=p) (q:=Vs) (λ_ h=>h.args) b ?_;rw[jmY a];exact h1 _ (List.getElem_mem _)
def jwy(o:Option T):Xe:=match o with|some u=>some (.tup [tm u,vb true],[])|none=>some (.tup [.agg [sv [],.sl 2 []],vb false],[])
def Srt(l:Xa):Prop:=l.Pairwise λx y=>x<y
theorem Q3(x y:Xb):zz x y=decide (x<y):=Go.Proofs.bytesLess_eq x y
theorem jwq{x y:Xb}(h1:¬x<y)(h2:x≠y):y<x:=by
 have h3:y<=x:=List.not_lt.1 h1;exact Std.lt_of_le_of_ne h3 (Ne.symm h2)
theorem jCt:∀(a b:Xa),Srt a->Srt b->(∀n,n∈a↔n∈b)->a=b
 | [],[],_,_,_=>rfl
 | [],y::b,_,_,h=>by have:=(h y).2 (by simp);cases this
 |x::a,[],_,_,h=>by have:=(h x).1 (by simp);cases this
 |x::a,y::b,ha,hb,h=>by
  have ha':=List.pairwise_cons.1 ha;have hb':=List.pairwise_cons.1 hb;have hxy:x=y:=by
   have h1:x∈y::b:=(h x).1 (by simp);have h2:y∈x::a:=(h y).2 (by simp);rcases List.mem_cons.1 h1 with h1|h1
   .exact h1
   .rcases List.mem_cons.1 h2 with h2|h2
    .exact h2.symm
    .exact absurd (List.lt_trans (ha'.1 y h2) (hb'.1 x h1)) (List.lt_irrefl x)
  subst hxy;refine congrArg (x::·) (jCt a b ha'.2 hb'.2 λn=>⟨λhn=>?_,λhn=>?_⟩)
  .rcases List.mem_cons.1 ((h n).1 (List.mem_cons_of_mem _ hn))with e|e
   .subst e;exact absurd (ha'.1 _ hn) (List.lt_irrefl _)
   .exact e
  .rcases List.mem_cons.1 ((h n).2 (List.mem_cons_of_mem _ hn))with e|e
   .subst e;exact absurd (hb'.1 _ hn) (List.lt_irrefl _)
   .exact e
theorem jDn{l:Xa}(h:l.Nodup):Srt (yG l):=by
 have h1:(yG l).Pairwise λx y=>decide (x<=y)=true:=List.pairwise_mergeSort (λa b c h1 h2=>by simp only[decide_eq_true_eq]at *;exact List.le_trans h1 h2) (λa b=>by simp only[Bool.or_eq_true,decide_eq_true_eq];exact List.le_total a b) l
 have h2:(yG l).Nodup:=(List.mergeSort_perm l _).nodup_iff.2 h;exact(h1.and h2).imp λ{x y} hxy=>Std.lt_of_le_of_ne (by simpa using hxy.1) hxy.2
theorem jCu{l:Xa}{s:Xb}{i:Nat}(hl:Srt l)(h1:∀x∈l.take i,x<s)(h2:∀h:i<l.length,s<l[i]):Srt (l.take i++[s]++l.drop i):=by
 have hl':Srt (l.take i++l.drop i):=by rw[List.take_append_drop];exact hl
 obtain⟨p1,p2,p3⟩:=List.pairwise_append.1 hl';have h3:∀y∈l.drop i,s<y:=by
  intro y hy;have hlt:i<l.length:=by
   rcases Nat.lt_or_ge i l.length with h|h
   .exact h
   .rw [List.drop_of_length_le h]at hy;cases hy
  rw[List.drop_eq_getElem_cons hlt]at hy p2;rcases List.mem_cons.1 hy with e|e
  .subst e;exact h2 hlt
  .exact List.lt_trans (h2 hlt) ((List.pairwise_cons.1 p2).1 y e)
 refine List.pairwise_append.2 ⟨List.pairwise_append.2 ⟨p1,by simp,λa ha b hb=>?_⟩,p2,λa ha b hb=>?_⟩
 .rw [List.mem_singleton.1 hb];exact h1 a ha
 .rcases List.mem_append.1 ha with ha|ha
  .exact p3 a ha b hb
  .rw [List.mem_singleton.1 ha];exact h3 b hb
theorem jCM{l:Xa}(h:Srt l):l.Nodup:=h.imp λ{x y} hxy e=>by subst e;exact List.lt_irrefl _ hxy
mutual
def jyD:T->Xa
 |.mk n us=>(if jr n then[]else[n])++jsj us
def jsj:Xg->Xa
 | []=>[]
 |t::ts=>jyD t++jsj ts
end
theorem jf0(t:T):jyD t=(if jr t.name then[]else[t.name])++jsj t.args:=by cases t;rfl
theorem jCD(l:Xa)(s:Xb)(hl:l.length<=2100000):∃r,G 169 [strs l,sv s]=some (strs r,[])/\jps l [s] 1 r/\(Srt l->Srt r):=by
 have key:=upto (P:=λi=>(Srt l-> ∀x∈l.take i,x<s)-> ∃r,jhe (strs l) (sv s) (vi i)=some (strs r,[])/\jps l [s] 1 r/\(Srt l->Srt r)) (n:=l.length) ?_ ?_ 0 (Nat.zero_le _)
 .simp only[Int.natCast_zero]at key;rw[jAb];exact key (by simp)
 .intro hless;have hx:¬((l.length:Nat):Int)<((l.length:Nat):Int):=Int.lt_irrefl _;have s1:yt 1 (strs l) none (some (vi (l.length:Nat)))=some (strs l):=by rw[Yr (by simp),List.take_of_length_le (by simp)]
  have s2:yt 1 (strs l) (some (vi (l.length:Nat))) none=some (.sl 1 []):=by rw[Yq (by simp),List.drop_of_length_le (by simp)]
  have f1:jO l.length 16=true:=jaY (by omega);have f2:jO (l.length+1) 16=true:=jaY (by omega);have happ:j4 (j4 (l.map cs) [[sv s]]) []=(l++[s]).map cs:=by simp[j4]
  have hlen:(j4 (l.map cs) [[sv s]]).length=l.length+1:=by simp[j4]
  refine⟨l++[s],?_,⟨by intro n;simp,by simp⟩,λh=>?_⟩
  .rw [jq0];simp only[jg,hx,s1,s2,f1,f2,hlen,happ,Nat.add_zero]
  .have:=jCu (s:=s) (i:=l.length) h (hless h) (λh=>absurd h (Nat.lt_irrefl _));simpa using this
 .intro i hi ih hless;have hlt:(i:Int)<((l.length:Nat):Int):=by omega
  have h5:=jy hi (by omega);rw[jq0];cases h1:zz l[i] s
  .by_cases h2:l[i]=s
   .refine ⟨l,?_,⟨λn=>⟨λh=>Or.inl h,λh=>by
     rcases h with h|h
     .exact h
     .simp at h;rw[h,<-h2];exact List.getElem_mem _⟩,by omega⟩,id⟩
    rw[h2]at h1;simp only[jg,hlt,jb hi,h2,h1]
   .have s1:yt 1 (strs l) none (some (vi i))=some (strs (l.take i)):=by rw[Yr (by simp;omega),<-List.map_take]
    have s2:yt 1 (strs l) (some (vi i)) none=some (strs (l.drop i)):=by rw[Yq (by simp;omega),<-List.map_drop]
    have ht:(l.take i).length=i:=by rw[List.length_take];omega
    have f1:jO i 16=true:=jaY (by omega);have f2:jO (i+1) 16=true:=jaY (by omega);have f3:jO (i+1+(l.drop i).length) 16=true:=jaY (by rw[List.length_drop];omega);have happ:j4 (j4 ((l.take i).map cs) [[sv s]]) ((l.drop i).map cs)=(l.take i++[s]++l.drop i).map cs:=by simp[j4]
    have hlen:(j4 ((l.take i).map cs) [[sv s]]).length=i+1:=by simp[j4];omega
    refine⟨l.take i++[s]++l.drop i,?_,⟨λn=>?_,by simp;omega⟩,λh=>?_⟩
    .simp only[jg,hlt,jb hi,h1,h2,s1,s2,ht,f1,f2,f3,hlen,happ]
    .have hm:n∈l↔n∈l.take i\/n∈l.drop i:=by rw[<-List.mem_append,List.take_append_drop]
     simp only[List.mem_append,List.mem_singleton,hm];exact⟨λh=>by rcases h with(h|h)|h<;>simp[h],λh=>by rcases h with(h|h)|h<;>simp[h]⟩
    .rw [Q3,decide_eq_false_iff_not]at h1;exact jCu h (hless h) λ_=>jwq h1 h2
  .have hx:l[i]<s:=by rw[Q3,decide_eq_true_eq]at h1;exact h1
   obtain⟨r,e,c⟩:=ih λh x hm=>by
    rw[List.take_succ_eq_append_getElem hi]at hm;rcases List.mem_append.1 hm with hm|hm
    .exact hless h x hm
    .rw [List.mem_singleton.1 hm];exact hx
   refine⟨r,?_,c⟩;simp only[jg,hlt,jb hi,h1,h5,e]
theorem jw3:∀t:T,KZ t-> ∀l:Xa,l.length+nodes t<=2100000-> ∃r,G 124 [strs l,tm t]=some (strs r,[])/\jps l (jyD t) (nodes t) r/\(Srt l->Srt r):=by
 refine T.ind λt ih hw l hb=>?_;obtain⟨w1,w2,w3⟩:=(kQ t).1 hw;have w3:=(kK _).1 w3;have e1:=yc t.name w1;rw[jE7,jf0];rw[jU]at hb⊢;have key:=upto (P:=λi=>∀l:Xa,l.length+jF (t.args.drop i)<=2100000-> ∃r,jyA (strs l) (vi i) (sv t.name) (jS t.args)=some (strs r,[])/\jps l (jsj (t.args.drop i)) (jF (t.args.drop i)) r/\(Srt l->Srt r)) (n:=t.args.length) ?_ ?_ 0 (Nat.zero_le _)
 .simp only[Int.natCast_zero,List.drop_zero]at key;cases hv:jr t.name<;>rw[hv]at e1
  .obtain ⟨r0,e0,⟨b1,b2⟩,b3⟩:=jCD l t.name (by omega);obtain⟨r,e,⟨c1,c2⟩,c3⟩:=key r0 (by omega);refine⟨r,?_,⟨λn=>?_,by omega⟩,λh=>c3 (b3 h)⟩
   .simp only[jg,e1,e0,e]
   .rw [c1,b1];simp only[Bool.false_eq_true,if_false,List.mem_append];exact or_assoc
  .obtain ⟨r,e,⟨c1,c2⟩,c3⟩:=key l (by omega);refine⟨r,?_,⟨by simpa using c1,by omega⟩,c3⟩;simp only[jg,e1,e]
 .intro l hb;rw[jC5,List.drop_length];refine⟨l,?_,⟨by simp[jsj],by omega⟩,id⟩;simp only[jg]
 .intro i hi ih' l hb;have hlt:(i:Int)<((t.args.length:Nat):Int):=by omega
  have h5:=jy hi w2;rw[js hi]at hb⊢;simp only[jF,jsj]at hb⊢;obtain⟨r1,a1,⟨c1,c2⟩,c3⟩:=ih t.args[i] (List.getElem_mem _) (w3 _ (List.getElem_mem _)) l (by omega);obtain⟨r2,a2,⟨d1,d2⟩,d3⟩:=ih' r1 (by omega);rw[jC5];refine⟨r2,?_,⟨λn=>?_,by omega⟩,λh=>d3 (c3 h)⟩
  .simp only[jg,hlt,jb hi,ji,a1,h5,a2]
  .rw [d1,c1,List.mem_append];exact or_assoc
theorem jl9{n:Xb}(h:jr n=true):qz n=false:=by
 cases n with
 |nil=>rfl
 |cons c r=>
  simp only[jr,Bool.and_eq_true,upc,ZW,decide_eq_true_eq]at h;have:QO c=false:=by unfold QO ZW;rw[Bool.and_eq_false_iff];left;rw[decide_eq_false_iff_not];omega
  simp[qz,this]
theorem jBK{t:T}(h:qb t=true):qz t.name=!jr t.name:=by
 obtain⟨c,r,_,hv,hs⟩:=jry h;cases hx:jr t.name
 .rw [hv]at hx;rw[hs hx];rfl
 .rw [jl9 hx];rfl
def jAT(l vs:Xa)(k:Nat)(r:Xa):Prop:=jps l vs k r/\(l.Nodup->r.Nodup)
theorem jn5(ts:Xg)(hl:ts.length<=9223372036854775807)(ih:∀t∈ts,∀l:Xa,l.length+nodes t<=2100000-> ∃r,jin (sv t.name) (jS t.args) (l.map cs)=some (.top,[strs r])/\jAT l (jyD t) (nodes t) r) :
  ∀i,i<=ts.length-> ∀l:Xa,l.length+jF (ts.drop i)<=2100000-> ∃r,jsB (jS ts) (vi (ts.length:Nat)) (vi i) (l.map cs)=some (.top,[strs r])/\jAT l (jsj (ts.drop i)) (jF (ts.drop i)) r:=by
 refine upto ?_ ?_
 .intro l hb;rw[jBE,List.drop_length];refine⟨l,?_,⟨by simp[jsj],by omega⟩,id⟩;simp only[jg]
 .intro i hi ih' l hb;have hlt:(i:Int)<((ts.length:Nat):Int):=by omega
  have h5:=jy hi hl;rw[js hi]at hb⊢;simp only[jF,jsj]at hb⊢;obtain⟨r1,e1,⟨c1,c2⟩,c3⟩:=ih ts[i] (List.getElem_mem _) l (by omega);obtain⟨r2,e2,⟨d1,d2⟩,d3⟩:=ih' r1 (by omega);rw[jBE];refine⟨r2,?_,⟨λn=>?_,by omega⟩,λh=>d3 (c3 h)⟩
  .simp only[jg,hlt,jb hi,ji,e1,h5,e2]
  .rw [d1,c1,List.mem_append];exact or_assoc
theorem jip(ts:Xg)(hl:ts.length<=9223372036854775807)(ih:∀t∈ts,∀l:Xa,l.length+nodes t<=2100000-> ∃r,jin (sv t.name) (jS t.args) (l.map cs)=some (.top,[strs r])/\jAT l (jyD t) (nodes t) r)(l:Xa)(hb:l.length+jF ts<=2100000) :
  ∃r,jyF (jS ts) (vi (ts.length:Nat)) (vi 0) (l.map cs)=some (.top,[strs r])/\jAT l (jsj ts) (jF ts) r:=by
 have loop:=jn5 ts hl ih;rw[jC6];by_cases h0:ts.length=0
 .have ha:ts=[]:=List.length_eq_zero_iff.1 h0;rw[ha];refine⟨l,?_,⟨by simp[jsj],by simp[jF]⟩,id⟩;simp only[jg];rfl
 .have hi:0<ts.length:=by omega
  have hlt:(0:Int)<((ts.length:Nat):Int):=by omega
  have hix:jz 2 (jS ts) (vi 0)=some (.elt (jm ts[0]) 0):=jb (i:=0) hi;have h5:jq .add false (vi 0) (vi 1)=some (vi ((1:Nat):Int)):=by rw[Zf,jZ (by decide) (by decide)];rfl
  have hd:ts=ts[0]::ts.drop 1:=by have:=js hi;simpa using this
  have hns:jF ts=nodes ts[0]+jF (ts.drop 1):=by conv=>lhs;rw[hd,jF]
  have hvs:jsj ts=jyD ts[0]++jsj (ts.drop 1):=by conv=>lhs;rw[hd,jsj]
  obtain⟨r1,e1,⟨c1,c2⟩,c3⟩:=ih ts[0] (List.getElem_mem _) l (by omega);obtain⟨r2,e2,⟨d1,d2⟩,d3⟩:=loop 1 (by omega) r1 (by omega);refine⟨r2,?_,⟨λn=>?_,by omega⟩,λh=>d3 (c3 h)⟩
  .simp only[jg,hlt,hix,ji,e1,h5,e2]
  .rw [d1,c1,hvs,List.mem_append];exact or_assoc
theorem jvr:∀t:T,KZ t->qb t=true-> ∀l:Xa,l.length+nodes t<=2100000-> ∃r,jin (sv t.name) (jS t.args) (l.map cs)=some (.top,[strs r])/\jAT l (jyD t) (nodes t) r:=by
 refine T.ind λt ih hw hk l hb=>?_;obtain⟨w1,w2,w3⟩:=(kQ t).1 hw;have w3:=(kK _).1 w3;have hks:=qi hk;have e1:=jcw t.name w1;have e2:=Qm l t.name (by omega);rw[jBK hk]at e1;rw[jEd,jf0];have ih':∀u∈t.args,∀l:Xa,l.length+nodes u<=2100000-> ∃r,jin (sv u.name) (jS u.args) (l.map cs)=some (.top,[strs r])/\jAT l (jyD u) (nodes u) r:=λu hu=>ih u hu (w3 u hu) (hks u hu);rw[jU]at hb⊢;cases hv:jr t.name<;>rw[hv]at e1
 .cases hc:l.contains t.name<;>rw[hc]at e2
  .have hn:¬t.name∈l:=by simpa using hc
   obtain⟨r,e,⟨c1,c2⟩,c3⟩:=jn5 t.args w2 ih' 0 (Nat.zero_le _) (l++[t.name]) (by simp;omega)
   simp only[Int.natCast_zero,List.drop_zero,List.length_append,List.length_singleton]at e c1 c2;have happ:j4 (l.map cs) [[sv t.name]]=(l++[t.name]).map cs:=by simp[j4]
   have f1:jO (l.length+1) 16=true:=jaY (by omega);refine⟨r,?_,⟨λn=>?_,by omega⟩,λh=>c3 ?_⟩
   .simp only[jg,e1,e2,f1,happ,e]
   .rw [c1];simp only[Bool.false_eq_true,if_false,List.mem_append];exact or_assoc
   .exact List.nodup_append.2 ⟨h,by simp,λa ha b hb e=>by rw[List.mem_singleton.1 hb]at e;rw[e]at ha;exact hn ha⟩
  .have hn:t.name∈l:=by simpa using hc
   obtain⟨r,e,⟨c1,c2⟩,c3⟩:=jip t.args w2 ih' l (by omega);refine⟨r,?_,⟨λn=>?_,by omega⟩,c3⟩
   .simp only[jg,e1,e2,e]
   .rw [c1];simp only[Bool.false_eq_true,if_false,List.mem_append,List.mem_singleton];exact⟨λh=>by rcases h with h|h<;>simp[h],λh=>by
     rcases h with h|h|h
     .exact Or.inl h
     .exact Or.inl (h ▸ hn)
     .exact Or.inr h⟩
 .obtain ⟨r,e,⟨c1,c2⟩,c3⟩:=jip t.args w2 ih' l (by omega);refine⟨r,?_,⟨by simpa using c1,by omega⟩,c3⟩;simp only[jg,e1,e]
theorem jDl{n:Nat}(h:n<=4000000):jO n 8=true:=by
 unfold jO;simp;omega
theorem jDM(n:Nat)(h:n<=12):((jaW .u64 (qS [[vi 1]])).bind λt2=>(jaW .u64 (vi n)).bind λt3=>(G 177 [t2,t3]).bind (fin false))=some (.tup [.val (.int .u64 0),.val (.int .u64 n)]):=by
 have c:(jaW .u64 (qS [[vi 1]]))=some (.val (.int .u64 1)):=by kernel_rfl
 have d:jaW .u64 (vi n)=some (.val (.int .u64 n)):=by
  rcases n with _|_|_|_|_|_|_|_|_|_|_|_|_|n
  rotate_right
  .omega
  all_goals kernel_rfl
 rw[c,d];simp only[Option.bind_some];rw[jFd];simp only[cev];rw[jFk];clear c d;rcases n with _|_|_|_|_|_|_|_|_|_|_|_|_|n
 rotate_right
 .omega
 all_goals (show _=_;kernel_rfl)
theorem jC0{α:Type}{a b:α}{i j k:Nat}(h:i<=k):(List.replicate i a++List.replicate j b).drop k=List.replicate (j-(k-i)) b:=by
 rw[List.drop_append,List.drop_replicate,List.drop_replicate,List.length_replicate,show i-k=0 by omega];rfl
theorem jDm{n:Nat}(hn:n<=12)(r1:Xc):∀(f j:Nat),n-j<=f->1<=j->j<=n->
  jsC (vi (j:Nat)) (List.replicate j [vi 1]++List.replicate (n-j) [vi 0]) r1=some (.top,[.sl 1 (List.replicate n [vi 1])]):=by
 intro f;induction f with
 |zero=>
  intro j h1 h2 h3;have:j=n:=by omega
  subst this;rw[juK];simp only[jg,List.length_replicate,Nat.sub_self,List.replicate_zero,List.append_nil]
 |succ f ih=>
  intro j h1 h2 h3;by_cases hj:j=n
  .subst hj;rw[juK];simp only[jg,List.length_replicate,Nat.sub_self,List.replicate_zero,List.append_nil]
  .rw [juK];simp only[cev];have hl:(List.replicate j [vi 1]++List.replicate (n-j) [vi 0]).length=n:=by simp;omega
   have e1:decide ((j:Int)<(n:Int))=true:=by simp;omega
   have hm:j+min j (n-j)<=n:=by omega
   have e2:jq .add false (vi j) (vi (min j (n-j):Nat))=some (vi (j+min j (n-j):Nat)):=by
    rw[Zf,jZ (by omega) (by omega)];rfl
   have ew:(((List.replicate j [vi 1]++List.replicate (n-j) [vi 0]).drop 0).take j)=List.replicate j [vi 1]:=by
    rw[List.drop_zero,List.take_append_of_le_length (by simp),List.take_of_length_le (by simp)]
   have eo:yd (List.replicate j [vi 1]++List.replicate (n-j) [vi 0]) (0+j) ((List.replicate j [vi 1]).take (n-j))=List.replicate (j+min j (n-j)) [vi 1]++List.replicate (n-(j+min j (n-j))) [vi 0]:=by
    rw[ja4,Nat.zero_add,List.take_append_of_le_length (by simp),List.take_of_length_le (by simp),List.take_replicate,List.length_replicate,jC0]
    .rw [List.replicate_append_replicate,Nat.min_comm (n-j) j];congr 2;omega
    .omega
   have key:=ih (j+min j (n-j)) (by omega) (by omega) hm;simp only[jh2,jt2,yk,hl,jjN,Option.bind_some,jaV,e1,jiI,Nat.sub_zero,jbs (Nat.le_refl n),yO h3,jdg,yP,ew,jCs,jBJ,List.length_replicate,e2,eo,key]
theorem jEk{n:Nat}(h:n<=12):jBU (vi (n:Nat)) [[vi 1]]=some (.top,[.sl 1 (List.replicate n [vi 1])]):=by
 rw[jEe];simp only[cev];have e0:decide ((n:Int)<0)=false:=by simp
 have em:=jDM n h;have eg:decide ((0:Int)<0)=false:=by simp
 have ec:jaW .i64 (A.val (.int .u64 n))=some (vi n):=jZ (by omega) (by omega);have ek:jq .gtr false (A.val (.int .u64 n)) (A.val (.int .u64 9223372036854775807))=some (vb false):=by
  show some (vb (decide ((9223372036854775807:Int)<n)))=_;rw[decide_eq_false (by omega)]
 have ek0:jq .gtr false (A.val (.int .u64 0)) (A.val (.int .u64 0))=some (vb false):=rfl;have emk:jcH 8 (vi n) (vi n)=some n:=by
  show(if jvB 8 (n:Int) (n:Int)then some (n:Int).toNat else none)=_;rw[if_pos ⟨by omega,by omega,by omega,by omega⟩];rfl
 have hm:∀(k:A->A->Xe),((jaW .u64 (qS [[vi 1]])).bind λt2=>(jaW .u64 (vi n)).bind λt3=>((G 177 [t2,t3]).bind (fin false)).bind λt4=>(jeA t4 0).bind λt5=>(jeA t4 1).bind λt6=>k t5 t6) =
   k (.val (.int .u64 0)) (.val (.int .u64 n)):=by
  intro k;have:((jaW .u64 (qS [[vi 1]])).bind λt2=>(jaW .u64 (vi n)).bind λt3=>((G 177 [t2,t3]).bind (fin false)).bind λt4=>(jeA t4 0).bind λt5=>(jeA t4 1).bind λt6=>k t5 t6) =
    (((jaW .u64 (qS [[vi 1]])).bind λt2=>(jaW .u64 (vi n)).bind λt3=>(G 177 [t2,t3]).bind (fin false)).bind λt4=>(jeA t4 0).bind λt5=>(jeA t4 1).bind λt6=>k t5 t6):=by
   simp only[Option.bind_assoc]
  rw[this,em];rfl
 rw[jjN,e0];simp only[Option.bind_some,jaV,YP];rw[hm];simp only[ek0,ek,Option.bind_some,jvn,if_true,jjQ,Bool.false_eq_true,if_false,jaV,YP,ec,emk,JM,jt2,List.length_replicate];rcases n with _|n
 .have e1:jAG [[vi 1]] 0=vi ((0:Nat):Int):=rfl;have e2:yd (List.replicate 0 [vi 0]) 0 (jyo [[vi 1]] 0)=[]:=rfl;rw[e1,e2,juK];rfl
 .have key:=jDm (n:=n+1) h [[vi 1]] (n+1) 1 (by omega) (by omega) (by omega);have e1:jAG [[vi 1]] (n+1)=vi ((1:Nat):Int):=by
   rw[jCs];have:min [[vi 1]].length (n+1)=1:=by simp
   rw[this]
  have e2:yd (List.replicate (n+1) [vi 0]) 0 (jyo [[vi 1]] (n+1))=List.replicate 1 [vi 1]++List.replicate (n+1-1) [vi 0]:=by
   rw[ja4,jBJ];simp[List.replicate_succ]
  rw[e1,e2];exact key
theorem jyZ{ts:Xg}{n:Xb} :n∈jsj ts↔ ∃t∈ts,n∈jyD t:=by
 induction ts with
 |nil=>simp[jsj]
 |cons t ts ih=>simp[jsj,ih]
theorem jA2:∀t:T,qb t=true-> ∀n∈jyD t,qz n=true:=by
 refine T.ind λt ih hk n hn=>?_;rw[jf0,List.mem_append]at hn;rcases hn with hn|hn
 .cases hv:jr t.name<;>rw[hv]at hn
  .simp at hn;rw[hn,jBK hk,hv];rfl
  .simp at hn
 .obtain ⟨u,hu,hm⟩:=jyZ.1 hn;exact ih u hu (qi hk u hu) n hm
theorem jBz(l:Xa):∀t:T,(∀n∈jyD t,n∈l)->js3 l t=true:=by
 refine T.ind λt ih h=>?_;rw[jf0]at h;rw[jbA,jfP,Bool.and_eq_true];refine⟨?_,List.all_eq_true.2 λu hu=>ih u hu λn hn=>h n (List.mem_append_right _ (jyZ.2 ⟨u,hu,hn⟩))⟩;cases hv:jr t.name
 .rw [hv]at h;rw[Bool.false_or];exact List.contains_iff_mem.2 (h t.name (by simp))
 .rfl
def jCh(r:Xa):Ord':=⟨r,List.replicate r.length 1,1⟩
theorem jCO{r:Xa}(h1:1<=r.length)(h2:r.length<=12)(hs:∀n∈r,qz n=true)(hn:r.Nodup):jmi (jCh r)=true:=by
 have hb:ZW 1 12 (r.length:Nat)=true:=by unfold ZW;rw[Bool.and_eq_true,decide_eq_true_eq,decide_eq_true_eq];omega
 unfold jmi jCh;simp only[hb,List.length_replicate,decide_true,Bool.true_and,Bool.and_eq_true];refine⟨by decide,List.all_eq_true.2 λi hi=>?_⟩;have hi:i<r.length:=List.mem_range.1 hi;have g1:r.getD i []=r[i]:=by simp[List.getD_eq_getElem?_getD,hi]
 have g2:(List.replicate r.length (1:Int)).getD i 0=1:=by simp[List.getD_eq_getElem?_getD,hi]
 unfold jzt;simp only[g1,g2,hs _ (List.getElem_mem _),Bool.true_and,Bool.and_eq_true];refine⟨?_,by decide⟩;rw[Bool.not_eq_true',<-Bool.not_eq_true,List.contains_iff_mem];intro hm;obtain⟨j,hj,e⟩:=List.mem_take_iff_getElem.1 hm;have:=(List.nodup_iff_pairwise_ne.1 hn);have:=List.pairwise_iff_getElem.1 this j i (by omega) hi (by omega);exact this e
theorem jDp{n:Xb}(h:qz n=true):n.length<=6:=by
 cases n with
 |nil=>simp
 |cons c r=>
  simp only[qz,Bool.and_eq_true,decide_eq_true_eq]at h;simp only[List.length_cons];omega
theorem jyT(o:Ord')(s t:T)(hw:KZ s)(hw':KZ t)(x y:Bool)(e5:G 180 [od o,tm s,tm t]=some (vb x,[]))(e6:G 180 [od o,tm t,tm s]=some (vb y,[])):G 131 [od o,tm s,tm t]=some (vi (juH (dq s t) x y),[]):=by
 have e4:=KP s hw t hw';have c1:G 179 [.elt (jAB o) 0,.elt [sv s.name,.sl 2 (s.args.map jm)] 0,.elt [sv t.name,.sl 2 (t.args.map jm)] 0]=some (vb x,[]):=by
  rw[jEA];simp only[jg,juN,juO,e5]
 have c2:G 181 [.elt (jAB o) 0,.elt [sv t.name,.sl 2 (t.args.map jm)] 0,.elt [sv s.name,.sl 2 (s.args.map jm)] 0]=some (vb y,[]):=by
  rw[jEC];simp only[jg,juN,juO,e6]
 have e7:=jyX (f:=179) (g:=181) rfl rfl (dq s t) _ _ c1 c2;rw[jEz];simp only[jg,e4,e7]
theorem jil{t:T}(hk:qb t=true)(hv:jr t.name=true):t.args=[]:=by
 rw[qj,hv,if_pos rfl]at hk;exact List.isEmpty_iff.1 hk
theorem jBC(o:Ord')(s t:T)(hw:KZ s)(hw':KZ t)(hk:qb s=true)(hk':qb t=true)(hv:jr s.name=true)(hv':jr t.name=true)(hne:¬s.name=t.name):G 180 [od o,tm s,tm t]=some (vb false,[]):=by
 have as_:=jil hk hv;have at_:=jil hk' hv';have ns:nodes s<=1048577:=by rw[jU,as_];simp[jF]
 have nt:nodes t<=1048577:=by rw[jU,at_];simp[jF]
 obtain⟨r,er,c1,c2⟩:=jvw t hw' hk' nt;have hvt:ke t=[t.name]:=by rw[YI,if_pos hv']
 have hpos:0<r.length:=by
  rcases Nat.eq_zero_or_pos r.length with h|h
  .have hr:r=[]:=List.length_eq_zero_iff.1 h;have:=(c1 t.name).2 (by rw[hvt];simp);rw[hr]at this;cases this
  .exact h
 have h0:r[0]=t.name:=by
  have:=(c1 r[0]).1 (List.getElem_mem _);rw[hvt]at this;simpa using this
 have hlt:(0:Int)<((r.length:Nat):Int):=by omega
 have hix:jz 1 (strs r) (vi 0)=some (.elt (cs t.name) 0):=by have:=jb (k:=1) (f:=cs) (i:=0) hpos;rw[h0]at this;exact this
 have a1:=jhv t.name s hw ns;have a2:=jhv t.name t hw' nt;have k1:cnt t.name s=0:=by rw[jk9,as_,if_neg hne];simp[ZU]
 have k2:cnt t.name t=1:=by rw[jk9,at_];simp[ZU]
 rw[k1]at a1;rw[k2]at a2;have h':((0:Nat):Int)<((1:Nat):Int):=by omega
 rw[jEB];simp only[jg,er];rw[jB0];simp only[jg,hlt,hix,a1,a2,h']
theorem jDo(a b:T)(r:Xa)(hr:r.length<=12)(x:Int)(ok:Bool)(e:G 125 [.agg [strs r,.sl 1 (List.replicate r.length [vi 1]),vi 1],tm a,tm b]=some (.tup [vi x,vb ok],[])) :
  jBv (vi 0) (sv a.name) (jS a.args) (sv b.name) (jS b.args) (strs r) (vi 1) []=some (vi (if ok then x else 0),[]):=by
 have key:=upto (P:=λi=>jBv (vi i) (sv a.name) (jS a.args) (sv b.name) (jS b.args) (strs r) (vi 1) (List.replicate i [vi 1])=some (vi (if ok then x else 0),[])) (n:=r.length) ?_ ?_ 0 (Nat.zero_le _)
 .simpa using key
 .rw [jD1];have hf:fin true (A.tup [vi x,vb ok],[])=some (A.tup [vi x,vb ok]):=rfl;cases ok
  .simp only[jg,e,hf]
  .simp only[jg,e,hf]
 .intro i hi ih;have hlt:(i:Int)<((r.length:Nat):Int):=by omega
  have h5:=jy hi (by omega);have f1:jO (i+1) 8=true:=jDl (by omega);have happ:j4 (List.replicate i [vi 1]) [[vi 1]]=List.replicate (i+1) [vi 1]:=by rw[List.replicate_succ'];rfl
  have hlen:(List.replicate i ([vi 1]:Xd)).length=i:=List.length_replicate;rw[jD1];simp only[jg,hlt,hlen,f1,h5,happ,ih]
theorem jEi{o:Ord'}(hv:jmi o=true){s t:T}(ks:qb s=true)(hc:js3 o.syms t=true)(h:Kp o s t):jr s.name=false:=by
 cases hs:jr s.name with
 |false=>rfl
 |true=>
  obtain⟨_,h⟩:=(jCR o s t).1 h;rcases h with h|⟨_,h,_⟩
  .have:=jEm hv hc;rw[jBO o s,jil ks hs,hs,if_pos rfl]at h;simp only[wtL]at h;omega
  .rw [hs]at h;cases h.1
theorem jDk(a b:T)(hw:KZ a)(hw':KZ b)(hs:tsz a<=1048576)(hs':tsz b<=1048576)(hva:kV a=true)(hvb:kV b=true) :
  ∃x:Int,G 76 [tm a,tm b]=some (vi x,[])/\G 83 [tm a,tm b]=some (vi x,[])/\(x=2->jr a.name=false):=by
 have hk:qb a=true:=by unfold kV at hva;rw[Bool.and_eq_true]at hva;exact hva.2
 have hk':qb b=true:=by unfold kV at hvb;rw[Bool.and_eq_true]at hvb;exact hvb.2
 have na:nodes a<=30:=by simp only[kV,jH,Bool.and_eq_true,decide_eq_true_eq]at hva;exact hva.1.1
 have nb:nodes b<=30:=by simp only[kV,jH,Bool.and_eq_true,decide_eq_true_eq]at hvb;exact hvb.1.1
 have e1:=jf7 a hw b hw';have e2:=KP a hw b hw';rw[g76,g83];cases hd:dq a b<;>rw[hd]at e1 e2
 rotate_left
 .exact ⟨1,by simp only[jg,e1],by simp only[jg,e2],λh=>absurd h (by decide)⟩
 obtain⟨r1,f1,⟨c1,c2⟩,c3⟩:=jw3 a hw [] (by simp;omega)
 obtain⟨r,f2,⟨d1,d2⟩,d3⟩:=jw3 b hw' r1 (by simp at c2;omega)
 have hsrt:Srt r:=d3 (c3 List.Pairwise.nil);have hmem:∀n,n∈r↔n∈jyD a\/n∈jyD b:=λn=>by rw[d1,c1];simp
 have hlen:r.length<=60:=by simp at c2;omega
 have f1:G 124 [.sl 1 [],tm a]=some (strs r1,[]):=f1;obtain⟨p1,g1,⟨i1,i2⟩,i3⟩:=jvr a hw hk [] (by simp;omega);obtain⟨p,g2,⟨j1,j2⟩,j3⟩:=jvr b hw' hk' p1 (by simp at i2;omega);have hnd:p.Nodup:=j3 (i3 List.nodup_nil);have hpm:∀n,n∈p↔n∈jyD a\/n∈jyD b:=λn=>by rw[j1,i1];simp
 have hsort:yG p=r:=jCt _ _ (jDn hnd) hsrt λn=>by rw[hmem,<-hpm];unfold yG;exact List.mem_mergeSort
 have hpl:p.length=r.length:=by rw[<-hsort];simp[yG]
 have g1:jin (sv a.name) (jS a.args) []=some (.top,[strs p1]):=g1;have g3:jyi (p.map cs)=some (.top,[strs r]):=by
  rw[jCW];simp only[jse,jl1];rw[if_pos (by omega),hsort]
 by_cases h12:r.length<=12;rotate_left
 .have hgt:((12:Nat):Int)<((r.length:Nat):Int):=by omega
  have hle:¬((r.length:Nat):Int)<=12:=by omega
  have hgt:(12:Int)<((r.length:Nat):Int):=by omega
  have hz:¬((r.length:Nat):Int)=0:=by omega
  refine⟨0,?_,?_,λh=>absurd h (by decide)⟩
  .simp only[jg,e1,f1,f2,hz,hgt]
  .simp only[jg,e2,g1,g2,hpl,hgt]
 have hle:((r.length:Nat):Int)<=12:=by omega
 have hgt:¬(12:Int)<((r.length:Nat):Int):=by omega
 have hrep:=jEk h12;have hci:(ints (List.replicate r.length 1):A) = .sl 1 (List.replicate r.length [vi 1]):=by show A.sl 1 _=_;rw[List.map_replicate]
 have hod:(od (jCh r):A) = .agg [strs r,.sl 1 (List.replicate r.length [vi 1]),vi 1]:=by rw[<-hci];rfl
 by_cases h0:r.length=0
 .have hr:r=[]:=List.length_eq_zero_iff.1 h0;have hz:((r.length:Nat):Int)=0:=by omega
  have va:jr a.name=true:=by
   cases hv:jr a.name
   .have:=(hmem a.name).2 (Or.inl (by rw[jf0,hv];simp))
    rw[hr]at this;cases this
   .rfl
  have vb':jr b.name=true:=by
   cases hv:jr b.name
   .have:=(hmem b.name).2 (Or.inr (by rw[jf0,hv];simp))
    rw[hr]at this;cases this
   .rfl
  have hne:¬a.name=b.name:=λe=>by
   rw[jxL,e,jil hk va,jil hk' vb',jhx]at hd;simp at hd
  have q:=jyT (jCh r) a b hw hw' false false (jBC _ a b hw hw' hk hk' va vb' hne) (jBC _ b a hw' hw hk' hk vb' va (λe=>hne e.symm));rw[hd,hod]at q;refine⟨0,?_,?_,λh=>absurd h (by decide)⟩
  .simp only[jg,e1,f1,f2,hz]
  .simp only[jg,e2,g1,g2,hpl,hgt,g3,hrep,q,juH]
 have hsym:∀n∈r,qz n=true:=λn hn=>by
  rcases(hmem n).1 hn with h|h
  .exact jA2 a hk n h
  .exact jA2 b hk' n h
 have hval:=jCO (by omega) h12 hsym (jCM hsrt);have hca:js3 (jCh r).syms a=true:=jBz _ a λn hn=>(hmem n).2 (Or.inl hn);have hcb:js3 (jCh r).syms b=true:=jBz _ b λn hn=>(hmem n).2 (Or.inr hn);have howf:owf (jCh r):=by
  refine⟨⟨λs hs=>?_,by show r.length<=_;omega⟩,⟨λx hx=>?_,by show(List.replicate r.length (1:Int)).length<=_;rw[List.length_replicate];omega⟩,by show I64 1;exact⟨by decide,by decide⟩⟩
  .have:=jDp (hsym s hs);omega
  .have:x=1:=by have:=List.eq_of_mem_replicate hx;exact this
   rw[this];exact⟨by decide,by decide⟩
 have q1:=jw9 (jCh r) a b howf hw hs hw' hs';have q2:=jw6 hval a b howf hw hs hw' hs' hk hk' hca hcb;have q3:jv9 (jCh r) a b = .tup [vi (jv4 (jCh r) a b),vb true]:=by unfold jv9 ji0;rw[hval,hva,hvb,hca,hcb];rfl
 rw[q3,hod]at q1;rw[hod]at q2;have q4:=jDo a b r h12 _ _ q1;have hz:¬((r.length:Nat):Int)=0:=by omega
 refine⟨jv4 (jCh r) a b,?_,?_,λh=>jEi hval hk hcb ((jDF _ _ _).1 h)⟩
 .simp only[jg,e1,f1,f2,hz,hgt,q4]
 .simp only[jg,e2,g1,g2,hpl,hgt,g3,hrep,q2]
theorem jp3{ts:Xg}{t:T}(h:t∈ts):Ko t<=KO ts:=by
 induction ts with
 |nil=>cases h
 |cons u us ih=>
  simp only[KO];rcases List.mem_cons.1 h with h|h
  .subst h;omega
  .have:=ih h;omega
theorem jiC(t:T)(hs:Tz t)(he:¬t.name=[61]):G 86 [tm t]=some (vb (qz t.name && kV t),[]):=by
 have e1:=Yh t.name ((kQ t).1 hs.wf).1;have e2:=YV t hs.wf hs;rw[g86];cases h:qz t.name<;>rw[h]at e1
 .simp only[jg,he,e1,Bool.false_and]
 .simp only[jg,he,e1,e2,Bool.true_and]
def EX'(root:Bool)(t:T):Prop:=EX root t/\(root=false->t.name=[61]/\t.args.length=2)
theorem jnl{us:Xg}(h:∀u∈us,qb u=true):JP us<=10*jF us:=by
 induction us with
 |nil=>simp[JP]
 |cons u us ih=>
  have:=jev u (h u (by simp));have:=ih λw hw=>h w (by simp[hw]);simp only[JP,jF];omega
theorem jnn{t:T}(h:qb t=true):¬t.name=[61]:=λe=>by
 rw[qj,e]at h;exact absurd h (by
  rw[show jr [61]=false from by decide,if_neg Bool.false_ne_true,show qz [61]=false from by decide];simp)
theorem jmH{t:T}(ht:Tz t)(h:qb t=true\/(t.name=[61]/\t.args.length=2/\ ∀u∈t.args,qb u=true)):G 106 [tm t]=some (vb (jH t),[]):=by
 have e2:=YV t ht.wf ht;rw[jzz];rcases h with h|⟨h1,h2,h3⟩
 .have hv:kV t=jH t:=by unfold kV;rw[h,Bool.and_true]
  rw[hv]at e2;have e1:=jiC t ht (jnn h);rw[hv]at e1;cases hs:jH t<;>rw[hs]at e1 e2
  .rw [Bool.and_false]at e1;simp only[jg,e1,e2]
  .simp only[jg,e2]
 .have hk:qb t=false:=by
   cases hk:qb t with
   |false=>rfl
   |true=>exact absurd h1 (jnn hk)
  have hv:kV t=false:=by unfold kV;rw[hk,Bool.and_false]
  rw[hv]at e2;have e1:=jed t ht.wf ht h1;obtain⟨_,_,ma,mb⟩:=K3 h2;have he:jfo t=jH t:=by unfold jfo;rw[decide_eq_true h2,h3 _ ma,h3 _ mb];simp
  rw[he]at e1;simp only[jg,e1,e2]
def jCc(o:Option (T×Nat)):Xe:=match o with|some r=>some (.tup [tm r.1,vi (r.2:Nat),vb true],[])|none=>some (.tup [.agg [sv [],.sl 2 []],vi 0,vb false],[])
structure Law3{α:Type}(c:α->α->Int):Prop where
 zero:∀a b,c a b=0↔a=b
 flip:∀a b,c b a = -(c a b)
 trans:∀a b d,c a b<0->c b d<0->c a d<0
section
variable{α:Type}{c:α->α->Int}
def Asc(c:α->α->Int)(l:List α):Prop:=l.Pairwise λa b=>c a b<0
theorem jht(h:Law3 c):∀{l m:List α},Asc c l->Asc c m->(∀x,x∈l↔x∈m)->l=m
 | [],[],_,_,_=>rfl
 | [],b::m,_,_,hx=>absurd ((hx b).2 (by simp)) (by simp)
 |a::l,[],_,_,hx=>absurd ((hx a).1 (by simp)) (by simp)
 |a::l,b::m,h1,h2,hx=>by
  obtain⟨g1,g2⟩:=List.pairwise_cons.1 h1;obtain⟨k1,k2⟩:=List.pairwise_cons.1 h2;have hab:a=b:=by
   rcases List.mem_cons.1 ((hx a).1 (by simp))with e|e
   .exact e
   rcases List.mem_cons.1 ((hx b).2 (by simp))with e'|e'
   .exact e'.symm
   .have q1:=k1 a e;have q2:=g1 b e';have q3:=h.flip a b;omega
  subst hab;have:l=m:=jht h g2 k2 λx=>by
   constructor
   .intro hxl;rcases List.mem_cons.1 ((hx x).1 (by simp[hxl]))with e|e
    .have:=g1 x hxl;rw[e,(h.zero a a).2 rfl]at this;omega
    .exact e
   .intro hxm;rcases List.mem_cons.1 ((hx x).2 (by simp[hxm]))with e|e
    .have:=k1 x hxm;rw[e,(h.zero a a).2 rfl]at this;omega
    .exact e
  rw[this]
def Ql(eq:α->α->Bool):List α->List α
 | []=>[]
 |a::l=>(match Ql eq l with| []=>[a]|b::m=>if eq a b then b::m else a::b::m)
theorem jfN(h:Law3 c){eq:α->α->Bool}(he:∀a b,eq a b=true↔a=b):∀{l:List α},l.Pairwise (λa b=>¬c b a<0)->Asc c (Ql eq l)/\ ∀x,x∈Ql eq l↔x∈l
 | [],_=>⟨List.Pairwise.nil,λx=>Iff.rfl⟩
 |a::l,hp=>by
  obtain⟨g1,g2⟩:=List.pairwise_cons.1 hp;obtain⟨k1,k2⟩:=jfN h he g2;rw[Ql];cases hc:Ql eq l with
  |nil=>
   rw[hc]at k2;refine⟨by unfold Asc;simp,λx=>?_⟩;show x ∈ [a]↔_;constructor
   .intro hx;simp only[List.mem_singleton]at hx;simp[hx]
   .intro hx;rcases List.mem_cons.1 hx with e|e
    .simp [e]
    .exact absurd ((k2 x).2 e) (by simp)
  |cons b m=>
   rw[hc]at k1 k2;have hbl:b∈l:=(k2 b).1 (by simp);by_cases hab:a=b
   .show Asc c (if eq a b then b::m else a::b::m)/\_;have he':=(he a b).2 hab;have e2:(if eq a b then b::m else a::b::m)=b::m:=if_pos he';refine⟨by rw[e2];exact k1,λx=>?_⟩;show x∈(if eq a b then b::m else a::b::m)↔_;rw[e2,k2,List.mem_cons];constructor
    .exact Or.inr
    .rintro (e|e)
     .rw [e,hab];exact hbl
     .exact e
   .have he':¬eq a b=true:=λe=>hab ((he a b).1 e);have e2:(if eq a b then b::m else a::b::m)=a::b::m:=if_neg he';have hlt:c a b<0:=by
     have q1:=g1 b hbl;have q2:=h.flip a b;have q3:c a b≠0:=λe=>hab ((h.zero a b).1 e);omega
    refine⟨?_,λx=>?_⟩
    .show Asc c (if eq a b then b::m else a::b::m);rw[e2];refine List.pairwise_cons.2 ⟨λx hx=>?_,k1⟩;rcases List.mem_cons.1 hx with e|e
     .rw [e];exact hlt
     .exact h.trans a b x hlt ((List.pairwise_cons.1 k1).1 x e)
    .show x∈(if eq a b then b::m else a::b::m)↔_;rw[e2,List.mem_cons,k2,List.mem_cons]
theorem Qy{p:α->Bool} :∀{l:List α}{a:α},a∈l.takeWhile p->p a=true
 |x::l,a,h=>by
  by_cases hx:p x=true
  .rw [List.takeWhile_cons_of_pos hx]at h;rcases List.mem_cons.1 h with e|e
   .rw [e];exact hx
   .exact Qy e
  .rw [List.takeWhile_cons_of_neg hx]at h;cases h
def ZX(c:α->α->Int)(l:List α)(x:α):List α:=if(l.dropWhile λa=>decide (c a x<0)).head?.any (λb=>decide (c b x=0))then l else l.takeWhile (λa=>decide (c a x<0))++x::l.dropWhile λa=>decide (c a x<0)
theorem jd2(h:Law3 c){l:List α}(hl:Asc c l)(x:α):Asc c (ZX c l x)/\ ∀y,y∈ZX c l x↔y∈l\/y=x:=by
 have e:=List.takeWhile_append_dropWhile (p:=λa=>decide (c a x<0)) (l:=l);have ht:∀a∈l.takeWhile (λa=>decide (c a x<0)),c a x<0:=λa ha=>of_decide_eq_true (Qy (p:=λa=>decide (c a x<0)) ha);unfold ZX;generalize l.takeWhile (λa=>decide (c a x<0))=t at *;cases hd:l.dropWhile (λa=>decide (c a x<0))with
 |nil=>
  rw[hd,List.append_nil]at e;subst e;rw[if_neg (by simp)];refine⟨?_,λy=>by simp⟩;refine List.pairwise_append.2 ⟨hl,by simp,λa ha b hb=>?_⟩;simp only[List.mem_singleton]at hb;rw[hb];exact ht a ha
 |cons b m=>
  have hb:¬c b x<0:=by
   intro hb;have:=List.head?_dropWhile_not (p:=λa=>decide (c a x<0)) l;rw[hd]at this;simp[hb]at this
  rw[hd]at e;by_cases h0:c b x=0
  .rw [if_pos (by simp[h0])];refine⟨hl,λy=>⟨Or.inl,λhy=>?_⟩⟩;rcases hy with hy|hy
   .exact hy
   .rw [hy,<-(h.zero b x).1 h0,<-e];simp
  .rw [if_neg (by simp[h0])];rw[<-e]at hl;obtain⟨p1,p2,p3⟩:=List.pairwise_append.1 hl;have hxb:c x b<0:=by have:=h.flip b x;omega
   refine⟨List.pairwise_append.2 ⟨p1,List.pairwise_cons.2 ⟨λy hy=>?_,p2⟩,λa ha y hy=>?_⟩,λy=>?_⟩
   .rcases List.mem_cons.1 hy with e'|e'
    .rw [e'];exact hxb
    .exact h.trans x b y hxb ((List.pairwise_cons.1 p2).1 y e')
   .rcases List.mem_cons.1 hy with e'|e'
    .rw [e'];exact ht a ha
    .exact p3 a ha y e'
   .rw [<-e];simp only[List.mem_append,List.mem_cons];constructor
    .rintro (h|h|h|h)
     .exact Or.inl (Or.inl h)
     .exact Or.inr h
     .exact Or.inl (Or.inr (Or.inl h))
     .exact Or.inl (Or.inr (Or.inr h))
    .rintro ((h|h|h)|h)
     .exact Or.inl h
     .exact Or.inr (Or.inr (Or.inl h))
     .exact Or.inr (Or.inr (Or.inr h))
     .exact Or.inr (Or.inl h)
def zi(c:α->α->Int)(l:List α):List α:=l.foldl (ZX c) []
theorem YY(h:Law3 c)(l:List α):Asc c (zi c l)/\ ∀y,y∈zi c l↔y∈l:=by
 have key:∀(l m:List α),Asc c m->Asc c (l.foldl (ZX c) m)/\ ∀y,y∈l.foldl (ZX c) m↔y∈m\/y∈l:=by
  intro l;induction l with
  |nil=>intro m hm;exact⟨hm,λy=>by simp⟩
  |cons x l ih=>
   intro m hm;obtain⟨g1,g2⟩:=jd2 h hm x;obtain⟨k1,k2⟩:=ih _ g1;refine⟨k1,λy=>?_⟩;rw[List.foldl_cons,k2,g2,List.mem_cons,or_assoc]
 obtain⟨g1,g2⟩:=key l [] List.Pairwise.nil;exact⟨g1,λy=>by rw[zi,g2];simp⟩
theorem jtI(h:Law3 c){eq:α->α->Bool}(he:∀a b,eq a b=true↔a=b){l s:List α}(hs:s.Pairwise λa b=>¬c b a<0)(hm:∀x,x∈s↔x∈l):Ql eq s=zi c l:=by
 obtain⟨g1,g2⟩:=jfN h he hs;obtain⟨k1,k2⟩:=YY h l;exact jht h g1 k1 λx=>by rw[g2,k2,hm]
end
theorem jwo{α β γ:Type}{f:γ->α}{g:γ->β}{c:α->α->Int}{d:β->β->Int}(hc:Law3 c)(hd:Law3 d)(hi:∀x y,f x=f y->g x=g y->x=y):Law3 λx y:γ=>if c (f x) (f y)≠0 then c (f x) (f y)else d (g x) (g y):=by
 refine⟨λa b=>?_,λa b=>?_,λa b e=>?_⟩
 .show (if c (f a) (f b)≠0 then c (f a) (f b)else d (g a) (g b))=0↔_;by_cases h:c (f a) (f b)=0
  .rw [if_neg (λh'=>h' h),hd.zero];exact⟨λh2=>hi a b ((hc.zero _ _).1 h) h2,λh2=>by rw[h2]⟩
  .rw [if_pos h];exact⟨λh2=>absurd h2 h,λh2=>by rw[h2]at h;exact absurd ((hc.zero _ _).2 rfl) h⟩
 .show (if c (f b) (f a)≠0 then c (f b) (f a)else d (g b) (g a)) = -(if c (f a) (f b)≠0 then c (f a) (f b)else d (g a) (g b));rw[hc.flip (f a) (f b),hd.flip (g a) (g b)];by_cases h:c (f a) (f b)=0
  .rw [if_neg (by omega),if_neg (by omega)]
  .rw [if_pos (by omega),if_pos (by omega)]
 .show (if c (f a) (f b)≠0 then c (f a) (f b)else d (g a) (g b))<0->(if c (f b) (f e)≠0 then c (f b) (f e)else d (g b) (g e))<0->(if c (f a) (f e)≠0 then c (f a) (f e)else d (g a) (g e))<0;by_cases h1:c (f a) (f b)=0
  .have e1:=(hc.zero _ _).1 h1;rw[if_neg (λh'=>h' h1),e1];by_cases h2:c (f b) (f e)=0
   .rw [if_neg (λh'=>h' h2),if_neg (λh'=>h' h2)];exact hd.trans _ _ _
   .rw [if_pos h2,if_pos h2];exact λ_ h=>h
  .rw [if_pos h1];by_cases h2:c (f b) (f e)=0
   .have e2:=(hc.zero _ _).1 h2;rw[if_neg (λh'=>h' h2),<-e2,if_pos h1];exact λh _=>h
   .rw [if_pos h2];intro h3 h4;have:=hc.trans _ _ _ h3 h4;rw[if_pos (by omega)];exact this
def kz(x y:Xb):Int:=if zz x y then -1 else if x=y then 0 else 1
theorem Jg:Law3 kz:=by
 have irr:=Y6;have asy:∀x y,zz x y=true->zz y x=true->False:=λx y h1 h2=>by
  rw[Q3,decide_eq_true_eq]at h1 h2;exact absurd (List.lt_trans h1 h2) (List.lt_irrefl _)
 have tot:∀x y,x=y\/zz x y=true\/zz y x=true:=λx y=>by
  rw[Q3,Q3,decide_eq_true_eq,decide_eq_true_eq];rcases Classical.em (x<y)with h|h
  .exact Or.inr (Or.inl h)
  rcases Classical.em (y<x)with h'|h'
  .exact Or.inr (Or.inr h')
  .exact Or.inl (List.le_antisymm (List.not_lt.1 h') (List.not_lt.1 h))
 have tr:∀x y z,zz x y=true->zz y z=true->zz x z=true:=λx y z h1 h2=>by
  rw[Q3,decide_eq_true_eq]at *;exact List.lt_trans h1 h2
 have neg:∀x y,kz x y<0↔zz x y=true:=λx y=>by
  unfold kz;cases h:zz x y with
  |true=>simp
  |false=>
   rw[if_neg Bool.false_ne_true];split<;>simp
 refine⟨λa b=>?_,λa b=>?_,λa b d h1 h2=>(neg _ _).2 (tr _ _ _ ((neg _ _).1 h1) ((neg _ _).1 h2))⟩
 .unfold kz;cases h:zz a b with
  |true=>rw[if_pos rfl];exact⟨λh'=>by omega,λe=>by rw[e,irr]at h;cases h⟩
  |false=>
   rw[if_neg Bool.false_ne_true];by_cases e:a=b
   .rw [if_pos e];exact⟨λ_=>e,λ_=>rfl⟩
   .rw [if_neg e];exact⟨λh'=>by omega,λh'=>absurd h' e⟩
 .unfold kz;rcases tot a b with e|e|e
  .subst e;rw[irr,if_neg Bool.false_ne_true,if_pos rfl];rfl
  .have h2:zz b a=false:=by
    cases h:zz b a with
    |false=>rfl
    |true=>exact(asy _ _ e h).elim
   have hne:¬b=a:=λh=>by rw[h,irr]at e;cases e
   rw[e,h2,if_neg Bool.false_ne_true,if_neg hne,if_pos rfl];rfl
  .have h2:zz a b=false:=by
    cases h:zz a b with
    |false=>rfl
    |true=>exact(asy _ _ e h).elim
   have hne:¬a=b:=λh=>by rw[h,irr]at e;cases e
   rw[e,h2,if_neg Bool.false_ne_true,if_neg hne,if_pos rfl]
def km(x y:Nat):Int:=if x<y then -1 else if y<x then 1 else 0
theorem Z6:Law3 km:=by
 refine⟨λa b=>?_,λa b=>?_,λa b d=>?_⟩<;>unfold km
 .split
  .omega
  .split<;>omega
 .split<;>split<;>(try split)<;>omega
 .intro h1 h2;by_cases h:a<b
  .by_cases h3:b<d
   .rw [if_pos (by omega)];omega
   .rw [if_neg h3]at h2;split at h2<;>omega
  .rw [if_neg h]at h1;split at h1<;>omega
def vF(n:Xb):Nat:=if jr n then 0 else 1
abbrev Key:=Nat×(Xb×Nat)
def cK(x y:Key):Int:=if km x.1 y.1≠0 then km x.1 y.1 else if kz x.2.1 y.2.1≠0 then kz x.2.1 y.2.1 else km x.2.2 y.2.2
theorem Z4:Law3 cK:=by
 have h2:Law3 λx y:Xb×Nat=>if kz x.1 y.1≠0 then kz x.1 y.1 else km x.2 y.2:=jwo (f:=Prod.fst) (g:=Prod.snd) Jg Z6 λx y h1 h2=>Prod.ext h1 h2;exact jwo (f:=Prod.fst) (g:=Prod.snd) Z6 h2 λx y h1 h2=>Prod.ext h1 h2
def Jv(t:T):Key:=(vF t.name,(t.name,t.args.length))
mutual
def ya(a b:T):Int:=
 match a with
 |.mk n us=>if cK (Jv (.mk n us)) (Jv b)≠0 then cK (Jv (.mk n us)) (Jv b)else zt us b.args
termination_by structural a
def zt(xs bs:Xg):Int:=
 match xs with
 | []=>0
 |a::xs=>(match bs with| []=>0|b::bs=>if ya a b≠0 then ya a b else zt xs bs)
termination_by structural xs
end
theorem YR(a b:T):ya a b=if cK (Jv a) (Jv b)≠0 then cK (Jv a) (Jv b)else zt a.args b.args:=by cases a;rfl
theorem jhH{a b:T}(h:Jv a=Jv b):a.name=b.name/\a.args.length=b.args.length:=by
 unfold Jv at h;simp only[Prod.mk.injEq]at h;exact h.2
theorem jxe{a b:T}(h1:a.name=b.name)(h2:a.args=b.args):a=b:=by
 cases a;cases b;simp only[T.name,T.args]at h1 h2;rw[h1,h2]
theorem jvA:∀{xs bs:Xg},(∀u∈xs,∀v,ya u v=0↔u=v)->xs.length=bs.length->(zt xs bs=0↔xs=bs)
 | [],[],_,_=>by simp[zt]
 | [],_::_,_,h=>by cases h
 |_::_,[],_,h=>by cases h
 |a::xs,b::bs,h,hl=>by
  rw[zt];have ih:=jvA (xs:=xs) (bs:=bs) (λu hu=>h u (by simp[hu])) (Nat.succ.inj hl);by_cases h0:ya a b=0
  .rw [if_neg (λh'=>h' h0),ih,(h a (by simp) b).1 h0];simp
  .rw [if_pos h0];exact⟨λh'=>absurd h' h0,λe=>by rw[List.cons.injEq]at e;exact(h a (by simp) b).2 e.1⟩
theorem juL:∀{xs bs:Xg},(∀u∈xs,∀v,ya v u = -(ya u v))->xs.length=bs.length->zt bs xs = -(zt xs bs)
 | [],[],_,_=>by simp[zt]
 | [],_::_,_,h=>by cases h
 |_::_,[],_,h=>by cases h
 |a::xs,b::bs,h,hl=>by
  rw[zt,zt,h a (by simp) b,juL (xs:=xs) (bs:=bs) (λu hu=>h u (by simp[hu])) (Nat.succ.inj hl)];by_cases h0:ya a b=0
  .rw [if_neg (by omega),if_neg (by omega)]
  .rw [if_pos (by omega),if_pos (by omega)]
theorem jso(z:∀u v:T,ya u v=0↔u=v):∀{xs bs ds:Xg},(∀u∈xs,∀v w,ya u v<0->ya v w<0->ya u w<0)->xs.length=bs.length->bs.length=ds.length->zt xs bs<0->zt bs ds<0->zt xs ds<0
 | [],_,_,_,_,_,h1,_=>by simp[zt]at h1
 |a::xs,[],_,_,h,_,_,_=>by cases h
 |a::xs,b::bs,[],_,_,h,_,_=>by cases h
 |a::xs,b::bs,d::ds,h,hl,hl2,h1,h2=>by
  rw[zt]at h1 h2⊢;by_cases c1:ya a b=0
  .have e1:=(z a b).1 c1;rw[if_neg (λh'=>h' c1)]at h1;rw[e1];by_cases c2:ya b d=0
   .rw [if_neg (λh'=>h' c2)]at h2;rw[if_neg (λh'=>h' c2)];exact jso z (λu hu=>h u (by simp[hu])) (Nat.succ.inj hl) (Nat.succ.inj hl2) h1 h2
   .rw [if_pos c2]at h2;rw[if_pos c2];exact h2
  .rw [if_pos c1]at h1;by_cases c2:ya b d=0
   .rw [<-(z b d).1 c2,if_pos c1];exact h1
   .rw [if_pos c2]at h2;have:=h a (by simp) b d h1 h2;rw[if_pos (by omega)];exact this
theorem jp0:Law3 ya:=by
 have z:∀a b:T,ya a b=0↔a=b:=by
  refine T.ind λa ih b=>?_;rw[YR];by_cases h:cK (Jv a) (Jv b)=0
  .have hk:=(Z4.zero _ _).1 h;obtain⟨h1,h2⟩:=jhH hk;rw[if_neg (λh'=>h' h),jvA ih h2];exact⟨λe=>jxe h1 e,λe=>by rw[e]⟩
  .rw [if_pos h];exact⟨λh'=>absurd h' h,λe=>by rw[e]at h;exact absurd ((Z4.zero _ _).2 rfl) h⟩
 refine⟨z,?_,?_⟩
 .refine T.ind λa ih b=>?_;rw[YR,YR a b,Z4.flip (Jv a) (Jv b)];by_cases h:cK (Jv a) (Jv b)=0
  .obtain ⟨_,h2⟩:=jhH ((Z4.zero _ _).1 h);rw[if_neg (by omega),if_neg (by omega),juL ih h2]
  .rw [if_pos (by omega),if_pos (by omega)]
 .refine T.ind λa ih b d h1 h2=>?_;rw[YR]at h1 h2⊢;by_cases c1:cK (Jv a) (Jv b)=0
  .have e1:=(Z4.zero _ _).1 c1;rw[if_neg (λh'=>h' c1)]at h1;rw[e1];by_cases c2:cK (Jv b) (Jv d)=0
   .have e2:=(Z4.zero _ _).1 c2;rw[if_neg (λh'=>h' c2)]at h2;rw[if_neg (λh'=>h' c2)];exact jso z ih (jhH e1).2 (jhH e2).2 h1 h2
   .rw [if_pos c2]at h2;rw[if_pos c2];exact h2
  .rw [if_pos c1]at h1;by_cases c2:cK (Jv b) (Jv d)=0
   .rw [<-(Z4.zero _ _).1 c2,if_pos c1];exact h1
   .rw [if_pos c2]at h2;have:=Z4.trans _ _ _ h1 h2;rw[if_pos (by omega)];exact this
def upN:Xb->Bool
 | []=>false
 |c::_=>upc c
mutual
def val(M:Xb->Xi->Int)(e:Xb->Int):T->Int
 |.mk n us=>if us.isEmpty && upN n then e n else M n (jyL M e us)
def jyL(M:Xb->Xi->Int)(e:Xb->Int):Xg->Xi
 | []=>[]
 |t::ts=>val M e t::jyL M e ts
end
section
variable{M:Xb->Xi->Int}
def Ext(m m':ju):Prop:=∀x r,look m x=some r->look m' x=some r
theorem Ext.refl(m:ju):Ext m m:=λ_ _ h=>h
theorem Ext.trans{a b c:ju}(h:Ext a b)(h':Ext b c):Ext a c:=λx r hx=>h' x r (h x r hx)
variable{ji0:Int->Prop}
def jAX(M:Xb->Xi->Int)(ji0:Int->Prop)(rs:Xg):Prop:=∀r∈rs,∀e:Xb->Int,(∀x,ji0 (e x))->val M e (jtH r)=val M e (jt9 r)
end
def dec(n:Nat):Nat->Nat->Xf
 |0,_=>[]
 |l+1,k=>k % n::dec n l (k / n)
def enc(n:Nat):Xf->Nat
 | []=>0
 |v::vs=>v+n*enc n vs
def vnA(l:Xa)(n:Xb):Xa:=if l.contains n then l else l++[n]
mutual
def vn(l:Xa):T->Xa
 |.mk n us=>if us.isEmpty && upN n then vnA l n else vnL l us
def vnL(l:Xa):Xg->Xa
 | []=>l
 |t::ts=>vnL (vn l t) ts
end
def VIn(S:Xa)(t:T):Prop:=∀x∈ke t,x∈S
abbrev Lt:=Bool×T
def fl(b:Bool):Nat:=if b then 1 else 0
def cmpL(a b:Lt):Int:=if ya a.2 b.2≠0 then ya a.2 b.2 else km (fl a.1) (fl b.1)
theorem qe:Law3 cmpL:=jwo (f:=Prod.snd) (g:=λl:Lt=>fl l.1) jp0 Z6 λx y h1 h2=>by
 obtain⟨p,t⟩:=x;obtain⟨q,u⟩:=y;have h1:t=u:=h1;have h2:fl p=fl q:=h2;subst h1;cases p<;>cases q<;>first|rfl|(simp[fl]at h2)
abbrev kg:=List Lt
def jiE:kg->Bool
 |a::b::l=>decide (cmpL a b<0) && jiE (b::l)
 |_=>true
theorem jiF:∀c:kg,jiE c=true↔Asc cmpL c
 | []=>by simp[jiE,Asc]
 | [a]=>by simp[jiE,Asc]
 |a::b::l=>by
  rw[jiE,Bool.and_eq_true,decide_eq_true_eq,jiF (b::l)];unfold Asc;constructor
  .rintro ⟨h1,h2⟩;refine List.pairwise_cons.2 ⟨λx hx=>?_,h2⟩;rcases List.mem_cons.1 hx with e|e
   .rw [e];exact h1
   .exact qe.trans a b x h1 ((List.pairwise_cons.1 h2).1 x e)
  .intro h;exact⟨(List.pairwise_cons.1 h).1 b (by simp),(List.pairwise_cons.1 h).2⟩
mutual
def qv(l:Xa):T->Xa
 |.mk n us=>if jr n then vnA l n else Yo l us
def Yo(l:Xa):Xg->Xa
 | []=>l
 |t::ts=>Yo (qv l t) ts
end
theorem jhY(l:Xa)(t:T):qv l t=if jr t.name then vnA l t.name else Yo l t.args:=by cases t;rfl
def kh(c:kg):Xa:=c.foldl (λl x=>qv l x.2) []
def Yn(p:UInt8)(i:Nat):Xb:=p::Lib.decDigits i
def qY(c:kg):Bool:=decide (kh c=(List.range (kh c).length).map (Yn 88))
mutual
def kN(f:Xb->Xb):T->T
 |.mk n us=>if jr n then .mk (f n) []else .mk n (Jm f us)
def Jm(f:Xb->Xb):Xg->Xg
 | []=>[]
 |t::ts=>kN f t::Jm f ts
end
theorem jj9(f:Xb->Xb):∀ts:Xg,Jm f ts=ts.map (kN f)
 | []=>rfl
 |t::ts=>by rw[Jm,jj9 f ts,List.map_cons]
theorem jba(f:Xb->Xb)(t:T):kN f t=if jr t.name then .mk (f t.name) []else .mk t.name (t.args.map (kN f)):=by
 cases t;rw[kN,jj9];rfl
def kG(p:UInt8)(l:Xa)(n:Xb):Xb:=match l.findIdx? (λx=>decide (x=n))with|some i=>Yn p i|none=>n
def renC(p:UInt8)(c:kg):kg:=zi cmpL (c.map λl=>(l.1,kN (kG p (kh c)) l.2))
def normF:Nat->kg->kg
 |0,c=>c
 |k+1,c=>if qY c then c else normF k (renC 88 c)
def normC(c:kg):kg:=normF 10 c
theorem yA(t:T)(h:qb t=true\/t.name=[61]):G 81 [tm t]=some (vb (jr t.name),[]):=by
 rcases h with h|h
 .exact jqv t h
 .have e1:=QJ 61;have hx:zj (sv t.name) (vi 0)=some (vy ((61:UInt8).toNat:Int)):=by rw[h];exact yf
  have hv:jr t.name=upc 61:=by rw[h];decide
  rw[g81,hv];simp only[jg,hx,e1]
theorem Zu(x y:Xb):kz x y=if zz x y then -1 else if zz y x then 1 else 0:=by
 have hf:=Jg.flip x y;cases h1:zz x y with
 |true=>unfold kz;rw[h1];rfl
 |false=>
  rw[if_neg Bool.false_ne_true];cases h2:zz y x with
  |true=>
   have:kz y x = -1:=by unfold kz;rw[h2,if_pos rfl]
   rw[if_pos rfl];omega
  |false=>
   rw[if_neg Bool.false_ne_true];have a1:kz x y=0\/kz x y=1:=by
    unfold kz;rw[h1,if_neg Bool.false_ne_true];split<;>simp
   have a2:kz y x=0\/kz y x=1:=by
    unfold kz;rw[h2,if_neg Bool.false_ne_true];split<;>simp
   omega
theorem jbT(b:Bool)(x y:Xb):jq .gtr b (sv x) (sv y)=some (vb (zz y x)):=by
 show some (vb (!(zz x y || decide (x=y))))=_;by_cases e:x=y
 .subst e;rw[Y6,decide_eq_true rfl];rfl
 have h1:=Zu x y;have h3:=Jg.flip x y;have h4:=Zu y x;rw[decide_eq_false e,Bool.or_false];cases a:zz x y<;>cases c:zz y x<;>rw[a,c]at h1 h4
 .exact absurd ((Jg.zero x y).1 h1) e
 .rfl
 .rfl
 .have h1:kz x y = -1:=h1;have h4:kz y x = -1:=h4;omega
theorem Z7(x y:Xb):G 154 [sv x,sv y]=some (vi (kz x y),[]):=by
 have n1:G 193 [sv x]=some (vb false,[]):=by rw[jxW];simp only[jg]
 have n2:G 193 [sv y]=some (vb false,[]):=by rw[jxW];simp only[jg]
 rw[jz2,Zu];cases h1:zz x y<;>cases h2:zz y x<;>simp only[jg,n1,n2,jbT,h1,h2]
theorem jcn(x y:Nat):G 144 [vi (x:Nat),vi (y:Nat)]=some (vi (km x y),[]):=by
 have n1:G 186 [vi (x:Nat)]=some (vb false,[]):=by rw[jxV];simp only[jg]
 have n2:G 186 [vi (y:Nat)]=some (vb false,[]):=by rw[jxV];simp only[jg]
 rw[jzV];unfold km;by_cases h1:x<y
 .have h1':((x:Nat):Int)<((y:Nat):Int):=by omega
  rw[if_pos h1];simp only[jg,n1,n2,h1']
 .have h1':¬((x:Nat):Int)<((y:Nat):Int):=by omega
  rw[if_neg h1];by_cases h2:y<x
  .have h2':((y:Nat):Int)<((x:Nat):Int):=by omega
   rw[if_pos h2];simp only[jg,n1,n2,h1',h2']
  .have h2':¬((y:Nat):Int)<((x:Nat):Int):=by omega
   rw[if_neg h2];simp only[jg,n1,n2,h1',h2']
theorem jrC(a b:Int):G 142 [.sl 1 [[vi a],[vi b]]]=some (vi (if a≠0 then a else b),[]):=by
 have i0:jz 1 (.sl 1 [[vi a],[vi b]]) (vi 0)=some (.elt [vi a] 0):=rfl;have i1:jz 1 (.sl 1 [[vi a],[vi b]]) (vi 1)=some (.elt [vi b] 0):=rfl;have ll:zG (.sl 1 [[vi a],[vi b]])=some (vi 2):=rfl;have c0:jq .add false (vi 0) (vi 1)=some (vi 1):=by rw[Zf,jZ (by decide) (by decide)];rfl
 have c1:jq .add false (vi 1) (vi 1)=some (vi 2):=by rw[Zf,jZ (by decide) (by decide)];rfl
 have z0:(0:Int)<2:=by decide
 have z1:(1:Int)<2:=by decide
 have z2:¬(2:Int)<2:=by decide
 generalize A.sl 1 [[vi a],[vi b]]=X at *;have k2:jdu (vi 0) X (vi 2) (vi 2)=some (vi 0,[]):=by rw[jlo];simp only[jg,z2]
 have k1:jdu (vi 0) X (vi 2) (vi 1)=some (vi b,[]):=by
  rw[jlo];by_cases hb:b=0
  .simp only[jg,z1,i1,hb,c1,k2]
  .simp only[jg,z1,i1,hb]
 rw[jzT];simp only[cev];rw[ll,Option.bind_some,jlo];by_cases ha:a=0
 .rw [if_neg (λh=>h ha)];simp only[jg,z0,i0,ha,c0,k1]
 .rw [if_pos ha];simp only[jg,z0,i0,ha]
def Rx'(t:T):Prop:=qb t=true\/(t.name=[61]/\ ∀u∈t.args,qb u=true)
theorem Rx'.args{t:T}(h:Rx' t):∀u∈t.args,Rx' u:=λu hu=>Or.inl (by
 rcases h with h|h
 .exact qi h u hu
 .exact h.2 u hu)
theorem jbF(ts us:Xg)(hl:ts.length<=1048576)(hlen:ts.length=us.length)(ih:∀t∈ts,∀u∈us,G 143 [tm t,tm u]=some (vi (ya t u),[])) :
  ∀i,i<=ts.length->jhh (jS ts) (jS us) (.fn 143 []) (jS ts) (vi (ts.length:Nat)) (vi (i:Nat))=some (vi (zt (ts.drop i) (us.drop i)),[]):=by
 refine upto ?_ ?_
 .rw [jq4,List.drop_length,zt];simp only[jg,hlen]
 .intro i hi ih';have hlt:(i:Int)<((ts.length:Nat):Int):=by omega
  have hi2:i<us.length:=by omega
  have hge:¬((us.length:Nat):Int)<=(i:Int):=by omega
  have h5:=jy hi (by show ts.length<=9223372036854775807;omega)
  have e1:=ih ts[i] (List.getElem_mem _) us[i] (List.getElem_mem _);rw[jq4,js hi,js hi2,zt];by_cases hc:ya ts[i] us[i]=0
  .rw [if_neg (λh=>h hc)];rw[hc]at e1;simp only[jg,hlt,jb hi,jb hi2,ji,hge,Je (f:=143) rfl,List.append_nil,e1,h5,ih']
  .rw [if_pos hc];generalize ya ts[i] us[i]=c at *;simp only[jg,hlt,jb hi,jb hi2,ji,hge,Je (f:=143) rfl,List.append_nil,e1,hc]
theorem jcS:∀a:T,Rx' a->Tz a-> ∀b:T,Rx' b->Tz b->G 143 [tm a,tm b]=some (vi (ya a b),[]):=by
 refine T.ind λa ih ha za b hb zb=>?_;have va:=yA a (ha.imp id λh=>h.1);have vb':=yA b (hb.imp id λh=>h.1);have hz:=za;unfold Tz at hz;rw[ze]at hz;have e1:=Z7 a.name b.name;have e2:=jcn a.args.length b.args.length;have e3:=jrC (kz a.name b.name) (km a.args.length b.args.length);have e4:a.args.length=b.args.length->G 185 [jS a.args,jS b.args,.fn 143 []]=some (vi (zt a.args b.args),[]):=λhlen=>by
  have key:=jbF a.args b.args (by omega) hlen (λt ht u hu=>ih t ht (ha.args t ht) (za.args t ht) u (hb.args u hu) (zb.args u hu)) 0 (Nat.zero_le _);simp only[Int.natCast_zero,List.drop_zero]at key;rw[jAg];simp only[jg,key]
 rw[jzU,YR];unfold cK Jv vF;cases h1:jr a.name<;>cases h2:jr b.name<;>rw[h1]at va<;>rw[h2]at vb'
 .show _=some (vi (if(if km 1 1≠0 then km 1 1 else if kz a.name b.name≠0 then kz a.name b.name else km a.args.length b.args.length)≠0 then(if km 1 1≠0 then km 1 1 else if kz a.name b.name≠0 then kz a.name b.name else km a.args.length b.args.length)else zt a.args b.args),[]);rw[if_neg (show ¬km 1 1≠0 by decide)];by_cases hz0:(if kz a.name b.name≠0 then kz a.name b.name else km a.args.length b.args.length)=0
  .have hlen:a.args.length=b.args.length:=by
    split at hz0
    .rename_i h;exact absurd hz0 h
    .exact (Z6.zero _ _).1 hz0
   rw[if_neg (λh=>h hz0)];rw[hz0]at e3;simp only[jg,va,vb',e1,e2,e3,e4 hlen]
  .rw [if_pos hz0];generalize (if kz a.name b.name≠0 then kz a.name b.name else km a.args.length b.args.length)=c at *;simp only[jg,va,vb',e1,e2,e3,hz0]
 .have:(if(if km 1 0≠0 then km 1 0 else if kz a.name b.name≠0 then kz a.name b.name else km a.args.length b.args.length)≠0 then(if km 1 0≠0 then km 1 0 else if kz a.name b.name≠0 then kz a.name b.name else km a.args.length b.args.length)else zt a.args b.args)=1:=by
   rw[if_pos (show km 1 0≠0 by decide),if_pos (show km 1 0≠0 by decide)];rfl
  show _=some (vi (if(if km 1 0≠0 then km 1 0 else if kz a.name b.name≠0 then kz a.name b.name else km a.args.length b.args.length)≠0 then(if km 1 0≠0 then km 1 0 else if kz a.name b.name≠0 then kz a.name b.name else km a.args.length b.args.length)else zt a.args b.args),[]);rw[this];simp only[jg,va,vb']
 .have:(if(if km 0 1≠0 then km 0 1 else if kz a.name b.name≠0 then kz a.name b.name else km a.args.length b.args.length)≠0 then(if km 0 1≠0 then km 0 1 else if kz a.name b.name≠0 then kz a.name b.name else km a.args.length b.args.length)else zt a.args b.args) = -1:=by
   rw[if_pos (show km 0 1≠0 by decide),if_pos (show km 0 1≠0 by decide)];rfl
  show _=some (vi (if(if km 0 1≠0 then km 0 1 else if kz a.name b.name≠0 then kz a.name b.name else km a.args.length b.args.length)≠0 then(if km 0 1≠0 then km 0 1 else if kz a.name b.name≠0 then kz a.name b.name else km a.args.length b.args.length)else zt a.args b.args),[]);rw[this];simp only[jg,va,vb']
 .show _=some (vi (if(if km 0 0≠0 then km 0 0 else if kz a.name b.name≠0 then kz a.name b.name else km a.args.length b.args.length)≠0 then(if km 0 0≠0 then km 0 0 else if kz a.name b.name≠0 then kz a.name b.name else km a.args.length b.args.length)else zt a.args b.args),[]);rw[if_neg (show ¬km 0 0≠0 by decide)];by_cases hz0:(if kz a.name b.name≠0 then kz a.name b.name else km a.args.length b.args.length)=0
  .have hlen:a.args.length=b.args.length:=by
    split at hz0
    .rename_i h;exact absurd hz0 h
    .exact (Z6.zero _ _).1 hz0
   rw[if_neg (λh=>h hz0)];rw[hz0]at e3;simp only[jg,va,vb',e1,e2,e3,e4 hlen]
  .rw [if_pos hz0];generalize (if kz a.name b.name≠0 then kz a.name b.name else km a.args.length b.args.length)=c at *;simp only[jg,va,vb',e1,e2,e3,hz0]
theorem jn8(x y:Xb):G 182 [sv x,sv y]=some (vi (kz x y),[]):=by
 rw[jAd,Zu];cases h1:zz x y<;>cases h2:zz y x<;>simp only[jg,jbT,h1,h2]
theorem jee(n m:Xb)(ts us:Xg)(hl:ts.length<=1048576)(hlen:ts.length=us.length)(ih:∀t∈ts,∀u∈us,G 134 [tm t,tm u]=some (vi (ya t u),[])) :
  ∀i,i<=ts.length->jds (vi (i:Nat)) (sv n) (jS ts) (sv m) (jS us)=some (vi (zt (ts.drop i) (us.drop i)),[]):=by
 refine upto ?_ ?_
 .rw [jqN,List.drop_length,zt];simp only[jg]
 .intro i hi ih';have hlt:(i:Int)<((ts.length:Nat):Int):=by omega
  have hi2:i<us.length:=by omega
  have h5:=jy hi (by show ts.length<=9223372036854775807;omega)
  have e1:=ih ts[i] (List.getElem_mem _) us[i] (List.getElem_mem _);rw[jqN,js hi,js hi2,zt];by_cases hc:ya ts[i] us[i]=0
  .rw [if_neg (λh=>h hc)];rw[hc]at e1;simp only[jg,hlt,jb hi,jb hi2,ji,e1,h5,ih']
  .rw [if_pos hc];generalize ya ts[i] us[i]=c at *;simp only[jg,hlt,jb hi,jb hi2,ji,e1,hc]
theorem jk8(a b:T):ya a b=if jr a.name=true/\jr b.name=false then -1 else if jr a.name=false/\jr b.name=true then 1 else if ¬a.name=b.name then kz a.name b.name else if a.args.length<b.args.length then -1 else if b.args.length<a.args.length then 1 else zt a.args b.args:=by
 rw[YR];unfold cK Jv vF;have hn:=Jg.zero a.name b.name;have hzr:km 1 1=0/\km 0 0=0/\km 0 1 = -1/\km 1 0=1:=by decide
 obtain⟨z1,z2,z3,z4⟩:=hzr;have hz:km a.args.length b.args.length=if a.args.length<b.args.length then -1 else if b.args.length<a.args.length then 1 else 0:=rfl;cases h1:jr a.name<;>cases h2:jr b.name<;>simp only[Bool.false_eq_true,if_true,if_false,z1,z2,z3,z4,hz]
 all_goals have hs:=(Jg.zero b.name b.name).2 rfl
 all_goals by_cases e:a.name=b.name
 all_goals by_cases l1:a.args.length<b.args.length
 all_goals by_cases l2:b.args.length<a.args.length
 all_goals first
  |(simp[e,hs,l1,l2];done)
  |(have ne:¬kz a.name b.name=0:=λh=>e (hn.1 h);simp only[ne_eq,e,ne,not_false_eq_true,not_true_eq_false,if_true,if_false,and_true,and_false,reduceCtorEq];done)
  |simp[l1,l2]
theorem jhL:∀a:T,Tz a-> ∀b:T,Tz b->G 134 [tm a,tm b]=some (vi (ya a b),[]):=by
 refine T.ind λa ih za b zb=>?_;have va:=yc a.name (((kQ a).1 za.wf).1);have vb':=yc b.name (((kQ b).1 zb.wf).1);have hz:=za;unfold Tz at hz;rw[ze]at hz;have e1:=jn8 a.name b.name;have e4:a.args.length=b.args.length->jds (vi 0) (sv a.name) (jS a.args) (sv b.name) (jS b.args)=some (vi (zt a.args b.args),[]):=λhlen=>by
  have key:=jee a.name b.name a.args b.args (by omega) hlen (λt ht u hu=>ih t ht (za.args t ht) u (zb.args u hu)) 0 (Nat.zero_le _);simp only[Int.natCast_zero,List.drop_zero]at key;exact key
 rw[jzN,jk8];have main:∀p:Bool,G 73 [sv a.name]=some (vb p,[])->G 73 [sv b.name]=some (vb p,[])->_:=λp _ _=>trivial;clear main;cases h1:jr a.name<;>cases h2:jr b.name<;>rw[h1]at va<;>rw[h2]at vb'
 all_goals by_cases en:a.name=b.name
 all_goals try (exfalso;rw[en,h2]at h1;cases h1;done)
 all_goals by_cases l1:a.args.length<b.args.length
 all_goals by_cases l2:b.args.length<a.args.length
 all_goals have l1':(((a.args.length:Nat):Int)<((b.args.length:Nat):Int))=(a.args.length<b.args.length):=propext (by omega)
 all_goals have l2':(((b.args.length:Nat):Int)<((a.args.length:Nat):Int))=(b.args.length<a.args.length):=propext (by omega)
 all_goals first
  |(have e4:=e4 (by omega);rw[en]at e4;simp only[jg,vb',en,l1,l2,l1',l2',e4,and_true,and_false];done)
  |(simp only[jg,va,vb',e1,en,l1,l2,l1',l2',and_true,and_false];done)
  |(simp only[jg,va,vb',e1,en,l1,l2,l1',l2',and_true,true_and,and_false,false_and])
abbrev jD(l:Lt):Xd:=[vb l.1,sv l.2.name,.sl 2 (l.2.args.map jm)]
abbrev ltm(l:Lt):A:= .agg [vb l.1,sv l.2.name,.sl 2 (l.2.args.map jm)]
theorem jmW(b:Bool):G 145 [vb b]=some (vi (fl b:Nat),[]):=by
 rw[jzW];cases b<;>simp only[jg]<;>rfl
theorem Kb(a b:Lt)(ha:Rx' a.2)(za:Tz a.2)(hb:Rx' b.2)(zb:Tz b.2):G 96 [ltm a,ltm b]=some (vi (cmpL a b),[]):=by
 have e1:=jcS a.2 ha za b.2 hb zb;have e2:=jmW a.1;have e3:=jmW b.1;have e4:=jcn (fl a.1) (fl b.1);have e5:=jrC (ya a.2 b.2) (km (fl a.1) (fl b.1));have e6:cmpL a b=if ya a.2 b.2≠0 then ya a.2 b.2 else km (fl a.1) (fl b.1):=rfl;rw[g96,e6];generalize (if ya a.2 b.2≠0 then ya a.2 b.2 else km (fl a.1) (fl b.1))=c at *;generalize km (fl a.1) (fl b.1)=d at *;generalize ya a.2 b.2=f at *;simp only[jg,e1,e2,e3,e4,e5]
theorem Qt(a b:Lt)(za:Tz a.2)(zb:Tz b.2):G 87 [ltm a,ltm b]=some (vi (cmpL a b),[]):=by
 have e1:=jhL a.2 za b.2 zb;have e6:cmpL a b=if ya a.2 b.2≠0 then ya a.2 b.2 else km (fl a.1) (fl b.1):=rfl;rw[g87,e6];by_cases h:ya a.2 b.2=0
 .rw [if_neg (λh'=>h' h)];rw[h]at e1;obtain⟨p,t⟩:=a;obtain⟨q,u⟩:=b;have d1:km (fl false) (fl true) = -1:=by decide
  have d2:km (fl true) (fl false)=1:=by decide
  have d3:km (fl true) (fl true)=0:=by decide
  have d4:km (fl false) (fl false)=0:=by decide
  cases p<;>cases q<;>simp only[jg,e1,d1,d2,d3,d4]
 .rw [if_pos h];generalize ya a.2 b.2=c at *;simp only[jg,e1,h]
def yE(t:T):Bool:=if t.name=[61]then jfo t else qz t.name && kV t
theorem jf5(t:T)(hw:KZ t)(hs:tsz t<=1048576):G 86 [tm t]=some (vb (yE t),[]):=by
 unfold yE;by_cases he:t.name=[61]
 .rw [if_pos he];exact jed t hw hs he
 .have e1:=Yh t.name ((kQ t).1 hw).1;have e2:=YV t hw hs;rw[if_neg he,g86];cases h:qz t.name<;>rw[h]at e1
  .simp only[jg,he,e1,Bool.false_and]
  .simp only[jg,he,e1,e2,Bool.true_and]
theorem jd7(t:T)(hw:KZ t)(hs:tsz t<=1048576):G 108 [tm t]=some (vb (yE t),[]):=by
 unfold yE;by_cases he:t.name=[61]
 .rw [if_pos he];exact jcV t hw hs he
 .have e0:=KR t;rw[decide_eq_false he]at e0;have e1:=jcw t.name ((kQ t).1 hw).1;have e2:=Ye t hw hs;rw[if_neg he,jxU];cases h:qz t.name<;>rw[h]at e1
  .simp only[jg,e0,e1,Bool.false_and]
  .simp only[jg,e0,e1,e2,Bool.true_and]
abbrev cm(c:kg):A:= .agg [.sl 3 (c.map jD)]
def zN(c:kg):Bool:=c.all (λl=>yE l.2) && (jiE c && decide (c.length<=8))
theorem jmI{t:T}(h:yE t=true):Rx' t:=by
 unfold yE at h;by_cases he:t.name=[61]
 .rw [if_pos he]at h;unfold jfo at h;rw[Bool.and_eq_true,decide_eq_true_eq,Bool.and_eq_true,Bool.and_eq_true]at h;refine Or.inr ⟨he,λu hu=>?_⟩;obtain⟨n,us⟩:=t
  match us,h.1 with
  | [a,b],_=>
   have hu:u ∈ [a,b]:=hu;simp only[List.mem_cons,List.not_mem_nil,or_false]at hu;rcases hu with rfl|rfl
   .exact h.2.2.1
   .exact h.2.2.2
 .rw [if_neg he,Bool.and_eq_true]at h;have h2:=h.2;unfold kV at h2;rw[Bool.and_eq_true]at h2;exact Or.inl h2.2
theorem jaJ(l:Lt)(hz:Tz l.2):G 95 [ltm l]=some (vb (yE l.2),[]):=by
 have e:=jd7 l.2 hz.wf hz;rw[g95];simp only[jg,e]
def ZZ:Option Lt->kg->Bool
 |_,[]=>true
 |none,l::r=>yE l.2 && ZZ (some l) r
 |some p,l::r=>yE l.2 && (decide (cmpL p l<0) && ZZ (some l) r)
theorem jgK:∀(p:Lt)(c:kg),ZZ (some p) c=(c.all (λl=>yE l.2) && jiE (p::c))
 |p,[]=>rfl
 |p,l::r=>by
  rw[ZZ,jgK l r,List.all_cons,jiE];cases yE l.2<;>cases decide (cmpL p l<0)<;>simp
theorem jgJ(c:kg):(ZZ none c && decide (c.length<=8))=zN c:=by
 unfold zN;cases c with
 |nil=>rfl
 |cons l r=>rw[ZZ,jgK,List.all_cons];cases yE l.2<;>simp[Bool.and_assoc]
theorem zy(l:Lt):jbr 3 (.elt (jD l) 0)=some (ltm l):=rfl
theorem jkF(c:kg)(hl:c.length<=1048576)(hz:∀l∈c,Tz l.2):∀i,i<=c.length-> ∀p:Option Lt,(p=none↔i=0)->(∀q,p=some q->yE q.2=true/\ ∃h:i-1<c.length,c[i-1]=q)->
  jmu (.sl 3 (c.map jD)) (vi (c.length:Nat)) (vi (i:Nat)) (.sl 3 (c.map jD))=some (vb (ZZ p (c.drop i) && decide (c.length<=8)),[]):=by
 refine upto ?_ ?_
 .intro p _ _;have e:decide (((c.length:Nat):Int)<=8)=decide (c.length<=8):=by congr 1;exact propext (by omega)
  rw[ju4,List.drop_length,<-e];have:ZZ p []=true:=by cases p<;>rfl
  rw[this];simp only[jg,Bool.true_and]
 .intro i hi ih p hp hq;have hlt:(i:Int)<((c.length:Nat):Int):=by omega
  have h5:=jy hi (by show c.length<=9223372036854775807;omega)
  have e1:=jaJ c[i] (hz _ (List.getElem_mem hi));have ix:=jb (k:=3) (f:=jD) hi;have e1:G 95 [.agg [vb c[i].1,sv c[i].2.name,jS c[i].2.args]]=some (vb (yE c[i].2),[]):=e1;rw[ju4,js hi];cases ha:yE c[i].2 with
  |false=>
   rw[ha]at e1;have:ZZ p (c[i]::c.drop (i+1))=false:=by cases p<;>rw[ZZ,ha]<;>rfl
   rw[this];simp only[jg,hlt,ix,zy,e1,Bool.false_and]
  |true=>
   rw[ha]at e1;have ih1:=ih (some c[i]) (by simp) (λq hq=>by cases hq;exact⟨ha,by simpa using hi,rfl⟩);cases p with
   |none=>
    have h0:i=0:=hp.1 rfl;have hg:¬(0:Int)<(i:Int):=by omega
    rw[ZZ,ha,Bool.true_and,<-ih1];simp only[jg,hlt,ix,zy,e1,hg,h5]
   |some q=>
    obtain⟨hqa,hq1,hq2⟩:=hq q rfl;have hi0:¬i=0:=λh=>by have:=hp.2 h;cases this
    have hg:(0:Int)<(i:Int):=by omega
    have c1:ck ((i:Int)-1)=some (vi ((i-1:Nat):Int)):=by rw[show(i:Int)-1=((i-1:Nat):Int) by omega,jZ (by omega) (by omega)]
    have ix2:=jb (k:=3) (f:=jD) hq1;rw[hq2]at ix2;have hqz:Tz q.2:=by rw[<-hq2];exact hz _ (List.getElem_mem hq1)
    have e2:=Kb q c[i] (jmI hqa) hqz (jmI ha) (hz _ (List.getElem_mem hi));have e2:G 96 [.agg [vb q.1,sv q.2.name,jS q.2.args],.agg [vb c[i].1,sv c[i].2.name,jS c[i].2.args]]=some (vi (cmpL q c[i]),[]):=e2;rw[ZZ,ha,Bool.true_and];by_cases hc:cmpL q c[i]<0
    .have hc':¬(0:Int)<=cmpL q c[i]:=by omega
     rw[decide_eq_true hc,Bool.true_and,<-ih1];generalize cmpL q c[i]=d at *;simp only[jg,hlt,ix,zy,e1,hg,c1,ix2,e2,hc',h5]
    .have hc':(0:Int)<=cmpL q c[i]:=by omega
     rw[decide_eq_false hc];generalize cmpL q c[i]=d at *;simp only[jg,hlt,ix,zy,e1,hg,c1,ix2,e2,hc',Bool.false_and]
theorem K6(c:kg)(hl:c.length<=1048576)(hz:∀l∈c,Tz l.2):G 53 [cm c]=some (vb (zN c),[]):=by
 have key:=jkF c hl hz 0 (Nat.zero_le _) none (by simp) (λq h=>by cases h);rw[List.drop_zero,jgJ]at key;simp only[Int.natCast_zero]at key;rw[g53];simp only[jg,key]
theorem jkG(c:kg)(hl:c.length<=1048576)(hz:∀l∈c,Tz l.2):∀i,i<=c.length-> ∀p:Option Lt,(p=none↔i=0)->(∀q,p=some q-> ∃h:i-1<c.length,c[i-1]=q)->
  jmq (vi (i:Nat)) (.sl 3 (c.map jD))=some (vb (ZZ p (c.drop i)),[]):=by
 refine upto ?_ ?_
 .intro p _ _;rw[juZ,List.drop_length];have:ZZ p []=true:=by cases p<;>rfl
  rw[this];simp only[jg]
 .intro i hi ih p hp hq;have hlt:(i:Int)<((c.length:Nat):Int):=by omega
  have h5:=jy hi (by show c.length<=9223372036854775807;omega)
  have e1:=jf5 c[i].2 (hz _ (List.getElem_mem hi)).wf (hz _ (List.getElem_mem hi));have ix:=jb (k:=3) (f:=jD) hi;have ad:Jk (.elt (jD c[i]) 0) 1=some (.elt (jD c[i]) 1):=rfl;have ld:jbr 2 (.elt (jD c[i]) 1)=some (tm c[i].2):=rfl;rw[juZ,js hi];cases ha:yE c[i].2 with
  |false=>
   rw[ha]at e1;have:ZZ p (c[i]::c.drop (i+1))=false:=by cases p<;>rw[ZZ,ha]<;>rfl
   rw[this];simp only[jg,hlt,ix,ad,ld,e1]
  |true=>
   rw[ha]at e1;have ih1:=ih (some c[i]) (by simp) (λq hq=>by cases hq;exact⟨by simpa using hi,rfl⟩);cases p with
   |none=>
    have h0:i=0:=hp.1 rfl;have hg:¬(0:Int)<(i:Int):=by omega
    rw[ZZ,ha,Bool.true_and,<-ih1];simp only[jg,hlt,ix,ad,ld,e1,hg,h5]
   |some q=>
    obtain⟨hq1,hq2⟩:=hq q rfl;have hi0:¬i=0:=λh=>by have:=hp.2 h;cases this
    have hg:(0:Int)<(i:Int):=by omega
    have c1:ck ((i:Int)-1)=some (vi ((i-1:Nat):Int)):=by rw[show(i:Int)-1=((i-1:Nat):Int) by omega,jZ (by omega) (by omega)]
    have ix2:=jb (k:=3) (f:=jD) hq1;rw[hq2]at ix2;have hqz:Tz q.2:=by rw[<-hq2];exact hz _ (List.getElem_mem hq1)
    have e2:=Qt q c[i] hqz (hz _ (List.getElem_mem hi));rw[ZZ,ha,Bool.true_and];by_cases hc:cmpL q c[i]<0
    .have hc':¬(0:Int)<=cmpL q c[i]:=by omega
     rw[decide_eq_true hc,Bool.true_and,<-ih1];generalize cmpL q c[i]=d at *;simp only[jg,hlt,ix,ad,ld,zy,e1,hg,c1,ix2,e2,hc',h5]
    .have hc':(0:Int)<=cmpL q c[i]:=by omega
     rw[decide_eq_false hc];generalize cmpL q c[i]=d at *;simp only[jg,hlt,ix,ad,ld,zy,e1,hg,c1,ix2,e2,hc',Bool.false_and]
theorem YW(c:kg)(hl:c.length<=1048576)(hz:∀l∈c,Tz l.2):G 45 [cm c]=some (vb (zN c),[]):=by
 have key:=jkG c hl hz 0 (Nat.zero_le _) none (by simp) (λq h=>by cases h);rw[List.drop_zero]at key;simp only[Int.natCast_zero]at key;rw[g45,<-jgJ];by_cases h8:c.length<=8
 .have h8':¬(8:Int)<((c.length:Nat):Int):=by omega
  rw[decide_eq_true h8,Bool.and_true];simp only[jg,h8',key]
 .have h8':(8:Int)<((c.length:Nat):Int):=by omega
  rw[decide_eq_false h8,Bool.and_false];simp only[jg,h8']
theorem jwY(l:Xa)(n:Xb):(vnA l n).length<=l.length+1:=by
 unfold vnA;split
 .omega
 .simp
theorem jvm{n:Nat}(h:n<=4194304):jO n 16=true:=by
 unfold jO;exact decide_eq_true ⟨by omega,by omega⟩
theorem Y0:∀(t:T)(l:Xa),(qv l t).length<=l.length+nodes t:=by
 refine T.ind λt ih l=>?_;have hn:=jU t;rw[jhY];split
 .have:=jwY l t.name;omega
 .have key:∀us:Xg,(∀u∈us,u∈t.args)-> ∀l:Xa,(Yo l us).length<=l.length+jF us:=by
   intro us;induction us with
   |nil=>intro _ l;simp[Yo,jF]
   |cons u us ih2=>
    intro hu l;have h1:=ih u (hu u (by simp)) l;have h2:=ih2 (λv hv=>hu v (by simp[hv])) (qv l u);rw[Yo,jF];omega
  have:=key t.args (λ_ h=>h) l;omega
theorem jlt:∀t:T,Tz t-> ∀l:Xa,l.length+nodes t<=4000000->jgU (tm t) (l.map cs)=some (.top,[.sl 1 ((qv l t).map cs)]):=by
 refine T.ind λt ih ht l hl=>?_;have hz:=ht;unfold Tz at hz;rw[ze]at hz;have hn:=jU t;have e0:=yc t.name (((kQ t).1 ht.wf).1);have e1:=jnc l t.name (by show l.length<=9223372036854775807;omega);have key:=upto (P:=λi=>∀l:Xa,l.length+jF (t.args.drop i)<=4000000->jae (vi (i:Nat)) (sv t.name) (jS t.args) (l.map cs)=some (.top,[.sl 1 ((Yo l (t.args.drop i)).map cs)])) (n:=t.args.length) ?_ ?_ 0 (Nat.zero_le _);rotate_left
 .intro l _;rw[jea,List.drop_length];simp only[jg];rfl
 .intro i hi ihi l hl;have hlt:(i:Int)<((t.args.length:Nat):Int):=by omega
  have h5:=jy hi (by show t.args.length<=9223372036854775807;omega)
  rw[js hi,jF]at hl;have q:=ih t.args[i] (List.getElem_mem hi) (ht.args _ (List.getElem_mem hi)) l (by omega);have hln:=Y0 t.args[i] l;have q2:=ihi (qv l t.args[i]) (by omega);rw[jea,js hi,Yo];generalize qv l t.args[i]=l' at *;have hr:hR 1 (A.top,[.sl 1 (l'.map cs)]) 0=some (l'.map cs):=rfl;simp only[jg,hlt,jb hi,ji,q,hr,h5,q2]
 have e2:jad (vi 0) (sv t.name) (jS t.args) (l.map cs)=some (.top,[.sl 1 ((Yo l t.args).map cs)]):=by
  have key:=key l (by rw[List.drop_zero];omega)
  rw[List.drop_zero]at key;have:jad (vi 0) (sv t.name) (jS t.args) (l.map cs)=jae (vi 0) (sv t.name) (jS t.args) (l.map cs):=by rw[jqO,jea]
  rw[this];exact key
 rw[jvS,jhY];cases hv:jr t.name<;>rw[hv]at e0
 .rw [if_neg Bool.false_ne_true];simp only[jg,e0,e2]
 .rw [if_pos rfl];unfold vnA;cases hc:l.contains t.name<;>rw[hc]at e1
  .have f:jO (l.length+1) 16=true:=jvm (by omega);rw[if_neg Bool.false_ne_true,List.map_append];simp only[jg,e0,e1,f];rfl
  .rw [if_pos rfl];simp only[jg,e0,e1]
theorem jeg(c:kg)(hl:c.length<=1000)(hz:∀l∈c,Tz l.2)(hs:∀l∈c,nodes l.2<=1000):G 88 [cm c]=some (.sl 1 ((kh c).map cs),[]):=by
 have key:=upto (P:=λi=>∀l:Xa,l.length<=1000*i->jiu (vi (i:Nat)) (.sl 3 (c.map jD)) (l.map cs)=some (.sl 1 (((c.drop i).foldl (λl x=>qv l x.2) l).map cs),[])) (n:=c.length) ?_ ?_ 0 (Nat.zero_le _)
 .have key:=key [] (by simp);rw[List.drop_zero]at key;have key:jiu (vi 0) (.sl 3 (c.map jD)) []=some (.sl 1 ((kh c).map cs),[]):=key;rw[g88];simp only[jg,key]
 .intro l _;rw[jvd,List.drop_length];simp only[jg];rfl
 .intro i hi ih l hll;have hlt:(i:Int)<((c.length:Nat):Int):=by omega
  have h5:=jy hi (by show c.length<=9223372036854775807;omega)
  have ix:=jb (k:=3) (f:=jD) hi;have ad:Jk (.elt (jD c[i]) 0) 1=some (.elt (jD c[i]) 1):=rfl;have ld:jbr 2 (.elt (jD c[i]) 1)=some (tm c[i].2):=rfl;have hn:=hs _ (List.getElem_mem hi);have q:=jlt c[i].2 (hz _ (List.getElem_mem hi)) l (by omega);have hol:=Y0 c[i].2 l;have q2:=ih (qv l c[i].2) (by omega);rw[jvd,js hi,List.foldl_cons];generalize qv l c[i].2=l' at *;have hr:hR 1 (A.top,[.sl 1 (l'.map cs)]) 0=some (l'.map cs):=rfl;simp only[jg,hlt,ix,ad,ld,q,hr,h5,q2]
theorem jcm:∀t:T,Rx' t->Tz t-> ∀l:Xa,l.length+nodes t<=4000000->jdm (sv t.name) (jS t.args) (l.map cs)=some (.top,[.sl 1 ((qv l t).map cs)]):=by
 refine T.ind λt ih hk ht l hl=>?_;have hz:=ht;unfold Tz at hz;rw[ze]at hz;have hn:=jU t;have e0:=yA t (hk.imp id λh=>h.1);have e1:=Qm l t.name (by show l.length<=9223372036854775807;omega);have key:=upto (P:=λi=>∀l:Xa,l.length+jF (t.args.drop i)<=4000000->jag (jS t.args) (vi (t.args.length:Nat)) (vi (i:Nat)) (l.map cs)=some (.top,[.sl 1 ((Yo l (t.args.drop i)).map cs)])) (n:=t.args.length) ?_ ?_ 0 (Nat.zero_le _);rotate_left
 .intro l _;rw[jec,List.drop_length];simp only[jg];rfl
 .intro i hi ihi l hl;have hlt:(i:Int)<((t.args.length:Nat):Int):=by omega
  have h5:=jy hi (by show t.args.length<=9223372036854775807;omega)
  rw[js hi,jF]at hl;have q:=ih t.args[i] (List.getElem_mem hi) (hk.args _ (List.getElem_mem hi)) (ht.args _ (List.getElem_mem hi)) l (by omega);have hln:=Y0 t.args[i] l;have q2:=ihi (qv l t.args[i]) (by omega);rw[jec,js hi,Yo];generalize qv l t.args[i]=l' at *;have hr:hR 1 (A.top,[.sl 1 (l'.map cs)]) 0=some (l'.map cs):=rfl;simp only[jg,hlt,jb hi,ji,q,hr,h5,q2]
 have e2:jaf (jS t.args) (vi (t.args.length:Nat)) (vi 0) (l.map cs)=some (.top,[.sl 1 ((Yo l t.args).map cs)]):=by
  have key:=key l (by rw[List.drop_zero];omega)
  rw[List.drop_zero]at key;have:∀n:A,jaf (jS t.args) n (vi 0) (l.map cs)=jag (jS t.args) n (vi 0) (l.map cs):=λn=>by rw[jqU,jec]
  rw[this];exact key
 rw[jvV,jhY];cases hv:jr t.name<;>rw[hv]at e0
 .rw [if_neg Bool.false_ne_true];by_cases hl0:((t.args.length:Nat):Int)=0
  .simp only[jg,hl0,e0];rw[hl0]at e2;exact e2
  .simp only[jg,hl0,e2]
 .have ha:t.args=[]:=by
   rcases hk with h|h
   .exact jbp h hv
   .rw [h.1]at hv;exact absurd hv (by decide)
  have hl0:((t.args.length:Nat):Int)=0:=by rw[ha];rfl
  rw[if_pos rfl];unfold vnA;cases hc:l.contains t.name<;>rw[hc]at e1
  .have f:jO (l.length+1) 16=true:=jvm (by omega);rw[if_neg Bool.false_ne_true,List.map_append];simp only[jg,hl0,e0,e1,f];rfl
  .rw [if_pos rfl];simp only[jg,hl0,e0,e1]
theorem jlB(c:kg)(hl:c.length<=1000)(hk:∀l∈c,Rx' l.2)(hz:∀l∈c,Tz l.2)(hs:∀l∈c,nodes l.2<=1000):G 97 [cm c]=some (.sl 1 ((kh c).map cs),[]):=by
 have key:=upto (P:=λi=>∀l:Xa,l.length<=1000*i->jiv (.sl 3 (c.map jD)) (vi (c.length:Nat)) (vi (i:Nat)) (l.map cs)=some (.sl 1 (((c.drop i).foldl (λl x=>qv l x.2) l).map cs),[])) (n:=c.length) ?_ ?_ 0 (Nat.zero_le _)
 .have key:=key [] (by simp);rw[List.drop_zero]at key;have key:jiv (.sl 3 (c.map jD)) (vi (c.length:Nat)) (vi 0) []=some (.sl 1 ((kh c).map cs),[]):=key;rw[g97];simp only[jg,key]
 .intro l _;rw[jvh,List.drop_length];simp only[jg];rfl
 .intro i hi ih l hll;have hlt:(i:Int)<((c.length:Nat):Int):=by omega
  have h5:=jy hi (by show c.length<=9223372036854775807;omega)
  have ix:=jb (k:=3) (f:=jD) hi;have hn:=hs _ (List.getElem_mem hi);have q:=jcm c[i].2 (hk _ (List.getElem_mem hi)) (hz _ (List.getElem_mem hi)) l (by omega);have hol:=Y0 c[i].2 l;have q2:=ih (qv l c[i].2) (by omega);rw[jvh,js hi,List.foldl_cons];generalize qv l c[i].2=l' at *;have hr:hR 1 (A.top,[.sl 1 (l'.map cs)]) 0=some (l'.map cs):=rfl;simp only[jg,hlt,ix,zy,q,hr,h5,q2]
abbrev yH:=List (T×T)
def jiG:ju->Bool
 | []=>true
 | [_]=>true
 |p::q::s=>zz p.1 q.1 && jiG (q::s)
noncomputable def jB(s:ju):Bool:=decide (s.length<=12) && (jiG s && s.all λq=>jr q.1 && (kV q.2 && !dq q.2.name q.1))
def kC(s u:ju):ju:=QV (s.map (λq=>(q.1,sub u q.2))++u.filter λq=>(look s q.1).isNone)
def jv(x y:T):Xb×T:=if jr x.name=false\/(jr y.name=true/\zz x.name y.name=true)then(y.name,x)else(x.name,y)
noncomputable def yl(s:ju)(l r:T)(rest:yH):Option (ju×yH):=
 if jH (sub s l)=false\/jH (sub s r)=false then none
 else if dq (sub s l) (sub s r)then some (s,rest)
 else if jr (sub s l).name=true\/jr (sub s r).name=true then
  (if(jv (sub s l) (sub s r)).1∈ke (jv (sub s l) (sub s r)).2\/jB [jv (sub s l) (sub s r)]=false\/jB (kC s [jv (sub s l) (sub s r)])=false then none else some (kC s [jv (sub s l) (sub s r)],rest))
 else if(sub s l).name=(sub s r).name/\(sub s l).args.length=(sub s r).args.length then some (s,(sub s l).args.zip (sub s r).args++rest)else none
noncomputable def kH:Nat->ju->yH->Option (Option ju)
 |_,s,[]=>some (some s)
 |0,_,_::_=>none
 |k+1,s,p::rest=>(match yl s p.1 p.2 rest with|none=>some none|some q=>kH k q.1 q.2)
def Exx(t:T):Prop:=(qb t=true\/(t.name=[61]/\t.args.length=2/\ ∀u∈t.args,qb u=true))/\nodes t<=31
def IdS(s:ju):Prop:=∀q∈s,∀x∈ke q.2,look s x=none
def Jt(s:ju)(es:yH):Prop:=jB s=true/\IdS s/\ ∀p∈es,Exx p.1/\Exx p.2
theorem jI{s:ju}(h:jB s=true):s.length<=12/\jiG s=true/\ ∀q∈s,jr q.1=true/\kV q.2=true/\q.2.name≠q.1:=by
 unfold jB at h;rw[Bool.and_eq_true,decide_eq_true_eq,Bool.and_eq_true,List.all_eq_true]at h;refine⟨h.1,h.2.1,λq hq=>?_⟩;have:=h.2.2 q hq;rw[Bool.and_eq_true,Bool.and_eq_true,Bool.not_eq_true']at this;exact⟨this.1,this.2.1,λe=>by rw[e,jhx]at this;exact absurd this.2.2 (by decide)⟩
theorem Qe{t:T}(h:kV t=true):qb t=true:=by
 unfold kV at h;rw[Bool.and_eq_true]at h;exact h.2
theorem vsv{t:T}(h:jr t.name=true):ke t=[t.name]:=by rw[YI,h,if_pos rfl]
theorem vsf{t:T}(h:jr t.name=false):ke t=z7 t.args:=by rw[YI,h,if_neg Bool.false_ne_true]
theorem yx{x:Xb} :∀{ts:Xg},x∈z7 ts↔ ∃t∈ts,x∈ke t
 | []=>by simp[z7]
 |t::ts=>by rw[z7,List.mem_append,yx];simp
theorem jfd{s:ju}(hs:IdS s):∀(w:T){x:Xb},x∈ke (sub s w)->look s x=none:=by
 refine T.ind (p:=λw=>∀{x:Xb},x∈ke (sub s w)->look s x=none) λw ih=>?_;intro x hx;cases hv:jr w.name with
 |true=>
  rw[KI hv,jc1]at hx;cases hl:look s w.name with
  |some r=>rw[hl]at hx;exact hs _ (Zz hl) x hx
  |none=>
   rw[hl]at hx;have hx:x∈ke (.mk w.name []):=hx;rw[vsv (t:= .mk w.name []) hv,List.mem_singleton]at hx;rw[hx];exact hl
 |false=>
  rw[Jb hv,vsf (t:= .mk w.name (w.args.map (sub s))) hv,yx]at hx;obtain⟨t,ht,hx⟩:=hx;obtain⟨a,ha,rfl⟩:=List.mem_map.1 ht;exact ih a ha hx
theorem jgN{n:Xb}{t:T} :∀(w:T){x:Xb},x∈ke (sub [(n,t)] w)->(x∈ke w/\x≠n)\/x∈ke t:=by
 refine T.ind (p:=λw=>∀{x:Xb},x∈ke (sub [(n,t)] w)->(x∈ke w/\x≠n)\/x∈ke t) λw ih=>?_;intro x hx;cases hv:jr w.name with
 |true=>
  rw[KI hv,jc1]at hx;by_cases hn:n=w.name
  .have:look [(n,t)] w.name=some t:=by rw[look,if_pos hn]
   rw[this]at hx;exact Or.inr hx
  .have:look [(n,t)] w.name=none:=by rw[look,if_neg hn,look]
   rw[this]at hx;have hx:x∈ke (.mk w.name []):=hx;rw[vsv (t:= .mk w.name []) hv,List.mem_singleton]at hx;left;rw[vsv hv,hx];exact⟨by simp[T.name],λe=>hn e.symm⟩
 |false=>
  rw[Jb hv,vsf (t:= .mk w.name (w.args.map (sub [(n,t)]))) hv,yx]at hx;obtain⟨u,hu,hx⟩:=hx;obtain⟨a,ha,rfl⟩:=List.mem_map.1 hu;rcases ih a ha hx with⟨h1,h2⟩|h
  .left;rw[vsf hv,yx];exact⟨⟨a,ha,h1⟩,h2⟩
  .exact Or.inr h
theorem jl7{s:ju} :∀(w:T),qb w=true->(∀x∈ke w,look s x=none)->sub s w=w:=by
 refine T.ind λw ih=>?_;intro hk h;cases hv:jr w.name with
 |true=>
  rw[KI hv,jc1,h w.name (by rw[vsv hv];simp)]
  have ha:=jbp hk hv;show T.mk w.name []=w;rw[<-ha,T.eta]
 |false=>
  rw[Jb hv];have:w.args.map (sub s)=w.args:=by
   conv=>rhs;rw[<-List.map_id w.args]
   refine List.map_congr_left λa ha=>ih a ha (qi hk a ha) λx hx=>h x ?_;rw[vsf hv,yx];exact⟨a,ha,hx⟩
  rw[this,T.eta]
theorem jeJ{s:ju}{n:Xb}{t:T}{q:Xb×T} :q∈KT s n t↔q∈s\/q=(n,t):=by
 unfold KT;have e:=List.takeWhile_append_dropWhile (p:=λp:Xb×T=>zz p.1 n) (l:=s);constructor
 .intro h;rcases List.mem_append.1 h with h|h
  .left;rw[<-e];exact List.mem_append_left _ h
  .rcases List.mem_cons.1 h with h|h
   .exact Or.inr h
   .left;rw[<-e];exact List.mem_append_right _ h
 .rintro (h|h)
  .rw [<-e]at h;rcases List.mem_append.1 h with h|h
   .exact List.mem_append_left _ h
   .exact List.mem_append_right _ (List.mem_cons_of_mem _ h)
  .rw [h];exact List.mem_append_right _ (List.mem_cons_self ..)
theorem jrV(s:ju)(n:Xb)(t:T):(KT s n t).length=s.length+1:=by
 unfold KT;have e:=congrArg List.length (List.takeWhile_append_dropWhile (p:=λp:Xb×T=>zz p.1 n) (l:=s));rw[List.length_append]at e;rw[List.length_append,List.length_cons];omega
theorem KD:∀(m s:ju),(∀q∈m,q.2.name≠q.1)->(m.foldl (λs p=>Ks s p.1 p.2) s).length=s.length+m.length/\ ∀q,q∈m.foldl (λs p=>Ks s p.1 p.2) s↔q∈s\/q∈m
 | [],s,_=>⟨rfl,λq=>by simp⟩
 |p::m,s,h=>by
  rw[List.foldl_cons];have e:Ks s p.1 p.2=KT s p.1 p.2:=if_neg (h p (by simp));obtain⟨h1,h2⟩:=KD m (Ks s p.1 p.2) λq hq=>h q (by simp[hq]);refine⟨by rw[h1,e,jrV,List.length_cons];omega,λq=>?_⟩;rw[h2,e,jeJ,List.mem_cons,or_assoc]
theorem jla{s:ju}(hs:jB s=true)(hi:IdS s){n:Xb}{t:T}(hn:jr n=true)(hd:look s n=none)(ht:∀x∈ke t,look s x=none)(ho:n ∉ ke t)(htn:t.name≠n) :
  (kC s [(n,t)]).length=s.length+1/\IdS (kC s [(n,t)])/\(∀q,q∈kC s [(n,t)]↔(∃p∈s,q=(p.1,sub [(n,t)] p.2))\/q=(n,t))/\ ∀q∈s.map (λq=>(q.1,sub [(n,t)] q.2))++[(n,t)],q.2.name≠q.1:=by
 obtain⟨_,_,hv⟩:=jI hs;have hf:([(n,t)]:ju).filter (λq=>(look s q.1).isNone)=[(n,t)]:=by simp[hd]
 have hname:∀q∈s.map (λq=>(q.1,sub [(n,t)] q.2))++[(n,t)],q.2.name≠q.1:=by
  intro q hq;rcases List.mem_append.1 hq with hq|hq
  .obtain ⟨p,hp,rfl⟩:=List.mem_map.1 hq;intro e;have e:(sub [(n,t)] p.2).name=p.1:=e;have hx:p.1∈ke (sub [(n,t)] p.2):=by rw[vsv (by rw[e];exact(hv p hp).1),e];simp
   have hk:look s p.1≠none:=λh=>qK.1 h p hp rfl;rcases jgN _ hx with⟨h1,_⟩|h1
   .exact hk (hi p hp _ h1)
   .exact hk (ht _ h1)
  .simp only[List.mem_singleton]at hq;rw[hq];exact htn
 obtain⟨f1,f2⟩:=KD _ [] hname;have hm:∀q,q∈kC s [(n,t)]↔(∃p∈s,q=(p.1,sub [(n,t)] p.2))\/q=(n,t):=by
  intro q;unfold kC QV;rw[hf,f2];simp only[List.not_mem_nil,false_or,List.mem_append,List.mem_map,List.mem_singleton];constructor
  .rintro (⟨p,h1,h2⟩|h)
   .exact Or.inl ⟨p,h1,h2.symm⟩
   .exact Or.inr h
  .rintro (⟨p,h1,h2⟩|h)
   .exact Or.inl ⟨p,h1,h2.symm⟩
   .exact Or.inr h
 refine⟨?_,?_,hm,hname⟩
 .unfold kC QV;rw[hf,f1,List.length_append,List.length_map];simp
 .intro q hq x hx;have hxn:x≠n/\look s x=none:=by
   rcases(hm q).1 hq with⟨p,hp,rfl⟩|rfl
   .rcases jgN _ hx with⟨h1,h2⟩|h1
    .exact ⟨h2,hi p hp _ h1⟩
    .exact ⟨λe=>ho (e ▸ h1),ht _ h1⟩
   .exact ⟨λe=>ho (e ▸ hx),ht _ hx⟩
  refine qK.2 λp hp e=>?_;rcases(hm p).1 hp with⟨p',hp',rfl⟩|rfl
  .exact qK.1 hxn.2 p' hp' e
  .exact hxn.1 e.symm
def mz(s:ju):yH->Nat
 | []=>0
 |p::r=>nodes (sub s p.1)+nodes (sub s p.2)+mz s r
theorem jge(s:ju):∀a b:yH,mz s (a++b)=mz s a+mz s b
 | [],b=>by simp[mz]
 |p::a,b=>by rw[List.cons_append,mz,mz,jge s a b];omega
theorem jrr{s:ju} :∀(a b:Xg),(∀u∈a,sub s u=u)->(∀u∈b,sub s u=u)->mz s (a.zip b)<=jF a+jF b
 | [],_,_,_=>by simp[mz]
 |_::_,[],_,_=>by simp[mz]
 |x::a,y::b,h1,h2=>by
  have:=jrr a b (λu hu=>h1 u (by simp[hu])) (λu hu=>h2 u (by simp[hu]));rw[List.zip_cons_cons,mz,h1 x (by simp),h2 y (by simp)];simp only[jF];omega
theorem Exx.sub{s:ju}(hs:jB s=true){t:T}(h:Exx t):qb (sub s t)=true\/((sub s t).name=[61]/\(sub s t).args.length=2/\ ∀u∈(sub s t).args,qb u=true):=by
 obtain⟨_,_,hv⟩:=jI hs;have ho:∀q∈s,qb q.2=true:=λq hq=>(Qe (hv q hq).2.1);rcases h.1 with h|⟨h1,h2,h3⟩
 .exact Or.inl (jb4 ho t h)
 .have hvn:jr t.name=false:=by rw[h1];decide
  right;rw[Jb hvn];refine⟨h1,by show(t.args.map _).length=2;rw[List.length_map,h2],λu hu=>?_⟩;obtain⟨a,ha,rfl⟩:=List.mem_map.1 hu;exact jb4 ho a (h3 a ha)
theorem kT{t:T}(h:jH t=true):nodes t<=30:=by
 simp only[jH,Bool.and_eq_true,decide_eq_true_eq]at h;exact h.1
theorem jmV{t:T}(h:qb t=true\/(t.name=[61]/\t.args.length=2/\ ∀u∈t.args,qb u=true)):∀u∈t.args,qb u=true:=by
 rcases h with h|h
 .exact qi h
 .exact h.2.2
theorem zx{s:ju}{l r:T}{rest:yH}(h:Jt s ((l,r)::rest)){s':ju}{es:yH}(hst:yl s l r rest=some (s',es)):Jt s' es/\((s'=s/\mz s' es<mz s ((l,r)::rest))\/s'.length=s.length+1):=by
 obtain⟨hv,hi,he⟩:=h;obtain⟨el,er⟩:=he (l,r) (by simp);have hrest:∀p∈rest,Exx p.1/\Exx p.2:=λp hp=>he p (by simp[hp]);have xl:=el.sub hv;have xr:=er.sub hv;have nl:=Zc (sub s l);have vl:=λ{x} (hx:x∈ke (sub s l))=>jfd hi l hx;have vr:=λ{x} (hx:x∈ke (sub s r))=>jfd hi r hx;have hmz:mz s ((l,r)::rest)=nodes (sub s l)+nodes (sub s r)+mz s rest:=rfl;unfold yl at hst;split at hst
 .cases hst
 rename_i hsm;have hs1:jH (sub s l)=true:=by
  cases h:jH (sub s l)with
  |true=>rfl
  |false=>exact absurd (Or.inl h) hsm
 have hs2:jH (sub s r)=true:=by
  cases h:jH (sub s r)with
  |true=>rfl
  |false=>exact absurd (Or.inr h) hsm
 split at hst
 .cases hst;exact⟨⟨hv,hi,hrest⟩,Or.inl ⟨rfl,by rw[hmz];omega⟩⟩
 split at hst
 .rename_i hvar;split at hst
  .cases hst
  rename_i hno;cases hst;have h1:(jv (sub s l) (sub s r)).1 ∉ ke (jv (sub s l) (sub s r)).2:=λh=>hno (Or.inl h);have h2:jB (kC s [jv (sub s l) (sub s r)])=true:=by
   cases h:jB (kC s [jv (sub s l) (sub s r)])with
   |true=>rfl
   |false=>exact absurd (Or.inr (Or.inr h)) hno
  have h3:jB [jv (sub s l) (sub s r)]=true:=by
   cases h:jB [jv (sub s l) (sub s r)]with
   |true=>rfl
   |false=>exact absurd (Or.inr (Or.inl h)) hno
  have hb:look s (jv (sub s l) (sub s r)).1=none/\ ∀x∈ke (jv (sub s l) (sub s r)).2,look s x=none:=by
   unfold jv;split
   .rename_i hc;have hy:jr (sub s r).name=true:=by
     rcases hc with hc|hc
     .rcases hvar with h|h
      .rw [hc]at h;cases h
      .exact h
     .exact hc.1
    exact⟨vr (by rw[vsv hy];simp),λx hx=>vl hx⟩
   .rename_i hc;have hx:jr (sub s l).name=true:=by
     cases h:jr (sub s l).name with
     |true=>rfl
     |false=>exact absurd (Or.inl h) hc
    exact⟨vl (by rw[vsv hx];simp),λx hx=>vr hx⟩
  obtain⟨_,_,h4⟩:=jI h3;obtain⟨k1,_,k3⟩:=h4 _ (List.mem_singleton_self _);generalize jv (sub s l) (sub s r)=p at *;obtain⟨n,t⟩:=p;obtain⟨c1,c2,_,_⟩:=jla hv hi k1 hb.1 hb.2 h1 k3;exact⟨⟨h2,c2,hrest⟩,Or.inr c1⟩
 .rename_i hnv;split at hst
  .rename_i hnm;cases hst;have v1:jr (sub s l).name=false:=by
    cases h:jr (sub s l).name with
    |false=>rfl
    |true=>exact absurd (Or.inl h) hnv
   have v2:jr (sub s r).name=false:=by
    cases h:jr (sub s r).name with
    |false=>rfl
    |true=>exact absurd (Or.inr h) hnv
   have a1:∀u∈(sub s l).args,qb u=true/\nodes u<=31/\sub s u=u:=λu hu=>by
    have hk:=jmV xl u hu;have:=Zb hu;have:=kT hs1;exact⟨hk,by omega,jl7 u hk λx hx=>vl (by rw[vsf v1,yx];exact⟨u,hu,hx⟩)⟩
   have a2:∀u∈(sub s r).args,qb u=true/\nodes u<=31/\sub s u=u:=λu hu=>by
    have hk:=jmV xr u hu;have:=Zb hu;have:=kT hs2;exact⟨hk,by omega,jl7 u hk λx hx=>vr (by rw[vsf v2,yx];exact⟨u,hu,hx⟩)⟩
   refine⟨⟨hv,hi,λp hp=>?_⟩,Or.inl ⟨rfl,?_⟩⟩
   .rcases List.mem_append.1 hp with hp|hp
    .have hm:=List.of_mem_zip (a:=p.1) (b:=p.2) hp;exact⟨⟨Or.inl (a1 _ hm.1).1,(a1 _ hm.1).2.1⟩,⟨Or.inl (a2 _ hm.2).1,(a2 _ hm.2).2.1⟩⟩
    .exact hrest p hp
   .have:=jrr (s:=s) (sub s l).args (sub s r).args (λu hu=>(a1 u hu).2.2) (λu hu=>(a2 u hu).2.2);have e1:=jU (sub s l);have e2:=jU (sub s r);rw[jge,hmz];omega
  .cases hst
theorem jmh:∀(m1 m2:Nat)(s:ju)(es:yH),Jt s es->13-s.length<=m1->mz s es<=m2-> ∃k res,kH k s es=some res:=by
 intro m1;induction m1 with
 |zero=>
  intro m2 s es h h1;have:=(jI h.1).1;omega
 |succ m1 ih1=>
  intro m2;induction m2 with
  |zero=>
   intro s es h _ h2;cases es with
   |nil=>exact⟨0,_,rfl⟩
   |cons p es=>
    have:=Zc (sub s p.1);simp only[mz]at h2;omega
  |succ m2 ih2=>
   intro s es h h1 h2;cases es with
   |nil=>exact⟨0,_,rfl⟩
   |cons p es=>
    obtain⟨l,r⟩:=p;cases hst:yl s l r es with
    |none=>exact⟨1,none,by rw[kH,hst]⟩
    |some q=>
     obtain⟨s',es'⟩:=q;obtain⟨hinv,hor⟩:=zx h hst;have hl:=(jI h.1).1;rcases hor with⟨e,hlt⟩|e
     .obtain ⟨k,res,hk⟩:=ih2 s' es' hinv (by rw[e];exact h1) (by omega)
      exact⟨k+1,res,by rw[kH,hst];exact hk⟩
     .obtain ⟨k,res,hk⟩:=ih1 (mz s' es') s' es' hinv (by omega) (Nat.le_refl _);exact⟨k+1,res,by rw[kH,hst];exact hk⟩
theorem jsr:∀(k:Nat)(s:ju)(es:yH){u:ju},Jt s es->kH k s es=some (some u)->jB u=true/\IdS u:=by
 intro k;induction k with
 |zero=>
  intro s es u h hu;cases es with
  |nil=>simp only[kH,Option.some.injEq]at hu;rw[<-hu];exact⟨h.1,h.2.1⟩
  |cons p es=>simp[kH]at hu
 |succ k ih=>
  intro s es u h hu;cases es with
  |nil=>simp only[kH,Option.some.injEq]at hu;rw[<-hu];exact⟨h.1,h.2.1⟩
  |cons p es=>
   obtain⟨l,r⟩:=p;rw[kH]at hu;cases hst:yl s l r es with
   |none=>rw[hst]at hu;simp at hu
   |some q=>
    rw[hst]at hu;exact ih q.1 q.2 (zx h hst).1 hu
def Bx(t:T):Prop:=(t.name=[61]/\t.args.length=2/\ ∀u∈t.args,qb u=true)\/(qz t.name=true/\qb t=true)
theorem Bx.rx{t:T}(h:Bx t):Rx' t:=h.elim (λh=>Or.inr ⟨h.1,h.2.2⟩) λh=>Or.inl h.2
theorem Bx.ax{t:T}(h:Bx t):qb t=true\/(t.name=[61]/\t.args.length=2/\ ∀u∈t.args,qb u=true):=h.elim Or.inr λh=>Or.inl h.2
theorem Bx.args{t:T}(h:Bx t):∀u∈t.args,qb u=true:=h.elim (λh=>h.2.2) λh=>qi h.2
theorem jwQ{n:Xb}(h:qz n=true):jr n=false:=by
 cases hv:jr n with
 |false=>rfl
 |true=>rw[jl9 hv]at h;cases h
theorem Bx.nv{t:T}(h:Bx t):jr t.name=false:=h.elim (λh=>by rw[h.1];decide) λh=>jwQ h.1
theorem jxq{t:T}(h:t.args.length=2):t.args=[QA t,jbD t]:=by
 obtain⟨n,us⟩:=t
 match us,h with
 | [a,b],_=>rfl
theorem jap{t:T} :yE t=true↔Bx t/\jH t=true:=by
 unfold yE Bx;by_cases he:t.name=[61]
 .rw [if_pos he];unfold jfo;rw[Bool.and_eq_true,Bool.and_eq_true,Bool.and_eq_true,decide_eq_true_eq];constructor
  .rintro ⟨h1,h2,h3,h4⟩;refine⟨Or.inl ⟨he,h1,λu hu=>?_⟩,h2⟩;rw[jxq h1]at hu;simp only[List.mem_cons,List.not_mem_nil,or_false]at hu;rcases hu with rfl|rfl
   .exact h3
   .exact h4
  .rintro ⟨h|h,h2⟩
   .obtain ⟨_,_,ma,mb⟩:=K3 h.2.1;exact⟨h.2.1,h2,h.2.2 _ ma,h.2.2 _ mb⟩
   .rw [he]at h;exact absurd h.1 (by decide)
 .rw [if_neg he];unfold kV;rw[Bool.and_eq_true,Bool.and_eq_true];constructor
  .rintro ⟨h1,h2,h3⟩;exact⟨Or.inr ⟨h1,h3⟩,h2⟩
  .rintro ⟨h|h,h2⟩
   .exact absurd h.1 he
   .exact ⟨h.1,h2,h.2⟩
theorem Bx.atom{t:T}(h:Bx t):yE t=jH t:=by
 cases hs:jH t with
 |true=>exact jap.2 ⟨h,hs⟩
 |false=>
  cases ha:yE t with
  |false=>rfl
  |true=>rw[(jap.1 ha).2]at hs;cases hs
theorem Bx.tsz{t:T}(h:Bx t):tsz t<=10*nodes t:=by
 rcases h with h|h
 .rw [ze,jU,h.1,h.2.1];have:=jnl h.2.2;simp only[List.length_cons,List.length_nil];omega
 .exact jev t h.2
theorem Bx.tz{t:T}(h:Bx t)(hn:nodes t<=100000):Tz t:=by have:=h.tsz;unfold Tz;omega
theorem Bx.sub{s:ju}(hs:jB s=true){t:T}(h:Bx t):Bx (sub s t):=by
 obtain⟨_,_,hv⟩:=jI hs;have ho:∀q∈s,qb q.2=true:=λq hq=>Qe (hv q hq).2.1;have hn:=h.nv;rcases h with h|h
 .left;rw[je5 hn,jbm hn,List.length_map];refine⟨h.1,h.2.1,λu hu=>?_⟩;obtain⟨a,ha,rfl⟩:=List.mem_map.1 hu;exact jb4 ho a (h.2.2 a ha)
 .right;rw[je5 hn];exact⟨h.1,jb4 ho t h.2⟩
theorem JQ{s:ju}(hs:jB s=true):∀q∈s,nodes q.2<=30:=λq hq=>by
 have:=((jI hs).2.2 q hq).2.1;unfold kV at this;rw[Bool.and_eq_true]at this;exact kT this.1
theorem J0{s:ju}(hs:jB s=true):∀q∈s,qb q.2=true:=λq hq=>Qe ((jI hs).2.2 q hq).2.1
theorem jpe:jB []=true:=by unfold jB;simp[jiG]
mutual
theorem jgq(f:Xb->Xb):∀t:T,nodes (kN f t)<=nodes t
 |.mk n us=>by
  rw[kN];split
  .have:=Zc (.mk n us);show 1+0<=_;omega
  .have:=jeV f us;simp only[nodes];omega
theorem jeV(f:Xb->Xb):∀ts:Xg,jF (Jm f ts)<=jF ts
 | []=>Nat.le_refl _
 |t::ts=>by have:=jgq f t;have:=jeV f ts;simp only[Jm,jF];omega
end
mutual
theorem jt6(f:Xb->Xb):∀t:T,Ko (kN f t)<=Ko t
 |.mk n us=>by
  rw[kN];split
  .rw [Kc (.mk n us)];show 1+0<=_;omega
  .have:=jkb f us;simp only[Ko];omega
theorem jkb(f:Xb->Xb):∀ts:Xg,KO (Jm f ts)<=KO ts
 | []=>Nat.le_refl _
 |t::ts=>by have:=jt6 f t;have:=jkb f ts;simp only[Jm,KO];omega
end
theorem jeU{f:Xb->Xb}{t:T}(h:jr t.name=false):(kN f t).name=t.name:=by rw[jba,h,if_neg Bool.false_ne_true];rfl
theorem jka{f:Xb->Xb}{t:T}(h:jr t.name=false):(kN f t).args=t.args.map (kN f):=by rw[jba,h,if_neg Bool.false_ne_true];rfl
theorem jrZ{f:Xb->Xb}(hf:∀n,jr n=true->jr (f n)=true):∀t:T,qb t=true->qb (kN f t)=true:=by
 refine T.ind λt ih h=>?_;cases hv:jr t.name with
 |true=>rw[jba,hv,if_pos rfl];exact jrx _ (hf _ hv)
 |false=>
  have hk:=h;rw[qj,hv,if_neg Bool.false_ne_true,Bool.and_eq_true,Bool.and_eq_true,decide_eq_true_eq]at h;rw[qj,jeU hv,jka hv,hv,if_neg Bool.false_ne_true,Bool.and_eq_true,Bool.and_eq_true,decide_eq_true_eq,List.length_map,Ze,List.all_eq_true];refine⟨h.1,h.2.1,λu hu=>?_⟩;obtain⟨a,ha,rfl⟩:=List.mem_map.1 hu;exact ih a ha (qi hk a ha)
theorem Bx.ren{f:Xb->Xb}(hf:∀n,jr n=true->jr (f n)=true){t:T}(h:Bx t):Bx (kN f t):=by
 have hn:=h.nv;rcases h with h|h
 .left;rw[jeU hn,jka hn,List.length_map];refine⟨h.1,h.2.1,λu hu=>?_⟩;obtain⟨a,ha,rfl⟩:=List.mem_map.1 hu;exact jrZ hf a (h.2.2 a ha)
 .right;rw[jeU hn];exact⟨h.1,jrZ hf t h.2⟩
theorem jbG:∀d:Nat,d<10->yK (UInt8.ofNat (48+d))=true:=by decide
theorem Z8{u:Nat}(h:u<10):Lib.decDigits u=[UInt8.ofNat (48+u)]:=Lib.decDigits_one h
theorem jdP{u:Nat}(h:¬u<10):Lib.decDigits u=Lib.decDigits (u / 10)++[UInt8.ofNat (48+u % 10)]:=by rw[Lib.decDigits,dif_neg h]
theorem qf:∀(k u:Nat),u<10 ^ (k+1)->(Lib.decDigits u).all yK=true/\(Lib.decDigits u).length<=k+1
 |0,u,h=>by rw[Z8 (by omega)];exact⟨by rw[List.all_cons,jbG u (by omega),List.all_nil];rfl,by simp⟩
 |k+1,u,h=>by
  by_cases hu:u<10
  .rw [Z8 hu];exact⟨by rw[List.all_cons,jbG u hu,List.all_nil];rfl,by simp⟩
  .obtain ⟨h1,h2⟩:=qf k (u / 10) (by rw[Nat.pow_succ]at h;omega)
   rw[jdP hu,List.all_append,h1,List.length_append];exact⟨by rw[List.all_cons,jbG (u % 10) (by omega),List.all_nil];rfl,by simp only[List.length_cons,List.length_nil];omega⟩
theorem jCZ:∀a:Nat,a<10-> ∀b:Nat,b<10->UInt8.ofNat (48+a)=UInt8.ofNat (48+b)->a=b:=by decide
theorem jCj(a b:Nat)(h1:a<10)(h2:b<10)(h:UInt8.ofNat (48+a)=UInt8.ofNat (48+b)):a=b:=jCZ a h1 b h2 h
theorem jBX:∀(u v:Nat),Lib.decDigits u=Lib.decDigits v->u=v:=by
 intro u;induction u using Nat.strongRecOn with
 |ind u ih=>
  intro v h;by_cases hu:u<10<;>by_cases hv:v<10
  .rw [Z8 hu,Z8 hv]at h;exact jCj u v hu hv (by simpa using h)
  .have h2:=congrArg List.length h;rw[Z8 hu,jdP hv,List.length_append,Lib.decDigits_length]at h2;have:=Lib.nDigits_pos (v / 10);simp only[List.length_cons,List.length_nil]at h2;omega
  .have h2:=congrArg List.length h;rw[Z8 hv,jdP hu,List.length_append,Lib.decDigits_length]at h2;have:=Lib.nDigits_pos (u / 10);simp only[List.length_cons,List.length_nil]at h2;omega
  .rw [jdP hu,jdP hv]at h;obtain⟨h1,h2⟩:=List.append_inj' h rfl;have e1:=ih (u / 10) (by omega) (v / 10) h1;have e2:=jCj (u % 10) (v % 10) (by omega) (by omega) (by simpa using h2);omega
theorem jDi{p:UInt8}{i j:Nat}(h:Yn p i=Yn p j):i=j:=by
 unfold Yn at h;exact jBX i j (by simpa using h)
theorem jrw{p:UInt8}(hp:upc p=true){i:Nat}(hi:i<1000):jr (Yn p i)=true:=by
 obtain⟨h1,h2⟩:=qf 2 i (by omega);show(upc p && ((Lib.decDigits i).all yK && decide ((Lib.decDigits i).length<=3)))=true;rw[hp,h1,decide_eq_true (by omega)];rfl
theorem juv{l:Xa}{n x:Xb} :x∈vnA l n↔x∈l\/x=n:=by
 unfold vnA;split
 .rename_i h;rw[List.contains_iff_mem]at h;exact⟨Or.inl,λh'=>h'.elim id λe=>e ▸ h⟩
 .simp
theorem jpf{l:Xa}{n:Xb}(h:l.Nodup):(vnA l n).Nodup:=by
 unfold vnA;split
 .exact h
 .rename_i hc;rw[List.contains_iff_mem]at hc;refine List.nodup_append.2 ⟨h,by simp,λa ha b hb=>?_⟩;simp only[List.mem_singleton]at hb;rintro rfl;exact hc (hb ▸ ha)
mutual
theorem jjL:∀(t:T)(l:Xa)(x:Xb),x∈qv l t↔x∈l\/x∈ke t
 |.mk n us,l,x=>by
  rw[qv,ke];split
  .rw [juv];simp
  .exact jjK us l x
theorem jjK:∀(ts:Xg)(l:Xa)(x:Xb),x∈Yo l ts↔x∈l\/x∈z7 ts
 | [],l,x=>by simp[Yo,z7]
 |t::ts,l,x=>by rw[Yo,z7,jjK ts,jjL t,List.mem_append,or_assoc]
end
mutual
theorem jex:∀(t:T){l:Xa},l.Nodup->(qv l t).Nodup
 |.mk n us,l,h=>by
  rw[qv];split
  .exact jpf h
  .exact jew us h
theorem jew:∀(ts:Xg){l:Xa},l.Nodup->(Yo l ts).Nodup
 | [],l,h=>h
 |t::ts,l,h=>by rw[Yo];exact jew ts (jex t h)
end
theorem jer:∀(c:kg)(l:Xa)(x:Xb),x∈c.foldl (λl x=>qv l x.2) l↔x∈l\/ ∃y∈c,x∈ke y.2
 | [],l,x=>by simp
 |y::c,l,x=>by rw[List.foldl_cons,jer c,jjL,or_assoc];simp
theorem jlz{c:kg}{x:Xb} :x∈kh c↔ ∃y∈c,x∈ke y.2:=by unfold kh;rw[jer];simp
theorem jaQ(c:kg):(kh c).Nodup:=by
 have:∀(c:kg)(l:Xa),l.Nodup->(c.foldl (λl x=>qv l x.2) l).Nodup:=by
  intro c;induction c with
  |nil=>intro l h;exact h
  |cons y c ih=>intro l h;exact ih _ (jex y.2 h)
 exact this c [] List.nodup_nil
theorem jlA{c:kg}{x:Xb}(h:x∈kh c):jr x=true:=by
 obtain⟨y,_,hx⟩:=jlz.1 h;exact jsv y.2 hx
def CN(c:kg):Prop:=c.length<=8/\ ∀l∈c,Bx l.2/\nodes l.2<=30
theorem qL{c:kg}(h:CN c):(kh c).length<=240:=by
 have:∀(c:kg)(l:Xa),(∀y∈c,nodes y.2<=30)->(c.foldl (λl x=>qv l x.2) l).length<=l.length+30*c.length:=by
  intro c;induction c with
  |nil=>intro l _;simp
  |cons y c ih=>
   intro l h;have h1:=Y0 y.2 l;have h2:=h y (by simp);have h3:=ih (qv l y.2) λz hz=>h z (by simp[hz]);rw[List.foldl_cons,List.length_cons];omega
 have h2:=this c [] λy hy=>(h.2 y hy).2;have h3:=h.1;rw[List.length_nil]at h2;unfold kh;omega
theorem jAE{p:UInt8}{l:Xa}{i:Nat}(hl:l.Nodup)(hi:i<l.length):kG p l l[i]=Yn p i:=by
 unfold kG;have:l.findIdx? (λx=>decide (x=l[i]))=some i:=by
  rw[List.findIdx?_eq_some_iff_getElem];refine⟨hi,by simp,λj hj=>?_⟩;simp only[decide_eq_true_eq];intro e;exact(List.pairwise_iff_getElem.1 hl) j i (by omega) hi hj e
 rw[this]
theorem jnO{p:UInt8}(hp:upc p=true){l:Xa}(hl:l.length<=1000){n:Xb}(hn:jr n=true):jr (kG p l n)=true:=by
 unfold kG;split
 .rename_i i h;have:=(List.findIdx?_eq_some_iff_getElem.1 h).1;exact jrw hp (by omega)
 .exact hn
theorem ji7{α:Type}(c:α->α->Int)(l:List α)(x:α):(ZX c l x).length<=l.length+1:=by
 unfold ZX;split
 .omega
 .have:=congrArg List.length (List.takeWhile_append_dropWhile (p:=λa=>decide (c a x<0)) (l:=l));rw[List.length_append]at this;rw[List.length_append,List.length_cons];omega
theorem jbL{α:Type}(c:α->α->Int)(l:List α):(zi c l).length<=l.length:=by
 have:∀(l m:List α),(l.foldl (ZX c) m).length<=m.length+l.length:=by
  intro l;induction l with
  |nil=>intro m;simp
  |cons x l ih=>
   intro m;have h1:=ji7 c m x;have h2:=ih (ZX c m x);rw[List.foldl_cons,List.length_cons];omega
 have:=this l [];simpa[zi]using this
theorem jbM{l:kg}{x:Lt} :x∈zi cmpL l↔x∈l:=(YY qe l).2 x
theorem jrj{l:kg}(h:Asc cmpL l):zi cmpL l=l:=by
 obtain⟨h1,h2⟩:=YY qe l;exact jht qe h1 h h2
theorem CN.make{l:kg}(hl:l.length<=8)(h:∀x∈l,Bx x.2/\nodes x.2<=30):CN (zi cmpL l):=⟨by have:=jbL cmpL l;omega,λx hx=>h x (jbM.1 hx)⟩
theorem CN.ren{p:UInt8}(hp:upc p=true){c:kg}(h:CN c):∀x∈c.map (λl=>(l.1,kN (kG p (kh c)) l.2)),Bx x.2/\nodes x.2<=30:=by
 intro x hx;obtain⟨l,hl,rfl⟩:=List.mem_map.1 hx;have hn:=qL h;have:=jgq (kG p (kh c)) l.2;have:=(h.2 l hl).2;exact⟨(h.2 l hl).1.ren λn hn=>jnO hp (by omega) hn,by show nodes (kN (kG p (kh c)) l.2)<=30;omega⟩
theorem CN.renC{p:UInt8}(hp:upc p=true){c:kg}(h:CN c):CN (renC p c):=CN.make (by rw[List.length_map];exact h.1) (h.ren hp)
theorem CN.normF:∀(k:Nat){c:kg},CN c->CN (normF k c)
 |0,c,h=>h
 |k+1,c,h=>by
  rw[Go.Proofs.YtkkcepmpbackoaaGreatDoor.normF];split
  .exact h
  .exact CN.normF k (CN.renC (by decide) h)
theorem CN.normC{c:kg}(h:CN c):CN (normC c):=CN.normF 10 h
theorem qp{c:kg}(h:zN c=true):CN c/\Asc cmpL c/\(∀l∈c,yE l.2=true):=by
 unfold zN at h;rw[Bool.and_eq_true,Bool.and_eq_true,List.all_eq_true,decide_eq_true_eq,jiF]at h;exact⟨⟨h.2.2,λl hl=>⟨(jap.1 (h.1 l hl)).1,kT (jap.1 (h.1 l hl)).2⟩⟩,h.2.1,h.1⟩
theorem CN.tz{c:kg}(h:CN c):∀l∈c,Tz l.2:=λl hl=>(h.2 l hl).1.tz (by have:=(h.2 l hl).2;omega)
theorem CN.rx{c:kg}(h:CN c):∀l∈c,Rx' l.2:=λl hl=>(h.2 l hl).1.rx
theorem jAF{f:Xb->Xb} :∀{xs bs:Xg},(∀u∈xs,∀v∈bs,ya (kN f u) (kN f v)=ya u v)->zt (xs.map (kN f)) (bs.map (kN f))=zt xs bs
 | [],_,_=>rfl
 |_::_,[],_=>rfl
 |x::xs,b::bs,h=>by
  rw[List.map_cons,List.map_cons,zt,zt,h x (by simp) b (by simp),jAF λu hu v hv=>h u (by simp[hu]) v (by simp[hv])]
theorem Rx'.va{t:T}(h:Rx' t)(hv:jr t.name=true):t.args=[]:=h.elim (λh=>jbp h hv) λh=>by rw[h.1]at hv;exact absurd hv (by decide)
theorem jDy{L:Xa}{f:Xb->Xb}(hf:∀n∈L,jr (f n)=true)(hc:∀n∈L,∀m∈L,kz (f n) (f m)=kz n m):∀a:T,Rx' a->(∀x∈ke a,x∈L)-> ∀b:T,Rx' b->(∀x∈ke b,x∈L)->ya (kN f a) (kN f b)=ya a b:=by
 refine T.ind λa ih ra la b rb lb=>?_;have hk:cK (Jv (kN f a)) (Jv (kN f b))=cK (Jv a) (Jv b):=by
  have v1:∀t:T,Rx' t->(∀x∈ke t,x∈L)->jr t.name=true->Jv t=(0,(t.name,0))/\Jv (kN f t)=(0,(f t.name,0))/\t.name∈L:=λt rt lt hv=>by
   have ha:=rt.va hv;have hm:t.name∈L:=lt _ (by rw[vsv hv];simp);have e1:vF t.name=0:=by unfold vF;rw[hv,if_pos rfl]
   have e2:vF (f t.name)=0:=by unfold vF;rw[hf _ hm,if_pos rfl]
   refine⟨by unfold Jv;rw[e1,ha];rfl,?_,hm⟩
   rw[jba,hv,if_pos rfl];show(vF (f t.name),(f t.name,0))=_;rw[e2]
  have v2:∀t:T,jr t.name=false->Jv (kN f t)=Jv t/\(Jv t).1=1:=λt hv=>by
   refine⟨by unfold Jv;rw[jeU hv,jka hv,List.length_map],?_⟩
   show vF t.name=1;unfold vF;rw[hv,if_neg Bool.false_ne_true]
  cases va:jr a.name<;>cases vb:jr b.name
  .rw [(v2 a va).1,(v2 b vb).1]
  .obtain ⟨p1,p2,_⟩:=v1 b rb lb vb;obtain⟨q1,q2⟩:=v2 a va;rw[q1,p1,p2];have e:∀z:Key,z.1=0->cK (Jv a) z=1:=λz hz=>by
    have:km (Jv a).1 z.1=1:=by rw[q2,hz];decide
    unfold cK;rw[this,if_pos (by decide)]
   rw[e _ rfl,e _ rfl]
  .obtain ⟨p1,p2,_⟩:=v1 a ra la va;obtain⟨q1,q2⟩:=v2 b vb;rw[q1,p1,p2];have e:∀z:Key,z.1=0->cK z (Jv b) = -1:=λz hz=>by
    have:km z.1 (Jv b).1 = -1:=by rw[q2,hz];decide
    unfold cK;rw[this,if_pos (by decide)]
   rw[e _ rfl,e _ rfl]
  .obtain ⟨p1,p2,p3⟩:=v1 a ra la va;obtain⟨q1,q2,q3⟩:=v1 b rb lb vb;rw[p1,p2,q1,q2];unfold cK;simp only;rw[hc _ p3 _ q3]
 rw[YR,YR a b,hk];by_cases h0:cK (Jv a) (Jv b)=0
 .rw [if_neg (λh=>h h0),if_neg (λh=>h h0)];cases va:jr a.name with
  |true=>
   have:(kN f a).args=[]:=by rw[jba,va,if_pos rfl];rfl
   rw[this,ra.va va];rfl
  |false=>
   have vb:jr b.name=false:=by rw[<-(jhH ((Z4.zero _ _).1 h0)).1];exact va
   rw[jka va,jka vb];exact jAF λu hu v hv=>ih u hu (ra.args u hu) (λx hx=>la x (by rw[vsf va,yx];exact⟨u,hu,hx⟩)) v (rb.args v hv) λx hx=>lb x (by rw[vsf vb,yx];exact⟨v,hv,hx⟩)
 .rw [if_pos h0,if_pos h0]
def jzp(d:kg):kg:=d.map λl=>(l.1,kN (kG 89 (kh d)) l.2)
def zD(c:kg):Bool:=zN c && qY c
theorem Qv{c:kg}(h:zD c=true):CN c/\Asc cmpL c/\zN c=true/\qY c=true:=by
 unfold zD at h;rw[Bool.and_eq_true]at h;exact⟨(qp h.1).1,(qp h.1).2.1,h.1,h.2⟩
theorem jCz(p q:UInt8)(x y:Xb):kz (p::x) (p::y)=kz (q::x) (q::y):=by
 have e:zz (p::x) (p::y)=zz (q::x) (q::y):=by
  rw[Q3,Q3];congr 1;simp[]
 unfold kz;rw[e];simp
theorem jrv{d:kg}(h:qY d=true){n:Xb}(hn:n∈kh d):∃i,i<(kh d).length/\n=Yn 88 i/\kG 89 (kh d) n=Yn 89 i:=by
 obtain⟨i,hi,rfl⟩:=List.mem_iff_getElem.1 hn;unfold qY at h;rw[decide_eq_true_eq]at h;refine⟨i,hi,?_,jAE (jaQ d) hi⟩;have:=congrArg (λl=>l[i]?) h;simp only[List.getElem?_eq_getElem hi,List.getElem?_map,List.getElem?_range hi,Option.map_some]at this;exact Option.some.inj this
theorem jCw{d:kg}(h:zD d=true):Asc cmpL (jzp d):=by
 obtain⟨hc,ha,_,hn⟩:=Qv h;have hl:=qL hc;unfold Asc jzp;rw[List.pairwise_map];refine List.Pairwise.imp_of_mem ?_ ha;intro x y hx hy hlt;have e:ya (kN (kG 89 (kh d)) x.2) (kN (kG 89 (kh d)) y.2)=ya x.2 y.2:=by
  refine jDy (L:=kh d) (λn hn'=>jnO (by decide) (by omega) (jlA hn')) (λn h1 m h2=>?_) x.2 (hc.rx x hx) (λz hz=>jlz.2 ⟨x,hx,hz⟩) y.2 (hc.rx y hy) (λz hz=>jlz.2 ⟨y,hy,hz⟩);obtain⟨i,_,rfl,e1⟩:=jrv hn h1;obtain⟨j,_,rfl,e2⟩:=jrv hn h2;rw[e1,e2];exact jCz _ _ _ _
 show cmpL (x.1,kN (kG 89 (kh d)) x.2) (y.1,kN (kG 89 (kh d)) y.2)<0;unfold cmpL at hlt⊢;simp only;rw[e];exact hlt
theorem apart_eq{d:kg}(h:zD d=true):renC 89 d=jzp d:=jrj (jCw h)
theorem jCT{d:kg}(h:zD d=true):CN (jzp d):=⟨by unfold jzp;rw[List.length_map];exact(Qv h).1.1,(Qv h).1.ren (by decide)⟩
theorem jAD(d:kg):(jzp d).length=d.length:=by unfold jzp;rw[List.length_map]
open Classical in
noncomputable def jca(a b:T):Option ju:=if h:∃r k,kH k [] [(a,b)]=some r then h.choose else none
theorem jnG{a b:T}(ha:Exx a)(hb:Exx b):Jt [] [(a,b)]:=⟨jpe,(λ_ h=>(List.not_mem_nil h).elim:IdS []),λp hp=>by rw[List.mem_singleton.1 hp];exact⟨ha,hb⟩⟩
theorem YH{a b:T}(ha:Exx a)(hb:Exx b):∃k,kH k [] [(a,b)]=some (jca a b):=by
 obtain⟨k,r,h⟩:=jmh 13 _ [] [(a,b)] (jnG ha hb) (by simp) (Nat.le_refl _);have hex:∃r k,kH k [] [(a,b)]=some r:=⟨r,k,h⟩;unfold jca;rw[dif_pos hex];exact hex.choose_spec
theorem jik{a b:T}(ha:Exx a)(hb:Exx b){u:ju}(h:jca a b=some u):jB u=true:=by
 obtain⟨k,hk⟩:=YH ha hb;rw[h]at hk;exact(jsr k _ _ (jnG ha hb) hk).1
noncomputable def KM(s:ju)(l:kg):Option kg:=if(l.all λx=>jH (sub s x.2)) && zN (zi cmpL (l.map λx=>(x.1,sub s x.2)))then some (zi cmpL (l.map λx=>(x.1,sub s x.2)))else none
noncomputable def jfx(s:ju)(l:kg):Option kg:=(KM s l).bind λc=>if zD (normC c)then some (normC c)else none
abbrev cz:A:= .agg [.sl 3 []]
def jbO(o:Option kg):Xe:=match o with|some c=>some (.tup [cm c,vb true],[])|none=>some (.tup [cz,vb false],[])
theorem jkd{s:ju}{l:kg}{c:kg}(h:jfx s l=some c):zD c=true:=by
 unfold jfx at h;rw[Option.bind_eq_some_iff]at h;obtain⟨d,_,h⟩:=h;split at h
 .rename_i hn;cases h;exact hn
 .cases h
theorem jan{s:ju}{l:kg}{c:kg}(h:KM s l=some c):zN c=true/\Asc cmpL c:=by
 unfold KM at h;split at h
 .rename_i hn;cases h;rw[Bool.and_eq_true]at hn;exact⟨hn.2,(YY qe _).1⟩
 .cases h
def atI:Xi->T->Option T
 | [],t=>some t
 |i::p,t=>if 0<=i/\i<(t.args.length:Int)then atI p (t.args.getD i.toNat (.mk [] []))else none
theorem jCU:∀{p:Xi}{t u:T},atI p t=some u-> ∃q:Xf,p=q.map (λn:Nat=>(n:Int))/\okP q t/\u=atT q t
 | [],t,u,h=>by simp only[atI,Option.some.injEq]at h;exact⟨[],rfl,trivial,h.symm⟩
 |i::p,t,u,h=>by
  rw[atI]at h;split at h;rotate_left
  .cases h
  rename_i hi;obtain⟨q,e,h1,h2⟩:=jCU h;refine⟨i.toNat::q,?_,⟨by omega,h1⟩,h2⟩;rw[List.map_cons,<-e];congr 1;omega
theorem jDj:∀{p:Xf}{t:T},p≠ []->okP p t->(∀u∈t.args,qb u=true)->qb (atT p t)=true/\nodes (atT p t)<=nodes t
 | [],t,h,_,_=>absurd rfl h
 |i::p,t,_,h,ha=>by
  obtain⟨h1,h2⟩:=h;rw[atT];rw[jmY h1]at h2⊢;have hm:t.args[i]∈t.args:=List.getElem_mem h1;have hk:=ha _ hm;have hn:=Zb hm;by_cases hp:p=[]
  .subst hp;exact⟨hk,by show nodes t.args[i]<=_;omega⟩
  .have:=jDj hp h2 (qi hk);exact⟨this.1,by omega⟩
theorem jBj{s:T}(hs:qb s=true):∀{p:Xf}{t:T},okP p t->qb t=true->qb (jvz s p t)=true
 | [],t,_,_=>hs
 |i::p,t,h,hk=>by
  obtain⟨h1,h2⟩:=h;rw[jmY h1]at h2;have hv:jr t.name=false:=by
   cases hv:jr t.name with
   |false=>rfl
   |true=>rw[jbp hk hv]at h1;simp at h1
  have hk':=hk;rw[qj,hv,if_neg Bool.false_ne_true,Bool.and_eq_true,Bool.and_eq_true,decide_eq_true_eq]at hk;rw[jvz,jmY h1,qj];show(if jr t.name=true then _ else(qz t.name && (decide ((t.args.set i (jvz s p t.args[i])).length<=4) && jjI (t.args.set i (jvz s p t.args[i])))))=true;rw[hv,if_neg Bool.false_ne_true,List.length_set,hk.1,decide_eq_true hk.2.1,Ze,Bool.true_and,Bool.true_and,List.all_eq_true];intro u hu;rcases List.mem_or_eq_of_mem_set hu with hu|hu
  .exact qi hk' u hu
  .rw [hu];exact jBj hs h2 (qi hk' _ (List.getElem_mem h1))
theorem jDP{s:T}(hs:qb s=true){p:Xf}{t:T}(hp:p≠ [])(h:okP p t)(hb:Bx t):Bx (jvz s p t):=by
 match p,hp,h with
 |i::p,_,⟨h1,h2⟩=>
  rw[jmY h1]at h2;rcases hb with hb|hb
  .left;rw[jvz,jmY h1];refine⟨hb.1,by show(t.args.set i _).length=2;rw[List.length_set];exact hb.2.1,λu hu=>?_⟩;rcases List.mem_or_eq_of_mem_set (show u∈t.args.set i (jvz s p t.args[i]) from hu)with hu|hu
   .exact hb.2.2 u hu
   .rw [hu];exact jBj hs h2 (hb.2.2 _ (List.getElem_mem h1))
  .right;refine⟨hb.1,?_⟩;exact jBj (p:=i::p) hs ⟨h1,by rw[jmY h1];exact h2⟩ hb.2
theorem jy0(s:T):∀(p:Xf)(t:T),okP p t->nodes (jvz s p t)<=nodes t+nodes s
 | [],t,_=>by rw[jvz];omega
 |i::p,t,h=>by
  obtain⟨h1,h2⟩:=h;rw[jmY h1]at h2;have ih:=jy0 s p t.args[i] h2;rw[jvz,jmY h1,jU t];show 1+jF (t.args.set i (jvz s p t.args[i]))<=_;have key:∀(ts:Xg)(i:Nat)(h:i<ts.length)(u:T),nodes u<=nodes ts[i]+nodes s->jF (ts.set i u)<=jF ts+nodes s:=by
   intro ts;induction ts with
   |nil=>intro i h;simp at h
   |cons x xs ih2=>
    intro i h u hu;cases i with
    |zero=>simp only[List.set_cons_zero,jF,List.getElem_cons_zero]at hu⊢;omega
    |succ i=>
     have:=ih2 i (by simpa using h) u (by simpa using hu);simp only[List.set_cons_succ,jF];omega
  have:=key t.args i h1 _ ih;omega
def EXB(t:T):Prop:=EX false t/\Bx t
end Go.Proofs.YtkkcepmpbackoaaGreatDoor
