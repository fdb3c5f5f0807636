/- Pd -/
import Derived.Test.YtjgmjdidbgcljaaGreatDoorPb
import Derived.Test.YtjgmjdidbgcljaaGreatDoorPa
import Derived.Test.YtjgmjdidbgcljaaGreatDoorPq
import Derived.KernelRfl
namespace Go.Proofs.YtjgmjdidbgcljaaGreatDoor
open Go Go.RowKit Go.Proofs.YtjgmjdidbgcljaaGreatDoor.Abs Go.Sort
set_option linter.unusedSimpArgs false
set_option linter.unusedVariables false
set_option maxHeartbeats 1000000
section
variable{α:Type}{c:α->α->Int}
theorem jua{β γ:Type}(f:β->β->γ)(ys:List β):∀(xs:List β)(i j:Nat)(x y:β),xs[i]? = some x->ys[j]? = some y->(xs.flatMap λx=>ys.map λy=>f x y)[i*ys.length+j]? = some (f x y)
 | [],i,j,x,y,h,_=>by simp at h
 |a::xs,i,j,x,y,h,hy=>by
  have hj:=(JH.1 hy).1;rw[List.flatMap_cons];cases i with
  |zero=>simp at h;subst h;rw[Nat.zero_mul,jfO,yr (by simpa using hj),Kw,hy];rfl
  |succ i=>
   rw[QU (by simp[zZ];omega)]
   have:(i+1)*ys.length+j-(ys.map λy=>f a y).length=i*ys.length+j:=by simp[zZ];omega
   rw[this];exact jua f ys xs i j x y (by simpa using h) hy
theorem extract_all{β:Type}(e:Array β){n:Nat}(h:e.size=n):e.extract 0 n=e:=by subst h;simp
theorem Law3.swo(h:Law3 c){β:Type}(g:β->α){lt:β->β->Bool}(hl:∀i j,lt i j=decide (c (g i) (g j)<0)):SWO lt:=by
 refine⟨λx=>?_,λx y z h1 h2=>?_,λx y z h1 h2=>?_⟩
 .rw [hl,(h.zero _ _).2 rfl];rfl
 .rw [hl,Q5]at *;exact h.trans _ _ _ h1 h2
 .rw [hl,decide_eq_false_iff_not]at *;intro h3;have f1:=h.flip (g x) (g y);have f2:=h.flip (g y) (g z);by_cases e1:c (g x) (g y)=0
  .rw [(h.zero _ _).1 e1]at h3;exact h2 h3
  by_cases e2:c (g y) (g z)=0
  .rw [<-(h.zero _ _).1 e2]at h3;exact h1 h3
  have:=h.trans (g z) (g y) (g x) (by omega) (by omega);have f3:=h.flip (g x) (g z);omega
theorem jsI{γ:Type}{c:γ->γ->Int}(hc:Law3 c)(f:α->γ)(enc:α->Xd)(k:Nat)(l:List α)(hl:l.length<4611686018427387904):∃s:List α,s.Perm l/\s.Pairwise (λa b=>¬c (f b) (f a)<0)/\jcV k (l.map enc) (l.flatMap λx=>l.map λy=>c (f x) (f y))=some (.top,[.sl k (s.map enc)]):=by
 cases l with
 |nil=>exact⟨[],List.Perm.refl _,List.Pairwise.nil,rfl⟩
 |cons a l'=>
  generalize hcs:((a::l').flatMap λx=>(a::l').map λy=>c (f x) (f y))=cs;rw[j5];have hN:(l'.map enc).length+1=(a::l').length:=by simp
  let g:Fin ((l'.map enc).length+1)->α:=λi=>(a::l')[i.val]'(by rw[<-hN];exact i.isLt)
  have hg:∀i:Fin ((l'.map enc).length+1),(a::l')[i.val]? = some (g i):=λi=>jz _;have hT:∀i j,ltO (jai ((l'.map enc).length+1) cs) i j=decide (c (f (g i)) (f (g j))<0):=λi j=>by
   have:=jua (λx y=>c (f x) (f y)) (a::l') (a::l') i.val j.val _ _ (hg i) (hg j);rw[hcs,<-hN]at this;unfold ltO jai;rw[jK,this];rfl
  have hS:=hc.swo (λi=>f (g i)) hT;have hsz:(l'.map enc).length+1<4611686018427387904:=by rw[hN];exact hl
  generalize hd:(Array.ofFn (n:=(l'.map enc).length+1) id)=d;have hds:d.size=(l'.map enc).length+1:=by rw[<-hd];simp
  obtain⟨hp,hs⟩:=pdq_sorts (ltO (jai ((l'.map enc).length+1) cs)) hS d 0 ((l'.map enc).length+1) (Lib.bitLen ((l'.map enc).length+1)) true true (Nat.zero_le _) (by omega) (Or.inl rfl);have hrow:jcV k (enc a::l'.map enc) cs=some (.top,[.sl k ((pdq (ltO (jai ((l'.map enc).length+1) cs)) d 0 ((l'.map enc).length+1) (Lib.bitLen ((l'.map enc).length+1)) true true).toList.map λi=>(enc a::l'.map enc).getD i.val [])]):=by
   unfold jcV;simp only;rw[jc6 ⟨hS,hsz⟩,hd]
  rw[hrow];generalize pdq (ltO (jai ((l'.map enc).length+1) cs)) d 0 ((l'.map enc).length+1) (Lib.bitLen ((l'.map enc).length+1)) true true=D at *;obtain⟨p1,_,p3⟩:=hp;rw[extract_all D (by omega),extract_all d hds]at p3;refine⟨D.toList.map g,?_,?_,?_⟩
  .have h1:(D.toList.map g).Perm (d.toList.map g):=p3.map g;have h2:d.toList.map g=a::l':=by
    refine kL λi=>?_;rw[<-hd];by_cases hi:i<(l'.map enc).length+1
    .rw [Kw,j4,qg (by simpa using hi)];simp only[Array.getElem_ofFn,z6,id];exact(hg ⟨i,hi⟩).symm
    .rw [KB (by simp at hi⊢;omega),KB (by simp at hi⊢;omega)]
   rw[h2]at h1;exact h1
  .rw [List.pairwise_map];rw[List.pairwise_iff_getElem];intro i j hi hj hij;have hD:D.size=(l'.map enc).length+1:=by omega
   rw[kz]at hi hj;have:=hs i j (Nat.zero_le _) hij (by omega);rw[kW D i hi,kW D j hj,hT,decide_eq_false_iff_not]at this;simpa using this
  .congr 3;rw[jbx];refine congrArg (A.sl k) (List.map_congr_left λi _=>?_);rw[<-j5,jK,Kw,hg i];rfl
end
theorem jpc{β:Type}(f:β->FuncId×Xd)(r:β->Int):∀qs:List β,(∀b∈qs,K.pureF (f b).1=true/\G (f b).1 (f b).2=some (vi (r b),[]))->askAll K (MM K) (qs.map f)=some (qs.map λb=>(vi (r b),[]))
 | [],_=>rfl
 |b::qs,h=>by
  have ih:=jpc f r qs λb' hb=>h b' (by simp[hb]);obtain⟨h1,h2⟩:=h b (by simp);rw[j5,j5];show(if K.pureF (f b).1 then(MM K (.call (f b).1 (f b).2)).bind λo=>(askAll K (MM K) (qs.map f)).bind λos=>some (o::os)else none)=_;have h2:MM K (.call (f b).1 (f b).2)=some (vi (r b),[]):=h2;rw[h1,jc6 rfl,h2,ih];rfl
theorem jq8{β:Type}(r:β->Int):∀qs:List β,Qx (qs.map λb=>(vi (r b),[]))=some (qs.map r)
 | []=>rfl
 |b::qs=>by
  rw[j5,j5,Qx,jq8 r qs];rfl
theorem jty{α γ:Type}{c:γ->γ->Int}(hc:Law3 c)(f:α->γ)(enc:α->Xd)(k:Nat)(g:FuncId)(hp:K.pureF g=true)(l:List α)(hl:l.length<4611686018427387904)(h:∀x∈l,∀y∈l,G g [.agg (enc x),.agg (enc y)]=some (vi (c (f x) (f y)),[])):∃s:List α,s.Perm l/\s.Pairwise (λa b=>¬c (f b) (f a)<0)/\extRun K (MM K) (sfE k) [V.row 0,V.fn g []] [.row k (l.map enc)]=some (.top,[.sl k (s.map enc)]):=by
 obtain⟨s,h1,h2,h3⟩:=jsI hc f enc k l hl;refine⟨s,h1,h2,?_⟩;have hq:jcU [V.row 0,V.fn g []] [.row k (l.map enc)]=some ((l.flatMap λx=>l.map λy=>(x,y)).map λq=>(g,[A.agg (enc q.1),A.agg (enc q.2)])):=by
  show some ((l.map enc).flatMap λx=>(l.map enc).map λy=>(g,[A.agg x,A.agg y]++[]))=_;congr 1;rw[List.flatMap_map,List.map_flatMap];refine congrArg (λh=>l.flatMap h) (funext λx=>?_);rw[jbx,jbx];rfl
 have ha:=jpc (λq:α×α=>(g,[A.agg (enc q.1),A.agg (enc q.2)])) (λq=>c (f q.1) (f q.2)) (l.flatMap λx=>l.map λy=>(x,y)) λq hq=>by
  obtain⟨x,hx,hq⟩:=List.mem_flatMap.1 hq;obtain⟨y,hy,rfl⟩:=jN.1 hq;exact⟨hp,h x hx y hy⟩
 have hc':((l.flatMap λx=>l.map λy=>(x,y)).map λq=>c (f q.1) (f q.2))=l.flatMap λx=>l.map λy=>c (f x) (f y):=by
  rw[List.map_flatMap];refine congrArg (λh=>l.flatMap h) (funext λx=>?_);rw[jbx];rfl
 have ho:=jq8 (λq:α×α=>c (f q.1) (f q.2)) (l.flatMap λx=>l.map λy=>(x,y));rw[hc']at ho;show(jcU [V.row 0,V.fn g []] [.row k (l.map enc)]).bind _=_;rw[hq,Option.bind_some,ha,Option.bind_some];show(if Nat.beq k k then(Qx _).bind λcs=>jcV k (l.map enc) cs else none)=_;rw[Nat.beq_refl,jc6 rfl,ho];exact h3
open Go Go.RowKit Go.Proofs.YtjgmjdidbgcljaaGreatDoor.Abs
theorem jD3:∀d:Nat,d<10->KF (sv [48,49,50,51,52,53,54,55,56,57]) (some (vi (d:Nat))) (some (vi ((d+1:Nat):Int)))=some (sv [UInt8.ofNat (48+d)])
 |0,_=>rfl|1,_=>rfl|2,_=>rfl|3,_=>rfl|4,_=>rfl|5,_=>rfl|6,_=>rfl|7,_=>rfl|8,_=>rfl|9,_=>rfl
theorem jlq:∀n:Nat,n<=1000000->G 79 [vi (n:Nat)]=some (sv (Lib.decDigits n),[]):=by
 intro n;induction n using Nat.strongRecOn with
 |ind n ih=>
  intro hn;have h0:¬((n:Nat):Int)<0:=by omega
  rw[g79];by_cases h:n<10
  .have h1:((n:Nat):Int)<10:=by omega
   have h2:ck ((n:Int)+1)=some (vi ((n+1:Nat):Int)):=jeY (by omega) (by omega);have h3:=jD3 n h;rw[jh8 h];simp only[evz,h0,h1,h2,h3]
  .have h1:¬((n:Nat):Int)<10:=by omega
   have hq:jeH .quo false (vi (n:Nat)) (vi 10)=some (vi ((n / 10:Nat):Int)):=by
    show ck (((n:Nat):Int).tdiv 10)=_;rw[Int.tdiv_eq_ediv_of_nonneg (by omega)];exact jeY (by omega) (by omega)
   have hr:jeH .rem false (vi (n:Nat)) (vi 10)=some (vi ((n % 10:Nat):Int)):=by
    show some (vi (((n:Nat):Int).tmod 10))=_;rw[Int.tmod_eq_emod_of_nonneg (by omega)];rfl
   have h2:ck (((n % 10:Nat):Int)+1)=some (vi ((n % 10+1:Nat):Int)):=jeY (by omega) (by omega);have h3:=jD3 (n % 10) (by omega);have h4:=ih (n / 10) (by omega) (by omega);have hl:(Lib.decDigits (n / 10)).length + [UInt8.ofNat (48+n % 10)].length<=9223372036854775807:=by
    have:=(jhS 6 (n / 10) (by omega)).2;simp only[yv,jgS];omega
   have h5:=jkm false (Lib.decDigits (n / 10)) [UInt8.ofNat (48+n % 10)];rw[jc6 hl]at h5;rw[jiV h];simp only[evz,h0,h1,hq,hr,h2,h3,h4,h5]
theorem jwO(n:Nat)(hn:n<=1000000):G 95 [vi (n:Nat)]=some (sv (Lib.decDigits n),[]):=by
 have:K.ext 95=some jfn:=rfl;rw[jgt this];show(if -9223372036854775808<=((n:Nat):Int)/\((n:Nat):Int)<=9223372036854775807 then some (sv (Lib.itoa (n:Nat)),[])else none)=_;rw[jc6 (by omega)];unfold Lib.itoa;rw[ko (by omega),Int.toNat_natCast]
def jjZ:Nat->Xa->Bool
 |_,[]=>true
 |i,n::r=>decide (n=jic 88 i) && jjZ (i+1) r
theorem jtY:∀(l:Xa)(i:Nat),jjZ i l=decide (l=(List.range' i l.length).map (jic 88))
 | [],i=>by simp[jjZ]
 |n::r,i=>by
  rw[jjZ,jtY r,yv,List.range'_succ,j5,<-Bool.decide_and];simp only[j8]
theorem jmg(c:Cls):jih c=jjZ 0 (jgg c):=by
 rw[jtY,<-List.range_eq_range'];rfl
theorem jEO(i:Nat)(h:i<=1000000):jeH .add false (sv [88]) (sv (Lib.decDigits i))=some (sv (jic 88 i)):=by
 rw[jkm,jc6]
 .rfl
 .have:=(jhS 6 i (by omega)).2;simp only[yv,jgS];omega
theorem jkS(c:Cls)(h:CN c):G 52 [cm c]=some (vb (jih c),[]):=by
 have hlen:=jib h;have e0:=jpR c (by have:=h.1;omega) h.rx h.tz λl hl=>by have:=(h.2 l hl).2;omega
 rw[jmg,g52];generalize jgg c=ns at *;have key:=upto (P:=λi=>jwk (strs ns) (vi (ns.length:Nat)) (vi (i:Nat))=some (vb (jjZ i (ns.drop i)),[])) (n:=ns.length) ?_ ?_ 0 (Nat.zero_le _)
 .simp only[Int.natCast_zero,List.drop_zero]at key;simp only[evz,e0,key]
 .rw [jDB,List.drop_length];simp only[evz,jjZ]
 .intro i hi ih;have hlt:(i:Int)<((ns.length:Nat):Int):=by omega
  have h5:=jef hi (by show ns.length<=9223372036854775807;omega)
  have e1:=jwO i (by omega);have e2:=jEO i (by omega);have ld:jas (.elt (cs ns[i]) 0)=some (sv ns[i]):=rfl;rw[jDB,jdb hi,jjZ];by_cases hc:ns[i]=jic 88 i
  .rw [decide_eq_true hc,Bool.true_and,<-ih];simp only[evz,hlt,jaa hi,e1,e2,hc,h5]
  .rw [decide_eq_false hc,Bool.false_and];simp only[evz,hlt,jaa hi,ld,e1,e2,hc]
theorem jj6(c:Cls)(h:CN c):G 38 [cm c]=some (vb (jih c),[]):=by
 have hlen:=jib h;have e0:=jpI c (by have:=h.1;omega) h.tz λl hl=>by have:=(h.2 l hl).2;omega
 rw[jmg,g38];generalize jgg c=ns at *;have key:=upto (P:=λi=>js3 (strs ns) (vi (i:Nat))=some (vb (jjZ i (ns.drop i)),[])) (n:=ns.length) ?_ ?_ 0 (Nat.zero_le _)
 .simp only[Int.natCast_zero,List.drop_zero]at key;simp only[evz,e0,key]
 .rw [jwS,List.drop_length];simp only[evz,jjZ]
 .intro i hi ih;have hlt:(i:Int)<((ns.length:Nat):Int):=by omega
  have h5:=jef hi (by show ns.length<=9223372036854775807;omega)
  have e1:=jlq i (by omega);have e2:=jEO i (by omega);have ld:jas (.elt (cs ns[i]) 0)=some (sv ns[i]):=rfl;rw[jwS,jdb hi,jjZ];by_cases hc:ns[i]=jic 88 i
  .rw [decide_eq_true hc,Bool.true_and,<-ih];simp only[evz,hlt,jaa hi,e1,e2,hc,h5]
  .rw [decide_eq_false hc,Bool.false_and];simp only[evz,hlt,jaa hi,ld,e1,e2,hc]
theorem jh9(c:Cls)(hl:c.length<=1048576)(hz:∀l∈c,Tz l.2):G 26 [cm c]=some (vb (jgN c),[]):=by
 have e1:=jkj c hl hz;unfold jgN;rw[g26];cases hv:jg1 c<;>rw[hv]at e1
 .simp only[evz,e1,Bool.false_and]
 .have e2:=jkS c (jhD hv).1;simp only[evz,e1,e2,Bool.true_and]
theorem jiA(c:Cls)(hl:c.length<=1048576)(hz:∀l∈c,Tz l.2):G 28 [cm c]=some (vb (jgN c),[]):=by
 have e1:=jiB c hl hz;unfold jgN;rw[g28];cases hv:jg1 c<;>rw[hv]at e1
 .simp only[evz,e1,Bool.false_and]
 .have e2:=jj6 c (jhD hv).1;simp only[evz,e1,e2,Bool.true_and]
abbrev Nm':=List (Xb×Xb)
abbrev kn(p:Xb×Xb):Xd:=[sv p.1,sv p.2]
def jhk:Nm'->Xb->Option Xb
 | [],_=>none
 |p::m,n=>if p.1=n then some p.2 else jhk m n
theorem jvB(n:Xb):∀(m:Nm')(k:Nat),∃j,qG none (sv n) (m.map kn) k=some ((jhk m n).map λr=>(j,sv r))
 | [],k=>⟨0,rfl⟩
 |p::m,k=>by
  rw[j5,jhk,qG,jEz];by_cases h:p.1=n
  .rw [jc6 h,decide_eq_true h.symm];exact⟨k,rfl⟩
  .rw [ko h,decide_eq_false (λe=>h e.symm)];exact jvB n m (k+1)
theorem jEW(m:Nm')(n:Xb):ja6 none true true [sv []] (.mp (m.map kn)) (sv n)=some (match jhk m n with|some r=>.tup [sv r,vb true]|none=>.tup [sv [],vb false]):=by
 show((some (m.map kn)).bind λxs=>(qG none (sv n) xs 0).map (jd5 true true [sv []]))=_;obtain⟨j,h⟩:=jvB n m 0;rw[Option.bind_some,h];cases jhk m n<;>rfl
theorem jDY{m:Nm'}{n:Xb}(h:jhk m n=none)(r:Xb):jeM none (m.map kn) (sv n) (sv r)=some ((m++[(n,r)]).map kn):=by
 obtain⟨j,h2⟩:=jvB n m 0;show(qG none (sv n) (m.map kn) 0).map _=_;rw[h2,h,jv];rfl
theorem jnF:∀(m:Nm')(p:Xb×Xb)(n:Xb),jhk (m++[p]) n=(match jhk m n with|some r=>some r|none=>if p.1=n then some p.2 else none)
 | [],p,n=>rfl
 |q::m,p,n=>by
  rw[jG,jhk,jhk,jnF m p n];by_cases h:q.1=n
  .rw [jc6 h,jc6 h]
  .rw [ko h,ko h]
def jiT(p:UInt8):Nat->Xa->Nm'
 |_,[]=>[]
 |i,n::r=>(n,jic p i)::jiT p (i+1) r
theorem jpM(p:UInt8)(n:Xb):∀(ns:Xa)(k:Nat),jhk (jiT p k ns) n=(ns.findIdx? λx=>decide (x=n)).map λi=>jic p (k+i)
 | [],k=>rfl
 |x::ns,k=>by
  rw[jiT,jhk,List.findIdx?_cons];by_cases h:x=n
  .rw [jc6 h,jc6 (decide_eq_true h)];rfl
  .rw [ko h,ko (by simp[h]),jpM p n ns (k+1),Option.map_map];refine congrArg (λf=>Option.map f _) (funext λi=>?_);show jic p (k+1+i)=jic p (k+(i+1));rw[show k+1+i=k+(i+1) by omega]
theorem jvg(p:UInt8)(ns:Xa):(λn=>(jhk (jiT p 0 ns) n).getD n)=jfV p ns:=by
 funext n;rw[jpM];unfold jfV;cases ns.findIdx? (λx=>decide (x=n))with
 |none=>rfl
 |some i=>show jic p (0+i)=_;rw[jfO]
theorem jt9{p:UInt8} :∀{ns:Xa}{k:Nat},(∀n∈ns,jdc n=true)-> ∀q∈jiT p k ns,jdc q.1=true
 | [],k,_,q,h=>by cases h
 |x::ns,k,hv,q,h=>by
  rw[jiT]at h;rcases yN.1 h with e|e
  .rw [e];exact hv x (by simp)
  .exact jt9 (λn hn=>hv n (by simp[hn])) q e
theorem jCL(p:UInt8)(i:Nat)(h:i<=1000000):jeH .add false (sv [p]) (sv (Lib.decDigits i))=some (sv (jic p i)):=by
 rw[jkm,jc6]
 .rfl
 .have:=(jhS 6 i (by omega)).2;simp only[yv,jgS];omega
theorem jut(p:UInt8)(ns:Xa)(hn:ns.Nodup)(hl:ns.length<=1000):G 158 [strs ns,sv [p]]=some (.mp ((jiT p 0 ns).map kn),[]):=by
 have key:=upto (P:=λi=>∀m:Nm',(∀n∈ns.drop i,jhk m n=none)->jrT (sv [p]) (strs ns) (vi (ns.length:Nat)) (vi (i:Nat)) (m.map kn)=some (.mp ((m++jiT p i (ns.drop i)).map kn),[])) (n:=ns.length) ?_ ?_ 0 (Nat.zero_le _) [] (λn _=>rfl)
 .rw [List.drop_zero]at key;simp only[Int.natCast_zero,List.map_nil,zx]at key;rw[jHG];simp only[evz,key]
 .intro m _;rw[jzU,List.drop_length,jiT,ZE];simp only[evz]
 .intro i hi ih m hm;have hlt:(i:Int)<((ns.length:Nat):Int):=by omega
  have h5:=jef hi (by show ns.length<=9223372036854775807;omega)
  have e1:=jwO i (by omega);have e2:=jCL p i (by omega);have ld:jas (.elt (cs ns[i]) 0)=some (sv ns[i]):=rfl;have hd:(ns.drop i).Nodup:=hn.sublist (List.drop_sublist i ns);rw[jdb hi]at hm hd⊢;have pt:=jDY (hm ns[i] (Q1 ..)) (jic p i);have ih:=ih (m++[(ns[i],jic p i)]) λn hn'=>by
   rw[jnF,hm n (kO _ hn')];show(if ns[i]=n then _ else none)=none;rw[ko];rintro e;exact(Q0.1 hd).1 (e ▸ hn')
  rw[jbs]at ih;rw[jzU,jiT];simp only[evz,hlt,jaa hi,ld,e1,e2,pt,h5,ih];rfl
theorem jxY{m:Nm'}(hm:∀p∈m,jdc p.1=true){n:Xb}(h:jdc n=false):jhk m n=none:=by
 induction m with
 |nil=>rfl
 |cons p m ih=>
  rw[jhk,ko,ih λq hq=>hm q (by simp[hq])];intro e;rw[<-e,hm p (by simp)]at h;cases h
theorem jvN(m:Nm')(hm:∀p∈m,jdc p.1=true):∀t:T,Rx' t->Tz t->G 135 [tm t,.mp (m.map kn)]=some (tm (jfW (λn=>(jhk m n).getD n) t),[]):=by
 refine T.ind λt ih hk ht=>?_;have hz:=ht;unfold Tz at hz;rw[jgG]at hz;have e0:=jEW m t.name;rw[jHq,jjn];cases hv:jdc t.name with
 |true=>
  have ha:=hk.va hv;rw[jc6 rfl];obtain⟨n,us⟩:=t;have ha:us=[]:=ha;subst ha;have lp:∀x:Xb,jnt (.mp (m.map kn)) (.sl 2 []) (vi 0) (vi 0) (sv []) (sv x) [] []=some (.agg [sv x,.sl 2 []],[]):=λx=>by
   rw[jvv];simp only[evz]
  have e0:ja6 none true true [sv []] (.mp (m.map kn)) (sv n)=some (match jhk m n with|some r=>.tup [sv r,vb true]|none=>.tup [sv [],vb false]):=e0;show Option.bind (jcI 2 (.agg [sv n,.sl 2 []])) _=some (A.agg [sv ((jhk m n).getD n),.sl 2 []],[]);cases hl:jhk m n with
  |none=>
   rw[hl]at e0;have lp:=lp n;simp only[evz,e0,lp,Option.getD_none,Int.natCast_zero]
  |some r=>
   rw[hl]at e0;have lp:=lp r;simp only[evz,e0,lp,jbt,Int.natCast_zero]
 |false=>
  rw[jxY hm hv]at e0;rw[ko Bool.false_ne_true];have key:=(upto (P:=λi=>jnt (.mp (m.map kn)) (tms t.args) (vi (t.args.length:Nat)) (vi i) (sv []) (sv t.name) [] (((t.args.map (jfW λn=>(jhk m n).getD n)).take i).map jdd)=some (tm (.mk t.name (t.args.map (jfW λn=>(jhk m n).getD n))),[])) (n:=t.args.length) ?_ ?_ 0 (Nat.zero_le _))
  .simp only[Int.natCast_zero,List.take_zero,List.map_nil]at key;simp only[evz,e0,key]
  .rw [jvv,jT (by rw[jbw];omega)]
   simp only[evz];rfl
  .intro i hi ih';have hlt:(i:Int)<((t.args.length:Nat):Int):=by omega
   have h5:=jef hi (by show t.args.length<=9223372036854775807;omega)
   have e2:=ih t.args[i] (jcF _) (hk.args _ (jcF _)) (ht.args _ (jcF _));have hf:jcK (i+1) 40=true:=jsB (by omega);have hi2:i<(t.args.map (jfW λn=>(jhk m n).getD n)).length:=by rw[jbw];exact hi
   have hl:(((t.args.map (jfW λn=>(jhk m n).getD n)).take i).map jdd).length=i:=by rw[jbw,List.length_take,jbw];omega
   have ha:jgo (((t.args.map (jfW λn=>(jhk m n).getD n)).take i).map jdd) [[sv (jfW (λn=>(jhk m n).getD n) t.args[i]).name,tms (jfW (λn=>(jhk m n).getD n) t.args[i]).args]]=((t.args.map (jfW λn=>(jhk m n).getD n)).take (i+1)).map jdd:=by
    rw[show[sv (jfW (λn=>(jhk m n).getD n) t.args[i]).name,tms (jfW (λn=>(jhk m n).getD n) t.args[i]).args]=jdd (jfW (λn=>(jhk m n).getD n) t.args[i]) from(jfY _).symm,List.take_add_one,jz hi2,jv,List.getElem_map];rfl
   generalize ((t.args.map (jfW λn=>(jhk m n).getD n)).take i).map jdd=R at *;generalize jfW (λn=>(jhk m n).getD n) t.args[i]=u at *;rw[jvv];simp only[evz,hlt,jaa hi,ja1,e2,hl,hf,ha,h5,ih']
theorem jus(p:UInt8)(ns:Xa)(hv:∀n∈ns,jdc n=true)(t:T)(hk:Rx' t)(ht:Tz t):G 135 [tm t,.mp ((jiT p 0 ns).map kn)]=some (tm (jfW (jfV p ns) t),[]):=by
 rw[jvN _ (jt9 hv) t hk ht,jvg]
theorem jtR(p:UInt8)(ns:Xa)(hn:ns.length<=1000):∀t:T,Tz t->G 83 [tm t,strs ns,sv [p]]=some (tm (jfW (jfV p ns) t),[]):=by
 refine T.ind λt ih ht=>?_;have hz:=ht;unfold Tz at hz;rw[jgG]at hz;have e0:=jg8 t.name (((jgM t).1 ht.wf).1);rw[g83,jjn];cases hv:jdc t.name<;>rw[hv]at e0
 .rw [ko Bool.false_ne_true];have key:=(upto (P:=λi=>jtb (strs ns) (sv [p]) (vi i) (sv t.name) (tms t.args) (sv []) (sv t.name) [] (((t.args.map (jfW (jfV p ns))).take i).map jdd)=some (tm (.mk t.name (t.args.map (jfW (jfV p ns)))),[])) (n:=t.args.length) ?_ ?_ 0 (Nat.zero_le _))
  .simp only[Int.natCast_zero,List.take_zero,List.map_nil]at key;simp only[evz,e0,key]
  .rw [jw1,jT (by rw[jbw];omega)]
   simp only[evz];rfl
  .intro i hi ih';have hlt:(i:Int)<((t.args.length:Nat):Int):=by omega
   have h5:=jef hi (by show t.args.length<=9223372036854775807;omega)
   have e2:=ih t.args[i] (jcF _) (ht.args _ (jcF _));have hf:jcK (i+1) 40=true:=jsB (by omega);have hi2:i<(t.args.map (jfW (jfV p ns))).length:=by rw[jbw];exact hi
   have hl:(((t.args.map (jfW (jfV p ns))).take i).map jdd).length=i:=by rw[jbw,List.length_take,jbw];omega
   have ha:jgo (((t.args.map (jfW (jfV p ns))).take i).map jdd) [[sv (jfW (jfV p ns) t.args[i]).name,tms (jfW (jfV p ns) t.args[i]).args]]=((t.args.map (jfW (jfV p ns))).take (i+1)).map jdd:=by
    rw[show[sv (jfW (jfV p ns) t.args[i]).name,tms (jfW (jfV p ns) t.args[i]).args]=jdd (jfW (jfV p ns) t.args[i]) from(jfY _).symm,List.take_add_one,jz hi2,jv,List.getElem_map];rfl
   generalize ((t.args.map (jfW (jfV p ns))).take i).map jdd=R at *;generalize jfW (jfV p ns) t.args[i]=u at *;rw[jw1];simp only[evz,hlt,jaa hi,ja1,e2,hl,hf,ha,h5,ih']
 .rw [jc6 rfl];have key:=(upto (P:=λi=>(∀j,(h:j<i)-> ∀h':j<ns.length,ns[j]≠t.name)->jta (strs ns) (sv [p]) (vi i) (sv t.name) (tms t.args) (sv []) []=some (tm (.mk (jfV p ns t.name) []),[])) (n:=ns.length) ?_ ?_ 0 (Nat.zero_le _)) (λj h=>by omega)
  .simp only[Int.natCast_zero]at key;simp only[evz,e0,key]
  .intro hall;have:jfV p ns t.name=t.name:=by
    unfold jfV;have:ns.findIdx? (λx=>decide (x=t.name))=none:=by
     rw[List.findIdx?_eq_none_iff];intro x hx;obtain⟨j,hj,rfl⟩:=List.mem_iff_getElem.1 hx;simpa using hall j hj hj
    rw[this]
   rw[jw0,this];simp only[evz];rfl
  .intro i hi ih' hall;have hlt:(i:Int)<((ns.length:Nat):Int):=by omega
   have h5:=jef hi (by show ns.length<=9223372036854775807;omega)
   have ld:jas (.elt (cs ns[i]) 0)=some (sv ns[i]):=rfl;rw[jw0];by_cases he:ns[i]=t.name
   .have e1:=jlq i (by omega);have e2:=jCL p i (by omega);have:jfV p ns t.name=jic p i:=by
     unfold jfV;have:ns.findIdx? (λx=>decide (x=t.name))=some i:=by
      rw[List.findIdx?_eq_some_iff_getElem];exact⟨hi,by simp[he],λj hj=>by simpa using hall j hj (by omega)⟩
     rw[this]
    rw[this];simp only[evz,hlt,jaa hi,he,e1,e2];rfl
   .have ih':=ih' λj hj hj'=>by
     by_cases h:j=i
     .subst h;exact he
     .exact hall j (by omega) hj'
    simp only[evz,hlt,jaa hi,ld,he,h5,ih']
theorem jjg{n:Nat}(h:n<=1000000):jcK n 48=true:=by
 unfold jcK;exact decide_eq_true ⟨by omega,by omega⟩
theorem jjI{α:Type}{f:α->Xd}{xs:List α}{i:Nat}(h:i<xs.length):jgo ((xs.take i).map f) [f xs[i]]=(xs.take (i+1)).map f:=by
 rw[List.take_add_one,jz h,jv];rfl
theorem take_len{α:Type}{f:α->Xd}{xs:List α}{i:Nat}(h:i<=xs.length):((xs.take i).map f).length=i:=by rw[jbw,List.length_take];omega
noncomputable def eqL(a b:Lt):Bool:=decide (a.1=b.1) && dq a.2 b.2
theorem jmQ(a b:Lt):eqL a b=true↔a=b:=by
 obtain⟨p,t⟩:=a;obtain⟨q,u⟩:=b;unfold eqL;rw[Yn,Q5,jiI,Yl]
theorem jly(a b:Lt)(ha:Tz a.2)(hb:Tz b.2):G 181 [ltm a,ltm b]=some (vb (eqL a b),[]):=by
 have e1:=jhE a.2 ha.wf b.2 hb.wf;unfold eqL;rw[jHX];by_cases h:a.1=b.1
 .rw [decide_eq_true h,Bool.true_and];simp only[evz,h,e1]
 .rw [decide_eq_false h,Bool.false_and];simp only[evz,h]
theorem jlg(l:Lt)(h:Tz l.2):G 178 [ltm l]=some (ltm l,[]):=by
 have e1:=jjS l.2 h;rw[jHW];simp only[evz,e1];generalize hB:JY _ _ _=B;have hB':B=some (ltm l):=by rw[<-hB];kernel_rfl
 rw[hB'];simp only[evz]
noncomputable def cpG:Lt->List Lt->List Lt
 |_,[]=>[]
 |p,b::l=>if eqL b p then cpG b l else b::cpG b l
theorem jtv:∀(l:List Lt)(a:Lt),jmN eqL (a::l)=a::cpG a l
 | [],a=>rfl
 |b::l,a=>by
  rw[jmN,jtv l b,cpG];show(if eqL a b then b::cpG b l else a::b::cpG b l)=_;by_cases h:a=b
  .subst h;rw[jc6 ((jmQ a a).2 rfl),jc6 ((jmQ a a).2 rfl)]
  .rw [ko (λe=>h ((jmQ a b).1 e)),ko (λe=>h ((jmQ b a).1 e).symm)]
theorem jGr{α:Type}{f:α->Xd}{xs:List α}{i:Nat}(h:i<xs.length)(n:Nat):jeb (xs.map f) i 0 n=some (.agg ((f xs[i]).take n)):=by unfold jeb;simp[h]
theorem jnd{xs:List Lt}{i:Nat}(h:i<xs.length):jeb (xs.map ltc) i 0 3=some (ltm xs[i]):=jGr h 3
theorem jAL{α:Type}{f:α->Xd}{xs:List α}{i:Nat}(h:i<xs.length):pIx (ja9 (xs.map f)) (vi (i:Nat))=some i:=by
 rw[jp4,jbw];exact jg7 h
theorem jpo{α:Type}{R s:List α}{k i:Nat}(h:R.drop k=s.drop k)(hk:k<=i)(hi:i<R.length)(hs:i<s.length):R[i]=s[i]:=by
 have:=congrArg (λl=>l[i-k]?) h;simp only[jR,show k+(i-k)=i by omega,jz hi,jz hs]at this;exact QW this
theorem jzc(s:List Lt)(hl:s.length<=1000000)(hz:∀x∈s,Tz x.2)(k:Nat)(hk:k<s.length):∀j,j<=s.length-k->1<=j-> ∀(w:Nat)(R:List Lt),R.length=s.length->R.drop (k+j-1)=s.drop (k+j-1)->w+1<=k+j-> ∀p:Lt,(∃h:k+j-1<s.length,s[k+j-1]=p)->
  jlb (vi (w:Nat)) (nA k) (nA (s.length-k)) (vi (j:Nat)) (R.map ltc)=some (.top,[.sl 3 ((R.take w++cpG p (s.drop (k+j))).map ltc)]):=by
 refine upto ?_ ?_
 .intro _ w R hR hag hw p hp;have hd:s.drop (k+(s.length-k))=[]:=List.drop_eq_nil_of_le (by omega);have hlt:¬((s.length-k:Nat):Int)<((s.length-k:Nat):Int):=by omega
  have hlt':jeH .lss false (vi ((s.length-k:Nat):Int)) (nA (s.length-k))=some (vb false):=by
   show some (vb (decide _))=_;rw[decide_eq_false hlt]
  have b1:pB (jbR (R.map ltc)) (jfy (R.map ltc) 0) none=some R.length:=by
   rw[jhP,show jfy (R.map ltc) 0=R.length by rw[jhW,jbw];rfl];exact jg6 (jl _)
  have b2:pB 0 R.length (some (vi (w:Nat)))=some w:=jhY (by omega);have ln:(yL (R.map ltc) (0+w) (jcP (jgk R.length w) [vb false,sv [],.sl 2 []])).length=R.length:=by
   rw[jkn];simp[jcP,jhJ];omega
  have b3:pB (jbR (yL (R.map ltc) (0+w) (jcP (jgk R.length w) [vb false,sv [],.sl 2 []]))) (jfy (yL (R.map ltc) (0+w) (jcP (jgk R.length w) [vb false,sv [],.sl 2 []])) 0) (some (vi (w:Nat)))=some w:=by
   rw[jsC,jhW,ln];exact jhY (by omega)
  have tk:List.take (jgk w 0) (yL (R.map ltc) (0+w) (jcP (jgk R.length w) [vb false,sv [],.sl 2 []]))=(R.take w).map ltc:=by
   rw[jkn,jhJ,Nat.sub_zero,jfO,jbs,qL (by rw[List.length_take,jbw];omega),List.take_take,Nat.min_self,List.map_take]
  have h1:nOf (nA (s.length-k))=s.length-k:=rfl;rw[jtP];simp only[cev];rw[hd,cpG,ZE,h1,hlt'];simp only[Option.bind_some,jjE,jjp,b1,b2,b3,tk]
 .intro j hj ih hj1 w R hR hag hw p hp;obtain⟨hp1,hp2⟩:=hp;have hi:k+j<s.length:=by omega
  have hlt':jeH .lss false (vi ((j:Nat):Int)) (nA (s.length-k))=some (vb true):=by
   show some (vb (decide (((j:Nat):Int)<((s.length-k:Nat):Int))))=_;rw[decide_eq_true (by omega)]
  have h1:nOf (nA (s.length-k))=s.length-k:=rfl;have h2:nOf (nA k)=k:=rfl;have x1:pIx (s.length-k) (vi ((j:Nat):Int))=some j:=jg7 hj;have c1:jeH .sub false (vi ((j:Nat):Int)) (vi 1)=some (vi ((j-1:Nat):Int)):=by
   rw[jt5,show((j:Nat):Int)-1=((j-1:Nat):Int) by omega];exact jeY (by omega) (by omega)
  have x2:pIx (s.length-k) (vi ((j-1:Nat):Int))=some (j-1):=jg7 (by omega);have a1:R[k+j]'(by omega)=s[k+j]:=jpo hag (by omega) (by omega) hi;have a2:R[k+(j-1)]'(by omega)=p:=by
   rw[<-hp2];have:=jpo hag (i:=k+(j-1)) (by omega) (by omega) (by omega);rw[this];congr 1;omega
  have r1:jeb (R.map ltc) (k+j) 0 3=some (ltm s[k+j]):=by rw[jnd (by omega),a1]
  have r2:jeb (R.map ltc) (k+(j-1)) 0 3=some (ltm p):=by rw[jnd (by omega),a2]
  have zp:Tz p.2:=by rw[<-hp2];exact hz _ (jcF _)
  have e1:=jly s[k+j] p (hz _ (jcF _)) zp;have h5:jeH .add false (vi ((j:Nat):Int)) (vi 1)=some (vi ((j+1:Nat):Int)):=jef (i:=j) (n:=j+1) (by omega) (by omega);have hdr:s.drop (k+j)=s[k+j]::s.drop (k+(j+1)):=jdb hi;have hag':R.drop (k+(j+1)-1)=s.drop (k+(j+1)-1):=by
   have:=congrArg (List.drop 1) hag;rw[List.drop_drop,List.drop_drop]at this;rwa[show k+j-1+1=k+(j+1)-1 by omega]at this
  have hx:∃h:k+(j+1)-1<s.length,s[k+(j+1)-1]=s[k+j]:=⟨by omega,by congr 1⟩;rw[jtP];simp only[cev];rw[hdr,cpG,h1,h2,hlt'];cases hq:eqL s[k+j] p<;>rw[hq]at e1
  .rw [ko Bool.false_ne_true];have x3:pIx R.length (vi (w:Nat))=some w:=jg7 (by omega);have rg:jfx (R.map ltc) w=some (ltc (R[w]'(by omega))):=by unfold jfx;simp[show w<R.length by omega]
   have co:∀x y:Lt,jfg (ltc x) 0 [vb y.1,sv y.2.name,tms y.2.args]=ltc y:=λx y=>rfl;have rs:jau (R.map ltc) w (ltc s[k+j])=(R.set w s[k+j]).map ltc:=by unfold jau;rw[List.map_set]
   have h6:jeH .add false (vi ((w:Nat):Int)) (vi 1)=some (vi ((w+1:Nat):Int)):=jef (i:=w) (n:=w+1) (by omega) (by omega);have:=ih (by omega) (w+1) (R.set w s[k+j]) (by rw[QX];exact hR) (by rw[List.drop_set_of_lt (by omega)];exact hag') (by omega) s[k+j] hx;have tk:(R.set w s[k+j]).take (w+1)=R.take w++[s[k+j]]:=by
    rw[List.take_add_one,List.take_set_of_le (jl _),List.getElem?_set_self (by omega)];rfl
   rw[tk,jbs]at this;simp only[evz,x1,r1,c1,x2,r2,e1,x3,rg,co,rs,h6,h5];rw[this];rfl
  .rw [jc6 rfl];have:=ih (by omega) w R hR hag' (by omega) s[k+j] hx;simp only[evz,x1,r1,c1,x2,r2,e1,h5];exact this
theorem jzb(s:List Lt)(hl:s.length<=1000000)(hz:∀x∈s,Tz x.2):∀k,k<=s.length->1<=k-> ∀p:Lt,(∃h:k-1<s.length,s[k-1]=p)->jmA (vi (k:Nat)) (s.map ltc)=some (.top,[.sl 3 ((s.take k++cpG p (s.drop k)).map ltc)]):=by
 refine upto ?_ ?_
 .intro _ p _;rw[jtO,List.drop_length,cpG,ZE,List.take_length];simp only[evz]
 .intro k hk ih hk1 p hp;obtain⟨hp1,hp2⟩:=hp;have hlt:((k:Nat):Int)<((s.length:Nat):Int):=by omega
  have x1:pIx (ja9 (s.map ltc)) (vi (k:Nat))=some k:=jAL hk;have c1:ck (((k:Nat):Int)-1)=some (vi ((k-1:Nat):Int)):=by
   rw[show((k:Nat):Int)-1=((k-1:Nat):Int) by omega];exact jeY (by omega) (by omega)
  have x2:pIx (ja9 (s.map ltc)) (vi ((k-1:Nat):Int))=some (k-1):=jAL hp1;have r1:=jnd hk;have r2:jeb (s.map ltc) (k-1) 0 3=some (ltm p):=by rw[jnd hp1,hp2]
  have zp:Tz p.2:=by rw[<-hp2];exact hz _ (jcF _)
  have e1:=jly s[k] p (hz _ (jcF _)) zp;have h5:=jef hk (by show s.length<=9223372036854775807;omega);rw[jtO,jdb hk,cpG];rw[jp4,jbw]at x1 x2;cases hq:eqL s[k] p<;>rw[hq]at e1
  .have ih:=ih (by omega) s[k] ⟨by omega,by congr 1⟩;rw[List.take_add_one,jz hk,jbs]at ih;rw[ko Bool.false_ne_true];simp only[evz,hlt,x1,r1,c1,x2,r2,e1,h5];exact ih
  .have b1:pB (jbR (s.map ltc)) (jfy (s.map ltc) 0) none=some s.length:=by
    rw[jhP,show jfy (s.map ltc) 0=s.length by rw[jhW,jbw];rfl];exact jg6 (jl _)
   have b2:pB 0 s.length (some (vi (k:Nat)))=some k:=jhY (by omega);have:=jzc s hl hz k hk 1 (by omega) (jl _) k s rfl rfl (jl _) s[k] ⟨by omega,rfl⟩;rw[jc6 rfl];simp only[evz,hlt,x1,r1,c1,x2,r2,e1,b1,b2,jhJ];exact this
theorem jvk(s:List Lt)(hl:s.length<=1000000)(hz:∀x∈s,Tz x.2):jvb (s.map ltc)=some (.top,[.sl 3 ((jmN eqL s).map ltc)]):=by
 rw[jEr]
 match s,hl,hz with
 | [],_,_=>simp only[evz];rfl
 | [a],_,_=>simp only[evz];rfl
 |a::b::r,hl,hz=>
  have:=jzb (a::b::r) hl hz 1 (by simp) (jl _) a ⟨by simp,rfl⟩;rw[jtv];have hlt:¬(((a::b::r).length:Nat):Int)<2:=by simp only[yv];omega
  generalize hx:a::b::r=x at *;simp only[evz,hlt];rw[<-hx]at this⊢;exact this
theorem jyl(l:List Lt)(hl:l.length<=1000000)(hk:∀x∈l,Rx' x.2)(hz:∀x∈l,Tz x.2):∃s:List Lt,s.Perm l/\s.Pairwise (λa b=>¬cmpL b a<0)/\jva (l.map ltc)=some (.top,[.sl 3 (s.map ltc)]):=by
 obtain⟨s,h1,h2,h3⟩:=jty jhX id ltc 3 93 rfl l (by omega) λx hx y hy=>jjx x y (hk x hx) (hz x hx) (hk y hy) (hz y hy);exact⟨s,h1,h2,by rw[jEq];exact h3⟩
theorem jnV(l:List Lt)(hl:l.length<=1000000)(hk:∀x∈l,Rx' x.2)(hz:∀x∈l,Tz x.2):G 136 [.sl 3 (l.map ltc)]=some (cm (jhe cmpL l),[]):=by
 obtain⟨s,h1,h2,h3⟩:=jyl l hl hk hz;have h4:=jvk s (by rw[h1.length_eq];exact hl) λx hx=>hz x (h1.mem_iff.1 hx);rw[jCH jhX jmQ h2 λx=>h1.mem_iff]at h4;have key:=upto (P:=λi=>jrN (.sl 3 (l.map ltc)) (vi (l.length:Nat)) (vi (i:Nat)) [] ((l.take i).map ltc)=some (cm (jhe cmpL l),[])) (n:=l.length) ?_ ?_ 0 (Nat.zero_le _)
 .simp only[Int.natCast_zero,List.take_zero,List.map_nil]at key;rw[jHr];simp only[evz,key]
 .have r1:∀s:List Lt,hR 3 (A.top,[.sl 3 (s.map ltc)]) 0=some (s.map ltc):=λs=>rfl;rw[jzP,List.take_length];simp only[evz,h3,r1,h4]
 .intro i hi ih;have hlt:(i:Int)<((l.length:Nat):Int):=by omega
  have h5:=jef hi (by show l.length<=9223372036854775807;omega)
  have e1:=jlg l[i] (hz _ (jcF _));have ta:=jjI (f:=ltc) hi;have tl:=take_len (f:=ltc) (Nat.le_of_lt hi);have hf:jcK (i+1) 48=true:=jjg (by omega);generalize (l.take i).map ltc=R at *;rw[jzP];simp only[evz,hlt,jaa hi,jgV,e1,tl,hf,ta,h5,ih]
theorem jqr(l:Cls)(hl:l.length<=1000000)(hz:∀x∈l,Tz x.2):G 157 [cm l]=some (cm l,[]):=by
 have key:=upto (P:=λi=>jrS (.sl 3 (l.map ltc)) (vi (l.length:Nat)) (vi (i:Nat)) [] ((l.take i).map ltc)=some (cm l,[])) (n:=l.length) ?_ ?_ 0 (Nat.zero_le _)
 .simp only[Int.natCast_zero,List.take_zero,List.map_nil]at key;rw[jHF];simp only[evz,key]
 .rw [jzT,List.take_length];simp only[evz]
 .intro i hi ih;have hlt:(i:Int)<((l.length:Nat):Int):=by omega
  have h5:=jef hi (by show l.length<=9223372036854775807;omega)
  have e1:=jlg l[i] (hz _ (jcF _));have ta:=jjI (f:=ltc) hi;have tl:=take_len (f:=ltc) (Nat.le_of_lt hi);have hf:jcK (i+1) 48=true:=jjg (by omega);generalize (l.take i).map ltc=R at *;rw[jzT];simp only[evz,hlt,jaa hi,jgV,e1,tl,hf,ta,h5,ih]
theorem jtC(c:Cls)(hl:c.length<=1048576)(hz:∀l∈c,Tz l.2):G 156 [cm c]=jjl (if jg1 c then some c else none):=by
 have e1:=jkj c hl hz;rw[jHE];cases hv:jg1 c<;>rw[hv]at e1
 .rw [ko Bool.false_ne_true];simp only[evz,e1];rfl
 .rw [jc6 rfl];simp only[evz,e1];rfl
noncomputable def sameC(a b:Cls):Bool:=dq a b
theorem jxn{α:Type}{p:α->Bool}{l:List α}{k:Nat}(hk:k<=l.length)(h1:∀j,(h:j<k)-> ∀h':j<l.length,p l[j]=true)(h2:(∃h:k<l.length,p l[k]=false)\/k=l.length):l.takeWhile p=l.take k/\l.dropWhile p=l.drop k:=by
 have hp:∀a∈l.take k,p a=true:=λa ha=>by
  obtain⟨j,hj,rfl⟩:=List.mem_iff_getElem.1 ha;rw[List.length_take]at hj;rw[List.getElem_take];exact h1 j (by omega) (by omega)
 have e:=List.takeWhile_append_of_pos (l₂:=l.drop k) hp;have e':=List.dropWhile_append_of_pos (l₂:=l.drop k) hp;rw[Q3]at e e';rw[e,e'];rcases h2 with⟨h,h2⟩|h
 .rw [jdb h,List.takeWhile_cons_of_neg (by simp[h2]),List.dropWhile_cons_of_neg (by simp[h2]),ZE];exact⟨rfl,rfl⟩
 .rw [h,List.drop_length];simp
theorem joK(u:List Lt)(hl:u.length<=900000)(i:Nat)(hi:i<=u.length)(x:Lt) :
  pB (jbR (u.map ltc)) (jfy (u.map ltc) 0) (some (vi (i:Nat)))=some i/\jgq (u.map ltc) 0 (jgk i 0)=(u.take i).map ltc/\jcK (u.take i).length 48=true/\pB (jbR (u.map ltc)) (jfy (u.map ltc) 0) none=some u.length/\pB 0 u.length (some (vi (i:Nat)))=some i/\jgq (u.map ltc) i (jgk u.length i)=(u.drop i).map ltc/\
  jcK ((u.take i).length+1) 48=true/\jcK ((jgo ((u.take i).map ltc) [ltc x]).length+((u.drop i).map ltc).length) 48=true/\jgo (jgo ((u.take i).map ltc) [ltc x]) ((u.drop i).map ltc)=(u.take i++x::u.drop i).map ltc:=by
 have e1:jbR (u.map ltc)=u.length:=jhP ltc u;have e2:jfy (u.map ltc) 0=u.length:=by rw[jhW,jbw];rfl
 refine⟨by rw[e1,e2];exact jhY hi,by rw[jnc,jhJ,Nat.sub_zero,List.drop_zero,List.map_take],?_,by rw[e1,e2];exact jg6 (jl _),jhY hi,?_,?_,?_,?_⟩
 .rw [List.length_take];exact jjg (by omega)
 .rw [jnc,jhJ,<-List.map_drop,jT (by rw[jbw,List.length_drop];omega)]
 .rw [List.length_take];exact jjg (by omega)
 .exact jjg (by unfold jgo;rw[yM,jbw,jbw,List.length_take,List.length_drop];simp only[yv,jgS];omega)
 .unfold jgo;rw[jv,jbs];rfl
theorem jtU(l:List Lt)(hl:l.length<=1000)(hz:∀x∈l,Tz x.2)(i:Nat)(hi:i<l.length)(u:List Lt)(hu:u.length<=1000)(hzu:∀x∈u,Tz x.2):∀k,k<=u.length->(∀j,(h:j<k)-> ∀h':j<u.length,cmpL u[j] l[i]<0)->
  jwc (.sl 3 (l.map ltc)) (vi (i:Nat)) (vi (k:Nat)) (u.map ltc) []=jqC (.sl 3 (l.map ltc)) (vi ((i+1:Nat):Int)) ((jje cmpL u l[i]).map ltc) []:=by
 have h5:=jef hi (by show l.length<=9223372036854775807;omega)
 have ld:∀l:Lt,jas (.elt (ltc l) 0)=some (vb l.1):=λl=>rfl;have ad:∀(l:Lt)(n:Nat),jeG (.elt (ltc l) 0) n=some (.elt (ltc l) n):=λl n=>by rw[jhj,jfO]
 have ld2:∀l:Lt,jar 2 (.elt (ltc l) 1)=some (tm l.2):=λl=>rfl;have e2:=jkL l[i].2 (hz _ (jcF _));have hck:ck ((i:Int)+1)=some (vi ((i+1:Nat):Int)):=jeY (by omega) (by omega);refine upto ?_ ?_
 .intro hall;obtain⟨t1,t2⟩:=jxn (p:=λa=>decide (cmpL a l[i]<0)) (jl u.length) (λj h h'=>decide_eq_true (hall j h h')) (Or.inr rfl);obtain⟨k1,k2,k3,k4,k5,k6,k7,k8,k9⟩:=joK u (by omega) u.length (jl _) l[i];have hins:jje cmpL u l[i]=u.take u.length++l[i]::u.drop u.length:=by
   unfold jje;rw[t1,t2,List.drop_length,ko (by simp)]
  rw[hins,jDp];simp only[cev];have hlt:jeH .lss false (vi (u.length:Nat)) (jbS (u.map ltc))=some (vb false):=by
   rw[jnb,jbw,jm8,decide_eq_false (by omega)]
  simp only[hlt,Option.bind_some,jt8,jAK,JG,if_false,decide_false,jpZ,jjE,jjp,jaa hi,ad,ld,ld2];simp only[evz,e2];generalize hB:JY _ _ _=B;have hB':B=some (ltm l[i]):=by rw[<-hB];kernel_rfl
  rw[hB'];simp only[evz,k1,k2,k4,k5];rw[jc6 k3,jc6 k7,k6,jc6 k8,hck,Option.bind_some,k9]
 .intro k hk ih hall;have hlt:((k:Nat):Int)<((u.length:Nat):Int):=by omega
  have x1:pIx u.length (vi (k:Nat))=some k:=jg7 hk;have r1:=jnd hk;have e1:=jj7 u[k] l[i] (hzu _ (jcF _)) (hz _ (jcF _));rw[jDp];by_cases hc:cmpL u[k] l[i]<0
  .have ih:=ih λj h h'=>by
    by_cases hj:j=k
    .subst hj;exact hc
    .exact hall j (by omega) h'
   have hk1:ck ((k:Int)+1)=some (vi ((k+1:Nat):Int)):=jeY (by omega) (by omega);generalize cmpL u[k] l[i]=d at *;simp only[evz,hlt,x1,r1,jaa hi,jgV,e1,hc,hk1];exact ih
  .obtain ⟨t1,t2⟩:=jxn (p:=λa=>decide (cmpL a l[i]<0)) (Nat.le_of_lt hk) (λj h h'=>decide_eq_true (hall j h h')) (Or.inl ⟨hk,decide_eq_false hc⟩);have hins:jje cmpL u l[i]=if cmpL u[k] l[i]=0 then u else u.take k++l[i]::u.drop k:=by
    unfold jje;rw[t1,t2,jdb hk];by_cases h0:cmpL u[k] l[i]=0
    .rw [jc6 h0];exact jc6 (decide_eq_true h0)
    .rw [ko h0];exact ko (λe=>h0 (of_decide_eq_true e))
   rw[hins];by_cases h0:cmpL u[k] l[i]=0
   .rw [jc6 h0];rw[h0]at e1;simp only[evz,hlt,x1,r1,jaa hi,jgV,e1,hck]
   .obtain ⟨k1,k2,k3,k4,k5,k6,k7,k8,k9⟩:=joK u (by omega) k (Nat.le_of_lt hk) l[i];rw[ko h0];generalize cmpL u[k] l[i]=d at *;simp only[evz,hlt,x1,r1,jaa hi,jgV,e1,hc,h0,ad,ld,ld2,e2];generalize hB:JY _ _ _=B;have hB':B=some (ltm l[i]):=by rw[<-hB];kernel_rfl
    rw[hB'];simp only[evz,k1,k2,k4,k5];rw[jc6 k3,jc6 k7,k6,jc6 k8,hck,Option.bind_some,k9]
theorem jtD{u:List Lt}(hu:Asc cmpL u)(x:Lt){y:Lt} :y∈jje cmpL u x↔y∈u\/y=x:=(jmV jhX hu x).2 y
theorem jiY(l:List Lt)(hl:l.length<=900)(hz:∀x∈l,Tz x.2):G 14 [.sl 3 (l.map ltc)]=some (cm (jhe cmpL l),[]):=by
 have key:=upto (P:=λi=>∀u:List Lt,Asc cmpL u->u.length<=i->(∀x∈u,Tz x.2)->jqC (.sl 3 (l.map ltc)) (vi (i:Nat)) (u.map ltc) []=some (cm ((l.drop i).foldl (jje cmpL) u),[])) (n:=l.length) ?_ ?_ 0 (Nat.zero_le _) [] List.Pairwise.nil (jl _) (λx h=>by cases h)
 .rw [List.drop_zero]at key;simp only[Int.natCast_zero,List.map_nil]at key;rw[g14,key];rfl
 .intro u _ _ _;rw[jDo,List.drop_length];simp only[evz];rfl
 .intro i hi ih u ha hu hzu;have hlt:(i:Int)<((l.length:Nat):Int):=by omega
  have:=jtU l (by omega) hz i hi u (by omega) hzu 0 (Nat.zero_le _) (λj h=>absurd h (Nat.not_lt_zero _));simp only[Int.natCast_zero]at this;have h2:=ih (jje cmpL u l[i]) (jmV jhX ha l[i]).1 (by have:=jps cmpL u l[i];omega) λx hx=>by
   rcases(jtD ha l[i]).1 hx with h|h
   .exact hzu x h
   .rw [h];exact hz _ (jcF _)
  rw[jDo,jdb hi,List.foldl_cons];simp only[evz,hlt,this,h2]
theorem CN.ren_tz{p:UInt8}(hp:upc p=true){c:Cls}(h:CN c):∀x∈c.map (λl=>(l.1,jfW (jfV p (jgg c)) l.2)),Rx' x.2/\Tz x.2:=λx hx=>⟨(h.ren hp x hx).1.rx,(h.ren hp x hx).1.tz (by have:=(h.ren hp x hx).2;omega)⟩
theorem jl5(p:UInt8)(c:Cls)(h:CN c)(ns:Xa)(hn:∀n∈ns,jdc n=true)(hr:∀x∈c.map (λl=>(l.1,jfW (jfV p ns) l.2)),Rx' x.2/\Tz x.2):G 96 [cm c,.mp ((jiT p 0 ns).map kn)]=some (cm (jhe cmpL (c.map λl=>(l.1,jfW (jfV p ns) l.2))),[]):=by
 have h8:=h.1;have e3:=jnV (c.map λl=>(l.1,jfW (jfV p ns) l.2)) (by rw[jbw];omega) (λx hx=>(hr x hx).1) λx hx=>(hr x hx).2;generalize hd:c.map (λl=>(l.1,jfW (jfV p ns) l.2))=d at *;have hdl:d.length=c.length:=by rw[<-hd,jbw]
 have key:=upto (P:=λi=>jwu (.mp ((jiT p 0 ns).map kn)) (.sl 3 (c.map ltc)) (vi (c.length:Nat)) (vi (i:Nat)) ((d.take i).map ltc) []=some (cm (jhe cmpL d),[])) (n:=c.length) ?_ ?_ 0 (Nat.zero_le _)
 .simp only[Int.natCast_zero,List.take_zero,List.map_nil]at key;rw[g96];simp only[evz,key]
 .rw [jDS,<-hdl,List.take_length];simp only[evz,e3]
 .intro i hi ih;have hi2:i<d.length:=by omega
  have hlt:(i:Int)<((c.length:Nat):Int):=by omega
  have h5:=jef hi (by show c.length<=9223372036854775807;omega)
  have e1:=jus p ns hn c[i].2 (h.rx _ (jcF _)) (h.tz _ (jcF _));have hdi:d[i]=(c[i].1,jfW (jfV p ns) c[i].2):=by simp only[<-hd,List.getElem_map]
  have ta:=jjI (f:=ltc) hi2;have tl:=take_len (f:=ltc) (Nat.le_of_lt hi2);have hf:jcK (i+1) 48=true:=jjg (by omega);rw[hdi]at ta;generalize (d.take i).map ltc=R at *;generalize jfW (jfV p ns) c[i].2=u at *;rw[jDS];simp only[evz,hlt,jaa hi,jgV,e1];generalize hB:JY _ _ _=B;have hB':B=some (ltm (c[i].1,u)):=by rw[<-hB];kernel_rfl
  rw[hB'];have hck:ck ((i:Int)+1)=some (vi ((i+1:Nat):Int)):=jeY (by omega) (by omega);simp only[evz,tl,hf,ta,hck,ih]
theorem jsv(p:UInt8)(c:Cls)(h:CN c)(ns:Xa)(hl:ns.length<=1000)(hr:∀x∈c.map (λl=>(l.1,jfW (jfV p ns) l.2)),Rx' x.2/\Tz x.2):G 39 [cm c,strs ns,sv [p]]=some (cm (jhe cmpL (c.map λl=>(l.1,jfW (jfV p ns) l.2))),[]):=by
 have h8:=h.1;have e3:=jiY (c.map λl=>(l.1,jfW (jfV p ns) l.2)) (by rw[jbw];omega) (λx hx=>(hr x hx).2);generalize hd:c.map (λl=>(l.1,jfW (jfV p ns) l.2))=d at *;have hdl:d.length=c.length:=by rw[<-hd,jbw]
 have key:=upto (P:=λi=>js4 (strs ns) (sv [p]) (vi (i:Nat)) (.sl 3 (c.map ltc)) ((d.take i).map ltc) []=some (cm (jhe cmpL d),[])) (n:=c.length) ?_ ?_ 0 (Nat.zero_le _)
 .simp only[Int.natCast_zero,List.take_zero,List.map_nil]at key;rw[g39];simp only[evz,key]
 .rw [jwT,<-hdl,List.take_length];have hlt:¬((d.length:Nat):Int)<((c.length:Nat):Int):=by omega
  simp only[evz,hlt,e3]
 .intro i hi ih;have hi2:i<d.length:=by omega
  have hlt:(i:Int)<((c.length:Nat):Int):=by omega
  have h5:=jef hi (by show c.length<=9223372036854775807;omega)
  have e1:=jtR p ns hl c[i].2 (h.tz _ (jcF _));have hdi:d[i]=(c[i].1,jfW (jfV p ns) c[i].2):=by simp only[<-hd,List.getElem_map]
  have ta:=jjI (f:=ltc) hi2;have tl:=take_len (f:=ltc) (Nat.le_of_lt hi2);have hf:jcK (i+1) 48=true:=jjg (by omega);have ld:∀l:Lt,jas (.elt (ltc l) 0)=some (vb l.1):=λl=>rfl;have ad:∀(l:Lt)(n:Nat),jeG (.elt (ltc l) 0) n=some (.elt (ltc l) n):=λl n=>by rw[jhj,jfO]
  have ld2:∀l:Lt,jar 2 (.elt (ltc l) 1)=some (tm l.2):=λl=>rfl;rw[hdi]at ta;generalize (d.take i).map ltc=R at *;generalize jfW (jfV p ns) c[i].2=u at *;rw[jwT];simp only[evz,hlt,jaa hi,ad,ld,ld2,e1];generalize hB:JY _ _ _=B;have hB':B=some (ltm (c[i].1,u)):=by rw[<-hB];kernel_rfl
  rw[hB'];have hck:ck ((i:Int)+1)=some (vi ((i+1:Nat):Int)):=jeY (by omega) (by omega);simp only[evz,tl,hf,ta,hck,ih]
theorem jnQ(p:UInt8)(hp:upc p=true)(c:Cls)(h:CN c):G 96 [cm c,.mp ((jiT p 0 (jgg c)).map kn)]=some (cm (renC p c),[]):=jl5 p c h (jgg c) (λn=>jmm) (h.ren_tz hp)
theorem jn4(p:UInt8)(hp:upc p=true)(c:Cls)(h:CN c):G 39 [cm c,strs (jgg c),sv [p]]=some (cm (renC p c),[]):=jsv p c h (jgg c) (by have:=jib h;omega) (h.ren_tz hp)
theorem jq5(c:Cls)(h:CN c):G 94 [cm c]=some (strs (jgg c),[]):=jpR c (by have:=h.1;omega) h.rx h.tz λl hl=>by have:=(h.2 l hl).2;omega
theorem jq6(c:Cls)(h:CN c):G 40 [cm c]=some (strs (jgg c),[]):=jpI c (by have:=h.1;omega) h.tz λl hl=>by have:=(h.2 l hl).2;omega
theorem jpU:∀(k i:Nat),k+i=10-> ∀c:Cls,CN c->jrF (vi (i:Nat)) (.sl 3 (c.map ltc)) []=some (cm (normF k c),[])
 |0,i,hk,c,h=>by
  have hi:((i:Nat):Int)=10:=by omega
  rw[jzH,normF,hi];simp only[evz]
 |k+1,i,hk,c,h=>by
  have hlt:((i:Nat):Int)<10:=by omega
  have e1:=jkS c h;rw[jzH,normF];cases hn:jih c<;>rw[hn]at e1
  .have hl:=jib h;have e2:=jq5 c h;have e3:=jut 88 (jgg c) (jkJ c) (by omega);have e4:=jnQ 88 (by decide) c h;have hck:ck ((i:Int)+1)=some (vi ((i+1:Nat):Int)):=jeY (by omega) (by omega);have ih:=jpU k (i+1) (by omega) (renC 88 c) (h.renC (by decide));rw[ko Bool.false_ne_true];simp only[evz,hlt,e1,e2,e3,e4,hck,ih]
  .rw [jc6 rfl];simp only[evz,hlt,e1]
theorem jsy(c:Cls)(h:CN c):G 109 [cm c]=some (cm (normC c),[]):=by
 have e1:=jqr c (by have:=h.1;omega) h.tz
 have e2:=jpU 10 0 rfl c h;simp only[Int.natCast_zero]at e2;rw[jG8];simp only[evz,e1,e2];rfl
theorem jpV:∀(k i:Nat),k+i=10-> ∀c:Cls,CN c->jsZ (vi (i:Nat)) (.sl 3 (c.map ltc)) []=some (.tup [cm (normF k c),vb (jg1 (normF k c))],[])
 |0,i,hk,c,h=>by
  have hi:((i:Nat):Int)=10:=by omega
  have e0:=jiB c (by have:=h.1;omega) h.tz
  rw[jtM,normF,hi];simp only[evz,e0]
 |k+1,i,hk,c,h=>by
  have hlt:((i:Nat):Int)<10:=by omega
  have e0:=jiB c (by have:=h.1;omega) h.tz
  have e1:=jj6 c h;rw[jtM,normF];cases hn:jih c<;>rw[hn]at e1
  .have e2:=jq6 c h;have e4:=jn4 88 (by decide) c h;have hck:ck ((i:Int)+1)=some (vi ((i+1:Nat):Int)):=jeY (by omega) (by omega);have ih:=jpV k (i+1) (by omega) (renC 88 c) (h.renC (by decide));rw[ko Bool.false_ne_true];simp only[evz,hlt,e1,e2,e4,hck,ih]
  .rw [jc6 rfl];simp only[evz,hlt,e1,e0]
theorem jn2(c:Cls)(h:CN c)(ha:Asc cmpL c):G 13 [cm c]=some (.tup [cm (normC c),vb (jg1 (normC c))],[]):=by
 have e1:=jiY c (by have:=h.1;omega) h.tz
 rw[jpO ha]at e1;have e2:=jpV 10 0 rfl c h;simp only[Int.natCast_zero]at e2;rw[g13];simp only[evz,e1,e2];rfl
mutual
def rzt:T->Nat
 |.mk n us=>if jdc n then 7 else n.length+us.length+jsD us
def jsD:Xg->Nat
 | []=>0
 |t::ts=>rzt t+jsD ts
end
theorem joc(f:Xb->Xb)(ts:Xg):(jiy f ts).length=ts.length:=by rw[jp8,jbw]
mutual
theorem jA1{f:Xb->Xb}(hf:∀n,jdc n=true->(f n).length<=7):∀t:T,rzt (jfW f t)<=rzt t
 |.mk n us=>by
  rw[jfW];cases hv:jdc n with
  |true=>
   have:=hf n hv;rw[jc6 rfl,rzt,rzt,hv,jc6 rfl];split
   .omega
   .show (f n).length+0+0<=7;omega
  |false=>
   have:=jxg hf us;rw[ko Bool.false_ne_true,rzt,rzt,hv,ko Bool.false_ne_true,ko Bool.false_ne_true,joc];omega
theorem jxg{f:Xb->Xb}(hf:∀n,jdc n=true->(f n).length<=7):∀ts:Xg,jsD (jiy f ts)<=jsD ts
 | []=>jl _
 |t::ts=>by have:=jA1 hf t;have:=jxg hf ts;simp only[jiy,jsD];omega
end
mutual
theorem jur{f:Xb->Xb}(hf:∀n,jdc n=true->(f n).length<=7):∀t:T,tsz (jfW f t)<=rzt t
 |.mk n us=>by
  rw[jfW];cases hv:jdc n with
  |true=>
   have:=hf n hv;rw[jc6 rfl,rzt,hv,jc6 rfl];show(f n).length+0+0<=7;omega
  |false=>
   have:=jrd hf us;rw[ko Bool.false_ne_true,rzt,hv,ko Bool.false_ne_true,tsz,joc];omega
theorem jrd{f:Xb->Xb}(hf:∀n,jdc n=true->(f n).length<=7):∀ts:Xg,jhv (jiy f ts)<=jsD ts
 | []=>jl _
 |t::ts=>by have:=jur hf t;have:=jrd hf ts;simp only[jiy,jsD,jhv];omega
end
theorem jBp{n:Xb}(h:jdc n=true):1<=n.length:=by
 cases n with
 |nil=>exact absurd h (by decide)
 |cons a l=>simp
mutual
theorem jA4:∀t:T,rzt t<=4*tsz t+3
 |.mk n us=>by
  rw[rzt,tsz];cases hv:jdc n with
  |true=>have:=jBp hv;rw[jc6 rfl];omega
  |false=>have:=jxi us;rw[ko Bool.false_ne_true];omega
theorem jxi:∀ts:Xg,jsD ts<=4*jhv ts+3*ts.length
 | []=>jl _
 |t::ts=>by have:=jA4 t;have:=jxi ts;simp only[jsD,jhv,yv];omega
end
def CB(c:Cls):Prop:=c.length<=4/\ ∀l∈c,Tz l.2/\rzt l.2<=800000/\nodes l.2<=200000
theorem CB.of{c:Cls}(h1:c.length<=4)(h2:∀l∈c,tsz l.2<=195000):CB c:=⟨h1,λl hl=>by
 have h:=h2 l hl;have:=jA4 l.2;have:=jhM l.2;unfold Tz;exact⟨by omega,by omega,by omega⟩⟩
theorem CB.len{c:Cls}(h:CB c):(jgg c).length<=800000:=by
 have:∀(c:Cls)(l:Xa),(∀y∈c,nodes y.2<=200000)->(c.foldl (λl x=>jiG l x.2) l).length<=l.length+200000*c.length:=by
  intro c;induction c with
  |nil=>intro l _;exact jl _
  |cons x c ih=>
   intro l hc;have h1:=ih (jiG l x.2) (λy hy=>hc y (kO _ hy));have h2:=jkK x.2 l;have h3:=hc x Q1;rw[List.foldl_cons,yv];omega
 have h1:=this c [] (λy hy=>(h.2 y hy).2.2);have h2:=h.1;have h3:(jgg c).length<=0+200000*c.length:=h1;omega
theorem jqK{ns:Xa}(hn:ns.length<=900000)(n:Xb)(hv:jdc n=true):(jfV 88 ns n).length<=7:=by
 unfold jfV;split
 .rename_i i hi;have h1:=(List.findIdx?_eq_some_iff_getElem.1 hi).1;have h2:=(jhS 5 i (by omega)).2;unfold jic;rw[yv];omega
 .have:=jnj hv;omega
theorem CB.ren{c:Cls}(h:CB c){ns:Xa}(hn:ns.length<=900000):∀x∈c.map (λl=>(l.1,jfW (jfV 88 ns) l.2)),Tz x.2/\rzt x.2<=800000/\nodes x.2<=200000:=by
 intro x hx;obtain⟨l,hl,rfl⟩:=jN.1 hx;obtain⟨h1,h2,h3⟩:=h.2 l hl;have a1:=jA1 (jqK hn) l.2;have a2:=jur (jqK hn) l.2;have a3:=jnP (jfV 88 ns) l.2;refine⟨?_,?_,?_⟩
 .show tsz (jfW _ _)<=1048576;omega
 .show rzt (jfW _ _)<=_;omega
 .show nodes (jfW _ _)<=_;omega
theorem CB.renC{c:Cls}(h:CB c):CB (renC 88 c):=by
 have:=ji0 cmpL (c.map λl=>(l.1,jfW (jfV 88 (jgg c)) l.2));rw[jbw]at this;have h1:=h.1;exact⟨by unfold Go.Proofs.YtjgmjdidbgcljaaGreatDoor.renC;omega,λl hl=>h.ren (by have:=h.len;omega) l (jiC.1 hl)⟩
theorem jn3(c:Cls)(h:CB c):G 40 [cm c]=some (strs (jgg c),[]):=by
 have hl:=h.1;have key:=upto (P:=λi=>∀l:Xa,l.length<=200000*i->jo8 (vi (i:Nat)) (.sl 3 (c.map ltc)) (l.map cs)=some (.sl 1 (((c.drop i).foldl (λl x=>jiG l x.2) l).map cs),[])) (n:=c.length) ?_ ?_ 0 (Nat.zero_le _)
 .have key:=key [] (by simp);rw[List.drop_zero]at key;have key:jo8 (vi 0) (.sl 3 (c.map ltc)) []=some (.sl 1 ((jgg c).map cs),[]):=key;rw[g40];simp only[evz,key]
 .intro l _;rw[jwU,List.drop_length];simp only[evz];rfl
 .intro i hi ih l hll;have hlt:(i:Int)<((c.length:Nat):Int):=by omega
  have h5:=jef hi (by show c.length<=9223372036854775807;omega)
  have ix:=jaa (k:=3) (f:=ltc) hi;have ad:jeG (.elt (ltc c[i]) 0) 1=some (.elt (ltc c[i]) 1):=rfl;have ld:jar 2 (.elt (ltc c[i]) 1)=some (tm c[i].2):=rfl;obtain⟨z1,z2,hn⟩:=h.2 _ (jcF hi);have q:=jpE c[i].2 z1 l (by omega);have hol:=jkK c[i].2 l;have q2:=ih (jiG l c[i].2) (by omega);rw[jwU,jdb hi,List.foldl_cons];generalize jiG l c[i].2=l' at *;have hr:hR 1 (A.top,[.sl 1 (l'.map cs)]) 0=some (l'.map cs):=rfl;simp only[evz,hlt,ix,ad,ld,q,hr,h5,q2]
theorem jpH(c:Cls)(h:CB c):G 38 [cm c]=some (vb (jih c),[]):=by
 have hlen:=h.len;have e0:=jn3 c h;rw[jmg,g38];generalize jgg c=ns at *;have key:=upto (P:=λi=>js3 (strs ns) (vi (i:Nat))=some (vb (jjZ i (ns.drop i)),[])) (n:=ns.length) ?_ ?_ 0 (Nat.zero_le _)
 .simp only[Int.natCast_zero,List.drop_zero]at key;simp only[evz,e0,key]
 .rw [jwS,List.drop_length];simp only[evz,jjZ]
 .intro i hi ih;have hlt:(i:Int)<((ns.length:Nat):Int):=by omega
  have h5:=jef hi (by show ns.length<=9223372036854775807;omega)
  have e1:=jlq i (by omega);have e2:=jEO i (by omega);have ld:jas (.elt (cs ns[i]) 0)=some (sv ns[i]):=rfl;rw[jwS,jdb hi,jjZ];by_cases hc:ns[i]=jic 88 i
  .rw [decide_eq_true hc,Bool.true_and,<-ih];simp only[evz,hlt,jaa hi,ld,e1,e2,hc,h5]
  .rw [decide_eq_false hc,Bool.false_and];simp only[evz,hlt,jaa hi,ld,e1,e2,hc]
theorem jsr(p:UInt8)(ns:Xa)(hn:ns.length<=900000):∀t:T,Tz t->G 83 [tm t,strs ns,sv [p]]=some (tm (jfW (jfV p ns) t),[]):=by
 refine T.ind λt ih ht=>?_;have hz:=ht;unfold Tz at hz;rw[jgG]at hz;have e0:=jg8 t.name (((jgM t).1 ht.wf).1);rw[g83,jjn];cases hv:jdc t.name<;>rw[hv]at e0
 .rw [ko Bool.false_ne_true];have key:=(upto (P:=λi=>jtb (strs ns) (sv [p]) (vi i) (sv t.name) (tms t.args) (sv []) (sv t.name) [] (((t.args.map (jfW (jfV p ns))).take i).map jdd)=some (tm (.mk t.name (t.args.map (jfW (jfV p ns)))),[])) (n:=t.args.length) ?_ ?_ 0 (Nat.zero_le _))
  .simp only[Int.natCast_zero,List.take_zero,List.map_nil]at key;simp only[evz,e0,key]
  .rw [jw1,jT (by rw[jbw];omega)]
   simp only[evz];rfl
  .intro i hi ih';have hlt:(i:Int)<((t.args.length:Nat):Int):=by omega
   have h5:=jef hi (by show t.args.length<=9223372036854775807;omega)
   have e2:=ih t.args[i] (jcF _) (ht.args _ (jcF _));have hf:jcK (i+1) 40=true:=jsB (by omega);have hi2:i<(t.args.map (jfW (jfV p ns))).length:=by rw[jbw];exact hi
   have hl:(((t.args.map (jfW (jfV p ns))).take i).map jdd).length=i:=by rw[jbw,List.length_take,jbw];omega
   have ha:jgo (((t.args.map (jfW (jfV p ns))).take i).map jdd) [[sv (jfW (jfV p ns) t.args[i]).name,tms (jfW (jfV p ns) t.args[i]).args]]=((t.args.map (jfW (jfV p ns))).take (i+1)).map jdd:=by
    rw[show[sv (jfW (jfV p ns) t.args[i]).name,tms (jfW (jfV p ns) t.args[i]).args]=jdd (jfW (jfV p ns) t.args[i]) from(jfY _).symm,List.take_add_one,jz hi2,jv,List.getElem_map];rfl
   generalize ((t.args.map (jfW (jfV p ns))).take i).map jdd=R at *;generalize jfW (jfV p ns) t.args[i]=u at *;rw[jw1];simp only[evz,hlt,jaa hi,ja1,e2,hl,hf,ha,h5,ih']
 .rw [jc6 rfl];have key:=(upto (P:=λi=>(∀j,(h:j<i)-> ∀h':j<ns.length,ns[j]≠t.name)->jta (strs ns) (sv [p]) (vi i) (sv t.name) (tms t.args) (sv []) []=some (tm (.mk (jfV p ns t.name) []),[])) (n:=ns.length) ?_ ?_ 0 (Nat.zero_le _)) (λj h=>by omega)
  .simp only[Int.natCast_zero]at key;simp only[evz,e0,key]
  .intro hall;have:jfV p ns t.name=t.name:=by
    unfold jfV;have:ns.findIdx? (λx=>decide (x=t.name))=none:=by
     rw[List.findIdx?_eq_none_iff];intro x hx;obtain⟨j,hj,rfl⟩:=List.mem_iff_getElem.1 hx;simpa using hall j hj hj
    rw[this]
   rw[jw0,this];simp only[evz];rfl
  .intro i hi ih' hall;have hlt:(i:Int)<((ns.length:Nat):Int):=by omega
   have h5:=jef hi (by show ns.length<=9223372036854775807;omega)
   have ld:jas (.elt (cs ns[i]) 0)=some (sv ns[i]):=rfl;rw[jw0];by_cases he:ns[i]=t.name
   .have e1:=jlq i (by omega);have e2:=jCL p i (by omega);have:jfV p ns t.name=jic p i:=by
     unfold jfV;have:ns.findIdx? (λx=>decide (x=t.name))=some i:=by
      rw[List.findIdx?_eq_some_iff_getElem];exact⟨hi,by simp[he],λj hj=>by simpa using hall j hj (by omega)⟩
     rw[this]
    rw[this];simp only[evz,hlt,jaa hi,ld,he,e1,e2];rfl
   .have ih':=ih' λj hj hj'=>by
     by_cases h:j=i
     .subst h;exact he
     .exact hall j (by omega) hj'
    simp only[evz,hlt,jaa hi,ld,he,h5,ih']
theorem jqx(p:UInt8)(c:Cls)(h:CB c)(ns:Xa)(hl:ns.length<=900000)(hr:∀x∈c.map (λl=>(l.1,jfW (jfV p ns) l.2)),Tz x.2):G 39 [cm c,strs ns,sv [p]]=some (cm (jhe cmpL (c.map λl=>(l.1,jfW (jfV p ns) l.2))),[]):=by
 have h8:=h.1;have e3:=jiY (c.map λl=>(l.1,jfW (jfV p ns) l.2)) (by rw[jbw];omega) (λx hx=>hr x hx);generalize hd:c.map (λl=>(l.1,jfW (jfV p ns) l.2))=d at *;have hdl:d.length=c.length:=by rw[<-hd,jbw]
 have key:=upto (P:=λi=>js4 (strs ns) (sv [p]) (vi (i:Nat)) (.sl 3 (c.map ltc)) ((d.take i).map ltc) []=some (cm (jhe cmpL d),[])) (n:=c.length) ?_ ?_ 0 (Nat.zero_le _)
 .simp only[Int.natCast_zero,List.take_zero,List.map_nil]at key;rw[g39];simp only[evz,key]
 .rw [jwT,<-hdl,List.take_length];have hlt:¬((d.length:Nat):Int)<((c.length:Nat):Int):=by omega
  simp only[evz,hlt,e3]
 .intro i hi ih;have hi2:i<d.length:=by omega
  have hlt:(i:Int)<((c.length:Nat):Int):=by omega
  have h5:=jef hi (by show c.length<=9223372036854775807;omega)
  have e1:=jsr p ns hl c[i].2 (h.2 _ (jcF _)).1;have hdi:d[i]=(c[i].1,jfW (jfV p ns) c[i].2):=by simp only[<-hd,List.getElem_map]
  have ta:=jjI (f:=ltc) hi2;have tl:=take_len (f:=ltc) (Nat.le_of_lt hi2);have hf:jcK (i+1) 48=true:=jjg (by omega);have ld:∀l:Lt,jas (.elt (ltc l) 0)=some (vb l.1):=λl=>rfl;have ad:∀(l:Lt)(n:Nat),jeG (.elt (ltc l) 0) n=some (.elt (ltc l) n):=λl n=>by rw[jhj,jfO]
  have ld2:∀l:Lt,jar 2 (.elt (ltc l) 1)=some (tm l.2):=λl=>rfl;rw[hdi]at ta;generalize (d.take i).map ltc=R at *;generalize jfW (jfV p ns) c[i].2=u at *;rw[jwT];simp only[evz,hlt,jaa hi,ad,ld,ld2,e1];generalize hB:JY _ _ _=B;have hB':B=some (ltm (c[i].1,u)):=by rw[<-hB];kernel_rfl
  rw[hB'];have hck:ck ((i:Int)+1)=some (vi ((i+1:Nat):Int)):=jeY (by omega) (by omega);simp only[evz,tl,hf,ta,hck,ih]
theorem jn6:∀(k i:Nat),k+i=10-> ∀c:Cls,CB c-> ∃(c':Cls)(b:Bool),CB c'/\jsZ (vi (i:Nat)) (.sl 3 (c.map ltc)) []=some (.tup [cm c',vb b],[])
 |0,i,hk,c,h=>by
  have hi:((i:Nat):Int)=10:=by omega
  have e0:=jiB c (by have:=h.1;omega) (λl hl=>(h.2 l hl).1)
  refine⟨c,jg1 c,h,?_⟩;rw[jtM,hi];simp only[evz,e0]
 |k+1,i,hk,c,h=>by
  have hlt:((i:Nat):Int)<10:=by omega
  have e0:=jiB c (by have:=h.1;omega) (λl hl=>(h.2 l hl).1)
  have e1:=jpH c h;cases hn:jih c<;>rw[hn]at e1
  .have hl:=h.len;have e2:=jn3 c h;have e4:=jqx 88 c h (jgg c) (by omega) (λx hx=>(h.ren (by omega) x hx).1);have hck:ck ((i:Int)+1)=some (vi ((i+1:Nat):Int)):=jeY (by omega) (by omega);obtain⟨c',b,hc',ih⟩:=jn6 k (i+1) (by omega) (renC 88 c) h.renC;have e4:G 39 [cm c,strs (jgg c),sv [88]]=some (cm (renC 88 c),[]):=e4;refine⟨c',b,hc',?_⟩;rw[jtM];simp only[evz,hlt,e1,e2,e4,hck,ih]
  .refine ⟨c,jg1 c,h,?_⟩;rw[jtM];simp only[evz,hlt,e1,e0]
theorem jsu(c:Cls)(h:CB c)(ha:Asc cmpL c):∃(c':Cls)(b:Bool),CB c'/\G 13 [cm c]=some (.tup [cm c',vb b],[]):=by
 have e1:=jiY c (by have:=h.1;omega) (λl hl=>(h.2 l hl).1)
 rw[jpO ha]at e1;obtain⟨c',b,hc',e2⟩:=jn6 10 0 rfl c h;simp only[Int.natCast_zero]at e2;refine⟨c',b,hc',?_⟩;rw[g13];simp only[evz,e1,e2]
 try rfl
abbrev cy(n:Int):Xd:=[vy n]
abbrev bts(l:Xi):A:= .sl 1 (l.map cy)
abbrev vu(n:Int):A:= .val (.int .u64 n)
def By(l:Xi):Prop:=(∀n∈l,0<=n/\n<=255)/\l.length<=65536
theorem jhF(a x0 x1 x2 x3:A)(us:Xg)(l:Xd):hR 2 (a,x0::x1::x2::x3::tms us::l) 4=some (us.map jdd):=by simp[hR,tms]
set_option maxRecDepth 100000 in
theorem jBu:∀n:Fin 256,IntKind.u64.wrap ((n.val:Nat):Int)=((n.val:Nat):Int):=by decide
theorem jAS(x y:Int):jeH .mul false (vu x) (vu y)=some (vu (IntKind.u64.wrap (x*y))):=rfl
theorem jAR(x y:Int):jeH .add false (vu x) (vu y)=some (vu (IntKind.u64.wrap (x+y))):=rfl
theorem jE1(x:Int):jeH .shr false (vu x) (vu 40)=some (vu (ZH .shr .u64 x 40)):=by
 show(if(0:Int)<=40 then some (vu (ZH .shr .u64 x 40))else none)=_;rw[jc6 (by decide)]
theorem jE0(x:Int):jeH .and false (vu x) (vu 255)=some (vu (ZH .and .u64 x 255)):=rfl
theorem jxz(x:Int):0<=ZH .and .u64 x 255/\ZH .and .u64 x 255<=255:=by
 have h:(BitVec.ofInt 64 x &&& BitVec.ofInt 64 255).toNat<=255:=by
  rw[BitVec.toNat_and];have h2:(BitVec.ofInt 64 255).toNat=255:=by decide
  rw[h2];exact Nat.and_le_right
 show 0<=IntKind.u64.wrap (((BitVec.ofInt 64 x &&& BitVec.ofInt 64 255).toNat:Nat):Int)/\IntKind.u64.wrap (((BitVec.ofInt 64 x &&& BitVec.ofInt 64 255).toNat:Nat):Int)<=255;generalize (BitVec.ofInt 64 x &&& BitVec.ofInt 64 255).toNat=m at *;have:=jBu ⟨m,by omega⟩;simp only at this;rw[this];omega
theorem jAG(k:IntKind)(a:Int):jcJ .u64 (.val (.int k a))=some (vu (IntKind.u64.wrap a)):=rfl
theorem jvH(k:IntKind)(a:Int):jcJ .i64 (.val (.int k a))=ck a:=rfl
theorem jAv(n:Int):Za (vu n)=true:=rfl
section
variable{code:Xi}(hb:By code)
include hb
theorem jsx(a s:Int)(h0:0<=a)(h1:a<=1000000000):∃s' x,0<=x/\x<=255/\jv5 (bts code) (vi a) (vu s)=some (.top,[bts code,vi (a+1),vu s',vi x]):=by
 obtain⟨k,rfl⟩:∃k:Nat,a=(k:Nat):=⟨a.toNat,by omega⟩;have c1:ck (((k:Nat):Int)+1)=some (vi (((k:Nat):Int)+1)):=jeY (by omega) (by omega);have hcl:=hb.2;rw[jFF];by_cases hk:k<code.length
 .have hlt:((k:Nat):Int)<((code.length:Nat):Int):=by omega
  have hle:((k:Nat):Int)+1<=((code.length:Nat):Int):=by omega
  have hv:=hb.1 code[k] (jcF hk);have c2:ck code[k]=some (vi code[k]):=jeY (by omega) (by omega);exact⟨_,code[k],hv.1,hv.2,by simp only[evz,hlt,jaa hk,jvH,c2,c1,jAS,jAG,jAR,jAv,hle];rfl⟩
 .have hlt:¬((k:Nat):Int)<((code.length:Nat):Int):=by omega
  have hle:¬((k:Nat):Int)+1<=((code.length:Nat):Int):=by omega
  generalize hz:IntKind.u64.wrap (IntKind.u64.wrap (IntKind.u64.wrap (s*6364136223846793005)+IntKind.u64.wrap 0)+892892)=z;have hbd:=jxz (ZH .shr .u64 z 40);have c2:ck (ZH .and .u64 (ZH .shr .u64 z 40) 255)=some (vi (ZH .and .u64 (ZH .shr .u64 z 40) 255)):=jeY (by omega) (by omega);exact⟨z,_,hbd.1,hbd.2,by simp only[evz,hlt,c1,jAS,jAG,jAR,hz,jAv,hle,jE1,jE0,jvH,c2]⟩
omit hb in
theorem jqz{x n:Int}(h0:0<=x)(hn:1<=n):jeH .rem false (vi x) (vi n)=some (vi (x % n)):=by
 show(if n=0 then none else some (vi (x.tmod n)))=_;rw[ko (by omega),Int.tmod_eq_emod_of_nonneg h0]
theorem jg9(n:Int)(hn:1<=n)(hn':n<=200)(a s:Int)(h0:0<=a)(h1:a<=1000000000):∃a' s' x,a<=a'/\a'<=a+1/\0<=x/\x<n/\jhQ (vi n) (bts code) (vi a) (vu s)=some (.top,[bts code,vi a',vu s',vi x]):=by
 rw[jDh];by_cases h:n<=1
 .exact ⟨a,s,0,by omega,by omega,by omega,by omega,by simp only[evz,h]⟩
 .obtain ⟨s',x,x0,x1,e⟩:=jsx hb a s h0 h1;have e2:=jqz x0 hn;have hg:¬(200:Int)<n:=by omega
  refine⟨a+1,s',x % n,by omega,by omega,Int.emod_nonneg _ (by omega),Int.emod_lt_of_pos _ (by omega),?_⟩;simp only[evz,h,e,List.getElem?_cons_zero,List.getElem?_cons_succ,hg,e2,jhF]
theorem jhV(n:Int)(hn:1<=n)(hn':n<=200)(a s:Int)(h0:0<=a)(h1:a<=1000000000):∃a' s' b,a<=a'/\a'<=a+1/\ji7 (vi n) (bts code) (vi a) (vu s)=some (.top,[bts code,vi a',vu s',vb b]):=by
 obtain⟨a',s',x,q1,q2,_,_,e⟩:=jg9 hb n hn hn' a s h0 h1;refine⟨a',s',decide (x=0),q1,q2,?_⟩;rw[jFt];simp only[evz,e,List.getElem?_cons_zero,List.getElem?_cons_succ,jhF]
theorem jtZ(l:Xa)(hn:1<=l.length)(hn':l.length<=200)(a s:Int)(h0:0<=a)(h1:a<=1000000000):∃a' s' w,w∈l/\a<=a'/\a'<=a+1/\ji8 (bts code) (vi a) (vu s) (l.map cs)=some (.top,[bts code,vi a',vu s',sv w]):=by
 obtain⟨a',s',x,q1,q2,x0,x1,e⟩:=jg9 hb ((l.length:Nat):Int) (by omega) (by omega) a s h0 h1;obtain⟨i,rfl⟩:∃i:Nat,x=(i:Nat):=⟨x.toNat,by omega⟩;have hi:i<l.length:=by omega
 have e1:pIx l.length (vi ((i:Nat):Int))=some i:=jg7 hi;have e2:jec (l.map cs) i 0=some (sv l[i]):=by unfold jec;simp[hi]
 refine⟨a',s',l[i],jcF hi,q1,q2,?_⟩;rw[jFz];simp only[evz,e,List.getElem?_cons_zero,List.getElem?_cons_succ,e1,e2]
end
theorem jC4(t:T):tms [t] = .sl 2 [[sv t.name,.sl 2 (t.args.map jdd)]]:=by
 show A.sl 2 [jdd t]=_;rw[jfY]
theorem juG(t u:T):tms [t,u] = .sl 2 [[sv t.name,.sl 2 (t.args.map jdd)],[sv u.name,.sl 2 (u.args.map jdd)]]:=by
 show A.sl 2 [jdd t,jdd u]=_;rw[jfY,jfY]
abbrev S5:Xa:=[[88],[89],[90],[88,121,122,57],[81,49]]
def jkl(n:Xb):Bool:= !jdc n || S5.contains n
mutual
def nmT:T->Bool
 |.mk n us=>jkl n && jjM us
def jjM:Xg->Bool
 | []=>true
 |t::ts=>nmT t && jjM ts
end
theorem jvE(t:T):nmT t=(jkl t.name && jjM t.args):=by cases t;rw[nmT];rfl
theorem jpS:∀us vs:Xg,jjM (us++vs)=(jjM us && jjM vs)
 | [],vs=>by rw[zx,jjM,Bool.true_and]
 |u::us,vs=>by rw[jG,jjM,jjM,jpS us vs,Bool.and_assoc]
theorem nm0{n:Xb}(h:jkl n=true):nmT (.mk n [])=true:=by rw[nmT,h];rfl
theorem nm1{n:Xb}{t:T}(h:jkl n=true)(ht:nmT t=true):nmT (.mk n [t])=true:=by rw[nmT,h,jjM,ht];rfl
theorem nm2{n:Xb}{t u:T}(h:jkl n=true)(ht:nmT t=true)(hu:nmT u=true):nmT (.mk n [t,u])=true:=by rw[nmT,h,jjM,ht,jjM,hu];rfl
theorem nmA{t:T}(h:nmT t=true):jjM t.args=true:=by rw[jvE,Yn]at h;exact h.2
theorem nmN{t:T}(h:nmT t=true):jkl t.name=true:=by rw[jvE,Yn]at h;exact h.1
theorem jtW{n:Xb}{us:Xg}(h:jkl n=true)(hu:jjM us=true):nmT (.mk n us)=true:=by rw[nmT,h,hu];rfl
def TD(code:Xi)(z q:Nat)(a:Int)(o:Xe):Prop:=∃a' s' t,a<=a'/\a'<=a+(q:Nat)/\(tsz t<=z/\nmT t=true)/\o=some (.top,[bts code,vi a',vu s',sv (T.name t),tms (T.args t)])
section
variable{code:Xi}(hb:By code)
include hb
theorem joM(l:Xa)(hn:1<=l.length)(hn':l.length<=200)(hl:∀w∈l,w.length<=1/\jkl w=true)(a s:Int)(h0:0<=a)(h1:a<=1000000000) :
  ∃a' s' w,(w.length<=1/\jkl w=true)/\a<=a'/\a'<=a+1/\ji8 (bts code) (vi a) (vu s) (l.map cs)=some (.top,[bts code,vi a',vu s',sv w]):=by
 obtain⟨a',s',w,hw,q1,q2,e⟩:=jtZ hb l hn hn' a s h0 h1;exact⟨a',s',w,hl w hw,q1,q2,e⟩
theorem jzt:∀(d:Nat),d<=100-> ∀(dep:Int),dep<=(d:Nat)-> -1000<=dep-> ∀(a s:Int),0<=a->a+((3*4 ^ d:Nat):Int)<=1000000000->TD code (3*4 ^ d) (3*4 ^ d) a (jiS (vi dep) (bts code) (vi a) (vu s)):=by
 have base:∀(d:Nat)(dep:Int),dep<=1-> ∀(a s:Int),0<=a->a+((3*4 ^ d:Nat):Int)<=1000000000->TD code (3*4 ^ d) (3*4 ^ d) a (jiS (vi dep) (bts code) (vi a) (vu s)):=by
  intro d dep hd a s h0 h1;have hp:1<=4 ^ d:=Q2 (by simp);obtain⟨a1,s1,w,hw,q1,q2,e⟩:=joM hb [[88],[89],[90],[97],[98],[88],[97]] (by decide) (by decide) (by decide) a s h0 (by omega);have e:ji8 (bts code) (vi a) (vu s) [[sv [88]],[sv [89]],[sv [90]],[sv [97]],[sv [98]],[sv [88]],[sv [97]]]=some (.top,[bts code,vi a1,vu s1,sv w]):=e;refine⟨a1,s1,.mk w [],q1,by omega,⟨by rw[jif];simp[jhv];omega,nm0 hw.2⟩,?_⟩;rw[jlc];simp only[evz,hd,e,List.getElem?_cons_zero,List.getElem?_cons_succ,jhF];rfl
 intro d;induction d with
 |zero=>intro _ dep hd _ a s h0 h1;exact base 0 dep (by omega) a s h0 h1
 |succ d ih=>
  intro hdd dep hd hd' a s h0 h1;by_cases hle:dep<=1
  .exact base (d+1) dep hle a s h0 h1
  have hp:1<=4 ^ d:=Q2 (by simp);rw[Nat.pow_succ]at h1⊢;generalize 4 ^ d=P at *;obtain⟨a1,s1,b1,q1,q2,e1⟩:=jhV hb 3 (by decide) (by decide) a s h0 (by omega);cases b1 with
  |true=>
   obtain⟨a2,s2,w,hw,r1,r2,e⟩:=joM hb [[88],[89],[90],[97],[98],[88],[97]] (by decide) (by decide) (by decide) a1 s1 (by omega) (by omega);have e:ji8 (bts code) (vi a1) (vu s1) [[sv [88]],[sv [89]],[sv [90]],[sv [97]],[sv [98]],[sv [88]],[sv [97]]]=some (.top,[bts code,vi a2,vu s2,sv w]):=e;refine⟨a2,s2,.mk w [],by omega,by omega,⟨by rw[jif];simp[jhv];omega,nm0 hw.2⟩,?_⟩;rw[jlc];simp only[evz,hle,e1,e,List.getElem?_cons_zero,List.getElem?_cons_succ,jhF];rfl
  |false=>
   obtain⟨a2,s2,b2,r1,r2,e2⟩:=jhV hb 2 (by decide) (by decide) a1 s1 (by omega) (by omega);have c1:ck (dep-1)=some (vi (dep-1)):=jeY (by omega) (by omega);obtain⟨a3,s3,t3,u1,u2,u3,e3⟩:=ih (by omega) (dep-1) (by omega) (by omega) a2 s2 (by omega) (by omega);cases b2 with
   |true=>
    refine⟨a3,s3,.mk [102] [t3],by omega,by omega,⟨by rw[jif];simp[jhv];omega,nm1 (by decide) u3.2⟩,?_⟩
    rw[jlc];simp only[evz,hle,e1,e2,c1,e3,List.getElem?_cons_zero,List.getElem?_cons_succ,jhF];rw[<-jC4];rfl
   |false=>
    obtain⟨a4,s4,t4,v1,v2,v3,e4⟩:=ih (by omega) (dep-1) (by omega) (by omega) a3 s3 (by omega) (by omega);refine⟨a4,s4,.mk [103] [t3,t4],by omega,by omega,⟨by rw[jif];simp[jhv];omega,nm2 (by decide) u3.2 v3.2⟩,?_⟩;rw[jlc];simp only[evz,hle,e1,e2,c1,e3,e4,List.getElem?_cons_zero,List.getElem?_cons_succ,jhF];rw[<-juG];rfl
theorem jlR(a s:Int)(h0:0<=a)(h1:a<=999999000):TD code 192 193 a (jkb (bts code) (vi a) (vu s)):=by
 obtain⟨a1,s1,x,q1,q2,x0,x1,e1⟩:=jg9 hb 3 (by decide) (by decide) a s h0 (by omega);have c1:ck (1+x)=some (vi (1+x)):=jeY (by omega) (by omega);obtain⟨a2,s2,t,r1,r2,r3,e2⟩:=jzt hb 3 (by decide) (1+x) (by omega) (by omega) a1 s1 (by omega) (by omega);refine⟨a2,s2,t,by omega,by omega,r3,?_⟩;rw[jDi];simp only[evz,e1,c1,e2,List.getElem?_cons_zero,List.getElem?_cons_succ,jhF]
theorem jBf(d:Nat)(hd:d<=20)(a s:Int)(h0:0<=a)(h1:a<=999990000):TD code 60 1 a (ju9 (vi (d:Nat)) (bts code) (vi a) (vu s)):=by
 obtain⟨a1,s1,w,hw,q1,q2,e⟩:=joM hb [[88],[97]] (by decide) (by decide) (by decide) a s h0 (by omega);have e:ji8 (bts code) (vi a) (vu s) [[sv [88]],[sv [97]]]=some (.top,[bts code,vi a1,vu s1,sv w]):=e;have loop:∀(k:Nat)(t:T)(x1:A)(r0:Xc),k<=20-> ∃u,(tsz u<=tsz t+2*k/\(nmT t=true->nmT u=true))/\jkc (vi (k:Nat)) x1 (sv t.name) (bts code) (vi a1) (vu s1) r0 (t.args.map jdd)=some (.top,[bts code,vi a1,vu s1,sv (T.name u),tms (T.args u)]):=by
  intro k;induction k with
  |zero=>
   intro t x1 r0 _;refine⟨t,⟨by omega,id⟩,?_⟩;have h:¬(1:Int)<((0:Nat):Int):=by omega
   rw[jpz];simp only[evz,h]
  |succ k ih=>
   intro t x1 r0 hk;by_cases h:(1:Int)<((k+1:Nat):Int)
   .obtain ⟨u,hu,eu⟩:=ih (.mk [102] [t]) x1 r0 (by omega);rw[jif]at hu;simp only[yv,jgS,jhv]at hu;refine⟨u,⟨by omega,λh=>hu.2 (nm1 (by decide) h)⟩,?_⟩;have c1:ck (((k+1:Nat):Int)-1)=some (vi (k:Nat)):=by rw[show((k+1:Nat):Int)-1=(k:Nat) by omega];exact jeY (by omega) (by omega)
    have eu:jkc (vi (k:Nat)) x1 (sv [102]) (bts code) (vi a1) (vu s1) r0 [jdd t]=_:=eu;rw[jfY]at eu;rw[jpz];simp only[evz,h,c1,eu]
   .refine ⟨t,⟨by omega,id⟩,?_⟩;rw[jpz];simp only[evz,h]
 obtain⟨u,hu,eu⟩:=loop d (.mk w []) (sv []) [] hd;rw[jif]at hu;simp only[jgS,jhv]at hu;refine⟨a1,s1,u,q1,q2,⟨by omega,hu.2 (nm0 hw.2)⟩,?_⟩;have eu:jkc (vi (d:Nat)) (sv []) (sv w) (bts code) (vi a1) (vu s1) [] []=_:=eu;rw[jEo];simp only[evz,e,List.getElem?_cons_zero,List.getElem?_cons_succ,eu,jhF]
end
theorem jEU{n:Nat}(h:n<=4194304):jcK n 16=true:=by
 unfold jcK;exact decide_eq_true ⟨by omega,by omega⟩
theorem jCO{n:Nat}(h:n<=4194304):jcK n 8=true:=by
 unfold jcK;exact decide_eq_true ⟨by omega,by omega⟩
abbrev nbs(vs:Xi):A:= .sl 1 (vs.map ci)
theorem jGo{x n:Int}(h0:0<=x)(hn:2<=n)(hx:x<=9223372036854775807):jeH .quo false (vi x) (vi n)=some (vi (x / n)):=by
 show(if n=0 then none else ck (x.tdiv n))=_;rw[ko (by omega),Int.tdiv_eq_ediv_of_nonneg h0,jeY]
 .have:=Int.ediv_nonneg h0 (show(0:Int)<=n by omega);omega
 .have:=Int.ediv_le_self n h0;omega
theorem jAH(x:Int)(h0:0<=x)(h1:x<=255):jcJ .i64 (vy x)=some (vi x):=by
 rw[jvH,jeY (by omega) (by omega)]
theorem jt6{l:Xa}{i:Nat}(h:i<l.length):jec (l.map cs) i 0=some (sv l[i]):=by
 unfold jec;simp[h]
section
variable{code:Xi}(hb:By code)
include hb
theorem jBm(i:Int)(h0:0<=i)(h1:i<=1000):∃x,0<=x/\x<=255/\G 164 [bts code,vi i]=some (vi x,[]):=by
 obtain⟨k,rfl⟩:∃k:Nat,i=(k:Nat):=⟨i.toNat,by omega⟩;have hl:=hb.2;rw[jHM];by_cases hk:k<code.length
 .have hlt:((k:Nat):Int)<((code.length:Nat):Int):=by omega
  have hv:=hb.1 code[k] (jcF hk);have c:=jAH code[k] hv.1 hv.2;exact⟨code[k],hv.1,hv.2,by simp only[evz,hlt,jaa hk,c]⟩
 .have hlt:¬((k:Nat):Int)<((code.length:Nat):Int):=by omega
  have c1:ck (((k:Nat):Int)*7)=some (vi (((k:Nat):Int)*7)):=jeY (by omega) (by omega);have c2:ck (((k:Nat):Int)*7+((code.length:Nat):Int))=some (vi (((k:Nat):Int)*7+((code.length:Nat):Int))):=jeY (by omega) (by omega);have c3:=jqz (x:=((k:Nat):Int)*7+((code.length:Nat):Int)) (n:=256) (by omega) (by decide);exact⟨(((k:Nat):Int)*7+((code.length:Nat):Int)) % 256,Int.emod_nonneg _ (by decide),by have:=Int.emod_lt_of_pos (((k:Nat):Int)*7+((code.length:Nat):Int)) (show(0:Int)<256 by decide);omega,by simp only[evz,hlt,c1,c2,c3]⟩
theorem jBn(vs:Xi)(hvs:∀v∈vs,0<=v/\v<=10)(hl:vs.length<=4000000):∀i,i<=vs.length-> ∀h:Int,0<=h->h<65521-> ∃x,0<=x/\jrI (bts code) (nbs vs) (vi h) (vi (i:Nat))=some (vi x,[]):=by
 refine upto ?_ ?_
 .intro h h0 h1;obtain⟨a,a0,a1,ea⟩:=jBm hb (h % 53) (Int.emod_nonneg _ (by decide)) (by have:=Int.emod_lt_of_pos h (show(0:Int)<53 by decide);omega);obtain⟨b,b0,b1,eb⟩:=jBm hb (h % 89) (Int.emod_nonneg _ (by decide)) (by have:=Int.emod_lt_of_pos h (show(0:Int)<89 by decide);omega);have r1:=jqz (x:=h) (n:=53) h0 (by decide);have r2:=jqz (x:=h) (n:=89) h0 (by decide);have c1:ck (13*a)=some (vi (13*a)):=jeY (by omega) (by omega);have c2:ck (h+13*a)=some (vi (h+13*a)):=jeY (by omega) (by omega);have c3:ck (h+13*a+b)=some (vi (h+13*a+b)):=jeY (by omega) (by omega);have q:=jGo (x:=h+13*a+b) (n:=3) (by omega) (by decide) (by omega);refine⟨(h+13*a+b) / 3,Int.ediv_nonneg (by omega) (by decide),?_⟩;rw[jzL];simp only[evz,r1,r2,ea,eb,c1,c2,c3,q]
 .intro i hi ih h h0 h1;have hlt:(i:Int)<((vs.length:Nat):Int):=by omega
  have h5:=jef hi (by show vs.length<=9223372036854775807;omega)
  have hv:=hvs vs[i] (jcF hi);have c1:ck (37*h)=some (vi (37*h)):=jeY (by omega) (by omega);have c2:ck (37*h+vs[i])=some (vi (37*h+vs[i])):=jeY (by omega) (by omega);have c3:ck (37*h+vs[i]+1)=some (vi (37*h+vs[i]+1)):=jeY (by omega) (by omega);have r:=jqz (x:=37*h+vs[i]+1) (n:=65521) (by omega) (by decide);obtain⟨x,x0,e⟩:=ih ((37*h+vs[i]+1) % 65521) (Int.emod_nonneg _ (by decide)) (Int.emod_lt_of_pos _ (by decide));refine⟨x,x0,?_⟩;rw[jzL];simp only[evz,hlt,jaa hi,c1,c2,c3,r,h5,e]
theorem jC6(n:Xb)(hn:n.length<=4000000)(vs:Xi)(hvs:∀v∈vs,0<=v/\v<=10)(hl:vs.length<=4000000):∃x,0<=x/\G 117 [bts code,sv n,nbs vs]=some (vi x,[]):=by
 have key:∀i,i<=n.length-> ∀h:Int,0<=h->h<65521-> ∃x,0<=x/\jrH (bts code) (sv n) (nbs vs) (vi h) (vi (i:Nat))=some (vi x,[]):=by
  refine upto ?_ ?_
  .intro h h0 h1;obtain⟨x,x0,e⟩:=jBn hb vs hvs hl 0 (Nat.zero_le _) h h0 h1;refine⟨x,x0,?_⟩;rw[jzK];simp only[Int.natCast_zero]at e;simp only[evz,e]
  .intro i hi ih h h0 h1;have hlt:(i:Int)<((n.length:Nat):Int):=by omega
   have h5:=jef hi (by show n.length<=9223372036854775807;omega)
   have hx:=ji3 hi;have hc:n[i].toNat<=255:=by have:=n[i].toNat_lt;omega
   generalize n[i].toNat=c at *;have c0:=jAH ((c:Nat):Int) (by omega) (by omega);have c1:ck (31*h)=some (vi (31*h)):=jeY (by omega) (by omega);have c2:ck (31*h+((c:Nat):Int))=some (vi (31*h+((c:Nat):Int))):=jeY (by omega) (by omega);have r:=jqz (x:=31*h+((c:Nat):Int)) (n:=65521) (by omega) (by decide);obtain⟨x,x0,e⟩:=ih ((31*h+((c:Nat):Int)) % 65521) (Int.emod_nonneg _ (by decide)) (Int.emod_lt_of_pos _ (by decide));refine⟨x,x0,?_⟩;rw[jzK];simp only[evz,hlt,hx,c0,c1,c2,r,h5,e]
 obtain⟨x,x0,e⟩:=key 0 (Nat.zero_le _) 17 (by decide) (by decide);refine⟨x,x0,?_⟩;rw[jHd];simp only[Int.natCast_zero]at e;exact e
end
noncomputable def jpP(code:Xi)(n:Xb)(vs:Xi):Int:=match G 117 [bts code,sv n,nbs vs]with|some (.val (.int _ x),_)=>x|_=>0
theorem jw2{code:Xi}(hb:By code)(n:Xb)(hn:n.length<=4000000)(vs:Xi)(hvs:∀v∈vs,0<=v/\v<=10)(hl:vs.length<=4000000):0<=jpP code n vs/\G 117 [bts code,sv n,nbs vs]=some (vi (jpP code n vs),[]):=by
 obtain⟨x,x0,e⟩:=jC6 hb n hn vs hvs hl;have:jpP code n vs=x:=by unfold jpP;rw[e]
 rw[this];exact⟨x0,e⟩
noncomputable abbrev jhA(code:Xi)(s:Int):Xb->Xi->Int:=λn vs=>jpP code n vs % s
abbrev Env:=List (Xb×Int)
abbrev ev(E:Env):A:= .agg [.sl 1 (E.map λp=>cs p.1),.sl 1 (E.map λp=>ci p.2)]
def jg0(E:Env)(n:Xb):Int:=E.foldl (λa p=>if p.1=n then p.2 else a) 0
theorem jxO(E:Env)(p:Xb×Int)(n:Xb):jg0 (E++[p]) n=if p.1=n then p.2 else jg0 E n:=by
 unfold jg0;rw[List.foldl_append];rfl
theorem jCt(E:Env)(hl:E.length<=4000000)(n:Xb):G 163 [ev E,sv n]=some (vi (jg0 E n),[]):=by
 have key:∀k,k<=E.length->jrV (sv n) (vi ((k:Nat)-1:Int)) (.sl 1 (E.map λp=>cs p.1)) (.sl 1 (E.map λp=>ci p.2))=some (vi (jg0 (E.take k) n),[]):=by
  intro k;induction k with
  |zero=>
   intro _;have h:¬(0:Int)<=((0:Nat):Int)-1:=by omega
   rw[jzW];simp only[evz,h];rfl
  |succ k ih=>
   intro hk;have hk':k<E.length:=by omega
   have h:(0:Int)<=(k:Int):=by omega
   have e1:((k+1:Nat):Int)-1=(k:Int):=by omega
   have c1:ck ((k:Int)-1)=some (vi ((k:Int)-1)):=jeY (by omega) (by omega);have i1:=jaa (k:=1) (f:=λp:Xb×Int=>cs p.1) hk';have i2:=jaa (k:=1) (f:=λp:Xb×Int=>ci p.2) hk';rw[e1,jzW,List.take_succ_eq_append_getElem hk',jxO];by_cases hn:E[k].1=n
   .rw [jc6 hn];simp only[evz,h,i1,i2,hn]
   .rw [ko hn,<-ih (by omega)];simp only[evz,h,i1,i2,hn,c1]
 have:=key E.length (jl _);rw[List.take_length]at this;have c1:ck (((E.length:Nat):Int)-1)=some (vi (((E.length:Nat):Int)-1)):=jeY (by omega) (by omega);rw[jHL];simp only[evz,c1,this]
theorem jnI{code:Xi}(s:Int)(hs:1<=s)(n:Xb)(vs:Xi):0<=jhA code s n vs/\jhA code s n vs<s:=⟨Int.emod_nonneg _ (by omega),Int.emod_lt_of_pos _ (by omega)⟩
theorem jq9{c:UInt8}{r:Xb} :YM (sv (c::r)) (vi 0)=some (vy (c.toNat:Int)):=jhO
section
variable{code:Xi}(hb:By code)
include hb
theorem juR(s:Int)(hs:1<=s/\s<=10)(E:Env)(hE:∀x,0<=jg0 E x/\jg0 E x<s)(n:Xb)(hn:n.length<=1048576)(us:Xg)(hl:us.length<=1048576)(ih:∀u∈us,G 116 [bts code,vi s,ev E,tm u]=some (vi (val (jhA code s) (jg0 E) u),[])) :
  jns (bts code) (vi s) (vi 0) (.sl 1 (E.map λp=>cs p.1)) (.sl 1 (E.map λp=>ci p.2)) (sv n) (tms us) []=some (vi (jhA code s n (us.map (val (jhA code s) (jg0 E)))),[]):=by
 have key:=upto (P:=λi=>jns (bts code) (vi s) (vi (i:Nat)) (.sl 1 (E.map λp=>cs p.1)) (.sl 1 (E.map λp=>ci p.2)) (sv n) (tms us) (((us.take i).map (val (jhA code s) (jg0 E))).map ci)=some (vi (jhA code s n (us.map (val (jhA code s) (jg0 E)))),[])) (n:=us.length) ?_ ?_ 0 (Nat.zero_le _)
 .exact key
 .have hv:∀v∈us.map (val (jhA code s) (jg0 E)),0<=v/\v<=10:=by
   intro v hv;obtain⟨u,_,rfl⟩:=jN.1 hv;have:=jqj (good:=λv=>0<=v/\v<s) (M:=jhA code s) (jnI s hs.1) hE u;omega
  obtain⟨m0,me⟩:=jw2 hb n (by omega) _ hv (by rw[jbw];omega)
  have r:=jqz (x:=jpP code n (us.map (val (jhA code s) (jg0 E)))) (n:=s) m0 hs.1;rw[List.take_length,jzJ];generalize us.map (val (jhA code s) (jg0 E))=vs at *;show _=some (vi (jpP code n vs % s),[]);simp only[evz,me,r]
 .intro i hi ihi;have hlt:(i:Int)<((us.length:Nat):Int):=by omega
  have h5:=jef hi (by show us.length<=9223372036854775807;omega)
  have e1:=ih us[i] (jcF hi);have f:jcK (i+1) 8=true:=jCO (by omega);have hmin:min i us.length=i:=by omega
  rw[List.take_succ_eq_append_getElem hi,jv,jv,show([us[i]].map (val (jhA code s) (jg0 E))).map ci=[[vi (val (jhA code s) (jg0 E) us[i])]] from rfl]at ihi;rw[jzJ];generalize val (jhA code s) (jg0 E) us[i]=v at *;have ihi:jns (bts code) (vi s) (vi ((i+1:Nat):Int)) (.sl 1 (E.map λp=>cs p.1)) (.sl 1 (E.map λp=>ci p.2)) (sv n) (tms us) (jgo (((us.take i).map (val (jhA code s) (jg0 E))).map ci) [[vi v]])=_:=ihi;have hlen:(((us.take i).map (val (jhA code s) (jg0 E))).map ci).length=i:=by simp[hmin]
  generalize ((us.take i).map (val (jhA code s) (jg0 E))).map ci=R at *;have f2:jcK (R.length+1) 8=true:=by rw[hlen];exact f
  simp only[evz,hlt,jaa hi,ja1,e1,h5,f2,ihi]
theorem jyv(s:Int)(hs:1<=s/\s<=10)(E:Env)(hEl:E.length<=4000000)(hE:∀x,0<=jg0 E x/\jg0 E x<s):∀t:T,Tz t->G 116 [bts code,vi s,ev E,tm t]=some (vi (val (jhA code s) (jg0 E) t),[]):=by
 refine T.ind λt ih ht=>?_;have hz:=ht;unfold Tz at hz;rw[jgG]at hz;have e0:=juR hb s hs E hE t.name (by omega) t.args (by omega) λu hu=>ih u hu (ht.args u hu);have e1:=jCt E hEl t.name;rw[jHc,jlB];cases ha:t.args with
 |cons u us=>
  rw[ha]at e0;have hne:¬(((u::us).length:Nat):Int)=0:=by rw[yv];omega
  rw[show(u::us).isEmpty=false from rfl,Bool.false_and,ko Bool.false_ne_true];generalize u::us=vs at *;simp only[evz,ha,hne,e0]
 |nil=>
  rw[ha]at e0;rw[show([]:Xg).isEmpty=true from rfl,Bool.true_and];cases hn:t.name with
  |nil=>
   rw[hn]at e0;rw[show upN []=false from rfl,ko Bool.false_ne_true];have z1:(((([]:Xg).length:Nat):Int)=0):=rfl;have z2:¬(0:Int)<((0:Nat):Int):=by decide
   generalize hE0:([]:Xg)=vs at *;simp only[evz,ha,hn,z1,z2,e0]
  |cons c r=>
   rw[hn]at e0 e1;have hpos:(0:Int)<(((c::r).length:Nat):Int):=Int.natCast_pos.2 (Nat.succ_pos _);have hx:=jq9 (c:=c) (r:=r);have hu:upN (c::r)=(decide ((65:Int)<=(c.toNat:Int)) && decide ((c.toNat:Int)<=90)):=rfl;rw[hu];have z1:(((([]:Xg).length:Nat):Int)=0):=rfl;generalize hE0:([]:Xg)=vs at *;generalize c::r=nm at *;by_cases h1:(65:Int)<=(c.toNat:Int)
   .by_cases h2:(c.toNat:Int)<=90
    .rw [decide_eq_true h1,decide_eq_true h2,Bool.and_self,jc6 rfl];simp only[evz,ha,hn,z1,hpos,hx,h1,h2,e1]
    .rw [decide_eq_true h1,decide_eq_false h2,Bool.and_false,ko Bool.false_ne_true];simp only[evz,ha,hn,z1,hpos,hx,h1,h2,e0]
   .rw [decide_eq_false h1,Bool.false_and,ko Bool.false_ne_true];simp only[evz,ha,hn,z1,hpos,hx,h1,e0]
end
theorem jC9(l:Xa)(n:Xb):(vnA l n).length<=l.length+1:=by
 unfold vnA;split
 .omega
 .simp
theorem jsS:∀(t:T)(l:Xa),(vn l t).length<=l.length+nodes t:=by
 refine T.ind λt ih l=>?_;have hn:=jfj t;rw[jxu];split
 .have:=jC9 l t.name;omega
 .have key:∀us:Xg,(∀u∈us,u∈t.args)-> ∀l:Xa,(vnL l us).length<=l.length+jdi us:=by
   intro us;induction us with
   |nil=>intro _ l;simp[vnL,jdi]
   |cons u us ih2=>
    intro hu l;have h1:=ih u (hu u (by simp)) l;have h2:=ih2 (λv hv=>hu v (by simp[hv])) (vn l u);rw[vnL,jdi];omega
  have:=key t.args (λ_ h=>h) l;omega
theorem jvX(n:Xb)(x:A)(hx:n.length<=1048576)(l:Xa)(hl:l.length<=4000000):jlJ (vi 0) (sv n) x (l.map cs)=some (.top,[.sl 1 ((vnA l n).map cs)]):=by
 have key:=upto (P:=λi=>jlJ (vi (i:Nat)) (sv n) x (l.map cs)=some (.top,[.sl 1 ((if(l.drop i).contains n then l else l++[n]).map cs)])) (n:=l.length) ?_ ?_ 0 (Nat.zero_le _)
 .exact key
 .have f:jcK (l.length+1) 16=true:=jEU (by omega);rw[jwZ,List.drop_length,show([]:Xa).contains n=false from rfl,ko Bool.false_ne_true,jv];simp only[evz,f];rfl
 .intro i hi ih;have hlt:(i:Int)<((l.length:Nat):Int):=by omega
  have h5:=jef hi (by show l.length<=9223372036854775807;omega)
  have x1:pIx l.length (vi ((i:Nat):Int))=some i:=jg7 hi;have x2:=jt6 hi;rw[jwZ,jdb hi,List.contains_cons];by_cases he:l[i]=n
  .rw [<-he,beq_self_eq_true,Bool.true_or,jc6 rfl];rw[he]at x2⊢;simp only[evz,hlt,x1,x2]
  .have hne:(n == l[i])=false:=by
    cases h:(n == l[i])with
    |false=>rfl
    |true=>exact absurd (eq_of_beq h).symm he
   rw[hne,Bool.false_or,<-ih];simp only[evz,hlt,x1,x2,he,h5]
theorem jro:∀t:T,Tz t-> ∀l:Xa,l.length+nodes t<=4000000->jsY (tm t) (l.map cs)=some (.top,[.sl 1 ((vn l t).map cs)]):=by
 refine T.ind λt ih ht l hl=>?_;have hz:=ht;unfold Tz at hz;rw[jgG]at hz;have hn:=jfj t;have e1:∀x,jlJ (vi 0) (sv t.name) x (l.map cs)=_:=λx=>jvX t.name x (by omega) l (by omega);have key:=upto (P:=λi=>∀l:Xa,l.length+jdi (t.args.drop i)<=4000000->joE (vi (i:Nat)) (sv t.name) (tms t.args) (l.map cs)=some (.top,[.sl 1 ((vnL l (t.args.drop i)).map cs)])) (n:=t.args.length) ?_ ?_ 0 (Nat.zero_le _);rotate_left
 .intro l _;rw[jss,List.drop_length];simp only[evz];rfl
 .intro i hi ihi l hl;have hlt:(i:Int)<((t.args.length:Nat):Int):=by omega
  have h5:=jef hi (by show t.args.length<=9223372036854775807;omega)
  rw[jdb hi,jdi]at hl;have q:=ih t.args[i] (jcF hi) (ht.args _ (jcF hi)) l (by omega);have hln:=jsS t.args[i] l;have q2:=ihi (vn l t.args[i]) (by omega);rw[jss,jdb hi,vnL];generalize vn l t.args[i]=l' at *;have hr:hR 1 (A.top,[.sl 1 (l'.map cs)]) 0=some (l'.map cs):=rfl;simp only[evz,hlt,jaa hi,ja1,q,hr,h5,q2]
 have e2:joD (vi 0) (sv t.name) (tms t.args) (l.map cs)=some (.top,[.sl 1 ((vnL l t.args).map cs)]):=by
  have key:=key l (by rw[List.drop_zero];omega)
  rw[List.drop_zero]at key;have:joD (vi 0) (sv t.name) (tms t.args) (l.map cs)=joE (vi 0) (sv t.name) (tms t.args) (l.map cs):=by rw[jCF,jss]
  rw[this];exact key
 rw[jFK,jxu];cases ha:t.args with
 |cons u us=>
  rw[ha]at e2;have hne:¬(((u::us).length:Nat):Int)=0:=by rw[yv];omega
  rw[show(u::us).isEmpty=false from rfl,Bool.false_and,ko Bool.false_ne_true];generalize u::us=vs at *;simp only[evz,ha,hne,e2]
 |nil=>
  rw[ha]at e2;rw[show([]:Xg).isEmpty=true from rfl,Bool.true_and];cases hnm:t.name with
  |nil=>
   rw[hnm]at e2;rw[show upN []=false from rfl,ko Bool.false_ne_true];have z1:(((([]:Xg).length:Nat):Int)=0):=rfl;have z2:¬(0:Int)<((0:Nat):Int):=by decide
   generalize hE0:([]:Xg)=vs at *;simp only[evz,ha,hnm,z1,z2,e2]
  |cons c r=>
   rw[hnm]at e1 e2;have hpos:(0:Int)<(((c::r).length:Nat):Int):=Int.natCast_pos.2 (Nat.succ_pos _);have hx:=jq9 (c:=c) (r:=r);have hu:upN (c::r)=(decide ((65:Int)<=(c.toNat:Int)) && decide ((c.toNat:Int)<=90)):=rfl;rw[hu];have z1:(((([]:Xg).length:Nat):Int)=0):=rfl;generalize hE0:([]:Xg)=vs at *;generalize c::r=nm at *;by_cases h1:(65:Int)<=(c.toNat:Int)
   .by_cases h2:(c.toNat:Int)<=90
    .rw [decide_eq_true h1,decide_eq_true h2,Bool.and_self,jc6 rfl];simp only[evz,ha,hnm,z1,hpos,hx,h1,h2,e1]
    .rw [decide_eq_true h1,decide_eq_false h2,Bool.and_false,ko Bool.false_ne_true];simp only[evz,ha,hnm,z1,hpos,hx,h1,h2,e2]
   .rw [decide_eq_false h1,Bool.false_and,ko Bool.false_ne_true];simp only[evz,ha,hnm,z1,hpos,hx,h1,e2]
theorem jGp{x n:Int}(h0:0<=x)(hn:1<=n)(hx:x<=9223372036854775807):jeH .quo false (vi x) (vi n)=some (vi (x / n)):=by
 show(if n=0 then none else ck (x.tdiv n))=_;rw[ko (by omega),Int.tdiv_eq_ediv_of_nonneg h0,jeY]
 .have:=Int.ediv_nonneg h0 (show(0:Int)<=n by omega);omega
 .have:=Int.ediv_le_self n h0;omega
theorem jzd{n:Nat}(hn:1<=n):∀(l k:Nat),∀v∈dec n l k,v<n
 |0,_,v,h=>by cases h
 |l+1,k,v,h=>by
  rw[dec]at h;rcases yN.1 h with rfl|h
  .exact Nat.mod_lt _ (by omega)
  .exact jzd hn l _ v h
theorem jwF(n:Nat):∀l k:Nat,(dec n l k).length=l
 |0,_=>rfl
 |l+1,k=>by rw[dec,yv,jwF n l]
theorem jxN{s:Int}(hs:1<=s){E:Env}(h:∀p∈E,0<=p.2/\p.2<s)(x:Xb):0<=jg0 E x/\jg0 E x<s:=by
 have key:∀(E:Env)(a:Int),(0<=a/\a<s)->(∀p∈E,0<=p.2/\p.2<s)->0<=E.foldl (λa p=>if p.1=x then p.2 else a) a/\E.foldl (λa p=>if p.1=x then p.2 else a) a<s:=by
  intro E;induction E with
  |nil=>intro a ha _;exact ha
  |cons p E ih=>
   intro a ha h;rw[List.foldl_cons];refine ih _ ?_ λq hq=>h q (by simp[hq]);split
   .exact h p (by simp)
   .exact ha
 exact key E 0 ⟨by omega,by omega⟩ h
theorem jzs(f:Xb->Int){l:Xa}{x:Xb}(hx:x∈l):jg0 (l.map λn=>(n,f n)) x=f x:=by
 have key:∀(l:Xa)(a:Int),(x∈l\/a=f x)->(l.map λn=>(n,f n)).foldl (λa (p:Xb×Int)=>if p.1=x then p.2 else a) a=f x:=by
  intro l;induction l with
  |nil=>intro a h;exact h.elim (λh=>absurd h jby) id
  |cons n l ih=>
   intro a h;rw[j5,List.foldl_cons];refine ih _ ?_;show x∈l\/(if n=x then f n else a)=f x;by_cases hn:n=x
   .right;rw[jc6 hn,hn]
   .rw [ko hn];rcases h with h|h
    .rcases yN.1 h with h|h
     .exact absurd h.symm hn
     .exact Or.inl h
    .exact Or.inr h
 exact key l 0 (Or.inl hx)
theorem jnl{α β:Type}(f:α->β):∀l:List α,l.zip (l.map f)=l.map λx=>(x,f x)
 | []=>rfl
 |x::l=>by rw[j5,List.zip_cons_cons,jnl f l,j5]
def jnB(s:Nat)(names:Xa)(k:Nat):Env:=names.zip ((dec s names.length k).map λv=>((v:Nat):Int))
theorem jqP{s:Nat}(hs:1<=s)(names:Xa)(k:Nat)(x:Xb):0<=jg0 (jnB s names k) x/\jg0 (jnB s names k) x<(s:Int):=by
 refine jxN (by omega) (λp hp=>?_) x;obtain⟨v,hv,e⟩:=jN.1 (List.of_mem_zip hp).2;have:=jzd hs _ _ v hv;rw[<-e];omega
theorem jzo{s:Nat}(hs:1<=s)(names:Xa)(e:Xb->Int)(he:∀x,0<=e x/\e x<(s:Int)):∃k,k<s ^ names.length/\ ∀x∈names,jg0 (jnB s names k) x=e x:=by
 have hv:∀v∈names.map (λx=>(e x).toNat),v<s:=by
  intro v hv;obtain⟨x,_,rfl⟩:=jN.1 hv;have:=he x;omega
 refine⟨enc s (names.map λx=>(e x).toNat),?_,λx hx=>?_⟩
 .have:=jzn hs _ hv;rwa[jbw]at this
 .have h1:=jwE hs _ hv;rw[jbw]at h1;unfold jnB;rw[h1,jbx,jnl,jzs _ hx];have:=he x;show(((e x).toNat:Nat):Int)=e x;omega
theorem jzp(s:Nat)(names:Xa)(k:Nat):(jnB s names k).length=names.length:=by
 unfold jnB;rw[List.length_zip,jbw,jwF,Nat.min_self]
section
variable{code:Xi}(hb:By code)
include hb
omit hb in
theorem jBt(n:Xb)(v:Int)(E:Env)(hl:E.length<=1000000):jyN (sv n) (vi v) (E.map λp=>cs p.1) (E.map λp=>ci p.2)=some (.top,[.sl 1 (E.map λp=>cs p.1),.sl 1 (E.map λp=>ci p.2),.sl 1 ((E++[(n,v)]).map λp=>cs p.1),.sl 1 ((E++[(n,v)]).map λp=>ci p.2)]):=by
 have f1:jcK E.length 16=true:=jEU (by omega);have f2:jcK E.length 8=true:=jCO (by omega);have f3:jcK (E.length+1) 16=true:=jEU (by omega);have f4:jcK (E.length+1) 8=true:=jCO (by omega);rw[jFL];simp only[evz,f1,f2,f3,f4,jv];rfl
omit hb in
theorem juO(s:Nat)(hs:1<=s/\s<=3)(al k:A)(X:A)(names:Xa)(hn:names.length<=1000):∀(m i rest:Nat)(E:Env),i+m=names.length->E.length=i->rest<=1000000000->
  jwh (bts code) (vi (s:Nat)) al k (vi (rest:Nat)) (vi (i:Nat)) X (names.map cs) (E.map λp=>cs p.1) (E.map λp=>ci p.2) =
  js1 (bts code) (vi (s:Nat)) al k (vb false) (vi 0) X (names.map cs) ((E++(names.drop i).zip ((dec s m rest).map λv=>((v:Nat):Int))).map λp=>cs p.1) ((E++(names.drop i).zip ((dec s m rest).map λv=>((v:Nat):Int))).map λp=>ci p.2):=by
 intro m;induction m with
 |zero=>
  intro i rest E hi hE hr;have hlt:¬(i:Int)<((names.length:Nat):Int):=by omega
  rw[dec,List.map_nil,List.zip_nil_right,ZE,jDu];simp only[evz,hlt]
 |succ m ih=>
  intro i rest E hi hE hr;have hi':i<names.length:=by omega
  have hlt:(i:Int)<((names.length:Nat):Int):=by omega
  have h5:=jef hi' (by show names.length<=9223372036854775807;omega)
  have x1:pIx names.length (vi ((i:Nat):Int))=some i:=jg7 hi';have x2:=jt6 hi';have r1:=jqz (x:=((rest:Nat):Int)) (n:=((s:Nat):Int)) (by omega) (by omega);have r2:=jGp (x:=((rest:Nat):Int)) (n:=((s:Nat):Int)) (by omega) (by omega) (by omega);rw[<-Int.natCast_emod]at r1;rw[<-Int.natCast_ediv]at r2;have w:=jBt names[i] ((rest % s:Nat):Int) E (by omega);have hd:rest / s<=1000000000:=ZD (Nat.div_le_self _ _) hr;have q:=ih (i+1) (rest / s) (E++[(names[i],((rest % s:Nat):Int))]) (by omega) (by rw[yM,List.length_singleton,hE]) hd;rw[dec,jdb hi',j5,List.zip_cons_cons,show E++(names[i],((rest % s:Nat):Int))::((names.drop (i+1)).zip ((dec s m (rest / s)).map λv=>((v:Nat):Int)))=(E++[(names[i],((rest % s:Nat):Int))])++(names.drop (i+1)).zip ((dec s m (rest / s)).map λv=>((v:Nat):Int)) by rw[jbs];rfl,<-q,jDu];generalize hE':E++[(names[i],((rest % s:Nat):Int))]=E' at *;have hR:∀a b c d:Xc,hR 1 (A.top,[.sl 1 a,.sl 1 b,.sl 1 c,.sl 1 d]) 0=some a/\hR 1 (A.top,[.sl 1 a,.sl 1 b,.sl 1 c,.sl 1 d]) 1=some b/\hR 1 (A.top,[.sl 1 a,.sl 1 b,.sl 1 c,.sl 1 d]) 2=some c/\hR 1 (A.top,[.sl 1 a,.sl 1 b,.sl 1 c,.sl 1 d]) 3=some d:=λ_ _ _ _=>⟨rfl,rfl,rfl,rfl⟩;obtain⟨z0,z1,z2,z3⟩:=hR (E.map λp=>cs p.1) (E.map λp=>ci p.2) (E'.map λp=>cs p.1) (E'.map λp=>ci p.2);simp only[evz,hlt,x1,x2,r1,r2,h5,w,z0,z1,z2,z3]
end
def R3(S:Xa)(r:T):Prop:=r.name=[61]/\r.args.length=2/\Tz r/\(okT (jk1 r)=true/\VIn S (jk1 r))/\okT (jk3 r)=true/\VIn S (jk3 r)
def jIz(code:Xi)(s:Int)(r:T):Prop:=∀e:Xb->Int,(∀x,0<=e x/\e x<s)->val (jhA code s) e (jk1 r)=val (jhA code s) e (jk3 r)
section
variable{code:Xi}(hb:By code)
include hb
end
def MD(code:Xi)(z q:Nat)(a:Int)(o:Xe):Prop:=∃a' s' t,a<=a'/\a'<=a+(q:Nat)/\(tsz t<=z/\nmT t=true)/\o=some (.top,[bts code,vi a',vu s',tm t])
def fT(n:Xb):T:= .mk [102] [.mk n []]
def hT:T:= .mk [104] [fT [97],fT [97],fT [97],fT [97]]
def gT(us:Xg):T:= .mk [103] us
section
variable{code:Xi}(hb:By code)
include hb
theorem jDd(a s:Int)(h0:0<=a)(h1:a<=999990000):MD code 200 2 a (jrC (bts code) (vi a) (vu s)):=by
 obtain⟨a1,s1,b1,q1,q2,e1⟩:=jhV hb 2 (by decide) (by decide) a s h0 (by omega);obtain⟨a2,s2,b2,r1,r2,e2⟩:=jhV hb 2 (by decide) (by decide) a1 s1 (by omega) (by omega);have inner:∀(x y:Int)(r1:Xc),x+1=y->0<=x->x<4->r1.length<=10->jmz (vi x) (vi 0) (bts code) (vi a) (vu s) (sv []) (sv [103]) (sv [104]) [] r1 []=jla (vi y) (bts code) (vi a) (vu s) (sv []) (sv [103]) [] (r1++[jdd hT]):=by
  intro x y r1 hxy hx hi hr;have hf:jcK (r1.length+1) 40=true:=jsB (by omega);have c5:ck (x+1)=some (vi y):=by rw[hxy];exact jeY (by omega) (by omega)
  have k1:ck ((0:Int)+1)=some (vi 1):=jeY (by decide) (by decide);have k2:ck ((1:Int)+1)=some (vi 2):=jeY (by decide) (by decide);have k3:ck ((2:Int)+1)=some (vi 3):=jeY (by decide) (by decide);have k4:ck ((3:Int)+1)=some (vi 4):=jeY (by decide) (by decide);have f1:jcK (0+1) 40=true:=rfl;have f2:jcK (1+1) 40=true:=rfl;have f3:jcK (2+1) 40=true:=rfl;have f4:jcK (3+1) 40=true:=rfl;have l0:((0:Int)<4)=True:=by simp
  have l1:((1:Int)<4)=True:=by simp
  have l2:((2:Int)<4)=True:=by simp
  have l3:((3:Int)<4)=True:=by simp
  rw[jlp];simp only[evz,l0,f1,k1];rw[jlp];simp only[evz,l1,f2,k2,jgo];rw[jlp];simp only[evz,l2,f3,k3,jgo];rw[jlp];simp only[evz,l3,f4,k4,jgo];rw[jlp];simp only[evz,hf,c5,jgo];rfl
 have l0:((0:Int)<4)=True:=by simp
 have l1:((1:Int)<4)=True:=by simp
 have l2:((2:Int)<4)=True:=by simp
 have l3:((3:Int)<4)=True:=by simp
 have head:jrC (bts code) (vi a) (vu s)=jla (vi 4) (bts code) (vi a) (vu s) (sv []) (sv [103]) [] [jdd hT,jdd hT,jdd hT,jdd hT]:=by
  rw[jEp,jlo];simp only[evz,l0];rw[inner 0 1 [] (by decide) (by decide) (by decide) (by decide),jlo];simp only[evz,l1];rw[inner 1 2 _ (by decide) (by decide) (by decide) (by decide),jlo];simp only[evz,l2];rw[inner 2 3 _ (by decide) (by decide) (by decide) (by decide),jlo];simp only[evz,l3];rw[inner 3 4 _ (by decide) (by decide) (by decide) (by decide)];rfl
 rw[head,jlo];have n4:((4:Int)<4)=False:=by simp
 cases b1 with
 |true=>
  cases b2 with
  |true=>
   refine⟨a2,s2,gT [hT,hT,hT,fT [98]],by omega,by omega,by decide,?_⟩;simp only[evz,n4,e1,e2,List.getElem?_cons_zero,List.getElem?_cons_succ];rfl
  |false=>
   refine⟨a2,s2,gT [hT,hT,hT],by omega,by omega,by decide,?_⟩;simp only[evz,n4,e1,e2,List.getElem?_cons_zero,List.getElem?_cons_succ];rfl
 |false=>
  refine⟨a2,s2,gT [hT,hT,hT,hT],by omega,by omega,by decide,?_⟩;cases b2<;>simp only[evz,n4,e1,e2,List.getElem?_cons_zero,List.getElem?_cons_succ]<;>rfl
theorem jvf(a s:Int)(h0:0<=a)(h1:a<=999980000):MD code 1000 1200 a (ju7 (bts code) (vi a) (vu s)):=by
 obtain⟨a1,s1,t1,q1,q2,q3,e1⟩:=jlR hb a s h0 (by omega);obtain⟨a2,s2,x,r1,r2,x0,x1,e2⟩:=jg9 hb 24 (by decide) (by decide) a1 s1 (by omega) (by omega);have hz:=jgG t1;rw[jEl];by_cases y0:x=0
 .subst y0;obtain⟨a3,s3,w,hw,u1,u2,e⟩:=jtZ hb [[],[116,114,117,101],[116,114,117,116,104],[105,102],[88,121,122,57],[88,121,122,57,57],[120,65],[97,95,98],[97,98,99,100,101,102],[97,98,99,100,101,102,103],[95,97],[57],[88,95],[61]] (by decide) (by decide) a2 s2 (by omega) (by omega);have hl:w.length<=7/\jkl w=true:=(show ∀w∈([[],[116,114,117,101],[116,114,117,116,104],[105,102],[88,121,122,57],[88,121,122,57,57],[120,65],[97,95,98],[97,98,99,100,101,102],[97,98,99,100,101,102,103],[95,97],[57],[88,95],[61]]:Xa),w.length<=7/\jkl w=true by decide) w hw;have e:ji8 (bts code) (vi a2) (vu s2) [[sv []],[sv [116,114,117,101]],[sv [116,114,117,116,104]],[sv [105,102]],[sv [88,121,122,57]],[sv [88,121,122,57,57]],[sv [120,65]],[sv [97,95,98]],[sv [97,98,99,100,101,102]],[sv [97,98,99,100,101,102,103]],[sv [95,97]],[sv [57]],[sv [88,95]],[sv [61]]]=some (.top,[bts code,vi a3,vu s3,sv w]):=e;refine⟨a3,s3,.mk w t1.args,by omega,by omega,⟨by rw[jif];omega,jtW hl.2 (nmA q3.2)⟩,?_⟩;simp only[evz,e1,e2,e,List.getElem?_cons_zero,List.getElem?_cons_succ,jhF];rfl
 by_cases y1:x=1
 .subst y1;obtain⟨a3,s3,y,u1,u2,u3,u4,e3⟩:=jg9 hb 3 (by decide) (by decide) a2 s2 (by omega) (by omega);obtain⟨k,hk⟩:∃k:Nat,7+y=(k:Nat):=⟨(7+y).toNat,by omega⟩;have c1:ck (7+y)=some (vi (k:Nat)):=by rw[hk];exact jeY (by omega) (by omega)
  obtain⟨a4,s4,t4,v1,v2,v3,e4⟩:=jBf hb k (by omega) a3 s3 (by omega) (by omega);refine⟨a4,s4,t4,by omega,by omega,⟨by omega,v3.2⟩,?_⟩;simp only[evz,y0,e1,e2,e3,c1,e4,List.getElem?_cons_zero,List.getElem?_cons_succ,jhF]
 by_cases y2:x=2
 .subst y2;obtain⟨a3,s3,t3,u1,u2,u3,e3⟩:=jDd hb a2 s2 (by omega) (by omega);refine⟨a3,s3,t3,by omega,by omega,⟨by omega,u3.2⟩,?_⟩;simp only[evz,y0,y1,e1,e2,e3,List.getElem?_cons_zero,List.getElem?_cons_succ,jhF]
 by_cases y3:x=3
 .subst y3;obtain⟨a3,s3,t3,u1,u2,u3,e3⟩:=jlR hb a2 s2 (by omega) (by omega);obtain⟨a4,s4,t4,v1,v2,v3,e4⟩:=jlR hb a3 s3 (by omega) (by omega);obtain⟨a5,s5,t5,w1,w2,w3,e5⟩:=jlR hb a4 s4 (by omega) (by omega);have hf:jcK (t1.args.length+3) 40=true:=jsB (by omega);have hsz:∀us:Xg,jhv (us++[t3,t4,t5])=jhv us+(tsz t3+(tsz t4+tsz t5)):=by
   intro us;induction us with
   |nil=>simp[jhv]
   |cons u us ih=>simp only[jG,jhv];omega
  refine⟨a5,s5,.mk t1.name (t1.args++[t3,t4,t5]),by omega,by omega,⟨by rw[jif,hsz,yM,yv,yv,yv,jgS];omega,jtW (nmN q3.2) (by rw[jpS,nmA q3.2,jjM,u3.2,jjM,v3.2,jjM,w3.2];rfl)⟩,?_⟩
  simp only[evz,y0,y1,y2,e1,e2,e3,e4,e5,hf,jbw,List.getElem?_cons_zero,List.getElem?_cons_succ,jhF];show _=some (A.top,[bts code,vi a5,vu s5,A.agg [sv t1.name,.sl 2 ((t1.args++[t3,t4,t5]).map jdd)]]);rw[jv,j5,j5,j5,jfY t3,jfY t4,jfY t5];rfl
 by_cases y4:x=4
 .subst y4;cases ht:t1.args with
  |nil=>
   rw[ht]at e1;refine⟨a2,s2,t1,by omega,by omega,⟨by omega,q3.2⟩,?_⟩;simp only[evz,y0,y1,y2,y3,e1,e2,Int.natCast_zero,List.map_nil,List.getElem?_cons_zero,List.getElem?_cons_succ,jhF];rw[show tm t1=A.agg [sv t1.name,.sl 2 (t1.args.map jdd)] from rfl,ht];rfl
  |cons u us=>
   rw[ht]at e1 hz;obtain⟨a3,s3,w,hw,u1,u2,e⟩:=jtZ hb [[61],[],[81,49],[98,50]] (by decide) (by decide) a2 s2 (by omega) (by omega);have hl:w.length<=2/\jkl w=true:=(show ∀w∈([[61],[],[81,49],[98,50]]:Xa),w.length<=2/\jkl w=true by decide) w hw;have e:ji8 (bts code) (vi a2) (vu s2) [[sv [61]],[sv []],[sv [81,49]],[sv [98,50]]]=some (.top,[bts code,vi a3,vu s3,sv w]):=e;have hu:=jgG u;simp only[jhv,yv]at hz;refine⟨a3,s3,.mk t1.name (.mk w u.args::us),by omega,by omega,⟨by rw[jif];simp only[jhv,yv,jif];omega,?_⟩,?_⟩
   .have h1:=nmA q3.2;rw[ht,jjM,Yn]at h1;exact jtW (nmN q3.2) (by rw[jjM,jtW hl.2 (nmA h1.1),h1.2];rfl)
   have x2:pIx (us.length+1) (vi 0)=some 0:=jg7 (i:=0) (by omega);have x3:jec (jdd u::us.map jdd) 0 1=some (tms u.args):=by rw[jfY];rfl
   have x4:(0:Int)<((us.length+1:Nat):Int):=by omega
   simp only[evz,y0,y1,y2,y3,e1,e2,e,j5,yv,jbw,x2,x3,x4,List.getElem?_cons_zero,List.getElem?_cons_succ,jhF];generalize hB:JY _ _ _=B;have hB':B=some (.agg [sv w,tms u.args]):=by rw[<-hB];kernel_rfl
   rw[hB'];simp only[evz,jfx,jau,jmL,List.getElem?_cons_zero,List.getElem?_cons_succ,jhF];rw[jfY];show some (A.top,[bts code,vi a3,vu s3,A.agg [sv t1.name,A.sl 2 (jfg [sv u.name,A.sl 2 (List.map jdd u.args)] 0 [sv w,tms u.args]::List.map jdd us)]])=some (A.top,[bts code,vi a3,vu s3,A.agg [sv t1.name,.sl 2 (jdd (.mk w u.args)::us.map jdd)]]);rw[jmL,jfY];rfl
 .refine ⟨a2,s2,t1,by omega,by omega,⟨by omega,q3.2⟩,?_⟩;simp only[evz,e1,e2,y0,y1,y2,y3,y4,List.getElem?_cons_zero,List.getElem?_cons_succ,jhF]
end
theorem jun{α:Type}(f:α->Xd)(l:List α):jbR (l.map f)=l.length:=jbw ..
def OD(code:Xi)(q:Nat)(a:Int)(o:Xe):Prop:=∃a' s' r,a<=a'/\a'<=a+(q:Nat)/\owf r/\o=some (.top,[bts code,vi a',vu s',od r])
section
variable{code:Xi}(hb:By code)
include hb
end
def PD(code:Xi)(z q:Nat)(a:Int)(o:Xe):Prop:=∃a' s' t u,a<=a'/\a'<=a+(q:Nat)/\tsz t<=z/\tsz u<=z/\o=some (.top,[bts code,vi a',vu s',.tup [tm t,tm u]])
section
variable{code:Xi}(hb:By code)
include hb
end
section
variable{code:Xi}(hb:By code)
include hb
end
theorem jxb(u:List (Xb×T))(hl:u.length<=1000)(i:Nat)(hi:i<=u.length) :
  pB u.length u.length (some (vi (i:Nat)))=some i/\jgq (u.map bc) 0 i=(u.take i).map bc/\jcK (u.take i).length 56=true/\pB u.length u.length none=some u.length/\pB 0 u.length (some (vi (i:Nat)))=some i/\jgq (u.map bc) i (u.length-i)=(u.drop i).map bc/\jfy (u.map bc) 0=u.length/\jcK ((u.take i).length+1) 56=true/\jcK ((u.take i).length+1+(u.drop i).length) 56=true:=by
 refine⟨jhY hi,by rw[jgq,List.drop_zero,List.map_take],jvJ (by rw[List.length_take];omega),jg6 (jl _),jhY hi,?_,by rw[jfy,jbw];rfl,jvJ (by rw[List.length_take];omega),jvJ (by rw[List.length_take,List.length_drop];omega)⟩
 rw[jgq,<-List.map_drop,jT (by rw[jbw,List.length_drop];omega)]
theorem jxa(u v:List (Xb×T))(n:Xb)(t:T):jgo (jgo (u.map bc) [[sv n,sv t.name,tms t.args]]) (v.map bc)=(u++[(n,t)]++v).map bc:=by
 rw[jv,jv];rfl
theorem jxc(u:List (Xb×T))(n:Xb)(t:T):(jgo (u.map bc) [[sv n,sv t.name,tms t.args]]).length=u.length+1:=by
 simp[jgo]
theorem put_eq(u:List (Xb×T))(hl:u.length<=1000)(n:Xb)(t:T)(ht:tsz t<=1048576):∃u',u'.length<=u.length+1/\(∀p∈u',p∈u\/p=(n,t))/\jyL (sv n) (sv t.name) (u.map bc) (t.args.map jdd)=some (.top,[sbs u']):=by
 have e1:=jkL t ht;have key:=upto (P:=λi=>∃j,j<=u.length/\jmD (sv n) (vi i) (sv t.name) (u.map bc) (t.args.map jdd) []=some (.top,[sbs (u.take j++[(n,t)]++u.drop j)])) (n:=u.length) ?_ ?_ 0 (Nat.zero_le _)
 .rw [jFE];by_cases h:t.name=n
  .refine ⟨u,by omega,λp hp=>Or.inl hp,?_⟩;simp only[evz,h]
  .obtain ⟨j,hj,e⟩:=key;have e:jmD (sv n) (vi 0) (sv t.name) (u.map bc) (t.args.map jdd) []=some (.top,[sbs (u.take j++[(n,t)]++u.drop j)]):=e;refine⟨u.take j++[(n,t)]++u.drop j,by rw[yM,yM,List.length_take,List.length_drop,List.length_singleton];omega,λp hp=>?_,?_⟩
   .rw [Yo,Yo,jU]at hp;rcases hp with(hp|hp)|hp
    .exact Or.inl (JI hp)
    .exact Or.inr hp
    .exact Or.inl (List.mem_of_mem_drop hp)
   .simp only[evz,h,e]
 .refine ⟨u.length,jl _,?_⟩;obtain⟨k1,k2,k3,k4,k5,k6,k7,k8,k9⟩:=jxb u hl u.length (jl _);have m1:=jxa (u.take u.length) (u.drop u.length) n t;have m2:=jxc (u.take u.length) n t;rw[jsp];simp only[evz,jun,k1,k2,k3,k4,k5,k6,k7,jhJ,Nat.sub_zero,jfO,e1];generalize hB:JY _ _ _=B;have hB':B=some (.agg [sv n,sv t.name,tms t.args]):=by rw[<-hB];kernel_rfl
  rw[hB'];simp only[evz,k3,k8,k9,m1,m2]
 .intro i hi ih;have hlt:(i:Int)<((u.length:Nat):Int):=by omega
  have h5:=jef hi (by show u.length<=9223372036854775807;omega)
  have x1:pIx u.length (vi ((i:Nat):Int))=some i:=jg7 hi;have x2:jec (u.map bc) i 0=some (sv u[i].1):=by unfold jec;simp[hi]
  cases hs:sLt u[i].1 n
  .refine ⟨i,by omega,?_⟩;obtain⟨k1,k2,k3,k4,k5,k6,k7,k8,k9⟩:=jxb u hl i (by omega);have m1:=jxa (u.take i) (u.drop i) n t;have m2:=jxc (u.take i) n t;rw[jsp];simp only[evz,hlt,x1,x2,hs,jun,k1,k2,k3,k4,k5,k6,k7,jhJ,Nat.sub_zero,jfO,e1];generalize hB:JY _ _ _=B;have hB':B=some (.agg [sv n,sv t.name,tms t.args]):=by rw[<-hB];kernel_rfl
   rw[hB'];simp only[evz,k3,k8,k9,m1,m2]
  .obtain ⟨j,hj,e⟩:=ih;refine⟨j,hj,?_⟩;rw[jsp];simp only[evz,hlt,x1,x2,hs,h5,e]
section
variable{code:Xi}(hb:By code)
include hb
theorem jkT(a s:Int)(h0:0<=a)(h1:a<=999960000):∃a' s' u,a<=a'/\a'<=a+1000/\u.length<=4/\Sz 192 u/\jvY (bts code) (vi a) (vu s)=some (.top,[bts code,vi a',vu s',sb u]):=by
 have key:=upto (P:=λi=>∀(u:List (Xb×T))(a s:Int),0<=a->a<=999961000-200*((4:Int)-(i:Int))->u.length<=i->Sz 192 u-> ∃a' s' u',a<=a'/\a'<=a+200*((4:Int)-(i:Int))/\u'.length<=4/\Sz 192 u'/\jmB (vi 4) (vi i) (bts code) (vi a) (vu s) ([[85],[88],[89],[90]].map cs) [] (u.map bc)=some (.top,[bts code,vi a',vu s',sb u'])) (n:=4) ?_ ?_ 0 (Nat.zero_le _)
 .obtain ⟨a',s',u,q1,q2,q3,q4,e⟩:=key [] a s h0 (by omega) (by simp) ⟨by simp,by simp⟩;refine⟨a',s',u,q1,by omega,q3,q4,?_⟩;rw[jFu];exact e
 .intro u a s h0 h1 hl hu;refine⟨a,s,u,by omega,by omega,hl,hu,?_⟩;have n4:((4:Nat):Int)=4:=rfl;rw[jwR];simp only[evz,n4]
 .intro i hi ih u a s h0 h1 hl hu;have hlt:(i:Int)<4:=by omega
  have h5:ck ((i:Int)+1)=some (vi ((i+1:Nat):Int)):=jeY (by omega) (by omega);obtain⟨a1,s1,b,q1,q2,e1⟩:=jhV hb 2 (by decide) (by decide) a s h0 (by omega);have hi4:i<([[85],[88],[89],[90]]:Xa).length:=hi;have x1:pIx ([[85],[88],[89],[90]]:Xa).length (vi ((i:Nat):Int))=some i:=jg7 hi4;obtain⟨nm,hnm,x2⟩:∃nm:Xb,nm.length<=1/\jec (([[85],[88],[89],[90]]:Xa).map cs) i 0=some (sv nm):=by
   match i,hi with
   |0,_=>exact⟨[85],by decide,rfl⟩
   |1,_=>exact⟨[88],by decide,rfl⟩
   |2,_=>exact⟨[89],by decide,rfl⟩
   |3,_=>exact⟨[90],by decide,rfl⟩
  rw[jwR];generalize ([[85],[88],[89],[90]]:Xa)=l at *;cases b with
  |true=>
   obtain⟨a2,s2,t,r1,r2,r3,e2⟩:=jlR hb a1 s1 (by omega) (by omega);obtain⟨u',v1,v2,e3⟩:=put_eq u (by omega) nm t (by omega);have hu':Sz 192 u':=⟨by omega,λp hp=>by
    rcases v2 p hp with h|h
    .exact hu.2 p h
    .rw [h];exact⟨by show nm.length<=192;omega,r3.1⟩⟩
   obtain⟨a3,s3,u3,w1,w2,w3,w4,e4⟩:=ih u' a2 s2 (by omega) (by omega) (by omega) hu';have x3:hR 3 (A.top,[sbs u']) 0=some (u'.map bc):=by simp[hR]
   refine⟨a3,s3,u3,by omega,by omega,w3,w4,?_⟩;simp only[evz,hlt,x1,x2,e1,e2,List.getElem?_cons_zero,List.getElem?_cons_succ,jhF,e3,x3,h5,e4]
  |false=>
   obtain⟨a3,s3,u3,w1,w2,w3,w4,e4⟩:=ih u a1 s1 (by omega) (by omega) (by omega) hu;refine⟨a3,s3,u3,by omega,by omega,w3,w4,?_⟩;simp only[evz,hlt,x1,x2,e1,List.getElem?_cons_zero,List.getElem?_cons_succ,jhF,h5,e4]
end
abbrev S3:Xa:=[[88],[89],[90]]
theorem jGj:∀t:T,okT t=true->VIn S3 t->nmT t=true:=by
 refine T.ind λt ih hk hv=>?_;rw[jhp]at hk;unfold VIn at hv;rw[jh0]at hv;rw[jvE];cases h:jdc t.name with
 |true=>
  rw[h,jc6 rfl]at hk hv;have h1:=hv t.name (by simp);have h2:jkl t.name=true:=by
   unfold jkl;simp only[yN,jby,or_false]at h1;rcases h1 with e|e|e<;>rw[e]<;>decide
  rw[h2,List.isEmpty_iff.1 hk];rfl
 |false=>
  rw[h,ko Bool.false_ne_true]at hk hv;simp only[Yn]at hk;have h2:jkl t.name=true:=by unfold jkl;rw[h];rfl
  have h3:∀us:Xg,(∀u∈us,u∈t.args)->(∀x∈jgR us,x∈S3)->jm6 us=true->jjM us=true:=by
   intro us;induction us with
   |nil=>intro _ _ _;rfl
   |cons u us ih2=>
    intro hm hx hk;rw[jm6,Yn]at hk;rw[jgR]at hx;rw[jjM,ih u (hm u (by simp)) hk.1 (λx h=>hx x (jbv _ h)),ih2 (λv h=>hm v (by simp[h])) (λx h=>hx x (JL _ h)) hk.2];rfl
  rw[h2,h3 t.args (λ_ h=>h) hv hk.2.2];rfl
def GT(N:Nat)(t:T):Prop:=okT t=true/\nodes t<=N/\VIn S3 t
theorem GT.valid{N:Nat}(hN:N<=8){t:T}(h:GT N t):jgQ t=true/\tsz t<=80:=by
 have h1:=jnK t h.1;have h2:=jvl t;have h3:=h.2.1;refine⟨?_,by omega⟩;unfold jgQ jfs;rw[h.1,decide_eq_true (show nodes t<=30 by omega),decide_eq_true (show dep t<=8 by omega)];rfl
theorem GT.nm{N:Nat}{t:T}(h:GT N t):nmT t=true:=jGj t h.1 h.2.2
theorem GT.le{M N:Nat}(h:M<=N){t:T}(ht:GT M t):GT N t:=⟨ht.1,ZD ht.2.1 h,ht.2.2⟩
theorem GT.leaf{w:Xb}(h:w∈([[88],[89],[90],[97],[98]]:Xa)):GT 1 (.mk w []):=by
 simp only[yN,jby,or_false]at h;refine⟨?_,jl _,?_⟩
 .rcases h with rfl|rfl|rfl|rfl|rfl<;>decide
 .intro x hx;rw[jh0]at hx;rcases h with rfl|rfl|rfl|rfl|rfl<;>simp[jdc,upc,inB,T.name,T.args,jgR]at hx<;>simp[hx]
theorem GT.app{n:Xb}{us:Xg}{N:Nat}(hv:jdc n=false)(hs:jhu n=true)(hl:us.length<=4)(h:∀u∈us,okT u=true/\VIn S3 u)(hN:1+jdi us<=N):GT N (.mk n us):=by
 refine⟨?_,?_,?_⟩
 .rw [jhp];show(if jdc n then _ else jhu n && (decide (us.length<=4) && jm6 us))=true;rw[hv,ko Bool.false_ne_true,hs,decide_eq_true hl,Bool.true_and,Bool.true_and,jiu,jE];exact λu hu=>(h u hu).1
 .rw [jfj];exact hN
 .intro x hx;rw[jh0]at hx;have hx:x∈(if jdc n then[n]else jgR us):=hx;rw[hv,ko Bool.false_ne_true]at hx;have:∀us:Xg,(∀u∈us,VIn S3 u)->x∈jgR us->x∈S3:=by
   intro us;induction us with
   |nil=>intro _ h;cases h
   |cons u us ih=>
    intro h hx;rw[jgR]at hx;rcases Yo.1 hx with hx|hx
    .exact h u (by simp) x hx
    .exact ih (λv hv=>h v (by simp[hv])) hx
  exact this us (λu hu=>(h u hu).2) hx
def GD(code:Xi)(N q:Nat)(a:Int)(o:Xe):Prop:=∃a' s' t,a<=a'/\a'<=a+(q:Nat)/\GT N t/\o=some (.top,[bts code,vi a',vu s',sv (T.name t),tms (T.args t)])
section
variable{code:Xi}(hb:By code)
include hb
theorem jpK(a s:Int)(h0:0<=a)(h1:a<=1000000000):∃a' s' w,GT 1 (.mk w [])/\a<=a'/\a'<=a+1/\ji8 (bts code) (vi a) (vu s) [[sv [88]],[sv [89]],[sv [90]],[sv [97]],[sv [98]],[sv [88]],[sv [97]]]=some (.top,[bts code,vi a',vu s',sv w]):=by
 obtain⟨a',s',w,hw,q1,q2,e⟩:=jtZ hb [[88],[89],[90],[97],[98],[88],[97]] (by decide) (by decide) a s h0 h1;refine⟨a',s',w,GT.leaf ?_,q1,q2,e⟩;simp only[yN,jby,or_false]at hw⊢;rcases hw with h|h|h|h|h|h|h<;>simp[h]
theorem jqR(dep:Int)(hd:dep<=1)(a s:Int)(h0:0<=a)(h1:a<=999999000):GD code 1 1 a (jiS (vi dep) (bts code) (vi a) (vu s)):=by
 obtain⟨a1,s1,w,hw,q1,q2,e⟩:=jpK hb a s h0 (by omega);refine⟨a1,s1,.mk w [],q1,by omega,hw,?_⟩;rw[jlc];simp only[evz,hd,e,List.getElem?_cons_zero,List.getElem?_cons_succ,jhF];rfl
theorem jxP(N q:Nat)(d:Nat)(h1d:1<=d)(hd:d<=10)(ih:∀a s:Int,0<=a->a<=999999000->GD code N q a (jiS (vi (d:Nat)) (bts code) (vi a) (vu s)))(hq:q<=300)(a s:Int)(h0:0<=a)(h1:a<=999998000):GD code (2*N+1) (2*q+3) a (jiS (vi ((d+1:Nat):Int)) (bts code) (vi a) (vu s)):=by
 have hle:¬((d+1:Nat):Int)<=1:=by omega
 obtain⟨a1,s1,b1,q1,q2,e1⟩:=jhV hb 3 (by decide) (by decide) a s h0 (by omega);cases b1 with
 |true=>
  obtain⟨a2,s2,w,hw,r1,r2,e⟩:=jpK hb a1 s1 (by omega) (by omega);refine⟨a2,s2,.mk w [],by omega,by omega,hw.le (by omega),?_⟩;rw[jlc];simp only[evz,hle,e1,e,List.getElem?_cons_zero,List.getElem?_cons_succ,jhF];rfl
 |false=>
  obtain⟨a2,s2,b2,r1,r2,e2⟩:=jhV hb 2 (by decide) (by decide) a1 s1 (by omega) (by omega);have c1:ck (((d+1:Nat):Int)-1)=some (vi (d:Nat)):=by rw[show((d+1:Nat):Int)-1=(d:Nat) by omega];exact jeY (by omega) (by omega)
  obtain⟨a3,s3,t3,u1,u2,u3,e3⟩:=ih a2 s2 (by omega) (by omega);cases b2 with
  |true=>
   refine⟨a3,s3,.mk [102] [t3],by omega,by omega,GT.app (by decide) (by decide) (by simp) (λu hu=>?_) ?_,?_⟩
   .simp only[jU]at hu;subst hu;exact⟨u3.1,u3.2.2⟩
   .have:=u3.2.1;simp only[jdi];omega
   rw[jlc];simp only[evz,hle,e1,e2,c1,e3,List.getElem?_cons_zero,List.getElem?_cons_succ,jhF];rw[<-jC4];rfl
  |false=>
   obtain⟨a4,s4,t4,v1,v2,v3,e4⟩:=ih a3 s3 (by omega) (by omega);refine⟨a4,s4,.mk [103] [t3,t4],by omega,by omega,GT.app (by decide) (by decide) (by simp) (λu hu=>?_) ?_,?_⟩
   .simp only[yN,jby,or_false]at hu;rcases hu with rfl|rfl
    .exact ⟨u3.1,u3.2.2⟩
    .exact ⟨v3.1,v3.2.2⟩
   .have:=u3.2.1;have:=v3.2.1;simp only[jdi];omega
   rw[jlc];simp only[evz,hle,e1,e2,c1,e3,e4,List.getElem?_cons_zero,List.getElem?_cons_succ,jhF];rw[<-juG];rfl
theorem jjq(a s:Int)(h0:0<=a)(h1:a<=999998000):GD code 3 5 a (jiS (vi 2) (bts code) (vi a) (vu s)):=
 jxP hb 1 1 1 (by decide) (by decide) (λa s h0 h1=>jqR hb 1 (by decide) a s h0 h1) (by decide) a s h0 h1
theorem jqS(a s:Int)(h0:0<=a)(h1:a<=999997000):GD code 7 13 a (jiS (vi 3) (bts code) (vi a) (vu s)):=by
 obtain⟨a1,s1,b1,q1,q2,e1⟩:=jhV hb 3 (by decide) (by decide) a s h0 (by omega);have hle:¬(3:Int)<=1:=by decide
 cases b1 with
 |true=>
  obtain⟨a2,s2,w,hw,r1,r2,e⟩:=jpK hb a1 s1 (by omega) (by omega);refine⟨a2,s2,.mk w [],by omega,by omega,hw.le (by omega),?_⟩;rw[jlc];simp only[evz,hle,e1,e,List.getElem?_cons_zero,List.getElem?_cons_succ,jhF];rfl
 |false=>
  obtain⟨a2,s2,b2,r1,r2,e2⟩:=jhV hb 2 (by decide) (by decide) a1 s1 (by omega) (by omega);have c1:ck ((3:Int)-1)=some (vi 2):=jeY (n:=3-1) (by decide) (by decide);obtain⟨a3,s3,t3,u1,u2,u3,e3⟩:=jjq hb a2 s2 (by omega) (by omega);cases b2 with
  |true=>
   refine⟨a3,s3,.mk [102] [t3],by omega,by omega,GT.app (by decide) (by decide) (by simp) (λu hu=>?_) ?_,?_⟩
   .simp only[jU]at hu;subst hu;exact⟨u3.1,u3.2.2⟩
   .have:=u3.2.1;simp only[jdi];omega
   rw[jlc];simp only[evz,hle,e1,e2,c1,e3,List.getElem?_cons_zero,List.getElem?_cons_succ,jhF];rw[<-jC4];rfl
  |false=>
   obtain⟨a4,s4,t4,v1,v2,v3,e4⟩:=jjq hb a3 s3 (by omega) (by omega);refine⟨a4,s4,.mk [103] [t3,t4],by omega,by omega,GT.app (by decide) (by decide) (by simp) (λu hu=>?_) ?_,?_⟩
   .simp only[yN,jby,or_false]at hu;rcases hu with rfl|rfl
    .exact ⟨u3.1,u3.2.2⟩
    .exact ⟨v3.1,v3.2.2⟩
   .have:=u3.2.1;have:=v3.2.1;simp only[jdi];omega
   rw[jlc];simp only[evz,hle,e1,e2,c1,e3,e4,List.getElem?_cons_zero,List.getElem?_cons_succ,jhF];rw[<-juG];rfl
end
theorem jwv{u v:T}(hu:GT 7 u)(hv:GT 7 v):R3 S3 (.mk [61] [u,v]):=by
 have h1:=(hu.valid (by decide)).2;have h2:=(hv.valid (by decide)).2;exact⟨rfl,rfl,by unfold Tz;rw[jif];simp only[yv,jgS,jhv];omega,⟨hu.1,hu.2.2⟩,hv.1,hv.2.2⟩
def ED(code:Xi)(q:Nat)(a:Int)(o:Xe):Prop:=∃a' s' r,a<=a'/\a'<=a+(q:Nat)/\R3 S3 r/\(tsz r<=400/\nodes r<=15)/\o=some (.top,[bts code,vi a',vu s',tm r])
theorem jww{u v:T}(hu:GT 7 u)(hv:GT 7 v):tsz (.mk [61] [u,v])<=400/\nodes (.mk [61] [u,v])<=15:=by
 have h1:=(hu.valid (by decide)).2;have h2:=(hv.valid (by decide)).2;have h3:=hu.2.1;have h4:=hv.2.1;refine⟨by rw[jif];simp only[yv,jgS,jhv];omega,?_⟩;rw[jfj];show 1+jdi [u,v]<=15;simp only[jdi];omega
theorem jsN(u v:T):tm (.mk [61] [u,v]) = .agg [sv [61],.sl 2 [[sv u.name,tms u.args],[sv v.name,tms v.args]]]:=by
 show A.agg [sv [61],tms [u,v]]=_;rw[juG]
section
variable{code:Xi}(hb:By code)
include hb
theorem jvp(a s:Int)(h0:0<=a)(h1:a<=999990000):ED code 30 a (jyI (bts code) (vi a) (vu s)):=by
 obtain⟨a1,s1,t,q1,q2,q3,e1⟩:=jqS hb a s h0 (by omega);obtain⟨a2,s2,u,r1,r2,r3,e2⟩:=jjq hb a1 s1 (by omega) (by omega);obtain⟨a3,s3,b,u1,u2,e3⟩:=jhV hb 3 (by decide) (by decide) a2 s2 (by omega) (by omega);obtain⟨t1,t2⟩:=q3.valid (by decide);have fin:∀(v:T),GT 7 v-> ∃x:Int,G 37 [.agg [sv t.name,tms t.args],.agg [sv v.name,tms v.args]]=some (vi x,[]):=by
  intro v hv;obtain⟨v1,v2⟩:=hv.valid (by decide);have z1:Tz t:=by unfold Tz;omega
  have z2:Tz v:=by unfold Tz;omega
  obtain⟨x,e,_⟩:=jt3 t v z1.wf z2.wf z1 z2 t1 v1;exact⟨x,e⟩
 rw[jFq];cases b with
 |true=>
  obtain⟨a4,s4,w,hw,v1,v2,e4⟩:=jtZ hb [[97],[98],[88],[89]] (by decide) (by decide) a3 s3 (by omega) (by omega);have e4:ji8 (bts code) (vi a3) (vu s3) [[sv [97]],[sv [98]],[sv [88]],[sv [89]]]=some (.top,[bts code,vi a4,vu s4,sv w]):=e4;have hG:GT 1 (.mk w []):=by
   refine GT.leaf ?_;simp only[yN,jby,or_false]at hw⊢;rcases hw with h|h|h|h<;>simp[h]
  have hG:=hG.le (N:=7) (by decide);obtain⟨x,e5⟩:=fin _ hG;have e5:G 37 [.agg [sv t.name,tms t.args],.agg [sv w,.sl 2 []]]=some (vi x,[]):=e5;by_cases hx:x=3
  .refine ⟨a4,s4,.mk [61] [.mk w [],t],by omega,by omega,jwv hG q3,jww hG q3,?_⟩;rw[jsN];simp only[evz,e1,e2,e3,e4,e5,hx,List.getElem?_cons_zero,List.getElem?_cons_succ,jhF];rfl
  .refine ⟨a4,s4,.mk [61] [t,.mk w []],by omega,by omega,jwv q3 hG,jww q3 hG,?_⟩;rw[jsN];simp only[evz,e1,e2,e3,e4,e5,hx,List.getElem?_cons_zero,List.getElem?_cons_succ,jhF];rfl
 |false=>
  have hG:=r3.le (N:=7) (by decide);obtain⟨x,e5⟩:=fin _ hG;by_cases hx:x=3
  .refine ⟨a3,s3,.mk [61] [u,t],by omega,by omega,jwv hG q3,jww hG q3,?_⟩;rw[jsN];simp only[evz,e1,e2,e3,e5,hx,List.getElem?_cons_zero,List.getElem?_cons_succ,jhF]
  .refine ⟨a3,s3,.mk [61] [t,u],by omega,by omega,jwv q3 hG,jww q3 hG,?_⟩;rw[jsN];simp only[evz,e1,e2,e3,e5,hx,List.getElem?_cons_zero,List.getElem?_cons_succ,jhF]
end
def RT:T:= .mk [61] [.mk [102] [.mk [88] []],.mk [88] []]
def LD(code:Xi)(q:Nat)(a:Int)(o:Xe):Prop:=∃a' s' rs,a<=a'/\a'<=a+(q:Nat)/\rs.length<=14/\(∀r∈rs,R3 S3 r/\tsz r<=400)/\o=some (.top,[bts code,vi a',vu s',tms rs])
section
variable{code:Xi}(hb:By code)
include hb
end
open Go Go.RowKit Go.ChangeShapes Go.Deep Go.Proofs.YtjgmjdidbgcljaaGreatDoor.Abs
section
variable{P:Program}{t:Nat}{H:Type}{enc:TypeId×Value->H}{w:World}{base:Nat}{spare:Nat->Bool}{held:Bool}{fuel:Nat}{cs:Xh}{x:DataW H×List MemPlace}
end
abbrev clc(c:Cls):Xd:=[.sl 3 (c.map ltc)]
structure Stp where
 rule:Int
 par:Xi
 whr:Xi
 cls:Cls
abbrev stc(s:Stp):Xd:=[vi s.rule,ints s.par,ints s.whr,.sl 3 (s.cls.map ltc)]
abbrev stm(s:Stp):A:= .agg [vi s.rule,ints s.par,ints s.whr,.sl 3 (s.cls.map ltc)]
structure Prf where
 ax:List Cls
 st:List Stp
abbrev cls(l:List Cls):A:= .sl 1 (l.map clc)
abbrev jC2(l:List Stp):A:= .sl 4 (l.map stc)
abbrev prc(p:Prf):Xd:=[cls p.ax,jC2 p.st]
abbrev prm(p:Prf):A:= .agg [cls p.ax,jC2 p.st]
structure Sch where
 prf:Prf
 act:Xi
 pas:Xi
 lost:Bool
abbrev scc(s:Sch):Xd:=[cls s.prf.ax,jC2 s.prf.st,ints s.act,ints s.pas,vb s.lost]
abbrev scm(s:Sch):A:= .agg [cls s.prf.ax,jC2 s.prf.st,ints s.act,ints s.pas,vb s.lost]
def iwf(l:Xi):Prop:=(∀x∈l,I64 x)/\l.length<=9223372036854775807
def cwf(c:Cls):Prop:=(∀l∈c,twf l.2)/\c.length<=9223372036854775807
def swf(s:Stp):Prop:=I64 s.rule/\iwf s.par/\iwf s.whr/\cwf s.cls
def pwf(p:Prf):Prop:=((∀c∈p.ax,cwf c)/\p.ax.length<=9223372036854775807)/\((∀s∈p.st,swf s)/\p.st.length<=9223372036854775807)
def jIW(s:Sch):Prop:=pwf s.prf/\iwf s.act/\iwf s.pas
end Go.Proofs.YtjgmjdidbgcljaaGreatDoor
